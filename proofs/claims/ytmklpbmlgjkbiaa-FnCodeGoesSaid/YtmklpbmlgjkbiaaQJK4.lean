/- What the row of JK rests on, part 5. -/
import Derived.Test.YtmklpbmlgjkbiaaProg
import Derived.Below
import Derived.Deep.Draws
import Derived.Deep.AppendLies
import Derived.Maps.AppendAt
import Derived.OwnWalk
import Derived.Laws.BytesArg
import Derived.Laws.MakeOwn
import Derived.Laws.OwnMore
import Derived.Deep.OwnRows
import Derived.Tactics
import Derived.Lib.ConvBytes
import Derived.Laws.Slices
import Derived.WalkKit
import Derived.KernelRfl
import Derived.RowKit3
import Derived.Deep.LoopGhost
import Derived.Deep.QuietTactic
import Derived.BigQuiet
import Derived.WideLaws
import Derived.Deep.DeepCutAuto
import Derived.Deep.CutBlock
import Derived.Deep.RegionHeld3
import Derived.Laws.Rows
import Derived.Lib.AppendStr
import Derived.ArgAppend
import Derived.Laws.IdiomCopy
import Derived.OrdersHeld
import Derived.Laws.BitsLemmas
import Derived.RowKit
import Derived.Laws.StructEq
import Derived.Deep.RegionWith
import Derived.Lib.Bytealg
import Derived.Shelf.Strings.Search3
import Derived.WalkSpells
import Derived.Lib.OthersKept
import Derived.Lib.Hide
import Derived.WalkSmall
import Derived.Laws.EntriesVeiled
import Derived.RegionTactic
import Derived.Test.YtmklpbmlgjkbiaaQJK3
set_option linter.unusedVariables false
set_option linter.unusedSimpArgs false
set_option maxHeartbeats 8000000
set_option maxRecDepth 100000
section
namespace Go.Proofs.Ytmklpbmlgjkbiaa.PS
open Go.RowKit Go.Proofs.YtmklpbmlgjkbiaaW.PrintWords Go.Proofs.YtmklpbmlgjkbiaaW.PrintLast Go.Proofs.YtmklpbmlgjkbiaaW.PrintMore
attribute [local go_sem] max2_int min2_int max_two min_two max_three min_three max_four min_four   -- for this text's walks alone
theorem ie_ne (l : List UInt8) : (l != []) = !l.isEmpty := by cases l <;> rfl
def spec_l71Random.l0 : Nat → Int → List (S29) → Int → List Int → Int → Option ((List (S29)) × Int)
 | 0, _, _, _, _, _ => none
 | k + 1, x3, x4, x5, x1000, x1001 => if x5 < x3 then ((spec_l71Op.f k x1000 x1001 x3).bind fun bt411 => (if x4.length < 2932031007402 then (spec_l71Random.l0 k x3 (x4 ++ [(⟨bt411.1, bt411.2.1, bt411.2.2.1, bt411.2.2.2.1, (⟨bt411.2.2.2.2.1, bt411.2.2.2.2.2.1⟩ : S27)⟩ : S29)]) (wrap64 (x5 + 1)) x1000 bt411.2.2.2.2.2.2) else (none))) else ((spec_l6Rd_pick.f k x1000 x1001 x3).bind fun bt421 => ((spec_l6Rd_pick.f k x1000 bt421.2 3).bind fun bt424 => (if bt424.1 = 0 then (if 0 ≤ (wrap64 (x3 - 1)) then (if (wrap64 (x3 - 1)) < (x4.length : Int) then (some ((x4.set ((wrap64 (x3 - 1)) : Int).toNat (⟨14, 0, 0, 0, (⟨0, 0⟩ : S27)⟩ : S29)), bt424.2)) else (none)) else (none)) else (if 0 ≤ (wrap64 (x3 - 1)) then (if (wrap64 (x3 - 1)) < (x4.length : Int) then (some ((x4.set ((wrap64 (x3 - 1)) : Int).toNat (⟨9, 0, 0, bt421.1, (⟨0, 0⟩ : S27)⟩ : S29)), bt424.2)) else (none)) else (none)))))
def spec_l71Random.f (k : Nat) (s0_0 : List Int) (s0_1 : Int) : Option ((List (S29)) × Int) := (spec_l6Rd_pick.f k s0_0 s0_1 8).bind fun bt406 => (spec_l71Random.l0 k (wrap64 (3 + bt406.1)) (([] : List (S29))) 0 s0_0 bt406.2)
theorem spec_l71Random.calls (k : Nat) (g : Nat) (s0_0 : List Int) (s0_1 : Int) (r1 : List (S29)) (r2 : Int) (w0 w : World) (hI : IsS84 w0 w g s0_0 s0_1) (hB : Below w0.heap.size w0 w) (h : spec_l71Random.f k s0_0 s0_1 = some (r1, r2)) :
  Calls Try.prog 86 #[.pointer (some ⟨g, 0, none⟩)] w fun e w' => ∃ v0_ : Value, e = .returned (v0_) ∧ Kd.R k29 29 w' w.heap.size (fun _ => True) v0_ r1 ∧ IsS84 w0 w' g s0_0 r2 ∧ Below w0.heap.size w0 w' ∧ KeepBut w w' g none := by
 have hu29 := Try.underlying29
 have HI0 := Aside0.mk hI
 have HK := Aside0.mk (KeepBut.refl w g none)
 have HL := Aside0.mk hB.size
 clear hI
 have HW0 := Aside0.mk hB.size
 have HB := Aside0.mk hB
 clear hB
 have H : ((spec_l6Rd_pick.f k s0_0 s0_1 8).bind fun bt406 => (spec_l71Random.l0 k (wrap64 (3 + bt406.1)) (([] : List (S29))) 0 s0_0 bt406.2)) = some (r1, r2) := h
 clear h
 replace H := Option.bind_eq_some_iff.mp H
 obtain ⟨⟨t406, t407⟩, A20, H⟩ := H
 replace H : (spec_l71Random.l0 k (wrap64 (3 + t406)) (([] : List (S29))) 0 s0_0 t407) = some (r1, r2) := H
 have A2 := Aside0.mk A20
 clear A20
 obtain ⟨y408, hy408⟩ : ∃ y_ : List (S29), y_ = (([] : List (S29))) := ⟨_, rfl⟩
 replace H : (spec_l71Random.l0 k (wrap64 (3 + t406)) y408 0 s0_0 t407) = some (r1, r2) := by first | (rw [hy408]; with_reducible exact H) | (have H2_ := (Option.bind_some _ _).symm.trans H; rw [hy408]; with_reducible exact H2_) | (have H2_ := (Option.bind_some _ _).symm.trans H; with_reducible exact H2_) | with_reducible exact H | (rw [hy408]; exact H) | exact H
 have Ny408 := Aside0.mk hy408
 clear hy408
 have H' := Aside0.mk H
 clear H
 go_enter Try.func86, Try.ntmps86
 go_wp2_with (first | ((with_reducible refine gate_callee (f := 71) rfl ?_); refine goesL_ (some 8) rfl rfl Try.func71 (by kernel_rfl) rfl #[.pointer (some ⟨g, 0, none⟩), .int .i64 8] rfl (by (try simp only [List.map_toArray, List.map_cons, List.map_nil]) <;> rfl) ?_; (with_reducible refine (spec_l6Rd_pick.calls k g s0_0 s0_1 8 t406 t407 w0 _ ?side1 ?side2 A2.out).mono ?_); (case side1 => repeat (with_reducible first | exact HI0.out | apply sA | apply sN | apply sD | apply sS)); (case side2 => repeat (with_reducible first | exact HB.out | apply bA | apply bN | apply b1 | refine below_set ?_ (IsS84.ge HI0.out))); rintro e w3 ⟨rfl, hi, hb, hk⟩; refine ⟨_, rfl, ?_⟩; replace HK := Aside0.mk (KeepBut.trans (by repeat (with_reducible first | exact HK.out | apply pS | apply pN | apply pD | apply pA)) hk (.inl rfl)); replace HB := Aside0.mk (hb); replace HI0 := Aside0.mk (hi); (try clear hb); (try clear hb2); (try clear hk); (try clear hi)) | ((with_reducible refine gate_dst (N := 10) rfl ?_); refine Kd.R_lit k29 _ 29 ?hg (N := 10) ?hd (xs := ([] : List (S29))) (inner := []) (ok := fun _ => True) (okp := fun _ => True) ?hr ?hp (fun _ hk => hk) trivial (Below.refl _ _) (Nat.le_refl _) (by simp) ?_; (case hd => rfl); (case hg => rfl); (case hr => first | (go_simp; done) | (go_simp; rfl)); (case hp => exact (Reps.none _ _)); intro v409 w4 ho5 hb hg_ hnew_; clear hg_ hnew_; (first | rw [← Ny408.out] at ho5 | (simp only [Int.reduceToNat] at ho5; rw [← Ny408.out] at ho5)); have n0_ := Aside0.mk (Kd.R_lower ho5 (keep_size (w := w) (g := g) (row := none) (by repeat (with_reducible first | exact HK.out | apply pS | apply pN | apply pD | apply pA)))); have n1_ := Aside0.mk (IsS84.below (by repeat (with_reducible first | exact HI0.out | apply sA | apply sN | apply sD | apply sS)) hb); have n2_ := Aside0.mk (KeepBut.trans (by repeat (with_reducible first | exact HK.out | apply pS | apply pN | apply pD | apply pA)) (KeepBut.of_below hb g none) (.inl rfl)); have n3_ := Aside0.mk (below_step (by repeat (with_reducible first | exact HB.out | apply bA | apply bN | apply b1 | refine below_set ?_ (IsS84.ge HI0.out))) hb); clear HI0; clear HK; clear HB; have HO410 := n0_; have HI0 := n1_; have HK := n2_; have HB := n3_; clear n0_ n1_ n2_ n3_; clear hb ho5))
 go_loopg [4, 5] k (fun kq v4 v5 w' => ∃ (x4_1 : List (S29)) (x5_1 : Int) (x1001_1 : Int), v5 = .int .i64 x5_1 ∧ Aside0 (spec_l71Random.l0 kq (wrap64 (3 + t406)) x4_1 x5_1 s0_0 x1001_1 = some (r1, r2)) ∧ Aside0 (kq ≤ k) ∧ Aside0 (Kd.R k29 29 w' w.heap.size (fun _ => True) v4 x4_1) ∧ Aside0 (IsS84 w0 w' g s0_0 x1001_1) ∧ Aside0 (KeepBut w w' g none) ∧ Aside0 (Below w0.heap.size w0 w'))
 case atStart => exact ⟨(y408), (0), (t407), (by first | rfl | (simp; done) | (simp [*]; done)), H', ⟨Nat.le_refl _⟩, ⟨by exact rU HO410.out⟩, ⟨by repeat (with_reducible first | exact HI0.out | apply sA | apply sN | apply sD | apply sS)⟩, ⟨by repeat (with_reducible first | exact HK.out | apply pS | apply pN | apply pD | apply pA)⟩, ⟨by repeat (with_reducible first | exact HB.out | apply bA | apply bN | apply b1 | refine below_set ?_ (IsS84.ge HI0.out))⟩⟩
 case round =>
  clear H'
  try clear p2
  obtain ⟨x4_1, x5_1, x1001_1, rfl, HA, HK1, HO_4, HI0, HK, HB⟩ := hrel
  cases gk with
  | zero => exact absurd HA.out (by simp [spec_l71Random.l0])
  | succ k1 =>
   have H := HA.out
   clear HA
   simp only [spec_l71Random.l0] at H
   by_cases c6 : x5_1 < (wrap64 (3 + t406))
   ·rw [if_pos c6] at H
    have c6b0 : decide (x5_1 < (wrap64 (3 + t406))) = true := decide_eq_true c6
    clear c6
    replace H := Option.bind_eq_some_iff.mp H
    obtain ⟨⟨t411, t412, t413, t414, t415, t416, t417⟩, A70, H⟩ := H
    replace H : (if x4_1.length < 2932031007402 then (spec_l71Random.l0 k1 (wrap64 (3 + t406)) (x4_1 ++ [(⟨t411, t412, t413, t414, (⟨t415, t416⟩ : S27)⟩ : S29)]) (wrap64 (x5_1 + 1)) s0_0 t417) else (none)) = some (r1, r2) := H
    have A7 := Aside0.mk A70
    clear A70
    by_cases c8 : x4_1.length < 2932031007402
    ·rw [if_pos c8] at H
     have LMc8 := Aside0.mk c8
     clear c8
     obtain ⟨y418, hy418⟩ : ∃ y_ : List (S29), y_ = (x4_1 ++ [(⟨t411, t412, t413, t414, (⟨t415, t416⟩ : S27)⟩ : S29)]) := ⟨_, rfl⟩
     replace H : (spec_l71Random.l0 k1 (wrap64 (3 + t406)) y418 (wrap64 (x5_1 + 1)) s0_0 t417) = some (r1, r2) := by first | (rw [hy418]; with_reducible exact H) | (have H2_ := (Option.bind_some _ _).symm.trans H; rw [hy418]; with_reducible exact H2_) | (have H2_ := (Option.bind_some _ _).symm.trans H; with_reducible exact H2_) | with_reducible exact H | (rw [hy418]; exact H) | exact H
     have Ny418 := Aside0.mk hy418
     clear hy418
     have H' := Aside0.mk H
     clear H
     go_wp2_with (first | ((with_reducible refine gate_callee (f := 90) rfl ?_); refine goesL_ (some 19) rfl rfl Try.func90 (by kernel_rfl) rfl #[.pointer (some ⟨g, 0, none⟩), .int .i64 (wrap64 (3 + t406))] rfl (by (try simp only [List.map_toArray, List.map_cons, List.map_nil]) <;> rfl) ?_; (with_reducible refine (spec_l71Op.calls k1 g s0_0 x1001_1 (wrap64 (3 + t406)) t411 t412 t413 t414 t415 t416 t417 w0 _ ?side1 ?side2 A7.out).mono ?_); (case side1 => repeat (with_reducible first | exact HI0.out | apply sA | apply sN | apply sD | apply sS)); (case side2 => repeat (with_reducible first | exact HB.out | apply bA | apply bN | apply b1 | refine below_set ?_ (IsS84.ge HI0.out))); rintro e w9 ⟨rfl, hi, hb, hk⟩; refine ⟨_, rfl, ?_⟩; replace HO_4 := Aside0.mk (Kd.R_mono (Kd.R_keep (IsS84.apart (show IsS84 w0 _ g s0_0 x1001_1 from by repeat (with_reducible first | exact HI0.out | apply sA | apply sN | apply sD | apply sS)) (by exact rU HO_4.out) (by decide)) hk (fun _ h => h.2)) (fun _ h => h.1)); replace HK := Aside0.mk (KeepBut.trans (by repeat (with_reducible first | exact HK.out | apply pS | apply pN | apply pD | apply pA)) hk (.inl rfl)); replace HB := Aside0.mk (hb); replace HI0 := Aside0.mk (hi); (try clear hb); (try clear hb2); (try clear hk); (try clear hi)) | ((with_reducible refine gate_builtin (b := .append) (xs := #[.tmp 16, .tmp 20]) rfl ?_); at_builtin; refine Kd.R_append k29 w.heap.size rfl (.tmp 16) (.tmp 20) 42 29 (.agg #[(.int .i64 0), (.int .i64 0), (.int .i64 0), (.int .i64 0), (.int .i64 0), (.int .i64 0)]) 48 rfl Try.underlying42 info29 rfl (by decide) (by omega) u4 x4_1 (⟨t411, t412, t413, t414, (⟨t415, t416⟩ : S27)⟩ : S29) [.int .i64 t411, .int .i64 t412, .int .i64 t413, .int .i64 t414, .int .i64 t415, .int .i64 t416] (fun _ => True) (fun _ => False) rfl rfl ?aP (fun _ hk => hk.elim) ?aF ?aO (Below.refl _ _) ?aS ?aL ?_; (case aP => exact k29_mkM _ _ _ (⟨t411, t412, t413, t414, (⟨t415, t416⟩ : S27)⟩ : S29)); (case aF => exact (fun _ _ => trivial)); (case aO => exact (by exact rU HO_4.out)); (case aS => exact (keep_size (w := w) (g := g) (row := none) (by repeat (with_reducible first | exact HK.out | apply pS | apply pN | apply pD | apply pA)))); (case aL => have := LMc8.out; omega); intro v419 w10 ho hb hg hat; rw [← Ny418.out] at ho; have n0_ := Aside0.mk (IsS84.grown (by repeat (with_reducible first | exact HI0.out | apply sA | apply sN | apply sD | apply sS)) hg (IsS84.own_ne HI0.out HO_4.out (by decide))); have n1_ := Aside0.mk (below_weaken (by repeat (with_reducible first | exact HB.out | apply bA | apply bN | apply b1 | refine below_set ?_ (IsS84.ge HI0.out))) HL.out hb); have n2_ := Aside0.mk (KeepBut.trans (by repeat (with_reducible first | exact HK.out | apply pS | apply pN | apply pD | apply pA)) (KeepBut.of_grown hg g) (Kd.R_base2 HO_4.out)); have n3_ := Aside0.mk (ho); clear HI0; clear HB; clear HK; clear HO_4; have HI0 := n0_; have HB := n1_; have HK := n2_; have HO420 := n3_; clear n0_ n1_ n2_ n3_; clear ho hb hg hat))
     go_roundg k1
     case measure => have := HK1.out; omega
     case rel => exact ⟨(y418), (wrap64 (x5_1 + 1)), (t417), (by first | rfl | (simp; done) | (simp [*]; done)), H', ⟨by have := HK1.out; omega⟩, ⟨by exact rU HO420.out⟩, ⟨by repeat (with_reducible first | exact HI0.out | apply sA | apply sN | apply sD | apply sS)⟩, ⟨by repeat (with_reducible first | exact HK.out | apply pS | apply pN | apply pD | apply pA)⟩, ⟨by repeat (with_reducible first | exact HB.out | apply bA | apply bN | apply b1 | refine below_set ?_ (IsS84.ge HI0.out))⟩⟩
    ·rw [if_neg c8] at H
     exact absurd H (by simp)
   ·rw [if_neg c6] at H
    have c6b0 : decide (x5_1 < (wrap64 (3 + t406))) = false := decide_eq_false c6
    clear c6
    replace H := Option.bind_eq_some_iff.mp H
    obtain ⟨⟨t421, t422⟩, A110, H⟩ := H
    replace H : ((spec_l6Rd_pick.f k1 s0_0 t422 3).bind fun bt424 => (if bt424.1 = 0 then (if 0 ≤ (wrap64 ((wrap64 (3 + t406)) - 1)) then (if (wrap64 ((wrap64 (3 + t406)) - 1)) < (x4_1.length : Int) then (some ((x4_1.set ((wrap64 ((wrap64 (3 + t406)) - 1)) : Int).toNat (⟨14, 0, 0, 0, (⟨0, 0⟩ : S27)⟩ : S29)), bt424.2)) else (none)) else (none)) else (if 0 ≤ (wrap64 ((wrap64 (3 + t406)) - 1)) then (if (wrap64 ((wrap64 (3 + t406)) - 1)) < (x4_1.length : Int) then (some ((x4_1.set ((wrap64 ((wrap64 (3 + t406)) - 1)) : Int).toNat (⟨9, 0, 0, t421, (⟨0, 0⟩ : S27)⟩ : S29)), bt424.2)) else (none)) else (none)))) = some (r1, r2) := H
    have A11 := Aside0.mk A110
    clear A110
    replace H := Option.bind_eq_some_iff.mp H
    obtain ⟨⟨t424, t425⟩, A120, H⟩ := H
    replace H : (if t424 = 0 then (if 0 ≤ (wrap64 ((wrap64 (3 + t406)) - 1)) then (if (wrap64 ((wrap64 (3 + t406)) - 1)) < (x4_1.length : Int) then (some ((x4_1.set ((wrap64 ((wrap64 (3 + t406)) - 1)) : Int).toNat (⟨14, 0, 0, 0, (⟨0, 0⟩ : S27)⟩ : S29)), t425)) else (none)) else (none)) else (if 0 ≤ (wrap64 ((wrap64 (3 + t406)) - 1)) then (if (wrap64 ((wrap64 (3 + t406)) - 1)) < (x4_1.length : Int) then (some ((x4_1.set ((wrap64 ((wrap64 (3 + t406)) - 1)) : Int).toNat (⟨9, 0, 0, t421, (⟨0, 0⟩ : S27)⟩ : S29)), t425)) else (none)) else (none))) = some (r1, r2) := H
    have A12 := Aside0.mk A120
    clear A120
    by_cases c13 : t424 = 0
    ·rw [if_pos c13] at H
     have c13b0 : (t424 == 0) = true := beq_iff_eq.mpr c13
     have c13b1 : (t424 != 0) = false := bne_eq_false_iff_eq.mpr c13
     clear c13
     obtain ⟨ji14, hji14⟩ : ∃ j_ : Int, (wrap64 ((wrap64 (3 + t406)) - 1)) = j_ := ⟨_, rfl⟩
     replace H : (if 0 ≤ (ji14) then (if (ji14) < (x4_1.length : Int) then (some ((x4_1.set ((ji14) : Int).toNat (⟨14, 0, 0, 0, (⟨0, 0⟩ : S27)⟩ : S29)), t425)) else (none)) else (none)) = some (r1, r2) := by first | (rw [hji14] at H; exact H) | (simp only [hji14] at H ⊢; exact H)
     (try rw [hji14] at A11)
     (try rw [hji14] at A12)
     have hji14w : (IntKind.i64.wrap ((wrap64 (3 + t406)) - 1)) = ji14 := (i64_w _).trans hji14
     by_cases c15 : 0 ≤ (ji14)
     ·rw [if_pos c15] at H
      have c15b0 : decide (0 ≤ (ji14)) = true := decide_eq_true c15
      clear c15
      by_cases c16 : (ji14) < (x4_1.length : Int)
      ·rw [if_pos c16] at H
       have c16b0 : decide ((ji14) < (x4_1.length : Int)) = true := decide_eq_true c16
       clear c16
       obtain ⟨y426, hy426⟩ : ∃ y_ : List (S29), y_ = (x4_1.set ((ji14) : Int).toNat (⟨14, 0, 0, 0, (⟨0, 0⟩ : S27)⟩ : S29)) := ⟨_, rfl⟩
       replace H : (some (y426, t425)) = some (r1, r2) := by first | (rw [hy426]; with_reducible exact H) | (have H2_ := (Option.bind_some _ _).symm.trans H; rw [hy426]; with_reducible exact H2_) | (have H2_ := (Option.bind_some _ _).symm.trans H; with_reducible exact H2_) | with_reducible exact H | (rw [hy426]; exact H) | exact H
       have Ny426 := Aside0.mk hy426
       clear hy426
       simp only [Option.some.injEq, Prod.mk.injEq] at H
       obtain ⟨rfl, rfl⟩ := H
       go_wp2_with (first | ((with_reducible refine gate_callee (f := 71) rfl ?_); refine goesL_ (some 24) rfl rfl Try.func71 (by kernel_rfl) rfl #[.pointer (some ⟨g, 0, none⟩), .int .i64 (wrap64 (3 + t406))] rfl (by (try simp only [List.map_toArray, List.map_cons, List.map_nil]) <;> rfl) ?_; (with_reducible refine (spec_l6Rd_pick.calls k1 g s0_0 x1001_1 (wrap64 (3 + t406)) t421 t422 w0 _ ?side1 ?side2 A11.out).mono ?_); (case side1 => repeat (with_reducible first | exact HI0.out | apply sA | apply sN | apply sD | apply sS)); (case side2 => repeat (with_reducible first | exact HB.out | apply bA | apply bN | apply b1 | refine below_set ?_ (IsS84.ge HI0.out))); rintro e w18 ⟨rfl, hi, hb, hk⟩; refine ⟨_, rfl, ?_⟩; replace HO_4 := Aside0.mk (Kd.R_mono (Kd.R_keep (IsS84.apart (show IsS84 w0 _ g s0_0 x1001_1 from by repeat (with_reducible first | exact HI0.out | apply sA | apply sN | apply sD | apply sS)) (by exact rU HO_4.out) (by decide)) hk (fun _ h => h.2)) (fun _ h => h.1)); replace HK := Aside0.mk (KeepBut.trans (by repeat (with_reducible first | exact HK.out | apply pS | apply pN | apply pD | apply pA)) hk (.inl rfl)); replace HB := Aside0.mk (hb); replace HI0 := Aside0.mk (hi); (try clear hb); (try clear hb2); (try clear hk); (try clear hi)) | ((with_reducible refine gate_dst (N := 6) rfl ?_); refine box_event ?hg (N := 6) ?hd (cs := #[.int .i64 0, .int .i64 0, .int .i64 0, .int .i64 0, .int .i64 0, .int .i64 0]) (t := 29) ?hr ?_; (case hd => rfl); (case hg => rfl); (case hr => first | (go_simp; done) | (go_simp; rfl)); intro gb423 hg w19 hbox hb; have n0_ := Aside0.mk (Kd.R_below (Kd.R_elderB (by exact rU HO_4.out) gb423 (Nat.le_of_eq hg.symm)) hb); have n1_ := Aside0.mk (IsS84.below (by repeat (with_reducible first | exact HI0.out | apply sA | apply sN | apply sD | apply sS)) hb); have n2_ := Aside0.mk (KeepBut.trans (by repeat (with_reducible first | exact HK.out | apply pS | apply pN | apply pD | apply pA)) (KeepBut.of_below hb g none) (.inl rfl)); have n3_ := Aside0.mk (below_step (by repeat (with_reducible first | exact HB.out | apply bA | apply bN | apply b1 | refine below_set ?_ (IsS84.ge HI0.out))) hb); have n4_ := Aside0.mk (hbox); have n5_ := Aside0.mk ((by rw [hg]; exact (keep_size (w := w) (g := g) (row := none) (by repeat (with_reducible first | exact HK.out | apply pS | apply pN | apply pD | apply pA))) : w.heap.size ≤ gb423)); have n6_ := Aside0.mk ((Nat.le_trans HW0.out (by rw [hg]; exact (keep_size (w := w) (g := g) (row := none) (by repeat (with_reducible first | exact HK.out | apply pS | apply pN | apply pD | apply pA))) : w.heap.size ≤ gb423) : w0.heap.size ≤ gb423)); have n7_ := Aside0.mk ((by rw [hg]; exact Nat.ne_of_lt (IsS84.lt (show IsS84 w0 _ g s0_0 t422 from by repeat (with_reducible first | exact HI0.out | apply sA | apply sN | apply sD | apply sS))) : g ≠ gb423)); have n8_ := Aside0.mk ((by rw [hg]; exact Nat.ne_of_gt (IsS84.lt (show IsS84 w0 _ g s0_0 t422 from by repeat (with_reducible first | exact HI0.out | apply sA | apply sN | apply sD | apply sS))) : gb423 ≠ g)); clear HO_4; clear HI0; clear HK; clear HB; have HO_4 := n0_; have HI0 := n1_; have HK := n2_; have HB := n3_; have BK423 := n4_; have GW423 := n5_; have GE423 := n6_; have NB0_423 := n7_; have NB423_0 := n8_; clear n0_ n1_ n2_ n3_ n4_ n5_ n6_ n7_ n8_; clear hb hbox hg; have hnb20 := NB423_0.out; have hnc20 := NB0_423.out; obtain ⟨hcz21_0, hcz21_1, hcz21_2, hcz21_3, hcz21_4, hcz21_5⟩ := six_cells BK423.out; obtain ⟨hfz21_0, hfz21_1, hfz21_2, hfz21_3, hfz21_4, hfz21_5⟩ := six_marks BK423.out) | ((with_reducible refine gate_callee (f := 71) rfl ?_); refine goesL_ (some 27) rfl rfl Try.func71 (by kernel_rfl) rfl #[.pointer (some ⟨g, 0, none⟩), .int .i64 3] rfl (by (try simp only [List.map_toArray, List.map_cons, List.map_nil]) <;> rfl) ?_; (with_reducible refine (spec_l6Rd_pick.calls k1 g s0_0 t422 3 t424 t425 w0 _ ?side1 ?side2 A12.out).mono ?_); (case side1 => repeat (with_reducible first | exact HI0.out | apply sA | apply sN | apply sD | apply sS | refine IsS84.far ?_ NB0_423.out _)); (case side2 => repeat (with_reducible first | exact HB.out | apply bA | apply bN | apply b1 | refine below_set ?_ (IsS84.ge HI0.out) | refine below_set ?_ GE423.out)); rintro e w22 ⟨rfl, hi, hb, hk⟩; refine ⟨_, rfl, ?_⟩; replace HO_4 := Aside0.mk (Kd.R_mono (Kd.R_keep (IsS84.apart (show IsS84 w0 _ g s0_0 t422 from by repeat (with_reducible first | exact HI0.out | apply sA | apply sN | apply sD | apply sS | refine IsS84.far ?_ NB0_423.out _)) (by (with_reducible repeat (first | apply rA | apply rN | apply rD)); exact (Kd.R_mono (Kd.R_far (p := ⟨gb423, 5, none⟩) (Kd.R_far (p := ⟨gb423, 4, none⟩) (Kd.R_far (p := ⟨gb423, 3, none⟩) (Kd.R_far (p := ⟨gb423, 2, none⟩) (Kd.R_far (p := ⟨gb423, 1, none⟩) (Kd.R_far (p := ⟨gb423, 0, none⟩) (Kd.R_mono HO_4.out (fun k_ hk => (⟨hk, hk.2⟩ : _ ∧ k_ ≠ gb423))) (fun _ hk => hk.2) (.int .i64 9)) (fun _ hk => hk.2) (.int .i64 0)) (fun _ hk => hk.2) (.int .i64 0)) (fun _ hk => hk.2) (.int .i64 t421)) (fun _ hk => hk.2) (.int .i64 0)) (fun _ hk => hk.2) (.int .i64 0)) (fun _ h_ => h_.1))) (by decide)) hk (fun _ h => h.2)) (fun _ h => h.1)); replace BK423 := Aside0.mk (KeepBut.blk hk (g' := gb423) (o := .cells #[.int .i64 9, .int .i64 0, .int .i64 0, .int .i64 t421, .int .i64 0, .int .i64 0] 29 (0, 0)) (by (with_reducible repeat (first | apply kN | apply kD | apply kA)); refine blk_put (cs := #[.int .i64 9, .int .i64 0, .int .i64 0, .int .i64 t421, .int .i64 0, .int .i64 0]) ?_ 5 _ rfl; (with_reducible repeat (first | apply kN | apply kD | apply kA)); refine blk_put (cs := #[.int .i64 9, .int .i64 0, .int .i64 0, .int .i64 t421, .int .i64 0, .int .i64 0]) ?_ 4 _ rfl; (with_reducible repeat (first | apply kN | apply kD | apply kA)); refine blk_put (cs := #[.int .i64 9, .int .i64 0, .int .i64 0, .int .i64 0, .int .i64 0, .int .i64 0]) ?_ 3 _ rfl; (with_reducible repeat (first | apply kN | apply kD | apply kA)); refine blk_put (cs := #[.int .i64 9, .int .i64 0, .int .i64 0, .int .i64 0, .int .i64 0, .int .i64 0]) ?_ 2 _ rfl; (with_reducible repeat (first | apply kN | apply kD | apply kA)); refine blk_put (cs := #[.int .i64 9, .int .i64 0, .int .i64 0, .int .i64 0, .int .i64 0, .int .i64 0]) ?_ 1 _ rfl; (with_reducible repeat (first | apply kN | apply kD | apply kA)); refine blk_put (cs := #[.int .i64 0, .int .i64 0, .int .i64 0, .int .i64 0, .int .i64 0, .int .i64 0]) ?_ 0 _ rfl; exact blkU BK423.out) NB423_0.out (by simp)); replace HK := Aside0.mk (KeepBut.trans (by repeat (with_reducible first | exact HK.out | apply pS | apply pN | apply pD | apply pA | refine keep_far ?_ GW423.out _)) hk (.inl rfl)); replace HB := Aside0.mk (hb); replace HI0 := Aside0.mk (hi); (try clear hb); (try clear hb2); (try clear hk); (try clear hi); obtain ⟨hcz23_0, hcz23_1, hcz23_2, hcz23_3, hcz23_4, hcz23_5⟩ := six_cells BK423.out; obtain ⟨hfz23_0, hfz23_1, hfz23_2, hfz23_3, hfz23_4, hfz23_5⟩ := six_marks BK423.out) | ((with_reducible refine gate_store (t := 29) (p := 6) rfl ?_); refine store_event (t := 29) (p := 6) (v := ?vo_w24) (w1 := ((((((w22.setCell ⟨gb423, 0, none⟩ (.int .i64 14)).setCell ⟨gb423, 1, none⟩ (.int .i64 0)).setCell ⟨gb423, 2, none⟩ (.int .i64 0)).setCell ⟨gb423, 3, none⟩ (.int .i64 0)).setCell ⟨gb423, 4, none⟩ (.int .i64 0)).setCell ⟨gb423, 5, none⟩ (.int .i64 0))) ?hg ?ho ?hn ?hr ?_; (case ho => rfl); (case hg => rfl); (case hn => rfl); (case hr => first | (go_simp; done) | (go_simp; rfl)); intro w24 hw; have n0_ : Aside0 (Kd.R k29 29 w24 w.heap.size (fun k_ => k_ ≠ gb423) u4 x4_1) := ⟨(by rw [hw]; exact (by (with_reducible repeat (first | apply rA | apply rN | apply rD)); exact Kd.R_mono (Kd.R_far (p := ⟨gb423, 5, none⟩) (Kd.R_far (p := ⟨gb423, 4, none⟩) (Kd.R_far (p := ⟨gb423, 3, none⟩) (Kd.R_far (p := ⟨gb423, 2, none⟩) (Kd.R_far (p := ⟨gb423, 1, none⟩) (Kd.R_far (p := ⟨gb423, 0, none⟩) (Kd.R_mono HO_4.out (fun k_ hk => (⟨hk, hk.2⟩ : _ ∧ k_ ≠ gb423))) (fun _ hk => hk.2) (.int .i64 14)) (fun _ hk => hk.2) (.int .i64 0)) (fun _ hk => hk.2) (.int .i64 0)) (fun _ hk => hk.2) (.int .i64 0)) (fun _ hk => hk.2) (.int .i64 0)) (fun _ hk => hk.2) (.int .i64 0)) (fun _ hk => hk.1.2)))⟩; have n1_ : Aside0 (w24.heap[gb423]? = some (.cells #[.int .i64 14, .int .i64 0, .int .i64 0, .int .i64 0, .int .i64 0, .int .i64 0] 29 (0, 0))) := ⟨(by rw [hw]; exact (by (with_reducible repeat (first | apply kN | apply kD | apply kA)); refine blk_put (cs := #[.int .i64 14, .int .i64 0, .int .i64 0, .int .i64 0, .int .i64 0, .int .i64 0]) ?_ 5 _ rfl; (with_reducible repeat (first | apply kN | apply kD | apply kA)); refine blk_put (cs := #[.int .i64 14, .int .i64 0, .int .i64 0, .int .i64 0, .int .i64 0, .int .i64 0]) ?_ 4 _ rfl; (with_reducible repeat (first | apply kN | apply kD | apply kA)); refine blk_put (cs := #[.int .i64 14, .int .i64 0, .int .i64 0, .int .i64 t421, .int .i64 0, .int .i64 0]) ?_ 3 _ rfl; (with_reducible repeat (first | apply kN | apply kD | apply kA)); refine blk_put (cs := #[.int .i64 14, .int .i64 0, .int .i64 0, .int .i64 t421, .int .i64 0, .int .i64 0]) ?_ 2 _ rfl; (with_reducible repeat (first | apply kN | apply kD | apply kA)); refine blk_put (cs := #[.int .i64 14, .int .i64 0, .int .i64 0, .int .i64 t421, .int .i64 0, .int .i64 0]) ?_ 1 _ rfl; (with_reducible repeat (first | apply kN | apply kD | apply kA)); refine blk_put (cs := #[.int .i64 9, .int .i64 0, .int .i64 0, .int .i64 t421, .int .i64 0, .int .i64 0]) ?_ 0 _ rfl; exact blkU BK423.out))⟩; have n2_ : Aside0 (IsS84 w0 w24 g s0_0 t425) := ⟨(by rw [hw]; exact (by repeat (with_reducible first | exact HI0.out | apply sA | apply sN | apply sD | apply sS | refine IsS84.far ?_ NB0_423.out _)))⟩; have n3_ : Aside0 (KeepBut w w24 g none) := ⟨(by rw [hw]; exact (by repeat (with_reducible first | exact HK.out | apply pS | apply pN | apply pD | apply pA | refine keep_far ?_ GW423.out _)))⟩; have n4_ : Aside0 (Below w0.heap.size w0 w24) := ⟨(by rw [hw]; exact (by repeat (with_reducible first | exact HB.out | apply bA | apply bN | apply b1 | refine below_set ?_ (IsS84.ge HI0.out) | refine below_set ?_ GE423.out)))⟩; clear hw; clear HO_4; clear BK423; clear HI0; clear HK; clear HB; have HO_4 := n0_; have BK423 := n1_; have HI0 := n2_; have HK := n3_; have HB := n4_; clear n0_ n1_ n2_ n3_ n4_; obtain ⟨hcz25_0, hcz25_1, hcz25_2, hcz25_3, hcz25_4, hcz25_5⟩ := six_cells BK423.out; obtain ⟨hfz25_0, hfz25_1, hfz25_2, hfz25_3, hfz25_4, hfz25_5⟩ := six_marks BK423.out; have p17 : 0 ≤ ((ji14) : Int) := of_decide_eq_true (by assumption); have q17 : ((ji14) : Int) < ((x4_1.length : Int) : Int) := of_decide_eq_true (by assumption); obtain ⟨go17, co17, eo17, gb17, gl17, cl17, HG17⟩ := Kd.R_form HO_4.out (by omega); (first | cases eo17 | (injection eo17 with ea_ en_ ec_; (first | subst ea_ | (injection ea_ with ea_; subst ea_)); subst ec_; clear en_)); have GB17 := Aside0.mk gb17; have GG17 := Aside0.mk HG17; clear gb17 gl17 HG17; obtain ⟨ce17, hcl17, hM17, hcc17, hfr17⟩ := Kd.R_elem HO_4.out z29 ((ji14) : Int) p17 q17; obtain rfl := k29_openM hM17; have hx17_0 : w24.cell? ⟨go17, ((ji14) : Int).toNat * 6, none⟩ = some (.int .i64 ((rd_T29 x4_1 (ji14)).f0)) := hcc17 0 _ rfl; have hx17_1 : w24.cell? ⟨go17, ((ji14) : Int).toNat * 6 + 1, none⟩ = some (.int .i64 ((rd_T29 x4_1 (ji14)).f1)) := hcc17 1 _ rfl; have hx17_2 : w24.cell? ⟨go17, ((ji14) : Int).toNat * 6 + 2, none⟩ = some (.int .i64 ((rd_T29 x4_1 (ji14)).f2)) := hcc17 2 _ rfl; have hx17_3 : w24.cell? ⟨go17, ((ji14) : Int).toNat * 6 + 3, none⟩ = some (.int .i64 ((rd_T29 x4_1 (ji14)).f3)) := hcc17 3 _ rfl; have hx17_4 : w24.cell? ⟨go17, ((ji14) : Int).toNat * 6 + 4, none⟩ = some (.int .i64 ((rd_T29 x4_1 (ji14)).f4.f0)) := hcc17 4 _ rfl; have hx17_5 : w24.cell? ⟨go17, ((ji14) : Int).toNat * 6 + 5, none⟩ = some (.int .i64 ((rd_T29 x4_1 (ji14)).f4.f1)) := hcc17 5 _ rfl; have hf17_0 : w24.frozen? ⟨go17, ((ji14) : Int).toNat * 6, none⟩ = false := hfr17 0; have hf17_1 : w24.frozen? ⟨go17, ((ji14) : Int).toNat * 6 + 1, none⟩ = false := hfr17 1; have hf17_2 : w24.frozen? ⟨go17, ((ji14) : Int).toNat * 6 + 2, none⟩ = false := hfr17 2; have hf17_3 : w24.frozen? ⟨go17, ((ji14) : Int).toNat * 6 + 3, none⟩ = false := hfr17 3; have hf17_4 : w24.frozen? ⟨go17, ((ji14) : Int).toNat * 6 + 4, none⟩ = false := hfr17 4; have hf17_5 : w24.frozen? ⟨go17, ((ji14) : Int).toNat * 6 + 5, none⟩ = false := hfr17 5; clear hcl17 hcc17 hfr17 hM17; replace p17 := eq_true p17; replace q17 := eq_true q17; have HX26 := Aside0.mk (show Kd.R k29 29 w24 w.heap.size (fun k_ => k_ ≠ gb423) (.slice (some ⟨go17, 0, none⟩) x4_1.length co17) x4_1 from (by exact rU HO_4.out)); obtain ⟨ce26, hcl26, hM26, hcc26, hfr26⟩ := Kd.R_elem HX26.out z29 ((ji14) : Int) (of_decide_eq_true (by assumption)) (by have h_ : ((ji14) : Int) < ((x4_1.length : Int) : Int) := of_decide_eq_true (by assumption); first | exact h_ | (have e_ := (Kd.R_reads' HO_4.out).1; omega) | simpa using h_); obtain rfl := k29_openM hM26; have HP26 := Kd.R_seg HX26.out ((ji14) : Int) (of_decide_eq_true (by assumption)) (by have h_ : ((ji14) : Int) < ((x4_1.length : Int) : Int) := of_decide_eq_true (by assumption); first | exact h_ | (have e_ := (Kd.R_reads' HO_4.out).1; omega) | simpa using h_) (seg := [.int .i64 14, .int .i64 0, .int .i64 0, .int .i64 0, .int .i64 0, .int .i64 0]) (j := 0) hcl26 hcc26 (show 6 ≤ 6 from by decide) (x' := (⟨14, 0, 0, 0, (⟨0, 0⟩ : S27)⟩ : S29)) (k29_mkM _ _ _ (⟨14, 0, 0, 0, (⟨0, 0⟩ : S27)⟩ : S29) ) (fun _ hk => hk); have hx26_0 := hcc26 0 _ rfl; (try simp only [show (k29).sz = 6 from rfl, Nat.mul_one, Nat.add_zero] at hx26_0); have hf26_0 := hfr26 0; (try simp only [show (k29).sz = 6 from rfl, Nat.mul_one, Nat.add_zero] at hf26_0); have hx26_1 := hcc26 1 _ rfl; (try simp only [show (k29).sz = 6 from rfl, Nat.mul_one, Nat.add_zero] at hx26_1); have hf26_1 := hfr26 1; (try simp only [show (k29).sz = 6 from rfl, Nat.mul_one, Nat.add_zero] at hf26_1); have hx26_2 := hcc26 2 _ rfl; (try simp only [show (k29).sz = 6 from rfl, Nat.mul_one, Nat.add_zero] at hx26_2); have hf26_2 := hfr26 2; (try simp only [show (k29).sz = 6 from rfl, Nat.mul_one, Nat.add_zero] at hf26_2); have hx26_3 := hcc26 3 _ rfl; (try simp only [show (k29).sz = 6 from rfl, Nat.mul_one, Nat.add_zero] at hx26_3); have hf26_3 := hfr26 3; (try simp only [show (k29).sz = 6 from rfl, Nat.mul_one, Nat.add_zero] at hf26_3); have hx26_4 := hcc26 4 _ rfl; (try simp only [show (k29).sz = 6 from rfl, Nat.mul_one, Nat.add_zero] at hx26_4); have hf26_4 := hfr26 4; (try simp only [show (k29).sz = 6 from rfl, Nat.mul_one, Nat.add_zero] at hf26_4); have hx26_5 := hcc26 5 _ rfl; (try simp only [show (k29).sz = 6 from rfl, Nat.mul_one, Nat.add_zero] at hx26_5); have hf26_5 := hfr26 5; (try simp only [show (k29).sz = 6 from rfl, Nat.mul_one, Nat.add_zero] at hf26_5); clear hcl26 hcc26 hfr26 hM26) | ((with_reducible refine gate_store (t := 29) (p := 34) rfl ?_); refine store_event (t := 29) (p := 34) (v := ?vo_w27) (w1 := ((((((w24.setCell ⟨go17, ((ji14) : Int).toNat * 6, none⟩ (.int .i64 14)).setCell ⟨go17, ((ji14) : Int).toNat * 6 + 1, none⟩ (.int .i64 0)).setCell ⟨go17, ((ji14) : Int).toNat * 6 + 2, none⟩ (.int .i64 0)).setCell ⟨go17, ((ji14) : Int).toNat * 6 + 3, none⟩ (.int .i64 0)).setCell ⟨go17, ((ji14) : Int).toNat * 6 + 4, none⟩ (.int .i64 0)).setCell ⟨go17, ((ji14) : Int).toNat * 6 + 5, none⟩ (.int .i64 0))) ?hg ?ho ?hn ?hr ?_; (case ho => rfl); (case hg => rfl); (case hn => rfl); (case hr => first | (go_simp; done) | (go_simp; rfl)); intro w27 hw; have hg : w24.grownBy w27 (some go17) := (by rw [hw]; exact HP26.2); have hp_ : Kd.R k29 29 w27 w.heap.size (fun k_ => k_ ≠ gb423) (.slice (some ⟨go17, 0, none⟩) x4_1.length co17) y426 := (by rw [hw, Ny426.out]; exact HP26.1); clear HP26; have n0_ := Aside0.mk (hp_); have n1_ := Aside0.mk (IsS84.grown (by repeat (with_reducible first | exact HI0.out | apply sA | apply sN | apply sD | apply sS | refine IsS84.far ?_ NB0_423.out _)) hg (IsS84.own_ne HI0.out HO_4.out (by decide))); have n2_ := Aside0.mk (blk_grown (g := gb423) (o := .cells #[.int .i64 14, .int .i64 0, .int .i64 0, .int .i64 0, .int .i64 0, .int .i64 0] 29 (0, 0)) (by exact blkU BK423.out) hg (Kd.R_away HO_4.out (fun _ hk => hk))); have n3_ := Aside0.mk ((by rw [hw]; exact below_set (below_set (below_set (below_set (below_set (below_set (HB.out) (Nat.le_trans HL.out GB17.out)) (Nat.le_trans HL.out GB17.out)) (Nat.le_trans HL.out GB17.out)) (Nat.le_trans HL.out GB17.out)) (Nat.le_trans HL.out GB17.out)) (Nat.le_trans HL.out GB17.out) : Below w0.heap.size w0 w27)); have n4_ := Aside0.mk (KeepBut.trans (by repeat (with_reducible first | exact HK.out | apply pS | apply pN | apply pD | apply pA | refine keep_far ?_ GW423.out _)) (KeepBut.of_grown hg g) (Kd.R_base2 HO_4.out)); clear HO_4; clear HI0; clear BK423; clear HB; clear HK; have HO_4 := n0_; have HI0 := n1_; have BK423 := n2_; have HB := n3_; have HK := n4_; clear n0_ n1_ n2_ n3_ n4_; clear hg hw hp_))
       go_ret
       exact ⟨_, by first | rfl | (simp [errW_none, errW_some] <;> rfl) | (simp only [← hji14]; first | rfl | (simp [errW_none, errW_some] <;> rfl)) | (simp [*, errW_none, errW_some] <;> rfl), by (with_reducible repeat (first | apply rA | apply rN | apply rD)); exact Kd.R_mono HO_4.out (fun _ hk => trivial), by repeat (with_reducible first | exact HI0.out | apply sA | apply sN | apply sD | apply sS | refine IsS84.far ?_ NB0_423.out _), by repeat (with_reducible first | exact HB.out | apply bA | apply bN | apply b1 | refine below_set ?_ (IsS84.ge HI0.out) | refine below_set ?_ GE423.out), by repeat (with_reducible first | exact HK.out | apply pS | apply pN | apply pD | apply pA | refine keep_far ?_ GW423.out _)⟩
      ·rw [if_neg c16] at H
       exact absurd H (by simp)
     ·rw [if_neg c15] at H
      exact absurd H (by simp)
    ·rw [if_neg c13] at H
     have c13b0 : (t424 == 0) = false := beq_eq_false_iff_ne.mpr c13
     have c13b1 : (t424 != 0) = true := bne_iff_ne.mpr c13
     obtain ⟨ji28, hji28⟩ : ∃ j_ : Int, (wrap64 ((wrap64 (3 + t406)) - 1)) = j_ := ⟨_, rfl⟩
     replace H : (if 0 ≤ (ji28) then (if (ji28) < (x4_1.length : Int) then (some ((x4_1.set ((ji28) : Int).toNat (⟨9, 0, 0, t421, (⟨0, 0⟩ : S27)⟩ : S29)), t425)) else (none)) else (none)) = some (r1, r2) := by first | (rw [hji28] at H; exact H) | (simp only [hji28] at H ⊢; exact H)
     (try rw [hji28] at A11)
     (try rw [hji28] at A12)
     have hji28w : (IntKind.i64.wrap ((wrap64 (3 + t406)) - 1)) = ji28 := (i64_w _).trans hji28
     by_cases c29 : 0 ≤ (ji28)
     ·rw [if_pos c29] at H
      have c29b0 : decide (0 ≤ (ji28)) = true := decide_eq_true c29
      clear c29
      by_cases c30 : (ji28) < (x4_1.length : Int)
      ·rw [if_pos c30] at H
       have c30b0 : decide ((ji28) < (x4_1.length : Int)) = true := decide_eq_true c30
       clear c30
       obtain ⟨y427, hy427⟩ : ∃ y_ : List (S29), y_ = (x4_1.set ((ji28) : Int).toNat (⟨9, 0, 0, t421, (⟨0, 0⟩ : S27)⟩ : S29)) := ⟨_, rfl⟩
       replace H : (some (y427, t425)) = some (r1, r2) := by first | (rw [hy427]; with_reducible exact H) | (have H2_ := (Option.bind_some _ _).symm.trans H; rw [hy427]; with_reducible exact H2_) | (have H2_ := (Option.bind_some _ _).symm.trans H; with_reducible exact H2_) | with_reducible exact H | (rw [hy427]; exact H) | exact H
       have Ny427 := Aside0.mk hy427
       clear hy427
       simp only [Option.some.injEq, Prod.mk.injEq] at H
       obtain ⟨rfl, rfl⟩ := H
       go_wp2_with (first | ((with_reducible refine gate_callee (f := 71) rfl ?_); refine goesL_ (some 24) rfl rfl Try.func71 (by kernel_rfl) rfl #[.pointer (some ⟨g, 0, none⟩), .int .i64 (wrap64 (3 + t406))] rfl (by (try simp only [List.map_toArray, List.map_cons, List.map_nil]) <;> rfl) ?_; (with_reducible refine (spec_l6Rd_pick.calls k1 g s0_0 x1001_1 (wrap64 (3 + t406)) t421 t422 w0 _ ?side1 ?side2 A11.out).mono ?_); (case side1 => repeat (with_reducible first | exact HI0.out | apply sA | apply sN | apply sD | apply sS)); (case side2 => repeat (with_reducible first | exact HB.out | apply bA | apply bN | apply b1 | refine below_set ?_ (IsS84.ge HI0.out))); rintro e w32 ⟨rfl, hi, hb, hk⟩; refine ⟨_, rfl, ?_⟩; replace HO_4 := Aside0.mk (Kd.R_mono (Kd.R_keep (IsS84.apart (show IsS84 w0 _ g s0_0 x1001_1 from by repeat (with_reducible first | exact HI0.out | apply sA | apply sN | apply sD | apply sS)) (by exact rU HO_4.out) (by decide)) hk (fun _ h => h.2)) (fun _ h => h.1)); replace HK := Aside0.mk (KeepBut.trans (by repeat (with_reducible first | exact HK.out | apply pS | apply pN | apply pD | apply pA)) hk (.inl rfl)); replace HB := Aside0.mk (hb); replace HI0 := Aside0.mk (hi); (try clear hb); (try clear hb2); (try clear hk); (try clear hi)) | ((with_reducible refine gate_dst (N := 6) rfl ?_); refine box_event ?hg (N := 6) ?hd (cs := #[.int .i64 0, .int .i64 0, .int .i64 0, .int .i64 0, .int .i64 0, .int .i64 0]) (t := 29) ?hr ?_; (case hd => rfl); (case hg => rfl); (case hr => first | (go_simp; done) | (go_simp; rfl)); intro gb423 hg w33 hbox hb; have n0_ := Aside0.mk (Kd.R_below (Kd.R_elderB (by exact rU HO_4.out) gb423 (Nat.le_of_eq hg.symm)) hb); have n1_ := Aside0.mk (IsS84.below (by repeat (with_reducible first | exact HI0.out | apply sA | apply sN | apply sD | apply sS)) hb); have n2_ := Aside0.mk (KeepBut.trans (by repeat (with_reducible first | exact HK.out | apply pS | apply pN | apply pD | apply pA)) (KeepBut.of_below hb g none) (.inl rfl)); have n3_ := Aside0.mk (below_step (by repeat (with_reducible first | exact HB.out | apply bA | apply bN | apply b1 | refine below_set ?_ (IsS84.ge HI0.out))) hb); have n4_ := Aside0.mk (hbox); have n5_ := Aside0.mk ((by rw [hg]; exact (keep_size (w := w) (g := g) (row := none) (by repeat (with_reducible first | exact HK.out | apply pS | apply pN | apply pD | apply pA))) : w.heap.size ≤ gb423)); have n6_ := Aside0.mk ((Nat.le_trans HW0.out (by rw [hg]; exact (keep_size (w := w) (g := g) (row := none) (by repeat (with_reducible first | exact HK.out | apply pS | apply pN | apply pD | apply pA))) : w.heap.size ≤ gb423) : w0.heap.size ≤ gb423)); have n7_ := Aside0.mk ((by rw [hg]; exact Nat.ne_of_lt (IsS84.lt (show IsS84 w0 _ g s0_0 t422 from by repeat (with_reducible first | exact HI0.out | apply sA | apply sN | apply sD | apply sS))) : g ≠ gb423)); have n8_ := Aside0.mk ((by rw [hg]; exact Nat.ne_of_gt (IsS84.lt (show IsS84 w0 _ g s0_0 t422 from by repeat (with_reducible first | exact HI0.out | apply sA | apply sN | apply sD | apply sS))) : gb423 ≠ g)); clear HO_4; clear HI0; clear HK; clear HB; have HO_4 := n0_; have HI0 := n1_; have HK := n2_; have HB := n3_; have BK423 := n4_; have GW423 := n5_; have GE423 := n6_; have NB0_423 := n7_; have NB423_0 := n8_; clear n0_ n1_ n2_ n3_ n4_ n5_ n6_ n7_ n8_; clear hb hbox hg; have hnb34 := NB423_0.out; have hnc34 := NB0_423.out; obtain ⟨hcz35_0, hcz35_1, hcz35_2, hcz35_3, hcz35_4, hcz35_5⟩ := six_cells BK423.out; obtain ⟨hfz35_0, hfz35_1, hfz35_2, hfz35_3, hfz35_4, hfz35_5⟩ := six_marks BK423.out) | ((with_reducible refine gate_callee (f := 71) rfl ?_); refine goesL_ (some 27) rfl rfl Try.func71 (by kernel_rfl) rfl #[.pointer (some ⟨g, 0, none⟩), .int .i64 3] rfl (by (try simp only [List.map_toArray, List.map_cons, List.map_nil]) <;> rfl) ?_; (with_reducible refine (spec_l6Rd_pick.calls k1 g s0_0 t422 3 t424 t425 w0 _ ?side1 ?side2 A12.out).mono ?_); (case side1 => repeat (with_reducible first | exact HI0.out | apply sA | apply sN | apply sD | apply sS | refine IsS84.far ?_ NB0_423.out _)); (case side2 => repeat (with_reducible first | exact HB.out | apply bA | apply bN | apply b1 | refine below_set ?_ (IsS84.ge HI0.out) | refine below_set ?_ GE423.out)); rintro e w36 ⟨rfl, hi, hb, hk⟩; refine ⟨_, rfl, ?_⟩; replace HO_4 := Aside0.mk (Kd.R_mono (Kd.R_keep (IsS84.apart (show IsS84 w0 _ g s0_0 t422 from by repeat (with_reducible first | exact HI0.out | apply sA | apply sN | apply sD | apply sS | refine IsS84.far ?_ NB0_423.out _)) (by (with_reducible repeat (first | apply rA | apply rN | apply rD)); exact (Kd.R_mono (Kd.R_far (p := ⟨gb423, 5, none⟩) (Kd.R_far (p := ⟨gb423, 4, none⟩) (Kd.R_far (p := ⟨gb423, 3, none⟩) (Kd.R_far (p := ⟨gb423, 2, none⟩) (Kd.R_far (p := ⟨gb423, 1, none⟩) (Kd.R_far (p := ⟨gb423, 0, none⟩) (Kd.R_mono HO_4.out (fun k_ hk => (⟨hk, hk.2⟩ : _ ∧ k_ ≠ gb423))) (fun _ hk => hk.2) (.int .i64 9)) (fun _ hk => hk.2) (.int .i64 0)) (fun _ hk => hk.2) (.int .i64 0)) (fun _ hk => hk.2) (.int .i64 t421)) (fun _ hk => hk.2) (.int .i64 0)) (fun _ hk => hk.2) (.int .i64 0)) (fun _ h_ => h_.1))) (by decide)) hk (fun _ h => h.2)) (fun _ h => h.1)); replace BK423 := Aside0.mk (KeepBut.blk hk (g' := gb423) (o := .cells #[.int .i64 9, .int .i64 0, .int .i64 0, .int .i64 t421, .int .i64 0, .int .i64 0] 29 (0, 0)) (by (with_reducible repeat (first | apply kN | apply kD | apply kA)); refine blk_put (cs := #[.int .i64 9, .int .i64 0, .int .i64 0, .int .i64 t421, .int .i64 0, .int .i64 0]) ?_ 5 _ rfl; (with_reducible repeat (first | apply kN | apply kD | apply kA)); refine blk_put (cs := #[.int .i64 9, .int .i64 0, .int .i64 0, .int .i64 t421, .int .i64 0, .int .i64 0]) ?_ 4 _ rfl; (with_reducible repeat (first | apply kN | apply kD | apply kA)); refine blk_put (cs := #[.int .i64 9, .int .i64 0, .int .i64 0, .int .i64 0, .int .i64 0, .int .i64 0]) ?_ 3 _ rfl; (with_reducible repeat (first | apply kN | apply kD | apply kA)); refine blk_put (cs := #[.int .i64 9, .int .i64 0, .int .i64 0, .int .i64 0, .int .i64 0, .int .i64 0]) ?_ 2 _ rfl; (with_reducible repeat (first | apply kN | apply kD | apply kA)); refine blk_put (cs := #[.int .i64 9, .int .i64 0, .int .i64 0, .int .i64 0, .int .i64 0, .int .i64 0]) ?_ 1 _ rfl; (with_reducible repeat (first | apply kN | apply kD | apply kA)); refine blk_put (cs := #[.int .i64 0, .int .i64 0, .int .i64 0, .int .i64 0, .int .i64 0, .int .i64 0]) ?_ 0 _ rfl; exact blkU BK423.out) NB423_0.out (by simp)); replace HK := Aside0.mk (KeepBut.trans (by repeat (with_reducible first | exact HK.out | apply pS | apply pN | apply pD | apply pA | refine keep_far ?_ GW423.out _)) hk (.inl rfl)); replace HB := Aside0.mk (hb); replace HI0 := Aside0.mk (hi); (try clear hb); (try clear hb2); (try clear hk); (try clear hi); obtain ⟨hcz37_0, hcz37_1, hcz37_2, hcz37_3, hcz37_4, hcz37_5⟩ := six_cells BK423.out; obtain ⟨hfz37_0, hfz37_1, hfz37_2, hfz37_3, hfz37_4, hfz37_5⟩ := six_marks BK423.out; have p31 : 0 ≤ ((ji28) : Int) := of_decide_eq_true (by assumption); have q31 : ((ji28) : Int) < ((x4_1.length : Int) : Int) := of_decide_eq_true (by assumption); obtain ⟨go31, co31, eo31, gb31, gl31, cl31, HG31⟩ := Kd.R_form HO_4.out (by omega); (first | cases eo31 | (injection eo31 with ea_ en_ ec_; (first | subst ea_ | (injection ea_ with ea_; subst ea_)); subst ec_; clear en_)); have GB31 := Aside0.mk gb31; have GG31 := Aside0.mk HG31; clear gb31 gl31 HG31; obtain ⟨ce31, hcl31, hM31, hcc31, hfr31⟩ := Kd.R_elem HO_4.out z29 ((ji28) : Int) p31 q31; obtain rfl := k29_openM hM31; have hx31_0 : w36.cell? ⟨go31, ((ji28) : Int).toNat * 6, none⟩ = some (.int .i64 ((rd_T29 x4_1 (ji28)).f0)) := hcc31 0 _ rfl; have hx31_1 : w36.cell? ⟨go31, ((ji28) : Int).toNat * 6 + 1, none⟩ = some (.int .i64 ((rd_T29 x4_1 (ji28)).f1)) := hcc31 1 _ rfl; have hx31_2 : w36.cell? ⟨go31, ((ji28) : Int).toNat * 6 + 2, none⟩ = some (.int .i64 ((rd_T29 x4_1 (ji28)).f2)) := hcc31 2 _ rfl; have hx31_3 : w36.cell? ⟨go31, ((ji28) : Int).toNat * 6 + 3, none⟩ = some (.int .i64 ((rd_T29 x4_1 (ji28)).f3)) := hcc31 3 _ rfl; have hx31_4 : w36.cell? ⟨go31, ((ji28) : Int).toNat * 6 + 4, none⟩ = some (.int .i64 ((rd_T29 x4_1 (ji28)).f4.f0)) := hcc31 4 _ rfl; have hx31_5 : w36.cell? ⟨go31, ((ji28) : Int).toNat * 6 + 5, none⟩ = some (.int .i64 ((rd_T29 x4_1 (ji28)).f4.f1)) := hcc31 5 _ rfl; have hf31_0 : w36.frozen? ⟨go31, ((ji28) : Int).toNat * 6, none⟩ = false := hfr31 0; have hf31_1 : w36.frozen? ⟨go31, ((ji28) : Int).toNat * 6 + 1, none⟩ = false := hfr31 1; have hf31_2 : w36.frozen? ⟨go31, ((ji28) : Int).toNat * 6 + 2, none⟩ = false := hfr31 2; have hf31_3 : w36.frozen? ⟨go31, ((ji28) : Int).toNat * 6 + 3, none⟩ = false := hfr31 3; have hf31_4 : w36.frozen? ⟨go31, ((ji28) : Int).toNat * 6 + 4, none⟩ = false := hfr31 4; have hf31_5 : w36.frozen? ⟨go31, ((ji28) : Int).toNat * 6 + 5, none⟩ = false := hfr31 5; clear hcl31 hcc31 hfr31 hM31; replace p31 := eq_true p31; replace q31 := eq_true q31; have n_ := Aside0.mk (Kd.R_mono (ok' := (fun k_ => k_ ≠ gb423)) HO_4.out (fun k_ hk => hk.2)); clear HO_4; have HO_4 := n_; clear n_; have HX38 := Aside0.mk (show Kd.R k29 29 w36 w.heap.size (fun k_ => k_ ≠ gb423) (.slice (some ⟨go31, 0, none⟩) x4_1.length co31) x4_1 from (by exact rU HO_4.out)); obtain ⟨ce38, hcl38, hM38, hcc38, hfr38⟩ := Kd.R_elem HX38.out z29 ((ji28) : Int) (of_decide_eq_true (by assumption)) (by have h_ : ((ji28) : Int) < ((x4_1.length : Int) : Int) := of_decide_eq_true (by assumption); first | exact h_ | (have e_ := (Kd.R_reads' HO_4.out).1; omega) | simpa using h_); obtain rfl := k29_openM hM38; have HP38 := Kd.R_seg HX38.out ((ji28) : Int) (of_decide_eq_true (by assumption)) (by have h_ : ((ji28) : Int) < ((x4_1.length : Int) : Int) := of_decide_eq_true (by assumption); first | exact h_ | (have e_ := (Kd.R_reads' HO_4.out).1; omega) | simpa using h_) (seg := [.int .i64 9, .int .i64 0, .int .i64 0, .int .i64 t421, .int .i64 0, .int .i64 0]) (j := 0) hcl38 hcc38 (show 6 ≤ 6 from by decide) (x' := (⟨9, 0, 0, t421, (⟨0, 0⟩ : S27)⟩ : S29)) (k29_mkM _ _ _ (⟨9, 0, 0, t421, (⟨0, 0⟩ : S27)⟩ : S29) ) (fun _ hk => hk); have hx38_0 := hcc38 0 _ rfl; (try simp only [show (k29).sz = 6 from rfl, Nat.mul_one, Nat.add_zero] at hx38_0); have hf38_0 := hfr38 0; (try simp only [show (k29).sz = 6 from rfl, Nat.mul_one, Nat.add_zero] at hf38_0); have hx38_1 := hcc38 1 _ rfl; (try simp only [show (k29).sz = 6 from rfl, Nat.mul_one, Nat.add_zero] at hx38_1); have hf38_1 := hfr38 1; (try simp only [show (k29).sz = 6 from rfl, Nat.mul_one, Nat.add_zero] at hf38_1); have hx38_2 := hcc38 2 _ rfl; (try simp only [show (k29).sz = 6 from rfl, Nat.mul_one, Nat.add_zero] at hx38_2); have hf38_2 := hfr38 2; (try simp only [show (k29).sz = 6 from rfl, Nat.mul_one, Nat.add_zero] at hf38_2); have hx38_3 := hcc38 3 _ rfl; (try simp only [show (k29).sz = 6 from rfl, Nat.mul_one, Nat.add_zero] at hx38_3); have hf38_3 := hfr38 3; (try simp only [show (k29).sz = 6 from rfl, Nat.mul_one, Nat.add_zero] at hf38_3); have hx38_4 := hcc38 4 _ rfl; (try simp only [show (k29).sz = 6 from rfl, Nat.mul_one, Nat.add_zero] at hx38_4); have hf38_4 := hfr38 4; (try simp only [show (k29).sz = 6 from rfl, Nat.mul_one, Nat.add_zero] at hf38_4); have hx38_5 := hcc38 5 _ rfl; (try simp only [show (k29).sz = 6 from rfl, Nat.mul_one, Nat.add_zero] at hx38_5); have hf38_5 := hfr38 5; (try simp only [show (k29).sz = 6 from rfl, Nat.mul_one, Nat.add_zero] at hf38_5); clear hcl38 hcc38 hfr38 hM38) | ((with_reducible refine gate_store (t := 29) (p := 34) rfl ?_); refine store_event (t := 29) (p := 34) (v := ?vo_w39) (w1 := ((((((w36.setCell ⟨go31, ((ji28) : Int).toNat * 6, none⟩ (.int .i64 9)).setCell ⟨go31, ((ji28) : Int).toNat * 6 + 1, none⟩ (.int .i64 0)).setCell ⟨go31, ((ji28) : Int).toNat * 6 + 2, none⟩ (.int .i64 0)).setCell ⟨go31, ((ji28) : Int).toNat * 6 + 3, none⟩ (.int .i64 t421)).setCell ⟨go31, ((ji28) : Int).toNat * 6 + 4, none⟩ (.int .i64 0)).setCell ⟨go31, ((ji28) : Int).toNat * 6 + 5, none⟩ (.int .i64 0))) ?hg ?ho ?hn ?hr ?_; (case ho => rfl); (case hg => rfl); (case hn => rfl); (case hr => first | (go_simp; done) | (go_simp; rfl)); intro w39 hw; have hg : w36.grownBy w39 (some go31) := (by rw [hw]; exact HP38.2); have hp_ : Kd.R k29 29 w39 w.heap.size (fun k_ => k_ ≠ gb423) (.slice (some ⟨go31, 0, none⟩) x4_1.length co31) y427 := (by rw [hw, Ny427.out]; exact HP38.1); clear HP38; have n0_ := Aside0.mk (hp_); have n1_ := Aside0.mk (IsS84.grown (by repeat (with_reducible first | exact HI0.out | apply sA | apply sN | apply sD | apply sS | refine IsS84.far ?_ NB0_423.out _)) hg (IsS84.own_ne HI0.out HO_4.out (by decide))); have n2_ := Aside0.mk (blk_grown (g := gb423) (o := .cells #[.int .i64 9, .int .i64 0, .int .i64 0, .int .i64 t421, .int .i64 0, .int .i64 0] 29 (0, 0)) (by exact blkU BK423.out) hg (Kd.R_away HO_4.out (fun _ hk => hk))); have n3_ := Aside0.mk ((by rw [hw]; exact below_set (below_set (below_set (below_set (below_set (below_set (HB.out) (Nat.le_trans HL.out GB31.out)) (Nat.le_trans HL.out GB31.out)) (Nat.le_trans HL.out GB31.out)) (Nat.le_trans HL.out GB31.out)) (Nat.le_trans HL.out GB31.out)) (Nat.le_trans HL.out GB31.out) : Below w0.heap.size w0 w39)); have n4_ := Aside0.mk (KeepBut.trans (by repeat (with_reducible first | exact HK.out | apply pS | apply pN | apply pD | apply pA | refine keep_far ?_ GW423.out _)) (KeepBut.of_grown hg g) (Kd.R_base2 HO_4.out)); clear HO_4; clear HI0; clear BK423; clear HB; clear HK; have HO_4 := n0_; have HI0 := n1_; have BK423 := n2_; have HB := n3_; have HK := n4_; clear n0_ n1_ n2_ n3_ n4_; clear hg hw hp_))
       go_ret
       exact ⟨_, by first | rfl | (simp [errW_none, errW_some] <;> rfl) | (simp only [← hji28]; first | rfl | (simp [errW_none, errW_some] <;> rfl)) | (simp [*, errW_none, errW_some] <;> rfl), by (with_reducible repeat (first | apply rA | apply rN | apply rD)); exact Kd.R_mono HO_4.out (fun _ hk => trivial), by repeat (with_reducible first | exact HI0.out | apply sA | apply sN | apply sD | apply sS | refine IsS84.far ?_ NB0_423.out _), by repeat (with_reducible first | exact HB.out | apply bA | apply bN | apply b1 | refine below_set ?_ (IsS84.ge HI0.out) | refine below_set ?_ GE423.out), by repeat (with_reducible first | exact HK.out | apply pS | apply pN | apply pD | apply pA | refine keep_far ?_ GW423.out _)⟩
      ·rw [if_neg c30] at H
       exact absurd H (by simp)
     ·rw [if_neg c29] at H
      exact absurd H (by simp)
mutual
def spec_CodeRead.j0 : Nat → List ByteArray → Int → Bool → Option ((List (S29)) × Bool)
 | 0, _, _, _ => none
 | k + 1, x4, x5, x27 => if x27 = true then (some ((([] : List (S29))), false)) else (spec_CodeRead.l0 k x4 x5 (([] : List (S29))) 0)
def spec_CodeRead.l0 : Nat → List ByteArray → Int → List (S29) → Int → Option ((List (S29)) × Bool)
 | 0, _, _, _, _ => none
 | k + 1, x4, x5, x6, x7 => if x7 < x5 then (if 0 ≤ x7 then (if x7 < (x4.length : Int) then ((oreadV.f (rdOf ByteArray.empty x4 x7)).bind fun bt442 => (if bt442.2.2.2.2.2.2 = true then (if x6.length < 2932031007402 then (spec_CodeRead.l0 k x4 x5 (x6 ++ [(⟨bt442.1, bt442.2.1, bt442.2.2.1, bt442.2.2.2.1, (⟨bt442.2.2.2.2.1, bt442.2.2.2.2.2.1⟩ : S27)⟩ : S29)]) (wrap64 (x7 + 1))) else (none)) else (some ((([] : List (S29))), false)))) else (none)) else (none)) else ((spec_CodeOk.f k x6).bind fun t456 => (if t456 = true then (some (x6, true)) else (some ((([] : List (S29))), false))))
end
def spec_CodeRead.f (k : Nat) (a0 : ByteArray) : Option ((List (S29)) × Bool) := if (a0.size : Int) > 400 then (some ((([] : List (S29))), false)) else ((cutV.f a0 10).bind fun t431 => (if (wrap64 ((t431.length : Int) - 1)) < 1 then (spec_CodeRead.j0 k t431 (wrap64 ((t431.length : Int) - 1)) true) else (if 0 ≤ (wrap64 ((t431.length : Int) - 1)) then (if (wrap64 ((t431.length : Int) - 1)) < (t431.length : Int) then (spec_CodeRead.j0 k t431 (wrap64 ((t431.length : Int) - 1)) ((rdOf ByteArray.empty t431 (wrap64 ((t431.length : Int) - 1))).toList != ([] : List UInt8))) else (none)) else (none))))
theorem spec_CodeRead.mono_l : ∀ k, (∀ y0 y1 y2, LeO (spec_CodeRead.j0 k y0 y1 y2) (spec_CodeRead.j0 (k + 1) y0 y1 y2)) ∧ (∀ y0 y1 y2 y3, LeO (spec_CodeRead.l0 k y0 y1 y2 y3) (spec_CodeRead.l0 (k + 1) y0 y1 y2 y3))
 | 0 => ⟨fun _ _ _ r h => by simp [spec_CodeRead.j0] at h, fun _ _ _ _ r h => by simp [spec_CodeRead.l0] at h⟩
 | k + 1 => by
  obtain ⟨ih0, ih1⟩ := spec_CodeRead.mono_l k
  refine ⟨?_, ?_⟩
  ·intro y0 y1 y2
   unfold spec_CodeRead.j0
   repeat' first
   | (with_reducible exact ih0 _ _ _)
   | (with_reducible exact ih1 _ _ _ _)
   | (with_reducible exact spec_CodeOk.mono _ _)
   | (with_reducible exact LeO.refl _)
   | (with_reducible exact LeO.none _)
   | (with_reducible refine LeO.ite ?_ ?_)
   | (with_reducible refine LeO.bind ?_ (fun _ => ?_))
   | exact ih0 _ _ _
   | exact ih1 _ _ _ _
   | exact spec_CodeOk.mono _ _
   | exact LeO.none _
   | refine LeO.ite ?_ ?_
   | refine LeO.bind ?_ (fun _ => ?_)
  ·intro y0 y1 y2 y3
   unfold spec_CodeRead.l0
   repeat' first
   | (with_reducible exact ih0 _ _ _)
   | (with_reducible exact ih1 _ _ _ _)
   | (with_reducible exact spec_CodeOk.mono _ _)
   | (with_reducible exact LeO.refl _)
   | (with_reducible exact LeO.none _)
   | (with_reducible refine LeO.ite ?_ ?_)
   | (with_reducible refine LeO.bind ?_ (fun _ => ?_))
   | exact ih0 _ _ _
   | exact ih1 _ _ _ _
   | exact spec_CodeOk.mono _ _
   | exact LeO.none _
   | refine LeO.ite ?_ ?_
   | refine LeO.bind ?_ (fun _ => ?_)
theorem spec_CodeRead.mono : ∀ a0 k, LeO (spec_CodeRead.f k a0) (spec_CodeRead.f (k + 1) a0) := by
 intro a0 k
 obtain ⟨ih0, ih1⟩ := spec_CodeRead.mono_l k
 unfold spec_CodeRead.f
 repeat' first
   | (with_reducible exact ih0 _ _ _)
   | (with_reducible exact ih1 _ _ _ _)
   | (with_reducible exact spec_CodeOk.mono _ _)
   | (with_reducible exact LeO.refl _)
   | (with_reducible exact LeO.none _)
   | (with_reducible refine LeO.ite ?_ ?_)
   | (with_reducible refine LeO.bind ?_ (fun _ => ?_))
   | exact ih0 _ _ _
   | exact ih1 _ _ _ _
   | exact spec_CodeOk.mono _ _
   | exact LeO.none _
   | refine LeO.ite ?_ ?_
   | refine LeO.bind ?_ (fun _ => ?_)
theorem spec_CodeRead.calls (k : Nat) (a0 : ByteArray) (r1 : List (S29)) (r2 : Bool) (w : World) (h : spec_CodeRead.f k a0 = some (r1, r2)) :
  Calls Try.prog 107 #[.string a0] w fun e w' => ∃ v0_ : Value, e = .returned (.tuple #[v0_, .bool r2]) ∧ Kd.R k29 29 w' w.heap.size (fun _ => True) v0_ r1 ∧ Below w.heap.size w w' := by
 have hu29 := Try.underlying29
 have HB := Aside0.mk (Below.refl w.heap.size w)
 have H : (if (a0.size : Int) > 400 then (some ((([] : List (S29))), false)) else ((cutV.f a0 10).bind fun t431 => (if (wrap64 ((t431.length : Int) - 1)) < 1 then (spec_CodeRead.j0 k t431 (wrap64 ((t431.length : Int) - 1)) true) else (if 0 ≤ (wrap64 ((t431.length : Int) - 1)) then (if (wrap64 ((t431.length : Int) - 1)) < (t431.length : Int) then (spec_CodeRead.j0 k t431 (wrap64 ((t431.length : Int) - 1)) ((rdOf ByteArray.empty t431 (wrap64 ((t431.length : Int) - 1))).toList != ([] : List UInt8))) else (none)) else (none))))) = some (r1, r2) := h
 clear h
 by_cases c2 : (a0.size : Int) > 400
 ·rw [if_pos c2] at H
  have c2b0 : decide (400 < (a0.size : Int)) = true := decide_eq_true c2
  have c2b1 : decide (400 < a0.size) = true := decide_eq_true (by omega)
  clear c2
  obtain ⟨y428, hy428⟩ : ∃ y_ : List (S29), y_ = (([] : List (S29))) := ⟨_, rfl⟩
  replace H : (some (y428, false)) = some (r1, r2) := by first | (rw [hy428]; with_reducible exact H) | (have H2_ := (Option.bind_some _ _).symm.trans H; rw [hy428]; with_reducible exact H2_) | (have H2_ := (Option.bind_some _ _).symm.trans H; with_reducible exact H2_) | with_reducible exact H | (rw [hy428]; exact H) | exact H
  have Ny428 := Aside0.mk hy428
  clear hy428
  simp only [Option.some.injEq, Prod.mk.injEq] at H
  obtain ⟨rfl, rfl⟩ := H
  go_enter Try.func107, Try.ntmps107
  go_wp2_with (first | ((with_reducible refine gate_dst (N := 13) rfl ?_); refine Kd.R_lit k29 _ 29 ?hg (N := 13) ?hd (xs := ([] : List (S29))) (inner := []) (ok := fun _ => True) (okp := fun _ => True) ?hr ?hp (fun _ hk => hk) trivial (Below.refl _ _) (Nat.le_refl _) (by simp) ?_; (case hd => rfl); (case hg => rfl); (case hr => first | (go_simp; done) | (go_simp; rfl)); (case hp => exact (Reps.none _ _)); intro v429 w3 ho4 hb hg_ hnew_; clear hg_ hnew_; (first | rw [← Ny428.out] at ho4 | (simp only [Int.reduceToNat] at ho4; rw [← Ny428.out] at ho4)); have HO430 := Aside0.mk (Kd.R_lower ho4 (below_size (by exact bU HB.out))); replace HB := Aside0.mk (below_step (by exact bU HB.out) hb); clear hb ho4))
  go_ret2
  exact ⟨_, by first | rfl | (simp [errW_none, errW_some] <;> rfl) | (simp [*, errW_none, errW_some] <;> rfl), by exact rU HO430.out, by exact bU HB.out⟩
 ·rw [if_neg c2] at H
  have c2b0 : decide (400 < (a0.size : Int)) = false := decide_eq_false c2
  have c2b1 : decide (400 < a0.size) = false := decide_eq_false (by omega)
  clear c2
  replace H := Option.bind_eq_some_iff.mp H
  obtain ⟨t431, A50, H⟩ := H
  replace H : (if (wrap64 ((t431.length : Int) - 1)) < 1 then (spec_CodeRead.j0 k t431 (wrap64 ((t431.length : Int) - 1)) true) else (if 0 ≤ (wrap64 ((t431.length : Int) - 1)) then (if (wrap64 ((t431.length : Int) - 1)) < (t431.length : Int) then (spec_CodeRead.j0 k t431 (wrap64 ((t431.length : Int) - 1)) ((rdOf ByteArray.empty t431 (wrap64 ((t431.length : Int) - 1))).toList != ([] : List UInt8))) else (none)) else (none))) = some (r1, r2) := H
  have A5 := Aside0.mk A50
  clear A50
  have HC6 := Aside0.mk H
  clear H
  go_enter Try.func107, Try.ntmps107
  go_upto_region 5 with (first | ((with_reducible refine gate_callee (f := 112) rfl ?_); refine goesL_ (some 15) rfl rfl Try.func112 (by kernel_rfl) rfl #[.string a0, .int .u8 10] rfl (by (try simp only [List.map_toArray, List.map_cons, List.map_nil]) <;> rfl) ?_; (with_reducible refine (spec_l2Cut.calls a0 10 t431 _ A5.out).mono ?_); rintro e w7 ⟨v432, rfl, ho0, hb⟩; refine ⟨_, rfl, ?_⟩; have HO433 := Aside0.mk (Kd.R_lower ho0 (below_size (by exact bU HB.out))); replace HB := Aside0.mk (below_step (by exact bU HB.out) hb); (try clear hb); (try clear hb2); (try clear hk); (try clear hi); (try clear ho0); obtain ⟨Ao8, co8, eo8⟩ := Kd.R_slice HO433.out; subst eo8))
  (try simp only [Act.put, List.setIfInBounds_toArray, List.set_cons_zero, List.set_cons_succ])
  go_cut [27] (fun v27 wc => ∃ (kq : Nat) (x27_5 : Bool), v27 = .bool x27_5 ∧ Aside0 (spec_CodeRead.j0 kq t431 (wrap64 ((t431.length : Int) - 1)) x27_5 = some (r1, r2)) ∧ Aside0 (kq ≤ k) ∧ Aside0 (Kd.R Kd.string 9 wc w.heap.size (fun _ => True) (.slice Ao8 t431.length co8) t431) ∧ Aside0 (Below w.heap.size w wc))
  case first =>
   have H := HC6.out
   clear HC6
   by_cases c9 : (wrap64 ((t431.length : Int) - 1)) < 1
   ·rw [if_pos c9] at H
    have c9b0 : decide ((wrap64 ((t431.length : Int) - 1)) < 1) = true := decide_eq_true c9
    clear c9
    (first | rw [c9b0] | (simp only [i64_w, i32_w]; rw [c9b0]) | skip)
    have H' := Aside0.mk H
    clear H
    go_wp2
    go_meet
    case rel => exact ⟨_, (true), (by first | rfl | (simp; done) | (simp [*]; done)), H', ⟨by first | omega | exact Nat.le_refl _⟩, ⟨by exact rU HO433.out⟩, ⟨by exact bU HB.out⟩⟩
   ·rw [if_neg c9] at H
    have c9b0 : decide ((wrap64 ((t431.length : Int) - 1)) < 1) = false := decide_eq_false c9
    clear c9
    (first | rw [c9b0] | (simp only [i64_w, i32_w]; rw [c9b0]) | skip)
    obtain ⟨ji10, hji10⟩ : ∃ j_ : Int, (wrap64 ((t431.length : Int) - 1)) = j_ := ⟨_, rfl⟩
    replace H : (if 0 ≤ (ji10) then (if (ji10) < (t431.length : Int) then (spec_CodeRead.j0 k t431 ji10 ((rdOf ByteArray.empty t431 (ji10)).toList != ([] : List UInt8))) else (none)) else (none)) = some (r1, r2) := by first | (rw [hji10] at H; exact H) | (simp only [hji10] at H ⊢; exact H)
    (try rw [hji10] at c9b0)
    have hji10w : (IntKind.i64.wrap ((t431.length : Int) - 1)) = ji10 := (i64_w _).trans hji10
    by_cases c11 : 0 ≤ (ji10)
    ·rw [if_pos c11] at H
     have c11b0 : decide (0 ≤ (ji10)) = true := decide_eq_true c11
     clear c11
     by_cases c12 : (ji10) < (t431.length : Int)
     ·rw [if_pos c12] at H
      have c12b0 : decide ((ji10) < (t431.length : Int)) = true := decide_eq_true c12
      clear c12
      have H' := Aside0.mk H
      clear H
      have p434 : 0 ≤ ((ji10) : Int) := of_decide_eq_true (by assumption)
      have q434 : (ji10) < (t431.length : Int) := of_decide_eq_true (by assumption)
      obtain ⟨ad434, e434, hx434_0⟩ := Kd.at_string (Kd.R_reads' HO433.out).2.2 (ji10) p434 q434
      cases e434
      replace p434 := eq_true p434
      replace q434 := eq_true q434
      go_wp2
      go_meet
      case rel => subst hji10; exact ⟨_, (((rdOf ByteArray.empty t431 (wrap64 ((t431.length : Int) - 1))).toList != ([] : List UInt8))), (by first | rfl | (simp; done) | (simp only [ie_ne]; rfl) | (simp [ie_ne]; done)), H', ⟨by first | omega | exact Nat.le_refl _⟩, ⟨by exact rU HO433.out⟩, ⟨by exact bU HB.out⟩⟩
     ·rw [if_neg c12] at H
      exact absurd H (by simp)
    ·rw [if_neg c11] at H
     exact absurd H (by simp)
  case rest =>
   clear HC6
   (try clear c1); (try clear c2); (try clear c2b0); (try clear c2b1); (try clear p2); (try clear p4); (try clear q4); (try clear hx4); (try clear p6); (try clear c9); (try clear c9b0); (try clear c10); (try clear c11); (try clear c11b0); (try clear c12); (try clear c12b0); (try clear hx434_0); (try clear p434); (try clear q434)
   obtain ⟨kq, x27_5, rfl, HA, HJ5, HO_4, HB⟩ := hcut
   cases kq with
   | zero => exact absurd HA.out (by simp [spec_CodeRead.j0])
   | succ kj5 =>
    have H := HA.out
    clear HA
    simp only [spec_CodeRead.j0] at H
    by_cases c13 : x27_5 = true
    ·subst c13
     have H1 : (some ((([] : List (S29))), false)) = some (r1, r2) := by rw [if_pos rfl] at H; exact H
     clear H
     have H := H1
     clear H1
     obtain ⟨y435, hy435⟩ : ∃ y_ : List (S29), y_ = (([] : List (S29))) := ⟨_, rfl⟩
     replace H : (some (y435, false)) = some (r1, r2) := by first | (rw [hy435]; with_reducible exact H) | (have H2_ := (Option.bind_some _ _).symm.trans H; rw [hy435]; with_reducible exact H2_) | (have H2_ := (Option.bind_some _ _).symm.trans H; with_reducible exact H2_) | with_reducible exact H | (rw [hy435]; exact H) | exact H
     have Ny435 := Aside0.mk hy435
     clear hy435
     simp only [Option.some.injEq, Prod.mk.injEq] at H
     obtain ⟨rfl, rfl⟩ := H
     go_wp2_with (first | ((with_reducible refine gate_dst (N := 28) rfl ?_); refine Kd.R_lit k29 _ 29 ?hg (N := 28) ?hd (xs := ([] : List (S29))) (inner := []) (ok := fun _ => True) (okp := fun _ => True) ?hr ?hp (fun _ hk => hk) trivial (Below.refl _ _) (Nat.le_refl _) (by simp) ?_; (case hd => rfl); (case hg => rfl); (case hr => first | (go_simp; done) | (go_simp; rfl)); (case hp => exact (Reps.none _ _)); intro v436 w14 ho15 hb hg_ hnew_; clear hg_ hnew_; (first | rw [← Ny435.out] at ho15 | (simp only [Int.reduceToNat] at ho15; rw [← Ny435.out] at ho15)); replace HO_4 := Aside0.mk (Kd.R_below (by exact rU HO_4.out) hb); have HO437 := Aside0.mk (Kd.R_lower ho15 (below_size (by exact bU HB.out))); replace HB := Aside0.mk (below_step (by exact bU HB.out) hb); clear hb ho15))
     go_ret2
     exact ⟨_, by first | rfl | (simp [errW_none, errW_some] <;> rfl) | (simp [*, errW_none, errW_some] <;> rfl), by exact rU HO437.out, by exact bU HB.out⟩
    ·replace c13 := Bool.eq_false_iff.mpr c13
     subst c13
     have H1 : (spec_CodeRead.l0 kj5 t431 (wrap64 ((t431.length : Int) - 1)) (([] : List (S29))) 0) = some (r1, r2) := by rw [if_neg (show ¬ (false = true) by decide)] at H; exact H
     clear H
     have H := H1
     clear H1
     obtain ⟨y438, hy438⟩ : ∃ y_ : List (S29), y_ = (([] : List (S29))) := ⟨_, rfl⟩
     replace H : (spec_CodeRead.l0 kj5 t431 (wrap64 ((t431.length : Int) - 1)) y438 0) = some (r1, r2) := by first | (rw [hy438]; with_reducible exact H) | (have H2_ := (Option.bind_some _ _).symm.trans H; rw [hy438]; with_reducible exact H2_) | (have H2_ := (Option.bind_some _ _).symm.trans H; with_reducible exact H2_) | with_reducible exact H | (rw [hy438]; exact H) | exact H
     have Ny438 := Aside0.mk hy438
     clear hy438
     have H' := Aside0.mk H
     clear H
     go_wp2_with (first | ((with_reducible refine gate_dst (N := 29) rfl ?_); refine Kd.R_lit k29 _ 29 ?hg (N := 29) ?hd (xs := ([] : List (S29))) (inner := []) (ok := fun _ => True) (okp := fun _ => True) ?hr ?hp (fun _ hk => hk) trivial (Below.refl _ _) (Nat.le_refl _) (by simp) ?_; (case hd => rfl); (case hg => rfl); (case hr => first | (go_simp; done) | (go_simp; rfl)); (case hp => exact (Reps.none _ _)); intro v439 w16 ho17 hb hg_ hnew_; clear hg_ hnew_; (first | rw [← Ny438.out] at ho17 | (simp only [Int.reduceToNat] at ho17; rw [← Ny438.out] at ho17)); replace HO_4 := Aside0.mk (Kd.R_below (by exact rU HO_4.out) hb); have HO440 := Aside0.mk (Kd.R_lower ho17 (below_size (by exact bU HB.out))); replace HB := Aside0.mk (below_step (by exact bU HB.out) hb); clear hb ho17))
     go_loopg [6, 7] kj5 (fun kq v6 v7 w' => ∃ (x6_2 : List (S29)) (x7_2 : Int), v7 = .int .i64 x7_2 ∧ Aside0 (spec_CodeRead.l0 kq t431 (wrap64 ((t431.length : Int) - 1)) x6_2 x7_2 = some (r1, r2)) ∧ Aside0 (kq ≤ kj5) ∧ Aside0 (Kd.R Kd.string 9 w' w.heap.size (fun _ => True) (.slice Ao8 t431.length co8) t431) ∧ Aside0 (Kd.R k29 29 w' w.heap.size (fun _ => True) v6 x6_2) ∧ Aside0 (Below w.heap.size w w'))
     case atStart => exact ⟨(y438), (0), (by first | rfl | (simp; done) | (simp [*]; done)), H', ⟨Nat.le_refl _⟩, ⟨by exact rU HO_4.out⟩, ⟨by exact rU HO440.out⟩, ⟨by exact bU HB.out⟩⟩
     case round =>
      clear H'
      (try clear c1); (try clear c2); (try clear c2b0); (try clear c2b1); (try clear p2); (try clear p4); (try clear q4); (try clear hx4); (try clear p6); (try clear c9); (try clear c9b0); (try clear c10); (try clear c11); (try clear c11b0); (try clear c12); (try clear c12b0); (try clear c13); (try clear hx434_0); (try clear p2); (try clear p4); (try clear p434); (try clear p6); (try clear q4); (try clear q434)
      obtain ⟨x6_2, x7_2, rfl, HA, HK2, HO_4, HO_6, HB⟩ := hrel
      cases gk with
      | zero => exact absurd HA.out (by simp [spec_CodeRead.l0])
      | succ k2 =>
       have H := HA.out
       clear HA
       simp only [spec_CodeRead.l0] at H
       by_cases c18 : x7_2 < (wrap64 ((t431.length : Int) - 1))
       ·rw [if_pos c18] at H
        have c18b0 : decide (x7_2 < (wrap64 ((t431.length : Int) - 1))) = true := decide_eq_true c18
        clear c18
        by_cases c19 : 0 ≤ x7_2
        ·rw [if_pos c19] at H
         have c19b0 : decide (0 ≤ x7_2) = true := decide_eq_true c19
         clear c19
         by_cases c20 : x7_2 < (t431.length : Int)
         ·rw [if_pos c20] at H
          have c20b0 : decide (x7_2 < (t431.length : Int)) = true := decide_eq_true c20
          clear c20
          replace H := Option.bind_eq_some_iff.mp H
          obtain ⟨⟨t442, t443, t444, t445, t446, t447, t448⟩, A210, H⟩ := H
          replace H : (if t448 = true then (if x6_2.length < 2932031007402 then (spec_CodeRead.l0 k2 t431 (wrap64 ((t431.length : Int) - 1)) (x6_2 ++ [(⟨t442, t443, t444, t445, (⟨t446, t447⟩ : S27)⟩ : S29)]) (wrap64 (x7_2 + 1))) else (none)) else (some ((([] : List (S29))), false))) = some (r1, r2) := H
          have A21 := Aside0.mk A210
          clear A210
          by_cases c22 : t448 = true
          ·subst c22
           have H1 : (if x6_2.length < 2932031007402 then (spec_CodeRead.l0 k2 t431 (wrap64 ((t431.length : Int) - 1)) (x6_2 ++ [(⟨t442, t443, t444, t445, (⟨t446, t447⟩ : S27)⟩ : S29)]) (wrap64 (x7_2 + 1))) else (none)) = some (r1, r2) := by rw [if_pos rfl] at H; exact H
           clear H
           have H := H1
           clear H1
           by_cases c23 : x6_2.length < 2932031007402
           ·rw [if_pos c23] at H
            have LMc23 := Aside0.mk c23
            clear c23
            obtain ⟨y450, hy450⟩ : ∃ y_ : List (S29), y_ = (x6_2 ++ [(⟨t442, t443, t444, t445, (⟨t446, t447⟩ : S27)⟩ : S29)]) := ⟨_, rfl⟩
            replace H : (spec_CodeRead.l0 k2 t431 (wrap64 ((t431.length : Int) - 1)) y450 (wrap64 (x7_2 + 1))) = some (r1, r2) := by first | (rw [hy450]; with_reducible exact H) | (have H2_ := (Option.bind_some _ _).symm.trans H; rw [hy450]; with_reducible exact H2_) | (have H2_ := (Option.bind_some _ _).symm.trans H; with_reducible exact H2_) | with_reducible exact H | (rw [hy450]; exact H) | exact H
            have Ny450 := Aside0.mk hy450
            clear hy450
            have H' := Aside0.mk H
            clear H
            have p441 : 0 ≤ (x7_2 : Int) := of_decide_eq_true (by assumption)
            have q441 : x7_2 < (t431.length : Int) := of_decide_eq_true (by assumption)
            obtain ⟨ad441, e441, hx441_0⟩ := Kd.at_string (Kd.R_reads' HO_4.out).2.2 x7_2 p441 q441
            cases e441
            replace p441 := eq_true p441
            replace q441 := eq_true q441
            go_wp2_with (first | ((with_reducible refine gate_callee (f := 113) rfl ?_); refine goesL_ (some 40) rfl rfl Try.func113 (by kernel_rfl) rfl #[.string (rdOf ByteArray.empty t431 x7_2)] rfl (by (try simp only [List.map_toArray, List.map_cons, List.map_nil]) <;> rfl) ?_; (with_reducible refine (spec_OpRead.calls (rdOf ByteArray.empty t431 x7_2) t442 t443 t444 t445 t446 t447 true _ A21.out).mono ?_); rintro e w24 ⟨rfl, hb⟩; refine ⟨_, rfl, ?_⟩; replace HO_4 := Aside0.mk (Kd.R_below (by exact rU HO_4.out) hb); replace HO_6 := Aside0.mk (Kd.R_below (by exact rU HO_6.out) hb); replace HB := Aside0.mk (below_step (by exact bU HB.out) hb); (try clear hb); (try clear hb2); (try clear hk); (try clear hi)) | ((with_reducible refine gate_dst (N := 8) rfl ?_); refine box_event ?hg (N := 8) ?hd (cs := #[.int .i64 0, .int .i64 0, .int .i64 0, .int .i64 0, .int .i64 0, .int .i64 0]) (t := 29) ?hr ?_; (case hd => rfl); (case hg => rfl); (case hr => first | (go_simp; done) | (go_simp; rfl)); intro gb449 hg w25 hbox hb; have n0_ := Aside0.mk (Kd.R_below (by exact rU HO_4.out) hb); have n1_ := Aside0.mk (Kd.R_below (Kd.R_elderB (by exact rU HO_6.out) gb449 (Nat.le_of_eq hg.symm)) hb); have n2_ := Aside0.mk (below_step (by exact bU HB.out) hb); have n3_ := Aside0.mk (hbox); have n4_ := Aside0.mk ((by rw [hg]; exact (below_size (by exact bU HB.out)) : w.heap.size ≤ gb449)); have n5_ := Aside0.mk ((by rw [hg]; exact (below_size (by exact bU HB.out)) : w.heap.size ≤ gb449)); clear HO_4; clear HO_6; clear HB; have HO_4 := n0_; have HO_6 := n1_; have HB := n2_; have BK449 := n3_; have GW449 := n4_; have GE449 := n5_; clear n0_ n1_ n2_ n3_ n4_ n5_; clear hb hbox hg; obtain ⟨hcz26_0, hcz26_1, hcz26_2, hcz26_3, hcz26_4, hcz26_5⟩ := six_cells BK449.out; obtain ⟨hfz26_0, hfz26_1, hfz26_2, hfz26_3, hfz26_4, hfz26_5⟩ := six_marks BK449.out) | ((with_reducible refine gate_builtin (b := .append) (xs := #[.tmp 46, .tmp 48]) rfl ?_); at_builtin; refine Kd.R_append k29 (w0 := w) w.heap.size rfl (.tmp 46) (.tmp 48) 42 29 (.agg #[(.int .i64 0), (.int .i64 0), (.int .i64 0), (.int .i64 0), (.int .i64 0), (.int .i64 0)]) 48 rfl Try.underlying42 info29 rfl (by decide) (by omega) u6 x6_2 (⟨t442, t443, t444, t445, (⟨t446, t447⟩ : S27)⟩ : S29) [.int .i64 t442, .int .i64 t443, .int .i64 t444, .int .i64 t445, .int .i64 t446, .int .i64 t447] (fun k_ => k_ ≠ gb449) (fun _ => False) rfl (by first | (go_simp; done) | (go_simp; rfl)) ?aP (fun _ hk => hk.elim) ?aF ?aO ?aB ?aS ?aL ?_; (case aP => exact k29_mkM _ _ _ (⟨t442, t443, t444, t445, (⟨t446, t447⟩ : S27)⟩ : S29)); (case aB => exact (by repeat (with_reducible first | exact HB.out | apply bA | apply bN | apply b1 | refine below_set ?_ GE449.out))); (case aF => exact (fun k_ hk => Kd.freshB (g := gb449) (o := .cells #[.int .i64 t442, .int .i64 t443, .int .i64 t444, .int .i64 t445, .int .i64 t446, .int .i64 t447] 29 (0, 0)) (by (with_reducible repeat (first | apply kN | apply kD | apply kA)); refine blk_put (cs := #[.int .i64 t442, .int .i64 t443, .int .i64 t444, .int .i64 t445, .int .i64 t446, .int .i64 0]) ?_ 5 _ rfl; (with_reducible repeat (first | apply kN | apply kD | apply kA)); refine blk_put (cs := #[.int .i64 t442, .int .i64 t443, .int .i64 t444, .int .i64 t445, .int .i64 0, .int .i64 0]) ?_ 4 _ rfl; (with_reducible repeat (first | apply kN | apply kD | apply kA)); refine blk_put (cs := #[.int .i64 t442, .int .i64 t443, .int .i64 t444, .int .i64 0, .int .i64 0, .int .i64 0]) ?_ 3 _ rfl; (with_reducible repeat (first | apply kN | apply kD | apply kA)); refine blk_put (cs := #[.int .i64 t442, .int .i64 t443, .int .i64 0, .int .i64 0, .int .i64 0, .int .i64 0]) ?_ 2 _ rfl; (with_reducible repeat (first | apply kN | apply kD | apply kA)); refine blk_put (cs := #[.int .i64 t442, .int .i64 0, .int .i64 0, .int .i64 0, .int .i64 0, .int .i64 0]) ?_ 1 _ rfl; (with_reducible repeat (first | apply kN | apply kD | apply kA)); refine blk_put (cs := #[.int .i64 0, .int .i64 0, .int .i64 0, .int .i64 0, .int .i64 0, .int .i64 0]) ?_ 0 _ rfl; exact blkU BK449.out) k_ hk)); (case aO => exact (by (with_reducible repeat (first | apply rA | apply rN | apply rD)); exact Kd.R_mono (Kd.R_far (p := ⟨gb449, 5, none⟩) (Kd.R_far (p := ⟨gb449, 4, none⟩) (Kd.R_far (p := ⟨gb449, 3, none⟩) (Kd.R_far (p := ⟨gb449, 2, none⟩) (Kd.R_far (p := ⟨gb449, 1, none⟩) (Kd.R_far (p := ⟨gb449, 0, none⟩) (Kd.R_mono HO_6.out (fun k_ hk => (⟨hk, hk.2⟩ : _ ∧ k_ ≠ gb449))) (fun _ hk => hk.2) (.int .i64 t442)) (fun _ hk => hk.2) (.int .i64 t443)) (fun _ hk => hk.2) (.int .i64 t444)) (fun _ hk => hk.2) (.int .i64 t445)) (fun _ hk => hk.2) (.int .i64 t446)) (fun _ hk => hk.2) (.int .i64 t447)) (fun _ hk => hk.1.2))); (case aS => exact (below_size (by repeat (with_reducible first | exact HB.out | apply bA | apply bN | apply b1 | refine below_set ?_ GE449.out)))); (case aL => have := LMc23.out; omega); intro v451 w27 ho hb hg hat; rw [← Ny450.out] at ho; replace HO_4 := Aside0.mk (Kd.R_over' (by (with_reducible repeat (first | apply rA | apply rN | apply rD)); exact (Kd.R_mono (Kd.R_far (p := ⟨gb449, 5, none⟩) (Kd.R_far (p := ⟨gb449, 4, none⟩) (Kd.R_far (p := ⟨gb449, 3, none⟩) (Kd.R_far (p := ⟨gb449, 2, none⟩) (Kd.R_far (p := ⟨gb449, 1, none⟩) (Kd.R_far (p := ⟨gb449, 0, none⟩) (Kd.R_types HO_4.out BK449.out (by decide)) (fun _ hk => hk.2) (.int .i64 t442)) (fun _ hk => hk.2) (.int .i64 t443)) (fun _ hk => hk.2) (.int .i64 t444)) (fun _ hk => hk.2) (.int .i64 t445)) (fun _ hk => hk.2) (.int .i64 t446)) (fun _ hk => hk.2) (.int .i64 t447)) (fun _ h_ => h_.1))) (Kd.R_typed (by (with_reducible repeat (first | apply rA | apply rN | apply rD)); exact (Kd.R_mono (Kd.R_far (p := ⟨gb449, 5, none⟩) (Kd.R_far (p := ⟨gb449, 4, none⟩) (Kd.R_far (p := ⟨gb449, 3, none⟩) (Kd.R_far (p := ⟨gb449, 2, none⟩) (Kd.R_far (p := ⟨gb449, 1, none⟩) (Kd.R_far (p := ⟨gb449, 0, none⟩) (Kd.R_mono HO_6.out (fun k_ hk => (⟨hk, hk.2⟩ : _ ∧ k_ ≠ gb449))) (fun _ hk => hk.2) (.int .i64 t442)) (fun _ hk => hk.2) (.int .i64 t443)) (fun _ hk => hk.2) (.int .i64 t444)) (fun _ hk => hk.2) (.int .i64 t445)) (fun _ hk => hk.2) (.int .i64 t446)) (fun _ hk => hk.2) (.int .i64 t447)) (fun _ h_ => h_.1)))) (by decide) hg); replace BK449 := Aside0.mk (blk_grown (g := gb449) (o := .cells #[.int .i64 t442, .int .i64 t443, .int .i64 t444, .int .i64 t445, .int .i64 t446, .int .i64 t447] 29 (0, 0)) (by (with_reducible repeat (first | apply kN | apply kD | apply kA)); refine blk_put (cs := #[.int .i64 t442, .int .i64 t443, .int .i64 t444, .int .i64 t445, .int .i64 t446, .int .i64 0]) ?_ 5 _ rfl; (with_reducible repeat (first | apply kN | apply kD | apply kA)); refine blk_put (cs := #[.int .i64 t442, .int .i64 t443, .int .i64 t444, .int .i64 t445, .int .i64 0, .int .i64 0]) ?_ 4 _ rfl; (with_reducible repeat (first | apply kN | apply kD | apply kA)); refine blk_put (cs := #[.int .i64 t442, .int .i64 t443, .int .i64 t444, .int .i64 0, .int .i64 0, .int .i64 0]) ?_ 3 _ rfl; (with_reducible repeat (first | apply kN | apply kD | apply kA)); refine blk_put (cs := #[.int .i64 t442, .int .i64 t443, .int .i64 0, .int .i64 0, .int .i64 0, .int .i64 0]) ?_ 2 _ rfl; (with_reducible repeat (first | apply kN | apply kD | apply kA)); refine blk_put (cs := #[.int .i64 t442, .int .i64 0, .int .i64 0, .int .i64 0, .int .i64 0, .int .i64 0]) ?_ 1 _ rfl; (with_reducible repeat (first | apply kN | apply kD | apply kA)); refine blk_put (cs := #[.int .i64 0, .int .i64 0, .int .i64 0, .int .i64 0, .int .i64 0, .int .i64 0]) ?_ 0 _ rfl; exact blkU BK449.out) hg (Kd.R_away HO_6.out (fun _ hk => hk.2))); replace HB := Aside0.mk (hb); have HO452 := Aside0.mk (ho); clear HO_6; clear ho hb hg hat))
            go_roundg k2
            case measure => have := HJ5.out; have := HK2.out; omega
            case rel => exact ⟨(y450), (wrap64 (x7_2 + 1)), (by first | rfl | (simp; done) | (simp [*]; done)), H', ⟨by have := HJ5.out; have := HK2.out; omega⟩, ⟨by exact rU HO_4.out⟩, ⟨by (with_reducible repeat (first | apply rA | apply rN | apply rD)); exact Kd.R_mono HO452.out (fun _ hk => trivial)⟩, ⟨by repeat (with_reducible first | exact HB.out | apply bA | apply bN | apply b1 | refine below_set ?_ GE449.out)⟩⟩
           ·rw [if_neg c23] at H
            exact absurd H (by simp)
          ·replace c22 := Bool.eq_false_iff.mpr c22
           subst c22
           have H1 : (some ((([] : List (S29))), false)) = some (r1, r2) := by rw [if_neg (show ¬ (false = true) by decide)] at H; exact H
           clear H
           have H := H1
           clear H1
           obtain ⟨y453, hy453⟩ : ∃ y_ : List (S29), y_ = (([] : List (S29))) := ⟨_, rfl⟩
           replace H : (some (y453, false)) = some (r1, r2) := by first | (rw [hy453]; with_reducible exact H) | (have H2_ := (Option.bind_some _ _).symm.trans H; rw [hy453]; with_reducible exact H2_) | (have H2_ := (Option.bind_some _ _).symm.trans H; with_reducible exact H2_) | with_reducible exact H | (rw [hy453]; exact H) | exact H
           have Ny453 := Aside0.mk hy453
           clear hy453
           simp only [Option.some.injEq, Prod.mk.injEq] at H
           obtain ⟨rfl, rfl⟩ := H
           have p441 : 0 ≤ (x7_2 : Int) := of_decide_eq_true (by assumption)
           have q441 : x7_2 < (t431.length : Int) := of_decide_eq_true (by assumption)
           obtain ⟨ad441, e441, hx441_0⟩ := Kd.at_string (Kd.R_reads' HO_4.out).2.2 x7_2 p441 q441
           cases e441
           replace p441 := eq_true p441
           replace q441 := eq_true q441
           go_wp2_with (first | ((with_reducible refine gate_callee (f := 113) rfl ?_); refine goesL_ (some 40) rfl rfl Try.func113 (by kernel_rfl) rfl #[.string (rdOf ByteArray.empty t431 x7_2)] rfl (by (try simp only [List.map_toArray, List.map_cons, List.map_nil]) <;> rfl) ?_; (with_reducible refine (spec_OpRead.calls (rdOf ByteArray.empty t431 x7_2) t442 t443 t444 t445 t446 t447 false _ A21.out).mono ?_); rintro e w28 ⟨rfl, hb⟩; refine ⟨_, rfl, ?_⟩; replace HO_4 := Aside0.mk (Kd.R_below (by exact rU HO_4.out) hb); replace HO_6 := Aside0.mk (Kd.R_below (by exact rU HO_6.out) hb); replace HB := Aside0.mk (below_step (by exact bU HB.out) hb); (try clear hb); (try clear hb2); (try clear hk); (try clear hi)) | ((with_reducible refine gate_dst (N := 8) rfl ?_); refine box_event ?hg (N := 8) ?hd (cs := #[.int .i64 0, .int .i64 0, .int .i64 0, .int .i64 0, .int .i64 0, .int .i64 0]) (t := 29) ?hr ?_; (case hd => rfl); (case hg => rfl); (case hr => first | (go_simp; done) | (go_simp; rfl)); intro gb449 hg w29 hbox hb; have n0_ := Aside0.mk (Kd.R_below (by exact rU HO_4.out) hb); have n1_ := Aside0.mk (Kd.R_below (Kd.R_elderB (by exact rU HO_6.out) gb449 (Nat.le_of_eq hg.symm)) hb); have n2_ := Aside0.mk (below_step (by exact bU HB.out) hb); have n3_ := Aside0.mk (hbox); have n4_ := Aside0.mk ((by rw [hg]; exact (below_size (by exact bU HB.out)) : w.heap.size ≤ gb449)); have n5_ := Aside0.mk ((by rw [hg]; exact (below_size (by exact bU HB.out)) : w.heap.size ≤ gb449)); clear HO_4; clear HO_6; clear HB; have HO_4 := n0_; have HO_6 := n1_; have HB := n2_; have BK449 := n3_; have GW449 := n4_; have GE449 := n5_; clear n0_ n1_ n2_ n3_ n4_ n5_; clear hb hbox hg; obtain ⟨hcz30_0, hcz30_1, hcz30_2, hcz30_3, hcz30_4, hcz30_5⟩ := six_cells BK449.out; obtain ⟨hfz30_0, hfz30_1, hfz30_2, hfz30_3, hfz30_4, hfz30_5⟩ := six_marks BK449.out) | ((with_reducible refine gate_dst (N := 45) rfl ?_); refine Kd.R_lit k29 _ 29 ?hg (N := 45) ?hd (xs := ([] : List (S29))) (inner := []) (ok := fun _ => True) (okp := fun _ => True) ?hr ?hp (fun _ hk => hk) trivial (Below.refl _ _) (Nat.le_refl _) (by simp) ?_; (case hd => rfl); (case hg => rfl); (case hr => first | (go_simp; done) | (go_simp; rfl)); (case hp => exact (Reps.none _ _)); intro v454 w31 ho32 hb hg_ hnew_; clear hg_ hnew_; (first | rw [← Ny453.out] at ho32 | (simp only [Int.reduceToNat] at ho32; rw [← Ny453.out] at ho32)); have n0_ := Aside0.mk (Kd.R_below (by (with_reducible repeat (first | apply rA | apply rN | apply rD)); exact (Kd.R_mono (Kd.R_far (p := ⟨gb449, 5, none⟩) (Kd.R_far (p := ⟨gb449, 4, none⟩) (Kd.R_far (p := ⟨gb449, 3, none⟩) (Kd.R_far (p := ⟨gb449, 2, none⟩) (Kd.R_far (p := ⟨gb449, 1, none⟩) (Kd.R_far (p := ⟨gb449, 0, none⟩) (Kd.R_types HO_4.out BK449.out (by decide)) (fun _ hk => hk.2) (.int .i64 t442)) (fun _ hk => hk.2) (.int .i64 t443)) (fun _ hk => hk.2) (.int .i64 t444)) (fun _ hk => hk.2) (.int .i64 t445)) (fun _ hk => hk.2) (.int .i64 t446)) (fun _ hk => hk.2) (.int .i64 t447)) (fun _ h_ => h_.1))) hb); have n1_ := Aside0.mk (Kd.R_elder' (by (with_reducible repeat (first | apply rA | apply rN | apply rD)); exact (Kd.R_mono (Kd.R_far (p := ⟨gb449, 5, none⟩) (Kd.R_far (p := ⟨gb449, 4, none⟩) (Kd.R_far (p := ⟨gb449, 3, none⟩) (Kd.R_far (p := ⟨gb449, 2, none⟩) (Kd.R_far (p := ⟨gb449, 1, none⟩) (Kd.R_far (p := ⟨gb449, 0, none⟩) (Kd.R_mono HO_6.out (fun k_ hk => (⟨hk, hk.2⟩ : _ ∧ k_ ≠ gb449))) (fun _ hk => hk.2) (.int .i64 t442)) (fun _ hk => hk.2) (.int .i64 t443)) (fun _ hk => hk.2) (.int .i64 t444)) (fun _ hk => hk.2) (.int .i64 t445)) (fun _ hk => hk.2) (.int .i64 t446)) (fun _ hk => hk.2) (.int .i64 t447)) (fun _ h_ => h_.1))) (Kd.R_base ho32) hb); have n2_ := Aside0.mk (Kd.R_lower (Kd.R_newB (Kd.R_new' ho32 (Kd.R_lt (by (with_reducible repeat (first | apply rA | apply rN | apply rD)); exact (Kd.R_mono (Kd.R_far (p := ⟨gb449, 5, none⟩) (Kd.R_far (p := ⟨gb449, 4, none⟩) (Kd.R_far (p := ⟨gb449, 3, none⟩) (Kd.R_far (p := ⟨gb449, 2, none⟩) (Kd.R_far (p := ⟨gb449, 1, none⟩) (Kd.R_far (p := ⟨gb449, 0, none⟩) (Kd.R_mono HO_6.out (fun k_ hk => (⟨hk, hk.2⟩ : _ ∧ k_ ≠ gb449))) (fun _ hk => hk.2) (.int .i64 t442)) (fun _ hk => hk.2) (.int .i64 t443)) (fun _ hk => hk.2) (.int .i64 t444)) (fun _ hk => hk.2) (.int .i64 t445)) (fun _ hk => hk.2) (.int .i64 t446)) (fun _ hk => hk.2) (.int .i64 t447)) (fun _ h_ => h_.1))))) (g := gb449) (o := .cells #[.int .i64 t442, .int .i64 t443, .int .i64 t444, .int .i64 t445, .int .i64 t446, .int .i64 t447] 29 (0, 0)) (by (with_reducible repeat (first | apply kN | apply kD | apply kA)); refine blk_put (cs := #[.int .i64 t442, .int .i64 t443, .int .i64 t444, .int .i64 t445, .int .i64 t446, .int .i64 0]) ?_ 5 _ rfl; (with_reducible repeat (first | apply kN | apply kD | apply kA)); refine blk_put (cs := #[.int .i64 t442, .int .i64 t443, .int .i64 t444, .int .i64 t445, .int .i64 0, .int .i64 0]) ?_ 4 _ rfl; (with_reducible repeat (first | apply kN | apply kD | apply kA)); refine blk_put (cs := #[.int .i64 t442, .int .i64 t443, .int .i64 t444, .int .i64 0, .int .i64 0, .int .i64 0]) ?_ 3 _ rfl; (with_reducible repeat (first | apply kN | apply kD | apply kA)); refine blk_put (cs := #[.int .i64 t442, .int .i64 t443, .int .i64 0, .int .i64 0, .int .i64 0, .int .i64 0]) ?_ 2 _ rfl; (with_reducible repeat (first | apply kN | apply kD | apply kA)); refine blk_put (cs := #[.int .i64 t442, .int .i64 0, .int .i64 0, .int .i64 0, .int .i64 0, .int .i64 0]) ?_ 1 _ rfl; (with_reducible repeat (first | apply kN | apply kD | apply kA)); refine blk_put (cs := #[.int .i64 0, .int .i64 0, .int .i64 0, .int .i64 0, .int .i64 0, .int .i64 0]) ?_ 0 _ rfl; exact blkU BK449.out)) (below_size (by repeat (with_reducible first | exact HB.out | apply bA | apply bN | apply b1 | refine below_set ?_ GE449.out)))); have n3_ := Aside0.mk (blk_below (g := gb449) (o := .cells #[.int .i64 t442, .int .i64 t443, .int .i64 t444, .int .i64 t445, .int .i64 t446, .int .i64 t447] 29 (0, 0)) (by (with_reducible repeat (first | apply kN | apply kD | apply kA)); refine blk_put (cs := #[.int .i64 t442, .int .i64 t443, .int .i64 t444, .int .i64 t445, .int .i64 t446, .int .i64 0]) ?_ 5 _ rfl; (with_reducible repeat (first | apply kN | apply kD | apply kA)); refine blk_put (cs := #[.int .i64 t442, .int .i64 t443, .int .i64 t444, .int .i64 t445, .int .i64 0, .int .i64 0]) ?_ 4 _ rfl; (with_reducible repeat (first | apply kN | apply kD | apply kA)); refine blk_put (cs := #[.int .i64 t442, .int .i64 t443, .int .i64 t444, .int .i64 0, .int .i64 0, .int .i64 0]) ?_ 3 _ rfl; (with_reducible repeat (first | apply kN | apply kD | apply kA)); refine blk_put (cs := #[.int .i64 t442, .int .i64 t443, .int .i64 0, .int .i64 0, .int .i64 0, .int .i64 0]) ?_ 2 _ rfl; (with_reducible repeat (first | apply kN | apply kD | apply kA)); refine blk_put (cs := #[.int .i64 t442, .int .i64 0, .int .i64 0, .int .i64 0, .int .i64 0, .int .i64 0]) ?_ 1 _ rfl; (with_reducible repeat (first | apply kN | apply kD | apply kA)); refine blk_put (cs := #[.int .i64 0, .int .i64 0, .int .i64 0, .int .i64 0, .int .i64 0, .int .i64 0]) ?_ 0 _ rfl; exact blkU BK449.out) hb); have n4_ := Aside0.mk (below_step (by repeat (with_reducible first | exact HB.out | apply bA | apply bN | apply b1 | refine below_set ?_ GE449.out)) hb); clear HO_4; clear HO_6; clear BK449; clear HB; have HO_4 := n0_; have HO_6 := n1_; have HO455 := n2_; have BK449 := n3_; have HB := n4_; clear n0_ n1_ n2_ n3_ n4_; clear hb ho32))
           go_ret2
           exact ⟨_, by first | rfl | (simp [errW_none, errW_some] <;> rfl) | (simp [*, errW_none, errW_some] <;> rfl), by (with_reducible repeat (first | apply rA | apply rN | apply rD)); exact Kd.R_mono HO455.out (fun _ hk => trivial), by repeat (with_reducible first | exact HB.out | apply bA | apply bN | apply b1 | refine below_set ?_ GE449.out)⟩
         ·rw [if_neg c20] at H
          exact absurd H (by simp)
        ·rw [if_neg c19] at H
         exact absurd H (by simp)
       ·rw [if_neg c18] at H
        have c18b0 : decide (x7_2 < (wrap64 ((t431.length : Int) - 1))) = false := decide_eq_false c18
        clear c18
        replace H := Option.bind_eq_some_iff.mp H
        obtain ⟨t456, A330, H⟩ := H
        replace H : (if t456 = true then (some (x6_2, true)) else (some ((([] : List (S29))), false))) = some (r1, r2) := H
        have A33 := Aside0.mk A330
        clear A330
        by_cases c34 : t456 = true
        ·subst c34
         have H1 : (some (x6_2, true)) = some (r1, r2) := by rw [if_pos rfl] at H; exact H
         clear H
         have H := H1
         clear H1
         simp only [Option.some.injEq, Prod.mk.injEq] at H
         obtain ⟨rfl, rfl⟩ := H
         obtain ⟨Ao35, co35, eo35⟩ := Kd.R_slice HO_6.out
         subst eo35
         go_wp2_with (first | ((with_reducible refine gate_callee (f := 33) rfl ?_); refine goesL_ (some 51) rfl rfl Try.func33 (by kernel_rfl) rfl #[.slice Ao35 x6_2.length co35] rfl (by (try simp only [List.map_toArray, List.map_cons, List.map_nil]) <;> rfl) ?_; (with_reducible refine (spec_CodeOk.calls k2 _ _ x6_2 true _ ?side1 ?side2 A33.out).mono ?_); (case side1 => repeat (first | exact (Kd.R_reads' HO_6.out).2.2 | (with_reducible refine Kd.C_alloc ?_ _) | (with_reducible refine Kd.C_drewN ?_ _) | (with_reducible refine Kd.C_drew ?_))); (case side2 => exact (Kd.R_reads' HO_6.out).2.1); rintro e w36 ⟨rfl, hb⟩; refine ⟨_, rfl, ?_⟩; replace HO_4 := Aside0.mk (Kd.R_below (by exact rU HO_4.out) hb); replace HO_6 := Aside0.mk (Kd.R_below (by exact rU HO_6.out) hb); replace HB := Aside0.mk (below_step (by exact bU HB.out) hb); (try clear hb); (try clear hb2); (try clear hk); (try clear hi)))
         go_ret2
         exact ⟨_, by first | rfl | (simp [errW_none, errW_some] <;> rfl) | (simp [*, errW_none, errW_some] <;> rfl), by exact rU HO_6.out, by exact bU HB.out⟩
        ·replace c34 := Bool.eq_false_iff.mpr c34
         subst c34
         have H1 : (some ((([] : List (S29))), false)) = some (r1, r2) := by rw [if_neg (show ¬ (false = true) by decide)] at H; exact H
         clear H
         have H := H1
         clear H1
         obtain ⟨y457, hy457⟩ : ∃ y_ : List (S29), y_ = (([] : List (S29))) := ⟨_, rfl⟩
         replace H : (some (y457, false)) = some (r1, r2) := by first | (rw [hy457]; with_reducible exact H) | (have H2_ := (Option.bind_some _ _).symm.trans H; rw [hy457]; with_reducible exact H2_) | (have H2_ := (Option.bind_some _ _).symm.trans H; with_reducible exact H2_) | with_reducible exact H | (rw [hy457]; exact H) | exact H
         have Ny457 := Aside0.mk hy457
         clear hy457
         simp only [Option.some.injEq, Prod.mk.injEq] at H
         obtain ⟨rfl, rfl⟩ := H
         obtain ⟨Ao37, co37, eo37⟩ := Kd.R_slice HO_6.out
         subst eo37
         go_wp2_with (first | ((with_reducible refine gate_callee (f := 33) rfl ?_); refine goesL_ (some 51) rfl rfl Try.func33 (by kernel_rfl) rfl #[.slice Ao37 x6_2.length co37] rfl (by (try simp only [List.map_toArray, List.map_cons, List.map_nil]) <;> rfl) ?_; (with_reducible refine (spec_CodeOk.calls k2 _ _ x6_2 false _ ?side1 ?side2 A33.out).mono ?_); (case side1 => repeat (first | exact (Kd.R_reads' HO_6.out).2.2 | (with_reducible refine Kd.C_alloc ?_ _) | (with_reducible refine Kd.C_drewN ?_ _) | (with_reducible refine Kd.C_drew ?_))); (case side2 => exact (Kd.R_reads' HO_6.out).2.1); rintro e w38 ⟨rfl, hb⟩; refine ⟨_, rfl, ?_⟩; replace HO_4 := Aside0.mk (Kd.R_below (by exact rU HO_4.out) hb); replace HO_6 := Aside0.mk (Kd.R_below (by exact rU HO_6.out) hb); replace HB := Aside0.mk (below_step (by exact bU HB.out) hb); (try clear hb); (try clear hb2); (try clear hk); (try clear hi)) | ((with_reducible refine gate_dst (N := 53) rfl ?_); refine Kd.R_lit k29 _ 29 ?hg (N := 53) ?hd (xs := ([] : List (S29))) (inner := []) (ok := fun _ => True) (okp := fun _ => True) ?hr ?hp (fun _ hk => hk) trivial (Below.refl _ _) (Nat.le_refl _) (by simp) ?_; (case hd => rfl); (case hg => rfl); (case hr => first | (go_simp; done) | (go_simp; rfl)); (case hp => exact (Reps.none _ _)); intro v458 w39 ho40 hb hg_ hnew_; clear hg_ hnew_; (first | rw [← Ny457.out] at ho40 | (simp only [Int.reduceToNat] at ho40; rw [← Ny457.out] at ho40)); have n0_ := Aside0.mk (Kd.R_below (by exact rU HO_4.out) hb); have n1_ := Aside0.mk (Kd.R_elder' (by exact rU HO_6.out) (Kd.R_base ho40) hb); have n2_ := Aside0.mk (Kd.R_lower (Kd.R_new' ho40 (Kd.R_lt (by exact rU HO_6.out))) (below_size (by exact bU HB.out))); have n3_ := Aside0.mk (below_step (by exact bU HB.out) hb); clear HO_4; clear HO_6; clear HB; have HO_4 := n0_; have HO_6 := n1_; have HO459 := n2_; have HB := n3_; clear n0_ n1_ n2_ n3_; clear hb ho40))
         go_ret2
         exact ⟨_, by first | rfl | (simp [errW_none, errW_some] <;> rfl) | (simp [*, errW_none, errW_some] <;> rfl), by (with_reducible repeat (first | apply rA | apply rN | apply rD)); exact Kd.R_mono HO459.out (fun _ hk => trivial), by exact bU HB.out⟩
end Go.Proofs.Ytmklpbmlgjkbiaa.PS
end
section
namespace Go.Proofs.Ytmklpbmlgjkbiaa.PS
open Go.RowKit Go.Proofs.YtmklpbmlgjkbiaaW.PrintWords Go.Proofs.YtmklpbmlgjkbiaaW.PrintLast Go.Proofs.YtmklpbmlgjkbiaaW.PrintMore
attribute [local go_sem] max2_int min2_int max_two min_two max_three min_three max_four min_four   -- for this text's walks alone
def spec_l3Fills.f (a0 : Int) : Option (Bool) := if a0 = 1 then (some true) else (if a0 = 2 then (some true) else (if a0 = 4 then (some true) else (if a0 = 5 then (some true) else (if a0 = 7 then (some true) else (some (a0 == 8))))))
theorem spec_l3Fills.calls (a0 : Int) (r : Bool) (w : World) (h : spec_l3Fills.f a0 = some r) :
  Calls Try.prog 104 #[.int .i64 a0] w fun e w' => e = .returned (.bool r) ∧ Drawn0 w w' := by
 have H : (if a0 = 1 then (some true) else (if a0 = 2 then (some true) else (if a0 = 4 then (some true) else (if a0 = 5 then (some true) else (if a0 = 7 then (some true) else (some (a0 == 8))))))) = some r := h
 clear h
 by_cases c2 : a0 = 1
 ·rw [if_pos c2] at H
  have c2b0 : (a0 == 1) = true := beq_iff_eq.mpr c2
  have c2b1 : (a0 != 1) = false := bne_eq_false_iff_eq.mpr c2
  clear c2
  obtain rfl := Option.some.inj H
  go_enter Try.func104, Try.ntmps104
  go_wp2
  go_ret
  exact ⟨by first | rfl | (simp; done) | (simp [*]; done), by repeat (first | exact Drawn0.refl _ | apply Drawn0.step)⟩
 ·rw [if_neg c2] at H
  have c2b0 : (a0 == 1) = false := beq_eq_false_iff_ne.mpr c2
  have c2b1 : (a0 != 1) = true := bne_iff_ne.mpr c2
  by_cases c3 : a0 = 2
  ·rw [if_pos c3] at H
   have c3b0 : (a0 == 2) = true := beq_iff_eq.mpr c3
   have c3b1 : (a0 != 2) = false := bne_eq_false_iff_eq.mpr c3
   clear c3
   obtain rfl := Option.some.inj H
   go_enter Try.func104, Try.ntmps104
   go_wp2
   go_ret
   exact ⟨by first | rfl | (simp; done) | (simp [*]; done), by repeat (first | exact Drawn0.refl _ | apply Drawn0.step)⟩
  ·rw [if_neg c3] at H
   have c3b0 : (a0 == 2) = false := beq_eq_false_iff_ne.mpr c3
   have c3b1 : (a0 != 2) = true := bne_iff_ne.mpr c3
   by_cases c4 : a0 = 4
   ·rw [if_pos c4] at H
    have c4b0 : (a0 == 4) = true := beq_iff_eq.mpr c4
    have c4b1 : (a0 != 4) = false := bne_eq_false_iff_eq.mpr c4
    clear c4
    obtain rfl := Option.some.inj H
    go_enter Try.func104, Try.ntmps104
    go_wp2
    go_ret
    exact ⟨by first | rfl | (simp; done) | (simp [*]; done), by repeat (first | exact Drawn0.refl _ | apply Drawn0.step)⟩
   ·rw [if_neg c4] at H
    have c4b0 : (a0 == 4) = false := beq_eq_false_iff_ne.mpr c4
    have c4b1 : (a0 != 4) = true := bne_iff_ne.mpr c4
    by_cases c5 : a0 = 5
    ·rw [if_pos c5] at H
     have c5b0 : (a0 == 5) = true := beq_iff_eq.mpr c5
     have c5b1 : (a0 != 5) = false := bne_eq_false_iff_eq.mpr c5
     clear c5
     obtain rfl := Option.some.inj H
     go_enter Try.func104, Try.ntmps104
     go_wp2
     go_ret
     exact ⟨by first | rfl | (simp; done) | (simp [*]; done), by repeat (first | exact Drawn0.refl _ | apply Drawn0.step)⟩
    ·rw [if_neg c5] at H
     have c5b0 : (a0 == 5) = false := beq_eq_false_iff_ne.mpr c5
     have c5b1 : (a0 != 5) = true := bne_iff_ne.mpr c5
     by_cases c6 : a0 = 7
     ·rw [if_pos c6] at H
      have c6b0 : (a0 == 7) = true := beq_iff_eq.mpr c6
      have c6b1 : (a0 != 7) = false := bne_eq_false_iff_eq.mpr c6
      clear c6
      obtain rfl := Option.some.inj H
      go_enter Try.func104, Try.ntmps104
      go_wp2
      go_ret
      exact ⟨by first | rfl | (simp; done) | (simp [*]; done), by repeat (first | exact Drawn0.refl _ | apply Drawn0.step)⟩
     ·rw [if_neg c6] at H
      have c6b0 : (a0 == 7) = false := beq_eq_false_iff_ne.mpr c6
      have c6b1 : (a0 != 7) = true := bne_iff_ne.mpr c6
      obtain rfl := Option.some.inj H
      go_enter Try.func104, Try.ntmps104
      go_wp2
      go_ret
      exact ⟨by first | rfl | (simp; done) | (simp [*]; done), by repeat (first | exact Drawn0.refl _ | apply Drawn0.step)⟩
def spec_l3Bit.f (a0 : Int) : Option (Int) := (some (([1, 2, 4, 8] : List Int) : List Int)).bind fun y346 => (if 0 ≤ a0 then (if a0 < (y346.length : Int) then (some (rd y346 a0)) else (none)) else (none))
theorem spec_l3Bit.calls (a0 : Int) (r : Int) (w : World) (h : spec_l3Bit.f a0 = some r) :
  Calls Try.prog 99 #[.int .i64 a0] w fun e w' => e = .returned (.int .i64 r) ∧ Below w.heap.size w w' := by
 have HB := Aside0.mk (Below.refl w.heap.size w)
 have H : ((some (([1, 2, 4, 8] : List Int) : List Int)).bind fun y346 => (if 0 ≤ a0 then (if a0 < (y346.length : Int) then (some (rd y346 a0)) else (none)) else (none))) = some r := h
 clear h
 obtain ⟨y346, hy346⟩ : ∃ y_ : List Int, y_ = (([1, 2, 4, 8] : List Int)) := ⟨_, rfl⟩
 replace H : (if 0 ≤ a0 then (if a0 < (y346.length : Int) then (some (rd y346 a0)) else (none)) else (none)) = some r := by first | (rw [hy346]; with_reducible exact H) | (have H2_ := (Option.bind_some _ _).symm.trans H; rw [hy346]; with_reducible exact H2_) | (have H2_ := (Option.bind_some _ _).symm.trans H; with_reducible exact H2_) | with_reducible exact H | (rw [hy346]; exact H) | exact H
 have Ny346 := Aside0.mk hy346
 clear hy346
 by_cases c2 : 0 ≤ a0
 ·rw [if_pos c2] at H
  have c2b0 : decide (0 ≤ a0) = true := decide_eq_true c2
  clear c2
  by_cases c3 : a0 < (y346.length : Int)
  ·rw [if_pos c3] at H
   have c3b0 : decide (a0 < (y346.length : Int)) = true := decide_eq_true c3
   clear c3
   obtain rfl := Option.some.inj H
   go_enter Try.func99, Try.ntmps99
   go_wp2_with (first | ((with_reducible refine gate_dst (N := 3) rfl ?_); refine Kd.R_lit (Kd.int .i64) _ 3 ?hg (N := 3) ?hd (xs := ([1, 2, 4, 8] : List Int)) (inner := [.int .i64 1, .int .i64 2, .int .i64 4, .int .i64 8]) (ok := fun _ => True) (okp := fun _ => True) ?hr ?hp (fun _ hk => hk) trivial (Below.refl _ _) (Nat.le_refl _) (by simp) ?_; (case hd => rfl); (case hg => rfl); (case hr => first | (go_simp; done) | (go_simp; rfl)); (case hp => exact (Reps.one (show Kd.M (Kd.int .i64) _ _ _ 1 [.int .i64 1] from rfl) (Reps.one (show Kd.M (Kd.int .i64) _ _ _ 2 [.int .i64 2] from rfl) (Reps.one (show Kd.M (Kd.int .i64) _ _ _ 4 [.int .i64 4] from rfl) (Reps.one (show Kd.M (Kd.int .i64) _ _ _ 8 [.int .i64 8] from rfl) (Reps.none _ _)))))); intro v347 w4 ho5 hb hg_ hnew_; clear hg_ hnew_; (first | rw [← Ny346.out] at ho5 | (simp only [Int.reduceToNat] at ho5; rw [← Ny346.out] at ho5)); have HO348 := Aside0.mk (Kd.R_lower ho5 (below_size (by exact bU HB.out))); replace HB := Aside0.mk (below_step (by exact bU HB.out) hb); clear hb ho5; obtain ⟨Ao6, co6, eo6⟩ := Kd.R_slice HO348.out; subst eo6; have p349 : 0 ≤ (a0 : Int) := of_decide_eq_true (by assumption); have q349 : a0 < (y346.length : Int) := of_decide_eq_true (by assumption); obtain ⟨ad349, e349, hx349_0⟩ := Kd.at_int (Kd.R_reads' HO348.out).2.2 a0 p349 q349; cases e349; replace p349 := eq_true p349; replace q349 := eq_true q349))
   go_ret
   exact ⟨by first | rfl | (simp [errW_none, errW_some] <;> rfl) | (simp [*, errW_none, errW_some] <;> rfl), by exact bU HB.out⟩
  ·rw [if_neg c3] at H
   exact absurd H (by simp)
 ·rw [if_neg c2] at H
  exact absurd H (by simp)
def spec_l3Has.f (a0 : Int) (a1 : Int) : Option (Bool) := (spec_l3Bit.f a1).bind fun t350 => (if t350 = 0 then (none) else (some ((Int.tmod (wrap64 (Int.tdiv a0 t350)) 2) == 1)))
theorem spec_l3Has.calls (a0 : Int) (a1 : Int) (r : Bool) (w : World) (h : spec_l3Has.f a0 a1 = some r) :
  Calls Try.prog 82 #[.int .i64 a0, .int .i64 a1] w fun e w' => e = .returned (.bool r) ∧ Below w.heap.size w w' := by
 have HB := Aside0.mk (Below.refl w.heap.size w)
 have H : ((spec_l3Bit.f a1).bind fun t350 => (if t350 = 0 then (none) else (some ((Int.tmod (wrap64 (Int.tdiv a0 t350)) 2) == 1)))) = some r := h
 clear h
 replace H := Option.bind_eq_some_iff.mp H
 obtain ⟨t350, A30, H⟩ := H
 replace H : (if t350 = 0 then (none) else (some ((Int.tmod (wrap64 (Int.tdiv a0 t350)) 2) == 1))) = some r := H
 have A3 := Aside0.mk A30
 clear A30
 by_cases c4 : t350 = 0
 ·rw [if_pos c4] at H
  exact absurd H (by simp)
 ·rw [if_neg c4] at H
  have c4b0 : (t350 == 0) = false := beq_eq_false_iff_ne.mpr c4
  have c4b1 : (t350 != 0) = true := bne_iff_ne.mpr c4
  obtain rfl := Option.some.inj H
  go_enter Try.func82, Try.ntmps82
  go_wp2_with (first | ((with_reducible refine gate_callee (f := 99) rfl ?_); refine goesL_ (some 7) rfl rfl Try.func99 (by kernel_rfl) rfl #[.int .i64 a1] rfl (by (try simp only [List.map_toArray, List.map_cons, List.map_nil]) <;> rfl) ?_; (with_reducible refine (spec_l3Bit.calls a1 t350 _ A3.out).mono ?_); rintro e w5 ⟨rfl, hb⟩; refine ⟨_, rfl, ?_⟩; replace HB := Aside0.mk (below_step (by exact bU HB.out) hb); (try clear hb); (try clear hb2); (try clear hk); (try clear hi)))
  go_ret
  exact ⟨by first | rfl | (simp [errW_none, errW_some] <;> rfl) | (simp [*, errW_none, errW_some] <;> rfl), by exact bU HB.out⟩
def spec_l3With.f (a0 : Int) (a1 : Int) : Option (Int) := (spec_l3Has.f a0 a1).bind fun t351 => (if t351 = true then (some a0) else ((spec_l3Bit.f a1).bind fun t352 => (some (wrap64 (a0 + t352)))))
theorem spec_l3With.calls (a0 : Int) (a1 : Int) (r : Int) (w : World) (h : spec_l3With.f a0 a1 = some r) :
  Calls Try.prog 105 #[.int .i64 a0, .int .i64 a1] w fun e w' => e = .returned (.int .i64 r) ∧ Below w.heap.size w w' := by
 have HB := Aside0.mk (Below.refl w.heap.size w)
 have H : ((spec_l3Has.f a0 a1).bind fun t351 => (if t351 = true then (some a0) else ((spec_l3Bit.f a1).bind fun t352 => (some (wrap64 (a0 + t352)))))) = some r := h
 clear h
 replace H := Option.bind_eq_some_iff.mp H
 obtain ⟨t351, A30, H⟩ := H
 replace H : (if t351 = true then (some a0) else ((spec_l3Bit.f a1).bind fun t352 => (some (wrap64 (a0 + t352))))) = some r := H
 have A3 := Aside0.mk A30
 clear A30
 by_cases c4 : t351 = true
 ·subst c4
  have H1 : (some a0) = some r := by rw [if_pos rfl] at H; exact H
  clear H
  have H := H1
  clear H1
  obtain rfl := Option.some.inj H
  go_enter Try.func105, Try.ntmps105
  go_wp2_with (first | ((with_reducible refine gate_callee (f := 82) rfl ?_); refine goesL_ (some 7) rfl rfl Try.func82 (by kernel_rfl) rfl #[.int .i64 a0, .int .i64 a1] rfl (by (try simp only [List.map_toArray, List.map_cons, List.map_nil]) <;> rfl) ?_; (with_reducible refine (spec_l3Has.calls a0 a1 true _ A3.out).mono ?_); rintro e w5 ⟨rfl, hb⟩; refine ⟨_, rfl, ?_⟩; replace HB := Aside0.mk (below_step (by exact bU HB.out) hb); (try clear hb); (try clear hb2); (try clear hk); (try clear hi)))
  go_ret
  exact ⟨by first | rfl | (simp [errW_none, errW_some] <;> rfl) | (simp [*, errW_none, errW_some] <;> rfl), by exact bU HB.out⟩
 ·replace c4 := Bool.eq_false_iff.mpr c4
  subst c4
  have H1 : ((spec_l3Bit.f a1).bind fun t352 => (some (wrap64 (a0 + t352)))) = some r := by rw [if_neg (show ¬ (false = true) by decide)] at H; exact H
  clear H
  have H := H1
  clear H1
  replace H := Option.bind_eq_some_iff.mp H
  obtain ⟨t352, A60, H⟩ := H
  replace H : (some (wrap64 (a0 + t352))) = some r := H
  have A6 := Aside0.mk A60
  clear A60
  obtain rfl := Option.some.inj H
  go_enter Try.func105, Try.ntmps105
  go_wp2_with (first | ((with_reducible refine gate_callee (f := 82) rfl ?_); refine goesL_ (some 7) rfl rfl Try.func82 (by kernel_rfl) rfl #[.int .i64 a0, .int .i64 a1] rfl (by (try simp only [List.map_toArray, List.map_cons, List.map_nil]) <;> rfl) ?_; (with_reducible refine (spec_l3Has.calls a0 a1 false _ A3.out).mono ?_); rintro e w7 ⟨rfl, hb⟩; refine ⟨_, rfl, ?_⟩; replace HB := Aside0.mk (below_step (by exact bU HB.out) hb); (try clear hb); (try clear hb2); (try clear hk); (try clear hi)) | ((with_reducible refine gate_callee (f := 99) rfl ?_); refine goesL_ (some 11) rfl rfl Try.func99 (by kernel_rfl) rfl #[.int .i64 a1] rfl (by (try simp only [List.map_toArray, List.map_cons, List.map_nil]) <;> rfl) ?_; (with_reducible refine (spec_l3Bit.calls a1 t352 _ A6.out).mono ?_); rintro e w8 ⟨rfl, hb⟩; refine ⟨_, rfl, ?_⟩; replace HB := Aside0.mk (below_step (by exact bU HB.out) hb); (try clear hb); (try clear hb2); (try clear hk); (try clear hi)))
  go_ret
  exact ⟨by first | rfl | (simp [errW_none, errW_some] <;> rfl) | (simp [*, errW_none, errW_some] <;> rfl), by exact bU HB.out⟩
end Go.Proofs.Ytmklpbmlgjkbiaa.PS
end
section
namespace Go.Proofs.Ytmklpbmlgjkbiaa.PS
open Go.RowKit Go.Proofs.YtmklpbmlgjkbiaaW.PrintWords Go.Proofs.YtmklpbmlgjkbiaaW.PrintLast Go.Proofs.YtmklpbmlgjkbiaaW.PrintMore
attribute [local go_sem] max2_int min2_int max_two min_two max_three min_three max_four min_four   -- for this text's walks alone
mutual
def spec_l3Both.l0 : Nat → Int → Int → Int → Int → Option (Int)
 | 0, _, _, _, _ => none
 | k + 1, x0, x1, x5, x6 => if x6 ≤ 3 then ((spec_l3Has.f x0 x6).bind fun t353 => (if t353 = true then ((spec_l3Has.f x1 x6).bind fun t354 => (spec_l3Both.j1 k x0 x1 x5 x6 t354)) else (spec_l3Both.j1 k x0 x1 x5 x6 false))) else (some x5)
def spec_l3Both.j1 : Nat → Int → Int → Int → Int → Bool → Option (Int)
 | 0, _, _, _, _, _ => none
 | k + 1, x0, x1, x5, x6, x21 => if x21 = true then ((spec_l3Bit.f x6).bind fun t355 => (spec_l3Both.l0 k x0 x1 (wrap64 (x5 + t355)) (wrap64 (x6 + 1)))) else (spec_l3Both.l0 k x0 x1 x5 (wrap64 (x6 + 1)))
end
def spec_l3Both.f (k : Nat) (a0 : Int) (a1 : Int) : Option (Int) := if a0 < 0 then (some a1) else (spec_l3Both.l0 k a0 a1 0 0)
theorem spec_l3Both.mono_l : ∀ k, (∀ y0 y1 y2 y3, LeO (spec_l3Both.l0 k y0 y1 y2 y3) (spec_l3Both.l0 (k + 1) y0 y1 y2 y3)) ∧ (∀ y0 y1 y2 y3 y4, LeO (spec_l3Both.j1 k y0 y1 y2 y3 y4) (spec_l3Both.j1 (k + 1) y0 y1 y2 y3 y4))
 | 0 => ⟨fun _ _ _ _ r h => by simp [spec_l3Both.l0] at h, fun _ _ _ _ _ r h => by simp [spec_l3Both.j1] at h⟩
 | k + 1 => by
  obtain ⟨ih0, ih1⟩ := spec_l3Both.mono_l k
  refine ⟨?_, ?_⟩
  ·intro y0 y1 y2 y3
   unfold spec_l3Both.l0
   repeat' first
   | (with_reducible exact ih0 _ _ _ _)
   | (with_reducible exact ih1 _ _ _ _ _)
   | (with_reducible exact LeO.refl _)
   | (with_reducible exact LeO.none _)
   | (with_reducible refine LeO.ite ?_ ?_)
   | (with_reducible refine LeO.bind ?_ (fun _ => ?_))
   | exact ih0 _ _ _ _
   | exact ih1 _ _ _ _ _
   | exact LeO.none _
   | refine LeO.ite ?_ ?_
   | refine LeO.bind ?_ (fun _ => ?_)
  ·intro y0 y1 y2 y3 y4
   unfold spec_l3Both.j1
   repeat' first
   | (with_reducible exact ih0 _ _ _ _)
   | (with_reducible exact ih1 _ _ _ _ _)
   | (with_reducible exact LeO.refl _)
   | (with_reducible exact LeO.none _)
   | (with_reducible refine LeO.ite ?_ ?_)
   | (with_reducible refine LeO.bind ?_ (fun _ => ?_))
   | exact ih0 _ _ _ _
   | exact ih1 _ _ _ _ _
   | exact LeO.none _
   | refine LeO.ite ?_ ?_
   | refine LeO.bind ?_ (fun _ => ?_)
theorem spec_l3Both.mono : ∀ a0 a1 k, LeO (spec_l3Both.f k a0 a1) (spec_l3Both.f (k + 1) a0 a1) := by
 intro a0 a1 k
 obtain ⟨ih0, ih1⟩ := spec_l3Both.mono_l k
 unfold spec_l3Both.f
 repeat' first
   | (with_reducible exact ih0 _ _ _ _)
   | (with_reducible exact ih1 _ _ _ _ _)
   | (with_reducible exact LeO.refl _)
   | (with_reducible exact LeO.none _)
   | (with_reducible refine LeO.ite ?_ ?_)
   | (with_reducible refine LeO.bind ?_ (fun _ => ?_))
   | exact ih0 _ _ _ _
   | exact ih1 _ _ _ _ _
   | exact LeO.none _
   | refine LeO.ite ?_ ?_
   | refine LeO.bind ?_ (fun _ => ?_)
theorem spec_l3Both.calls (k : Nat) (a0 : Int) (a1 : Int) (r : Int) (w : World) (h : spec_l3Both.f k a0 a1 = some r) :
  Calls Try.prog 111 #[.int .i64 a0, .int .i64 a1] w fun e w' => e = .returned (.int .i64 r) ∧ Below w.heap.size w w' := by
 have HB := Aside0.mk (Below.refl w.heap.size w)
 have H : (if a0 < 0 then (some a1) else (spec_l3Both.l0 k a0 a1 0 0)) = some r := h
 clear h
 by_cases c3 : a0 < 0
 ·rw [if_pos c3] at H
  have c3b0 : decide (a0 < 0) = true := decide_eq_true c3
  clear c3
  obtain rfl := Option.some.inj H
  go_enter Try.func111, Try.ntmps111
  go_wp2
  go_ret
  exact ⟨by first | rfl | (simp [errW_none, errW_some] <;> rfl) | (simp [*, errW_none, errW_some] <;> rfl), by exact bU HB.out⟩
 ·rw [if_neg c3] at H
  have c3b0 : decide (a0 < 0) = false := decide_eq_false c3
  clear c3
  have H' := Aside0.mk H
  clear H
  go_enter Try.func111, Try.ntmps111
  go_wp2
  go_loopg [5, 6] k (fun kq v5 v6 w' => ∃ (x5_1 : Int) (x6_1 : Int), v5 = .int .i64 x5_1 ∧ v6 = .int .i64 x6_1 ∧ Aside0 (spec_l3Both.l0 kq a0 a1 x5_1 x6_1 = some r) ∧ Aside0 (kq ≤ k) ∧ Aside0 (Below w.heap.size w w'))
  case atStart => exact ⟨(0), (0), (by first | rfl | (simp; done) | (simp [*]; done)), (by first | rfl | (simp; done) | (simp [*]; done)), H', ⟨Nat.le_refl _⟩, ⟨by exact bU HB.out⟩⟩
  case round =>
   clear H'
   (try clear c1); (try clear p2); (try clear c3); (try clear c3b0)
   obtain ⟨x5_1, x6_1, rfl, rfl, HA, HK1, HB⟩ := hrel
   cases gk with
   | zero => exact absurd HA.out (by simp [spec_l3Both.l0])
   | succ k1 =>
    have H := HA.out
    clear HA
    simp only [spec_l3Both.l0] at H
    by_cases c4 : x6_1 ≤ 3
    ·rw [if_pos c4] at H
     have c4b0 : decide (x6_1 ≤ 3) = true := decide_eq_true c4
     clear c4
     have HC5 := Aside0.mk H
     clear H
     go_upto_region 7 with (fail)
     go_cut [21] (fun v21 wc => ∃ (kq : Nat) (x21_4 : Bool), v21 = .bool x21_4 ∧ Aside0 (spec_l3Both.j1 kq a0 a1 x5_1 x6_1 x21_4 = some r) ∧ Aside0 (kq ≤ k1) ∧ Aside0 (Below w.heap.size w wc))
     case first =>
      have H := HC5.out
      clear HC5
      replace H := Option.bind_eq_some_iff.mp H
      obtain ⟨t353, A60, H⟩ := H
      replace H : (if t353 = true then ((spec_l3Has.f a1 x6_1).bind fun t354 => (spec_l3Both.j1 k1 a0 a1 x5_1 x6_1 t354)) else (spec_l3Both.j1 k1 a0 a1 x5_1 x6_1 false)) = some r := H
      have A6 := Aside0.mk A60
      clear A60
      by_cases c7 : t353 = true
      ·subst c7
       have H1 : ((spec_l3Has.f a1 x6_1).bind fun t354 => (spec_l3Both.j1 k1 a0 a1 x5_1 x6_1 t354)) = some r := by rw [if_pos rfl] at H; exact H
       clear H
       have H := H1
       clear H1
       replace H := Option.bind_eq_some_iff.mp H
       obtain ⟨t354, A80, H⟩ := H
       replace H : (spec_l3Both.j1 k1 a0 a1 x5_1 x6_1 t354) = some r := H
       have A8 := Aside0.mk A80
       clear A80
       have H' := Aside0.mk H
       clear H
       go_wp2_with (first | ((with_reducible refine gate_callee (f := 82) rfl ?_); refine goesL_ (some 16) rfl rfl Try.func82 (by kernel_rfl) rfl #[.int .i64 a0, .int .i64 x6_1] rfl (by (try simp only [List.map_toArray, List.map_cons, List.map_nil]) <;> rfl) ?_; (with_reducible refine (spec_l3Has.calls a0 x6_1 true _ A6.out).mono ?_); rintro e w9 ⟨rfl, hb⟩; refine ⟨_, rfl, ?_⟩; replace HB := Aside0.mk (below_step (by exact bU HB.out) hb); (try clear hb); (try clear hb2); (try clear hk); (try clear hi)) | (go_at_call 82; (with_reducible refine (spec_l3Has.calls a1 x6_1 t354 _ A8.out).mono ?_); rintro e w10 ⟨rfl, hb⟩; replace HB := Aside0.mk (below_step (by exact bU HB.out) hb); (try clear hb); (try clear hb2); (try clear hk); (try clear hi)))
       go_meet
       case rel => exact ⟨_, (t354), (by first | rfl | (simp; done) | (simp [*]; done)), H', ⟨by have := HK1.out; first | omega | exact Nat.le_refl _⟩, ⟨by exact bU HB.out⟩⟩
      ·replace c7 := Bool.eq_false_iff.mpr c7
       subst c7
       have H1 : (spec_l3Both.j1 k1 a0 a1 x5_1 x6_1 false) = some r := by rw [if_neg (show ¬ (false = true) by decide)] at H; exact H
       clear H
       have H := H1
       clear H1
       have H' := Aside0.mk H
       clear H
       go_wp2_with (first | ((with_reducible refine gate_callee (f := 82) rfl ?_); refine goesL_ (some 16) rfl rfl Try.func82 (by kernel_rfl) rfl #[.int .i64 a0, .int .i64 x6_1] rfl (by (try simp only [List.map_toArray, List.map_cons, List.map_nil]) <;> rfl) ?_; (with_reducible refine (spec_l3Has.calls a0 x6_1 false _ A6.out).mono ?_); rintro e w11 ⟨rfl, hb⟩; refine ⟨_, rfl, ?_⟩; replace HB := Aside0.mk (below_step (by exact bU HB.out) hb); (try clear hb); (try clear hb2); (try clear hk); (try clear hi)))
       go_meet
       case rel => exact ⟨_, (false), (by first | rfl | (simp; done) | (simp [*]; done)), H', ⟨by have := HK1.out; first | omega | exact Nat.le_refl _⟩, ⟨by exact bU HB.out⟩⟩
     case rest =>
      clear HC5
      (try clear c1); (try clear p2); (try clear c3); (try clear c3b0); (try clear c4); (try clear c4b0); (try clear c7); (try clear c8); (try clear c11); (try clear p2)
      obtain ⟨kq, x21_4, rfl, HA, HJ4, HB⟩ := hcut
      cases kq with
      | zero => exact absurd HA.out (by simp [spec_l3Both.j1])
      | succ kj4 =>
       have H := HA.out
       clear HA
       simp only [spec_l3Both.j1] at H
       by_cases c12 : x21_4 = true
       ·subst c12
        have H1 : ((spec_l3Bit.f x6_1).bind fun t355 => (spec_l3Both.l0 kj4 a0 a1 (wrap64 (x5_1 + t355)) (wrap64 (x6_1 + 1)))) = some r := by rw [if_pos rfl] at H; exact H
        clear H
        have H := H1
        clear H1
        replace H := Option.bind_eq_some_iff.mp H
        obtain ⟨t355, A130, H⟩ := H
        replace H : (spec_l3Both.l0 kj4 a0 a1 (wrap64 (x5_1 + t355)) (wrap64 (x6_1 + 1))) = some r := H
        have A13 := Aside0.mk A130
        clear A130
        have H' := Aside0.mk H
        clear H
        go_wp2_with (first | ((with_reducible refine gate_callee (f := 99) rfl ?_); refine goesL_ (some 24) rfl rfl Try.func99 (by kernel_rfl) rfl #[.int .i64 x6_1] rfl (by (try simp only [List.map_toArray, List.map_cons, List.map_nil]) <;> rfl) ?_; (with_reducible refine (spec_l3Bit.calls x6_1 t355 _ A13.out).mono ?_); rintro e w14 ⟨rfl, hb⟩; refine ⟨_, rfl, ?_⟩; replace HB := Aside0.mk (below_step (by exact bU HB.out) hb); (try clear hb); (try clear hb2); (try clear hk); (try clear hi)))
        go_roundg kj4
        case measure => have := HK1.out; have := HJ4.out; omega
        case rel => exact ⟨(wrap64 (x5_1 + t355)), (wrap64 (x6_1 + 1)), (by first | rfl | (simp; done) | (simp [*]; done)), (by first | rfl | (simp; done) | (simp [*]; done)), H', ⟨by have := HK1.out; have := HJ4.out; omega⟩, ⟨by exact bU HB.out⟩⟩
       ·replace c12 := Bool.eq_false_iff.mpr c12
        subst c12
        have H1 : (spec_l3Both.l0 kj4 a0 a1 x5_1 (wrap64 (x6_1 + 1))) = some r := by rw [if_neg (show ¬ (false = true) by decide)] at H; exact H
        clear H
        have H := H1
        clear H1
        have H' := Aside0.mk H
        clear H
        go_wp2
        go_roundg kj4
        case measure => have := HK1.out; have := HJ4.out; omega
        case rel => exact ⟨(x5_1), (wrap64 (x6_1 + 1)), (by first | rfl | (simp; done) | (simp [*]; done)), (by first | rfl | (simp; done) | (simp [*]; done)), H', ⟨by have := HK1.out; have := HJ4.out; omega⟩, ⟨by exact bU HB.out⟩⟩
    ·rw [if_neg c4] at H
     have c4b0 : decide (x6_1 ≤ 3) = false := decide_eq_false c4
     clear c4
     obtain rfl := Option.some.inj H
     go_wp2
     go_ret
     exact ⟨by first | rfl | (simp [errW_none, errW_some] <;> rfl) | (simp [*, errW_none, errW_some] <;> rfl), by exact bU HB.out⟩
def spec_l3Merge.f (k : Nat) (l0 : List Int) (a1 : Int) (a2 : Int) : Option (Bool × List Int) := if a1 ≥ (l0.length : Int) then (some (false, l0)) else (if 0 ≤ a1 then (if a1 < (l0.length : Int) then ((spec_l3Both.f k (rd l0 a1) a2).bind fun t357 => (if t357 = (rd l0 a1) then (some (false, l0)) else (some (true, (l0.set (a1 : Int).toNat t357))))) else (none)) else (none))
theorem spec_l3Merge.calls (k : Nat) (P0_ : Nat → Prop) (u9000_ : Value) (l0 : List Int) (a1 : Int) (a2 : Int) (r1 : Bool) (r2 : List Int) (w0 w : World) (hB : Below w0.heap.size w0 w) (ho0 : Kd.R (Kd.int .i64) 3 w w0.heap.size P0_ u9000_ l0) (h : spec_l3Merge.f k l0 a1 a2 = some (r1, r2)) :
  Calls Try.prog 106 #[u9000_, .int .i64 a1, .int .i64 a2] w fun e w' => e = .returned (.bool r1) ∧ Kd.R (Kd.int .i64) 3 w' w0.heap.size (fun k_ => (P0_ k_ ∨ w.heap.size ≤ k_)) u9000_ r2 ∧ Below w0.heap.size w0 w' ∧ Kept w w' (fun k_ => P0_ k_) := by
 have HO0 := Aside0.mk (show Kd.R (Kd.int .i64) 3 w w0.heap.size (fun k_ => (P0_ k_ ∨ w.heap.size ≤ k_)) u9000_ l0 from Kd.R_mono ho0 (fun k_ hk => (.inl hk)))
 have HK := Aside0.mk (Kept.refl w (fun k_ => P0_ k_))
 have HW0 := Aside0.mk hB.size
 have HB := Aside0.mk hB
 clear hB
 have H : (if a1 ≥ (l0.length : Int) then (some (false, l0)) else (if 0 ≤ a1 then (if a1 < (l0.length : Int) then ((spec_l3Both.f k (rd l0 a1) a2).bind fun t357 => (if t357 = (rd l0 a1) then (some (false, l0)) else (some (true, (l0.set (a1 : Int).toNat t357))))) else (none)) else (none))) = some (r1, r2) := h
 clear h
 by_cases c4 : a1 ≥ (l0.length : Int)
 ·rw [if_pos c4] at H
  have c4b0 : decide ((l0.length : Int) ≤ a1) = true := decide_eq_true c4
  clear c4
  simp only [Option.some.injEq, Prod.mk.injEq] at H
  obtain ⟨rfl, rfl⟩ := H
  obtain ⟨Ao5, co5, eo5⟩ := Kd.R_slice HO0.out
  subst eo5
  go_enter Try.func106, Try.ntmps106
  go_wp2
  go_ret
  exact ⟨by first | rfl | (simp [errW_none, errW_some] <;> rfl) | (simp [*, errW_none, errW_some] <;> rfl), by exact rU HO0.out, by exact bU HB.out, by repeat (with_reducible first | exact HK.out | apply Kept.alloc | apply Kept.drewN | apply Kept.drew)⟩
 ·rw [if_neg c4] at H
  have c4b0 : decide ((l0.length : Int) ≤ a1) = false := decide_eq_false c4
  clear c4
  by_cases c6 : 0 ≤ a1
  ·rw [if_pos c6] at H
   have c6b0 : decide (0 ≤ a1) = true := decide_eq_true c6
   clear c6
   by_cases c7 : a1 < (l0.length : Int)
   ·rw [if_pos c7] at H
    have c7b0 : decide (a1 < (l0.length : Int)) = true := decide_eq_true c7
    clear c7
    replace H := Option.bind_eq_some_iff.mp H
    obtain ⟨t357, A80, H⟩ := H
    replace H : (if t357 = (rd l0 a1) then (some (false, l0)) else (some (true, (l0.set (a1 : Int).toNat t357)))) = some (r1, r2) := H
    have A8 := Aside0.mk A80
    clear A80
    by_cases c9 : t357 = (rd l0 a1)
    ·rw [if_pos c9] at H
     have c9b0 : (t357 == (rd l0 a1)) = true := beq_iff_eq.mpr c9
     have c9b1 : (t357 != (rd l0 a1)) = false := bne_eq_false_iff_eq.mpr c9
     clear c9
     simp only [Option.some.injEq, Prod.mk.injEq] at H
     obtain ⟨rfl, rfl⟩ := H
     obtain ⟨Ao10, co10, eo10⟩ := Kd.R_slice HO0.out
     subst eo10
     have p356 : 0 ≤ (a1 : Int) := of_decide_eq_true (by assumption)
     have q356 : a1 < (l0.length : Int) := of_decide_eq_true (by assumption)
     obtain ⟨ad356, e356, hx356_0⟩ := Kd.at_int (Kd.R_reads' HO0.out).2.2 a1 p356 q356
     cases e356
     replace p356 := eq_true p356
     replace q356 := eq_true q356
     go_enter Try.func106, Try.ntmps106
     go_wp2_with (first | ((with_reducible refine gate_callee (f := 111) rfl ?_); refine goesL_ (some 17) rfl rfl Try.func111 (by kernel_rfl) rfl #[.int .i64 (rd l0 a1), .int .i64 a2] rfl (by (try simp only [List.map_toArray, List.map_cons, List.map_nil]) <;> rfl) ?_; (with_reducible refine (spec_l3Both.calls k (rd l0 a1) a2 t357 _ A8.out).mono ?_); rintro e w11 ⟨rfl, hb⟩; refine ⟨_, rfl, ?_⟩; replace HO0 := Aside0.mk (Kd.R_below (by exact rU HO0.out) hb); replace HK := Aside0.mk (Kept.below (S := (fun k_ => P0_ k_)) (by repeat (with_reducible first | exact HK.out | apply Kept.alloc | apply Kept.drewN | apply Kept.drew)) hb); replace HB := Aside0.mk (below_step (by exact bU HB.out) hb); (try clear hb); (try clear hb2); (try clear hk); (try clear hi); have p358 : 0 ≤ (a1 : Int) := of_decide_eq_true (by assumption); have q358 : a1 < (l0.length : Int) := of_decide_eq_true (by assumption); obtain ⟨ad358, e358, hx358_0⟩ := Kd.at_int (Kd.R_reads' HO0.out).2.2 a1 p358 q358; obtain rfl : ad356 = ad358 := (by injection e358); replace p358 := eq_true p358; replace q358 := eq_true q358))
     go_ret
     exact ⟨by first | rfl | (simp [errW_none, errW_some] <;> rfl) | (simp [*, errW_none, errW_some] <;> rfl), by exact rU HO0.out, by exact bU HB.out, by repeat (with_reducible first | exact HK.out | apply Kept.alloc | apply Kept.drewN | apply Kept.drew)⟩
    ·rw [if_neg c9] at H
     have c9b0 : (t357 == (rd l0 a1)) = false := beq_eq_false_iff_ne.mpr c9
     have c9b1 : (t357 != (rd l0 a1)) = true := bne_iff_ne.mpr c9
     obtain ⟨y359, hy359⟩ : ∃ y_ : List Int, y_ = (l0.set (a1 : Int).toNat t357) := ⟨_, rfl⟩
     replace H : (some (true, y359)) = some (r1, r2) := by first | (rw [hy359]; with_reducible exact H) | (have H2_ := (Option.bind_some _ _).symm.trans H; rw [hy359]; with_reducible exact H2_) | (have H2_ := (Option.bind_some _ _).symm.trans H; with_reducible exact H2_) | with_reducible exact H | (rw [hy359]; exact H) | exact H
     have Ny359 := Aside0.mk hy359
     clear hy359
     simp only [Option.some.injEq, Prod.mk.injEq] at H
     obtain ⟨rfl, rfl⟩ := H
     obtain ⟨Ao13, co13, eo13⟩ := Kd.R_slice HO0.out
     subst eo13
     have p356 : 0 ≤ (a1 : Int) := of_decide_eq_true (by assumption)
     have q356 : a1 < (l0.length : Int) := of_decide_eq_true (by assumption)
     obtain ⟨ad356, e356, hx356_0⟩ := Kd.at_int (Kd.R_reads' HO0.out).2.2 a1 p356 q356
     cases e356
     replace p356 := eq_true p356
     replace q356 := eq_true q356
     go_enter Try.func106, Try.ntmps106
     go_wp2_with (first | ((with_reducible refine gate_callee (f := 111) rfl ?_); refine goesL_ (some 17) rfl rfl Try.func111 (by kernel_rfl) rfl #[.int .i64 (rd l0 a1), .int .i64 a2] rfl (by (try simp only [List.map_toArray, List.map_cons, List.map_nil]) <;> rfl) ?_; (with_reducible refine (spec_l3Both.calls k (rd l0 a1) a2 t357 _ A8.out).mono ?_); rintro e w14 ⟨rfl, hb⟩; refine ⟨_, rfl, ?_⟩; replace HO0 := Aside0.mk (Kd.R_below (by exact rU HO0.out) hb); replace HK := Aside0.mk (Kept.below (S := (fun k_ => P0_ k_)) (by repeat (with_reducible first | exact HK.out | apply Kept.alloc | apply Kept.drewN | apply Kept.drew)) hb); replace HB := Aside0.mk (below_step (by exact bU HB.out) hb); (try clear hb); (try clear hb2); (try clear hk); (try clear hi); have p358 : 0 ≤ (a1 : Int) := of_decide_eq_true (by assumption); have q358 : a1 < (l0.length : Int) := of_decide_eq_true (by assumption); obtain ⟨ad358, e358, hx358_0⟩ := Kd.at_int (Kd.R_reads' HO0.out).2.2 a1 p358 q358; obtain rfl : ad356 = ad358 := (by injection e358); replace p358 := eq_true p358; replace q358 := eq_true q358; have p12 : 0 ≤ (a1 : Int) := of_decide_eq_true (by assumption); have q12 : (a1 : Int) < ((l0.length : Int) : Int) := of_decide_eq_true (by assumption); obtain ⟨go12, co12, eo12, gb12, gl12, cl12, HG12⟩ := Kd.R_form HO0.out (by omega); (first | cases eo12 | (injection eo12 with ea_ en_ ec_; (first | subst ea_ | (injection ea_ with ea_; subst ea_)); subst ec_; clear en_)); have GB12 := Aside0.mk gb12; have GG12 := Aside0.mk HG12; clear gb12 gl12 HG12; have HMgo12 := Aside0.mk (show (P0_ go12 ∨ w.heap.size ≤ go12) from (HO0.out.1 _ rfl)); (first | simp only [add_plain] at hx356_0 | skip); (first | simp only [add_plain] at hx358_0 | skip); obtain ⟨hx12_0, hf12_0⟩ := Kd.R_celln 0 HO0.out (a1 : Int) p12 q12; replace p12 := eq_true p12; replace q12 := eq_true q12; obtain ⟨hy15_, hz15_⟩ := Kd.R_celln 0 HO0.out (a1 : Int) (of_decide_eq_true (by assumption)) (of_decide_eq_true (by assumption)); have HP15 := Kd.R_putg HO0.out (a1 : Int) t357) | ((with_reducible refine gate_store (t := 3) (p := 27) rfl ?_); refine store_event (t := 3) (p := 27) (v := ?vo_w16) (w1 := (w14.setCell ⟨go12, (a1 : Int).toNat, none⟩ (.int .i64 t357))) ?hg ?ho ?hn ?hr ?_; (case ho => rfl); (case hg => rfl); (case hn => rfl); (case hr => first | (go_simp; done) | (go_simp; rfl)); intro w16 hw; have hg : w14.grownBy w16 (some go12) := (by rw [hw]; exact HP15.2); have hp_ : Kd.R (Kd.int .i64) 3 w16 w0.heap.size (fun k_ => (P0_ k_ ∨ w.heap.size ≤ k_)) (.slice (some ⟨go12, 0, none⟩) l0.length co13) y359 := (by rw [hw, Ny359.out]; exact HP15.1); clear HP15; have n0_ := Aside0.mk (hp_); have n1_ := Aside0.mk ((by rw [hw]; exact below_set (HB.out) GB12.out : Below w0.heap.size w0 w16)); have n2_ := Aside0.mk (Kept.of_grown (S := (fun k_ => P0_ k_)) hg (by repeat (with_reducible first | exact HK.out | apply Kept.alloc | apply Kept.drewN | apply Kept.drew)) (fun k_ e_ => (HO0.out.1 k_ e_))); clear HO0; clear HB; clear HK; have HO0 := n0_; have HB := n1_; have HK := n2_; clear n0_ n1_ n2_; clear hg hw hp_))
     go_ret
     exact ⟨by first | rfl | (simp [errW_none, errW_some] <;> rfl) | (simp [*, errW_none, errW_some] <;> rfl), by exact rU HO0.out, by exact bU HB.out, by repeat (with_reducible first | exact HK.out | apply Kept.alloc | apply Kept.drewN | apply Kept.drew)⟩
   ·rw [if_neg c7] at H
    exact absurd H (by simp)
  ·rw [if_neg c6] at H
   exact absurd H (by simp)
end Go.Proofs.Ytmklpbmlgjkbiaa.PS
end
section
namespace Go.Proofs.Ytmklpbmlgjkbiaa.PS
open Go.RowKit Go.Proofs.YtmklpbmlgjkbiaaW.PrintWords Go.Proofs.YtmklpbmlgjkbiaaW.PrintLast Go.Proofs.YtmklpbmlgjkbiaaW.PrintMore
attribute [local go_sem] max2_int min2_int max_two min_two max_three min_three max_four min_four   -- for this text's walks alone
mutual
def spec_l3From.j0 : Nat → List Int → Int → Int → Int → Int → Int → Int → Int → Int → Int → Option (Bool × List Int)
 | 0, _, _, _, _, _, _, _, _, _, _ => none
 | k + 1, x1, x2, x8, x9, x362000, x362001, x362002, x362003, x362004, x362005 => if x362000 = 5 then ((spec_l3Merge.f k x1 x362003 1).bind fun bt365 => (spec_l3From.j2 k bt365.2 x2 x9 bt365.1)) else (if x362000 = 9 then ((spec_l3Merge.f k x1 x362003 x8).bind fun bt367 => (some (bt367.1, bt367.2))) else (if x362000 = 8 then (spec_l3From.j1 k x1 x2 x8 x9 false x362000 (x362000 == 8) x362000 x362001 x362002 x362003 x362004 x362005) else (spec_l3From.j1 k x1 x2 x8 x9 false x362000 (x362000 == 10) x362000 x362001 x362002 x362003 x362004 x362005)))
def spec_l3From.j2 : Nat → List Int → Int → Int → Bool → Option (Bool × List Int)
 | 0, _, _, _, _ => none
 | k + 1, x1, x2, x9, x10 => (spec_l3Merge.f k x1 (wrap64 (x2 + 1)) x9).bind fun bt371 => (if bt371.1 = true then (some (true, bt371.2)) else (some (x10, bt371.2)))
def spec_l3From.j1 : Nat → List Int → Int → Int → Int → Bool → Int → Bool → Int → Int → Int → Int → Int → Int → Option (Bool × List Int)
 | 0, _, _, _, _, _, _, _, _, _, _, _, _, _ => none
 | k + 1, x1, x2, x8, x9, x10, x28, x42, x362000, x362001, x362002, x362003, x362004, x362005 => if x42 = true then ((spec_l3Merge.f k x1 x362003 x8).bind fun bt369 => (spec_l3From.j2 k bt369.2 x2 x9 bt369.1)) else (if x28 = 14 then (some (false, x1)) else (spec_l3From.j2 k x1 x2 x9 x10))
end
def spec_l3From.f (k : Nat) (l0 : List (S29)) (l1 : List Int) (a2 : Int) : Option (Bool × List Int) := if 0 ≤ a2 then (if a2 < (l0.length : Int) then (if a2 < (l1.length : Int) then ((spec_l3Fills.f ((rd_T29 l0 a2).f0)).bind fun t363 => (if t363 = true then ((spec_l3With.f (rd l1 a2) ((rd_T29 l0 a2).f1)).bind fun t364 => (spec_l3From.j0 k l1 a2 (rd l1 a2) t364 ((rd_T29 l0 a2).f0) ((rd_T29 l0 a2).f1) ((rd_T29 l0 a2).f2) ((rd_T29 l0 a2).f3) ((rd_T29 l0 a2).f4.f0) ((rd_T29 l0 a2).f4.f1))) else (spec_l3From.j0 k l1 a2 (rd l1 a2) (rd l1 a2) ((rd_T29 l0 a2).f0) ((rd_T29 l0 a2).f1) ((rd_T29 l0 a2).f2) ((rd_T29 l0 a2).f3) ((rd_T29 l0 a2).f4.f0) ((rd_T29 l0 a2).f4.f1)))) else (none)) else (none)) else (none)
theorem spec_l3From.calls (k : Nat) (A0 : Option Addr) (c0 : Nat) (l0 : List (S29)) (P1_ : Nat → Prop) (u9000_ : Value) (l1 : List Int) (a2 : Int) (r1 : Bool) (r2 : List Int) (w0 w : World) (hB : Below w0.heap.size w0 w) (hr0 : ∀ W_, Kept w W_ (fun k_ => P1_ k_) → Kd.C k29 W_ A0 l0.length l0) (hc0 : l0.length ≤ c0) (ho1 : Kd.R (Kd.int .i64) 3 w w0.heap.size P1_ u9000_ l1) (h : spec_l3From.f k l0 l1 a2 = some (r1, r2)) :
  Calls Try.prog 98 #[.slice A0 l0.length c0, u9000_, .int .i64 a2] w fun e w' => e = .returned (.bool r1) ∧ Kd.R (Kd.int .i64) 3 w' w0.heap.size (fun k_ => (P1_ k_ ∨ w.heap.size ≤ k_)) u9000_ r2 ∧ Below w0.heap.size w0 w' ∧ Kept w w' (fun k_ => P1_ k_) := by
 have hu29 := Try.underlying29
 have HR0 := Aside0.mk hr0
 have HC0 := Aside0.mk hc0
 clear hr0 hc0
 have HO1 := Aside0.mk (show Kd.R (Kd.int .i64) 3 w w0.heap.size (fun k_ => (P1_ k_ ∨ w.heap.size ≤ k_)) u9000_ l1 from Kd.R_mono ho1 (fun k_ hk => (.inl hk)))
 have HK := Aside0.mk (Kept.refl w (fun k_ => P1_ k_))
 have HW0 := Aside0.mk hB.size
 have HB := Aside0.mk hB
 clear hB
 have H : (if 0 ≤ a2 then (if a2 < (l0.length : Int) then (if a2 < (l1.length : Int) then ((spec_l3Fills.f ((rd_T29 l0 a2).f0)).bind fun t363 => (if t363 = true then ((spec_l3With.f (rd l1 a2) ((rd_T29 l0 a2).f1)).bind fun t364 => (spec_l3From.j0 k l1 a2 (rd l1 a2) t364 ((rd_T29 l0 a2).f0) ((rd_T29 l0 a2).f1) ((rd_T29 l0 a2).f2) ((rd_T29 l0 a2).f3) ((rd_T29 l0 a2).f4.f0) ((rd_T29 l0 a2).f4.f1))) else (spec_l3From.j0 k l1 a2 (rd l1 a2) (rd l1 a2) ((rd_T29 l0 a2).f0) ((rd_T29 l0 a2).f1) ((rd_T29 l0 a2).f2) ((rd_T29 l0 a2).f3) ((rd_T29 l0 a2).f4.f0) ((rd_T29 l0 a2).f4.f1)))) else (none)) else (none)) else (none)) = some (r1, r2) := h
 clear h
 by_cases c4 : 0 ≤ a2
 ·rw [if_pos c4] at H
  have c4b0 : decide (0 ≤ a2) = true := decide_eq_true c4
  clear c4
  by_cases c5 : a2 < (l0.length : Int)
  ·rw [if_pos c5] at H
   have c5b0 : decide (a2 < (l0.length : Int)) = true := decide_eq_true c5
   clear c5
   by_cases c6 : a2 < (l1.length : Int)
   ·rw [if_pos c6] at H
    have c6b0 : decide (a2 < (l1.length : Int)) = true := decide_eq_true c6
    clear c6
    replace H := Option.bind_eq_some_iff.mp H
    obtain ⟨t363, A70, H⟩ := H
    replace H : (if t363 = true then ((spec_l3With.f (rd l1 a2) ((rd_T29 l0 a2).f1)).bind fun t364 => (spec_l3From.j0 k l1 a2 (rd l1 a2) t364 ((rd_T29 l0 a2).f0) ((rd_T29 l0 a2).f1) ((rd_T29 l0 a2).f2) ((rd_T29 l0 a2).f3) ((rd_T29 l0 a2).f4.f0) ((rd_T29 l0 a2).f4.f1))) else (spec_l3From.j0 k l1 a2 (rd l1 a2) (rd l1 a2) ((rd_T29 l0 a2).f0) ((rd_T29 l0 a2).f1) ((rd_T29 l0 a2).f2) ((rd_T29 l0 a2).f3) ((rd_T29 l0 a2).f4.f0) ((rd_T29 l0 a2).f4.f1))) = some (r1, r2) := H
    have A7 := Aside0.mk A70
    clear A70
    have HC8 := Aside0.mk H
    clear H
    have p360 : 0 ≤ (a2 : Int) := of_decide_eq_true (by assumption)
    have q360 : a2 < (l0.length : Int) := of_decide_eq_true (by assumption)
    obtain ⟨ad360, e360, hx360_0, hx360_1, hx360_2, hx360_3, hx360_4, hx360_5⟩ := at_T29 (Kd.C_kept_now HR0.out HK.out) a2 p360 q360
    cases e360
    replace p360 := eq_true p360
    replace q360 := eq_true q360
    go_enter Try.func98, Try.ntmps98
    go_upto_if 22 with (first | ((with_reducible refine gate_dst (N := 7) rfl ?_); refine box_event ?hg (N := 7) ?hd (cs := #[.int .i64 0, .int .i64 0, .int .i64 0, .int .i64 0, .int .i64 0, .int .i64 0]) (t := 29) ?hr ?_; (case hd => rfl); (case hg => rfl); (case hr => first | (go_simp; done) | (go_simp; rfl)); intro gb361 hg w9 hbox hb; have n0_ := Aside0.mk (Kd.R_below (by exact rU HO1.out) hb); have n1_ := Aside0.mk (Kept.below (S := (fun k_ => P1_ k_)) (by repeat (with_reducible first | exact HK.out | apply Kept.alloc | apply Kept.drewN | apply Kept.drew)) hb); have n2_ := Aside0.mk (below_step (by exact bU HB.out) hb); have n3_ := Aside0.mk (hbox); have n4_ := Aside0.mk ((by rw [hg]; exact (by first | exact HK.out.1 | exact (show Kept w _ (fun k_ => P1_ k_) from by repeat (with_reducible first | exact HK.out | apply Kept.alloc | apply Kept.drewN | apply Kept.drew)).1) : w.heap.size ≤ gb361)); have n5_ := Aside0.mk ((by rw [hg]; exact (below_size (by exact bU HB.out)) : w0.heap.size ≤ gb361)); clear HO1; clear HK; clear HB; have HO1 := n0_; have HK := n1_; have HB := n2_; have BK361 := n3_; have GW361 := n4_; have GE361 := n5_; clear n0_ n1_ n2_ n3_ n4_ n5_; clear hb hbox hg; obtain ⟨hcz10_0, hcz10_1, hcz10_2, hcz10_3, hcz10_4, hcz10_5⟩ := six_cells BK361.out; obtain ⟨hfz10_0, hfz10_1, hfz10_2, hfz10_3, hfz10_4, hfz10_5⟩ := six_marks BK361.out; obtain ⟨Ao11, co11, eo11⟩ := Kd.R_slice HO1.out; subst eo11; have p362 : 0 ≤ (a2 : Int) := of_decide_eq_true (by assumption); have q362 : a2 < (l1.length : Int) := of_decide_eq_true (by assumption); obtain ⟨ad362, e362, hx362_0⟩ := Kd.at_int (Kd.R_reads' HO1.out).2.2 a2 p362 q362; cases e362; have hn362_0 : ad362.block ≠ gb361 := Kd.own_blk (Kd.R_ne HO1.out BK361.out (by decide)); have hn362_1 : ad362.block ≠ gb361 := Kd.own_blk (Kd.R_ne HO1.out BK361.out (by decide)); have hn362_2 : ad362.block ≠ gb361 := Kd.own_blk (Kd.R_ne HO1.out BK361.out (by decide)); have hn362_3 : ad362.block ≠ gb361 := Kd.own_blk (Kd.R_ne HO1.out BK361.out (by decide)); have hn362_4 : ad362.block ≠ gb361 := Kd.own_blk (Kd.R_ne HO1.out BK361.out (by decide)); have hn362_5 : ad362.block ≠ gb361 := Kd.own_blk (Kd.R_ne HO1.out BK361.out (by decide)); replace hx362_0 := (cell_far (p := ⟨gb361, 0, none⟩) (by first | (rw [add_block]; exact hn362_0) | (show (Addr.add _ _).block ≠ _; rw [add_block]; exact hn362_0) | exact hn362_0) (.int .i64 ((rd_T29 l0 a2).f0))).trans hx362_0; replace hx362_0 := (cell_far (p := ⟨gb361, 1, none⟩) (by first | (rw [add_block]; exact hn362_1) | (show (Addr.add _ _).block ≠ _; rw [add_block]; exact hn362_1) | exact hn362_1) (.int .i64 ((rd_T29 l0 a2).f1))).trans hx362_0; replace hx362_0 := (cell_far (p := ⟨gb361, 2, none⟩) (by first | (rw [add_block]; exact hn362_2) | (show (Addr.add _ _).block ≠ _; rw [add_block]; exact hn362_2) | exact hn362_2) (.int .i64 ((rd_T29 l0 a2).f2))).trans hx362_0; replace hx362_0 := (cell_far (p := ⟨gb361, 3, none⟩) (by first | (rw [add_block]; exact hn362_3) | (show (Addr.add _ _).block ≠ _; rw [add_block]; exact hn362_3) | exact hn362_3) (.int .i64 ((rd_T29 l0 a2).f3))).trans hx362_0; replace hx362_0 := (cell_far (p := ⟨gb361, 4, none⟩) (by first | (rw [add_block]; exact hn362_4) | (show (Addr.add _ _).block ≠ _; rw [add_block]; exact hn362_4) | exact hn362_4) (.int .i64 ((rd_T29 l0 a2).f4.f0))).trans hx362_0; replace hx362_0 := (cell_far (p := ⟨gb361, 5, none⟩) (by first | (rw [add_block]; exact hn362_5) | (show (Addr.add _ _).block ≠ _; rw [add_block]; exact hn362_5) | exact hn362_5) (.int .i64 ((rd_T29 l0 a2).f4.f1))).trans hx362_0; clear hn362_0; clear hn362_1; clear hn362_2; clear hn362_3; clear hn362_4; clear hn362_5; replace p362 := eq_true p362; replace q362 := eq_true q362) | ((with_reducible refine gate_callee (f := 104) rfl ?_); refine goesL_ (some 22) rfl rfl Try.func104 (by kernel_rfl) rfl #[.int .i64 ((rd_T29 l0 a2).f0)] rfl (by (try simp only [List.map_toArray, List.map_cons, List.map_nil]) <;> rfl) ?_; (with_reducible refine (spec_l3Fills.calls ((rd_T29 l0 a2).f0) t363 _ A7.out).mono ?_); rintro e w' ⟨rfl, ⟨nd, rfl⟩⟩; refine ⟨_, rfl, ?_⟩))
    (try simp only [Act.put, List.setIfInBounds_toArray, List.set_cons_zero, List.set_cons_succ])
    go_cut [9] (fun v9 wc => ∃ (kq : Nat) (x9_7 : Int), v9 = .int .i64 x9_7 ∧ Aside0 (spec_l3From.j0 kq l1 a2 (rd l1 a2) x9_7 ((rd_T29 l0 a2).f0) ((rd_T29 l0 a2).f1) ((rd_T29 l0 a2).f2) ((rd_T29 l0 a2).f3) ((rd_T29 l0 a2).f4.f0) ((rd_T29 l0 a2).f4.f1) = some (r1, r2)) ∧ Aside0 (kq ≤ k) ∧ Aside0 (Kd.R (Kd.int .i64) 3 wc w0.heap.size (fun k_ => (P1_ k_ ∨ w.heap.size ≤ k_)) (.slice (some ad362) l1.length co11) l1) ∧ Aside0 (wc.heap[gb361]? = some (.cells #[.int .i64 ((rd_T29 l0 a2).f0), .int .i64 ((rd_T29 l0 a2).f1), .int .i64 ((rd_T29 l0 a2).f2), .int .i64 ((rd_T29 l0 a2).f3), .int .i64 ((rd_T29 l0 a2).f4.f0), .int .i64 ((rd_T29 l0 a2).f4.f1)] 29 (0, 0))) ∧ Aside0 (Kept w wc (fun k_ => P1_ k_)) ∧ Aside0 (Below w0.heap.size w0 wc))
    case first =>
     have H := HC8.out
     clear HC8
     by_cases c12 : t363 = true
     ·subst c12
      have H1 : ((spec_l3With.f (rd l1 a2) ((rd_T29 l0 a2).f1)).bind fun t364 => (spec_l3From.j0 k l1 a2 (rd l1 a2) t364 ((rd_T29 l0 a2).f0) ((rd_T29 l0 a2).f1) ((rd_T29 l0 a2).f2) ((rd_T29 l0 a2).f3) ((rd_T29 l0 a2).f4.f0) ((rd_T29 l0 a2).f4.f1))) = some (r1, r2) := by rw [if_pos rfl] at H; exact H
      clear H
      have H := H1
      clear H1
      replace H := Option.bind_eq_some_iff.mp H
      obtain ⟨t364, A130, H⟩ := H
      replace H : (spec_l3From.j0 k l1 a2 (rd l1 a2) t364 ((rd_T29 l0 a2).f0) ((rd_T29 l0 a2).f1) ((rd_T29 l0 a2).f2) ((rd_T29 l0 a2).f3) ((rd_T29 l0 a2).f4.f0) ((rd_T29 l0 a2).f4.f1)) = some (r1, r2) := H
      have A13 := Aside0.mk A130
      clear A130
      have H' := Aside0.mk H
      clear H
      have hcz14_0 : w9.cell? ⟨gb361, 0, none⟩ = some (.int .i64 0) := (blk_cell BK361.out 0).trans rfl
      have hcz14_1 : w9.cell? ⟨gb361, 1, none⟩ = some (.int .i64 0) := (blk_cell BK361.out 1).trans rfl
      have hcz14_2 : w9.cell? ⟨gb361, 2, none⟩ = some (.int .i64 0) := (blk_cell BK361.out 2).trans rfl
      have hcz14_3 : w9.cell? ⟨gb361, 3, none⟩ = some (.int .i64 0) := (blk_cell BK361.out 3).trans rfl
      have hcz14_4 : w9.cell? ⟨gb361, 4, none⟩ = some (.int .i64 0) := (blk_cell BK361.out 4).trans rfl
      have hcz14_5 : w9.cell? ⟨gb361, 5, none⟩ = some (.int .i64 0) := (blk_cell BK361.out 5).trans rfl
      have hfz14_0 := blk_frozen BK361.out 0
      have hfz14_1 := blk_frozen BK361.out 1
      have hfz14_2 := blk_frozen BK361.out 2
      have hfz14_3 := blk_frozen BK361.out 3
      have hfz14_4 := blk_frozen BK361.out 4
      have hfz14_5 := blk_frozen BK361.out 5
      go_wp2_with (first | ((with_reducible refine gate_callee (f := 105) rfl ?_); refine goesL_ (some 26) rfl rfl Try.func105 (by kernel_rfl) rfl #[.int .i64 (rd l1 a2), .int .i64 ((rd_T29 l0 a2).f1)] rfl (by (try simp only [List.map_toArray, List.map_cons, List.map_nil]) <;> rfl) ?_; (with_reducible refine (spec_l3With.calls (rd l1 a2) ((rd_T29 l0 a2).f1) t364 _ A13.out).mono ?_); rintro e w15 ⟨rfl, hb⟩; refine ⟨_, rfl, ?_⟩; replace HO1 := Aside0.mk (Kd.R_below (by (with_reducible repeat (first | apply rA | apply rN | apply rD)); exact (Kd.R_mono (Kd.R_far (p := ⟨gb361, 5, none⟩) (Kd.R_far (p := ⟨gb361, 4, none⟩) (Kd.R_far (p := ⟨gb361, 3, none⟩) (Kd.R_far (p := ⟨gb361, 2, none⟩) (Kd.R_far (p := ⟨gb361, 1, none⟩) (Kd.R_far (p := ⟨gb361, 0, none⟩) (Kd.R_types HO1.out BK361.out (by decide)) (fun _ hk => hk.2) (.int .i64 ((rd_T29 l0 a2).f0))) (fun _ hk => hk.2) (.int .i64 ((rd_T29 l0 a2).f1))) (fun _ hk => hk.2) (.int .i64 ((rd_T29 l0 a2).f2))) (fun _ hk => hk.2) (.int .i64 ((rd_T29 l0 a2).f3))) (fun _ hk => hk.2) (.int .i64 ((rd_T29 l0 a2).f4.f0))) (fun _ hk => hk.2) (.int .i64 ((rd_T29 l0 a2).f4.f1))) (fun _ h_ => h_.1))) hb); replace BK361 := Aside0.mk (blk_below (g := gb361) (o := .cells #[.int .i64 ((rd_T29 l0 a2).f0), .int .i64 ((rd_T29 l0 a2).f1), .int .i64 ((rd_T29 l0 a2).f2), .int .i64 ((rd_T29 l0 a2).f3), .int .i64 ((rd_T29 l0 a2).f4.f0), .int .i64 ((rd_T29 l0 a2).f4.f1)] 29 (0, 0)) (by (with_reducible repeat (first | apply kN | apply kD | apply kA)); refine blk_put (cs := #[.int .i64 ((rd_T29 l0 a2).f0), .int .i64 ((rd_T29 l0 a2).f1), .int .i64 ((rd_T29 l0 a2).f2), .int .i64 ((rd_T29 l0 a2).f3), .int .i64 ((rd_T29 l0 a2).f4.f0), .int .i64 0]) ?_ 5 _ rfl; (with_reducible repeat (first | apply kN | apply kD | apply kA)); refine blk_put (cs := #[.int .i64 ((rd_T29 l0 a2).f0), .int .i64 ((rd_T29 l0 a2).f1), .int .i64 ((rd_T29 l0 a2).f2), .int .i64 ((rd_T29 l0 a2).f3), .int .i64 0, .int .i64 0]) ?_ 4 _ rfl; (with_reducible repeat (first | apply kN | apply kD | apply kA)); refine blk_put (cs := #[.int .i64 ((rd_T29 l0 a2).f0), .int .i64 ((rd_T29 l0 a2).f1), .int .i64 ((rd_T29 l0 a2).f2), .int .i64 0, .int .i64 0, .int .i64 0]) ?_ 3 _ rfl; (with_reducible repeat (first | apply kN | apply kD | apply kA)); refine blk_put (cs := #[.int .i64 ((rd_T29 l0 a2).f0), .int .i64 ((rd_T29 l0 a2).f1), .int .i64 0, .int .i64 0, .int .i64 0, .int .i64 0]) ?_ 2 _ rfl; (with_reducible repeat (first | apply kN | apply kD | apply kA)); refine blk_put (cs := #[.int .i64 ((rd_T29 l0 a2).f0), .int .i64 0, .int .i64 0, .int .i64 0, .int .i64 0, .int .i64 0]) ?_ 1 _ rfl; (with_reducible repeat (first | apply kN | apply kD | apply kA)); refine blk_put (cs := #[.int .i64 0, .int .i64 0, .int .i64 0, .int .i64 0, .int .i64 0, .int .i64 0]) ?_ 0 _ rfl; exact blkU BK361.out) hb); replace HK := Aside0.mk (Kept.below (S := (fun k_ => P1_ k_)) (by repeat (with_reducible first | exact HK.out | apply Kept.alloc | apply Kept.drewN | apply Kept.drew | refine Kept.setCell ?_ (.inr GW361.out) _)) hb); replace HB := Aside0.mk (below_step (by repeat (with_reducible first | exact HB.out | apply bA | apply bN | apply b1 | refine below_set ?_ GE361.out)) hb); (try clear hb); (try clear hb2); (try clear hk); (try clear hi)))
      go_meet
      case rel => exact ⟨_, (t364), (by first | rfl | (simp; done) | (simp [*]; done)), H', ⟨by first | omega | exact Nat.le_refl _⟩, ⟨by exact rU HO1.out⟩, ⟨by exact blkU BK361.out⟩, ⟨by repeat (with_reducible first | exact HK.out | apply Kept.alloc | apply Kept.drewN | apply Kept.drew | refine Kept.setCell ?_ (.inr GW361.out) _)⟩, ⟨by repeat (with_reducible first | exact HB.out | apply bA | apply bN | apply b1 | refine below_set ?_ GE361.out)⟩⟩
     ·replace c12 := Bool.eq_false_iff.mpr c12
      subst c12
      have H1 : (spec_l3From.j0 k l1 a2 (rd l1 a2) (rd l1 a2) ((rd_T29 l0 a2).f0) ((rd_T29 l0 a2).f1) ((rd_T29 l0 a2).f2) ((rd_T29 l0 a2).f3) ((rd_T29 l0 a2).f4.f0) ((rd_T29 l0 a2).f4.f1)) = some (r1, r2) := by rw [if_neg (show ¬ (false = true) by decide)] at H; exact H
      clear H
      have H := H1
      clear H1
      have H' := Aside0.mk H
      clear H
      go_wp2
      go_meet
      case rel => exact ⟨_, (rd l1 a2), (by first | rfl | (simp; done) | (simp [*]; done)), H', ⟨by first | omega | exact Nat.le_refl _⟩, ⟨by (with_reducible repeat (first | apply rA | apply rN | apply rD)); exact Kd.R_mono (Kd.R_far (p := ⟨gb361, 5, none⟩) (Kd.R_far (p := ⟨gb361, 4, none⟩) (Kd.R_far (p := ⟨gb361, 3, none⟩) (Kd.R_far (p := ⟨gb361, 2, none⟩) (Kd.R_far (p := ⟨gb361, 1, none⟩) (Kd.R_far (p := ⟨gb361, 0, none⟩) (Kd.R_types HO1.out BK361.out (by decide)) (fun _ hk => hk.2) (.int .i64 ((rd_T29 l0 a2).f0))) (fun _ hk => hk.2) (.int .i64 ((rd_T29 l0 a2).f1))) (fun _ hk => hk.2) (.int .i64 ((rd_T29 l0 a2).f2))) (fun _ hk => hk.2) (.int .i64 ((rd_T29 l0 a2).f3))) (fun _ hk => hk.2) (.int .i64 ((rd_T29 l0 a2).f4.f0))) (fun _ hk => hk.2) (.int .i64 ((rd_T29 l0 a2).f4.f1))) (fun _ hk => hk.1)⟩, ⟨by (with_reducible repeat (first | apply kN | apply kD | apply kA)); refine blk_put (cs := #[.int .i64 ((rd_T29 l0 a2).f0), .int .i64 ((rd_T29 l0 a2).f1), .int .i64 ((rd_T29 l0 a2).f2), .int .i64 ((rd_T29 l0 a2).f3), .int .i64 ((rd_T29 l0 a2).f4.f0), .int .i64 0]) ?_ 5 _ rfl; (with_reducible repeat (first | apply kN | apply kD | apply kA)); refine blk_put (cs := #[.int .i64 ((rd_T29 l0 a2).f0), .int .i64 ((rd_T29 l0 a2).f1), .int .i64 ((rd_T29 l0 a2).f2), .int .i64 ((rd_T29 l0 a2).f3), .int .i64 0, .int .i64 0]) ?_ 4 _ rfl; (with_reducible repeat (first | apply kN | apply kD | apply kA)); refine blk_put (cs := #[.int .i64 ((rd_T29 l0 a2).f0), .int .i64 ((rd_T29 l0 a2).f1), .int .i64 ((rd_T29 l0 a2).f2), .int .i64 0, .int .i64 0, .int .i64 0]) ?_ 3 _ rfl; (with_reducible repeat (first | apply kN | apply kD | apply kA)); refine blk_put (cs := #[.int .i64 ((rd_T29 l0 a2).f0), .int .i64 ((rd_T29 l0 a2).f1), .int .i64 0, .int .i64 0, .int .i64 0, .int .i64 0]) ?_ 2 _ rfl; (with_reducible repeat (first | apply kN | apply kD | apply kA)); refine blk_put (cs := #[.int .i64 ((rd_T29 l0 a2).f0), .int .i64 0, .int .i64 0, .int .i64 0, .int .i64 0, .int .i64 0]) ?_ 1 _ rfl; (with_reducible repeat (first | apply kN | apply kD | apply kA)); refine blk_put (cs := #[.int .i64 0, .int .i64 0, .int .i64 0, .int .i64 0, .int .i64 0, .int .i64 0]) ?_ 0 _ rfl; exact blkU BK361.out⟩, ⟨by repeat (with_reducible first | exact HK.out | apply Kept.alloc | apply Kept.drewN | apply Kept.drew | refine Kept.setCell ?_ (.inr GW361.out) _)⟩, ⟨by repeat (with_reducible first | exact HB.out | apply bA | apply bN | apply b1 | refine below_set ?_ GE361.out)⟩⟩
    case rest =>
     clear HC8
     (try clear c1); (try clear p2); (try clear p3); (try clear q3); (try clear hx3); (try clear c4); (try clear c4b0); (try clear c5); (try clear c5b0); (try clear c6); (try clear c6b0); (try clear c9); (try clear c10); (try clear c12); (try clear hcz10_0); (try clear hcz10_1); (try clear hcz10_2); (try clear hcz10_3); (try clear hcz10_4); (try clear hcz10_5); (try clear hcz14_0); (try clear hcz14_1); (try clear hcz14_2); (try clear hcz14_3); (try clear hcz14_4); (try clear hcz14_5); (try clear hfz10_0); (try clear hfz10_1); (try clear hfz10_2); (try clear hfz10_3); (try clear hfz10_4); (try clear hfz10_5); (try clear hfz14_0); (try clear hfz14_1); (try clear hfz14_2); (try clear hfz14_3); (try clear hfz14_4); (try clear hfz14_5); (try clear hx360_0); (try clear hx360_1); (try clear hx360_2); (try clear hx360_3); (try clear hx360_4); (try clear hx360_5); (try clear hx362_0); (try clear p360); (try clear p362); (try clear q360); (try clear q362)
     obtain ⟨kq, x9_7, rfl, HA, HJ7, HO_1, BK361, HK, HB⟩ := hcut
     cases kq with
     | zero => exact absurd HA.out (by simp [spec_l3From.j0])
     | succ kj7 =>
      have H := HA.out
      clear HA
      simp only [spec_l3From.j0] at H
      have HC16 := Aside0.mk H
      clear H
      have hcz17_0 : wc.cell? ⟨gb361, 0, none⟩ = some (.int .i64 ((rd_T29 l0 a2).f0)) := (blk_cell BK361.out 0).trans rfl
      have hcz17_1 : wc.cell? ⟨gb361, 1, none⟩ = some (.int .i64 ((rd_T29 l0 a2).f1)) := (blk_cell BK361.out 1).trans rfl
      have hcz17_2 : wc.cell? ⟨gb361, 2, none⟩ = some (.int .i64 ((rd_T29 l0 a2).f2)) := (blk_cell BK361.out 2).trans rfl
      have hcz17_3 : wc.cell? ⟨gb361, 3, none⟩ = some (.int .i64 ((rd_T29 l0 a2).f3)) := (blk_cell BK361.out 3).trans rfl
      have hcz17_4 : wc.cell? ⟨gb361, 4, none⟩ = some (.int .i64 ((rd_T29 l0 a2).f4.f0)) := (blk_cell BK361.out 4).trans rfl
      have hcz17_5 : wc.cell? ⟨gb361, 5, none⟩ = some (.int .i64 ((rd_T29 l0 a2).f4.f1)) := (blk_cell BK361.out 5).trans rfl
      have hfz17_0 := blk_frozen BK361.out 0
      have hfz17_1 := blk_frozen BK361.out 1
      have hfz17_2 := blk_frozen BK361.out 2
      have hfz17_3 := blk_frozen BK361.out 3
      have hfz17_4 := blk_frozen BK361.out 4
      have hfz17_5 := blk_frozen BK361.out 5
      go_upto_block 0 with (fail)
      go_cut [10] (fun v10 wc => ∃ (kq : Nat) (x1_15 : List Int) (x10_15 : Bool), v10 = .bool x10_15 ∧ Aside0 (spec_l3From.j2 kq x1_15 a2 x9_7 x10_15 = some (r1, r2)) ∧ Aside0 (kq ≤ kj7) ∧ Aside0 (Kd.R (Kd.int .i64) 3 wc w0.heap.size (fun k_ => (P1_ k_ ∨ w.heap.size ≤ k_)) (.slice (some ad362) l1.length co11) x1_15) ∧ Aside0 (wc.heap[gb361]? = some (.cells #[.int .i64 ((rd_T29 l0 a2).f0), .int .i64 ((rd_T29 l0 a2).f1), .int .i64 ((rd_T29 l0 a2).f2), .int .i64 ((rd_T29 l0 a2).f3), .int .i64 ((rd_T29 l0 a2).f4.f0), .int .i64 ((rd_T29 l0 a2).f4.f1)] 29 (0, 0))) ∧ Aside0 (Kept w wc (fun k_ => P1_ k_)) ∧ Aside0 (Below w0.heap.size w0 wc))
      case first =>
       have H := HC16.out
       clear HC16
       by_cases c18 : ((rd_T29 l0 a2).f0) = 5
       ·rw [if_pos c18] at H
        have c18b0 : (((rd_T29 l0 a2).f0) == 5) = true := beq_iff_eq.mpr c18
        have c18b1 : (((rd_T29 l0 a2).f0) != 5) = false := bne_eq_false_iff_eq.mpr c18
        clear c18
        (first | rw [c18b0] | (simp only [i64_w, i32_w]; rw [c18b0]) | skip)
        replace H := Option.bind_eq_some_iff.mp H
        obtain ⟨⟨t365, t366⟩, A190, H⟩ := H
        replace H : (spec_l3From.j2 kj7 t366 a2 x9_7 t365) = some (r1, r2) := H
        have A19 := Aside0.mk A190
        clear A190
        have H' := Aside0.mk H
        clear H
        have hcz20_0 : wc.cell? ⟨gb361, 0, none⟩ = some (.int .i64 ((rd_T29 l0 a2).f0)) := (blk_cell BK361.out 0).trans rfl
        have hcz20_1 : wc.cell? ⟨gb361, 1, none⟩ = some (.int .i64 ((rd_T29 l0 a2).f1)) := (blk_cell BK361.out 1).trans rfl
        have hcz20_2 : wc.cell? ⟨gb361, 2, none⟩ = some (.int .i64 ((rd_T29 l0 a2).f2)) := (blk_cell BK361.out 2).trans rfl
        have hcz20_3 : wc.cell? ⟨gb361, 3, none⟩ = some (.int .i64 ((rd_T29 l0 a2).f3)) := (blk_cell BK361.out 3).trans rfl
        have hcz20_4 : wc.cell? ⟨gb361, 4, none⟩ = some (.int .i64 ((rd_T29 l0 a2).f4.f0)) := (blk_cell BK361.out 4).trans rfl
        have hcz20_5 : wc.cell? ⟨gb361, 5, none⟩ = some (.int .i64 ((rd_T29 l0 a2).f4.f1)) := (blk_cell BK361.out 5).trans rfl
        have hfz20_0 := blk_frozen BK361.out 0
        have hfz20_1 := blk_frozen BK361.out 1
        have hfz20_2 := blk_frozen BK361.out 2
        have hfz20_3 := blk_frozen BK361.out 3
        have hfz20_4 := blk_frozen BK361.out 4
        have hfz20_5 := blk_frozen BK361.out 5
        go_wp2_with (first | ((with_reducible refine gate_callee (f := 106) rfl ?_); refine goesL_ (some 34) rfl rfl Try.func106 (by kernel_rfl) rfl #[.slice (some ad362) l1.length co11, .int .i64 ((rd_T29 l0 a2).f3), .int .i64 1] rfl (by (try simp only [List.map_toArray, List.map_cons, List.map_nil]) <;> rfl) ?_; (with_reducible refine (spec_l3Merge.calls kj7 (fun k_ => some k_ = (.slice (some ad362) l1.length co11 : Value).ownBlock) (.slice (some ad362) l1.length co11) l1 ((rd_T29 l0 a2).f3) 1 t365 t366 w0 _ ?side1 ?side2 A19.out).mono ?_); (case side1 => repeat (with_reducible first | exact HB.out | apply bA | apply bN | apply b1 | refine below_set ?_ GE361.out)); (case side2 => exact Kd.R_tight rfl HO_1.out); rintro e w21 ⟨rfl, hy0, hb, hkp⟩; refine ⟨_, rfl, ?_⟩; have n0_ := Aside0.mk (Kd.R_reok rfl hy0 (fun k_ e_ => HO_1.out.1 k_ e_)); have n1_ := Aside0.mk (blk_kept (by exact blkU BK361.out) hkp (fun hs_ => (fun e_ => (Kd.R_ne HO_1.out BK361.out (by decide)) e_) hs_)); have n2_ := Aside0.mk (Kept.then_ (S := (fun k_ => P1_ k_)) (by repeat (with_reducible first | exact HK.out | apply Kept.alloc | apply Kept.drewN | apply Kept.drew | refine Kept.setCell ?_ (.inr GW361.out) _)) hkp (fun k_ hs_ => (fun e_ => (HO_1.out.1 k_ e_.symm)) hs_)); have n3_ := Aside0.mk (hb); clear HO_1; clear BK361; clear HK; clear HB; have HO_1 := n0_; have BK361 := n1_; have HK := n2_; have HB := n3_; clear n0_ n1_ n2_ n3_; (try clear hb); (try clear hkp); (try clear hy0)))
        go_meet
        case rel => exact ⟨_, (t366), (t365), (by first | rfl | (simp; done) | (simp [*]; done)), H', ⟨by have := HJ7.out; first | omega | exact Nat.le_refl _⟩, ⟨by exact rU HO_1.out⟩, ⟨by exact blkU BK361.out⟩, ⟨by repeat (with_reducible first | exact HK.out | apply Kept.alloc | apply Kept.drewN | apply Kept.drew | refine Kept.setCell ?_ (.inr GW361.out) _)⟩, ⟨by repeat (with_reducible first | exact HB.out | apply bA | apply bN | apply b1 | refine below_set ?_ GE361.out)⟩⟩
       ·rw [if_neg c18] at H
        have c18b0 : (((rd_T29 l0 a2).f0) == 5) = false := beq_eq_false_iff_ne.mpr c18
        have c18b1 : (((rd_T29 l0 a2).f0) != 5) = true := bne_iff_ne.mpr c18
        (first | rw [c18b0] | (simp only [i64_w, i32_w]; rw [c18b0]) | skip)
        by_cases c22 : ((rd_T29 l0 a2).f0) = 9
        ·rw [if_pos c22] at H
         have c22b0 : (((rd_T29 l0 a2).f0) == 9) = true := beq_iff_eq.mpr c22
         have c22b1 : (((rd_T29 l0 a2).f0) != 9) = false := bne_eq_false_iff_eq.mpr c22
         clear c22
         replace H := Option.bind_eq_some_iff.mp H
         obtain ⟨⟨t367, t368⟩, A230, H⟩ := H
         replace H : (some (t367, t368)) = some (r1, r2) := H
         have A23 := Aside0.mk A230
         clear A230
         simp only [Option.some.injEq, Prod.mk.injEq] at H
         obtain ⟨rfl, rfl⟩ := H
         have hcz24_0 : wc.cell? ⟨gb361, 0, none⟩ = some (.int .i64 ((rd_T29 l0 a2).f0)) := (blk_cell BK361.out 0).trans rfl
         have hcz24_1 : wc.cell? ⟨gb361, 1, none⟩ = some (.int .i64 ((rd_T29 l0 a2).f1)) := (blk_cell BK361.out 1).trans rfl
         have hcz24_2 : wc.cell? ⟨gb361, 2, none⟩ = some (.int .i64 ((rd_T29 l0 a2).f2)) := (blk_cell BK361.out 2).trans rfl
         have hcz24_3 : wc.cell? ⟨gb361, 3, none⟩ = some (.int .i64 ((rd_T29 l0 a2).f3)) := (blk_cell BK361.out 3).trans rfl
         have hcz24_4 : wc.cell? ⟨gb361, 4, none⟩ = some (.int .i64 ((rd_T29 l0 a2).f4.f0)) := (blk_cell BK361.out 4).trans rfl
         have hcz24_5 : wc.cell? ⟨gb361, 5, none⟩ = some (.int .i64 ((rd_T29 l0 a2).f4.f1)) := (blk_cell BK361.out 5).trans rfl
         have hfz24_0 := blk_frozen BK361.out 0
         have hfz24_1 := blk_frozen BK361.out 1
         have hfz24_2 := blk_frozen BK361.out 2
         have hfz24_3 := blk_frozen BK361.out 3
         have hfz24_4 := blk_frozen BK361.out 4
         have hfz24_5 := blk_frozen BK361.out 5
         go_wp2_with (first | ((with_reducible refine gate_callee (f := 106) rfl ?_); refine goesL_ (some 41) rfl rfl Try.func106 (by kernel_rfl) rfl #[.slice (some ad362) l1.length co11, .int .i64 ((rd_T29 l0 a2).f3), .int .i64 (rd l1 a2)] rfl (by (try simp only [List.map_toArray, List.map_cons, List.map_nil]) <;> rfl) ?_; (with_reducible refine (spec_l3Merge.calls kj7 (fun k_ => some k_ = (.slice (some ad362) l1.length co11 : Value).ownBlock) (.slice (some ad362) l1.length co11) l1 ((rd_T29 l0 a2).f3) (rd l1 a2) t367 t368 w0 _ ?side1 ?side2 A23.out).mono ?_); (case side1 => repeat (with_reducible first | exact HB.out | apply bA | apply bN | apply b1 | refine below_set ?_ GE361.out)); (case side2 => exact Kd.R_tight rfl HO_1.out); rintro e w25 ⟨rfl, hy0, hb, hkp⟩; refine ⟨_, rfl, ?_⟩; have n0_ := Aside0.mk (Kd.R_reok rfl hy0 (fun k_ e_ => HO_1.out.1 k_ e_)); have n1_ := Aside0.mk (blk_kept (by exact blkU BK361.out) hkp (fun hs_ => (fun e_ => (Kd.R_ne HO_1.out BK361.out (by decide)) e_) hs_)); have n2_ := Aside0.mk (Kept.then_ (S := (fun k_ => P1_ k_)) (by repeat (with_reducible first | exact HK.out | apply Kept.alloc | apply Kept.drewN | apply Kept.drew | refine Kept.setCell ?_ (.inr GW361.out) _)) hkp (fun k_ hs_ => (fun e_ => (HO_1.out.1 k_ e_.symm)) hs_)); have n3_ := Aside0.mk (hb); clear HO_1; clear BK361; clear HK; clear HB; have HO_1 := n0_; have BK361 := n1_; have HK := n2_; have HB := n3_; clear n0_ n1_ n2_ n3_; (try clear hb); (try clear hkp); (try clear hy0)))
         go_ret
         exact ⟨by first | rfl | (simp [errW_none, errW_some] <;> rfl) | (simp [*, errW_none, errW_some] <;> rfl), by exact rU HO_1.out, by repeat (with_reducible first | exact HB.out | apply bA | apply bN | apply b1 | refine below_set ?_ GE361.out), by repeat (with_reducible first | exact HK.out | apply Kept.alloc | apply Kept.drewN | apply Kept.drew | refine Kept.setCell ?_ (.inr GW361.out) _)⟩
        ·rw [if_neg c22] at H
         have c22b0 : (((rd_T29 l0 a2).f0) == 9) = false := beq_eq_false_iff_ne.mpr c22
         have c22b1 : (((rd_T29 l0 a2).f0) != 9) = true := bne_iff_ne.mpr c22
         have HC26 := Aside0.mk H
         clear H
         go_upto_if 42 with (fail)
         go_cut [42] (fun v42 wc => ∃ (kq : Nat) (x42_25 : Bool), v42 = .bool x42_25 ∧ Aside0 (spec_l3From.j1 kq l1 a2 (rd l1 a2) x9_7 false ((rd_T29 l0 a2).f0) x42_25 ((rd_T29 l0 a2).f0) ((rd_T29 l0 a2).f1) ((rd_T29 l0 a2).f2) ((rd_T29 l0 a2).f3) ((rd_T29 l0 a2).f4.f0) ((rd_T29 l0 a2).f4.f1) = some (r1, r2)) ∧ Aside0 (kq ≤ kj7) ∧ Aside0 (Kd.R (Kd.int .i64) 3 wc w0.heap.size (fun k_ => (P1_ k_ ∨ w.heap.size ≤ k_)) (.slice (some ad362) l1.length co11) l1) ∧ Aside0 (wc.heap[gb361]? = some (.cells #[.int .i64 ((rd_T29 l0 a2).f0), .int .i64 ((rd_T29 l0 a2).f1), .int .i64 ((rd_T29 l0 a2).f2), .int .i64 ((rd_T29 l0 a2).f3), .int .i64 ((rd_T29 l0 a2).f4.f0), .int .i64 ((rd_T29 l0 a2).f4.f1)] 29 (0, 0))) ∧ Aside0 (Kept w wc (fun k_ => P1_ k_)) ∧ Aside0 (Below w0.heap.size w0 wc))
         case first =>
          have H := HC26.out
          clear HC26
          by_cases c27 : ((rd_T29 l0 a2).f0) = 8
          ·rw [if_pos c27] at H
           have c27b0 : (((rd_T29 l0 a2).f0) == 8) = true := beq_iff_eq.mpr c27
           have c27b1 : (((rd_T29 l0 a2).f0) != 8) = false := bne_eq_false_iff_eq.mpr c27
           clear c27
           (first | rw [c27b0] | (simp only [i64_w, i32_w]; rw [c27b0]) | skip)
           have H' := Aside0.mk H
           clear H
           go_wp2
           go_meet
           case rel => exact ⟨_, ((((rd_T29 l0 a2).f0) == 8)), (by first | rfl | (simp; done) | (simp [*]; done)), H', ⟨by have := HJ7.out; first | omega | exact Nat.le_refl _⟩, ⟨by exact rU HO_1.out⟩, ⟨by exact blkU BK361.out⟩, ⟨by repeat (with_reducible first | exact HK.out | apply Kept.alloc | apply Kept.drewN | apply Kept.drew | refine Kept.setCell ?_ (.inr GW361.out) _)⟩, ⟨by repeat (with_reducible first | exact HB.out | apply bA | apply bN | apply b1 | refine below_set ?_ GE361.out)⟩⟩
          ·rw [if_neg c27] at H
           have c27b0 : (((rd_T29 l0 a2).f0) == 8) = false := beq_eq_false_iff_ne.mpr c27
           have c27b1 : (((rd_T29 l0 a2).f0) != 8) = true := bne_iff_ne.mpr c27
           (first | rw [c27b0] | (simp only [i64_w, i32_w]; rw [c27b0]) | skip)
           have H' := Aside0.mk H
           clear H
           go_wp2
           go_meet
           case rel => exact ⟨_, ((((rd_T29 l0 a2).f0) == 10)), (by first | rfl | (simp; done) | (simp [*]; done)), H', ⟨by have := HJ7.out; first | omega | exact Nat.le_refl _⟩, ⟨by exact rU HO_1.out⟩, ⟨by exact blkU BK361.out⟩, ⟨by repeat (with_reducible first | exact HK.out | apply Kept.alloc | apply Kept.drewN | apply Kept.drew | refine Kept.setCell ?_ (.inr GW361.out) _)⟩, ⟨by repeat (with_reducible first | exact HB.out | apply bA | apply bN | apply b1 | refine below_set ?_ GE361.out)⟩⟩
         case rest =>
          clear HC26
          (try clear c1); (try clear c2); (try clear p2); (try clear p3); (try clear q3); (try clear hx3); (try clear c4); (try clear c4b0); (try clear c5); (try clear c5b0); (try clear c6); (try clear c6b0); (try clear c9); (try clear c10); (try clear c12); (try clear c18); (try clear c18b0); (try clear c18b1); (try clear c22); (try clear c22b0); (try clear c22b1); (try clear c27); (try clear c27b0); (try clear c27b1); (try clear hcz10_0); (try clear hcz10_1); (try clear hcz10_2); (try clear hcz10_3); (try clear hcz10_4); (try clear hcz10_5); (try clear hcz14_0); (try clear hcz14_1); (try clear hcz14_2); (try clear hcz14_3); (try clear hcz14_4); (try clear hcz14_5); (try clear hcz17_0); (try clear hcz17_1); (try clear hcz17_2); (try clear hcz17_3); (try clear hcz17_4); (try clear hcz17_5); (try clear hcz20_0); (try clear hcz20_1); (try clear hcz20_2); (try clear hcz20_3); (try clear hcz20_4); (try clear hcz20_5); (try clear hcz24_0); (try clear hcz24_1); (try clear hcz24_2); (try clear hcz24_3); (try clear hcz24_4); (try clear hcz24_5); (try clear hfz10_0); (try clear hfz10_1); (try clear hfz10_2); (try clear hfz10_3); (try clear hfz10_4); (try clear hfz10_5); (try clear hfz14_0); (try clear hfz14_1); (try clear hfz14_2); (try clear hfz14_3); (try clear hfz14_4); (try clear hfz14_5); (try clear hfz17_0); (try clear hfz17_1); (try clear hfz17_2); (try clear hfz17_3); (try clear hfz17_4); (try clear hfz17_5); (try clear hfz20_0); (try clear hfz20_1); (try clear hfz20_2); (try clear hfz20_3); (try clear hfz20_4); (try clear hfz20_5); (try clear hfz24_0); (try clear hfz24_1); (try clear hfz24_2); (try clear hfz24_3); (try clear hfz24_4); (try clear hfz24_5); (try clear hx360_0); (try clear hx360_1); (try clear hx360_2); (try clear hx360_3); (try clear hx360_4); (try clear hx360_5); (try clear hx362_0); (try clear p2); (try clear p3); (try clear p360); (try clear p362); (try clear q3); (try clear q360); (try clear q362)
          obtain ⟨kq, x42_25, rfl, HA, HJ25, HO_1, BK361, HK, HB⟩ := hcut
          cases kq with
          | zero => exact absurd HA.out (by simp [spec_l3From.j1])
          | succ kj25 =>
           have H := HA.out
           clear HA
           simp only [spec_l3From.j1] at H
           by_cases c28 : x42_25 = true
           ·subst c28
            have H1 : ((spec_l3Merge.f kj25 l1 ((rd_T29 l0 a2).f3) (rd l1 a2)).bind fun bt369 => (spec_l3From.j2 kj25 bt369.2 a2 x9_7 bt369.1)) = some (r1, r2) := by rw [if_pos rfl] at H; exact H
            clear H
            have H := H1
            clear H1
            replace H := Option.bind_eq_some_iff.mp H
            obtain ⟨⟨t369, t370⟩, A290, H⟩ := H
            replace H : (spec_l3From.j2 kj25 t370 a2 x9_7 t369) = some (r1, r2) := H
            have A29 := Aside0.mk A290
            clear A290
            have H' := Aside0.mk H
            clear H
            have hcz30_0 : wc.cell? ⟨gb361, 0, none⟩ = some (.int .i64 ((rd_T29 l0 a2).f0)) := (blk_cell BK361.out 0).trans rfl
            have hcz30_1 : wc.cell? ⟨gb361, 1, none⟩ = some (.int .i64 ((rd_T29 l0 a2).f1)) := (blk_cell BK361.out 1).trans rfl
            have hcz30_2 : wc.cell? ⟨gb361, 2, none⟩ = some (.int .i64 ((rd_T29 l0 a2).f2)) := (blk_cell BK361.out 2).trans rfl
            have hcz30_3 : wc.cell? ⟨gb361, 3, none⟩ = some (.int .i64 ((rd_T29 l0 a2).f3)) := (blk_cell BK361.out 3).trans rfl
            have hcz30_4 : wc.cell? ⟨gb361, 4, none⟩ = some (.int .i64 ((rd_T29 l0 a2).f4.f0)) := (blk_cell BK361.out 4).trans rfl
            have hcz30_5 : wc.cell? ⟨gb361, 5, none⟩ = some (.int .i64 ((rd_T29 l0 a2).f4.f1)) := (blk_cell BK361.out 5).trans rfl
            have hfz30_0 := blk_frozen BK361.out 0
            have hfz30_1 := blk_frozen BK361.out 1
            have hfz30_2 := blk_frozen BK361.out 2
            have hfz30_3 := blk_frozen BK361.out 3
            have hfz30_4 := blk_frozen BK361.out 4
            have hfz30_5 := blk_frozen BK361.out 5
            go_wp2_with (first | ((with_reducible refine gate_callee (f := 106) rfl ?_); refine goesL_ (some 49) rfl rfl Try.func106 (by kernel_rfl) rfl #[.slice (some ad362) l1.length co11, .int .i64 ((rd_T29 l0 a2).f3), .int .i64 (rd l1 a2)] rfl (by (try simp only [List.map_toArray, List.map_cons, List.map_nil]) <;> rfl) ?_; (with_reducible refine (spec_l3Merge.calls kj25 (fun k_ => some k_ = (.slice (some ad362) l1.length co11 : Value).ownBlock) (.slice (some ad362) l1.length co11) l1 ((rd_T29 l0 a2).f3) (rd l1 a2) t369 t370 w0 _ ?side1 ?side2 A29.out).mono ?_); (case side1 => repeat (with_reducible first | exact HB.out | apply bA | apply bN | apply b1 | refine below_set ?_ GE361.out)); (case side2 => exact Kd.R_tight rfl HO_1.out); rintro e w31 ⟨rfl, hy0, hb, hkp⟩; refine ⟨_, rfl, ?_⟩; have n0_ := Aside0.mk (Kd.R_reok rfl hy0 (fun k_ e_ => HO_1.out.1 k_ e_)); have n1_ := Aside0.mk (blk_kept (by exact blkU BK361.out) hkp (fun hs_ => (fun e_ => (Kd.R_ne HO_1.out BK361.out (by decide)) e_) hs_)); have n2_ := Aside0.mk (Kept.then_ (S := (fun k_ => P1_ k_)) (by repeat (with_reducible first | exact HK.out | apply Kept.alloc | apply Kept.drewN | apply Kept.drew | refine Kept.setCell ?_ (.inr GW361.out) _)) hkp (fun k_ hs_ => (fun e_ => (HO_1.out.1 k_ e_.symm)) hs_)); have n3_ := Aside0.mk (hb); clear HO_1; clear BK361; clear HK; clear HB; have HO_1 := n0_; have BK361 := n1_; have HK := n2_; have HB := n3_; clear n0_ n1_ n2_ n3_; (try clear hb); (try clear hkp); (try clear hy0)))
            go_meet
            case rel => exact ⟨_, (t370), (t369), (by first | rfl | (simp; done) | (simp [*]; done)), H', ⟨by have := HJ7.out; have := HJ25.out; first | omega | exact Nat.le_refl _⟩, ⟨by exact rU HO_1.out⟩, ⟨by exact blkU BK361.out⟩, ⟨by repeat (with_reducible first | exact HK.out | apply Kept.alloc | apply Kept.drewN | apply Kept.drew | refine Kept.setCell ?_ (.inr GW361.out) _)⟩, ⟨by repeat (with_reducible first | exact HB.out | apply bA | apply bN | apply b1 | refine below_set ?_ GE361.out)⟩⟩
           ·replace c28 := Bool.eq_false_iff.mpr c28
            subst c28
            have H1 : (if ((rd_T29 l0 a2).f0) = 14 then (some (false, l1)) else (spec_l3From.j2 kj25 l1 a2 x9_7 false)) = some (r1, r2) := by rw [if_neg (show ¬ (false = true) by decide)] at H; exact H
            clear H
            have H := H1
            clear H1
            by_cases c32 : ((rd_T29 l0 a2).f0) = 14
            ·rw [if_pos c32] at H
             have c32b0 : (((rd_T29 l0 a2).f0) == 14) = true := beq_iff_eq.mpr c32
             have c32b1 : (((rd_T29 l0 a2).f0) != 14) = false := bne_eq_false_iff_eq.mpr c32
             clear c32
             simp only [Option.some.injEq, Prod.mk.injEq] at H
             obtain ⟨rfl, rfl⟩ := H
             go_wp2
             go_ret
             exact ⟨by first | rfl | (simp [errW_none, errW_some] <;> rfl) | (simp [*, errW_none, errW_some] <;> rfl), by exact rU HO_1.out, by repeat (with_reducible first | exact HB.out | apply bA | apply bN | apply b1 | refine below_set ?_ GE361.out), by repeat (with_reducible first | exact HK.out | apply Kept.alloc | apply Kept.drewN | apply Kept.drew | refine Kept.setCell ?_ (.inr GW361.out) _)⟩
            ·rw [if_neg c32] at H
             have c32b0 : (((rd_T29 l0 a2).f0) == 14) = false := beq_eq_false_iff_ne.mpr c32
             have c32b1 : (((rd_T29 l0 a2).f0) != 14) = true := bne_iff_ne.mpr c32
             have H' := Aside0.mk H
             clear H
             go_wp2
             go_meet
             case rel => exact ⟨_, (l1), (false), (by first | rfl | (simp; done) | (simp [*]; done)), H', ⟨by have := HJ7.out; have := HJ25.out; first | omega | exact Nat.le_refl _⟩, ⟨by exact rU HO_1.out⟩, ⟨by exact blkU BK361.out⟩, ⟨by repeat (with_reducible first | exact HK.out | apply Kept.alloc | apply Kept.drewN | apply Kept.drew | refine Kept.setCell ?_ (.inr GW361.out) _)⟩, ⟨by repeat (with_reducible first | exact HB.out | apply bA | apply bN | apply b1 | refine below_set ?_ GE361.out)⟩⟩
      case rest =>
       clear HC16
       (try clear c1); (try clear c2); (try clear p2); (try clear c3); (try clear p3); (try clear q3); (try clear hx3); (try clear c4); (try clear c4b0); (try clear c5); (try clear c5b0); (try clear c6); (try clear c6b0); (try clear c9); (try clear c10); (try clear c12); (try clear c18); (try clear c18b0); (try clear c18b1); (try clear c22); (try clear c22b0); (try clear c22b1); (try clear c27); (try clear c27b0); (try clear c27b1); (try clear c28); (try clear c32); (try clear c32b0); (try clear c32b1); (try clear hcz10_0); (try clear hcz10_1); (try clear hcz10_2); (try clear hcz10_3); (try clear hcz10_4); (try clear hcz10_5); (try clear hcz14_0); (try clear hcz14_1); (try clear hcz14_2); (try clear hcz14_3); (try clear hcz14_4); (try clear hcz14_5); (try clear hcz17_0); (try clear hcz17_1); (try clear hcz17_2); (try clear hcz17_3); (try clear hcz17_4); (try clear hcz17_5); (try clear hcz20_0); (try clear hcz20_1); (try clear hcz20_2); (try clear hcz20_3); (try clear hcz20_4); (try clear hcz20_5); (try clear hcz24_0); (try clear hcz24_1); (try clear hcz24_2); (try clear hcz24_3); (try clear hcz24_4); (try clear hcz24_5); (try clear hcz30_0); (try clear hcz30_1); (try clear hcz30_2); (try clear hcz30_3); (try clear hcz30_4); (try clear hcz30_5); (try clear hfz10_0); (try clear hfz10_1); (try clear hfz10_2); (try clear hfz10_3); (try clear hfz10_4); (try clear hfz10_5); (try clear hfz14_0); (try clear hfz14_1); (try clear hfz14_2); (try clear hfz14_3); (try clear hfz14_4); (try clear hfz14_5); (try clear hfz17_0); (try clear hfz17_1); (try clear hfz17_2); (try clear hfz17_3); (try clear hfz17_4); (try clear hfz17_5); (try clear hfz20_0); (try clear hfz20_1); (try clear hfz20_2); (try clear hfz20_3); (try clear hfz20_4); (try clear hfz20_5); (try clear hfz24_0); (try clear hfz24_1); (try clear hfz24_2); (try clear hfz24_3); (try clear hfz24_4); (try clear hfz24_5); (try clear hfz30_0); (try clear hfz30_1); (try clear hfz30_2); (try clear hfz30_3); (try clear hfz30_4); (try clear hfz30_5); (try clear hx360_0); (try clear hx360_1); (try clear hx360_2); (try clear hx360_3); (try clear hx360_4); (try clear hx360_5); (try clear hx362_0); (try clear p2); (try clear p3); (try clear p360); (try clear p362); (try clear q3); (try clear q360); (try clear q362)
       obtain ⟨kq, x1_15, x10_15, rfl, HA, HJ15, HO_1, BK361, HK, HB⟩ := hcut
       have hl1_15 := (Kd.R_reads' HO_1.out).1
       rw [hl1_15] at HO_1
       (try simp only [hl1_15])
       (try simp only [hl1_15] at BK361)
       cases kq with
       | zero => exact absurd HA.out (by simp [spec_l3From.j2])
       | succ kj15 =>
        have H := HA.out
        clear HA
        simp only [spec_l3From.j2] at H
        replace H := Option.bind_eq_some_iff.mp H
        obtain ⟨⟨t371, t372⟩, A330, H⟩ := H
        replace H : (if t371 = true then (some (true, t372)) else (some (x10_15, t372))) = some (r1, r2) := H
        have A33 := Aside0.mk A330
        clear A330
        by_cases c34 : t371 = true
        ·subst c34
         have H1 : (some (true, t372)) = some (r1, r2) := by rw [if_pos rfl] at H; exact H
         clear H
         have H := H1
         clear H1
         simp only [Option.some.injEq, Prod.mk.injEq] at H
         obtain ⟨rfl, rfl⟩ := H
         go_wp2_with (first | ((with_reducible refine gate_callee (f := 106) rfl ?_); refine goesL_ (some 56) rfl rfl Try.func106 (by kernel_rfl) rfl #[.slice (some ad362) x1_15.length co11, .int .i64 (wrap64 (a2 + 1)), .int .i64 x9_7] rfl (by (try simp only [List.map_toArray, List.map_cons, List.map_nil]) <;> rfl) ?_; (with_reducible refine (spec_l3Merge.calls kj15 (fun k_ => some k_ = (.slice (some ad362) x1_15.length co11 : Value).ownBlock) (.slice (some ad362) x1_15.length co11) x1_15 (wrap64 (a2 + 1)) x9_7 true t372 w0 _ ?side1 ?side2 A33.out).mono ?_); (case side1 => repeat (with_reducible first | exact HB.out | apply bA | apply bN | apply b1 | refine below_set ?_ GE361.out)); (case side2 => exact Kd.R_tight rfl HO_1.out); rintro e w35 ⟨rfl, hy0, hb, hkp⟩; refine ⟨_, rfl, ?_⟩; have n0_ := Aside0.mk (Kd.R_reok rfl hy0 (fun k_ e_ => HO_1.out.1 k_ e_)); have n1_ := Aside0.mk (blk_kept (by exact blkU BK361.out) hkp (fun hs_ => (fun e_ => (Kd.R_ne HO_1.out BK361.out (by decide)) e_) hs_)); have n2_ := Aside0.mk (Kept.then_ (S := (fun k_ => P1_ k_)) (by repeat (with_reducible first | exact HK.out | apply Kept.alloc | apply Kept.drewN | apply Kept.drew | refine Kept.setCell ?_ (.inr GW361.out) _)) hkp (fun k_ hs_ => (fun e_ => (HO_1.out.1 k_ e_.symm)) hs_)); have n3_ := Aside0.mk (hb); clear HO_1; clear BK361; clear HK; clear HB; have HO_1 := n0_; have BK361 := n1_; have HK := n2_; have HB := n3_; clear n0_ n1_ n2_ n3_; (try clear hb); (try clear hkp); (try clear hy0)))
         go_ret
         exact ⟨by first | rfl | (simp [errW_none, errW_some] <;> rfl) | (simp [*, errW_none, errW_some] <;> rfl), (by first | exact (by exact rU HO_1.out) | (simp only [hl1_15]; exact (by exact rU HO_1.out))), by repeat (with_reducible first | exact HB.out | apply bA | apply bN | apply b1 | refine below_set ?_ GE361.out), by repeat (with_reducible first | exact HK.out | apply Kept.alloc | apply Kept.drewN | apply Kept.drew | refine Kept.setCell ?_ (.inr GW361.out) _)⟩
        ·replace c34 := Bool.eq_false_iff.mpr c34
         subst c34
         have H1 : (some (x10_15, t372)) = some (r1, r2) := by rw [if_neg (show ¬ (false = true) by decide)] at H; exact H
         clear H
         have H := H1
         clear H1
         simp only [Option.some.injEq, Prod.mk.injEq] at H
         obtain ⟨rfl, rfl⟩ := H
         go_wp2_with (first | ((with_reducible refine gate_callee (f := 106) rfl ?_); refine goesL_ (some 56) rfl rfl Try.func106 (by kernel_rfl) rfl #[.slice (some ad362) x1_15.length co11, .int .i64 (wrap64 (a2 + 1)), .int .i64 x9_7] rfl (by (try simp only [List.map_toArray, List.map_cons, List.map_nil]) <;> rfl) ?_; (with_reducible refine (spec_l3Merge.calls kj15 (fun k_ => some k_ = (.slice (some ad362) x1_15.length co11 : Value).ownBlock) (.slice (some ad362) x1_15.length co11) x1_15 (wrap64 (a2 + 1)) x9_7 false t372 w0 _ ?side1 ?side2 A33.out).mono ?_); (case side1 => repeat (with_reducible first | exact HB.out | apply bA | apply bN | apply b1 | refine below_set ?_ GE361.out)); (case side2 => exact Kd.R_tight rfl HO_1.out); rintro e w36 ⟨rfl, hy0, hb, hkp⟩; refine ⟨_, rfl, ?_⟩; have n0_ := Aside0.mk (Kd.R_reok rfl hy0 (fun k_ e_ => HO_1.out.1 k_ e_)); have n1_ := Aside0.mk (blk_kept (by exact blkU BK361.out) hkp (fun hs_ => (fun e_ => (Kd.R_ne HO_1.out BK361.out (by decide)) e_) hs_)); have n2_ := Aside0.mk (Kept.then_ (S := (fun k_ => P1_ k_)) (by repeat (with_reducible first | exact HK.out | apply Kept.alloc | apply Kept.drewN | apply Kept.drew | refine Kept.setCell ?_ (.inr GW361.out) _)) hkp (fun k_ hs_ => (fun e_ => (HO_1.out.1 k_ e_.symm)) hs_)); have n3_ := Aside0.mk (hb); clear HO_1; clear BK361; clear HK; clear HB; have HO_1 := n0_; have BK361 := n1_; have HK := n2_; have HB := n3_; clear n0_ n1_ n2_ n3_; (try clear hb); (try clear hkp); (try clear hy0)))
         go_ret
         exact ⟨by first | rfl | (simp [errW_none, errW_some] <;> rfl) | (simp [*, errW_none, errW_some] <;> rfl), (by first | exact (by exact rU HO_1.out) | (simp only [hl1_15]; exact (by exact rU HO_1.out))), by repeat (with_reducible first | exact HB.out | apply bA | apply bN | apply b1 | refine below_set ?_ GE361.out), by repeat (with_reducible first | exact HK.out | apply Kept.alloc | apply Kept.drewN | apply Kept.drew | refine Kept.setCell ?_ (.inr GW361.out) _)⟩
   ·rw [if_neg c6] at H
    exact absurd H (by simp)
  ·rw [if_neg c5] at H
   exact absurd H (by simp)
 ·rw [if_neg c4] at H
  exact absurd H (by simp)
end Go.Proofs.Ytmklpbmlgjkbiaa.PS
end
section
namespace Go.Proofs.Ytmklpbmlgjkbiaa.PS
open Go.RowKit Go.Proofs.YtmklpbmlgjkbiaaW.PrintWords Go.Proofs.YtmklpbmlgjkbiaaW.PrintLast Go.Proofs.YtmklpbmlgjkbiaaW.PrintMore
attribute [local go_sem] max2_int min2_int max_two min_two max_three min_three max_four min_four   -- for this text's walks alone
mutual
def spec_l3Full.l0 : Nat → List (S29) → List Int → Int → Option (List Int)
 | 0, _, _, _ => none
 | k + 1, x0, x3, x4 => if x4 < (x3.length : Int) then (if 0 ≤ x4 then (spec_l3Full.l0 k x0 (x3.set (x4 : Int).toNat (-1)) (wrap64 (x4 + 1))) else (none)) else (if 0 < (x3.length : Int) then (spec_l3Full.l1 k x0 (x3.set (0 : Int).toNat 1) true) else (none))
def spec_l3Full.l1 : Nat → List (S29) → List Int → Bool → Option (List Int)
 | 0, _, _, _ => none
 | k + 1, x0, x3, x5 => if x5 = true then (spec_l3Full.l2 k x0 x3 false 0) else (some x3)
def spec_l3Full.l2 : Nat → List (S29) → List Int → Bool → Int → Option (List Int)
 | 0, _, _, _, _ => none
 | k + 1, x0, x3, x5, x6 => if x6 < (x0.length : Int) then (if 0 ≤ x6 then (if x6 < (x3.length : Int) then (if (rd x3 x6) ≥ 0 then ((spec_l3From.f k x0 x3 x6).bind fun bt379 => (spec_l3Full.j3 k x0 bt379.2 x5 x6 bt379.1)) else (spec_l3Full.j3 k x0 x3 x5 x6 false)) else (none)) else (none)) else (spec_l3Full.l1 k x0 x3 x5)
def spec_l3Full.j3 : Nat → List (S29) → List Int → Bool → Int → Bool → Option (List Int)
 | 0, _, _, _, _, _ => none
 | k + 1, x0, x3, x5, x6, x38 => if x38 = true then (spec_l3Full.l2 k x0 x3 true (wrap64 (x6 + 1))) else (spec_l3Full.l2 k x0 x3 x5 (wrap64 (x6 + 1)))
end
def spec_l3Full.f (k : Nat) (l0 : List (S29)) : Option (List Int) := if 0 ≤ (l0.length : Int) then (if ((l0.length : Int) : Int).toNat ≤ 35184372088832 then (spec_l3Full.l0 k l0 (List.replicate ((l0.length : Int) : Int).toNat 0) 1) else (none)) else (none)
theorem spec_l3Full.calls (k : Nat) (A0 : Option Addr) (c0 : Nat) (l0 : List (S29)) (r : List Int) (w : World) (hr0 : Kd.C k29 w A0 l0.length l0) (hc0 : l0.length ≤ c0) (h : spec_l3Full.f k l0 = some r) :
  Calls Try.prog 81 #[.slice A0 l0.length c0] w fun e w' => ∃ v0_ : Value, e = .returned (v0_) ∧ Kd.R (Kd.int .i64) 3 w' w.heap.size (fun _ => True) v0_ r ∧ Below w.heap.size w w' := by
 have HR0 := Aside0.mk hr0
 have HC0 := Aside0.mk hc0
 clear hr0 hc0
 have HB := Aside0.mk (Below.refl w.heap.size w)
 have H : (if 0 ≤ (l0.length : Int) then (if ((l0.length : Int) : Int).toNat ≤ 35184372088832 then (spec_l3Full.l0 k l0 (List.replicate ((l0.length : Int) : Int).toNat 0) 1) else (none)) else (none)) = some r := h
 clear h
 by_cases c2 : 0 ≤ (l0.length : Int)
 ·rw [if_pos c2] at H
  have c2b0 := eq_true c2
  have c2b1 : decide (0 ≤ (l0.length : Int)) = true := decide_eq_true c2
  clear c2
  by_cases c3 : ((l0.length : Int) : Int).toNat ≤ 35184372088832
  ·rw [if_pos c3] at H
   have c3b0 := eq_true c3
   have c3b1 : decide (((l0.length : Int) : Int).toNat ≤ 35184372088832) = true := decide_eq_true c3
   clear c3
   obtain ⟨y373, hy373⟩ : ∃ y_ : List Int, y_ = (List.replicate ((l0.length : Int) : Int).toNat 0) := ⟨_, rfl⟩
   replace H : (spec_l3Full.l0 k l0 y373 1) = some r := by first | (rw [hy373]; with_reducible exact H) | (have H2_ := (Option.bind_some _ _).symm.trans H; rw [hy373]; with_reducible exact H2_) | (have H2_ := (Option.bind_some _ _).symm.trans H; with_reducible exact H2_) | with_reducible exact H | (rw [hy373]; exact H) | exact H
   have Ny373 := Aside0.mk hy373
   clear hy373
   have H' := Aside0.mk H
   clear H
   go_enter Try.func81, Try.ntmps81
   go_wp2_with (first | ((with_reducible refine gate_dst (N := 9) rfl ?_); refine Kd.R_make (Kd.int .i64) _ 3 rfl (N := 9) rfl 32 _ _ rfl (l0.length : Int) rfl rfl Try.underlying32 (.int .i64 0) 8 info3 rfl (by decide) (by omega) 0 (ok := fun _ => True) (okp := fun _ => True) rfl (fun _ hk => hk) trivial (of_decide_eq_true (by assumption)) (Nat.le_trans (Nat.mul_le_mul_right _ (of_decide_eq_true (by assumption) : (l0.length : Int).toNat ≤ 35184372088832)) (by omega)) (Below.refl _ _) (Nat.le_refl _) ?_; intro v374 w4 ho5 hb hg_ hnew_; clear hg_ hnew_; (first | rw [← Ny373.out] at ho5 | (simp only [Int.reduceToNat] at ho5; rw [← Ny373.out] at ho5)); have HO375 := Aside0.mk (Kd.R_lower ho5 (below_size (by exact bU HB.out))); replace HB := Aside0.mk (below_step (by exact bU HB.out) hb); clear hb ho5))
   go_loopg [4] k (fun kq v4 w' => ∃ (x3_1 : List Int) (x4_1 : Int), v4 = .int .i64 x4_1 ∧ Aside0 (spec_l3Full.l0 kq l0 x3_1 x4_1 = some r) ∧ Aside0 (kq ≤ k) ∧ Aside0 (Kd.R (Kd.int .i64) 3 w' w.heap.size (fun _ => True) v374 x3_1) ∧ Aside0 (Below w.heap.size w w'))
   case atStart => exact ⟨(y373), (1), (by first | rfl | (simp; done) | (simp [*]; done)), H', ⟨Nat.le_refl _⟩, ⟨by exact rU HO375.out⟩, ⟨by exact bU HB.out⟩⟩
   case round =>
    clear H'
    (try clear c2); (try clear c2b0); (try clear c2b1); (try clear p2); (try clear c3); (try clear c3b0); (try clear c3b1)
    obtain ⟨x3_1, x4_1, rfl, HA, HK1, HO_3, HB⟩ := hrel
    cases gk with
    | zero => exact absurd HA.out (by simp [spec_l3Full.l0])
    | succ k1 =>
     have H := HA.out
     clear HA
     simp only [spec_l3Full.l0] at H
     by_cases c6 : x4_1 < (x3_1.length : Int)
     ·rw [if_pos c6] at H
      have c6b0 : decide (x4_1 < (x3_1.length : Int)) = true := decide_eq_true c6
      clear c6
      by_cases c7 : 0 ≤ x4_1
      ·rw [if_pos c7] at H
       have c7b0 : decide (0 ≤ x4_1) = true := decide_eq_true c7
       clear c7
       obtain ⟨y376, hy376⟩ : ∃ y_ : List Int, y_ = (x3_1.set (x4_1 : Int).toNat (-1)) := ⟨_, rfl⟩
       replace H : (spec_l3Full.l0 k1 l0 y376 (wrap64 (x4_1 + 1))) = some r := by first | (rw [hy376]; with_reducible exact H) | (have H2_ := (Option.bind_some _ _).symm.trans H; rw [hy376]; with_reducible exact H2_) | (have H2_ := (Option.bind_some _ _).symm.trans H; with_reducible exact H2_) | with_reducible exact H | (rw [hy376]; exact H) | exact H
       have Ny376 := Aside0.mk hy376
       clear hy376
       have H' := Aside0.mk H
       clear H
       obtain ⟨Ao9, co9, eo9⟩ := Kd.R_slice HO_3.out
       subst eo9
       have p8 : 0 ≤ (x4_1 : Int) := of_decide_eq_true (by assumption)
       have q8 : (x4_1 : Int) < ((x3_1.length : Int) : Int) := of_decide_eq_true (by assumption)
       obtain ⟨go8, co8, eo8, gb8, gl8, cl8, HG8⟩ := Kd.R_form HO_3.out (by omega)
       (first | cases eo8 | (injection eo8 with ea_ en_ ec_; (first | subst ea_ | (injection ea_ with ea_; subst ea_)); subst ec_; clear en_))
       have GB8 := Aside0.mk gb8
       have GG8 := Aside0.mk HG8
       clear gb8 gl8 HG8
       obtain ⟨hx8_0, hf8_0⟩ := Kd.R_celln 0 HO_3.out (x4_1 : Int) p8 q8
       replace p8 := eq_true p8
       replace q8 := eq_true q8
       have HP10 := Kd.R_putg HO_3.out (x4_1 : Int) (-1)
       go_wp2_with (first | ((with_reducible refine gate_store (t := 3) (p := 18) rfl ?_); refine store_event (t := 3) (p := 18) (v := ?vo_w11) (w1 := (wr.setCell ⟨go8, (x4_1 : Int).toNat, none⟩ (.int .i64 (-1)))) ?hg ?ho ?hn ?hr ?_; (case ho => rfl); (case hg => rfl); (case hn => rfl); (case hr => first | (go_simp; done) | (go_simp; rfl)); intro w11 hw; have hg : wr.grownBy w11 (some go8) := (by rw [hw]; exact HP10.2); have hp_ : Kd.R (Kd.int .i64) 3 w11 w.heap.size (fun _ => True) (.slice (some ⟨go8, 0, none⟩) x3_1.length co9) y376 := (by rw [hw, Ny376.out]; exact HP10.1); clear HP10; replace HO_3 := Aside0.mk (hp_); replace HB := Aside0.mk ((by rw [hw]; exact below_set (HB.out) GB8.out : Below w.heap.size w w11)); clear hg hw hp_))
       go_roundg k1
       case measure => have := HK1.out; omega
       case rel => exact ⟨(y376), (wrap64 (x4_1 + 1)), (by first | rfl | (simp; done) | (simp [*]; done)), H', ⟨by have := HK1.out; omega⟩, ⟨by exact rU HO_3.out⟩, ⟨by exact bU HB.out⟩⟩
      ·rw [if_neg c7] at H
       exact absurd H (by simp)
     ·rw [if_neg c6] at H
      have c6b0 : decide (x4_1 < (x3_1.length : Int)) = false := decide_eq_false c6
      clear c6
      by_cases c12 : 0 < (x3_1.length : Int)
      ·rw [if_pos c12] at H
       have c12b0 : decide (0 < (x3_1.length : Int)) = true := decide_eq_true c12
       have c12b1 : decide (0 < x3_1.length) = true := decide_eq_true (by omega)
       clear c12
       obtain ⟨y377, hy377⟩ : ∃ y_ : List Int, y_ = (x3_1.set (0 : Int).toNat 1) := ⟨_, rfl⟩
       replace H : (spec_l3Full.l1 k1 l0 y377 true) = some r := by first | (rw [hy377]; with_reducible exact H) | (have H2_ := (Option.bind_some _ _).symm.trans H; rw [hy377]; with_reducible exact H2_) | (have H2_ := (Option.bind_some _ _).symm.trans H; with_reducible exact H2_) | with_reducible exact H | (rw [hy377]; exact H) | exact H
       have Ny377 := Aside0.mk hy377
       clear hy377
       have H' := Aside0.mk H
       clear H
       obtain ⟨Ao14, co14, eo14⟩ := Kd.R_slice HO_3.out
       subst eo14
       have p13 : 0 ≤ (0 : Int) := (by omega)
       have q13 : (0 : Int) < ((x3_1.length : Int) : Int) := of_decide_eq_true (by assumption)
       have qi13 : (0 < x3_1.length) = True := eq_true (by omega)
       obtain ⟨go13, co13, eo13, gb13, gl13, cl13, HG13⟩ := Kd.R_form HO_3.out (by omega)
       (first | cases eo13 | (injection eo13 with ea_ en_ ec_; (first | subst ea_ | (injection ea_ with ea_; subst ea_)); subst ec_; clear en_))
       have GB13 := Aside0.mk gb13
       have GG13 := Aside0.mk HG13
       clear gb13 gl13 HG13
       obtain ⟨hx13_0, hf13_0⟩ := Kd.R_celln 0 HO_3.out (0 : Int) p13 q13
       (try rw [show ((0 : Int)).toNat = 0 from rfl] at hx13_0)
       (try simp only [Nat.reduceMul, Nat.zero_mul, Nat.zero_add, Nat.reduceAdd] at hx13_0)
       (try rw [show ((0 : Int)).toNat = 0 from rfl] at hf13_0)
       (try simp only [Nat.reduceMul, Nat.zero_mul, Nat.zero_add, Nat.reduceAdd] at hf13_0)
       replace p13 := eq_true p13
       replace q13 := eq_true q13
       have HP15 := Kd.R_putg HO_3.out (0 : Int) 1
       go_wp2_with (first | ((with_reducible refine gate_store (t := 3) (p := 20) rfl ?_); refine store_event (t := 3) (p := 20) (v := ?vo_w16) (w1 := (wr.setCell ⟨go13, (0 : Int).toNat, none⟩ (.int .i64 1))) ?hg ?ho ?hn ?hr ?_; (case ho => rfl); (case hg => rfl); (case hn => rfl); (case hr => first | (go_simp; done) | (go_simp; rfl)); intro w16 hw; have hg : wr.grownBy w16 (some go13) := (by rw [hw]; exact HP15.2); have hp_ : Kd.R (Kd.int .i64) 3 w16 w.heap.size (fun _ => True) (.slice (some ⟨go13, 0, none⟩) x3_1.length co14) y377 := (by rw [hw, Ny377.out]; exact HP15.1); clear HP15; replace HO_3 := Aside0.mk (hp_); replace HB := Aside0.mk ((by rw [hw]; exact below_set (HB.out) GB13.out : Below w.heap.size w w16)); clear hg hw hp_))
       go_loopg [5] k1 (fun kq v5 w' => ∃ (x3_2 : List Int) (x5_2 : Bool), v5 = .bool x5_2 ∧ Aside0 (spec_l3Full.l1 kq l0 x3_2 x5_2 = some r) ∧ Aside0 (kq ≤ k1) ∧ Aside0 (Kd.R (Kd.int .i64) 3 w' w.heap.size (fun _ => True) (.slice (some ⟨go13, 0, none⟩) x3_1.length co14) x3_2) ∧ Aside0 (Below w.heap.size w w'))
       case atStart => exact ⟨(y377), (true), (by first | rfl | (simp; done) | (simp [*]; done)), H', ⟨Nat.le_refl _⟩, ⟨by exact rU HO_3.out⟩, ⟨by exact bU HB.out⟩⟩
       case round =>
        clear H'
        (try clear c1); (try clear p1); (try clear q1); (try clear hx1); (try clear qi1); (try clear hf1); (try clear c2); (try clear c2b0); (try clear c2b1); (try clear p2); (try clear c3); (try clear c3b0); (try clear c3b1); (try clear c6); (try clear c6b0); (try clear p6); (try clear c7); (try clear c7b0); (try clear c8); (try clear p8); (try clear q8); (try clear hx8); (try clear hf8); (try clear c12); (try clear c12b0); (try clear c12b1); (try clear p13); (try clear q13); (try clear hx13); (try clear qi13); (try clear hf13); (try clear hx13_0); (try clear hx8_0); (try clear p13); (try clear p2); (try clear p8); (try clear q13); (try clear q8)
        obtain ⟨x3_2, x5_2, rfl, HA, HK2, HO_3, HB⟩ := hrel
        have hl3_2 := (Kd.R_reads' HO_3.out).1
        rw [hl3_2] at HO_3
        (try simp only [hl3_2])
        cases gk with
        | zero => exact absurd HA.out (by simp [spec_l3Full.l1])
        | succ k2 =>
         have H := HA.out
         clear HA
         simp only [spec_l3Full.l1] at H
         by_cases c17 : x5_2 = true
         ·subst c17
          have H1 : (spec_l3Full.l2 k2 l0 x3_2 false 0) = some r := by rw [if_pos rfl] at H; exact H
          clear H
          have H := H1
          clear H1
          have H' := Aside0.mk H
          clear H
          go_wp2
          go_loopg [5, 6] k2 (fun kq v5 v6 w' => ∃ (x3_3 : List Int) (x5_3 : Bool) (x6_3 : Int), v5 = .bool x5_3 ∧ v6 = .int .i64 x6_3 ∧ Aside0 (spec_l3Full.l2 kq l0 x3_3 x5_3 x6_3 = some r) ∧ Aside0 (kq ≤ k2) ∧ Aside0 (Kd.R (Kd.int .i64) 3 w' w.heap.size (fun _ => True) (.slice (some ⟨go13, 0, none⟩) x3_2.length co14) x3_3) ∧ Aside0 (Below w.heap.size w w'))
          case atStart => exact ⟨(x3_2), (false), (0), (by first | rfl | (simp; done) | (simp [*]; done)), (by first | rfl | (simp; done) | (simp [*]; done)), H', ⟨Nat.le_refl _⟩, ⟨by (try simp only [hl3_2]); exact rU HO_3.out⟩, ⟨by exact bU HB.out⟩⟩
          case round =>
           clear H'
           (try clear c1); (try clear p1); (try clear q1); (try clear hx1); (try clear qi1); (try clear hf1); (try clear c2); (try clear c2b0); (try clear c2b1); (try clear p2); (try clear c3); (try clear c3b0); (try clear c3b1); (try clear c6); (try clear c6b0); (try clear p6); (try clear c7); (try clear c7b0); (try clear c8); (try clear p8); (try clear q8); (try clear hx8); (try clear hf8); (try clear c12); (try clear c12b0); (try clear c12b1); (try clear p13); (try clear q13); (try clear hx13); (try clear qi13); (try clear hf13); (try clear c17); (try clear hx13_0); (try clear hx8_0); (try clear p1); (try clear p13); (try clear p2); (try clear p6); (try clear p8); (try clear q1); (try clear q13); (try clear q8)
           obtain ⟨x3_3, x5_3, x6_3, rfl, rfl, HA, HK3, HO_3, HB⟩ := hrel
           have hl3_3 := (Kd.R_reads' HO_3.out).1
           rw [hl3_3] at HO_3
           (try simp only [hl3_3])
           cases gk with
           | zero => exact absurd HA.out (by simp [spec_l3Full.l2])
           | succ k3 =>
            have H := HA.out
            clear HA
            simp only [spec_l3Full.l2] at H
            by_cases c18 : x6_3 < (l0.length : Int)
            ·rw [if_pos c18] at H
             have c18b0 : decide (x6_3 < (l0.length : Int)) = true := decide_eq_true c18
             clear c18
             have HC19 := Aside0.mk H
             clear H
             go_upto_region 13 with (fail)
             go_cut [38] (fun v38 wc => ∃ (kq : Nat) (x3_18 : List Int) (x38_18 : Bool), v38 = .bool x38_18 ∧ Aside0 (spec_l3Full.j3 kq l0 x3_18 x5_3 x6_3 x38_18 = some r) ∧ Aside0 (kq ≤ k3) ∧ Aside0 (Kd.R (Kd.int .i64) 3 wc w.heap.size (fun _ => True) (.slice (some ⟨go13, 0, none⟩) x3_3.length co14) x3_18) ∧ Aside0 (Below w.heap.size w wc))
             case first =>
              have H := HC19.out
              clear HC19
              by_cases c20 : 0 ≤ x6_3
              ·rw [if_pos c20] at H
               have c20b0 : decide (0 ≤ x6_3) = true := decide_eq_true c20
               clear c20
               (first | rw [c20b0] | (simp only [i64_w, i32_w]; rw [c20b0]) | skip)
               by_cases c21 : x6_3 < (x3_3.length : Int)
               ·rw [if_pos c21] at H
                have c21b0 : decide (x6_3 < (x3_3.length : Int)) = true := decide_eq_true c21
                clear c21
                by_cases c22 : (rd x3_3 x6_3) ≥ 0
                ·rw [if_pos c22] at H
                 have c22b0 : decide (0 ≤ (rd x3_3 x6_3)) = true := decide_eq_true c22
                 clear c22
                 replace H := Option.bind_eq_some_iff.mp H
                 obtain ⟨⟨t379, t380⟩, A230, H⟩ := H
                 replace H : (spec_l3Full.j3 k3 l0 t380 x5_3 x6_3 t379) = some r := H
                 have A23 := Aside0.mk A230
                 clear A230
                 have H' := Aside0.mk H
                 clear H
                 have p378 : 0 ≤ (x6_3 : Int) := of_decide_eq_true (by assumption)
                 have q378 : x6_3 < (x3_3.length : Int) := of_decide_eq_true (by assumption)
                 obtain ⟨ad378, e378, hx378_0⟩ := Kd.at_int (Kd.R_reads' HO_3.out).2.2 x6_3 p378 q378
                 obtain rfl : (⟨go13, 0, none⟩ : Addr) = ad378 := (by injection e378)
                 (first | simp only [add_plain] at hx378_0 | simp only [add_at] at hx378_0 | simp only [Addr.add, Nat.zero_add] at hx378_0 | skip)
                 replace p378 := eq_true p378
                 replace q378 := eq_true q378
                 go_wp2_with (first | (go_at_call 98; (with_reducible refine (spec_l3From.calls k3 _ _ l0 (fun k_ => some k_ = (.slice (some ⟨go13, 0, none⟩) x3_3.length co14 : Value).ownBlock) (.slice (some ⟨go13, 0, none⟩) x3_3.length co14) x3_3 x6_3 t379 t380 w _ ?side1 ?side2 ?side3 ?side4 A23.out).mono ?_); (case side1 => exact bU HB.out); (case side2 => exact Kd.C_kept_came k29_heap HR0.out (by exact bU HB.out) (fun k_ hs_ => (fun e_ => Kd.R_base HO_3.out k_ e_.symm) hs_)); (case side3 => exact HC0.out); (case side4 => exact Kd.R_tight rfl HO_3.out); rintro e w24 ⟨rfl, hy0, hb, hkp⟩; replace HO_3 := Aside0.mk (Kd.R_reok rfl hy0 (fun k_ e_ => HO_3.out.1 k_ e_)); replace HB := Aside0.mk (hb); (try clear hb); (try clear hkp); (try clear hy0)))
                 go_meet
                 case rel => exact ⟨_, (t380), (t379), (by first | rfl | (simp; done) | (simp [*]; done)), H', ⟨by have := HK1.out; have := HK2.out; have := HK3.out; first | omega | exact Nat.le_refl _⟩, ⟨by (try simp only [hl3_2]); (try simp only [hl3_3]); exact rU HO_3.out⟩, ⟨by exact bU HB.out⟩⟩
                ·rw [if_neg c22] at H
                 have c22b0 : decide (0 ≤ (rd x3_3 x6_3)) = false := decide_eq_false c22
                 clear c22
                 have H' := Aside0.mk H
                 clear H
                 have p378 : 0 ≤ (x6_3 : Int) := of_decide_eq_true (by assumption)
                 have q378 : x6_3 < (x3_3.length : Int) := of_decide_eq_true (by assumption)
                 obtain ⟨ad378, e378, hx378_0⟩ := Kd.at_int (Kd.R_reads' HO_3.out).2.2 x6_3 p378 q378
                 obtain rfl : (⟨go13, 0, none⟩ : Addr) = ad378 := (by injection e378)
                 (first | simp only [add_plain] at hx378_0 | simp only [add_at] at hx378_0 | simp only [Addr.add, Nat.zero_add] at hx378_0 | skip)
                 replace p378 := eq_true p378
                 replace q378 := eq_true q378
                 go_wp2
                 go_meet
                 case rel => exact ⟨_, (x3_3), (false), (by first | rfl | (simp; done) | (simp [*]; done)), H', ⟨by have := HK1.out; have := HK2.out; have := HK3.out; first | omega | exact Nat.le_refl _⟩, ⟨by (try simp only [hl3_2]); (try simp only [hl3_3]); exact rU HO_3.out⟩, ⟨by exact bU HB.out⟩⟩
               ·rw [if_neg c21] at H
                exact absurd H (by simp)
              ·rw [if_neg c20] at H
               exact absurd H (by simp)
             case rest =>
              clear HC19
              (try clear c1); (try clear p1); (try clear q1); (try clear hx1); (try clear qi1); (try clear hf1); (try clear c2); (try clear c2b0); (try clear c2b1); (try clear p2); (try clear c3); (try clear c3b0); (try clear c3b1); (try clear p3); (try clear q3); (try clear hx3); (try clear c6); (try clear c6b0); (try clear p6); (try clear c7); (try clear c7b0); (try clear c8); (try clear p8); (try clear q8); (try clear hx8); (try clear hf8); (try clear c12); (try clear c12b0); (try clear c12b1); (try clear p13); (try clear q13); (try clear hx13); (try clear qi13); (try clear hf13); (try clear c17); (try clear c18); (try clear c18b0); (try clear c20); (try clear c20b0); (try clear c21); (try clear c21b0); (try clear c22); (try clear c22b0); (try clear hx13_0); (try clear hx378_0); (try clear hx8_0); (try clear p1); (try clear p13); (try clear p2); (try clear p378); (try clear p6); (try clear p8); (try clear q1); (try clear q13); (try clear q378); (try clear q8)
              obtain ⟨kq, x3_18, x38_18, rfl, HA, HJ18, HO_3, HB⟩ := hcut
              have hl3_18 := (Kd.R_reads' HO_3.out).1
              rw [hl3_18] at HO_3
              (try simp only [hl3_18])
              cases kq with
              | zero => exact absurd HA.out (by simp [spec_l3Full.j3])
              | succ kj18 =>
               have H := HA.out
               clear HA
               simp only [spec_l3Full.j3] at H
               by_cases c25 : x38_18 = true
               ·subst c25
                have H1 : (spec_l3Full.l2 kj18 l0 x3_18 true (wrap64 (x6_3 + 1))) = some r := by rw [if_pos rfl] at H; exact H
                clear H
                have H := H1
                clear H1
                have H' := Aside0.mk H
                clear H
                go_wp2
                (try simp only [← hl3_3, ← hl3_18])
                go_roundg kj18
                case measure => have := HK1.out; have := HK2.out; have := HK3.out; have := HJ18.out; omega
                case rel => exact ⟨(x3_18), (true), (wrap64 (x6_3 + 1)), (by first | rfl | (simp; done) | (simp [*]; done)), (by first | rfl | (simp; done) | (simp [*]; done)), H', ⟨by have := HK1.out; have := HK2.out; have := HK3.out; have := HJ18.out; omega⟩, ⟨by (try simp only [hl3_2]); (try simp only [hl3_3]); (try simp only [hl3_18]); exact rU HO_3.out⟩, ⟨by exact bU HB.out⟩⟩
               ·replace c25 := Bool.eq_false_iff.mpr c25
                subst c25
                have H1 : (spec_l3Full.l2 kj18 l0 x3_18 x5_3 (wrap64 (x6_3 + 1))) = some r := by rw [if_neg (show ¬ (false = true) by decide)] at H; exact H
                clear H
                have H := H1
                clear H1
                have H' := Aside0.mk H
                clear H
                go_wp2
                (try simp only [← hl3_3, ← hl3_18])
                go_roundg kj18
                case measure => have := HK1.out; have := HK2.out; have := HK3.out; have := HJ18.out; omega
                case rel => exact ⟨(x3_18), (x5_3), (wrap64 (x6_3 + 1)), (by first | rfl | (simp; done) | (simp [*]; done)), (by first | rfl | (simp; done) | (simp [*]; done)), H', ⟨by have := HK1.out; have := HK2.out; have := HK3.out; have := HJ18.out; omega⟩, ⟨by (try simp only [hl3_2]); (try simp only [hl3_3]); (try simp only [hl3_18]); exact rU HO_3.out⟩, ⟨by exact bU HB.out⟩⟩
            ·rw [if_neg c18] at H
             have c18b0 : decide (x6_3 < (l0.length : Int)) = false := decide_eq_false c18
             clear c18
             have H' := Aside0.mk H
             clear H
             go_wp2
             (try simp only [← hl3_2, ← hl3_3])
             go_roundg k3
             case measure => have := HK1.out; have := HK2.out; have := HK3.out; omega
             case rel => exact ⟨(x3_3), (x5_3), (by first | rfl | (simp; done) | (simp [*]; done)), H', ⟨by have := HK1.out; have := HK2.out; have := HK3.out; omega⟩, ⟨by (try simp only [hl3_2]); (try simp only [hl3_3]); exact rU HO_3.out⟩, ⟨by exact bU HB.out⟩⟩
         ·replace c17 := Bool.eq_false_iff.mpr c17
          subst c17
          have H1 : (some x3_2) = some r := by rw [if_neg (show ¬ (false = true) by decide)] at H; exact H
          clear H
          have H := H1
          clear H1
          obtain rfl := Option.some.inj H
          go_wp2
          go_ret
          exact ⟨_, by first | rfl | (simp [errW_none, errW_some] <;> rfl) | (simp [*, errW_none, errW_some] <;> rfl), by exact rU HO_3.out, by exact bU HB.out⟩
      ·rw [if_neg c12] at H
       exact absurd H (by simp)
  ·rw [if_neg c3] at H
   exact absurd H (by simp)
 ·rw [if_neg c2] at H
  exact absurd H (by simp)
end Go.Proofs.Ytmklpbmlgjkbiaa.PS
end
section
namespace Go.Proofs.Ytmklpbmlgjkbiaa.PS
open Go.RowKit Go.Proofs.YtmklpbmlgjkbiaaW.PrintWords Go.Proofs.YtmklpbmlgjkbiaaW.PrintLast Go.Proofs.YtmklpbmlgjkbiaaW.PrintMore
attribute [local go_sem] max2_int min2_int max_two min_two max_three min_three max_four min_four   -- for this text's walks alone
mutual
def spec_CodeSafe.l0 : Nat → List (S29) → List Int → Int → Option (Bool)
 | 0, _, _, _ => none
 | k + 1, x0, x3, x4 => if x4 < (x0.length : Int) then (if 0 ≤ x4 then (if x4 < (x3.length : Int) then (if (rd x3 x4) < 0 then (spec_CodeSafe.l0 k x0 x3 (wrap64 (x4 + 1))) else ((spec_l2Uses.f k ((rd_T29 x0 x4).f0) ((rd_T29 x0 x4).f1) ((rd_T29 x0 x4).f2) ((rd_T29 x0 x4).f3) ((rd_T29 x0 x4).f4.f0) ((rd_T29 x0 x4).f4.f1)).bind fun t398 => (spec_CodeSafe.l1 k x0 x3 x4 t398 0))) else (none)) else (none)) else (some true)
def spec_CodeSafe.l1 : Nat → List (S29) → List Int → Int → List Int → Int → Option (Bool)
 | 0, _, _, _, _, _ => none
 | k + 1, x0, x3, x4, x5, x6 => if x6 < (x5.length : Int) then (if 0 ≤ x4 then (if x4 < (x3.length : Int) then (if 0 ≤ x6 then ((spec_l3Has.f (rd x3 x4) (rd x5 x6)).bind fun t403 => (if t403 = true then (spec_CodeSafe.l1 k x0 x3 x4 x5 (wrap64 (x6 + 1))) else (some false))) else (none)) else (none)) else (none)) else (if (wrap64 (x4 + 1)) = (x0.length : Int) then (if 0 ≤ x4 then (if x4 < (x0.length : Int) then (if ((rd_T29 x0 x4).f0) = 9 then (spec_CodeSafe.j2 k x0 x3 x4 false) else (spec_CodeSafe.j2 k x0 x3 x4 (((rd_T29 x0 x4).f0) != 14))) else (none)) else (none)) else (spec_CodeSafe.j2 k x0 x3 x4 false))
def spec_CodeSafe.j2 : Nat → List (S29) → List Int → Int → Bool → Option (Bool)
 | 0, _, _, _, _ => none
 | k + 1, x0, x3, x4, x64 => if x64 = true then (some false) else (spec_CodeSafe.l0 k x0 x3 (wrap64 (x4 + 1)))
end
def spec_CodeSafe.f (k : Nat) (l0 : List (S29)) : Option (Bool) := (spec_CodeOk.f k l0).bind fun t392 => (if t392 = true then ((spec_l3Full.f k l0).bind fun t393 => (spec_CodeSafe.l0 k l0 t393 0)) else (some false))
def spec_CodeSafe.T12 : Bool × List (List Nat × List Nat) := (true, [([], []), ([], []), ([0, 1], [0, 1]), ([2], [2]), ([], []), ([], []), ([4, 5], [4, 5]), ([6], [6]), ([3, 7], [3, 7]), ([8], [8])])
def spec_CodeSafe.B12 : List Nat := [0, 0, 3, 7, 0, 0, 48, 112, 255, 511]
theorem spec_CodeSafe.tab12 : rtab .any (opsOf Try.f45 12) = spec_CodeSafe.T12 := by kernel_rfl
theorem spec_CodeSafe.bits12 : waitsOk spec_CodeSafe.T12.2 spec_CodeSafe.B12 = true := by kernel_rfl
theorem spec_CodeSafe.calls (k : Nat) (A0 : Option Addr) (c0 : Nat) (l0 : List (S29)) (r : Bool) (w : World) (hr0 : Kd.C k29 w A0 l0.length l0) (hc0 : l0.length ≤ c0) (h : spec_CodeSafe.f k l0 = some r) :
  Calls Try.prog 45 #[.slice A0 l0.length c0] w fun e w' => e = .returned (.bool r) ∧ Below w.heap.size w w' := by
 have hu29 := Try.underlying29
 have HR0 := Aside0.mk hr0
 have HC0 := Aside0.mk hc0
 clear hr0 hc0
 have HB := Aside0.mk (Below.refl w.heap.size w)
 have H : ((spec_CodeOk.f k l0).bind fun t392 => (if t392 = true then ((spec_l3Full.f k l0).bind fun t393 => (spec_CodeSafe.l0 k l0 t393 0)) else (some false))) = some r := h
 clear h
 replace H := Option.bind_eq_some_iff.mp H
 obtain ⟨t392, A20, H⟩ := H
 replace H : (if t392 = true then ((spec_l3Full.f k l0).bind fun t393 => (spec_CodeSafe.l0 k l0 t393 0)) else (some false)) = some r := H
 have A2 := Aside0.mk A20
 clear A20
 by_cases c3 : t392 = true
 ·subst c3
  have H1 : ((spec_l3Full.f k l0).bind fun t393 => (spec_CodeSafe.l0 k l0 t393 0)) = some r := by rw [if_pos rfl] at H; exact H
  clear H
  have H := H1
  clear H1
  replace H := Option.bind_eq_some_iff.mp H
  obtain ⟨t393, A40, H⟩ := H
  replace H : (spec_CodeSafe.l0 k l0 t393 0) = some r := H
  have A4 := Aside0.mk A40
  clear A40
  have H' := Aside0.mk H
  clear H
  go_enter Try.func45, Try.ntmps45
  go_wp2_with (first | ((with_reducible refine gate_callee (f := 33) rfl ?_); refine goesL_ (some 8) rfl rfl Try.func33 (by kernel_rfl) rfl #[.slice A0 l0.length c0] rfl (by (try simp only [List.map_toArray, List.map_cons, List.map_nil]) <;> rfl) ?_; (with_reducible refine (spec_CodeOk.calls k _ _ l0 true _ ?side1 ?side2 A2.out).mono ?_); (case side1 => repeat (first | exact HR0.out | (with_reducible refine Kd.C_alloc ?_ _) | (with_reducible refine Kd.C_drewN ?_ _) | (with_reducible refine Kd.C_drew ?_))); (case side2 => exact HC0.out); rintro e w5 ⟨rfl, hb⟩; refine ⟨_, rfl, ?_⟩; replace HB := Aside0.mk (below_step (by exact bU HB.out) hb); (try clear hb); (try clear hb2); (try clear hk); (try clear hi)) | ((with_reducible refine gate_callee (f := 81) rfl ?_); refine goesL_ (some 11) rfl rfl Try.func81 (by kernel_rfl) rfl #[.slice A0 l0.length c0] rfl (by (try simp only [List.map_toArray, List.map_cons, List.map_nil]) <;> rfl) ?_; (with_reducible refine (spec_l3Full.calls k _ _ l0 t393 _ ?side1 ?side2 A4.out).mono ?_); (case side1 => repeat (first | exact (Kd.C_below HR0.out HB.out) | (with_reducible refine Kd.C_alloc ?_ _) | (with_reducible refine Kd.C_drewN ?_ _) | (with_reducible refine Kd.C_drew ?_))); (case side2 => exact HC0.out); rintro e w6 ⟨v394, rfl, ho0, hb⟩; refine ⟨_, rfl, ?_⟩; have HO395 := Aside0.mk (Kd.R_lower ho0 (below_size (by exact bU HB.out))); replace HB := Aside0.mk (below_step (by exact bU HB.out) hb); (try clear hb); (try clear hb2); (try clear hk); (try clear hi); (try clear ho0)))
  go_loopg [4] k (fun kq v4 w' => ∃ (x4_1 : Int), v4 = .int .i64 x4_1 ∧ Aside0 (spec_CodeSafe.l0 kq l0 t393 x4_1 = some r) ∧ Aside0 (kq ≤ k) ∧ Aside0 (Kd.R (Kd.int .i64) 3 w' w.heap.size (fun _ => True) v394 t393) ∧ Aside0 (Below w.heap.size w w'))
  case atStart => exact ⟨(0), (by first | rfl | (simp; done) | (simp [*]; done)), H', ⟨Nat.le_refl _⟩, ⟨by exact rU HO395.out⟩, ⟨by exact bU HB.out⟩⟩
  case round =>
   clear H'
   (try clear p2); (try clear c3); (try clear c4)
   obtain ⟨x4_1, rfl, HA, HK1, HO_3, HB⟩ := hrel
   cases gk with
   | zero => exact absurd HA.out (by simp [spec_CodeSafe.l0])
   | succ k1 =>
    have H := HA.out
    clear HA
    simp only [spec_CodeSafe.l0] at H
    by_cases c7 : x4_1 < (l0.length : Int)
    ·rw [if_pos c7] at H
     have c7b0 : decide (x4_1 < (l0.length : Int)) = true := decide_eq_true c7
     clear c7
     by_cases c8 : 0 ≤ x4_1
     ·rw [if_pos c8] at H
      have c8b0 : decide (0 ≤ x4_1) = true := decide_eq_true c8
      clear c8
      by_cases c9 : x4_1 < (t393.length : Int)
      ·rw [if_pos c9] at H
       have c9b0 : decide (x4_1 < (t393.length : Int)) = true := decide_eq_true c9
       clear c9
       by_cases c10 : (rd t393 x4_1) < 0
       ·rw [if_pos c10] at H
        have c10b0 : decide ((rd t393 x4_1) < 0) = true := decide_eq_true c10
        clear c10
        have H' := Aside0.mk H
        clear H
        obtain ⟨Ao11, co11, eo11⟩ := Kd.R_slice HO_3.out
        subst eo11
        have p396 : 0 ≤ (x4_1 : Int) := of_decide_eq_true (by assumption)
        have q396 : x4_1 < (t393.length : Int) := of_decide_eq_true (by assumption)
        obtain ⟨ad396, e396, hx396_0⟩ := Kd.at_int (Kd.R_reads' HO_3.out).2.2 x4_1 p396 q396
        cases e396
        replace p396 := eq_true p396
        replace q396 := eq_true q396
        go_wp2
        go_roundg k1
        case measure => have := HK1.out; omega
        case rel => exact ⟨(wrap64 (x4_1 + 1)), (by first | rfl | (simp; done) | (simp [*]; done)), H', ⟨by have := HK1.out; omega⟩, ⟨by exact rU HO_3.out⟩, ⟨by exact bU HB.out⟩⟩
       ·rw [if_neg c10] at H
        have c10b0 : decide ((rd t393 x4_1) < 0) = false := decide_eq_false c10
        clear c10
        replace H := Option.bind_eq_some_iff.mp H
        obtain ⟨t398, A120, H⟩ := H
        replace H : (spec_CodeSafe.l1 k1 l0 t393 x4_1 t398 0) = some r := H
        have A12 := Aside0.mk A120
        clear A120
        have H' := Aside0.mk H
        clear H
        obtain ⟨Ao13, co13, eo13⟩ := Kd.R_slice HO_3.out
        subst eo13
        have p396 : 0 ≤ (x4_1 : Int) := of_decide_eq_true (by assumption)
        have q396 : x4_1 < (t393.length : Int) := of_decide_eq_true (by assumption)
        obtain ⟨ad396, e396, hx396_0⟩ := Kd.at_int (Kd.R_reads' HO_3.out).2.2 x4_1 p396 q396
        cases e396
        replace p396 := eq_true p396
        replace q396 := eq_true q396
        have p397 : 0 ≤ (x4_1 : Int) := of_decide_eq_true (by assumption)
        have q397 : x4_1 < (l0.length : Int) := of_decide_eq_true (by assumption)
        obtain ⟨ad397, e397, hx397_0, hx397_1, hx397_2, hx397_3, hx397_4, hx397_5⟩ := at_T29 HR0.out x4_1 p397 q397
        cases e397
        replace hx397_0 := (HB.out.cell (World.block_lt_of_cell? w _ hx397_0)).trans hx397_0
        replace hx397_1 := (HB.out.cell (World.block_lt_of_cell? w _ hx397_1)).trans hx397_1
        replace hx397_2 := (HB.out.cell (World.block_lt_of_cell? w _ hx397_2)).trans hx397_2
        replace hx397_3 := (HB.out.cell (World.block_lt_of_cell? w _ hx397_3)).trans hx397_3
        replace hx397_4 := (HB.out.cell (World.block_lt_of_cell? w _ hx397_4)).trans hx397_4
        replace hx397_5 := (HB.out.cell (World.block_lt_of_cell? w _ hx397_5)).trans hx397_5
        replace p397 := eq_true p397
        replace q397 := eq_true q397
        go_wp2_with (first | ((with_reducible refine gate_callee (f := 68) rfl ?_); refine goesL_ (some 27) rfl rfl Try.func68 (by kernel_rfl) rfl #[.agg #[.int .i64 ((rd_T29 l0 x4_1).f0), .int .i64 ((rd_T29 l0 x4_1).f1), .int .i64 ((rd_T29 l0 x4_1).f2), .int .i64 ((rd_T29 l0 x4_1).f3), .int .i64 ((rd_T29 l0 x4_1).f4.f0), .int .i64 ((rd_T29 l0 x4_1).f4.f1)]] rfl (by (try simp only [List.map_toArray, List.map_cons, List.map_nil]) <;> rfl) ?_; (with_reducible refine (spec_l2Uses.calls k1 ((rd_T29 l0 x4_1).f0) ((rd_T29 l0 x4_1).f1) ((rd_T29 l0 x4_1).f2) ((rd_T29 l0 x4_1).f3) ((rd_T29 l0 x4_1).f4.f0) ((rd_T29 l0 x4_1).f4.f1) t398 _ A12.out).mono ?_); rintro e w14 ⟨v399, rfl, ho0, hb⟩; refine ⟨_, rfl, ?_⟩; have n0_ := Aside0.mk (Kd.R_elder' (by exact rU HO_3.out) (Kd.R_base ho0) hb); have n1_ := Aside0.mk (Kd.R_lower (Kd.R_new' ho0 (Kd.R_lt (by exact rU HO_3.out))) (below_size (by exact bU HB.out))); have n2_ := Aside0.mk (below_step (by exact bU HB.out) hb); clear HO_3; clear HB; have HO_3 := n0_; have HO400 := n1_; have HB := n2_; clear n0_ n1_ n2_; (try clear hb); (try clear hb2); (try clear hk); (try clear hi); (try clear ho0)))
        go_loopg [6] k1 (fun kq v6 w' => ∃ (x6_2 : Int), v6 = .int .i64 x6_2 ∧ Aside0 (spec_CodeSafe.l1 kq l0 t393 x4_1 t398 x6_2 = some r) ∧ Aside0 (kq ≤ k1) ∧ Aside0 (Kd.R (Kd.int .i64) 3 w' w.heap.size (fun k_ => some k_ ≠ (v399 : Value).ownBlock) (.slice (some ad396) t393.length co13) t393) ∧ Aside0 (Kd.R (Kd.int .i64) 3 w' w.heap.size (fun k_ => some k_ ≠ ((.slice (some ad396) t393.length co13) : Value).ownBlock) v399 t398) ∧ Aside0 (Below w.heap.size w w'))
        case atStart => exact ⟨(0), (by first | rfl | (simp; done) | (simp [*]; done)), H', ⟨Nat.le_refl _⟩, ⟨by (with_reducible repeat (first | apply rA | apply rN | apply rD)); exact Kd.R_mono HO_3.out (fun _ hk => hk.2)⟩, ⟨by (with_reducible repeat (first | apply rA | apply rN | apply rD)); exact Kd.R_mono HO400.out (fun _ hk => hk.2)⟩, ⟨by exact bU HB.out⟩⟩
        case round =>
         clear H'
         (try clear c1); (try clear p2); (try clear c3); (try clear p3); (try clear q3); (try clear hx3); (try clear c4); (try clear c6); (try clear p6); (try clear c7); (try clear c7b0); (try clear c8); (try clear c8b0); (try clear c9); (try clear c9b0); (try clear c10); (try clear c10b0); (try clear hx396_0); (try clear hx397_0); (try clear hx397_1); (try clear hx397_2); (try clear hx397_3); (try clear hx397_4); (try clear hx397_5); (try clear p2); (try clear p396); (try clear p397); (try clear q396); (try clear q397)
         obtain ⟨x6_2, rfl, HA, HK2, HO_3, HO_5, HB⟩ := hrel
         cases gk with
         | zero => exact absurd HA.out (by simp [spec_CodeSafe.l1])
         | succ k2 =>
          have H := HA.out
          clear HA
          simp only [spec_CodeSafe.l1] at H
          by_cases c15 : x6_2 < (t398.length : Int)
          ·rw [if_pos c15] at H
           have c15b0 : decide (x6_2 < (t398.length : Int)) = true := decide_eq_true c15
           clear c15
           by_cases c16 : 0 ≤ x4_1
           ·rw [if_pos c16] at H
            have c16b0 : decide (0 ≤ x4_1) = true := decide_eq_true c16
            clear c16
            by_cases c17 : x4_1 < (t393.length : Int)
            ·rw [if_pos c17] at H
             have c17b0 : decide (x4_1 < (t393.length : Int)) = true := decide_eq_true c17
             clear c17
             by_cases c18 : 0 ≤ x6_2
             ·rw [if_pos c18] at H
              have c18b0 : decide (0 ≤ x6_2) = true := decide_eq_true c18
              clear c18
              replace H := Option.bind_eq_some_iff.mp H
              obtain ⟨t403, A190, H⟩ := H
              replace H : (if t403 = true then (spec_CodeSafe.l1 k2 l0 t393 x4_1 t398 (wrap64 (x6_2 + 1))) else (some false)) = some r := H
              have A19 := Aside0.mk A190
              clear A190
              by_cases c20 : t403 = true
              ·subst c20
               have H1 : (spec_CodeSafe.l1 k2 l0 t393 x4_1 t398 (wrap64 (x6_2 + 1))) = some r := by rw [if_pos rfl] at H; exact H
               clear H
               have H := H1
               clear H1
               have H' := Aside0.mk H
               clear H
               obtain ⟨Ao21, co21, eo21⟩ := Kd.R_slice HO_5.out
               subst eo21
               try go_wp2
               have n0_ := Aside0.mk (Kd.R_drew HO_3.out)
               have n1_ := Aside0.mk (Kd.R_drew HO_5.out)
               have n2_ := Aside0.mk (below_drew1 HB.out)
               clear HO_3 HO_5 HB
               have HO_3 := n0_
               have HO_5 := n1_
               have HB := n2_
               clear n0_ n1_ n2_
               have p401 : 0 ≤ (x4_1 : Int) := of_decide_eq_true (by assumption)
               have q401 : x4_1 < (t393.length : Int) := of_decide_eq_true (by assumption)
               obtain ⟨ad401, e401, hx401_0⟩ := Kd.at_int (Kd.R_reads' HO_3.out).2.2 x4_1 p401 q401
               obtain rfl : ad396 = ad401 := (by injection e401)
               replace p401 := eq_true p401
               replace q401 := eq_true q401
               have p402 : 0 ≤ (x6_2 : Int) := of_decide_eq_true (by assumption)
               have q402 : x6_2 < (t398.length : Int) := of_decide_eq_true (by assumption)
               obtain ⟨ad402, e402, hx402_0⟩ := Kd.at_int (Kd.R_reads' HO_5.out).2.2 x6_2 p402 q402
               cases e402
               replace p402 := eq_true p402
               replace q402 := eq_true q402
               refine start_ (n := 10) (S := fun w' => w'.cell? (ad396.add (x4_1).toNat) = some (.int .i64 (rd t393 x4_1)) ∧ w'.cell? (ad402.add (x6_2).toNat) = some (.int .i64 (rd t398 x6_2))) (ds := []) #[false, false, false, false, false, false, false, false, false, false] (by kernel_rfl) rfl rfl ⟨hx401_0, hx402_0⟩ (fun hHeld => ?_); refine with_tabW spec_CodeSafe.tab12 spec_CodeSafe.bits12 (fun HT_ HW_ => ?_)
               generalize wr.drew = w22 at HO_3 HO_5 HB hx401_0 hx402_0 hHeld ⊢
               refine pure_ (i := 0) (N := some 34) (v := ?_) (a' := ?_) #[true, false, false, false, false, false, false, false, false, false] rfl rfl (any_of HT_.out (by kernel_rfl)) (fun _ _ _ h => h) (Or.inl ⟨by rfl, ?_⟩) ?_ ?_
               rotate_left
               ·intro w'
                go_simp
                with_reducible rfl
               rotate_left
               ·simp only [Act.put, List.setIfInBounds_toArray, List.set_cons_zero, List.set_cons_succ, i64_w, i32_w]
                rfl
               refine pure_ (i := 1) (N := some 35) (v := ?_) (a' := ?_) #[true, true, false, false, false, false, false, false, false, false] rfl rfl (any_of HT_.out (by kernel_rfl)) (fun _ _ _ h => h) (Or.inl ⟨by rfl, ?_⟩) ?_ ?_
               rotate_left
               ·intro w'
                go_simp
                with_reducible rfl
               rotate_left
               ·simp only [Act.put, List.setIfInBounds_toArray, List.set_cons_zero, List.set_cons_succ, i64_w, i32_w]
                rfl
               refine pure_ (i := 2) (N := some 36) (v := ?_) (a' := ?_) #[true, true, true, false, false, false, false, false, false, false] rfl rfl (any_of HT_.out (by kernel_rfl)) (fun _ _ _ h => h) (Or.inl ⟨by rfl, ?_⟩) ?_ ?_
               rotate_left
               ·intro w'
                go_simp
                with_reducible rfl
               rotate_left
               ·simp only [Act.put, List.setIfInBounds_toArray, List.set_cons_zero, List.set_cons_succ, i64_w, i32_w]
                rfl
               refine pure_ (i := 4) (N := some 38) (v := ?_) (a' := ?_) #[true, true, true, false, true, false, false, false, false, false] rfl rfl (any_of HT_.out (by kernel_rfl)) (fun _ _ _ h => h) (Or.inl ⟨by rfl, ?_⟩) ?_ ?_
               rotate_left
               ·intro w'
                go_simp
                with_reducible rfl
               rotate_left
               ·simp only [Act.put, List.setIfInBounds_toArray, List.set_cons_zero, List.set_cons_succ, i64_w, i32_w]
                rfl
               refine pure_ (i := 5) (N := some 39) (v := ?_) (a' := ?_) #[true, true, true, false, true, true, false, false, false, false] rfl rfl (any_of HT_.out (by kernel_rfl)) (fun _ _ _ h => h) (Or.inl ⟨by rfl, ?_⟩) ?_ ?_
               rotate_left
               ·intro w'
                go_simp
                with_reducible rfl
               rotate_left
               ·simp only [Act.put, List.setIfInBounds_toArray, List.set_cons_zero, List.set_cons_succ, i64_w, i32_w]
                rfl
               refine pure_ (i := 6) (N := some 40) (v := ?_) (a' := ?_) #[true, true, true, false, true, true, true, false, false, false] rfl rfl (any_of HT_.out (by kernel_rfl)) (fun _ _ _ h => h) (Or.inl ⟨by rfl, ?_⟩) ?_ ?_
               rotate_left
               ·intro w'
                go_simp
                with_reducible rfl
               rotate_left
               ·simp only [Act.put, List.setIfInBounds_toArray, List.set_cons_zero, List.set_cons_succ, i64_w, i32_w]
                rfl
               refine take_ (i := 3) (N := some 37) (v := ?_) (a' := ?_) #[true, true, true, true, true, true, true, false, false, false] rfl rfl (take_ofW HT_.out HW_.out (by kernel_rfl)) (fun _ _ _ h => h) (Or.inl ⟨by rfl, ?_⟩) hHeld ?_ ?_
               rotate_left
               ·rintro w' ⟨s0, s1⟩
                go_simp
                with_reducible rfl
               rotate_left
               ·simp only [Act.put, List.setIfInBounds_toArray, List.set_cons_zero, List.set_cons_succ, i64_w, i32_w]
                rfl
               refine take_ (i := 7) (N := some 41) (v := ?_) (a' := ?_) #[true, true, true, true, true, true, true, true, false, false] rfl rfl (take_ofW HT_.out HW_.out (by kernel_rfl)) (fun _ _ _ h => h) (Or.inl ⟨by rfl, ?_⟩) hHeld ?_ ?_
               rotate_left
               ·rintro w' ⟨s0, s1⟩
                go_simp
                with_reducible rfl
               rotate_left
               ·simp only [Act.put, List.setIfInBounds_toArray, List.set_cons_zero, List.set_cons_succ, i64_w, i32_w]
                rfl
               refine one_ (i := 8) (N := some 42) #[true, true, true, true, true, true, true, true, true, false] rfl rfl (one_of HT_.out (by kernel_rfl)) (by decide) (fun K hK => ?_)
               refine goes_ Try.func82 (by kernel_rfl) rfl #[.int .i64 (rd t393 x4_1), .int .i64 (rd t398 x6_2)] (by rfl) rfl rfl (by (try simp only [List.map_toArray, List.map_cons, List.map_nil]) <;> rfl) ?_
               with_reducible refine (spec_l3Has.calls (rd t393 x4_1) (rd t398 x6_2) true _ A19.out).mono ?_
               rintro e w23 ⟨rfl, hb⟩
               have HS0_ := (hb.cell (World.block_lt_of_cell? _ _ (hHeld.1))).trans (hHeld.1)
               have HS1_ := (hb.cell (World.block_lt_of_cell? _ _ (hHeld.2))).trans (hHeld.2)
               refine ⟨_, rfl, ?_⟩
               have n0_ := Aside0.mk (Kd.R_below (by exact rU HO_3.out) hb)
               have n1_ := Aside0.mk (Kd.R_below (by exact rU HO_5.out) hb)
               have n2_ := Aside0.mk (below_step (by exact bU HB.out) hb)
               clear HO_3 HO_5 HB
               have HO_3 := n0_
               have HO_5 := n1_
               have HB := n2_
               clear n0_ n1_ n2_
               (try clear hb)
               (try clear hb2)
               (try clear hk)
               (try clear hi)
               refine hK.out _ _ ⟨HS0_, HS1_⟩ (fun hHeld => ?_)
               clear hK K
               refine norm_ (a' := ?_) ?_ ?_
               rotate_left
               ·show Act.put _ (some 42) _ = _
                simp only [Act.put, List.setIfInBounds_toArray, List.set_cons_zero, List.set_cons_succ, i64_w, i32_w]
                rfl
               refine pure_ (i := 9) (N := some 43) (v := ?_) (a' := ?_) #[true, true, true, true, true, true, true, true, true, true] rfl rfl (any_of HT_.out (by kernel_rfl)) (fun _ _ _ h => h) (Or.inl ⟨by rfl, ?_⟩) ?_ ?_
               rotate_left
               ·intro w'
                go_simp
                with_reducible rfl
               rotate_left
               ·simp only [Act.put, List.setIfInBounds_toArray, List.set_cons_zero, List.set_cons_succ, i64_w, i32_w]
                rfl
               refine done_ (done_of HT_.out (by kernel_rfl)) ?_
               try go_wp2
               go_roundg k2
               case measure => have := HK1.out; have := HK2.out; omega
               case rel => exact ⟨(wrap64 (x6_2 + 1)), (by first | rfl | (simp; done) | (simp [*]; done)), H', ⟨by have := HK1.out; have := HK2.out; omega⟩, ⟨by exact rU HO_3.out⟩, ⟨by exact rU HO_5.out⟩, ⟨by exact bU HB.out⟩⟩
              ·replace c20 := Bool.eq_false_iff.mpr c20
               subst c20
               have H1 : (some false) = some r := by rw [if_neg (show ¬ (false = true) by decide)] at H; exact H
               clear H
               have H := H1
               clear H1
               obtain rfl := Option.some.inj H
               obtain ⟨Ao24, co24, eo24⟩ := Kd.R_slice HO_5.out
               subst eo24
               try go_wp2
               have n0_ := Aside0.mk (Kd.R_drew HO_3.out)
               have n1_ := Aside0.mk (Kd.R_drew HO_5.out)
               have n2_ := Aside0.mk (below_drew1 HB.out)
               clear HO_3 HO_5 HB
               have HO_3 := n0_
               have HO_5 := n1_
               have HB := n2_
               clear n0_ n1_ n2_
               have p401 : 0 ≤ (x4_1 : Int) := of_decide_eq_true (by assumption)
               have q401 : x4_1 < (t393.length : Int) := of_decide_eq_true (by assumption)
               obtain ⟨ad401, e401, hx401_0⟩ := Kd.at_int (Kd.R_reads' HO_3.out).2.2 x4_1 p401 q401
               obtain rfl : ad396 = ad401 := (by injection e401)
               replace p401 := eq_true p401
               replace q401 := eq_true q401
               have p402 : 0 ≤ (x6_2 : Int) := of_decide_eq_true (by assumption)
               have q402 : x6_2 < (t398.length : Int) := of_decide_eq_true (by assumption)
               obtain ⟨ad402, e402, hx402_0⟩ := Kd.at_int (Kd.R_reads' HO_5.out).2.2 x6_2 p402 q402
               cases e402
               replace p402 := eq_true p402
               replace q402 := eq_true q402
               refine start_ (n := 10) (S := fun w' => w'.cell? (ad396.add (x4_1).toNat) = some (.int .i64 (rd t393 x4_1)) ∧ w'.cell? (ad402.add (x6_2).toNat) = some (.int .i64 (rd t398 x6_2))) (ds := []) #[false, false, false, false, false, false, false, false, false, false] (by kernel_rfl) rfl rfl ⟨hx401_0, hx402_0⟩ (fun hHeld => ?_); refine with_tabW spec_CodeSafe.tab12 spec_CodeSafe.bits12 (fun HT_ HW_ => ?_)
               generalize wr.drew = w25 at HO_3 HO_5 HB hx401_0 hx402_0 hHeld ⊢
               refine pure_ (i := 0) (N := some 34) (v := ?_) (a' := ?_) #[true, false, false, false, false, false, false, false, false, false] rfl rfl (any_of HT_.out (by kernel_rfl)) (fun _ _ _ h => h) (Or.inl ⟨by rfl, ?_⟩) ?_ ?_
               rotate_left
               ·intro w'
                go_simp
                with_reducible rfl
               rotate_left
               ·simp only [Act.put, List.setIfInBounds_toArray, List.set_cons_zero, List.set_cons_succ, i64_w, i32_w]
                rfl
               refine pure_ (i := 1) (N := some 35) (v := ?_) (a' := ?_) #[true, true, false, false, false, false, false, false, false, false] rfl rfl (any_of HT_.out (by kernel_rfl)) (fun _ _ _ h => h) (Or.inl ⟨by rfl, ?_⟩) ?_ ?_
               rotate_left
               ·intro w'
                go_simp
                with_reducible rfl
               rotate_left
               ·simp only [Act.put, List.setIfInBounds_toArray, List.set_cons_zero, List.set_cons_succ, i64_w, i32_w]
                rfl
               refine pure_ (i := 2) (N := some 36) (v := ?_) (a' := ?_) #[true, true, true, false, false, false, false, false, false, false] rfl rfl (any_of HT_.out (by kernel_rfl)) (fun _ _ _ h => h) (Or.inl ⟨by rfl, ?_⟩) ?_ ?_
               rotate_left
               ·intro w'
                go_simp
                with_reducible rfl
               rotate_left
               ·simp only [Act.put, List.setIfInBounds_toArray, List.set_cons_zero, List.set_cons_succ, i64_w, i32_w]
                rfl
               refine pure_ (i := 4) (N := some 38) (v := ?_) (a' := ?_) #[true, true, true, false, true, false, false, false, false, false] rfl rfl (any_of HT_.out (by kernel_rfl)) (fun _ _ _ h => h) (Or.inl ⟨by rfl, ?_⟩) ?_ ?_
               rotate_left
               ·intro w'
                go_simp
                with_reducible rfl
               rotate_left
               ·simp only [Act.put, List.setIfInBounds_toArray, List.set_cons_zero, List.set_cons_succ, i64_w, i32_w]
                rfl
               refine pure_ (i := 5) (N := some 39) (v := ?_) (a' := ?_) #[true, true, true, false, true, true, false, false, false, false] rfl rfl (any_of HT_.out (by kernel_rfl)) (fun _ _ _ h => h) (Or.inl ⟨by rfl, ?_⟩) ?_ ?_
               rotate_left
               ·intro w'
                go_simp
                with_reducible rfl
               rotate_left
               ·simp only [Act.put, List.setIfInBounds_toArray, List.set_cons_zero, List.set_cons_succ, i64_w, i32_w]
                rfl
               refine pure_ (i := 6) (N := some 40) (v := ?_) (a' := ?_) #[true, true, true, false, true, true, true, false, false, false] rfl rfl (any_of HT_.out (by kernel_rfl)) (fun _ _ _ h => h) (Or.inl ⟨by rfl, ?_⟩) ?_ ?_
               rotate_left
               ·intro w'
                go_simp
                with_reducible rfl
               rotate_left
               ·simp only [Act.put, List.setIfInBounds_toArray, List.set_cons_zero, List.set_cons_succ, i64_w, i32_w]
                rfl
               refine take_ (i := 3) (N := some 37) (v := ?_) (a' := ?_) #[true, true, true, true, true, true, true, false, false, false] rfl rfl (take_ofW HT_.out HW_.out (by kernel_rfl)) (fun _ _ _ h => h) (Or.inl ⟨by rfl, ?_⟩) hHeld ?_ ?_
               rotate_left
               ·rintro w' ⟨s0, s1⟩
                go_simp
                with_reducible rfl
               rotate_left
               ·simp only [Act.put, List.setIfInBounds_toArray, List.set_cons_zero, List.set_cons_succ, i64_w, i32_w]
                rfl
               refine take_ (i := 7) (N := some 41) (v := ?_) (a' := ?_) #[true, true, true, true, true, true, true, true, false, false] rfl rfl (take_ofW HT_.out HW_.out (by kernel_rfl)) (fun _ _ _ h => h) (Or.inl ⟨by rfl, ?_⟩) hHeld ?_ ?_
               rotate_left
               ·rintro w' ⟨s0, s1⟩
                go_simp
                with_reducible rfl
               rotate_left
               ·simp only [Act.put, List.setIfInBounds_toArray, List.set_cons_zero, List.set_cons_succ, i64_w, i32_w]
                rfl
               refine one_ (i := 8) (N := some 42) #[true, true, true, true, true, true, true, true, true, false] rfl rfl (one_of HT_.out (by kernel_rfl)) (by decide) (fun K hK => ?_)
               refine goes_ Try.func82 (by kernel_rfl) rfl #[.int .i64 (rd t393 x4_1), .int .i64 (rd t398 x6_2)] (by rfl) rfl rfl (by (try simp only [List.map_toArray, List.map_cons, List.map_nil]) <;> rfl) ?_
               with_reducible refine (spec_l3Has.calls (rd t393 x4_1) (rd t398 x6_2) false _ A19.out).mono ?_
               rintro e w26 ⟨rfl, hb⟩
               have HS0_ := (hb.cell (World.block_lt_of_cell? _ _ (hHeld.1))).trans (hHeld.1)
               have HS1_ := (hb.cell (World.block_lt_of_cell? _ _ (hHeld.2))).trans (hHeld.2)
               refine ⟨_, rfl, ?_⟩
               have n0_ := Aside0.mk (Kd.R_below (by exact rU HO_3.out) hb)
               have n1_ := Aside0.mk (Kd.R_below (by exact rU HO_5.out) hb)
               have n2_ := Aside0.mk (below_step (by exact bU HB.out) hb)
               clear HO_3 HO_5 HB
               have HO_3 := n0_
               have HO_5 := n1_
               have HB := n2_
               clear n0_ n1_ n2_
               (try clear hb)
               (try clear hb2)
               (try clear hk)
               (try clear hi)
               refine hK.out _ _ ⟨HS0_, HS1_⟩ (fun hHeld => ?_)
               clear hK K
               refine norm_ (a' := ?_) ?_ ?_
               rotate_left
               ·show Act.put _ (some 42) _ = _
                simp only [Act.put, List.setIfInBounds_toArray, List.set_cons_zero, List.set_cons_succ, i64_w, i32_w]
                rfl
               refine pure_ (i := 9) (N := some 43) (v := ?_) (a' := ?_) #[true, true, true, true, true, true, true, true, true, true] rfl rfl (any_of HT_.out (by kernel_rfl)) (fun _ _ _ h => h) (Or.inl ⟨by rfl, ?_⟩) ?_ ?_
               rotate_left
               ·intro w'
                go_simp
                with_reducible rfl
               rotate_left
               ·simp only [Act.put, List.setIfInBounds_toArray, List.set_cons_zero, List.set_cons_succ, i64_w, i32_w]
                rfl
               refine done_ (done_of HT_.out (by kernel_rfl)) ?_
               try go_wp2
               go_ret
               exact ⟨by first | rfl | (simp [errW_none, errW_some] <;> rfl) | (simp [*, errW_none, errW_some] <;> rfl), by exact bU HB.out⟩
             ·rw [if_neg c18] at H
              exact absurd H (by simp)
            ·rw [if_neg c17] at H
             exact absurd H (by simp)
           ·rw [if_neg c16] at H
            exact absurd H (by simp)
          ·rw [if_neg c15] at H
           have c15b0 : decide (x6_2 < (t398.length : Int)) = false := decide_eq_false c15
           clear c15
           have HC27 := Aside0.mk H
           clear H
           obtain ⟨Ao28, co28, eo28⟩ := Kd.R_slice HO_5.out
           subst eo28
           go_upto_region 14 with (fail)
           go_cut [64] (fun v64 wc => ∃ (kq : Nat) (x64_26 : Bool), v64 = .bool x64_26 ∧ Aside0 (spec_CodeSafe.j2 kq l0 t393 x4_1 x64_26 = some r) ∧ Aside0 (kq ≤ k2) ∧ Aside0 (Kd.R (Kd.int .i64) 3 wc w.heap.size (fun _ => True) (.slice (some ad396) t393.length co13) t393) ∧ Aside0 (Below w.heap.size w wc))
           case first =>
            have H := HC27.out
            clear HC27
            by_cases c29 : (wrap64 (x4_1 + 1)) = (l0.length : Int)
            ·rw [if_pos c29] at H
             have c29b0 : ((wrap64 (x4_1 + 1)) == (l0.length : Int)) = true := beq_iff_eq.mpr c29
             have c29b1 : ((wrap64 (x4_1 + 1)) != (l0.length : Int)) = false := bne_eq_false_iff_eq.mpr c29
             clear c29
             (first | rw [c29b0] | (simp only [i64_w, i32_w]; rw [c29b0]) | skip)
             by_cases c30 : 0 ≤ x4_1
             ·rw [if_pos c30] at H
              have c30b0 : decide (0 ≤ x4_1) = true := decide_eq_true c30
              clear c30
              by_cases c31 : x4_1 < (l0.length : Int)
              ·rw [if_pos c31] at H
               have c31b0 : decide (x4_1 < (l0.length : Int)) = true := decide_eq_true c31
               clear c31
               by_cases c32 : ((rd_T29 l0 x4_1).f0) = 9
               ·rw [if_pos c32] at H
                have c32b0 : (((rd_T29 l0 x4_1).f0) == 9) = true := beq_iff_eq.mpr c32
                have c32b1 : (((rd_T29 l0 x4_1).f0) != 9) = false := bne_eq_false_iff_eq.mpr c32
                clear c32
                have H' := Aside0.mk H
                clear H
                have p404 : 0 ≤ (x4_1 : Int) := of_decide_eq_true (by assumption)
                have q404 : x4_1 < (l0.length : Int) := of_decide_eq_true (by assumption)
                obtain ⟨ad404, e404, hx404_0, hx404_1, hx404_2, hx404_3, hx404_4, hx404_5⟩ := at_T29 HR0.out x4_1 p404 q404
                obtain rfl : ad397 = ad404 := (by injection e404)
                replace hx404_0 := (HB.out.cell (World.block_lt_of_cell? w _ hx404_0)).trans hx404_0
                replace hx404_1 := (HB.out.cell (World.block_lt_of_cell? w _ hx404_1)).trans hx404_1
                replace hx404_2 := (HB.out.cell (World.block_lt_of_cell? w _ hx404_2)).trans hx404_2
                replace hx404_3 := (HB.out.cell (World.block_lt_of_cell? w _ hx404_3)).trans hx404_3
                replace hx404_4 := (HB.out.cell (World.block_lt_of_cell? w _ hx404_4)).trans hx404_4
                replace hx404_5 := (HB.out.cell (World.block_lt_of_cell? w _ hx404_5)).trans hx404_5
                replace p404 := eq_true p404
                replace q404 := eq_true q404
                go_wp2
                go_meet
                case rel => exact ⟨_, (false), (by first | rfl | (simp; done) | (simp [*]; done)), H', ⟨by have := HK1.out; have := HK2.out; first | omega | exact Nat.le_refl _⟩, ⟨by (with_reducible repeat (first | apply rA | apply rN | apply rD)); exact Kd.R_mono HO_3.out (fun _ hk => trivial)⟩, ⟨by exact bU HB.out⟩⟩
               ·rw [if_neg c32] at H
                have c32b0 : (((rd_T29 l0 x4_1).f0) == 9) = false := beq_eq_false_iff_ne.mpr c32
                have c32b1 : (((rd_T29 l0 x4_1).f0) != 9) = true := bne_iff_ne.mpr c32
                have H' := Aside0.mk H
                clear H
                have p404 : 0 ≤ (x4_1 : Int) := of_decide_eq_true (by assumption)
                have q404 : x4_1 < (l0.length : Int) := of_decide_eq_true (by assumption)
                obtain ⟨ad404, e404, hx404_0, hx404_1, hx404_2, hx404_3, hx404_4, hx404_5⟩ := at_T29 HR0.out x4_1 p404 q404
                obtain rfl : ad397 = ad404 := (by injection e404)
                replace hx404_0 := (HB.out.cell (World.block_lt_of_cell? w _ hx404_0)).trans hx404_0
                replace hx404_1 := (HB.out.cell (World.block_lt_of_cell? w _ hx404_1)).trans hx404_1
                replace hx404_2 := (HB.out.cell (World.block_lt_of_cell? w _ hx404_2)).trans hx404_2
                replace hx404_3 := (HB.out.cell (World.block_lt_of_cell? w _ hx404_3)).trans hx404_3
                replace hx404_4 := (HB.out.cell (World.block_lt_of_cell? w _ hx404_4)).trans hx404_4
                replace hx404_5 := (HB.out.cell (World.block_lt_of_cell? w _ hx404_5)).trans hx404_5
                replace p404 := eq_true p404
                replace q404 := eq_true q404
                have p405 : 0 ≤ (x4_1 : Int) := of_decide_eq_true (by assumption)
                have q405 : x4_1 < (l0.length : Int) := of_decide_eq_true (by assumption)
                obtain ⟨ad405, e405, hx405_0, hx405_1, hx405_2, hx405_3, hx405_4, hx405_5⟩ := at_T29 HR0.out x4_1 p405 q405
                obtain rfl : ad397 = ad405 := (by injection e405)
                replace hx405_0 := (HB.out.cell (World.block_lt_of_cell? w _ hx405_0)).trans hx405_0
                replace hx405_1 := (HB.out.cell (World.block_lt_of_cell? w _ hx405_1)).trans hx405_1
                replace hx405_2 := (HB.out.cell (World.block_lt_of_cell? w _ hx405_2)).trans hx405_2
                replace hx405_3 := (HB.out.cell (World.block_lt_of_cell? w _ hx405_3)).trans hx405_3
                replace hx405_4 := (HB.out.cell (World.block_lt_of_cell? w _ hx405_4)).trans hx405_4
                replace hx405_5 := (HB.out.cell (World.block_lt_of_cell? w _ hx405_5)).trans hx405_5
                replace p405 := eq_true p405
                replace q405 := eq_true q405
                go_wp2
                go_meet
                case rel => exact ⟨_, ((((rd_T29 l0 x4_1).f0) != 14)), (by first | rfl | (simp; done) | (simp [*]; done)), H', ⟨by have := HK1.out; have := HK2.out; first | omega | exact Nat.le_refl _⟩, ⟨by (with_reducible repeat (first | apply rA | apply rN | apply rD)); exact Kd.R_mono HO_3.out (fun _ hk => trivial)⟩, ⟨by exact bU HB.out⟩⟩
              ·rw [if_neg c31] at H
               exact absurd H (by simp)
             ·rw [if_neg c30] at H
              exact absurd H (by simp)
            ·rw [if_neg c29] at H
             have c29b0 : ((wrap64 (x4_1 + 1)) == (l0.length : Int)) = false := beq_eq_false_iff_ne.mpr c29
             have c29b1 : ((wrap64 (x4_1 + 1)) != (l0.length : Int)) = true := bne_iff_ne.mpr c29
             (first | rw [c29b0] | (simp only [i64_w, i32_w]; rw [c29b0]) | skip)
             have H' := Aside0.mk H
             clear H
             go_wp2
             go_meet
             case rel => exact ⟨_, (false), (by first | rfl | (simp; done) | (simp [*]; done)), H', ⟨by have := HK1.out; have := HK2.out; first | omega | exact Nat.le_refl _⟩, ⟨by (with_reducible repeat (first | apply rA | apply rN | apply rD)); exact Kd.R_mono HO_3.out (fun _ hk => trivial)⟩, ⟨by exact bU HB.out⟩⟩
           case rest =>
            clear HC27
            (try clear c1); (try clear c2); (try clear p2); (try clear c3); (try clear p3); (try clear q3); (try clear hx3); (try clear c4); (try clear p4); (try clear q4); (try clear hx4); (try clear c6); (try clear p6); (try clear c7); (try clear c7b0); (try clear c8); (try clear c8b0); (try clear c9); (try clear c9b0); (try clear c10); (try clear c10b0); (try clear c15); (try clear c15b0); (try clear c16); (try clear c16b0); (try clear c17); (try clear c17b0); (try clear c18); (try clear c18b0); (try clear c20); (try clear c29); (try clear c29b0); (try clear c29b1); (try clear c30); (try clear c30b0); (try clear c31); (try clear c31b0); (try clear c32); (try clear c32b0); (try clear c32b1); (try clear hx396_0); (try clear hx397_0); (try clear hx397_1); (try clear hx397_2); (try clear hx397_3); (try clear hx397_4); (try clear hx397_5); (try clear hx401_0); (try clear hx402_0); (try clear hx404_0); (try clear hx404_1); (try clear hx404_2); (try clear hx404_3); (try clear hx404_4); (try clear hx404_5); (try clear hx405_0); (try clear hx405_1); (try clear hx405_2); (try clear hx405_3); (try clear hx405_4); (try clear hx405_5); (try clear p2); (try clear p3); (try clear p396); (try clear p397); (try clear p401); (try clear p402); (try clear p404); (try clear p405); (try clear p6); (try clear q3); (try clear q396); (try clear q397); (try clear q401); (try clear q402); (try clear q404); (try clear q405)
            obtain ⟨kq, x64_26, rfl, HA, HJ26, HO_3, HB⟩ := hcut
            cases kq with
            | zero => exact absurd HA.out (by simp [spec_CodeSafe.j2])
            | succ kj26 =>
             have H := HA.out
             clear HA
             simp only [spec_CodeSafe.j2] at H
             by_cases c33 : x64_26 = true
             ·subst c33
              have H1 : (some false) = some r := by rw [if_pos rfl] at H; exact H
              clear H
              have H := H1
              clear H1
              obtain rfl := Option.some.inj H
              go_wp2
              go_ret
              exact ⟨by first | rfl | (simp [errW_none, errW_some] <;> rfl) | (simp [*, errW_none, errW_some] <;> rfl), by exact bU HB.out⟩
             ·replace c33 := Bool.eq_false_iff.mpr c33
              subst c33
              have H1 : (spec_CodeSafe.l0 kj26 l0 t393 (wrap64 (x4_1 + 1))) = some r := by rw [if_neg (show ¬ (false = true) by decide)] at H; exact H
              clear H
              have H := H1
              clear H1
              have H' := Aside0.mk H
              clear H
              go_wp2
              go_roundg kj26
              case measure => have := HK1.out; have := HK2.out; have := HJ26.out; omega
              case rel => exact ⟨(wrap64 (x4_1 + 1)), (by first | rfl | (simp; done) | (simp [*]; done)), H', ⟨by have := HK1.out; have := HK2.out; have := HJ26.out; omega⟩, ⟨by exact rU HO_3.out⟩, ⟨by exact bU HB.out⟩⟩
      ·rw [if_neg c9] at H
       exact absurd H (by simp)
     ·rw [if_neg c8] at H
      exact absurd H (by simp)
    ·rw [if_neg c7] at H
     have c7b0 : decide (x4_1 < (l0.length : Int)) = false := decide_eq_false c7
     clear c7
     obtain rfl := Option.some.inj H
     go_wp2
     go_ret
     exact ⟨by first | rfl | (simp [errW_none, errW_some] <;> rfl) | (simp [*, errW_none, errW_some] <;> rfl), by exact bU HB.out⟩
 ·replace c3 := Bool.eq_false_iff.mpr c3
  subst c3
  have H1 : (some false) = some r := by rw [if_neg (show ¬ (false = true) by decide)] at H; exact H
  clear H
  have H := H1
  clear H1
  obtain rfl := Option.some.inj H
  go_enter Try.func45, Try.ntmps45
  go_wp2_with (first | ((with_reducible refine gate_callee (f := 33) rfl ?_); refine goesL_ (some 8) rfl rfl Try.func33 (by kernel_rfl) rfl #[.slice A0 l0.length c0] rfl (by (try simp only [List.map_toArray, List.map_cons, List.map_nil]) <;> rfl) ?_; (with_reducible refine (spec_CodeOk.calls k _ _ l0 false _ ?side1 ?side2 A2.out).mono ?_); (case side1 => repeat (first | exact HR0.out | (with_reducible refine Kd.C_alloc ?_ _) | (with_reducible refine Kd.C_drewN ?_ _) | (with_reducible refine Kd.C_drew ?_))); (case side2 => exact HC0.out); rintro e w34 ⟨rfl, hb⟩; refine ⟨_, rfl, ?_⟩; replace HB := Aside0.mk (below_step (by exact bU HB.out) hb); (try clear hb); (try clear hb2); (try clear hk); (try clear hi)))
  go_ret
  exact ⟨by first | rfl | (simp [errW_none, errW_some] <;> rfl) | (simp [*, errW_none, errW_some] <;> rfl), by exact bU HB.out⟩
end Go.Proofs.Ytmklpbmlgjkbiaa.PS
end
