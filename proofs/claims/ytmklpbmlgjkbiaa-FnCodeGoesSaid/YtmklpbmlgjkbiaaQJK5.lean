/- What the row of JK rests on, part 6. -/
import Derived.Test.YtmklpbmlgjkbiaaProg
import Derived.Below
import Derived.Deep.Draws
import Derived.Deep.AppendLies
import Derived.Maps.AppendAt
import Derived.OwnWalk
import Derived.Laws.BytesArg
import Derived.Laws.MakeOwn
import Derived.Laws.OwnMore
import Derived.Deep.OwnRows
import Derived.Tactics
import Derived.Lib.ConvBytes
import Derived.Laws.Slices
import Derived.WalkKit
import Derived.KernelRfl
import Derived.RowKit3
import Derived.Deep.LoopGhost
import Derived.Deep.QuietTactic
import Derived.BigQuiet
import Derived.WideLaws
import Derived.Deep.DeepCutAuto
import Derived.Deep.CutBlock
import Derived.Deep.RegionHeld3
import Derived.Laws.Rows
import Derived.Lib.AppendStr
import Derived.ArgAppend
import Derived.Laws.IdiomCopy
import Derived.OrdersHeld
import Derived.Laws.BitsLemmas
import Derived.RowKit
import Derived.Laws.StructEq
import Derived.Deep.RegionWith
import Derived.Lib.Bytealg
import Derived.Shelf.Strings.Search3
import Derived.WalkSpells
import Derived.Lib.OthersKept
import Derived.Lib.Hide
import Derived.WalkSmall
import Derived.Laws.EntriesVeiled
import Derived.RegionTactic
import GoSem.ClaimJoined
import Derived.JoinedOf
import Derived.SizedLaws
import Derived.ChangeSlices
import Derived.Test.YtmklpbmlgjkbiaaQJK4
set_option linter.unusedVariables false
set_option linter.unusedSimpArgs false
set_option maxHeartbeats 8000000
set_option maxRecDepth 100000
section
namespace Go.Proofs.Ytmklpbmlgjkbiaa.PS
open Go.RowKit Go.Proofs.YtmklpbmlgjkbiaaW.PrintWords Go.Proofs.YtmklpbmlgjkbiaaW.PrintLast Go.Proofs.YtmklpbmlgjkbiaaW.PrintMore
attribute [local go_sem] max2_int min2_int max_two min_two max_three min_three max_four min_four   -- for this text's walks alone
def spec_l6Rd_of.f (k : Nat) (s0_0 : List Int) (s0_1 : Int) (l1 : List ByteArray) : Option (ByteArray × Int) := (spec_l6Rd_pick.f k s0_0 s0_1 (l1.length : Int)).bind fun bt460 => (if 0 ≤ bt460.1 then (if bt460.1 < (l1.length : Int) then (some (rdOf ByteArray.empty l1 bt460.1, bt460.2)) else (none)) else (none))
theorem spec_l6Rd_of.calls (k : Nat) (g : Nat) (s0_0 : List Int) (s0_1 : Int) (A1 : Option Addr) (c1 : Nat) (l1 : List ByteArray) (r1 : ByteArray) (r2 : Int) (w0 w : World) (hI : IsS84 w0 w g s0_0 s0_1) (hB : Below w0.heap.size w0 w) (hr1 : Kd.C Kd.string w A1 l1.length l1) (hc1 : l1.length ≤ c1) (hf1 : ∀ ad, A1 = some ad → 0 < l1.length → ad.block ≠ g) (h : spec_l6Rd_of.f k s0_0 s0_1 l1 = some (r1, r2)) :
  Calls Try.prog 108 #[.pointer (some ⟨g, 0, none⟩), .slice A1 l1.length c1] w fun e w' => e = .returned (.string r1) ∧ IsS84 w0 w' g s0_0 r2 ∧ Below w0.heap.size w0 w' ∧ KeepBut w w' g none := by
 have HR1 := Aside0.mk hr1
 have HC1 := Aside0.mk hc1
 clear hr1 hc1
 have HI0 := Aside0.mk hI
 have HK := Aside0.mk (KeepBut.refl w g none)
 have HL := Aside0.mk hB.size
 clear hI
 have HW0 := Aside0.mk hB.size
 have HB := Aside0.mk hB
 clear hB
 have H : ((spec_l6Rd_pick.f k s0_0 s0_1 (l1.length : Int)).bind fun bt460 => (if 0 ≤ bt460.1 then (if bt460.1 < (l1.length : Int) then (some (rdOf ByteArray.empty l1 bt460.1, bt460.2)) else (none)) else (none))) = some (r1, r2) := h
 clear h
 replace H := Option.bind_eq_some_iff.mp H
 obtain ⟨⟨t460, t461⟩, A30, H⟩ := H
 replace H : (if 0 ≤ t460 then (if t460 < (l1.length : Int) then (some (rdOf ByteArray.empty l1 t460, t461)) else (none)) else (none)) = some (r1, r2) := H
 have A3 := Aside0.mk A30
 clear A30
 by_cases c4 : 0 ≤ t460
 ·rw [if_pos c4] at H
  have c4b0 : decide (0 ≤ t460) = true := decide_eq_true c4
  clear c4
  by_cases c5 : t460 < (l1.length : Int)
  ·rw [if_pos c5] at H
   have c5b0 : decide (t460 < (l1.length : Int)) = true := decide_eq_true c5
   clear c5
   simp only [Option.some.injEq, Prod.mk.injEq] at H
   obtain ⟨rfl, rfl⟩ := H
   go_enter Try.func108, Try.ntmps108
   go_wp2_with (first | ((with_reducible refine gate_callee (f := 71) rfl ?_); refine goesL_ (some 9) rfl rfl Try.func71 (by kernel_rfl) rfl #[.pointer (some ⟨g, 0, none⟩), .int .i64 (l1.length : Int)] rfl (by (try simp only [List.map_toArray, List.map_cons, List.map_nil]); first | done | rfl | (simp only [List.length_drop, List.length_take]; rfl)) ?_; (with_reducible refine (spec_l6Rd_pick.calls k g s0_0 s0_1 (l1.length : Int) t460 t461 w0 _ ?side1 ?side2 A3.out).mono ?_); (case side1 => repeat (with_reducible first | exact HI0.out | apply sA | apply sN | apply sD | apply sS)); (case side2 => repeat (with_reducible first | exact HB.out | apply bA | apply bN | apply b1 | refine below_set ?_ (IsS84.ge HI0.out))); rintro e w6 ⟨rfl, hi, hb, hk⟩; refine ⟨_, rfl, ?_⟩; replace HK := Aside0.mk (KeepBut.trans (by repeat (with_reducible first | exact HK.out | apply pS | apply pN | apply pD | apply pA)) hk (.inl rfl)); replace HB := Aside0.mk (hb); replace HI0 := Aside0.mk (hi); (try clear hb); (try clear hb2); (try clear hk); (try clear hi); have p462 : 0 ≤ (t460 : Int) := of_decide_eq_true (by assumption); have q462 : t460 < (l1.length : Int) := of_decide_eq_true (by assumption); obtain ⟨ad462, e462, hx462_0⟩ := Kd.at_string HR1.out t460 p462 q462; cases e462; replace hx462_0 := keep_cell HK.out hx462_0 (by first | (rw [add_block]; exact hf1 _ rfl (by omega)) | exact hf1 _ rfl (by omega) | exact hf1 ad462 rfl (by omega)); replace p462 := eq_true p462; replace q462 := eq_true q462))
   go_ret
   exact ⟨by first | rfl | (simp [errW_none, errW_some] <;> rfl) | (simp [*, errW_none, errW_some] <;> rfl), by repeat (with_reducible first | exact HI0.out | apply sA | apply sN | apply sD | apply sS), by repeat (with_reducible first | exact HB.out | apply bA | apply bN | apply b1 | refine below_set ?_ (IsS84.ge HI0.out)), by repeat (with_reducible first | exact HK.out | apply pS | apply pN | apply pD | apply pA)⟩
  ·rw [if_neg c5] at H
   exact absurd H (by simp)
 ·rw [if_neg c4] at H
  exact absurd H (by simp)
def spec_l71Texts.f  : Option (List ByteArray) := some (([(⟨#[98, 101, 103, 105, 110, 32, 49, 32, 54, 10, 108, 105, 110, 107, 32, 49, 10, 115, 101, 116, 32, 50, 32, 110, 51, 10, 115, 101, 110, 100, 32, 49, 32, 50, 10, 116, 97, 107, 101, 32, 51, 32, 49, 10, 101, 110, 100, 32, 51, 10, 116, 97, 107, 101, 32, 49, 32, 49, 10, 115, 101, 116, 32, 50, 32, 110, 49, 10, 97, 100, 100, 32, 49, 32, 50, 10, 115, 101, 110, 100, 32, 48, 32, 49, 10, 103, 111, 32, 54, 10]⟩ : ByteArray), (⟨#[116, 114, 97, 112, 32, 110, 49, 10, 98, 101, 103, 105, 110, 32, 49, 32, 55, 10, 98, 101, 103, 105, 110, 32, 50, 32, 55, 10, 108, 105, 110, 107, 32, 49, 10, 108, 105, 110, 107, 32, 50, 10, 116, 97, 107, 101, 32, 51, 32, 51, 10, 103, 111, 32, 53, 10, 115, 101, 108, 102, 32, 49, 10, 97, 102, 116, 101, 114, 32, 50, 32, 48, 32, 49, 48, 32, 110, 50, 10, 101, 110, 100, 32, 50, 10, 115, 101, 116, 32, 51, 32, 97, 52, 10, 101, 110, 100, 32, 51, 10]⟩ : ByteArray), (⟨#[98, 101, 103, 105, 110, 32, 49, 32, 53, 10, 119, 97, 116, 99, 104, 32, 49, 10, 116, 97, 107, 101, 32, 50, 32, 48, 10, 109, 111, 118, 101, 32, 51, 32, 50, 10, 103, 111, 32, 50, 10, 108, 105, 110, 107, 32, 48, 10, 116, 97, 107, 101, 32, 49, 32, 50, 10, 105, 102, 32, 49, 32, 57, 32, 97, 48, 10, 103, 111, 32, 54, 10, 101, 110, 100, 32, 49, 10]⟩ : ByteArray), (⟨#[115, 101, 116, 32, 49, 32, 110, 48, 10, 115, 101, 116, 32, 50, 32, 110, 49, 10, 98, 101, 103, 105, 110, 32, 51, 32, 54, 10, 97, 100, 100, 32, 49, 32, 50, 10, 115, 101, 110, 100, 32, 51, 32, 49, 10, 103, 111, 32, 51, 10, 116, 97, 107, 101, 32, 49, 32, 49, 10, 97, 102, 116, 101, 114, 32, 50, 32, 50, 32, 54, 32, 110, 49, 10, 101, 110, 100, 32, 50, 10]⟩ : ByteArray), (⟨#[98, 101, 103, 105, 110, 32, 49, 32, 51, 10, 108, 105, 110, 107, 32, 49, 10, 103, 111, 32, 48, 10, 98, 101, 103, 105, 110, 32, 50, 32, 54, 10, 108, 105, 110, 107, 32, 50, 10, 103, 111, 32, 55, 10, 108, 105, 110, 107, 32, 48, 10, 116, 97, 107, 101, 32, 51, 32, 48, 10, 101, 110, 100, 32, 51, 10]⟩ : ByteArray)] : List ByteArray))
theorem spec_l71Texts.calls  (r : List ByteArray) (w : World) (h : spec_l71Texts.f  = some r) :
  Calls Try.prog 109 #[] w fun e w' => ∃ v0_ : Value, e = .returned (v0_) ∧ Kd.R Kd.string 9 w' w.heap.size (fun _ => True) v0_ r ∧ Below w.heap.size w w' := by
 have HB := Aside0.mk (Below.refl w.heap.size w)
 have H : (some (([(⟨#[98, 101, 103, 105, 110, 32, 49, 32, 54, 10, 108, 105, 110, 107, 32, 49, 10, 115, 101, 116, 32, 50, 32, 110, 51, 10, 115, 101, 110, 100, 32, 49, 32, 50, 10, 116, 97, 107, 101, 32, 51, 32, 49, 10, 101, 110, 100, 32, 51, 10, 116, 97, 107, 101, 32, 49, 32, 49, 10, 115, 101, 116, 32, 50, 32, 110, 49, 10, 97, 100, 100, 32, 49, 32, 50, 10, 115, 101, 110, 100, 32, 48, 32, 49, 10, 103, 111, 32, 54, 10]⟩ : ByteArray), (⟨#[116, 114, 97, 112, 32, 110, 49, 10, 98, 101, 103, 105, 110, 32, 49, 32, 55, 10, 98, 101, 103, 105, 110, 32, 50, 32, 55, 10, 108, 105, 110, 107, 32, 49, 10, 108, 105, 110, 107, 32, 50, 10, 116, 97, 107, 101, 32, 51, 32, 51, 10, 103, 111, 32, 53, 10, 115, 101, 108, 102, 32, 49, 10, 97, 102, 116, 101, 114, 32, 50, 32, 48, 32, 49, 48, 32, 110, 50, 10, 101, 110, 100, 32, 50, 10, 115, 101, 116, 32, 51, 32, 97, 52, 10, 101, 110, 100, 32, 51, 10]⟩ : ByteArray), (⟨#[98, 101, 103, 105, 110, 32, 49, 32, 53, 10, 119, 97, 116, 99, 104, 32, 49, 10, 116, 97, 107, 101, 32, 50, 32, 48, 10, 109, 111, 118, 101, 32, 51, 32, 50, 10, 103, 111, 32, 50, 10, 108, 105, 110, 107, 32, 48, 10, 116, 97, 107, 101, 32, 49, 32, 50, 10, 105, 102, 32, 49, 32, 57, 32, 97, 48, 10, 103, 111, 32, 54, 10, 101, 110, 100, 32, 49, 10]⟩ : ByteArray), (⟨#[115, 101, 116, 32, 49, 32, 110, 48, 10, 115, 101, 116, 32, 50, 32, 110, 49, 10, 98, 101, 103, 105, 110, 32, 51, 32, 54, 10, 97, 100, 100, 32, 49, 32, 50, 10, 115, 101, 110, 100, 32, 51, 32, 49, 10, 103, 111, 32, 51, 10, 116, 97, 107, 101, 32, 49, 32, 49, 10, 97, 102, 116, 101, 114, 32, 50, 32, 50, 32, 54, 32, 110, 49, 10, 101, 110, 100, 32, 50, 10]⟩ : ByteArray), (⟨#[98, 101, 103, 105, 110, 32, 49, 32, 51, 10, 108, 105, 110, 107, 32, 49, 10, 103, 111, 32, 48, 10, 98, 101, 103, 105, 110, 32, 50, 32, 54, 10, 108, 105, 110, 107, 32, 50, 10, 103, 111, 32, 55, 10, 108, 105, 110, 107, 32, 48, 10, 116, 97, 107, 101, 32, 51, 32, 48, 10, 101, 110, 100, 32, 51, 10]⟩ : ByteArray)] : List ByteArray))) = some r := h
 clear h
 obtain ⟨y463, hy463⟩ : ∃ y_ : List ByteArray, y_ = (([(⟨#[98, 101, 103, 105, 110, 32, 49, 32, 54, 10, 108, 105, 110, 107, 32, 49, 10, 115, 101, 116, 32, 50, 32, 110, 51, 10, 115, 101, 110, 100, 32, 49, 32, 50, 10, 116, 97, 107, 101, 32, 51, 32, 49, 10, 101, 110, 100, 32, 51, 10, 116, 97, 107, 101, 32, 49, 32, 49, 10, 115, 101, 116, 32, 50, 32, 110, 49, 10, 97, 100, 100, 32, 49, 32, 50, 10, 115, 101, 110, 100, 32, 48, 32, 49, 10, 103, 111, 32, 54, 10]⟩ : ByteArray), (⟨#[116, 114, 97, 112, 32, 110, 49, 10, 98, 101, 103, 105, 110, 32, 49, 32, 55, 10, 98, 101, 103, 105, 110, 32, 50, 32, 55, 10, 108, 105, 110, 107, 32, 49, 10, 108, 105, 110, 107, 32, 50, 10, 116, 97, 107, 101, 32, 51, 32, 51, 10, 103, 111, 32, 53, 10, 115, 101, 108, 102, 32, 49, 10, 97, 102, 116, 101, 114, 32, 50, 32, 48, 32, 49, 48, 32, 110, 50, 10, 101, 110, 100, 32, 50, 10, 115, 101, 116, 32, 51, 32, 97, 52, 10, 101, 110, 100, 32, 51, 10]⟩ : ByteArray), (⟨#[98, 101, 103, 105, 110, 32, 49, 32, 53, 10, 119, 97, 116, 99, 104, 32, 49, 10, 116, 97, 107, 101, 32, 50, 32, 48, 10, 109, 111, 118, 101, 32, 51, 32, 50, 10, 103, 111, 32, 50, 10, 108, 105, 110, 107, 32, 48, 10, 116, 97, 107, 101, 32, 49, 32, 50, 10, 105, 102, 32, 49, 32, 57, 32, 97, 48, 10, 103, 111, 32, 54, 10, 101, 110, 100, 32, 49, 10]⟩ : ByteArray), (⟨#[115, 101, 116, 32, 49, 32, 110, 48, 10, 115, 101, 116, 32, 50, 32, 110, 49, 10, 98, 101, 103, 105, 110, 32, 51, 32, 54, 10, 97, 100, 100, 32, 49, 32, 50, 10, 115, 101, 110, 100, 32, 51, 32, 49, 10, 103, 111, 32, 51, 10, 116, 97, 107, 101, 32, 49, 32, 49, 10, 97, 102, 116, 101, 114, 32, 50, 32, 50, 32, 54, 32, 110, 49, 10, 101, 110, 100, 32, 50, 10]⟩ : ByteArray), (⟨#[98, 101, 103, 105, 110, 32, 49, 32, 51, 10, 108, 105, 110, 107, 32, 49, 10, 103, 111, 32, 48, 10, 98, 101, 103, 105, 110, 32, 50, 32, 54, 10, 108, 105, 110, 107, 32, 50, 10, 103, 111, 32, 55, 10, 108, 105, 110, 107, 32, 48, 10, 116, 97, 107, 101, 32, 51, 32, 48, 10, 101, 110, 100, 32, 51, 10]⟩ : ByteArray)] : List ByteArray)) := ⟨_, rfl⟩
 replace H : (some y463) = some r := by first | (rw [hy463]; with_reducible exact H) | (have H2_ := (Option.bind_some _ _).symm.trans H; rw [hy463]; with_reducible exact H2_) | (have H2_ := (Option.bind_some _ _).symm.trans H; with_reducible exact H2_) | with_reducible exact H | (rw [hy463]; exact H) | exact H
 have Ny463 := Aside0.mk hy463
 clear hy463
 obtain rfl := Option.some.inj H
 go_enter Try.func109, Try.ntmps109
 go_wp2_with (first | ((with_reducible refine gate_dst (N := 1) rfl ?_); refine Kd.R_lit Kd.string _ 9 ?hg (N := 1) ?hd (xs := ([(⟨#[98, 101, 103, 105, 110, 32, 49, 32, 54, 10, 108, 105, 110, 107, 32, 49, 10, 115, 101, 116, 32, 50, 32, 110, 51, 10, 115, 101, 110, 100, 32, 49, 32, 50, 10, 116, 97, 107, 101, 32, 51, 32, 49, 10, 101, 110, 100, 32, 51, 10, 116, 97, 107, 101, 32, 49, 32, 49, 10, 115, 101, 116, 32, 50, 32, 110, 49, 10, 97, 100, 100, 32, 49, 32, 50, 10, 115, 101, 110, 100, 32, 48, 32, 49, 10, 103, 111, 32, 54, 10]⟩ : ByteArray), (⟨#[116, 114, 97, 112, 32, 110, 49, 10, 98, 101, 103, 105, 110, 32, 49, 32, 55, 10, 98, 101, 103, 105, 110, 32, 50, 32, 55, 10, 108, 105, 110, 107, 32, 49, 10, 108, 105, 110, 107, 32, 50, 10, 116, 97, 107, 101, 32, 51, 32, 51, 10, 103, 111, 32, 53, 10, 115, 101, 108, 102, 32, 49, 10, 97, 102, 116, 101, 114, 32, 50, 32, 48, 32, 49, 48, 32, 110, 50, 10, 101, 110, 100, 32, 50, 10, 115, 101, 116, 32, 51, 32, 97, 52, 10, 101, 110, 100, 32, 51, 10]⟩ : ByteArray), (⟨#[98, 101, 103, 105, 110, 32, 49, 32, 53, 10, 119, 97, 116, 99, 104, 32, 49, 10, 116, 97, 107, 101, 32, 50, 32, 48, 10, 109, 111, 118, 101, 32, 51, 32, 50, 10, 103, 111, 32, 50, 10, 108, 105, 110, 107, 32, 48, 10, 116, 97, 107, 101, 32, 49, 32, 50, 10, 105, 102, 32, 49, 32, 57, 32, 97, 48, 10, 103, 111, 32, 54, 10, 101, 110, 100, 32, 49, 10]⟩ : ByteArray), (⟨#[115, 101, 116, 32, 49, 32, 110, 48, 10, 115, 101, 116, 32, 50, 32, 110, 49, 10, 98, 101, 103, 105, 110, 32, 51, 32, 54, 10, 97, 100, 100, 32, 49, 32, 50, 10, 115, 101, 110, 100, 32, 51, 32, 49, 10, 103, 111, 32, 51, 10, 116, 97, 107, 101, 32, 49, 32, 49, 10, 97, 102, 116, 101, 114, 32, 50, 32, 50, 32, 54, 32, 110, 49, 10, 101, 110, 100, 32, 50, 10]⟩ : ByteArray), (⟨#[98, 101, 103, 105, 110, 32, 49, 32, 51, 10, 108, 105, 110, 107, 32, 49, 10, 103, 111, 32, 48, 10, 98, 101, 103, 105, 110, 32, 50, 32, 54, 10, 108, 105, 110, 107, 32, 50, 10, 103, 111, 32, 55, 10, 108, 105, 110, 107, 32, 48, 10, 116, 97, 107, 101, 32, 51, 32, 48, 10, 101, 110, 100, 32, 51, 10]⟩ : ByteArray)] : List ByteArray)) (inner := [.string (⟨#[98, 101, 103, 105, 110, 32, 49, 32, 54, 10, 108, 105, 110, 107, 32, 49, 10, 115, 101, 116, 32, 50, 32, 110, 51, 10, 115, 101, 110, 100, 32, 49, 32, 50, 10, 116, 97, 107, 101, 32, 51, 32, 49, 10, 101, 110, 100, 32, 51, 10, 116, 97, 107, 101, 32, 49, 32, 49, 10, 115, 101, 116, 32, 50, 32, 110, 49, 10, 97, 100, 100, 32, 49, 32, 50, 10, 115, 101, 110, 100, 32, 48, 32, 49, 10, 103, 111, 32, 54, 10]⟩ : ByteArray), .string (⟨#[116, 114, 97, 112, 32, 110, 49, 10, 98, 101, 103, 105, 110, 32, 49, 32, 55, 10, 98, 101, 103, 105, 110, 32, 50, 32, 55, 10, 108, 105, 110, 107, 32, 49, 10, 108, 105, 110, 107, 32, 50, 10, 116, 97, 107, 101, 32, 51, 32, 51, 10, 103, 111, 32, 53, 10, 115, 101, 108, 102, 32, 49, 10, 97, 102, 116, 101, 114, 32, 50, 32, 48, 32, 49, 48, 32, 110, 50, 10, 101, 110, 100, 32, 50, 10, 115, 101, 116, 32, 51, 32, 97, 52, 10, 101, 110, 100, 32, 51, 10]⟩ : ByteArray), .string (⟨#[98, 101, 103, 105, 110, 32, 49, 32, 53, 10, 119, 97, 116, 99, 104, 32, 49, 10, 116, 97, 107, 101, 32, 50, 32, 48, 10, 109, 111, 118, 101, 32, 51, 32, 50, 10, 103, 111, 32, 50, 10, 108, 105, 110, 107, 32, 48, 10, 116, 97, 107, 101, 32, 49, 32, 50, 10, 105, 102, 32, 49, 32, 57, 32, 97, 48, 10, 103, 111, 32, 54, 10, 101, 110, 100, 32, 49, 10]⟩ : ByteArray), .string (⟨#[115, 101, 116, 32, 49, 32, 110, 48, 10, 115, 101, 116, 32, 50, 32, 110, 49, 10, 98, 101, 103, 105, 110, 32, 51, 32, 54, 10, 97, 100, 100, 32, 49, 32, 50, 10, 115, 101, 110, 100, 32, 51, 32, 49, 10, 103, 111, 32, 51, 10, 116, 97, 107, 101, 32, 49, 32, 49, 10, 97, 102, 116, 101, 114, 32, 50, 32, 50, 32, 54, 32, 110, 49, 10, 101, 110, 100, 32, 50, 10]⟩ : ByteArray), .string (⟨#[98, 101, 103, 105, 110, 32, 49, 32, 51, 10, 108, 105, 110, 107, 32, 49, 10, 103, 111, 32, 48, 10, 98, 101, 103, 105, 110, 32, 50, 32, 54, 10, 108, 105, 110, 107, 32, 50, 10, 103, 111, 32, 55, 10, 108, 105, 110, 107, 32, 48, 10, 116, 97, 107, 101, 32, 51, 32, 48, 10, 101, 110, 100, 32, 51, 10]⟩ : ByteArray)]) (ok := fun _ => True) (okp := fun _ => True) ?hr ?hp (fun _ hk => hk) trivial (Below.refl _ _) (Nat.le_refl _) (by simp) ?_; (case hd => rfl); (case hg => rfl); (case hr => first | (go_simp; done) | (go_simp; rfl)); (case hp => exact (Reps.one (show Kd.M Kd.string _ _ _ (⟨#[98, 101, 103, 105, 110, 32, 49, 32, 54, 10, 108, 105, 110, 107, 32, 49, 10, 115, 101, 116, 32, 50, 32, 110, 51, 10, 115, 101, 110, 100, 32, 49, 32, 50, 10, 116, 97, 107, 101, 32, 51, 32, 49, 10, 101, 110, 100, 32, 51, 10, 116, 97, 107, 101, 32, 49, 32, 49, 10, 115, 101, 116, 32, 50, 32, 110, 49, 10, 97, 100, 100, 32, 49, 32, 50, 10, 115, 101, 110, 100, 32, 48, 32, 49, 10, 103, 111, 32, 54, 10]⟩ : ByteArray) [.string (⟨#[98, 101, 103, 105, 110, 32, 49, 32, 54, 10, 108, 105, 110, 107, 32, 49, 10, 115, 101, 116, 32, 50, 32, 110, 51, 10, 115, 101, 110, 100, 32, 49, 32, 50, 10, 116, 97, 107, 101, 32, 51, 32, 49, 10, 101, 110, 100, 32, 51, 10, 116, 97, 107, 101, 32, 49, 32, 49, 10, 115, 101, 116, 32, 50, 32, 110, 49, 10, 97, 100, 100, 32, 49, 32, 50, 10, 115, 101, 110, 100, 32, 48, 32, 49, 10, 103, 111, 32, 54, 10]⟩ : ByteArray)] from rfl) (Reps.one (show Kd.M Kd.string _ _ _ (⟨#[116, 114, 97, 112, 32, 110, 49, 10, 98, 101, 103, 105, 110, 32, 49, 32, 55, 10, 98, 101, 103, 105, 110, 32, 50, 32, 55, 10, 108, 105, 110, 107, 32, 49, 10, 108, 105, 110, 107, 32, 50, 10, 116, 97, 107, 101, 32, 51, 32, 51, 10, 103, 111, 32, 53, 10, 115, 101, 108, 102, 32, 49, 10, 97, 102, 116, 101, 114, 32, 50, 32, 48, 32, 49, 48, 32, 110, 50, 10, 101, 110, 100, 32, 50, 10, 115, 101, 116, 32, 51, 32, 97, 52, 10, 101, 110, 100, 32, 51, 10]⟩ : ByteArray) [.string (⟨#[116, 114, 97, 112, 32, 110, 49, 10, 98, 101, 103, 105, 110, 32, 49, 32, 55, 10, 98, 101, 103, 105, 110, 32, 50, 32, 55, 10, 108, 105, 110, 107, 32, 49, 10, 108, 105, 110, 107, 32, 50, 10, 116, 97, 107, 101, 32, 51, 32, 51, 10, 103, 111, 32, 53, 10, 115, 101, 108, 102, 32, 49, 10, 97, 102, 116, 101, 114, 32, 50, 32, 48, 32, 49, 48, 32, 110, 50, 10, 101, 110, 100, 32, 50, 10, 115, 101, 116, 32, 51, 32, 97, 52, 10, 101, 110, 100, 32, 51, 10]⟩ : ByteArray)] from rfl) (Reps.one (show Kd.M Kd.string _ _ _ (⟨#[98, 101, 103, 105, 110, 32, 49, 32, 53, 10, 119, 97, 116, 99, 104, 32, 49, 10, 116, 97, 107, 101, 32, 50, 32, 48, 10, 109, 111, 118, 101, 32, 51, 32, 50, 10, 103, 111, 32, 50, 10, 108, 105, 110, 107, 32, 48, 10, 116, 97, 107, 101, 32, 49, 32, 50, 10, 105, 102, 32, 49, 32, 57, 32, 97, 48, 10, 103, 111, 32, 54, 10, 101, 110, 100, 32, 49, 10]⟩ : ByteArray) [.string (⟨#[98, 101, 103, 105, 110, 32, 49, 32, 53, 10, 119, 97, 116, 99, 104, 32, 49, 10, 116, 97, 107, 101, 32, 50, 32, 48, 10, 109, 111, 118, 101, 32, 51, 32, 50, 10, 103, 111, 32, 50, 10, 108, 105, 110, 107, 32, 48, 10, 116, 97, 107, 101, 32, 49, 32, 50, 10, 105, 102, 32, 49, 32, 57, 32, 97, 48, 10, 103, 111, 32, 54, 10, 101, 110, 100, 32, 49, 10]⟩ : ByteArray)] from rfl) (Reps.one (show Kd.M Kd.string _ _ _ (⟨#[115, 101, 116, 32, 49, 32, 110, 48, 10, 115, 101, 116, 32, 50, 32, 110, 49, 10, 98, 101, 103, 105, 110, 32, 51, 32, 54, 10, 97, 100, 100, 32, 49, 32, 50, 10, 115, 101, 110, 100, 32, 51, 32, 49, 10, 103, 111, 32, 51, 10, 116, 97, 107, 101, 32, 49, 32, 49, 10, 97, 102, 116, 101, 114, 32, 50, 32, 50, 32, 54, 32, 110, 49, 10, 101, 110, 100, 32, 50, 10]⟩ : ByteArray) [.string (⟨#[115, 101, 116, 32, 49, 32, 110, 48, 10, 115, 101, 116, 32, 50, 32, 110, 49, 10, 98, 101, 103, 105, 110, 32, 51, 32, 54, 10, 97, 100, 100, 32, 49, 32, 50, 10, 115, 101, 110, 100, 32, 51, 32, 49, 10, 103, 111, 32, 51, 10, 116, 97, 107, 101, 32, 49, 32, 49, 10, 97, 102, 116, 101, 114, 32, 50, 32, 50, 32, 54, 32, 110, 49, 10, 101, 110, 100, 32, 50, 10]⟩ : ByteArray)] from rfl) (Reps.one (show Kd.M Kd.string _ _ _ (⟨#[98, 101, 103, 105, 110, 32, 49, 32, 51, 10, 108, 105, 110, 107, 32, 49, 10, 103, 111, 32, 48, 10, 98, 101, 103, 105, 110, 32, 50, 32, 54, 10, 108, 105, 110, 107, 32, 50, 10, 103, 111, 32, 55, 10, 108, 105, 110, 107, 32, 48, 10, 116, 97, 107, 101, 32, 51, 32, 48, 10, 101, 110, 100, 32, 51, 10]⟩ : ByteArray) [.string (⟨#[98, 101, 103, 105, 110, 32, 49, 32, 51, 10, 108, 105, 110, 107, 32, 49, 10, 103, 111, 32, 48, 10, 98, 101, 103, 105, 110, 32, 50, 32, 54, 10, 108, 105, 110, 107, 32, 50, 10, 103, 111, 32, 55, 10, 108, 105, 110, 107, 32, 48, 10, 116, 97, 107, 101, 32, 51, 32, 48, 10, 101, 110, 100, 32, 51, 10]⟩ : ByteArray)] from rfl) (Reps.none _ _))))))); intro v464 w1 ho2 hb hg_ hnew_; clear hg_ hnew_; (first | rw [← Ny463.out] at ho2 | (simp only [Int.reduceToNat] at ho2; rw [← Ny463.out] at ho2)); have HO465 := Aside0.mk (Kd.R_lower ho2 (below_size (by exact bU HB.out))); replace HB := Aside0.mk (below_step (by exact bU HB.out) hb); clear hb ho2))
 go_ret
 exact ⟨_, by first | rfl | (simp [errW_none, errW_some] <;> rfl) | (simp [*, errW_none, errW_some] <;> rfl), by exact rU HO465.out, by exact bU HB.out⟩
mutual
def spec_l71Safe.l0 : Nat → Int → List Int → Int → Option ((List (S29)) × Int)
 | 0, _, _, _ => none
 | k + 1, x3, x1000, x1001 => if x3 < 3 then ((spec_l71Random.f k x1000 x1001).bind fun bt466 => ((spec_CodeSafe.f k bt466.1).bind fun t470 => (if t470 = true then (some (bt466.1, bt466.2)) else (spec_l71Safe.l0 k (wrap64 (x3 + 1)) x1000 bt466.2)))) else ((spec_l71Texts.f).bind fun t471 => ((spec_l6Rd_of.f k x1000 x1001 t471).bind fun bt474 => ((spec_CodeRead.f k bt474.1).bind fun bt476 => (spec_l71Safe.l1 k bt476.1 0 x1000 bt474.2))))
def spec_l71Safe.l1 : Nat → List (S29) → Int → List Int → Int → Option ((List (S29)) × Int)
 | 0, _, _, _, _ => none
 | k + 1, x5, x7, x1000, x1001 => if x7 < 4 then ((some (([] : List (S29)) : List (S29))).bind fun y480 => (if y480.length + x5.length < 2932031007402 then ((some (y480 ++ x5 : List (S29))).bind fun y483 => ((spec_l6Rd_pick.f k x1000 x1001 (y483.length : Int)).bind fun bt486 => ((spec_l71Op.f k x1000 bt486.2 (y483.length : Int)).bind fun bt488 => (if 0 ≤ bt486.1 then (if bt486.1 < (y483.length : Int) then ((some (y483.set (bt486.1 : Int).toNat (⟨bt488.1, bt488.2.1, bt488.2.2.1, bt488.2.2.2.1, (⟨bt488.2.2.2.2.1, bt488.2.2.2.2.2.1⟩ : S27)⟩ : S29) : List (S29))).bind fun y495 => ((spec_CodeSafe.f k y495).bind fun t496 => (if t496 = true then ((spec_l6Rd_pick.f k x1000 bt488.2.2.2.2.2.2 2).bind fun bt497 => (spec_l71Safe.j2 k x5 x7 y495 (bt497.1 == 0) x1000 bt497.2)) else (spec_l71Safe.j2 k x5 x7 y495 false x1000 bt488.2.2.2.2.2.2)))) else (none)) else (none))))) else (none))) else (some (x5, x1001))
def spec_l71Safe.j2 : Nat → List (S29) → Int → List (S29) → Bool → List Int → Int → Option ((List (S29)) × Int)
 | 0, _, _, _, _, _, _ => none
 | k + 1, x5, x7, x8, x48, x1000, x1001 => if x48 = true then (spec_l71Safe.l1 k x8 (wrap64 (x7 + 1)) x1000 x1001) else (spec_l71Safe.l1 k x5 (wrap64 (x7 + 1)) x1000 x1001)
end
def spec_l71Safe.f (k : Nat) (s0_0 : List Int) (s0_1 : Int) : Option ((List (S29)) × Int) := spec_l71Safe.l0 k 0 s0_0 s0_1
theorem spec_l71Safe.calls (k : Nat) (g : Nat) (s0_0 : List Int) (s0_1 : Int) (r1 : List (S29)) (r2 : Int) (w0 w : World) (hI : IsS84 w0 w g s0_0 s0_1) (hB : Below w0.heap.size w0 w) (h : spec_l71Safe.f k s0_0 s0_1 = some (r1, r2)) :
  Calls Try.prog 101 #[.pointer (some ⟨g, 0, none⟩)] w fun e w' => ∃ v0_ : Value, e = .returned (v0_) ∧ Kd.R k29 29 w' w.heap.size (fun _ => True) v0_ r1 ∧ IsS84 w0 w' g s0_0 r2 ∧ Below w0.heap.size w0 w' ∧ KeepBut w w' g none := by
 have hu29 := Try.underlying29
 have HI0 := Aside0.mk hI
 have HK := Aside0.mk (KeepBut.refl w g none)
 have HL := Aside0.mk hB.size
 clear hI
 have HW0 := Aside0.mk hB.size
 have HB := Aside0.mk hB
 clear hB
 have H : (spec_l71Safe.l0 k 0 s0_0 s0_1) = some (r1, r2) := h
 clear h
 have H' := Aside0.mk H
 clear H
 go_enter Try.func101, Try.ntmps101
 go_wp2
 go_loopg [3] k (fun kq v3 w' => ∃ (x3_1 : Int) (x1001_1 : Int), v3 = .int .i64 x3_1 ∧ Aside0 (spec_l71Safe.l0 kq x3_1 s0_0 x1001_1 = some (r1, r2)) ∧ Aside0 (kq ≤ k) ∧ Aside0 (IsS84 w0 w' g s0_0 x1001_1) ∧ Aside0 (KeepBut w w' g none) ∧ Aside0 (Below w0.heap.size w0 w'))
 case atStart => exact ⟨(0), (s0_1), (by first | rfl | (simp; done) | (simp [*]; done)), H', ⟨Nat.le_refl _⟩, ⟨by repeat (with_reducible first | exact HI0.out | apply sA | apply sN | apply sD | apply sS)⟩, ⟨by repeat (with_reducible first | exact HK.out | apply pS | apply pN | apply pD | apply pA)⟩, ⟨by repeat (with_reducible first | exact HB.out | apply bA | apply bN | apply b1 | refine below_set ?_ (IsS84.ge HI0.out))⟩⟩
 case round =>
  clear H'
  try clear c1
  obtain ⟨x3_1, x1001_1, rfl, HA, HK1, HI0, HK, HB⟩ := hrel
  cases gk with
  | zero => exact absurd HA.out (by simp [spec_l71Safe.l0])
  | succ k1 =>
   have H := HA.out
   clear HA
   simp only [spec_l71Safe.l0] at H
   by_cases c2 : x3_1 < 3
   ·rw [if_pos c2] at H
    have c2b0 : decide (x3_1 < 3) = true := decide_eq_true c2
    clear c2
    replace H := Option.bind_eq_some_iff.mp H
    obtain ⟨⟨t466, t469⟩, A30, H⟩ := H
    replace H : ((spec_CodeSafe.f k1 t466).bind fun t470 => (if t470 = true then (some (t466, t469)) else (spec_l71Safe.l0 k1 (wrap64 (x3_1 + 1)) s0_0 t469))) = some (r1, r2) := H
    have A3 := Aside0.mk A30
    clear A30
    replace H := Option.bind_eq_some_iff.mp H
    obtain ⟨t470, A40, H⟩ := H
    replace H : (if t470 = true then (some (t466, t469)) else (spec_l71Safe.l0 k1 (wrap64 (x3_1 + 1)) s0_0 t469)) = some (r1, r2) := H
    have A4 := Aside0.mk A40
    clear A40
    by_cases c5 : t470 = true
    ·subst c5
     have H1 : (some (t466, t469)) = some (r1, r2) := by rw [if_pos rfl] at H; exact H
     clear H
     have H := H1
     clear H1
     simp only [Option.some.injEq, Prod.mk.injEq] at H
     obtain ⟨rfl, rfl⟩ := H
     go_wp2_with (first | ((with_reducible refine gate_callee (f := 86) rfl ?_); refine goesL_ (some 14) rfl rfl Try.func86 (by kernel_rfl) rfl #[.pointer (some ⟨g, 0, none⟩)] rfl (by (try simp only [List.map_toArray, List.map_cons, List.map_nil]); first | done | rfl | (simp only [List.length_drop, List.length_take]; rfl)) ?_; (with_reducible refine (spec_l71Random.calls k1 g s0_0 x1001_1 t466 t469 w0 _ ?side1 ?side2 A3.out).mono ?_); (case side1 => repeat (with_reducible first | exact HI0.out | apply sA | apply sN | apply sD | apply sS)); (case side2 => repeat (with_reducible first | exact HB.out | apply bA | apply bN | apply b1 | refine below_set ?_ (IsS84.ge HI0.out))); rintro e w6 ⟨v467, rfl, ho0, hi, hb, hk⟩; refine ⟨_, rfl, ?_⟩; have HO468 := Aside0.mk (Kd.R_lower ho0 (keep_size (w := w) (g := g) (row := none) (by repeat (with_reducible first | exact HK.out | apply pS | apply pN | apply pD | apply pA)))); replace HK := Aside0.mk (KeepBut.trans (by repeat (with_reducible first | exact HK.out | apply pS | apply pN | apply pD | apply pA)) hk (.inl rfl)); replace HB := Aside0.mk (hb); replace HI0 := Aside0.mk (hi); (try clear hb); (try clear hb2); (try clear hk); (try clear hi); (try clear ho0); obtain ⟨Ao7, co7, eo7⟩ := Kd.R_slice HO468.out; subst eo7) | ((with_reducible refine gate_callee (f := 45) rfl ?_); refine goesL_ (some 16) rfl rfl Try.func45 (by kernel_rfl) rfl #[.slice Ao7 t466.length co7] rfl (by (try simp only [List.map_toArray, List.map_cons, List.map_nil]); first | done | rfl | (simp only [List.length_drop, List.length_take]; rfl)) ?_; (with_reducible refine (spec_CodeSafe.calls k1 _ _ t466 true _ ?side1 ?side2 A4.out).mono ?_); (case side1 => repeat (first | exact (Kd.R_reads' HO468.out).2.2 | (with_reducible refine Kd.C_alloc ?_ _) | (with_reducible refine Kd.C_drewN ?_ _) | (with_reducible refine Kd.C_drew ?_))); (case side2 => exact (Kd.R_reads' HO468.out).2.1); rintro e w8 ⟨rfl, hb⟩; refine ⟨_, rfl, ?_⟩; have n0_ := Aside0.mk (Kd.R_below (by exact rU HO468.out) hb); have n1_ := Aside0.mk (IsS84.below (by repeat (with_reducible first | exact HI0.out | apply sA | apply sN | apply sD | apply sS)) hb); have n2_ := Aside0.mk (KeepBut.trans (by repeat (with_reducible first | exact HK.out | apply pS | apply pN | apply pD | apply pA)) (KeepBut.of_below hb g none) (.inl rfl)); have n3_ := Aside0.mk (below_step (by repeat (with_reducible first | exact HB.out | apply bA | apply bN | apply b1 | refine below_set ?_ (IsS84.ge HI0.out))) hb); clear HO468; clear HI0; clear HK; clear HB; have HO468 := n0_; have HI0 := n1_; have HK := n2_; have HB := n3_; clear n0_ n1_ n2_ n3_; (try clear hb); (try clear hb2); (try clear hk); (try clear hi)))
     go_ret
     exact ⟨_, by first | rfl | (simp [errW_none, errW_some] <;> rfl) | (simp [*, errW_none, errW_some] <;> rfl), by exact rU HO468.out, by repeat (with_reducible first | exact HI0.out | apply sA | apply sN | apply sD | apply sS), by repeat (with_reducible first | exact HB.out | apply bA | apply bN | apply b1 | refine below_set ?_ (IsS84.ge HI0.out)), by repeat (with_reducible first | exact HK.out | apply pS | apply pN | apply pD | apply pA)⟩
    ·replace c5 := Bool.eq_false_iff.mpr c5
     subst c5
     have H1 : (spec_l71Safe.l0 k1 (wrap64 (x3_1 + 1)) s0_0 t469) = some (r1, r2) := by rw [if_neg (show ¬ (false = true) by decide)] at H; exact H
     clear H
     have H := H1
     clear H1
     have H' := Aside0.mk H
     clear H
     go_wp2_with (first | ((with_reducible refine gate_callee (f := 86) rfl ?_); refine goesL_ (some 14) rfl rfl Try.func86 (by kernel_rfl) rfl #[.pointer (some ⟨g, 0, none⟩)] rfl (by (try simp only [List.map_toArray, List.map_cons, List.map_nil]); first | done | rfl | (simp only [List.length_drop, List.length_take]; rfl)) ?_; (with_reducible refine (spec_l71Random.calls k1 g s0_0 x1001_1 t466 t469 w0 _ ?side1 ?side2 A3.out).mono ?_); (case side1 => repeat (with_reducible first | exact HI0.out | apply sA | apply sN | apply sD | apply sS)); (case side2 => repeat (with_reducible first | exact HB.out | apply bA | apply bN | apply b1 | refine below_set ?_ (IsS84.ge HI0.out))); rintro e w9 ⟨v467, rfl, ho0, hi, hb, hk⟩; refine ⟨_, rfl, ?_⟩; have HO468 := Aside0.mk (Kd.R_lower ho0 (keep_size (w := w) (g := g) (row := none) (by repeat (with_reducible first | exact HK.out | apply pS | apply pN | apply pD | apply pA)))); replace HK := Aside0.mk (KeepBut.trans (by repeat (with_reducible first | exact HK.out | apply pS | apply pN | apply pD | apply pA)) hk (.inl rfl)); replace HB := Aside0.mk (hb); replace HI0 := Aside0.mk (hi); (try clear hb); (try clear hb2); (try clear hk); (try clear hi); (try clear ho0); obtain ⟨Ao10, co10, eo10⟩ := Kd.R_slice HO468.out; subst eo10) | ((with_reducible refine gate_callee (f := 45) rfl ?_); refine goesL_ (some 16) rfl rfl Try.func45 (by kernel_rfl) rfl #[.slice Ao10 t466.length co10] rfl (by (try simp only [List.map_toArray, List.map_cons, List.map_nil]); first | done | rfl | (simp only [List.length_drop, List.length_take]; rfl)) ?_; (with_reducible refine (spec_CodeSafe.calls k1 _ _ t466 false _ ?side1 ?side2 A4.out).mono ?_); (case side1 => repeat (first | exact (Kd.R_reads' HO468.out).2.2 | (with_reducible refine Kd.C_alloc ?_ _) | (with_reducible refine Kd.C_drewN ?_ _) | (with_reducible refine Kd.C_drew ?_))); (case side2 => exact (Kd.R_reads' HO468.out).2.1); rintro e w11 ⟨rfl, hb⟩; refine ⟨_, rfl, ?_⟩; have n0_ := Aside0.mk (Kd.R_below (by exact rU HO468.out) hb); have n1_ := Aside0.mk (IsS84.below (by repeat (with_reducible first | exact HI0.out | apply sA | apply sN | apply sD | apply sS)) hb); have n2_ := Aside0.mk (KeepBut.trans (by repeat (with_reducible first | exact HK.out | apply pS | apply pN | apply pD | apply pA)) (KeepBut.of_below hb g none) (.inl rfl)); have n3_ := Aside0.mk (below_step (by repeat (with_reducible first | exact HB.out | apply bA | apply bN | apply b1 | refine below_set ?_ (IsS84.ge HI0.out))) hb); clear HO468; clear HI0; clear HK; clear HB; have HO468 := n0_; have HI0 := n1_; have HK := n2_; have HB := n3_; clear n0_ n1_ n2_ n3_; (try clear hb); (try clear hb2); (try clear hk); (try clear hi)))
     go_roundg k1
     case measure => have := HK1.out; omega
     case rel => exact ⟨(wrap64 (x3_1 + 1)), (t469), (by first | rfl | (simp; done) | (simp [*]; done)), H', ⟨by have := HK1.out; omega⟩, ⟨by repeat (with_reducible first | exact HI0.out | apply sA | apply sN | apply sD | apply sS)⟩, ⟨by repeat (with_reducible first | exact HK.out | apply pS | apply pN | apply pD | apply pA)⟩, ⟨by repeat (with_reducible first | exact HB.out | apply bA | apply bN | apply b1 | refine below_set ?_ (IsS84.ge HI0.out))⟩⟩
   ·rw [if_neg c2] at H
    have c2b0 : decide (x3_1 < 3) = false := decide_eq_false c2
    clear c2
    replace H := Option.bind_eq_some_iff.mp H
    obtain ⟨t471, A120, H⟩ := H
    replace H : ((spec_l6Rd_of.f k1 s0_0 x1001_1 t471).bind fun bt474 => ((spec_CodeRead.f k1 bt474.1).bind fun bt476 => (spec_l71Safe.l1 k1 bt476.1 0 s0_0 bt474.2))) = some (r1, r2) := H
    have A12 := Aside0.mk A120
    clear A120
    replace H := Option.bind_eq_some_iff.mp H
    obtain ⟨⟨t474, t475⟩, A130, H⟩ := H
    replace H : ((spec_CodeRead.f k1 t474).bind fun bt476 => (spec_l71Safe.l1 k1 bt476.1 0 s0_0 t475)) = some (r1, r2) := H
    have A13 := Aside0.mk A130
    clear A130
    replace H := Option.bind_eq_some_iff.mp H
    obtain ⟨⟨t476, t477⟩, A140, H⟩ := H
    replace H : (spec_l71Safe.l1 k1 t476 0 s0_0 t475) = some (r1, r2) := H
    have A14 := Aside0.mk A140
    clear A140
    have H' := Aside0.mk H
    clear H
    go_wp2_with (first | ((with_reducible refine gate_callee (f := 109) rfl ?_); refine goesL_ (some 20) rfl rfl Try.func109 (by kernel_rfl) rfl #[] rfl (by (try simp only [List.map_toArray, List.map_cons, List.map_nil]); first | done | rfl | (simp only [List.length_drop, List.length_take]; rfl)) ?_; (with_reducible refine (spec_l71Texts.calls  t471 _ A12.out).mono ?_); rintro e w15 ⟨v472, rfl, ho0, hb⟩; refine ⟨_, rfl, ?_⟩; have n0_ := Aside0.mk (Kd.R_lower ho0 (keep_size (w := w) (g := g) (row := none) (by repeat (with_reducible first | exact HK.out | apply pS | apply pN | apply pD | apply pA)))); have n1_ := Aside0.mk (IsS84.below (by repeat (with_reducible first | exact HI0.out | apply sA | apply sN | apply sD | apply sS)) hb); have n2_ := Aside0.mk (KeepBut.trans (by repeat (with_reducible first | exact HK.out | apply pS | apply pN | apply pD | apply pA)) (KeepBut.of_below hb g none) (.inl rfl)); have n3_ := Aside0.mk (below_step (by repeat (with_reducible first | exact HB.out | apply bA | apply bN | apply b1 | refine below_set ?_ (IsS84.ge HI0.out))) hb); clear HI0; clear HK; clear HB; have HO473 := n0_; have HI0 := n1_; have HK := n2_; have HB := n3_; clear n0_ n1_ n2_ n3_; (try clear hb); (try clear hb2); (try clear hk); (try clear hi); (try clear ho0); obtain ⟨Ao16, co16, eo16⟩ := Kd.R_slice HO473.out; subst eo16) | ((with_reducible refine gate_callee (f := 108) rfl ?_); refine goesL_ (some 21) rfl rfl Try.func108 (by kernel_rfl) rfl #[.pointer (some ⟨g, 0, none⟩), .slice Ao16 t471.length co16] rfl (by (try simp only [List.map_toArray, List.map_cons, List.map_nil]); first | done | rfl | (simp only [List.length_drop, List.length_take]; rfl)) ?_; (with_reducible refine (spec_l6Rd_of.calls k1 g s0_0 x1001_1 _ _ t471 t474 t475 w0 _ ?side1 ?side2 ?side3 ?side4 ?side5 A13.out).mono ?_); (case side1 => repeat (with_reducible first | exact HI0.out | apply sA | apply sN | apply sD | apply sS)); (case side2 => repeat (with_reducible first | exact HB.out | apply bA | apply bN | apply b1 | refine below_set ?_ (IsS84.ge HI0.out))); (case side3 => repeat (first | exact (Kd.R_reads' HO473.out).2.2 | (with_reducible refine Kd.C_alloc ?_ _) | (with_reducible refine Kd.C_drewN ?_ _) | (with_reducible refine Kd.C_drew ?_))); (case side4 => exact (Kd.R_reads' HO473.out).2.1); (case side5 => exact far_slice (IsS84.own_ne HI0.out HO473.out (by decide))); rintro e w17 ⟨rfl, hi, hb, hk⟩; refine ⟨_, rfl, ?_⟩; replace HO473 := Aside0.mk (Kd.R_mono (Kd.R_keep (IsS84.apart (show IsS84 w0 _ g s0_0 x1001_1 from by repeat (with_reducible first | exact HI0.out | apply sA | apply sN | apply sD | apply sS)) (by exact rU HO473.out) (by decide)) hk (fun _ h => h.2)) (fun _ h => h.1)); replace HK := Aside0.mk (KeepBut.trans (by repeat (with_reducible first | exact HK.out | apply pS | apply pN | apply pD | apply pA)) hk (.inl rfl)); replace HB := Aside0.mk (hb); replace HI0 := Aside0.mk (hi); (try clear hb); (try clear hb2); (try clear hk); (try clear hi)) | ((with_reducible refine gate_callee (f := 107) rfl ?_); refine goesL_ (some 22) rfl rfl Try.func107 (by kernel_rfl) rfl #[.string t474] rfl (by (try simp only [List.map_toArray, List.map_cons, List.map_nil]); first | done | rfl | (simp only [List.length_drop, List.length_take]; rfl)) ?_; (with_reducible refine (spec_CodeRead.calls k1 t474 t476 t477 _ A14.out).mono ?_); rintro e w18 ⟨v478, rfl, ho0, hb⟩; refine ⟨_, rfl, ?_⟩; have n0_ := Aside0.mk (Kd.R_below (by exact rU HO473.out) hb); have n1_ := Aside0.mk (Kd.R_lower ho0 (keep_size (w := w) (g := g) (row := none) (by repeat (with_reducible first | exact HK.out | apply pS | apply pN | apply pD | apply pA)))); have n2_ := Aside0.mk (IsS84.below (by repeat (with_reducible first | exact HI0.out | apply sA | apply sN | apply sD | apply sS)) hb); have n3_ := Aside0.mk (KeepBut.trans (by repeat (with_reducible first | exact HK.out | apply pS | apply pN | apply pD | apply pA)) (KeepBut.of_below hb g none) (.inl rfl)); have n4_ := Aside0.mk (below_step (by repeat (with_reducible first | exact HB.out | apply bA | apply bN | apply b1 | refine below_set ?_ (IsS84.ge HI0.out))) hb); clear HO473; clear HI0; clear HK; clear HB; have HO473 := n0_; have HO479 := n1_; have HI0 := n2_; have HK := n3_; have HB := n4_; clear n0_ n1_ n2_ n3_ n4_; (try clear hb); (try clear hb2); (try clear hk); (try clear hi); (try clear ho0)))
    go_loopg [5, 7] k1 (fun kq v5 v7 w' => ∃ (x5_2 : List (S29)) (x7_2 : Int) (x1001_2 : Int), v7 = .int .i64 x7_2 ∧ Aside0 (spec_l71Safe.l1 kq x5_2 x7_2 s0_0 x1001_2 = some (r1, r2)) ∧ Aside0 (kq ≤ k1) ∧ Aside0 (Kd.R k29 29 w' w.heap.size (fun _ => True) v5 x5_2) ∧ Aside0 (IsS84 w0 w' g s0_0 x1001_2) ∧ Aside0 (KeepBut w w' g none) ∧ Aside0 (Below w0.heap.size w0 w'))
    case atStart => exact ⟨(t476), (0), (t475), (by first | rfl | (simp; done) | (simp [*]; done)), H', ⟨Nat.le_refl _⟩, ⟨by exact rU HO479.out⟩, ⟨by repeat (with_reducible first | exact HI0.out | apply sA | apply sN | apply sD | apply sS)⟩, ⟨by repeat (with_reducible first | exact HK.out | apply pS | apply pN | apply pD | apply pA)⟩, ⟨by repeat (with_reducible first | exact HB.out | apply bA | apply bN | apply b1 | refine below_set ?_ (IsS84.ge HI0.out))⟩⟩
    case round =>
     clear H'
     (try clear c1); (try clear c2); (try clear c2b0); (try clear p2); (try clear c4); (try clear c5); (try clear p6); (try clear c8); (try clear c10)
     obtain ⟨x5_2, x7_2, x1001_2, rfl, HA, HK2, HO_5, HI0, HK, HB⟩ := hrel
     cases gk with
     | zero => exact absurd HA.out (by simp [spec_l71Safe.l1])
     | succ k2 =>
      have H := HA.out
      clear HA
      simp only [spec_l71Safe.l1] at H
      by_cases c19 : x7_2 < 4
      ·rw [if_pos c19] at H
       have c19b0 : decide (x7_2 < 4) = true := decide_eq_true c19
       clear c19
       obtain ⟨y480, hy480⟩ : ∃ y_ : List (S29), y_ = (([] : List (S29))) := ⟨_, rfl⟩
       replace H : (if y480.length + x5_2.length < 2932031007402 then ((some (y480 ++ x5_2 : List (S29))).bind fun y483 => ((spec_l6Rd_pick.f k2 s0_0 x1001_2 (y483.length : Int)).bind fun bt486 => ((spec_l71Op.f k2 s0_0 bt486.2 (y483.length : Int)).bind fun bt488 => (if 0 ≤ bt486.1 then (if bt486.1 < (y483.length : Int) then ((some (y483.set (bt486.1 : Int).toNat (⟨bt488.1, bt488.2.1, bt488.2.2.1, bt488.2.2.2.1, (⟨bt488.2.2.2.2.1, bt488.2.2.2.2.2.1⟩ : S27)⟩ : S29) : List (S29))).bind fun y495 => ((spec_CodeSafe.f k2 y495).bind fun t496 => (if t496 = true then ((spec_l6Rd_pick.f k2 s0_0 bt488.2.2.2.2.2.2 2).bind fun bt497 => (spec_l71Safe.j2 k2 x5_2 x7_2 y495 (bt497.1 == 0) s0_0 bt497.2)) else (spec_l71Safe.j2 k2 x5_2 x7_2 y495 false s0_0 bt488.2.2.2.2.2.2)))) else (none)) else (none))))) else (none)) = some (r1, r2) := by first | (rw [hy480]; with_reducible exact H) | (have H2_ := (Option.bind_some _ _).symm.trans H; rw [hy480]; with_reducible exact H2_) | (have H2_ := (Option.bind_some _ _).symm.trans H; with_reducible exact H2_) | with_reducible exact H | (rw [hy480]; exact H) | exact H
       have Ny480 := Aside0.mk hy480
       clear hy480
       by_cases c20 : y480.length + x5_2.length < 2932031007402
       ·rw [if_pos c20] at H
        have LMc20 := Aside0.mk c20
        clear c20
        obtain ⟨y483, hy483⟩ : ∃ y_ : List (S29), y_ = (y480 ++ x5_2) := ⟨_, rfl⟩
        replace H : ((spec_l6Rd_pick.f k2 s0_0 x1001_2 (y483.length : Int)).bind fun bt486 => ((spec_l71Op.f k2 s0_0 bt486.2 (y483.length : Int)).bind fun bt488 => (if 0 ≤ bt486.1 then (if bt486.1 < (y483.length : Int) then ((some (y483.set (bt486.1 : Int).toNat (⟨bt488.1, bt488.2.1, bt488.2.2.1, bt488.2.2.2.1, (⟨bt488.2.2.2.2.1, bt488.2.2.2.2.2.1⟩ : S27)⟩ : S29) : List (S29))).bind fun y495 => ((spec_CodeSafe.f k2 y495).bind fun t496 => (if t496 = true then ((spec_l6Rd_pick.f k2 s0_0 bt488.2.2.2.2.2.2 2).bind fun bt497 => (spec_l71Safe.j2 k2 x5_2 x7_2 y495 (bt497.1 == 0) s0_0 bt497.2)) else (spec_l71Safe.j2 k2 x5_2 x7_2 y495 false s0_0 bt488.2.2.2.2.2.2)))) else (none)) else (none)))) = some (r1, r2) := by first | (rw [hy483]; with_reducible exact H) | (have H2_ := (Option.bind_some _ _).symm.trans H; rw [hy483]; with_reducible exact H2_) | (have H2_ := (Option.bind_some _ _).symm.trans H; with_reducible exact H2_) | with_reducible exact H | (rw [hy483]; exact H) | exact H
        have Ny483 := Aside0.mk hy483
        clear hy483
        replace H := Option.bind_eq_some_iff.mp H
        obtain ⟨⟨t486, t487⟩, A210, H⟩ := H
        replace H : ((spec_l71Op.f k2 s0_0 t487 (y483.length : Int)).bind fun bt488 => (if 0 ≤ t486 then (if t486 < (y483.length : Int) then ((some (y483.set (t486 : Int).toNat (⟨bt488.1, bt488.2.1, bt488.2.2.1, bt488.2.2.2.1, (⟨bt488.2.2.2.2.1, bt488.2.2.2.2.2.1⟩ : S27)⟩ : S29) : List (S29))).bind fun y495 => ((spec_CodeSafe.f k2 y495).bind fun t496 => (if t496 = true then ((spec_l6Rd_pick.f k2 s0_0 bt488.2.2.2.2.2.2 2).bind fun bt497 => (spec_l71Safe.j2 k2 x5_2 x7_2 y495 (bt497.1 == 0) s0_0 bt497.2)) else (spec_l71Safe.j2 k2 x5_2 x7_2 y495 false s0_0 bt488.2.2.2.2.2.2)))) else (none)) else (none))) = some (r1, r2) := H
        have A21 := Aside0.mk A210
        clear A210
        replace H := Option.bind_eq_some_iff.mp H
        obtain ⟨⟨t488, t489, t490, t491, t492, t493, t494⟩, A220, H⟩ := H
        replace H : (if 0 ≤ t486 then (if t486 < (y483.length : Int) then ((some (y483.set (t486 : Int).toNat (⟨t488, t489, t490, t491, (⟨t492, t493⟩ : S27)⟩ : S29) : List (S29))).bind fun y495 => ((spec_CodeSafe.f k2 y495).bind fun t496 => (if t496 = true then ((spec_l6Rd_pick.f k2 s0_0 t494 2).bind fun bt497 => (spec_l71Safe.j2 k2 x5_2 x7_2 y495 (bt497.1 == 0) s0_0 bt497.2)) else (spec_l71Safe.j2 k2 x5_2 x7_2 y495 false s0_0 t494)))) else (none)) else (none)) = some (r1, r2) := H
        have A22 := Aside0.mk A220
        clear A220
        by_cases c23 : 0 ≤ t486
        ·rw [if_pos c23] at H
         have c23b0 : decide (0 ≤ t486) = true := decide_eq_true c23
         clear c23
         by_cases c24 : t486 < (y483.length : Int)
         ·rw [if_pos c24] at H
          have c24b0 : decide (t486 < (y483.length : Int)) = true := decide_eq_true c24
          clear c24
          obtain ⟨y495, hy495⟩ : ∃ y_ : List (S29), y_ = (y483.set (t486 : Int).toNat (⟨t488, t489, t490, t491, (⟨t492, t493⟩ : S27)⟩ : S29)) := ⟨_, rfl⟩
          replace H : ((spec_CodeSafe.f k2 y495).bind fun t496 => (if t496 = true then ((spec_l6Rd_pick.f k2 s0_0 t494 2).bind fun bt497 => (spec_l71Safe.j2 k2 x5_2 x7_2 y495 (bt497.1 == 0) s0_0 bt497.2)) else (spec_l71Safe.j2 k2 x5_2 x7_2 y495 false s0_0 t494))) = some (r1, r2) := by first | (rw [hy495]; with_reducible exact H) | (have H2_ := (Option.bind_some _ _).symm.trans H; rw [hy495]; with_reducible exact H2_) | (have H2_ := (Option.bind_some _ _).symm.trans H; with_reducible exact H2_) | with_reducible exact H | (rw [hy495]; exact H) | exact H
          have Ny495 := Aside0.mk hy495
          clear hy495
          have HC26 := Aside0.mk H
          clear H
          go_upto_region 13 with (first | ((with_reducible refine gate_dst (N := 29) rfl ?_); refine Kd.R_lit k29 _ 29 ?hg (N := 29) ?hd (xs := ([] : List (S29))) (inner := []) (ok := fun _ => True) (okp := fun _ => True) ?hr ?hp (fun _ hk => hk) trivial (Below.refl _ _) (Nat.le_refl _) (by simp) ?_; (case hd => rfl); (case hg => rfl); (case hr => first | (go_simp; done) | (go_simp; rfl)); (case hp => exact (Reps.none _ _)); intro v481 w27 ho28 hb hg_ hnew_; clear hg_ hnew_; (first | rw [← Ny480.out] at ho28 | (simp only [Int.reduceToNat] at ho28; rw [← Ny480.out] at ho28)); have n0_ := Aside0.mk (Kd.R_elder' (by exact rU HO_5.out) (Kd.R_base ho28) hb); have n1_ := Aside0.mk (Kd.R_lower (Kd.R_new' ho28 (Kd.R_lt (by exact rU HO_5.out))) (keep_size (w := w) (g := g) (row := none) (by repeat (with_reducible first | exact HK.out | apply pS | apply pN | apply pD | apply pA)))); have n2_ := Aside0.mk (IsS84.below (by repeat (with_reducible first | exact HI0.out | apply sA | apply sN | apply sD | apply sS)) hb); have n3_ := Aside0.mk (KeepBut.trans (by repeat (with_reducible first | exact HK.out | apply pS | apply pN | apply pD | apply pA)) (KeepBut.of_below hb g none) (.inl rfl)); have n4_ := Aside0.mk (below_step (by repeat (with_reducible first | exact HB.out | apply bA | apply bN | apply b1 | refine below_set ?_ (IsS84.ge HI0.out))) hb); clear HO_5; clear HI0; clear HK; clear HB; have HO_5 := n0_; have HO482 := n1_; have HI0 := n2_; have HK := n3_; have HB := n4_; clear n0_ n1_ n2_ n3_ n4_; clear hb ho28; obtain ⟨Ao30, co30, eo30⟩ := Kd.R_slice HO_5.out; subst eo30) | ((with_reducible refine gate_builtin (b := .append) (xs := #[.tmp 29, .tmp 30]) rfl ?_); at_builtin; refine Kd.R_append_rows k29 w.heap.size rfl (.tmp 29) (.tmp 30) 42 29 (.agg #[(.int .i64 0), (.int .i64 0), (.int .i64 0), (.int .i64 0), (.int .i64 0), (.int .i64 0)]) 48 rfl Try.underlying42 info29 rfl (by decide) (by omega) v481 y480 x5_2 _ _ _ (fun k_ => some k_ ≠ (.slice Ao30 x5_2.length co30 : Value).ownBlock) (fun _ => False) rfl rfl ?aO ?aR (fun _ _ h => h) (fun _ h => h.elim) ?aF (Below.refl _ _) ?aS ?aL ?_; (case aR => repeat (first | exact (Kd.R_reads' HO_5.out).2.2 | (with_reducible refine Kd.C_alloc ?_ _) | (with_reducible refine Kd.C_drewN ?_ _) | (with_reducible refine Kd.C_drew ?_))); (case aF => exact (fun k_ hk => Kd.fresh' (Kd.R_lt (by exact rU HO_5.out)) k_ hk)); (case aO => exact (by (with_reducible repeat (first | apply rA | apply rN | apply rD)); exact Kd.R_mono HO482.out (fun _ hk => hk.2))); (case aS => exact (keep_size (w := w) (g := g) (row := none) (by repeat (with_reducible first | exact HK.out | apply pS | apply pN | apply pD | apply pA)))); (case aL => have := LMc20.out; omega); intro v484 w29 ho hb hg hat; rw [← Ny483.out] at ho; have n0_ := Aside0.mk (Kd.R_after (ok := (fun _ => True)) (by exact rU HO_5.out) hg hat); have n1_ := Aside0.mk (IsS84.grown (by repeat (with_reducible first | exact HI0.out | apply sA | apply sN | apply sD | apply sS)) hg (IsS84.own_ne HI0.out HO482.out (by decide))); have n2_ := Aside0.mk (below_weaken (by repeat (with_reducible first | exact HB.out | apply bA | apply bN | apply b1 | refine below_set ?_ (IsS84.ge HI0.out))) HL.out hb); have n3_ := Aside0.mk (KeepBut.trans (by repeat (with_reducible first | exact HK.out | apply pS | apply pN | apply pD | apply pA)) (KeepBut.of_grown hg g) (Kd.R_base2 HO482.out)); have n4_ := Aside0.mk (ho); clear HO_5; clear HI0; clear HB; clear HK; clear HO482; have HO_5 := n0_; have HI0 := n1_; have HB := n2_; have HK := n3_; have HO485 := n4_; clear n0_ n1_ n2_ n3_ n4_; clear ho hb hg hat; obtain ⟨Ao31, co31, eo31⟩ := Kd.R_slice HO485.out; subst eo31) | ((with_reducible refine gate_callee (f := 71) rfl ?_); refine goesL_ (some 36) rfl rfl Try.func71 (by kernel_rfl) rfl #[.pointer (some ⟨g, 0, none⟩), .int .i64 (y483.length : Int)] rfl (by (try simp only [List.map_toArray, List.map_cons, List.map_nil]); first | done | rfl | (simp only [List.length_drop, List.length_take]; rfl)) ?_; (with_reducible refine (spec_l6Rd_pick.calls k2 g s0_0 x1001_2 (y483.length : Int) t486 t487 w0 _ ?side1 ?side2 A21.out).mono ?_); (case side1 => repeat (with_reducible first | exact HI0.out | apply sA | apply sN | apply sD | apply sS)); (case side2 => repeat (with_reducible first | exact HB.out | apply bA | apply bN | apply b1 | refine below_set ?_ (IsS84.ge HI0.out))); rintro e w32 ⟨rfl, hi, hb, hk⟩; refine ⟨_, rfl, ?_⟩; replace HO_5 := Aside0.mk (Kd.R_mono (Kd.R_keep (IsS84.apart (show IsS84 w0 _ g s0_0 x1001_2 from by repeat (with_reducible first | exact HI0.out | apply sA | apply sN | apply sD | apply sS)) (by exact rU HO_5.out) (by decide)) hk (fun _ h => h.2)) (fun _ h => h.1)); replace HO485 := Aside0.mk (Kd.R_mono (Kd.R_keep (IsS84.apart (show IsS84 w0 _ g s0_0 x1001_2 from by repeat (with_reducible first | exact HI0.out | apply sA | apply sN | apply sD | apply sS)) (by exact rU HO485.out) (by decide)) hk (fun _ h => h.2)) (fun _ h => h.1)); replace HK := Aside0.mk (KeepBut.trans (by repeat (with_reducible first | exact HK.out | apply pS | apply pN | apply pD | apply pA)) hk (.inl rfl)); replace HB := Aside0.mk (hb); replace HI0 := Aside0.mk (hi); (try clear hb); (try clear hb2); (try clear hk); (try clear hi)) | ((with_reducible refine gate_callee (f := 90) rfl ?_); refine goesL_ (some 40) rfl rfl Try.func90 (by kernel_rfl) rfl #[.pointer (some ⟨g, 0, none⟩), .int .i64 (y483.length : Int)] rfl (by (try simp only [List.map_toArray, List.map_cons, List.map_nil]); first | done | rfl | (simp only [List.length_drop, List.length_take]; rfl)) ?_; (with_reducible refine (spec_l71Op.calls k2 g s0_0 t487 (y483.length : Int) t488 t489 t490 t491 t492 t493 t494 w0 _ ?side1 ?side2 A22.out).mono ?_); (case side1 => repeat (with_reducible first | exact HI0.out | apply sA | apply sN | apply sD | apply sS)); (case side2 => repeat (with_reducible first | exact HB.out | apply bA | apply bN | apply b1 | refine below_set ?_ (IsS84.ge HI0.out))); rintro e w33 ⟨rfl, hi, hb, hk⟩; refine ⟨_, rfl, ?_⟩; replace HO_5 := Aside0.mk (Kd.R_mono (Kd.R_keep (IsS84.apart (show IsS84 w0 _ g s0_0 t487 from by repeat (with_reducible first | exact HI0.out | apply sA | apply sN | apply sD | apply sS)) (by exact rU HO_5.out) (by decide)) hk (fun _ h => h.2)) (fun _ h => h.1)); replace HO485 := Aside0.mk (Kd.R_mono (Kd.R_keep (IsS84.apart (show IsS84 w0 _ g s0_0 t487 from by repeat (with_reducible first | exact HI0.out | apply sA | apply sN | apply sD | apply sS)) (by exact rU HO485.out) (by decide)) hk (fun _ h => h.2)) (fun _ h => h.1)); replace HK := Aside0.mk (KeepBut.trans (by repeat (with_reducible first | exact HK.out | apply pS | apply pN | apply pD | apply pA)) hk (.inl rfl)); replace HB := Aside0.mk (hb); replace HI0 := Aside0.mk (hi); (try clear hb); (try clear hb2); (try clear hk); (try clear hi); have p25 : 0 ≤ (t486 : Int) := of_decide_eq_true (by assumption); have q25 : (t486 : Int) < ((y483.length : Int) : Int) := of_decide_eq_true (by assumption); obtain ⟨go25, co25, eo25, gb25, gl25, cl25, HG25⟩ := Kd.R_form HO485.out (by omega); (first | cases eo25 | (injection eo25 with ea_ en_ ec_; (first | subst ea_ | (injection ea_ with ea_; subst ea_)); subst ec_; clear en_)); have GB25 := Aside0.mk gb25; have GG25 := Aside0.mk HG25; clear gb25 gl25 HG25; obtain ⟨ce25, hcl25, hM25, hcc25, hfr25⟩ := Kd.R_elem HO485.out z29 (t486 : Int) p25 q25; obtain rfl := k29_openM hM25; have hx25_0 : w33.cell? ⟨go25, (t486 : Int).toNat * 6, none⟩ = some (.int .i64 ((rd_T29 y483 t486).f0)) := hcc25 0 _ rfl; have hx25_1 : w33.cell? ⟨go25, (t486 : Int).toNat * 6 + 1, none⟩ = some (.int .i64 ((rd_T29 y483 t486).f1)) := hcc25 1 _ rfl; have hx25_2 : w33.cell? ⟨go25, (t486 : Int).toNat * 6 + 2, none⟩ = some (.int .i64 ((rd_T29 y483 t486).f2)) := hcc25 2 _ rfl; have hx25_3 : w33.cell? ⟨go25, (t486 : Int).toNat * 6 + 3, none⟩ = some (.int .i64 ((rd_T29 y483 t486).f3)) := hcc25 3 _ rfl; have hx25_4 : w33.cell? ⟨go25, (t486 : Int).toNat * 6 + 4, none⟩ = some (.int .i64 ((rd_T29 y483 t486).f4.f0)) := hcc25 4 _ rfl; have hx25_5 : w33.cell? ⟨go25, (t486 : Int).toNat * 6 + 5, none⟩ = some (.int .i64 ((rd_T29 y483 t486).f4.f1)) := hcc25 5 _ rfl; have hf25_0 : w33.frozen? ⟨go25, (t486 : Int).toNat * 6, none⟩ = false := hfr25 0; have hf25_1 : w33.frozen? ⟨go25, (t486 : Int).toNat * 6 + 1, none⟩ = false := hfr25 1; have hf25_2 : w33.frozen? ⟨go25, (t486 : Int).toNat * 6 + 2, none⟩ = false := hfr25 2; have hf25_3 : w33.frozen? ⟨go25, (t486 : Int).toNat * 6 + 3, none⟩ = false := hfr25 3; have hf25_4 : w33.frozen? ⟨go25, (t486 : Int).toNat * 6 + 4, none⟩ = false := hfr25 4; have hf25_5 : w33.frozen? ⟨go25, (t486 : Int).toNat * 6 + 5, none⟩ = false := hfr25 5; clear hcl25 hcc25 hfr25 hM25; replace p25 := eq_true p25; replace q25 := eq_true q25; have HX34 := Aside0.mk (show Kd.R k29 29 w33 w.heap.size (fun k_ => some k_ ≠ (.slice Ao30 x5_2.length co30 : Value).ownBlock) (.slice (some ⟨go25, 0, none⟩) y483.length co31) y483 from (by exact rU HO485.out)); obtain ⟨ce34, hcl34, hM34, hcc34, hfr34⟩ := Kd.R_elem HX34.out z29 (t486 : Int) (of_decide_eq_true (by assumption)) (by have h_ : (t486 : Int) < ((y483.length : Int) : Int) := of_decide_eq_true (by assumption); first | exact h_ | (have e_ := (Kd.R_reads' HO485.out).1; omega) | simpa using h_); obtain rfl := k29_openM hM34; have HP34 := Kd.R_seg HX34.out (t486 : Int) (of_decide_eq_true (by assumption)) (by have h_ : (t486 : Int) < ((y483.length : Int) : Int) := of_decide_eq_true (by assumption); first | exact h_ | (have e_ := (Kd.R_reads' HO485.out).1; omega) | simpa using h_) (seg := [.int .i64 t488, .int .i64 t489, .int .i64 t490, .int .i64 t491, .int .i64 t492, .int .i64 t493]) (j := 0) hcl34 hcc34 (show 6 ≤ 6 from by decide) (x' := (⟨t488, t489, t490, t491, (⟨t492, t493⟩ : S27)⟩ : S29)) (k29_mkM _ _ _ (⟨t488, t489, t490, t491, (⟨t492, t493⟩ : S27)⟩ : S29) ) (fun _ hk => hk); have hx34_0 := hcc34 0 _ rfl; (try simp only [show (k29).sz = 6 from rfl, Nat.mul_one, Nat.add_zero] at hx34_0); have hf34_0 := hfr34 0; (try simp only [show (k29).sz = 6 from rfl, Nat.mul_one, Nat.add_zero] at hf34_0); have hx34_1 := hcc34 1 _ rfl; (try simp only [show (k29).sz = 6 from rfl, Nat.mul_one, Nat.add_zero] at hx34_1); have hf34_1 := hfr34 1; (try simp only [show (k29).sz = 6 from rfl, Nat.mul_one, Nat.add_zero] at hf34_1); have hx34_2 := hcc34 2 _ rfl; (try simp only [show (k29).sz = 6 from rfl, Nat.mul_one, Nat.add_zero] at hx34_2); have hf34_2 := hfr34 2; (try simp only [show (k29).sz = 6 from rfl, Nat.mul_one, Nat.add_zero] at hf34_2); have hx34_3 := hcc34 3 _ rfl; (try simp only [show (k29).sz = 6 from rfl, Nat.mul_one, Nat.add_zero] at hx34_3); have hf34_3 := hfr34 3; (try simp only [show (k29).sz = 6 from rfl, Nat.mul_one, Nat.add_zero] at hf34_3); have hx34_4 := hcc34 4 _ rfl; (try simp only [show (k29).sz = 6 from rfl, Nat.mul_one, Nat.add_zero] at hx34_4); have hf34_4 := hfr34 4; (try simp only [show (k29).sz = 6 from rfl, Nat.mul_one, Nat.add_zero] at hf34_4); have hx34_5 := hcc34 5 _ rfl; (try simp only [show (k29).sz = 6 from rfl, Nat.mul_one, Nat.add_zero] at hx34_5); have hf34_5 := hfr34 5; (try simp only [show (k29).sz = 6 from rfl, Nat.mul_one, Nat.add_zero] at hf34_5); clear hcl34 hcc34 hfr34 hM34) | ((with_reducible refine gate_store (t := 29) (p := 41) rfl ?_); refine store_event (t := 29) (p := 41) (v := ?vo_w35) (w1 := ((((((w33.setCell ⟨go25, (t486 : Int).toNat * 6, none⟩ (.int .i64 t488)).setCell ⟨go25, (t486 : Int).toNat * 6 + 1, none⟩ (.int .i64 t489)).setCell ⟨go25, (t486 : Int).toNat * 6 + 2, none⟩ (.int .i64 t490)).setCell ⟨go25, (t486 : Int).toNat * 6 + 3, none⟩ (.int .i64 t491)).setCell ⟨go25, (t486 : Int).toNat * 6 + 4, none⟩ (.int .i64 t492)).setCell ⟨go25, (t486 : Int).toNat * 6 + 5, none⟩ (.int .i64 t493))) ?hg ?ho ?hn ?hr ?_; (case ho => rfl); (case hg => rfl); (case hn => rfl); (case hr => first | (go_simp; done) | (go_simp; rfl)); intro w35 hw; have hg : w33.grownBy w35 (some go25) := (by rw [hw]; exact HP34.2); have hp_ : Kd.R k29 29 w35 w.heap.size (fun k_ => some k_ ≠ (.slice Ao30 x5_2.length co30 : Value).ownBlock) (.slice (some ⟨go25, 0, none⟩) y483.length co31) y495 := (by rw [hw, Ny495.out]; exact HP34.1); clear HP34; have n0_ := Aside0.mk (Kd.R_after (v := (.slice (some ⟨go25, 0, none⟩) y483.length co31)) (v1 := (.slice (some ⟨go25, 0, none⟩) y483.length co31)) (ok := (fun _ => True)) (by exact rU HO_5.out) hg (.inl rfl)); have n1_ := Aside0.mk (IsS84.grown (by repeat (with_reducible first | exact HI0.out | apply sA | apply sN | apply sD | apply sS)) hg (IsS84.own_ne HI0.out HO485.out (by decide))); have n2_ := Aside0.mk (hp_); have n3_ := Aside0.mk ((by rw [hw]; exact below_set (below_set (below_set (below_set (below_set (below_set (HB.out) (Nat.le_trans HL.out GB25.out)) (Nat.le_trans HL.out GB25.out)) (Nat.le_trans HL.out GB25.out)) (Nat.le_trans HL.out GB25.out)) (Nat.le_trans HL.out GB25.out)) (Nat.le_trans HL.out GB25.out) : Below w0.heap.size w0 w35)); have n4_ := Aside0.mk (KeepBut.trans (by repeat (with_reducible first | exact HK.out | apply pS | apply pN | apply pD | apply pA)) (KeepBut.of_grown hg g) (Kd.R_base2 HO485.out)); clear HO_5; clear HI0; clear HO485; clear HB; clear HK; have HO_5 := n0_; have HI0 := n1_; have HO485 := n2_; have HB := n3_; have HK := n4_; clear n0_ n1_ n2_ n3_ n4_; clear hg hw hp_))
          (try simp only [Act.put, List.setIfInBounds_toArray, List.set_cons_zero, List.set_cons_succ])
          go_cut [48] (fun v48 wc => ∃ (kq : Nat) (x48_25 : Bool) (x1001_25 : Int), v48 = .bool x48_25 ∧ Aside0 (spec_l71Safe.j2 kq x5_2 x7_2 y495 x48_25 s0_0 x1001_25 = some (r1, r2)) ∧ Aside0 (kq ≤ k2) ∧ Aside0 (Kd.R k29 29 wc w.heap.size (fun k_ => some k_ ≠ ((.slice (some ⟨go25, 0, none⟩) y483.length co31) : Value).ownBlock) (.slice Ao30 x5_2.length co30) x5_2) ∧ Aside0 (Kd.R k29 29 wc w.heap.size (fun k_ => some k_ ≠ ((.slice Ao30 x5_2.length co30) : Value).ownBlock) (.slice (some ⟨go25, 0, none⟩) y483.length co31) y495) ∧ Aside0 (IsS84 w0 wc g s0_0 x1001_25) ∧ Aside0 (KeepBut w wc g none) ∧ Aside0 (Below w0.heap.size w0 wc))
          case first =>
           have H := HC26.out
           clear HC26
           replace H := Option.bind_eq_some_iff.mp H
           obtain ⟨t496, A360, H⟩ := H
           replace H : (if t496 = true then ((spec_l6Rd_pick.f k2 s0_0 t494 2).bind fun bt497 => (spec_l71Safe.j2 k2 x5_2 x7_2 y495 (bt497.1 == 0) s0_0 bt497.2)) else (spec_l71Safe.j2 k2 x5_2 x7_2 y495 false s0_0 t494)) = some (r1, r2) := H
           have A36 := Aside0.mk A360
           clear A360
           by_cases c37 : t496 = true
           ·subst c37
            have H1 : ((spec_l6Rd_pick.f k2 s0_0 t494 2).bind fun bt497 => (spec_l71Safe.j2 k2 x5_2 x7_2 y495 (bt497.1 == 0) s0_0 bt497.2)) = some (r1, r2) := by rw [if_pos rfl] at H; exact H
            clear H
            have H := H1
            clear H1
            replace H := Option.bind_eq_some_iff.mp H
            obtain ⟨⟨t497, t498⟩, A380, H⟩ := H
            replace H : (spec_l71Safe.j2 k2 x5_2 x7_2 y495 (t497 == 0) s0_0 t498) = some (r1, r2) := H
            have A38 := Aside0.mk A380
            clear A380
            have H' := Aside0.mk H
            clear H
            go_wp2_with (first | ((with_reducible refine gate_callee (f := 45) rfl ?_); refine goesL_ (some 43) rfl rfl Try.func45 (by kernel_rfl) rfl #[.slice (some ⟨go25, 0, none⟩) y495.length co31] rfl (by (try simp only [List.map_toArray, List.map_cons, List.map_nil]); first | done | (rw [show y495.length = y483.length from (Kd.R_reads' HO485.out).1.symm] <;> rfl) | rfl | (simp only [List.length_drop, List.length_take]; rfl)) ?_; (with_reducible refine (spec_CodeSafe.calls k2 _ _ y495 true _ ?side1 ?side2 A36.out).mono ?_); (case side1 => repeat (first | exact (Kd.R_reads' HO485.out).2.2 | (with_reducible refine Kd.C_alloc ?_ _) | (with_reducible refine Kd.C_drewN ?_ _) | (with_reducible refine Kd.C_drew ?_))); (case side2 => rw [show y495.length = y483.length from (Kd.R_reads' HO485.out).1.symm]; exact (Kd.R_reads' HO485.out).2.1); rintro e w39 ⟨rfl, hb⟩; refine ⟨_, rfl, ?_⟩; have n0_ := Aside0.mk (Kd.R_below (by exact rU HO_5.out) hb); have n1_ := Aside0.mk (Kd.R_below (by exact rU HO485.out) hb); have n2_ := Aside0.mk (IsS84.below (by repeat (with_reducible first | exact HI0.out | apply sA | apply sN | apply sD | apply sS)) hb); have n3_ := Aside0.mk (KeepBut.trans (by repeat (with_reducible first | exact HK.out | apply pS | apply pN | apply pD | apply pA)) (KeepBut.of_below hb g none) (.inl rfl)); have n4_ := Aside0.mk (below_step (by repeat (with_reducible first | exact HB.out | apply bA | apply bN | apply b1 | refine below_set ?_ (IsS84.ge HI0.out))) hb); clear HO_5; clear HO485; clear HI0; clear HK; clear HB; have HO_5 := n0_; have HO485 := n1_; have HI0 := n2_; have HK := n3_; have HB := n4_; clear n0_ n1_ n2_ n3_ n4_; (try clear hb); (try clear hb2); (try clear hk); (try clear hi)) | (go_at_call 71; (with_reducible refine (spec_l6Rd_pick.calls k2 g s0_0 t494 2 t497 t498 w0 _ ?side1 ?side2 A38.out).mono ?_); (case side1 => repeat (with_reducible first | exact HI0.out | apply sA | apply sN | apply sD | apply sS)); (case side2 => repeat (with_reducible first | exact HB.out | apply bA | apply bN | apply b1 | refine below_set ?_ (IsS84.ge HI0.out))); rintro e w40 ⟨rfl, hi, hb, hk⟩; replace HO_5 := Aside0.mk (Kd.R_mono (Kd.R_keep (IsS84.apart (show IsS84 w0 _ g s0_0 t494 from by repeat (with_reducible first | exact HI0.out | apply sA | apply sN | apply sD | apply sS)) (by exact rU HO_5.out) (by decide)) hk (fun _ h => h.2)) (fun _ h => h.1)); replace HO485 := Aside0.mk (Kd.R_mono (Kd.R_keep (IsS84.apart (show IsS84 w0 _ g s0_0 t494 from by repeat (with_reducible first | exact HI0.out | apply sA | apply sN | apply sD | apply sS)) (by exact rU HO485.out) (by decide)) hk (fun _ h => h.2)) (fun _ h => h.1)); replace HK := Aside0.mk (KeepBut.trans (by repeat (with_reducible first | exact HK.out | apply pS | apply pN | apply pD | apply pA)) hk (.inl rfl)); replace HB := Aside0.mk (hb); replace HI0 := Aside0.mk (hi); (try clear hb); (try clear hb2); (try clear hk); (try clear hi)))
            go_meet
            case rel => exact ⟨_, ((t497 == 0)), (t498), (by first | rfl | (simp; done) | (simp [*]; done)), H', ⟨by have := HK1.out; have := HK2.out; first | omega | exact Nat.le_refl _⟩, ⟨by (with_reducible repeat (first | apply rA | apply rN | apply rD)); exact Kd.R_mono HO_5.out (fun _ hk => hk.2)⟩, ⟨by exact rU HO485.out⟩, ⟨by repeat (with_reducible first | exact HI0.out | apply sA | apply sN | apply sD | apply sS)⟩, ⟨by repeat (with_reducible first | exact HK.out | apply pS | apply pN | apply pD | apply pA)⟩, ⟨by repeat (with_reducible first | exact HB.out | apply bA | apply bN | apply b1 | refine below_set ?_ (IsS84.ge HI0.out))⟩⟩
           ·replace c37 := Bool.eq_false_iff.mpr c37
            subst c37
            have H1 : (spec_l71Safe.j2 k2 x5_2 x7_2 y495 false s0_0 t494) = some (r1, r2) := by rw [if_neg (show ¬ (false = true) by decide)] at H; exact H
            clear H
            have H := H1
            clear H1
            have H' := Aside0.mk H
            clear H
            go_wp2_with (first | ((with_reducible refine gate_callee (f := 45) rfl ?_); refine goesL_ (some 43) rfl rfl Try.func45 (by kernel_rfl) rfl #[.slice (some ⟨go25, 0, none⟩) y495.length co31] rfl (by (try simp only [List.map_toArray, List.map_cons, List.map_nil]); first | done | (rw [show y495.length = y483.length from (Kd.R_reads' HO485.out).1.symm] <;> rfl) | rfl | (simp only [List.length_drop, List.length_take]; rfl)) ?_; (with_reducible refine (spec_CodeSafe.calls k2 _ _ y495 false _ ?side1 ?side2 A36.out).mono ?_); (case side1 => repeat (first | exact (Kd.R_reads' HO485.out).2.2 | (with_reducible refine Kd.C_alloc ?_ _) | (with_reducible refine Kd.C_drewN ?_ _) | (with_reducible refine Kd.C_drew ?_))); (case side2 => rw [show y495.length = y483.length from (Kd.R_reads' HO485.out).1.symm]; exact (Kd.R_reads' HO485.out).2.1); rintro e w41 ⟨rfl, hb⟩; refine ⟨_, rfl, ?_⟩; have n0_ := Aside0.mk (Kd.R_below (by exact rU HO_5.out) hb); have n1_ := Aside0.mk (Kd.R_below (by exact rU HO485.out) hb); have n2_ := Aside0.mk (IsS84.below (by repeat (with_reducible first | exact HI0.out | apply sA | apply sN | apply sD | apply sS)) hb); have n3_ := Aside0.mk (KeepBut.trans (by repeat (with_reducible first | exact HK.out | apply pS | apply pN | apply pD | apply pA)) (KeepBut.of_below hb g none) (.inl rfl)); have n4_ := Aside0.mk (below_step (by repeat (with_reducible first | exact HB.out | apply bA | apply bN | apply b1 | refine below_set ?_ (IsS84.ge HI0.out))) hb); clear HO_5; clear HO485; clear HI0; clear HK; clear HB; have HO_5 := n0_; have HO485 := n1_; have HI0 := n2_; have HK := n3_; have HB := n4_; clear n0_ n1_ n2_ n3_ n4_; (try clear hb); (try clear hb2); (try clear hk); (try clear hi)))
            go_meet
            case rel => exact ⟨_, (false), (t494), (by first | rfl | (simp; done) | (simp [*]; done)), H', ⟨by have := HK1.out; have := HK2.out; first | omega | exact Nat.le_refl _⟩, ⟨by (with_reducible repeat (first | apply rA | apply rN | apply rD)); exact Kd.R_mono HO_5.out (fun _ hk => hk.2)⟩, ⟨by exact rU HO485.out⟩, ⟨by repeat (with_reducible first | exact HI0.out | apply sA | apply sN | apply sD | apply sS)⟩, ⟨by repeat (with_reducible first | exact HK.out | apply pS | apply pN | apply pD | apply pA)⟩, ⟨by repeat (with_reducible first | exact HB.out | apply bA | apply bN | apply b1 | refine below_set ?_ (IsS84.ge HI0.out))⟩⟩
          case rest =>
           clear HC26
           (try clear c1); (try clear c2); (try clear c2b0); (try clear p2); (try clear q2); (try clear hx2); (try clear hf2); (try clear c3); (try clear hx3); (try clear hf3); (try clear c4); (try clear c5); (try clear p6); (try clear c7); (try clear c8); (try clear c9); (try clear c10); (try clear c19); (try clear c19b0); (try clear c20); (try clear c23); (try clear c23b0); (try clear c24); (try clear c24b0); (try clear c25); (try clear p25); (try clear q25); (try clear hx25); (try clear hf25); (try clear c34); (try clear hx34); (try clear hf34); (try clear c37); (try clear hx25_0); (try clear hx25_1); (try clear hx25_2); (try clear hx25_3); (try clear hx25_4); (try clear hx25_5); (try clear hx34_0); (try clear hx34_1); (try clear hx34_2); (try clear hx34_3); (try clear hx34_4); (try clear hx34_5); (try clear p2); (try clear p25); (try clear p6); (try clear q25)
           obtain ⟨kq, x48_25, x1001_25, rfl, HA, HJ25, HO_5, HO_8, HI0, HK, HB⟩ := hcut
           have hl8_25 := (Kd.R_reads' HO_8.out).1
           rw [hl8_25] at HO_8
           (try simp only [hl8_25])
           (try simp only [hl8_25] at HO_5)
           cases kq with
           | zero => exact absurd HA.out (by simp [spec_l71Safe.j2])
           | succ kj25 =>
            have H := HA.out
            clear HA
            simp only [spec_l71Safe.j2] at H
            by_cases c42 : x48_25 = true
            ·subst c42
             have H1 : (spec_l71Safe.l1 kj25 y495 (wrap64 (x7_2 + 1)) s0_0 x1001_25) = some (r1, r2) := by rw [if_pos rfl] at H; exact H
             clear H
             have H := H1
             clear H1
             have H' := Aside0.mk H
             clear H
             go_wp2
             (try simp only [← hl8_25])
             go_roundg kj25
             case measure => have := HK1.out; have := HK2.out; have := HJ25.out; omega
             case rel => exact ⟨(y495), (wrap64 (x7_2 + 1)), (x1001_25), (by first | rfl | (simp; done) | (simp [*]; done)), H', ⟨by have := HK1.out; have := HK2.out; have := HJ25.out; omega⟩, ⟨by (try simp only [hl8_25]); (with_reducible repeat (first | apply rA | apply rN | apply rD)); exact Kd.R_mono HO_8.out (fun _ hk => trivial)⟩, ⟨by repeat (with_reducible first | exact HI0.out | apply sA | apply sN | apply sD | apply sS)⟩, ⟨by repeat (with_reducible first | exact HK.out | apply pS | apply pN | apply pD | apply pA)⟩, ⟨by repeat (with_reducible first | exact HB.out | apply bA | apply bN | apply b1 | refine below_set ?_ (IsS84.ge HI0.out))⟩⟩
            ·replace c42 := Bool.eq_false_iff.mpr c42
             subst c42
             have H1 : (spec_l71Safe.l1 kj25 x5_2 (wrap64 (x7_2 + 1)) s0_0 x1001_25) = some (r1, r2) := by rw [if_neg (show ¬ (false = true) by decide)] at H; exact H
             clear H
             have H := H1
             clear H1
             have H' := Aside0.mk H
             clear H
             go_wp2
             (try simp only [← hl8_25])
             go_roundg kj25
             case measure => have := HK1.out; have := HK2.out; have := HJ25.out; omega
             case rel => exact ⟨(x5_2), (wrap64 (x7_2 + 1)), (x1001_25), (by first | rfl | (simp; done) | (simp [*]; done)), H', ⟨by have := HK1.out; have := HK2.out; have := HJ25.out; omega⟩, ⟨by (try simp only [hl8_25]); (with_reducible repeat (first | apply rA | apply rN | apply rD)); exact Kd.R_mono HO_5.out (fun _ hk => trivial)⟩, ⟨by repeat (with_reducible first | exact HI0.out | apply sA | apply sN | apply sD | apply sS)⟩, ⟨by repeat (with_reducible first | exact HK.out | apply pS | apply pN | apply pD | apply pA)⟩, ⟨by repeat (with_reducible first | exact HB.out | apply bA | apply bN | apply b1 | refine below_set ?_ (IsS84.ge HI0.out))⟩⟩
         ·rw [if_neg c24] at H
          exact absurd H (by simp)
        ·rw [if_neg c23] at H
         exact absurd H (by simp)
       ·rw [if_neg c20] at H
        exact absurd H (by simp)
      ·rw [if_neg c19] at H
       have c19b0 : decide (x7_2 < 4) = false := decide_eq_false c19
       clear c19
       simp only [Option.some.injEq, Prod.mk.injEq] at H
       obtain ⟨rfl, rfl⟩ := H
       go_wp2
       go_ret
       exact ⟨_, by first | rfl | (simp [errW_none, errW_some] <;> rfl) | (simp [*, errW_none, errW_some] <;> rfl), by exact rU HO_5.out, by repeat (with_reducible first | exact HI0.out | apply sA | apply sN | apply sD | apply sS), by repeat (with_reducible first | exact HB.out | apply bA | apply bN | apply b1 | refine below_set ?_ (IsS84.ge HI0.out)), by repeat (with_reducible first | exact HK.out | apply pS | apply pN | apply pD | apply pA)⟩
end Go.Proofs.Ytmklpbmlgjkbiaa.PS
end
section
namespace Go.Proofs.Ytmklpbmlgjkbiaa.PS
open Go.RowKit Go.Proofs.YtmklpbmlgjkbiaaW.PrintWords Go.Proofs.YtmklpbmlgjkbiaaW.PrintLast Go.Proofs.YtmklpbmlgjkbiaaW.PrintMore
attribute [local go_sem] max2_int min2_int max_two min_two max_three min_three max_four min_four   -- for this text's walks alone
def spec_l71Code.l0 : Nat → List (S29) → List Int → Int → Option ((List (S29)) × Int)
 | 0, _, _, _ => none
 | k + 1, x3, x1000, x1001 => (spec_l6Rd_pick.f k x1000 x1001 2).bind fun bt524 => (if (x3.length : Int) < (wrap64 (16 + bt524.1)) then (if x3.length < 2932031007402 then (spec_l71Code.l0 k (x3 ++ [(⟨14, 0, 0, 0, (⟨0, 0⟩ : S27)⟩ : S29)]) x1000 bt524.2) else (none)) else (some (x3, bt524.2)))
def spec_l71Code.f (k : Nat) (s0_0 : List Int) (s0_1 : Int) : Option ((List (S29)) × Int) := (spec_l71Safe.f k s0_0 s0_1).bind fun bt499 => ((spec_l6Rd_pick.f k s0_0 bt499.2 12).bind fun bt503 => (if bt503.1 = 0 then ((spec_l71Random.f k s0_0 bt503.2).bind fun bt505 => (some (bt505.1, bt505.2))) else (if bt503.1 = 1 then ((spec_l6Rd_pick.f k s0_0 bt503.2 (bt499.1.length : Int)).bind fun bt509 => ((spec_l71AnyOp.f k s0_0 bt509.2).bind fun bt511 => (if 0 ≤ bt509.1 then (if bt509.1 < (bt499.1.length : Int) then (some ((bt499.1.set (bt509.1 : Int).toNat (⟨bt511.1, bt511.2.1, bt511.2.2.1, bt511.2.2.2.1, (⟨bt511.2.2.2.2.1, bt511.2.2.2.2.2.1⟩ : S27)⟩ : S29)), bt511.2.2.2.2.2.2)) else (none)) else (none)))) else (if bt503.1 = 2 then ((spec_l6Rd_pick.f k s0_0 bt503.2 (wrap64 ((bt499.1.length : Int) + 1))).bind fun bt519 => (if 0 ≤ bt519.1 then (if bt519.1 ≤ (bt499.1.length : Int) then (some ((bt499.1.take (bt519.1 : Int).toNat), bt519.2)) else (none)) else (none))) else (if bt503.1 = 3 then (spec_l71Code.l0 k bt499.1 s0_0 bt503.2) else (some (bt499.1, bt503.2)))))))
theorem spec_l71Code.calls (k : Nat) (g : Nat) (s0_0 : List Int) (s0_1 : Int) (r1 : List (S29)) (r2 : Int) (w0 w : World) (hI : IsS84 w0 w g s0_0 s0_1) (hB : Below w0.heap.size w0 w) (h : spec_l71Code.f k s0_0 s0_1 = some (r1, r2)) :
  Calls Try.prog 85 #[.pointer (some ⟨g, 0, none⟩)] w fun e w' => ∃ v0_ : Value, e = .returned (v0_) ∧ Kd.R k29 29 w' w.heap.size (fun _ => True) v0_ r1 ∧ IsS84 w0 w' g s0_0 r2 ∧ Below w0.heap.size w0 w' ∧ KeepBut w w' g none := by
 have hu29 := Try.underlying29
 have HI0 := Aside0.mk hI
 have HK := Aside0.mk (KeepBut.refl w g none)
 have HL := Aside0.mk hB.size
 clear hI
 have HW0 := Aside0.mk hB.size
 have HB := Aside0.mk hB
 clear hB
 have H : ((spec_l71Safe.f k s0_0 s0_1).bind fun bt499 => ((spec_l6Rd_pick.f k s0_0 bt499.2 12).bind fun bt503 => (if bt503.1 = 0 then ((spec_l71Random.f k s0_0 bt503.2).bind fun bt505 => (some (bt505.1, bt505.2))) else (if bt503.1 = 1 then ((spec_l6Rd_pick.f k s0_0 bt503.2 (bt499.1.length : Int)).bind fun bt509 => ((spec_l71AnyOp.f k s0_0 bt509.2).bind fun bt511 => (if 0 ≤ bt509.1 then (if bt509.1 < (bt499.1.length : Int) then (some ((bt499.1.set (bt509.1 : Int).toNat (⟨bt511.1, bt511.2.1, bt511.2.2.1, bt511.2.2.2.1, (⟨bt511.2.2.2.2.1, bt511.2.2.2.2.2.1⟩ : S27)⟩ : S29)), bt511.2.2.2.2.2.2)) else (none)) else (none)))) else (if bt503.1 = 2 then ((spec_l6Rd_pick.f k s0_0 bt503.2 (wrap64 ((bt499.1.length : Int) + 1))).bind fun bt519 => (if 0 ≤ bt519.1 then (if bt519.1 ≤ (bt499.1.length : Int) then (some ((bt499.1.take (bt519.1 : Int).toNat), bt519.2)) else (none)) else (none))) else (if bt503.1 = 3 then (spec_l71Code.l0 k bt499.1 s0_0 bt503.2) else (some (bt499.1, bt503.2)))))))) = some (r1, r2) := h
 clear h
 replace H := Option.bind_eq_some_iff.mp H
 obtain ⟨⟨t499, t502⟩, A20, H⟩ := H
 replace H : ((spec_l6Rd_pick.f k s0_0 t502 12).bind fun bt503 => (if bt503.1 = 0 then ((spec_l71Random.f k s0_0 bt503.2).bind fun bt505 => (some (bt505.1, bt505.2))) else (if bt503.1 = 1 then ((spec_l6Rd_pick.f k s0_0 bt503.2 (t499.length : Int)).bind fun bt509 => ((spec_l71AnyOp.f k s0_0 bt509.2).bind fun bt511 => (if 0 ≤ bt509.1 then (if bt509.1 < (t499.length : Int) then (some ((t499.set (bt509.1 : Int).toNat (⟨bt511.1, bt511.2.1, bt511.2.2.1, bt511.2.2.2.1, (⟨bt511.2.2.2.2.1, bt511.2.2.2.2.2.1⟩ : S27)⟩ : S29)), bt511.2.2.2.2.2.2)) else (none)) else (none)))) else (if bt503.1 = 2 then ((spec_l6Rd_pick.f k s0_0 bt503.2 (wrap64 ((t499.length : Int) + 1))).bind fun bt519 => (if 0 ≤ bt519.1 then (if bt519.1 ≤ (t499.length : Int) then (some ((t499.take (bt519.1 : Int).toNat), bt519.2)) else (none)) else (none))) else (if bt503.1 = 3 then (spec_l71Code.l0 k t499 s0_0 bt503.2) else (some (t499, bt503.2))))))) = some (r1, r2) := H
 have A2 := Aside0.mk A20
 clear A20
 replace H := Option.bind_eq_some_iff.mp H
 obtain ⟨⟨t503, t504⟩, A30, H⟩ := H
 replace H : (if t503 = 0 then ((spec_l71Random.f k s0_0 t504).bind fun bt505 => (some (bt505.1, bt505.2))) else (if t503 = 1 then ((spec_l6Rd_pick.f k s0_0 t504 (t499.length : Int)).bind fun bt509 => ((spec_l71AnyOp.f k s0_0 bt509.2).bind fun bt511 => (if 0 ≤ bt509.1 then (if bt509.1 < (t499.length : Int) then (some ((t499.set (bt509.1 : Int).toNat (⟨bt511.1, bt511.2.1, bt511.2.2.1, bt511.2.2.2.1, (⟨bt511.2.2.2.2.1, bt511.2.2.2.2.2.1⟩ : S27)⟩ : S29)), bt511.2.2.2.2.2.2)) else (none)) else (none)))) else (if t503 = 2 then ((spec_l6Rd_pick.f k s0_0 t504 (wrap64 ((t499.length : Int) + 1))).bind fun bt519 => (if 0 ≤ bt519.1 then (if bt519.1 ≤ (t499.length : Int) then (some ((t499.take (bt519.1 : Int).toNat), bt519.2)) else (none)) else (none))) else (if t503 = 3 then (spec_l71Code.l0 k t499 s0_0 t504) else (some (t499, t504)))))) = some (r1, r2) := H
 have A3 := Aside0.mk A30
 clear A30
 by_cases c4 : t503 = 0
 ·rw [if_pos c4] at H
  have c4b0 : (t503 == 0) = true := beq_iff_eq.mpr c4
  have c4b1 : (t503 != 0) = false := bne_eq_false_iff_eq.mpr c4
  clear c4
  replace H := Option.bind_eq_some_iff.mp H
  obtain ⟨⟨t505, t508⟩, A50, H⟩ := H
  replace H : (some (t505, t508)) = some (r1, r2) := H
  have A5 := Aside0.mk A50
  clear A50
  simp only [Option.some.injEq, Prod.mk.injEq] at H
  obtain ⟨rfl, rfl⟩ := H
  go_enter Try.func85, Try.ntmps85
  go_wp2_with (first | ((with_reducible refine gate_callee (f := 101) rfl ?_); refine goesL_ (some 5) rfl rfl Try.func101 (by kernel_rfl) rfl #[.pointer (some ⟨g, 0, none⟩)] rfl (by (try simp only [List.map_toArray, List.map_cons, List.map_nil]); first | done | rfl | (simp only [List.length_drop, List.length_take]; rfl)) ?_; (with_reducible refine (spec_l71Safe.calls k g s0_0 s0_1 t499 t502 w0 _ ?side1 ?side2 A2.out).mono ?_); (case side1 => repeat (with_reducible first | exact HI0.out | apply sA | apply sN | apply sD | apply sS)); (case side2 => repeat (with_reducible first | exact HB.out | apply bA | apply bN | apply b1 | refine below_set ?_ (IsS84.ge HI0.out))); rintro e w6 ⟨v500, rfl, ho0, hi, hb, hk⟩; refine ⟨_, rfl, ?_⟩; have HO501 := Aside0.mk (Kd.R_lower ho0 (keep_size (w := w) (g := g) (row := none) (by repeat (with_reducible first | exact HK.out | apply pS | apply pN | apply pD | apply pA)))); replace HK := Aside0.mk (KeepBut.trans (by repeat (with_reducible first | exact HK.out | apply pS | apply pN | apply pD | apply pA)) hk (.inl rfl)); replace HB := Aside0.mk (hb); replace HI0 := Aside0.mk (hi); (try clear hb); (try clear hb2); (try clear hk); (try clear hi); (try clear ho0)) | ((with_reducible refine gate_callee (f := 71) rfl ?_); refine goesL_ (some 7) rfl rfl Try.func71 (by kernel_rfl) rfl #[.pointer (some ⟨g, 0, none⟩), .int .i64 12] rfl (by (try simp only [List.map_toArray, List.map_cons, List.map_nil]); first | done | rfl | (simp only [List.length_drop, List.length_take]; rfl)) ?_; (with_reducible refine (spec_l6Rd_pick.calls k g s0_0 t502 12 t503 t504 w0 _ ?side1 ?side2 A3.out).mono ?_); (case side1 => repeat (with_reducible first | exact HI0.out | apply sA | apply sN | apply sD | apply sS)); (case side2 => repeat (with_reducible first | exact HB.out | apply bA | apply bN | apply b1 | refine below_set ?_ (IsS84.ge HI0.out))); rintro e w7 ⟨rfl, hi, hb, hk⟩; refine ⟨_, rfl, ?_⟩; replace HO501 := Aside0.mk (Kd.R_mono (Kd.R_keep (IsS84.apart (show IsS84 w0 _ g s0_0 t502 from by repeat (with_reducible first | exact HI0.out | apply sA | apply sN | apply sD | apply sS)) (by exact rU HO501.out) (by decide)) hk (fun _ h => h.2)) (fun _ h => h.1)); replace HK := Aside0.mk (KeepBut.trans (by repeat (with_reducible first | exact HK.out | apply pS | apply pN | apply pD | apply pA)) hk (.inl rfl)); replace HB := Aside0.mk (hb); replace HI0 := Aside0.mk (hi); (try clear hb); (try clear hb2); (try clear hk); (try clear hi)) | ((with_reducible refine gate_callee (f := 86) rfl ?_); refine goesL_ (some 11) rfl rfl Try.func86 (by kernel_rfl) rfl #[.pointer (some ⟨g, 0, none⟩)] rfl (by (try simp only [List.map_toArray, List.map_cons, List.map_nil]); first | done | rfl | (simp only [List.length_drop, List.length_take]; rfl)) ?_; (with_reducible refine (spec_l71Random.calls k g s0_0 t504 t505 t508 w0 _ ?side1 ?side2 A5.out).mono ?_); (case side1 => repeat (with_reducible first | exact HI0.out | apply sA | apply sN | apply sD | apply sS)); (case side2 => repeat (with_reducible first | exact HB.out | apply bA | apply bN | apply b1 | refine below_set ?_ (IsS84.ge HI0.out))); rintro e w8 ⟨v506, rfl, ho0, hi, hb, hk⟩; refine ⟨_, rfl, ?_⟩; have n0_ := Aside0.mk (Kd.R_mono (Kd.R_told (Kd.R_oldK (IsS84.apart (show IsS84 w0 _ g s0_0 t504 from by repeat (with_reducible first | exact HI0.out | apply sA | apply sN | apply sD | apply sS)) (by exact rU HO501.out) (by decide)) hk) (Kd.R_base ho0)) (fun _ h_ => h_.1)); have n1_ := Aside0.mk (Kd.R_lower (Kd.R_new' ho0 (Kd.R_lt (by exact rU HO501.out))) (keep_size (w := w) (g := g) (row := none) (by repeat (with_reducible first | exact HK.out | apply pS | apply pN | apply pD | apply pA)))); have n2_ := Aside0.mk (KeepBut.trans (by repeat (with_reducible first | exact HK.out | apply pS | apply pN | apply pD | apply pA)) hk (.inl rfl)); have n3_ := Aside0.mk (hb); have n4_ := Aside0.mk (hi); clear HO501; clear HK; clear HB; clear HI0; have HO501 := n0_; have HO507 := n1_; have HK := n2_; have HB := n3_; have HI0 := n4_; clear n0_ n1_ n2_ n3_ n4_; (try clear hb); (try clear hb2); (try clear hk); (try clear hi); (try clear ho0)))
  go_ret
  exact ⟨_, by first | rfl | (simp [errW_none, errW_some] <;> rfl) | (simp [*, errW_none, errW_some] <;> rfl), by (with_reducible repeat (first | apply rA | apply rN | apply rD)); exact Kd.R_mono HO507.out (fun _ hk => trivial), by repeat (with_reducible first | exact HI0.out | apply sA | apply sN | apply sD | apply sS), by repeat (with_reducible first | exact HB.out | apply bA | apply bN | apply b1 | refine below_set ?_ (IsS84.ge HI0.out)), by repeat (with_reducible first | exact HK.out | apply pS | apply pN | apply pD | apply pA)⟩
 ·rw [if_neg c4] at H
  have c4b0 : (t503 == 0) = false := beq_eq_false_iff_ne.mpr c4
  have c4b1 : (t503 != 0) = true := bne_iff_ne.mpr c4
  by_cases c9 : t503 = 1
  ·rw [if_pos c9] at H
   have c9b0 : (t503 == 1) = true := beq_iff_eq.mpr c9
   have c9b1 : (t503 != 1) = false := bne_eq_false_iff_eq.mpr c9
   clear c9
   replace H := Option.bind_eq_some_iff.mp H
   obtain ⟨⟨t509, t510⟩, A100, H⟩ := H
   replace H : ((spec_l71AnyOp.f k s0_0 t510).bind fun bt511 => (if 0 ≤ t509 then (if t509 < (t499.length : Int) then (some ((t499.set (t509 : Int).toNat (⟨bt511.1, bt511.2.1, bt511.2.2.1, bt511.2.2.2.1, (⟨bt511.2.2.2.2.1, bt511.2.2.2.2.2.1⟩ : S27)⟩ : S29)), bt511.2.2.2.2.2.2)) else (none)) else (none))) = some (r1, r2) := H
   have A10 := Aside0.mk A100
   clear A100
   replace H := Option.bind_eq_some_iff.mp H
   obtain ⟨⟨t511, t512, t513, t514, t515, t516, t517⟩, A110, H⟩ := H
   replace H : (if 0 ≤ t509 then (if t509 < (t499.length : Int) then (some ((t499.set (t509 : Int).toNat (⟨t511, t512, t513, t514, (⟨t515, t516⟩ : S27)⟩ : S29)), t517)) else (none)) else (none)) = some (r1, r2) := H
   have A11 := Aside0.mk A110
   clear A110
   by_cases c12 : 0 ≤ t509
   ·rw [if_pos c12] at H
    have c12b0 : decide (0 ≤ t509) = true := decide_eq_true c12
    clear c12
    by_cases c13 : t509 < (t499.length : Int)
    ·rw [if_pos c13] at H
     have c13b0 : decide (t509 < (t499.length : Int)) = true := decide_eq_true c13
     clear c13
     obtain ⟨y518, hy518⟩ : ∃ y_ : List (S29), y_ = (t499.set (t509 : Int).toNat (⟨t511, t512, t513, t514, (⟨t515, t516⟩ : S27)⟩ : S29)) := ⟨_, rfl⟩
     replace H : (some (y518, t517)) = some (r1, r2) := by first | (rw [hy518]; with_reducible exact H) | (have H2_ := (Option.bind_some _ _).symm.trans H; rw [hy518]; with_reducible exact H2_) | (have H2_ := (Option.bind_some _ _).symm.trans H; with_reducible exact H2_) | with_reducible exact H | (rw [hy518]; exact H) | exact H
     have Ny518 := Aside0.mk hy518
     clear hy518
     simp only [Option.some.injEq, Prod.mk.injEq] at H
     obtain ⟨rfl, rfl⟩ := H
     go_enter Try.func85, Try.ntmps85
     go_wp2_with (first | ((with_reducible refine gate_callee (f := 101) rfl ?_); refine goesL_ (some 5) rfl rfl Try.func101 (by kernel_rfl) rfl #[.pointer (some ⟨g, 0, none⟩)] rfl (by (try simp only [List.map_toArray, List.map_cons, List.map_nil]); first | done | rfl | (simp only [List.length_drop, List.length_take]; rfl)) ?_; (with_reducible refine (spec_l71Safe.calls k g s0_0 s0_1 t499 t502 w0 _ ?side1 ?side2 A2.out).mono ?_); (case side1 => repeat (with_reducible first | exact HI0.out | apply sA | apply sN | apply sD | apply sS)); (case side2 => repeat (with_reducible first | exact HB.out | apply bA | apply bN | apply b1 | refine below_set ?_ (IsS84.ge HI0.out))); rintro e w15 ⟨v500, rfl, ho0, hi, hb, hk⟩; refine ⟨_, rfl, ?_⟩; have HO501 := Aside0.mk (Kd.R_lower ho0 (keep_size (w := w) (g := g) (row := none) (by repeat (with_reducible first | exact HK.out | apply pS | apply pN | apply pD | apply pA)))); replace HK := Aside0.mk (KeepBut.trans (by repeat (with_reducible first | exact HK.out | apply pS | apply pN | apply pD | apply pA)) hk (.inl rfl)); replace HB := Aside0.mk (hb); replace HI0 := Aside0.mk (hi); (try clear hb); (try clear hb2); (try clear hk); (try clear hi); (try clear ho0)) | ((with_reducible refine gate_callee (f := 71) rfl ?_); refine goesL_ (some 7) rfl rfl Try.func71 (by kernel_rfl) rfl #[.pointer (some ⟨g, 0, none⟩), .int .i64 12] rfl (by (try simp only [List.map_toArray, List.map_cons, List.map_nil]); first | done | rfl | (simp only [List.length_drop, List.length_take]; rfl)) ?_; (with_reducible refine (spec_l6Rd_pick.calls k g s0_0 t502 12 t503 t504 w0 _ ?side1 ?side2 A3.out).mono ?_); (case side1 => repeat (with_reducible first | exact HI0.out | apply sA | apply sN | apply sD | apply sS)); (case side2 => repeat (with_reducible first | exact HB.out | apply bA | apply bN | apply b1 | refine below_set ?_ (IsS84.ge HI0.out))); rintro e w16 ⟨rfl, hi, hb, hk⟩; refine ⟨_, rfl, ?_⟩; replace HO501 := Aside0.mk (Kd.R_mono (Kd.R_keep (IsS84.apart (show IsS84 w0 _ g s0_0 t502 from by repeat (with_reducible first | exact HI0.out | apply sA | apply sN | apply sD | apply sS)) (by exact rU HO501.out) (by decide)) hk (fun _ h => h.2)) (fun _ h => h.1)); replace HK := Aside0.mk (KeepBut.trans (by repeat (with_reducible first | exact HK.out | apply pS | apply pN | apply pD | apply pA)) hk (.inl rfl)); replace HB := Aside0.mk (hb); replace HI0 := Aside0.mk (hi); (try clear hb); (try clear hb2); (try clear hk); (try clear hi); obtain ⟨Ao17, co17, eo17⟩ := Kd.R_slice HO501.out; subst eo17) | ((with_reducible refine gate_callee (f := 71) rfl ?_); refine goesL_ (some 18) rfl rfl Try.func71 (by kernel_rfl) rfl #[.pointer (some ⟨g, 0, none⟩), .int .i64 (t499.length : Int)] rfl (by (try simp only [List.map_toArray, List.map_cons, List.map_nil]); first | done | rfl | (simp only [List.length_drop, List.length_take]; rfl)) ?_; (with_reducible refine (spec_l6Rd_pick.calls k g s0_0 t504 (t499.length : Int) t509 t510 w0 _ ?side1 ?side2 A10.out).mono ?_); (case side1 => repeat (with_reducible first | exact HI0.out | apply sA | apply sN | apply sD | apply sS)); (case side2 => repeat (with_reducible first | exact HB.out | apply bA | apply bN | apply b1 | refine below_set ?_ (IsS84.ge HI0.out))); rintro e w18 ⟨rfl, hi, hb, hk⟩; refine ⟨_, rfl, ?_⟩; replace HO501 := Aside0.mk (Kd.R_mono (Kd.R_keep (IsS84.apart (show IsS84 w0 _ g s0_0 t504 from by repeat (with_reducible first | exact HI0.out | apply sA | apply sN | apply sD | apply sS)) (by exact rU HO501.out) (by decide)) hk (fun _ h => h.2)) (fun _ h => h.1)); replace HK := Aside0.mk (KeepBut.trans (by repeat (with_reducible first | exact HK.out | apply pS | apply pN | apply pD | apply pA)) hk (.inl rfl)); replace HB := Aside0.mk (hb); replace HI0 := Aside0.mk (hi); (try clear hb); (try clear hb2); (try clear hk); (try clear hi)) | ((with_reducible refine gate_callee (f := 70) rfl ?_); refine goesL_ (some 20) rfl rfl Try.func70 (by kernel_rfl) rfl #[.pointer (some ⟨g, 0, none⟩)] rfl (by (try simp only [List.map_toArray, List.map_cons, List.map_nil]); first | done | rfl | (simp only [List.length_drop, List.length_take]; rfl)) ?_; (with_reducible refine (spec_l71AnyOp.calls k g s0_0 t510 t511 t512 t513 t514 t515 t516 t517 w0 _ ?side1 ?side2 A11.out).mono ?_); (case side1 => repeat (with_reducible first | exact HI0.out | apply sA | apply sN | apply sD | apply sS)); (case side2 => repeat (with_reducible first | exact HB.out | apply bA | apply bN | apply b1 | refine below_set ?_ (IsS84.ge HI0.out))); rintro e w19 ⟨rfl, hi, hb, hk⟩; refine ⟨_, rfl, ?_⟩; replace HO501 := Aside0.mk (Kd.R_mono (Kd.R_keep (IsS84.apart (show IsS84 w0 _ g s0_0 t510 from by repeat (with_reducible first | exact HI0.out | apply sA | apply sN | apply sD | apply sS)) (by exact rU HO501.out) (by decide)) hk (fun _ h => h.2)) (fun _ h => h.1)); replace HK := Aside0.mk (KeepBut.trans (by repeat (with_reducible first | exact HK.out | apply pS | apply pN | apply pD | apply pA)) hk (.inl rfl)); replace HB := Aside0.mk (hb); replace HI0 := Aside0.mk (hi); (try clear hb); (try clear hb2); (try clear hk); (try clear hi); have p14 : 0 ≤ (t509 : Int) := of_decide_eq_true (by assumption); have q14 : (t509 : Int) < ((t499.length : Int) : Int) := of_decide_eq_true (by assumption); obtain ⟨go14, co14, eo14, gb14, gl14, cl14, HG14⟩ := Kd.R_form HO501.out (by omega); (first | cases eo14 | (injection eo14 with ea_ en_ ec_; (first | subst ea_ | (injection ea_ with ea_; subst ea_)); subst ec_; clear en_)); have GB14 := Aside0.mk gb14; have GG14 := Aside0.mk HG14; clear gb14 gl14 HG14; obtain ⟨ce14, hcl14, hM14, hcc14, hfr14⟩ := Kd.R_elem HO501.out z29 (t509 : Int) p14 q14; obtain rfl := k29_openM hM14; have hx14_0 : w19.cell? ⟨go14, (t509 : Int).toNat * 6, none⟩ = some (.int .i64 ((rd_T29 t499 t509).f0)) := hcc14 0 _ rfl; have hx14_1 : w19.cell? ⟨go14, (t509 : Int).toNat * 6 + 1, none⟩ = some (.int .i64 ((rd_T29 t499 t509).f1)) := hcc14 1 _ rfl; have hx14_2 : w19.cell? ⟨go14, (t509 : Int).toNat * 6 + 2, none⟩ = some (.int .i64 ((rd_T29 t499 t509).f2)) := hcc14 2 _ rfl; have hx14_3 : w19.cell? ⟨go14, (t509 : Int).toNat * 6 + 3, none⟩ = some (.int .i64 ((rd_T29 t499 t509).f3)) := hcc14 3 _ rfl; have hx14_4 : w19.cell? ⟨go14, (t509 : Int).toNat * 6 + 4, none⟩ = some (.int .i64 ((rd_T29 t499 t509).f4.f0)) := hcc14 4 _ rfl; have hx14_5 : w19.cell? ⟨go14, (t509 : Int).toNat * 6 + 5, none⟩ = some (.int .i64 ((rd_T29 t499 t509).f4.f1)) := hcc14 5 _ rfl; have hf14_0 : w19.frozen? ⟨go14, (t509 : Int).toNat * 6, none⟩ = false := hfr14 0; have hf14_1 : w19.frozen? ⟨go14, (t509 : Int).toNat * 6 + 1, none⟩ = false := hfr14 1; have hf14_2 : w19.frozen? ⟨go14, (t509 : Int).toNat * 6 + 2, none⟩ = false := hfr14 2; have hf14_3 : w19.frozen? ⟨go14, (t509 : Int).toNat * 6 + 3, none⟩ = false := hfr14 3; have hf14_4 : w19.frozen? ⟨go14, (t509 : Int).toNat * 6 + 4, none⟩ = false := hfr14 4; have hf14_5 : w19.frozen? ⟨go14, (t509 : Int).toNat * 6 + 5, none⟩ = false := hfr14 5; clear hcl14 hcc14 hfr14 hM14; replace p14 := eq_true p14; replace q14 := eq_true q14; have HX20 := Aside0.mk (show Kd.R k29 29 w19 w.heap.size (fun _ => True) (.slice (some ⟨go14, 0, none⟩) t499.length co17) t499 from (by exact rU HO501.out)); obtain ⟨ce20, hcl20, hM20, hcc20, hfr20⟩ := Kd.R_elem HX20.out z29 (t509 : Int) (of_decide_eq_true (by assumption)) (by have h_ : (t509 : Int) < ((t499.length : Int) : Int) := of_decide_eq_true (by assumption); first | exact h_ | (have e_ := (Kd.R_reads' HO501.out).1; omega) | simpa using h_); obtain rfl := k29_openM hM20; have HP20 := Kd.R_seg HX20.out (t509 : Int) (of_decide_eq_true (by assumption)) (by have h_ : (t509 : Int) < ((t499.length : Int) : Int) := of_decide_eq_true (by assumption); first | exact h_ | (have e_ := (Kd.R_reads' HO501.out).1; omega) | simpa using h_) (seg := [.int .i64 t511, .int .i64 t512, .int .i64 t513, .int .i64 t514, .int .i64 t515, .int .i64 t516]) (j := 0) hcl20 hcc20 (show 6 ≤ 6 from by decide) (x' := (⟨t511, t512, t513, t514, (⟨t515, t516⟩ : S27)⟩ : S29)) (k29_mkM _ _ _ (⟨t511, t512, t513, t514, (⟨t515, t516⟩ : S27)⟩ : S29) ) (fun _ hk => hk); have hx20_0 := hcc20 0 _ rfl; (try simp only [show (k29).sz = 6 from rfl, Nat.mul_one, Nat.add_zero] at hx20_0); have hf20_0 := hfr20 0; (try simp only [show (k29).sz = 6 from rfl, Nat.mul_one, Nat.add_zero] at hf20_0); have hx20_1 := hcc20 1 _ rfl; (try simp only [show (k29).sz = 6 from rfl, Nat.mul_one, Nat.add_zero] at hx20_1); have hf20_1 := hfr20 1; (try simp only [show (k29).sz = 6 from rfl, Nat.mul_one, Nat.add_zero] at hf20_1); have hx20_2 := hcc20 2 _ rfl; (try simp only [show (k29).sz = 6 from rfl, Nat.mul_one, Nat.add_zero] at hx20_2); have hf20_2 := hfr20 2; (try simp only [show (k29).sz = 6 from rfl, Nat.mul_one, Nat.add_zero] at hf20_2); have hx20_3 := hcc20 3 _ rfl; (try simp only [show (k29).sz = 6 from rfl, Nat.mul_one, Nat.add_zero] at hx20_3); have hf20_3 := hfr20 3; (try simp only [show (k29).sz = 6 from rfl, Nat.mul_one, Nat.add_zero] at hf20_3); have hx20_4 := hcc20 4 _ rfl; (try simp only [show (k29).sz = 6 from rfl, Nat.mul_one, Nat.add_zero] at hx20_4); have hf20_4 := hfr20 4; (try simp only [show (k29).sz = 6 from rfl, Nat.mul_one, Nat.add_zero] at hf20_4); have hx20_5 := hcc20 5 _ rfl; (try simp only [show (k29).sz = 6 from rfl, Nat.mul_one, Nat.add_zero] at hx20_5); have hf20_5 := hfr20 5; (try simp only [show (k29).sz = 6 from rfl, Nat.mul_one, Nat.add_zero] at hf20_5); clear hcl20 hcc20 hfr20 hM20) | ((with_reducible refine gate_store (t := 29) (p := 21) rfl ?_); refine store_event (t := 29) (p := 21) (v := ?vo_w21) (w1 := ((((((w19.setCell ⟨go14, (t509 : Int).toNat * 6, none⟩ (.int .i64 t511)).setCell ⟨go14, (t509 : Int).toNat * 6 + 1, none⟩ (.int .i64 t512)).setCell ⟨go14, (t509 : Int).toNat * 6 + 2, none⟩ (.int .i64 t513)).setCell ⟨go14, (t509 : Int).toNat * 6 + 3, none⟩ (.int .i64 t514)).setCell ⟨go14, (t509 : Int).toNat * 6 + 4, none⟩ (.int .i64 t515)).setCell ⟨go14, (t509 : Int).toNat * 6 + 5, none⟩ (.int .i64 t516))) ?hg ?ho ?hn ?hr ?_; (case ho => rfl); (case hg => rfl); (case hn => rfl); (case hr => first | (go_simp; done) | (go_simp; rfl)); intro w21 hw; have hg : w19.grownBy w21 (some go14) := (by rw [hw]; exact HP20.2); have hp_ : Kd.R k29 29 w21 w.heap.size (fun _ => True) (.slice (some ⟨go14, 0, none⟩) t499.length co17) y518 := (by rw [hw, Ny518.out]; exact HP20.1); clear HP20; have n0_ := Aside0.mk (IsS84.grown (by repeat (with_reducible first | exact HI0.out | apply sA | apply sN | apply sD | apply sS)) hg (IsS84.own_ne HI0.out HO501.out (by decide))); have n1_ := Aside0.mk (hp_); have n2_ := Aside0.mk ((by rw [hw]; exact below_set (below_set (below_set (below_set (below_set (below_set (HB.out) (Nat.le_trans HL.out GB14.out)) (Nat.le_trans HL.out GB14.out)) (Nat.le_trans HL.out GB14.out)) (Nat.le_trans HL.out GB14.out)) (Nat.le_trans HL.out GB14.out)) (Nat.le_trans HL.out GB14.out) : Below w0.heap.size w0 w21)); have n3_ := Aside0.mk (KeepBut.trans (by repeat (with_reducible first | exact HK.out | apply pS | apply pN | apply pD | apply pA)) (KeepBut.of_grown hg g) (Kd.R_base2 HO501.out)); clear HI0; clear HO501; clear HB; clear HK; have HI0 := n0_; have HO501 := n1_; have HB := n2_; have HK := n3_; clear n0_ n1_ n2_ n3_; clear hg hw hp_))
     go_ret
     exact ⟨_, by first | rfl | (simp [errW_none, errW_some] <;> rfl) | (simp [*, errW_none, errW_some] <;> rfl), by exact rU HO501.out, by repeat (with_reducible first | exact HI0.out | apply sA | apply sN | apply sD | apply sS), by repeat (with_reducible first | exact HB.out | apply bA | apply bN | apply b1 | refine below_set ?_ (IsS84.ge HI0.out)), by repeat (with_reducible first | exact HK.out | apply pS | apply pN | apply pD | apply pA)⟩
    ·rw [if_neg c13] at H
     exact absurd H (by simp)
   ·rw [if_neg c12] at H
    exact absurd H (by simp)
  ·rw [if_neg c9] at H
   have c9b0 : (t503 == 1) = false := beq_eq_false_iff_ne.mpr c9
   have c9b1 : (t503 != 1) = true := bne_iff_ne.mpr c9
   by_cases c22 : t503 = 2
   ·rw [if_pos c22] at H
    have c22b0 : (t503 == 2) = true := beq_iff_eq.mpr c22
    have c22b1 : (t503 != 2) = false := bne_eq_false_iff_eq.mpr c22
    clear c22
    replace H := Option.bind_eq_some_iff.mp H
    obtain ⟨⟨t519, t520⟩, A230, H⟩ := H
    replace H : (if 0 ≤ t519 then (if t519 ≤ (t499.length : Int) then (some ((t499.take (t519 : Int).toNat), t520)) else (none)) else (none)) = some (r1, r2) := H
    have A23 := Aside0.mk A230
    clear A230
    by_cases c24 : 0 ≤ t519
    ·rw [if_pos c24] at H
     have c24b0 := eq_true c24
     have c24b1 : decide (0 ≤ t519) = true := decide_eq_true c24
     clear c24
     by_cases c25 : t519 ≤ (t499.length : Int)
     ·rw [if_pos c25] at H
      have c25b0 := eq_true c25
      have c25b1 : decide (t519 ≤ (t499.length : Int)) = true := decide_eq_true c25
      clear c25
      obtain ⟨y521, hy521⟩ : ∃ y_ : List (S29), y_ = (t499.take (t519 : Int).toNat) := ⟨_, rfl⟩
      replace H : (some (y521, t520)) = some (r1, r2) := by first | (rw [hy521]; with_reducible exact H) | (have H2_ := (Option.bind_some _ _).symm.trans H; rw [hy521]; with_reducible exact H2_) | (have H2_ := (Option.bind_some _ _).symm.trans H; with_reducible exact H2_) | with_reducible exact H | (rw [hy521]; exact H) | exact H
      have Ny521 := Aside0.mk hy521
      clear hy521
      simp only [Option.some.injEq, Prod.mk.injEq] at H
      obtain ⟨rfl, rfl⟩ := H
      go_enter Try.func85, Try.ntmps85
      go_wp2_with (first | ((with_reducible refine gate_callee (f := 101) rfl ?_); refine goesL_ (some 5) rfl rfl Try.func101 (by kernel_rfl) rfl #[.pointer (some ⟨g, 0, none⟩)] rfl (by (try simp only [List.map_toArray, List.map_cons, List.map_nil]); first | done | rfl | (simp only [List.length_drop, List.length_take]; rfl)) ?_; (with_reducible refine (spec_l71Safe.calls k g s0_0 s0_1 t499 t502 w0 _ ?side1 ?side2 A2.out).mono ?_); (case side1 => repeat (with_reducible first | exact HI0.out | apply sA | apply sN | apply sD | apply sS)); (case side2 => repeat (with_reducible first | exact HB.out | apply bA | apply bN | apply b1 | refine below_set ?_ (IsS84.ge HI0.out))); rintro e w26 ⟨v500, rfl, ho0, hi, hb, hk⟩; refine ⟨_, rfl, ?_⟩; have HO501 := Aside0.mk (Kd.R_lower ho0 (keep_size (w := w) (g := g) (row := none) (by repeat (with_reducible first | exact HK.out | apply pS | apply pN | apply pD | apply pA)))); replace HK := Aside0.mk (KeepBut.trans (by repeat (with_reducible first | exact HK.out | apply pS | apply pN | apply pD | apply pA)) hk (.inl rfl)); replace HB := Aside0.mk (hb); replace HI0 := Aside0.mk (hi); (try clear hb); (try clear hb2); (try clear hk); (try clear hi); (try clear ho0)) | ((with_reducible refine gate_callee (f := 71) rfl ?_); refine goesL_ (some 7) rfl rfl Try.func71 (by kernel_rfl) rfl #[.pointer (some ⟨g, 0, none⟩), .int .i64 12] rfl (by (try simp only [List.map_toArray, List.map_cons, List.map_nil]); first | done | rfl | (simp only [List.length_drop, List.length_take]; rfl)) ?_; (with_reducible refine (spec_l6Rd_pick.calls k g s0_0 t502 12 t503 t504 w0 _ ?side1 ?side2 A3.out).mono ?_); (case side1 => repeat (with_reducible first | exact HI0.out | apply sA | apply sN | apply sD | apply sS)); (case side2 => repeat (with_reducible first | exact HB.out | apply bA | apply bN | apply b1 | refine below_set ?_ (IsS84.ge HI0.out))); rintro e w27 ⟨rfl, hi, hb, hk⟩; refine ⟨_, rfl, ?_⟩; replace HO501 := Aside0.mk (Kd.R_mono (Kd.R_keep (IsS84.apart (show IsS84 w0 _ g s0_0 t502 from by repeat (with_reducible first | exact HI0.out | apply sA | apply sN | apply sD | apply sS)) (by exact rU HO501.out) (by decide)) hk (fun _ h => h.2)) (fun _ h => h.1)); replace HK := Aside0.mk (KeepBut.trans (by repeat (with_reducible first | exact HK.out | apply pS | apply pN | apply pD | apply pA)) hk (.inl rfl)); replace HB := Aside0.mk (hb); replace HI0 := Aside0.mk (hi); (try clear hb); (try clear hb2); (try clear hk); (try clear hi); obtain ⟨Ao28, co28, eo28⟩ := Kd.R_slice HO501.out; subst eo28) | ((with_reducible refine gate_callee (f := 71) rfl ?_); refine goesL_ (some 29) rfl rfl Try.func71 (by kernel_rfl) rfl #[.pointer (some ⟨g, 0, none⟩), .int .i64 (wrap64 ((t499.length : Int) + 1))] rfl (by (try simp only [List.map_toArray, List.map_cons, List.map_nil]); first | done | rfl | (simp only [List.length_drop, List.length_take]; rfl)) ?_; (with_reducible refine (spec_l6Rd_pick.calls k g s0_0 t504 (wrap64 ((t499.length : Int) + 1)) t519 t520 w0 _ ?side1 ?side2 A23.out).mono ?_); (case side1 => repeat (with_reducible first | exact HI0.out | apply sA | apply sN | apply sD | apply sS)); (case side2 => repeat (with_reducible first | exact HB.out | apply bA | apply bN | apply b1 | refine below_set ?_ (IsS84.ge HI0.out))); rintro e w29 ⟨rfl, hi, hb, hk⟩; refine ⟨_, rfl, ?_⟩; replace HO501 := Aside0.mk (Kd.R_mono (Kd.R_keep (IsS84.apart (show IsS84 w0 _ g s0_0 t504 from by repeat (with_reducible first | exact HI0.out | apply sA | apply sN | apply sD | apply sS)) (by exact rU HO501.out) (by decide)) hk (fun _ h => h.2)) (fun _ h => h.1)); replace HK := Aside0.mk (KeepBut.trans (by repeat (with_reducible first | exact HK.out | apply pS | apply pN | apply pD | apply pA)) hk (.inl rfl)); replace HB := Aside0.mk (hb); replace HI0 := Aside0.mk (hi); (try clear hb); (try clear hb2); (try clear hk); (try clear hi); have q30 : (t519 : Int) ≤ ((t499.length : Int) : Int) := of_decide_eq_true (by assumption); obtain ⟨i030, hi030, _, hsz30, _⟩ := info_parts info29; have hcut30 := cut_to (P := Try.prog) 42 29 .i64 Try.underlying42 hi030 Ao28 t499.length co28 t519 (of_decide_eq_true (by assumption)) q30 (Kd.R_reads' HO501.out).2.1; have hr30 := Kd.R_take (m := (t519 : Int).toNat) HO501.out (by omega); have hy30 : y521.length = (t519 : Int).toNat := (by rw [Ny521.out, List.length_take]; omega); rw [← Ny521.out] at hr30; rw [← hy30] at hr30 hcut30; clear hy30 hi030 hsz30 HO501; have HO523 := Aside0.mk hr30; clear hr30; replace q30 := eq_true q30))
      go_ret
      exact ⟨_, by first | rfl | (simp [errW_none, errW_some] <;> rfl) | (simp [*, errW_none, errW_some] <;> rfl), by exact rU HO523.out, by repeat (with_reducible first | exact HI0.out | apply sA | apply sN | apply sD | apply sS), by repeat (with_reducible first | exact HB.out | apply bA | apply bN | apply b1 | refine below_set ?_ (IsS84.ge HI0.out)), by repeat (with_reducible first | exact HK.out | apply pS | apply pN | apply pD | apply pA)⟩
     ·rw [if_neg c25] at H
      exact absurd H (by simp)
    ·rw [if_neg c24] at H
     exact absurd H (by simp)
   ·rw [if_neg c22] at H
    have c22b0 : (t503 == 2) = false := beq_eq_false_iff_ne.mpr c22
    have c22b1 : (t503 != 2) = true := bne_iff_ne.mpr c22
    by_cases c31 : t503 = 3
    ·rw [if_pos c31] at H
     have c31b0 : (t503 == 3) = true := beq_iff_eq.mpr c31
     have c31b1 : (t503 != 3) = false := bne_eq_false_iff_eq.mpr c31
     clear c31
     have H' := Aside0.mk H
     clear H
     go_enter Try.func85, Try.ntmps85
     go_wp2_with (first | ((with_reducible refine gate_callee (f := 101) rfl ?_); refine goesL_ (some 5) rfl rfl Try.func101 (by kernel_rfl) rfl #[.pointer (some ⟨g, 0, none⟩)] rfl (by (try simp only [List.map_toArray, List.map_cons, List.map_nil]); first | done | rfl | (simp only [List.length_drop, List.length_take]; rfl)) ?_; (with_reducible refine (spec_l71Safe.calls k g s0_0 s0_1 t499 t502 w0 _ ?side1 ?side2 A2.out).mono ?_); (case side1 => repeat (with_reducible first | exact HI0.out | apply sA | apply sN | apply sD | apply sS)); (case side2 => repeat (with_reducible first | exact HB.out | apply bA | apply bN | apply b1 | refine below_set ?_ (IsS84.ge HI0.out))); rintro e w32 ⟨v500, rfl, ho0, hi, hb, hk⟩; refine ⟨_, rfl, ?_⟩; have HO501 := Aside0.mk (Kd.R_lower ho0 (keep_size (w := w) (g := g) (row := none) (by repeat (with_reducible first | exact HK.out | apply pS | apply pN | apply pD | apply pA)))); replace HK := Aside0.mk (KeepBut.trans (by repeat (with_reducible first | exact HK.out | apply pS | apply pN | apply pD | apply pA)) hk (.inl rfl)); replace HB := Aside0.mk (hb); replace HI0 := Aside0.mk (hi); (try clear hb); (try clear hb2); (try clear hk); (try clear hi); (try clear ho0)) | ((with_reducible refine gate_callee (f := 71) rfl ?_); refine goesL_ (some 7) rfl rfl Try.func71 (by kernel_rfl) rfl #[.pointer (some ⟨g, 0, none⟩), .int .i64 12] rfl (by (try simp only [List.map_toArray, List.map_cons, List.map_nil]); first | done | rfl | (simp only [List.length_drop, List.length_take]; rfl)) ?_; (with_reducible refine (spec_l6Rd_pick.calls k g s0_0 t502 12 t503 t504 w0 _ ?side1 ?side2 A3.out).mono ?_); (case side1 => repeat (with_reducible first | exact HI0.out | apply sA | apply sN | apply sD | apply sS)); (case side2 => repeat (with_reducible first | exact HB.out | apply bA | apply bN | apply b1 | refine below_set ?_ (IsS84.ge HI0.out))); rintro e w33 ⟨rfl, hi, hb, hk⟩; refine ⟨_, rfl, ?_⟩; replace HO501 := Aside0.mk (Kd.R_mono (Kd.R_keep (IsS84.apart (show IsS84 w0 _ g s0_0 t502 from by repeat (with_reducible first | exact HI0.out | apply sA | apply sN | apply sD | apply sS)) (by exact rU HO501.out) (by decide)) hk (fun _ h => h.2)) (fun _ h => h.1)); replace HK := Aside0.mk (KeepBut.trans (by repeat (with_reducible first | exact HK.out | apply pS | apply pN | apply pD | apply pA)) hk (.inl rfl)); replace HB := Aside0.mk (hb); replace HI0 := Aside0.mk (hi); (try clear hb); (try clear hb2); (try clear hk); (try clear hi)))
     go_loopg [3] k (fun kq v3 w' => ∃ (x3_1 : List (S29)) (x1001_1 : Int), Aside0 (spec_l71Code.l0 kq x3_1 s0_0 x1001_1 = some (r1, r2)) ∧ Aside0 (kq ≤ k) ∧ Aside0 (Kd.R k29 29 w' w.heap.size (fun _ => True) v3 x3_1) ∧ Aside0 (IsS84 w0 w' g s0_0 x1001_1) ∧ Aside0 (KeepBut w w' g none) ∧ Aside0 (Below w0.heap.size w0 w'))
     case atStart => exact ⟨(t499), (t504), H', ⟨Nat.le_refl _⟩, ⟨by exact rU HO501.out⟩, ⟨by repeat (with_reducible first | exact HI0.out | apply sA | apply sN | apply sD | apply sS)⟩, ⟨by repeat (with_reducible first | exact HK.out | apply pS | apply pN | apply pD | apply pA)⟩, ⟨by repeat (with_reducible first | exact HB.out | apply bA | apply bN | apply b1 | refine below_set ?_ (IsS84.ge HI0.out))⟩⟩
     case round =>
      clear H'
      (try clear c1); (try clear p1); (try clear q1); (try clear hx1); (try clear hf1); (try clear c2); (try clear p2); (try clear hx2); (try clear hf2); (try clear c3); (try clear q3); (try clear c4); (try clear c4b0); (try clear c4b1); (try clear p6); (try clear c7); (try clear c8); (try clear c9); (try clear c9b0); (try clear c9b1); (try clear c10); (try clear c12); (try clear c12b0); (try clear c13); (try clear c13b0); (try clear c14); (try clear p14); (try clear q14); (try clear hx14); (try clear hf14); (try clear c20); (try clear hx20); (try clear hf20); (try clear c22); (try clear c22b0); (try clear c22b1); (try clear c24); (try clear c24b0); (try clear c24b1); (try clear c25); (try clear c25b0); (try clear c25b1); (try clear q30); (try clear c31); (try clear c31b0); (try clear c31b1); (try clear hx14_0); (try clear hx14_1); (try clear hx14_2); (try clear hx14_3); (try clear hx14_4); (try clear hx14_5); (try clear hx20_0); (try clear hx20_1); (try clear hx20_2); (try clear hx20_3); (try clear hx20_4); (try clear hx20_5); (try clear p14); (try clear q14); (try clear q30)
      obtain ⟨x3_1, x1001_1, HA, HK1, HO_3, HI0, HK, HB⟩ := hrel
      cases gk with
      | zero => exact absurd HA.out (by simp [spec_l71Code.l0])
      | succ k1 =>
       have H := HA.out
       clear HA
       simp only [spec_l71Code.l0] at H
       replace H := Option.bind_eq_some_iff.mp H
       obtain ⟨⟨t524, t525⟩, A340, H⟩ := H
       replace H : (if (x3_1.length : Int) < (wrap64 (16 + t524)) then (if x3_1.length < 2932031007402 then (spec_l71Code.l0 k1 (x3_1 ++ [(⟨14, 0, 0, 0, (⟨0, 0⟩ : S27)⟩ : S29)]) s0_0 t525) else (none)) else (some (x3_1, t525))) = some (r1, r2) := H
       have A34 := Aside0.mk A340
       clear A340
       by_cases c35 : (x3_1.length : Int) < (wrap64 (16 + t524))
       ·rw [if_pos c35] at H
        have c35b0 : decide ((x3_1.length : Int) < (wrap64 (16 + t524))) = true := decide_eq_true c35
        clear c35
        by_cases c36 : x3_1.length < 2932031007402
        ·rw [if_pos c36] at H
         have LMc36 := Aside0.mk c36
         clear c36
         obtain ⟨y526, hy526⟩ : ∃ y_ : List (S29), y_ = (x3_1 ++ [(⟨14, 0, 0, 0, (⟨0, 0⟩ : S27)⟩ : S29)]) := ⟨_, rfl⟩
         replace H : (spec_l71Code.l0 k1 y526 s0_0 t525) = some (r1, r2) := by first | (rw [hy526]; with_reducible exact H) | (have H2_ := (Option.bind_some _ _).symm.trans H; rw [hy526]; with_reducible exact H2_) | (have H2_ := (Option.bind_some _ _).symm.trans H; with_reducible exact H2_) | with_reducible exact H | (rw [hy526]; exact H) | exact H
         have Ny526 := Aside0.mk hy526
         clear hy526
         have H' := Aside0.mk H
         clear H
         obtain ⟨Ao37, co37, eo37⟩ := Kd.R_slice HO_3.out
         subst eo37
         go_wp2_with (first | ((with_reducible refine gate_callee (f := 71) rfl ?_); refine goesL_ (some 36) rfl rfl Try.func71 (by kernel_rfl) rfl #[.pointer (some ⟨g, 0, none⟩), .int .i64 2] rfl (by (try simp only [List.map_toArray, List.map_cons, List.map_nil]); first | done | rfl | (simp only [List.length_drop, List.length_take]; rfl)) ?_; (with_reducible refine (spec_l6Rd_pick.calls k1 g s0_0 x1001_1 2 t524 t525 w0 _ ?side1 ?side2 A34.out).mono ?_); (case side1 => repeat (with_reducible first | exact HI0.out | apply sA | apply sN | apply sD | apply sS)); (case side2 => repeat (with_reducible first | exact HB.out | apply bA | apply bN | apply b1 | refine below_set ?_ (IsS84.ge HI0.out))); rintro e w38 ⟨rfl, hi, hb, hk⟩; refine ⟨_, rfl, ?_⟩; replace HO_3 := Aside0.mk (Kd.R_mono (Kd.R_keep (IsS84.apart (show IsS84 w0 _ g s0_0 x1001_1 from by repeat (with_reducible first | exact HI0.out | apply sA | apply sN | apply sD | apply sS)) (by exact rU HO_3.out) (by decide)) hk (fun _ h => h.2)) (fun _ h => h.1)); replace HK := Aside0.mk (KeepBut.trans (by repeat (with_reducible first | exact HK.out | apply pS | apply pN | apply pD | apply pA)) hk (.inl rfl)); replace HB := Aside0.mk (hb); replace HI0 := Aside0.mk (hi); (try clear hb); (try clear hb2); (try clear hk); (try clear hi)) | ((with_reducible refine gate_builtin (b := .append) (xs := #[.tmp 39, .tmp 41]) rfl ?_); at_builtin; refine Kd.R_append k29 w.heap.size rfl (.tmp 39) (.tmp 41) 42 29 (.agg #[(.int .i64 0), (.int .i64 0), (.int .i64 0), (.int .i64 0), (.int .i64 0), (.int .i64 0)]) 48 rfl Try.underlying42 info29 rfl (by decide) (by omega) (.slice Ao37 x3_1.length co37) x3_1 (⟨14, 0, 0, 0, (⟨0, 0⟩ : S27)⟩ : S29) [.int .i64 14, .int .i64 0, .int .i64 0, .int .i64 0, .int .i64 0, .int .i64 0] (fun _ => True) (fun _ => False) rfl rfl ?aP (fun _ hk => hk.elim) ?aF ?aO (Below.refl _ _) ?aS ?aL ?_; (case aP => exact k29_mkM _ _ _ (⟨14, 0, 0, 0, (⟨0, 0⟩ : S27)⟩ : S29)); (case aF => exact (fun _ _ => trivial)); (case aO => exact (by exact rU HO_3.out)); (case aS => exact (keep_size (w := w) (g := g) (row := none) (by repeat (with_reducible first | exact HK.out | apply pS | apply pN | apply pD | apply pA)))); (case aL => have := LMc36.out; omega); intro v527 w39 ho hb hg hat; rw [← Ny526.out] at ho; have n0_ := Aside0.mk (IsS84.grown (by repeat (with_reducible first | exact HI0.out | apply sA | apply sN | apply sD | apply sS)) hg (IsS84.own_ne HI0.out HO_3.out (by decide))); have n1_ := Aside0.mk (below_weaken (by repeat (with_reducible first | exact HB.out | apply bA | apply bN | apply b1 | refine below_set ?_ (IsS84.ge HI0.out))) HL.out hb); have n2_ := Aside0.mk (KeepBut.trans (by repeat (with_reducible first | exact HK.out | apply pS | apply pN | apply pD | apply pA)) (KeepBut.of_grown hg g) (Kd.R_base2 HO_3.out)); have n3_ := Aside0.mk (ho); clear HI0; clear HB; clear HK; clear HO_3; have HI0 := n0_; have HB := n1_; have HK := n2_; have HO528 := n3_; clear n0_ n1_ n2_ n3_; clear ho hb hg hat))
         go_roundg k1
         case measure => have := HK1.out; omega
         case rel => exact ⟨(y526), (t525), H', ⟨by have := HK1.out; omega⟩, ⟨by exact rU HO528.out⟩, ⟨by repeat (with_reducible first | exact HI0.out | apply sA | apply sN | apply sD | apply sS)⟩, ⟨by repeat (with_reducible first | exact HK.out | apply pS | apply pN | apply pD | apply pA)⟩, ⟨by repeat (with_reducible first | exact HB.out | apply bA | apply bN | apply b1 | refine below_set ?_ (IsS84.ge HI0.out))⟩⟩
        ·rw [if_neg c36] at H
         exact absurd H (by simp)
       ·rw [if_neg c35] at H
        have c35b0 : decide ((x3_1.length : Int) < (wrap64 (16 + t524))) = false := decide_eq_false c35
        clear c35
        simp only [Option.some.injEq, Prod.mk.injEq] at H
        obtain ⟨rfl, rfl⟩ := H
        obtain ⟨Ao40, co40, eo40⟩ := Kd.R_slice HO_3.out
        subst eo40
        go_wp2_with (first | ((with_reducible refine gate_callee (f := 71) rfl ?_); refine goesL_ (some 36) rfl rfl Try.func71 (by kernel_rfl) rfl #[.pointer (some ⟨g, 0, none⟩), .int .i64 2] rfl (by (try simp only [List.map_toArray, List.map_cons, List.map_nil]); first | done | rfl | (simp only [List.length_drop, List.length_take]; rfl)) ?_; (with_reducible refine (spec_l6Rd_pick.calls k1 g s0_0 x1001_1 2 t524 t525 w0 _ ?side1 ?side2 A34.out).mono ?_); (case side1 => repeat (with_reducible first | exact HI0.out | apply sA | apply sN | apply sD | apply sS)); (case side2 => repeat (with_reducible first | exact HB.out | apply bA | apply bN | apply b1 | refine below_set ?_ (IsS84.ge HI0.out))); rintro e w41 ⟨rfl, hi, hb, hk⟩; refine ⟨_, rfl, ?_⟩; replace HO_3 := Aside0.mk (Kd.R_mono (Kd.R_keep (IsS84.apart (show IsS84 w0 _ g s0_0 x1001_1 from by repeat (with_reducible first | exact HI0.out | apply sA | apply sN | apply sD | apply sS)) (by exact rU HO_3.out) (by decide)) hk (fun _ h => h.2)) (fun _ h => h.1)); replace HK := Aside0.mk (KeepBut.trans (by repeat (with_reducible first | exact HK.out | apply pS | apply pN | apply pD | apply pA)) hk (.inl rfl)); replace HB := Aside0.mk (hb); replace HI0 := Aside0.mk (hi); (try clear hb); (try clear hb2); (try clear hk); (try clear hi)))
        go_ret
        exact ⟨_, by first | rfl | (simp [errW_none, errW_some] <;> rfl) | (simp [*, errW_none, errW_some] <;> rfl), by exact rU HO_3.out, by repeat (with_reducible first | exact HI0.out | apply sA | apply sN | apply sD | apply sS), by repeat (with_reducible first | exact HB.out | apply bA | apply bN | apply b1 | refine below_set ?_ (IsS84.ge HI0.out)), by repeat (with_reducible first | exact HK.out | apply pS | apply pN | apply pD | apply pA)⟩
    ·rw [if_neg c31] at H
     have c31b0 : (t503 == 3) = false := beq_eq_false_iff_ne.mpr c31
     have c31b1 : (t503 != 3) = true := bne_iff_ne.mpr c31
     simp only [Option.some.injEq, Prod.mk.injEq] at H
     obtain ⟨rfl, rfl⟩ := H
     go_enter Try.func85, Try.ntmps85
     go_wp2_with (first | ((with_reducible refine gate_callee (f := 101) rfl ?_); refine goesL_ (some 5) rfl rfl Try.func101 (by kernel_rfl) rfl #[.pointer (some ⟨g, 0, none⟩)] rfl (by (try simp only [List.map_toArray, List.map_cons, List.map_nil]); first | done | rfl | (simp only [List.length_drop, List.length_take]; rfl)) ?_; (with_reducible refine (spec_l71Safe.calls k g s0_0 s0_1 t499 t502 w0 _ ?side1 ?side2 A2.out).mono ?_); (case side1 => repeat (with_reducible first | exact HI0.out | apply sA | apply sN | apply sD | apply sS)); (case side2 => repeat (with_reducible first | exact HB.out | apply bA | apply bN | apply b1 | refine below_set ?_ (IsS84.ge HI0.out))); rintro e w42 ⟨v500, rfl, ho0, hi, hb, hk⟩; refine ⟨_, rfl, ?_⟩; have HO501 := Aside0.mk (Kd.R_lower ho0 (keep_size (w := w) (g := g) (row := none) (by repeat (with_reducible first | exact HK.out | apply pS | apply pN | apply pD | apply pA)))); replace HK := Aside0.mk (KeepBut.trans (by repeat (with_reducible first | exact HK.out | apply pS | apply pN | apply pD | apply pA)) hk (.inl rfl)); replace HB := Aside0.mk (hb); replace HI0 := Aside0.mk (hi); (try clear hb); (try clear hb2); (try clear hk); (try clear hi); (try clear ho0)) | ((with_reducible refine gate_callee (f := 71) rfl ?_); refine goesL_ (some 7) rfl rfl Try.func71 (by kernel_rfl) rfl #[.pointer (some ⟨g, 0, none⟩), .int .i64 12] rfl (by (try simp only [List.map_toArray, List.map_cons, List.map_nil]); first | done | rfl | (simp only [List.length_drop, List.length_take]; rfl)) ?_; (with_reducible refine (spec_l6Rd_pick.calls k g s0_0 t502 12 t503 t504 w0 _ ?side1 ?side2 A3.out).mono ?_); (case side1 => repeat (with_reducible first | exact HI0.out | apply sA | apply sN | apply sD | apply sS)); (case side2 => repeat (with_reducible first | exact HB.out | apply bA | apply bN | apply b1 | refine below_set ?_ (IsS84.ge HI0.out))); rintro e w43 ⟨rfl, hi, hb, hk⟩; refine ⟨_, rfl, ?_⟩; replace HO501 := Aside0.mk (Kd.R_mono (Kd.R_keep (IsS84.apart (show IsS84 w0 _ g s0_0 t502 from by repeat (with_reducible first | exact HI0.out | apply sA | apply sN | apply sD | apply sS)) (by exact rU HO501.out) (by decide)) hk (fun _ h => h.2)) (fun _ h => h.1)); replace HK := Aside0.mk (KeepBut.trans (by repeat (with_reducible first | exact HK.out | apply pS | apply pN | apply pD | apply pA)) hk (.inl rfl)); replace HB := Aside0.mk (hb); replace HI0 := Aside0.mk (hi); (try clear hb); (try clear hb2); (try clear hk); (try clear hi)))
     go_ret
     exact ⟨_, by first | rfl | (simp [errW_none, errW_some] <;> rfl) | (simp [*, errW_none, errW_some] <;> rfl), by exact rU HO501.out, by repeat (with_reducible first | exact HI0.out | apply sA | apply sN | apply sD | apply sS), by repeat (with_reducible first | exact HB.out | apply bA | apply bN | apply b1 | refine below_set ?_ (IsS84.ge HI0.out)), by repeat (with_reducible first | exact HK.out | apply pS | apply pN | apply pD | apply pA)⟩
def spec_DrawCodeOk.j0 : Nat → List (S29) → Bool → List Int → Int → Option ((List (S29)))
 | 0, _, _, _, _ => none
 | k + 1, x4, x16, x532000, x532001 => if x16 = true then ((spec_l6Rd_pick.f k x532000 x532001 (x4.length : Int)).bind fun bt538 => ((spec_l71AnyOp.f k x532000 bt538.2).bind fun bt540 => (if 0 ≤ bt538.1 then (if bt538.1 < (x4.length : Int) then (some (x4.set (bt538.1 : Int).toNat (⟨bt540.1, bt540.2.1, bt540.2.2.1, bt540.2.2.2.1, (⟨bt540.2.2.2.2.1, bt540.2.2.2.2.2.1⟩ : S27)⟩ : S29))) else (none)) else (none)))) else (some x4)
def spec_DrawCodeOk.f (k : Nat) (l0 : List Int) : Option ((List (S29))) := (spec_l6Open.f l0).bind fun bt529 => ((spec_l71Code.f k bt529.1 bt529.2).bind fun bt532 => (if (bt532.1.length : Int) > 0 then ((spec_l6Rd_pick.f k bt529.1 bt532.2 4).bind fun bt536 => (spec_DrawCodeOk.j0 k bt532.1 (bt536.1 == 0) bt529.1 bt536.2)) else (spec_DrawCodeOk.j0 k bt532.1 false bt529.1 bt532.2)))
theorem spec_DrawCodeOk.calls (k : Nat) (A0 : Option Addr) (c0 : Nat) (l0 : List Int) (r : List (S29)) (w : World) (hr0 : Kd.C (Kd.int .u8) w A0 l0.length l0) (hc0 : l0.length ≤ c0) (h : spec_DrawCodeOk.f k l0 = some r) :
  Calls Try.prog 47 #[.slice A0 l0.length c0] w fun e w' => ∃ v0_ : Value, e = .returned (v0_) ∧ Kd.R k29 29 w' w.heap.size (fun _ => True) v0_ r ∧ Below w.heap.size w w' := by
 have hu29 := Try.underlying29
 have HR0 := Aside0.mk hr0
 have HC0 := Aside0.mk hc0
 clear hr0 hc0
 have HB := Aside0.mk (Below.refl w.heap.size w)
 have H : ((spec_l6Open.f l0).bind fun bt529 => ((spec_l71Code.f k bt529.1 bt529.2).bind fun bt532 => (if (bt532.1.length : Int) > 0 then ((spec_l6Rd_pick.f k bt529.1 bt532.2 4).bind fun bt536 => (spec_DrawCodeOk.j0 k bt532.1 (bt536.1 == 0) bt529.1 bt536.2)) else (spec_DrawCodeOk.j0 k bt532.1 false bt529.1 bt532.2)))) = some r := h
 clear h
 replace H := Option.bind_eq_some_iff.mp H
 obtain ⟨⟨t529, t530⟩, A20, H⟩ := H
 replace H : ((spec_l71Code.f k t529 t530).bind fun bt532 => (if (bt532.1.length : Int) > 0 then ((spec_l6Rd_pick.f k t529 bt532.2 4).bind fun bt536 => (spec_DrawCodeOk.j0 k bt532.1 (bt536.1 == 0) t529 bt536.2)) else (spec_DrawCodeOk.j0 k bt532.1 false t529 bt532.2))) = some r := H
 have A2 := Aside0.mk A20
 clear A20
 replace H := Option.bind_eq_some_iff.mp H
 obtain ⟨⟨t532, t535⟩, A30, H⟩ := H
 replace H : (if (t532.length : Int) > 0 then ((spec_l6Rd_pick.f k t529 t535 4).bind fun bt536 => (spec_DrawCodeOk.j0 k t532 (bt536.1 == 0) t529 bt536.2)) else (spec_DrawCodeOk.j0 k t532 false t529 t535)) = some r := H
 have A3 := Aside0.mk A30
 clear A30
 have HC4 := Aside0.mk H
 clear H
 go_enter Try.func47, Try.ntmps47
 go_upto_region 3 with (first | ((with_reducible refine gate_callee (f := 69) rfl ?_); refine goesL_ (some 6) rfl rfl Try.func69 (by kernel_rfl) rfl #[.slice A0 l0.length c0] rfl (by (try simp only [List.map_toArray, List.map_cons, List.map_nil]); first | done | rfl | (simp only [List.length_drop, List.length_take]; rfl)) ?_; (with_reducible refine (spec_l6Open.calls _ _ l0 t529 t530 w _ ?side1 ?side2 ?side3 A2.out).mono ?_); (case side1 => exact bU HB.out); (case side2 => exact HR0.out); (case side3 => exact HC0.out); rintro e w5 ⟨g531, rfl, hi, hb, hb2⟩; refine ⟨_, rfl, ?_⟩; replace HB := Aside0.mk (hb); have HI531 := Aside0.mk (hi); (try clear hb); (try clear hb2); (try clear hk); (try clear hi)) | ((with_reducible refine gate_callee (f := 85) rfl ?_); refine goesL_ (some 8) rfl rfl Try.func85 (by kernel_rfl) rfl #[.pointer (some ⟨g531, 0, none⟩)] rfl (by (try simp only [List.map_toArray, List.map_cons, List.map_nil]); first | done | rfl | (simp only [List.length_drop, List.length_take]; rfl)) ?_; (with_reducible refine (spec_l71Code.calls k g531 t529 t530 t532 t535 w _ ?side1 ?side2 A3.out).mono ?_); (case side1 => repeat (with_reducible first | exact HI531.out | apply sA | apply sN | apply sD | apply sS)); (case side2 => repeat (with_reducible first | exact HB.out | apply bA | apply bN | apply b1 | refine below_set ?_ (IsS84.ge HI531.out))); rintro e w6 ⟨v533, rfl, ho0, hi, hb, hk⟩; refine ⟨_, rfl, ?_⟩; have HO534 := Aside0.mk (Kd.R_lower ho0 (below_size (by repeat (with_reducible first | exact HB.out | apply bA | apply bN | apply b1 | refine below_set ?_ (IsS84.ge HI531.out))))); replace HB := Aside0.mk (hb); replace HI531 := Aside0.mk (hi); (try clear hb); (try clear hb2); (try clear hk); (try clear hi); (try clear ho0)))
 (try simp only [Act.put, List.setIfInBounds_toArray, List.set_cons_zero, List.set_cons_succ])
 go_cut [16] (fun v16 wc => ∃ (kq : Nat) (x16_3 : Bool) (x532001_3 : Int), v16 = .bool x16_3 ∧ Aside0 (spec_DrawCodeOk.j0 kq t532 x16_3 t529 x532001_3 = some r) ∧ Aside0 (kq ≤ k) ∧ Aside0 (Kd.R k29 29 wc w.heap.size (fun _ => True) v533 t532) ∧ Aside0 (IsS84 w wc g531 t529 x532001_3) ∧ Aside0 (Below w.heap.size w wc))
 case first =>
  have H := HC4.out
  clear HC4
  by_cases c7 : (t532.length : Int) > 0
  ·rw [if_pos c7] at H
   have c7b0 : decide (0 < (t532.length : Int)) = true := decide_eq_true c7
   have c7b1 : decide (0 < t532.length) = true := decide_eq_true (by omega)
   clear c7
   (first | rw [c7b0] | (simp only [i64_w, i32_w]; rw [c7b0]) | skip)
   replace H := Option.bind_eq_some_iff.mp H
   obtain ⟨⟨t536, t537⟩, A80, H⟩ := H
   replace H : (spec_DrawCodeOk.j0 k t532 (t536 == 0) t529 t537) = some r := H
   have A8 := Aside0.mk A80
   clear A80
   have H' := Aside0.mk H
   clear H
   obtain ⟨Ao9, co9, eo9⟩ := Kd.R_slice HO534.out
   subst eo9
   go_wp2_with (first | (go_at_call 71; (with_reducible refine (spec_l6Rd_pick.calls k g531 t529 t535 4 t536 t537 w _ ?side1 ?side2 A8.out).mono ?_); (case side1 => repeat (with_reducible first | exact HI531.out | apply sA | apply sN | apply sD | apply sS)); (case side2 => repeat (with_reducible first | exact HB.out | apply bA | apply bN | apply b1 | refine below_set ?_ (IsS84.ge HI531.out))); rintro e w10 ⟨rfl, hi, hb, hk⟩; replace HO534 := Aside0.mk (Kd.R_mono (Kd.R_keep (IsS84.apart (show IsS84 w _ g531 t529 t535 from by repeat (with_reducible first | exact HI531.out | apply sA | apply sN | apply sD | apply sS)) (by exact rU HO534.out) (by decide)) hk (fun _ h => h.2)) (fun _ h => h.1)); replace HB := Aside0.mk (hb); replace HI531 := Aside0.mk (hi); (try clear hb); (try clear hb2); (try clear hk); (try clear hi)))
   go_meet
   case rel => exact ⟨_, ((t536 == 0)), (t537), (by first | rfl | (simp; done) | (simp [*]; done)), H', ⟨by first | omega | exact Nat.le_refl _⟩, ⟨by exact rU HO534.out⟩, ⟨by repeat (with_reducible first | exact HI531.out | apply sA | apply sN | apply sD | apply sS)⟩, ⟨by repeat (with_reducible first | exact HB.out | apply bA | apply bN | apply b1 | refine below_set ?_ (IsS84.ge HI531.out))⟩⟩
  ·rw [if_neg c7] at H
   have c7b0 : decide (0 < (t532.length : Int)) = false := decide_eq_false c7
   have c7b1 : decide (0 < t532.length) = false := decide_eq_false (by omega)
   clear c7
   (first | rw [c7b0] | (simp only [i64_w, i32_w]; rw [c7b0]) | skip)
   have H' := Aside0.mk H
   clear H
   obtain ⟨Ao11, co11, eo11⟩ := Kd.R_slice HO534.out
   subst eo11
   go_wp2
   go_meet
   case rel => exact ⟨_, (false), (t535), (by first | rfl | (simp; done) | (simp [*]; done)), H', ⟨by first | omega | exact Nat.le_refl _⟩, ⟨by exact rU HO534.out⟩, ⟨by repeat (with_reducible first | exact HI531.out | apply sA | apply sN | apply sD | apply sS)⟩, ⟨by repeat (with_reducible first | exact HB.out | apply bA | apply bN | apply b1 | refine below_set ?_ (IsS84.ge HI531.out))⟩⟩
 case rest =>
  clear HC4
  (try clear p2); (try clear c4); (try clear c6); (try clear c7); (try clear c7b0); (try clear c7b1); (try clear c8)
  obtain ⟨kq, x16_3, x532001_3, rfl, HA, HJ3, HO_4, HI531, HB⟩ := hcut
  cases kq with
  | zero => exact absurd HA.out (by simp [spec_DrawCodeOk.j0])
  | succ kj3 =>
   have H := HA.out
   clear HA
   simp only [spec_DrawCodeOk.j0] at H
   by_cases c12 : x16_3 = true
   ·subst c12
    have H1 : ((spec_l6Rd_pick.f kj3 t529 x532001_3 (t532.length : Int)).bind fun bt538 => ((spec_l71AnyOp.f kj3 t529 bt538.2).bind fun bt540 => (if 0 ≤ bt538.1 then (if bt538.1 < (t532.length : Int) then (some (t532.set (bt538.1 : Int).toNat (⟨bt540.1, bt540.2.1, bt540.2.2.1, bt540.2.2.2.1, (⟨bt540.2.2.2.2.1, bt540.2.2.2.2.2.1⟩ : S27)⟩ : S29))) else (none)) else (none)))) = some r := by rw [if_pos rfl] at H; exact H
    clear H
    have H := H1
    clear H1
    replace H := Option.bind_eq_some_iff.mp H
    obtain ⟨⟨t538, t539⟩, A130, H⟩ := H
    replace H : ((spec_l71AnyOp.f kj3 t529 t539).bind fun bt540 => (if 0 ≤ t538 then (if t538 < (t532.length : Int) then (some (t532.set (t538 : Int).toNat (⟨bt540.1, bt540.2.1, bt540.2.2.1, bt540.2.2.2.1, (⟨bt540.2.2.2.2.1, bt540.2.2.2.2.2.1⟩ : S27)⟩ : S29))) else (none)) else (none))) = some r := H
    have A13 := Aside0.mk A130
    clear A130
    replace H := Option.bind_eq_some_iff.mp H
    obtain ⟨⟨t540, t541, t542, t543, t544, t545, t546⟩, A140, H⟩ := H
    replace H : (if 0 ≤ t538 then (if t538 < (t532.length : Int) then (some (t532.set (t538 : Int).toNat (⟨t540, t541, t542, t543, (⟨t544, t545⟩ : S27)⟩ : S29))) else (none)) else (none)) = some r := H
    have A14 := Aside0.mk A140
    clear A140
    by_cases c15 : 0 ≤ t538
    ·rw [if_pos c15] at H
     have c15b0 : decide (0 ≤ t538) = true := decide_eq_true c15
     clear c15
     by_cases c16 : t538 < (t532.length : Int)
     ·rw [if_pos c16] at H
      have c16b0 : decide (t538 < (t532.length : Int)) = true := decide_eq_true c16
      clear c16
      obtain ⟨y547, hy547⟩ : ∃ y_ : List (S29), y_ = (t532.set (t538 : Int).toNat (⟨t540, t541, t542, t543, (⟨t544, t545⟩ : S27)⟩ : S29)) := ⟨_, rfl⟩
      replace H : (some y547) = some r := by first | (rw [hy547]; with_reducible exact H) | (have H2_ := (Option.bind_some _ _).symm.trans H; rw [hy547]; with_reducible exact H2_) | (have H2_ := (Option.bind_some _ _).symm.trans H; with_reducible exact H2_) | with_reducible exact H | (rw [hy547]; exact H) | exact H
      have Ny547 := Aside0.mk hy547
      clear hy547
      obtain rfl := Option.some.inj H
      obtain ⟨Ao18, co18, eo18⟩ := Kd.R_slice HO_4.out
      subst eo18
      go_wp2_with (first | ((with_reducible refine gate_callee (f := 71) rfl ?_); refine goesL_ (some 21) rfl rfl Try.func71 (by kernel_rfl) rfl #[.pointer (some ⟨g531, 0, none⟩), .int .i64 (t532.length : Int)] rfl (by (try simp only [List.map_toArray, List.map_cons, List.map_nil]); first | done | rfl | (simp only [List.length_drop, List.length_take]; rfl)) ?_; (with_reducible refine (spec_l6Rd_pick.calls kj3 g531 t529 x532001_3 (t532.length : Int) t538 t539 w _ ?side1 ?side2 A13.out).mono ?_); (case side1 => repeat (with_reducible first | exact HI531.out | apply sA | apply sN | apply sD | apply sS)); (case side2 => repeat (with_reducible first | exact HB.out | apply bA | apply bN | apply b1 | refine below_set ?_ (IsS84.ge HI531.out))); rintro e w19 ⟨rfl, hi, hb, hk⟩; refine ⟨_, rfl, ?_⟩; replace HO_4 := Aside0.mk (Kd.R_mono (Kd.R_keep (IsS84.apart (show IsS84 w _ g531 t529 x532001_3 from by repeat (with_reducible first | exact HI531.out | apply sA | apply sN | apply sD | apply sS)) (by exact rU HO_4.out) (by decide)) hk (fun _ h => h.2)) (fun _ h => h.1)); replace HB := Aside0.mk (hb); replace HI531 := Aside0.mk (hi); (try clear hb); (try clear hb2); (try clear hk); (try clear hi)) | ((with_reducible refine gate_callee (f := 70) rfl ?_); refine goesL_ (some 23) rfl rfl Try.func70 (by kernel_rfl) rfl #[.pointer (some ⟨g531, 0, none⟩)] rfl (by (try simp only [List.map_toArray, List.map_cons, List.map_nil]); first | done | rfl | (simp only [List.length_drop, List.length_take]; rfl)) ?_; (with_reducible refine (spec_l71AnyOp.calls kj3 g531 t529 t539 t540 t541 t542 t543 t544 t545 t546 w _ ?side1 ?side2 A14.out).mono ?_); (case side1 => repeat (with_reducible first | exact HI531.out | apply sA | apply sN | apply sD | apply sS)); (case side2 => repeat (with_reducible first | exact HB.out | apply bA | apply bN | apply b1 | refine below_set ?_ (IsS84.ge HI531.out))); rintro e w20 ⟨rfl, hi, hb, hk⟩; refine ⟨_, rfl, ?_⟩; replace HO_4 := Aside0.mk (Kd.R_mono (Kd.R_keep (IsS84.apart (show IsS84 w _ g531 t529 t539 from by repeat (with_reducible first | exact HI531.out | apply sA | apply sN | apply sD | apply sS)) (by exact rU HO_4.out) (by decide)) hk (fun _ h => h.2)) (fun _ h => h.1)); replace HB := Aside0.mk (hb); replace HI531 := Aside0.mk (hi); (try clear hb); (try clear hb2); (try clear hk); (try clear hi); have p17 : 0 ≤ (t538 : Int) := of_decide_eq_true (by assumption); have q17 : (t538 : Int) < ((t532.length : Int) : Int) := of_decide_eq_true (by assumption); obtain ⟨go17, co17, eo17, gb17, gl17, cl17, HG17⟩ := Kd.R_form HO_4.out (by omega); (first | cases eo17 | (injection eo17 with ea_ en_ ec_; (first | subst ea_ | (injection ea_ with ea_; subst ea_)); subst ec_; clear en_)); have GB17 := Aside0.mk gb17; have GG17 := Aside0.mk HG17; clear gb17 gl17 HG17; obtain ⟨ce17, hcl17, hM17, hcc17, hfr17⟩ := Kd.R_elem HO_4.out z29 (t538 : Int) p17 q17; obtain rfl := k29_openM hM17; have hx17_0 : w20.cell? ⟨go17, (t538 : Int).toNat * 6, none⟩ = some (.int .i64 ((rd_T29 t532 t538).f0)) := hcc17 0 _ rfl; have hx17_1 : w20.cell? ⟨go17, (t538 : Int).toNat * 6 + 1, none⟩ = some (.int .i64 ((rd_T29 t532 t538).f1)) := hcc17 1 _ rfl; have hx17_2 : w20.cell? ⟨go17, (t538 : Int).toNat * 6 + 2, none⟩ = some (.int .i64 ((rd_T29 t532 t538).f2)) := hcc17 2 _ rfl; have hx17_3 : w20.cell? ⟨go17, (t538 : Int).toNat * 6 + 3, none⟩ = some (.int .i64 ((rd_T29 t532 t538).f3)) := hcc17 3 _ rfl; have hx17_4 : w20.cell? ⟨go17, (t538 : Int).toNat * 6 + 4, none⟩ = some (.int .i64 ((rd_T29 t532 t538).f4.f0)) := hcc17 4 _ rfl; have hx17_5 : w20.cell? ⟨go17, (t538 : Int).toNat * 6 + 5, none⟩ = some (.int .i64 ((rd_T29 t532 t538).f4.f1)) := hcc17 5 _ rfl; have hf17_0 : w20.frozen? ⟨go17, (t538 : Int).toNat * 6, none⟩ = false := hfr17 0; have hf17_1 : w20.frozen? ⟨go17, (t538 : Int).toNat * 6 + 1, none⟩ = false := hfr17 1; have hf17_2 : w20.frozen? ⟨go17, (t538 : Int).toNat * 6 + 2, none⟩ = false := hfr17 2; have hf17_3 : w20.frozen? ⟨go17, (t538 : Int).toNat * 6 + 3, none⟩ = false := hfr17 3; have hf17_4 : w20.frozen? ⟨go17, (t538 : Int).toNat * 6 + 4, none⟩ = false := hfr17 4; have hf17_5 : w20.frozen? ⟨go17, (t538 : Int).toNat * 6 + 5, none⟩ = false := hfr17 5; clear hcl17 hcc17 hfr17 hM17; replace p17 := eq_true p17; replace q17 := eq_true q17; have HX21 := Aside0.mk (show Kd.R k29 29 w20 w.heap.size (fun _ => True) (.slice (some ⟨go17, 0, none⟩) t532.length co18) t532 from (by exact rU HO_4.out)); obtain ⟨ce21, hcl21, hM21, hcc21, hfr21⟩ := Kd.R_elem HX21.out z29 (t538 : Int) (of_decide_eq_true (by assumption)) (by have h_ : (t538 : Int) < ((t532.length : Int) : Int) := of_decide_eq_true (by assumption); first | exact h_ | (have e_ := (Kd.R_reads' HO_4.out).1; omega) | simpa using h_); obtain rfl := k29_openM hM21; have HP21 := Kd.R_seg HX21.out (t538 : Int) (of_decide_eq_true (by assumption)) (by have h_ : (t538 : Int) < ((t532.length : Int) : Int) := of_decide_eq_true (by assumption); first | exact h_ | (have e_ := (Kd.R_reads' HO_4.out).1; omega) | simpa using h_) (seg := [.int .i64 t540, .int .i64 t541, .int .i64 t542, .int .i64 t543, .int .i64 t544, .int .i64 t545]) (j := 0) hcl21 hcc21 (show 6 ≤ 6 from by decide) (x' := (⟨t540, t541, t542, t543, (⟨t544, t545⟩ : S27)⟩ : S29)) (k29_mkM _ _ _ (⟨t540, t541, t542, t543, (⟨t544, t545⟩ : S27)⟩ : S29) ) (fun _ hk => hk); have hx21_0 := hcc21 0 _ rfl; (try simp only [show (k29).sz = 6 from rfl, Nat.mul_one, Nat.add_zero] at hx21_0); have hf21_0 := hfr21 0; (try simp only [show (k29).sz = 6 from rfl, Nat.mul_one, Nat.add_zero] at hf21_0); have hx21_1 := hcc21 1 _ rfl; (try simp only [show (k29).sz = 6 from rfl, Nat.mul_one, Nat.add_zero] at hx21_1); have hf21_1 := hfr21 1; (try simp only [show (k29).sz = 6 from rfl, Nat.mul_one, Nat.add_zero] at hf21_1); have hx21_2 := hcc21 2 _ rfl; (try simp only [show (k29).sz = 6 from rfl, Nat.mul_one, Nat.add_zero] at hx21_2); have hf21_2 := hfr21 2; (try simp only [show (k29).sz = 6 from rfl, Nat.mul_one, Nat.add_zero] at hf21_2); have hx21_3 := hcc21 3 _ rfl; (try simp only [show (k29).sz = 6 from rfl, Nat.mul_one, Nat.add_zero] at hx21_3); have hf21_3 := hfr21 3; (try simp only [show (k29).sz = 6 from rfl, Nat.mul_one, Nat.add_zero] at hf21_3); have hx21_4 := hcc21 4 _ rfl; (try simp only [show (k29).sz = 6 from rfl, Nat.mul_one, Nat.add_zero] at hx21_4); have hf21_4 := hfr21 4; (try simp only [show (k29).sz = 6 from rfl, Nat.mul_one, Nat.add_zero] at hf21_4); have hx21_5 := hcc21 5 _ rfl; (try simp only [show (k29).sz = 6 from rfl, Nat.mul_one, Nat.add_zero] at hx21_5); have hf21_5 := hfr21 5; (try simp only [show (k29).sz = 6 from rfl, Nat.mul_one, Nat.add_zero] at hf21_5); clear hcl21 hcc21 hfr21 hM21) | ((with_reducible refine gate_store (t := 29) (p := 24) rfl ?_); refine store_event (t := 29) (p := 24) (v := ?vo_w22) (w1 := ((((((w20.setCell ⟨go17, (t538 : Int).toNat * 6, none⟩ (.int .i64 t540)).setCell ⟨go17, (t538 : Int).toNat * 6 + 1, none⟩ (.int .i64 t541)).setCell ⟨go17, (t538 : Int).toNat * 6 + 2, none⟩ (.int .i64 t542)).setCell ⟨go17, (t538 : Int).toNat * 6 + 3, none⟩ (.int .i64 t543)).setCell ⟨go17, (t538 : Int).toNat * 6 + 4, none⟩ (.int .i64 t544)).setCell ⟨go17, (t538 : Int).toNat * 6 + 5, none⟩ (.int .i64 t545))) ?hg ?ho ?hn ?hr ?_; (case ho => rfl); (case hg => rfl); (case hn => rfl); (case hr => first | (go_simp; done) | (go_simp; rfl)); intro w22 hw; have hg : w20.grownBy w22 (some go17) := (by rw [hw]; exact HP21.2); have hp_ : Kd.R k29 29 w22 w.heap.size (fun _ => True) (.slice (some ⟨go17, 0, none⟩) t532.length co18) y547 := (by rw [hw, Ny547.out]; exact HP21.1); clear HP21; have n0_ := Aside0.mk (hp_); have n1_ := Aside0.mk (IsS84.grown (by repeat (with_reducible first | exact HI531.out | apply sA | apply sN | apply sD | apply sS)) hg (IsS84.own_ne HI531.out HO_4.out (by decide))); have n2_ := Aside0.mk ((by rw [hw]; exact below_set (below_set (below_set (below_set (below_set (below_set (HB.out) GB17.out) GB17.out) GB17.out) GB17.out) GB17.out) GB17.out : Below w.heap.size w w22)); clear HO_4; clear HI531; clear HB; have HO_4 := n0_; have HI531 := n1_; have HB := n2_; clear n0_ n1_ n2_; clear hg hw hp_))
      go_ret
      exact ⟨_, by first | rfl | (simp [errW_none, errW_some] <;> rfl) | (simp [*, errW_none, errW_some] <;> rfl), by exact rU HO_4.out, by repeat (with_reducible first | exact HB.out | apply bA | apply bN | apply b1 | refine below_set ?_ (IsS84.ge HI531.out))⟩
     ·rw [if_neg c16] at H
      exact absurd H (by simp)
    ·rw [if_neg c15] at H
     exact absurd H (by simp)
   ·replace c12 := Bool.eq_false_iff.mpr c12
    subst c12
    have H1 : (some t532) = some r := by rw [if_neg (show ¬ (false = true) by decide)] at H; exact H
    clear H
    have H := H1
    clear H1
    obtain rfl := Option.some.inj H
    go_wp2
    go_ret
    exact ⟨_, by first | rfl | (simp [errW_none, errW_some] <;> rfl) | (simp [*, errW_none, errW_some] <;> rfl), by exact rU HO_4.out, by repeat (with_reducible first | exact HB.out | apply bA | apply bN | apply b1 | refine below_set ?_ (IsS84.ge HI531.out))⟩
end Go.Proofs.Ytmklpbmlgjkbiaa.PS
end
section
namespace Go.Proofs.Ytmklpbmlgjkbiaa.PJK
open Go.RowKit Go.Proofs.YtmklpbmlgjkbiaaW.PrintWords Go.Proofs.YtmklpbmlgjkbiaaW.PrintLast Go.Proofs.YtmklpbmlgjkbiaaW.PrintMore Go.Proofs.Ytmklpbmlgjkbiaa.PS
attribute [local go_sem] max2_int min2_int max_two min_two max_three min_three max_four min_four   -- for this text's walks alone
mutual
def laws_FnCodeGoes.j0 : Nat → List Int → List Int → Bool → Option (Bool)
 | 0, _, _, _ => none
 | k + 1, x0, x1, x16 => if x16 = true then (some true) else ((spec_DrawCodeOk.f k x0).bind fun t101 => ((codeV.f t101).bind fun t104 => (if t104 = true then (laws_FnCodeGoes.l0 k x1 t101 0) else (some true))))
def laws_FnCodeGoes.l0 : Nat → List Int → List (S29) → Int → Option (Bool)
 | 0, _, _, _ => none
 | k + 1, x1, x5, x7 => if x7 < (x5.length : Int) then (if 0 ≤ x7 then ((opV.f ((rd_T29 x5 x7).f0) ((rd_T29 x5 x7).f1) ((rd_T29 x5 x7).f2) ((rd_T29 x5 x7).f3) ((rd_T29 x5 x7).f4.f0) ((rd_T29 x5 x7).f4.f1)).bind fun t106 => (if t106 = true then (laws_FnCodeGoes.j2 k x1 x5 x7 (decide (((rd_T29 x5 x7).f3) ≥ (x5.length : Int)))) else (laws_FnCodeGoes.j2 k x1 x5 x7 true))) else (none)) else ((some (([] : List (S29)) : List (S29))).bind fun y108 => (if y108.length + x5.length < 2932031007402 then ((some (y108 ++ x5 : List (S29))).bind fun y111 => (if (x5.length : Int) = 0 then (none) else (if 0 ≤ ((x1.length : Int) % (x5.length : Int)) then (if ((x1.length : Int) % (x5.length : Int)) < (y111.length : Int) then ((codeV.f (y111.set (((x1.length : Int) % (x5.length : Int)) : Int).toNat (⟨9, 0, 0, (x5.length : Int), (⟨0, 0⟩ : S27)⟩ : S29))).bind fun t115 => (if t115 = true then (some false) else ((codeV.f ([] : List (S29))).bind fun t116 => (if t116 = true then (some false) else (some (decide ((x5.length : Int) ≤ 16))))))) else (none)) else (none)))) else (none)))
def laws_FnCodeGoes.j2 : Nat → List Int → List (S29) → Int → Bool → Option (Bool)
 | 0, _, _, _, _ => none
 | k + 1, x1, x5, x7, x54 => if x54 = true then (some false) else (laws_FnCodeGoes.l0 k x1 x5 (wrap64 (x7 + 1)))
end
def laws_FnCodeGoes.f (k : Nat) (l0 : List Int) (l1 : List Int) : Option (Bool) := if (l0.length : Int) > 1048576 then (laws_FnCodeGoes.j0 k l0 l1 true) else (laws_FnCodeGoes.j0 k l0 l1 (decide ((l1.length : Int) > 1048576)))
theorem laws_FnCodeGoes.calls (k : Nat) (A0 : Option Addr) (c0 : Nat) (l0 : List Int) (A1 : Option Addr) (c1 : Nat) (l1 : List Int) (r : Bool) (w : World) (hr0 : Kd.C (Kd.int .u8) w A0 l0.length l0) (hc0 : l0.length ≤ c0) (hr1 : Kd.C (Kd.int .u8) w A1 l1.length l1) (hc1 : l1.length ≤ c1) (h : laws_FnCodeGoes.f k l0 l1 = some r) :
  Calls Try.prog 12 #[.slice A0 l0.length c0, .slice A1 l1.length c1] w fun e w' => e = .returned (.bool r) ∧ Below w.heap.size w w' := by
 have hu29 := Try.underlying29
 have HR0 := Aside0.mk hr0
 have HC0 := Aside0.mk hc0
 clear hr0 hc0
 have HR1 := Aside0.mk hr1
 have HC1 := Aside0.mk hc1
 clear hr1 hc1
 have HB := Aside0.mk (Below.refl w.heap.size w)
 have H : (if (l0.length : Int) > 1048576 then (laws_FnCodeGoes.j0 k l0 l1 true) else (laws_FnCodeGoes.j0 k l0 l1 (decide ((l1.length : Int) > 1048576)))) = some r := h
 clear h
 have HC3 := Aside0.mk H
 clear H
 go_enter Try.func12, Try.ntmps12
 go_upto_region 1 with (fail)
 go_cut [16] (fun v16 wc => ∃ (kq : Nat) (x16_2 : Bool), v16 = .bool x16_2 ∧ Aside0 (laws_FnCodeGoes.j0 kq l0 l1 x16_2 = some r) ∧ Aside0 (kq ≤ k) ∧ Aside0 (Below w.heap.size w wc))
 case first =>
  have H := HC3.out
  clear HC3
  by_cases c4 : (l0.length : Int) > 1048576
  ·rw [if_pos c4] at H
   have c4b0 : decide (1048576 < (l0.length : Int)) = true := decide_eq_true c4
   have c4b1 : decide (1048576 < l0.length) = true := decide_eq_true (by omega)
   clear c4
   (first | rw [c4b0] | (simp only [i64_w, i32_w]; rw [c4b0]) | skip)
   have H' := Aside0.mk H
   clear H
   go_wp2
   go_meet
   case rel => exact ⟨_, (true), (by first | rfl | (simp; done) | (simp [*]; done)), H', ⟨by first | omega | exact Nat.le_refl _⟩, ⟨by exact bU HB.out⟩⟩
  ·rw [if_neg c4] at H
   have c4b0 : decide (1048576 < (l0.length : Int)) = false := decide_eq_false c4
   have c4b1 : decide (1048576 < l0.length) = false := decide_eq_false (by omega)
   clear c4
   (first | rw [c4b0] | (simp only [i64_w, i32_w]; rw [c4b0]) | skip)
   have H' := Aside0.mk H
   clear H
   go_wp2
   go_meet
   case rel => exact ⟨_, (decide ((l1.length : Int) > 1048576)), (by first | rfl | (simp; done) | (simp [*]; done)), H', ⟨by first | omega | exact Nat.le_refl _⟩, ⟨by exact bU HB.out⟩⟩
 case rest =>
  clear HC3
  (try clear c1); (try clear p2); (try clear c4); (try clear c4b0); (try clear c4b1)
  obtain ⟨kq, x16_2, rfl, HA, HJ2, HB⟩ := hcut
  cases kq with
  | zero => exact absurd HA.out (by simp [laws_FnCodeGoes.j0])
  | succ kj2 =>
   have H := HA.out
   clear HA
   simp only [laws_FnCodeGoes.j0] at H
   by_cases c5 : x16_2 = true
   ·subst c5
    have H1 : (some true) = some r := by rw [if_pos rfl] at H; exact H
    clear H
    have H := H1
    clear H1
    obtain rfl := Option.some.inj H
    go_wp2
    go_ret
    exact ⟨by first | rfl | (simp [errW_none, errW_some] <;> rfl) | (simp [*, errW_none, errW_some] <;> rfl), by exact bU HB.out⟩
   ·replace c5 := Bool.eq_false_iff.mpr c5
    subst c5
    have H1 : ((spec_DrawCodeOk.f kj2 l0).bind fun t101 => ((codeV.f t101).bind fun t104 => (if t104 = true then (laws_FnCodeGoes.l0 kj2 l1 t101 0) else (some true)))) = some r := by rw [if_neg (show ¬ (false = true) by decide)] at H; exact H
    clear H
    have H := H1
    clear H1
    replace H := Option.bind_eq_some_iff.mp H
    obtain ⟨t101, A60, H⟩ := H
    replace H : ((codeV.f t101).bind fun t104 => (if t104 = true then (laws_FnCodeGoes.l0 kj2 l1 t101 0) else (some true))) = some r := H
    have A6 := Aside0.mk A60
    clear A60
    replace H := Option.bind_eq_some_iff.mp H
    obtain ⟨t104, A70, H⟩ := H
    replace H : (if t104 = true then (laws_FnCodeGoes.l0 kj2 l1 t101 0) else (some true)) = some r := H
    have A7 := Aside0.mk A70
    clear A70
    have z8 : (t104 == t104) = true := by simp
    have z9 : (t104 != t104) = false := by simp
    by_cases c10 : t104 = true
    ·subst c10
     have H1 : (laws_FnCodeGoes.l0 kj2 l1 t101 0) = some r := by rw [if_pos rfl] at H; exact H
     clear H
     have H := H1
     clear H1
     have H' := Aside0.mk H
     clear H
     go_wp2_with (first | ((with_reducible refine gate_callee (f := 47) rfl ?_); refine goesL_ (some 18) rfl rfl Try.func47 (by kernel_rfl) rfl #[.slice A0 l0.length c0] rfl (by (try simp only [List.map_toArray, List.map_cons, List.map_nil]) <;> rfl) ?_; (with_reducible refine (spec_DrawCodeOk.calls kj2 _ _ l0 t101 _ ?side1 ?side2 A6.out).mono ?_); (case side1 => repeat (first | exact (Kd.C_below HR0.out HB.out) | (with_reducible refine Kd.C_alloc ?_ _) | (with_reducible refine Kd.C_drewN ?_ _) | (with_reducible refine Kd.C_drew ?_))); (case side2 => exact HC0.out); rintro e w11 ⟨v102, rfl, ho0, hb⟩; refine ⟨_, rfl, ?_⟩; have HO103 := Aside0.mk (Kd.R_lower ho0 (below_size (by exact bU HB.out))); replace HB := Aside0.mk (below_step (by exact bU HB.out) hb); (try clear hb); (try clear hb2); (try clear hk); (try clear hi); (try clear ho0); obtain ⟨Ao12, co12, eo12⟩ := Kd.R_slice HO103.out; subst eo12) | ((with_reducible refine gate_callee (f := 35) rfl ?_); refine goesL_ (some 20) rfl rfl Try.func35 (by kernel_rfl) rfl #[.slice Ao12 t101.length co12] rfl (by (try simp only [List.map_toArray, List.map_cons, List.map_nil]) <;> rfl) ?_; (with_reducible refine (impl_CodeOk.calls _ _ t101 true _ ?side1 ?side2 A7.out).mono ?_); (case side1 => repeat (first | exact (Kd.R_reads' HO103.out).2.2 | (with_reducible refine Kd.C_alloc ?_ _) | (with_reducible refine Kd.C_drewN ?_ _) | (with_reducible refine Kd.C_drew ?_))); (case side2 => exact (Kd.R_reads' HO103.out).2.1); rintro e w13 ⟨rfl, hb⟩; refine ⟨_, rfl, ?_⟩; replace HO103 := Aside0.mk (Kd.R_below (by exact rU HO103.out) hb); replace HB := Aside0.mk (below_step (by exact bU HB.out) hb); (try clear hb); (try clear hb2); (try clear hk); (try clear hi)) | ((with_reducible refine gate_callee (f := 33) rfl ?_); refine goesL_ (some 23) rfl rfl Try.func33 (by kernel_rfl) rfl #[.slice Ao12 t101.length co12] rfl (by (try simp only [List.map_toArray, List.map_cons, List.map_nil]) <;> rfl) ?_; (with_reducible refine (spec_CodeOk_as.calls _ _ t101 true _ ?side1 ?side2 A7.out).mono ?_); (case side1 => repeat (first | exact (Kd.R_reads' HO103.out).2.2 | (with_reducible refine Kd.C_alloc ?_ _) | (with_reducible refine Kd.C_drewN ?_ _) | (with_reducible refine Kd.C_drew ?_))); (case side2 => exact (Kd.R_reads' HO103.out).2.1); rintro e w14 ⟨rfl, hb⟩; refine ⟨_, rfl, ?_⟩; replace HO103 := Aside0.mk (Kd.R_below (by exact rU HO103.out) hb); replace HB := Aside0.mk (below_step (by exact bU HB.out) hb); (try clear hb); (try clear hb2); (try clear hk); (try clear hi)))
     go_loopg [7] kj2 (fun kq v7 w' => ∃ (x7_2 : Int), v7 = .int .i64 x7_2 ∧ Aside0 (laws_FnCodeGoes.l0 kq l1 t101 x7_2 = some r) ∧ Aside0 (kq ≤ kj2) ∧ Aside0 (Kd.R k29 29 w' w.heap.size (fun _ => True) (.slice Ao12 t101.length co12) t101) ∧ Aside0 (Below w.heap.size w w'))
     case atStart => exact ⟨(0), (by first | rfl | (simp; done) | (simp [*]; done)), H', ⟨Nat.le_refl _⟩, ⟨by exact rU HO103.out⟩, ⟨by exact bU HB.out⟩⟩
     case round =>
      clear H'
      (try clear c1); (try clear p2); (try clear c3); (try clear c4); (try clear c4b0); (try clear c4b1); (try clear c5); (try clear c10); (try clear c12); (try clear p2)
      obtain ⟨x7_2, rfl, HA, HK2, HO_5, HB⟩ := hrel
      cases gk with
      | zero => exact absurd HA.out (by simp [laws_FnCodeGoes.l0])
      | succ k2 =>
       have H := HA.out
       clear HA
       simp only [laws_FnCodeGoes.l0] at H
       by_cases c15 : x7_2 < (t101.length : Int)
       ·rw [if_pos c15] at H
        have c15b0 : decide (x7_2 < (t101.length : Int)) = true := decide_eq_true c15
        clear c15
        have HC16 := Aside0.mk H
        clear H
        go_upto_region 10 with (fail)
        go_cut [54] (fun v54 wc => ∃ (kq : Nat) (x54_15 : Bool), v54 = .bool x54_15 ∧ Aside0 (laws_FnCodeGoes.j2 kq l1 t101 x7_2 x54_15 = some r) ∧ Aside0 (kq ≤ k2) ∧ Aside0 (Kd.R k29 29 wc w.heap.size (fun _ => True) (.slice Ao12 t101.length co12) t101) ∧ Aside0 (Below w.heap.size w wc))
        case first =>
         have H := HC16.out
         clear HC16
         by_cases c17 : 0 ≤ x7_2
         ·rw [if_pos c17] at H
          have c17b0 : decide (0 ≤ x7_2) = true := decide_eq_true c17
          clear c17
          (first | rw [c17b0] | (simp only [i64_w, i32_w]; rw [c17b0]) | skip)
          replace H := Option.bind_eq_some_iff.mp H
          obtain ⟨t106, A180, H⟩ := H
          replace H : (if t106 = true then (laws_FnCodeGoes.j2 k2 l1 t101 x7_2 (decide (((rd_T29 t101 x7_2).f3) ≥ (t101.length : Int)))) else (laws_FnCodeGoes.j2 k2 l1 t101 x7_2 true)) = some r := H
          have A18 := Aside0.mk A180
          clear A180
          by_cases c19 : t106 = true
          ·subst c19
           have H1 : (laws_FnCodeGoes.j2 k2 l1 t101 x7_2 (decide (((rd_T29 t101 x7_2).f3) ≥ (t101.length : Int)))) = some r := by rw [if_pos rfl] at H; exact H
           clear H
           have H := H1
           clear H1
           have H' := Aside0.mk H
           clear H
           have p105 : 0 ≤ (x7_2 : Int) := of_decide_eq_true (by assumption)
           have q105 : x7_2 < (t101.length : Int) := of_decide_eq_true (by assumption)
           obtain ⟨ad105, e105, hx105_0, hx105_1, hx105_2, hx105_3, hx105_4, hx105_5⟩ := at_T29 (Kd.R_reads' HO_5.out).2.2 x7_2 p105 q105
           cases e105
           replace p105 := eq_true p105
           replace q105 := eq_true q105
           go_wp2_with (first | ((with_reducible refine gate_callee (f := 25) rfl ?_); refine goesL_ (some 43) rfl rfl Try.func25 (by kernel_rfl) rfl #[.agg #[.int .i64 ((rd_T29 t101 x7_2).f0), .int .i64 ((rd_T29 t101 x7_2).f1), .int .i64 ((rd_T29 t101 x7_2).f2), .int .i64 ((rd_T29 t101 x7_2).f3), .int .i64 ((rd_T29 t101 x7_2).f4.f0), .int .i64 ((rd_T29 t101 x7_2).f4.f1)]] rfl (by (try simp only [List.map_toArray, List.map_cons, List.map_nil]) <;> rfl) ?_; (with_reducible refine (impl_OpOk.calls ((rd_T29 t101 x7_2).f0) ((rd_T29 t101 x7_2).f1) ((rd_T29 t101 x7_2).f2) ((rd_T29 t101 x7_2).f3) ((rd_T29 t101 x7_2).f4.f0) ((rd_T29 t101 x7_2).f4.f1) true _ A18.out).mono ?_); rintro e w20 ⟨rfl, hb⟩; refine ⟨_, rfl, ?_⟩; replace HO_5 := Aside0.mk (Kd.R_below (by exact rU HO_5.out) hb); replace HB := Aside0.mk (below_step (by exact bU HB.out) hb); (try clear hb); (try clear hb2); (try clear hk); (try clear hi); have p107 : 0 ≤ (x7_2 : Int) := of_decide_eq_true (by assumption); have q107 : x7_2 < (t101.length : Int) := of_decide_eq_true (by assumption); obtain ⟨ad107, e107, hx107_0, hx107_1, hx107_2, hx107_3, hx107_4, hx107_5⟩ := at_T29 (Kd.R_reads' HO_5.out).2.2 x7_2 p107 q107; obtain rfl : ad105 = ad107 := (by injection e107); replace p107 := eq_true p107; replace q107 := eq_true q107))
           go_meet
           case rel => exact ⟨_, (decide (((rd_T29 t101 x7_2).f3) ≥ (t101.length : Int))), (by first | rfl | (simp; done) | (simp [*]; done)), H', ⟨by have := HJ2.out; have := HK2.out; first | omega | exact Nat.le_refl _⟩, ⟨by exact rU HO_5.out⟩, ⟨by exact bU HB.out⟩⟩
          ·replace c19 := Bool.eq_false_iff.mpr c19
           subst c19
           have H1 : (laws_FnCodeGoes.j2 k2 l1 t101 x7_2 true) = some r := by rw [if_neg (show ¬ (false = true) by decide)] at H; exact H
           clear H
           have H := H1
           clear H1
           have H' := Aside0.mk H
           clear H
           have p105 : 0 ≤ (x7_2 : Int) := of_decide_eq_true (by assumption)
           have q105 : x7_2 < (t101.length : Int) := of_decide_eq_true (by assumption)
           obtain ⟨ad105, e105, hx105_0, hx105_1, hx105_2, hx105_3, hx105_4, hx105_5⟩ := at_T29 (Kd.R_reads' HO_5.out).2.2 x7_2 p105 q105
           cases e105
           replace p105 := eq_true p105
           replace q105 := eq_true q105
           go_wp2_with (first | ((with_reducible refine gate_callee (f := 25) rfl ?_); refine goesL_ (some 43) rfl rfl Try.func25 (by kernel_rfl) rfl #[.agg #[.int .i64 ((rd_T29 t101 x7_2).f0), .int .i64 ((rd_T29 t101 x7_2).f1), .int .i64 ((rd_T29 t101 x7_2).f2), .int .i64 ((rd_T29 t101 x7_2).f3), .int .i64 ((rd_T29 t101 x7_2).f4.f0), .int .i64 ((rd_T29 t101 x7_2).f4.f1)]] rfl (by (try simp only [List.map_toArray, List.map_cons, List.map_nil]) <;> rfl) ?_; (with_reducible refine (impl_OpOk.calls ((rd_T29 t101 x7_2).f0) ((rd_T29 t101 x7_2).f1) ((rd_T29 t101 x7_2).f2) ((rd_T29 t101 x7_2).f3) ((rd_T29 t101 x7_2).f4.f0) ((rd_T29 t101 x7_2).f4.f1) false _ A18.out).mono ?_); rintro e w21 ⟨rfl, hb⟩; refine ⟨_, rfl, ?_⟩; replace HO_5 := Aside0.mk (Kd.R_below (by exact rU HO_5.out) hb); replace HB := Aside0.mk (below_step (by exact bU HB.out) hb); (try clear hb); (try clear hb2); (try clear hk); (try clear hi)))
           go_meet
           case rel => exact ⟨_, (true), (by first | rfl | (simp; done) | (simp [*]; done)), H', ⟨by have := HJ2.out; have := HK2.out; first | omega | exact Nat.le_refl _⟩, ⟨by exact rU HO_5.out⟩, ⟨by exact bU HB.out⟩⟩
         ·rw [if_neg c17] at H
          exact absurd H (by simp)
        case rest =>
         clear HC16
         (try clear c1); (try clear p1); (try clear q1); (try clear hx1); (try clear c2); (try clear p2); (try clear c3); (try clear c4); (try clear c4b0); (try clear c4b1); (try clear c5); (try clear c10); (try clear p10); (try clear q10); (try clear hx10); (try clear c12); (try clear c15); (try clear c15b0); (try clear c17); (try clear c17b0); (try clear c19); (try clear hx105_0); (try clear hx105_1); (try clear hx105_2); (try clear hx105_3); (try clear hx105_4); (try clear hx105_5); (try clear hx107_0); (try clear hx107_1); (try clear hx107_2); (try clear hx107_3); (try clear hx107_4); (try clear hx107_5); (try clear p105); (try clear p107); (try clear p2); (try clear q105); (try clear q107)
         obtain ⟨kq, x54_15, rfl, HA, HJ15, HO_5, HB⟩ := hcut
         cases kq with
         | zero => exact absurd HA.out (by simp [laws_FnCodeGoes.j2])
         | succ kj15 =>
          have H := HA.out
          clear HA
          simp only [laws_FnCodeGoes.j2] at H
          by_cases c22 : x54_15 = true
          ·subst c22
           have H1 : (some false) = some r := by rw [if_pos rfl] at H; exact H
           clear H
           have H := H1
           clear H1
           obtain rfl := Option.some.inj H
           go_wp2
           go_ret
           exact ⟨by first | rfl | (simp [errW_none, errW_some] <;> rfl) | (simp [*, errW_none, errW_some] <;> rfl), by exact bU HB.out⟩
          ·replace c22 := Bool.eq_false_iff.mpr c22
           subst c22
           have H1 : (laws_FnCodeGoes.l0 kj15 l1 t101 (wrap64 (x7_2 + 1))) = some r := by rw [if_neg (show ¬ (false = true) by decide)] at H; exact H
           clear H
           have H := H1
           clear H1
           have H' := Aside0.mk H
           clear H
           go_wp2
           go_roundg kj15
           case measure => have := HJ2.out; have := HK2.out; have := HJ15.out; omega
           case rel => exact ⟨(wrap64 (x7_2 + 1)), (by first | rfl | (simp; done) | (simp [*]; done)), H', ⟨by have := HJ2.out; have := HK2.out; have := HJ15.out; omega⟩, ⟨by exact rU HO_5.out⟩, ⟨by exact bU HB.out⟩⟩
       ·rw [if_neg c15] at H
        have c15b0 : decide (x7_2 < (t101.length : Int)) = false := decide_eq_false c15
        clear c15
        obtain ⟨y108, hy108⟩ : ∃ y_ : List (S29), y_ = (([] : List (S29))) := ⟨_, rfl⟩
        replace H : (if y108.length + t101.length < 2932031007402 then ((some (y108 ++ t101 : List (S29))).bind fun y111 => (if (t101.length : Int) = 0 then (none) else (if 0 ≤ ((l1.length : Int) % (t101.length : Int)) then (if ((l1.length : Int) % (t101.length : Int)) < (y111.length : Int) then ((codeV.f (y111.set (((l1.length : Int) % (t101.length : Int)) : Int).toNat (⟨9, 0, 0, (t101.length : Int), (⟨0, 0⟩ : S27)⟩ : S29))).bind fun t115 => (if t115 = true then (some false) else ((codeV.f ([] : List (S29))).bind fun t116 => (if t116 = true then (some false) else (some (decide ((t101.length : Int) ≤ 16))))))) else (none)) else (none)))) else (none)) = some r := by first | (rw [hy108]; with_reducible exact H) | (have H2_ := (Option.bind_some _ _).symm.trans H; rw [hy108]; with_reducible exact H2_) | (have H2_ := (Option.bind_some _ _).symm.trans H; with_reducible exact H2_) | with_reducible exact H | (rw [hy108]; exact H) | exact H
        have Ny108 := Aside0.mk hy108
        clear hy108
        by_cases c23 : y108.length + t101.length < 2932031007402
        ·rw [if_pos c23] at H
         have LMc23 := Aside0.mk c23
         clear c23
         obtain ⟨y111, hy111⟩ : ∃ y_ : List (S29), y_ = (y108 ++ t101) := ⟨_, rfl⟩
         replace H : (if (t101.length : Int) = 0 then (none) else (if 0 ≤ ((l1.length : Int) % (t101.length : Int)) then (if ((l1.length : Int) % (t101.length : Int)) < (y111.length : Int) then ((codeV.f (y111.set (((l1.length : Int) % (t101.length : Int)) : Int).toNat (⟨9, 0, 0, (t101.length : Int), (⟨0, 0⟩ : S27)⟩ : S29))).bind fun t115 => (if t115 = true then (some false) else ((codeV.f ([] : List (S29))).bind fun t116 => (if t116 = true then (some false) else (some (decide ((t101.length : Int) ≤ 16))))))) else (none)) else (none))) = some r := by first | (rw [hy111]; with_reducible exact H) | (have H2_ := (Option.bind_some _ _).symm.trans H; rw [hy111]; with_reducible exact H2_) | (have H2_ := (Option.bind_some _ _).symm.trans H; with_reducible exact H2_) | with_reducible exact H | (rw [hy111]; exact H) | exact H
         have Ny111 := Aside0.mk hy111
         clear hy111
         by_cases c24 : (t101.length : Int) = 0
         ·rw [if_pos c24] at H
          exact absurd H (by simp)
         ·rw [if_neg c24] at H
          have c24b0 : ((t101.length : Int) == 0) = false := beq_eq_false_iff_ne.mpr c24
          have c24b1 : ((t101.length : Int) != 0) = true := bne_iff_ne.mpr c24
          have c24b2 : ¬ (t101 = []) := fun h_ => c24 (by rw [h_]; rfl)
          obtain ⟨ji25, hji25⟩ : ∃ j_ : Int, ((l1.length : Int) % (t101.length : Int)) = j_ := ⟨_, rfl⟩
          replace H : (if 0 ≤ (ji25) then (if (ji25) < (y111.length : Int) then ((codeV.f (y111.set ((ji25) : Int).toNat (⟨9, 0, 0, (t101.length : Int), (⟨0, 0⟩ : S27)⟩ : S29))).bind fun t115 => (if t115 = true then (some false) else ((codeV.f ([] : List (S29))).bind fun t116 => (if t116 = true then (some false) else (some (decide ((t101.length : Int) ≤ 16))))))) else (none)) else (none)) = some r := by first | (rw [hji25] at H; exact H) | (simp only [hji25] at H ⊢; exact H)
          by_cases c26 : 0 ≤ (ji25)
          ·rw [if_pos c26] at H
           have c26b0 : decide (0 ≤ (ji25)) = true := decide_eq_true c26
           clear c26
           by_cases c27 : (ji25) < (y111.length : Int)
           ·rw [if_pos c27] at H
            have c27b0 : decide ((ji25) < (y111.length : Int)) = true := decide_eq_true c27
            clear c27
            obtain ⟨y114, hy114⟩ : ∃ y_ : List (S29), y_ = (y111.set ((ji25) : Int).toNat (⟨9, 0, 0, (t101.length : Int), (⟨0, 0⟩ : S27)⟩ : S29)) := ⟨_, rfl⟩
            replace H : ((codeV.f y114).bind fun t115 => (if t115 = true then (some false) else ((codeV.f ([] : List (S29))).bind fun t116 => (if t116 = true then (some false) else (some (decide ((t101.length : Int) ≤ 16))))))) = some r := by first | (rw [hy114]; with_reducible exact H) | (have H2_ := (Option.bind_some _ _).symm.trans H; rw [hy114]; with_reducible exact H2_) | (have H2_ := (Option.bind_some _ _).symm.trans H; with_reducible exact H2_) | with_reducible exact H | (rw [hy114]; exact H) | exact H
            have Ny114 := Aside0.mk hy114
            clear hy114
            replace H := Option.bind_eq_some_iff.mp H
            obtain ⟨t115, A290, H⟩ := H
            replace H : (if t115 = true then (some false) else ((codeV.f ([] : List (S29))).bind fun t116 => (if t116 = true then (some false) else (some (decide ((t101.length : Int) ≤ 16)))))) = some r := H
            have A29 := Aside0.mk A290
            clear A290
            by_cases c30 : t115 = true
            ·subst c30
             have H1 : (some false) = some r := by rw [if_pos rfl] at H; exact H
             clear H
             have H := H1
             clear H1
             obtain rfl := Option.some.inj H
             go_wp2_with (first | ((with_reducible refine gate_dst (N := 55) rfl ?_); (try (refine gate_guard (by rfl) ?_; dsimp only)); refine Kd.R_lit k29 _ 29 ?hg (N := 55) ?hd (xs := ([] : List (S29))) (inner := []) (ok := fun _ => True) (okp := fun _ => True) ?hr ?hp (fun _ hk => hk) trivial (Below.refl _ _) (Nat.le_refl _) (by simp) ?_; (case hd => rfl); (case hg => rfl); (case hr => first | (go_simp; done) | (go_simp; rfl)); (case hp => exact (Reps.none _ _)); intro v109 w31 ho32 hb hg_ hnew_; clear hg_ hnew_; (first | rw [← Ny108.out] at ho32 | (simp only [Int.reduceToNat] at ho32; rw [← Ny108.out] at ho32)); have n0_ := Aside0.mk (Kd.R_elder' (by exact rU HO_5.out) (Kd.R_base ho32) hb); have n1_ := Aside0.mk (Kd.R_lower (Kd.R_new' ho32 (Kd.R_lt (by exact rU HO_5.out))) (below_size (by exact bU HB.out))); have n2_ := Aside0.mk (below_step (by exact bU HB.out) hb); clear HO_5; clear HB; have HO_5 := n0_; have HO110 := n1_; have HB := n2_; clear n0_ n1_ n2_; clear hb ho32) | ((with_reducible refine gate_builtin (b := .append) (xs := #[.tmp 55, .tmp 56]) rfl ?_); (try (refine gate_guard (by rfl) ?_; dsimp only)); at_builtin; refine Kd.R_append_rows k29 (w0 := w) w.heap.size rfl (.tmp 55) (.tmp 56) 42 29 (.agg #[(.int .i64 0), (.int .i64 0), (.int .i64 0), (.int .i64 0), (.int .i64 0), (.int .i64 0)]) 48 rfl Try.underlying42 info29 rfl (by decide) (by omega) v109 y108 t101 _ _ _ (fun k_ => some k_ ≠ (.slice Ao12 t101.length co12 : Value).ownBlock) (fun _ => False) rfl rfl ?aO ?aR (fun _ _ h => h) (fun _ h => h.elim) ?aF ?aB ?aS ?aL ?_; (case aR => repeat (first | exact (Kd.R_reads' HO_5.out).2.2 | (with_reducible refine Kd.C_alloc ?_ _) | (with_reducible refine Kd.C_drewN ?_ _) | (with_reducible refine Kd.C_drew ?_))); (case aB => exact (by exact bU HB.out)); (case aF => exact (fun k_ hk => Kd.fresh' (Kd.R_lt (by exact rU HO_5.out)) k_ hk)); (case aO => exact (by (with_reducible repeat (first | apply rA | apply rN | apply rD)); exact Kd.R_mono HO110.out (fun _ hk => hk.2))); (case aS => exact (below_size (by exact bU HB.out))); (case aL => have := LMc23.out; omega); intro v112 w33 ho hb hg hat; rw [← Ny111.out] at ho; replace HO_5 := Aside0.mk (Kd.R_after (ok := (fun _ => True)) (by exact rU HO_5.out) hg hat); replace HB := Aside0.mk (hb); have HO113 := Aside0.mk (ho); clear HO110; clear ho hb hg hat; have p28 : 0 ≤ ((ji25) : Int) := of_decide_eq_true (by assumption); have q28 : ((ji25) : Int) < ((y111.length : Int) : Int) := of_decide_eq_true (by assumption); obtain ⟨go28, co28, eo28, gb28, gl28, cl28, HG28⟩ := Kd.R_form HO113.out (by omega); (first | cases eo28 | (injection eo28 with ea_ en_ ec_; (first | subst ea_ | (injection ea_ with ea_; subst ea_)); subst ec_; clear en_)); have GB28 := Aside0.mk gb28; have GG28 := Aside0.mk HG28; clear gb28 gl28 HG28; obtain ⟨ce28, hcl28, hM28, hcc28, hfr28⟩ := Kd.R_elem HO113.out z29 ((ji25) : Int) p28 q28; obtain rfl := k29_openM hM28; have hx28_0 : w33.cell? ⟨go28, ((ji25) : Int).toNat * 6, none⟩ = some (.int .i64 ((rd_T29 y111 (ji25)).f0)) := hcc28 0 _ rfl; have hx28_1 : w33.cell? ⟨go28, ((ji25) : Int).toNat * 6 + 1, none⟩ = some (.int .i64 ((rd_T29 y111 (ji25)).f1)) := hcc28 1 _ rfl; have hx28_2 : w33.cell? ⟨go28, ((ji25) : Int).toNat * 6 + 2, none⟩ = some (.int .i64 ((rd_T29 y111 (ji25)).f2)) := hcc28 2 _ rfl; have hx28_3 : w33.cell? ⟨go28, ((ji25) : Int).toNat * 6 + 3, none⟩ = some (.int .i64 ((rd_T29 y111 (ji25)).f3)) := hcc28 3 _ rfl; have hx28_4 : w33.cell? ⟨go28, ((ji25) : Int).toNat * 6 + 4, none⟩ = some (.int .i64 ((rd_T29 y111 (ji25)).f4.f0)) := hcc28 4 _ rfl; have hx28_5 : w33.cell? ⟨go28, ((ji25) : Int).toNat * 6 + 5, none⟩ = some (.int .i64 ((rd_T29 y111 (ji25)).f4.f1)) := hcc28 5 _ rfl; have hf28_0 : w33.frozen? ⟨go28, ((ji25) : Int).toNat * 6, none⟩ = false := hfr28 0; have hf28_1 : w33.frozen? ⟨go28, ((ji25) : Int).toNat * 6 + 1, none⟩ = false := hfr28 1; have hf28_2 : w33.frozen? ⟨go28, ((ji25) : Int).toNat * 6 + 2, none⟩ = false := hfr28 2; have hf28_3 : w33.frozen? ⟨go28, ((ji25) : Int).toNat * 6 + 3, none⟩ = false := hfr28 3; have hf28_4 : w33.frozen? ⟨go28, ((ji25) : Int).toNat * 6 + 4, none⟩ = false := hfr28 4; have hf28_5 : w33.frozen? ⟨go28, ((ji25) : Int).toNat * 6 + 5, none⟩ = false := hfr28 5; clear hcl28 hcc28 hfr28 hM28; replace p28 := eq_true p28; replace q28 := eq_true q28; have HX34 := Aside0.mk (show Kd.R k29 29 w33 w.heap.size (fun k_ => some k_ ≠ (.slice Ao12 t101.length co12 : Value).ownBlock) (.slice (some ⟨go28, 0, none⟩) y111.length co28) y111 from (by exact rU HO113.out)); obtain ⟨ce34, hcl34, hM34, hcc34, hfr34⟩ := Kd.R_elem HX34.out z29 ((ji25) : Int) (of_decide_eq_true (by assumption)) (by have h_ : ((ji25) : Int) < ((y111.length : Int) : Int) := of_decide_eq_true (by assumption); first | exact h_ | (have e_ := (Kd.R_reads' HO113.out).1; omega) | simpa using h_); obtain rfl := k29_openM hM34; have HP34 := Kd.R_seg HX34.out ((ji25) : Int) (of_decide_eq_true (by assumption)) (by have h_ : ((ji25) : Int) < ((y111.length : Int) : Int) := of_decide_eq_true (by assumption); first | exact h_ | (have e_ := (Kd.R_reads' HO113.out).1; omega) | simpa using h_) (seg := [.int .i64 9, .int .i64 0, .int .i64 0, .int .i64 (t101.length : Int), .int .i64 0, .int .i64 0]) (j := 0) hcl34 hcc34 (show 6 ≤ 6 from by decide) (x' := (⟨9, 0, 0, (t101.length : Int), (⟨0, 0⟩ : S27)⟩ : S29)) (k29_mkM _ _ _ (⟨9, 0, 0, (t101.length : Int), (⟨0, 0⟩ : S27)⟩ : S29) ) (fun _ hk => hk); have hx34_0 := hcc34 0 _ rfl; (try simp only [show (k29).sz = 6 from rfl, Nat.mul_one, Nat.add_zero] at hx34_0); have hf34_0 := hfr34 0; (try simp only [show (k29).sz = 6 from rfl, Nat.mul_one, Nat.add_zero] at hf34_0); have hx34_1 := hcc34 1 _ rfl; (try simp only [show (k29).sz = 6 from rfl, Nat.mul_one, Nat.add_zero] at hx34_1); have hf34_1 := hfr34 1; (try simp only [show (k29).sz = 6 from rfl, Nat.mul_one, Nat.add_zero] at hf34_1); have hx34_2 := hcc34 2 _ rfl; (try simp only [show (k29).sz = 6 from rfl, Nat.mul_one, Nat.add_zero] at hx34_2); have hf34_2 := hfr34 2; (try simp only [show (k29).sz = 6 from rfl, Nat.mul_one, Nat.add_zero] at hf34_2); have hx34_3 := hcc34 3 _ rfl; (try simp only [show (k29).sz = 6 from rfl, Nat.mul_one, Nat.add_zero] at hx34_3); have hf34_3 := hfr34 3; (try simp only [show (k29).sz = 6 from rfl, Nat.mul_one, Nat.add_zero] at hf34_3); have hx34_4 := hcc34 4 _ rfl; (try simp only [show (k29).sz = 6 from rfl, Nat.mul_one, Nat.add_zero] at hx34_4); have hf34_4 := hfr34 4; (try simp only [show (k29).sz = 6 from rfl, Nat.mul_one, Nat.add_zero] at hf34_4); have hx34_5 := hcc34 5 _ rfl; (try simp only [show (k29).sz = 6 from rfl, Nat.mul_one, Nat.add_zero] at hx34_5); have hf34_5 := hfr34 5; (try simp only [show (k29).sz = 6 from rfl, Nat.mul_one, Nat.add_zero] at hf34_5); clear hcl34 hcc34 hfr34 hM34) | ((with_reducible refine gate_store (t := 29) (p := 67) rfl ?_); refine store_event (t := 29) (p := 67) (v := ?vo_w35) (w1 := ((((((w33.setCell ⟨go28, ((ji25) : Int).toNat * 6, none⟩ (.int .i64 9)).setCell ⟨go28, ((ji25) : Int).toNat * 6 + 1, none⟩ (.int .i64 0)).setCell ⟨go28, ((ji25) : Int).toNat * 6 + 2, none⟩ (.int .i64 0)).setCell ⟨go28, ((ji25) : Int).toNat * 6 + 3, none⟩ (.int .i64 (t101.length : Int))).setCell ⟨go28, ((ji25) : Int).toNat * 6 + 4, none⟩ (.int .i64 0)).setCell ⟨go28, ((ji25) : Int).toNat * 6 + 5, none⟩ (.int .i64 0))) ?hg ?ho ?hn ?hr ?_; (case ho => rfl); (case hg => rfl); (case hn => rfl); (case hr => first | (go_simp; done) | (go_simp; rfl)); intro w35 hw; have hg : w33.grownBy w35 (some go28) := (by rw [hw]; exact HP34.2); have hp_ : Kd.R k29 29 w35 w.heap.size (fun k_ => some k_ ≠ (.slice Ao12 t101.length co12 : Value).ownBlock) (.slice (some ⟨go28, 0, none⟩) y111.length co28) y114 := (by rw [hw, Ny114.out]; exact HP34.1); clear HP34; replace HO_5 := Aside0.mk (Kd.R_after (v := (.slice (some ⟨go28, 0, none⟩) y111.length co28)) (v1 := (.slice (some ⟨go28, 0, none⟩) y111.length co28)) (ok := (fun _ => True)) (by exact rU HO_5.out) hg (.inl rfl)); replace HO113 := Aside0.mk (hp_); replace HB := Aside0.mk ((by rw [hw]; exact below_set (below_set (below_set (below_set (below_set (below_set (HB.out) GB28.out) GB28.out) GB28.out) GB28.out) GB28.out) GB28.out : Below w.heap.size w w35)); clear hg hw hp_) | ((with_reducible refine gate_callee (f := 35) rfl ?_); refine goesL_ (some 69) rfl rfl Try.func35 (by kernel_rfl) rfl #[.slice (some ⟨go28, 0, none⟩) y114.length co28] rfl (by (try simp only [List.map_toArray, List.map_cons, List.map_nil]); first | done | (rw [show y114.length = y111.length from (Kd.R_reads' HO113.out).1.symm] <;> rfl) | rfl | (simp only [List.length_drop, List.length_take]; rfl)) ?_; (with_reducible refine (impl_CodeOk.calls _ _ y114 true _ ?side1 ?side2 A29.out).mono ?_); (case side1 => repeat (first | exact (Kd.R_reads' HO113.out).2.2 | (with_reducible refine Kd.C_alloc ?_ _) | (with_reducible refine Kd.C_drewN ?_ _) | (with_reducible refine Kd.C_drew ?_))); (case side2 => rw [show y114.length = y111.length from (Kd.R_reads' HO113.out).1.symm]; exact (Kd.R_reads' HO113.out).2.1); rintro e w36 ⟨rfl, hb⟩; refine ⟨_, rfl, ?_⟩; replace HO_5 := Aside0.mk (Kd.R_below (by exact rU HO_5.out) hb); replace HO113 := Aside0.mk (Kd.R_below (by exact rU HO113.out) hb); replace HB := Aside0.mk (below_step (by exact bU HB.out) hb); (try clear hb); (try clear hb2); (try clear hk); (try clear hi)))
             go_ret
             exact ⟨by first | rfl | (simp [errW_none, errW_some] <;> rfl) | (simp only [← hji25]; first | rfl | (simp [errW_none, errW_some] <;> rfl)) | (simp [*, errW_none, errW_some] <;> rfl), by exact bU HB.out⟩
            ·replace c30 := Bool.eq_false_iff.mpr c30
             subst c30
             have H1 : ((codeV.f ([] : List (S29))).bind fun t116 => (if t116 = true then (some false) else (some (decide ((t101.length : Int) ≤ 16))))) = some r := by rw [if_neg (show ¬ (false = true) by decide)] at H; exact H
             clear H
             have H := H1
             clear H1
             replace H := Option.bind_eq_some_iff.mp H
             obtain ⟨t116, A370, H⟩ := H
             replace H : (if t116 = true then (some false) else (some (decide ((t101.length : Int) ≤ 16)))) = some r := H
             have A37 := Aside0.mk A370
             clear A370
             by_cases c38 : t116 = true
             ·subst c38
              have H1 : (some false) = some r := by rw [if_pos rfl] at H; exact H
              clear H
              have H := H1
              clear H1
              obtain rfl := Option.some.inj H
              go_wp2_with (first | ((with_reducible refine gate_dst (N := 55) rfl ?_); (try (refine gate_guard (by rfl) ?_; dsimp only)); refine Kd.R_lit k29 _ 29 ?hg (N := 55) ?hd (xs := ([] : List (S29))) (inner := []) (ok := fun _ => True) (okp := fun _ => True) ?hr ?hp (fun _ hk => hk) trivial (Below.refl _ _) (Nat.le_refl _) (by simp) ?_; (case hd => rfl); (case hg => rfl); (case hr => first | (go_simp; done) | (go_simp; rfl)); (case hp => exact (Reps.none _ _)); intro v109 w39 ho40 hb hg_ hnew_; clear hg_ hnew_; (first | rw [← Ny108.out] at ho40 | (simp only [Int.reduceToNat] at ho40; rw [← Ny108.out] at ho40)); have n0_ := Aside0.mk (Kd.R_elder' (by exact rU HO_5.out) (Kd.R_base ho40) hb); have n1_ := Aside0.mk (Kd.R_lower (Kd.R_new' ho40 (Kd.R_lt (by exact rU HO_5.out))) (below_size (by exact bU HB.out))); have n2_ := Aside0.mk (below_step (by exact bU HB.out) hb); clear HO_5; clear HB; have HO_5 := n0_; have HO110 := n1_; have HB := n2_; clear n0_ n1_ n2_; clear hb ho40) | ((with_reducible refine gate_builtin (b := .append) (xs := #[.tmp 55, .tmp 56]) rfl ?_); (try (refine gate_guard (by rfl) ?_; dsimp only)); at_builtin; refine Kd.R_append_rows k29 (w0 := w) w.heap.size rfl (.tmp 55) (.tmp 56) 42 29 (.agg #[(.int .i64 0), (.int .i64 0), (.int .i64 0), (.int .i64 0), (.int .i64 0), (.int .i64 0)]) 48 rfl Try.underlying42 info29 rfl (by decide) (by omega) v109 y108 t101 _ _ _ (fun k_ => some k_ ≠ (.slice Ao12 t101.length co12 : Value).ownBlock) (fun _ => False) rfl rfl ?aO ?aR (fun _ _ h => h) (fun _ h => h.elim) ?aF ?aB ?aS ?aL ?_; (case aR => repeat (first | exact (Kd.R_reads' HO_5.out).2.2 | (with_reducible refine Kd.C_alloc ?_ _) | (with_reducible refine Kd.C_drewN ?_ _) | (with_reducible refine Kd.C_drew ?_))); (case aB => exact (by exact bU HB.out)); (case aF => exact (fun k_ hk => Kd.fresh' (Kd.R_lt (by exact rU HO_5.out)) k_ hk)); (case aO => exact (by (with_reducible repeat (first | apply rA | apply rN | apply rD)); exact Kd.R_mono HO110.out (fun _ hk => hk.2))); (case aS => exact (below_size (by exact bU HB.out))); (case aL => have := LMc23.out; omega); intro v112 w41 ho hb hg hat; rw [← Ny111.out] at ho; replace HO_5 := Aside0.mk (Kd.R_after (ok := (fun _ => True)) (by exact rU HO_5.out) hg hat); replace HB := Aside0.mk (hb); have HO113 := Aside0.mk (ho); clear HO110; clear ho hb hg hat; have p28 : 0 ≤ ((ji25) : Int) := of_decide_eq_true (by assumption); have q28 : ((ji25) : Int) < ((y111.length : Int) : Int) := of_decide_eq_true (by assumption); obtain ⟨go28, co28, eo28, gb28, gl28, cl28, HG28⟩ := Kd.R_form HO113.out (by omega); (first | cases eo28 | (injection eo28 with ea_ en_ ec_; (first | subst ea_ | (injection ea_ with ea_; subst ea_)); subst ec_; clear en_)); have GB28 := Aside0.mk gb28; have GG28 := Aside0.mk HG28; clear gb28 gl28 HG28; obtain ⟨ce28, hcl28, hM28, hcc28, hfr28⟩ := Kd.R_elem HO113.out z29 ((ji25) : Int) p28 q28; obtain rfl := k29_openM hM28; have hx28_0 : w41.cell? ⟨go28, ((ji25) : Int).toNat * 6, none⟩ = some (.int .i64 ((rd_T29 y111 (ji25)).f0)) := hcc28 0 _ rfl; have hx28_1 : w41.cell? ⟨go28, ((ji25) : Int).toNat * 6 + 1, none⟩ = some (.int .i64 ((rd_T29 y111 (ji25)).f1)) := hcc28 1 _ rfl; have hx28_2 : w41.cell? ⟨go28, ((ji25) : Int).toNat * 6 + 2, none⟩ = some (.int .i64 ((rd_T29 y111 (ji25)).f2)) := hcc28 2 _ rfl; have hx28_3 : w41.cell? ⟨go28, ((ji25) : Int).toNat * 6 + 3, none⟩ = some (.int .i64 ((rd_T29 y111 (ji25)).f3)) := hcc28 3 _ rfl; have hx28_4 : w41.cell? ⟨go28, ((ji25) : Int).toNat * 6 + 4, none⟩ = some (.int .i64 ((rd_T29 y111 (ji25)).f4.f0)) := hcc28 4 _ rfl; have hx28_5 : w41.cell? ⟨go28, ((ji25) : Int).toNat * 6 + 5, none⟩ = some (.int .i64 ((rd_T29 y111 (ji25)).f4.f1)) := hcc28 5 _ rfl; have hf28_0 : w41.frozen? ⟨go28, ((ji25) : Int).toNat * 6, none⟩ = false := hfr28 0; have hf28_1 : w41.frozen? ⟨go28, ((ji25) : Int).toNat * 6 + 1, none⟩ = false := hfr28 1; have hf28_2 : w41.frozen? ⟨go28, ((ji25) : Int).toNat * 6 + 2, none⟩ = false := hfr28 2; have hf28_3 : w41.frozen? ⟨go28, ((ji25) : Int).toNat * 6 + 3, none⟩ = false := hfr28 3; have hf28_4 : w41.frozen? ⟨go28, ((ji25) : Int).toNat * 6 + 4, none⟩ = false := hfr28 4; have hf28_5 : w41.frozen? ⟨go28, ((ji25) : Int).toNat * 6 + 5, none⟩ = false := hfr28 5; clear hcl28 hcc28 hfr28 hM28; replace p28 := eq_true p28; replace q28 := eq_true q28; have HX42 := Aside0.mk (show Kd.R k29 29 w41 w.heap.size (fun k_ => some k_ ≠ (.slice Ao12 t101.length co12 : Value).ownBlock) (.slice (some ⟨go28, 0, none⟩) y111.length co28) y111 from (by exact rU HO113.out)); obtain ⟨ce42, hcl42, hM42, hcc42, hfr42⟩ := Kd.R_elem HX42.out z29 ((ji25) : Int) (of_decide_eq_true (by assumption)) (by have h_ : ((ji25) : Int) < ((y111.length : Int) : Int) := of_decide_eq_true (by assumption); first | exact h_ | (have e_ := (Kd.R_reads' HO113.out).1; omega) | simpa using h_); obtain rfl := k29_openM hM42; have HP42 := Kd.R_seg HX42.out ((ji25) : Int) (of_decide_eq_true (by assumption)) (by have h_ : ((ji25) : Int) < ((y111.length : Int) : Int) := of_decide_eq_true (by assumption); first | exact h_ | (have e_ := (Kd.R_reads' HO113.out).1; omega) | simpa using h_) (seg := [.int .i64 9, .int .i64 0, .int .i64 0, .int .i64 (t101.length : Int), .int .i64 0, .int .i64 0]) (j := 0) hcl42 hcc42 (show 6 ≤ 6 from by decide) (x' := (⟨9, 0, 0, (t101.length : Int), (⟨0, 0⟩ : S27)⟩ : S29)) (k29_mkM _ _ _ (⟨9, 0, 0, (t101.length : Int), (⟨0, 0⟩ : S27)⟩ : S29) ) (fun _ hk => hk); have hx42_0 := hcc42 0 _ rfl; (try simp only [show (k29).sz = 6 from rfl, Nat.mul_one, Nat.add_zero] at hx42_0); have hf42_0 := hfr42 0; (try simp only [show (k29).sz = 6 from rfl, Nat.mul_one, Nat.add_zero] at hf42_0); have hx42_1 := hcc42 1 _ rfl; (try simp only [show (k29).sz = 6 from rfl, Nat.mul_one, Nat.add_zero] at hx42_1); have hf42_1 := hfr42 1; (try simp only [show (k29).sz = 6 from rfl, Nat.mul_one, Nat.add_zero] at hf42_1); have hx42_2 := hcc42 2 _ rfl; (try simp only [show (k29).sz = 6 from rfl, Nat.mul_one, Nat.add_zero] at hx42_2); have hf42_2 := hfr42 2; (try simp only [show (k29).sz = 6 from rfl, Nat.mul_one, Nat.add_zero] at hf42_2); have hx42_3 := hcc42 3 _ rfl; (try simp only [show (k29).sz = 6 from rfl, Nat.mul_one, Nat.add_zero] at hx42_3); have hf42_3 := hfr42 3; (try simp only [show (k29).sz = 6 from rfl, Nat.mul_one, Nat.add_zero] at hf42_3); have hx42_4 := hcc42 4 _ rfl; (try simp only [show (k29).sz = 6 from rfl, Nat.mul_one, Nat.add_zero] at hx42_4); have hf42_4 := hfr42 4; (try simp only [show (k29).sz = 6 from rfl, Nat.mul_one, Nat.add_zero] at hf42_4); have hx42_5 := hcc42 5 _ rfl; (try simp only [show (k29).sz = 6 from rfl, Nat.mul_one, Nat.add_zero] at hx42_5); have hf42_5 := hfr42 5; (try simp only [show (k29).sz = 6 from rfl, Nat.mul_one, Nat.add_zero] at hf42_5); clear hcl42 hcc42 hfr42 hM42) | ((with_reducible refine gate_store (t := 29) (p := 67) rfl ?_); refine store_event (t := 29) (p := 67) (v := ?vo_w43) (w1 := ((((((w41.setCell ⟨go28, ((ji25) : Int).toNat * 6, none⟩ (.int .i64 9)).setCell ⟨go28, ((ji25) : Int).toNat * 6 + 1, none⟩ (.int .i64 0)).setCell ⟨go28, ((ji25) : Int).toNat * 6 + 2, none⟩ (.int .i64 0)).setCell ⟨go28, ((ji25) : Int).toNat * 6 + 3, none⟩ (.int .i64 (t101.length : Int))).setCell ⟨go28, ((ji25) : Int).toNat * 6 + 4, none⟩ (.int .i64 0)).setCell ⟨go28, ((ji25) : Int).toNat * 6 + 5, none⟩ (.int .i64 0))) ?hg ?ho ?hn ?hr ?_; (case ho => rfl); (case hg => rfl); (case hn => rfl); (case hr => first | (go_simp; done) | (go_simp; rfl)); intro w43 hw; have hg : w41.grownBy w43 (some go28) := (by rw [hw]; exact HP42.2); have hp_ : Kd.R k29 29 w43 w.heap.size (fun k_ => some k_ ≠ (.slice Ao12 t101.length co12 : Value).ownBlock) (.slice (some ⟨go28, 0, none⟩) y111.length co28) y114 := (by rw [hw, Ny114.out]; exact HP42.1); clear HP42; replace HO_5 := Aside0.mk (Kd.R_after (v := (.slice (some ⟨go28, 0, none⟩) y111.length co28)) (v1 := (.slice (some ⟨go28, 0, none⟩) y111.length co28)) (ok := (fun _ => True)) (by exact rU HO_5.out) hg (.inl rfl)); replace HO113 := Aside0.mk (hp_); replace HB := Aside0.mk ((by rw [hw]; exact below_set (below_set (below_set (below_set (below_set (below_set (HB.out) GB28.out) GB28.out) GB28.out) GB28.out) GB28.out) GB28.out : Below w.heap.size w w43)); clear hg hw hp_) | ((with_reducible refine gate_callee (f := 35) rfl ?_); refine goesL_ (some 69) rfl rfl Try.func35 (by kernel_rfl) rfl #[.slice (some ⟨go28, 0, none⟩) y114.length co28] rfl (by (try simp only [List.map_toArray, List.map_cons, List.map_nil]); first | done | (rw [show y114.length = y111.length from (Kd.R_reads' HO113.out).1.symm] <;> rfl) | rfl | (simp only [List.length_drop, List.length_take]; rfl)) ?_; (with_reducible refine (impl_CodeOk.calls _ _ y114 false _ ?side1 ?side2 A29.out).mono ?_); (case side1 => repeat (first | exact (Kd.R_reads' HO113.out).2.2 | (with_reducible refine Kd.C_alloc ?_ _) | (with_reducible refine Kd.C_drewN ?_ _) | (with_reducible refine Kd.C_drew ?_))); (case side2 => rw [show y114.length = y111.length from (Kd.R_reads' HO113.out).1.symm]; exact (Kd.R_reads' HO113.out).2.1); rintro e w44 ⟨rfl, hb⟩; refine ⟨_, rfl, ?_⟩; replace HO_5 := Aside0.mk (Kd.R_below (by exact rU HO_5.out) hb); replace HO113 := Aside0.mk (Kd.R_below (by exact rU HO113.out) hb); replace HB := Aside0.mk (below_step (by exact bU HB.out) hb); (try clear hb); (try clear hb2); (try clear hk); (try clear hi)) | (go_at_call 35; (refine (impl_CodeOk.calls _ _ ([] : List (S29)) true _ ?side1 ?side2 A37.out).mono ?_); (case side1 => exact Kd.C_nil _ _); (case side2 => exact Nat.le_refl _); rintro e w45 ⟨rfl, hb⟩; replace HO_5 := Aside0.mk (Kd.R_below (by exact rU HO_5.out) hb); replace HO113 := Aside0.mk (Kd.R_below (by exact rU HO113.out) hb); replace HB := Aside0.mk (below_step (by exact bU HB.out) hb); (try clear hb); (try clear hb2); (try clear hk); (try clear hi)))
              go_ret
              exact ⟨by first | rfl | (simp [errW_none, errW_some] <;> rfl) | (simp only [← hji25]; first | rfl | (simp [errW_none, errW_some] <;> rfl)) | (simp [*, errW_none, errW_some] <;> rfl), by exact bU HB.out⟩
             ·replace c38 := Bool.eq_false_iff.mpr c38
              subst c38
              have H1 : (some (decide ((t101.length : Int) ≤ 16))) = some r := by rw [if_neg (show ¬ (false = true) by decide)] at H; exact H
              clear H
              have H := H1
              clear H1
              obtain rfl := Option.some.inj H
              go_wp2_with (first | ((with_reducible refine gate_dst (N := 55) rfl ?_); (try (refine gate_guard (by rfl) ?_; dsimp only)); refine Kd.R_lit k29 _ 29 ?hg (N := 55) ?hd (xs := ([] : List (S29))) (inner := []) (ok := fun _ => True) (okp := fun _ => True) ?hr ?hp (fun _ hk => hk) trivial (Below.refl _ _) (Nat.le_refl _) (by simp) ?_; (case hd => rfl); (case hg => rfl); (case hr => first | (go_simp; done) | (go_simp; rfl)); (case hp => exact (Reps.none _ _)); intro v109 w46 ho47 hb hg_ hnew_; clear hg_ hnew_; (first | rw [← Ny108.out] at ho47 | (simp only [Int.reduceToNat] at ho47; rw [← Ny108.out] at ho47)); have n0_ := Aside0.mk (Kd.R_elder' (by exact rU HO_5.out) (Kd.R_base ho47) hb); have n1_ := Aside0.mk (Kd.R_lower (Kd.R_new' ho47 (Kd.R_lt (by exact rU HO_5.out))) (below_size (by exact bU HB.out))); have n2_ := Aside0.mk (below_step (by exact bU HB.out) hb); clear HO_5; clear HB; have HO_5 := n0_; have HO110 := n1_; have HB := n2_; clear n0_ n1_ n2_; clear hb ho47) | ((with_reducible refine gate_builtin (b := .append) (xs := #[.tmp 55, .tmp 56]) rfl ?_); (try (refine gate_guard (by rfl) ?_; dsimp only)); at_builtin; refine Kd.R_append_rows k29 (w0 := w) w.heap.size rfl (.tmp 55) (.tmp 56) 42 29 (.agg #[(.int .i64 0), (.int .i64 0), (.int .i64 0), (.int .i64 0), (.int .i64 0), (.int .i64 0)]) 48 rfl Try.underlying42 info29 rfl (by decide) (by omega) v109 y108 t101 _ _ _ (fun k_ => some k_ ≠ (.slice Ao12 t101.length co12 : Value).ownBlock) (fun _ => False) rfl rfl ?aO ?aR (fun _ _ h => h) (fun _ h => h.elim) ?aF ?aB ?aS ?aL ?_; (case aR => repeat (first | exact (Kd.R_reads' HO_5.out).2.2 | (with_reducible refine Kd.C_alloc ?_ _) | (with_reducible refine Kd.C_drewN ?_ _) | (with_reducible refine Kd.C_drew ?_))); (case aB => exact (by exact bU HB.out)); (case aF => exact (fun k_ hk => Kd.fresh' (Kd.R_lt (by exact rU HO_5.out)) k_ hk)); (case aO => exact (by (with_reducible repeat (first | apply rA | apply rN | apply rD)); exact Kd.R_mono HO110.out (fun _ hk => hk.2))); (case aS => exact (below_size (by exact bU HB.out))); (case aL => have := LMc23.out; omega); intro v112 w48 ho hb hg hat; rw [← Ny111.out] at ho; replace HO_5 := Aside0.mk (Kd.R_after (ok := (fun _ => True)) (by exact rU HO_5.out) hg hat); replace HB := Aside0.mk (hb); have HO113 := Aside0.mk (ho); clear HO110; clear ho hb hg hat; have p28 : 0 ≤ ((ji25) : Int) := of_decide_eq_true (by assumption); have q28 : ((ji25) : Int) < ((y111.length : Int) : Int) := of_decide_eq_true (by assumption); obtain ⟨go28, co28, eo28, gb28, gl28, cl28, HG28⟩ := Kd.R_form HO113.out (by omega); (first | cases eo28 | (injection eo28 with ea_ en_ ec_; (first | subst ea_ | (injection ea_ with ea_; subst ea_)); subst ec_; clear en_)); have GB28 := Aside0.mk gb28; have GG28 := Aside0.mk HG28; clear gb28 gl28 HG28; obtain ⟨ce28, hcl28, hM28, hcc28, hfr28⟩ := Kd.R_elem HO113.out z29 ((ji25) : Int) p28 q28; obtain rfl := k29_openM hM28; have hx28_0 : w48.cell? ⟨go28, ((ji25) : Int).toNat * 6, none⟩ = some (.int .i64 ((rd_T29 y111 (ji25)).f0)) := hcc28 0 _ rfl; have hx28_1 : w48.cell? ⟨go28, ((ji25) : Int).toNat * 6 + 1, none⟩ = some (.int .i64 ((rd_T29 y111 (ji25)).f1)) := hcc28 1 _ rfl; have hx28_2 : w48.cell? ⟨go28, ((ji25) : Int).toNat * 6 + 2, none⟩ = some (.int .i64 ((rd_T29 y111 (ji25)).f2)) := hcc28 2 _ rfl; have hx28_3 : w48.cell? ⟨go28, ((ji25) : Int).toNat * 6 + 3, none⟩ = some (.int .i64 ((rd_T29 y111 (ji25)).f3)) := hcc28 3 _ rfl; have hx28_4 : w48.cell? ⟨go28, ((ji25) : Int).toNat * 6 + 4, none⟩ = some (.int .i64 ((rd_T29 y111 (ji25)).f4.f0)) := hcc28 4 _ rfl; have hx28_5 : w48.cell? ⟨go28, ((ji25) : Int).toNat * 6 + 5, none⟩ = some (.int .i64 ((rd_T29 y111 (ji25)).f4.f1)) := hcc28 5 _ rfl; have hf28_0 : w48.frozen? ⟨go28, ((ji25) : Int).toNat * 6, none⟩ = false := hfr28 0; have hf28_1 : w48.frozen? ⟨go28, ((ji25) : Int).toNat * 6 + 1, none⟩ = false := hfr28 1; have hf28_2 : w48.frozen? ⟨go28, ((ji25) : Int).toNat * 6 + 2, none⟩ = false := hfr28 2; have hf28_3 : w48.frozen? ⟨go28, ((ji25) : Int).toNat * 6 + 3, none⟩ = false := hfr28 3; have hf28_4 : w48.frozen? ⟨go28, ((ji25) : Int).toNat * 6 + 4, none⟩ = false := hfr28 4; have hf28_5 : w48.frozen? ⟨go28, ((ji25) : Int).toNat * 6 + 5, none⟩ = false := hfr28 5; clear hcl28 hcc28 hfr28 hM28; replace p28 := eq_true p28; replace q28 := eq_true q28; have HX49 := Aside0.mk (show Kd.R k29 29 w48 w.heap.size (fun k_ => some k_ ≠ (.slice Ao12 t101.length co12 : Value).ownBlock) (.slice (some ⟨go28, 0, none⟩) y111.length co28) y111 from (by exact rU HO113.out)); obtain ⟨ce49, hcl49, hM49, hcc49, hfr49⟩ := Kd.R_elem HX49.out z29 ((ji25) : Int) (of_decide_eq_true (by assumption)) (by have h_ : ((ji25) : Int) < ((y111.length : Int) : Int) := of_decide_eq_true (by assumption); first | exact h_ | (have e_ := (Kd.R_reads' HO113.out).1; omega) | simpa using h_); obtain rfl := k29_openM hM49; have HP49 := Kd.R_seg HX49.out ((ji25) : Int) (of_decide_eq_true (by assumption)) (by have h_ : ((ji25) : Int) < ((y111.length : Int) : Int) := of_decide_eq_true (by assumption); first | exact h_ | (have e_ := (Kd.R_reads' HO113.out).1; omega) | simpa using h_) (seg := [.int .i64 9, .int .i64 0, .int .i64 0, .int .i64 (t101.length : Int), .int .i64 0, .int .i64 0]) (j := 0) hcl49 hcc49 (show 6 ≤ 6 from by decide) (x' := (⟨9, 0, 0, (t101.length : Int), (⟨0, 0⟩ : S27)⟩ : S29)) (k29_mkM _ _ _ (⟨9, 0, 0, (t101.length : Int), (⟨0, 0⟩ : S27)⟩ : S29) ) (fun _ hk => hk); have hx49_0 := hcc49 0 _ rfl; (try simp only [show (k29).sz = 6 from rfl, Nat.mul_one, Nat.add_zero] at hx49_0); have hf49_0 := hfr49 0; (try simp only [show (k29).sz = 6 from rfl, Nat.mul_one, Nat.add_zero] at hf49_0); have hx49_1 := hcc49 1 _ rfl; (try simp only [show (k29).sz = 6 from rfl, Nat.mul_one, Nat.add_zero] at hx49_1); have hf49_1 := hfr49 1; (try simp only [show (k29).sz = 6 from rfl, Nat.mul_one, Nat.add_zero] at hf49_1); have hx49_2 := hcc49 2 _ rfl; (try simp only [show (k29).sz = 6 from rfl, Nat.mul_one, Nat.add_zero] at hx49_2); have hf49_2 := hfr49 2; (try simp only [show (k29).sz = 6 from rfl, Nat.mul_one, Nat.add_zero] at hf49_2); have hx49_3 := hcc49 3 _ rfl; (try simp only [show (k29).sz = 6 from rfl, Nat.mul_one, Nat.add_zero] at hx49_3); have hf49_3 := hfr49 3; (try simp only [show (k29).sz = 6 from rfl, Nat.mul_one, Nat.add_zero] at hf49_3); have hx49_4 := hcc49 4 _ rfl; (try simp only [show (k29).sz = 6 from rfl, Nat.mul_one, Nat.add_zero] at hx49_4); have hf49_4 := hfr49 4; (try simp only [show (k29).sz = 6 from rfl, Nat.mul_one, Nat.add_zero] at hf49_4); have hx49_5 := hcc49 5 _ rfl; (try simp only [show (k29).sz = 6 from rfl, Nat.mul_one, Nat.add_zero] at hx49_5); have hf49_5 := hfr49 5; (try simp only [show (k29).sz = 6 from rfl, Nat.mul_one, Nat.add_zero] at hf49_5); clear hcl49 hcc49 hfr49 hM49) | ((with_reducible refine gate_store (t := 29) (p := 67) rfl ?_); refine store_event (t := 29) (p := 67) (v := ?vo_w50) (w1 := ((((((w48.setCell ⟨go28, ((ji25) : Int).toNat * 6, none⟩ (.int .i64 9)).setCell ⟨go28, ((ji25) : Int).toNat * 6 + 1, none⟩ (.int .i64 0)).setCell ⟨go28, ((ji25) : Int).toNat * 6 + 2, none⟩ (.int .i64 0)).setCell ⟨go28, ((ji25) : Int).toNat * 6 + 3, none⟩ (.int .i64 (t101.length : Int))).setCell ⟨go28, ((ji25) : Int).toNat * 6 + 4, none⟩ (.int .i64 0)).setCell ⟨go28, ((ji25) : Int).toNat * 6 + 5, none⟩ (.int .i64 0))) ?hg ?ho ?hn ?hr ?_; (case ho => rfl); (case hg => rfl); (case hn => rfl); (case hr => first | (go_simp; done) | (go_simp; rfl)); intro w50 hw; have hg : w48.grownBy w50 (some go28) := (by rw [hw]; exact HP49.2); have hp_ : Kd.R k29 29 w50 w.heap.size (fun k_ => some k_ ≠ (.slice Ao12 t101.length co12 : Value).ownBlock) (.slice (some ⟨go28, 0, none⟩) y111.length co28) y114 := (by rw [hw, Ny114.out]; exact HP49.1); clear HP49; replace HO_5 := Aside0.mk (Kd.R_after (v := (.slice (some ⟨go28, 0, none⟩) y111.length co28)) (v1 := (.slice (some ⟨go28, 0, none⟩) y111.length co28)) (ok := (fun _ => True)) (by exact rU HO_5.out) hg (.inl rfl)); replace HO113 := Aside0.mk (hp_); replace HB := Aside0.mk ((by rw [hw]; exact below_set (below_set (below_set (below_set (below_set (below_set (HB.out) GB28.out) GB28.out) GB28.out) GB28.out) GB28.out) GB28.out : Below w.heap.size w w50)); clear hg hw hp_) | ((with_reducible refine gate_callee (f := 35) rfl ?_); refine goesL_ (some 69) rfl rfl Try.func35 (by kernel_rfl) rfl #[.slice (some ⟨go28, 0, none⟩) y114.length co28] rfl (by (try simp only [List.map_toArray, List.map_cons, List.map_nil]); first | done | (rw [show y114.length = y111.length from (Kd.R_reads' HO113.out).1.symm] <;> rfl) | rfl | (simp only [List.length_drop, List.length_take]; rfl)) ?_; (with_reducible refine (impl_CodeOk.calls _ _ y114 false _ ?side1 ?side2 A29.out).mono ?_); (case side1 => repeat (first | exact (Kd.R_reads' HO113.out).2.2 | (with_reducible refine Kd.C_alloc ?_ _) | (with_reducible refine Kd.C_drewN ?_ _) | (with_reducible refine Kd.C_drew ?_))); (case side2 => rw [show y114.length = y111.length from (Kd.R_reads' HO113.out).1.symm]; exact (Kd.R_reads' HO113.out).2.1); rintro e w51 ⟨rfl, hb⟩; refine ⟨_, rfl, ?_⟩; replace HO_5 := Aside0.mk (Kd.R_below (by exact rU HO_5.out) hb); replace HO113 := Aside0.mk (Kd.R_below (by exact rU HO113.out) hb); replace HB := Aside0.mk (below_step (by exact bU HB.out) hb); (try clear hb); (try clear hb2); (try clear hk); (try clear hi)) | (go_at_call 35; (refine (impl_CodeOk.calls _ _ ([] : List (S29)) false _ ?side1 ?side2 A37.out).mono ?_); (case side1 => exact Kd.C_nil _ _); (case side2 => exact Nat.le_refl _); rintro e w52 ⟨rfl, hb⟩; replace HO_5 := Aside0.mk (Kd.R_below (by exact rU HO_5.out) hb); replace HO113 := Aside0.mk (Kd.R_below (by exact rU HO113.out) hb); replace HB := Aside0.mk (below_step (by exact bU HB.out) hb); (try clear hb); (try clear hb2); (try clear hk); (try clear hi)))
              go_ret
              exact ⟨by first | rfl | (simp [errW_none, errW_some] <;> rfl) | (simp only [← hji25]; first | rfl | (simp [errW_none, errW_some] <;> rfl)) | (simp [*, errW_none, errW_some] <;> rfl), by exact bU HB.out⟩
           ·rw [if_neg c27] at H
            exact absurd H (by simp)
          ·rw [if_neg c26] at H
           exact absurd H (by simp)
        ·rw [if_neg c23] at H
         exact absurd H (by simp)
    ·replace c10 := Bool.eq_false_iff.mpr c10
     subst c10
     have H1 : (some true) = some r := by rw [if_neg (show ¬ (false = true) by decide)] at H; exact H
     clear H
     have H := H1
     clear H1
     have z53 : (false == false) = true := by simp
     have z54 : (false != false) = false := by simp
     obtain rfl := Option.some.inj H
     go_wp2_with (first | ((with_reducible refine gate_callee (f := 47) rfl ?_); refine goesL_ (some 18) rfl rfl Try.func47 (by kernel_rfl) rfl #[.slice A0 l0.length c0] rfl (by (try simp only [List.map_toArray, List.map_cons, List.map_nil]) <;> rfl) ?_; (with_reducible refine (spec_DrawCodeOk.calls kj2 _ _ l0 t101 _ ?side1 ?side2 A6.out).mono ?_); (case side1 => repeat (first | exact (Kd.C_below HR0.out HB.out) | (with_reducible refine Kd.C_alloc ?_ _) | (with_reducible refine Kd.C_drewN ?_ _) | (with_reducible refine Kd.C_drew ?_))); (case side2 => exact HC0.out); rintro e w55 ⟨v102, rfl, ho0, hb⟩; refine ⟨_, rfl, ?_⟩; have HO103 := Aside0.mk (Kd.R_lower ho0 (below_size (by exact bU HB.out))); replace HB := Aside0.mk (below_step (by exact bU HB.out) hb); (try clear hb); (try clear hb2); (try clear hk); (try clear hi); (try clear ho0); obtain ⟨Ao56, co56, eo56⟩ := Kd.R_slice HO103.out; subst eo56) | ((with_reducible refine gate_callee (f := 35) rfl ?_); refine goesL_ (some 20) rfl rfl Try.func35 (by kernel_rfl) rfl #[.slice Ao56 t101.length co56] rfl (by (try simp only [List.map_toArray, List.map_cons, List.map_nil]) <;> rfl) ?_; (with_reducible refine (impl_CodeOk.calls _ _ t101 false _ ?side1 ?side2 A7.out).mono ?_); (case side1 => repeat (first | exact (Kd.R_reads' HO103.out).2.2 | (with_reducible refine Kd.C_alloc ?_ _) | (with_reducible refine Kd.C_drewN ?_ _) | (with_reducible refine Kd.C_drew ?_))); (case side2 => exact (Kd.R_reads' HO103.out).2.1); rintro e w57 ⟨rfl, hb⟩; refine ⟨_, rfl, ?_⟩; replace HO103 := Aside0.mk (Kd.R_below (by exact rU HO103.out) hb); replace HB := Aside0.mk (below_step (by exact bU HB.out) hb); (try clear hb); (try clear hb2); (try clear hk); (try clear hi)) | ((with_reducible refine gate_callee (f := 33) rfl ?_); refine goesL_ (some 23) rfl rfl Try.func33 (by kernel_rfl) rfl #[.slice Ao56 t101.length co56] rfl (by (try simp only [List.map_toArray, List.map_cons, List.map_nil]) <;> rfl) ?_; (with_reducible refine (spec_CodeOk_as.calls _ _ t101 false _ ?side1 ?side2 A7.out).mono ?_); (case side1 => repeat (first | exact (Kd.R_reads' HO103.out).2.2 | (with_reducible refine Kd.C_alloc ?_ _) | (with_reducible refine Kd.C_drewN ?_ _) | (with_reducible refine Kd.C_drew ?_))); (case side2 => exact (Kd.R_reads' HO103.out).2.1); rintro e w58 ⟨rfl, hb⟩; refine ⟨_, rfl, ?_⟩; replace HO103 := Aside0.mk (Kd.R_below (by exact rU HO103.out) hb); replace HB := Aside0.mk (below_step (by exact bU HB.out) hb); (try clear hb); (try clear hb2); (try clear hk); (try clear hi)) | ((with_reducible refine gate_callee (f := 33) rfl ?_); refine goesL_ (some 31) rfl rfl Try.func33 (by kernel_rfl) rfl #[.slice Ao56 t101.length co56] rfl (by (try simp only [List.map_toArray, List.map_cons, List.map_nil]) <;> rfl) ?_; (with_reducible refine (spec_CodeOk_as.calls _ _ t101 false _ ?side1 ?side2 A7.out).mono ?_); (case side1 => repeat (first | exact (Kd.R_reads' HO103.out).2.2 | (with_reducible refine Kd.C_alloc ?_ _) | (with_reducible refine Kd.C_drewN ?_ _) | (with_reducible refine Kd.C_drew ?_))); (case side2 => exact (Kd.R_reads' HO103.out).2.1); rintro e w59 ⟨rfl, hb⟩; refine ⟨_, rfl, ?_⟩; replace HO103 := Aside0.mk (Kd.R_below (by exact rU HO103.out) hb); replace HB := Aside0.mk (below_step (by exact bU HB.out) hb); (try clear hb); (try clear hb2); (try clear hk); (try clear hi)))
     go_ret
     exact ⟨by first | rfl | (simp [errW_none, errW_some] <;> rfl) | (simp [*, errW_none, errW_some] <;> rfl), by exact bU HB.out⟩
def laws_FnCodeGoes.Pure : Prop := ∀ (l0 : List Int) (l1 : List Int), l0.length ≤ maxLen → l0.length * 1 ≤ 140737488351232 → (∀ x ∈ l0, (Lit.int .u8 x).wf = true) → l1.length ≤ maxLen → l1.length * 1 ≤ 140737488351232 → (∀ x ∈ l1, (Lit.int .u8 x).wf = true) → ∃ k, laws_FnCodeGoes.f k l0 l1 = some true
theorem laws_FnCodeGoes.walk (P : laws_FnCodeGoes.Pure) (a0 : Option Addr) (len0 cap0 : Nat) (z0 : List Int) (a1 : Option Addr) (len1 cap1 : Nat) (z1 : List Int) (w : World) (w0 : (a0 = none ∧ len0 = 0 ∧ cap0 = 0 ∧ z0 = []) ∨ ∃ x, a0 = some x ∧ len0 ≤ cap0 ∧ cap0 ≤ maxLen ∧ z0.length = cap0 ∧ (∀ i, i < z0.length → w.cell? (x.add i) = some (.int .u8 (z0.getD i 0))) ∧ ∀ n ∈ z0, (Lit.int .u8 n).wf = true) (y0 : len0 * 1 ≤ 140737488351232) (w1 : (a1 = none ∧ len1 = 0 ∧ cap1 = 0 ∧ z1 = []) ∨ ∃ x, a1 = some x ∧ len1 ≤ cap1 ∧ cap1 ≤ maxLen ∧ z1.length = cap1 ∧ (∀ i, i < z1.length → w.cell? (x.add i) = some (.int .u8 (z1.getD i 0))) ∧ ∀ n ∈ z1, (Lit.int .u8 n).wf = true) (y1 : len1 * 1 ≤ 140737488351232) :
  Calls Try.prog 12 #[.slice a0 len0 cap0, .slice a1 len1 cap1] w fun e w' => e = .returned (.bool true) ∧ Below w.heap.size w w' := by
 obtain ⟨l0, rfl, hr0, hm0, hw0, hc0⟩ := ReadsInt.ofRowC w0
 obtain ⟨l1, rfl, hr1, hm1, hw1, hc1⟩ := ReadsInt.ofRowC w1
 obtain ⟨k, h⟩ := P l0 l1 hm0 y0 hw0 hm1 y1 hw1
 refine (laws_FnCodeGoes.calls k _ _ l0 _ _ l1 true w (Kd.C_of_reads (d := (0 : Int)) (h1 := fun _ => rfl) hr0) hc0 (Kd.C_of_reads (d := (0 : Int)) (h1 := fun _ => rfl) hr1) hc1 h).mono ?_
 rintro e w' ⟨rfl, hd⟩
 exact ⟨rfl, hd⟩
end Go.Proofs.Ytmklpbmlgjkbiaa.PJK
end
section
namespace Go.Proofs.Ytmklpbmlgjkbiaa.PS
open Go.RowKit Go.Proofs.YtmklpbmlgjkbiaaW.PrintWords Go.Proofs.YtmklpbmlgjkbiaaW.PrintLast
theorem wr64 {x : Int} (h0 : -9223372036854775808 ≤ x) (h1 : x ≤ 9223372036854775807) : wrap64 x = x := by
  unfold wrap64; omega
theorem xor_nonneg (a b : Int) (ha : 0 ≤ a) (ha' : a < 4611686018427387904) (hb : 0 ≤ b) (hb' : b < 4611686018427387904) : 0 ≤ Go.bits .xor .i64 a b := by
  obtain ⟨m, rfl⟩ := Int.eq_ofNat_of_zero_le ha
  obtain ⟨n, rfl⟩ := Int.eq_ofNat_of_zero_le hb
  have hm : m < 2 ^ 62 := by omega
  have hn : n < 2 ^ 62 := by omega
  have hx : m ^^^ n < 2 ^ 62 := Nat.xor_lt_two_pow hm hn
  have e1 : m % 2 ^ IntKind.i64.bits = m := Nat.mod_eq_of_lt (by show m < 2 ^ 64; omega)
  have e2 : n % 2 ^ IntKind.i64.bits = n := Nat.mod_eq_of_lt (by show n < 2 ^ 64; omega)
  simp only [bits, BitVec.ofInt_natCast, BitVec.toNat_xor, BitVec.toNat_ofNat, e1, e2]
  rw [IntKind.wrap_i64]
  omega
def Bytes (b : List Int) : Prop := b.length ≤ 2000 ∧ ∀ x ∈ b, 0 ≤ x ∧ x ≤ 255
theorem rd_byte {b : List Int} (hb : Bytes b) {i : Int} (h : i.toNat < b.length) : 0 ≤ rd b i ∧ rd b i ≤ 255 := by
  unfold rd
  rw [List.getD_eq_getElem?_getD, List.getElem?_eq_getElem h]
  exact hb.2 _ (List.getElem_mem h)
theorem pick_ok {b : List Int} (hb : Bytes b) (k : Nat) (p n : Int) (hp : 0 ≤ p) (hp' : p < 1000000) (hn' : n < 1000000) :
    ∃ x, spec_l6Rd_pick.f (k + 1) b p n = some (x, p + 1) ∧ 0 ≤ x ∧ (1 ≤ n → x < n) ∧ (n < 1 → x = 0) := by
  have e1 : wrap64 (p + 1) = p + 1 := wr64 (by omega) (by omega)
  have e2 : wrap64 (p + 1 - 1) = p := by rw [wr64] <;> omega
  unfold spec_l6Rd_pick.f
  rw [e1]
  by_cases hn : n < 1
  · rw [if_pos hn]
    exact ⟨0, by simp [spec_l6Rd_pick.j0], by omega, by omega, fun _ => rfl⟩
  rw [if_neg hn]
  by_cases hl : b.length = 0
  · refine ⟨0, ?_, by omega, by omega, fun _ => rfl⟩
    simp [spec_l6Rd_pick.j0, hl]
  have hlb := hb.1
  have c0 : (((b.length : Nat) : Int) == 0) = false := by simp; intro h; simp [h] at hl
  rw [c0]
  simp only [spec_l6Rd_pick.j0]
  rw [if_neg (by simp), e2]
  have tm : ∀ X : Int, 0 ≤ X → 0 ≤ Int.tmod X n ∧ Int.tmod X n < n := fun X hX => by
    rw [Int.tmod_eq_emod_of_nonneg hX]
    exact ⟨Int.emod_nonneg _ (by omega), Int.emod_lt_of_pos _ (by omega)⟩
  by_cases hlt : p < (b.length : Int)
  · rw [if_pos hlt, if_pos hp, if_neg (by omega)]
    have hr := rd_byte hb (i := p) (by omega)
    rw [wr64 (x := rd b p) (by omega) (by omega)]
    have := tm _ hr.1
    exact ⟨_, rfl, this.1, fun _ => this.2, fun h => absurd h hn⟩
  rw [if_neg hlt, if_neg (by omega)]
  have hL : (0 : Int) < (b.length : Int) := by omega
  have ti : ∀ X : Int, 0 ≤ X → 0 ≤ Int.tmod X (b.length : Int) ∧ Int.tmod X (b.length : Int) < (b.length : Int) := fun X hX => by
    rw [Int.tmod_eq_emod_of_nonneg hX]
    exact ⟨Int.emod_nonneg _ (by omega), Int.emod_lt_of_pos _ hL⟩
  have e3 : wrap64 (wrap64 (p * 7) + 3) = p * 7 + 3 := by rw [wr64 (x := p * 7) (by omega) (by omega)]; exact wr64 (by omega) (by omega)
  rw [e3]
  obtain ⟨i, hi⟩ : ∃ i, Int.tmod p (b.length : Int) = i := ⟨_, rfl⟩
  obtain ⟨j, hj⟩ : ∃ j, Int.tmod (p * 7 + 3) (b.length : Int) = j := ⟨_, rfl⟩
  have bi := ti p hp; have bj := ti (p * 7 + 3) (by omega)
  rw [hi] at bi ⊢; rw [hj] at bj ⊢
  rw [if_pos bi.1, if_pos bi.2, if_pos bj.1, if_pos bj.2, if_neg (by omega)]
  have r1 := rd_byte hb (i := i) (by omega)
  have r2 := rd_byte hb (i := j) (by omega)
  obtain ⟨u, hu⟩ : ∃ u, rd b i = u := ⟨_, rfl⟩
  obtain ⟨v, hv⟩ : ∃ v, rd b j = v := ⟨_, rfl⟩
  rw [hu] at r1 ⊢; rw [hv] at r2 ⊢
  obtain ⟨q, hq⟩ : ∃ q, Int.tdiv p (b.length : Int) = q := ⟨_, rfl⟩
  have bq : 0 ≤ q ∧ q ≤ p := by
    rw [← hq, Int.tdiv_eq_ediv_of_nonneg hp]
    exact ⟨Int.ediv_nonneg hp (by omega), Int.ediv_le_self _ hp⟩
  rw [hq, wr64 (x := u) (by omega) (by omega), wr64 (x := v) (by omega) (by omega), wr64 (x := u * 131) (by omega) (by omega), wr64 (x := v * 1117) (by omega) (by omega), wr64 (x := u * 131 + v * 1117) (by omega) (by omega), wr64 (x := p * 29) (by omega) (by omega), wr64 (x := q) (by omega) (by omega), wr64 (x := q * 53) (by omega) (by omega), wr64 (x := u * 131 + v * 1117 + p * 29) (by omega) (by omega), wr64 (x := u * 131 + v * 1117 + p * 29 + q * 53) (by omega) (by omega)]
  obtain ⟨X, hX⟩ : ∃ X, u * 131 + v * 1117 + p * 29 + q * 53 = X := ⟨_, rfl⟩
  have bX : 0 ≤ X ∧ X < 100000000 := by omega
  rw [hX]
  have bY : 0 ≤ Int.tdiv X 64 ∧ Int.tdiv X 64 < 100000000 := by
    rw [Int.tdiv_eq_ediv_of_nonneg bX.1]; omega
  rw [wr64 (x := Int.tdiv X 64) (by omega) (by omega)]
  have := tm _ (xor_nonneg X (Int.tdiv X 64) bX.1 (by omega) bY.1 (by omega))
  exact ⟨_, rfl, this.1, fun _ => this.2, fun h => absurd h hn⟩
theorem rd_all {P : Int → Prop} {l : List Int} (h : ∀ x ∈ l, P x) {i : Int} (hi : i.toNat < l.length) : P (rd l i) := by
  unfold rd
  rw [List.getD_eq_getElem?_getD, List.getElem?_eq_getElem hi]
  exact h _ (List.getElem_mem hi)
theorem open_ok {l : List Int} (hw : ∀ x ∈ l, (Lit.int .u8 x).wf = true) : ∃ b, spec_l6Open.f l = some (b, 0) ∧ Bytes b := by
  have hb : ∀ x ∈ l, 0 ≤ x ∧ x ≤ 255 := fun x hx => by
    have := hw x hx
    simp [Lit.wf, IntKind.min, IntKind.max, IntKind.signed, IntKind.bits] at this
    omega
  unfold spec_l6Open.f
  by_cases h : (l.length : Int) > 2000
  · rw [if_pos h, if_pos (by omega)]
    exact ⟨_, rfl, by simp; omega, fun x hx => hb x (List.mem_of_mem_take hx)⟩
  · rw [if_neg h]
    exact ⟨_, rfl, by omega, hb⟩
def Drawn (kd n : Int) : Prop := 0 ≤ kd ∧ kd ≤ 5 ∧ -100 ≤ n ∧ n ≤ 100
theorem val_tail {b : List Int} (hb : Bytes b) (k : Nat) (p kd n : Int) (hp : 0 ≤ p) (hp' : p < 900000) (h : Drawn kd n) :
    ∃ kd' n' p', spec_l71Val.j0 (k + 2) b p kd n = some (kd', n', p') ∧ Drawn kd' n' ∧ p ≤ p' ∧ p' ≤ p + 2 := by
  obtain ⟨h1, h2, h3, h4⟩ := h
  simp only [spec_l71Val.j0]
  obtain ⟨x, hx, x0, x1, -⟩ := pick_ok hb k p 30 hp (by omega) (by omega)
  rw [hx]; simp only [Option.bind_some]
  by_cases c0 : x = 0
  · rw [if_pos c0]
    obtain ⟨y, hy, y0, y1, -⟩ := pick_ok hb k (p + 1) 3 (by omega) (by omega) (by omega)
    have y1 := y1 (by omega)
    rw [hy]; simp only [Option.bind_some]
    rw [if_pos y0, if_pos (by simp; omega)]
    have := rd_all (P := fun x => -100 ≤ x ∧ x ≤ 100) (l := [-100, 100, 10]) (by simp) (i := y) (by simp; omega)
    exact ⟨_, _, _, rfl, ⟨h1, h2, this.1, this.2⟩, by omega, by omega⟩
  rw [if_neg c0]
  by_cases c1 : x = 1
  · rw [if_pos c1]
    obtain ⟨y, hy, y0, y1, -⟩ := pick_ok hb k (p + 1) 6 (by omega) (by omega) (by omega)
    have y1 := y1 (by omega)
    rw [hy]; simp only [Option.bind_some]
    exact ⟨_, _, _, rfl, ⟨y0, by omega, h3, h4⟩, by omega, by omega⟩
  rw [if_neg c1]
  exact ⟨_, _, _, rfl, ⟨h1, h2, h3, h4⟩, by omega, by omega⟩
theorem val_ok {b : List Int} (hb : Bytes b) (k : Nat) (p : Int) (hp : 0 ≤ p) (hp' : p < 800000) :
    ∃ kd n p', spec_l71Val.f (k + 2) b p = some (kd, n, p') ∧ Drawn kd n ∧ p ≤ p' ∧ p' ≤ p + 4 := by
  unfold spec_l71Val.f
  obtain ⟨x, hx, x0, x1, -⟩ := pick_ok hb (k + 1) p 4 hp (by omega) (by omega)
  have x1 := x1 (by omega)
  rw [hx]; simp only [Option.bind_some]
  by_cases c1 : x = 1
  · rw [if_pos c1]
    obtain ⟨y, hy, y0, y1, -⟩ := pick_ok hb (k + 1) (p + 1) 9 (by omega) (by omega) (by omega)
    have y1 := y1 (by omega)
    rw [hy]; simp only [Option.bind_some]
    rw [if_pos y0, if_pos (by simp; omega)]
    have := rd_all (P := fun x => -100 ≤ x ∧ x ≤ 100) (l := [0, 1, 2, 3, -1, 7, 50, 99, -99]) (by simp) (i := y) (by simp; omega)
    obtain ⟨kd, n, p', h, hd, l1, l2⟩ := val_tail hb k (p + 1 + 1) x _ (by omega) (by omega) ⟨x0, by omega, this.1, this.2⟩
    exact ⟨kd, n, p', h, hd, by omega, by omega⟩
  rw [if_neg c1]
  by_cases c2 : x = 2
  · rw [if_pos c2]
    obtain ⟨y, hy, y0, y1, -⟩ := pick_ok hb (k + 1) (p + 1) 5 (by omega) (by omega) (by omega)
    have y1 := y1 (by omega)
    rw [hy]; simp only [Option.bind_some]
    obtain ⟨kd, n, p', h, hd, l1, l2⟩ := val_tail hb k (p + 1 + 1) x y (by omega) (by omega) ⟨x0, by omega, by omega, by omega⟩
    exact ⟨kd, n, p', h, hd, by omega, by omega⟩
  rw [if_neg c2]
  by_cases c3 : x = 3
  · rw [if_pos c3]
    obtain ⟨y, hy, y0, y1, -⟩ := pick_ok hb (k + 1) (p + 1) 4 (by omega) (by omega) (by omega)
    have y1 := y1 (by omega)
    rw [hy]; simp only [Option.bind_some]
    rw [wr64 (x := 1 + y) (by omega) (by omega)]
    obtain ⟨kd, n, p', h, hd, l1, l2⟩ := val_tail hb k (p + 1 + 1) x (1 + y) (by omega) (by omega) ⟨x0, by omega, by omega, by omega⟩
    exact ⟨kd, n, p', h, hd, by omega, by omega⟩
  rw [if_neg c3]
  obtain ⟨kd, n, p', h, hd, l1, l2⟩ := val_tail hb k (p + 1) x 0 (by omega) (by omega) ⟨x0, by omega, by omega, by omega⟩
  exact ⟨kd, n, p', h, hd, by omega, by omega⟩
theorem good_ok {b : List Int} (hb : Bytes b) (k : Nat) (p : Int) (hp : 0 ≤ p) (hp' : p < 800000) :
    ∃ kd n p', spec_l71Good.f (k + 2) b p = some (kd, n, p') ∧ Drawn kd n ∧ okP kd n ∧ p ≤ p' ∧ p' ≤ p + 4 := by
  unfold spec_l71Good.f
  obtain ⟨kd, n, p', h, hd, p0, p1⟩ := val_ok hb k p hp hp'
  rw [h]; simp only [Option.bind_some]
  rw [sok_eq]; simp only [Option.bind_some]
  by_cases c : okB kd n = true
  · rw [if_pos c]; exact ⟨_, _, _, rfl, hd, okB_true.1 c, p0, p1⟩
  · rw [if_neg c]; exact ⟨1, 1, _, rfl, ⟨by omega, by omega, by omega, by omega⟩, by unfold okP; omega, p0, p1⟩
theorem leO_add {α : Type} {f : Nat → Option α} (h : ∀ k, LeO (f k) (f (k + 1))) {a : α} {m : Nat} (e : f m = some a) : ∀ k, f (k + m) = some a
  | 0 => by rw [Nat.zero_add]; exact e
  | k + 1 => by rw [Nat.add_right_comm]; exact h _ _ (leO_add h e k)
theorem form_ge (k : Nat) (x : Int) : spec_l2Form.f (k + 3) x = some (formL x) := leO_add (f := fun k => spec_l2Form.f k x) (fun k => spec_l2Form.mono x k) (form_eq x) k
def DrawnOp (k r s t vk vn : Int) : Prop := 0 ≤ k ∧ k ≤ 17 ∧ -1 ≤ r ∧ r ≤ 6 ∧ -1 ≤ s ∧ s ≤ 6 ∧ 0 ≤ t ∧ t ≤ 16 ∧ Drawn vk vn
def GoodOp (places k r s t vk vn : Int) : Prop := (1 ≤ k ∧ k ≤ 14) ∧ valP k vk vn ∧ (r = 0 ∨ (hasR k = true ∧ 0 ≤ r ∧ r ≤ 3)) ∧ (s = 0 ∨ (hasS k = true ∧ 0 ≤ s ∧ s ≤ 3)) ∧
    (t = 0 ∨ (hasT k = true ∧ 0 ≤ t ∧ t < places)) ∧ (hasV k = true ∨ (vk = 0 ∧ vn = 0)) ∧ Drawn vk vn
theorem op_ok {b : List Int} (hb : Bytes b) (k : Nat) (p n : Int) (hp : 0 ≤ p) (hp' : p < 700000) (hn : 1 ≤ n) (hn' : n ≤ 16) :
    ∃ x r s t vk vn p', spec_l71Op.f (k + 7) b p n = some (x, r, s, t, vk, vn, p') ∧ GoodOp n x r s t vk vn ∧ p ≤ p' ∧ p' ≤ p + 12 := by
  unfold spec_l71Op.f
  obtain ⟨x0, hx, x00, x01, -⟩ := pick_ok hb (k + 6) p 14 hp (by omega) (by omega)
  have x01 := x01 (by omega)
  rw [hx]; simp only [Option.bind_some]
  rw [wr64 (x := 1 + x0) (by omega) (by omega), show k + 7 = (k + 4) + 3 from rfl, form_ge]; simp only [Option.bind_some]
  obtain ⟨x, hxx⟩ : ∃ x, 1 + x0 = x := ⟨_, rfl⟩
  rw [hxx]
  have hk : 1 ≤ x ∧ x ≤ 14 := by omega
  have hF : formL x = [hasR x, hasS x, hasT x, hasV x] := if_pos hk
  rw [hF, if_pos (by simp)]
  have hR : ∃ r p1, (if rdOf false [hasR x, hasS x, hasT x, hasV x] 0 = true then (spec_l6Rd_pick.f (k + 7) b (p + 1) 4).bind fun bt209 => spec_l71Op.j0 (k + 7) n [hasR x, hasS x, hasT x, hasV x] b bt209.2 x bt209.1 0 0 0 0 else spec_l71Op.j0 (k + 7) n [hasR x, hasS x, hasT x, hasV x] b (p + 1) x 0 0 0 0 0) = spec_l71Op.j0 (k + 7) n [hasR x, hasS x, hasT x, hasV x] b p1 x r 0 0 0 0 ∧ (r = 0 ∨ (hasR x = true ∧ 0 ≤ r ∧ r ≤ 3)) ∧ p + 1 ≤ p1 ∧ p1 ≤ p + 2 := by
    have e : rdOf false [hasR x, hasS x, hasT x, hasV x] 0 = hasR x := rfl
    rw [e]
    by_cases c : hasR x = true
    · rw [if_pos c]
      obtain ⟨y, hy, y0, y1, -⟩ := pick_ok hb (k + 6) (p + 1) 4 (by omega) (by omega) (by omega)
      have y1 := y1 (by omega)
      rw [hy]; simp only [Option.bind_some]
      exact ⟨y, p + 1 + 1, rfl, .inr ⟨c, y0, by omega⟩, by omega, by omega⟩
    · rw [if_neg c]; exact ⟨0, p + 1, rfl, .inl rfl, by omega, by omega⟩
  obtain ⟨r, p1, e1, hr, b10, b11⟩ := hR
  rw [show k + 4 + 3 = k + 7 from rfl, e1]
  rw [show k + 7 = (k + 6) + 1 from rfl, spec_l71Op.j0]
  rw [if_pos (by simp)]
  have hS : ∃ s p2, (if rdOf false [hasR x, hasS x, hasT x, hasV x] 1 = true then (spec_l6Rd_pick.f (k + 6) b p1 4).bind fun bt209 => spec_l71Op.j1 (k + 6) n [hasR x, hasS x, hasT x, hasV x] b bt209.2 x r bt209.1 0 0 0 else spec_l71Op.j1 (k + 6) n [hasR x, hasS x, hasT x, hasV x] b p1 x r 0 0 0 0) = spec_l71Op.j1 (k + 6) n [hasR x, hasS x, hasT x, hasV x] b p2 x r s 0 0 0 ∧ (s = 0 ∨ (hasS x = true ∧ 0 ≤ s ∧ s ≤ 3)) ∧ p1 ≤ p2 ∧ p2 ≤ p1 + 1 := by
    have e : rdOf false [hasR x, hasS x, hasT x, hasV x] 1 = hasS x := rfl
    rw [e]
    by_cases c : hasS x = true
    · rw [if_pos c]
      obtain ⟨y, hy, y0, y1, -⟩ := pick_ok hb (k + 5) p1 4 (by omega) (by omega) (by omega)
      have y1 := y1 (by omega)
      rw [hy]; simp only [Option.bind_some]
      exact ⟨y, p1 + 1, rfl, .inr ⟨c, y0, by omega⟩, by omega, by omega⟩
    · rw [if_neg c]; exact ⟨0, p1, rfl, .inl rfl, by omega, by omega⟩
  obtain ⟨s, p2, e2, hs, b20, b21⟩ := hS
  rw [e2, show k + 6 = (k + 5) + 1 from rfl, spec_l71Op.j1, if_pos (by simp)]
  have hT : ∃ t p3, (if rdOf false [hasR x, hasS x, hasT x, hasV x] 2 = true then (spec_l6Rd_pick.f (k + 5) b p2 n).bind fun bt209 => spec_l71Op.j2 (k + 5) [hasR x, hasS x, hasT x, hasV x] b bt209.2 x r s bt209.1 0 0 else spec_l71Op.j2 (k + 5) [hasR x, hasS x, hasT x, hasV x] b p2 x r s 0 0 0) = spec_l71Op.j2 (k + 5) [hasR x, hasS x, hasT x, hasV x] b p3 x r s t 0 0 ∧ (t = 0 ∨ (hasT x = true ∧ 0 ≤ t ∧ t < n)) ∧ p2 ≤ p3 ∧ p3 ≤ p2 + 1 := by
    have e : rdOf false [hasR x, hasS x, hasT x, hasV x] 2 = hasT x := rfl
    rw [e]
    by_cases c : hasT x = true
    · rw [if_pos c]
      obtain ⟨y, hy, y0, y1, -⟩ := pick_ok hb (k + 4) p2 n (by omega) (by omega) (by omega)
      have y1 := y1 (by omega)
      rw [hy]; simp only [Option.bind_some]
      exact ⟨y, p2 + 1, rfl, .inr ⟨c, y0, by omega⟩, by omega, by omega⟩
    · rw [if_neg c]; exact ⟨0, p2, rfl, .inl rfl, by omega, by omega⟩
  obtain ⟨t, p3, e3, ht, b30, b31⟩ := hT
  rw [e3, show k + 5 = (k + 4) + 1 from rfl, spec_l71Op.j2, if_pos (by simp)]
  have hV : ∃ vk vn p4, (if rdOf false [hasR x, hasS x, hasT x, hasV x] 3 = true then (spec_l71Good.f (k + 4) b p3).bind fun bt218 => spec_l71Op.j3 (k + 4) b bt218.2.2 x r s t bt218.1 bt218.2.1 else spec_l71Op.j3 (k + 4) b p3 x r s t 0 0) = spec_l71Op.j3 (k + 4) b p4 x r s t vk vn ∧ okP vk vn ∧ Drawn vk vn ∧ (hasV x = true ∨ (vk = 0 ∧ vn = 0)) ∧ p3 ≤ p4 ∧ p4 ≤ p3 + 4 := by
    have e : rdOf false [hasR x, hasS x, hasT x, hasV x] 3 = hasV x := rfl
    rw [e]
    by_cases c : hasV x = true
    · rw [if_pos c]
      obtain ⟨kd, v, p', h, hd, ho, q0, q1⟩ := good_ok hb (k + 2) p3 (by omega) (by omega)
      rw [h]; simp only [Option.bind_some]
      exact ⟨kd, v, p', rfl, ho, hd, .inl c, q0, q1⟩
    · rw [if_neg c]; exact ⟨0, 0, p3, rfl, by unfold okP; omega, ⟨by omega, by omega, by omega, by omega⟩, .inr ⟨rfl, rfl⟩, by omega, by omega⟩
  obtain ⟨vk, vn, p4, e4, ho, hd, hv, b40, b41⟩ := hV
  rw [e4, show k + 4 = (k + 3) + 1 from rfl, spec_l71Op.j3]
  by_cases c8 : x = 8
  · rw [if_pos c8]
    obtain ⟨y, hy, y0, y1, -⟩ := pick_ok hb (k + 2) p4 3 (by omega) (by omega) (by omega)
    have y1 := y1 (by omega)
    rw [hy]; simp only [Option.bind_some]
    rw [wr64 (x := 1 + y) (by omega) (by omega)]
    exact ⟨x, r, s, t, 1, 1 + y, p4 + 1, rfl, ⟨hk, ⟨by unfold okP; omega, by omega, by omega⟩, hr, hs, ht, .inl (by subst c8; rfl), by omega, by omega, by omega, by omega⟩, by omega, by omega⟩
  rw [if_neg c8]
  by_cases c13 : x = 13
  · rw [if_pos c13]
    obtain ⟨y, hy, y0, y1, -⟩ := pick_ok hb (k + 2) p4 2 (by omega) (by omega) (by omega)
    have y1 := y1 (by omega)
    rw [hy]; simp only [Option.bind_some]
    exact ⟨x, r, s, t, 1, y, p4 + 1, rfl, ⟨hk, ⟨by unfold okP; omega, by omega, by omega⟩, hr, hs, ht, .inl (by subst c13; rfl), by omega, by omega, by omega, by omega⟩, by omega, by omega⟩
  rw [if_neg c13]
  exact ⟨x, r, s, t, vk, vn, p4, rfl, ⟨hk, ⟨ho, by omega, by omega⟩, hr, hs, ht, hv, hd⟩, by omega, by omega⟩
theorem GoodOp.drawn {n k r s t vk vn : Int} (hn : n ≤ 16) (h : GoodOp n k r s t vk vn) : DrawnOp k r s t vk vn := by
  obtain ⟨a, b, c, d, e, f, g⟩ := h
  exact ⟨by omega, by omega, by omega, by omega, by omega, by omega, by omega, by omega, g⟩
theorem GoodOp.op {n k r s t vk vn : Int} (hn : n ≤ 16) (h : GoodOp n k r s t vk vn) : opP k r s t vk vn := by
  obtain ⟨a, b, c, d, e, f, g⟩ := h
  refine ⟨a, b, c, d, e.imp id (fun h => ⟨h.1, h.2.1, by omega⟩), f⟩
theorem any_ok {b : List Int} (hb : Bytes b) (k : Nat) (p : Int) (hp : 0 ≤ p) (hp' : p < 600000) :
    ∃ x r s t vk vn p', spec_l71AnyOp.f (k + 7) b p = some (x, r, s, t, vk, vn, p') ∧ DrawnOp x r s t vk vn ∧ p ≤ p' ∧ p' ≤ p + 20 := by
  unfold spec_l71AnyOp.f
  obtain ⟨x, r, s, t, vk, vn, p1, h, hg, q0, q1⟩ := op_ok hb k p 16 hp (by omega) (by omega) (by omega)
  obtain ⟨d1, d2, d3, d4, d5, d6, d7, d8, hd⟩ := hg.drawn (by omega)
  rw [h]; simp only [Option.bind_some]
  obtain ⟨y, hy, y0, y1, -⟩ := pick_ok hb (k + 6) p1 20 (by omega) (by omega) (by omega)
  rw [hy]; simp only [Option.bind_some]
  by_cases c0 : y = 0
  · rw [if_pos c0]
    obtain ⟨z, hz, z0, z1, -⟩ := pick_ok hb (k + 6) (p1 + 1) 17 (by omega) (by omega) (by omega)
    have z1 := z1 (by omega)
    rw [hz]; simp only [Option.bind_some]
    exact ⟨_, _, _, _, _, _, _, rfl, ⟨z0, by omega, d3, d4, d5, d6, d7, d8, hd⟩, by omega, by omega⟩
  rw [if_neg c0]
  by_cases c1 : y = 1
  · rw [if_pos c1]
    obtain ⟨z, hz, z0, z1, -⟩ := pick_ok hb (k + 6) (p1 + 1) 6 (by omega) (by omega) (by omega)
    have z1 := z1 (by omega)
    rw [hz]; simp only [Option.bind_some]
    rw [wr64 (x := z - 1) (by omega) (by omega)]
    exact ⟨_, _, _, _, _, _, _, rfl, ⟨d1, d2, by omega, by omega, d5, d6, d7, d8, hd⟩, by omega, by omega⟩
  rw [if_neg c1]
  by_cases c2 : y = 2
  · rw [if_pos c2]
    obtain ⟨kd, v, p', h, hd, q0, q1⟩ := val_ok hb (k + 5) (p1 + 1) (by omega) (by omega)
    rw [h]; simp only [Option.bind_some]
    exact ⟨_, _, _, _, _, _, _, rfl, ⟨d1, d2, d3, d4, d5, d6, d7, d8, hd⟩, by omega, by omega⟩
  rw [if_neg c2]
  exact ⟨_, _, _, _, _, _, _, rfl, ⟨d1, d2, d3, d4, d5, d6, d7, d8, hd⟩, by omega, by omega⟩
def freeB (x s : Int) : Bool := bits BinOp.and IntKind.i64 (x / 2 ^ s.toNat) 1 == 0
def endsB (x : S29) : Bool := decide (x.f0 = 9 ∨ x.f0 = 14)
def safeAt (l : List S29) (i : Nat) : Bool := decide (at_ (fullL l) i < 0) || ((decide (i + 1 < l.length) || endsB (rd_T29 l i)) && !((usesL (rd_T29 l i).f0 (rd_T29 l i).f1 (rd_T29 l i).f2).any (freeB (at_ (fullL l) i))))
def safeB (l : List S29) : Bool := codeB l && (List.range l.length).all (safeAt l)
theorem uses_slots {l : List S29} (h : codeB l = true) {i : Nat} (hi : i < l.length) : ∀ s ∈ usesL (rd_T29 l i).f0 (rd_T29 l i).f1 (rd_T29 l i).f2, 0 ≤ s ∧ s ≤ 3 := by
  obtain ⟨⟨h1, h2, h3, h4, h5, h6⟩, ht⟩ := code_op h hi
  rw [rd29_get hi]
  have hR : 0 ≤ l[i].f1 ∧ l[i].f1 ≤ 3 := by omega
  have hS : 0 ≤ l[i].f2 ∧ l[i].f2 ≤ 3 := by omega
  intro s hs
  unfold usesL at hs
  split at hs
  · simp at hs; omega
  · split at hs
    · simp at hs; rcases hs with hs | hs <;> omega
    · split at hs
      · simp at hs; omega
      · cases hs
theorem both_eq {a x : Int} (ha : -1 ≤ a) (ha' : a ≤ 15) (h0 : 0 ≤ x) (h1 : x ≤ 15) : spec_l3Both.f 12 a x = some (both a x) := by
  by_cases h : a = -1
  · subst h; unfold spec_l3Both.f; rfl
  · have : fours (fun a => fours fun x => decide (spec_l3Both.f 12 a x = some (both a x))) = true := by decide +kernel
    exact of_decide_eq_true (fours_all (fours_all this (by omega) ha') h0 h1)
theorem both_ev {a x : Int} (ha : -1 ≤ a) (ha' : a ≤ 15) (h0 : 0 ≤ x) (h1 : x ≤ 15) : Ev (fun k => spec_l3Both.f k a x) (both a x) :=
  Ev.of (fun k => spec_l3Both.mono a x k) (both_eq ha ha' h0 h1)
theorem with_eq {x r : Int} (hx : 0 ≤ x) (hx2 : x ≤ 15) (hr : 0 ≤ r) (hr2 : r ≤ 3) : spec_l3With.f x r = some (orBit x r) := by
  have : fours (fun x => fours fun r => decide (r ≤ 3 → spec_l3With.f x r = some (orBit x r))) = true := by decide +kernel
  exact of_decide_eq_true (fours_all (fours_all this hx hx2) hr (by omega)) hr2
theorem fills_eq {k : Int} (h : 1 ≤ k ∧ k ≤ 14) : spec_l3Fills.f k = some (howR k).f3 := by
  have : k = 1 ∨ k = 2 ∨ k = 3 ∨ k = 4 ∨ k = 5 ∨ k = 6 ∨ k = 7 ∨ k = 8 ∨ k = 9 ∨ k = 10 ∨ k = 11 ∨ k = 12 ∨ k = 13 ∨ k = 14 := by omega
  rcases this with rfl | rfl | rfl | rfl | rfl | rfl | rfl | rfl | rfl | rfl | rfl | rfl | rfl | rfl <;> rfl
def msetL (o : List Int) (t : Int) (v : Int) : List Int := o.set t.toNat (both (at_ o t) v)
theorem merge_ev {n : Nat} {o : List Int} (ho : GoodO n o) {t v : Int} (h0 : 0 ≤ t) (ht : t < n) (hv : 0 ≤ v) (hv2 : v ≤ 15) : Ev (fun k => spec_l3Merge.f k o t v) (decide (mu (msetL o t v) < mu o), msetL o t v) := by
  have hb := both_ev (at_good ho t).1 (at_good ho t).2 hv hv2
  obtain ⟨K, hK⟩ := hb
  refine ⟨K, fun k hk => ?_⟩
  have hK : spec_l3Both.f k (at_ o t) v = some (both (at_ o t) v) := hK k hk
  show spec_l3Merge.f k o t v = _
  unfold spec_l3Merge.f
  rw [if_neg (by rw [ho.1]; omega), if_pos h0, if_pos (by rw [ho.1]; omega)]
  have e : rd o t = at_ o t := rfl
  rw [e, hK]
  simp only [Option.bind_some]
  have hm := mu_set (o := o) (i := t.toNat) (x := both (at_ o t) v) (by rw [ho.1]; omega)
  rw [Int.toNat_of_nonneg h0] at hm
  by_cases he : both (at_ o t) v = at_ o t
  · rw [if_pos he]
    have e2 : msetL o t v = o := by
      unfold msetL; rw [he]
      have := set_at (o := o) (i := t.toNat)
      rwa [Int.toNat_of_nonneg h0] at this
    rw [e2]; simp
  · rw [if_neg he]
    have := both_mu (at_good ho t).1 (at_good ho t).2 hv hv2
    have h2 : mu1 (both (at_ o t) v) < mu1 (at_ o t) := by
      rcases this with h | h
      · exact absurd h he
      · exact h
    have h3 : mu (msetL o t v) < mu o := by unfold msetL; omega
    rw [decide_eq_true h3]; rfl
theorem merge_out (k : Nat) {o : List Int} {t v : Int} (ht : (o.length : Int) ≤ t) : spec_l3Merge.f k o t v = some (false, o) := by
  unfold spec_l3Merge.f; rw [if_pos (by omega)]
theorem mset_good {n : Nat} {o : List Int} (ho : GoodO n o) {t v : Int} (h0 : 0 ≤ t) (ht : t < n) (hv : 0 ≤ v) (hv2 : v ≤ 15) : GoodO n (msetL o t v) ∧ Down o (msetL o t v) ∧ ∀ i, 0 ≤ i → 0 ≤ at_ o i → 0 ≤ at_ (msetL o t v) i := by
  have hb := both_range (a := at_ o t) hv hv2
  refine ⟨⟨by simp [msetL, ho.1], fun x hx => ?_⟩, ?_, fun i hi h => ?_⟩
  · rcases List.mem_or_eq_of_mem_set hx with h | h
    · exact ho.2 x h
    · omega
  · have hm := mu_set (o := o) (i := t.toNat) (x := both (at_ o t) v) (by rw [ho.1]; omega)
    rw [Int.toNat_of_nonneg h0] at hm
    rcases both_mu (at_good ho t).1 (at_good ho t).2 hv hv2 with he | he
    · left; unfold msetL; rw [he]
      have := set_at (o := o) (i := t.toNat)
      rwa [Int.toNat_of_nonneg h0] at this
    · right; unfold msetL; omega
  · by_cases e : t = i
    · subst e; unfold msetL; rw [at_set_self (by rw [ho.1]; omega)]; exact hb.1
    · have := at_set_ne (o := o) (i := t.toNat) (j := i.toNat) (x := both (at_ o t) v) (by omega)
      rw [Int.toNat_of_nonneg hi] at this
      unfold msetL; rw [this]; exact h
theorem both_comm {z a b : Int} (ha : 0 ≤ a) (hb : 0 ≤ b) : both (both z a) b = both (both z b) a := by
  unfold both
  by_cases hz : z < 0
  · rw [if_pos hz, if_pos hz, if_neg (by omega), if_neg (by omega), Nat.and_comm]
  · rw [if_neg hz, if_neg hz, if_neg (by omega), if_neg (by omega)]
    simp only [Int.toNat_natCast]
    rw [Nat.and_assoc, Nat.and_comm a.toNat, ← Nat.and_assoc]
theorem mset_comm {n : Nat} {o : List Int} (ho : GoodO n o) {s t a b : Int} (hs : 0 ≤ s) (hs2 : s < n) (ht : 0 ≤ t) (ht2 : t < n) (ha : 0 ≤ a) (hb : 0 ≤ b) : msetL (msetL o s a) t b = msetL (msetL o t b) s a := by
  by_cases e : s = t
  · subst e
    unfold msetL
    rw [at_set_self (by rw [ho.1]; omega), at_set_self (by rw [ho.1]; omega), List.set_set, List.set_set, both_comm ha hb]
  · have h1 := at_set_ne (o := o) (i := s.toNat) (j := t.toNat) (x := both (at_ o s) a) (by omega)
    have h2 := at_set_ne (o := o) (i := t.toNat) (j := s.toNat) (x := both (at_ o t) b) (by omega)
    rw [Int.toNat_of_nonneg ht] at h1
    rw [Int.toNat_of_nonneg hs] at h2
    unfold msetL
    rw [h1, h2, List.set_comm _ _ (by omega)]
theorem ev_eq {α : Type} {g : Nat → Option α} {a b : α} (h : Ev g a) (e : a = b) : Ev g b := e ▸ h
theorem from_ev {l : List S29} (hc : codeB l = true) {o : List Int} (ho : GoodO l.length o) {i : Nat} (hi : i < l.length) (h0 : 0 ≤ at_ o i) :
    Ev (fun k => spec_l3From.f k l o i) (decide (mu (stepW (wayW l) o i) < mu o), stepW (wayW l) o i) := by
  obtain ⟨⟨k1, k2, k3, k4, k5, k6⟩, kt⟩ := code_op hc hi
  have hlen := code_len hc
  obtain ⟨x, hx⟩ : ∃ x, x = l[i] := ⟨_, rfl⟩
  rw [← hx] at k1 k2 k3 k4 k5 k6 kt
  have hrd : rd_T29 l (i : Int) = x := by rw [rd29_get hi, hx]
  obtain ⟨u, hu⟩ : ∃ u, u = at_ o i := ⟨_, rfl⟩
  have hu15 := (at_good ho i).2
  rw [← hu] at h0 hu15
  obtain ⟨on, hon⟩ : ∃ on, on = flF (if (howR x.f0).f3 = true then .fill else .same) x.f1 u := ⟨_, rfl⟩
  have hon15 : 0 ≤ on ∧ on ≤ 15 ∧ (spec_l3Fills.f x.f0).bind (fun t => if t = true then spec_l3With.f u x.f1 else some u) = some on := by
    rw [fills_eq k1]
    simp only [Option.bind_some]
    by_cases hf : (howR x.f0).f3 = true
    · have hr : 0 ≤ x.f1 ∧ x.f1 ≤ 3 := by
        have := fills_has hf
        rcases k3 with k3 | k3
        · omega
        · exact k3.2
      rw [if_pos hf] at hon ⊢
      rw [hon]
      exact ⟨(orBit_range h0 hu15 hr.1 hr.2).1, (orBit_range h0 hu15 hr.1 hr.2).2, with_eq h0 hu15 hr.1 hr.2⟩
    · rw [if_neg hf] at hon ⊢
      rw [hon]
      exact ⟨h0, hu15, rfl⟩
  obtain ⟨on0, on1, honf⟩ := hon15
  have wn : wrap64 ((i : Int) + 1) = (i : Int) + 1 := w64 (by omega) (by omega)
  have next : ∀ o' : List Int, GoodO l.length o' → Ev (fun k => spec_l3Merge.f k o' (wrap64 ((i : Int) + 1)) on) (if (i : Int) + 1 < l.length then (decide (mu (msetL o' ((i : Int) + 1) on) < mu o'), msetL o' ((i : Int) + 1) on) else (false, o')) := fun o' ho' => by
    rw [wn]
    by_cases hn : (i : Int) + 1 < l.length
    · rw [if_pos hn]; exact merge_ev ho' (by omega) hn on0 on1
    · rw [if_neg hn]; exact ⟨0, fun k _ => merge_out k (by rw [ho'.1]; omega)⟩
  have j2 : ∀ (o' : List Int) (b : Bool), GoodO l.length o' → Down o o' → b = decide (mu o' < mu o) → Ev (fun k => spec_l3From.j2 k o' i on b)
      (decide (mu (if (i : Int) + 1 < l.length then msetL o' ((i : Int) + 1) on else o') < mu o), if (i : Int) + 1 < l.length then msetL o' ((i : Int) + 1) on else o') := fun o' b ho' hd hb => by
    refine Ev.step (f := fun k => (spec_l3Merge.f k o' (wrap64 ((i : Int) + 1)) on).bind fun bt371 => (if bt371.1 = true then (some (true, bt371.2)) else (some (b, bt371.2)))) (fun k => by simp only [spec_l3From.j2]) ?_
    refine Ev.bind (next o' ho') ?_
    by_cases hn : (i : Int) + 1 < l.length
    · simp only [if_pos hn]
      have hd2 := (mset_good ho' (t := (i : Int) + 1) (by omega) hn on0 on1).2.1
      obtain ⟨nw, hnw⟩ : ∃ nw, nw = msetL o' ((i : Int) + 1) on := ⟨_, rfl⟩
      rw [← hnw] at hd2 ⊢
      by_cases hm : mu nw < mu o'
      · have h3 : mu nw < mu o := by
          rcases hd with hd | hd
          · rw [hd] at hm; exact hm
          · omega
        rw [decide_eq_true hm, decide_eq_true h3]
        exact Ev.now _
      · have e : nw = o' := by
          rcases hd2 with h | h
          · exact h
          · exact absurd h hm
        rw [decide_eq_false hm, hb, e]
        exact Ev.now _
    · simp only [if_neg hn]
      rw [hb]
      exact Ev.now _
  have goK : ∀ {g : Nat → Option (Bool × List Int)} {fin : List Int}, Ev g (decide (mu fin < mu o), fin) → fin = stepW (wayW l) o i → Ev g (decide (mu (stepW (wayW l) o i) < mu o), stepW (wayW l) o i) := fun h e => e ▸ h
  have hstep : stepW (wayW l) o i = (wayW l i).foldl (mergeW i) o := by unfold stepW; rw [if_neg (by rw [← hu]; omega)]
  have hways : wayW l i = ((if x.f0 = 9 ∨ x.f0 = 14 then [] else if (i : Int) + 1 < l.length then [((i : Int) + 1, if (howR x.f0).f3 = true then Fl.fill else .same)] else []) ++ (if x.f0 = 5 then [(x.f3, Fl.one)] else if hasT x.f0 = true then [(x.f3, .same)] else [])).map fun a => (a.1, flF a.2 x.f1) := by
    unfold wayW waysL arrowsL; rw [hrd]
  have nxt : ∀ o' : List Int, at_ o' i = u → mergeW i o' ((i : Int) + 1, flF (if (howR x.f0).f3 = true then .fill else .same) x.f1) = msetL o' ((i : Int) + 1) on := fun o' h => by
    unfold mergeW msetL; simp only []; rw [h, hon]
  have stay : at_ (msetL o ((i : Int) + 1) on) i = u := by
    have := at_set_ne (o := o) (i := ((i : Int) + 1).toNat) (j := i) (x := both (at_ o ((i : Int) + 1)) on) (by omega)
    unfold msetL; rw [this, hu]
  have hf : ∀ k, spec_l3From.f k l o i = spec_l3From.j0 k o i u on x.f0 x.f1 x.f2 x.f3 x.f4.f0 x.f4.f1 := fun k => by
    unfold spec_l3From.f
    rw [if_pos (by omega), if_pos (by omega), if_pos (by rw [ho.1]; omega), hrd]
    have e : rd o (i : Int) = u := hu.symm
    rw [e]
    rw [fills_eq k1] at honf ⊢
    simp only [Option.bind_some] at honf ⊢
    by_cases hff : (howR x.f0).f3 = true
    · rw [if_pos hff] at honf ⊢
      rw [honf]; rfl
    · rw [if_neg hff] at honf ⊢
      obtain rfl := Option.some.inj honf
      rfl
  refine Ev.congr hf ?_
  have tT : hasT x.f0 = true → 0 ≤ x.f3 ∧ x.f3 < l.length := fun h => ⟨by omega, kt h⟩
  have h1 : (0 : Int) ≤ 1 ∧ (1 : Int) ≤ 15 := by omega
  by_cases e5 : x.f0 = 5
  · have ht := tT (by rw [e5]; rfl)
    refine Ev.step (f := fun k => (spec_l3Merge.f k o x.f3 1).bind fun bt365 => (spec_l3From.j2 k bt365.2 i on bt365.1)) (fun k => by simp only [spec_l3From.j0]; rw [if_pos e5]) ?_
    refine Ev.bind (merge_ev ho ht.1 ht.2 h1.1 h1.2) ?_
    obtain ⟨g1, d1, -⟩ := mset_good ho ht.1 ht.2 h1.1 h1.2
    refine goK (j2 _ _ g1 d1 rfl) ?_
    rw [hstep, hways, if_neg (c := x.f0 = 9 ∨ x.f0 = 14) (by omega), if_pos (c := x.f0 = 5) e5]
    by_cases hn : (i : Int) + 1 < l.length
    · simp only [if_pos hn, List.singleton_append, List.map_cons, List.map_nil, List.foldl_cons, List.foldl_nil]
      rw [nxt o hu.symm, mset_comm ho ht.1 ht.2 (by omega) hn h1.1 on0]
      rfl
    · simp only [if_neg hn, List.nil_append, List.map_cons, List.map_nil, List.foldl_cons, List.foldl_nil]
      rfl
  by_cases e9 : x.f0 = 9
  · have ht := tT (by rw [e9]; rfl)
    refine Ev.step (f := fun k => (spec_l3Merge.f k o x.f3 u).bind fun bt367 => (some (bt367.1, bt367.2))) (fun k => by simp only [spec_l3From.j0]; rw [if_neg e5, if_pos e9]) ?_
    refine Ev.bind (merge_ev ho ht.1 ht.2 h0 hu15) ?_
    refine goK (Ev.now _) ?_
    rw [hstep, hways, if_pos (c := x.f0 = 9 ∨ x.f0 = 14) (.inl e9), if_neg (c := x.f0 = 5) e5, if_pos (c := hasT x.f0 = true) (by rw [e9]; rfl)]
    simp only [List.nil_append, List.map_cons, List.map_nil, List.foldl_cons, List.foldl_nil]
    unfold mergeW msetL; simp only [flF]; rw [hu]
  have j1 : Ev (fun k => spec_l3From.j1 k o i u on false x.f0 (x.f0 == 8 || x.f0 == 10) x.f0 x.f1 x.f2 x.f3 x.f4.f0 x.f4.f1) (decide (mu (stepW (wayW l) o i) < mu o), stepW (wayW l) o i) := by
    by_cases e810 : x.f0 = 8 ∨ x.f0 = 10
    · have hb : (x.f0 == 8 || x.f0 == 10) = true := by simpa using e810
      have hT : hasT x.f0 = true := by rcases e810 with e | e <;> (rw [e]; rfl)
      have ht := tT hT
      refine Ev.step (f := fun k => (spec_l3Merge.f k o x.f3 u).bind fun bt369 => (spec_l3From.j2 k bt369.2 i on bt369.1)) (fun k => by simp only [spec_l3From.j1]; rw [if_pos hb]) ?_
      refine Ev.bind (merge_ev ho ht.1 ht.2 h0 hu15) ?_
      obtain ⟨g1, d1, -⟩ := mset_good ho ht.1 ht.2 h0 hu15
      refine goK (j2 _ _ g1 d1 rfl) ?_
      rw [hstep, hways, if_neg (c := x.f0 = 9 ∨ x.f0 = 14) (by omega), if_neg (c := x.f0 = 5) e5, if_pos (c := hasT x.f0 = true) hT]
      by_cases hn : (i : Int) + 1 < l.length
      · simp only [if_pos hn, List.singleton_append, List.map_cons, List.map_nil, List.foldl_cons, List.foldl_nil]
        rw [nxt o hu.symm, mset_comm ho ht.1 ht.2 (by omega) hn h0 on0]
        show _ = msetL _ x.f3 (at_ _ i)
        rw [stay]
      · simp only [if_neg hn, List.nil_append, List.map_cons, List.map_nil, List.foldl_cons, List.foldl_nil]
        show _ = msetL _ x.f3 (at_ _ i)
        rw [← hu]
    · have hb : ¬ (x.f0 == 8 || x.f0 == 10) = true := by simpa using e810
      have hT : hasT x.f0 = false := by
        unfold hasT; exact decide_eq_false (by omega)
      by_cases e14 : x.f0 = 14
      · refine Ev.step (f := fun k => some (false, o)) (fun k => by simp only [spec_l3From.j1]; rw [if_neg hb, if_pos e14]) ?_
        have e : o = stepW (wayW l) o i := by
          rw [hstep, hways, if_pos (c := x.f0 = 9 ∨ x.f0 = 14) (.inr e14), if_neg (c := x.f0 = 5) e5, if_neg (c := hasT x.f0 = true) (by rw [hT]; decide)]; rfl
        rw [← e]
        refine ev_eq (Ev.now _) ?_
        simp
      · refine Ev.step (f := fun k => spec_l3From.j2 k o i on false) (fun k => by simp only [spec_l3From.j1]; rw [if_neg hb, if_neg e14]) ?_
        refine goK (j2 o false ho (.refl _) (by simp)) ?_
        rw [hstep, hways, if_neg (c := x.f0 = 9 ∨ x.f0 = 14) (by omega), if_neg (c := x.f0 = 5) e5, if_neg (c := hasT x.f0 = true) (by rw [hT]; decide)]
        by_cases hn : (i : Int) + 1 < l.length
        · simp only [if_pos hn, List.append_nil, List.map_cons, List.map_nil, List.foldl_cons, List.foldl_nil]
          rw [nxt o hu.symm]
        · simp only [if_neg hn, List.append_nil, List.map_nil, List.foldl_nil]
  refine Ev.step (f := fun k => spec_l3From.j1 k o i u on false x.f0 (x.f0 == 8 || x.f0 == 10) x.f0 x.f1 x.f2 x.f3 x.f4.f0 x.f4.f1) (fun k => ?_) j1
  simp only [spec_l3From.j0]
  rw [if_neg e5, if_neg e9]
  by_cases e8 : x.f0 = 8
  · rw [if_pos e8]; simp [e8]
  · rw [if_neg e8]
    have : (x.f0 == 8) = false := by simpa using e8
    rw [this]; rfl
theorem l2_ev {l : List S29} (hc : codeB l = true) {o : List Int} (ho : GoodO l.length o) {r : List Int} (h : Ev (fun k => spec_l3Full.l1 k l (passW (wayW l) l.length o) (decide (mu (passW (wayW l) l.length o) < mu o))) r) (d : Nat) :
    ∀ j, l.length - j = d → j ≤ l.length → Ev (fun k => spec_l3Full.l2 k l (passW (wayW l) j o) (decide (mu (passW (wayW l) j o) < mu o)) j) r := by
  have hlen := code_len hc
  induction d with
  | zero =>
    intro j hj hj2
    obtain rfl : j = l.length := by omega
    refine Ev.step (fun k => ?_) h
    simp only [spec_l3Full.l2]
    rw [if_neg (by omega)]
  | succ d ih =>
    intro j hj hj2
    obtain ⟨gp, dp⟩ := passes_good (wayW_good hc) ho j (by omega)
    have ih1 := ih (j + 1) (by omega) (by omega)
    have ew : wrap64 ((j : Int) + 1) = ((j + 1 : Nat) : Int) := by rw [w64 (by omega) (by omega)]; omega
    obtain ⟨p, hp⟩ : ∃ p, p = passW (wayW l) j o := ⟨_, rfl⟩
    rw [pass_succ, ← hp] at ih1
    rw [← hp] at gp dp ⊢
    have e : rd p (j : Int) = at_ p j := rfl
    by_cases hn : 0 ≤ at_ p j
    · have hfr := from_ev hc gp (i := j) (by omega) hn
      refine Ev.step (f := fun k => (spec_l3From.f k l p j).bind fun bt379 => (spec_l3Full.j3 k l bt379.2 (decide (mu p < mu o)) j bt379.1)) (fun k => ?_) ?_
      · simp only [spec_l3Full.l2]
        rw [if_pos (by omega), if_pos (by omega), if_pos (by rw [gp.1]; omega), e, if_pos hn]
      · refine Ev.bind hfr ?_
        obtain ⟨g2, d2⟩ := step_good (wayW_good hc) (i := j) (by omega) gp
        obtain ⟨s, hs⟩ : ∃ s, s = stepW (wayW l) p j := ⟨_, rfl⟩
        rw [← hs] at ih1 g2 d2 ⊢
        by_cases hm : mu s < mu p
        · refine Ev.step (fun k => ?_) ih1
          have : mu s < mu o := by
            rcases dp with h | h
            · rw [h] at hm; exact hm
            · omega
          simp only [spec_l3Full.j3, decide_eq_true hm, decide_eq_true this, ew, if_true]
        · have es : s = p := by
            rcases d2 with h | h
            · exact h
            · exact absurd h hm
          rw [es] at ih1 ⊢
          refine Ev.step (fun k => ?_) ih1
          simp only [spec_l3Full.j3, ew]
          rw [if_neg (by simp)]
    · have hst : stepW (wayW l) p j = p := by unfold stepW; rw [if_pos (by omega)]
      rw [hst] at ih1
      refine Ev.step (f := fun k => spec_l3Full.j3 k l p (decide (mu p < mu o)) j false) (fun k => ?_) ?_
      · simp only [spec_l3Full.l2]
        rw [if_pos (by omega), if_pos (by omega), if_pos (by rw [gp.1]; omega), e, if_neg (by omega)]
      · refine Ev.step (fun k => ?_) ih1
        simp only [spec_l3Full.j3, ew]
        rw [if_neg (by decide)]
theorem l1_ev {l : List S29} (hc : codeB l = true) (m : Nat) : ∀ (o : List Int) (c : Bool), GoodO l.length o → mu o + c.toNat ≤ m → (c = false → passW (wayW l) l.length o = o) → Ev (fun k => spec_l3Full.l1 k l o c) (finW (wayW l) l.length o) := by
  have one : ∀ (o : List Int), passW (wayW l) l.length o = o → Ev (fun k => spec_l3Full.l1 k l o false) (finW (wayW l) l.length o) := fun o ho => by
    refine Ev.step (f := fun k => some o) (fun k => ?_) (ev_eq (Ev.now _) (fin_fix ho).symm)
    simp only [spec_l3Full.l1]; rw [if_neg (by decide)]
  induction m with
  | zero =>
    intro o c ho hm hf
    cases c with
    | false => exact one o (hf rfl)
    | true => simp at hm
  | succ m ih =>
    intro o c ho hm hf
    cases c with
    | false => exact one o (hf rfl)
    | true =>
      obtain ⟨g, d⟩ := passes_good (wayW_good hc) ho l.length (Nat.le_refl _)
      have hrec : Ev (fun k => spec_l3Full.l1 k l (passW (wayW l) l.length o) (decide (mu (passW (wayW l) l.length o) < mu o))) (finW (wayW l) l.length o) := by
        rw [← fin_pass (wayW_good hc) ho]
        rcases d with d | d
        · have hd : decide (mu (passW (wayW l) l.length o) < mu o) = false := by rw [d]; simp
          rw [hd]
          exact one _ (by rw [d, d])
        · rw [decide_eq_true d]
          exact ih _ true g (by simp at hm ⊢; omega) (fun h => by cases h)
      have := l2_ev hc ho hrec l.length 0 (by omega) (by omega)
      refine Ev.step (fun k => ?_) this
      simp only [spec_l3Full.l1, if_true]
      have e0 : decide (mu (passW (wayW l) 0 o) < mu o) = false := by simp [passW]
      rw [e0]; rfl
theorem l0_ev {l : List S29} {r : List Int} (h1 : 1 ≤ l.length) (h2 : l.length ≤ 16) (h : Ev (fun k => spec_l3Full.l1 k l (startO l.length) true) r) (d : Nat) :
    ∀ j, l.length - 1 - j = d → j + 1 ≤ l.length → Ev (fun k => spec_l3Full.l0 k l (0 :: (List.replicate j (-1) ++ List.replicate (l.length - 1 - j) 0)) ((j + 1 : Nat) : Int)) r := by
  induction d with
  | zero =>
    intro j hj hj2
    refine Ev.step (fun k => ?_) h
    have hl : (0 :: (List.replicate j (-1) ++ List.replicate (l.length - 1 - j) (0 : Int))).length = l.length := by simp; omega
    simp only [spec_l3Full.l0]
    rw [hl, if_neg (by omega), if_pos (by omega), hj]
    have : startO l.length = (0 :: (List.replicate j (-1) ++ List.replicate 0 (0 : Int))).set (Int.toNat 0) 1 := by
      unfold startO
      rw [show l.length = j + 1 by omega, List.replicate_succ]; simp
    rw [this]
  | succ d ih =>
    intro j hj hj2
    have ih1 := ih (j + 1) (by omega) (by omega)
    refine Ev.step (fun k => ?_) ih1
    have hl : (0 :: (List.replicate j (-1) ++ List.replicate (l.length - 1 - j) (0 : Int))).length = l.length := by simp; omega
    simp only [spec_l3Full.l0]
    rw [hl, if_pos (by omega), if_pos (by omega), w64 (by omega) (by omega), Int.toNat_natCast]
    have : (0 :: (List.replicate j (-1) ++ List.replicate (l.length - 1 - j) (0 : Int))).set (j + 1) (-1) = 0 :: (List.replicate (j + 1) (-1) ++ List.replicate (l.length - 1 - (j + 1)) 0) := by
      rw [List.set_cons_succ, List.set_append_right _ _ (by simp), List.length_replicate, Nat.sub_self, show l.length - 1 - j = (l.length - 1 - (j + 1)) + 1 by omega, List.replicate_succ, List.set_cons_zero, List.replicate_succ', List.append_assoc]
      rfl
    rw [this]; rfl
theorem sfull_ev {l : List S29} (hc : codeB l = true) : Ev (fun k => spec_l3Full.f k l) (fullL l) := by
  obtain ⟨h1, h2⟩ := code_len hc
  have := l0_ev h1 h2 (l1_ev hc _ (startO l.length) true (start_good _) (Nat.le_refl _) (fun h => by cases h)) (l.length - 1) 0 (by omega) (by omega)
  refine Ev.congr (fun k => ?_) this
  unfold spec_l3Full.f
  rw [if_pos (by omega), if_pos (by omega), Int.toNat_natCast]
  obtain ⟨n, hn⟩ : ∃ n, l.length = n + 1 := ⟨l.length - 1, by omega⟩
  rw [hn, List.replicate_succ]
  simp
theorem scode_ev (l : List S29) (hm : l.length ≤ 9223372036854775807) : Ev (fun k => spec_CodeOk.f k l) (codeB l) := Ev.of (fun k => spec_CodeOk.mono l k) (scode_eq l hm)
theorem has_free {x s : Int} (hx : 0 ≤ x) (hx2 : x ≤ 15) (hs : 0 ≤ s) (hs2 : s ≤ 3) : spec_l3Has.f x s = some (!freeB x s) := by
  have : fours (fun x => fours fun s => decide (s ≤ 3 → spec_l3Has.f x s = some (!freeB x s))) = true := by decide +kernel
  exact of_decide_eq_true (fours_all (fours_all this hx hx2) hs (by omega)) hs2
theorem l2uses_eq (k r s t vk vn : Int) : spec_l2Uses.f 3 k r s t vk vn = some (usesL k r s) := by
  unfold spec_l2Uses.f usesL
  by_cases h2 : k = 2
  · simp [h2]
  by_cases h3 : k = 3
  · simp [h3, spec_l2Uses.j0]
  by_cases h6 : k = 6
  · simp [h6, spec_l2Uses.j0]
  by_cases h10 : k = 10
  · simp [h10, spec_l2Uses.j0, spec_l2Uses.j1]
  by_cases h11 : k = 11
  · simp [h11, spec_l2Uses.j0, spec_l2Uses.j1]
  by_cases h12 : k = 12
  · simp [h12, spec_l2Uses.j0, spec_l2Uses.j1]
  by_cases h14 : k = 14
  · simp [h14, spec_l2Uses.j0, spec_l2Uses.j1]
  simp [h2, h3, h6, h10, h11, h12, h14, spec_l2Uses.j0, spec_l2Uses.j1]
theorem l2uses_ev (k r s t vk vn : Int) : Ev (fun n => spec_l2Uses.f n k r s t vk vn) (usesL k r s) := Ev.of (fun n => spec_l2Uses.mono k r s t vk vn n) (l2uses_eq k r s t vk vn)
theorem uses_len (k r s : Int) : (usesL k r s).length ≤ 2 := by unfold usesL; split <;> (try split) <;> (try split) <;> simp
def restB (l : List S29) (i : Nat) : Bool := (List.range' i (l.length - i)).all (safeAt l)
theorem rest_succ (l : List S29) (i : Nat) (h : i < l.length) : restB l i = (safeAt l i && restB l (i + 1)) := by
  unfold restB
  rw [show l.length - i = (l.length - (i + 1)) + 1 by omega, List.range'_succ]; rfl
theorem ssafe_uses {l : List S29} {j : Nat} (hj : j < l.length) {x : Int} (hx0 : 0 ≤ x) (hx1 : x ≤ 15) (hxe : x = at_ (fullL l) j) (hl : l.length ≤ 16) (hfl : (fullL l).length = l.length) {U : List Int} (hU : ∀ s ∈ U, 0 ≤ s ∧ s ≤ 3) (hU2 : U.length ≤ 2) {r : Bool}
    (h : Ev (fun k => spec_CodeSafe.j2 k l (fullL l) j (!(decide (j + 1 < l.length) || endsB (rd_T29 l j)))) r) (d : Nat) : ∀ m, U.length - m = d → m ≤ U.length → Ev (fun k => spec_CodeSafe.l1 k l (fullL l) j U (m : Int)) (if (U.drop m).any (freeB x) = true then false else r) := by
  have ex : rd (fullL l) (j : Int) = x := hxe.symm
  induction d with
  | zero =>
    intro m hm hm2
    rw [List.drop_of_length_le (by omega)]
    refine Ev.step (fun k => ?_) h
    simp only [spec_CodeSafe.l1]
    rw [if_neg (by omega), w64 (by omega) (by omega)]
    by_cases hn : j + 1 < l.length
    · rw [if_neg (by omega), decide_eq_true hn]; rfl
    · rw [if_pos (by omega), if_pos (by omega), if_pos (by omega), decide_eq_false hn]
      unfold endsB
      by_cases h9 : (rd_T29 l (j : Int)).f0 = 9
      · rw [if_pos h9, decide_eq_true (.inl h9)]; rfl
      · rw [if_neg h9]
        by_cases h14 : (rd_T29 l (j : Int)).f0 = 14
        · rw [decide_eq_true (.inr h14)]
          have : ((rd_T29 l (j : Int)).f0 != 14) = false := by simp [h14]
          rw [this]; rfl
        · rw [decide_eq_false (by omega)]
          have : ((rd_T29 l (j : Int)).f0 != 14) = true := by simp [h14]
          rw [this]; rfl
  | succ d ih =>
    intro m hm hm2
    have ih1 := ih (m + 1) (by omega) (by omega)
    have d0 : U.drop m = U[m]'(by omega) :: U.drop (m + 1) := List.drop_eq_getElem_cons (by omega)
    have hs := hU U[m] (List.getElem_mem (by omega))
    have hh := has_free hx0 hx1 hs.1 hs.2
    rw [d0, List.any_cons]
    cases hf : freeB x (U[m]'(by omega)) with
    | true =>
      rw [hf] at hh
      refine ev_eq (Ev.step (f := fun k => some false) (fun k => ?_) (Ev.now _)) rfl
      simp only [spec_CodeSafe.l1]
      rw [if_pos (by omega), if_pos (by omega), if_pos (by rw [hfl]; omega), if_pos (by omega), rd_at U m (by omega), ex, hh]; rfl
    | false =>
      rw [hf] at hh
      rw [Bool.false_or]
      refine Ev.step (fun k => ?_) ih1
      simp only [spec_CodeSafe.l1]
      rw [if_pos (by omega), if_pos (by omega), if_pos (by rw [hfl]; omega), if_pos (by omega), rd_at U m (by omega), ex, hh, w64 (by omega) (by omega)]; rfl
theorem ssafe_ev {l : List S29} (hc : codeB l = true) (d : Nat) : ∀ j, l.length - j = d → j ≤ l.length → Ev (fun k => spec_CodeSafe.l0 k l (fullL l) (j : Int)) (restB l j) := by
  obtain ⟨h1, h2⟩ := code_len hc
  have hg := full_good (wayW_good hc)
  have hl : (fullL l).length = l.length := hg.1
  induction d with
  | zero =>
    intro j hj hj2
    obtain rfl : j = l.length := by omega
    refine ev_eq (Ev.step (f := fun k => some true) (fun k => ?_) (Ev.now _)) ?_
    · simp only [spec_CodeSafe.l0]; rw [if_neg (by omega)]
    · unfold restB; rw [Nat.sub_self]; rfl
  | succ d ih =>
    intro j hj hj2
    have ih1 := ih (j + 1) (by omega) (by omega)
    have hw : wrap64 ((j : Int) + 1) = ((j + 1 : Nat) : Int) := by rw [w64 (by omega) (by omega)]; rfl
    rw [rest_succ l j (by omega)]
    obtain ⟨x, hx⟩ : ∃ x, x = at_ (fullL l) (j : Int) := ⟨_, rfl⟩
    have ex : rd (fullL l) (j : Int) = x := hx.symm
    have hx15 : x ≤ 15 := by rw [hx]; exact (at_good hg (j : Int)).2
    by_cases hneg : x < 0
    · have hs : safeAt l j = true := by unfold safeAt; rw [← hx, decide_eq_true hneg]; rfl
      rw [hs, Bool.true_and]
      refine Ev.step (fun k => ?_) ih1
      simp only [spec_CodeSafe.l0]
      rw [if_pos (by omega), if_pos (by omega), if_pos (by rw [hl]; omega), ex, if_pos hneg, hw]
    · obtain ⟨y, hy⟩ : ∃ y, y = rd_T29 l (j : Int) := ⟨_, rfl⟩
      have hus := uses_slots hc (i := j) (by omega)
      have hS : safeAt l j = ((decide (j + 1 < l.length) || endsB y) && !((usesL y.f0 y.f1 y.f2).any (freeB x))) := by
        unfold safeAt; rw [← hx, decide_eq_false hneg, Bool.false_or, hy]
      rw [← hy] at hus
      refine Ev.step (f := fun k => (spec_l2Uses.f k y.f0 y.f1 y.f2 y.f3 y.f4.f0 y.f4.f1).bind fun t398 => (spec_CodeSafe.l1 k l (fullL l) j t398 0)) (fun k => ?_) ?_
      · simp only [spec_CodeSafe.l0]
        rw [if_pos (by omega), if_pos (by omega), if_pos (by rw [hl]; omega), ex, if_neg hneg, ← hy]
      · refine Ev.bind (l2uses_ev _ _ _ _ _ _) ?_
        have hj2' : Ev (fun k => spec_CodeSafe.j2 k l (fullL l) j (!(decide (j + 1 < l.length) || endsB (rd_T29 l j)))) (if (!(decide (j + 1 < l.length) || endsB y)) = true then false else restB l (j + 1)) := by
          rw [← hy]
          by_cases hb : (!(decide (j + 1 < l.length) || endsB y)) = true
          · rw [if_pos hb]
            refine Ev.step (f := fun k => some false) (fun k => ?_) (Ev.now _)
            simp only [spec_CodeSafe.j2]; rw [if_pos hb]
          · rw [if_neg hb]
            refine Ev.step (fun k => ?_) ih1
            simp only [spec_CodeSafe.j2]; rw [if_neg hb, hw]
        have := ssafe_uses (l := l) (j := j) (by omega) (x := x) (by omega) hx15 hx h2 hl hus (uses_len _ _ _) hj2' _ 0 rfl (by omega)
        refine ev_eq this ?_
        rw [List.drop_zero, hS]
        cases (usesL y.f0 y.f1 y.f2).any (freeB x) <;> cases (decide (j + 1 < l.length) || endsB y) <;> simp
theorem scodesafe_ev (l : List S29) (hm : l.length ≤ 9223372036854775807) : Ev (fun k => spec_CodeSafe.f k l) (safeB l) := by
  unfold spec_CodeSafe.f
  refine Ev.bind (scode_ev l hm) ?_
  by_cases h : codeB l = true
  · simp only [if_pos h]
    refine Ev.bind (sfull_ev h) ?_
    have := ssafe_ev h l.length 0 (by omega) (by omega)
    refine ev_eq this ?_
    unfold restB safeB
    rw [h, Bool.true_and, Nat.sub_zero, List.range_eq_range']
  · simp only [if_neg h]
    refine ev_eq (Ev.now _) ?_
    unfold safeB
    have : codeB l = false := by simpa using h
    rw [this]; rfl
theorem pick_ev {b : List Int} (hb : Bytes b) (p n : Int) (hp : 0 ≤ p) (hp' : p < 1000000) (hn' : n < 1000000) :
    ∃ x, Ev (fun k => spec_l6Rd_pick.f k b p n) (x, p + 1) ∧ 0 ≤ x ∧ (1 ≤ n → x < n) ∧ (n < 1 → x = 0) := by
  obtain ⟨x, h, r⟩ := pick_ok hb 0 p n hp hp' hn'
  exact ⟨x, Ev.of (fun k => spec_l6Rd_pick.mono b p n k) h, r⟩
theorem op_ev {b : List Int} (hb : Bytes b) (p n : Int) (hp : 0 ≤ p) (hp' : p < 700000) (hn : 1 ≤ n) (hn' : n ≤ 16) :
    ∃ x r s t vk vn p', Ev (fun k => spec_l71Op.f k b p n) (x, r, s, t, vk, vn, p') ∧ p ≤ p' ∧ p' ≤ p + 12 := by
  obtain ⟨x, r, s, t, vk, vn, p', h, -, h1, h2⟩ := op_ok hb 0 p n hp hp' hn hn'
  exact ⟨x, r, s, t, vk, vn, p', Ev.of (fun k => spec_l71Op.mono b p n k) h, h1, h2⟩
theorem any_ev {b : List Int} (hb : Bytes b) (p : Int) (hp : 0 ≤ p) (hp' : p < 600000) :
    ∃ x r s t vk vn p', Ev (fun k => spec_l71AnyOp.f k b p) (x, r, s, t, vk, vn, p') ∧ p ≤ p' ∧ p' ≤ p + 20 := by
  obtain ⟨x, r, s, t, vk, vn, p', h, -, h1, h2⟩ := any_ok hb 0 p hp hp'
  exact ⟨x, r, s, t, vk, vn, p', Ev.of (fun k => spec_l71AnyOp.mono b p k) h, h1, h2⟩
theorem random_loop {b : List Int} (hb : Bytes b) (n : Nat) (hn : 3 ≤ n) (hn2 : n ≤ 10) (d : Nat) : ∀ (i : Nat) (L : List S29) (p : Int), n - i = d → i ≤ n → L.length = i → 0 ≤ p → p + 12 * d < 500000 →
    ∃ c p', Ev (fun k => spec_l71Random.l0 k (n : Int) L (i : Int) b p) (c, p') ∧ c.length = n ∧ p ≤ p' ∧ p' ≤ p + 12 * d + 2 := by
  induction d with
  | zero =>
    intro i L p hd hi hL hp hp'
    obtain rfl : i = n := by omega
    obtain ⟨x, hx, x0, x1, -⟩ := pick_ev hb p (i : Int) hp (by omega) (by omega)
    obtain ⟨y, hy, y0, y1, -⟩ := pick_ev hb (p + 1) 3 (by omega) (by omega) (by omega)
    have e1 : wrap64 ((i : Int) - 1) = ((i - 1 : Nat) : Int) := by rw [w64 (by omega) (by omega)]; omega
    by_cases hy3 : y = 0
    · refine ⟨L.set (i - 1) ⟨14, 0, 0, 0, ⟨0, 0⟩⟩, p + 1 + 1, ?_, by simpa using hL, by omega, by omega⟩
      refine Ev.step (f := fun k => (spec_l6Rd_pick.f k b p (i : Int)).bind fun bt421 => ((spec_l6Rd_pick.f k b bt421.2 3).bind fun bt424 => (if bt424.1 = 0 then (if 0 ≤ (wrap64 ((i : Int) - 1)) then (if (wrap64 ((i : Int) - 1)) < (L.length : Int) then (some ((L.set ((wrap64 ((i : Int) - 1)) : Int).toNat (⟨14, 0, 0, 0, (⟨0, 0⟩ : S27)⟩ : S29)), bt424.2)) else (none)) else (none)) else (if 0 ≤ (wrap64 ((i : Int) - 1)) then (if (wrap64 ((i : Int) - 1)) < (L.length : Int) then (some ((L.set ((wrap64 ((i : Int) - 1)) : Int).toNat (⟨9, 0, 0, bt421.1, (⟨0, 0⟩ : S27)⟩ : S29)), bt424.2)) else (none)) else (none))))) (fun k => ?_) ?_
      · simp only [spec_l71Random.l0]; rw [if_neg (by omega)]
      · refine Ev.bind hx (Ev.bind hy ?_)
        simp only [if_pos hy3, e1]
        simp only [if_pos (show (0 : Int) ≤ ((i - 1 : Nat) : Int) by omega), if_pos (show ((i - 1 : Nat) : Int) < (L.length : Int) by omega), Int.toNat_natCast]
        exact Ev.now _
    · refine ⟨L.set (i - 1) ⟨9, 0, 0, x, ⟨0, 0⟩⟩, p + 1 + 1, ?_, by simpa using hL, by omega, by omega⟩
      refine Ev.step (f := fun k => (spec_l6Rd_pick.f k b p (i : Int)).bind fun bt421 => ((spec_l6Rd_pick.f k b bt421.2 3).bind fun bt424 => (if bt424.1 = 0 then (if 0 ≤ (wrap64 ((i : Int) - 1)) then (if (wrap64 ((i : Int) - 1)) < (L.length : Int) then (some ((L.set ((wrap64 ((i : Int) - 1)) : Int).toNat (⟨14, 0, 0, 0, (⟨0, 0⟩ : S27)⟩ : S29)), bt424.2)) else (none)) else (none)) else (if 0 ≤ (wrap64 ((i : Int) - 1)) then (if (wrap64 ((i : Int) - 1)) < (L.length : Int) then (some ((L.set ((wrap64 ((i : Int) - 1)) : Int).toNat (⟨9, 0, 0, bt421.1, (⟨0, 0⟩ : S27)⟩ : S29)), bt424.2)) else (none)) else (none))))) (fun k => ?_) ?_
      · simp only [spec_l71Random.l0]; rw [if_neg (by omega)]
      · refine Ev.bind hx (Ev.bind hy ?_)
        simp only [if_neg hy3, e1]
        simp only [if_pos (show (0 : Int) ≤ ((i - 1 : Nat) : Int) by omega), if_pos (show ((i - 1 : Nat) : Int) < (L.length : Int) by omega), Int.toNat_natCast]
        exact Ev.now _
  | succ d ih =>
    intro i L p hd hi hL hp hp'
    obtain ⟨x, r, s, t, vk, vn, p1, ho, h1, h2⟩ := op_ev hb p (n : Int) hp (by omega) (by omega) (by omega)
    obtain ⟨c, p', hc, hl, h3, h4⟩ := ih (i + 1) (L ++ [⟨x, r, s, t, ⟨vk, vn⟩⟩]) p1 (by omega) (by omega) (by simp [hL]) (by omega) (by omega)
    refine ⟨c, p', ?_, hl, by omega, by omega⟩
    refine Ev.step (f := fun k => (spec_l71Op.f k b p (n : Int)).bind fun bt411 => (if L.length < 2932031007402 then (spec_l71Random.l0 k (n : Int) (L ++ [(⟨bt411.1, bt411.2.1, bt411.2.2.1, bt411.2.2.2.1, (⟨bt411.2.2.2.2.1, bt411.2.2.2.2.2.1⟩ : S27)⟩ : S29)]) ((i + 1 : Nat) : Int) b bt411.2.2.2.2.2.2) else (none))) (fun k => ?_) ?_
    · simp only [spec_l71Random.l0]; rw [if_pos (by omega), w64 (by omega) (by omega)]; rfl
    · refine Ev.bind ho ?_
      simp only [if_pos (show L.length < 2932031007402 by omega)]
      exact hc
theorem random_ev {b : List Int} (hb : Bytes b) (p : Int) (hp : 0 ≤ p) (hp' : p < 400000) : ∃ c p', Ev (fun k => spec_l71Random.f k b p) (c, p') ∧ 1 ≤ c.length ∧ c.length ≤ 10 ∧ p ≤ p' ∧ p' ≤ p + 200 := by
  obtain ⟨x, hx, x0, x1, -⟩ := pick_ev hb p 8 hp (by omega) (by omega)
  have x1 := x1 (by omega)
  obtain ⟨m, rfl⟩ := Int.eq_ofNat_of_zero_le x0
  obtain ⟨c, p', hc, hl, h3, h4⟩ := random_loop hb (3 + m) (by omega) (by omega) (3 + m) 0 [] (p + 1) (by omega) (by omega) rfl (by omega) (by omega)
  refine ⟨c, p', ?_, by omega, by omega, by omega, by omega⟩
  unfold spec_l71Random.f
  refine Ev.bind hx ?_
  have e : wrap64 (3 + (m : Int)) = ((3 + m : Nat) : Int) := by rw [w64 (by omega) (by omega)]; omega
  simp only [e]
  exact hc
def textsL : List ByteArray := (spec_l71Texts.f).getD []
theorem texts_eq : spec_l71Texts.f = some textsL := rfl
theorem texts_all : (textsL.all fun t => (spec_CodeRead.f 80 t).map (fun p => decide (1 ≤ p.1.length ∧ p.1.length ≤ 16)) == some true) = true := by decide +kernel
theorem texts_len : textsL.length = 5 := by decide +kernel
theorem read_ev {t : ByteArray} (h : t ∈ textsL) : ∃ c ok, Ev (fun k => spec_CodeRead.f k t) (c, ok) ∧ 1 ≤ c.length ∧ c.length ≤ 16 := by
  have h1 := List.all_eq_true.1 texts_all t h
  have h2 := eq_of_beq h1
  obtain ⟨⟨c, ok⟩, h3, h4⟩ := Option.map_eq_some_iff.1 h2
  have h5 := of_decide_eq_true h4
  exact ⟨c, ok, Ev.of (fun k => spec_CodeRead.mono t k) h3, h5.1, h5.2⟩
theorem of_ev {b : List Int} (hb : Bytes b) (p : Int) (hp : 0 ≤ p) (hp' : p < 900000) : ∃ t, Ev (fun k => spec_l6Rd_of.f k b p textsL) (t, p + 1) ∧ t ∈ textsL := by
  have hl := texts_len
  obtain ⟨x, hx, x0, x1, -⟩ := pick_ev hb p (textsL.length : Int) hp (by omega) (by omega)
  have x1 := x1 (by omega)
  refine ⟨rdOf ByteArray.empty textsL x, ?_, ?_⟩
  · unfold spec_l6Rd_of.f
    refine Ev.bind hx ?_
    simp only [if_pos x0, if_pos x1]
    exact Ev.now _
  · unfold rdOf
    rw [List.getD_eq_getElem?_getD, List.getElem?_eq_getElem (by omega)]
    exact List.getElem_mem _
theorem safe_loop {b : List Int} (hb : Bytes b) (d : Nat) : ∀ (i : Nat) (c : List S29) (p : Int), 4 - i = d → i ≤ 4 → 1 ≤ c.length → c.length ≤ 16 → 0 ≤ p → p + 20 * d < 600000 →
    ∃ c' p', Ev (fun k => spec_l71Safe.l1 k c (i : Int) b p) (c', p') ∧ 1 ≤ c'.length ∧ c'.length ≤ 16 ∧ p ≤ p' ∧ p' ≤ p + 20 * d := by
  induction d with
  | zero =>
    intro i c p hd hi h1 h2 hp hp'
    refine ⟨c, p, Ev.step (f := fun k => some (c, p)) (fun k => ?_) (Ev.now _), h1, h2, by omega, by omega⟩
    simp only [spec_l71Safe.l1]; rw [if_neg (by omega)]
  | succ d ih =>
    intro i c p hd hi h1 h2 hp hp'
    obtain ⟨x, hx, x0, x1, -⟩ := pick_ev hb p (c.length : Int) hp (by omega) (by omega)
    have x1 := x1 (by omega)
    obtain ⟨a, r, s, t, vk, vn, p1, ho, q0, q1⟩ := op_ev hb (p + 1) (c.length : Int) (by omega) (by omega) (by omega) (by omega)
    obtain ⟨y, hy⟩ : ∃ y, y = c.set x.toNat ⟨a, r, s, t, ⟨vk, vn⟩⟩ := ⟨_, rfl⟩
    have hyl : y.length = c.length := by rw [hy]; simp
    have hs := scodesafe_ev y (by omega)
    have ew : wrap64 ((i : Int) + 1) = ((i + 1 : Nat) : Int) := by rw [w64 (by omega) (by omega)]; rfl
    have top : ∀ {res : List S29 × Int}, Ev (fun k => if safeB y = true then ((spec_l6Rd_pick.f k b p1 2).bind fun bt497 => (spec_l71Safe.j2 k c (i : Int) y (bt497.1 == 0) b bt497.2)) else (spec_l71Safe.j2 k c (i : Int) y false b p1)) res → Ev (fun k => spec_l71Safe.l1 k c (i : Int) b p) res := fun {res} h => by
      refine Ev.step (f := fun k => (spec_l6Rd_pick.f k b p (c.length : Int)).bind fun bt486 => ((spec_l71Op.f k b bt486.2 (c.length : Int)).bind fun bt488 => (if 0 ≤ bt486.1 then (if bt486.1 < (c.length : Int) then ((some (c.set (bt486.1 : Int).toNat (⟨bt488.1, bt488.2.1, bt488.2.2.1, bt488.2.2.2.1, (⟨bt488.2.2.2.2.1, bt488.2.2.2.2.2.1⟩ : S27)⟩ : S29) : List (S29))).bind fun y495 => ((spec_CodeSafe.f k y495).bind fun t496 => (if t496 = true then ((spec_l6Rd_pick.f k b bt488.2.2.2.2.2.2 2).bind fun bt497 => (spec_l71Safe.j2 k c (i : Int) y495 (bt497.1 == 0) b bt497.2)) else (spec_l71Safe.j2 k c (i : Int) y495 false b bt488.2.2.2.2.2.2)))) else (none)) else (none)))) (fun k => ?_) ?_
      · simp only [spec_l71Safe.l1, List.nil_append, Option.bind_some, List.length_nil, Nat.zero_add]
        rw [if_pos (by omega), if_pos (by omega)]
      · refine Ev.bind hx (Ev.bind ho ?_)
        simp only [if_pos x0, if_pos x1, Option.bind_some, ← hy]
        exact Ev.bind hs h
    have goOn : ∀ (z : List S29) (p2 : Int), 1 ≤ z.length → z.length ≤ 16 → p ≤ p2 → p2 ≤ p + 20 → ∃ c' p', Ev (fun k => spec_l71Safe.l1 k z ((i + 1 : Nat) : Int) b p2) (c', p') ∧ 1 ≤ c'.length ∧ c'.length ≤ 16 ∧ p ≤ p' ∧ p' ≤ p + 20 * (d + 1 : Nat) := fun z p2 z1 z2 g1 g2 => by
      obtain ⟨c', p', h, l1, l2, l3, l4⟩ := ih (i + 1) z p2 (by omega) (by omega) z1 z2 (by omega) (by omega)
      exact ⟨c', p', h, l1, l2, by omega, by omega⟩
    by_cases hsf : safeB y = true
    · obtain ⟨u, hu, u0, u1, -⟩ := pick_ev hb p1 2 (by omega) (by omega) (by omega)
      by_cases hu0 : u = 0
      · obtain ⟨c', p', h, l⟩ := goOn y (p1 + 1) (by omega) (by omega) (by omega) (by omega)
        refine ⟨c', p', top ?_, l⟩
        simp only [if_pos hsf]
        refine Ev.bind hu ?_
        refine Ev.step (fun k => ?_) h
        simp only [spec_l71Safe.j2, ew]
        rw [if_pos (by simp [hu0])]
      · obtain ⟨c', p', h, l⟩ := goOn c (p1 + 1) (by omega) (by omega) (by omega) (by omega)
        refine ⟨c', p', top ?_, l⟩
        simp only [if_pos hsf]
        refine Ev.bind hu ?_
        refine Ev.step (fun k => ?_) h
        simp only [spec_l71Safe.j2, ew]
        rw [if_neg (by simp [hu0])]
    · obtain ⟨c', p', h, l⟩ := goOn c p1 (by omega) (by omega) (by omega) (by omega)
      refine ⟨c', p', top ?_, l⟩
      simp only [if_neg hsf]
      refine Ev.step (fun k => ?_) h
      simp only [spec_l71Safe.j2, ew]
      rw [if_neg (by decide)]
theorem safe_tries {b : List Int} (hb : Bytes b) (d : Nat) : ∀ (i : Nat) (p : Int), 3 - i = d → i ≤ 3 → 0 ≤ p → p + 300 * d < 300000 →
    ∃ c' p', Ev (fun k => spec_l71Safe.l0 k (i : Int) b p) (c', p') ∧ 1 ≤ c'.length ∧ c'.length ≤ 16 ∧ p ≤ p' ∧ p' ≤ p + 300 * d + 100 := by
  induction d with
  | zero =>
    intro i p hd hi hp hp'
    obtain ⟨t, ht, hm⟩ := of_ev hb p hp (by omega)
    obtain ⟨c, ok, hc, c1, c2⟩ := read_ev hm
    obtain ⟨c', p', h, l1, l2, l3, l4⟩ := safe_loop hb 4 0 c (p + 1) rfl (by omega) c1 c2 (by omega) (by omega)
    refine ⟨c', p', ?_, l1, l2, by omega, by omega⟩
    refine Ev.step (f := fun k => (spec_l71Texts.f).bind fun t471 => ((spec_l6Rd_of.f k b p t471).bind fun bt474 => ((spec_CodeRead.f k bt474.1).bind fun bt476 => (spec_l71Safe.l1 k bt476.1 0 b bt474.2)))) (fun k => ?_) ?_
    · simp only [spec_l71Safe.l0]; rw [if_neg (by omega)]
    · rw [texts_eq]
      simp only [Option.bind_some]
      exact Ev.bind ht (Ev.bind hc h)
  | succ d ih =>
    intro i p hd hi hp hp'
    obtain ⟨c, p1, hc, c1, c2, c3, c4⟩ := random_ev hb p hp (by omega)
    have hs := scodesafe_ev c (by omega)
    have ew : wrap64 ((i : Int) + 1) = ((i + 1 : Nat) : Int) := by rw [w64 (by omega) (by omega)]; rfl
    have top : ∀ {res : List S29 × Int}, Ev (fun k => if safeB c = true then (some (c, p1)) else (spec_l71Safe.l0 k ((i + 1 : Nat) : Int) b p1)) res → Ev (fun k => spec_l71Safe.l0 k (i : Int) b p) res := fun {res} h => by
      refine Ev.step (f := fun k => (spec_l71Random.f k b p).bind fun bt466 => ((spec_CodeSafe.f k bt466.1).bind fun t470 => (if t470 = true then (some (bt466.1, bt466.2)) else (spec_l71Safe.l0 k ((i + 1 : Nat) : Int) b bt466.2)))) (fun k => ?_) ?_
      · simp only [spec_l71Safe.l0, ew]; rw [if_pos (by omega)]
      · exact Ev.bind hc (Ev.bind hs h)
    by_cases hsf : safeB c = true
    · refine ⟨c, p1, top ?_, c1, by omega, by omega, by omega⟩
      simp only [if_pos hsf]; exact Ev.now _
    · obtain ⟨c', p', h, l1, l2, l3, l4⟩ := ih (i + 1) p1 (by omega) (by omega) (by omega) (by omega)
      refine ⟨c', p', top ?_, l1, l2, by omega, by omega⟩
      simp only [if_neg hsf]; exact h
theorem safe_ev {b : List Int} (hb : Bytes b) (p : Int) (hp : 0 ≤ p) (hp' : p < 200000) : ∃ c p', Ev (fun k => spec_l71Safe.f k b p) (c, p') ∧ 1 ≤ c.length ∧ c.length ≤ 16 ∧ p ≤ p' ∧ p' ≤ p + 1000 := by
  obtain ⟨c', p', h, l1, l2, l3, l4⟩ := safe_tries hb 3 0 p rfl (by omega) hp (by omega)
  exact ⟨c', p', h, l1, l2, by omega, by omega⟩
theorem fill_loop {b : List Int} (hb : Bytes b) (d : Nat) : ∀ (c : List S29) (p : Int), 17 - c.length = d → c.length ≤ 17 → 0 ≤ p → p + d < 300000 →
    ∃ c' p', Ev (fun k => spec_l71Code.l0 k c b p) (c', p') ∧ c'.length ≤ 17 ∧ p ≤ p' ∧ p' ≤ p + d + 1 := by
  induction d with
  | zero =>
    intro c p hd hl hp hp'
    obtain ⟨x, hx, x0, x1, -⟩ := pick_ev hb p 2 hp (by omega) (by omega)
    have x1 := x1 (by omega)
    have e : wrap64 (16 + x) = 16 + x := w64 (by omega) (by omega)
    refine ⟨c, p + 1, ?_, hl, by omega, by omega⟩
    refine Ev.step (f := fun k => (spec_l6Rd_pick.f k b p 2).bind fun bt524 => (if (c.length : Int) < (wrap64 (16 + bt524.1)) then (if c.length < 2932031007402 then (spec_l71Code.l0 k (c ++ [(⟨14, 0, 0, 0, (⟨0, 0⟩ : S27)⟩ : S29)]) b bt524.2) else (none)) else (some (c, bt524.2)))) (fun k => by simp only [spec_l71Code.l0]) ?_
    refine Ev.bind hx ?_
    simp only [e, if_neg (show ¬ (c.length : Int) < 16 + x by omega)]
    exact Ev.now _
  | succ d ih =>
    intro c p hd hl hp hp'
    obtain ⟨x, hx, x0, x1, -⟩ := pick_ev hb p 2 hp (by omega) (by omega)
    have x1 := x1 (by omega)
    have e : wrap64 (16 + x) = 16 + x := w64 (by omega) (by omega)
    have top : ∀ {res : List S29 × Int}, Ev (fun k => if (c.length : Int) < 16 + x then (if c.length < 2932031007402 then (spec_l71Code.l0 k (c ++ [(⟨14, 0, 0, 0, (⟨0, 0⟩ : S27)⟩ : S29)]) b (p + 1)) else (none)) else (some (c, p + 1))) res → Ev (fun k => spec_l71Code.l0 k c b p) res := fun {res} h => by
      refine Ev.step (f := fun k => (spec_l6Rd_pick.f k b p 2).bind fun bt524 => (if (c.length : Int) < (wrap64 (16 + bt524.1)) then (if c.length < 2932031007402 then (spec_l71Code.l0 k (c ++ [(⟨14, 0, 0, 0, (⟨0, 0⟩ : S27)⟩ : S29)]) b bt524.2) else (none)) else (some (c, bt524.2)))) (fun k => by simp only [spec_l71Code.l0]) ?_
      refine Ev.bind hx ?_
      simp only [e]; exact h
    by_cases hlt : (c.length : Int) < 16 + x
    · obtain ⟨c', p', h, l1, l2, l3⟩ := ih (c ++ [⟨14, 0, 0, 0, ⟨0, 0⟩⟩]) (p + 1) (by simp; omega) (by simp; omega) (by omega) (by omega)
      refine ⟨c', p', top ?_, l1, by omega, by omega⟩
      simp only [if_pos hlt, if_pos (show c.length < 2932031007402 by omega)]
      exact h
    · refine ⟨c, p + 1, top ?_, hl, by omega, by omega⟩
      simp only [if_neg hlt]; exact Ev.now _
theorem code_ev {b : List Int} (hb : Bytes b) (p : Int) (hp : 0 ≤ p) (hp' : p < 100000) : ∃ c p', Ev (fun k => spec_l71Code.f k b p) (c, p') ∧ c.length ≤ 17 ∧ p ≤ p' ∧ p' ≤ p + 1500 := by
  obtain ⟨c, p1, hc, c1, c2, c3, c4⟩ := safe_ev hb p hp (by omega)
  obtain ⟨x, hx, x0, x1, -⟩ := pick_ev hb p1 12 (by omega) (by omega) (by omega)
  have top : ∀ {res : List S29 × Int}, Ev (fun k => if x = 0 then ((spec_l71Random.f k b (p1 + 1)).bind fun bt505 => (some (bt505.1, bt505.2))) else (if x = 1 then ((spec_l6Rd_pick.f k b (p1 + 1) (c.length : Int)).bind fun bt509 => ((spec_l71AnyOp.f k b bt509.2).bind fun bt511 => (if 0 ≤ bt509.1 then (if bt509.1 < (c.length : Int) then (some ((c.set (bt509.1 : Int).toNat (⟨bt511.1, bt511.2.1, bt511.2.2.1, bt511.2.2.2.1, (⟨bt511.2.2.2.2.1, bt511.2.2.2.2.2.1⟩ : S27)⟩ : S29)), bt511.2.2.2.2.2.2)) else (none)) else (none)))) else (if x = 2 then ((spec_l6Rd_pick.f k b (p1 + 1) (wrap64 ((c.length : Int) + 1))).bind fun bt519 => (if 0 ≤ bt519.1 then (if bt519.1 ≤ (c.length : Int) then (some ((c.take (bt519.1 : Int).toNat), bt519.2)) else (none)) else (none))) else (if x = 3 then (spec_l71Code.l0 k c b (p1 + 1)) else (some (c, p1 + 1)))))) res → Ev (fun k => spec_l71Code.f k b p) res := fun {res} h => by
    unfold spec_l71Code.f
    exact Ev.bind hc (Ev.bind hx h)
  by_cases h0 : x = 0
  · obtain ⟨c', p', h, l1, l2, l3, l4⟩ := random_ev hb (p1 + 1) (by omega) (by omega)
    refine ⟨c', p', top ?_, by omega, by omega, by omega⟩
    simp only [if_pos h0]
    exact Ev.bind h (Ev.now _)
  by_cases h1 : x = 1
  · obtain ⟨y, hy, y0, y1, -⟩ := pick_ev hb (p1 + 1) (c.length : Int) (by omega) (by omega) (by omega)
    have y1 := y1 (by omega)
    obtain ⟨a, r, s, t, vk, vn, p2, ho, q0, q1⟩ := any_ev hb (p1 + 1 + 1) (by omega) (by omega)
    refine ⟨c.set y.toNat ⟨a, r, s, t, ⟨vk, vn⟩⟩, p2, top ?_, by simp; omega, by omega, by omega⟩
    simp only [if_neg h0, if_pos h1]
    refine Ev.bind hy (Ev.bind ho ?_)
    simp only [if_pos y0, if_pos y1]
    exact Ev.now _
  by_cases h2 : x = 2
  · have e : wrap64 ((c.length : Int) + 1) = (c.length : Int) + 1 := w64 (by omega) (by omega)
    obtain ⟨y, hy, y0, y1, -⟩ := pick_ev hb (p1 + 1) ((c.length : Int) + 1) (by omega) (by omega) (by omega)
    have y1 := y1 (by omega)
    refine ⟨c.take y.toNat, p1 + 1 + 1, top ?_, by simp; omega, by omega, by omega⟩
    simp only [if_neg h0, if_neg h1, if_pos h2, e]
    refine Ev.bind hy ?_
    simp only [if_pos y0, if_pos (show y ≤ (c.length : Int) by omega)]
    exact Ev.now _
  by_cases h3 : x = 3
  · obtain ⟨c', p', h, l1, l2, l3⟩ := fill_loop hb (17 - c.length) c (p1 + 1) rfl (by omega) (by omega) (by omega)
    refine ⟨c', p', top ?_, l1, by omega, by omega⟩
    simp only [if_neg h0, if_neg h1, if_neg h2, if_pos h3]
    exact h
  · refine ⟨c, p1 + 1, top ?_, by omega, by omega, by omega⟩
    simp only [if_neg h0, if_neg h1, if_neg h2, if_neg h3]
    exact Ev.now _
theorem drawOk_ev {l : List Int} (hw : ∀ x ∈ l, (Lit.int .u8 x).wf = true) : ∃ c, Ev (fun k => spec_DrawCodeOk.f k l) c ∧ c.length ≤ 17 := by
  obtain ⟨b, hb, hB⟩ := open_ok hw
  obtain ⟨c, p, hc, hl, hp, hp2⟩ := code_ev hB 0 (by omega) (by omega)
  have top : ∀ {res : List S29}, Ev (fun k => if (c.length : Int) > 0 then ((spec_l6Rd_pick.f k b p 4).bind fun bt536 => (spec_DrawCodeOk.j0 k c (bt536.1 == 0) b bt536.2)) else (spec_DrawCodeOk.j0 k c false b p)) res → Ev (fun k => spec_DrawCodeOk.f k l) res := fun {res} h => by
    unfold spec_DrawCodeOk.f
    rw [hb]; simp only [Option.bind_some]
    exact Ev.bind hc h
  have no : ∀ p', Ev (fun k => spec_DrawCodeOk.j0 k c false b p') c := fun p' => by
    refine Ev.step (f := fun k => some c) (fun k => ?_) (Ev.now _)
    simp only [spec_DrawCodeOk.j0]; rw [if_neg (by decide)]
  by_cases hc0 : (c.length : Int) > 0
  · obtain ⟨x, hx, x0, x1, -⟩ := pick_ev hB p 4 (by omega) (by omega) (by omega)
    by_cases h0 : x = 0
    · obtain ⟨y, hy, y0, y1, -⟩ := pick_ev hB (p + 1) (c.length : Int) (by omega) (by omega) (by omega)
      have y1 := y1 (by omega)
      obtain ⟨a, r, s, t, vk, vn, p2, ho, q0, q1⟩ := any_ev hB (p + 1 + 1) (by omega) (by omega)
      refine ⟨c.set y.toNat ⟨a, r, s, t, ⟨vk, vn⟩⟩, top ?_, by simp; omega⟩
      simp only [if_pos hc0]
      refine Ev.bind hx ?_
      have e : (x == 0) = true := by simp [h0]
      simp only [e]
      refine Ev.step (f := fun k => (spec_l6Rd_pick.f k b (p + 1) (c.length : Int)).bind fun bt538 => ((spec_l71AnyOp.f k b bt538.2).bind fun bt540 => (if 0 ≤ bt538.1 then (if bt538.1 < (c.length : Int) then (some (c.set (bt538.1 : Int).toNat (⟨bt540.1, bt540.2.1, bt540.2.2.1, bt540.2.2.2.1, (⟨bt540.2.2.2.2.1, bt540.2.2.2.2.2.1⟩ : S27)⟩ : S29))) else (none)) else (none)))) (fun k => by simp only [spec_DrawCodeOk.j0]; rw [if_pos trivial]) ?_
      refine Ev.bind hy (Ev.bind ho ?_)
      simp only [if_pos y0, if_pos y1]
      exact Ev.now _
    · refine ⟨c, top ?_, hl⟩
      simp only [if_pos hc0]
      refine Ev.bind hx ?_
      have e : (x == 0) = false := by simp [h0]
      simp only [e]
      exact no _
  · refine ⟨c, top ?_, hl⟩
    simp only [if_neg hc0]
    exact no _
end Go.Proofs.Ytmklpbmlgjkbiaa.PS
end
section
namespace Go.Proofs.Ytmklpbmlgjkbiaa.Pure
open Go.RowKit Go.Proofs.Ytmklpbmlgjkbiaa.PJK Go.Proofs.Ytmklpbmlgjkbiaa.PS Go.Proofs.YtmklpbmlgjkbiaaW.PrintWords Go.Proofs.YtmklpbmlgjkbiaaW.PrintLast
theorem code_bad {l : List S29} {x : S29} (hx : x ∈ l) (h : wrongB l.length x = true) : codeB l = false := by
  unfold codeB
  have : l.any (wrongB l.length) = true := List.any_eq_true.2 ⟨x, hx, h⟩
  rw [this]; simp
theorem cg_loop {l : List S29} (hc : codeB l = true) (l1 : List Int) (d : Nat) : ∀ i, l.length - i = d → i ≤ l.length → Ev (fun k => laws_FnCodeGoes.l0 k l1 l (i : Int)) true := by
  obtain ⟨g1, g2⟩ := code_len hc
  induction d with
  | zero =>
    intro i hd hi
    obtain ⟨q, hq⟩ := Int.eq_ofNat_of_zero_le (Int.emod_nonneg (l1.length : Int) (show (l.length : Int) ≠ 0 by omega))
    have hq2 : (l1.length : Int) % (l.length : Int) < l.length := Int.emod_lt_of_pos _ (by omega)
    have hbad : codeB (l.set q ⟨9, 0, 0, (l.length : Int), ⟨0, 0⟩⟩) = false := by
      refine code_bad (x := ⟨9, 0, 0, (l.length : Int), ⟨0, 0⟩⟩) (List.mem_iff_getElem.2 ⟨q, by rw [List.length_set]; omega, by simp⟩) ?_
      unfold wrongB
      rw [List.length_set, decide_eq_true (Int.le_refl _)]
      have : hasT 9 = true := rfl
      rw [this]; simp
    have hnil : codeB ([] : List S29) = false := rfl
    refine Ev.step (f := fun k => some true) (fun k => ?_) (Ev.now _)
    simp only [laws_FnCodeGoes.l0, Option.bind_some, List.nil_append, List.length_nil, Nat.zero_add]
    rw [if_neg (by omega), if_pos (by omega), if_neg (by omega), if_pos (by omega), if_pos (by omega), hq, Int.toNat_natCast]
    simp only [codeV.f, hbad, hnil, Option.bind_some, Bool.false_eq_true, if_false]
    rw [decide_eq_true (by omega)]
  | succ d ih =>
    intro i hd hi
    have ih1 := ih (i + 1) (by omega) (by omega)
    have hw : wrap64 ((i : Int) + 1) = ((i + 1 : Nat) : Int) := by rw [w64 (by omega) (by omega)]; rfl
    obtain ⟨hop, hT⟩ := code_op hc (i := i) (by omega)
    rw [← rd29_get (by omega)] at hop hT
    have ht : (rd_T29 l (i : Int)).f3 < (l.length : Int) := by
      obtain ⟨a, b, c, d', e, f⟩ := hop
      rcases e with e | e
      · omega
      · exact hT e.1
    refine Ev.step (f := fun k => laws_FnCodeGoes.j2 k l1 l (i : Int) false) (fun k => ?_) ?_
    · simp only [laws_FnCodeGoes.l0, opV.f, opB_true.2 hop, Option.bind_some, if_true]
      rw [if_pos (by omega), if_pos (by omega), decide_eq_false (by omega)]
    · refine Ev.step (fun k => ?_) ih1
      simp only [laws_FnCodeGoes.j2, Bool.false_eq_true, if_false, hw]
theorem FnCodeGoes : laws_FnCodeGoes.Pure := by
  intro l0 l1 hm hr hw hm1 hr1 hw1
  refine Ev.rounds ?_
  have no : Ev (fun k => laws_FnCodeGoes.j0 k l0 l1 true) true := by
    refine Ev.step (f := fun k => some true) (fun k => ?_) (Ev.now _)
    simp only [laws_FnCodeGoes.j0, if_true]
  unfold laws_FnCodeGoes.f
  by_cases hl : (l0.length : Int) > 1048576
  · simp only [if_pos hl]; exact no
  simp only [if_neg hl]
  by_cases hl1 : (l1.length : Int) > 1048576
  · rw [decide_eq_true hl1]; exact no
  rw [decide_eq_false hl1]
  obtain ⟨c, hc, hcl⟩ := drawOk_ev hw
  refine Ev.step (f := fun k => (spec_DrawCodeOk.f k l0).bind fun t101 => ((codeV.f t101).bind fun t104 => (if t104 = true then (laws_FnCodeGoes.l0 k l1 t101 0) else (some true)))) (fun k => ?_) ?_
  · simp only [laws_FnCodeGoes.j0, Bool.false_eq_true, if_false]
  refine Ev.bind hc ?_
  simp only [codeV.f, Option.bind_some]
  by_cases hk : codeB c = true
  · simp only [if_pos hk]
    exact cg_loop hk l1 c.length 0 (by omega) (by omega)
  · simp only [if_neg hk]; exact Ev.now _
end Go.Proofs.Ytmklpbmlgjkbiaa.Pure
end
section
namespace Go.Proofs.Ytmklpbmlgjkbiaa.Facts
theorem headIs {ws : List (List Char)} {c : List Char} (h : (behindMainWord ws).head? = some c) : ∃ rest, behindMainWord ws = c :: rest := by
  cases hb : behindMainWord ws with
  | nil => rw [hb] at h; cases h
  | cons a r => rw [hb] at h; cases h; exact ⟨r, rfl⟩
theorem signs {s : String} {l : List Char} {c : List Char} (h : s = String.ofList l) (k : (behindMainWord (wordsSigns l)).head? = some c) : ∃ rest, behindMainWord (wordsSigns s.toList) = c :: rest := by
  subst h; rw [String.toList_ofList]; exact headIs k
theorem cutHead : ∃ rest, behindMainWord (wordsSigns Try.prog.initOrder.toList) = "cut".toList :: rest := by
  show ∃ rest, behindMainWord (wordsSigns Try.progTables.initOrder.toList) = "cut".toList :: rest
  unfold Try.progTables
  exact signs rfl (by kernel_rfl)
theorem noLifts (rest : List (List Char)) : stripLifts liftWords ("cut".toList :: rest) = ([], "cut".toList :: rest) := by kernel_rfl
theorem made_of {P : Program} {rest : List (List Char)} (h : behindMainWord (wordsSigns P.initOrder.toList) = "cut".toList :: rest) : P.make = some .cut := by
  unfold Program.make
  rw [h]
  kernel_rfl
theorem may_of {P : Program} {rest : List (List Char)} (h : behindMainWord (wordsSigns P.initOrder.toList) = "cut".toList :: rest)
    (h1 : P.laysLater = false) (h2 : P.bearsReflect = false) (h3 : P.doorFits [] = true) : P.mayEnter = true := by
  unfold Program.mayEnter
  rw [h]
  simp only [noLifts, h1, h2, h3]
  kernel_rfl
theorem lifts_of {P : Program} {rest : List (List Char)} (h : behindMainWord (wordsSigns P.initOrder.toList) = "cut".toList :: rest) : P.liftsFinal = false := by
  unfold Program.liftsFinal Program.headLifts
  rw [h]
  kernel_rfl
theorem may : Try.prog.mayEnter = true := by
  obtain ⟨rest, h⟩ := cutHead
  exact may_of h (by kernel_rfl) (by kernel_rfl) (by kernel_rfl)
theorem lifts : Try.prog.liftsFinal = false := by
  obtain ⟨rest, h⟩ := cutHead
  exact lifts_of h
theorem made : Try.prog.make = some Make.cut := by
  obtain ⟨rest, h⟩ := cutHead
  exact made_of h
theorem band {a b : Bool} (ha : a = true) (hb : b = true) : (a && b) = true := by rw [ha, hb]; rfl
theorem flifts {b : Bool} (h : (b == false) = true) : (b == Try.prog.liftsFinal) = true := by rw [lifts]; exact h
theorem fmade {m : Make} (h : (some Make.cut == some m) = true) : (Try.prog.make == some m) = true := by rw [made]; exact h
end Go.Proofs.Ytmklpbmlgjkbiaa.Facts
end
section
namespace Go.Proofs.YtmklpbmlgjkbiaaW.PrintWords
open Go.ChangeShapes Go.WideShapes
theorem sized_ints {H : Type} {enc : TypeId × Value → H} {P : Program} {W : World} {base : Nat} {spare : Nat → Bool} {held : Bool} {t e : TypeId} {k : IntKind} {a : Option Addr} {len cap : Nat} {d : DataW H} {ps : List MemPlace} {ts : List TypeId} {ds : List (DataW H)} {j : Nat}
    (hsz : (DataW.weightsEach P ts ds).all (· ≤ reachBytes) = true) (ht : ts[j]? = some t) (hd : ds[j]? = some d) (hu : P.underlying t = some (.slice e)) (he : P.underlying e = some (.int k)) (hc : P.cellsOf e = 1) {B : Nat} (hB : P.bytesOf e = B)
    (h : DataW.Trod enc P W base spare held t (.slice a len cap) d ps) : len * B ≤ 140737488351232 := by
  obtain ⟨fuel, hf⟩ := h
  rcases open_ints hu he hc hf with ⟨hcs, _⟩ | ⟨x, l, c, zs, hcs, _, hl, _, hz, hx, _, _⟩
  · simp [Value.cells] at hcs
    obtain ⟨rfl, rfl, rfl⟩ := hcs
    simp
  · simp [Value.cells] at hcs
    obtain ⟨rfl, rfl, rfl⟩ := hcs
    obtain ⟨hx, _⟩ := Prod.mk.inj hx
    subst hx
    have z := sized_slice hsz ht hd hu
    rw [hB] at z
    have hl2 : len ≤ zs.length := by
      rw [hz]
      split
      · exact hl
      · exact Nat.le_refl _
    have h1 : (lits (H := H) k (zs.take len)).length + (lits (H := H) k (zs.drop len)).length = zs.length := by
      simp [lits]
      omega
    rw [h1] at z
    exact Nat.le_trans (Nat.mul_le_mul_right _ hl2) z
end Go.Proofs.YtmklpbmlgjkbiaaW.PrintWords
end
