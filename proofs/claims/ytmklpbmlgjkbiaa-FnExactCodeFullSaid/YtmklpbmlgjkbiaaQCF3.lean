/- What the row of CF rests on, part 4. -/
import Derived.Test.YtmklpbmlgjkbiaaProg
import Derived.Below
import Derived.Deep.Draws
import Derived.Deep.AppendLies
import Derived.Maps.AppendAt
import Derived.OwnWalk
import Derived.Laws.BytesArg
import Derived.Laws.MakeOwn
import Derived.Laws.OwnMore
import Derived.Deep.OwnRows
import Derived.Tactics
import Derived.Lib.ConvBytes
import Derived.Laws.Slices
import Derived.WalkKit
import Derived.KernelRfl
import Derived.RowKit3
import Derived.Deep.LoopGhost
import Derived.Deep.QuietTactic
import Derived.BigQuiet
import Derived.WideLaws
import Derived.Deep.DeepCutAuto
import Derived.Deep.CutBlock
import Derived.Deep.RegionHeld3
import Derived.Laws.Rows
import Derived.Lib.AppendStr
import Derived.ArgAppend
import Derived.Laws.IdiomCopy
import Derived.OrdersHeld
import Derived.Laws.BitsLemmas
import Derived.RowKit
import Derived.Laws.StructEq
import Derived.Deep.RegionWith
import Derived.Lib.Bytealg
import Derived.Shelf.Strings.Search3
import Derived.WalkSpells
import Derived.Lib.OthersKept
import Derived.Lib.Hide
import Derived.WalkSmall
import Derived.Laws.EntriesVeiled
import Derived.ProofKit
import Derived.Lib.SmallJoins
import Derived.Deep.Slices
import GoSem.ClaimJoined
import Derived.JoinedOf
import Derived.Test.YtmklpbmlgjkbiaaQCF2
section
namespace Go.Proofs.Ytmklpbmlgjkbiaa.PS
open Go.RowKit Go.Proofs.YtmklpbmlgjkbiaaW.PrintWords Go.Proofs.YtmklpbmlgjkbiaaW.PrintLast Go.Proofs.YtmklpbmlgjkbiaaW.PrintMore
attribute [local go_sem] max2_int min2_int max_two min_two max_three min_three max_four min_four   -- for this text's walks alone
set_option linter.unusedVariables false
set_option linter.unusedSimpArgs false
mutual
def spec_l3Full.l0 : Nat → List (S29) → List Int → Int → Option (List Int)
  | 0, _, _, _ => none
  | k + 1, x0, x3, x4 => if x4 < (x3.length : Int) then (if 0 ≤ x4 then (spec_l3Full.l0 k x0 (x3.set (x4 : Int).toNat (-1)) (wrap64 (x4 + 1))) else (none)) else (if 0 < (x3.length : Int) then (spec_l3Full.l1 k x0 (x3.set (0 : Int).toNat 1) true) else (none))
def spec_l3Full.l1 : Nat → List (S29) → List Int → Bool → Option (List Int)
  | 0, _, _, _ => none
  | k + 1, x0, x3, x5 => if x5 = true then (spec_l3Full.l2 k x0 x3 false 0) else (some x3)
def spec_l3Full.l2 : Nat → List (S29) → List Int → Bool → Int → Option (List Int)
  | 0, _, _, _, _ => none
  | k + 1, x0, x3, x5, x6 => if x6 < (x0.length : Int) then (if 0 ≤ x6 then (if x6 < (x3.length : Int) then (if (rd x3 x6) ≥ 0 then ((spec_l3From.f k x0 x3 x6).bind fun bt379 => (spec_l3Full.j3 k x0 bt379.2 x5 x6 bt379.1)) else (spec_l3Full.j3 k x0 x3 x5 x6 false)) else (none)) else (none)) else (spec_l3Full.l1 k x0 x3 x5)
def spec_l3Full.j3 : Nat → List (S29) → List Int → Bool → Int → Bool → Option (List Int)
  | 0, _, _, _, _, _ => none
  | k + 1, x0, x3, x5, x6, x38 => if x38 = true then (spec_l3Full.l2 k x0 x3 true (wrap64 (x6 + 1))) else (spec_l3Full.l2 k x0 x3 x5 (wrap64 (x6 + 1)))
end
def spec_l3Full.f (k : Nat) (l0 : List (S29)) : Option (List Int) := if 0 ≤ (l0.length : Int) then (if ((l0.length : Int) : Int).toNat ≤ 35184372088832 then (spec_l3Full.l0 k l0 (List.replicate ((l0.length : Int) : Int).toNat 0) 1) else (none)) else (none)
set_option maxHeartbeats 8000000 in
set_option maxRecDepth 100000 in
theorem spec_l3Full.calls (k : Nat) (A0 : Option Addr) (c0 : Nat) (l0 : List (S29)) (r : List Int) (w : World) (hr0 : Kd.C k29 w A0 l0.length l0) (hc0 : l0.length ≤ c0) (h : spec_l3Full.f k l0 = some r) :
    Calls Try.prog 81 #[.slice A0 l0.length c0] w fun e w' => ∃ v0_ : Value, e = .returned (v0_) ∧ Kd.R (Kd.int .i64) 3 w' w.heap.size (fun _ => True) v0_ r ∧ Below w.heap.size w w' := by
  have HR0 := Aside0.mk hr0
  have HC0 := Aside0.mk hc0
  clear hr0 hc0
  have HB := Aside0.mk (Below.refl w.heap.size w)
  have H : (if 0 ≤ (l0.length : Int) then (if ((l0.length : Int) : Int).toNat ≤ 35184372088832 then (spec_l3Full.l0 k l0 (List.replicate ((l0.length : Int) : Int).toNat 0) 1) else (none)) else (none)) = some r := h
  clear h
  by_cases c2 : 0 ≤ (l0.length : Int)
  · rw [if_pos c2] at H
    have c2b0 := eq_true c2
    have c2b1 : decide (0 ≤ (l0.length : Int)) = true := decide_eq_true c2
    clear c2
    by_cases c3 : ((l0.length : Int) : Int).toNat ≤ 35184372088832
    · rw [if_pos c3] at H
      have c3b0 := eq_true c3
      have c3b1 : decide (((l0.length : Int) : Int).toNat ≤ 35184372088832) = true := decide_eq_true c3
      clear c3
      obtain ⟨y373, hy373⟩ : ∃ y_ : List Int, y_ = (List.replicate ((l0.length : Int) : Int).toNat 0) := ⟨_, rfl⟩
      replace H : (spec_l3Full.l0 k l0 y373 1) = some r := by first | (rw [hy373]; with_reducible exact H) | (have H2_ := (Option.bind_some _ _).symm.trans H; rw [hy373]; with_reducible exact H2_) | (have H2_ := (Option.bind_some _ _).symm.trans H; with_reducible exact H2_) | with_reducible exact H | (rw [hy373]; exact H) | exact H
      have Ny373 := Aside0.mk hy373
      clear hy373
      have H' := Aside0.mk H
      clear H
      go_enter Try.func81, Try.ntmps81
      go_wp2_with (first | ((with_reducible refine gate_dst (N := 9) rfl ?_); refine Kd.R_make (Kd.int .i64) _ 3 rfl (N := 9) rfl 32 _ _ rfl (l0.length : Int) rfl rfl Try.underlying32 (.int .i64 0) 8 info3 rfl (by decide) (by omega) 0 (ok := fun _ => True) (okp := fun _ => True) rfl (fun _ hk => hk) trivial (of_decide_eq_true (by first | (with_reducible assumption) | assumption)) (Nat.le_trans (Nat.mul_le_mul_right _ (of_decide_eq_true (by first | (with_reducible assumption) | assumption) : (l0.length : Int).toNat ≤ 35184372088832)) (by omega)) (Below.refl _ _) (Nat.le_refl _) ?_; intro v374 w4 ho5 hb hg_ hnew_; clear hg_ hnew_; (first | rw [← Ny373.out] at ho5 | (simp only [Int.reduceToNat] at ho5; rw [← Ny373.out] at ho5)); have n0_ := Aside0.mk (Kd.R_lower ho5 (below_size (by repeat (first | (with_reducible first | exact HB.out | apply below_alloc | apply pw_below_drewN | apply below_drew1) | exact HB.out)))); have n1_ := Aside0.mk (below_step (by repeat (first | (with_reducible first | exact HB.out | apply below_alloc | apply pw_below_drewN | apply below_drew1) | exact HB.out)) hb); clear HB; have HO375 := n0_; have HB := n1_; clear n0_ n1_; clear hb ho5))
      go_loopg [4] k (fun kq v4 w' => ∃ (x3_1 : List Int) (x4_1 : Int), v4 = .int .i64 x4_1 ∧ Aside0 (spec_l3Full.l0 kq l0 x3_1 x4_1 = some r) ∧ Aside0 (kq ≤ k) ∧ Aside0 (Kd.R (Kd.int .i64) 3 w' w.heap.size (fun _ => True) v374 x3_1) ∧ Aside0 (Below w.heap.size w w'))
      case atStart => exact ⟨(y373), (1), (by first | rfl | (simp; done) | (simp [*]; done)), H', ⟨Nat.le_refl _⟩, ⟨by (with_reducible repeat (first | apply Kd.R_alloc | apply Kd.R_drewN | apply Kd.R_drew)); exact HO375.out⟩, ⟨by repeat (first | (with_reducible first | exact HB.out | apply below_alloc | apply pw_below_drewN | apply below_drew1) | exact HB.out)⟩⟩
      case round =>
        clear H'
        try clear c2
        try clear c2b0
        try clear c2b1
        try clear p2
        try clear c3
        try clear c3b0
        try clear c3b1
        obtain ⟨x3_1, x4_1, rfl, HA, HK1, HO_3, HB⟩ := hrel
        cases gk with
        | zero => exact absurd HA.out (by simp [spec_l3Full.l0])
        | succ k1 =>
          have H := HA.out
          clear HA
          simp only [spec_l3Full.l0] at H
          by_cases c6 : x4_1 < (x3_1.length : Int)
          · rw [if_pos c6] at H
            have c6b0 : decide (x4_1 < (x3_1.length : Int)) = true := decide_eq_true c6
            clear c6
            by_cases c7 : 0 ≤ x4_1
            · rw [if_pos c7] at H
              have c7b0 : decide (0 ≤ x4_1) = true := decide_eq_true c7
              clear c7
              obtain ⟨y376, hy376⟩ : ∃ y_ : List Int, y_ = (x3_1.set (x4_1 : Int).toNat (-1)) := ⟨_, rfl⟩
              replace H : (spec_l3Full.l0 k1 l0 y376 (wrap64 (x4_1 + 1))) = some r := by first | (rw [hy376]; with_reducible exact H) | (have H2_ := (Option.bind_some _ _).symm.trans H; rw [hy376]; with_reducible exact H2_) | (have H2_ := (Option.bind_some _ _).symm.trans H; with_reducible exact H2_) | with_reducible exact H | (rw [hy376]; exact H) | exact H
              have Ny376 := Aside0.mk hy376
              clear hy376
              have H' := Aside0.mk H
              clear H
              obtain ⟨Ao9, co9, eo9⟩ := Kd.R_slice HO_3.out
              subst eo9
              have p8 : 0 ≤ (x4_1 : Int) := of_decide_eq_true (by first | (with_reducible assumption) | assumption)
              have q8 : (x4_1 : Int) < ((x3_1.length : Int) : Int) := of_decide_eq_true (by first | (with_reducible assumption) | assumption)
              obtain ⟨go8, co8, eo8, gb8, gl8, cl8, HG8⟩ := Kd.R_form HO_3.out (by omega)
              (first | cases eo8 | (injection eo8 with ea_ en_ ec_; (first | subst ea_ | (injection ea_ with ea_; subst ea_)); subst ec_; clear en_))
              have GB8 := Aside0.mk gb8
              have GG8 := Aside0.mk HG8
              clear gb8 gl8 HG8
              obtain ⟨hx8_0, hf8_0⟩ := Kd.R_celln 0 HO_3.out (x4_1 : Int) p8 q8
              replace p8 := eq_true p8
              replace q8 := eq_true q8
              have HP10 := Kd.R_putg HO_3.out (x4_1 : Int) (-1)
              go_wp2_with (first | ((with_reducible refine gate_store (t := 3) (p := 18) rfl ?_); refine store_event (t := 3) (p := 18) (v := ?vo_w11) (w1 := (wr.setCell ⟨go8, (x4_1 : Int).toNat, none⟩ (.int .i64 (-1)))) ?hg ?ho ?hn ?hr ?_; (case ho => rfl); (case hg => rfl); (case hn => rfl); (case hr => first | (go_simp; done) | (go_simp; rfl)); intro w11 hw; have hg : wr.grownBy w11 (some go8) := (by rw [hw]; exact HP10.2); have hp_ : Kd.R (Kd.int .i64) 3 w11 w.heap.size (fun _ => True) (.slice (some ⟨go8, 0, none⟩) x3_1.length co9) y376 := (by rw [hw, Ny376.out]; exact HP10.1); clear HP10; have n0_ := Aside0.mk (hp_); have n1_ := Aside0.mk ((by rw [hw]; exact below_set (HB.out) GB8.out : Below w.heap.size w w11)); clear HO_3; clear HB; have HO_3 := n0_; have HB := n1_; clear n0_ n1_; clear hg hw hp_))
              go_roundg k1
              case measure => have := HK1.out; omega
              case rel => exact ⟨(y376), (wrap64 (x4_1 + 1)), (by first | rfl | (simp; done) | (simp [*]; done)), H', ⟨by have := HK1.out; omega⟩, ⟨by (with_reducible repeat (first | apply Kd.R_alloc | apply Kd.R_drewN | apply Kd.R_drew)); exact HO_3.out⟩, ⟨by repeat (first | (with_reducible first | exact HB.out | apply below_alloc | apply pw_below_drewN | apply below_drew1) | exact HB.out)⟩⟩
            · rw [if_neg c7] at H
              exact absurd H (by simp)
          · rw [if_neg c6] at H
            have c6b0 : decide (x4_1 < (x3_1.length : Int)) = false := decide_eq_false c6
            clear c6
            by_cases c12 : 0 < (x3_1.length : Int)
            · rw [if_pos c12] at H
              have c12b0 : decide (0 < (x3_1.length : Int)) = true := decide_eq_true c12
              have c12b1 : decide (0 < x3_1.length) = true := decide_eq_true (by omega)
              clear c12
              obtain ⟨y377, hy377⟩ : ∃ y_ : List Int, y_ = (x3_1.set (0 : Int).toNat 1) := ⟨_, rfl⟩
              replace H : (spec_l3Full.l1 k1 l0 y377 true) = some r := by first | (rw [hy377]; with_reducible exact H) | (have H2_ := (Option.bind_some _ _).symm.trans H; rw [hy377]; with_reducible exact H2_) | (have H2_ := (Option.bind_some _ _).symm.trans H; with_reducible exact H2_) | with_reducible exact H | (rw [hy377]; exact H) | exact H
              have Ny377 := Aside0.mk hy377
              clear hy377
              have H' := Aside0.mk H
              clear H
              obtain ⟨Ao14, co14, eo14⟩ := Kd.R_slice HO_3.out
              subst eo14
              have p13 : 0 ≤ (0 : Int) := (by omega)
              have q13 : (0 : Int) < ((x3_1.length : Int) : Int) := of_decide_eq_true (by first | (with_reducible assumption) | assumption)
              have qi13 : (0 < x3_1.length) = True := eq_true (by omega)
              obtain ⟨go13, co13, eo13, gb13, gl13, cl13, HG13⟩ := Kd.R_form HO_3.out (by omega)
              (first | cases eo13 | (injection eo13 with ea_ en_ ec_; (first | subst ea_ | (injection ea_ with ea_; subst ea_)); subst ec_; clear en_))
              have GB13 := Aside0.mk gb13
              have GG13 := Aside0.mk HG13
              clear gb13 gl13 HG13
              obtain ⟨hx13_0, hf13_0⟩ := Kd.R_celln 0 HO_3.out (0 : Int) p13 q13
              (try rw [show ((0 : Int)).toNat = 0 from rfl] at hx13_0)
              (try simp only [Nat.reduceMul, Nat.zero_mul, Nat.zero_add, Nat.reduceAdd] at hx13_0)
              (try rw [show ((0 : Int)).toNat = 0 from rfl] at hf13_0)
              (try simp only [Nat.reduceMul, Nat.zero_mul, Nat.zero_add, Nat.reduceAdd] at hf13_0)
              replace p13 := eq_true p13
              replace q13 := eq_true q13
              have HP15 := Kd.R_putg HO_3.out (0 : Int) 1
              go_wp2_with (first | ((with_reducible refine gate_store (t := 3) (p := 20) rfl ?_); refine store_event (t := 3) (p := 20) (v := ?vo_w16) (w1 := (wr.setCell ⟨go13, (0 : Int).toNat, none⟩ (.int .i64 1))) ?hg ?ho ?hn ?hr ?_; (case ho => rfl); (case hg => rfl); (case hn => rfl); (case hr => first | (go_simp; done) | (go_simp; rfl)); intro w16 hw; have hg : wr.grownBy w16 (some go13) := (by rw [hw]; exact HP15.2); have hp_ : Kd.R (Kd.int .i64) 3 w16 w.heap.size (fun _ => True) (.slice (some ⟨go13, 0, none⟩) x3_1.length co14) y377 := (by rw [hw, Ny377.out]; exact HP15.1); clear HP15; have n0_ := Aside0.mk (hp_); have n1_ := Aside0.mk ((by rw [hw]; exact below_set (HB.out) GB13.out : Below w.heap.size w w16)); clear HO_3; clear HB; have HO_3 := n0_; have HB := n1_; clear n0_ n1_; clear hg hw hp_))
              go_loopg [5] k1 (fun kq v5 w' => ∃ (x3_2 : List Int) (x5_2 : Bool), v5 = .bool x5_2 ∧ Aside0 (spec_l3Full.l1 kq l0 x3_2 x5_2 = some r) ∧ Aside0 (kq ≤ k1) ∧ Aside0 (Kd.R (Kd.int .i64) 3 w' w.heap.size (fun _ => True) (.slice (some ⟨go13, 0, none⟩) x3_1.length co14) x3_2) ∧ Aside0 (Below w.heap.size w w'))
              case atStart => exact ⟨(y377), (true), (by first | rfl | (simp; done) | (simp [*]; done)), H', ⟨Nat.le_refl _⟩, ⟨by (with_reducible repeat (first | apply Kd.R_alloc | apply Kd.R_drewN | apply Kd.R_drew)); exact HO_3.out⟩, ⟨by repeat (first | (with_reducible first | exact HB.out | apply below_alloc | apply pw_below_drewN | apply below_drew1) | exact HB.out)⟩⟩
              case round =>
                clear H'
                try clear c1
                try clear p1
                try clear q1
                try clear hx1
                try clear qi1
                try clear hf1
                try clear c2
                try clear c2b0
                try clear c2b1
                try clear p2
                try clear c3
                try clear c3b0
                try clear c3b1
                try clear c6
                try clear c6b0
                try clear p6
                try clear c7
                try clear c7b0
                try clear c8
                try clear p8
                try clear q8
                try clear hx8
                try clear hf8
                try clear c12
                try clear c12b0
                try clear c12b1
                try clear p13
                try clear q13
                try clear hx13
                try clear qi13
                try clear hf13
                try clear hx13_0
                try clear hx8_0
                try clear p13
                try clear p2
                try clear p8
                try clear q13
                try clear q8
                obtain ⟨x3_2, x5_2, rfl, HA, HK2, HO_3, HB⟩ := hrel
                have hl3_2 := (Kd.R_reads' HO_3.out).1
                rw [hl3_2] at HO_3
                (try simp only [hl3_2])
                cases gk with
                | zero => exact absurd HA.out (by simp [spec_l3Full.l1])
                | succ k2 =>
                  have H := HA.out
                  clear HA
                  simp only [spec_l3Full.l1] at H
                  by_cases c17 : x5_2 = true
                  · subst c17
                    have H1 : (spec_l3Full.l2 k2 l0 x3_2 false 0) = some r := by rw [if_pos rfl] at H; exact H
                    clear H
                    have H := H1
                    clear H1
                    have H' := Aside0.mk H
                    clear H
                    go_wp2
                    go_loopg [5, 6] k2 (fun kq v5 v6 w' => ∃ (x3_3 : List Int) (x5_3 : Bool) (x6_3 : Int), v5 = .bool x5_3 ∧ v6 = .int .i64 x6_3 ∧ Aside0 (spec_l3Full.l2 kq l0 x3_3 x5_3 x6_3 = some r) ∧ Aside0 (kq ≤ k2) ∧ Aside0 (Kd.R (Kd.int .i64) 3 w' w.heap.size (fun _ => True) (.slice (some ⟨go13, 0, none⟩) x3_2.length co14) x3_3) ∧ Aside0 (Below w.heap.size w w'))
                    case atStart => exact ⟨(x3_2), (false), (0), (by first | rfl | (simp; done) | (simp [*]; done)), (by first | rfl | (simp; done) | (simp [*]; done)), H', ⟨Nat.le_refl _⟩, ⟨by (try simp only [hl3_2]); (with_reducible repeat (first | apply Kd.R_alloc | apply Kd.R_drewN | apply Kd.R_drew)); exact HO_3.out⟩, ⟨by repeat (first | (with_reducible first | exact HB.out | apply below_alloc | apply pw_below_drewN | apply below_drew1) | exact HB.out)⟩⟩
                    case round =>
                      clear H'
                      try clear c1
                      try clear p1
                      try clear q1
                      try clear hx1
                      try clear qi1
                      try clear hf1
                      try clear c2
                      try clear c2b0
                      try clear c2b1
                      try clear p2
                      try clear c3
                      try clear c3b0
                      try clear c3b1
                      try clear c6
                      try clear c6b0
                      try clear p6
                      try clear c7
                      try clear c7b0
                      try clear c8
                      try clear p8
                      try clear q8
                      try clear hx8
                      try clear hf8
                      try clear c12
                      try clear c12b0
                      try clear c12b1
                      try clear p13
                      try clear q13
                      try clear hx13
                      try clear qi13
                      try clear hf13
                      try clear c17
                      try clear hx13_0
                      try clear hx8_0
                      try clear p1
                      try clear p13
                      try clear p2
                      try clear p6
                      try clear p8
                      try clear q1
                      try clear q13
                      try clear q8
                      obtain ⟨x3_3, x5_3, x6_3, rfl, rfl, HA, HK3, HO_3, HB⟩ := hrel
                      have hl3_3 := (Kd.R_reads' HO_3.out).1
                      rw [hl3_3] at HO_3
                      (try simp only [hl3_3])
                      cases gk with
                      | zero => exact absurd HA.out (by simp [spec_l3Full.l2])
                      | succ k3 =>
                        have H := HA.out
                        clear HA
                        simp only [spec_l3Full.l2] at H
                        by_cases c18 : x6_3 < (l0.length : Int)
                        · rw [if_pos c18] at H
                          have c18b0 : decide (x6_3 < (l0.length : Int)) = true := decide_eq_true c18
                          clear c18
                          have HC19 := Aside0.mk H
                          clear H
                          go_upto_region 13 with (fail)
                          go_cut [38] (fun v38 wc => ∃ (kq : Nat) (x3_18 : List Int) (x38_18 : Bool), v38 = .bool x38_18 ∧ Aside0 (spec_l3Full.j3 kq l0 x3_18 x5_3 x6_3 x38_18 = some r) ∧ Aside0 (kq ≤ k3) ∧ Aside0 (Kd.R (Kd.int .i64) 3 wc w.heap.size (fun _ => True) (.slice (some ⟨go13, 0, none⟩) x3_3.length co14) x3_18) ∧ Aside0 (Below w.heap.size w wc))
                          case first =>
                            have H := HC19.out
                            clear HC19
                            by_cases c20 : 0 ≤ x6_3
                            · rw [if_pos c20] at H
                              have c20b0 : decide (0 ≤ x6_3) = true := decide_eq_true c20
                              clear c20
                              (first | rw [c20b0] | (simp only [i64_w, i32_w]; rw [c20b0]) | skip)
                              by_cases c21 : x6_3 < (x3_3.length : Int)
                              · rw [if_pos c21] at H
                                have c21b0 : decide (x6_3 < (x3_3.length : Int)) = true := decide_eq_true c21
                                clear c21
                                by_cases c22 : (rd x3_3 x6_3) ≥ 0
                                · rw [if_pos c22] at H
                                  have c22b0 : decide (0 ≤ (rd x3_3 x6_3)) = true := decide_eq_true c22
                                  clear c22
                                  replace H := Option.bind_eq_some_iff.mp H
                                  obtain ⟨⟨t379, t380⟩, A230, H⟩ := H
                                  replace H : (spec_l3Full.j3 k3 l0 t380 x5_3 x6_3 t379) = some r := H
                                  have A23 := Aside0.mk A230
                                  clear A230
                                  have H' := Aside0.mk H
                                  clear H
                                  have p378 : 0 ≤ (x6_3 : Int) := of_decide_eq_true (by first | (with_reducible assumption) | assumption)
                                  have q378 : x6_3 < (x3_3.length : Int) := of_decide_eq_true (by first | (with_reducible assumption) | assumption)
                                  obtain ⟨ad378, e378, hx378_0⟩ := Kd.at_int (Kd.R_reads' HO_3.out).2.2 x6_3 p378 q378
                                  obtain rfl : (⟨go13, 0, none⟩ : Addr) = ad378 := (by injection e378)
                                  (first | simp only [add_plain] at hx378_0 | simp only [add_at] at hx378_0 | simp only [Addr.add, Nat.zero_add] at hx378_0 | skip)
                                  replace p378 := eq_true p378
                                  replace q378 := eq_true q378
                                  go_wp2_with (first | (go_at_call 98; (with_reducible refine (spec_l3From.calls k3 _ _ l0 (fun k_ => some k_ = (.slice (some ⟨go13, 0, none⟩) x3_3.length co14 : Value).ownBlock) (.slice (some ⟨go13, 0, none⟩) x3_3.length co14) x3_3 x6_3 t379 t380 w _ ?side1 ?side2 ?side3 ?side4 A23.out).mono ?_); (case side1 => repeat (first | (with_reducible first | exact HB.out | apply below_alloc | apply pw_below_drewN | apply below_drew1) | exact HB.out)); (case side2 => exact Kd.C_kept_came k29_heap HR0.out (by repeat (first | (with_reducible first | exact HB.out | apply below_alloc | apply pw_below_drewN | apply below_drew1) | exact HB.out)) (fun k_ hs_ => (fun e_ => Kd.R_base HO_3.out k_ e_.symm) hs_)); (case side3 => exact HC0.out); (case side4 => exact Kd.R_tight rfl HO_3.out); rintro e w24 ⟨rfl, hy0, hb, hkp⟩; have n0_ := Aside0.mk (Kd.R_reok rfl hy0 (fun k_ e_ => HO_3.out.1 k_ e_)); have n1_ := Aside0.mk (hb); clear HO_3; clear HB; have HO_3 := n0_; have HB := n1_; clear n0_ n1_; (try clear hb); (try clear hkp); (try clear hy0)))
                                  go_meet
                                  case rel => exact ⟨_, (t380), (t379), (by first | rfl | (simp; done) | (simp [*]; done)), H', ⟨by have := HK1.out; have := HK2.out; have := HK3.out; first | omega | exact Nat.le_refl _⟩, ⟨by (try simp only [hl3_2]); (try simp only [hl3_3]); (with_reducible repeat (first | apply Kd.R_alloc | apply Kd.R_drewN | apply Kd.R_drew)); exact HO_3.out⟩, ⟨by repeat (first | (with_reducible first | exact HB.out | apply below_alloc | apply pw_below_drewN | apply below_drew1) | exact HB.out)⟩⟩
                                · rw [if_neg c22] at H
                                  have c22b0 : decide (0 ≤ (rd x3_3 x6_3)) = false := decide_eq_false c22
                                  clear c22
                                  have H' := Aside0.mk H
                                  clear H
                                  have p378 : 0 ≤ (x6_3 : Int) := of_decide_eq_true (by first | (with_reducible assumption) | assumption)
                                  have q378 : x6_3 < (x3_3.length : Int) := of_decide_eq_true (by first | (with_reducible assumption) | assumption)
                                  obtain ⟨ad378, e378, hx378_0⟩ := Kd.at_int (Kd.R_reads' HO_3.out).2.2 x6_3 p378 q378
                                  obtain rfl : (⟨go13, 0, none⟩ : Addr) = ad378 := (by injection e378)
                                  (first | simp only [add_plain] at hx378_0 | simp only [add_at] at hx378_0 | simp only [Addr.add, Nat.zero_add] at hx378_0 | skip)
                                  replace p378 := eq_true p378
                                  replace q378 := eq_true q378
                                  go_wp2
                                  go_meet
                                  case rel => exact ⟨_, (x3_3), (false), (by first | rfl | (simp; done) | (simp [*]; done)), H', ⟨by have := HK1.out; have := HK2.out; have := HK3.out; first | omega | exact Nat.le_refl _⟩, ⟨by (try simp only [hl3_2]); (try simp only [hl3_3]); (with_reducible repeat (first | apply Kd.R_alloc | apply Kd.R_drewN | apply Kd.R_drew)); exact HO_3.out⟩, ⟨by repeat (first | (with_reducible first | exact HB.out | apply below_alloc | apply pw_below_drewN | apply below_drew1) | exact HB.out)⟩⟩
                              · rw [if_neg c21] at H
                                exact absurd H (by simp)
                            · rw [if_neg c20] at H
                              exact absurd H (by simp)
                          case rest =>
                            clear HC19
                            try clear c1
                            try clear p1
                            try clear q1
                            try clear hx1
                            try clear qi1
                            try clear hf1
                            try clear c2
                            try clear c2b0
                            try clear c2b1
                            try clear p2
                            try clear c3
                            try clear c3b0
                            try clear c3b1
                            try clear p3
                            try clear q3
                            try clear hx3
                            try clear c6
                            try clear c6b0
                            try clear p6
                            try clear c7
                            try clear c7b0
                            try clear c8
                            try clear p8
                            try clear q8
                            try clear hx8
                            try clear hf8
                            try clear c12
                            try clear c12b0
                            try clear c12b1
                            try clear p13
                            try clear q13
                            try clear hx13
                            try clear qi13
                            try clear hf13
                            try clear c17
                            try clear c18
                            try clear c18b0
                            try clear c20
                            try clear c20b0
                            try clear c21
                            try clear c21b0
                            try clear c22
                            try clear c22b0
                            try clear hx13_0
                            try clear hx378_0
                            try clear hx8_0
                            try clear p1
                            try clear p13
                            try clear p2
                            try clear p378
                            try clear p6
                            try clear p8
                            try clear q1
                            try clear q13
                            try clear q378
                            try clear q8
                            obtain ⟨kq, x3_18, x38_18, rfl, HA, HJ18, HO_3, HB⟩ := hcut
                            have hl3_18 := (Kd.R_reads' HO_3.out).1
                            rw [hl3_18] at HO_3
                            (try simp only [hl3_18])
                            cases kq with
                            | zero => exact absurd HA.out (by simp [spec_l3Full.j3])
                            | succ kj18 =>
                              have H := HA.out
                              clear HA
                              simp only [spec_l3Full.j3] at H
                              by_cases c25 : x38_18 = true
                              · subst c25
                                have H1 : (spec_l3Full.l2 kj18 l0 x3_18 true (wrap64 (x6_3 + 1))) = some r := by rw [if_pos rfl] at H; exact H
                                clear H
                                have H := H1
                                clear H1
                                have H' := Aside0.mk H
                                clear H
                                go_wp2
                                (try simp only [← hl3_3, ← hl3_18])
                                go_roundg kj18
                                case measure => have := HK1.out; have := HK2.out; have := HK3.out; have := HJ18.out; omega
                                case rel => exact ⟨(x3_18), (true), (wrap64 (x6_3 + 1)), (by first | rfl | (simp; done) | (simp [*]; done)), (by first | rfl | (simp; done) | (simp [*]; done)), H', ⟨by have := HK1.out; have := HK2.out; have := HK3.out; have := HJ18.out; omega⟩, ⟨by (try simp only [hl3_2]); (try simp only [hl3_3]); (try simp only [hl3_18]); (with_reducible repeat (first | apply Kd.R_alloc | apply Kd.R_drewN | apply Kd.R_drew)); exact HO_3.out⟩, ⟨by repeat (first | (with_reducible first | exact HB.out | apply below_alloc | apply pw_below_drewN | apply below_drew1) | exact HB.out)⟩⟩
                              · replace c25 := Bool.eq_false_iff.mpr c25
                                subst c25
                                have H1 : (spec_l3Full.l2 kj18 l0 x3_18 x5_3 (wrap64 (x6_3 + 1))) = some r := by rw [if_neg (show ¬ (false = true) by decide)] at H; exact H
                                clear H
                                have H := H1
                                clear H1
                                have H' := Aside0.mk H
                                clear H
                                go_wp2
                                (try simp only [← hl3_3, ← hl3_18])
                                go_roundg kj18
                                case measure => have := HK1.out; have := HK2.out; have := HK3.out; have := HJ18.out; omega
                                case rel => exact ⟨(x3_18), (x5_3), (wrap64 (x6_3 + 1)), (by first | rfl | (simp; done) | (simp [*]; done)), (by first | rfl | (simp; done) | (simp [*]; done)), H', ⟨by have := HK1.out; have := HK2.out; have := HK3.out; have := HJ18.out; omega⟩, ⟨by (try simp only [hl3_2]); (try simp only [hl3_3]); (try simp only [hl3_18]); (with_reducible repeat (first | apply Kd.R_alloc | apply Kd.R_drewN | apply Kd.R_drew)); exact HO_3.out⟩, ⟨by repeat (first | (with_reducible first | exact HB.out | apply below_alloc | apply pw_below_drewN | apply below_drew1) | exact HB.out)⟩⟩
                        · rw [if_neg c18] at H
                          have c18b0 : decide (x6_3 < (l0.length : Int)) = false := decide_eq_false c18
                          clear c18
                          have H' := Aside0.mk H
                          clear H
                          go_wp2
                          (try simp only [← hl3_2, ← hl3_3])
                          go_roundg k3
                          case measure => have := HK1.out; have := HK2.out; have := HK3.out; omega
                          case rel => exact ⟨(x3_3), (x5_3), (by first | rfl | (simp; done) | (simp [*]; done)), H', ⟨by have := HK1.out; have := HK2.out; have := HK3.out; omega⟩, ⟨by (try simp only [hl3_2]); (try simp only [hl3_3]); (with_reducible repeat (first | apply Kd.R_alloc | apply Kd.R_drewN | apply Kd.R_drew)); exact HO_3.out⟩, ⟨by repeat (first | (with_reducible first | exact HB.out | apply below_alloc | apply pw_below_drewN | apply below_drew1) | exact HB.out)⟩⟩
                  · replace c17 := Bool.eq_false_iff.mpr c17
                    subst c17
                    have H1 : (some x3_2) = some r := by rw [if_neg (show ¬ (false = true) by decide)] at H; exact H
                    clear H
                    have H := H1
                    clear H1
                    obtain rfl := Option.some.inj H
                    go_wp2
                    go_ret
                    exact ⟨_, by first | rfl | (simp [errW_none, errW_some] <;> rfl) | (simp [*, errW_none, errW_some] <;> rfl), by (with_reducible repeat (first | apply Kd.R_alloc | apply Kd.R_drewN | apply Kd.R_drew)); exact HO_3.out, by repeat (first | (with_reducible first | exact HB.out | apply below_alloc | apply pw_below_drewN | apply below_drew1) | exact HB.out)⟩
            · rw [if_neg c12] at H
              exact absurd H (by simp)
    · rw [if_neg c3] at H
      exact absurd H (by simp)
  · rw [if_neg c2] at H
    exact absurd H (by simp)
def spec_CodeFull.f (k : Nat) (l0 : List (S29)) : Option (List Int) := (spec_CodeOk.f k l0).bind fun t381 => (if t381 = true then ((spec_l3Full.f k l0).bind fun t385 => (some t385)) else (some (([] : List Int))))
set_option maxHeartbeats 8000000 in
set_option maxRecDepth 100000 in
theorem spec_CodeFull.calls (k : Nat) (A0 : Option Addr) (c0 : Nat) (l0 : List (S29)) (r : List Int) (w : World) (hr0 : Kd.C k29 w A0 l0.length l0) (hc0 : l0.length ≤ c0) (h : spec_CodeFull.f k l0 = some r) :
    Calls Try.prog 43 #[.slice A0 l0.length c0] w fun e w' => ∃ v0_ : Value, e = .returned (v0_) ∧ Kd.R (Kd.int .i64) 3 w' w.heap.size (fun _ => True) v0_ r ∧ Below w.heap.size w w' := by
  have HR0 := Aside0.mk hr0
  have HC0 := Aside0.mk hc0
  clear hr0 hc0
  have HB := Aside0.mk (Below.refl w.heap.size w)
  have H : ((spec_CodeOk.f k l0).bind fun t381 => (if t381 = true then ((spec_l3Full.f k l0).bind fun t385 => (some t385)) else (some (([] : List Int))))) = some r := h
  clear h
  replace H := Option.bind_eq_some_iff.mp H
  obtain ⟨t381, A20, H⟩ := H
  replace H : (if t381 = true then ((spec_l3Full.f k l0).bind fun t385 => (some t385)) else (some (([] : List Int)))) = some r := H
  have A2 := Aside0.mk A20
  clear A20
  by_cases c3 : t381 = true
  · subst c3
    have H1 : ((spec_l3Full.f k l0).bind fun t385 => (some t385)) = some r := by rw [if_pos rfl] at H; exact H
    clear H
    have H := H1
    clear H1
    replace H := Option.bind_eq_some_iff.mp H
    obtain ⟨t385, A40, H⟩ := H
    replace H : (some t385) = some r := H
    have A4 := Aside0.mk A40
    clear A40
    obtain rfl := Option.some.inj H
    go_enter Try.func43, Try.ntmps43
    go_wp2_with (first | ((with_reducible refine gate_callee (f := 33) rfl ?_); refine goesL_ (some 4) rfl rfl Try.func33 (by kernel_rfl) rfl #[.slice A0 l0.length c0] rfl (by (try simp only [List.map_toArray, List.map_cons, List.map_nil]); first | done | rfl | (simp only [List.length_drop, List.length_take]; rfl)) ?_; (with_reducible refine (spec_CodeOk.calls k _ _ l0 true _ ?side1 ?side2 A2.out).mono ?_); (case side1 => repeat (first | exact HR0.out | (with_reducible refine Kd.C_alloc ?_ _) | (with_reducible refine Kd.C_drewN ?_ _) | (with_reducible refine Kd.C_drew ?_))); (case side2 => exact HC0.out); rintro e w5 ⟨rfl, hb⟩; refine ⟨_, rfl, ?_⟩; have n0_ := Aside0.mk (below_step (by repeat (first | (with_reducible first | exact HB.out | apply below_alloc | apply pw_below_drewN | apply below_drew1) | exact HB.out)) hb); clear HB; have HB := n0_; clear n0_; (try clear hb); (try clear hb2); (try clear hk); (try clear hi)) | ((with_reducible refine gate_callee (f := 81) rfl ?_); refine goesL_ (some 8) rfl rfl Try.func81 (by kernel_rfl) rfl #[.slice A0 l0.length c0] rfl (by (try simp only [List.map_toArray, List.map_cons, List.map_nil]); first | done | rfl | (simp only [List.length_drop, List.length_take]; rfl)) ?_; (with_reducible refine (spec_l3Full.calls k _ _ l0 t385 _ ?side1 ?side2 A4.out).mono ?_); (case side1 => repeat (first | exact (Kd.C_below HR0.out HB.out) | (with_reducible refine Kd.C_alloc ?_ _) | (with_reducible refine Kd.C_drewN ?_ _) | (with_reducible refine Kd.C_drew ?_))); (case side2 => exact HC0.out); rintro e w6 ⟨v386, rfl, ho0, hb⟩; refine ⟨_, rfl, ?_⟩; have n0_ := Aside0.mk (Kd.R_lower ho0 (below_size (by repeat (first | (with_reducible first | exact HB.out | apply below_alloc | apply pw_below_drewN | apply below_drew1) | exact HB.out)))); have n1_ := Aside0.mk (below_step (by repeat (first | (with_reducible first | exact HB.out | apply below_alloc | apply pw_below_drewN | apply below_drew1) | exact HB.out)) hb); clear HB; have HO387 := n0_; have HB := n1_; clear n0_ n1_; (try clear hb); (try clear hb2); (try clear hk); (try clear hi); (try clear ho0)))
    go_ret
    exact ⟨_, by first | rfl | (simp [errW_none, errW_some] <;> rfl) | (simp [*, errW_none, errW_some] <;> rfl), by (with_reducible repeat (first | apply Kd.R_alloc | apply Kd.R_drewN | apply Kd.R_drew)); exact HO387.out, by repeat (first | (with_reducible first | exact HB.out | apply below_alloc | apply pw_below_drewN | apply below_drew1) | exact HB.out)⟩
  · replace c3 := Bool.eq_false_iff.mpr c3
    subst c3
    have H1 : (some (([] : List Int))) = some r := by rw [if_neg (show ¬ (false = true) by decide)] at H; exact H
    clear H
    have H := H1
    clear H1
    obtain ⟨y382, hy382⟩ : ∃ y_ : List Int, y_ = (([] : List Int)) := ⟨_, rfl⟩
    replace H : (some y382) = some r := by first | (rw [hy382]; with_reducible exact H) | (have H2_ := (Option.bind_some _ _).symm.trans H; rw [hy382]; with_reducible exact H2_) | (have H2_ := (Option.bind_some _ _).symm.trans H; with_reducible exact H2_) | with_reducible exact H | (rw [hy382]; exact H) | exact H
    have Ny382 := Aside0.mk hy382
    clear hy382
    obtain rfl := Option.some.inj H
    go_enter Try.func43, Try.ntmps43
    go_wp2_with (first | ((with_reducible refine gate_callee (f := 33) rfl ?_); refine goesL_ (some 4) rfl rfl Try.func33 (by kernel_rfl) rfl #[.slice A0 l0.length c0] rfl (by (try simp only [List.map_toArray, List.map_cons, List.map_nil]); first | done | rfl | (simp only [List.length_drop, List.length_take]; rfl)) ?_; (with_reducible refine (spec_CodeOk.calls k _ _ l0 false _ ?side1 ?side2 A2.out).mono ?_); (case side1 => repeat (first | exact HR0.out | (with_reducible refine Kd.C_alloc ?_ _) | (with_reducible refine Kd.C_drewN ?_ _) | (with_reducible refine Kd.C_drew ?_))); (case side2 => exact HC0.out); rintro e w7 ⟨rfl, hb⟩; refine ⟨_, rfl, ?_⟩; have n0_ := Aside0.mk (below_step (by repeat (first | (with_reducible first | exact HB.out | apply below_alloc | apply pw_below_drewN | apply below_drew1) | exact HB.out)) hb); clear HB; have HB := n0_; clear n0_; (try clear hb); (try clear hb2); (try clear hk); (try clear hi)) | ((with_reducible refine gate_dst (N := 6) rfl ?_); refine Kd.R_lit (Kd.int .i64) _ 3 ?hg (N := 6) ?hd (xs := ([] : List Int)) (inner := []) (ok := fun _ => True) (okp := fun _ => True) ?hr ?hp (fun _ hk => hk) trivial (Below.refl _ _) (Nat.le_refl _) (by simp) ?_; (case hd => rfl); (case hg => rfl); (case hr => first | (go_simp; done) | (go_simp; rfl)); (case hp => exact (Reps.none _ _)); intro v383 w8 ho9 hb hg_ hnew_; clear hg_ hnew_; (first | rw [← Ny382.out] at ho9 | (simp only [Int.reduceToNat] at ho9; rw [← Ny382.out] at ho9)); have n0_ := Aside0.mk (Kd.R_lower ho9 (below_size (by repeat (first | (with_reducible first | exact HB.out | apply below_alloc | apply pw_below_drewN | apply below_drew1) | exact HB.out)))); have n1_ := Aside0.mk (below_step (by repeat (first | (with_reducible first | exact HB.out | apply below_alloc | apply pw_below_drewN | apply below_drew1) | exact HB.out)) hb); clear HB; have HO384 := n0_; have HB := n1_; clear n0_ n1_; clear hb ho9))
    go_ret
    exact ⟨_, by first | rfl | (simp [errW_none, errW_some] <;> rfl) | (simp [*, errW_none, errW_some] <;> rfl), by (with_reducible repeat (first | apply Kd.R_alloc | apply Kd.R_drewN | apply Kd.R_drew)); exact HO384.out, by repeat (first | (with_reducible first | exact HB.out | apply below_alloc | apply pw_below_drewN | apply below_drew1) | exact HB.out)⟩
def impl_CodeFull.f (l0 : List (S29)) : Option (List Int) := (codeV.f l0).bind fun t388 => (if t388 = true then ((fullV.f l0).bind fun t389 => (some t389)) else (some ([] : List Int)))
set_option maxHeartbeats 8000000 in
set_option maxRecDepth 100000 in
theorem impl_CodeFull.calls (A0 : Option Addr) (c0 : Nat) (l0 : List (S29)) (r : List Int) (w : World) (hr0 : Kd.C k29 w A0 l0.length l0) (hc0 : l0.length ≤ c0) (h : impl_CodeFull.f l0 = some r) :
    Calls Try.prog 44 #[.slice A0 l0.length c0] w fun e w' => ∃ v0_ : Value, e = .returned (v0_) ∧ Kd.R (Kd.int .i64) 3 w' w.heap.size (fun _ => True) v0_ r ∧ Below w.heap.size w w' := by
  have HR0 := Aside0.mk hr0
  have HC0 := Aside0.mk hc0
  clear hr0 hc0
  have HB := Aside0.mk (Below.refl w.heap.size w)
  have H : ((codeV.f l0).bind fun t388 => (if t388 = true then ((fullV.f l0).bind fun t389 => (some t389)) else (some ([] : List Int)))) = some r := h
  clear h
  replace H := Option.bind_eq_some_iff.mp H
  obtain ⟨t388, A20, H⟩ := H
  replace H : (if t388 = true then ((fullV.f l0).bind fun t389 => (some t389)) else (some ([] : List Int))) = some r := H
  have A2 := Aside0.mk A20
  clear A20
  by_cases c3 : t388 = true
  · subst c3
    have H1 : ((fullV.f l0).bind fun t389 => (some t389)) = some r := by rw [if_pos rfl] at H; exact H
    clear H
    have H := H1
    clear H1
    replace H := Option.bind_eq_some_iff.mp H
    obtain ⟨t389, A40, H⟩ := H
    replace H : (some t389) = some r := H
    have A4 := Aside0.mk A40
    clear A40
    obtain rfl := Option.some.inj H
    go_enter Try.func44, Try.ntmps44
    go_wp2_with (first | ((with_reducible refine gate_callee (f := 35) rfl ?_); refine goesL_ (some 4) rfl rfl Try.func35 (by kernel_rfl) rfl #[.slice A0 l0.length c0] rfl (by (try simp only [List.map_toArray, List.map_cons, List.map_nil]); first | done | rfl | (simp only [List.length_drop, List.length_take]; rfl)) ?_; (with_reducible refine (impl_CodeOk.calls _ _ l0 true _ ?side1 ?side2 A2.out).mono ?_); (case side1 => repeat (first | exact HR0.out | (with_reducible refine Kd.C_alloc ?_ _) | (with_reducible refine Kd.C_drewN ?_ _) | (with_reducible refine Kd.C_drew ?_))); (case side2 => exact HC0.out); rintro e w5 ⟨rfl, hb⟩; refine ⟨_, rfl, ?_⟩; have n0_ := Aside0.mk (below_step (by repeat (first | (with_reducible first | exact HB.out | apply below_alloc | apply pw_below_drewN | apply below_drew1) | exact HB.out)) hb); clear HB; have HB := n0_; clear n0_; (try clear hb); (try clear hb2); (try clear hk); (try clear hi)) | ((with_reducible refine gate_callee (f := 80) rfl ?_); refine goesL_ (some 7) rfl rfl Try.func80 (by kernel_rfl) rfl #[.slice A0 l0.length c0] rfl (by (try simp only [List.map_toArray, List.map_cons, List.map_nil]); first | done | rfl | (simp only [List.length_drop, List.length_take]; rfl)) ?_; (with_reducible refine (impl_full.calls _ _ l0 t389 _ ?side1 ?side2 A4.out).mono ?_); (case side1 => repeat (first | exact (Kd.C_below HR0.out HB.out) | (with_reducible refine Kd.C_alloc ?_ _) | (with_reducible refine Kd.C_drewN ?_ _) | (with_reducible refine Kd.C_drew ?_))); (case side2 => exact HC0.out); rintro e w6 ⟨v390, rfl, ho0, hb⟩; refine ⟨_, rfl, ?_⟩; have n0_ := Aside0.mk (Kd.R_lower ho0 (below_size (by repeat (first | (with_reducible first | exact HB.out | apply below_alloc | apply pw_below_drewN | apply below_drew1) | exact HB.out)))); have n1_ := Aside0.mk (below_step (by repeat (first | (with_reducible first | exact HB.out | apply below_alloc | apply pw_below_drewN | apply below_drew1) | exact HB.out)) hb); clear HB; have HO391 := n0_; have HB := n1_; clear n0_ n1_; (try clear hb); (try clear hb2); (try clear hk); (try clear hi); (try clear ho0)))
    go_ret
    exact ⟨_, by first | rfl | (simp [errW_none, errW_some] <;> rfl) | (simp [*, errW_none, errW_some] <;> rfl), by (with_reducible repeat (first | apply Kd.R_alloc | apply Kd.R_drewN | apply Kd.R_drew)); exact HO391.out, by repeat (first | (with_reducible first | exact HB.out | apply below_alloc | apply pw_below_drewN | apply below_drew1) | exact HB.out)⟩
  · replace c3 := Bool.eq_false_iff.mpr c3
    subst c3
    have H1 : (some ([] : List Int)) = some r := by rw [if_neg (show ¬ (false = true) by decide)] at H; exact H
    clear H
    have H := H1
    clear H1
    obtain rfl := Option.some.inj H
    go_enter Try.func44, Try.ntmps44
    go_wp2_with (first | ((with_reducible refine gate_callee (f := 35) rfl ?_); refine goesL_ (some 4) rfl rfl Try.func35 (by kernel_rfl) rfl #[.slice A0 l0.length c0] rfl (by (try simp only [List.map_toArray, List.map_cons, List.map_nil]); first | done | rfl | (simp only [List.length_drop, List.length_take]; rfl)) ?_; (with_reducible refine (impl_CodeOk.calls _ _ l0 false _ ?side1 ?side2 A2.out).mono ?_); (case side1 => repeat (first | exact HR0.out | (with_reducible refine Kd.C_alloc ?_ _) | (with_reducible refine Kd.C_drewN ?_ _) | (with_reducible refine Kd.C_drew ?_))); (case side2 => exact HC0.out); rintro e w7 ⟨rfl, hb⟩; refine ⟨_, rfl, ?_⟩; have n0_ := Aside0.mk (below_step (by repeat (first | (with_reducible first | exact HB.out | apply below_alloc | apply pw_below_drewN | apply below_drew1) | exact HB.out)) hb); clear HB; have HB := n0_; clear n0_; (try clear hb); (try clear hb2); (try clear hk); (try clear hi)))
    go_ret
    exact ⟨_, by first | rfl | (simp [errW_none, errW_some] <;> rfl) | (simp [*, errW_none, errW_some] <;> rfl), by first | exact Kd.R_nil _ _ _ _ _ | exact Kd.N_nil _ _ _ _ _ | exact Kd.V_nil _ _ _ _ _ | exact Kd.Q_nil _ _ _ _ _ | exact Kd.S_nil _ _ _ _ _, by repeat (first | (with_reducible first | exact HB.out | apply below_alloc | apply pw_below_drewN | apply below_drew1) | exact HB.out)⟩
end Go.Proofs.Ytmklpbmlgjkbiaa.PS
end
section
namespace Go.Proofs.Ytmklpbmlgjkbiaa.PS
open Go.RowKit Go.Proofs.YtmklpbmlgjkbiaaW.PrintWords Go.Proofs.YtmklpbmlgjkbiaaW.PrintLast
set_option linter.unusedVariables false
theorem both_eq {a x : Int} (ha : -1 ≤ a) (ha' : a ≤ 15) (h0 : 0 ≤ x) (h1 : x ≤ 15) : spec_l3Both.f 12 a x = some (both a x) := by
  by_cases h : a = -1
  · subst h; unfold spec_l3Both.f; rfl
  · have : fours (fun a => fours fun x => decide (spec_l3Both.f 12 a x = some (both a x))) = true := by decide +kernel
    exact of_decide_eq_true (fours_all (fours_all this (by omega) ha') h0 h1)
theorem both_ev {a x : Int} (ha : -1 ≤ a) (ha' : a ≤ 15) (h0 : 0 ≤ x) (h1 : x ≤ 15) : Ev (fun k => spec_l3Both.f k a x) (both a x) :=
  Ev.of (fun k => spec_l3Both.mono a x k) (both_eq ha ha' h0 h1)
theorem with_eq {x r : Int} (hx : 0 ≤ x) (hx2 : x ≤ 15) (hr : 0 ≤ r) (hr2 : r ≤ 3) : spec_l3With.f x r = some (orBit x r) := by
  have : fours (fun x => fours fun r => decide (r ≤ 3 → spec_l3With.f x r = some (orBit x r))) = true := by decide +kernel
  exact of_decide_eq_true (fours_all (fours_all this hx hx2) hr (by omega)) hr2
theorem fills_eq {k : Int} (h : 1 ≤ k ∧ k ≤ 14) : spec_l3Fills.f k = some (howR k).f3 := by
  have : k = 1 ∨ k = 2 ∨ k = 3 ∨ k = 4 ∨ k = 5 ∨ k = 6 ∨ k = 7 ∨ k = 8 ∨ k = 9 ∨ k = 10 ∨ k = 11 ∨ k = 12 ∨ k = 13 ∨ k = 14 := by omega
  rcases this with rfl | rfl | rfl | rfl | rfl | rfl | rfl | rfl | rfl | rfl | rfl | rfl | rfl | rfl <;> rfl
def msetL (o : List Int) (t : Int) (v : Int) : List Int := o.set t.toNat (both (at_ o t) v)
theorem merge_ev {n : Nat} {o : List Int} (ho : GoodO n o) {t v : Int} (h0 : 0 ≤ t) (ht : t < n) (hv : 0 ≤ v) (hv2 : v ≤ 15) : Ev (fun k => spec_l3Merge.f k o t v) (decide (mu (msetL o t v) < mu o), msetL o t v) := by
  have hb := both_ev (at_good ho t).1 (at_good ho t).2 hv hv2
  obtain ⟨K, hK⟩ := hb
  refine ⟨K, fun k hk => ?_⟩
  have hK : spec_l3Both.f k (at_ o t) v = some (both (at_ o t) v) := hK k hk
  show spec_l3Merge.f k o t v = _
  unfold spec_l3Merge.f
  rw [if_neg (by rw [ho.1]; omega), if_pos h0, if_pos (by rw [ho.1]; omega)]
  have e : rd o t = at_ o t := rfl
  rw [e, hK]
  simp only [Option.bind_some]
  have hm := mu_set (o := o) (i := t.toNat) (x := both (at_ o t) v) (by rw [ho.1]; omega)
  rw [Int.toNat_of_nonneg h0] at hm
  by_cases he : both (at_ o t) v = at_ o t
  · rw [if_pos he]
    have e2 : msetL o t v = o := by
      unfold msetL; rw [he]
      have := set_at (o := o) (i := t.toNat)
      rwa [Int.toNat_of_nonneg h0] at this
    rw [e2]; simp
  · rw [if_neg he]
    have := both_mu (at_good ho t).1 (at_good ho t).2 hv hv2
    have h2 : mu1 (both (at_ o t) v) < mu1 (at_ o t) := by
      rcases this with h | h
      · exact absurd h he
      · exact h
    have h3 : mu (msetL o t v) < mu o := by unfold msetL; omega
    rw [decide_eq_true h3]; rfl
theorem merge_out (k : Nat) {o : List Int} {t v : Int} (ht : (o.length : Int) ≤ t) : spec_l3Merge.f k o t v = some (false, o) := by
  unfold spec_l3Merge.f; rw [if_pos (by omega)]
theorem mset_good {n : Nat} {o : List Int} (ho : GoodO n o) {t v : Int} (h0 : 0 ≤ t) (ht : t < n) (hv : 0 ≤ v) (hv2 : v ≤ 15) : GoodO n (msetL o t v) ∧ Down o (msetL o t v) ∧ ∀ i, 0 ≤ i → 0 ≤ at_ o i → 0 ≤ at_ (msetL o t v) i := by
  have hb := both_range (a := at_ o t) hv hv2
  refine ⟨⟨by simp [msetL, ho.1], fun x hx => ?_⟩, ?_, fun i hi h => ?_⟩
  · rcases List.mem_or_eq_of_mem_set hx with h | h
    · exact ho.2 x h
    · omega
  · have hm := mu_set (o := o) (i := t.toNat) (x := both (at_ o t) v) (by rw [ho.1]; omega)
    rw [Int.toNat_of_nonneg h0] at hm
    rcases both_mu (at_good ho t).1 (at_good ho t).2 hv hv2 with he | he
    · left; unfold msetL; rw [he]
      have := set_at (o := o) (i := t.toNat)
      rwa [Int.toNat_of_nonneg h0] at this
    · right; unfold msetL; omega
  · by_cases e : t = i
    · subst e; unfold msetL; rw [at_set_self (by rw [ho.1]; omega)]; exact hb.1
    · have := at_set_ne (o := o) (i := t.toNat) (j := i.toNat) (x := both (at_ o t) v) (by omega)
      rw [Int.toNat_of_nonneg hi] at this
      unfold msetL; rw [this]; exact h
theorem both_comm {z a b : Int} (ha : 0 ≤ a) (hb : 0 ≤ b) : both (both z a) b = both (both z b) a := by
  unfold both
  by_cases hz : z < 0
  · rw [if_pos hz, if_pos hz, if_neg (by omega), if_neg (by omega), Nat.and_comm]
  · rw [if_neg hz, if_neg hz, if_neg (by omega), if_neg (by omega)]
    simp only [Int.toNat_natCast]
    rw [Nat.and_assoc, Nat.and_comm a.toNat, ← Nat.and_assoc]
theorem mset_comm {n : Nat} {o : List Int} (ho : GoodO n o) {s t a b : Int} (hs : 0 ≤ s) (hs2 : s < n) (ht : 0 ≤ t) (ht2 : t < n) (ha : 0 ≤ a) (hb : 0 ≤ b) : msetL (msetL o s a) t b = msetL (msetL o t b) s a := by
  by_cases e : s = t
  · subst e
    unfold msetL
    rw [at_set_self (by rw [ho.1]; omega), at_set_self (by rw [ho.1]; omega), List.set_set, List.set_set, both_comm ha hb]
  · have h1 := at_set_ne (o := o) (i := s.toNat) (j := t.toNat) (x := both (at_ o s) a) (by omega)
    have h2 := at_set_ne (o := o) (i := t.toNat) (j := s.toNat) (x := both (at_ o t) b) (by omega)
    rw [Int.toNat_of_nonneg ht] at h1
    rw [Int.toNat_of_nonneg hs] at h2
    unfold msetL
    rw [h1, h2, List.set_comm _ _ (by omega)]
theorem ev_eq {α : Type} {g : Nat → Option α} {a b : α} (h : Ev g a) (e : a = b) : Ev g b := e ▸ h
theorem from_ev {l : List S29} (hc : codeB l = true) {o : List Int} (ho : GoodO l.length o) {i : Nat} (hi : i < l.length) (h0 : 0 ≤ at_ o i) :
    Ev (fun k => spec_l3From.f k l o i) (decide (mu (stepW (wayW l) o i) < mu o), stepW (wayW l) o i) := by
  obtain ⟨⟨k1, k2, k3, k4, k5, k6⟩, kt⟩ := code_op hc hi
  have hlen := code_len hc
  obtain ⟨x, hx⟩ : ∃ x, x = l[i] := ⟨_, rfl⟩
  rw [← hx] at k1 k2 k3 k4 k5 k6 kt
  have hrd : rd_T29 l (i : Int) = x := by rw [rd29_get hi, hx]
  obtain ⟨u, hu⟩ : ∃ u, u = at_ o i := ⟨_, rfl⟩
  have hu15 := (at_good ho i).2
  rw [← hu] at h0 hu15
  obtain ⟨on, hon⟩ : ∃ on, on = flF (if (howR x.f0).f3 = true then .fill else .same) x.f1 u := ⟨_, rfl⟩
  have hon15 : 0 ≤ on ∧ on ≤ 15 ∧ (spec_l3Fills.f x.f0).bind (fun t => if t = true then spec_l3With.f u x.f1 else some u) = some on := by
    rw [fills_eq k1]
    simp only [Option.bind_some]
    by_cases hf : (howR x.f0).f3 = true
    · have hr : 0 ≤ x.f1 ∧ x.f1 ≤ 3 := by
        have := fills_has hf
        rcases k3 with k3 | k3
        · omega
        · exact k3.2
      rw [if_pos hf] at hon ⊢
      rw [hon]
      exact ⟨(orBit_range h0 hu15 hr.1 hr.2).1, (orBit_range h0 hu15 hr.1 hr.2).2, with_eq h0 hu15 hr.1 hr.2⟩
    · rw [if_neg hf] at hon ⊢
      rw [hon]
      exact ⟨h0, hu15, rfl⟩
  obtain ⟨on0, on1, honf⟩ := hon15
  have wn : wrap64 ((i : Int) + 1) = (i : Int) + 1 := w64 (by omega) (by omega)
  have next : ∀ o' : List Int, GoodO l.length o' → Ev (fun k => spec_l3Merge.f k o' (wrap64 ((i : Int) + 1)) on) (if (i : Int) + 1 < l.length then (decide (mu (msetL o' ((i : Int) + 1) on) < mu o'), msetL o' ((i : Int) + 1) on) else (false, o')) := fun o' ho' => by
    rw [wn]
    by_cases hn : (i : Int) + 1 < l.length
    · rw [if_pos hn]; exact merge_ev ho' (by omega) hn on0 on1
    · rw [if_neg hn]; exact ⟨0, fun k _ => merge_out k (by rw [ho'.1]; omega)⟩
  have j2 : ∀ (o' : List Int) (b : Bool), GoodO l.length o' → Down o o' → b = decide (mu o' < mu o) → Ev (fun k => spec_l3From.j2 k o' i on b)
      (decide (mu (if (i : Int) + 1 < l.length then msetL o' ((i : Int) + 1) on else o') < mu o), if (i : Int) + 1 < l.length then msetL o' ((i : Int) + 1) on else o') := fun o' b ho' hd hb => by
    refine Ev.step (f := fun k => (spec_l3Merge.f k o' (wrap64 ((i : Int) + 1)) on).bind fun bt371 => (if bt371.1 = true then (some (true, bt371.2)) else (some (b, bt371.2)))) (fun k => by simp only [spec_l3From.j2]) ?_
    refine Ev.bind (next o' ho') ?_
    by_cases hn : (i : Int) + 1 < l.length
    · simp only [if_pos hn]
      have hd2 := (mset_good ho' (t := (i : Int) + 1) (by omega) hn on0 on1).2.1
      obtain ⟨nw, hnw⟩ : ∃ nw, nw = msetL o' ((i : Int) + 1) on := ⟨_, rfl⟩
      rw [← hnw] at hd2 ⊢
      by_cases hm : mu nw < mu o'
      · have h3 : mu nw < mu o := by
          rcases hd with hd | hd
          · rw [hd] at hm; exact hm
          · omega
        rw [decide_eq_true hm, decide_eq_true h3]
        exact Ev.now _
      · have e : nw = o' := by
          rcases hd2 with h | h
          · exact h
          · exact absurd h hm
        rw [decide_eq_false hm, hb, e]
        exact Ev.now _
    · simp only [if_neg hn]
      rw [hb]
      exact Ev.now _
  have goK : ∀ {g : Nat → Option (Bool × List Int)} {fin : List Int}, Ev g (decide (mu fin < mu o), fin) → fin = stepW (wayW l) o i → Ev g (decide (mu (stepW (wayW l) o i) < mu o), stepW (wayW l) o i) := fun h e => e ▸ h
  have hstep : stepW (wayW l) o i = (wayW l i).foldl (mergeW i) o := by unfold stepW; rw [if_neg (by rw [← hu]; omega)]
  have hways : wayW l i = ((if x.f0 = 9 ∨ x.f0 = 14 then [] else if (i : Int) + 1 < l.length then [((i : Int) + 1, if (howR x.f0).f3 = true then Fl.fill else .same)] else []) ++ (if x.f0 = 5 then [(x.f3, Fl.one)] else if hasT x.f0 = true then [(x.f3, .same)] else [])).map fun a => (a.1, flF a.2 x.f1) := by
    unfold wayW waysL arrowsL; rw [hrd]
  have nxt : ∀ o' : List Int, at_ o' i = u → mergeW i o' ((i : Int) + 1, flF (if (howR x.f0).f3 = true then .fill else .same) x.f1) = msetL o' ((i : Int) + 1) on := fun o' h => by
    unfold mergeW msetL; simp only []; rw [h, hon]
  have stay : at_ (msetL o ((i : Int) + 1) on) i = u := by
    have := at_set_ne (o := o) (i := ((i : Int) + 1).toNat) (j := i) (x := both (at_ o ((i : Int) + 1)) on) (by omega)
    unfold msetL; rw [this, hu]
  have hf : ∀ k, spec_l3From.f k l o i = spec_l3From.j0 k o i u on x.f0 x.f1 x.f2 x.f3 x.f4.f0 x.f4.f1 := fun k => by
    unfold spec_l3From.f
    rw [if_pos (by omega), if_pos (by omega), if_pos (by rw [ho.1]; omega), hrd]
    have e : rd o (i : Int) = u := hu.symm
    rw [e]
    rw [fills_eq k1] at honf ⊢
    simp only [Option.bind_some] at honf ⊢
    by_cases hff : (howR x.f0).f3 = true
    · rw [if_pos hff] at honf ⊢
      rw [honf]; rfl
    · rw [if_neg hff] at honf ⊢
      obtain rfl := Option.some.inj honf
      rfl
  refine Ev.congr hf ?_
  have tT : hasT x.f0 = true → 0 ≤ x.f3 ∧ x.f3 < l.length := fun h => ⟨by omega, kt h⟩
  have h1 : (0 : Int) ≤ 1 ∧ (1 : Int) ≤ 15 := by omega
  by_cases e5 : x.f0 = 5
  · have ht := tT (by rw [e5]; rfl)
    refine Ev.step (f := fun k => (spec_l3Merge.f k o x.f3 1).bind fun bt365 => (spec_l3From.j2 k bt365.2 i on bt365.1)) (fun k => by simp only [spec_l3From.j0]; rw [if_pos e5]) ?_
    refine Ev.bind (merge_ev ho ht.1 ht.2 h1.1 h1.2) ?_
    obtain ⟨g1, d1, -⟩ := mset_good ho ht.1 ht.2 h1.1 h1.2
    refine goK (j2 _ _ g1 d1 rfl) ?_
    rw [hstep, hways, if_neg (c := x.f0 = 9 ∨ x.f0 = 14) (by omega), if_pos (c := x.f0 = 5) e5]
    by_cases hn : (i : Int) + 1 < l.length
    · simp only [if_pos hn, List.singleton_append, List.map_cons, List.map_nil, List.foldl_cons, List.foldl_nil]
      rw [nxt o hu.symm, mset_comm ho ht.1 ht.2 (by omega) hn h1.1 on0]
      rfl
    · simp only [if_neg hn, List.nil_append, List.map_cons, List.map_nil, List.foldl_cons, List.foldl_nil]
      rfl
  by_cases e9 : x.f0 = 9
  · have ht := tT (by rw [e9]; rfl)
    refine Ev.step (f := fun k => (spec_l3Merge.f k o x.f3 u).bind fun bt367 => (some (bt367.1, bt367.2))) (fun k => by simp only [spec_l3From.j0]; rw [if_neg e5, if_pos e9]) ?_
    refine Ev.bind (merge_ev ho ht.1 ht.2 h0 hu15) ?_
    refine goK (Ev.now _) ?_
    rw [hstep, hways, if_pos (c := x.f0 = 9 ∨ x.f0 = 14) (.inl e9), if_neg (c := x.f0 = 5) e5, if_pos (c := hasT x.f0 = true) (by rw [e9]; rfl)]
    simp only [List.nil_append, List.map_cons, List.map_nil, List.foldl_cons, List.foldl_nil]
    unfold mergeW msetL; simp only [flF]; rw [hu]
  have j1 : Ev (fun k => spec_l3From.j1 k o i u on false x.f0 (x.f0 == 8 || x.f0 == 10) x.f0 x.f1 x.f2 x.f3 x.f4.f0 x.f4.f1) (decide (mu (stepW (wayW l) o i) < mu o), stepW (wayW l) o i) := by
    by_cases e810 : x.f0 = 8 ∨ x.f0 = 10
    · have hb : (x.f0 == 8 || x.f0 == 10) = true := by simpa using e810
      have hT : hasT x.f0 = true := by rcases e810 with e | e <;> (rw [e]; rfl)
      have ht := tT hT
      refine Ev.step (f := fun k => (spec_l3Merge.f k o x.f3 u).bind fun bt369 => (spec_l3From.j2 k bt369.2 i on bt369.1)) (fun k => by simp only [spec_l3From.j1]; rw [if_pos hb]) ?_
      refine Ev.bind (merge_ev ho ht.1 ht.2 h0 hu15) ?_
      obtain ⟨g1, d1, -⟩ := mset_good ho ht.1 ht.2 h0 hu15
      refine goK (j2 _ _ g1 d1 rfl) ?_
      rw [hstep, hways, if_neg (c := x.f0 = 9 ∨ x.f0 = 14) (by omega), if_neg (c := x.f0 = 5) e5, if_pos (c := hasT x.f0 = true) hT]
      by_cases hn : (i : Int) + 1 < l.length
      · simp only [if_pos hn, List.singleton_append, List.map_cons, List.map_nil, List.foldl_cons, List.foldl_nil]
        rw [nxt o hu.symm, mset_comm ho ht.1 ht.2 (by omega) hn h0 on0]
        show _ = msetL _ x.f3 (at_ _ i)
        rw [stay]
      · simp only [if_neg hn, List.nil_append, List.map_cons, List.map_nil, List.foldl_cons, List.foldl_nil]
        show _ = msetL _ x.f3 (at_ _ i)
        rw [← hu]
    · have hb : ¬ (x.f0 == 8 || x.f0 == 10) = true := by simpa using e810
      have hT : hasT x.f0 = false := by
        unfold hasT; exact decide_eq_false (by omega)
      by_cases e14 : x.f0 = 14
      · refine Ev.step (f := fun k => some (false, o)) (fun k => by simp only [spec_l3From.j1]; rw [if_neg hb, if_pos e14]) ?_
        have e : o = stepW (wayW l) o i := by
          rw [hstep, hways, if_pos (c := x.f0 = 9 ∨ x.f0 = 14) (.inr e14), if_neg (c := x.f0 = 5) e5, if_neg (c := hasT x.f0 = true) (by rw [hT]; decide)]; rfl
        rw [← e]
        refine ev_eq (Ev.now _) ?_
        simp
      · refine Ev.step (f := fun k => spec_l3From.j2 k o i on false) (fun k => by simp only [spec_l3From.j1]; rw [if_neg hb, if_neg e14]) ?_
        refine goK (j2 o false ho (.refl _) (by simp)) ?_
        rw [hstep, hways, if_neg (c := x.f0 = 9 ∨ x.f0 = 14) (by omega), if_neg (c := x.f0 = 5) e5, if_neg (c := hasT x.f0 = true) (by rw [hT]; decide)]
        by_cases hn : (i : Int) + 1 < l.length
        · simp only [if_pos hn, List.append_nil, List.map_cons, List.map_nil, List.foldl_cons, List.foldl_nil]
          rw [nxt o hu.symm]
        · simp only [if_neg hn, List.append_nil, List.map_nil, List.foldl_nil]
  refine Ev.step (f := fun k => spec_l3From.j1 k o i u on false x.f0 (x.f0 == 8 || x.f0 == 10) x.f0 x.f1 x.f2 x.f3 x.f4.f0 x.f4.f1) (fun k => ?_) j1
  simp only [spec_l3From.j0]
  rw [if_neg e5, if_neg e9]
  by_cases e8 : x.f0 = 8
  · rw [if_pos e8]; simp [e8]
  · rw [if_neg e8]
    have : (x.f0 == 8) = false := by simpa using e8
    rw [this]; rfl
theorem l2_ev {l : List S29} (hc : codeB l = true) {o : List Int} (ho : GoodO l.length o) {r : List Int} (h : Ev (fun k => spec_l3Full.l1 k l (passW (wayW l) l.length o) (decide (mu (passW (wayW l) l.length o) < mu o))) r) (d : Nat) :
    ∀ j, l.length - j = d → j ≤ l.length → Ev (fun k => spec_l3Full.l2 k l (passW (wayW l) j o) (decide (mu (passW (wayW l) j o) < mu o)) j) r := by
  have hlen := code_len hc
  induction d with
  | zero =>
    intro j hj hj2
    obtain rfl : j = l.length := by omega
    refine Ev.step (fun k => ?_) h
    simp only [spec_l3Full.l2]
    rw [if_neg (by omega)]
  | succ d ih =>
    intro j hj hj2
    obtain ⟨gp, dp⟩ := passes_good (wayW_good hc) ho j (by omega)
    have ih1 := ih (j + 1) (by omega) (by omega)
    have ew : wrap64 ((j : Int) + 1) = ((j + 1 : Nat) : Int) := by rw [w64 (by omega) (by omega)]; omega
    obtain ⟨p, hp⟩ : ∃ p, p = passW (wayW l) j o := ⟨_, rfl⟩
    rw [pass_succ, ← hp] at ih1
    rw [← hp] at gp dp ⊢
    have e : rd p (j : Int) = at_ p j := rfl
    by_cases hn : 0 ≤ at_ p j
    · have hfr := from_ev hc gp (i := j) (by omega) hn
      refine Ev.step (f := fun k => (spec_l3From.f k l p j).bind fun bt379 => (spec_l3Full.j3 k l bt379.2 (decide (mu p < mu o)) j bt379.1)) (fun k => ?_) ?_
      · simp only [spec_l3Full.l2]
        rw [if_pos (by omega), if_pos (by omega), if_pos (by rw [gp.1]; omega), e, if_pos hn]
      · refine Ev.bind hfr ?_
        obtain ⟨g2, d2⟩ := step_good (wayW_good hc) (i := j) (by omega) gp
        obtain ⟨s, hs⟩ : ∃ s, s = stepW (wayW l) p j := ⟨_, rfl⟩
        rw [← hs] at ih1 g2 d2 ⊢
        by_cases hm : mu s < mu p
        · refine Ev.step (fun k => ?_) ih1
          have : mu s < mu o := by
            rcases dp with h | h
            · rw [h] at hm; exact hm
            · omega
          simp only [spec_l3Full.j3, decide_eq_true hm, decide_eq_true this, ew, if_true]
        · have es : s = p := by
            rcases d2 with h | h
            · exact h
            · exact absurd h hm
          rw [es] at ih1 ⊢
          refine Ev.step (fun k => ?_) ih1
          simp only [spec_l3Full.j3, ew]
          rw [if_neg (by simp)]
    · have hst : stepW (wayW l) p j = p := by unfold stepW; rw [if_pos (by omega)]
      rw [hst] at ih1
      refine Ev.step (f := fun k => spec_l3Full.j3 k l p (decide (mu p < mu o)) j false) (fun k => ?_) ?_
      · simp only [spec_l3Full.l2]
        rw [if_pos (by omega), if_pos (by omega), if_pos (by rw [gp.1]; omega), e, if_neg (by omega)]
      · refine Ev.step (fun k => ?_) ih1
        simp only [spec_l3Full.j3, ew]
        rw [if_neg (by decide)]
theorem l1_ev {l : List S29} (hc : codeB l = true) (m : Nat) : ∀ (o : List Int) (c : Bool), GoodO l.length o → mu o + c.toNat ≤ m → (c = false → passW (wayW l) l.length o = o) → Ev (fun k => spec_l3Full.l1 k l o c) (finW (wayW l) l.length o) := by
  have one : ∀ (o : List Int), passW (wayW l) l.length o = o → Ev (fun k => spec_l3Full.l1 k l o false) (finW (wayW l) l.length o) := fun o ho => by
    refine Ev.step (f := fun k => some o) (fun k => ?_) (ev_eq (Ev.now _) (fin_fix ho).symm)
    simp only [spec_l3Full.l1]; rw [if_neg (by decide)]
  induction m with
  | zero =>
    intro o c ho hm hf
    cases c with
    | false => exact one o (hf rfl)
    | true => simp at hm
  | succ m ih =>
    intro o c ho hm hf
    cases c with
    | false => exact one o (hf rfl)
    | true =>
      obtain ⟨g, d⟩ := passes_good (wayW_good hc) ho l.length (Nat.le_refl _)
      have hrec : Ev (fun k => spec_l3Full.l1 k l (passW (wayW l) l.length o) (decide (mu (passW (wayW l) l.length o) < mu o))) (finW (wayW l) l.length o) := by
        rw [← fin_pass (wayW_good hc) ho]
        rcases d with d | d
        · have hd : decide (mu (passW (wayW l) l.length o) < mu o) = false := by rw [d]; simp
          rw [hd]
          exact one _ (by rw [d, d])
        · rw [decide_eq_true d]
          exact ih _ true g (by simp at hm ⊢; omega) (fun h => by cases h)
      have := l2_ev hc ho hrec l.length 0 (by omega) (by omega)
      refine Ev.step (fun k => ?_) this
      simp only [spec_l3Full.l1, if_true]
      have e0 : decide (mu (passW (wayW l) 0 o) < mu o) = false := by simp [passW]
      rw [e0]; rfl
theorem l0_ev {l : List S29} {r : List Int} (h1 : 1 ≤ l.length) (h2 : l.length ≤ 16) (h : Ev (fun k => spec_l3Full.l1 k l (startO l.length) true) r) (d : Nat) :
    ∀ j, l.length - 1 - j = d → j + 1 ≤ l.length → Ev (fun k => spec_l3Full.l0 k l (0 :: (List.replicate j (-1) ++ List.replicate (l.length - 1 - j) 0)) ((j + 1 : Nat) : Int)) r := by
  induction d with
  | zero =>
    intro j hj hj2
    refine Ev.step (fun k => ?_) h
    have hl : (0 :: (List.replicate j (-1) ++ List.replicate (l.length - 1 - j) (0 : Int))).length = l.length := by simp; omega
    simp only [spec_l3Full.l0]
    rw [hl, if_neg (by omega), if_pos (by omega), hj]
    have : startO l.length = (0 :: (List.replicate j (-1) ++ List.replicate 0 (0 : Int))).set (Int.toNat 0) 1 := by
      unfold startO
      rw [show l.length = j + 1 by omega, List.replicate_succ]; simp
    rw [this]
  | succ d ih =>
    intro j hj hj2
    have ih1 := ih (j + 1) (by omega) (by omega)
    refine Ev.step (fun k => ?_) ih1
    have hl : (0 :: (List.replicate j (-1) ++ List.replicate (l.length - 1 - j) (0 : Int))).length = l.length := by simp; omega
    simp only [spec_l3Full.l0]
    rw [hl, if_pos (by omega), if_pos (by omega), w64 (by omega) (by omega), Int.toNat_natCast]
    have : (0 :: (List.replicate j (-1) ++ List.replicate (l.length - 1 - j) (0 : Int))).set (j + 1) (-1) = 0 :: (List.replicate (j + 1) (-1) ++ List.replicate (l.length - 1 - (j + 1)) 0) := by
      rw [List.set_cons_succ, List.set_append_right _ _ (by simp), List.length_replicate, Nat.sub_self, show l.length - 1 - j = (l.length - 1 - (j + 1)) + 1 by omega, List.replicate_succ, List.set_cons_zero, List.replicate_succ', List.append_assoc]
      rfl
    rw [this]; rfl
theorem sfull_ev {l : List S29} (hc : codeB l = true) : Ev (fun k => spec_l3Full.f k l) (fullL l) := by
  obtain ⟨h1, h2⟩ := code_len hc
  have := l0_ev h1 h2 (l1_ev hc _ (startO l.length) true (start_good _) (Nat.le_refl _) (fun h => by cases h)) (l.length - 1) 0 (by omega) (by omega)
  refine Ev.congr (fun k => ?_) this
  unfold spec_l3Full.f
  rw [if_pos (by omega), if_pos (by omega), Int.toNat_natCast]
  obtain ⟨n, hn⟩ : ∃ n, l.length = n + 1 := ⟨l.length - 1, by omega⟩
  rw [hn, List.replicate_succ]
  simp
theorem scode_ev (l : List S29) (hm : l.length ≤ 9223372036854775807) : Ev (fun k => spec_CodeOk.f k l) (codeB l) := Ev.of (fun k => spec_CodeOk.mono l k) (scode_eq l hm)
def codeFullV.f (l : List S29) : Option (List Int) := some (if codeB l = true then fullL l else [])
theorem scodefull_ev (l : List S29) (hm : l.length ≤ 9223372036854775807) : Ev (fun k => spec_CodeFull.f k l) (if codeB l = true then fullL l else []) := by
  unfold spec_CodeFull.f
  refine Ev.bind (scode_ev l hm) ?_
  by_cases h : codeB l = true
  · simp only [if_pos h]
    exact Ev.bind (sfull_ev h) (Ev.now _)
  · simp only [if_neg h]
    exact Ev.now _
theorem spec_CodeFull_as.calls (A0 : Option Addr) (c0 : Nat) (l0 : List (S29)) (r : List Int) (w : World) (hr0 : Kd.C k29 w A0 l0.length l0) (hc0 : l0.length ≤ c0) (h : codeFullV.f l0 = some r) :
    Calls Try.prog 43 #[.slice A0 l0.length c0] w fun e w' => ∃ v0_ : Value, e = .returned (v0_) ∧ Kd.R (Kd.int .i64) 3 w' w.heap.size (fun _ => True) v0_ r ∧ Below w.heap.size w w' := by
  obtain ⟨k, hk⟩ := (scodefull_ev l0 (Kd.C_max hr0)).rounds
  exact spec_CodeFull.calls k A0 c0 l0 r w hr0 hc0 (hk.trans h)
theorem impl_CodeFull_as.calls (A0 : Option Addr) (c0 : Nat) (l0 : List (S29)) (r : List Int) (w : World) (hr0 : Kd.C k29 w A0 l0.length l0) (hc0 : l0.length ≤ c0) (h : codeFullV.f l0 = some r) :
    Calls Try.prog 44 #[.slice A0 l0.length c0] w fun e w' => ∃ v0_ : Value, e = .returned (v0_) ∧ Kd.R (Kd.int .i64) 3 w' w.heap.size (fun _ => True) v0_ r ∧ Below w.heap.size w w' := by
  refine impl_CodeFull.calls A0 c0 l0 r w hr0 hc0 ?_
  rw [← h]
  unfold impl_CodeFull.f codeV.f fullV.f codeFullV.f
  simp only [Option.bind_some]
  by_cases hc : codeB l0 = true
  · simp only [if_pos hc]; rfl
  · simp only [if_neg hc]
end Go.Proofs.Ytmklpbmlgjkbiaa.PS
end
section
namespace Go.Proofs.Ytmklpbmlgjkbiaa.PS
open Go.RowKit Go.Proofs.YtmklpbmlgjkbiaaW.PrintWords Go.Proofs.YtmklpbmlgjkbiaaW.PrintLast
set_option linter.unusedVariables false
set_option linter.unusedSimpArgs false
set_option maxRecDepth 100000
def setQ (x : S29) (q : Nat) (y : Int) : S29 :=
  match q with
  | 0 => ⟨y, x.f1, x.f2, x.f3, x.f4⟩
  | 1 => ⟨x.f0, y, x.f2, x.f3, x.f4⟩
  | 2 => ⟨x.f0, x.f1, y, x.f3, x.f4⟩
  | 3 => ⟨x.f0, x.f1, x.f2, y, x.f4⟩
  | 4 => ⟨x.f0, x.f1, x.f2, x.f3, ⟨y, x.f4.f1⟩⟩
  | _ => ⟨x.f0, x.f1, x.f2, x.f3, ⟨x.f4.f0, y⟩⟩
def cells29 (x : S29) : List Value := [.int .i64 x.f0, .int .i64 x.f1, .int .i64 x.f2, .int .i64 x.f3, .int .i64 x.f4.f0, .int .i64 x.f4.f1]
theorem store29 {ops : Array Oper} {rest : List Oper} {o : Oper} {a : Act} {Q : Exit → Act → World → Prop} {w0 W : World} (base : Nat) (hN : o.dst = none) (hgd : o.guard = none) (p x : Operand) (ho : o.op = .store 3 p x)
    {g n cap o' : Nat} (pre post : List S29) (cur : S29) (q : Nat) (hq : q < 6) (y : Int) (ok : Nat → Prop)
    (haddr : a.eval p = .pointer (some ⟨g, o', none⟩)) (hoff : o' = pre.length * 6 + q) (hx : a.eval x = .int .i64 y)
    (HO : Kd.R k29 29 W base ok (.slice (some ⟨g, 0, none⟩) n cap) (pre ++ cur :: post)) (HB : Below base w0 W)
    (h : ∀ w1, Kd.R k29 29 w1 base ok (.slice (some ⟨g, 0, none⟩) n cap) (pre ++ setQ cur q y :: post) → Below base w0 w1 → W.grownBy w1 (some g) → wpList Try.prog ops Q rest a w1) : wpList Try.prog ops Q (o :: rest) a W := by
  have hr := Kd.R_reads' HO
  have hn : n = (pre ++ cur :: post).length := hr.1
  have hj : pre.length < n := by rw [hn]; simp
  have hC := hr.2.2
  obtain ⟨ad, e, hcell⟩ := hC.2.2 (by simp; omega)
  cases e
  obtain ⟨cs, hl, hK, hcc⟩ := hcell pre.length cur (by simp)
  obtain rfl := k29_open hK
  have hset : (pre ++ cur :: post).set pre.length (setQ cur q y) = pre ++ setQ cur q y :: post := by
    rw [List.set_append_right _ _ (Nat.le_refl _), Nat.sub_self]; rfl
  refine Kd.R_store k29 base hN hgd 3 p x ho 29 (pre.length : Int) q (pre ++ cur :: post) (setQ cur q y) (.int .i64 y) [.int .i64 y] (cells29 cur) ok (fun _ => False) haddr (by rw [hoff, Int.toNat_natCast]; rfl) hx rfl (by kernel_rfl) (by simp [Value.oneCell']) HO (by omega) (by omega) rfl ?_ (by show q + 1 ≤ 6; omega) ?_ (fun k hk => hk.elim) HB ?_
  · intro j u hu
    have e : ∀ m : Nat, (⟨g, 0, none⟩ : Addr).add m = ⟨g, m, none⟩ := fun m => by
      unfold Addr.add; split
      · rename_i h; rw [h]
      · simp
    have := hcc j u hu
    rw [e] at this
    exact this
  · have e : (cells29 cur).take q ++ [Value.int .i64 y] ++ (cells29 cur).drop (q + 1) = cells29 (setQ cur q y) := by
      match q, hq with
      | 0, _ => rfl
      | 1, _ => rfl
      | 2, _ => rfl
      | 3, _ => rfl
      | 4, _ => rfl
      | 5, _ => rfl
    show k29.M W base _ _ ((cells29 cur).take q ++ [Value.int .i64 y] ++ (cells29 cur).drop (q + 1))
    rw [e]
    exact k29_mkM W base _ _
  · intro w1 h1 h2 h3
    rw [Int.toNat_natCast, hset] at h1
    exact h w1 h1 h2 h3
def markOp (k : Int) : S29 := ⟨k, wrap64 (k + 1), wrap64 (wrap64 (k + 1) + 1), wrap64 (wrap64 (wrap64 (k + 1) + 1) + 1), ⟨wrap64 (wrap64 (wrap64 (wrap64 (k + 1) + 1) + 1) + 1), wrap64 (wrap64 (wrap64 (wrap64 (wrap64 (k + 1) + 1) + 1) + 1) + 1)⟩⟩
def next6 (k : Int) : Int := wrap64 (wrap64 (wrap64 (wrap64 (wrap64 (wrap64 (k + 1) + 1) + 1) + 1) + 1) + 1)
def marksOp : Nat → Int → List S29
  | 0, _ => []
  | n + 1, k => markOp k :: marksOp n (next6 k)
def markedOp : Nat → Int → Int
  | 0, k => k
  | n + 1, k => markedOp n (next6 k)
def markV.f (l : List S29) (k : Int) : Option (Int × List S29) := some (markedOp l.length k, marksOp l.length k)
def MarkRel (w0 w : World) (base : Nat) (P0_ : Nat → Prop) (v : Value) (n : Nat) (r1 : Int) (r2 : List S29) (pre post : List S29) (x : Int) (wr : World) : Prop :=
  pre.length + post.length = n ∧ markedOp post.length x = r1 ∧ pre ++ marksOp post.length x = r2 ∧ Kd.R k29 29 wr base (fun k_ => (P0_ k_ ∨ w.heap.size ≤ k_)) v (pre ++ post) ∧ Below base w0 wr ∧ Kept w wr (fun k_ => P0_ k_)
set_option maxHeartbeats 8000000 in
theorem laws_markOpS.calls (P0_ : Nat → Prop) (u9000_ : Value) (l0 : List S29) (a1 : Int) (r1 : Int) (r2 : List S29) (w0 w : World) (hB : Below w0.heap.size w0 w) (ho0 : Kd.R k29 29 w w0.heap.size P0_ u9000_ l0) (h : markV.f l0 a1 = some (r1, r2)) :
    Calls Try.prog 40 #[u9000_, .int .i64 a1] w fun e w' => e = .returned (.int .i64 r1) ∧ Kd.R k29 29 w' w0.heap.size (fun k_ => (P0_ k_ ∨ w.heap.size ≤ k_)) u9000_ r2 ∧ Below w0.heap.size w0 w' ∧ Kept w w' (fun k_ => P0_ k_) := by
  have hm : l0.length ≤ 9223372036854775807 := by obtain ⟨A, c, _, _, hC⟩ := Kd.R_reads ho0; exact Kd.C_max hC
  have h := Option.some.inj h
  have e1 : markedOp l0.length a1 = r1 := (Prod.mk.inj h).1
  have e2 : marksOp l0.length a1 = r2 := (Prod.mk.inj h).2
  have HR : Aside0 (MarkRel w0 w w0.heap.size P0_ u9000_ l0.length r1 r2 [] l0 a1 w) := ⟨by simp, e1, e2, Kd.R_mono ho0 (fun _ hk => .inl hk), hB, Kept.refl w _⟩
  have hP := fun g (hg : u9000_.ownBlock = some g) => ho0.1 g hg
  obtain ⟨A, c, ev⟩ := Kd.R_slice ho0
  obtain ⟨n, hn⟩ : ∃ n, n = l0.length := ⟨_, rfl⟩
  have hform : 0 < n → ∃ g, A = some ⟨g, 0, none⟩ := fun hp => by
    obtain ⟨g, cap, e, _⟩ := Kd.R_form ho0 (by omega)
    rw [ev] at e
    injection e with e
    exact ⟨g, e⟩
  rw [← hn] at HR hm ev
  have HP : Aside0 (∀ g, u9000_.ownBlock = some g → P0_ g) := ⟨hP⟩
  have HL : Aside0 (n = l0.length) := ⟨hn⟩
  clear hP hn h e1 e2 ho0
  subst ev
  rcases Nat.eq_zero_or_pos n with hz | hz
  · subst hz
    obtain ⟨k1, k2, k3, k4, k5, k6⟩ := HR.out
    have hl : l0 = [] := List.length_eq_zero_iff.1 HL.out.symm
    subst hl
    have F := Aside0.mk (⟨k2, k3, k4, k5, k6⟩ : _ ∧ _ ∧ _ ∧ _ ∧ _)
    clear k1 k2 k3 k4 k5 k6 HR HL hB
    go_enter Try.func40, Try.ntmps40
    go_wp2
    go_loopg [1, 5] 0 (fun gg s1 s5 wr => s1 = .int .i64 a1 ∧ s5 = .int .i64 0 ∧ wr = w)
    case atStart => exact ⟨rfl, rfl, rfl⟩
    case round =>
      obtain ⟨rfl, rfl, rfl⟩ := hrel
      go_wp2
      go_ret
      obtain ⟨k2, k3, k4, k5, k6⟩ := F.out
      exact ⟨by rw [← k2]; rfl, by rw [← k3]; exact k4, k5, k6⟩
  · obtain ⟨g, rfl⟩ := hform hz
    clear hform hB
    go_enter Try.func40, Try.ntmps40
    go_wp2
    go_loopg [1, 5] n (fun gg s1 s5 wr => ∃ (pre post : List S29) (x : Int), s1 = .int .i64 x ∧ s5 = .int .i64 (pre.length : Int) ∧ post.length ≤ gg ∧ Aside0 (MarkRel w0 w w0.heap.size P0_ (.slice (some ⟨g, 0, none⟩) n c) n r1 r2 pre post x wr))
    case atStart => exact ⟨[], l0, a1, rfl, rfl, by rw [HL.out]; exact Nat.le_refl _, HR⟩
    case round =>
      clear HR HL
      obtain ⟨pre, post, x, rfl, rfl, hgg, R⟩ := hrel
      cases post with
      | nil =>
        have hlt : ¬ ((pre.length : Int) < (n : Int)) := by have := R.out.1; simp at this; omega
        go_wp2
        go_ret
        obtain ⟨k1, k2, k3, k4, k5, k6⟩ := R.out
        exact ⟨by rw [← k2]; rfl, by rw [← k3]; exact k4, k5, k6⟩
      | cons cur post =>
        have hlt : ((pre.length : Int) < (n : Int)) := by have := R.out.1; simp at this; omega
        have hj0 : (0 : Int) ≤ (pre.length : Int) := by omega
        have hgg : post.length + 1 ≤ gk := by simpa using hgg
        obtain ⟨j, hj⟩ : ∃ j, j = pre.length := ⟨_, rfl⟩
        rw [← hj] at hlt hj0 ⊢
        have HJ := Aside0.mk hj
        clear hj
        obtain ⟨R1, R2, R3, R4, R5, R6⟩ := R.out
        have H0 := Aside0.mk R4
        have B0 := Aside0.mk R5
        have G0 := Aside0.mk R6
        have F1 := Aside0.mk R1
        have F2 := Aside0.mk R2
        have F3 := Aside0.mk R3
        clear R R1 R2 R3 R4 R5 R6
        go_wp2_with (first | ((with_reducible refine gate_store (t := 3) (p := 16) rfl ?_); refine store29 w0.heap.size rfl rfl (.tmp 16) (.tmp 14) rfl pre post cur 0 (by omega) _ _ rfl (by first | rfl | (simp [HJ.out]; done) | (simp [HJ.out]; omega)) rfl H0.out B0.out ?_; intro w1 h_ b_ g_; have H1 := Aside0.mk h_; have B1 := Aside0.mk b_; have G1 := Aside0.mk (Kept.of_grown (S := (fun k_ => P0_ k_)) g_ G0.out (fun k_ e_ => .inl (HP.out k_ (by rw [← e_]; rfl)))); clear h_ b_ g_) | ((with_reducible refine gate_store (t := 3) (p := 23) rfl ?_); refine store29 w0.heap.size rfl rfl (.tmp 23) (.tmp 21) rfl pre post (setQ cur 0 (x)) 1 (by omega) _ _ rfl (by first | rfl | (simp [HJ.out]; done) | (simp [HJ.out]; omega)) rfl H1.out B1.out ?_; intro w2 h_ b_ g_; have H2 := Aside0.mk h_; have B2 := Aside0.mk b_; have G2 := Aside0.mk (Kept.of_grown (S := (fun k_ => P0_ k_)) g_ G1.out (fun k_ e_ => .inl (HP.out k_ (by rw [← e_]; rfl)))); clear h_ b_ g_) | ((with_reducible refine gate_store (t := 3) (p := 30) rfl ?_); refine store29 w0.heap.size rfl rfl (.tmp 30) (.tmp 28) rfl pre post (setQ (setQ cur 0 (x)) 1 (wrap64 (x + 1))) 2 (by omega) _ _ rfl (by first | rfl | (simp [HJ.out]; done) | (simp [HJ.out]; omega)) rfl H2.out B2.out ?_; intro w3 h_ b_ g_; have H3 := Aside0.mk h_; have B3 := Aside0.mk b_; have G3 := Aside0.mk (Kept.of_grown (S := (fun k_ => P0_ k_)) g_ G2.out (fun k_ e_ => .inl (HP.out k_ (by rw [← e_]; rfl)))); clear h_ b_ g_) | ((with_reducible refine gate_store (t := 3) (p := 37) rfl ?_); refine store29 w0.heap.size rfl rfl (.tmp 37) (.tmp 35) rfl pre post (setQ (setQ (setQ cur 0 (x)) 1 (wrap64 (x + 1))) 2 (wrap64 (wrap64 (x + 1) + 1))) 3 (by omega) _ _ rfl (by first | rfl | (simp [HJ.out]; done) | (simp [HJ.out]; omega)) rfl H3.out B3.out ?_; intro w4 h_ b_ g_; have H4 := Aside0.mk h_; have B4 := Aside0.mk b_; have G4 := Aside0.mk (Kept.of_grown (S := (fun k_ => P0_ k_)) g_ G3.out (fun k_ e_ => .inl (HP.out k_ (by rw [← e_]; rfl)))); clear h_ b_ g_) | ((with_reducible refine gate_store (t := 3) (p := 45) rfl ?_); refine store29 w0.heap.size rfl rfl (.tmp 45) (.tmp 42) rfl pre post (setQ (setQ (setQ (setQ cur 0 (x)) 1 (wrap64 (x + 1))) 2 (wrap64 (wrap64 (x + 1) + 1))) 3 (wrap64 (wrap64 (wrap64 (x + 1) + 1) + 1))) 4 (by omega) _ _ rfl (by first | rfl | (simp [HJ.out]; done) | (simp [HJ.out]; omega)) rfl H4.out B4.out ?_; intro w5 h_ b_ g_; have H5 := Aside0.mk h_; have B5 := Aside0.mk b_; have G5 := Aside0.mk (Kept.of_grown (S := (fun k_ => P0_ k_)) g_ G4.out (fun k_ e_ => .inl (HP.out k_ (by rw [← e_]; rfl)))); clear h_ b_ g_) | ((with_reducible refine gate_store (t := 3) (p := 53) rfl ?_); refine store29 w0.heap.size rfl rfl (.tmp 53) (.tmp 50) rfl pre post (setQ (setQ (setQ (setQ (setQ cur 0 (x)) 1 (wrap64 (x + 1))) 2 (wrap64 (wrap64 (x + 1) + 1))) 3 (wrap64 (wrap64 (wrap64 (x + 1) + 1) + 1))) 4 (wrap64 (wrap64 (wrap64 (wrap64 (x + 1) + 1) + 1) + 1))) 5 (by omega) _ _ rfl (by first | rfl | (simp [HJ.out]; done) | (simp [HJ.out]; omega)) rfl H5.out B5.out ?_; intro w6 h_ b_ g_; have H6 := Aside0.mk h_; have B6 := Aside0.mk b_; have G6 := Aside0.mk (Kept.of_grown (S := (fun k_ => P0_ k_)) g_ G5.out (fun k_ e_ => .inl (HP.out k_ (by rw [← e_]; rfl)))); clear h_ b_ g_))
        go_roundg post.length
        case measure => omega
        case rel =>
          have hf2 := F2.out
          have hf3 := F3.out
          have hf1 := F1.out
          refine ⟨pre ++ [markOp x], post, next6 x, rfl, by simp [HJ.out], Nat.le_refl _, ⟨by simp at hf1 ⊢; omega, hf2, by rw [← hf3, List.append_assoc]; rfl, ?_, B6.out, G6.out⟩⟩
          have := H6.out
          rw [List.append_assoc]
          exact this
end Go.Proofs.Ytmklpbmlgjkbiaa.PS
end
section
namespace Go.Proofs.Ytmklpbmlgjkbiaa.PF
open Go.RowKit Go.Proofs.YtmklpbmlgjkbiaaW.PrintWords Go.Proofs.YtmklpbmlgjkbiaaW.PrintLast Go.Proofs.YtmklpbmlgjkbiaaW.PrintMore Go.Proofs.Ytmklpbmlgjkbiaa.PS
attribute [local go_sem] max2_int min2_int max_two min_two max_three min_three max_four min_four   -- for this text's walks alone
set_option linter.unusedVariables false
set_option linter.unusedSimpArgs false
def laws_FnExactCodeFull.j0 : Nat → List (S25) → List Int → List Int → Bool → Option (Bool)
  | 0, _, _, _, _ => none
  | k + 1, x0, x4, x6, x42 => if x42 = true then (some false) else ((markIntsV.f x6 1).bind fun bt116 => ((heldIntsV.f bt116.2 1).bind fun t118 => (if t118 < 0 then (some false) else (if t118 = bt116.1 then ((toOpsV.f x0).bind fun t119 => ((codeFullV.f t119).bind fun t122 => ((eqIntsV.f t122 x4).bind fun t125 => (if t125 = true then (some true) else (some false))))) else (some false)))))
def laws_FnExactCodeFull.f (k : Nat) (l0 : List (S25)) : Option (Bool) := (laws_szOpS.f l0 1048576).bind fun t101 => (if t101 < 0 then (some true) else ((toOpsV.f l0).bind fun t102 => ((codeFullV.f t102).bind fun t105 => ((markV.f t102 1).bind fun bt114 => (if bt114.1 < 0 then (laws_FnExactCodeFull.j0 k l0 t105 t105 true) else (laws_FnExactCodeFull.j0 k l0 t105 t105 (!true)))))))
set_option maxHeartbeats 8000000 in
set_option maxRecDepth 100000 in
theorem laws_FnExactCodeFull.calls (k : Nat) (A0 : Option Addr) (c0 : Nat) (l0 : List (S25)) (r : Bool) (w : World) (hr0 : Kd.C k25 w A0 l0.length l0) (hc0 : l0.length ≤ c0) (h : laws_FnExactCodeFull.f k l0 = some r) :
    Calls Try.prog 10 #[.slice A0 l0.length c0] w fun e w' => e = .returned (.bool r) ∧ Below w.heap.size w w' := by
  have HR0 := Aside0.mk hr0
  have HC0 := Aside0.mk hc0
  clear hr0 hc0
  have HB := Aside0.mk (Below.refl w.heap.size w)
  have H : ((laws_szOpS.f l0 1048576).bind fun t101 => (if t101 < 0 then (some true) else ((toOpsV.f l0).bind fun t102 => ((codeFullV.f t102).bind fun t105 => ((markV.f t102 1).bind fun bt114 => (if bt114.1 < 0 then (laws_FnExactCodeFull.j0 k l0 t105 t105 true) else (laws_FnExactCodeFull.j0 k l0 t105 t105 (!true)))))))) = some r := h
  clear h
  replace H := Option.bind_eq_some_iff.mp H
  obtain ⟨t101, A20, H⟩ := H
  replace H : (if t101 < 0 then (some true) else ((toOpsV.f l0).bind fun t102 => ((codeFullV.f t102).bind fun t105 => ((markV.f t102 1).bind fun bt114 => (if bt114.1 < 0 then (laws_FnExactCodeFull.j0 k l0 t105 t105 true) else (laws_FnExactCodeFull.j0 k l0 t105 t105 (!true))))))) = some r := H
  have A2 := Aside0.mk A20
  clear A20
  by_cases c3 : t101 < 0
  · rw [if_pos c3] at H
    have c3b0 : decide (t101 < 0) = true := decide_eq_true c3
    clear c3
    obtain rfl := Option.some.inj H
    go_enter Try.func10, Try.ntmps10
    go_wp2_with (first | ((with_reducible refine gate_callee (f := 32) rfl ?_); refine goesL_ (some 13) rfl rfl Try.func32 (by kernel_rfl) rfl #[.slice A0 l0.length c0, .int .i64 1048576] rfl (by (try simp only [List.map_toArray, List.map_cons, List.map_nil]); first | done | rfl | (simp only [List.length_drop, List.length_take]; rfl)) ?_; (with_reducible refine (laws_szOpS.calls _ _ l0 1048576 t101 _ ?side1 ?side2 A2.out).mono ?_); (case side1 => repeat (first | exact HR0.out | (with_reducible refine Kd.C_alloc ?_ _) | (with_reducible refine Kd.C_drewN ?_ _) | (with_reducible refine Kd.C_drew ?_))); (case side2 => exact HC0.out); rintro e w' ⟨rfl, ⟨nd, rfl⟩⟩; refine ⟨_, rfl, ?_⟩))
    go_ret
    exact ⟨by first | rfl | (simp [errW_none, errW_some] <;> rfl) | (simp [*, errW_none, errW_some] <;> rfl), by repeat (first | (with_reducible first | exact HB.out | apply below_alloc | apply pw_below_drewN | apply below_drew1) | exact HB.out)⟩
  · rw [if_neg c3] at H
    have c3b0 : decide (t101 < 0) = false := decide_eq_false c3
    clear c3
    replace H := Option.bind_eq_some_iff.mp H
    obtain ⟨t102, A40, H⟩ := H
    replace H : ((codeFullV.f t102).bind fun t105 => ((markV.f t102 1).bind fun bt114 => (if bt114.1 < 0 then (laws_FnExactCodeFull.j0 k l0 t105 t105 true) else (laws_FnExactCodeFull.j0 k l0 t105 t105 (!true))))) = some r := H
    have A4 := Aside0.mk A40
    clear A40
    replace H := Option.bind_eq_some_iff.mp H
    obtain ⟨t105, A50, H⟩ := H
    replace H : ((markV.f t102 1).bind fun bt114 => (if bt114.1 < 0 then (laws_FnExactCodeFull.j0 k l0 t105 t105 true) else (laws_FnExactCodeFull.j0 k l0 t105 t105 (!true)))) = some r := H
    have A5 := Aside0.mk A50
    clear A50
    have A6 := Aside0.mk (eqInts_same t105 : eqIntsV.f t105 t105 = some true)
    have A7 := Aside0.mk (eqOps_same t102 : eqOpsV.f t102 t102 = some true)
    replace H := Option.bind_eq_some_iff.mp H
    obtain ⟨⟨t114, t115⟩, A80, H⟩ := H
    replace H : (if t114 < 0 then (laws_FnExactCodeFull.j0 k l0 t105 t105 true) else (laws_FnExactCodeFull.j0 k l0 t105 t105 (!true))) = some r := H
    have A8 := Aside0.mk A80
    clear A80
    have HC9 := Aside0.mk H
    clear H
    go_enter Try.func10, Try.ntmps10
    go_upto_region 14 with (first | ((with_reducible refine gate_callee (f := 32) rfl ?_); refine goesL_ (some 13) rfl rfl Try.func32 (by kernel_rfl) rfl #[.slice A0 l0.length c0, .int .i64 1048576] rfl (by (try simp only [List.map_toArray, List.map_cons, List.map_nil]); first | done | rfl | (simp only [List.length_drop, List.length_take]; rfl)) ?_; (with_reducible refine (laws_szOpS.calls _ _ l0 1048576 t101 _ ?side1 ?side2 A2.out).mono ?_); (case side1 => repeat (first | exact HR0.out | (with_reducible refine Kd.C_alloc ?_ _) | (with_reducible refine Kd.C_drewN ?_ _) | (with_reducible refine Kd.C_drew ?_))); (case side2 => exact HC0.out); rintro e w' ⟨rfl, ⟨nd, rfl⟩⟩; refine ⟨_, rfl, ?_⟩) | ((with_reducible refine gate_callee (f := 34) rfl ?_); refine goesL_ (some 17) rfl rfl Try.func34 (by kernel_rfl) rfl #[.slice A0 l0.length c0] rfl (by (try simp only [List.map_toArray, List.map_cons, List.map_nil]); first | done | rfl | (simp only [List.length_drop, List.length_take]; rfl)) ?_; (with_reducible refine (laws_toOpS_as.calls _ _ l0 t102 _ ?side1 ?side2 A4.out).mono ?_); (case side1 => repeat (first | exact HR0.out | (with_reducible refine Kd.C_alloc ?_ _) | (with_reducible refine Kd.C_drewN ?_ _) | (with_reducible refine Kd.C_drew ?_))); (case side2 => exact HC0.out); rintro e w10 ⟨v103, rfl, ho0, hb⟩; refine ⟨_, rfl, ?_⟩; have n0_ := Aside0.mk (Kd.R_lower ho0 (below_size (by repeat (first | (with_reducible first | exact HB.out | apply below_alloc | apply pw_below_drewN | apply below_drew1) | exact HB.out)))); have n1_ := Aside0.mk (below_step (by repeat (first | (with_reducible first | exact HB.out | apply below_alloc | apply pw_below_drewN | apply below_drew1) | exact HB.out)) hb); clear HB; have HO104 := n0_; have HB := n1_; clear n0_ n1_; (try clear hb); (try clear hb2); (try clear hk); (try clear hi); (try clear ho0); obtain ⟨Ao11, co11, eo11⟩ := Kd.R_slice HO104.out; subst eo11) | ((with_reducible refine gate_callee (f := 43) rfl ?_); refine goesL_ (some 18) rfl rfl Try.func43 (by kernel_rfl) rfl #[.slice Ao11 t102.length co11] rfl (by (try simp only [List.map_toArray, List.map_cons, List.map_nil]); first | done | rfl | (simp only [List.length_drop, List.length_take]; rfl)) ?_; (with_reducible refine (spec_CodeFull_as.calls _ _ t102 t105 _ ?side1 ?side2 A5.out).mono ?_); (case side1 => repeat (first | exact (Kd.R_reads' HO104.out).2.2 | (with_reducible refine Kd.C_alloc ?_ _) | (with_reducible refine Kd.C_drewN ?_ _) | (with_reducible refine Kd.C_drew ?_))); (case side2 => exact (Kd.R_reads' HO104.out).2.1); rintro e w12 ⟨v106, rfl, ho0, hb⟩; refine ⟨_, rfl, ?_⟩; have n0_ := Aside0.mk (Kd.R_below (by (with_reducible repeat (first | apply Kd.R_alloc | apply Kd.R_drewN | apply Kd.R_drew)); exact HO104.out) hb); have n1_ := Aside0.mk (Kd.R_lower ho0 (below_size (by repeat (first | (with_reducible first | exact HB.out | apply below_alloc | apply pw_below_drewN | apply below_drew1) | exact HB.out)))); have n2_ := Aside0.mk (below_step (by repeat (first | (with_reducible first | exact HB.out | apply below_alloc | apply pw_below_drewN | apply below_drew1) | exact HB.out)) hb); clear HO104; clear HB; have HO104 := n0_; have HO107 := n1_; have HB := n2_; clear n0_ n1_ n2_; (try clear hb); (try clear hb2); (try clear hk); (try clear hi); (try clear ho0)) | ((with_reducible refine gate_callee (f := 34) rfl ?_); refine goesL_ (some 20) rfl rfl Try.func34 (by kernel_rfl) rfl #[.slice A0 l0.length c0] rfl (by (try simp only [List.map_toArray, List.map_cons, List.map_nil]); first | done | rfl | (simp only [List.length_drop, List.length_take]; rfl)) ?_; (with_reducible refine (laws_toOpS_as.calls _ _ l0 t102 _ ?side1 ?side2 A4.out).mono ?_); (case side1 => repeat (first | exact (Kd.C_below HR0.out HB.out) | (with_reducible refine Kd.C_alloc ?_ _) | (with_reducible refine Kd.C_drewN ?_ _) | (with_reducible refine Kd.C_drew ?_))); (case side2 => exact HC0.out); rintro e w13 ⟨v108, rfl, ho0, hb⟩; refine ⟨_, rfl, ?_⟩; have n0_ := Aside0.mk (Kd.R_elder' (by (with_reducible repeat (first | apply Kd.R_alloc | apply Kd.R_drewN | apply Kd.R_drew)); exact HO104.out) (Kd.R_base ho0) hb); have n1_ := Aside0.mk (Kd.R_below (by (with_reducible repeat (first | apply Kd.R_alloc | apply Kd.R_drewN | apply Kd.R_drew)); exact HO107.out) hb); have n2_ := Aside0.mk (Kd.R_lower (Kd.R_new' ho0 (Kd.R_lt (by (with_reducible repeat (first | apply Kd.R_alloc | apply Kd.R_drewN | apply Kd.R_drew)); exact HO104.out))) (below_size (by repeat (first | (with_reducible first | exact HB.out | apply below_alloc | apply pw_below_drewN | apply below_drew1) | exact HB.out)))); have n3_ := Aside0.mk (below_step (by repeat (first | (with_reducible first | exact HB.out | apply below_alloc | apply pw_below_drewN | apply below_drew1) | exact HB.out)) hb); clear HO104; clear HO107; clear HB; have HO104 := n0_; have HO107 := n1_; have HO109 := n2_; have HB := n3_; clear n0_ n1_ n2_ n3_; (try clear hb); (try clear hb2); (try clear hk); (try clear hi); (try clear ho0); obtain ⟨Ao14, co14, eo14⟩ := Kd.R_slice HO109.out; subst eo14) | ((with_reducible refine gate_callee (f := 44) rfl ?_); refine goesL_ (some 22) rfl rfl Try.func44 (by kernel_rfl) rfl #[.slice Ao14 t102.length co14] rfl (by (try simp only [List.map_toArray, List.map_cons, List.map_nil]); first | done | rfl | (simp only [List.length_drop, List.length_take]; rfl)) ?_; (with_reducible refine (impl_CodeFull_as.calls _ _ t102 t105 _ ?side1 ?side2 A5.out).mono ?_); (case side1 => repeat (first | exact (Kd.R_reads' HO109.out).2.2 | (with_reducible refine Kd.C_alloc ?_ _) | (with_reducible refine Kd.C_drewN ?_ _) | (with_reducible refine Kd.C_drew ?_))); (case side2 => exact (Kd.R_reads' HO109.out).2.1); rintro e w15 ⟨v110, rfl, ho0, hb⟩; refine ⟨_, rfl, ?_⟩; have n0_ := Aside0.mk (Kd.R_below (by (with_reducible repeat (first | apply Kd.R_alloc | apply Kd.R_drewN | apply Kd.R_drew)); exact HO104.out) hb); have n1_ := Aside0.mk (Kd.R_elder' (by (with_reducible repeat (first | apply Kd.R_alloc | apply Kd.R_drewN | apply Kd.R_drew)); exact HO107.out) (Kd.R_base ho0) hb); have n2_ := Aside0.mk (Kd.R_below (by (with_reducible repeat (first | apply Kd.R_alloc | apply Kd.R_drewN | apply Kd.R_drew)); exact HO109.out) hb); have n3_ := Aside0.mk (Kd.R_lower (Kd.R_new' ho0 (Kd.R_lt (by (with_reducible repeat (first | apply Kd.R_alloc | apply Kd.R_drewN | apply Kd.R_drew)); exact HO107.out))) (below_size (by repeat (first | (with_reducible first | exact HB.out | apply below_alloc | apply pw_below_drewN | apply below_drew1) | exact HB.out)))); have n4_ := Aside0.mk (below_step (by repeat (first | (with_reducible first | exact HB.out | apply below_alloc | apply pw_below_drewN | apply below_drew1) | exact HB.out)) hb); clear HO104; clear HO107; clear HO109; clear HB; have HO104 := n0_; have HO107 := n1_; have HO109 := n2_; have HO111 := n3_; have HB := n4_; clear n0_ n1_ n2_ n3_ n4_; (try clear hb); (try clear hb2); (try clear hk); (try clear hi); (try clear ho0); obtain ⟨Ao16, co16, eo16⟩ := Kd.R_slice HO111.out; subst eo16; obtain ⟨Ao17, co17, eo17⟩ := Kd.R_slice HO107.out; subst eo17) | ((with_reducible refine gate_callee (f := 28) rfl ?_); refine goesL_ (some 25) rfl rfl Try.func28 (by kernel_rfl) rfl #[.slice Ao16 t105.length co16, .slice Ao17 t105.length co17] rfl (by (try simp only [List.map_toArray, List.map_cons, List.map_nil]); first | done | rfl | (simp only [List.length_drop, List.length_take]; rfl)) ?_; (with_reducible refine (laws_eqIntS_as.calls _ _ t105 _ _ t105 true _ ?side1 ?side2 ?side3 ?side4 A6.out).mono ?_); (case side1 => repeat (first | exact (Kd.R_reads' HO111.out).2.2 | (with_reducible refine Kd.C_alloc ?_ _) | (with_reducible refine Kd.C_drewN ?_ _) | (with_reducible refine Kd.C_drew ?_))); (case side2 => exact (Kd.R_reads' HO111.out).2.1); (case side3 => repeat (first | exact (Kd.R_reads' HO107.out).2.2 | (with_reducible refine Kd.C_alloc ?_ _) | (with_reducible refine Kd.C_drewN ?_ _) | (with_reducible refine Kd.C_drew ?_))); (case side4 => exact (Kd.R_reads' HO107.out).2.1); rintro e w' ⟨rfl, ⟨nd, rfl⟩⟩; refine ⟨_, rfl, ?_⟩) | ((with_reducible refine gate_callee (f := 34) rfl ?_); refine goesL_ (some 29) rfl rfl Try.func34 (by kernel_rfl) rfl #[.slice A0 l0.length c0] rfl (by (try simp only [List.map_toArray, List.map_cons, List.map_nil]); first | done | rfl | (simp only [List.length_drop, List.length_take]; rfl)) ?_; (with_reducible refine (laws_toOpS_as.calls _ _ l0 t102 _ ?side1 ?side2 A4.out).mono ?_); (case side1 => repeat (first | exact (Kd.C_below HR0.out (by repeat (first | (with_reducible first | exact HB.out | apply below_alloc | apply pw_below_drewN | apply below_drew1) | exact HB.out))) | (with_reducible refine Kd.C_alloc ?_ _) | (with_reducible refine Kd.C_drewN ?_ _) | (with_reducible refine Kd.C_drew ?_))); (case side2 => exact HC0.out); rintro e w18 ⟨v112, rfl, ho0, hb⟩; refine ⟨_, rfl, ?_⟩; have n0_ := Aside0.mk (Kd.R_elder' (by (with_reducible repeat (first | apply Kd.R_alloc | apply Kd.R_drewN | apply Kd.R_drew)); exact HO104.out) (Kd.R_base ho0) hb); have n1_ := Aside0.mk (Kd.R_below (by (with_reducible repeat (first | apply Kd.R_alloc | apply Kd.R_drewN | apply Kd.R_drew)); exact HO107.out) hb); have n2_ := Aside0.mk (Kd.R_elder' (by (with_reducible repeat (first | apply Kd.R_alloc | apply Kd.R_drewN | apply Kd.R_drew)); exact HO109.out) (Kd.R_base ho0) hb); have n3_ := Aside0.mk (Kd.R_below (by (with_reducible repeat (first | apply Kd.R_alloc | apply Kd.R_drewN | apply Kd.R_drew)); exact HO111.out) hb); have n4_ := Aside0.mk (Kd.R_lower (Kd.R_new' (Kd.R_new' ho0 (Kd.R_lt (by (with_reducible repeat (first | apply Kd.R_alloc | apply Kd.R_drewN | apply Kd.R_drew)); exact HO104.out))) (Kd.R_lt (by (with_reducible repeat (first | apply Kd.R_alloc | apply Kd.R_drewN | apply Kd.R_drew)); exact HO109.out))) (below_size (by repeat (first | (with_reducible first | exact HB.out | apply below_alloc | apply pw_below_drewN | apply below_drew1) | exact HB.out)))); have n5_ := Aside0.mk (below_step (by repeat (first | (with_reducible first | exact HB.out | apply below_alloc | apply pw_below_drewN | apply below_drew1) | exact HB.out)) hb); clear HO104; clear HO107; clear HO109; clear HO111; clear HB; have HO104 := n0_; have HO107 := n1_; have HO109 := n2_; have HO111 := n3_; have HO113 := n4_; have HB := n5_; clear n0_ n1_ n2_ n3_ n4_ n5_; (try clear hb); (try clear hb2); (try clear hk); (try clear hi); (try clear ho0); obtain ⟨Ao19, co19, eo19⟩ := Kd.R_slice HO113.out; subst eo19) | ((with_reducible refine gate_callee (f := 36) rfl ?_); refine goesL_ (some 30) rfl rfl Try.func36 (by kernel_rfl) rfl #[.slice Ao14 t102.length co14, .slice Ao19 t102.length co19] rfl (by (try simp only [List.map_toArray, List.map_cons, List.map_nil]); first | done | rfl | (simp only [List.length_drop, List.length_take]; rfl)) ?_; (with_reducible refine (laws_eqOpS_as.calls _ _ t102 _ _ t102 true _ ?side1 ?side2 ?side3 ?side4 A7.out).mono ?_); (case side1 => repeat (first | exact (Kd.R_reads' HO109.out).2.2 | (with_reducible refine Kd.C_alloc ?_ _) | (with_reducible refine Kd.C_drewN ?_ _) | (with_reducible refine Kd.C_drew ?_))); (case side2 => exact (Kd.R_reads' HO109.out).2.1); (case side3 => repeat (first | exact (Kd.R_reads' HO113.out).2.2 | (with_reducible refine Kd.C_alloc ?_ _) | (with_reducible refine Kd.C_drewN ?_ _) | (with_reducible refine Kd.C_drew ?_))); (case side4 => exact (Kd.R_reads' HO113.out).2.1); rintro e w20 ⟨rfl, hb⟩; refine ⟨_, rfl, ?_⟩; have n0_ := Aside0.mk (Kd.R_below (by (with_reducible repeat (first | apply Kd.R_alloc | apply Kd.R_drewN | apply Kd.R_drew)); exact HO104.out) hb); have n1_ := Aside0.mk (Kd.R_below (by (with_reducible repeat (first | apply Kd.R_alloc | apply Kd.R_drewN | apply Kd.R_drew)); exact HO107.out) hb); have n2_ := Aside0.mk (Kd.R_below (by (with_reducible repeat (first | apply Kd.R_alloc | apply Kd.R_drewN | apply Kd.R_drew)); exact HO109.out) hb); have n3_ := Aside0.mk (Kd.R_below (by (with_reducible repeat (first | apply Kd.R_alloc | apply Kd.R_drewN | apply Kd.R_drew)); exact HO111.out) hb); have n4_ := Aside0.mk (Kd.R_below (by (with_reducible repeat (first | apply Kd.R_alloc | apply Kd.R_drewN | apply Kd.R_drew)); exact HO113.out) hb); have n5_ := Aside0.mk (below_step (by repeat (first | (with_reducible first | exact HB.out | apply below_alloc | apply pw_below_drewN | apply below_drew1) | exact HB.out)) hb); clear HO104; clear HO107; clear HO109; clear HO111; clear HO113; clear HB; have HO104 := n0_; have HO107 := n1_; have HO109 := n2_; have HO111 := n3_; have HO113 := n4_; have HB := n5_; clear n0_ n1_ n2_ n3_ n4_ n5_; (try clear hb); (try clear hb2); (try clear hk); (try clear hi)) | ((with_reducible refine gate_callee (f := 40) rfl ?_); refine goesL_ (some 34) rfl rfl Try.func40 (by kernel_rfl) rfl #[.slice Ao14 t102.length co14, .int .i64 1] rfl (by (try simp only [List.map_toArray, List.map_cons, List.map_nil]); first | done | rfl | (simp only [List.length_drop, List.length_take]; rfl)) ?_; (with_reducible refine (laws_markOpS.calls (fun k_ => some k_ = (.slice Ao14 t102.length co14 : Value).ownBlock) (.slice Ao14 t102.length co14) t102 1 t114 t115 w _ ?side1 ?side2 A8.out).mono ?_); (case side1 => repeat (first | (with_reducible first | exact HB.out | apply below_alloc | apply pw_below_drewN | apply below_drew1) | exact HB.out)); (case side2 => exact Kd.R_tight rfl HO109.out); rintro e w21 ⟨rfl, hy0, hb, hkp⟩; refine ⟨_, rfl, ?_⟩; have n0_ := Aside0.mk (Kd.R_mono (ok' := fun k_ => some k_ ≠ (.slice Ao14 t102.length co14 : Value).ownBlock ∧ some k_ ≠ (.slice Ao19 t102.length co19 : Value).ownBlock) (Kd.R_keptB (HO104.out) hkp (fun k_ hk_ hs_ => (hk_.1.2) hs_)) (fun k_ hk_ => ⟨hk_.1.1.2, hk_.1.2⟩)); have n1_ := Aside0.mk (Kd.R_mono (ok' := fun k_ => some k_ ≠ (.slice Ao16 t105.length co16 : Value).ownBlock) (Kd.R_keptB ((Kd.R_apart' HO107.out (Kd.R_typed HO109.out) (by decide))) hkp (fun k_ hk_ hs_ => (hk_.2) hs_)) (fun k_ hk_ => hk_.1.1.2)); have n2_ := Aside0.mk (Kd.R_reok rfl hy0 (fun k_ e_ => HO109.out.1 k_ e_)); have n3_ := Aside0.mk (Kd.R_mono (ok' := fun k_ => some k_ ≠ (.slice Ao17 t105.length co17 : Value).ownBlock) (Kd.R_keptB ((Kd.R_apart' HO111.out (Kd.R_typed HO109.out) (by decide))) hkp (fun k_ hk_ hs_ => (hk_.2) hs_)) (fun k_ hk_ => hk_.1.1.2)); have n4_ := Aside0.mk (Kd.R_mono (ok' := fun k_ => some k_ ≠ (.slice Ao11 t102.length co11 : Value).ownBlock ∧ some k_ ≠ (.slice Ao14 t102.length co14 : Value).ownBlock) (Kd.R_keptB (HO113.out) hkp (fun k_ hk_ hs_ => (hk_.2) hs_)) (fun k_ hk_ => ⟨hk_.1.1.2, hk_.1.2⟩)); have n5_ := Aside0.mk (hb); clear HO104; clear HO107; clear HO109; clear HO111; clear HO113; clear HB; have HO104 := n0_; have HO107 := n1_; have HO109 := n2_; have HO111 := n3_; have HO113 := n4_; have HB := n5_; clear n0_ n1_ n2_ n3_ n4_ n5_; (try clear hb); (try clear hkp); (try clear hy0)))
    (try simp only [Act.put, List.setIfInBounds_toArray, List.set_cons_zero, List.set_cons_succ])
    go_cut [42] (fun v42 wc => ∃ (kq : Nat) (x42_8 : Bool), v42 = .bool x42_8 ∧ Aside0 (laws_FnExactCodeFull.j0 kq l0 t105 t105 x42_8 = some r) ∧ Aside0 (kq ≤ k) ∧ Aside0 (Kd.R (Kd.int .i64) 3 wc w.heap.size (fun k_ => some k_ ≠ ((.slice Ao16 t105.length co16) : Value).ownBlock) (.slice Ao17 t105.length co17) t105) ∧ Aside0 (Kd.R (Kd.int .i64) 3 wc w.heap.size (fun k_ => some k_ ≠ ((.slice Ao17 t105.length co17) : Value).ownBlock) (.slice Ao16 t105.length co16) t105) ∧ Aside0 (Below w.heap.size w wc))
    case first =>
      have H := HC9.out
      clear HC9
      by_cases c22 : t114 < 0
      · rw [if_pos c22] at H
        have c22b0 : decide (t114 < 0) = true := decide_eq_true c22
        clear c22
        (first | rw [c22b0] | (simp only [i64_w, i32_w]; rw [c22b0]) | skip)
        have H' := Aside0.mk H
        clear H
        go_wp2
        go_meet
        case rel => exact ⟨_, (true), (by first | rfl | (simp; done) | (simp [*]; done)), H', ⟨by first | omega | exact Nat.le_refl _⟩, ⟨by (with_reducible repeat (first | apply Kd.R_alloc | apply Kd.R_drewN | apply Kd.R_drew)); exact HO107.out⟩, ⟨by (with_reducible repeat (first | apply Kd.R_alloc | apply Kd.R_drewN | apply Kd.R_drew)); exact HO111.out⟩, ⟨by repeat (first | (with_reducible first | exact HB.out | apply below_alloc | apply pw_below_drewN | apply below_drew1) | exact HB.out)⟩⟩
      · rw [if_neg c22] at H
        have c22b0 : decide (t114 < 0) = false := decide_eq_false c22
        clear c22
        (first | rw [c22b0] | (simp only [i64_w, i32_w]; rw [c22b0]) | skip)
        have A23 := Aside0.mk (eqInts_same t105 : eqIntsV.f t105 t105 = some true)
        have H' := Aside0.mk H
        clear H
        go_wp2_with (first | (go_at_call 28; (with_reducible refine (laws_eqIntS_as.calls _ _ t105 _ _ t105 true _ ?side1 ?side2 ?side3 ?side4 A23.out).mono ?_); (case side1 => repeat (first | exact (Kd.R_reads' HO111.out).2.2 | (with_reducible refine Kd.C_alloc ?_ _) | (with_reducible refine Kd.C_drewN ?_ _) | (with_reducible refine Kd.C_drew ?_))); (case side2 => exact (Kd.R_reads' HO111.out).2.1); (case side3 => repeat (first | exact (Kd.R_reads' HO107.out).2.2 | (with_reducible refine Kd.C_alloc ?_ _) | (with_reducible refine Kd.C_drewN ?_ _) | (with_reducible refine Kd.C_drew ?_))); (case side4 => exact (Kd.R_reads' HO107.out).2.1); rintro e w' ⟨rfl, ⟨nd, rfl⟩⟩))
        go_meet
        case rel => exact ⟨_, (!true), (by first | rfl | (simp; done) | (simp [*]; done)), H', ⟨by first | omega | exact Nat.le_refl _⟩, ⟨by (with_reducible repeat (first | apply Kd.R_alloc | apply Kd.R_drewN | apply Kd.R_drew)); exact HO107.out⟩, ⟨by (with_reducible repeat (first | apply Kd.R_alloc | apply Kd.R_drewN | apply Kd.R_drew)); exact HO111.out⟩, ⟨by repeat (first | (with_reducible first | exact HB.out | apply below_alloc | apply pw_below_drewN | apply below_drew1) | exact HB.out)⟩⟩
    case rest =>
      clear HC9
      try clear c1
      try clear c2
      try clear p2
      try clear c3
      try clear c3b0
      try clear c4
      try clear c10
      try clear c22
      try clear c22b0
      obtain ⟨kq, x42_8, rfl, HA, HJ8, HO_4, HO_6, HB⟩ := hcut
      cases kq with
      | zero => exact absurd HA.out (by simp [laws_FnExactCodeFull.j0])
      | succ kj8 =>
        have H := HA.out
        clear HA
        simp only [laws_FnExactCodeFull.j0] at H
        by_cases c24 : x42_8 = true
        · subst c24
          have H1 : (some false) = some r := by rw [if_pos rfl] at H; exact H
          clear H
          have H := H1
          clear H1
          obtain rfl := Option.some.inj H
          go_wp2
          go_ret
          exact ⟨by first | rfl | (simp [errW_none, errW_some] <;> rfl) | (simp [*, errW_none, errW_some] <;> rfl), by repeat (first | (with_reducible first | exact HB.out | apply below_alloc | apply pw_below_drewN | apply below_drew1) | exact HB.out)⟩
        · replace c24 := Bool.eq_false_iff.mpr c24
          subst c24
          have H1 : ((markIntsV.f t105 1).bind fun bt116 => ((heldIntsV.f bt116.2 1).bind fun t118 => (if t118 < 0 then (some false) else (if t118 = bt116.1 then ((toOpsV.f l0).bind fun t119 => ((codeFullV.f t119).bind fun t122 => ((eqIntsV.f t122 t105).bind fun t125 => (if t125 = true then (some true) else (some false))))) else (some false))))) = some r := by rw [if_neg (show ¬ (false = true) by decide)] at H; exact H
          clear H
          have H := H1
          clear H1
          replace H := Option.bind_eq_some_iff.mp H
          obtain ⟨⟨t116, t117⟩, A250, H⟩ := H
          replace H : ((heldIntsV.f t117 1).bind fun t118 => (if t118 < 0 then (some false) else (if t118 = t116 then ((toOpsV.f l0).bind fun t119 => ((codeFullV.f t119).bind fun t122 => ((eqIntsV.f t122 t105).bind fun t125 => (if t125 = true then (some true) else (some false))))) else (some false)))) = some r := H
          have A25 := Aside0.mk A250
          clear A250
          replace H := Option.bind_eq_some_iff.mp H
          obtain ⟨t118, A260, H⟩ := H
          replace H : (if t118 < 0 then (some false) else (if t118 = t116 then ((toOpsV.f l0).bind fun t119 => ((codeFullV.f t119).bind fun t122 => ((eqIntsV.f t122 t105).bind fun t125 => (if t125 = true then (some true) else (some false))))) else (some false))) = some r := H
          have A26 := Aside0.mk A260
          clear A260
          by_cases c27 : t118 < 0
          · rw [if_pos c27] at H
            have c27b0 : decide (t118 < 0) = true := decide_eq_true c27
            clear c27
            obtain rfl := Option.some.inj H
            go_wp2_with (first | ((with_reducible refine gate_callee (f := 29) rfl ?_); refine goesL_ (some 45) rfl rfl Try.func29 (by kernel_rfl) rfl #[.slice Ao16 t105.length co16, .int .i64 1] rfl (by (try simp only [List.map_toArray, List.map_cons, List.map_nil]); first | done | rfl | (simp only [List.length_drop, List.length_take]; rfl)) ?_; (with_reducible refine (laws_markIntS_as.calls (fun k_ => some k_ = (.slice Ao16 t105.length co16 : Value).ownBlock) (.slice Ao16 t105.length co16) t105 1 t116 t117 w _ ?side1 ?side2 A25.out).mono ?_); (case side1 => repeat (first | (with_reducible first | exact HB.out | apply below_alloc | apply pw_below_drewN | apply below_drew1) | exact HB.out)); (case side2 => exact Kd.R_tight rfl HO_6.out); rintro e w28 ⟨rfl, hy0, hb, hkp⟩; refine ⟨_, rfl, ?_⟩; have n0_ := Aside0.mk (Kd.R_mono (ok' := fun k_ => some k_ ≠ (.slice Ao16 t105.length co16 : Value).ownBlock) (Kd.R_keptB (HO_4.out) hkp (fun k_ hk_ hs_ => (hk_) hs_)) (fun k_ hk_ => hk_.1)); have n1_ := Aside0.mk (Kd.R_reok rfl hy0 (fun k_ e_ => HO_6.out.1 k_ e_)); have n2_ := Aside0.mk (hb); clear HO_4; clear HO_6; clear HB; have HO_4 := n0_; have HO_6 := n1_; have HB := n2_; clear n0_ n1_ n2_; (try clear hb); (try clear hkp); (try clear hy0)) | ((with_reducible refine gate_callee (f := 30) rfl ?_); refine goesL_ (some 48) rfl rfl Try.func30 (by kernel_rfl) rfl #[.slice Ao16 t117.length co16, .int .i64 1] rfl (by (try simp only [List.map_toArray, List.map_cons, List.map_nil]); first | done | (rw [show t117.length = t105.length from (Kd.R_reads' HO_6.out).1.symm] <;> rfl) | rfl | (simp only [List.length_drop, List.length_take]; rfl)) ?_; (with_reducible refine (laws_heldIntS_as.calls _ _ t117 1 t118 _ ?side1 ?side2 A26.out).mono ?_); (case side1 => repeat (first | exact (Kd.R_reads' HO_6.out).2.2 | (with_reducible refine Kd.C_alloc ?_ _) | (with_reducible refine Kd.C_drewN ?_ _) | (with_reducible refine Kd.C_drew ?_))); (case side2 => rw [show t117.length = t105.length from (Kd.R_reads' HO_6.out).1.symm]; exact (Kd.R_reads' HO_6.out).2.1); rintro e w' ⟨rfl, ⟨nd, rfl⟩⟩; refine ⟨_, rfl, ?_⟩))
            go_ret
            exact ⟨by first | rfl | (simp [errW_none, errW_some] <;> rfl) | (simp [*, errW_none, errW_some] <;> rfl), by repeat (first | (with_reducible first | exact HB.out | apply below_alloc | apply pw_below_drewN | apply below_drew1) | exact HB.out)⟩
          · rw [if_neg c27] at H
            have c27b0 : decide (t118 < 0) = false := decide_eq_false c27
            clear c27
            by_cases c29 : t118 = t116
            · rw [if_pos c29] at H
              have c29b0 : (t118 == t116) = true := beq_iff_eq.mpr c29
              have c29b1 : (t118 != t116) = false := bne_eq_false_iff_eq.mpr c29
              clear c29
              replace H := Option.bind_eq_some_iff.mp H
              obtain ⟨t119, A300, H⟩ := H
              replace H : ((codeFullV.f t119).bind fun t122 => ((eqIntsV.f t122 t105).bind fun t125 => (if t125 = true then (some true) else (some false)))) = some r := H
              have A30 := Aside0.mk A300
              clear A300
              replace H := Option.bind_eq_some_iff.mp H
              obtain ⟨t122, A310, H⟩ := H
              replace H : ((eqIntsV.f t122 t105).bind fun t125 => (if t125 = true then (some true) else (some false))) = some r := H
              have A31 := Aside0.mk A310
              clear A310
              replace H := Option.bind_eq_some_iff.mp H
              obtain ⟨t125, A320, H⟩ := H
              replace H : (if t125 = true then (some true) else (some false)) = some r := H
              have A32 := Aside0.mk A320
              clear A320
              by_cases c33 : t125 = true
              · subst c33
                have H1 : (some true) = some r := by rw [if_pos rfl] at H; exact H
                clear H
                have H := H1
                clear H1
                obtain rfl := Option.some.inj H
                go_wp2_with (first | ((with_reducible refine gate_callee (f := 29) rfl ?_); refine goesL_ (some 45) rfl rfl Try.func29 (by kernel_rfl) rfl #[.slice Ao16 t105.length co16, .int .i64 1] rfl (by (try simp only [List.map_toArray, List.map_cons, List.map_nil]); first | done | rfl | (simp only [List.length_drop, List.length_take]; rfl)) ?_; (with_reducible refine (laws_markIntS_as.calls (fun k_ => some k_ = (.slice Ao16 t105.length co16 : Value).ownBlock) (.slice Ao16 t105.length co16) t105 1 t116 t117 w _ ?side1 ?side2 A25.out).mono ?_); (case side1 => repeat (first | (with_reducible first | exact HB.out | apply below_alloc | apply pw_below_drewN | apply below_drew1) | exact HB.out)); (case side2 => exact Kd.R_tight rfl HO_6.out); rintro e w34 ⟨rfl, hy0, hb, hkp⟩; refine ⟨_, rfl, ?_⟩; have n0_ := Aside0.mk (Kd.R_mono (ok' := fun k_ => some k_ ≠ (.slice Ao16 t105.length co16 : Value).ownBlock) (Kd.R_keptB (HO_4.out) hkp (fun k_ hk_ hs_ => (hk_) hs_)) (fun k_ hk_ => hk_.1)); have n1_ := Aside0.mk (Kd.R_reok rfl hy0 (fun k_ e_ => HO_6.out.1 k_ e_)); have n2_ := Aside0.mk (hb); clear HO_4; clear HO_6; clear HB; have HO_4 := n0_; have HO_6 := n1_; have HB := n2_; clear n0_ n1_ n2_; (try clear hb); (try clear hkp); (try clear hy0)) | ((with_reducible refine gate_callee (f := 30) rfl ?_); refine goesL_ (some 48) rfl rfl Try.func30 (by kernel_rfl) rfl #[.slice Ao16 t117.length co16, .int .i64 1] rfl (by (try simp only [List.map_toArray, List.map_cons, List.map_nil]); first | done | (rw [show t117.length = t105.length from (Kd.R_reads' HO_6.out).1.symm] <;> rfl) | rfl | (simp only [List.length_drop, List.length_take]; rfl)) ?_; (with_reducible refine (laws_heldIntS_as.calls _ _ t117 1 t118 _ ?side1 ?side2 A26.out).mono ?_); (case side1 => repeat (first | exact (Kd.R_reads' HO_6.out).2.2 | (with_reducible refine Kd.C_alloc ?_ _) | (with_reducible refine Kd.C_drewN ?_ _) | (with_reducible refine Kd.C_drew ?_))); (case side2 => rw [show t117.length = t105.length from (Kd.R_reads' HO_6.out).1.symm]; exact (Kd.R_reads' HO_6.out).2.1); rintro e w' ⟨rfl, ⟨nd, rfl⟩⟩; refine ⟨_, rfl, ?_⟩) | ((with_reducible refine gate_callee (f := 34) rfl ?_); refine goesL_ (some 55) rfl rfl Try.func34 (by kernel_rfl) rfl #[.slice A0 l0.length c0] rfl (by (try simp only [List.map_toArray, List.map_cons, List.map_nil]); first | done | rfl | (simp only [List.length_drop, List.length_take]; rfl)) ?_; (with_reducible refine (laws_toOpS_as.calls _ _ l0 t119 _ ?side1 ?side2 A30.out).mono ?_); (case side1 => repeat (first | exact (Kd.C_below HR0.out (by repeat (first | (with_reducible first | exact HB.out | apply below_alloc | apply pw_below_drewN | apply below_drew1) | exact HB.out))) | (with_reducible refine Kd.C_alloc ?_ _) | (with_reducible refine Kd.C_drewN ?_ _) | (with_reducible refine Kd.C_drew ?_))); (case side2 => exact HC0.out); rintro e w35 ⟨v120, rfl, ho0, hb⟩; refine ⟨_, rfl, ?_⟩; have n0_ := Aside0.mk (Kd.R_below (by (with_reducible repeat (first | apply Kd.R_alloc | apply Kd.R_drewN | apply Kd.R_drew)); exact HO_4.out) hb); have n1_ := Aside0.mk (Kd.R_below (by (with_reducible repeat (first | apply Kd.R_alloc | apply Kd.R_drewN | apply Kd.R_drew)); exact HO_6.out) hb); have n2_ := Aside0.mk (Kd.R_lower ho0 (below_size (by repeat (first | (with_reducible first | exact HB.out | apply below_alloc | apply pw_below_drewN | apply below_drew1) | exact HB.out)))); have n3_ := Aside0.mk (below_step (by repeat (first | (with_reducible first | exact HB.out | apply below_alloc | apply pw_below_drewN | apply below_drew1) | exact HB.out)) hb); clear HO_4; clear HO_6; clear HB; have HO_4 := n0_; have HO_6 := n1_; have HO121 := n2_; have HB := n3_; clear n0_ n1_ n2_ n3_; (try clear hb); (try clear hb2); (try clear hk); (try clear hi); (try clear ho0); obtain ⟨Ao36, co36, eo36⟩ := Kd.R_slice HO121.out; subst eo36) | ((with_reducible refine gate_callee (f := 44) rfl ?_); refine goesL_ (some 56) rfl rfl Try.func44 (by kernel_rfl) rfl #[.slice Ao36 t119.length co36] rfl (by (try simp only [List.map_toArray, List.map_cons, List.map_nil]); first | done | rfl | (simp only [List.length_drop, List.length_take]; rfl)) ?_; (with_reducible refine (impl_CodeFull_as.calls _ _ t119 t122 _ ?side1 ?side2 A31.out).mono ?_); (case side1 => repeat (first | exact (Kd.R_reads' HO121.out).2.2 | (with_reducible refine Kd.C_alloc ?_ _) | (with_reducible refine Kd.C_drewN ?_ _) | (with_reducible refine Kd.C_drew ?_))); (case side2 => exact (Kd.R_reads' HO121.out).2.1); rintro e w37 ⟨v123, rfl, ho0, hb⟩; refine ⟨_, rfl, ?_⟩; have n0_ := Aside0.mk (Kd.R_elder' (by (with_reducible repeat (first | apply Kd.R_alloc | apply Kd.R_drewN | apply Kd.R_drew)); exact HO_4.out) (Kd.R_base ho0) hb); have n1_ := Aside0.mk (Kd.R_elder' (by (with_reducible repeat (first | apply Kd.R_alloc | apply Kd.R_drewN | apply Kd.R_drew)); exact HO_6.out) (Kd.R_base ho0) hb); have n2_ := Aside0.mk (Kd.R_below (by (with_reducible repeat (first | apply Kd.R_alloc | apply Kd.R_drewN | apply Kd.R_drew)); exact HO121.out) hb); have n3_ := Aside0.mk (Kd.R_lower (Kd.R_new' (Kd.R_new' ho0 (Kd.R_lt (by (with_reducible repeat (first | apply Kd.R_alloc | apply Kd.R_drewN | apply Kd.R_drew)); exact HO_4.out))) (Kd.R_lt (by (with_reducible repeat (first | apply Kd.R_alloc | apply Kd.R_drewN | apply Kd.R_drew)); exact HO_6.out))) (below_size (by repeat (first | (with_reducible first | exact HB.out | apply below_alloc | apply pw_below_drewN | apply below_drew1) | exact HB.out)))); have n4_ := Aside0.mk (below_step (by repeat (first | (with_reducible first | exact HB.out | apply below_alloc | apply pw_below_drewN | apply below_drew1) | exact HB.out)) hb); clear HO_4; clear HO_6; clear HO121; clear HB; have HO_4 := n0_; have HO_6 := n1_; have HO121 := n2_; have HO124 := n3_; have HB := n4_; clear n0_ n1_ n2_ n3_ n4_; (try clear hb); (try clear hb2); (try clear hk); (try clear hi); (try clear ho0); obtain ⟨Ao38, co38, eo38⟩ := Kd.R_slice HO124.out; subst eo38) | ((with_reducible refine gate_callee (f := 28) rfl ?_); refine goesL_ (some 59) rfl rfl Try.func28 (by kernel_rfl) rfl #[.slice Ao38 t122.length co38, .slice Ao17 t105.length co17] rfl (by (try simp only [List.map_toArray, List.map_cons, List.map_nil]); first | done | rfl | (simp only [List.length_drop, List.length_take]; rfl)) ?_; (with_reducible refine (laws_eqIntS_as.calls _ _ t122 _ _ t105 true _ ?side1 ?side2 ?side3 ?side4 A32.out).mono ?_); (case side1 => repeat (first | exact (Kd.R_reads' HO124.out).2.2 | (with_reducible refine Kd.C_alloc ?_ _) | (with_reducible refine Kd.C_drewN ?_ _) | (with_reducible refine Kd.C_drew ?_))); (case side2 => exact (Kd.R_reads' HO124.out).2.1); (case side3 => repeat (first | exact (Kd.R_reads' HO_4.out).2.2 | (with_reducible refine Kd.C_alloc ?_ _) | (with_reducible refine Kd.C_drewN ?_ _) | (with_reducible refine Kd.C_drew ?_))); (case side4 => exact (Kd.R_reads' HO_4.out).2.1); rintro e w' ⟨rfl, ⟨nd, rfl⟩⟩; refine ⟨_, rfl, ?_⟩) | ((with_reducible refine gate_callee (f := 30) rfl ?_); refine goesL_ (some 63) rfl rfl Try.func30 (by kernel_rfl) rfl #[.slice Ao16 t117.length co16, .int .i64 1] rfl (by (try simp only [List.map_toArray, List.map_cons, List.map_nil]); first | done | (rw [show t117.length = t105.length from (Kd.R_reads' HO_6.out).1.symm] <;> rfl) | rfl | (simp only [List.length_drop, List.length_take]; rfl)) ?_; (with_reducible refine (laws_heldIntS_as.calls _ _ t117 1 t118 _ ?side1 ?side2 A26.out).mono ?_); (case side1 => repeat (first | exact (Kd.R_reads' HO_6.out).2.2 | (with_reducible refine Kd.C_alloc ?_ _) | (with_reducible refine Kd.C_drewN ?_ _) | (with_reducible refine Kd.C_drew ?_))); (case side2 => rw [show t117.length = t105.length from (Kd.R_reads' HO_6.out).1.symm]; exact (Kd.R_reads' HO_6.out).2.1); rintro e w' ⟨rfl, ⟨nd, rfl⟩⟩; refine ⟨_, rfl, ?_⟩))
                go_ret
                exact ⟨by first | rfl | (simp [errW_none, errW_some] <;> rfl) | (simp [*, errW_none, errW_some] <;> rfl), by repeat (first | (with_reducible first | exact HB.out | apply below_alloc | apply pw_below_drewN | apply below_drew1) | exact HB.out)⟩
              · replace c33 := Bool.eq_false_iff.mpr c33
                subst c33
                have H1 : (some false) = some r := by rw [if_neg (show ¬ (false = true) by decide)] at H; exact H
                clear H
                have H := H1
                clear H1
                obtain rfl := Option.some.inj H
                go_wp2_with (first | ((with_reducible refine gate_callee (f := 29) rfl ?_); refine goesL_ (some 45) rfl rfl Try.func29 (by kernel_rfl) rfl #[.slice Ao16 t105.length co16, .int .i64 1] rfl (by (try simp only [List.map_toArray, List.map_cons, List.map_nil]); first | done | rfl | (simp only [List.length_drop, List.length_take]; rfl)) ?_; (with_reducible refine (laws_markIntS_as.calls (fun k_ => some k_ = (.slice Ao16 t105.length co16 : Value).ownBlock) (.slice Ao16 t105.length co16) t105 1 t116 t117 w _ ?side1 ?side2 A25.out).mono ?_); (case side1 => repeat (first | (with_reducible first | exact HB.out | apply below_alloc | apply pw_below_drewN | apply below_drew1) | exact HB.out)); (case side2 => exact Kd.R_tight rfl HO_6.out); rintro e w39 ⟨rfl, hy0, hb, hkp⟩; refine ⟨_, rfl, ?_⟩; have n0_ := Aside0.mk (Kd.R_mono (ok' := fun k_ => some k_ ≠ (.slice Ao16 t105.length co16 : Value).ownBlock) (Kd.R_keptB (HO_4.out) hkp (fun k_ hk_ hs_ => (hk_) hs_)) (fun k_ hk_ => hk_.1)); have n1_ := Aside0.mk (Kd.R_reok rfl hy0 (fun k_ e_ => HO_6.out.1 k_ e_)); have n2_ := Aside0.mk (hb); clear HO_4; clear HO_6; clear HB; have HO_4 := n0_; have HO_6 := n1_; have HB := n2_; clear n0_ n1_ n2_; (try clear hb); (try clear hkp); (try clear hy0)) | ((with_reducible refine gate_callee (f := 30) rfl ?_); refine goesL_ (some 48) rfl rfl Try.func30 (by kernel_rfl) rfl #[.slice Ao16 t117.length co16, .int .i64 1] rfl (by (try simp only [List.map_toArray, List.map_cons, List.map_nil]); first | done | (rw [show t117.length = t105.length from (Kd.R_reads' HO_6.out).1.symm] <;> rfl) | rfl | (simp only [List.length_drop, List.length_take]; rfl)) ?_; (with_reducible refine (laws_heldIntS_as.calls _ _ t117 1 t118 _ ?side1 ?side2 A26.out).mono ?_); (case side1 => repeat (first | exact (Kd.R_reads' HO_6.out).2.2 | (with_reducible refine Kd.C_alloc ?_ _) | (with_reducible refine Kd.C_drewN ?_ _) | (with_reducible refine Kd.C_drew ?_))); (case side2 => rw [show t117.length = t105.length from (Kd.R_reads' HO_6.out).1.symm]; exact (Kd.R_reads' HO_6.out).2.1); rintro e w' ⟨rfl, ⟨nd, rfl⟩⟩; refine ⟨_, rfl, ?_⟩) | ((with_reducible refine gate_callee (f := 34) rfl ?_); refine goesL_ (some 55) rfl rfl Try.func34 (by kernel_rfl) rfl #[.slice A0 l0.length c0] rfl (by (try simp only [List.map_toArray, List.map_cons, List.map_nil]); first | done | rfl | (simp only [List.length_drop, List.length_take]; rfl)) ?_; (with_reducible refine (laws_toOpS_as.calls _ _ l0 t119 _ ?side1 ?side2 A30.out).mono ?_); (case side1 => repeat (first | exact (Kd.C_below HR0.out (by repeat (first | (with_reducible first | exact HB.out | apply below_alloc | apply pw_below_drewN | apply below_drew1) | exact HB.out))) | (with_reducible refine Kd.C_alloc ?_ _) | (with_reducible refine Kd.C_drewN ?_ _) | (with_reducible refine Kd.C_drew ?_))); (case side2 => exact HC0.out); rintro e w40 ⟨v120, rfl, ho0, hb⟩; refine ⟨_, rfl, ?_⟩; have n0_ := Aside0.mk (Kd.R_below (by (with_reducible repeat (first | apply Kd.R_alloc | apply Kd.R_drewN | apply Kd.R_drew)); exact HO_4.out) hb); have n1_ := Aside0.mk (Kd.R_below (by (with_reducible repeat (first | apply Kd.R_alloc | apply Kd.R_drewN | apply Kd.R_drew)); exact HO_6.out) hb); have n2_ := Aside0.mk (Kd.R_lower ho0 (below_size (by repeat (first | (with_reducible first | exact HB.out | apply below_alloc | apply pw_below_drewN | apply below_drew1) | exact HB.out)))); have n3_ := Aside0.mk (below_step (by repeat (first | (with_reducible first | exact HB.out | apply below_alloc | apply pw_below_drewN | apply below_drew1) | exact HB.out)) hb); clear HO_4; clear HO_6; clear HB; have HO_4 := n0_; have HO_6 := n1_; have HO121 := n2_; have HB := n3_; clear n0_ n1_ n2_ n3_; (try clear hb); (try clear hb2); (try clear hk); (try clear hi); (try clear ho0); obtain ⟨Ao41, co41, eo41⟩ := Kd.R_slice HO121.out; subst eo41) | ((with_reducible refine gate_callee (f := 44) rfl ?_); refine goesL_ (some 56) rfl rfl Try.func44 (by kernel_rfl) rfl #[.slice Ao41 t119.length co41] rfl (by (try simp only [List.map_toArray, List.map_cons, List.map_nil]); first | done | rfl | (simp only [List.length_drop, List.length_take]; rfl)) ?_; (with_reducible refine (impl_CodeFull_as.calls _ _ t119 t122 _ ?side1 ?side2 A31.out).mono ?_); (case side1 => repeat (first | exact (Kd.R_reads' HO121.out).2.2 | (with_reducible refine Kd.C_alloc ?_ _) | (with_reducible refine Kd.C_drewN ?_ _) | (with_reducible refine Kd.C_drew ?_))); (case side2 => exact (Kd.R_reads' HO121.out).2.1); rintro e w42 ⟨v123, rfl, ho0, hb⟩; refine ⟨_, rfl, ?_⟩; have n0_ := Aside0.mk (Kd.R_elder' (by (with_reducible repeat (first | apply Kd.R_alloc | apply Kd.R_drewN | apply Kd.R_drew)); exact HO_4.out) (Kd.R_base ho0) hb); have n1_ := Aside0.mk (Kd.R_elder' (by (with_reducible repeat (first | apply Kd.R_alloc | apply Kd.R_drewN | apply Kd.R_drew)); exact HO_6.out) (Kd.R_base ho0) hb); have n2_ := Aside0.mk (Kd.R_below (by (with_reducible repeat (first | apply Kd.R_alloc | apply Kd.R_drewN | apply Kd.R_drew)); exact HO121.out) hb); have n3_ := Aside0.mk (Kd.R_lower (Kd.R_new' (Kd.R_new' ho0 (Kd.R_lt (by (with_reducible repeat (first | apply Kd.R_alloc | apply Kd.R_drewN | apply Kd.R_drew)); exact HO_4.out))) (Kd.R_lt (by (with_reducible repeat (first | apply Kd.R_alloc | apply Kd.R_drewN | apply Kd.R_drew)); exact HO_6.out))) (below_size (by repeat (first | (with_reducible first | exact HB.out | apply below_alloc | apply pw_below_drewN | apply below_drew1) | exact HB.out)))); have n4_ := Aside0.mk (below_step (by repeat (first | (with_reducible first | exact HB.out | apply below_alloc | apply pw_below_drewN | apply below_drew1) | exact HB.out)) hb); clear HO_4; clear HO_6; clear HO121; clear HB; have HO_4 := n0_; have HO_6 := n1_; have HO121 := n2_; have HO124 := n3_; have HB := n4_; clear n0_ n1_ n2_ n3_ n4_; (try clear hb); (try clear hb2); (try clear hk); (try clear hi); (try clear ho0); obtain ⟨Ao43, co43, eo43⟩ := Kd.R_slice HO124.out; subst eo43) | ((with_reducible refine gate_callee (f := 28) rfl ?_); refine goesL_ (some 59) rfl rfl Try.func28 (by kernel_rfl) rfl #[.slice Ao43 t122.length co43, .slice Ao17 t105.length co17] rfl (by (try simp only [List.map_toArray, List.map_cons, List.map_nil]); first | done | rfl | (simp only [List.length_drop, List.length_take]; rfl)) ?_; (with_reducible refine (laws_eqIntS_as.calls _ _ t122 _ _ t105 false _ ?side1 ?side2 ?side3 ?side4 A32.out).mono ?_); (case side1 => repeat (first | exact (Kd.R_reads' HO124.out).2.2 | (with_reducible refine Kd.C_alloc ?_ _) | (with_reducible refine Kd.C_drewN ?_ _) | (with_reducible refine Kd.C_drew ?_))); (case side2 => exact (Kd.R_reads' HO124.out).2.1); (case side3 => repeat (first | exact (Kd.R_reads' HO_4.out).2.2 | (with_reducible refine Kd.C_alloc ?_ _) | (with_reducible refine Kd.C_drewN ?_ _) | (with_reducible refine Kd.C_drew ?_))); (case side4 => exact (Kd.R_reads' HO_4.out).2.1); rintro e w' ⟨rfl, ⟨nd, rfl⟩⟩; refine ⟨_, rfl, ?_⟩))
                go_ret
                exact ⟨by first | rfl | (simp [errW_none, errW_some] <;> rfl) | (simp [*, errW_none, errW_some] <;> rfl), by repeat (first | (with_reducible first | exact HB.out | apply below_alloc | apply pw_below_drewN | apply below_drew1) | exact HB.out)⟩
            · rw [if_neg c29] at H
              have c29b0 : (t118 == t116) = false := beq_eq_false_iff_ne.mpr c29
              have c29b1 : (t118 != t116) = true := bne_iff_ne.mpr c29
              obtain rfl := Option.some.inj H
              go_wp2_with (first | ((with_reducible refine gate_callee (f := 29) rfl ?_); refine goesL_ (some 45) rfl rfl Try.func29 (by kernel_rfl) rfl #[.slice Ao16 t105.length co16, .int .i64 1] rfl (by (try simp only [List.map_toArray, List.map_cons, List.map_nil]); first | done | rfl | (simp only [List.length_drop, List.length_take]; rfl)) ?_; (with_reducible refine (laws_markIntS_as.calls (fun k_ => some k_ = (.slice Ao16 t105.length co16 : Value).ownBlock) (.slice Ao16 t105.length co16) t105 1 t116 t117 w _ ?side1 ?side2 A25.out).mono ?_); (case side1 => repeat (first | (with_reducible first | exact HB.out | apply below_alloc | apply pw_below_drewN | apply below_drew1) | exact HB.out)); (case side2 => exact Kd.R_tight rfl HO_6.out); rintro e w44 ⟨rfl, hy0, hb, hkp⟩; refine ⟨_, rfl, ?_⟩; have n0_ := Aside0.mk (Kd.R_mono (ok' := fun k_ => some k_ ≠ (.slice Ao16 t105.length co16 : Value).ownBlock) (Kd.R_keptB (HO_4.out) hkp (fun k_ hk_ hs_ => (hk_) hs_)) (fun k_ hk_ => hk_.1)); have n1_ := Aside0.mk (Kd.R_reok rfl hy0 (fun k_ e_ => HO_6.out.1 k_ e_)); have n2_ := Aside0.mk (hb); clear HO_4; clear HO_6; clear HB; have HO_4 := n0_; have HO_6 := n1_; have HB := n2_; clear n0_ n1_ n2_; (try clear hb); (try clear hkp); (try clear hy0)) | ((with_reducible refine gate_callee (f := 30) rfl ?_); refine goesL_ (some 48) rfl rfl Try.func30 (by kernel_rfl) rfl #[.slice Ao16 t117.length co16, .int .i64 1] rfl (by (try simp only [List.map_toArray, List.map_cons, List.map_nil]); first | done | (rw [show t117.length = t105.length from (Kd.R_reads' HO_6.out).1.symm] <;> rfl) | rfl | (simp only [List.length_drop, List.length_take]; rfl)) ?_; (with_reducible refine (laws_heldIntS_as.calls _ _ t117 1 t118 _ ?side1 ?side2 A26.out).mono ?_); (case side1 => repeat (first | exact (Kd.R_reads' HO_6.out).2.2 | (with_reducible refine Kd.C_alloc ?_ _) | (with_reducible refine Kd.C_drewN ?_ _) | (with_reducible refine Kd.C_drew ?_))); (case side2 => rw [show t117.length = t105.length from (Kd.R_reads' HO_6.out).1.symm]; exact (Kd.R_reads' HO_6.out).2.1); rintro e w' ⟨rfl, ⟨nd, rfl⟩⟩; refine ⟨_, rfl, ?_⟩))
              go_ret
              exact ⟨by first | rfl | (simp [errW_none, errW_some] <;> rfl) | (simp [*, errW_none, errW_some] <;> rfl), by repeat (first | (with_reducible first | exact HB.out | apply below_alloc | apply pw_below_drewN | apply below_drew1) | exact HB.out)⟩
end Go.Proofs.Ytmklpbmlgjkbiaa.PF
end
section
namespace Go.Proofs.Ytmklpbmlgjkbiaa.Pure
open Go.RowKit Go.Proofs.Ytmklpbmlgjkbiaa.PF Go.Proofs.Ytmklpbmlgjkbiaa.PS Go.Proofs.YtmklpbmlgjkbiaaW.PrintWords Go.Proofs.YtmklpbmlgjkbiaaW.PrintLast
theorem markedOp_eq (n : Nat) : ∀ k : Int, 0 ≤ k → k + 6 * n ≤ 9223372036854775807 → markedOp n k = k + 6 * n := by
  induction n with
  | zero => intro k _ _; simp [markedOp]
  | succ n ih =>
    intro k h0 h1
    have e : next6 k = k + 6 := by
      unfold next6
      rw [w64 (x := k + 1) (by omega) (by omega), w64 (x := k + 1 + 1) (by omega) (by omega), w64 (x := k + 1 + 1 + 1) (by omega) (by omega), w64 (x := k + 1 + 1 + 1 + 1) (by omega) (by omega), w64 (x := k + 1 + 1 + 1 + 1 + 1) (by omega) (by omega), w64 (x := k + 1 + 1 + 1 + 1 + 1 + 1) (by omega) (by omega)]
      omega
    show markedOp n (next6 k) = _
    rw [e, ih _ (by omega) (by omega)]; omega
theorem out_len (l : List S29) (r : List Int) (h : codeFullV.f l = some r) : r.length ≤ 16 := by
  have h := Option.some.inj h
  subst h
  split
  · rename_i hc; rw [show (fullL l).length = l.length from (full_good (wayW_good hc)).1]; exact (code_len hc).2
  · simp
theorem FnExactCodeFull (l : List S25) (hm : l.length ≤ maxLen) : laws_FnExactCodeFull.f 1 l = some true := by
  unfold maxLen at hm
  unfold laws_FnExactCodeFull.f laws_szOpS.f
  rw [w64 (x := 1048576 - (l.length : Int)) (by omega) (by omega)]
  by_cases h : (1048576 - (l.length : Int)) < 0
  · rw [if_pos h]; rfl
  · rw [if_neg h]
    simp only [Option.bind_some]
    rw [if_neg h]
    have ht : toOpsV.f l = some (l.map toS) := by unfold toOpsV.f; rw [if_pos (by omega)]
    rw [ht]
    simp only [Option.bind_some]
    obtain ⟨r, hr⟩ : ∃ r, codeFullV.f (l.map toS) = some r := ⟨_, rfl⟩
    have hl := out_len _ _ hr
    rw [hr]
    simp only [Option.bind_some, markV.f]
    rw [markedOp_eq _ _ (by omega) (by simp; omega), if_neg (by omega)]
    simp only [laws_FnExactCodeFull.j0, Bool.not_true, Bool.false_eq_true, if_false, Option.bind_some, markIntsV.f, heldIntsV.f, eqIntsV.f]
    rw [held_marks, marked_eq _ _ (by omega) (by omega), if_neg (by omega), if_pos rfl, ht]
    simp only [Option.bind_some, hr]
    simp
theorem FnExactCodeFullC.calls (A0 : Option Addr) (c0 : Nat) (l0 : List (S25)) (r : Bool) (w : World) (hr0 : Kd.C k25 w A0 l0.length l0) (hc0 : l0.length ≤ c0) (h : laws_FnExactCodeFull.f 1 l0 = some r) :
    Calls Try.prog 10 #[.slice A0 l0.length c0] w fun e w' => e = .returned (.bool r) ∧ Below w.heap.size w w' := laws_FnExactCodeFull.calls 1 A0 c0 l0 r w hr0 hc0 h
end Go.Proofs.Ytmklpbmlgjkbiaa.Pure
end
section
namespace Go.Proofs.Ytmklpbmlgjkbiaa.PS
open Go.ChangeShapes Go.WideShapes Go.ChangeAt Go.RowKit Go.Joins
set_option linter.unusedVariables false
set_option maxRecDepth 100000
theorem cells3 : Try.prog.cellsOf 3 = 1 := by kernel_rfl
theorem cells23 : Try.prog.cellsOf 23 = 2 := by kernel_rfl
theorem cells25 : Try.prog.cellsOf 25 = 6 := by kernel_rfl
section
variable {H : Type} {enc : TypeId × Value → H} {w : World} {base : Nat} {spare : Nat → Bool} {held : Bool} {fuel : Nat} {cs : List Value} {x : DataW H × List MemPlace}
theorem val_cells (h : DataW.trod enc Try.prog w base spare held fuel 23 cs = some x) : ∃ a b : Int, cs = [.int .i64 a, .int .i64 b] ∧ (Lit.int .i64 a).wf = true ∧ (Lit.int .i64 b).wf = true := by
  obtain ⟨xs, n, _, _, hl, hlen, hf⟩ := DataW.trod_struct Try.underlying23 h
  rw [cells23] at hl
  match cs, hl with
  | [c0, c1], _ =>
    match xs, hlen with
    | [y0, y1], _ =>
      have h0 := hf 0 _ rfl
      have h1 := hf 1 _ rfl
      obtain ⟨a, e0, _, w0⟩ := DataW.trod_int Try.underlying3 h0
      obtain ⟨b, e1, _, w1⟩ := DataW.trod_int Try.underlying3 h1
      simp [cells3] at e0 e1
      exact ⟨a, b, by rw [e0, e1], w0, w1⟩
theorem op_cells (h : DataW.trod enc Try.prog w base spare held fuel 25 cs = some x) : ∃ a b c d e f : Int, cs = [.int .i64 a, .int .i64 b, .int .i64 c, .int .i64 d, .int .i64 e, .int .i64 f] ∧ ((Lit.int .i64 a).wf = true ∧ (Lit.int .i64 b).wf = true ∧ (Lit.int .i64 c).wf = true ∧ (Lit.int .i64 d).wf = true ∧ (Lit.int .i64 e).wf = true ∧ (Lit.int .i64 f).wf = true) := by
  obtain ⟨xs, n, _, _, hl, hlen, hf⟩ := DataW.trod_struct Try.underlying25 h
  rw [cells25] at hl
  match cs, hl with
  | [c0, c1, c2, c3, c4, c5], _ =>
    match xs, hlen with
    | [y0, y1, y2, y3, y4], _ =>
      have h0 := hf 0 _ rfl
      have h1 := hf 1 _ rfl
      have h2 := hf 2 _ rfl
      have h3 := hf 3 _ rfl
      have h4 := hf 4 _ rfl
      obtain ⟨a, e0, _, w0⟩ := DataW.trod_int Try.underlying3 h0
      obtain ⟨b, e1, _, w1⟩ := DataW.trod_int Try.underlying3 h1
      obtain ⟨c, e2, _, w2⟩ := DataW.trod_int Try.underlying3 h2
      obtain ⟨d, e3, _, w3⟩ := DataW.trod_int Try.underlying3 h3
      obtain ⟨e, f, e4, w4, w5⟩ := val_cells h4
      simp [cells3, cells23] at e0 e1 e2 e3 e4
      exact ⟨a, b, c, d, e, f, by rw [e0, e1, e2, e3, e4.1, e4.2], w0, w1, w2, w3, w4, w5⟩
end
end Go.Proofs.Ytmklpbmlgjkbiaa.PS
end
section
namespace Go.Proofs.Ytmklpbmlgjkbiaa.PS
open Go.ChangeShapes Go.WideShapes Go.ChangeAt Go.RowKit Go.Joins Go.Deep
open Go.Proofs.YtmklpbmlgjkbiaaW.PrintWords Go.Proofs.YtmklpbmlgjkbiaaW.PrintLast
set_option linter.unusedVariables false
set_option maxRecDepth 100000
section
variable {H : Type} {enc : TypeId × Value → H} {w : World} {base : Nat} {spare : Nat → Bool} {held : Bool}
theorem ops_open {a : Option Addr} {len cap : Nat} {d : DataW H} {p : List MemPlace} (h : DataW.Trod enc Try.prog w base spare held 39 (.slice a len cap) d p) :
    ∃ l : List S25, l.length = len ∧ Kd.C k25 w a len l ∧ len ≤ cap ∧ len ≤ maxLen := by
  obtain ⟨fuel, hf⟩ := h
  rcases open_slice Try.underlying39 hf with ⟨hcs, _⟩ | ⟨x, len', cap', m, n, D, Pl, hcs, hb, hl, hm, hmm, _, hx⟩
  · simp [Value.cells] at hcs
    obtain ⟨rfl, rfl, rfl⟩ := hcs
    exact ⟨[], rfl, ⟨rfl, by omega, fun h => absurd h (by omega)⟩, by omega, by omega⟩
  · simp [Value.cells] at hcs
    obtain ⟨rfl, rfl, rfl⟩ := hcs
    have hlm : len ≤ m := by rw [hmm]; split <;> omega
    have each : ∀ i, i < len → ∃ y : S25, ∀ j u, [Value.int .i64 y.f0, .int .i64 y.f1, .int .i64 y.f2, .int .i64 y.f3, .int .i64 y.f4.f0, .int .i64 y.f4.f1][j]? = some u → w.cell? (x.add (i * 6 + j)) = some u := by
      intro i hi
      obtain ⟨cs', h1, h2⟩ := hx i (by omega)
      rw [cells25] at h1
      obtain ⟨_, hlen, hcell⟩ := World.cells?_some h1
      obtain ⟨y0, y1, y2, y3, y4, y5, e, _⟩ := op_cells h2
      subst e
      refine ⟨⟨y0, y1, y2, y3, ⟨y4, y5⟩⟩, fun j u hj => ?_⟩
      have hj6 : j < 6 := by
        have := (List.getElem?_eq_some_iff.1 hj).1
        simpa using this
      have := hcell j hj6
      rw [Go.Deep.add_add] at this
      rw [this]; exact hj
    have : Inhabited S25 := ⟨z25⟩
    obtain ⟨f, hf⟩ := choose_lt each
    refine ⟨(List.range len).map f, by simp, ⟨by simp, by unfold maxLen at hm; omega, fun _ => ⟨x, rfl, fun j y hy => ?_⟩⟩, hl, by omega⟩
    rw [List.getElem?_map] at hy
    have hj : j < len := by
      rcases Nat.lt_or_ge j len with h | h
      · exact h
      · rw [List.getElem?_eq_none (by simpa using h)] at hy; cases hy
    rw [List.getElem?_eq_getElem (by simpa using hj)] at hy
    simp at hy
    subst hy
    exact ⟨_, rfl, k25_mk w _, fun i u hi => hf j hj i u hi⟩
end
end Go.Proofs.Ytmklpbmlgjkbiaa.PS
end
section
namespace Go.Proofs.Ytmklpbmlgjkbiaa.Facts
set_option linter.unusedVariables false
set_option maxRecDepth 1000000
theorem headIs {ws : List (List Char)} {c : List Char} (h : (behindMainWord ws).head? = some c) : ∃ rest, behindMainWord ws = c :: rest := by
  cases hb : behindMainWord ws with
  | nil => rw [hb] at h; cases h
  | cons a r => rw [hb] at h; cases h; exact ⟨r, rfl⟩
theorem signs {s : String} {l : List Char} {c : List Char} (h : s = String.ofList l) (k : (behindMainWord (wordsSigns l)).head? = some c) : ∃ rest, behindMainWord (wordsSigns s.toList) = c :: rest := by
  subst h; rw [String.toList_ofList]; exact headIs k
theorem cutHead : ∃ rest, behindMainWord (wordsSigns Try.prog.initOrder.toList) = "cut".toList :: rest := by
  show ∃ rest, behindMainWord (wordsSigns Try.progTables.initOrder.toList) = "cut".toList :: rest
  unfold Try.progTables
  exact signs rfl (by kernel_rfl)
theorem noLifts (rest : List (List Char)) : stripLifts liftWords ("cut".toList :: rest) = ([], "cut".toList :: rest) := by kernel_rfl
theorem made_of {P : Program} {rest : List (List Char)} (h : behindMainWord (wordsSigns P.initOrder.toList) = "cut".toList :: rest) : P.make = some .cut := by
  unfold Program.make
  rw [h]
  kernel_rfl
theorem may_of {P : Program} {rest : List (List Char)} (h : behindMainWord (wordsSigns P.initOrder.toList) = "cut".toList :: rest)
    (h1 : P.laysLater = false) (h2 : P.bearsReflect = false) (h3 : P.doorFits [] = true) : P.mayEnter = true := by
  unfold Program.mayEnter
  rw [h]
  simp only [noLifts, h1, h2, h3]
  kernel_rfl
theorem lifts_of {P : Program} {rest : List (List Char)} (h : behindMainWord (wordsSigns P.initOrder.toList) = "cut".toList :: rest) : P.liftsFinal = false := by
  unfold Program.liftsFinal Program.headLifts
  rw [h]
  kernel_rfl
theorem may : Try.prog.mayEnter = true := by
  obtain ⟨rest, h⟩ := cutHead
  exact may_of h (by kernel_rfl) (by kernel_rfl) (by kernel_rfl)
theorem lifts : Try.prog.liftsFinal = false := by
  obtain ⟨rest, h⟩ := cutHead
  exact lifts_of h
theorem made : Try.prog.make = some Make.cut := by
  obtain ⟨rest, h⟩ := cutHead
  exact made_of h
theorem band {a b : Bool} (ha : a = true) (hb : b = true) : (a && b) = true := by rw [ha, hb]; rfl
theorem flifts {b : Bool} (h : (b == false) = true) : (b == Try.prog.liftsFinal) = true := by rw [lifts]; exact h
theorem fmade {m : Make} (h : (some Make.cut == some m) = true) : (Try.prog.make == some m) = true := by rw [made]; exact h
end Go.Proofs.Ytmklpbmlgjkbiaa.Facts
end
