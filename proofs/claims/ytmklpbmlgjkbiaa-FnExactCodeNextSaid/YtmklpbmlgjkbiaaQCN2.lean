/- What the row of CN rests on, part 3. -/
import Derived.Test.YtmklpbmlgjkbiaaProg
import Derived.Below
import Derived.Deep.Draws
import Derived.Deep.AppendLies
import Derived.Maps.AppendAt
import Derived.OwnWalk
import Derived.Laws.BytesArg
import Derived.Laws.MakeOwn
import Derived.Laws.OwnMore
import Derived.Deep.OwnRows
import Derived.Tactics
import Derived.Lib.ConvBytes
import Derived.Laws.Slices
import Derived.WalkKit
import Derived.KernelRfl
import Derived.RowKit3
import Derived.Deep.LoopGhost
import Derived.Deep.QuietTactic
import Derived.BigQuiet
import Derived.WideLaws
import Derived.Deep.DeepCutAuto
import Derived.Deep.CutBlock
import Derived.Deep.RegionHeld3
import Derived.Laws.Rows
import Derived.Lib.AppendStr
import Derived.ArgAppend
import Derived.Laws.IdiomCopy
import Derived.OrdersHeld
import Derived.Laws.BitsLemmas
import Derived.RowKit
import Derived.Laws.StructEq
import Derived.Deep.RegionWith
import Derived.Lib.Bytealg
import Derived.Shelf.Strings.Search3
import Derived.WalkSpells
import Derived.Lib.OthersKept
import Derived.Lib.Hide
import Derived.WalkSmall
import Derived.Laws.EntriesVeiled
import Derived.ProofKit
import Derived.Lib.SmallJoins
import Derived.Deep.Slices
import GoSem.ClaimJoined
import Derived.JoinedOf
import Derived.Test.YtmklpbmlgjkbiaaQCN1
section
namespace Go.Proofs.Ytmklpbmlgjkbiaa.PS
open Go.RowKit Go.Proofs.YtmklpbmlgjkbiaaW.PrintWords Go.Proofs.YtmklpbmlgjkbiaaW.PrintLast Go.Proofs.YtmklpbmlgjkbiaaW.PrintMore
attribute [local go_sem] max2_int min2_int max_two min_two max_three min_three max_four min_four   -- for this text's walks alone
set_option linter.unusedVariables false
set_option linter.unusedSimpArgs false
def laws_eqOp.f (a0_0 : Int) (a0_1 : Int) (a0_2 : Int) (a0_3 : Int) (a0_4 : Int) (a0_5 : Int) (a1_0 : Int) (a1_1 : Int) (a1_2 : Int) (a1_3 : Int) (a1_4 : Int) (a1_5 : Int) : Option (Bool) := if a0_0 = a1_0 then (if a0_1 = a1_1 then (if a0_2 = a1_2 then (if a0_3 = a1_3 then ((laws_eqVal.f a0_4 a0_5 a1_4 a1_5).bind fun t280 => (if t280 = true then (some true) else (some false))) else (some false)) else (some false)) else (some false)) else (some false)
set_option maxHeartbeats 8000000 in
set_option maxRecDepth 100000 in
theorem laws_eqOp.calls (a0_0 : Int) (a0_1 : Int) (a0_2 : Int) (a0_3 : Int) (a0_4 : Int) (a0_5 : Int) (a1_0 : Int) (a1_1 : Int) (a1_2 : Int) (a1_3 : Int) (a1_4 : Int) (a1_5 : Int) (r : Bool) (w : World) (h : laws_eqOp.f a0_0 a0_1 a0_2 a0_3 a0_4 a0_5 a1_0 a1_1 a1_2 a1_3 a1_4 a1_5 = some r) :
    Calls Try.prog 75 #[.agg #[.int .i64 a0_0, .int .i64 a0_1, .int .i64 a0_2, .int .i64 a0_3, .int .i64 a0_4, .int .i64 a0_5], .agg #[.int .i64 a1_0, .int .i64 a1_1, .int .i64 a1_2, .int .i64 a1_3, .int .i64 a1_4, .int .i64 a1_5]] w fun e w' => e = .returned (.bool r) ∧ Below w.heap.size w w' := by
  have hu29 := Try.underlying29
  have hu27 := Try.underlying27
  have HB := Aside0.mk (Below.refl w.heap.size w)
  have H : (if a0_0 = a1_0 then (if a0_1 = a1_1 then (if a0_2 = a1_2 then (if a0_3 = a1_3 then ((laws_eqVal.f a0_4 a0_5 a1_4 a1_5).bind fun t280 => (if t280 = true then (some true) else (some false))) else (some false)) else (some false)) else (some false)) else (some false)) = some r := h
  clear h
  by_cases c3 : a0_0 = a1_0
  · rw [if_pos c3] at H
    have c3b0 : (a0_0 == a1_0) = true := beq_iff_eq.mpr c3
    have c3b1 : (a0_0 != a1_0) = false := bne_eq_false_iff_eq.mpr c3
    clear c3
    by_cases c4 : a0_1 = a1_1
    · rw [if_pos c4] at H
      have c4b0 : (a0_1 == a1_1) = true := beq_iff_eq.mpr c4
      have c4b1 : (a0_1 != a1_1) = false := bne_eq_false_iff_eq.mpr c4
      clear c4
      by_cases c5 : a0_2 = a1_2
      · rw [if_pos c5] at H
        have c5b0 : (a0_2 == a1_2) = true := beq_iff_eq.mpr c5
        have c5b1 : (a0_2 != a1_2) = false := bne_eq_false_iff_eq.mpr c5
        clear c5
        by_cases c6 : a0_3 = a1_3
        · rw [if_pos c6] at H
          have c6b0 : (a0_3 == a1_3) = true := beq_iff_eq.mpr c6
          have c6b1 : (a0_3 != a1_3) = false := bne_eq_false_iff_eq.mpr c6
          clear c6
          replace H := Option.bind_eq_some_iff.mp H
          obtain ⟨t280, A70, H⟩ := H
          replace H : (if t280 = true then (some true) else (some false)) = some r := H
          have A7 := Aside0.mk A70
          clear A70
          by_cases c8 : t280 = true
          · subst c8
            have H1 : (some true) = some r := by rw [if_pos rfl] at H; exact H
            clear H
            have H := H1
            clear H1
            obtain rfl := Option.some.inj H
            go_enter Try.func75, Try.ntmps75
            go_wp2_with (first | ((with_reducible refine gate_dst (N := 2) rfl ?_); refine box_event ?hg (N := 2) ?hd (cs := #[.int .i64 a0_0, .int .i64 a0_1, .int .i64 a0_2, .int .i64 a0_3, .int .i64 a0_4, .int .i64 a0_5]) (t := 29) ?hr ?_; (case hd => rfl); (case hg => rfl); (case hr => first | (go_simp; done) | (go_simp; rfl)); intro gb278 hg w9 hbox hb; have n0_ := Aside0.mk (below_step (by repeat (first | (with_reducible first | exact HB.out | apply below_alloc | apply pw_below_drewN | apply below_drew1) | exact HB.out)) hb); have n1_ := Aside0.mk (hbox); have n2_ := Aside0.mk ((by rw [hg]; exact (below_size (by repeat (first | (with_reducible first | exact HB.out | apply below_alloc | apply pw_below_drewN | apply below_drew1) | exact HB.out))) : w.heap.size ≤ gb278)); have n3_ := Aside0.mk ((by rw [hg]; exact (below_size (by repeat (first | (with_reducible first | exact HB.out | apply below_alloc | apply pw_below_drewN | apply below_drew1) | exact HB.out))) : w.heap.size ≤ gb278)); clear HB; have HB := n0_; have BK278 := n1_; have GW278 := n2_; have GE278 := n3_; clear n0_ n1_ n2_ n3_; clear hb hbox hg) | ((with_reducible refine gate_dst (N := 3) rfl ?_); refine box_event ?hg (N := 3) ?hd (cs := #[.int .i64 a1_0, .int .i64 a1_1, .int .i64 a1_2, .int .i64 a1_3, .int .i64 a1_4, .int .i64 a1_5]) (t := 29) ?hr ?_; (case hd => rfl); (case hg => rfl); (case hr => first | (go_simp; done) | (go_simp; rfl)); intro gb279 hg w10 hbox hb; have n0_ := Aside0.mk (blk_below (g := gb278) (o := .cells #[.int .i64 a0_0, .int .i64 a0_1, .int .i64 a0_2, .int .i64 a0_3, .int .i64 a0_4, .int .i64 a0_5] 29 (0, 0)) (by (with_reducible repeat (first | refine blk_drewN ?_ _ | refine blk_drew ?_ | refine blk_alloc ?_ _)); exact BK278.out) hb); have n1_ := Aside0.mk (below_step (by repeat (first | (with_reducible first | exact HB.out | apply below_alloc | apply pw_below_drewN | apply below_drew1 | refine below_set ?_ GE278.out) | exact HB.out)) hb); have n2_ := Aside0.mk (hbox); have n3_ := Aside0.mk ((by rw [hg]; exact (below_size (by repeat (first | (with_reducible first | exact HB.out | apply below_alloc | apply pw_below_drewN | apply below_drew1 | refine below_set ?_ GE278.out) | exact HB.out))) : w.heap.size ≤ gb279)); have n4_ := Aside0.mk ((by rw [hg]; exact (below_size (by repeat (first | (with_reducible first | exact HB.out | apply below_alloc | apply pw_below_drewN | apply below_drew1 | refine below_set ?_ GE278.out) | exact HB.out))) : w.heap.size ≤ gb279)); have n5_ := Aside0.mk ((by rw [hg]; exact Nat.ne_of_lt (blk_lt (g := gb278) (o := .cells #[.int .i64 a0_0, .int .i64 a0_1, .int .i64 a0_2, .int .i64 a0_3, .int .i64 a0_4, .int .i64 a0_5] 29 (0, 0)) (by (with_reducible repeat (first | refine blk_drewN ?_ _ | refine blk_drew ?_ | refine blk_alloc ?_ _)); exact BK278.out)) : gb278 ≠ gb279)); have n6_ := Aside0.mk ((by rw [hg]; exact Nat.ne_of_gt (blk_lt (g := gb278) (o := .cells #[.int .i64 a0_0, .int .i64 a0_1, .int .i64 a0_2, .int .i64 a0_3, .int .i64 a0_4, .int .i64 a0_5] 29 (0, 0)) (by (with_reducible repeat (first | refine blk_drewN ?_ _ | refine blk_drew ?_ | refine blk_alloc ?_ _)); exact BK278.out)) : gb279 ≠ gb278)); clear BK278; clear HB; have BK278 := n0_; have HB := n1_; have BK279 := n2_; have GW279 := n3_; have GE279 := n4_; have NB278_279 := n5_; have NB279_278 := n6_; clear n0_ n1_ n2_ n3_ n4_ n5_ n6_; clear hb hbox hg; have hnb11 := NB278_279.out; have hnc11 := NB279_278.out; have hcz12_0 : w10.cell? ⟨gb278, 0, none⟩ = some (.int .i64 a0_0) := (blk_cell BK278.out 0).trans rfl; have hcz12_1 : w10.cell? ⟨gb278, 1, none⟩ = some (.int .i64 a0_1) := (blk_cell BK278.out 1).trans rfl; have hcz12_2 : w10.cell? ⟨gb278, 2, none⟩ = some (.int .i64 a0_2) := (blk_cell BK278.out 2).trans rfl; have hcz12_3 : w10.cell? ⟨gb278, 3, none⟩ = some (.int .i64 a0_3) := (blk_cell BK278.out 3).trans rfl; have hcz12_4 : w10.cell? ⟨gb278, 4, none⟩ = some (.int .i64 a0_4) := (blk_cell BK278.out 4).trans rfl; have hcz12_5 : w10.cell? ⟨gb278, 5, none⟩ = some (.int .i64 a0_5) := (blk_cell BK278.out 5).trans rfl; have hfz12_0 := blk_frozen BK278.out 0; have hfz12_1 := blk_frozen BK278.out 1; have hfz12_2 := blk_frozen BK278.out 2; have hfz12_3 := blk_frozen BK278.out 3; have hfz12_4 := blk_frozen BK278.out 4; have hfz12_5 := blk_frozen BK278.out 5; have hcz13_0 : w10.cell? ⟨gb279, 0, none⟩ = some (.int .i64 a1_0) := (blk_cell BK279.out 0).trans rfl; have hcz13_1 : w10.cell? ⟨gb279, 1, none⟩ = some (.int .i64 a1_1) := (blk_cell BK279.out 1).trans rfl; have hcz13_2 : w10.cell? ⟨gb279, 2, none⟩ = some (.int .i64 a1_2) := (blk_cell BK279.out 2).trans rfl; have hcz13_3 : w10.cell? ⟨gb279, 3, none⟩ = some (.int .i64 a1_3) := (blk_cell BK279.out 3).trans rfl; have hcz13_4 : w10.cell? ⟨gb279, 4, none⟩ = some (.int .i64 a1_4) := (blk_cell BK279.out 4).trans rfl; have hcz13_5 : w10.cell? ⟨gb279, 5, none⟩ = some (.int .i64 a1_5) := (blk_cell BK279.out 5).trans rfl; have hfz13_0 := blk_frozen BK279.out 0; have hfz13_1 := blk_frozen BK279.out 1; have hfz13_2 := blk_frozen BK279.out 2; have hfz13_3 := blk_frozen BK279.out 3; have hfz13_4 := blk_frozen BK279.out 4; have hfz13_5 := blk_frozen BK279.out 5) | ((with_reducible refine gate_callee (f := 93) rfl ?_); refine goesL_ (some 29) rfl rfl Try.func93 (by kernel_rfl) rfl #[.agg #[.int .i64 a0_4, .int .i64 a0_5], .agg #[.int .i64 a1_4, .int .i64 a1_5]] rfl (by (try simp only [List.map_toArray, List.map_cons, List.map_nil]); first | done | rfl | (simp only [List.length_drop, List.length_take]; rfl)) ?_; (with_reducible refine (laws_eqVal.calls a0_4 a0_5 a1_4 a1_5 true _ A7.out).mono ?_); rintro e w14 ⟨rfl, hb⟩; refine ⟨_, rfl, ?_⟩; have n0_ := Aside0.mk (blk_below (g := gb278) (o := .cells #[.int .i64 a0_0, .int .i64 a0_1, .int .i64 a0_2, .int .i64 a0_3, .int .i64 a0_4, .int .i64 a0_5] 29 (0, 0)) (by (with_reducible repeat (first | refine blk_drewN ?_ _ | refine blk_drew ?_ | refine blk_alloc ?_ _)); exact BK278.out) hb); have n1_ := Aside0.mk (blk_below (g := gb279) (o := .cells #[.int .i64 a1_0, .int .i64 a1_1, .int .i64 a1_2, .int .i64 a1_3, .int .i64 a1_4, .int .i64 a1_5] 29 (0, 0)) (by (with_reducible repeat (first | refine blk_drewN ?_ _ | refine blk_drew ?_ | refine blk_alloc ?_ _)); exact BK279.out) hb); have n2_ := Aside0.mk (below_step (by repeat (first | (with_reducible first | exact HB.out | apply below_alloc | apply pw_below_drewN | apply below_drew1 | refine below_set ?_ GE278.out | refine below_set ?_ GE279.out) | exact HB.out)) hb); clear BK278; clear BK279; clear HB; have BK278 := n0_; have BK279 := n1_; have HB := n2_; clear n0_ n1_ n2_; (try clear hb); (try clear hb2); (try clear hk); (try clear hi)))
            go_ret
            exact ⟨by first | rfl | (simp [errW_none, errW_some] <;> rfl) | (simp [*, errW_none, errW_some] <;> rfl), by repeat (first | (with_reducible first | exact HB.out | apply below_alloc | apply pw_below_drewN | apply below_drew1 | refine below_set ?_ GE278.out | refine below_set ?_ GE279.out) | exact HB.out)⟩
          · replace c8 := Bool.eq_false_iff.mpr c8
            subst c8
            have H1 : (some false) = some r := by rw [if_neg (show ¬ (false = true) by decide)] at H; exact H
            clear H
            have H := H1
            clear H1
            obtain rfl := Option.some.inj H
            go_enter Try.func75, Try.ntmps75
            go_wp2_with (first | ((with_reducible refine gate_dst (N := 2) rfl ?_); refine box_event ?hg (N := 2) ?hd (cs := #[.int .i64 a0_0, .int .i64 a0_1, .int .i64 a0_2, .int .i64 a0_3, .int .i64 a0_4, .int .i64 a0_5]) (t := 29) ?hr ?_; (case hd => rfl); (case hg => rfl); (case hr => first | (go_simp; done) | (go_simp; rfl)); intro gb278 hg w15 hbox hb; have n0_ := Aside0.mk (below_step (by repeat (first | (with_reducible first | exact HB.out | apply below_alloc | apply pw_below_drewN | apply below_drew1) | exact HB.out)) hb); have n1_ := Aside0.mk (hbox); have n2_ := Aside0.mk ((by rw [hg]; exact (below_size (by repeat (first | (with_reducible first | exact HB.out | apply below_alloc | apply pw_below_drewN | apply below_drew1) | exact HB.out))) : w.heap.size ≤ gb278)); have n3_ := Aside0.mk ((by rw [hg]; exact (below_size (by repeat (first | (with_reducible first | exact HB.out | apply below_alloc | apply pw_below_drewN | apply below_drew1) | exact HB.out))) : w.heap.size ≤ gb278)); clear HB; have HB := n0_; have BK278 := n1_; have GW278 := n2_; have GE278 := n3_; clear n0_ n1_ n2_ n3_; clear hb hbox hg) | ((with_reducible refine gate_dst (N := 3) rfl ?_); refine box_event ?hg (N := 3) ?hd (cs := #[.int .i64 a1_0, .int .i64 a1_1, .int .i64 a1_2, .int .i64 a1_3, .int .i64 a1_4, .int .i64 a1_5]) (t := 29) ?hr ?_; (case hd => rfl); (case hg => rfl); (case hr => first | (go_simp; done) | (go_simp; rfl)); intro gb279 hg w16 hbox hb; have n0_ := Aside0.mk (blk_below (g := gb278) (o := .cells #[.int .i64 a0_0, .int .i64 a0_1, .int .i64 a0_2, .int .i64 a0_3, .int .i64 a0_4, .int .i64 a0_5] 29 (0, 0)) (by (with_reducible repeat (first | refine blk_drewN ?_ _ | refine blk_drew ?_ | refine blk_alloc ?_ _)); exact BK278.out) hb); have n1_ := Aside0.mk (below_step (by repeat (first | (with_reducible first | exact HB.out | apply below_alloc | apply pw_below_drewN | apply below_drew1 | refine below_set ?_ GE278.out) | exact HB.out)) hb); have n2_ := Aside0.mk (hbox); have n3_ := Aside0.mk ((by rw [hg]; exact (below_size (by repeat (first | (with_reducible first | exact HB.out | apply below_alloc | apply pw_below_drewN | apply below_drew1 | refine below_set ?_ GE278.out) | exact HB.out))) : w.heap.size ≤ gb279)); have n4_ := Aside0.mk ((by rw [hg]; exact (below_size (by repeat (first | (with_reducible first | exact HB.out | apply below_alloc | apply pw_below_drewN | apply below_drew1 | refine below_set ?_ GE278.out) | exact HB.out))) : w.heap.size ≤ gb279)); have n5_ := Aside0.mk ((by rw [hg]; exact Nat.ne_of_lt (blk_lt (g := gb278) (o := .cells #[.int .i64 a0_0, .int .i64 a0_1, .int .i64 a0_2, .int .i64 a0_3, .int .i64 a0_4, .int .i64 a0_5] 29 (0, 0)) (by (with_reducible repeat (first | refine blk_drewN ?_ _ | refine blk_drew ?_ | refine blk_alloc ?_ _)); exact BK278.out)) : gb278 ≠ gb279)); have n6_ := Aside0.mk ((by rw [hg]; exact Nat.ne_of_gt (blk_lt (g := gb278) (o := .cells #[.int .i64 a0_0, .int .i64 a0_1, .int .i64 a0_2, .int .i64 a0_3, .int .i64 a0_4, .int .i64 a0_5] 29 (0, 0)) (by (with_reducible repeat (first | refine blk_drewN ?_ _ | refine blk_drew ?_ | refine blk_alloc ?_ _)); exact BK278.out)) : gb279 ≠ gb278)); clear BK278; clear HB; have BK278 := n0_; have HB := n1_; have BK279 := n2_; have GW279 := n3_; have GE279 := n4_; have NB278_279 := n5_; have NB279_278 := n6_; clear n0_ n1_ n2_ n3_ n4_ n5_ n6_; clear hb hbox hg; have hnb17 := NB278_279.out; have hnc17 := NB279_278.out; have hcz18_0 : w16.cell? ⟨gb278, 0, none⟩ = some (.int .i64 a0_0) := (blk_cell BK278.out 0).trans rfl; have hcz18_1 : w16.cell? ⟨gb278, 1, none⟩ = some (.int .i64 a0_1) := (blk_cell BK278.out 1).trans rfl; have hcz18_2 : w16.cell? ⟨gb278, 2, none⟩ = some (.int .i64 a0_2) := (blk_cell BK278.out 2).trans rfl; have hcz18_3 : w16.cell? ⟨gb278, 3, none⟩ = some (.int .i64 a0_3) := (blk_cell BK278.out 3).trans rfl; have hcz18_4 : w16.cell? ⟨gb278, 4, none⟩ = some (.int .i64 a0_4) := (blk_cell BK278.out 4).trans rfl; have hcz18_5 : w16.cell? ⟨gb278, 5, none⟩ = some (.int .i64 a0_5) := (blk_cell BK278.out 5).trans rfl; have hfz18_0 := blk_frozen BK278.out 0; have hfz18_1 := blk_frozen BK278.out 1; have hfz18_2 := blk_frozen BK278.out 2; have hfz18_3 := blk_frozen BK278.out 3; have hfz18_4 := blk_frozen BK278.out 4; have hfz18_5 := blk_frozen BK278.out 5; have hcz19_0 : w16.cell? ⟨gb279, 0, none⟩ = some (.int .i64 a1_0) := (blk_cell BK279.out 0).trans rfl; have hcz19_1 : w16.cell? ⟨gb279, 1, none⟩ = some (.int .i64 a1_1) := (blk_cell BK279.out 1).trans rfl; have hcz19_2 : w16.cell? ⟨gb279, 2, none⟩ = some (.int .i64 a1_2) := (blk_cell BK279.out 2).trans rfl; have hcz19_3 : w16.cell? ⟨gb279, 3, none⟩ = some (.int .i64 a1_3) := (blk_cell BK279.out 3).trans rfl; have hcz19_4 : w16.cell? ⟨gb279, 4, none⟩ = some (.int .i64 a1_4) := (blk_cell BK279.out 4).trans rfl; have hcz19_5 : w16.cell? ⟨gb279, 5, none⟩ = some (.int .i64 a1_5) := (blk_cell BK279.out 5).trans rfl; have hfz19_0 := blk_frozen BK279.out 0; have hfz19_1 := blk_frozen BK279.out 1; have hfz19_2 := blk_frozen BK279.out 2; have hfz19_3 := blk_frozen BK279.out 3; have hfz19_4 := blk_frozen BK279.out 4; have hfz19_5 := blk_frozen BK279.out 5) | ((with_reducible refine gate_callee (f := 93) rfl ?_); refine goesL_ (some 29) rfl rfl Try.func93 (by kernel_rfl) rfl #[.agg #[.int .i64 a0_4, .int .i64 a0_5], .agg #[.int .i64 a1_4, .int .i64 a1_5]] rfl (by (try simp only [List.map_toArray, List.map_cons, List.map_nil]); first | done | rfl | (simp only [List.length_drop, List.length_take]; rfl)) ?_; (with_reducible refine (laws_eqVal.calls a0_4 a0_5 a1_4 a1_5 false _ A7.out).mono ?_); rintro e w20 ⟨rfl, hb⟩; refine ⟨_, rfl, ?_⟩; have n0_ := Aside0.mk (blk_below (g := gb278) (o := .cells #[.int .i64 a0_0, .int .i64 a0_1, .int .i64 a0_2, .int .i64 a0_3, .int .i64 a0_4, .int .i64 a0_5] 29 (0, 0)) (by (with_reducible repeat (first | refine blk_drewN ?_ _ | refine blk_drew ?_ | refine blk_alloc ?_ _)); exact BK278.out) hb); have n1_ := Aside0.mk (blk_below (g := gb279) (o := .cells #[.int .i64 a1_0, .int .i64 a1_1, .int .i64 a1_2, .int .i64 a1_3, .int .i64 a1_4, .int .i64 a1_5] 29 (0, 0)) (by (with_reducible repeat (first | refine blk_drewN ?_ _ | refine blk_drew ?_ | refine blk_alloc ?_ _)); exact BK279.out) hb); have n2_ := Aside0.mk (below_step (by repeat (first | (with_reducible first | exact HB.out | apply below_alloc | apply pw_below_drewN | apply below_drew1 | refine below_set ?_ GE278.out | refine below_set ?_ GE279.out) | exact HB.out)) hb); clear BK278; clear BK279; clear HB; have BK278 := n0_; have BK279 := n1_; have HB := n2_; clear n0_ n1_ n2_; (try clear hb); (try clear hb2); (try clear hk); (try clear hi)))
            go_ret
            exact ⟨by first | rfl | (simp [errW_none, errW_some] <;> rfl) | (simp [*, errW_none, errW_some] <;> rfl), by repeat (first | (with_reducible first | exact HB.out | apply below_alloc | apply pw_below_drewN | apply below_drew1 | refine below_set ?_ GE278.out | refine below_set ?_ GE279.out) | exact HB.out)⟩
        · rw [if_neg c6] at H
          have c6b0 : (a0_3 == a1_3) = false := beq_eq_false_iff_ne.mpr c6
          have c6b1 : (a0_3 != a1_3) = true := bne_iff_ne.mpr c6
          obtain rfl := Option.some.inj H
          go_enter Try.func75, Try.ntmps75
          go_wp2_with (first | ((with_reducible refine gate_dst (N := 2) rfl ?_); refine box_event ?hg (N := 2) ?hd (cs := #[.int .i64 a0_0, .int .i64 a0_1, .int .i64 a0_2, .int .i64 a0_3, .int .i64 a0_4, .int .i64 a0_5]) (t := 29) ?hr ?_; (case hd => rfl); (case hg => rfl); (case hr => first | (go_simp; done) | (go_simp; rfl)); intro gb278 hg w21 hbox hb; have n0_ := Aside0.mk (below_step (by repeat (first | (with_reducible first | exact HB.out | apply below_alloc | apply pw_below_drewN | apply below_drew1) | exact HB.out)) hb); have n1_ := Aside0.mk (hbox); have n2_ := Aside0.mk ((by rw [hg]; exact (below_size (by repeat (first | (with_reducible first | exact HB.out | apply below_alloc | apply pw_below_drewN | apply below_drew1) | exact HB.out))) : w.heap.size ≤ gb278)); have n3_ := Aside0.mk ((by rw [hg]; exact (below_size (by repeat (first | (with_reducible first | exact HB.out | apply below_alloc | apply pw_below_drewN | apply below_drew1) | exact HB.out))) : w.heap.size ≤ gb278)); clear HB; have HB := n0_; have BK278 := n1_; have GW278 := n2_; have GE278 := n3_; clear n0_ n1_ n2_ n3_; clear hb hbox hg) | ((with_reducible refine gate_dst (N := 3) rfl ?_); refine box_event ?hg (N := 3) ?hd (cs := #[.int .i64 a1_0, .int .i64 a1_1, .int .i64 a1_2, .int .i64 a1_3, .int .i64 a1_4, .int .i64 a1_5]) (t := 29) ?hr ?_; (case hd => rfl); (case hg => rfl); (case hr => first | (go_simp; done) | (go_simp; rfl)); intro gb279 hg w22 hbox hb; have n0_ := Aside0.mk (blk_below (g := gb278) (o := .cells #[.int .i64 a0_0, .int .i64 a0_1, .int .i64 a0_2, .int .i64 a0_3, .int .i64 a0_4, .int .i64 a0_5] 29 (0, 0)) (by (with_reducible repeat (first | refine blk_drewN ?_ _ | refine blk_drew ?_ | refine blk_alloc ?_ _)); exact BK278.out) hb); have n1_ := Aside0.mk (below_step (by repeat (first | (with_reducible first | exact HB.out | apply below_alloc | apply pw_below_drewN | apply below_drew1 | refine below_set ?_ GE278.out) | exact HB.out)) hb); have n2_ := Aside0.mk (hbox); have n3_ := Aside0.mk ((by rw [hg]; exact (below_size (by repeat (first | (with_reducible first | exact HB.out | apply below_alloc | apply pw_below_drewN | apply below_drew1 | refine below_set ?_ GE278.out) | exact HB.out))) : w.heap.size ≤ gb279)); have n4_ := Aside0.mk ((by rw [hg]; exact (below_size (by repeat (first | (with_reducible first | exact HB.out | apply below_alloc | apply pw_below_drewN | apply below_drew1 | refine below_set ?_ GE278.out) | exact HB.out))) : w.heap.size ≤ gb279)); have n5_ := Aside0.mk ((by rw [hg]; exact Nat.ne_of_lt (blk_lt (g := gb278) (o := .cells #[.int .i64 a0_0, .int .i64 a0_1, .int .i64 a0_2, .int .i64 a0_3, .int .i64 a0_4, .int .i64 a0_5] 29 (0, 0)) (by (with_reducible repeat (first | refine blk_drewN ?_ _ | refine blk_drew ?_ | refine blk_alloc ?_ _)); exact BK278.out)) : gb278 ≠ gb279)); have n6_ := Aside0.mk ((by rw [hg]; exact Nat.ne_of_gt (blk_lt (g := gb278) (o := .cells #[.int .i64 a0_0, .int .i64 a0_1, .int .i64 a0_2, .int .i64 a0_3, .int .i64 a0_4, .int .i64 a0_5] 29 (0, 0)) (by (with_reducible repeat (first | refine blk_drewN ?_ _ | refine blk_drew ?_ | refine blk_alloc ?_ _)); exact BK278.out)) : gb279 ≠ gb278)); clear BK278; clear HB; have BK278 := n0_; have HB := n1_; have BK279 := n2_; have GW279 := n3_; have GE279 := n4_; have NB278_279 := n5_; have NB279_278 := n6_; clear n0_ n1_ n2_ n3_ n4_ n5_ n6_; clear hb hbox hg; have hnb23 := NB278_279.out; have hnc23 := NB279_278.out; have hcz24_0 : w22.cell? ⟨gb278, 0, none⟩ = some (.int .i64 a0_0) := (blk_cell BK278.out 0).trans rfl; have hcz24_1 : w22.cell? ⟨gb278, 1, none⟩ = some (.int .i64 a0_1) := (blk_cell BK278.out 1).trans rfl; have hcz24_2 : w22.cell? ⟨gb278, 2, none⟩ = some (.int .i64 a0_2) := (blk_cell BK278.out 2).trans rfl; have hcz24_3 : w22.cell? ⟨gb278, 3, none⟩ = some (.int .i64 a0_3) := (blk_cell BK278.out 3).trans rfl; have hcz24_4 : w22.cell? ⟨gb278, 4, none⟩ = some (.int .i64 a0_4) := (blk_cell BK278.out 4).trans rfl; have hcz24_5 : w22.cell? ⟨gb278, 5, none⟩ = some (.int .i64 a0_5) := (blk_cell BK278.out 5).trans rfl; have hfz24_0 := blk_frozen BK278.out 0; have hfz24_1 := blk_frozen BK278.out 1; have hfz24_2 := blk_frozen BK278.out 2; have hfz24_3 := blk_frozen BK278.out 3; have hfz24_4 := blk_frozen BK278.out 4; have hfz24_5 := blk_frozen BK278.out 5; have hcz25_0 : w22.cell? ⟨gb279, 0, none⟩ = some (.int .i64 a1_0) := (blk_cell BK279.out 0).trans rfl; have hcz25_1 : w22.cell? ⟨gb279, 1, none⟩ = some (.int .i64 a1_1) := (blk_cell BK279.out 1).trans rfl; have hcz25_2 : w22.cell? ⟨gb279, 2, none⟩ = some (.int .i64 a1_2) := (blk_cell BK279.out 2).trans rfl; have hcz25_3 : w22.cell? ⟨gb279, 3, none⟩ = some (.int .i64 a1_3) := (blk_cell BK279.out 3).trans rfl; have hcz25_4 : w22.cell? ⟨gb279, 4, none⟩ = some (.int .i64 a1_4) := (blk_cell BK279.out 4).trans rfl; have hcz25_5 : w22.cell? ⟨gb279, 5, none⟩ = some (.int .i64 a1_5) := (blk_cell BK279.out 5).trans rfl; have hfz25_0 := blk_frozen BK279.out 0; have hfz25_1 := blk_frozen BK279.out 1; have hfz25_2 := blk_frozen BK279.out 2; have hfz25_3 := blk_frozen BK279.out 3; have hfz25_4 := blk_frozen BK279.out 4; have hfz25_5 := blk_frozen BK279.out 5))
          go_ret
          exact ⟨by first | rfl | (simp [errW_none, errW_some] <;> rfl) | (simp [*, errW_none, errW_some] <;> rfl), by repeat (first | (with_reducible first | exact HB.out | apply below_alloc | apply pw_below_drewN | apply below_drew1 | refine below_set ?_ GE278.out | refine below_set ?_ GE279.out) | exact HB.out)⟩
      · rw [if_neg c5] at H
        have c5b0 : (a0_2 == a1_2) = false := beq_eq_false_iff_ne.mpr c5
        have c5b1 : (a0_2 != a1_2) = true := bne_iff_ne.mpr c5
        obtain rfl := Option.some.inj H
        go_enter Try.func75, Try.ntmps75
        go_wp2_with (first | ((with_reducible refine gate_dst (N := 2) rfl ?_); refine box_event ?hg (N := 2) ?hd (cs := #[.int .i64 a0_0, .int .i64 a0_1, .int .i64 a0_2, .int .i64 a0_3, .int .i64 a0_4, .int .i64 a0_5]) (t := 29) ?hr ?_; (case hd => rfl); (case hg => rfl); (case hr => first | (go_simp; done) | (go_simp; rfl)); intro gb278 hg w26 hbox hb; have n0_ := Aside0.mk (below_step (by repeat (first | (with_reducible first | exact HB.out | apply below_alloc | apply pw_below_drewN | apply below_drew1) | exact HB.out)) hb); have n1_ := Aside0.mk (hbox); have n2_ := Aside0.mk ((by rw [hg]; exact (below_size (by repeat (first | (with_reducible first | exact HB.out | apply below_alloc | apply pw_below_drewN | apply below_drew1) | exact HB.out))) : w.heap.size ≤ gb278)); have n3_ := Aside0.mk ((by rw [hg]; exact (below_size (by repeat (first | (with_reducible first | exact HB.out | apply below_alloc | apply pw_below_drewN | apply below_drew1) | exact HB.out))) : w.heap.size ≤ gb278)); clear HB; have HB := n0_; have BK278 := n1_; have GW278 := n2_; have GE278 := n3_; clear n0_ n1_ n2_ n3_; clear hb hbox hg) | ((with_reducible refine gate_dst (N := 3) rfl ?_); refine box_event ?hg (N := 3) ?hd (cs := #[.int .i64 a1_0, .int .i64 a1_1, .int .i64 a1_2, .int .i64 a1_3, .int .i64 a1_4, .int .i64 a1_5]) (t := 29) ?hr ?_; (case hd => rfl); (case hg => rfl); (case hr => first | (go_simp; done) | (go_simp; rfl)); intro gb279 hg w27 hbox hb; have n0_ := Aside0.mk (blk_below (g := gb278) (o := .cells #[.int .i64 a0_0, .int .i64 a0_1, .int .i64 a0_2, .int .i64 a0_3, .int .i64 a0_4, .int .i64 a0_5] 29 (0, 0)) (by (with_reducible repeat (first | refine blk_drewN ?_ _ | refine blk_drew ?_ | refine blk_alloc ?_ _)); exact BK278.out) hb); have n1_ := Aside0.mk (below_step (by repeat (first | (with_reducible first | exact HB.out | apply below_alloc | apply pw_below_drewN | apply below_drew1 | refine below_set ?_ GE278.out) | exact HB.out)) hb); have n2_ := Aside0.mk (hbox); have n3_ := Aside0.mk ((by rw [hg]; exact (below_size (by repeat (first | (with_reducible first | exact HB.out | apply below_alloc | apply pw_below_drewN | apply below_drew1 | refine below_set ?_ GE278.out) | exact HB.out))) : w.heap.size ≤ gb279)); have n4_ := Aside0.mk ((by rw [hg]; exact (below_size (by repeat (first | (with_reducible first | exact HB.out | apply below_alloc | apply pw_below_drewN | apply below_drew1 | refine below_set ?_ GE278.out) | exact HB.out))) : w.heap.size ≤ gb279)); have n5_ := Aside0.mk ((by rw [hg]; exact Nat.ne_of_lt (blk_lt (g := gb278) (o := .cells #[.int .i64 a0_0, .int .i64 a0_1, .int .i64 a0_2, .int .i64 a0_3, .int .i64 a0_4, .int .i64 a0_5] 29 (0, 0)) (by (with_reducible repeat (first | refine blk_drewN ?_ _ | refine blk_drew ?_ | refine blk_alloc ?_ _)); exact BK278.out)) : gb278 ≠ gb279)); have n6_ := Aside0.mk ((by rw [hg]; exact Nat.ne_of_gt (blk_lt (g := gb278) (o := .cells #[.int .i64 a0_0, .int .i64 a0_1, .int .i64 a0_2, .int .i64 a0_3, .int .i64 a0_4, .int .i64 a0_5] 29 (0, 0)) (by (with_reducible repeat (first | refine blk_drewN ?_ _ | refine blk_drew ?_ | refine blk_alloc ?_ _)); exact BK278.out)) : gb279 ≠ gb278)); clear BK278; clear HB; have BK278 := n0_; have HB := n1_; have BK279 := n2_; have GW279 := n3_; have GE279 := n4_; have NB278_279 := n5_; have NB279_278 := n6_; clear n0_ n1_ n2_ n3_ n4_ n5_ n6_; clear hb hbox hg; have hnb28 := NB278_279.out; have hnc28 := NB279_278.out; have hcz29_0 : w27.cell? ⟨gb278, 0, none⟩ = some (.int .i64 a0_0) := (blk_cell BK278.out 0).trans rfl; have hcz29_1 : w27.cell? ⟨gb278, 1, none⟩ = some (.int .i64 a0_1) := (blk_cell BK278.out 1).trans rfl; have hcz29_2 : w27.cell? ⟨gb278, 2, none⟩ = some (.int .i64 a0_2) := (blk_cell BK278.out 2).trans rfl; have hcz29_3 : w27.cell? ⟨gb278, 3, none⟩ = some (.int .i64 a0_3) := (blk_cell BK278.out 3).trans rfl; have hcz29_4 : w27.cell? ⟨gb278, 4, none⟩ = some (.int .i64 a0_4) := (blk_cell BK278.out 4).trans rfl; have hcz29_5 : w27.cell? ⟨gb278, 5, none⟩ = some (.int .i64 a0_5) := (blk_cell BK278.out 5).trans rfl; have hfz29_0 := blk_frozen BK278.out 0; have hfz29_1 := blk_frozen BK278.out 1; have hfz29_2 := blk_frozen BK278.out 2; have hfz29_3 := blk_frozen BK278.out 3; have hfz29_4 := blk_frozen BK278.out 4; have hfz29_5 := blk_frozen BK278.out 5; have hcz30_0 : w27.cell? ⟨gb279, 0, none⟩ = some (.int .i64 a1_0) := (blk_cell BK279.out 0).trans rfl; have hcz30_1 : w27.cell? ⟨gb279, 1, none⟩ = some (.int .i64 a1_1) := (blk_cell BK279.out 1).trans rfl; have hcz30_2 : w27.cell? ⟨gb279, 2, none⟩ = some (.int .i64 a1_2) := (blk_cell BK279.out 2).trans rfl; have hcz30_3 : w27.cell? ⟨gb279, 3, none⟩ = some (.int .i64 a1_3) := (blk_cell BK279.out 3).trans rfl; have hcz30_4 : w27.cell? ⟨gb279, 4, none⟩ = some (.int .i64 a1_4) := (blk_cell BK279.out 4).trans rfl; have hcz30_5 : w27.cell? ⟨gb279, 5, none⟩ = some (.int .i64 a1_5) := (blk_cell BK279.out 5).trans rfl; have hfz30_0 := blk_frozen BK279.out 0; have hfz30_1 := blk_frozen BK279.out 1; have hfz30_2 := blk_frozen BK279.out 2; have hfz30_3 := blk_frozen BK279.out 3; have hfz30_4 := blk_frozen BK279.out 4; have hfz30_5 := blk_frozen BK279.out 5))
        go_ret
        exact ⟨by first | rfl | (simp [errW_none, errW_some] <;> rfl) | (simp [*, errW_none, errW_some] <;> rfl), by repeat (first | (with_reducible first | exact HB.out | apply below_alloc | apply pw_below_drewN | apply below_drew1 | refine below_set ?_ GE278.out | refine below_set ?_ GE279.out) | exact HB.out)⟩
    · rw [if_neg c4] at H
      have c4b0 : (a0_1 == a1_1) = false := beq_eq_false_iff_ne.mpr c4
      have c4b1 : (a0_1 != a1_1) = true := bne_iff_ne.mpr c4
      obtain rfl := Option.some.inj H
      go_enter Try.func75, Try.ntmps75
      go_wp2_with (first | ((with_reducible refine gate_dst (N := 2) rfl ?_); refine box_event ?hg (N := 2) ?hd (cs := #[.int .i64 a0_0, .int .i64 a0_1, .int .i64 a0_2, .int .i64 a0_3, .int .i64 a0_4, .int .i64 a0_5]) (t := 29) ?hr ?_; (case hd => rfl); (case hg => rfl); (case hr => first | (go_simp; done) | (go_simp; rfl)); intro gb278 hg w31 hbox hb; have n0_ := Aside0.mk (below_step (by repeat (first | (with_reducible first | exact HB.out | apply below_alloc | apply pw_below_drewN | apply below_drew1) | exact HB.out)) hb); have n1_ := Aside0.mk (hbox); have n2_ := Aside0.mk ((by rw [hg]; exact (below_size (by repeat (first | (with_reducible first | exact HB.out | apply below_alloc | apply pw_below_drewN | apply below_drew1) | exact HB.out))) : w.heap.size ≤ gb278)); have n3_ := Aside0.mk ((by rw [hg]; exact (below_size (by repeat (first | (with_reducible first | exact HB.out | apply below_alloc | apply pw_below_drewN | apply below_drew1) | exact HB.out))) : w.heap.size ≤ gb278)); clear HB; have HB := n0_; have BK278 := n1_; have GW278 := n2_; have GE278 := n3_; clear n0_ n1_ n2_ n3_; clear hb hbox hg) | ((with_reducible refine gate_dst (N := 3) rfl ?_); refine box_event ?hg (N := 3) ?hd (cs := #[.int .i64 a1_0, .int .i64 a1_1, .int .i64 a1_2, .int .i64 a1_3, .int .i64 a1_4, .int .i64 a1_5]) (t := 29) ?hr ?_; (case hd => rfl); (case hg => rfl); (case hr => first | (go_simp; done) | (go_simp; rfl)); intro gb279 hg w32 hbox hb; have n0_ := Aside0.mk (blk_below (g := gb278) (o := .cells #[.int .i64 a0_0, .int .i64 a0_1, .int .i64 a0_2, .int .i64 a0_3, .int .i64 a0_4, .int .i64 a0_5] 29 (0, 0)) (by (with_reducible repeat (first | refine blk_drewN ?_ _ | refine blk_drew ?_ | refine blk_alloc ?_ _)); exact BK278.out) hb); have n1_ := Aside0.mk (below_step (by repeat (first | (with_reducible first | exact HB.out | apply below_alloc | apply pw_below_drewN | apply below_drew1 | refine below_set ?_ GE278.out) | exact HB.out)) hb); have n2_ := Aside0.mk (hbox); have n3_ := Aside0.mk ((by rw [hg]; exact (below_size (by repeat (first | (with_reducible first | exact HB.out | apply below_alloc | apply pw_below_drewN | apply below_drew1 | refine below_set ?_ GE278.out) | exact HB.out))) : w.heap.size ≤ gb279)); have n4_ := Aside0.mk ((by rw [hg]; exact (below_size (by repeat (first | (with_reducible first | exact HB.out | apply below_alloc | apply pw_below_drewN | apply below_drew1 | refine below_set ?_ GE278.out) | exact HB.out))) : w.heap.size ≤ gb279)); have n5_ := Aside0.mk ((by rw [hg]; exact Nat.ne_of_lt (blk_lt (g := gb278) (o := .cells #[.int .i64 a0_0, .int .i64 a0_1, .int .i64 a0_2, .int .i64 a0_3, .int .i64 a0_4, .int .i64 a0_5] 29 (0, 0)) (by (with_reducible repeat (first | refine blk_drewN ?_ _ | refine blk_drew ?_ | refine blk_alloc ?_ _)); exact BK278.out)) : gb278 ≠ gb279)); have n6_ := Aside0.mk ((by rw [hg]; exact Nat.ne_of_gt (blk_lt (g := gb278) (o := .cells #[.int .i64 a0_0, .int .i64 a0_1, .int .i64 a0_2, .int .i64 a0_3, .int .i64 a0_4, .int .i64 a0_5] 29 (0, 0)) (by (with_reducible repeat (first | refine blk_drewN ?_ _ | refine blk_drew ?_ | refine blk_alloc ?_ _)); exact BK278.out)) : gb279 ≠ gb278)); clear BK278; clear HB; have BK278 := n0_; have HB := n1_; have BK279 := n2_; have GW279 := n3_; have GE279 := n4_; have NB278_279 := n5_; have NB279_278 := n6_; clear n0_ n1_ n2_ n3_ n4_ n5_ n6_; clear hb hbox hg; have hnb33 := NB278_279.out; have hnc33 := NB279_278.out; have hcz34_0 : w32.cell? ⟨gb278, 0, none⟩ = some (.int .i64 a0_0) := (blk_cell BK278.out 0).trans rfl; have hcz34_1 : w32.cell? ⟨gb278, 1, none⟩ = some (.int .i64 a0_1) := (blk_cell BK278.out 1).trans rfl; have hcz34_2 : w32.cell? ⟨gb278, 2, none⟩ = some (.int .i64 a0_2) := (blk_cell BK278.out 2).trans rfl; have hcz34_3 : w32.cell? ⟨gb278, 3, none⟩ = some (.int .i64 a0_3) := (blk_cell BK278.out 3).trans rfl; have hcz34_4 : w32.cell? ⟨gb278, 4, none⟩ = some (.int .i64 a0_4) := (blk_cell BK278.out 4).trans rfl; have hcz34_5 : w32.cell? ⟨gb278, 5, none⟩ = some (.int .i64 a0_5) := (blk_cell BK278.out 5).trans rfl; have hfz34_0 := blk_frozen BK278.out 0; have hfz34_1 := blk_frozen BK278.out 1; have hfz34_2 := blk_frozen BK278.out 2; have hfz34_3 := blk_frozen BK278.out 3; have hfz34_4 := blk_frozen BK278.out 4; have hfz34_5 := blk_frozen BK278.out 5; have hcz35_0 : w32.cell? ⟨gb279, 0, none⟩ = some (.int .i64 a1_0) := (blk_cell BK279.out 0).trans rfl; have hcz35_1 : w32.cell? ⟨gb279, 1, none⟩ = some (.int .i64 a1_1) := (blk_cell BK279.out 1).trans rfl; have hcz35_2 : w32.cell? ⟨gb279, 2, none⟩ = some (.int .i64 a1_2) := (blk_cell BK279.out 2).trans rfl; have hcz35_3 : w32.cell? ⟨gb279, 3, none⟩ = some (.int .i64 a1_3) := (blk_cell BK279.out 3).trans rfl; have hcz35_4 : w32.cell? ⟨gb279, 4, none⟩ = some (.int .i64 a1_4) := (blk_cell BK279.out 4).trans rfl; have hcz35_5 : w32.cell? ⟨gb279, 5, none⟩ = some (.int .i64 a1_5) := (blk_cell BK279.out 5).trans rfl; have hfz35_0 := blk_frozen BK279.out 0; have hfz35_1 := blk_frozen BK279.out 1; have hfz35_2 := blk_frozen BK279.out 2; have hfz35_3 := blk_frozen BK279.out 3; have hfz35_4 := blk_frozen BK279.out 4; have hfz35_5 := blk_frozen BK279.out 5))
      go_ret
      exact ⟨by first | rfl | (simp [errW_none, errW_some] <;> rfl) | (simp [*, errW_none, errW_some] <;> rfl), by repeat (first | (with_reducible first | exact HB.out | apply below_alloc | apply pw_below_drewN | apply below_drew1 | refine below_set ?_ GE278.out | refine below_set ?_ GE279.out) | exact HB.out)⟩
  · rw [if_neg c3] at H
    have c3b0 : (a0_0 == a1_0) = false := beq_eq_false_iff_ne.mpr c3
    have c3b1 : (a0_0 != a1_0) = true := bne_iff_ne.mpr c3
    obtain rfl := Option.some.inj H
    go_enter Try.func75, Try.ntmps75
    go_wp2_with (first | ((with_reducible refine gate_dst (N := 2) rfl ?_); refine box_event ?hg (N := 2) ?hd (cs := #[.int .i64 a0_0, .int .i64 a0_1, .int .i64 a0_2, .int .i64 a0_3, .int .i64 a0_4, .int .i64 a0_5]) (t := 29) ?hr ?_; (case hd => rfl); (case hg => rfl); (case hr => first | (go_simp; done) | (go_simp; rfl)); intro gb278 hg w36 hbox hb; have n0_ := Aside0.mk (below_step (by repeat (first | (with_reducible first | exact HB.out | apply below_alloc | apply pw_below_drewN | apply below_drew1) | exact HB.out)) hb); have n1_ := Aside0.mk (hbox); have n2_ := Aside0.mk ((by rw [hg]; exact (below_size (by repeat (first | (with_reducible first | exact HB.out | apply below_alloc | apply pw_below_drewN | apply below_drew1) | exact HB.out))) : w.heap.size ≤ gb278)); have n3_ := Aside0.mk ((by rw [hg]; exact (below_size (by repeat (first | (with_reducible first | exact HB.out | apply below_alloc | apply pw_below_drewN | apply below_drew1) | exact HB.out))) : w.heap.size ≤ gb278)); clear HB; have HB := n0_; have BK278 := n1_; have GW278 := n2_; have GE278 := n3_; clear n0_ n1_ n2_ n3_; clear hb hbox hg) | ((with_reducible refine gate_dst (N := 3) rfl ?_); refine box_event ?hg (N := 3) ?hd (cs := #[.int .i64 a1_0, .int .i64 a1_1, .int .i64 a1_2, .int .i64 a1_3, .int .i64 a1_4, .int .i64 a1_5]) (t := 29) ?hr ?_; (case hd => rfl); (case hg => rfl); (case hr => first | (go_simp; done) | (go_simp; rfl)); intro gb279 hg w37 hbox hb; have n0_ := Aside0.mk (blk_below (g := gb278) (o := .cells #[.int .i64 a0_0, .int .i64 a0_1, .int .i64 a0_2, .int .i64 a0_3, .int .i64 a0_4, .int .i64 a0_5] 29 (0, 0)) (by (with_reducible repeat (first | refine blk_drewN ?_ _ | refine blk_drew ?_ | refine blk_alloc ?_ _)); exact BK278.out) hb); have n1_ := Aside0.mk (below_step (by repeat (first | (with_reducible first | exact HB.out | apply below_alloc | apply pw_below_drewN | apply below_drew1 | refine below_set ?_ GE278.out) | exact HB.out)) hb); have n2_ := Aside0.mk (hbox); have n3_ := Aside0.mk ((by rw [hg]; exact (below_size (by repeat (first | (with_reducible first | exact HB.out | apply below_alloc | apply pw_below_drewN | apply below_drew1 | refine below_set ?_ GE278.out) | exact HB.out))) : w.heap.size ≤ gb279)); have n4_ := Aside0.mk ((by rw [hg]; exact (below_size (by repeat (first | (with_reducible first | exact HB.out | apply below_alloc | apply pw_below_drewN | apply below_drew1 | refine below_set ?_ GE278.out) | exact HB.out))) : w.heap.size ≤ gb279)); have n5_ := Aside0.mk ((by rw [hg]; exact Nat.ne_of_lt (blk_lt (g := gb278) (o := .cells #[.int .i64 a0_0, .int .i64 a0_1, .int .i64 a0_2, .int .i64 a0_3, .int .i64 a0_4, .int .i64 a0_5] 29 (0, 0)) (by (with_reducible repeat (first | refine blk_drewN ?_ _ | refine blk_drew ?_ | refine blk_alloc ?_ _)); exact BK278.out)) : gb278 ≠ gb279)); have n6_ := Aside0.mk ((by rw [hg]; exact Nat.ne_of_gt (blk_lt (g := gb278) (o := .cells #[.int .i64 a0_0, .int .i64 a0_1, .int .i64 a0_2, .int .i64 a0_3, .int .i64 a0_4, .int .i64 a0_5] 29 (0, 0)) (by (with_reducible repeat (first | refine blk_drewN ?_ _ | refine blk_drew ?_ | refine blk_alloc ?_ _)); exact BK278.out)) : gb279 ≠ gb278)); clear BK278; clear HB; have BK278 := n0_; have HB := n1_; have BK279 := n2_; have GW279 := n3_; have GE279 := n4_; have NB278_279 := n5_; have NB279_278 := n6_; clear n0_ n1_ n2_ n3_ n4_ n5_ n6_; clear hb hbox hg; have hnb38 := NB278_279.out; have hnc38 := NB279_278.out; have hcz39_0 : w37.cell? ⟨gb278, 0, none⟩ = some (.int .i64 a0_0) := (blk_cell BK278.out 0).trans rfl; have hcz39_1 : w37.cell? ⟨gb278, 1, none⟩ = some (.int .i64 a0_1) := (blk_cell BK278.out 1).trans rfl; have hcz39_2 : w37.cell? ⟨gb278, 2, none⟩ = some (.int .i64 a0_2) := (blk_cell BK278.out 2).trans rfl; have hcz39_3 : w37.cell? ⟨gb278, 3, none⟩ = some (.int .i64 a0_3) := (blk_cell BK278.out 3).trans rfl; have hcz39_4 : w37.cell? ⟨gb278, 4, none⟩ = some (.int .i64 a0_4) := (blk_cell BK278.out 4).trans rfl; have hcz39_5 : w37.cell? ⟨gb278, 5, none⟩ = some (.int .i64 a0_5) := (blk_cell BK278.out 5).trans rfl; have hfz39_0 := blk_frozen BK278.out 0; have hfz39_1 := blk_frozen BK278.out 1; have hfz39_2 := blk_frozen BK278.out 2; have hfz39_3 := blk_frozen BK278.out 3; have hfz39_4 := blk_frozen BK278.out 4; have hfz39_5 := blk_frozen BK278.out 5; have hcz40_0 : w37.cell? ⟨gb279, 0, none⟩ = some (.int .i64 a1_0) := (blk_cell BK279.out 0).trans rfl; have hcz40_1 : w37.cell? ⟨gb279, 1, none⟩ = some (.int .i64 a1_1) := (blk_cell BK279.out 1).trans rfl; have hcz40_2 : w37.cell? ⟨gb279, 2, none⟩ = some (.int .i64 a1_2) := (blk_cell BK279.out 2).trans rfl; have hcz40_3 : w37.cell? ⟨gb279, 3, none⟩ = some (.int .i64 a1_3) := (blk_cell BK279.out 3).trans rfl; have hcz40_4 : w37.cell? ⟨gb279, 4, none⟩ = some (.int .i64 a1_4) := (blk_cell BK279.out 4).trans rfl; have hcz40_5 : w37.cell? ⟨gb279, 5, none⟩ = some (.int .i64 a1_5) := (blk_cell BK279.out 5).trans rfl; have hfz40_0 := blk_frozen BK279.out 0; have hfz40_1 := blk_frozen BK279.out 1; have hfz40_2 := blk_frozen BK279.out 2; have hfz40_3 := blk_frozen BK279.out 3; have hfz40_4 := blk_frozen BK279.out 4; have hfz40_5 := blk_frozen BK279.out 5))
    go_ret
    exact ⟨by first | rfl | (simp [errW_none, errW_some] <;> rfl) | (simp [*, errW_none, errW_some] <;> rfl), by repeat (first | (with_reducible first | exact HB.out | apply below_alloc | apply pw_below_drewN | apply below_drew1 | refine below_set ?_ GE278.out | refine below_set ?_ GE279.out) | exact HB.out)⟩
def laws_eqOpS.l0 : Nat → List (S29) → List (S29) → Int → Option (Bool)
  | 0, _, _, _ => none
  | k + 1, x0, x1, x5 => if x5 < (x0.length : Int) then (if 0 ≤ x5 then (if x5 < (x1.length : Int) then ((laws_eqOp.f ((rd_T29 x0 x5).f0) ((rd_T29 x0 x5).f1) ((rd_T29 x0 x5).f2) ((rd_T29 x0 x5).f3) ((rd_T29 x0 x5).f4.f0) ((rd_T29 x0 x5).f4.f1) ((rd_T29 x1 x5).f0) ((rd_T29 x1 x5).f1) ((rd_T29 x1 x5).f2) ((rd_T29 x1 x5).f3) ((rd_T29 x1 x5).f4.f0) ((rd_T29 x1 x5).f4.f1)).bind fun t283 => (if t283 = true then (laws_eqOpS.l0 k x0 x1 (wrap64 (x5 + 1))) else (some false))) else (none)) else (none)) else (some true)
def laws_eqOpS.f (k : Nat) (l0 : List (S29)) (l1 : List (S29)) : Option (Bool) := if (l0.length : Int) = (l1.length : Int) then (laws_eqOpS.l0 k l0 l1 0) else (some false)
def laws_eqOpS.T6 : Bool × List (List Nat × List Nat) := (true, [([], []), ([], []), ([0, 1], [0, 1]), ([2], [2]), ([], []), ([], []), ([4, 5], [4, 5]), ([6], [6]), ([3, 7], [3, 7]), ([8], [8])])
def laws_eqOpS.B6 : List Nat := [0, 0, 3, 7, 0, 0, 48, 112, 255, 511]
theorem laws_eqOpS.tab6 : rtab .any (opsOf Try.f36 6) = laws_eqOpS.T6 := by kernel_rfl
theorem laws_eqOpS.bits6 : waitsOk laws_eqOpS.T6.2 laws_eqOpS.B6 = true := by kernel_rfl
set_option maxHeartbeats 8000000 in
set_option maxRecDepth 100000 in
theorem laws_eqOpS.calls (k : Nat) (A0 : Option Addr) (c0 : Nat) (l0 : List (S29)) (A1 : Option Addr) (c1 : Nat) (l1 : List (S29)) (r : Bool) (w : World) (hr0 : Kd.C k29 w A0 l0.length l0) (hc0 : l0.length ≤ c0) (hr1 : Kd.C k29 w A1 l1.length l1) (hc1 : l1.length ≤ c1) (h : laws_eqOpS.f k l0 l1 = some r) :
    Calls Try.prog 36 #[.slice A0 l0.length c0, .slice A1 l1.length c1] w fun e w' => e = .returned (.bool r) ∧ Below w.heap.size w w' := by
  have hu29 := Try.underlying29
  have HR0 := Aside0.mk hr0
  have HC0 := Aside0.mk hc0
  clear hr0 hc0
  have HR1 := Aside0.mk hr1
  have HC1 := Aside0.mk hc1
  clear hr1 hc1
  have HB := Aside0.mk (Below.refl w.heap.size w)
  have H : (if (l0.length : Int) = (l1.length : Int) then (laws_eqOpS.l0 k l0 l1 0) else (some false)) = some r := h
  clear h
  by_cases c3 : (l0.length : Int) = (l1.length : Int)
  · rw [if_pos c3] at H
    have c3b0 : ((l0.length : Int) == (l1.length : Int)) = true := beq_iff_eq.mpr c3
    have c3b1 : ((l0.length : Int) != (l1.length : Int)) = false := bne_eq_false_iff_eq.mpr c3
    have c3b2 : (l0.length == l1.length) = true := by first | simpa using c3 | (simp at c3 ⊢; omega)
    clear c3
    have H' := Aside0.mk H
    clear H
    go_enter Try.func36, Try.ntmps36
    go_wp2
    go_loopg [5] k (fun kq v5 w' => ∃ (x5_1 : Int), v5 = .int .i64 x5_1 ∧ Aside0 (laws_eqOpS.l0 kq l0 l1 x5_1 = some r) ∧ Aside0 (kq ≤ k) ∧ Aside0 (Below w.heap.size w w'))
    case atStart => exact ⟨(0), (by first | rfl | (simp; done) | (simp [*]; done)), H', ⟨Nat.le_refl _⟩, ⟨by repeat (first | (with_reducible first | exact HB.out | apply below_alloc | apply pw_below_drewN | apply below_drew1) | exact HB.out)⟩⟩
    case round =>
      clear H'
      try clear c1
      try clear p2
      try clear c3
      try clear c3b0
      try clear c3b1
      try clear c3b2
      obtain ⟨x5_1, rfl, HA, HK1, HB⟩ := hrel
      cases gk with
      | zero => exact absurd HA.out (by simp [laws_eqOpS.l0])
      | succ k1 =>
        have H := HA.out
        clear HA
        simp only [laws_eqOpS.l0] at H
        by_cases c4 : x5_1 < (l0.length : Int)
        · rw [if_pos c4] at H
          have c4b0 : decide (x5_1 < (l0.length : Int)) = true := decide_eq_true c4
          clear c4
          by_cases c5 : 0 ≤ x5_1
          · rw [if_pos c5] at H
            have c5b0 : decide (0 ≤ x5_1) = true := decide_eq_true c5
            clear c5
            by_cases c6 : x5_1 < (l1.length : Int)
            · rw [if_pos c6] at H
              have c6b0 : decide (x5_1 < (l1.length : Int)) = true := decide_eq_true c6
              clear c6
              replace H := Option.bind_eq_some_iff.mp H
              obtain ⟨t283, A70, H⟩ := H
              replace H : (if t283 = true then (laws_eqOpS.l0 k1 l0 l1 (wrap64 (x5_1 + 1))) else (some false)) = some r := H
              have A7 := Aside0.mk A70
              clear A70
              by_cases c8 : t283 = true
              · subst c8
                have H1 : (laws_eqOpS.l0 k1 l0 l1 (wrap64 (x5_1 + 1))) = some r := by rw [if_pos rfl] at H; exact H
                clear H
                have H := H1
                clear H1
                have H' := Aside0.mk H
                clear H
                try go_wp2
                have n0_ := Aside0.mk (below_drew1 HB.out)
                clear HB
                have HB := n0_
                clear n0_
                have p281 : 0 ≤ (x5_1 : Int) := of_decide_eq_true (by first | (with_reducible assumption) | assumption)
                have q281 : x5_1 < (l0.length : Int) := of_decide_eq_true (by first | (with_reducible assumption) | assumption)
                obtain ⟨ad281, e281, hx281_0, hx281_1, hx281_2, hx281_3, hx281_4, hx281_5⟩ := at_T29 HR0.out x5_1 p281 q281
                have hw281_5 := hx281_5
                have hw281_4 := hx281_4
                have hw281_3 := hx281_3
                have hw281_2 := hx281_2
                have hw281_1 := hx281_1
                have hw281_0 := hx281_0
                cases e281
                replace hx281_0 := (HB.out.cell (World.block_lt_of_cell? w _ hx281_0)).trans hx281_0
                replace hx281_1 := (HB.out.cell (World.block_lt_of_cell? w _ hx281_1)).trans hx281_1
                replace hx281_2 := (HB.out.cell (World.block_lt_of_cell? w _ hx281_2)).trans hx281_2
                replace hx281_3 := (HB.out.cell (World.block_lt_of_cell? w _ hx281_3)).trans hx281_3
                replace hx281_4 := (HB.out.cell (World.block_lt_of_cell? w _ hx281_4)).trans hx281_4
                replace hx281_5 := (HB.out.cell (World.block_lt_of_cell? w _ hx281_5)).trans hx281_5
                replace p281 := eq_true p281
                replace q281 := eq_true q281
                have p282 : 0 ≤ (x5_1 : Int) := of_decide_eq_true (by first | (with_reducible assumption) | assumption)
                have q282 : x5_1 < (l1.length : Int) := of_decide_eq_true (by first | (with_reducible assumption) | assumption)
                obtain ⟨ad282, e282, hx282_0, hx282_1, hx282_2, hx282_3, hx282_4, hx282_5⟩ := at_T29 HR1.out x5_1 p282 q282
                have hw282_5 := hx282_5
                have hw282_4 := hx282_4
                have hw282_3 := hx282_3
                have hw282_2 := hx282_2
                have hw282_1 := hx282_1
                have hw282_0 := hx282_0
                cases e282
                replace hx282_0 := (HB.out.cell (World.block_lt_of_cell? w _ hx282_0)).trans hx282_0
                replace hx282_1 := (HB.out.cell (World.block_lt_of_cell? w _ hx282_1)).trans hx282_1
                replace hx282_2 := (HB.out.cell (World.block_lt_of_cell? w _ hx282_2)).trans hx282_2
                replace hx282_3 := (HB.out.cell (World.block_lt_of_cell? w _ hx282_3)).trans hx282_3
                replace hx282_4 := (HB.out.cell (World.block_lt_of_cell? w _ hx282_4)).trans hx282_4
                replace hx282_5 := (HB.out.cell (World.block_lt_of_cell? w _ hx282_5)).trans hx282_5
                replace p282 := eq_true p282
                replace q282 := eq_true q282
                refine start_ (n := 10) (S := fun w' => w'.cell? (ad281.add ((x5_1).toNat * 6)) = some (.int .i64 ((rd_T29 l0 x5_1).f0)) ∧ w'.cell? ⟨(ad281.add ((x5_1).toNat * 6)).block, (ad281.add ((x5_1).toNat * 6)).off + 1, none⟩ = some (.int .i64 ((rd_T29 l0 x5_1).f1)) ∧ w'.cell? ⟨(ad281.add ((x5_1).toNat * 6)).block, (ad281.add ((x5_1).toNat * 6)).off + 2, none⟩ = some (.int .i64 ((rd_T29 l0 x5_1).f2)) ∧ w'.cell? ⟨(ad281.add ((x5_1).toNat * 6)).block, (ad281.add ((x5_1).toNat * 6)).off + 3, none⟩ = some (.int .i64 ((rd_T29 l0 x5_1).f3)) ∧ w'.cell? ⟨(ad281.add ((x5_1).toNat * 6)).block, (ad281.add ((x5_1).toNat * 6)).off + 4, none⟩ = some (.int .i64 ((rd_T29 l0 x5_1).f4.f0)) ∧ w'.cell? ⟨(ad281.add ((x5_1).toNat * 6)).block, (ad281.add ((x5_1).toNat * 6)).off + 5, none⟩ = some (.int .i64 ((rd_T29 l0 x5_1).f4.f1)) ∧ w'.cell? (ad282.add ((x5_1).toNat * 6)) = some (.int .i64 ((rd_T29 l1 x5_1).f0)) ∧ w'.cell? ⟨(ad282.add ((x5_1).toNat * 6)).block, (ad282.add ((x5_1).toNat * 6)).off + 1, none⟩ = some (.int .i64 ((rd_T29 l1 x5_1).f1)) ∧ w'.cell? ⟨(ad282.add ((x5_1).toNat * 6)).block, (ad282.add ((x5_1).toNat * 6)).off + 2, none⟩ = some (.int .i64 ((rd_T29 l1 x5_1).f2)) ∧ w'.cell? ⟨(ad282.add ((x5_1).toNat * 6)).block, (ad282.add ((x5_1).toNat * 6)).off + 3, none⟩ = some (.int .i64 ((rd_T29 l1 x5_1).f3)) ∧ w'.cell? ⟨(ad282.add ((x5_1).toNat * 6)).block, (ad282.add ((x5_1).toNat * 6)).off + 4, none⟩ = some (.int .i64 ((rd_T29 l1 x5_1).f4.f0)) ∧ w'.cell? ⟨(ad282.add ((x5_1).toNat * 6)).block, (ad282.add ((x5_1).toNat * 6)).off + 5, none⟩ = some (.int .i64 ((rd_T29 l1 x5_1).f4.f1))) (ds := []) #[false, false, false, false, false, false, false, false, false, false] (by kernel_rfl) rfl rfl ⟨((HB.out.cell (World.block_lt_of_cell? w _ hw281_0)).trans hw281_0), ((HB.out.cell (World.block_lt_of_cell? w _ hw281_1)).trans hw281_1), ((HB.out.cell (World.block_lt_of_cell? w _ hw281_2)).trans hw281_2), ((HB.out.cell (World.block_lt_of_cell? w _ hw281_3)).trans hw281_3), ((HB.out.cell (World.block_lt_of_cell? w _ hw281_4)).trans hw281_4), ((HB.out.cell (World.block_lt_of_cell? w _ hw281_5)).trans hw281_5), ((HB.out.cell (World.block_lt_of_cell? w _ hw282_0)).trans hw282_0), ((HB.out.cell (World.block_lt_of_cell? w _ hw282_1)).trans hw282_1), ((HB.out.cell (World.block_lt_of_cell? w _ hw282_2)).trans hw282_2), ((HB.out.cell (World.block_lt_of_cell? w _ hw282_3)).trans hw282_3), ((HB.out.cell (World.block_lt_of_cell? w _ hw282_4)).trans hw282_4), ((HB.out.cell (World.block_lt_of_cell? w _ hw282_5)).trans hw282_5)⟩ (fun hHeld => ?_); refine with_tabW laws_eqOpS.tab6 laws_eqOpS.bits6 (fun HT_ HW_ => ?_)
                generalize wr.drew = w9 at HB hx281_0 hx281_1 hx281_2 hx281_3 hx281_4 hx281_5 hx282_0 hx282_1 hx282_2 hx282_3 hx282_4 hx282_5 hHeld ⊢
                refine pure_ (i := 0) (N := some 17) (v := ?_) (a' := ?_) #[true, false, false, false, false, false, false, false, false, false] rfl rfl (any_of HT_.out (by kernel_rfl)) (fun _ _ _ h => h) (Or.inl ⟨by rfl, ?_⟩) ?_ ?_
                rotate_left
                · intro w'
                  go_simp
                  with_reducible rfl
                rotate_left
                · simp only [Act.put, List.setIfInBounds_toArray, List.set_cons_zero, List.set_cons_succ, i64_w, i32_w]
                  rfl
                refine pure_ (i := 1) (N := some 18) (v := ?_) (a' := ?_) #[true, true, false, false, false, false, false, false, false, false] rfl rfl (any_of HT_.out (by kernel_rfl)) (fun _ _ _ h => h) (Or.inl ⟨by rfl, ?_⟩) ?_ ?_
                rotate_left
                · intro w'
                  go_simp
                  with_reducible rfl
                rotate_left
                · simp only [Act.put, List.setIfInBounds_toArray, List.set_cons_zero, List.set_cons_succ, i64_w, i32_w]
                  rfl
                refine pure_ (i := 2) (N := some 19) (v := ?_) (a' := ?_) #[true, true, true, false, false, false, false, false, false, false] rfl rfl (any_of HT_.out (by kernel_rfl)) (fun _ _ _ h => h) (Or.inl ⟨by rfl, ?_⟩) ?_ ?_
                rotate_left
                · intro w'
                  go_simp
                  with_reducible rfl
                rotate_left
                · simp only [Act.put, List.setIfInBounds_toArray, List.set_cons_zero, List.set_cons_succ, i64_w, i32_w]
                  rfl
                refine pure_ (i := 4) (N := some 21) (v := ?_) (a' := ?_) #[true, true, true, false, true, false, false, false, false, false] rfl rfl (any_of HT_.out (by kernel_rfl)) (fun _ _ _ h => h) (Or.inl ⟨by rfl, ?_⟩) ?_ ?_
                rotate_left
                · intro w'
                  go_simp
                  with_reducible rfl
                rotate_left
                · simp only [Act.put, List.setIfInBounds_toArray, List.set_cons_zero, List.set_cons_succ, i64_w, i32_w]
                  rfl
                refine pure_ (i := 5) (N := some 22) (v := ?_) (a' := ?_) #[true, true, true, false, true, true, false, false, false, false] rfl rfl (any_of HT_.out (by kernel_rfl)) (fun _ _ _ h => h) (Or.inl ⟨by rfl, ?_⟩) ?_ ?_
                rotate_left
                · intro w'
                  go_simp
                  with_reducible rfl
                rotate_left
                · simp only [Act.put, List.setIfInBounds_toArray, List.set_cons_zero, List.set_cons_succ, i64_w, i32_w]
                  rfl
                refine pure_ (i := 6) (N := some 23) (v := ?_) (a' := ?_) #[true, true, true, false, true, true, true, false, false, false] rfl rfl (any_of HT_.out (by kernel_rfl)) (fun _ _ _ h => h) (Or.inl ⟨by rfl, ?_⟩) ?_ ?_
                rotate_left
                · intro w'
                  go_simp
                  with_reducible rfl
                rotate_left
                · simp only [Act.put, List.setIfInBounds_toArray, List.set_cons_zero, List.set_cons_succ, i64_w, i32_w]
                  rfl
                refine take_ (i := 3) (N := some 20) (v := ?_) (a' := ?_) #[true, true, true, true, true, true, true, false, false, false] rfl rfl (take_ofW HT_.out HW_.out (by kernel_rfl)) (fun _ _ _ h => h) (Or.inl ⟨by rfl, ?_⟩) hHeld ?_ ?_
                rotate_left
                · rintro w' ⟨s0, s1, s2, s3, s4, s5, s6, s7, s8, s9, s10, s11⟩
                  go_simp
                  with_reducible rfl
                rotate_left
                · simp only [Act.put, List.setIfInBounds_toArray, List.set_cons_zero, List.set_cons_succ, i64_w, i32_w]
                  rfl
                refine take_ (i := 7) (N := some 24) (v := ?_) (a' := ?_) #[true, true, true, true, true, true, true, true, false, false] rfl rfl (take_ofW HT_.out HW_.out (by kernel_rfl)) (fun _ _ _ h => h) (Or.inl ⟨by rfl, ?_⟩) hHeld ?_ ?_
                rotate_left
                · rintro w' ⟨s0, s1, s2, s3, s4, s5, s6, s7, s8, s9, s10, s11⟩
                  go_simp
                  with_reducible rfl
                rotate_left
                · simp only [Act.put, List.setIfInBounds_toArray, List.set_cons_zero, List.set_cons_succ, i64_w, i32_w]
                  rfl
                refine one_ (i := 8) (N := some 25) #[true, true, true, true, true, true, true, true, true, false] rfl rfl (one_of HT_.out (by kernel_rfl)) (by decide) (fun K hK => ?_)
                refine goes_ Try.func75 (by kernel_rfl) rfl #[.agg #[.int .i64 ((rd_T29 l0 x5_1).f0), .int .i64 ((rd_T29 l0 x5_1).f1), .int .i64 ((rd_T29 l0 x5_1).f2), .int .i64 ((rd_T29 l0 x5_1).f3), .int .i64 ((rd_T29 l0 x5_1).f4.f0), .int .i64 ((rd_T29 l0 x5_1).f4.f1)], .agg #[.int .i64 ((rd_T29 l1 x5_1).f0), .int .i64 ((rd_T29 l1 x5_1).f1), .int .i64 ((rd_T29 l1 x5_1).f2), .int .i64 ((rd_T29 l1 x5_1).f3), .int .i64 ((rd_T29 l1 x5_1).f4.f0), .int .i64 ((rd_T29 l1 x5_1).f4.f1)]] (by rfl) rfl rfl (by (try simp only [List.map_toArray, List.map_cons, List.map_nil]); first | done | rfl | (simp only [List.length_drop, List.length_take]; rfl)) ?_
                with_reducible refine (laws_eqOp.calls ((rd_T29 l0 x5_1).f0) ((rd_T29 l0 x5_1).f1) ((rd_T29 l0 x5_1).f2) ((rd_T29 l0 x5_1).f3) ((rd_T29 l0 x5_1).f4.f0) ((rd_T29 l0 x5_1).f4.f1) ((rd_T29 l1 x5_1).f0) ((rd_T29 l1 x5_1).f1) ((rd_T29 l1 x5_1).f2) ((rd_T29 l1 x5_1).f3) ((rd_T29 l1 x5_1).f4.f0) ((rd_T29 l1 x5_1).f4.f1) true _ A7.out).mono ?_
                rintro e w10 ⟨rfl, hb⟩
                refine ⟨_, rfl, ?_⟩
                have n0_ := Aside0.mk (below_step (by repeat (first | (with_reducible first | exact HB.out | apply below_alloc | apply pw_below_drewN | apply below_drew1) | exact HB.out)) hb)
                clear HB
                have HB := n0_
                clear n0_
                (try clear hb)
                (try clear hb2)
                (try clear hk)
                (try clear hi)
                refine hK.out _ _ ⟨((HB.out.cell (World.block_lt_of_cell? w _ hw281_0)).trans hw281_0), ((HB.out.cell (World.block_lt_of_cell? w _ hw281_1)).trans hw281_1), ((HB.out.cell (World.block_lt_of_cell? w _ hw281_2)).trans hw281_2), ((HB.out.cell (World.block_lt_of_cell? w _ hw281_3)).trans hw281_3), ((HB.out.cell (World.block_lt_of_cell? w _ hw281_4)).trans hw281_4), ((HB.out.cell (World.block_lt_of_cell? w _ hw281_5)).trans hw281_5), ((HB.out.cell (World.block_lt_of_cell? w _ hw282_0)).trans hw282_0), ((HB.out.cell (World.block_lt_of_cell? w _ hw282_1)).trans hw282_1), ((HB.out.cell (World.block_lt_of_cell? w _ hw282_2)).trans hw282_2), ((HB.out.cell (World.block_lt_of_cell? w _ hw282_3)).trans hw282_3), ((HB.out.cell (World.block_lt_of_cell? w _ hw282_4)).trans hw282_4), ((HB.out.cell (World.block_lt_of_cell? w _ hw282_5)).trans hw282_5)⟩ (fun hHeld => ?_)
                clear hK K
                refine norm_ (a' := ?_) ?_ ?_
                rotate_left
                · show Act.put _ (some 25) _ = _
                  simp only [Act.put, List.setIfInBounds_toArray, List.set_cons_zero, List.set_cons_succ, i64_w, i32_w]
                  rfl
                refine pure_ (i := 9) (N := some 26) (v := ?_) (a' := ?_) #[true, true, true, true, true, true, true, true, true, true] rfl rfl (any_of HT_.out (by kernel_rfl)) (fun _ _ _ h => h) (Or.inl ⟨by rfl, ?_⟩) ?_ ?_
                rotate_left
                · intro w'
                  go_simp
                  with_reducible rfl
                rotate_left
                · simp only [Act.put, List.setIfInBounds_toArray, List.set_cons_zero, List.set_cons_succ, i64_w, i32_w]
                  rfl
                refine done_ (done_of HT_.out (by kernel_rfl)) ?_
                try go_wp2
                go_roundg k1
                case measure => have := HK1.out; omega
                case rel => exact ⟨(wrap64 (x5_1 + 1)), (by first | rfl | (simp; done) | (simp [*]; done)), H', ⟨by have := HK1.out; omega⟩, ⟨by repeat (first | (with_reducible first | exact HB.out | apply below_alloc | apply pw_below_drewN | apply below_drew1) | exact HB.out)⟩⟩
              · replace c8 := Bool.eq_false_iff.mpr c8
                subst c8
                have H1 : (some false) = some r := by rw [if_neg (show ¬ (false = true) by decide)] at H; exact H
                clear H
                have H := H1
                clear H1
                obtain rfl := Option.some.inj H
                try go_wp2
                have n0_ := Aside0.mk (below_drew1 HB.out)
                clear HB
                have HB := n0_
                clear n0_
                have p281 : 0 ≤ (x5_1 : Int) := of_decide_eq_true (by first | (with_reducible assumption) | assumption)
                have q281 : x5_1 < (l0.length : Int) := of_decide_eq_true (by first | (with_reducible assumption) | assumption)
                obtain ⟨ad281, e281, hx281_0, hx281_1, hx281_2, hx281_3, hx281_4, hx281_5⟩ := at_T29 HR0.out x5_1 p281 q281
                have hw281_5 := hx281_5
                have hw281_4 := hx281_4
                have hw281_3 := hx281_3
                have hw281_2 := hx281_2
                have hw281_1 := hx281_1
                have hw281_0 := hx281_0
                cases e281
                replace hx281_0 := (HB.out.cell (World.block_lt_of_cell? w _ hx281_0)).trans hx281_0
                replace hx281_1 := (HB.out.cell (World.block_lt_of_cell? w _ hx281_1)).trans hx281_1
                replace hx281_2 := (HB.out.cell (World.block_lt_of_cell? w _ hx281_2)).trans hx281_2
                replace hx281_3 := (HB.out.cell (World.block_lt_of_cell? w _ hx281_3)).trans hx281_3
                replace hx281_4 := (HB.out.cell (World.block_lt_of_cell? w _ hx281_4)).trans hx281_4
                replace hx281_5 := (HB.out.cell (World.block_lt_of_cell? w _ hx281_5)).trans hx281_5
                replace p281 := eq_true p281
                replace q281 := eq_true q281
                have p282 : 0 ≤ (x5_1 : Int) := of_decide_eq_true (by first | (with_reducible assumption) | assumption)
                have q282 : x5_1 < (l1.length : Int) := of_decide_eq_true (by first | (with_reducible assumption) | assumption)
                obtain ⟨ad282, e282, hx282_0, hx282_1, hx282_2, hx282_3, hx282_4, hx282_5⟩ := at_T29 HR1.out x5_1 p282 q282
                have hw282_5 := hx282_5
                have hw282_4 := hx282_4
                have hw282_3 := hx282_3
                have hw282_2 := hx282_2
                have hw282_1 := hx282_1
                have hw282_0 := hx282_0
                cases e282
                replace hx282_0 := (HB.out.cell (World.block_lt_of_cell? w _ hx282_0)).trans hx282_0
                replace hx282_1 := (HB.out.cell (World.block_lt_of_cell? w _ hx282_1)).trans hx282_1
                replace hx282_2 := (HB.out.cell (World.block_lt_of_cell? w _ hx282_2)).trans hx282_2
                replace hx282_3 := (HB.out.cell (World.block_lt_of_cell? w _ hx282_3)).trans hx282_3
                replace hx282_4 := (HB.out.cell (World.block_lt_of_cell? w _ hx282_4)).trans hx282_4
                replace hx282_5 := (HB.out.cell (World.block_lt_of_cell? w _ hx282_5)).trans hx282_5
                replace p282 := eq_true p282
                replace q282 := eq_true q282
                refine start_ (n := 10) (S := fun w' => w'.cell? (ad281.add ((x5_1).toNat * 6)) = some (.int .i64 ((rd_T29 l0 x5_1).f0)) ∧ w'.cell? ⟨(ad281.add ((x5_1).toNat * 6)).block, (ad281.add ((x5_1).toNat * 6)).off + 1, none⟩ = some (.int .i64 ((rd_T29 l0 x5_1).f1)) ∧ w'.cell? ⟨(ad281.add ((x5_1).toNat * 6)).block, (ad281.add ((x5_1).toNat * 6)).off + 2, none⟩ = some (.int .i64 ((rd_T29 l0 x5_1).f2)) ∧ w'.cell? ⟨(ad281.add ((x5_1).toNat * 6)).block, (ad281.add ((x5_1).toNat * 6)).off + 3, none⟩ = some (.int .i64 ((rd_T29 l0 x5_1).f3)) ∧ w'.cell? ⟨(ad281.add ((x5_1).toNat * 6)).block, (ad281.add ((x5_1).toNat * 6)).off + 4, none⟩ = some (.int .i64 ((rd_T29 l0 x5_1).f4.f0)) ∧ w'.cell? ⟨(ad281.add ((x5_1).toNat * 6)).block, (ad281.add ((x5_1).toNat * 6)).off + 5, none⟩ = some (.int .i64 ((rd_T29 l0 x5_1).f4.f1)) ∧ w'.cell? (ad282.add ((x5_1).toNat * 6)) = some (.int .i64 ((rd_T29 l1 x5_1).f0)) ∧ w'.cell? ⟨(ad282.add ((x5_1).toNat * 6)).block, (ad282.add ((x5_1).toNat * 6)).off + 1, none⟩ = some (.int .i64 ((rd_T29 l1 x5_1).f1)) ∧ w'.cell? ⟨(ad282.add ((x5_1).toNat * 6)).block, (ad282.add ((x5_1).toNat * 6)).off + 2, none⟩ = some (.int .i64 ((rd_T29 l1 x5_1).f2)) ∧ w'.cell? ⟨(ad282.add ((x5_1).toNat * 6)).block, (ad282.add ((x5_1).toNat * 6)).off + 3, none⟩ = some (.int .i64 ((rd_T29 l1 x5_1).f3)) ∧ w'.cell? ⟨(ad282.add ((x5_1).toNat * 6)).block, (ad282.add ((x5_1).toNat * 6)).off + 4, none⟩ = some (.int .i64 ((rd_T29 l1 x5_1).f4.f0)) ∧ w'.cell? ⟨(ad282.add ((x5_1).toNat * 6)).block, (ad282.add ((x5_1).toNat * 6)).off + 5, none⟩ = some (.int .i64 ((rd_T29 l1 x5_1).f4.f1))) (ds := []) #[false, false, false, false, false, false, false, false, false, false] (by kernel_rfl) rfl rfl ⟨((HB.out.cell (World.block_lt_of_cell? w _ hw281_0)).trans hw281_0), ((HB.out.cell (World.block_lt_of_cell? w _ hw281_1)).trans hw281_1), ((HB.out.cell (World.block_lt_of_cell? w _ hw281_2)).trans hw281_2), ((HB.out.cell (World.block_lt_of_cell? w _ hw281_3)).trans hw281_3), ((HB.out.cell (World.block_lt_of_cell? w _ hw281_4)).trans hw281_4), ((HB.out.cell (World.block_lt_of_cell? w _ hw281_5)).trans hw281_5), ((HB.out.cell (World.block_lt_of_cell? w _ hw282_0)).trans hw282_0), ((HB.out.cell (World.block_lt_of_cell? w _ hw282_1)).trans hw282_1), ((HB.out.cell (World.block_lt_of_cell? w _ hw282_2)).trans hw282_2), ((HB.out.cell (World.block_lt_of_cell? w _ hw282_3)).trans hw282_3), ((HB.out.cell (World.block_lt_of_cell? w _ hw282_4)).trans hw282_4), ((HB.out.cell (World.block_lt_of_cell? w _ hw282_5)).trans hw282_5)⟩ (fun hHeld => ?_); refine with_tabW laws_eqOpS.tab6 laws_eqOpS.bits6 (fun HT_ HW_ => ?_)
                generalize wr.drew = w11 at HB hx281_0 hx281_1 hx281_2 hx281_3 hx281_4 hx281_5 hx282_0 hx282_1 hx282_2 hx282_3 hx282_4 hx282_5 hHeld ⊢
                refine pure_ (i := 0) (N := some 17) (v := ?_) (a' := ?_) #[true, false, false, false, false, false, false, false, false, false] rfl rfl (any_of HT_.out (by kernel_rfl)) (fun _ _ _ h => h) (Or.inl ⟨by rfl, ?_⟩) ?_ ?_
                rotate_left
                · intro w'
                  go_simp
                  with_reducible rfl
                rotate_left
                · simp only [Act.put, List.setIfInBounds_toArray, List.set_cons_zero, List.set_cons_succ, i64_w, i32_w]
                  rfl
                refine pure_ (i := 1) (N := some 18) (v := ?_) (a' := ?_) #[true, true, false, false, false, false, false, false, false, false] rfl rfl (any_of HT_.out (by kernel_rfl)) (fun _ _ _ h => h) (Or.inl ⟨by rfl, ?_⟩) ?_ ?_
                rotate_left
                · intro w'
                  go_simp
                  with_reducible rfl
                rotate_left
                · simp only [Act.put, List.setIfInBounds_toArray, List.set_cons_zero, List.set_cons_succ, i64_w, i32_w]
                  rfl
                refine pure_ (i := 2) (N := some 19) (v := ?_) (a' := ?_) #[true, true, true, false, false, false, false, false, false, false] rfl rfl (any_of HT_.out (by kernel_rfl)) (fun _ _ _ h => h) (Or.inl ⟨by rfl, ?_⟩) ?_ ?_
                rotate_left
                · intro w'
                  go_simp
                  with_reducible rfl
                rotate_left
                · simp only [Act.put, List.setIfInBounds_toArray, List.set_cons_zero, List.set_cons_succ, i64_w, i32_w]
                  rfl
                refine pure_ (i := 4) (N := some 21) (v := ?_) (a' := ?_) #[true, true, true, false, true, false, false, false, false, false] rfl rfl (any_of HT_.out (by kernel_rfl)) (fun _ _ _ h => h) (Or.inl ⟨by rfl, ?_⟩) ?_ ?_
                rotate_left
                · intro w'
                  go_simp
                  with_reducible rfl
                rotate_left
                · simp only [Act.put, List.setIfInBounds_toArray, List.set_cons_zero, List.set_cons_succ, i64_w, i32_w]
                  rfl
                refine pure_ (i := 5) (N := some 22) (v := ?_) (a' := ?_) #[true, true, true, false, true, true, false, false, false, false] rfl rfl (any_of HT_.out (by kernel_rfl)) (fun _ _ _ h => h) (Or.inl ⟨by rfl, ?_⟩) ?_ ?_
                rotate_left
                · intro w'
                  go_simp
                  with_reducible rfl
                rotate_left
                · simp only [Act.put, List.setIfInBounds_toArray, List.set_cons_zero, List.set_cons_succ, i64_w, i32_w]
                  rfl
                refine pure_ (i := 6) (N := some 23) (v := ?_) (a' := ?_) #[true, true, true, false, true, true, true, false, false, false] rfl rfl (any_of HT_.out (by kernel_rfl)) (fun _ _ _ h => h) (Or.inl ⟨by rfl, ?_⟩) ?_ ?_
                rotate_left
                · intro w'
                  go_simp
                  with_reducible rfl
                rotate_left
                · simp only [Act.put, List.setIfInBounds_toArray, List.set_cons_zero, List.set_cons_succ, i64_w, i32_w]
                  rfl
                refine take_ (i := 3) (N := some 20) (v := ?_) (a' := ?_) #[true, true, true, true, true, true, true, false, false, false] rfl rfl (take_ofW HT_.out HW_.out (by kernel_rfl)) (fun _ _ _ h => h) (Or.inl ⟨by rfl, ?_⟩) hHeld ?_ ?_
                rotate_left
                · rintro w' ⟨s0, s1, s2, s3, s4, s5, s6, s7, s8, s9, s10, s11⟩
                  go_simp
                  with_reducible rfl
                rotate_left
                · simp only [Act.put, List.setIfInBounds_toArray, List.set_cons_zero, List.set_cons_succ, i64_w, i32_w]
                  rfl
                refine take_ (i := 7) (N := some 24) (v := ?_) (a' := ?_) #[true, true, true, true, true, true, true, true, false, false] rfl rfl (take_ofW HT_.out HW_.out (by kernel_rfl)) (fun _ _ _ h => h) (Or.inl ⟨by rfl, ?_⟩) hHeld ?_ ?_
                rotate_left
                · rintro w' ⟨s0, s1, s2, s3, s4, s5, s6, s7, s8, s9, s10, s11⟩
                  go_simp
                  with_reducible rfl
                rotate_left
                · simp only [Act.put, List.setIfInBounds_toArray, List.set_cons_zero, List.set_cons_succ, i64_w, i32_w]
                  rfl
                refine one_ (i := 8) (N := some 25) #[true, true, true, true, true, true, true, true, true, false] rfl rfl (one_of HT_.out (by kernel_rfl)) (by decide) (fun K hK => ?_)
                refine goes_ Try.func75 (by kernel_rfl) rfl #[.agg #[.int .i64 ((rd_T29 l0 x5_1).f0), .int .i64 ((rd_T29 l0 x5_1).f1), .int .i64 ((rd_T29 l0 x5_1).f2), .int .i64 ((rd_T29 l0 x5_1).f3), .int .i64 ((rd_T29 l0 x5_1).f4.f0), .int .i64 ((rd_T29 l0 x5_1).f4.f1)], .agg #[.int .i64 ((rd_T29 l1 x5_1).f0), .int .i64 ((rd_T29 l1 x5_1).f1), .int .i64 ((rd_T29 l1 x5_1).f2), .int .i64 ((rd_T29 l1 x5_1).f3), .int .i64 ((rd_T29 l1 x5_1).f4.f0), .int .i64 ((rd_T29 l1 x5_1).f4.f1)]] (by rfl) rfl rfl (by (try simp only [List.map_toArray, List.map_cons, List.map_nil]); first | done | rfl | (simp only [List.length_drop, List.length_take]; rfl)) ?_
                with_reducible refine (laws_eqOp.calls ((rd_T29 l0 x5_1).f0) ((rd_T29 l0 x5_1).f1) ((rd_T29 l0 x5_1).f2) ((rd_T29 l0 x5_1).f3) ((rd_T29 l0 x5_1).f4.f0) ((rd_T29 l0 x5_1).f4.f1) ((rd_T29 l1 x5_1).f0) ((rd_T29 l1 x5_1).f1) ((rd_T29 l1 x5_1).f2) ((rd_T29 l1 x5_1).f3) ((rd_T29 l1 x5_1).f4.f0) ((rd_T29 l1 x5_1).f4.f1) false _ A7.out).mono ?_
                rintro e w12 ⟨rfl, hb⟩
                refine ⟨_, rfl, ?_⟩
                have n0_ := Aside0.mk (below_step (by repeat (first | (with_reducible first | exact HB.out | apply below_alloc | apply pw_below_drewN | apply below_drew1) | exact HB.out)) hb)
                clear HB
                have HB := n0_
                clear n0_
                (try clear hb)
                (try clear hb2)
                (try clear hk)
                (try clear hi)
                refine hK.out _ _ ⟨((HB.out.cell (World.block_lt_of_cell? w _ hw281_0)).trans hw281_0), ((HB.out.cell (World.block_lt_of_cell? w _ hw281_1)).trans hw281_1), ((HB.out.cell (World.block_lt_of_cell? w _ hw281_2)).trans hw281_2), ((HB.out.cell (World.block_lt_of_cell? w _ hw281_3)).trans hw281_3), ((HB.out.cell (World.block_lt_of_cell? w _ hw281_4)).trans hw281_4), ((HB.out.cell (World.block_lt_of_cell? w _ hw281_5)).trans hw281_5), ((HB.out.cell (World.block_lt_of_cell? w _ hw282_0)).trans hw282_0), ((HB.out.cell (World.block_lt_of_cell? w _ hw282_1)).trans hw282_1), ((HB.out.cell (World.block_lt_of_cell? w _ hw282_2)).trans hw282_2), ((HB.out.cell (World.block_lt_of_cell? w _ hw282_3)).trans hw282_3), ((HB.out.cell (World.block_lt_of_cell? w _ hw282_4)).trans hw282_4), ((HB.out.cell (World.block_lt_of_cell? w _ hw282_5)).trans hw282_5)⟩ (fun hHeld => ?_)
                clear hK K
                refine norm_ (a' := ?_) ?_ ?_
                rotate_left
                · show Act.put _ (some 25) _ = _
                  simp only [Act.put, List.setIfInBounds_toArray, List.set_cons_zero, List.set_cons_succ, i64_w, i32_w]
                  rfl
                refine pure_ (i := 9) (N := some 26) (v := ?_) (a' := ?_) #[true, true, true, true, true, true, true, true, true, true] rfl rfl (any_of HT_.out (by kernel_rfl)) (fun _ _ _ h => h) (Or.inl ⟨by rfl, ?_⟩) ?_ ?_
                rotate_left
                · intro w'
                  go_simp
                  with_reducible rfl
                rotate_left
                · simp only [Act.put, List.setIfInBounds_toArray, List.set_cons_zero, List.set_cons_succ, i64_w, i32_w]
                  rfl
                refine done_ (done_of HT_.out (by kernel_rfl)) ?_
                try go_wp2
                go_ret
                exact ⟨by first | rfl | (simp [errW_none, errW_some] <;> rfl) | (simp [*, errW_none, errW_some] <;> rfl), by repeat (first | (with_reducible first | exact HB.out | apply below_alloc | apply pw_below_drewN | apply below_drew1) | exact HB.out)⟩
            · rw [if_neg c6] at H
              exact absurd H (by simp)
          · rw [if_neg c5] at H
            exact absurd H (by simp)
        · rw [if_neg c4] at H
          have c4b0 : decide (x5_1 < (l0.length : Int)) = false := decide_eq_false c4
          clear c4
          obtain rfl := Option.some.inj H
          go_wp2
          go_ret
          exact ⟨by first | rfl | (simp [errW_none, errW_some] <;> rfl) | (simp [*, errW_none, errW_some] <;> rfl), by repeat (first | (with_reducible first | exact HB.out | apply below_alloc | apply pw_below_drewN | apply below_drew1) | exact HB.out)⟩
  · rw [if_neg c3] at H
    have c3b0 : ((l0.length : Int) == (l1.length : Int)) = false := beq_eq_false_iff_ne.mpr c3
    have c3b1 : ((l0.length : Int) != (l1.length : Int)) = true := bne_iff_ne.mpr c3
    have c3b2 : (l0.length == l1.length) = false := by first | simpa using c3 | (simp at c3 ⊢; omega)
    obtain rfl := Option.some.inj H
    go_enter Try.func36, Try.ntmps36
    go_wp2
    go_ret
    exact ⟨by first | rfl | (simp [errW_none, errW_some] <;> rfl) | (simp [*, errW_none, errW_some] <;> rfl), by repeat (first | (with_reducible first | exact HB.out | apply below_alloc | apply pw_below_drewN | apply below_drew1) | exact HB.out)⟩
def spec_l11Among.l0 : Nat → List Int → Int → Int → Option (Bool)
  | 0, _, _, _ => none
  | k + 1, x0, x1, x5 => if x5 < (x0.length : Int) then (if 0 ≤ x5 then (if (rd x0 x5) = x1 then (some true) else (spec_l11Among.l0 k x0 x1 (wrap64 (x5 + 1)))) else (none)) else (some false)
def spec_l11Among.f (k : Nat) (l0 : List Int) (a1 : Int) : Option (Bool) := spec_l11Among.l0 k l0 a1 0
theorem spec_l11Among.mono_l : ∀ k, (∀ y0 y1 y2, LeO (spec_l11Among.l0 k y0 y1 y2) (spec_l11Among.l0 (k + 1) y0 y1 y2))
  | 0 => fun _ _ _ r h => by simp [spec_l11Among.l0] at h
  | k + 1 => by
    have ih0 := spec_l11Among.mono_l k
    · intro y0 y1 y2
      unfold spec_l11Among.l0
      repeat' first
      | (with_reducible exact ih0 _ _ _)
      | (with_reducible exact LeO.refl _)
      | (with_reducible exact LeO.none _)
      | (with_reducible refine LeO.ite ?_ ?_)
      | (with_reducible refine LeO.bind ?_ (fun _ => ?_))
      | exact ih0 _ _ _
      | exact LeO.none _
      | refine LeO.ite ?_ ?_
      | refine LeO.bind ?_ (fun _ => ?_)
theorem spec_l11Among.mono : ∀ a0 a1 k, LeO (spec_l11Among.f k a0 a1) (spec_l11Among.f (k + 1) a0 a1) := by
  intro a0 a1 k
  have ih0 := spec_l11Among.mono_l k
  unfold spec_l11Among.f
  repeat' first
      | (with_reducible exact ih0 _ _ _)
      | (with_reducible exact LeO.refl _)
      | (with_reducible exact LeO.none _)
      | (with_reducible refine LeO.ite ?_ ?_)
      | (with_reducible refine LeO.bind ?_ (fun _ => ?_))
      | exact ih0 _ _ _
      | exact LeO.none _
      | refine LeO.ite ?_ ?_
      | refine LeO.bind ?_ (fun _ => ?_)
set_option maxHeartbeats 8000000 in
set_option maxRecDepth 100000 in
theorem spec_l11Among.calls (k : Nat) (A0 : Option Addr) (c0 : Nat) (l0 : List Int) (a1 : Int) (r : Bool) (w : World) (hr0 : Kd.C (Kd.int .i64) w A0 l0.length l0) (hc0 : l0.length ≤ c0) (h : spec_l11Among.f k l0 a1 = some r) :
    Calls Try.prog 79 #[.slice A0 l0.length c0, .int .i64 a1] w fun e w' => e = .returned (.bool r) ∧ Drawn0 w w' := by
  have HR0 := Aside0.mk hr0
  have HC0 := Aside0.mk hc0
  clear hr0 hc0
  have H : (spec_l11Among.l0 k l0 a1 0) = some r := h
  clear h
  have H' := Aside0.mk H
  clear H
  go_enter Try.func79, Try.ntmps79
  go_wp2
  go_loopg [5] k (fun kq v5 w' => ∃ (x5_1 : Int), v5 = .int .i64 x5_1 ∧ Aside0 (spec_l11Among.l0 kq l0 a1 x5_1 = some r) ∧ Aside0 (kq ≤ k) ∧ Drawn0 w w')
  case atStart => exact ⟨(0), (by first | rfl | (simp; done) | (simp [*]; done)), H', ⟨Nat.le_refl _⟩, by repeat (first | exact Drawn0.refl _ | apply Drawn0.step)⟩
  case round =>
    clear H'
    try clear p2
    obtain ⟨x5_1, rfl, HA, HK1, ⟨m1, rfl⟩⟩ := hrel
    cases gk with
    | zero => exact absurd HA.out (by simp [spec_l11Among.l0])
    | succ k1 =>
      have H := HA.out
      clear HA
      simp only [spec_l11Among.l0] at H
      by_cases c3 : x5_1 < (l0.length : Int)
      · rw [if_pos c3] at H
        have c3b0 : decide (x5_1 < (l0.length : Int)) = true := decide_eq_true c3
        clear c3
        by_cases c4 : 0 ≤ x5_1
        · rw [if_pos c4] at H
          have c4b0 : decide (0 ≤ x5_1) = true := decide_eq_true c4
          clear c4
          by_cases c5 : (rd l0 x5_1) = a1
          · rw [if_pos c5] at H
            have c5b0 : ((rd l0 x5_1) == a1) = true := beq_iff_eq.mpr c5
            have c5b1 : ((rd l0 x5_1) != a1) = false := bne_eq_false_iff_eq.mpr c5
            clear c5
            obtain rfl := Option.some.inj H
            have p295 : 0 ≤ (x5_1 : Int) := of_decide_eq_true (by first | (with_reducible assumption) | assumption)
            have q295 : x5_1 < (l0.length : Int) := of_decide_eq_true (by first | (with_reducible assumption) | assumption)
            obtain ⟨ad295, e295, hx295_0⟩ := Kd.at_int HR0.out x5_1 p295 q295
            cases e295
            replace p295 := eq_true p295
            replace q295 := eq_true q295
            go_wp2
            go_ret
            exact ⟨by first | rfl | (simp; done) | (simp [*]; done), by repeat (first | exact Drawn0.refl _ | apply Drawn0.step)⟩
          · rw [if_neg c5] at H
            have c5b0 : ((rd l0 x5_1) == a1) = false := beq_eq_false_iff_ne.mpr c5
            have c5b1 : ((rd l0 x5_1) != a1) = true := bne_iff_ne.mpr c5
            have H' := Aside0.mk H
            clear H
            have p295 : 0 ≤ (x5_1 : Int) := of_decide_eq_true (by first | (with_reducible assumption) | assumption)
            have q295 : x5_1 < (l0.length : Int) := of_decide_eq_true (by first | (with_reducible assumption) | assumption)
            obtain ⟨ad295, e295, hx295_0⟩ := Kd.at_int HR0.out x5_1 p295 q295
            cases e295
            replace p295 := eq_true p295
            replace q295 := eq_true q295
            go_wp2
            go_roundg k1
            case measure => have := HK1.out; omega
            case rel => exact ⟨(wrap64 (x5_1 + 1)), (by first | rfl | (simp; done) | (simp [*]; done)), H', ⟨by have := HK1.out; omega⟩, by repeat (first | exact Drawn0.refl _ | apply Drawn0.step)⟩
        · rw [if_neg c4] at H
          exact absurd H (by simp)
      · rw [if_neg c3] at H
        have c3b0 : decide (x5_1 < (l0.length : Int)) = false := decide_eq_false c3
        clear c3
        obtain rfl := Option.some.inj H
        go_wp2
        go_ret
        exact ⟨by first | rfl | (simp; done) | (simp [*]; done), by repeat (first | exact Drawn0.refl _ | apply Drawn0.step)⟩
end Go.Proofs.Ytmklpbmlgjkbiaa.PS
end
section
namespace Go.Proofs.Ytmklpbmlgjkbiaa.PS
open Go.RowKit Go.Proofs.YtmklpbmlgjkbiaaW.PrintWords Go.Proofs.YtmklpbmlgjkbiaaW.PrintLast
set_option linter.unusedVariables false
theorem rd29_at (l : List S29) (i : Nat) (h : i < l.length) : rd_T29 l (i : Int) = l[i] := by
  unfold rd_T29; simp [List.getD_eq_getElem?_getD, List.getElem?_eq_getElem h]
theorem rd25_at (l : List S25) (i : Nat) (h : i < l.length) : rd_T25 l (i : Int) = l[i] := by
  unfold rd_T25; simp [List.getD_eq_getElem?_getD, List.getElem?_eq_getElem h]
instance : DecidableEq S27 := fun a b => decidable_of_iff (a.f0 = b.f0 ∧ a.f1 = b.f1) ⟨fun ⟨h, g⟩ => by cases a; cases b; simp_all, fun h => by subst h; exact ⟨rfl, rfl⟩⟩
instance : DecidableEq S29 := fun a b => decidable_of_iff (a.f0 = b.f0 ∧ a.f1 = b.f1 ∧ a.f2 = b.f2 ∧ a.f3 = b.f3 ∧ a.f4 = b.f4) ⟨fun ⟨h, g, i, j, k⟩ => by cases a; cases b; simp_all, fun h => by subst h; exact ⟨rfl, rfl, rfl, rfl, rfl⟩⟩
theorem goes_eq (k : Int) : spec_l3Goes.f k = some (hasT k) := by
  unfold spec_l3Goes.f hasT
  by_cases h5 : k = 5
  · subst h5; rfl
  rw [if_neg h5]
  by_cases h8 : k = 8
  · subst h8; rfl
  rw [if_neg h8]
  by_cases h9 : k = 9
  · subst h9; rfl
  rw [if_neg h9]
  by_cases h10 : k = 10
  · subst h10; rfl
  have : (k == 10) = false := by simpa using h10
  rw [this]; simp [h5, h8, h9, h10]
theorem in_len (n : Nat) : spec_l6In.f (n : Int) 1 16 = some (decide (1 ≤ n ∧ n ≤ 16)) := by
  unfold spec_l6In.f
  split
  · congr 1; exact decide_eq_decide.2 (by omega)
  · congr 1; symm; exact decide_eq_false (by omega)
theorem scode_loop (l : List S29) (hm : l.length ≤ 9223372036854775807) (d : Nat) : ∀ (k i : Nat), l.length - i = d → i ≤ l.length → 2 * d < k →
    spec_CodeOk.l0 k l i = some (decide (1 ≤ l.length ∧ l.length ≤ 16) && !((l.drop i).any (wrongB l.length))) := by
  induction d with
  | zero =>
    intro k i hd hi hk
    obtain ⟨k, rfl⟩ : ∃ m, k = m + 1 := ⟨k - 1, by omega⟩
    simp only [spec_CodeOk.l0]
    rw [if_neg (by omega), List.drop_of_length_le (by omega), in_len]; simp
  | succ d ih =>
    intro k i hd hi hk
    obtain ⟨k, rfl⟩ : ∃ m, k = m + 1 := ⟨k - 1, by omega⟩
    obtain ⟨k, rfl⟩ : ∃ m, k = m + 1 := ⟨k - 1, by omega⟩
    simp only [spec_CodeOk.l0]
    have d0 : l.drop i = l[i]'(by omega) :: l.drop (i + 1) := List.drop_eq_getElem_cons (by omega)
    rw [if_pos (by omega), if_pos (by omega), rd29_at l i (by omega), d0]
    obtain ⟨x, hx⟩ : ∃ x, l[i]'(by omega) = x := ⟨_, rfl⟩
    rw [hx]
    have hw : wrongB l.length x = (!(opS x) || (hasT x.f0 && decide ((l.length : Int) ≤ x.f3))) := rfl
    have step : ∀ b : Bool, spec_CodeOk.j1 (k + 1) l i b = if b = true then some false else some (decide (1 ≤ l.length ∧ l.length ≤ 16) && !((l.drop (i + 1)).any (wrongB l.length))) := fun b => by
      simp only [spec_CodeOk.j1]
      rw [w64 (by omega) (by omega), show ((i : Int) + 1) = ((i + 1 : Nat) : Int) from by omega, ih k (i + 1) (by omega) (by omega) (by omega)]
    have ho : opV.f x.f0 x.f1 x.f2 x.f3 x.f4.f0 x.f4.f1 = some (opS x) := rfl
    rw [ho, goes_eq]
    simp only [Option.bind_some, step, List.any_cons, hw]
    cases opS x <;> cases hasT x.f0 <;> by_cases ht : (l.length : Int) ≤ x.f3 <;> simp [ht]
theorem scode_eq (l : List S29) (hm : l.length ≤ 9223372036854775807) : spec_CodeOk.f (2 * l.length + 1) l = some (codeB l) := by
  unfold spec_CodeOk.f
  exact scode_loop l hm l.length _ 0 (by omega) (by omega) (by omega)
def toS (x : S25) : S29 := ⟨x.f0, x.f1, x.f2, x.f3, ⟨x.f4.f0, x.f4.f1⟩⟩
def toOpsV.f (l : List S25) : Option (List S29) := if l.length ≤ 5864062014805 then some (l.map toS) else none
theorem toOps_loop (l : List S25) (hm : l.length ≤ 9223372036854775807) (d : Nat) : ∀ (k i : Nat) (x : List S29), x.length = l.length → l.length - i = d → i ≤ l.length → d < k →
    laws_toOpS.l0 k l x i = some (x.take i ++ (l.drop i).map toS) := by
  induction d with
  | zero =>
    intro k i x hx hd hi hk
    obtain ⟨k, rfl⟩ : ∃ m, k = m + 1 := ⟨k - 1, by omega⟩
    simp only [laws_toOpS.l0]
    rw [if_neg (by omega), List.take_of_length_le (by omega), List.drop_of_length_le (by omega)]; simp
  | succ d ih =>
    intro k i x hx hd hi hk
    obtain ⟨k, rfl⟩ : ∃ m, k = m + 1 := ⟨k - 1, by omega⟩
    simp only [laws_toOpS.l0]
    have d0 : l.drop i = l[i]'(by omega) :: l.drop (i + 1) := List.drop_eq_getElem_cons (by omega)
    rw [if_pos (by omega), if_pos (by omega), rd25_at l i (by omega), d0]
    unfold laws_toOp.f laws_toVal.f
    simp only [Option.bind_some]
    rw [if_pos (by omega), w64 (by omega) (by omega), show ((i : Int) + 1) = ((i + 1 : Nat) : Int) from by omega, Int.toNat_natCast, ih k (i + 1) _ (by simpa using hx) (by omega) (by omega) (by omega)]
    congr 1
    rw [List.take_succ_eq_append_getElem (by simp; omega), List.take_set_of_le (by omega), List.getElem_set_self, List.append_assoc]
    rfl
theorem toOps_eq (l : List S25) (hm : l.length ≤ 9223372036854775807) : laws_toOpS.f (l.length + 1) l = toOpsV.f l := by
  unfold laws_toOpS.f toOpsV.f
  rw [if_pos (by omega)]
  simp only [Int.toNat_natCast]
  by_cases h : l.length ≤ 5864062014805
  · rw [if_pos h, if_pos h]
    have := toOps_loop l hm l.length (l.length + 1) 0 (List.replicate l.length z29) (by simp) (by omega) (by omega) (by omega)
    simpa using this
  · rw [if_neg h, if_neg h]
theorem laws_toOpS_as.calls (A0 : Option Addr) (c0 : Nat) (l0 : List (S25)) (r : List (S29)) (w : World) (hr0 : Kd.C k25 w A0 l0.length l0) (hc0 : l0.length ≤ c0) (h : toOpsV.f l0 = some r) :
    Calls Try.prog 34 #[.slice A0 l0.length c0] w fun e w' => ∃ v0_ : Value, e = .returned (v0_) ∧ Kd.R k29 29 w' w.heap.size (fun _ => True) v0_ r ∧ Below w.heap.size w w' :=
  laws_toOpS.calls (l0.length + 1) A0 c0 l0 r w hr0 hc0 ((toOps_eq l0 (Kd.C_max hr0)).trans h)
def eqOpsV.f (l0 l1 : List S29) : Option Bool := some (decide (l0 = l1))
theorem eqOps_same (l : List S29) : eqOpsV.f l l = some true := by unfold eqOpsV.f; simp
theorem eqOp_eq (a b : S29) : laws_eqOp.f a.f0 a.f1 a.f2 a.f3 a.f4.f0 a.f4.f1 b.f0 b.f1 b.f2 b.f3 b.f4.f0 b.f4.f1 = some (decide (a = b)) := by
  obtain ⟨a0, a1, a2, a3, a4, a5⟩ := a
  obtain ⟨b0, b1, b2, b3, b4, b5⟩ := b
  unfold laws_eqOp.f laws_eqVal.f
  simp only []
  by_cases h0 : a0 = b0 <;> by_cases h1 : a1 = b1 <;> by_cases h2 : a2 = b2 <;> by_cases h3 : a3 = b3 <;> by_cases h4 : a4 = b4 <;> by_cases h5 : a5 = b5 <;> simp [h0, h1, h2, h3, h4, h5]
theorem eqOps_loop (l0 l1 : List S29) (hl : l0.length = l1.length) (hm : l0.length ≤ 9223372036854775807) (d : Nat) : ∀ (k i : Nat), l0.length - i = d → i ≤ l0.length → d < k →
    laws_eqOpS.l0 k l0 l1 i = some (decide (l0.drop i = l1.drop i)) := by
  induction d with
  | zero =>
    intro k i hd hi hk
    obtain ⟨k, rfl⟩ : ∃ m, k = m + 1 := ⟨k - 1, by omega⟩
    simp only [laws_eqOpS.l0]
    rw [if_neg (by omega), List.drop_of_length_le (by omega), List.drop_of_length_le (by omega)]; simp
  | succ d ih =>
    intro k i hd hi hk
    obtain ⟨k, rfl⟩ : ∃ m, k = m + 1 := ⟨k - 1, by omega⟩
    simp only [laws_eqOpS.l0]
    have d0 : l0.drop i = l0[i]'(by omega) :: l0.drop (i + 1) := List.drop_eq_getElem_cons (by omega)
    have d1 : l1.drop i = l1[i]'(by omega) :: l1.drop (i + 1) := List.drop_eq_getElem_cons (by omega)
    rw [if_pos (by omega), if_pos (by omega), if_pos (by omega), rd29_at l0 i (by omega), rd29_at l1 i (by omega), d0, d1, eqOp_eq]
    simp only [Option.bind_some]
    by_cases he : l0[i]'(by omega) = l1[i]'(by omega)
    · rw [if_pos (by simpa using he), w64 (by omega) (by omega), show ((i : Int) + 1) = ((i + 1 : Nat) : Int) from by omega, ih k (i + 1) (by omega) (by omega) (by omega), he]
      exact congrArg some (decide_eq_decide.2 ⟨fun h => by rw [h], fun h => (List.cons.inj h).2⟩)
    · rw [if_neg (by simpa using he)]
      exact congrArg some (decide_eq_false (fun h => he (List.cons.inj h).1)).symm
theorem eqOps_eq (l0 l1 : List S29) (hm : l0.length ≤ 9223372036854775807) : laws_eqOpS.f (l0.length + 1) l0 l1 = some (decide (l0 = l1)) := by
  unfold laws_eqOpS.f
  by_cases hl : l0.length = l1.length
  · rw [if_pos (by omega)]
    have := eqOps_loop l0 l1 hl hm l0.length (l0.length + 1) 0 (by omega) (by omega) (by omega)
    simpa using this
  · rw [if_neg (by omega)]
    have : l0 ≠ l1 := fun e => hl (by rw [e])
    simp [this]
theorem laws_eqOpS_as.calls (A0 : Option Addr) (c0 : Nat) (l0 : List (S29)) (A1 : Option Addr) (c1 : Nat) (l1 : List (S29)) (r : Bool) (w : World) (hr0 : Kd.C k29 w A0 l0.length l0) (hc0 : l0.length ≤ c0) (hr1 : Kd.C k29 w A1 l1.length l1) (hc1 : l1.length ≤ c1) (h : eqOpsV.f l0 l1 = some r) :
    Calls Try.prog 36 #[.slice A0 l0.length c0, .slice A1 l1.length c1] w fun e w' => e = .returned (.bool r) ∧ Below w.heap.size w w' :=
  laws_eqOpS.calls (l0.length + 1) A0 c0 l0 A1 c1 l1 r w hr0 hc0 hr1 hc1 ((eqOps_eq l0 l1 (Kd.C_max hr0)).trans h)
end Go.Proofs.Ytmklpbmlgjkbiaa.PS
end
section
namespace Go.Proofs.Ytmklpbmlgjkbiaa.PS
open Go.RowKit Go.Proofs.YtmklpbmlgjkbiaaW.PrintWords Go.Proofs.YtmklpbmlgjkbiaaW.PrintLast
set_option linter.unusedVariables false
set_option linter.unusedSimpArgs false
set_option maxRecDepth 100000
def setQ (x : S29) (q : Nat) (y : Int) : S29 :=
  match q with
  | 0 => ⟨y, x.f1, x.f2, x.f3, x.f4⟩
  | 1 => ⟨x.f0, y, x.f2, x.f3, x.f4⟩
  | 2 => ⟨x.f0, x.f1, y, x.f3, x.f4⟩
  | 3 => ⟨x.f0, x.f1, x.f2, y, x.f4⟩
  | 4 => ⟨x.f0, x.f1, x.f2, x.f3, ⟨y, x.f4.f1⟩⟩
  | _ => ⟨x.f0, x.f1, x.f2, x.f3, ⟨x.f4.f0, y⟩⟩
def cells29 (x : S29) : List Value := [.int .i64 x.f0, .int .i64 x.f1, .int .i64 x.f2, .int .i64 x.f3, .int .i64 x.f4.f0, .int .i64 x.f4.f1]
theorem store29 {ops : Array Oper} {rest : List Oper} {o : Oper} {a : Act} {Q : Exit → Act → World → Prop} {w0 W : World} (base : Nat) (hN : o.dst = none) (hgd : o.guard = none) (p x : Operand) (ho : o.op = .store 3 p x)
    {g n cap o' : Nat} (pre post : List S29) (cur : S29) (q : Nat) (hq : q < 6) (y : Int) (ok : Nat → Prop)
    (haddr : a.eval p = .pointer (some ⟨g, o', none⟩)) (hoff : o' = pre.length * 6 + q) (hx : a.eval x = .int .i64 y)
    (HO : Kd.R k29 29 W base ok (.slice (some ⟨g, 0, none⟩) n cap) (pre ++ cur :: post)) (HB : Below base w0 W)
    (h : ∀ w1, Kd.R k29 29 w1 base ok (.slice (some ⟨g, 0, none⟩) n cap) (pre ++ setQ cur q y :: post) → Below base w0 w1 → W.grownBy w1 (some g) → wpList Try.prog ops Q rest a w1) : wpList Try.prog ops Q (o :: rest) a W := by
  have hr := Kd.R_reads' HO
  have hn : n = (pre ++ cur :: post).length := hr.1
  have hj : pre.length < n := by rw [hn]; simp
  have hC := hr.2.2
  obtain ⟨ad, e, hcell⟩ := hC.2.2 (by simp; omega)
  cases e
  obtain ⟨cs, hl, hK, hcc⟩ := hcell pre.length cur (by simp)
  obtain rfl := k29_open hK
  have hset : (pre ++ cur :: post).set pre.length (setQ cur q y) = pre ++ setQ cur q y :: post := by
    rw [List.set_append_right _ _ (Nat.le_refl _), Nat.sub_self]; rfl
  refine Kd.R_store k29 base hN hgd 3 p x ho 29 (pre.length : Int) q (pre ++ cur :: post) (setQ cur q y) (.int .i64 y) [.int .i64 y] (cells29 cur) ok (fun _ => False) haddr (by rw [hoff, Int.toNat_natCast]; rfl) hx rfl (by kernel_rfl) (by simp [Value.oneCell']) HO (by omega) (by omega) rfl ?_ (by show q + 1 ≤ 6; omega) ?_ (fun k hk => hk.elim) HB ?_
  · intro j u hu
    have e : ∀ m : Nat, (⟨g, 0, none⟩ : Addr).add m = ⟨g, m, none⟩ := fun m => by
      unfold Addr.add; split
      · rename_i h; rw [h]
      · simp
    have := hcc j u hu
    rw [e] at this
    exact this
  · have e : (cells29 cur).take q ++ [Value.int .i64 y] ++ (cells29 cur).drop (q + 1) = cells29 (setQ cur q y) := by
      match q, hq with
      | 0, _ => rfl
      | 1, _ => rfl
      | 2, _ => rfl
      | 3, _ => rfl
      | 4, _ => rfl
      | 5, _ => rfl
    show k29.M W base _ _ ((cells29 cur).take q ++ [Value.int .i64 y] ++ (cells29 cur).drop (q + 1))
    rw [e]
    exact k29_mkM W base _ _
  · intro w1 h1 h2 h3
    rw [Int.toNat_natCast, hset] at h1
    exact h w1 h1 h2 h3
def markOp (k : Int) : S29 := ⟨k, wrap64 (k + 1), wrap64 (wrap64 (k + 1) + 1), wrap64 (wrap64 (wrap64 (k + 1) + 1) + 1), ⟨wrap64 (wrap64 (wrap64 (wrap64 (k + 1) + 1) + 1) + 1), wrap64 (wrap64 (wrap64 (wrap64 (wrap64 (k + 1) + 1) + 1) + 1) + 1)⟩⟩
def next6 (k : Int) : Int := wrap64 (wrap64 (wrap64 (wrap64 (wrap64 (wrap64 (k + 1) + 1) + 1) + 1) + 1) + 1)
def marksOp : Nat → Int → List S29
  | 0, _ => []
  | n + 1, k => markOp k :: marksOp n (next6 k)
def markedOp : Nat → Int → Int
  | 0, k => k
  | n + 1, k => markedOp n (next6 k)
def markV.f (l : List S29) (k : Int) : Option (Int × List S29) := some (markedOp l.length k, marksOp l.length k)
def MarkRel (w0 w : World) (base : Nat) (P0_ : Nat → Prop) (v : Value) (n : Nat) (r1 : Int) (r2 : List S29) (pre post : List S29) (x : Int) (wr : World) : Prop :=
  pre.length + post.length = n ∧ markedOp post.length x = r1 ∧ pre ++ marksOp post.length x = r2 ∧ Kd.R k29 29 wr base (fun k_ => (P0_ k_ ∨ w.heap.size ≤ k_)) v (pre ++ post) ∧ Below base w0 wr ∧ Kept w wr (fun k_ => P0_ k_)
set_option maxHeartbeats 8000000 in
theorem laws_markOpS.calls (P0_ : Nat → Prop) (u9000_ : Value) (l0 : List S29) (a1 : Int) (r1 : Int) (r2 : List S29) (w0 w : World) (hB : Below w0.heap.size w0 w) (ho0 : Kd.R k29 29 w w0.heap.size P0_ u9000_ l0) (h : markV.f l0 a1 = some (r1, r2)) :
    Calls Try.prog 40 #[u9000_, .int .i64 a1] w fun e w' => e = .returned (.int .i64 r1) ∧ Kd.R k29 29 w' w0.heap.size (fun k_ => (P0_ k_ ∨ w.heap.size ≤ k_)) u9000_ r2 ∧ Below w0.heap.size w0 w' ∧ Kept w w' (fun k_ => P0_ k_) := by
  have hm : l0.length ≤ 9223372036854775807 := by obtain ⟨A, c, _, _, hC⟩ := Kd.R_reads ho0; exact Kd.C_max hC
  have h := Option.some.inj h
  have e1 : markedOp l0.length a1 = r1 := (Prod.mk.inj h).1
  have e2 : marksOp l0.length a1 = r2 := (Prod.mk.inj h).2
  have HR : Aside0 (MarkRel w0 w w0.heap.size P0_ u9000_ l0.length r1 r2 [] l0 a1 w) := ⟨by simp, e1, e2, Kd.R_mono ho0 (fun _ hk => .inl hk), hB, Kept.refl w _⟩
  have hP := fun g (hg : u9000_.ownBlock = some g) => ho0.1 g hg
  obtain ⟨A, c, ev⟩ := Kd.R_slice ho0
  obtain ⟨n, hn⟩ : ∃ n, n = l0.length := ⟨_, rfl⟩
  have hform : 0 < n → ∃ g, A = some ⟨g, 0, none⟩ := fun hp => by
    obtain ⟨g, cap, e, _⟩ := Kd.R_form ho0 (by omega)
    rw [ev] at e
    injection e with e
    exact ⟨g, e⟩
  rw [← hn] at HR hm ev
  have HP : Aside0 (∀ g, u9000_.ownBlock = some g → P0_ g) := ⟨hP⟩
  have HL : Aside0 (n = l0.length) := ⟨hn⟩
  clear hP hn h e1 e2 ho0
  subst ev
  rcases Nat.eq_zero_or_pos n with hz | hz
  · subst hz
    obtain ⟨k1, k2, k3, k4, k5, k6⟩ := HR.out
    have hl : l0 = [] := List.length_eq_zero_iff.1 HL.out.symm
    subst hl
    have F := Aside0.mk (⟨k2, k3, k4, k5, k6⟩ : _ ∧ _ ∧ _ ∧ _ ∧ _)
    clear k1 k2 k3 k4 k5 k6 HR HL hB
    go_enter Try.func40, Try.ntmps40
    go_wp2
    go_loopg [1, 5] 0 (fun gg s1 s5 wr => s1 = .int .i64 a1 ∧ s5 = .int .i64 0 ∧ wr = w)
    case atStart => exact ⟨rfl, rfl, rfl⟩
    case round =>
      obtain ⟨rfl, rfl, rfl⟩ := hrel
      go_wp2
      go_ret
      obtain ⟨k2, k3, k4, k5, k6⟩ := F.out
      exact ⟨by rw [← k2]; rfl, by rw [← k3]; exact k4, k5, k6⟩
  · obtain ⟨g, rfl⟩ := hform hz
    clear hform hB
    go_enter Try.func40, Try.ntmps40
    go_wp2
    go_loopg [1, 5] n (fun gg s1 s5 wr => ∃ (pre post : List S29) (x : Int), s1 = .int .i64 x ∧ s5 = .int .i64 (pre.length : Int) ∧ post.length ≤ gg ∧ Aside0 (MarkRel w0 w w0.heap.size P0_ (.slice (some ⟨g, 0, none⟩) n c) n r1 r2 pre post x wr))
    case atStart => exact ⟨[], l0, a1, rfl, rfl, by rw [HL.out]; exact Nat.le_refl _, HR⟩
    case round =>
      clear HR HL
      obtain ⟨pre, post, x, rfl, rfl, hgg, R⟩ := hrel
      cases post with
      | nil =>
        have hlt : ¬ ((pre.length : Int) < (n : Int)) := by have := R.out.1; simp at this; omega
        go_wp2
        go_ret
        obtain ⟨k1, k2, k3, k4, k5, k6⟩ := R.out
        exact ⟨by rw [← k2]; rfl, by rw [← k3]; exact k4, k5, k6⟩
      | cons cur post =>
        have hlt : ((pre.length : Int) < (n : Int)) := by have := R.out.1; simp at this; omega
        have hj0 : (0 : Int) ≤ (pre.length : Int) := by omega
        have hgg : post.length + 1 ≤ gk := by simpa using hgg
        obtain ⟨j, hj⟩ : ∃ j, j = pre.length := ⟨_, rfl⟩
        rw [← hj] at hlt hj0 ⊢
        have HJ := Aside0.mk hj
        clear hj
        obtain ⟨R1, R2, R3, R4, R5, R6⟩ := R.out
        have H0 := Aside0.mk R4
        have B0 := Aside0.mk R5
        have G0 := Aside0.mk R6
        have F1 := Aside0.mk R1
        have F2 := Aside0.mk R2
        have F3 := Aside0.mk R3
        clear R R1 R2 R3 R4 R5 R6
        go_wp2_with (first | ((with_reducible refine gate_store (t := 3) (p := 16) rfl ?_); refine store29 w0.heap.size rfl rfl (.tmp 16) (.tmp 14) rfl pre post cur 0 (by omega) _ _ rfl (by first | rfl | (simp [HJ.out]; done) | (simp [HJ.out]; omega)) rfl H0.out B0.out ?_; intro w1 h_ b_ g_; have H1 := Aside0.mk h_; have B1 := Aside0.mk b_; have G1 := Aside0.mk (Kept.of_grown (S := (fun k_ => P0_ k_)) g_ G0.out (fun k_ e_ => .inl (HP.out k_ (by rw [← e_]; rfl)))); clear h_ b_ g_) | ((with_reducible refine gate_store (t := 3) (p := 23) rfl ?_); refine store29 w0.heap.size rfl rfl (.tmp 23) (.tmp 21) rfl pre post (setQ cur 0 (x)) 1 (by omega) _ _ rfl (by first | rfl | (simp [HJ.out]; done) | (simp [HJ.out]; omega)) rfl H1.out B1.out ?_; intro w2 h_ b_ g_; have H2 := Aside0.mk h_; have B2 := Aside0.mk b_; have G2 := Aside0.mk (Kept.of_grown (S := (fun k_ => P0_ k_)) g_ G1.out (fun k_ e_ => .inl (HP.out k_ (by rw [← e_]; rfl)))); clear h_ b_ g_) | ((with_reducible refine gate_store (t := 3) (p := 30) rfl ?_); refine store29 w0.heap.size rfl rfl (.tmp 30) (.tmp 28) rfl pre post (setQ (setQ cur 0 (x)) 1 (wrap64 (x + 1))) 2 (by omega) _ _ rfl (by first | rfl | (simp [HJ.out]; done) | (simp [HJ.out]; omega)) rfl H2.out B2.out ?_; intro w3 h_ b_ g_; have H3 := Aside0.mk h_; have B3 := Aside0.mk b_; have G3 := Aside0.mk (Kept.of_grown (S := (fun k_ => P0_ k_)) g_ G2.out (fun k_ e_ => .inl (HP.out k_ (by rw [← e_]; rfl)))); clear h_ b_ g_) | ((with_reducible refine gate_store (t := 3) (p := 37) rfl ?_); refine store29 w0.heap.size rfl rfl (.tmp 37) (.tmp 35) rfl pre post (setQ (setQ (setQ cur 0 (x)) 1 (wrap64 (x + 1))) 2 (wrap64 (wrap64 (x + 1) + 1))) 3 (by omega) _ _ rfl (by first | rfl | (simp [HJ.out]; done) | (simp [HJ.out]; omega)) rfl H3.out B3.out ?_; intro w4 h_ b_ g_; have H4 := Aside0.mk h_; have B4 := Aside0.mk b_; have G4 := Aside0.mk (Kept.of_grown (S := (fun k_ => P0_ k_)) g_ G3.out (fun k_ e_ => .inl (HP.out k_ (by rw [← e_]; rfl)))); clear h_ b_ g_) | ((with_reducible refine gate_store (t := 3) (p := 45) rfl ?_); refine store29 w0.heap.size rfl rfl (.tmp 45) (.tmp 42) rfl pre post (setQ (setQ (setQ (setQ cur 0 (x)) 1 (wrap64 (x + 1))) 2 (wrap64 (wrap64 (x + 1) + 1))) 3 (wrap64 (wrap64 (wrap64 (x + 1) + 1) + 1))) 4 (by omega) _ _ rfl (by first | rfl | (simp [HJ.out]; done) | (simp [HJ.out]; omega)) rfl H4.out B4.out ?_; intro w5 h_ b_ g_; have H5 := Aside0.mk h_; have B5 := Aside0.mk b_; have G5 := Aside0.mk (Kept.of_grown (S := (fun k_ => P0_ k_)) g_ G4.out (fun k_ e_ => .inl (HP.out k_ (by rw [← e_]; rfl)))); clear h_ b_ g_) | ((with_reducible refine gate_store (t := 3) (p := 53) rfl ?_); refine store29 w0.heap.size rfl rfl (.tmp 53) (.tmp 50) rfl pre post (setQ (setQ (setQ (setQ (setQ cur 0 (x)) 1 (wrap64 (x + 1))) 2 (wrap64 (wrap64 (x + 1) + 1))) 3 (wrap64 (wrap64 (wrap64 (x + 1) + 1) + 1))) 4 (wrap64 (wrap64 (wrap64 (wrap64 (x + 1) + 1) + 1) + 1))) 5 (by omega) _ _ rfl (by first | rfl | (simp [HJ.out]; done) | (simp [HJ.out]; omega)) rfl H5.out B5.out ?_; intro w6 h_ b_ g_; have H6 := Aside0.mk h_; have B6 := Aside0.mk b_; have G6 := Aside0.mk (Kept.of_grown (S := (fun k_ => P0_ k_)) g_ G5.out (fun k_ e_ => .inl (HP.out k_ (by rw [← e_]; rfl)))); clear h_ b_ g_))
        go_roundg post.length
        case measure => omega
        case rel =>
          have hf2 := F2.out
          have hf3 := F3.out
          have hf1 := F1.out
          refine ⟨pre ++ [markOp x], post, next6 x, rfl, by simp [HJ.out], Nat.le_refl _, ⟨by simp at hf1 ⊢; omega, hf2, by rw [← hf3, List.append_assoc]; rfl, ?_, B6.out, G6.out⟩⟩
          have := H6.out
          rw [List.append_assoc]
          exact this
end Go.Proofs.Ytmklpbmlgjkbiaa.PS
end
section
namespace Go.Proofs.Ytmklpbmlgjkbiaa.PS
open Go.RowKit Go.Proofs.YtmklpbmlgjkbiaaW.PrintWords Go.Proofs.YtmklpbmlgjkbiaaW.PrintLast
set_option linter.unusedVariables false
set_option linter.unusedSimpArgs false
set_option maxRecDepth 100000
inductive Fl where
  | same | fill | one
def Fl.val (B : Nat) : Fl → Value
  | .same => .func (.func 94) #[] #[]
  | .fill => .func (.func 95) #[] #[.pointer (some ⟨B, 0, none⟩)]
  | .one => .func (.func 96) #[] #[]
def arrowsL (n : Nat) (i k t : Int) : List (Int × Fl) :=
  (if k = 9 ∨ k = 14 then [] else if i + 1 < n then [(i + 1, if (howR k).f3 = true then .fill else .same)] else []) ++
  (if k = 5 then [(t, .one)] else if hasT k = true then [(t, .same)] else [])
def arrowCells (B : Nat) (l : List (Int × Fl)) : List Value := l.flatMap fun a => [.int .i64 a.1, a.2.val B]
theorem info77 : (Try.prog.info? 77).map (fun i => (i.zero, i.size, i.bytes)) = some (some (.agg #[.int .i64 0, .nilFunc]), 2, 16) := by kernel_rfl
theorem cell_two_new (w : World) (x y : Value) (t : TypeId) : ∀ j u, [x, y][j]? = some u → (w.alloc (.cells #[x, y] t)).cell? ((⟨w.heap.size, 0, none⟩ : Addr).add j) = some u := by
  intro j u h
  have h1 := blk_new w (.cells #[x, y] t)
  match j, h with
  | 0, h => exact (blk_cell h1 0).trans (by simpa using h)
  | 1, h => exact (blk_cell h1 1).trans (by simpa using h)
theorem cell_two_at (w : World) (b : Nat) (x y : Value) (t : TypeId) (hb : b = w.heap.size) : ∀ j u, [x, y][j]? = some u → (w.alloc (.cells #[x, y] t)).cell? ((⟨b, 0, none⟩ : Addr).add j) = some u := by
  subst hb; exact cell_two_new w x y t
theorem own_below {w W : World} {base : Nat} {e : TypeId} {size n : Nat} {v : Value} {xs : List Value} (h : w.ownsRow base e size v n xs) (hb : Below w.heap.size w W) : W.ownsRow base e size v n xs :=
  own_move h fun k hk => by obtain ⟨c, hc⟩ := own_typed h k hk; exact hb.block k (blk_lt hc)
theorem arr_step {w W w1 : World} {C o : Obj} {v : Value} {n : Nat} {xs : List Value} (BK : W.heap[w.heap.size]? = some C) (HB : Below w.heap.size w W) (hown : W.ownsRow (w.heap.size + 1) 77 2 v n xs)
    (hgrow : (W.alloc o).grownBy w1 v.ownBlock) : w1.heap[w.heap.size]? = some C ∧ Below w.heap.size w w1 :=
  ⟨blk_grown (blk_alloc BK _) hgrow (fun e => by have := own_base hown w.heap.size e.symm; omega),
   (below_alloc HB _).grown hgrow (below_alloc HB _).size (fun b hb => by have := own_base hown b hb; omega)⟩
set_option maxHeartbeats 8000000 in
theorem arrows_walk (A0 : Option Addr) (c0 n : Nat) (ad : Addr) (i : Nat) (hi : i < n) (hn : n ≤ 16) (hA : A0 = some ad) (k r s t vk vn : Int) (w : World) (bf bt : Bool) (x : S66) (hx : Aside0 (x = howR k)) (hbt : Aside0 (bt = hasT k))
    (x0 : w.cell? (ad.add (i * 6)) = some (.int .i64 k)) (x1 : w.cell? ⟨(ad.add (i * 6)).block, (ad.add (i * 6)).off + 1, none⟩ = some (.int .i64 r)) (x2 : w.cell? ⟨(ad.add (i * 6)).block, (ad.add (i * 6)).off + 2, none⟩ = some (.int .i64 s))
    (x3 : w.cell? ⟨(ad.add (i * 6)).block, (ad.add (i * 6)).off + 3, none⟩ = some (.int .i64 t)) (x4 : w.cell? ⟨(ad.add (i * 6)).block, (ad.add (i * 6)).off + 4, none⟩ = some (.int .i64 vk)) (x5 : w.cell? ⟨(ad.add (i * 6)).block, (ad.add (i * 6)).off + 5, none⟩ = some (.int .i64 vn))
    (hN : (k = 9 ∧ bt = true) ∨ (k = 14 ∧ bt = false) ∨ ((k == 9) = false ∧ (k == 14) = false)) (hf : x.f3 = bf) (L : List (Int × Fl)) (hL : Aside0 (L = arrowsL n i k t)) :
    Calls Try.prog 77 #[.slice A0 n c0, .int .i64 i] w fun e w' => ∃ v, e = .returned v ∧ w'.ownsRow (w.heap.size + 1) 77 2 v L.length (arrowCells w.heap.size L) ∧ w'.heap[w.heap.size]? = some (.cells #[.int .i64 k, .int .i64 r, .int .i64 s, .int .i64 t, .int .i64 vk, .int .i64 vn] 29 (0, 0)) ∧ Below w.heap.size w w' := by
  subst hA
  have hi0 : (0 : Int) ≤ (i : Int) := by omega
  have hi1 : (i : Int) < (n : Int) := by omega
  have hHow := fun W : World => impl_Op_how.calls k r s t vk vn x.f0 x.f1 x.f2 bf W (by rw [← hf, hx.out]; rfl)
  have hHas := fun W : World => has_any k r s t vk vn 84 W
  rw [hasC_T, ← hbt.out] at hHas
  have hfd : ∀ (a b c d : Value) (W : World), Sem.run Try.prog (Instr.field 66 (.agg #[a, b, c, d]) 3) W = .ok d W := fun _ _ _ _ _ => by kernel_rfl
  obtain ⟨i0, hi_, hz0, hz1, hz2⟩ := info_parts info77
  have BK : Aside0 ((w.alloc (.cells #[.int .i64 k, .int .i64 r, .int .i64 s, .int .i64 t, .int .i64 vk, .int .i64 vn] 29)).heap[w.heap.size]? = some (.cells #[.int .i64 k, .int .i64 r, .int .i64 s, .int .i64 t, .int .i64 vk, .int .i64 vn] 29 (0, 0))) := ⟨blk_new _ _⟩
  have HB := Aside0.mk (below_alloc (Below.refl w.heap.size w) (.cells #[.int .i64 k, .int .i64 r, .int .i64 s, .int .i64 t, .int .i64 vk, .int .i64 vn] 29))
  rcases hN with ⟨rfl, rfl⟩ | ⟨rfl, rfl⟩ | ⟨h9, h14⟩
  · have eL : L = [(t, .same)] := by rw [hL.out]; unfold arrowsL; rw [if_pos (.inl rfl), if_neg (by decide), if_pos hbt.out.symm]; rfl
    subst eL
    go_enter Try.func77, Try.ntmps77
    go_wp2_with (first | (go_at_call 64; refine (hHas _).mono ?_; rintro e w'2 ⟨rfl, hb⟩; have BK1 := Aside0.mk (blk_below BK.out hb); have HB1 := Aside0.mk (below_step HB.out hb); clear BK HB hb; have BK := BK1; have HB := HB1; clear BK1 HB1; obtain ⟨q0, q1, q2, q3, q4, q5⟩ : w'2.cell? ⟨w.heap.size, 0, none⟩ = some (.int .i64 9) ∧ w'2.cell? ⟨w.heap.size, 1, none⟩ = some (.int .i64 r) ∧ w'2.cell? ⟨w.heap.size, 2, none⟩ = some (.int .i64 s) ∧ w'2.cell? ⟨w.heap.size, 3, none⟩ = some (.int .i64 t) ∧ w'2.cell? ⟨w.heap.size, 4, none⟩ = some (.int .i64 vk) ∧ w'2.cell? ⟨w.heap.size, 5, none⟩ = some (.int .i64 vn) := ⟨(blk_cell BK.out 0).trans rfl, (blk_cell BK.out 1).trans rfl, (blk_cell BK.out 2).trans rfl, (blk_cell BK.out 3).trans rfl, (blk_cell BK.out 4).trans rfl, (blk_cell BK.out 5).trans rfl⟩) | (at_builtin; refine wpList_append_own _ rfl _ _ 74 rfl (w.heap.size + 1) 77 i0 (.agg #[.int .i64 0, .nilFunc]) 2 16 Try.underlying74 hi_ hz0 hz1 hz2 rfl (by decide) _ _ _ rfl (World.ownsRow_nil _ _ _ _) ⟨_, 0, none⟩ 1 1 [.int .i64 t, .func (.func 94) #[] #[]] rfl rfl (cell_two_at _ _ _ _ _ (by simp)) (by simp [Value.oneCell']) (by unfold maxLen; omega) (by omega) ?hb ?_; (case hb => have := blk_lt BK.out; first | (simp; omega) | simp); intro v' w1 hown' hgrow _; obtain ⟨BK1, HB1⟩ := arr_step BK.out HB.out (World.ownsRow_nil _ _ _ _) hgrow; have HO := Aside0.mk hown'; clear BK HB hown' hgrow; have BK := Aside0.mk BK1; have HB := Aside0.mk HB1; clear BK1 HB1; obtain ⟨q0, q1, q2, q3, q4, q5⟩ : w1.cell? ⟨w.heap.size, 0, none⟩ = some (.int .i64 9) ∧ w1.cell? ⟨w.heap.size, 1, none⟩ = some (.int .i64 r) ∧ w1.cell? ⟨w.heap.size, 2, none⟩ = some (.int .i64 s) ∧ w1.cell? ⟨w.heap.size, 3, none⟩ = some (.int .i64 t) ∧ w1.cell? ⟨w.heap.size, 4, none⟩ = some (.int .i64 vk) ∧ w1.cell? ⟨w.heap.size, 5, none⟩ = some (.int .i64 vn) := ⟨(blk_cell BK.out 0).trans rfl, (blk_cell BK.out 1).trans rfl, (blk_cell BK.out 2).trans rfl, (blk_cell BK.out 3).trans rfl, (blk_cell BK.out 4).trans rfl, (blk_cell BK.out 5).trans rfl⟩))
    all_goals go_ret
    all_goals exact ⟨_, rfl, HO.out, BK.out, HB.out⟩
  · have eL : L = [] := by rw [hL.out]; unfold arrowsL; rw [if_pos (.inr rfl), if_neg (by decide), if_neg (by rw [← hbt.out]; decide)]; rfl
    subst eL
    go_enter Try.func77, Try.ntmps77
    go_wp2_with (first | (go_at_call 64; refine (hHas _).mono ?_; rintro e w'2 ⟨rfl, hb⟩; have BK1 := Aside0.mk (blk_below BK.out hb); have HB1 := Aside0.mk (below_step HB.out hb); clear BK HB hb; have BK := BK1; have HB := HB1; clear BK1 HB1; obtain ⟨q0, q1, q2, q3, q4, q5⟩ : w'2.cell? ⟨w.heap.size, 0, none⟩ = some (.int .i64 14) ∧ w'2.cell? ⟨w.heap.size, 1, none⟩ = some (.int .i64 r) ∧ w'2.cell? ⟨w.heap.size, 2, none⟩ = some (.int .i64 s) ∧ w'2.cell? ⟨w.heap.size, 3, none⟩ = some (.int .i64 t) ∧ w'2.cell? ⟨w.heap.size, 4, none⟩ = some (.int .i64 vk) ∧ w'2.cell? ⟨w.heap.size, 5, none⟩ = some (.int .i64 vn) := ⟨(blk_cell BK.out 0).trans rfl, (blk_cell BK.out 1).trans rfl, (blk_cell BK.out 2).trans rfl, (blk_cell BK.out 3).trans rfl, (blk_cell BK.out 4).trans rfl, (blk_cell BK.out 5).trans rfl⟩))
    all_goals go_ret
    all_goals exact ⟨_, rfl, World.ownsRow_nil _ _ _ _, BK.out, HB.out⟩
  · have n9 : ¬ (k = 9 ∨ k = 14) := by simp at h9 h14; omega
    have m9 : (k != 9) = true := by simp [bne, h9]
    have m14 : (k != 14) = true := by simp [bne, h14]
    by_cases nx : (i : Int) + 1 < n
    · have dx : decide ((i : Int) + 1 < (n : Int)) = true := decide_eq_true nx
      cases bf
      · by_cases h5 : k = 5
        · subst h5
          have eL : L = [((i : Int) + 1, .same)] ++ [(t, .one)] := by rw [hL.out]; unfold arrowsL; rw [if_neg n9, if_pos nx, if_neg (by rw [← hx.out, hf]; decide), if_pos rfl] <;> rfl
          subst eL
          go_enter Try.func77, Try.ntmps77
          go_wp2_with (first | (go_at_call 67; refine (hHow _).mono ?_; rintro e w'4 ⟨rfl, hb⟩; have BK1 := Aside0.mk (blk_below BK.out hb); have HB1 := Aside0.mk (below_step HB.out hb); clear BK HB hb; have BK := BK1; have HB := HB1; clear BK1 HB1; obtain ⟨q0, q1, q2, q3, q4, q5⟩ : w'4.cell? ⟨w.heap.size, 0, none⟩ = some (.int .i64 5) ∧ w'4.cell? ⟨w.heap.size, 1, none⟩ = some (.int .i64 r) ∧ w'4.cell? ⟨w.heap.size, 2, none⟩ = some (.int .i64 s) ∧ w'4.cell? ⟨w.heap.size, 3, none⟩ = some (.int .i64 t) ∧ w'4.cell? ⟨w.heap.size, 4, none⟩ = some (.int .i64 vk) ∧ w'4.cell? ⟨w.heap.size, 5, none⟩ = some (.int .i64 vn) := ⟨(blk_cell BK.out 0).trans rfl, (blk_cell BK.out 1).trans rfl, (blk_cell BK.out 2).trans rfl, (blk_cell BK.out 3).trans rfl, (blk_cell BK.out 4).trans rfl, (blk_cell BK.out 5).trans rfl⟩) | (at_builtin; refine wpList_append_own _ rfl _ _ 74 rfl (w.heap.size + 1) 77 i0 (.agg #[.int .i64 0, .nilFunc]) 2 16 Try.underlying74 hi_ hz0 hz1 hz2 rfl (by decide) _ _ _ rfl (World.ownsRow_nil _ _ _ _) ⟨_, 0, none⟩ 1 1 [.int .i64 ((i : Int) + 1), .func (.func 94) #[] #[]] rfl rfl (cell_two_at _ _ _ _ _ (by simp)) (by simp [Value.oneCell']) (by unfold maxLen; omega) (by omega) ?hb ?_; (case hb => have := blk_lt BK.out; first | (simp; omega) | simp); intro v'w1 w1 hown' hgrow _; obtain ⟨BK1, HB1⟩ := arr_step BK.out HB.out (World.ownsRow_nil _ _ _ _) hgrow; have HO := Aside0.mk hown'; clear BK HB hown' hgrow; have BK := Aside0.mk BK1; have HB := Aside0.mk HB1; clear BK1 HB1; obtain ⟨q0, q1, q2, q3, q4, q5⟩ : w1.cell? ⟨w.heap.size, 0, none⟩ = some (.int .i64 5) ∧ w1.cell? ⟨w.heap.size, 1, none⟩ = some (.int .i64 r) ∧ w1.cell? ⟨w.heap.size, 2, none⟩ = some (.int .i64 s) ∧ w1.cell? ⟨w.heap.size, 3, none⟩ = some (.int .i64 t) ∧ w1.cell? ⟨w.heap.size, 4, none⟩ = some (.int .i64 vk) ∧ w1.cell? ⟨w.heap.size, 5, none⟩ = some (.int .i64 vn) := ⟨(blk_cell BK.out 0).trans rfl, (blk_cell BK.out 1).trans rfl, (blk_cell BK.out 2).trans rfl, (blk_cell BK.out 3).trans rfl, (blk_cell BK.out 4).trans rfl, (blk_cell BK.out 5).trans rfl⟩) | (at_builtin; refine wpList_append_own _ rfl _ _ 74 rfl (w.heap.size + 1) 77 i0 (.agg #[.int .i64 0, .nilFunc]) 2 16 Try.underlying74 hi_ hz0 hz1 hz2 rfl (by decide) _ _ _ rfl (HO.out.alloc _) ⟨_, 0, none⟩ 1 1 [.int .i64 t, .func (.func 96) #[] #[]] rfl rfl (cell_two_at _ _ _ _ _ (by simp)) (by simp [Value.oneCell']) (by unfold maxLen; omega) (by omega) ?hb ?_; (case hb => have := blk_lt BK.out; first | (simp; omega) | simp); intro v'w2 w2 hown' hgrow _; obtain ⟨BK1, HB1⟩ := arr_step BK.out HB.out HO.out hgrow; clear HO; have HO := Aside0.mk hown'; clear BK HB hown' hgrow; have BK := Aside0.mk BK1; have HB := Aside0.mk HB1; clear BK1 HB1; obtain ⟨q0, q1, q2, q3, q4, q5⟩ : w2.cell? ⟨w.heap.size, 0, none⟩ = some (.int .i64 5) ∧ w2.cell? ⟨w.heap.size, 1, none⟩ = some (.int .i64 r) ∧ w2.cell? ⟨w.heap.size, 2, none⟩ = some (.int .i64 s) ∧ w2.cell? ⟨w.heap.size, 3, none⟩ = some (.int .i64 t) ∧ w2.cell? ⟨w.heap.size, 4, none⟩ = some (.int .i64 vk) ∧ w2.cell? ⟨w.heap.size, 5, none⟩ = some (.int .i64 vn) := ⟨(blk_cell BK.out 0).trans rfl, (blk_cell BK.out 1).trans rfl, (blk_cell BK.out 2).trans rfl, (blk_cell BK.out 3).trans rfl, (blk_cell BK.out 4).trans rfl, (blk_cell BK.out 5).trans rfl⟩))
          all_goals go_ret
          all_goals exact ⟨_, rfl, HO.out, BK.out, HB.out⟩
        · have b5 : (k == 5) = false := by simpa using h5
          cases bt
          · have eL : L = [((i : Int) + 1, .same)] ++ [] := by rw [hL.out]; unfold arrowsL; rw [if_neg n9, if_pos nx, if_neg (by rw [← hx.out, hf]; decide), if_neg h5, if_neg (by rw [← hbt.out]; decide)] <;> rfl
            subst eL
            go_enter Try.func77, Try.ntmps77
            go_wp2_with (first | (go_at_call 67; refine (hHow _).mono ?_; rintro e w'4 ⟨rfl, hb⟩; have BK1 := Aside0.mk (blk_below BK.out hb); have HB1 := Aside0.mk (below_step HB.out hb); clear BK HB hb; have BK := BK1; have HB := HB1; clear BK1 HB1; obtain ⟨q0, q1, q2, q3, q4, q5⟩ : w'4.cell? ⟨w.heap.size, 0, none⟩ = some (.int .i64 k) ∧ w'4.cell? ⟨w.heap.size, 1, none⟩ = some (.int .i64 r) ∧ w'4.cell? ⟨w.heap.size, 2, none⟩ = some (.int .i64 s) ∧ w'4.cell? ⟨w.heap.size, 3, none⟩ = some (.int .i64 t) ∧ w'4.cell? ⟨w.heap.size, 4, none⟩ = some (.int .i64 vk) ∧ w'4.cell? ⟨w.heap.size, 5, none⟩ = some (.int .i64 vn) := ⟨(blk_cell BK.out 0).trans rfl, (blk_cell BK.out 1).trans rfl, (blk_cell BK.out 2).trans rfl, (blk_cell BK.out 3).trans rfl, (blk_cell BK.out 4).trans rfl, (blk_cell BK.out 5).trans rfl⟩) | (at_builtin; refine wpList_append_own _ rfl _ _ 74 rfl (w.heap.size + 1) 77 i0 (.agg #[.int .i64 0, .nilFunc]) 2 16 Try.underlying74 hi_ hz0 hz1 hz2 rfl (by decide) _ _ _ rfl (World.ownsRow_nil _ _ _ _) ⟨_, 0, none⟩ 1 1 [.int .i64 ((i : Int) + 1), .func (.func 94) #[] #[]] rfl rfl (cell_two_at _ _ _ _ _ (by simp)) (by simp [Value.oneCell']) (by unfold maxLen; omega) (by omega) ?hb ?_; (case hb => have := blk_lt BK.out; first | (simp; omega) | simp); intro v'w1 w1 hown' hgrow _; obtain ⟨BK1, HB1⟩ := arr_step BK.out HB.out (World.ownsRow_nil _ _ _ _) hgrow; have HO := Aside0.mk hown'; clear BK HB hown' hgrow; have BK := Aside0.mk BK1; have HB := Aside0.mk HB1; clear BK1 HB1; obtain ⟨q0, q1, q2, q3, q4, q5⟩ : w1.cell? ⟨w.heap.size, 0, none⟩ = some (.int .i64 k) ∧ w1.cell? ⟨w.heap.size, 1, none⟩ = some (.int .i64 r) ∧ w1.cell? ⟨w.heap.size, 2, none⟩ = some (.int .i64 s) ∧ w1.cell? ⟨w.heap.size, 3, none⟩ = some (.int .i64 t) ∧ w1.cell? ⟨w.heap.size, 4, none⟩ = some (.int .i64 vk) ∧ w1.cell? ⟨w.heap.size, 5, none⟩ = some (.int .i64 vn) := ⟨(blk_cell BK.out 0).trans rfl, (blk_cell BK.out 1).trans rfl, (blk_cell BK.out 2).trans rfl, (blk_cell BK.out 3).trans rfl, (blk_cell BK.out 4).trans rfl, (blk_cell BK.out 5).trans rfl⟩) | (go_at_call 64; refine (hHas _).mono ?_; rintro e w'2 ⟨rfl, hb⟩; have BK1 := Aside0.mk (blk_below BK.out hb); have HB1 := Aside0.mk (below_step HB.out hb); have HO1 := Aside0.mk (own_below HO.out hb); clear HO; have HO := HO1; clear HO1; clear BK HB hb; have BK := BK1; have HB := HB1; clear BK1 HB1; obtain ⟨q0, q1, q2, q3, q4, q5⟩ : w'2.cell? ⟨w.heap.size, 0, none⟩ = some (.int .i64 k) ∧ w'2.cell? ⟨w.heap.size, 1, none⟩ = some (.int .i64 r) ∧ w'2.cell? ⟨w.heap.size, 2, none⟩ = some (.int .i64 s) ∧ w'2.cell? ⟨w.heap.size, 3, none⟩ = some (.int .i64 t) ∧ w'2.cell? ⟨w.heap.size, 4, none⟩ = some (.int .i64 vk) ∧ w'2.cell? ⟨w.heap.size, 5, none⟩ = some (.int .i64 vn) := ⟨(blk_cell BK.out 0).trans rfl, (blk_cell BK.out 1).trans rfl, (blk_cell BK.out 2).trans rfl, (blk_cell BK.out 3).trans rfl, (blk_cell BK.out 4).trans rfl, (blk_cell BK.out 5).trans rfl⟩))
            all_goals go_ret
            all_goals exact ⟨_, rfl, HO.out, BK.out, HB.out⟩
          · have eL : L = [((i : Int) + 1, .same)] ++ [(t, .same)] := by rw [hL.out]; unfold arrowsL; rw [if_neg n9, if_pos nx, if_neg (by rw [← hx.out, hf]; decide), if_neg h5, if_pos hbt.out.symm] <;> rfl
            subst eL
            go_enter Try.func77, Try.ntmps77
            go_wp2_with (first | (go_at_call 67; refine (hHow _).mono ?_; rintro e w'4 ⟨rfl, hb⟩; have BK1 := Aside0.mk (blk_below BK.out hb); have HB1 := Aside0.mk (below_step HB.out hb); clear BK HB hb; have BK := BK1; have HB := HB1; clear BK1 HB1; obtain ⟨q0, q1, q2, q3, q4, q5⟩ : w'4.cell? ⟨w.heap.size, 0, none⟩ = some (.int .i64 k) ∧ w'4.cell? ⟨w.heap.size, 1, none⟩ = some (.int .i64 r) ∧ w'4.cell? ⟨w.heap.size, 2, none⟩ = some (.int .i64 s) ∧ w'4.cell? ⟨w.heap.size, 3, none⟩ = some (.int .i64 t) ∧ w'4.cell? ⟨w.heap.size, 4, none⟩ = some (.int .i64 vk) ∧ w'4.cell? ⟨w.heap.size, 5, none⟩ = some (.int .i64 vn) := ⟨(blk_cell BK.out 0).trans rfl, (blk_cell BK.out 1).trans rfl, (blk_cell BK.out 2).trans rfl, (blk_cell BK.out 3).trans rfl, (blk_cell BK.out 4).trans rfl, (blk_cell BK.out 5).trans rfl⟩) | (at_builtin; refine wpList_append_own _ rfl _ _ 74 rfl (w.heap.size + 1) 77 i0 (.agg #[.int .i64 0, .nilFunc]) 2 16 Try.underlying74 hi_ hz0 hz1 hz2 rfl (by decide) _ _ _ rfl (World.ownsRow_nil _ _ _ _) ⟨_, 0, none⟩ 1 1 [.int .i64 ((i : Int) + 1), .func (.func 94) #[] #[]] rfl rfl (cell_two_at _ _ _ _ _ (by simp)) (by simp [Value.oneCell']) (by unfold maxLen; omega) (by omega) ?hb ?_; (case hb => have := blk_lt BK.out; first | (simp; omega) | simp); intro v'w1 w1 hown' hgrow _; obtain ⟨BK1, HB1⟩ := arr_step BK.out HB.out (World.ownsRow_nil _ _ _ _) hgrow; have HO := Aside0.mk hown'; clear BK HB hown' hgrow; have BK := Aside0.mk BK1; have HB := Aside0.mk HB1; clear BK1 HB1; obtain ⟨q0, q1, q2, q3, q4, q5⟩ : w1.cell? ⟨w.heap.size, 0, none⟩ = some (.int .i64 k) ∧ w1.cell? ⟨w.heap.size, 1, none⟩ = some (.int .i64 r) ∧ w1.cell? ⟨w.heap.size, 2, none⟩ = some (.int .i64 s) ∧ w1.cell? ⟨w.heap.size, 3, none⟩ = some (.int .i64 t) ∧ w1.cell? ⟨w.heap.size, 4, none⟩ = some (.int .i64 vk) ∧ w1.cell? ⟨w.heap.size, 5, none⟩ = some (.int .i64 vn) := ⟨(blk_cell BK.out 0).trans rfl, (blk_cell BK.out 1).trans rfl, (blk_cell BK.out 2).trans rfl, (blk_cell BK.out 3).trans rfl, (blk_cell BK.out 4).trans rfl, (blk_cell BK.out 5).trans rfl⟩) | (go_at_call 64; refine (hHas _).mono ?_; rintro e w'2 ⟨rfl, hb⟩; have BK1 := Aside0.mk (blk_below BK.out hb); have HB1 := Aside0.mk (below_step HB.out hb); have HO1 := Aside0.mk (own_below HO.out hb); clear HO; have HO := HO1; clear HO1; clear BK HB hb; have BK := BK1; have HB := HB1; clear BK1 HB1; obtain ⟨q0, q1, q2, q3, q4, q5⟩ : w'2.cell? ⟨w.heap.size, 0, none⟩ = some (.int .i64 k) ∧ w'2.cell? ⟨w.heap.size, 1, none⟩ = some (.int .i64 r) ∧ w'2.cell? ⟨w.heap.size, 2, none⟩ = some (.int .i64 s) ∧ w'2.cell? ⟨w.heap.size, 3, none⟩ = some (.int .i64 t) ∧ w'2.cell? ⟨w.heap.size, 4, none⟩ = some (.int .i64 vk) ∧ w'2.cell? ⟨w.heap.size, 5, none⟩ = some (.int .i64 vn) := ⟨(blk_cell BK.out 0).trans rfl, (blk_cell BK.out 1).trans rfl, (blk_cell BK.out 2).trans rfl, (blk_cell BK.out 3).trans rfl, (blk_cell BK.out 4).trans rfl, (blk_cell BK.out 5).trans rfl⟩) | (at_builtin; refine wpList_append_own _ rfl _ _ 74 rfl (w.heap.size + 1) 77 i0 (.agg #[.int .i64 0, .nilFunc]) 2 16 Try.underlying74 hi_ hz0 hz1 hz2 rfl (by decide) _ _ _ rfl (HO.out.alloc _) ⟨_, 0, none⟩ 1 1 [.int .i64 t, .func (.func 94) #[] #[]] rfl rfl (cell_two_at _ _ _ _ _ (by simp)) (by simp [Value.oneCell']) (by unfold maxLen; omega) (by omega) ?hb ?_; (case hb => have := blk_lt BK.out; first | (simp; omega) | simp); intro v'w2 w2 hown' hgrow _; obtain ⟨BK1, HB1⟩ := arr_step BK.out HB.out HO.out hgrow; clear HO; have HO := Aside0.mk hown'; clear BK HB hown' hgrow; have BK := Aside0.mk BK1; have HB := Aside0.mk HB1; clear BK1 HB1; obtain ⟨q0, q1, q2, q3, q4, q5⟩ : w2.cell? ⟨w.heap.size, 0, none⟩ = some (.int .i64 k) ∧ w2.cell? ⟨w.heap.size, 1, none⟩ = some (.int .i64 r) ∧ w2.cell? ⟨w.heap.size, 2, none⟩ = some (.int .i64 s) ∧ w2.cell? ⟨w.heap.size, 3, none⟩ = some (.int .i64 t) ∧ w2.cell? ⟨w.heap.size, 4, none⟩ = some (.int .i64 vk) ∧ w2.cell? ⟨w.heap.size, 5, none⟩ = some (.int .i64 vn) := ⟨(blk_cell BK.out 0).trans rfl, (blk_cell BK.out 1).trans rfl, (blk_cell BK.out 2).trans rfl, (blk_cell BK.out 3).trans rfl, (blk_cell BK.out 4).trans rfl, (blk_cell BK.out 5).trans rfl⟩))
            all_goals go_ret
            all_goals exact ⟨_, rfl, HO.out, BK.out, HB.out⟩
      · by_cases h5 : k = 5
        · subst h5
          have eL : L = [((i : Int) + 1, .fill)] ++ [(t, .one)] := by rw [hL.out]; unfold arrowsL; rw [if_neg n9, if_pos nx, if_pos (by rw [← hx.out, hf]), if_pos rfl] <;> rfl
          subst eL
          go_enter Try.func77, Try.ntmps77
          go_wp2_with (first | (go_at_call 67; refine (hHow _).mono ?_; rintro e w'4 ⟨rfl, hb⟩; have BK1 := Aside0.mk (blk_below BK.out hb); have HB1 := Aside0.mk (below_step HB.out hb); clear BK HB hb; have BK := BK1; have HB := HB1; clear BK1 HB1; obtain ⟨q0, q1, q2, q3, q4, q5⟩ : w'4.cell? ⟨w.heap.size, 0, none⟩ = some (.int .i64 5) ∧ w'4.cell? ⟨w.heap.size, 1, none⟩ = some (.int .i64 r) ∧ w'4.cell? ⟨w.heap.size, 2, none⟩ = some (.int .i64 s) ∧ w'4.cell? ⟨w.heap.size, 3, none⟩ = some (.int .i64 t) ∧ w'4.cell? ⟨w.heap.size, 4, none⟩ = some (.int .i64 vk) ∧ w'4.cell? ⟨w.heap.size, 5, none⟩ = some (.int .i64 vn) := ⟨(blk_cell BK.out 0).trans rfl, (blk_cell BK.out 1).trans rfl, (blk_cell BK.out 2).trans rfl, (blk_cell BK.out 3).trans rfl, (blk_cell BK.out 4).trans rfl, (blk_cell BK.out 5).trans rfl⟩) | (at_builtin; refine wpList_append_own _ rfl _ _ 74 rfl (w.heap.size + 1) 77 i0 (.agg #[.int .i64 0, .nilFunc]) 2 16 Try.underlying74 hi_ hz0 hz1 hz2 rfl (by decide) _ _ _ rfl (World.ownsRow_nil _ _ _ _) ⟨_, 0, none⟩ 1 1 [.int .i64 ((i : Int) + 1), .func (.func 95) #[] #[.pointer (some ⟨w.heap.size, 0, none⟩)]] rfl rfl (cell_two_at _ _ _ _ _ (by simp)) (by simp [Value.oneCell']) (by unfold maxLen; omega) (by omega) ?hb ?_; (case hb => have := blk_lt BK.out; first | (simp; omega) | simp); intro v'w1 w1 hown' hgrow _; obtain ⟨BK1, HB1⟩ := arr_step BK.out HB.out (World.ownsRow_nil _ _ _ _) hgrow; have HO := Aside0.mk hown'; clear BK HB hown' hgrow; have BK := Aside0.mk BK1; have HB := Aside0.mk HB1; clear BK1 HB1; obtain ⟨q0, q1, q2, q3, q4, q5⟩ : w1.cell? ⟨w.heap.size, 0, none⟩ = some (.int .i64 5) ∧ w1.cell? ⟨w.heap.size, 1, none⟩ = some (.int .i64 r) ∧ w1.cell? ⟨w.heap.size, 2, none⟩ = some (.int .i64 s) ∧ w1.cell? ⟨w.heap.size, 3, none⟩ = some (.int .i64 t) ∧ w1.cell? ⟨w.heap.size, 4, none⟩ = some (.int .i64 vk) ∧ w1.cell? ⟨w.heap.size, 5, none⟩ = some (.int .i64 vn) := ⟨(blk_cell BK.out 0).trans rfl, (blk_cell BK.out 1).trans rfl, (blk_cell BK.out 2).trans rfl, (blk_cell BK.out 3).trans rfl, (blk_cell BK.out 4).trans rfl, (blk_cell BK.out 5).trans rfl⟩) | (at_builtin; refine wpList_append_own _ rfl _ _ 74 rfl (w.heap.size + 1) 77 i0 (.agg #[.int .i64 0, .nilFunc]) 2 16 Try.underlying74 hi_ hz0 hz1 hz2 rfl (by decide) _ _ _ rfl (HO.out.alloc _) ⟨_, 0, none⟩ 1 1 [.int .i64 t, .func (.func 96) #[] #[]] rfl rfl (cell_two_at _ _ _ _ _ (by simp)) (by simp [Value.oneCell']) (by unfold maxLen; omega) (by omega) ?hb ?_; (case hb => have := blk_lt BK.out; first | (simp; omega) | simp); intro v'w2 w2 hown' hgrow _; obtain ⟨BK1, HB1⟩ := arr_step BK.out HB.out HO.out hgrow; clear HO; have HO := Aside0.mk hown'; clear BK HB hown' hgrow; have BK := Aside0.mk BK1; have HB := Aside0.mk HB1; clear BK1 HB1; obtain ⟨q0, q1, q2, q3, q4, q5⟩ : w2.cell? ⟨w.heap.size, 0, none⟩ = some (.int .i64 5) ∧ w2.cell? ⟨w.heap.size, 1, none⟩ = some (.int .i64 r) ∧ w2.cell? ⟨w.heap.size, 2, none⟩ = some (.int .i64 s) ∧ w2.cell? ⟨w.heap.size, 3, none⟩ = some (.int .i64 t) ∧ w2.cell? ⟨w.heap.size, 4, none⟩ = some (.int .i64 vk) ∧ w2.cell? ⟨w.heap.size, 5, none⟩ = some (.int .i64 vn) := ⟨(blk_cell BK.out 0).trans rfl, (blk_cell BK.out 1).trans rfl, (blk_cell BK.out 2).trans rfl, (blk_cell BK.out 3).trans rfl, (blk_cell BK.out 4).trans rfl, (blk_cell BK.out 5).trans rfl⟩))
          all_goals go_ret
          all_goals exact ⟨_, rfl, HO.out, BK.out, HB.out⟩
        · have b5 : (k == 5) = false := by simpa using h5
          cases bt
          · have eL : L = [((i : Int) + 1, .fill)] ++ [] := by rw [hL.out]; unfold arrowsL; rw [if_neg n9, if_pos nx, if_pos (by rw [← hx.out, hf]), if_neg h5, if_neg (by rw [← hbt.out]; decide)] <;> rfl
            subst eL
            go_enter Try.func77, Try.ntmps77
            go_wp2_with (first | (go_at_call 67; refine (hHow _).mono ?_; rintro e w'4 ⟨rfl, hb⟩; have BK1 := Aside0.mk (blk_below BK.out hb); have HB1 := Aside0.mk (below_step HB.out hb); clear BK HB hb; have BK := BK1; have HB := HB1; clear BK1 HB1; obtain ⟨q0, q1, q2, q3, q4, q5⟩ : w'4.cell? ⟨w.heap.size, 0, none⟩ = some (.int .i64 k) ∧ w'4.cell? ⟨w.heap.size, 1, none⟩ = some (.int .i64 r) ∧ w'4.cell? ⟨w.heap.size, 2, none⟩ = some (.int .i64 s) ∧ w'4.cell? ⟨w.heap.size, 3, none⟩ = some (.int .i64 t) ∧ w'4.cell? ⟨w.heap.size, 4, none⟩ = some (.int .i64 vk) ∧ w'4.cell? ⟨w.heap.size, 5, none⟩ = some (.int .i64 vn) := ⟨(blk_cell BK.out 0).trans rfl, (blk_cell BK.out 1).trans rfl, (blk_cell BK.out 2).trans rfl, (blk_cell BK.out 3).trans rfl, (blk_cell BK.out 4).trans rfl, (blk_cell BK.out 5).trans rfl⟩) | (at_builtin; refine wpList_append_own _ rfl _ _ 74 rfl (w.heap.size + 1) 77 i0 (.agg #[.int .i64 0, .nilFunc]) 2 16 Try.underlying74 hi_ hz0 hz1 hz2 rfl (by decide) _ _ _ rfl (World.ownsRow_nil _ _ _ _) ⟨_, 0, none⟩ 1 1 [.int .i64 ((i : Int) + 1), .func (.func 95) #[] #[.pointer (some ⟨w.heap.size, 0, none⟩)]] rfl rfl (cell_two_at _ _ _ _ _ (by simp)) (by simp [Value.oneCell']) (by unfold maxLen; omega) (by omega) ?hb ?_; (case hb => have := blk_lt BK.out; first | (simp; omega) | simp); intro v'w1 w1 hown' hgrow _; obtain ⟨BK1, HB1⟩ := arr_step BK.out HB.out (World.ownsRow_nil _ _ _ _) hgrow; have HO := Aside0.mk hown'; clear BK HB hown' hgrow; have BK := Aside0.mk BK1; have HB := Aside0.mk HB1; clear BK1 HB1; obtain ⟨q0, q1, q2, q3, q4, q5⟩ : w1.cell? ⟨w.heap.size, 0, none⟩ = some (.int .i64 k) ∧ w1.cell? ⟨w.heap.size, 1, none⟩ = some (.int .i64 r) ∧ w1.cell? ⟨w.heap.size, 2, none⟩ = some (.int .i64 s) ∧ w1.cell? ⟨w.heap.size, 3, none⟩ = some (.int .i64 t) ∧ w1.cell? ⟨w.heap.size, 4, none⟩ = some (.int .i64 vk) ∧ w1.cell? ⟨w.heap.size, 5, none⟩ = some (.int .i64 vn) := ⟨(blk_cell BK.out 0).trans rfl, (blk_cell BK.out 1).trans rfl, (blk_cell BK.out 2).trans rfl, (blk_cell BK.out 3).trans rfl, (blk_cell BK.out 4).trans rfl, (blk_cell BK.out 5).trans rfl⟩) | (go_at_call 64; refine (hHas _).mono ?_; rintro e w'2 ⟨rfl, hb⟩; have BK1 := Aside0.mk (blk_below BK.out hb); have HB1 := Aside0.mk (below_step HB.out hb); have HO1 := Aside0.mk (own_below HO.out hb); clear HO; have HO := HO1; clear HO1; clear BK HB hb; have BK := BK1; have HB := HB1; clear BK1 HB1; obtain ⟨q0, q1, q2, q3, q4, q5⟩ : w'2.cell? ⟨w.heap.size, 0, none⟩ = some (.int .i64 k) ∧ w'2.cell? ⟨w.heap.size, 1, none⟩ = some (.int .i64 r) ∧ w'2.cell? ⟨w.heap.size, 2, none⟩ = some (.int .i64 s) ∧ w'2.cell? ⟨w.heap.size, 3, none⟩ = some (.int .i64 t) ∧ w'2.cell? ⟨w.heap.size, 4, none⟩ = some (.int .i64 vk) ∧ w'2.cell? ⟨w.heap.size, 5, none⟩ = some (.int .i64 vn) := ⟨(blk_cell BK.out 0).trans rfl, (blk_cell BK.out 1).trans rfl, (blk_cell BK.out 2).trans rfl, (blk_cell BK.out 3).trans rfl, (blk_cell BK.out 4).trans rfl, (blk_cell BK.out 5).trans rfl⟩))
            all_goals go_ret
            all_goals exact ⟨_, rfl, HO.out, BK.out, HB.out⟩
          · have eL : L = [((i : Int) + 1, .fill)] ++ [(t, .same)] := by rw [hL.out]; unfold arrowsL; rw [if_neg n9, if_pos nx, if_pos (by rw [← hx.out, hf]), if_neg h5, if_pos hbt.out.symm] <;> rfl
            subst eL
            go_enter Try.func77, Try.ntmps77
            go_wp2_with (first | (go_at_call 67; refine (hHow _).mono ?_; rintro e w'4 ⟨rfl, hb⟩; have BK1 := Aside0.mk (blk_below BK.out hb); have HB1 := Aside0.mk (below_step HB.out hb); clear BK HB hb; have BK := BK1; have HB := HB1; clear BK1 HB1; obtain ⟨q0, q1, q2, q3, q4, q5⟩ : w'4.cell? ⟨w.heap.size, 0, none⟩ = some (.int .i64 k) ∧ w'4.cell? ⟨w.heap.size, 1, none⟩ = some (.int .i64 r) ∧ w'4.cell? ⟨w.heap.size, 2, none⟩ = some (.int .i64 s) ∧ w'4.cell? ⟨w.heap.size, 3, none⟩ = some (.int .i64 t) ∧ w'4.cell? ⟨w.heap.size, 4, none⟩ = some (.int .i64 vk) ∧ w'4.cell? ⟨w.heap.size, 5, none⟩ = some (.int .i64 vn) := ⟨(blk_cell BK.out 0).trans rfl, (blk_cell BK.out 1).trans rfl, (blk_cell BK.out 2).trans rfl, (blk_cell BK.out 3).trans rfl, (blk_cell BK.out 4).trans rfl, (blk_cell BK.out 5).trans rfl⟩) | (at_builtin; refine wpList_append_own _ rfl _ _ 74 rfl (w.heap.size + 1) 77 i0 (.agg #[.int .i64 0, .nilFunc]) 2 16 Try.underlying74 hi_ hz0 hz1 hz2 rfl (by decide) _ _ _ rfl (World.ownsRow_nil _ _ _ _) ⟨_, 0, none⟩ 1 1 [.int .i64 ((i : Int) + 1), .func (.func 95) #[] #[.pointer (some ⟨w.heap.size, 0, none⟩)]] rfl rfl (cell_two_at _ _ _ _ _ (by simp)) (by simp [Value.oneCell']) (by unfold maxLen; omega) (by omega) ?hb ?_; (case hb => have := blk_lt BK.out; first | (simp; omega) | simp); intro v'w1 w1 hown' hgrow _; obtain ⟨BK1, HB1⟩ := arr_step BK.out HB.out (World.ownsRow_nil _ _ _ _) hgrow; have HO := Aside0.mk hown'; clear BK HB hown' hgrow; have BK := Aside0.mk BK1; have HB := Aside0.mk HB1; clear BK1 HB1; obtain ⟨q0, q1, q2, q3, q4, q5⟩ : w1.cell? ⟨w.heap.size, 0, none⟩ = some (.int .i64 k) ∧ w1.cell? ⟨w.heap.size, 1, none⟩ = some (.int .i64 r) ∧ w1.cell? ⟨w.heap.size, 2, none⟩ = some (.int .i64 s) ∧ w1.cell? ⟨w.heap.size, 3, none⟩ = some (.int .i64 t) ∧ w1.cell? ⟨w.heap.size, 4, none⟩ = some (.int .i64 vk) ∧ w1.cell? ⟨w.heap.size, 5, none⟩ = some (.int .i64 vn) := ⟨(blk_cell BK.out 0).trans rfl, (blk_cell BK.out 1).trans rfl, (blk_cell BK.out 2).trans rfl, (blk_cell BK.out 3).trans rfl, (blk_cell BK.out 4).trans rfl, (blk_cell BK.out 5).trans rfl⟩) | (go_at_call 64; refine (hHas _).mono ?_; rintro e w'2 ⟨rfl, hb⟩; have BK1 := Aside0.mk (blk_below BK.out hb); have HB1 := Aside0.mk (below_step HB.out hb); have HO1 := Aside0.mk (own_below HO.out hb); clear HO; have HO := HO1; clear HO1; clear BK HB hb; have BK := BK1; have HB := HB1; clear BK1 HB1; obtain ⟨q0, q1, q2, q3, q4, q5⟩ : w'2.cell? ⟨w.heap.size, 0, none⟩ = some (.int .i64 k) ∧ w'2.cell? ⟨w.heap.size, 1, none⟩ = some (.int .i64 r) ∧ w'2.cell? ⟨w.heap.size, 2, none⟩ = some (.int .i64 s) ∧ w'2.cell? ⟨w.heap.size, 3, none⟩ = some (.int .i64 t) ∧ w'2.cell? ⟨w.heap.size, 4, none⟩ = some (.int .i64 vk) ∧ w'2.cell? ⟨w.heap.size, 5, none⟩ = some (.int .i64 vn) := ⟨(blk_cell BK.out 0).trans rfl, (blk_cell BK.out 1).trans rfl, (blk_cell BK.out 2).trans rfl, (blk_cell BK.out 3).trans rfl, (blk_cell BK.out 4).trans rfl, (blk_cell BK.out 5).trans rfl⟩) | (at_builtin; refine wpList_append_own _ rfl _ _ 74 rfl (w.heap.size + 1) 77 i0 (.agg #[.int .i64 0, .nilFunc]) 2 16 Try.underlying74 hi_ hz0 hz1 hz2 rfl (by decide) _ _ _ rfl (HO.out.alloc _) ⟨_, 0, none⟩ 1 1 [.int .i64 t, .func (.func 94) #[] #[]] rfl rfl (cell_two_at _ _ _ _ _ (by simp)) (by simp [Value.oneCell']) (by unfold maxLen; omega) (by omega) ?hb ?_; (case hb => have := blk_lt BK.out; first | (simp; omega) | simp); intro v'w2 w2 hown' hgrow _; obtain ⟨BK1, HB1⟩ := arr_step BK.out HB.out HO.out hgrow; clear HO; have HO := Aside0.mk hown'; clear BK HB hown' hgrow; have BK := Aside0.mk BK1; have HB := Aside0.mk HB1; clear BK1 HB1; obtain ⟨q0, q1, q2, q3, q4, q5⟩ : w2.cell? ⟨w.heap.size, 0, none⟩ = some (.int .i64 k) ∧ w2.cell? ⟨w.heap.size, 1, none⟩ = some (.int .i64 r) ∧ w2.cell? ⟨w.heap.size, 2, none⟩ = some (.int .i64 s) ∧ w2.cell? ⟨w.heap.size, 3, none⟩ = some (.int .i64 t) ∧ w2.cell? ⟨w.heap.size, 4, none⟩ = some (.int .i64 vk) ∧ w2.cell? ⟨w.heap.size, 5, none⟩ = some (.int .i64 vn) := ⟨(blk_cell BK.out 0).trans rfl, (blk_cell BK.out 1).trans rfl, (blk_cell BK.out 2).trans rfl, (blk_cell BK.out 3).trans rfl, (blk_cell BK.out 4).trans rfl, (blk_cell BK.out 5).trans rfl⟩))
            all_goals go_ret
            all_goals exact ⟨_, rfl, HO.out, BK.out, HB.out⟩
    · have dx : decide ((i : Int) + 1 < (n : Int)) = false := decide_eq_false nx
      by_cases h5 : k = 5
      · subst h5
        have eL : L = [] ++ [(t, .one)] := by rw [hL.out]; unfold arrowsL; rw [if_neg n9, if_neg nx, if_pos rfl] <;> rfl
        subst eL
        go_enter Try.func77, Try.ntmps77
        go_wp2_with (first | (at_builtin; refine wpList_append_own _ rfl _ _ 74 rfl (w.heap.size + 1) 77 i0 (.agg #[.int .i64 0, .nilFunc]) 2 16 Try.underlying74 hi_ hz0 hz1 hz2 rfl (by decide) _ _ _ rfl (World.ownsRow_nil _ _ _ _) ⟨_, 0, none⟩ 1 1 [.int .i64 t, .func (.func 96) #[] #[]] rfl rfl (cell_two_at _ _ _ _ _ (by simp)) (by simp [Value.oneCell']) (by unfold maxLen; omega) (by omega) ?hb ?_; (case hb => have := blk_lt BK.out; first | (simp; omega) | simp); intro v'w2 w2 hown' hgrow _; obtain ⟨BK1, HB1⟩ := arr_step BK.out HB.out (World.ownsRow_nil _ _ _ _) hgrow; have HO := Aside0.mk hown'; clear BK HB hown' hgrow; have BK := Aside0.mk BK1; have HB := Aside0.mk HB1; clear BK1 HB1; obtain ⟨q0, q1, q2, q3, q4, q5⟩ : w2.cell? ⟨w.heap.size, 0, none⟩ = some (.int .i64 5) ∧ w2.cell? ⟨w.heap.size, 1, none⟩ = some (.int .i64 r) ∧ w2.cell? ⟨w.heap.size, 2, none⟩ = some (.int .i64 s) ∧ w2.cell? ⟨w.heap.size, 3, none⟩ = some (.int .i64 t) ∧ w2.cell? ⟨w.heap.size, 4, none⟩ = some (.int .i64 vk) ∧ w2.cell? ⟨w.heap.size, 5, none⟩ = some (.int .i64 vn) := ⟨(blk_cell BK.out 0).trans rfl, (blk_cell BK.out 1).trans rfl, (blk_cell BK.out 2).trans rfl, (blk_cell BK.out 3).trans rfl, (blk_cell BK.out 4).trans rfl, (blk_cell BK.out 5).trans rfl⟩))
        all_goals go_ret
        all_goals exact ⟨_, rfl, HO.out, BK.out, HB.out⟩
      · have b5 : (k == 5) = false := by simpa using h5
        cases bt
        · have eL : L = [] ++ [] := by rw [hL.out]; unfold arrowsL; rw [if_neg n9, if_neg nx, if_neg h5, if_neg (by rw [← hbt.out]; decide)] <;> rfl
          subst eL
          go_enter Try.func77, Try.ntmps77
          go_wp2_with (first | (go_at_call 64; refine (hHas _).mono ?_; rintro e w'2 ⟨rfl, hb⟩; have BK1 := Aside0.mk (blk_below BK.out hb); have HB1 := Aside0.mk (below_step HB.out hb); clear BK HB hb; have BK := BK1; have HB := HB1; clear BK1 HB1; obtain ⟨q0, q1, q2, q3, q4, q5⟩ : w'2.cell? ⟨w.heap.size, 0, none⟩ = some (.int .i64 k) ∧ w'2.cell? ⟨w.heap.size, 1, none⟩ = some (.int .i64 r) ∧ w'2.cell? ⟨w.heap.size, 2, none⟩ = some (.int .i64 s) ∧ w'2.cell? ⟨w.heap.size, 3, none⟩ = some (.int .i64 t) ∧ w'2.cell? ⟨w.heap.size, 4, none⟩ = some (.int .i64 vk) ∧ w'2.cell? ⟨w.heap.size, 5, none⟩ = some (.int .i64 vn) := ⟨(blk_cell BK.out 0).trans rfl, (blk_cell BK.out 1).trans rfl, (blk_cell BK.out 2).trans rfl, (blk_cell BK.out 3).trans rfl, (blk_cell BK.out 4).trans rfl, (blk_cell BK.out 5).trans rfl⟩))
          all_goals go_ret
          all_goals exact ⟨_, rfl, World.ownsRow_nil _ _ _ _, BK.out, HB.out⟩
        · have eL : L = [] ++ [(t, .same)] := by rw [hL.out]; unfold arrowsL; rw [if_neg n9, if_neg nx, if_neg h5, if_pos hbt.out.symm] <;> rfl
          subst eL
          go_enter Try.func77, Try.ntmps77
          go_wp2_with (first | (go_at_call 64; refine (hHas _).mono ?_; rintro e w'2 ⟨rfl, hb⟩; have BK1 := Aside0.mk (blk_below BK.out hb); have HB1 := Aside0.mk (below_step HB.out hb); clear BK HB hb; have BK := BK1; have HB := HB1; clear BK1 HB1; obtain ⟨q0, q1, q2, q3, q4, q5⟩ : w'2.cell? ⟨w.heap.size, 0, none⟩ = some (.int .i64 k) ∧ w'2.cell? ⟨w.heap.size, 1, none⟩ = some (.int .i64 r) ∧ w'2.cell? ⟨w.heap.size, 2, none⟩ = some (.int .i64 s) ∧ w'2.cell? ⟨w.heap.size, 3, none⟩ = some (.int .i64 t) ∧ w'2.cell? ⟨w.heap.size, 4, none⟩ = some (.int .i64 vk) ∧ w'2.cell? ⟨w.heap.size, 5, none⟩ = some (.int .i64 vn) := ⟨(blk_cell BK.out 0).trans rfl, (blk_cell BK.out 1).trans rfl, (blk_cell BK.out 2).trans rfl, (blk_cell BK.out 3).trans rfl, (blk_cell BK.out 4).trans rfl, (blk_cell BK.out 5).trans rfl⟩) | (at_builtin; refine wpList_append_own _ rfl _ _ 74 rfl (w.heap.size + 1) 77 i0 (.agg #[.int .i64 0, .nilFunc]) 2 16 Try.underlying74 hi_ hz0 hz1 hz2 rfl (by decide) _ _ _ rfl (World.ownsRow_nil _ _ _ _) ⟨_, 0, none⟩ 1 1 [.int .i64 t, .func (.func 94) #[] #[]] rfl rfl (cell_two_at _ _ _ _ _ (by simp)) (by simp [Value.oneCell']) (by unfold maxLen; omega) (by omega) ?hb ?_; (case hb => have := blk_lt BK.out; first | (simp; omega) | simp); intro v'w2 w2 hown' hgrow _; obtain ⟨BK1, HB1⟩ := arr_step BK.out HB.out (World.ownsRow_nil _ _ _ _) hgrow; have HO := Aside0.mk hown'; clear BK HB hown' hgrow; have BK := Aside0.mk BK1; have HB := Aside0.mk HB1; clear BK1 HB1; obtain ⟨q0, q1, q2, q3, q4, q5⟩ : w2.cell? ⟨w.heap.size, 0, none⟩ = some (.int .i64 k) ∧ w2.cell? ⟨w.heap.size, 1, none⟩ = some (.int .i64 r) ∧ w2.cell? ⟨w.heap.size, 2, none⟩ = some (.int .i64 s) ∧ w2.cell? ⟨w.heap.size, 3, none⟩ = some (.int .i64 t) ∧ w2.cell? ⟨w.heap.size, 4, none⟩ = some (.int .i64 vk) ∧ w2.cell? ⟨w.heap.size, 5, none⟩ = some (.int .i64 vn) := ⟨(blk_cell BK.out 0).trans rfl, (blk_cell BK.out 1).trans rfl, (blk_cell BK.out 2).trans rfl, (blk_cell BK.out 3).trans rfl, (blk_cell BK.out 4).trans rfl, (blk_cell BK.out 5).trans rfl⟩))
          all_goals go_ret
          all_goals exact ⟨_, rfl, HO.out, BK.out, HB.out⟩
end Go.Proofs.Ytmklpbmlgjkbiaa.PS
end
section
namespace Go.Proofs.Ytmklpbmlgjkbiaa.PS
open Go.RowKit Go.Proofs.YtmklpbmlgjkbiaaW.PrintWords Go.Proofs.YtmklpbmlgjkbiaaW.PrintLast
set_option linter.unusedVariables false
set_option linter.unusedSimpArgs false
set_option maxRecDepth 100000
def waysL (l : List S29) (i : Nat) : List (Int × Fl) := arrowsL l.length i (rd_T29 l i).f0 (rd_T29 l i).f3
def opCells (x : S29) : Array Value := #[.int .i64 x.f0, .int .i64 x.f1, .int .i64 x.f2, .int .i64 x.f3, .int .i64 x.f4.f0, .int .i64 x.f4.f1]
theorem impl_arrows (A0 : Option Addr) (c0 : Nat) (l0 : List S29) (i : Nat) (w : World) (hr0 : Kd.C k29 w A0 l0.length l0) (hi : i < l0.length) (hl : l0.length ≤ 16) :
    Calls Try.prog 77 #[.slice A0 l0.length c0, .int .i64 i] w fun e w' => ∃ v, e = .returned v ∧ w'.ownsRow (w.heap.size + 1) 77 2 v (waysL l0 i).length (arrowCells w.heap.size (waysL l0 i)) ∧ w'.heap[w.heap.size]? = some (.cells (opCells (rd_T29 l0 i)) 29 (0, 0)) ∧ Below w.heap.size w w' := by
  obtain ⟨ad, e, x0, x1, x2, x3, x4, x5⟩ := at_T29 hr0 (i : Int) (by omega) (by omega)
  rw [Int.toNat_natCast] at x0 x1 x2 x3 x4 x5
  refine arrows_walk A0 c0 l0.length ad i hi hl e _ _ _ _ _ _ w (howR (rd_T29 l0 i).f0).f3 (hasT (rd_T29 l0 i).f0) (howR (rd_T29 l0 i).f0) ⟨rfl⟩ ⟨rfl⟩ x0 x1 x2 x3 x4 x5 ?_ rfl _ ⟨rfl⟩
  by_cases h9 : (rd_T29 l0 i).f0 = 9
  · exact .inl ⟨h9, by rw [h9]; rfl⟩
  by_cases h14 : (rd_T29 l0 i).f0 = 14
  · exact .inr (.inl ⟨h14, by rw [h14]; rfl⟩)
  exact .inr (.inr ⟨by simpa using h9, by simpa using h14⟩)
theorem ways_two (l : List S29) (i : Nat) : (waysL l i).length ≤ 2 := by
  unfold waysL arrowsL
  rw [List.length_append]
  have h1 : ∀ (a b c : Prop) [Decidable a] [Decidable b] (x : Int × Fl), (if a then [] else if b then [x] else ([] : List (Int × Fl))).length ≤ 1 := fun a b c _ _ x => by split <;> (try split) <;> simp
  have h2 : ∀ (a b : Prop) [Decidable a] [Decidable b] (x y : Int × Fl), (if a then [x] else if b then [y] else ([] : List (Int × Fl))).length ≤ 1 := fun a b _ _ x y => by split <;> (try split) <;> simp
  exact Nat.add_le_add (h1 _ _ True _) (h2 _ _ _ _)
theorem way_at {w : World} {base B : Nat} {v : Value} {L : List (Int × Fl)} (h : w.ownsRow base 77 2 v L.length (arrowCells B L)) : ∃ A c, v = .slice A L.length c ∧ (∀ b, v.ownBlock = some b → base ≤ b ∧ b < w.heap.size) ∧ ∀ (j : Nat) (hj : j < L.length), ∃ g, A = some ⟨g, 0, none⟩ ∧ base ≤ g ∧ g < w.heap.size ∧ w.cell? ⟨g, j * 2, none⟩ = some (.int .i64 L[j].1) ∧ w.cell? ⟨g, j * 2 + 1, none⟩ = some (L[j].2.val B) := by
  obtain ⟨hlen, h⟩ := h
  rcases h with ⟨rfl, h0⟩ | ⟨g, cap, cur, rfl, hg, hh, hc, hm, hs, ht⟩
  · exact ⟨none, 0, by rw [h0], fun b hb => by simp [Value.ownBlock] at hb, fun j hj => absurd hj (by omega)⟩
  · refine ⟨_, cap, rfl, fun b hb => ?_, fun j hj => ⟨g, rfl, hg, blk_lt hh, ?_⟩⟩
    · have : g = b := by simpa [Value.ownBlock] using hb
      subst this; exact ⟨hg, blk_lt hh⟩
    have key : ∀ q, q < 2 → (arrowCells B L)[j * 2 + q]? = some (if q = 0 then .int .i64 L[j].1 else L[j].2.val B) := by
      intro q hq
      clear ht hlen hs hc hh
      unfold arrowCells
      induction L generalizing j with
      | nil => simp at hj
      | cons a L ih =>
        rw [List.flatMap_cons]
        cases j with
        | zero =>
          match q, hq with
          | 0, _ => rfl
          | 1, _ => rfl
        | succ j =>
          have := ih j (by simpa using hj)
          rw [show (j + 1) * 2 + q = (j * 2 + q) + 2 by omega, List.getElem?_append_right (by simp)]
          simpa using this
    have cell : ∀ q, q < 2 → w.cell? ⟨g, j * 2 + q, none⟩ = (arrowCells B L)[j * 2 + q]? := by
      intro q hq
      rw [blk_cell hh, ← ht, List.getElem?_take_of_lt (by omega), Array.getElem?_toList]
    refine ⟨?_, ?_⟩
    · have := (cell 0 (by omega)).trans (key 0 (by omega)); simpa using this
    · have := (cell 1 (by omega)).trans (key 1 (by omega)); simpa using this
end Go.Proofs.Ytmklpbmlgjkbiaa.PS
end
section
namespace Go.Proofs.Ytmklpbmlgjkbiaa.PS
open Go.RowKit Go.Proofs.YtmklpbmlgjkbiaaW.PrintWords Go.Proofs.YtmklpbmlgjkbiaaW.PrintLast
set_option linter.unusedVariables false
set_option linter.unusedSimpArgs false
set_option maxRecDepth 100000
theorem rdn_at (l : List Int) (i : Nat) (h : i < l.length) : rd l (i : Int) = l[i] := by
  unfold rd; simp [List.getD_eq_getElem?_getD, List.getElem?_eq_getElem h]
def NumAt (x : Int) (l : List Int) (i : Int) : Prop := (0 ≤ i ∧ x ∈ l) ∨ (i = -1 ∧ ¬ x ∈ l)
theorem num_no {x : Int} {l : List Int} (h : ∀ j, j < l.length → rd l (j : Nat) ≠ x) : NumAt x l (-1) := by
  refine .inr ⟨rfl, fun hx => ?_⟩
  obtain ⟨j, hj, e⟩ := List.mem_iff_getElem.1 hx
  exact h j hj (by rw [rdn_at l j hj]; exact e)
set_option maxHeartbeats 4000000 in
theorem index_num (x : Int) (A0 : Option Addr) (c0 : Nat) (l0 : List Int) (w : World) (hr0 : Kd.C (Kd.int .i64) w A0 l0.length l0) :
    Calls Try.prog 97 #[.slice A0 l0.length c0, .int .i64 x] w fun e w' => ∃ i, e = .returned (.int .i64 i) ∧ NumAt x l0 i ∧ Below w.heap.size w w' := by
  have hm := Kd.C_max hr0
  have HR0 := Aside0.mk hr0
  clear hr0
  go_enter Try.func97, Try.ntmps97
  go_wp2
  go_loopg [5, 8] l0.length (fun gg _ s8 wr => ∃ kk : Nat, kk ≤ l0.length ∧ l0.length - kk ≤ gg ∧ s8 = .int .i64 kk ∧ Aside (Below w.heap.size w wr) ∧ Aside (∀ j, j < kk → rd l0 (j : Nat) ≠ x))
  case atStart => exact ⟨0, Nat.zero_le _, by omega, rfl, Below.refl _ w, fun j hj => absurd hj (Nat.not_lt_zero _)⟩
  case round =>
    obtain ⟨kk, hkk, hgg, rfl, BW, A⟩ := hrel
    by_cases hlt : kk < l0.length
    · have hltz : (kk : Int) < (l0.length : Int) := by omega
      have h0z : 0 ≤ (kk : Int) := by omega
      obtain ⟨ad, e, x0⟩ := Kd.at_int HR0.out (kk : Int) h0z hltz
      subst e
      rw [Int.toNat_natCast] at x0
      replace x0 := (BW.out.cell (World.block_lt_of_cell? w _ x0)).trans x0
      obtain ⟨y, hy0⟩ : ∃ y, y = rd l0 (kk : Int) := ⟨_, rfl⟩
      rw [← hy0] at x0
      have hy := Aside0.mk hy0
      clear hy0
      by_cases hq : x = y
      · have hq1 : (x == y) = true := by simpa using hq
        go_wp2
        go_ret
        exact ⟨_, rfl, .inl ⟨h0z, by rw [hq, hy.out, rdn_at l0 kk hlt]; exact List.getElem_mem hlt⟩, BW.out⟩
      · have hq1 : (x == y) = false := by simpa using hq
        go_wp2
        go_roundg (l0.length - (kk + 1))
        case measure => omega
        case rel =>
          refine ⟨kk + 1, by omega, by omega, by go_num, BW, (show Aside _ from fun j hj => ?_)⟩
          by_cases e : j = kk
          · subst e
            rw [← hy.out]; exact fun e => hq e.symm
          · exact A.out j (by omega)
    · have hltz : ¬ (kk : Int) < (l0.length : Int) := by omega
      have : kk = l0.length := by omega
      subst this
      go_wp2
      go_ret
      exact ⟨_, rfl, num_no A.out, BW.out⟩
set_option maxHeartbeats 4000000 in
theorem contains_num (x : Int) (A0 : Option Addr) (c0 : Nat) (l0 : List Int) (w : World) (hr0 : Kd.C (Kd.int .i64) w A0 l0.length l0) :
    Calls Try.prog 78 #[.slice A0 l0.length c0, .int .i64 x] w fun e w' => e = .returned (.bool (decide (x ∈ l0))) ∧ Below w.heap.size w w' := by
  have hx := index_num x A0 c0 l0 w hr0
  clear hr0
  go_enter Try.func78, Try.ntmps78
  go_wp2_with (go_at_call 97; refine hx.mono ?_; rintro e w' ⟨i, rfl, hi, hb⟩)
  go_ret
  refine ⟨?_, hb⟩
  rcases hi with ⟨h0, h1⟩ | ⟨rfl, h1⟩
  · rw [decide_eq_true h1]; simp [h0]
  · rw [decide_eq_false h1]; rfl
end Go.Proofs.Ytmklpbmlgjkbiaa.PS
end
section
namespace Go.Proofs.Ytmklpbmlgjkbiaa.PS
open Go.RowKit Go.Proofs.YtmklpbmlgjkbiaaW.PrintWords Go.Proofs.YtmklpbmlgjkbiaaW.PrintLast
set_option linter.unusedVariables false
set_option linter.unusedSimpArgs false
set_option maxRecDepth 100000
def onceL (L : List (Int × Fl)) : List Int := L.foldl (fun out a => if a.1 ∈ out then out else out ++ [a.1]) []
def nextV.f (l : List S29) (at_ : Int) : Option (List Int) := some (if codeB l = true ∧ 0 ≤ at_ ∧ at_ < l.length then onceL (waysL l at_.toNat) else [])
theorem once_snoc (L : List (Int × Fl)) (j : Nat) (hj : j < L.length) : onceL (L.take (j + 1)) = if L[j].1 ∈ onceL (L.take j) then onceL (L.take j) else onceL (L.take j) ++ [L[j].1] := by
  unfold onceL; rw [List.take_succ_eq_append_getElem hj, List.foldl_append]; rfl
set_option maxHeartbeats 4000000 in
theorem next_no (A0 : Option Addr) (c0 : Nat) (l0 : List S29) (a1 : Int) (w : World) (hr0 : Kd.C k29 w A0 l0.length l0) (hc0 : l0.length ≤ c0) (h : ¬ (codeB l0 = true ∧ 0 ≤ a1 ∧ a1 < l0.length)) :
    Calls Try.prog 39 #[.slice A0 l0.length c0, .int .i64 a1] w fun e w' => e = .returned (.slice none 0 0) ∧ Below w.heap.size w w' := by
  have hm := Kd.C_max hr0
  have hOk := impl_CodeOk.calls A0 c0 l0 (codeB l0) w hr0 hc0 rfl
  clear hr0
  cases hg : codeB l0 with
  | false =>
    rw [hg] at hOk
    clear h hg
    go_enter Try.func39, Try.ntmps39
    go_wp2_with (first | (go_at_call 35; refine hOk.mono ?_; rintro e w' ⟨rfl, hb⟩))
    go_ret
    exact ⟨rfl, hb⟩
  | true =>
    rw [hg] at hOk
    have b : decide (0 ≤ a1 ∧ a1 ≤ (l0.length : Int) - 1) = false := decide_eq_false (fun k => h ⟨hg, k.1, by omega⟩)
    clear h hg
    go_enter Try.func39, Try.ntmps39
    go_wp2_with (first | (go_at_call 35; refine hOk.mono ?_; rintro e w' ⟨rfl, hb⟩) | (go_at_call 65; refine (in_any _ _ _ _).mono ?_; rintro e w'2 ⟨rfl, rfl⟩))
    go_ret
    exact ⟨rfl, hb⟩
theorem val_func (B : Nat) (f : Fl) : ∃ ff lb, f.val B = .func (.func ff) #[] lb := by cases f <;> exact ⟨_, _, rfl⟩
theorem once_len (L : List (Int × Fl)) (j : Nat) : (onceL (L.take j)).length ≤ j := by
  induction j with
  | zero => simp [onceL]
  | succ j ih =>
    by_cases h : j < L.length
    · rw [once_snoc L j h]; split
      · omega
      · simp; omega
    · rw [List.take_of_length_le (by omega)]; rw [List.take_of_length_le (by omega)] at ih; omega
def NextRel (w w1 : World) (L : List (Int × Fl)) (j : Nat) (v : Value) (wr : World) : Prop :=
  Kd.R (Kd.int .i64) 3 wr w1.heap.size (fun _ => True) v (onceL (L.take j)) ∧ Below w1.heap.size w1 wr
set_option maxHeartbeats 4000000 in
theorem next_yes (A0 : Option Addr) (c0 : Nat) (l0 : List S29) (i : Nat) (w : World) (hr0 : Kd.C k29 w A0 l0.length l0) (hc0 : l0.length ≤ c0) (hg : codeB l0 = true) (hi : i < l0.length) :
    Calls Try.prog 39 #[.slice A0 l0.length c0, .int .i64 i] w fun e w' => ∃ v, e = .returned v ∧ Kd.R (Kd.int .i64) 3 w' w.heap.size (fun _ => True) v (onceL (waysL l0 i)) ∧ Below w.heap.size w w' := by
  have hl : l0.length ≤ 16 := by
    unfold codeB at hg; simp at hg; exact hg.1.2
  have hOk := impl_CodeOk.calls A0 c0 l0 true w hr0 hc0 (by rw [← hg]; rfl)
  have hAr := fun W (hb : Below w.heap.size w W) => impl_arrows A0 c0 l0 i W (Kd.C_below hr0 hb) hi hl
  have b : decide (0 ≤ (i : Int) ∧ (i : Int) ≤ (l0.length : Int) - 1) = true := decide_eq_true (by omega)
  have b2 : decide ((i : Int) ≤ (l0.length : Int) - 1) = true := decide_eq_true (by omega)
  have h2 := ways_two l0 i
  generalize waysL l0 i = L at hAr h2 ⊢
  clear hr0 hg
  go_enter Try.func39, Try.ntmps39
  go_wp2_with (first | (go_at_call 35; refine hOk.mono ?_; rintro e w' ⟨rfl, hb⟩; have HB := Aside0.mk hb; clear hb) | (go_at_call 65; refine (in_any _ _ _ _).mono ?_; rintro e w'2 ⟨rfl, rfl⟩) | (go_at_call 77; refine (hAr _ HB.out).mono ?_; rintro e w1 ⟨v, rfl, hown, hbox, hb1⟩; obtain ⟨A, c, rfl, hA, hcells⟩ := way_at hown))
  go_loopg [5, 23] L.length (fun gg s5 s23 wr => ∃ j : Nat, j ≤ L.length ∧ L.length - j ≤ gg ∧ s23 = .int .i64 j ∧ Aside0 (NextRel w w1 L j s5 wr))
  case atStart => exact ⟨0, Nat.zero_le _, by omega, rfl, ⟨Kd.R_nil _ _ _ _ _, Below.refl _ _⟩⟩
  case round =>
    obtain ⟨j, hj, hgg, rfl, hR⟩ := hrel
    by_cases hlt : j < L.length
    · have hltz : (j : Int) < (L.length : Int) := by omega
      have h0z : (0 : Int) ≤ (j : Int) := by omega
      obtain ⟨g, rfl, hg1, hg2, y0, y1⟩ := hcells j hlt
      obtain ⟨k1, k2⟩ := hR.out
      replace y0 := (k2.cell (World.block_lt_of_cell? w1 _ y0)).trans y0
      replace y1 := (k2.cell (World.block_lt_of_cell? w1 _ y1)).trans y1
      have hstep := Aside0.mk (once_snoc L j hlt)
      obtain ⟨to_, hto⟩ : ∃ x, x = L[j].1 := ⟨_, rfl⟩
      obtain ⟨ff, lb, hfn⟩ := val_func w'.heap.size L[j].2
      rw [← hto] at y0 hstep
      rw [hfn] at y1
      have hlen := once_len L j
      obtain ⟨out, hout⟩ : ∃ x, x = onceL (L.take j) := ⟨_, rfl⟩
      rw [← hout] at hstep k1 hlen
      have K2 := Aside0.mk k2
      obtain ⟨A5, c5, rfl⟩ := Kd.R_slice k1
      have K1 := Aside0.mk k1
      clear k1 k2 hR hto hfn hout hcells hA hown hAr hOk hbox
      by_cases hq : to_ ∈ out
      · have hq1 : decide (to_ ∈ out) = true := decide_eq_true hq
        go_wp2_with (first | (go_at_call 78; refine (contains_num _ _ _ _ _ ?hc).mono ?_; (case hc => exact Kd.C_below (Kd.R_reads' K1.out).2.2 (below_alloc (Below.refl _ _) _)); rintro e w'3 ⟨rfl, hb⟩; have hx := blk_below (blk_new wr (.cells #[.int .i64 to_, .func (.func ff) #[] lb] 77)) hb; have z0 : w'3.cell? ⟨wr.heap.size, 0, none⟩ = some (.int .i64 to_) := (blk_cell hx 0).trans rfl; have hbw := Aside0.mk (below_step (below_alloc (Below.refl wr.heap.size wr) _) hb); clear hx hb))
        go_roundg (L.length - (j + 1))
        case measure => omega
        case rel => exact ⟨j + 1, by omega, by omega, by go_num, ⟨by rw [hstep.out, if_pos hq]; exact Kd.R_below K1.out hbw.out, below_step K2.out hbw.out⟩⟩
      · have hq1 : decide (to_ ∈ out) = false := decide_eq_false hq
        obtain ⟨i0, hi_, hz0, hz1, hz2⟩ := info_parts info3
        have K3 := Aside0.mk (Kd.own_of_R K1.out)
        have hlen2 : out.length ≤ 2 := by omega
        go_wp2_with (first | (go_at_call 78; refine (contains_num _ _ _ _ _ ?hc).mono ?_; (case hc => exact Kd.C_below (Kd.R_reads' K1.out).2.2 (below_alloc (Below.refl _ _) _)); rintro e w'3 ⟨rfl, hb⟩; have hx := blk_below (blk_new wr (.cells #[.int .i64 to_, .func (.func ff) #[] lb] 77)) hb; have z0 : w'3.cell? ⟨wr.heap.size, 0, none⟩ = some (.int .i64 to_) := (blk_cell hx 0).trans rfl; have hbw := Aside0.mk (below_step (below_alloc (Below.refl wr.heap.size wr) _) hb); clear hx hb) | (at_builtin; refine wpList_append_own _ rfl _ _ 32 rfl w1.heap.size 3 i0 (.int .i64 0) 1 8 Try.underlying32 hi_ hz0 hz1 hz2 rfl (by decide) _ _ _ rfl ((own_below K3.out hbw.out).alloc _) ⟨_, 0, none⟩ 1 1 [.int .i64 to_] rfl rfl (cell_one_new _ _ _) (by simp [Value.oneCell']) (by unfold maxLen; omega) (by omega) (by have := K2.out.size; have := hbw.out.size; simp; omega) ?_; intro v' w9 hown' hgrow _))
        go_roundg (L.length - (j + 1))
        case measure => omega
        case rel =>
          have hO := own_below K3.out hbw.out
          have hB9 := (below_alloc (below_step K2.out hbw.out) _).grown hgrow (below_alloc (below_step K2.out hbw.out) _).size (fun b hb => own_base hO b hb)
          refine ⟨j + 1, by omega, by omega, by go_num, ⟨?_, hB9⟩⟩
          rw [hstep.out, if_neg hq]
          refine Kd.R_of_own ?_ (fun _ _ => trivial)
          have e : encs (Value.int .i64) (out ++ [to_]) = encs (Value.int .i64) out ++ [.int .i64 to_] := by simp [encs]
          rw [e, List.length_append]
          exact hown'
    · have hltz : ¬ (j : Int) < (L.length : Int) := by omega
      obtain rfl : j = L.length := by omega
      go_wp2
      go_ret
      obtain ⟨k1, k2⟩ := hR.out
      rw [List.take_length] at k1
      exact ⟨_, rfl, Kd.R_lower k1 (by have := HB.out.size; have := hb1.size; omega), below_step (below_step HB.out hb1) k2⟩
theorem impl_CodeNext.calls (A0 : Option Addr) (c0 : Nat) (l0 : List (S29)) (a1 : Int) (r : List Int) (w : World) (hr0 : Kd.C k29 w A0 l0.length l0) (hc0 : l0.length ≤ c0) (h : nextV.f l0 a1 = some r) :
    Calls Try.prog 39 #[.slice A0 l0.length c0, .int .i64 a1] w fun e w' => ∃ v0_ : Value, e = .returned (v0_) ∧ Kd.R (Kd.int .i64) 3 w' w.heap.size (fun _ => True) v0_ r ∧ Below w.heap.size w w' := by
  have h := Option.some.inj h
  by_cases hc : codeB l0 = true ∧ 0 ≤ a1 ∧ a1 < l0.length
  · rw [if_pos hc] at h
    subst h
    obtain ⟨i, rfl⟩ := Int.eq_ofNat_of_zero_le hc.2.1
    exact next_yes A0 c0 l0 i w hr0 hc0 hc.1 (by omega)
  · rw [if_neg hc] at h
    subst h
    refine (next_no A0 c0 l0 a1 w hr0 hc0 hc).mono ?_
    rintro e w' ⟨rfl, hb⟩
    exact ⟨_, rfl, Kd.R_nil _ _ _ _ _, hb⟩
end Go.Proofs.Ytmklpbmlgjkbiaa.PS
end
section
namespace Go.Proofs.Ytmklpbmlgjkbiaa.PS
open Go.RowKit Go.Proofs.YtmklpbmlgjkbiaaW.PrintWords Go.Proofs.YtmklpbmlgjkbiaaW.PrintLast Go.Proofs.YtmklpbmlgjkbiaaW.PrintMore
attribute [local go_sem] max2_int min2_int max_two min_two max_three min_three max_four min_four   -- for this text's walks alone
set_option linter.unusedVariables false
set_option linter.unusedSimpArgs false
mutual
def spec_l3Next.j0 : Nat → Int → List Int → Bool → Int → Int → Int → Int → Int → Int → Option (List Int)
  | 0, _, _, _, _, _, _, _, _, _ => none
  | k + 1, x1, x6, x26, x298000, x298001, x298002, x298003, x298004, x298005 => if x26 = true then (if x6.length < 17592186044416 then (spec_l3Next.j1 k (x6 ++ [wrap64 (x1 + 1)]) x298000 x298001 x298002 x298003 x298004 x298005) else (none)) else (spec_l3Next.j1 k x6 x298000 x298001 x298002 x298003 x298004 x298005)
def spec_l3Next.j1 : Nat → List Int → Int → Int → Int → Int → Int → Int → Option (List Int)
  | 0, _, _, _, _, _, _, _ => none
  | k + 1, x6, x298000, x298001, x298002, x298003, x298004, x298005 => (spec_l3Goes.f x298000).bind fun t304 => (if t304 = true then ((spec_l11Among.f k x6 x298003).bind fun t305 => (spec_l3Next.j2 k x6 (!t305) x298000 x298001 x298002 x298003 x298004 x298005)) else (spec_l3Next.j2 k x6 false x298000 x298001 x298002 x298003 x298004 x298005))
def spec_l3Next.j2 : Nat → List Int → Bool → Int → Int → Int → Int → Int → Int → Option (List Int)
  | 0, _, _, _, _, _, _, _, _ => none
  | k + 1, x6, x41, x298000, x298001, x298002, x298003, x298004, x298005 => if x41 = true then (if x6.length < 17592186044416 then (some (x6 ++ [x298003])) else (none)) else (some x6)
end
def spec_l3Next.f (k : Nat) (l0 : List (S29)) (a1 : Int) : Option (List Int) := if 0 ≤ a1 then (if a1 < (l0.length : Int) then ((some (([] : List Int) : List Int)).bind fun y298 => (if ((rd_T29 l0 a1).f0) = 9 then (spec_l3Next.j0 k a1 y298 false ((rd_T29 l0 a1).f0) ((rd_T29 l0 a1).f1) ((rd_T29 l0 a1).f2) ((rd_T29 l0 a1).f3) ((rd_T29 l0 a1).f4.f0) ((rd_T29 l0 a1).f4.f1)) else (if ((rd_T29 l0 a1).f0) = 14 then (spec_l3Next.j0 k a1 y298 false ((rd_T29 l0 a1).f0) ((rd_T29 l0 a1).f1) ((rd_T29 l0 a1).f2) ((rd_T29 l0 a1).f3) ((rd_T29 l0 a1).f4.f0) ((rd_T29 l0 a1).f4.f1)) else (spec_l3Next.j0 k a1 y298 (decide ((wrap64 (a1 + 1)) < (l0.length : Int))) ((rd_T29 l0 a1).f0) ((rd_T29 l0 a1).f1) ((rd_T29 l0 a1).f2) ((rd_T29 l0 a1).f3) ((rd_T29 l0 a1).f4.f0) ((rd_T29 l0 a1).f4.f1))))) else (none)) else (none)
theorem spec_l3Next.mono_l : ∀ k, (∀ y0 y1 y2 y3 y4 y5 y6 y7 y8, LeO (spec_l3Next.j0 k y0 y1 y2 y3 y4 y5 y6 y7 y8) (spec_l3Next.j0 (k + 1) y0 y1 y2 y3 y4 y5 y6 y7 y8)) ∧ (∀ y0 y1 y2 y3 y4 y5 y6, LeO (spec_l3Next.j1 k y0 y1 y2 y3 y4 y5 y6) (spec_l3Next.j1 (k + 1) y0 y1 y2 y3 y4 y5 y6)) ∧ (∀ y0 y1 y2 y3 y4 y5 y6 y7, LeO (spec_l3Next.j2 k y0 y1 y2 y3 y4 y5 y6 y7) (spec_l3Next.j2 (k + 1) y0 y1 y2 y3 y4 y5 y6 y7))
  | 0 => ⟨fun _ _ _ _ _ _ _ _ _ r h => by simp [spec_l3Next.j0] at h, fun _ _ _ _ _ _ _ r h => by simp [spec_l3Next.j1] at h, fun _ _ _ _ _ _ _ _ r h => by simp [spec_l3Next.j2] at h⟩
  | k + 1 => by
    obtain ⟨ih0, ih1, ih2⟩ := spec_l3Next.mono_l k
    refine ⟨?_, ?_, ?_⟩
    · intro y0 y1 y2 y3 y4 y5 y6 y7 y8
      unfold spec_l3Next.j0
      repeat' first
      | (with_reducible exact ih0 _ _ _ _ _ _ _ _ _)
      | (with_reducible exact ih1 _ _ _ _ _ _ _)
      | (with_reducible exact ih2 _ _ _ _ _ _ _ _)
      | (with_reducible exact spec_l11Among.mono _ _ _)
      | (with_reducible exact LeO.refl _)
      | (with_reducible exact LeO.none _)
      | (with_reducible refine LeO.ite ?_ ?_)
      | (with_reducible refine LeO.bind ?_ (fun _ => ?_))
      | exact ih0 _ _ _ _ _ _ _ _ _
      | exact ih1 _ _ _ _ _ _ _
      | exact ih2 _ _ _ _ _ _ _ _
      | exact spec_l11Among.mono _ _ _
      | exact LeO.none _
      | refine LeO.ite ?_ ?_
      | refine LeO.bind ?_ (fun _ => ?_)
    · intro y0 y1 y2 y3 y4 y5 y6
      unfold spec_l3Next.j1
      repeat' first
      | (with_reducible exact ih0 _ _ _ _ _ _ _ _ _)
      | (with_reducible exact ih1 _ _ _ _ _ _ _)
      | (with_reducible exact ih2 _ _ _ _ _ _ _ _)
      | (with_reducible exact spec_l11Among.mono _ _ _)
      | (with_reducible exact LeO.refl _)
      | (with_reducible exact LeO.none _)
      | (with_reducible refine LeO.ite ?_ ?_)
      | (with_reducible refine LeO.bind ?_ (fun _ => ?_))
      | exact ih0 _ _ _ _ _ _ _ _ _
      | exact ih1 _ _ _ _ _ _ _
      | exact ih2 _ _ _ _ _ _ _ _
      | exact spec_l11Among.mono _ _ _
      | exact LeO.none _
      | refine LeO.ite ?_ ?_
      | refine LeO.bind ?_ (fun _ => ?_)
    · intro y0 y1 y2 y3 y4 y5 y6 y7
      unfold spec_l3Next.j2
      repeat' first
      | (with_reducible exact ih0 _ _ _ _ _ _ _ _ _)
      | (with_reducible exact ih1 _ _ _ _ _ _ _)
      | (with_reducible exact ih2 _ _ _ _ _ _ _ _)
      | (with_reducible exact spec_l11Among.mono _ _ _)
      | (with_reducible exact LeO.refl _)
      | (with_reducible exact LeO.none _)
      | (with_reducible refine LeO.ite ?_ ?_)
      | (with_reducible refine LeO.bind ?_ (fun _ => ?_))
      | exact ih0 _ _ _ _ _ _ _ _ _
      | exact ih1 _ _ _ _ _ _ _
      | exact ih2 _ _ _ _ _ _ _ _
      | exact spec_l11Among.mono _ _ _
      | exact LeO.none _
      | refine LeO.ite ?_ ?_
      | refine LeO.bind ?_ (fun _ => ?_)
theorem spec_l3Next.mono : ∀ a0 a1 k, LeO (spec_l3Next.f k a0 a1) (spec_l3Next.f (k + 1) a0 a1) := by
  intro a0 a1 k
  obtain ⟨ih0, ih1, ih2⟩ := spec_l3Next.mono_l k
  unfold spec_l3Next.f
  repeat' first
      | (with_reducible exact ih0 _ _ _ _ _ _ _ _ _)
      | (with_reducible exact ih1 _ _ _ _ _ _ _)
      | (with_reducible exact ih2 _ _ _ _ _ _ _ _)
      | (with_reducible exact spec_l11Among.mono _ _ _)
      | (with_reducible exact LeO.refl _)
      | (with_reducible exact LeO.none _)
      | (with_reducible refine LeO.ite ?_ ?_)
      | (with_reducible refine LeO.bind ?_ (fun _ => ?_))
      | exact ih0 _ _ _ _ _ _ _ _ _
      | exact ih1 _ _ _ _ _ _ _
      | exact ih2 _ _ _ _ _ _ _ _
      | exact spec_l11Among.mono _ _ _
      | exact LeO.none _
      | refine LeO.ite ?_ ?_
      | refine LeO.bind ?_ (fun _ => ?_)
set_option maxHeartbeats 8000000 in
set_option maxRecDepth 100000 in
theorem spec_l3Next.calls (k : Nat) (A0 : Option Addr) (c0 : Nat) (l0 : List (S29)) (a1 : Int) (r : List Int) (w : World) (hr0 : Kd.C k29 w A0 l0.length l0) (hc0 : l0.length ≤ c0) (h : spec_l3Next.f k l0 a1 = some r) :
    Calls Try.prog 76 #[.slice A0 l0.length c0, .int .i64 a1] w fun e w' => ∃ v0_ : Value, e = .returned (v0_) ∧ Kd.R (Kd.int .i64) 3 w' w.heap.size (fun _ => True) v0_ r ∧ Below w.heap.size w w' := by
  have hu29 := Try.underlying29
  have HR0 := Aside0.mk hr0
  have HC0 := Aside0.mk hc0
  clear hr0 hc0
  have HB := Aside0.mk (Below.refl w.heap.size w)
  have H : (if 0 ≤ a1 then (if a1 < (l0.length : Int) then ((some (([] : List Int) : List Int)).bind fun y298 => (if ((rd_T29 l0 a1).f0) = 9 then (spec_l3Next.j0 k a1 y298 false ((rd_T29 l0 a1).f0) ((rd_T29 l0 a1).f1) ((rd_T29 l0 a1).f2) ((rd_T29 l0 a1).f3) ((rd_T29 l0 a1).f4.f0) ((rd_T29 l0 a1).f4.f1)) else (if ((rd_T29 l0 a1).f0) = 14 then (spec_l3Next.j0 k a1 y298 false ((rd_T29 l0 a1).f0) ((rd_T29 l0 a1).f1) ((rd_T29 l0 a1).f2) ((rd_T29 l0 a1).f3) ((rd_T29 l0 a1).f4.f0) ((rd_T29 l0 a1).f4.f1)) else (spec_l3Next.j0 k a1 y298 (decide ((wrap64 (a1 + 1)) < (l0.length : Int))) ((rd_T29 l0 a1).f0) ((rd_T29 l0 a1).f1) ((rd_T29 l0 a1).f2) ((rd_T29 l0 a1).f3) ((rd_T29 l0 a1).f4.f0) ((rd_T29 l0 a1).f4.f1))))) else (none)) else (none)) = some r := h
  clear h
  by_cases c3 : 0 ≤ a1
  · rw [if_pos c3] at H
    have c3b0 : decide (0 ≤ a1) = true := decide_eq_true c3
    clear c3
    by_cases c4 : a1 < (l0.length : Int)
    · rw [if_pos c4] at H
      have c4b0 : decide (a1 < (l0.length : Int)) = true := decide_eq_true c4
      clear c4
      obtain ⟨y298, hy298⟩ : ∃ y_ : List Int, y_ = (([] : List Int)) := ⟨_, rfl⟩
      replace H : (if ((rd_T29 l0 a1).f0) = 9 then (spec_l3Next.j0 k a1 y298 false ((rd_T29 l0 a1).f0) ((rd_T29 l0 a1).f1) ((rd_T29 l0 a1).f2) ((rd_T29 l0 a1).f3) ((rd_T29 l0 a1).f4.f0) ((rd_T29 l0 a1).f4.f1)) else (if ((rd_T29 l0 a1).f0) = 14 then (spec_l3Next.j0 k a1 y298 false ((rd_T29 l0 a1).f0) ((rd_T29 l0 a1).f1) ((rd_T29 l0 a1).f2) ((rd_T29 l0 a1).f3) ((rd_T29 l0 a1).f4.f0) ((rd_T29 l0 a1).f4.f1)) else (spec_l3Next.j0 k a1 y298 (decide ((wrap64 (a1 + 1)) < (l0.length : Int))) ((rd_T29 l0 a1).f0) ((rd_T29 l0 a1).f1) ((rd_T29 l0 a1).f2) ((rd_T29 l0 a1).f3) ((rd_T29 l0 a1).f4.f0) ((rd_T29 l0 a1).f4.f1)))) = some r := by first | (rw [hy298]; with_reducible exact H) | (have H2_ := (Option.bind_some _ _).symm.trans H; rw [hy298]; with_reducible exact H2_) | (have H2_ := (Option.bind_some _ _).symm.trans H; with_reducible exact H2_) | with_reducible exact H | (rw [hy298]; exact H) | exact H
      have Ny298 := Aside0.mk hy298
      clear hy298
      have HC5 := Aside0.mk H
      clear H
      have p296 : 0 ≤ (a1 : Int) := of_decide_eq_true (by first | (with_reducible assumption) | assumption)
      have q296 : a1 < (l0.length : Int) := of_decide_eq_true (by first | (with_reducible assumption) | assumption)
      obtain ⟨ad296, e296, hx296_0, hx296_1, hx296_2, hx296_3, hx296_4, hx296_5⟩ := at_T29 HR0.out a1 p296 q296
      cases e296
      replace p296 := eq_true p296
      replace q296 := eq_true q296
      go_enter Try.func76, Try.ntmps76
      go_upto_region 3 with (first | ((with_reducible refine gate_dst (N := 5) rfl ?_); (try (refine gate_guard (by rfl) ?_; dsimp only)); refine box_event ?hg (N := 5) ?hd (cs := #[.int .i64 0, .int .i64 0, .int .i64 0, .int .i64 0, .int .i64 0, .int .i64 0]) (t := 29) ?hr ?_; (case hd => rfl); (case hg => rfl); (case hr => first | (go_simp; done) | (go_simp; rfl)); intro gb297 hg w6 hbox hb; have n0_ := Aside0.mk (below_step (by repeat (first | (with_reducible first | exact HB.out | apply below_alloc | apply pw_below_drewN | apply below_drew1) | exact HB.out)) hb); have n1_ := Aside0.mk (hbox); have n2_ := Aside0.mk ((by rw [hg]; exact (below_size (by repeat (first | (with_reducible first | exact HB.out | apply below_alloc | apply pw_below_drewN | apply below_drew1) | exact HB.out))) : w.heap.size ≤ gb297)); have n3_ := Aside0.mk ((by rw [hg]; exact (below_size (by repeat (first | (with_reducible first | exact HB.out | apply below_alloc | apply pw_below_drewN | apply below_drew1) | exact HB.out))) : w.heap.size ≤ gb297)); clear HB; have HB := n0_; have BK297 := n1_; have GW297 := n2_; have GE297 := n3_; clear n0_ n1_ n2_ n3_; clear hb hbox hg; have hcz7_0 : w6.cell? ⟨gb297, 0, none⟩ = some (.int .i64 0) := (blk_cell BK297.out 0).trans rfl; have hcz7_1 : w6.cell? ⟨gb297, 1, none⟩ = some (.int .i64 0) := (blk_cell BK297.out 1).trans rfl; have hcz7_2 : w6.cell? ⟨gb297, 2, none⟩ = some (.int .i64 0) := (blk_cell BK297.out 2).trans rfl; have hcz7_3 : w6.cell? ⟨gb297, 3, none⟩ = some (.int .i64 0) := (blk_cell BK297.out 3).trans rfl; have hcz7_4 : w6.cell? ⟨gb297, 4, none⟩ = some (.int .i64 0) := (blk_cell BK297.out 4).trans rfl; have hcz7_5 : w6.cell? ⟨gb297, 5, none⟩ = some (.int .i64 0) := (blk_cell BK297.out 5).trans rfl; have hfz7_0 := blk_frozen BK297.out 0; have hfz7_1 := blk_frozen BK297.out 1; have hfz7_2 := blk_frozen BK297.out 2; have hfz7_3 := blk_frozen BK297.out 3; have hfz7_4 := blk_frozen BK297.out 4; have hfz7_5 := blk_frozen BK297.out 5) | ((with_reducible refine gate_dst (N := 11) rfl ?_); (try (refine gate_guard (by rfl) ?_; dsimp only)); refine Kd.R_lit (Kd.int .i64) _ 3 ?hg (N := 11) ?hd (xs := ([] : List Int)) (inner := []) (ok := fun _ => True) (okp := fun _ => True) ?hr ?hp (fun _ hk => hk) trivial (Below.refl _ _) (Nat.le_refl _) (by simp) ?_; (case hd => rfl); (case hg => rfl); (case hr => first | (go_simp; done) | (go_simp; rfl)); (case hp => exact (Reps.none _ _)); intro v299 w8 ho9 hb hg_ hnew_; clear hg_ hnew_; (first | rw [← Ny298.out] at ho9 | (simp only [Int.reduceToNat] at ho9; rw [← Ny298.out] at ho9)); have n0_ := Aside0.mk (Kd.R_lower ho9 (below_size (by repeat (first | (with_reducible first | exact HB.out | apply below_alloc | apply pw_below_drewN | apply below_drew1 | refine below_set ?_ GE297.out) | exact HB.out)))); have n1_ := Aside0.mk (blk_below (g := gb297) (o := .cells #[.int .i64 ((rd_T29 l0 a1).f0), .int .i64 ((rd_T29 l0 a1).f1), .int .i64 ((rd_T29 l0 a1).f2), .int .i64 ((rd_T29 l0 a1).f3), .int .i64 ((rd_T29 l0 a1).f4.f0), .int .i64 ((rd_T29 l0 a1).f4.f1)] 29 (0, 0)) (by (with_reducible repeat (first | refine blk_drewN ?_ _ | refine blk_drew ?_ | refine blk_alloc ?_ _)); refine blk_put (cs := #[.int .i64 ((rd_T29 l0 a1).f0), .int .i64 ((rd_T29 l0 a1).f1), .int .i64 ((rd_T29 l0 a1).f2), .int .i64 ((rd_T29 l0 a1).f3), .int .i64 ((rd_T29 l0 a1).f4.f0), .int .i64 0]) ?_ 5 _ rfl; (with_reducible repeat (first | refine blk_drewN ?_ _ | refine blk_drew ?_ | refine blk_alloc ?_ _)); refine blk_put (cs := #[.int .i64 ((rd_T29 l0 a1).f0), .int .i64 ((rd_T29 l0 a1).f1), .int .i64 ((rd_T29 l0 a1).f2), .int .i64 ((rd_T29 l0 a1).f3), .int .i64 0, .int .i64 0]) ?_ 4 _ rfl; (with_reducible repeat (first | refine blk_drewN ?_ _ | refine blk_drew ?_ | refine blk_alloc ?_ _)); refine blk_put (cs := #[.int .i64 ((rd_T29 l0 a1).f0), .int .i64 ((rd_T29 l0 a1).f1), .int .i64 ((rd_T29 l0 a1).f2), .int .i64 0, .int .i64 0, .int .i64 0]) ?_ 3 _ rfl; (with_reducible repeat (first | refine blk_drewN ?_ _ | refine blk_drew ?_ | refine blk_alloc ?_ _)); refine blk_put (cs := #[.int .i64 ((rd_T29 l0 a1).f0), .int .i64 ((rd_T29 l0 a1).f1), .int .i64 0, .int .i64 0, .int .i64 0, .int .i64 0]) ?_ 2 _ rfl; (with_reducible repeat (first | refine blk_drewN ?_ _ | refine blk_drew ?_ | refine blk_alloc ?_ _)); refine blk_put (cs := #[.int .i64 ((rd_T29 l0 a1).f0), .int .i64 0, .int .i64 0, .int .i64 0, .int .i64 0, .int .i64 0]) ?_ 1 _ rfl; (with_reducible repeat (first | refine blk_drewN ?_ _ | refine blk_drew ?_ | refine blk_alloc ?_ _)); refine blk_put (cs := #[.int .i64 0, .int .i64 0, .int .i64 0, .int .i64 0, .int .i64 0, .int .i64 0]) ?_ 0 _ rfl; (with_reducible repeat (first | refine blk_drewN ?_ _ | refine blk_drew ?_ | refine blk_alloc ?_ _)); exact BK297.out) hb); have n2_ := Aside0.mk (below_step (by repeat (first | (with_reducible first | exact HB.out | apply below_alloc | apply pw_below_drewN | apply below_drew1 | refine below_set ?_ GE297.out) | exact HB.out)) hb); clear BK297; clear HB; have HO300 := n0_; have BK297 := n1_; have HB := n2_; clear n0_ n1_ n2_; clear hb ho9))
      (try simp only [Act.put, List.setIfInBounds_toArray, List.set_cons_zero, List.set_cons_succ])
      go_cut [26] (fun v26 wc => ∃ (kq : Nat) (x26_4 : Bool), v26 = .bool x26_4 ∧ Aside0 (spec_l3Next.j0 kq a1 y298 x26_4 ((rd_T29 l0 a1).f0) ((rd_T29 l0 a1).f1) ((rd_T29 l0 a1).f2) ((rd_T29 l0 a1).f3) ((rd_T29 l0 a1).f4.f0) ((rd_T29 l0 a1).f4.f1) = some r) ∧ Aside0 (kq ≤ k) ∧ Aside0 (Kd.R (Kd.int .i64) 3 wc w.heap.size (fun _ => True) v299 y298) ∧ Aside0 (wc.heap[gb297]? = some (.cells #[.int .i64 ((rd_T29 l0 a1).f0), .int .i64 ((rd_T29 l0 a1).f1), .int .i64 ((rd_T29 l0 a1).f2), .int .i64 ((rd_T29 l0 a1).f3), .int .i64 ((rd_T29 l0 a1).f4.f0), .int .i64 ((rd_T29 l0 a1).f4.f1)] 29 (0, 0))) ∧ Aside0 (Below w.heap.size w wc))
      case first =>
        have H := HC5.out
        clear HC5
        by_cases c10 : ((rd_T29 l0 a1).f0) = 9
        · rw [if_pos c10] at H
          have c10b0 : (((rd_T29 l0 a1).f0) == 9) = true := beq_iff_eq.mpr c10
          have c10b1 : (((rd_T29 l0 a1).f0) != 9) = false := bne_eq_false_iff_eq.mpr c10
          clear c10
          (first | rw [c10b0] | (simp only [i64_w, i32_w]; rw [c10b0]) | skip)
          have H' := Aside0.mk H
          clear H
          have hcz11_0 : w8.cell? ⟨gb297, 0, none⟩ = some (.int .i64 ((rd_T29 l0 a1).f0)) := (blk_cell BK297.out 0).trans rfl
          have hcz11_1 : w8.cell? ⟨gb297, 1, none⟩ = some (.int .i64 ((rd_T29 l0 a1).f1)) := (blk_cell BK297.out 1).trans rfl
          have hcz11_2 : w8.cell? ⟨gb297, 2, none⟩ = some (.int .i64 ((rd_T29 l0 a1).f2)) := (blk_cell BK297.out 2).trans rfl
          have hcz11_3 : w8.cell? ⟨gb297, 3, none⟩ = some (.int .i64 ((rd_T29 l0 a1).f3)) := (blk_cell BK297.out 3).trans rfl
          have hcz11_4 : w8.cell? ⟨gb297, 4, none⟩ = some (.int .i64 ((rd_T29 l0 a1).f4.f0)) := (blk_cell BK297.out 4).trans rfl
          have hcz11_5 : w8.cell? ⟨gb297, 5, none⟩ = some (.int .i64 ((rd_T29 l0 a1).f4.f1)) := (blk_cell BK297.out 5).trans rfl
          have hfz11_0 := blk_frozen BK297.out 0
          have hfz11_1 := blk_frozen BK297.out 1
          have hfz11_2 := blk_frozen BK297.out 2
          have hfz11_3 := blk_frozen BK297.out 3
          have hfz11_4 := blk_frozen BK297.out 4
          have hfz11_5 := blk_frozen BK297.out 5
          go_wp2
          go_meet
          case rel => exact ⟨_, (false), (by first | rfl | (simp; done) | (simp [*]; done)), H', ⟨by first | omega | exact Nat.le_refl _⟩, ⟨by (with_reducible repeat (first | apply Kd.R_alloc | apply Kd.R_drewN | apply Kd.R_drew)); exact HO300.out⟩, ⟨by (with_reducible repeat (first | refine blk_drewN ?_ _ | refine blk_drew ?_ | refine blk_alloc ?_ _)); exact BK297.out⟩, ⟨by repeat (first | (with_reducible first | exact HB.out | apply below_alloc | apply pw_below_drewN | apply below_drew1 | refine below_set ?_ GE297.out) | exact HB.out)⟩⟩
        · rw [if_neg c10] at H
          have c10b0 : (((rd_T29 l0 a1).f0) == 9) = false := beq_eq_false_iff_ne.mpr c10
          have c10b1 : (((rd_T29 l0 a1).f0) != 9) = true := bne_iff_ne.mpr c10
          (first | rw [c10b0] | (simp only [i64_w, i32_w]; rw [c10b0]) | skip)
          by_cases c12 : ((rd_T29 l0 a1).f0) = 14
          · rw [if_pos c12] at H
            have c12b0 : (((rd_T29 l0 a1).f0) == 14) = true := beq_iff_eq.mpr c12
            have c12b1 : (((rd_T29 l0 a1).f0) != 14) = false := bne_eq_false_iff_eq.mpr c12
            clear c12
            have H' := Aside0.mk H
            clear H
            have hcz13_0 : w8.cell? ⟨gb297, 0, none⟩ = some (.int .i64 ((rd_T29 l0 a1).f0)) := (blk_cell BK297.out 0).trans rfl
            have hcz13_1 : w8.cell? ⟨gb297, 1, none⟩ = some (.int .i64 ((rd_T29 l0 a1).f1)) := (blk_cell BK297.out 1).trans rfl
            have hcz13_2 : w8.cell? ⟨gb297, 2, none⟩ = some (.int .i64 ((rd_T29 l0 a1).f2)) := (blk_cell BK297.out 2).trans rfl
            have hcz13_3 : w8.cell? ⟨gb297, 3, none⟩ = some (.int .i64 ((rd_T29 l0 a1).f3)) := (blk_cell BK297.out 3).trans rfl
            have hcz13_4 : w8.cell? ⟨gb297, 4, none⟩ = some (.int .i64 ((rd_T29 l0 a1).f4.f0)) := (blk_cell BK297.out 4).trans rfl
            have hcz13_5 : w8.cell? ⟨gb297, 5, none⟩ = some (.int .i64 ((rd_T29 l0 a1).f4.f1)) := (blk_cell BK297.out 5).trans rfl
            have hfz13_0 := blk_frozen BK297.out 0
            have hfz13_1 := blk_frozen BK297.out 1
            have hfz13_2 := blk_frozen BK297.out 2
            have hfz13_3 := blk_frozen BK297.out 3
            have hfz13_4 := blk_frozen BK297.out 4
            have hfz13_5 := blk_frozen BK297.out 5
            go_wp2
            go_meet
            case rel => exact ⟨_, (false), (by first | rfl | (simp; done) | (simp [*]; done)), H', ⟨by first | omega | exact Nat.le_refl _⟩, ⟨by (with_reducible repeat (first | apply Kd.R_alloc | apply Kd.R_drewN | apply Kd.R_drew)); exact HO300.out⟩, ⟨by (with_reducible repeat (first | refine blk_drewN ?_ _ | refine blk_drew ?_ | refine blk_alloc ?_ _)); exact BK297.out⟩, ⟨by repeat (first | (with_reducible first | exact HB.out | apply below_alloc | apply pw_below_drewN | apply below_drew1 | refine below_set ?_ GE297.out) | exact HB.out)⟩⟩
          · rw [if_neg c12] at H
            have c12b0 : (((rd_T29 l0 a1).f0) == 14) = false := beq_eq_false_iff_ne.mpr c12
            have c12b1 : (((rd_T29 l0 a1).f0) != 14) = true := bne_iff_ne.mpr c12
            have H' := Aside0.mk H
            clear H
            have hcz14_0 : w8.cell? ⟨gb297, 0, none⟩ = some (.int .i64 ((rd_T29 l0 a1).f0)) := (blk_cell BK297.out 0).trans rfl
            have hcz14_1 : w8.cell? ⟨gb297, 1, none⟩ = some (.int .i64 ((rd_T29 l0 a1).f1)) := (blk_cell BK297.out 1).trans rfl
            have hcz14_2 : w8.cell? ⟨gb297, 2, none⟩ = some (.int .i64 ((rd_T29 l0 a1).f2)) := (blk_cell BK297.out 2).trans rfl
            have hcz14_3 : w8.cell? ⟨gb297, 3, none⟩ = some (.int .i64 ((rd_T29 l0 a1).f3)) := (blk_cell BK297.out 3).trans rfl
            have hcz14_4 : w8.cell? ⟨gb297, 4, none⟩ = some (.int .i64 ((rd_T29 l0 a1).f4.f0)) := (blk_cell BK297.out 4).trans rfl
            have hcz14_5 : w8.cell? ⟨gb297, 5, none⟩ = some (.int .i64 ((rd_T29 l0 a1).f4.f1)) := (blk_cell BK297.out 5).trans rfl
            have hfz14_0 := blk_frozen BK297.out 0
            have hfz14_1 := blk_frozen BK297.out 1
            have hfz14_2 := blk_frozen BK297.out 2
            have hfz14_3 := blk_frozen BK297.out 3
            have hfz14_4 := blk_frozen BK297.out 4
            have hfz14_5 := blk_frozen BK297.out 5
            go_wp2
            go_meet
            case rel => exact ⟨_, (decide ((wrap64 (a1 + 1)) < (l0.length : Int))), (by first | rfl | (simp; done) | (simp [*]; done)), H', ⟨by first | omega | exact Nat.le_refl _⟩, ⟨by (with_reducible repeat (first | apply Kd.R_alloc | apply Kd.R_drewN | apply Kd.R_drew)); exact HO300.out⟩, ⟨by (with_reducible repeat (first | refine blk_drewN ?_ _ | refine blk_drew ?_ | refine blk_alloc ?_ _)); exact BK297.out⟩, ⟨by repeat (first | (with_reducible first | exact HB.out | apply below_alloc | apply pw_below_drewN | apply below_drew1 | refine below_set ?_ GE297.out) | exact HB.out)⟩⟩
      case rest =>
        clear HC5
        try clear c1
        try clear p2
        try clear q2
        try clear hx2
        try clear c3
        try clear c3b0
        try clear c4
        try clear c4b0
        try clear p6
        try clear c7
        try clear c10
        try clear c10b0
        try clear c10b1
        try clear c12
        try clear c12b0
        try clear c12b1
        try clear hcz11_0
        try clear hcz11_1
        try clear hcz11_2
        try clear hcz11_3
        try clear hcz11_4
        try clear hcz11_5
        try clear hcz13_0
        try clear hcz13_1
        try clear hcz13_2
        try clear hcz13_3
        try clear hcz13_4
        try clear hcz13_5
        try clear hcz14_0
        try clear hcz14_1
        try clear hcz14_2
        try clear hcz14_3
        try clear hcz14_4
        try clear hcz14_5
        try clear hcz7_0
        try clear hcz7_1
        try clear hcz7_2
        try clear hcz7_3
        try clear hcz7_4
        try clear hcz7_5
        try clear hfz11_0
        try clear hfz11_1
        try clear hfz11_2
        try clear hfz11_3
        try clear hfz11_4
        try clear hfz11_5
        try clear hfz13_0
        try clear hfz13_1
        try clear hfz13_2
        try clear hfz13_3
        try clear hfz13_4
        try clear hfz13_5
        try clear hfz14_0
        try clear hfz14_1
        try clear hfz14_2
        try clear hfz14_3
        try clear hfz14_4
        try clear hfz14_5
        try clear hfz7_0
        try clear hfz7_1
        try clear hfz7_2
        try clear hfz7_3
        try clear hfz7_4
        try clear hfz7_5
        try clear hx296_0
        try clear hx296_1
        try clear hx296_2
        try clear hx296_3
        try clear hx296_4
        try clear hx296_5
        try clear p296
        try clear q296
        obtain ⟨kq, x26_4, rfl, HA, HJ4, HO_6, BK297, HB⟩ := hcut
        cases kq with
        | zero => exact absurd HA.out (by simp [spec_l3Next.j0])
        | succ kj4 =>
          have H := HA.out
          clear HA
          simp only [spec_l3Next.j0] at H
          have HC15 := Aside0.mk H
          clear H
          go_upto_if 26 with (fail)
          go_cut [6] (fun v6 wc => ∃ (kq : Nat) (x6_14 : List Int), Aside0 (spec_l3Next.j1 kq x6_14 ((rd_T29 l0 a1).f0) ((rd_T29 l0 a1).f1) ((rd_T29 l0 a1).f2) ((rd_T29 l0 a1).f3) ((rd_T29 l0 a1).f4.f0) ((rd_T29 l0 a1).f4.f1) = some r) ∧ Aside0 (kq ≤ kj4) ∧ Aside0 (Kd.R (Kd.int .i64) 3 wc w.heap.size (fun _ => True) v6 x6_14) ∧ Aside0 (wc.heap[gb297]? = some (.cells #[.int .i64 ((rd_T29 l0 a1).f0), .int .i64 ((rd_T29 l0 a1).f1), .int .i64 ((rd_T29 l0 a1).f2), .int .i64 ((rd_T29 l0 a1).f3), .int .i64 ((rd_T29 l0 a1).f4.f0), .int .i64 ((rd_T29 l0 a1).f4.f1)] 29 (0, 0))) ∧ Aside0 (Below w.heap.size w wc))
          case first =>
            have H := HC15.out
            clear HC15
            by_cases c16 : x26_4 = true
            · subst c16
              have H1 : (if y298.length < 17592186044416 then (spec_l3Next.j1 kj4 (y298 ++ [wrap64 (a1 + 1)]) ((rd_T29 l0 a1).f0) ((rd_T29 l0 a1).f1) ((rd_T29 l0 a1).f2) ((rd_T29 l0 a1).f3) ((rd_T29 l0 a1).f4.f0) ((rd_T29 l0 a1).f4.f1)) else (none)) = some r := by rw [if_pos rfl] at H; exact H
              clear H
              have H := H1
              clear H1
              by_cases c17 : y298.length < 17592186044416
              · rw [if_pos c17] at H
                have LMc17 := Aside0.mk c17
                clear c17
                obtain ⟨y301, hy301⟩ : ∃ y_ : List Int, y_ = (y298 ++ [wrap64 (a1 + 1)]) := ⟨_, rfl⟩
                replace H : (spec_l3Next.j1 kj4 y301 ((rd_T29 l0 a1).f0) ((rd_T29 l0 a1).f1) ((rd_T29 l0 a1).f2) ((rd_T29 l0 a1).f3) ((rd_T29 l0 a1).f4.f0) ((rd_T29 l0 a1).f4.f1)) = some r := by first | (rw [hy301]; with_reducible exact H) | (have H2_ := (Option.bind_some _ _).symm.trans H; rw [hy301]; with_reducible exact H2_) | (have H2_ := (Option.bind_some _ _).symm.trans H; with_reducible exact H2_) | with_reducible exact H | (rw [hy301]; exact H) | exact H
                have Ny301 := Aside0.mk hy301
                clear hy301
                have H' := Aside0.mk H
                clear H
                go_wp2_with (first | ((with_reducible refine gate_builtin (b := .append) (xs := #[.tmp 27, .tmp 30]) rfl ?_); (try (refine gate_guard (by rfl) ?_; dsimp only)); at_builtin; refine Kd.R_append (Kd.int .i64) (w0 := w) w.heap.size rfl (.tmp 27) (.tmp 30) 32 3 (.int .i64 0) 8 rfl Try.underlying32 info3 rfl (by decide) (by omega) v299 y298 (wrap64 (a1 + 1)) [.int .i64 (wrap64 (a1 + 1))] (fun _ => True) (fun _ => False) rfl rfl ?aP (fun _ hk => hk.elim) ?aF ?aO ?aB ?aS ?aL ?_; (case aP => exact rfl); (case aB => exact (by repeat (first | (with_reducible first | exact HB.out | apply below_alloc | apply pw_below_drewN | apply below_drew1 | refine below_set ?_ GE297.out) | exact HB.out))); (case aF => exact (fun _ _ => trivial)); (case aO => exact (by (with_reducible repeat (first | apply Kd.R_alloc | apply Kd.R_drewN | apply Kd.R_drew)); exact HO_6.out)); (case aS => exact (below_size (by repeat (first | (with_reducible first | exact HB.out | apply below_alloc | apply pw_below_drewN | apply below_drew1 | refine below_set ?_ GE297.out) | exact HB.out)))); (case aL => have := LMc17.out; omega); intro v302 w18 ho hb hg hat; rw [← Ny301.out] at ho; have n0_ := Aside0.mk (blk_grown (g := gb297) (o := .cells #[.int .i64 ((rd_T29 l0 a1).f0), .int .i64 ((rd_T29 l0 a1).f1), .int .i64 ((rd_T29 l0 a1).f2), .int .i64 ((rd_T29 l0 a1).f3), .int .i64 ((rd_T29 l0 a1).f4.f0), .int .i64 ((rd_T29 l0 a1).f4.f1)] 29 (0, 0)) (by (with_reducible repeat (first | refine blk_drewN ?_ _ | refine blk_drew ?_ | refine blk_alloc ?_ _)); exact BK297.out) hg (Kd.R_ne HO_6.out BK297.out (by decide))); have n1_ := Aside0.mk (hb); have n2_ := Aside0.mk (ho); clear BK297; clear HB; clear HO_6; have BK297 := n0_; have HB := n1_; have HO303 := n2_; clear n0_ n1_ n2_; clear ho hb hg hat))
                go_meet
                case rel => exact ⟨_, (y301), H', ⟨by have := HJ4.out; first | omega | exact Nat.le_refl _⟩, ⟨by (with_reducible repeat (first | apply Kd.R_alloc | apply Kd.R_drewN | apply Kd.R_drew)); exact HO303.out⟩, ⟨by (with_reducible repeat (first | refine blk_drewN ?_ _ | refine blk_drew ?_ | refine blk_alloc ?_ _)); exact BK297.out⟩, ⟨by repeat (first | (with_reducible first | exact HB.out | apply below_alloc | apply pw_below_drewN | apply below_drew1 | refine below_set ?_ GE297.out) | exact HB.out)⟩⟩
              · rw [if_neg c17] at H
                exact absurd H (by simp)
            · replace c16 := Bool.eq_false_iff.mpr c16
              subst c16
              have H1 : (spec_l3Next.j1 kj4 y298 ((rd_T29 l0 a1).f0) ((rd_T29 l0 a1).f1) ((rd_T29 l0 a1).f2) ((rd_T29 l0 a1).f3) ((rd_T29 l0 a1).f4.f0) ((rd_T29 l0 a1).f4.f1)) = some r := by rw [if_neg (show ¬ (false = true) by decide)] at H; exact H
              clear H
              have H := H1
              clear H1
              have H' := Aside0.mk H
              clear H
              go_wp2
              go_meet
              case rel => exact ⟨_, (y298), H', ⟨by have := HJ4.out; first | omega | exact Nat.le_refl _⟩, ⟨by (with_reducible repeat (first | apply Kd.R_alloc | apply Kd.R_drewN | apply Kd.R_drew)); exact HO_6.out⟩, ⟨by (with_reducible repeat (first | refine blk_drewN ?_ _ | refine blk_drew ?_ | refine blk_alloc ?_ _)); exact BK297.out⟩, ⟨by repeat (first | (with_reducible first | exact HB.out | apply below_alloc | apply pw_below_drewN | apply below_drew1 | refine below_set ?_ GE297.out) | exact HB.out)⟩⟩
          case rest =>
            clear HC15
            try clear c1
            try clear p2
            try clear q2
            try clear hx2
            try clear c3
            try clear c3b0
            try clear c4
            try clear c4b0
            try clear p6
            try clear c7
            try clear c10
            try clear c10b0
            try clear c10b1
            try clear c12
            try clear c12b0
            try clear c12b1
            try clear c16
            try clear c17
            try clear hcz11_0
            try clear hcz11_1
            try clear hcz11_2
            try clear hcz11_3
            try clear hcz11_4
            try clear hcz11_5
            try clear hcz13_0
            try clear hcz13_1
            try clear hcz13_2
            try clear hcz13_3
            try clear hcz13_4
            try clear hcz13_5
            try clear hcz14_0
            try clear hcz14_1
            try clear hcz14_2
            try clear hcz14_3
            try clear hcz14_4
            try clear hcz14_5
            try clear hcz7_0
            try clear hcz7_1
            try clear hcz7_2
            try clear hcz7_3
            try clear hcz7_4
            try clear hcz7_5
            try clear hfz11_0
            try clear hfz11_1
            try clear hfz11_2
            try clear hfz11_3
            try clear hfz11_4
            try clear hfz11_5
            try clear hfz13_0
            try clear hfz13_1
            try clear hfz13_2
            try clear hfz13_3
            try clear hfz13_4
            try clear hfz13_5
            try clear hfz14_0
            try clear hfz14_1
            try clear hfz14_2
            try clear hfz14_3
            try clear hfz14_4
            try clear hfz14_5
            try clear hfz7_0
            try clear hfz7_1
            try clear hfz7_2
            try clear hfz7_3
            try clear hfz7_4
            try clear hfz7_5
            try clear hx296_0
            try clear hx296_1
            try clear hx296_2
            try clear hx296_3
            try clear hx296_4
            try clear hx296_5
            try clear p2
            try clear p296
            try clear p6
            try clear q2
            try clear q296
            obtain ⟨kq, x6_14, HA, HJ14, HO_6, BK297, HB⟩ := hcut
            cases kq with
            | zero => exact absurd HA.out (by simp [spec_l3Next.j1])
            | succ kj14 =>
              have H := HA.out
              clear HA
              simp only [spec_l3Next.j1] at H
              have HC19 := Aside0.mk H
              clear H
              go_upto_region 5 with (fail)
              go_cut [41] (fun v41 wc => ∃ (kq : Nat) (x41_18 : Bool), v41 = .bool x41_18 ∧ Aside0 (spec_l3Next.j2 kq x6_14 x41_18 ((rd_T29 l0 a1).f0) ((rd_T29 l0 a1).f1) ((rd_T29 l0 a1).f2) ((rd_T29 l0 a1).f3) ((rd_T29 l0 a1).f4.f0) ((rd_T29 l0 a1).f4.f1) = some r) ∧ Aside0 (kq ≤ kj14) ∧ Aside0 (Kd.R (Kd.int .i64) 3 wc w.heap.size (fun _ => True) u6 x6_14) ∧ Aside0 (wc.heap[gb297]? = some (.cells #[.int .i64 ((rd_T29 l0 a1).f0), .int .i64 ((rd_T29 l0 a1).f1), .int .i64 ((rd_T29 l0 a1).f2), .int .i64 ((rd_T29 l0 a1).f3), .int .i64 ((rd_T29 l0 a1).f4.f0), .int .i64 ((rd_T29 l0 a1).f4.f1)] 29 (0, 0))) ∧ Aside0 (Below w.heap.size w wc))
              case first =>
                have H := HC19.out
                clear HC19
                replace H := Option.bind_eq_some_iff.mp H
                obtain ⟨t304, A200, H⟩ := H
                replace H : (if t304 = true then ((spec_l11Among.f kj14 x6_14 ((rd_T29 l0 a1).f3)).bind fun t305 => (spec_l3Next.j2 kj14 x6_14 (!t305) ((rd_T29 l0 a1).f0) ((rd_T29 l0 a1).f1) ((rd_T29 l0 a1).f2) ((rd_T29 l0 a1).f3) ((rd_T29 l0 a1).f4.f0) ((rd_T29 l0 a1).f4.f1))) else (spec_l3Next.j2 kj14 x6_14 false ((rd_T29 l0 a1).f0) ((rd_T29 l0 a1).f1) ((rd_T29 l0 a1).f2) ((rd_T29 l0 a1).f3) ((rd_T29 l0 a1).f4.f0) ((rd_T29 l0 a1).f4.f1))) = some r := H
                have A20 := Aside0.mk A200
                clear A200
                by_cases c21 : t304 = true
                · subst c21
                  have H1 : ((spec_l11Among.f kj14 x6_14 ((rd_T29 l0 a1).f3)).bind fun t305 => (spec_l3Next.j2 kj14 x6_14 (!t305) ((rd_T29 l0 a1).f0) ((rd_T29 l0 a1).f1) ((rd_T29 l0 a1).f2) ((rd_T29 l0 a1).f3) ((rd_T29 l0 a1).f4.f0) ((rd_T29 l0 a1).f4.f1))) = some r := by rw [if_pos rfl] at H; exact H
                  clear H
                  have H := H1
                  clear H1
                  replace H := Option.bind_eq_some_iff.mp H
                  obtain ⟨t305, A220, H⟩ := H
                  replace H : (spec_l3Next.j2 kj14 x6_14 (!t305) ((rd_T29 l0 a1).f0) ((rd_T29 l0 a1).f1) ((rd_T29 l0 a1).f2) ((rd_T29 l0 a1).f3) ((rd_T29 l0 a1).f4.f0) ((rd_T29 l0 a1).f4.f1)) = some r := H
                  have A22 := Aside0.mk A220
                  clear A220
                  have H' := Aside0.mk H
                  clear H
                  have hcz23_0 : wc.cell? ⟨gb297, 0, none⟩ = some (.int .i64 ((rd_T29 l0 a1).f0)) := (blk_cell BK297.out 0).trans rfl
                  have hcz23_1 : wc.cell? ⟨gb297, 1, none⟩ = some (.int .i64 ((rd_T29 l0 a1).f1)) := (blk_cell BK297.out 1).trans rfl
                  have hcz23_2 : wc.cell? ⟨gb297, 2, none⟩ = some (.int .i64 ((rd_T29 l0 a1).f2)) := (blk_cell BK297.out 2).trans rfl
                  have hcz23_3 : wc.cell? ⟨gb297, 3, none⟩ = some (.int .i64 ((rd_T29 l0 a1).f3)) := (blk_cell BK297.out 3).trans rfl
                  have hcz23_4 : wc.cell? ⟨gb297, 4, none⟩ = some (.int .i64 ((rd_T29 l0 a1).f4.f0)) := (blk_cell BK297.out 4).trans rfl
                  have hcz23_5 : wc.cell? ⟨gb297, 5, none⟩ = some (.int .i64 ((rd_T29 l0 a1).f4.f1)) := (blk_cell BK297.out 5).trans rfl
                  have hfz23_0 := blk_frozen BK297.out 0
                  have hfz23_1 := blk_frozen BK297.out 1
                  have hfz23_2 := blk_frozen BK297.out 2
                  have hfz23_3 := blk_frozen BK297.out 3
                  have hfz23_4 := blk_frozen BK297.out 4
                  have hfz23_5 := blk_frozen BK297.out 5
                  go_wp2_with (first | ((with_reducible refine gate_callee (f := 72) rfl ?_); refine goesL_ (some 34) rfl rfl Try.func72 (by kernel_rfl) rfl #[.int .i64 ((rd_T29 l0 a1).f0)] rfl (by (try simp only [List.map_toArray, List.map_cons, List.map_nil]); first | done | rfl | (simp only [List.length_drop, List.length_take]; rfl)) ?_; (with_reducible refine (spec_l3Goes.calls ((rd_T29 l0 a1).f0) true _ A20.out).mono ?_); rintro e w' ⟨rfl, ⟨nd, rfl⟩⟩; refine ⟨_, rfl, ?_⟩; obtain ⟨Ao24, co24, eo24⟩ := Kd.R_slice HO_6.out; subst eo24) | (go_at_call 79; (with_reducible refine (spec_l11Among.calls kj14 _ _ x6_14 ((rd_T29 l0 a1).f3) t305 _ ?side1 ?side2 A22.out).mono ?_); (case side1 => repeat (first | exact (Kd.R_reads' HO_6.out).2.2 | (with_reducible refine Kd.C_alloc ?_ _) | (with_reducible refine Kd.C_drewN ?_ _) | (with_reducible refine Kd.C_drew ?_))); (case side2 => exact (Kd.R_reads' HO_6.out).2.1); rintro e w' ⟨rfl, ⟨nd, rfl⟩⟩))
                  go_meet
                  case rel => exact ⟨_, (!t305), (by first | rfl | (simp; done) | (simp [*]; done)), H', ⟨by have := HJ4.out; have := HJ14.out; first | omega | exact Nat.le_refl _⟩, ⟨by (with_reducible repeat (first | apply Kd.R_alloc | apply Kd.R_drewN | apply Kd.R_drew)); exact HO_6.out⟩, ⟨by (with_reducible repeat (first | refine blk_drewN ?_ _ | refine blk_drew ?_ | refine blk_alloc ?_ _)); exact BK297.out⟩, ⟨by repeat (first | (with_reducible first | exact HB.out | apply below_alloc | apply pw_below_drewN | apply below_drew1 | refine below_set ?_ GE297.out) | exact HB.out)⟩⟩
                · replace c21 := Bool.eq_false_iff.mpr c21
                  subst c21
                  have H1 : (spec_l3Next.j2 kj14 x6_14 false ((rd_T29 l0 a1).f0) ((rd_T29 l0 a1).f1) ((rd_T29 l0 a1).f2) ((rd_T29 l0 a1).f3) ((rd_T29 l0 a1).f4.f0) ((rd_T29 l0 a1).f4.f1)) = some r := by rw [if_neg (show ¬ (false = true) by decide)] at H; exact H
                  clear H
                  have H := H1
                  clear H1
                  have H' := Aside0.mk H
                  clear H
                  have hcz25_0 : wc.cell? ⟨gb297, 0, none⟩ = some (.int .i64 ((rd_T29 l0 a1).f0)) := (blk_cell BK297.out 0).trans rfl
                  have hcz25_1 : wc.cell? ⟨gb297, 1, none⟩ = some (.int .i64 ((rd_T29 l0 a1).f1)) := (blk_cell BK297.out 1).trans rfl
                  have hcz25_2 : wc.cell? ⟨gb297, 2, none⟩ = some (.int .i64 ((rd_T29 l0 a1).f2)) := (blk_cell BK297.out 2).trans rfl
                  have hcz25_3 : wc.cell? ⟨gb297, 3, none⟩ = some (.int .i64 ((rd_T29 l0 a1).f3)) := (blk_cell BK297.out 3).trans rfl
                  have hcz25_4 : wc.cell? ⟨gb297, 4, none⟩ = some (.int .i64 ((rd_T29 l0 a1).f4.f0)) := (blk_cell BK297.out 4).trans rfl
                  have hcz25_5 : wc.cell? ⟨gb297, 5, none⟩ = some (.int .i64 ((rd_T29 l0 a1).f4.f1)) := (blk_cell BK297.out 5).trans rfl
                  have hfz25_0 := blk_frozen BK297.out 0
                  have hfz25_1 := blk_frozen BK297.out 1
                  have hfz25_2 := blk_frozen BK297.out 2
                  have hfz25_3 := blk_frozen BK297.out 3
                  have hfz25_4 := blk_frozen BK297.out 4
                  have hfz25_5 := blk_frozen BK297.out 5
                  go_wp2_with (first | ((with_reducible refine gate_callee (f := 72) rfl ?_); refine goesL_ (some 34) rfl rfl Try.func72 (by kernel_rfl) rfl #[.int .i64 ((rd_T29 l0 a1).f0)] rfl (by (try simp only [List.map_toArray, List.map_cons, List.map_nil]); first | done | rfl | (simp only [List.length_drop, List.length_take]; rfl)) ?_; (with_reducible refine (spec_l3Goes.calls ((rd_T29 l0 a1).f0) false _ A20.out).mono ?_); rintro e w' ⟨rfl, ⟨nd, rfl⟩⟩; refine ⟨_, rfl, ?_⟩))
                  go_meet
                  case rel => exact ⟨_, (false), (by first | rfl | (simp; done) | (simp [*]; done)), H', ⟨by have := HJ4.out; have := HJ14.out; first | omega | exact Nat.le_refl _⟩, ⟨by (with_reducible repeat (first | apply Kd.R_alloc | apply Kd.R_drewN | apply Kd.R_drew)); exact HO_6.out⟩, ⟨by (with_reducible repeat (first | refine blk_drewN ?_ _ | refine blk_drew ?_ | refine blk_alloc ?_ _)); exact BK297.out⟩, ⟨by repeat (first | (with_reducible first | exact HB.out | apply below_alloc | apply pw_below_drewN | apply below_drew1 | refine below_set ?_ GE297.out) | exact HB.out)⟩⟩
              case rest =>
                clear HC19
                try clear c1
                try clear c2
                try clear p2
                try clear q2
                try clear hx2
                try clear c3
                try clear c3b0
                try clear c4
                try clear c4b0
                try clear p6
                try clear c7
                try clear c10
                try clear c10b0
                try clear c10b1
                try clear c12
                try clear c12b0
                try clear c12b1
                try clear c16
                try clear c17
                try clear c21
                try clear hcz11_0
                try clear hcz11_1
                try clear hcz11_2
                try clear hcz11_3
                try clear hcz11_4
                try clear hcz11_5
                try clear hcz13_0
                try clear hcz13_1
                try clear hcz13_2
                try clear hcz13_3
                try clear hcz13_4
                try clear hcz13_5
                try clear hcz14_0
                try clear hcz14_1
                try clear hcz14_2
                try clear hcz14_3
                try clear hcz14_4
                try clear hcz14_5
                try clear hcz23_0
                try clear hcz23_1
                try clear hcz23_2
                try clear hcz23_3
                try clear hcz23_4
                try clear hcz23_5
                try clear hcz25_0
                try clear hcz25_1
                try clear hcz25_2
                try clear hcz25_3
                try clear hcz25_4
                try clear hcz25_5
                try clear hcz7_0
                try clear hcz7_1
                try clear hcz7_2
                try clear hcz7_3
                try clear hcz7_4
                try clear hcz7_5
                try clear hfz11_0
                try clear hfz11_1
                try clear hfz11_2
                try clear hfz11_3
                try clear hfz11_4
                try clear hfz11_5
                try clear hfz13_0
                try clear hfz13_1
                try clear hfz13_2
                try clear hfz13_3
                try clear hfz13_4
                try clear hfz13_5
                try clear hfz14_0
                try clear hfz14_1
                try clear hfz14_2
                try clear hfz14_3
                try clear hfz14_4
                try clear hfz14_5
                try clear hfz23_0
                try clear hfz23_1
                try clear hfz23_2
                try clear hfz23_3
                try clear hfz23_4
                try clear hfz23_5
                try clear hfz25_0
                try clear hfz25_1
                try clear hfz25_2
                try clear hfz25_3
                try clear hfz25_4
                try clear hfz25_5
                try clear hfz7_0
                try clear hfz7_1
                try clear hfz7_2
                try clear hfz7_3
                try clear hfz7_4
                try clear hfz7_5
                try clear hx296_0
                try clear hx296_1
                try clear hx296_2
                try clear hx296_3
                try clear hx296_4
                try clear hx296_5
                try clear p2
                try clear p296
                try clear p6
                try clear q2
                try clear q296
                obtain ⟨kq, x41_18, rfl, HA, HJ18, HO_6, BK297, HB⟩ := hcut
                cases kq with
                | zero => exact absurd HA.out (by simp [spec_l3Next.j2])
                | succ kj18 =>
                  have H := HA.out
                  clear HA
                  simp only [spec_l3Next.j2] at H
                  by_cases c26 : x41_18 = true
                  · subst c26
                    have H1 : (if x6_14.length < 17592186044416 then (some (x6_14 ++ [((rd_T29 l0 a1).f3)])) else (none)) = some r := by rw [if_pos rfl] at H; exact H
                    clear H
                    have H := H1
                    clear H1
                    by_cases c27 : x6_14.length < 17592186044416
                    · rw [if_pos c27] at H
                      have LMc27 := Aside0.mk c27
                      clear c27
                      obtain ⟨y306, hy306⟩ : ∃ y_ : List Int, y_ = (x6_14 ++ [((rd_T29 l0 a1).f3)]) := ⟨_, rfl⟩
                      replace H : (some y306) = some r := by first | (rw [hy306]; with_reducible exact H) | (have H2_ := (Option.bind_some _ _).symm.trans H; rw [hy306]; with_reducible exact H2_) | (have H2_ := (Option.bind_some _ _).symm.trans H; with_reducible exact H2_) | with_reducible exact H | (rw [hy306]; exact H) | exact H
                      have Ny306 := Aside0.mk hy306
                      clear hy306
                      obtain rfl := Option.some.inj H
                      have hcz28_0 : wc.cell? ⟨gb297, 0, none⟩ = some (.int .i64 ((rd_T29 l0 a1).f0)) := (blk_cell BK297.out 0).trans rfl
                      have hcz28_1 : wc.cell? ⟨gb297, 1, none⟩ = some (.int .i64 ((rd_T29 l0 a1).f1)) := (blk_cell BK297.out 1).trans rfl
                      have hcz28_2 : wc.cell? ⟨gb297, 2, none⟩ = some (.int .i64 ((rd_T29 l0 a1).f2)) := (blk_cell BK297.out 2).trans rfl
                      have hcz28_3 : wc.cell? ⟨gb297, 3, none⟩ = some (.int .i64 ((rd_T29 l0 a1).f3)) := (blk_cell BK297.out 3).trans rfl
                      have hcz28_4 : wc.cell? ⟨gb297, 4, none⟩ = some (.int .i64 ((rd_T29 l0 a1).f4.f0)) := (blk_cell BK297.out 4).trans rfl
                      have hcz28_5 : wc.cell? ⟨gb297, 5, none⟩ = some (.int .i64 ((rd_T29 l0 a1).f4.f1)) := (blk_cell BK297.out 5).trans rfl
                      have hfz28_0 := blk_frozen BK297.out 0
                      have hfz28_1 := blk_frozen BK297.out 1
                      have hfz28_2 := blk_frozen BK297.out 2
                      have hfz28_3 := blk_frozen BK297.out 3
                      have hfz28_4 := blk_frozen BK297.out 4
                      have hfz28_5 := blk_frozen BK297.out 5
                      go_wp2_with (first | ((with_reducible refine gate_builtin (b := .append) (xs := #[.tmp 42, .tmp 45]) rfl ?_); (try (refine gate_guard (by rfl) ?_; dsimp only)); at_builtin; refine Kd.R_append (Kd.int .i64) (w0 := w) w.heap.size rfl (.tmp 42) (.tmp 45) 32 3 (.int .i64 0) 8 rfl Try.underlying32 info3 rfl (by decide) (by omega) u6 x6_14 ((rd_T29 l0 a1).f3) [.int .i64 ((rd_T29 l0 a1).f3)] (fun _ => True) (fun _ => False) rfl rfl ?aP (fun _ hk => hk.elim) ?aF ?aO ?aB ?aS ?aL ?_; (case aP => exact rfl); (case aB => exact (by repeat (first | (with_reducible first | exact HB.out | apply below_alloc | apply pw_below_drewN | apply below_drew1 | refine below_set ?_ GE297.out) | exact HB.out))); (case aF => exact (fun _ _ => trivial)); (case aO => exact (by (with_reducible repeat (first | apply Kd.R_alloc | apply Kd.R_drewN | apply Kd.R_drew)); exact HO_6.out)); (case aS => exact (below_size (by repeat (first | (with_reducible first | exact HB.out | apply below_alloc | apply pw_below_drewN | apply below_drew1 | refine below_set ?_ GE297.out) | exact HB.out)))); (case aL => have := LMc27.out; omega); intro v307 w29 ho hb hg hat; rw [← Ny306.out] at ho; have n0_ := Aside0.mk (blk_grown (g := gb297) (o := .cells #[.int .i64 ((rd_T29 l0 a1).f0), .int .i64 ((rd_T29 l0 a1).f1), .int .i64 ((rd_T29 l0 a1).f2), .int .i64 ((rd_T29 l0 a1).f3), .int .i64 ((rd_T29 l0 a1).f4.f0), .int .i64 ((rd_T29 l0 a1).f4.f1)] 29 (0, 0)) (by (with_reducible repeat (first | refine blk_drewN ?_ _ | refine blk_drew ?_ | refine blk_alloc ?_ _)); exact BK297.out) hg (Kd.R_ne HO_6.out BK297.out (by decide))); have n1_ := Aside0.mk (hb); have n2_ := Aside0.mk (ho); clear BK297; clear HB; clear HO_6; have BK297 := n0_; have HB := n1_; have HO308 := n2_; clear n0_ n1_ n2_; clear ho hb hg hat))
                      go_ret
                      exact ⟨_, by first | rfl | (simp [errW_none, errW_some] <;> rfl) | (simp [*, errW_none, errW_some] <;> rfl), by (with_reducible repeat (first | apply Kd.R_alloc | apply Kd.R_drewN | apply Kd.R_drew)); exact HO308.out, by repeat (first | (with_reducible first | exact HB.out | apply below_alloc | apply pw_below_drewN | apply below_drew1 | refine below_set ?_ GE297.out) | exact HB.out)⟩
                    · rw [if_neg c27] at H
                      exact absurd H (by simp)
                  · replace c26 := Bool.eq_false_iff.mpr c26
                    subst c26
                    have H1 : (some x6_14) = some r := by rw [if_neg (show ¬ (false = true) by decide)] at H; exact H
                    clear H
                    have H := H1
                    clear H1
                    obtain rfl := Option.some.inj H
                    go_wp2
                    go_ret
                    exact ⟨_, by first | rfl | (simp [errW_none, errW_some] <;> rfl) | (simp [*, errW_none, errW_some] <;> rfl), by (with_reducible repeat (first | apply Kd.R_alloc | apply Kd.R_drewN | apply Kd.R_drew)); exact HO_6.out, by repeat (first | (with_reducible first | exact HB.out | apply below_alloc | apply pw_below_drewN | apply below_drew1 | refine below_set ?_ GE297.out) | exact HB.out)⟩
    · rw [if_neg c4] at H
      exact absurd H (by simp)
  · rw [if_neg c3] at H
    exact absurd H (by simp)
def spec_CodeNext.j0 : Nat → List (S29) → Int → Bool → Option (List Int)
  | 0, _, _, _ => none
  | k + 1, x0, x1, x15 => if x15 = true then (some (([] : List Int))) else ((spec_l3Next.f k x0 x1).bind fun t314 => (some t314))
def spec_CodeNext.f (k : Nat) (l0 : List (S29)) (a1 : Int) : Option (List Int) := (spec_CodeOk.f k l0).bind fun t309 => (if t309 = true then ((spec_l6In.f a1 0 (wrap64 ((l0.length : Int) - 1))).bind fun t310 => (spec_CodeNext.j0 k l0 a1 (!t310))) else (spec_CodeNext.j0 k l0 a1 true))
set_option maxHeartbeats 8000000 in
set_option maxRecDepth 100000 in
theorem spec_CodeNext.calls (k : Nat) (A0 : Option Addr) (c0 : Nat) (l0 : List (S29)) (a1 : Int) (r : List Int) (w : World) (hr0 : Kd.C k29 w A0 l0.length l0) (hc0 : l0.length ≤ c0) (h : spec_CodeNext.f k l0 a1 = some r) :
    Calls Try.prog 38 #[.slice A0 l0.length c0, .int .i64 a1] w fun e w' => ∃ v0_ : Value, e = .returned (v0_) ∧ Kd.R (Kd.int .i64) 3 w' w.heap.size (fun _ => True) v0_ r ∧ Below w.heap.size w w' := by
  have HR0 := Aside0.mk hr0
  have HC0 := Aside0.mk hc0
  clear hr0 hc0
  have HB := Aside0.mk (Below.refl w.heap.size w)
  have H : ((spec_CodeOk.f k l0).bind fun t309 => (if t309 = true then ((spec_l6In.f a1 0 (wrap64 ((l0.length : Int) - 1))).bind fun t310 => (spec_CodeNext.j0 k l0 a1 (!t310))) else (spec_CodeNext.j0 k l0 a1 true))) = some r := h
  clear h
  have HC3 := Aside0.mk H
  clear H
  go_enter Try.func38, Try.ntmps38
  go_upto_region 1 with (fail)
  go_cut [15] (fun v15 wc => ∃ (kq : Nat) (x15_2 : Bool), v15 = .bool x15_2 ∧ Aside0 (spec_CodeNext.j0 kq l0 a1 x15_2 = some r) ∧ Aside0 (kq ≤ k) ∧ Aside0 (Below w.heap.size w wc))
  case first =>
    have H := HC3.out
    clear HC3
    replace H := Option.bind_eq_some_iff.mp H
    obtain ⟨t309, A40, H⟩ := H
    replace H : (if t309 = true then ((spec_l6In.f a1 0 (wrap64 ((l0.length : Int) - 1))).bind fun t310 => (spec_CodeNext.j0 k l0 a1 (!t310))) else (spec_CodeNext.j0 k l0 a1 true)) = some r := H
    have A4 := Aside0.mk A40
    clear A40
    by_cases c5 : t309 = true
    · subst c5
      have H1 : ((spec_l6In.f a1 0 (wrap64 ((l0.length : Int) - 1))).bind fun t310 => (spec_CodeNext.j0 k l0 a1 (!t310))) = some r := by rw [if_pos rfl] at H; exact H
      clear H
      have H := H1
      clear H1
      replace H := Option.bind_eq_some_iff.mp H
      obtain ⟨t310, A60, H⟩ := H
      replace H : (spec_CodeNext.j0 k l0 a1 (!t310)) = some r := H
      have A6 := Aside0.mk A60
      clear A60
      have H' := Aside0.mk H
      clear H
      go_wp2_with (first | ((with_reducible refine gate_callee (f := 33) rfl ?_); refine goesL_ (some 6) rfl rfl Try.func33 (by kernel_rfl) rfl #[.slice A0 l0.length c0] rfl (by (try simp only [List.map_toArray, List.map_cons, List.map_nil]); first | done | rfl | (simp only [List.length_drop, List.length_take]; rfl)) ?_; (with_reducible refine (spec_CodeOk.calls k _ _ l0 true _ ?side1 ?side2 A4.out).mono ?_); (case side1 => repeat (first | exact (Kd.C_below HR0.out HB.out) | (with_reducible refine Kd.C_alloc ?_ _) | (with_reducible refine Kd.C_drewN ?_ _) | (with_reducible refine Kd.C_drew ?_))); (case side2 => exact HC0.out); rintro e w7 ⟨rfl, hb⟩; refine ⟨_, rfl, ?_⟩; have n0_ := Aside0.mk (below_step (by repeat (first | (with_reducible first | exact HB.out | apply below_alloc | apply pw_below_drewN | apply below_drew1) | exact HB.out)) hb); clear HB; have HB := n0_; clear n0_; (try clear hb); (try clear hb2); (try clear hk); (try clear hi)) | (go_at_call 59; (with_reducible refine (spec_l6In.calls a1 0 (wrap64 ((l0.length : Int) - 1)) t310 _ A6.out).mono ?_); rintro e w' ⟨rfl, ⟨nd, rfl⟩⟩))
      go_meet
      case rel => exact ⟨_, (!t310), (by first | rfl | (simp; done) | (simp [*]; done)), H', ⟨by first | omega | exact Nat.le_refl _⟩, ⟨by repeat (first | (with_reducible first | exact HB.out | apply below_alloc | apply pw_below_drewN | apply below_drew1) | exact HB.out)⟩⟩
    · replace c5 := Bool.eq_false_iff.mpr c5
      subst c5
      have H1 : (spec_CodeNext.j0 k l0 a1 true) = some r := by rw [if_neg (show ¬ (false = true) by decide)] at H; exact H
      clear H
      have H := H1
      clear H1
      have H' := Aside0.mk H
      clear H
      go_wp2_with (first | ((with_reducible refine gate_callee (f := 33) rfl ?_); refine goesL_ (some 6) rfl rfl Try.func33 (by kernel_rfl) rfl #[.slice A0 l0.length c0] rfl (by (try simp only [List.map_toArray, List.map_cons, List.map_nil]); first | done | rfl | (simp only [List.length_drop, List.length_take]; rfl)) ?_; (with_reducible refine (spec_CodeOk.calls k _ _ l0 false _ ?side1 ?side2 A4.out).mono ?_); (case side1 => repeat (first | exact (Kd.C_below HR0.out HB.out) | (with_reducible refine Kd.C_alloc ?_ _) | (with_reducible refine Kd.C_drewN ?_ _) | (with_reducible refine Kd.C_drew ?_))); (case side2 => exact HC0.out); rintro e w8 ⟨rfl, hb⟩; refine ⟨_, rfl, ?_⟩; have n0_ := Aside0.mk (below_step (by repeat (first | (with_reducible first | exact HB.out | apply below_alloc | apply pw_below_drewN | apply below_drew1) | exact HB.out)) hb); clear HB; have HB := n0_; clear n0_; (try clear hb); (try clear hb2); (try clear hk); (try clear hi)))
      go_meet
      case rel => exact ⟨_, (true), (by first | rfl | (simp; done) | (simp [*]; done)), H', ⟨by first | omega | exact Nat.le_refl _⟩, ⟨by repeat (first | (with_reducible first | exact HB.out | apply below_alloc | apply pw_below_drewN | apply below_drew1) | exact HB.out)⟩⟩
  case rest =>
    clear HC3
    try clear p2
    try clear c3
    try clear c5
    try clear p6
    obtain ⟨kq, x15_2, rfl, HA, HJ2, HB⟩ := hcut
    cases kq with
    | zero => exact absurd HA.out (by simp [spec_CodeNext.j0])
    | succ kj2 =>
      have H := HA.out
      clear HA
      simp only [spec_CodeNext.j0] at H
      by_cases c9 : x15_2 = true
      · subst c9
        have H1 : (some (([] : List Int))) = some r := by rw [if_pos rfl] at H; exact H
        clear H
        have H := H1
        clear H1
        obtain ⟨y311, hy311⟩ : ∃ y_ : List Int, y_ = (([] : List Int)) := ⟨_, rfl⟩
        replace H : (some y311) = some r := by first | (rw [hy311]; with_reducible exact H) | (have H2_ := (Option.bind_some _ _).symm.trans H; rw [hy311]; with_reducible exact H2_) | (have H2_ := (Option.bind_some _ _).symm.trans H; with_reducible exact H2_) | with_reducible exact H | (rw [hy311]; exact H) | exact H
        have Ny311 := Aside0.mk hy311
        clear hy311
        obtain rfl := Option.some.inj H
        go_wp2_with (first | ((with_reducible refine gate_dst (N := 16) rfl ?_); (try (refine gate_guard (by rfl) ?_; dsimp only)); refine Kd.R_lit (Kd.int .i64) _ 3 ?hg (N := 16) ?hd (xs := ([] : List Int)) (inner := []) (ok := fun _ => True) (okp := fun _ => True) ?hr ?hp (fun _ hk => hk) trivial (Below.refl _ _) (Nat.le_refl _) (by simp) ?_; (case hd => rfl); (case hg => rfl); (case hr => first | (go_simp; done) | (go_simp; rfl)); (case hp => exact (Reps.none _ _)); intro v312 w10 ho11 hb hg_ hnew_; clear hg_ hnew_; (first | rw [← Ny311.out] at ho11 | (simp only [Int.reduceToNat] at ho11; rw [← Ny311.out] at ho11)); have n0_ := Aside0.mk (Kd.R_lower ho11 (below_size (by repeat (first | (with_reducible first | exact HB.out | apply below_alloc | apply pw_below_drewN | apply below_drew1) | exact HB.out)))); have n1_ := Aside0.mk (below_step (by repeat (first | (with_reducible first | exact HB.out | apply below_alloc | apply pw_below_drewN | apply below_drew1) | exact HB.out)) hb); clear HB; have HO313 := n0_; have HB := n1_; clear n0_ n1_; clear hb ho11))
        go_ret
        exact ⟨_, by first | rfl | (simp [errW_none, errW_some] <;> rfl) | (simp [*, errW_none, errW_some] <;> rfl), by (with_reducible repeat (first | apply Kd.R_alloc | apply Kd.R_drewN | apply Kd.R_drew)); exact HO313.out, by repeat (first | (with_reducible first | exact HB.out | apply below_alloc | apply pw_below_drewN | apply below_drew1) | exact HB.out)⟩
      · replace c9 := Bool.eq_false_iff.mpr c9
        subst c9
        have H1 : ((spec_l3Next.f kj2 l0 a1).bind fun t314 => (some t314)) = some r := by rw [if_neg (show ¬ (false = true) by decide)] at H; exact H
        clear H
        have H := H1
        clear H1
        replace H := Option.bind_eq_some_iff.mp H
        obtain ⟨t314, A120, H⟩ := H
        replace H : (some t314) = some r := H
        have A12 := Aside0.mk A120
        clear A120
        obtain rfl := Option.some.inj H
        go_wp2_with (first | ((with_reducible refine gate_callee (f := 76) rfl ?_); refine goesL_ (some 19) rfl rfl Try.func76 (by kernel_rfl) rfl #[.slice A0 l0.length c0, .int .i64 a1] rfl (by (try simp only [List.map_toArray, List.map_cons, List.map_nil]); first | done | rfl | (simp only [List.length_drop, List.length_take]; rfl)) ?_; (with_reducible refine (spec_l3Next.calls kj2 _ _ l0 a1 t314 _ ?side1 ?side2 A12.out).mono ?_); (case side1 => repeat (first | exact (Kd.C_below HR0.out HB.out) | (with_reducible refine Kd.C_alloc ?_ _) | (with_reducible refine Kd.C_drewN ?_ _) | (with_reducible refine Kd.C_drew ?_))); (case side2 => exact HC0.out); rintro e w13 ⟨v315, rfl, ho0, hb⟩; refine ⟨_, rfl, ?_⟩; have n0_ := Aside0.mk (Kd.R_lower ho0 (below_size (by repeat (first | (with_reducible first | exact HB.out | apply below_alloc | apply pw_below_drewN | apply below_drew1) | exact HB.out)))); have n1_ := Aside0.mk (below_step (by repeat (first | (with_reducible first | exact HB.out | apply below_alloc | apply pw_below_drewN | apply below_drew1) | exact HB.out)) hb); clear HB; have HO316 := n0_; have HB := n1_; clear n0_ n1_; (try clear hb); (try clear hb2); (try clear hk); (try clear hi); (try clear ho0)))
        go_ret
        exact ⟨_, by first | rfl | (simp [errW_none, errW_some] <;> rfl) | (simp [*, errW_none, errW_some] <;> rfl), by (with_reducible repeat (first | apply Kd.R_alloc | apply Kd.R_drewN | apply Kd.R_drew)); exact HO316.out, by repeat (first | (with_reducible first | exact HB.out | apply below_alloc | apply pw_below_drewN | apply below_drew1) | exact HB.out)⟩
end Go.Proofs.Ytmklpbmlgjkbiaa.PS
end
section
namespace Go.Proofs.Ytmklpbmlgjkbiaa.PS
open Go.RowKit Go.Proofs.YtmklpbmlgjkbiaaW.PrintWords Go.Proofs.YtmklpbmlgjkbiaaW.PrintLast
set_option linter.unusedVariables false
theorem leO_add' {α : Type} {f : Nat → Option α} (h : ∀ k, LeO (f k) (f (k + 1))) {a : α} {m : Nat} (e : f m = some a) : ∀ k, f (k + m) = some a
  | 0 => by rw [Nat.zero_add]; exact e
  | k + 1 => by rw [Nat.add_right_comm]; exact h _ _ (leO_add' h e k)
theorem among_nil (k : Nat) (x : Int) : spec_l11Among.f (k + 1) [] x = some false := by
  simp [spec_l11Among.f, spec_l11Among.l0]
theorem among_one (k : Nat) (y x : Int) : spec_l11Among.f (k + 2) [y] x = some (decide (y = x)) := by
  by_cases h : y = x <;> simp [spec_l11Among.f, spec_l11Among.l0, rd, wrap64, h]
theorem snext_eq (l : List S29) (i : Nat) (hi : i < l.length) (hl : l.length ≤ 16) : spec_l3Next.f 6 l i = some (onceL (waysL l i)) := by
  unfold spec_l3Next.f waysL arrowsL
  rw [if_pos (by omega), if_pos (by omega)]
  simp only [Option.bind_some]
  obtain ⟨x, hx⟩ : ∃ x, rd_T29 l (i : Int) = x := ⟨_, rfl⟩
  rw [hx]
  rw [w64 (x := (i : Int) + 1) (by omega) (by omega)]
  have tail : ∀ out : List Int, out.length ≤ 1 → spec_l3Next.j1 5 out x.f0 x.f1 x.f2 x.f3 x.f4.f0 x.f4.f1 = some (if hasT x.f0 = true then (if x.f3 ∈ out then out else out ++ [x.f3]) else out) := fun out ho => by
    simp only [spec_l3Next.j1, goes_eq, Option.bind_some]
    cases hasT x.f0 with
    | false => simp [spec_l3Next.j2]
    | true =>
      match out, ho with
      | [], _ => rw [among_nil]; simp [spec_l3Next.j2]
      | [y], _ =>
        rw [among_one]
        by_cases h : y = x.f3
        · simp [spec_l3Next.j2, h]
        · have h' : ¬ x.f3 = y := fun e => h e.symm
          simp [spec_l3Next.j2, h, h']
  have h5 : x.f0 = 5 → hasT x.f0 = true := fun h => by rw [h]; rfl
  have two : ∀ (pre : List (Int × Fl)) , onceL (pre ++ if x.f0 = 5 then [(x.f3, Fl.one)] else if hasT x.f0 = true then [(x.f3, Fl.same)] else []) = (if hasT x.f0 = true then (if x.f3 ∈ onceL pre then onceL pre else onceL pre ++ [x.f3]) else onceL pre) := fun pre => by
    unfold onceL
    rw [List.foldl_append]
    by_cases h : x.f0 = 5
    · rw [if_pos h, if_pos (h5 h)]; rfl
    · rw [if_neg h]
      by_cases h2 : hasT x.f0 = true
      · rw [if_pos h2, if_pos h2]; rfl
      · rw [if_neg h2, if_neg h2]; rfl
  rw [two]
  have e0 : onceL [] = [] := rfl
  have e1 : ∀ (y : Int) (f : Fl), onceL [(y, f)] = [y] := fun y f => by simp [onceL]
  by_cases h9 : x.f0 = 9
  · rw [if_pos h9, if_pos (c := x.f0 = 9 ∨ x.f0 = 14) (.inl h9), e0]
    simp only [spec_l3Next.j0]
    rw [if_neg (by decide)]
    exact tail [] (by simp)
  rw [if_neg h9]
  by_cases h14 : x.f0 = 14
  · rw [if_pos h14, if_pos (c := x.f0 = 9 ∨ x.f0 = 14) (.inr h14), e0]
    simp only [spec_l3Next.j0]
    rw [if_neg (by decide)]
    exact tail [] (by simp)
  rw [if_neg h14, if_neg (c := x.f0 = 9 ∨ x.f0 = 14) (fun h => h.elim h9 h14)]
  simp only [spec_l3Next.j0]
  rw [w64 (x := (i : Int) + 1) (by omega) (by omega)]
  by_cases nx : (i : Int) + 1 < (l.length : Int)
  · rw [if_pos (decide_eq_true nx), if_pos (by simp), if_pos (c := (i : Int) + 1 < (l.length : Int)) nx, e1]
    exact tail [(i : Int) + 1] (by simp)
  · rw [if_neg (by simpa using nx), if_neg (c := (i : Int) + 1 < (l.length : Int)) nx, e0]
    exact tail [] (by simp)
theorem in_at (a : Int) (n : Nat) (hn : n ≤ 9223372036854775807) : spec_l6In.f a 0 (wrap64 ((n : Int) - 1)) = some (decide (0 ≤ a ∧ a < n)) := by
  rw [w64 (by omega) (by omega)]
  unfold spec_l6In.f
  split
  · congr 1; exact decide_eq_decide.2 (by omega)
  · congr 1; symm; exact decide_eq_false (by omega)
theorem scodenext_eq (l : List S29) (a : Int) (hm : l.length ≤ 9223372036854775807) : spec_CodeNext.f (2 * l.length + 7) l a = nextV.f l a := by
  unfold spec_CodeNext.f nextV.f
  rw [show 2 * l.length + 7 = 6 + (2 * l.length + 1) by omega, leO_add' (fun k => spec_CodeOk.mono l k) (scode_eq l hm) 6]
  simp only [Option.bind_some, in_at a l.length hm]
  rw [show 6 + (2 * l.length + 1) = (2 * l.length + 6) + 1 by omega]
  have hj : ∀ b, spec_CodeNext.j0 ((2 * l.length + 6) + 1) l a b = if b = true then some [] else (spec_l3Next.f (2 * l.length + 6) l a) := fun b => by
    simp only [spec_CodeNext.j0]
    split
    · rfl
    · cases spec_l3Next.f (2 * l.length + 6) l a <;> rfl
  simp only [hj]
  by_cases hc : codeB l = true
  · rw [if_pos hc]
    by_cases h : 0 ≤ a ∧ a < l.length
    · rw [if_neg (by simp [h]), if_pos ⟨hc, h⟩]
      obtain ⟨i, rfl⟩ := Int.eq_ofNat_of_zero_le h.1
      have hl : l.length ≤ 16 := by unfold codeB at hc; simp at hc; exact hc.1.2
      rw [leO_add' (fun k => spec_l3Next.mono l (i : Int) k) (snext_eq l i (by omega) hl) (2 * l.length)]
      rfl
    · rw [decide_eq_false h, if_pos (by rfl), if_neg (fun k => h k.2)]
  · rw [if_neg hc, if_neg (c := codeB l = true ∧ 0 ≤ a ∧ a < (l.length : Int)) (fun k => hc k.1)]; rfl
theorem spec_CodeNext_as.calls (A0 : Option Addr) (c0 : Nat) (l0 : List (S29)) (a1 : Int) (r : List Int) (w : World) (hr0 : Kd.C k29 w A0 l0.length l0) (hc0 : l0.length ≤ c0) (h : nextV.f l0 a1 = some r) :
    Calls Try.prog 38 #[.slice A0 l0.length c0, .int .i64 a1] w fun e w' => ∃ v0_ : Value, e = .returned (v0_) ∧ Kd.R (Kd.int .i64) 3 w' w.heap.size (fun _ => True) v0_ r ∧ Below w.heap.size w w' :=
  spec_CodeNext.calls (2 * l0.length + 7) A0 c0 l0 a1 r w hr0 hc0 ((scodenext_eq l0 a1 (Kd.C_max hr0)).trans h)
end Go.Proofs.Ytmklpbmlgjkbiaa.PS
end
section
namespace Go.Proofs.Ytmklpbmlgjkbiaa.PE
open Go.RowKit Go.Proofs.YtmklpbmlgjkbiaaW.PrintWords Go.Proofs.YtmklpbmlgjkbiaaW.PrintLast Go.Proofs.YtmklpbmlgjkbiaaW.PrintMore Go.Proofs.Ytmklpbmlgjkbiaa.PS
attribute [local go_sem] max2_int min2_int max_two min_two max_three min_three max_four min_four   -- for this text's walks alone
set_option linter.unusedVariables false
set_option linter.unusedSimpArgs false
def laws_FnExactCodeNext.j0 : Nat → List (S25) → Int → List Int → List Int → Bool → Option (Bool)
  | 0, _, _, _, _, _ => none
  | k + 1, x0, x1, x6, x8, x46 => if x46 = true then (some false) else ((markIntsV.f x8 1).bind fun bt116 => ((heldIntsV.f bt116.2 1).bind fun t118 => (if t118 < 0 then (some false) else (if t118 = bt116.1 then ((toOpsV.f x0).bind fun t119 => ((nextV.f t119 x1).bind fun t122 => ((eqIntsV.f t122 x6).bind fun t125 => (if t125 = true then (some true) else (some false))))) else (some false)))))
def laws_FnExactCodeNext.f (k : Nat) (l0 : List (S25)) (a1 : Int) : Option (Bool) := (laws_szOpS.f l0 1048576).bind fun t101 => (if t101 < 0 then (some true) else ((toOpsV.f l0).bind fun t102 => ((nextV.f t102 a1).bind fun t105 => ((markV.f t102 1).bind fun bt114 => (if bt114.1 < 0 then (laws_FnExactCodeNext.j0 k l0 a1 t105 t105 true) else (laws_FnExactCodeNext.j0 k l0 a1 t105 t105 (!true)))))))
set_option maxHeartbeats 8000000 in
set_option maxRecDepth 100000 in
theorem laws_FnExactCodeNext.calls (k : Nat) (A0 : Option Addr) (c0 : Nat) (l0 : List (S25)) (a1 : Int) (r : Bool) (w : World) (hr0 : Kd.C k25 w A0 l0.length l0) (hc0 : l0.length ≤ c0) (h : laws_FnExactCodeNext.f k l0 a1 = some r) :
    Calls Try.prog 8 #[.slice A0 l0.length c0, .int .i64 a1] w fun e w' => e = .returned (.bool r) ∧ Below w.heap.size w w' := by
  have HR0 := Aside0.mk hr0
  have HC0 := Aside0.mk hc0
  clear hr0 hc0
  have HB := Aside0.mk (Below.refl w.heap.size w)
  have H : ((laws_szOpS.f l0 1048576).bind fun t101 => (if t101 < 0 then (some true) else ((toOpsV.f l0).bind fun t102 => ((nextV.f t102 a1).bind fun t105 => ((markV.f t102 1).bind fun bt114 => (if bt114.1 < 0 then (laws_FnExactCodeNext.j0 k l0 a1 t105 t105 true) else (laws_FnExactCodeNext.j0 k l0 a1 t105 t105 (!true)))))))) = some r := h
  clear h
  replace H := Option.bind_eq_some_iff.mp H
  obtain ⟨t101, A30, H⟩ := H
  replace H : (if t101 < 0 then (some true) else ((toOpsV.f l0).bind fun t102 => ((nextV.f t102 a1).bind fun t105 => ((markV.f t102 1).bind fun bt114 => (if bt114.1 < 0 then (laws_FnExactCodeNext.j0 k l0 a1 t105 t105 true) else (laws_FnExactCodeNext.j0 k l0 a1 t105 t105 (!true))))))) = some r := H
  have A3 := Aside0.mk A30
  clear A30
  by_cases c4 : t101 < 0
  · rw [if_pos c4] at H
    have c4b0 : decide (t101 < 0) = true := decide_eq_true c4
    clear c4
    obtain rfl := Option.some.inj H
    go_enter Try.func8, Try.ntmps8
    go_wp2_with (first | ((with_reducible refine gate_callee (f := 32) rfl ?_); refine goesL_ (some 15) rfl rfl Try.func32 (by kernel_rfl) rfl #[.slice A0 l0.length c0, .int .i64 1048576] rfl (by (try simp only [List.map_toArray, List.map_cons, List.map_nil]); first | done | rfl | (simp only [List.length_drop, List.length_take]; rfl)) ?_; (with_reducible refine (laws_szOpS.calls _ _ l0 1048576 t101 _ ?side1 ?side2 A3.out).mono ?_); (case side1 => repeat (first | exact HR0.out | (with_reducible refine Kd.C_alloc ?_ _) | (with_reducible refine Kd.C_drewN ?_ _) | (with_reducible refine Kd.C_drew ?_))); (case side2 => exact HC0.out); rintro e w' ⟨rfl, ⟨nd, rfl⟩⟩; refine ⟨_, rfl, ?_⟩))
    go_ret
    exact ⟨by first | rfl | (simp [errW_none, errW_some] <;> rfl) | (simp [*, errW_none, errW_some] <;> rfl), by repeat (first | (with_reducible first | exact HB.out | apply below_alloc | apply pw_below_drewN | apply below_drew1) | exact HB.out)⟩
  · rw [if_neg c4] at H
    have c4b0 : decide (t101 < 0) = false := decide_eq_false c4
    clear c4
    replace H := Option.bind_eq_some_iff.mp H
    obtain ⟨t102, A50, H⟩ := H
    replace H : ((nextV.f t102 a1).bind fun t105 => ((markV.f t102 1).bind fun bt114 => (if bt114.1 < 0 then (laws_FnExactCodeNext.j0 k l0 a1 t105 t105 true) else (laws_FnExactCodeNext.j0 k l0 a1 t105 t105 (!true))))) = some r := H
    have A5 := Aside0.mk A50
    clear A50
    replace H := Option.bind_eq_some_iff.mp H
    obtain ⟨t105, A60, H⟩ := H
    replace H : ((markV.f t102 1).bind fun bt114 => (if bt114.1 < 0 then (laws_FnExactCodeNext.j0 k l0 a1 t105 t105 true) else (laws_FnExactCodeNext.j0 k l0 a1 t105 t105 (!true)))) = some r := H
    have A6 := Aside0.mk A60
    clear A60
    have A7 := Aside0.mk (eqInts_same t105 : eqIntsV.f t105 t105 = some true)
    have A8 := Aside0.mk (eqOps_same t102 : eqOpsV.f t102 t102 = some true)
    replace H := Option.bind_eq_some_iff.mp H
    obtain ⟨⟨t114, t115⟩, A90, H⟩ := H
    replace H : (if t114 < 0 then (laws_FnExactCodeNext.j0 k l0 a1 t105 t105 true) else (laws_FnExactCodeNext.j0 k l0 a1 t105 t105 (!true))) = some r := H
    have A9 := Aside0.mk A90
    clear A90
    have HC10 := Aside0.mk H
    clear H
    go_enter Try.func8, Try.ntmps8
    go_upto_region 14 with (first | ((with_reducible refine gate_callee (f := 32) rfl ?_); refine goesL_ (some 15) rfl rfl Try.func32 (by kernel_rfl) rfl #[.slice A0 l0.length c0, .int .i64 1048576] rfl (by (try simp only [List.map_toArray, List.map_cons, List.map_nil]); first | done | rfl | (simp only [List.length_drop, List.length_take]; rfl)) ?_; (with_reducible refine (laws_szOpS.calls _ _ l0 1048576 t101 _ ?side1 ?side2 A3.out).mono ?_); (case side1 => repeat (first | exact HR0.out | (with_reducible refine Kd.C_alloc ?_ _) | (with_reducible refine Kd.C_drewN ?_ _) | (with_reducible refine Kd.C_drew ?_))); (case side2 => exact HC0.out); rintro e w' ⟨rfl, ⟨nd, rfl⟩⟩; refine ⟨_, rfl, ?_⟩) | ((with_reducible refine gate_callee (f := 34) rfl ?_); refine goesL_ (some 19) rfl rfl Try.func34 (by kernel_rfl) rfl #[.slice A0 l0.length c0] rfl (by (try simp only [List.map_toArray, List.map_cons, List.map_nil]); first | done | rfl | (simp only [List.length_drop, List.length_take]; rfl)) ?_; (with_reducible refine (laws_toOpS_as.calls _ _ l0 t102 _ ?side1 ?side2 A5.out).mono ?_); (case side1 => repeat (first | exact HR0.out | (with_reducible refine Kd.C_alloc ?_ _) | (with_reducible refine Kd.C_drewN ?_ _) | (with_reducible refine Kd.C_drew ?_))); (case side2 => exact HC0.out); rintro e w11 ⟨v103, rfl, ho0, hb⟩; refine ⟨_, rfl, ?_⟩; have n0_ := Aside0.mk (Kd.R_lower ho0 (below_size (by repeat (first | (with_reducible first | exact HB.out | apply below_alloc | apply pw_below_drewN | apply below_drew1) | exact HB.out)))); have n1_ := Aside0.mk (below_step (by repeat (first | (with_reducible first | exact HB.out | apply below_alloc | apply pw_below_drewN | apply below_drew1) | exact HB.out)) hb); clear HB; have HO104 := n0_; have HB := n1_; clear n0_ n1_; (try clear hb); (try clear hb2); (try clear hk); (try clear hi); (try clear ho0); obtain ⟨Ao12, co12, eo12⟩ := Kd.R_slice HO104.out; subst eo12) | ((with_reducible refine gate_callee (f := 38) rfl ?_); refine goesL_ (some 21) rfl rfl Try.func38 (by kernel_rfl) rfl #[.slice Ao12 t102.length co12, .int .i64 a1] rfl (by (try simp only [List.map_toArray, List.map_cons, List.map_nil]); first | done | rfl | (simp only [List.length_drop, List.length_take]; rfl)) ?_; (with_reducible refine (spec_CodeNext_as.calls _ _ t102 a1 t105 _ ?side1 ?side2 A6.out).mono ?_); (case side1 => repeat (first | exact (Kd.R_reads' HO104.out).2.2 | (with_reducible refine Kd.C_alloc ?_ _) | (with_reducible refine Kd.C_drewN ?_ _) | (with_reducible refine Kd.C_drew ?_))); (case side2 => exact (Kd.R_reads' HO104.out).2.1); rintro e w13 ⟨v106, rfl, ho0, hb⟩; refine ⟨_, rfl, ?_⟩; have n0_ := Aside0.mk (Kd.R_below (by (with_reducible repeat (first | apply Kd.R_alloc | apply Kd.R_drewN | apply Kd.R_drew)); exact HO104.out) hb); have n1_ := Aside0.mk (Kd.R_lower ho0 (below_size (by repeat (first | (with_reducible first | exact HB.out | apply below_alloc | apply pw_below_drewN | apply below_drew1) | exact HB.out)))); have n2_ := Aside0.mk (below_step (by repeat (first | (with_reducible first | exact HB.out | apply below_alloc | apply pw_below_drewN | apply below_drew1) | exact HB.out)) hb); clear HO104; clear HB; have HO104 := n0_; have HO107 := n1_; have HB := n2_; clear n0_ n1_ n2_; (try clear hb); (try clear hb2); (try clear hk); (try clear hi); (try clear ho0)) | ((with_reducible refine gate_callee (f := 34) rfl ?_); refine goesL_ (some 23) rfl rfl Try.func34 (by kernel_rfl) rfl #[.slice A0 l0.length c0] rfl (by (try simp only [List.map_toArray, List.map_cons, List.map_nil]); first | done | rfl | (simp only [List.length_drop, List.length_take]; rfl)) ?_; (with_reducible refine (laws_toOpS_as.calls _ _ l0 t102 _ ?side1 ?side2 A5.out).mono ?_); (case side1 => repeat (first | exact (Kd.C_below HR0.out HB.out) | (with_reducible refine Kd.C_alloc ?_ _) | (with_reducible refine Kd.C_drewN ?_ _) | (with_reducible refine Kd.C_drew ?_))); (case side2 => exact HC0.out); rintro e w14 ⟨v108, rfl, ho0, hb⟩; refine ⟨_, rfl, ?_⟩; have n0_ := Aside0.mk (Kd.R_elder' (by (with_reducible repeat (first | apply Kd.R_alloc | apply Kd.R_drewN | apply Kd.R_drew)); exact HO104.out) (Kd.R_base ho0) hb); have n1_ := Aside0.mk (Kd.R_below (by (with_reducible repeat (first | apply Kd.R_alloc | apply Kd.R_drewN | apply Kd.R_drew)); exact HO107.out) hb); have n2_ := Aside0.mk (Kd.R_lower (Kd.R_new' ho0 (Kd.R_lt (by (with_reducible repeat (first | apply Kd.R_alloc | apply Kd.R_drewN | apply Kd.R_drew)); exact HO104.out))) (below_size (by repeat (first | (with_reducible first | exact HB.out | apply below_alloc | apply pw_below_drewN | apply below_drew1) | exact HB.out)))); have n3_ := Aside0.mk (below_step (by repeat (first | (with_reducible first | exact HB.out | apply below_alloc | apply pw_below_drewN | apply below_drew1) | exact HB.out)) hb); clear HO104; clear HO107; clear HB; have HO104 := n0_; have HO107 := n1_; have HO109 := n2_; have HB := n3_; clear n0_ n1_ n2_ n3_; (try clear hb); (try clear hb2); (try clear hk); (try clear hi); (try clear ho0); obtain ⟨Ao15, co15, eo15⟩ := Kd.R_slice HO109.out; subst eo15) | ((with_reducible refine gate_callee (f := 39) rfl ?_); refine goesL_ (some 26) rfl rfl Try.func39 (by kernel_rfl) rfl #[.slice Ao15 t102.length co15, .int .i64 a1] rfl (by (try simp only [List.map_toArray, List.map_cons, List.map_nil]); first | done | rfl | (simp only [List.length_drop, List.length_take]; rfl)) ?_; (with_reducible refine (impl_CodeNext.calls _ _ t102 a1 t105 _ ?side1 ?side2 A6.out).mono ?_); (case side1 => repeat (first | exact (Kd.R_reads' HO109.out).2.2 | (with_reducible refine Kd.C_alloc ?_ _) | (with_reducible refine Kd.C_drewN ?_ _) | (with_reducible refine Kd.C_drew ?_))); (case side2 => exact (Kd.R_reads' HO109.out).2.1); rintro e w16 ⟨v110, rfl, ho0, hb⟩; refine ⟨_, rfl, ?_⟩; have n0_ := Aside0.mk (Kd.R_below (by (with_reducible repeat (first | apply Kd.R_alloc | apply Kd.R_drewN | apply Kd.R_drew)); exact HO104.out) hb); have n1_ := Aside0.mk (Kd.R_elder' (by (with_reducible repeat (first | apply Kd.R_alloc | apply Kd.R_drewN | apply Kd.R_drew)); exact HO107.out) (Kd.R_base ho0) hb); have n2_ := Aside0.mk (Kd.R_below (by (with_reducible repeat (first | apply Kd.R_alloc | apply Kd.R_drewN | apply Kd.R_drew)); exact HO109.out) hb); have n3_ := Aside0.mk (Kd.R_lower (Kd.R_new' ho0 (Kd.R_lt (by (with_reducible repeat (first | apply Kd.R_alloc | apply Kd.R_drewN | apply Kd.R_drew)); exact HO107.out))) (below_size (by repeat (first | (with_reducible first | exact HB.out | apply below_alloc | apply pw_below_drewN | apply below_drew1) | exact HB.out)))); have n4_ := Aside0.mk (below_step (by repeat (first | (with_reducible first | exact HB.out | apply below_alloc | apply pw_below_drewN | apply below_drew1) | exact HB.out)) hb); clear HO104; clear HO107; clear HO109; clear HB; have HO104 := n0_; have HO107 := n1_; have HO109 := n2_; have HO111 := n3_; have HB := n4_; clear n0_ n1_ n2_ n3_ n4_; (try clear hb); (try clear hb2); (try clear hk); (try clear hi); (try clear ho0); obtain ⟨Ao17, co17, eo17⟩ := Kd.R_slice HO111.out; subst eo17; obtain ⟨Ao18, co18, eo18⟩ := Kd.R_slice HO107.out; subst eo18) | ((with_reducible refine gate_callee (f := 28) rfl ?_); refine goesL_ (some 29) rfl rfl Try.func28 (by kernel_rfl) rfl #[.slice Ao17 t105.length co17, .slice Ao18 t105.length co18] rfl (by (try simp only [List.map_toArray, List.map_cons, List.map_nil]); first | done | rfl | (simp only [List.length_drop, List.length_take]; rfl)) ?_; (with_reducible refine (laws_eqIntS_as.calls _ _ t105 _ _ t105 true _ ?side1 ?side2 ?side3 ?side4 A7.out).mono ?_); (case side1 => repeat (first | exact (Kd.R_reads' HO111.out).2.2 | (with_reducible refine Kd.C_alloc ?_ _) | (with_reducible refine Kd.C_drewN ?_ _) | (with_reducible refine Kd.C_drew ?_))); (case side2 => exact (Kd.R_reads' HO111.out).2.1); (case side3 => repeat (first | exact (Kd.R_reads' HO107.out).2.2 | (with_reducible refine Kd.C_alloc ?_ _) | (with_reducible refine Kd.C_drewN ?_ _) | (with_reducible refine Kd.C_drew ?_))); (case side4 => exact (Kd.R_reads' HO107.out).2.1); rintro e w' ⟨rfl, ⟨nd, rfl⟩⟩; refine ⟨_, rfl, ?_⟩) | ((with_reducible refine gate_callee (f := 34) rfl ?_); refine goesL_ (some 33) rfl rfl Try.func34 (by kernel_rfl) rfl #[.slice A0 l0.length c0] rfl (by (try simp only [List.map_toArray, List.map_cons, List.map_nil]); first | done | rfl | (simp only [List.length_drop, List.length_take]; rfl)) ?_; (with_reducible refine (laws_toOpS_as.calls _ _ l0 t102 _ ?side1 ?side2 A5.out).mono ?_); (case side1 => repeat (first | exact (Kd.C_below HR0.out (by repeat (first | (with_reducible first | exact HB.out | apply below_alloc | apply pw_below_drewN | apply below_drew1) | exact HB.out))) | (with_reducible refine Kd.C_alloc ?_ _) | (with_reducible refine Kd.C_drewN ?_ _) | (with_reducible refine Kd.C_drew ?_))); (case side2 => exact HC0.out); rintro e w19 ⟨v112, rfl, ho0, hb⟩; refine ⟨_, rfl, ?_⟩; have n0_ := Aside0.mk (Kd.R_elder' (by (with_reducible repeat (first | apply Kd.R_alloc | apply Kd.R_drewN | apply Kd.R_drew)); exact HO104.out) (Kd.R_base ho0) hb); have n1_ := Aside0.mk (Kd.R_below (by (with_reducible repeat (first | apply Kd.R_alloc | apply Kd.R_drewN | apply Kd.R_drew)); exact HO107.out) hb); have n2_ := Aside0.mk (Kd.R_elder' (by (with_reducible repeat (first | apply Kd.R_alloc | apply Kd.R_drewN | apply Kd.R_drew)); exact HO109.out) (Kd.R_base ho0) hb); have n3_ := Aside0.mk (Kd.R_below (by (with_reducible repeat (first | apply Kd.R_alloc | apply Kd.R_drewN | apply Kd.R_drew)); exact HO111.out) hb); have n4_ := Aside0.mk (Kd.R_lower (Kd.R_new' (Kd.R_new' ho0 (Kd.R_lt (by (with_reducible repeat (first | apply Kd.R_alloc | apply Kd.R_drewN | apply Kd.R_drew)); exact HO104.out))) (Kd.R_lt (by (with_reducible repeat (first | apply Kd.R_alloc | apply Kd.R_drewN | apply Kd.R_drew)); exact HO109.out))) (below_size (by repeat (first | (with_reducible first | exact HB.out | apply below_alloc | apply pw_below_drewN | apply below_drew1) | exact HB.out)))); have n5_ := Aside0.mk (below_step (by repeat (first | (with_reducible first | exact HB.out | apply below_alloc | apply pw_below_drewN | apply below_drew1) | exact HB.out)) hb); clear HO104; clear HO107; clear HO109; clear HO111; clear HB; have HO104 := n0_; have HO107 := n1_; have HO109 := n2_; have HO111 := n3_; have HO113 := n4_; have HB := n5_; clear n0_ n1_ n2_ n3_ n4_ n5_; (try clear hb); (try clear hb2); (try clear hk); (try clear hi); (try clear ho0); obtain ⟨Ao20, co20, eo20⟩ := Kd.R_slice HO113.out; subst eo20) | ((with_reducible refine gate_callee (f := 36) rfl ?_); refine goesL_ (some 34) rfl rfl Try.func36 (by kernel_rfl) rfl #[.slice Ao15 t102.length co15, .slice Ao20 t102.length co20] rfl (by (try simp only [List.map_toArray, List.map_cons, List.map_nil]); first | done | rfl | (simp only [List.length_drop, List.length_take]; rfl)) ?_; (with_reducible refine (laws_eqOpS_as.calls _ _ t102 _ _ t102 true _ ?side1 ?side2 ?side3 ?side4 A8.out).mono ?_); (case side1 => repeat (first | exact (Kd.R_reads' HO109.out).2.2 | (with_reducible refine Kd.C_alloc ?_ _) | (with_reducible refine Kd.C_drewN ?_ _) | (with_reducible refine Kd.C_drew ?_))); (case side2 => exact (Kd.R_reads' HO109.out).2.1); (case side3 => repeat (first | exact (Kd.R_reads' HO113.out).2.2 | (with_reducible refine Kd.C_alloc ?_ _) | (with_reducible refine Kd.C_drewN ?_ _) | (with_reducible refine Kd.C_drew ?_))); (case side4 => exact (Kd.R_reads' HO113.out).2.1); rintro e w21 ⟨rfl, hb⟩; refine ⟨_, rfl, ?_⟩; have n0_ := Aside0.mk (Kd.R_below (by (with_reducible repeat (first | apply Kd.R_alloc | apply Kd.R_drewN | apply Kd.R_drew)); exact HO104.out) hb); have n1_ := Aside0.mk (Kd.R_below (by (with_reducible repeat (first | apply Kd.R_alloc | apply Kd.R_drewN | apply Kd.R_drew)); exact HO107.out) hb); have n2_ := Aside0.mk (Kd.R_below (by (with_reducible repeat (first | apply Kd.R_alloc | apply Kd.R_drewN | apply Kd.R_drew)); exact HO109.out) hb); have n3_ := Aside0.mk (Kd.R_below (by (with_reducible repeat (first | apply Kd.R_alloc | apply Kd.R_drewN | apply Kd.R_drew)); exact HO111.out) hb); have n4_ := Aside0.mk (Kd.R_below (by (with_reducible repeat (first | apply Kd.R_alloc | apply Kd.R_drewN | apply Kd.R_drew)); exact HO113.out) hb); have n5_ := Aside0.mk (below_step (by repeat (first | (with_reducible first | exact HB.out | apply below_alloc | apply pw_below_drewN | apply below_drew1) | exact HB.out)) hb); clear HO104; clear HO107; clear HO109; clear HO111; clear HO113; clear HB; have HO104 := n0_; have HO107 := n1_; have HO109 := n2_; have HO111 := n3_; have HO113 := n4_; have HB := n5_; clear n0_ n1_ n2_ n3_ n4_ n5_; (try clear hb); (try clear hb2); (try clear hk); (try clear hi)) | ((with_reducible refine gate_callee (f := 40) rfl ?_); refine goesL_ (some 38) rfl rfl Try.func40 (by kernel_rfl) rfl #[.slice Ao15 t102.length co15, .int .i64 1] rfl (by (try simp only [List.map_toArray, List.map_cons, List.map_nil]); first | done | rfl | (simp only [List.length_drop, List.length_take]; rfl)) ?_; (with_reducible refine (laws_markOpS.calls (fun k_ => some k_ = (.slice Ao15 t102.length co15 : Value).ownBlock) (.slice Ao15 t102.length co15) t102 1 t114 t115 w _ ?side1 ?side2 A9.out).mono ?_); (case side1 => repeat (first | (with_reducible first | exact HB.out | apply below_alloc | apply pw_below_drewN | apply below_drew1) | exact HB.out)); (case side2 => exact Kd.R_tight rfl HO109.out); rintro e w22 ⟨rfl, hy0, hb, hkp⟩; refine ⟨_, rfl, ?_⟩; have n0_ := Aside0.mk (Kd.R_mono (ok' := fun k_ => some k_ ≠ (.slice Ao15 t102.length co15 : Value).ownBlock ∧ some k_ ≠ (.slice Ao20 t102.length co20 : Value).ownBlock) (Kd.R_keptB (HO104.out) hkp (fun k_ hk_ hs_ => (hk_.1.2) hs_)) (fun k_ hk_ => ⟨hk_.1.1.2, hk_.1.2⟩)); have n1_ := Aside0.mk (Kd.R_mono (ok' := fun k_ => some k_ ≠ (.slice Ao17 t105.length co17 : Value).ownBlock) (Kd.R_keptB ((Kd.R_apart' HO107.out (Kd.R_typed HO109.out) (by decide))) hkp (fun k_ hk_ hs_ => (hk_.2) hs_)) (fun k_ hk_ => hk_.1.1.2)); have n2_ := Aside0.mk (Kd.R_reok rfl hy0 (fun k_ e_ => HO109.out.1 k_ e_)); have n3_ := Aside0.mk (Kd.R_mono (ok' := fun k_ => some k_ ≠ (.slice Ao18 t105.length co18 : Value).ownBlock) (Kd.R_keptB ((Kd.R_apart' HO111.out (Kd.R_typed HO109.out) (by decide))) hkp (fun k_ hk_ hs_ => (hk_.2) hs_)) (fun k_ hk_ => hk_.1.1.2)); have n4_ := Aside0.mk (Kd.R_mono (ok' := fun k_ => some k_ ≠ (.slice Ao12 t102.length co12 : Value).ownBlock ∧ some k_ ≠ (.slice Ao15 t102.length co15 : Value).ownBlock) (Kd.R_keptB (HO113.out) hkp (fun k_ hk_ hs_ => (hk_.2) hs_)) (fun k_ hk_ => ⟨hk_.1.1.2, hk_.1.2⟩)); have n5_ := Aside0.mk (hb); clear HO104; clear HO107; clear HO109; clear HO111; clear HO113; clear HB; have HO104 := n0_; have HO107 := n1_; have HO109 := n2_; have HO111 := n3_; have HO113 := n4_; have HB := n5_; clear n0_ n1_ n2_ n3_ n4_ n5_; (try clear hb); (try clear hkp); (try clear hy0)))
    (try simp only [Act.put, List.setIfInBounds_toArray, List.set_cons_zero, List.set_cons_succ])
    go_cut [46] (fun v46 wc => ∃ (kq : Nat) (x46_9 : Bool), v46 = .bool x46_9 ∧ Aside0 (laws_FnExactCodeNext.j0 kq l0 a1 t105 t105 x46_9 = some r) ∧ Aside0 (kq ≤ k) ∧ Aside0 (Kd.R (Kd.int .i64) 3 wc w.heap.size (fun k_ => some k_ ≠ ((.slice Ao17 t105.length co17) : Value).ownBlock) (.slice Ao18 t105.length co18) t105) ∧ Aside0 (Kd.R (Kd.int .i64) 3 wc w.heap.size (fun k_ => some k_ ≠ ((.slice Ao18 t105.length co18) : Value).ownBlock) (.slice Ao17 t105.length co17) t105) ∧ Aside0 (Below w.heap.size w wc))
    case first =>
      have H := HC10.out
      clear HC10
      by_cases c23 : t114 < 0
      · rw [if_pos c23] at H
        have c23b0 : decide (t114 < 0) = true := decide_eq_true c23
        clear c23
        (first | rw [c23b0] | (simp only [i64_w, i32_w]; rw [c23b0]) | skip)
        have H' := Aside0.mk H
        clear H
        go_wp2
        go_meet
        case rel => exact ⟨_, (true), (by first | rfl | (simp; done) | (simp [*]; done)), H', ⟨by first | omega | exact Nat.le_refl _⟩, ⟨by (with_reducible repeat (first | apply Kd.R_alloc | apply Kd.R_drewN | apply Kd.R_drew)); exact HO107.out⟩, ⟨by (with_reducible repeat (first | apply Kd.R_alloc | apply Kd.R_drewN | apply Kd.R_drew)); exact HO111.out⟩, ⟨by repeat (first | (with_reducible first | exact HB.out | apply below_alloc | apply pw_below_drewN | apply below_drew1) | exact HB.out)⟩⟩
      · rw [if_neg c23] at H
        have c23b0 : decide (t114 < 0) = false := decide_eq_false c23
        clear c23
        (first | rw [c23b0] | (simp only [i64_w, i32_w]; rw [c23b0]) | skip)
        have A24 := Aside0.mk (eqInts_same t105 : eqIntsV.f t105 t105 = some true)
        have H' := Aside0.mk H
        clear H
        go_wp2_with (first | (go_at_call 28; (with_reducible refine (laws_eqIntS_as.calls _ _ t105 _ _ t105 true _ ?side1 ?side2 ?side3 ?side4 A24.out).mono ?_); (case side1 => repeat (first | exact (Kd.R_reads' HO111.out).2.2 | (with_reducible refine Kd.C_alloc ?_ _) | (with_reducible refine Kd.C_drewN ?_ _) | (with_reducible refine Kd.C_drew ?_))); (case side2 => exact (Kd.R_reads' HO111.out).2.1); (case side3 => repeat (first | exact (Kd.R_reads' HO107.out).2.2 | (with_reducible refine Kd.C_alloc ?_ _) | (with_reducible refine Kd.C_drewN ?_ _) | (with_reducible refine Kd.C_drew ?_))); (case side4 => exact (Kd.R_reads' HO107.out).2.1); rintro e w' ⟨rfl, ⟨nd, rfl⟩⟩))
        go_meet
        case rel => exact ⟨_, (!true), (by first | rfl | (simp; done) | (simp [*]; done)), H', ⟨by first | omega | exact Nat.le_refl _⟩, ⟨by (with_reducible repeat (first | apply Kd.R_alloc | apply Kd.R_drewN | apply Kd.R_drew)); exact HO107.out⟩, ⟨by (with_reducible repeat (first | apply Kd.R_alloc | apply Kd.R_drewN | apply Kd.R_drew)); exact HO111.out⟩, ⟨by repeat (first | (with_reducible first | exact HB.out | apply below_alloc | apply pw_below_drewN | apply below_drew1) | exact HB.out)⟩⟩
    case rest =>
      clear HC10
      try clear c2
      try clear p2
      try clear c3
      try clear c4
      try clear c4b0
      try clear c8
      try clear c23
      try clear c23b0
      obtain ⟨kq, x46_9, rfl, HA, HJ9, HO_6, HO_8, HB⟩ := hcut
      cases kq with
      | zero => exact absurd HA.out (by simp [laws_FnExactCodeNext.j0])
      | succ kj9 =>
        have H := HA.out
        clear HA
        simp only [laws_FnExactCodeNext.j0] at H
        by_cases c25 : x46_9 = true
        · subst c25
          have H1 : (some false) = some r := by rw [if_pos rfl] at H; exact H
          clear H
          have H := H1
          clear H1
          obtain rfl := Option.some.inj H
          go_wp2
          go_ret
          exact ⟨by first | rfl | (simp [errW_none, errW_some] <;> rfl) | (simp [*, errW_none, errW_some] <;> rfl), by repeat (first | (with_reducible first | exact HB.out | apply below_alloc | apply pw_below_drewN | apply below_drew1) | exact HB.out)⟩
        · replace c25 := Bool.eq_false_iff.mpr c25
          subst c25
          have H1 : ((markIntsV.f t105 1).bind fun bt116 => ((heldIntsV.f bt116.2 1).bind fun t118 => (if t118 < 0 then (some false) else (if t118 = bt116.1 then ((toOpsV.f l0).bind fun t119 => ((nextV.f t119 a1).bind fun t122 => ((eqIntsV.f t122 t105).bind fun t125 => (if t125 = true then (some true) else (some false))))) else (some false))))) = some r := by rw [if_neg (show ¬ (false = true) by decide)] at H; exact H
          clear H
          have H := H1
          clear H1
          replace H := Option.bind_eq_some_iff.mp H
          obtain ⟨⟨t116, t117⟩, A260, H⟩ := H
          replace H : ((heldIntsV.f t117 1).bind fun t118 => (if t118 < 0 then (some false) else (if t118 = t116 then ((toOpsV.f l0).bind fun t119 => ((nextV.f t119 a1).bind fun t122 => ((eqIntsV.f t122 t105).bind fun t125 => (if t125 = true then (some true) else (some false))))) else (some false)))) = some r := H
          have A26 := Aside0.mk A260
          clear A260
          replace H := Option.bind_eq_some_iff.mp H
          obtain ⟨t118, A270, H⟩ := H
          replace H : (if t118 < 0 then (some false) else (if t118 = t116 then ((toOpsV.f l0).bind fun t119 => ((nextV.f t119 a1).bind fun t122 => ((eqIntsV.f t122 t105).bind fun t125 => (if t125 = true then (some true) else (some false))))) else (some false))) = some r := H
          have A27 := Aside0.mk A270
          clear A270
          by_cases c28 : t118 < 0
          · rw [if_pos c28] at H
            have c28b0 : decide (t118 < 0) = true := decide_eq_true c28
            clear c28
            obtain rfl := Option.some.inj H
            go_wp2_with (first | ((with_reducible refine gate_callee (f := 29) rfl ?_); refine goesL_ (some 49) rfl rfl Try.func29 (by kernel_rfl) rfl #[.slice Ao17 t105.length co17, .int .i64 1] rfl (by (try simp only [List.map_toArray, List.map_cons, List.map_nil]); first | done | rfl | (simp only [List.length_drop, List.length_take]; rfl)) ?_; (with_reducible refine (laws_markIntS_as.calls (fun k_ => some k_ = (.slice Ao17 t105.length co17 : Value).ownBlock) (.slice Ao17 t105.length co17) t105 1 t116 t117 w _ ?side1 ?side2 A26.out).mono ?_); (case side1 => repeat (first | (with_reducible first | exact HB.out | apply below_alloc | apply pw_below_drewN | apply below_drew1) | exact HB.out)); (case side2 => exact Kd.R_tight rfl HO_8.out); rintro e w29 ⟨rfl, hy0, hb, hkp⟩; refine ⟨_, rfl, ?_⟩; have n0_ := Aside0.mk (Kd.R_mono (ok' := fun k_ => some k_ ≠ (.slice Ao17 t105.length co17 : Value).ownBlock) (Kd.R_keptB (HO_6.out) hkp (fun k_ hk_ hs_ => (hk_) hs_)) (fun k_ hk_ => hk_.1)); have n1_ := Aside0.mk (Kd.R_reok rfl hy0 (fun k_ e_ => HO_8.out.1 k_ e_)); have n2_ := Aside0.mk (hb); clear HO_6; clear HO_8; clear HB; have HO_6 := n0_; have HO_8 := n1_; have HB := n2_; clear n0_ n1_ n2_; (try clear hb); (try clear hkp); (try clear hy0)) | ((with_reducible refine gate_callee (f := 30) rfl ?_); refine goesL_ (some 52) rfl rfl Try.func30 (by kernel_rfl) rfl #[.slice Ao17 t117.length co17, .int .i64 1] rfl (by (try simp only [List.map_toArray, List.map_cons, List.map_nil]); first | done | (rw [show t117.length = t105.length from (Kd.R_reads' HO_8.out).1.symm] <;> rfl) | rfl | (simp only [List.length_drop, List.length_take]; rfl)) ?_; (with_reducible refine (laws_heldIntS_as.calls _ _ t117 1 t118 _ ?side1 ?side2 A27.out).mono ?_); (case side1 => repeat (first | exact (Kd.R_reads' HO_8.out).2.2 | (with_reducible refine Kd.C_alloc ?_ _) | (with_reducible refine Kd.C_drewN ?_ _) | (with_reducible refine Kd.C_drew ?_))); (case side2 => rw [show t117.length = t105.length from (Kd.R_reads' HO_8.out).1.symm]; exact (Kd.R_reads' HO_8.out).2.1); rintro e w' ⟨rfl, ⟨nd, rfl⟩⟩; refine ⟨_, rfl, ?_⟩))
            go_ret
            exact ⟨by first | rfl | (simp [errW_none, errW_some] <;> rfl) | (simp [*, errW_none, errW_some] <;> rfl), by repeat (first | (with_reducible first | exact HB.out | apply below_alloc | apply pw_below_drewN | apply below_drew1) | exact HB.out)⟩
          · rw [if_neg c28] at H
            have c28b0 : decide (t118 < 0) = false := decide_eq_false c28
            clear c28
            by_cases c30 : t118 = t116
            · rw [if_pos c30] at H
              have c30b0 : (t118 == t116) = true := beq_iff_eq.mpr c30
              have c30b1 : (t118 != t116) = false := bne_eq_false_iff_eq.mpr c30
              clear c30
              replace H := Option.bind_eq_some_iff.mp H
              obtain ⟨t119, A310, H⟩ := H
              replace H : ((nextV.f t119 a1).bind fun t122 => ((eqIntsV.f t122 t105).bind fun t125 => (if t125 = true then (some true) else (some false)))) = some r := H
              have A31 := Aside0.mk A310
              clear A310
              replace H := Option.bind_eq_some_iff.mp H
              obtain ⟨t122, A320, H⟩ := H
              replace H : ((eqIntsV.f t122 t105).bind fun t125 => (if t125 = true then (some true) else (some false))) = some r := H
              have A32 := Aside0.mk A320
              clear A320
              replace H := Option.bind_eq_some_iff.mp H
              obtain ⟨t125, A330, H⟩ := H
              replace H : (if t125 = true then (some true) else (some false)) = some r := H
              have A33 := Aside0.mk A330
              clear A330
              by_cases c34 : t125 = true
              · subst c34
                have H1 : (some true) = some r := by rw [if_pos rfl] at H; exact H
                clear H
                have H := H1
                clear H1
                obtain rfl := Option.some.inj H
                go_wp2_with (first | ((with_reducible refine gate_callee (f := 29) rfl ?_); refine goesL_ (some 49) rfl rfl Try.func29 (by kernel_rfl) rfl #[.slice Ao17 t105.length co17, .int .i64 1] rfl (by (try simp only [List.map_toArray, List.map_cons, List.map_nil]); first | done | rfl | (simp only [List.length_drop, List.length_take]; rfl)) ?_; (with_reducible refine (laws_markIntS_as.calls (fun k_ => some k_ = (.slice Ao17 t105.length co17 : Value).ownBlock) (.slice Ao17 t105.length co17) t105 1 t116 t117 w _ ?side1 ?side2 A26.out).mono ?_); (case side1 => repeat (first | (with_reducible first | exact HB.out | apply below_alloc | apply pw_below_drewN | apply below_drew1) | exact HB.out)); (case side2 => exact Kd.R_tight rfl HO_8.out); rintro e w35 ⟨rfl, hy0, hb, hkp⟩; refine ⟨_, rfl, ?_⟩; have n0_ := Aside0.mk (Kd.R_mono (ok' := fun k_ => some k_ ≠ (.slice Ao17 t105.length co17 : Value).ownBlock) (Kd.R_keptB (HO_6.out) hkp (fun k_ hk_ hs_ => (hk_) hs_)) (fun k_ hk_ => hk_.1)); have n1_ := Aside0.mk (Kd.R_reok rfl hy0 (fun k_ e_ => HO_8.out.1 k_ e_)); have n2_ := Aside0.mk (hb); clear HO_6; clear HO_8; clear HB; have HO_6 := n0_; have HO_8 := n1_; have HB := n2_; clear n0_ n1_ n2_; (try clear hb); (try clear hkp); (try clear hy0)) | ((with_reducible refine gate_callee (f := 30) rfl ?_); refine goesL_ (some 52) rfl rfl Try.func30 (by kernel_rfl) rfl #[.slice Ao17 t117.length co17, .int .i64 1] rfl (by (try simp only [List.map_toArray, List.map_cons, List.map_nil]); first | done | (rw [show t117.length = t105.length from (Kd.R_reads' HO_8.out).1.symm] <;> rfl) | rfl | (simp only [List.length_drop, List.length_take]; rfl)) ?_; (with_reducible refine (laws_heldIntS_as.calls _ _ t117 1 t118 _ ?side1 ?side2 A27.out).mono ?_); (case side1 => repeat (first | exact (Kd.R_reads' HO_8.out).2.2 | (with_reducible refine Kd.C_alloc ?_ _) | (with_reducible refine Kd.C_drewN ?_ _) | (with_reducible refine Kd.C_drew ?_))); (case side2 => rw [show t117.length = t105.length from (Kd.R_reads' HO_8.out).1.symm]; exact (Kd.R_reads' HO_8.out).2.1); rintro e w' ⟨rfl, ⟨nd, rfl⟩⟩; refine ⟨_, rfl, ?_⟩) | ((with_reducible refine gate_callee (f := 34) rfl ?_); refine goesL_ (some 59) rfl rfl Try.func34 (by kernel_rfl) rfl #[.slice A0 l0.length c0] rfl (by (try simp only [List.map_toArray, List.map_cons, List.map_nil]); first | done | rfl | (simp only [List.length_drop, List.length_take]; rfl)) ?_; (with_reducible refine (laws_toOpS_as.calls _ _ l0 t119 _ ?side1 ?side2 A31.out).mono ?_); (case side1 => repeat (first | exact (Kd.C_below HR0.out (by repeat (first | (with_reducible first | exact HB.out | apply below_alloc | apply pw_below_drewN | apply below_drew1) | exact HB.out))) | (with_reducible refine Kd.C_alloc ?_ _) | (with_reducible refine Kd.C_drewN ?_ _) | (with_reducible refine Kd.C_drew ?_))); (case side2 => exact HC0.out); rintro e w36 ⟨v120, rfl, ho0, hb⟩; refine ⟨_, rfl, ?_⟩; have n0_ := Aside0.mk (Kd.R_below (by (with_reducible repeat (first | apply Kd.R_alloc | apply Kd.R_drewN | apply Kd.R_drew)); exact HO_6.out) hb); have n1_ := Aside0.mk (Kd.R_below (by (with_reducible repeat (first | apply Kd.R_alloc | apply Kd.R_drewN | apply Kd.R_drew)); exact HO_8.out) hb); have n2_ := Aside0.mk (Kd.R_lower ho0 (below_size (by repeat (first | (with_reducible first | exact HB.out | apply below_alloc | apply pw_below_drewN | apply below_drew1) | exact HB.out)))); have n3_ := Aside0.mk (below_step (by repeat (first | (with_reducible first | exact HB.out | apply below_alloc | apply pw_below_drewN | apply below_drew1) | exact HB.out)) hb); clear HO_6; clear HO_8; clear HB; have HO_6 := n0_; have HO_8 := n1_; have HO121 := n2_; have HB := n3_; clear n0_ n1_ n2_ n3_; (try clear hb); (try clear hb2); (try clear hk); (try clear hi); (try clear ho0); obtain ⟨Ao37, co37, eo37⟩ := Kd.R_slice HO121.out; subst eo37) | ((with_reducible refine gate_callee (f := 39) rfl ?_); refine goesL_ (some 61) rfl rfl Try.func39 (by kernel_rfl) rfl #[.slice Ao37 t119.length co37, .int .i64 a1] rfl (by (try simp only [List.map_toArray, List.map_cons, List.map_nil]); first | done | rfl | (simp only [List.length_drop, List.length_take]; rfl)) ?_; (with_reducible refine (impl_CodeNext.calls _ _ t119 a1 t122 _ ?side1 ?side2 A32.out).mono ?_); (case side1 => repeat (first | exact (Kd.R_reads' HO121.out).2.2 | (with_reducible refine Kd.C_alloc ?_ _) | (with_reducible refine Kd.C_drewN ?_ _) | (with_reducible refine Kd.C_drew ?_))); (case side2 => exact (Kd.R_reads' HO121.out).2.1); rintro e w38 ⟨v123, rfl, ho0, hb⟩; refine ⟨_, rfl, ?_⟩; have n0_ := Aside0.mk (Kd.R_elder' (by (with_reducible repeat (first | apply Kd.R_alloc | apply Kd.R_drewN | apply Kd.R_drew)); exact HO_6.out) (Kd.R_base ho0) hb); have n1_ := Aside0.mk (Kd.R_elder' (by (with_reducible repeat (first | apply Kd.R_alloc | apply Kd.R_drewN | apply Kd.R_drew)); exact HO_8.out) (Kd.R_base ho0) hb); have n2_ := Aside0.mk (Kd.R_below (by (with_reducible repeat (first | apply Kd.R_alloc | apply Kd.R_drewN | apply Kd.R_drew)); exact HO121.out) hb); have n3_ := Aside0.mk (Kd.R_lower (Kd.R_new' (Kd.R_new' ho0 (Kd.R_lt (by (with_reducible repeat (first | apply Kd.R_alloc | apply Kd.R_drewN | apply Kd.R_drew)); exact HO_6.out))) (Kd.R_lt (by (with_reducible repeat (first | apply Kd.R_alloc | apply Kd.R_drewN | apply Kd.R_drew)); exact HO_8.out))) (below_size (by repeat (first | (with_reducible first | exact HB.out | apply below_alloc | apply pw_below_drewN | apply below_drew1) | exact HB.out)))); have n4_ := Aside0.mk (below_step (by repeat (first | (with_reducible first | exact HB.out | apply below_alloc | apply pw_below_drewN | apply below_drew1) | exact HB.out)) hb); clear HO_6; clear HO_8; clear HO121; clear HB; have HO_6 := n0_; have HO_8 := n1_; have HO121 := n2_; have HO124 := n3_; have HB := n4_; clear n0_ n1_ n2_ n3_ n4_; (try clear hb); (try clear hb2); (try clear hk); (try clear hi); (try clear ho0); obtain ⟨Ao39, co39, eo39⟩ := Kd.R_slice HO124.out; subst eo39) | ((with_reducible refine gate_callee (f := 28) rfl ?_); refine goesL_ (some 64) rfl rfl Try.func28 (by kernel_rfl) rfl #[.slice Ao39 t122.length co39, .slice Ao18 t105.length co18] rfl (by (try simp only [List.map_toArray, List.map_cons, List.map_nil]); first | done | rfl | (simp only [List.length_drop, List.length_take]; rfl)) ?_; (with_reducible refine (laws_eqIntS_as.calls _ _ t122 _ _ t105 true _ ?side1 ?side2 ?side3 ?side4 A33.out).mono ?_); (case side1 => repeat (first | exact (Kd.R_reads' HO124.out).2.2 | (with_reducible refine Kd.C_alloc ?_ _) | (with_reducible refine Kd.C_drewN ?_ _) | (with_reducible refine Kd.C_drew ?_))); (case side2 => exact (Kd.R_reads' HO124.out).2.1); (case side3 => repeat (first | exact (Kd.R_reads' HO_6.out).2.2 | (with_reducible refine Kd.C_alloc ?_ _) | (with_reducible refine Kd.C_drewN ?_ _) | (with_reducible refine Kd.C_drew ?_))); (case side4 => exact (Kd.R_reads' HO_6.out).2.1); rintro e w' ⟨rfl, ⟨nd, rfl⟩⟩; refine ⟨_, rfl, ?_⟩) | ((with_reducible refine gate_callee (f := 30) rfl ?_); refine goesL_ (some 68) rfl rfl Try.func30 (by kernel_rfl) rfl #[.slice Ao17 t117.length co17, .int .i64 1] rfl (by (try simp only [List.map_toArray, List.map_cons, List.map_nil]); first | done | (rw [show t117.length = t105.length from (Kd.R_reads' HO_8.out).1.symm] <;> rfl) | rfl | (simp only [List.length_drop, List.length_take]; rfl)) ?_; (with_reducible refine (laws_heldIntS_as.calls _ _ t117 1 t118 _ ?side1 ?side2 A27.out).mono ?_); (case side1 => repeat (first | exact (Kd.R_reads' HO_8.out).2.2 | (with_reducible refine Kd.C_alloc ?_ _) | (with_reducible refine Kd.C_drewN ?_ _) | (with_reducible refine Kd.C_drew ?_))); (case side2 => rw [show t117.length = t105.length from (Kd.R_reads' HO_8.out).1.symm]; exact (Kd.R_reads' HO_8.out).2.1); rintro e w' ⟨rfl, ⟨nd, rfl⟩⟩; refine ⟨_, rfl, ?_⟩))
                go_ret
                exact ⟨by first | rfl | (simp [errW_none, errW_some] <;> rfl) | (simp [*, errW_none, errW_some] <;> rfl), by repeat (first | (with_reducible first | exact HB.out | apply below_alloc | apply pw_below_drewN | apply below_drew1) | exact HB.out)⟩
              · replace c34 := Bool.eq_false_iff.mpr c34
                subst c34
                have H1 : (some false) = some r := by rw [if_neg (show ¬ (false = true) by decide)] at H; exact H
                clear H
                have H := H1
                clear H1
                obtain rfl := Option.some.inj H
                go_wp2_with (first | ((with_reducible refine gate_callee (f := 29) rfl ?_); refine goesL_ (some 49) rfl rfl Try.func29 (by kernel_rfl) rfl #[.slice Ao17 t105.length co17, .int .i64 1] rfl (by (try simp only [List.map_toArray, List.map_cons, List.map_nil]); first | done | rfl | (simp only [List.length_drop, List.length_take]; rfl)) ?_; (with_reducible refine (laws_markIntS_as.calls (fun k_ => some k_ = (.slice Ao17 t105.length co17 : Value).ownBlock) (.slice Ao17 t105.length co17) t105 1 t116 t117 w _ ?side1 ?side2 A26.out).mono ?_); (case side1 => repeat (first | (with_reducible first | exact HB.out | apply below_alloc | apply pw_below_drewN | apply below_drew1) | exact HB.out)); (case side2 => exact Kd.R_tight rfl HO_8.out); rintro e w40 ⟨rfl, hy0, hb, hkp⟩; refine ⟨_, rfl, ?_⟩; have n0_ := Aside0.mk (Kd.R_mono (ok' := fun k_ => some k_ ≠ (.slice Ao17 t105.length co17 : Value).ownBlock) (Kd.R_keptB (HO_6.out) hkp (fun k_ hk_ hs_ => (hk_) hs_)) (fun k_ hk_ => hk_.1)); have n1_ := Aside0.mk (Kd.R_reok rfl hy0 (fun k_ e_ => HO_8.out.1 k_ e_)); have n2_ := Aside0.mk (hb); clear HO_6; clear HO_8; clear HB; have HO_6 := n0_; have HO_8 := n1_; have HB := n2_; clear n0_ n1_ n2_; (try clear hb); (try clear hkp); (try clear hy0)) | ((with_reducible refine gate_callee (f := 30) rfl ?_); refine goesL_ (some 52) rfl rfl Try.func30 (by kernel_rfl) rfl #[.slice Ao17 t117.length co17, .int .i64 1] rfl (by (try simp only [List.map_toArray, List.map_cons, List.map_nil]); first | done | (rw [show t117.length = t105.length from (Kd.R_reads' HO_8.out).1.symm] <;> rfl) | rfl | (simp only [List.length_drop, List.length_take]; rfl)) ?_; (with_reducible refine (laws_heldIntS_as.calls _ _ t117 1 t118 _ ?side1 ?side2 A27.out).mono ?_); (case side1 => repeat (first | exact (Kd.R_reads' HO_8.out).2.2 | (with_reducible refine Kd.C_alloc ?_ _) | (with_reducible refine Kd.C_drewN ?_ _) | (with_reducible refine Kd.C_drew ?_))); (case side2 => rw [show t117.length = t105.length from (Kd.R_reads' HO_8.out).1.symm]; exact (Kd.R_reads' HO_8.out).2.1); rintro e w' ⟨rfl, ⟨nd, rfl⟩⟩; refine ⟨_, rfl, ?_⟩) | ((with_reducible refine gate_callee (f := 34) rfl ?_); refine goesL_ (some 59) rfl rfl Try.func34 (by kernel_rfl) rfl #[.slice A0 l0.length c0] rfl (by (try simp only [List.map_toArray, List.map_cons, List.map_nil]); first | done | rfl | (simp only [List.length_drop, List.length_take]; rfl)) ?_; (with_reducible refine (laws_toOpS_as.calls _ _ l0 t119 _ ?side1 ?side2 A31.out).mono ?_); (case side1 => repeat (first | exact (Kd.C_below HR0.out (by repeat (first | (with_reducible first | exact HB.out | apply below_alloc | apply pw_below_drewN | apply below_drew1) | exact HB.out))) | (with_reducible refine Kd.C_alloc ?_ _) | (with_reducible refine Kd.C_drewN ?_ _) | (with_reducible refine Kd.C_drew ?_))); (case side2 => exact HC0.out); rintro e w41 ⟨v120, rfl, ho0, hb⟩; refine ⟨_, rfl, ?_⟩; have n0_ := Aside0.mk (Kd.R_below (by (with_reducible repeat (first | apply Kd.R_alloc | apply Kd.R_drewN | apply Kd.R_drew)); exact HO_6.out) hb); have n1_ := Aside0.mk (Kd.R_below (by (with_reducible repeat (first | apply Kd.R_alloc | apply Kd.R_drewN | apply Kd.R_drew)); exact HO_8.out) hb); have n2_ := Aside0.mk (Kd.R_lower ho0 (below_size (by repeat (first | (with_reducible first | exact HB.out | apply below_alloc | apply pw_below_drewN | apply below_drew1) | exact HB.out)))); have n3_ := Aside0.mk (below_step (by repeat (first | (with_reducible first | exact HB.out | apply below_alloc | apply pw_below_drewN | apply below_drew1) | exact HB.out)) hb); clear HO_6; clear HO_8; clear HB; have HO_6 := n0_; have HO_8 := n1_; have HO121 := n2_; have HB := n3_; clear n0_ n1_ n2_ n3_; (try clear hb); (try clear hb2); (try clear hk); (try clear hi); (try clear ho0); obtain ⟨Ao42, co42, eo42⟩ := Kd.R_slice HO121.out; subst eo42) | ((with_reducible refine gate_callee (f := 39) rfl ?_); refine goesL_ (some 61) rfl rfl Try.func39 (by kernel_rfl) rfl #[.slice Ao42 t119.length co42, .int .i64 a1] rfl (by (try simp only [List.map_toArray, List.map_cons, List.map_nil]); first | done | rfl | (simp only [List.length_drop, List.length_take]; rfl)) ?_; (with_reducible refine (impl_CodeNext.calls _ _ t119 a1 t122 _ ?side1 ?side2 A32.out).mono ?_); (case side1 => repeat (first | exact (Kd.R_reads' HO121.out).2.2 | (with_reducible refine Kd.C_alloc ?_ _) | (with_reducible refine Kd.C_drewN ?_ _) | (with_reducible refine Kd.C_drew ?_))); (case side2 => exact (Kd.R_reads' HO121.out).2.1); rintro e w43 ⟨v123, rfl, ho0, hb⟩; refine ⟨_, rfl, ?_⟩; have n0_ := Aside0.mk (Kd.R_elder' (by (with_reducible repeat (first | apply Kd.R_alloc | apply Kd.R_drewN | apply Kd.R_drew)); exact HO_6.out) (Kd.R_base ho0) hb); have n1_ := Aside0.mk (Kd.R_elder' (by (with_reducible repeat (first | apply Kd.R_alloc | apply Kd.R_drewN | apply Kd.R_drew)); exact HO_8.out) (Kd.R_base ho0) hb); have n2_ := Aside0.mk (Kd.R_below (by (with_reducible repeat (first | apply Kd.R_alloc | apply Kd.R_drewN | apply Kd.R_drew)); exact HO121.out) hb); have n3_ := Aside0.mk (Kd.R_lower (Kd.R_new' (Kd.R_new' ho0 (Kd.R_lt (by (with_reducible repeat (first | apply Kd.R_alloc | apply Kd.R_drewN | apply Kd.R_drew)); exact HO_6.out))) (Kd.R_lt (by (with_reducible repeat (first | apply Kd.R_alloc | apply Kd.R_drewN | apply Kd.R_drew)); exact HO_8.out))) (below_size (by repeat (first | (with_reducible first | exact HB.out | apply below_alloc | apply pw_below_drewN | apply below_drew1) | exact HB.out)))); have n4_ := Aside0.mk (below_step (by repeat (first | (with_reducible first | exact HB.out | apply below_alloc | apply pw_below_drewN | apply below_drew1) | exact HB.out)) hb); clear HO_6; clear HO_8; clear HO121; clear HB; have HO_6 := n0_; have HO_8 := n1_; have HO121 := n2_; have HO124 := n3_; have HB := n4_; clear n0_ n1_ n2_ n3_ n4_; (try clear hb); (try clear hb2); (try clear hk); (try clear hi); (try clear ho0); obtain ⟨Ao44, co44, eo44⟩ := Kd.R_slice HO124.out; subst eo44) | ((with_reducible refine gate_callee (f := 28) rfl ?_); refine goesL_ (some 64) rfl rfl Try.func28 (by kernel_rfl) rfl #[.slice Ao44 t122.length co44, .slice Ao18 t105.length co18] rfl (by (try simp only [List.map_toArray, List.map_cons, List.map_nil]); first | done | rfl | (simp only [List.length_drop, List.length_take]; rfl)) ?_; (with_reducible refine (laws_eqIntS_as.calls _ _ t122 _ _ t105 false _ ?side1 ?side2 ?side3 ?side4 A33.out).mono ?_); (case side1 => repeat (first | exact (Kd.R_reads' HO124.out).2.2 | (with_reducible refine Kd.C_alloc ?_ _) | (with_reducible refine Kd.C_drewN ?_ _) | (with_reducible refine Kd.C_drew ?_))); (case side2 => exact (Kd.R_reads' HO124.out).2.1); (case side3 => repeat (first | exact (Kd.R_reads' HO_6.out).2.2 | (with_reducible refine Kd.C_alloc ?_ _) | (with_reducible refine Kd.C_drewN ?_ _) | (with_reducible refine Kd.C_drew ?_))); (case side4 => exact (Kd.R_reads' HO_6.out).2.1); rintro e w' ⟨rfl, ⟨nd, rfl⟩⟩; refine ⟨_, rfl, ?_⟩))
                go_ret
                exact ⟨by first | rfl | (simp [errW_none, errW_some] <;> rfl) | (simp [*, errW_none, errW_some] <;> rfl), by repeat (first | (with_reducible first | exact HB.out | apply below_alloc | apply pw_below_drewN | apply below_drew1) | exact HB.out)⟩
            · rw [if_neg c30] at H
              have c30b0 : (t118 == t116) = false := beq_eq_false_iff_ne.mpr c30
              have c30b1 : (t118 != t116) = true := bne_iff_ne.mpr c30
              obtain rfl := Option.some.inj H
              go_wp2_with (first | ((with_reducible refine gate_callee (f := 29) rfl ?_); refine goesL_ (some 49) rfl rfl Try.func29 (by kernel_rfl) rfl #[.slice Ao17 t105.length co17, .int .i64 1] rfl (by (try simp only [List.map_toArray, List.map_cons, List.map_nil]); first | done | rfl | (simp only [List.length_drop, List.length_take]; rfl)) ?_; (with_reducible refine (laws_markIntS_as.calls (fun k_ => some k_ = (.slice Ao17 t105.length co17 : Value).ownBlock) (.slice Ao17 t105.length co17) t105 1 t116 t117 w _ ?side1 ?side2 A26.out).mono ?_); (case side1 => repeat (first | (with_reducible first | exact HB.out | apply below_alloc | apply pw_below_drewN | apply below_drew1) | exact HB.out)); (case side2 => exact Kd.R_tight rfl HO_8.out); rintro e w45 ⟨rfl, hy0, hb, hkp⟩; refine ⟨_, rfl, ?_⟩; have n0_ := Aside0.mk (Kd.R_mono (ok' := fun k_ => some k_ ≠ (.slice Ao17 t105.length co17 : Value).ownBlock) (Kd.R_keptB (HO_6.out) hkp (fun k_ hk_ hs_ => (hk_) hs_)) (fun k_ hk_ => hk_.1)); have n1_ := Aside0.mk (Kd.R_reok rfl hy0 (fun k_ e_ => HO_8.out.1 k_ e_)); have n2_ := Aside0.mk (hb); clear HO_6; clear HO_8; clear HB; have HO_6 := n0_; have HO_8 := n1_; have HB := n2_; clear n0_ n1_ n2_; (try clear hb); (try clear hkp); (try clear hy0)) | ((with_reducible refine gate_callee (f := 30) rfl ?_); refine goesL_ (some 52) rfl rfl Try.func30 (by kernel_rfl) rfl #[.slice Ao17 t117.length co17, .int .i64 1] rfl (by (try simp only [List.map_toArray, List.map_cons, List.map_nil]); first | done | (rw [show t117.length = t105.length from (Kd.R_reads' HO_8.out).1.symm] <;> rfl) | rfl | (simp only [List.length_drop, List.length_take]; rfl)) ?_; (with_reducible refine (laws_heldIntS_as.calls _ _ t117 1 t118 _ ?side1 ?side2 A27.out).mono ?_); (case side1 => repeat (first | exact (Kd.R_reads' HO_8.out).2.2 | (with_reducible refine Kd.C_alloc ?_ _) | (with_reducible refine Kd.C_drewN ?_ _) | (with_reducible refine Kd.C_drew ?_))); (case side2 => rw [show t117.length = t105.length from (Kd.R_reads' HO_8.out).1.symm]; exact (Kd.R_reads' HO_8.out).2.1); rintro e w' ⟨rfl, ⟨nd, rfl⟩⟩; refine ⟨_, rfl, ?_⟩))
              go_ret
              exact ⟨by first | rfl | (simp [errW_none, errW_some] <;> rfl) | (simp [*, errW_none, errW_some] <;> rfl), by repeat (first | (with_reducible first | exact HB.out | apply below_alloc | apply pw_below_drewN | apply below_drew1) | exact HB.out)⟩
end Go.Proofs.Ytmklpbmlgjkbiaa.PE
end
section
namespace Go.Proofs.Ytmklpbmlgjkbiaa.Pure
open Go.RowKit Go.Proofs.Ytmklpbmlgjkbiaa.PE Go.Proofs.Ytmklpbmlgjkbiaa.PS Go.Proofs.YtmklpbmlgjkbiaaW.PrintWords Go.Proofs.YtmklpbmlgjkbiaaW.PrintLast
theorem markedOp_eq (n : Nat) : ∀ k : Int, 0 ≤ k → k + 6 * n ≤ 9223372036854775807 → markedOp n k = k + 6 * n := by
  induction n with
  | zero => intro k _ _; simp [markedOp]
  | succ n ih =>
    intro k h0 h1
    have e : next6 k = k + 6 := by
      unfold next6
      rw [w64 (x := k + 1) (by omega) (by omega), w64 (x := k + 1 + 1) (by omega) (by omega), w64 (x := k + 1 + 1 + 1) (by omega) (by omega), w64 (x := k + 1 + 1 + 1 + 1) (by omega) (by omega), w64 (x := k + 1 + 1 + 1 + 1 + 1) (by omega) (by omega), w64 (x := k + 1 + 1 + 1 + 1 + 1 + 1) (by omega) (by omega)]
      omega
    show markedOp n (next6 k) = _
    rw [e, ih _ (by omega) (by omega)]; omega
theorem next_len (l : List S29) (a : Int) (r : List Int) (h : nextV.f l a = some r) : r.length ≤ 2 := by
  have h := Option.some.inj h
  subst h
  split
  · have := once_len (waysL l a.toNat) (waysL l a.toNat).length
    rw [List.take_length] at this
    exact Nat.le_trans this (ways_two l a.toNat)
  · simp
theorem FnExactCodeNext (l : List S25) (hm : l.length ≤ maxLen) (a1 : Int) : laws_FnExactCodeNext.f 1 l a1 = some true := by
  unfold maxLen at hm
  unfold laws_FnExactCodeNext.f laws_szOpS.f
  rw [w64 (x := 1048576 - (l.length : Int)) (by omega) (by omega)]
  by_cases h : (1048576 - (l.length : Int)) < 0
  · rw [if_pos h]; rfl
  · rw [if_neg h]
    simp only [Option.bind_some]
    rw [if_neg h]
    have ht : toOpsV.f l = some (l.map toS) := by unfold toOpsV.f; rw [if_pos (by omega)]
    rw [ht]
    simp only [Option.bind_some]
    obtain ⟨r, hr⟩ : ∃ r, nextV.f (l.map toS) a1 = some r := ⟨_, rfl⟩
    have hl := next_len _ _ _ hr
    rw [hr]
    simp only [Option.bind_some, markV.f]
    rw [markedOp_eq _ _ (by omega) (by simp; omega), if_neg (by omega)]
    simp only [laws_FnExactCodeNext.j0, Bool.not_true, Bool.false_eq_true, if_false, Option.bind_some, markIntsV.f, heldIntsV.f, eqIntsV.f]
    rw [held_marks, marked_eq _ _ (by omega) (by omega), if_neg (by omega), if_pos rfl, ht]
    simp only [Option.bind_some, hr]
    simp
theorem FnExactCodeNextC.calls (A0 : Option Addr) (c0 : Nat) (l0 : List (S25)) (a1 : Int) (r : Bool) (w : World) (hr0 : Kd.C k25 w A0 l0.length l0) (hc0 : l0.length ≤ c0) (h : laws_FnExactCodeNext.f 1 l0 a1 = some r) :
    Calls Try.prog 8 #[.slice A0 l0.length c0, .int .i64 a1] w fun e w' => e = .returned (.bool r) ∧ Below w.heap.size w w' := laws_FnExactCodeNext.calls 1 A0 c0 l0 a1 r w hr0 hc0 h
end Go.Proofs.Ytmklpbmlgjkbiaa.Pure
end
section
namespace Go.Proofs.Ytmklpbmlgjkbiaa.PS
open Go.ChangeShapes Go.WideShapes Go.ChangeAt Go.RowKit Go.Joins
set_option linter.unusedVariables false
set_option maxRecDepth 100000
theorem cells3 : Try.prog.cellsOf 3 = 1 := by kernel_rfl
theorem cells23 : Try.prog.cellsOf 23 = 2 := by kernel_rfl
theorem cells25 : Try.prog.cellsOf 25 = 6 := by kernel_rfl
section
variable {H : Type} {enc : TypeId × Value → H} {w : World} {base : Nat} {spare : Nat → Bool} {held : Bool} {fuel : Nat} {cs : List Value} {x : DataW H × List MemPlace}
theorem val_cells (h : DataW.trod enc Try.prog w base spare held fuel 23 cs = some x) : ∃ a b : Int, cs = [.int .i64 a, .int .i64 b] ∧ (Lit.int .i64 a).wf = true ∧ (Lit.int .i64 b).wf = true := by
  obtain ⟨xs, n, _, _, hl, hlen, hf⟩ := DataW.trod_struct Try.underlying23 h
  rw [cells23] at hl
  match cs, hl with
  | [c0, c1], _ =>
    match xs, hlen with
    | [y0, y1], _ =>
      have h0 := hf 0 _ rfl
      have h1 := hf 1 _ rfl
      obtain ⟨a, e0, _, w0⟩ := DataW.trod_int Try.underlying3 h0
      obtain ⟨b, e1, _, w1⟩ := DataW.trod_int Try.underlying3 h1
      simp [cells3] at e0 e1
      exact ⟨a, b, by rw [e0, e1], w0, w1⟩
theorem op_cells (h : DataW.trod enc Try.prog w base spare held fuel 25 cs = some x) : ∃ a b c d e f : Int, cs = [.int .i64 a, .int .i64 b, .int .i64 c, .int .i64 d, .int .i64 e, .int .i64 f] ∧ ((Lit.int .i64 a).wf = true ∧ (Lit.int .i64 b).wf = true ∧ (Lit.int .i64 c).wf = true ∧ (Lit.int .i64 d).wf = true ∧ (Lit.int .i64 e).wf = true ∧ (Lit.int .i64 f).wf = true) := by
  obtain ⟨xs, n, _, _, hl, hlen, hf⟩ := DataW.trod_struct Try.underlying25 h
  rw [cells25] at hl
  match cs, hl with
  | [c0, c1, c2, c3, c4, c5], _ =>
    match xs, hlen with
    | [y0, y1, y2, y3, y4], _ =>
      have h0 := hf 0 _ rfl
      have h1 := hf 1 _ rfl
      have h2 := hf 2 _ rfl
      have h3 := hf 3 _ rfl
      have h4 := hf 4 _ rfl
      obtain ⟨a, e0, _, w0⟩ := DataW.trod_int Try.underlying3 h0
      obtain ⟨b, e1, _, w1⟩ := DataW.trod_int Try.underlying3 h1
      obtain ⟨c, e2, _, w2⟩ := DataW.trod_int Try.underlying3 h2
      obtain ⟨d, e3, _, w3⟩ := DataW.trod_int Try.underlying3 h3
      obtain ⟨e, f, e4, w4, w5⟩ := val_cells h4
      simp [cells3, cells23] at e0 e1 e2 e3 e4
      exact ⟨a, b, c, d, e, f, by rw [e0, e1, e2, e3, e4.1, e4.2], w0, w1, w2, w3, w4, w5⟩
end
end Go.Proofs.Ytmklpbmlgjkbiaa.PS
end
section
namespace Go.Proofs.Ytmklpbmlgjkbiaa.PS
open Go.ChangeShapes Go.WideShapes Go.ChangeAt Go.RowKit Go.Joins Go.Deep
open Go.Proofs.YtmklpbmlgjkbiaaW.PrintWords Go.Proofs.YtmklpbmlgjkbiaaW.PrintLast
set_option linter.unusedVariables false
set_option maxRecDepth 100000
section
variable {H : Type} {enc : TypeId × Value → H} {w : World} {base : Nat} {spare : Nat → Bool} {held : Bool}
theorem ops_open {a : Option Addr} {len cap : Nat} {d : DataW H} {p : List MemPlace} (h : DataW.Trod enc Try.prog w base spare held 39 (.slice a len cap) d p) :
    ∃ l : List S25, l.length = len ∧ Kd.C k25 w a len l ∧ len ≤ cap ∧ len ≤ maxLen := by
  obtain ⟨fuel, hf⟩ := h
  rcases open_slice Try.underlying39 hf with ⟨hcs, _⟩ | ⟨x, len', cap', m, n, D, Pl, hcs, hb, hl, hm, hmm, _, hx⟩
  · simp [Value.cells] at hcs
    obtain ⟨rfl, rfl, rfl⟩ := hcs
    exact ⟨[], rfl, ⟨rfl, by omega, fun h => absurd h (by omega)⟩, by omega, by omega⟩
  · simp [Value.cells] at hcs
    obtain ⟨rfl, rfl, rfl⟩ := hcs
    have hlm : len ≤ m := by rw [hmm]; split <;> omega
    have each : ∀ i, i < len → ∃ y : S25, ∀ j u, [Value.int .i64 y.f0, .int .i64 y.f1, .int .i64 y.f2, .int .i64 y.f3, .int .i64 y.f4.f0, .int .i64 y.f4.f1][j]? = some u → w.cell? (x.add (i * 6 + j)) = some u := by
      intro i hi
      obtain ⟨cs', h1, h2⟩ := hx i (by omega)
      rw [cells25] at h1
      obtain ⟨_, hlen, hcell⟩ := World.cells?_some h1
      obtain ⟨y0, y1, y2, y3, y4, y5, e, _⟩ := op_cells h2
      subst e
      refine ⟨⟨y0, y1, y2, y3, ⟨y4, y5⟩⟩, fun j u hj => ?_⟩
      have hj6 : j < 6 := by
        have := (List.getElem?_eq_some_iff.1 hj).1
        simpa using this
      have := hcell j hj6
      rw [Go.Deep.add_add] at this
      rw [this]; exact hj
    have : Inhabited S25 := ⟨z25⟩
    obtain ⟨f, hf⟩ := choose_lt each
    refine ⟨(List.range len).map f, by simp, ⟨by simp, by unfold maxLen at hm; omega, fun _ => ⟨x, rfl, fun j y hy => ?_⟩⟩, hl, by omega⟩
    rw [List.getElem?_map] at hy
    have hj : j < len := by
      rcases Nat.lt_or_ge j len with h | h
      · exact h
      · rw [List.getElem?_eq_none (by simpa using h)] at hy; cases hy
    rw [List.getElem?_eq_getElem (by simpa using hj)] at hy
    simp at hy
    subst hy
    exact ⟨_, rfl, k25_mk w _, fun i u hi => hf j hj i u hi⟩
end
end Go.Proofs.Ytmklpbmlgjkbiaa.PS
end
section
namespace Go.Proofs.Ytmklpbmlgjkbiaa.Facts
set_option linter.unusedVariables false
set_option maxRecDepth 1000000
theorem headIs {ws : List (List Char)} {c : List Char} (h : (behindMainWord ws).head? = some c) : ∃ rest, behindMainWord ws = c :: rest := by
  cases hb : behindMainWord ws with
  | nil => rw [hb] at h; cases h
  | cons a r => rw [hb] at h; cases h; exact ⟨r, rfl⟩
theorem signs {s : String} {l : List Char} {c : List Char} (h : s = String.ofList l) (k : (behindMainWord (wordsSigns l)).head? = some c) : ∃ rest, behindMainWord (wordsSigns s.toList) = c :: rest := by
  subst h; rw [String.toList_ofList]; exact headIs k
theorem cutHead : ∃ rest, behindMainWord (wordsSigns Try.prog.initOrder.toList) = "cut".toList :: rest := by
  show ∃ rest, behindMainWord (wordsSigns Try.progTables.initOrder.toList) = "cut".toList :: rest
  unfold Try.progTables
  exact signs rfl (by kernel_rfl)
theorem noLifts (rest : List (List Char)) : stripLifts liftWords ("cut".toList :: rest) = ([], "cut".toList :: rest) := by kernel_rfl
theorem made_of {P : Program} {rest : List (List Char)} (h : behindMainWord (wordsSigns P.initOrder.toList) = "cut".toList :: rest) : P.make = some .cut := by
  unfold Program.make
  rw [h]
  kernel_rfl
theorem may_of {P : Program} {rest : List (List Char)} (h : behindMainWord (wordsSigns P.initOrder.toList) = "cut".toList :: rest)
    (h1 : P.laysLater = false) (h2 : P.bearsReflect = false) (h3 : P.doorFits [] = true) : P.mayEnter = true := by
  unfold Program.mayEnter
  rw [h]
  simp only [noLifts, h1, h2, h3]
  kernel_rfl
theorem lifts_of {P : Program} {rest : List (List Char)} (h : behindMainWord (wordsSigns P.initOrder.toList) = "cut".toList :: rest) : P.liftsFinal = false := by
  unfold Program.liftsFinal Program.headLifts
  rw [h]
  kernel_rfl
theorem may : Try.prog.mayEnter = true := by
  obtain ⟨rest, h⟩ := cutHead
  exact may_of h (by kernel_rfl) (by kernel_rfl) (by kernel_rfl)
theorem lifts : Try.prog.liftsFinal = false := by
  obtain ⟨rest, h⟩ := cutHead
  exact lifts_of h
theorem made : Try.prog.make = some Make.cut := by
  obtain ⟨rest, h⟩ := cutHead
  exact made_of h
theorem band {a b : Bool} (ha : a = true) (hb : b = true) : (a && b) = true := by rw [ha, hb]; rfl
theorem flifts {b : Bool} (h : (b == false) = true) : (b == Try.prog.liftsFinal) = true := by rw [lifts]; exact h
theorem fmade {m : Make} (h : (some Make.cut == some m) = true) : (Try.prog.make == some m) = true := by rw [made]; exact h
end Go.Proofs.Ytmklpbmlgjkbiaa.Facts
end
