/- What the row of CR rests on, part 3. -/
import Derived.Test.YtmklpbmlgjkbiaaProg
import Derived.Below
import Derived.Deep.Draws
import Derived.Deep.AppendLies
import Derived.Maps.AppendAt
import Derived.OwnWalk
import Derived.Laws.BytesArg
import Derived.Laws.MakeOwn
import Derived.Laws.OwnMore
import Derived.Deep.OwnRows
import Derived.Tactics
import Derived.Lib.ConvBytes
import Derived.Laws.Slices
import Derived.WalkKit
import Derived.KernelRfl
import Derived.RowKit3
import Derived.Deep.LoopGhost
import Derived.Deep.QuietTactic
import Derived.BigQuiet
import Derived.WideLaws
import Derived.Deep.DeepCutAuto
import Derived.Deep.CutBlock
import Derived.Deep.RegionHeld3
import Derived.Laws.Rows
import Derived.Lib.AppendStr
import Derived.ArgAppend
import Derived.Laws.IdiomCopy
import Derived.OrdersHeld
import Derived.Laws.BitsLemmas
import Derived.RowKit
import Derived.Laws.StructEq
import Derived.Deep.RegionWith
import Derived.Lib.Bytealg
import Derived.Shelf.Strings.Search3
import Derived.WalkSpells
import Derived.Lib.OthersKept
import Derived.Lib.Hide
import Derived.WalkSmall
import Derived.Laws.EntriesVeiled
import Derived.Test.YtmklpbmlgjkbiaaQCR1
section
namespace Go.Proofs.Ytmklpbmlgjkbiaa.PS
open Go.RowKit Go.Proofs.YtmklpbmlgjkbiaaW.PrintWords Go.Proofs.YtmklpbmlgjkbiaaW.PrintLast Go.Proofs.YtmklpbmlgjkbiaaW.PrintMore
attribute [local go_sem] max2_int min2_int max_two min_two max_three min_three max_four min_four   -- for this text's walks alone
set_option linter.unusedVariables false
set_option linter.unusedSimpArgs false
def laws_eqOp.f (a0_0 : Int) (a0_1 : Int) (a0_2 : Int) (a0_3 : Int) (a0_4 : Int) (a0_5 : Int) (a1_0 : Int) (a1_1 : Int) (a1_2 : Int) (a1_3 : Int) (a1_4 : Int) (a1_5 : Int) : Option (Bool) := if a0_0 = a1_0 then (if a0_1 = a1_1 then (if a0_2 = a1_2 then (if a0_3 = a1_3 then ((laws_eqVal.f a0_4 a0_5 a1_4 a1_5).bind fun t280 => (if t280 = true then (some true) else (some false))) else (some false)) else (some false)) else (some false)) else (some false)
set_option maxHeartbeats 8000000 in
set_option maxRecDepth 100000 in
theorem laws_eqOp.calls (a0_0 : Int) (a0_1 : Int) (a0_2 : Int) (a0_3 : Int) (a0_4 : Int) (a0_5 : Int) (a1_0 : Int) (a1_1 : Int) (a1_2 : Int) (a1_3 : Int) (a1_4 : Int) (a1_5 : Int) (r : Bool) (w : World) (h : laws_eqOp.f a0_0 a0_1 a0_2 a0_3 a0_4 a0_5 a1_0 a1_1 a1_2 a1_3 a1_4 a1_5 = some r) :
    Calls Try.prog 75 #[.agg #[.int .i64 a0_0, .int .i64 a0_1, .int .i64 a0_2, .int .i64 a0_3, .int .i64 a0_4, .int .i64 a0_5], .agg #[.int .i64 a1_0, .int .i64 a1_1, .int .i64 a1_2, .int .i64 a1_3, .int .i64 a1_4, .int .i64 a1_5]] w fun e w' => e = .returned (.bool r) ∧ Below w.heap.size w w' := by
  have hu29 := Try.underlying29
  have hu27 := Try.underlying27
  have HB := Aside0.mk (Below.refl w.heap.size w)
  have H : (if a0_0 = a1_0 then (if a0_1 = a1_1 then (if a0_2 = a1_2 then (if a0_3 = a1_3 then ((laws_eqVal.f a0_4 a0_5 a1_4 a1_5).bind fun t280 => (if t280 = true then (some true) else (some false))) else (some false)) else (some false)) else (some false)) else (some false)) = some r := h
  clear h
  by_cases c3 : a0_0 = a1_0
  · rw [if_pos c3] at H
    have c3b0 : (a0_0 == a1_0) = true := beq_iff_eq.mpr c3
    have c3b1 : (a0_0 != a1_0) = false := bne_eq_false_iff_eq.mpr c3
    clear c3
    by_cases c4 : a0_1 = a1_1
    · rw [if_pos c4] at H
      have c4b0 : (a0_1 == a1_1) = true := beq_iff_eq.mpr c4
      have c4b1 : (a0_1 != a1_1) = false := bne_eq_false_iff_eq.mpr c4
      clear c4
      by_cases c5 : a0_2 = a1_2
      · rw [if_pos c5] at H
        have c5b0 : (a0_2 == a1_2) = true := beq_iff_eq.mpr c5
        have c5b1 : (a0_2 != a1_2) = false := bne_eq_false_iff_eq.mpr c5
        clear c5
        by_cases c6 : a0_3 = a1_3
        · rw [if_pos c6] at H
          have c6b0 : (a0_3 == a1_3) = true := beq_iff_eq.mpr c6
          have c6b1 : (a0_3 != a1_3) = false := bne_eq_false_iff_eq.mpr c6
          clear c6
          replace H := Option.bind_eq_some_iff.mp H
          obtain ⟨t280, A70, H⟩ := H
          replace H : (if t280 = true then (some true) else (some false)) = some r := H
          have A7 := Aside0.mk A70
          clear A70
          by_cases c8 : t280 = true
          · subst c8
            have H1 : (some true) = some r := by rw [if_pos rfl] at H; exact H
            clear H
            have H := H1
            clear H1
            obtain rfl := Option.some.inj H
            go_enter Try.func75, Try.ntmps75
            go_wp2_with (first | ((with_reducible refine gate_dst (N := 2) rfl ?_); refine box_event ?hg (N := 2) ?hd (cs := #[.int .i64 a0_0, .int .i64 a0_1, .int .i64 a0_2, .int .i64 a0_3, .int .i64 a0_4, .int .i64 a0_5]) (t := 29) ?hr ?_; (case hd => rfl); (case hg => rfl); (case hr => first | (go_simp; done) | (go_simp; rfl)); intro gb278 hg w9 hbox hb; have n0_ := Aside0.mk (below_step (by repeat (first | (with_reducible first | exact HB.out | apply below_alloc | apply pw_below_drewN | apply below_drew1) | exact HB.out)) hb); have n1_ := Aside0.mk (hbox); have n2_ := Aside0.mk ((by rw [hg]; exact (below_size (by repeat (first | (with_reducible first | exact HB.out | apply below_alloc | apply pw_below_drewN | apply below_drew1) | exact HB.out))) : w.heap.size ≤ gb278)); have n3_ := Aside0.mk ((by rw [hg]; exact (below_size (by repeat (first | (with_reducible first | exact HB.out | apply below_alloc | apply pw_below_drewN | apply below_drew1) | exact HB.out))) : w.heap.size ≤ gb278)); clear HB; have HB := n0_; have BK278 := n1_; have GW278 := n2_; have GE278 := n3_; clear n0_ n1_ n2_ n3_; clear hb hbox hg) | ((with_reducible refine gate_dst (N := 3) rfl ?_); refine box_event ?hg (N := 3) ?hd (cs := #[.int .i64 a1_0, .int .i64 a1_1, .int .i64 a1_2, .int .i64 a1_3, .int .i64 a1_4, .int .i64 a1_5]) (t := 29) ?hr ?_; (case hd => rfl); (case hg => rfl); (case hr => first | (go_simp; done) | (go_simp; rfl)); intro gb279 hg w10 hbox hb; have n0_ := Aside0.mk (blk_below (g := gb278) (o := .cells #[.int .i64 a0_0, .int .i64 a0_1, .int .i64 a0_2, .int .i64 a0_3, .int .i64 a0_4, .int .i64 a0_5] 29 (0, 0)) (by (with_reducible repeat (first | refine blk_drewN ?_ _ | refine blk_drew ?_ | refine blk_alloc ?_ _)); exact BK278.out) hb); have n1_ := Aside0.mk (below_step (by repeat (first | (with_reducible first | exact HB.out | apply below_alloc | apply pw_below_drewN | apply below_drew1 | refine below_set ?_ GE278.out) | exact HB.out)) hb); have n2_ := Aside0.mk (hbox); have n3_ := Aside0.mk ((by rw [hg]; exact (below_size (by repeat (first | (with_reducible first | exact HB.out | apply below_alloc | apply pw_below_drewN | apply below_drew1 | refine below_set ?_ GE278.out) | exact HB.out))) : w.heap.size ≤ gb279)); have n4_ := Aside0.mk ((by rw [hg]; exact (below_size (by repeat (first | (with_reducible first | exact HB.out | apply below_alloc | apply pw_below_drewN | apply below_drew1 | refine below_set ?_ GE278.out) | exact HB.out))) : w.heap.size ≤ gb279)); have n5_ := Aside0.mk ((by rw [hg]; exact Nat.ne_of_lt (blk_lt (g := gb278) (o := .cells #[.int .i64 a0_0, .int .i64 a0_1, .int .i64 a0_2, .int .i64 a0_3, .int .i64 a0_4, .int .i64 a0_5] 29 (0, 0)) (by (with_reducible repeat (first | refine blk_drewN ?_ _ | refine blk_drew ?_ | refine blk_alloc ?_ _)); exact BK278.out)) : gb278 ≠ gb279)); have n6_ := Aside0.mk ((by rw [hg]; exact Nat.ne_of_gt (blk_lt (g := gb278) (o := .cells #[.int .i64 a0_0, .int .i64 a0_1, .int .i64 a0_2, .int .i64 a0_3, .int .i64 a0_4, .int .i64 a0_5] 29 (0, 0)) (by (with_reducible repeat (first | refine blk_drewN ?_ _ | refine blk_drew ?_ | refine blk_alloc ?_ _)); exact BK278.out)) : gb279 ≠ gb278)); clear BK278; clear HB; have BK278 := n0_; have HB := n1_; have BK279 := n2_; have GW279 := n3_; have GE279 := n4_; have NB278_279 := n5_; have NB279_278 := n6_; clear n0_ n1_ n2_ n3_ n4_ n5_ n6_; clear hb hbox hg; have hnb11 := NB278_279.out; have hnc11 := NB279_278.out; have hcz12_0 : w10.cell? ⟨gb278, 0, none⟩ = some (.int .i64 a0_0) := (blk_cell BK278.out 0).trans rfl; have hcz12_1 : w10.cell? ⟨gb278, 1, none⟩ = some (.int .i64 a0_1) := (blk_cell BK278.out 1).trans rfl; have hcz12_2 : w10.cell? ⟨gb278, 2, none⟩ = some (.int .i64 a0_2) := (blk_cell BK278.out 2).trans rfl; have hcz12_3 : w10.cell? ⟨gb278, 3, none⟩ = some (.int .i64 a0_3) := (blk_cell BK278.out 3).trans rfl; have hcz12_4 : w10.cell? ⟨gb278, 4, none⟩ = some (.int .i64 a0_4) := (blk_cell BK278.out 4).trans rfl; have hcz12_5 : w10.cell? ⟨gb278, 5, none⟩ = some (.int .i64 a0_5) := (blk_cell BK278.out 5).trans rfl; have hfz12_0 := blk_frozen BK278.out 0; have hfz12_1 := blk_frozen BK278.out 1; have hfz12_2 := blk_frozen BK278.out 2; have hfz12_3 := blk_frozen BK278.out 3; have hfz12_4 := blk_frozen BK278.out 4; have hfz12_5 := blk_frozen BK278.out 5; have hcz13_0 : w10.cell? ⟨gb279, 0, none⟩ = some (.int .i64 a1_0) := (blk_cell BK279.out 0).trans rfl; have hcz13_1 : w10.cell? ⟨gb279, 1, none⟩ = some (.int .i64 a1_1) := (blk_cell BK279.out 1).trans rfl; have hcz13_2 : w10.cell? ⟨gb279, 2, none⟩ = some (.int .i64 a1_2) := (blk_cell BK279.out 2).trans rfl; have hcz13_3 : w10.cell? ⟨gb279, 3, none⟩ = some (.int .i64 a1_3) := (blk_cell BK279.out 3).trans rfl; have hcz13_4 : w10.cell? ⟨gb279, 4, none⟩ = some (.int .i64 a1_4) := (blk_cell BK279.out 4).trans rfl; have hcz13_5 : w10.cell? ⟨gb279, 5, none⟩ = some (.int .i64 a1_5) := (blk_cell BK279.out 5).trans rfl; have hfz13_0 := blk_frozen BK279.out 0; have hfz13_1 := blk_frozen BK279.out 1; have hfz13_2 := blk_frozen BK279.out 2; have hfz13_3 := blk_frozen BK279.out 3; have hfz13_4 := blk_frozen BK279.out 4; have hfz13_5 := blk_frozen BK279.out 5) | ((with_reducible refine gate_callee (f := 93) rfl ?_); refine goesL_ (some 29) rfl rfl Try.func93 (by kernel_rfl) rfl #[.agg #[.int .i64 a0_4, .int .i64 a0_5], .agg #[.int .i64 a1_4, .int .i64 a1_5]] rfl (by (try simp only [List.map_toArray, List.map_cons, List.map_nil]); first | done | rfl | (simp only [List.length_drop, List.length_take]; rfl)) ?_; (with_reducible refine (laws_eqVal.calls a0_4 a0_5 a1_4 a1_5 true _ A7.out).mono ?_); rintro e w14 ⟨rfl, hb⟩; refine ⟨_, rfl, ?_⟩; have n0_ := Aside0.mk (blk_below (g := gb278) (o := .cells #[.int .i64 a0_0, .int .i64 a0_1, .int .i64 a0_2, .int .i64 a0_3, .int .i64 a0_4, .int .i64 a0_5] 29 (0, 0)) (by (with_reducible repeat (first | refine blk_drewN ?_ _ | refine blk_drew ?_ | refine blk_alloc ?_ _)); exact BK278.out) hb); have n1_ := Aside0.mk (blk_below (g := gb279) (o := .cells #[.int .i64 a1_0, .int .i64 a1_1, .int .i64 a1_2, .int .i64 a1_3, .int .i64 a1_4, .int .i64 a1_5] 29 (0, 0)) (by (with_reducible repeat (first | refine blk_drewN ?_ _ | refine blk_drew ?_ | refine blk_alloc ?_ _)); exact BK279.out) hb); have n2_ := Aside0.mk (below_step (by repeat (first | (with_reducible first | exact HB.out | apply below_alloc | apply pw_below_drewN | apply below_drew1 | refine below_set ?_ GE278.out | refine below_set ?_ GE279.out) | exact HB.out)) hb); clear BK278; clear BK279; clear HB; have BK278 := n0_; have BK279 := n1_; have HB := n2_; clear n0_ n1_ n2_; (try clear hb); (try clear hb2); (try clear hk); (try clear hi)))
            go_ret
            exact ⟨by first | rfl | (simp [errW_none, errW_some] <;> rfl) | (simp [*, errW_none, errW_some] <;> rfl), by repeat (first | (with_reducible first | exact HB.out | apply below_alloc | apply pw_below_drewN | apply below_drew1 | refine below_set ?_ GE278.out | refine below_set ?_ GE279.out) | exact HB.out)⟩
          · replace c8 := Bool.eq_false_iff.mpr c8
            subst c8
            have H1 : (some false) = some r := by rw [if_neg (show ¬ (false = true) by decide)] at H; exact H
            clear H
            have H := H1
            clear H1
            obtain rfl := Option.some.inj H
            go_enter Try.func75, Try.ntmps75
            go_wp2_with (first | ((with_reducible refine gate_dst (N := 2) rfl ?_); refine box_event ?hg (N := 2) ?hd (cs := #[.int .i64 a0_0, .int .i64 a0_1, .int .i64 a0_2, .int .i64 a0_3, .int .i64 a0_4, .int .i64 a0_5]) (t := 29) ?hr ?_; (case hd => rfl); (case hg => rfl); (case hr => first | (go_simp; done) | (go_simp; rfl)); intro gb278 hg w15 hbox hb; have n0_ := Aside0.mk (below_step (by repeat (first | (with_reducible first | exact HB.out | apply below_alloc | apply pw_below_drewN | apply below_drew1) | exact HB.out)) hb); have n1_ := Aside0.mk (hbox); have n2_ := Aside0.mk ((by rw [hg]; exact (below_size (by repeat (first | (with_reducible first | exact HB.out | apply below_alloc | apply pw_below_drewN | apply below_drew1) | exact HB.out))) : w.heap.size ≤ gb278)); have n3_ := Aside0.mk ((by rw [hg]; exact (below_size (by repeat (first | (with_reducible first | exact HB.out | apply below_alloc | apply pw_below_drewN | apply below_drew1) | exact HB.out))) : w.heap.size ≤ gb278)); clear HB; have HB := n0_; have BK278 := n1_; have GW278 := n2_; have GE278 := n3_; clear n0_ n1_ n2_ n3_; clear hb hbox hg) | ((with_reducible refine gate_dst (N := 3) rfl ?_); refine box_event ?hg (N := 3) ?hd (cs := #[.int .i64 a1_0, .int .i64 a1_1, .int .i64 a1_2, .int .i64 a1_3, .int .i64 a1_4, .int .i64 a1_5]) (t := 29) ?hr ?_; (case hd => rfl); (case hg => rfl); (case hr => first | (go_simp; done) | (go_simp; rfl)); intro gb279 hg w16 hbox hb; have n0_ := Aside0.mk (blk_below (g := gb278) (o := .cells #[.int .i64 a0_0, .int .i64 a0_1, .int .i64 a0_2, .int .i64 a0_3, .int .i64 a0_4, .int .i64 a0_5] 29 (0, 0)) (by (with_reducible repeat (first | refine blk_drewN ?_ _ | refine blk_drew ?_ | refine blk_alloc ?_ _)); exact BK278.out) hb); have n1_ := Aside0.mk (below_step (by repeat (first | (with_reducible first | exact HB.out | apply below_alloc | apply pw_below_drewN | apply below_drew1 | refine below_set ?_ GE278.out) | exact HB.out)) hb); have n2_ := Aside0.mk (hbox); have n3_ := Aside0.mk ((by rw [hg]; exact (below_size (by repeat (first | (with_reducible first | exact HB.out | apply below_alloc | apply pw_below_drewN | apply below_drew1 | refine below_set ?_ GE278.out) | exact HB.out))) : w.heap.size ≤ gb279)); have n4_ := Aside0.mk ((by rw [hg]; exact (below_size (by repeat (first | (with_reducible first | exact HB.out | apply below_alloc | apply pw_below_drewN | apply below_drew1 | refine below_set ?_ GE278.out) | exact HB.out))) : w.heap.size ≤ gb279)); have n5_ := Aside0.mk ((by rw [hg]; exact Nat.ne_of_lt (blk_lt (g := gb278) (o := .cells #[.int .i64 a0_0, .int .i64 a0_1, .int .i64 a0_2, .int .i64 a0_3, .int .i64 a0_4, .int .i64 a0_5] 29 (0, 0)) (by (with_reducible repeat (first | refine blk_drewN ?_ _ | refine blk_drew ?_ | refine blk_alloc ?_ _)); exact BK278.out)) : gb278 ≠ gb279)); have n6_ := Aside0.mk ((by rw [hg]; exact Nat.ne_of_gt (blk_lt (g := gb278) (o := .cells #[.int .i64 a0_0, .int .i64 a0_1, .int .i64 a0_2, .int .i64 a0_3, .int .i64 a0_4, .int .i64 a0_5] 29 (0, 0)) (by (with_reducible repeat (first | refine blk_drewN ?_ _ | refine blk_drew ?_ | refine blk_alloc ?_ _)); exact BK278.out)) : gb279 ≠ gb278)); clear BK278; clear HB; have BK278 := n0_; have HB := n1_; have BK279 := n2_; have GW279 := n3_; have GE279 := n4_; have NB278_279 := n5_; have NB279_278 := n6_; clear n0_ n1_ n2_ n3_ n4_ n5_ n6_; clear hb hbox hg; have hnb17 := NB278_279.out; have hnc17 := NB279_278.out; have hcz18_0 : w16.cell? ⟨gb278, 0, none⟩ = some (.int .i64 a0_0) := (blk_cell BK278.out 0).trans rfl; have hcz18_1 : w16.cell? ⟨gb278, 1, none⟩ = some (.int .i64 a0_1) := (blk_cell BK278.out 1).trans rfl; have hcz18_2 : w16.cell? ⟨gb278, 2, none⟩ = some (.int .i64 a0_2) := (blk_cell BK278.out 2).trans rfl; have hcz18_3 : w16.cell? ⟨gb278, 3, none⟩ = some (.int .i64 a0_3) := (blk_cell BK278.out 3).trans rfl; have hcz18_4 : w16.cell? ⟨gb278, 4, none⟩ = some (.int .i64 a0_4) := (blk_cell BK278.out 4).trans rfl; have hcz18_5 : w16.cell? ⟨gb278, 5, none⟩ = some (.int .i64 a0_5) := (blk_cell BK278.out 5).trans rfl; have hfz18_0 := blk_frozen BK278.out 0; have hfz18_1 := blk_frozen BK278.out 1; have hfz18_2 := blk_frozen BK278.out 2; have hfz18_3 := blk_frozen BK278.out 3; have hfz18_4 := blk_frozen BK278.out 4; have hfz18_5 := blk_frozen BK278.out 5; have hcz19_0 : w16.cell? ⟨gb279, 0, none⟩ = some (.int .i64 a1_0) := (blk_cell BK279.out 0).trans rfl; have hcz19_1 : w16.cell? ⟨gb279, 1, none⟩ = some (.int .i64 a1_1) := (blk_cell BK279.out 1).trans rfl; have hcz19_2 : w16.cell? ⟨gb279, 2, none⟩ = some (.int .i64 a1_2) := (blk_cell BK279.out 2).trans rfl; have hcz19_3 : w16.cell? ⟨gb279, 3, none⟩ = some (.int .i64 a1_3) := (blk_cell BK279.out 3).trans rfl; have hcz19_4 : w16.cell? ⟨gb279, 4, none⟩ = some (.int .i64 a1_4) := (blk_cell BK279.out 4).trans rfl; have hcz19_5 : w16.cell? ⟨gb279, 5, none⟩ = some (.int .i64 a1_5) := (blk_cell BK279.out 5).trans rfl; have hfz19_0 := blk_frozen BK279.out 0; have hfz19_1 := blk_frozen BK279.out 1; have hfz19_2 := blk_frozen BK279.out 2; have hfz19_3 := blk_frozen BK279.out 3; have hfz19_4 := blk_frozen BK279.out 4; have hfz19_5 := blk_frozen BK279.out 5) | ((with_reducible refine gate_callee (f := 93) rfl ?_); refine goesL_ (some 29) rfl rfl Try.func93 (by kernel_rfl) rfl #[.agg #[.int .i64 a0_4, .int .i64 a0_5], .agg #[.int .i64 a1_4, .int .i64 a1_5]] rfl (by (try simp only [List.map_toArray, List.map_cons, List.map_nil]); first | done | rfl | (simp only [List.length_drop, List.length_take]; rfl)) ?_; (with_reducible refine (laws_eqVal.calls a0_4 a0_5 a1_4 a1_5 false _ A7.out).mono ?_); rintro e w20 ⟨rfl, hb⟩; refine ⟨_, rfl, ?_⟩; have n0_ := Aside0.mk (blk_below (g := gb278) (o := .cells #[.int .i64 a0_0, .int .i64 a0_1, .int .i64 a0_2, .int .i64 a0_3, .int .i64 a0_4, .int .i64 a0_5] 29 (0, 0)) (by (with_reducible repeat (first | refine blk_drewN ?_ _ | refine blk_drew ?_ | refine blk_alloc ?_ _)); exact BK278.out) hb); have n1_ := Aside0.mk (blk_below (g := gb279) (o := .cells #[.int .i64 a1_0, .int .i64 a1_1, .int .i64 a1_2, .int .i64 a1_3, .int .i64 a1_4, .int .i64 a1_5] 29 (0, 0)) (by (with_reducible repeat (first | refine blk_drewN ?_ _ | refine blk_drew ?_ | refine blk_alloc ?_ _)); exact BK279.out) hb); have n2_ := Aside0.mk (below_step (by repeat (first | (with_reducible first | exact HB.out | apply below_alloc | apply pw_below_drewN | apply below_drew1 | refine below_set ?_ GE278.out | refine below_set ?_ GE279.out) | exact HB.out)) hb); clear BK278; clear BK279; clear HB; have BK278 := n0_; have BK279 := n1_; have HB := n2_; clear n0_ n1_ n2_; (try clear hb); (try clear hb2); (try clear hk); (try clear hi)))
            go_ret
            exact ⟨by first | rfl | (simp [errW_none, errW_some] <;> rfl) | (simp [*, errW_none, errW_some] <;> rfl), by repeat (first | (with_reducible first | exact HB.out | apply below_alloc | apply pw_below_drewN | apply below_drew1 | refine below_set ?_ GE278.out | refine below_set ?_ GE279.out) | exact HB.out)⟩
        · rw [if_neg c6] at H
          have c6b0 : (a0_3 == a1_3) = false := beq_eq_false_iff_ne.mpr c6
          have c6b1 : (a0_3 != a1_3) = true := bne_iff_ne.mpr c6
          obtain rfl := Option.some.inj H
          go_enter Try.func75, Try.ntmps75
          go_wp2_with (first | ((with_reducible refine gate_dst (N := 2) rfl ?_); refine box_event ?hg (N := 2) ?hd (cs := #[.int .i64 a0_0, .int .i64 a0_1, .int .i64 a0_2, .int .i64 a0_3, .int .i64 a0_4, .int .i64 a0_5]) (t := 29) ?hr ?_; (case hd => rfl); (case hg => rfl); (case hr => first | (go_simp; done) | (go_simp; rfl)); intro gb278 hg w21 hbox hb; have n0_ := Aside0.mk (below_step (by repeat (first | (with_reducible first | exact HB.out | apply below_alloc | apply pw_below_drewN | apply below_drew1) | exact HB.out)) hb); have n1_ := Aside0.mk (hbox); have n2_ := Aside0.mk ((by rw [hg]; exact (below_size (by repeat (first | (with_reducible first | exact HB.out | apply below_alloc | apply pw_below_drewN | apply below_drew1) | exact HB.out))) : w.heap.size ≤ gb278)); have n3_ := Aside0.mk ((by rw [hg]; exact (below_size (by repeat (first | (with_reducible first | exact HB.out | apply below_alloc | apply pw_below_drewN | apply below_drew1) | exact HB.out))) : w.heap.size ≤ gb278)); clear HB; have HB := n0_; have BK278 := n1_; have GW278 := n2_; have GE278 := n3_; clear n0_ n1_ n2_ n3_; clear hb hbox hg) | ((with_reducible refine gate_dst (N := 3) rfl ?_); refine box_event ?hg (N := 3) ?hd (cs := #[.int .i64 a1_0, .int .i64 a1_1, .int .i64 a1_2, .int .i64 a1_3, .int .i64 a1_4, .int .i64 a1_5]) (t := 29) ?hr ?_; (case hd => rfl); (case hg => rfl); (case hr => first | (go_simp; done) | (go_simp; rfl)); intro gb279 hg w22 hbox hb; have n0_ := Aside0.mk (blk_below (g := gb278) (o := .cells #[.int .i64 a0_0, .int .i64 a0_1, .int .i64 a0_2, .int .i64 a0_3, .int .i64 a0_4, .int .i64 a0_5] 29 (0, 0)) (by (with_reducible repeat (first | refine blk_drewN ?_ _ | refine blk_drew ?_ | refine blk_alloc ?_ _)); exact BK278.out) hb); have n1_ := Aside0.mk (below_step (by repeat (first | (with_reducible first | exact HB.out | apply below_alloc | apply pw_below_drewN | apply below_drew1 | refine below_set ?_ GE278.out) | exact HB.out)) hb); have n2_ := Aside0.mk (hbox); have n3_ := Aside0.mk ((by rw [hg]; exact (below_size (by repeat (first | (with_reducible first | exact HB.out | apply below_alloc | apply pw_below_drewN | apply below_drew1 | refine below_set ?_ GE278.out) | exact HB.out))) : w.heap.size ≤ gb279)); have n4_ := Aside0.mk ((by rw [hg]; exact (below_size (by repeat (first | (with_reducible first | exact HB.out | apply below_alloc | apply pw_below_drewN | apply below_drew1 | refine below_set ?_ GE278.out) | exact HB.out))) : w.heap.size ≤ gb279)); have n5_ := Aside0.mk ((by rw [hg]; exact Nat.ne_of_lt (blk_lt (g := gb278) (o := .cells #[.int .i64 a0_0, .int .i64 a0_1, .int .i64 a0_2, .int .i64 a0_3, .int .i64 a0_4, .int .i64 a0_5] 29 (0, 0)) (by (with_reducible repeat (first | refine blk_drewN ?_ _ | refine blk_drew ?_ | refine blk_alloc ?_ _)); exact BK278.out)) : gb278 ≠ gb279)); have n6_ := Aside0.mk ((by rw [hg]; exact Nat.ne_of_gt (blk_lt (g := gb278) (o := .cells #[.int .i64 a0_0, .int .i64 a0_1, .int .i64 a0_2, .int .i64 a0_3, .int .i64 a0_4, .int .i64 a0_5] 29 (0, 0)) (by (with_reducible repeat (first | refine blk_drewN ?_ _ | refine blk_drew ?_ | refine blk_alloc ?_ _)); exact BK278.out)) : gb279 ≠ gb278)); clear BK278; clear HB; have BK278 := n0_; have HB := n1_; have BK279 := n2_; have GW279 := n3_; have GE279 := n4_; have NB278_279 := n5_; have NB279_278 := n6_; clear n0_ n1_ n2_ n3_ n4_ n5_ n6_; clear hb hbox hg; have hnb23 := NB278_279.out; have hnc23 := NB279_278.out; have hcz24_0 : w22.cell? ⟨gb278, 0, none⟩ = some (.int .i64 a0_0) := (blk_cell BK278.out 0).trans rfl; have hcz24_1 : w22.cell? ⟨gb278, 1, none⟩ = some (.int .i64 a0_1) := (blk_cell BK278.out 1).trans rfl; have hcz24_2 : w22.cell? ⟨gb278, 2, none⟩ = some (.int .i64 a0_2) := (blk_cell BK278.out 2).trans rfl; have hcz24_3 : w22.cell? ⟨gb278, 3, none⟩ = some (.int .i64 a0_3) := (blk_cell BK278.out 3).trans rfl; have hcz24_4 : w22.cell? ⟨gb278, 4, none⟩ = some (.int .i64 a0_4) := (blk_cell BK278.out 4).trans rfl; have hcz24_5 : w22.cell? ⟨gb278, 5, none⟩ = some (.int .i64 a0_5) := (blk_cell BK278.out 5).trans rfl; have hfz24_0 := blk_frozen BK278.out 0; have hfz24_1 := blk_frozen BK278.out 1; have hfz24_2 := blk_frozen BK278.out 2; have hfz24_3 := blk_frozen BK278.out 3; have hfz24_4 := blk_frozen BK278.out 4; have hfz24_5 := blk_frozen BK278.out 5; have hcz25_0 : w22.cell? ⟨gb279, 0, none⟩ = some (.int .i64 a1_0) := (blk_cell BK279.out 0).trans rfl; have hcz25_1 : w22.cell? ⟨gb279, 1, none⟩ = some (.int .i64 a1_1) := (blk_cell BK279.out 1).trans rfl; have hcz25_2 : w22.cell? ⟨gb279, 2, none⟩ = some (.int .i64 a1_2) := (blk_cell BK279.out 2).trans rfl; have hcz25_3 : w22.cell? ⟨gb279, 3, none⟩ = some (.int .i64 a1_3) := (blk_cell BK279.out 3).trans rfl; have hcz25_4 : w22.cell? ⟨gb279, 4, none⟩ = some (.int .i64 a1_4) := (blk_cell BK279.out 4).trans rfl; have hcz25_5 : w22.cell? ⟨gb279, 5, none⟩ = some (.int .i64 a1_5) := (blk_cell BK279.out 5).trans rfl; have hfz25_0 := blk_frozen BK279.out 0; have hfz25_1 := blk_frozen BK279.out 1; have hfz25_2 := blk_frozen BK279.out 2; have hfz25_3 := blk_frozen BK279.out 3; have hfz25_4 := blk_frozen BK279.out 4; have hfz25_5 := blk_frozen BK279.out 5))
          go_ret
          exact ⟨by first | rfl | (simp [errW_none, errW_some] <;> rfl) | (simp [*, errW_none, errW_some] <;> rfl), by repeat (first | (with_reducible first | exact HB.out | apply below_alloc | apply pw_below_drewN | apply below_drew1 | refine below_set ?_ GE278.out | refine below_set ?_ GE279.out) | exact HB.out)⟩
      · rw [if_neg c5] at H
        have c5b0 : (a0_2 == a1_2) = false := beq_eq_false_iff_ne.mpr c5
        have c5b1 : (a0_2 != a1_2) = true := bne_iff_ne.mpr c5
        obtain rfl := Option.some.inj H
        go_enter Try.func75, Try.ntmps75
        go_wp2_with (first | ((with_reducible refine gate_dst (N := 2) rfl ?_); refine box_event ?hg (N := 2) ?hd (cs := #[.int .i64 a0_0, .int .i64 a0_1, .int .i64 a0_2, .int .i64 a0_3, .int .i64 a0_4, .int .i64 a0_5]) (t := 29) ?hr ?_; (case hd => rfl); (case hg => rfl); (case hr => first | (go_simp; done) | (go_simp; rfl)); intro gb278 hg w26 hbox hb; have n0_ := Aside0.mk (below_step (by repeat (first | (with_reducible first | exact HB.out | apply below_alloc | apply pw_below_drewN | apply below_drew1) | exact HB.out)) hb); have n1_ := Aside0.mk (hbox); have n2_ := Aside0.mk ((by rw [hg]; exact (below_size (by repeat (first | (with_reducible first | exact HB.out | apply below_alloc | apply pw_below_drewN | apply below_drew1) | exact HB.out))) : w.heap.size ≤ gb278)); have n3_ := Aside0.mk ((by rw [hg]; exact (below_size (by repeat (first | (with_reducible first | exact HB.out | apply below_alloc | apply pw_below_drewN | apply below_drew1) | exact HB.out))) : w.heap.size ≤ gb278)); clear HB; have HB := n0_; have BK278 := n1_; have GW278 := n2_; have GE278 := n3_; clear n0_ n1_ n2_ n3_; clear hb hbox hg) | ((with_reducible refine gate_dst (N := 3) rfl ?_); refine box_event ?hg (N := 3) ?hd (cs := #[.int .i64 a1_0, .int .i64 a1_1, .int .i64 a1_2, .int .i64 a1_3, .int .i64 a1_4, .int .i64 a1_5]) (t := 29) ?hr ?_; (case hd => rfl); (case hg => rfl); (case hr => first | (go_simp; done) | (go_simp; rfl)); intro gb279 hg w27 hbox hb; have n0_ := Aside0.mk (blk_below (g := gb278) (o := .cells #[.int .i64 a0_0, .int .i64 a0_1, .int .i64 a0_2, .int .i64 a0_3, .int .i64 a0_4, .int .i64 a0_5] 29 (0, 0)) (by (with_reducible repeat (first | refine blk_drewN ?_ _ | refine blk_drew ?_ | refine blk_alloc ?_ _)); exact BK278.out) hb); have n1_ := Aside0.mk (below_step (by repeat (first | (with_reducible first | exact HB.out | apply below_alloc | apply pw_below_drewN | apply below_drew1 | refine below_set ?_ GE278.out) | exact HB.out)) hb); have n2_ := Aside0.mk (hbox); have n3_ := Aside0.mk ((by rw [hg]; exact (below_size (by repeat (first | (with_reducible first | exact HB.out | apply below_alloc | apply pw_below_drewN | apply below_drew1 | refine below_set ?_ GE278.out) | exact HB.out))) : w.heap.size ≤ gb279)); have n4_ := Aside0.mk ((by rw [hg]; exact (below_size (by repeat (first | (with_reducible first | exact HB.out | apply below_alloc | apply pw_below_drewN | apply below_drew1 | refine below_set ?_ GE278.out) | exact HB.out))) : w.heap.size ≤ gb279)); have n5_ := Aside0.mk ((by rw [hg]; exact Nat.ne_of_lt (blk_lt (g := gb278) (o := .cells #[.int .i64 a0_0, .int .i64 a0_1, .int .i64 a0_2, .int .i64 a0_3, .int .i64 a0_4, .int .i64 a0_5] 29 (0, 0)) (by (with_reducible repeat (first | refine blk_drewN ?_ _ | refine blk_drew ?_ | refine blk_alloc ?_ _)); exact BK278.out)) : gb278 ≠ gb279)); have n6_ := Aside0.mk ((by rw [hg]; exact Nat.ne_of_gt (blk_lt (g := gb278) (o := .cells #[.int .i64 a0_0, .int .i64 a0_1, .int .i64 a0_2, .int .i64 a0_3, .int .i64 a0_4, .int .i64 a0_5] 29 (0, 0)) (by (with_reducible repeat (first | refine blk_drewN ?_ _ | refine blk_drew ?_ | refine blk_alloc ?_ _)); exact BK278.out)) : gb279 ≠ gb278)); clear BK278; clear HB; have BK278 := n0_; have HB := n1_; have BK279 := n2_; have GW279 := n3_; have GE279 := n4_; have NB278_279 := n5_; have NB279_278 := n6_; clear n0_ n1_ n2_ n3_ n4_ n5_ n6_; clear hb hbox hg; have hnb28 := NB278_279.out; have hnc28 := NB279_278.out; have hcz29_0 : w27.cell? ⟨gb278, 0, none⟩ = some (.int .i64 a0_0) := (blk_cell BK278.out 0).trans rfl; have hcz29_1 : w27.cell? ⟨gb278, 1, none⟩ = some (.int .i64 a0_1) := (blk_cell BK278.out 1).trans rfl; have hcz29_2 : w27.cell? ⟨gb278, 2, none⟩ = some (.int .i64 a0_2) := (blk_cell BK278.out 2).trans rfl; have hcz29_3 : w27.cell? ⟨gb278, 3, none⟩ = some (.int .i64 a0_3) := (blk_cell BK278.out 3).trans rfl; have hcz29_4 : w27.cell? ⟨gb278, 4, none⟩ = some (.int .i64 a0_4) := (blk_cell BK278.out 4).trans rfl; have hcz29_5 : w27.cell? ⟨gb278, 5, none⟩ = some (.int .i64 a0_5) := (blk_cell BK278.out 5).trans rfl; have hfz29_0 := blk_frozen BK278.out 0; have hfz29_1 := blk_frozen BK278.out 1; have hfz29_2 := blk_frozen BK278.out 2; have hfz29_3 := blk_frozen BK278.out 3; have hfz29_4 := blk_frozen BK278.out 4; have hfz29_5 := blk_frozen BK278.out 5; have hcz30_0 : w27.cell? ⟨gb279, 0, none⟩ = some (.int .i64 a1_0) := (blk_cell BK279.out 0).trans rfl; have hcz30_1 : w27.cell? ⟨gb279, 1, none⟩ = some (.int .i64 a1_1) := (blk_cell BK279.out 1).trans rfl; have hcz30_2 : w27.cell? ⟨gb279, 2, none⟩ = some (.int .i64 a1_2) := (blk_cell BK279.out 2).trans rfl; have hcz30_3 : w27.cell? ⟨gb279, 3, none⟩ = some (.int .i64 a1_3) := (blk_cell BK279.out 3).trans rfl; have hcz30_4 : w27.cell? ⟨gb279, 4, none⟩ = some (.int .i64 a1_4) := (blk_cell BK279.out 4).trans rfl; have hcz30_5 : w27.cell? ⟨gb279, 5, none⟩ = some (.int .i64 a1_5) := (blk_cell BK279.out 5).trans rfl; have hfz30_0 := blk_frozen BK279.out 0; have hfz30_1 := blk_frozen BK279.out 1; have hfz30_2 := blk_frozen BK279.out 2; have hfz30_3 := blk_frozen BK279.out 3; have hfz30_4 := blk_frozen BK279.out 4; have hfz30_5 := blk_frozen BK279.out 5))
        go_ret
        exact ⟨by first | rfl | (simp [errW_none, errW_some] <;> rfl) | (simp [*, errW_none, errW_some] <;> rfl), by repeat (first | (with_reducible first | exact HB.out | apply below_alloc | apply pw_below_drewN | apply below_drew1 | refine below_set ?_ GE278.out | refine below_set ?_ GE279.out) | exact HB.out)⟩
    · rw [if_neg c4] at H
      have c4b0 : (a0_1 == a1_1) = false := beq_eq_false_iff_ne.mpr c4
      have c4b1 : (a0_1 != a1_1) = true := bne_iff_ne.mpr c4
      obtain rfl := Option.some.inj H
      go_enter Try.func75, Try.ntmps75
      go_wp2_with (first | ((with_reducible refine gate_dst (N := 2) rfl ?_); refine box_event ?hg (N := 2) ?hd (cs := #[.int .i64 a0_0, .int .i64 a0_1, .int .i64 a0_2, .int .i64 a0_3, .int .i64 a0_4, .int .i64 a0_5]) (t := 29) ?hr ?_; (case hd => rfl); (case hg => rfl); (case hr => first | (go_simp; done) | (go_simp; rfl)); intro gb278 hg w31 hbox hb; have n0_ := Aside0.mk (below_step (by repeat (first | (with_reducible first | exact HB.out | apply below_alloc | apply pw_below_drewN | apply below_drew1) | exact HB.out)) hb); have n1_ := Aside0.mk (hbox); have n2_ := Aside0.mk ((by rw [hg]; exact (below_size (by repeat (first | (with_reducible first | exact HB.out | apply below_alloc | apply pw_below_drewN | apply below_drew1) | exact HB.out))) : w.heap.size ≤ gb278)); have n3_ := Aside0.mk ((by rw [hg]; exact (below_size (by repeat (first | (with_reducible first | exact HB.out | apply below_alloc | apply pw_below_drewN | apply below_drew1) | exact HB.out))) : w.heap.size ≤ gb278)); clear HB; have HB := n0_; have BK278 := n1_; have GW278 := n2_; have GE278 := n3_; clear n0_ n1_ n2_ n3_; clear hb hbox hg) | ((with_reducible refine gate_dst (N := 3) rfl ?_); refine box_event ?hg (N := 3) ?hd (cs := #[.int .i64 a1_0, .int .i64 a1_1, .int .i64 a1_2, .int .i64 a1_3, .int .i64 a1_4, .int .i64 a1_5]) (t := 29) ?hr ?_; (case hd => rfl); (case hg => rfl); (case hr => first | (go_simp; done) | (go_simp; rfl)); intro gb279 hg w32 hbox hb; have n0_ := Aside0.mk (blk_below (g := gb278) (o := .cells #[.int .i64 a0_0, .int .i64 a0_1, .int .i64 a0_2, .int .i64 a0_3, .int .i64 a0_4, .int .i64 a0_5] 29 (0, 0)) (by (with_reducible repeat (first | refine blk_drewN ?_ _ | refine blk_drew ?_ | refine blk_alloc ?_ _)); exact BK278.out) hb); have n1_ := Aside0.mk (below_step (by repeat (first | (with_reducible first | exact HB.out | apply below_alloc | apply pw_below_drewN | apply below_drew1 | refine below_set ?_ GE278.out) | exact HB.out)) hb); have n2_ := Aside0.mk (hbox); have n3_ := Aside0.mk ((by rw [hg]; exact (below_size (by repeat (first | (with_reducible first | exact HB.out | apply below_alloc | apply pw_below_drewN | apply below_drew1 | refine below_set ?_ GE278.out) | exact HB.out))) : w.heap.size ≤ gb279)); have n4_ := Aside0.mk ((by rw [hg]; exact (below_size (by repeat (first | (with_reducible first | exact HB.out | apply below_alloc | apply pw_below_drewN | apply below_drew1 | refine below_set ?_ GE278.out) | exact HB.out))) : w.heap.size ≤ gb279)); have n5_ := Aside0.mk ((by rw [hg]; exact Nat.ne_of_lt (blk_lt (g := gb278) (o := .cells #[.int .i64 a0_0, .int .i64 a0_1, .int .i64 a0_2, .int .i64 a0_3, .int .i64 a0_4, .int .i64 a0_5] 29 (0, 0)) (by (with_reducible repeat (first | refine blk_drewN ?_ _ | refine blk_drew ?_ | refine blk_alloc ?_ _)); exact BK278.out)) : gb278 ≠ gb279)); have n6_ := Aside0.mk ((by rw [hg]; exact Nat.ne_of_gt (blk_lt (g := gb278) (o := .cells #[.int .i64 a0_0, .int .i64 a0_1, .int .i64 a0_2, .int .i64 a0_3, .int .i64 a0_4, .int .i64 a0_5] 29 (0, 0)) (by (with_reducible repeat (first | refine blk_drewN ?_ _ | refine blk_drew ?_ | refine blk_alloc ?_ _)); exact BK278.out)) : gb279 ≠ gb278)); clear BK278; clear HB; have BK278 := n0_; have HB := n1_; have BK279 := n2_; have GW279 := n3_; have GE279 := n4_; have NB278_279 := n5_; have NB279_278 := n6_; clear n0_ n1_ n2_ n3_ n4_ n5_ n6_; clear hb hbox hg; have hnb33 := NB278_279.out; have hnc33 := NB279_278.out; have hcz34_0 : w32.cell? ⟨gb278, 0, none⟩ = some (.int .i64 a0_0) := (blk_cell BK278.out 0).trans rfl; have hcz34_1 : w32.cell? ⟨gb278, 1, none⟩ = some (.int .i64 a0_1) := (blk_cell BK278.out 1).trans rfl; have hcz34_2 : w32.cell? ⟨gb278, 2, none⟩ = some (.int .i64 a0_2) := (blk_cell BK278.out 2).trans rfl; have hcz34_3 : w32.cell? ⟨gb278, 3, none⟩ = some (.int .i64 a0_3) := (blk_cell BK278.out 3).trans rfl; have hcz34_4 : w32.cell? ⟨gb278, 4, none⟩ = some (.int .i64 a0_4) := (blk_cell BK278.out 4).trans rfl; have hcz34_5 : w32.cell? ⟨gb278, 5, none⟩ = some (.int .i64 a0_5) := (blk_cell BK278.out 5).trans rfl; have hfz34_0 := blk_frozen BK278.out 0; have hfz34_1 := blk_frozen BK278.out 1; have hfz34_2 := blk_frozen BK278.out 2; have hfz34_3 := blk_frozen BK278.out 3; have hfz34_4 := blk_frozen BK278.out 4; have hfz34_5 := blk_frozen BK278.out 5; have hcz35_0 : w32.cell? ⟨gb279, 0, none⟩ = some (.int .i64 a1_0) := (blk_cell BK279.out 0).trans rfl; have hcz35_1 : w32.cell? ⟨gb279, 1, none⟩ = some (.int .i64 a1_1) := (blk_cell BK279.out 1).trans rfl; have hcz35_2 : w32.cell? ⟨gb279, 2, none⟩ = some (.int .i64 a1_2) := (blk_cell BK279.out 2).trans rfl; have hcz35_3 : w32.cell? ⟨gb279, 3, none⟩ = some (.int .i64 a1_3) := (blk_cell BK279.out 3).trans rfl; have hcz35_4 : w32.cell? ⟨gb279, 4, none⟩ = some (.int .i64 a1_4) := (blk_cell BK279.out 4).trans rfl; have hcz35_5 : w32.cell? ⟨gb279, 5, none⟩ = some (.int .i64 a1_5) := (blk_cell BK279.out 5).trans rfl; have hfz35_0 := blk_frozen BK279.out 0; have hfz35_1 := blk_frozen BK279.out 1; have hfz35_2 := blk_frozen BK279.out 2; have hfz35_3 := blk_frozen BK279.out 3; have hfz35_4 := blk_frozen BK279.out 4; have hfz35_5 := blk_frozen BK279.out 5))
      go_ret
      exact ⟨by first | rfl | (simp [errW_none, errW_some] <;> rfl) | (simp [*, errW_none, errW_some] <;> rfl), by repeat (first | (with_reducible first | exact HB.out | apply below_alloc | apply pw_below_drewN | apply below_drew1 | refine below_set ?_ GE278.out | refine below_set ?_ GE279.out) | exact HB.out)⟩
  · rw [if_neg c3] at H
    have c3b0 : (a0_0 == a1_0) = false := beq_eq_false_iff_ne.mpr c3
    have c3b1 : (a0_0 != a1_0) = true := bne_iff_ne.mpr c3
    obtain rfl := Option.some.inj H
    go_enter Try.func75, Try.ntmps75
    go_wp2_with (first | ((with_reducible refine gate_dst (N := 2) rfl ?_); refine box_event ?hg (N := 2) ?hd (cs := #[.int .i64 a0_0, .int .i64 a0_1, .int .i64 a0_2, .int .i64 a0_3, .int .i64 a0_4, .int .i64 a0_5]) (t := 29) ?hr ?_; (case hd => rfl); (case hg => rfl); (case hr => first | (go_simp; done) | (go_simp; rfl)); intro gb278 hg w36 hbox hb; have n0_ := Aside0.mk (below_step (by repeat (first | (with_reducible first | exact HB.out | apply below_alloc | apply pw_below_drewN | apply below_drew1) | exact HB.out)) hb); have n1_ := Aside0.mk (hbox); have n2_ := Aside0.mk ((by rw [hg]; exact (below_size (by repeat (first | (with_reducible first | exact HB.out | apply below_alloc | apply pw_below_drewN | apply below_drew1) | exact HB.out))) : w.heap.size ≤ gb278)); have n3_ := Aside0.mk ((by rw [hg]; exact (below_size (by repeat (first | (with_reducible first | exact HB.out | apply below_alloc | apply pw_below_drewN | apply below_drew1) | exact HB.out))) : w.heap.size ≤ gb278)); clear HB; have HB := n0_; have BK278 := n1_; have GW278 := n2_; have GE278 := n3_; clear n0_ n1_ n2_ n3_; clear hb hbox hg) | ((with_reducible refine gate_dst (N := 3) rfl ?_); refine box_event ?hg (N := 3) ?hd (cs := #[.int .i64 a1_0, .int .i64 a1_1, .int .i64 a1_2, .int .i64 a1_3, .int .i64 a1_4, .int .i64 a1_5]) (t := 29) ?hr ?_; (case hd => rfl); (case hg => rfl); (case hr => first | (go_simp; done) | (go_simp; rfl)); intro gb279 hg w37 hbox hb; have n0_ := Aside0.mk (blk_below (g := gb278) (o := .cells #[.int .i64 a0_0, .int .i64 a0_1, .int .i64 a0_2, .int .i64 a0_3, .int .i64 a0_4, .int .i64 a0_5] 29 (0, 0)) (by (with_reducible repeat (first | refine blk_drewN ?_ _ | refine blk_drew ?_ | refine blk_alloc ?_ _)); exact BK278.out) hb); have n1_ := Aside0.mk (below_step (by repeat (first | (with_reducible first | exact HB.out | apply below_alloc | apply pw_below_drewN | apply below_drew1 | refine below_set ?_ GE278.out) | exact HB.out)) hb); have n2_ := Aside0.mk (hbox); have n3_ := Aside0.mk ((by rw [hg]; exact (below_size (by repeat (first | (with_reducible first | exact HB.out | apply below_alloc | apply pw_below_drewN | apply below_drew1 | refine below_set ?_ GE278.out) | exact HB.out))) : w.heap.size ≤ gb279)); have n4_ := Aside0.mk ((by rw [hg]; exact (below_size (by repeat (first | (with_reducible first | exact HB.out | apply below_alloc | apply pw_below_drewN | apply below_drew1 | refine below_set ?_ GE278.out) | exact HB.out))) : w.heap.size ≤ gb279)); have n5_ := Aside0.mk ((by rw [hg]; exact Nat.ne_of_lt (blk_lt (g := gb278) (o := .cells #[.int .i64 a0_0, .int .i64 a0_1, .int .i64 a0_2, .int .i64 a0_3, .int .i64 a0_4, .int .i64 a0_5] 29 (0, 0)) (by (with_reducible repeat (first | refine blk_drewN ?_ _ | refine blk_drew ?_ | refine blk_alloc ?_ _)); exact BK278.out)) : gb278 ≠ gb279)); have n6_ := Aside0.mk ((by rw [hg]; exact Nat.ne_of_gt (blk_lt (g := gb278) (o := .cells #[.int .i64 a0_0, .int .i64 a0_1, .int .i64 a0_2, .int .i64 a0_3, .int .i64 a0_4, .int .i64 a0_5] 29 (0, 0)) (by (with_reducible repeat (first | refine blk_drewN ?_ _ | refine blk_drew ?_ | refine blk_alloc ?_ _)); exact BK278.out)) : gb279 ≠ gb278)); clear BK278; clear HB; have BK278 := n0_; have HB := n1_; have BK279 := n2_; have GW279 := n3_; have GE279 := n4_; have NB278_279 := n5_; have NB279_278 := n6_; clear n0_ n1_ n2_ n3_ n4_ n5_ n6_; clear hb hbox hg; have hnb38 := NB278_279.out; have hnc38 := NB279_278.out; have hcz39_0 : w37.cell? ⟨gb278, 0, none⟩ = some (.int .i64 a0_0) := (blk_cell BK278.out 0).trans rfl; have hcz39_1 : w37.cell? ⟨gb278, 1, none⟩ = some (.int .i64 a0_1) := (blk_cell BK278.out 1).trans rfl; have hcz39_2 : w37.cell? ⟨gb278, 2, none⟩ = some (.int .i64 a0_2) := (blk_cell BK278.out 2).trans rfl; have hcz39_3 : w37.cell? ⟨gb278, 3, none⟩ = some (.int .i64 a0_3) := (blk_cell BK278.out 3).trans rfl; have hcz39_4 : w37.cell? ⟨gb278, 4, none⟩ = some (.int .i64 a0_4) := (blk_cell BK278.out 4).trans rfl; have hcz39_5 : w37.cell? ⟨gb278, 5, none⟩ = some (.int .i64 a0_5) := (blk_cell BK278.out 5).trans rfl; have hfz39_0 := blk_frozen BK278.out 0; have hfz39_1 := blk_frozen BK278.out 1; have hfz39_2 := blk_frozen BK278.out 2; have hfz39_3 := blk_frozen BK278.out 3; have hfz39_4 := blk_frozen BK278.out 4; have hfz39_5 := blk_frozen BK278.out 5; have hcz40_0 : w37.cell? ⟨gb279, 0, none⟩ = some (.int .i64 a1_0) := (blk_cell BK279.out 0).trans rfl; have hcz40_1 : w37.cell? ⟨gb279, 1, none⟩ = some (.int .i64 a1_1) := (blk_cell BK279.out 1).trans rfl; have hcz40_2 : w37.cell? ⟨gb279, 2, none⟩ = some (.int .i64 a1_2) := (blk_cell BK279.out 2).trans rfl; have hcz40_3 : w37.cell? ⟨gb279, 3, none⟩ = some (.int .i64 a1_3) := (blk_cell BK279.out 3).trans rfl; have hcz40_4 : w37.cell? ⟨gb279, 4, none⟩ = some (.int .i64 a1_4) := (blk_cell BK279.out 4).trans rfl; have hcz40_5 : w37.cell? ⟨gb279, 5, none⟩ = some (.int .i64 a1_5) := (blk_cell BK279.out 5).trans rfl; have hfz40_0 := blk_frozen BK279.out 0; have hfz40_1 := blk_frozen BK279.out 1; have hfz40_2 := blk_frozen BK279.out 2; have hfz40_3 := blk_frozen BK279.out 3; have hfz40_4 := blk_frozen BK279.out 4; have hfz40_5 := blk_frozen BK279.out 5))
    go_ret
    exact ⟨by first | rfl | (simp [errW_none, errW_some] <;> rfl) | (simp [*, errW_none, errW_some] <;> rfl), by repeat (first | (with_reducible first | exact HB.out | apply below_alloc | apply pw_below_drewN | apply below_drew1 | refine below_set ?_ GE278.out | refine below_set ?_ GE279.out) | exact HB.out)⟩
def laws_eqOpS.l0 : Nat → List (S29) → List (S29) → Int → Option (Bool)
  | 0, _, _, _ => none
  | k + 1, x0, x1, x5 => if x5 < (x0.length : Int) then (if 0 ≤ x5 then (if x5 < (x1.length : Int) then ((laws_eqOp.f ((rd_T29 x0 x5).f0) ((rd_T29 x0 x5).f1) ((rd_T29 x0 x5).f2) ((rd_T29 x0 x5).f3) ((rd_T29 x0 x5).f4.f0) ((rd_T29 x0 x5).f4.f1) ((rd_T29 x1 x5).f0) ((rd_T29 x1 x5).f1) ((rd_T29 x1 x5).f2) ((rd_T29 x1 x5).f3) ((rd_T29 x1 x5).f4.f0) ((rd_T29 x1 x5).f4.f1)).bind fun t283 => (if t283 = true then (laws_eqOpS.l0 k x0 x1 (wrap64 (x5 + 1))) else (some false))) else (none)) else (none)) else (some true)
def laws_eqOpS.f (k : Nat) (l0 : List (S29)) (l1 : List (S29)) : Option (Bool) := if (l0.length : Int) = (l1.length : Int) then (laws_eqOpS.l0 k l0 l1 0) else (some false)
def laws_eqOpS.T6 : Bool × List (List Nat × List Nat) := (true, [([], []), ([], []), ([0, 1], [0, 1]), ([2], [2]), ([], []), ([], []), ([4, 5], [4, 5]), ([6], [6]), ([3, 7], [3, 7]), ([8], [8])])
def laws_eqOpS.B6 : List Nat := [0, 0, 3, 7, 0, 0, 48, 112, 255, 511]
theorem laws_eqOpS.tab6 : rtab .any (opsOf Try.f36 6) = laws_eqOpS.T6 := by kernel_rfl
theorem laws_eqOpS.bits6 : waitsOk laws_eqOpS.T6.2 laws_eqOpS.B6 = true := by kernel_rfl
set_option maxHeartbeats 8000000 in
set_option maxRecDepth 100000 in
theorem laws_eqOpS.calls (k : Nat) (A0 : Option Addr) (c0 : Nat) (l0 : List (S29)) (A1 : Option Addr) (c1 : Nat) (l1 : List (S29)) (r : Bool) (w : World) (hr0 : Kd.C k29 w A0 l0.length l0) (hc0 : l0.length ≤ c0) (hr1 : Kd.C k29 w A1 l1.length l1) (hc1 : l1.length ≤ c1) (h : laws_eqOpS.f k l0 l1 = some r) :
    Calls Try.prog 36 #[.slice A0 l0.length c0, .slice A1 l1.length c1] w fun e w' => e = .returned (.bool r) ∧ Below w.heap.size w w' := by
  have hu29 := Try.underlying29
  have HR0 := Aside0.mk hr0
  have HC0 := Aside0.mk hc0
  clear hr0 hc0
  have HR1 := Aside0.mk hr1
  have HC1 := Aside0.mk hc1
  clear hr1 hc1
  have HB := Aside0.mk (Below.refl w.heap.size w)
  have H : (if (l0.length : Int) = (l1.length : Int) then (laws_eqOpS.l0 k l0 l1 0) else (some false)) = some r := h
  clear h
  by_cases c3 : (l0.length : Int) = (l1.length : Int)
  · rw [if_pos c3] at H
    have c3b0 : ((l0.length : Int) == (l1.length : Int)) = true := beq_iff_eq.mpr c3
    have c3b1 : ((l0.length : Int) != (l1.length : Int)) = false := bne_eq_false_iff_eq.mpr c3
    have c3b2 : (l0.length == l1.length) = true := by first | simpa using c3 | (simp at c3 ⊢; omega)
    clear c3
    have H' := Aside0.mk H
    clear H
    go_enter Try.func36, Try.ntmps36
    go_wp2
    go_loopg [5] k (fun kq v5 w' => ∃ (x5_1 : Int), v5 = .int .i64 x5_1 ∧ Aside0 (laws_eqOpS.l0 kq l0 l1 x5_1 = some r) ∧ Aside0 (kq ≤ k) ∧ Aside0 (Below w.heap.size w w'))
    case atStart => exact ⟨(0), (by first | rfl | (simp; done) | (simp [*]; done)), H', ⟨Nat.le_refl _⟩, ⟨by repeat (first | (with_reducible first | exact HB.out | apply below_alloc | apply pw_below_drewN | apply below_drew1) | exact HB.out)⟩⟩
    case round =>
      clear H'
      try clear c1
      try clear p2
      try clear c3
      try clear c3b0
      try clear c3b1
      try clear c3b2
      obtain ⟨x5_1, rfl, HA, HK1, HB⟩ := hrel
      cases gk with
      | zero => exact absurd HA.out (by simp [laws_eqOpS.l0])
      | succ k1 =>
        have H := HA.out
        clear HA
        simp only [laws_eqOpS.l0] at H
        by_cases c4 : x5_1 < (l0.length : Int)
        · rw [if_pos c4] at H
          have c4b0 : decide (x5_1 < (l0.length : Int)) = true := decide_eq_true c4
          clear c4
          by_cases c5 : 0 ≤ x5_1
          · rw [if_pos c5] at H
            have c5b0 : decide (0 ≤ x5_1) = true := decide_eq_true c5
            clear c5
            by_cases c6 : x5_1 < (l1.length : Int)
            · rw [if_pos c6] at H
              have c6b0 : decide (x5_1 < (l1.length : Int)) = true := decide_eq_true c6
              clear c6
              replace H := Option.bind_eq_some_iff.mp H
              obtain ⟨t283, A70, H⟩ := H
              replace H : (if t283 = true then (laws_eqOpS.l0 k1 l0 l1 (wrap64 (x5_1 + 1))) else (some false)) = some r := H
              have A7 := Aside0.mk A70
              clear A70
              by_cases c8 : t283 = true
              · subst c8
                have H1 : (laws_eqOpS.l0 k1 l0 l1 (wrap64 (x5_1 + 1))) = some r := by rw [if_pos rfl] at H; exact H
                clear H
                have H := H1
                clear H1
                have H' := Aside0.mk H
                clear H
                try go_wp2
                have n0_ := Aside0.mk (below_drew1 HB.out)
                clear HB
                have HB := n0_
                clear n0_
                have p281 : 0 ≤ (x5_1 : Int) := of_decide_eq_true (by first | (with_reducible assumption) | assumption)
                have q281 : x5_1 < (l0.length : Int) := of_decide_eq_true (by first | (with_reducible assumption) | assumption)
                obtain ⟨ad281, e281, hx281_0, hx281_1, hx281_2, hx281_3, hx281_4, hx281_5⟩ := at_T29 HR0.out x5_1 p281 q281
                have hw281_5 := hx281_5
                have hw281_4 := hx281_4
                have hw281_3 := hx281_3
                have hw281_2 := hx281_2
                have hw281_1 := hx281_1
                have hw281_0 := hx281_0
                cases e281
                replace hx281_0 := (HB.out.cell (World.block_lt_of_cell? w _ hx281_0)).trans hx281_0
                replace hx281_1 := (HB.out.cell (World.block_lt_of_cell? w _ hx281_1)).trans hx281_1
                replace hx281_2 := (HB.out.cell (World.block_lt_of_cell? w _ hx281_2)).trans hx281_2
                replace hx281_3 := (HB.out.cell (World.block_lt_of_cell? w _ hx281_3)).trans hx281_3
                replace hx281_4 := (HB.out.cell (World.block_lt_of_cell? w _ hx281_4)).trans hx281_4
                replace hx281_5 := (HB.out.cell (World.block_lt_of_cell? w _ hx281_5)).trans hx281_5
                replace p281 := eq_true p281
                replace q281 := eq_true q281
                have p282 : 0 ≤ (x5_1 : Int) := of_decide_eq_true (by first | (with_reducible assumption) | assumption)
                have q282 : x5_1 < (l1.length : Int) := of_decide_eq_true (by first | (with_reducible assumption) | assumption)
                obtain ⟨ad282, e282, hx282_0, hx282_1, hx282_2, hx282_3, hx282_4, hx282_5⟩ := at_T29 HR1.out x5_1 p282 q282
                have hw282_5 := hx282_5
                have hw282_4 := hx282_4
                have hw282_3 := hx282_3
                have hw282_2 := hx282_2
                have hw282_1 := hx282_1
                have hw282_0 := hx282_0
                cases e282
                replace hx282_0 := (HB.out.cell (World.block_lt_of_cell? w _ hx282_0)).trans hx282_0
                replace hx282_1 := (HB.out.cell (World.block_lt_of_cell? w _ hx282_1)).trans hx282_1
                replace hx282_2 := (HB.out.cell (World.block_lt_of_cell? w _ hx282_2)).trans hx282_2
                replace hx282_3 := (HB.out.cell (World.block_lt_of_cell? w _ hx282_3)).trans hx282_3
                replace hx282_4 := (HB.out.cell (World.block_lt_of_cell? w _ hx282_4)).trans hx282_4
                replace hx282_5 := (HB.out.cell (World.block_lt_of_cell? w _ hx282_5)).trans hx282_5
                replace p282 := eq_true p282
                replace q282 := eq_true q282
                refine start_ (n := 10) (S := fun w' => w'.cell? (ad281.add ((x5_1).toNat * 6)) = some (.int .i64 ((rd_T29 l0 x5_1).f0)) ∧ w'.cell? ⟨(ad281.add ((x5_1).toNat * 6)).block, (ad281.add ((x5_1).toNat * 6)).off + 1, none⟩ = some (.int .i64 ((rd_T29 l0 x5_1).f1)) ∧ w'.cell? ⟨(ad281.add ((x5_1).toNat * 6)).block, (ad281.add ((x5_1).toNat * 6)).off + 2, none⟩ = some (.int .i64 ((rd_T29 l0 x5_1).f2)) ∧ w'.cell? ⟨(ad281.add ((x5_1).toNat * 6)).block, (ad281.add ((x5_1).toNat * 6)).off + 3, none⟩ = some (.int .i64 ((rd_T29 l0 x5_1).f3)) ∧ w'.cell? ⟨(ad281.add ((x5_1).toNat * 6)).block, (ad281.add ((x5_1).toNat * 6)).off + 4, none⟩ = some (.int .i64 ((rd_T29 l0 x5_1).f4.f0)) ∧ w'.cell? ⟨(ad281.add ((x5_1).toNat * 6)).block, (ad281.add ((x5_1).toNat * 6)).off + 5, none⟩ = some (.int .i64 ((rd_T29 l0 x5_1).f4.f1)) ∧ w'.cell? (ad282.add ((x5_1).toNat * 6)) = some (.int .i64 ((rd_T29 l1 x5_1).f0)) ∧ w'.cell? ⟨(ad282.add ((x5_1).toNat * 6)).block, (ad282.add ((x5_1).toNat * 6)).off + 1, none⟩ = some (.int .i64 ((rd_T29 l1 x5_1).f1)) ∧ w'.cell? ⟨(ad282.add ((x5_1).toNat * 6)).block, (ad282.add ((x5_1).toNat * 6)).off + 2, none⟩ = some (.int .i64 ((rd_T29 l1 x5_1).f2)) ∧ w'.cell? ⟨(ad282.add ((x5_1).toNat * 6)).block, (ad282.add ((x5_1).toNat * 6)).off + 3, none⟩ = some (.int .i64 ((rd_T29 l1 x5_1).f3)) ∧ w'.cell? ⟨(ad282.add ((x5_1).toNat * 6)).block, (ad282.add ((x5_1).toNat * 6)).off + 4, none⟩ = some (.int .i64 ((rd_T29 l1 x5_1).f4.f0)) ∧ w'.cell? ⟨(ad282.add ((x5_1).toNat * 6)).block, (ad282.add ((x5_1).toNat * 6)).off + 5, none⟩ = some (.int .i64 ((rd_T29 l1 x5_1).f4.f1))) (ds := []) #[false, false, false, false, false, false, false, false, false, false] (by kernel_rfl) rfl rfl ⟨((HB.out.cell (World.block_lt_of_cell? w _ hw281_0)).trans hw281_0), ((HB.out.cell (World.block_lt_of_cell? w _ hw281_1)).trans hw281_1), ((HB.out.cell (World.block_lt_of_cell? w _ hw281_2)).trans hw281_2), ((HB.out.cell (World.block_lt_of_cell? w _ hw281_3)).trans hw281_3), ((HB.out.cell (World.block_lt_of_cell? w _ hw281_4)).trans hw281_4), ((HB.out.cell (World.block_lt_of_cell? w _ hw281_5)).trans hw281_5), ((HB.out.cell (World.block_lt_of_cell? w _ hw282_0)).trans hw282_0), ((HB.out.cell (World.block_lt_of_cell? w _ hw282_1)).trans hw282_1), ((HB.out.cell (World.block_lt_of_cell? w _ hw282_2)).trans hw282_2), ((HB.out.cell (World.block_lt_of_cell? w _ hw282_3)).trans hw282_3), ((HB.out.cell (World.block_lt_of_cell? w _ hw282_4)).trans hw282_4), ((HB.out.cell (World.block_lt_of_cell? w _ hw282_5)).trans hw282_5)⟩ (fun hHeld => ?_); refine with_tabW laws_eqOpS.tab6 laws_eqOpS.bits6 (fun HT_ HW_ => ?_)
                generalize wr.drew = w9 at HB hx281_0 hx281_1 hx281_2 hx281_3 hx281_4 hx281_5 hx282_0 hx282_1 hx282_2 hx282_3 hx282_4 hx282_5 hHeld ⊢
                refine pure_ (i := 0) (N := some 17) (v := ?_) (a' := ?_) #[true, false, false, false, false, false, false, false, false, false] rfl rfl (any_of HT_.out (by kernel_rfl)) (fun _ _ _ h => h) (Or.inl ⟨by rfl, ?_⟩) ?_ ?_
                rotate_left
                · intro w'
                  go_simp
                  with_reducible rfl
                rotate_left
                · simp only [Act.put, List.setIfInBounds_toArray, List.set_cons_zero, List.set_cons_succ, i64_w, i32_w]
                  rfl
                refine pure_ (i := 1) (N := some 18) (v := ?_) (a' := ?_) #[true, true, false, false, false, false, false, false, false, false] rfl rfl (any_of HT_.out (by kernel_rfl)) (fun _ _ _ h => h) (Or.inl ⟨by rfl, ?_⟩) ?_ ?_
                rotate_left
                · intro w'
                  go_simp
                  with_reducible rfl
                rotate_left
                · simp only [Act.put, List.setIfInBounds_toArray, List.set_cons_zero, List.set_cons_succ, i64_w, i32_w]
                  rfl
                refine pure_ (i := 2) (N := some 19) (v := ?_) (a' := ?_) #[true, true, true, false, false, false, false, false, false, false] rfl rfl (any_of HT_.out (by kernel_rfl)) (fun _ _ _ h => h) (Or.inl ⟨by rfl, ?_⟩) ?_ ?_
                rotate_left
                · intro w'
                  go_simp
                  with_reducible rfl
                rotate_left
                · simp only [Act.put, List.setIfInBounds_toArray, List.set_cons_zero, List.set_cons_succ, i64_w, i32_w]
                  rfl
                refine pure_ (i := 4) (N := some 21) (v := ?_) (a' := ?_) #[true, true, true, false, true, false, false, false, false, false] rfl rfl (any_of HT_.out (by kernel_rfl)) (fun _ _ _ h => h) (Or.inl ⟨by rfl, ?_⟩) ?_ ?_
                rotate_left
                · intro w'
                  go_simp
                  with_reducible rfl
                rotate_left
                · simp only [Act.put, List.setIfInBounds_toArray, List.set_cons_zero, List.set_cons_succ, i64_w, i32_w]
                  rfl
                refine pure_ (i := 5) (N := some 22) (v := ?_) (a' := ?_) #[true, true, true, false, true, true, false, false, false, false] rfl rfl (any_of HT_.out (by kernel_rfl)) (fun _ _ _ h => h) (Or.inl ⟨by rfl, ?_⟩) ?_ ?_
                rotate_left
                · intro w'
                  go_simp
                  with_reducible rfl
                rotate_left
                · simp only [Act.put, List.setIfInBounds_toArray, List.set_cons_zero, List.set_cons_succ, i64_w, i32_w]
                  rfl
                refine pure_ (i := 6) (N := some 23) (v := ?_) (a' := ?_) #[true, true, true, false, true, true, true, false, false, false] rfl rfl (any_of HT_.out (by kernel_rfl)) (fun _ _ _ h => h) (Or.inl ⟨by rfl, ?_⟩) ?_ ?_
                rotate_left
                · intro w'
                  go_simp
                  with_reducible rfl
                rotate_left
                · simp only [Act.put, List.setIfInBounds_toArray, List.set_cons_zero, List.set_cons_succ, i64_w, i32_w]
                  rfl
                refine take_ (i := 3) (N := some 20) (v := ?_) (a' := ?_) #[true, true, true, true, true, true, true, false, false, false] rfl rfl (take_ofW HT_.out HW_.out (by kernel_rfl)) (fun _ _ _ h => h) (Or.inl ⟨by rfl, ?_⟩) hHeld ?_ ?_
                rotate_left
                · rintro w' ⟨s0, s1, s2, s3, s4, s5, s6, s7, s8, s9, s10, s11⟩
                  go_simp
                  with_reducible rfl
                rotate_left
                · simp only [Act.put, List.setIfInBounds_toArray, List.set_cons_zero, List.set_cons_succ, i64_w, i32_w]
                  rfl
                refine take_ (i := 7) (N := some 24) (v := ?_) (a' := ?_) #[true, true, true, true, true, true, true, true, false, false] rfl rfl (take_ofW HT_.out HW_.out (by kernel_rfl)) (fun _ _ _ h => h) (Or.inl ⟨by rfl, ?_⟩) hHeld ?_ ?_
                rotate_left
                · rintro w' ⟨s0, s1, s2, s3, s4, s5, s6, s7, s8, s9, s10, s11⟩
                  go_simp
                  with_reducible rfl
                rotate_left
                · simp only [Act.put, List.setIfInBounds_toArray, List.set_cons_zero, List.set_cons_succ, i64_w, i32_w]
                  rfl
                refine one_ (i := 8) (N := some 25) #[true, true, true, true, true, true, true, true, true, false] rfl rfl (one_of HT_.out (by kernel_rfl)) (by decide) (fun K hK => ?_)
                refine goes_ Try.func75 (by kernel_rfl) rfl #[.agg #[.int .i64 ((rd_T29 l0 x5_1).f0), .int .i64 ((rd_T29 l0 x5_1).f1), .int .i64 ((rd_T29 l0 x5_1).f2), .int .i64 ((rd_T29 l0 x5_1).f3), .int .i64 ((rd_T29 l0 x5_1).f4.f0), .int .i64 ((rd_T29 l0 x5_1).f4.f1)], .agg #[.int .i64 ((rd_T29 l1 x5_1).f0), .int .i64 ((rd_T29 l1 x5_1).f1), .int .i64 ((rd_T29 l1 x5_1).f2), .int .i64 ((rd_T29 l1 x5_1).f3), .int .i64 ((rd_T29 l1 x5_1).f4.f0), .int .i64 ((rd_T29 l1 x5_1).f4.f1)]] (by rfl) rfl rfl (by (try simp only [List.map_toArray, List.map_cons, List.map_nil]); first | done | rfl | (simp only [List.length_drop, List.length_take]; rfl)) ?_
                with_reducible refine (laws_eqOp.calls ((rd_T29 l0 x5_1).f0) ((rd_T29 l0 x5_1).f1) ((rd_T29 l0 x5_1).f2) ((rd_T29 l0 x5_1).f3) ((rd_T29 l0 x5_1).f4.f0) ((rd_T29 l0 x5_1).f4.f1) ((rd_T29 l1 x5_1).f0) ((rd_T29 l1 x5_1).f1) ((rd_T29 l1 x5_1).f2) ((rd_T29 l1 x5_1).f3) ((rd_T29 l1 x5_1).f4.f0) ((rd_T29 l1 x5_1).f4.f1) true _ A7.out).mono ?_
                rintro e w10 ⟨rfl, hb⟩
                refine ⟨_, rfl, ?_⟩
                have n0_ := Aside0.mk (below_step (by repeat (first | (with_reducible first | exact HB.out | apply below_alloc | apply pw_below_drewN | apply below_drew1) | exact HB.out)) hb)
                clear HB
                have HB := n0_
                clear n0_
                (try clear hb)
                (try clear hb2)
                (try clear hk)
                (try clear hi)
                refine hK.out _ _ ⟨((HB.out.cell (World.block_lt_of_cell? w _ hw281_0)).trans hw281_0), ((HB.out.cell (World.block_lt_of_cell? w _ hw281_1)).trans hw281_1), ((HB.out.cell (World.block_lt_of_cell? w _ hw281_2)).trans hw281_2), ((HB.out.cell (World.block_lt_of_cell? w _ hw281_3)).trans hw281_3), ((HB.out.cell (World.block_lt_of_cell? w _ hw281_4)).trans hw281_4), ((HB.out.cell (World.block_lt_of_cell? w _ hw281_5)).trans hw281_5), ((HB.out.cell (World.block_lt_of_cell? w _ hw282_0)).trans hw282_0), ((HB.out.cell (World.block_lt_of_cell? w _ hw282_1)).trans hw282_1), ((HB.out.cell (World.block_lt_of_cell? w _ hw282_2)).trans hw282_2), ((HB.out.cell (World.block_lt_of_cell? w _ hw282_3)).trans hw282_3), ((HB.out.cell (World.block_lt_of_cell? w _ hw282_4)).trans hw282_4), ((HB.out.cell (World.block_lt_of_cell? w _ hw282_5)).trans hw282_5)⟩ (fun hHeld => ?_)
                clear hK K
                refine norm_ (a' := ?_) ?_ ?_
                rotate_left
                · show Act.put _ (some 25) _ = _
                  simp only [Act.put, List.setIfInBounds_toArray, List.set_cons_zero, List.set_cons_succ, i64_w, i32_w]
                  rfl
                refine pure_ (i := 9) (N := some 26) (v := ?_) (a' := ?_) #[true, true, true, true, true, true, true, true, true, true] rfl rfl (any_of HT_.out (by kernel_rfl)) (fun _ _ _ h => h) (Or.inl ⟨by rfl, ?_⟩) ?_ ?_
                rotate_left
                · intro w'
                  go_simp
                  with_reducible rfl
                rotate_left
                · simp only [Act.put, List.setIfInBounds_toArray, List.set_cons_zero, List.set_cons_succ, i64_w, i32_w]
                  rfl
                refine done_ (done_of HT_.out (by kernel_rfl)) ?_
                try go_wp2
                go_roundg k1
                case measure => have := HK1.out; omega
                case rel => exact ⟨(wrap64 (x5_1 + 1)), (by first | rfl | (simp; done) | (simp [*]; done)), H', ⟨by have := HK1.out; omega⟩, ⟨by repeat (first | (with_reducible first | exact HB.out | apply below_alloc | apply pw_below_drewN | apply below_drew1) | exact HB.out)⟩⟩
              · replace c8 := Bool.eq_false_iff.mpr c8
                subst c8
                have H1 : (some false) = some r := by rw [if_neg (show ¬ (false = true) by decide)] at H; exact H
                clear H
                have H := H1
                clear H1
                obtain rfl := Option.some.inj H
                try go_wp2
                have n0_ := Aside0.mk (below_drew1 HB.out)
                clear HB
                have HB := n0_
                clear n0_
                have p281 : 0 ≤ (x5_1 : Int) := of_decide_eq_true (by first | (with_reducible assumption) | assumption)
                have q281 : x5_1 < (l0.length : Int) := of_decide_eq_true (by first | (with_reducible assumption) | assumption)
                obtain ⟨ad281, e281, hx281_0, hx281_1, hx281_2, hx281_3, hx281_4, hx281_5⟩ := at_T29 HR0.out x5_1 p281 q281
                have hw281_5 := hx281_5
                have hw281_4 := hx281_4
                have hw281_3 := hx281_3
                have hw281_2 := hx281_2
                have hw281_1 := hx281_1
                have hw281_0 := hx281_0
                cases e281
                replace hx281_0 := (HB.out.cell (World.block_lt_of_cell? w _ hx281_0)).trans hx281_0
                replace hx281_1 := (HB.out.cell (World.block_lt_of_cell? w _ hx281_1)).trans hx281_1
                replace hx281_2 := (HB.out.cell (World.block_lt_of_cell? w _ hx281_2)).trans hx281_2
                replace hx281_3 := (HB.out.cell (World.block_lt_of_cell? w _ hx281_3)).trans hx281_3
                replace hx281_4 := (HB.out.cell (World.block_lt_of_cell? w _ hx281_4)).trans hx281_4
                replace hx281_5 := (HB.out.cell (World.block_lt_of_cell? w _ hx281_5)).trans hx281_5
                replace p281 := eq_true p281
                replace q281 := eq_true q281
                have p282 : 0 ≤ (x5_1 : Int) := of_decide_eq_true (by first | (with_reducible assumption) | assumption)
                have q282 : x5_1 < (l1.length : Int) := of_decide_eq_true (by first | (with_reducible assumption) | assumption)
                obtain ⟨ad282, e282, hx282_0, hx282_1, hx282_2, hx282_3, hx282_4, hx282_5⟩ := at_T29 HR1.out x5_1 p282 q282
                have hw282_5 := hx282_5
                have hw282_4 := hx282_4
                have hw282_3 := hx282_3
                have hw282_2 := hx282_2
                have hw282_1 := hx282_1
                have hw282_0 := hx282_0
                cases e282
                replace hx282_0 := (HB.out.cell (World.block_lt_of_cell? w _ hx282_0)).trans hx282_0
                replace hx282_1 := (HB.out.cell (World.block_lt_of_cell? w _ hx282_1)).trans hx282_1
                replace hx282_2 := (HB.out.cell (World.block_lt_of_cell? w _ hx282_2)).trans hx282_2
                replace hx282_3 := (HB.out.cell (World.block_lt_of_cell? w _ hx282_3)).trans hx282_3
                replace hx282_4 := (HB.out.cell (World.block_lt_of_cell? w _ hx282_4)).trans hx282_4
                replace hx282_5 := (HB.out.cell (World.block_lt_of_cell? w _ hx282_5)).trans hx282_5
                replace p282 := eq_true p282
                replace q282 := eq_true q282
                refine start_ (n := 10) (S := fun w' => w'.cell? (ad281.add ((x5_1).toNat * 6)) = some (.int .i64 ((rd_T29 l0 x5_1).f0)) ∧ w'.cell? ⟨(ad281.add ((x5_1).toNat * 6)).block, (ad281.add ((x5_1).toNat * 6)).off + 1, none⟩ = some (.int .i64 ((rd_T29 l0 x5_1).f1)) ∧ w'.cell? ⟨(ad281.add ((x5_1).toNat * 6)).block, (ad281.add ((x5_1).toNat * 6)).off + 2, none⟩ = some (.int .i64 ((rd_T29 l0 x5_1).f2)) ∧ w'.cell? ⟨(ad281.add ((x5_1).toNat * 6)).block, (ad281.add ((x5_1).toNat * 6)).off + 3, none⟩ = some (.int .i64 ((rd_T29 l0 x5_1).f3)) ∧ w'.cell? ⟨(ad281.add ((x5_1).toNat * 6)).block, (ad281.add ((x5_1).toNat * 6)).off + 4, none⟩ = some (.int .i64 ((rd_T29 l0 x5_1).f4.f0)) ∧ w'.cell? ⟨(ad281.add ((x5_1).toNat * 6)).block, (ad281.add ((x5_1).toNat * 6)).off + 5, none⟩ = some (.int .i64 ((rd_T29 l0 x5_1).f4.f1)) ∧ w'.cell? (ad282.add ((x5_1).toNat * 6)) = some (.int .i64 ((rd_T29 l1 x5_1).f0)) ∧ w'.cell? ⟨(ad282.add ((x5_1).toNat * 6)).block, (ad282.add ((x5_1).toNat * 6)).off + 1, none⟩ = some (.int .i64 ((rd_T29 l1 x5_1).f1)) ∧ w'.cell? ⟨(ad282.add ((x5_1).toNat * 6)).block, (ad282.add ((x5_1).toNat * 6)).off + 2, none⟩ = some (.int .i64 ((rd_T29 l1 x5_1).f2)) ∧ w'.cell? ⟨(ad282.add ((x5_1).toNat * 6)).block, (ad282.add ((x5_1).toNat * 6)).off + 3, none⟩ = some (.int .i64 ((rd_T29 l1 x5_1).f3)) ∧ w'.cell? ⟨(ad282.add ((x5_1).toNat * 6)).block, (ad282.add ((x5_1).toNat * 6)).off + 4, none⟩ = some (.int .i64 ((rd_T29 l1 x5_1).f4.f0)) ∧ w'.cell? ⟨(ad282.add ((x5_1).toNat * 6)).block, (ad282.add ((x5_1).toNat * 6)).off + 5, none⟩ = some (.int .i64 ((rd_T29 l1 x5_1).f4.f1))) (ds := []) #[false, false, false, false, false, false, false, false, false, false] (by kernel_rfl) rfl rfl ⟨((HB.out.cell (World.block_lt_of_cell? w _ hw281_0)).trans hw281_0), ((HB.out.cell (World.block_lt_of_cell? w _ hw281_1)).trans hw281_1), ((HB.out.cell (World.block_lt_of_cell? w _ hw281_2)).trans hw281_2), ((HB.out.cell (World.block_lt_of_cell? w _ hw281_3)).trans hw281_3), ((HB.out.cell (World.block_lt_of_cell? w _ hw281_4)).trans hw281_4), ((HB.out.cell (World.block_lt_of_cell? w _ hw281_5)).trans hw281_5), ((HB.out.cell (World.block_lt_of_cell? w _ hw282_0)).trans hw282_0), ((HB.out.cell (World.block_lt_of_cell? w _ hw282_1)).trans hw282_1), ((HB.out.cell (World.block_lt_of_cell? w _ hw282_2)).trans hw282_2), ((HB.out.cell (World.block_lt_of_cell? w _ hw282_3)).trans hw282_3), ((HB.out.cell (World.block_lt_of_cell? w _ hw282_4)).trans hw282_4), ((HB.out.cell (World.block_lt_of_cell? w _ hw282_5)).trans hw282_5)⟩ (fun hHeld => ?_); refine with_tabW laws_eqOpS.tab6 laws_eqOpS.bits6 (fun HT_ HW_ => ?_)
                generalize wr.drew = w11 at HB hx281_0 hx281_1 hx281_2 hx281_3 hx281_4 hx281_5 hx282_0 hx282_1 hx282_2 hx282_3 hx282_4 hx282_5 hHeld ⊢
                refine pure_ (i := 0) (N := some 17) (v := ?_) (a' := ?_) #[true, false, false, false, false, false, false, false, false, false] rfl rfl (any_of HT_.out (by kernel_rfl)) (fun _ _ _ h => h) (Or.inl ⟨by rfl, ?_⟩) ?_ ?_
                rotate_left
                · intro w'
                  go_simp
                  with_reducible rfl
                rotate_left
                · simp only [Act.put, List.setIfInBounds_toArray, List.set_cons_zero, List.set_cons_succ, i64_w, i32_w]
                  rfl
                refine pure_ (i := 1) (N := some 18) (v := ?_) (a' := ?_) #[true, true, false, false, false, false, false, false, false, false] rfl rfl (any_of HT_.out (by kernel_rfl)) (fun _ _ _ h => h) (Or.inl ⟨by rfl, ?_⟩) ?_ ?_
                rotate_left
                · intro w'
                  go_simp
                  with_reducible rfl
                rotate_left
                · simp only [Act.put, List.setIfInBounds_toArray, List.set_cons_zero, List.set_cons_succ, i64_w, i32_w]
                  rfl
                refine pure_ (i := 2) (N := some 19) (v := ?_) (a' := ?_) #[true, true, true, false, false, false, false, false, false, false] rfl rfl (any_of HT_.out (by kernel_rfl)) (fun _ _ _ h => h) (Or.inl ⟨by rfl, ?_⟩) ?_ ?_
                rotate_left
                · intro w'
                  go_simp
                  with_reducible rfl
                rotate_left
                · simp only [Act.put, List.setIfInBounds_toArray, List.set_cons_zero, List.set_cons_succ, i64_w, i32_w]
                  rfl
                refine pure_ (i := 4) (N := some 21) (v := ?_) (a' := ?_) #[true, true, true, false, true, false, false, false, false, false] rfl rfl (any_of HT_.out (by kernel_rfl)) (fun _ _ _ h => h) (Or.inl ⟨by rfl, ?_⟩) ?_ ?_
                rotate_left
                · intro w'
                  go_simp
                  with_reducible rfl
                rotate_left
                · simp only [Act.put, List.setIfInBounds_toArray, List.set_cons_zero, List.set_cons_succ, i64_w, i32_w]
                  rfl
                refine pure_ (i := 5) (N := some 22) (v := ?_) (a' := ?_) #[true, true, true, false, true, true, false, false, false, false] rfl rfl (any_of HT_.out (by kernel_rfl)) (fun _ _ _ h => h) (Or.inl ⟨by rfl, ?_⟩) ?_ ?_
                rotate_left
                · intro w'
                  go_simp
                  with_reducible rfl
                rotate_left
                · simp only [Act.put, List.setIfInBounds_toArray, List.set_cons_zero, List.set_cons_succ, i64_w, i32_w]
                  rfl
                refine pure_ (i := 6) (N := some 23) (v := ?_) (a' := ?_) #[true, true, true, false, true, true, true, false, false, false] rfl rfl (any_of HT_.out (by kernel_rfl)) (fun _ _ _ h => h) (Or.inl ⟨by rfl, ?_⟩) ?_ ?_
                rotate_left
                · intro w'
                  go_simp
                  with_reducible rfl
                rotate_left
                · simp only [Act.put, List.setIfInBounds_toArray, List.set_cons_zero, List.set_cons_succ, i64_w, i32_w]
                  rfl
                refine take_ (i := 3) (N := some 20) (v := ?_) (a' := ?_) #[true, true, true, true, true, true, true, false, false, false] rfl rfl (take_ofW HT_.out HW_.out (by kernel_rfl)) (fun _ _ _ h => h) (Or.inl ⟨by rfl, ?_⟩) hHeld ?_ ?_
                rotate_left
                · rintro w' ⟨s0, s1, s2, s3, s4, s5, s6, s7, s8, s9, s10, s11⟩
                  go_simp
                  with_reducible rfl
                rotate_left
                · simp only [Act.put, List.setIfInBounds_toArray, List.set_cons_zero, List.set_cons_succ, i64_w, i32_w]
                  rfl
                refine take_ (i := 7) (N := some 24) (v := ?_) (a' := ?_) #[true, true, true, true, true, true, true, true, false, false] rfl rfl (take_ofW HT_.out HW_.out (by kernel_rfl)) (fun _ _ _ h => h) (Or.inl ⟨by rfl, ?_⟩) hHeld ?_ ?_
                rotate_left
                · rintro w' ⟨s0, s1, s2, s3, s4, s5, s6, s7, s8, s9, s10, s11⟩
                  go_simp
                  with_reducible rfl
                rotate_left
                · simp only [Act.put, List.setIfInBounds_toArray, List.set_cons_zero, List.set_cons_succ, i64_w, i32_w]
                  rfl
                refine one_ (i := 8) (N := some 25) #[true, true, true, true, true, true, true, true, true, false] rfl rfl (one_of HT_.out (by kernel_rfl)) (by decide) (fun K hK => ?_)
                refine goes_ Try.func75 (by kernel_rfl) rfl #[.agg #[.int .i64 ((rd_T29 l0 x5_1).f0), .int .i64 ((rd_T29 l0 x5_1).f1), .int .i64 ((rd_T29 l0 x5_1).f2), .int .i64 ((rd_T29 l0 x5_1).f3), .int .i64 ((rd_T29 l0 x5_1).f4.f0), .int .i64 ((rd_T29 l0 x5_1).f4.f1)], .agg #[.int .i64 ((rd_T29 l1 x5_1).f0), .int .i64 ((rd_T29 l1 x5_1).f1), .int .i64 ((rd_T29 l1 x5_1).f2), .int .i64 ((rd_T29 l1 x5_1).f3), .int .i64 ((rd_T29 l1 x5_1).f4.f0), .int .i64 ((rd_T29 l1 x5_1).f4.f1)]] (by rfl) rfl rfl (by (try simp only [List.map_toArray, List.map_cons, List.map_nil]); first | done | rfl | (simp only [List.length_drop, List.length_take]; rfl)) ?_
                with_reducible refine (laws_eqOp.calls ((rd_T29 l0 x5_1).f0) ((rd_T29 l0 x5_1).f1) ((rd_T29 l0 x5_1).f2) ((rd_T29 l0 x5_1).f3) ((rd_T29 l0 x5_1).f4.f0) ((rd_T29 l0 x5_1).f4.f1) ((rd_T29 l1 x5_1).f0) ((rd_T29 l1 x5_1).f1) ((rd_T29 l1 x5_1).f2) ((rd_T29 l1 x5_1).f3) ((rd_T29 l1 x5_1).f4.f0) ((rd_T29 l1 x5_1).f4.f1) false _ A7.out).mono ?_
                rintro e w12 ⟨rfl, hb⟩
                refine ⟨_, rfl, ?_⟩
                have n0_ := Aside0.mk (below_step (by repeat (first | (with_reducible first | exact HB.out | apply below_alloc | apply pw_below_drewN | apply below_drew1) | exact HB.out)) hb)
                clear HB
                have HB := n0_
                clear n0_
                (try clear hb)
                (try clear hb2)
                (try clear hk)
                (try clear hi)
                refine hK.out _ _ ⟨((HB.out.cell (World.block_lt_of_cell? w _ hw281_0)).trans hw281_0), ((HB.out.cell (World.block_lt_of_cell? w _ hw281_1)).trans hw281_1), ((HB.out.cell (World.block_lt_of_cell? w _ hw281_2)).trans hw281_2), ((HB.out.cell (World.block_lt_of_cell? w _ hw281_3)).trans hw281_3), ((HB.out.cell (World.block_lt_of_cell? w _ hw281_4)).trans hw281_4), ((HB.out.cell (World.block_lt_of_cell? w _ hw281_5)).trans hw281_5), ((HB.out.cell (World.block_lt_of_cell? w _ hw282_0)).trans hw282_0), ((HB.out.cell (World.block_lt_of_cell? w _ hw282_1)).trans hw282_1), ((HB.out.cell (World.block_lt_of_cell? w _ hw282_2)).trans hw282_2), ((HB.out.cell (World.block_lt_of_cell? w _ hw282_3)).trans hw282_3), ((HB.out.cell (World.block_lt_of_cell? w _ hw282_4)).trans hw282_4), ((HB.out.cell (World.block_lt_of_cell? w _ hw282_5)).trans hw282_5)⟩ (fun hHeld => ?_)
                clear hK K
                refine norm_ (a' := ?_) ?_ ?_
                rotate_left
                · show Act.put _ (some 25) _ = _
                  simp only [Act.put, List.setIfInBounds_toArray, List.set_cons_zero, List.set_cons_succ, i64_w, i32_w]
                  rfl
                refine pure_ (i := 9) (N := some 26) (v := ?_) (a' := ?_) #[true, true, true, true, true, true, true, true, true, true] rfl rfl (any_of HT_.out (by kernel_rfl)) (fun _ _ _ h => h) (Or.inl ⟨by rfl, ?_⟩) ?_ ?_
                rotate_left
                · intro w'
                  go_simp
                  with_reducible rfl
                rotate_left
                · simp only [Act.put, List.setIfInBounds_toArray, List.set_cons_zero, List.set_cons_succ, i64_w, i32_w]
                  rfl
                refine done_ (done_of HT_.out (by kernel_rfl)) ?_
                try go_wp2
                go_ret
                exact ⟨by first | rfl | (simp [errW_none, errW_some] <;> rfl) | (simp [*, errW_none, errW_some] <;> rfl), by repeat (first | (with_reducible first | exact HB.out | apply below_alloc | apply pw_below_drewN | apply below_drew1) | exact HB.out)⟩
            · rw [if_neg c6] at H
              exact absurd H (by simp)
          · rw [if_neg c5] at H
            exact absurd H (by simp)
        · rw [if_neg c4] at H
          have c4b0 : decide (x5_1 < (l0.length : Int)) = false := decide_eq_false c4
          clear c4
          obtain rfl := Option.some.inj H
          go_wp2
          go_ret
          exact ⟨by first | rfl | (simp [errW_none, errW_some] <;> rfl) | (simp [*, errW_none, errW_some] <;> rfl), by repeat (first | (with_reducible first | exact HB.out | apply below_alloc | apply pw_below_drewN | apply below_drew1) | exact HB.out)⟩
  · rw [if_neg c3] at H
    have c3b0 : ((l0.length : Int) == (l1.length : Int)) = false := beq_eq_false_iff_ne.mpr c3
    have c3b1 : ((l0.length : Int) != (l1.length : Int)) = true := bne_iff_ne.mpr c3
    have c3b2 : (l0.length == l1.length) = false := by first | simpa using c3 | (simp at c3 ⊢; omega)
    obtain rfl := Option.some.inj H
    go_enter Try.func36, Try.ntmps36
    go_wp2
    go_ret
    exact ⟨by first | rfl | (simp [errW_none, errW_some] <;> rfl) | (simp [*, errW_none, errW_some] <;> rfl), by repeat (first | (with_reducible first | exact HB.out | apply below_alloc | apply pw_below_drewN | apply below_drew1) | exact HB.out)⟩
def spec_l11Among.l0 : Nat → List Int → Int → Int → Option (Bool)
  | 0, _, _, _ => none
  | k + 1, x0, x1, x5 => if x5 < (x0.length : Int) then (if 0 ≤ x5 then (if (rd x0 x5) = x1 then (some true) else (spec_l11Among.l0 k x0 x1 (wrap64 (x5 + 1)))) else (none)) else (some false)
def spec_l11Among.f (k : Nat) (l0 : List Int) (a1 : Int) : Option (Bool) := spec_l11Among.l0 k l0 a1 0
theorem spec_l11Among.mono_l : ∀ k, (∀ y0 y1 y2, LeO (spec_l11Among.l0 k y0 y1 y2) (spec_l11Among.l0 (k + 1) y0 y1 y2))
  | 0 => fun _ _ _ r h => by simp [spec_l11Among.l0] at h
  | k + 1 => by
    have ih0 := spec_l11Among.mono_l k
    · intro y0 y1 y2
      unfold spec_l11Among.l0
      repeat' first
      | (with_reducible exact ih0 _ _ _)
      | (with_reducible exact LeO.refl _)
      | (with_reducible exact LeO.none _)
      | (with_reducible refine LeO.ite ?_ ?_)
      | (with_reducible refine LeO.bind ?_ (fun _ => ?_))
      | exact ih0 _ _ _
      | exact LeO.none _
      | refine LeO.ite ?_ ?_
      | refine LeO.bind ?_ (fun _ => ?_)
theorem spec_l11Among.mono : ∀ a0 a1 k, LeO (spec_l11Among.f k a0 a1) (spec_l11Among.f (k + 1) a0 a1) := by
  intro a0 a1 k
  have ih0 := spec_l11Among.mono_l k
  unfold spec_l11Among.f
  repeat' first
      | (with_reducible exact ih0 _ _ _)
      | (with_reducible exact LeO.refl _)
      | (with_reducible exact LeO.none _)
      | (with_reducible refine LeO.ite ?_ ?_)
      | (with_reducible refine LeO.bind ?_ (fun _ => ?_))
      | exact ih0 _ _ _
      | exact LeO.none _
      | refine LeO.ite ?_ ?_
      | refine LeO.bind ?_ (fun _ => ?_)
set_option maxHeartbeats 8000000 in
set_option maxRecDepth 100000 in
theorem spec_l11Among.calls (k : Nat) (A0 : Option Addr) (c0 : Nat) (l0 : List Int) (a1 : Int) (r : Bool) (w : World) (hr0 : Kd.C (Kd.int .i64) w A0 l0.length l0) (hc0 : l0.length ≤ c0) (h : spec_l11Among.f k l0 a1 = some r) :
    Calls Try.prog 79 #[.slice A0 l0.length c0, .int .i64 a1] w fun e w' => e = .returned (.bool r) ∧ Drawn0 w w' := by
  have HR0 := Aside0.mk hr0
  have HC0 := Aside0.mk hc0
  clear hr0 hc0
  have H : (spec_l11Among.l0 k l0 a1 0) = some r := h
  clear h
  have H' := Aside0.mk H
  clear H
  go_enter Try.func79, Try.ntmps79
  go_wp2
  go_loopg [5] k (fun kq v5 w' => ∃ (x5_1 : Int), v5 = .int .i64 x5_1 ∧ Aside0 (spec_l11Among.l0 kq l0 a1 x5_1 = some r) ∧ Aside0 (kq ≤ k) ∧ Drawn0 w w')
  case atStart => exact ⟨(0), (by first | rfl | (simp; done) | (simp [*]; done)), H', ⟨Nat.le_refl _⟩, by repeat (first | exact Drawn0.refl _ | apply Drawn0.step)⟩
  case round =>
    clear H'
    try clear p2
    obtain ⟨x5_1, rfl, HA, HK1, ⟨m1, rfl⟩⟩ := hrel
    cases gk with
    | zero => exact absurd HA.out (by simp [spec_l11Among.l0])
    | succ k1 =>
      have H := HA.out
      clear HA
      simp only [spec_l11Among.l0] at H
      by_cases c3 : x5_1 < (l0.length : Int)
      · rw [if_pos c3] at H
        have c3b0 : decide (x5_1 < (l0.length : Int)) = true := decide_eq_true c3
        clear c3
        by_cases c4 : 0 ≤ x5_1
        · rw [if_pos c4] at H
          have c4b0 : decide (0 ≤ x5_1) = true := decide_eq_true c4
          clear c4
          by_cases c5 : (rd l0 x5_1) = a1
          · rw [if_pos c5] at H
            have c5b0 : ((rd l0 x5_1) == a1) = true := beq_iff_eq.mpr c5
            have c5b1 : ((rd l0 x5_1) != a1) = false := bne_eq_false_iff_eq.mpr c5
            clear c5
            obtain rfl := Option.some.inj H
            have p295 : 0 ≤ (x5_1 : Int) := of_decide_eq_true (by first | (with_reducible assumption) | assumption)
            have q295 : x5_1 < (l0.length : Int) := of_decide_eq_true (by first | (with_reducible assumption) | assumption)
            obtain ⟨ad295, e295, hx295_0⟩ := Kd.at_int HR0.out x5_1 p295 q295
            cases e295
            replace p295 := eq_true p295
            replace q295 := eq_true q295
            go_wp2
            go_ret
            exact ⟨by first | rfl | (simp; done) | (simp [*]; done), by repeat (first | exact Drawn0.refl _ | apply Drawn0.step)⟩
          · rw [if_neg c5] at H
            have c5b0 : ((rd l0 x5_1) == a1) = false := beq_eq_false_iff_ne.mpr c5
            have c5b1 : ((rd l0 x5_1) != a1) = true := bne_iff_ne.mpr c5
            have H' := Aside0.mk H
            clear H
            have p295 : 0 ≤ (x5_1 : Int) := of_decide_eq_true (by first | (with_reducible assumption) | assumption)
            have q295 : x5_1 < (l0.length : Int) := of_decide_eq_true (by first | (with_reducible assumption) | assumption)
            obtain ⟨ad295, e295, hx295_0⟩ := Kd.at_int HR0.out x5_1 p295 q295
            cases e295
            replace p295 := eq_true p295
            replace q295 := eq_true q295
            go_wp2
            go_roundg k1
            case measure => have := HK1.out; omega
            case rel => exact ⟨(wrap64 (x5_1 + 1)), (by first | rfl | (simp; done) | (simp [*]; done)), H', ⟨by have := HK1.out; omega⟩, by repeat (first | exact Drawn0.refl _ | apply Drawn0.step)⟩
        · rw [if_neg c4] at H
          exact absurd H (by simp)
      · rw [if_neg c3] at H
        have c3b0 : decide (x5_1 < (l0.length : Int)) = false := decide_eq_false c3
        clear c3
        obtain rfl := Option.some.inj H
        go_wp2
        go_ret
        exact ⟨by first | rfl | (simp; done) | (simp [*]; done), by repeat (first | exact Drawn0.refl _ | apply Drawn0.step)⟩
end Go.Proofs.Ytmklpbmlgjkbiaa.PS
end
section
namespace Go.Proofs.Ytmklpbmlgjkbiaa.PS
open Go.RowKit Go.Proofs.YtmklpbmlgjkbiaaW.PrintWords Go.Proofs.YtmklpbmlgjkbiaaW.PrintLast
set_option linter.unusedVariables false
theorem rd29_at (l : List S29) (i : Nat) (h : i < l.length) : rd_T29 l (i : Int) = l[i] := by
  unfold rd_T29; simp [List.getD_eq_getElem?_getD, List.getElem?_eq_getElem h]
theorem rd25_at (l : List S25) (i : Nat) (h : i < l.length) : rd_T25 l (i : Int) = l[i] := by
  unfold rd_T25; simp [List.getD_eq_getElem?_getD, List.getElem?_eq_getElem h]
instance : DecidableEq S27 := fun a b => decidable_of_iff (a.f0 = b.f0 ∧ a.f1 = b.f1) ⟨fun ⟨h, g⟩ => by cases a; cases b; simp_all, fun h => by subst h; exact ⟨rfl, rfl⟩⟩
instance : DecidableEq S29 := fun a b => decidable_of_iff (a.f0 = b.f0 ∧ a.f1 = b.f1 ∧ a.f2 = b.f2 ∧ a.f3 = b.f3 ∧ a.f4 = b.f4) ⟨fun ⟨h, g, i, j, k⟩ => by cases a; cases b; simp_all, fun h => by subst h; exact ⟨rfl, rfl, rfl, rfl, rfl⟩⟩
theorem goes_eq (k : Int) : spec_l3Goes.f k = some (hasT k) := by
  unfold spec_l3Goes.f hasT
  by_cases h5 : k = 5
  · subst h5; rfl
  rw [if_neg h5]
  by_cases h8 : k = 8
  · subst h8; rfl
  rw [if_neg h8]
  by_cases h9 : k = 9
  · subst h9; rfl
  rw [if_neg h9]
  by_cases h10 : k = 10
  · subst h10; rfl
  have : (k == 10) = false := by simpa using h10
  rw [this]; simp [h5, h8, h9, h10]
theorem in_len (n : Nat) : spec_l6In.f (n : Int) 1 16 = some (decide (1 ≤ n ∧ n ≤ 16)) := by
  unfold spec_l6In.f
  split
  · congr 1; exact decide_eq_decide.2 (by omega)
  · congr 1; symm; exact decide_eq_false (by omega)
theorem scode_loop (l : List S29) (hm : l.length ≤ 9223372036854775807) (d : Nat) : ∀ (k i : Nat), l.length - i = d → i ≤ l.length → 2 * d < k →
    spec_CodeOk.l0 k l i = some (decide (1 ≤ l.length ∧ l.length ≤ 16) && !((l.drop i).any (wrongB l.length))) := by
  induction d with
  | zero =>
    intro k i hd hi hk
    obtain ⟨k, rfl⟩ : ∃ m, k = m + 1 := ⟨k - 1, by omega⟩
    simp only [spec_CodeOk.l0]
    rw [if_neg (by omega), List.drop_of_length_le (by omega), in_len]; simp
  | succ d ih =>
    intro k i hd hi hk
    obtain ⟨k, rfl⟩ : ∃ m, k = m + 1 := ⟨k - 1, by omega⟩
    obtain ⟨k, rfl⟩ : ∃ m, k = m + 1 := ⟨k - 1, by omega⟩
    simp only [spec_CodeOk.l0]
    have d0 : l.drop i = l[i]'(by omega) :: l.drop (i + 1) := List.drop_eq_getElem_cons (by omega)
    rw [if_pos (by omega), if_pos (by omega), rd29_at l i (by omega), d0]
    obtain ⟨x, hx⟩ : ∃ x, l[i]'(by omega) = x := ⟨_, rfl⟩
    rw [hx]
    have hw : wrongB l.length x = (!(opS x) || (hasT x.f0 && decide ((l.length : Int) ≤ x.f3))) := rfl
    have step : ∀ b : Bool, spec_CodeOk.j1 (k + 1) l i b = if b = true then some false else some (decide (1 ≤ l.length ∧ l.length ≤ 16) && !((l.drop (i + 1)).any (wrongB l.length))) := fun b => by
      simp only [spec_CodeOk.j1]
      rw [w64 (by omega) (by omega), show ((i : Int) + 1) = ((i + 1 : Nat) : Int) from by omega, ih k (i + 1) (by omega) (by omega) (by omega)]
    have ho : opV.f x.f0 x.f1 x.f2 x.f3 x.f4.f0 x.f4.f1 = some (opS x) := rfl
    rw [ho, goes_eq]
    simp only [Option.bind_some, step, List.any_cons, hw]
    cases opS x <;> cases hasT x.f0 <;> by_cases ht : (l.length : Int) ≤ x.f3 <;> simp [ht]
theorem scode_eq (l : List S29) (hm : l.length ≤ 9223372036854775807) : spec_CodeOk.f (2 * l.length + 1) l = some (codeB l) := by
  unfold spec_CodeOk.f
  exact scode_loop l hm l.length _ 0 (by omega) (by omega) (by omega)
def toS (x : S25) : S29 := ⟨x.f0, x.f1, x.f2, x.f3, ⟨x.f4.f0, x.f4.f1⟩⟩
def toOpsV.f (l : List S25) : Option (List S29) := if l.length ≤ 5864062014805 then some (l.map toS) else none
theorem toOps_loop (l : List S25) (hm : l.length ≤ 9223372036854775807) (d : Nat) : ∀ (k i : Nat) (x : List S29), x.length = l.length → l.length - i = d → i ≤ l.length → d < k →
    laws_toOpS.l0 k l x i = some (x.take i ++ (l.drop i).map toS) := by
  induction d with
  | zero =>
    intro k i x hx hd hi hk
    obtain ⟨k, rfl⟩ : ∃ m, k = m + 1 := ⟨k - 1, by omega⟩
    simp only [laws_toOpS.l0]
    rw [if_neg (by omega), List.take_of_length_le (by omega), List.drop_of_length_le (by omega)]; simp
  | succ d ih =>
    intro k i x hx hd hi hk
    obtain ⟨k, rfl⟩ : ∃ m, k = m + 1 := ⟨k - 1, by omega⟩
    simp only [laws_toOpS.l0]
    have d0 : l.drop i = l[i]'(by omega) :: l.drop (i + 1) := List.drop_eq_getElem_cons (by omega)
    rw [if_pos (by omega), if_pos (by omega), rd25_at l i (by omega), d0]
    unfold laws_toOp.f laws_toVal.f
    simp only [Option.bind_some]
    rw [if_pos (by omega), w64 (by omega) (by omega), show ((i : Int) + 1) = ((i + 1 : Nat) : Int) from by omega, Int.toNat_natCast, ih k (i + 1) _ (by simpa using hx) (by omega) (by omega) (by omega)]
    congr 1
    rw [List.take_succ_eq_append_getElem (by simp; omega), List.take_set_of_le (by omega), List.getElem_set_self, List.append_assoc]
    rfl
theorem toOps_eq (l : List S25) (hm : l.length ≤ 9223372036854775807) : laws_toOpS.f (l.length + 1) l = toOpsV.f l := by
  unfold laws_toOpS.f toOpsV.f
  rw [if_pos (by omega)]
  simp only [Int.toNat_natCast]
  by_cases h : l.length ≤ 5864062014805
  · rw [if_pos h, if_pos h]
    have := toOps_loop l hm l.length (l.length + 1) 0 (List.replicate l.length z29) (by simp) (by omega) (by omega) (by omega)
    simpa using this
  · rw [if_neg h, if_neg h]
theorem laws_toOpS_as.calls (A0 : Option Addr) (c0 : Nat) (l0 : List (S25)) (r : List (S29)) (w : World) (hr0 : Kd.C k25 w A0 l0.length l0) (hc0 : l0.length ≤ c0) (h : toOpsV.f l0 = some r) :
    Calls Try.prog 34 #[.slice A0 l0.length c0] w fun e w' => ∃ v0_ : Value, e = .returned (v0_) ∧ Kd.R k29 29 w' w.heap.size (fun _ => True) v0_ r ∧ Below w.heap.size w w' :=
  laws_toOpS.calls (l0.length + 1) A0 c0 l0 r w hr0 hc0 ((toOps_eq l0 (Kd.C_max hr0)).trans h)
def eqOpsV.f (l0 l1 : List S29) : Option Bool := some (decide (l0 = l1))
theorem eqOps_same (l : List S29) : eqOpsV.f l l = some true := by unfold eqOpsV.f; simp
theorem eqOp_eq (a b : S29) : laws_eqOp.f a.f0 a.f1 a.f2 a.f3 a.f4.f0 a.f4.f1 b.f0 b.f1 b.f2 b.f3 b.f4.f0 b.f4.f1 = some (decide (a = b)) := by
  obtain ⟨a0, a1, a2, a3, a4, a5⟩ := a
  obtain ⟨b0, b1, b2, b3, b4, b5⟩ := b
  unfold laws_eqOp.f laws_eqVal.f
  simp only []
  by_cases h0 : a0 = b0 <;> by_cases h1 : a1 = b1 <;> by_cases h2 : a2 = b2 <;> by_cases h3 : a3 = b3 <;> by_cases h4 : a4 = b4 <;> by_cases h5 : a5 = b5 <;> simp [h0, h1, h2, h3, h4, h5]
theorem eqOps_loop (l0 l1 : List S29) (hl : l0.length = l1.length) (hm : l0.length ≤ 9223372036854775807) (d : Nat) : ∀ (k i : Nat), l0.length - i = d → i ≤ l0.length → d < k →
    laws_eqOpS.l0 k l0 l1 i = some (decide (l0.drop i = l1.drop i)) := by
  induction d with
  | zero =>
    intro k i hd hi hk
    obtain ⟨k, rfl⟩ : ∃ m, k = m + 1 := ⟨k - 1, by omega⟩
    simp only [laws_eqOpS.l0]
    rw [if_neg (by omega), List.drop_of_length_le (by omega), List.drop_of_length_le (by omega)]; simp
  | succ d ih =>
    intro k i hd hi hk
    obtain ⟨k, rfl⟩ : ∃ m, k = m + 1 := ⟨k - 1, by omega⟩
    simp only [laws_eqOpS.l0]
    have d0 : l0.drop i = l0[i]'(by omega) :: l0.drop (i + 1) := List.drop_eq_getElem_cons (by omega)
    have d1 : l1.drop i = l1[i]'(by omega) :: l1.drop (i + 1) := List.drop_eq_getElem_cons (by omega)
    rw [if_pos (by omega), if_pos (by omega), if_pos (by omega), rd29_at l0 i (by omega), rd29_at l1 i (by omega), d0, d1, eqOp_eq]
    simp only [Option.bind_some]
    by_cases he : l0[i]'(by omega) = l1[i]'(by omega)
    · rw [if_pos (by simpa using he), w64 (by omega) (by omega), show ((i : Int) + 1) = ((i + 1 : Nat) : Int) from by omega, ih k (i + 1) (by omega) (by omega) (by omega), he]
      exact congrArg some (decide_eq_decide.2 ⟨fun h => by rw [h], fun h => (List.cons.inj h).2⟩)
    · rw [if_neg (by simpa using he)]
      exact congrArg some (decide_eq_false (fun h => he (List.cons.inj h).1)).symm
theorem eqOps_eq (l0 l1 : List S29) (hm : l0.length ≤ 9223372036854775807) : laws_eqOpS.f (l0.length + 1) l0 l1 = some (decide (l0 = l1)) := by
  unfold laws_eqOpS.f
  by_cases hl : l0.length = l1.length
  · rw [if_pos (by omega)]
    have := eqOps_loop l0 l1 hl hm l0.length (l0.length + 1) 0 (by omega) (by omega) (by omega)
    simpa using this
  · rw [if_neg (by omega)]
    have : l0 ≠ l1 := fun e => hl (by rw [e])
    simp [this]
theorem laws_eqOpS_as.calls (A0 : Option Addr) (c0 : Nat) (l0 : List (S29)) (A1 : Option Addr) (c1 : Nat) (l1 : List (S29)) (r : Bool) (w : World) (hr0 : Kd.C k29 w A0 l0.length l0) (hc0 : l0.length ≤ c0) (hr1 : Kd.C k29 w A1 l1.length l1) (hc1 : l1.length ≤ c1) (h : eqOpsV.f l0 l1 = some r) :
    Calls Try.prog 36 #[.slice A0 l0.length c0, .slice A1 l1.length c1] w fun e w' => e = .returned (.bool r) ∧ Below w.heap.size w w' :=
  laws_eqOpS.calls (l0.length + 1) A0 c0 l0 A1 c1 l1 r w hr0 hc0 hr1 hc1 ((eqOps_eq l0 l1 (Kd.C_max hr0)).trans h)
end Go.Proofs.Ytmklpbmlgjkbiaa.PS
end
section
namespace Go.Proofs.Ytmklpbmlgjkbiaa.PS
open Go.RowKit Go.Proofs.YtmklpbmlgjkbiaaW.PrintWords Go.Proofs.YtmklpbmlgjkbiaaW.PrintLast
set_option linter.unusedVariables false
set_option linter.unusedSimpArgs false
set_option maxRecDepth 100000
def setQ (x : S29) (q : Nat) (y : Int) : S29 :=
  match q with
  | 0 => ⟨y, x.f1, x.f2, x.f3, x.f4⟩
  | 1 => ⟨x.f0, y, x.f2, x.f3, x.f4⟩
  | 2 => ⟨x.f0, x.f1, y, x.f3, x.f4⟩
  | 3 => ⟨x.f0, x.f1, x.f2, y, x.f4⟩
  | 4 => ⟨x.f0, x.f1, x.f2, x.f3, ⟨y, x.f4.f1⟩⟩
  | _ => ⟨x.f0, x.f1, x.f2, x.f3, ⟨x.f4.f0, y⟩⟩
def cells29 (x : S29) : List Value := [.int .i64 x.f0, .int .i64 x.f1, .int .i64 x.f2, .int .i64 x.f3, .int .i64 x.f4.f0, .int .i64 x.f4.f1]
theorem store29 {ops : Array Oper} {rest : List Oper} {o : Oper} {a : Act} {Q : Exit → Act → World → Prop} {w0 W : World} (base : Nat) (hN : o.dst = none) (hgd : o.guard = none) (p x : Operand) (ho : o.op = .store 3 p x)
    {g n cap o' : Nat} (pre post : List S29) (cur : S29) (q : Nat) (hq : q < 6) (y : Int) (ok : Nat → Prop)
    (haddr : a.eval p = .pointer (some ⟨g, o', none⟩)) (hoff : o' = pre.length * 6 + q) (hx : a.eval x = .int .i64 y)
    (HO : Kd.R k29 29 W base ok (.slice (some ⟨g, 0, none⟩) n cap) (pre ++ cur :: post)) (HB : Below base w0 W)
    (h : ∀ w1, Kd.R k29 29 w1 base ok (.slice (some ⟨g, 0, none⟩) n cap) (pre ++ setQ cur q y :: post) → Below base w0 w1 → W.grownBy w1 (some g) → wpList Try.prog ops Q rest a w1) : wpList Try.prog ops Q (o :: rest) a W := by
  have hr := Kd.R_reads' HO
  have hn : n = (pre ++ cur :: post).length := hr.1
  have hj : pre.length < n := by rw [hn]; simp
  have hC := hr.2.2
  obtain ⟨ad, e, hcell⟩ := hC.2.2 (by simp; omega)
  cases e
  obtain ⟨cs, hl, hK, hcc⟩ := hcell pre.length cur (by simp)
  obtain rfl := k29_open hK
  have hset : (pre ++ cur :: post).set pre.length (setQ cur q y) = pre ++ setQ cur q y :: post := by
    rw [List.set_append_right _ _ (Nat.le_refl _), Nat.sub_self]; rfl
  refine Kd.R_store k29 base hN hgd 3 p x ho 29 (pre.length : Int) q (pre ++ cur :: post) (setQ cur q y) (.int .i64 y) [.int .i64 y] (cells29 cur) ok (fun _ => False) haddr (by rw [hoff, Int.toNat_natCast]; rfl) hx rfl (by kernel_rfl) (by simp [Value.oneCell']) HO (by omega) (by omega) rfl ?_ (by show q + 1 ≤ 6; omega) ?_ (fun k hk => hk.elim) HB ?_
  · intro j u hu
    have e : ∀ m : Nat, (⟨g, 0, none⟩ : Addr).add m = ⟨g, m, none⟩ := fun m => by
      unfold Addr.add; split
      · rename_i h; rw [h]
      · simp
    have := hcc j u hu
    rw [e] at this
    exact this
  · have e : (cells29 cur).take q ++ [Value.int .i64 y] ++ (cells29 cur).drop (q + 1) = cells29 (setQ cur q y) := by
      match q, hq with
      | 0, _ => rfl
      | 1, _ => rfl
      | 2, _ => rfl
      | 3, _ => rfl
      | 4, _ => rfl
      | 5, _ => rfl
    show k29.M W base _ _ ((cells29 cur).take q ++ [Value.int .i64 y] ++ (cells29 cur).drop (q + 1))
    rw [e]
    exact k29_mkM W base _ _
  · intro w1 h1 h2 h3
    rw [Int.toNat_natCast, hset] at h1
    exact h w1 h1 h2 h3
def markOp (k : Int) : S29 := ⟨k, wrap64 (k + 1), wrap64 (wrap64 (k + 1) + 1), wrap64 (wrap64 (wrap64 (k + 1) + 1) + 1), ⟨wrap64 (wrap64 (wrap64 (wrap64 (k + 1) + 1) + 1) + 1), wrap64 (wrap64 (wrap64 (wrap64 (wrap64 (k + 1) + 1) + 1) + 1) + 1)⟩⟩
def next6 (k : Int) : Int := wrap64 (wrap64 (wrap64 (wrap64 (wrap64 (wrap64 (k + 1) + 1) + 1) + 1) + 1) + 1)
def marksOp : Nat → Int → List S29
  | 0, _ => []
  | n + 1, k => markOp k :: marksOp n (next6 k)
def markedOp : Nat → Int → Int
  | 0, k => k
  | n + 1, k => markedOp n (next6 k)
def markV.f (l : List S29) (k : Int) : Option (Int × List S29) := some (markedOp l.length k, marksOp l.length k)
def MarkRel (w0 w : World) (base : Nat) (P0_ : Nat → Prop) (v : Value) (n : Nat) (r1 : Int) (r2 : List S29) (pre post : List S29) (x : Int) (wr : World) : Prop :=
  pre.length + post.length = n ∧ markedOp post.length x = r1 ∧ pre ++ marksOp post.length x = r2 ∧ Kd.R k29 29 wr base (fun k_ => (P0_ k_ ∨ w.heap.size ≤ k_)) v (pre ++ post) ∧ Below base w0 wr ∧ Kept w wr (fun k_ => P0_ k_)
set_option maxHeartbeats 8000000 in
theorem laws_markOpS.calls (P0_ : Nat → Prop) (u9000_ : Value) (l0 : List S29) (a1 : Int) (r1 : Int) (r2 : List S29) (w0 w : World) (hB : Below w0.heap.size w0 w) (ho0 : Kd.R k29 29 w w0.heap.size P0_ u9000_ l0) (h : markV.f l0 a1 = some (r1, r2)) :
    Calls Try.prog 40 #[u9000_, .int .i64 a1] w fun e w' => e = .returned (.int .i64 r1) ∧ Kd.R k29 29 w' w0.heap.size (fun k_ => (P0_ k_ ∨ w.heap.size ≤ k_)) u9000_ r2 ∧ Below w0.heap.size w0 w' ∧ Kept w w' (fun k_ => P0_ k_) := by
  have hm : l0.length ≤ 9223372036854775807 := by obtain ⟨A, c, _, _, hC⟩ := Kd.R_reads ho0; exact Kd.C_max hC
  have h := Option.some.inj h
  have e1 : markedOp l0.length a1 = r1 := (Prod.mk.inj h).1
  have e2 : marksOp l0.length a1 = r2 := (Prod.mk.inj h).2
  have HR : Aside0 (MarkRel w0 w w0.heap.size P0_ u9000_ l0.length r1 r2 [] l0 a1 w) := ⟨by simp, e1, e2, Kd.R_mono ho0 (fun _ hk => .inl hk), hB, Kept.refl w _⟩
  have hP := fun g (hg : u9000_.ownBlock = some g) => ho0.1 g hg
  obtain ⟨A, c, ev⟩ := Kd.R_slice ho0
  obtain ⟨n, hn⟩ : ∃ n, n = l0.length := ⟨_, rfl⟩
  have hform : 0 < n → ∃ g, A = some ⟨g, 0, none⟩ := fun hp => by
    obtain ⟨g, cap, e, _⟩ := Kd.R_form ho0 (by omega)
    rw [ev] at e
    injection e with e
    exact ⟨g, e⟩
  rw [← hn] at HR hm ev
  have HP : Aside0 (∀ g, u9000_.ownBlock = some g → P0_ g) := ⟨hP⟩
  have HL : Aside0 (n = l0.length) := ⟨hn⟩
  clear hP hn h e1 e2 ho0
  subst ev
  rcases Nat.eq_zero_or_pos n with hz | hz
  · subst hz
    obtain ⟨k1, k2, k3, k4, k5, k6⟩ := HR.out
    have hl : l0 = [] := List.length_eq_zero_iff.1 HL.out.symm
    subst hl
    have F := Aside0.mk (⟨k2, k3, k4, k5, k6⟩ : _ ∧ _ ∧ _ ∧ _ ∧ _)
    clear k1 k2 k3 k4 k5 k6 HR HL hB
    go_enter Try.func40, Try.ntmps40
    go_wp2
    go_loopg [1, 5] 0 (fun gg s1 s5 wr => s1 = .int .i64 a1 ∧ s5 = .int .i64 0 ∧ wr = w)
    case atStart => exact ⟨rfl, rfl, rfl⟩
    case round =>
      obtain ⟨rfl, rfl, rfl⟩ := hrel
      go_wp2
      go_ret
      obtain ⟨k2, k3, k4, k5, k6⟩ := F.out
      exact ⟨by rw [← k2]; rfl, by rw [← k3]; exact k4, k5, k6⟩
  · obtain ⟨g, rfl⟩ := hform hz
    clear hform hB
    go_enter Try.func40, Try.ntmps40
    go_wp2
    go_loopg [1, 5] n (fun gg s1 s5 wr => ∃ (pre post : List S29) (x : Int), s1 = .int .i64 x ∧ s5 = .int .i64 (pre.length : Int) ∧ post.length ≤ gg ∧ Aside0 (MarkRel w0 w w0.heap.size P0_ (.slice (some ⟨g, 0, none⟩) n c) n r1 r2 pre post x wr))
    case atStart => exact ⟨[], l0, a1, rfl, rfl, by rw [HL.out]; exact Nat.le_refl _, HR⟩
    case round =>
      clear HR HL
      obtain ⟨pre, post, x, rfl, rfl, hgg, R⟩ := hrel
      cases post with
      | nil =>
        have hlt : ¬ ((pre.length : Int) < (n : Int)) := by have := R.out.1; simp at this; omega
        go_wp2
        go_ret
        obtain ⟨k1, k2, k3, k4, k5, k6⟩ := R.out
        exact ⟨by rw [← k2]; rfl, by rw [← k3]; exact k4, k5, k6⟩
      | cons cur post =>
        have hlt : ((pre.length : Int) < (n : Int)) := by have := R.out.1; simp at this; omega
        have hj0 : (0 : Int) ≤ (pre.length : Int) := by omega
        have hgg : post.length + 1 ≤ gk := by simpa using hgg
        obtain ⟨j, hj⟩ : ∃ j, j = pre.length := ⟨_, rfl⟩
        rw [← hj] at hlt hj0 ⊢
        have HJ := Aside0.mk hj
        clear hj
        obtain ⟨R1, R2, R3, R4, R5, R6⟩ := R.out
        have H0 := Aside0.mk R4
        have B0 := Aside0.mk R5
        have G0 := Aside0.mk R6
        have F1 := Aside0.mk R1
        have F2 := Aside0.mk R2
        have F3 := Aside0.mk R3
        clear R R1 R2 R3 R4 R5 R6
        go_wp2_with (first | ((with_reducible refine gate_store (t := 3) (p := 16) rfl ?_); refine store29 w0.heap.size rfl rfl (.tmp 16) (.tmp 14) rfl pre post cur 0 (by omega) _ _ rfl (by first | rfl | (simp [HJ.out]; done) | (simp [HJ.out]; omega)) rfl H0.out B0.out ?_; intro w1 h_ b_ g_; have H1 := Aside0.mk h_; have B1 := Aside0.mk b_; have G1 := Aside0.mk (Kept.of_grown (S := (fun k_ => P0_ k_)) g_ G0.out (fun k_ e_ => .inl (HP.out k_ (by rw [← e_]; rfl)))); clear h_ b_ g_) | ((with_reducible refine gate_store (t := 3) (p := 23) rfl ?_); refine store29 w0.heap.size rfl rfl (.tmp 23) (.tmp 21) rfl pre post (setQ cur 0 (x)) 1 (by omega) _ _ rfl (by first | rfl | (simp [HJ.out]; done) | (simp [HJ.out]; omega)) rfl H1.out B1.out ?_; intro w2 h_ b_ g_; have H2 := Aside0.mk h_; have B2 := Aside0.mk b_; have G2 := Aside0.mk (Kept.of_grown (S := (fun k_ => P0_ k_)) g_ G1.out (fun k_ e_ => .inl (HP.out k_ (by rw [← e_]; rfl)))); clear h_ b_ g_) | ((with_reducible refine gate_store (t := 3) (p := 30) rfl ?_); refine store29 w0.heap.size rfl rfl (.tmp 30) (.tmp 28) rfl pre post (setQ (setQ cur 0 (x)) 1 (wrap64 (x + 1))) 2 (by omega) _ _ rfl (by first | rfl | (simp [HJ.out]; done) | (simp [HJ.out]; omega)) rfl H2.out B2.out ?_; intro w3 h_ b_ g_; have H3 := Aside0.mk h_; have B3 := Aside0.mk b_; have G3 := Aside0.mk (Kept.of_grown (S := (fun k_ => P0_ k_)) g_ G2.out (fun k_ e_ => .inl (HP.out k_ (by rw [← e_]; rfl)))); clear h_ b_ g_) | ((with_reducible refine gate_store (t := 3) (p := 37) rfl ?_); refine store29 w0.heap.size rfl rfl (.tmp 37) (.tmp 35) rfl pre post (setQ (setQ (setQ cur 0 (x)) 1 (wrap64 (x + 1))) 2 (wrap64 (wrap64 (x + 1) + 1))) 3 (by omega) _ _ rfl (by first | rfl | (simp [HJ.out]; done) | (simp [HJ.out]; omega)) rfl H3.out B3.out ?_; intro w4 h_ b_ g_; have H4 := Aside0.mk h_; have B4 := Aside0.mk b_; have G4 := Aside0.mk (Kept.of_grown (S := (fun k_ => P0_ k_)) g_ G3.out (fun k_ e_ => .inl (HP.out k_ (by rw [← e_]; rfl)))); clear h_ b_ g_) | ((with_reducible refine gate_store (t := 3) (p := 45) rfl ?_); refine store29 w0.heap.size rfl rfl (.tmp 45) (.tmp 42) rfl pre post (setQ (setQ (setQ (setQ cur 0 (x)) 1 (wrap64 (x + 1))) 2 (wrap64 (wrap64 (x + 1) + 1))) 3 (wrap64 (wrap64 (wrap64 (x + 1) + 1) + 1))) 4 (by omega) _ _ rfl (by first | rfl | (simp [HJ.out]; done) | (simp [HJ.out]; omega)) rfl H4.out B4.out ?_; intro w5 h_ b_ g_; have H5 := Aside0.mk h_; have B5 := Aside0.mk b_; have G5 := Aside0.mk (Kept.of_grown (S := (fun k_ => P0_ k_)) g_ G4.out (fun k_ e_ => .inl (HP.out k_ (by rw [← e_]; rfl)))); clear h_ b_ g_) | ((with_reducible refine gate_store (t := 3) (p := 53) rfl ?_); refine store29 w0.heap.size rfl rfl (.tmp 53) (.tmp 50) rfl pre post (setQ (setQ (setQ (setQ (setQ cur 0 (x)) 1 (wrap64 (x + 1))) 2 (wrap64 (wrap64 (x + 1) + 1))) 3 (wrap64 (wrap64 (wrap64 (x + 1) + 1) + 1))) 4 (wrap64 (wrap64 (wrap64 (wrap64 (x + 1) + 1) + 1) + 1))) 5 (by omega) _ _ rfl (by first | rfl | (simp [HJ.out]; done) | (simp [HJ.out]; omega)) rfl H5.out B5.out ?_; intro w6 h_ b_ g_; have H6 := Aside0.mk h_; have B6 := Aside0.mk b_; have G6 := Aside0.mk (Kept.of_grown (S := (fun k_ => P0_ k_)) g_ G5.out (fun k_ e_ => .inl (HP.out k_ (by rw [← e_]; rfl)))); clear h_ b_ g_))
        go_roundg post.length
        case measure => omega
        case rel =>
          have hf2 := F2.out
          have hf3 := F3.out
          have hf1 := F1.out
          refine ⟨pre ++ [markOp x], post, next6 x, rfl, by simp [HJ.out], Nat.le_refl _, ⟨by simp at hf1 ⊢; omega, hf2, by rw [← hf3, List.append_assoc]; rfl, ?_, B6.out, G6.out⟩⟩
          have := H6.out
          rw [List.append_assoc]
          exact this
end Go.Proofs.Ytmklpbmlgjkbiaa.PS
end
section
namespace Go.Proofs.Ytmklpbmlgjkbiaa.PS
open Go.RowKit Go.Proofs.YtmklpbmlgjkbiaaW.PrintWords Go.Proofs.YtmklpbmlgjkbiaaW.PrintLast
set_option linter.unusedVariables false
set_option linter.unusedSimpArgs false
set_option maxRecDepth 100000
inductive Fl where
  | same | fill | one
def Fl.val (B : Nat) : Fl → Value
  | .same => .func (.func 94) #[] #[]
  | .fill => .func (.func 95) #[] #[.pointer (some ⟨B, 0, none⟩)]
  | .one => .func (.func 96) #[] #[]
def arrowsL (n : Nat) (i k t : Int) : List (Int × Fl) :=
  (if k = 9 ∨ k = 14 then [] else if i + 1 < n then [(i + 1, if (howR k).f3 = true then .fill else .same)] else []) ++
  (if k = 5 then [(t, .one)] else if hasT k = true then [(t, .same)] else [])
def arrowCells (B : Nat) (l : List (Int × Fl)) : List Value := l.flatMap fun a => [.int .i64 a.1, a.2.val B]
theorem info77 : (Try.prog.info? 77).map (fun i => (i.zero, i.size, i.bytes)) = some (some (.agg #[.int .i64 0, .nilFunc]), 2, 16) := by kernel_rfl
theorem cell_two_new (w : World) (x y : Value) (t : TypeId) : ∀ j u, [x, y][j]? = some u → (w.alloc (.cells #[x, y] t)).cell? ((⟨w.heap.size, 0, none⟩ : Addr).add j) = some u := by
  intro j u h
  have h1 := blk_new w (.cells #[x, y] t)
  match j, h with
  | 0, h => exact (blk_cell h1 0).trans (by simpa using h)
  | 1, h => exact (blk_cell h1 1).trans (by simpa using h)
theorem cell_two_at (w : World) (b : Nat) (x y : Value) (t : TypeId) (hb : b = w.heap.size) : ∀ j u, [x, y][j]? = some u → (w.alloc (.cells #[x, y] t)).cell? ((⟨b, 0, none⟩ : Addr).add j) = some u := by
  subst hb; exact cell_two_new w x y t
theorem own_below {w W : World} {base : Nat} {e : TypeId} {size n : Nat} {v : Value} {xs : List Value} (h : w.ownsRow base e size v n xs) (hb : Below w.heap.size w W) : W.ownsRow base e size v n xs :=
  own_move h fun k hk => by obtain ⟨c, hc⟩ := own_typed h k hk; exact hb.block k (blk_lt hc)
theorem arr_step {w W w1 : World} {C o : Obj} {v : Value} {n : Nat} {xs : List Value} (BK : W.heap[w.heap.size]? = some C) (HB : Below w.heap.size w W) (hown : W.ownsRow (w.heap.size + 1) 77 2 v n xs)
    (hgrow : (W.alloc o).grownBy w1 v.ownBlock) : w1.heap[w.heap.size]? = some C ∧ Below w.heap.size w w1 :=
  ⟨blk_grown (blk_alloc BK _) hgrow (fun e => by have := own_base hown w.heap.size e.symm; omega),
   (below_alloc HB _).grown hgrow (below_alloc HB _).size (fun b hb => by have := own_base hown b hb; omega)⟩
set_option maxHeartbeats 8000000 in
theorem arrows_walk (A0 : Option Addr) (c0 n : Nat) (ad : Addr) (i : Nat) (hi : i < n) (hn : n ≤ 16) (hA : A0 = some ad) (k r s t vk vn : Int) (w : World) (bf bt : Bool) (x : S66) (hx : Aside0 (x = howR k)) (hbt : Aside0 (bt = hasT k))
    (x0 : w.cell? (ad.add (i * 6)) = some (.int .i64 k)) (x1 : w.cell? ⟨(ad.add (i * 6)).block, (ad.add (i * 6)).off + 1, none⟩ = some (.int .i64 r)) (x2 : w.cell? ⟨(ad.add (i * 6)).block, (ad.add (i * 6)).off + 2, none⟩ = some (.int .i64 s))
    (x3 : w.cell? ⟨(ad.add (i * 6)).block, (ad.add (i * 6)).off + 3, none⟩ = some (.int .i64 t)) (x4 : w.cell? ⟨(ad.add (i * 6)).block, (ad.add (i * 6)).off + 4, none⟩ = some (.int .i64 vk)) (x5 : w.cell? ⟨(ad.add (i * 6)).block, (ad.add (i * 6)).off + 5, none⟩ = some (.int .i64 vn))
    (hN : (k = 9 ∧ bt = true) ∨ (k = 14 ∧ bt = false) ∨ ((k == 9) = false ∧ (k == 14) = false)) (hf : x.f3 = bf) (L : List (Int × Fl)) (hL : Aside0 (L = arrowsL n i k t)) :
    Calls Try.prog 77 #[.slice A0 n c0, .int .i64 i] w fun e w' => ∃ v, e = .returned v ∧ w'.ownsRow (w.heap.size + 1) 77 2 v L.length (arrowCells w.heap.size L) ∧ w'.heap[w.heap.size]? = some (.cells #[.int .i64 k, .int .i64 r, .int .i64 s, .int .i64 t, .int .i64 vk, .int .i64 vn] 29 (0, 0)) ∧ Below w.heap.size w w' := by
  subst hA
  have hi0 : (0 : Int) ≤ (i : Int) := by omega
  have hi1 : (i : Int) < (n : Int) := by omega
  have hHow := fun W : World => impl_Op_how.calls k r s t vk vn x.f0 x.f1 x.f2 bf W (by rw [← hf, hx.out]; rfl)
  have hHas := fun W : World => has_any k r s t vk vn 84 W
  rw [hasC_T, ← hbt.out] at hHas
  have hfd : ∀ (a b c d : Value) (W : World), Sem.run Try.prog (Instr.field 66 (.agg #[a, b, c, d]) 3) W = .ok d W := fun _ _ _ _ _ => by kernel_rfl
  obtain ⟨i0, hi_, hz0, hz1, hz2⟩ := info_parts info77
  have BK : Aside0 ((w.alloc (.cells #[.int .i64 k, .int .i64 r, .int .i64 s, .int .i64 t, .int .i64 vk, .int .i64 vn] 29)).heap[w.heap.size]? = some (.cells #[.int .i64 k, .int .i64 r, .int .i64 s, .int .i64 t, .int .i64 vk, .int .i64 vn] 29 (0, 0))) := ⟨blk_new _ _⟩
  have HB := Aside0.mk (below_alloc (Below.refl w.heap.size w) (.cells #[.int .i64 k, .int .i64 r, .int .i64 s, .int .i64 t, .int .i64 vk, .int .i64 vn] 29))
  rcases hN with ⟨rfl, rfl⟩ | ⟨rfl, rfl⟩ | ⟨h9, h14⟩
  · have eL : L = [(t, .same)] := by rw [hL.out]; unfold arrowsL; rw [if_pos (.inl rfl), if_neg (by decide), if_pos hbt.out.symm]; rfl
    subst eL
    go_enter Try.func77, Try.ntmps77
    go_wp2_with (first | (go_at_call 64; refine (hHas _).mono ?_; rintro e w'2 ⟨rfl, hb⟩; have BK1 := Aside0.mk (blk_below BK.out hb); have HB1 := Aside0.mk (below_step HB.out hb); clear BK HB hb; have BK := BK1; have HB := HB1; clear BK1 HB1; obtain ⟨q0, q1, q2, q3, q4, q5⟩ : w'2.cell? ⟨w.heap.size, 0, none⟩ = some (.int .i64 9) ∧ w'2.cell? ⟨w.heap.size, 1, none⟩ = some (.int .i64 r) ∧ w'2.cell? ⟨w.heap.size, 2, none⟩ = some (.int .i64 s) ∧ w'2.cell? ⟨w.heap.size, 3, none⟩ = some (.int .i64 t) ∧ w'2.cell? ⟨w.heap.size, 4, none⟩ = some (.int .i64 vk) ∧ w'2.cell? ⟨w.heap.size, 5, none⟩ = some (.int .i64 vn) := ⟨(blk_cell BK.out 0).trans rfl, (blk_cell BK.out 1).trans rfl, (blk_cell BK.out 2).trans rfl, (blk_cell BK.out 3).trans rfl, (blk_cell BK.out 4).trans rfl, (blk_cell BK.out 5).trans rfl⟩) | (at_builtin; refine wpList_append_own _ rfl _ _ 74 rfl (w.heap.size + 1) 77 i0 (.agg #[.int .i64 0, .nilFunc]) 2 16 Try.underlying74 hi_ hz0 hz1 hz2 rfl (by decide) _ _ _ rfl (World.ownsRow_nil _ _ _ _) ⟨_, 0, none⟩ 1 1 [.int .i64 t, .func (.func 94) #[] #[]] rfl rfl (cell_two_at _ _ _ _ _ (by simp)) (by simp [Value.oneCell']) (by unfold maxLen; omega) (by omega) ?hb ?_; (case hb => have := blk_lt BK.out; first | (simp; omega) | simp); intro v' w1 hown' hgrow _; obtain ⟨BK1, HB1⟩ := arr_step BK.out HB.out (World.ownsRow_nil _ _ _ _) hgrow; have HO := Aside0.mk hown'; clear BK HB hown' hgrow; have BK := Aside0.mk BK1; have HB := Aside0.mk HB1; clear BK1 HB1; obtain ⟨q0, q1, q2, q3, q4, q5⟩ : w1.cell? ⟨w.heap.size, 0, none⟩ = some (.int .i64 9) ∧ w1.cell? ⟨w.heap.size, 1, none⟩ = some (.int .i64 r) ∧ w1.cell? ⟨w.heap.size, 2, none⟩ = some (.int .i64 s) ∧ w1.cell? ⟨w.heap.size, 3, none⟩ = some (.int .i64 t) ∧ w1.cell? ⟨w.heap.size, 4, none⟩ = some (.int .i64 vk) ∧ w1.cell? ⟨w.heap.size, 5, none⟩ = some (.int .i64 vn) := ⟨(blk_cell BK.out 0).trans rfl, (blk_cell BK.out 1).trans rfl, (blk_cell BK.out 2).trans rfl, (blk_cell BK.out 3).trans rfl, (blk_cell BK.out 4).trans rfl, (blk_cell BK.out 5).trans rfl⟩))
    all_goals go_ret
    all_goals exact ⟨_, rfl, HO.out, BK.out, HB.out⟩
  · have eL : L = [] := by rw [hL.out]; unfold arrowsL; rw [if_pos (.inr rfl), if_neg (by decide), if_neg (by rw [← hbt.out]; decide)]; rfl
    subst eL
    go_enter Try.func77, Try.ntmps77
    go_wp2_with (first | (go_at_call 64; refine (hHas _).mono ?_; rintro e w'2 ⟨rfl, hb⟩; have BK1 := Aside0.mk (blk_below BK.out hb); have HB1 := Aside0.mk (below_step HB.out hb); clear BK HB hb; have BK := BK1; have HB := HB1; clear BK1 HB1; obtain ⟨q0, q1, q2, q3, q4, q5⟩ : w'2.cell? ⟨w.heap.size, 0, none⟩ = some (.int .i64 14) ∧ w'2.cell? ⟨w.heap.size, 1, none⟩ = some (.int .i64 r) ∧ w'2.cell? ⟨w.heap.size, 2, none⟩ = some (.int .i64 s) ∧ w'2.cell? ⟨w.heap.size, 3, none⟩ = some (.int .i64 t) ∧ w'2.cell? ⟨w.heap.size, 4, none⟩ = some (.int .i64 vk) ∧ w'2.cell? ⟨w.heap.size, 5, none⟩ = some (.int .i64 vn) := ⟨(blk_cell BK.out 0).trans rfl, (blk_cell BK.out 1).trans rfl, (blk_cell BK.out 2).trans rfl, (blk_cell BK.out 3).trans rfl, (blk_cell BK.out 4).trans rfl, (blk_cell BK.out 5).trans rfl⟩))
    all_goals go_ret
    all_goals exact ⟨_, rfl, World.ownsRow_nil _ _ _ _, BK.out, HB.out⟩
  · have n9 : ¬ (k = 9 ∨ k = 14) := by simp at h9 h14; omega
    have m9 : (k != 9) = true := by simp [bne, h9]
    have m14 : (k != 14) = true := by simp [bne, h14]
    by_cases nx : (i : Int) + 1 < n
    · have dx : decide ((i : Int) + 1 < (n : Int)) = true := decide_eq_true nx
      cases bf
      · by_cases h5 : k = 5
        · subst h5
          have eL : L = [((i : Int) + 1, .same)] ++ [(t, .one)] := by rw [hL.out]; unfold arrowsL; rw [if_neg n9, if_pos nx, if_neg (by rw [← hx.out, hf]; decide), if_pos rfl] <;> rfl
          subst eL
          go_enter Try.func77, Try.ntmps77
          go_wp2_with (first | (go_at_call 67; refine (hHow _).mono ?_; rintro e w'4 ⟨rfl, hb⟩; have BK1 := Aside0.mk (blk_below BK.out hb); have HB1 := Aside0.mk (below_step HB.out hb); clear BK HB hb; have BK := BK1; have HB := HB1; clear BK1 HB1; obtain ⟨q0, q1, q2, q3, q4, q5⟩ : w'4.cell? ⟨w.heap.size, 0, none⟩ = some (.int .i64 5) ∧ w'4.cell? ⟨w.heap.size, 1, none⟩ = some (.int .i64 r) ∧ w'4.cell? ⟨w.heap.size, 2, none⟩ = some (.int .i64 s) ∧ w'4.cell? ⟨w.heap.size, 3, none⟩ = some (.int .i64 t) ∧ w'4.cell? ⟨w.heap.size, 4, none⟩ = some (.int .i64 vk) ∧ w'4.cell? ⟨w.heap.size, 5, none⟩ = some (.int .i64 vn) := ⟨(blk_cell BK.out 0).trans rfl, (blk_cell BK.out 1).trans rfl, (blk_cell BK.out 2).trans rfl, (blk_cell BK.out 3).trans rfl, (blk_cell BK.out 4).trans rfl, (blk_cell BK.out 5).trans rfl⟩) | (at_builtin; refine wpList_append_own _ rfl _ _ 74 rfl (w.heap.size + 1) 77 i0 (.agg #[.int .i64 0, .nilFunc]) 2 16 Try.underlying74 hi_ hz0 hz1 hz2 rfl (by decide) _ _ _ rfl (World.ownsRow_nil _ _ _ _) ⟨_, 0, none⟩ 1 1 [.int .i64 ((i : Int) + 1), .func (.func 94) #[] #[]] rfl rfl (cell_two_at _ _ _ _ _ (by simp)) (by simp [Value.oneCell']) (by unfold maxLen; omega) (by omega) ?hb ?_; (case hb => have := blk_lt BK.out; first | (simp; omega) | simp); intro v'w1 w1 hown' hgrow _; obtain ⟨BK1, HB1⟩ := arr_step BK.out HB.out (World.ownsRow_nil _ _ _ _) hgrow; have HO := Aside0.mk hown'; clear BK HB hown' hgrow; have BK := Aside0.mk BK1; have HB := Aside0.mk HB1; clear BK1 HB1; obtain ⟨q0, q1, q2, q3, q4, q5⟩ : w1.cell? ⟨w.heap.size, 0, none⟩ = some (.int .i64 5) ∧ w1.cell? ⟨w.heap.size, 1, none⟩ = some (.int .i64 r) ∧ w1.cell? ⟨w.heap.size, 2, none⟩ = some (.int .i64 s) ∧ w1.cell? ⟨w.heap.size, 3, none⟩ = some (.int .i64 t) ∧ w1.cell? ⟨w.heap.size, 4, none⟩ = some (.int .i64 vk) ∧ w1.cell? ⟨w.heap.size, 5, none⟩ = some (.int .i64 vn) := ⟨(blk_cell BK.out 0).trans rfl, (blk_cell BK.out 1).trans rfl, (blk_cell BK.out 2).trans rfl, (blk_cell BK.out 3).trans rfl, (blk_cell BK.out 4).trans rfl, (blk_cell BK.out 5).trans rfl⟩) | (at_builtin; refine wpList_append_own _ rfl _ _ 74 rfl (w.heap.size + 1) 77 i0 (.agg #[.int .i64 0, .nilFunc]) 2 16 Try.underlying74 hi_ hz0 hz1 hz2 rfl (by decide) _ _ _ rfl (HO.out.alloc _) ⟨_, 0, none⟩ 1 1 [.int .i64 t, .func (.func 96) #[] #[]] rfl rfl (cell_two_at _ _ _ _ _ (by simp)) (by simp [Value.oneCell']) (by unfold maxLen; omega) (by omega) ?hb ?_; (case hb => have := blk_lt BK.out; first | (simp; omega) | simp); intro v'w2 w2 hown' hgrow _; obtain ⟨BK1, HB1⟩ := arr_step BK.out HB.out HO.out hgrow; clear HO; have HO := Aside0.mk hown'; clear BK HB hown' hgrow; have BK := Aside0.mk BK1; have HB := Aside0.mk HB1; clear BK1 HB1; obtain ⟨q0, q1, q2, q3, q4, q5⟩ : w2.cell? ⟨w.heap.size, 0, none⟩ = some (.int .i64 5) ∧ w2.cell? ⟨w.heap.size, 1, none⟩ = some (.int .i64 r) ∧ w2.cell? ⟨w.heap.size, 2, none⟩ = some (.int .i64 s) ∧ w2.cell? ⟨w.heap.size, 3, none⟩ = some (.int .i64 t) ∧ w2.cell? ⟨w.heap.size, 4, none⟩ = some (.int .i64 vk) ∧ w2.cell? ⟨w.heap.size, 5, none⟩ = some (.int .i64 vn) := ⟨(blk_cell BK.out 0).trans rfl, (blk_cell BK.out 1).trans rfl, (blk_cell BK.out 2).trans rfl, (blk_cell BK.out 3).trans rfl, (blk_cell BK.out 4).trans rfl, (blk_cell BK.out 5).trans rfl⟩))
          all_goals go_ret
          all_goals exact ⟨_, rfl, HO.out, BK.out, HB.out⟩
        · have b5 : (k == 5) = false := by simpa using h5
          cases bt
          · have eL : L = [((i : Int) + 1, .same)] ++ [] := by rw [hL.out]; unfold arrowsL; rw [if_neg n9, if_pos nx, if_neg (by rw [← hx.out, hf]; decide), if_neg h5, if_neg (by rw [← hbt.out]; decide)] <;> rfl
            subst eL
            go_enter Try.func77, Try.ntmps77
            go_wp2_with (first | (go_at_call 67; refine (hHow _).mono ?_; rintro e w'4 ⟨rfl, hb⟩; have BK1 := Aside0.mk (blk_below BK.out hb); have HB1 := Aside0.mk (below_step HB.out hb); clear BK HB hb; have BK := BK1; have HB := HB1; clear BK1 HB1; obtain ⟨q0, q1, q2, q3, q4, q5⟩ : w'4.cell? ⟨w.heap.size, 0, none⟩ = some (.int .i64 k) ∧ w'4.cell? ⟨w.heap.size, 1, none⟩ = some (.int .i64 r) ∧ w'4.cell? ⟨w.heap.size, 2, none⟩ = some (.int .i64 s) ∧ w'4.cell? ⟨w.heap.size, 3, none⟩ = some (.int .i64 t) ∧ w'4.cell? ⟨w.heap.size, 4, none⟩ = some (.int .i64 vk) ∧ w'4.cell? ⟨w.heap.size, 5, none⟩ = some (.int .i64 vn) := ⟨(blk_cell BK.out 0).trans rfl, (blk_cell BK.out 1).trans rfl, (blk_cell BK.out 2).trans rfl, (blk_cell BK.out 3).trans rfl, (blk_cell BK.out 4).trans rfl, (blk_cell BK.out 5).trans rfl⟩) | (at_builtin; refine wpList_append_own _ rfl _ _ 74 rfl (w.heap.size + 1) 77 i0 (.agg #[.int .i64 0, .nilFunc]) 2 16 Try.underlying74 hi_ hz0 hz1 hz2 rfl (by decide) _ _ _ rfl (World.ownsRow_nil _ _ _ _) ⟨_, 0, none⟩ 1 1 [.int .i64 ((i : Int) + 1), .func (.func 94) #[] #[]] rfl rfl (cell_two_at _ _ _ _ _ (by simp)) (by simp [Value.oneCell']) (by unfold maxLen; omega) (by omega) ?hb ?_; (case hb => have := blk_lt BK.out; first | (simp; omega) | simp); intro v'w1 w1 hown' hgrow _; obtain ⟨BK1, HB1⟩ := arr_step BK.out HB.out (World.ownsRow_nil _ _ _ _) hgrow; have HO := Aside0.mk hown'; clear BK HB hown' hgrow; have BK := Aside0.mk BK1; have HB := Aside0.mk HB1; clear BK1 HB1; obtain ⟨q0, q1, q2, q3, q4, q5⟩ : w1.cell? ⟨w.heap.size, 0, none⟩ = some (.int .i64 k) ∧ w1.cell? ⟨w.heap.size, 1, none⟩ = some (.int .i64 r) ∧ w1.cell? ⟨w.heap.size, 2, none⟩ = some (.int .i64 s) ∧ w1.cell? ⟨w.heap.size, 3, none⟩ = some (.int .i64 t) ∧ w1.cell? ⟨w.heap.size, 4, none⟩ = some (.int .i64 vk) ∧ w1.cell? ⟨w.heap.size, 5, none⟩ = some (.int .i64 vn) := ⟨(blk_cell BK.out 0).trans rfl, (blk_cell BK.out 1).trans rfl, (blk_cell BK.out 2).trans rfl, (blk_cell BK.out 3).trans rfl, (blk_cell BK.out 4).trans rfl, (blk_cell BK.out 5).trans rfl⟩) | (go_at_call 64; refine (hHas _).mono ?_; rintro e w'2 ⟨rfl, hb⟩; have BK1 := Aside0.mk (blk_below BK.out hb); have HB1 := Aside0.mk (below_step HB.out hb); have HO1 := Aside0.mk (own_below HO.out hb); clear HO; have HO := HO1; clear HO1; clear BK HB hb; have BK := BK1; have HB := HB1; clear BK1 HB1; obtain ⟨q0, q1, q2, q3, q4, q5⟩ : w'2.cell? ⟨w.heap.size, 0, none⟩ = some (.int .i64 k) ∧ w'2.cell? ⟨w.heap.size, 1, none⟩ = some (.int .i64 r) ∧ w'2.cell? ⟨w.heap.size, 2, none⟩ = some (.int .i64 s) ∧ w'2.cell? ⟨w.heap.size, 3, none⟩ = some (.int .i64 t) ∧ w'2.cell? ⟨w.heap.size, 4, none⟩ = some (.int .i64 vk) ∧ w'2.cell? ⟨w.heap.size, 5, none⟩ = some (.int .i64 vn) := ⟨(blk_cell BK.out 0).trans rfl, (blk_cell BK.out 1).trans rfl, (blk_cell BK.out 2).trans rfl, (blk_cell BK.out 3).trans rfl, (blk_cell BK.out 4).trans rfl, (blk_cell BK.out 5).trans rfl⟩))
            all_goals go_ret
            all_goals exact ⟨_, rfl, HO.out, BK.out, HB.out⟩
          · have eL : L = [((i : Int) + 1, .same)] ++ [(t, .same)] := by rw [hL.out]; unfold arrowsL; rw [if_neg n9, if_pos nx, if_neg (by rw [← hx.out, hf]; decide), if_neg h5, if_pos hbt.out.symm] <;> rfl
            subst eL
            go_enter Try.func77, Try.ntmps77
            go_wp2_with (first | (go_at_call 67; refine (hHow _).mono ?_; rintro e w'4 ⟨rfl, hb⟩; have BK1 := Aside0.mk (blk_below BK.out hb); have HB1 := Aside0.mk (below_step HB.out hb); clear BK HB hb; have BK := BK1; have HB := HB1; clear BK1 HB1; obtain ⟨q0, q1, q2, q3, q4, q5⟩ : w'4.cell? ⟨w.heap.size, 0, none⟩ = some (.int .i64 k) ∧ w'4.cell? ⟨w.heap.size, 1, none⟩ = some (.int .i64 r) ∧ w'4.cell? ⟨w.heap.size, 2, none⟩ = some (.int .i64 s) ∧ w'4.cell? ⟨w.heap.size, 3, none⟩ = some (.int .i64 t) ∧ w'4.cell? ⟨w.heap.size, 4, none⟩ = some (.int .i64 vk) ∧ w'4.cell? ⟨w.heap.size, 5, none⟩ = some (.int .i64 vn) := ⟨(blk_cell BK.out 0).trans rfl, (blk_cell BK.out 1).trans rfl, (blk_cell BK.out 2).trans rfl, (blk_cell BK.out 3).trans rfl, (blk_cell BK.out 4).trans rfl, (blk_cell BK.out 5).trans rfl⟩) | (at_builtin; refine wpList_append_own _ rfl _ _ 74 rfl (w.heap.size + 1) 77 i0 (.agg #[.int .i64 0, .nilFunc]) 2 16 Try.underlying74 hi_ hz0 hz1 hz2 rfl (by decide) _ _ _ rfl (World.ownsRow_nil _ _ _ _) ⟨_, 0, none⟩ 1 1 [.int .i64 ((i : Int) + 1), .func (.func 94) #[] #[]] rfl rfl (cell_two_at _ _ _ _ _ (by simp)) (by simp [Value.oneCell']) (by unfold maxLen; omega) (by omega) ?hb ?_; (case hb => have := blk_lt BK.out; first | (simp; omega) | simp); intro v'w1 w1 hown' hgrow _; obtain ⟨BK1, HB1⟩ := arr_step BK.out HB.out (World.ownsRow_nil _ _ _ _) hgrow; have HO := Aside0.mk hown'; clear BK HB hown' hgrow; have BK := Aside0.mk BK1; have HB := Aside0.mk HB1; clear BK1 HB1; obtain ⟨q0, q1, q2, q3, q4, q5⟩ : w1.cell? ⟨w.heap.size, 0, none⟩ = some (.int .i64 k) ∧ w1.cell? ⟨w.heap.size, 1, none⟩ = some (.int .i64 r) ∧ w1.cell? ⟨w.heap.size, 2, none⟩ = some (.int .i64 s) ∧ w1.cell? ⟨w.heap.size, 3, none⟩ = some (.int .i64 t) ∧ w1.cell? ⟨w.heap.size, 4, none⟩ = some (.int .i64 vk) ∧ w1.cell? ⟨w.heap.size, 5, none⟩ = some (.int .i64 vn) := ⟨(blk_cell BK.out 0).trans rfl, (blk_cell BK.out 1).trans rfl, (blk_cell BK.out 2).trans rfl, (blk_cell BK.out 3).trans rfl, (blk_cell BK.out 4).trans rfl, (blk_cell BK.out 5).trans rfl⟩) | (go_at_call 64; refine (hHas _).mono ?_; rintro e w'2 ⟨rfl, hb⟩; have BK1 := Aside0.mk (blk_below BK.out hb); have HB1 := Aside0.mk (below_step HB.out hb); have HO1 := Aside0.mk (own_below HO.out hb); clear HO; have HO := HO1; clear HO1; clear BK HB hb; have BK := BK1; have HB := HB1; clear BK1 HB1; obtain ⟨q0, q1, q2, q3, q4, q5⟩ : w'2.cell? ⟨w.heap.size, 0, none⟩ = some (.int .i64 k) ∧ w'2.cell? ⟨w.heap.size, 1, none⟩ = some (.int .i64 r) ∧ w'2.cell? ⟨w.heap.size, 2, none⟩ = some (.int .i64 s) ∧ w'2.cell? ⟨w.heap.size, 3, none⟩ = some (.int .i64 t) ∧ w'2.cell? ⟨w.heap.size, 4, none⟩ = some (.int .i64 vk) ∧ w'2.cell? ⟨w.heap.size, 5, none⟩ = some (.int .i64 vn) := ⟨(blk_cell BK.out 0).trans rfl, (blk_cell BK.out 1).trans rfl, (blk_cell BK.out 2).trans rfl, (blk_cell BK.out 3).trans rfl, (blk_cell BK.out 4).trans rfl, (blk_cell BK.out 5).trans rfl⟩) | (at_builtin; refine wpList_append_own _ rfl _ _ 74 rfl (w.heap.size + 1) 77 i0 (.agg #[.int .i64 0, .nilFunc]) 2 16 Try.underlying74 hi_ hz0 hz1 hz2 rfl (by decide) _ _ _ rfl (HO.out.alloc _) ⟨_, 0, none⟩ 1 1 [.int .i64 t, .func (.func 94) #[] #[]] rfl rfl (cell_two_at _ _ _ _ _ (by simp)) (by simp [Value.oneCell']) (by unfold maxLen; omega) (by omega) ?hb ?_; (case hb => have := blk_lt BK.out; first | (simp; omega) | simp); intro v'w2 w2 hown' hgrow _; obtain ⟨BK1, HB1⟩ := arr_step BK.out HB.out HO.out hgrow; clear HO; have HO := Aside0.mk hown'; clear BK HB hown' hgrow; have BK := Aside0.mk BK1; have HB := Aside0.mk HB1; clear BK1 HB1; obtain ⟨q0, q1, q2, q3, q4, q5⟩ : w2.cell? ⟨w.heap.size, 0, none⟩ = some (.int .i64 k) ∧ w2.cell? ⟨w.heap.size, 1, none⟩ = some (.int .i64 r) ∧ w2.cell? ⟨w.heap.size, 2, none⟩ = some (.int .i64 s) ∧ w2.cell? ⟨w.heap.size, 3, none⟩ = some (.int .i64 t) ∧ w2.cell? ⟨w.heap.size, 4, none⟩ = some (.int .i64 vk) ∧ w2.cell? ⟨w.heap.size, 5, none⟩ = some (.int .i64 vn) := ⟨(blk_cell BK.out 0).trans rfl, (blk_cell BK.out 1).trans rfl, (blk_cell BK.out 2).trans rfl, (blk_cell BK.out 3).trans rfl, (blk_cell BK.out 4).trans rfl, (blk_cell BK.out 5).trans rfl⟩))
            all_goals go_ret
            all_goals exact ⟨_, rfl, HO.out, BK.out, HB.out⟩
      · by_cases h5 : k = 5
        · subst h5
          have eL : L = [((i : Int) + 1, .fill)] ++ [(t, .one)] := by rw [hL.out]; unfold arrowsL; rw [if_neg n9, if_pos nx, if_pos (by rw [← hx.out, hf]), if_pos rfl] <;> rfl
          subst eL
          go_enter Try.func77, Try.ntmps77
          go_wp2_with (first | (go_at_call 67; refine (hHow _).mono ?_; rintro e w'4 ⟨rfl, hb⟩; have BK1 := Aside0.mk (blk_below BK.out hb); have HB1 := Aside0.mk (below_step HB.out hb); clear BK HB hb; have BK := BK1; have HB := HB1; clear BK1 HB1; obtain ⟨q0, q1, q2, q3, q4, q5⟩ : w'4.cell? ⟨w.heap.size, 0, none⟩ = some (.int .i64 5) ∧ w'4.cell? ⟨w.heap.size, 1, none⟩ = some (.int .i64 r) ∧ w'4.cell? ⟨w.heap.size, 2, none⟩ = some (.int .i64 s) ∧ w'4.cell? ⟨w.heap.size, 3, none⟩ = some (.int .i64 t) ∧ w'4.cell? ⟨w.heap.size, 4, none⟩ = some (.int .i64 vk) ∧ w'4.cell? ⟨w.heap.size, 5, none⟩ = some (.int .i64 vn) := ⟨(blk_cell BK.out 0).trans rfl, (blk_cell BK.out 1).trans rfl, (blk_cell BK.out 2).trans rfl, (blk_cell BK.out 3).trans rfl, (blk_cell BK.out 4).trans rfl, (blk_cell BK.out 5).trans rfl⟩) | (at_builtin; refine wpList_append_own _ rfl _ _ 74 rfl (w.heap.size + 1) 77 i0 (.agg #[.int .i64 0, .nilFunc]) 2 16 Try.underlying74 hi_ hz0 hz1 hz2 rfl (by decide) _ _ _ rfl (World.ownsRow_nil _ _ _ _) ⟨_, 0, none⟩ 1 1 [.int .i64 ((i : Int) + 1), .func (.func 95) #[] #[.pointer (some ⟨w.heap.size, 0, none⟩)]] rfl rfl (cell_two_at _ _ _ _ _ (by simp)) (by simp [Value.oneCell']) (by unfold maxLen; omega) (by omega) ?hb ?_; (case hb => have := blk_lt BK.out; first | (simp; omega) | simp); intro v'w1 w1 hown' hgrow _; obtain ⟨BK1, HB1⟩ := arr_step BK.out HB.out (World.ownsRow_nil _ _ _ _) hgrow; have HO := Aside0.mk hown'; clear BK HB hown' hgrow; have BK := Aside0.mk BK1; have HB := Aside0.mk HB1; clear BK1 HB1; obtain ⟨q0, q1, q2, q3, q4, q5⟩ : w1.cell? ⟨w.heap.size, 0, none⟩ = some (.int .i64 5) ∧ w1.cell? ⟨w.heap.size, 1, none⟩ = some (.int .i64 r) ∧ w1.cell? ⟨w.heap.size, 2, none⟩ = some (.int .i64 s) ∧ w1.cell? ⟨w.heap.size, 3, none⟩ = some (.int .i64 t) ∧ w1.cell? ⟨w.heap.size, 4, none⟩ = some (.int .i64 vk) ∧ w1.cell? ⟨w.heap.size, 5, none⟩ = some (.int .i64 vn) := ⟨(blk_cell BK.out 0).trans rfl, (blk_cell BK.out 1).trans rfl, (blk_cell BK.out 2).trans rfl, (blk_cell BK.out 3).trans rfl, (blk_cell BK.out 4).trans rfl, (blk_cell BK.out 5).trans rfl⟩) | (at_builtin; refine wpList_append_own _ rfl _ _ 74 rfl (w.heap.size + 1) 77 i0 (.agg #[.int .i64 0, .nilFunc]) 2 16 Try.underlying74 hi_ hz0 hz1 hz2 rfl (by decide) _ _ _ rfl (HO.out.alloc _) ⟨_, 0, none⟩ 1 1 [.int .i64 t, .func (.func 96) #[] #[]] rfl rfl (cell_two_at _ _ _ _ _ (by simp)) (by simp [Value.oneCell']) (by unfold maxLen; omega) (by omega) ?hb ?_; (case hb => have := blk_lt BK.out; first | (simp; omega) | simp); intro v'w2 w2 hown' hgrow _; obtain ⟨BK1, HB1⟩ := arr_step BK.out HB.out HO.out hgrow; clear HO; have HO := Aside0.mk hown'; clear BK HB hown' hgrow; have BK := Aside0.mk BK1; have HB := Aside0.mk HB1; clear BK1 HB1; obtain ⟨q0, q1, q2, q3, q4, q5⟩ : w2.cell? ⟨w.heap.size, 0, none⟩ = some (.int .i64 5) ∧ w2.cell? ⟨w.heap.size, 1, none⟩ = some (.int .i64 r) ∧ w2.cell? ⟨w.heap.size, 2, none⟩ = some (.int .i64 s) ∧ w2.cell? ⟨w.heap.size, 3, none⟩ = some (.int .i64 t) ∧ w2.cell? ⟨w.heap.size, 4, none⟩ = some (.int .i64 vk) ∧ w2.cell? ⟨w.heap.size, 5, none⟩ = some (.int .i64 vn) := ⟨(blk_cell BK.out 0).trans rfl, (blk_cell BK.out 1).trans rfl, (blk_cell BK.out 2).trans rfl, (blk_cell BK.out 3).trans rfl, (blk_cell BK.out 4).trans rfl, (blk_cell BK.out 5).trans rfl⟩))
          all_goals go_ret
          all_goals exact ⟨_, rfl, HO.out, BK.out, HB.out⟩
        · have b5 : (k == 5) = false := by simpa using h5
          cases bt
          · have eL : L = [((i : Int) + 1, .fill)] ++ [] := by rw [hL.out]; unfold arrowsL; rw [if_neg n9, if_pos nx, if_pos (by rw [← hx.out, hf]), if_neg h5, if_neg (by rw [← hbt.out]; decide)] <;> rfl
            subst eL
            go_enter Try.func77, Try.ntmps77
            go_wp2_with (first | (go_at_call 67; refine (hHow _).mono ?_; rintro e w'4 ⟨rfl, hb⟩; have BK1 := Aside0.mk (blk_below BK.out hb); have HB1 := Aside0.mk (below_step HB.out hb); clear BK HB hb; have BK := BK1; have HB := HB1; clear BK1 HB1; obtain ⟨q0, q1, q2, q3, q4, q5⟩ : w'4.cell? ⟨w.heap.size, 0, none⟩ = some (.int .i64 k) ∧ w'4.cell? ⟨w.heap.size, 1, none⟩ = some (.int .i64 r) ∧ w'4.cell? ⟨w.heap.size, 2, none⟩ = some (.int .i64 s) ∧ w'4.cell? ⟨w.heap.size, 3, none⟩ = some (.int .i64 t) ∧ w'4.cell? ⟨w.heap.size, 4, none⟩ = some (.int .i64 vk) ∧ w'4.cell? ⟨w.heap.size, 5, none⟩ = some (.int .i64 vn) := ⟨(blk_cell BK.out 0).trans rfl, (blk_cell BK.out 1).trans rfl, (blk_cell BK.out 2).trans rfl, (blk_cell BK.out 3).trans rfl, (blk_cell BK.out 4).trans rfl, (blk_cell BK.out 5).trans rfl⟩) | (at_builtin; refine wpList_append_own _ rfl _ _ 74 rfl (w.heap.size + 1) 77 i0 (.agg #[.int .i64 0, .nilFunc]) 2 16 Try.underlying74 hi_ hz0 hz1 hz2 rfl (by decide) _ _ _ rfl (World.ownsRow_nil _ _ _ _) ⟨_, 0, none⟩ 1 1 [.int .i64 ((i : Int) + 1), .func (.func 95) #[] #[.pointer (some ⟨w.heap.size, 0, none⟩)]] rfl rfl (cell_two_at _ _ _ _ _ (by simp)) (by simp [Value.oneCell']) (by unfold maxLen; omega) (by omega) ?hb ?_; (case hb => have := blk_lt BK.out; first | (simp; omega) | simp); intro v'w1 w1 hown' hgrow _; obtain ⟨BK1, HB1⟩ := arr_step BK.out HB.out (World.ownsRow_nil _ _ _ _) hgrow; have HO := Aside0.mk hown'; clear BK HB hown' hgrow; have BK := Aside0.mk BK1; have HB := Aside0.mk HB1; clear BK1 HB1; obtain ⟨q0, q1, q2, q3, q4, q5⟩ : w1.cell? ⟨w.heap.size, 0, none⟩ = some (.int .i64 k) ∧ w1.cell? ⟨w.heap.size, 1, none⟩ = some (.int .i64 r) ∧ w1.cell? ⟨w.heap.size, 2, none⟩ = some (.int .i64 s) ∧ w1.cell? ⟨w.heap.size, 3, none⟩ = some (.int .i64 t) ∧ w1.cell? ⟨w.heap.size, 4, none⟩ = some (.int .i64 vk) ∧ w1.cell? ⟨w.heap.size, 5, none⟩ = some (.int .i64 vn) := ⟨(blk_cell BK.out 0).trans rfl, (blk_cell BK.out 1).trans rfl, (blk_cell BK.out 2).trans rfl, (blk_cell BK.out 3).trans rfl, (blk_cell BK.out 4).trans rfl, (blk_cell BK.out 5).trans rfl⟩) | (go_at_call 64; refine (hHas _).mono ?_; rintro e w'2 ⟨rfl, hb⟩; have BK1 := Aside0.mk (blk_below BK.out hb); have HB1 := Aside0.mk (below_step HB.out hb); have HO1 := Aside0.mk (own_below HO.out hb); clear HO; have HO := HO1; clear HO1; clear BK HB hb; have BK := BK1; have HB := HB1; clear BK1 HB1; obtain ⟨q0, q1, q2, q3, q4, q5⟩ : w'2.cell? ⟨w.heap.size, 0, none⟩ = some (.int .i64 k) ∧ w'2.cell? ⟨w.heap.size, 1, none⟩ = some (.int .i64 r) ∧ w'2.cell? ⟨w.heap.size, 2, none⟩ = some (.int .i64 s) ∧ w'2.cell? ⟨w.heap.size, 3, none⟩ = some (.int .i64 t) ∧ w'2.cell? ⟨w.heap.size, 4, none⟩ = some (.int .i64 vk) ∧ w'2.cell? ⟨w.heap.size, 5, none⟩ = some (.int .i64 vn) := ⟨(blk_cell BK.out 0).trans rfl, (blk_cell BK.out 1).trans rfl, (blk_cell BK.out 2).trans rfl, (blk_cell BK.out 3).trans rfl, (blk_cell BK.out 4).trans rfl, (blk_cell BK.out 5).trans rfl⟩))
            all_goals go_ret
            all_goals exact ⟨_, rfl, HO.out, BK.out, HB.out⟩
          · have eL : L = [((i : Int) + 1, .fill)] ++ [(t, .same)] := by rw [hL.out]; unfold arrowsL; rw [if_neg n9, if_pos nx, if_pos (by rw [← hx.out, hf]), if_neg h5, if_pos hbt.out.symm] <;> rfl
            subst eL
            go_enter Try.func77, Try.ntmps77
            go_wp2_with (first | (go_at_call 67; refine (hHow _).mono ?_; rintro e w'4 ⟨rfl, hb⟩; have BK1 := Aside0.mk (blk_below BK.out hb); have HB1 := Aside0.mk (below_step HB.out hb); clear BK HB hb; have BK := BK1; have HB := HB1; clear BK1 HB1; obtain ⟨q0, q1, q2, q3, q4, q5⟩ : w'4.cell? ⟨w.heap.size, 0, none⟩ = some (.int .i64 k) ∧ w'4.cell? ⟨w.heap.size, 1, none⟩ = some (.int .i64 r) ∧ w'4.cell? ⟨w.heap.size, 2, none⟩ = some (.int .i64 s) ∧ w'4.cell? ⟨w.heap.size, 3, none⟩ = some (.int .i64 t) ∧ w'4.cell? ⟨w.heap.size, 4, none⟩ = some (.int .i64 vk) ∧ w'4.cell? ⟨w.heap.size, 5, none⟩ = some (.int .i64 vn) := ⟨(blk_cell BK.out 0).trans rfl, (blk_cell BK.out 1).trans rfl, (blk_cell BK.out 2).trans rfl, (blk_cell BK.out 3).trans rfl, (blk_cell BK.out 4).trans rfl, (blk_cell BK.out 5).trans rfl⟩) | (at_builtin; refine wpList_append_own _ rfl _ _ 74 rfl (w.heap.size + 1) 77 i0 (.agg #[.int .i64 0, .nilFunc]) 2 16 Try.underlying74 hi_ hz0 hz1 hz2 rfl (by decide) _ _ _ rfl (World.ownsRow_nil _ _ _ _) ⟨_, 0, none⟩ 1 1 [.int .i64 ((i : Int) + 1), .func (.func 95) #[] #[.pointer (some ⟨w.heap.size, 0, none⟩)]] rfl rfl (cell_two_at _ _ _ _ _ (by simp)) (by simp [Value.oneCell']) (by unfold maxLen; omega) (by omega) ?hb ?_; (case hb => have := blk_lt BK.out; first | (simp; omega) | simp); intro v'w1 w1 hown' hgrow _; obtain ⟨BK1, HB1⟩ := arr_step BK.out HB.out (World.ownsRow_nil _ _ _ _) hgrow; have HO := Aside0.mk hown'; clear BK HB hown' hgrow; have BK := Aside0.mk BK1; have HB := Aside0.mk HB1; clear BK1 HB1; obtain ⟨q0, q1, q2, q3, q4, q5⟩ : w1.cell? ⟨w.heap.size, 0, none⟩ = some (.int .i64 k) ∧ w1.cell? ⟨w.heap.size, 1, none⟩ = some (.int .i64 r) ∧ w1.cell? ⟨w.heap.size, 2, none⟩ = some (.int .i64 s) ∧ w1.cell? ⟨w.heap.size, 3, none⟩ = some (.int .i64 t) ∧ w1.cell? ⟨w.heap.size, 4, none⟩ = some (.int .i64 vk) ∧ w1.cell? ⟨w.heap.size, 5, none⟩ = some (.int .i64 vn) := ⟨(blk_cell BK.out 0).trans rfl, (blk_cell BK.out 1).trans rfl, (blk_cell BK.out 2).trans rfl, (blk_cell BK.out 3).trans rfl, (blk_cell BK.out 4).trans rfl, (blk_cell BK.out 5).trans rfl⟩) | (go_at_call 64; refine (hHas _).mono ?_; rintro e w'2 ⟨rfl, hb⟩; have BK1 := Aside0.mk (blk_below BK.out hb); have HB1 := Aside0.mk (below_step HB.out hb); have HO1 := Aside0.mk (own_below HO.out hb); clear HO; have HO := HO1; clear HO1; clear BK HB hb; have BK := BK1; have HB := HB1; clear BK1 HB1; obtain ⟨q0, q1, q2, q3, q4, q5⟩ : w'2.cell? ⟨w.heap.size, 0, none⟩ = some (.int .i64 k) ∧ w'2.cell? ⟨w.heap.size, 1, none⟩ = some (.int .i64 r) ∧ w'2.cell? ⟨w.heap.size, 2, none⟩ = some (.int .i64 s) ∧ w'2.cell? ⟨w.heap.size, 3, none⟩ = some (.int .i64 t) ∧ w'2.cell? ⟨w.heap.size, 4, none⟩ = some (.int .i64 vk) ∧ w'2.cell? ⟨w.heap.size, 5, none⟩ = some (.int .i64 vn) := ⟨(blk_cell BK.out 0).trans rfl, (blk_cell BK.out 1).trans rfl, (blk_cell BK.out 2).trans rfl, (blk_cell BK.out 3).trans rfl, (blk_cell BK.out 4).trans rfl, (blk_cell BK.out 5).trans rfl⟩) | (at_builtin; refine wpList_append_own _ rfl _ _ 74 rfl (w.heap.size + 1) 77 i0 (.agg #[.int .i64 0, .nilFunc]) 2 16 Try.underlying74 hi_ hz0 hz1 hz2 rfl (by decide) _ _ _ rfl (HO.out.alloc _) ⟨_, 0, none⟩ 1 1 [.int .i64 t, .func (.func 94) #[] #[]] rfl rfl (cell_two_at _ _ _ _ _ (by simp)) (by simp [Value.oneCell']) (by unfold maxLen; omega) (by omega) ?hb ?_; (case hb => have := blk_lt BK.out; first | (simp; omega) | simp); intro v'w2 w2 hown' hgrow _; obtain ⟨BK1, HB1⟩ := arr_step BK.out HB.out HO.out hgrow; clear HO; have HO := Aside0.mk hown'; clear BK HB hown' hgrow; have BK := Aside0.mk BK1; have HB := Aside0.mk HB1; clear BK1 HB1; obtain ⟨q0, q1, q2, q3, q4, q5⟩ : w2.cell? ⟨w.heap.size, 0, none⟩ = some (.int .i64 k) ∧ w2.cell? ⟨w.heap.size, 1, none⟩ = some (.int .i64 r) ∧ w2.cell? ⟨w.heap.size, 2, none⟩ = some (.int .i64 s) ∧ w2.cell? ⟨w.heap.size, 3, none⟩ = some (.int .i64 t) ∧ w2.cell? ⟨w.heap.size, 4, none⟩ = some (.int .i64 vk) ∧ w2.cell? ⟨w.heap.size, 5, none⟩ = some (.int .i64 vn) := ⟨(blk_cell BK.out 0).trans rfl, (blk_cell BK.out 1).trans rfl, (blk_cell BK.out 2).trans rfl, (blk_cell BK.out 3).trans rfl, (blk_cell BK.out 4).trans rfl, (blk_cell BK.out 5).trans rfl⟩))
            all_goals go_ret
            all_goals exact ⟨_, rfl, HO.out, BK.out, HB.out⟩
    · have dx : decide ((i : Int) + 1 < (n : Int)) = false := decide_eq_false nx
      by_cases h5 : k = 5
      · subst h5
        have eL : L = [] ++ [(t, .one)] := by rw [hL.out]; unfold arrowsL; rw [if_neg n9, if_neg nx, if_pos rfl] <;> rfl
        subst eL
        go_enter Try.func77, Try.ntmps77
        go_wp2_with (first | (at_builtin; refine wpList_append_own _ rfl _ _ 74 rfl (w.heap.size + 1) 77 i0 (.agg #[.int .i64 0, .nilFunc]) 2 16 Try.underlying74 hi_ hz0 hz1 hz2 rfl (by decide) _ _ _ rfl (World.ownsRow_nil _ _ _ _) ⟨_, 0, none⟩ 1 1 [.int .i64 t, .func (.func 96) #[] #[]] rfl rfl (cell_two_at _ _ _ _ _ (by simp)) (by simp [Value.oneCell']) (by unfold maxLen; omega) (by omega) ?hb ?_; (case hb => have := blk_lt BK.out; first | (simp; omega) | simp); intro v'w2 w2 hown' hgrow _; obtain ⟨BK1, HB1⟩ := arr_step BK.out HB.out (World.ownsRow_nil _ _ _ _) hgrow; have HO := Aside0.mk hown'; clear BK HB hown' hgrow; have BK := Aside0.mk BK1; have HB := Aside0.mk HB1; clear BK1 HB1; obtain ⟨q0, q1, q2, q3, q4, q5⟩ : w2.cell? ⟨w.heap.size, 0, none⟩ = some (.int .i64 5) ∧ w2.cell? ⟨w.heap.size, 1, none⟩ = some (.int .i64 r) ∧ w2.cell? ⟨w.heap.size, 2, none⟩ = some (.int .i64 s) ∧ w2.cell? ⟨w.heap.size, 3, none⟩ = some (.int .i64 t) ∧ w2.cell? ⟨w.heap.size, 4, none⟩ = some (.int .i64 vk) ∧ w2.cell? ⟨w.heap.size, 5, none⟩ = some (.int .i64 vn) := ⟨(blk_cell BK.out 0).trans rfl, (blk_cell BK.out 1).trans rfl, (blk_cell BK.out 2).trans rfl, (blk_cell BK.out 3).trans rfl, (blk_cell BK.out 4).trans rfl, (blk_cell BK.out 5).trans rfl⟩))
        all_goals go_ret
        all_goals exact ⟨_, rfl, HO.out, BK.out, HB.out⟩
      · have b5 : (k == 5) = false := by simpa using h5
        cases bt
        · have eL : L = [] ++ [] := by rw [hL.out]; unfold arrowsL; rw [if_neg n9, if_neg nx, if_neg h5, if_neg (by rw [← hbt.out]; decide)] <;> rfl
          subst eL
          go_enter Try.func77, Try.ntmps77
          go_wp2_with (first | (go_at_call 64; refine (hHas _).mono ?_; rintro e w'2 ⟨rfl, hb⟩; have BK1 := Aside0.mk (blk_below BK.out hb); have HB1 := Aside0.mk (below_step HB.out hb); clear BK HB hb; have BK := BK1; have HB := HB1; clear BK1 HB1; obtain ⟨q0, q1, q2, q3, q4, q5⟩ : w'2.cell? ⟨w.heap.size, 0, none⟩ = some (.int .i64 k) ∧ w'2.cell? ⟨w.heap.size, 1, none⟩ = some (.int .i64 r) ∧ w'2.cell? ⟨w.heap.size, 2, none⟩ = some (.int .i64 s) ∧ w'2.cell? ⟨w.heap.size, 3, none⟩ = some (.int .i64 t) ∧ w'2.cell? ⟨w.heap.size, 4, none⟩ = some (.int .i64 vk) ∧ w'2.cell? ⟨w.heap.size, 5, none⟩ = some (.int .i64 vn) := ⟨(blk_cell BK.out 0).trans rfl, (blk_cell BK.out 1).trans rfl, (blk_cell BK.out 2).trans rfl, (blk_cell BK.out 3).trans rfl, (blk_cell BK.out 4).trans rfl, (blk_cell BK.out 5).trans rfl⟩))
          all_goals go_ret
          all_goals exact ⟨_, rfl, World.ownsRow_nil _ _ _ _, BK.out, HB.out⟩
        · have eL : L = [] ++ [(t, .same)] := by rw [hL.out]; unfold arrowsL; rw [if_neg n9, if_neg nx, if_neg h5, if_pos hbt.out.symm] <;> rfl
          subst eL
          go_enter Try.func77, Try.ntmps77
          go_wp2_with (first | (go_at_call 64; refine (hHas _).mono ?_; rintro e w'2 ⟨rfl, hb⟩; have BK1 := Aside0.mk (blk_below BK.out hb); have HB1 := Aside0.mk (below_step HB.out hb); clear BK HB hb; have BK := BK1; have HB := HB1; clear BK1 HB1; obtain ⟨q0, q1, q2, q3, q4, q5⟩ : w'2.cell? ⟨w.heap.size, 0, none⟩ = some (.int .i64 k) ∧ w'2.cell? ⟨w.heap.size, 1, none⟩ = some (.int .i64 r) ∧ w'2.cell? ⟨w.heap.size, 2, none⟩ = some (.int .i64 s) ∧ w'2.cell? ⟨w.heap.size, 3, none⟩ = some (.int .i64 t) ∧ w'2.cell? ⟨w.heap.size, 4, none⟩ = some (.int .i64 vk) ∧ w'2.cell? ⟨w.heap.size, 5, none⟩ = some (.int .i64 vn) := ⟨(blk_cell BK.out 0).trans rfl, (blk_cell BK.out 1).trans rfl, (blk_cell BK.out 2).trans rfl, (blk_cell BK.out 3).trans rfl, (blk_cell BK.out 4).trans rfl, (blk_cell BK.out 5).trans rfl⟩) | (at_builtin; refine wpList_append_own _ rfl _ _ 74 rfl (w.heap.size + 1) 77 i0 (.agg #[.int .i64 0, .nilFunc]) 2 16 Try.underlying74 hi_ hz0 hz1 hz2 rfl (by decide) _ _ _ rfl (World.ownsRow_nil _ _ _ _) ⟨_, 0, none⟩ 1 1 [.int .i64 t, .func (.func 94) #[] #[]] rfl rfl (cell_two_at _ _ _ _ _ (by simp)) (by simp [Value.oneCell']) (by unfold maxLen; omega) (by omega) ?hb ?_; (case hb => have := blk_lt BK.out; first | (simp; omega) | simp); intro v'w2 w2 hown' hgrow _; obtain ⟨BK1, HB1⟩ := arr_step BK.out HB.out (World.ownsRow_nil _ _ _ _) hgrow; have HO := Aside0.mk hown'; clear BK HB hown' hgrow; have BK := Aside0.mk BK1; have HB := Aside0.mk HB1; clear BK1 HB1; obtain ⟨q0, q1, q2, q3, q4, q5⟩ : w2.cell? ⟨w.heap.size, 0, none⟩ = some (.int .i64 k) ∧ w2.cell? ⟨w.heap.size, 1, none⟩ = some (.int .i64 r) ∧ w2.cell? ⟨w.heap.size, 2, none⟩ = some (.int .i64 s) ∧ w2.cell? ⟨w.heap.size, 3, none⟩ = some (.int .i64 t) ∧ w2.cell? ⟨w.heap.size, 4, none⟩ = some (.int .i64 vk) ∧ w2.cell? ⟨w.heap.size, 5, none⟩ = some (.int .i64 vn) := ⟨(blk_cell BK.out 0).trans rfl, (blk_cell BK.out 1).trans rfl, (blk_cell BK.out 2).trans rfl, (blk_cell BK.out 3).trans rfl, (blk_cell BK.out 4).trans rfl, (blk_cell BK.out 5).trans rfl⟩))
          all_goals go_ret
          all_goals exact ⟨_, rfl, HO.out, BK.out, HB.out⟩
end Go.Proofs.Ytmklpbmlgjkbiaa.PS
end
section
namespace Go.Proofs.Ytmklpbmlgjkbiaa.PS
open Go.RowKit Go.Proofs.YtmklpbmlgjkbiaaW.PrintWords Go.Proofs.YtmklpbmlgjkbiaaW.PrintLast
set_option linter.unusedVariables false
set_option linter.unusedSimpArgs false
set_option maxRecDepth 100000
def waysL (l : List S29) (i : Nat) : List (Int × Fl) := arrowsL l.length i (rd_T29 l i).f0 (rd_T29 l i).f3
def opCells (x : S29) : Array Value := #[.int .i64 x.f0, .int .i64 x.f1, .int .i64 x.f2, .int .i64 x.f3, .int .i64 x.f4.f0, .int .i64 x.f4.f1]
theorem impl_arrows (A0 : Option Addr) (c0 : Nat) (l0 : List S29) (i : Nat) (w : World) (hr0 : Kd.C k29 w A0 l0.length l0) (hi : i < l0.length) (hl : l0.length ≤ 16) :
    Calls Try.prog 77 #[.slice A0 l0.length c0, .int .i64 i] w fun e w' => ∃ v, e = .returned v ∧ w'.ownsRow (w.heap.size + 1) 77 2 v (waysL l0 i).length (arrowCells w.heap.size (waysL l0 i)) ∧ w'.heap[w.heap.size]? = some (.cells (opCells (rd_T29 l0 i)) 29 (0, 0)) ∧ Below w.heap.size w w' := by
  obtain ⟨ad, e, x0, x1, x2, x3, x4, x5⟩ := at_T29 hr0 (i : Int) (by omega) (by omega)
  rw [Int.toNat_natCast] at x0 x1 x2 x3 x4 x5
  refine arrows_walk A0 c0 l0.length ad i hi hl e _ _ _ _ _ _ w (howR (rd_T29 l0 i).f0).f3 (hasT (rd_T29 l0 i).f0) (howR (rd_T29 l0 i).f0) ⟨rfl⟩ ⟨rfl⟩ x0 x1 x2 x3 x4 x5 ?_ rfl _ ⟨rfl⟩
  by_cases h9 : (rd_T29 l0 i).f0 = 9
  · exact .inl ⟨h9, by rw [h9]; rfl⟩
  by_cases h14 : (rd_T29 l0 i).f0 = 14
  · exact .inr (.inl ⟨h14, by rw [h14]; rfl⟩)
  exact .inr (.inr ⟨by simpa using h9, by simpa using h14⟩)
theorem ways_two (l : List S29) (i : Nat) : (waysL l i).length ≤ 2 := by
  unfold waysL arrowsL
  rw [List.length_append]
  have h1 : ∀ (a b c : Prop) [Decidable a] [Decidable b] (x : Int × Fl), (if a then [] else if b then [x] else ([] : List (Int × Fl))).length ≤ 1 := fun a b c _ _ x => by split <;> (try split) <;> simp
  have h2 : ∀ (a b : Prop) [Decidable a] [Decidable b] (x y : Int × Fl), (if a then [x] else if b then [y] else ([] : List (Int × Fl))).length ≤ 1 := fun a b _ _ x y => by split <;> (try split) <;> simp
  exact Nat.add_le_add (h1 _ _ True _) (h2 _ _ _ _)
theorem way_at {w : World} {base B : Nat} {v : Value} {L : List (Int × Fl)} (h : w.ownsRow base 77 2 v L.length (arrowCells B L)) : ∃ A c, v = .slice A L.length c ∧ (∀ b, v.ownBlock = some b → base ≤ b ∧ b < w.heap.size) ∧ ∀ (j : Nat) (hj : j < L.length), ∃ g, A = some ⟨g, 0, none⟩ ∧ base ≤ g ∧ g < w.heap.size ∧ w.cell? ⟨g, j * 2, none⟩ = some (.int .i64 L[j].1) ∧ w.cell? ⟨g, j * 2 + 1, none⟩ = some (L[j].2.val B) := by
  obtain ⟨hlen, h⟩ := h
  rcases h with ⟨rfl, h0⟩ | ⟨g, cap, cur, rfl, hg, hh, hc, hm, hs, ht⟩
  · exact ⟨none, 0, by rw [h0], fun b hb => by simp [Value.ownBlock] at hb, fun j hj => absurd hj (by omega)⟩
  · refine ⟨_, cap, rfl, fun b hb => ?_, fun j hj => ⟨g, rfl, hg, blk_lt hh, ?_⟩⟩
    · have : g = b := by simpa [Value.ownBlock] using hb
      subst this; exact ⟨hg, blk_lt hh⟩
    have key : ∀ q, q < 2 → (arrowCells B L)[j * 2 + q]? = some (if q = 0 then .int .i64 L[j].1 else L[j].2.val B) := by
      intro q hq
      clear ht hlen hs hc hh
      unfold arrowCells
      induction L generalizing j with
      | nil => simp at hj
      | cons a L ih =>
        rw [List.flatMap_cons]
        cases j with
        | zero =>
          match q, hq with
          | 0, _ => rfl
          | 1, _ => rfl
        | succ j =>
          have := ih j (by simpa using hj)
          rw [show (j + 1) * 2 + q = (j * 2 + q) + 2 by omega, List.getElem?_append_right (by simp)]
          simpa using this
    have cell : ∀ q, q < 2 → w.cell? ⟨g, j * 2 + q, none⟩ = (arrowCells B L)[j * 2 + q]? := by
      intro q hq
      rw [blk_cell hh, ← ht, List.getElem?_take_of_lt (by omega), Array.getElem?_toList]
    refine ⟨?_, ?_⟩
    · have := (cell 0 (by omega)).trans (key 0 (by omega)); simpa using this
    · have := (cell 1 (by omega)).trans (key 1 (by omega)); simpa using this
end Go.Proofs.Ytmklpbmlgjkbiaa.PS
end
section
namespace Go.Proofs.Ytmklpbmlgjkbiaa.PS
open Go.RowKit Go.Proofs.YtmklpbmlgjkbiaaW.PrintWords Go.Proofs.YtmklpbmlgjkbiaaW.PrintLast
set_option linter.unusedVariables false
set_option linter.unusedSimpArgs false
set_option maxRecDepth 100000
def onceL (L : List (Int × Fl)) : List Int := L.foldl (fun out a => if a.1 ∈ out then out else out ++ [a.1]) []
theorem once_snoc (L : List (Int × Fl)) (j : Nat) (hj : j < L.length) : onceL (L.take (j + 1)) = if L[j].1 ∈ onceL (L.take j) then onceL (L.take j) else onceL (L.take j) ++ [L[j].1] := by
  unfold onceL; rw [List.take_succ_eq_append_getElem hj, List.foldl_append]; rfl
theorem val_func (B : Nat) (f : Fl) : ∃ ff lb, f.val B = .func (.func ff) #[] lb := by cases f <;> exact ⟨_, _, rfl⟩
theorem once_len (L : List (Int × Fl)) (j : Nat) : (onceL (L.take j)).length ≤ j := by
  induction j with
  | zero => simp [onceL]
  | succ j ih =>
    by_cases h : j < L.length
    · rw [once_snoc L j h]; split
      · omega
      · simp; omega
    · rw [List.take_of_length_le (by omega)]; rw [List.take_of_length_le (by omega)] at ih; omega
end Go.Proofs.Ytmklpbmlgjkbiaa.PS
end
section
namespace Go.Proofs.Ytmklpbmlgjkbiaa.PS
set_option linter.unusedVariables false
def both (a x : Int) : Int := if a < 0 then x else ((a.toNat &&& x.toNat : Nat) : Int)
def mu1 (a : Int) : Nat := if a < 0 then 5 else a.toNat % 2 + a.toNat / 2 % 2 + a.toNat / 4 % 2 + a.toNat / 8 % 2
def fours (P : Int → Bool) : Bool := (List.range 16).all fun i => P i
theorem fours_all {P : Int → Bool} (h : fours P = true) {x : Int} (h0 : 0 ≤ x) (h1 : x ≤ 15) : P x = true := by
  unfold fours at h
  rw [List.all_eq_true] at h
  have := h x.toNat (by simp; omega)
  rwa [Int.toNat_of_nonneg h0] at this
theorem both_range {a x : Int} (h0 : 0 ≤ x) (h1 : x ≤ 15) : 0 ≤ both a x ∧ both a x ≤ 15 := by
  unfold both
  split
  · exact ⟨h0, h1⟩
  · have : a.toNat &&& x.toNat ≤ x.toNat := Nat.and_le_right
    omega
theorem both_mu {a x : Int} (ha : -1 ≤ a) (ha' : a ≤ 15) (h0 : 0 ≤ x) (h1 : x ≤ 15) : both a x = a ∨ mu1 (both a x) < mu1 a := by
  by_cases h : a = -1
  · subst h
    right
    have : fours (fun x => decide (mu1 (both (-1) x) < mu1 (-1))) = true := by decide +kernel
    exact of_decide_eq_true (fours_all this h0 h1)
  · have : fours (fun a => fours fun x => decide (both a x = a ∨ mu1 (both a x) < mu1 a)) = true := by decide +kernel
    exact of_decide_eq_true (fours_all (fours_all this (by omega) ha') h0 h1)
abbrev Way := Int × (Int → Int)
def at_ (o : List Int) (i : Int) : Int := o.getD i.toNat 0
def mergeW (i : Nat) (o : List Int) (a : Way) : List Int := o.set a.1.toNat (both (at_ o a.1) (a.2 (at_ o i)))
def stepW (W : Nat → List Way) (o : List Int) (i : Nat) : List Int := if at_ o i < 0 then o else (W i).foldl (mergeW i) o
def passW (W : Nat → List Way) (n : Nat) (o : List Int) : List Int := (List.range n).foldl (stepW W) o
def mu (o : List Int) : Nat := (o.map mu1).sum
def GoodW (W : Nat → List Way) (n : Nat) : Prop := ∀ i, i < n → ∀ a ∈ W i, 0 ≤ a.1 ∧ a.1 < n ∧ ∀ x, 0 ≤ x → x ≤ 15 → 0 ≤ a.2 x ∧ a.2 x ≤ 15
def GoodO (n : Nat) (o : List Int) : Prop := o.length = n ∧ ∀ x ∈ o, -1 ≤ x ∧ x ≤ 15
theorem at_good {n : Nat} {o : List Int} (h : GoodO n o) (i : Int) : -1 ≤ at_ o i ∧ at_ o i ≤ 15 := by
  unfold at_
  rw [List.getD_eq_getElem?_getD]
  cases e : o[i.toNat]? with
  | none => simp
  | some x => exact h.2 x (List.mem_of_getElem? e)
theorem at_set_self {o : List Int} {i : Int} {x : Int} (h : i.toNat < o.length) : at_ (o.set i.toNat x) i = x := by
  unfold at_; simp [List.getD_eq_getElem?_getD, h]
theorem at_set_ne {o : List Int} {i j : Nat} {x : Int} (h : i ≠ j) : at_ (o.set i x) j = at_ o j := by
  unfold at_; simp [List.getD_eq_getElem?_getD, h]
theorem set_at {o : List Int} {i : Nat} : o.set i (at_ o i) = o := by
  unfold at_
  by_cases h : i < o.length
  · refine List.ext_getElem (by simp) fun j h1 h2 => ?_
    by_cases e : i = j
    · subst e; simp [List.getD_eq_getElem?_getD, h]
    · simp [e]
  · simp [List.set_eq_of_length_le (by omega : o.length ≤ i)]
theorem mu_set {o : List Int} {i : Nat} {x : Int} (h : i < o.length) : mu (o.set i x) + mu1 (at_ o i) = mu o + mu1 x := by
  induction o generalizing i with
  | nil => simp at h
  | cons y o ih =>
    cases i with
    | zero => simp [mu, at_]; omega
    | succ i =>
      have := ih (i := i) (by simpa using h)
      simp [mu, at_] at this ⊢; omega
def Down (o p : List Int) : Prop := p = o ∨ mu p < mu o
theorem Down.refl (o : List Int) : Down o o := .inl rfl
theorem Down.trans {o p q : List Int} (h : Down o p) (g : Down p q) : Down o q := by
  rcases h with rfl | h
  · exact g
  · rcases g with rfl | g
    · exact .inr h
    · exact .inr (by omega)
theorem Down.stay {o p q : List Int} (h : Down o p) (g : Down p q) (e : q = o) : p = o ∧ q = p := by
  rcases h with rfl | h
  · exact ⟨rfl, e⟩
  · rcases g with rfl | g
    · subst e; omega
    · subst e; omega
theorem merge_good {W : Nat → List Way} {n i : Nat} {o : List Int} {a : Way} (hW : GoodW W n) (ho : GoodO n o) (hi : i < n) (ha : a ∈ W i) (h0 : 0 ≤ at_ o i) :
    GoodO n (mergeW i o a) ∧ Down o (mergeW i o a) ∧ 0 ≤ at_ (mergeW i o a) i := by
  obtain ⟨t0, t1, hf⟩ := hW i hi a ha
  have hx := hf _ h0 (at_good ho i).2
  have hb := both_range (a := at_ o a.1) hx.1 hx.2
  have hm := both_mu (at_good ho a.1).1 (at_good ho a.1).2 hx.1 hx.2
  refine ⟨⟨by simp [mergeW, ho.1], fun x hx' => ?_⟩, ?_, ?_⟩
  · rcases List.mem_or_eq_of_mem_set hx' with h | h
    · exact ho.2 x h
    · omega
  · have hs := mu_set (o := o) (i := a.1.toNat) (x := both (at_ o a.1) (a.2 (at_ o i))) (by rw [ho.1]; omega)
    have e : at_ o (a.1.toNat : Int) = at_ o a.1 := by rw [Int.toNat_of_nonneg t0]
    rcases hm with hm | hm
    · left; unfold mergeW; rw [hm, ← e]; exact set_at
    · right; unfold mergeW; rw [e] at hs; omega
  · by_cases e : a.1.toNat = i
    · have : a.1 = i := by omega
      unfold mergeW
      rw [← this, at_set_self (by rw [ho.1]; omega)]
      rw [this] at hb ⊢; omega
    · unfold mergeW; rw [at_set_ne e]; exact h0
theorem merges_good {W : Nat → List Way} {n i : Nat} (hW : GoodW W n) (hi : i < n) : ∀ (L : List Way), (∀ a ∈ L, a ∈ W i) → ∀ o, GoodO n o → 0 ≤ at_ o i →
    GoodO n (L.foldl (mergeW i) o) ∧ Down o (L.foldl (mergeW i) o) ∧ 0 ≤ at_ (L.foldl (mergeW i) o) i
  | [], _, o, ho, h0 => ⟨ho, .refl _, h0⟩
  | a :: L, hL, o, ho, h0 => by
    obtain ⟨g, d, z⟩ := merge_good hW ho hi (hL a (by simp)) h0
    obtain ⟨g', d', z'⟩ := merges_good hW hi L (fun b hb => hL b (by simp [hb])) _ g z
    exact ⟨g', d.trans d', z'⟩
theorem step_good {W : Nat → List Way} {n i : Nat} {o : List Int} (hW : GoodW W n) (hi : i < n) (ho : GoodO n o) : GoodO n (stepW W o i) ∧ Down o (stepW W o i) := by
  unfold stepW; split
  · exact ⟨ho, .refl _⟩
  · obtain ⟨g, d, _⟩ := merges_good hW hi (W i) (fun _ h => h) o ho (by omega)
    exact ⟨g, d⟩
theorem passes_good {W : Nat → List Way} {n : Nat} (hW : GoodW W n) {o : List Int} (ho : GoodO n o) : ∀ m, m ≤ n → GoodO n (passW W m o) ∧ Down o (passW W m o)
  | 0, _ => ⟨ho, .refl _⟩
  | m + 1, hm => by
    obtain ⟨g, d⟩ := passes_good hW ho m (by omega)
    obtain ⟨g', d'⟩ := step_good hW (i := m) (by omega) g
    unfold passW; rw [List.range_succ, List.foldl_append]
    exact ⟨g', d.trans d'⟩
theorem pass_succ (W : Nat → List Way) (m : Nat) (o : List Int) : passW W (m + 1) o = stepW W (passW W m o) m := by
  unfold passW; rw [List.range_succ, List.foldl_append]; rfl
def iterW (W : Nat → List Way) (n : Nat) : Nat → List Int → List Int
  | 0, o => o
  | k + 1, o => iterW W n k (passW W n o)
def finW (W : Nat → List Way) (n : Nat) (o : List Int) : List Int := iterW W n (mu o) o
theorem iter_fix {W : Nat → List Way} {n : Nat} {o : List Int} (h : passW W n o = o) : ∀ k, iterW W n k o = o
  | 0 => rfl
  | k + 1 => by unfold iterW; rw [h]; exact iter_fix h k
theorem iter_more {W : Nat → List Way} {n : Nat} (hW : GoodW W n) : ∀ (m : Nat) (o : List Int), mu o ≤ m → GoodO n o → iterW W n m o = finW W n o ∧ passW W n (iterW W n m o) = iterW W n m o ∧ GoodO n (iterW W n m o)
  | 0, o, hm, ho => by
    have e : mu o = 0 := by omega
    refine ⟨by unfold finW; rw [e], ?_, ho⟩
    rcases (passes_good hW ho n (Nat.le_refl n)).2 with h | h
    · exact h
    · omega
  | m + 1, o, hm, ho => by
    obtain ⟨g, d⟩ := passes_good hW ho n (Nat.le_refl n)
    rcases d with h | h
    · exact ⟨by unfold finW; rw [iter_fix h, iter_fix h], by rw [iter_fix h]; exact h, by rw [iter_fix h]; exact ho⟩
    · obtain ⟨a, b, c⟩ := iter_more hW m (passW W n o) (by omega) g
      refine ⟨?_, b, c⟩
      obtain ⟨q, hq⟩ : ∃ q, mu o = q + 1 := ⟨mu o - 1, by omega⟩
      have := (iter_more hW q (passW W n o) (by omega) g).1
      show iterW W n m (passW W n o) = _
      unfold finW; rw [hq]
      show _ = iterW W n q (passW W n o)
      rw [a, this]
  termination_by m => m
theorem fin_pass {W : Nat → List Way} {n : Nat} (hW : GoodW W n) {o : List Int} (ho : GoodO n o) : finW W n (passW W n o) = finW W n o := by
  obtain ⟨g, d⟩ := passes_good hW ho n (Nat.le_refl n)
  rcases d with h | h
  · rw [h]
  · obtain ⟨a, -, -⟩ := iter_more hW (mu o - 1) (passW W n o) (by omega) g
    obtain ⟨b, -, -⟩ := iter_more hW (mu o) o (by omega) ho
    rw [← a, ← b]
    obtain ⟨q, hq⟩ : ∃ q, mu o = q + 1 := ⟨mu o - 1, by omega⟩
    rw [hq]; rfl
theorem fin_fix {W : Nat → List Way} {n : Nat} {o : List Int} (h : passW W n o = o) : finW W n o = o := iter_fix h _
theorem fin_good {W : Nat → List Way} {n : Nat} (hW : GoodW W n) {o : List Int} (ho : GoodO n o) : passW W n (finW W n o) = finW W n o ∧ GoodO n (finW W n o) :=
  (iter_more hW (mu o) o (Nat.le_refl _) ho).2
inductive Reach (W : Nat → List Way) (n : Nat) : Int → Prop
  | first : Reach W n 0
  | next {i : Nat} {a : Way} : Reach W n i → i < n → a ∈ W i → Reach W n a.1
theorem fix_step {W : Nat → List Way} {n : Nat} (hW : GoodW W n) {o : List Int} (ho : GoodO n o) (h : passW W n o = o) : ∀ i, i < n → stepW W o i = o := by
  have key : ∀ m, m ≤ n → passW W m o = o := by
    intro m hm
    have : ∀ d, d ≤ n - m → Down (passW W m o) (passW W (m + d) o) := by
      intro d; induction d with
      | zero => intro _; exact .refl _
      | succ d ih =>
        intro hd
        refine (ih (by omega)).trans ?_
        rw [show m + (d + 1) = (m + d) + 1 by omega, pass_succ]
        exact (step_good hW (by omega) (passes_good hW ho (m + d) (by omega)).1).2
    have h2 := this (n - m) (Nat.le_refl _)
    rw [show m + (n - m) = n by omega] at h2
    exact ((passes_good hW ho m hm).2.stay h2 h).1
  intro i hi
  have h1 := key i (by omega)
  have h2 := key (i + 1) (by omega)
  rw [pass_succ, h1] at h2
  exact h2
theorem fix_merge {W : Nat → List Way} {n i : Nat} (hW : GoodW W n) (hi : i < n) : ∀ (L : List Way), (∀ a ∈ L, a ∈ W i) → ∀ o, GoodO n o → 0 ≤ at_ o i → L.foldl (mergeW i) o = o → ∀ a ∈ L, mergeW i o a = o
  | [], _, o, _, _, _ => fun a h => by simp at h
  | b :: L, hL, o, ho, h0, h => by
    obtain ⟨g, d, z⟩ := merge_good hW ho hi (hL b (by simp)) h0
    obtain ⟨g', d', z'⟩ := merges_good hW hi L (fun c hc => hL c (by simp [hc])) _ g z
    have e := d.stay d' h
    intro a ha
    rcases List.mem_cons.1 ha with rfl | ha
    · exact e.1
    · rw [List.foldl_cons, e.1] at h
      exact fix_merge hW hi L (fun c hc => hL c (by simp [hc])) o ho h0 h a ha
theorem fix_way {W : Nat → List Way} {n i : Nat} (hW : GoodW W n) {o : List Int} (ho : GoodO n o) (h : passW W n o = o) (hi : i < n) (h0 : 0 ≤ at_ o i) {a : Way} (ha : a ∈ W i) :
    both (at_ o a.1) (a.2 (at_ o i)) = at_ o a.1 := by
  have hs := fix_step hW ho h i hi
  unfold stepW at hs; rw [if_neg (by omega)] at hs
  have hm := fix_merge hW hi (W i) (fun _ h => h) o ho h0 hs a ha
  obtain ⟨t0, t1, hf⟩ := hW i hi a ha
  have : at_ (mergeW i o a) a.1 = at_ o a.1 := by rw [hm]
  unfold mergeW at this
  rwa [at_set_self (by rw [ho.1]; omega)] at this
theorem fix_goes {W : Nat → List Way} {n i : Nat} (hW : GoodW W n) {o : List Int} (ho : GoodO n o) (h : passW W n o = o) (hi : i < n) (h0 : 0 ≤ at_ o i) {a : Way} (ha : a ∈ W i) : 0 ≤ at_ o a.1 := by
  have := fix_way hW ho h hi h0 ha
  obtain ⟨t0, t1, hf⟩ := hW i hi a ha
  have hx := hf _ h0 (at_good ho i).2
  have hb := both_range (a := at_ o a.1) hx.1 hx.2
  omega
def Come (W : Nat → List Way) (n : Nat) (o : List Int) : Prop := ∀ i : Nat, i < n → 0 ≤ at_ o i → Reach W n i
theorem merge_come {W : Nat → List Way} {n i : Nat} {o : List Int} {a : Way} (hW : GoodW W n) (ho : GoodO n o) (hi : i < n) (ha : a ∈ W i) (h0 : 0 ≤ at_ o i) (hc : Come W n o) : Come W n (mergeW i o a) := by
  obtain ⟨t0, t1, hf⟩ := hW i hi a ha
  intro j hj h
  by_cases e : a.1.toNat = j
  · have : (j : Int) = a.1 := by omega
    rw [this]; exact .next (hc i hi h0) hi ha
  · unfold mergeW at h; rw [at_set_ne e] at h; exact hc j hj h
theorem merges_come {W : Nat → List Way} {n i : Nat} (hW : GoodW W n) (hi : i < n) : ∀ (L : List Way), (∀ a ∈ L, a ∈ W i) → ∀ o, GoodO n o → 0 ≤ at_ o i → Come W n o → Come W n (L.foldl (mergeW i) o)
  | [], _, o, _, _, hc => hc
  | a :: L, hL, o, ho, h0, hc => by
    obtain ⟨g, d, z⟩ := merge_good hW ho hi (hL a (by simp)) h0
    exact merges_come hW hi L (fun b hb => hL b (by simp [hb])) _ g z (merge_come hW ho hi (hL a (by simp)) h0 hc)
theorem pass_come {W : Nat → List Way} {n : Nat} (hW : GoodW W n) {o : List Int} (ho : GoodO n o) (hc : Come W n o) : ∀ m, m ≤ n → Come W n (passW W m o)
  | 0, _ => hc
  | m + 1, hm => by
    have ih := pass_come hW ho hc m (by omega)
    have g := (passes_good hW ho m (by omega)).1
    rw [pass_succ]; unfold stepW
    split
    · exact ih
    · exact merges_come hW (by omega) _ (fun _ h => h) _ g (by omega) ih
theorem iter_come {W : Nat → List Way} {n : Nat} (hW : GoodW W n) : ∀ k (o : List Int), GoodO n o → Come W n o → Come W n (iterW W n k o)
  | 0, o, _, hc => hc
  | k + 1, o, ho, hc => iter_come hW k _ (passes_good hW ho n (Nat.le_refl n)).1 (pass_come hW ho hc n (Nat.le_refl n))
def startO (n : Nat) : List Int := (List.replicate n (-1)).set 0 1
theorem start_good (n : Nat) : GoodO n (startO n) := by
  refine ⟨by simp [startO], fun x hx => ?_⟩
  rcases List.mem_or_eq_of_mem_set hx with h | h
  · have := (List.mem_replicate.1 h).2; omega
  · omega
theorem start_come (W : Nat → List Way) (n : Nat) : Come W n (startO n) := by
  intro i hi h
  by_cases e : 0 = i
  · subst e; exact .first
  · unfold startO at h; rw [at_set_ne e] at h
    simp [at_, List.getD_eq_getElem?_getD, hi] at h
def fullW (W : Nat → List Way) (n : Nat) : List Int := finW W n (startO n)
theorem full_good {W : Nat → List Way} {n : Nat} (hW : GoodW W n) : GoodO n (fullW W n) := (fin_good hW (start_good n)).2
theorem full_fix {W : Nat → List Way} {n : Nat} (hW : GoodW W n) : passW W n (fullW W n) = fullW W n := (fin_good hW (start_good n)).1
theorem merge_first {W : Nat → List Way} {n i : Nat} {o : List Int} {a : Way} (hW : GoodW W n) (ho : GoodO n o) (hi : i < n) (ha : a ∈ W i) (h0 : 0 ≤ at_ o i) (hc : 0 ≤ at_ o 0 ∧ at_ o 0 ≤ 1) : 0 ≤ at_ (mergeW i o a) 0 ∧ at_ (mergeW i o a) 0 ≤ 1 := by
  obtain ⟨t0, t1, hf⟩ := hW i hi a ha
  by_cases e : a.1.toNat = 0
  · have e' : a.1 = 0 := by omega
    unfold mergeW
    rw [e', at_set_self (by rw [ho.1]; omega)]
    unfold both; rw [if_neg (by omega)]
    have : (at_ o 0).toNat &&& (a.2 (at_ o i)).toNat ≤ (at_ o 0).toNat := Nat.and_le_left
    omega
  · unfold mergeW
    have := at_set_ne (o := o) (j := 0) (x := both (at_ o a.1) (a.2 (at_ o i))) e
    rw [show ((0 : Nat) : Int) = 0 from rfl] at this
    rw [this]; exact hc
theorem full_first {W : Nat → List Way} {n : Nat} (hW : GoodW W n) (hn : 0 < n) : 0 ≤ at_ (fullW W n) 0 ∧ at_ (fullW W n) 0 ≤ 1 := by
  have merges : ∀ i, i < n → ∀ (L : List Way), (∀ a ∈ L, a ∈ W i) → ∀ o, GoodO n o → 0 ≤ at_ o i → (0 ≤ at_ o 0 ∧ at_ o 0 ≤ 1) → 0 ≤ at_ (L.foldl (mergeW i) o) 0 ∧ at_ (L.foldl (mergeW i) o) 0 ≤ 1 := by
    intro i hi L
    induction L with
    | nil => intro _ o _ _ hc; exact hc
    | cons a L ih =>
      intro hL o ho h0 hc
      obtain ⟨g, d, z⟩ := merge_good hW ho hi (hL a (by simp)) h0
      exact ih (fun b hb => hL b (by simp [hb])) _ g z (merge_first hW ho hi (hL a (by simp)) h0 hc)
  have pass : ∀ o, GoodO n o → (0 ≤ at_ o 0 ∧ at_ o 0 ≤ 1) → ∀ m, m ≤ n → 0 ≤ at_ (passW W m o) 0 ∧ at_ (passW W m o) 0 ≤ 1 := by
    intro o ho hc m
    induction m with
    | zero => intro _; exact hc
    | succ m ih =>
      intro hm
      have g := (passes_good hW ho m (by omega)).1
      rw [pass_succ]; unfold stepW
      split
      · exact ih (by omega)
      · exact merges m (by omega) _ (fun _ h => h) _ g (by omega) (ih (by omega))
  have iter : ∀ k o, GoodO n o → (0 ≤ at_ o 0 ∧ at_ o 0 ≤ 1) → 0 ≤ at_ (iterW W n k o) 0 ∧ at_ (iterW W n k o) 0 ≤ 1 := by
    intro k
    induction k with
    | zero => intro o _ hc; exact hc
    | succ k ih => intro o ho hc; exact ih _ (passes_good hW ho n (Nat.le_refl n)).1 (pass o ho hc n (Nat.le_refl n))
  refine iter _ _ (start_good n) ?_
  unfold startO; rw [show at_ ((List.replicate n (-1)).set 0 1) 0 = 1 from at_set_self (i := 0) (by simpa using hn)]; omega
theorem full_reach {W : Nat → List Way} {n : Nat} (hW : GoodW W n) (hn : 0 < n) {i : Int} : (0 ≤ i ∧ i < n ∧ 0 ≤ at_ (fullW W n) i) ↔ Reach W n i := by
  constructor
  · rintro ⟨h0, h1, h2⟩
    have := iter_come hW (mu (startO n)) _ (start_good n) (start_come W n) i.toNat (by omega)
    rw [Int.toNat_of_nonneg h0] at this
    exact this h2
  · intro h
    induction h with
    | first => exact ⟨by omega, by omega, (full_first hW hn).1⟩
    | next _ hi ha ih =>
      obtain ⟨t0, t1, hf⟩ := hW _ hi _ ha
      exact ⟨t0, t1, fix_goes hW (full_good hW) (full_fix hW) hi ih.2.2 ha⟩
end Go.Proofs.Ytmklpbmlgjkbiaa.PS
end
section
namespace Go.Proofs.Ytmklpbmlgjkbiaa.PS
open Go.RowKit Go.Proofs.YtmklpbmlgjkbiaaW.PrintWords Go.Proofs.YtmklpbmlgjkbiaaW.PrintLast
set_option linter.unusedVariables false
set_option linter.unusedSimpArgs false
set_option maxRecDepth 100000
theorem flow_same (x : Int) (w : World) : Calls Try.prog 94 #[.int .i64 x] w fun e w' => e = .returned (.int .i64 x) ∧ w = w' := by
  go_enter Try.func94, Try.ntmps94
  go_wp2
  go_ret
  exact ⟨rfl, rfl⟩
theorem flow_one (x : Int) (w : World) : Calls Try.prog 96 #[.int .i64 x] w fun e w' => e = .returned (.int .i64 1) ∧ w = w' := by
  go_enter Try.func96, Try.ntmps96
  go_wp2
  go_ret
  exact ⟨rfl, rfl⟩
def orBit (x r : Int) : Int := bits BinOp.or IntKind.i64 x (wrap64 (2 ^ r.toNat))
theorem orBit_range {x r : Int} (hx : 0 ≤ x) (hx2 : x ≤ 15) (hr : 0 ≤ r) (hr2 : r ≤ 3) : 0 ≤ orBit x r ∧ orBit x r ≤ 15 := by
  have : fours (fun x => fours fun r => decide (r ≤ 3 → 0 ≤ orBit x r ∧ orBit x r ≤ 15)) = true := by decide +kernel
  exact of_decide_eq_true (fours_all (fours_all this hx hx2) hr (by omega)) hr2
theorem flow_fill (x r : Int) (hr : 0 ≤ r) (hr2 : r ≤ 3) (B : Nat) (w : World) (hB : w.cell? ⟨B, 1, none⟩ = some (.int .i64 r)) : Calls Try.prog 95 #[.int .i64 x, .pointer (some ⟨B, 0, none⟩)] w fun e w' => e = .returned (.int .i64 (orBit x r)) ∧ w = w' := by
  go_enter Try.func95, Try.ntmps95
  go_wp2
  go_ret
  exact ⟨rfl, rfl⟩
def flF (f : Fl) (r x : Int) : Int :=
  match f with
  | .same => x
  | .fill => orBit x r
  | .one => 1
theorem flow_any (f : Fl) (r x : Int) (hf : f = .fill → 0 ≤ r ∧ r ≤ 3) (B : Nat) (w : World) (hB : w.cell? ⟨B, 1, none⟩ = some (.int .i64 r)) (ff : Nat) (lb : Array Value) (he : f.val B = .func (.func ff) #[] lb) :
    Calls Try.prog ff (#[.int .i64 x] ++ lb) w fun e w' => e = .returned (.int .i64 (flF f r x)) ∧ w = w' := by
  cases f <;> (simp [Fl.val] at he; obtain ⟨rfl, rfl⟩ := he)
  · exact flow_same x w
  · exact flow_fill x r (hf rfl).1 (hf rfl).2 B w hB
  · exact flow_one x w
theorem flow_enter (f : Fl) (B : Nat) (ff : Nat) (lb : Array Value) (he : f.val B = .func (.func ff) #[] lb) : ∀ args w, (callFunc ff args).run Try.prog w = .ok (.enter ff args) w := by
  cases f <;> (simp [Fl.val] at he; obtain ⟨rfl, rfl⟩ := he)
  · exact fun _ _ => by kernel_rfl
  · exact fun _ _ => by kernel_rfl
  · exact fun _ _ => by kernel_rfl
theorem and_both {a x : Int} (ha : -1 ≤ a) (ha' : a ≤ 15) (h0 : 0 ≤ x) (h1 : x ≤ 15) : bits BinOp.and IntKind.i64 a x = both a x := by
  by_cases h : a = -1
  · subst h
    have : fours (fun x => decide (bits BinOp.and IntKind.i64 (-1) x = both (-1) x)) = true := by decide +kernel
    exact of_decide_eq_true (fours_all this h0 h1)
  · have : fours (fun a => fours fun x => decide (bits BinOp.and IntKind.i64 a x = both a x)) = true := by decide +kernel
    exact of_decide_eq_true (fours_all (fours_all this (by omega) ha') h0 h1)
def wayW (l : List S29) (i : Nat) : List Way := (waysL l i).map fun a => (a.1, flF a.2 (rd_T29 l i).f1)
def fullL (l : List S29) : List Int := fullW (wayW l) l.length
def fullV.f (l : List S29) : Option (List Int) := if codeB l = true then some (fullL l) else none
theorem code_len {l : List S29} (h : codeB l = true) : 1 ≤ l.length ∧ l.length ≤ 16 := by
  unfold codeB at h; simp at h; omega
theorem code_op {l : List S29} (h : codeB l = true) {i : Nat} (hi : i < l.length) : opP l[i].f0 l[i].f1 l[i].f2 l[i].f3 l[i].f4.f0 l[i].f4.f1 ∧ (hasT l[i].f0 = true → l[i].f3 < l.length) := by
  have h2 : l.any (wrongB l.length) = false := by unfold codeB at h; simp only [Bool.and_eq_true, Bool.not_eq_true'] at h; exact h.2
  have := List.any_eq_false.1 h2 l[i] (List.getElem_mem hi)
  unfold wrongB opS at this
  simp only [Bool.or_eq_true, Bool.not_eq_true', Bool.and_eq_true, decide_eq_true_eq, not_or] at this
  refine ⟨opB_true.1 (by simpa using this.1), fun ht => ?_⟩
  have := this.2
  simp [ht] at this; omega
theorem rd29_get {l : List S29} {i : Nat} (h : i < l.length) : rd_T29 l (i : Int) = l[i] := by
  unfold rd_T29; simp [List.getD_eq_getElem?_getD, List.getElem?_eq_getElem h]
theorem code_way {l : List S29} (h : codeB l = true) {i : Nat} (hi : i < l.length) {a : Int × Fl} (ha : a ∈ waysL l i) : 0 ≤ a.1 ∧ a.1 < l.length ∧ (a.2 = .fill → 0 ≤ (rd_T29 l i).f1 ∧ (rd_T29 l i).f1 ≤ 3) := by
  obtain ⟨⟨h1, h2, h3, h4, h5, h6⟩, ht⟩ := code_op h hi
  unfold waysL arrowsL at ha
  rw [rd29_get hi] at ha ⊢
  rcases List.mem_append.1 ha with ha | ha
  · split at ha
    · cases ha
    · split at ha
      · obtain rfl := List.mem_singleton.1 ha
        refine ⟨by simp; omega, by simp; omega, fun hf => ?_⟩
        have hh : (howR l[i].f0).f3 = true := by
          by_cases e : (howR l[i].f0).f3 = true
          · exact e
          · simp [e] at hf
        rcases h3 with h3 | h3
        · omega
        · exact h3.2
      · cases ha
  · have tt : hasT l[i].f0 = true → 0 ≤ l[i].f3 := fun h => by omega
    split at ha
    · rename_i h5'
      obtain rfl := List.mem_singleton.1 ha
      have h6 : hasT l[i].f0 = true := by rw [h5']; rfl
      exact ⟨tt h6, ht h6, fun hf => by cases hf⟩
    · split at ha
      · rename_i h6
        obtain rfl := List.mem_singleton.1 ha
        exact ⟨tt h6, ht h6, fun hf => by cases hf⟩
      · cases ha
theorem wayW_good {l : List S29} (h : codeB l = true) : GoodW (wayW l) l.length := by
  intro i hi a ha
  obtain ⟨b, hb, rfl⟩ := List.mem_map.1 ha
  obtain ⟨h0, h1, h2⟩ := code_way h hi hb
  refine ⟨h0, h1, fun x hx hx2 => ?_⟩
  obtain ⟨t, f⟩ := b
  cases f with
  | same => exact ⟨hx, hx2⟩
  | fill => exact orBit_range hx hx2 (h2 rfl).1 (h2 rfl).2
  | one => exact ⟨by show (0 : Int) ≤ 1; decide, by show (1 : Int) ≤ 15; decide⟩
def RI (w : World) (g n c : Nat) (out : List Int) (wr : World) : Prop := Kd.R (Kd.int .i64) 3 wr w.heap.size (fun _ => True) (.slice (some ⟨g, 0, none⟩) n c) out ∧ Below w.heap.size w wr
theorem ri_len {w : World} {g n c : Nat} {out : List Int} {wr : World} (h : RI w g n c out wr) : out.length = n := (Kd.R_reads' h.1).1.symm
theorem ri_cell {w : World} {g n c : Nat} {out : List Int} {wr : World} (h : RI w g n c out wr) (i : Int) (h0 : 0 ≤ i) (h1 : i < n) : wr.cell? ⟨g, i.toNat, none⟩ = some (.int .i64 (at_ out i)) ∧ wr.frozen? ⟨g, i.toNat, none⟩ = false := Kd.R_celln 0 h.1 i h0 h1
theorem ri_set {w : World} {g n c : Nat} {out : List Int} {wr : World} (h : RI w g n c out wr) (i : Int) (x : Int) : RI w g n c (out.set i.toNat x) (wr.setCell ⟨g, i.toNat, none⟩ (.int .i64 x)) := by
  have hg : w.heap.size ≤ g := Kd.R_base h.1 g (by simp [Value.ownBlock])
  exact ⟨(Kd.R_putg h.1 i x).1, below_set h.2 hg⟩
theorem ri_below {w : World} {g n c : Nat} {out : List Int} {wr w2 : World} (h : RI w g n c out wr) (hb : Below wr.heap.size wr w2) : RI w g n c out w2 := ⟨Kd.R_below h.1 hb, below_step h.2 hb⟩
theorem ri_lt {w : World} {g n c : Nat} {out : List Int} {wr : World} (h : RI w g n c out wr) : w.heap.size ≤ g ∧ g < wr.heap.size := ⟨Kd.R_base h.1 g (by simp [Value.ownBlock]), Kd.R_lt h.1 g (by simp [Value.ownBlock])⟩
theorem ri_store {ops : Array Oper} {rest : List Oper} {o : Oper} {a : Act} {Q : Exit → Act → World → Prop} {w W : World} {g n c : Nat} {out : List Int} (hN : o.dst = none) (hgd : o.guard = none) (p v : Operand) (ho : o.op = .store 3 p v) (i x : Int) {o' : Nat}
    (haddr : a.eval p = .pointer (some ⟨g, o', none⟩)) (hoff : o' = i.toNat) (hx : a.eval v = .int .i64 x) (HR : RI w g n c out W) (h0 : 0 ≤ i) (h1 : i < n)
    (h : ∀ w1, RI w g n c (out.set i.toNat x) w1 → W.grownBy w1 (some g) → wpList Try.prog ops Q rest a w1) : wpList Try.prog ops Q (o :: rest) a W := by
  have hc := (ri_cell HR i h0 h1).1
  refine Kd.R_store (Kd.int .i64) w.heap.size hN hgd 3 p v ho 3 i 0 out x (.int .i64 x) [.int .i64 x] [.int .i64 (at_ out i)] (fun _ => True) (fun _ => False) haddr (by rw [hoff]; show i.toNat = i.toNat * 1 + 0; omega) hx rfl (by kernel_rfl) (by simp [Value.oneCell']) HR.1 h0 h1 rfl ?_ (by show 0 + 1 ≤ 1; omega) rfl (fun k hk => hk.elim) HR.2 ?_
  · intro j u hu
    cases j with
    | zero =>
      have e : u = .int .i64 (at_ out i) := by simpa using hu.symm
      rw [e]
      show W.cell? ⟨g, i.toNat * 1 + 0, none⟩ = _
      rw [show i.toNat * 1 + 0 = i.toNat by omega]
      exact hc
    | succ j => simp at hu
  · intro w1 k1 k2 k3
    exact h w1 ⟨k1, k2⟩ k3
def But (w1 wr : World) (g : Nat) : Prop := w1.heap.size ≤ wr.heap.size ∧ ∀ b, b < w1.heap.size → b ≠ g → wr.heap[b]? = w1.heap[b]?
theorem but_below {w1 wr w2 : World} {g : Nat} (h : But w1 wr g) (hb : Below wr.heap.size wr w2) : But w1 w2 g := ⟨Nat.le_trans h.1 hb.size, fun b h1 h2 => (hb.block b (Nat.lt_of_lt_of_le h1 h.1)).trans (h.2 b h1 h2)⟩
theorem but_grown {w1 wr w2 : World} {g : Nat} (h : But w1 wr g) (hg : wr.grownBy w2 (some g)) : But w1 w2 g := ⟨Nat.le_trans h.1 hg.size, fun b h1 h2 => (hg.block b (Nat.lt_of_lt_of_le h1 h.1) (fun e => h2 (by injection e))).trans (h.2 b h1 h2)⟩
def PB (l : List S29) (w : World) (g c0 : Nat) (o : List Int) (c : Bool) (wr : World) : Prop :=
  GoodO l.length o ∧ finW (wayW l) l.length o = fullL l ∧ (c = false → passW (wayW l) l.length o = o) ∧ RI w g l.length c0 o wr
def PC (l : List S29) (w : World) (g c0 : Nat) (o : List Int) (j : Nat) (c : Bool) (wr : World) : Prop :=
  c = decide (mu (passW (wayW l) j o) < mu o) ∧ RI w g l.length c0 (passW (wayW l) j o) wr
def PD (l : List S29) (w : World) (g c0 : Nat) (o : List Int) (j m : Nat) (c : Bool) (w1 wr : World) : Prop :=
  c = decide (mu (((wayW l j).take m).foldl (mergeW j) (passW (wayW l) j o)) < mu o) ∧ RI w g l.length c0 (((wayW l j).take m).foldl (mergeW j) (passW (wayW l) j o)) wr ∧ But w1 wr g
set_option maxHeartbeats 8000000 in
theorem full_walk (A0 : Option Addr) (c0 : Nat) (l0 : List S29) (w : World) (hr0 : Kd.C k29 w A0 l0.length l0) (hg : codeB l0 = true) :
    Calls Try.prog 80 #[.slice A0 l0.length c0] w fun e w' => ∃ v, e = .returned v ∧ Kd.R (Kd.int .i64) 3 w' w.heap.size (fun _ => True) v (fullL l0) ∧ Below w.heap.size w w' := by
  obtain ⟨hl1, hl2⟩ := code_len hg
  have HG := Aside0.mk hg
  have HR0 := Aside0.mk hr0
  clear hg hr0
  obtain ⟨n, hn0⟩ : ∃ n, n = l0.length := ⟨_, rfl⟩
  rw [← hn0] at hl1 hl2 ⊢
  have hn := Aside0.mk hn0
  clear hn0
  have hn0 : (0 : Int) < (n : Int) := by omega
  have hnn : 0 < n := by omega
  go_enter Try.func80, Try.ntmps80
  go_wp2_with (first | ((with_reducible refine gate_dst (N := 12) rfl ?_); refine Kd.R_make (Kd.int .i64) _ 3 rfl (N := 12) rfl 32 _ _ rfl (n : Int) rfl rfl Try.underlying32 (.int .i64 0) 8 info3 rfl (by decide) (by omega) 0 (ok := fun _ => True) (okp := fun _ => True) rfl (fun _ hk => hk) trivial (by omega) (by omega) (Below.refl _ _) (Nat.le_refl _) ?_; intro v1 w1 ho5 hb hg_ hnew_; clear hg_ hnew_; rw [Int.toNat_natCast] at ho5; obtain ⟨g, c, eg, gb, gl, hh⟩ := Kd.R_form ho5 (by rw [List.length_replicate]; exact hnn); rw [List.length_replicate] at eg; subst eg; have H1 : Aside0 (RI w g n c (List.replicate n 0) w1) := ⟨ho5, hb⟩; clear ho5 hb gb gl hh))
  go_loopg [15] n (fun gg s15 wr => ∃ k : Nat, k ≤ n ∧ n - k ≤ gg ∧ s15 = .int .i64 (k : Int) ∧ Aside0 (RI w g n c (List.replicate k (-1) ++ List.replicate (n - k) 0) wr))
  case atStart => exact ⟨0, Nat.zero_le _, by omega, rfl, by simpa using H1⟩
  case round =>
    clear H1
    obtain ⟨k, hk, hgg, rfl, H1⟩ := hrel
    by_cases hlt : k < n
    · have hltz : (k : Int) < (n : Int) := by omega
      have h0z : (0 : Int) ≤ (k : Int) := by omega
      obtain ⟨x0, x1⟩ := ri_cell H1.out (k : Int) h0z hltz
      rw [Int.toNat_natCast] at x0 x1
      have H2 : Aside0 (RI w g n c (List.replicate (k + 1) (-1) ++ List.replicate (n - (k + 1)) 0) (wr.setCell ⟨g, k, none⟩ (.int .i64 (-1)))) := ⟨by
        have := ri_set H1.out (k : Int) (-1)
        rw [Int.toNat_natCast] at this
        have e : (List.replicate k (-1) ++ List.replicate (n - k) (0 : Int)).set k (-1) = List.replicate (k + 1) (-1) ++ List.replicate (n - (k + 1)) 0 := by
          rw [List.set_append_right _ _ (by simp), List.length_replicate, Nat.sub_self, show n - k = (n - (k + 1)) + 1 by omega, List.replicate_succ, List.set_cons_zero, List.replicate_succ', List.append_assoc]
          rfl
        rw [← e]; exact this⟩
      go_wp2
      go_roundg (n - (k + 1))
      case measure => omega
      case rel => exact ⟨k + 1, by omega, by omega, by go_num, H2⟩
    · have hltz : ¬ (k : Int) < (n : Int) := by omega
      obtain rfl : k = n := by omega
      go_wp2_with (first | ((with_reducible refine gate_store (t := 3) (p := 23) rfl ?_); refine ri_store rfl rfl (.tmp 23) _ rfl 0 1 rfl rfl rfl H1.out (by omega) (by omega) ?_; intro w2 h2 _; have H2 : Aside0 (RI w g k c (startO k) w2) := (by have e : (List.replicate k (-1) ++ List.replicate (k - k) (0 : Int)).set (Int.toNat 0) 1 = startO k := (by simp [startO]); rw [← e]; exact ⟨h2⟩); clear h2 H1))
      have hl0 := hn.out
      subst hl0
      obtain ⟨n, hn⟩ : ∃ n, n = l0.length := ⟨_, rfl⟩
      have HS : Aside0 (PB l0 w g c (startO l0.length) true w2) := ⟨start_good _, rfl, (fun h => by cases h), H2.out⟩
      have hM := Nat.le_refl (mu (startO l0.length) + 1)
      obtain ⟨M, hM0⟩ : ∃ M, M = mu (startO l0.length) + 1 := ⟨_, rfl⟩
      rw [← hM0] at hM
      go_loopg [5] M (fun gg s5 wr => ∃ (o : List Int) (c5 : Bool), s5 = .bool c5 ∧ mu o + c5.toNat ≤ gg ∧ Aside0 (PB l0 w g c o c5 wr))
      case atStart => exact ⟨startO l0.length, true, rfl, by rw [hM0]; exact Nat.le_refl _, HS⟩
      case round =>
        clear HS hM0 hM H2
        obtain ⟨o, c5, rfl, hgg, HS⟩ := hrel
        cases c5 with
        | false =>
          go_wp2
          go_ret
          obtain ⟨k1, k2, k3, k4⟩ := HS.out
          have e : o = fullL l0 := by rw [← k2, fin_fix (k3 rfl)]
          rw [← e]
          exact ⟨_, rfl, k4.1, k4.2⟩
        | true =>
          obtain ⟨wo, hwo⟩ : ∃ wo : World, wo = wr := ⟨_, rfl⟩
          subst hwo
          obtain ⟨gB, hgB⟩ : ∃ gB : Nat, gB = gk := ⟨_, rfl⟩
          subst hgB
          go_wp2
          have HC0 : Aside0 (PC l0 w g c o 0 false wo) := ⟨by obtain ⟨k1, k2, k3, k4⟩ := HS.out; exact ⟨by simp [passW], k4⟩⟩
          go_loopg [5, 27] l0.length (fun gg s5 s27 wr => ∃ (j : Nat) (c5 : Bool), j ≤ l0.length ∧ l0.length - j ≤ gg ∧ s27 = .int .i64 (j : Int) ∧ s5 = .bool c5 ∧ Aside0 (PC l0 w g c o j c5 wr))
          case atStart => exact ⟨0, false, Nat.zero_le _, Nat.sub_le _ _, rfl, rfl, HC0⟩
          case round =>
            clear HC0
            obtain ⟨j, c5, hj, hgg2, rfl, rfl, HC⟩ := hrel
            by_cases hlt : j < l0.length
            · have hltz : (j : Int) < (l0.length : Int) := by omega
              have h0z : (0 : Int) ≤ (j : Int) := by omega
              obtain ⟨x0, -⟩ := ri_cell HC.out.2 (j : Int) h0z hltz
              rw [Int.toNat_natCast] at x0
              obtain ⟨x, hx⟩ : ∃ x, x = at_ (passW (wayW l0) j o) j := ⟨_, rfl⟩
              rw [← hx] at x0
              by_cases hneg : x < 0
              · have HC2 : Aside0 (PC l0 w g c o (j + 1) c5 wr) := ⟨by
                  have e : passW (wayW l0) (j + 1) o = passW (wayW l0) j o := by rw [pass_succ]; unfold stepW; rw [if_pos (by rw [← hx]; exact hneg)]
                  unfold PC; rw [e]; exact HC.out⟩
                clear hx HC
                go_wp2
                go_roundg (l0.length - (j + 1))
                case measure => omega
                case rel => exact ⟨j + 1, c5, by omega, by omega, by go_num, rfl, HC2⟩
              · have hx1 := Aside0.mk hx
                have hng := Aside0.mk hneg
                have hneg0 : decide (x < 0) = false := decide_eq_false hneg
                have hAr := impl_arrows A0 c0 l0 j wr (Kd.C_below HR0.out HC.out.2.2) hlt hl2
                clear hx hneg
                obtain ⟨wc, hwc⟩ : ∃ wc : World, wc = wr := ⟨_, rfl⟩
                subst hwc
                obtain ⟨gC, hgC⟩ : ∃ gC : Nat, gC = gk := ⟨_, rfl⟩
                subst hgC
                go_wp2_with (go_at_call 77; refine hAr.mono ?_; rintro e w3 ⟨v, rfl, hown, hbox, hb1⟩; obtain ⟨A, ca, rfl, hA, hcells⟩ := way_at hown)
                have HD0 : Aside0 (PD l0 w g c o j 0 c5 w3 w3) := ⟨⟨HC.out.1, ri_below HC.out.2 hb1, Nat.le_refl _, fun _ _ _ => rfl⟩⟩
                have hBox := blk_cell hbox 1
                have hgl := (ri_lt HC.out.2).2
                have HF := Aside0.mk (fun (m : Nat) (hm : m < (waysL l0 j).length) => code_way HG.out hlt (List.getElem_mem hm))
                have h3 := Aside0.mk hb1.size
                have hlb := Aside0.mk (blk_lt hbox)
                have h2w := ways_two l0 j
                clear hAr hown hbox hb1 hA
                have HCells := Aside0.mk hcells
                have HBox := Aside0.mk hBox
                clear hcells hBox x0
                go_loopg [5, 39] (waysL l0 j).length (fun gg s5 s39 wr => ∃ (m : Nat) (c5 : Bool), m ≤ (waysL l0 j).length ∧ (waysL l0 j).length - m ≤ gg ∧ s39 = .int .i64 (m : Int) ∧ s5 = .bool c5 ∧ Aside0 (PD l0 w g c o j m c5 w3 wr))
                case atStart => exact ⟨0, c5, Nat.zero_le _, Nat.sub_le _ _, rfl, rfl, HD0⟩
                case round =>
                  clear HD0
                  obtain ⟨m, d5, hm, hgg3, rfl, rfl, HD⟩ := hrel
                  by_cases hmt : m < (waysL l0 j).length
                  · have hmtz : (m : Int) < ((waysL l0 j).length : Int) := by omega
                    have h0m : (0 : Int) ≤ (m : Int) := by omega
                    obtain ⟨g2, rfl, hg1, hg2, y0, y1⟩ := HCells.out m hmt
                    obtain ⟨ht0, ht1, hfl⟩ := HF.out m hmt
                    obtain ⟨D1, D2, D3, D4⟩ := HD.out
                    have tr : ∀ (b k : Nat) (u : Value), b < w3.heap.size → b ≠ g → w3.cell? ⟨b, k, none⟩ = some u → wr.cell? ⟨b, k, none⟩ = some u := fun b k u h1 h2 h3 => by
                      rw [← h3]; simp only [World.cell?, D4 b h1 h2]
                    replace y0 := tr _ _ _ hg2 (by omega) y0
                    replace y1 := tr _ _ _ hg2 (by omega) y1
                    have yB := tr _ _ _ hlb.out (by omega) (show w3.cell? ⟨wc.heap.size, 1, none⟩ = some (.int .i64 (rd_T29 l0 j).f1) from HBox.out)
                    obtain ⟨q, hq0⟩ : ∃ q, q = ((wayW l0 j).take m).foldl (mergeW j) (passW (wayW l0) j o) := ⟨_, rfl⟩
                    rw [← hq0] at D1 D2
                    have hwm : m < (wayW l0 j).length := by simp [wayW]; exact hmt
                    have hway : (wayW l0 j)[m] = ((waysL l0 j)[m].1, flF (waysL l0 j)[m].2 (rd_T29 l0 j).f1) := by simp [wayW]
                    have hq1 : ((wayW l0 j).take (m + 1)).foldl (mergeW j) (passW (wayW l0) j o) = mergeW j q (wayW l0 j)[m] := by
                      rw [List.take_succ_eq_append_getElem hwm, List.foldl_append, ← hq0]; rfl
                    obtain ⟨gp, dp⟩ := passes_good (wayW_good HG.out) HS.out.1 j (by omega)
                    obtain ⟨gq, dq, zq⟩ := merges_good (wayW_good HG.out) hlt ((wayW l0 j).take m) (fun _ h => List.mem_of_mem_take h) _ gp (by rw [← hx1.out]; have := hng.out; omega)
                    rw [← hq0] at gq dq zq
                    obtain ⟨gq2, dq2, -⟩ := merge_good (wayW_good HG.out) gq hlt (List.getElem_mem hwm) zq
                    have hmu1 := (dp.trans dq)
                    rw [hway] at gq2 dq2 hq1
                    obtain ⟨to_, hto⟩ : ∃ x, x = (waysL l0 j)[m].1 := ⟨_, rfl⟩
                    obtain ⟨f, hf⟩ : ∃ x, x = (waysL l0 j)[m].2 := ⟨_, rfl⟩
                    obtain ⟨rr, hrr⟩ : ∃ x, x = (rd_T29 l0 j).f1 := ⟨_, rfl⟩
                    rw [← hto] at y0 ht0 ht1 gq2 dq2 hq1
                    rw [← hf] at y1 hfl gq2 dq2 hq1
                    rw [← hrr] at yB hfl gq2 dq2 hq1
                    obtain ⟨ff, lb, hfn⟩ := val_func wc.heap.size f
                    rw [hfn] at y1
                    obtain ⟨u, hu⟩ : ∃ u, u = at_ q j := ⟨_, rfl⟩
                    obtain ⟨z, hz⟩ : ∃ z, z = at_ q to_ := ⟨_, rfl⟩
                    obtain ⟨v0, -⟩ := ri_cell D2 (j : Int) h0z hltz
                    obtain ⟨v1, v2⟩ := ri_cell D2 to_ ht0 ht1
                    rw [Int.toNat_natCast, ← hu] at v0
                    rw [← hz] at v1
                    have hu15 := (at_good gq j).2
                    have hz15 := at_good gq to_
                    rw [← hu] at zq hu15
                    rw [← hz] at hz15
                    have hfr : 0 ≤ flF f rr u ∧ flF f rr u ≤ 15 := by
                      have := (wayW_good HG.out j hlt _ (List.getElem_mem hwm)).2.2 u zq hu15
                      rw [hway, ← hf, ← hrr] at this
                      exact this
                    have hand := and_both hz15.1 hz15.2 hfr.1 hfr.2
                    have hcall := fun (W : World) (hB : W.cell? ⟨wc.heap.size, 1, none⟩ = some (.int .i64 rr)) => flow_any f rr u hfl wc.heap.size W hB ff lb hfn
                    have eg := flow_enter f wc.heap.size ff lb hfn
                    obtain ⟨fx, hfx⟩ : ∃ fx, fx = flF f rr u := ⟨_, rfl⟩
                    rw [← hfx] at hcall hand hfr
                    obtain ⟨nw, hnw⟩ : ∃ nw, nw = both z fx := ⟨_, rfl⟩
                    rw [← hnw] at hand
                    have hmg : mergeW j q (to_, flF f rr) = q.set to_.toNat nw := by
                      show q.set to_.toNat (both (at_ q to_) (flF f rr (at_ q j))) = _
                      rw [← hu, ← hz, ← hfx, ← hnw]
                    rw [hmg] at gq2 dq2 hq1
                    have HQ := Aside0.mk hq1
                    have HM := Aside0.mk hmu1
                    have DQ := Aside0.mk dq2
                    have HD1 := Aside0.mk D1
                    have HR1 := Aside0.mk D2
                    have HBt : Aside0 (But w3 wr g) := ⟨D3, D4⟩
                    have HZ := Aside0.mk hz
                    clear hq1 hmu1 dq2 D1 D2 D3 D4 hmg hq0 hway dp dq gp gq gq2 hto hf hrr hu hz hfn hfx hnw tr HD hfr hfl hz15 hwm
                    have hbl := below_alloc (Below.refl wr.heap.size wr) (.cells #[.int .i64 to_, .func (.func ff) #[] lb] 77)
                    have nb := blk_new wr (.cells #[.int .i64 to_, .func (.func ff) #[] lb] 77)
                    have HA5 := Aside0.mk hbl
                    have tr2 : ∀ (b k : Nat) (u : Value), wr.cell? ⟨b, k, none⟩ = some u → (wr.alloc (.cells #[.int .i64 to_, .func (.func ff) #[] lb] 77)).cell? ⟨b, k, none⟩ = some u := fun b k u h => (hbl.cell (World.block_lt_of_cell? wr _ h)).trans h
                    have hfz : (wr.alloc (.cells #[.int .i64 to_, .func (.func ff) #[] lb] 77)).frozen? ⟨g, to_.toNat, none⟩ = false := (hbl.frozen (World.block_lt_of_cell? wr _ v1)).trans v2
                    have p0 := tr2 _ _ _ v0
                    have p1 := tr2 _ _ _ v1
                    have pB := tr2 _ _ _ yB
                    have n0 := (blk_cell nb 0).trans (show _ = some (Value.int .i64 to_) from rfl)
                    have n1 := (blk_cell nb 1).trans (show _ = some (Value.func (.func ff) #[] lb) from rfl)
                    have hcl := fun nn => hcall ((wr.alloc (.cells #[.int .i64 to_, .func (.func ff) #[] lb] 77)).drewN nn) pB
                    clear hbl nb tr2 v0 v1 v2 yB hcall pB
                    go_wp2
                    obtain ⟨w5, hw5⟩ : ∃ w5, w5 = wr.alloc (.cells #[.int .i64 to_, .func (.func ff) #[] lb] 77) := ⟨_, rfl⟩
                    rw [← hw5] at HA5 hfz p0 p1 n0 n1 hcl ⊢
                    clear hw5
                    go_quiet ((go_at_fn ff; exact Calls.quiet_of_same ((hcl _).mono fun e w' h => ⟨h.1, h.2.symm⟩)))
                    have HB6 := Aside0.mk (below_step HA5.out (pw_below_drewN (Below.refl w5.heap.size w5) nq))
                    have HT := Aside0.mk hfz
                    by_cases hqz : nw = z
                    · have hqb : (nw != z) = false := by simp [hqz]
                      have hqe : (nw == z) = true := by simp [hqz]
                      have HE : Aside0 (q.set to_.toNat nw = q) := ⟨by
                        rw [hqz, HZ.out]
                        have := set_at (o := q) (i := to_.toNat)
                        rwa [Int.toNat_of_nonneg ht0] at this⟩
                      have HD2 : Aside0 (PD l0 w g c o j (m + 1) d5 w3 (w5.drewN nq)) := ⟨by
                        unfold PD; rw [HQ.out, HE.out]
                        exact ⟨HD1.out, ri_below HR1.out HB6.out, but_below HBt.out HB6.out⟩⟩
                      clear hqz
                      go_wp2
                      go_roundg ((waysL l0 j).length - (m + 1))
                      case measure => omega
                      case rel => exact ⟨m + 1, d5, by omega, by omega, by go_num, rfl, HD2⟩
                    · have hqb : (nw != z) = true := by simp [hqz]
                      have hqe : (nw == z) = false := by simp [hqz]
                      have HE : Aside0 (mu (q.set to_.toNat nw) < mu o) := ⟨by
                        have hne : q.set to_.toNat nw ≠ q := fun e => hqz (by
                          have := at_set_self (o := q) (i := to_) (x := nw) (by rw [ri_len HR1.out]; omega)
                          rw [e] at this; rw [HZ.out, this])
                        have h1 : mu (q.set to_.toNat nw) < mu q := by
                          rcases DQ.out with h | h
                          · exact absurd h hne
                          · exact h
                        rcases HM.out with h | h
                        · have := congrArg mu h; omega
                        · omega⟩
                      clear hqz
                      go_wp2_with (first | ((with_reducible refine gate_store (t := 3) (p := 67) rfl ?_); refine ri_store rfl rfl (.tmp 67) _ rfl to_ nw rfl rfl rfl (ri_below HR1.out HB6.out) (by omega) (by omega) ?_; intro w6 h6 g6; have HD2 : Aside0 (PD l0 w g c o j (m + 1) true w3 w6) := ⟨(by unfold PD; rw [HQ.out]; exact ⟨(decide_eq_true HE.out).symm, h6, but_grown (but_below HBt.out HB6.out) g6⟩)⟩; clear h6 g6))
                      go_roundg ((waysL l0 j).length - (m + 1))
                      case measure => omega
                      case rel => exact ⟨m + 1, true, by omega, by omega, by go_num, rfl, HD2⟩
                  · have hmtz : ¬ (m : Int) < ((waysL l0 j).length : Int) := by omega
                    obtain rfl : m = (waysL l0 j).length := by omega
                    have HC2 : Aside0 (PC l0 w g c o (j + 1) d5 wr) := ⟨by
                      obtain ⟨D1, D2, D3⟩ := HD.out
                      have e : passW (wayW l0) (j + 1) o = ((wayW l0 j).take (waysL l0 j).length).foldl (mergeW j) (passW (wayW l0) j o) := by
                        rw [pass_succ]; unfold stepW
                        rw [if_neg (by rw [← hx1.out]; have := hng.out; omega), List.take_of_length_le (by simp [wayW])]
                      unfold PC; rw [e]; exact ⟨D1, D2⟩⟩
                    go_wp2
                    go_roundg (l0.length - (j + 1))
                    case measure => omega
                    case rel => exact ⟨j + 1, d5, by omega, by omega, by go_num, rfl, HC2⟩
            · have hltz : ¬ (j : Int) < (l0.length : Int) := by omega
              obtain rfl : j = l0.length := by omega
              obtain ⟨k1, k2, k3, k4⟩ := HS.out
              obtain ⟨g1, d1⟩ := passes_good (wayW_good HG.out) k1 l0.length (Nat.le_refl _)
              obtain ⟨e1, r1⟩ := HC.out
              have hmu : mu (passW (wayW l0) l0.length o) + c5.toNat < mu o + 1 := by
                rcases d1 with d1 | d1
                · rw [d1] at e1 ⊢; rw [e1]; simp
                · have : c5 = true := by rw [e1]; exact decide_eq_true d1
                  rw [this]; simpa using d1
              have HS2 : Aside0 (PB l0 w g c (passW (wayW l0) l0.length o) c5 wr) := ⟨g1, by rw [fin_pass (wayW_good HG.out) k1]; exact k2, fun hc => by
                rcases d1 with d1 | d1
                · rw [d1, d1]
                · rw [hc] at e1; have := of_decide_eq_false e1.symm; omega, r1⟩
              clear k1 k2 k3 k4 g1 d1 e1 r1 HS HC
              have hgg : mu o + 1 ≤ gB := hgg
              go_wp2
              go_roundg (mu (passW (wayW l0) l0.length o) + c5.toNat)
              case measure => omega
              case rel => exact ⟨_, c5, rfl, Nat.le_refl _, HS2⟩
theorem impl_full.calls (A0 : Option Addr) (c0 : Nat) (l0 : List (S29)) (r : List Int) (w : World) (hr0 : Kd.C k29 w A0 l0.length l0) (hc0 : l0.length ≤ c0) (h : fullV.f l0 = some r) :
    Calls Try.prog 80 #[.slice A0 l0.length c0] w fun e w' => ∃ v0_ : Value, e = .returned (v0_) ∧ Kd.R (Kd.int .i64) 3 w' w.heap.size (fun _ => True) v0_ r ∧ Below w.heap.size w w' := by
  unfold fullV.f at h
  split at h
  · rename_i hc
    obtain rfl := Option.some.inj h
    exact full_walk A0 c0 l0 w hr0 hc
  · cases h
end Go.Proofs.Ytmklpbmlgjkbiaa.PS
end
section
namespace Go.Proofs.Ytmklpbmlgjkbiaa.PS
open Go.RowKit Go.Proofs.YtmklpbmlgjkbiaaW.PrintWords Go.Proofs.YtmklpbmlgjkbiaaW.PrintLast Go.Proofs.YtmklpbmlgjkbiaaW.PrintMore
attribute [local go_sem] max2_int min2_int max_two min_two max_three min_three max_four min_four   -- for this text's walks alone
set_option linter.unusedVariables false
set_option linter.unusedSimpArgs false
mutual
def spec_l3Next.j0 : Nat → Int → List Int → Bool → Int → Int → Int → Int → Int → Int → Option (List Int)
  | 0, _, _, _, _, _, _, _, _, _ => none
  | k + 1, x1, x6, x26, x298000, x298001, x298002, x298003, x298004, x298005 => if x26 = true then (if x6.length < 17592186044416 then (spec_l3Next.j1 k (x6 ++ [wrap64 (x1 + 1)]) x298000 x298001 x298002 x298003 x298004 x298005) else (none)) else (spec_l3Next.j1 k x6 x298000 x298001 x298002 x298003 x298004 x298005)
def spec_l3Next.j1 : Nat → List Int → Int → Int → Int → Int → Int → Int → Option (List Int)
  | 0, _, _, _, _, _, _, _ => none
  | k + 1, x6, x298000, x298001, x298002, x298003, x298004, x298005 => (spec_l3Goes.f x298000).bind fun t304 => (if t304 = true then ((spec_l11Among.f k x6 x298003).bind fun t305 => (spec_l3Next.j2 k x6 (!t305) x298000 x298001 x298002 x298003 x298004 x298005)) else (spec_l3Next.j2 k x6 false x298000 x298001 x298002 x298003 x298004 x298005))
def spec_l3Next.j2 : Nat → List Int → Bool → Int → Int → Int → Int → Int → Int → Option (List Int)
  | 0, _, _, _, _, _, _, _, _ => none
  | k + 1, x6, x41, x298000, x298001, x298002, x298003, x298004, x298005 => if x41 = true then (if x6.length < 17592186044416 then (some (x6 ++ [x298003])) else (none)) else (some x6)
end
def spec_l3Next.f (k : Nat) (l0 : List (S29)) (a1 : Int) : Option (List Int) := if 0 ≤ a1 then (if a1 < (l0.length : Int) then ((some (([] : List Int) : List Int)).bind fun y298 => (if ((rd_T29 l0 a1).f0) = 9 then (spec_l3Next.j0 k a1 y298 false ((rd_T29 l0 a1).f0) ((rd_T29 l0 a1).f1) ((rd_T29 l0 a1).f2) ((rd_T29 l0 a1).f3) ((rd_T29 l0 a1).f4.f0) ((rd_T29 l0 a1).f4.f1)) else (if ((rd_T29 l0 a1).f0) = 14 then (spec_l3Next.j0 k a1 y298 false ((rd_T29 l0 a1).f0) ((rd_T29 l0 a1).f1) ((rd_T29 l0 a1).f2) ((rd_T29 l0 a1).f3) ((rd_T29 l0 a1).f4.f0) ((rd_T29 l0 a1).f4.f1)) else (spec_l3Next.j0 k a1 y298 (decide ((wrap64 (a1 + 1)) < (l0.length : Int))) ((rd_T29 l0 a1).f0) ((rd_T29 l0 a1).f1) ((rd_T29 l0 a1).f2) ((rd_T29 l0 a1).f3) ((rd_T29 l0 a1).f4.f0) ((rd_T29 l0 a1).f4.f1))))) else (none)) else (none)
theorem spec_l3Next.mono_l : ∀ k, (∀ y0 y1 y2 y3 y4 y5 y6 y7 y8, LeO (spec_l3Next.j0 k y0 y1 y2 y3 y4 y5 y6 y7 y8) (spec_l3Next.j0 (k + 1) y0 y1 y2 y3 y4 y5 y6 y7 y8)) ∧ (∀ y0 y1 y2 y3 y4 y5 y6, LeO (spec_l3Next.j1 k y0 y1 y2 y3 y4 y5 y6) (spec_l3Next.j1 (k + 1) y0 y1 y2 y3 y4 y5 y6)) ∧ (∀ y0 y1 y2 y3 y4 y5 y6 y7, LeO (spec_l3Next.j2 k y0 y1 y2 y3 y4 y5 y6 y7) (spec_l3Next.j2 (k + 1) y0 y1 y2 y3 y4 y5 y6 y7))
  | 0 => ⟨fun _ _ _ _ _ _ _ _ _ r h => by simp [spec_l3Next.j0] at h, fun _ _ _ _ _ _ _ r h => by simp [spec_l3Next.j1] at h, fun _ _ _ _ _ _ _ _ r h => by simp [spec_l3Next.j2] at h⟩
  | k + 1 => by
    obtain ⟨ih0, ih1, ih2⟩ := spec_l3Next.mono_l k
    refine ⟨?_, ?_, ?_⟩
    · intro y0 y1 y2 y3 y4 y5 y6 y7 y8
      unfold spec_l3Next.j0
      repeat' first
      | (with_reducible exact ih0 _ _ _ _ _ _ _ _ _)
      | (with_reducible exact ih1 _ _ _ _ _ _ _)
      | (with_reducible exact ih2 _ _ _ _ _ _ _ _)
      | (with_reducible exact spec_l11Among.mono _ _ _)
      | (with_reducible exact LeO.refl _)
      | (with_reducible exact LeO.none _)
      | (with_reducible refine LeO.ite ?_ ?_)
      | (with_reducible refine LeO.bind ?_ (fun _ => ?_))
      | exact ih0 _ _ _ _ _ _ _ _ _
      | exact ih1 _ _ _ _ _ _ _
      | exact ih2 _ _ _ _ _ _ _ _
      | exact spec_l11Among.mono _ _ _
      | exact LeO.none _
      | refine LeO.ite ?_ ?_
      | refine LeO.bind ?_ (fun _ => ?_)
    · intro y0 y1 y2 y3 y4 y5 y6
      unfold spec_l3Next.j1
      repeat' first
      | (with_reducible exact ih0 _ _ _ _ _ _ _ _ _)
      | (with_reducible exact ih1 _ _ _ _ _ _ _)
      | (with_reducible exact ih2 _ _ _ _ _ _ _ _)
      | (with_reducible exact spec_l11Among.mono _ _ _)
      | (with_reducible exact LeO.refl _)
      | (with_reducible exact LeO.none _)
      | (with_reducible refine LeO.ite ?_ ?_)
      | (with_reducible refine LeO.bind ?_ (fun _ => ?_))
      | exact ih0 _ _ _ _ _ _ _ _ _
      | exact ih1 _ _ _ _ _ _ _
      | exact ih2 _ _ _ _ _ _ _ _
      | exact spec_l11Among.mono _ _ _
      | exact LeO.none _
      | refine LeO.ite ?_ ?_
      | refine LeO.bind ?_ (fun _ => ?_)
    · intro y0 y1 y2 y3 y4 y5 y6 y7
      unfold spec_l3Next.j2
      repeat' first
      | (with_reducible exact ih0 _ _ _ _ _ _ _ _ _)
      | (with_reducible exact ih1 _ _ _ _ _ _ _)
      | (with_reducible exact ih2 _ _ _ _ _ _ _ _)
      | (with_reducible exact spec_l11Among.mono _ _ _)
      | (with_reducible exact LeO.refl _)
      | (with_reducible exact LeO.none _)
      | (with_reducible refine LeO.ite ?_ ?_)
      | (with_reducible refine LeO.bind ?_ (fun _ => ?_))
      | exact ih0 _ _ _ _ _ _ _ _ _
      | exact ih1 _ _ _ _ _ _ _
      | exact ih2 _ _ _ _ _ _ _ _
      | exact spec_l11Among.mono _ _ _
      | exact LeO.none _
      | refine LeO.ite ?_ ?_
      | refine LeO.bind ?_ (fun _ => ?_)
theorem spec_l3Next.mono : ∀ a0 a1 k, LeO (spec_l3Next.f k a0 a1) (spec_l3Next.f (k + 1) a0 a1) := by
  intro a0 a1 k
  obtain ⟨ih0, ih1, ih2⟩ := spec_l3Next.mono_l k
  unfold spec_l3Next.f
  repeat' first
      | (with_reducible exact ih0 _ _ _ _ _ _ _ _ _)
      | (with_reducible exact ih1 _ _ _ _ _ _ _)
      | (with_reducible exact ih2 _ _ _ _ _ _ _ _)
      | (with_reducible exact spec_l11Among.mono _ _ _)
      | (with_reducible exact LeO.refl _)
      | (with_reducible exact LeO.none _)
      | (with_reducible refine LeO.ite ?_ ?_)
      | (with_reducible refine LeO.bind ?_ (fun _ => ?_))
      | exact ih0 _ _ _ _ _ _ _ _ _
      | exact ih1 _ _ _ _ _ _ _
      | exact ih2 _ _ _ _ _ _ _ _
      | exact spec_l11Among.mono _ _ _
      | exact LeO.none _
      | refine LeO.ite ?_ ?_
      | refine LeO.bind ?_ (fun _ => ?_)
set_option maxHeartbeats 8000000 in
set_option maxRecDepth 100000 in
theorem spec_l3Next.calls (k : Nat) (A0 : Option Addr) (c0 : Nat) (l0 : List (S29)) (a1 : Int) (r : List Int) (w : World) (hr0 : Kd.C k29 w A0 l0.length l0) (hc0 : l0.length ≤ c0) (h : spec_l3Next.f k l0 a1 = some r) :
    Calls Try.prog 76 #[.slice A0 l0.length c0, .int .i64 a1] w fun e w' => ∃ v0_ : Value, e = .returned (v0_) ∧ Kd.R (Kd.int .i64) 3 w' w.heap.size (fun _ => True) v0_ r ∧ Below w.heap.size w w' := by
  have hu29 := Try.underlying29
  have HR0 := Aside0.mk hr0
  have HC0 := Aside0.mk hc0
  clear hr0 hc0
  have HB := Aside0.mk (Below.refl w.heap.size w)
  have H : (if 0 ≤ a1 then (if a1 < (l0.length : Int) then ((some (([] : List Int) : List Int)).bind fun y298 => (if ((rd_T29 l0 a1).f0) = 9 then (spec_l3Next.j0 k a1 y298 false ((rd_T29 l0 a1).f0) ((rd_T29 l0 a1).f1) ((rd_T29 l0 a1).f2) ((rd_T29 l0 a1).f3) ((rd_T29 l0 a1).f4.f0) ((rd_T29 l0 a1).f4.f1)) else (if ((rd_T29 l0 a1).f0) = 14 then (spec_l3Next.j0 k a1 y298 false ((rd_T29 l0 a1).f0) ((rd_T29 l0 a1).f1) ((rd_T29 l0 a1).f2) ((rd_T29 l0 a1).f3) ((rd_T29 l0 a1).f4.f0) ((rd_T29 l0 a1).f4.f1)) else (spec_l3Next.j0 k a1 y298 (decide ((wrap64 (a1 + 1)) < (l0.length : Int))) ((rd_T29 l0 a1).f0) ((rd_T29 l0 a1).f1) ((rd_T29 l0 a1).f2) ((rd_T29 l0 a1).f3) ((rd_T29 l0 a1).f4.f0) ((rd_T29 l0 a1).f4.f1))))) else (none)) else (none)) = some r := h
  clear h
  by_cases c3 : 0 ≤ a1
  · rw [if_pos c3] at H
    have c3b0 : decide (0 ≤ a1) = true := decide_eq_true c3
    clear c3
    by_cases c4 : a1 < (l0.length : Int)
    · rw [if_pos c4] at H
      have c4b0 : decide (a1 < (l0.length : Int)) = true := decide_eq_true c4
      clear c4
      obtain ⟨y298, hy298⟩ : ∃ y_ : List Int, y_ = (([] : List Int)) := ⟨_, rfl⟩
      replace H : (if ((rd_T29 l0 a1).f0) = 9 then (spec_l3Next.j0 k a1 y298 false ((rd_T29 l0 a1).f0) ((rd_T29 l0 a1).f1) ((rd_T29 l0 a1).f2) ((rd_T29 l0 a1).f3) ((rd_T29 l0 a1).f4.f0) ((rd_T29 l0 a1).f4.f1)) else (if ((rd_T29 l0 a1).f0) = 14 then (spec_l3Next.j0 k a1 y298 false ((rd_T29 l0 a1).f0) ((rd_T29 l0 a1).f1) ((rd_T29 l0 a1).f2) ((rd_T29 l0 a1).f3) ((rd_T29 l0 a1).f4.f0) ((rd_T29 l0 a1).f4.f1)) else (spec_l3Next.j0 k a1 y298 (decide ((wrap64 (a1 + 1)) < (l0.length : Int))) ((rd_T29 l0 a1).f0) ((rd_T29 l0 a1).f1) ((rd_T29 l0 a1).f2) ((rd_T29 l0 a1).f3) ((rd_T29 l0 a1).f4.f0) ((rd_T29 l0 a1).f4.f1)))) = some r := by first | (rw [hy298]; with_reducible exact H) | (have H2_ := (Option.bind_some _ _).symm.trans H; rw [hy298]; with_reducible exact H2_) | (have H2_ := (Option.bind_some _ _).symm.trans H; with_reducible exact H2_) | with_reducible exact H | (rw [hy298]; exact H) | exact H
      have Ny298 := Aside0.mk hy298
      clear hy298
      have HC5 := Aside0.mk H
      clear H
      have p296 : 0 ≤ (a1 : Int) := of_decide_eq_true (by first | (with_reducible assumption) | assumption)
      have q296 : a1 < (l0.length : Int) := of_decide_eq_true (by first | (with_reducible assumption) | assumption)
      obtain ⟨ad296, e296, hx296_0, hx296_1, hx296_2, hx296_3, hx296_4, hx296_5⟩ := at_T29 HR0.out a1 p296 q296
      cases e296
      replace p296 := eq_true p296
      replace q296 := eq_true q296
      go_enter Try.func76, Try.ntmps76
      go_upto_region 3 with (first | ((with_reducible refine gate_dst (N := 5) rfl ?_); (try (refine gate_guard (by rfl) ?_; dsimp only)); refine box_event ?hg (N := 5) ?hd (cs := #[.int .i64 0, .int .i64 0, .int .i64 0, .int .i64 0, .int .i64 0, .int .i64 0]) (t := 29) ?hr ?_; (case hd => rfl); (case hg => rfl); (case hr => first | (go_simp; done) | (go_simp; rfl)); intro gb297 hg w6 hbox hb; have n0_ := Aside0.mk (below_step (by repeat (first | (with_reducible first | exact HB.out | apply below_alloc | apply pw_below_drewN | apply below_drew1) | exact HB.out)) hb); have n1_ := Aside0.mk (hbox); have n2_ := Aside0.mk ((by rw [hg]; exact (below_size (by repeat (first | (with_reducible first | exact HB.out | apply below_alloc | apply pw_below_drewN | apply below_drew1) | exact HB.out))) : w.heap.size ≤ gb297)); have n3_ := Aside0.mk ((by rw [hg]; exact (below_size (by repeat (first | (with_reducible first | exact HB.out | apply below_alloc | apply pw_below_drewN | apply below_drew1) | exact HB.out))) : w.heap.size ≤ gb297)); clear HB; have HB := n0_; have BK297 := n1_; have GW297 := n2_; have GE297 := n3_; clear n0_ n1_ n2_ n3_; clear hb hbox hg; have hcz7_0 : w6.cell? ⟨gb297, 0, none⟩ = some (.int .i64 0) := (blk_cell BK297.out 0).trans rfl; have hcz7_1 : w6.cell? ⟨gb297, 1, none⟩ = some (.int .i64 0) := (blk_cell BK297.out 1).trans rfl; have hcz7_2 : w6.cell? ⟨gb297, 2, none⟩ = some (.int .i64 0) := (blk_cell BK297.out 2).trans rfl; have hcz7_3 : w6.cell? ⟨gb297, 3, none⟩ = some (.int .i64 0) := (blk_cell BK297.out 3).trans rfl; have hcz7_4 : w6.cell? ⟨gb297, 4, none⟩ = some (.int .i64 0) := (blk_cell BK297.out 4).trans rfl; have hcz7_5 : w6.cell? ⟨gb297, 5, none⟩ = some (.int .i64 0) := (blk_cell BK297.out 5).trans rfl; have hfz7_0 := blk_frozen BK297.out 0; have hfz7_1 := blk_frozen BK297.out 1; have hfz7_2 := blk_frozen BK297.out 2; have hfz7_3 := blk_frozen BK297.out 3; have hfz7_4 := blk_frozen BK297.out 4; have hfz7_5 := blk_frozen BK297.out 5) | ((with_reducible refine gate_dst (N := 11) rfl ?_); (try (refine gate_guard (by rfl) ?_; dsimp only)); refine Kd.R_lit (Kd.int .i64) _ 3 ?hg (N := 11) ?hd (xs := ([] : List Int)) (inner := []) (ok := fun _ => True) (okp := fun _ => True) ?hr ?hp (fun _ hk => hk) trivial (Below.refl _ _) (Nat.le_refl _) (by simp) ?_; (case hd => rfl); (case hg => rfl); (case hr => first | (go_simp; done) | (go_simp; rfl)); (case hp => exact (Reps.none _ _)); intro v299 w8 ho9 hb hg_ hnew_; clear hg_ hnew_; (first | rw [← Ny298.out] at ho9 | (simp only [Int.reduceToNat] at ho9; rw [← Ny298.out] at ho9)); have n0_ := Aside0.mk (Kd.R_lower ho9 (below_size (by repeat (first | (with_reducible first | exact HB.out | apply below_alloc | apply pw_below_drewN | apply below_drew1 | refine below_set ?_ GE297.out) | exact HB.out)))); have n1_ := Aside0.mk (blk_below (g := gb297) (o := .cells #[.int .i64 ((rd_T29 l0 a1).f0), .int .i64 ((rd_T29 l0 a1).f1), .int .i64 ((rd_T29 l0 a1).f2), .int .i64 ((rd_T29 l0 a1).f3), .int .i64 ((rd_T29 l0 a1).f4.f0), .int .i64 ((rd_T29 l0 a1).f4.f1)] 29 (0, 0)) (by (with_reducible repeat (first | refine blk_drewN ?_ _ | refine blk_drew ?_ | refine blk_alloc ?_ _)); refine blk_put (cs := #[.int .i64 ((rd_T29 l0 a1).f0), .int .i64 ((rd_T29 l0 a1).f1), .int .i64 ((rd_T29 l0 a1).f2), .int .i64 ((rd_T29 l0 a1).f3), .int .i64 ((rd_T29 l0 a1).f4.f0), .int .i64 0]) ?_ 5 _ rfl; (with_reducible repeat (first | refine blk_drewN ?_ _ | refine blk_drew ?_ | refine blk_alloc ?_ _)); refine blk_put (cs := #[.int .i64 ((rd_T29 l0 a1).f0), .int .i64 ((rd_T29 l0 a1).f1), .int .i64 ((rd_T29 l0 a1).f2), .int .i64 ((rd_T29 l0 a1).f3), .int .i64 0, .int .i64 0]) ?_ 4 _ rfl; (with_reducible repeat (first | refine blk_drewN ?_ _ | refine blk_drew ?_ | refine blk_alloc ?_ _)); refine blk_put (cs := #[.int .i64 ((rd_T29 l0 a1).f0), .int .i64 ((rd_T29 l0 a1).f1), .int .i64 ((rd_T29 l0 a1).f2), .int .i64 0, .int .i64 0, .int .i64 0]) ?_ 3 _ rfl; (with_reducible repeat (first | refine blk_drewN ?_ _ | refine blk_drew ?_ | refine blk_alloc ?_ _)); refine blk_put (cs := #[.int .i64 ((rd_T29 l0 a1).f0), .int .i64 ((rd_T29 l0 a1).f1), .int .i64 0, .int .i64 0, .int .i64 0, .int .i64 0]) ?_ 2 _ rfl; (with_reducible repeat (first | refine blk_drewN ?_ _ | refine blk_drew ?_ | refine blk_alloc ?_ _)); refine blk_put (cs := #[.int .i64 ((rd_T29 l0 a1).f0), .int .i64 0, .int .i64 0, .int .i64 0, .int .i64 0, .int .i64 0]) ?_ 1 _ rfl; (with_reducible repeat (first | refine blk_drewN ?_ _ | refine blk_drew ?_ | refine blk_alloc ?_ _)); refine blk_put (cs := #[.int .i64 0, .int .i64 0, .int .i64 0, .int .i64 0, .int .i64 0, .int .i64 0]) ?_ 0 _ rfl; (with_reducible repeat (first | refine blk_drewN ?_ _ | refine blk_drew ?_ | refine blk_alloc ?_ _)); exact BK297.out) hb); have n2_ := Aside0.mk (below_step (by repeat (first | (with_reducible first | exact HB.out | apply below_alloc | apply pw_below_drewN | apply below_drew1 | refine below_set ?_ GE297.out) | exact HB.out)) hb); clear BK297; clear HB; have HO300 := n0_; have BK297 := n1_; have HB := n2_; clear n0_ n1_ n2_; clear hb ho9))
      (try simp only [Act.put, List.setIfInBounds_toArray, List.set_cons_zero, List.set_cons_succ])
      go_cut [26] (fun v26 wc => ∃ (kq : Nat) (x26_4 : Bool), v26 = .bool x26_4 ∧ Aside0 (spec_l3Next.j0 kq a1 y298 x26_4 ((rd_T29 l0 a1).f0) ((rd_T29 l0 a1).f1) ((rd_T29 l0 a1).f2) ((rd_T29 l0 a1).f3) ((rd_T29 l0 a1).f4.f0) ((rd_T29 l0 a1).f4.f1) = some r) ∧ Aside0 (kq ≤ k) ∧ Aside0 (Kd.R (Kd.int .i64) 3 wc w.heap.size (fun _ => True) v299 y298) ∧ Aside0 (wc.heap[gb297]? = some (.cells #[.int .i64 ((rd_T29 l0 a1).f0), .int .i64 ((rd_T29 l0 a1).f1), .int .i64 ((rd_T29 l0 a1).f2), .int .i64 ((rd_T29 l0 a1).f3), .int .i64 ((rd_T29 l0 a1).f4.f0), .int .i64 ((rd_T29 l0 a1).f4.f1)] 29 (0, 0))) ∧ Aside0 (Below w.heap.size w wc))
      case first =>
        have H := HC5.out
        clear HC5
        by_cases c10 : ((rd_T29 l0 a1).f0) = 9
        · rw [if_pos c10] at H
          have c10b0 : (((rd_T29 l0 a1).f0) == 9) = true := beq_iff_eq.mpr c10
          have c10b1 : (((rd_T29 l0 a1).f0) != 9) = false := bne_eq_false_iff_eq.mpr c10
          clear c10
          (first | rw [c10b0] | (simp only [i64_w, i32_w]; rw [c10b0]) | skip)
          have H' := Aside0.mk H
          clear H
          have hcz11_0 : w8.cell? ⟨gb297, 0, none⟩ = some (.int .i64 ((rd_T29 l0 a1).f0)) := (blk_cell BK297.out 0).trans rfl
          have hcz11_1 : w8.cell? ⟨gb297, 1, none⟩ = some (.int .i64 ((rd_T29 l0 a1).f1)) := (blk_cell BK297.out 1).trans rfl
          have hcz11_2 : w8.cell? ⟨gb297, 2, none⟩ = some (.int .i64 ((rd_T29 l0 a1).f2)) := (blk_cell BK297.out 2).trans rfl
          have hcz11_3 : w8.cell? ⟨gb297, 3, none⟩ = some (.int .i64 ((rd_T29 l0 a1).f3)) := (blk_cell BK297.out 3).trans rfl
          have hcz11_4 : w8.cell? ⟨gb297, 4, none⟩ = some (.int .i64 ((rd_T29 l0 a1).f4.f0)) := (blk_cell BK297.out 4).trans rfl
          have hcz11_5 : w8.cell? ⟨gb297, 5, none⟩ = some (.int .i64 ((rd_T29 l0 a1).f4.f1)) := (blk_cell BK297.out 5).trans rfl
          have hfz11_0 := blk_frozen BK297.out 0
          have hfz11_1 := blk_frozen BK297.out 1
          have hfz11_2 := blk_frozen BK297.out 2
          have hfz11_3 := blk_frozen BK297.out 3
          have hfz11_4 := blk_frozen BK297.out 4
          have hfz11_5 := blk_frozen BK297.out 5
          go_wp2
          go_meet
          case rel => exact ⟨_, (false), (by first | rfl | (simp; done) | (simp [*]; done)), H', ⟨by first | omega | exact Nat.le_refl _⟩, ⟨by (with_reducible repeat (first | apply Kd.R_alloc | apply Kd.R_drewN | apply Kd.R_drew)); exact HO300.out⟩, ⟨by (with_reducible repeat (first | refine blk_drewN ?_ _ | refine blk_drew ?_ | refine blk_alloc ?_ _)); exact BK297.out⟩, ⟨by repeat (first | (with_reducible first | exact HB.out | apply below_alloc | apply pw_below_drewN | apply below_drew1 | refine below_set ?_ GE297.out) | exact HB.out)⟩⟩
        · rw [if_neg c10] at H
          have c10b0 : (((rd_T29 l0 a1).f0) == 9) = false := beq_eq_false_iff_ne.mpr c10
          have c10b1 : (((rd_T29 l0 a1).f0) != 9) = true := bne_iff_ne.mpr c10
          (first | rw [c10b0] | (simp only [i64_w, i32_w]; rw [c10b0]) | skip)
          by_cases c12 : ((rd_T29 l0 a1).f0) = 14
          · rw [if_pos c12] at H
            have c12b0 : (((rd_T29 l0 a1).f0) == 14) = true := beq_iff_eq.mpr c12
            have c12b1 : (((rd_T29 l0 a1).f0) != 14) = false := bne_eq_false_iff_eq.mpr c12
            clear c12
            have H' := Aside0.mk H
            clear H
            have hcz13_0 : w8.cell? ⟨gb297, 0, none⟩ = some (.int .i64 ((rd_T29 l0 a1).f0)) := (blk_cell BK297.out 0).trans rfl
            have hcz13_1 : w8.cell? ⟨gb297, 1, none⟩ = some (.int .i64 ((rd_T29 l0 a1).f1)) := (blk_cell BK297.out 1).trans rfl
            have hcz13_2 : w8.cell? ⟨gb297, 2, none⟩ = some (.int .i64 ((rd_T29 l0 a1).f2)) := (blk_cell BK297.out 2).trans rfl
            have hcz13_3 : w8.cell? ⟨gb297, 3, none⟩ = some (.int .i64 ((rd_T29 l0 a1).f3)) := (blk_cell BK297.out 3).trans rfl
            have hcz13_4 : w8.cell? ⟨gb297, 4, none⟩ = some (.int .i64 ((rd_T29 l0 a1).f4.f0)) := (blk_cell BK297.out 4).trans rfl
            have hcz13_5 : w8.cell? ⟨gb297, 5, none⟩ = some (.int .i64 ((rd_T29 l0 a1).f4.f1)) := (blk_cell BK297.out 5).trans rfl
            have hfz13_0 := blk_frozen BK297.out 0
            have hfz13_1 := blk_frozen BK297.out 1
            have hfz13_2 := blk_frozen BK297.out 2
            have hfz13_3 := blk_frozen BK297.out 3
            have hfz13_4 := blk_frozen BK297.out 4
            have hfz13_5 := blk_frozen BK297.out 5
            go_wp2
            go_meet
            case rel => exact ⟨_, (false), (by first | rfl | (simp; done) | (simp [*]; done)), H', ⟨by first | omega | exact Nat.le_refl _⟩, ⟨by (with_reducible repeat (first | apply Kd.R_alloc | apply Kd.R_drewN | apply Kd.R_drew)); exact HO300.out⟩, ⟨by (with_reducible repeat (first | refine blk_drewN ?_ _ | refine blk_drew ?_ | refine blk_alloc ?_ _)); exact BK297.out⟩, ⟨by repeat (first | (with_reducible first | exact HB.out | apply below_alloc | apply pw_below_drewN | apply below_drew1 | refine below_set ?_ GE297.out) | exact HB.out)⟩⟩
          · rw [if_neg c12] at H
            have c12b0 : (((rd_T29 l0 a1).f0) == 14) = false := beq_eq_false_iff_ne.mpr c12
            have c12b1 : (((rd_T29 l0 a1).f0) != 14) = true := bne_iff_ne.mpr c12
            have H' := Aside0.mk H
            clear H
            have hcz14_0 : w8.cell? ⟨gb297, 0, none⟩ = some (.int .i64 ((rd_T29 l0 a1).f0)) := (blk_cell BK297.out 0).trans rfl
            have hcz14_1 : w8.cell? ⟨gb297, 1, none⟩ = some (.int .i64 ((rd_T29 l0 a1).f1)) := (blk_cell BK297.out 1).trans rfl
            have hcz14_2 : w8.cell? ⟨gb297, 2, none⟩ = some (.int .i64 ((rd_T29 l0 a1).f2)) := (blk_cell BK297.out 2).trans rfl
            have hcz14_3 : w8.cell? ⟨gb297, 3, none⟩ = some (.int .i64 ((rd_T29 l0 a1).f3)) := (blk_cell BK297.out 3).trans rfl
            have hcz14_4 : w8.cell? ⟨gb297, 4, none⟩ = some (.int .i64 ((rd_T29 l0 a1).f4.f0)) := (blk_cell BK297.out 4).trans rfl
            have hcz14_5 : w8.cell? ⟨gb297, 5, none⟩ = some (.int .i64 ((rd_T29 l0 a1).f4.f1)) := (blk_cell BK297.out 5).trans rfl
            have hfz14_0 := blk_frozen BK297.out 0
            have hfz14_1 := blk_frozen BK297.out 1
            have hfz14_2 := blk_frozen BK297.out 2
            have hfz14_3 := blk_frozen BK297.out 3
            have hfz14_4 := blk_frozen BK297.out 4
            have hfz14_5 := blk_frozen BK297.out 5
            go_wp2
            go_meet
            case rel => exact ⟨_, (decide ((wrap64 (a1 + 1)) < (l0.length : Int))), (by first | rfl | (simp; done) | (simp [*]; done)), H', ⟨by first | omega | exact Nat.le_refl _⟩, ⟨by (with_reducible repeat (first | apply Kd.R_alloc | apply Kd.R_drewN | apply Kd.R_drew)); exact HO300.out⟩, ⟨by (with_reducible repeat (first | refine blk_drewN ?_ _ | refine blk_drew ?_ | refine blk_alloc ?_ _)); exact BK297.out⟩, ⟨by repeat (first | (with_reducible first | exact HB.out | apply below_alloc | apply pw_below_drewN | apply below_drew1 | refine below_set ?_ GE297.out) | exact HB.out)⟩⟩
      case rest =>
        clear HC5
        try clear c1
        try clear p2
        try clear q2
        try clear hx2
        try clear c3
        try clear c3b0
        try clear c4
        try clear c4b0
        try clear p6
        try clear c7
        try clear c10
        try clear c10b0
        try clear c10b1
        try clear c12
        try clear c12b0
        try clear c12b1
        try clear hcz11_0
        try clear hcz11_1
        try clear hcz11_2
        try clear hcz11_3
        try clear hcz11_4
        try clear hcz11_5
        try clear hcz13_0
        try clear hcz13_1
        try clear hcz13_2
        try clear hcz13_3
        try clear hcz13_4
        try clear hcz13_5
        try clear hcz14_0
        try clear hcz14_1
        try clear hcz14_2
        try clear hcz14_3
        try clear hcz14_4
        try clear hcz14_5
        try clear hcz7_0
        try clear hcz7_1
        try clear hcz7_2
        try clear hcz7_3
        try clear hcz7_4
        try clear hcz7_5
        try clear hfz11_0
        try clear hfz11_1
        try clear hfz11_2
        try clear hfz11_3
        try clear hfz11_4
        try clear hfz11_5
        try clear hfz13_0
        try clear hfz13_1
        try clear hfz13_2
        try clear hfz13_3
        try clear hfz13_4
        try clear hfz13_5
        try clear hfz14_0
        try clear hfz14_1
        try clear hfz14_2
        try clear hfz14_3
        try clear hfz14_4
        try clear hfz14_5
        try clear hfz7_0
        try clear hfz7_1
        try clear hfz7_2
        try clear hfz7_3
        try clear hfz7_4
        try clear hfz7_5
        try clear hx296_0
        try clear hx296_1
        try clear hx296_2
        try clear hx296_3
        try clear hx296_4
        try clear hx296_5
        try clear p296
        try clear q296
        obtain ⟨kq, x26_4, rfl, HA, HJ4, HO_6, BK297, HB⟩ := hcut
        cases kq with
        | zero => exact absurd HA.out (by simp [spec_l3Next.j0])
        | succ kj4 =>
          have H := HA.out
          clear HA
          simp only [spec_l3Next.j0] at H
          have HC15 := Aside0.mk H
          clear H
          go_upto_if 26 with (fail)
          go_cut [6] (fun v6 wc => ∃ (kq : Nat) (x6_14 : List Int), Aside0 (spec_l3Next.j1 kq x6_14 ((rd_T29 l0 a1).f0) ((rd_T29 l0 a1).f1) ((rd_T29 l0 a1).f2) ((rd_T29 l0 a1).f3) ((rd_T29 l0 a1).f4.f0) ((rd_T29 l0 a1).f4.f1) = some r) ∧ Aside0 (kq ≤ kj4) ∧ Aside0 (Kd.R (Kd.int .i64) 3 wc w.heap.size (fun _ => True) v6 x6_14) ∧ Aside0 (wc.heap[gb297]? = some (.cells #[.int .i64 ((rd_T29 l0 a1).f0), .int .i64 ((rd_T29 l0 a1).f1), .int .i64 ((rd_T29 l0 a1).f2), .int .i64 ((rd_T29 l0 a1).f3), .int .i64 ((rd_T29 l0 a1).f4.f0), .int .i64 ((rd_T29 l0 a1).f4.f1)] 29 (0, 0))) ∧ Aside0 (Below w.heap.size w wc))
          case first =>
            have H := HC15.out
            clear HC15
            by_cases c16 : x26_4 = true
            · subst c16
              have H1 : (if y298.length < 17592186044416 then (spec_l3Next.j1 kj4 (y298 ++ [wrap64 (a1 + 1)]) ((rd_T29 l0 a1).f0) ((rd_T29 l0 a1).f1) ((rd_T29 l0 a1).f2) ((rd_T29 l0 a1).f3) ((rd_T29 l0 a1).f4.f0) ((rd_T29 l0 a1).f4.f1)) else (none)) = some r := by rw [if_pos rfl] at H; exact H
              clear H
              have H := H1
              clear H1
              by_cases c17 : y298.length < 17592186044416
              · rw [if_pos c17] at H
                have LMc17 := Aside0.mk c17
                clear c17
                obtain ⟨y301, hy301⟩ : ∃ y_ : List Int, y_ = (y298 ++ [wrap64 (a1 + 1)]) := ⟨_, rfl⟩
                replace H : (spec_l3Next.j1 kj4 y301 ((rd_T29 l0 a1).f0) ((rd_T29 l0 a1).f1) ((rd_T29 l0 a1).f2) ((rd_T29 l0 a1).f3) ((rd_T29 l0 a1).f4.f0) ((rd_T29 l0 a1).f4.f1)) = some r := by first | (rw [hy301]; with_reducible exact H) | (have H2_ := (Option.bind_some _ _).symm.trans H; rw [hy301]; with_reducible exact H2_) | (have H2_ := (Option.bind_some _ _).symm.trans H; with_reducible exact H2_) | with_reducible exact H | (rw [hy301]; exact H) | exact H
                have Ny301 := Aside0.mk hy301
                clear hy301
                have H' := Aside0.mk H
                clear H
                go_wp2_with (first | ((with_reducible refine gate_builtin (b := .append) (xs := #[.tmp 27, .tmp 30]) rfl ?_); (try (refine gate_guard (by rfl) ?_; dsimp only)); at_builtin; refine Kd.R_append (Kd.int .i64) (w0 := w) w.heap.size rfl (.tmp 27) (.tmp 30) 32 3 (.int .i64 0) 8 rfl Try.underlying32 info3 rfl (by decide) (by omega) v299 y298 (wrap64 (a1 + 1)) [.int .i64 (wrap64 (a1 + 1))] (fun _ => True) (fun _ => False) rfl rfl ?aP (fun _ hk => hk.elim) ?aF ?aO ?aB ?aS ?aL ?_; (case aP => exact rfl); (case aB => exact (by repeat (first | (with_reducible first | exact HB.out | apply below_alloc | apply pw_below_drewN | apply below_drew1 | refine below_set ?_ GE297.out) | exact HB.out))); (case aF => exact (fun _ _ => trivial)); (case aO => exact (by (with_reducible repeat (first | apply Kd.R_alloc | apply Kd.R_drewN | apply Kd.R_drew)); exact HO_6.out)); (case aS => exact (below_size (by repeat (first | (with_reducible first | exact HB.out | apply below_alloc | apply pw_below_drewN | apply below_drew1 | refine below_set ?_ GE297.out) | exact HB.out)))); (case aL => have := LMc17.out; omega); intro v302 w18 ho hb hg hat; rw [← Ny301.out] at ho; have n0_ := Aside0.mk (blk_grown (g := gb297) (o := .cells #[.int .i64 ((rd_T29 l0 a1).f0), .int .i64 ((rd_T29 l0 a1).f1), .int .i64 ((rd_T29 l0 a1).f2), .int .i64 ((rd_T29 l0 a1).f3), .int .i64 ((rd_T29 l0 a1).f4.f0), .int .i64 ((rd_T29 l0 a1).f4.f1)] 29 (0, 0)) (by (with_reducible repeat (first | refine blk_drewN ?_ _ | refine blk_drew ?_ | refine blk_alloc ?_ _)); exact BK297.out) hg (Kd.R_ne HO_6.out BK297.out (by decide))); have n1_ := Aside0.mk (hb); have n2_ := Aside0.mk (ho); clear BK297; clear HB; clear HO_6; have BK297 := n0_; have HB := n1_; have HO303 := n2_; clear n0_ n1_ n2_; clear ho hb hg hat))
                go_meet
                case rel => exact ⟨_, (y301), H', ⟨by have := HJ4.out; first | omega | exact Nat.le_refl _⟩, ⟨by (with_reducible repeat (first | apply Kd.R_alloc | apply Kd.R_drewN | apply Kd.R_drew)); exact HO303.out⟩, ⟨by (with_reducible repeat (first | refine blk_drewN ?_ _ | refine blk_drew ?_ | refine blk_alloc ?_ _)); exact BK297.out⟩, ⟨by repeat (first | (with_reducible first | exact HB.out | apply below_alloc | apply pw_below_drewN | apply below_drew1 | refine below_set ?_ GE297.out) | exact HB.out)⟩⟩
              · rw [if_neg c17] at H
                exact absurd H (by simp)
            · replace c16 := Bool.eq_false_iff.mpr c16
              subst c16
              have H1 : (spec_l3Next.j1 kj4 y298 ((rd_T29 l0 a1).f0) ((rd_T29 l0 a1).f1) ((rd_T29 l0 a1).f2) ((rd_T29 l0 a1).f3) ((rd_T29 l0 a1).f4.f0) ((rd_T29 l0 a1).f4.f1)) = some r := by rw [if_neg (show ¬ (false = true) by decide)] at H; exact H
              clear H
              have H := H1
              clear H1
              have H' := Aside0.mk H
              clear H
              go_wp2
              go_meet
              case rel => exact ⟨_, (y298), H', ⟨by have := HJ4.out; first | omega | exact Nat.le_refl _⟩, ⟨by (with_reducible repeat (first | apply Kd.R_alloc | apply Kd.R_drewN | apply Kd.R_drew)); exact HO_6.out⟩, ⟨by (with_reducible repeat (first | refine blk_drewN ?_ _ | refine blk_drew ?_ | refine blk_alloc ?_ _)); exact BK297.out⟩, ⟨by repeat (first | (with_reducible first | exact HB.out | apply below_alloc | apply pw_below_drewN | apply below_drew1 | refine below_set ?_ GE297.out) | exact HB.out)⟩⟩
          case rest =>
            clear HC15
            try clear c1
            try clear p2
            try clear q2
            try clear hx2
            try clear c3
            try clear c3b0
            try clear c4
            try clear c4b0
            try clear p6
            try clear c7
            try clear c10
            try clear c10b0
            try clear c10b1
            try clear c12
            try clear c12b0
            try clear c12b1
            try clear c16
            try clear c17
            try clear hcz11_0
            try clear hcz11_1
            try clear hcz11_2
            try clear hcz11_3
            try clear hcz11_4
            try clear hcz11_5
            try clear hcz13_0
            try clear hcz13_1
            try clear hcz13_2
            try clear hcz13_3
            try clear hcz13_4
            try clear hcz13_5
            try clear hcz14_0
            try clear hcz14_1
            try clear hcz14_2
            try clear hcz14_3
            try clear hcz14_4
            try clear hcz14_5
            try clear hcz7_0
            try clear hcz7_1
            try clear hcz7_2
            try clear hcz7_3
            try clear hcz7_4
            try clear hcz7_5
            try clear hfz11_0
            try clear hfz11_1
            try clear hfz11_2
            try clear hfz11_3
            try clear hfz11_4
            try clear hfz11_5
            try clear hfz13_0
            try clear hfz13_1
            try clear hfz13_2
            try clear hfz13_3
            try clear hfz13_4
            try clear hfz13_5
            try clear hfz14_0
            try clear hfz14_1
            try clear hfz14_2
            try clear hfz14_3
            try clear hfz14_4
            try clear hfz14_5
            try clear hfz7_0
            try clear hfz7_1
            try clear hfz7_2
            try clear hfz7_3
            try clear hfz7_4
            try clear hfz7_5
            try clear hx296_0
            try clear hx296_1
            try clear hx296_2
            try clear hx296_3
            try clear hx296_4
            try clear hx296_5
            try clear p2
            try clear p296
            try clear p6
            try clear q2
            try clear q296
            obtain ⟨kq, x6_14, HA, HJ14, HO_6, BK297, HB⟩ := hcut
            cases kq with
            | zero => exact absurd HA.out (by simp [spec_l3Next.j1])
            | succ kj14 =>
              have H := HA.out
              clear HA
              simp only [spec_l3Next.j1] at H
              have HC19 := Aside0.mk H
              clear H
              go_upto_region 5 with (fail)
              go_cut [41] (fun v41 wc => ∃ (kq : Nat) (x41_18 : Bool), v41 = .bool x41_18 ∧ Aside0 (spec_l3Next.j2 kq x6_14 x41_18 ((rd_T29 l0 a1).f0) ((rd_T29 l0 a1).f1) ((rd_T29 l0 a1).f2) ((rd_T29 l0 a1).f3) ((rd_T29 l0 a1).f4.f0) ((rd_T29 l0 a1).f4.f1) = some r) ∧ Aside0 (kq ≤ kj14) ∧ Aside0 (Kd.R (Kd.int .i64) 3 wc w.heap.size (fun _ => True) u6 x6_14) ∧ Aside0 (wc.heap[gb297]? = some (.cells #[.int .i64 ((rd_T29 l0 a1).f0), .int .i64 ((rd_T29 l0 a1).f1), .int .i64 ((rd_T29 l0 a1).f2), .int .i64 ((rd_T29 l0 a1).f3), .int .i64 ((rd_T29 l0 a1).f4.f0), .int .i64 ((rd_T29 l0 a1).f4.f1)] 29 (0, 0))) ∧ Aside0 (Below w.heap.size w wc))
              case first =>
                have H := HC19.out
                clear HC19
                replace H := Option.bind_eq_some_iff.mp H
                obtain ⟨t304, A200, H⟩ := H
                replace H : (if t304 = true then ((spec_l11Among.f kj14 x6_14 ((rd_T29 l0 a1).f3)).bind fun t305 => (spec_l3Next.j2 kj14 x6_14 (!t305) ((rd_T29 l0 a1).f0) ((rd_T29 l0 a1).f1) ((rd_T29 l0 a1).f2) ((rd_T29 l0 a1).f3) ((rd_T29 l0 a1).f4.f0) ((rd_T29 l0 a1).f4.f1))) else (spec_l3Next.j2 kj14 x6_14 false ((rd_T29 l0 a1).f0) ((rd_T29 l0 a1).f1) ((rd_T29 l0 a1).f2) ((rd_T29 l0 a1).f3) ((rd_T29 l0 a1).f4.f0) ((rd_T29 l0 a1).f4.f1))) = some r := H
                have A20 := Aside0.mk A200
                clear A200
                by_cases c21 : t304 = true
                · subst c21
                  have H1 : ((spec_l11Among.f kj14 x6_14 ((rd_T29 l0 a1).f3)).bind fun t305 => (spec_l3Next.j2 kj14 x6_14 (!t305) ((rd_T29 l0 a1).f0) ((rd_T29 l0 a1).f1) ((rd_T29 l0 a1).f2) ((rd_T29 l0 a1).f3) ((rd_T29 l0 a1).f4.f0) ((rd_T29 l0 a1).f4.f1))) = some r := by rw [if_pos rfl] at H; exact H
                  clear H
                  have H := H1
                  clear H1
                  replace H := Option.bind_eq_some_iff.mp H
                  obtain ⟨t305, A220, H⟩ := H
                  replace H : (spec_l3Next.j2 kj14 x6_14 (!t305) ((rd_T29 l0 a1).f0) ((rd_T29 l0 a1).f1) ((rd_T29 l0 a1).f2) ((rd_T29 l0 a1).f3) ((rd_T29 l0 a1).f4.f0) ((rd_T29 l0 a1).f4.f1)) = some r := H
                  have A22 := Aside0.mk A220
                  clear A220
                  have H' := Aside0.mk H
                  clear H
                  have hcz23_0 : wc.cell? ⟨gb297, 0, none⟩ = some (.int .i64 ((rd_T29 l0 a1).f0)) := (blk_cell BK297.out 0).trans rfl
                  have hcz23_1 : wc.cell? ⟨gb297, 1, none⟩ = some (.int .i64 ((rd_T29 l0 a1).f1)) := (blk_cell BK297.out 1).trans rfl
                  have hcz23_2 : wc.cell? ⟨gb297, 2, none⟩ = some (.int .i64 ((rd_T29 l0 a1).f2)) := (blk_cell BK297.out 2).trans rfl
                  have hcz23_3 : wc.cell? ⟨gb297, 3, none⟩ = some (.int .i64 ((rd_T29 l0 a1).f3)) := (blk_cell BK297.out 3).trans rfl
                  have hcz23_4 : wc.cell? ⟨gb297, 4, none⟩ = some (.int .i64 ((rd_T29 l0 a1).f4.f0)) := (blk_cell BK297.out 4).trans rfl
                  have hcz23_5 : wc.cell? ⟨gb297, 5, none⟩ = some (.int .i64 ((rd_T29 l0 a1).f4.f1)) := (blk_cell BK297.out 5).trans rfl
                  have hfz23_0 := blk_frozen BK297.out 0
                  have hfz23_1 := blk_frozen BK297.out 1
                  have hfz23_2 := blk_frozen BK297.out 2
                  have hfz23_3 := blk_frozen BK297.out 3
                  have hfz23_4 := blk_frozen BK297.out 4
                  have hfz23_5 := blk_frozen BK297.out 5
                  go_wp2_with (first | ((with_reducible refine gate_callee (f := 72) rfl ?_); refine goesL_ (some 34) rfl rfl Try.func72 (by kernel_rfl) rfl #[.int .i64 ((rd_T29 l0 a1).f0)] rfl (by (try simp only [List.map_toArray, List.map_cons, List.map_nil]); first | done | rfl | (simp only [List.length_drop, List.length_take]; rfl)) ?_; (with_reducible refine (spec_l3Goes.calls ((rd_T29 l0 a1).f0) true _ A20.out).mono ?_); rintro e w' ⟨rfl, ⟨nd, rfl⟩⟩; refine ⟨_, rfl, ?_⟩; obtain ⟨Ao24, co24, eo24⟩ := Kd.R_slice HO_6.out; subst eo24) | (go_at_call 79; (with_reducible refine (spec_l11Among.calls kj14 _ _ x6_14 ((rd_T29 l0 a1).f3) t305 _ ?side1 ?side2 A22.out).mono ?_); (case side1 => repeat (first | exact (Kd.R_reads' HO_6.out).2.2 | (with_reducible refine Kd.C_alloc ?_ _) | (with_reducible refine Kd.C_drewN ?_ _) | (with_reducible refine Kd.C_drew ?_))); (case side2 => exact (Kd.R_reads' HO_6.out).2.1); rintro e w' ⟨rfl, ⟨nd, rfl⟩⟩))
                  go_meet
                  case rel => exact ⟨_, (!t305), (by first | rfl | (simp; done) | (simp [*]; done)), H', ⟨by have := HJ4.out; have := HJ14.out; first | omega | exact Nat.le_refl _⟩, ⟨by (with_reducible repeat (first | apply Kd.R_alloc | apply Kd.R_drewN | apply Kd.R_drew)); exact HO_6.out⟩, ⟨by (with_reducible repeat (first | refine blk_drewN ?_ _ | refine blk_drew ?_ | refine blk_alloc ?_ _)); exact BK297.out⟩, ⟨by repeat (first | (with_reducible first | exact HB.out | apply below_alloc | apply pw_below_drewN | apply below_drew1 | refine below_set ?_ GE297.out) | exact HB.out)⟩⟩
                · replace c21 := Bool.eq_false_iff.mpr c21
                  subst c21
                  have H1 : (spec_l3Next.j2 kj14 x6_14 false ((rd_T29 l0 a1).f0) ((rd_T29 l0 a1).f1) ((rd_T29 l0 a1).f2) ((rd_T29 l0 a1).f3) ((rd_T29 l0 a1).f4.f0) ((rd_T29 l0 a1).f4.f1)) = some r := by rw [if_neg (show ¬ (false = true) by decide)] at H; exact H
                  clear H
                  have H := H1
                  clear H1
                  have H' := Aside0.mk H
                  clear H
                  have hcz25_0 : wc.cell? ⟨gb297, 0, none⟩ = some (.int .i64 ((rd_T29 l0 a1).f0)) := (blk_cell BK297.out 0).trans rfl
                  have hcz25_1 : wc.cell? ⟨gb297, 1, none⟩ = some (.int .i64 ((rd_T29 l0 a1).f1)) := (blk_cell BK297.out 1).trans rfl
                  have hcz25_2 : wc.cell? ⟨gb297, 2, none⟩ = some (.int .i64 ((rd_T29 l0 a1).f2)) := (blk_cell BK297.out 2).trans rfl
                  have hcz25_3 : wc.cell? ⟨gb297, 3, none⟩ = some (.int .i64 ((rd_T29 l0 a1).f3)) := (blk_cell BK297.out 3).trans rfl
                  have hcz25_4 : wc.cell? ⟨gb297, 4, none⟩ = some (.int .i64 ((rd_T29 l0 a1).f4.f0)) := (blk_cell BK297.out 4).trans rfl
                  have hcz25_5 : wc.cell? ⟨gb297, 5, none⟩ = some (.int .i64 ((rd_T29 l0 a1).f4.f1)) := (blk_cell BK297.out 5).trans rfl
                  have hfz25_0 := blk_frozen BK297.out 0
                  have hfz25_1 := blk_frozen BK297.out 1
                  have hfz25_2 := blk_frozen BK297.out 2
                  have hfz25_3 := blk_frozen BK297.out 3
                  have hfz25_4 := blk_frozen BK297.out 4
                  have hfz25_5 := blk_frozen BK297.out 5
                  go_wp2_with (first | ((with_reducible refine gate_callee (f := 72) rfl ?_); refine goesL_ (some 34) rfl rfl Try.func72 (by kernel_rfl) rfl #[.int .i64 ((rd_T29 l0 a1).f0)] rfl (by (try simp only [List.map_toArray, List.map_cons, List.map_nil]); first | done | rfl | (simp only [List.length_drop, List.length_take]; rfl)) ?_; (with_reducible refine (spec_l3Goes.calls ((rd_T29 l0 a1).f0) false _ A20.out).mono ?_); rintro e w' ⟨rfl, ⟨nd, rfl⟩⟩; refine ⟨_, rfl, ?_⟩))
                  go_meet
                  case rel => exact ⟨_, (false), (by first | rfl | (simp; done) | (simp [*]; done)), H', ⟨by have := HJ4.out; have := HJ14.out; first | omega | exact Nat.le_refl _⟩, ⟨by (with_reducible repeat (first | apply Kd.R_alloc | apply Kd.R_drewN | apply Kd.R_drew)); exact HO_6.out⟩, ⟨by (with_reducible repeat (first | refine blk_drewN ?_ _ | refine blk_drew ?_ | refine blk_alloc ?_ _)); exact BK297.out⟩, ⟨by repeat (first | (with_reducible first | exact HB.out | apply below_alloc | apply pw_below_drewN | apply below_drew1 | refine below_set ?_ GE297.out) | exact HB.out)⟩⟩
              case rest =>
                clear HC19
                try clear c1
                try clear c2
                try clear p2
                try clear q2
                try clear hx2
                try clear c3
                try clear c3b0
                try clear c4
                try clear c4b0
                try clear p6
                try clear c7
                try clear c10
                try clear c10b0
                try clear c10b1
                try clear c12
                try clear c12b0
                try clear c12b1
                try clear c16
                try clear c17
                try clear c21
                try clear hcz11_0
                try clear hcz11_1
                try clear hcz11_2
                try clear hcz11_3
                try clear hcz11_4
                try clear hcz11_5
                try clear hcz13_0
                try clear hcz13_1
                try clear hcz13_2
                try clear hcz13_3
                try clear hcz13_4
                try clear hcz13_5
                try clear hcz14_0
                try clear hcz14_1
                try clear hcz14_2
                try clear hcz14_3
                try clear hcz14_4
                try clear hcz14_5
                try clear hcz23_0
                try clear hcz23_1
                try clear hcz23_2
                try clear hcz23_3
                try clear hcz23_4
                try clear hcz23_5
                try clear hcz25_0
                try clear hcz25_1
                try clear hcz25_2
                try clear hcz25_3
                try clear hcz25_4
                try clear hcz25_5
                try clear hcz7_0
                try clear hcz7_1
                try clear hcz7_2
                try clear hcz7_3
                try clear hcz7_4
                try clear hcz7_5
                try clear hfz11_0
                try clear hfz11_1
                try clear hfz11_2
                try clear hfz11_3
                try clear hfz11_4
                try clear hfz11_5
                try clear hfz13_0
                try clear hfz13_1
                try clear hfz13_2
                try clear hfz13_3
                try clear hfz13_4
                try clear hfz13_5
                try clear hfz14_0
                try clear hfz14_1
                try clear hfz14_2
                try clear hfz14_3
                try clear hfz14_4
                try clear hfz14_5
                try clear hfz23_0
                try clear hfz23_1
                try clear hfz23_2
                try clear hfz23_3
                try clear hfz23_4
                try clear hfz23_5
                try clear hfz25_0
                try clear hfz25_1
                try clear hfz25_2
                try clear hfz25_3
                try clear hfz25_4
                try clear hfz25_5
                try clear hfz7_0
                try clear hfz7_1
                try clear hfz7_2
                try clear hfz7_3
                try clear hfz7_4
                try clear hfz7_5
                try clear hx296_0
                try clear hx296_1
                try clear hx296_2
                try clear hx296_3
                try clear hx296_4
                try clear hx296_5
                try clear p2
                try clear p296
                try clear p6
                try clear q2
                try clear q296
                obtain ⟨kq, x41_18, rfl, HA, HJ18, HO_6, BK297, HB⟩ := hcut
                cases kq with
                | zero => exact absurd HA.out (by simp [spec_l3Next.j2])
                | succ kj18 =>
                  have H := HA.out
                  clear HA
                  simp only [spec_l3Next.j2] at H
                  by_cases c26 : x41_18 = true
                  · subst c26
                    have H1 : (if x6_14.length < 17592186044416 then (some (x6_14 ++ [((rd_T29 l0 a1).f3)])) else (none)) = some r := by rw [if_pos rfl] at H; exact H
                    clear H
                    have H := H1
                    clear H1
                    by_cases c27 : x6_14.length < 17592186044416
                    · rw [if_pos c27] at H
                      have LMc27 := Aside0.mk c27
                      clear c27
                      obtain ⟨y306, hy306⟩ : ∃ y_ : List Int, y_ = (x6_14 ++ [((rd_T29 l0 a1).f3)]) := ⟨_, rfl⟩
                      replace H : (some y306) = some r := by first | (rw [hy306]; with_reducible exact H) | (have H2_ := (Option.bind_some _ _).symm.trans H; rw [hy306]; with_reducible exact H2_) | (have H2_ := (Option.bind_some _ _).symm.trans H; with_reducible exact H2_) | with_reducible exact H | (rw [hy306]; exact H) | exact H
                      have Ny306 := Aside0.mk hy306
                      clear hy306
                      obtain rfl := Option.some.inj H
                      have hcz28_0 : wc.cell? ⟨gb297, 0, none⟩ = some (.int .i64 ((rd_T29 l0 a1).f0)) := (blk_cell BK297.out 0).trans rfl
                      have hcz28_1 : wc.cell? ⟨gb297, 1, none⟩ = some (.int .i64 ((rd_T29 l0 a1).f1)) := (blk_cell BK297.out 1).trans rfl
                      have hcz28_2 : wc.cell? ⟨gb297, 2, none⟩ = some (.int .i64 ((rd_T29 l0 a1).f2)) := (blk_cell BK297.out 2).trans rfl
                      have hcz28_3 : wc.cell? ⟨gb297, 3, none⟩ = some (.int .i64 ((rd_T29 l0 a1).f3)) := (blk_cell BK297.out 3).trans rfl
                      have hcz28_4 : wc.cell? ⟨gb297, 4, none⟩ = some (.int .i64 ((rd_T29 l0 a1).f4.f0)) := (blk_cell BK297.out 4).trans rfl
                      have hcz28_5 : wc.cell? ⟨gb297, 5, none⟩ = some (.int .i64 ((rd_T29 l0 a1).f4.f1)) := (blk_cell BK297.out 5).trans rfl
                      have hfz28_0 := blk_frozen BK297.out 0
                      have hfz28_1 := blk_frozen BK297.out 1
                      have hfz28_2 := blk_frozen BK297.out 2
                      have hfz28_3 := blk_frozen BK297.out 3
                      have hfz28_4 := blk_frozen BK297.out 4
                      have hfz28_5 := blk_frozen BK297.out 5
                      go_wp2_with (first | ((with_reducible refine gate_builtin (b := .append) (xs := #[.tmp 42, .tmp 45]) rfl ?_); (try (refine gate_guard (by rfl) ?_; dsimp only)); at_builtin; refine Kd.R_append (Kd.int .i64) (w0 := w) w.heap.size rfl (.tmp 42) (.tmp 45) 32 3 (.int .i64 0) 8 rfl Try.underlying32 info3 rfl (by decide) (by omega) u6 x6_14 ((rd_T29 l0 a1).f3) [.int .i64 ((rd_T29 l0 a1).f3)] (fun _ => True) (fun _ => False) rfl rfl ?aP (fun _ hk => hk.elim) ?aF ?aO ?aB ?aS ?aL ?_; (case aP => exact rfl); (case aB => exact (by repeat (first | (with_reducible first | exact HB.out | apply below_alloc | apply pw_below_drewN | apply below_drew1 | refine below_set ?_ GE297.out) | exact HB.out))); (case aF => exact (fun _ _ => trivial)); (case aO => exact (by (with_reducible repeat (first | apply Kd.R_alloc | apply Kd.R_drewN | apply Kd.R_drew)); exact HO_6.out)); (case aS => exact (below_size (by repeat (first | (with_reducible first | exact HB.out | apply below_alloc | apply pw_below_drewN | apply below_drew1 | refine below_set ?_ GE297.out) | exact HB.out)))); (case aL => have := LMc27.out; omega); intro v307 w29 ho hb hg hat; rw [← Ny306.out] at ho; have n0_ := Aside0.mk (blk_grown (g := gb297) (o := .cells #[.int .i64 ((rd_T29 l0 a1).f0), .int .i64 ((rd_T29 l0 a1).f1), .int .i64 ((rd_T29 l0 a1).f2), .int .i64 ((rd_T29 l0 a1).f3), .int .i64 ((rd_T29 l0 a1).f4.f0), .int .i64 ((rd_T29 l0 a1).f4.f1)] 29 (0, 0)) (by (with_reducible repeat (first | refine blk_drewN ?_ _ | refine blk_drew ?_ | refine blk_alloc ?_ _)); exact BK297.out) hg (Kd.R_ne HO_6.out BK297.out (by decide))); have n1_ := Aside0.mk (hb); have n2_ := Aside0.mk (ho); clear BK297; clear HB; clear HO_6; have BK297 := n0_; have HB := n1_; have HO308 := n2_; clear n0_ n1_ n2_; clear ho hb hg hat))
                      go_ret
                      exact ⟨_, by first | rfl | (simp [errW_none, errW_some] <;> rfl) | (simp [*, errW_none, errW_some] <;> rfl), by (with_reducible repeat (first | apply Kd.R_alloc | apply Kd.R_drewN | apply Kd.R_drew)); exact HO308.out, by repeat (first | (with_reducible first | exact HB.out | apply below_alloc | apply pw_below_drewN | apply below_drew1 | refine below_set ?_ GE297.out) | exact HB.out)⟩
                    · rw [if_neg c27] at H
                      exact absurd H (by simp)
                  · replace c26 := Bool.eq_false_iff.mpr c26
                    subst c26
                    have H1 : (some x6_14) = some r := by rw [if_neg (show ¬ (false = true) by decide)] at H; exact H
                    clear H
                    have H := H1
                    clear H1
                    obtain rfl := Option.some.inj H
                    go_wp2
                    go_ret
                    exact ⟨_, by first | rfl | (simp [errW_none, errW_some] <;> rfl) | (simp [*, errW_none, errW_some] <;> rfl), by (with_reducible repeat (first | apply Kd.R_alloc | apply Kd.R_drewN | apply Kd.R_drew)); exact HO_6.out, by repeat (first | (with_reducible first | exact HB.out | apply below_alloc | apply pw_below_drewN | apply below_drew1 | refine below_set ?_ GE297.out) | exact HB.out)⟩
    · rw [if_neg c4] at H
      exact absurd H (by simp)
  · rw [if_neg c3] at H
    exact absurd H (by simp)
end Go.Proofs.Ytmklpbmlgjkbiaa.PS
end
section
namespace Go.Proofs.Ytmklpbmlgjkbiaa.PS
open Go.RowKit Go.Proofs.YtmklpbmlgjkbiaaW.PrintWords Go.Proofs.YtmklpbmlgjkbiaaW.PrintLast
set_option linter.unusedVariables false
theorem among_nil (k : Nat) (x : Int) : spec_l11Among.f (k + 1) [] x = some false := by
  simp [spec_l11Among.f, spec_l11Among.l0]
theorem among_one (k : Nat) (y x : Int) : spec_l11Among.f (k + 2) [y] x = some (decide (y = x)) := by
  by_cases h : y = x <;> simp [spec_l11Among.f, spec_l11Among.l0, rd, wrap64, h]
theorem snext_eq (l : List S29) (i : Nat) (hi : i < l.length) (hl : l.length ≤ 16) : spec_l3Next.f 6 l i = some (onceL (waysL l i)) := by
  unfold spec_l3Next.f waysL arrowsL
  rw [if_pos (by omega), if_pos (by omega)]
  simp only [Option.bind_some]
  obtain ⟨x, hx⟩ : ∃ x, rd_T29 l (i : Int) = x := ⟨_, rfl⟩
  rw [hx]
  rw [w64 (x := (i : Int) + 1) (by omega) (by omega)]
  have tail : ∀ out : List Int, out.length ≤ 1 → spec_l3Next.j1 5 out x.f0 x.f1 x.f2 x.f3 x.f4.f0 x.f4.f1 = some (if hasT x.f0 = true then (if x.f3 ∈ out then out else out ++ [x.f3]) else out) := fun out ho => by
    simp only [spec_l3Next.j1, goes_eq, Option.bind_some]
    cases hasT x.f0 with
    | false => simp [spec_l3Next.j2]
    | true =>
      match out, ho with
      | [], _ => rw [among_nil]; simp [spec_l3Next.j2]
      | [y], _ =>
        rw [among_one]
        by_cases h : y = x.f3
        · simp [spec_l3Next.j2, h]
        · have h' : ¬ x.f3 = y := fun e => h e.symm
          simp [spec_l3Next.j2, h, h']
  have h5 : x.f0 = 5 → hasT x.f0 = true := fun h => by rw [h]; rfl
  have two : ∀ (pre : List (Int × Fl)) , onceL (pre ++ if x.f0 = 5 then [(x.f3, Fl.one)] else if hasT x.f0 = true then [(x.f3, Fl.same)] else []) = (if hasT x.f0 = true then (if x.f3 ∈ onceL pre then onceL pre else onceL pre ++ [x.f3]) else onceL pre) := fun pre => by
    unfold onceL
    rw [List.foldl_append]
    by_cases h : x.f0 = 5
    · rw [if_pos h, if_pos (h5 h)]; rfl
    · rw [if_neg h]
      by_cases h2 : hasT x.f0 = true
      · rw [if_pos h2, if_pos h2]; rfl
      · rw [if_neg h2, if_neg h2]; rfl
  rw [two]
  have e0 : onceL [] = [] := rfl
  have e1 : ∀ (y : Int) (f : Fl), onceL [(y, f)] = [y] := fun y f => by simp [onceL]
  by_cases h9 : x.f0 = 9
  · rw [if_pos h9, if_pos (c := x.f0 = 9 ∨ x.f0 = 14) (.inl h9), e0]
    simp only [spec_l3Next.j0]
    rw [if_neg (by decide)]
    exact tail [] (by simp)
  rw [if_neg h9]
  by_cases h14 : x.f0 = 14
  · rw [if_pos h14, if_pos (c := x.f0 = 9 ∨ x.f0 = 14) (.inr h14), e0]
    simp only [spec_l3Next.j0]
    rw [if_neg (by decide)]
    exact tail [] (by simp)
  rw [if_neg h14, if_neg (c := x.f0 = 9 ∨ x.f0 = 14) (fun h => h.elim h9 h14)]
  simp only [spec_l3Next.j0]
  rw [w64 (x := (i : Int) + 1) (by omega) (by omega)]
  by_cases nx : (i : Int) + 1 < (l.length : Int)
  · rw [if_pos (decide_eq_true nx), if_pos (by simp), if_pos (c := (i : Int) + 1 < (l.length : Int)) nx, e1]
    exact tail [(i : Int) + 1] (by simp)
  · rw [if_neg (by simpa using nx), if_neg (c := (i : Int) + 1 < (l.length : Int)) nx, e0]
    exact tail [] (by simp)
end Go.Proofs.Ytmklpbmlgjkbiaa.PS
end
