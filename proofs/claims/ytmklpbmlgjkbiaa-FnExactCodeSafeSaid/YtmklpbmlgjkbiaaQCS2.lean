/- What the row of CS rests on, part 3. -/
import Derived.Test.YtmklpbmlgjkbiaaProg
import Derived.Below
import Derived.Deep.Draws
import Derived.Deep.AppendLies
import Derived.Maps.AppendAt
import Derived.OwnWalk
import Derived.Laws.BytesArg
import Derived.Laws.MakeOwn
import Derived.Laws.OwnMore
import Derived.Deep.OwnRows
import Derived.Tactics
import Derived.Lib.ConvBytes
import Derived.Laws.Slices
import Derived.WalkKit
import Derived.KernelRfl
import Derived.RowKit3
import Derived.Deep.LoopGhost
import Derived.Deep.QuietTactic
import Derived.BigQuiet
import Derived.WideLaws
import Derived.Deep.DeepCutAuto
import Derived.Deep.CutBlock
import Derived.Deep.RegionHeld3
import Derived.Laws.Rows
import Derived.Lib.AppendStr
import Derived.ArgAppend
import Derived.Laws.IdiomCopy
import Derived.OrdersHeld
import Derived.Laws.BitsLemmas
import Derived.RowKit
import Derived.Laws.StructEq
import Derived.Deep.RegionWith
import Derived.Lib.Bytealg
import Derived.Shelf.Strings.Search3
import Derived.WalkSpells
import Derived.Lib.OthersKept
import Derived.Lib.Hide
import Derived.WalkSmall
import Derived.Laws.EntriesVeiled
import Derived.Test.YtmklpbmlgjkbiaaQCS1
section
namespace Go.Proofs.Ytmklpbmlgjkbiaa.PS
open Go.RowKit Go.Proofs.YtmklpbmlgjkbiaaW.PrintWords Go.Proofs.YtmklpbmlgjkbiaaW.PrintLast Go.Proofs.YtmklpbmlgjkbiaaW.PrintMore
attribute [local go_sem] max2_int min2_int max_two min_two max_three min_three max_four min_four   -- for this text's walks alone
set_option linter.unusedVariables false
set_option linter.unusedSimpArgs false
def laws_eqOp.f (a0_0 : Int) (a0_1 : Int) (a0_2 : Int) (a0_3 : Int) (a0_4 : Int) (a0_5 : Int) (a1_0 : Int) (a1_1 : Int) (a1_2 : Int) (a1_3 : Int) (a1_4 : Int) (a1_5 : Int) : Option (Bool) := if a0_0 = a1_0 then (if a0_1 = a1_1 then (if a0_2 = a1_2 then (if a0_3 = a1_3 then ((laws_eqVal.f a0_4 a0_5 a1_4 a1_5).bind fun t280 => (if t280 = true then (some true) else (some false))) else (some false)) else (some false)) else (some false)) else (some false)
set_option maxHeartbeats 8000000 in
set_option maxRecDepth 100000 in
theorem laws_eqOp.calls (a0_0 : Int) (a0_1 : Int) (a0_2 : Int) (a0_3 : Int) (a0_4 : Int) (a0_5 : Int) (a1_0 : Int) (a1_1 : Int) (a1_2 : Int) (a1_3 : Int) (a1_4 : Int) (a1_5 : Int) (r : Bool) (w : World) (h : laws_eqOp.f a0_0 a0_1 a0_2 a0_3 a0_4 a0_5 a1_0 a1_1 a1_2 a1_3 a1_4 a1_5 = some r) :
    Calls Try.prog 75 #[.agg #[.int .i64 a0_0, .int .i64 a0_1, .int .i64 a0_2, .int .i64 a0_3, .int .i64 a0_4, .int .i64 a0_5], .agg #[.int .i64 a1_0, .int .i64 a1_1, .int .i64 a1_2, .int .i64 a1_3, .int .i64 a1_4, .int .i64 a1_5]] w fun e w' => e = .returned (.bool r) ∧ Below w.heap.size w w' := by
  have hu29 := Try.underlying29
  have hu27 := Try.underlying27
  have HB := Aside0.mk (Below.refl w.heap.size w)
  have H : (if a0_0 = a1_0 then (if a0_1 = a1_1 then (if a0_2 = a1_2 then (if a0_3 = a1_3 then ((laws_eqVal.f a0_4 a0_5 a1_4 a1_5).bind fun t280 => (if t280 = true then (some true) else (some false))) else (some false)) else (some false)) else (some false)) else (some false)) = some r := h
  clear h
  by_cases c3 : a0_0 = a1_0
  · rw [if_pos c3] at H
    have c3b0 : (a0_0 == a1_0) = true := beq_iff_eq.mpr c3
    have c3b1 : (a0_0 != a1_0) = false := bne_eq_false_iff_eq.mpr c3
    clear c3
    by_cases c4 : a0_1 = a1_1
    · rw [if_pos c4] at H
      have c4b0 : (a0_1 == a1_1) = true := beq_iff_eq.mpr c4
      have c4b1 : (a0_1 != a1_1) = false := bne_eq_false_iff_eq.mpr c4
      clear c4
      by_cases c5 : a0_2 = a1_2
      · rw [if_pos c5] at H
        have c5b0 : (a0_2 == a1_2) = true := beq_iff_eq.mpr c5
        have c5b1 : (a0_2 != a1_2) = false := bne_eq_false_iff_eq.mpr c5
        clear c5
        by_cases c6 : a0_3 = a1_3
        · rw [if_pos c6] at H
          have c6b0 : (a0_3 == a1_3) = true := beq_iff_eq.mpr c6
          have c6b1 : (a0_3 != a1_3) = false := bne_eq_false_iff_eq.mpr c6
          clear c6
          replace H := Option.bind_eq_some_iff.mp H
          obtain ⟨t280, A70, H⟩ := H
          replace H : (if t280 = true then (some true) else (some false)) = some r := H
          have A7 := Aside0.mk A70
          clear A70
          by_cases c8 : t280 = true
          · subst c8
            have H1 : (some true) = some r := by rw [if_pos rfl] at H; exact H
            clear H
            have H := H1
            clear H1
            obtain rfl := Option.some.inj H
            go_enter Try.func75, Try.ntmps75
            go_wp2_with (first | ((with_reducible refine gate_dst (N := 2) rfl ?_); refine box_event ?hg (N := 2) ?hd (cs := #[.int .i64 a0_0, .int .i64 a0_1, .int .i64 a0_2, .int .i64 a0_3, .int .i64 a0_4, .int .i64 a0_5]) (t := 29) ?hr ?_; (case hd => rfl); (case hg => rfl); (case hr => first | (go_simp; done) | (go_simp; rfl)); intro gb278 hg w9 hbox hb; have n0_ := Aside0.mk (below_step (by repeat (first | (with_reducible first | exact HB.out | apply below_alloc | apply pw_below_drewN | apply below_drew1) | exact HB.out)) hb); have n1_ := Aside0.mk (hbox); have n2_ := Aside0.mk ((by rw [hg]; exact (below_size (by repeat (first | (with_reducible first | exact HB.out | apply below_alloc | apply pw_below_drewN | apply below_drew1) | exact HB.out))) : w.heap.size ≤ gb278)); have n3_ := Aside0.mk ((by rw [hg]; exact (below_size (by repeat (first | (with_reducible first | exact HB.out | apply below_alloc | apply pw_below_drewN | apply below_drew1) | exact HB.out))) : w.heap.size ≤ gb278)); clear HB; have HB := n0_; have BK278 := n1_; have GW278 := n2_; have GE278 := n3_; clear n0_ n1_ n2_ n3_; clear hb hbox hg) | ((with_reducible refine gate_dst (N := 3) rfl ?_); refine box_event ?hg (N := 3) ?hd (cs := #[.int .i64 a1_0, .int .i64 a1_1, .int .i64 a1_2, .int .i64 a1_3, .int .i64 a1_4, .int .i64 a1_5]) (t := 29) ?hr ?_; (case hd => rfl); (case hg => rfl); (case hr => first | (go_simp; done) | (go_simp; rfl)); intro gb279 hg w10 hbox hb; have n0_ := Aside0.mk (blk_below (g := gb278) (o := .cells #[.int .i64 a0_0, .int .i64 a0_1, .int .i64 a0_2, .int .i64 a0_3, .int .i64 a0_4, .int .i64 a0_5] 29 (0, 0)) (by (with_reducible repeat (first | refine blk_drewN ?_ _ | refine blk_drew ?_ | refine blk_alloc ?_ _)); exact BK278.out) hb); have n1_ := Aside0.mk (below_step (by repeat (first | (with_reducible first | exact HB.out | apply below_alloc | apply pw_below_drewN | apply below_drew1 | refine below_set ?_ GE278.out) | exact HB.out)) hb); have n2_ := Aside0.mk (hbox); have n3_ := Aside0.mk ((by rw [hg]; exact (below_size (by repeat (first | (with_reducible first | exact HB.out | apply below_alloc | apply pw_below_drewN | apply below_drew1 | refine below_set ?_ GE278.out) | exact HB.out))) : w.heap.size ≤ gb279)); have n4_ := Aside0.mk ((by rw [hg]; exact (below_size (by repeat (first | (with_reducible first | exact HB.out | apply below_alloc | apply pw_below_drewN | apply below_drew1 | refine below_set ?_ GE278.out) | exact HB.out))) : w.heap.size ≤ gb279)); have n5_ := Aside0.mk ((by rw [hg]; exact Nat.ne_of_lt (blk_lt (g := gb278) (o := .cells #[.int .i64 a0_0, .int .i64 a0_1, .int .i64 a0_2, .int .i64 a0_3, .int .i64 a0_4, .int .i64 a0_5] 29 (0, 0)) (by (with_reducible repeat (first | refine blk_drewN ?_ _ | refine blk_drew ?_ | refine blk_alloc ?_ _)); exact BK278.out)) : gb278 ≠ gb279)); have n6_ := Aside0.mk ((by rw [hg]; exact Nat.ne_of_gt (blk_lt (g := gb278) (o := .cells #[.int .i64 a0_0, .int .i64 a0_1, .int .i64 a0_2, .int .i64 a0_3, .int .i64 a0_4, .int .i64 a0_5] 29 (0, 0)) (by (with_reducible repeat (first | refine blk_drewN ?_ _ | refine blk_drew ?_ | refine blk_alloc ?_ _)); exact BK278.out)) : gb279 ≠ gb278)); clear BK278; clear HB; have BK278 := n0_; have HB := n1_; have BK279 := n2_; have GW279 := n3_; have GE279 := n4_; have NB278_279 := n5_; have NB279_278 := n6_; clear n0_ n1_ n2_ n3_ n4_ n5_ n6_; clear hb hbox hg; have hnb11 := NB278_279.out; have hnc11 := NB279_278.out; have hcz12_0 : w10.cell? ⟨gb278, 0, none⟩ = some (.int .i64 a0_0) := (blk_cell BK278.out 0).trans rfl; have hcz12_1 : w10.cell? ⟨gb278, 1, none⟩ = some (.int .i64 a0_1) := (blk_cell BK278.out 1).trans rfl; have hcz12_2 : w10.cell? ⟨gb278, 2, none⟩ = some (.int .i64 a0_2) := (blk_cell BK278.out 2).trans rfl; have hcz12_3 : w10.cell? ⟨gb278, 3, none⟩ = some (.int .i64 a0_3) := (blk_cell BK278.out 3).trans rfl; have hcz12_4 : w10.cell? ⟨gb278, 4, none⟩ = some (.int .i64 a0_4) := (blk_cell BK278.out 4).trans rfl; have hcz12_5 : w10.cell? ⟨gb278, 5, none⟩ = some (.int .i64 a0_5) := (blk_cell BK278.out 5).trans rfl; have hfz12_0 := blk_frozen BK278.out 0; have hfz12_1 := blk_frozen BK278.out 1; have hfz12_2 := blk_frozen BK278.out 2; have hfz12_3 := blk_frozen BK278.out 3; have hfz12_4 := blk_frozen BK278.out 4; have hfz12_5 := blk_frozen BK278.out 5; have hcz13_0 : w10.cell? ⟨gb279, 0, none⟩ = some (.int .i64 a1_0) := (blk_cell BK279.out 0).trans rfl; have hcz13_1 : w10.cell? ⟨gb279, 1, none⟩ = some (.int .i64 a1_1) := (blk_cell BK279.out 1).trans rfl; have hcz13_2 : w10.cell? ⟨gb279, 2, none⟩ = some (.int .i64 a1_2) := (blk_cell BK279.out 2).trans rfl; have hcz13_3 : w10.cell? ⟨gb279, 3, none⟩ = some (.int .i64 a1_3) := (blk_cell BK279.out 3).trans rfl; have hcz13_4 : w10.cell? ⟨gb279, 4, none⟩ = some (.int .i64 a1_4) := (blk_cell BK279.out 4).trans rfl; have hcz13_5 : w10.cell? ⟨gb279, 5, none⟩ = some (.int .i64 a1_5) := (blk_cell BK279.out 5).trans rfl; have hfz13_0 := blk_frozen BK279.out 0; have hfz13_1 := blk_frozen BK279.out 1; have hfz13_2 := blk_frozen BK279.out 2; have hfz13_3 := blk_frozen BK279.out 3; have hfz13_4 := blk_frozen BK279.out 4; have hfz13_5 := blk_frozen BK279.out 5) | ((with_reducible refine gate_callee (f := 93) rfl ?_); refine goesL_ (some 29) rfl rfl Try.func93 (by kernel_rfl) rfl #[.agg #[.int .i64 a0_4, .int .i64 a0_5], .agg #[.int .i64 a1_4, .int .i64 a1_5]] rfl (by (try simp only [List.map_toArray, List.map_cons, List.map_nil]); first | done | rfl | (simp only [List.length_drop, List.length_take]; rfl)) ?_; (with_reducible refine (laws_eqVal.calls a0_4 a0_5 a1_4 a1_5 true _ A7.out).mono ?_); rintro e w14 ⟨rfl, hb⟩; refine ⟨_, rfl, ?_⟩; have n0_ := Aside0.mk (blk_below (g := gb278) (o := .cells #[.int .i64 a0_0, .int .i64 a0_1, .int .i64 a0_2, .int .i64 a0_3, .int .i64 a0_4, .int .i64 a0_5] 29 (0, 0)) (by (with_reducible repeat (first | refine blk_drewN ?_ _ | refine blk_drew ?_ | refine blk_alloc ?_ _)); exact BK278.out) hb); have n1_ := Aside0.mk (blk_below (g := gb279) (o := .cells #[.int .i64 a1_0, .int .i64 a1_1, .int .i64 a1_2, .int .i64 a1_3, .int .i64 a1_4, .int .i64 a1_5] 29 (0, 0)) (by (with_reducible repeat (first | refine blk_drewN ?_ _ | refine blk_drew ?_ | refine blk_alloc ?_ _)); exact BK279.out) hb); have n2_ := Aside0.mk (below_step (by repeat (first | (with_reducible first | exact HB.out | apply below_alloc | apply pw_below_drewN | apply below_drew1 | refine below_set ?_ GE278.out | refine below_set ?_ GE279.out) | exact HB.out)) hb); clear BK278; clear BK279; clear HB; have BK278 := n0_; have BK279 := n1_; have HB := n2_; clear n0_ n1_ n2_; (try clear hb); (try clear hb2); (try clear hk); (try clear hi)))
            go_ret
            exact ⟨by first | rfl | (simp [errW_none, errW_some] <;> rfl) | (simp [*, errW_none, errW_some] <;> rfl), by repeat (first | (with_reducible first | exact HB.out | apply below_alloc | apply pw_below_drewN | apply below_drew1 | refine below_set ?_ GE278.out | refine below_set ?_ GE279.out) | exact HB.out)⟩
          · replace c8 := Bool.eq_false_iff.mpr c8
            subst c8
            have H1 : (some false) = some r := by rw [if_neg (show ¬ (false = true) by decide)] at H; exact H
            clear H
            have H := H1
            clear H1
            obtain rfl := Option.some.inj H
            go_enter Try.func75, Try.ntmps75
            go_wp2_with (first | ((with_reducible refine gate_dst (N := 2) rfl ?_); refine box_event ?hg (N := 2) ?hd (cs := #[.int .i64 a0_0, .int .i64 a0_1, .int .i64 a0_2, .int .i64 a0_3, .int .i64 a0_4, .int .i64 a0_5]) (t := 29) ?hr ?_; (case hd => rfl); (case hg => rfl); (case hr => first | (go_simp; done) | (go_simp; rfl)); intro gb278 hg w15 hbox hb; have n0_ := Aside0.mk (below_step (by repeat (first | (with_reducible first | exact HB.out | apply below_alloc | apply pw_below_drewN | apply below_drew1) | exact HB.out)) hb); have n1_ := Aside0.mk (hbox); have n2_ := Aside0.mk ((by rw [hg]; exact (below_size (by repeat (first | (with_reducible first | exact HB.out | apply below_alloc | apply pw_below_drewN | apply below_drew1) | exact HB.out))) : w.heap.size ≤ gb278)); have n3_ := Aside0.mk ((by rw [hg]; exact (below_size (by repeat (first | (with_reducible first | exact HB.out | apply below_alloc | apply pw_below_drewN | apply below_drew1) | exact HB.out))) : w.heap.size ≤ gb278)); clear HB; have HB := n0_; have BK278 := n1_; have GW278 := n2_; have GE278 := n3_; clear n0_ n1_ n2_ n3_; clear hb hbox hg) | ((with_reducible refine gate_dst (N := 3) rfl ?_); refine box_event ?hg (N := 3) ?hd (cs := #[.int .i64 a1_0, .int .i64 a1_1, .int .i64 a1_2, .int .i64 a1_3, .int .i64 a1_4, .int .i64 a1_5]) (t := 29) ?hr ?_; (case hd => rfl); (case hg => rfl); (case hr => first | (go_simp; done) | (go_simp; rfl)); intro gb279 hg w16 hbox hb; have n0_ := Aside0.mk (blk_below (g := gb278) (o := .cells #[.int .i64 a0_0, .int .i64 a0_1, .int .i64 a0_2, .int .i64 a0_3, .int .i64 a0_4, .int .i64 a0_5] 29 (0, 0)) (by (with_reducible repeat (first | refine blk_drewN ?_ _ | refine blk_drew ?_ | refine blk_alloc ?_ _)); exact BK278.out) hb); have n1_ := Aside0.mk (below_step (by repeat (first | (with_reducible first | exact HB.out | apply below_alloc | apply pw_below_drewN | apply below_drew1 | refine below_set ?_ GE278.out) | exact HB.out)) hb); have n2_ := Aside0.mk (hbox); have n3_ := Aside0.mk ((by rw [hg]; exact (below_size (by repeat (first | (with_reducible first | exact HB.out | apply below_alloc | apply pw_below_drewN | apply below_drew1 | refine below_set ?_ GE278.out) | exact HB.out))) : w.heap.size ≤ gb279)); have n4_ := Aside0.mk ((by rw [hg]; exact (below_size (by repeat (first | (with_reducible first | exact HB.out | apply below_alloc | apply pw_below_drewN | apply below_drew1 | refine below_set ?_ GE278.out) | exact HB.out))) : w.heap.size ≤ gb279)); have n5_ := Aside0.mk ((by rw [hg]; exact Nat.ne_of_lt (blk_lt (g := gb278) (o := .cells #[.int .i64 a0_0, .int .i64 a0_1, .int .i64 a0_2, .int .i64 a0_3, .int .i64 a0_4, .int .i64 a0_5] 29 (0, 0)) (by (with_reducible repeat (first | refine blk_drewN ?_ _ | refine blk_drew ?_ | refine blk_alloc ?_ _)); exact BK278.out)) : gb278 ≠ gb279)); have n6_ := Aside0.mk ((by rw [hg]; exact Nat.ne_of_gt (blk_lt (g := gb278) (o := .cells #[.int .i64 a0_0, .int .i64 a0_1, .int .i64 a0_2, .int .i64 a0_3, .int .i64 a0_4, .int .i64 a0_5] 29 (0, 0)) (by (with_reducible repeat (first | refine blk_drewN ?_ _ | refine blk_drew ?_ | refine blk_alloc ?_ _)); exact BK278.out)) : gb279 ≠ gb278)); clear BK278; clear HB; have BK278 := n0_; have HB := n1_; have BK279 := n2_; have GW279 := n3_; have GE279 := n4_; have NB278_279 := n5_; have NB279_278 := n6_; clear n0_ n1_ n2_ n3_ n4_ n5_ n6_; clear hb hbox hg; have hnb17 := NB278_279.out; have hnc17 := NB279_278.out; have hcz18_0 : w16.cell? ⟨gb278, 0, none⟩ = some (.int .i64 a0_0) := (blk_cell BK278.out 0).trans rfl; have hcz18_1 : w16.cell? ⟨gb278, 1, none⟩ = some (.int .i64 a0_1) := (blk_cell BK278.out 1).trans rfl; have hcz18_2 : w16.cell? ⟨gb278, 2, none⟩ = some (.int .i64 a0_2) := (blk_cell BK278.out 2).trans rfl; have hcz18_3 : w16.cell? ⟨gb278, 3, none⟩ = some (.int .i64 a0_3) := (blk_cell BK278.out 3).trans rfl; have hcz18_4 : w16.cell? ⟨gb278, 4, none⟩ = some (.int .i64 a0_4) := (blk_cell BK278.out 4).trans rfl; have hcz18_5 : w16.cell? ⟨gb278, 5, none⟩ = some (.int .i64 a0_5) := (blk_cell BK278.out 5).trans rfl; have hfz18_0 := blk_frozen BK278.out 0; have hfz18_1 := blk_frozen BK278.out 1; have hfz18_2 := blk_frozen BK278.out 2; have hfz18_3 := blk_frozen BK278.out 3; have hfz18_4 := blk_frozen BK278.out 4; have hfz18_5 := blk_frozen BK278.out 5; have hcz19_0 : w16.cell? ⟨gb279, 0, none⟩ = some (.int .i64 a1_0) := (blk_cell BK279.out 0).trans rfl; have hcz19_1 : w16.cell? ⟨gb279, 1, none⟩ = some (.int .i64 a1_1) := (blk_cell BK279.out 1).trans rfl; have hcz19_2 : w16.cell? ⟨gb279, 2, none⟩ = some (.int .i64 a1_2) := (blk_cell BK279.out 2).trans rfl; have hcz19_3 : w16.cell? ⟨gb279, 3, none⟩ = some (.int .i64 a1_3) := (blk_cell BK279.out 3).trans rfl; have hcz19_4 : w16.cell? ⟨gb279, 4, none⟩ = some (.int .i64 a1_4) := (blk_cell BK279.out 4).trans rfl; have hcz19_5 : w16.cell? ⟨gb279, 5, none⟩ = some (.int .i64 a1_5) := (blk_cell BK279.out 5).trans rfl; have hfz19_0 := blk_frozen BK279.out 0; have hfz19_1 := blk_frozen BK279.out 1; have hfz19_2 := blk_frozen BK279.out 2; have hfz19_3 := blk_frozen BK279.out 3; have hfz19_4 := blk_frozen BK279.out 4; have hfz19_5 := blk_frozen BK279.out 5) | ((with_reducible refine gate_callee (f := 93) rfl ?_); refine goesL_ (some 29) rfl rfl Try.func93 (by kernel_rfl) rfl #[.agg #[.int .i64 a0_4, .int .i64 a0_5], .agg #[.int .i64 a1_4, .int .i64 a1_5]] rfl (by (try simp only [List.map_toArray, List.map_cons, List.map_nil]); first | done | rfl | (simp only [List.length_drop, List.length_take]; rfl)) ?_; (with_reducible refine (laws_eqVal.calls a0_4 a0_5 a1_4 a1_5 false _ A7.out).mono ?_); rintro e w20 ⟨rfl, hb⟩; refine ⟨_, rfl, ?_⟩; have n0_ := Aside0.mk (blk_below (g := gb278) (o := .cells #[.int .i64 a0_0, .int .i64 a0_1, .int .i64 a0_2, .int .i64 a0_3, .int .i64 a0_4, .int .i64 a0_5] 29 (0, 0)) (by (with_reducible repeat (first | refine blk_drewN ?_ _ | refine blk_drew ?_ | refine blk_alloc ?_ _)); exact BK278.out) hb); have n1_ := Aside0.mk (blk_below (g := gb279) (o := .cells #[.int .i64 a1_0, .int .i64 a1_1, .int .i64 a1_2, .int .i64 a1_3, .int .i64 a1_4, .int .i64 a1_5] 29 (0, 0)) (by (with_reducible repeat (first | refine blk_drewN ?_ _ | refine blk_drew ?_ | refine blk_alloc ?_ _)); exact BK279.out) hb); have n2_ := Aside0.mk (below_step (by repeat (first | (with_reducible first | exact HB.out | apply below_alloc | apply pw_below_drewN | apply below_drew1 | refine below_set ?_ GE278.out | refine below_set ?_ GE279.out) | exact HB.out)) hb); clear BK278; clear BK279; clear HB; have BK278 := n0_; have BK279 := n1_; have HB := n2_; clear n0_ n1_ n2_; (try clear hb); (try clear hb2); (try clear hk); (try clear hi)))
            go_ret
            exact ⟨by first | rfl | (simp [errW_none, errW_some] <;> rfl) | (simp [*, errW_none, errW_some] <;> rfl), by repeat (first | (with_reducible first | exact HB.out | apply below_alloc | apply pw_below_drewN | apply below_drew1 | refine below_set ?_ GE278.out | refine below_set ?_ GE279.out) | exact HB.out)⟩
        · rw [if_neg c6] at H
          have c6b0 : (a0_3 == a1_3) = false := beq_eq_false_iff_ne.mpr c6
          have c6b1 : (a0_3 != a1_3) = true := bne_iff_ne.mpr c6
          obtain rfl := Option.some.inj H
          go_enter Try.func75, Try.ntmps75
          go_wp2_with (first | ((with_reducible refine gate_dst (N := 2) rfl ?_); refine box_event ?hg (N := 2) ?hd (cs := #[.int .i64 a0_0, .int .i64 a0_1, .int .i64 a0_2, .int .i64 a0_3, .int .i64 a0_4, .int .i64 a0_5]) (t := 29) ?hr ?_; (case hd => rfl); (case hg => rfl); (case hr => first | (go_simp; done) | (go_simp; rfl)); intro gb278 hg w21 hbox hb; have n0_ := Aside0.mk (below_step (by repeat (first | (with_reducible first | exact HB.out | apply below_alloc | apply pw_below_drewN | apply below_drew1) | exact HB.out)) hb); have n1_ := Aside0.mk (hbox); have n2_ := Aside0.mk ((by rw [hg]; exact (below_size (by repeat (first | (with_reducible first | exact HB.out | apply below_alloc | apply pw_below_drewN | apply below_drew1) | exact HB.out))) : w.heap.size ≤ gb278)); have n3_ := Aside0.mk ((by rw [hg]; exact (below_size (by repeat (first | (with_reducible first | exact HB.out | apply below_alloc | apply pw_below_drewN | apply below_drew1) | exact HB.out))) : w.heap.size ≤ gb278)); clear HB; have HB := n0_; have BK278 := n1_; have GW278 := n2_; have GE278 := n3_; clear n0_ n1_ n2_ n3_; clear hb hbox hg) | ((with_reducible refine gate_dst (N := 3) rfl ?_); refine box_event ?hg (N := 3) ?hd (cs := #[.int .i64 a1_0, .int .i64 a1_1, .int .i64 a1_2, .int .i64 a1_3, .int .i64 a1_4, .int .i64 a1_5]) (t := 29) ?hr ?_; (case hd => rfl); (case hg => rfl); (case hr => first | (go_simp; done) | (go_simp; rfl)); intro gb279 hg w22 hbox hb; have n0_ := Aside0.mk (blk_below (g := gb278) (o := .cells #[.int .i64 a0_0, .int .i64 a0_1, .int .i64 a0_2, .int .i64 a0_3, .int .i64 a0_4, .int .i64 a0_5] 29 (0, 0)) (by (with_reducible repeat (first | refine blk_drewN ?_ _ | refine blk_drew ?_ | refine blk_alloc ?_ _)); exact BK278.out) hb); have n1_ := Aside0.mk (below_step (by repeat (first | (with_reducible first | exact HB.out | apply below_alloc | apply pw_below_drewN | apply below_drew1 | refine below_set ?_ GE278.out) | exact HB.out)) hb); have n2_ := Aside0.mk (hbox); have n3_ := Aside0.mk ((by rw [hg]; exact (below_size (by repeat (first | (with_reducible first | exact HB.out | apply below_alloc | apply pw_below_drewN | apply below_drew1 | refine below_set ?_ GE278.out) | exact HB.out))) : w.heap.size ≤ gb279)); have n4_ := Aside0.mk ((by rw [hg]; exact (below_size (by repeat (first | (with_reducible first | exact HB.out | apply below_alloc | apply pw_below_drewN | apply below_drew1 | refine below_set ?_ GE278.out) | exact HB.out))) : w.heap.size ≤ gb279)); have n5_ := Aside0.mk ((by rw [hg]; exact Nat.ne_of_lt (blk_lt (g := gb278) (o := .cells #[.int .i64 a0_0, .int .i64 a0_1, .int .i64 a0_2, .int .i64 a0_3, .int .i64 a0_4, .int .i64 a0_5] 29 (0, 0)) (by (with_reducible repeat (first | refine blk_drewN ?_ _ | refine blk_drew ?_ | refine blk_alloc ?_ _)); exact BK278.out)) : gb278 ≠ gb279)); have n6_ := Aside0.mk ((by rw [hg]; exact Nat.ne_of_gt (blk_lt (g := gb278) (o := .cells #[.int .i64 a0_0, .int .i64 a0_1, .int .i64 a0_2, .int .i64 a0_3, .int .i64 a0_4, .int .i64 a0_5] 29 (0, 0)) (by (with_reducible repeat (first | refine blk_drewN ?_ _ | refine blk_drew ?_ | refine blk_alloc ?_ _)); exact BK278.out)) : gb279 ≠ gb278)); clear BK278; clear HB; have BK278 := n0_; have HB := n1_; have BK279 := n2_; have GW279 := n3_; have GE279 := n4_; have NB278_279 := n5_; have NB279_278 := n6_; clear n0_ n1_ n2_ n3_ n4_ n5_ n6_; clear hb hbox hg; have hnb23 := NB278_279.out; have hnc23 := NB279_278.out; have hcz24_0 : w22.cell? ⟨gb278, 0, none⟩ = some (.int .i64 a0_0) := (blk_cell BK278.out 0).trans rfl; have hcz24_1 : w22.cell? ⟨gb278, 1, none⟩ = some (.int .i64 a0_1) := (blk_cell BK278.out 1).trans rfl; have hcz24_2 : w22.cell? ⟨gb278, 2, none⟩ = some (.int .i64 a0_2) := (blk_cell BK278.out 2).trans rfl; have hcz24_3 : w22.cell? ⟨gb278, 3, none⟩ = some (.int .i64 a0_3) := (blk_cell BK278.out 3).trans rfl; have hcz24_4 : w22.cell? ⟨gb278, 4, none⟩ = some (.int .i64 a0_4) := (blk_cell BK278.out 4).trans rfl; have hcz24_5 : w22.cell? ⟨gb278, 5, none⟩ = some (.int .i64 a0_5) := (blk_cell BK278.out 5).trans rfl; have hfz24_0 := blk_frozen BK278.out 0; have hfz24_1 := blk_frozen BK278.out 1; have hfz24_2 := blk_frozen BK278.out 2; have hfz24_3 := blk_frozen BK278.out 3; have hfz24_4 := blk_frozen BK278.out 4; have hfz24_5 := blk_frozen BK278.out 5; have hcz25_0 : w22.cell? ⟨gb279, 0, none⟩ = some (.int .i64 a1_0) := (blk_cell BK279.out 0).trans rfl; have hcz25_1 : w22.cell? ⟨gb279, 1, none⟩ = some (.int .i64 a1_1) := (blk_cell BK279.out 1).trans rfl; have hcz25_2 : w22.cell? ⟨gb279, 2, none⟩ = some (.int .i64 a1_2) := (blk_cell BK279.out 2).trans rfl; have hcz25_3 : w22.cell? ⟨gb279, 3, none⟩ = some (.int .i64 a1_3) := (blk_cell BK279.out 3).trans rfl; have hcz25_4 : w22.cell? ⟨gb279, 4, none⟩ = some (.int .i64 a1_4) := (blk_cell BK279.out 4).trans rfl; have hcz25_5 : w22.cell? ⟨gb279, 5, none⟩ = some (.int .i64 a1_5) := (blk_cell BK279.out 5).trans rfl; have hfz25_0 := blk_frozen BK279.out 0; have hfz25_1 := blk_frozen BK279.out 1; have hfz25_2 := blk_frozen BK279.out 2; have hfz25_3 := blk_frozen BK279.out 3; have hfz25_4 := blk_frozen BK279.out 4; have hfz25_5 := blk_frozen BK279.out 5))
          go_ret
          exact ⟨by first | rfl | (simp [errW_none, errW_some] <;> rfl) | (simp [*, errW_none, errW_some] <;> rfl), by repeat (first | (with_reducible first | exact HB.out | apply below_alloc | apply pw_below_drewN | apply below_drew1 | refine below_set ?_ GE278.out | refine below_set ?_ GE279.out) | exact HB.out)⟩
      · rw [if_neg c5] at H
        have c5b0 : (a0_2 == a1_2) = false := beq_eq_false_iff_ne.mpr c5
        have c5b1 : (a0_2 != a1_2) = true := bne_iff_ne.mpr c5
        obtain rfl := Option.some.inj H
        go_enter Try.func75, Try.ntmps75
        go_wp2_with (first | ((with_reducible refine gate_dst (N := 2) rfl ?_); refine box_event ?hg (N := 2) ?hd (cs := #[.int .i64 a0_0, .int .i64 a0_1, .int .i64 a0_2, .int .i64 a0_3, .int .i64 a0_4, .int .i64 a0_5]) (t := 29) ?hr ?_; (case hd => rfl); (case hg => rfl); (case hr => first | (go_simp; done) | (go_simp; rfl)); intro gb278 hg w26 hbox hb; have n0_ := Aside0.mk (below_step (by repeat (first | (with_reducible first | exact HB.out | apply below_alloc | apply pw_below_drewN | apply below_drew1) | exact HB.out)) hb); have n1_ := Aside0.mk (hbox); have n2_ := Aside0.mk ((by rw [hg]; exact (below_size (by repeat (first | (with_reducible first | exact HB.out | apply below_alloc | apply pw_below_drewN | apply below_drew1) | exact HB.out))) : w.heap.size ≤ gb278)); have n3_ := Aside0.mk ((by rw [hg]; exact (below_size (by repeat (first | (with_reducible first | exact HB.out | apply below_alloc | apply pw_below_drewN | apply below_drew1) | exact HB.out))) : w.heap.size ≤ gb278)); clear HB; have HB := n0_; have BK278 := n1_; have GW278 := n2_; have GE278 := n3_; clear n0_ n1_ n2_ n3_; clear hb hbox hg) | ((with_reducible refine gate_dst (N := 3) rfl ?_); refine box_event ?hg (N := 3) ?hd (cs := #[.int .i64 a1_0, .int .i64 a1_1, .int .i64 a1_2, .int .i64 a1_3, .int .i64 a1_4, .int .i64 a1_5]) (t := 29) ?hr ?_; (case hd => rfl); (case hg => rfl); (case hr => first | (go_simp; done) | (go_simp; rfl)); intro gb279 hg w27 hbox hb; have n0_ := Aside0.mk (blk_below (g := gb278) (o := .cells #[.int .i64 a0_0, .int .i64 a0_1, .int .i64 a0_2, .int .i64 a0_3, .int .i64 a0_4, .int .i64 a0_5] 29 (0, 0)) (by (with_reducible repeat (first | refine blk_drewN ?_ _ | refine blk_drew ?_ | refine blk_alloc ?_ _)); exact BK278.out) hb); have n1_ := Aside0.mk (below_step (by repeat (first | (with_reducible first | exact HB.out | apply below_alloc | apply pw_below_drewN | apply below_drew1 | refine below_set ?_ GE278.out) | exact HB.out)) hb); have n2_ := Aside0.mk (hbox); have n3_ := Aside0.mk ((by rw [hg]; exact (below_size (by repeat (first | (with_reducible first | exact HB.out | apply below_alloc | apply pw_below_drewN | apply below_drew1 | refine below_set ?_ GE278.out) | exact HB.out))) : w.heap.size ≤ gb279)); have n4_ := Aside0.mk ((by rw [hg]; exact (below_size (by repeat (first | (with_reducible first | exact HB.out | apply below_alloc | apply pw_below_drewN | apply below_drew1 | refine below_set ?_ GE278.out) | exact HB.out))) : w.heap.size ≤ gb279)); have n5_ := Aside0.mk ((by rw [hg]; exact Nat.ne_of_lt (blk_lt (g := gb278) (o := .cells #[.int .i64 a0_0, .int .i64 a0_1, .int .i64 a0_2, .int .i64 a0_3, .int .i64 a0_4, .int .i64 a0_5] 29 (0, 0)) (by (with_reducible repeat (first | refine blk_drewN ?_ _ | refine blk_drew ?_ | refine blk_alloc ?_ _)); exact BK278.out)) : gb278 ≠ gb279)); have n6_ := Aside0.mk ((by rw [hg]; exact Nat.ne_of_gt (blk_lt (g := gb278) (o := .cells #[.int .i64 a0_0, .int .i64 a0_1, .int .i64 a0_2, .int .i64 a0_3, .int .i64 a0_4, .int .i64 a0_5] 29 (0, 0)) (by (with_reducible repeat (first | refine blk_drewN ?_ _ | refine blk_drew ?_ | refine blk_alloc ?_ _)); exact BK278.out)) : gb279 ≠ gb278)); clear BK278; clear HB; have BK278 := n0_; have HB := n1_; have BK279 := n2_; have GW279 := n3_; have GE279 := n4_; have NB278_279 := n5_; have NB279_278 := n6_; clear n0_ n1_ n2_ n3_ n4_ n5_ n6_; clear hb hbox hg; have hnb28 := NB278_279.out; have hnc28 := NB279_278.out; have hcz29_0 : w27.cell? ⟨gb278, 0, none⟩ = some (.int .i64 a0_0) := (blk_cell BK278.out 0).trans rfl; have hcz29_1 : w27.cell? ⟨gb278, 1, none⟩ = some (.int .i64 a0_1) := (blk_cell BK278.out 1).trans rfl; have hcz29_2 : w27.cell? ⟨gb278, 2, none⟩ = some (.int .i64 a0_2) := (blk_cell BK278.out 2).trans rfl; have hcz29_3 : w27.cell? ⟨gb278, 3, none⟩ = some (.int .i64 a0_3) := (blk_cell BK278.out 3).trans rfl; have hcz29_4 : w27.cell? ⟨gb278, 4, none⟩ = some (.int .i64 a0_4) := (blk_cell BK278.out 4).trans rfl; have hcz29_5 : w27.cell? ⟨gb278, 5, none⟩ = some (.int .i64 a0_5) := (blk_cell BK278.out 5).trans rfl; have hfz29_0 := blk_frozen BK278.out 0; have hfz29_1 := blk_frozen BK278.out 1; have hfz29_2 := blk_frozen BK278.out 2; have hfz29_3 := blk_frozen BK278.out 3; have hfz29_4 := blk_frozen BK278.out 4; have hfz29_5 := blk_frozen BK278.out 5; have hcz30_0 : w27.cell? ⟨gb279, 0, none⟩ = some (.int .i64 a1_0) := (blk_cell BK279.out 0).trans rfl; have hcz30_1 : w27.cell? ⟨gb279, 1, none⟩ = some (.int .i64 a1_1) := (blk_cell BK279.out 1).trans rfl; have hcz30_2 : w27.cell? ⟨gb279, 2, none⟩ = some (.int .i64 a1_2) := (blk_cell BK279.out 2).trans rfl; have hcz30_3 : w27.cell? ⟨gb279, 3, none⟩ = some (.int .i64 a1_3) := (blk_cell BK279.out 3).trans rfl; have hcz30_4 : w27.cell? ⟨gb279, 4, none⟩ = some (.int .i64 a1_4) := (blk_cell BK279.out 4).trans rfl; have hcz30_5 : w27.cell? ⟨gb279, 5, none⟩ = some (.int .i64 a1_5) := (blk_cell BK279.out 5).trans rfl; have hfz30_0 := blk_frozen BK279.out 0; have hfz30_1 := blk_frozen BK279.out 1; have hfz30_2 := blk_frozen BK279.out 2; have hfz30_3 := blk_frozen BK279.out 3; have hfz30_4 := blk_frozen BK279.out 4; have hfz30_5 := blk_frozen BK279.out 5))
        go_ret
        exact ⟨by first | rfl | (simp [errW_none, errW_some] <;> rfl) | (simp [*, errW_none, errW_some] <;> rfl), by repeat (first | (with_reducible first | exact HB.out | apply below_alloc | apply pw_below_drewN | apply below_drew1 | refine below_set ?_ GE278.out | refine below_set ?_ GE279.out) | exact HB.out)⟩
    · rw [if_neg c4] at H
      have c4b0 : (a0_1 == a1_1) = false := beq_eq_false_iff_ne.mpr c4
      have c4b1 : (a0_1 != a1_1) = true := bne_iff_ne.mpr c4
      obtain rfl := Option.some.inj H
      go_enter Try.func75, Try.ntmps75
      go_wp2_with (first | ((with_reducible refine gate_dst (N := 2) rfl ?_); refine box_event ?hg (N := 2) ?hd (cs := #[.int .i64 a0_0, .int .i64 a0_1, .int .i64 a0_2, .int .i64 a0_3, .int .i64 a0_4, .int .i64 a0_5]) (t := 29) ?hr ?_; (case hd => rfl); (case hg => rfl); (case hr => first | (go_simp; done) | (go_simp; rfl)); intro gb278 hg w31 hbox hb; have n0_ := Aside0.mk (below_step (by repeat (first | (with_reducible first | exact HB.out | apply below_alloc | apply pw_below_drewN | apply below_drew1) | exact HB.out)) hb); have n1_ := Aside0.mk (hbox); have n2_ := Aside0.mk ((by rw [hg]; exact (below_size (by repeat (first | (with_reducible first | exact HB.out | apply below_alloc | apply pw_below_drewN | apply below_drew1) | exact HB.out))) : w.heap.size ≤ gb278)); have n3_ := Aside0.mk ((by rw [hg]; exact (below_size (by repeat (first | (with_reducible first | exact HB.out | apply below_alloc | apply pw_below_drewN | apply below_drew1) | exact HB.out))) : w.heap.size ≤ gb278)); clear HB; have HB := n0_; have BK278 := n1_; have GW278 := n2_; have GE278 := n3_; clear n0_ n1_ n2_ n3_; clear hb hbox hg) | ((with_reducible refine gate_dst (N := 3) rfl ?_); refine box_event ?hg (N := 3) ?hd (cs := #[.int .i64 a1_0, .int .i64 a1_1, .int .i64 a1_2, .int .i64 a1_3, .int .i64 a1_4, .int .i64 a1_5]) (t := 29) ?hr ?_; (case hd => rfl); (case hg => rfl); (case hr => first | (go_simp; done) | (go_simp; rfl)); intro gb279 hg w32 hbox hb; have n0_ := Aside0.mk (blk_below (g := gb278) (o := .cells #[.int .i64 a0_0, .int .i64 a0_1, .int .i64 a0_2, .int .i64 a0_3, .int .i64 a0_4, .int .i64 a0_5] 29 (0, 0)) (by (with_reducible repeat (first | refine blk_drewN ?_ _ | refine blk_drew ?_ | refine blk_alloc ?_ _)); exact BK278.out) hb); have n1_ := Aside0.mk (below_step (by repeat (first | (with_reducible first | exact HB.out | apply below_alloc | apply pw_below_drewN | apply below_drew1 | refine below_set ?_ GE278.out) | exact HB.out)) hb); have n2_ := Aside0.mk (hbox); have n3_ := Aside0.mk ((by rw [hg]; exact (below_size (by repeat (first | (with_reducible first | exact HB.out | apply below_alloc | apply pw_below_drewN | apply below_drew1 | refine below_set ?_ GE278.out) | exact HB.out))) : w.heap.size ≤ gb279)); have n4_ := Aside0.mk ((by rw [hg]; exact (below_size (by repeat (first | (with_reducible first | exact HB.out | apply below_alloc | apply pw_below_drewN | apply below_drew1 | refine below_set ?_ GE278.out) | exact HB.out))) : w.heap.size ≤ gb279)); have n5_ := Aside0.mk ((by rw [hg]; exact Nat.ne_of_lt (blk_lt (g := gb278) (o := .cells #[.int .i64 a0_0, .int .i64 a0_1, .int .i64 a0_2, .int .i64 a0_3, .int .i64 a0_4, .int .i64 a0_5] 29 (0, 0)) (by (with_reducible repeat (first | refine blk_drewN ?_ _ | refine blk_drew ?_ | refine blk_alloc ?_ _)); exact BK278.out)) : gb278 ≠ gb279)); have n6_ := Aside0.mk ((by rw [hg]; exact Nat.ne_of_gt (blk_lt (g := gb278) (o := .cells #[.int .i64 a0_0, .int .i64 a0_1, .int .i64 a0_2, .int .i64 a0_3, .int .i64 a0_4, .int .i64 a0_5] 29 (0, 0)) (by (with_reducible repeat (first | refine blk_drewN ?_ _ | refine blk_drew ?_ | refine blk_alloc ?_ _)); exact BK278.out)) : gb279 ≠ gb278)); clear BK278; clear HB; have BK278 := n0_; have HB := n1_; have BK279 := n2_; have GW279 := n3_; have GE279 := n4_; have NB278_279 := n5_; have NB279_278 := n6_; clear n0_ n1_ n2_ n3_ n4_ n5_ n6_; clear hb hbox hg; have hnb33 := NB278_279.out; have hnc33 := NB279_278.out; have hcz34_0 : w32.cell? ⟨gb278, 0, none⟩ = some (.int .i64 a0_0) := (blk_cell BK278.out 0).trans rfl; have hcz34_1 : w32.cell? ⟨gb278, 1, none⟩ = some (.int .i64 a0_1) := (blk_cell BK278.out 1).trans rfl; have hcz34_2 : w32.cell? ⟨gb278, 2, none⟩ = some (.int .i64 a0_2) := (blk_cell BK278.out 2).trans rfl; have hcz34_3 : w32.cell? ⟨gb278, 3, none⟩ = some (.int .i64 a0_3) := (blk_cell BK278.out 3).trans rfl; have hcz34_4 : w32.cell? ⟨gb278, 4, none⟩ = some (.int .i64 a0_4) := (blk_cell BK278.out 4).trans rfl; have hcz34_5 : w32.cell? ⟨gb278, 5, none⟩ = some (.int .i64 a0_5) := (blk_cell BK278.out 5).trans rfl; have hfz34_0 := blk_frozen BK278.out 0; have hfz34_1 := blk_frozen BK278.out 1; have hfz34_2 := blk_frozen BK278.out 2; have hfz34_3 := blk_frozen BK278.out 3; have hfz34_4 := blk_frozen BK278.out 4; have hfz34_5 := blk_frozen BK278.out 5; have hcz35_0 : w32.cell? ⟨gb279, 0, none⟩ = some (.int .i64 a1_0) := (blk_cell BK279.out 0).trans rfl; have hcz35_1 : w32.cell? ⟨gb279, 1, none⟩ = some (.int .i64 a1_1) := (blk_cell BK279.out 1).trans rfl; have hcz35_2 : w32.cell? ⟨gb279, 2, none⟩ = some (.int .i64 a1_2) := (blk_cell BK279.out 2).trans rfl; have hcz35_3 : w32.cell? ⟨gb279, 3, none⟩ = some (.int .i64 a1_3) := (blk_cell BK279.out 3).trans rfl; have hcz35_4 : w32.cell? ⟨gb279, 4, none⟩ = some (.int .i64 a1_4) := (blk_cell BK279.out 4).trans rfl; have hcz35_5 : w32.cell? ⟨gb279, 5, none⟩ = some (.int .i64 a1_5) := (blk_cell BK279.out 5).trans rfl; have hfz35_0 := blk_frozen BK279.out 0; have hfz35_1 := blk_frozen BK279.out 1; have hfz35_2 := blk_frozen BK279.out 2; have hfz35_3 := blk_frozen BK279.out 3; have hfz35_4 := blk_frozen BK279.out 4; have hfz35_5 := blk_frozen BK279.out 5))
      go_ret
      exact ⟨by first | rfl | (simp [errW_none, errW_some] <;> rfl) | (simp [*, errW_none, errW_some] <;> rfl), by repeat (first | (with_reducible first | exact HB.out | apply below_alloc | apply pw_below_drewN | apply below_drew1 | refine below_set ?_ GE278.out | refine below_set ?_ GE279.out) | exact HB.out)⟩
  · rw [if_neg c3] at H
    have c3b0 : (a0_0 == a1_0) = false := beq_eq_false_iff_ne.mpr c3
    have c3b1 : (a0_0 != a1_0) = true := bne_iff_ne.mpr c3
    obtain rfl := Option.some.inj H
    go_enter Try.func75, Try.ntmps75
    go_wp2_with (first | ((with_reducible refine gate_dst (N := 2) rfl ?_); refine box_event ?hg (N := 2) ?hd (cs := #[.int .i64 a0_0, .int .i64 a0_1, .int .i64 a0_2, .int .i64 a0_3, .int .i64 a0_4, .int .i64 a0_5]) (t := 29) ?hr ?_; (case hd => rfl); (case hg => rfl); (case hr => first | (go_simp; done) | (go_simp; rfl)); intro gb278 hg w36 hbox hb; have n0_ := Aside0.mk (below_step (by repeat (first | (with_reducible first | exact HB.out | apply below_alloc | apply pw_below_drewN | apply below_drew1) | exact HB.out)) hb); have n1_ := Aside0.mk (hbox); have n2_ := Aside0.mk ((by rw [hg]; exact (below_size (by repeat (first | (with_reducible first | exact HB.out | apply below_alloc | apply pw_below_drewN | apply below_drew1) | exact HB.out))) : w.heap.size ≤ gb278)); have n3_ := Aside0.mk ((by rw [hg]; exact (below_size (by repeat (first | (with_reducible first | exact HB.out | apply below_alloc | apply pw_below_drewN | apply below_drew1) | exact HB.out))) : w.heap.size ≤ gb278)); clear HB; have HB := n0_; have BK278 := n1_; have GW278 := n2_; have GE278 := n3_; clear n0_ n1_ n2_ n3_; clear hb hbox hg) | ((with_reducible refine gate_dst (N := 3) rfl ?_); refine box_event ?hg (N := 3) ?hd (cs := #[.int .i64 a1_0, .int .i64 a1_1, .int .i64 a1_2, .int .i64 a1_3, .int .i64 a1_4, .int .i64 a1_5]) (t := 29) ?hr ?_; (case hd => rfl); (case hg => rfl); (case hr => first | (go_simp; done) | (go_simp; rfl)); intro gb279 hg w37 hbox hb; have n0_ := Aside0.mk (blk_below (g := gb278) (o := .cells #[.int .i64 a0_0, .int .i64 a0_1, .int .i64 a0_2, .int .i64 a0_3, .int .i64 a0_4, .int .i64 a0_5] 29 (0, 0)) (by (with_reducible repeat (first | refine blk_drewN ?_ _ | refine blk_drew ?_ | refine blk_alloc ?_ _)); exact BK278.out) hb); have n1_ := Aside0.mk (below_step (by repeat (first | (with_reducible first | exact HB.out | apply below_alloc | apply pw_below_drewN | apply below_drew1 | refine below_set ?_ GE278.out) | exact HB.out)) hb); have n2_ := Aside0.mk (hbox); have n3_ := Aside0.mk ((by rw [hg]; exact (below_size (by repeat (first | (with_reducible first | exact HB.out | apply below_alloc | apply pw_below_drewN | apply below_drew1 | refine below_set ?_ GE278.out) | exact HB.out))) : w.heap.size ≤ gb279)); have n4_ := Aside0.mk ((by rw [hg]; exact (below_size (by repeat (first | (with_reducible first | exact HB.out | apply below_alloc | apply pw_below_drewN | apply below_drew1 | refine below_set ?_ GE278.out) | exact HB.out))) : w.heap.size ≤ gb279)); have n5_ := Aside0.mk ((by rw [hg]; exact Nat.ne_of_lt (blk_lt (g := gb278) (o := .cells #[.int .i64 a0_0, .int .i64 a0_1, .int .i64 a0_2, .int .i64 a0_3, .int .i64 a0_4, .int .i64 a0_5] 29 (0, 0)) (by (with_reducible repeat (first | refine blk_drewN ?_ _ | refine blk_drew ?_ | refine blk_alloc ?_ _)); exact BK278.out)) : gb278 ≠ gb279)); have n6_ := Aside0.mk ((by rw [hg]; exact Nat.ne_of_gt (blk_lt (g := gb278) (o := .cells #[.int .i64 a0_0, .int .i64 a0_1, .int .i64 a0_2, .int .i64 a0_3, .int .i64 a0_4, .int .i64 a0_5] 29 (0, 0)) (by (with_reducible repeat (first | refine blk_drewN ?_ _ | refine blk_drew ?_ | refine blk_alloc ?_ _)); exact BK278.out)) : gb279 ≠ gb278)); clear BK278; clear HB; have BK278 := n0_; have HB := n1_; have BK279 := n2_; have GW279 := n3_; have GE279 := n4_; have NB278_279 := n5_; have NB279_278 := n6_; clear n0_ n1_ n2_ n3_ n4_ n5_ n6_; clear hb hbox hg; have hnb38 := NB278_279.out; have hnc38 := NB279_278.out; have hcz39_0 : w37.cell? ⟨gb278, 0, none⟩ = some (.int .i64 a0_0) := (blk_cell BK278.out 0).trans rfl; have hcz39_1 : w37.cell? ⟨gb278, 1, none⟩ = some (.int .i64 a0_1) := (blk_cell BK278.out 1).trans rfl; have hcz39_2 : w37.cell? ⟨gb278, 2, none⟩ = some (.int .i64 a0_2) := (blk_cell BK278.out 2).trans rfl; have hcz39_3 : w37.cell? ⟨gb278, 3, none⟩ = some (.int .i64 a0_3) := (blk_cell BK278.out 3).trans rfl; have hcz39_4 : w37.cell? ⟨gb278, 4, none⟩ = some (.int .i64 a0_4) := (blk_cell BK278.out 4).trans rfl; have hcz39_5 : w37.cell? ⟨gb278, 5, none⟩ = some (.int .i64 a0_5) := (blk_cell BK278.out 5).trans rfl; have hfz39_0 := blk_frozen BK278.out 0; have hfz39_1 := blk_frozen BK278.out 1; have hfz39_2 := blk_frozen BK278.out 2; have hfz39_3 := blk_frozen BK278.out 3; have hfz39_4 := blk_frozen BK278.out 4; have hfz39_5 := blk_frozen BK278.out 5; have hcz40_0 : w37.cell? ⟨gb279, 0, none⟩ = some (.int .i64 a1_0) := (blk_cell BK279.out 0).trans rfl; have hcz40_1 : w37.cell? ⟨gb279, 1, none⟩ = some (.int .i64 a1_1) := (blk_cell BK279.out 1).trans rfl; have hcz40_2 : w37.cell? ⟨gb279, 2, none⟩ = some (.int .i64 a1_2) := (blk_cell BK279.out 2).trans rfl; have hcz40_3 : w37.cell? ⟨gb279, 3, none⟩ = some (.int .i64 a1_3) := (blk_cell BK279.out 3).trans rfl; have hcz40_4 : w37.cell? ⟨gb279, 4, none⟩ = some (.int .i64 a1_4) := (blk_cell BK279.out 4).trans rfl; have hcz40_5 : w37.cell? ⟨gb279, 5, none⟩ = some (.int .i64 a1_5) := (blk_cell BK279.out 5).trans rfl; have hfz40_0 := blk_frozen BK279.out 0; have hfz40_1 := blk_frozen BK279.out 1; have hfz40_2 := blk_frozen BK279.out 2; have hfz40_3 := blk_frozen BK279.out 3; have hfz40_4 := blk_frozen BK279.out 4; have hfz40_5 := blk_frozen BK279.out 5))
    go_ret
    exact ⟨by first | rfl | (simp [errW_none, errW_some] <;> rfl) | (simp [*, errW_none, errW_some] <;> rfl), by repeat (first | (with_reducible first | exact HB.out | apply below_alloc | apply pw_below_drewN | apply below_drew1 | refine below_set ?_ GE278.out | refine below_set ?_ GE279.out) | exact HB.out)⟩
def laws_eqOpS.l0 : Nat → List (S29) → List (S29) → Int → Option (Bool)
  | 0, _, _, _ => none
  | k + 1, x0, x1, x5 => if x5 < (x0.length : Int) then (if 0 ≤ x5 then (if x5 < (x1.length : Int) then ((laws_eqOp.f ((rd_T29 x0 x5).f0) ((rd_T29 x0 x5).f1) ((rd_T29 x0 x5).f2) ((rd_T29 x0 x5).f3) ((rd_T29 x0 x5).f4.f0) ((rd_T29 x0 x5).f4.f1) ((rd_T29 x1 x5).f0) ((rd_T29 x1 x5).f1) ((rd_T29 x1 x5).f2) ((rd_T29 x1 x5).f3) ((rd_T29 x1 x5).f4.f0) ((rd_T29 x1 x5).f4.f1)).bind fun t283 => (if t283 = true then (laws_eqOpS.l0 k x0 x1 (wrap64 (x5 + 1))) else (some false))) else (none)) else (none)) else (some true)
def laws_eqOpS.f (k : Nat) (l0 : List (S29)) (l1 : List (S29)) : Option (Bool) := if (l0.length : Int) = (l1.length : Int) then (laws_eqOpS.l0 k l0 l1 0) else (some false)
def laws_eqOpS.T6 : Bool × List (List Nat × List Nat) := (true, [([], []), ([], []), ([0, 1], [0, 1]), ([2], [2]), ([], []), ([], []), ([4, 5], [4, 5]), ([6], [6]), ([3, 7], [3, 7]), ([8], [8])])
def laws_eqOpS.B6 : List Nat := [0, 0, 3, 7, 0, 0, 48, 112, 255, 511]
theorem laws_eqOpS.tab6 : rtab .any (opsOf Try.f36 6) = laws_eqOpS.T6 := by kernel_rfl
theorem laws_eqOpS.bits6 : waitsOk laws_eqOpS.T6.2 laws_eqOpS.B6 = true := by kernel_rfl
set_option maxHeartbeats 8000000 in
set_option maxRecDepth 100000 in
theorem laws_eqOpS.calls (k : Nat) (A0 : Option Addr) (c0 : Nat) (l0 : List (S29)) (A1 : Option Addr) (c1 : Nat) (l1 : List (S29)) (r : Bool) (w : World) (hr0 : Kd.C k29 w A0 l0.length l0) (hc0 : l0.length ≤ c0) (hr1 : Kd.C k29 w A1 l1.length l1) (hc1 : l1.length ≤ c1) (h : laws_eqOpS.f k l0 l1 = some r) :
    Calls Try.prog 36 #[.slice A0 l0.length c0, .slice A1 l1.length c1] w fun e w' => e = .returned (.bool r) ∧ Below w.heap.size w w' := by
  have hu29 := Try.underlying29
  have HR0 := Aside0.mk hr0
  have HC0 := Aside0.mk hc0
  clear hr0 hc0
  have HR1 := Aside0.mk hr1
  have HC1 := Aside0.mk hc1
  clear hr1 hc1
  have HB := Aside0.mk (Below.refl w.heap.size w)
  have H : (if (l0.length : Int) = (l1.length : Int) then (laws_eqOpS.l0 k l0 l1 0) else (some false)) = some r := h
  clear h
  by_cases c3 : (l0.length : Int) = (l1.length : Int)
  · rw [if_pos c3] at H
    have c3b0 : ((l0.length : Int) == (l1.length : Int)) = true := beq_iff_eq.mpr c3
    have c3b1 : ((l0.length : Int) != (l1.length : Int)) = false := bne_eq_false_iff_eq.mpr c3
    have c3b2 : (l0.length == l1.length) = true := by first | simpa using c3 | (simp at c3 ⊢; omega)
    clear c3
    have H' := Aside0.mk H
    clear H
    go_enter Try.func36, Try.ntmps36
    go_wp2
    go_loopg [5] k (fun kq v5 w' => ∃ (x5_1 : Int), v5 = .int .i64 x5_1 ∧ Aside0 (laws_eqOpS.l0 kq l0 l1 x5_1 = some r) ∧ Aside0 (kq ≤ k) ∧ Aside0 (Below w.heap.size w w'))
    case atStart => exact ⟨(0), (by first | rfl | (simp; done) | (simp [*]; done)), H', ⟨Nat.le_refl _⟩, ⟨by repeat (first | (with_reducible first | exact HB.out | apply below_alloc | apply pw_below_drewN | apply below_drew1) | exact HB.out)⟩⟩
    case round =>
      clear H'
      try clear c1
      try clear p2
      try clear c3
      try clear c3b0
      try clear c3b1
      try clear c3b2
      obtain ⟨x5_1, rfl, HA, HK1, HB⟩ := hrel
      cases gk with
      | zero => exact absurd HA.out (by simp [laws_eqOpS.l0])
      | succ k1 =>
        have H := HA.out
        clear HA
        simp only [laws_eqOpS.l0] at H
        by_cases c4 : x5_1 < (l0.length : Int)
        · rw [if_pos c4] at H
          have c4b0 : decide (x5_1 < (l0.length : Int)) = true := decide_eq_true c4
          clear c4
          by_cases c5 : 0 ≤ x5_1
          · rw [if_pos c5] at H
            have c5b0 : decide (0 ≤ x5_1) = true := decide_eq_true c5
            clear c5
            by_cases c6 : x5_1 < (l1.length : Int)
            · rw [if_pos c6] at H
              have c6b0 : decide (x5_1 < (l1.length : Int)) = true := decide_eq_true c6
              clear c6
              replace H := Option.bind_eq_some_iff.mp H
              obtain ⟨t283, A70, H⟩ := H
              replace H : (if t283 = true then (laws_eqOpS.l0 k1 l0 l1 (wrap64 (x5_1 + 1))) else (some false)) = some r := H
              have A7 := Aside0.mk A70
              clear A70
              by_cases c8 : t283 = true
              · subst c8
                have H1 : (laws_eqOpS.l0 k1 l0 l1 (wrap64 (x5_1 + 1))) = some r := by rw [if_pos rfl] at H; exact H
                clear H
                have H := H1
                clear H1
                have H' := Aside0.mk H
                clear H
                try go_wp2
                have n0_ := Aside0.mk (below_drew1 HB.out)
                clear HB
                have HB := n0_
                clear n0_
                have p281 : 0 ≤ (x5_1 : Int) := of_decide_eq_true (by first | (with_reducible assumption) | assumption)
                have q281 : x5_1 < (l0.length : Int) := of_decide_eq_true (by first | (with_reducible assumption) | assumption)
                obtain ⟨ad281, e281, hx281_0, hx281_1, hx281_2, hx281_3, hx281_4, hx281_5⟩ := at_T29 HR0.out x5_1 p281 q281
                have hw281_5 := hx281_5
                have hw281_4 := hx281_4
                have hw281_3 := hx281_3
                have hw281_2 := hx281_2
                have hw281_1 := hx281_1
                have hw281_0 := hx281_0
                cases e281
                replace hx281_0 := (HB.out.cell (World.block_lt_of_cell? w _ hx281_0)).trans hx281_0
                replace hx281_1 := (HB.out.cell (World.block_lt_of_cell? w _ hx281_1)).trans hx281_1
                replace hx281_2 := (HB.out.cell (World.block_lt_of_cell? w _ hx281_2)).trans hx281_2
                replace hx281_3 := (HB.out.cell (World.block_lt_of_cell? w _ hx281_3)).trans hx281_3
                replace hx281_4 := (HB.out.cell (World.block_lt_of_cell? w _ hx281_4)).trans hx281_4
                replace hx281_5 := (HB.out.cell (World.block_lt_of_cell? w _ hx281_5)).trans hx281_5
                replace p281 := eq_true p281
                replace q281 := eq_true q281
                have p282 : 0 ≤ (x5_1 : Int) := of_decide_eq_true (by first | (with_reducible assumption) | assumption)
                have q282 : x5_1 < (l1.length : Int) := of_decide_eq_true (by first | (with_reducible assumption) | assumption)
                obtain ⟨ad282, e282, hx282_0, hx282_1, hx282_2, hx282_3, hx282_4, hx282_5⟩ := at_T29 HR1.out x5_1 p282 q282
                have hw282_5 := hx282_5
                have hw282_4 := hx282_4
                have hw282_3 := hx282_3
                have hw282_2 := hx282_2
                have hw282_1 := hx282_1
                have hw282_0 := hx282_0
                cases e282
                replace hx282_0 := (HB.out.cell (World.block_lt_of_cell? w _ hx282_0)).trans hx282_0
                replace hx282_1 := (HB.out.cell (World.block_lt_of_cell? w _ hx282_1)).trans hx282_1
                replace hx282_2 := (HB.out.cell (World.block_lt_of_cell? w _ hx282_2)).trans hx282_2
                replace hx282_3 := (HB.out.cell (World.block_lt_of_cell? w _ hx282_3)).trans hx282_3
                replace hx282_4 := (HB.out.cell (World.block_lt_of_cell? w _ hx282_4)).trans hx282_4
                replace hx282_5 := (HB.out.cell (World.block_lt_of_cell? w _ hx282_5)).trans hx282_5
                replace p282 := eq_true p282
                replace q282 := eq_true q282
                refine start_ (n := 10) (S := fun w' => w'.cell? (ad281.add ((x5_1).toNat * 6)) = some (.int .i64 ((rd_T29 l0 x5_1).f0)) ∧ w'.cell? ⟨(ad281.add ((x5_1).toNat * 6)).block, (ad281.add ((x5_1).toNat * 6)).off + 1, none⟩ = some (.int .i64 ((rd_T29 l0 x5_1).f1)) ∧ w'.cell? ⟨(ad281.add ((x5_1).toNat * 6)).block, (ad281.add ((x5_1).toNat * 6)).off + 2, none⟩ = some (.int .i64 ((rd_T29 l0 x5_1).f2)) ∧ w'.cell? ⟨(ad281.add ((x5_1).toNat * 6)).block, (ad281.add ((x5_1).toNat * 6)).off + 3, none⟩ = some (.int .i64 ((rd_T29 l0 x5_1).f3)) ∧ w'.cell? ⟨(ad281.add ((x5_1).toNat * 6)).block, (ad281.add ((x5_1).toNat * 6)).off + 4, none⟩ = some (.int .i64 ((rd_T29 l0 x5_1).f4.f0)) ∧ w'.cell? ⟨(ad281.add ((x5_1).toNat * 6)).block, (ad281.add ((x5_1).toNat * 6)).off + 5, none⟩ = some (.int .i64 ((rd_T29 l0 x5_1).f4.f1)) ∧ w'.cell? (ad282.add ((x5_1).toNat * 6)) = some (.int .i64 ((rd_T29 l1 x5_1).f0)) ∧ w'.cell? ⟨(ad282.add ((x5_1).toNat * 6)).block, (ad282.add ((x5_1).toNat * 6)).off + 1, none⟩ = some (.int .i64 ((rd_T29 l1 x5_1).f1)) ∧ w'.cell? ⟨(ad282.add ((x5_1).toNat * 6)).block, (ad282.add ((x5_1).toNat * 6)).off + 2, none⟩ = some (.int .i64 ((rd_T29 l1 x5_1).f2)) ∧ w'.cell? ⟨(ad282.add ((x5_1).toNat * 6)).block, (ad282.add ((x5_1).toNat * 6)).off + 3, none⟩ = some (.int .i64 ((rd_T29 l1 x5_1).f3)) ∧ w'.cell? ⟨(ad282.add ((x5_1).toNat * 6)).block, (ad282.add ((x5_1).toNat * 6)).off + 4, none⟩ = some (.int .i64 ((rd_T29 l1 x5_1).f4.f0)) ∧ w'.cell? ⟨(ad282.add ((x5_1).toNat * 6)).block, (ad282.add ((x5_1).toNat * 6)).off + 5, none⟩ = some (.int .i64 ((rd_T29 l1 x5_1).f4.f1))) (ds := []) #[false, false, false, false, false, false, false, false, false, false] (by kernel_rfl) rfl rfl ⟨((HB.out.cell (World.block_lt_of_cell? w _ hw281_0)).trans hw281_0), ((HB.out.cell (World.block_lt_of_cell? w _ hw281_1)).trans hw281_1), ((HB.out.cell (World.block_lt_of_cell? w _ hw281_2)).trans hw281_2), ((HB.out.cell (World.block_lt_of_cell? w _ hw281_3)).trans hw281_3), ((HB.out.cell (World.block_lt_of_cell? w _ hw281_4)).trans hw281_4), ((HB.out.cell (World.block_lt_of_cell? w _ hw281_5)).trans hw281_5), ((HB.out.cell (World.block_lt_of_cell? w _ hw282_0)).trans hw282_0), ((HB.out.cell (World.block_lt_of_cell? w _ hw282_1)).trans hw282_1), ((HB.out.cell (World.block_lt_of_cell? w _ hw282_2)).trans hw282_2), ((HB.out.cell (World.block_lt_of_cell? w _ hw282_3)).trans hw282_3), ((HB.out.cell (World.block_lt_of_cell? w _ hw282_4)).trans hw282_4), ((HB.out.cell (World.block_lt_of_cell? w _ hw282_5)).trans hw282_5)⟩ (fun hHeld => ?_); refine with_tabW laws_eqOpS.tab6 laws_eqOpS.bits6 (fun HT_ HW_ => ?_)
                generalize wr.drew = w9 at HB hx281_0 hx281_1 hx281_2 hx281_3 hx281_4 hx281_5 hx282_0 hx282_1 hx282_2 hx282_3 hx282_4 hx282_5 hHeld ⊢
                refine pure_ (i := 0) (N := some 17) (v := ?_) (a' := ?_) #[true, false, false, false, false, false, false, false, false, false] rfl rfl (any_of HT_.out (by kernel_rfl)) (fun _ _ _ h => h) (Or.inl ⟨by rfl, ?_⟩) ?_ ?_
                rotate_left
                · intro w'
                  go_simp
                  with_reducible rfl
                rotate_left
                · simp only [Act.put, List.setIfInBounds_toArray, List.set_cons_zero, List.set_cons_succ, i64_w, i32_w]
                  rfl
                refine pure_ (i := 1) (N := some 18) (v := ?_) (a' := ?_) #[true, true, false, false, false, false, false, false, false, false] rfl rfl (any_of HT_.out (by kernel_rfl)) (fun _ _ _ h => h) (Or.inl ⟨by rfl, ?_⟩) ?_ ?_
                rotate_left
                · intro w'
                  go_simp
                  with_reducible rfl
                rotate_left
                · simp only [Act.put, List.setIfInBounds_toArray, List.set_cons_zero, List.set_cons_succ, i64_w, i32_w]
                  rfl
                refine pure_ (i := 2) (N := some 19) (v := ?_) (a' := ?_) #[true, true, true, false, false, false, false, false, false, false] rfl rfl (any_of HT_.out (by kernel_rfl)) (fun _ _ _ h => h) (Or.inl ⟨by rfl, ?_⟩) ?_ ?_
                rotate_left
                · intro w'
                  go_simp
                  with_reducible rfl
                rotate_left
                · simp only [Act.put, List.setIfInBounds_toArray, List.set_cons_zero, List.set_cons_succ, i64_w, i32_w]
                  rfl
                refine pure_ (i := 4) (N := some 21) (v := ?_) (a' := ?_) #[true, true, true, false, true, false, false, false, false, false] rfl rfl (any_of HT_.out (by kernel_rfl)) (fun _ _ _ h => h) (Or.inl ⟨by rfl, ?_⟩) ?_ ?_
                rotate_left
                · intro w'
                  go_simp
                  with_reducible rfl
                rotate_left
                · simp only [Act.put, List.setIfInBounds_toArray, List.set_cons_zero, List.set_cons_succ, i64_w, i32_w]
                  rfl
                refine pure_ (i := 5) (N := some 22) (v := ?_) (a' := ?_) #[true, true, true, false, true, true, false, false, false, false] rfl rfl (any_of HT_.out (by kernel_rfl)) (fun _ _ _ h => h) (Or.inl ⟨by rfl, ?_⟩) ?_ ?_
                rotate_left
                · intro w'
                  go_simp
                  with_reducible rfl
                rotate_left
                · simp only [Act.put, List.setIfInBounds_toArray, List.set_cons_zero, List.set_cons_succ, i64_w, i32_w]
                  rfl
                refine pure_ (i := 6) (N := some 23) (v := ?_) (a' := ?_) #[true, true, true, false, true, true, true, false, false, false] rfl rfl (any_of HT_.out (by kernel_rfl)) (fun _ _ _ h => h) (Or.inl ⟨by rfl, ?_⟩) ?_ ?_
                rotate_left
                · intro w'
                  go_simp
                  with_reducible rfl
                rotate_left
                · simp only [Act.put, List.setIfInBounds_toArray, List.set_cons_zero, List.set_cons_succ, i64_w, i32_w]
                  rfl
                refine take_ (i := 3) (N := some 20) (v := ?_) (a' := ?_) #[true, true, true, true, true, true, true, false, false, false] rfl rfl (take_ofW HT_.out HW_.out (by kernel_rfl)) (fun _ _ _ h => h) (Or.inl ⟨by rfl, ?_⟩) hHeld ?_ ?_
                rotate_left
                · rintro w' ⟨s0, s1, s2, s3, s4, s5, s6, s7, s8, s9, s10, s11⟩
                  go_simp
                  with_reducible rfl
                rotate_left
                · simp only [Act.put, List.setIfInBounds_toArray, List.set_cons_zero, List.set_cons_succ, i64_w, i32_w]
                  rfl
                refine take_ (i := 7) (N := some 24) (v := ?_) (a' := ?_) #[true, true, true, true, true, true, true, true, false, false] rfl rfl (take_ofW HT_.out HW_.out (by kernel_rfl)) (fun _ _ _ h => h) (Or.inl ⟨by rfl, ?_⟩) hHeld ?_ ?_
                rotate_left
                · rintro w' ⟨s0, s1, s2, s3, s4, s5, s6, s7, s8, s9, s10, s11⟩
                  go_simp
                  with_reducible rfl
                rotate_left
                · simp only [Act.put, List.setIfInBounds_toArray, List.set_cons_zero, List.set_cons_succ, i64_w, i32_w]
                  rfl
                refine one_ (i := 8) (N := some 25) #[true, true, true, true, true, true, true, true, true, false] rfl rfl (one_of HT_.out (by kernel_rfl)) (by decide) (fun K hK => ?_)
                refine goes_ Try.func75 (by kernel_rfl) rfl #[.agg #[.int .i64 ((rd_T29 l0 x5_1).f0), .int .i64 ((rd_T29 l0 x5_1).f1), .int .i64 ((rd_T29 l0 x5_1).f2), .int .i64 ((rd_T29 l0 x5_1).f3), .int .i64 ((rd_T29 l0 x5_1).f4.f0), .int .i64 ((rd_T29 l0 x5_1).f4.f1)], .agg #[.int .i64 ((rd_T29 l1 x5_1).f0), .int .i64 ((rd_T29 l1 x5_1).f1), .int .i64 ((rd_T29 l1 x5_1).f2), .int .i64 ((rd_T29 l1 x5_1).f3), .int .i64 ((rd_T29 l1 x5_1).f4.f0), .int .i64 ((rd_T29 l1 x5_1).f4.f1)]] (by rfl) rfl rfl (by (try simp only [List.map_toArray, List.map_cons, List.map_nil]); first | done | rfl | (simp only [List.length_drop, List.length_take]; rfl)) ?_
                with_reducible refine (laws_eqOp.calls ((rd_T29 l0 x5_1).f0) ((rd_T29 l0 x5_1).f1) ((rd_T29 l0 x5_1).f2) ((rd_T29 l0 x5_1).f3) ((rd_T29 l0 x5_1).f4.f0) ((rd_T29 l0 x5_1).f4.f1) ((rd_T29 l1 x5_1).f0) ((rd_T29 l1 x5_1).f1) ((rd_T29 l1 x5_1).f2) ((rd_T29 l1 x5_1).f3) ((rd_T29 l1 x5_1).f4.f0) ((rd_T29 l1 x5_1).f4.f1) true _ A7.out).mono ?_
                rintro e w10 ⟨rfl, hb⟩
                refine ⟨_, rfl, ?_⟩
                have n0_ := Aside0.mk (below_step (by repeat (first | (with_reducible first | exact HB.out | apply below_alloc | apply pw_below_drewN | apply below_drew1) | exact HB.out)) hb)
                clear HB
                have HB := n0_
                clear n0_
                (try clear hb)
                (try clear hb2)
                (try clear hk)
                (try clear hi)
                refine hK.out _ _ ⟨((HB.out.cell (World.block_lt_of_cell? w _ hw281_0)).trans hw281_0), ((HB.out.cell (World.block_lt_of_cell? w _ hw281_1)).trans hw281_1), ((HB.out.cell (World.block_lt_of_cell? w _ hw281_2)).trans hw281_2), ((HB.out.cell (World.block_lt_of_cell? w _ hw281_3)).trans hw281_3), ((HB.out.cell (World.block_lt_of_cell? w _ hw281_4)).trans hw281_4), ((HB.out.cell (World.block_lt_of_cell? w _ hw281_5)).trans hw281_5), ((HB.out.cell (World.block_lt_of_cell? w _ hw282_0)).trans hw282_0), ((HB.out.cell (World.block_lt_of_cell? w _ hw282_1)).trans hw282_1), ((HB.out.cell (World.block_lt_of_cell? w _ hw282_2)).trans hw282_2), ((HB.out.cell (World.block_lt_of_cell? w _ hw282_3)).trans hw282_3), ((HB.out.cell (World.block_lt_of_cell? w _ hw282_4)).trans hw282_4), ((HB.out.cell (World.block_lt_of_cell? w _ hw282_5)).trans hw282_5)⟩ (fun hHeld => ?_)
                clear hK K
                refine norm_ (a' := ?_) ?_ ?_
                rotate_left
                · show Act.put _ (some 25) _ = _
                  simp only [Act.put, List.setIfInBounds_toArray, List.set_cons_zero, List.set_cons_succ, i64_w, i32_w]
                  rfl
                refine pure_ (i := 9) (N := some 26) (v := ?_) (a' := ?_) #[true, true, true, true, true, true, true, true, true, true] rfl rfl (any_of HT_.out (by kernel_rfl)) (fun _ _ _ h => h) (Or.inl ⟨by rfl, ?_⟩) ?_ ?_
                rotate_left
                · intro w'
                  go_simp
                  with_reducible rfl
                rotate_left
                · simp only [Act.put, List.setIfInBounds_toArray, List.set_cons_zero, List.set_cons_succ, i64_w, i32_w]
                  rfl
                refine done_ (done_of HT_.out (by kernel_rfl)) ?_
                try go_wp2
                go_roundg k1
                case measure => have := HK1.out; omega
                case rel => exact ⟨(wrap64 (x5_1 + 1)), (by first | rfl | (simp; done) | (simp [*]; done)), H', ⟨by have := HK1.out; omega⟩, ⟨by repeat (first | (with_reducible first | exact HB.out | apply below_alloc | apply pw_below_drewN | apply below_drew1) | exact HB.out)⟩⟩
              · replace c8 := Bool.eq_false_iff.mpr c8
                subst c8
                have H1 : (some false) = some r := by rw [if_neg (show ¬ (false = true) by decide)] at H; exact H
                clear H
                have H := H1
                clear H1
                obtain rfl := Option.some.inj H
                try go_wp2
                have n0_ := Aside0.mk (below_drew1 HB.out)
                clear HB
                have HB := n0_
                clear n0_
                have p281 : 0 ≤ (x5_1 : Int) := of_decide_eq_true (by first | (with_reducible assumption) | assumption)
                have q281 : x5_1 < (l0.length : Int) := of_decide_eq_true (by first | (with_reducible assumption) | assumption)
                obtain ⟨ad281, e281, hx281_0, hx281_1, hx281_2, hx281_3, hx281_4, hx281_5⟩ := at_T29 HR0.out x5_1 p281 q281
                have hw281_5 := hx281_5
                have hw281_4 := hx281_4
                have hw281_3 := hx281_3
                have hw281_2 := hx281_2
                have hw281_1 := hx281_1
                have hw281_0 := hx281_0
                cases e281
                replace hx281_0 := (HB.out.cell (World.block_lt_of_cell? w _ hx281_0)).trans hx281_0
                replace hx281_1 := (HB.out.cell (World.block_lt_of_cell? w _ hx281_1)).trans hx281_1
                replace hx281_2 := (HB.out.cell (World.block_lt_of_cell? w _ hx281_2)).trans hx281_2
                replace hx281_3 := (HB.out.cell (World.block_lt_of_cell? w _ hx281_3)).trans hx281_3
                replace hx281_4 := (HB.out.cell (World.block_lt_of_cell? w _ hx281_4)).trans hx281_4
                replace hx281_5 := (HB.out.cell (World.block_lt_of_cell? w _ hx281_5)).trans hx281_5
                replace p281 := eq_true p281
                replace q281 := eq_true q281
                have p282 : 0 ≤ (x5_1 : Int) := of_decide_eq_true (by first | (with_reducible assumption) | assumption)
                have q282 : x5_1 < (l1.length : Int) := of_decide_eq_true (by first | (with_reducible assumption) | assumption)
                obtain ⟨ad282, e282, hx282_0, hx282_1, hx282_2, hx282_3, hx282_4, hx282_5⟩ := at_T29 HR1.out x5_1 p282 q282
                have hw282_5 := hx282_5
                have hw282_4 := hx282_4
                have hw282_3 := hx282_3
                have hw282_2 := hx282_2
                have hw282_1 := hx282_1
                have hw282_0 := hx282_0
                cases e282
                replace hx282_0 := (HB.out.cell (World.block_lt_of_cell? w _ hx282_0)).trans hx282_0
                replace hx282_1 := (HB.out.cell (World.block_lt_of_cell? w _ hx282_1)).trans hx282_1
                replace hx282_2 := (HB.out.cell (World.block_lt_of_cell? w _ hx282_2)).trans hx282_2
                replace hx282_3 := (HB.out.cell (World.block_lt_of_cell? w _ hx282_3)).trans hx282_3
                replace hx282_4 := (HB.out.cell (World.block_lt_of_cell? w _ hx282_4)).trans hx282_4
                replace hx282_5 := (HB.out.cell (World.block_lt_of_cell? w _ hx282_5)).trans hx282_5
                replace p282 := eq_true p282
                replace q282 := eq_true q282
                refine start_ (n := 10) (S := fun w' => w'.cell? (ad281.add ((x5_1).toNat * 6)) = some (.int .i64 ((rd_T29 l0 x5_1).f0)) ∧ w'.cell? ⟨(ad281.add ((x5_1).toNat * 6)).block, (ad281.add ((x5_1).toNat * 6)).off + 1, none⟩ = some (.int .i64 ((rd_T29 l0 x5_1).f1)) ∧ w'.cell? ⟨(ad281.add ((x5_1).toNat * 6)).block, (ad281.add ((x5_1).toNat * 6)).off + 2, none⟩ = some (.int .i64 ((rd_T29 l0 x5_1).f2)) ∧ w'.cell? ⟨(ad281.add ((x5_1).toNat * 6)).block, (ad281.add ((x5_1).toNat * 6)).off + 3, none⟩ = some (.int .i64 ((rd_T29 l0 x5_1).f3)) ∧ w'.cell? ⟨(ad281.add ((x5_1).toNat * 6)).block, (ad281.add ((x5_1).toNat * 6)).off + 4, none⟩ = some (.int .i64 ((rd_T29 l0 x5_1).f4.f0)) ∧ w'.cell? ⟨(ad281.add ((x5_1).toNat * 6)).block, (ad281.add ((x5_1).toNat * 6)).off + 5, none⟩ = some (.int .i64 ((rd_T29 l0 x5_1).f4.f1)) ∧ w'.cell? (ad282.add ((x5_1).toNat * 6)) = some (.int .i64 ((rd_T29 l1 x5_1).f0)) ∧ w'.cell? ⟨(ad282.add ((x5_1).toNat * 6)).block, (ad282.add ((x5_1).toNat * 6)).off + 1, none⟩ = some (.int .i64 ((rd_T29 l1 x5_1).f1)) ∧ w'.cell? ⟨(ad282.add ((x5_1).toNat * 6)).block, (ad282.add ((x5_1).toNat * 6)).off + 2, none⟩ = some (.int .i64 ((rd_T29 l1 x5_1).f2)) ∧ w'.cell? ⟨(ad282.add ((x5_1).toNat * 6)).block, (ad282.add ((x5_1).toNat * 6)).off + 3, none⟩ = some (.int .i64 ((rd_T29 l1 x5_1).f3)) ∧ w'.cell? ⟨(ad282.add ((x5_1).toNat * 6)).block, (ad282.add ((x5_1).toNat * 6)).off + 4, none⟩ = some (.int .i64 ((rd_T29 l1 x5_1).f4.f0)) ∧ w'.cell? ⟨(ad282.add ((x5_1).toNat * 6)).block, (ad282.add ((x5_1).toNat * 6)).off + 5, none⟩ = some (.int .i64 ((rd_T29 l1 x5_1).f4.f1))) (ds := []) #[false, false, false, false, false, false, false, false, false, false] (by kernel_rfl) rfl rfl ⟨((HB.out.cell (World.block_lt_of_cell? w _ hw281_0)).trans hw281_0), ((HB.out.cell (World.block_lt_of_cell? w _ hw281_1)).trans hw281_1), ((HB.out.cell (World.block_lt_of_cell? w _ hw281_2)).trans hw281_2), ((HB.out.cell (World.block_lt_of_cell? w _ hw281_3)).trans hw281_3), ((HB.out.cell (World.block_lt_of_cell? w _ hw281_4)).trans hw281_4), ((HB.out.cell (World.block_lt_of_cell? w _ hw281_5)).trans hw281_5), ((HB.out.cell (World.block_lt_of_cell? w _ hw282_0)).trans hw282_0), ((HB.out.cell (World.block_lt_of_cell? w _ hw282_1)).trans hw282_1), ((HB.out.cell (World.block_lt_of_cell? w _ hw282_2)).trans hw282_2), ((HB.out.cell (World.block_lt_of_cell? w _ hw282_3)).trans hw282_3), ((HB.out.cell (World.block_lt_of_cell? w _ hw282_4)).trans hw282_4), ((HB.out.cell (World.block_lt_of_cell? w _ hw282_5)).trans hw282_5)⟩ (fun hHeld => ?_); refine with_tabW laws_eqOpS.tab6 laws_eqOpS.bits6 (fun HT_ HW_ => ?_)
                generalize wr.drew = w11 at HB hx281_0 hx281_1 hx281_2 hx281_3 hx281_4 hx281_5 hx282_0 hx282_1 hx282_2 hx282_3 hx282_4 hx282_5 hHeld ⊢
                refine pure_ (i := 0) (N := some 17) (v := ?_) (a' := ?_) #[true, false, false, false, false, false, false, false, false, false] rfl rfl (any_of HT_.out (by kernel_rfl)) (fun _ _ _ h => h) (Or.inl ⟨by rfl, ?_⟩) ?_ ?_
                rotate_left
                · intro w'
                  go_simp
                  with_reducible rfl
                rotate_left
                · simp only [Act.put, List.setIfInBounds_toArray, List.set_cons_zero, List.set_cons_succ, i64_w, i32_w]
                  rfl
                refine pure_ (i := 1) (N := some 18) (v := ?_) (a' := ?_) #[true, true, false, false, false, false, false, false, false, false] rfl rfl (any_of HT_.out (by kernel_rfl)) (fun _ _ _ h => h) (Or.inl ⟨by rfl, ?_⟩) ?_ ?_
                rotate_left
                · intro w'
                  go_simp
                  with_reducible rfl
                rotate_left
                · simp only [Act.put, List.setIfInBounds_toArray, List.set_cons_zero, List.set_cons_succ, i64_w, i32_w]
                  rfl
                refine pure_ (i := 2) (N := some 19) (v := ?_) (a' := ?_) #[true, true, true, false, false, false, false, false, false, false] rfl rfl (any_of HT_.out (by kernel_rfl)) (fun _ _ _ h => h) (Or.inl ⟨by rfl, ?_⟩) ?_ ?_
                rotate_left
                · intro w'
                  go_simp
                  with_reducible rfl
                rotate_left
                · simp only [Act.put, List.setIfInBounds_toArray, List.set_cons_zero, List.set_cons_succ, i64_w, i32_w]
                  rfl
                refine pure_ (i := 4) (N := some 21) (v := ?_) (a' := ?_) #[true, true, true, false, true, false, false, false, false, false] rfl rfl (any_of HT_.out (by kernel_rfl)) (fun _ _ _ h => h) (Or.inl ⟨by rfl, ?_⟩) ?_ ?_
                rotate_left
                · intro w'
                  go_simp
                  with_reducible rfl
                rotate_left
                · simp only [Act.put, List.setIfInBounds_toArray, List.set_cons_zero, List.set_cons_succ, i64_w, i32_w]
                  rfl
                refine pure_ (i := 5) (N := some 22) (v := ?_) (a' := ?_) #[true, true, true, false, true, true, false, false, false, false] rfl rfl (any_of HT_.out (by kernel_rfl)) (fun _ _ _ h => h) (Or.inl ⟨by rfl, ?_⟩) ?_ ?_
                rotate_left
                · intro w'
                  go_simp
                  with_reducible rfl
                rotate_left
                · simp only [Act.put, List.setIfInBounds_toArray, List.set_cons_zero, List.set_cons_succ, i64_w, i32_w]
                  rfl
                refine pure_ (i := 6) (N := some 23) (v := ?_) (a' := ?_) #[true, true, true, false, true, true, true, false, false, false] rfl rfl (any_of HT_.out (by kernel_rfl)) (fun _ _ _ h => h) (Or.inl ⟨by rfl, ?_⟩) ?_ ?_
                rotate_left
                · intro w'
                  go_simp
                  with_reducible rfl
                rotate_left
                · simp only [Act.put, List.setIfInBounds_toArray, List.set_cons_zero, List.set_cons_succ, i64_w, i32_w]
                  rfl
                refine take_ (i := 3) (N := some 20) (v := ?_) (a' := ?_) #[true, true, true, true, true, true, true, false, false, false] rfl rfl (take_ofW HT_.out HW_.out (by kernel_rfl)) (fun _ _ _ h => h) (Or.inl ⟨by rfl, ?_⟩) hHeld ?_ ?_
                rotate_left
                · rintro w' ⟨s0, s1, s2, s3, s4, s5, s6, s7, s8, s9, s10, s11⟩
                  go_simp
                  with_reducible rfl
                rotate_left
                · simp only [Act.put, List.setIfInBounds_toArray, List.set_cons_zero, List.set_cons_succ, i64_w, i32_w]
                  rfl
                refine take_ (i := 7) (N := some 24) (v := ?_) (a' := ?_) #[true, true, true, true, true, true, true, true, false, false] rfl rfl (take_ofW HT_.out HW_.out (by kernel_rfl)) (fun _ _ _ h => h) (Or.inl ⟨by rfl, ?_⟩) hHeld ?_ ?_
                rotate_left
                · rintro w' ⟨s0, s1, s2, s3, s4, s5, s6, s7, s8, s9, s10, s11⟩
                  go_simp
                  with_reducible rfl
                rotate_left
                · simp only [Act.put, List.setIfInBounds_toArray, List.set_cons_zero, List.set_cons_succ, i64_w, i32_w]
                  rfl
                refine one_ (i := 8) (N := some 25) #[true, true, true, true, true, true, true, true, true, false] rfl rfl (one_of HT_.out (by kernel_rfl)) (by decide) (fun K hK => ?_)
                refine goes_ Try.func75 (by kernel_rfl) rfl #[.agg #[.int .i64 ((rd_T29 l0 x5_1).f0), .int .i64 ((rd_T29 l0 x5_1).f1), .int .i64 ((rd_T29 l0 x5_1).f2), .int .i64 ((rd_T29 l0 x5_1).f3), .int .i64 ((rd_T29 l0 x5_1).f4.f0), .int .i64 ((rd_T29 l0 x5_1).f4.f1)], .agg #[.int .i64 ((rd_T29 l1 x5_1).f0), .int .i64 ((rd_T29 l1 x5_1).f1), .int .i64 ((rd_T29 l1 x5_1).f2), .int .i64 ((rd_T29 l1 x5_1).f3), .int .i64 ((rd_T29 l1 x5_1).f4.f0), .int .i64 ((rd_T29 l1 x5_1).f4.f1)]] (by rfl) rfl rfl (by (try simp only [List.map_toArray, List.map_cons, List.map_nil]); first | done | rfl | (simp only [List.length_drop, List.length_take]; rfl)) ?_
                with_reducible refine (laws_eqOp.calls ((rd_T29 l0 x5_1).f0) ((rd_T29 l0 x5_1).f1) ((rd_T29 l0 x5_1).f2) ((rd_T29 l0 x5_1).f3) ((rd_T29 l0 x5_1).f4.f0) ((rd_T29 l0 x5_1).f4.f1) ((rd_T29 l1 x5_1).f0) ((rd_T29 l1 x5_1).f1) ((rd_T29 l1 x5_1).f2) ((rd_T29 l1 x5_1).f3) ((rd_T29 l1 x5_1).f4.f0) ((rd_T29 l1 x5_1).f4.f1) false _ A7.out).mono ?_
                rintro e w12 ⟨rfl, hb⟩
                refine ⟨_, rfl, ?_⟩
                have n0_ := Aside0.mk (below_step (by repeat (first | (with_reducible first | exact HB.out | apply below_alloc | apply pw_below_drewN | apply below_drew1) | exact HB.out)) hb)
                clear HB
                have HB := n0_
                clear n0_
                (try clear hb)
                (try clear hb2)
                (try clear hk)
                (try clear hi)
                refine hK.out _ _ ⟨((HB.out.cell (World.block_lt_of_cell? w _ hw281_0)).trans hw281_0), ((HB.out.cell (World.block_lt_of_cell? w _ hw281_1)).trans hw281_1), ((HB.out.cell (World.block_lt_of_cell? w _ hw281_2)).trans hw281_2), ((HB.out.cell (World.block_lt_of_cell? w _ hw281_3)).trans hw281_3), ((HB.out.cell (World.block_lt_of_cell? w _ hw281_4)).trans hw281_4), ((HB.out.cell (World.block_lt_of_cell? w _ hw281_5)).trans hw281_5), ((HB.out.cell (World.block_lt_of_cell? w _ hw282_0)).trans hw282_0), ((HB.out.cell (World.block_lt_of_cell? w _ hw282_1)).trans hw282_1), ((HB.out.cell (World.block_lt_of_cell? w _ hw282_2)).trans hw282_2), ((HB.out.cell (World.block_lt_of_cell? w _ hw282_3)).trans hw282_3), ((HB.out.cell (World.block_lt_of_cell? w _ hw282_4)).trans hw282_4), ((HB.out.cell (World.block_lt_of_cell? w _ hw282_5)).trans hw282_5)⟩ (fun hHeld => ?_)
                clear hK K
                refine norm_ (a' := ?_) ?_ ?_
                rotate_left
                · show Act.put _ (some 25) _ = _
                  simp only [Act.put, List.setIfInBounds_toArray, List.set_cons_zero, List.set_cons_succ, i64_w, i32_w]
                  rfl
                refine pure_ (i := 9) (N := some 26) (v := ?_) (a' := ?_) #[true, true, true, true, true, true, true, true, true, true] rfl rfl (any_of HT_.out (by kernel_rfl)) (fun _ _ _ h => h) (Or.inl ⟨by rfl, ?_⟩) ?_ ?_
                rotate_left
                · intro w'
                  go_simp
                  with_reducible rfl
                rotate_left
                · simp only [Act.put, List.setIfInBounds_toArray, List.set_cons_zero, List.set_cons_succ, i64_w, i32_w]
                  rfl
                refine done_ (done_of HT_.out (by kernel_rfl)) ?_
                try go_wp2
                go_ret
                exact ⟨by first | rfl | (simp [errW_none, errW_some] <;> rfl) | (simp [*, errW_none, errW_some] <;> rfl), by repeat (first | (with_reducible first | exact HB.out | apply below_alloc | apply pw_below_drewN | apply below_drew1) | exact HB.out)⟩
            · rw [if_neg c6] at H
              exact absurd H (by simp)
          · rw [if_neg c5] at H
            exact absurd H (by simp)
        · rw [if_neg c4] at H
          have c4b0 : decide (x5_1 < (l0.length : Int)) = false := decide_eq_false c4
          clear c4
          obtain rfl := Option.some.inj H
          go_wp2
          go_ret
          exact ⟨by first | rfl | (simp [errW_none, errW_some] <;> rfl) | (simp [*, errW_none, errW_some] <;> rfl), by repeat (first | (with_reducible first | exact HB.out | apply below_alloc | apply pw_below_drewN | apply below_drew1) | exact HB.out)⟩
  · rw [if_neg c3] at H
    have c3b0 : ((l0.length : Int) == (l1.length : Int)) = false := beq_eq_false_iff_ne.mpr c3
    have c3b1 : ((l0.length : Int) != (l1.length : Int)) = true := bne_iff_ne.mpr c3
    have c3b2 : (l0.length == l1.length) = false := by first | simpa using c3 | (simp at c3 ⊢; omega)
    obtain rfl := Option.some.inj H
    go_enter Try.func36, Try.ntmps36
    go_wp2
    go_ret
    exact ⟨by first | rfl | (simp [errW_none, errW_some] <;> rfl) | (simp [*, errW_none, errW_some] <;> rfl), by repeat (first | (with_reducible first | exact HB.out | apply below_alloc | apply pw_below_drewN | apply below_drew1) | exact HB.out)⟩
end Go.Proofs.Ytmklpbmlgjkbiaa.PS
end
section
namespace Go.Proofs.Ytmklpbmlgjkbiaa.PS
open Go.RowKit Go.Proofs.YtmklpbmlgjkbiaaW.PrintWords Go.Proofs.YtmklpbmlgjkbiaaW.PrintLast
set_option linter.unusedVariables false
theorem rd29_at (l : List S29) (i : Nat) (h : i < l.length) : rd_T29 l (i : Int) = l[i] := by
  unfold rd_T29; simp [List.getD_eq_getElem?_getD, List.getElem?_eq_getElem h]
theorem rd25_at (l : List S25) (i : Nat) (h : i < l.length) : rd_T25 l (i : Int) = l[i] := by
  unfold rd_T25; simp [List.getD_eq_getElem?_getD, List.getElem?_eq_getElem h]
instance : DecidableEq S27 := fun a b => decidable_of_iff (a.f0 = b.f0 ∧ a.f1 = b.f1) ⟨fun ⟨h, g⟩ => by cases a; cases b; simp_all, fun h => by subst h; exact ⟨rfl, rfl⟩⟩
instance : DecidableEq S29 := fun a b => decidable_of_iff (a.f0 = b.f0 ∧ a.f1 = b.f1 ∧ a.f2 = b.f2 ∧ a.f3 = b.f3 ∧ a.f4 = b.f4) ⟨fun ⟨h, g, i, j, k⟩ => by cases a; cases b; simp_all, fun h => by subst h; exact ⟨rfl, rfl, rfl, rfl, rfl⟩⟩
theorem goes_eq (k : Int) : spec_l3Goes.f k = some (hasT k) := by
  unfold spec_l3Goes.f hasT
  by_cases h5 : k = 5
  · subst h5; rfl
  rw [if_neg h5]
  by_cases h8 : k = 8
  · subst h8; rfl
  rw [if_neg h8]
  by_cases h9 : k = 9
  · subst h9; rfl
  rw [if_neg h9]
  by_cases h10 : k = 10
  · subst h10; rfl
  have : (k == 10) = false := by simpa using h10
  rw [this]; simp [h5, h8, h9, h10]
theorem in_len (n : Nat) : spec_l6In.f (n : Int) 1 16 = some (decide (1 ≤ n ∧ n ≤ 16)) := by
  unfold spec_l6In.f
  split
  · congr 1; exact decide_eq_decide.2 (by omega)
  · congr 1; symm; exact decide_eq_false (by omega)
theorem scode_loop (l : List S29) (hm : l.length ≤ 9223372036854775807) (d : Nat) : ∀ (k i : Nat), l.length - i = d → i ≤ l.length → 2 * d < k →
    spec_CodeOk.l0 k l i = some (decide (1 ≤ l.length ∧ l.length ≤ 16) && !((l.drop i).any (wrongB l.length))) := by
  induction d with
  | zero =>
    intro k i hd hi hk
    obtain ⟨k, rfl⟩ : ∃ m, k = m + 1 := ⟨k - 1, by omega⟩
    simp only [spec_CodeOk.l0]
    rw [if_neg (by omega), List.drop_of_length_le (by omega), in_len]; simp
  | succ d ih =>
    intro k i hd hi hk
    obtain ⟨k, rfl⟩ : ∃ m, k = m + 1 := ⟨k - 1, by omega⟩
    obtain ⟨k, rfl⟩ : ∃ m, k = m + 1 := ⟨k - 1, by omega⟩
    simp only [spec_CodeOk.l0]
    have d0 : l.drop i = l[i]'(by omega) :: l.drop (i + 1) := List.drop_eq_getElem_cons (by omega)
    rw [if_pos (by omega), if_pos (by omega), rd29_at l i (by omega), d0]
    obtain ⟨x, hx⟩ : ∃ x, l[i]'(by omega) = x := ⟨_, rfl⟩
    rw [hx]
    have hw : wrongB l.length x = (!(opS x) || (hasT x.f0 && decide ((l.length : Int) ≤ x.f3))) := rfl
    have step : ∀ b : Bool, spec_CodeOk.j1 (k + 1) l i b = if b = true then some false else some (decide (1 ≤ l.length ∧ l.length ≤ 16) && !((l.drop (i + 1)).any (wrongB l.length))) := fun b => by
      simp only [spec_CodeOk.j1]
      rw [w64 (by omega) (by omega), show ((i : Int) + 1) = ((i + 1 : Nat) : Int) from by omega, ih k (i + 1) (by omega) (by omega) (by omega)]
    have ho : opV.f x.f0 x.f1 x.f2 x.f3 x.f4.f0 x.f4.f1 = some (opS x) := rfl
    rw [ho, goes_eq]
    simp only [Option.bind_some, step, List.any_cons, hw]
    cases opS x <;> cases hasT x.f0 <;> by_cases ht : (l.length : Int) ≤ x.f3 <;> simp [ht]
theorem scode_eq (l : List S29) (hm : l.length ≤ 9223372036854775807) : spec_CodeOk.f (2 * l.length + 1) l = some (codeB l) := by
  unfold spec_CodeOk.f
  exact scode_loop l hm l.length _ 0 (by omega) (by omega) (by omega)
def toS (x : S25) : S29 := ⟨x.f0, x.f1, x.f2, x.f3, ⟨x.f4.f0, x.f4.f1⟩⟩
def toOpsV.f (l : List S25) : Option (List S29) := if l.length ≤ 5864062014805 then some (l.map toS) else none
theorem toOps_loop (l : List S25) (hm : l.length ≤ 9223372036854775807) (d : Nat) : ∀ (k i : Nat) (x : List S29), x.length = l.length → l.length - i = d → i ≤ l.length → d < k →
    laws_toOpS.l0 k l x i = some (x.take i ++ (l.drop i).map toS) := by
  induction d with
  | zero =>
    intro k i x hx hd hi hk
    obtain ⟨k, rfl⟩ : ∃ m, k = m + 1 := ⟨k - 1, by omega⟩
    simp only [laws_toOpS.l0]
    rw [if_neg (by omega), List.take_of_length_le (by omega), List.drop_of_length_le (by omega)]; simp
  | succ d ih =>
    intro k i x hx hd hi hk
    obtain ⟨k, rfl⟩ : ∃ m, k = m + 1 := ⟨k - 1, by omega⟩
    simp only [laws_toOpS.l0]
    have d0 : l.drop i = l[i]'(by omega) :: l.drop (i + 1) := List.drop_eq_getElem_cons (by omega)
    rw [if_pos (by omega), if_pos (by omega), rd25_at l i (by omega), d0]
    unfold laws_toOp.f laws_toVal.f
    simp only [Option.bind_some]
    rw [if_pos (by omega), w64 (by omega) (by omega), show ((i : Int) + 1) = ((i + 1 : Nat) : Int) from by omega, Int.toNat_natCast, ih k (i + 1) _ (by simpa using hx) (by omega) (by omega) (by omega)]
    congr 1
    rw [List.take_succ_eq_append_getElem (by simp; omega), List.take_set_of_le (by omega), List.getElem_set_self, List.append_assoc]
    rfl
theorem toOps_eq (l : List S25) (hm : l.length ≤ 9223372036854775807) : laws_toOpS.f (l.length + 1) l = toOpsV.f l := by
  unfold laws_toOpS.f toOpsV.f
  rw [if_pos (by omega)]
  simp only [Int.toNat_natCast]
  by_cases h : l.length ≤ 5864062014805
  · rw [if_pos h, if_pos h]
    have := toOps_loop l hm l.length (l.length + 1) 0 (List.replicate l.length z29) (by simp) (by omega) (by omega) (by omega)
    simpa using this
  · rw [if_neg h, if_neg h]
theorem laws_toOpS_as.calls (A0 : Option Addr) (c0 : Nat) (l0 : List (S25)) (r : List (S29)) (w : World) (hr0 : Kd.C k25 w A0 l0.length l0) (hc0 : l0.length ≤ c0) (h : toOpsV.f l0 = some r) :
    Calls Try.prog 34 #[.slice A0 l0.length c0] w fun e w' => ∃ v0_ : Value, e = .returned (v0_) ∧ Kd.R k29 29 w' w.heap.size (fun _ => True) v0_ r ∧ Below w.heap.size w w' :=
  laws_toOpS.calls (l0.length + 1) A0 c0 l0 r w hr0 hc0 ((toOps_eq l0 (Kd.C_max hr0)).trans h)
def eqOpsV.f (l0 l1 : List S29) : Option Bool := some (decide (l0 = l1))
theorem eqOps_same (l : List S29) : eqOpsV.f l l = some true := by unfold eqOpsV.f; simp
theorem eqOp_eq (a b : S29) : laws_eqOp.f a.f0 a.f1 a.f2 a.f3 a.f4.f0 a.f4.f1 b.f0 b.f1 b.f2 b.f3 b.f4.f0 b.f4.f1 = some (decide (a = b)) := by
  obtain ⟨a0, a1, a2, a3, a4, a5⟩ := a
  obtain ⟨b0, b1, b2, b3, b4, b5⟩ := b
  unfold laws_eqOp.f laws_eqVal.f
  simp only []
  by_cases h0 : a0 = b0 <;> by_cases h1 : a1 = b1 <;> by_cases h2 : a2 = b2 <;> by_cases h3 : a3 = b3 <;> by_cases h4 : a4 = b4 <;> by_cases h5 : a5 = b5 <;> simp [h0, h1, h2, h3, h4, h5]
theorem eqOps_loop (l0 l1 : List S29) (hl : l0.length = l1.length) (hm : l0.length ≤ 9223372036854775807) (d : Nat) : ∀ (k i : Nat), l0.length - i = d → i ≤ l0.length → d < k →
    laws_eqOpS.l0 k l0 l1 i = some (decide (l0.drop i = l1.drop i)) := by
  induction d with
  | zero =>
    intro k i hd hi hk
    obtain ⟨k, rfl⟩ : ∃ m, k = m + 1 := ⟨k - 1, by omega⟩
    simp only [laws_eqOpS.l0]
    rw [if_neg (by omega), List.drop_of_length_le (by omega), List.drop_of_length_le (by omega)]; simp
  | succ d ih =>
    intro k i hd hi hk
    obtain ⟨k, rfl⟩ : ∃ m, k = m + 1 := ⟨k - 1, by omega⟩
    simp only [laws_eqOpS.l0]
    have d0 : l0.drop i = l0[i]'(by omega) :: l0.drop (i + 1) := List.drop_eq_getElem_cons (by omega)
    have d1 : l1.drop i = l1[i]'(by omega) :: l1.drop (i + 1) := List.drop_eq_getElem_cons (by omega)
    rw [if_pos (by omega), if_pos (by omega), if_pos (by omega), rd29_at l0 i (by omega), rd29_at l1 i (by omega), d0, d1, eqOp_eq]
    simp only [Option.bind_some]
    by_cases he : l0[i]'(by omega) = l1[i]'(by omega)
    · rw [if_pos (by simpa using he), w64 (by omega) (by omega), show ((i : Int) + 1) = ((i + 1 : Nat) : Int) from by omega, ih k (i + 1) (by omega) (by omega) (by omega), he]
      exact congrArg some (decide_eq_decide.2 ⟨fun h => by rw [h], fun h => (List.cons.inj h).2⟩)
    · rw [if_neg (by simpa using he)]
      exact congrArg some (decide_eq_false (fun h => he (List.cons.inj h).1)).symm
theorem eqOps_eq (l0 l1 : List S29) (hm : l0.length ≤ 9223372036854775807) : laws_eqOpS.f (l0.length + 1) l0 l1 = some (decide (l0 = l1)) := by
  unfold laws_eqOpS.f
  by_cases hl : l0.length = l1.length
  · rw [if_pos (by omega)]
    have := eqOps_loop l0 l1 hl hm l0.length (l0.length + 1) 0 (by omega) (by omega) (by omega)
    simpa using this
  · rw [if_neg (by omega)]
    have : l0 ≠ l1 := fun e => hl (by rw [e])
    simp [this]
theorem laws_eqOpS_as.calls (A0 : Option Addr) (c0 : Nat) (l0 : List (S29)) (A1 : Option Addr) (c1 : Nat) (l1 : List (S29)) (r : Bool) (w : World) (hr0 : Kd.C k29 w A0 l0.length l0) (hc0 : l0.length ≤ c0) (hr1 : Kd.C k29 w A1 l1.length l1) (hc1 : l1.length ≤ c1) (h : eqOpsV.f l0 l1 = some r) :
    Calls Try.prog 36 #[.slice A0 l0.length c0, .slice A1 l1.length c1] w fun e w' => e = .returned (.bool r) ∧ Below w.heap.size w w' :=
  laws_eqOpS.calls (l0.length + 1) A0 c0 l0 A1 c1 l1 r w hr0 hc0 hr1 hc1 ((eqOps_eq l0 l1 (Kd.C_max hr0)).trans h)
end Go.Proofs.Ytmklpbmlgjkbiaa.PS
end
section
namespace Go.Proofs.Ytmklpbmlgjkbiaa.PS
open Go.RowKit Go.Proofs.YtmklpbmlgjkbiaaW.PrintWords Go.Proofs.YtmklpbmlgjkbiaaW.PrintLast
set_option linter.unusedVariables false
set_option linter.unusedSimpArgs false
set_option maxRecDepth 100000
inductive Fl where
  | same | fill | one
def Fl.val (B : Nat) : Fl → Value
  | .same => .func (.func 94) #[] #[]
  | .fill => .func (.func 95) #[] #[.pointer (some ⟨B, 0, none⟩)]
  | .one => .func (.func 96) #[] #[]
def arrowsL (n : Nat) (i k t : Int) : List (Int × Fl) :=
  (if k = 9 ∨ k = 14 then [] else if i + 1 < n then [(i + 1, if (howR k).f3 = true then .fill else .same)] else []) ++
  (if k = 5 then [(t, .one)] else if hasT k = true then [(t, .same)] else [])
def arrowCells (B : Nat) (l : List (Int × Fl)) : List Value := l.flatMap fun a => [.int .i64 a.1, a.2.val B]
theorem info77 : (Try.prog.info? 77).map (fun i => (i.zero, i.size, i.bytes)) = some (some (.agg #[.int .i64 0, .nilFunc]), 2, 16) := by kernel_rfl
theorem cell_two_new (w : World) (x y : Value) (t : TypeId) : ∀ j u, [x, y][j]? = some u → (w.alloc (.cells #[x, y] t)).cell? ((⟨w.heap.size, 0, none⟩ : Addr).add j) = some u := by
  intro j u h
  have h1 := blk_new w (.cells #[x, y] t)
  match j, h with
  | 0, h => exact (blk_cell h1 0).trans (by simpa using h)
  | 1, h => exact (blk_cell h1 1).trans (by simpa using h)
theorem cell_two_at (w : World) (b : Nat) (x y : Value) (t : TypeId) (hb : b = w.heap.size) : ∀ j u, [x, y][j]? = some u → (w.alloc (.cells #[x, y] t)).cell? ((⟨b, 0, none⟩ : Addr).add j) = some u := by
  subst hb; exact cell_two_new w x y t
theorem own_below {w W : World} {base : Nat} {e : TypeId} {size n : Nat} {v : Value} {xs : List Value} (h : w.ownsRow base e size v n xs) (hb : Below w.heap.size w W) : W.ownsRow base e size v n xs :=
  own_move h fun k hk => by obtain ⟨c, hc⟩ := own_typed h k hk; exact hb.block k (blk_lt hc)
theorem arr_step {w W w1 : World} {C o : Obj} {v : Value} {n : Nat} {xs : List Value} (BK : W.heap[w.heap.size]? = some C) (HB : Below w.heap.size w W) (hown : W.ownsRow (w.heap.size + 1) 77 2 v n xs)
    (hgrow : (W.alloc o).grownBy w1 v.ownBlock) : w1.heap[w.heap.size]? = some C ∧ Below w.heap.size w w1 :=
  ⟨blk_grown (blk_alloc BK _) hgrow (fun e => by have := own_base hown w.heap.size e.symm; omega),
   (below_alloc HB _).grown hgrow (below_alloc HB _).size (fun b hb => by have := own_base hown b hb; omega)⟩
set_option maxHeartbeats 8000000 in
theorem arrows_walk (A0 : Option Addr) (c0 n : Nat) (ad : Addr) (i : Nat) (hi : i < n) (hn : n ≤ 16) (hA : A0 = some ad) (k r s t vk vn : Int) (w : World) (bf bt : Bool) (x : S66) (hx : Aside0 (x = howR k)) (hbt : Aside0 (bt = hasT k))
    (x0 : w.cell? (ad.add (i * 6)) = some (.int .i64 k)) (x1 : w.cell? ⟨(ad.add (i * 6)).block, (ad.add (i * 6)).off + 1, none⟩ = some (.int .i64 r)) (x2 : w.cell? ⟨(ad.add (i * 6)).block, (ad.add (i * 6)).off + 2, none⟩ = some (.int .i64 s))
    (x3 : w.cell? ⟨(ad.add (i * 6)).block, (ad.add (i * 6)).off + 3, none⟩ = some (.int .i64 t)) (x4 : w.cell? ⟨(ad.add (i * 6)).block, (ad.add (i * 6)).off + 4, none⟩ = some (.int .i64 vk)) (x5 : w.cell? ⟨(ad.add (i * 6)).block, (ad.add (i * 6)).off + 5, none⟩ = some (.int .i64 vn))
    (hN : (k = 9 ∧ bt = true) ∨ (k = 14 ∧ bt = false) ∨ ((k == 9) = false ∧ (k == 14) = false)) (hf : x.f3 = bf) (L : List (Int × Fl)) (hL : Aside0 (L = arrowsL n i k t)) :
    Calls Try.prog 77 #[.slice A0 n c0, .int .i64 i] w fun e w' => ∃ v, e = .returned v ∧ w'.ownsRow (w.heap.size + 1) 77 2 v L.length (arrowCells w.heap.size L) ∧ w'.heap[w.heap.size]? = some (.cells #[.int .i64 k, .int .i64 r, .int .i64 s, .int .i64 t, .int .i64 vk, .int .i64 vn] 29 (0, 0)) ∧ Below w.heap.size w w' := by
  subst hA
  have hi0 : (0 : Int) ≤ (i : Int) := by omega
  have hi1 : (i : Int) < (n : Int) := by omega
  have hHow := fun W : World => impl_Op_how.calls k r s t vk vn x.f0 x.f1 x.f2 bf W (by rw [← hf, hx.out]; rfl)
  have hHas := fun W : World => has_any k r s t vk vn 84 W
  rw [hasC_T, ← hbt.out] at hHas
  have hfd : ∀ (a b c d : Value) (W : World), Sem.run Try.prog (Instr.field 66 (.agg #[a, b, c, d]) 3) W = .ok d W := fun _ _ _ _ _ => by kernel_rfl
  obtain ⟨i0, hi_, hz0, hz1, hz2⟩ := info_parts info77
  have BK : Aside0 ((w.alloc (.cells #[.int .i64 k, .int .i64 r, .int .i64 s, .int .i64 t, .int .i64 vk, .int .i64 vn] 29)).heap[w.heap.size]? = some (.cells #[.int .i64 k, .int .i64 r, .int .i64 s, .int .i64 t, .int .i64 vk, .int .i64 vn] 29 (0, 0))) := ⟨blk_new _ _⟩
  have HB := Aside0.mk (below_alloc (Below.refl w.heap.size w) (.cells #[.int .i64 k, .int .i64 r, .int .i64 s, .int .i64 t, .int .i64 vk, .int .i64 vn] 29))
  rcases hN with ⟨rfl, rfl⟩ | ⟨rfl, rfl⟩ | ⟨h9, h14⟩
  · have eL : L = [(t, .same)] := by rw [hL.out]; unfold arrowsL; rw [if_pos (.inl rfl), if_neg (by decide), if_pos hbt.out.symm]; rfl
    subst eL
    go_enter Try.func77, Try.ntmps77
    go_wp2_with (first | (go_at_call 64; refine (hHas _).mono ?_; rintro e w'2 ⟨rfl, hb⟩; have BK1 := Aside0.mk (blk_below BK.out hb); have HB1 := Aside0.mk (below_step HB.out hb); clear BK HB hb; have BK := BK1; have HB := HB1; clear BK1 HB1; obtain ⟨q0, q1, q2, q3, q4, q5⟩ : w'2.cell? ⟨w.heap.size, 0, none⟩ = some (.int .i64 9) ∧ w'2.cell? ⟨w.heap.size, 1, none⟩ = some (.int .i64 r) ∧ w'2.cell? ⟨w.heap.size, 2, none⟩ = some (.int .i64 s) ∧ w'2.cell? ⟨w.heap.size, 3, none⟩ = some (.int .i64 t) ∧ w'2.cell? ⟨w.heap.size, 4, none⟩ = some (.int .i64 vk) ∧ w'2.cell? ⟨w.heap.size, 5, none⟩ = some (.int .i64 vn) := ⟨(blk_cell BK.out 0).trans rfl, (blk_cell BK.out 1).trans rfl, (blk_cell BK.out 2).trans rfl, (blk_cell BK.out 3).trans rfl, (blk_cell BK.out 4).trans rfl, (blk_cell BK.out 5).trans rfl⟩) | (at_builtin; refine wpList_append_own _ rfl _ _ 74 rfl (w.heap.size + 1) 77 i0 (.agg #[.int .i64 0, .nilFunc]) 2 16 Try.underlying74 hi_ hz0 hz1 hz2 rfl (by decide) _ _ _ rfl (World.ownsRow_nil _ _ _ _) ⟨_, 0, none⟩ 1 1 [.int .i64 t, .func (.func 94) #[] #[]] rfl rfl (cell_two_at _ _ _ _ _ (by simp)) (by simp [Value.oneCell']) (by unfold maxLen; omega) (by omega) ?hb ?_; (case hb => have := blk_lt BK.out; first | (simp; omega) | simp); intro v' w1 hown' hgrow _; obtain ⟨BK1, HB1⟩ := arr_step BK.out HB.out (World.ownsRow_nil _ _ _ _) hgrow; have HO := Aside0.mk hown'; clear BK HB hown' hgrow; have BK := Aside0.mk BK1; have HB := Aside0.mk HB1; clear BK1 HB1; obtain ⟨q0, q1, q2, q3, q4, q5⟩ : w1.cell? ⟨w.heap.size, 0, none⟩ = some (.int .i64 9) ∧ w1.cell? ⟨w.heap.size, 1, none⟩ = some (.int .i64 r) ∧ w1.cell? ⟨w.heap.size, 2, none⟩ = some (.int .i64 s) ∧ w1.cell? ⟨w.heap.size, 3, none⟩ = some (.int .i64 t) ∧ w1.cell? ⟨w.heap.size, 4, none⟩ = some (.int .i64 vk) ∧ w1.cell? ⟨w.heap.size, 5, none⟩ = some (.int .i64 vn) := ⟨(blk_cell BK.out 0).trans rfl, (blk_cell BK.out 1).trans rfl, (blk_cell BK.out 2).trans rfl, (blk_cell BK.out 3).trans rfl, (blk_cell BK.out 4).trans rfl, (blk_cell BK.out 5).trans rfl⟩))
    all_goals go_ret
    all_goals exact ⟨_, rfl, HO.out, BK.out, HB.out⟩
  · have eL : L = [] := by rw [hL.out]; unfold arrowsL; rw [if_pos (.inr rfl), if_neg (by decide), if_neg (by rw [← hbt.out]; decide)]; rfl
    subst eL
    go_enter Try.func77, Try.ntmps77
    go_wp2_with (first | (go_at_call 64; refine (hHas _).mono ?_; rintro e w'2 ⟨rfl, hb⟩; have BK1 := Aside0.mk (blk_below BK.out hb); have HB1 := Aside0.mk (below_step HB.out hb); clear BK HB hb; have BK := BK1; have HB := HB1; clear BK1 HB1; obtain ⟨q0, q1, q2, q3, q4, q5⟩ : w'2.cell? ⟨w.heap.size, 0, none⟩ = some (.int .i64 14) ∧ w'2.cell? ⟨w.heap.size, 1, none⟩ = some (.int .i64 r) ∧ w'2.cell? ⟨w.heap.size, 2, none⟩ = some (.int .i64 s) ∧ w'2.cell? ⟨w.heap.size, 3, none⟩ = some (.int .i64 t) ∧ w'2.cell? ⟨w.heap.size, 4, none⟩ = some (.int .i64 vk) ∧ w'2.cell? ⟨w.heap.size, 5, none⟩ = some (.int .i64 vn) := ⟨(blk_cell BK.out 0).trans rfl, (blk_cell BK.out 1).trans rfl, (blk_cell BK.out 2).trans rfl, (blk_cell BK.out 3).trans rfl, (blk_cell BK.out 4).trans rfl, (blk_cell BK.out 5).trans rfl⟩))
    all_goals go_ret
    all_goals exact ⟨_, rfl, World.ownsRow_nil _ _ _ _, BK.out, HB.out⟩
  · have n9 : ¬ (k = 9 ∨ k = 14) := by simp at h9 h14; omega
    have m9 : (k != 9) = true := by simp [bne, h9]
    have m14 : (k != 14) = true := by simp [bne, h14]
    by_cases nx : (i : Int) + 1 < n
    · have dx : decide ((i : Int) + 1 < (n : Int)) = true := decide_eq_true nx
      cases bf
      · by_cases h5 : k = 5
        · subst h5
          have eL : L = [((i : Int) + 1, .same)] ++ [(t, .one)] := by rw [hL.out]; unfold arrowsL; rw [if_neg n9, if_pos nx, if_neg (by rw [← hx.out, hf]; decide), if_pos rfl] <;> rfl
          subst eL
          go_enter Try.func77, Try.ntmps77
          go_wp2_with (first | (go_at_call 67; refine (hHow _).mono ?_; rintro e w'4 ⟨rfl, hb⟩; have BK1 := Aside0.mk (blk_below BK.out hb); have HB1 := Aside0.mk (below_step HB.out hb); clear BK HB hb; have BK := BK1; have HB := HB1; clear BK1 HB1; obtain ⟨q0, q1, q2, q3, q4, q5⟩ : w'4.cell? ⟨w.heap.size, 0, none⟩ = some (.int .i64 5) ∧ w'4.cell? ⟨w.heap.size, 1, none⟩ = some (.int .i64 r) ∧ w'4.cell? ⟨w.heap.size, 2, none⟩ = some (.int .i64 s) ∧ w'4.cell? ⟨w.heap.size, 3, none⟩ = some (.int .i64 t) ∧ w'4.cell? ⟨w.heap.size, 4, none⟩ = some (.int .i64 vk) ∧ w'4.cell? ⟨w.heap.size, 5, none⟩ = some (.int .i64 vn) := ⟨(blk_cell BK.out 0).trans rfl, (blk_cell BK.out 1).trans rfl, (blk_cell BK.out 2).trans rfl, (blk_cell BK.out 3).trans rfl, (blk_cell BK.out 4).trans rfl, (blk_cell BK.out 5).trans rfl⟩) | (at_builtin; refine wpList_append_own _ rfl _ _ 74 rfl (w.heap.size + 1) 77 i0 (.agg #[.int .i64 0, .nilFunc]) 2 16 Try.underlying74 hi_ hz0 hz1 hz2 rfl (by decide) _ _ _ rfl (World.ownsRow_nil _ _ _ _) ⟨_, 0, none⟩ 1 1 [.int .i64 ((i : Int) + 1), .func (.func 94) #[] #[]] rfl rfl (cell_two_at _ _ _ _ _ (by simp)) (by simp [Value.oneCell']) (by unfold maxLen; omega) (by omega) ?hb ?_; (case hb => have := blk_lt BK.out; first | (simp; omega) | simp); intro v'w1 w1 hown' hgrow _; obtain ⟨BK1, HB1⟩ := arr_step BK.out HB.out (World.ownsRow_nil _ _ _ _) hgrow; have HO := Aside0.mk hown'; clear BK HB hown' hgrow; have BK := Aside0.mk BK1; have HB := Aside0.mk HB1; clear BK1 HB1; obtain ⟨q0, q1, q2, q3, q4, q5⟩ : w1.cell? ⟨w.heap.size, 0, none⟩ = some (.int .i64 5) ∧ w1.cell? ⟨w.heap.size, 1, none⟩ = some (.int .i64 r) ∧ w1.cell? ⟨w.heap.size, 2, none⟩ = some (.int .i64 s) ∧ w1.cell? ⟨w.heap.size, 3, none⟩ = some (.int .i64 t) ∧ w1.cell? ⟨w.heap.size, 4, none⟩ = some (.int .i64 vk) ∧ w1.cell? ⟨w.heap.size, 5, none⟩ = some (.int .i64 vn) := ⟨(blk_cell BK.out 0).trans rfl, (blk_cell BK.out 1).trans rfl, (blk_cell BK.out 2).trans rfl, (blk_cell BK.out 3).trans rfl, (blk_cell BK.out 4).trans rfl, (blk_cell BK.out 5).trans rfl⟩) | (at_builtin; refine wpList_append_own _ rfl _ _ 74 rfl (w.heap.size + 1) 77 i0 (.agg #[.int .i64 0, .nilFunc]) 2 16 Try.underlying74 hi_ hz0 hz1 hz2 rfl (by decide) _ _ _ rfl (HO.out.alloc _) ⟨_, 0, none⟩ 1 1 [.int .i64 t, .func (.func 96) #[] #[]] rfl rfl (cell_two_at _ _ _ _ _ (by simp)) (by simp [Value.oneCell']) (by unfold maxLen; omega) (by omega) ?hb ?_; (case hb => have := blk_lt BK.out; first | (simp; omega) | simp); intro v'w2 w2 hown' hgrow _; obtain ⟨BK1, HB1⟩ := arr_step BK.out HB.out HO.out hgrow; clear HO; have HO := Aside0.mk hown'; clear BK HB hown' hgrow; have BK := Aside0.mk BK1; have HB := Aside0.mk HB1; clear BK1 HB1; obtain ⟨q0, q1, q2, q3, q4, q5⟩ : w2.cell? ⟨w.heap.size, 0, none⟩ = some (.int .i64 5) ∧ w2.cell? ⟨w.heap.size, 1, none⟩ = some (.int .i64 r) ∧ w2.cell? ⟨w.heap.size, 2, none⟩ = some (.int .i64 s) ∧ w2.cell? ⟨w.heap.size, 3, none⟩ = some (.int .i64 t) ∧ w2.cell? ⟨w.heap.size, 4, none⟩ = some (.int .i64 vk) ∧ w2.cell? ⟨w.heap.size, 5, none⟩ = some (.int .i64 vn) := ⟨(blk_cell BK.out 0).trans rfl, (blk_cell BK.out 1).trans rfl, (blk_cell BK.out 2).trans rfl, (blk_cell BK.out 3).trans rfl, (blk_cell BK.out 4).trans rfl, (blk_cell BK.out 5).trans rfl⟩))
          all_goals go_ret
          all_goals exact ⟨_, rfl, HO.out, BK.out, HB.out⟩
        · have b5 : (k == 5) = false := by simpa using h5
          cases bt
          · have eL : L = [((i : Int) + 1, .same)] ++ [] := by rw [hL.out]; unfold arrowsL; rw [if_neg n9, if_pos nx, if_neg (by rw [← hx.out, hf]; decide), if_neg h5, if_neg (by rw [← hbt.out]; decide)] <;> rfl
            subst eL
            go_enter Try.func77, Try.ntmps77
            go_wp2_with (first | (go_at_call 67; refine (hHow _).mono ?_; rintro e w'4 ⟨rfl, hb⟩; have BK1 := Aside0.mk (blk_below BK.out hb); have HB1 := Aside0.mk (below_step HB.out hb); clear BK HB hb; have BK := BK1; have HB := HB1; clear BK1 HB1; obtain ⟨q0, q1, q2, q3, q4, q5⟩ : w'4.cell? ⟨w.heap.size, 0, none⟩ = some (.int .i64 k) ∧ w'4.cell? ⟨w.heap.size, 1, none⟩ = some (.int .i64 r) ∧ w'4.cell? ⟨w.heap.size, 2, none⟩ = some (.int .i64 s) ∧ w'4.cell? ⟨w.heap.size, 3, none⟩ = some (.int .i64 t) ∧ w'4.cell? ⟨w.heap.size, 4, none⟩ = some (.int .i64 vk) ∧ w'4.cell? ⟨w.heap.size, 5, none⟩ = some (.int .i64 vn) := ⟨(blk_cell BK.out 0).trans rfl, (blk_cell BK.out 1).trans rfl, (blk_cell BK.out 2).trans rfl, (blk_cell BK.out 3).trans rfl, (blk_cell BK.out 4).trans rfl, (blk_cell BK.out 5).trans rfl⟩) | (at_builtin; refine wpList_append_own _ rfl _ _ 74 rfl (w.heap.size + 1) 77 i0 (.agg #[.int .i64 0, .nilFunc]) 2 16 Try.underlying74 hi_ hz0 hz1 hz2 rfl (by decide) _ _ _ rfl (World.ownsRow_nil _ _ _ _) ⟨_, 0, none⟩ 1 1 [.int .i64 ((i : Int) + 1), .func (.func 94) #[] #[]] rfl rfl (cell_two_at _ _ _ _ _ (by simp)) (by simp [Value.oneCell']) (by unfold maxLen; omega) (by omega) ?hb ?_; (case hb => have := blk_lt BK.out; first | (simp; omega) | simp); intro v'w1 w1 hown' hgrow _; obtain ⟨BK1, HB1⟩ := arr_step BK.out HB.out (World.ownsRow_nil _ _ _ _) hgrow; have HO := Aside0.mk hown'; clear BK HB hown' hgrow; have BK := Aside0.mk BK1; have HB := Aside0.mk HB1; clear BK1 HB1; obtain ⟨q0, q1, q2, q3, q4, q5⟩ : w1.cell? ⟨w.heap.size, 0, none⟩ = some (.int .i64 k) ∧ w1.cell? ⟨w.heap.size, 1, none⟩ = some (.int .i64 r) ∧ w1.cell? ⟨w.heap.size, 2, none⟩ = some (.int .i64 s) ∧ w1.cell? ⟨w.heap.size, 3, none⟩ = some (.int .i64 t) ∧ w1.cell? ⟨w.heap.size, 4, none⟩ = some (.int .i64 vk) ∧ w1.cell? ⟨w.heap.size, 5, none⟩ = some (.int .i64 vn) := ⟨(blk_cell BK.out 0).trans rfl, (blk_cell BK.out 1).trans rfl, (blk_cell BK.out 2).trans rfl, (blk_cell BK.out 3).trans rfl, (blk_cell BK.out 4).trans rfl, (blk_cell BK.out 5).trans rfl⟩) | (go_at_call 64; refine (hHas _).mono ?_; rintro e w'2 ⟨rfl, hb⟩; have BK1 := Aside0.mk (blk_below BK.out hb); have HB1 := Aside0.mk (below_step HB.out hb); have HO1 := Aside0.mk (own_below HO.out hb); clear HO; have HO := HO1; clear HO1; clear BK HB hb; have BK := BK1; have HB := HB1; clear BK1 HB1; obtain ⟨q0, q1, q2, q3, q4, q5⟩ : w'2.cell? ⟨w.heap.size, 0, none⟩ = some (.int .i64 k) ∧ w'2.cell? ⟨w.heap.size, 1, none⟩ = some (.int .i64 r) ∧ w'2.cell? ⟨w.heap.size, 2, none⟩ = some (.int .i64 s) ∧ w'2.cell? ⟨w.heap.size, 3, none⟩ = some (.int .i64 t) ∧ w'2.cell? ⟨w.heap.size, 4, none⟩ = some (.int .i64 vk) ∧ w'2.cell? ⟨w.heap.size, 5, none⟩ = some (.int .i64 vn) := ⟨(blk_cell BK.out 0).trans rfl, (blk_cell BK.out 1).trans rfl, (blk_cell BK.out 2).trans rfl, (blk_cell BK.out 3).trans rfl, (blk_cell BK.out 4).trans rfl, (blk_cell BK.out 5).trans rfl⟩))
            all_goals go_ret
            all_goals exact ⟨_, rfl, HO.out, BK.out, HB.out⟩
          · have eL : L = [((i : Int) + 1, .same)] ++ [(t, .same)] := by rw [hL.out]; unfold arrowsL; rw [if_neg n9, if_pos nx, if_neg (by rw [← hx.out, hf]; decide), if_neg h5, if_pos hbt.out.symm] <;> rfl
            subst eL
            go_enter Try.func77, Try.ntmps77
            go_wp2_with (first | (go_at_call 67; refine (hHow _).mono ?_; rintro e w'4 ⟨rfl, hb⟩; have BK1 := Aside0.mk (blk_below BK.out hb); have HB1 := Aside0.mk (below_step HB.out hb); clear BK HB hb; have BK := BK1; have HB := HB1; clear BK1 HB1; obtain ⟨q0, q1, q2, q3, q4, q5⟩ : w'4.cell? ⟨w.heap.size, 0, none⟩ = some (.int .i64 k) ∧ w'4.cell? ⟨w.heap.size, 1, none⟩ = some (.int .i64 r) ∧ w'4.cell? ⟨w.heap.size, 2, none⟩ = some (.int .i64 s) ∧ w'4.cell? ⟨w.heap.size, 3, none⟩ = some (.int .i64 t) ∧ w'4.cell? ⟨w.heap.size, 4, none⟩ = some (.int .i64 vk) ∧ w'4.cell? ⟨w.heap.size, 5, none⟩ = some (.int .i64 vn) := ⟨(blk_cell BK.out 0).trans rfl, (blk_cell BK.out 1).trans rfl, (blk_cell BK.out 2).trans rfl, (blk_cell BK.out 3).trans rfl, (blk_cell BK.out 4).trans rfl, (blk_cell BK.out 5).trans rfl⟩) | (at_builtin; refine wpList_append_own _ rfl _ _ 74 rfl (w.heap.size + 1) 77 i0 (.agg #[.int .i64 0, .nilFunc]) 2 16 Try.underlying74 hi_ hz0 hz1 hz2 rfl (by decide) _ _ _ rfl (World.ownsRow_nil _ _ _ _) ⟨_, 0, none⟩ 1 1 [.int .i64 ((i : Int) + 1), .func (.func 94) #[] #[]] rfl rfl (cell_two_at _ _ _ _ _ (by simp)) (by simp [Value.oneCell']) (by unfold maxLen; omega) (by omega) ?hb ?_; (case hb => have := blk_lt BK.out; first | (simp; omega) | simp); intro v'w1 w1 hown' hgrow _; obtain ⟨BK1, HB1⟩ := arr_step BK.out HB.out (World.ownsRow_nil _ _ _ _) hgrow; have HO := Aside0.mk hown'; clear BK HB hown' hgrow; have BK := Aside0.mk BK1; have HB := Aside0.mk HB1; clear BK1 HB1; obtain ⟨q0, q1, q2, q3, q4, q5⟩ : w1.cell? ⟨w.heap.size, 0, none⟩ = some (.int .i64 k) ∧ w1.cell? ⟨w.heap.size, 1, none⟩ = some (.int .i64 r) ∧ w1.cell? ⟨w.heap.size, 2, none⟩ = some (.int .i64 s) ∧ w1.cell? ⟨w.heap.size, 3, none⟩ = some (.int .i64 t) ∧ w1.cell? ⟨w.heap.size, 4, none⟩ = some (.int .i64 vk) ∧ w1.cell? ⟨w.heap.size, 5, none⟩ = some (.int .i64 vn) := ⟨(blk_cell BK.out 0).trans rfl, (blk_cell BK.out 1).trans rfl, (blk_cell BK.out 2).trans rfl, (blk_cell BK.out 3).trans rfl, (blk_cell BK.out 4).trans rfl, (blk_cell BK.out 5).trans rfl⟩) | (go_at_call 64; refine (hHas _).mono ?_; rintro e w'2 ⟨rfl, hb⟩; have BK1 := Aside0.mk (blk_below BK.out hb); have HB1 := Aside0.mk (below_step HB.out hb); have HO1 := Aside0.mk (own_below HO.out hb); clear HO; have HO := HO1; clear HO1; clear BK HB hb; have BK := BK1; have HB := HB1; clear BK1 HB1; obtain ⟨q0, q1, q2, q3, q4, q5⟩ : w'2.cell? ⟨w.heap.size, 0, none⟩ = some (.int .i64 k) ∧ w'2.cell? ⟨w.heap.size, 1, none⟩ = some (.int .i64 r) ∧ w'2.cell? ⟨w.heap.size, 2, none⟩ = some (.int .i64 s) ∧ w'2.cell? ⟨w.heap.size, 3, none⟩ = some (.int .i64 t) ∧ w'2.cell? ⟨w.heap.size, 4, none⟩ = some (.int .i64 vk) ∧ w'2.cell? ⟨w.heap.size, 5, none⟩ = some (.int .i64 vn) := ⟨(blk_cell BK.out 0).trans rfl, (blk_cell BK.out 1).trans rfl, (blk_cell BK.out 2).trans rfl, (blk_cell BK.out 3).trans rfl, (blk_cell BK.out 4).trans rfl, (blk_cell BK.out 5).trans rfl⟩) | (at_builtin; refine wpList_append_own _ rfl _ _ 74 rfl (w.heap.size + 1) 77 i0 (.agg #[.int .i64 0, .nilFunc]) 2 16 Try.underlying74 hi_ hz0 hz1 hz2 rfl (by decide) _ _ _ rfl (HO.out.alloc _) ⟨_, 0, none⟩ 1 1 [.int .i64 t, .func (.func 94) #[] #[]] rfl rfl (cell_two_at _ _ _ _ _ (by simp)) (by simp [Value.oneCell']) (by unfold maxLen; omega) (by omega) ?hb ?_; (case hb => have := blk_lt BK.out; first | (simp; omega) | simp); intro v'w2 w2 hown' hgrow _; obtain ⟨BK1, HB1⟩ := arr_step BK.out HB.out HO.out hgrow; clear HO; have HO := Aside0.mk hown'; clear BK HB hown' hgrow; have BK := Aside0.mk BK1; have HB := Aside0.mk HB1; clear BK1 HB1; obtain ⟨q0, q1, q2, q3, q4, q5⟩ : w2.cell? ⟨w.heap.size, 0, none⟩ = some (.int .i64 k) ∧ w2.cell? ⟨w.heap.size, 1, none⟩ = some (.int .i64 r) ∧ w2.cell? ⟨w.heap.size, 2, none⟩ = some (.int .i64 s) ∧ w2.cell? ⟨w.heap.size, 3, none⟩ = some (.int .i64 t) ∧ w2.cell? ⟨w.heap.size, 4, none⟩ = some (.int .i64 vk) ∧ w2.cell? ⟨w.heap.size, 5, none⟩ = some (.int .i64 vn) := ⟨(blk_cell BK.out 0).trans rfl, (blk_cell BK.out 1).trans rfl, (blk_cell BK.out 2).trans rfl, (blk_cell BK.out 3).trans rfl, (blk_cell BK.out 4).trans rfl, (blk_cell BK.out 5).trans rfl⟩))
            all_goals go_ret
            all_goals exact ⟨_, rfl, HO.out, BK.out, HB.out⟩
      · by_cases h5 : k = 5
        · subst h5
          have eL : L = [((i : Int) + 1, .fill)] ++ [(t, .one)] := by rw [hL.out]; unfold arrowsL; rw [if_neg n9, if_pos nx, if_pos (by rw [← hx.out, hf]), if_pos rfl] <;> rfl
          subst eL
          go_enter Try.func77, Try.ntmps77
          go_wp2_with (first | (go_at_call 67; refine (hHow _).mono ?_; rintro e w'4 ⟨rfl, hb⟩; have BK1 := Aside0.mk (blk_below BK.out hb); have HB1 := Aside0.mk (below_step HB.out hb); clear BK HB hb; have BK := BK1; have HB := HB1; clear BK1 HB1; obtain ⟨q0, q1, q2, q3, q4, q5⟩ : w'4.cell? ⟨w.heap.size, 0, none⟩ = some (.int .i64 5) ∧ w'4.cell? ⟨w.heap.size, 1, none⟩ = some (.int .i64 r) ∧ w'4.cell? ⟨w.heap.size, 2, none⟩ = some (.int .i64 s) ∧ w'4.cell? ⟨w.heap.size, 3, none⟩ = some (.int .i64 t) ∧ w'4.cell? ⟨w.heap.size, 4, none⟩ = some (.int .i64 vk) ∧ w'4.cell? ⟨w.heap.size, 5, none⟩ = some (.int .i64 vn) := ⟨(blk_cell BK.out 0).trans rfl, (blk_cell BK.out 1).trans rfl, (blk_cell BK.out 2).trans rfl, (blk_cell BK.out 3).trans rfl, (blk_cell BK.out 4).trans rfl, (blk_cell BK.out 5).trans rfl⟩) | (at_builtin; refine wpList_append_own _ rfl _ _ 74 rfl (w.heap.size + 1) 77 i0 (.agg #[.int .i64 0, .nilFunc]) 2 16 Try.underlying74 hi_ hz0 hz1 hz2 rfl (by decide) _ _ _ rfl (World.ownsRow_nil _ _ _ _) ⟨_, 0, none⟩ 1 1 [.int .i64 ((i : Int) + 1), .func (.func 95) #[] #[.pointer (some ⟨w.heap.size, 0, none⟩)]] rfl rfl (cell_two_at _ _ _ _ _ (by simp)) (by simp [Value.oneCell']) (by unfold maxLen; omega) (by omega) ?hb ?_; (case hb => have := blk_lt BK.out; first | (simp; omega) | simp); intro v'w1 w1 hown' hgrow _; obtain ⟨BK1, HB1⟩ := arr_step BK.out HB.out (World.ownsRow_nil _ _ _ _) hgrow; have HO := Aside0.mk hown'; clear BK HB hown' hgrow; have BK := Aside0.mk BK1; have HB := Aside0.mk HB1; clear BK1 HB1; obtain ⟨q0, q1, q2, q3, q4, q5⟩ : w1.cell? ⟨w.heap.size, 0, none⟩ = some (.int .i64 5) ∧ w1.cell? ⟨w.heap.size, 1, none⟩ = some (.int .i64 r) ∧ w1.cell? ⟨w.heap.size, 2, none⟩ = some (.int .i64 s) ∧ w1.cell? ⟨w.heap.size, 3, none⟩ = some (.int .i64 t) ∧ w1.cell? ⟨w.heap.size, 4, none⟩ = some (.int .i64 vk) ∧ w1.cell? ⟨w.heap.size, 5, none⟩ = some (.int .i64 vn) := ⟨(blk_cell BK.out 0).trans rfl, (blk_cell BK.out 1).trans rfl, (blk_cell BK.out 2).trans rfl, (blk_cell BK.out 3).trans rfl, (blk_cell BK.out 4).trans rfl, (blk_cell BK.out 5).trans rfl⟩) | (at_builtin; refine wpList_append_own _ rfl _ _ 74 rfl (w.heap.size + 1) 77 i0 (.agg #[.int .i64 0, .nilFunc]) 2 16 Try.underlying74 hi_ hz0 hz1 hz2 rfl (by decide) _ _ _ rfl (HO.out.alloc _) ⟨_, 0, none⟩ 1 1 [.int .i64 t, .func (.func 96) #[] #[]] rfl rfl (cell_two_at _ _ _ _ _ (by simp)) (by simp [Value.oneCell']) (by unfold maxLen; omega) (by omega) ?hb ?_; (case hb => have := blk_lt BK.out; first | (simp; omega) | simp); intro v'w2 w2 hown' hgrow _; obtain ⟨BK1, HB1⟩ := arr_step BK.out HB.out HO.out hgrow; clear HO; have HO := Aside0.mk hown'; clear BK HB hown' hgrow; have BK := Aside0.mk BK1; have HB := Aside0.mk HB1; clear BK1 HB1; obtain ⟨q0, q1, q2, q3, q4, q5⟩ : w2.cell? ⟨w.heap.size, 0, none⟩ = some (.int .i64 5) ∧ w2.cell? ⟨w.heap.size, 1, none⟩ = some (.int .i64 r) ∧ w2.cell? ⟨w.heap.size, 2, none⟩ = some (.int .i64 s) ∧ w2.cell? ⟨w.heap.size, 3, none⟩ = some (.int .i64 t) ∧ w2.cell? ⟨w.heap.size, 4, none⟩ = some (.int .i64 vk) ∧ w2.cell? ⟨w.heap.size, 5, none⟩ = some (.int .i64 vn) := ⟨(blk_cell BK.out 0).trans rfl, (blk_cell BK.out 1).trans rfl, (blk_cell BK.out 2).trans rfl, (blk_cell BK.out 3).trans rfl, (blk_cell BK.out 4).trans rfl, (blk_cell BK.out 5).trans rfl⟩))
          all_goals go_ret
          all_goals exact ⟨_, rfl, HO.out, BK.out, HB.out⟩
        · have b5 : (k == 5) = false := by simpa using h5
          cases bt
          · have eL : L = [((i : Int) + 1, .fill)] ++ [] := by rw [hL.out]; unfold arrowsL; rw [if_neg n9, if_pos nx, if_pos (by rw [← hx.out, hf]), if_neg h5, if_neg (by rw [← hbt.out]; decide)] <;> rfl
            subst eL
            go_enter Try.func77, Try.ntmps77
            go_wp2_with (first | (go_at_call 67; refine (hHow _).mono ?_; rintro e w'4 ⟨rfl, hb⟩; have BK1 := Aside0.mk (blk_below BK.out hb); have HB1 := Aside0.mk (below_step HB.out hb); clear BK HB hb; have BK := BK1; have HB := HB1; clear BK1 HB1; obtain ⟨q0, q1, q2, q3, q4, q5⟩ : w'4.cell? ⟨w.heap.size, 0, none⟩ = some (.int .i64 k) ∧ w'4.cell? ⟨w.heap.size, 1, none⟩ = some (.int .i64 r) ∧ w'4.cell? ⟨w.heap.size, 2, none⟩ = some (.int .i64 s) ∧ w'4.cell? ⟨w.heap.size, 3, none⟩ = some (.int .i64 t) ∧ w'4.cell? ⟨w.heap.size, 4, none⟩ = some (.int .i64 vk) ∧ w'4.cell? ⟨w.heap.size, 5, none⟩ = some (.int .i64 vn) := ⟨(blk_cell BK.out 0).trans rfl, (blk_cell BK.out 1).trans rfl, (blk_cell BK.out 2).trans rfl, (blk_cell BK.out 3).trans rfl, (blk_cell BK.out 4).trans rfl, (blk_cell BK.out 5).trans rfl⟩) | (at_builtin; refine wpList_append_own _ rfl _ _ 74 rfl (w.heap.size + 1) 77 i0 (.agg #[.int .i64 0, .nilFunc]) 2 16 Try.underlying74 hi_ hz0 hz1 hz2 rfl (by decide) _ _ _ rfl (World.ownsRow_nil _ _ _ _) ⟨_, 0, none⟩ 1 1 [.int .i64 ((i : Int) + 1), .func (.func 95) #[] #[.pointer (some ⟨w.heap.size, 0, none⟩)]] rfl rfl (cell_two_at _ _ _ _ _ (by simp)) (by simp [Value.oneCell']) (by unfold maxLen; omega) (by omega) ?hb ?_; (case hb => have := blk_lt BK.out; first | (simp; omega) | simp); intro v'w1 w1 hown' hgrow _; obtain ⟨BK1, HB1⟩ := arr_step BK.out HB.out (World.ownsRow_nil _ _ _ _) hgrow; have HO := Aside0.mk hown'; clear BK HB hown' hgrow; have BK := Aside0.mk BK1; have HB := Aside0.mk HB1; clear BK1 HB1; obtain ⟨q0, q1, q2, q3, q4, q5⟩ : w1.cell? ⟨w.heap.size, 0, none⟩ = some (.int .i64 k) ∧ w1.cell? ⟨w.heap.size, 1, none⟩ = some (.int .i64 r) ∧ w1.cell? ⟨w.heap.size, 2, none⟩ = some (.int .i64 s) ∧ w1.cell? ⟨w.heap.size, 3, none⟩ = some (.int .i64 t) ∧ w1.cell? ⟨w.heap.size, 4, none⟩ = some (.int .i64 vk) ∧ w1.cell? ⟨w.heap.size, 5, none⟩ = some (.int .i64 vn) := ⟨(blk_cell BK.out 0).trans rfl, (blk_cell BK.out 1).trans rfl, (blk_cell BK.out 2).trans rfl, (blk_cell BK.out 3).trans rfl, (blk_cell BK.out 4).trans rfl, (blk_cell BK.out 5).trans rfl⟩) | (go_at_call 64; refine (hHas _).mono ?_; rintro e w'2 ⟨rfl, hb⟩; have BK1 := Aside0.mk (blk_below BK.out hb); have HB1 := Aside0.mk (below_step HB.out hb); have HO1 := Aside0.mk (own_below HO.out hb); clear HO; have HO := HO1; clear HO1; clear BK HB hb; have BK := BK1; have HB := HB1; clear BK1 HB1; obtain ⟨q0, q1, q2, q3, q4, q5⟩ : w'2.cell? ⟨w.heap.size, 0, none⟩ = some (.int .i64 k) ∧ w'2.cell? ⟨w.heap.size, 1, none⟩ = some (.int .i64 r) ∧ w'2.cell? ⟨w.heap.size, 2, none⟩ = some (.int .i64 s) ∧ w'2.cell? ⟨w.heap.size, 3, none⟩ = some (.int .i64 t) ∧ w'2.cell? ⟨w.heap.size, 4, none⟩ = some (.int .i64 vk) ∧ w'2.cell? ⟨w.heap.size, 5, none⟩ = some (.int .i64 vn) := ⟨(blk_cell BK.out 0).trans rfl, (blk_cell BK.out 1).trans rfl, (blk_cell BK.out 2).trans rfl, (blk_cell BK.out 3).trans rfl, (blk_cell BK.out 4).trans rfl, (blk_cell BK.out 5).trans rfl⟩))
            all_goals go_ret
            all_goals exact ⟨_, rfl, HO.out, BK.out, HB.out⟩
          · have eL : L = [((i : Int) + 1, .fill)] ++ [(t, .same)] := by rw [hL.out]; unfold arrowsL; rw [if_neg n9, if_pos nx, if_pos (by rw [← hx.out, hf]), if_neg h5, if_pos hbt.out.symm] <;> rfl
            subst eL
            go_enter Try.func77, Try.ntmps77
            go_wp2_with (first | (go_at_call 67; refine (hHow _).mono ?_; rintro e w'4 ⟨rfl, hb⟩; have BK1 := Aside0.mk (blk_below BK.out hb); have HB1 := Aside0.mk (below_step HB.out hb); clear BK HB hb; have BK := BK1; have HB := HB1; clear BK1 HB1; obtain ⟨q0, q1, q2, q3, q4, q5⟩ : w'4.cell? ⟨w.heap.size, 0, none⟩ = some (.int .i64 k) ∧ w'4.cell? ⟨w.heap.size, 1, none⟩ = some (.int .i64 r) ∧ w'4.cell? ⟨w.heap.size, 2, none⟩ = some (.int .i64 s) ∧ w'4.cell? ⟨w.heap.size, 3, none⟩ = some (.int .i64 t) ∧ w'4.cell? ⟨w.heap.size, 4, none⟩ = some (.int .i64 vk) ∧ w'4.cell? ⟨w.heap.size, 5, none⟩ = some (.int .i64 vn) := ⟨(blk_cell BK.out 0).trans rfl, (blk_cell BK.out 1).trans rfl, (blk_cell BK.out 2).trans rfl, (blk_cell BK.out 3).trans rfl, (blk_cell BK.out 4).trans rfl, (blk_cell BK.out 5).trans rfl⟩) | (at_builtin; refine wpList_append_own _ rfl _ _ 74 rfl (w.heap.size + 1) 77 i0 (.agg #[.int .i64 0, .nilFunc]) 2 16 Try.underlying74 hi_ hz0 hz1 hz2 rfl (by decide) _ _ _ rfl (World.ownsRow_nil _ _ _ _) ⟨_, 0, none⟩ 1 1 [.int .i64 ((i : Int) + 1), .func (.func 95) #[] #[.pointer (some ⟨w.heap.size, 0, none⟩)]] rfl rfl (cell_two_at _ _ _ _ _ (by simp)) (by simp [Value.oneCell']) (by unfold maxLen; omega) (by omega) ?hb ?_; (case hb => have := blk_lt BK.out; first | (simp; omega) | simp); intro v'w1 w1 hown' hgrow _; obtain ⟨BK1, HB1⟩ := arr_step BK.out HB.out (World.ownsRow_nil _ _ _ _) hgrow; have HO := Aside0.mk hown'; clear BK HB hown' hgrow; have BK := Aside0.mk BK1; have HB := Aside0.mk HB1; clear BK1 HB1; obtain ⟨q0, q1, q2, q3, q4, q5⟩ : w1.cell? ⟨w.heap.size, 0, none⟩ = some (.int .i64 k) ∧ w1.cell? ⟨w.heap.size, 1, none⟩ = some (.int .i64 r) ∧ w1.cell? ⟨w.heap.size, 2, none⟩ = some (.int .i64 s) ∧ w1.cell? ⟨w.heap.size, 3, none⟩ = some (.int .i64 t) ∧ w1.cell? ⟨w.heap.size, 4, none⟩ = some (.int .i64 vk) ∧ w1.cell? ⟨w.heap.size, 5, none⟩ = some (.int .i64 vn) := ⟨(blk_cell BK.out 0).trans rfl, (blk_cell BK.out 1).trans rfl, (blk_cell BK.out 2).trans rfl, (blk_cell BK.out 3).trans rfl, (blk_cell BK.out 4).trans rfl, (blk_cell BK.out 5).trans rfl⟩) | (go_at_call 64; refine (hHas _).mono ?_; rintro e w'2 ⟨rfl, hb⟩; have BK1 := Aside0.mk (blk_below BK.out hb); have HB1 := Aside0.mk (below_step HB.out hb); have HO1 := Aside0.mk (own_below HO.out hb); clear HO; have HO := HO1; clear HO1; clear BK HB hb; have BK := BK1; have HB := HB1; clear BK1 HB1; obtain ⟨q0, q1, q2, q3, q4, q5⟩ : w'2.cell? ⟨w.heap.size, 0, none⟩ = some (.int .i64 k) ∧ w'2.cell? ⟨w.heap.size, 1, none⟩ = some (.int .i64 r) ∧ w'2.cell? ⟨w.heap.size, 2, none⟩ = some (.int .i64 s) ∧ w'2.cell? ⟨w.heap.size, 3, none⟩ = some (.int .i64 t) ∧ w'2.cell? ⟨w.heap.size, 4, none⟩ = some (.int .i64 vk) ∧ w'2.cell? ⟨w.heap.size, 5, none⟩ = some (.int .i64 vn) := ⟨(blk_cell BK.out 0).trans rfl, (blk_cell BK.out 1).trans rfl, (blk_cell BK.out 2).trans rfl, (blk_cell BK.out 3).trans rfl, (blk_cell BK.out 4).trans rfl, (blk_cell BK.out 5).trans rfl⟩) | (at_builtin; refine wpList_append_own _ rfl _ _ 74 rfl (w.heap.size + 1) 77 i0 (.agg #[.int .i64 0, .nilFunc]) 2 16 Try.underlying74 hi_ hz0 hz1 hz2 rfl (by decide) _ _ _ rfl (HO.out.alloc _) ⟨_, 0, none⟩ 1 1 [.int .i64 t, .func (.func 94) #[] #[]] rfl rfl (cell_two_at _ _ _ _ _ (by simp)) (by simp [Value.oneCell']) (by unfold maxLen; omega) (by omega) ?hb ?_; (case hb => have := blk_lt BK.out; first | (simp; omega) | simp); intro v'w2 w2 hown' hgrow _; obtain ⟨BK1, HB1⟩ := arr_step BK.out HB.out HO.out hgrow; clear HO; have HO := Aside0.mk hown'; clear BK HB hown' hgrow; have BK := Aside0.mk BK1; have HB := Aside0.mk HB1; clear BK1 HB1; obtain ⟨q0, q1, q2, q3, q4, q5⟩ : w2.cell? ⟨w.heap.size, 0, none⟩ = some (.int .i64 k) ∧ w2.cell? ⟨w.heap.size, 1, none⟩ = some (.int .i64 r) ∧ w2.cell? ⟨w.heap.size, 2, none⟩ = some (.int .i64 s) ∧ w2.cell? ⟨w.heap.size, 3, none⟩ = some (.int .i64 t) ∧ w2.cell? ⟨w.heap.size, 4, none⟩ = some (.int .i64 vk) ∧ w2.cell? ⟨w.heap.size, 5, none⟩ = some (.int .i64 vn) := ⟨(blk_cell BK.out 0).trans rfl, (blk_cell BK.out 1).trans rfl, (blk_cell BK.out 2).trans rfl, (blk_cell BK.out 3).trans rfl, (blk_cell BK.out 4).trans rfl, (blk_cell BK.out 5).trans rfl⟩))
            all_goals go_ret
            all_goals exact ⟨_, rfl, HO.out, BK.out, HB.out⟩
    · have dx : decide ((i : Int) + 1 < (n : Int)) = false := decide_eq_false nx
      by_cases h5 : k = 5
      · subst h5
        have eL : L = [] ++ [(t, .one)] := by rw [hL.out]; unfold arrowsL; rw [if_neg n9, if_neg nx, if_pos rfl] <;> rfl
        subst eL
        go_enter Try.func77, Try.ntmps77
        go_wp2_with (first | (at_builtin; refine wpList_append_own _ rfl _ _ 74 rfl (w.heap.size + 1) 77 i0 (.agg #[.int .i64 0, .nilFunc]) 2 16 Try.underlying74 hi_ hz0 hz1 hz2 rfl (by decide) _ _ _ rfl (World.ownsRow_nil _ _ _ _) ⟨_, 0, none⟩ 1 1 [.int .i64 t, .func (.func 96) #[] #[]] rfl rfl (cell_two_at _ _ _ _ _ (by simp)) (by simp [Value.oneCell']) (by unfold maxLen; omega) (by omega) ?hb ?_; (case hb => have := blk_lt BK.out; first | (simp; omega) | simp); intro v'w2 w2 hown' hgrow _; obtain ⟨BK1, HB1⟩ := arr_step BK.out HB.out (World.ownsRow_nil _ _ _ _) hgrow; have HO := Aside0.mk hown'; clear BK HB hown' hgrow; have BK := Aside0.mk BK1; have HB := Aside0.mk HB1; clear BK1 HB1; obtain ⟨q0, q1, q2, q3, q4, q5⟩ : w2.cell? ⟨w.heap.size, 0, none⟩ = some (.int .i64 5) ∧ w2.cell? ⟨w.heap.size, 1, none⟩ = some (.int .i64 r) ∧ w2.cell? ⟨w.heap.size, 2, none⟩ = some (.int .i64 s) ∧ w2.cell? ⟨w.heap.size, 3, none⟩ = some (.int .i64 t) ∧ w2.cell? ⟨w.heap.size, 4, none⟩ = some (.int .i64 vk) ∧ w2.cell? ⟨w.heap.size, 5, none⟩ = some (.int .i64 vn) := ⟨(blk_cell BK.out 0).trans rfl, (blk_cell BK.out 1).trans rfl, (blk_cell BK.out 2).trans rfl, (blk_cell BK.out 3).trans rfl, (blk_cell BK.out 4).trans rfl, (blk_cell BK.out 5).trans rfl⟩))
        all_goals go_ret
        all_goals exact ⟨_, rfl, HO.out, BK.out, HB.out⟩
      · have b5 : (k == 5) = false := by simpa using h5
        cases bt
        · have eL : L = [] ++ [] := by rw [hL.out]; unfold arrowsL; rw [if_neg n9, if_neg nx, if_neg h5, if_neg (by rw [← hbt.out]; decide)] <;> rfl
          subst eL
          go_enter Try.func77, Try.ntmps77
          go_wp2_with (first | (go_at_call 64; refine (hHas _).mono ?_; rintro e w'2 ⟨rfl, hb⟩; have BK1 := Aside0.mk (blk_below BK.out hb); have HB1 := Aside0.mk (below_step HB.out hb); clear BK HB hb; have BK := BK1; have HB := HB1; clear BK1 HB1; obtain ⟨q0, q1, q2, q3, q4, q5⟩ : w'2.cell? ⟨w.heap.size, 0, none⟩ = some (.int .i64 k) ∧ w'2.cell? ⟨w.heap.size, 1, none⟩ = some (.int .i64 r) ∧ w'2.cell? ⟨w.heap.size, 2, none⟩ = some (.int .i64 s) ∧ w'2.cell? ⟨w.heap.size, 3, none⟩ = some (.int .i64 t) ∧ w'2.cell? ⟨w.heap.size, 4, none⟩ = some (.int .i64 vk) ∧ w'2.cell? ⟨w.heap.size, 5, none⟩ = some (.int .i64 vn) := ⟨(blk_cell BK.out 0).trans rfl, (blk_cell BK.out 1).trans rfl, (blk_cell BK.out 2).trans rfl, (blk_cell BK.out 3).trans rfl, (blk_cell BK.out 4).trans rfl, (blk_cell BK.out 5).trans rfl⟩))
          all_goals go_ret
          all_goals exact ⟨_, rfl, World.ownsRow_nil _ _ _ _, BK.out, HB.out⟩
        · have eL : L = [] ++ [(t, .same)] := by rw [hL.out]; unfold arrowsL; rw [if_neg n9, if_neg nx, if_neg h5, if_pos hbt.out.symm] <;> rfl
          subst eL
          go_enter Try.func77, Try.ntmps77
          go_wp2_with (first | (go_at_call 64; refine (hHas _).mono ?_; rintro e w'2 ⟨rfl, hb⟩; have BK1 := Aside0.mk (blk_below BK.out hb); have HB1 := Aside0.mk (below_step HB.out hb); clear BK HB hb; have BK := BK1; have HB := HB1; clear BK1 HB1; obtain ⟨q0, q1, q2, q3, q4, q5⟩ : w'2.cell? ⟨w.heap.size, 0, none⟩ = some (.int .i64 k) ∧ w'2.cell? ⟨w.heap.size, 1, none⟩ = some (.int .i64 r) ∧ w'2.cell? ⟨w.heap.size, 2, none⟩ = some (.int .i64 s) ∧ w'2.cell? ⟨w.heap.size, 3, none⟩ = some (.int .i64 t) ∧ w'2.cell? ⟨w.heap.size, 4, none⟩ = some (.int .i64 vk) ∧ w'2.cell? ⟨w.heap.size, 5, none⟩ = some (.int .i64 vn) := ⟨(blk_cell BK.out 0).trans rfl, (blk_cell BK.out 1).trans rfl, (blk_cell BK.out 2).trans rfl, (blk_cell BK.out 3).trans rfl, (blk_cell BK.out 4).trans rfl, (blk_cell BK.out 5).trans rfl⟩) | (at_builtin; refine wpList_append_own _ rfl _ _ 74 rfl (w.heap.size + 1) 77 i0 (.agg #[.int .i64 0, .nilFunc]) 2 16 Try.underlying74 hi_ hz0 hz1 hz2 rfl (by decide) _ _ _ rfl (World.ownsRow_nil _ _ _ _) ⟨_, 0, none⟩ 1 1 [.int .i64 t, .func (.func 94) #[] #[]] rfl rfl (cell_two_at _ _ _ _ _ (by simp)) (by simp [Value.oneCell']) (by unfold maxLen; omega) (by omega) ?hb ?_; (case hb => have := blk_lt BK.out; first | (simp; omega) | simp); intro v'w2 w2 hown' hgrow _; obtain ⟨BK1, HB1⟩ := arr_step BK.out HB.out (World.ownsRow_nil _ _ _ _) hgrow; have HO := Aside0.mk hown'; clear BK HB hown' hgrow; have BK := Aside0.mk BK1; have HB := Aside0.mk HB1; clear BK1 HB1; obtain ⟨q0, q1, q2, q3, q4, q5⟩ : w2.cell? ⟨w.heap.size, 0, none⟩ = some (.int .i64 k) ∧ w2.cell? ⟨w.heap.size, 1, none⟩ = some (.int .i64 r) ∧ w2.cell? ⟨w.heap.size, 2, none⟩ = some (.int .i64 s) ∧ w2.cell? ⟨w.heap.size, 3, none⟩ = some (.int .i64 t) ∧ w2.cell? ⟨w.heap.size, 4, none⟩ = some (.int .i64 vk) ∧ w2.cell? ⟨w.heap.size, 5, none⟩ = some (.int .i64 vn) := ⟨(blk_cell BK.out 0).trans rfl, (blk_cell BK.out 1).trans rfl, (blk_cell BK.out 2).trans rfl, (blk_cell BK.out 3).trans rfl, (blk_cell BK.out 4).trans rfl, (blk_cell BK.out 5).trans rfl⟩))
          all_goals go_ret
          all_goals exact ⟨_, rfl, HO.out, BK.out, HB.out⟩
end Go.Proofs.Ytmklpbmlgjkbiaa.PS
end
section
namespace Go.Proofs.Ytmklpbmlgjkbiaa.PS
open Go.RowKit Go.Proofs.YtmklpbmlgjkbiaaW.PrintWords Go.Proofs.YtmklpbmlgjkbiaaW.PrintLast
set_option linter.unusedVariables false
set_option linter.unusedSimpArgs false
set_option maxRecDepth 100000
def waysL (l : List S29) (i : Nat) : List (Int × Fl) := arrowsL l.length i (rd_T29 l i).f0 (rd_T29 l i).f3
def opCells (x : S29) : Array Value := #[.int .i64 x.f0, .int .i64 x.f1, .int .i64 x.f2, .int .i64 x.f3, .int .i64 x.f4.f0, .int .i64 x.f4.f1]
theorem impl_arrows (A0 : Option Addr) (c0 : Nat) (l0 : List S29) (i : Nat) (w : World) (hr0 : Kd.C k29 w A0 l0.length l0) (hi : i < l0.length) (hl : l0.length ≤ 16) :
    Calls Try.prog 77 #[.slice A0 l0.length c0, .int .i64 i] w fun e w' => ∃ v, e = .returned v ∧ w'.ownsRow (w.heap.size + 1) 77 2 v (waysL l0 i).length (arrowCells w.heap.size (waysL l0 i)) ∧ w'.heap[w.heap.size]? = some (.cells (opCells (rd_T29 l0 i)) 29 (0, 0)) ∧ Below w.heap.size w w' := by
  obtain ⟨ad, e, x0, x1, x2, x3, x4, x5⟩ := at_T29 hr0 (i : Int) (by omega) (by omega)
  rw [Int.toNat_natCast] at x0 x1 x2 x3 x4 x5
  refine arrows_walk A0 c0 l0.length ad i hi hl e _ _ _ _ _ _ w (howR (rd_T29 l0 i).f0).f3 (hasT (rd_T29 l0 i).f0) (howR (rd_T29 l0 i).f0) ⟨rfl⟩ ⟨rfl⟩ x0 x1 x2 x3 x4 x5 ?_ rfl _ ⟨rfl⟩
  by_cases h9 : (rd_T29 l0 i).f0 = 9
  · exact .inl ⟨h9, by rw [h9]; rfl⟩
  by_cases h14 : (rd_T29 l0 i).f0 = 14
  · exact .inr (.inl ⟨h14, by rw [h14]; rfl⟩)
  exact .inr (.inr ⟨by simpa using h9, by simpa using h14⟩)
theorem ways_two (l : List S29) (i : Nat) : (waysL l i).length ≤ 2 := by
  unfold waysL arrowsL
  rw [List.length_append]
  have h1 : ∀ (a b c : Prop) [Decidable a] [Decidable b] (x : Int × Fl), (if a then [] else if b then [x] else ([] : List (Int × Fl))).length ≤ 1 := fun a b c _ _ x => by split <;> (try split) <;> simp
  have h2 : ∀ (a b : Prop) [Decidable a] [Decidable b] (x y : Int × Fl), (if a then [x] else if b then [y] else ([] : List (Int × Fl))).length ≤ 1 := fun a b _ _ x y => by split <;> (try split) <;> simp
  exact Nat.add_le_add (h1 _ _ True _) (h2 _ _ _ _)
theorem way_at {w : World} {base B : Nat} {v : Value} {L : List (Int × Fl)} (h : w.ownsRow base 77 2 v L.length (arrowCells B L)) : ∃ A c, v = .slice A L.length c ∧ (∀ b, v.ownBlock = some b → base ≤ b ∧ b < w.heap.size) ∧ ∀ (j : Nat) (hj : j < L.length), ∃ g, A = some ⟨g, 0, none⟩ ∧ base ≤ g ∧ g < w.heap.size ∧ w.cell? ⟨g, j * 2, none⟩ = some (.int .i64 L[j].1) ∧ w.cell? ⟨g, j * 2 + 1, none⟩ = some (L[j].2.val B) := by
  obtain ⟨hlen, h⟩ := h
  rcases h with ⟨rfl, h0⟩ | ⟨g, cap, cur, rfl, hg, hh, hc, hm, hs, ht⟩
  · exact ⟨none, 0, by rw [h0], fun b hb => by simp [Value.ownBlock] at hb, fun j hj => absurd hj (by omega)⟩
  · refine ⟨_, cap, rfl, fun b hb => ?_, fun j hj => ⟨g, rfl, hg, blk_lt hh, ?_⟩⟩
    · have : g = b := by simpa [Value.ownBlock] using hb
      subst this; exact ⟨hg, blk_lt hh⟩
    have key : ∀ q, q < 2 → (arrowCells B L)[j * 2 + q]? = some (if q = 0 then .int .i64 L[j].1 else L[j].2.val B) := by
      intro q hq
      clear ht hlen hs hc hh
      unfold arrowCells
      induction L generalizing j with
      | nil => simp at hj
      | cons a L ih =>
        rw [List.flatMap_cons]
        cases j with
        | zero =>
          match q, hq with
          | 0, _ => rfl
          | 1, _ => rfl
        | succ j =>
          have := ih j (by simpa using hj)
          rw [show (j + 1) * 2 + q = (j * 2 + q) + 2 by omega, List.getElem?_append_right (by simp)]
          simpa using this
    have cell : ∀ q, q < 2 → w.cell? ⟨g, j * 2 + q, none⟩ = (arrowCells B L)[j * 2 + q]? := by
      intro q hq
      rw [blk_cell hh, ← ht, List.getElem?_take_of_lt (by omega), Array.getElem?_toList]
    refine ⟨?_, ?_⟩
    · have := (cell 0 (by omega)).trans (key 0 (by omega)); simpa using this
    · have := (cell 1 (by omega)).trans (key 1 (by omega)); simpa using this
end Go.Proofs.Ytmklpbmlgjkbiaa.PS
end
section
namespace Go.Proofs.Ytmklpbmlgjkbiaa.PS
open Go.RowKit Go.Proofs.YtmklpbmlgjkbiaaW.PrintWords Go.Proofs.YtmklpbmlgjkbiaaW.PrintLast
set_option linter.unusedVariables false
set_option linter.unusedSimpArgs false
set_option maxRecDepth 100000
theorem rdn_at (l : List Int) (i : Nat) (h : i < l.length) : rd l (i : Int) = l[i] := by
  unfold rd; simp [List.getD_eq_getElem?_getD, List.getElem?_eq_getElem h]
end Go.Proofs.Ytmklpbmlgjkbiaa.PS
end
section
namespace Go.Proofs.Ytmklpbmlgjkbiaa.PS
open Go.RowKit Go.Proofs.YtmklpbmlgjkbiaaW.PrintWords Go.Proofs.YtmklpbmlgjkbiaaW.PrintLast
set_option linter.unusedVariables false
set_option linter.unusedSimpArgs false
set_option maxRecDepth 100000
theorem val_func (B : Nat) (f : Fl) : ∃ ff lb, f.val B = .func (.func ff) #[] lb := by cases f <;> exact ⟨_, _, rfl⟩
end Go.Proofs.Ytmklpbmlgjkbiaa.PS
end
section
namespace Go.Proofs.Ytmklpbmlgjkbiaa.PS
set_option linter.unusedVariables false
def both (a x : Int) : Int := if a < 0 then x else ((a.toNat &&& x.toNat : Nat) : Int)
def mu1 (a : Int) : Nat := if a < 0 then 5 else a.toNat % 2 + a.toNat / 2 % 2 + a.toNat / 4 % 2 + a.toNat / 8 % 2
def fours (P : Int → Bool) : Bool := (List.range 16).all fun i => P i
theorem fours_all {P : Int → Bool} (h : fours P = true) {x : Int} (h0 : 0 ≤ x) (h1 : x ≤ 15) : P x = true := by
  unfold fours at h
  rw [List.all_eq_true] at h
  have := h x.toNat (by simp; omega)
  rwa [Int.toNat_of_nonneg h0] at this
theorem both_range {a x : Int} (h0 : 0 ≤ x) (h1 : x ≤ 15) : 0 ≤ both a x ∧ both a x ≤ 15 := by
  unfold both
  split
  · exact ⟨h0, h1⟩
  · have : a.toNat &&& x.toNat ≤ x.toNat := Nat.and_le_right
    omega
theorem both_mu {a x : Int} (ha : -1 ≤ a) (ha' : a ≤ 15) (h0 : 0 ≤ x) (h1 : x ≤ 15) : both a x = a ∨ mu1 (both a x) < mu1 a := by
  by_cases h : a = -1
  · subst h
    right
    have : fours (fun x => decide (mu1 (both (-1) x) < mu1 (-1))) = true := by decide +kernel
    exact of_decide_eq_true (fours_all this h0 h1)
  · have : fours (fun a => fours fun x => decide (both a x = a ∨ mu1 (both a x) < mu1 a)) = true := by decide +kernel
    exact of_decide_eq_true (fours_all (fours_all this (by omega) ha') h0 h1)
abbrev Way := Int × (Int → Int)
def at_ (o : List Int) (i : Int) : Int := o.getD i.toNat 0
def mergeW (i : Nat) (o : List Int) (a : Way) : List Int := o.set a.1.toNat (both (at_ o a.1) (a.2 (at_ o i)))
def stepW (W : Nat → List Way) (o : List Int) (i : Nat) : List Int := if at_ o i < 0 then o else (W i).foldl (mergeW i) o
def passW (W : Nat → List Way) (n : Nat) (o : List Int) : List Int := (List.range n).foldl (stepW W) o
def mu (o : List Int) : Nat := (o.map mu1).sum
def GoodW (W : Nat → List Way) (n : Nat) : Prop := ∀ i, i < n → ∀ a ∈ W i, 0 ≤ a.1 ∧ a.1 < n ∧ ∀ x, 0 ≤ x → x ≤ 15 → 0 ≤ a.2 x ∧ a.2 x ≤ 15
def GoodO (n : Nat) (o : List Int) : Prop := o.length = n ∧ ∀ x ∈ o, -1 ≤ x ∧ x ≤ 15
theorem at_good {n : Nat} {o : List Int} (h : GoodO n o) (i : Int) : -1 ≤ at_ o i ∧ at_ o i ≤ 15 := by
  unfold at_
  rw [List.getD_eq_getElem?_getD]
  cases e : o[i.toNat]? with
  | none => simp
  | some x => exact h.2 x (List.mem_of_getElem? e)
theorem at_set_self {o : List Int} {i : Int} {x : Int} (h : i.toNat < o.length) : at_ (o.set i.toNat x) i = x := by
  unfold at_; simp [List.getD_eq_getElem?_getD, h]
theorem at_set_ne {o : List Int} {i j : Nat} {x : Int} (h : i ≠ j) : at_ (o.set i x) j = at_ o j := by
  unfold at_; simp [List.getD_eq_getElem?_getD, h]
theorem set_at {o : List Int} {i : Nat} : o.set i (at_ o i) = o := by
  unfold at_
  by_cases h : i < o.length
  · refine List.ext_getElem (by simp) fun j h1 h2 => ?_
    by_cases e : i = j
    · subst e; simp [List.getD_eq_getElem?_getD, h]
    · simp [e]
  · simp [List.set_eq_of_length_le (by omega : o.length ≤ i)]
theorem mu_set {o : List Int} {i : Nat} {x : Int} (h : i < o.length) : mu (o.set i x) + mu1 (at_ o i) = mu o + mu1 x := by
  induction o generalizing i with
  | nil => simp at h
  | cons y o ih =>
    cases i with
    | zero => simp [mu, at_]; omega
    | succ i =>
      have := ih (i := i) (by simpa using h)
      simp [mu, at_] at this ⊢; omega
def Down (o p : List Int) : Prop := p = o ∨ mu p < mu o
theorem Down.refl (o : List Int) : Down o o := .inl rfl
theorem Down.trans {o p q : List Int} (h : Down o p) (g : Down p q) : Down o q := by
  rcases h with rfl | h
  · exact g
  · rcases g with rfl | g
    · exact .inr h
    · exact .inr (by omega)
theorem merge_good {W : Nat → List Way} {n i : Nat} {o : List Int} {a : Way} (hW : GoodW W n) (ho : GoodO n o) (hi : i < n) (ha : a ∈ W i) (h0 : 0 ≤ at_ o i) :
    GoodO n (mergeW i o a) ∧ Down o (mergeW i o a) ∧ 0 ≤ at_ (mergeW i o a) i := by
  obtain ⟨t0, t1, hf⟩ := hW i hi a ha
  have hx := hf _ h0 (at_good ho i).2
  have hb := both_range (a := at_ o a.1) hx.1 hx.2
  have hm := both_mu (at_good ho a.1).1 (at_good ho a.1).2 hx.1 hx.2
  refine ⟨⟨by simp [mergeW, ho.1], fun x hx' => ?_⟩, ?_, ?_⟩
  · rcases List.mem_or_eq_of_mem_set hx' with h | h
    · exact ho.2 x h
    · omega
  · have hs := mu_set (o := o) (i := a.1.toNat) (x := both (at_ o a.1) (a.2 (at_ o i))) (by rw [ho.1]; omega)
    have e : at_ o (a.1.toNat : Int) = at_ o a.1 := by rw [Int.toNat_of_nonneg t0]
    rcases hm with hm | hm
    · left; unfold mergeW; rw [hm, ← e]; exact set_at
    · right; unfold mergeW; rw [e] at hs; omega
  · by_cases e : a.1.toNat = i
    · have : a.1 = i := by omega
      unfold mergeW
      rw [← this, at_set_self (by rw [ho.1]; omega)]
      rw [this] at hb ⊢; omega
    · unfold mergeW; rw [at_set_ne e]; exact h0
theorem merges_good {W : Nat → List Way} {n i : Nat} (hW : GoodW W n) (hi : i < n) : ∀ (L : List Way), (∀ a ∈ L, a ∈ W i) → ∀ o, GoodO n o → 0 ≤ at_ o i →
    GoodO n (L.foldl (mergeW i) o) ∧ Down o (L.foldl (mergeW i) o) ∧ 0 ≤ at_ (L.foldl (mergeW i) o) i
  | [], _, o, ho, h0 => ⟨ho, .refl _, h0⟩
  | a :: L, hL, o, ho, h0 => by
    obtain ⟨g, d, z⟩ := merge_good hW ho hi (hL a (by simp)) h0
    obtain ⟨g', d', z'⟩ := merges_good hW hi L (fun b hb => hL b (by simp [hb])) _ g z
    exact ⟨g', d.trans d', z'⟩
theorem step_good {W : Nat → List Way} {n i : Nat} {o : List Int} (hW : GoodW W n) (hi : i < n) (ho : GoodO n o) : GoodO n (stepW W o i) ∧ Down o (stepW W o i) := by
  unfold stepW; split
  · exact ⟨ho, .refl _⟩
  · obtain ⟨g, d, _⟩ := merges_good hW hi (W i) (fun _ h => h) o ho (by omega)
    exact ⟨g, d⟩
theorem passes_good {W : Nat → List Way} {n : Nat} (hW : GoodW W n) {o : List Int} (ho : GoodO n o) : ∀ m, m ≤ n → GoodO n (passW W m o) ∧ Down o (passW W m o)
  | 0, _ => ⟨ho, .refl _⟩
  | m + 1, hm => by
    obtain ⟨g, d⟩ := passes_good hW ho m (by omega)
    obtain ⟨g', d'⟩ := step_good hW (i := m) (by omega) g
    unfold passW; rw [List.range_succ, List.foldl_append]
    exact ⟨g', d.trans d'⟩
theorem pass_succ (W : Nat → List Way) (m : Nat) (o : List Int) : passW W (m + 1) o = stepW W (passW W m o) m := by
  unfold passW; rw [List.range_succ, List.foldl_append]; rfl
def iterW (W : Nat → List Way) (n : Nat) : Nat → List Int → List Int
  | 0, o => o
  | k + 1, o => iterW W n k (passW W n o)
def finW (W : Nat → List Way) (n : Nat) (o : List Int) : List Int := iterW W n (mu o) o
theorem iter_fix {W : Nat → List Way} {n : Nat} {o : List Int} (h : passW W n o = o) : ∀ k, iterW W n k o = o
  | 0 => rfl
  | k + 1 => by unfold iterW; rw [h]; exact iter_fix h k
theorem iter_more {W : Nat → List Way} {n : Nat} (hW : GoodW W n) : ∀ (m : Nat) (o : List Int), mu o ≤ m → GoodO n o → iterW W n m o = finW W n o ∧ passW W n (iterW W n m o) = iterW W n m o ∧ GoodO n (iterW W n m o)
  | 0, o, hm, ho => by
    have e : mu o = 0 := by omega
    refine ⟨by unfold finW; rw [e], ?_, ho⟩
    rcases (passes_good hW ho n (Nat.le_refl n)).2 with h | h
    · exact h
    · omega
  | m + 1, o, hm, ho => by
    obtain ⟨g, d⟩ := passes_good hW ho n (Nat.le_refl n)
    rcases d with h | h
    · exact ⟨by unfold finW; rw [iter_fix h, iter_fix h], by rw [iter_fix h]; exact h, by rw [iter_fix h]; exact ho⟩
    · obtain ⟨a, b, c⟩ := iter_more hW m (passW W n o) (by omega) g
      refine ⟨?_, b, c⟩
      obtain ⟨q, hq⟩ : ∃ q, mu o = q + 1 := ⟨mu o - 1, by omega⟩
      have := (iter_more hW q (passW W n o) (by omega) g).1
      show iterW W n m (passW W n o) = _
      unfold finW; rw [hq]
      show _ = iterW W n q (passW W n o)
      rw [a, this]
  termination_by m => m
theorem fin_pass {W : Nat → List Way} {n : Nat} (hW : GoodW W n) {o : List Int} (ho : GoodO n o) : finW W n (passW W n o) = finW W n o := by
  obtain ⟨g, d⟩ := passes_good hW ho n (Nat.le_refl n)
  rcases d with h | h
  · rw [h]
  · obtain ⟨a, -, -⟩ := iter_more hW (mu o - 1) (passW W n o) (by omega) g
    obtain ⟨b, -, -⟩ := iter_more hW (mu o) o (by omega) ho
    rw [← a, ← b]
    obtain ⟨q, hq⟩ : ∃ q, mu o = q + 1 := ⟨mu o - 1, by omega⟩
    rw [hq]; rfl
theorem fin_fix {W : Nat → List Way} {n : Nat} {o : List Int} (h : passW W n o = o) : finW W n o = o := iter_fix h _
theorem fin_good {W : Nat → List Way} {n : Nat} (hW : GoodW W n) {o : List Int} (ho : GoodO n o) : passW W n (finW W n o) = finW W n o ∧ GoodO n (finW W n o) :=
  (iter_more hW (mu o) o (Nat.le_refl _) ho).2
def startO (n : Nat) : List Int := (List.replicate n (-1)).set 0 1
theorem start_good (n : Nat) : GoodO n (startO n) := by
  refine ⟨by simp [startO], fun x hx => ?_⟩
  rcases List.mem_or_eq_of_mem_set hx with h | h
  · have := (List.mem_replicate.1 h).2; omega
  · omega
def fullW (W : Nat → List Way) (n : Nat) : List Int := finW W n (startO n)
theorem full_good {W : Nat → List Way} {n : Nat} (hW : GoodW W n) : GoodO n (fullW W n) := (fin_good hW (start_good n)).2
end Go.Proofs.Ytmklpbmlgjkbiaa.PS
end
section
namespace Go.Proofs.Ytmklpbmlgjkbiaa.PS
open Go.RowKit Go.Proofs.YtmklpbmlgjkbiaaW.PrintWords Go.Proofs.YtmklpbmlgjkbiaaW.PrintLast
set_option linter.unusedVariables false
set_option linter.unusedSimpArgs false
set_option maxRecDepth 100000
theorem flow_same (x : Int) (w : World) : Calls Try.prog 94 #[.int .i64 x] w fun e w' => e = .returned (.int .i64 x) ∧ w = w' := by
  go_enter Try.func94, Try.ntmps94
  go_wp2
  go_ret
  exact ⟨rfl, rfl⟩
theorem flow_one (x : Int) (w : World) : Calls Try.prog 96 #[.int .i64 x] w fun e w' => e = .returned (.int .i64 1) ∧ w = w' := by
  go_enter Try.func96, Try.ntmps96
  go_wp2
  go_ret
  exact ⟨rfl, rfl⟩
def orBit (x r : Int) : Int := bits BinOp.or IntKind.i64 x (wrap64 (2 ^ r.toNat))
theorem orBit_range {x r : Int} (hx : 0 ≤ x) (hx2 : x ≤ 15) (hr : 0 ≤ r) (hr2 : r ≤ 3) : 0 ≤ orBit x r ∧ orBit x r ≤ 15 := by
  have : fours (fun x => fours fun r => decide (r ≤ 3 → 0 ≤ orBit x r ∧ orBit x r ≤ 15)) = true := by decide +kernel
  exact of_decide_eq_true (fours_all (fours_all this hx hx2) hr (by omega)) hr2
theorem flow_fill (x r : Int) (hr : 0 ≤ r) (hr2 : r ≤ 3) (B : Nat) (w : World) (hB : w.cell? ⟨B, 1, none⟩ = some (.int .i64 r)) : Calls Try.prog 95 #[.int .i64 x, .pointer (some ⟨B, 0, none⟩)] w fun e w' => e = .returned (.int .i64 (orBit x r)) ∧ w = w' := by
  go_enter Try.func95, Try.ntmps95
  go_wp2
  go_ret
  exact ⟨rfl, rfl⟩
def flF (f : Fl) (r x : Int) : Int :=
  match f with
  | .same => x
  | .fill => orBit x r
  | .one => 1
theorem flow_any (f : Fl) (r x : Int) (hf : f = .fill → 0 ≤ r ∧ r ≤ 3) (B : Nat) (w : World) (hB : w.cell? ⟨B, 1, none⟩ = some (.int .i64 r)) (ff : Nat) (lb : Array Value) (he : f.val B = .func (.func ff) #[] lb) :
    Calls Try.prog ff (#[.int .i64 x] ++ lb) w fun e w' => e = .returned (.int .i64 (flF f r x)) ∧ w = w' := by
  cases f <;> (simp [Fl.val] at he; obtain ⟨rfl, rfl⟩ := he)
  · exact flow_same x w
  · exact flow_fill x r (hf rfl).1 (hf rfl).2 B w hB
  · exact flow_one x w
theorem flow_enter (f : Fl) (B : Nat) (ff : Nat) (lb : Array Value) (he : f.val B = .func (.func ff) #[] lb) : ∀ args w, (callFunc ff args).run Try.prog w = .ok (.enter ff args) w := by
  cases f <;> (simp [Fl.val] at he; obtain ⟨rfl, rfl⟩ := he)
  · exact fun _ _ => by kernel_rfl
  · exact fun _ _ => by kernel_rfl
  · exact fun _ _ => by kernel_rfl
theorem and_both {a x : Int} (ha : -1 ≤ a) (ha' : a ≤ 15) (h0 : 0 ≤ x) (h1 : x ≤ 15) : bits BinOp.and IntKind.i64 a x = both a x := by
  by_cases h : a = -1
  · subst h
    have : fours (fun x => decide (bits BinOp.and IntKind.i64 (-1) x = both (-1) x)) = true := by decide +kernel
    exact of_decide_eq_true (fours_all this h0 h1)
  · have : fours (fun a => fours fun x => decide (bits BinOp.and IntKind.i64 a x = both a x)) = true := by decide +kernel
    exact of_decide_eq_true (fours_all (fours_all this (by omega) ha') h0 h1)
def wayW (l : List S29) (i : Nat) : List Way := (waysL l i).map fun a => (a.1, flF a.2 (rd_T29 l i).f1)
def fullL (l : List S29) : List Int := fullW (wayW l) l.length
theorem code_len {l : List S29} (h : codeB l = true) : 1 ≤ l.length ∧ l.length ≤ 16 := by
  unfold codeB at h; simp at h; omega
theorem code_op {l : List S29} (h : codeB l = true) {i : Nat} (hi : i < l.length) : opP l[i].f0 l[i].f1 l[i].f2 l[i].f3 l[i].f4.f0 l[i].f4.f1 ∧ (hasT l[i].f0 = true → l[i].f3 < l.length) := by
  have h2 : l.any (wrongB l.length) = false := by unfold codeB at h; simp only [Bool.and_eq_true, Bool.not_eq_true'] at h; exact h.2
  have := List.any_eq_false.1 h2 l[i] (List.getElem_mem hi)
  unfold wrongB opS at this
  simp only [Bool.or_eq_true, Bool.not_eq_true', Bool.and_eq_true, decide_eq_true_eq, not_or] at this
  refine ⟨opB_true.1 (by simpa using this.1), fun ht => ?_⟩
  have := this.2
  simp [ht] at this; omega
theorem fills_has {k : Int} : (howR k).f3 = true → hasR k = true :=
  kinds (P := fun k => (howR k).f3 = true → hasR k = true) (fun k hk => by unfold howR; rw [if_neg hk]; intro h; cases h) (by decide) (by decide) (by decide) (by decide) (by decide) (by decide) (by decide) (by decide) (by decide) (by decide) (by decide) (by decide) (by decide) (by decide) k
theorem rd29_get {l : List S29} {i : Nat} (h : i < l.length) : rd_T29 l (i : Int) = l[i] := by
  unfold rd_T29; simp [List.getD_eq_getElem?_getD, List.getElem?_eq_getElem h]
theorem code_way {l : List S29} (h : codeB l = true) {i : Nat} (hi : i < l.length) {a : Int × Fl} (ha : a ∈ waysL l i) : 0 ≤ a.1 ∧ a.1 < l.length ∧ (a.2 = .fill → 0 ≤ (rd_T29 l i).f1 ∧ (rd_T29 l i).f1 ≤ 3) := by
  obtain ⟨⟨h1, h2, h3, h4, h5, h6⟩, ht⟩ := code_op h hi
  unfold waysL arrowsL at ha
  rw [rd29_get hi] at ha ⊢
  rcases List.mem_append.1 ha with ha | ha
  · split at ha
    · cases ha
    · split at ha
      · obtain rfl := List.mem_singleton.1 ha
        refine ⟨by simp; omega, by simp; omega, fun hf => ?_⟩
        have hh : (howR l[i].f0).f3 = true := by
          by_cases e : (howR l[i].f0).f3 = true
          · exact e
          · simp [e] at hf
        rcases h3 with h3 | h3
        · omega
        · exact h3.2
      · cases ha
  · have tt : hasT l[i].f0 = true → 0 ≤ l[i].f3 := fun h => by omega
    split at ha
    · rename_i h5'
      obtain rfl := List.mem_singleton.1 ha
      have h6 : hasT l[i].f0 = true := by rw [h5']; rfl
      exact ⟨tt h6, ht h6, fun hf => by cases hf⟩
    · split at ha
      · rename_i h6
        obtain rfl := List.mem_singleton.1 ha
        exact ⟨tt h6, ht h6, fun hf => by cases hf⟩
      · cases ha
theorem wayW_good {l : List S29} (h : codeB l = true) : GoodW (wayW l) l.length := by
  intro i hi a ha
  obtain ⟨b, hb, rfl⟩ := List.mem_map.1 ha
  obtain ⟨h0, h1, h2⟩ := code_way h hi hb
  refine ⟨h0, h1, fun x hx hx2 => ?_⟩
  obtain ⟨t, f⟩ := b
  cases f with
  | same => exact ⟨hx, hx2⟩
  | fill => exact orBit_range hx hx2 (h2 rfl).1 (h2 rfl).2
  | one => exact ⟨by show (0 : Int) ≤ 1; decide, by show (1 : Int) ≤ 15; decide⟩
def RI (w : World) (g n c : Nat) (out : List Int) (wr : World) : Prop := Kd.R (Kd.int .i64) 3 wr w.heap.size (fun _ => True) (.slice (some ⟨g, 0, none⟩) n c) out ∧ Below w.heap.size w wr
theorem ri_len {w : World} {g n c : Nat} {out : List Int} {wr : World} (h : RI w g n c out wr) : out.length = n := (Kd.R_reads' h.1).1.symm
theorem ri_cell {w : World} {g n c : Nat} {out : List Int} {wr : World} (h : RI w g n c out wr) (i : Int) (h0 : 0 ≤ i) (h1 : i < n) : wr.cell? ⟨g, i.toNat, none⟩ = some (.int .i64 (at_ out i)) ∧ wr.frozen? ⟨g, i.toNat, none⟩ = false := Kd.R_celln 0 h.1 i h0 h1
theorem ri_set {w : World} {g n c : Nat} {out : List Int} {wr : World} (h : RI w g n c out wr) (i : Int) (x : Int) : RI w g n c (out.set i.toNat x) (wr.setCell ⟨g, i.toNat, none⟩ (.int .i64 x)) := by
  have hg : w.heap.size ≤ g := Kd.R_base h.1 g (by simp [Value.ownBlock])
  exact ⟨(Kd.R_putg h.1 i x).1, below_set h.2 hg⟩
theorem ri_below {w : World} {g n c : Nat} {out : List Int} {wr w2 : World} (h : RI w g n c out wr) (hb : Below wr.heap.size wr w2) : RI w g n c out w2 := ⟨Kd.R_below h.1 hb, below_step h.2 hb⟩
theorem ri_lt {w : World} {g n c : Nat} {out : List Int} {wr : World} (h : RI w g n c out wr) : w.heap.size ≤ g ∧ g < wr.heap.size := ⟨Kd.R_base h.1 g (by simp [Value.ownBlock]), Kd.R_lt h.1 g (by simp [Value.ownBlock])⟩
theorem ri_store {ops : Array Oper} {rest : List Oper} {o : Oper} {a : Act} {Q : Exit → Act → World → Prop} {w W : World} {g n c : Nat} {out : List Int} (hN : o.dst = none) (hgd : o.guard = none) (p v : Operand) (ho : o.op = .store 3 p v) (i x : Int) {o' : Nat}
    (haddr : a.eval p = .pointer (some ⟨g, o', none⟩)) (hoff : o' = i.toNat) (hx : a.eval v = .int .i64 x) (HR : RI w g n c out W) (h0 : 0 ≤ i) (h1 : i < n)
    (h : ∀ w1, RI w g n c (out.set i.toNat x) w1 → W.grownBy w1 (some g) → wpList Try.prog ops Q rest a w1) : wpList Try.prog ops Q (o :: rest) a W := by
  have hc := (ri_cell HR i h0 h1).1
  refine Kd.R_store (Kd.int .i64) w.heap.size hN hgd 3 p v ho 3 i 0 out x (.int .i64 x) [.int .i64 x] [.int .i64 (at_ out i)] (fun _ => True) (fun _ => False) haddr (by rw [hoff]; show i.toNat = i.toNat * 1 + 0; omega) hx rfl (by kernel_rfl) (by simp [Value.oneCell']) HR.1 h0 h1 rfl ?_ (by show 0 + 1 ≤ 1; omega) rfl (fun k hk => hk.elim) HR.2 ?_
  · intro j u hu
    cases j with
    | zero =>
      have e : u = .int .i64 (at_ out i) := by simpa using hu.symm
      rw [e]
      show W.cell? ⟨g, i.toNat * 1 + 0, none⟩ = _
      rw [show i.toNat * 1 + 0 = i.toNat by omega]
      exact hc
    | succ j => simp at hu
  · intro w1 k1 k2 k3
    exact h w1 ⟨k1, k2⟩ k3
def But (w1 wr : World) (g : Nat) : Prop := w1.heap.size ≤ wr.heap.size ∧ ∀ b, b < w1.heap.size → b ≠ g → wr.heap[b]? = w1.heap[b]?
theorem but_below {w1 wr w2 : World} {g : Nat} (h : But w1 wr g) (hb : Below wr.heap.size wr w2) : But w1 w2 g := ⟨Nat.le_trans h.1 hb.size, fun b h1 h2 => (hb.block b (Nat.lt_of_lt_of_le h1 h.1)).trans (h.2 b h1 h2)⟩
theorem but_grown {w1 wr w2 : World} {g : Nat} (h : But w1 wr g) (hg : wr.grownBy w2 (some g)) : But w1 w2 g := ⟨Nat.le_trans h.1 hg.size, fun b h1 h2 => (hg.block b (Nat.lt_of_lt_of_le h1 h.1) (fun e => h2 (by injection e))).trans (h.2 b h1 h2)⟩
def PB (l : List S29) (w : World) (g c0 : Nat) (o : List Int) (c : Bool) (wr : World) : Prop :=
  GoodO l.length o ∧ finW (wayW l) l.length o = fullL l ∧ (c = false → passW (wayW l) l.length o = o) ∧ RI w g l.length c0 o wr
def PC (l : List S29) (w : World) (g c0 : Nat) (o : List Int) (j : Nat) (c : Bool) (wr : World) : Prop :=
  c = decide (mu (passW (wayW l) j o) < mu o) ∧ RI w g l.length c0 (passW (wayW l) j o) wr
def PD (l : List S29) (w : World) (g c0 : Nat) (o : List Int) (j m : Nat) (c : Bool) (w1 wr : World) : Prop :=
  c = decide (mu (((wayW l j).take m).foldl (mergeW j) (passW (wayW l) j o)) < mu o) ∧ RI w g l.length c0 (((wayW l j).take m).foldl (mergeW j) (passW (wayW l) j o)) wr ∧ But w1 wr g
set_option maxHeartbeats 8000000 in
theorem full_walk (A0 : Option Addr) (c0 : Nat) (l0 : List S29) (w : World) (hr0 : Kd.C k29 w A0 l0.length l0) (hg : codeB l0 = true) :
    Calls Try.prog 80 #[.slice A0 l0.length c0] w fun e w' => ∃ v, e = .returned v ∧ Kd.R (Kd.int .i64) 3 w' w.heap.size (fun _ => True) v (fullL l0) ∧ Below w.heap.size w w' := by
  obtain ⟨hl1, hl2⟩ := code_len hg
  have HG := Aside0.mk hg
  have HR0 := Aside0.mk hr0
  clear hg hr0
  obtain ⟨n, hn0⟩ : ∃ n, n = l0.length := ⟨_, rfl⟩
  rw [← hn0] at hl1 hl2 ⊢
  have hn := Aside0.mk hn0
  clear hn0
  have hn0 : (0 : Int) < (n : Int) := by omega
  have hnn : 0 < n := by omega
  go_enter Try.func80, Try.ntmps80
  go_wp2_with (first | ((with_reducible refine gate_dst (N := 12) rfl ?_); refine Kd.R_make (Kd.int .i64) _ 3 rfl (N := 12) rfl 32 _ _ rfl (n : Int) rfl rfl Try.underlying32 (.int .i64 0) 8 info3 rfl (by decide) (by omega) 0 (ok := fun _ => True) (okp := fun _ => True) rfl (fun _ hk => hk) trivial (by omega) (by omega) (Below.refl _ _) (Nat.le_refl _) ?_; intro v1 w1 ho5 hb hg_ hnew_; clear hg_ hnew_; rw [Int.toNat_natCast] at ho5; obtain ⟨g, c, eg, gb, gl, hh⟩ := Kd.R_form ho5 (by rw [List.length_replicate]; exact hnn); rw [List.length_replicate] at eg; subst eg; have H1 : Aside0 (RI w g n c (List.replicate n 0) w1) := ⟨ho5, hb⟩; clear ho5 hb gb gl hh))
  go_loopg [15] n (fun gg s15 wr => ∃ k : Nat, k ≤ n ∧ n - k ≤ gg ∧ s15 = .int .i64 (k : Int) ∧ Aside0 (RI w g n c (List.replicate k (-1) ++ List.replicate (n - k) 0) wr))
  case atStart => exact ⟨0, Nat.zero_le _, by omega, rfl, by simpa using H1⟩
  case round =>
    clear H1
    obtain ⟨k, hk, hgg, rfl, H1⟩ := hrel
    by_cases hlt : k < n
    · have hltz : (k : Int) < (n : Int) := by omega
      have h0z : (0 : Int) ≤ (k : Int) := by omega
      obtain ⟨x0, x1⟩ := ri_cell H1.out (k : Int) h0z hltz
      rw [Int.toNat_natCast] at x0 x1
      have H2 : Aside0 (RI w g n c (List.replicate (k + 1) (-1) ++ List.replicate (n - (k + 1)) 0) (wr.setCell ⟨g, k, none⟩ (.int .i64 (-1)))) := ⟨by
        have := ri_set H1.out (k : Int) (-1)
        rw [Int.toNat_natCast] at this
        have e : (List.replicate k (-1) ++ List.replicate (n - k) (0 : Int)).set k (-1) = List.replicate (k + 1) (-1) ++ List.replicate (n - (k + 1)) 0 := by
          rw [List.set_append_right _ _ (by simp), List.length_replicate, Nat.sub_self, show n - k = (n - (k + 1)) + 1 by omega, List.replicate_succ, List.set_cons_zero, List.replicate_succ', List.append_assoc]
          rfl
        rw [← e]; exact this⟩
      go_wp2
      go_roundg (n - (k + 1))
      case measure => omega
      case rel => exact ⟨k + 1, by omega, by omega, by go_num, H2⟩
    · have hltz : ¬ (k : Int) < (n : Int) := by omega
      obtain rfl : k = n := by omega
      go_wp2_with (first | ((with_reducible refine gate_store (t := 3) (p := 23) rfl ?_); refine ri_store rfl rfl (.tmp 23) _ rfl 0 1 rfl rfl rfl H1.out (by omega) (by omega) ?_; intro w2 h2 _; have H2 : Aside0 (RI w g k c (startO k) w2) := (by have e : (List.replicate k (-1) ++ List.replicate (k - k) (0 : Int)).set (Int.toNat 0) 1 = startO k := (by simp [startO]); rw [← e]; exact ⟨h2⟩); clear h2 H1))
      have hl0 := hn.out
      subst hl0
      obtain ⟨n, hn⟩ : ∃ n, n = l0.length := ⟨_, rfl⟩
      have HS : Aside0 (PB l0 w g c (startO l0.length) true w2) := ⟨start_good _, rfl, (fun h => by cases h), H2.out⟩
      have hM := Nat.le_refl (mu (startO l0.length) + 1)
      obtain ⟨M, hM0⟩ : ∃ M, M = mu (startO l0.length) + 1 := ⟨_, rfl⟩
      rw [← hM0] at hM
      go_loopg [5] M (fun gg s5 wr => ∃ (o : List Int) (c5 : Bool), s5 = .bool c5 ∧ mu o + c5.toNat ≤ gg ∧ Aside0 (PB l0 w g c o c5 wr))
      case atStart => exact ⟨startO l0.length, true, rfl, by rw [hM0]; exact Nat.le_refl _, HS⟩
      case round =>
        clear HS hM0 hM H2
        obtain ⟨o, c5, rfl, hgg, HS⟩ := hrel
        cases c5 with
        | false =>
          go_wp2
          go_ret
          obtain ⟨k1, k2, k3, k4⟩ := HS.out
          have e : o = fullL l0 := by rw [← k2, fin_fix (k3 rfl)]
          rw [← e]
          exact ⟨_, rfl, k4.1, k4.2⟩
        | true =>
          obtain ⟨wo, hwo⟩ : ∃ wo : World, wo = wr := ⟨_, rfl⟩
          subst hwo
          obtain ⟨gB, hgB⟩ : ∃ gB : Nat, gB = gk := ⟨_, rfl⟩
          subst hgB
          go_wp2
          have HC0 : Aside0 (PC l0 w g c o 0 false wo) := ⟨by obtain ⟨k1, k2, k3, k4⟩ := HS.out; exact ⟨by simp [passW], k4⟩⟩
          go_loopg [5, 27] l0.length (fun gg s5 s27 wr => ∃ (j : Nat) (c5 : Bool), j ≤ l0.length ∧ l0.length - j ≤ gg ∧ s27 = .int .i64 (j : Int) ∧ s5 = .bool c5 ∧ Aside0 (PC l0 w g c o j c5 wr))
          case atStart => exact ⟨0, false, Nat.zero_le _, Nat.sub_le _ _, rfl, rfl, HC0⟩
          case round =>
            clear HC0
            obtain ⟨j, c5, hj, hgg2, rfl, rfl, HC⟩ := hrel
            by_cases hlt : j < l0.length
            · have hltz : (j : Int) < (l0.length : Int) := by omega
              have h0z : (0 : Int) ≤ (j : Int) := by omega
              obtain ⟨x0, -⟩ := ri_cell HC.out.2 (j : Int) h0z hltz
              rw [Int.toNat_natCast] at x0
              obtain ⟨x, hx⟩ : ∃ x, x = at_ (passW (wayW l0) j o) j := ⟨_, rfl⟩
              rw [← hx] at x0
              by_cases hneg : x < 0
              · have HC2 : Aside0 (PC l0 w g c o (j + 1) c5 wr) := ⟨by
                  have e : passW (wayW l0) (j + 1) o = passW (wayW l0) j o := by rw [pass_succ]; unfold stepW; rw [if_pos (by rw [← hx]; exact hneg)]
                  unfold PC; rw [e]; exact HC.out⟩
                clear hx HC
                go_wp2
                go_roundg (l0.length - (j + 1))
                case measure => omega
                case rel => exact ⟨j + 1, c5, by omega, by omega, by go_num, rfl, HC2⟩
              · have hx1 := Aside0.mk hx
                have hng := Aside0.mk hneg
                have hneg0 : decide (x < 0) = false := decide_eq_false hneg
                have hAr := impl_arrows A0 c0 l0 j wr (Kd.C_below HR0.out HC.out.2.2) hlt hl2
                clear hx hneg
                obtain ⟨wc, hwc⟩ : ∃ wc : World, wc = wr := ⟨_, rfl⟩
                subst hwc
                obtain ⟨gC, hgC⟩ : ∃ gC : Nat, gC = gk := ⟨_, rfl⟩
                subst hgC
                go_wp2_with (go_at_call 77; refine hAr.mono ?_; rintro e w3 ⟨v, rfl, hown, hbox, hb1⟩; obtain ⟨A, ca, rfl, hA, hcells⟩ := way_at hown)
                have HD0 : Aside0 (PD l0 w g c o j 0 c5 w3 w3) := ⟨⟨HC.out.1, ri_below HC.out.2 hb1, Nat.le_refl _, fun _ _ _ => rfl⟩⟩
                have hBox := blk_cell hbox 1
                have hgl := (ri_lt HC.out.2).2
                have HF := Aside0.mk (fun (m : Nat) (hm : m < (waysL l0 j).length) => code_way HG.out hlt (List.getElem_mem hm))
                have h3 := Aside0.mk hb1.size
                have hlb := Aside0.mk (blk_lt hbox)
                have h2w := ways_two l0 j
                clear hAr hown hbox hb1 hA
                have HCells := Aside0.mk hcells
                have HBox := Aside0.mk hBox
                clear hcells hBox x0
                go_loopg [5, 39] (waysL l0 j).length (fun gg s5 s39 wr => ∃ (m : Nat) (c5 : Bool), m ≤ (waysL l0 j).length ∧ (waysL l0 j).length - m ≤ gg ∧ s39 = .int .i64 (m : Int) ∧ s5 = .bool c5 ∧ Aside0 (PD l0 w g c o j m c5 w3 wr))
                case atStart => exact ⟨0, c5, Nat.zero_le _, Nat.sub_le _ _, rfl, rfl, HD0⟩
                case round =>
                  clear HD0
                  obtain ⟨m, d5, hm, hgg3, rfl, rfl, HD⟩ := hrel
                  by_cases hmt : m < (waysL l0 j).length
                  · have hmtz : (m : Int) < ((waysL l0 j).length : Int) := by omega
                    have h0m : (0 : Int) ≤ (m : Int) := by omega
                    obtain ⟨g2, rfl, hg1, hg2, y0, y1⟩ := HCells.out m hmt
                    obtain ⟨ht0, ht1, hfl⟩ := HF.out m hmt
                    obtain ⟨D1, D2, D3, D4⟩ := HD.out
                    have tr : ∀ (b k : Nat) (u : Value), b < w3.heap.size → b ≠ g → w3.cell? ⟨b, k, none⟩ = some u → wr.cell? ⟨b, k, none⟩ = some u := fun b k u h1 h2 h3 => by
                      rw [← h3]; simp only [World.cell?, D4 b h1 h2]
                    replace y0 := tr _ _ _ hg2 (by omega) y0
                    replace y1 := tr _ _ _ hg2 (by omega) y1
                    have yB := tr _ _ _ hlb.out (by omega) (show w3.cell? ⟨wc.heap.size, 1, none⟩ = some (.int .i64 (rd_T29 l0 j).f1) from HBox.out)
                    obtain ⟨q, hq0⟩ : ∃ q, q = ((wayW l0 j).take m).foldl (mergeW j) (passW (wayW l0) j o) := ⟨_, rfl⟩
                    rw [← hq0] at D1 D2
                    have hwm : m < (wayW l0 j).length := by simp [wayW]; exact hmt
                    have hway : (wayW l0 j)[m] = ((waysL l0 j)[m].1, flF (waysL l0 j)[m].2 (rd_T29 l0 j).f1) := by simp [wayW]
                    have hq1 : ((wayW l0 j).take (m + 1)).foldl (mergeW j) (passW (wayW l0) j o) = mergeW j q (wayW l0 j)[m] := by
                      rw [List.take_succ_eq_append_getElem hwm, List.foldl_append, ← hq0]; rfl
                    obtain ⟨gp, dp⟩ := passes_good (wayW_good HG.out) HS.out.1 j (by omega)
                    obtain ⟨gq, dq, zq⟩ := merges_good (wayW_good HG.out) hlt ((wayW l0 j).take m) (fun _ h => List.mem_of_mem_take h) _ gp (by rw [← hx1.out]; have := hng.out; omega)
                    rw [← hq0] at gq dq zq
                    obtain ⟨gq2, dq2, -⟩ := merge_good (wayW_good HG.out) gq hlt (List.getElem_mem hwm) zq
                    have hmu1 := (dp.trans dq)
                    rw [hway] at gq2 dq2 hq1
                    obtain ⟨to_, hto⟩ : ∃ x, x = (waysL l0 j)[m].1 := ⟨_, rfl⟩
                    obtain ⟨f, hf⟩ : ∃ x, x = (waysL l0 j)[m].2 := ⟨_, rfl⟩
                    obtain ⟨rr, hrr⟩ : ∃ x, x = (rd_T29 l0 j).f1 := ⟨_, rfl⟩
                    rw [← hto] at y0 ht0 ht1 gq2 dq2 hq1
                    rw [← hf] at y1 hfl gq2 dq2 hq1
                    rw [← hrr] at yB hfl gq2 dq2 hq1
                    obtain ⟨ff, lb, hfn⟩ := val_func wc.heap.size f
                    rw [hfn] at y1
                    obtain ⟨u, hu⟩ : ∃ u, u = at_ q j := ⟨_, rfl⟩
                    obtain ⟨z, hz⟩ : ∃ z, z = at_ q to_ := ⟨_, rfl⟩
                    obtain ⟨v0, -⟩ := ri_cell D2 (j : Int) h0z hltz
                    obtain ⟨v1, v2⟩ := ri_cell D2 to_ ht0 ht1
                    rw [Int.toNat_natCast, ← hu] at v0
                    rw [← hz] at v1
                    have hu15 := (at_good gq j).2
                    have hz15 := at_good gq to_
                    rw [← hu] at zq hu15
                    rw [← hz] at hz15
                    have hfr : 0 ≤ flF f rr u ∧ flF f rr u ≤ 15 := by
                      have := (wayW_good HG.out j hlt _ (List.getElem_mem hwm)).2.2 u zq hu15
                      rw [hway, ← hf, ← hrr] at this
                      exact this
                    have hand := and_both hz15.1 hz15.2 hfr.1 hfr.2
                    have hcall := fun (W : World) (hB : W.cell? ⟨wc.heap.size, 1, none⟩ = some (.int .i64 rr)) => flow_any f rr u hfl wc.heap.size W hB ff lb hfn
                    have eg := flow_enter f wc.heap.size ff lb hfn
                    obtain ⟨fx, hfx⟩ : ∃ fx, fx = flF f rr u := ⟨_, rfl⟩
                    rw [← hfx] at hcall hand hfr
                    obtain ⟨nw, hnw⟩ : ∃ nw, nw = both z fx := ⟨_, rfl⟩
                    rw [← hnw] at hand
                    have hmg : mergeW j q (to_, flF f rr) = q.set to_.toNat nw := by
                      show q.set to_.toNat (both (at_ q to_) (flF f rr (at_ q j))) = _
                      rw [← hu, ← hz, ← hfx, ← hnw]
                    rw [hmg] at gq2 dq2 hq1
                    have HQ := Aside0.mk hq1
                    have HM := Aside0.mk hmu1
                    have DQ := Aside0.mk dq2
                    have HD1 := Aside0.mk D1
                    have HR1 := Aside0.mk D2
                    have HBt : Aside0 (But w3 wr g) := ⟨D3, D4⟩
                    have HZ := Aside0.mk hz
                    clear hq1 hmu1 dq2 D1 D2 D3 D4 hmg hq0 hway dp dq gp gq gq2 hto hf hrr hu hz hfn hfx hnw tr HD hfr hfl hz15 hwm
                    have hbl := below_alloc (Below.refl wr.heap.size wr) (.cells #[.int .i64 to_, .func (.func ff) #[] lb] 77)
                    have nb := blk_new wr (.cells #[.int .i64 to_, .func (.func ff) #[] lb] 77)
                    have HA5 := Aside0.mk hbl
                    have tr2 : ∀ (b k : Nat) (u : Value), wr.cell? ⟨b, k, none⟩ = some u → (wr.alloc (.cells #[.int .i64 to_, .func (.func ff) #[] lb] 77)).cell? ⟨b, k, none⟩ = some u := fun b k u h => (hbl.cell (World.block_lt_of_cell? wr _ h)).trans h
                    have hfz : (wr.alloc (.cells #[.int .i64 to_, .func (.func ff) #[] lb] 77)).frozen? ⟨g, to_.toNat, none⟩ = false := (hbl.frozen (World.block_lt_of_cell? wr _ v1)).trans v2
                    have p0 := tr2 _ _ _ v0
                    have p1 := tr2 _ _ _ v1
                    have pB := tr2 _ _ _ yB
                    have n0 := (blk_cell nb 0).trans (show _ = some (Value.int .i64 to_) from rfl)
                    have n1 := (blk_cell nb 1).trans (show _ = some (Value.func (.func ff) #[] lb) from rfl)
                    have hcl := fun nn => hcall ((wr.alloc (.cells #[.int .i64 to_, .func (.func ff) #[] lb] 77)).drewN nn) pB
                    clear hbl nb tr2 v0 v1 v2 yB hcall pB
                    go_wp2
                    obtain ⟨w5, hw5⟩ : ∃ w5, w5 = wr.alloc (.cells #[.int .i64 to_, .func (.func ff) #[] lb] 77) := ⟨_, rfl⟩
                    rw [← hw5] at HA5 hfz p0 p1 n0 n1 hcl ⊢
                    clear hw5
                    go_quiet ((go_at_fn ff; exact Calls.quiet_of_same ((hcl _).mono fun e w' h => ⟨h.1, h.2.symm⟩)))
                    have HB6 := Aside0.mk (below_step HA5.out (pw_below_drewN (Below.refl w5.heap.size w5) nq))
                    have HT := Aside0.mk hfz
                    by_cases hqz : nw = z
                    · have hqb : (nw != z) = false := by simp [hqz]
                      have hqe : (nw == z) = true := by simp [hqz]
                      have HE : Aside0 (q.set to_.toNat nw = q) := ⟨by
                        rw [hqz, HZ.out]
                        have := set_at (o := q) (i := to_.toNat)
                        rwa [Int.toNat_of_nonneg ht0] at this⟩
                      have HD2 : Aside0 (PD l0 w g c o j (m + 1) d5 w3 (w5.drewN nq)) := ⟨by
                        unfold PD; rw [HQ.out, HE.out]
                        exact ⟨HD1.out, ri_below HR1.out HB6.out, but_below HBt.out HB6.out⟩⟩
                      clear hqz
                      go_wp2
                      go_roundg ((waysL l0 j).length - (m + 1))
                      case measure => omega
                      case rel => exact ⟨m + 1, d5, by omega, by omega, by go_num, rfl, HD2⟩
                    · have hqb : (nw != z) = true := by simp [hqz]
                      have hqe : (nw == z) = false := by simp [hqz]
                      have HE : Aside0 (mu (q.set to_.toNat nw) < mu o) := ⟨by
                        have hne : q.set to_.toNat nw ≠ q := fun e => hqz (by
                          have := at_set_self (o := q) (i := to_) (x := nw) (by rw [ri_len HR1.out]; omega)
                          rw [e] at this; rw [HZ.out, this])
                        have h1 : mu (q.set to_.toNat nw) < mu q := by
                          rcases DQ.out with h | h
                          · exact absurd h hne
                          · exact h
                        rcases HM.out with h | h
                        · have := congrArg mu h; omega
                        · omega⟩
                      clear hqz
                      go_wp2_with (first | ((with_reducible refine gate_store (t := 3) (p := 67) rfl ?_); refine ri_store rfl rfl (.tmp 67) _ rfl to_ nw rfl rfl rfl (ri_below HR1.out HB6.out) (by omega) (by omega) ?_; intro w6 h6 g6; have HD2 : Aside0 (PD l0 w g c o j (m + 1) true w3 w6) := ⟨(by unfold PD; rw [HQ.out]; exact ⟨(decide_eq_true HE.out).symm, h6, but_grown (but_below HBt.out HB6.out) g6⟩)⟩; clear h6 g6))
                      go_roundg ((waysL l0 j).length - (m + 1))
                      case measure => omega
                      case rel => exact ⟨m + 1, true, by omega, by omega, by go_num, rfl, HD2⟩
                  · have hmtz : ¬ (m : Int) < ((waysL l0 j).length : Int) := by omega
                    obtain rfl : m = (waysL l0 j).length := by omega
                    have HC2 : Aside0 (PC l0 w g c o (j + 1) d5 wr) := ⟨by
                      obtain ⟨D1, D2, D3⟩ := HD.out
                      have e : passW (wayW l0) (j + 1) o = ((wayW l0 j).take (waysL l0 j).length).foldl (mergeW j) (passW (wayW l0) j o) := by
                        rw [pass_succ]; unfold stepW
                        rw [if_neg (by rw [← hx1.out]; have := hng.out; omega), List.take_of_length_le (by simp [wayW])]
                      unfold PC; rw [e]; exact ⟨D1, D2⟩⟩
                    go_wp2
                    go_roundg (l0.length - (j + 1))
                    case measure => omega
                    case rel => exact ⟨j + 1, d5, by omega, by omega, by go_num, rfl, HC2⟩
            · have hltz : ¬ (j : Int) < (l0.length : Int) := by omega
              obtain rfl : j = l0.length := by omega
              obtain ⟨k1, k2, k3, k4⟩ := HS.out
              obtain ⟨g1, d1⟩ := passes_good (wayW_good HG.out) k1 l0.length (Nat.le_refl _)
              obtain ⟨e1, r1⟩ := HC.out
              have hmu : mu (passW (wayW l0) l0.length o) + c5.toNat < mu o + 1 := by
                rcases d1 with d1 | d1
                · rw [d1] at e1 ⊢; rw [e1]; simp
                · have : c5 = true := by rw [e1]; exact decide_eq_true d1
                  rw [this]; simpa using d1
              have HS2 : Aside0 (PB l0 w g c (passW (wayW l0) l0.length o) c5 wr) := ⟨g1, by rw [fin_pass (wayW_good HG.out) k1]; exact k2, fun hc => by
                rcases d1 with d1 | d1
                · rw [d1, d1]
                · rw [hc] at e1; have := of_decide_eq_false e1.symm; omega, r1⟩
              clear k1 k2 k3 k4 g1 d1 e1 r1 HS HC
              have hgg : mu o + 1 ≤ gB := hgg
              go_wp2
              go_roundg (mu (passW (wayW l0) l0.length o) + c5.toNat)
              case measure => omega
              case rel => exact ⟨_, c5, rfl, Nat.le_refl _, HS2⟩
end Go.Proofs.Ytmklpbmlgjkbiaa.PS
end
section
namespace Go.Proofs.Ytmklpbmlgjkbiaa.PS
open Go.RowKit Go.Proofs.YtmklpbmlgjkbiaaW.PrintWords Go.Proofs.YtmklpbmlgjkbiaaW.PrintLast
set_option linter.unusedVariables false
set_option linter.unusedSimpArgs false
set_option maxRecDepth 100000
set_option maxHeartbeats 4000000 in
theorem uses_no (k r s t vk vn : Int) (w : World) (hn : Aside0 (opB k r s t vk vn = false)) :
    Calls Try.prog 27 #[.agg #[.int .i64 k, .int .i64 r, .int .i64 s, .int .i64 t, .int .i64 vk, .int .i64 vn]] w fun e w' => e = .returned (.slice none 0 0) ∧ Below w.heap.size w w' := by
  have hOk := fun W : World => impl_OpOk.calls k r s t vk vn false W (by rw [← hn.out]; rfl)
  go_enter Try.func27, Try.ntmps27
  go_wp2_with (go_at_call 25; refine (hOk _).mono ?_; rintro e w' ⟨rfl, hb⟩)
  go_ret
  exact ⟨rfl, below_step (below_alloc (Below.refl _ _) _) hb⟩
def pickL (r s : Int) (l : List UInt8) : List Int := l.map fun c => if c = 82 then r else s
theorem pickL_snoc (r s : Int) (l : List UInt8) (c : UInt8) : pickL r s (l ++ [c]) = pickL r s l ++ [if c = 82 then r else s] := by simp [pickL]
theorem take_snoc (s : ByteArray) (k : Nat) (h : k < s.size) : s.data.toList.take (k + 1) = s.data.toList.take k ++ [s[k]] := by
  rw [List.take_succ_eq_append_getElem (by simpa using h)]; rfl
def UsesRel (w : World) (it : Nat) (rd : ByteArray) (k r s t vk vn : Int) (v : Value) (wr : World) : Prop :=
  ∃ pos, pos ≤ rd.size ∧ wr.heap[it]? = some (.stringIter rd pos) ∧ wr.heap[w.heap.size]? = some (.cells #[.int .i64 k, .int .i64 r, .int .i64 s, .int .i64 t, .int .i64 vk, .int .i64 vn] 29 (0, 0)) ∧
    wr.ownsRow (it + 1) 3 1 v pos ((pickL r s (rd.data.toList.take pos)).map (Value.int .i64)) ∧ Below w.heap.size w wr
theorem uses_step {w wq w1 : World} {it pos : Nat} {rd : ByteArray} {k r s t vk vn : Int} {v v' : Value} {xs : List Value} (X : Int) (hw2 : w.heap.size < it) (hqi : wq.heap[it]? = some (.stringIter rd (pos + 1)))
    (hqb : wq.heap[w.heap.size]? = some (.cells #[.int .i64 k, .int .i64 r, .int .i64 s, .int .i64 t, .int .i64 vk, .int .i64 vn] 29 (0, 0))) (hqbl : Below w.heap.size w wq)
    (hl : (pickL r s (rd.data.toList.take (pos + 1))).map (Value.int .i64) = xs ++ [.int .i64 X]) (hlt : pos < rd.size) (hown : (wq.alloc (.cells #[.int .i64 X] 3)).ownsRow (it + 1) 3 1 v pos xs) (hown' : w1.ownsRow (it + 1) 3 1 v' (pos + 1) (xs ++ [.int .i64 X])) (hgrow : (wq.alloc (.cells #[.int .i64 X] 3)).grownBy w1 v.ownBlock) :
    UsesRel w it rd k r s t vk vn v' w1 := by
  have hne : ∀ g, g ≤ it → some g ≠ v.ownBlock := fun g hg e => by have := own_base hown g e.symm; omega
  refine ⟨pos + 1, hlt, blk_grown (blk_alloc hqi _) hgrow (hne _ (Nat.le_refl _)), blk_grown (blk_alloc hqb _) hgrow (hne _ (Nat.le_of_lt hw2)), by rw [hl]; exact hown', ?_⟩
  exact (below_alloc hqbl _).grown hgrow (below_alloc hqbl _).size (fun b hb => by have := own_base hown b hb; omega)
theorem uses_measure {wr wq w1 : World} {it pos : Nat} {rd : ByteArray} {v : Value} {X : Int} {xs : List Value} (hqi : wq.heap[it]? = some (.stringIter rd (pos + 1))) (hown : (wq.alloc (.cells #[.int .i64 X] 3)).ownsRow (it + 1) 3 1 v pos xs) (hgrow : (wq.alloc (.cells #[.int .i64 X] 3)).grownBy w1 v.ownBlock) (hit : wr.heap[it]? = some (.stringIter rd pos)) (hlt : pos < rd.size) :
    rd.size - w1.iterPos it < rd.size - wr.iterPos it := by
  have hne : some it ≠ v.ownBlock := fun e => by have := own_base hown it e.symm; omega
  rw [iterPos_of hit, iterPos_of (blk_grown (blk_alloc hqi _) hgrow hne)]
  omega
set_option maxHeartbeats 4000000 in
theorem uses_yes (k r s t vk vn : Int) (x : S66) (rd : ByteArray) (w : World) (hx : Aside0 (x = howR k)) (hy : Aside0 (opB k r s t vk vn = true)) (hr : Aside0 (x.f2 = rd)) (hsz : rd.size ≤ 2) (ha : Aside0 (∀ i (h : i < rd.size), rd[i] = 82 ∨ rd[i] = 83)) :
    Calls Try.prog 27 #[.agg #[.int .i64 k, .int .i64 r, .int .i64 s, .int .i64 t, .int .i64 vk, .int .i64 vn]] w fun e w' => ∃ v0_ : Value, e = .returned v0_ ∧ w'.ownsRow w.heap.size 3 1 v0_ rd.size ((pickL r s rd.data.toList).map (Value.int .i64)) ∧ Below w.heap.size w w' := by
  have hOk := fun W : World => impl_OpOk.calls k r s t vk vn true W (by rw [← hy.out]; rfl)
  have hHow := fun W : World => impl_Op_how.calls k r s t vk vn x.f0 x.f1 rd x.f3 W (by rw [← hr.out, hx.out]; rfl)
  have hfd : ∀ (a b c d : Value) (W : World), Sem.run Try.prog (Instr.field 66 (.agg #[a, b, c, d]) 2) W = .ok c W := fun _ _ _ _ _ => by kernel_rfl
  obtain ⟨i0, hi, hz0, hz1, hz2⟩ := info_parts info3
  have BK : Aside0 ((w.alloc (.cells #[.int .i64 k, .int .i64 r, .int .i64 s, .int .i64 t, .int .i64 vk, .int .i64 vn] 29)).heap[w.heap.size]? = some (.cells #[.int .i64 k, .int .i64 r, .int .i64 s, .int .i64 t, .int .i64 vk, .int .i64 vn] 29 (0, 0))) := ⟨blk_new _ _⟩
  have HB := Aside0.mk (Below.refl w.heap.size w)
  go_enter Try.func27, Try.ntmps27
  go_wp2_with (first | (go_at_call 25; refine (hOk _).mono ?_; rintro e w' ⟨rfl, hb⟩; obtain ⟨b1, b2⟩ := bcell hb; have hz := hb.size; have HB := Aside0.mk (below_step (below_alloc HB.out _) hb); have BK := Aside0.mk (blk_below BK.out hb)) | (go_at_call 67; refine (hHow _).mono ?_; rintro e w'2 ⟨rfl, hb2⟩; have HB := Aside0.mk (below_step HB.out hb2); have BK := Aside0.mk (blk_below BK.out hb2); clear b1 b2 hz hb hb2))
  go_loopw [3] (fun v wr => UsesRel w w'2.heap.size rd k r s t vk vn v wr) (fun _ wr => rd.size - wr.iterPos w'2.heap.size)
  case atStart =>
    exact ⟨0, Nat.zero_le _, World.iter_heap _ _ _, blk_alloc BK.out _, World.ownsRow_nil _ _ _ _, below_alloc HB.out _⟩
  case round =>
    obtain ⟨pos, hp, hit0, hbk0, hown0, hbl0⟩ := hrel
    have hit := Aside0.mk hit0; have hbk := Aside0.mk hbk0; have hbl := Aside0.mk hbl0; have hownA := Aside0.mk hown0
    have hw2 : w.heap.size < w'2.heap.size := by have := blk_lt BK.out; exact this
    clear hit0 hbk0 hbl0 hown0
    by_cases hlt : pos < rd.size
    · have hnx := fun ty => Lib.run_next_ascii_at (P := Try.prog) wr w'2.heap.size rd pos ty hit.out hlt (by rcases ha.out pos hlt with h | h <;> rw [h] <;> decide)
      have hqi : Aside0 ((wr.iterAt w'2.heap.size rd (pos + 1)).heap[w'2.heap.size]? = some (.stringIter rd (pos + 1))) := ⟨Lib.iterAt_heap _ _ _ _ _ hit.out⟩
      have hqb : Aside0 ((wr.iterAt w'2.heap.size rd (pos + 1)).heap[w.heap.size]? = some (.cells #[.int .i64 k, .int .i64 r, .int .i64 s, .int .i64 t, .int .i64 vk, .int .i64 vn] 29 (0, 0))) := ⟨(Lib.iterAt_other _ _ _ _ _ (Nat.ne_of_lt hw2)).trans hbk.out⟩
      have hqbl : Aside0 (Below w.heap.size w (wr.iterAt w'2.heap.size rd (pos + 1))) := ⟨Lib.below_iterAt hbl.out (Nat.le_of_lt hw2) _ _⟩
      have hown := ownsRow_iterAt hownA.out (Nat.lt_succ_self w'2.heap.size) rd (pos + 1)
      have hsize : w'2.heap.size < (wr.iterAt w'2.heap.size rd (pos + 1)).heap.size := blk_lt hqi.out
      generalize wr.iterAt w'2.heap.size rd (pos + 1) = wq at hnx hqi hqb hqbl hown hsize
      rcases ha.out pos hlt with hc | hc
      all_goals rw [hc] at hnx
      · have hcv : Aside0 ((if rd[pos] = 82 then r else s) = r) := ⟨by rw [hc]; rfl⟩
        clear hc
        obtain ⟨hq1, hq2⟩ : wq.cell? ⟨w.heap.size, 1, none⟩ = some (.int .i64 r) ∧ wq.cell? ⟨w.heap.size, 2, none⟩ = some (.int .i64 s) := ⟨(blk_cell hqb.out 1).trans rfl, (blk_cell hqb.out 2).trans rfl⟩
        go_wp2_with (first | (at_builtin; refine wpList_append_own _ rfl _ _ 32 rfl (w'2.heap.size + 1) 3 i0 (.int .i64 0) 1 8 Try.underlying32 hi hz0 hz1 hz2 rfl (by decide) _ _ _ rfl (hown.alloc _) ⟨wq.heap.size, 0, none⟩ 1 1 [.int .i64 r] rfl rfl (cell_one_new _ _ _) (by simp [Value.oneCell']) (by unfold maxLen; omega) (by omega) (by simp; omega) ?_; intro v' w1 hown' hgrow _))
        go_roundw
        case rel => exact uses_step r hw2 hqi.out hqb.out hqbl.out (by rw [take_snoc rd pos hlt, pickL_snoc, hcv.out]; simp) hlt (hown.alloc _) hown' hgrow
        case measure => exact uses_measure hqi.out (hown.alloc _) hgrow hit.out hlt
      · have hcv : Aside0 ((if rd[pos] = 82 then r else s) = s) := ⟨by rw [hc]; rfl⟩
        clear hc
        obtain ⟨hq1, hq2⟩ : wq.cell? ⟨w.heap.size, 1, none⟩ = some (.int .i64 r) ∧ wq.cell? ⟨w.heap.size, 2, none⟩ = some (.int .i64 s) := ⟨(blk_cell hqb.out 1).trans rfl, (blk_cell hqb.out 2).trans rfl⟩
        go_wp2_with (first | (at_builtin; refine wpList_append_own _ rfl _ _ 32 rfl (w'2.heap.size + 1) 3 i0 (.int .i64 0) 1 8 Try.underlying32 hi hz0 hz1 hz2 rfl (by decide) _ _ _ rfl (hown.alloc _) ⟨wq.heap.size, 0, none⟩ 1 1 [.int .i64 s] rfl rfl (cell_one_new _ _ _) (by simp [Value.oneCell']) (by unfold maxLen; omega) (by omega) (by simp; omega) ?_; intro v' w1 hown' hgrow _))
        go_roundw
        case rel => exact uses_step s hw2 hqi.out hqb.out hqbl.out (by rw [take_snoc rd pos hlt, pickL_snoc, hcv.out]; simp) hlt (hown.alloc _) hown' hgrow
        case measure => exact uses_measure hqi.out (hown.alloc _) hgrow hit.out hlt
    · have hnx := fun ty => Lib.run_next_end_at (P := Try.prog) wr w'2.heap.size rd pos ty hit.out hlt
      obtain rfl : pos = rd.size := by omega
      go_wp2
      go_ret
      refine ⟨_, rfl, ?_, hbl.out⟩
      have := hownA.out
      rw [List.take_of_length_le (by simp)] at this
      exact own_weaken this (by omega)
def readsB (k : Int) : ByteArray := (howR k).f2
theorem reads_ok (k : Int) : (readsB k).size ≤ 2 ∧ (∀ i (h : i < (readsB k).size), (readsB k)[i] = 82 ∨ (readsB k)[i] = 83) := by
  refine kinds (P := fun k => (readsB k).size ≤ 2 ∧ (∀ i (h : i < (readsB k).size), (readsB k)[i] = 82 ∨ (readsB k)[i] = 83)) (fun k hk => ?_) (by decide) (by decide) (by decide) (by decide) (by decide) (by decide) (by decide) (by decide) (by decide) (by decide) (by decide) (by decide) (by decide) (by decide) k
  unfold readsB howR
  rw [if_neg hk]
  exact ⟨by decide, by decide⟩
theorem reads_eq (k r s : Int) : pickL r s (readsB k).data.toList = usesL k r s := by
  refine kinds (P := fun k => pickL r s (readsB k).data.toList = usesL k r s) (fun k hk => ?_) rfl rfl rfl rfl rfl rfl rfl rfl rfl rfl rfl rfl rfl rfl k
  unfold readsB howR usesL
  rw [if_neg hk, if_neg (by omega), if_neg (by omega), if_neg (by omega)]; rfl
theorem impl_OpUses.calls (k r s t vk vn : Int) (l : List Int) (w : World) (h : usesV.f k r s t vk vn = some l) :
    Calls Try.prog 27 #[.agg #[.int .i64 k, .int .i64 r, .int .i64 s, .int .i64 t, .int .i64 vk, .int .i64 vn]] w fun e w' => ∃ v0_ : Value, e = .returned (v0_) ∧ Kd.R (Kd.int .i64) 3 w' w.heap.size (fun _ => True) v0_ l ∧ Below w.heap.size w w' := by
  have h := Option.some.inj h
  by_cases ho : opB k r s t vk vn = true
  · rw [if_pos ho] at h
    obtain ⟨h1, h2⟩ := reads_ok k
    refine (uses_yes k r s t vk vn (howR k) (readsB k) w ⟨rfl⟩ ⟨ho⟩ ⟨rfl⟩ h1 ⟨h2⟩).mono ?_
    rintro e w' ⟨v, rfl, hown, hb⟩
    refine ⟨v, rfl, ?_, hb⟩
    rw [reads_eq, h] at hown
    have hl : (readsB k).size = l.length := by rw [← h, ← reads_eq k r s]; simp [pickL]
    rw [hl] at hown
    exact Kd.R_of_own hown (fun _ _ => trivial)
  · rw [if_neg ho] at h
    subst h
    refine (uses_no k r s t vk vn w ⟨by simpa using ho⟩).mono ?_
    rintro e w' ⟨rfl, hb⟩
    exact ⟨_, rfl, Kd.R_nil _ _ _ _ _, hb⟩
end Go.Proofs.Ytmklpbmlgjkbiaa.PS
end
section
namespace Go.Proofs.Ytmklpbmlgjkbiaa.PS
open Go.RowKit Go.Proofs.YtmklpbmlgjkbiaaW.PrintWords Go.Proofs.YtmklpbmlgjkbiaaW.PrintLast
set_option linter.unusedVariables false
set_option linter.unusedSimpArgs false
set_option maxRecDepth 100000
def freeB (x s : Int) : Bool := bits BinOp.and IntKind.i64 (x / 2 ^ s.toNat) 1 == 0
theorem slot_walk (x : Int) (s : Int) (hs : 0 ≤ s) (hs2 : s ≤ 3) (B : Nat) (w : World) (hB : w.cell? ⟨B, 0, none⟩ = some (.int .i64 x)) : Calls Try.prog 84 #[.int .i64 s, .pointer (some ⟨B, 0, none⟩)] w fun e w' => e = .returned (.bool (freeB x s)) ∧ w = w' := by
  go_enter Try.func84, Try.ntmps84
  go_wp2
  go_ret
  exact ⟨rfl, rfl⟩
def FoundIn (p : Int → Bool) (l : List Int) (i : Int) : Prop := (0 ≤ i ∧ l.any p = true) ∨ (i = -1 ∧ l.any p = false)
theorem foundn_yes {p : Int → Bool} {l : List Int} {kk : Nat} (h : kk < l.length) (hp : p (rd l kk) = true) : FoundIn p l kk := by
  refine .inl ⟨by omega, List.any_eq_true.2 ⟨rd l kk, ?_, hp⟩⟩
  rw [rdn_at l kk h]
  exact List.getElem_mem h
theorem foundn_no {p : Int → Bool} {l : List Int} (h : ∀ j, j < l.length → p (rd l (j : Nat)) = false) : FoundIn p l (-1) := by
  refine .inr ⟨rfl, List.any_eq_false.2 fun x hx => ?_⟩
  obtain ⟨j, hj, rfl⟩ := List.mem_iff_getElem.1 hx
  have := h j hj
  rw [rdn_at l j hj] at this
  simpa using this
set_option maxHeartbeats 4000000 in
theorem index_fn (p : Int → Bool) (g : Nat) (lb : Array Value) (eg : ∀ args w, (callFunc g args).run Try.prog w = .ok (.enter g args) w) (A0 : Option Addr) (c0 : Nat) (l0 : List Int) (w : World)
    (hr0 : Kd.C (Kd.int .i64) w A0 l0.length l0)
    (hp : ∀ (W : World) (x : Int), x ∈ l0 → Below w.heap.size w W → Calls Try.prog g (#[.int .i64 x] ++ lb) W fun e w' => e = .returned (.bool (p x)) ∧ Below w.heap.size w w') :
    Calls Try.prog 100 #[.slice A0 l0.length c0, .func (.func g) #[] lb] w fun e w' => ∃ i, e = .returned (.int .i64 i) ∧ FoundIn p l0 i ∧ Below w.heap.size w w' := by
  have hm := Kd.C_max hr0
  have HR0 := Aside0.mk hr0
  clear hr0
  go_enter Try.func100, Try.ntmps100
  go_wp2
  go_loopg [5, 8] l0.length (fun gg _ s8 wr => ∃ kk : Nat, kk ≤ l0.length ∧ l0.length - kk ≤ gg ∧ s8 = .int .i64 kk ∧ Aside (Below w.heap.size w wr) ∧ Aside (∀ j, j < kk → p (rd l0 (j : Nat)) = false))
  case atStart => exact ⟨0, Nat.zero_le _, by omega, rfl, Below.refl _ w, fun j hj => absurd hj (Nat.not_lt_zero _)⟩
  case round =>
    obtain ⟨kk, hkk, hgg, rfl, BW, A⟩ := hrel
    by_cases hlt : kk < l0.length
    · have hltz : (kk : Int) < (l0.length : Int) := by omega
      have h0z : 0 ≤ (kk : Int) := by omega
      obtain ⟨ad, e, x0⟩ := Kd.at_int HR0.out (kk : Int) h0z hltz
      subst e
      rw [Int.toNat_natCast] at x0
      replace x0 := (BW.out.cell (World.block_lt_of_cell? w _ x0)).trans x0
      have hcall := hp wr (rd l0 (kk : Int)) (by rw [rdn_at l0 kk hlt]; exact List.getElem_mem hlt) BW.out
      clear hp
      obtain ⟨y, hy0⟩ : ∃ y, y = rd l0 (kk : Int) := ⟨_, rfl⟩
      rw [← hy0] at hcall x0
      have hy := Aside0.mk hy0
      clear hy0
      cases hq : p y with
      | true =>
        rw [hq] at hcall
        go_wp2_with (go_at_fn g; refine hcall.mono ?_; rintro e w' ⟨rfl, hb'⟩)
        go_ret
        exact ⟨_, rfl, foundn_yes hlt (by rw [← hy.out]; exact hq), hb'⟩
      | false =>
        rw [hq] at hcall
        go_wp2_with (go_at_fn g; refine hcall.mono ?_; rintro e w' ⟨rfl, hb'⟩)
        go_roundg (l0.length - (kk + 1))
        case measure => omega
        case rel =>
          refine ⟨kk + 1, by omega, by omega, by go_num, hb', (show Aside _ from fun j hj => ?_)⟩
          by_cases e : j = kk
          · subst e
            rw [← hy.out]; exact hq
          · exact A.out j (by omega)
    · have hltz : ¬ (kk : Int) < (l0.length : Int) := by omega
      have : kk = l0.length := by omega
      subst this
      go_wp2
      go_ret
      exact ⟨_, rfl, foundn_no A.out, BW.out⟩
set_option maxHeartbeats 4000000 in
theorem contains_fn (p : Int → Bool) (g : Nat) (lb : Array Value) (eg : ∀ args w, (callFunc g args).run Try.prog w = .ok (.enter g args) w) (A0 : Option Addr) (c0 : Nat) (l0 : List Int) (w : World)
    (hr0 : Kd.C (Kd.int .i64) w A0 l0.length l0)
    (hp : ∀ (W : World) (x : Int), x ∈ l0 → Below w.heap.size w W → Calls Try.prog g (#[.int .i64 x] ++ lb) W fun e w' => e = .returned (.bool (p x)) ∧ Below w.heap.size w w') :
    Calls Try.prog 83 #[.slice A0 l0.length c0, .func (.func g) #[] lb] w fun e w' => e = .returned (.bool (l0.any p)) ∧ Below w.heap.size w w' := by
  have hx := index_fn p g lb eg A0 c0 l0 w hr0 hp
  clear hr0 hp
  go_enter Try.func83, Try.ntmps83
  go_wp2_with (go_at_call 100; refine hx.mono ?_; rintro e w' ⟨i, rfl, hi, hb⟩)
  go_ret
  refine ⟨?_, hb⟩
  rcases hi with ⟨h0, h1⟩ | ⟨rfl, h1⟩
  · rw [h1]; simp [h0]
  · rw [h1]; rfl
def endsB (x : S29) : Bool := decide (x.f0 = 9 ∨ x.f0 = 14)
def safeAt (l : List S29) (i : Nat) : Bool := decide (at_ (fullL l) i < 0) || ((decide (i + 1 < l.length) || endsB (rd_T29 l i)) && !((usesL (rd_T29 l i).f0 (rd_T29 l i).f1 (rd_T29 l i).f2).any (freeB (at_ (fullL l) i))))
def safeB (l : List S29) : Bool := codeB l && (List.range l.length).all (safeAt l)
def safeV.f (l : List S29) : Option Bool := some (safeB l)
theorem uses_slots {l : List S29} (h : codeB l = true) {i : Nat} (hi : i < l.length) : ∀ s ∈ usesL (rd_T29 l i).f0 (rd_T29 l i).f1 (rd_T29 l i).f2, 0 ≤ s ∧ s ≤ 3 := by
  obtain ⟨⟨h1, h2, h3, h4, h5, h6⟩, ht⟩ := code_op h hi
  rw [rd29_get hi]
  have hR : 0 ≤ l[i].f1 ∧ l[i].f1 ≤ 3 := by omega
  have hS : 0 ≤ l[i].f2 ∧ l[i].f2 ≤ 3 := by omega
  intro s hs
  unfold usesL at hs
  split at hs
  · simp at hs; omega
  · split at hs
    · simp at hs; rcases hs with hs | hs <;> omega
    · split at hs
      · simp at hs; omega
      · cases hs
set_option maxHeartbeats 8000000 in
theorem safe_no (A0 : Option Addr) (c0 : Nat) (l0 : List S29) (w : World) (hr0 : Kd.C k29 w A0 l0.length l0) (hc0 : l0.length ≤ c0) (h : codeB l0 = false) :
    Calls Try.prog 46 #[.slice A0 l0.length c0] w fun e w' => e = .returned (.bool false) ∧ Below w.heap.size w w' := by
  have hOk := impl_CodeOk.calls A0 c0 l0 false w hr0 hc0 (by rw [← h]; rfl)
  clear hr0 h
  go_enter Try.func46, Try.ntmps46
  go_wp2_with (first | (go_at_call 35; refine hOk.mono ?_; rintro e w' ⟨rfl, hb⟩))
  go_ret
  exact ⟨rfl, hb⟩
theorem safe_all {l : List S29} (hc : codeB l = true) (h : ∀ i, i < l.length → safeAt l i = true) : safeB l = true := by
  unfold safeB; rw [hc, Bool.true_and, List.all_eq_true]
  intro i hi; exact h i (by simpa using hi)
theorem safe_not {l : List S29} {i : Nat} (hi : i < l.length) (h : safeAt l i = false) : safeB l = false := by
  unfold safeB
  have : (List.range l.length).all (safeAt l) = false := by
    rw [List.all_eq_false]; exact ⟨i, by simpa using hi, by rw [h]; decide⟩
  rw [this, Bool.and_false]
set_option maxHeartbeats 8000000 in
theorem safe_yes (A0 : Option Addr) (c0 : Nat) (l0 : List S29) (w : World) (hr0 : Kd.C k29 w A0 l0.length l0) (hc0 : l0.length ≤ c0) (hc : codeB l0 = true) :
    Calls Try.prog 46 #[.slice A0 l0.length c0] w fun e w' => e = .returned (.bool (safeB l0)) ∧ Below w.heap.size w w' := by
  obtain ⟨hl1, hl2⟩ := code_len hc
  have hOk := impl_CodeOk.calls A0 c0 l0 true w hr0 hc0 (by rw [← hc]; rfl)
  have hFu := fun (W : World) (hb : Below w.heap.size w W) => full_walk A0 c0 l0 W (Kd.C_below hr0 hb) hc
  have HC := Aside0.mk hc
  have HR0 := Aside0.mk hr0
  have hfl : (fullL l0).length = l0.length := (full_good (wayW_good hc)).1
  have HFL := Aside0.mk hfl
  clear hr0 hc hfl
  go_enter Try.func46, Try.ntmps46
  go_wp2_with (first | (go_at_call 35; refine hOk.mono ?_; rintro e w' ⟨rfl, hb⟩; have HB := Aside0.mk hb; clear hb) | (go_at_call 80; refine (hFu _ HB.out).mono ?_; rintro e w1 ⟨v, rfl, hR, hb1⟩; have hR2 := hR; obtain ⟨A, c, rfl⟩ := Kd.R_slice hR2; have HF := Aside0.mk (Kd.R_reads' hR).2.2; have HB1 := Aside0.mk (below_step HB.out hb1); rw [HFL.out]; clear hR hR2 hb1))
  go_loopg [12] l0.length (fun gg s12 wr => ∃ j : Nat, j ≤ l0.length ∧ l0.length - j ≤ gg ∧ s12 = .int .i64 (j : Int) ∧ Aside (Below w.heap.size w wr) ∧ Aside (Below w1.heap.size w1 wr) ∧ Aside (∀ i, i < j → safeAt l0 i = true))
  case atStart => exact ⟨0, Nat.zero_le _, Nat.sub_le _ _, rfl, HB1.out, Below.refl _ _, fun i hi => absurd hi (Nat.not_lt_zero _)⟩
  case round =>
    obtain ⟨j, hj, hgg, rfl, BW, B1, A⟩ := hrel
    by_cases hlt : j < l0.length
    · have hltz : (j : Int) < (l0.length : Int) := by omega
      have h0z : (0 : Int) ≤ (j : Int) := by omega
      obtain ⟨ad, e, x0⟩ := Kd.at_int HF.out (j : Int) h0z (by rw [HFL.out]; exact hltz)
      subst e
      rw [Int.toNat_natCast] at x0
      replace x0 := (B1.out.cell (World.block_lt_of_cell? w1 _ x0)).trans x0
      obtain ⟨x, hx⟩ : ∃ x, x = at_ (fullL l0) (j : Int) := ⟨_, rfl⟩
      rw [show rd (fullL l0) (j : Int) = x from hx.symm] at x0
      have hx15 : x ≤ 15 := by rw [hx]; exact (at_good (full_good (wayW_good HC.out)) (j : Int)).2
      by_cases hneg : x < 0
      · have HS : Aside0 (safeAt l0 j = true) := ⟨by unfold safeAt; rw [← hx, decide_eq_true hneg]; rfl⟩
        clear hx
        go_wp2
        go_roundg (l0.length - (j + 1))
        case measure => omega
        case rel =>
          refine ⟨j + 1, by omega, by omega, by go_num, (show Aside _ from ?_), (show Aside _ from ?_), (show Aside _ from fun i hi => ?_)⟩
          · exact below_alloc BW.out _
          · exact below_alloc B1.out _
          · by_cases e : i = j
            · rw [e]; exact HS.out
            · exact A.out i (by omega)
      · have hneg0 : decide (x < 0) = false := decide_eq_false hneg
        obtain ⟨ad2, e, y0, y1, y2, y3, y4, y5⟩ := at_T29 HR0.out (j : Int) h0z hltz
        subst e
        rw [Int.toNat_natCast] at y0 y1 y2 y3 y4 y5
        replace y0 := (BW.out.cell (World.block_lt_of_cell? w _ y0)).trans y0
        replace y1 := (BW.out.cell (World.block_lt_of_cell? w _ y1)).trans y1
        replace y2 := (BW.out.cell (World.block_lt_of_cell? w _ y2)).trans y2
        replace y3 := (BW.out.cell (World.block_lt_of_cell? w _ y3)).trans y3
        replace y4 := (BW.out.cell (World.block_lt_of_cell? w _ y4)).trans y4
        replace y5 := (BW.out.cell (World.block_lt_of_cell? w _ y5)).trans y5
        have hS : safeAt l0 j = ((decide (j + 1 < l0.length) || endsB (rd_T29 l0 j)) && !((usesL (rd_T29 l0 j).f0 (rd_T29 l0 j).f1 (rd_T29 l0 j).f2).any (freeB x))) := by
          unfold safeAt; rw [← hx, decide_eq_false hneg, Bool.false_or]
        have hus := uses_slots HC.out hlt
        have hop := (code_op HC.out hlt).1
        rw [← rd29_get hlt] at hop
        obtain ⟨y, hy⟩ : ∃ y, y = rd_T29 l0 (j : Int) := ⟨_, rfl⟩
        rw [← hy] at y0 y1 y2 y3 y4 y5 hS hus hop
        have hUs := fun W : World => impl_OpUses.calls y.f0 y.f1 y.f2 y.f3 y.f4.f0 y.f4.f1 (usesL y.f0 y.f1 y.f2) W (by unfold usesV.f; rw [if_pos (opB_true.2 hop)])
        obtain ⟨U, hU⟩ : ∃ U, U = usesL y.f0 y.f1 y.f2 := ⟨_, rfl⟩
        rw [← hU] at hUs hS hus
        have hCn := fun (W : World) (A : Option Addr) (c : Nat) (hC : Kd.C (Kd.int .i64) W A U.length U) (hB : W.cell? ⟨wr.heap.size, 0, none⟩ = some (.int .i64 x)) => contains_fn (freeB x) 84 #[.pointer (some ⟨wr.heap.size, 0, none⟩)] (fun _ _ => by kernel_rfl) A c U W hC (fun W2 s hs hb => (slot_walk x s (hus s hs).1 (hus s hs).2 wr.heap.size W2 ((hb.cell (World.block_lt_of_cell? W _ hB)).trans hB)).mono (fun e w' h => ⟨h.1, by rw [← h.2]; exact hb⟩))
        have HS := Aside0.mk hS
        clear hx hy hU hus hS hneg hop
        obtain ⟨kk, hkk0⟩ : ∃ kk, kk = y.f0 := ⟨_, rfl⟩
        rw [← hkk0] at y0 hUs
        have hkk := Aside0.mk hkk0
        clear hkk0
        have hbl := below_alloc (Below.refl wr.heap.size wr) (.cells #[.int .i64 x] 3)
        have tr : ∀ (a : Addr) (u : Value), wr.cell? a = some u → (wr.alloc (.cells #[.int .i64 x] 3)).cell? a = some u := fun a u h => (hbl.cell (World.block_lt_of_cell? wr _ h)).trans h
        have p0 := tr _ _ y0
        have p1 := tr _ _ y1
        have p2 := tr _ _ y2
        have p3 := tr _ _ y3
        have p4 := tr _ _ y4
        have p5 := tr _ _ y5
        have n0 := blk_new wr (.cells #[.int .i64 x] 3)
        have N0 := Aside0.mk n0
        have HBL := Aside0.mk hbl
        have hsz : (wr.alloc (.cells #[.int .i64 x] 3)).heap.size = wr.heap.size + 1 := by simp
        have HSZ := Aside0.mk hsz
        clear y0 y1 y2 y3 y4 y5 n0 hbl tr hsz
        go_upto_region 7 with (fail)
        obtain ⟨w2, hw2⟩ : ∃ w2, w2 = wr.alloc (.cells #[.int .i64 x] 3) := ⟨_, rfl⟩
        rw [← hw2] at p0 p1 p2 p3 p4 p5 N0 HBL HSZ ⊢
        clear hw2 x0
        have B2 := Aside0.mk (below_step BW.out HBL.out)
        have B12 := Aside0.mk (below_step B1.out HBL.out)
        obtain ⟨bx, hbx⟩ : ∃ b, b = wr.heap.size := ⟨_, rfl⟩
        rw [← hbx] at hCn N0 ⊢
        clear hbx HBL HSZ
        by_cases hnx : j + 1 < l0.length
        · have e1 : ((j : Int) == (l0.length : Int) - 1) = false := by simp; omega
          cases hany : U.any (freeB x) with
          | true =>
            rw [hany] at hCn
            have HSF : Aside0 (safeB l0 = false) := ⟨safe_not hlt (by rw [HS.out, hany]; simp)⟩
            clear hany
            go_wp2_with (first | (go_at_call 27; refine (hUs _).mono ?_; rintro e w3 ⟨v2, rfl, hR, hb⟩; obtain ⟨A2, c2, rfl⟩ := Kd.R_slice hR; have HC2 := Aside0.mk (Kd.R_reads' hR).2.2; have HB3 := Aside0.mk (below_step (below_alloc (Below.refl w2.heap.size w2) _) hb); clear hR hb) | (go_at_call 83; refine (hCn _ _ _ HC2.out ?hc).mono ?_; (case hc => exact (blk_cell (blk_below N0.out HB3.out) 0).trans rfl); rintro e w4 ⟨rfl, hb⟩; have HB4 := Aside0.mk (below_step HB3.out hb); clear hb))
            go_ret
            exact ⟨by rw [HSF.out]; rfl, below_step B2.out HB4.out⟩
          | false =>
            rw [hany] at hCn
            have HST : Aside0 (safeAt l0 j = true) := ⟨by rw [HS.out, hany, decide_eq_true hnx]; rfl⟩
            clear hany
            go_wp2_with (first | (go_at_call 27; refine (hUs _).mono ?_; rintro e w3 ⟨v2, rfl, hR, hb⟩; obtain ⟨A2, c2, rfl⟩ := Kd.R_slice hR; have HC2 := Aside0.mk (Kd.R_reads' hR).2.2; have HB3 := Aside0.mk (below_step (below_alloc (Below.refl w2.heap.size w2) _) hb); clear hR hb) | (go_at_call 83; refine (hCn _ _ _ HC2.out ?hc).mono ?_; (case hc => exact (blk_cell (blk_below N0.out HB3.out) 0).trans rfl); rintro e w4 ⟨rfl, hb⟩; have HB4 := Aside0.mk (below_step HB3.out hb); clear hb))
            go_roundg (l0.length - (j + 1))
            case measure => omega
            case rel =>
              refine ⟨j + 1, by omega, by omega, by go_num, (show Aside _ from ?_), (show Aside _ from ?_), (show Aside _ from fun i hi => ?_)⟩
              · exact below_step B2.out HB4.out
              · exact below_step B12.out HB4.out
              · by_cases e : i = j
                · rw [e]; exact HST.out
                · exact A.out i (by omega)
        · have e1 : ((j : Int) == (l0.length : Int) - 1) = true := by simp; omega
          have hdn := decide_eq_false hnx
          by_cases h9 : kk = 9
          · have e9 : (kk != 9) = false := by simp [h9]
            have hen : endsB y = true := by unfold endsB; rw [← hkk.out]; exact decide_eq_true (.inl h9)
            have HEN := Aside0.mk hen
            have HDN := Aside0.mk hdn
            clear h9 hen hdn
            cases hany : U.any (freeB x) with
            | true =>
              rw [hany] at hCn
              have HSF : Aside0 (safeB l0 = false) := ⟨safe_not hlt (by rw [HS.out, hany]; simp)⟩
              clear hany
              go_wp2_with (first | (go_at_call 27; refine (hUs _).mono ?_; rintro e w3 ⟨v2, rfl, hR, hb⟩; obtain ⟨A2, c2, rfl⟩ := Kd.R_slice hR; have HC2 := Aside0.mk (Kd.R_reads' hR).2.2; have HB3 := Aside0.mk (below_step (below_alloc (Below.refl w2.heap.size w2) _) hb); clear hR hb) | (go_at_call 83; refine (hCn _ _ _ HC2.out ?hc).mono ?_; (case hc => exact (blk_cell (blk_below N0.out HB3.out) 0).trans rfl); rintro e w4 ⟨rfl, hb⟩; have HB4 := Aside0.mk (below_step HB3.out hb); clear hb))
              go_ret
              exact ⟨by rw [HSF.out]; rfl, below_step B2.out HB4.out⟩
            | false =>
              rw [hany] at hCn
              have HST : Aside0 (safeAt l0 j = true) := ⟨by rw [HS.out, hany, HDN.out, HEN.out]; rfl⟩
              clear hany
              go_wp2_with (first | (go_at_call 27; refine (hUs _).mono ?_; rintro e w3 ⟨v2, rfl, hR, hb⟩; obtain ⟨A2, c2, rfl⟩ := Kd.R_slice hR; have HC2 := Aside0.mk (Kd.R_reads' hR).2.2; have HB3 := Aside0.mk (below_step (below_alloc (Below.refl w2.heap.size w2) _) hb); clear hR hb) | (go_at_call 83; refine (hCn _ _ _ HC2.out ?hc).mono ?_; (case hc => exact (blk_cell (blk_below N0.out HB3.out) 0).trans rfl); rintro e w4 ⟨rfl, hb⟩; have HB4 := Aside0.mk (below_step HB3.out hb); clear hb))
              go_roundg (l0.length - (j + 1))
              case measure => omega
              case rel =>
                refine ⟨j + 1, by omega, by omega, by go_num, (show Aside _ from ?_), (show Aside _ from ?_), (show Aside _ from fun i hi => ?_)⟩
                · exact below_step B2.out HB4.out
                · exact below_step B12.out HB4.out
                · by_cases e : i = j
                  · rw [e]; exact HST.out
                  · exact A.out i (by omega)
          · have e9 : (kk != 9) = true := by simp [h9]
            by_cases h14 : kk = 14
            · have e14 : (kk != 14) = false := by simp [h14]
              have hen : endsB y = true := by unfold endsB; rw [← hkk.out]; exact decide_eq_true (.inr h14)
              have HEN := Aside0.mk hen
              have HDN := Aside0.mk hdn
              clear h9 h14 hen hdn
              cases hany : U.any (freeB x) with
              | true =>
                rw [hany] at hCn
                have HSF : Aside0 (safeB l0 = false) := ⟨safe_not hlt (by rw [HS.out, hany]; simp)⟩
                clear hany
                go_wp2_with (first | (go_at_call 27; refine (hUs _).mono ?_; rintro e w3 ⟨v2, rfl, hR, hb⟩; obtain ⟨A2, c2, rfl⟩ := Kd.R_slice hR; have HC2 := Aside0.mk (Kd.R_reads' hR).2.2; have HB3 := Aside0.mk (below_step (below_alloc (Below.refl w2.heap.size w2) _) hb); clear hR hb) | (go_at_call 83; refine (hCn _ _ _ HC2.out ?hc).mono ?_; (case hc => exact (blk_cell (blk_below N0.out HB3.out) 0).trans rfl); rintro e w4 ⟨rfl, hb⟩; have HB4 := Aside0.mk (below_step HB3.out hb); clear hb))
                go_ret
                exact ⟨by rw [HSF.out]; rfl, below_step B2.out HB4.out⟩
              | false =>
                rw [hany] at hCn
                have HST : Aside0 (safeAt l0 j = true) := ⟨by rw [HS.out, hany, HDN.out, HEN.out]; rfl⟩
                clear hany
                go_wp2_with (first | (go_at_call 27; refine (hUs _).mono ?_; rintro e w3 ⟨v2, rfl, hR, hb⟩; obtain ⟨A2, c2, rfl⟩ := Kd.R_slice hR; have HC2 := Aside0.mk (Kd.R_reads' hR).2.2; have HB3 := Aside0.mk (below_step (below_alloc (Below.refl w2.heap.size w2) _) hb); clear hR hb) | (go_at_call 83; refine (hCn _ _ _ HC2.out ?hc).mono ?_; (case hc => exact (blk_cell (blk_below N0.out HB3.out) 0).trans rfl); rintro e w4 ⟨rfl, hb⟩; have HB4 := Aside0.mk (below_step HB3.out hb); clear hb))
                go_roundg (l0.length - (j + 1))
                case measure => omega
                case rel =>
                  refine ⟨j + 1, by omega, by omega, by go_num, (show Aside _ from ?_), (show Aside _ from ?_), (show Aside _ from fun i hi => ?_)⟩
                  · exact below_step B2.out HB4.out
                  · exact below_step B12.out HB4.out
                  · by_cases e : i = j
                    · rw [e]; exact HST.out
                    · exact A.out i (by omega)
            · have e14 : (kk != 14) = true := by simp [h14]
              have hen : endsB y = false := by unfold endsB; rw [← hkk.out]; exact decide_eq_false (by omega)
              have HSF : Aside0 (safeB l0 = false) := ⟨safe_not hlt (by rw [HS.out, hdn, hen]; simp)⟩
              clear h9 h14 hen hdn
              go_wp2
              go_ret
              exact ⟨by rw [HSF.out]; rfl, below_step B2.out (below_alloc (Below.refl _ _) _)⟩
    · have hltz : ¬ (j : Int) < (l0.length : Int) := by omega
      obtain rfl : j = l0.length := by omega
      go_wp2
      go_ret
      exact ⟨by rw [safe_all HC.out A.out]; rfl, BW.out⟩
theorem impl_CodeSafe.calls (A0 : Option Addr) (c0 : Nat) (l0 : List (S29)) (r : Bool) (w : World) (hr0 : Kd.C k29 w A0 l0.length l0) (hc0 : l0.length ≤ c0) (h : safeV.f l0 = some r) :
    Calls Try.prog 46 #[.slice A0 l0.length c0] w fun e w' => e = .returned (.bool r) ∧ Below w.heap.size w w' := by
  obtain rfl := Option.some.inj h
  cases hc : codeB l0 with
  | true => exact safe_yes A0 c0 l0 w hr0 hc0 hc
  | false =>
    have e : safeB l0 = false := by unfold safeB; rw [hc]; rfl
    rw [e]
    exact safe_no A0 c0 l0 w hr0 hc0 hc
end Go.Proofs.Ytmklpbmlgjkbiaa.PS
end
section
namespace Go.Proofs.Ytmklpbmlgjkbiaa.PS
open Go.RowKit Go.Proofs.YtmklpbmlgjkbiaaW.PrintWords Go.Proofs.YtmklpbmlgjkbiaaW.PrintLast Go.Proofs.YtmklpbmlgjkbiaaW.PrintMore
attribute [local go_sem] max2_int min2_int max_two min_two max_three min_three max_four min_four   -- for this text's walks alone
set_option linter.unusedVariables false
set_option linter.unusedSimpArgs false
def spec_l3Fills.f (a0 : Int) : Option (Bool) := if a0 = 1 then (some true) else (if a0 = 2 then (some true) else (if a0 = 4 then (some true) else (if a0 = 5 then (some true) else (if a0 = 7 then (some true) else (some (a0 == 8))))))
set_option maxHeartbeats 8000000 in
set_option maxRecDepth 100000 in
theorem spec_l3Fills.calls (a0 : Int) (r : Bool) (w : World) (h : spec_l3Fills.f a0 = some r) :
    Calls Try.prog 104 #[.int .i64 a0] w fun e w' => e = .returned (.bool r) ∧ Drawn0 w w' := by
  have H : (if a0 = 1 then (some true) else (if a0 = 2 then (some true) else (if a0 = 4 then (some true) else (if a0 = 5 then (some true) else (if a0 = 7 then (some true) else (some (a0 == 8))))))) = some r := h
  clear h
  by_cases c2 : a0 = 1
  · rw [if_pos c2] at H
    have c2b0 : (a0 == 1) = true := beq_iff_eq.mpr c2
    have c2b1 : (a0 != 1) = false := bne_eq_false_iff_eq.mpr c2
    clear c2
    obtain rfl := Option.some.inj H
    go_enter Try.func104, Try.ntmps104
    go_wp2
    go_ret
    exact ⟨by first | rfl | (simp; done) | (simp [*]; done), by repeat (first | exact Drawn0.refl _ | apply Drawn0.step)⟩
  · rw [if_neg c2] at H
    have c2b0 : (a0 == 1) = false := beq_eq_false_iff_ne.mpr c2
    have c2b1 : (a0 != 1) = true := bne_iff_ne.mpr c2
    by_cases c3 : a0 = 2
    · rw [if_pos c3] at H
      have c3b0 : (a0 == 2) = true := beq_iff_eq.mpr c3
      have c3b1 : (a0 != 2) = false := bne_eq_false_iff_eq.mpr c3
      clear c3
      obtain rfl := Option.some.inj H
      go_enter Try.func104, Try.ntmps104
      go_wp2
      go_ret
      exact ⟨by first | rfl | (simp; done) | (simp [*]; done), by repeat (first | exact Drawn0.refl _ | apply Drawn0.step)⟩
    · rw [if_neg c3] at H
      have c3b0 : (a0 == 2) = false := beq_eq_false_iff_ne.mpr c3
      have c3b1 : (a0 != 2) = true := bne_iff_ne.mpr c3
      by_cases c4 : a0 = 4
      · rw [if_pos c4] at H
        have c4b0 : (a0 == 4) = true := beq_iff_eq.mpr c4
        have c4b1 : (a0 != 4) = false := bne_eq_false_iff_eq.mpr c4
        clear c4
        obtain rfl := Option.some.inj H
        go_enter Try.func104, Try.ntmps104
        go_wp2
        go_ret
        exact ⟨by first | rfl | (simp; done) | (simp [*]; done), by repeat (first | exact Drawn0.refl _ | apply Drawn0.step)⟩
      · rw [if_neg c4] at H
        have c4b0 : (a0 == 4) = false := beq_eq_false_iff_ne.mpr c4
        have c4b1 : (a0 != 4) = true := bne_iff_ne.mpr c4
        by_cases c5 : a0 = 5
        · rw [if_pos c5] at H
          have c5b0 : (a0 == 5) = true := beq_iff_eq.mpr c5
          have c5b1 : (a0 != 5) = false := bne_eq_false_iff_eq.mpr c5
          clear c5
          obtain rfl := Option.some.inj H
          go_enter Try.func104, Try.ntmps104
          go_wp2
          go_ret
          exact ⟨by first | rfl | (simp; done) | (simp [*]; done), by repeat (first | exact Drawn0.refl _ | apply Drawn0.step)⟩
        · rw [if_neg c5] at H
          have c5b0 : (a0 == 5) = false := beq_eq_false_iff_ne.mpr c5
          have c5b1 : (a0 != 5) = true := bne_iff_ne.mpr c5
          by_cases c6 : a0 = 7
          · rw [if_pos c6] at H
            have c6b0 : (a0 == 7) = true := beq_iff_eq.mpr c6
            have c6b1 : (a0 != 7) = false := bne_eq_false_iff_eq.mpr c6
            clear c6
            obtain rfl := Option.some.inj H
            go_enter Try.func104, Try.ntmps104
            go_wp2
            go_ret
            exact ⟨by first | rfl | (simp; done) | (simp [*]; done), by repeat (first | exact Drawn0.refl _ | apply Drawn0.step)⟩
          · rw [if_neg c6] at H
            have c6b0 : (a0 == 7) = false := beq_eq_false_iff_ne.mpr c6
            have c6b1 : (a0 != 7) = true := bne_iff_ne.mpr c6
            obtain rfl := Option.some.inj H
            go_enter Try.func104, Try.ntmps104
            go_wp2
            go_ret
            exact ⟨by first | rfl | (simp; done) | (simp [*]; done), by repeat (first | exact Drawn0.refl _ | apply Drawn0.step)⟩
def spec_l3Bit.f (a0 : Int) : Option (Int) := (some (([1, 2, 4, 8] : List Int) : List Int)).bind fun y346 => (if 0 ≤ a0 then (if a0 < (y346.length : Int) then (some (rd y346 a0)) else (none)) else (none))
set_option maxHeartbeats 8000000 in
set_option maxRecDepth 100000 in
theorem spec_l3Bit.calls (a0 : Int) (r : Int) (w : World) (h : spec_l3Bit.f a0 = some r) :
    Calls Try.prog 99 #[.int .i64 a0] w fun e w' => e = .returned (.int .i64 r) ∧ Below w.heap.size w w' := by
  have HB := Aside0.mk (Below.refl w.heap.size w)
  have H : ((some (([1, 2, 4, 8] : List Int) : List Int)).bind fun y346 => (if 0 ≤ a0 then (if a0 < (y346.length : Int) then (some (rd y346 a0)) else (none)) else (none))) = some r := h
  clear h
  obtain ⟨y346, hy346⟩ : ∃ y_ : List Int, y_ = (([1, 2, 4, 8] : List Int)) := ⟨_, rfl⟩
  replace H : (if 0 ≤ a0 then (if a0 < (y346.length : Int) then (some (rd y346 a0)) else (none)) else (none)) = some r := by first | (rw [hy346]; with_reducible exact H) | (have H2_ := (Option.bind_some _ _).symm.trans H; rw [hy346]; with_reducible exact H2_) | (have H2_ := (Option.bind_some _ _).symm.trans H; with_reducible exact H2_) | with_reducible exact H | (rw [hy346]; exact H) | exact H
  have Ny346 := Aside0.mk hy346
  clear hy346
  by_cases c2 : 0 ≤ a0
  · rw [if_pos c2] at H
    have c2b0 : decide (0 ≤ a0) = true := decide_eq_true c2
    clear c2
    by_cases c3 : a0 < (y346.length : Int)
    · rw [if_pos c3] at H
      have c3b0 : decide (a0 < (y346.length : Int)) = true := decide_eq_true c3
      clear c3
      obtain rfl := Option.some.inj H
      go_enter Try.func99, Try.ntmps99
      go_wp2_with (first | ((with_reducible refine gate_dst (N := 3) rfl ?_); refine Kd.R_lit (Kd.int .i64) _ 3 ?hg (N := 3) ?hd (xs := ([1, 2, 4, 8] : List Int)) (inner := [.int .i64 1, .int .i64 2, .int .i64 4, .int .i64 8]) (ok := fun _ => True) (okp := fun _ => True) ?hr ?hp (fun _ hk => hk) trivial (Below.refl _ _) (Nat.le_refl _) (by simp) ?_; (case hd => rfl); (case hg => rfl); (case hr => first | (go_simp; done) | (go_simp; rfl)); (case hp => exact (Reps.one (show Kd.M (Kd.int .i64) _ _ _ 1 [.int .i64 1] from rfl) (Reps.one (show Kd.M (Kd.int .i64) _ _ _ 2 [.int .i64 2] from rfl) (Reps.one (show Kd.M (Kd.int .i64) _ _ _ 4 [.int .i64 4] from rfl) (Reps.one (show Kd.M (Kd.int .i64) _ _ _ 8 [.int .i64 8] from rfl) (Reps.none _ _)))))); intro v347 w4 ho5 hb hg_ hnew_; clear hg_ hnew_; (first | rw [← Ny346.out] at ho5 | (simp only [Int.reduceToNat] at ho5; rw [← Ny346.out] at ho5)); have n0_ := Aside0.mk (Kd.R_lower ho5 (below_size (by repeat (first | (with_reducible first | exact HB.out | apply below_alloc | apply pw_below_drewN | apply below_drew1) | exact HB.out)))); have n1_ := Aside0.mk (below_step (by repeat (first | (with_reducible first | exact HB.out | apply below_alloc | apply pw_below_drewN | apply below_drew1) | exact HB.out)) hb); clear HB; have HO348 := n0_; have HB := n1_; clear n0_ n1_; clear hb ho5; obtain ⟨Ao6, co6, eo6⟩ := Kd.R_slice HO348.out; subst eo6; have p349 : 0 ≤ (a0 : Int) := of_decide_eq_true (by first | (with_reducible assumption) | assumption); have q349 : a0 < (y346.length : Int) := of_decide_eq_true (by first | (with_reducible assumption) | assumption); obtain ⟨ad349, e349, hx349_0⟩ := Kd.at_int (Kd.R_reads' HO348.out).2.2 a0 p349 q349; cases e349; replace p349 := eq_true p349; replace q349 := eq_true q349))
      go_ret
      exact ⟨by first | rfl | (simp [errW_none, errW_some] <;> rfl) | (simp [*, errW_none, errW_some] <;> rfl), by repeat (first | (with_reducible first | exact HB.out | apply below_alloc | apply pw_below_drewN | apply below_drew1) | exact HB.out)⟩
    · rw [if_neg c3] at H
      exact absurd H (by simp)
  · rw [if_neg c2] at H
    exact absurd H (by simp)
def spec_l3Has.f (a0 : Int) (a1 : Int) : Option (Bool) := (spec_l3Bit.f a1).bind fun t350 => (if t350 = 0 then (none) else (some ((Int.tmod (wrap64 (Int.tdiv a0 t350)) 2) == 1)))
set_option maxHeartbeats 8000000 in
set_option maxRecDepth 100000 in
theorem spec_l3Has.calls (a0 : Int) (a1 : Int) (r : Bool) (w : World) (h : spec_l3Has.f a0 a1 = some r) :
    Calls Try.prog 82 #[.int .i64 a0, .int .i64 a1] w fun e w' => e = .returned (.bool r) ∧ Below w.heap.size w w' := by
  have HB := Aside0.mk (Below.refl w.heap.size w)
  have H : ((spec_l3Bit.f a1).bind fun t350 => (if t350 = 0 then (none) else (some ((Int.tmod (wrap64 (Int.tdiv a0 t350)) 2) == 1)))) = some r := h
  clear h
  replace H := Option.bind_eq_some_iff.mp H
  obtain ⟨t350, A30, H⟩ := H
  replace H : (if t350 = 0 then (none) else (some ((Int.tmod (wrap64 (Int.tdiv a0 t350)) 2) == 1))) = some r := H
  have A3 := Aside0.mk A30
  clear A30
  by_cases c4 : t350 = 0
  · rw [if_pos c4] at H
    exact absurd H (by simp)
  · rw [if_neg c4] at H
    have c4b0 : (t350 == 0) = false := beq_eq_false_iff_ne.mpr c4
    have c4b1 : (t350 != 0) = true := bne_iff_ne.mpr c4
    obtain rfl := Option.some.inj H
    go_enter Try.func82, Try.ntmps82
    go_wp2_with (first | ((with_reducible refine gate_callee (f := 99) rfl ?_); refine goesL_ (some 7) rfl rfl Try.func99 (by kernel_rfl) rfl #[.int .i64 a1] rfl (by (try simp only [List.map_toArray, List.map_cons, List.map_nil]); first | done | rfl | (simp only [List.length_drop, List.length_take]; rfl)) ?_; (with_reducible refine (spec_l3Bit.calls a1 t350 _ A3.out).mono ?_); rintro e w5 ⟨rfl, hb⟩; refine ⟨_, rfl, ?_⟩; have n0_ := Aside0.mk (below_step (by repeat (first | (with_reducible first | exact HB.out | apply below_alloc | apply pw_below_drewN | apply below_drew1) | exact HB.out)) hb); clear HB; have HB := n0_; clear n0_; (try clear hb); (try clear hb2); (try clear hk); (try clear hi)))
    go_ret
    exact ⟨by first | rfl | (simp [errW_none, errW_some] <;> rfl) | (simp [*, errW_none, errW_some] <;> rfl), by repeat (first | (with_reducible first | exact HB.out | apply below_alloc | apply pw_below_drewN | apply below_drew1) | exact HB.out)⟩
def spec_l3With.f (a0 : Int) (a1 : Int) : Option (Int) := (spec_l3Has.f a0 a1).bind fun t351 => (if t351 = true then (some a0) else ((spec_l3Bit.f a1).bind fun t352 => (some (wrap64 (a0 + t352)))))
set_option maxHeartbeats 8000000 in
set_option maxRecDepth 100000 in
theorem spec_l3With.calls (a0 : Int) (a1 : Int) (r : Int) (w : World) (h : spec_l3With.f a0 a1 = some r) :
    Calls Try.prog 105 #[.int .i64 a0, .int .i64 a1] w fun e w' => e = .returned (.int .i64 r) ∧ Below w.heap.size w w' := by
  have HB := Aside0.mk (Below.refl w.heap.size w)
  have H : ((spec_l3Has.f a0 a1).bind fun t351 => (if t351 = true then (some a0) else ((spec_l3Bit.f a1).bind fun t352 => (some (wrap64 (a0 + t352)))))) = some r := h
  clear h
  replace H := Option.bind_eq_some_iff.mp H
  obtain ⟨t351, A30, H⟩ := H
  replace H : (if t351 = true then (some a0) else ((spec_l3Bit.f a1).bind fun t352 => (some (wrap64 (a0 + t352))))) = some r := H
  have A3 := Aside0.mk A30
  clear A30
  by_cases c4 : t351 = true
  · subst c4
    have H1 : (some a0) = some r := by rw [if_pos rfl] at H; exact H
    clear H
    have H := H1
    clear H1
    obtain rfl := Option.some.inj H
    go_enter Try.func105, Try.ntmps105
    go_wp2_with (first | ((with_reducible refine gate_callee (f := 82) rfl ?_); refine goesL_ (some 7) rfl rfl Try.func82 (by kernel_rfl) rfl #[.int .i64 a0, .int .i64 a1] rfl (by (try simp only [List.map_toArray, List.map_cons, List.map_nil]); first | done | rfl | (simp only [List.length_drop, List.length_take]; rfl)) ?_; (with_reducible refine (spec_l3Has.calls a0 a1 true _ A3.out).mono ?_); rintro e w5 ⟨rfl, hb⟩; refine ⟨_, rfl, ?_⟩; have n0_ := Aside0.mk (below_step (by repeat (first | (with_reducible first | exact HB.out | apply below_alloc | apply pw_below_drewN | apply below_drew1) | exact HB.out)) hb); clear HB; have HB := n0_; clear n0_; (try clear hb); (try clear hb2); (try clear hk); (try clear hi)))
    go_ret
    exact ⟨by first | rfl | (simp [errW_none, errW_some] <;> rfl) | (simp [*, errW_none, errW_some] <;> rfl), by repeat (first | (with_reducible first | exact HB.out | apply below_alloc | apply pw_below_drewN | apply below_drew1) | exact HB.out)⟩
  · replace c4 := Bool.eq_false_iff.mpr c4
    subst c4
    have H1 : ((spec_l3Bit.f a1).bind fun t352 => (some (wrap64 (a0 + t352)))) = some r := by rw [if_neg (show ¬ (false = true) by decide)] at H; exact H
    clear H
    have H := H1
    clear H1
    replace H := Option.bind_eq_some_iff.mp H
    obtain ⟨t352, A60, H⟩ := H
    replace H : (some (wrap64 (a0 + t352))) = some r := H
    have A6 := Aside0.mk A60
    clear A60
    obtain rfl := Option.some.inj H
    go_enter Try.func105, Try.ntmps105
    go_wp2_with (first | ((with_reducible refine gate_callee (f := 82) rfl ?_); refine goesL_ (some 7) rfl rfl Try.func82 (by kernel_rfl) rfl #[.int .i64 a0, .int .i64 a1] rfl (by (try simp only [List.map_toArray, List.map_cons, List.map_nil]); first | done | rfl | (simp only [List.length_drop, List.length_take]; rfl)) ?_; (with_reducible refine (spec_l3Has.calls a0 a1 false _ A3.out).mono ?_); rintro e w7 ⟨rfl, hb⟩; refine ⟨_, rfl, ?_⟩; have n0_ := Aside0.mk (below_step (by repeat (first | (with_reducible first | exact HB.out | apply below_alloc | apply pw_below_drewN | apply below_drew1) | exact HB.out)) hb); clear HB; have HB := n0_; clear n0_; (try clear hb); (try clear hb2); (try clear hk); (try clear hi)) | ((with_reducible refine gate_callee (f := 99) rfl ?_); refine goesL_ (some 11) rfl rfl Try.func99 (by kernel_rfl) rfl #[.int .i64 a1] rfl (by (try simp only [List.map_toArray, List.map_cons, List.map_nil]); first | done | rfl | (simp only [List.length_drop, List.length_take]; rfl)) ?_; (with_reducible refine (spec_l3Bit.calls a1 t352 _ A6.out).mono ?_); rintro e w8 ⟨rfl, hb⟩; refine ⟨_, rfl, ?_⟩; have n0_ := Aside0.mk (below_step (by repeat (first | (with_reducible first | exact HB.out | apply below_alloc | apply pw_below_drewN | apply below_drew1) | exact HB.out)) hb); clear HB; have HB := n0_; clear n0_; (try clear hb); (try clear hb2); (try clear hk); (try clear hi)))
    go_ret
    exact ⟨by first | rfl | (simp [errW_none, errW_some] <;> rfl) | (simp [*, errW_none, errW_some] <;> rfl), by repeat (first | (with_reducible first | exact HB.out | apply below_alloc | apply pw_below_drewN | apply below_drew1) | exact HB.out)⟩
end Go.Proofs.Ytmklpbmlgjkbiaa.PS
end
section
namespace Go.Proofs.Ytmklpbmlgjkbiaa.PS
open Go.RowKit Go.Proofs.YtmklpbmlgjkbiaaW.PrintWords Go.Proofs.YtmklpbmlgjkbiaaW.PrintLast Go.Proofs.YtmklpbmlgjkbiaaW.PrintMore
attribute [local go_sem] max2_int min2_int max_two min_two max_three min_three max_four min_four   -- for this text's walks alone
set_option linter.unusedVariables false
set_option linter.unusedSimpArgs false
mutual
def spec_l3Both.l0 : Nat → Int → Int → Int → Int → Option (Int)
  | 0, _, _, _, _ => none
  | k + 1, x0, x1, x5, x6 => if x6 ≤ 3 then ((spec_l3Has.f x0 x6).bind fun t353 => (if t353 = true then ((spec_l3Has.f x1 x6).bind fun t354 => (spec_l3Both.j1 k x0 x1 x5 x6 t354)) else (spec_l3Both.j1 k x0 x1 x5 x6 false))) else (some x5)
def spec_l3Both.j1 : Nat → Int → Int → Int → Int → Bool → Option (Int)
  | 0, _, _, _, _, _ => none
  | k + 1, x0, x1, x5, x6, x21 => if x21 = true then ((spec_l3Bit.f x6).bind fun t355 => (spec_l3Both.l0 k x0 x1 (wrap64 (x5 + t355)) (wrap64 (x6 + 1)))) else (spec_l3Both.l0 k x0 x1 x5 (wrap64 (x6 + 1)))
end
def spec_l3Both.f (k : Nat) (a0 : Int) (a1 : Int) : Option (Int) := if a0 < 0 then (some a1) else (spec_l3Both.l0 k a0 a1 0 0)
theorem spec_l3Both.mono_l : ∀ k, (∀ y0 y1 y2 y3, LeO (spec_l3Both.l0 k y0 y1 y2 y3) (spec_l3Both.l0 (k + 1) y0 y1 y2 y3)) ∧ (∀ y0 y1 y2 y3 y4, LeO (spec_l3Both.j1 k y0 y1 y2 y3 y4) (spec_l3Both.j1 (k + 1) y0 y1 y2 y3 y4))
  | 0 => ⟨fun _ _ _ _ r h => by simp [spec_l3Both.l0] at h, fun _ _ _ _ _ r h => by simp [spec_l3Both.j1] at h⟩
  | k + 1 => by
    obtain ⟨ih0, ih1⟩ := spec_l3Both.mono_l k
    refine ⟨?_, ?_⟩
    · intro y0 y1 y2 y3
      unfold spec_l3Both.l0
      repeat' first
      | (with_reducible exact ih0 _ _ _ _)
      | (with_reducible exact ih1 _ _ _ _ _)
      | (with_reducible exact LeO.refl _)
      | (with_reducible exact LeO.none _)
      | (with_reducible refine LeO.ite ?_ ?_)
      | (with_reducible refine LeO.bind ?_ (fun _ => ?_))
      | exact ih0 _ _ _ _
      | exact ih1 _ _ _ _ _
      | exact LeO.none _
      | refine LeO.ite ?_ ?_
      | refine LeO.bind ?_ (fun _ => ?_)
    · intro y0 y1 y2 y3 y4
      unfold spec_l3Both.j1
      repeat' first
      | (with_reducible exact ih0 _ _ _ _)
      | (with_reducible exact ih1 _ _ _ _ _)
      | (with_reducible exact LeO.refl _)
      | (with_reducible exact LeO.none _)
      | (with_reducible refine LeO.ite ?_ ?_)
      | (with_reducible refine LeO.bind ?_ (fun _ => ?_))
      | exact ih0 _ _ _ _
      | exact ih1 _ _ _ _ _
      | exact LeO.none _
      | refine LeO.ite ?_ ?_
      | refine LeO.bind ?_ (fun _ => ?_)
theorem spec_l3Both.mono : ∀ a0 a1 k, LeO (spec_l3Both.f k a0 a1) (spec_l3Both.f (k + 1) a0 a1) := by
  intro a0 a1 k
  obtain ⟨ih0, ih1⟩ := spec_l3Both.mono_l k
  unfold spec_l3Both.f
  repeat' first
      | (with_reducible exact ih0 _ _ _ _)
      | (with_reducible exact ih1 _ _ _ _ _)
      | (with_reducible exact LeO.refl _)
      | (with_reducible exact LeO.none _)
      | (with_reducible refine LeO.ite ?_ ?_)
      | (with_reducible refine LeO.bind ?_ (fun _ => ?_))
      | exact ih0 _ _ _ _
      | exact ih1 _ _ _ _ _
      | exact LeO.none _
      | refine LeO.ite ?_ ?_
      | refine LeO.bind ?_ (fun _ => ?_)
set_option maxHeartbeats 8000000 in
set_option maxRecDepth 100000 in
theorem spec_l3Both.calls (k : Nat) (a0 : Int) (a1 : Int) (r : Int) (w : World) (h : spec_l3Both.f k a0 a1 = some r) :
    Calls Try.prog 111 #[.int .i64 a0, .int .i64 a1] w fun e w' => e = .returned (.int .i64 r) ∧ Below w.heap.size w w' := by
  have HB := Aside0.mk (Below.refl w.heap.size w)
  have H : (if a0 < 0 then (some a1) else (spec_l3Both.l0 k a0 a1 0 0)) = some r := h
  clear h
  by_cases c3 : a0 < 0
  · rw [if_pos c3] at H
    have c3b0 : decide (a0 < 0) = true := decide_eq_true c3
    clear c3
    obtain rfl := Option.some.inj H
    go_enter Try.func111, Try.ntmps111
    go_wp2
    go_ret
    exact ⟨by first | rfl | (simp [errW_none, errW_some] <;> rfl) | (simp [*, errW_none, errW_some] <;> rfl), by repeat (first | (with_reducible first | exact HB.out | apply below_alloc | apply pw_below_drewN | apply below_drew1) | exact HB.out)⟩
  · rw [if_neg c3] at H
    have c3b0 : decide (a0 < 0) = false := decide_eq_false c3
    clear c3
    have H' := Aside0.mk H
    clear H
    go_enter Try.func111, Try.ntmps111
    go_wp2
    go_loopg [5, 6] k (fun kq v5 v6 w' => ∃ (x5_1 : Int) (x6_1 : Int), v5 = .int .i64 x5_1 ∧ v6 = .int .i64 x6_1 ∧ Aside0 (spec_l3Both.l0 kq a0 a1 x5_1 x6_1 = some r) ∧ Aside0 (kq ≤ k) ∧ Aside0 (Below w.heap.size w w'))
    case atStart => exact ⟨(0), (0), (by first | rfl | (simp; done) | (simp [*]; done)), (by first | rfl | (simp; done) | (simp [*]; done)), H', ⟨Nat.le_refl _⟩, ⟨by repeat (first | (with_reducible first | exact HB.out | apply below_alloc | apply pw_below_drewN | apply below_drew1) | exact HB.out)⟩⟩
    case round =>
      clear H'
      try clear c1
      try clear p2
      try clear c3
      try clear c3b0
      obtain ⟨x5_1, x6_1, rfl, rfl, HA, HK1, HB⟩ := hrel
      cases gk with
      | zero => exact absurd HA.out (by simp [spec_l3Both.l0])
      | succ k1 =>
        have H := HA.out
        clear HA
        simp only [spec_l3Both.l0] at H
        by_cases c4 : x6_1 ≤ 3
        · rw [if_pos c4] at H
          have c4b0 : decide (x6_1 ≤ 3) = true := decide_eq_true c4
          clear c4
          have HC5 := Aside0.mk H
          clear H
          go_upto_region 7 with (fail)
          go_cut [21] (fun v21 wc => ∃ (kq : Nat) (x21_4 : Bool), v21 = .bool x21_4 ∧ Aside0 (spec_l3Both.j1 kq a0 a1 x5_1 x6_1 x21_4 = some r) ∧ Aside0 (kq ≤ k1) ∧ Aside0 (Below w.heap.size w wc))
          case first =>
            have H := HC5.out
            clear HC5
            replace H := Option.bind_eq_some_iff.mp H
            obtain ⟨t353, A60, H⟩ := H
            replace H : (if t353 = true then ((spec_l3Has.f a1 x6_1).bind fun t354 => (spec_l3Both.j1 k1 a0 a1 x5_1 x6_1 t354)) else (spec_l3Both.j1 k1 a0 a1 x5_1 x6_1 false)) = some r := H
            have A6 := Aside0.mk A60
            clear A60
            by_cases c7 : t353 = true
            · subst c7
              have H1 : ((spec_l3Has.f a1 x6_1).bind fun t354 => (spec_l3Both.j1 k1 a0 a1 x5_1 x6_1 t354)) = some r := by rw [if_pos rfl] at H; exact H
              clear H
              have H := H1
              clear H1
              replace H := Option.bind_eq_some_iff.mp H
              obtain ⟨t354, A80, H⟩ := H
              replace H : (spec_l3Both.j1 k1 a0 a1 x5_1 x6_1 t354) = some r := H
              have A8 := Aside0.mk A80
              clear A80
              have H' := Aside0.mk H
              clear H
              go_wp2_with (first | ((with_reducible refine gate_callee (f := 82) rfl ?_); refine goesL_ (some 16) rfl rfl Try.func82 (by kernel_rfl) rfl #[.int .i64 a0, .int .i64 x6_1] rfl (by (try simp only [List.map_toArray, List.map_cons, List.map_nil]); first | done | rfl | (simp only [List.length_drop, List.length_take]; rfl)) ?_; (with_reducible refine (spec_l3Has.calls a0 x6_1 true _ A6.out).mono ?_); rintro e w9 ⟨rfl, hb⟩; refine ⟨_, rfl, ?_⟩; have n0_ := Aside0.mk (below_step (by repeat (first | (with_reducible first | exact HB.out | apply below_alloc | apply pw_below_drewN | apply below_drew1) | exact HB.out)) hb); clear HB; have HB := n0_; clear n0_; (try clear hb); (try clear hb2); (try clear hk); (try clear hi)) | (go_at_call 82; (with_reducible refine (spec_l3Has.calls a1 x6_1 t354 _ A8.out).mono ?_); rintro e w10 ⟨rfl, hb⟩; have n0_ := Aside0.mk (below_step (by repeat (first | (with_reducible first | exact HB.out | apply below_alloc | apply pw_below_drewN | apply below_drew1) | exact HB.out)) hb); clear HB; have HB := n0_; clear n0_; (try clear hb); (try clear hb2); (try clear hk); (try clear hi)))
              go_meet
              case rel => exact ⟨_, (t354), (by first | rfl | (simp; done) | (simp [*]; done)), H', ⟨by have := HK1.out; first | omega | exact Nat.le_refl _⟩, ⟨by repeat (first | (with_reducible first | exact HB.out | apply below_alloc | apply pw_below_drewN | apply below_drew1) | exact HB.out)⟩⟩
            · replace c7 := Bool.eq_false_iff.mpr c7
              subst c7
              have H1 : (spec_l3Both.j1 k1 a0 a1 x5_1 x6_1 false) = some r := by rw [if_neg (show ¬ (false = true) by decide)] at H; exact H
              clear H
              have H := H1
              clear H1
              have H' := Aside0.mk H
              clear H
              go_wp2_with (first | ((with_reducible refine gate_callee (f := 82) rfl ?_); refine goesL_ (some 16) rfl rfl Try.func82 (by kernel_rfl) rfl #[.int .i64 a0, .int .i64 x6_1] rfl (by (try simp only [List.map_toArray, List.map_cons, List.map_nil]); first | done | rfl | (simp only [List.length_drop, List.length_take]; rfl)) ?_; (with_reducible refine (spec_l3Has.calls a0 x6_1 false _ A6.out).mono ?_); rintro e w11 ⟨rfl, hb⟩; refine ⟨_, rfl, ?_⟩; have n0_ := Aside0.mk (below_step (by repeat (first | (with_reducible first | exact HB.out | apply below_alloc | apply pw_below_drewN | apply below_drew1) | exact HB.out)) hb); clear HB; have HB := n0_; clear n0_; (try clear hb); (try clear hb2); (try clear hk); (try clear hi)))
              go_meet
              case rel => exact ⟨_, (false), (by first | rfl | (simp; done) | (simp [*]; done)), H', ⟨by have := HK1.out; first | omega | exact Nat.le_refl _⟩, ⟨by repeat (first | (with_reducible first | exact HB.out | apply below_alloc | apply pw_below_drewN | apply below_drew1) | exact HB.out)⟩⟩
          case rest =>
            clear HC5
            try clear c1
            try clear p2
            try clear c3
            try clear c3b0
            try clear c4
            try clear c4b0
            try clear c7
            try clear c8
            try clear c11
            try clear p2
            obtain ⟨kq, x21_4, rfl, HA, HJ4, HB⟩ := hcut
            cases kq with
            | zero => exact absurd HA.out (by simp [spec_l3Both.j1])
            | succ kj4 =>
              have H := HA.out
              clear HA
              simp only [spec_l3Both.j1] at H
              by_cases c12 : x21_4 = true
              · subst c12
                have H1 : ((spec_l3Bit.f x6_1).bind fun t355 => (spec_l3Both.l0 kj4 a0 a1 (wrap64 (x5_1 + t355)) (wrap64 (x6_1 + 1)))) = some r := by rw [if_pos rfl] at H; exact H
                clear H
                have H := H1
                clear H1
                replace H := Option.bind_eq_some_iff.mp H
                obtain ⟨t355, A130, H⟩ := H
                replace H : (spec_l3Both.l0 kj4 a0 a1 (wrap64 (x5_1 + t355)) (wrap64 (x6_1 + 1))) = some r := H
                have A13 := Aside0.mk A130
                clear A130
                have H' := Aside0.mk H
                clear H
                go_wp2_with (first | ((with_reducible refine gate_callee (f := 99) rfl ?_); refine goesL_ (some 24) rfl rfl Try.func99 (by kernel_rfl) rfl #[.int .i64 x6_1] rfl (by (try simp only [List.map_toArray, List.map_cons, List.map_nil]); first | done | rfl | (simp only [List.length_drop, List.length_take]; rfl)) ?_; (with_reducible refine (spec_l3Bit.calls x6_1 t355 _ A13.out).mono ?_); rintro e w14 ⟨rfl, hb⟩; refine ⟨_, rfl, ?_⟩; have n0_ := Aside0.mk (below_step (by repeat (first | (with_reducible first | exact HB.out | apply below_alloc | apply pw_below_drewN | apply below_drew1) | exact HB.out)) hb); clear HB; have HB := n0_; clear n0_; (try clear hb); (try clear hb2); (try clear hk); (try clear hi)))
                go_roundg kj4
                case measure => have := HK1.out; have := HJ4.out; omega
                case rel => exact ⟨(wrap64 (x5_1 + t355)), (wrap64 (x6_1 + 1)), (by first | rfl | (simp; done) | (simp [*]; done)), (by first | rfl | (simp; done) | (simp [*]; done)), H', ⟨by have := HK1.out; have := HJ4.out; omega⟩, ⟨by repeat (first | (with_reducible first | exact HB.out | apply below_alloc | apply pw_below_drewN | apply below_drew1) | exact HB.out)⟩⟩
              · replace c12 := Bool.eq_false_iff.mpr c12
                subst c12
                have H1 : (spec_l3Both.l0 kj4 a0 a1 x5_1 (wrap64 (x6_1 + 1))) = some r := by rw [if_neg (show ¬ (false = true) by decide)] at H; exact H
                clear H
                have H := H1
                clear H1
                have H' := Aside0.mk H
                clear H
                go_wp2
                go_roundg kj4
                case measure => have := HK1.out; have := HJ4.out; omega
                case rel => exact ⟨(x5_1), (wrap64 (x6_1 + 1)), (by first | rfl | (simp; done) | (simp [*]; done)), (by first | rfl | (simp; done) | (simp [*]; done)), H', ⟨by have := HK1.out; have := HJ4.out; omega⟩, ⟨by repeat (first | (with_reducible first | exact HB.out | apply below_alloc | apply pw_below_drewN | apply below_drew1) | exact HB.out)⟩⟩
        · rw [if_neg c4] at H
          have c4b0 : decide (x6_1 ≤ 3) = false := decide_eq_false c4
          clear c4
          obtain rfl := Option.some.inj H
          go_wp2
          go_ret
          exact ⟨by first | rfl | (simp [errW_none, errW_some] <;> rfl) | (simp [*, errW_none, errW_some] <;> rfl), by repeat (first | (with_reducible first | exact HB.out | apply below_alloc | apply pw_below_drewN | apply below_drew1) | exact HB.out)⟩
def spec_l3Merge.f (k : Nat) (l0 : List Int) (a1 : Int) (a2 : Int) : Option (Bool × List Int) := if a1 ≥ (l0.length : Int) then (some (false, l0)) else (if 0 ≤ a1 then (if a1 < (l0.length : Int) then ((spec_l3Both.f k (rd l0 a1) a2).bind fun t357 => (if t357 = (rd l0 a1) then (some (false, l0)) else (some (true, (l0.set (a1 : Int).toNat t357))))) else (none)) else (none))
set_option maxHeartbeats 8000000 in
set_option maxRecDepth 100000 in
theorem spec_l3Merge.calls (k : Nat) (P0_ : Nat → Prop) (u9000_ : Value) (l0 : List Int) (a1 : Int) (a2 : Int) (r1 : Bool) (r2 : List Int) (w0 w : World) (hB : Below w0.heap.size w0 w) (ho0 : Kd.R (Kd.int .i64) 3 w w0.heap.size P0_ u9000_ l0) (h : spec_l3Merge.f k l0 a1 a2 = some (r1, r2)) :
    Calls Try.prog 106 #[u9000_, .int .i64 a1, .int .i64 a2] w fun e w' => e = .returned (.bool r1) ∧ Kd.R (Kd.int .i64) 3 w' w0.heap.size (fun k_ => (P0_ k_ ∨ w.heap.size ≤ k_)) u9000_ r2 ∧ Below w0.heap.size w0 w' ∧ Kept w w' (fun k_ => P0_ k_) := by
  have HO0 := Aside0.mk (show Kd.R (Kd.int .i64) 3 w w0.heap.size (fun k_ => (P0_ k_ ∨ w.heap.size ≤ k_)) u9000_ l0 from Kd.R_mono ho0 (fun k_ hk => (.inl hk)))
  have HK := Aside0.mk (Kept.refl w (fun k_ => P0_ k_))
  have HW0 := Aside0.mk hB.size
  have HB := Aside0.mk hB
  clear hB
  have H : (if a1 ≥ (l0.length : Int) then (some (false, l0)) else (if 0 ≤ a1 then (if a1 < (l0.length : Int) then ((spec_l3Both.f k (rd l0 a1) a2).bind fun t357 => (if t357 = (rd l0 a1) then (some (false, l0)) else (some (true, (l0.set (a1 : Int).toNat t357))))) else (none)) else (none))) = some (r1, r2) := h
  clear h
  by_cases c4 : a1 ≥ (l0.length : Int)
  · rw [if_pos c4] at H
    have c4b0 : decide ((l0.length : Int) ≤ a1) = true := decide_eq_true c4
    clear c4
    simp only [Option.some.injEq, Prod.mk.injEq] at H
    obtain ⟨rfl, rfl⟩ := H
    obtain ⟨Ao5, co5, eo5⟩ := Kd.R_slice HO0.out
    subst eo5
    go_enter Try.func106, Try.ntmps106
    go_wp2
    go_ret
    exact ⟨by first | rfl | (simp [errW_none, errW_some] <;> rfl) | (simp [*, errW_none, errW_some] <;> rfl), by (with_reducible repeat (first | apply Kd.R_alloc | apply Kd.R_drewN | apply Kd.R_drew)); exact HO0.out, by repeat (first | (with_reducible first | exact HB.out | apply below_alloc | apply pw_below_drewN | apply below_drew1) | exact HB.out), by repeat (first | (with_reducible first | exact HK.out | apply Kept.alloc | apply Kept.drewN | apply Kept.drew) | exact HK.out)⟩
  · rw [if_neg c4] at H
    have c4b0 : decide ((l0.length : Int) ≤ a1) = false := decide_eq_false c4
    clear c4
    by_cases c6 : 0 ≤ a1
    · rw [if_pos c6] at H
      have c6b0 : decide (0 ≤ a1) = true := decide_eq_true c6
      clear c6
      by_cases c7 : a1 < (l0.length : Int)
      · rw [if_pos c7] at H
        have c7b0 : decide (a1 < (l0.length : Int)) = true := decide_eq_true c7
        clear c7
        replace H := Option.bind_eq_some_iff.mp H
        obtain ⟨t357, A80, H⟩ := H
        replace H : (if t357 = (rd l0 a1) then (some (false, l0)) else (some (true, (l0.set (a1 : Int).toNat t357)))) = some (r1, r2) := H
        have A8 := Aside0.mk A80
        clear A80
        by_cases c9 : t357 = (rd l0 a1)
        · rw [if_pos c9] at H
          have c9b0 : (t357 == (rd l0 a1)) = true := beq_iff_eq.mpr c9
          have c9b1 : (t357 != (rd l0 a1)) = false := bne_eq_false_iff_eq.mpr c9
          clear c9
          simp only [Option.some.injEq, Prod.mk.injEq] at H
          obtain ⟨rfl, rfl⟩ := H
          obtain ⟨Ao10, co10, eo10⟩ := Kd.R_slice HO0.out
          subst eo10
          have p356 : 0 ≤ (a1 : Int) := of_decide_eq_true (by first | (with_reducible assumption) | assumption)
          have q356 : a1 < (l0.length : Int) := of_decide_eq_true (by first | (with_reducible assumption) | assumption)
          obtain ⟨ad356, e356, hx356_0⟩ := Kd.at_int (Kd.R_reads' HO0.out).2.2 a1 p356 q356
          cases e356
          replace p356 := eq_true p356
          replace q356 := eq_true q356
          go_enter Try.func106, Try.ntmps106
          go_wp2_with (first | ((with_reducible refine gate_callee (f := 111) rfl ?_); refine goesL_ (some 17) rfl rfl Try.func111 (by kernel_rfl) rfl #[.int .i64 (rd l0 a1), .int .i64 a2] rfl (by (try simp only [List.map_toArray, List.map_cons, List.map_nil]); first | done | rfl | (simp only [List.length_drop, List.length_take]; rfl)) ?_; (with_reducible refine (spec_l3Both.calls k (rd l0 a1) a2 t357 _ A8.out).mono ?_); rintro e w11 ⟨rfl, hb⟩; refine ⟨_, rfl, ?_⟩; have n0_ := Aside0.mk (Kd.R_below (by (with_reducible repeat (first | apply Kd.R_alloc | apply Kd.R_drewN | apply Kd.R_drew)); exact HO0.out) hb); have n1_ := Aside0.mk (Kept.below (S := (fun k_ => P0_ k_)) (by repeat (first | (with_reducible first | exact HK.out | apply Kept.alloc | apply Kept.drewN | apply Kept.drew) | exact HK.out)) hb); have n2_ := Aside0.mk (below_step (by repeat (first | (with_reducible first | exact HB.out | apply below_alloc | apply pw_below_drewN | apply below_drew1) | exact HB.out)) hb); clear HO0; clear HK; clear HB; have HO0 := n0_; have HK := n1_; have HB := n2_; clear n0_ n1_ n2_; (try clear hb); (try clear hb2); (try clear hk); (try clear hi); have p358 : 0 ≤ (a1 : Int) := of_decide_eq_true (by first | (with_reducible assumption) | assumption); have q358 : a1 < (l0.length : Int) := of_decide_eq_true (by first | (with_reducible assumption) | assumption); obtain ⟨ad358, e358, hx358_0⟩ := Kd.at_int (Kd.R_reads' HO0.out).2.2 a1 p358 q358; obtain rfl : ad356 = ad358 := (by injection e358); replace p358 := eq_true p358; replace q358 := eq_true q358))
          go_ret
          exact ⟨by first | rfl | (simp [errW_none, errW_some] <;> rfl) | (simp [*, errW_none, errW_some] <;> rfl), by (with_reducible repeat (first | apply Kd.R_alloc | apply Kd.R_drewN | apply Kd.R_drew)); exact HO0.out, by repeat (first | (with_reducible first | exact HB.out | apply below_alloc | apply pw_below_drewN | apply below_drew1) | exact HB.out), by repeat (first | (with_reducible first | exact HK.out | apply Kept.alloc | apply Kept.drewN | apply Kept.drew) | exact HK.out)⟩
        · rw [if_neg c9] at H
          have c9b0 : (t357 == (rd l0 a1)) = false := beq_eq_false_iff_ne.mpr c9
          have c9b1 : (t357 != (rd l0 a1)) = true := bne_iff_ne.mpr c9
          obtain ⟨y359, hy359⟩ : ∃ y_ : List Int, y_ = (l0.set (a1 : Int).toNat t357) := ⟨_, rfl⟩
          replace H : (some (true, y359)) = some (r1, r2) := by first | (rw [hy359]; with_reducible exact H) | (have H2_ := (Option.bind_some _ _).symm.trans H; rw [hy359]; with_reducible exact H2_) | (have H2_ := (Option.bind_some _ _).symm.trans H; with_reducible exact H2_) | with_reducible exact H | (rw [hy359]; exact H) | exact H
          have Ny359 := Aside0.mk hy359
          clear hy359
          simp only [Option.some.injEq, Prod.mk.injEq] at H
          obtain ⟨rfl, rfl⟩ := H
          obtain ⟨Ao13, co13, eo13⟩ := Kd.R_slice HO0.out
          subst eo13
          have p356 : 0 ≤ (a1 : Int) := of_decide_eq_true (by first | (with_reducible assumption) | assumption)
          have q356 : a1 < (l0.length : Int) := of_decide_eq_true (by first | (with_reducible assumption) | assumption)
          obtain ⟨ad356, e356, hx356_0⟩ := Kd.at_int (Kd.R_reads' HO0.out).2.2 a1 p356 q356
          cases e356
          replace p356 := eq_true p356
          replace q356 := eq_true q356
          go_enter Try.func106, Try.ntmps106
          go_wp2_with (first | ((with_reducible refine gate_callee (f := 111) rfl ?_); refine goesL_ (some 17) rfl rfl Try.func111 (by kernel_rfl) rfl #[.int .i64 (rd l0 a1), .int .i64 a2] rfl (by (try simp only [List.map_toArray, List.map_cons, List.map_nil]); first | done | rfl | (simp only [List.length_drop, List.length_take]; rfl)) ?_; (with_reducible refine (spec_l3Both.calls k (rd l0 a1) a2 t357 _ A8.out).mono ?_); rintro e w14 ⟨rfl, hb⟩; refine ⟨_, rfl, ?_⟩; have n0_ := Aside0.mk (Kd.R_below (by (with_reducible repeat (first | apply Kd.R_alloc | apply Kd.R_drewN | apply Kd.R_drew)); exact HO0.out) hb); have n1_ := Aside0.mk (Kept.below (S := (fun k_ => P0_ k_)) (by repeat (first | (with_reducible first | exact HK.out | apply Kept.alloc | apply Kept.drewN | apply Kept.drew) | exact HK.out)) hb); have n2_ := Aside0.mk (below_step (by repeat (first | (with_reducible first | exact HB.out | apply below_alloc | apply pw_below_drewN | apply below_drew1) | exact HB.out)) hb); clear HO0; clear HK; clear HB; have HO0 := n0_; have HK := n1_; have HB := n2_; clear n0_ n1_ n2_; (try clear hb); (try clear hb2); (try clear hk); (try clear hi); have p358 : 0 ≤ (a1 : Int) := of_decide_eq_true (by first | (with_reducible assumption) | assumption); have q358 : a1 < (l0.length : Int) := of_decide_eq_true (by first | (with_reducible assumption) | assumption); obtain ⟨ad358, e358, hx358_0⟩ := Kd.at_int (Kd.R_reads' HO0.out).2.2 a1 p358 q358; obtain rfl : ad356 = ad358 := (by injection e358); replace p358 := eq_true p358; replace q358 := eq_true q358; have p12 : 0 ≤ (a1 : Int) := of_decide_eq_true (by first | (with_reducible assumption) | assumption); have q12 : (a1 : Int) < ((l0.length : Int) : Int) := of_decide_eq_true (by first | (with_reducible assumption) | assumption); obtain ⟨go12, co12, eo12, gb12, gl12, cl12, HG12⟩ := Kd.R_form HO0.out (by omega); (first | cases eo12 | (injection eo12 with ea_ en_ ec_; (first | subst ea_ | (injection ea_ with ea_; subst ea_)); subst ec_; clear en_)); have GB12 := Aside0.mk gb12; have GG12 := Aside0.mk HG12; clear gb12 gl12 HG12; have HMgo12 := Aside0.mk (show (P0_ go12 ∨ w.heap.size ≤ go12) from (HO0.out.1 _ rfl)); (first | simp only [add_plain] at hx356_0 | skip); (first | simp only [add_plain] at hx358_0 | skip); obtain ⟨hx12_0, hf12_0⟩ := Kd.R_celln 0 HO0.out (a1 : Int) p12 q12; replace p12 := eq_true p12; replace q12 := eq_true q12; obtain ⟨hy15_, hz15_⟩ := Kd.R_celln 0 HO0.out (a1 : Int) (of_decide_eq_true (by first | (with_reducible assumption) | assumption)) (of_decide_eq_true (by first | (with_reducible assumption) | assumption)); have HP15 := Kd.R_putg HO0.out (a1 : Int) t357) | ((with_reducible refine gate_store (t := 3) (p := 27) rfl ?_); refine store_event (t := 3) (p := 27) (v := ?vo_w16) (w1 := (w14.setCell ⟨go12, (a1 : Int).toNat, none⟩ (.int .i64 t357))) ?hg ?ho ?hn ?hr ?_; (case ho => rfl); (case hg => rfl); (case hn => rfl); (case hr => first | (go_simp; done) | (go_simp; rfl)); intro w16 hw; have hg : w14.grownBy w16 (some go12) := (by rw [hw]; exact HP15.2); have hp_ : Kd.R (Kd.int .i64) 3 w16 w0.heap.size (fun k_ => (P0_ k_ ∨ w.heap.size ≤ k_)) (.slice (some ⟨go12, 0, none⟩) l0.length co13) y359 := (by rw [hw, Ny359.out]; exact HP15.1); clear HP15; have n0_ := Aside0.mk (hp_); have n1_ := Aside0.mk ((by rw [hw]; exact below_set (HB.out) GB12.out : Below w0.heap.size w0 w16)); have n2_ := Aside0.mk (Kept.of_grown (S := (fun k_ => P0_ k_)) hg (by repeat (first | (with_reducible first | exact HK.out | apply Kept.alloc | apply Kept.drewN | apply Kept.drew) | exact HK.out)) (fun k_ e_ => (HO0.out.1 k_ e_))); clear HO0; clear HB; clear HK; have HO0 := n0_; have HB := n1_; have HK := n2_; clear n0_ n1_ n2_; clear hg hw hp_))
          go_ret
          exact ⟨by first | rfl | (simp [errW_none, errW_some] <;> rfl) | (simp [*, errW_none, errW_some] <;> rfl), by (with_reducible repeat (first | apply Kd.R_alloc | apply Kd.R_drewN | apply Kd.R_drew)); exact HO0.out, by repeat (first | (with_reducible first | exact HB.out | apply below_alloc | apply pw_below_drewN | apply below_drew1) | exact HB.out), by repeat (first | (with_reducible first | exact HK.out | apply Kept.alloc | apply Kept.drewN | apply Kept.drew) | exact HK.out)⟩
      · rw [if_neg c7] at H
        exact absurd H (by simp)
    · rw [if_neg c6] at H
      exact absurd H (by simp)
end Go.Proofs.Ytmklpbmlgjkbiaa.PS
end
