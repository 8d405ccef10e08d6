/- What the row of CS rests on, part 4. -/
import Derived.Test.YtmklpbmlgjkbiaaProg
import Derived.Below
import Derived.Deep.Draws
import Derived.Deep.AppendLies
import Derived.Maps.AppendAt
import Derived.OwnWalk
import Derived.Laws.BytesArg
import Derived.Laws.MakeOwn
import Derived.Laws.OwnMore
import Derived.Deep.OwnRows
import Derived.Tactics
import Derived.Lib.ConvBytes
import Derived.Laws.Slices
import Derived.WalkKit
import Derived.KernelRfl
import Derived.RowKit3
import Derived.Deep.LoopGhost
import Derived.Deep.QuietTactic
import Derived.BigQuiet
import Derived.WideLaws
import Derived.Deep.DeepCutAuto
import Derived.Deep.CutBlock
import Derived.Deep.RegionHeld3
import Derived.Laws.Rows
import Derived.Lib.AppendStr
import Derived.ArgAppend
import Derived.Laws.IdiomCopy
import Derived.OrdersHeld
import Derived.Laws.BitsLemmas
import Derived.RowKit
import Derived.Laws.StructEq
import Derived.Deep.RegionWith
import Derived.Lib.Bytealg
import Derived.Shelf.Strings.Search3
import Derived.WalkSpells
import Derived.Lib.OthersKept
import Derived.Lib.Hide
import Derived.WalkSmall
import Derived.Laws.EntriesVeiled
import Derived.ProofKit
import Derived.Lib.SmallJoins
import Derived.Deep.Slices
import GoSem.ClaimJoined
import Derived.JoinedOf
import Derived.Test.YtmklpbmlgjkbiaaQCS2
section
namespace Go.Proofs.Ytmklpbmlgjkbiaa.PS
open Go.RowKit Go.Proofs.YtmklpbmlgjkbiaaW.PrintWords Go.Proofs.YtmklpbmlgjkbiaaW.PrintLast Go.Proofs.YtmklpbmlgjkbiaaW.PrintMore
attribute [local go_sem] max2_int min2_int max_two min_two max_three min_three max_four min_four   -- for this text's walks alone
set_option linter.unusedVariables false
set_option linter.unusedSimpArgs false
mutual
def spec_l3From.j0 : Nat → List Int → Int → Int → Int → Int → Int → Int → Int → Int → Int → Option (Bool × List Int)
  | 0, _, _, _, _, _, _, _, _, _, _ => none
  | k + 1, x1, x2, x8, x9, x362000, x362001, x362002, x362003, x362004, x362005 => if x362000 = 5 then ((spec_l3Merge.f k x1 x362003 1).bind fun bt365 => (spec_l3From.j2 k bt365.2 x2 x9 bt365.1)) else (if x362000 = 9 then ((spec_l3Merge.f k x1 x362003 x8).bind fun bt367 => (some (bt367.1, bt367.2))) else (if x362000 = 8 then (spec_l3From.j1 k x1 x2 x8 x9 false x362000 (x362000 == 8) x362000 x362001 x362002 x362003 x362004 x362005) else (spec_l3From.j1 k x1 x2 x8 x9 false x362000 (x362000 == 10) x362000 x362001 x362002 x362003 x362004 x362005)))
def spec_l3From.j2 : Nat → List Int → Int → Int → Bool → Option (Bool × List Int)
  | 0, _, _, _, _ => none
  | k + 1, x1, x2, x9, x10 => (spec_l3Merge.f k x1 (wrap64 (x2 + 1)) x9).bind fun bt371 => (if bt371.1 = true then (some (true, bt371.2)) else (some (x10, bt371.2)))
def spec_l3From.j1 : Nat → List Int → Int → Int → Int → Bool → Int → Bool → Int → Int → Int → Int → Int → Int → Option (Bool × List Int)
  | 0, _, _, _, _, _, _, _, _, _, _, _, _, _ => none
  | k + 1, x1, x2, x8, x9, x10, x28, x42, x362000, x362001, x362002, x362003, x362004, x362005 => if x42 = true then ((spec_l3Merge.f k x1 x362003 x8).bind fun bt369 => (spec_l3From.j2 k bt369.2 x2 x9 bt369.1)) else (if x28 = 14 then (some (false, x1)) else (spec_l3From.j2 k x1 x2 x9 x10))
end
def spec_l3From.f (k : Nat) (l0 : List (S29)) (l1 : List Int) (a2 : Int) : Option (Bool × List Int) := if 0 ≤ a2 then (if a2 < (l0.length : Int) then (if a2 < (l1.length : Int) then ((spec_l3Fills.f ((rd_T29 l0 a2).f0)).bind fun t363 => (if t363 = true then ((spec_l3With.f (rd l1 a2) ((rd_T29 l0 a2).f1)).bind fun t364 => (spec_l3From.j0 k l1 a2 (rd l1 a2) t364 ((rd_T29 l0 a2).f0) ((rd_T29 l0 a2).f1) ((rd_T29 l0 a2).f2) ((rd_T29 l0 a2).f3) ((rd_T29 l0 a2).f4.f0) ((rd_T29 l0 a2).f4.f1))) else (spec_l3From.j0 k l1 a2 (rd l1 a2) (rd l1 a2) ((rd_T29 l0 a2).f0) ((rd_T29 l0 a2).f1) ((rd_T29 l0 a2).f2) ((rd_T29 l0 a2).f3) ((rd_T29 l0 a2).f4.f0) ((rd_T29 l0 a2).f4.f1)))) else (none)) else (none)) else (none)
set_option maxHeartbeats 8000000 in
set_option maxRecDepth 100000 in
theorem spec_l3From.calls (k : Nat) (A0 : Option Addr) (c0 : Nat) (l0 : List (S29)) (P1_ : Nat → Prop) (u9000_ : Value) (l1 : List Int) (a2 : Int) (r1 : Bool) (r2 : List Int) (w0 w : World) (hB : Below w0.heap.size w0 w) (hr0 : ∀ W_, Kept w W_ (fun k_ => P1_ k_) → Kd.C k29 W_ A0 l0.length l0) (hc0 : l0.length ≤ c0) (ho1 : Kd.R (Kd.int .i64) 3 w w0.heap.size P1_ u9000_ l1) (h : spec_l3From.f k l0 l1 a2 = some (r1, r2)) :
    Calls Try.prog 98 #[.slice A0 l0.length c0, u9000_, .int .i64 a2] w fun e w' => e = .returned (.bool r1) ∧ Kd.R (Kd.int .i64) 3 w' w0.heap.size (fun k_ => (P1_ k_ ∨ w.heap.size ≤ k_)) u9000_ r2 ∧ Below w0.heap.size w0 w' ∧ Kept w w' (fun k_ => P1_ k_) := by
  have hu29 := Try.underlying29
  have HR0 := Aside0.mk hr0
  have HC0 := Aside0.mk hc0
  clear hr0 hc0
  have HO1 := Aside0.mk (show Kd.R (Kd.int .i64) 3 w w0.heap.size (fun k_ => (P1_ k_ ∨ w.heap.size ≤ k_)) u9000_ l1 from Kd.R_mono ho1 (fun k_ hk => (.inl hk)))
  have HK := Aside0.mk (Kept.refl w (fun k_ => P1_ k_))
  have HW0 := Aside0.mk hB.size
  have HB := Aside0.mk hB
  clear hB
  have H : (if 0 ≤ a2 then (if a2 < (l0.length : Int) then (if a2 < (l1.length : Int) then ((spec_l3Fills.f ((rd_T29 l0 a2).f0)).bind fun t363 => (if t363 = true then ((spec_l3With.f (rd l1 a2) ((rd_T29 l0 a2).f1)).bind fun t364 => (spec_l3From.j0 k l1 a2 (rd l1 a2) t364 ((rd_T29 l0 a2).f0) ((rd_T29 l0 a2).f1) ((rd_T29 l0 a2).f2) ((rd_T29 l0 a2).f3) ((rd_T29 l0 a2).f4.f0) ((rd_T29 l0 a2).f4.f1))) else (spec_l3From.j0 k l1 a2 (rd l1 a2) (rd l1 a2) ((rd_T29 l0 a2).f0) ((rd_T29 l0 a2).f1) ((rd_T29 l0 a2).f2) ((rd_T29 l0 a2).f3) ((rd_T29 l0 a2).f4.f0) ((rd_T29 l0 a2).f4.f1)))) else (none)) else (none)) else (none)) = some (r1, r2) := h
  clear h
  by_cases c4 : 0 ≤ a2
  · rw [if_pos c4] at H
    have c4b0 : decide (0 ≤ a2) = true := decide_eq_true c4
    clear c4
    by_cases c5 : a2 < (l0.length : Int)
    · rw [if_pos c5] at H
      have c5b0 : decide (a2 < (l0.length : Int)) = true := decide_eq_true c5
      clear c5
      by_cases c6 : a2 < (l1.length : Int)
      · rw [if_pos c6] at H
        have c6b0 : decide (a2 < (l1.length : Int)) = true := decide_eq_true c6
        clear c6
        replace H := Option.bind_eq_some_iff.mp H
        obtain ⟨t363, A70, H⟩ := H
        replace H : (if t363 = true then ((spec_l3With.f (rd l1 a2) ((rd_T29 l0 a2).f1)).bind fun t364 => (spec_l3From.j0 k l1 a2 (rd l1 a2) t364 ((rd_T29 l0 a2).f0) ((rd_T29 l0 a2).f1) ((rd_T29 l0 a2).f2) ((rd_T29 l0 a2).f3) ((rd_T29 l0 a2).f4.f0) ((rd_T29 l0 a2).f4.f1))) else (spec_l3From.j0 k l1 a2 (rd l1 a2) (rd l1 a2) ((rd_T29 l0 a2).f0) ((rd_T29 l0 a2).f1) ((rd_T29 l0 a2).f2) ((rd_T29 l0 a2).f3) ((rd_T29 l0 a2).f4.f0) ((rd_T29 l0 a2).f4.f1))) = some (r1, r2) := H
        have A7 := Aside0.mk A70
        clear A70
        have HC8 := Aside0.mk H
        clear H
        have p360 : 0 ≤ (a2 : Int) := of_decide_eq_true (by first | (with_reducible assumption) | assumption)
        have q360 : a2 < (l0.length : Int) := of_decide_eq_true (by first | (with_reducible assumption) | assumption)
        obtain ⟨ad360, e360, hx360_0, hx360_1, hx360_2, hx360_3, hx360_4, hx360_5⟩ := at_T29 (Kd.C_kept_now HR0.out HK.out) a2 p360 q360
        cases e360
        replace p360 := eq_true p360
        replace q360 := eq_true q360
        go_enter Try.func98, Try.ntmps98
        go_upto_if 22 with (first | ((with_reducible refine gate_dst (N := 7) rfl ?_); refine box_event ?hg (N := 7) ?hd (cs := #[.int .i64 0, .int .i64 0, .int .i64 0, .int .i64 0, .int .i64 0, .int .i64 0]) (t := 29) ?hr ?_; (case hd => rfl); (case hg => rfl); (case hr => first | (go_simp; done) | (go_simp; rfl)); intro gb361 hg w9 hbox hb; have n0_ := Aside0.mk (Kd.R_below (by (with_reducible repeat (first | apply Kd.R_alloc | apply Kd.R_drewN | apply Kd.R_drew)); exact HO1.out) hb); have n1_ := Aside0.mk (Kept.below (S := (fun k_ => P1_ k_)) (by repeat (first | (with_reducible first | exact HK.out | apply Kept.alloc | apply Kept.drewN | apply Kept.drew) | exact HK.out)) hb); have n2_ := Aside0.mk (below_step (by repeat (first | (with_reducible first | exact HB.out | apply below_alloc | apply pw_below_drewN | apply below_drew1) | exact HB.out)) hb); have n3_ := Aside0.mk (hbox); have n4_ := Aside0.mk ((by rw [hg]; exact (by first | exact HK.out.1 | exact (show Kept w _ (fun k_ => P1_ k_) from by repeat (first | (with_reducible first | exact HK.out | apply Kept.alloc | apply Kept.drewN | apply Kept.drew) | exact HK.out)).1) : w.heap.size ≤ gb361)); have n5_ := Aside0.mk ((by rw [hg]; exact (below_size (by repeat (first | (with_reducible first | exact HB.out | apply below_alloc | apply pw_below_drewN | apply below_drew1) | exact HB.out))) : w0.heap.size ≤ gb361)); clear HO1; clear HK; clear HB; have HO1 := n0_; have HK := n1_; have HB := n2_; have BK361 := n3_; have GW361 := n4_; have GE361 := n5_; clear n0_ n1_ n2_ n3_ n4_ n5_; clear hb hbox hg; have hcz10_0 : w9.cell? ⟨gb361, 0, none⟩ = some (.int .i64 0) := (blk_cell BK361.out 0).trans rfl; have hcz10_1 : w9.cell? ⟨gb361, 1, none⟩ = some (.int .i64 0) := (blk_cell BK361.out 1).trans rfl; have hcz10_2 : w9.cell? ⟨gb361, 2, none⟩ = some (.int .i64 0) := (blk_cell BK361.out 2).trans rfl; have hcz10_3 : w9.cell? ⟨gb361, 3, none⟩ = some (.int .i64 0) := (blk_cell BK361.out 3).trans rfl; have hcz10_4 : w9.cell? ⟨gb361, 4, none⟩ = some (.int .i64 0) := (blk_cell BK361.out 4).trans rfl; have hcz10_5 : w9.cell? ⟨gb361, 5, none⟩ = some (.int .i64 0) := (blk_cell BK361.out 5).trans rfl; have hfz10_0 := blk_frozen BK361.out 0; have hfz10_1 := blk_frozen BK361.out 1; have hfz10_2 := blk_frozen BK361.out 2; have hfz10_3 := blk_frozen BK361.out 3; have hfz10_4 := blk_frozen BK361.out 4; have hfz10_5 := blk_frozen BK361.out 5; obtain ⟨Ao11, co11, eo11⟩ := Kd.R_slice HO1.out; subst eo11; have p362 : 0 ≤ (a2 : Int) := of_decide_eq_true (by first | (with_reducible assumption) | assumption); have q362 : a2 < (l1.length : Int) := of_decide_eq_true (by first | (with_reducible assumption) | assumption); obtain ⟨ad362, e362, hx362_0⟩ := Kd.at_int (Kd.R_reads' HO1.out).2.2 a2 p362 q362; cases e362; have hn362_0 : ad362.block ≠ gb361 := Kd.own_blk (Kd.R_ne HO1.out BK361.out (by decide)); have hn362_1 : ad362.block ≠ gb361 := Kd.own_blk (Kd.R_ne HO1.out BK361.out (by decide)); have hn362_2 : ad362.block ≠ gb361 := Kd.own_blk (Kd.R_ne HO1.out BK361.out (by decide)); have hn362_3 : ad362.block ≠ gb361 := Kd.own_blk (Kd.R_ne HO1.out BK361.out (by decide)); have hn362_4 : ad362.block ≠ gb361 := Kd.own_blk (Kd.R_ne HO1.out BK361.out (by decide)); have hn362_5 : ad362.block ≠ gb361 := Kd.own_blk (Kd.R_ne HO1.out BK361.out (by decide)); replace hx362_0 := (cell_far (p := ⟨gb361, 0, none⟩) (by first | (rw [add_block]; exact hn362_0) | (show (Addr.add _ _).block ≠ _; rw [add_block]; exact hn362_0) | exact hn362_0) (.int .i64 ((rd_T29 l0 a2).f0))).trans hx362_0; replace hx362_0 := (cell_far (p := ⟨gb361, 1, none⟩) (by first | (rw [add_block]; exact hn362_1) | (show (Addr.add _ _).block ≠ _; rw [add_block]; exact hn362_1) | exact hn362_1) (.int .i64 ((rd_T29 l0 a2).f1))).trans hx362_0; replace hx362_0 := (cell_far (p := ⟨gb361, 2, none⟩) (by first | (rw [add_block]; exact hn362_2) | (show (Addr.add _ _).block ≠ _; rw [add_block]; exact hn362_2) | exact hn362_2) (.int .i64 ((rd_T29 l0 a2).f2))).trans hx362_0; replace hx362_0 := (cell_far (p := ⟨gb361, 3, none⟩) (by first | (rw [add_block]; exact hn362_3) | (show (Addr.add _ _).block ≠ _; rw [add_block]; exact hn362_3) | exact hn362_3) (.int .i64 ((rd_T29 l0 a2).f3))).trans hx362_0; replace hx362_0 := (cell_far (p := ⟨gb361, 4, none⟩) (by first | (rw [add_block]; exact hn362_4) | (show (Addr.add _ _).block ≠ _; rw [add_block]; exact hn362_4) | exact hn362_4) (.int .i64 ((rd_T29 l0 a2).f4.f0))).trans hx362_0; replace hx362_0 := (cell_far (p := ⟨gb361, 5, none⟩) (by first | (rw [add_block]; exact hn362_5) | (show (Addr.add _ _).block ≠ _; rw [add_block]; exact hn362_5) | exact hn362_5) (.int .i64 ((rd_T29 l0 a2).f4.f1))).trans hx362_0; clear hn362_0; clear hn362_1; clear hn362_2; clear hn362_3; clear hn362_4; clear hn362_5; replace p362 := eq_true p362; replace q362 := eq_true q362) | ((with_reducible refine gate_callee (f := 104) rfl ?_); refine goesL_ (some 22) rfl rfl Try.func104 (by kernel_rfl) rfl #[.int .i64 ((rd_T29 l0 a2).f0)] rfl (by (try simp only [List.map_toArray, List.map_cons, List.map_nil]); first | done | rfl | (simp only [List.length_drop, List.length_take]; rfl)) ?_; (with_reducible refine (spec_l3Fills.calls ((rd_T29 l0 a2).f0) t363 _ A7.out).mono ?_); rintro e w' ⟨rfl, ⟨nd, rfl⟩⟩; refine ⟨_, rfl, ?_⟩))
        (try simp only [Act.put, List.setIfInBounds_toArray, List.set_cons_zero, List.set_cons_succ])
        go_cut [9] (fun v9 wc => ∃ (kq : Nat) (x9_7 : Int), v9 = .int .i64 x9_7 ∧ Aside0 (spec_l3From.j0 kq l1 a2 (rd l1 a2) x9_7 ((rd_T29 l0 a2).f0) ((rd_T29 l0 a2).f1) ((rd_T29 l0 a2).f2) ((rd_T29 l0 a2).f3) ((rd_T29 l0 a2).f4.f0) ((rd_T29 l0 a2).f4.f1) = some (r1, r2)) ∧ Aside0 (kq ≤ k) ∧ Aside0 (Kd.R (Kd.int .i64) 3 wc w0.heap.size (fun k_ => (P1_ k_ ∨ w.heap.size ≤ k_)) (.slice (some ad362) l1.length co11) l1) ∧ Aside0 (wc.heap[gb361]? = some (.cells #[.int .i64 ((rd_T29 l0 a2).f0), .int .i64 ((rd_T29 l0 a2).f1), .int .i64 ((rd_T29 l0 a2).f2), .int .i64 ((rd_T29 l0 a2).f3), .int .i64 ((rd_T29 l0 a2).f4.f0), .int .i64 ((rd_T29 l0 a2).f4.f1)] 29 (0, 0))) ∧ Aside0 (Kept w wc (fun k_ => P1_ k_)) ∧ Aside0 (Below w0.heap.size w0 wc))
        case first =>
          have H := HC8.out
          clear HC8
          by_cases c12 : t363 = true
          · subst c12
            have H1 : ((spec_l3With.f (rd l1 a2) ((rd_T29 l0 a2).f1)).bind fun t364 => (spec_l3From.j0 k l1 a2 (rd l1 a2) t364 ((rd_T29 l0 a2).f0) ((rd_T29 l0 a2).f1) ((rd_T29 l0 a2).f2) ((rd_T29 l0 a2).f3) ((rd_T29 l0 a2).f4.f0) ((rd_T29 l0 a2).f4.f1))) = some (r1, r2) := by rw [if_pos rfl] at H; exact H
            clear H
            have H := H1
            clear H1
            replace H := Option.bind_eq_some_iff.mp H
            obtain ⟨t364, A130, H⟩ := H
            replace H : (spec_l3From.j0 k l1 a2 (rd l1 a2) t364 ((rd_T29 l0 a2).f0) ((rd_T29 l0 a2).f1) ((rd_T29 l0 a2).f2) ((rd_T29 l0 a2).f3) ((rd_T29 l0 a2).f4.f0) ((rd_T29 l0 a2).f4.f1)) = some (r1, r2) := H
            have A13 := Aside0.mk A130
            clear A130
            have H' := Aside0.mk H
            clear H
            have hcz14_0 : w9.cell? ⟨gb361, 0, none⟩ = some (.int .i64 0) := (blk_cell BK361.out 0).trans rfl
            have hcz14_1 : w9.cell? ⟨gb361, 1, none⟩ = some (.int .i64 0) := (blk_cell BK361.out 1).trans rfl
            have hcz14_2 : w9.cell? ⟨gb361, 2, none⟩ = some (.int .i64 0) := (blk_cell BK361.out 2).trans rfl
            have hcz14_3 : w9.cell? ⟨gb361, 3, none⟩ = some (.int .i64 0) := (blk_cell BK361.out 3).trans rfl
            have hcz14_4 : w9.cell? ⟨gb361, 4, none⟩ = some (.int .i64 0) := (blk_cell BK361.out 4).trans rfl
            have hcz14_5 : w9.cell? ⟨gb361, 5, none⟩ = some (.int .i64 0) := (blk_cell BK361.out 5).trans rfl
            have hfz14_0 := blk_frozen BK361.out 0
            have hfz14_1 := blk_frozen BK361.out 1
            have hfz14_2 := blk_frozen BK361.out 2
            have hfz14_3 := blk_frozen BK361.out 3
            have hfz14_4 := blk_frozen BK361.out 4
            have hfz14_5 := blk_frozen BK361.out 5
            go_wp2_with (first | ((with_reducible refine gate_callee (f := 105) rfl ?_); refine goesL_ (some 26) rfl rfl Try.func105 (by kernel_rfl) rfl #[.int .i64 (rd l1 a2), .int .i64 ((rd_T29 l0 a2).f1)] rfl (by (try simp only [List.map_toArray, List.map_cons, List.map_nil]); first | done | rfl | (simp only [List.length_drop, List.length_take]; rfl)) ?_; (with_reducible refine (spec_l3With.calls (rd l1 a2) ((rd_T29 l0 a2).f1) t364 _ A13.out).mono ?_); rintro e w15 ⟨rfl, hb⟩; refine ⟨_, rfl, ?_⟩; have n0_ := Aside0.mk (Kd.R_below (by (with_reducible repeat (first | apply Kd.R_alloc | apply Kd.R_drewN | apply Kd.R_drew)); exact (Kd.R_mono (Kd.R_far (p := ⟨gb361, 5, none⟩) (Kd.R_far (p := ⟨gb361, 4, none⟩) (Kd.R_far (p := ⟨gb361, 3, none⟩) (Kd.R_far (p := ⟨gb361, 2, none⟩) (Kd.R_far (p := ⟨gb361, 1, none⟩) (Kd.R_far (p := ⟨gb361, 0, none⟩) (Kd.R_types HO1.out BK361.out (by decide)) (fun _ hk => hk.2) (.int .i64 ((rd_T29 l0 a2).f0))) (fun _ hk => hk.2) (.int .i64 ((rd_T29 l0 a2).f1))) (fun _ hk => hk.2) (.int .i64 ((rd_T29 l0 a2).f2))) (fun _ hk => hk.2) (.int .i64 ((rd_T29 l0 a2).f3))) (fun _ hk => hk.2) (.int .i64 ((rd_T29 l0 a2).f4.f0))) (fun _ hk => hk.2) (.int .i64 ((rd_T29 l0 a2).f4.f1))) (fun _ h_ => h_.1))) hb); have n1_ := Aside0.mk (blk_below (g := gb361) (o := .cells #[.int .i64 ((rd_T29 l0 a2).f0), .int .i64 ((rd_T29 l0 a2).f1), .int .i64 ((rd_T29 l0 a2).f2), .int .i64 ((rd_T29 l0 a2).f3), .int .i64 ((rd_T29 l0 a2).f4.f0), .int .i64 ((rd_T29 l0 a2).f4.f1)] 29 (0, 0)) (by (with_reducible repeat (first | refine blk_drewN ?_ _ | refine blk_drew ?_ | refine blk_alloc ?_ _)); refine blk_put (cs := #[.int .i64 ((rd_T29 l0 a2).f0), .int .i64 ((rd_T29 l0 a2).f1), .int .i64 ((rd_T29 l0 a2).f2), .int .i64 ((rd_T29 l0 a2).f3), .int .i64 ((rd_T29 l0 a2).f4.f0), .int .i64 0]) ?_ 5 _ rfl; (with_reducible repeat (first | refine blk_drewN ?_ _ | refine blk_drew ?_ | refine blk_alloc ?_ _)); refine blk_put (cs := #[.int .i64 ((rd_T29 l0 a2).f0), .int .i64 ((rd_T29 l0 a2).f1), .int .i64 ((rd_T29 l0 a2).f2), .int .i64 ((rd_T29 l0 a2).f3), .int .i64 0, .int .i64 0]) ?_ 4 _ rfl; (with_reducible repeat (first | refine blk_drewN ?_ _ | refine blk_drew ?_ | refine blk_alloc ?_ _)); refine blk_put (cs := #[.int .i64 ((rd_T29 l0 a2).f0), .int .i64 ((rd_T29 l0 a2).f1), .int .i64 ((rd_T29 l0 a2).f2), .int .i64 0, .int .i64 0, .int .i64 0]) ?_ 3 _ rfl; (with_reducible repeat (first | refine blk_drewN ?_ _ | refine blk_drew ?_ | refine blk_alloc ?_ _)); refine blk_put (cs := #[.int .i64 ((rd_T29 l0 a2).f0), .int .i64 ((rd_T29 l0 a2).f1), .int .i64 0, .int .i64 0, .int .i64 0, .int .i64 0]) ?_ 2 _ rfl; (with_reducible repeat (first | refine blk_drewN ?_ _ | refine blk_drew ?_ | refine blk_alloc ?_ _)); refine blk_put (cs := #[.int .i64 ((rd_T29 l0 a2).f0), .int .i64 0, .int .i64 0, .int .i64 0, .int .i64 0, .int .i64 0]) ?_ 1 _ rfl; (with_reducible repeat (first | refine blk_drewN ?_ _ | refine blk_drew ?_ | refine blk_alloc ?_ _)); refine blk_put (cs := #[.int .i64 0, .int .i64 0, .int .i64 0, .int .i64 0, .int .i64 0, .int .i64 0]) ?_ 0 _ rfl; (with_reducible repeat (first | refine blk_drewN ?_ _ | refine blk_drew ?_ | refine blk_alloc ?_ _)); exact BK361.out) hb); have n2_ := Aside0.mk (Kept.below (S := (fun k_ => P1_ k_)) (by repeat (first | (with_reducible first | exact HK.out | apply Kept.alloc | apply Kept.drewN | apply Kept.drew | refine Kept.setCell ?_ (.inr GW361.out) _) | exact HK.out)) hb); have n3_ := Aside0.mk (below_step (by repeat (first | (with_reducible first | exact HB.out | apply below_alloc | apply pw_below_drewN | apply below_drew1 | refine below_set ?_ GE361.out) | exact HB.out)) hb); clear HO1; clear BK361; clear HK; clear HB; have HO1 := n0_; have BK361 := n1_; have HK := n2_; have HB := n3_; clear n0_ n1_ n2_ n3_; (try clear hb); (try clear hb2); (try clear hk); (try clear hi)))
            go_meet
            case rel => exact ⟨_, (t364), (by first | rfl | (simp; done) | (simp [*]; done)), H', ⟨by first | omega | exact Nat.le_refl _⟩, ⟨by (with_reducible repeat (first | apply Kd.R_alloc | apply Kd.R_drewN | apply Kd.R_drew)); exact HO1.out⟩, ⟨by (with_reducible repeat (first | refine blk_drewN ?_ _ | refine blk_drew ?_ | refine blk_alloc ?_ _)); exact BK361.out⟩, ⟨by repeat (first | (with_reducible first | exact HK.out | apply Kept.alloc | apply Kept.drewN | apply Kept.drew | refine Kept.setCell ?_ (.inr GW361.out) _) | exact HK.out)⟩, ⟨by repeat (first | (with_reducible first | exact HB.out | apply below_alloc | apply pw_below_drewN | apply below_drew1 | refine below_set ?_ GE361.out) | exact HB.out)⟩⟩
          · replace c12 := Bool.eq_false_iff.mpr c12
            subst c12
            have H1 : (spec_l3From.j0 k l1 a2 (rd l1 a2) (rd l1 a2) ((rd_T29 l0 a2).f0) ((rd_T29 l0 a2).f1) ((rd_T29 l0 a2).f2) ((rd_T29 l0 a2).f3) ((rd_T29 l0 a2).f4.f0) ((rd_T29 l0 a2).f4.f1)) = some (r1, r2) := by rw [if_neg (show ¬ (false = true) by decide)] at H; exact H
            clear H
            have H := H1
            clear H1
            have H' := Aside0.mk H
            clear H
            go_wp2
            go_meet
            case rel => exact ⟨_, (rd l1 a2), (by first | rfl | (simp; done) | (simp [*]; done)), H', ⟨by first | omega | exact Nat.le_refl _⟩, ⟨by (with_reducible repeat (first | apply Kd.R_alloc | apply Kd.R_drewN | apply Kd.R_drew)); exact Kd.R_mono (Kd.R_far (p := ⟨gb361, 5, none⟩) (Kd.R_far (p := ⟨gb361, 4, none⟩) (Kd.R_far (p := ⟨gb361, 3, none⟩) (Kd.R_far (p := ⟨gb361, 2, none⟩) (Kd.R_far (p := ⟨gb361, 1, none⟩) (Kd.R_far (p := ⟨gb361, 0, none⟩) (Kd.R_types HO1.out BK361.out (by decide)) (fun _ hk => hk.2) (.int .i64 ((rd_T29 l0 a2).f0))) (fun _ hk => hk.2) (.int .i64 ((rd_T29 l0 a2).f1))) (fun _ hk => hk.2) (.int .i64 ((rd_T29 l0 a2).f2))) (fun _ hk => hk.2) (.int .i64 ((rd_T29 l0 a2).f3))) (fun _ hk => hk.2) (.int .i64 ((rd_T29 l0 a2).f4.f0))) (fun _ hk => hk.2) (.int .i64 ((rd_T29 l0 a2).f4.f1))) (fun _ hk => hk.1)⟩, ⟨by (with_reducible repeat (first | refine blk_drewN ?_ _ | refine blk_drew ?_ | refine blk_alloc ?_ _)); refine blk_put (cs := #[.int .i64 ((rd_T29 l0 a2).f0), .int .i64 ((rd_T29 l0 a2).f1), .int .i64 ((rd_T29 l0 a2).f2), .int .i64 ((rd_T29 l0 a2).f3), .int .i64 ((rd_T29 l0 a2).f4.f0), .int .i64 0]) ?_ 5 _ rfl; (with_reducible repeat (first | refine blk_drewN ?_ _ | refine blk_drew ?_ | refine blk_alloc ?_ _)); refine blk_put (cs := #[.int .i64 ((rd_T29 l0 a2).f0), .int .i64 ((rd_T29 l0 a2).f1), .int .i64 ((rd_T29 l0 a2).f2), .int .i64 ((rd_T29 l0 a2).f3), .int .i64 0, .int .i64 0]) ?_ 4 _ rfl; (with_reducible repeat (first | refine blk_drewN ?_ _ | refine blk_drew ?_ | refine blk_alloc ?_ _)); refine blk_put (cs := #[.int .i64 ((rd_T29 l0 a2).f0), .int .i64 ((rd_T29 l0 a2).f1), .int .i64 ((rd_T29 l0 a2).f2), .int .i64 0, .int .i64 0, .int .i64 0]) ?_ 3 _ rfl; (with_reducible repeat (first | refine blk_drewN ?_ _ | refine blk_drew ?_ | refine blk_alloc ?_ _)); refine blk_put (cs := #[.int .i64 ((rd_T29 l0 a2).f0), .int .i64 ((rd_T29 l0 a2).f1), .int .i64 0, .int .i64 0, .int .i64 0, .int .i64 0]) ?_ 2 _ rfl; (with_reducible repeat (first | refine blk_drewN ?_ _ | refine blk_drew ?_ | refine blk_alloc ?_ _)); refine blk_put (cs := #[.int .i64 ((rd_T29 l0 a2).f0), .int .i64 0, .int .i64 0, .int .i64 0, .int .i64 0, .int .i64 0]) ?_ 1 _ rfl; (with_reducible repeat (first | refine blk_drewN ?_ _ | refine blk_drew ?_ | refine blk_alloc ?_ _)); refine blk_put (cs := #[.int .i64 0, .int .i64 0, .int .i64 0, .int .i64 0, .int .i64 0, .int .i64 0]) ?_ 0 _ rfl; (with_reducible repeat (first | refine blk_drewN ?_ _ | refine blk_drew ?_ | refine blk_alloc ?_ _)); exact BK361.out⟩, ⟨by repeat (first | (with_reducible first | exact HK.out | apply Kept.alloc | apply Kept.drewN | apply Kept.drew | refine Kept.setCell ?_ (.inr GW361.out) _) | exact HK.out)⟩, ⟨by repeat (first | (with_reducible first | exact HB.out | apply below_alloc | apply pw_below_drewN | apply below_drew1 | refine below_set ?_ GE361.out) | exact HB.out)⟩⟩
        case rest =>
          clear HC8
          try clear c1
          try clear p2
          try clear p3
          try clear q3
          try clear hx3
          try clear c4
          try clear c4b0
          try clear c5
          try clear c5b0
          try clear c6
          try clear c6b0
          try clear c9
          try clear c10
          try clear c12
          try clear hcz10_0
          try clear hcz10_1
          try clear hcz10_2
          try clear hcz10_3
          try clear hcz10_4
          try clear hcz10_5
          try clear hcz14_0
          try clear hcz14_1
          try clear hcz14_2
          try clear hcz14_3
          try clear hcz14_4
          try clear hcz14_5
          try clear hfz10_0
          try clear hfz10_1
          try clear hfz10_2
          try clear hfz10_3
          try clear hfz10_4
          try clear hfz10_5
          try clear hfz14_0
          try clear hfz14_1
          try clear hfz14_2
          try clear hfz14_3
          try clear hfz14_4
          try clear hfz14_5
          try clear hx360_0
          try clear hx360_1
          try clear hx360_2
          try clear hx360_3
          try clear hx360_4
          try clear hx360_5
          try clear hx362_0
          try clear p360
          try clear p362
          try clear q360
          try clear q362
          obtain ⟨kq, x9_7, rfl, HA, HJ7, HO_1, BK361, HK, HB⟩ := hcut
          cases kq with
          | zero => exact absurd HA.out (by simp [spec_l3From.j0])
          | succ kj7 =>
            have H := HA.out
            clear HA
            simp only [spec_l3From.j0] at H
            have HC16 := Aside0.mk H
            clear H
            have hcz17_0 : wc.cell? ⟨gb361, 0, none⟩ = some (.int .i64 ((rd_T29 l0 a2).f0)) := (blk_cell BK361.out 0).trans rfl
            have hcz17_1 : wc.cell? ⟨gb361, 1, none⟩ = some (.int .i64 ((rd_T29 l0 a2).f1)) := (blk_cell BK361.out 1).trans rfl
            have hcz17_2 : wc.cell? ⟨gb361, 2, none⟩ = some (.int .i64 ((rd_T29 l0 a2).f2)) := (blk_cell BK361.out 2).trans rfl
            have hcz17_3 : wc.cell? ⟨gb361, 3, none⟩ = some (.int .i64 ((rd_T29 l0 a2).f3)) := (blk_cell BK361.out 3).trans rfl
            have hcz17_4 : wc.cell? ⟨gb361, 4, none⟩ = some (.int .i64 ((rd_T29 l0 a2).f4.f0)) := (blk_cell BK361.out 4).trans rfl
            have hcz17_5 : wc.cell? ⟨gb361, 5, none⟩ = some (.int .i64 ((rd_T29 l0 a2).f4.f1)) := (blk_cell BK361.out 5).trans rfl
            have hfz17_0 := blk_frozen BK361.out 0
            have hfz17_1 := blk_frozen BK361.out 1
            have hfz17_2 := blk_frozen BK361.out 2
            have hfz17_3 := blk_frozen BK361.out 3
            have hfz17_4 := blk_frozen BK361.out 4
            have hfz17_5 := blk_frozen BK361.out 5
            go_upto_block 0 with (fail)
            go_cut [10] (fun v10 wc => ∃ (kq : Nat) (x1_15 : List Int) (x10_15 : Bool), v10 = .bool x10_15 ∧ Aside0 (spec_l3From.j2 kq x1_15 a2 x9_7 x10_15 = some (r1, r2)) ∧ Aside0 (kq ≤ kj7) ∧ Aside0 (Kd.R (Kd.int .i64) 3 wc w0.heap.size (fun k_ => (P1_ k_ ∨ w.heap.size ≤ k_)) (.slice (some ad362) l1.length co11) x1_15) ∧ Aside0 (wc.heap[gb361]? = some (.cells #[.int .i64 ((rd_T29 l0 a2).f0), .int .i64 ((rd_T29 l0 a2).f1), .int .i64 ((rd_T29 l0 a2).f2), .int .i64 ((rd_T29 l0 a2).f3), .int .i64 ((rd_T29 l0 a2).f4.f0), .int .i64 ((rd_T29 l0 a2).f4.f1)] 29 (0, 0))) ∧ Aside0 (Kept w wc (fun k_ => P1_ k_)) ∧ Aside0 (Below w0.heap.size w0 wc))
            case first =>
              have H := HC16.out
              clear HC16
              by_cases c18 : ((rd_T29 l0 a2).f0) = 5
              · rw [if_pos c18] at H
                have c18b0 : (((rd_T29 l0 a2).f0) == 5) = true := beq_iff_eq.mpr c18
                have c18b1 : (((rd_T29 l0 a2).f0) != 5) = false := bne_eq_false_iff_eq.mpr c18
                clear c18
                (first | rw [c18b0] | (simp only [i64_w, i32_w]; rw [c18b0]) | skip)
                replace H := Option.bind_eq_some_iff.mp H
                obtain ⟨⟨t365, t366⟩, A190, H⟩ := H
                replace H : (spec_l3From.j2 kj7 t366 a2 x9_7 t365) = some (r1, r2) := H
                have A19 := Aside0.mk A190
                clear A190
                have H' := Aside0.mk H
                clear H
                have hcz20_0 : wc.cell? ⟨gb361, 0, none⟩ = some (.int .i64 ((rd_T29 l0 a2).f0)) := (blk_cell BK361.out 0).trans rfl
                have hcz20_1 : wc.cell? ⟨gb361, 1, none⟩ = some (.int .i64 ((rd_T29 l0 a2).f1)) := (blk_cell BK361.out 1).trans rfl
                have hcz20_2 : wc.cell? ⟨gb361, 2, none⟩ = some (.int .i64 ((rd_T29 l0 a2).f2)) := (blk_cell BK361.out 2).trans rfl
                have hcz20_3 : wc.cell? ⟨gb361, 3, none⟩ = some (.int .i64 ((rd_T29 l0 a2).f3)) := (blk_cell BK361.out 3).trans rfl
                have hcz20_4 : wc.cell? ⟨gb361, 4, none⟩ = some (.int .i64 ((rd_T29 l0 a2).f4.f0)) := (blk_cell BK361.out 4).trans rfl
                have hcz20_5 : wc.cell? ⟨gb361, 5, none⟩ = some (.int .i64 ((rd_T29 l0 a2).f4.f1)) := (blk_cell BK361.out 5).trans rfl
                have hfz20_0 := blk_frozen BK361.out 0
                have hfz20_1 := blk_frozen BK361.out 1
                have hfz20_2 := blk_frozen BK361.out 2
                have hfz20_3 := blk_frozen BK361.out 3
                have hfz20_4 := blk_frozen BK361.out 4
                have hfz20_5 := blk_frozen BK361.out 5
                go_wp2_with (first | ((with_reducible refine gate_callee (f := 106) rfl ?_); refine goesL_ (some 34) rfl rfl Try.func106 (by kernel_rfl) rfl #[.slice (some ad362) l1.length co11, .int .i64 ((rd_T29 l0 a2).f3), .int .i64 1] rfl (by (try simp only [List.map_toArray, List.map_cons, List.map_nil]); first | done | rfl | (simp only [List.length_drop, List.length_take]; rfl)) ?_; (with_reducible refine (spec_l3Merge.calls kj7 (fun k_ => some k_ = (.slice (some ad362) l1.length co11 : Value).ownBlock) (.slice (some ad362) l1.length co11) l1 ((rd_T29 l0 a2).f3) 1 t365 t366 w0 _ ?side1 ?side2 A19.out).mono ?_); (case side1 => repeat (first | (with_reducible first | exact HB.out | apply below_alloc | apply pw_below_drewN | apply below_drew1 | refine below_set ?_ GE361.out) | exact HB.out)); (case side2 => exact Kd.R_tight rfl HO_1.out); rintro e w21 ⟨rfl, hy0, hb, hkp⟩; refine ⟨_, rfl, ?_⟩; have n0_ := Aside0.mk (Kd.R_reok rfl hy0 (fun k_ e_ => HO_1.out.1 k_ e_)); have n1_ := Aside0.mk (blk_kept (by (with_reducible repeat (first | refine blk_drewN ?_ _ | refine blk_drew ?_ | refine blk_alloc ?_ _)); exact BK361.out) hkp (fun hs_ => (fun e_ => (Kd.R_ne HO_1.out BK361.out (by decide)) e_) hs_)); have n2_ := Aside0.mk (Kept.then_ (S := (fun k_ => P1_ k_)) (by repeat (first | (with_reducible first | exact HK.out | apply Kept.alloc | apply Kept.drewN | apply Kept.drew | refine Kept.setCell ?_ (.inr GW361.out) _) | exact HK.out)) hkp (fun k_ hs_ => (fun e_ => (HO_1.out.1 k_ e_.symm)) hs_)); have n3_ := Aside0.mk (hb); clear HO_1; clear BK361; clear HK; clear HB; have HO_1 := n0_; have BK361 := n1_; have HK := n2_; have HB := n3_; clear n0_ n1_ n2_ n3_; (try clear hb); (try clear hkp); (try clear hy0)))
                go_meet
                case rel => exact ⟨_, (t366), (t365), (by first | rfl | (simp; done) | (simp [*]; done)), H', ⟨by have := HJ7.out; first | omega | exact Nat.le_refl _⟩, ⟨by (with_reducible repeat (first | apply Kd.R_alloc | apply Kd.R_drewN | apply Kd.R_drew)); exact HO_1.out⟩, ⟨by (with_reducible repeat (first | refine blk_drewN ?_ _ | refine blk_drew ?_ | refine blk_alloc ?_ _)); exact BK361.out⟩, ⟨by repeat (first | (with_reducible first | exact HK.out | apply Kept.alloc | apply Kept.drewN | apply Kept.drew | refine Kept.setCell ?_ (.inr GW361.out) _) | exact HK.out)⟩, ⟨by repeat (first | (with_reducible first | exact HB.out | apply below_alloc | apply pw_below_drewN | apply below_drew1 | refine below_set ?_ GE361.out) | exact HB.out)⟩⟩
              · rw [if_neg c18] at H
                have c18b0 : (((rd_T29 l0 a2).f0) == 5) = false := beq_eq_false_iff_ne.mpr c18
                have c18b1 : (((rd_T29 l0 a2).f0) != 5) = true := bne_iff_ne.mpr c18
                (first | rw [c18b0] | (simp only [i64_w, i32_w]; rw [c18b0]) | skip)
                by_cases c22 : ((rd_T29 l0 a2).f0) = 9
                · rw [if_pos c22] at H
                  have c22b0 : (((rd_T29 l0 a2).f0) == 9) = true := beq_iff_eq.mpr c22
                  have c22b1 : (((rd_T29 l0 a2).f0) != 9) = false := bne_eq_false_iff_eq.mpr c22
                  clear c22
                  replace H := Option.bind_eq_some_iff.mp H
                  obtain ⟨⟨t367, t368⟩, A230, H⟩ := H
                  replace H : (some (t367, t368)) = some (r1, r2) := H
                  have A23 := Aside0.mk A230
                  clear A230
                  simp only [Option.some.injEq, Prod.mk.injEq] at H
                  obtain ⟨rfl, rfl⟩ := H
                  have hcz24_0 : wc.cell? ⟨gb361, 0, none⟩ = some (.int .i64 ((rd_T29 l0 a2).f0)) := (blk_cell BK361.out 0).trans rfl
                  have hcz24_1 : wc.cell? ⟨gb361, 1, none⟩ = some (.int .i64 ((rd_T29 l0 a2).f1)) := (blk_cell BK361.out 1).trans rfl
                  have hcz24_2 : wc.cell? ⟨gb361, 2, none⟩ = some (.int .i64 ((rd_T29 l0 a2).f2)) := (blk_cell BK361.out 2).trans rfl
                  have hcz24_3 : wc.cell? ⟨gb361, 3, none⟩ = some (.int .i64 ((rd_T29 l0 a2).f3)) := (blk_cell BK361.out 3).trans rfl
                  have hcz24_4 : wc.cell? ⟨gb361, 4, none⟩ = some (.int .i64 ((rd_T29 l0 a2).f4.f0)) := (blk_cell BK361.out 4).trans rfl
                  have hcz24_5 : wc.cell? ⟨gb361, 5, none⟩ = some (.int .i64 ((rd_T29 l0 a2).f4.f1)) := (blk_cell BK361.out 5).trans rfl
                  have hfz24_0 := blk_frozen BK361.out 0
                  have hfz24_1 := blk_frozen BK361.out 1
                  have hfz24_2 := blk_frozen BK361.out 2
                  have hfz24_3 := blk_frozen BK361.out 3
                  have hfz24_4 := blk_frozen BK361.out 4
                  have hfz24_5 := blk_frozen BK361.out 5
                  go_wp2_with (first | ((with_reducible refine gate_callee (f := 106) rfl ?_); refine goesL_ (some 41) rfl rfl Try.func106 (by kernel_rfl) rfl #[.slice (some ad362) l1.length co11, .int .i64 ((rd_T29 l0 a2).f3), .int .i64 (rd l1 a2)] rfl (by (try simp only [List.map_toArray, List.map_cons, List.map_nil]); first | done | rfl | (simp only [List.length_drop, List.length_take]; rfl)) ?_; (with_reducible refine (spec_l3Merge.calls kj7 (fun k_ => some k_ = (.slice (some ad362) l1.length co11 : Value).ownBlock) (.slice (some ad362) l1.length co11) l1 ((rd_T29 l0 a2).f3) (rd l1 a2) t367 t368 w0 _ ?side1 ?side2 A23.out).mono ?_); (case side1 => repeat (first | (with_reducible first | exact HB.out | apply below_alloc | apply pw_below_drewN | apply below_drew1 | refine below_set ?_ GE361.out) | exact HB.out)); (case side2 => exact Kd.R_tight rfl HO_1.out); rintro e w25 ⟨rfl, hy0, hb, hkp⟩; refine ⟨_, rfl, ?_⟩; have n0_ := Aside0.mk (Kd.R_reok rfl hy0 (fun k_ e_ => HO_1.out.1 k_ e_)); have n1_ := Aside0.mk (blk_kept (by (with_reducible repeat (first | refine blk_drewN ?_ _ | refine blk_drew ?_ | refine blk_alloc ?_ _)); exact BK361.out) hkp (fun hs_ => (fun e_ => (Kd.R_ne HO_1.out BK361.out (by decide)) e_) hs_)); have n2_ := Aside0.mk (Kept.then_ (S := (fun k_ => P1_ k_)) (by repeat (first | (with_reducible first | exact HK.out | apply Kept.alloc | apply Kept.drewN | apply Kept.drew | refine Kept.setCell ?_ (.inr GW361.out) _) | exact HK.out)) hkp (fun k_ hs_ => (fun e_ => (HO_1.out.1 k_ e_.symm)) hs_)); have n3_ := Aside0.mk (hb); clear HO_1; clear BK361; clear HK; clear HB; have HO_1 := n0_; have BK361 := n1_; have HK := n2_; have HB := n3_; clear n0_ n1_ n2_ n3_; (try clear hb); (try clear hkp); (try clear hy0)))
                  go_ret
                  exact ⟨by first | rfl | (simp [errW_none, errW_some] <;> rfl) | (simp [*, errW_none, errW_some] <;> rfl), by (with_reducible repeat (first | apply Kd.R_alloc | apply Kd.R_drewN | apply Kd.R_drew)); exact HO_1.out, by repeat (first | (with_reducible first | exact HB.out | apply below_alloc | apply pw_below_drewN | apply below_drew1 | refine below_set ?_ GE361.out) | exact HB.out), by repeat (first | (with_reducible first | exact HK.out | apply Kept.alloc | apply Kept.drewN | apply Kept.drew | refine Kept.setCell ?_ (.inr GW361.out) _) | exact HK.out)⟩
                · rw [if_neg c22] at H
                  have c22b0 : (((rd_T29 l0 a2).f0) == 9) = false := beq_eq_false_iff_ne.mpr c22
                  have c22b1 : (((rd_T29 l0 a2).f0) != 9) = true := bne_iff_ne.mpr c22
                  have HC26 := Aside0.mk H
                  clear H
                  go_upto_if 42 with (fail)
                  go_cut [42] (fun v42 wc => ∃ (kq : Nat) (x42_25 : Bool), v42 = .bool x42_25 ∧ Aside0 (spec_l3From.j1 kq l1 a2 (rd l1 a2) x9_7 false ((rd_T29 l0 a2).f0) x42_25 ((rd_T29 l0 a2).f0) ((rd_T29 l0 a2).f1) ((rd_T29 l0 a2).f2) ((rd_T29 l0 a2).f3) ((rd_T29 l0 a2).f4.f0) ((rd_T29 l0 a2).f4.f1) = some (r1, r2)) ∧ Aside0 (kq ≤ kj7) ∧ Aside0 (Kd.R (Kd.int .i64) 3 wc w0.heap.size (fun k_ => (P1_ k_ ∨ w.heap.size ≤ k_)) (.slice (some ad362) l1.length co11) l1) ∧ Aside0 (wc.heap[gb361]? = some (.cells #[.int .i64 ((rd_T29 l0 a2).f0), .int .i64 ((rd_T29 l0 a2).f1), .int .i64 ((rd_T29 l0 a2).f2), .int .i64 ((rd_T29 l0 a2).f3), .int .i64 ((rd_T29 l0 a2).f4.f0), .int .i64 ((rd_T29 l0 a2).f4.f1)] 29 (0, 0))) ∧ Aside0 (Kept w wc (fun k_ => P1_ k_)) ∧ Aside0 (Below w0.heap.size w0 wc))
                  case first =>
                    have H := HC26.out
                    clear HC26
                    by_cases c27 : ((rd_T29 l0 a2).f0) = 8
                    · rw [if_pos c27] at H
                      have c27b0 : (((rd_T29 l0 a2).f0) == 8) = true := beq_iff_eq.mpr c27
                      have c27b1 : (((rd_T29 l0 a2).f0) != 8) = false := bne_eq_false_iff_eq.mpr c27
                      clear c27
                      (first | rw [c27b0] | (simp only [i64_w, i32_w]; rw [c27b0]) | skip)
                      have H' := Aside0.mk H
                      clear H
                      go_wp2
                      go_meet
                      case rel => exact ⟨_, ((((rd_T29 l0 a2).f0) == 8)), (by first | rfl | (simp; done) | (simp [*]; done)), H', ⟨by have := HJ7.out; first | omega | exact Nat.le_refl _⟩, ⟨by (with_reducible repeat (first | apply Kd.R_alloc | apply Kd.R_drewN | apply Kd.R_drew)); exact HO_1.out⟩, ⟨by (with_reducible repeat (first | refine blk_drewN ?_ _ | refine blk_drew ?_ | refine blk_alloc ?_ _)); exact BK361.out⟩, ⟨by repeat (first | (with_reducible first | exact HK.out | apply Kept.alloc | apply Kept.drewN | apply Kept.drew | refine Kept.setCell ?_ (.inr GW361.out) _) | exact HK.out)⟩, ⟨by repeat (first | (with_reducible first | exact HB.out | apply below_alloc | apply pw_below_drewN | apply below_drew1 | refine below_set ?_ GE361.out) | exact HB.out)⟩⟩
                    · rw [if_neg c27] at H
                      have c27b0 : (((rd_T29 l0 a2).f0) == 8) = false := beq_eq_false_iff_ne.mpr c27
                      have c27b1 : (((rd_T29 l0 a2).f0) != 8) = true := bne_iff_ne.mpr c27
                      (first | rw [c27b0] | (simp only [i64_w, i32_w]; rw [c27b0]) | skip)
                      have H' := Aside0.mk H
                      clear H
                      go_wp2
                      go_meet
                      case rel => exact ⟨_, ((((rd_T29 l0 a2).f0) == 10)), (by first | rfl | (simp; done) | (simp [*]; done)), H', ⟨by have := HJ7.out; first | omega | exact Nat.le_refl _⟩, ⟨by (with_reducible repeat (first | apply Kd.R_alloc | apply Kd.R_drewN | apply Kd.R_drew)); exact HO_1.out⟩, ⟨by (with_reducible repeat (first | refine blk_drewN ?_ _ | refine blk_drew ?_ | refine blk_alloc ?_ _)); exact BK361.out⟩, ⟨by repeat (first | (with_reducible first | exact HK.out | apply Kept.alloc | apply Kept.drewN | apply Kept.drew | refine Kept.setCell ?_ (.inr GW361.out) _) | exact HK.out)⟩, ⟨by repeat (first | (with_reducible first | exact HB.out | apply below_alloc | apply pw_below_drewN | apply below_drew1 | refine below_set ?_ GE361.out) | exact HB.out)⟩⟩
                  case rest =>
                    clear HC26
                    try clear c1
                    try clear c2
                    try clear p2
                    try clear p3
                    try clear q3
                    try clear hx3
                    try clear c4
                    try clear c4b0
                    try clear c5
                    try clear c5b0
                    try clear c6
                    try clear c6b0
                    try clear c9
                    try clear c10
                    try clear c12
                    try clear c18
                    try clear c18b0
                    try clear c18b1
                    try clear c22
                    try clear c22b0
                    try clear c22b1
                    try clear c27
                    try clear c27b0
                    try clear c27b1
                    try clear hcz10_0
                    try clear hcz10_1
                    try clear hcz10_2
                    try clear hcz10_3
                    try clear hcz10_4
                    try clear hcz10_5
                    try clear hcz14_0
                    try clear hcz14_1
                    try clear hcz14_2
                    try clear hcz14_3
                    try clear hcz14_4
                    try clear hcz14_5
                    try clear hcz17_0
                    try clear hcz17_1
                    try clear hcz17_2
                    try clear hcz17_3
                    try clear hcz17_4
                    try clear hcz17_5
                    try clear hcz20_0
                    try clear hcz20_1
                    try clear hcz20_2
                    try clear hcz20_3
                    try clear hcz20_4
                    try clear hcz20_5
                    try clear hcz24_0
                    try clear hcz24_1
                    try clear hcz24_2
                    try clear hcz24_3
                    try clear hcz24_4
                    try clear hcz24_5
                    try clear hfz10_0
                    try clear hfz10_1
                    try clear hfz10_2
                    try clear hfz10_3
                    try clear hfz10_4
                    try clear hfz10_5
                    try clear hfz14_0
                    try clear hfz14_1
                    try clear hfz14_2
                    try clear hfz14_3
                    try clear hfz14_4
                    try clear hfz14_5
                    try clear hfz17_0
                    try clear hfz17_1
                    try clear hfz17_2
                    try clear hfz17_3
                    try clear hfz17_4
                    try clear hfz17_5
                    try clear hfz20_0
                    try clear hfz20_1
                    try clear hfz20_2
                    try clear hfz20_3
                    try clear hfz20_4
                    try clear hfz20_5
                    try clear hfz24_0
                    try clear hfz24_1
                    try clear hfz24_2
                    try clear hfz24_3
                    try clear hfz24_4
                    try clear hfz24_5
                    try clear hx360_0
                    try clear hx360_1
                    try clear hx360_2
                    try clear hx360_3
                    try clear hx360_4
                    try clear hx360_5
                    try clear hx362_0
                    try clear p2
                    try clear p3
                    try clear p360
                    try clear p362
                    try clear q3
                    try clear q360
                    try clear q362
                    obtain ⟨kq, x42_25, rfl, HA, HJ25, HO_1, BK361, HK, HB⟩ := hcut
                    cases kq with
                    | zero => exact absurd HA.out (by simp [spec_l3From.j1])
                    | succ kj25 =>
                      have H := HA.out
                      clear HA
                      simp only [spec_l3From.j1] at H
                      by_cases c28 : x42_25 = true
                      · subst c28
                        have H1 : ((spec_l3Merge.f kj25 l1 ((rd_T29 l0 a2).f3) (rd l1 a2)).bind fun bt369 => (spec_l3From.j2 kj25 bt369.2 a2 x9_7 bt369.1)) = some (r1, r2) := by rw [if_pos rfl] at H; exact H
                        clear H
                        have H := H1
                        clear H1
                        replace H := Option.bind_eq_some_iff.mp H
                        obtain ⟨⟨t369, t370⟩, A290, H⟩ := H
                        replace H : (spec_l3From.j2 kj25 t370 a2 x9_7 t369) = some (r1, r2) := H
                        have A29 := Aside0.mk A290
                        clear A290
                        have H' := Aside0.mk H
                        clear H
                        have hcz30_0 : wc.cell? ⟨gb361, 0, none⟩ = some (.int .i64 ((rd_T29 l0 a2).f0)) := (blk_cell BK361.out 0).trans rfl
                        have hcz30_1 : wc.cell? ⟨gb361, 1, none⟩ = some (.int .i64 ((rd_T29 l0 a2).f1)) := (blk_cell BK361.out 1).trans rfl
                        have hcz30_2 : wc.cell? ⟨gb361, 2, none⟩ = some (.int .i64 ((rd_T29 l0 a2).f2)) := (blk_cell BK361.out 2).trans rfl
                        have hcz30_3 : wc.cell? ⟨gb361, 3, none⟩ = some (.int .i64 ((rd_T29 l0 a2).f3)) := (blk_cell BK361.out 3).trans rfl
                        have hcz30_4 : wc.cell? ⟨gb361, 4, none⟩ = some (.int .i64 ((rd_T29 l0 a2).f4.f0)) := (blk_cell BK361.out 4).trans rfl
                        have hcz30_5 : wc.cell? ⟨gb361, 5, none⟩ = some (.int .i64 ((rd_T29 l0 a2).f4.f1)) := (blk_cell BK361.out 5).trans rfl
                        have hfz30_0 := blk_frozen BK361.out 0
                        have hfz30_1 := blk_frozen BK361.out 1
                        have hfz30_2 := blk_frozen BK361.out 2
                        have hfz30_3 := blk_frozen BK361.out 3
                        have hfz30_4 := blk_frozen BK361.out 4
                        have hfz30_5 := blk_frozen BK361.out 5
                        go_wp2_with (first | ((with_reducible refine gate_callee (f := 106) rfl ?_); refine goesL_ (some 49) rfl rfl Try.func106 (by kernel_rfl) rfl #[.slice (some ad362) l1.length co11, .int .i64 ((rd_T29 l0 a2).f3), .int .i64 (rd l1 a2)] rfl (by (try simp only [List.map_toArray, List.map_cons, List.map_nil]); first | done | rfl | (simp only [List.length_drop, List.length_take]; rfl)) ?_; (with_reducible refine (spec_l3Merge.calls kj25 (fun k_ => some k_ = (.slice (some ad362) l1.length co11 : Value).ownBlock) (.slice (some ad362) l1.length co11) l1 ((rd_T29 l0 a2).f3) (rd l1 a2) t369 t370 w0 _ ?side1 ?side2 A29.out).mono ?_); (case side1 => repeat (first | (with_reducible first | exact HB.out | apply below_alloc | apply pw_below_drewN | apply below_drew1 | refine below_set ?_ GE361.out) | exact HB.out)); (case side2 => exact Kd.R_tight rfl HO_1.out); rintro e w31 ⟨rfl, hy0, hb, hkp⟩; refine ⟨_, rfl, ?_⟩; have n0_ := Aside0.mk (Kd.R_reok rfl hy0 (fun k_ e_ => HO_1.out.1 k_ e_)); have n1_ := Aside0.mk (blk_kept (by (with_reducible repeat (first | refine blk_drewN ?_ _ | refine blk_drew ?_ | refine blk_alloc ?_ _)); exact BK361.out) hkp (fun hs_ => (fun e_ => (Kd.R_ne HO_1.out BK361.out (by decide)) e_) hs_)); have n2_ := Aside0.mk (Kept.then_ (S := (fun k_ => P1_ k_)) (by repeat (first | (with_reducible first | exact HK.out | apply Kept.alloc | apply Kept.drewN | apply Kept.drew | refine Kept.setCell ?_ (.inr GW361.out) _) | exact HK.out)) hkp (fun k_ hs_ => (fun e_ => (HO_1.out.1 k_ e_.symm)) hs_)); have n3_ := Aside0.mk (hb); clear HO_1; clear BK361; clear HK; clear HB; have HO_1 := n0_; have BK361 := n1_; have HK := n2_; have HB := n3_; clear n0_ n1_ n2_ n3_; (try clear hb); (try clear hkp); (try clear hy0)))
                        go_meet
                        case rel => exact ⟨_, (t370), (t369), (by first | rfl | (simp; done) | (simp [*]; done)), H', ⟨by have := HJ7.out; have := HJ25.out; first | omega | exact Nat.le_refl _⟩, ⟨by (with_reducible repeat (first | apply Kd.R_alloc | apply Kd.R_drewN | apply Kd.R_drew)); exact HO_1.out⟩, ⟨by (with_reducible repeat (first | refine blk_drewN ?_ _ | refine blk_drew ?_ | refine blk_alloc ?_ _)); exact BK361.out⟩, ⟨by repeat (first | (with_reducible first | exact HK.out | apply Kept.alloc | apply Kept.drewN | apply Kept.drew | refine Kept.setCell ?_ (.inr GW361.out) _) | exact HK.out)⟩, ⟨by repeat (first | (with_reducible first | exact HB.out | apply below_alloc | apply pw_below_drewN | apply below_drew1 | refine below_set ?_ GE361.out) | exact HB.out)⟩⟩
                      · replace c28 := Bool.eq_false_iff.mpr c28
                        subst c28
                        have H1 : (if ((rd_T29 l0 a2).f0) = 14 then (some (false, l1)) else (spec_l3From.j2 kj25 l1 a2 x9_7 false)) = some (r1, r2) := by rw [if_neg (show ¬ (false = true) by decide)] at H; exact H
                        clear H
                        have H := H1
                        clear H1
                        by_cases c32 : ((rd_T29 l0 a2).f0) = 14
                        · rw [if_pos c32] at H
                          have c32b0 : (((rd_T29 l0 a2).f0) == 14) = true := beq_iff_eq.mpr c32
                          have c32b1 : (((rd_T29 l0 a2).f0) != 14) = false := bne_eq_false_iff_eq.mpr c32
                          clear c32
                          simp only [Option.some.injEq, Prod.mk.injEq] at H
                          obtain ⟨rfl, rfl⟩ := H
                          go_wp2
                          go_ret
                          exact ⟨by first | rfl | (simp [errW_none, errW_some] <;> rfl) | (simp [*, errW_none, errW_some] <;> rfl), by (with_reducible repeat (first | apply Kd.R_alloc | apply Kd.R_drewN | apply Kd.R_drew)); exact HO_1.out, by repeat (first | (with_reducible first | exact HB.out | apply below_alloc | apply pw_below_drewN | apply below_drew1 | refine below_set ?_ GE361.out) | exact HB.out), by repeat (first | (with_reducible first | exact HK.out | apply Kept.alloc | apply Kept.drewN | apply Kept.drew | refine Kept.setCell ?_ (.inr GW361.out) _) | exact HK.out)⟩
                        · rw [if_neg c32] at H
                          have c32b0 : (((rd_T29 l0 a2).f0) == 14) = false := beq_eq_false_iff_ne.mpr c32
                          have c32b1 : (((rd_T29 l0 a2).f0) != 14) = true := bne_iff_ne.mpr c32
                          have H' := Aside0.mk H
                          clear H
                          go_wp2
                          go_meet
                          case rel => exact ⟨_, (l1), (false), (by first | rfl | (simp; done) | (simp [*]; done)), H', ⟨by have := HJ7.out; have := HJ25.out; first | omega | exact Nat.le_refl _⟩, ⟨by (with_reducible repeat (first | apply Kd.R_alloc | apply Kd.R_drewN | apply Kd.R_drew)); exact HO_1.out⟩, ⟨by (with_reducible repeat (first | refine blk_drewN ?_ _ | refine blk_drew ?_ | refine blk_alloc ?_ _)); exact BK361.out⟩, ⟨by repeat (first | (with_reducible first | exact HK.out | apply Kept.alloc | apply Kept.drewN | apply Kept.drew | refine Kept.setCell ?_ (.inr GW361.out) _) | exact HK.out)⟩, ⟨by repeat (first | (with_reducible first | exact HB.out | apply below_alloc | apply pw_below_drewN | apply below_drew1 | refine below_set ?_ GE361.out) | exact HB.out)⟩⟩
            case rest =>
              clear HC16
              try clear c1
              try clear c2
              try clear p2
              try clear c3
              try clear p3
              try clear q3
              try clear hx3
              try clear c4
              try clear c4b0
              try clear c5
              try clear c5b0
              try clear c6
              try clear c6b0
              try clear c9
              try clear c10
              try clear c12
              try clear c18
              try clear c18b0
              try clear c18b1
              try clear c22
              try clear c22b0
              try clear c22b1
              try clear c27
              try clear c27b0
              try clear c27b1
              try clear c28
              try clear c32
              try clear c32b0
              try clear c32b1
              try clear hcz10_0
              try clear hcz10_1
              try clear hcz10_2
              try clear hcz10_3
              try clear hcz10_4
              try clear hcz10_5
              try clear hcz14_0
              try clear hcz14_1
              try clear hcz14_2
              try clear hcz14_3
              try clear hcz14_4
              try clear hcz14_5
              try clear hcz17_0
              try clear hcz17_1
              try clear hcz17_2
              try clear hcz17_3
              try clear hcz17_4
              try clear hcz17_5
              try clear hcz20_0
              try clear hcz20_1
              try clear hcz20_2
              try clear hcz20_3
              try clear hcz20_4
              try clear hcz20_5
              try clear hcz24_0
              try clear hcz24_1
              try clear hcz24_2
              try clear hcz24_3
              try clear hcz24_4
              try clear hcz24_5
              try clear hcz30_0
              try clear hcz30_1
              try clear hcz30_2
              try clear hcz30_3
              try clear hcz30_4
              try clear hcz30_5
              try clear hfz10_0
              try clear hfz10_1
              try clear hfz10_2
              try clear hfz10_3
              try clear hfz10_4
              try clear hfz10_5
              try clear hfz14_0
              try clear hfz14_1
              try clear hfz14_2
              try clear hfz14_3
              try clear hfz14_4
              try clear hfz14_5
              try clear hfz17_0
              try clear hfz17_1
              try clear hfz17_2
              try clear hfz17_3
              try clear hfz17_4
              try clear hfz17_5
              try clear hfz20_0
              try clear hfz20_1
              try clear hfz20_2
              try clear hfz20_3
              try clear hfz20_4
              try clear hfz20_5
              try clear hfz24_0
              try clear hfz24_1
              try clear hfz24_2
              try clear hfz24_3
              try clear hfz24_4
              try clear hfz24_5
              try clear hfz30_0
              try clear hfz30_1
              try clear hfz30_2
              try clear hfz30_3
              try clear hfz30_4
              try clear hfz30_5
              try clear hx360_0
              try clear hx360_1
              try clear hx360_2
              try clear hx360_3
              try clear hx360_4
              try clear hx360_5
              try clear hx362_0
              try clear p2
              try clear p3
              try clear p360
              try clear p362
              try clear q3
              try clear q360
              try clear q362
              obtain ⟨kq, x1_15, x10_15, rfl, HA, HJ15, HO_1, BK361, HK, HB⟩ := hcut
              have hl1_15 := (Kd.R_reads' HO_1.out).1
              rw [hl1_15] at HO_1
              (try simp only [hl1_15])
              (try simp only [hl1_15] at BK361)
              cases kq with
              | zero => exact absurd HA.out (by simp [spec_l3From.j2])
              | succ kj15 =>
                have H := HA.out
                clear HA
                simp only [spec_l3From.j2] at H
                replace H := Option.bind_eq_some_iff.mp H
                obtain ⟨⟨t371, t372⟩, A330, H⟩ := H
                replace H : (if t371 = true then (some (true, t372)) else (some (x10_15, t372))) = some (r1, r2) := H
                have A33 := Aside0.mk A330
                clear A330
                by_cases c34 : t371 = true
                · subst c34
                  have H1 : (some (true, t372)) = some (r1, r2) := by rw [if_pos rfl] at H; exact H
                  clear H
                  have H := H1
                  clear H1
                  simp only [Option.some.injEq, Prod.mk.injEq] at H
                  obtain ⟨rfl, rfl⟩ := H
                  go_wp2_with (first | ((with_reducible refine gate_callee (f := 106) rfl ?_); refine goesL_ (some 56) rfl rfl Try.func106 (by kernel_rfl) rfl #[.slice (some ad362) x1_15.length co11, .int .i64 (wrap64 (a2 + 1)), .int .i64 x9_7] rfl (by (try simp only [List.map_toArray, List.map_cons, List.map_nil]); first | done | rfl | (simp only [List.length_drop, List.length_take]; rfl)) ?_; (with_reducible refine (spec_l3Merge.calls kj15 (fun k_ => some k_ = (.slice (some ad362) x1_15.length co11 : Value).ownBlock) (.slice (some ad362) x1_15.length co11) x1_15 (wrap64 (a2 + 1)) x9_7 true t372 w0 _ ?side1 ?side2 A33.out).mono ?_); (case side1 => repeat (first | (with_reducible first | exact HB.out | apply below_alloc | apply pw_below_drewN | apply below_drew1 | refine below_set ?_ GE361.out) | exact HB.out)); (case side2 => exact Kd.R_tight rfl HO_1.out); rintro e w35 ⟨rfl, hy0, hb, hkp⟩; refine ⟨_, rfl, ?_⟩; have n0_ := Aside0.mk (Kd.R_reok rfl hy0 (fun k_ e_ => HO_1.out.1 k_ e_)); have n1_ := Aside0.mk (blk_kept (by (with_reducible repeat (first | refine blk_drewN ?_ _ | refine blk_drew ?_ | refine blk_alloc ?_ _)); exact BK361.out) hkp (fun hs_ => (fun e_ => (Kd.R_ne HO_1.out BK361.out (by decide)) e_) hs_)); have n2_ := Aside0.mk (Kept.then_ (S := (fun k_ => P1_ k_)) (by repeat (first | (with_reducible first | exact HK.out | apply Kept.alloc | apply Kept.drewN | apply Kept.drew | refine Kept.setCell ?_ (.inr GW361.out) _) | exact HK.out)) hkp (fun k_ hs_ => (fun e_ => (HO_1.out.1 k_ e_.symm)) hs_)); have n3_ := Aside0.mk (hb); clear HO_1; clear BK361; clear HK; clear HB; have HO_1 := n0_; have BK361 := n1_; have HK := n2_; have HB := n3_; clear n0_ n1_ n2_ n3_; (try clear hb); (try clear hkp); (try clear hy0)))
                  go_ret
                  exact ⟨by first | rfl | (simp [errW_none, errW_some] <;> rfl) | (simp [*, errW_none, errW_some] <;> rfl), (by first | exact (by (with_reducible repeat (first | apply Kd.R_alloc | apply Kd.R_drewN | apply Kd.R_drew)); exact HO_1.out) | (simp only [hl1_15]; exact (by (with_reducible repeat (first | apply Kd.R_alloc | apply Kd.R_drewN | apply Kd.R_drew)); exact HO_1.out))), by repeat (first | (with_reducible first | exact HB.out | apply below_alloc | apply pw_below_drewN | apply below_drew1 | refine below_set ?_ GE361.out) | exact HB.out), by repeat (first | (with_reducible first | exact HK.out | apply Kept.alloc | apply Kept.drewN | apply Kept.drew | refine Kept.setCell ?_ (.inr GW361.out) _) | exact HK.out)⟩
                · replace c34 := Bool.eq_false_iff.mpr c34
                  subst c34
                  have H1 : (some (x10_15, t372)) = some (r1, r2) := by rw [if_neg (show ¬ (false = true) by decide)] at H; exact H
                  clear H
                  have H := H1
                  clear H1
                  simp only [Option.some.injEq, Prod.mk.injEq] at H
                  obtain ⟨rfl, rfl⟩ := H
                  go_wp2_with (first | ((with_reducible refine gate_callee (f := 106) rfl ?_); refine goesL_ (some 56) rfl rfl Try.func106 (by kernel_rfl) rfl #[.slice (some ad362) x1_15.length co11, .int .i64 (wrap64 (a2 + 1)), .int .i64 x9_7] rfl (by (try simp only [List.map_toArray, List.map_cons, List.map_nil]); first | done | rfl | (simp only [List.length_drop, List.length_take]; rfl)) ?_; (with_reducible refine (spec_l3Merge.calls kj15 (fun k_ => some k_ = (.slice (some ad362) x1_15.length co11 : Value).ownBlock) (.slice (some ad362) x1_15.length co11) x1_15 (wrap64 (a2 + 1)) x9_7 false t372 w0 _ ?side1 ?side2 A33.out).mono ?_); (case side1 => repeat (first | (with_reducible first | exact HB.out | apply below_alloc | apply pw_below_drewN | apply below_drew1 | refine below_set ?_ GE361.out) | exact HB.out)); (case side2 => exact Kd.R_tight rfl HO_1.out); rintro e w36 ⟨rfl, hy0, hb, hkp⟩; refine ⟨_, rfl, ?_⟩; have n0_ := Aside0.mk (Kd.R_reok rfl hy0 (fun k_ e_ => HO_1.out.1 k_ e_)); have n1_ := Aside0.mk (blk_kept (by (with_reducible repeat (first | refine blk_drewN ?_ _ | refine blk_drew ?_ | refine blk_alloc ?_ _)); exact BK361.out) hkp (fun hs_ => (fun e_ => (Kd.R_ne HO_1.out BK361.out (by decide)) e_) hs_)); have n2_ := Aside0.mk (Kept.then_ (S := (fun k_ => P1_ k_)) (by repeat (first | (with_reducible first | exact HK.out | apply Kept.alloc | apply Kept.drewN | apply Kept.drew | refine Kept.setCell ?_ (.inr GW361.out) _) | exact HK.out)) hkp (fun k_ hs_ => (fun e_ => (HO_1.out.1 k_ e_.symm)) hs_)); have n3_ := Aside0.mk (hb); clear HO_1; clear BK361; clear HK; clear HB; have HO_1 := n0_; have BK361 := n1_; have HK := n2_; have HB := n3_; clear n0_ n1_ n2_ n3_; (try clear hb); (try clear hkp); (try clear hy0)))
                  go_ret
                  exact ⟨by first | rfl | (simp [errW_none, errW_some] <;> rfl) | (simp [*, errW_none, errW_some] <;> rfl), (by first | exact (by (with_reducible repeat (first | apply Kd.R_alloc | apply Kd.R_drewN | apply Kd.R_drew)); exact HO_1.out) | (simp only [hl1_15]; exact (by (with_reducible repeat (first | apply Kd.R_alloc | apply Kd.R_drewN | apply Kd.R_drew)); exact HO_1.out))), by repeat (first | (with_reducible first | exact HB.out | apply below_alloc | apply pw_below_drewN | apply below_drew1 | refine below_set ?_ GE361.out) | exact HB.out), by repeat (first | (with_reducible first | exact HK.out | apply Kept.alloc | apply Kept.drewN | apply Kept.drew | refine Kept.setCell ?_ (.inr GW361.out) _) | exact HK.out)⟩
      · rw [if_neg c6] at H
        exact absurd H (by simp)
    · rw [if_neg c5] at H
      exact absurd H (by simp)
  · rw [if_neg c4] at H
    exact absurd H (by simp)
end Go.Proofs.Ytmklpbmlgjkbiaa.PS
end
section
namespace Go.Proofs.Ytmklpbmlgjkbiaa.PS
open Go.RowKit Go.Proofs.YtmklpbmlgjkbiaaW.PrintWords Go.Proofs.YtmklpbmlgjkbiaaW.PrintLast Go.Proofs.YtmklpbmlgjkbiaaW.PrintMore
attribute [local go_sem] max2_int min2_int max_two min_two max_three min_three max_four min_four   -- for this text's walks alone
set_option linter.unusedVariables false
set_option linter.unusedSimpArgs false
mutual
def spec_l3Full.l0 : Nat → List (S29) → List Int → Int → Option (List Int)
  | 0, _, _, _ => none
  | k + 1, x0, x3, x4 => if x4 < (x3.length : Int) then (if 0 ≤ x4 then (spec_l3Full.l0 k x0 (x3.set (x4 : Int).toNat (-1)) (wrap64 (x4 + 1))) else (none)) else (if 0 < (x3.length : Int) then (spec_l3Full.l1 k x0 (x3.set (0 : Int).toNat 1) true) else (none))
def spec_l3Full.l1 : Nat → List (S29) → List Int → Bool → Option (List Int)
  | 0, _, _, _ => none
  | k + 1, x0, x3, x5 => if x5 = true then (spec_l3Full.l2 k x0 x3 false 0) else (some x3)
def spec_l3Full.l2 : Nat → List (S29) → List Int → Bool → Int → Option (List Int)
  | 0, _, _, _, _ => none
  | k + 1, x0, x3, x5, x6 => if x6 < (x0.length : Int) then (if 0 ≤ x6 then (if x6 < (x3.length : Int) then (if (rd x3 x6) ≥ 0 then ((spec_l3From.f k x0 x3 x6).bind fun bt379 => (spec_l3Full.j3 k x0 bt379.2 x5 x6 bt379.1)) else (spec_l3Full.j3 k x0 x3 x5 x6 false)) else (none)) else (none)) else (spec_l3Full.l1 k x0 x3 x5)
def spec_l3Full.j3 : Nat → List (S29) → List Int → Bool → Int → Bool → Option (List Int)
  | 0, _, _, _, _, _ => none
  | k + 1, x0, x3, x5, x6, x38 => if x38 = true then (spec_l3Full.l2 k x0 x3 true (wrap64 (x6 + 1))) else (spec_l3Full.l2 k x0 x3 x5 (wrap64 (x6 + 1)))
end
def spec_l3Full.f (k : Nat) (l0 : List (S29)) : Option (List Int) := if 0 ≤ (l0.length : Int) then (if ((l0.length : Int) : Int).toNat ≤ 35184372088832 then (spec_l3Full.l0 k l0 (List.replicate ((l0.length : Int) : Int).toNat 0) 1) else (none)) else (none)
set_option maxHeartbeats 8000000 in
set_option maxRecDepth 100000 in
theorem spec_l3Full.calls (k : Nat) (A0 : Option Addr) (c0 : Nat) (l0 : List (S29)) (r : List Int) (w : World) (hr0 : Kd.C k29 w A0 l0.length l0) (hc0 : l0.length ≤ c0) (h : spec_l3Full.f k l0 = some r) :
    Calls Try.prog 81 #[.slice A0 l0.length c0] w fun e w' => ∃ v0_ : Value, e = .returned (v0_) ∧ Kd.R (Kd.int .i64) 3 w' w.heap.size (fun _ => True) v0_ r ∧ Below w.heap.size w w' := by
  have HR0 := Aside0.mk hr0
  have HC0 := Aside0.mk hc0
  clear hr0 hc0
  have HB := Aside0.mk (Below.refl w.heap.size w)
  have H : (if 0 ≤ (l0.length : Int) then (if ((l0.length : Int) : Int).toNat ≤ 35184372088832 then (spec_l3Full.l0 k l0 (List.replicate ((l0.length : Int) : Int).toNat 0) 1) else (none)) else (none)) = some r := h
  clear h
  by_cases c2 : 0 ≤ (l0.length : Int)
  · rw [if_pos c2] at H
    have c2b0 := eq_true c2
    have c2b1 : decide (0 ≤ (l0.length : Int)) = true := decide_eq_true c2
    clear c2
    by_cases c3 : ((l0.length : Int) : Int).toNat ≤ 35184372088832
    · rw [if_pos c3] at H
      have c3b0 := eq_true c3
      have c3b1 : decide (((l0.length : Int) : Int).toNat ≤ 35184372088832) = true := decide_eq_true c3
      clear c3
      obtain ⟨y373, hy373⟩ : ∃ y_ : List Int, y_ = (List.replicate ((l0.length : Int) : Int).toNat 0) := ⟨_, rfl⟩
      replace H : (spec_l3Full.l0 k l0 y373 1) = some r := by first | (rw [hy373]; with_reducible exact H) | (have H2_ := (Option.bind_some _ _).symm.trans H; rw [hy373]; with_reducible exact H2_) | (have H2_ := (Option.bind_some _ _).symm.trans H; with_reducible exact H2_) | with_reducible exact H | (rw [hy373]; exact H) | exact H
      have Ny373 := Aside0.mk hy373
      clear hy373
      have H' := Aside0.mk H
      clear H
      go_enter Try.func81, Try.ntmps81
      go_wp2_with (first | ((with_reducible refine gate_dst (N := 9) rfl ?_); refine Kd.R_make (Kd.int .i64) _ 3 rfl (N := 9) rfl 32 _ _ rfl (l0.length : Int) rfl rfl Try.underlying32 (.int .i64 0) 8 info3 rfl (by decide) (by omega) 0 (ok := fun _ => True) (okp := fun _ => True) rfl (fun _ hk => hk) trivial (of_decide_eq_true (by first | (with_reducible assumption) | assumption)) (Nat.le_trans (Nat.mul_le_mul_right _ (of_decide_eq_true (by first | (with_reducible assumption) | assumption) : (l0.length : Int).toNat ≤ 35184372088832)) (by omega)) (Below.refl _ _) (Nat.le_refl _) ?_; intro v374 w4 ho5 hb hg_ hnew_; clear hg_ hnew_; (first | rw [← Ny373.out] at ho5 | (simp only [Int.reduceToNat] at ho5; rw [← Ny373.out] at ho5)); have n0_ := Aside0.mk (Kd.R_lower ho5 (below_size (by repeat (first | (with_reducible first | exact HB.out | apply below_alloc | apply pw_below_drewN | apply below_drew1) | exact HB.out)))); have n1_ := Aside0.mk (below_step (by repeat (first | (with_reducible first | exact HB.out | apply below_alloc | apply pw_below_drewN | apply below_drew1) | exact HB.out)) hb); clear HB; have HO375 := n0_; have HB := n1_; clear n0_ n1_; clear hb ho5))
      go_loopg [4] k (fun kq v4 w' => ∃ (x3_1 : List Int) (x4_1 : Int), v4 = .int .i64 x4_1 ∧ Aside0 (spec_l3Full.l0 kq l0 x3_1 x4_1 = some r) ∧ Aside0 (kq ≤ k) ∧ Aside0 (Kd.R (Kd.int .i64) 3 w' w.heap.size (fun _ => True) v374 x3_1) ∧ Aside0 (Below w.heap.size w w'))
      case atStart => exact ⟨(y373), (1), (by first | rfl | (simp; done) | (simp [*]; done)), H', ⟨Nat.le_refl _⟩, ⟨by (with_reducible repeat (first | apply Kd.R_alloc | apply Kd.R_drewN | apply Kd.R_drew)); exact HO375.out⟩, ⟨by repeat (first | (with_reducible first | exact HB.out | apply below_alloc | apply pw_below_drewN | apply below_drew1) | exact HB.out)⟩⟩
      case round =>
        clear H'
        try clear c2
        try clear c2b0
        try clear c2b1
        try clear p2
        try clear c3
        try clear c3b0
        try clear c3b1
        obtain ⟨x3_1, x4_1, rfl, HA, HK1, HO_3, HB⟩ := hrel
        cases gk with
        | zero => exact absurd HA.out (by simp [spec_l3Full.l0])
        | succ k1 =>
          have H := HA.out
          clear HA
          simp only [spec_l3Full.l0] at H
          by_cases c6 : x4_1 < (x3_1.length : Int)
          · rw [if_pos c6] at H
            have c6b0 : decide (x4_1 < (x3_1.length : Int)) = true := decide_eq_true c6
            clear c6
            by_cases c7 : 0 ≤ x4_1
            · rw [if_pos c7] at H
              have c7b0 : decide (0 ≤ x4_1) = true := decide_eq_true c7
              clear c7
              obtain ⟨y376, hy376⟩ : ∃ y_ : List Int, y_ = (x3_1.set (x4_1 : Int).toNat (-1)) := ⟨_, rfl⟩
              replace H : (spec_l3Full.l0 k1 l0 y376 (wrap64 (x4_1 + 1))) = some r := by first | (rw [hy376]; with_reducible exact H) | (have H2_ := (Option.bind_some _ _).symm.trans H; rw [hy376]; with_reducible exact H2_) | (have H2_ := (Option.bind_some _ _).symm.trans H; with_reducible exact H2_) | with_reducible exact H | (rw [hy376]; exact H) | exact H
              have Ny376 := Aside0.mk hy376
              clear hy376
              have H' := Aside0.mk H
              clear H
              obtain ⟨Ao9, co9, eo9⟩ := Kd.R_slice HO_3.out
              subst eo9
              have p8 : 0 ≤ (x4_1 : Int) := of_decide_eq_true (by first | (with_reducible assumption) | assumption)
              have q8 : (x4_1 : Int) < ((x3_1.length : Int) : Int) := of_decide_eq_true (by first | (with_reducible assumption) | assumption)
              obtain ⟨go8, co8, eo8, gb8, gl8, cl8, HG8⟩ := Kd.R_form HO_3.out (by omega)
              (first | cases eo8 | (injection eo8 with ea_ en_ ec_; (first | subst ea_ | (injection ea_ with ea_; subst ea_)); subst ec_; clear en_))
              have GB8 := Aside0.mk gb8
              have GG8 := Aside0.mk HG8
              clear gb8 gl8 HG8
              obtain ⟨hx8_0, hf8_0⟩ := Kd.R_celln 0 HO_3.out (x4_1 : Int) p8 q8
              replace p8 := eq_true p8
              replace q8 := eq_true q8
              have HP10 := Kd.R_putg HO_3.out (x4_1 : Int) (-1)
              go_wp2_with (first | ((with_reducible refine gate_store (t := 3) (p := 18) rfl ?_); refine store_event (t := 3) (p := 18) (v := ?vo_w11) (w1 := (wr.setCell ⟨go8, (x4_1 : Int).toNat, none⟩ (.int .i64 (-1)))) ?hg ?ho ?hn ?hr ?_; (case ho => rfl); (case hg => rfl); (case hn => rfl); (case hr => first | (go_simp; done) | (go_simp; rfl)); intro w11 hw; have hg : wr.grownBy w11 (some go8) := (by rw [hw]; exact HP10.2); have hp_ : Kd.R (Kd.int .i64) 3 w11 w.heap.size (fun _ => True) (.slice (some ⟨go8, 0, none⟩) x3_1.length co9) y376 := (by rw [hw, Ny376.out]; exact HP10.1); clear HP10; have n0_ := Aside0.mk (hp_); have n1_ := Aside0.mk ((by rw [hw]; exact below_set (HB.out) GB8.out : Below w.heap.size w w11)); clear HO_3; clear HB; have HO_3 := n0_; have HB := n1_; clear n0_ n1_; clear hg hw hp_))
              go_roundg k1
              case measure => have := HK1.out; omega
              case rel => exact ⟨(y376), (wrap64 (x4_1 + 1)), (by first | rfl | (simp; done) | (simp [*]; done)), H', ⟨by have := HK1.out; omega⟩, ⟨by (with_reducible repeat (first | apply Kd.R_alloc | apply Kd.R_drewN | apply Kd.R_drew)); exact HO_3.out⟩, ⟨by repeat (first | (with_reducible first | exact HB.out | apply below_alloc | apply pw_below_drewN | apply below_drew1) | exact HB.out)⟩⟩
            · rw [if_neg c7] at H
              exact absurd H (by simp)
          · rw [if_neg c6] at H
            have c6b0 : decide (x4_1 < (x3_1.length : Int)) = false := decide_eq_false c6
            clear c6
            by_cases c12 : 0 < (x3_1.length : Int)
            · rw [if_pos c12] at H
              have c12b0 : decide (0 < (x3_1.length : Int)) = true := decide_eq_true c12
              have c12b1 : decide (0 < x3_1.length) = true := decide_eq_true (by omega)
              clear c12
              obtain ⟨y377, hy377⟩ : ∃ y_ : List Int, y_ = (x3_1.set (0 : Int).toNat 1) := ⟨_, rfl⟩
              replace H : (spec_l3Full.l1 k1 l0 y377 true) = some r := by first | (rw [hy377]; with_reducible exact H) | (have H2_ := (Option.bind_some _ _).symm.trans H; rw [hy377]; with_reducible exact H2_) | (have H2_ := (Option.bind_some _ _).symm.trans H; with_reducible exact H2_) | with_reducible exact H | (rw [hy377]; exact H) | exact H
              have Ny377 := Aside0.mk hy377
              clear hy377
              have H' := Aside0.mk H
              clear H
              obtain ⟨Ao14, co14, eo14⟩ := Kd.R_slice HO_3.out
              subst eo14
              have p13 : 0 ≤ (0 : Int) := (by omega)
              have q13 : (0 : Int) < ((x3_1.length : Int) : Int) := of_decide_eq_true (by first | (with_reducible assumption) | assumption)
              have qi13 : (0 < x3_1.length) = True := eq_true (by omega)
              obtain ⟨go13, co13, eo13, gb13, gl13, cl13, HG13⟩ := Kd.R_form HO_3.out (by omega)
              (first | cases eo13 | (injection eo13 with ea_ en_ ec_; (first | subst ea_ | (injection ea_ with ea_; subst ea_)); subst ec_; clear en_))
              have GB13 := Aside0.mk gb13
              have GG13 := Aside0.mk HG13
              clear gb13 gl13 HG13
              obtain ⟨hx13_0, hf13_0⟩ := Kd.R_celln 0 HO_3.out (0 : Int) p13 q13
              (try rw [show ((0 : Int)).toNat = 0 from rfl] at hx13_0)
              (try simp only [Nat.reduceMul, Nat.zero_mul, Nat.zero_add, Nat.reduceAdd] at hx13_0)
              (try rw [show ((0 : Int)).toNat = 0 from rfl] at hf13_0)
              (try simp only [Nat.reduceMul, Nat.zero_mul, Nat.zero_add, Nat.reduceAdd] at hf13_0)
              replace p13 := eq_true p13
              replace q13 := eq_true q13
              have HP15 := Kd.R_putg HO_3.out (0 : Int) 1
              go_wp2_with (first | ((with_reducible refine gate_store (t := 3) (p := 20) rfl ?_); refine store_event (t := 3) (p := 20) (v := ?vo_w16) (w1 := (wr.setCell ⟨go13, (0 : Int).toNat, none⟩ (.int .i64 1))) ?hg ?ho ?hn ?hr ?_; (case ho => rfl); (case hg => rfl); (case hn => rfl); (case hr => first | (go_simp; done) | (go_simp; rfl)); intro w16 hw; have hg : wr.grownBy w16 (some go13) := (by rw [hw]; exact HP15.2); have hp_ : Kd.R (Kd.int .i64) 3 w16 w.heap.size (fun _ => True) (.slice (some ⟨go13, 0, none⟩) x3_1.length co14) y377 := (by rw [hw, Ny377.out]; exact HP15.1); clear HP15; have n0_ := Aside0.mk (hp_); have n1_ := Aside0.mk ((by rw [hw]; exact below_set (HB.out) GB13.out : Below w.heap.size w w16)); clear HO_3; clear HB; have HO_3 := n0_; have HB := n1_; clear n0_ n1_; clear hg hw hp_))
              go_loopg [5] k1 (fun kq v5 w' => ∃ (x3_2 : List Int) (x5_2 : Bool), v5 = .bool x5_2 ∧ Aside0 (spec_l3Full.l1 kq l0 x3_2 x5_2 = some r) ∧ Aside0 (kq ≤ k1) ∧ Aside0 (Kd.R (Kd.int .i64) 3 w' w.heap.size (fun _ => True) (.slice (some ⟨go13, 0, none⟩) x3_1.length co14) x3_2) ∧ Aside0 (Below w.heap.size w w'))
              case atStart => exact ⟨(y377), (true), (by first | rfl | (simp; done) | (simp [*]; done)), H', ⟨Nat.le_refl _⟩, ⟨by (with_reducible repeat (first | apply Kd.R_alloc | apply Kd.R_drewN | apply Kd.R_drew)); exact HO_3.out⟩, ⟨by repeat (first | (with_reducible first | exact HB.out | apply below_alloc | apply pw_below_drewN | apply below_drew1) | exact HB.out)⟩⟩
              case round =>
                clear H'
                try clear c1
                try clear p1
                try clear q1
                try clear hx1
                try clear qi1
                try clear hf1
                try clear c2
                try clear c2b0
                try clear c2b1
                try clear p2
                try clear c3
                try clear c3b0
                try clear c3b1
                try clear c6
                try clear c6b0
                try clear p6
                try clear c7
                try clear c7b0
                try clear c8
                try clear p8
                try clear q8
                try clear hx8
                try clear hf8
                try clear c12
                try clear c12b0
                try clear c12b1
                try clear p13
                try clear q13
                try clear hx13
                try clear qi13
                try clear hf13
                try clear hx13_0
                try clear hx8_0
                try clear p13
                try clear p2
                try clear p8
                try clear q13
                try clear q8
                obtain ⟨x3_2, x5_2, rfl, HA, HK2, HO_3, HB⟩ := hrel
                have hl3_2 := (Kd.R_reads' HO_3.out).1
                rw [hl3_2] at HO_3
                (try simp only [hl3_2])
                cases gk with
                | zero => exact absurd HA.out (by simp [spec_l3Full.l1])
                | succ k2 =>
                  have H := HA.out
                  clear HA
                  simp only [spec_l3Full.l1] at H
                  by_cases c17 : x5_2 = true
                  · subst c17
                    have H1 : (spec_l3Full.l2 k2 l0 x3_2 false 0) = some r := by rw [if_pos rfl] at H; exact H
                    clear H
                    have H := H1
                    clear H1
                    have H' := Aside0.mk H
                    clear H
                    go_wp2
                    go_loopg [5, 6] k2 (fun kq v5 v6 w' => ∃ (x3_3 : List Int) (x5_3 : Bool) (x6_3 : Int), v5 = .bool x5_3 ∧ v6 = .int .i64 x6_3 ∧ Aside0 (spec_l3Full.l2 kq l0 x3_3 x5_3 x6_3 = some r) ∧ Aside0 (kq ≤ k2) ∧ Aside0 (Kd.R (Kd.int .i64) 3 w' w.heap.size (fun _ => True) (.slice (some ⟨go13, 0, none⟩) x3_2.length co14) x3_3) ∧ Aside0 (Below w.heap.size w w'))
                    case atStart => exact ⟨(x3_2), (false), (0), (by first | rfl | (simp; done) | (simp [*]; done)), (by first | rfl | (simp; done) | (simp [*]; done)), H', ⟨Nat.le_refl _⟩, ⟨by (try simp only [hl3_2]); (with_reducible repeat (first | apply Kd.R_alloc | apply Kd.R_drewN | apply Kd.R_drew)); exact HO_3.out⟩, ⟨by repeat (first | (with_reducible first | exact HB.out | apply below_alloc | apply pw_below_drewN | apply below_drew1) | exact HB.out)⟩⟩
                    case round =>
                      clear H'
                      try clear c1
                      try clear p1
                      try clear q1
                      try clear hx1
                      try clear qi1
                      try clear hf1
                      try clear c2
                      try clear c2b0
                      try clear c2b1
                      try clear p2
                      try clear c3
                      try clear c3b0
                      try clear c3b1
                      try clear c6
                      try clear c6b0
                      try clear p6
                      try clear c7
                      try clear c7b0
                      try clear c8
                      try clear p8
                      try clear q8
                      try clear hx8
                      try clear hf8
                      try clear c12
                      try clear c12b0
                      try clear c12b1
                      try clear p13
                      try clear q13
                      try clear hx13
                      try clear qi13
                      try clear hf13
                      try clear c17
                      try clear hx13_0
                      try clear hx8_0
                      try clear p1
                      try clear p13
                      try clear p2
                      try clear p6
                      try clear p8
                      try clear q1
                      try clear q13
                      try clear q8
                      obtain ⟨x3_3, x5_3, x6_3, rfl, rfl, HA, HK3, HO_3, HB⟩ := hrel
                      have hl3_3 := (Kd.R_reads' HO_3.out).1
                      rw [hl3_3] at HO_3
                      (try simp only [hl3_3])
                      cases gk with
                      | zero => exact absurd HA.out (by simp [spec_l3Full.l2])
                      | succ k3 =>
                        have H := HA.out
                        clear HA
                        simp only [spec_l3Full.l2] at H
                        by_cases c18 : x6_3 < (l0.length : Int)
                        · rw [if_pos c18] at H
                          have c18b0 : decide (x6_3 < (l0.length : Int)) = true := decide_eq_true c18
                          clear c18
                          have HC19 := Aside0.mk H
                          clear H
                          go_upto_region 13 with (fail)
                          go_cut [38] (fun v38 wc => ∃ (kq : Nat) (x3_18 : List Int) (x38_18 : Bool), v38 = .bool x38_18 ∧ Aside0 (spec_l3Full.j3 kq l0 x3_18 x5_3 x6_3 x38_18 = some r) ∧ Aside0 (kq ≤ k3) ∧ Aside0 (Kd.R (Kd.int .i64) 3 wc w.heap.size (fun _ => True) (.slice (some ⟨go13, 0, none⟩) x3_3.length co14) x3_18) ∧ Aside0 (Below w.heap.size w wc))
                          case first =>
                            have H := HC19.out
                            clear HC19
                            by_cases c20 : 0 ≤ x6_3
                            · rw [if_pos c20] at H
                              have c20b0 : decide (0 ≤ x6_3) = true := decide_eq_true c20
                              clear c20
                              (first | rw [c20b0] | (simp only [i64_w, i32_w]; rw [c20b0]) | skip)
                              by_cases c21 : x6_3 < (x3_3.length : Int)
                              · rw [if_pos c21] at H
                                have c21b0 : decide (x6_3 < (x3_3.length : Int)) = true := decide_eq_true c21
                                clear c21
                                by_cases c22 : (rd x3_3 x6_3) ≥ 0
                                · rw [if_pos c22] at H
                                  have c22b0 : decide (0 ≤ (rd x3_3 x6_3)) = true := decide_eq_true c22
                                  clear c22
                                  replace H := Option.bind_eq_some_iff.mp H
                                  obtain ⟨⟨t379, t380⟩, A230, H⟩ := H
                                  replace H : (spec_l3Full.j3 k3 l0 t380 x5_3 x6_3 t379) = some r := H
                                  have A23 := Aside0.mk A230
                                  clear A230
                                  have H' := Aside0.mk H
                                  clear H
                                  have p378 : 0 ≤ (x6_3 : Int) := of_decide_eq_true (by first | (with_reducible assumption) | assumption)
                                  have q378 : x6_3 < (x3_3.length : Int) := of_decide_eq_true (by first | (with_reducible assumption) | assumption)
                                  obtain ⟨ad378, e378, hx378_0⟩ := Kd.at_int (Kd.R_reads' HO_3.out).2.2 x6_3 p378 q378
                                  obtain rfl : (⟨go13, 0, none⟩ : Addr) = ad378 := (by injection e378)
                                  (first | simp only [add_plain] at hx378_0 | simp only [add_at] at hx378_0 | simp only [Addr.add, Nat.zero_add] at hx378_0 | skip)
                                  replace p378 := eq_true p378
                                  replace q378 := eq_true q378
                                  go_wp2_with (first | (go_at_call 98; (with_reducible refine (spec_l3From.calls k3 _ _ l0 (fun k_ => some k_ = (.slice (some ⟨go13, 0, none⟩) x3_3.length co14 : Value).ownBlock) (.slice (some ⟨go13, 0, none⟩) x3_3.length co14) x3_3 x6_3 t379 t380 w _ ?side1 ?side2 ?side3 ?side4 A23.out).mono ?_); (case side1 => repeat (first | (with_reducible first | exact HB.out | apply below_alloc | apply pw_below_drewN | apply below_drew1) | exact HB.out)); (case side2 => exact Kd.C_kept_came k29_heap HR0.out (by repeat (first | (with_reducible first | exact HB.out | apply below_alloc | apply pw_below_drewN | apply below_drew1) | exact HB.out)) (fun k_ hs_ => (fun e_ => Kd.R_base HO_3.out k_ e_.symm) hs_)); (case side3 => exact HC0.out); (case side4 => exact Kd.R_tight rfl HO_3.out); rintro e w24 ⟨rfl, hy0, hb, hkp⟩; have n0_ := Aside0.mk (Kd.R_reok rfl hy0 (fun k_ e_ => HO_3.out.1 k_ e_)); have n1_ := Aside0.mk (hb); clear HO_3; clear HB; have HO_3 := n0_; have HB := n1_; clear n0_ n1_; (try clear hb); (try clear hkp); (try clear hy0)))
                                  go_meet
                                  case rel => exact ⟨_, (t380), (t379), (by first | rfl | (simp; done) | (simp [*]; done)), H', ⟨by have := HK1.out; have := HK2.out; have := HK3.out; first | omega | exact Nat.le_refl _⟩, ⟨by (try simp only [hl3_2]); (try simp only [hl3_3]); (with_reducible repeat (first | apply Kd.R_alloc | apply Kd.R_drewN | apply Kd.R_drew)); exact HO_3.out⟩, ⟨by repeat (first | (with_reducible first | exact HB.out | apply below_alloc | apply pw_below_drewN | apply below_drew1) | exact HB.out)⟩⟩
                                · rw [if_neg c22] at H
                                  have c22b0 : decide (0 ≤ (rd x3_3 x6_3)) = false := decide_eq_false c22
                                  clear c22
                                  have H' := Aside0.mk H
                                  clear H
                                  have p378 : 0 ≤ (x6_3 : Int) := of_decide_eq_true (by first | (with_reducible assumption) | assumption)
                                  have q378 : x6_3 < (x3_3.length : Int) := of_decide_eq_true (by first | (with_reducible assumption) | assumption)
                                  obtain ⟨ad378, e378, hx378_0⟩ := Kd.at_int (Kd.R_reads' HO_3.out).2.2 x6_3 p378 q378
                                  obtain rfl : (⟨go13, 0, none⟩ : Addr) = ad378 := (by injection e378)
                                  (first | simp only [add_plain] at hx378_0 | simp only [add_at] at hx378_0 | simp only [Addr.add, Nat.zero_add] at hx378_0 | skip)
                                  replace p378 := eq_true p378
                                  replace q378 := eq_true q378
                                  go_wp2
                                  go_meet
                                  case rel => exact ⟨_, (x3_3), (false), (by first | rfl | (simp; done) | (simp [*]; done)), H', ⟨by have := HK1.out; have := HK2.out; have := HK3.out; first | omega | exact Nat.le_refl _⟩, ⟨by (try simp only [hl3_2]); (try simp only [hl3_3]); (with_reducible repeat (first | apply Kd.R_alloc | apply Kd.R_drewN | apply Kd.R_drew)); exact HO_3.out⟩, ⟨by repeat (first | (with_reducible first | exact HB.out | apply below_alloc | apply pw_below_drewN | apply below_drew1) | exact HB.out)⟩⟩
                              · rw [if_neg c21] at H
                                exact absurd H (by simp)
                            · rw [if_neg c20] at H
                              exact absurd H (by simp)
                          case rest =>
                            clear HC19
                            try clear c1
                            try clear p1
                            try clear q1
                            try clear hx1
                            try clear qi1
                            try clear hf1
                            try clear c2
                            try clear c2b0
                            try clear c2b1
                            try clear p2
                            try clear c3
                            try clear c3b0
                            try clear c3b1
                            try clear p3
                            try clear q3
                            try clear hx3
                            try clear c6
                            try clear c6b0
                            try clear p6
                            try clear c7
                            try clear c7b0
                            try clear c8
                            try clear p8
                            try clear q8
                            try clear hx8
                            try clear hf8
                            try clear c12
                            try clear c12b0
                            try clear c12b1
                            try clear p13
                            try clear q13
                            try clear hx13
                            try clear qi13
                            try clear hf13
                            try clear c17
                            try clear c18
                            try clear c18b0
                            try clear c20
                            try clear c20b0
                            try clear c21
                            try clear c21b0
                            try clear c22
                            try clear c22b0
                            try clear hx13_0
                            try clear hx378_0
                            try clear hx8_0
                            try clear p1
                            try clear p13
                            try clear p2
                            try clear p378
                            try clear p6
                            try clear p8
                            try clear q1
                            try clear q13
                            try clear q378
                            try clear q8
                            obtain ⟨kq, x3_18, x38_18, rfl, HA, HJ18, HO_3, HB⟩ := hcut
                            have hl3_18 := (Kd.R_reads' HO_3.out).1
                            rw [hl3_18] at HO_3
                            (try simp only [hl3_18])
                            cases kq with
                            | zero => exact absurd HA.out (by simp [spec_l3Full.j3])
                            | succ kj18 =>
                              have H := HA.out
                              clear HA
                              simp only [spec_l3Full.j3] at H
                              by_cases c25 : x38_18 = true
                              · subst c25
                                have H1 : (spec_l3Full.l2 kj18 l0 x3_18 true (wrap64 (x6_3 + 1))) = some r := by rw [if_pos rfl] at H; exact H
                                clear H
                                have H := H1
                                clear H1
                                have H' := Aside0.mk H
                                clear H
                                go_wp2
                                (try simp only [← hl3_3, ← hl3_18])
                                go_roundg kj18
                                case measure => have := HK1.out; have := HK2.out; have := HK3.out; have := HJ18.out; omega
                                case rel => exact ⟨(x3_18), (true), (wrap64 (x6_3 + 1)), (by first | rfl | (simp; done) | (simp [*]; done)), (by first | rfl | (simp; done) | (simp [*]; done)), H', ⟨by have := HK1.out; have := HK2.out; have := HK3.out; have := HJ18.out; omega⟩, ⟨by (try simp only [hl3_2]); (try simp only [hl3_3]); (try simp only [hl3_18]); (with_reducible repeat (first | apply Kd.R_alloc | apply Kd.R_drewN | apply Kd.R_drew)); exact HO_3.out⟩, ⟨by repeat (first | (with_reducible first | exact HB.out | apply below_alloc | apply pw_below_drewN | apply below_drew1) | exact HB.out)⟩⟩
                              · replace c25 := Bool.eq_false_iff.mpr c25
                                subst c25
                                have H1 : (spec_l3Full.l2 kj18 l0 x3_18 x5_3 (wrap64 (x6_3 + 1))) = some r := by rw [if_neg (show ¬ (false = true) by decide)] at H; exact H
                                clear H
                                have H := H1
                                clear H1
                                have H' := Aside0.mk H
                                clear H
                                go_wp2
                                (try simp only [← hl3_3, ← hl3_18])
                                go_roundg kj18
                                case measure => have := HK1.out; have := HK2.out; have := HK3.out; have := HJ18.out; omega
                                case rel => exact ⟨(x3_18), (x5_3), (wrap64 (x6_3 + 1)), (by first | rfl | (simp; done) | (simp [*]; done)), (by first | rfl | (simp; done) | (simp [*]; done)), H', ⟨by have := HK1.out; have := HK2.out; have := HK3.out; have := HJ18.out; omega⟩, ⟨by (try simp only [hl3_2]); (try simp only [hl3_3]); (try simp only [hl3_18]); (with_reducible repeat (first | apply Kd.R_alloc | apply Kd.R_drewN | apply Kd.R_drew)); exact HO_3.out⟩, ⟨by repeat (first | (with_reducible first | exact HB.out | apply below_alloc | apply pw_below_drewN | apply below_drew1) | exact HB.out)⟩⟩
                        · rw [if_neg c18] at H
                          have c18b0 : decide (x6_3 < (l0.length : Int)) = false := decide_eq_false c18
                          clear c18
                          have H' := Aside0.mk H
                          clear H
                          go_wp2
                          (try simp only [← hl3_2, ← hl3_3])
                          go_roundg k3
                          case measure => have := HK1.out; have := HK2.out; have := HK3.out; omega
                          case rel => exact ⟨(x3_3), (x5_3), (by first | rfl | (simp; done) | (simp [*]; done)), H', ⟨by have := HK1.out; have := HK2.out; have := HK3.out; omega⟩, ⟨by (try simp only [hl3_2]); (try simp only [hl3_3]); (with_reducible repeat (first | apply Kd.R_alloc | apply Kd.R_drewN | apply Kd.R_drew)); exact HO_3.out⟩, ⟨by repeat (first | (with_reducible first | exact HB.out | apply below_alloc | apply pw_below_drewN | apply below_drew1) | exact HB.out)⟩⟩
                  · replace c17 := Bool.eq_false_iff.mpr c17
                    subst c17
                    have H1 : (some x3_2) = some r := by rw [if_neg (show ¬ (false = true) by decide)] at H; exact H
                    clear H
                    have H := H1
                    clear H1
                    obtain rfl := Option.some.inj H
                    go_wp2
                    go_ret
                    exact ⟨_, by first | rfl | (simp [errW_none, errW_some] <;> rfl) | (simp [*, errW_none, errW_some] <;> rfl), by (with_reducible repeat (first | apply Kd.R_alloc | apply Kd.R_drewN | apply Kd.R_drew)); exact HO_3.out, by repeat (first | (with_reducible first | exact HB.out | apply below_alloc | apply pw_below_drewN | apply below_drew1) | exact HB.out)⟩
            · rw [if_neg c12] at H
              exact absurd H (by simp)
    · rw [if_neg c3] at H
      exact absurd H (by simp)
  · rw [if_neg c2] at H
    exact absurd H (by simp)
end Go.Proofs.Ytmklpbmlgjkbiaa.PS
end
section
namespace Go.Proofs.Ytmklpbmlgjkbiaa.PS
open Go.RowKit Go.Proofs.YtmklpbmlgjkbiaaW.PrintWords Go.Proofs.YtmklpbmlgjkbiaaW.PrintLast
set_option linter.unusedVariables false
theorem both_eq {a x : Int} (ha : -1 ≤ a) (ha' : a ≤ 15) (h0 : 0 ≤ x) (h1 : x ≤ 15) : spec_l3Both.f 12 a x = some (both a x) := by
  by_cases h : a = -1
  · subst h; unfold spec_l3Both.f; rfl
  · have : fours (fun a => fours fun x => decide (spec_l3Both.f 12 a x = some (both a x))) = true := by decide +kernel
    exact of_decide_eq_true (fours_all (fours_all this (by omega) ha') h0 h1)
theorem both_ev {a x : Int} (ha : -1 ≤ a) (ha' : a ≤ 15) (h0 : 0 ≤ x) (h1 : x ≤ 15) : Ev (fun k => spec_l3Both.f k a x) (both a x) :=
  Ev.of (fun k => spec_l3Both.mono a x k) (both_eq ha ha' h0 h1)
theorem with_eq {x r : Int} (hx : 0 ≤ x) (hx2 : x ≤ 15) (hr : 0 ≤ r) (hr2 : r ≤ 3) : spec_l3With.f x r = some (orBit x r) := by
  have : fours (fun x => fours fun r => decide (r ≤ 3 → spec_l3With.f x r = some (orBit x r))) = true := by decide +kernel
  exact of_decide_eq_true (fours_all (fours_all this hx hx2) hr (by omega)) hr2
theorem fills_eq {k : Int} (h : 1 ≤ k ∧ k ≤ 14) : spec_l3Fills.f k = some (howR k).f3 := by
  have : k = 1 ∨ k = 2 ∨ k = 3 ∨ k = 4 ∨ k = 5 ∨ k = 6 ∨ k = 7 ∨ k = 8 ∨ k = 9 ∨ k = 10 ∨ k = 11 ∨ k = 12 ∨ k = 13 ∨ k = 14 := by omega
  rcases this with rfl | rfl | rfl | rfl | rfl | rfl | rfl | rfl | rfl | rfl | rfl | rfl | rfl | rfl <;> rfl
def msetL (o : List Int) (t : Int) (v : Int) : List Int := o.set t.toNat (both (at_ o t) v)
theorem merge_ev {n : Nat} {o : List Int} (ho : GoodO n o) {t v : Int} (h0 : 0 ≤ t) (ht : t < n) (hv : 0 ≤ v) (hv2 : v ≤ 15) : Ev (fun k => spec_l3Merge.f k o t v) (decide (mu (msetL o t v) < mu o), msetL o t v) := by
  have hb := both_ev (at_good ho t).1 (at_good ho t).2 hv hv2
  obtain ⟨K, hK⟩ := hb
  refine ⟨K, fun k hk => ?_⟩
  have hK : spec_l3Both.f k (at_ o t) v = some (both (at_ o t) v) := hK k hk
  show spec_l3Merge.f k o t v = _
  unfold spec_l3Merge.f
  rw [if_neg (by rw [ho.1]; omega), if_pos h0, if_pos (by rw [ho.1]; omega)]
  have e : rd o t = at_ o t := rfl
  rw [e, hK]
  simp only [Option.bind_some]
  have hm := mu_set (o := o) (i := t.toNat) (x := both (at_ o t) v) (by rw [ho.1]; omega)
  rw [Int.toNat_of_nonneg h0] at hm
  by_cases he : both (at_ o t) v = at_ o t
  · rw [if_pos he]
    have e2 : msetL o t v = o := by
      unfold msetL; rw [he]
      have := set_at (o := o) (i := t.toNat)
      rwa [Int.toNat_of_nonneg h0] at this
    rw [e2]; simp
  · rw [if_neg he]
    have := both_mu (at_good ho t).1 (at_good ho t).2 hv hv2
    have h2 : mu1 (both (at_ o t) v) < mu1 (at_ o t) := by
      rcases this with h | h
      · exact absurd h he
      · exact h
    have h3 : mu (msetL o t v) < mu o := by unfold msetL; omega
    rw [decide_eq_true h3]; rfl
theorem merge_out (k : Nat) {o : List Int} {t v : Int} (ht : (o.length : Int) ≤ t) : spec_l3Merge.f k o t v = some (false, o) := by
  unfold spec_l3Merge.f; rw [if_pos (by omega)]
theorem mset_good {n : Nat} {o : List Int} (ho : GoodO n o) {t v : Int} (h0 : 0 ≤ t) (ht : t < n) (hv : 0 ≤ v) (hv2 : v ≤ 15) : GoodO n (msetL o t v) ∧ Down o (msetL o t v) ∧ ∀ i, 0 ≤ i → 0 ≤ at_ o i → 0 ≤ at_ (msetL o t v) i := by
  have hb := both_range (a := at_ o t) hv hv2
  refine ⟨⟨by simp [msetL, ho.1], fun x hx => ?_⟩, ?_, fun i hi h => ?_⟩
  · rcases List.mem_or_eq_of_mem_set hx with h | h
    · exact ho.2 x h
    · omega
  · have hm := mu_set (o := o) (i := t.toNat) (x := both (at_ o t) v) (by rw [ho.1]; omega)
    rw [Int.toNat_of_nonneg h0] at hm
    rcases both_mu (at_good ho t).1 (at_good ho t).2 hv hv2 with he | he
    · left; unfold msetL; rw [he]
      have := set_at (o := o) (i := t.toNat)
      rwa [Int.toNat_of_nonneg h0] at this
    · right; unfold msetL; omega
  · by_cases e : t = i
    · subst e; unfold msetL; rw [at_set_self (by rw [ho.1]; omega)]; exact hb.1
    · have := at_set_ne (o := o) (i := t.toNat) (j := i.toNat) (x := both (at_ o t) v) (by omega)
      rw [Int.toNat_of_nonneg hi] at this
      unfold msetL; rw [this]; exact h
theorem both_comm {z a b : Int} (ha : 0 ≤ a) (hb : 0 ≤ b) : both (both z a) b = both (both z b) a := by
  unfold both
  by_cases hz : z < 0
  · rw [if_pos hz, if_pos hz, if_neg (by omega), if_neg (by omega), Nat.and_comm]
  · rw [if_neg hz, if_neg hz, if_neg (by omega), if_neg (by omega)]
    simp only [Int.toNat_natCast]
    rw [Nat.and_assoc, Nat.and_comm a.toNat, ← Nat.and_assoc]
theorem mset_comm {n : Nat} {o : List Int} (ho : GoodO n o) {s t a b : Int} (hs : 0 ≤ s) (hs2 : s < n) (ht : 0 ≤ t) (ht2 : t < n) (ha : 0 ≤ a) (hb : 0 ≤ b) : msetL (msetL o s a) t b = msetL (msetL o t b) s a := by
  by_cases e : s = t
  · subst e
    unfold msetL
    rw [at_set_self (by rw [ho.1]; omega), at_set_self (by rw [ho.1]; omega), List.set_set, List.set_set, both_comm ha hb]
  · have h1 := at_set_ne (o := o) (i := s.toNat) (j := t.toNat) (x := both (at_ o s) a) (by omega)
    have h2 := at_set_ne (o := o) (i := t.toNat) (j := s.toNat) (x := both (at_ o t) b) (by omega)
    rw [Int.toNat_of_nonneg ht] at h1
    rw [Int.toNat_of_nonneg hs] at h2
    unfold msetL
    rw [h1, h2, List.set_comm _ _ (by omega)]
theorem ev_eq {α : Type} {g : Nat → Option α} {a b : α} (h : Ev g a) (e : a = b) : Ev g b := e ▸ h
theorem from_ev {l : List S29} (hc : codeB l = true) {o : List Int} (ho : GoodO l.length o) {i : Nat} (hi : i < l.length) (h0 : 0 ≤ at_ o i) :
    Ev (fun k => spec_l3From.f k l o i) (decide (mu (stepW (wayW l) o i) < mu o), stepW (wayW l) o i) := by
  obtain ⟨⟨k1, k2, k3, k4, k5, k6⟩, kt⟩ := code_op hc hi
  have hlen := code_len hc
  obtain ⟨x, hx⟩ : ∃ x, x = l[i] := ⟨_, rfl⟩
  rw [← hx] at k1 k2 k3 k4 k5 k6 kt
  have hrd : rd_T29 l (i : Int) = x := by rw [rd29_get hi, hx]
  obtain ⟨u, hu⟩ : ∃ u, u = at_ o i := ⟨_, rfl⟩
  have hu15 := (at_good ho i).2
  rw [← hu] at h0 hu15
  obtain ⟨on, hon⟩ : ∃ on, on = flF (if (howR x.f0).f3 = true then .fill else .same) x.f1 u := ⟨_, rfl⟩
  have hon15 : 0 ≤ on ∧ on ≤ 15 ∧ (spec_l3Fills.f x.f0).bind (fun t => if t = true then spec_l3With.f u x.f1 else some u) = some on := by
    rw [fills_eq k1]
    simp only [Option.bind_some]
    by_cases hf : (howR x.f0).f3 = true
    · have hr : 0 ≤ x.f1 ∧ x.f1 ≤ 3 := by
        have := fills_has hf
        rcases k3 with k3 | k3
        · omega
        · exact k3.2
      rw [if_pos hf] at hon ⊢
      rw [hon]
      exact ⟨(orBit_range h0 hu15 hr.1 hr.2).1, (orBit_range h0 hu15 hr.1 hr.2).2, with_eq h0 hu15 hr.1 hr.2⟩
    · rw [if_neg hf] at hon ⊢
      rw [hon]
      exact ⟨h0, hu15, rfl⟩
  obtain ⟨on0, on1, honf⟩ := hon15
  have wn : wrap64 ((i : Int) + 1) = (i : Int) + 1 := w64 (by omega) (by omega)
  have next : ∀ o' : List Int, GoodO l.length o' → Ev (fun k => spec_l3Merge.f k o' (wrap64 ((i : Int) + 1)) on) (if (i : Int) + 1 < l.length then (decide (mu (msetL o' ((i : Int) + 1) on) < mu o'), msetL o' ((i : Int) + 1) on) else (false, o')) := fun o' ho' => by
    rw [wn]
    by_cases hn : (i : Int) + 1 < l.length
    · rw [if_pos hn]; exact merge_ev ho' (by omega) hn on0 on1
    · rw [if_neg hn]; exact ⟨0, fun k _ => merge_out k (by rw [ho'.1]; omega)⟩
  have j2 : ∀ (o' : List Int) (b : Bool), GoodO l.length o' → Down o o' → b = decide (mu o' < mu o) → Ev (fun k => spec_l3From.j2 k o' i on b)
      (decide (mu (if (i : Int) + 1 < l.length then msetL o' ((i : Int) + 1) on else o') < mu o), if (i : Int) + 1 < l.length then msetL o' ((i : Int) + 1) on else o') := fun o' b ho' hd hb => by
    refine Ev.step (f := fun k => (spec_l3Merge.f k o' (wrap64 ((i : Int) + 1)) on).bind fun bt371 => (if bt371.1 = true then (some (true, bt371.2)) else (some (b, bt371.2)))) (fun k => by simp only [spec_l3From.j2]) ?_
    refine Ev.bind (next o' ho') ?_
    by_cases hn : (i : Int) + 1 < l.length
    · simp only [if_pos hn]
      have hd2 := (mset_good ho' (t := (i : Int) + 1) (by omega) hn on0 on1).2.1
      obtain ⟨nw, hnw⟩ : ∃ nw, nw = msetL o' ((i : Int) + 1) on := ⟨_, rfl⟩
      rw [← hnw] at hd2 ⊢
      by_cases hm : mu nw < mu o'
      · have h3 : mu nw < mu o := by
          rcases hd with hd | hd
          · rw [hd] at hm; exact hm
          · omega
        rw [decide_eq_true hm, decide_eq_true h3]
        exact Ev.now _
      · have e : nw = o' := by
          rcases hd2 with h | h
          · exact h
          · exact absurd h hm
        rw [decide_eq_false hm, hb, e]
        exact Ev.now _
    · simp only [if_neg hn]
      rw [hb]
      exact Ev.now _
  have goK : ∀ {g : Nat → Option (Bool × List Int)} {fin : List Int}, Ev g (decide (mu fin < mu o), fin) → fin = stepW (wayW l) o i → Ev g (decide (mu (stepW (wayW l) o i) < mu o), stepW (wayW l) o i) := fun h e => e ▸ h
  have hstep : stepW (wayW l) o i = (wayW l i).foldl (mergeW i) o := by unfold stepW; rw [if_neg (by rw [← hu]; omega)]
  have hways : wayW l i = ((if x.f0 = 9 ∨ x.f0 = 14 then [] else if (i : Int) + 1 < l.length then [((i : Int) + 1, if (howR x.f0).f3 = true then Fl.fill else .same)] else []) ++ (if x.f0 = 5 then [(x.f3, Fl.one)] else if hasT x.f0 = true then [(x.f3, .same)] else [])).map fun a => (a.1, flF a.2 x.f1) := by
    unfold wayW waysL arrowsL; rw [hrd]
  have nxt : ∀ o' : List Int, at_ o' i = u → mergeW i o' ((i : Int) + 1, flF (if (howR x.f0).f3 = true then .fill else .same) x.f1) = msetL o' ((i : Int) + 1) on := fun o' h => by
    unfold mergeW msetL; simp only []; rw [h, hon]
  have stay : at_ (msetL o ((i : Int) + 1) on) i = u := by
    have := at_set_ne (o := o) (i := ((i : Int) + 1).toNat) (j := i) (x := both (at_ o ((i : Int) + 1)) on) (by omega)
    unfold msetL; rw [this, hu]
  have hf : ∀ k, spec_l3From.f k l o i = spec_l3From.j0 k o i u on x.f0 x.f1 x.f2 x.f3 x.f4.f0 x.f4.f1 := fun k => by
    unfold spec_l3From.f
    rw [if_pos (by omega), if_pos (by omega), if_pos (by rw [ho.1]; omega), hrd]
    have e : rd o (i : Int) = u := hu.symm
    rw [e]
    rw [fills_eq k1] at honf ⊢
    simp only [Option.bind_some] at honf ⊢
    by_cases hff : (howR x.f0).f3 = true
    · rw [if_pos hff] at honf ⊢
      rw [honf]; rfl
    · rw [if_neg hff] at honf ⊢
      obtain rfl := Option.some.inj honf
      rfl
  refine Ev.congr hf ?_
  have tT : hasT x.f0 = true → 0 ≤ x.f3 ∧ x.f3 < l.length := fun h => ⟨by omega, kt h⟩
  have h1 : (0 : Int) ≤ 1 ∧ (1 : Int) ≤ 15 := by omega
  by_cases e5 : x.f0 = 5
  · have ht := tT (by rw [e5]; rfl)
    refine Ev.step (f := fun k => (spec_l3Merge.f k o x.f3 1).bind fun bt365 => (spec_l3From.j2 k bt365.2 i on bt365.1)) (fun k => by simp only [spec_l3From.j0]; rw [if_pos e5]) ?_
    refine Ev.bind (merge_ev ho ht.1 ht.2 h1.1 h1.2) ?_
    obtain ⟨g1, d1, -⟩ := mset_good ho ht.1 ht.2 h1.1 h1.2
    refine goK (j2 _ _ g1 d1 rfl) ?_
    rw [hstep, hways, if_neg (c := x.f0 = 9 ∨ x.f0 = 14) (by omega), if_pos (c := x.f0 = 5) e5]
    by_cases hn : (i : Int) + 1 < l.length
    · simp only [if_pos hn, List.singleton_append, List.map_cons, List.map_nil, List.foldl_cons, List.foldl_nil]
      rw [nxt o hu.symm, mset_comm ho ht.1 ht.2 (by omega) hn h1.1 on0]
      rfl
    · simp only [if_neg hn, List.nil_append, List.map_cons, List.map_nil, List.foldl_cons, List.foldl_nil]
      rfl
  by_cases e9 : x.f0 = 9
  · have ht := tT (by rw [e9]; rfl)
    refine Ev.step (f := fun k => (spec_l3Merge.f k o x.f3 u).bind fun bt367 => (some (bt367.1, bt367.2))) (fun k => by simp only [spec_l3From.j0]; rw [if_neg e5, if_pos e9]) ?_
    refine Ev.bind (merge_ev ho ht.1 ht.2 h0 hu15) ?_
    refine goK (Ev.now _) ?_
    rw [hstep, hways, if_pos (c := x.f0 = 9 ∨ x.f0 = 14) (.inl e9), if_neg (c := x.f0 = 5) e5, if_pos (c := hasT x.f0 = true) (by rw [e9]; rfl)]
    simp only [List.nil_append, List.map_cons, List.map_nil, List.foldl_cons, List.foldl_nil]
    unfold mergeW msetL; simp only [flF]; rw [hu]
  have j1 : Ev (fun k => spec_l3From.j1 k o i u on false x.f0 (x.f0 == 8 || x.f0 == 10) x.f0 x.f1 x.f2 x.f3 x.f4.f0 x.f4.f1) (decide (mu (stepW (wayW l) o i) < mu o), stepW (wayW l) o i) := by
    by_cases e810 : x.f0 = 8 ∨ x.f0 = 10
    · have hb : (x.f0 == 8 || x.f0 == 10) = true := by simpa using e810
      have hT : hasT x.f0 = true := by rcases e810 with e | e <;> (rw [e]; rfl)
      have ht := tT hT
      refine Ev.step (f := fun k => (spec_l3Merge.f k o x.f3 u).bind fun bt369 => (spec_l3From.j2 k bt369.2 i on bt369.1)) (fun k => by simp only [spec_l3From.j1]; rw [if_pos hb]) ?_
      refine Ev.bind (merge_ev ho ht.1 ht.2 h0 hu15) ?_
      obtain ⟨g1, d1, -⟩ := mset_good ho ht.1 ht.2 h0 hu15
      refine goK (j2 _ _ g1 d1 rfl) ?_
      rw [hstep, hways, if_neg (c := x.f0 = 9 ∨ x.f0 = 14) (by omega), if_neg (c := x.f0 = 5) e5, if_pos (c := hasT x.f0 = true) hT]
      by_cases hn : (i : Int) + 1 < l.length
      · simp only [if_pos hn, List.singleton_append, List.map_cons, List.map_nil, List.foldl_cons, List.foldl_nil]
        rw [nxt o hu.symm, mset_comm ho ht.1 ht.2 (by omega) hn h0 on0]
        show _ = msetL _ x.f3 (at_ _ i)
        rw [stay]
      · simp only [if_neg hn, List.nil_append, List.map_cons, List.map_nil, List.foldl_cons, List.foldl_nil]
        show _ = msetL _ x.f3 (at_ _ i)
        rw [← hu]
    · have hb : ¬ (x.f0 == 8 || x.f0 == 10) = true := by simpa using e810
      have hT : hasT x.f0 = false := by
        unfold hasT; exact decide_eq_false (by omega)
      by_cases e14 : x.f0 = 14
      · refine Ev.step (f := fun k => some (false, o)) (fun k => by simp only [spec_l3From.j1]; rw [if_neg hb, if_pos e14]) ?_
        have e : o = stepW (wayW l) o i := by
          rw [hstep, hways, if_pos (c := x.f0 = 9 ∨ x.f0 = 14) (.inr e14), if_neg (c := x.f0 = 5) e5, if_neg (c := hasT x.f0 = true) (by rw [hT]; decide)]; rfl
        rw [← e]
        refine ev_eq (Ev.now _) ?_
        simp
      · refine Ev.step (f := fun k => spec_l3From.j2 k o i on false) (fun k => by simp only [spec_l3From.j1]; rw [if_neg hb, if_neg e14]) ?_
        refine goK (j2 o false ho (.refl _) (by simp)) ?_
        rw [hstep, hways, if_neg (c := x.f0 = 9 ∨ x.f0 = 14) (by omega), if_neg (c := x.f0 = 5) e5, if_neg (c := hasT x.f0 = true) (by rw [hT]; decide)]
        by_cases hn : (i : Int) + 1 < l.length
        · simp only [if_pos hn, List.append_nil, List.map_cons, List.map_nil, List.foldl_cons, List.foldl_nil]
          rw [nxt o hu.symm]
        · simp only [if_neg hn, List.append_nil, List.map_nil, List.foldl_nil]
  refine Ev.step (f := fun k => spec_l3From.j1 k o i u on false x.f0 (x.f0 == 8 || x.f0 == 10) x.f0 x.f1 x.f2 x.f3 x.f4.f0 x.f4.f1) (fun k => ?_) j1
  simp only [spec_l3From.j0]
  rw [if_neg e5, if_neg e9]
  by_cases e8 : x.f0 = 8
  · rw [if_pos e8]; simp [e8]
  · rw [if_neg e8]
    have : (x.f0 == 8) = false := by simpa using e8
    rw [this]; rfl
theorem l2_ev {l : List S29} (hc : codeB l = true) {o : List Int} (ho : GoodO l.length o) {r : List Int} (h : Ev (fun k => spec_l3Full.l1 k l (passW (wayW l) l.length o) (decide (mu (passW (wayW l) l.length o) < mu o))) r) (d : Nat) :
    ∀ j, l.length - j = d → j ≤ l.length → Ev (fun k => spec_l3Full.l2 k l (passW (wayW l) j o) (decide (mu (passW (wayW l) j o) < mu o)) j) r := by
  have hlen := code_len hc
  induction d with
  | zero =>
    intro j hj hj2
    obtain rfl : j = l.length := by omega
    refine Ev.step (fun k => ?_) h
    simp only [spec_l3Full.l2]
    rw [if_neg (by omega)]
  | succ d ih =>
    intro j hj hj2
    obtain ⟨gp, dp⟩ := passes_good (wayW_good hc) ho j (by omega)
    have ih1 := ih (j + 1) (by omega) (by omega)
    have ew : wrap64 ((j : Int) + 1) = ((j + 1 : Nat) : Int) := by rw [w64 (by omega) (by omega)]; omega
    obtain ⟨p, hp⟩ : ∃ p, p = passW (wayW l) j o := ⟨_, rfl⟩
    rw [pass_succ, ← hp] at ih1
    rw [← hp] at gp dp ⊢
    have e : rd p (j : Int) = at_ p j := rfl
    by_cases hn : 0 ≤ at_ p j
    · have hfr := from_ev hc gp (i := j) (by omega) hn
      refine Ev.step (f := fun k => (spec_l3From.f k l p j).bind fun bt379 => (spec_l3Full.j3 k l bt379.2 (decide (mu p < mu o)) j bt379.1)) (fun k => ?_) ?_
      · simp only [spec_l3Full.l2]
        rw [if_pos (by omega), if_pos (by omega), if_pos (by rw [gp.1]; omega), e, if_pos hn]
      · refine Ev.bind hfr ?_
        obtain ⟨g2, d2⟩ := step_good (wayW_good hc) (i := j) (by omega) gp
        obtain ⟨s, hs⟩ : ∃ s, s = stepW (wayW l) p j := ⟨_, rfl⟩
        rw [← hs] at ih1 g2 d2 ⊢
        by_cases hm : mu s < mu p
        · refine Ev.step (fun k => ?_) ih1
          have : mu s < mu o := by
            rcases dp with h | h
            · rw [h] at hm; exact hm
            · omega
          simp only [spec_l3Full.j3, decide_eq_true hm, decide_eq_true this, ew, if_true]
        · have es : s = p := by
            rcases d2 with h | h
            · exact h
            · exact absurd h hm
          rw [es] at ih1 ⊢
          refine Ev.step (fun k => ?_) ih1
          simp only [spec_l3Full.j3, ew]
          rw [if_neg (by simp)]
    · have hst : stepW (wayW l) p j = p := by unfold stepW; rw [if_pos (by omega)]
      rw [hst] at ih1
      refine Ev.step (f := fun k => spec_l3Full.j3 k l p (decide (mu p < mu o)) j false) (fun k => ?_) ?_
      · simp only [spec_l3Full.l2]
        rw [if_pos (by omega), if_pos (by omega), if_pos (by rw [gp.1]; omega), e, if_neg (by omega)]
      · refine Ev.step (fun k => ?_) ih1
        simp only [spec_l3Full.j3, ew]
        rw [if_neg (by decide)]
theorem l1_ev {l : List S29} (hc : codeB l = true) (m : Nat) : ∀ (o : List Int) (c : Bool), GoodO l.length o → mu o + c.toNat ≤ m → (c = false → passW (wayW l) l.length o = o) → Ev (fun k => spec_l3Full.l1 k l o c) (finW (wayW l) l.length o) := by
  have one : ∀ (o : List Int), passW (wayW l) l.length o = o → Ev (fun k => spec_l3Full.l1 k l o false) (finW (wayW l) l.length o) := fun o ho => by
    refine Ev.step (f := fun k => some o) (fun k => ?_) (ev_eq (Ev.now _) (fin_fix ho).symm)
    simp only [spec_l3Full.l1]; rw [if_neg (by decide)]
  induction m with
  | zero =>
    intro o c ho hm hf
    cases c with
    | false => exact one o (hf rfl)
    | true => simp at hm
  | succ m ih =>
    intro o c ho hm hf
    cases c with
    | false => exact one o (hf rfl)
    | true =>
      obtain ⟨g, d⟩ := passes_good (wayW_good hc) ho l.length (Nat.le_refl _)
      have hrec : Ev (fun k => spec_l3Full.l1 k l (passW (wayW l) l.length o) (decide (mu (passW (wayW l) l.length o) < mu o))) (finW (wayW l) l.length o) := by
        rw [← fin_pass (wayW_good hc) ho]
        rcases d with d | d
        · have hd : decide (mu (passW (wayW l) l.length o) < mu o) = false := by rw [d]; simp
          rw [hd]
          exact one _ (by rw [d, d])
        · rw [decide_eq_true d]
          exact ih _ true g (by simp at hm ⊢; omega) (fun h => by cases h)
      have := l2_ev hc ho hrec l.length 0 (by omega) (by omega)
      refine Ev.step (fun k => ?_) this
      simp only [spec_l3Full.l1, if_true]
      have e0 : decide (mu (passW (wayW l) 0 o) < mu o) = false := by simp [passW]
      rw [e0]; rfl
theorem l0_ev {l : List S29} {r : List Int} (h1 : 1 ≤ l.length) (h2 : l.length ≤ 16) (h : Ev (fun k => spec_l3Full.l1 k l (startO l.length) true) r) (d : Nat) :
    ∀ j, l.length - 1 - j = d → j + 1 ≤ l.length → Ev (fun k => spec_l3Full.l0 k l (0 :: (List.replicate j (-1) ++ List.replicate (l.length - 1 - j) 0)) ((j + 1 : Nat) : Int)) r := by
  induction d with
  | zero =>
    intro j hj hj2
    refine Ev.step (fun k => ?_) h
    have hl : (0 :: (List.replicate j (-1) ++ List.replicate (l.length - 1 - j) (0 : Int))).length = l.length := by simp; omega
    simp only [spec_l3Full.l0]
    rw [hl, if_neg (by omega), if_pos (by omega), hj]
    have : startO l.length = (0 :: (List.replicate j (-1) ++ List.replicate 0 (0 : Int))).set (Int.toNat 0) 1 := by
      unfold startO
      rw [show l.length = j + 1 by omega, List.replicate_succ]; simp
    rw [this]
  | succ d ih =>
    intro j hj hj2
    have ih1 := ih (j + 1) (by omega) (by omega)
    refine Ev.step (fun k => ?_) ih1
    have hl : (0 :: (List.replicate j (-1) ++ List.replicate (l.length - 1 - j) (0 : Int))).length = l.length := by simp; omega
    simp only [spec_l3Full.l0]
    rw [hl, if_pos (by omega), if_pos (by omega), w64 (by omega) (by omega), Int.toNat_natCast]
    have : (0 :: (List.replicate j (-1) ++ List.replicate (l.length - 1 - j) (0 : Int))).set (j + 1) (-1) = 0 :: (List.replicate (j + 1) (-1) ++ List.replicate (l.length - 1 - (j + 1)) 0) := by
      rw [List.set_cons_succ, List.set_append_right _ _ (by simp), List.length_replicate, Nat.sub_self, show l.length - 1 - j = (l.length - 1 - (j + 1)) + 1 by omega, List.replicate_succ, List.set_cons_zero, List.replicate_succ', List.append_assoc]
      rfl
    rw [this]; rfl
theorem sfull_ev {l : List S29} (hc : codeB l = true) : Ev (fun k => spec_l3Full.f k l) (fullL l) := by
  obtain ⟨h1, h2⟩ := code_len hc
  have := l0_ev h1 h2 (l1_ev hc _ (startO l.length) true (start_good _) (Nat.le_refl _) (fun h => by cases h)) (l.length - 1) 0 (by omega) (by omega)
  refine Ev.congr (fun k => ?_) this
  unfold spec_l3Full.f
  rw [if_pos (by omega), if_pos (by omega), Int.toNat_natCast]
  obtain ⟨n, hn⟩ : ∃ n, l.length = n + 1 := ⟨l.length - 1, by omega⟩
  rw [hn, List.replicate_succ]
  simp
theorem scode_ev (l : List S29) (hm : l.length ≤ 9223372036854775807) : Ev (fun k => spec_CodeOk.f k l) (codeB l) := Ev.of (fun k => spec_CodeOk.mono l k) (scode_eq l hm)
end Go.Proofs.Ytmklpbmlgjkbiaa.PS
end
section
namespace Go.Proofs.Ytmklpbmlgjkbiaa.PS
open Go.RowKit Go.Proofs.YtmklpbmlgjkbiaaW.PrintWords Go.Proofs.YtmklpbmlgjkbiaaW.PrintLast Go.Proofs.YtmklpbmlgjkbiaaW.PrintMore
attribute [local go_sem] max2_int min2_int max_two min_two max_three min_three max_four min_four   -- for this text's walks alone
set_option linter.unusedVariables false
set_option linter.unusedSimpArgs false
mutual
def spec_CodeSafe.l0 : Nat → List (S29) → List Int → Int → Option (Bool)
  | 0, _, _, _ => none
  | k + 1, x0, x3, x4 => if x4 < (x0.length : Int) then (if 0 ≤ x4 then (if x4 < (x3.length : Int) then (if (rd x3 x4) < 0 then (spec_CodeSafe.l0 k x0 x3 (wrap64 (x4 + 1))) else ((spec_l2Uses.f k ((rd_T29 x0 x4).f0) ((rd_T29 x0 x4).f1) ((rd_T29 x0 x4).f2) ((rd_T29 x0 x4).f3) ((rd_T29 x0 x4).f4.f0) ((rd_T29 x0 x4).f4.f1)).bind fun t398 => (spec_CodeSafe.l1 k x0 x3 x4 t398 0))) else (none)) else (none)) else (some true)
def spec_CodeSafe.l1 : Nat → List (S29) → List Int → Int → List Int → Int → Option (Bool)
  | 0, _, _, _, _, _ => none
  | k + 1, x0, x3, x4, x5, x6 => if x6 < (x5.length : Int) then (if 0 ≤ x4 then (if x4 < (x3.length : Int) then (if 0 ≤ x6 then ((spec_l3Has.f (rd x3 x4) (rd x5 x6)).bind fun t403 => (if t403 = true then (spec_CodeSafe.l1 k x0 x3 x4 x5 (wrap64 (x6 + 1))) else (some false))) else (none)) else (none)) else (none)) else (if (wrap64 (x4 + 1)) = (x0.length : Int) then (if 0 ≤ x4 then (if x4 < (x0.length : Int) then (if ((rd_T29 x0 x4).f0) = 9 then (spec_CodeSafe.j2 k x0 x3 x4 false) else (spec_CodeSafe.j2 k x0 x3 x4 (((rd_T29 x0 x4).f0) != 14))) else (none)) else (none)) else (spec_CodeSafe.j2 k x0 x3 x4 false))
def spec_CodeSafe.j2 : Nat → List (S29) → List Int → Int → Bool → Option (Bool)
  | 0, _, _, _, _ => none
  | k + 1, x0, x3, x4, x64 => if x64 = true then (some false) else (spec_CodeSafe.l0 k x0 x3 (wrap64 (x4 + 1)))
end
def spec_CodeSafe.f (k : Nat) (l0 : List (S29)) : Option (Bool) := (spec_CodeOk.f k l0).bind fun t392 => (if t392 = true then ((spec_l3Full.f k l0).bind fun t393 => (spec_CodeSafe.l0 k l0 t393 0)) else (some false))
def spec_CodeSafe.T12 : Bool × List (List Nat × List Nat) := (true, [([], []), ([], []), ([0, 1], [0, 1]), ([2], [2]), ([], []), ([], []), ([4, 5], [4, 5]), ([6], [6]), ([3, 7], [3, 7]), ([8], [8])])
def spec_CodeSafe.B12 : List Nat := [0, 0, 3, 7, 0, 0, 48, 112, 255, 511]
theorem spec_CodeSafe.tab12 : rtab .any (opsOf Try.f45 12) = spec_CodeSafe.T12 := by kernel_rfl
theorem spec_CodeSafe.bits12 : waitsOk spec_CodeSafe.T12.2 spec_CodeSafe.B12 = true := by kernel_rfl
set_option maxHeartbeats 8000000 in
set_option maxRecDepth 100000 in
theorem spec_CodeSafe.calls (k : Nat) (A0 : Option Addr) (c0 : Nat) (l0 : List (S29)) (r : Bool) (w : World) (hr0 : Kd.C k29 w A0 l0.length l0) (hc0 : l0.length ≤ c0) (h : spec_CodeSafe.f k l0 = some r) :
    Calls Try.prog 45 #[.slice A0 l0.length c0] w fun e w' => e = .returned (.bool r) ∧ Below w.heap.size w w' := by
  have hu29 := Try.underlying29
  have HR0 := Aside0.mk hr0
  have HC0 := Aside0.mk hc0
  clear hr0 hc0
  have HB := Aside0.mk (Below.refl w.heap.size w)
  have H : ((spec_CodeOk.f k l0).bind fun t392 => (if t392 = true then ((spec_l3Full.f k l0).bind fun t393 => (spec_CodeSafe.l0 k l0 t393 0)) else (some false))) = some r := h
  clear h
  replace H := Option.bind_eq_some_iff.mp H
  obtain ⟨t392, A20, H⟩ := H
  replace H : (if t392 = true then ((spec_l3Full.f k l0).bind fun t393 => (spec_CodeSafe.l0 k l0 t393 0)) else (some false)) = some r := H
  have A2 := Aside0.mk A20
  clear A20
  by_cases c3 : t392 = true
  · subst c3
    have H1 : ((spec_l3Full.f k l0).bind fun t393 => (spec_CodeSafe.l0 k l0 t393 0)) = some r := by rw [if_pos rfl] at H; exact H
    clear H
    have H := H1
    clear H1
    replace H := Option.bind_eq_some_iff.mp H
    obtain ⟨t393, A40, H⟩ := H
    replace H : (spec_CodeSafe.l0 k l0 t393 0) = some r := H
    have A4 := Aside0.mk A40
    clear A40
    have H' := Aside0.mk H
    clear H
    go_enter Try.func45, Try.ntmps45
    go_wp2_with (first | ((with_reducible refine gate_callee (f := 33) rfl ?_); refine goesL_ (some 8) rfl rfl Try.func33 (by kernel_rfl) rfl #[.slice A0 l0.length c0] rfl (by (try simp only [List.map_toArray, List.map_cons, List.map_nil]); first | done | rfl | (simp only [List.length_drop, List.length_take]; rfl)) ?_; (with_reducible refine (spec_CodeOk.calls k _ _ l0 true _ ?side1 ?side2 A2.out).mono ?_); (case side1 => repeat (first | exact HR0.out | (with_reducible refine Kd.C_alloc ?_ _) | (with_reducible refine Kd.C_drewN ?_ _) | (with_reducible refine Kd.C_drew ?_))); (case side2 => exact HC0.out); rintro e w5 ⟨rfl, hb⟩; refine ⟨_, rfl, ?_⟩; have n0_ := Aside0.mk (below_step (by repeat (first | (with_reducible first | exact HB.out | apply below_alloc | apply pw_below_drewN | apply below_drew1) | exact HB.out)) hb); clear HB; have HB := n0_; clear n0_; (try clear hb); (try clear hb2); (try clear hk); (try clear hi)) | ((with_reducible refine gate_callee (f := 81) rfl ?_); refine goesL_ (some 11) rfl rfl Try.func81 (by kernel_rfl) rfl #[.slice A0 l0.length c0] rfl (by (try simp only [List.map_toArray, List.map_cons, List.map_nil]); first | done | rfl | (simp only [List.length_drop, List.length_take]; rfl)) ?_; (with_reducible refine (spec_l3Full.calls k _ _ l0 t393 _ ?side1 ?side2 A4.out).mono ?_); (case side1 => repeat (first | exact (Kd.C_below HR0.out HB.out) | (with_reducible refine Kd.C_alloc ?_ _) | (with_reducible refine Kd.C_drewN ?_ _) | (with_reducible refine Kd.C_drew ?_))); (case side2 => exact HC0.out); rintro e w6 ⟨v394, rfl, ho0, hb⟩; refine ⟨_, rfl, ?_⟩; have n0_ := Aside0.mk (Kd.R_lower ho0 (below_size (by repeat (first | (with_reducible first | exact HB.out | apply below_alloc | apply pw_below_drewN | apply below_drew1) | exact HB.out)))); have n1_ := Aside0.mk (below_step (by repeat (first | (with_reducible first | exact HB.out | apply below_alloc | apply pw_below_drewN | apply below_drew1) | exact HB.out)) hb); clear HB; have HO395 := n0_; have HB := n1_; clear n0_ n1_; (try clear hb); (try clear hb2); (try clear hk); (try clear hi); (try clear ho0)))
    go_loopg [4] k (fun kq v4 w' => ∃ (x4_1 : Int), v4 = .int .i64 x4_1 ∧ Aside0 (spec_CodeSafe.l0 kq l0 t393 x4_1 = some r) ∧ Aside0 (kq ≤ k) ∧ Aside0 (Kd.R (Kd.int .i64) 3 w' w.heap.size (fun _ => True) v394 t393) ∧ Aside0 (Below w.heap.size w w'))
    case atStart => exact ⟨(0), (by first | rfl | (simp; done) | (simp [*]; done)), H', ⟨Nat.le_refl _⟩, ⟨by (with_reducible repeat (first | apply Kd.R_alloc | apply Kd.R_drewN | apply Kd.R_drew)); exact HO395.out⟩, ⟨by repeat (first | (with_reducible first | exact HB.out | apply below_alloc | apply pw_below_drewN | apply below_drew1) | exact HB.out)⟩⟩
    case round =>
      clear H'
      try clear p2
      try clear c3
      try clear c4
      obtain ⟨x4_1, rfl, HA, HK1, HO_3, HB⟩ := hrel
      cases gk with
      | zero => exact absurd HA.out (by simp [spec_CodeSafe.l0])
      | succ k1 =>
        have H := HA.out
        clear HA
        simp only [spec_CodeSafe.l0] at H
        by_cases c7 : x4_1 < (l0.length : Int)
        · rw [if_pos c7] at H
          have c7b0 : decide (x4_1 < (l0.length : Int)) = true := decide_eq_true c7
          clear c7
          by_cases c8 : 0 ≤ x4_1
          · rw [if_pos c8] at H
            have c8b0 : decide (0 ≤ x4_1) = true := decide_eq_true c8
            clear c8
            by_cases c9 : x4_1 < (t393.length : Int)
            · rw [if_pos c9] at H
              have c9b0 : decide (x4_1 < (t393.length : Int)) = true := decide_eq_true c9
              clear c9
              by_cases c10 : (rd t393 x4_1) < 0
              · rw [if_pos c10] at H
                have c10b0 : decide ((rd t393 x4_1) < 0) = true := decide_eq_true c10
                clear c10
                have H' := Aside0.mk H
                clear H
                obtain ⟨Ao11, co11, eo11⟩ := Kd.R_slice HO_3.out
                subst eo11
                have p396 : 0 ≤ (x4_1 : Int) := of_decide_eq_true (by first | (with_reducible assumption) | assumption)
                have q396 : x4_1 < (t393.length : Int) := of_decide_eq_true (by first | (with_reducible assumption) | assumption)
                obtain ⟨ad396, e396, hx396_0⟩ := Kd.at_int (Kd.R_reads' HO_3.out).2.2 x4_1 p396 q396
                cases e396
                replace p396 := eq_true p396
                replace q396 := eq_true q396
                go_wp2
                go_roundg k1
                case measure => have := HK1.out; omega
                case rel => exact ⟨(wrap64 (x4_1 + 1)), (by first | rfl | (simp; done) | (simp [*]; done)), H', ⟨by have := HK1.out; omega⟩, ⟨by (with_reducible repeat (first | apply Kd.R_alloc | apply Kd.R_drewN | apply Kd.R_drew)); exact HO_3.out⟩, ⟨by repeat (first | (with_reducible first | exact HB.out | apply below_alloc | apply pw_below_drewN | apply below_drew1) | exact HB.out)⟩⟩
              · rw [if_neg c10] at H
                have c10b0 : decide ((rd t393 x4_1) < 0) = false := decide_eq_false c10
                clear c10
                replace H := Option.bind_eq_some_iff.mp H
                obtain ⟨t398, A120, H⟩ := H
                replace H : (spec_CodeSafe.l1 k1 l0 t393 x4_1 t398 0) = some r := H
                have A12 := Aside0.mk A120
                clear A120
                have H' := Aside0.mk H
                clear H
                obtain ⟨Ao13, co13, eo13⟩ := Kd.R_slice HO_3.out
                subst eo13
                have p396 : 0 ≤ (x4_1 : Int) := of_decide_eq_true (by first | (with_reducible assumption) | assumption)
                have q396 : x4_1 < (t393.length : Int) := of_decide_eq_true (by first | (with_reducible assumption) | assumption)
                obtain ⟨ad396, e396, hx396_0⟩ := Kd.at_int (Kd.R_reads' HO_3.out).2.2 x4_1 p396 q396
                cases e396
                replace p396 := eq_true p396
                replace q396 := eq_true q396
                have p397 : 0 ≤ (x4_1 : Int) := of_decide_eq_true (by first | (with_reducible assumption) | assumption)
                have q397 : x4_1 < (l0.length : Int) := of_decide_eq_true (by first | (with_reducible assumption) | assumption)
                obtain ⟨ad397, e397, hx397_0, hx397_1, hx397_2, hx397_3, hx397_4, hx397_5⟩ := at_T29 HR0.out x4_1 p397 q397
                cases e397
                replace hx397_0 := (HB.out.cell (World.block_lt_of_cell? w _ hx397_0)).trans hx397_0
                replace hx397_1 := (HB.out.cell (World.block_lt_of_cell? w _ hx397_1)).trans hx397_1
                replace hx397_2 := (HB.out.cell (World.block_lt_of_cell? w _ hx397_2)).trans hx397_2
                replace hx397_3 := (HB.out.cell (World.block_lt_of_cell? w _ hx397_3)).trans hx397_3
                replace hx397_4 := (HB.out.cell (World.block_lt_of_cell? w _ hx397_4)).trans hx397_4
                replace hx397_5 := (HB.out.cell (World.block_lt_of_cell? w _ hx397_5)).trans hx397_5
                replace p397 := eq_true p397
                replace q397 := eq_true q397
                go_wp2_with (first | ((with_reducible refine gate_callee (f := 68) rfl ?_); refine goesL_ (some 27) rfl rfl Try.func68 (by kernel_rfl) rfl #[.agg #[.int .i64 ((rd_T29 l0 x4_1).f0), .int .i64 ((rd_T29 l0 x4_1).f1), .int .i64 ((rd_T29 l0 x4_1).f2), .int .i64 ((rd_T29 l0 x4_1).f3), .int .i64 ((rd_T29 l0 x4_1).f4.f0), .int .i64 ((rd_T29 l0 x4_1).f4.f1)]] rfl (by (try simp only [List.map_toArray, List.map_cons, List.map_nil]); first | done | rfl | (simp only [List.length_drop, List.length_take]; rfl)) ?_; (with_reducible refine (spec_l2Uses.calls k1 ((rd_T29 l0 x4_1).f0) ((rd_T29 l0 x4_1).f1) ((rd_T29 l0 x4_1).f2) ((rd_T29 l0 x4_1).f3) ((rd_T29 l0 x4_1).f4.f0) ((rd_T29 l0 x4_1).f4.f1) t398 _ A12.out).mono ?_); rintro e w14 ⟨v399, rfl, ho0, hb⟩; refine ⟨_, rfl, ?_⟩; have n0_ := Aside0.mk (Kd.R_elder' (by (with_reducible repeat (first | apply Kd.R_alloc | apply Kd.R_drewN | apply Kd.R_drew)); exact HO_3.out) (Kd.R_base ho0) hb); have n1_ := Aside0.mk (Kd.R_lower (Kd.R_new' ho0 (Kd.R_lt (by (with_reducible repeat (first | apply Kd.R_alloc | apply Kd.R_drewN | apply Kd.R_drew)); exact HO_3.out))) (below_size (by repeat (first | (with_reducible first | exact HB.out | apply below_alloc | apply pw_below_drewN | apply below_drew1) | exact HB.out)))); have n2_ := Aside0.mk (below_step (by repeat (first | (with_reducible first | exact HB.out | apply below_alloc | apply pw_below_drewN | apply below_drew1) | exact HB.out)) hb); clear HO_3; clear HB; have HO_3 := n0_; have HO400 := n1_; have HB := n2_; clear n0_ n1_ n2_; (try clear hb); (try clear hb2); (try clear hk); (try clear hi); (try clear ho0)))
                go_loopg [6] k1 (fun kq v6 w' => ∃ (x6_2 : Int), v6 = .int .i64 x6_2 ∧ Aside0 (spec_CodeSafe.l1 kq l0 t393 x4_1 t398 x6_2 = some r) ∧ Aside0 (kq ≤ k1) ∧ Aside0 (Kd.R (Kd.int .i64) 3 w' w.heap.size (fun k_ => some k_ ≠ (v399 : Value).ownBlock) (.slice (some ad396) t393.length co13) t393) ∧ Aside0 (Kd.R (Kd.int .i64) 3 w' w.heap.size (fun k_ => some k_ ≠ ((.slice (some ad396) t393.length co13) : Value).ownBlock) v399 t398) ∧ Aside0 (Below w.heap.size w w'))
                case atStart => exact ⟨(0), (by first | rfl | (simp; done) | (simp [*]; done)), H', ⟨Nat.le_refl _⟩, ⟨by (with_reducible repeat (first | apply Kd.R_alloc | apply Kd.R_drewN | apply Kd.R_drew)); exact Kd.R_mono HO_3.out (fun _ hk => hk.2)⟩, ⟨by (with_reducible repeat (first | apply Kd.R_alloc | apply Kd.R_drewN | apply Kd.R_drew)); exact Kd.R_mono HO400.out (fun _ hk => hk.2)⟩, ⟨by repeat (first | (with_reducible first | exact HB.out | apply below_alloc | apply pw_below_drewN | apply below_drew1) | exact HB.out)⟩⟩
                case round =>
                  clear H'
                  try clear c1
                  try clear p2
                  try clear c3
                  try clear p3
                  try clear q3
                  try clear hx3
                  try clear c4
                  try clear c6
                  try clear p6
                  try clear c7
                  try clear c7b0
                  try clear c8
                  try clear c8b0
                  try clear c9
                  try clear c9b0
                  try clear c10
                  try clear c10b0
                  try clear hx396_0
                  try clear hx397_0
                  try clear hx397_1
                  try clear hx397_2
                  try clear hx397_3
                  try clear hx397_4
                  try clear hx397_5
                  try clear p2
                  try clear p396
                  try clear p397
                  try clear q396
                  try clear q397
                  obtain ⟨x6_2, rfl, HA, HK2, HO_3, HO_5, HB⟩ := hrel
                  cases gk with
                  | zero => exact absurd HA.out (by simp [spec_CodeSafe.l1])
                  | succ k2 =>
                    have H := HA.out
                    clear HA
                    simp only [spec_CodeSafe.l1] at H
                    by_cases c15 : x6_2 < (t398.length : Int)
                    · rw [if_pos c15] at H
                      have c15b0 : decide (x6_2 < (t398.length : Int)) = true := decide_eq_true c15
                      clear c15
                      by_cases c16 : 0 ≤ x4_1
                      · rw [if_pos c16] at H
                        have c16b0 : decide (0 ≤ x4_1) = true := decide_eq_true c16
                        clear c16
                        by_cases c17 : x4_1 < (t393.length : Int)
                        · rw [if_pos c17] at H
                          have c17b0 : decide (x4_1 < (t393.length : Int)) = true := decide_eq_true c17
                          clear c17
                          by_cases c18 : 0 ≤ x6_2
                          · rw [if_pos c18] at H
                            have c18b0 : decide (0 ≤ x6_2) = true := decide_eq_true c18
                            clear c18
                            replace H := Option.bind_eq_some_iff.mp H
                            obtain ⟨t403, A190, H⟩ := H
                            replace H : (if t403 = true then (spec_CodeSafe.l1 k2 l0 t393 x4_1 t398 (wrap64 (x6_2 + 1))) else (some false)) = some r := H
                            have A19 := Aside0.mk A190
                            clear A190
                            by_cases c20 : t403 = true
                            · subst c20
                              have H1 : (spec_CodeSafe.l1 k2 l0 t393 x4_1 t398 (wrap64 (x6_2 + 1))) = some r := by rw [if_pos rfl] at H; exact H
                              clear H
                              have H := H1
                              clear H1
                              have H' := Aside0.mk H
                              clear H
                              obtain ⟨Ao21, co21, eo21⟩ := Kd.R_slice HO_5.out
                              subst eo21
                              try go_wp2
                              have n0_ := Aside0.mk (Kd.R_drew HO_3.out)
                              have n1_ := Aside0.mk (Kd.R_drew HO_5.out)
                              have n2_ := Aside0.mk (below_drew1 HB.out)
                              clear HO_3
                              clear HO_5
                              clear HB
                              have HO_3 := n0_
                              have HO_5 := n1_
                              have HB := n2_
                              clear n0_ n1_ n2_
                              have p401 : 0 ≤ (x4_1 : Int) := of_decide_eq_true (by first | (with_reducible assumption) | assumption)
                              have q401 : x4_1 < (t393.length : Int) := of_decide_eq_true (by first | (with_reducible assumption) | assumption)
                              obtain ⟨ad401, e401, hx401_0⟩ := Kd.at_int (Kd.R_reads' HO_3.out).2.2 x4_1 p401 q401
                              obtain rfl : ad396 = ad401 := (by injection e401)
                              replace p401 := eq_true p401
                              replace q401 := eq_true q401
                              have p402 : 0 ≤ (x6_2 : Int) := of_decide_eq_true (by first | (with_reducible assumption) | assumption)
                              have q402 : x6_2 < (t398.length : Int) := of_decide_eq_true (by first | (with_reducible assumption) | assumption)
                              obtain ⟨ad402, e402, hx402_0⟩ := Kd.at_int (Kd.R_reads' HO_5.out).2.2 x6_2 p402 q402
                              cases e402
                              replace p402 := eq_true p402
                              replace q402 := eq_true q402
                              refine start_ (n := 10) (S := fun w' => w'.cell? (ad396.add (x4_1).toNat) = some (.int .i64 (rd t393 x4_1)) ∧ w'.cell? (ad402.add (x6_2).toNat) = some (.int .i64 (rd t398 x6_2))) (ds := []) #[false, false, false, false, false, false, false, false, false, false] (by kernel_rfl) rfl rfl ⟨hx401_0, hx402_0⟩ (fun hHeld => ?_); refine with_tabW spec_CodeSafe.tab12 spec_CodeSafe.bits12 (fun HT_ HW_ => ?_)
                              generalize wr.drew = w22 at HO_3 HO_5 HB hx401_0 hx402_0 hHeld ⊢
                              refine pure_ (i := 0) (N := some 34) (v := ?_) (a' := ?_) #[true, false, false, false, false, false, false, false, false, false] rfl rfl (any_of HT_.out (by kernel_rfl)) (fun _ _ _ h => h) (Or.inl ⟨by rfl, ?_⟩) ?_ ?_
                              rotate_left
                              · intro w'
                                go_simp
                                with_reducible rfl
                              rotate_left
                              · simp only [Act.put, List.setIfInBounds_toArray, List.set_cons_zero, List.set_cons_succ, i64_w, i32_w]
                                rfl
                              refine pure_ (i := 1) (N := some 35) (v := ?_) (a' := ?_) #[true, true, false, false, false, false, false, false, false, false] rfl rfl (any_of HT_.out (by kernel_rfl)) (fun _ _ _ h => h) (Or.inl ⟨by rfl, ?_⟩) ?_ ?_
                              rotate_left
                              · intro w'
                                go_simp
                                with_reducible rfl
                              rotate_left
                              · simp only [Act.put, List.setIfInBounds_toArray, List.set_cons_zero, List.set_cons_succ, i64_w, i32_w]
                                rfl
                              refine pure_ (i := 2) (N := some 36) (v := ?_) (a' := ?_) #[true, true, true, false, false, false, false, false, false, false] rfl rfl (any_of HT_.out (by kernel_rfl)) (fun _ _ _ h => h) (Or.inl ⟨by rfl, ?_⟩) ?_ ?_
                              rotate_left
                              · intro w'
                                go_simp
                                with_reducible rfl
                              rotate_left
                              · simp only [Act.put, List.setIfInBounds_toArray, List.set_cons_zero, List.set_cons_succ, i64_w, i32_w]
                                rfl
                              refine pure_ (i := 4) (N := some 38) (v := ?_) (a' := ?_) #[true, true, true, false, true, false, false, false, false, false] rfl rfl (any_of HT_.out (by kernel_rfl)) (fun _ _ _ h => h) (Or.inl ⟨by rfl, ?_⟩) ?_ ?_
                              rotate_left
                              · intro w'
                                go_simp
                                with_reducible rfl
                              rotate_left
                              · simp only [Act.put, List.setIfInBounds_toArray, List.set_cons_zero, List.set_cons_succ, i64_w, i32_w]
                                rfl
                              refine pure_ (i := 5) (N := some 39) (v := ?_) (a' := ?_) #[true, true, true, false, true, true, false, false, false, false] rfl rfl (any_of HT_.out (by kernel_rfl)) (fun _ _ _ h => h) (Or.inl ⟨by rfl, ?_⟩) ?_ ?_
                              rotate_left
                              · intro w'
                                go_simp
                                with_reducible rfl
                              rotate_left
                              · simp only [Act.put, List.setIfInBounds_toArray, List.set_cons_zero, List.set_cons_succ, i64_w, i32_w]
                                rfl
                              refine pure_ (i := 6) (N := some 40) (v := ?_) (a' := ?_) #[true, true, true, false, true, true, true, false, false, false] rfl rfl (any_of HT_.out (by kernel_rfl)) (fun _ _ _ h => h) (Or.inl ⟨by rfl, ?_⟩) ?_ ?_
                              rotate_left
                              · intro w'
                                go_simp
                                with_reducible rfl
                              rotate_left
                              · simp only [Act.put, List.setIfInBounds_toArray, List.set_cons_zero, List.set_cons_succ, i64_w, i32_w]
                                rfl
                              refine take_ (i := 3) (N := some 37) (v := ?_) (a' := ?_) #[true, true, true, true, true, true, true, false, false, false] rfl rfl (take_ofW HT_.out HW_.out (by kernel_rfl)) (fun _ _ _ h => h) (Or.inl ⟨by rfl, ?_⟩) hHeld ?_ ?_
                              rotate_left
                              · rintro w' ⟨s0, s1⟩
                                go_simp
                                with_reducible rfl
                              rotate_left
                              · simp only [Act.put, List.setIfInBounds_toArray, List.set_cons_zero, List.set_cons_succ, i64_w, i32_w]
                                rfl
                              refine take_ (i := 7) (N := some 41) (v := ?_) (a' := ?_) #[true, true, true, true, true, true, true, true, false, false] rfl rfl (take_ofW HT_.out HW_.out (by kernel_rfl)) (fun _ _ _ h => h) (Or.inl ⟨by rfl, ?_⟩) hHeld ?_ ?_
                              rotate_left
                              · rintro w' ⟨s0, s1⟩
                                go_simp
                                with_reducible rfl
                              rotate_left
                              · simp only [Act.put, List.setIfInBounds_toArray, List.set_cons_zero, List.set_cons_succ, i64_w, i32_w]
                                rfl
                              refine one_ (i := 8) (N := some 42) #[true, true, true, true, true, true, true, true, true, false] rfl rfl (one_of HT_.out (by kernel_rfl)) (by decide) (fun K hK => ?_)
                              refine goes_ Try.func82 (by kernel_rfl) rfl #[.int .i64 (rd t393 x4_1), .int .i64 (rd t398 x6_2)] (by rfl) rfl rfl (by (try simp only [List.map_toArray, List.map_cons, List.map_nil]); first | done | rfl | (simp only [List.length_drop, List.length_take]; rfl)) ?_
                              with_reducible refine (spec_l3Has.calls (rd t393 x4_1) (rd t398 x6_2) true _ A19.out).mono ?_
                              rintro e w23 ⟨rfl, hb⟩
                              have HS0_ := (hb.cell (World.block_lt_of_cell? _ _ (hHeld.1))).trans (hHeld.1)
                              have HS1_ := (hb.cell (World.block_lt_of_cell? _ _ (hHeld.2))).trans (hHeld.2)
                              refine ⟨_, rfl, ?_⟩
                              have n0_ := Aside0.mk (Kd.R_below (by (with_reducible repeat (first | apply Kd.R_alloc | apply Kd.R_drewN | apply Kd.R_drew)); exact HO_3.out) hb)
                              have n1_ := Aside0.mk (Kd.R_below (by (with_reducible repeat (first | apply Kd.R_alloc | apply Kd.R_drewN | apply Kd.R_drew)); exact HO_5.out) hb)
                              have n2_ := Aside0.mk (below_step (by repeat (first | (with_reducible first | exact HB.out | apply below_alloc | apply pw_below_drewN | apply below_drew1) | exact HB.out)) hb)
                              clear HO_3
                              clear HO_5
                              clear HB
                              have HO_3 := n0_
                              have HO_5 := n1_
                              have HB := n2_
                              clear n0_ n1_ n2_
                              (try clear hb)
                              (try clear hb2)
                              (try clear hk)
                              (try clear hi)
                              refine hK.out _ _ ⟨HS0_, HS1_⟩ (fun hHeld => ?_)
                              clear hK K
                              refine norm_ (a' := ?_) ?_ ?_
                              rotate_left
                              · show Act.put _ (some 42) _ = _
                                simp only [Act.put, List.setIfInBounds_toArray, List.set_cons_zero, List.set_cons_succ, i64_w, i32_w]
                                rfl
                              refine pure_ (i := 9) (N := some 43) (v := ?_) (a' := ?_) #[true, true, true, true, true, true, true, true, true, true] rfl rfl (any_of HT_.out (by kernel_rfl)) (fun _ _ _ h => h) (Or.inl ⟨by rfl, ?_⟩) ?_ ?_
                              rotate_left
                              · intro w'
                                go_simp
                                with_reducible rfl
                              rotate_left
                              · simp only [Act.put, List.setIfInBounds_toArray, List.set_cons_zero, List.set_cons_succ, i64_w, i32_w]
                                rfl
                              refine done_ (done_of HT_.out (by kernel_rfl)) ?_
                              try go_wp2
                              go_roundg k2
                              case measure => have := HK1.out; have := HK2.out; omega
                              case rel => exact ⟨(wrap64 (x6_2 + 1)), (by first | rfl | (simp; done) | (simp [*]; done)), H', ⟨by have := HK1.out; have := HK2.out; omega⟩, ⟨by (with_reducible repeat (first | apply Kd.R_alloc | apply Kd.R_drewN | apply Kd.R_drew)); exact HO_3.out⟩, ⟨by (with_reducible repeat (first | apply Kd.R_alloc | apply Kd.R_drewN | apply Kd.R_drew)); exact HO_5.out⟩, ⟨by repeat (first | (with_reducible first | exact HB.out | apply below_alloc | apply pw_below_drewN | apply below_drew1) | exact HB.out)⟩⟩
                            · replace c20 := Bool.eq_false_iff.mpr c20
                              subst c20
                              have H1 : (some false) = some r := by rw [if_neg (show ¬ (false = true) by decide)] at H; exact H
                              clear H
                              have H := H1
                              clear H1
                              obtain rfl := Option.some.inj H
                              obtain ⟨Ao24, co24, eo24⟩ := Kd.R_slice HO_5.out
                              subst eo24
                              try go_wp2
                              have n0_ := Aside0.mk (Kd.R_drew HO_3.out)
                              have n1_ := Aside0.mk (Kd.R_drew HO_5.out)
                              have n2_ := Aside0.mk (below_drew1 HB.out)
                              clear HO_3
                              clear HO_5
                              clear HB
                              have HO_3 := n0_
                              have HO_5 := n1_
                              have HB := n2_
                              clear n0_ n1_ n2_
                              have p401 : 0 ≤ (x4_1 : Int) := of_decide_eq_true (by first | (with_reducible assumption) | assumption)
                              have q401 : x4_1 < (t393.length : Int) := of_decide_eq_true (by first | (with_reducible assumption) | assumption)
                              obtain ⟨ad401, e401, hx401_0⟩ := Kd.at_int (Kd.R_reads' HO_3.out).2.2 x4_1 p401 q401
                              obtain rfl : ad396 = ad401 := (by injection e401)
                              replace p401 := eq_true p401
                              replace q401 := eq_true q401
                              have p402 : 0 ≤ (x6_2 : Int) := of_decide_eq_true (by first | (with_reducible assumption) | assumption)
                              have q402 : x6_2 < (t398.length : Int) := of_decide_eq_true (by first | (with_reducible assumption) | assumption)
                              obtain ⟨ad402, e402, hx402_0⟩ := Kd.at_int (Kd.R_reads' HO_5.out).2.2 x6_2 p402 q402
                              cases e402
                              replace p402 := eq_true p402
                              replace q402 := eq_true q402
                              refine start_ (n := 10) (S := fun w' => w'.cell? (ad396.add (x4_1).toNat) = some (.int .i64 (rd t393 x4_1)) ∧ w'.cell? (ad402.add (x6_2).toNat) = some (.int .i64 (rd t398 x6_2))) (ds := []) #[false, false, false, false, false, false, false, false, false, false] (by kernel_rfl) rfl rfl ⟨hx401_0, hx402_0⟩ (fun hHeld => ?_); refine with_tabW spec_CodeSafe.tab12 spec_CodeSafe.bits12 (fun HT_ HW_ => ?_)
                              generalize wr.drew = w25 at HO_3 HO_5 HB hx401_0 hx402_0 hHeld ⊢
                              refine pure_ (i := 0) (N := some 34) (v := ?_) (a' := ?_) #[true, false, false, false, false, false, false, false, false, false] rfl rfl (any_of HT_.out (by kernel_rfl)) (fun _ _ _ h => h) (Or.inl ⟨by rfl, ?_⟩) ?_ ?_
                              rotate_left
                              · intro w'
                                go_simp
                                with_reducible rfl
                              rotate_left
                              · simp only [Act.put, List.setIfInBounds_toArray, List.set_cons_zero, List.set_cons_succ, i64_w, i32_w]
                                rfl
                              refine pure_ (i := 1) (N := some 35) (v := ?_) (a' := ?_) #[true, true, false, false, false, false, false, false, false, false] rfl rfl (any_of HT_.out (by kernel_rfl)) (fun _ _ _ h => h) (Or.inl ⟨by rfl, ?_⟩) ?_ ?_
                              rotate_left
                              · intro w'
                                go_simp
                                with_reducible rfl
                              rotate_left
                              · simp only [Act.put, List.setIfInBounds_toArray, List.set_cons_zero, List.set_cons_succ, i64_w, i32_w]
                                rfl
                              refine pure_ (i := 2) (N := some 36) (v := ?_) (a' := ?_) #[true, true, true, false, false, false, false, false, false, false] rfl rfl (any_of HT_.out (by kernel_rfl)) (fun _ _ _ h => h) (Or.inl ⟨by rfl, ?_⟩) ?_ ?_
                              rotate_left
                              · intro w'
                                go_simp
                                with_reducible rfl
                              rotate_left
                              · simp only [Act.put, List.setIfInBounds_toArray, List.set_cons_zero, List.set_cons_succ, i64_w, i32_w]
                                rfl
                              refine pure_ (i := 4) (N := some 38) (v := ?_) (a' := ?_) #[true, true, true, false, true, false, false, false, false, false] rfl rfl (any_of HT_.out (by kernel_rfl)) (fun _ _ _ h => h) (Or.inl ⟨by rfl, ?_⟩) ?_ ?_
                              rotate_left
                              · intro w'
                                go_simp
                                with_reducible rfl
                              rotate_left
                              · simp only [Act.put, List.setIfInBounds_toArray, List.set_cons_zero, List.set_cons_succ, i64_w, i32_w]
                                rfl
                              refine pure_ (i := 5) (N := some 39) (v := ?_) (a' := ?_) #[true, true, true, false, true, true, false, false, false, false] rfl rfl (any_of HT_.out (by kernel_rfl)) (fun _ _ _ h => h) (Or.inl ⟨by rfl, ?_⟩) ?_ ?_
                              rotate_left
                              · intro w'
                                go_simp
                                with_reducible rfl
                              rotate_left
                              · simp only [Act.put, List.setIfInBounds_toArray, List.set_cons_zero, List.set_cons_succ, i64_w, i32_w]
                                rfl
                              refine pure_ (i := 6) (N := some 40) (v := ?_) (a' := ?_) #[true, true, true, false, true, true, true, false, false, false] rfl rfl (any_of HT_.out (by kernel_rfl)) (fun _ _ _ h => h) (Or.inl ⟨by rfl, ?_⟩) ?_ ?_
                              rotate_left
                              · intro w'
                                go_simp
                                with_reducible rfl
                              rotate_left
                              · simp only [Act.put, List.setIfInBounds_toArray, List.set_cons_zero, List.set_cons_succ, i64_w, i32_w]
                                rfl
                              refine take_ (i := 3) (N := some 37) (v := ?_) (a' := ?_) #[true, true, true, true, true, true, true, false, false, false] rfl rfl (take_ofW HT_.out HW_.out (by kernel_rfl)) (fun _ _ _ h => h) (Or.inl ⟨by rfl, ?_⟩) hHeld ?_ ?_
                              rotate_left
                              · rintro w' ⟨s0, s1⟩
                                go_simp
                                with_reducible rfl
                              rotate_left
                              · simp only [Act.put, List.setIfInBounds_toArray, List.set_cons_zero, List.set_cons_succ, i64_w, i32_w]
                                rfl
                              refine take_ (i := 7) (N := some 41) (v := ?_) (a' := ?_) #[true, true, true, true, true, true, true, true, false, false] rfl rfl (take_ofW HT_.out HW_.out (by kernel_rfl)) (fun _ _ _ h => h) (Or.inl ⟨by rfl, ?_⟩) hHeld ?_ ?_
                              rotate_left
                              · rintro w' ⟨s0, s1⟩
                                go_simp
                                with_reducible rfl
                              rotate_left
                              · simp only [Act.put, List.setIfInBounds_toArray, List.set_cons_zero, List.set_cons_succ, i64_w, i32_w]
                                rfl
                              refine one_ (i := 8) (N := some 42) #[true, true, true, true, true, true, true, true, true, false] rfl rfl (one_of HT_.out (by kernel_rfl)) (by decide) (fun K hK => ?_)
                              refine goes_ Try.func82 (by kernel_rfl) rfl #[.int .i64 (rd t393 x4_1), .int .i64 (rd t398 x6_2)] (by rfl) rfl rfl (by (try simp only [List.map_toArray, List.map_cons, List.map_nil]); first | done | rfl | (simp only [List.length_drop, List.length_take]; rfl)) ?_
                              with_reducible refine (spec_l3Has.calls (rd t393 x4_1) (rd t398 x6_2) false _ A19.out).mono ?_
                              rintro e w26 ⟨rfl, hb⟩
                              have HS0_ := (hb.cell (World.block_lt_of_cell? _ _ (hHeld.1))).trans (hHeld.1)
                              have HS1_ := (hb.cell (World.block_lt_of_cell? _ _ (hHeld.2))).trans (hHeld.2)
                              refine ⟨_, rfl, ?_⟩
                              have n0_ := Aside0.mk (Kd.R_below (by (with_reducible repeat (first | apply Kd.R_alloc | apply Kd.R_drewN | apply Kd.R_drew)); exact HO_3.out) hb)
                              have n1_ := Aside0.mk (Kd.R_below (by (with_reducible repeat (first | apply Kd.R_alloc | apply Kd.R_drewN | apply Kd.R_drew)); exact HO_5.out) hb)
                              have n2_ := Aside0.mk (below_step (by repeat (first | (with_reducible first | exact HB.out | apply below_alloc | apply pw_below_drewN | apply below_drew1) | exact HB.out)) hb)
                              clear HO_3
                              clear HO_5
                              clear HB
                              have HO_3 := n0_
                              have HO_5 := n1_
                              have HB := n2_
                              clear n0_ n1_ n2_
                              (try clear hb)
                              (try clear hb2)
                              (try clear hk)
                              (try clear hi)
                              refine hK.out _ _ ⟨HS0_, HS1_⟩ (fun hHeld => ?_)
                              clear hK K
                              refine norm_ (a' := ?_) ?_ ?_
                              rotate_left
                              · show Act.put _ (some 42) _ = _
                                simp only [Act.put, List.setIfInBounds_toArray, List.set_cons_zero, List.set_cons_succ, i64_w, i32_w]
                                rfl
                              refine pure_ (i := 9) (N := some 43) (v := ?_) (a' := ?_) #[true, true, true, true, true, true, true, true, true, true] rfl rfl (any_of HT_.out (by kernel_rfl)) (fun _ _ _ h => h) (Or.inl ⟨by rfl, ?_⟩) ?_ ?_
                              rotate_left
                              · intro w'
                                go_simp
                                with_reducible rfl
                              rotate_left
                              · simp only [Act.put, List.setIfInBounds_toArray, List.set_cons_zero, List.set_cons_succ, i64_w, i32_w]
                                rfl
                              refine done_ (done_of HT_.out (by kernel_rfl)) ?_
                              try go_wp2
                              go_ret
                              exact ⟨by first | rfl | (simp [errW_none, errW_some] <;> rfl) | (simp [*, errW_none, errW_some] <;> rfl), by repeat (first | (with_reducible first | exact HB.out | apply below_alloc | apply pw_below_drewN | apply below_drew1) | exact HB.out)⟩
                          · rw [if_neg c18] at H
                            exact absurd H (by simp)
                        · rw [if_neg c17] at H
                          exact absurd H (by simp)
                      · rw [if_neg c16] at H
                        exact absurd H (by simp)
                    · rw [if_neg c15] at H
                      have c15b0 : decide (x6_2 < (t398.length : Int)) = false := decide_eq_false c15
                      clear c15
                      have HC27 := Aside0.mk H
                      clear H
                      obtain ⟨Ao28, co28, eo28⟩ := Kd.R_slice HO_5.out
                      subst eo28
                      go_upto_region 14 with (fail)
                      go_cut [64] (fun v64 wc => ∃ (kq : Nat) (x64_26 : Bool), v64 = .bool x64_26 ∧ Aside0 (spec_CodeSafe.j2 kq l0 t393 x4_1 x64_26 = some r) ∧ Aside0 (kq ≤ k2) ∧ Aside0 (Kd.R (Kd.int .i64) 3 wc w.heap.size (fun _ => True) (.slice (some ad396) t393.length co13) t393) ∧ Aside0 (Below w.heap.size w wc))
                      case first =>
                        have H := HC27.out
                        clear HC27
                        by_cases c29 : (wrap64 (x4_1 + 1)) = (l0.length : Int)
                        · rw [if_pos c29] at H
                          have c29b0 : ((wrap64 (x4_1 + 1)) == (l0.length : Int)) = true := beq_iff_eq.mpr c29
                          have c29b1 : ((wrap64 (x4_1 + 1)) != (l0.length : Int)) = false := bne_eq_false_iff_eq.mpr c29
                          clear c29
                          (first | rw [c29b0] | (simp only [i64_w, i32_w]; rw [c29b0]) | skip)
                          by_cases c30 : 0 ≤ x4_1
                          · rw [if_pos c30] at H
                            have c30b0 : decide (0 ≤ x4_1) = true := decide_eq_true c30
                            clear c30
                            by_cases c31 : x4_1 < (l0.length : Int)
                            · rw [if_pos c31] at H
                              have c31b0 : decide (x4_1 < (l0.length : Int)) = true := decide_eq_true c31
                              clear c31
                              by_cases c32 : ((rd_T29 l0 x4_1).f0) = 9
                              · rw [if_pos c32] at H
                                have c32b0 : (((rd_T29 l0 x4_1).f0) == 9) = true := beq_iff_eq.mpr c32
                                have c32b1 : (((rd_T29 l0 x4_1).f0) != 9) = false := bne_eq_false_iff_eq.mpr c32
                                clear c32
                                have H' := Aside0.mk H
                                clear H
                                have p404 : 0 ≤ (x4_1 : Int) := of_decide_eq_true (by first | (with_reducible assumption) | assumption)
                                have q404 : x4_1 < (l0.length : Int) := of_decide_eq_true (by first | (with_reducible assumption) | assumption)
                                obtain ⟨ad404, e404, hx404_0, hx404_1, hx404_2, hx404_3, hx404_4, hx404_5⟩ := at_T29 HR0.out x4_1 p404 q404
                                obtain rfl : ad397 = ad404 := (by injection e404)
                                replace hx404_0 := (HB.out.cell (World.block_lt_of_cell? w _ hx404_0)).trans hx404_0
                                replace hx404_1 := (HB.out.cell (World.block_lt_of_cell? w _ hx404_1)).trans hx404_1
                                replace hx404_2 := (HB.out.cell (World.block_lt_of_cell? w _ hx404_2)).trans hx404_2
                                replace hx404_3 := (HB.out.cell (World.block_lt_of_cell? w _ hx404_3)).trans hx404_3
                                replace hx404_4 := (HB.out.cell (World.block_lt_of_cell? w _ hx404_4)).trans hx404_4
                                replace hx404_5 := (HB.out.cell (World.block_lt_of_cell? w _ hx404_5)).trans hx404_5
                                replace p404 := eq_true p404
                                replace q404 := eq_true q404
                                go_wp2
                                go_meet
                                case rel => exact ⟨_, (false), (by first | rfl | (simp; done) | (simp [*]; done)), H', ⟨by have := HK1.out; have := HK2.out; first | omega | exact Nat.le_refl _⟩, ⟨by (with_reducible repeat (first | apply Kd.R_alloc | apply Kd.R_drewN | apply Kd.R_drew)); exact Kd.R_mono HO_3.out (fun _ hk => trivial)⟩, ⟨by repeat (first | (with_reducible first | exact HB.out | apply below_alloc | apply pw_below_drewN | apply below_drew1) | exact HB.out)⟩⟩
                              · rw [if_neg c32] at H
                                have c32b0 : (((rd_T29 l0 x4_1).f0) == 9) = false := beq_eq_false_iff_ne.mpr c32
                                have c32b1 : (((rd_T29 l0 x4_1).f0) != 9) = true := bne_iff_ne.mpr c32
                                have H' := Aside0.mk H
                                clear H
                                have p404 : 0 ≤ (x4_1 : Int) := of_decide_eq_true (by first | (with_reducible assumption) | assumption)
                                have q404 : x4_1 < (l0.length : Int) := of_decide_eq_true (by first | (with_reducible assumption) | assumption)
                                obtain ⟨ad404, e404, hx404_0, hx404_1, hx404_2, hx404_3, hx404_4, hx404_5⟩ := at_T29 HR0.out x4_1 p404 q404
                                obtain rfl : ad397 = ad404 := (by injection e404)
                                replace hx404_0 := (HB.out.cell (World.block_lt_of_cell? w _ hx404_0)).trans hx404_0
                                replace hx404_1 := (HB.out.cell (World.block_lt_of_cell? w _ hx404_1)).trans hx404_1
                                replace hx404_2 := (HB.out.cell (World.block_lt_of_cell? w _ hx404_2)).trans hx404_2
                                replace hx404_3 := (HB.out.cell (World.block_lt_of_cell? w _ hx404_3)).trans hx404_3
                                replace hx404_4 := (HB.out.cell (World.block_lt_of_cell? w _ hx404_4)).trans hx404_4
                                replace hx404_5 := (HB.out.cell (World.block_lt_of_cell? w _ hx404_5)).trans hx404_5
                                replace p404 := eq_true p404
                                replace q404 := eq_true q404
                                have p405 : 0 ≤ (x4_1 : Int) := of_decide_eq_true (by first | (with_reducible assumption) | assumption)
                                have q405 : x4_1 < (l0.length : Int) := of_decide_eq_true (by first | (with_reducible assumption) | assumption)
                                obtain ⟨ad405, e405, hx405_0, hx405_1, hx405_2, hx405_3, hx405_4, hx405_5⟩ := at_T29 HR0.out x4_1 p405 q405
                                obtain rfl : ad397 = ad405 := (by injection e405)
                                replace hx405_0 := (HB.out.cell (World.block_lt_of_cell? w _ hx405_0)).trans hx405_0
                                replace hx405_1 := (HB.out.cell (World.block_lt_of_cell? w _ hx405_1)).trans hx405_1
                                replace hx405_2 := (HB.out.cell (World.block_lt_of_cell? w _ hx405_2)).trans hx405_2
                                replace hx405_3 := (HB.out.cell (World.block_lt_of_cell? w _ hx405_3)).trans hx405_3
                                replace hx405_4 := (HB.out.cell (World.block_lt_of_cell? w _ hx405_4)).trans hx405_4
                                replace hx405_5 := (HB.out.cell (World.block_lt_of_cell? w _ hx405_5)).trans hx405_5
                                replace p405 := eq_true p405
                                replace q405 := eq_true q405
                                go_wp2
                                go_meet
                                case rel => exact ⟨_, ((((rd_T29 l0 x4_1).f0) != 14)), (by first | rfl | (simp; done) | (simp [*]; done)), H', ⟨by have := HK1.out; have := HK2.out; first | omega | exact Nat.le_refl _⟩, ⟨by (with_reducible repeat (first | apply Kd.R_alloc | apply Kd.R_drewN | apply Kd.R_drew)); exact Kd.R_mono HO_3.out (fun _ hk => trivial)⟩, ⟨by repeat (first | (with_reducible first | exact HB.out | apply below_alloc | apply pw_below_drewN | apply below_drew1) | exact HB.out)⟩⟩
                            · rw [if_neg c31] at H
                              exact absurd H (by simp)
                          · rw [if_neg c30] at H
                            exact absurd H (by simp)
                        · rw [if_neg c29] at H
                          have c29b0 : ((wrap64 (x4_1 + 1)) == (l0.length : Int)) = false := beq_eq_false_iff_ne.mpr c29
                          have c29b1 : ((wrap64 (x4_1 + 1)) != (l0.length : Int)) = true := bne_iff_ne.mpr c29
                          (first | rw [c29b0] | (simp only [i64_w, i32_w]; rw [c29b0]) | skip)
                          have H' := Aside0.mk H
                          clear H
                          go_wp2
                          go_meet
                          case rel => exact ⟨_, (false), (by first | rfl | (simp; done) | (simp [*]; done)), H', ⟨by have := HK1.out; have := HK2.out; first | omega | exact Nat.le_refl _⟩, ⟨by (with_reducible repeat (first | apply Kd.R_alloc | apply Kd.R_drewN | apply Kd.R_drew)); exact Kd.R_mono HO_3.out (fun _ hk => trivial)⟩, ⟨by repeat (first | (with_reducible first | exact HB.out | apply below_alloc | apply pw_below_drewN | apply below_drew1) | exact HB.out)⟩⟩
                      case rest =>
                        clear HC27
                        try clear c1
                        try clear c2
                        try clear p2
                        try clear c3
                        try clear p3
                        try clear q3
                        try clear hx3
                        try clear c4
                        try clear p4
                        try clear q4
                        try clear hx4
                        try clear c6
                        try clear p6
                        try clear c7
                        try clear c7b0
                        try clear c8
                        try clear c8b0
                        try clear c9
                        try clear c9b0
                        try clear c10
                        try clear c10b0
                        try clear c15
                        try clear c15b0
                        try clear c16
                        try clear c16b0
                        try clear c17
                        try clear c17b0
                        try clear c18
                        try clear c18b0
                        try clear c20
                        try clear c29
                        try clear c29b0
                        try clear c29b1
                        try clear c30
                        try clear c30b0
                        try clear c31
                        try clear c31b0
                        try clear c32
                        try clear c32b0
                        try clear c32b1
                        try clear hx396_0
                        try clear hx397_0
                        try clear hx397_1
                        try clear hx397_2
                        try clear hx397_3
                        try clear hx397_4
                        try clear hx397_5
                        try clear hx401_0
                        try clear hx402_0
                        try clear hx404_0
                        try clear hx404_1
                        try clear hx404_2
                        try clear hx404_3
                        try clear hx404_4
                        try clear hx404_5
                        try clear hx405_0
                        try clear hx405_1
                        try clear hx405_2
                        try clear hx405_3
                        try clear hx405_4
                        try clear hx405_5
                        try clear p2
                        try clear p3
                        try clear p396
                        try clear p397
                        try clear p401
                        try clear p402
                        try clear p404
                        try clear p405
                        try clear p6
                        try clear q3
                        try clear q396
                        try clear q397
                        try clear q401
                        try clear q402
                        try clear q404
                        try clear q405
                        obtain ⟨kq, x64_26, rfl, HA, HJ26, HO_3, HB⟩ := hcut
                        cases kq with
                        | zero => exact absurd HA.out (by simp [spec_CodeSafe.j2])
                        | succ kj26 =>
                          have H := HA.out
                          clear HA
                          simp only [spec_CodeSafe.j2] at H
                          by_cases c33 : x64_26 = true
                          · subst c33
                            have H1 : (some false) = some r := by rw [if_pos rfl] at H; exact H
                            clear H
                            have H := H1
                            clear H1
                            obtain rfl := Option.some.inj H
                            go_wp2
                            go_ret
                            exact ⟨by first | rfl | (simp [errW_none, errW_some] <;> rfl) | (simp [*, errW_none, errW_some] <;> rfl), by repeat (first | (with_reducible first | exact HB.out | apply below_alloc | apply pw_below_drewN | apply below_drew1) | exact HB.out)⟩
                          · replace c33 := Bool.eq_false_iff.mpr c33
                            subst c33
                            have H1 : (spec_CodeSafe.l0 kj26 l0 t393 (wrap64 (x4_1 + 1))) = some r := by rw [if_neg (show ¬ (false = true) by decide)] at H; exact H
                            clear H
                            have H := H1
                            clear H1
                            have H' := Aside0.mk H
                            clear H
                            go_wp2
                            go_roundg kj26
                            case measure => have := HK1.out; have := HK2.out; have := HJ26.out; omega
                            case rel => exact ⟨(wrap64 (x4_1 + 1)), (by first | rfl | (simp; done) | (simp [*]; done)), H', ⟨by have := HK1.out; have := HK2.out; have := HJ26.out; omega⟩, ⟨by (with_reducible repeat (first | apply Kd.R_alloc | apply Kd.R_drewN | apply Kd.R_drew)); exact HO_3.out⟩, ⟨by repeat (first | (with_reducible first | exact HB.out | apply below_alloc | apply pw_below_drewN | apply below_drew1) | exact HB.out)⟩⟩
            · rw [if_neg c9] at H
              exact absurd H (by simp)
          · rw [if_neg c8] at H
            exact absurd H (by simp)
        · rw [if_neg c7] at H
          have c7b0 : decide (x4_1 < (l0.length : Int)) = false := decide_eq_false c7
          clear c7
          obtain rfl := Option.some.inj H
          go_wp2
          go_ret
          exact ⟨by first | rfl | (simp [errW_none, errW_some] <;> rfl) | (simp [*, errW_none, errW_some] <;> rfl), by repeat (first | (with_reducible first | exact HB.out | apply below_alloc | apply pw_below_drewN | apply below_drew1) | exact HB.out)⟩
  · replace c3 := Bool.eq_false_iff.mpr c3
    subst c3
    have H1 : (some false) = some r := by rw [if_neg (show ¬ (false = true) by decide)] at H; exact H
    clear H
    have H := H1
    clear H1
    obtain rfl := Option.some.inj H
    go_enter Try.func45, Try.ntmps45
    go_wp2_with (first | ((with_reducible refine gate_callee (f := 33) rfl ?_); refine goesL_ (some 8) rfl rfl Try.func33 (by kernel_rfl) rfl #[.slice A0 l0.length c0] rfl (by (try simp only [List.map_toArray, List.map_cons, List.map_nil]); first | done | rfl | (simp only [List.length_drop, List.length_take]; rfl)) ?_; (with_reducible refine (spec_CodeOk.calls k _ _ l0 false _ ?side1 ?side2 A2.out).mono ?_); (case side1 => repeat (first | exact HR0.out | (with_reducible refine Kd.C_alloc ?_ _) | (with_reducible refine Kd.C_drewN ?_ _) | (with_reducible refine Kd.C_drew ?_))); (case side2 => exact HC0.out); rintro e w34 ⟨rfl, hb⟩; refine ⟨_, rfl, ?_⟩; have n0_ := Aside0.mk (below_step (by repeat (first | (with_reducible first | exact HB.out | apply below_alloc | apply pw_below_drewN | apply below_drew1) | exact HB.out)) hb); clear HB; have HB := n0_; clear n0_; (try clear hb); (try clear hb2); (try clear hk); (try clear hi)))
    go_ret
    exact ⟨by first | rfl | (simp [errW_none, errW_some] <;> rfl) | (simp [*, errW_none, errW_some] <;> rfl), by repeat (first | (with_reducible first | exact HB.out | apply below_alloc | apply pw_below_drewN | apply below_drew1) | exact HB.out)⟩
end Go.Proofs.Ytmklpbmlgjkbiaa.PS
end
section
namespace Go.Proofs.Ytmklpbmlgjkbiaa.PS
open Go.RowKit Go.Proofs.YtmklpbmlgjkbiaaW.PrintWords Go.Proofs.YtmklpbmlgjkbiaaW.PrintLast
set_option linter.unusedVariables false
theorem has_free {x s : Int} (hx : 0 ≤ x) (hx2 : x ≤ 15) (hs : 0 ≤ s) (hs2 : s ≤ 3) : spec_l3Has.f x s = some (!freeB x s) := by
  have : fours (fun x => fours fun s => decide (s ≤ 3 → spec_l3Has.f x s = some (!freeB x s))) = true := by decide +kernel
  exact of_decide_eq_true (fours_all (fours_all this hx hx2) hs (by omega)) hs2
theorem l2uses_eq (k r s t vk vn : Int) : spec_l2Uses.f 3 k r s t vk vn = some (usesL k r s) := by
  unfold spec_l2Uses.f usesL
  by_cases h2 : k = 2
  · simp [h2]
  by_cases h3 : k = 3
  · simp [h3, spec_l2Uses.j0]
  by_cases h6 : k = 6
  · simp [h6, spec_l2Uses.j0]
  by_cases h10 : k = 10
  · simp [h10, spec_l2Uses.j0, spec_l2Uses.j1]
  by_cases h11 : k = 11
  · simp [h11, spec_l2Uses.j0, spec_l2Uses.j1]
  by_cases h12 : k = 12
  · simp [h12, spec_l2Uses.j0, spec_l2Uses.j1]
  by_cases h14 : k = 14
  · simp [h14, spec_l2Uses.j0, spec_l2Uses.j1]
  simp [h2, h3, h6, h10, h11, h12, h14, spec_l2Uses.j0, spec_l2Uses.j1]
theorem l2uses_ev (k r s t vk vn : Int) : Ev (fun n => spec_l2Uses.f n k r s t vk vn) (usesL k r s) := Ev.of (fun n => spec_l2Uses.mono k r s t vk vn n) (l2uses_eq k r s t vk vn)
theorem uses_len (k r s : Int) : (usesL k r s).length ≤ 2 := by unfold usesL; split <;> (try split) <;> (try split) <;> simp
def restB (l : List S29) (i : Nat) : Bool := (List.range' i (l.length - i)).all (safeAt l)
theorem rest_succ (l : List S29) (i : Nat) (h : i < l.length) : restB l i = (safeAt l i && restB l (i + 1)) := by
  unfold restB
  rw [show l.length - i = (l.length - (i + 1)) + 1 by omega, List.range'_succ]; rfl
theorem ssafe_uses {l : List S29} {j : Nat} (hj : j < l.length) {x : Int} (hx0 : 0 ≤ x) (hx1 : x ≤ 15) (hxe : x = at_ (fullL l) j) (hl : l.length ≤ 16) (hfl : (fullL l).length = l.length) {U : List Int} (hU : ∀ s ∈ U, 0 ≤ s ∧ s ≤ 3) (hU2 : U.length ≤ 2) {r : Bool}
    (h : Ev (fun k => spec_CodeSafe.j2 k l (fullL l) j (!(decide (j + 1 < l.length) || endsB (rd_T29 l j)))) r) (d : Nat) : ∀ m, U.length - m = d → m ≤ U.length → Ev (fun k => spec_CodeSafe.l1 k l (fullL l) j U (m : Int)) (if (U.drop m).any (freeB x) = true then false else r) := by
  have ex : rd (fullL l) (j : Int) = x := hxe.symm
  induction d with
  | zero =>
    intro m hm hm2
    rw [List.drop_of_length_le (by omega)]
    refine Ev.step (fun k => ?_) h
    simp only [spec_CodeSafe.l1]
    rw [if_neg (by omega), w64 (by omega) (by omega)]
    by_cases hn : j + 1 < l.length
    · rw [if_neg (by omega), decide_eq_true hn]; rfl
    · rw [if_pos (by omega), if_pos (by omega), if_pos (by omega), decide_eq_false hn]
      unfold endsB
      by_cases h9 : (rd_T29 l (j : Int)).f0 = 9
      · rw [if_pos h9, decide_eq_true (.inl h9)]; rfl
      · rw [if_neg h9]
        by_cases h14 : (rd_T29 l (j : Int)).f0 = 14
        · rw [decide_eq_true (.inr h14)]
          have : ((rd_T29 l (j : Int)).f0 != 14) = false := by simp [h14]
          rw [this]; rfl
        · rw [decide_eq_false (by omega)]
          have : ((rd_T29 l (j : Int)).f0 != 14) = true := by simp [h14]
          rw [this]; rfl
  | succ d ih =>
    intro m hm hm2
    have ih1 := ih (m + 1) (by omega) (by omega)
    have d0 : U.drop m = U[m]'(by omega) :: U.drop (m + 1) := List.drop_eq_getElem_cons (by omega)
    have hs := hU U[m] (List.getElem_mem (by omega))
    have hh := has_free hx0 hx1 hs.1 hs.2
    rw [d0, List.any_cons]
    cases hf : freeB x (U[m]'(by omega)) with
    | true =>
      rw [hf] at hh
      refine ev_eq (Ev.step (f := fun k => some false) (fun k => ?_) (Ev.now _)) rfl
      simp only [spec_CodeSafe.l1]
      rw [if_pos (by omega), if_pos (by omega), if_pos (by rw [hfl]; omega), if_pos (by omega), rd_at U m (by omega), ex, hh]; rfl
    | false =>
      rw [hf] at hh
      rw [Bool.false_or]
      refine Ev.step (fun k => ?_) ih1
      simp only [spec_CodeSafe.l1]
      rw [if_pos (by omega), if_pos (by omega), if_pos (by rw [hfl]; omega), if_pos (by omega), rd_at U m (by omega), ex, hh, w64 (by omega) (by omega)]; rfl
theorem ssafe_ev {l : List S29} (hc : codeB l = true) (d : Nat) : ∀ j, l.length - j = d → j ≤ l.length → Ev (fun k => spec_CodeSafe.l0 k l (fullL l) (j : Int)) (restB l j) := by
  obtain ⟨h1, h2⟩ := code_len hc
  have hg := full_good (wayW_good hc)
  have hl : (fullL l).length = l.length := hg.1
  induction d with
  | zero =>
    intro j hj hj2
    obtain rfl : j = l.length := by omega
    refine ev_eq (Ev.step (f := fun k => some true) (fun k => ?_) (Ev.now _)) ?_
    · simp only [spec_CodeSafe.l0]; rw [if_neg (by omega)]
    · unfold restB; rw [Nat.sub_self]; rfl
  | succ d ih =>
    intro j hj hj2
    have ih1 := ih (j + 1) (by omega) (by omega)
    have hw : wrap64 ((j : Int) + 1) = ((j + 1 : Nat) : Int) := by rw [w64 (by omega) (by omega)]; rfl
    rw [rest_succ l j (by omega)]
    obtain ⟨x, hx⟩ : ∃ x, x = at_ (fullL l) (j : Int) := ⟨_, rfl⟩
    have ex : rd (fullL l) (j : Int) = x := hx.symm
    have hx15 : x ≤ 15 := by rw [hx]; exact (at_good hg (j : Int)).2
    by_cases hneg : x < 0
    · have hs : safeAt l j = true := by unfold safeAt; rw [← hx, decide_eq_true hneg]; rfl
      rw [hs, Bool.true_and]
      refine Ev.step (fun k => ?_) ih1
      simp only [spec_CodeSafe.l0]
      rw [if_pos (by omega), if_pos (by omega), if_pos (by rw [hl]; omega), ex, if_pos hneg, hw]
    · obtain ⟨y, hy⟩ : ∃ y, y = rd_T29 l (j : Int) := ⟨_, rfl⟩
      have hus := uses_slots hc (i := j) (by omega)
      have hS : safeAt l j = ((decide (j + 1 < l.length) || endsB y) && !((usesL y.f0 y.f1 y.f2).any (freeB x))) := by
        unfold safeAt; rw [← hx, decide_eq_false hneg, Bool.false_or, hy]
      rw [← hy] at hus
      refine Ev.step (f := fun k => (spec_l2Uses.f k y.f0 y.f1 y.f2 y.f3 y.f4.f0 y.f4.f1).bind fun t398 => (spec_CodeSafe.l1 k l (fullL l) j t398 0)) (fun k => ?_) ?_
      · simp only [spec_CodeSafe.l0]
        rw [if_pos (by omega), if_pos (by omega), if_pos (by rw [hl]; omega), ex, if_neg hneg, ← hy]
      · refine Ev.bind (l2uses_ev _ _ _ _ _ _) ?_
        have hj2' : Ev (fun k => spec_CodeSafe.j2 k l (fullL l) j (!(decide (j + 1 < l.length) || endsB (rd_T29 l j)))) (if (!(decide (j + 1 < l.length) || endsB y)) = true then false else restB l (j + 1)) := by
          rw [← hy]
          by_cases hb : (!(decide (j + 1 < l.length) || endsB y)) = true
          · rw [if_pos hb]
            refine Ev.step (f := fun k => some false) (fun k => ?_) (Ev.now _)
            simp only [spec_CodeSafe.j2]; rw [if_pos hb]
          · rw [if_neg hb]
            refine Ev.step (fun k => ?_) ih1
            simp only [spec_CodeSafe.j2]; rw [if_neg hb, hw]
        have := ssafe_uses (l := l) (j := j) (by omega) (x := x) (by omega) hx15 hx h2 hl hus (uses_len _ _ _) hj2' _ 0 rfl (by omega)
        refine ev_eq this ?_
        rw [List.drop_zero, hS]
        cases (usesL y.f0 y.f1 y.f2).any (freeB x) <;> cases (decide (j + 1 < l.length) || endsB y) <;> simp
theorem scodesafe_ev (l : List S29) (hm : l.length ≤ 9223372036854775807) : Ev (fun k => spec_CodeSafe.f k l) (safeB l) := by
  unfold spec_CodeSafe.f
  refine Ev.bind (scode_ev l hm) ?_
  by_cases h : codeB l = true
  · simp only [if_pos h]
    refine Ev.bind (sfull_ev h) ?_
    have := ssafe_ev h l.length 0 (by omega) (by omega)
    refine ev_eq this ?_
    unfold restB safeB
    rw [h, Bool.true_and, Nat.sub_zero, List.range_eq_range']
  · simp only [if_neg h]
    refine ev_eq (Ev.now _) ?_
    unfold safeB
    have : codeB l = false := by simpa using h
    rw [this]; rfl
theorem spec_CodeSafe_as.calls (A0 : Option Addr) (c0 : Nat) (l0 : List (S29)) (r : Bool) (w : World) (hr0 : Kd.C k29 w A0 l0.length l0) (hc0 : l0.length ≤ c0) (h : safeV.f l0 = some r) :
    Calls Try.prog 45 #[.slice A0 l0.length c0] w fun e w' => e = .returned (.bool r) ∧ Below w.heap.size w w' := by
  obtain ⟨k, hk⟩ := (scodesafe_ev l0 (Kd.C_max hr0)).rounds
  exact spec_CodeSafe.calls k A0 c0 l0 r w hr0 hc0 (hk.trans h)
end Go.Proofs.Ytmklpbmlgjkbiaa.PS
end
section
namespace Go.Proofs.Ytmklpbmlgjkbiaa.PI
open Go.RowKit Go.Proofs.YtmklpbmlgjkbiaaW.PrintWords Go.Proofs.YtmklpbmlgjkbiaaW.PrintLast Go.Proofs.YtmklpbmlgjkbiaaW.PrintMore Go.Proofs.Ytmklpbmlgjkbiaa.PS
attribute [local go_sem] max2_int min2_int max_two min_two max_three min_three max_four min_four   -- for this text's walks alone
set_option linter.unusedVariables false
set_option linter.unusedSimpArgs false
def laws_FnExactCodeSafe.f (l0 : List (S25)) : Option (Bool) := (laws_szOpS.f l0 1048576).bind fun t101 => (if t101 < 0 then (some true) else ((toOpsV.f l0).bind fun t102 => ((safeV.f t102).bind fun t105 => (some true))))
set_option maxHeartbeats 8000000 in
set_option maxRecDepth 100000 in
theorem laws_FnExactCodeSafe.calls (A0 : Option Addr) (c0 : Nat) (l0 : List (S25)) (r : Bool) (w : World) (hr0 : Kd.C k25 w A0 l0.length l0) (hc0 : l0.length ≤ c0) (h : laws_FnExactCodeSafe.f l0 = some r) :
    Calls Try.prog 11 #[.slice A0 l0.length c0] w fun e w' => e = .returned (.bool r) ∧ Below w.heap.size w w' := by
  have HR0 := Aside0.mk hr0
  have HC0 := Aside0.mk hc0
  clear hr0 hc0
  have HB := Aside0.mk (Below.refl w.heap.size w)
  have H : ((laws_szOpS.f l0 1048576).bind fun t101 => (if t101 < 0 then (some true) else ((toOpsV.f l0).bind fun t102 => ((safeV.f t102).bind fun t105 => (some true))))) = some r := h
  clear h
  replace H := Option.bind_eq_some_iff.mp H
  obtain ⟨t101, A20, H⟩ := H
  replace H : (if t101 < 0 then (some true) else ((toOpsV.f l0).bind fun t102 => ((safeV.f t102).bind fun t105 => (some true)))) = some r := H
  have A2 := Aside0.mk A20
  clear A20
  by_cases c3 : t101 < 0
  · rw [if_pos c3] at H
    have c3b0 : decide (t101 < 0) = true := decide_eq_true c3
    clear c3
    obtain rfl := Option.some.inj H
    go_enter Try.func11, Try.ntmps11
    go_wp2_with (first | ((with_reducible refine gate_callee (f := 32) rfl ?_); refine goesL_ (some 9) rfl rfl Try.func32 (by kernel_rfl) rfl #[.slice A0 l0.length c0, .int .i64 1048576] rfl (by (try simp only [List.map_toArray, List.map_cons, List.map_nil]); first | done | rfl | (simp only [List.length_drop, List.length_take]; rfl)) ?_; (with_reducible refine (laws_szOpS.calls _ _ l0 1048576 t101 _ ?side1 ?side2 A2.out).mono ?_); (case side1 => repeat (first | exact HR0.out | (with_reducible refine Kd.C_alloc ?_ _) | (with_reducible refine Kd.C_drewN ?_ _) | (with_reducible refine Kd.C_drew ?_))); (case side2 => exact HC0.out); rintro e w' ⟨rfl, ⟨nd, rfl⟩⟩; refine ⟨_, rfl, ?_⟩))
    go_ret
    exact ⟨by first | rfl | (simp [errW_none, errW_some] <;> rfl) | (simp [*, errW_none, errW_some] <;> rfl), by repeat (first | (with_reducible first | exact HB.out | apply below_alloc | apply pw_below_drewN | apply below_drew1) | exact HB.out)⟩
  · rw [if_neg c3] at H
    have c3b0 : decide (t101 < 0) = false := decide_eq_false c3
    clear c3
    replace H := Option.bind_eq_some_iff.mp H
    obtain ⟨t102, A40, H⟩ := H
    replace H : ((safeV.f t102).bind fun t105 => (some true)) = some r := H
    have A4 := Aside0.mk A40
    clear A40
    replace H := Option.bind_eq_some_iff.mp H
    obtain ⟨t105, A50, H⟩ := H
    replace H : (some true) = some r := H
    have A5 := Aside0.mk A50
    clear A50
    have z6 : (t105 == t105) = true := by simp
    have z7 : (t105 != t105) = false := by simp
    have A8 := Aside0.mk (eqOps_same t102 : eqOpsV.f t102 t102 = some true)
    obtain rfl := Option.some.inj H
    go_enter Try.func11, Try.ntmps11
    go_wp2_with (first | ((with_reducible refine gate_callee (f := 32) rfl ?_); refine goesL_ (some 9) rfl rfl Try.func32 (by kernel_rfl) rfl #[.slice A0 l0.length c0, .int .i64 1048576] rfl (by (try simp only [List.map_toArray, List.map_cons, List.map_nil]); first | done | rfl | (simp only [List.length_drop, List.length_take]; rfl)) ?_; (with_reducible refine (laws_szOpS.calls _ _ l0 1048576 t101 _ ?side1 ?side2 A2.out).mono ?_); (case side1 => repeat (first | exact HR0.out | (with_reducible refine Kd.C_alloc ?_ _) | (with_reducible refine Kd.C_drewN ?_ _) | (with_reducible refine Kd.C_drew ?_))); (case side2 => exact HC0.out); rintro e w' ⟨rfl, ⟨nd, rfl⟩⟩; refine ⟨_, rfl, ?_⟩) | ((with_reducible refine gate_callee (f := 34) rfl ?_); refine goesL_ (some 13) rfl rfl Try.func34 (by kernel_rfl) rfl #[.slice A0 l0.length c0] rfl (by (try simp only [List.map_toArray, List.map_cons, List.map_nil]); first | done | rfl | (simp only [List.length_drop, List.length_take]; rfl)) ?_; (with_reducible refine (laws_toOpS_as.calls _ _ l0 t102 _ ?side1 ?side2 A4.out).mono ?_); (case side1 => repeat (first | exact HR0.out | (with_reducible refine Kd.C_alloc ?_ _) | (with_reducible refine Kd.C_drewN ?_ _) | (with_reducible refine Kd.C_drew ?_))); (case side2 => exact HC0.out); rintro e w9 ⟨v103, rfl, ho0, hb⟩; refine ⟨_, rfl, ?_⟩; have n0_ := Aside0.mk (Kd.R_lower ho0 (below_size (by repeat (first | (with_reducible first | exact HB.out | apply below_alloc | apply pw_below_drewN | apply below_drew1) | exact HB.out)))); have n1_ := Aside0.mk (below_step (by repeat (first | (with_reducible first | exact HB.out | apply below_alloc | apply pw_below_drewN | apply below_drew1) | exact HB.out)) hb); clear HB; have HO104 := n0_; have HB := n1_; clear n0_ n1_; (try clear hb); (try clear hb2); (try clear hk); (try clear hi); (try clear ho0); obtain ⟨Ao10, co10, eo10⟩ := Kd.R_slice HO104.out; subst eo10) | ((with_reducible refine gate_callee (f := 45) rfl ?_); refine goesL_ (some 14) rfl rfl Try.func45 (by kernel_rfl) rfl #[.slice Ao10 t102.length co10] rfl (by (try simp only [List.map_toArray, List.map_cons, List.map_nil]); first | done | rfl | (simp only [List.length_drop, List.length_take]; rfl)) ?_; (with_reducible refine (spec_CodeSafe_as.calls _ _ t102 t105 _ ?side1 ?side2 A5.out).mono ?_); (case side1 => repeat (first | exact (Kd.R_reads' HO104.out).2.2 | (with_reducible refine Kd.C_alloc ?_ _) | (with_reducible refine Kd.C_drewN ?_ _) | (with_reducible refine Kd.C_drew ?_))); (case side2 => exact (Kd.R_reads' HO104.out).2.1); rintro e w11 ⟨rfl, hb⟩; refine ⟨_, rfl, ?_⟩; have n0_ := Aside0.mk (Kd.R_below (by (with_reducible repeat (first | apply Kd.R_alloc | apply Kd.R_drewN | apply Kd.R_drew)); exact HO104.out) hb); have n1_ := Aside0.mk (below_step (by repeat (first | (with_reducible first | exact HB.out | apply below_alloc | apply pw_below_drewN | apply below_drew1) | exact HB.out)) hb); clear HO104; clear HB; have HO104 := n0_; have HB := n1_; clear n0_ n1_; (try clear hb); (try clear hb2); (try clear hk); (try clear hi)) | ((with_reducible refine gate_callee (f := 34) rfl ?_); refine goesL_ (some 16) rfl rfl Try.func34 (by kernel_rfl) rfl #[.slice A0 l0.length c0] rfl (by (try simp only [List.map_toArray, List.map_cons, List.map_nil]); first | done | rfl | (simp only [List.length_drop, List.length_take]; rfl)) ?_; (with_reducible refine (laws_toOpS_as.calls _ _ l0 t102 _ ?side1 ?side2 A4.out).mono ?_); (case side1 => repeat (first | exact (Kd.C_below HR0.out HB.out) | (with_reducible refine Kd.C_alloc ?_ _) | (with_reducible refine Kd.C_drewN ?_ _) | (with_reducible refine Kd.C_drew ?_))); (case side2 => exact HC0.out); rintro e w12 ⟨v106, rfl, ho0, hb⟩; refine ⟨_, rfl, ?_⟩; have n0_ := Aside0.mk (Kd.R_elder' (by (with_reducible repeat (first | apply Kd.R_alloc | apply Kd.R_drewN | apply Kd.R_drew)); exact HO104.out) (Kd.R_base ho0) hb); have n1_ := Aside0.mk (Kd.R_lower (Kd.R_new' ho0 (Kd.R_lt (by (with_reducible repeat (first | apply Kd.R_alloc | apply Kd.R_drewN | apply Kd.R_drew)); exact HO104.out))) (below_size (by repeat (first | (with_reducible first | exact HB.out | apply below_alloc | apply pw_below_drewN | apply below_drew1) | exact HB.out)))); have n2_ := Aside0.mk (below_step (by repeat (first | (with_reducible first | exact HB.out | apply below_alloc | apply pw_below_drewN | apply below_drew1) | exact HB.out)) hb); clear HO104; clear HB; have HO104 := n0_; have HO107 := n1_; have HB := n2_; clear n0_ n1_ n2_; (try clear hb); (try clear hb2); (try clear hk); (try clear hi); (try clear ho0); obtain ⟨Ao13, co13, eo13⟩ := Kd.R_slice HO107.out; subst eo13) | ((with_reducible refine gate_callee (f := 46) rfl ?_); refine goesL_ (some 18) rfl rfl Try.func46 (by kernel_rfl) rfl #[.slice Ao13 t102.length co13] rfl (by (try simp only [List.map_toArray, List.map_cons, List.map_nil]); first | done | rfl | (simp only [List.length_drop, List.length_take]; rfl)) ?_; (with_reducible refine (impl_CodeSafe.calls _ _ t102 t105 _ ?side1 ?side2 A5.out).mono ?_); (case side1 => repeat (first | exact (Kd.R_reads' HO107.out).2.2 | (with_reducible refine Kd.C_alloc ?_ _) | (with_reducible refine Kd.C_drewN ?_ _) | (with_reducible refine Kd.C_drew ?_))); (case side2 => exact (Kd.R_reads' HO107.out).2.1); rintro e w14 ⟨rfl, hb⟩; refine ⟨_, rfl, ?_⟩; have n0_ := Aside0.mk (Kd.R_below (by (with_reducible repeat (first | apply Kd.R_alloc | apply Kd.R_drewN | apply Kd.R_drew)); exact HO104.out) hb); have n1_ := Aside0.mk (Kd.R_below (by (with_reducible repeat (first | apply Kd.R_alloc | apply Kd.R_drewN | apply Kd.R_drew)); exact HO107.out) hb); have n2_ := Aside0.mk (below_step (by repeat (first | (with_reducible first | exact HB.out | apply below_alloc | apply pw_below_drewN | apply below_drew1) | exact HB.out)) hb); clear HO104; clear HO107; clear HB; have HO104 := n0_; have HO107 := n1_; have HB := n2_; clear n0_ n1_ n2_; (try clear hb); (try clear hb2); (try clear hk); (try clear hi)) | ((with_reducible refine gate_callee (f := 34) rfl ?_); refine goesL_ (some 24) rfl rfl Try.func34 (by kernel_rfl) rfl #[.slice A0 l0.length c0] rfl (by (try simp only [List.map_toArray, List.map_cons, List.map_nil]); first | done | rfl | (simp only [List.length_drop, List.length_take]; rfl)) ?_; (with_reducible refine (laws_toOpS_as.calls _ _ l0 t102 _ ?side1 ?side2 A4.out).mono ?_); (case side1 => repeat (first | exact (Kd.C_below HR0.out HB.out) | (with_reducible refine Kd.C_alloc ?_ _) | (with_reducible refine Kd.C_drewN ?_ _) | (with_reducible refine Kd.C_drew ?_))); (case side2 => exact HC0.out); rintro e w15 ⟨v108, rfl, ho0, hb⟩; refine ⟨_, rfl, ?_⟩; have n0_ := Aside0.mk (Kd.R_elder' (by (with_reducible repeat (first | apply Kd.R_alloc | apply Kd.R_drewN | apply Kd.R_drew)); exact HO104.out) (Kd.R_base ho0) hb); have n1_ := Aside0.mk (Kd.R_elder' (by (with_reducible repeat (first | apply Kd.R_alloc | apply Kd.R_drewN | apply Kd.R_drew)); exact HO107.out) (Kd.R_base ho0) hb); have n2_ := Aside0.mk (Kd.R_lower (Kd.R_new' (Kd.R_new' ho0 (Kd.R_lt (by (with_reducible repeat (first | apply Kd.R_alloc | apply Kd.R_drewN | apply Kd.R_drew)); exact HO104.out))) (Kd.R_lt (by (with_reducible repeat (first | apply Kd.R_alloc | apply Kd.R_drewN | apply Kd.R_drew)); exact HO107.out))) (below_size (by repeat (first | (with_reducible first | exact HB.out | apply below_alloc | apply pw_below_drewN | apply below_drew1) | exact HB.out)))); have n3_ := Aside0.mk (below_step (by repeat (first | (with_reducible first | exact HB.out | apply below_alloc | apply pw_below_drewN | apply below_drew1) | exact HB.out)) hb); clear HO104; clear HO107; clear HB; have HO104 := n0_; have HO107 := n1_; have HO109 := n2_; have HB := n3_; clear n0_ n1_ n2_ n3_; (try clear hb); (try clear hb2); (try clear hk); (try clear hi); (try clear ho0); obtain ⟨Ao16, co16, eo16⟩ := Kd.R_slice HO109.out; subst eo16) | ((with_reducible refine gate_callee (f := 36) rfl ?_); refine goesL_ (some 25) rfl rfl Try.func36 (by kernel_rfl) rfl #[.slice Ao13 t102.length co13, .slice Ao16 t102.length co16] rfl (by (try simp only [List.map_toArray, List.map_cons, List.map_nil]); first | done | rfl | (simp only [List.length_drop, List.length_take]; rfl)) ?_; (with_reducible refine (laws_eqOpS_as.calls _ _ t102 _ _ t102 true _ ?side1 ?side2 ?side3 ?side4 A8.out).mono ?_); (case side1 => repeat (first | exact (Kd.R_reads' HO107.out).2.2 | (with_reducible refine Kd.C_alloc ?_ _) | (with_reducible refine Kd.C_drewN ?_ _) | (with_reducible refine Kd.C_drew ?_))); (case side2 => exact (Kd.R_reads' HO107.out).2.1); (case side3 => repeat (first | exact (Kd.R_reads' HO109.out).2.2 | (with_reducible refine Kd.C_alloc ?_ _) | (with_reducible refine Kd.C_drewN ?_ _) | (with_reducible refine Kd.C_drew ?_))); (case side4 => exact (Kd.R_reads' HO109.out).2.1); rintro e w17 ⟨rfl, hb⟩; refine ⟨_, rfl, ?_⟩; have n0_ := Aside0.mk (Kd.R_below (by (with_reducible repeat (first | apply Kd.R_alloc | apply Kd.R_drewN | apply Kd.R_drew)); exact HO104.out) hb); have n1_ := Aside0.mk (Kd.R_below (by (with_reducible repeat (first | apply Kd.R_alloc | apply Kd.R_drewN | apply Kd.R_drew)); exact HO107.out) hb); have n2_ := Aside0.mk (Kd.R_below (by (with_reducible repeat (first | apply Kd.R_alloc | apply Kd.R_drewN | apply Kd.R_drew)); exact HO109.out) hb); have n3_ := Aside0.mk (below_step (by repeat (first | (with_reducible first | exact HB.out | apply below_alloc | apply pw_below_drewN | apply below_drew1) | exact HB.out)) hb); clear HO104; clear HO107; clear HO109; clear HB; have HO104 := n0_; have HO107 := n1_; have HO109 := n2_; have HB := n3_; clear n0_ n1_ n2_ n3_; (try clear hb); (try clear hb2); (try clear hk); (try clear hi)))
    go_ret
    exact ⟨by first | rfl | (simp [errW_none, errW_some] <;> rfl) | (simp [*, errW_none, errW_some] <;> rfl), by repeat (first | (with_reducible first | exact HB.out | apply below_alloc | apply pw_below_drewN | apply below_drew1) | exact HB.out)⟩
end Go.Proofs.Ytmklpbmlgjkbiaa.PI
end
section
namespace Go.Proofs.Ytmklpbmlgjkbiaa.Pure
open Go.RowKit Go.Proofs.Ytmklpbmlgjkbiaa.PI Go.Proofs.Ytmklpbmlgjkbiaa.PS Go.Proofs.YtmklpbmlgjkbiaaW.PrintWords Go.Proofs.YtmklpbmlgjkbiaaW.PrintLast
theorem FnExactCodeSafe (l : List S25) (hm : l.length ≤ maxLen) : laws_FnExactCodeSafe.f l = some true := by
  unfold maxLen at hm
  unfold laws_FnExactCodeSafe.f laws_szOpS.f
  rw [w64 (x := 1048576 - (l.length : Int)) (by omega) (by omega)]
  by_cases h : (1048576 - (l.length : Int)) < 0
  · rw [if_pos h]; rfl
  · rw [if_neg h]
    simp only [Option.bind_some]
    rw [if_neg h]
    unfold toOpsV.f safeV.f
    rw [if_pos (by omega)]
    rfl
end Go.Proofs.Ytmklpbmlgjkbiaa.Pure
end
section
namespace Go.Proofs.Ytmklpbmlgjkbiaa.PS
open Go.ChangeShapes Go.WideShapes Go.ChangeAt Go.RowKit Go.Joins
set_option linter.unusedVariables false
set_option maxRecDepth 100000
theorem cells3 : Try.prog.cellsOf 3 = 1 := by kernel_rfl
theorem cells23 : Try.prog.cellsOf 23 = 2 := by kernel_rfl
theorem cells25 : Try.prog.cellsOf 25 = 6 := by kernel_rfl
section
variable {H : Type} {enc : TypeId × Value → H} {w : World} {base : Nat} {spare : Nat → Bool} {held : Bool} {fuel : Nat} {cs : List Value} {x : DataW H × List MemPlace}
theorem val_cells (h : DataW.trod enc Try.prog w base spare held fuel 23 cs = some x) : ∃ a b : Int, cs = [.int .i64 a, .int .i64 b] ∧ (Lit.int .i64 a).wf = true ∧ (Lit.int .i64 b).wf = true := by
  obtain ⟨xs, n, _, _, hl, hlen, hf⟩ := DataW.trod_struct Try.underlying23 h
  rw [cells23] at hl
  match cs, hl with
  | [c0, c1], _ =>
    match xs, hlen with
    | [y0, y1], _ =>
      have h0 := hf 0 _ rfl
      have h1 := hf 1 _ rfl
      obtain ⟨a, e0, _, w0⟩ := DataW.trod_int Try.underlying3 h0
      obtain ⟨b, e1, _, w1⟩ := DataW.trod_int Try.underlying3 h1
      simp [cells3] at e0 e1
      exact ⟨a, b, by rw [e0, e1], w0, w1⟩
theorem op_cells (h : DataW.trod enc Try.prog w base spare held fuel 25 cs = some x) : ∃ a b c d e f : Int, cs = [.int .i64 a, .int .i64 b, .int .i64 c, .int .i64 d, .int .i64 e, .int .i64 f] ∧ ((Lit.int .i64 a).wf = true ∧ (Lit.int .i64 b).wf = true ∧ (Lit.int .i64 c).wf = true ∧ (Lit.int .i64 d).wf = true ∧ (Lit.int .i64 e).wf = true ∧ (Lit.int .i64 f).wf = true) := by
  obtain ⟨xs, n, _, _, hl, hlen, hf⟩ := DataW.trod_struct Try.underlying25 h
  rw [cells25] at hl
  match cs, hl with
  | [c0, c1, c2, c3, c4, c5], _ =>
    match xs, hlen with
    | [y0, y1, y2, y3, y4], _ =>
      have h0 := hf 0 _ rfl
      have h1 := hf 1 _ rfl
      have h2 := hf 2 _ rfl
      have h3 := hf 3 _ rfl
      have h4 := hf 4 _ rfl
      obtain ⟨a, e0, _, w0⟩ := DataW.trod_int Try.underlying3 h0
      obtain ⟨b, e1, _, w1⟩ := DataW.trod_int Try.underlying3 h1
      obtain ⟨c, e2, _, w2⟩ := DataW.trod_int Try.underlying3 h2
      obtain ⟨d, e3, _, w3⟩ := DataW.trod_int Try.underlying3 h3
      obtain ⟨e, f, e4, w4, w5⟩ := val_cells h4
      simp [cells3, cells23] at e0 e1 e2 e3 e4
      exact ⟨a, b, c, d, e, f, by rw [e0, e1, e2, e3, e4.1, e4.2], w0, w1, w2, w3, w4, w5⟩
end
end Go.Proofs.Ytmklpbmlgjkbiaa.PS
end
section
namespace Go.Proofs.Ytmklpbmlgjkbiaa.PS
open Go.ChangeShapes Go.WideShapes Go.ChangeAt Go.RowKit Go.Joins Go.Deep
open Go.Proofs.YtmklpbmlgjkbiaaW.PrintWords Go.Proofs.YtmklpbmlgjkbiaaW.PrintLast
set_option linter.unusedVariables false
set_option maxRecDepth 100000
section
variable {H : Type} {enc : TypeId × Value → H} {w : World} {base : Nat} {spare : Nat → Bool} {held : Bool}
theorem ops_open {a : Option Addr} {len cap : Nat} {d : DataW H} {p : List MemPlace} (h : DataW.Trod enc Try.prog w base spare held 39 (.slice a len cap) d p) :
    ∃ l : List S25, l.length = len ∧ Kd.C k25 w a len l ∧ len ≤ cap ∧ len ≤ maxLen := by
  obtain ⟨fuel, hf⟩ := h
  rcases open_slice Try.underlying39 hf with ⟨hcs, _⟩ | ⟨x, len', cap', m, n, D, Pl, hcs, hb, hl, hm, hmm, _, hx⟩
  · simp [Value.cells] at hcs
    obtain ⟨rfl, rfl, rfl⟩ := hcs
    exact ⟨[], rfl, ⟨rfl, by omega, fun h => absurd h (by omega)⟩, by omega, by omega⟩
  · simp [Value.cells] at hcs
    obtain ⟨rfl, rfl, rfl⟩ := hcs
    have hlm : len ≤ m := by rw [hmm]; split <;> omega
    have each : ∀ i, i < len → ∃ y : S25, ∀ j u, [Value.int .i64 y.f0, .int .i64 y.f1, .int .i64 y.f2, .int .i64 y.f3, .int .i64 y.f4.f0, .int .i64 y.f4.f1][j]? = some u → w.cell? (x.add (i * 6 + j)) = some u := by
      intro i hi
      obtain ⟨cs', h1, h2⟩ := hx i (by omega)
      rw [cells25] at h1
      obtain ⟨_, hlen, hcell⟩ := World.cells?_some h1
      obtain ⟨y0, y1, y2, y3, y4, y5, e, _⟩ := op_cells h2
      subst e
      refine ⟨⟨y0, y1, y2, y3, ⟨y4, y5⟩⟩, fun j u hj => ?_⟩
      have hj6 : j < 6 := by
        have := (List.getElem?_eq_some_iff.1 hj).1
        simpa using this
      have := hcell j hj6
      rw [Go.Deep.add_add] at this
      rw [this]; exact hj
    have : Inhabited S25 := ⟨z25⟩
    obtain ⟨f, hf⟩ := choose_lt each
    refine ⟨(List.range len).map f, by simp, ⟨by simp, by unfold maxLen at hm; omega, fun _ => ⟨x, rfl, fun j y hy => ?_⟩⟩, hl, by omega⟩
    rw [List.getElem?_map] at hy
    have hj : j < len := by
      rcases Nat.lt_or_ge j len with h | h
      · exact h
      · rw [List.getElem?_eq_none (by simpa using h)] at hy; cases hy
    rw [List.getElem?_eq_getElem (by simpa using hj)] at hy
    simp at hy
    subst hy
    exact ⟨_, rfl, k25_mk w _, fun i u hi => hf j hj i u hi⟩
end
end Go.Proofs.Ytmklpbmlgjkbiaa.PS
end
section
namespace Go.Proofs.Ytmklpbmlgjkbiaa.Facts
set_option linter.unusedVariables false
set_option maxRecDepth 1000000
theorem headIs {ws : List (List Char)} {c : List Char} (h : (behindMainWord ws).head? = some c) : ∃ rest, behindMainWord ws = c :: rest := by
  cases hb : behindMainWord ws with
  | nil => rw [hb] at h; cases h
  | cons a r => rw [hb] at h; cases h; exact ⟨r, rfl⟩
theorem signs {s : String} {l : List Char} {c : List Char} (h : s = String.ofList l) (k : (behindMainWord (wordsSigns l)).head? = some c) : ∃ rest, behindMainWord (wordsSigns s.toList) = c :: rest := by
  subst h; rw [String.toList_ofList]; exact headIs k
theorem cutHead : ∃ rest, behindMainWord (wordsSigns Try.prog.initOrder.toList) = "cut".toList :: rest := by
  show ∃ rest, behindMainWord (wordsSigns Try.progTables.initOrder.toList) = "cut".toList :: rest
  unfold Try.progTables
  exact signs rfl (by kernel_rfl)
theorem noLifts (rest : List (List Char)) : stripLifts liftWords ("cut".toList :: rest) = ([], "cut".toList :: rest) := by kernel_rfl
theorem made_of {P : Program} {rest : List (List Char)} (h : behindMainWord (wordsSigns P.initOrder.toList) = "cut".toList :: rest) : P.make = some .cut := by
  unfold Program.make
  rw [h]
  kernel_rfl
theorem may_of {P : Program} {rest : List (List Char)} (h : behindMainWord (wordsSigns P.initOrder.toList) = "cut".toList :: rest)
    (h1 : P.laysLater = false) (h2 : P.bearsReflect = false) (h3 : P.doorFits [] = true) : P.mayEnter = true := by
  unfold Program.mayEnter
  rw [h]
  simp only [noLifts, h1, h2, h3]
  kernel_rfl
theorem lifts_of {P : Program} {rest : List (List Char)} (h : behindMainWord (wordsSigns P.initOrder.toList) = "cut".toList :: rest) : P.liftsFinal = false := by
  unfold Program.liftsFinal Program.headLifts
  rw [h]
  kernel_rfl
theorem may : Try.prog.mayEnter = true := by
  obtain ⟨rest, h⟩ := cutHead
  exact may_of h (by kernel_rfl) (by kernel_rfl) (by kernel_rfl)
theorem lifts : Try.prog.liftsFinal = false := by
  obtain ⟨rest, h⟩ := cutHead
  exact lifts_of h
theorem made : Try.prog.make = some Make.cut := by
  obtain ⟨rest, h⟩ := cutHead
  exact made_of h
theorem band {a b : Bool} (ha : a = true) (hb : b = true) : (a && b) = true := by rw [ha, hb]; rfl
theorem flifts {b : Bool} (h : (b == false) = true) : (b == Try.prog.liftsFinal) = true := by rw [lifts]; exact h
theorem fmade {m : Make} (h : (some Make.cut == some m) = true) : (Try.prog.make == some m) = true := by rw [made]; exact h
end Go.Proofs.Ytmklpbmlgjkbiaa.Facts
end
