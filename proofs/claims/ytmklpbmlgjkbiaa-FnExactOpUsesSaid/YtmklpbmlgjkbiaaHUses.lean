/- The slots that a step reads, as the program finds them, for every step; no condition. -/
import Derived.Test.YtmklpbmlgjkbiaaHImplOp
import Derived.Lib.OthersKept
import Derived.Lib.Hide
import Derived.WalkSmall
namespace Go.Proofs.Ytmklpbmlgjkbiaa.PS
open Go.RowKit Go.Proofs.YtmklpbmlgjkbiaaW.PrintWords Go.Proofs.YtmklpbmlgjkbiaaW.PrintLast
set_option linter.unusedVariables false
set_option linter.unusedSimpArgs false
set_option maxRecDepth 100000
set_option maxHeartbeats 4000000 in
theorem uses_no (k r s t vk vn : Int) (w : World) (hn : Aside0 (opB k r s t vk vn = false)) :
    Calls Try.prog 27 #[.agg #[.int .i64 k, .int .i64 r, .int .i64 s, .int .i64 t, .int .i64 vk, .int .i64 vn]] w fun e w' => e = .returned (.slice none 0 0) ∧ Below w.heap.size w w' := by
  have hOk := fun W : World => impl_OpOk.calls k r s t vk vn false W (by rw [← hn.out]; rfl)
  go_enter Try.func27, Try.ntmps27
  go_wp2_with (go_at_call 25; refine (hOk _).mono ?_; rintro e w' ⟨rfl, hb⟩)
  go_ret
  exact ⟨rfl, below_step (below_alloc (Below.refl _ _) _) hb⟩
def pickL (r s : Int) (l : List UInt8) : List Int := l.map fun c => if c = 82 then r else s
/-- What holds between two rounds. -/
theorem pickL_snoc (r s : Int) (l : List UInt8) (c : UInt8) : pickL r s (l ++ [c]) = pickL r s l ++ [if c = 82 then r else s] := by simp [pickL]
theorem take_snoc (s : ByteArray) (k : Nat) (h : k < s.size) : s.data.toList.take (k + 1) = s.data.toList.take k ++ [s[k]] := by
  rw [List.take_succ_eq_append_getElem (by simpa using h)]; rfl
def UsesRel (w : World) (it : Nat) (rd : ByteArray) (k r s t vk vn : Int) (v : Value) (wr : World) : Prop :=
  ∃ pos, pos ≤ rd.size ∧ wr.heap[it]? = some (.stringIter rd pos) ∧ wr.heap[w.heap.size]? = some (.cells #[.int .i64 k, .int .i64 r, .int .i64 s, .int .i64 t, .int .i64 vk, .int .i64 vn] 29 (0, 0)) ∧
    wr.ownsRow (it + 1) 3 1 v pos ((pickL r s (rd.data.toList.take pos)).map (Value.int .i64)) ∧ Below w.heap.size w wr
theorem uses_step {w wq w1 : World} {it pos : Nat} {rd : ByteArray} {k r s t vk vn : Int} {v v' : Value} {xs : List Value} (X : Int) (hw2 : w.heap.size < it) (hqi : wq.heap[it]? = some (.stringIter rd (pos + 1)))
    (hqb : wq.heap[w.heap.size]? = some (.cells #[.int .i64 k, .int .i64 r, .int .i64 s, .int .i64 t, .int .i64 vk, .int .i64 vn] 29 (0, 0))) (hqbl : Below w.heap.size w wq)
    (hl : (pickL r s (rd.data.toList.take (pos + 1))).map (Value.int .i64) = xs ++ [.int .i64 X]) (hlt : pos < rd.size) (hown : (wq.alloc (.cells #[.int .i64 X] 3)).ownsRow (it + 1) 3 1 v pos xs) (hown' : w1.ownsRow (it + 1) 3 1 v' (pos + 1) (xs ++ [.int .i64 X])) (hgrow : (wq.alloc (.cells #[.int .i64 X] 3)).grownBy w1 v.ownBlock) :
    UsesRel w it rd k r s t vk vn v' w1 := by
  have hne : ∀ g, g ≤ it → some g ≠ v.ownBlock := fun g hg e => by have := own_base hown g e.symm; omega
  refine ⟨pos + 1, hlt, blk_grown (blk_alloc hqi _) hgrow (hne _ (Nat.le_refl _)), blk_grown (blk_alloc hqb _) hgrow (hne _ (Nat.le_of_lt hw2)), by rw [hl]; exact hown', ?_⟩
  exact (below_alloc hqbl _).grown hgrow (below_alloc hqbl _).size (fun b hb => by have := own_base hown b hb; omega)
theorem uses_measure {wr wq w1 : World} {it pos : Nat} {rd : ByteArray} {v : Value} {X : Int} {xs : List Value} (hqi : wq.heap[it]? = some (.stringIter rd (pos + 1))) (hown : (wq.alloc (.cells #[.int .i64 X] 3)).ownsRow (it + 1) 3 1 v pos xs) (hgrow : (wq.alloc (.cells #[.int .i64 X] 3)).grownBy w1 v.ownBlock) (hit : wr.heap[it]? = some (.stringIter rd pos)) (hlt : pos < rd.size) :
    rd.size - w1.iterPos it < rd.size - wr.iterPos it := by
  have hne : some it ≠ v.ownBlock := fun e => by have := own_base hown it e.symm; omega
  rw [iterPos_of hit, iterPos_of (blk_grown (blk_alloc hqi _) hgrow hne)]
  omega
set_option maxHeartbeats 4000000 in
theorem uses_yes (k r s t vk vn : Int) (x : S66) (rd : ByteArray) (w : World) (hx : Aside0 (x = howR k)) (hy : Aside0 (opB k r s t vk vn = true)) (hr : Aside0 (x.f2 = rd)) (hsz : rd.size ≤ 2) (ha : Aside0 (∀ i (h : i < rd.size), rd[i] = 82 ∨ rd[i] = 83)) :
    Calls Try.prog 27 #[.agg #[.int .i64 k, .int .i64 r, .int .i64 s, .int .i64 t, .int .i64 vk, .int .i64 vn]] w fun e w' => ∃ v0_ : Value, e = .returned v0_ ∧ w'.ownsRow w.heap.size 3 1 v0_ rd.size ((pickL r s rd.data.toList).map (Value.int .i64)) ∧ Below w.heap.size w w' := by
  have hOk := fun W : World => impl_OpOk.calls k r s t vk vn true W (by rw [← hy.out]; rfl)
  have hHow := fun W : World => impl_Op_how.calls k r s t vk vn x.f0 x.f1 rd x.f3 W (by rw [← hr.out, hx.out]; rfl)
  have hfd : ∀ (a b c d : Value) (W : World), Sem.run Try.prog (Instr.field 66 (.agg #[a, b, c, d]) 2) W = .ok c W := fun _ _ _ _ _ => by kernel_rfl
  obtain ⟨i0, hi, hz0, hz1, hz2⟩ := info_parts info3
  have BK : Aside0 ((w.alloc (.cells #[.int .i64 k, .int .i64 r, .int .i64 s, .int .i64 t, .int .i64 vk, .int .i64 vn] 29)).heap[w.heap.size]? = some (.cells #[.int .i64 k, .int .i64 r, .int .i64 s, .int .i64 t, .int .i64 vk, .int .i64 vn] 29 (0, 0))) := ⟨blk_new _ _⟩
  have HB := Aside0.mk (Below.refl w.heap.size w)
  go_enter Try.func27, Try.ntmps27
  go_wp2_with (first | (go_at_call 25; refine (hOk _).mono ?_; rintro e w' ⟨rfl, hb⟩; obtain ⟨b1, b2⟩ := bcell hb; have hz := hb.size; have HB := Aside0.mk (below_step (below_alloc HB.out _) hb); have BK := Aside0.mk (blk_below BK.out hb)) | (go_at_call 67; refine (hHow _).mono ?_; rintro e w'2 ⟨rfl, hb2⟩; have HB := Aside0.mk (below_step HB.out hb2); have BK := Aside0.mk (blk_below BK.out hb2); clear b1 b2 hz hb hb2))
  go_loopw [3] (fun v wr => UsesRel w w'2.heap.size rd k r s t vk vn v wr) (fun _ wr => rd.size - wr.iterPos w'2.heap.size)
  case atStart =>
    exact ⟨0, Nat.zero_le _, World.iter_heap _ _ _, blk_alloc BK.out _, World.ownsRow_nil _ _ _ _, below_alloc HB.out _⟩
  case round =>
    obtain ⟨pos, hp, hit0, hbk0, hown0, hbl0⟩ := hrel
    have hit := Aside0.mk hit0; have hbk := Aside0.mk hbk0; have hbl := Aside0.mk hbl0; have hownA := Aside0.mk hown0
    have hw2 : w.heap.size < w'2.heap.size := by have := blk_lt BK.out; exact this
    clear hit0 hbk0 hbl0 hown0
    by_cases hlt : pos < rd.size
    · have hnx := fun ty => Lib.run_next_ascii_at (P := Try.prog) wr w'2.heap.size rd pos ty hit.out hlt (by rcases ha.out pos hlt with h | h <;> rw [h] <;> decide)
      have hqi : Aside0 ((wr.iterAt w'2.heap.size rd (pos + 1)).heap[w'2.heap.size]? = some (.stringIter rd (pos + 1))) := ⟨Lib.iterAt_heap _ _ _ _ _ hit.out⟩
      have hqb : Aside0 ((wr.iterAt w'2.heap.size rd (pos + 1)).heap[w.heap.size]? = some (.cells #[.int .i64 k, .int .i64 r, .int .i64 s, .int .i64 t, .int .i64 vk, .int .i64 vn] 29 (0, 0))) := ⟨(Lib.iterAt_other _ _ _ _ _ (Nat.ne_of_lt hw2)).trans hbk.out⟩
      have hqbl : Aside0 (Below w.heap.size w (wr.iterAt w'2.heap.size rd (pos + 1))) := ⟨Lib.below_iterAt hbl.out (Nat.le_of_lt hw2) _ _⟩
      have hown := ownsRow_iterAt hownA.out (Nat.lt_succ_self w'2.heap.size) rd (pos + 1)
      have hsize : w'2.heap.size < (wr.iterAt w'2.heap.size rd (pos + 1)).heap.size := blk_lt hqi.out
      generalize wr.iterAt w'2.heap.size rd (pos + 1) = wq at hnx hqi hqb hqbl hown hsize
      rcases ha.out pos hlt with hc | hc
      all_goals rw [hc] at hnx
      · have hcv : Aside0 ((if rd[pos] = 82 then r else s) = r) := ⟨by rw [hc]; rfl⟩
        clear hc
        obtain ⟨hq1, hq2⟩ : wq.cell? ⟨w.heap.size, 1, none⟩ = some (.int .i64 r) ∧ wq.cell? ⟨w.heap.size, 2, none⟩ = some (.int .i64 s) := ⟨(blk_cell hqb.out 1).trans rfl, (blk_cell hqb.out 2).trans rfl⟩
        go_wp2_with (first | (at_builtin; refine wpList_append_own _ rfl _ _ 32 rfl (w'2.heap.size + 1) 3 i0 (.int .i64 0) 1 8 Try.underlying32 hi hz0 hz1 hz2 rfl (by decide) _ _ _ rfl (hown.alloc _) ⟨wq.heap.size, 0, none⟩ 1 1 [.int .i64 r] rfl rfl (cell_one_new _ _ _) (by simp [Value.oneCell']) (by unfold maxLen; omega) (by omega) (by simp; omega) ?_; intro v' w1 hown' hgrow _))
        go_roundw
        case rel => exact uses_step r hw2 hqi.out hqb.out hqbl.out (by rw [take_snoc rd pos hlt, pickL_snoc, hcv.out]; simp) hlt (hown.alloc _) hown' hgrow
        case measure => exact uses_measure hqi.out (hown.alloc _) hgrow hit.out hlt
      · have hcv : Aside0 ((if rd[pos] = 82 then r else s) = s) := ⟨by rw [hc]; rfl⟩
        clear hc
        obtain ⟨hq1, hq2⟩ : wq.cell? ⟨w.heap.size, 1, none⟩ = some (.int .i64 r) ∧ wq.cell? ⟨w.heap.size, 2, none⟩ = some (.int .i64 s) := ⟨(blk_cell hqb.out 1).trans rfl, (blk_cell hqb.out 2).trans rfl⟩
        go_wp2_with (first | (at_builtin; refine wpList_append_own _ rfl _ _ 32 rfl (w'2.heap.size + 1) 3 i0 (.int .i64 0) 1 8 Try.underlying32 hi hz0 hz1 hz2 rfl (by decide) _ _ _ rfl (hown.alloc _) ⟨wq.heap.size, 0, none⟩ 1 1 [.int .i64 s] rfl rfl (cell_one_new _ _ _) (by simp [Value.oneCell']) (by unfold maxLen; omega) (by omega) (by simp; omega) ?_; intro v' w1 hown' hgrow _))
        go_roundw
        case rel => exact uses_step s hw2 hqi.out hqb.out hqbl.out (by rw [take_snoc rd pos hlt, pickL_snoc, hcv.out]; simp) hlt (hown.alloc _) hown' hgrow
        case measure => exact uses_measure hqi.out (hown.alloc _) hgrow hit.out hlt
    · have hnx := fun ty => Lib.run_next_end_at (P := Try.prog) wr w'2.heap.size rd pos ty hit.out hlt
      obtain rfl : pos = rd.size := by omega
      go_wp2
      go_ret
      refine ⟨_, rfl, ?_, hbl.out⟩
      have := hownA.out
      rw [List.take_of_length_le (by simp)] at this
      exact own_weaken this (by omega)
def readsB (k : Int) : ByteArray := (howR k).f2
theorem reads_ok (k : Int) : (readsB k).size ≤ 2 ∧ (∀ i (h : i < (readsB k).size), (readsB k)[i] = 82 ∨ (readsB k)[i] = 83) := by
  refine kinds (P := fun k => (readsB k).size ≤ 2 ∧ (∀ i (h : i < (readsB k).size), (readsB k)[i] = 82 ∨ (readsB k)[i] = 83)) (fun k hk => ?_) (by decide) (by decide) (by decide) (by decide) (by decide) (by decide) (by decide) (by decide) (by decide) (by decide) (by decide) (by decide) (by decide) (by decide) k
  unfold readsB howR
  rw [if_neg hk]
  exact ⟨by decide, by decide⟩
theorem reads_eq (k r s : Int) : pickL r s (readsB k).data.toList = usesL k r s := by
  refine kinds (P := fun k => pickL r s (readsB k).data.toList = usesL k r s) (fun k hk => ?_) rfl rfl rfl rfl rfl rfl rfl rfl rfl rfl rfl rfl rfl rfl k
  unfold readsB howR usesL
  rw [if_neg hk, if_neg (by omega), if_neg (by omega), if_neg (by omega)]; rfl
theorem impl_OpUses.calls (k r s t vk vn : Int) (l : List Int) (w : World) (h : usesV.f k r s t vk vn = some l) :
    Calls Try.prog 27 #[.agg #[.int .i64 k, .int .i64 r, .int .i64 s, .int .i64 t, .int .i64 vk, .int .i64 vn]] w fun e w' => ∃ v0_ : Value, e = .returned (v0_) ∧ Kd.R (Kd.int .i64) 3 w' w.heap.size (fun _ => True) v0_ l ∧ Below w.heap.size w w' := by
  have h := Option.some.inj h
  by_cases ho : opB k r s t vk vn = true
  · rw [if_pos ho] at h
    obtain ⟨h1, h2⟩ := reads_ok k
    refine (uses_yes k r s t vk vn (howR k) (readsB k) w ⟨rfl⟩ ⟨ho⟩ ⟨rfl⟩ h1 ⟨h2⟩).mono ?_
    rintro e w' ⟨v, rfl, hown, hb⟩
    refine ⟨v, rfl, ?_, hb⟩
    rw [reads_eq, h] at hown
    have hl : (readsB k).size = l.length := by rw [← h, ← reads_eq k r s]; simp [pickL]
    rw [hl] at hown
    exact Kd.R_of_own hown (fun _ _ => trivial)
  · rw [if_neg ho] at h
    subst h
    refine (uses_no k r s t vk vn w ⟨by simpa using ho⟩).mono ?_
    rintro e w' ⟨rfl, hb⟩
    exact ⟨_, rfl, Kd.R_nil _ _ _ _ _, hb⟩
end Go.Proofs.Ytmklpbmlgjkbiaa.PS
