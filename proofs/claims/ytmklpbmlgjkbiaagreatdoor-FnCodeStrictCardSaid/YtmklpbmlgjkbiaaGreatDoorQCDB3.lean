/- What the rows of CDB rest on, part 4. -/
import Derived.RegionTactic
import Derived.Test.YtmklpbmlgjkbiaaGreatDoorQCDB2
set_option linter.unusedVariables false
set_option linter.unusedSimpArgs false
set_option maxHeartbeats 8000000
set_option maxRecDepth 100000
section
namespace Go.Proofs.YtmklpbmlgjkbiaaGreatDoor.PS
open Go.RowKit Go.Proofs.YtmklpbmlgjkbiaaGreatDoorW.PrintWords Go.Proofs.YtmklpbmlgjkbiaaGreatDoorW.PrintLast
attribute [local go_sem high] eqA37
theorem specOp_main (k r s t vk vn:Int) (w:World) (g0 u0 u1 u2 u3 vb:Bool)
    (hForm: ∀W,Calls Tryz.prog 38 #[.int .i64 k] W fun e w'=> ∃g c,e= .returned (.slice (some ⟨g,0,none⟩) 4 c)∧Below W.heap.size W w'∧W.heap.size≤g∧w'.cell? ⟨g,0,none⟩=some (.bool u0)∧w'.cell? ⟨g,1,none⟩=some (.bool u1)∧w'.cell? ⟨g,2,none⟩=some (.bool u2)∧w'.cell? ⟨g,3,none⟩=some (.bool u3))
    (hVal: ∀W,Calls Tryz.prog 67 #[.agg #[.int .i64 vk,.int .i64 vn]] W fun e w'=>e= .returned (.bool vb)∧Below W.heap.size W w') (c8:(k==8)=false) (c13:(k==13)=false) (hvb:Aside0 (vb=true)) (hg:Aside0 (g0=(((decide (0≤r∧r≤3)&&u0)||r==0)&&(((decide (0≤s∧s≤3)&&u1)||s==0)&&(((decide (0≤t∧t≤15)&&u2)||t==0)&&(u3||(vk==0&&(vn==0)))))))):
    Calls Tryz.prog 41 #[.agg #[.int .i64 k,.int .i64 r,.int .i64 s,.int .i64 t,.int .i64 vk,.int .i64 vn]] w fun e w'=>e= .returned (.bool g0)∧Below w.heap.size w w':=by
  have BK:Aside0 ((w.alloc (.cells #[.int .i64 k,.int .i64 r,.int .i64 s,.int .i64 t,.int .i64 vk,.int .i64 vn] 39)).heap[w.heap.size]?=some (.cells #[.int .i64 k,.int .i64 r,.int .i64 s,.int .i64 t,.int .i64 vk,.int .i64 vn] 39 (0,0))):=⟨blk_new _ _⟩;have HB:=aS (Below.refl w.heap.size w);have hu27:=Tryz.underlying37;have hu29:=Tryz.underlying39;obtain rfl:=hvb.out;clear hvb;go_enter Tryz.func41,Tryz.ntmps41
  go_wp2_with (first|(go_at_call 38;refine(hForm _).mono ?_;rintro e w' ⟨g,c,rfl,hb,hg,f0,f1,f2,f3⟩;have SZ:=aS (hb.size);have BK:=aS (blk_below (by exact blkU BK.out) hb);have HB:=aS (below_step (by exact bU HB.out) hb);have q0:w'.cell? ⟨w.heap.size,0,none⟩=some (.int .i64 k):=(blk_cell BK.out 0).trans rfl;have q1:w'.cell? ⟨w.heap.size,1,none⟩=some (.int .i64 r):=(blk_cell BK.out 1).trans rfl;have q2:w'.cell? ⟨w.heap.size,2,none⟩=some (.int .i64 s):=(blk_cell BK.out 2).trans rfl;have q3:w'.cell? ⟨w.heap.size,3,none⟩=some (.int .i64 t):=(blk_cell BK.out 3).trans rfl;have q4:w'.cell? ⟨w.heap.size,4,none⟩=some (.int .i64 vk):=(blk_cell BK.out 4).trans rfl;have q5:w'.cell? ⟨w.heap.size,5,none⟩=some (.int .i64 vn):=(blk_cell BK.out 5).trans rfl;have GS:=aS (cell_lt f0);have P0:=aS f0;have P1:=aS f1;have P2:=aS f2;have P3:=aS f3;clear hb hg)|(go_at_call 67;refine(hVal _).mono ?_;rintro e w'2 ⟨rfl,hb⟩;have P0:=aS ((hb.cell (p:=⟨g,0,none⟩) GS.out).trans P0.out);have P1:=aS ((hb.cell (p:=⟨g,1,none⟩) GS.out).trans P1.out);have P2:=aS ((hb.cell (p:=⟨g,2,none⟩) GS.out).trans P2.out);have P3:=aS ((hb.cell (p:=⟨g,3,none⟩) GS.out).trans P3.out);have BK:=aS (blk_below (by exact blkU BK.out) hb);have HB:=aS (below_step (by exact bU HB.out) hb);have q0:w'2.cell? ⟨w.heap.size,0,none⟩=some (.int .i64 k):=(blk_cell BK.out 0).trans rfl;have q1:w'2.cell? ⟨w.heap.size,1,none⟩=some (.int .i64 r):=(blk_cell BK.out 1).trans rfl;have q2:w'2.cell? ⟨w.heap.size,2,none⟩=some (.int .i64 s):=(blk_cell BK.out 2).trans rfl;have q3:w'2.cell? ⟨w.heap.size,3,none⟩=some (.int .i64 t):=(blk_cell BK.out 3).trans rfl;have q4:w'2.cell? ⟨w.heap.size,4,none⟩=some (.int .i64 vk):=(blk_cell BK.out 4).trans rfl;have q5:w'2.cell? ⟨w.heap.size,5,none⟩=some (.int .i64 vn):=(blk_cell BK.out 5).trans rfl;have f0:=P0.out;have f1:=P1.out;have f2:=P2.out;have f3:=P3.out;clear hb)|(go_at_call 43;refine(in2_any _ _ _ _).mono ?_;rintro e w' ⟨rfl,rfl⟩)|(go_at_call 68;refine(slot_any _ _).mono ?_;rintro e w' ⟨rfl,rfl⟩)|(go_at_call 69;refine(to_any _ _).mono ?_;rintro e w' ⟨rfl,rfl⟩))
  all_goals go_ret
  all_goals refine⟨?_,HB.out⟩
  all_goals(rw[hg.out];simp[*])
theorem specOp_8 (r s t vn:Int) (w:World) (g0 u0 u1 u2 u3 vb:Bool)
    (hForm: ∀W,Calls Tryz.prog 38 #[.int .i64 8] W fun e w'=> ∃g c,e= .returned (.slice (some ⟨g,0,none⟩) 4 c)∧Below W.heap.size W w'∧W.heap.size≤g∧w'.cell? ⟨g,0,none⟩=some (.bool u0)∧w'.cell? ⟨g,1,none⟩=some (.bool u1)∧w'.cell? ⟨g,2,none⟩=some (.bool u2)∧w'.cell? ⟨g,3,none⟩=some (.bool u3))
    (hVal: ∀W,Calls Tryz.prog 67 #[.agg #[.int .i64 1,.int .i64 vn]] W fun e w'=>e= .returned (.bool vb)∧Below W.heap.size W w') (hvn:1≤vn) (hvb:Aside0 (vb=true)) (hg:Aside0 (g0=(((decide (0≤r∧r≤3)&&u0)||r==0)&&(((decide (0≤s∧s≤3)&&u1)||s==0)&&(((decide (0≤t∧t≤15)&&u2)||t==0)&&(u3||((1:Int)==0&&(vn==0)))))))):
    Calls Tryz.prog 41 #[.agg #[.int .i64 8,.int .i64 r,.int .i64 s,.int .i64 t,.int .i64 1,.int .i64 vn]] w fun e w'=>e= .returned (.bool g0)∧Below w.heap.size w w':=by
  have BK:Aside0 ((w.alloc (.cells #[.int .i64 8,.int .i64 r,.int .i64 s,.int .i64 t,.int .i64 1,.int .i64 vn] 39)).heap[w.heap.size]?=some (.cells #[.int .i64 8,.int .i64 r,.int .i64 s,.int .i64 t,.int .i64 1,.int .i64 vn] 39 (0,0))):=⟨blk_new _ _⟩;have HB:=aS (Below.refl w.heap.size w);have hu27:=Tryz.underlying37;have hu29:=Tryz.underlying39;obtain rfl:=hvb.out;clear hvb;go_enter Tryz.func41,Tryz.ntmps41
  go_wp2_with (first|(go_at_call 38;refine(hForm _).mono ?_;rintro e w' ⟨g,c,rfl,hb,hg,f0,f1,f2,f3⟩;have SZ:=aS (hb.size);have BK:=aS (blk_below (by exact blkU BK.out) hb);have HB:=aS (below_step (by exact bU HB.out) hb);have q0:w'.cell? ⟨w.heap.size,0,none⟩=some (.int .i64 8):=(blk_cell BK.out 0).trans rfl;have q1:w'.cell? ⟨w.heap.size,1,none⟩=some (.int .i64 r):=(blk_cell BK.out 1).trans rfl;have q2:w'.cell? ⟨w.heap.size,2,none⟩=some (.int .i64 s):=(blk_cell BK.out 2).trans rfl;have q3:w'.cell? ⟨w.heap.size,3,none⟩=some (.int .i64 t):=(blk_cell BK.out 3).trans rfl;have q4:w'.cell? ⟨w.heap.size,4,none⟩=some (.int .i64 1):=(blk_cell BK.out 4).trans rfl;have q5:w'.cell? ⟨w.heap.size,5,none⟩=some (.int .i64 vn):=(blk_cell BK.out 5).trans rfl;have GS:=aS (cell_lt f0);have P0:=aS f0;have P1:=aS f1;have P2:=aS f2;have P3:=aS f3;clear hb hg)|(go_at_call 67;refine(hVal _).mono ?_;rintro e w'2 ⟨rfl,hb⟩;have P0:=aS ((hb.cell (p:=⟨g,0,none⟩) GS.out).trans P0.out);have P1:=aS ((hb.cell (p:=⟨g,1,none⟩) GS.out).trans P1.out);have P2:=aS ((hb.cell (p:=⟨g,2,none⟩) GS.out).trans P2.out);have P3:=aS ((hb.cell (p:=⟨g,3,none⟩) GS.out).trans P3.out);have BK:=aS (blk_below (by exact blkU BK.out) hb);have HB:=aS (below_step (by exact bU HB.out) hb);have q0:w'2.cell? ⟨w.heap.size,0,none⟩=some (.int .i64 8):=(blk_cell BK.out 0).trans rfl;have q1:w'2.cell? ⟨w.heap.size,1,none⟩=some (.int .i64 r):=(blk_cell BK.out 1).trans rfl;have q2:w'2.cell? ⟨w.heap.size,2,none⟩=some (.int .i64 s):=(blk_cell BK.out 2).trans rfl;have q3:w'2.cell? ⟨w.heap.size,3,none⟩=some (.int .i64 t):=(blk_cell BK.out 3).trans rfl;have q4:w'2.cell? ⟨w.heap.size,4,none⟩=some (.int .i64 1):=(blk_cell BK.out 4).trans rfl;have q5:w'2.cell? ⟨w.heap.size,5,none⟩=some (.int .i64 vn):=(blk_cell BK.out 5).trans rfl;have f0:=P0.out;have f1:=P1.out;have f2:=P2.out;have f3:=P3.out;clear hb)|(go_at_call 43;refine(in2_any _ _ _ _).mono ?_;rintro e w' ⟨rfl,rfl⟩)|(go_at_call 68;refine(slot_any _ _).mono ?_;rintro e w' ⟨rfl,rfl⟩)|(go_at_call 69;refine(to_any _ _).mono ?_;rintro e w' ⟨rfl,rfl⟩))
  all_goals go_ret
  all_goals refine⟨?_,HB.out⟩
  all_goals(rw[hg.out];simp[*])
theorem specOp_13 (r s t vn:Int) (w:World) (g0 u0 u1 u2 u3 vb:Bool)
    (hForm: ∀W,Calls Tryz.prog 38 #[.int .i64 13] W fun e w'=> ∃g c,e= .returned (.slice (some ⟨g,0,none⟩) 4 c)∧Below W.heap.size W w'∧W.heap.size≤g∧w'.cell? ⟨g,0,none⟩=some (.bool u0)∧w'.cell? ⟨g,1,none⟩=some (.bool u1)∧w'.cell? ⟨g,2,none⟩=some (.bool u2)∧w'.cell? ⟨g,3,none⟩=some (.bool u3))
    (hVal: ∀W,Calls Tryz.prog 67 #[.agg #[.int .i64 1,.int .i64 vn]] W fun e w'=>e= .returned (.bool vb)∧Below W.heap.size W w') (hvn:0≤vn) (hvn':vn≤1) (hvb:Aside0 (vb=true)) (hg:Aside0 (g0=(((decide (0≤r∧r≤3)&&u0)||r==0)&&(((decide (0≤s∧s≤3)&&u1)||s==0)&&(((decide (0≤t∧t≤15)&&u2)||t==0)&&(u3||((1:Int)==0&&(vn==0)))))))):
    Calls Tryz.prog 41 #[.agg #[.int .i64 13,.int .i64 r,.int .i64 s,.int .i64 t,.int .i64 1,.int .i64 vn]] w fun e w'=>e= .returned (.bool g0)∧Below w.heap.size w w':=by
  have BK:Aside0 ((w.alloc (.cells #[.int .i64 13,.int .i64 r,.int .i64 s,.int .i64 t,.int .i64 1,.int .i64 vn] 39)).heap[w.heap.size]?=some (.cells #[.int .i64 13,.int .i64 r,.int .i64 s,.int .i64 t,.int .i64 1,.int .i64 vn] 39 (0,0))):=⟨blk_new _ _⟩;have HB:=aS (Below.refl w.heap.size w);have hu27:=Tryz.underlying37;have hu29:=Tryz.underlying39;obtain rfl:=hvb.out;clear hvb;go_enter Tryz.func41,Tryz.ntmps41
  go_wp2_with (first|(go_at_call 38;refine(hForm _).mono ?_;rintro e w' ⟨g,c,rfl,hb,hg,f0,f1,f2,f3⟩;have SZ:=aS (hb.size);have BK:=aS (blk_below (by exact blkU BK.out) hb);have HB:=aS (below_step (by exact bU HB.out) hb);have q0:w'.cell? ⟨w.heap.size,0,none⟩=some (.int .i64 13):=(blk_cell BK.out 0).trans rfl;have q1:w'.cell? ⟨w.heap.size,1,none⟩=some (.int .i64 r):=(blk_cell BK.out 1).trans rfl;have q2:w'.cell? ⟨w.heap.size,2,none⟩=some (.int .i64 s):=(blk_cell BK.out 2).trans rfl;have q3:w'.cell? ⟨w.heap.size,3,none⟩=some (.int .i64 t):=(blk_cell BK.out 3).trans rfl;have q4:w'.cell? ⟨w.heap.size,4,none⟩=some (.int .i64 1):=(blk_cell BK.out 4).trans rfl;have q5:w'.cell? ⟨w.heap.size,5,none⟩=some (.int .i64 vn):=(blk_cell BK.out 5).trans rfl;have GS:=aS (cell_lt f0);have P0:=aS f0;have P1:=aS f1;have P2:=aS f2;have P3:=aS f3;clear hb hg)|(go_at_call 67;refine(hVal _).mono ?_;rintro e w'2 ⟨rfl,hb⟩;have P0:=aS ((hb.cell (p:=⟨g,0,none⟩) GS.out).trans P0.out);have P1:=aS ((hb.cell (p:=⟨g,1,none⟩) GS.out).trans P1.out);have P2:=aS ((hb.cell (p:=⟨g,2,none⟩) GS.out).trans P2.out);have P3:=aS ((hb.cell (p:=⟨g,3,none⟩) GS.out).trans P3.out);have BK:=aS (blk_below (by exact blkU BK.out) hb);have HB:=aS (below_step (by exact bU HB.out) hb);have q0:w'2.cell? ⟨w.heap.size,0,none⟩=some (.int .i64 13):=(blk_cell BK.out 0).trans rfl;have q1:w'2.cell? ⟨w.heap.size,1,none⟩=some (.int .i64 r):=(blk_cell BK.out 1).trans rfl;have q2:w'2.cell? ⟨w.heap.size,2,none⟩=some (.int .i64 s):=(blk_cell BK.out 2).trans rfl;have q3:w'2.cell? ⟨w.heap.size,3,none⟩=some (.int .i64 t):=(blk_cell BK.out 3).trans rfl;have q4:w'2.cell? ⟨w.heap.size,4,none⟩=some (.int .i64 1):=(blk_cell BK.out 4).trans rfl;have q5:w'2.cell? ⟨w.heap.size,5,none⟩=some (.int .i64 vn):=(blk_cell BK.out 5).trans rfl;have f0:=P0.out;have f1:=P1.out;have f2:=P2.out;have f3:=P3.out;clear hb)|(go_at_call 43;refine(in2_any _ _ _ _).mono ?_;rintro e w' ⟨rfl,rfl⟩)|(go_at_call 68;refine(slot_any _ _).mono ?_;rintro e w' ⟨rfl,rfl⟩)|(go_at_call 69;refine(to_any _ _).mono ?_;rintro e w' ⟨rfl,rfl⟩))
  all_goals go_ret
  all_goals refine⟨?_,HB.out⟩
  all_goals(rw[hg.out];simp[*])
theorem specOp_bad (k r s t vk vn:Int) (w:World) (g0 u0 u1 u2 u3 vb:Bool)
    (hForm: ∀W,Calls Tryz.prog 38 #[.int .i64 k] W fun e w'=> ∃g c,e= .returned (.slice (some ⟨g,0,none⟩) 4 c)∧Below W.heap.size W w'∧W.heap.size≤g∧w'.cell? ⟨g,0,none⟩=some (.bool u0)∧w'.cell? ⟨g,1,none⟩=some (.bool u1)∧w'.cell? ⟨g,2,none⟩=some (.bool u2)∧w'.cell? ⟨g,3,none⟩=some (.bool u3))
    (hVal: ∀W,Calls Tryz.prog 67 #[.agg #[.int .i64 vk,.int .i64 vn]] W fun e w'=>e= .returned (.bool vb)∧Below W.heap.size W w') (hvb:Aside0 (vb=false)) (hg:Aside0 (g0=false)):
    Calls Tryz.prog 41 #[.agg #[.int .i64 k,.int .i64 r,.int .i64 s,.int .i64 t,.int .i64 vk,.int .i64 vn]] w fun e w'=>e= .returned (.bool g0)∧Below w.heap.size w w':=by
  have BK:Aside0 ((w.alloc (.cells #[.int .i64 k,.int .i64 r,.int .i64 s,.int .i64 t,.int .i64 vk,.int .i64 vn] 39)).heap[w.heap.size]?=some (.cells #[.int .i64 k,.int .i64 r,.int .i64 s,.int .i64 t,.int .i64 vk,.int .i64 vn] 39 (0,0))):=⟨blk_new _ _⟩;have HB:=aS (Below.refl w.heap.size w);have hu27:=Tryz.underlying37;have hu29:=Tryz.underlying39;obtain rfl:=hvb.out;clear hvb;obtain rfl:=hg.out;clear hg;go_enter Tryz.func41,Tryz.ntmps41
  go_wp2_with (first|(go_at_call 38;refine(hForm _).mono ?_;rintro e w' ⟨g,c,rfl,hb,hg,f0,f1,f2,f3⟩;have SZ:=aS (hb.size);have BK:=aS (blk_below (by exact blkU BK.out) hb);have HB:=aS (below_step (by exact bU HB.out) hb);have q0:w'.cell? ⟨w.heap.size,0,none⟩=some (.int .i64 k):=(blk_cell BK.out 0).trans rfl;have q1:w'.cell? ⟨w.heap.size,1,none⟩=some (.int .i64 r):=(blk_cell BK.out 1).trans rfl;have q2:w'.cell? ⟨w.heap.size,2,none⟩=some (.int .i64 s):=(blk_cell BK.out 2).trans rfl;have q3:w'.cell? ⟨w.heap.size,3,none⟩=some (.int .i64 t):=(blk_cell BK.out 3).trans rfl;have q4:w'.cell? ⟨w.heap.size,4,none⟩=some (.int .i64 vk):=(blk_cell BK.out 4).trans rfl;have q5:w'.cell? ⟨w.heap.size,5,none⟩=some (.int .i64 vn):=(blk_cell BK.out 5).trans rfl;have GS:=aS (cell_lt f0);have P0:=aS f0;have P1:=aS f1;have P2:=aS f2;have P3:=aS f3;clear hb hg)|(go_at_call 67;refine(hVal _).mono ?_;rintro e w'2 ⟨rfl,hb⟩;have P0:=aS ((hb.cell (p:=⟨g,0,none⟩) GS.out).trans P0.out);have P1:=aS ((hb.cell (p:=⟨g,1,none⟩) GS.out).trans P1.out);have P2:=aS ((hb.cell (p:=⟨g,2,none⟩) GS.out).trans P2.out);have P3:=aS ((hb.cell (p:=⟨g,3,none⟩) GS.out).trans P3.out);have BK:=aS (blk_below (by exact blkU BK.out) hb);have HB:=aS (below_step (by exact bU HB.out) hb);have q0:w'2.cell? ⟨w.heap.size,0,none⟩=some (.int .i64 k):=(blk_cell BK.out 0).trans rfl;have q1:w'2.cell? ⟨w.heap.size,1,none⟩=some (.int .i64 r):=(blk_cell BK.out 1).trans rfl;have q2:w'2.cell? ⟨w.heap.size,2,none⟩=some (.int .i64 s):=(blk_cell BK.out 2).trans rfl;have q3:w'2.cell? ⟨w.heap.size,3,none⟩=some (.int .i64 t):=(blk_cell BK.out 3).trans rfl;have q4:w'2.cell? ⟨w.heap.size,4,none⟩=some (.int .i64 vk):=(blk_cell BK.out 4).trans rfl;have q5:w'2.cell? ⟨w.heap.size,5,none⟩=some (.int .i64 vn):=(blk_cell BK.out 5).trans rfl;have f0:=P0.out;have f1:=P1.out;have f2:=P2.out;have f3:=P3.out;clear hb)|(go_at_call 43;refine(in2_any _ _ _ _).mono ?_;rintro e w' ⟨rfl,rfl⟩)|(go_at_call 68;refine(slot_any _ _).mono ?_;rintro e w' ⟨rfl,rfl⟩)|(go_at_call 69;refine(to_any _ _).mono ?_;rintro e w' ⟨rfl,rfl⟩))
  all_goals go_ret
  all_goals exact⟨rfl,HB.out⟩
theorem specOp_8k (r s t vk vn:Int) (w:World) (g0 u0 u1 u2 u3 vb:Bool)
    (hForm: ∀W,Calls Tryz.prog 38 #[.int .i64 8] W fun e w'=> ∃g c,e= .returned (.slice (some ⟨g,0,none⟩) 4 c)∧Below W.heap.size W w'∧W.heap.size≤g∧w'.cell? ⟨g,0,none⟩=some (.bool u0)∧w'.cell? ⟨g,1,none⟩=some (.bool u1)∧w'.cell? ⟨g,2,none⟩=some (.bool u2)∧w'.cell? ⟨g,3,none⟩=some (.bool u3))
    (hVal: ∀W,Calls Tryz.prog 67 #[.agg #[.int .i64 vk,.int .i64 vn]] W fun e w'=>e= .returned (.bool vb)∧Below W.heap.size W w') (hvk:(vk==1)=false) (hvk2:(vk !=1)=true) (hvb:Aside0 (vb=true)) (hg:Aside0 (g0=false)):
    Calls Tryz.prog 41 #[.agg #[.int .i64 8,.int .i64 r,.int .i64 s,.int .i64 t,.int .i64 vk,.int .i64 vn]] w fun e w'=>e= .returned (.bool g0)∧Below w.heap.size w w':=by
  have BK:Aside0 ((w.alloc (.cells #[.int .i64 8,.int .i64 r,.int .i64 s,.int .i64 t,.int .i64 vk,.int .i64 vn] 39)).heap[w.heap.size]?=some (.cells #[.int .i64 8,.int .i64 r,.int .i64 s,.int .i64 t,.int .i64 vk,.int .i64 vn] 39 (0,0))):=⟨blk_new _ _⟩;have HB:=aS (Below.refl w.heap.size w);have hu27:=Tryz.underlying37;have hu29:=Tryz.underlying39;obtain rfl:=hvb.out;clear hvb;obtain rfl:=hg.out;clear hg;go_enter Tryz.func41,Tryz.ntmps41
  go_wp2_with (first|(go_at_call 38;refine(hForm _).mono ?_;rintro e w' ⟨g,c,rfl,hb,hg,f0,f1,f2,f3⟩;have SZ:=aS (hb.size);have BK:=aS (blk_below (by exact blkU BK.out) hb);have HB:=aS (below_step (by exact bU HB.out) hb);have q0:w'.cell? ⟨w.heap.size,0,none⟩=some (.int .i64 8):=(blk_cell BK.out 0).trans rfl;have q1:w'.cell? ⟨w.heap.size,1,none⟩=some (.int .i64 r):=(blk_cell BK.out 1).trans rfl;have q2:w'.cell? ⟨w.heap.size,2,none⟩=some (.int .i64 s):=(blk_cell BK.out 2).trans rfl;have q3:w'.cell? ⟨w.heap.size,3,none⟩=some (.int .i64 t):=(blk_cell BK.out 3).trans rfl;have q4:w'.cell? ⟨w.heap.size,4,none⟩=some (.int .i64 vk):=(blk_cell BK.out 4).trans rfl;have q5:w'.cell? ⟨w.heap.size,5,none⟩=some (.int .i64 vn):=(blk_cell BK.out 5).trans rfl;have GS:=aS (cell_lt f0);have P0:=aS f0;have P1:=aS f1;have P2:=aS f2;have P3:=aS f3;clear hb hg)|(go_at_call 67;refine(hVal _).mono ?_;rintro e w'2 ⟨rfl,hb⟩;have P0:=aS ((hb.cell (p:=⟨g,0,none⟩) GS.out).trans P0.out);have P1:=aS ((hb.cell (p:=⟨g,1,none⟩) GS.out).trans P1.out);have P2:=aS ((hb.cell (p:=⟨g,2,none⟩) GS.out).trans P2.out);have P3:=aS ((hb.cell (p:=⟨g,3,none⟩) GS.out).trans P3.out);have BK:=aS (blk_below (by exact blkU BK.out) hb);have HB:=aS (below_step (by exact bU HB.out) hb);have q0:w'2.cell? ⟨w.heap.size,0,none⟩=some (.int .i64 8):=(blk_cell BK.out 0).trans rfl;have q1:w'2.cell? ⟨w.heap.size,1,none⟩=some (.int .i64 r):=(blk_cell BK.out 1).trans rfl;have q2:w'2.cell? ⟨w.heap.size,2,none⟩=some (.int .i64 s):=(blk_cell BK.out 2).trans rfl;have q3:w'2.cell? ⟨w.heap.size,3,none⟩=some (.int .i64 t):=(blk_cell BK.out 3).trans rfl;have q4:w'2.cell? ⟨w.heap.size,4,none⟩=some (.int .i64 vk):=(blk_cell BK.out 4).trans rfl;have q5:w'2.cell? ⟨w.heap.size,5,none⟩=some (.int .i64 vn):=(blk_cell BK.out 5).trans rfl;have f0:=P0.out;have f1:=P1.out;have f2:=P2.out;have f3:=P3.out;clear hb)|(go_at_call 43;refine(in2_any _ _ _ _).mono ?_;rintro e w' ⟨rfl,rfl⟩)|(go_at_call 68;refine(slot_any _ _).mono ?_;rintro e w' ⟨rfl,rfl⟩)|(go_at_call 69;refine(to_any _ _).mono ?_;rintro e w' ⟨rfl,rfl⟩))
  all_goals go_ret
  all_goals exact⟨rfl,HB.out⟩
theorem specOp_8n (r s t vn:Int) (w:World) (g0 u0 u1 u2 u3 vb:Bool)
    (hForm: ∀W,Calls Tryz.prog 38 #[.int .i64 8] W fun e w'=> ∃g c,e= .returned (.slice (some ⟨g,0,none⟩) 4 c)∧Below W.heap.size W w'∧W.heap.size≤g∧w'.cell? ⟨g,0,none⟩=some (.bool u0)∧w'.cell? ⟨g,1,none⟩=some (.bool u1)∧w'.cell? ⟨g,2,none⟩=some (.bool u2)∧w'.cell? ⟨g,3,none⟩=some (.bool u3))
    (hVal: ∀W,Calls Tryz.prog 67 #[.agg #[.int .i64 1,.int .i64 vn]] W fun e w'=>e= .returned (.bool vb)∧Below W.heap.size W w') (hvn:vn<1) (hvn2:decide (vn<1)=true) (hvb:Aside0 (vb=true)) (hg:Aside0 (g0=false)):
    Calls Tryz.prog 41 #[.agg #[.int .i64 8,.int .i64 r,.int .i64 s,.int .i64 t,.int .i64 1,.int .i64 vn]] w fun e w'=>e= .returned (.bool g0)∧Below w.heap.size w w':=by
  have BK:Aside0 ((w.alloc (.cells #[.int .i64 8,.int .i64 r,.int .i64 s,.int .i64 t,.int .i64 1,.int .i64 vn] 39)).heap[w.heap.size]?=some (.cells #[.int .i64 8,.int .i64 r,.int .i64 s,.int .i64 t,.int .i64 1,.int .i64 vn] 39 (0,0))):=⟨blk_new _ _⟩;have HB:=aS (Below.refl w.heap.size w);have hu27:=Tryz.underlying37;have hu29:=Tryz.underlying39;obtain rfl:=hvb.out;clear hvb;obtain rfl:=hg.out;clear hg;go_enter Tryz.func41,Tryz.ntmps41
  go_wp2_with (first|(go_at_call 38;refine(hForm _).mono ?_;rintro e w' ⟨g,c,rfl,hb,hg,f0,f1,f2,f3⟩;have SZ:=aS (hb.size);have BK:=aS (blk_below (by exact blkU BK.out) hb);have HB:=aS (below_step (by exact bU HB.out) hb);have q0:w'.cell? ⟨w.heap.size,0,none⟩=some (.int .i64 8):=(blk_cell BK.out 0).trans rfl;have q1:w'.cell? ⟨w.heap.size,1,none⟩=some (.int .i64 r):=(blk_cell BK.out 1).trans rfl;have q2:w'.cell? ⟨w.heap.size,2,none⟩=some (.int .i64 s):=(blk_cell BK.out 2).trans rfl;have q3:w'.cell? ⟨w.heap.size,3,none⟩=some (.int .i64 t):=(blk_cell BK.out 3).trans rfl;have q4:w'.cell? ⟨w.heap.size,4,none⟩=some (.int .i64 1):=(blk_cell BK.out 4).trans rfl;have q5:w'.cell? ⟨w.heap.size,5,none⟩=some (.int .i64 vn):=(blk_cell BK.out 5).trans rfl;have GS:=aS (cell_lt f0);have P0:=aS f0;have P1:=aS f1;have P2:=aS f2;have P3:=aS f3;clear hb hg)|(go_at_call 67;refine(hVal _).mono ?_;rintro e w'2 ⟨rfl,hb⟩;have P0:=aS ((hb.cell (p:=⟨g,0,none⟩) GS.out).trans P0.out);have P1:=aS ((hb.cell (p:=⟨g,1,none⟩) GS.out).trans P1.out);have P2:=aS ((hb.cell (p:=⟨g,2,none⟩) GS.out).trans P2.out);have P3:=aS ((hb.cell (p:=⟨g,3,none⟩) GS.out).trans P3.out);have BK:=aS (blk_below (by exact blkU BK.out) hb);have HB:=aS (below_step (by exact bU HB.out) hb);have q0:w'2.cell? ⟨w.heap.size,0,none⟩=some (.int .i64 8):=(blk_cell BK.out 0).trans rfl;have q1:w'2.cell? ⟨w.heap.size,1,none⟩=some (.int .i64 r):=(blk_cell BK.out 1).trans rfl;have q2:w'2.cell? ⟨w.heap.size,2,none⟩=some (.int .i64 s):=(blk_cell BK.out 2).trans rfl;have q3:w'2.cell? ⟨w.heap.size,3,none⟩=some (.int .i64 t):=(blk_cell BK.out 3).trans rfl;have q4:w'2.cell? ⟨w.heap.size,4,none⟩=some (.int .i64 1):=(blk_cell BK.out 4).trans rfl;have q5:w'2.cell? ⟨w.heap.size,5,none⟩=some (.int .i64 vn):=(blk_cell BK.out 5).trans rfl;have f0:=P0.out;have f1:=P1.out;have f2:=P2.out;have f3:=P3.out;clear hb)|(go_at_call 43;refine(in2_any _ _ _ _).mono ?_;rintro e w' ⟨rfl,rfl⟩)|(go_at_call 68;refine(slot_any _ _).mono ?_;rintro e w' ⟨rfl,rfl⟩)|(go_at_call 69;refine(to_any _ _).mono ?_;rintro e w' ⟨rfl,rfl⟩))
  all_goals go_ret
  all_goals exact⟨rfl,HB.out⟩
theorem specOp_13k (r s t vk vn:Int) (w:World) (g0 u0 u1 u2 u3 vb:Bool)
    (hForm: ∀W,Calls Tryz.prog 38 #[.int .i64 13] W fun e w'=> ∃g c,e= .returned (.slice (some ⟨g,0,none⟩) 4 c)∧Below W.heap.size W w'∧W.heap.size≤g∧w'.cell? ⟨g,0,none⟩=some (.bool u0)∧w'.cell? ⟨g,1,none⟩=some (.bool u1)∧w'.cell? ⟨g,2,none⟩=some (.bool u2)∧w'.cell? ⟨g,3,none⟩=some (.bool u3))
    (hVal: ∀W,Calls Tryz.prog 67 #[.agg #[.int .i64 vk,.int .i64 vn]] W fun e w'=>e= .returned (.bool vb)∧Below W.heap.size W w') (hvk:(vk==1)=false) (hvk2:(vk !=1)=true) (hvb:Aside0 (vb=true)) (hg:Aside0 (g0=false)):
    Calls Tryz.prog 41 #[.agg #[.int .i64 13,.int .i64 r,.int .i64 s,.int .i64 t,.int .i64 vk,.int .i64 vn]] w fun e w'=>e= .returned (.bool g0)∧Below w.heap.size w w':=by
  have BK:Aside0 ((w.alloc (.cells #[.int .i64 13,.int .i64 r,.int .i64 s,.int .i64 t,.int .i64 vk,.int .i64 vn] 39)).heap[w.heap.size]?=some (.cells #[.int .i64 13,.int .i64 r,.int .i64 s,.int .i64 t,.int .i64 vk,.int .i64 vn] 39 (0,0))):=⟨blk_new _ _⟩;have HB:=aS (Below.refl w.heap.size w);have hu27:=Tryz.underlying37;have hu29:=Tryz.underlying39;obtain rfl:=hvb.out;clear hvb;obtain rfl:=hg.out;clear hg;go_enter Tryz.func41,Tryz.ntmps41
  go_wp2_with (first|(go_at_call 38;refine(hForm _).mono ?_;rintro e w' ⟨g,c,rfl,hb,hg,f0,f1,f2,f3⟩;have SZ:=aS (hb.size);have BK:=aS (blk_below (by exact blkU BK.out) hb);have HB:=aS (below_step (by exact bU HB.out) hb);have q0:w'.cell? ⟨w.heap.size,0,none⟩=some (.int .i64 13):=(blk_cell BK.out 0).trans rfl;have q1:w'.cell? ⟨w.heap.size,1,none⟩=some (.int .i64 r):=(blk_cell BK.out 1).trans rfl;have q2:w'.cell? ⟨w.heap.size,2,none⟩=some (.int .i64 s):=(blk_cell BK.out 2).trans rfl;have q3:w'.cell? ⟨w.heap.size,3,none⟩=some (.int .i64 t):=(blk_cell BK.out 3).trans rfl;have q4:w'.cell? ⟨w.heap.size,4,none⟩=some (.int .i64 vk):=(blk_cell BK.out 4).trans rfl;have q5:w'.cell? ⟨w.heap.size,5,none⟩=some (.int .i64 vn):=(blk_cell BK.out 5).trans rfl;have GS:=aS (cell_lt f0);have P0:=aS f0;have P1:=aS f1;have P2:=aS f2;have P3:=aS f3;clear hb hg)|(go_at_call 67;refine(hVal _).mono ?_;rintro e w'2 ⟨rfl,hb⟩;have P0:=aS ((hb.cell (p:=⟨g,0,none⟩) GS.out).trans P0.out);have P1:=aS ((hb.cell (p:=⟨g,1,none⟩) GS.out).trans P1.out);have P2:=aS ((hb.cell (p:=⟨g,2,none⟩) GS.out).trans P2.out);have P3:=aS ((hb.cell (p:=⟨g,3,none⟩) GS.out).trans P3.out);have BK:=aS (blk_below (by exact blkU BK.out) hb);have HB:=aS (below_step (by exact bU HB.out) hb);have q0:w'2.cell? ⟨w.heap.size,0,none⟩=some (.int .i64 13):=(blk_cell BK.out 0).trans rfl;have q1:w'2.cell? ⟨w.heap.size,1,none⟩=some (.int .i64 r):=(blk_cell BK.out 1).trans rfl;have q2:w'2.cell? ⟨w.heap.size,2,none⟩=some (.int .i64 s):=(blk_cell BK.out 2).trans rfl;have q3:w'2.cell? ⟨w.heap.size,3,none⟩=some (.int .i64 t):=(blk_cell BK.out 3).trans rfl;have q4:w'2.cell? ⟨w.heap.size,4,none⟩=some (.int .i64 vk):=(blk_cell BK.out 4).trans rfl;have q5:w'2.cell? ⟨w.heap.size,5,none⟩=some (.int .i64 vn):=(blk_cell BK.out 5).trans rfl;have f0:=P0.out;have f1:=P1.out;have f2:=P2.out;have f3:=P3.out;clear hb)|(go_at_call 43;refine(in2_any _ _ _ _).mono ?_;rintro e w' ⟨rfl,rfl⟩)|(go_at_call 68;refine(slot_any _ _).mono ?_;rintro e w' ⟨rfl,rfl⟩)|(go_at_call 69;refine(to_any _ _).mono ?_;rintro e w' ⟨rfl,rfl⟩))
  all_goals go_ret
  all_goals exact⟨rfl,HB.out⟩
theorem specOp_13n (r s t vn:Int) (w:World) (g0 u0 u1 u2 u3 vb:Bool)
    (hForm: ∀W,Calls Tryz.prog 38 #[.int .i64 13] W fun e w'=> ∃g c,e= .returned (.slice (some ⟨g,0,none⟩) 4 c)∧Below W.heap.size W w'∧W.heap.size≤g∧w'.cell? ⟨g,0,none⟩=some (.bool u0)∧w'.cell? ⟨g,1,none⟩=some (.bool u1)∧w'.cell? ⟨g,2,none⟩=some (.bool u2)∧w'.cell? ⟨g,3,none⟩=some (.bool u3))
    (hVal: ∀W,Calls Tryz.prog 67 #[.agg #[.int .i64 1,.int .i64 vn]] W fun e w'=>e= .returned (.bool vb)∧Below W.heap.size W w') (hvn:Aside0 (decide (0≤vn∧vn≤1)=false)) (hvb:Aside0 (vb=true)) (hg:Aside0 (g0=false)):
    Calls Tryz.prog 41 #[.agg #[.int .i64 13,.int .i64 r,.int .i64 s,.int .i64 t,.int .i64 1,.int .i64 vn]] w fun e w'=>e= .returned (.bool g0)∧Below w.heap.size w w':=by
  have BK:Aside0 ((w.alloc (.cells #[.int .i64 13,.int .i64 r,.int .i64 s,.int .i64 t,.int .i64 1,.int .i64 vn] 39)).heap[w.heap.size]?=some (.cells #[.int .i64 13,.int .i64 r,.int .i64 s,.int .i64 t,.int .i64 1,.int .i64 vn] 39 (0,0))):=⟨blk_new _ _⟩;have HB:=aS (Below.refl w.heap.size w);have hu27:=Tryz.underlying37;have hu29:=Tryz.underlying39;obtain rfl:=hvb.out;clear hvb;obtain rfl:=hg.out;clear hg;go_enter Tryz.func41,Tryz.ntmps41
  go_wp2_with (first|(go_at_call 38;refine(hForm _).mono ?_;rintro e w' ⟨g,c,rfl,hb,hg,f0,f1,f2,f3⟩;have SZ:=aS (hb.size);have BK:=aS (blk_below (by exact blkU BK.out) hb);have HB:=aS (below_step (by exact bU HB.out) hb);have q0:w'.cell? ⟨w.heap.size,0,none⟩=some (.int .i64 13):=(blk_cell BK.out 0).trans rfl;have q1:w'.cell? ⟨w.heap.size,1,none⟩=some (.int .i64 r):=(blk_cell BK.out 1).trans rfl;have q2:w'.cell? ⟨w.heap.size,2,none⟩=some (.int .i64 s):=(blk_cell BK.out 2).trans rfl;have q3:w'.cell? ⟨w.heap.size,3,none⟩=some (.int .i64 t):=(blk_cell BK.out 3).trans rfl;have q4:w'.cell? ⟨w.heap.size,4,none⟩=some (.int .i64 1):=(blk_cell BK.out 4).trans rfl;have q5:w'.cell? ⟨w.heap.size,5,none⟩=some (.int .i64 vn):=(blk_cell BK.out 5).trans rfl;have GS:=aS (cell_lt f0);have P0:=aS f0;have P1:=aS f1;have P2:=aS f2;have P3:=aS f3;clear hb hg)|(go_at_call 67;refine(hVal _).mono ?_;rintro e w'2 ⟨rfl,hb⟩;have P0:=aS ((hb.cell (p:=⟨g,0,none⟩) GS.out).trans P0.out);have P1:=aS ((hb.cell (p:=⟨g,1,none⟩) GS.out).trans P1.out);have P2:=aS ((hb.cell (p:=⟨g,2,none⟩) GS.out).trans P2.out);have P3:=aS ((hb.cell (p:=⟨g,3,none⟩) GS.out).trans P3.out);have BK:=aS (blk_below (by exact blkU BK.out) hb);have HB:=aS (below_step (by exact bU HB.out) hb);have q0:w'2.cell? ⟨w.heap.size,0,none⟩=some (.int .i64 13):=(blk_cell BK.out 0).trans rfl;have q1:w'2.cell? ⟨w.heap.size,1,none⟩=some (.int .i64 r):=(blk_cell BK.out 1).trans rfl;have q2:w'2.cell? ⟨w.heap.size,2,none⟩=some (.int .i64 s):=(blk_cell BK.out 2).trans rfl;have q3:w'2.cell? ⟨w.heap.size,3,none⟩=some (.int .i64 t):=(blk_cell BK.out 3).trans rfl;have q4:w'2.cell? ⟨w.heap.size,4,none⟩=some (.int .i64 1):=(blk_cell BK.out 4).trans rfl;have q5:w'2.cell? ⟨w.heap.size,5,none⟩=some (.int .i64 vn):=(blk_cell BK.out 5).trans rfl;have f0:=P0.out;have f1:=P1.out;have f2:=P2.out;have f3:=P3.out;clear hb)|(go_at_call 43;refine(in2_any _ _ _ _).mono ?_;rintro e w' ⟨rfl,rfl⟩;rw[hvn.out])|(go_at_call 68;refine(slot_any _ _).mono ?_;rintro e w' ⟨rfl,rfl⟩)|(go_at_call 69;refine(to_any _ _).mono ?_;rintro e w' ⟨rfl,rfl⟩))
  all_goals go_ret
  all_goals exact⟨rfl,HB.out⟩
end Go.Proofs.YtmklpbmlgjkbiaaGreatDoor.PS
end
section
namespace Go.Proofs.YtmklpbmlgjkbiaaGreatDoor.PS
open Go.RowKit Go.Proofs.YtmklpbmlgjkbiaaGreatDoorW.PrintWords Go.Proofs.YtmklpbmlgjkbiaaGreatDoorW.PrintLast
theorem form_eq (k:Int):spec_l2Form.f 3 k=some (formL k):=by
  refine kinds (P:=fun k=>spec_l2Form.f 3 k=some (formL k)) (fun k hk=> ?_) (by decide) (by decide) (by decide) (by decide) (by decide) (by decide) (by decide) (by decide) (by decide) (by decide) (by decide) (by decide) (by decide) (by decide) k
  unfold formL;rw[if_neg hk];have h1:k≠1:=by omega
  have h2:k≠2:=by omega
  have h3:k≠3:=by omega
  have h4:k≠4:=by omega
  have h5:k≠5:=by omega
  have h6:k≠6:=by omega
  have h7:k≠7:=by omega
  have h8:k≠8:=by omega
  have h9:k≠9:=by omega
  have h10:k≠10:=by omega
  have h11:k≠11:=by omega
  have h12:k≠12:=by omega
  have h13:k≠13:=by omega
  have h14:k≠14:=by omega
  simp[spec_l2Form.f,spec_l2Form.j0,spec_l2Form.j1,h1,h2,h3,h4,h5,h6,h7,h8,h9,h10,h11,h12,h13,h14]
theorem form_calls {k:Int} (hk:1≤k∧k≤14) (W:World):Calls Tryz.prog 38 #[.int .i64 k] W fun e w'=> ∃g c,e= .returned (.slice (some ⟨g,0,none⟩) 4 c)∧Below W.heap.size W w'∧W.heap.size≤g∧w'.cell? ⟨g,0,none⟩=some (.bool (hasR k))∧w'.cell? ⟨g,1,none⟩=some (.bool (hasS k))∧w'.cell? ⟨g,2,none⟩=some (.bool (hasT k))∧w'.cell? ⟨g,3,none⟩=some (.bool (hasV k)):=by
  refine(spec_l2Form.calls 3 k (formL k) W (form_eq k)).mono ?_
  rintro e w' ⟨v,rfl,hR,hb⟩
  have:formL k=[hasR k,hasS k,hasT k,hasV k]:=if_pos hk;rw[this]at hR
  obtain⟨g,c,rfl,hg,q0,q1,q2,q3⟩:=own4 hR;exact⟨g,c,rfl,hb,hg,q0,q1,q2,q3⟩
theorem sok_eq (k n:Int):spec_ValOk.f k n=some (okB k n):=by
  unfold spec_ValOk.f spec_l6In.f okB okP;by_cases h0:k=0
  · subst h0;by_cases hn:n=0<;>simp[hn]
  rw[if_neg h0];by_cases h1:k=1
  · subst h1;by_cases a:n≥ -99<;>simp[a]<;>omega
  rw[if_neg h1];by_cases h2:k=2
  · subst h2;by_cases a:n≥0<;>simp[a]<;>omega
  rw[if_neg h2];by_cases h3:k=3
  · subst h3;by_cases a:n≥1<;>simp[a]<;>omega
  rw[if_neg h3];simp[h0,h1,h2,h3]
theorem opB_form (k r s t vk vn:Int) (hk:1≤k∧k≤14) (hv:valP k vk vn):opB k r s t vk vn=(((decide (0≤r∧r≤3)&&hasR k)||r==0)&&(((decide (0≤s∧s≤3)&&hasS k)||s==0)&&(((decide (0≤t∧t≤15)&&hasT k)||t==0)&&(hasV k||(vk==0&&(vn==0)))))):=by
  have e: ∀x y:Int,(x==y)=decide (x=y):=fun x y=>by by_cases h:x=y<;>simp[h]
  have sw: ∀ (a b c:Prop),((a∧b)∨c) ↔ (c∨(b∧a)):=fun a b c=>⟨fun h=>h.elim (fun g=>.inr ⟨g.2,g.1⟩) .inl,fun h=>h.elim .inr (fun g=>.inl ⟨g.2,g.1⟩)⟩
  rw[Bool.eq_iff_iff];simp only[opB,decide_eq_true_eq,Bool.and_eq_true,Bool.or_eq_true,e,sw]
  exact⟨fun h=>h.2.2,fun h=>⟨hk,hv,h⟩⟩
theorem opB_bad {k r s t vk vn:Int} (h: ¬(1≤k∧k≤14)∨ ¬valP k vk vn):opB k r s t vk vn=false:=opB_false.2 (fun g=>h.elim (fun a=>a g.1) (fun a=>a g.2.1))
theorem specOp_none (k r s t vk vn:Int) (w:World) (hk: ¬(1≤k∧k≤14)):
    Calls Tryz.prog 41 #[.agg #[.int .i64 k,.int .i64 r,.int .i64 s,.int .i64 t,.int .i64 vk,.int .i64 vn]] w fun e w'=>e= .returned (.bool false)∧Below w.heap.size w w':=by
  have hForm: ∀W:World,Calls Tryz.prog 38 #[.int .i64 k] W fun e w'=> ∃A c,e= .returned (.slice A 0 c)∧Below W.heap.size W w':=fun W=>by
    refine(spec_l2Form.calls 3 k (formL k) W (form_eq k)).mono ?_
    rintro e w' ⟨v,rfl,hR,hb⟩
    have:formL k=[]:=if_neg hk;rw[this]at hR
    obtain⟨A,c,rfl⟩:=Kd.R_slice hR;exact⟨A,c,rfl,hb⟩
  clear hk;have HB:=aS (Below.refl w.heap.size w);go_enter Tryz.func41,Tryz.ntmps41
  go_wp2_with (go_at_call 38;refine(hForm _).mono ?_;rintro e w' ⟨A,c,rfl,hb⟩)
  go_ret
  exact⟨rfl,below_step (below_alloc (Below.refl _ _) _) hb⟩
theorem spec_OpOk.calls (k r s t vk vn:Int) (b:Bool) (w:World) (h:opV.f k r s t vk vn=some b):
    Calls Tryz.prog 41 #[.agg #[.int .i64 k,.int .i64 r,.int .i64 s,.int .i64 t,.int .i64 vk,.int .i64 vn]] w fun e w'=>e= .returned (.bool b)∧Below w.heap.size w w':=by
  obtain rfl:=Option.some.inj h;by_cases hk:1≤k∧k≤14
  rotate_left
  · rw[opB_bad (.inl hk)];exact specOp_none k r s t vk vn w hk
  have hForm:=fun W=>form_calls hk W
  have hVal:=fun W=>spec_ValOk.calls vk vn (okB vk vn) W (sok_eq vk vn)
  by_cases hv:okP vk vn
  rotate_left
  · rw[opB_bad (.inr (fun g=>hv g.1))]
    exact specOp_bad k r s t vk vn w false _ _ _ _ (okB vk vn) hForm hVal ⟨okB_false.2 hv⟩ ⟨rfl⟩
  have hvb:Aside0 (okB vk vn=true):=⟨okB_true.2 hv⟩;by_cases h8:k=8
  · by_cases h1:vk=1
    · by_cases hn:1≤vn
      · subst h8;subst h1;exact specOp_8 r s t vn w _ _ _ _ _ _ hForm hVal hn hvb ⟨opB_form 8 r s t 1 vn hk ⟨hv,fun _=>⟨rfl,hn⟩,fun e=>by omega⟩⟩
      · rw[opB_bad (.inr (fun g=>hn (g.2.1 h8).2))]
        subst h8;subst h1;exact specOp_8n r s t vn w false _ _ _ _ _ hForm hVal (by omega) (decide_eq_true (by omega)) hvb ⟨rfl⟩
    · rw[opB_bad (.inr (fun g=>h1 (g.2.1 h8).1))]
      subst h8;exact specOp_8k r s t vk vn w false _ _ _ _ _ hForm hVal (by simpa using h1) (by simpa using h1) hvb ⟨rfl⟩
  by_cases h13:k=13
  · by_cases h1:vk=1
    · by_cases hn:0≤vn∧vn≤1
      · subst h13;subst h1;exact specOp_13 r s t vn w _ _ _ _ _ _ hForm hVal hn.1 hn.2 hvb ⟨opB_form 13 r s t 1 vn hk ⟨hv,fun e=>by omega,fun _=>⟨rfl,hn⟩⟩⟩
      · rw[opB_bad (.inr (fun g=>hn (g.2.2 h13).2))]
        subst h13;subst h1;exact specOp_13n r s t vn w false _ _ _ _ _ hForm hVal ⟨decide_eq_false hn⟩ hvb ⟨rfl⟩
    · rw[opB_bad (.inr (fun g=>h1 (g.2.2 h13).1))]
      subst h13;exact specOp_13k r s t vk vn w false _ _ _ _ _ hForm hVal (by simpa using h1) (by simpa using h1) hvb ⟨rfl⟩
  exact specOp_main k r s t vk vn w _ _ _ _ _ _ hForm hVal (by simpa using h8) (by simpa using h13) hvb ⟨opB_form k r s t vk vn hk ⟨hv,fun e=>absurd e h8,fun e=>absurd e h13⟩⟩
end Go.Proofs.YtmklpbmlgjkbiaaGreatDoor.PS
end
section
namespace Go.Proofs.YtmklpbmlgjkbiaaGreatDoor.PS
open Go.RowKit Go.Proofs.YtmklpbmlgjkbiaaGreatDoorW.PrintWords Go.Proofs.YtmklpbmlgjkbiaaGreatDoorW.PrintLast Go.Proofs.YtmklpbmlgjkbiaaGreatDoorW.PrintMore
attribute [local go_sem] max2_int min2_int max_two min_two max_three min_three max_four min_four   -- for this text's walks alone
def spec_l3Goes.f (a0:Int):Option (Bool):=if a0=5 then(some true)else(if a0=8 then(some true)else(if a0=9 then(some true)else(some (a0==10))))
theorem spec_l3Goes.calls (a0:Int) (r:Bool) (w:World) (h:spec_l3Goes.f a0=some r):
  Calls Tryz.prog 42 #[.int .i64 a0] w fun e w'=>e= .returned (.bool r)∧Drawn0 w w':=by
 have H:(if a0=5 then(some true)else(if a0=8 then(some true)else(if a0=9 then(some true)else(some (a0==10)))))=some r:=h
 clear h;by_cases c2:a0=5
 ·rw[if_pos c2]at H
  have c2b0:(a0==5)=true:=beq_iff_eq.mpr c2;have c2b1:(a0 !=5)=false:=bne_eq_false_iff_eq.mpr c2;clear c2;obtain rfl:=Option.some.inj H;go_enter Tryz.func42,Tryz.ntmps42
  go_wp2
  go_ret
  exact⟨by first|rfl|(simp;done)|(simp[*];done),by repeat(first|exact Drawn0.refl _|apply Drawn0.step)⟩
 ·rw[if_neg c2]at H
  have c2b0:(a0==5)=false:=beq_eq_false_iff_ne.mpr c2;have c2b1:(a0 !=5)=true:=bne_iff_ne.mpr c2;by_cases c3:a0=8
  ·rw[if_pos c3]at H
   have c3b0:(a0==8)=true:=beq_iff_eq.mpr c3;have c3b1:(a0 !=8)=false:=bne_eq_false_iff_eq.mpr c3;clear c3;obtain rfl:=Option.some.inj H;go_enter Tryz.func42,Tryz.ntmps42
   go_wp2
   go_ret
   exact⟨by first|rfl|(simp;done)|(simp[*];done),by repeat(first|exact Drawn0.refl _|apply Drawn0.step)⟩
  ·rw[if_neg c3]at H
   have c3b0:(a0==8)=false:=beq_eq_false_iff_ne.mpr c3;have c3b1:(a0 !=8)=true:=bne_iff_ne.mpr c3;by_cases c4:a0=9
   ·rw[if_pos c4]at H
    have c4b0:(a0==9)=true:=beq_iff_eq.mpr c4;have c4b1:(a0 !=9)=false:=bne_eq_false_iff_eq.mpr c4;clear c4;obtain rfl:=Option.some.inj H;go_enter Tryz.func42,Tryz.ntmps42
    go_wp2
    go_ret
    exact⟨by first|rfl|(simp;done)|(simp[*];done),by repeat(first|exact Drawn0.refl _|apply Drawn0.step)⟩
   ·rw[if_neg c4]at H
    have c4b0:(a0==9)=false:=beq_eq_false_iff_ne.mpr c4;have c4b1:(a0 !=9)=true:=bne_iff_ne.mpr c4;obtain rfl:=Option.some.inj H;go_enter Tryz.func42,Tryz.ntmps42
    go_wp2
    go_ret
    exact⟨by first|rfl|(simp;done)|(simp[*];done),by repeat(first|exact Drawn0.refl _|apply Drawn0.step)⟩
mutual
def spec_CodeOk.l0:Nat→List (S39)→Int→Option (Bool)
 |0,_,_=>none
 |k+1,x0,x3=>if x3<(x0.length:Int)then(if 0≤x3 then((opV.f ((rd_T39 x0 x3).f0) ((rd_T39 x0 x3).f1) ((rd_T39 x0 x3).f2) ((rd_T39 x0 x3).f3) ((rd_T39 x0 x3).f4.f0) ((rd_T39 x0 x3).f4.f1)).bind fun t176=>(if t176=true then((spec_l3Goes.f ((rd_T39 x0 x3).f0)).bind fun t178=>(if t178=true then(spec_CodeOk.j1 k x0 x3 (decide (((rd_T39 x0 x3).f3)≥(x0.length:Int))))else(spec_CodeOk.j1 k x0 x3 false)))else(spec_CodeOk.j1 k x0 x3 true)))else(none))else((spec_l6In.f (x0.length:Int) 1 16).bind fun t180=>(some t180))
def spec_CodeOk.j1:Nat→List (S39)→Int→Bool→Option (Bool)
 |0,_,_,_=>none
 |k+1,x0,x3,x33=>if x33=true then(some false)else(spec_CodeOk.l0 k x0 (wrap64 (x3+1)))
end
def spec_CodeOk.f (k:Nat) (l0:List (S39)):Option (Bool):=spec_CodeOk.l0 k l0 0
theorem spec_CodeOk.calls (k:Nat) (A0:Option Addr) (c0:Nat) (l0:List (S39)) (r:Bool) (w:World) (hr0:Kd.C k39 w A0 l0.length l0) (hc0:l0.length≤c0) (h:spec_CodeOk.f k l0=some r):
  Calls Tryz.prog 19 #[.slice A0 l0.length c0] w fun e w'=>e= .returned (.bool r)∧Below w.heap.size w w':=by
 have hu39:=Tryz.underlying39;have HR0:=aS hr0;have HC0:=aS hc0;clear hr0 hc0;have HB:=aS (Below.refl w.heap.size w);have H:(spec_CodeOk.l0 k l0 0)=some r:=h;clear h;have H':=aS H;clear H;go_enter Tryz.func19,Tryz.ntmps19
 go_wp2
 go_loopg [3] k (fun kq v3 w'=> ∃ (x3_1:Int),v3= .int .i64 x3_1∧Aside0 (spec_CodeOk.l0 kq l0 x3_1=some r)∧Aside0 (kq≤k)∧Aside0 (Below w.heap.size w w'))
 case atStart=>exact⟨(0),(by first|rfl|(simp;done)|(simp[*];done)),H',⟨Nat.le_refl _⟩,⟨by exact bU HB.out⟩⟩
 case round=>
  clear H';try clear c1
  obtain⟨x3_1,rfl,HA,HK1,HB⟩:=hrel;cases gk with
  |zero=>exact absurd HA.out (by simp[spec_CodeOk.l0])
  |succ k1=>
   have H:=HA.out;clear HA;simp only[spec_CodeOk.l0]at H
   by_cases c2:x3_1<(l0.length:Int)
   ·rw[if_pos c2]at H
    have c2b0:decide (x3_1<(l0.length:Int))=true:=decide_eq_true c2;clear c2;have HC3:=aS H;clear H;go_upto_region 4 with (fail)
    go_cut [33] (fun v33 wc=> ∃ (kq:Nat) (x33_2:Bool),v33= .bool x33_2∧Aside0 (spec_CodeOk.j1 kq l0 x3_1 x33_2=some r)∧Aside0 (kq≤k1)∧Aside0 (Below w.heap.size w wc))
    case first=>
     have H:=HC3.out;clear HC3;by_cases c4:0≤x3_1
     ·rw[if_pos c4]at H
      have c4b0:decide (0≤x3_1)=true:=decide_eq_true c4;clear c4;(first|rw[c4b0]|(simp only[i64_w,i32_w];rw[c4b0])|skip)
      replace H:=Option.bind_eq_some_iff.mp H;obtain⟨t176,A50,H⟩:=H;replace H:(if t176=true then((spec_l3Goes.f ((rd_T39 l0 x3_1).f0)).bind fun t178=>(if t178=true then(spec_CodeOk.j1 k1 l0 x3_1 (decide (((rd_T39 l0 x3_1).f3)≥(l0.length:Int))))else(spec_CodeOk.j1 k1 l0 x3_1 false)))else(spec_CodeOk.j1 k1 l0 x3_1 true))=some r:=H
      have A5:=aS A50;clear A50;by_cases c6:t176=true
      ·subst c6
       have H1:((spec_l3Goes.f ((rd_T39 l0 x3_1).f0)).bind fun t178=>(if t178=true then(spec_CodeOk.j1 k1 l0 x3_1 (decide (((rd_T39 l0 x3_1).f3)≥(l0.length:Int))))else(spec_CodeOk.j1 k1 l0 x3_1 false)))=some r:=by rw[if_pos rfl]at H;exact H
       clear H;have H:=H1;clear H1;replace H:=Option.bind_eq_some_iff.mp H;obtain⟨t178,A70,H⟩:=H;replace H:(if t178=true then(spec_CodeOk.j1 k1 l0 x3_1 (decide (((rd_T39 l0 x3_1).f3)≥(l0.length:Int))))else(spec_CodeOk.j1 k1 l0 x3_1 false))=some r:=H
       have A7:=aS A70;clear A70;by_cases c8:t178=true
       ·subst c8
        have H1:(spec_CodeOk.j1 k1 l0 x3_1 (decide (((rd_T39 l0 x3_1).f3)≥(l0.length:Int))))=some r:=by rw[if_pos rfl]at H;exact H
        clear H;have H:=H1;clear H1;have H':=aS H;clear H;have p175:0≤(x3_1:Int):=of_decide_eq_true (by assumption)
        have q175:x3_1<(l0.length:Int):=of_decide_eq_true (by assumption)
        obtain⟨ad175,e175,hx175_0,hx175_1,hx175_2,hx175_3,hx175_4,hx175_5⟩:=at_T39 HR0.out x3_1 p175 q175;cases e175
        replace hx175_0:=(HB.out.cell (World.block_lt_of_cell? w _ hx175_0)).trans hx175_0;replace hx175_1:=(HB.out.cell (World.block_lt_of_cell? w _ hx175_1)).trans hx175_1;replace hx175_2:=(HB.out.cell (World.block_lt_of_cell? w _ hx175_2)).trans hx175_2;replace hx175_3:=(HB.out.cell (World.block_lt_of_cell? w _ hx175_3)).trans hx175_3;replace hx175_4:=(HB.out.cell (World.block_lt_of_cell? w _ hx175_4)).trans hx175_4;replace hx175_5:=(HB.out.cell (World.block_lt_of_cell? w _ hx175_5)).trans hx175_5;replace p175:=eq_true p175;replace q175:=eq_true q175;go_wp2_with (first|((with_reducible refine gate_callee (f:=41) rfl ?_);refine goesL_ (some 14) rfl rfl Tryz.func41 (by kernel_rfl) rfl #[.agg #[.int .i64 ((rd_T39 l0 x3_1).f0),.int .i64 ((rd_T39 l0 x3_1).f1),.int .i64 ((rd_T39 l0 x3_1).f2),.int .i64 ((rd_T39 l0 x3_1).f3),.int .i64 ((rd_T39 l0 x3_1).f4.f0),.int .i64 ((rd_T39 l0 x3_1).f4.f1)]] rfl (by(try simp only[List.map_toArray,List.map_cons,List.map_nil])<;>rfl) ?_;(with_reducible refine(spec_OpOk.calls ((rd_T39 l0 x3_1).f0) ((rd_T39 l0 x3_1).f1) ((rd_T39 l0 x3_1).f2) ((rd_T39 l0 x3_1).f3) ((rd_T39 l0 x3_1).f4.f0) ((rd_T39 l0 x3_1).f4.f1) true _ A5.out).mono ?_);rintro e w9 ⟨rfl,hb⟩;refine⟨_,rfl,?_⟩;replace HB:=aS (below_step (by exact bU HB.out) hb);(try clear hb);have p177:0≤(x3_1:Int):=of_decide_eq_true (by assumption);have q177:x3_1<(l0.length:Int):=of_decide_eq_true (by assumption);obtain⟨ad177,e177,hx177_0,hx177_1,hx177_2,hx177_3,hx177_4,hx177_5⟩:=at_T39 HR0.out x3_1 p177 q177;obtain rfl:ad175=ad177:=(by injection e177);replace hx177_0:=(HB.out.cell (World.block_lt_of_cell? w _ hx177_0)).trans hx177_0;replace hx177_1:=(HB.out.cell (World.block_lt_of_cell? w _ hx177_1)).trans hx177_1;replace hx177_2:=(HB.out.cell (World.block_lt_of_cell? w _ hx177_2)).trans hx177_2;replace hx177_3:=(HB.out.cell (World.block_lt_of_cell? w _ hx177_3)).trans hx177_3;replace hx177_4:=(HB.out.cell (World.block_lt_of_cell? w _ hx177_4)).trans hx177_4;replace hx177_5:=(HB.out.cell (World.block_lt_of_cell? w _ hx177_5)).trans hx177_5;replace p177:=eq_true p177;replace q177:=eq_true q177)|(go_at_call 42;(with_reducible refine(spec_l3Goes.calls ((rd_T39 l0 x3_1).f0) true _ A7.out).mono ?_);rintro e w' ⟨rfl,⟨nd,rfl⟩⟩;have p179:0≤(x3_1:Int):=of_decide_eq_true (by assumption);have q179:x3_1<(l0.length:Int):=of_decide_eq_true (by assumption);obtain⟨ad179,e179,hx179_0,hx179_1,hx179_2,hx179_3,hx179_4,hx179_5⟩:=at_T39 HR0.out x3_1 p179 q179;obtain rfl:ad175=ad179:=(by injection e179);replace hx179_0:=(HB.out.cell (World.block_lt_of_cell? w _ hx179_0)).trans hx179_0;replace hx179_1:=(HB.out.cell (World.block_lt_of_cell? w _ hx179_1)).trans hx179_1;replace hx179_2:=(HB.out.cell (World.block_lt_of_cell? w _ hx179_2)).trans hx179_2;replace hx179_3:=(HB.out.cell (World.block_lt_of_cell? w _ hx179_3)).trans hx179_3;replace hx179_4:=(HB.out.cell (World.block_lt_of_cell? w _ hx179_4)).trans hx179_4;replace hx179_5:=(HB.out.cell (World.block_lt_of_cell? w _ hx179_5)).trans hx179_5;replace p179:=eq_true p179;replace q179:=eq_true q179))
        go_meet
        case rel=>exact⟨_,(decide (((rd_T39 l0 x3_1).f3)≥(l0.length:Int))),(by first|rfl|(simp;done)|(simp[*];done)),H',⟨by have:=HK1.out;first|omega|exact Nat.le_refl _⟩,⟨by exact bU HB.out⟩⟩
       ·replace c8:=Bool.eq_false_iff.mpr c8
        subst c8;have H1:(spec_CodeOk.j1 k1 l0 x3_1 false)=some r:=by rw[if_neg (show¬(false=true) by decide)]at H;exact H
        clear H;have H:=H1;clear H1;have H':=aS H;clear H;have p175:0≤(x3_1:Int):=of_decide_eq_true (by assumption)
        have q175:x3_1<(l0.length:Int):=of_decide_eq_true (by assumption)
        obtain⟨ad175,e175,hx175_0,hx175_1,hx175_2,hx175_3,hx175_4,hx175_5⟩:=at_T39 HR0.out x3_1 p175 q175;cases e175
        replace hx175_0:=(HB.out.cell (World.block_lt_of_cell? w _ hx175_0)).trans hx175_0;replace hx175_1:=(HB.out.cell (World.block_lt_of_cell? w _ hx175_1)).trans hx175_1;replace hx175_2:=(HB.out.cell (World.block_lt_of_cell? w _ hx175_2)).trans hx175_2;replace hx175_3:=(HB.out.cell (World.block_lt_of_cell? w _ hx175_3)).trans hx175_3;replace hx175_4:=(HB.out.cell (World.block_lt_of_cell? w _ hx175_4)).trans hx175_4;replace hx175_5:=(HB.out.cell (World.block_lt_of_cell? w _ hx175_5)).trans hx175_5;replace p175:=eq_true p175;replace q175:=eq_true q175;go_wp2_with (first|((with_reducible refine gate_callee (f:=41) rfl ?_);refine goesL_ (some 14) rfl rfl Tryz.func41 (by kernel_rfl) rfl #[.agg #[.int .i64 ((rd_T39 l0 x3_1).f0),.int .i64 ((rd_T39 l0 x3_1).f1),.int .i64 ((rd_T39 l0 x3_1).f2),.int .i64 ((rd_T39 l0 x3_1).f3),.int .i64 ((rd_T39 l0 x3_1).f4.f0),.int .i64 ((rd_T39 l0 x3_1).f4.f1)]] rfl (by(try simp only[List.map_toArray,List.map_cons,List.map_nil])<;>rfl) ?_;(with_reducible refine(spec_OpOk.calls ((rd_T39 l0 x3_1).f0) ((rd_T39 l0 x3_1).f1) ((rd_T39 l0 x3_1).f2) ((rd_T39 l0 x3_1).f3) ((rd_T39 l0 x3_1).f4.f0) ((rd_T39 l0 x3_1).f4.f1) true _ A5.out).mono ?_);rintro e w10 ⟨rfl,hb⟩;refine⟨_,rfl,?_⟩;replace HB:=aS (below_step (by exact bU HB.out) hb);(try clear hb);have p177:0≤(x3_1:Int):=of_decide_eq_true (by assumption);have q177:x3_1<(l0.length:Int):=of_decide_eq_true (by assumption);obtain⟨ad177,e177,hx177_0,hx177_1,hx177_2,hx177_3,hx177_4,hx177_5⟩:=at_T39 HR0.out x3_1 p177 q177;obtain rfl:ad175=ad177:=(by injection e177);replace hx177_0:=(HB.out.cell (World.block_lt_of_cell? w _ hx177_0)).trans hx177_0;replace hx177_1:=(HB.out.cell (World.block_lt_of_cell? w _ hx177_1)).trans hx177_1;replace hx177_2:=(HB.out.cell (World.block_lt_of_cell? w _ hx177_2)).trans hx177_2;replace hx177_3:=(HB.out.cell (World.block_lt_of_cell? w _ hx177_3)).trans hx177_3;replace hx177_4:=(HB.out.cell (World.block_lt_of_cell? w _ hx177_4)).trans hx177_4;replace hx177_5:=(HB.out.cell (World.block_lt_of_cell? w _ hx177_5)).trans hx177_5;replace p177:=eq_true p177;replace q177:=eq_true q177)|(go_at_call 42;(with_reducible refine(spec_l3Goes.calls ((rd_T39 l0 x3_1).f0) false _ A7.out).mono ?_);rintro e w' ⟨rfl,⟨nd,rfl⟩⟩))
        go_meet
        case rel=>exact⟨_,(false),(by first|rfl|(simp;done)|(simp[*];done)),H',⟨by have:=HK1.out;first|omega|exact Nat.le_refl _⟩,⟨by exact bU HB.out⟩⟩
      ·replace c6:=Bool.eq_false_iff.mpr c6
       subst c6;have H1:(spec_CodeOk.j1 k1 l0 x3_1 true)=some r:=by rw[if_neg (show¬(false=true) by decide)]at H;exact H
       clear H;have H:=H1;clear H1;have H':=aS H;clear H;have p175:0≤(x3_1:Int):=of_decide_eq_true (by assumption)
       have q175:x3_1<(l0.length:Int):=of_decide_eq_true (by assumption)
       obtain⟨ad175,e175,hx175_0,hx175_1,hx175_2,hx175_3,hx175_4,hx175_5⟩:=at_T39 HR0.out x3_1 p175 q175;cases e175
       replace hx175_0:=(HB.out.cell (World.block_lt_of_cell? w _ hx175_0)).trans hx175_0;replace hx175_1:=(HB.out.cell (World.block_lt_of_cell? w _ hx175_1)).trans hx175_1;replace hx175_2:=(HB.out.cell (World.block_lt_of_cell? w _ hx175_2)).trans hx175_2;replace hx175_3:=(HB.out.cell (World.block_lt_of_cell? w _ hx175_3)).trans hx175_3;replace hx175_4:=(HB.out.cell (World.block_lt_of_cell? w _ hx175_4)).trans hx175_4;replace hx175_5:=(HB.out.cell (World.block_lt_of_cell? w _ hx175_5)).trans hx175_5;replace p175:=eq_true p175;replace q175:=eq_true q175;go_wp2_with (first|((with_reducible refine gate_callee (f:=41) rfl ?_);refine goesL_ (some 14) rfl rfl Tryz.func41 (by kernel_rfl) rfl #[.agg #[.int .i64 ((rd_T39 l0 x3_1).f0),.int .i64 ((rd_T39 l0 x3_1).f1),.int .i64 ((rd_T39 l0 x3_1).f2),.int .i64 ((rd_T39 l0 x3_1).f3),.int .i64 ((rd_T39 l0 x3_1).f4.f0),.int .i64 ((rd_T39 l0 x3_1).f4.f1)]] rfl (by(try simp only[List.map_toArray,List.map_cons,List.map_nil])<;>rfl) ?_;(with_reducible refine(spec_OpOk.calls ((rd_T39 l0 x3_1).f0) ((rd_T39 l0 x3_1).f1) ((rd_T39 l0 x3_1).f2) ((rd_T39 l0 x3_1).f3) ((rd_T39 l0 x3_1).f4.f0) ((rd_T39 l0 x3_1).f4.f1) false _ A5.out).mono ?_);rintro e w11 ⟨rfl,hb⟩;refine⟨_,rfl,?_⟩;replace HB:=aS (below_step (by exact bU HB.out) hb);(try clear hb)))
       go_meet
       case rel=>exact⟨_,(true),(by first|rfl|(simp;done)|(simp[*];done)),H',⟨by have:=HK1.out;first|omega|exact Nat.le_refl _⟩,⟨by exact bU HB.out⟩⟩
     ·rw[if_neg c4]at H
      exact absurd H (by simp)
    case rest=>
     clear HC3;(try clear c1);(try clear p1);(try clear q1);(try clear hx1);(try clear c2);(try clear c2b0);(try clear p2);(try clear c4);(try clear c4b0);(try clear c6);(try clear c8);(try clear hx175_0);(try clear hx175_1);(try clear hx175_2);(try clear hx175_3);(try clear hx175_4);(try clear hx175_5);(try clear hx177_0);(try clear hx177_1);(try clear hx177_2);(try clear hx177_3);(try clear hx177_4);(try clear hx177_5);(try clear hx179_0);(try clear hx179_1);(try clear hx179_2);(try clear hx179_3);(try clear hx179_4);(try clear hx179_5);(try clear p175);(try clear p177);(try clear p179);(try clear q175);(try clear q177);(try clear q179)
     obtain⟨kq,x33_2,rfl,HA,HJ2,HB⟩:=hcut;cases kq with
     |zero=>exact absurd HA.out (by simp[spec_CodeOk.j1])
     |succ kj2=>
      have H:=HA.out;clear HA;simp only[spec_CodeOk.j1]at H
      by_cases c12:x33_2=true
      ·subst c12
       have H1:(some false)=some r:=by rw[if_pos rfl]at H;exact H
       clear H;have H:=H1;clear H1;obtain rfl:=Option.some.inj H;go_wp2
       go_ret
       exact⟨by first|rfl|(simp[*]<;>rfl),by exact bU HB.out⟩
      ·replace c12:=Bool.eq_false_iff.mpr c12
       subst c12;have H1:(spec_CodeOk.l0 kj2 l0 (wrap64 (x3_1+1)))=some r:=by rw[if_neg (show¬(false=true) by decide)]at H;exact H
       clear H;have H:=H1;clear H1;have H':=aS H;clear H;go_wp2
       go_roundg kj2
       case measure=>have:=HK1.out;have:=HJ2.out;omega
       case rel=>exact⟨(wrap64 (x3_1+1)),(by first|rfl|(simp;done)|(simp[*];done)),H',⟨by have:=HK1.out;have:=HJ2.out;omega⟩,⟨by exact bU HB.out⟩⟩
   ·rw[if_neg c2]at H
    have c2b0:decide (x3_1<(l0.length:Int))=false:=decide_eq_false c2;clear c2;replace H:=Option.bind_eq_some_iff.mp H;obtain⟨t180,A130,H⟩:=H;replace H:(some t180)=some r:=H;have A13:=aS A130;clear A130;obtain rfl:=Option.some.inj H;go_wp2_with (first|((with_reducible refine gate_callee (f:=43) rfl ?_);refine goesL_ (some 36) rfl rfl Tryz.func43 (by kernel_rfl) rfl #[.int .i64 (l0.length:Int),.int .i64 1,.int .i64 16] rfl (by(try simp only[List.map_toArray,List.map_cons,List.map_nil])<;>rfl) ?_;(with_reducible refine(spec_l6In.calls (l0.length:Int) 1 16 t180 _ A13.out).mono ?_);rintro e w' ⟨rfl,⟨nd,rfl⟩⟩;refine⟨_,rfl,?_⟩))
    go_ret
    exact⟨by first|rfl|(simp[*]<;>rfl),by exact bU HB.out⟩
end Go.Proofs.YtmklpbmlgjkbiaaGreatDoor.PS
end
section
namespace Go.Proofs.YtmklpbmlgjkbiaaGreatDoor.PS
open Go.RowKit Go.Proofs.YtmklpbmlgjkbiaaGreatDoorW.PrintWords Go.Proofs.YtmklpbmlgjkbiaaGreatDoorW.PrintLast
theorem w64 {x:Int} (h0: -9223372036854775808≤x) (h1:x≤9223372036854775807):wrap64 x=x:=by
  unfold wrap64;omega
theorem rd29_at (l:List S39) (i:Nat) (h:i<l.length):rd_T39 l (i:Int)=l[i]:=by
  unfold rd_T39;simp[List.getD_eq_getElem?_getD,List.getElem?_eq_getElem h]
instance:DecidableEq S37:=fun a b=>decidable_of_iff (a.f0=b.f0∧a.f1=b.f1) ⟨fun ⟨h,g⟩=>by cases a;cases b;simp_all,fun h=>by subst h;exact⟨rfl,rfl⟩⟩
instance:DecidableEq S39:=fun a b=>decidable_of_iff (a.f0=b.f0∧a.f1=b.f1∧a.f2=b.f2∧a.f3=b.f3∧a.f4=b.f4) ⟨fun ⟨h,g,i,j,k⟩=>by cases a;cases b;simp_all,fun h=>by subst h;exact⟨rfl,rfl,rfl,rfl,rfl⟩⟩
theorem goes_eq (k:Int):spec_l3Goes.f k=some (hasT k):=by
  unfold spec_l3Goes.f hasT;by_cases h5:k=5
  · subst h5;rfl
  rw[if_neg h5];by_cases h8:k=8
  · subst h8;rfl
  rw[if_neg h8];by_cases h9:k=9
  · subst h9;rfl
  rw[if_neg h9];by_cases h10:k=10
  · subst h10;rfl
  have:(k==10)=false:=by simpa using h10
  rw[this];simp[h5,h8,h9,h10]
theorem in_len (n:Nat):spec_l6In.f (n:Int) 1 16=some (decide (1≤n∧n≤16)):=by
  unfold spec_l6In.f;split
  · congr 1;exact decide_eq_decide.2 (by omega)
  · congr 1;symm;exact decide_eq_false (by omega)
theorem scode_loop (l:List S39) (hm:l.length≤9223372036854775807) (d:Nat): ∀ (k i:Nat),l.length-i=d→i≤l.length→2*d<k→
    spec_CodeOk.l0 k l i=some (decide (1≤l.length∧l.length≤16)&& !((l.drop i).any (wrongB l.length))):=by
  induction d with
  |zero=>
    intro k i hd hi hk;obtain⟨k,rfl⟩: ∃m,k=m+1:=⟨k-1,by omega⟩
    simp only[spec_CodeOk.l0]
    rw[if_neg (by omega),List.drop_of_length_le (by omega),in_len];simp
  |succ d ih=>
    intro k i hd hi hk;obtain⟨k,rfl⟩: ∃m,k=m+1:=⟨k-1,by omega⟩
    obtain⟨k,rfl⟩: ∃m,k=m+1:=⟨k-1,by omega⟩
    simp only[spec_CodeOk.l0]
    have d0:l.drop i=l[i]'(by omega)::l.drop (i+1):=List.drop_eq_getElem_cons (by omega)
    rw[if_pos (by omega),if_pos (by omega),rd29_at l i (by omega),d0]
    obtain⟨x,hx⟩: ∃x,l[i]'(by omega)=x:=⟨_,rfl⟩
    rw[hx];have hw:wrongB l.length x=(!(opS x)||(hasT x.f0&&decide ((l.length:Int)≤x.f3))):=rfl
    have step: ∀b:Bool,spec_CodeOk.j1 (k+1) l i b=if b=true then some false else some (decide (1≤l.length∧l.length≤16)&& !((l.drop (i+1)).any (wrongB l.length))):=fun b=>by
      simp only[spec_CodeOk.j1]
      rw[w64 (by omega) (by omega),show((i:Int)+1)=((i+1:Nat):Int)from by omega,ih k (i+1) (by omega) (by omega) (by omega)]
    have ho:opV.f x.f0 x.f1 x.f2 x.f3 x.f4.f0 x.f4.f1=some (opS x):=rfl;rw[ho,goes_eq];simp only[Option.bind_some,step,List.any_cons,hw]
    cases opS x<;>cases hasT x.f0<;>by_cases ht:(l.length:Int)≤x.f3<;>simp[ht]
theorem scode_eq (l:List S39) (hm:l.length≤9223372036854775807):spec_CodeOk.f (2*l.length+1) l=some (codeB l):=by
  unfold spec_CodeOk.f;exact scode_loop l hm l.length _ 0 (by omega) (by omega) (by omega)
theorem spec_CodeOk_as.calls (A0:Option Addr) (c0:Nat) (l0:List (S39)) (r:Bool) (w:World) (hr0:Kd.C k39 w A0 l0.length l0) (hc0:l0.length≤c0) (h:codeV.f l0=some r):
    Calls Tryz.prog 19 #[.slice A0 l0.length c0] w fun e w'=>e= .returned (.bool r)∧Below w.heap.size w w':=
  spec_CodeOk.calls _ A0 c0 l0 r w hr0 hc0 ((scode_eq l0 (Kd.C_max hr0)).trans h)
end Go.Proofs.YtmklpbmlgjkbiaaGreatDoor.PS
end
section
namespace Go.Proofs.YtmklpbmlgjkbiaaGreatDoor.PD
open Go.RowKit Go.Proofs.YtmklpbmlgjkbiaaGreatDoorW.PrintWords Go.Proofs.YtmklpbmlgjkbiaaGreatDoorW.PrintLast Go.Proofs.YtmklpbmlgjkbiaaGreatDoorW.PrintMore Go.Proofs.YtmklpbmlgjkbiaaGreatDoor.PS Go.Proofs.YtmklpbmlgjkbiaaGreatDoor.PC
attribute [local go_sem] max2_int min2_int max_two min_two max_three min_three max_four min_four   -- for this text's walks alone
mutual
def spec_CodeSafe.l0:Nat→List (S39)→List Int→Int→Option (Bool)
 |0,_,_,_=>none
 |k+1,x0,x3,x4=>if x4<(x0.length:Int)then(if 0≤x4 then(if x4<(x3.length:Int)then(if(rd x3 x4)<0 then(spec_CodeSafe.l0 k x0 x3 (wrap64 (x4+1)))else((spec_l2Uses.f k ((rd_T39 x0 x4).f0) ((rd_T39 x0 x4).f1) ((rd_T39 x0 x4).f2) ((rd_T39 x0 x4).f3) ((rd_T39 x0 x4).f4.f0) ((rd_T39 x0 x4).f4.f1)).bind fun t233=>(spec_CodeSafe.l1 k x0 x3 x4 t233 0)))else(none))else(none))else(some true)
def spec_CodeSafe.l1:Nat→List (S39)→List Int→Int→List Int→Int→Option (Bool)
 |0,_,_,_,_,_=>none
 |k+1,x0,x3,x4,x5,x6=>if x6<(x5.length:Int)then(if 0≤x4 then(if x4<(x3.length:Int)then(if 0≤x6 then((spec_l3Has.f (rd x3 x4) (rd x5 x6)).bind fun t238=>(if t238=true then(spec_CodeSafe.l1 k x0 x3 x4 x5 (wrap64 (x6+1)))else(some false)))else(none))else(none))else(none))else(if(wrap64 (x4+1))=(x0.length:Int)then(if 0≤x4 then(if x4<(x0.length:Int)then(if((rd_T39 x0 x4).f0)=9 then(spec_CodeSafe.j2 k x0 x3 x4 false)else(spec_CodeSafe.j2 k x0 x3 x4 (((rd_T39 x0 x4).f0) !=14)))else(none))else(none))else(spec_CodeSafe.j2 k x0 x3 x4 false))
def spec_CodeSafe.j2:Nat→List (S39)→List Int→Int→Bool→Option (Bool)
 |0,_,_,_,_=>none
 |k+1,x0,x3,x4,x64=>if x64=true then(some false)else(spec_CodeSafe.l0 k x0 x3 (wrap64 (x4+1)))
end
def spec_CodeSafe.f (k:Nat) (l0:List (S39)):Option (Bool):=(codeV.f l0).bind fun t227=>(if t227=true then((spec_l3Full.f k l0).bind fun t228=>(spec_CodeSafe.l0 k l0 t228 0))else(some false))
def spec_CodeSafe.T12:Bool×List (List Nat×List Nat):=(true,[([],[]),([],[]),([0,1],[0,1]),([2],[2]),([],[]),([],[]),([4,5],[4,5]),([6],[6]),([3,7],[3,7]),([8],[8])])
def spec_CodeSafe.B12:List Nat:=[0,0,3,7,0,0,48,112,255,511]
theorem spec_CodeSafe.tab12:rtab .any (opsOf Tryz.f75 12)=spec_CodeSafe.T12:=by kernel_rfl
theorem spec_CodeSafe.bits12:waitsOk spec_CodeSafe.T12.2 spec_CodeSafe.B12=true:=by kernel_rfl
theorem spec_CodeSafe.calls (k:Nat) (A0:Option Addr) (c0:Nat) (l0:List (S39)) (r:Bool) (w:World) (hr0:Kd.C k39 w A0 l0.length l0) (hc0:l0.length≤c0) (h:spec_CodeSafe.f k l0=some r):
  Calls Tryz.prog 75 #[.slice A0 l0.length c0] w fun e w'=>e= .returned (.bool r)∧Below w.heap.size w w':=by
 have hu39:=Tryz.underlying39;have HR0:=aS hr0;have HC0:=aS hc0;clear hr0 hc0;have HB:=aS (Below.refl w.heap.size w);have H:((codeV.f l0).bind fun t227=>(if t227=true then((spec_l3Full.f k l0).bind fun t228=>(spec_CodeSafe.l0 k l0 t228 0))else(some false)))=some r:=h
 clear h;replace H:=Option.bind_eq_some_iff.mp H;obtain⟨t227,A20,H⟩:=H;replace H:(if t227=true then((spec_l3Full.f k l0).bind fun t228=>(spec_CodeSafe.l0 k l0 t228 0))else(some false))=some r:=H
 have A2:=aS A20;clear A20;by_cases c3:t227=true
 ·subst c3
  have H1:((spec_l3Full.f k l0).bind fun t228=>(spec_CodeSafe.l0 k l0 t228 0))=some r:=by rw[if_pos rfl]at H;exact H
  clear H;have H:=H1;clear H1;replace H:=Option.bind_eq_some_iff.mp H;obtain⟨t228,A40,H⟩:=H;replace H:(spec_CodeSafe.l0 k l0 t228 0)=some r:=H;have A4:=aS A40;clear A40;have H':=aS H;clear H;go_enter Tryz.func75,Tryz.ntmps75
  go_wp2_with (first|((with_reducible refine gate_callee (f:=19) rfl ?_);refine goesL_ (some 8) rfl rfl Tryz.func19 (by kernel_rfl) rfl #[.slice A0 l0.length c0] rfl (by(try simp only[List.map_toArray,List.map_cons,List.map_nil])<;>rfl) ?_;(with_reducible refine(spec_CodeOk_as.calls _ _ l0 true _ ?side1 ?side2 A2.out).mono ?_);(case side1=>exact CU HR0.out);(case side2=>exact HC0.out);rintro e w5 ⟨rfl,hb⟩;refine⟨_,rfl,?_⟩;replace HB:=aS (below_step (by exact bU HB.out) hb);(try clear hb))|((with_reducible refine gate_callee (f:=91) rfl ?_);refine goesL_ (some 11) rfl rfl Tryz.func91 (by kernel_rfl) rfl #[.slice A0 l0.length c0] rfl (by(try simp only[List.map_toArray,List.map_cons,List.map_nil])<;>rfl) ?_;(with_reducible refine(spec_l3Full.calls k _ _ l0 t228 _ ?side1 ?side2 A4.out).mono ?_);(case side1=>repeat(first|exact(Kd.C_below HR0.out HB.out)|(with_reducible refine Kd.C_alloc ?_ _)|(with_reducible refine Kd.C_drewN ?_ _)|(with_reducible refine Kd.C_drew ?_)));(case side2=>exact HC0.out);rintro e w6 ⟨v229,rfl,ho0,hb⟩;refine⟨_,rfl,?_⟩;have HO230:=aS (Kd.R_lower ho0 (below_size (by exact bU HB.out)));replace HB:=aS (below_step (by exact bU HB.out) hb);(try clear hb);(try clear ho0)))
  go_loopg [4] k (fun kq v4 w'=> ∃ (x4_1:Int),v4= .int .i64 x4_1∧Aside0 (spec_CodeSafe.l0 kq l0 t228 x4_1=some r)∧Aside0 (kq≤k)∧Aside0 (Kd.R (Kd.int .i64) 3 w' w.heap.size (fun _=>True) v229 t228)∧Aside0 (Below w.heap.size w w'))
  case atStart=>exact⟨(0),(by first|rfl|(simp;done)|(simp[*];done)),H',⟨Nat.le_refl _⟩,⟨by exact rU HO230.out⟩,⟨by exact bU HB.out⟩⟩
  case round=>
   clear H';(try clear c1);(try clear p2);(try clear c3)
   obtain⟨x4_1,rfl,HA,HK1,HO_3,HB⟩:=hrel;cases gk with
   |zero=>exact absurd HA.out (by simp[spec_CodeSafe.l0])
   |succ k1=>
    have H:=HA.out;clear HA;simp only[spec_CodeSafe.l0]at H
    by_cases c7:x4_1<(l0.length:Int)
    ·rw[if_pos c7]at H
     have c7b0:decide (x4_1<(l0.length:Int))=true:=decide_eq_true c7;clear c7;by_cases c8:0≤x4_1
     ·rw[if_pos c8]at H
      have c8b0:decide (0≤x4_1)=true:=decide_eq_true c8;clear c8;by_cases c9:x4_1<(t228.length:Int)
      ·rw[if_pos c9]at H
       have c9b0:decide (x4_1<(t228.length:Int))=true:=decide_eq_true c9;clear c9;by_cases c10:(rd t228 x4_1)<0
       ·rw[if_pos c10]at H
        have c10b0:decide ((rd t228 x4_1)<0)=true:=decide_eq_true c10;clear c10;have H':=aS H;clear H;obtain⟨Ao11,co11,eo11⟩:=Kd.R_slice HO_3.out;subst eo11;have p231:0≤(x4_1:Int):=of_decide_eq_true (by assumption)
        have q231:x4_1<(t228.length:Int):=of_decide_eq_true (by assumption)
        obtain⟨ad231,e231,hx231_0⟩:=Kd.at_int (Kd.R_reads' HO_3.out).2.2 x4_1 p231 q231;cases e231
        replace p231:=eq_true p231;replace q231:=eq_true q231;go_wp2
        go_roundg k1
        case measure=>have:=HK1.out;omega
        case rel=>exact⟨(wrap64 (x4_1+1)),(by first|rfl|(simp;done)|(simp[*];done)),H',⟨by have:=HK1.out;omega⟩,⟨by exact rU HO_3.out⟩,⟨by exact bU HB.out⟩⟩
       ·rw[if_neg c10]at H
        have c10b0:decide ((rd t228 x4_1)<0)=false:=decide_eq_false c10;clear c10;replace H:=Option.bind_eq_some_iff.mp H;obtain⟨t233,A120,H⟩:=H;replace H:(spec_CodeSafe.l1 k1 l0 t228 x4_1 t233 0)=some r:=H;have A12:=aS A120;clear A120;have H':=aS H;clear H;obtain⟨Ao13,co13,eo13⟩:=Kd.R_slice HO_3.out;subst eo13;have p231:0≤(x4_1:Int):=of_decide_eq_true (by assumption)
        have q231:x4_1<(t228.length:Int):=of_decide_eq_true (by assumption)
        obtain⟨ad231,e231,hx231_0⟩:=Kd.at_int (Kd.R_reads' HO_3.out).2.2 x4_1 p231 q231;cases e231
        replace p231:=eq_true p231;replace q231:=eq_true q231;have p232:0≤(x4_1:Int):=of_decide_eq_true (by assumption)
        have q232:x4_1<(l0.length:Int):=of_decide_eq_true (by assumption)
        obtain⟨ad232,e232,hx232_0,hx232_1,hx232_2,hx232_3,hx232_4,hx232_5⟩:=at_T39 HR0.out x4_1 p232 q232;cases e232
        replace hx232_0:=(HB.out.cell (World.block_lt_of_cell? w _ hx232_0)).trans hx232_0;replace hx232_1:=(HB.out.cell (World.block_lt_of_cell? w _ hx232_1)).trans hx232_1;replace hx232_2:=(HB.out.cell (World.block_lt_of_cell? w _ hx232_2)).trans hx232_2;replace hx232_3:=(HB.out.cell (World.block_lt_of_cell? w _ hx232_3)).trans hx232_3;replace hx232_4:=(HB.out.cell (World.block_lt_of_cell? w _ hx232_4)).trans hx232_4;replace hx232_5:=(HB.out.cell (World.block_lt_of_cell? w _ hx232_5)).trans hx232_5;replace p232:=eq_true p232;replace q232:=eq_true q232;go_wp2_with (first|((with_reducible refine gate_callee (f:=92) rfl ?_);refine goesL_ (some 27) rfl rfl Tryz.func92 (by kernel_rfl) rfl #[.agg #[.int .i64 ((rd_T39 l0 x4_1).f0),.int .i64 ((rd_T39 l0 x4_1).f1),.int .i64 ((rd_T39 l0 x4_1).f2),.int .i64 ((rd_T39 l0 x4_1).f3),.int .i64 ((rd_T39 l0 x4_1).f4.f0),.int .i64 ((rd_T39 l0 x4_1).f4.f1)]] rfl (by(try simp only[List.map_toArray,List.map_cons,List.map_nil])<;>rfl) ?_;(with_reducible refine(spec_l2Uses.calls k1 ((rd_T39 l0 x4_1).f0) ((rd_T39 l0 x4_1).f1) ((rd_T39 l0 x4_1).f2) ((rd_T39 l0 x4_1).f3) ((rd_T39 l0 x4_1).f4.f0) ((rd_T39 l0 x4_1).f4.f1) t233 _ A12.out).mono ?_);rintro e w14 ⟨v234,rfl,ho0,hb⟩;refine⟨_,rfl,?_⟩;have n0_:=aS (Kd.R_elder' (by exact rU HO_3.out) (Kd.R_base ho0) hb);have n1_:=aS (Kd.R_lower (Kd.R_new' ho0 (Kd.R_lt (by exact rU HO_3.out))) (below_size (by exact bU HB.out)));have n2_:=aS (below_step (by exact bU HB.out) hb);clear HO_3;clear HB;have HO_3:=n0_;have HO235:=n1_;have HB:=n2_;clear n0_ n1_ n2_;(try clear hb);(try clear ho0)))
        go_loopg [6] k1 (fun kq v6 w'=> ∃ (x6_2:Int),v6= .int .i64 x6_2∧Aside0 (spec_CodeSafe.l1 kq l0 t228 x4_1 t233 x6_2=some r)∧Aside0 (kq≤k1)∧Aside0 (Kd.R (Kd.int .i64) 3 w' w.heap.size (fun k_=>some k_≠(v234:Value).ownBlock) (.slice (some ad231) t228.length co13) t228)∧Aside0 (Kd.R (Kd.int .i64) 3 w' w.heap.size (fun k_=>some k_≠((.slice (some ad231) t228.length co13):Value).ownBlock) v234 t233)∧Aside0 (Below w.heap.size w w'))
        case atStart=>exact⟨(0),(by first|rfl|(simp;done)|(simp[*];done)),H',⟨Nat.le_refl _⟩,⟨by exact rU (Kd.R_mono HO_3.out (fun _ hk=>hk.2))⟩,⟨by exact rU (Kd.R_mono HO235.out (fun _ hk=>hk.2))⟩,⟨by exact bU HB.out⟩⟩
        case round=>
         clear H';(try clear c1);(try clear p2);(try clear q2);(try clear hx2);(try clear c3);(try clear p6);(try clear c7);(try clear c7b0);(try clear c8);(try clear c8b0);(try clear c9);(try clear c9b0);(try clear c10);(try clear c10b0);(try clear hx231_0);(try clear hx232_0);(try clear hx232_1);(try clear hx232_2);(try clear hx232_3);(try clear hx232_4);(try clear hx232_5);(try clear p2);(try clear p231);(try clear p232);(try clear q231);(try clear q232)
         obtain⟨x6_2,rfl,HA,HK2,HO_3,HO_5,HB⟩:=hrel;cases gk with
         |zero=>exact absurd HA.out (by simp[spec_CodeSafe.l1])
         |succ k2=>
          have H:=HA.out;clear HA;simp only[spec_CodeSafe.l1]at H
          by_cases c15:x6_2<(t233.length:Int)
          ·rw[if_pos c15]at H
           have c15b0:decide (x6_2<(t233.length:Int))=true:=decide_eq_true c15;clear c15;by_cases c16:0≤x4_1
           ·rw[if_pos c16]at H
            have c16b0:decide (0≤x4_1)=true:=decide_eq_true c16;clear c16;by_cases c17:x4_1<(t228.length:Int)
            ·rw[if_pos c17]at H
             have c17b0:decide (x4_1<(t228.length:Int))=true:=decide_eq_true c17;clear c17;by_cases c18:0≤x6_2
             ·rw[if_pos c18]at H
              have c18b0:decide (0≤x6_2)=true:=decide_eq_true c18;clear c18;replace H:=Option.bind_eq_some_iff.mp H;obtain⟨t238,A190,H⟩:=H;replace H:(if t238=true then(spec_CodeSafe.l1 k2 l0 t228 x4_1 t233 (wrap64 (x6_2+1)))else(some false))=some r:=H
              have A19:=aS A190;clear A190;by_cases c20:t238=true
              ·subst c20
               have H1:(spec_CodeSafe.l1 k2 l0 t228 x4_1 t233 (wrap64 (x6_2+1)))=some r:=by rw[if_pos rfl]at H;exact H
               clear H;have H:=H1;clear H1;have H':=aS H;clear H;obtain⟨Ao21,co21,eo21⟩:=Kd.R_slice HO_5.out;subst eo21;try go_wp2
               have n0_:=aS (Kd.R_drew HO_3.out);have n1_:=aS (Kd.R_drew HO_5.out);have n2_:=aS (below_drew1 HB.out);clear HO_3 HO_5 HB;have HO_3:=n0_;have HO_5:=n1_;have HB:=n2_;clear n0_ n1_ n2_;have p236:0≤(x4_1:Int):=of_decide_eq_true (by assumption)
               have q236:x4_1<(t228.length:Int):=of_decide_eq_true (by assumption)
               obtain⟨ad236,e236,hx236_0⟩:=Kd.at_int (Kd.R_reads' HO_3.out).2.2 x4_1 p236 q236;obtain rfl:ad231=ad236:=(by injection e236)
               replace p236:=eq_true p236;replace q236:=eq_true q236;have p237:0≤(x6_2:Int):=of_decide_eq_true (by assumption)
               have q237:x6_2<(t233.length:Int):=of_decide_eq_true (by assumption)
               obtain⟨ad237,e237,hx237_0⟩:=Kd.at_int (Kd.R_reads' HO_5.out).2.2 x6_2 p237 q237;cases e237
               replace p237:=eq_true p237;replace q237:=eq_true q237;refine start_ (n:=10) (S:=fun w'=>w'.cell? (ad231.add (x4_1).toNat)=some (.int .i64 (rd t228 x4_1))∧w'.cell? (ad237.add (x6_2).toNat)=some (.int .i64 (rd t233 x6_2))) (ds:=[]) #[false,false,false,false,false,false,false,false,false,false] (by kernel_rfl) rfl rfl ⟨hx236_0,hx237_0⟩ (fun hHeld=> ?_);refine with_tabW spec_CodeSafe.tab12 spec_CodeSafe.bits12 (fun HT_ HW_=> ?_)
               generalize wr.drew=w22 at HO_3 HO_5 HB hx236_0 hx237_0 hHeld⊢
               refine pure_ (i:=0) (N:=some 34) (v:= ?_) (a':= ?_) #[true,false,false,false,false,false,false,false,false,false] rfl rfl (any_of HT_.out (by kernel_rfl)) (fun _ _ _ h=>h) (Or.inl ⟨by rfl,?_⟩) ?_ ?_
               rotate_left
               ·intro w'
                go_simp
                with_reducible rfl
               rotate_left
               ·simp only[Act.put,List.setIfInBounds_toArray,List.set_cons_zero,List.set_cons_succ,i64_w,i32_w]
                rfl
               refine pure_ (i:=1) (N:=some 35) (v:= ?_) (a':= ?_) #[true,true,false,false,false,false,false,false,false,false] rfl rfl (any_of HT_.out (by kernel_rfl)) (fun _ _ _ h=>h) (Or.inl ⟨by rfl,?_⟩) ?_ ?_
               rotate_left
               ·intro w'
                go_simp
                with_reducible rfl
               rotate_left
               ·simp only[Act.put,List.setIfInBounds_toArray,List.set_cons_zero,List.set_cons_succ,i64_w,i32_w]
                rfl
               refine pure_ (i:=2) (N:=some 36) (v:= ?_) (a':= ?_) #[true,true,true,false,false,false,false,false,false,false] rfl rfl (any_of HT_.out (by kernel_rfl)) (fun _ _ _ h=>h) (Or.inl ⟨by rfl,?_⟩) ?_ ?_
               rotate_left
               ·intro w'
                go_simp
                with_reducible rfl
               rotate_left
               ·simp only[Act.put,List.setIfInBounds_toArray,List.set_cons_zero,List.set_cons_succ,i64_w,i32_w]
                rfl
               refine pure_ (i:=4) (N:=some 38) (v:= ?_) (a':= ?_) #[true,true,true,false,true,false,false,false,false,false] rfl rfl (any_of HT_.out (by kernel_rfl)) (fun _ _ _ h=>h) (Or.inl ⟨by rfl,?_⟩) ?_ ?_
               rotate_left
               ·intro w'
                go_simp
                with_reducible rfl
               rotate_left
               ·simp only[Act.put,List.setIfInBounds_toArray,List.set_cons_zero,List.set_cons_succ,i64_w,i32_w]
                rfl
               refine pure_ (i:=5) (N:=some 39) (v:= ?_) (a':= ?_) #[true,true,true,false,true,true,false,false,false,false] rfl rfl (any_of HT_.out (by kernel_rfl)) (fun _ _ _ h=>h) (Or.inl ⟨by rfl,?_⟩) ?_ ?_
               rotate_left
               ·intro w'
                go_simp
                with_reducible rfl
               rotate_left
               ·simp only[Act.put,List.setIfInBounds_toArray,List.set_cons_zero,List.set_cons_succ,i64_w,i32_w]
                rfl
               refine pure_ (i:=6) (N:=some 40) (v:= ?_) (a':= ?_) #[true,true,true,false,true,true,true,false,false,false] rfl rfl (any_of HT_.out (by kernel_rfl)) (fun _ _ _ h=>h) (Or.inl ⟨by rfl,?_⟩) ?_ ?_
               rotate_left
               ·intro w'
                go_simp
                with_reducible rfl
               rotate_left
               ·simp only[Act.put,List.setIfInBounds_toArray,List.set_cons_zero,List.set_cons_succ,i64_w,i32_w]
                rfl
               refine take_ (i:=3) (N:=some 37) (v:= ?_) (a':= ?_) #[true,true,true,true,true,true,true,false,false,false] rfl rfl (take_ofW HT_.out HW_.out (by kernel_rfl)) (fun _ _ _ h=>h) (Or.inl ⟨by rfl,?_⟩) hHeld ?_ ?_
               rotate_left
               ·rintro w' ⟨s0,s1⟩
                go_simp
                with_reducible rfl
               rotate_left
               ·simp only[Act.put,List.setIfInBounds_toArray,List.set_cons_zero,List.set_cons_succ,i64_w,i32_w]
                rfl
               refine take_ (i:=7) (N:=some 41) (v:= ?_) (a':= ?_) #[true,true,true,true,true,true,true,true,false,false] rfl rfl (take_ofW HT_.out HW_.out (by kernel_rfl)) (fun _ _ _ h=>h) (Or.inl ⟨by rfl,?_⟩) hHeld ?_ ?_
               rotate_left
               ·rintro w' ⟨s0,s1⟩
                go_simp
                with_reducible rfl
               rotate_left
               ·simp only[Act.put,List.setIfInBounds_toArray,List.set_cons_zero,List.set_cons_succ,i64_w,i32_w]
                rfl
               refine one_ (i:=8) (N:=some 42) #[true,true,true,true,true,true,true,true,true,false] rfl rfl (one_of HT_.out (by kernel_rfl)) (by decide) (fun K hK=> ?_)
               refine goes_ Tryz.func93 (by kernel_rfl) rfl #[.int .i64 (rd t228 x4_1),.int .i64 (rd t233 x6_2)] (by rfl) rfl rfl (by(try simp only[List.map_toArray,List.map_cons,List.map_nil])<;>rfl) ?_
               with_reducible refine(spec_l3Has.calls (rd t228 x4_1) (rd t233 x6_2) true _ A19.out).mono ?_
               rintro e w23 ⟨rfl,hb⟩
               have HS0_:=(hb.cell (World.block_lt_of_cell? _ _ (hHeld.1))).trans (hHeld.1);have HS1_:=(hb.cell (World.block_lt_of_cell? _ _ (hHeld.2))).trans (hHeld.2);refine⟨_,rfl,?_⟩
               have n0_:=aS (Kd.R_below (by exact rU HO_3.out) hb)
               have n1_:=aS (Kd.R_below (by exact rU HO_5.out) hb)
               have n2_:=aS (below_step (by exact bU HB.out) hb)
               clear HO_3 HO_5 HB;have HO_3:=n0_;have HO_5:=n1_;have HB:=n2_;clear n0_ n1_ n2_;(try clear hb)
               (try clear hb2)
               (try clear hk)
               (try clear hi)
               refine hK.out _ _ ⟨HS0_,HS1_⟩ (fun hHeld=> ?_)
               clear hK K;refine norm_ (a':= ?_) ?_ ?_
               rotate_left
               ·show Act.put _ (some 42) _=_
                simp only[Act.put,List.setIfInBounds_toArray,List.set_cons_zero,List.set_cons_succ,i64_w,i32_w]
                rfl
               refine pure_ (i:=9) (N:=some 43) (v:= ?_) (a':= ?_) #[true,true,true,true,true,true,true,true,true,true] rfl rfl (any_of HT_.out (by kernel_rfl)) (fun _ _ _ h=>h) (Or.inl ⟨by rfl,?_⟩) ?_ ?_
               rotate_left
               ·intro w'
                go_simp
                with_reducible rfl
               rotate_left
               ·simp only[Act.put,List.setIfInBounds_toArray,List.set_cons_zero,List.set_cons_succ,i64_w,i32_w]
                rfl
               refine done_ (done_of HT_.out (by kernel_rfl)) ?_
               try go_wp2
               go_roundg k2
               case measure=>have:=HK1.out;have:=HK2.out;omega
               case rel=>exact⟨(wrap64 (x6_2+1)),(by first|rfl|(simp;done)|(simp[*];done)),H',⟨by have:=HK1.out;have:=HK2.out;omega⟩,⟨by exact rU HO_3.out⟩,⟨by exact rU HO_5.out⟩,⟨by exact bU HB.out⟩⟩
              ·replace c20:=Bool.eq_false_iff.mpr c20
               subst c20;have H1:(some false)=some r:=by rw[if_neg (show¬(false=true) by decide)]at H;exact H
               clear H;have H:=H1;clear H1;obtain rfl:=Option.some.inj H;obtain⟨Ao24,co24,eo24⟩:=Kd.R_slice HO_5.out;subst eo24;try go_wp2
               have n0_:=aS (Kd.R_drew HO_3.out);have n1_:=aS (Kd.R_drew HO_5.out);have n2_:=aS (below_drew1 HB.out);clear HO_3 HO_5 HB;have HO_3:=n0_;have HO_5:=n1_;have HB:=n2_;clear n0_ n1_ n2_;have p236:0≤(x4_1:Int):=of_decide_eq_true (by assumption)
               have q236:x4_1<(t228.length:Int):=of_decide_eq_true (by assumption)
               obtain⟨ad236,e236,hx236_0⟩:=Kd.at_int (Kd.R_reads' HO_3.out).2.2 x4_1 p236 q236;obtain rfl:ad231=ad236:=(by injection e236)
               replace p236:=eq_true p236;replace q236:=eq_true q236;have p237:0≤(x6_2:Int):=of_decide_eq_true (by assumption)
               have q237:x6_2<(t233.length:Int):=of_decide_eq_true (by assumption)
               obtain⟨ad237,e237,hx237_0⟩:=Kd.at_int (Kd.R_reads' HO_5.out).2.2 x6_2 p237 q237;cases e237
               replace p237:=eq_true p237;replace q237:=eq_true q237;refine start_ (n:=10) (S:=fun w'=>w'.cell? (ad231.add (x4_1).toNat)=some (.int .i64 (rd t228 x4_1))∧w'.cell? (ad237.add (x6_2).toNat)=some (.int .i64 (rd t233 x6_2))) (ds:=[]) #[false,false,false,false,false,false,false,false,false,false] (by kernel_rfl) rfl rfl ⟨hx236_0,hx237_0⟩ (fun hHeld=> ?_);refine with_tabW spec_CodeSafe.tab12 spec_CodeSafe.bits12 (fun HT_ HW_=> ?_)
               generalize wr.drew=w25 at HO_3 HO_5 HB hx236_0 hx237_0 hHeld⊢
               refine pure_ (i:=0) (N:=some 34) (v:= ?_) (a':= ?_) #[true,false,false,false,false,false,false,false,false,false] rfl rfl (any_of HT_.out (by kernel_rfl)) (fun _ _ _ h=>h) (Or.inl ⟨by rfl,?_⟩) ?_ ?_
               rotate_left
               ·intro w'
                go_simp
                with_reducible rfl
               rotate_left
               ·simp only[Act.put,List.setIfInBounds_toArray,List.set_cons_zero,List.set_cons_succ,i64_w,i32_w]
                rfl
               refine pure_ (i:=1) (N:=some 35) (v:= ?_) (a':= ?_) #[true,true,false,false,false,false,false,false,false,false] rfl rfl (any_of HT_.out (by kernel_rfl)) (fun _ _ _ h=>h) (Or.inl ⟨by rfl,?_⟩) ?_ ?_
               rotate_left
               ·intro w'
                go_simp
                with_reducible rfl
               rotate_left
               ·simp only[Act.put,List.setIfInBounds_toArray,List.set_cons_zero,List.set_cons_succ,i64_w,i32_w]
                rfl
               refine pure_ (i:=2) (N:=some 36) (v:= ?_) (a':= ?_) #[true,true,true,false,false,false,false,false,false,false] rfl rfl (any_of HT_.out (by kernel_rfl)) (fun _ _ _ h=>h) (Or.inl ⟨by rfl,?_⟩) ?_ ?_
               rotate_left
               ·intro w'
                go_simp
                with_reducible rfl
               rotate_left
               ·simp only[Act.put,List.setIfInBounds_toArray,List.set_cons_zero,List.set_cons_succ,i64_w,i32_w]
                rfl
               refine pure_ (i:=4) (N:=some 38) (v:= ?_) (a':= ?_) #[true,true,true,false,true,false,false,false,false,false] rfl rfl (any_of HT_.out (by kernel_rfl)) (fun _ _ _ h=>h) (Or.inl ⟨by rfl,?_⟩) ?_ ?_
               rotate_left
               ·intro w'
                go_simp
                with_reducible rfl
               rotate_left
               ·simp only[Act.put,List.setIfInBounds_toArray,List.set_cons_zero,List.set_cons_succ,i64_w,i32_w]
                rfl
               refine pure_ (i:=5) (N:=some 39) (v:= ?_) (a':= ?_) #[true,true,true,false,true,true,false,false,false,false] rfl rfl (any_of HT_.out (by kernel_rfl)) (fun _ _ _ h=>h) (Or.inl ⟨by rfl,?_⟩) ?_ ?_
               rotate_left
               ·intro w'
                go_simp
                with_reducible rfl
               rotate_left
               ·simp only[Act.put,List.setIfInBounds_toArray,List.set_cons_zero,List.set_cons_succ,i64_w,i32_w]
                rfl
               refine pure_ (i:=6) (N:=some 40) (v:= ?_) (a':= ?_) #[true,true,true,false,true,true,true,false,false,false] rfl rfl (any_of HT_.out (by kernel_rfl)) (fun _ _ _ h=>h) (Or.inl ⟨by rfl,?_⟩) ?_ ?_
               rotate_left
               ·intro w'
                go_simp
                with_reducible rfl
               rotate_left
               ·simp only[Act.put,List.setIfInBounds_toArray,List.set_cons_zero,List.set_cons_succ,i64_w,i32_w]
                rfl
               refine take_ (i:=3) (N:=some 37) (v:= ?_) (a':= ?_) #[true,true,true,true,true,true,true,false,false,false] rfl rfl (take_ofW HT_.out HW_.out (by kernel_rfl)) (fun _ _ _ h=>h) (Or.inl ⟨by rfl,?_⟩) hHeld ?_ ?_
               rotate_left
               ·rintro w' ⟨s0,s1⟩
                go_simp
                with_reducible rfl
               rotate_left
               ·simp only[Act.put,List.setIfInBounds_toArray,List.set_cons_zero,List.set_cons_succ,i64_w,i32_w]
                rfl
               refine take_ (i:=7) (N:=some 41) (v:= ?_) (a':= ?_) #[true,true,true,true,true,true,true,true,false,false] rfl rfl (take_ofW HT_.out HW_.out (by kernel_rfl)) (fun _ _ _ h=>h) (Or.inl ⟨by rfl,?_⟩) hHeld ?_ ?_
               rotate_left
               ·rintro w' ⟨s0,s1⟩
                go_simp
                with_reducible rfl
               rotate_left
               ·simp only[Act.put,List.setIfInBounds_toArray,List.set_cons_zero,List.set_cons_succ,i64_w,i32_w]
                rfl
               refine one_ (i:=8) (N:=some 42) #[true,true,true,true,true,true,true,true,true,false] rfl rfl (one_of HT_.out (by kernel_rfl)) (by decide) (fun K hK=> ?_)
               refine goes_ Tryz.func93 (by kernel_rfl) rfl #[.int .i64 (rd t228 x4_1),.int .i64 (rd t233 x6_2)] (by rfl) rfl rfl (by(try simp only[List.map_toArray,List.map_cons,List.map_nil])<;>rfl) ?_
               with_reducible refine(spec_l3Has.calls (rd t228 x4_1) (rd t233 x6_2) false _ A19.out).mono ?_
               rintro e w26 ⟨rfl,hb⟩
               have HS0_:=(hb.cell (World.block_lt_of_cell? _ _ (hHeld.1))).trans (hHeld.1);have HS1_:=(hb.cell (World.block_lt_of_cell? _ _ (hHeld.2))).trans (hHeld.2);refine⟨_,rfl,?_⟩
               have n0_:=aS (Kd.R_below (by exact rU HO_3.out) hb)
               have n1_:=aS (Kd.R_below (by exact rU HO_5.out) hb)
               have n2_:=aS (below_step (by exact bU HB.out) hb)
               clear HO_3 HO_5 HB;have HO_3:=n0_;have HO_5:=n1_;have HB:=n2_;clear n0_ n1_ n2_;(try clear hb)
               (try clear hb2)
               (try clear hk)
               (try clear hi)
               refine hK.out _ _ ⟨HS0_,HS1_⟩ (fun hHeld=> ?_)
               clear hK K;refine norm_ (a':= ?_) ?_ ?_
               rotate_left
               ·show Act.put _ (some 42) _=_
                simp only[Act.put,List.setIfInBounds_toArray,List.set_cons_zero,List.set_cons_succ,i64_w,i32_w]
                rfl
               refine pure_ (i:=9) (N:=some 43) (v:= ?_) (a':= ?_) #[true,true,true,true,true,true,true,true,true,true] rfl rfl (any_of HT_.out (by kernel_rfl)) (fun _ _ _ h=>h) (Or.inl ⟨by rfl,?_⟩) ?_ ?_
               rotate_left
               ·intro w'
                go_simp
                with_reducible rfl
               rotate_left
               ·simp only[Act.put,List.setIfInBounds_toArray,List.set_cons_zero,List.set_cons_succ,i64_w,i32_w]
                rfl
               refine done_ (done_of HT_.out (by kernel_rfl)) ?_
               try go_wp2
               go_ret
               exact⟨by first|rfl|(simp[*]<;>rfl),by exact bU HB.out⟩
             ·rw[if_neg c18]at H
              exact absurd H (by simp)
            ·rw[if_neg c17]at H
             exact absurd H (by simp)
           ·rw[if_neg c16]at H
            exact absurd H (by simp)
          ·rw[if_neg c15]at H
           have c15b0:decide (x6_2<(t233.length:Int))=false:=decide_eq_false c15;clear c15;have HC27:=aS H;clear H;obtain⟨Ao28,co28,eo28⟩:=Kd.R_slice HO_5.out;subst eo28;go_upto_region 14 with (fail)
           go_cut [64] (fun v64 wc=> ∃ (kq:Nat) (x64_26:Bool),v64= .bool x64_26∧Aside0 (spec_CodeSafe.j2 kq l0 t228 x4_1 x64_26=some r)∧Aside0 (kq≤k2)∧Aside0 (Kd.R (Kd.int .i64) 3 wc w.heap.size (fun _=>True) (.slice (some ad231) t228.length co13) t228)∧Aside0 (Below w.heap.size w wc))
           case first=>
            have H:=HC27.out;clear HC27;by_cases c29:(wrap64 (x4_1+1))=(l0.length:Int)
            ·rw[if_pos c29]at H
             have c29b0:((wrap64 (x4_1+1))==(l0.length:Int))=true:=beq_iff_eq.mpr c29;have c29b1:((wrap64 (x4_1+1)) !=(l0.length:Int))=false:=bne_eq_false_iff_eq.mpr c29;clear c29;(first|rw[c29b0]|(simp only[i64_w,i32_w];rw[c29b0])|skip)
             by_cases c30:0≤x4_1
             ·rw[if_pos c30]at H
              have c30b0:decide (0≤x4_1)=true:=decide_eq_true c30;clear c30;by_cases c31:x4_1<(l0.length:Int)
              ·rw[if_pos c31]at H
               have c31b0:decide (x4_1<(l0.length:Int))=true:=decide_eq_true c31;clear c31;by_cases c32:((rd_T39 l0 x4_1).f0)=9
               ·rw[if_pos c32]at H
                have c32b0:(((rd_T39 l0 x4_1).f0)==9)=true:=beq_iff_eq.mpr c32;have c32b1:(((rd_T39 l0 x4_1).f0) !=9)=false:=bne_eq_false_iff_eq.mpr c32;clear c32;have H':=aS H;clear H;have p239:0≤(x4_1:Int):=of_decide_eq_true (by assumption)
                have q239:x4_1<(l0.length:Int):=of_decide_eq_true (by assumption)
                obtain⟨ad239,e239,hx239_0,hx239_1,hx239_2,hx239_3,hx239_4,hx239_5⟩:=at_T39 HR0.out x4_1 p239 q239;obtain rfl:ad232=ad239:=(by injection e239)
                replace hx239_0:=(HB.out.cell (World.block_lt_of_cell? w _ hx239_0)).trans hx239_0;replace hx239_1:=(HB.out.cell (World.block_lt_of_cell? w _ hx239_1)).trans hx239_1;replace hx239_2:=(HB.out.cell (World.block_lt_of_cell? w _ hx239_2)).trans hx239_2;replace hx239_3:=(HB.out.cell (World.block_lt_of_cell? w _ hx239_3)).trans hx239_3;replace hx239_4:=(HB.out.cell (World.block_lt_of_cell? w _ hx239_4)).trans hx239_4;replace hx239_5:=(HB.out.cell (World.block_lt_of_cell? w _ hx239_5)).trans hx239_5;replace p239:=eq_true p239;replace q239:=eq_true q239;go_wp2
                go_meet
                case rel=>exact⟨_,(false),(by first|rfl|(simp;done)|(simp[*];done)),H',⟨by have:=HK1.out;have:=HK2.out;first|omega|exact Nat.le_refl _⟩,⟨by exact rU (Kd.R_mono HO_3.out (fun _ hk=>trivial))⟩,⟨by exact bU HB.out⟩⟩
               ·rw[if_neg c32]at H
                have c32b0:(((rd_T39 l0 x4_1).f0)==9)=false:=beq_eq_false_iff_ne.mpr c32;have c32b1:(((rd_T39 l0 x4_1).f0) !=9)=true:=bne_iff_ne.mpr c32;have H':=aS H;clear H;have p239:0≤(x4_1:Int):=of_decide_eq_true (by assumption)
                have q239:x4_1<(l0.length:Int):=of_decide_eq_true (by assumption)
                obtain⟨ad239,e239,hx239_0,hx239_1,hx239_2,hx239_3,hx239_4,hx239_5⟩:=at_T39 HR0.out x4_1 p239 q239;obtain rfl:ad232=ad239:=(by injection e239)
                replace hx239_0:=(HB.out.cell (World.block_lt_of_cell? w _ hx239_0)).trans hx239_0;replace hx239_1:=(HB.out.cell (World.block_lt_of_cell? w _ hx239_1)).trans hx239_1;replace hx239_2:=(HB.out.cell (World.block_lt_of_cell? w _ hx239_2)).trans hx239_2;replace hx239_3:=(HB.out.cell (World.block_lt_of_cell? w _ hx239_3)).trans hx239_3;replace hx239_4:=(HB.out.cell (World.block_lt_of_cell? w _ hx239_4)).trans hx239_4;replace hx239_5:=(HB.out.cell (World.block_lt_of_cell? w _ hx239_5)).trans hx239_5;replace p239:=eq_true p239;replace q239:=eq_true q239;have p240:0≤(x4_1:Int):=of_decide_eq_true (by assumption)
                have q240:x4_1<(l0.length:Int):=of_decide_eq_true (by assumption)
                obtain⟨ad240,e240,hx240_0,hx240_1,hx240_2,hx240_3,hx240_4,hx240_5⟩:=at_T39 HR0.out x4_1 p240 q240;obtain rfl:ad232=ad240:=(by injection e240)
                replace hx240_0:=(HB.out.cell (World.block_lt_of_cell? w _ hx240_0)).trans hx240_0;replace hx240_1:=(HB.out.cell (World.block_lt_of_cell? w _ hx240_1)).trans hx240_1;replace hx240_2:=(HB.out.cell (World.block_lt_of_cell? w _ hx240_2)).trans hx240_2;replace hx240_3:=(HB.out.cell (World.block_lt_of_cell? w _ hx240_3)).trans hx240_3;replace hx240_4:=(HB.out.cell (World.block_lt_of_cell? w _ hx240_4)).trans hx240_4;replace hx240_5:=(HB.out.cell (World.block_lt_of_cell? w _ hx240_5)).trans hx240_5;replace p240:=eq_true p240;replace q240:=eq_true q240;go_wp2
                go_meet
                case rel=>exact⟨_,((((rd_T39 l0 x4_1).f0) !=14)),(by first|rfl|(simp;done)|(simp[*];done)),H',⟨by have:=HK1.out;have:=HK2.out;first|omega|exact Nat.le_refl _⟩,⟨by exact rU (Kd.R_mono HO_3.out (fun _ hk=>trivial))⟩,⟨by exact bU HB.out⟩⟩
              ·rw[if_neg c31]at H
               exact absurd H (by simp)
             ·rw[if_neg c30]at H
              exact absurd H (by simp)
            ·rw[if_neg c29]at H
             have c29b0:((wrap64 (x4_1+1))==(l0.length:Int))=false:=beq_eq_false_iff_ne.mpr c29;have c29b1:((wrap64 (x4_1+1)) !=(l0.length:Int))=true:=bne_iff_ne.mpr c29;(first|rw[c29b0]|(simp only[i64_w,i32_w];rw[c29b0])|skip)
             have H':=aS H;clear H;go_wp2
             go_meet
             case rel=>exact⟨_,(false),(by first|rfl|(simp;done)|(simp[*];done)),H',⟨by have:=HK1.out;have:=HK2.out;first|omega|exact Nat.le_refl _⟩,⟨by exact rU (Kd.R_mono HO_3.out (fun _ hk=>trivial))⟩,⟨by exact bU HB.out⟩⟩
           case rest=>
            clear HC27;(try clear c1);(try clear c2);(try clear p2);(try clear q2);(try clear hx2);(try clear c3);(try clear p6);(try clear c7);(try clear c7b0);(try clear c8);(try clear c8b0);(try clear c9);(try clear c9b0);(try clear c10);(try clear c10b0);(try clear c15);(try clear c15b0);(try clear c16);(try clear c16b0);(try clear c17);(try clear c17b0);(try clear c18);(try clear c18b0);(try clear c19);(try clear c20);(try clear p23);(try clear q23);(try clear hx23);(try clear p24);(try clear q24);(try clear hx24);(try clear c29);(try clear c29b0);(try clear c29b1);(try clear c30);(try clear c30b0);(try clear c31);(try clear c31b0);(try clear c32);(try clear c32b0);(try clear c32b1);(try clear hx231_0);(try clear hx232_0);(try clear hx232_1);(try clear hx232_2);(try clear hx232_3);(try clear hx232_4);(try clear hx232_5);(try clear hx236_0);(try clear hx237_0);(try clear hx239_0);(try clear hx239_1);(try clear hx239_2);(try clear hx239_3);(try clear hx239_4);(try clear hx239_5);(try clear hx240_0);(try clear hx240_1);(try clear hx240_2);(try clear hx240_3);(try clear hx240_4);(try clear hx240_5);(try clear p2);(try clear p231);(try clear p232);(try clear p236);(try clear p237);(try clear p239);(try clear p240);(try clear p6);(try clear q2);(try clear q231);(try clear q232);(try clear q236);(try clear q237);(try clear q239);(try clear q240)
            obtain⟨kq,x64_26,rfl,HA,HJ26,HO_3,HB⟩:=hcut;cases kq with
            |zero=>exact absurd HA.out (by simp[spec_CodeSafe.j2])
            |succ kj26=>
             have H:=HA.out;clear HA;simp only[spec_CodeSafe.j2]at H
             by_cases c33:x64_26=true
             ·subst c33
              have H1:(some false)=some r:=by rw[if_pos rfl]at H;exact H
              clear H;have H:=H1;clear H1;obtain rfl:=Option.some.inj H;go_wp2
              go_ret
              exact⟨by first|rfl|(simp[*]<;>rfl),by exact bU HB.out⟩
             ·replace c33:=Bool.eq_false_iff.mpr c33
              subst c33;have H1:(spec_CodeSafe.l0 kj26 l0 t228 (wrap64 (x4_1+1)))=some r:=by rw[if_neg (show¬(false=true) by decide)]at H;exact H
              clear H;have H:=H1;clear H1;have H':=aS H;clear H;go_wp2
              go_roundg kj26
              case measure=>have:=HK1.out;have:=HK2.out;have:=HJ26.out;omega
              case rel=>exact⟨(wrap64 (x4_1+1)),(by first|rfl|(simp;done)|(simp[*];done)),H',⟨by have:=HK1.out;have:=HK2.out;have:=HJ26.out;omega⟩,⟨by exact rU HO_3.out⟩,⟨by exact bU HB.out⟩⟩
      ·rw[if_neg c9]at H
       exact absurd H (by simp)
     ·rw[if_neg c8]at H
      exact absurd H (by simp)
    ·rw[if_neg c7]at H
     have c7b0:decide (x4_1<(l0.length:Int))=false:=decide_eq_false c7;clear c7;obtain rfl:=Option.some.inj H;go_wp2
     go_ret
     exact⟨by first|rfl|(simp[*]<;>rfl),by exact bU HB.out⟩
 ·replace c3:=Bool.eq_false_iff.mpr c3
  subst c3;have H1:(some false)=some r:=by rw[if_neg (show¬(false=true) by decide)]at H;exact H
  clear H;have H:=H1;clear H1;obtain rfl:=Option.some.inj H;go_enter Tryz.func75,Tryz.ntmps75
  go_wp2_with (first|((with_reducible refine gate_callee (f:=19) rfl ?_);refine goesL_ (some 8) rfl rfl Tryz.func19 (by kernel_rfl) rfl #[.slice A0 l0.length c0] rfl (by(try simp only[List.map_toArray,List.map_cons,List.map_nil])<;>rfl) ?_;(with_reducible refine(spec_CodeOk_as.calls _ _ l0 false _ ?side1 ?side2 A2.out).mono ?_);(case side1=>exact CU HR0.out);(case side2=>exact HC0.out);rintro e w34 ⟨rfl,hb⟩;refine⟨_,rfl,?_⟩;replace HB:=aS (below_step (by exact bU HB.out) hb);(try clear hb)))
  go_ret
  exact⟨by first|rfl|(simp[*]<;>rfl),by exact bU HB.out⟩
end Go.Proofs.YtmklpbmlgjkbiaaGreatDoor.PD
end
section
namespace Go.Proofs.YtmklpbmlgjkbiaaGreatDoor.PS
open Go.RowKit Go.Proofs.YtmklpbmlgjkbiaaGreatDoorW.PrintWords Go.Proofs.YtmklpbmlgjkbiaaGreatDoorW.PrintLast
def cutStep (s:ByteArray) (a:Int) (out:List ByteArray) (i:Nat):List ByteArray:=
  if bt s i=a then out++ [⟨#[]⟩]else out.set (out.length-1) (rdOf ByteArray.empty out ((out.length:Int)-1)++strOfNums [bt s i])
def cutTo (s:ByteArray) (a:Int) (n:Nat):List ByteArray:=(List.range n).foldl (cutStep s a) [⟨#[]⟩]
def cutV.f (s:ByteArray) (a:Int):Option (List ByteArray):=if s.size≤1000 then some (cutTo s a s.size)else none
theorem cut_succ (s:ByteArray) (a:Int) (n:Nat):cutTo s a (n+1)=cutStep s a (cutTo s a n) n:=by
  unfold cutTo;rw[List.range_succ,List.foldl_append];rfl
theorem cut_len (s:ByteArray) (a:Int) (n:Nat):1≤(cutTo s a n).length∧(cutTo s a n).length≤n+1:=by
  induction n with
  |zero=>exact⟨Nat.le_refl _,Nat.le_refl _⟩
  |succ n ih=>rw[cut_succ];unfold cutStep;split<;>simp<;>omega
theorem strOf_size (x:Int):(strOfNums [x]).size=1:=rfl
theorem cut_sizes (s:ByteArray) (a:Int) (n:Nat): ∀x∈cutTo s a n,x.size≤n:=by
  induction n with
  | zero => intro x hx; have : x = ⟨#[]⟩ := by simpa [cutTo] using hx
            rw[this];exact Nat.le_refl _
  |succ n ih=>
    rw[cut_succ];unfold cutStep;have h1:=(cut_len s a n).1;split
    · intro x hx
      rcases List.mem_append.1 hx with hx|hx
      · exact Nat.le_succ_of_le (ih x hx)
      · have:x=⟨#[]⟩:=by simpa using hx
        rw[this];exact Nat.zero_le _
    · intro x hx
      rcases List.mem_or_eq_of_mem_set hx with hx|hx
      · exact Nat.le_succ_of_le (ih x hx)
      · rw[hx,ByteArray.size_append,strOf_size]
        have:rdOf ByteArray.empty (cutTo s a n) (((cutTo s a n).length:Int)-1)∈cutTo s a n:=by
          unfold rdOf;rw[List.getD_eq_getElem?_getD,List.getElem?_eq_getElem (by omega)]
          exact List.getElem_mem _
        have:=ih _ this;omega
def CI (w:World) (v:Value) (out:List ByteArray) (wr:World):Prop:=Kd.R Kd.string 9 wr w.heap.size (fun _=>True) v out∧Below w.heap.size w wr
theorem cut_walk (a0:ByteArray) (a1:Int) (w:World) (hm:a0.size≤1000):
    Calls Tryz.prog 17 #[.string a0,.int .u8 a1] w fun e w'=> ∃v0_:Value,e= .returned (v0_)∧Kd.R Kd.string 9 w' w.heap.size (fun _=>True) v0_ (cutTo a0 a1 a0.size)∧Below w.heap.size w w':=by
  go_enter Tryz.func17,Tryz.ntmps17
  go_wp2_with (first|((with_reducible refine gate_dst (N:=7) rfl ?_);refine Kd.R_lit Kd.string _ 9 ?hg (N:=7) ?hd (xs:=([(⟨#[]⟩:ByteArray)]:List ByteArray)) (inner:=[.string (⟨#[]⟩:ByteArray)]) (ok:=fun _=>True) (okp:=fun _=>True) ?hr ?hp (fun _ hk=>hk) trivial (Below.refl _ _) (Nat.le_refl _) (by simp) ?_;(case hd=>rfl);(case hg=>rfl);(case hr=>go_simp<;>rfl);(case hp=>exact(Reps.one (show Kd.M Kd.string _ _ _ (⟨#[]⟩:ByteArray) [.string (⟨#[]⟩:ByteArray)]from rfl) (Reps.none _ _)));intro v1 w1 h1 b1 _ _;have HS:Aside0 (CI w v1 (cutTo a0 a1 0) w1):=⟨h1,b1⟩;clear h1 b1))
  go_loopg [5,6] a0.size (fun gg s5 s6 wr=> ∃i:Nat,i≤a0.size∧a0.size-i≤gg∧s6= .int .i64 (i:Int)∧Aside0 (CI w s5 (cutTo a0 a1 i) wr))
  case atStart=>exact⟨0,Nat.zero_le _,Nat.sub_le _ _,rfl,HS⟩
  case round=>
    clear HS;obtain⟨i,hi,hgg,rfl,HS⟩:=hrel;by_cases hlt:i<a0.size
    · have hltz:(i:Int)<(a0.size:Int):=by omega
      have h0z:(0:Int)≤(i:Int):=by omega
      have hcl:=cut_len a0 a1 i;have hbt:bt a0 (i:Int)=((a0[i]'hlt).toNat:Int):=by unfold bt;rw[dif_pos (by simpa using hlt)];rfl
      obtain⟨out,hout⟩: ∃out,out=cutTo a0 a1 i:=⟨_,rfl⟩;have hsc:=cut_succ a0 a1 i;rw[←hout]at hcl HS hsc
      obtain⟨N,hN⟩: ∃N,out.length=N+1:=⟨out.length-1,by omega⟩
      have HSC:=aS hsc;have HBT:=aS hbt;have HN:=aS hN;have hN2:N<1000:=by omega
      by_cases hq:bt a0 i=a1
      · have e1:((a0[i].toNat:Int)==a1)=true:=by rw[←hbt];simpa using hq
        have HC:Aside0 (cutTo a0 a1 (i+1)=out++ [⟨#[]⟩]):=⟨by rw[hsc];unfold cutStep;rw[if_pos hq]⟩
        obtain⟨k1,k2⟩:=HS.out;obtain⟨A5,c5,rfl⟩:=Kd.R_slice k1;obtain⟨i0,hi_,hz0,hz1,hz2⟩:=info_parts info9;have K3:=aS (Kd.own_of_R k1);have K2:=aS k2;have hol:=hcl.2;clear hq hbt hout hsc hN k1 k2 HS hcl;go_wp2_with (at_builtin;refine wpList_append_own _ rfl _ _ 34 rfl w.heap.size 9 i0 (.string ⟨#[]⟩) 1 16 Tryz.underlying34 hi_ hz0 hz1 hz2 rfl (by decide) _ _ _ rfl (K3.out.alloc _) ⟨_,0,none⟩ 1 1 [.string ⟨#[]⟩] rfl rfl (cell_one_new _ _ _) (by simp[Value.oneCell']) (by unfold maxLen;omega) (by omega) (by have:=K2.out.size;simp;omega) ?_;intro v' w9 hown' hgrow _)
        go_roundg (a0.size- (i+1))
        case measure=>omega
        case rel=>
          have hB9:=(below_alloc K2.out _).grown hgrow (below_alloc K2.out _).size (fun b hb=>own_base K3.out b hb)
          refine⟨i+1,by omega,by omega,by go_num,⟨?_,hB9⟩⟩
          rw[HC.out];refine Kd.R_of_own ?_ (fun _ _=>trivial)
          have e:encs Value.string (out++ [⟨#[]⟩])=encs Value.string out++ [.string ⟨#[]⟩]:=by simp[encs]
          rw[e,List.length_append];exact hown'
      · have e1:((a0[i].toNat:Int)==a1)=false:=by rw[←hbt];simpa using hq
        obtain⟨k1,k2⟩:=HS.out;obtain⟨g,cap,e5,gb,gl,cl,gh⟩:=Kd.R_form k1 (by omega)
        subst e5;obtain⟨x0,x1⟩:=Kd.R_celln ByteArray.empty k1 (N:Int) (by omega) (by omega)
        rw[Int.toNat_natCast]at x0 x1
        have K1:=aS k1;have K2:=aS k2;rw[hN];have GB:=aS gb
        have HC:Aside0 (cutTo a0 a1 (i+1)=out.set N (rdOf ByteArray.empty out (N:Int)++strOfNums [(a0[i].toNat:Int)])):=⟨by
          rw[hsc];unfold cutStep;rw[if_neg hq,hN,hbt,show((N+1:Nat):Int)-1=(N:Int) by omega];rfl⟩
        clear hq hbt hsc hN k1 k2 HS gb gl gh hcl
        have hsz:(rdOf ByteArray.empty out (N:Int)).size≤1000:=by
          have:=cut_sizes a0 a1 i (rdOf ByteArray.empty out (N:Int)) (by
            rw[←hout];unfold rdOf;rw[List.getD_eq_getElem?_getD,List.getElem?_eq_getElem (by rw[Int.toNat_natCast];have:=HN.out;omega)]
            exact List.getElem_mem _)
          omega
        obtain⟨last,hlast⟩: ∃last,last=rdOf ByteArray.empty out (N:Int):=⟨_,rfl⟩;rw[←hlast]at hsz x0
        have HLA:=aS hlast;have hso:=strOf_size (a0[i].toNat:Int);have hs1:decide (last.size+(strOfNums [(a0[i].toNat:Int)]).size≤9223372036854775807)=true:=decide_eq_true (by rw[hso];omega)
        have hs2:(9223372036854775807<last.size+(strOfNums [(a0[i].toNat:Int)]).size)=False:=eq_false (by rw[hso];omega)
        have hs3:(last.size+(strOfNums [(a0[i].toNat:Int)]).size≤9223372036854775807)=True:=eq_true (by rw[hso];omega)
        have hcv:(convert 28 9 (.slice (some ⟨wr.heap.size,0,none⟩) 1 1)).run Tryz.prog ((wr.alloc (.cells #[.int .u8 (a0[i].toNat:Int)] 5)).drew)= .ok (.string (strOfNums [(a0[i].toNat:Int)])) ((wr.alloc (.cells #[.int .u8 (a0[i].toNat:Int)] 5)).drew):=by
          have hr:ReadsInt ((wr.alloc (.cells #[.int .u8 (a0[i].toNat:Int)] 5)).drew) .u8 (some ⟨wr.heap.size,0,none⟩) 1 [(a0[i].toNat:Int)]:=⟨rfl,by omega,fun _=>⟨_,rfl,fun j hj=>by
            obtain rfl:j=0:=by omega
            exact(blk_cell (blk_new wr (.cells #[.int .u8 (a0[i].toNat:Int)] 5)) 0).trans rfl⟩⟩
          exact string_of_reads Tryz.underlying28 Tryz.underlying5 Tryz.underlying9 hr
        have hbl:=below_alloc (Below.refl wr.heap.size wr) (.cells #[.int .u8 (a0[i].toNat:Int)] 5);have p0:=(hbl.cell (World.block_lt_of_cell? wr _ x0)).trans x0;have p1:=(hbl.frozen (World.block_lt_of_cell? wr _ x0)).trans x1;clear hbl hlast hso hsz hout;go_wp2
        go_region
        have HC2:Aside0 (CI w (.slice (some ⟨g,0,none⟩) (N+1) cap) (cutTo a0 a1 (i+1)) (((wr.alloc (.cells #[.int .u8 (a0[i].toNat:Int)] 5)).setCell ⟨g,N,none⟩ (.string (last++strOfNums [(a0[i].toNat:Int)]))).drew)):=⟨by
          have h1:=(Kd.R_putg (Kd.R_alloc K1.out (.cells #[.int .u8 (a0[i].toNat:Int)] 5)) (N:Int) (last++strOfNums [(a0[i].toNat:Int)])).1;rw[Int.toNat_natCast,HN.out]at h1
          rw[HC.out,←HLA.out];exact⟨Kd.R_drew h1,below_drew (below_set (below_alloc K2.out _) GB.out)⟩⟩
        go_wp2
        go_roundg (a0.size- (i+1))
        case measure=>omega
        case rel=>exact⟨i+1,by omega,by omega,by go_num,HC2⟩
    · have hltz: ¬(i:Int)<(a0.size:Int):=by omega
      obtain rfl:i=a0.size:=by omega
      go_wp2
      go_ret
      exact⟨_,rfl,HS.out.1,HS.out.2⟩
theorem spec_l2Cut.calls (a0:ByteArray) (a1:Int) (r:List ByteArray) (w:World) (h:cutV.f a0 a1=some r):
    Calls Tryz.prog 17 #[.string a0,.int .u8 a1] w fun e w'=> ∃v0_:Value,e= .returned (v0_)∧Kd.R Kd.string 9 w' w.heap.size (fun _=>True) v0_ r∧Below w.heap.size w w':=by
  unfold cutV.f at h;split at h
  · obtain rfl:=Option.some.inj h
    exact cut_walk a0 a1 w (by assumption)
  · cases h
end Go.Proofs.YtmklpbmlgjkbiaaGreatDoor.PS
end
section
namespace Go.Proofs.YtmklpbmlgjkbiaaGreatDoor.PT
open Go.RowKit Go.Proofs.YtmklpbmlgjkbiaaGreatDoorW.PrintWords Go.Proofs.YtmklpbmlgjkbiaaGreatDoorW.PrintLast Go.Proofs.YtmklpbmlgjkbiaaGreatDoorW.PrintMore Go.Proofs.YtmklpbmlgjkbiaaGreatDoor.PS
attribute [local go_sem] max2_int min2_int max_two min_two max_three min_three max_four min_four   -- for this text's walks alone
def errW:Option Int→Value
  |none=>.nilIface
  |some c=>.iface 0 (.int .i64 c)
theorem errW_none:errW none= .nilIface:=rfl
theorem errW_some (c:Int):errW (some c)= .iface 0 (.int .i64 c):=rfl
end Go.Proofs.YtmklpbmlgjkbiaaGreatDoor.PT
end
section
namespace Go.Proofs.YtmklpbmlgjkbiaaGreatDoor.PS
open Go.RowKit Go.Proofs.YtmklpbmlgjkbiaaGreatDoorW.PrintWords Go.Proofs.YtmklpbmlgjkbiaaGreatDoorW.PrintLast Go.Proofs.YtmklpbmlgjkbiaaGreatDoorW.PrintMore
attribute [local go_sem] max2_int min2_int max_two min_two max_three min_three max_four min_four   -- for this text's walks alone
mutual
def spec_l1Dec.j0:Nat→ByteArray→Int→Bool→Option (Int×Bool)
 |0,_,_,_=>none
 |k+1,x0,x4,x14=>if x14=true then(if 1≤(x0.size:Int)then(spec_l1Dec.j1 k (x0.extract 1 x0.size) (-1))else(none))else(spec_l1Dec.j1 k x0 x4)
def spec_l1Dec.j1:Nat→ByteArray→Int→Option (Int×Bool)
 |0,_,_=>none
 |k+1,x0,x4=>(spec_l6In.f (x0.size:Int) 1 2).bind fun t149=>(if t149=true then(spec_l1Dec.l0 k x0 x4 0 0)else(some (0,false)))
def spec_l1Dec.l0:Nat→ByteArray→Int→Int→Int→Option (Int×Bool)
 |0,_,_,_,_=>none
 |k+1,x0,x4,x5,x6=>if x6<(x0.size:Int)then(if 0≤x6 then(if(bt x0 x6)<48 then(spec_l1Dec.j3 k x0 x4 x5 x6 true)else(spec_l1Dec.j3 k x0 x4 x5 x6 (decide ((bt x0 x6)>57))))else(none))else(some (wrap64 (x4*x5),true))
def spec_l1Dec.j3:Nat→ByteArray→Int→Int→Int→Bool→Option (Int×Bool)
 |0,_,_,_,_,_=>none
 |k+1,x0,x4,x5,x6,x36=>if x36=true then(some (0,false))else(if 0≤x6 then(if x6<(x0.size:Int)then(spec_l1Dec.l0 k x0 x4 (wrap64 ((wrap64 (10*x5))+(((bt x0 x6)-48)%256))) (wrap64 (x6+1)))else(none))else(none))
end
def spec_l1Dec.f (k:Nat) (a0:ByteArray):Option (Int×Bool):=if(a0.size:Int)>1 then(if 0<(a0.size:Int)then(spec_l1Dec.j0 k a0 1 ((bt a0 0)==45))else(none))else(spec_l1Dec.j0 k a0 1 false)
theorem spec_l1Dec.calls (k:Nat) (a0:ByteArray) (r1:Int) (r2:Bool) (w:World) (h:spec_l1Dec.f k a0=some (r1,r2)):
  Calls Tryz.prog 39 #[.string a0] w fun e w'=>e= .returned (.tuple #[.int .i64 r1,.bool r2])∧Drawn0 w w':=by
 have H:(if(a0.size:Int)>1 then(if 0<(a0.size:Int)then(spec_l1Dec.j0 k a0 1 ((bt a0 0)==45))else(none))else(spec_l1Dec.j0 k a0 1 false))=some (r1,r2):=h
 clear h;have HC2:=aS H;clear H;go_enter Tryz.func39,Tryz.ntmps39
 go_upto_region 2 with (fail)
 go_cut [14] (fun v14 wc=> ∃ (kq:Nat) (x14_1:Bool),v14= .bool x14_1∧Aside0 (spec_l1Dec.j0 kq a0 1 x14_1=some (r1,r2))∧Aside0 (kq≤k)∧Drawn0 w wc)
 case first=>
  have H:=HC2.out;clear HC2;by_cases c3:(a0.size:Int)>1
  ·rw[if_pos c3]at H
   have c3b0:decide (1<(a0.size:Int))=true:=decide_eq_true c3;have c3b1:decide (1<a0.size)=true:=decide_eq_true (by omega)
   clear c3;(first|rw[c3b0]|(simp only[i64_w,i32_w];rw[c3b0])|skip)
   by_cases c4:0<(a0.size:Int)
   ·rw[if_pos c4]at H
    have c4b0:decide (0<(a0.size:Int))=true:=decide_eq_true c4;have c4b1:decide (0<a0.size)=true:=decide_eq_true (by omega)
    clear c4;have H':=aS H;clear H;have p5:0≤(0:Int):=(by omega)
    have q5:0<a0.size:=(by have:(0:Int)<(a0.size:Int):=of_decide_eq_true (by assumption);omega)
    have hx5: ∀h:0<a0.size,((a0[0]'h).toNat:Int)=bt a0 0:=bt_at a0 0;clear p5;have qi5:(0<(a0.size:Int))=True:=eq_true (of_decide_eq_true (by assumption))
    replace q5:=eq_true q5;go_wp2
    go_meet
    case rel=>exact⟨_,(((bt a0 0)==45)),(by first|rfl|(simp;done)|(simp[*];done)),H',⟨by first|omega|exact Nat.le_refl _⟩,by repeat(first|exact Drawn0.refl _|apply Drawn0.step)⟩
   ·rw[if_neg c4]at H
    exact absurd H (by simp)
  ·rw[if_neg c3]at H
   have c3b0:decide (1<(a0.size:Int))=false:=decide_eq_false c3;have c3b1:decide (1<a0.size)=false:=decide_eq_false (by omega)
   clear c3;(first|rw[c3b0]|(simp only[i64_w,i32_w];rw[c3b0])|skip)
   have H':=aS H;clear H;go_wp2
   go_meet
   case rel=>exact⟨_,(false),(by first|rfl|(simp;done)|(simp[*];done)),H',⟨by first|omega|exact Nat.le_refl _⟩,by repeat(first|exact Drawn0.refl _|apply Drawn0.step)⟩
 case rest=>
  clear HC2;(try clear p2);(try clear c3);(try clear c3b0);(try clear c3b1);(try clear c4);(try clear c4b0);(try clear c4b1);(try clear p5);(try clear q5);(try clear hx5);(try clear qi5);(try clear p5);(try clear q5)
  obtain⟨kq,x14_1,rfl,HA,HJ1,⟨mc1,rfl⟩⟩:=hcut;cases kq with
  |zero=>exact absurd HA.out (by simp[spec_l1Dec.j0])
  |succ kj1=>
   have H:=HA.out;clear HA;simp only[spec_l1Dec.j0]at H
   have HC6:=aS H;clear H;go_upto_if 14 with (fail)
   go_cut [0,4] (fun v0 v4 wc=> ∃ (kq:Nat) (x0_5:ByteArray) (x4_5:Int),v0= .string x0_5∧v4= .int .i64 x4_5∧Aside0 (spec_l1Dec.j1 kq x0_5 x4_5=some (r1,r2))∧Aside0 (kq≤kj1)∧Drawn0 w wc)
   case first=>
    have H:=HC6.out;clear HC6;by_cases c7:x14_1=true
    ·subst c7
     have H1:(if 1≤(a0.size:Int)then(spec_l1Dec.j1 kj1 (a0.extract 1 a0.size) (-1))else(none))=some (r1,r2):=by rw[if_pos rfl]at H;exact H
     clear H;have H:=H1;clear H1;by_cases c8:1≤(a0.size:Int)
     ·rw[if_pos c8]at H
      have c8b0:=eq_true c8;have c8b1:decide (1≤(a0.size:Int))=true:=decide_eq_true c8;clear c8;have H':=aS H;clear H;go_wp2
      go_meet
      case rel=>exact⟨_,(a0.extract 1 a0.size),((-1)),(by first|rfl|(simp;done)|(simp[*];done)),(by first|rfl|(simp;done)|(simp[*];done)),H',⟨by have:=HJ1.out;first|omega|exact Nat.le_refl _⟩,by repeat(first|exact Drawn0.refl _|apply Drawn0.step)⟩
     ·rw[if_neg c8]at H
      exact absurd H (by simp)
    ·replace c7:=Bool.eq_false_iff.mpr c7
     subst c7;have H1:(spec_l1Dec.j1 kj1 a0 1)=some (r1,r2):=by rw[if_neg (show¬(false=true) by decide)]at H;exact H
     clear H;have H:=H1;clear H1;have H':=aS H;clear H;go_wp2
     go_meet
     case rel=>exact⟨_,(a0),(1),(by first|rfl|(simp;done)|(simp[*];done)),(by first|rfl|(simp;done)|(simp[*];done)),H',⟨by have:=HJ1.out;first|omega|exact Nat.le_refl _⟩,by repeat(first|exact Drawn0.refl _|apply Drawn0.step)⟩
   case rest=>
    clear HC6;(try clear c1);(try clear p2);(try clear c3);(try clear c3b0);(try clear c3b1);(try clear c4);(try clear c4b0);(try clear c4b1);(try clear p5);(try clear q5);(try clear hx5);(try clear qi5);(try clear c7);(try clear c8);(try clear c8b0);(try clear c8b1);(try clear p2);(try clear p5);(try clear q5)
    obtain⟨kq,x0_5,x4_5,rfl,rfl,HA,HJ5,⟨mc5,rfl⟩⟩:=hcut;cases kq with
    |zero=>exact absurd HA.out (by simp[spec_l1Dec.j1])
    |succ kj5=>
     have H:=HA.out;clear HA;simp only[spec_l1Dec.j1]at H
     replace H:=Option.bind_eq_some_iff.mp H;obtain⟨t149,A90,H⟩:=H;replace H:(if t149=true then(spec_l1Dec.l0 kj5 x0_5 x4_5 0 0)else(some (0,false)))=some (r1,r2):=H
     have A9:=aS A90;clear A90;by_cases c10:t149=true
     ·subst c10
      have H1:(spec_l1Dec.l0 kj5 x0_5 x4_5 0 0)=some (r1,r2):=by rw[if_pos rfl]at H;exact H
      clear H;have H:=H1;clear H1;have H':=aS H;clear H;go_wp2_with (first|((with_reducible refine gate_callee (f:=43) rfl ?_);refine goesL_ (some 19) rfl rfl Tryz.func43 (by kernel_rfl) rfl #[.int .i64 (x0_5.size:Int),.int .i64 1,.int .i64 2] rfl (by(try simp only[List.map_toArray,List.map_cons,List.map_nil])<;>rfl) ?_;(with_reducible refine(spec_l6In.calls (x0_5.size:Int) 1 2 true _ A9.out).mono ?_);rintro e w' ⟨rfl,⟨nd,rfl⟩⟩;refine⟨_,rfl,?_⟩))
      go_loopg [5,6] kj5 (fun kq v5 v6 w'=> ∃ (x5_3:Int) (x6_3:Int),v5= .int .i64 x5_3∧v6= .int .i64 x6_3∧Aside0 (spec_l1Dec.l0 kq x0_5 x4_5 x5_3 x6_3=some (r1,r2))∧Aside0 (kq≤kj5)∧Drawn0 w w')
      case atStart=>exact⟨(0),(0),(by first|rfl|(simp;done)|(simp[*];done)),(by first|rfl|(simp;done)|(simp[*];done)),H',⟨Nat.le_refl _⟩,by repeat(first|exact Drawn0.refl _|apply Drawn0.step)⟩
      case round=>
       clear H';(try clear c1);(try clear p2);(try clear c3);(try clear c3b0);(try clear c3b1);(try clear c4);(try clear c4b0);(try clear c4b1);(try clear c5);(try clear p5);(try clear q5);(try clear hx5);(try clear qi5);(try clear c7);(try clear c8);(try clear c8b0);(try clear c8b1);(try clear c10);(try clear p2);(try clear p5);(try clear q5)
       obtain⟨x5_3,x6_3,rfl,rfl,HA,HK3,⟨m3,rfl⟩⟩:=hrel;cases gk with
       |zero=>exact absurd HA.out (by simp[spec_l1Dec.l0])
       |succ k3=>
        have H:=HA.out;clear HA;simp only[spec_l1Dec.l0]at H
        by_cases c11:x6_3<(x0_5.size:Int)
        ·rw[if_pos c11]at H
         have c11b0:decide (x6_3<(x0_5.size:Int))=true:=decide_eq_true c11;clear c11;have HC12:=aS H;clear H;go_upto_region 11 with (fail)
         go_cut [36] (fun v36 wc=> ∃ (kq:Nat) (x36_11:Bool),v36= .bool x36_11∧Aside0 (spec_l1Dec.j3 kq x0_5 x4_5 x5_3 x6_3 x36_11=some (r1,r2))∧Aside0 (kq≤k3)∧Drawn0 w wc)
         case first=>
          have H:=HC12.out;clear HC12;by_cases c13:0≤x6_3
          ·rw[if_pos c13]at H
           have c13b0:decide (0≤x6_3)=true:=decide_eq_true c13;clear c13;(first|rw[c13b0]|(simp only[i64_w,i32_w];rw[c13b0])|skip)
           by_cases c15:(bt x0_5 x6_3)<48
           ·rw[if_pos c15]at H
            have c15b0:decide ((bt x0_5 x6_3)<48)=true:=decide_eq_true c15;clear c15;have H':=aS H;clear H;have p14:0≤(x6_3:Int):=of_decide_eq_true (by assumption)
            have q14:x6_3<(x0_5.size:Int):=of_decide_eq_true (by assumption)
            have hx14:=bt_at x0_5 x6_3;replace p14:=eq_true p14;replace q14:=eq_true q14;go_wp2
            go_meet
            case rel=>exact⟨_,(true),(by first|rfl|(simp;done)|(simp[*];done)),H',⟨by have:=HJ1.out;have:=HJ5.out;have:=HK3.out;first|omega|exact Nat.le_refl _⟩,by repeat(first|exact Drawn0.refl _|apply Drawn0.step)⟩
           ·rw[if_neg c15]at H
            have c15b0:decide ((bt x0_5 x6_3)<48)=false:=decide_eq_false c15;clear c15;have H':=aS H;clear H;have p14:0≤(x6_3:Int):=of_decide_eq_true (by assumption)
            have q14:x6_3<(x0_5.size:Int):=of_decide_eq_true (by assumption)
            have hx14:=bt_at x0_5 x6_3;replace p14:=eq_true p14;replace q14:=eq_true q14;have p16:0≤(x6_3:Int):=of_decide_eq_true (by assumption)
            have q16:x6_3<(x0_5.size:Int):=of_decide_eq_true (by assumption)
            have hx16:=bt_at x0_5 x6_3;replace p16:=eq_true p16;replace q16:=eq_true q16;go_wp2
            go_meet
            case rel=>exact⟨_,(decide ((bt x0_5 x6_3)>57)),(by first|rfl|(simp;done)|(simp[*];done)),H',⟨by have:=HJ1.out;have:=HJ5.out;have:=HK3.out;first|omega|exact Nat.le_refl _⟩,by repeat(first|exact Drawn0.refl _|apply Drawn0.step)⟩
          ·rw[if_neg c13]at H
           exact absurd H (by simp)
         case rest=>
          clear HC12;(try clear c1);(try clear p1);(try clear q1);(try clear hx1);(try clear p2);(try clear c3);(try clear c3b0);(try clear c3b1);(try clear c4);(try clear c4b0);(try clear c4b1);(try clear c5);(try clear p5);(try clear q5);(try clear hx5);(try clear qi5);(try clear c7);(try clear c8);(try clear c8b0);(try clear c8b1);(try clear c10);(try clear c11);(try clear c11b0);(try clear c13);(try clear c13b0);(try clear p14);(try clear q14);(try clear hx14);(try clear c15);(try clear c15b0);(try clear p16);(try clear q16);(try clear hx16);(try clear p14);(try clear p16);(try clear p2);(try clear p5);(try clear q14);(try clear q16);(try clear q5)
          obtain⟨kq,x36_11,rfl,HA,HJ11,⟨mc11,rfl⟩⟩:=hcut;cases kq with
          |zero=>exact absurd HA.out (by simp[spec_l1Dec.j3])
          |succ kj11=>
           have H:=HA.out;clear HA;simp only[spec_l1Dec.j3]at H
           by_cases c17:x36_11=true
           ·subst c17
            have H1:(some (0,false))=some (r1,r2):=by rw[if_pos rfl]at H;exact H
            clear H;have H:=H1;clear H1;simp only[Option.some.injEq,Prod.mk.injEq]at H
            obtain⟨rfl,rfl⟩:=H;go_wp2
            go_ret2
            exact⟨by first|rfl|(simp;done)|(simp[*];done),by repeat(first|exact Drawn0.refl _|apply Drawn0.step)⟩
           ·replace c17:=Bool.eq_false_iff.mpr c17
            subst c17;have H1:(if 0≤x6_3 then(if x6_3<(x0_5.size:Int)then(spec_l1Dec.l0 kj11 x0_5 x4_5 (wrap64 ((wrap64 (10*x5_3))+(((bt x0_5 x6_3)-48)%256))) (wrap64 (x6_3+1)))else(none))else(none))=some (r1,r2):=by rw[if_neg (show¬(false=true) by decide)]at H;exact H
            clear H;have H:=H1;clear H1;by_cases c18:0≤x6_3
            ·rw[if_pos c18]at H
             have c18b0:decide (0≤x6_3)=true:=decide_eq_true c18;clear c18;by_cases c19:x6_3<(x0_5.size:Int)
             ·rw[if_pos c19]at H
              have c19b0:decide (x6_3<(x0_5.size:Int))=true:=decide_eq_true c19;clear c19;have H':=aS H;clear H;have p20:0≤(x6_3:Int):=of_decide_eq_true (by assumption)
              have q20:x6_3<(x0_5.size:Int):=of_decide_eq_true (by assumption)
              have hx20:=bt_at x0_5 x6_3;replace p20:=eq_true p20;replace q20:=eq_true q20;go_wp2
              go_roundg kj11
              case measure=>have:=HJ1.out;have:=HJ5.out;have:=HK3.out;have:=HJ11.out;omega
              case rel=>exact⟨(wrap64 ((wrap64 (10*x5_3))+(((bt x0_5 x6_3)-48)%256))),(wrap64 (x6_3+1)),(by first|rfl|(simp;done)|(simp[*];done)),(by first|rfl|(simp;done)|(simp[*];done)),H',⟨by have:=HJ1.out;have:=HJ5.out;have:=HK3.out;have:=HJ11.out;omega⟩,by repeat(first|exact Drawn0.refl _|apply Drawn0.step)⟩
             ·rw[if_neg c19]at H
              exact absurd H (by simp)
            ·rw[if_neg c18]at H
             exact absurd H (by simp)
        ·rw[if_neg c11]at H
         have c11b0:decide (x6_3<(x0_5.size:Int))=false:=decide_eq_false c11;clear c11;simp only[Option.some.injEq,Prod.mk.injEq]at H
         obtain⟨rfl,rfl⟩:=H;go_wp2
         go_ret2
         exact⟨by first|rfl|(simp;done)|(simp[*];done),by repeat(first|exact Drawn0.refl _|apply Drawn0.step)⟩
     ·replace c10:=Bool.eq_false_iff.mpr c10
      subst c10;have H1:(some (0,false))=some (r1,r2):=by rw[if_neg (show¬(false=true) by decide)]at H;exact H
      clear H;have H:=H1;clear H1;simp only[Option.some.injEq,Prod.mk.injEq]at H
      obtain⟨rfl,rfl⟩:=H;go_wp2_with (first|((with_reducible refine gate_callee (f:=43) rfl ?_);refine goesL_ (some 19) rfl rfl Tryz.func43 (by kernel_rfl) rfl #[.int .i64 (x0_5.size:Int),.int .i64 1,.int .i64 2] rfl (by(try simp only[List.map_toArray,List.map_cons,List.map_nil])<;>rfl) ?_;(with_reducible refine(spec_l6In.calls (x0_5.size:Int) 1 2 false _ A9.out).mono ?_);rintro e w' ⟨rfl,⟨nd,rfl⟩⟩;refine⟨_,rfl,?_⟩))
      go_ret2
      exact⟨by first|rfl|(simp;done)|(simp[*];done),by repeat(first|exact Drawn0.refl _|apply Drawn0.step)⟩
def spec_l6Dec.f:Nat→Int→Option (ByteArray)
 |0,_=>none
 |k+1,a0=>if a0<(-9223372036854775807)then(some (⟨#[45,57,50,50,51,51,55,50,48,51,54,56,53,52,55,55,53,56,48,56]⟩:ByteArray))else(if a0<0 then((spec_l6Dec.f k (wrap64 (-a0))).bind fun t150=>(if 1+t150.size≤9223372036854775807 then(some ((⟨#[45]⟩:ByteArray)++t150))else(none)))else(if a0<10 then(some (strOfNums (([(wrap64 (48+a0))%256]:List Int))))else((spec_l6Dec.f k (wrap64 (Int.tdiv a0 10))).bind fun t154=>((some (([(wrap64 (48+(Int.tmod a0 10)))%256]:List Int):List Int)).bind fun y155=>(if t154.size+(strOfNums y155).size≤9223372036854775807 then(some (t154++(strOfNums y155)))else(none))))))
def spec_l6Dec.T7:Bool×List (List Nat×List Nat):=(true,[([],[]),([0],[0]),([1],[1]),([],[]),([3],[3]),([4],[4]),([5],[5]),([6],[6]),([7],[7]),([2,8],[2,8]),([9,2,0,1,2,3,4,5,6,7,8,9],[9])])
def spec_l6Dec.B7:List Nat:=[0,1,3,0,8,24,56,120,248,511,1023]
theorem spec_l6Dec.tab7:rtab .any (opsOf Tryz.f61 7)=spec_l6Dec.T7:=by kernel_rfl
theorem spec_l6Dec.bits7:waitsOk spec_l6Dec.T7.2 spec_l6Dec.B7=true:=by kernel_rfl
theorem spec_l6Dec.calls (k:Nat): ∀ (a0:Int) (r:ByteArray) (w:World) (h:spec_l6Dec.f k a0=some r),
  Calls Tryz.prog 61 #[.int .i64 a0] w fun e w'=>e= .returned (.string r)∧Below w.heap.size w w':=by
 induction k using Nat.strongRecOn with
 |_ k ih=>
 intro a0 r w h;cases k with
 |zero=>exact absurd h (by simp[spec_l6Dec.f])
 |succ k=>
 simp only[spec_l6Dec.f]at h
 have HB:=aS (Below.refl w.heap.size w);have H:(if a0<(-9223372036854775807)then(some (⟨#[45,57,50,50,51,51,55,50,48,51,54,56,53,52,55,55,53,56,48,56]⟩:ByteArray))else(if a0<0 then((spec_l6Dec.f k (wrap64 (-a0))).bind fun t150=>(if 1+t150.size≤9223372036854775807 then(some ((⟨#[45]⟩:ByteArray)++t150))else(none)))else(if a0<10 then(some (strOfNums (([(wrap64 (48+a0))%256]:List Int))))else((spec_l6Dec.f k (wrap64 (Int.tdiv a0 10))).bind fun t154=>((some (([(wrap64 (48+(Int.tmod a0 10)))%256]:List Int):List Int)).bind fun y155=>(if t154.size+(strOfNums y155).size≤9223372036854775807 then(some (t154++(strOfNums y155)))else(none)))))))=some r:=h
 clear h;by_cases c2:a0<(-9223372036854775807)
 ·rw[if_pos c2]at H
  have c2b0:decide (a0<(-9223372036854775807))=true:=decide_eq_true c2;clear c2;obtain rfl:=Option.some.inj H;go_enter Tryz.func61,Tryz.ntmps61
  go_wp2
  go_ret
  exact⟨by first|rfl|(simp[*]<;>rfl),by exact bU HB.out⟩
 ·rw[if_neg c2]at H
  have c2b0:decide (a0<(-9223372036854775807))=false:=decide_eq_false c2;clear c2;by_cases c3:a0<0
  ·rw[if_pos c3]at H
   have c3b0:decide (a0<0)=true:=decide_eq_true c3;clear c3;replace H:=Option.bind_eq_some_iff.mp H;obtain⟨t150,A40,H⟩:=H;replace H:(if 1+t150.size≤9223372036854775807 then(some ((⟨#[45]⟩:ByteArray)++t150))else(none))=some r:=H
   have A4:=aS A40;clear A40;by_cases c5:1+t150.size≤9223372036854775807
   ·rw[if_pos c5]at H
    have c5b0:=eq_true c5;have c5b1:decide (1+t150.size≤9223372036854775807)=true:=decide_eq_true c5;try have c5b2:(9223372036854775807<1+t150.size)=False:=eq_false (Nat.not_lt.2 c5)
    obtain rfl:=Option.some.inj H;go_enter Tryz.func61,Tryz.ntmps61
    go_wp2_with (first|((with_reducible refine gate_callee (f:=61) rfl ?_);refine goesL_ (some 9) rfl rfl Tryz.func61 (by kernel_rfl) rfl #[.int .i64 (wrap64 (-a0))] rfl (by(try simp only[List.map_toArray,List.map_cons,List.map_nil])<;>rfl) ?_;(with_reducible refine(ih k (by omega) (wrap64 (-a0)) t150 _ A4.out).mono ?_);rintro e w6 ⟨rfl,hb⟩;refine⟨_,rfl,?_⟩;replace HB:=aS (below_step (by exact bU HB.out) hb);(try clear hb)))
    go_ret
    exact⟨by first|rfl|(simp[*]<;>rfl),by exact bU HB.out⟩
   ·rw[if_neg c5]at H
    exact absurd H (by simp)
  ·rw[if_neg c3]at H
   have c3b0:decide (a0<0)=false:=decide_eq_false c3;clear c3;by_cases c7:a0<10
   ·rw[if_pos c7]at H
    have c7b0:decide (a0<10)=true:=decide_eq_true c7;clear c7;obtain⟨y151,hy151⟩: ∃y_:List Int,y_=(([(wrap64 (48+a0))%256]:List Int)):=⟨_,rfl⟩;replace H:(some (strOfNums y151))=some r:=by first|(rw[hy151];with_reducible exact H)|(have H2_:=(Option.bind_some _ _).symm.trans H;rw[hy151];with_reducible exact H2_)|(have H2_:=(Option.bind_some _ _).symm.trans H;with_reducible exact H2_)|with_reducible exact H|(rw[hy151];exact H)|exact H
    have Ny151:=aS hy151;clear hy151;obtain rfl:=Option.some.inj H;go_enter Tryz.func61,Tryz.ntmps61
    go_wp2_with (first|((with_reducible refine gate_dst (N:=16) rfl ?_);refine Kd.R_lit (Kd.int .u8) _ 5 ?hg (N:=16) ?hd (xs:=([(wrap64 (48+a0))%256]:List Int)) (inner:=[.int .u8 ((wrap64 (48+a0))%256)]) (ok:=fun _=>True) (okp:=fun _=>True) ?hr ?hp (fun _ hk=>hk) trivial (Below.refl _ _) (Nat.le_refl _) (by simp) ?_;(case hd=>rfl);(case hg=>rfl);(case hr=>go_simp<;>rfl);(case hp=>exact(Reps.one (show Kd.M (Kd.int .u8) _ _ _ ((wrap64 (48+a0))%256) [.int .u8 ((wrap64 (48+a0))%256)]from rfl) (Reps.none _ _)));intro v152 w8 ho9 hb hg_ hnew_;clear hg_ hnew_;(first|rw[←Ny151.out]at ho9|(simp only[Int.reduceToNat]at ho9;rw[←Ny151.out]at ho9));have HO153:=aS (Kd.R_lower ho9 (below_size (by exact bU HB.out)));replace HB:=aS (below_step (by exact bU HB.out) hb);clear hb ho9;have hcv10:=own_string (P:=Tryz.prog) Tryz.underlying28 Tryz.underlying5 Tryz.underlying9 (Kd.own_of_R HO153.out)))
    go_ret
    exact⟨by first|rfl|(simp[*]<;>rfl),by exact bU HB.out⟩
   ·rw[if_neg c7]at H
    have c7b0:decide (a0<10)=false:=decide_eq_false c7;clear c7;replace H:=Option.bind_eq_some_iff.mp H;obtain⟨t154,A110,H⟩:=H;replace H:((some (([(wrap64 (48+(Int.tmod a0 10)))%256]:List Int):List Int)).bind fun y155=>(if t154.size+(strOfNums y155).size≤9223372036854775807 then(some (t154++(strOfNums y155)))else(none)))=some r:=H
    have A11:=aS A110;clear A110;obtain⟨y155,hy155⟩: ∃y_:List Int,y_=(([(wrap64 (48+(Int.tmod a0 10)))%256]:List Int)):=⟨_,rfl⟩;replace H:(if t154.size+(strOfNums y155).size≤9223372036854775807 then(some (t154++(strOfNums y155)))else(none))=some r:=by first|(rw[hy155];with_reducible exact H)|(have H2_:=(Option.bind_some _ _).symm.trans H;rw[hy155];with_reducible exact H2_)|(have H2_:=(Option.bind_some _ _).symm.trans H;with_reducible exact H2_)|with_reducible exact H|(rw[hy155];exact H)|exact H
    have Ny155:=aS hy155;clear hy155;by_cases c12:t154.size+(strOfNums y155).size≤9223372036854775807
    ·rw[if_pos c12]at H
     have c12b0:=eq_true c12;have c12b1:decide (t154.size+(strOfNums y155).size≤9223372036854775807)=true:=decide_eq_true c12;try have c12b2:(9223372036854775807<t154.size+(strOfNums y155).size)=False:=eq_false (Nat.not_lt.2 c12)
     obtain rfl:=Option.some.inj H;go_enter Tryz.func61,Tryz.ntmps61
     try go_wp2
     have n0_:=aS (below_drew1 HB.out);clear HB;have HB:=n0_;clear n0_;refine start_ (n:=11) (S:=fun w'=>True) (ds:=[]) #[false,false,false,false,false,false,false,false,false,false,false] (by kernel_rfl) rfl rfl trivial (fun hHeld=> ?_);refine with_tabW spec_l6Dec.tab7 spec_l6Dec.bits7 (fun HT_ HW_=> ?_)
     generalize w.drew=w13 at HB hHeld⊢
     refine pure_ (i:=0) (N:=some 18) (v:= ?_) (a':= ?_) #[true,false,false,false,false,false,false,false,false,false,false] rfl rfl (any_of HT_.out (by kernel_rfl)) (fun _ _ _ h=>h) (Or.inl ⟨by rfl,?_⟩) ?_ ?_
     rotate_left
     ·intro w'
      go_simp
      with_reducible rfl
     rotate_left
     ·simp only[Act.put,List.setIfInBounds_toArray,List.set_cons_zero,List.set_cons_succ,i64_w,i32_w]
      rfl
     refine pure_ (i:=1) (N:=some 19) (v:= ?_) (a':= ?_) #[true,true,false,false,false,false,false,false,false,false,false] rfl rfl (any_of HT_.out (by kernel_rfl)) (fun _ _ _ h=>h) (Or.inl ⟨by rfl,?_⟩) ?_ ?_
     rotate_left
     ·intro w'
      go_simp
      with_reducible rfl
     rotate_left
     ·simp only[Act.put,List.setIfInBounds_toArray,List.set_cons_zero,List.set_cons_succ,i64_w,i32_w]
      rfl
     refine pure_ (i:=3) (N:=some 21) (v:= ?_) (a':= ?_) #[true,true,false,true,false,false,false,false,false,false,false] rfl rfl (any_of HT_.out (by kernel_rfl)) (fun _ _ _ h=>h) (Or.inl ⟨by rfl,?_⟩) ?_ ?_
     rotate_left
     ·intro w'
      go_simp
      with_reducible rfl
     rotate_left
     ·simp only[Act.put,List.setIfInBounds_toArray,List.set_cons_zero,List.set_cons_succ,i64_w,i32_w]
      rfl
     refine pure_ (i:=4) (N:=some 22) (v:= ?_) (a':= ?_) #[true,true,false,true,true,false,false,false,false,false,false] rfl rfl (any_of HT_.out (by kernel_rfl)) (fun _ _ _ h=>h) (Or.inl ⟨by rfl,?_⟩) ?_ ?_
     rotate_left
     ·intro w'
      go_simp
      with_reducible rfl
     rotate_left
     ·simp only[Act.put,List.setIfInBounds_toArray,List.set_cons_zero,List.set_cons_succ,i64_w,i32_w]
      rfl
     refine pure_ (i:=5) (N:=some 23) (v:= ?_) (a':= ?_) #[true,true,false,true,true,true,false,false,false,false,false] rfl rfl (any_of HT_.out (by kernel_rfl)) (fun _ _ _ h=>h) (Or.inl ⟨by rfl,?_⟩) ?_ ?_
     rotate_left
     ·intro w'
      go_simp
      with_reducible rfl
     rotate_left
     ·simp only[Act.put,List.setIfInBounds_toArray,List.set_cons_zero,List.set_cons_succ,i64_w,i32_w]
      rfl
     refine pure_ (i:=6) (N:=some 24) (v:= ?_) (a':= ?_) #[true,true,false,true,true,true,true,false,false,false,false] rfl rfl (any_of HT_.out (by kernel_rfl)) (fun _ _ _ h=>h) (Or.inl ⟨by rfl,?_⟩) ?_ ?_
     rotate_left
     ·intro w'
      go_simp
      with_reducible rfl
     rotate_left
     ·simp only[Act.put,List.setIfInBounds_toArray,List.set_cons_zero,List.set_cons_succ,i64_w,i32_w]
      rfl
     refine join_ (σ:=Value) 2 #[true,true,true,true,true,true,true,true,true,false,false] (fun s_=> [(20,.string t154),(25,s_),(26,.string (strOfNums y155))]) (fun s_ w'=>(Kd.R (Kd.int .u8) 5 w' w.heap.size (fun _=>True) s_ y155)∧(Below w.heap.size w w')) ?_ ?_
     rotate_left
     ·intro hCont
      refine two_ (i:=2) (j:=7) (Ni:=some 20) (Nj:=some 25) #[true,true,true,true,true,true,true,false,false,false,false] #[true,true,false,true,true,true,true,true,false,false,false] rfl rfl rfl rfl (two_of HT_.out (by kernel_rfl)) (by decide) (by decide) (fun K hK=> ?_) (fun K hK=> ?_)
      ·skip
       refine goes_ Tryz.func61 (by kernel_rfl) rfl #[.int .i64 (wrap64 (Int.tdiv a0 10))] (by rfl) rfl rfl (by(try simp only[List.map_toArray,List.map_cons,List.map_nil])<;>rfl) ?_
       with_reducible refine(ih k (by omega) (wrap64 (Int.tdiv a0 10)) t154 _ A11.out).mono ?_
       rintro e w14 ⟨rfl,hb⟩
       refine⟨_,rfl,?_⟩
       have n0_:=aS (below_step (by exact bU HB.out) hb)
       clear HB;have HB:=n0_;clear n0_;(try clear hb)
       (try clear hb2)
       (try clear hk)
       (try clear hi)
       refine hK.out _ _ trivial (fun hHeld=> ?_)
       clear hK K;refine norm_ (a':= ?_) ?_ ?_
       rotate_left
       ·show Act.put _ (some 20) _=_
        simp only[Act.put,List.setIfInBounds_toArray,List.set_cons_zero,List.set_cons_succ,i64_w,i32_w]
        rfl
       refine one_ (i:=7) (N:=some 25) #[true,true,true,true,true,true,true,true,false,false,false] rfl rfl (one_of HT_.out (by kernel_rfl)) (by decide) (fun K hK=> ?_)
       refine Kd.R_lit_step (Kd.int .u8) _ 5 ?hg (N:=25) ?hd (xs:=([(wrap64 (48+(Int.tmod a0 10)))%256]:List Int)) (inner:=[.int .u8 ((wrap64 (48+(Int.tmod a0 10)))%256)]) (ok:=fun _=>True) (okp:=fun _=>True) ?hr ?hp (fun _ hk=>hk) trivial (Below.refl _ _) (Nat.le_refl _) (by simp) ?_;(case hd=>rfl);(case hg=>rfl);(case hr=>go_simp<;>rfl);(case hp=>exact(Reps.one (show Kd.M (Kd.int .u8) _ _ _ ((wrap64 (48+(Int.tmod a0 10)))%256) [.int .u8 ((wrap64 (48+(Int.tmod a0 10)))%256)]from rfl) (Reps.none _ _)))
       intro v156 w15 ho16 hb hg_ hnew_;clear hg_ hnew_;(first|rw[←Ny155.out]at ho16|(simp only[Int.reduceToNat]at ho16;rw[←Ny155.out]at ho16))
       have n0_:=aS (Kd.R_lower ho16 (below_size (by exact bU HB.out)))
       have n1_:=aS (below_step (by exact bU HB.out) hb)
       clear HB;have HO157:=n0_;have HB:=n1_;clear n0_ n1_ hb ho16;refine hK.out _ _ trivial (fun hHeld=> ?_)
       clear hK K;refine norm_ (a':= ?_) ?_ ?_
       rotate_left
       ·show Act.put _ (some 25) _=_
        simp only[Act.put,List.setIfInBounds_toArray,List.set_cons_zero,List.set_cons_succ,i64_w,i32_w]
        rfl
       refine one_ (i:=8) (N:=some 26) #[true,true,true,true,true,true,true,true,true,false,false] rfl rfl (one_of HT_.out (by kernel_rfl)) (by decide) (fun K hK=> ?_)
       have hcv17:=own_string (P:=Tryz.prog) Tryz.underlying28 Tryz.underlying5 Tryz.underlying9 (Kd.own_of_R HO157.out);refine value_ (w1:= ?_) (v:= ?_) (by rfl) rfl ?_ ?_
       rotate_left 2
       ·go_simp
        constructor
        ·rfl
        ·rfl
       clear hcv17;refine hK.out _ _ trivial (fun hHeld=> ?_)
       clear hK K;refine norm_ (a':= ?_) ?_ ?_
       rotate_left
       ·show Act.put _ (some 26) _=_
        simp only[Act.put,List.setIfInBounds_toArray,List.set_cons_zero,List.set_cons_succ,i64_w,i32_w]
        rfl
       exact norm_ (by simp only[putAll,Act.put,List.setIfInBounds_toArray,List.set_cons_zero,List.set_cons_succ]) (hCont (v156) _ ⟨(by exact rU HO157.out),(by exact bU HB.out)⟩)
      ·skip
       refine Kd.R_lit_step (Kd.int .u8) _ 5 ?hg (N:=25) ?hd (xs:=([(wrap64 (48+(Int.tmod a0 10)))%256]:List Int)) (inner:=[.int .u8 ((wrap64 (48+(Int.tmod a0 10)))%256)]) (ok:=fun _=>True) (okp:=fun _=>True) ?hr ?hp (fun _ hk=>hk) trivial (Below.refl _ _) (Nat.le_refl _) (by simp) ?_;(case hd=>rfl);(case hg=>rfl);(case hr=>go_simp<;>rfl);(case hp=>exact(Reps.one (show Kd.M (Kd.int .u8) _ _ _ ((wrap64 (48+(Int.tmod a0 10)))%256) [.int .u8 ((wrap64 (48+(Int.tmod a0 10)))%256)]from rfl) (Reps.none _ _)))
       intro v156 w14 ho15 hb hg_ hnew_;clear hg_ hnew_;(first|rw[←Ny155.out]at ho15|(simp only[Int.reduceToNat]at ho15;rw[←Ny155.out]at ho15))
       have n0_:=aS (Kd.R_lower ho15 (below_size (by exact bU HB.out)))
       have n1_:=aS (below_step (by exact bU HB.out) hb)
       clear HB;have HO157:=n0_;have HB:=n1_;clear n0_ n1_ hb ho15;refine hK.out _ _ trivial (fun hHeld=> ?_)
       clear hK K;refine norm_ (a':= ?_) ?_ ?_
       rotate_left
       ·show Act.put _ (some 25) _=_
        simp only[Act.put,List.setIfInBounds_toArray,List.set_cons_zero,List.set_cons_succ,i64_w,i32_w]
        rfl
       refine two_ (i:=2) (j:=8) (Ni:=some 20) (Nj:=some 26) #[true,true,true,true,true,true,true,true,false,false,false] #[true,true,false,true,true,true,true,true,true,false,false] rfl rfl rfl rfl (two_of HT_.out (by kernel_rfl)) (by decide) (by decide) (fun K hK=> ?_) (fun K hK=> ?_)
       ·skip
        refine goes_ Tryz.func61 (by kernel_rfl) rfl #[.int .i64 (wrap64 (Int.tdiv a0 10))] (by rfl) rfl rfl (by(try simp only[List.map_toArray,List.map_cons,List.map_nil])<;>rfl) ?_
        with_reducible refine(ih k (by omega) (wrap64 (Int.tdiv a0 10)) t154 _ A11.out).mono ?_
        rintro e w16 ⟨rfl,hb⟩
        refine⟨_,rfl,?_⟩
        have n0_:=aS (Kd.R_below (by exact rU HO157.out) hb)
        have n1_:=aS (below_step (by exact bU HB.out) hb)
        clear HO157 HB;have HO157:=n0_;have HB:=n1_;clear n0_ n1_;(try clear hb)
        (try clear hb2)
        (try clear hk)
        (try clear hi)
        refine hK.out _ _ trivial (fun hHeld=> ?_)
        clear hK K;refine norm_ (a':= ?_) ?_ ?_
        rotate_left
        ·show Act.put _ (some 20) _=_
         simp only[Act.put,List.setIfInBounds_toArray,List.set_cons_zero,List.set_cons_succ,i64_w,i32_w]
         rfl
        refine one_ (i:=8) (N:=some 26) #[true,true,true,true,true,true,true,true,true,false,false] rfl rfl (one_of HT_.out (by kernel_rfl)) (by decide) (fun K hK=> ?_)
        have hcv17:=own_string (P:=Tryz.prog) Tryz.underlying28 Tryz.underlying5 Tryz.underlying9 (Kd.own_of_R HO157.out);refine value_ (w1:= ?_) (v:= ?_) (by rfl) rfl ?_ ?_
        rotate_left 2
        ·go_simp
         constructor
         ·rfl
         ·rfl
        clear hcv17;refine hK.out _ _ trivial (fun hHeld=> ?_)
        clear hK K;refine norm_ (a':= ?_) ?_ ?_
        rotate_left
        ·show Act.put _ (some 26) _=_
         simp only[Act.put,List.setIfInBounds_toArray,List.set_cons_zero,List.set_cons_succ,i64_w,i32_w]
         rfl
        exact norm_ (by simp only[putAll,Act.put,List.setIfInBounds_toArray,List.set_cons_zero,List.set_cons_succ]) (hCont (v156) _ ⟨(by exact rU HO157.out),(by exact bU HB.out)⟩)
       ·skip
        have hcv16:=own_string (P:=Tryz.prog) Tryz.underlying28 Tryz.underlying5 Tryz.underlying9 (Kd.own_of_R HO157.out);refine value_ (w1:= ?_) (v:= ?_) (by rfl) rfl ?_ ?_
        rotate_left 2
        ·go_simp
         constructor
         ·rfl
         ·rfl
        clear hcv16;refine hK.out _ _ trivial (fun hHeld=> ?_)
        clear hK K;refine norm_ (a':= ?_) ?_ ?_
        rotate_left
        ·show Act.put _ (some 26) _=_
         simp only[Act.put,List.setIfInBounds_toArray,List.set_cons_zero,List.set_cons_succ,i64_w,i32_w]
         rfl
        refine one_ (i:=2) (N:=some 20) #[true,true,true,true,true,true,true,true,true,false,false] rfl rfl (one_of HT_.out (by kernel_rfl)) (by decide) (fun K hK=> ?_)
        refine goes_ Tryz.func61 (by kernel_rfl) rfl #[.int .i64 (wrap64 (Int.tdiv a0 10))] (by rfl) rfl rfl (by(try simp only[List.map_toArray,List.map_cons,List.map_nil])<;>rfl) ?_
        with_reducible refine(ih k (by omega) (wrap64 (Int.tdiv a0 10)) t154 _ A11.out).mono ?_
        rintro e w17 ⟨rfl,hb⟩
        refine⟨_,rfl,?_⟩
        have n0_:=aS (Kd.R_below (by exact rU HO157.out) hb)
        have n1_:=aS (below_step (by exact bU HB.out) hb)
        clear HO157 HB;have HO157:=n0_;have HB:=n1_;clear n0_ n1_;(try clear hb)
        (try clear hb2)
        (try clear hk)
        (try clear hi)
        refine hK.out _ _ trivial (fun hHeld=> ?_)
        clear hK K;refine norm_ (a':= ?_) ?_ ?_
        rotate_left
        ·show Act.put _ (some 20) _=_
         simp only[Act.put,List.setIfInBounds_toArray,List.set_cons_zero,List.set_cons_succ,i64_w,i32_w]
         rfl
        exact norm_ (by simp only[putAll,Act.put,List.setIfInBounds_toArray,List.set_cons_zero,List.set_cons_succ]) (hCont (v156) _ ⟨(by exact rU HO157.out),(by exact bU HB.out)⟩)
     rintro v156 w18 ⟨h0_,h1_⟩
     have n0_:Aside0 (Kd.R (Kd.int .u8) 5 w18 w.heap.size (fun _=>True) v156 y155):=⟨h0_⟩
     have n1_:Aside0 (Below w.heap.size w w18):=⟨h1_⟩;clear HB h0_ h1_;have HO157:=n0_;have HB:=n1_;clear n0_ n1_;have hHeld:=trivial;refine norm_ (a':= ?_) ?_ ?_
     rotate_left
     ·simp only[putAll,Act.put,List.setIfInBounds_toArray,List.set_cons_zero,List.set_cons_succ]
      rfl
     refine pure_ (i:=9) (N:=some 27) (v:= ?_) (a':= ?_) #[true,true,true,true,true,true,true,true,true,true,false] rfl rfl (any_of HT_.out (by kernel_rfl)) (fun _ _ _ h=>h) (Or.inl ⟨by rfl,?_⟩) ?_ ?_
     rotate_left
     ·intro w'
      go_simp
      with_reducible rfl
     rotate_left
     ·simp only[Act.put,List.setIfInBounds_toArray,List.set_cons_zero,List.set_cons_succ,i64_w,i32_w]
      rfl
     refine pure_ (i:=10) (N:=some 2) (v:= ?_) (a':= ?_) #[true,true,true,true,true,true,true,true,true,true,true] rfl rfl (any_of HT_.out (by kernel_rfl)) (fun _ _ _ h=>h) (Or.inl ⟨by rfl,?_⟩) ?_ ?_
     rotate_left
     ·intro w'
      go_simp
      with_reducible rfl
     rotate_left
     ·simp only[Act.put,List.setIfInBounds_toArray,List.set_cons_zero,List.set_cons_succ,i64_w,i32_w]
      rfl
     refine done_ (done_of HT_.out (by kernel_rfl)) ?_
     try go_wp2
     go_ret
     exact⟨by first|rfl|(simp[*]<;>rfl),by exact bU HB.out⟩
    ·rw[if_neg c12]at H
     exact absurd H (by simp)
end Go.Proofs.YtmklpbmlgjkbiaaGreatDoor.PS
end
section
namespace Go.Proofs.YtmklpbmlgjkbiaaGreatDoor.PS
open Go.RowKit Go.Proofs.YtmklpbmlgjkbiaaGreatDoorW.PrintWords Go.Proofs.YtmklpbmlgjkbiaaGreatDoorW.PrintLast Go.Proofs.YtmklpbmlgjkbiaaGreatDoorW.PrintMore
attribute [local go_sem] max2_int min2_int max_two min_two max_three min_three max_four min_four   -- for this text's walks alone
def spec_ValText.f (k:Nat) (a0_0:Int) (a0_1:Int):Option (ByteArray):=(spec_ValOk.f a0_0 a0_1).bind fun t159=>(if t159=true then(if a0_0=0 then(some (⟨#[110,111,110,101]⟩:ByteArray))else((some (([(⟨#[]⟩:ByteArray),(⟨#[110]⟩:ByteArray),(⟨#[97]⟩:ByteArray),(⟨#[114]⟩:ByteArray)]:List ByteArray):List ByteArray)).bind fun y160=>(if 0≤a0_0 then(if a0_0<(y160.length:Int)then((spec_l6Dec.f k a0_1).bind fun t164=>(if(rdOf ByteArray.empty y160 a0_0).size+t164.size≤9223372036854775807 then(some ((rdOf ByteArray.empty y160 a0_0)++t164))else(none)))else(none))else(none))))else(some (⟨#[]⟩:ByteArray)))
def spec_ValText.T5:Bool×List (List Nat×List Nat):=(true,[([],[]),([],[]),([1],[1]),([0,2],[0,2]),([3],[3]),([],[]),([5],[5]),([6],[6]),([4,7],[4,7]),([8,7,0,1,2,3,4,5,6,7,8],[8])])
def spec_ValText.B5:List Nat:=[0,0,2,7,15,0,32,96,255,511]
theorem spec_ValText.tab5:rtab .any (opsOf Tryz.f62 5)=spec_ValText.T5:=by kernel_rfl
theorem spec_ValText.bits5:waitsOk spec_ValText.T5.2 spec_ValText.B5=true:=by kernel_rfl
theorem spec_ValText.calls (k:Nat) (a0_0:Int) (a0_1:Int) (r:ByteArray) (w:World) (h:spec_ValText.f k a0_0 a0_1=some r):
  Calls Tryz.prog 62 #[.agg #[.int .i64 a0_0,.int .i64 a0_1]] w fun e w'=>e= .returned (.string r)∧Below w.heap.size w w':=by
 have hu37:=Tryz.underlying37;have HB:=aS (Below.refl w.heap.size w);have H:((spec_ValOk.f a0_0 a0_1).bind fun t159=>(if t159=true then(if a0_0=0 then(some (⟨#[110,111,110,101]⟩:ByteArray))else((some (([(⟨#[]⟩:ByteArray),(⟨#[110]⟩:ByteArray),(⟨#[97]⟩:ByteArray),(⟨#[114]⟩:ByteArray)]:List ByteArray):List ByteArray)).bind fun y160=>(if 0≤a0_0 then(if a0_0<(y160.length:Int)then((spec_l6Dec.f k a0_1).bind fun t164=>(if(rdOf ByteArray.empty y160 a0_0).size+t164.size≤9223372036854775807 then(some ((rdOf ByteArray.empty y160 a0_0)++t164))else(none)))else(none))else(none))))else(some (⟨#[]⟩:ByteArray))))=some r:=h
 clear h;replace H:=Option.bind_eq_some_iff.mp H;obtain⟨t159,A20,H⟩:=H;replace H:(if t159=true then(if a0_0=0 then(some (⟨#[110,111,110,101]⟩:ByteArray))else((some (([(⟨#[]⟩:ByteArray),(⟨#[110]⟩:ByteArray),(⟨#[97]⟩:ByteArray),(⟨#[114]⟩:ByteArray)]:List ByteArray):List ByteArray)).bind fun y160=>(if 0≤a0_0 then(if a0_0<(y160.length:Int)then((spec_l6Dec.f k a0_1).bind fun t164=>(if(rdOf ByteArray.empty y160 a0_0).size+t164.size≤9223372036854775807 then(some ((rdOf ByteArray.empty y160 a0_0)++t164))else(none)))else(none))else(none))))else(some (⟨#[]⟩:ByteArray)))=some r:=H
 have A2:=aS A20;clear A20;by_cases c3:t159=true
 ·subst c3
  have H1:(if a0_0=0 then(some (⟨#[110,111,110,101]⟩:ByteArray))else((some (([(⟨#[]⟩:ByteArray),(⟨#[110]⟩:ByteArray),(⟨#[97]⟩:ByteArray),(⟨#[114]⟩:ByteArray)]:List ByteArray):List ByteArray)).bind fun y160=>(if 0≤a0_0 then(if a0_0<(y160.length:Int)then((spec_l6Dec.f k a0_1).bind fun t164=>(if(rdOf ByteArray.empty y160 a0_0).size+t164.size≤9223372036854775807 then(some ((rdOf ByteArray.empty y160 a0_0)++t164))else(none)))else(none))else(none))))=some r:=by rw[if_pos rfl]at H;exact H
  clear H;have H:=H1;clear H1;by_cases c4:a0_0=0
  ·rw[if_pos c4]at H
   have c4b0:(a0_0==0)=true:=beq_iff_eq.mpr c4;have c4b1:(a0_0 !=0)=false:=bne_eq_false_iff_eq.mpr c4;clear c4;obtain rfl:=Option.some.inj H;go_enter Tryz.func62,Tryz.ntmps62
   go_wp2_with (first|((with_reducible refine gate_dst (N:=1) rfl ?_);refine box_event ?hg (N:=1) ?hd (cs:= #[.int .i64 a0_0,.int .i64 a0_1]) (t:=37) ?hr ?_;(case hd=>rfl);(case hg=>rfl);(case hr=>go_simp<;>rfl);intro gb158 hg w5 hbox hb;have n0_:=aS (below_step (by exact bU HB.out) hb);have n1_:=aS (hbox);have n2_:=aS ((by rw[hg];exact(below_size (by exact bU HB.out)):w.heap.size≤gb158));have n3_:=aS ((by rw[hg];exact(below_size (by exact bU HB.out)):w.heap.size≤gb158));clear HB;have HB:=n0_;have BK158:=n1_;have GW158:=n2_;have GE158:=n3_;clear n0_ n1_ n2_ n3_;clear hb hbox hg;have hcz6_0:w5.cell? ⟨gb158,0,none⟩=some (.int .i64 a0_0):=(blk_cell BK158.out 0).trans rfl;have hcz6_1:w5.cell? ⟨gb158,1,none⟩=some (.int .i64 a0_1):=(blk_cell BK158.out 1).trans rfl;have hfz6_0:=blk_frozen BK158.out 0;have hfz6_1:=blk_frozen BK158.out 1)|((with_reducible refine gate_callee (f:=67) rfl ?_);refine goesL_ (some 4) rfl rfl Tryz.func67 (by kernel_rfl) rfl #[.agg #[.int .i64 a0_0,.int .i64 a0_1]] rfl (by(try simp only[List.map_toArray,List.map_cons,List.map_nil])<;>rfl) ?_;(with_reducible refine(spec_ValOk.calls a0_0 a0_1 true _ A2.out).mono ?_);rintro e w7 ⟨rfl,hb⟩;refine⟨_,rfl,?_⟩;replace BK158:=aS (blk_below (g:=gb158) (o:=.cells #[.int .i64 a0_0,.int .i64 a0_1] 37 (0,0)) (by exact blkU BK158.out) hb);replace HB:=aS (below_step (by repeat(with_reducible first|exact HB.out|apply bA|apply bN|apply b1|refine below_set ?_ GE158.out)) hb);(try clear hb);have hcz8_0:w7.cell? ⟨gb158,0,none⟩=some (.int .i64 a0_0):=(blk_cell BK158.out 0).trans rfl;have hcz8_1:w7.cell? ⟨gb158,1,none⟩=some (.int .i64 a0_1):=(blk_cell BK158.out 1).trans rfl;have hfz8_0:=blk_frozen BK158.out 0;have hfz8_1:=blk_frozen BK158.out 1))
   go_ret
   exact⟨by first|rfl|(simp[*]<;>rfl),by repeat(with_reducible first|exact HB.out|apply bA|apply bN|apply b1|refine below_set ?_ GE158.out)⟩
  ·rw[if_neg c4]at H
   have c4b0:(a0_0==0)=false:=beq_eq_false_iff_ne.mpr c4;have c4b1:(a0_0 !=0)=true:=bne_iff_ne.mpr c4;obtain⟨y160,hy160⟩: ∃y_:List ByteArray,y_=(([(⟨#[]⟩:ByteArray),(⟨#[110]⟩:ByteArray),(⟨#[97]⟩:ByteArray),(⟨#[114]⟩:ByteArray)]:List ByteArray)):=⟨_,rfl⟩;replace H:(if 0≤a0_0 then(if a0_0<(y160.length:Int)then((spec_l6Dec.f k a0_1).bind fun t164=>(if(rdOf ByteArray.empty y160 a0_0).size+t164.size≤9223372036854775807 then(some ((rdOf ByteArray.empty y160 a0_0)++t164))else(none)))else(none))else(none))=some r:=by first|(rw[hy160];with_reducible exact H)|(have H2_:=(Option.bind_some _ _).symm.trans H;rw[hy160];with_reducible exact H2_)|(have H2_:=(Option.bind_some _ _).symm.trans H;with_reducible exact H2_)|with_reducible exact H|(rw[hy160];exact H)|exact H
   have Ny160:=aS hy160;clear hy160;by_cases c9:0≤a0_0
   ·rw[if_pos c9]at H
    have c9b0:decide (0≤a0_0)=true:=decide_eq_true c9;clear c9;by_cases c10:a0_0<(y160.length:Int)
    ·rw[if_pos c10]at H
     have c10b0:decide (a0_0<(y160.length:Int))=true:=decide_eq_true c10;clear c10;replace H:=Option.bind_eq_some_iff.mp H;obtain⟨t164,A110,H⟩:=H;replace H:(if(rdOf ByteArray.empty y160 a0_0).size+t164.size≤9223372036854775807 then(some ((rdOf ByteArray.empty y160 a0_0)++t164))else(none))=some r:=H
     have A11:=aS A110;clear A110;by_cases c12:(rdOf ByteArray.empty y160 a0_0).size+t164.size≤9223372036854775807
     ·rw[if_pos c12]at H
      have c12b0:=eq_true c12;have c12b1:decide ((rdOf ByteArray.empty y160 a0_0).size+t164.size≤9223372036854775807)=true:=decide_eq_true c12;try have c12b2:(9223372036854775807<(rdOf ByteArray.empty y160 a0_0).size+t164.size)=False:=eq_false (Nat.not_lt.2 c12)
      obtain rfl:=Option.some.inj H;go_enter Tryz.func62,Tryz.ntmps62
      try go_wp2_with (first|((with_reducible refine gate_dst (N:=1) rfl ?_);refine box_event ?hg (N:=1) ?hd (cs:= #[.int .i64 a0_0,.int .i64 a0_1]) (t:=37) ?hr ?_;(case hd=>rfl);(case hg=>rfl);(case hr=>go_simp<;>rfl);intro gb158 hg w13 hbox hb;have n0_:=aS (below_step (by exact bU HB.out) hb);have n1_:=aS (hbox);have n2_:=aS ((by rw[hg];exact(below_size (by exact bU HB.out)):w.heap.size≤gb158));have n3_:=aS ((by rw[hg];exact(below_size (by exact bU HB.out)):w.heap.size≤gb158));clear HB;have HB:=n0_;have BK158:=n1_;have GW158:=n2_;have GE158:=n3_;clear n0_ n1_ n2_ n3_;clear hb hbox hg;have hcz14_0:w13.cell? ⟨gb158,0,none⟩=some (.int .i64 a0_0):=(blk_cell BK158.out 0).trans rfl;have hcz14_1:w13.cell? ⟨gb158,1,none⟩=some (.int .i64 a0_1):=(blk_cell BK158.out 1).trans rfl;have hfz14_0:=blk_frozen BK158.out 0;have hfz14_1:=blk_frozen BK158.out 1)|((with_reducible refine gate_callee (f:=67) rfl ?_);refine goesL_ (some 4) rfl rfl Tryz.func67 (by kernel_rfl) rfl #[.agg #[.int .i64 a0_0,.int .i64 a0_1]] rfl (by(try simp only[List.map_toArray,List.map_cons,List.map_nil])<;>rfl) ?_;(with_reducible refine(spec_ValOk.calls a0_0 a0_1 true _ A2.out).mono ?_);rintro e w15 ⟨rfl,hb⟩;refine⟨_,rfl,?_⟩;replace BK158:=aS (blk_below (g:=gb158) (o:=.cells #[.int .i64 a0_0,.int .i64 a0_1] 37 (0,0)) (by exact blkU BK158.out) hb);replace HB:=aS (below_step (by repeat(with_reducible first|exact HB.out|apply bA|apply bN|apply b1|refine below_set ?_ GE158.out)) hb);(try clear hb);have hcz16_0:w15.cell? ⟨gb158,0,none⟩=some (.int .i64 a0_0):=(blk_cell BK158.out 0).trans rfl;have hcz16_1:w15.cell? ⟨gb158,1,none⟩=some (.int .i64 a0_1):=(blk_cell BK158.out 1).trans rfl;have hfz16_0:=blk_frozen BK158.out 0;have hfz16_1:=blk_frozen BK158.out 1))
      have pi163:(0≤(a0_0:Int))=True:=eq_true (of_decide_eq_true (by assumption))
      have qi163:(a0_0<(y160.length:Int))=True:=eq_true (of_decide_eq_true (by assumption))
      have n0_:=aS (blk_drew BK158.out);have n1_:=aS (below_drew1 HB.out);clear BK158 HB;have BK158:=n0_;have HB:=n1_;clear n0_ n1_;refine start_ (n:=10) (S:=fun w'=>True) (ds:=[]) #[false,false,false,false,false,false,false,false,false,false] (by kernel_rfl) rfl rfl trivial (fun hHeld=> ?_);refine with_tabW spec_ValText.tab5 spec_ValText.bits5 (fun HT_ HW_=> ?_)
      generalize w15.drew=w17 at BK158 HB hHeld⊢
      refine pure_ (i:=1) (N:=some 10) (v:= ?_) (a':= ?_) #[false,true,false,false,false,false,false,false,false,false] rfl rfl (any_of HT_.out (by kernel_rfl)) (fun _ _ _ h=>h) (Or.inl ⟨by rfl,?_⟩) ?_ ?_
      rotate_left
      ·intro w'
       go_simp
       with_reducible rfl
      rotate_left
      ·simp only[Act.put,List.setIfInBounds_toArray,List.set_cons_zero,List.set_cons_succ,i64_w,i32_w]
       rfl
      refine pure_ (i:=5) (N:=some 14) (v:= ?_) (a':= ?_) #[false,true,false,false,false,true,false,false,false,false] rfl rfl (any_of HT_.out (by kernel_rfl)) (fun _ _ _ h=>h) (Or.inl ⟨by rfl,?_⟩) ?_ ?_
      rotate_left
      ·intro w'
       go_simp
       with_reducible rfl
      rotate_left
      ·simp only[Act.put,List.setIfInBounds_toArray,List.set_cons_zero,List.set_cons_succ,i64_w,i32_w]
       rfl
      refine inv_at [0,2,3,4,6,7,8,9] (fun a0_ b a w'=> ∃ (v161:Value) (adz_v161:Addr) (m3_:Value),a=putSel a0_ b [(0,9,v161),(2,11,.int .i64 a0_0),(3,12,m3_),(4,13,.string (rdOf ByteArray.empty y160 a0_0)),(6,15,.int .i64 a0_1),(7,16,.string t164),(8,17,.string ((rdOf ByteArray.empty y160 a0_0)++t164)),(9,2,.string ((rdOf ByteArray.empty y160 a0_0)++t164))]∧(w'.heap[gb158]?=some (.cells #[.int .i64 a0_0,.int .i64 a0_1] 37 (0,0)))∧(Below w.heap.size w w')∧(b 0=true→Kd.R Kd.string 9 w' w.heap.size (fun _=>True) v161 y160)∧(b 0=true→ ∃c_,(v161:Value)= .slice (some adz_v161) y160.length c_)∧(b 3=true→(m3_:Value)= .pointer (some (adz_v161.add (a0_0).toNat)))) HT_.out HW_.out (by kernel_rfl) (by kernel_rfl) ?_ ?_ ?_
      ·exact⟨.bool false,⟨0,0,none⟩,.bool false,by simp only[putSel,Bool.false_eq_true,if_false],BK158.out,HB.out,fun h_=>absurd h_ (by decide),fun h_=>absurd h_ (by decide),fun h_=>absurd h_ (by decide)⟩
      ·skip
       clear BK158 HB;refine steps_cons ?_ ?_
       ·rintro b a w' ⟨v161,adz_v161,m3_,ha,Q_BK158,Q_HB,Q_HO162,Q_HA_HO162,Q_X3_⟩ hb_ hon hoff
        refine⟨_,rfl,fun K hK=> ?_⟩
        replace ha:=aS ha;have BK158:=aS Q_BK158;have HB:=aS Q_HB;refine Kd.R_lit_step Kd.string _ 9 ?hg (N:=9) ?hd (xs:=([(⟨#[]⟩:ByteArray),(⟨#[110]⟩:ByteArray),(⟨#[97]⟩:ByteArray),(⟨#[114]⟩:ByteArray)]:List ByteArray)) (inner:=[.string (⟨#[]⟩:ByteArray),.string (⟨#[110]⟩:ByteArray),.string (⟨#[97]⟩:ByteArray),.string (⟨#[114]⟩:ByteArray)]) (ok:=fun _=>True) (okp:=fun _=>True) ?hr ?hp (fun _ hk=>hk) trivial (Below.refl _ _) (Nat.le_refl _) (by simp) ?_;(case hd=>rfl);(case hg=>rfl);(case hr=>go_simp<;>rfl);(case hp=>exact(Reps.one (show Kd.M Kd.string _ _ _ (⟨#[]⟩:ByteArray) [.string (⟨#[]⟩:ByteArray)]from rfl) (Reps.one (show Kd.M Kd.string _ _ _ (⟨#[110]⟩:ByteArray) [.string (⟨#[110]⟩:ByteArray)]from rfl) (Reps.one (show Kd.M Kd.string _ _ _ (⟨#[97]⟩:ByteArray) [.string (⟨#[97]⟩:ByteArray)]from rfl) (Reps.one (show Kd.M Kd.string _ _ _ (⟨#[114]⟩:ByteArray) [.string (⟨#[114]⟩:ByteArray)]from rfl) (Reps.none _ _))))))
        intro v161 w18 ho19 hb hg_ hnew_;clear hg_ hnew_;(first|rw[←Ny160.out]at ho19|(simp only[Int.reduceToNat]at ho19;rw[←Ny160.out]at ho19))
        have n0_:=aS (Kd.R_lower ho19 (below_size (by repeat(with_reducible first|exact HB.out|apply bA|apply bN|apply b1|refine below_set ?_ GE158.out))))
        have n1_:=aS (blk_below (g:=gb158) (o:=.cells #[.int .i64 a0_0,.int .i64 a0_1] 37 (0,0)) (by exact blkU BK158.out) hb)
        have n2_:=aS (below_step (by repeat(with_reducible first|exact HB.out|apply bA|apply bN|apply b1|refine below_set ?_ GE158.out)) hb)
        clear BK158 HB;have HO162:=n0_;have BK158:=n1_;have HB:=n2_;clear n0_ n1_ n2_ hb ho19;obtain⟨Ao20,co20,eo20⟩:=Kd.R_slice HO162.out;subst eo20;obtain⟨ado20,fo20,_⟩:=Kd.at_string (Kd.R_reads' HO162.out).2.2 0 (by decide) (by rw[Ny160.out];simp)
        cases fo20
        refine hK.out _ _ ⟨.slice (some ado20) y160.length co20,ado20,m3_,(by rw[ha.out];exact putSel_upk 0 hb_ rfl rfl rfl),(by exact blkU BK158.out),(by repeat(with_reducible first|exact HB.out|apply bA|apply bN|apply b1|refine below_set ?_ GE158.out)),fun _=>(by exact rU HO162.out),fun _=>⟨_,rfl⟩,fun h0_=>absurd ((hoff 3 (by kernel_rfl)).symm.trans h0_) (by decide)⟩
       refine steps_cons ?_ ?_
       ·rintro b a w' ⟨v161,adz_v161,m3_,ha,Q_BK158,Q_HB,Q_HO162,Q_HA_HO162,Q_X3_⟩ hb_ hon hoff
        refine⟨_,rfl,fun K hK=> ?_⟩
        have e10:a.tmps[10]?=some (.pointer (some ⟨gb158,0,none⟩)):=by rw[ha];exact(putSel_off rfl).trans rfl
        replace ha:=aS ha;have BK158:=aS Q_BK158;have HB:=aS Q_HB;have hc0_:w'.cell? ⟨gb158,0,none⟩=some (.int .i64 a0_0):=(blk_cell BK158.out 0).trans rfl;have hc1_:w'.cell? ⟨gb158,1,none⟩=some (.int .i64 a0_1):=(blk_cell BK158.out 1).trans rfl;refine value_ (w1:=w') (v:=.int .i64 a0_0) (by rfl) rfl ?_ ?_
        ·go_simp
         (try simp only[i64_w])
         try rfl
        refine hK.out _ _ ⟨v161,adz_v161,m3_,(by rw[ha.out];exact putSel_upk 1 hb_ rfl rfl rfl),Q_BK158,Q_HB,Q_HO162,Q_HA_HO162,fun h0_=>absurd ((hoff 3 (by kernel_rfl)).symm.trans h0_) (by decide)⟩
       refine steps_cons ?_ ?_
       ·rintro b a w' ⟨v161,adz_v161,m3_,ha,Q_BK158,Q_HB,Q_HO162,Q_HA_HO162,Q_X3_⟩ hb_ hon hoff
        refine⟨_,rfl,fun K hK=> ?_⟩
        have e9:a.tmps[9]?=some (v161):=by rw[ha];exact putSel_on (e:=(0,9,v161)) 0 rfl rfl (hon 0 (by kernel_rfl)) rfl
        have e11:a.tmps[11]?=some (.int .i64 a0_0):=by rw[ha];exact putSel_on (e:=(2,11,.int .i64 a0_0)) 1 rfl rfl (hon 2 (by kernel_rfl)) rfl
        replace ha:=aS ha;have BK158:=aS Q_BK158;have HB:=aS Q_HB;have HO162:=aS (Q_HO162 (hon 0 (by kernel_rfl)))
        have HA_HO162:=aS (Q_HA_HO162 (hon 0 (by kernel_rfl)))
        obtain⟨c_,hv_⟩:=HA_HO162.out;rw[hv_]at e9
        refine value_ (w1:=w') (v:=.pointer (some (adz_v161.add (a0_0).toNat))) (by rfl) rfl ?_ ?_
        ·go_simp
         (try simp only[i64_w])
         try rfl
        refine hK.out _ _ ⟨v161,adz_v161,(.pointer (some (adz_v161.add (a0_0).toNat))),(by rw[ha.out];exact putSel_upk 2 hb_ rfl rfl rfl),Q_BK158,Q_HB,Q_HO162,Q_HA_HO162,fun _=>rfl⟩
       refine steps_cons ?_ ?_
       ·rintro b a w' ⟨v161,adz_v161,m3_,ha,Q_BK158,Q_HB,Q_HO162,Q_HA_HO162,Q_X3_⟩ hb_ hon hoff
        refine⟨_,rfl,fun K hK=> ?_⟩
        have e12:a.tmps[12]?=some (m3_):=by rw[ha];exact putSel_on (e:=(3,12,m3_)) 2 rfl rfl (hon 3 (by kernel_rfl)) rfl
        rw[Q_X3_ (hon 3 (by kernel_rfl))]at e12
        replace ha:=aS ha;have BK158:=aS Q_BK158;have HB:=aS Q_HB;have HO162:=aS (Q_HO162 (hon 0 (by kernel_rfl)))
        have HA_HO162:=aS (Q_HA_HO162 (hon 0 (by kernel_rfl)))
        obtain⟨c_,hv_⟩:=HA_HO162.out;have hF_:=HO162.out;rw[hv_]at hF_
        obtain⟨ad_,ea_,hx_⟩:=Kd.at_string (Kd.R_reads' hF_).2.2 a0_0 (of_eq_true pi163) (of_eq_true qi163);cases ea_
        refine value_ (w1:=w') (v:=.string (rdOf ByteArray.empty y160 a0_0)) (by rfl) rfl ?_ ?_
        ·go_simp
         (try simp only[i64_w])
         try rfl
        refine hK.out _ _ ⟨v161,adz_v161,m3_,(by rw[ha.out];exact putSel_upk 3 hb_ rfl rfl rfl),Q_BK158,Q_HB,Q_HO162,Q_HA_HO162,Q_X3_⟩
       refine steps_cons ?_ ?_
       ·rintro b a w' ⟨v161,adz_v161,m3_,ha,Q_BK158,Q_HB,Q_HO162,Q_HA_HO162,Q_X3_⟩ hb_ hon hoff
        refine⟨_,rfl,fun K hK=> ?_⟩
        have e14:a.tmps[14]?=some (.pointer (some ⟨gb158,1,none⟩)):=by rw[ha];exact(putSel_off rfl).trans rfl
        replace ha:=aS ha;have BK158:=aS Q_BK158;have HB:=aS Q_HB;have hc0_:w'.cell? ⟨gb158,0,none⟩=some (.int .i64 a0_0):=(blk_cell BK158.out 0).trans rfl;have hc1_:w'.cell? ⟨gb158,1,none⟩=some (.int .i64 a0_1):=(blk_cell BK158.out 1).trans rfl;refine value_ (w1:=w') (v:=.int .i64 a0_1) (by rfl) rfl ?_ ?_
        ·go_simp
         (try simp only[i64_w])
         try rfl
        refine hK.out _ _ ⟨v161,adz_v161,m3_,(by rw[ha.out];exact putSel_upk 4 hb_ rfl rfl rfl),Q_BK158,Q_HB,Q_HO162,Q_HA_HO162,Q_X3_⟩
       refine steps_cons ?_ ?_
       ·rintro b a w' ⟨v161,adz_v161,m3_,ha,Q_BK158,Q_HB,Q_HO162,Q_HA_HO162,Q_X3_⟩ hb_ hon hoff
        refine⟨_,rfl,fun K hK=> ?_⟩
        have e15:a.tmps[15]?=some (.int .i64 a0_1):=by rw[ha];exact putSel_on (e:=(6,15,.int .i64 a0_1)) 4 rfl rfl (hon 6 (by kernel_rfl)) rfl
        replace ha:=aS ha;have BK158:=aS Q_BK158;have HB:=aS Q_HB;refine goes_ Tryz.func61 (by kernel_rfl) rfl #[.int .i64 a0_1] (by rfl) rfl rfl (by first|(simp only[List.map_toArray,List.map_cons,List.map_nil,Act.eval,Array.getD_eq_getD_getElem?,Option.getD_some,e15];done)|(simp only[List.map_toArray,List.map_cons,List.map_nil,Act.eval,Array.getD_eq_getD_getElem?,Option.getD_some,e15];rfl)) ?_
        with_reducible refine(spec_l6Dec.calls k a0_1 t164 _ A11.out).mono ?_
        rintro e w18 ⟨rfl,hb⟩
        refine⟨_,rfl,?_⟩
        have n0_:=aS (blk_below (g:=gb158) (o:=.cells #[.int .i64 a0_0,.int .i64 a0_1] 37 (0,0)) (by exact blkU BK158.out) hb)
        have n1_:=aS (below_step (by repeat(with_reducible first|exact HB.out|apply bA|apply bN|apply b1|refine below_set ?_ GE158.out)) hb)
        have z_HO162:=fun (h0_:b 0=true)=>(show Kd.R Kd.string 9 w18 w.heap.size (fun _=>True) v161 y160 from by first|exact(Kd.R_below (by(with_reducible repeat(first|apply rA|apply rN|apply rD));exact(Q_HO162 h0_)) hb)|exact Kd.R_mono (Kd.R_below (by(with_reducible repeat(first|apply rA|apply rN|apply rD));exact(Q_HO162 h0_)) hb) (fun _ h_=>by first|trivial|exact h_|exact h_.1))
        clear BK158 HB;have BK158:=n0_;have HB:=n1_;clear n0_ n1_;(try clear hb)
        (try clear hb2)
        (try clear hk)
        (try clear hi)
        refine hK.out _ _ ⟨v161,adz_v161,m3_,(by rw[ha.out];exact putSel_upk 5 hb_ rfl rfl rfl),(by exact blkU BK158.out),(by repeat(with_reducible first|exact HB.out|apply bA|apply bN|apply b1|refine below_set ?_ GE158.out)),z_HO162,Q_HA_HO162,Q_X3_⟩
       refine steps_cons ?_ ?_
       ·rintro b a w' ⟨v161,adz_v161,m3_,ha,Q_BK158,Q_HB,Q_HO162,Q_HA_HO162,Q_X3_⟩ hb_ hon hoff
        refine⟨_,rfl,fun K hK=> ?_⟩
        have e13:a.tmps[13]?=some (.string (rdOf ByteArray.empty y160 a0_0)):=by rw[ha];exact putSel_on (e:=(4,13,.string (rdOf ByteArray.empty y160 a0_0))) 3 rfl rfl (hon 4 (by kernel_rfl)) rfl
        have e16:a.tmps[16]?=some (.string t164):=by rw[ha];exact putSel_on (e:=(7,16,.string t164)) 5 rfl rfl (hon 7 (by kernel_rfl)) rfl
        replace ha:=aS ha;have BK158:=aS Q_BK158;have HB:=aS Q_HB;have HO162:=aS (Q_HO162 (hon 0 (by kernel_rfl)))
        have HA_HO162:=aS (Q_HA_HO162 (hon 0 (by kernel_rfl)))
        refine value_ (w1:=w') (v:=.string ((rdOf ByteArray.empty y160 a0_0)++t164)) (by rfl) rfl ?_ ?_
        ·go_simp
         (try simp only[i64_w])
         try rfl
        refine hK.out _ _ ⟨v161,adz_v161,m3_,(by rw[ha.out];exact putSel_upk 6 hb_ rfl rfl rfl),Q_BK158,Q_HB,Q_HO162,Q_HA_HO162,Q_X3_⟩
       refine steps_cons ?_ ?_
       ·rintro b a w' ⟨v161,adz_v161,m3_,ha,Q_BK158,Q_HB,Q_HO162,Q_HA_HO162,Q_X3_⟩ hb_ hon hoff
        refine⟨_,rfl,fun K hK=> ?_⟩
        have e17:a.tmps[17]?=some (.string ((rdOf ByteArray.empty y160 a0_0)++t164)):=by rw[ha];exact putSel_on (e:=(8,17,.string ((rdOf ByteArray.empty y160 a0_0)++t164))) 6 rfl rfl (hon 8 (by kernel_rfl)) rfl
        replace ha:=aS ha;have BK158:=aS Q_BK158;have HB:=aS Q_HB;have HO162:=aS (Q_HO162 (hon 0 (by kernel_rfl)))
        have HA_HO162:=aS (Q_HA_HO162 (hon 0 (by kernel_rfl)))
        refine value_ (w1:=w') (v:=.string ((rdOf ByteArray.empty y160 a0_0)++t164)) (by rfl) rfl ?_ ?_
        ·go_simp
         (try simp only[i64_w])
         try rfl
        refine hK.out _ _ ⟨v161,adz_v161,m3_,(by rw[ha.out];exact putSel_upk 7 hb_ rfl rfl rfl),Q_BK158,Q_HB,Q_HO162,Q_HA_HO162,Q_X3_⟩
       exact steps_nil
      rintro b a w22 hall ⟨v161,adz_v161,m3_,ha,Q_BK158,Q_HB,Q_HO162,Q_HA_HO162,Q_X3_⟩
      clear BK158 HB;have hb0_:=hall 0 (by kernel_rfl)
      have hb2_:=hall 2 (by kernel_rfl)
      have hb3_:=hall 3 (by kernel_rfl)
      have hb4_:=hall 4 (by kernel_rfl)
      have hb6_:=hall 6 (by kernel_rfl)
      have hb7_:=hall 7 (by kernel_rfl)
      have hb8_:=hall 8 (by kernel_rfl)
      have hb9_:=hall 9 (by kernel_rfl)
      subst ha;obtain rfl:=Q_X3_ hb3_;simp only[putSel,hb0_,hb2_,hb3_,hb4_,hb6_,hb7_,hb8_,hb9_,if_true,Act.put,List.setIfInBounds_toArray,List.set_cons_zero,List.set_cons_succ]
      have BK158:=aS Q_BK158;clear Q_BK158;have HB:=aS Q_HB;clear Q_HB;have HO162:=aS (Q_HO162 hb0_);clear Q_HO162;have HA_HO162:=aS (Q_HA_HO162 hb0_);clear Q_HA_HO162 hall hb0_ hb2_ hb3_ hb4_ hb6_ hb7_ hb8_ hb9_;obtain⟨co23,eo23⟩:=HA_HO162.out;clear HA_HO162;subst eo23;try go_wp2
      go_ret
      exact⟨by first|rfl|(simp[*]<;>rfl),by repeat(with_reducible first|exact HB.out|apply bA|apply bN|apply b1|refine below_set ?_ GE158.out)⟩
     ·rw[if_neg c12]at H
      exact absurd H (by simp)
    ·rw[if_neg c10]at H
     exact absurd H (by simp)
   ·rw[if_neg c9]at H
    exact absurd H (by simp)
 ·replace c3:=Bool.eq_false_iff.mpr c3
  subst c3;have H1:(some (⟨#[]⟩:ByteArray))=some r:=by rw[if_neg (show¬(false=true) by decide)]at H;exact H
  clear H;have H:=H1;clear H1;obtain rfl:=Option.some.inj H;go_enter Tryz.func62,Tryz.ntmps62
  go_wp2_with (first|((with_reducible refine gate_dst (N:=1) rfl ?_);refine box_event ?hg (N:=1) ?hd (cs:= #[.int .i64 a0_0,.int .i64 a0_1]) (t:=37) ?hr ?_;(case hd=>rfl);(case hg=>rfl);(case hr=>go_simp<;>rfl);intro gb158 hg w24 hbox hb;have n0_:=aS (below_step (by exact bU HB.out) hb);have n1_:=aS (hbox);have n2_:=aS ((by rw[hg];exact(below_size (by exact bU HB.out)):w.heap.size≤gb158));have n3_:=aS ((by rw[hg];exact(below_size (by exact bU HB.out)):w.heap.size≤gb158));clear HB;have HB:=n0_;have BK158:=n1_;have GW158:=n2_;have GE158:=n3_;clear n0_ n1_ n2_ n3_;clear hb hbox hg;have hcz25_0:w24.cell? ⟨gb158,0,none⟩=some (.int .i64 a0_0):=(blk_cell BK158.out 0).trans rfl;have hcz25_1:w24.cell? ⟨gb158,1,none⟩=some (.int .i64 a0_1):=(blk_cell BK158.out 1).trans rfl;have hfz25_0:=blk_frozen BK158.out 0;have hfz25_1:=blk_frozen BK158.out 1)|((with_reducible refine gate_callee (f:=67) rfl ?_);refine goesL_ (some 4) rfl rfl Tryz.func67 (by kernel_rfl) rfl #[.agg #[.int .i64 a0_0,.int .i64 a0_1]] rfl (by(try simp only[List.map_toArray,List.map_cons,List.map_nil])<;>rfl) ?_;(with_reducible refine(spec_ValOk.calls a0_0 a0_1 false _ A2.out).mono ?_);rintro e w26 ⟨rfl,hb⟩;refine⟨_,rfl,?_⟩;replace BK158:=aS (blk_below (g:=gb158) (o:=.cells #[.int .i64 a0_0,.int .i64 a0_1] 37 (0,0)) (by exact blkU BK158.out) hb);replace HB:=aS (below_step (by repeat(with_reducible first|exact HB.out|apply bA|apply bN|apply b1|refine below_set ?_ GE158.out)) hb);(try clear hb)))
  go_ret
  exact⟨by first|rfl|(simp[*]<;>rfl),by repeat(with_reducible first|exact HB.out|apply bA|apply bN|apply b1|refine below_set ?_ GE158.out)⟩
mutual
def spec_ValRead.j0:Nat→ByteArray→Bool→Int→Int→Option (Int×Int×Bool)
 |0,_,_,_,_=>none
 |k+1,x0,x5,x170000,x170001=>if x5=true then(if x170000=0 then(spec_ValRead.j1 k true x170000 x170001)else((spec_ValText.f k x170000 x170001).bind fun t170=>(spec_ValRead.j1 k (t170.toList !=x0.toList) x170000 x170001)))else(spec_ValRead.j1 k true x170000 x170001)
def spec_ValRead.j1:Nat→Bool→Int→Int→Option (Int×Int×Bool)
 |0,_,_,_=>none
 |k+1,x46,x170000,x170001=>if x46=true then(some (0,0,false))else(some (x170000,x170001,true))
end
def spec_ValRead.f (k:Nat) (a0:ByteArray):Option (Int×Int×Bool):=if a0.toList=([110,111,110,101]:List UInt8)then(some (0,0,true))else((spec_l6In.f (a0.size:Int) 2 4).bind fun t166=>(if t166=true then(if 1≤(a0.size:Int)then((spec_l1Dec.f k (a0.extract 1 a0.size)).bind fun bt167=>(if 0<(a0.size:Int)then(if(bt a0 0)=110 then(spec_ValRead.j0 k a0 bt167.2 1 bt167.1)else(if(bt a0 0)=97 then(spec_ValRead.j0 k a0 bt167.2 2 bt167.1)else(if(bt a0 0)=114 then(spec_ValRead.j0 k a0 bt167.2 3 bt167.1)else(spec_ValRead.j0 k a0 bt167.2 0 bt167.1))))else(none)))else(none))else(some (0,0,false))))
theorem spec_ValRead.calls (k:Nat) (a0:ByteArray) (r1:Int) (r2:Int) (r3:Bool) (w:World) (h:spec_ValRead.f k a0=some (r1,r2,r3)):
  Calls Tryz.prog 40 #[.string a0] w fun e w'=>e= .returned (.tuple #[.agg #[.int .i64 r1,.int .i64 r2],.bool r3])∧Below w.heap.size w w':=by
 have hu37:=Tryz.underlying37;have HB:=aS (Below.refl w.heap.size w);have H:(if a0.toList=([110,111,110,101]:List UInt8)then(some (0,0,true))else((spec_l6In.f (a0.size:Int) 2 4).bind fun t166=>(if t166=true then(if 1≤(a0.size:Int)then((spec_l1Dec.f k (a0.extract 1 a0.size)).bind fun bt167=>(if 0<(a0.size:Int)then(if(bt a0 0)=110 then(spec_ValRead.j0 k a0 bt167.2 1 bt167.1)else(if(bt a0 0)=97 then(spec_ValRead.j0 k a0 bt167.2 2 bt167.1)else(if(bt a0 0)=114 then(spec_ValRead.j0 k a0 bt167.2 3 bt167.1)else(spec_ValRead.j0 k a0 bt167.2 0 bt167.1))))else(none)))else(none))else(some (0,0,false)))))=some (r1,r2,r3):=h
 clear h;by_cases c2:a0.toList=([110,111,110,101]:List UInt8)
 ·rw[if_pos c2]at H
  have c2b0:(a0.toList==([110,111,110,101]:List UInt8))=true:=beq_iff_eq.mpr c2;have c2b1:(a0.toList !=([110,111,110,101]:List UInt8))=false:=bne_eq_false_iff_eq.mpr c2;clear c2;simp only[Option.some.injEq,Prod.mk.injEq]at H
  obtain⟨rfl,rfl,rfl⟩:=H;go_enter Tryz.func40,Tryz.ntmps40
  go_wp2_with (first|((with_reducible refine gate_dst (N:=2) rfl ?_);refine box_event ?hg (N:=2) ?hd (cs:= #[.int .i64 0,.int .i64 0]) (t:=37) ?hr ?_;(case hd=>rfl);(case hg=>rfl);(case hr=>go_simp<;>rfl);intro gb165 hg w3 hbox hb;have n0_:=aS (below_step (by exact bU HB.out) hb);have n1_:=aS (hbox);have n2_:=aS ((by rw[hg];exact(below_size (by exact bU HB.out)):w.heap.size≤gb165));have n3_:=aS ((by rw[hg];exact(below_size (by exact bU HB.out)):w.heap.size≤gb165));clear HB;have HB:=n0_;have BK165:=n1_;have GW165:=n2_;have GE165:=n3_;clear n0_ n1_ n2_ n3_;clear hb hbox hg;have hcz4_0:w3.cell? ⟨gb165,0,none⟩=some (.int .i64 0):=(blk_cell BK165.out 0).trans rfl;have hcz4_1:w3.cell? ⟨gb165,1,none⟩=some (.int .i64 0):=(blk_cell BK165.out 1).trans rfl;have hfz4_0:=blk_frozen BK165.out 0;have hfz4_1:=blk_frozen BK165.out 1))
  refine bodyPost_ret (results_ct rfl _ _ gb165 37 #[.int .i64 0,.int .i64 0] (0,0) _ rfl (by refine kU ?_;refine blk_put (cs:= #[.int .i64 0,.int .i64 0]) ?_ 1 _ rfl;refine kU ?_;refine blk_put (cs:= #[.int .i64 0,.int .i64 0]) ?_ 0 _ rfl;exact blkU BK165.out) Tryz.underlying37 rfl (by kernel_rfl)) rfl ?_
  exact⟨by first|rfl|(simp[*]<;>rfl),by repeat(with_reducible first|exact HB.out|apply bA|apply bN|apply b1|refine below_set ?_ GE165.out)⟩
 ·rw[if_neg c2]at H
  have c2b0:(a0.toList==([110,111,110,101]:List UInt8))=false:=beq_eq_false_iff_ne.mpr c2;have c2b1:(a0.toList !=([110,111,110,101]:List UInt8))=true:=bne_iff_ne.mpr c2;replace H:=Option.bind_eq_some_iff.mp H;obtain⟨t166,A50,H⟩:=H;replace H:(if t166=true then(if 1≤(a0.size:Int)then((spec_l1Dec.f k (a0.extract 1 a0.size)).bind fun bt167=>(if 0<(a0.size:Int)then(if(bt a0 0)=110 then(spec_ValRead.j0 k a0 bt167.2 1 bt167.1)else(if(bt a0 0)=97 then(spec_ValRead.j0 k a0 bt167.2 2 bt167.1)else(if(bt a0 0)=114 then(spec_ValRead.j0 k a0 bt167.2 3 bt167.1)else(spec_ValRead.j0 k a0 bt167.2 0 bt167.1))))else(none)))else(none))else(some (0,0,false)))=some (r1,r2,r3):=H
  have A5:=aS A50;clear A50;by_cases c6:t166=true
  ·subst c6
   have H1:(if 1≤(a0.size:Int)then((spec_l1Dec.f k (a0.extract 1 a0.size)).bind fun bt167=>(if 0<(a0.size:Int)then(if(bt a0 0)=110 then(spec_ValRead.j0 k a0 bt167.2 1 bt167.1)else(if(bt a0 0)=97 then(spec_ValRead.j0 k a0 bt167.2 2 bt167.1)else(if(bt a0 0)=114 then(spec_ValRead.j0 k a0 bt167.2 3 bt167.1)else(spec_ValRead.j0 k a0 bt167.2 0 bt167.1))))else(none)))else(none))=some (r1,r2,r3):=by rw[if_pos rfl]at H;exact H
   clear H;have H:=H1;clear H1;by_cases c7:1≤(a0.size:Int)
   ·rw[if_pos c7]at H
    have c7b0:=eq_true c7;have c7b1:decide (1≤(a0.size:Int))=true:=decide_eq_true c7;clear c7;replace H:=Option.bind_eq_some_iff.mp H;obtain⟨⟨t167,t168⟩,A80,H⟩:=H;replace H:(if 0<(a0.size:Int)then(if(bt a0 0)=110 then(spec_ValRead.j0 k a0 t168 1 t167)else(if(bt a0 0)=97 then(spec_ValRead.j0 k a0 t168 2 t167)else(if(bt a0 0)=114 then(spec_ValRead.j0 k a0 t168 3 t167)else(spec_ValRead.j0 k a0 t168 0 t167))))else(none))=some (r1,r2,r3):=H
    have A8:=aS A80;clear A80;by_cases c9:0<(a0.size:Int)
    ·rw[if_pos c9]at H
     have c9b0:decide (0<(a0.size:Int))=true:=decide_eq_true c9;have c9b1:decide (0<a0.size)=true:=decide_eq_true (by omega)
     clear c9;have HC11:=aS H;clear H;go_enter Tryz.func40,Tryz.ntmps40
     go_upto_block 0 with (first|((with_reducible refine gate_dst (N:=2) rfl ?_);refine box_event ?hg (N:=2) ?hd (cs:= #[.int .i64 0,.int .i64 0]) (t:=37) ?hr ?_;(case hd=>rfl);(case hg=>rfl);(case hr=>go_simp<;>rfl);intro gb165 hg w12 hbox hb;have n0_:=aS (below_step (by exact bU HB.out) hb);have n1_:=aS (hbox);have n2_:=aS ((by rw[hg];exact(below_size (by exact bU HB.out)):w.heap.size≤gb165));have n3_:=aS ((by rw[hg];exact(below_size (by exact bU HB.out)):w.heap.size≤gb165));clear HB;have HB:=n0_;have BK165:=n1_;have GW165:=n2_;have GE165:=n3_;clear n0_ n1_ n2_ n3_;clear hb hbox hg)|((with_reducible refine gate_callee (f:=43) rfl ?_);refine goesL_ (some 12) rfl rfl Tryz.func43 (by kernel_rfl) rfl #[.int .i64 (a0.size:Int),.int .i64 2,.int .i64 4] rfl (by(try simp only[List.map_toArray,List.map_cons,List.map_nil])<;>rfl) ?_;(with_reducible refine(spec_l6In.calls (a0.size:Int) 2 4 true _ A5.out).mono ?_);rintro e w' ⟨rfl,⟨nd,rfl⟩⟩;refine⟨_,rfl,?_⟩;(try(rw[drewN_self w12];generalize hq_:World.drewN w12 _=w12;have n0_:Aside0 (w12.heap[gb165]?=some (.cells #[.int .i64 0,.int .i64 0] 37 (0,0))):=⟨by rw[←hq_];exact(by exact blkU BK165.out)⟩;have n1_:Aside0 (Below w.heap.size w w12):=⟨by rw[←hq_];exact(by repeat(with_reducible first|exact HB.out|apply bA|apply bN|apply b1|refine below_set ?_ GE165.out))⟩;clear BK165 HB hq_;have BK165:=n0_;have HB:=n1_;clear n0_ n1_)))|((with_reducible refine gate_callee (f:=39) rfl ?_);refine goesL_ (some 18) rfl rfl Tryz.func39 (by kernel_rfl) rfl #[.string (a0.extract 1 a0.size)] rfl (by(try simp only[List.map_toArray,List.map_cons,List.map_nil])<;>rfl) ?_;(with_reducible refine(spec_l1Dec.calls k (a0.extract 1 a0.size) t167 t168 _ A8.out).mono ?_);rintro e w' ⟨rfl,⟨nd,rfl⟩⟩;refine⟨_,rfl,?_⟩;(try(rw[drewN_self w12];generalize hq_:World.drewN w12 _=w12;have n0_:Aside0 (w12.heap[gb165]?=some (.cells #[.int .i64 0,.int .i64 0] 37 (0,0))):=⟨by rw[←hq_];exact(by exact blkU BK165.out)⟩;have n1_:Aside0 (Below w.heap.size w w12):=⟨by rw[←hq_];exact(by repeat(with_reducible first|exact HB.out|apply bA|apply bN|apply b1|refine below_set ?_ GE165.out))⟩;clear BK165 HB hq_;have BK165:=n0_;have HB:=n1_;clear n0_ n1_)))|((with_reducible refine gate_dst (N:=6) rfl ?_);refine box_event ?hg (N:=6) ?hd (cs:= #[.int .i64 0,.int .i64 0]) (t:=37) ?hr ?_;(case hd=>rfl);(case hg=>rfl);(case hr=>go_simp<;>rfl);intro gb169 hg w13 hbox hb;have n0_:=aS (blk_below (g:=gb165) (o:=.cells #[.int .i64 0,.int .i64 0] 37 (0,0)) (by exact blkU BK165.out) hb);have n1_:=aS (below_step (by repeat(with_reducible first|exact HB.out|apply bA|apply bN|apply b1|refine below_set ?_ GE165.out)) hb);have n2_:=aS (hbox);have n3_:=aS ((by rw[hg];exact(below_size (by repeat(with_reducible first|exact HB.out|apply bA|apply bN|apply b1|refine below_set ?_ GE165.out))):w.heap.size≤gb169));have n4_:=aS ((by rw[hg];exact(below_size (by repeat(with_reducible first|exact HB.out|apply bA|apply bN|apply b1|refine below_set ?_ GE165.out))):w.heap.size≤gb169));have n5_:=aS ((by rw[hg];exact Nat.ne_of_lt (blk_lt (g:=gb165) (o:=.cells #[.int .i64 0,.int .i64 0] 37 (0,0)) (by exact blkU BK165.out)):gb165≠gb169));have n6_:=aS ((by rw[hg];exact Nat.ne_of_gt (blk_lt (g:=gb165) (o:=.cells #[.int .i64 0,.int .i64 0] 37 (0,0)) (by exact blkU BK165.out)):gb169≠gb165));clear BK165;clear HB;have BK165:=n0_;have HB:=n1_;have BK169:=n2_;have GW169:=n3_;have GE169:=n4_;have NB165_169:=n5_;have NB169_165:=n6_;clear n0_ n1_ n2_ n3_ n4_ n5_ n6_;clear hb hbox hg;have hnb14:=NB169_165.out;have hnc14:=NB165_169.out;have hcz15_0:w13.cell? ⟨gb169,0,none⟩=some (.int .i64 0):=(blk_cell BK169.out 0).trans rfl;have hcz15_1:w13.cell? ⟨gb169,1,none⟩=some (.int .i64 0):=(blk_cell BK169.out 1).trans rfl;have hfz15_0:=blk_frozen BK169.out 0;have hfz15_1:=blk_frozen BK169.out 1;have p10:0≤(0:Int):=(by omega);have q10:0<a0.size:=(by have:(0:Int)<(a0.size:Int):=of_decide_eq_true (by assumption);omega);have hx10: ∀h:0<a0.size,((a0[0]'h).toNat:Int)=bt a0 0:=bt_at a0 0;clear p10;have qi10:(0<(a0.size:Int))=True:=eq_true (of_decide_eq_true (by assumption));replace q10:=eq_true q10))
     (try simp only[Act.put,List.setIfInBounds_toArray,List.set_cons_zero,List.set_cons_succ])
     go_cut [] (fun wc=> ∃ (kq:Nat) (x170000_10:Int),Aside0 (spec_ValRead.j0 kq a0 t168 x170000_10 t167=some (r1,r2,r3))∧Aside0 (kq≤k)∧Aside0 (wc.heap[gb165]?=some (.cells #[.int .i64 0,.int .i64 0] 37 (0,0)))∧Aside0 (wc.heap[gb169]?=some (.cells #[.int .i64 x170000_10,.int .i64 t167] 37 (0,0)))∧Aside0 (Below w.heap.size w wc))
     case first=>
      have H:=HC11.out;clear HC11;by_cases c16:(bt a0 0)=110
      ·rw[if_pos c16]at H
       have c16b0:((bt a0 0)==110)=true:=beq_iff_eq.mpr c16;have c16b1:((bt a0 0) !=110)=false:=bne_eq_false_iff_eq.mpr c16;clear c16;(first|rw[c16b0]|(simp only[i64_w,i32_w];rw[c16b0])|skip)
       have H':=aS H;clear H;have hnb17:=NB169_165.out;have hnc17:=NB165_169.out;have hcz18_0:w13.cell? ⟨gb169,0,none⟩=some (.int .i64 0):=(blk_cell BK169.out 0).trans rfl;have hcz18_1:w13.cell? ⟨gb169,1,none⟩=some (.int .i64 0):=(blk_cell BK169.out 1).trans rfl;have hfz18_0:=blk_frozen BK169.out 0;have hfz18_1:=blk_frozen BK169.out 1;go_wp2
       go_meet
       case rel=>exact⟨_,(1),H',⟨by first|omega|exact Nat.le_refl _⟩,⟨by refine kU ?_;refine blk_far ?_ NB165_169.out _;refine kU ?_;refine blk_far ?_ NB165_169.out _;refine kU ?_;refine blk_far ?_ NB165_169.out _;exact blkU BK165.out⟩,⟨by refine kU ?_;refine blk_put (cs:= #[.int .i64 0,.int .i64 t167]) ?_ 0 _ rfl;refine kU ?_;refine blk_put (cs:= #[.int .i64 0,.int .i64 0]) ?_ 1 _ rfl;refine kU ?_;refine blk_put (cs:= #[.int .i64 0,.int .i64 0]) ?_ 0 _ rfl;exact blkU BK169.out⟩,⟨by repeat(with_reducible first|exact HB.out|apply bA|apply bN|apply b1|refine below_set ?_ GE165.out|refine below_set ?_ GE169.out)⟩⟩
      ·rw[if_neg c16]at H
       have c16b0:((bt a0 0)==110)=false:=beq_eq_false_iff_ne.mpr c16;have c16b1:((bt a0 0) !=110)=true:=bne_iff_ne.mpr c16;(first|rw[c16b0]|(simp only[i64_w,i32_w];rw[c16b0])|skip)
       by_cases c19:(bt a0 0)=97
       ·rw[if_pos c19]at H
        have c19b0:((bt a0 0)==97)=true:=beq_iff_eq.mpr c19;have c19b1:((bt a0 0) !=97)=false:=bne_eq_false_iff_eq.mpr c19;clear c19;have H':=aS H;clear H;have hnb20:=NB169_165.out;have hnc20:=NB165_169.out;have hcz21_0:w13.cell? ⟨gb169,0,none⟩=some (.int .i64 0):=(blk_cell BK169.out 0).trans rfl;have hcz21_1:w13.cell? ⟨gb169,1,none⟩=some (.int .i64 0):=(blk_cell BK169.out 1).trans rfl;have hfz21_0:=blk_frozen BK169.out 0;have hfz21_1:=blk_frozen BK169.out 1;go_wp2
        go_meet
        case rel=>exact⟨_,(2),H',⟨by first|omega|exact Nat.le_refl _⟩,⟨by refine kU ?_;refine blk_far ?_ NB165_169.out _;refine kU ?_;refine blk_far ?_ NB165_169.out _;refine kU ?_;refine blk_far ?_ NB165_169.out _;exact blkU BK165.out⟩,⟨by refine kU ?_;refine blk_put (cs:= #[.int .i64 0,.int .i64 t167]) ?_ 0 _ rfl;refine kU ?_;refine blk_put (cs:= #[.int .i64 0,.int .i64 0]) ?_ 1 _ rfl;refine kU ?_;refine blk_put (cs:= #[.int .i64 0,.int .i64 0]) ?_ 0 _ rfl;exact blkU BK169.out⟩,⟨by repeat(with_reducible first|exact HB.out|apply bA|apply bN|apply b1|refine below_set ?_ GE165.out|refine below_set ?_ GE169.out)⟩⟩
       ·rw[if_neg c19]at H
        have c19b0:((bt a0 0)==97)=false:=beq_eq_false_iff_ne.mpr c19;have c19b1:((bt a0 0) !=97)=true:=bne_iff_ne.mpr c19;by_cases c22:(bt a0 0)=114
        ·rw[if_pos c22]at H
         have c22b0:((bt a0 0)==114)=true:=beq_iff_eq.mpr c22;have c22b1:((bt a0 0) !=114)=false:=bne_eq_false_iff_eq.mpr c22;clear c22;have H':=aS H;clear H;have hnb23:=NB169_165.out;have hnc23:=NB165_169.out;have hcz24_0:w13.cell? ⟨gb169,0,none⟩=some (.int .i64 0):=(blk_cell BK169.out 0).trans rfl;have hcz24_1:w13.cell? ⟨gb169,1,none⟩=some (.int .i64 0):=(blk_cell BK169.out 1).trans rfl;have hfz24_0:=blk_frozen BK169.out 0;have hfz24_1:=blk_frozen BK169.out 1;go_wp2
         go_meet
         case rel=>exact⟨_,(3),H',⟨by first|omega|exact Nat.le_refl _⟩,⟨by refine kU ?_;refine blk_far ?_ NB165_169.out _;refine kU ?_;refine blk_far ?_ NB165_169.out _;refine kU ?_;refine blk_far ?_ NB165_169.out _;exact blkU BK165.out⟩,⟨by refine kU ?_;refine blk_put (cs:= #[.int .i64 0,.int .i64 t167]) ?_ 0 _ rfl;refine kU ?_;refine blk_put (cs:= #[.int .i64 0,.int .i64 0]) ?_ 1 _ rfl;refine kU ?_;refine blk_put (cs:= #[.int .i64 0,.int .i64 0]) ?_ 0 _ rfl;exact blkU BK169.out⟩,⟨by repeat(with_reducible first|exact HB.out|apply bA|apply bN|apply b1|refine below_set ?_ GE165.out|refine below_set ?_ GE169.out)⟩⟩
        ·rw[if_neg c22]at H
         have c22b0:((bt a0 0)==114)=false:=beq_eq_false_iff_ne.mpr c22;have c22b1:((bt a0 0) !=114)=true:=bne_iff_ne.mpr c22;have H':=aS H;clear H;go_wp2
         go_meet
         case rel=>exact⟨_,(0),H',⟨by first|omega|exact Nat.le_refl _⟩,⟨by refine kU ?_;refine blk_far ?_ NB165_169.out _;refine kU ?_;refine blk_far ?_ NB165_169.out _;exact blkU BK165.out⟩,⟨by refine kU ?_;refine blk_put (cs:= #[.int .i64 0,.int .i64 0]) ?_ 1 _ rfl;refine kU ?_;refine blk_put (cs:= #[.int .i64 0,.int .i64 0]) ?_ 0 _ rfl;exact blkU BK169.out⟩,⟨by repeat(with_reducible first|exact HB.out|apply bA|apply bN|apply b1|refine below_set ?_ GE165.out|refine below_set ?_ GE169.out)⟩⟩
     case rest=>
      clear HC11;(try clear c1);(try clear p1);(try clear q1);(try clear hx1);(try clear qi1);(try clear c2);(try clear c2b0);(try clear c2b1);(try clear p2);(try clear c3);(try clear c4);(try clear c6);(try clear c7);(try clear c7b0);(try clear c7b1);(try clear c9);(try clear c9b0);(try clear c9b1);(try clear p10);(try clear q10);(try clear hx10);(try clear qi10);(try clear c14);(try clear c16);(try clear c16b0);(try clear c16b1);(try clear c17);(try clear c19);(try clear c19b0);(try clear c19b1);(try clear c20);(try clear c22);(try clear c22b0);(try clear c22b1);(try clear c23);(try clear hcz15_0);(try clear hcz15_1);(try clear hcz18_0);(try clear hcz18_1);(try clear hcz21_0);(try clear hcz21_1);(try clear hcz24_0);(try clear hcz24_1);(try clear hcz4_0);(try clear hcz4_1);(try clear hfz15_0);(try clear hfz15_1);(try clear hfz18_0);(try clear hfz18_1);(try clear hfz21_0);(try clear hfz21_1);(try clear hfz24_0);(try clear hfz24_1);(try clear hfz4_0);(try clear hfz4_1);(try clear p10);(try clear q10)
      obtain⟨kq,x170000_10,HA,HJ10,BK165,BK169,HB⟩:=hcut;cases kq with
      |zero=>exact absurd HA.out (by simp[spec_ValRead.j0])
      |succ kj10=>
       have H:=HA.out;clear HA;simp only[spec_ValRead.j0]at H
       have HC25:=aS H;clear H;go_upto_region 14 with (fail)
       go_cut [46] (fun v46 wc=> ∃ (kq:Nat) (x46_24:Bool),v46= .bool x46_24∧Aside0 (spec_ValRead.j1 kq x46_24 x170000_10 t167=some (r1,r2,r3))∧Aside0 (kq≤kj10)∧Aside0 (wc.heap[gb165]?=some (.cells #[.int .i64 0,.int .i64 0] 37 (0,0)))∧Aside0 (wc.heap[gb169]?=some (.cells #[.int .i64 x170000_10,.int .i64 t167] 37 (0,0)))∧Aside0 (Below w.heap.size w wc))
       case first=>
        have H:=HC25.out;clear HC25;by_cases c26:t168=true
        ·subst c26
         have H1:(if x170000_10=0 then(spec_ValRead.j1 kj10 true x170000_10 t167)else((spec_ValText.f kj10 x170000_10 t167).bind fun t170=>(spec_ValRead.j1 kj10 (t170.toList !=a0.toList) x170000_10 t167)))=some (r1,r2,r3):=by rw[if_pos rfl]at H;exact H
         clear H;have H:=H1;clear H1;by_cases c27:x170000_10=0
         ·rw[if_pos c27]at H
          have c27b0:(x170000_10==0)=true:=beq_iff_eq.mpr c27;have c27b1:(x170000_10 !=0)=false:=bne_eq_false_iff_eq.mpr c27;clear c27;(first|rw[c27b0]|(simp only[i64_w,i32_w];rw[c27b0])|skip)
          have H':=aS H;clear H;have hnb28:=NB169_165.out;have hnc28:=NB165_169.out;have hcz29_0:wc.cell? ⟨gb169,0,none⟩=some (.int .i64 x170000_10):=(blk_cell BK169.out 0).trans rfl;have hcz29_1:wc.cell? ⟨gb169,1,none⟩=some (.int .i64 t167):=(blk_cell BK169.out 1).trans rfl;have hfz29_0:=blk_frozen BK169.out 0;have hfz29_1:=blk_frozen BK169.out 1;go_wp2
          go_meet
          case rel=>exact⟨_,(true),(by first|rfl|(simp;done)|(simp[*];done)),H',⟨by have:=HJ10.out;first|omega|exact Nat.le_refl _⟩,⟨by exact blkU BK165.out⟩,⟨by exact blkU BK169.out⟩,⟨by repeat(with_reducible first|exact HB.out|apply bA|apply bN|apply b1|refine below_set ?_ GE165.out|refine below_set ?_ GE169.out)⟩⟩
         ·rw[if_neg c27]at H
          have c27b0:(x170000_10==0)=false:=beq_eq_false_iff_ne.mpr c27;have c27b1:(x170000_10 !=0)=true:=bne_iff_ne.mpr c27;(first|rw[c27b0]|(simp only[i64_w,i32_w];rw[c27b0])|skip)
          replace H:=Option.bind_eq_some_iff.mp H;obtain⟨t170,A300,H⟩:=H;replace H:(spec_ValRead.j1 kj10 (t170.toList !=a0.toList) x170000_10 t167)=some (r1,r2,r3):=H;have A30:=aS A300;clear A300;have H':=aS H;clear H;have hnb31:=NB169_165.out;have hnc31:=NB165_169.out;have hcz32_0:wc.cell? ⟨gb169,0,none⟩=some (.int .i64 x170000_10):=(blk_cell BK169.out 0).trans rfl;have hcz32_1:wc.cell? ⟨gb169,1,none⟩=some (.int .i64 t167):=(blk_cell BK169.out 1).trans rfl;have hfz32_0:=blk_frozen BK169.out 0;have hfz32_1:=blk_frozen BK169.out 1;go_wp2_with (first|(go_at_call 62;(with_reducible refine(spec_ValText.calls kj10 x170000_10 t167 t170 _ A30.out).mono ?_);rintro e w33 ⟨rfl,hb⟩;replace BK165:=aS (blk_below (g:=gb165) (o:=.cells #[.int .i64 0,.int .i64 0] 37 (0,0)) (by exact blkU BK165.out) hb);replace BK169:=aS (blk_below (g:=gb169) (o:=.cells #[.int .i64 x170000_10,.int .i64 t167] 37 (0,0)) (by exact blkU BK169.out) hb);replace HB:=aS (below_step (by repeat(with_reducible first|exact HB.out|apply bA|apply bN|apply b1|refine below_set ?_ GE165.out|refine below_set ?_ GE169.out)) hb);(try clear hb)))
          go_meet
          case rel=>exact⟨_,((t170.toList !=a0.toList)),(by first|rfl|(simp;done)|(simp[*];done)),H',⟨by have:=HJ10.out;first|omega|exact Nat.le_refl _⟩,⟨by exact blkU BK165.out⟩,⟨by exact blkU BK169.out⟩,⟨by repeat(with_reducible first|exact HB.out|apply bA|apply bN|apply b1|refine below_set ?_ GE165.out|refine below_set ?_ GE169.out)⟩⟩
        ·replace c26:=Bool.eq_false_iff.mpr c26
         subst c26;have H1:(spec_ValRead.j1 kj10 true x170000_10 t167)=some (r1,r2,r3):=by rw[if_neg (show¬(false=true) by decide)]at H;exact H
         clear H;have H:=H1;clear H1;have H':=aS H;clear H;go_wp2
         go_meet
         case rel=>exact⟨_,(true),(by first|rfl|(simp;done)|(simp[*];done)),H',⟨by have:=HJ10.out;first|omega|exact Nat.le_refl _⟩,⟨by exact blkU BK165.out⟩,⟨by exact blkU BK169.out⟩,⟨by repeat(with_reducible first|exact HB.out|apply bA|apply bN|apply b1|refine below_set ?_ GE165.out|refine below_set ?_ GE169.out)⟩⟩
       case rest=>
        clear HC25;(try clear c1);(try clear p1);(try clear q1);(try clear hx1);(try clear qi1);(try clear c2);(try clear c2b0);(try clear c2b1);(try clear p2);(try clear c3);(try clear c4);(try clear c6);(try clear c7);(try clear c7b0);(try clear c7b1);(try clear c9);(try clear c9b0);(try clear c9b1);(try clear p10);(try clear q10);(try clear hx10);(try clear qi10);(try clear c14);(try clear c16);(try clear c16b0);(try clear c16b1);(try clear c17);(try clear c19);(try clear c19b0);(try clear c19b1);(try clear c20);(try clear c22);(try clear c22b0);(try clear c22b1);(try clear c23);(try clear c26);(try clear c27);(try clear c27b0);(try clear c27b1);(try clear c28);(try clear c31);(try clear hcz15_0);(try clear hcz15_1);(try clear hcz18_0);(try clear hcz18_1);(try clear hcz21_0);(try clear hcz21_1);(try clear hcz24_0);(try clear hcz24_1);(try clear hcz29_0);(try clear hcz29_1);(try clear hcz32_0);(try clear hcz32_1);(try clear hcz4_0);(try clear hcz4_1);(try clear hfz15_0);(try clear hfz15_1);(try clear hfz18_0);(try clear hfz18_1);(try clear hfz21_0);(try clear hfz21_1);(try clear hfz24_0);(try clear hfz24_1);(try clear hfz29_0);(try clear hfz29_1);(try clear hfz32_0);(try clear hfz32_1);(try clear hfz4_0);(try clear hfz4_1);(try clear p1);(try clear p10);(try clear p2);(try clear q1);(try clear q10)
        obtain⟨kq,x46_24,rfl,HA,HJ24,BK165,BK169,HB⟩:=hcut;cases kq with
        |zero=>exact absurd HA.out (by simp[spec_ValRead.j1])
        |succ kj24=>
         have H:=HA.out;clear HA;simp only[spec_ValRead.j1]at H
         by_cases c34:x46_24=true
         ·subst c34
          have H1:(some (0,0,false))=some (r1,r2,r3):=by rw[if_pos rfl]at H;exact H
          clear H;have H:=H1;clear H1;simp only[Option.some.injEq,Prod.mk.injEq]at H
          obtain⟨rfl,rfl,rfl⟩:=H;have hnb35:=NB165_169.out;have hnc35:=NB169_165.out;have hcz36_0:wc.cell? ⟨gb165,0,none⟩=some (.int .i64 0):=(blk_cell BK165.out 0).trans rfl;have hcz36_1:wc.cell? ⟨gb165,1,none⟩=some (.int .i64 0):=(blk_cell BK165.out 1).trans rfl;have hfz36_0:=blk_frozen BK165.out 0;have hfz36_1:=blk_frozen BK165.out 1;go_wp2
          refine bodyPost_ret (results_ct rfl _ _ gb165 37 #[.int .i64 0,.int .i64 0] (0,0) _ rfl (by refine kU ?_;refine blk_put (cs:= #[.int .i64 0,.int .i64 0]) ?_ 1 _ rfl;refine kU ?_;refine blk_put (cs:= #[.int .i64 0,.int .i64 0]) ?_ 0 _ rfl;exact blkU BK165.out) Tryz.underlying37 rfl (by kernel_rfl)) rfl ?_
          exact⟨by first|rfl|(simp[*]<;>rfl),by repeat(with_reducible first|exact HB.out|apply bA|apply bN|apply b1|refine below_set ?_ GE165.out|refine below_set ?_ GE169.out)⟩
         ·replace c34:=Bool.eq_false_iff.mpr c34
          subst c34;have H1:(some (x170000_10,t167,true))=some (r1,r2,r3):=by rw[if_neg (show¬(false=true) by decide)]at H;exact H
          clear H;have H:=H1;clear H1;simp only[Option.some.injEq,Prod.mk.injEq]at H
          obtain⟨rfl,rfl,rfl⟩:=H;have hnb37:=NB169_165.out;have hnc37:=NB165_169.out;have hcz38_0:wc.cell? ⟨gb169,0,none⟩=some (.int .i64 x170000_10):=(blk_cell BK169.out 0).trans rfl;have hcz38_1:wc.cell? ⟨gb169,1,none⟩=some (.int .i64 t167):=(blk_cell BK169.out 1).trans rfl;have hfz38_0:=blk_frozen BK169.out 0;have hfz38_1:=blk_frozen BK169.out 1;have hcz39_0:wc.cell? ⟨gb165,0,none⟩=some (.int .i64 0):=(blk_cell BK165.out 0).trans rfl;have hcz39_1:wc.cell? ⟨gb165,1,none⟩=some (.int .i64 0):=(blk_cell BK165.out 1).trans rfl;have hfz39_0:=blk_frozen BK165.out 0;have hfz39_1:=blk_frozen BK165.out 1;go_wp2
          refine bodyPost_ret (results_ct rfl _ _ gb165 37 #[.int .i64 x170000_10,.int .i64 t167] (0,0) _ rfl (by refine kU ?_;refine blk_put (cs:= #[.int .i64 x170000_10,.int .i64 0]) ?_ 1 _ rfl;refine kU ?_;refine blk_put (cs:= #[.int .i64 0,.int .i64 0]) ?_ 0 _ rfl;exact blkU BK165.out) Tryz.underlying37 rfl (by kernel_rfl)) rfl ?_
          exact⟨by first|rfl|(simp[*]<;>rfl),by repeat(with_reducible first|exact HB.out|apply bA|apply bN|apply b1|refine below_set ?_ GE165.out|refine below_set ?_ GE169.out)⟩
    ·rw[if_neg c9]at H
     exact absurd H (by simp)
   ·rw[if_neg c7]at H
    exact absurd H (by simp)
  ·replace c6:=Bool.eq_false_iff.mpr c6
   subst c6;have H1:(some (0,0,false))=some (r1,r2,r3):=by rw[if_neg (show¬(false=true) by decide)]at H;exact H
   clear H;have H:=H1;clear H1;simp only[Option.some.injEq,Prod.mk.injEq]at H
   obtain⟨rfl,rfl,rfl⟩:=H;go_enter Tryz.func40,Tryz.ntmps40
   go_wp2_with (first|((with_reducible refine gate_dst (N:=2) rfl ?_);refine box_event ?hg (N:=2) ?hd (cs:= #[.int .i64 0,.int .i64 0]) (t:=37) ?hr ?_;(case hd=>rfl);(case hg=>rfl);(case hr=>go_simp<;>rfl);intro gb165 hg w40 hbox hb;have n0_:=aS (below_step (by exact bU HB.out) hb);have n1_:=aS (hbox);have n2_:=aS ((by rw[hg];exact(below_size (by exact bU HB.out)):w.heap.size≤gb165));have n3_:=aS ((by rw[hg];exact(below_size (by exact bU HB.out)):w.heap.size≤gb165));clear HB;have HB:=n0_;have BK165:=n1_;have GW165:=n2_;have GE165:=n3_;clear n0_ n1_ n2_ n3_;clear hb hbox hg)|((with_reducible refine gate_callee (f:=43) rfl ?_);refine goesL_ (some 12) rfl rfl Tryz.func43 (by kernel_rfl) rfl #[.int .i64 (a0.size:Int),.int .i64 2,.int .i64 4] rfl (by(try simp only[List.map_toArray,List.map_cons,List.map_nil])<;>rfl) ?_;(with_reducible refine(spec_l6In.calls (a0.size:Int) 2 4 false _ A5.out).mono ?_);rintro e w' ⟨rfl,⟨nd,rfl⟩⟩;refine⟨_,rfl,?_⟩;(try(rw[drewN_self w40];generalize hq_:World.drewN w40 _=w40;have n0_:Aside0 (w40.heap[gb165]?=some (.cells #[.int .i64 0,.int .i64 0] 37 (0,0))):=⟨by rw[←hq_];exact(by exact blkU BK165.out)⟩;have n1_:Aside0 (Below w.heap.size w w40):=⟨by rw[←hq_];exact(by repeat(with_reducible first|exact HB.out|apply bA|apply bN|apply b1|refine below_set ?_ GE165.out))⟩;clear BK165 HB hq_;have BK165:=n0_;have HB:=n1_;clear n0_ n1_));have hcz41_0:w40.cell? ⟨gb165,0,none⟩=some (.int .i64 0):=(blk_cell BK165.out 0).trans rfl;have hcz41_1:w40.cell? ⟨gb165,1,none⟩=some (.int .i64 0):=(blk_cell BK165.out 1).trans rfl;have hfz41_0:=blk_frozen BK165.out 0;have hfz41_1:=blk_frozen BK165.out 1))
   refine bodyPost_ret (results_ct rfl _ _ gb165 37 #[.int .i64 0,.int .i64 0] (0,0) _ rfl (by refine kU ?_;refine blk_put (cs:= #[.int .i64 0,.int .i64 0]) ?_ 1 _ rfl;refine kU ?_;refine blk_put (cs:= #[.int .i64 0,.int .i64 0]) ?_ 0 _ rfl;exact blkU BK165.out) Tryz.underlying37 rfl (by kernel_rfl)) rfl ?_
   exact⟨by first|rfl|(simp[*]<;>rfl),by repeat(with_reducible first|exact HB.out|apply bA|apply bN|apply b1|refine below_set ?_ GE165.out)⟩
end Go.Proofs.YtmklpbmlgjkbiaaGreatDoor.PS
end
section
namespace Go.Proofs.YtmklpbmlgjkbiaaGreatDoor.PS
open Go.RowKit Go.Proofs.YtmklpbmlgjkbiaaGreatDoorW.PrintWords Go.Proofs.YtmklpbmlgjkbiaaGreatDoorW.PrintLast
def namesL:List ByteArray:=[⟨#[]⟩,⟨#[115,101,116]⟩,⟨#[109,111,118,101]⟩,⟨#[97,100,100]⟩,⟨#[115,101,108,102]⟩,⟨#[98,101,103,105,110]⟩,⟨#[115,101,110,100]⟩,⟨#[116,97,107,101]⟩,⟨#[97,102,116,101,114]⟩,⟨#[103,111]⟩,⟨#[105,102]⟩,⟨#[108,105,110,107]⟩,⟨#[119,97,116,99,104]⟩,⟨#[116,114,97,112]⟩,⟨#[101,110,100]⟩]
def nameB (k:Int):ByteArray:=rdOf ByteArray.empty namesL k
theorem names_calls (k:Int) (hk:0≤k) (hk2:k<15) (W:World):Calls Tryz.prog 37 #[] W fun e w'=> ∃g c,e= .returned (.slice (some ⟨g,0,none⟩) 15 c)∧Below W.heap.size W w'∧w'.cell? ⟨g,k.toNat,none⟩=some (.string (nameB k)):=by
  refine(spec_l2Names.calls namesL W rfl).mono ?_
  rintro e w' ⟨v,rfl,hR,hb⟩
  obtain⟨g,cap,e,_⟩:=Kd.R_form hR (by decide)
  rw[e]at hR⊢
  exact⟨g,cap,rfl,hb,(Kd.R_celln ByteArray.empty hR k hk hk2).1⟩
def addN (b:Bool) (out:ByteArray) (n:Int):Option ByteArray:=if b=true then(spec_l6Dec.f 8 n).bind fun x=>if x.size≤100 then some ((out++⟨#[32]⟩)++x)else none else some out
def addV (b:Bool) (out:ByteArray) (vk vn:Int):Option ByteArray:=if b=true then(spec_ValText.f 8 vk vn).bind fun x=>if x.size≤100 then some ((out++⟨#[32]⟩)++x)else none else some out
def otextV.f (k r s t vk vn:Int):Option ByteArray:=
  if opB k r s t vk vn=true then(addN (hasR k) (nameB k) r).bind fun o1=>(addN (hasS k) o1 s).bind fun o2=>(addN (hasT k) o2 t).bind fun o3=>addV (hasV k) o3 vk vn else some ⟨#[]⟩
theorem addN_some {b:Bool} {out o1:ByteArray} {n:Int} (h:addN b out n=some o1):(b=false∧o1=out)∨(b=true∧ ∃x,spec_l6Dec.f 8 n=some x∧x.size≤100∧o1=(out++⟨#[32]⟩)++x):=by
  unfold addN at h;cases b with
  |false=>exact .inl ⟨rfl,by simpa using h.symm⟩
  |true=>
    right
    rw[if_pos rfl]at h
    obtain⟨x,hx,h⟩:=Option.bind_eq_some_iff.1 h;split at h
    · exact⟨rfl,x,hx,by assumption,(Option.some.inj h).symm⟩
    · cases h
theorem addV_some {b:Bool} {out o1:ByteArray} {k n:Int} (h:addV b out k n=some o1):(b=false∧o1=out)∨(b=true∧ ∃x,spec_ValText.f 8 k n=some x∧x.size≤100∧o1=(out++⟨#[32]⟩)++x):=by
  unfold addV at h;cases b with
  |false=>exact .inl ⟨rfl,by simpa using h.symm⟩
  |true=>
    right
    rw[if_pos rfl]at h
    obtain⟨x,hx,h⟩:=Option.bind_eq_some_iff.1 h;split at h
    · exact⟨rfl,x,hx,by assumption,(Option.some.inj h).symm⟩
    · cases h
theorem text_no (k r s t vk vn:Int) (w:World) (h:opB k r s t vk vn=false):
    Calls Tryz.prog 29 #[.agg #[.int .i64 k,.int .i64 r,.int .i64 s,.int .i64 t,.int .i64 vk,.int .i64 vn]] w fun e w'=>e= .returned (.string ⟨#[]⟩)∧Below w.heap.size w w':=by
  have hOk:=fun W:World=>spec_OpOk.calls k r s t vk vn false W (by unfold opV.f;rw[h])
  clear h;go_enter Tryz.func29,Tryz.ntmps29
  go_wp2_with (go_at_call 41;refine(hOk _).mono ?_;rintro e w' ⟨rfl,hb⟩)
  go_ret
  exact⟨rfl,below_step (below_alloc (Below.refl _ _) _) hb⟩
theorem text_walk (k r s t vk vn:Int) (w:World) (hop:opB k r s t vk vn=true) (nm xR xS xT xV:ByteArray) (hk:1≤k∧k≤14) (hnm:nm=nameB k) (hsz:nm.size≤100∧xR.size≤100∧xS.size≤100∧xT.size≤100∧xV.size≤100)
    (bR bS bT bV:Bool) (eR:bR=hasR k) (eS:bS=hasS k) (eT:bT=hasT k) (eV:bV=hasV k)
    (hR:bR=true→spec_l6Dec.f 8 r=some xR) (hS:bS=true→spec_l6Dec.f 8 s=some xS) (hT:bT=true→spec_l6Dec.f 8 t=some xT) (hV:bV=true→spec_ValText.f 8 vk vn=some xV)
    (o1 o2 o3 o4:ByteArray) (h1:o1=if bR=true then(nm++⟨#[32]⟩)++xR else nm) (h2:o2=if bS=true then(o1++⟨#[32]⟩)++xS else o1) (h3:o3=if bT=true then(o2++⟨#[32]⟩)++xT else o2) (h4:o4=if bV=true then(o3++⟨#[32]⟩)++xV else o3):
    Calls Tryz.prog 29 #[.agg #[.int .i64 k,.int .i64 r,.int .i64 s,.int .i64 t,.int .i64 vk,.int .i64 vn]] w fun e w'=>e= .returned (.string o4)∧Below w.heap.size w w':=by
  have hOk:=fun W:World=>spec_OpOk.calls k r s t vk vn true W (by unfold opV.f;rw[hop])
  have hFo:=fun W:World=>form_calls hk W
  rw[←eR,←eS,←eT,←eV]at hFo
  have hNa:=fun W:World=>names_calls k (by omega) (by omega) W
  rw[←hnm]at hNa
  obtain⟨hk1,hk2⟩:=hk;have hk0:0≤k:=by omega
  have hk15:k<15:=by omega
  have BK:Aside0 ((w.alloc (.cells #[.int .i64 k,.int .i64 r,.int .i64 s,.int .i64 t,.int .i64 vk,.int .i64 vn] 39)).heap[w.heap.size]?=some (.cells #[.int .i64 k,.int .i64 r,.int .i64 s,.int .i64 t,.int .i64 vk,.int .i64 vn] 39 (0,0))):=⟨blk_new _ _⟩;have HB:=aS (below_alloc (Below.refl w.heap.size w) (.cells #[.int .i64 k,.int .i64 r,.int .i64 s,.int .i64 t,.int .i64 vk,.int .i64 vn] 39));have H:=aS (show _∧_∧_∧_∧_∧_∧_∧_∧_ from⟨h1,h2,h3,h4,hR,hS,hT,hV,hsz⟩)
  clear hop hnm eR eS eT eV hR hS hT hV h1 h2 h3 h4 hsz;go_enter Tryz.func29,Tryz.ntmps29
  go_wp2_with (first|(go_at_call 41;refine(hOk _).mono ?_;rintro e w1 ⟨rfl,hb⟩;have BK1:=aS (blk_below BK.out hb);have HB1:=aS (below_step HB.out hb);clear hb;have q0:w1.cell? ⟨w.heap.size,0,none⟩=some (.int .i64 k):=(blk_cell BK1.out 0).trans rfl)|(go_at_call 38;refine(hFo _).mono ?_;rintro e w2 ⟨gf,cf,rfl,hb,gl,f0,f1,f2,f3⟩;have BK2:=aS (blk_below BK1.out hb);have HB2:=aS (below_step HB1.out hb);clear hb))
  have q2:w2.cell? ⟨w.heap.size,0,none⟩=some (.int .i64 k):=(blk_cell BK2.out 0).trans rfl;have hbl:Below w2.heap.size w2 w2.drew:=below_drew (Below.refl _ _);have q3:w2.drew.cell? ⟨w.heap.size,0,none⟩=some (.int .i64 k):=q2;go_region_with (first|(go_at_call 37;refine(hNa _).mono ?_;rintro e w3 ⟨gn,cn,rfl,hb,n0⟩;have q9:w3.cell? ⟨w.heap.size,0,none⟩=some (.int .i64 k):=(hb.cell (World.block_lt_of_cell? _ _ (by first|exact q2|exact q3))).trans (by first|exact q2|exact q3)))
  all_goals
    have hH2:Below w2.heap.size w2 w3:=below_step hbl hb;have BK3:=aS (blk_below BK2.out hH2);have HB3:=aS (below_step HB2.out hH2);have g0:=(hH2.cell (World.block_lt_of_cell? _ _ f0)).trans f0;have g1:=(hH2.cell (World.block_lt_of_cell? _ _ f1)).trans f1;have g2:=(hH2.cell (World.block_lt_of_cell? _ _ f2)).trans f2;have g3:=(hH2.cell (World.block_lt_of_cell? _ _ f3)).trans f3;clear f0 f1 f2 f3 q0 q2 q3 q9 hbl hOk hFo hNa n0 hH2 hb;obtain⟨h1,h2,h3,h4,hR,hS,hT,hV,z0,zR,zS,zT,zV⟩:=H.out;clear H;cases bR with
    |false=>
      have k0:o1=nm:=by simpa using h1
      clear h1 hR;subst k0;go_upto_region 7 with (fail)
      cases bS with
      |false=>
        have k1:o2=o1:=by simpa using h2
        clear h2 hS;subst k1;go_upto_region 9 with (fail)
        cases bT with
        |false=>
          have k2:o3=o2:=by simpa using h3
          clear h3 hT;subst k2;go_upto_region 11 with (fail)
          cases bV with
          |false=>
            have k3:o4=o3:=by simpa using h4
            clear h4 hV;subst k3;go_wp2
            go_ret
            exact⟨rfl,HB3.out⟩
          |true=>
            have k3:o4=(o3++⟨#[32]⟩)++xV:=by simpa using h4
            have K3:=aS k3;have dc:=fun W:World=>spec_ValText.calls 8 vk vn xV W (hV rfl)
            have zs:(o3++(⟨#[32]⟩:ByteArray)).size=o3.size+1:=by rw[ByteArray.size_append];rfl
            have zo:o4.size≤201:=by rw[k3,ByteArray.size_append,zs];omega
            have da1:decide (o3.size+1≤9223372036854775807)=true:=decide_eq_true (by omega)
            have da2:(9223372036854775807<o3.size+1)=False:=eq_false (by omega)
            have da3:(o3.size+1≤9223372036854775807)=True:=eq_true (by omega)
            have db1:decide ((o3++(⟨#[32]⟩:ByteArray)).size+xV.size≤9223372036854775807)=true:=decide_eq_true (by rw[zs];omega)
            have db2:(9223372036854775807<(o3++(⟨#[32]⟩:ByteArray)).size+xV.size)=False:=eq_false (by rw[zs];omega)
            have db3:((o3++(⟨#[32]⟩:ByteArray)).size+xV.size≤9223372036854775807)=True:=eq_true (by rw[zs];omega)
            have dc1:decide (o3.size+1+xV.size≤9223372036854775807)=true:=decide_eq_true (by omega)
            have dc2:(9223372036854775807<o3.size+1+xV.size)=False:=eq_false (by omega)
            have dc3:(o3.size+1+xV.size≤9223372036854775807)=True:=eq_true (by omega)
            have c0:w3.cell? ⟨w.heap.size,4,none⟩=some (.int .i64 vk):=(blk_cell BK3.out 4).trans rfl;have c1:w3.cell? ⟨w.heap.size,5,none⟩=some (.int .i64 vn):=(blk_cell BK3.out 5).trans rfl;clear h4 hV k3 zs;go_wp2_with (go_at_call 62;refine(dc _).mono ?_;rintro e w4 ⟨rfl,hb⟩;have BK4:=aS (blk_below BK3.out hb);have HB4:=aS (below_step HB3.out hb);clear hb BK3 HB3)
            go_ret
            exact⟨by rw[K3.out];rfl,HB4.out⟩
        |true=>
          have k2:o3=(o2++⟨#[32]⟩)++xT:=by simpa using h3
          have K2:=aS k2;have dc:=fun W:World=>spec_l6Dec.calls 8 t xT W (hT rfl)
          have zs:(o2++(⟨#[32]⟩:ByteArray)).size=o2.size+1:=by rw[ByteArray.size_append];rfl
          have zo:o3.size≤201:=by rw[k2,ByteArray.size_append,zs];omega
          have da1:decide (o2.size+1≤9223372036854775807)=true:=decide_eq_true (by omega)
          have da2:(9223372036854775807<o2.size+1)=False:=eq_false (by omega)
          have da3:(o2.size+1≤9223372036854775807)=True:=eq_true (by omega)
          have db1:decide ((o2++(⟨#[32]⟩:ByteArray)).size+xT.size≤9223372036854775807)=true:=decide_eq_true (by rw[zs];omega)
          have db2:(9223372036854775807<(o2++(⟨#[32]⟩:ByteArray)).size+xT.size)=False:=eq_false (by rw[zs];omega)
          have db3:((o2++(⟨#[32]⟩:ByteArray)).size+xT.size≤9223372036854775807)=True:=eq_true (by rw[zs];omega)
          have dc1:decide (o2.size+1+xT.size≤9223372036854775807)=true:=decide_eq_true (by omega)
          have dc2:(9223372036854775807<o2.size+1+xT.size)=False:=eq_false (by omega)
          have dc3:(o2.size+1+xT.size≤9223372036854775807)=True:=eq_true (by omega)
          have c0:w3.cell? ⟨w.heap.size,3,none⟩=some (.int .i64 t):=(blk_cell BK3.out 3).trans rfl;clear h3 hT k2 zs;go_upto_region 11 with (go_at_call 61;refine(dc _).mono ?_;rintro e w4 ⟨rfl,hb⟩;have BK4:=aS (blk_below BK3.out hb);have HB4:=aS (below_step HB3.out hb);have g3_:=(hb.cell (World.block_lt_of_cell? _ _ g3)).trans g3;clear g3;have g3:=g3_;clear g3_;clear hb BK3 HB3)
          rw[←K2.out];clear dc da1 da2 da3 db1 db2 db3 dc1 dc2 dc3 c0;cases bV with
          |false=>
            have k3:o4=o3:=by simpa using h4
            clear h4 hV;subst k3;go_wp2
            go_ret
            exact⟨rfl,HB4.out⟩
          |true=>
            have k3:o4=(o3++⟨#[32]⟩)++xV:=by simpa using h4
            have K3:=aS k3;have dc:=fun W:World=>spec_ValText.calls 8 vk vn xV W (hV rfl)
            have zs:(o3++(⟨#[32]⟩:ByteArray)).size=o3.size+1:=by rw[ByteArray.size_append];rfl
            have zo:o4.size≤302:=by rw[k3,ByteArray.size_append,zs];omega
            have da1:decide (o3.size+1≤9223372036854775807)=true:=decide_eq_true (by omega)
            have da2:(9223372036854775807<o3.size+1)=False:=eq_false (by omega)
            have da3:(o3.size+1≤9223372036854775807)=True:=eq_true (by omega)
            have db1:decide ((o3++(⟨#[32]⟩:ByteArray)).size+xV.size≤9223372036854775807)=true:=decide_eq_true (by rw[zs];omega)
            have db2:(9223372036854775807<(o3++(⟨#[32]⟩:ByteArray)).size+xV.size)=False:=eq_false (by rw[zs];omega)
            have db3:((o3++(⟨#[32]⟩:ByteArray)).size+xV.size≤9223372036854775807)=True:=eq_true (by rw[zs];omega)
            have dc1:decide (o3.size+1+xV.size≤9223372036854775807)=true:=decide_eq_true (by omega)
            have dc2:(9223372036854775807<o3.size+1+xV.size)=False:=eq_false (by omega)
            have dc3:(o3.size+1+xV.size≤9223372036854775807)=True:=eq_true (by omega)
            have c0:w4.cell? ⟨w.heap.size,4,none⟩=some (.int .i64 vk):=(blk_cell BK4.out 4).trans rfl;have c1:w4.cell? ⟨w.heap.size,5,none⟩=some (.int .i64 vn):=(blk_cell BK4.out 5).trans rfl;clear h4 hV k3 zs;go_wp2_with (go_at_call 62;refine(dc _).mono ?_;rintro e w5 ⟨rfl,hb⟩;have BK5:=aS (blk_below BK4.out hb);have HB5:=aS (below_step HB4.out hb);clear hb BK4 HB4)
            go_ret
            exact⟨by rw[K3.out];rfl,HB5.out⟩
      |true=>
        have k1:o2=(o1++⟨#[32]⟩)++xS:=by simpa using h2
        have K1:=aS k1;have dc:=fun W:World=>spec_l6Dec.calls 8 s xS W (hS rfl)
        have zs:(o1++(⟨#[32]⟩:ByteArray)).size=o1.size+1:=by rw[ByteArray.size_append];rfl
        have zo:o2.size≤201:=by rw[k1,ByteArray.size_append,zs];omega
        have da1:decide (o1.size+1≤9223372036854775807)=true:=decide_eq_true (by omega)
        have da2:(9223372036854775807<o1.size+1)=False:=eq_false (by omega)
        have da3:(o1.size+1≤9223372036854775807)=True:=eq_true (by omega)
        have db1:decide ((o1++(⟨#[32]⟩:ByteArray)).size+xS.size≤9223372036854775807)=true:=decide_eq_true (by rw[zs];omega)
        have db2:(9223372036854775807<(o1++(⟨#[32]⟩:ByteArray)).size+xS.size)=False:=eq_false (by rw[zs];omega)
        have db3:((o1++(⟨#[32]⟩:ByteArray)).size+xS.size≤9223372036854775807)=True:=eq_true (by rw[zs];omega)
        have dc1:decide (o1.size+1+xS.size≤9223372036854775807)=true:=decide_eq_true (by omega)
        have dc2:(9223372036854775807<o1.size+1+xS.size)=False:=eq_false (by omega)
        have dc3:(o1.size+1+xS.size≤9223372036854775807)=True:=eq_true (by omega)
        have c0:w3.cell? ⟨w.heap.size,2,none⟩=some (.int .i64 s):=(blk_cell BK3.out 2).trans rfl;clear h2 hS k1 zs;go_upto_region 9 with (go_at_call 61;refine(dc _).mono ?_;rintro e w4 ⟨rfl,hb⟩;have BK4:=aS (blk_below BK3.out hb);have HB4:=aS (below_step HB3.out hb);have g2_:=(hb.cell (World.block_lt_of_cell? _ _ g2)).trans g2;clear g2;have g2:=g2_;clear g2_;have g3_:=(hb.cell (World.block_lt_of_cell? _ _ g3)).trans g3;clear g3;have g3:=g3_;clear g3_;clear hb BK3 HB3)
        rw[←K1.out];clear dc da1 da2 da3 db1 db2 db3 dc1 dc2 dc3 c0;cases bT with
        |false=>
          have k2:o3=o2:=by simpa using h3
          clear h3 hT;subst k2;go_upto_region 11 with (fail)
          cases bV with
          |false=>
            have k3:o4=o3:=by simpa using h4
            clear h4 hV;subst k3;go_wp2
            go_ret
            exact⟨rfl,HB4.out⟩
          |true=>
            have k3:o4=(o3++⟨#[32]⟩)++xV:=by simpa using h4
            have K3:=aS k3;have dc:=fun W:World=>spec_ValText.calls 8 vk vn xV W (hV rfl)
            have zs:(o3++(⟨#[32]⟩:ByteArray)).size=o3.size+1:=by rw[ByteArray.size_append];rfl
            have zo:o4.size≤302:=by rw[k3,ByteArray.size_append,zs];omega
            have da1:decide (o3.size+1≤9223372036854775807)=true:=decide_eq_true (by omega)
            have da2:(9223372036854775807<o3.size+1)=False:=eq_false (by omega)
            have da3:(o3.size+1≤9223372036854775807)=True:=eq_true (by omega)
            have db1:decide ((o3++(⟨#[32]⟩:ByteArray)).size+xV.size≤9223372036854775807)=true:=decide_eq_true (by rw[zs];omega)
            have db2:(9223372036854775807<(o3++(⟨#[32]⟩:ByteArray)).size+xV.size)=False:=eq_false (by rw[zs];omega)
            have db3:((o3++(⟨#[32]⟩:ByteArray)).size+xV.size≤9223372036854775807)=True:=eq_true (by rw[zs];omega)
            have dc1:decide (o3.size+1+xV.size≤9223372036854775807)=true:=decide_eq_true (by omega)
            have dc2:(9223372036854775807<o3.size+1+xV.size)=False:=eq_false (by omega)
            have dc3:(o3.size+1+xV.size≤9223372036854775807)=True:=eq_true (by omega)
            have c0:w4.cell? ⟨w.heap.size,4,none⟩=some (.int .i64 vk):=(blk_cell BK4.out 4).trans rfl;have c1:w4.cell? ⟨w.heap.size,5,none⟩=some (.int .i64 vn):=(blk_cell BK4.out 5).trans rfl;clear h4 hV k3 zs;go_wp2_with (go_at_call 62;refine(dc _).mono ?_;rintro e w5 ⟨rfl,hb⟩;have BK5:=aS (blk_below BK4.out hb);have HB5:=aS (below_step HB4.out hb);clear hb BK4 HB4)
            go_ret
            exact⟨by rw[K3.out];rfl,HB5.out⟩
        |true=>
          have k2:o3=(o2++⟨#[32]⟩)++xT:=by simpa using h3
          have K2:=aS k2;have dc:=fun W:World=>spec_l6Dec.calls 8 t xT W (hT rfl)
          have zs:(o2++(⟨#[32]⟩:ByteArray)).size=o2.size+1:=by rw[ByteArray.size_append];rfl
          have zo:o3.size≤302:=by rw[k2,ByteArray.size_append,zs];omega
          have da1:decide (o2.size+1≤9223372036854775807)=true:=decide_eq_true (by omega)
          have da2:(9223372036854775807<o2.size+1)=False:=eq_false (by omega)
          have da3:(o2.size+1≤9223372036854775807)=True:=eq_true (by omega)
          have db1:decide ((o2++(⟨#[32]⟩:ByteArray)).size+xT.size≤9223372036854775807)=true:=decide_eq_true (by rw[zs];omega)
          have db2:(9223372036854775807<(o2++(⟨#[32]⟩:ByteArray)).size+xT.size)=False:=eq_false (by rw[zs];omega)
          have db3:((o2++(⟨#[32]⟩:ByteArray)).size+xT.size≤9223372036854775807)=True:=eq_true (by rw[zs];omega)
          have dc1:decide (o2.size+1+xT.size≤9223372036854775807)=true:=decide_eq_true (by omega)
          have dc2:(9223372036854775807<o2.size+1+xT.size)=False:=eq_false (by omega)
          have dc3:(o2.size+1+xT.size≤9223372036854775807)=True:=eq_true (by omega)
          have c0:w4.cell? ⟨w.heap.size,3,none⟩=some (.int .i64 t):=(blk_cell BK4.out 3).trans rfl;clear h3 hT k2 zs;go_upto_region 11 with (go_at_call 61;refine(dc _).mono ?_;rintro e w5 ⟨rfl,hb⟩;have BK5:=aS (blk_below BK4.out hb);have HB5:=aS (below_step HB4.out hb);have g3_:=(hb.cell (World.block_lt_of_cell? _ _ g3)).trans g3;clear g3;have g3:=g3_;clear g3_;clear hb BK4 HB4)
          rw[←K2.out];clear dc da1 da2 da3 db1 db2 db3 dc1 dc2 dc3 c0;cases bV with
          |false=>
            have k3:o4=o3:=by simpa using h4
            clear h4 hV;subst k3;go_wp2
            go_ret
            exact⟨rfl,HB5.out⟩
          |true=>
            have k3:o4=(o3++⟨#[32]⟩)++xV:=by simpa using h4
            have K3:=aS k3;have dc:=fun W:World=>spec_ValText.calls 8 vk vn xV W (hV rfl)
            have zs:(o3++(⟨#[32]⟩:ByteArray)).size=o3.size+1:=by rw[ByteArray.size_append];rfl
            have zo:o4.size≤403:=by rw[k3,ByteArray.size_append,zs];omega
            have da1:decide (o3.size+1≤9223372036854775807)=true:=decide_eq_true (by omega)
            have da2:(9223372036854775807<o3.size+1)=False:=eq_false (by omega)
            have da3:(o3.size+1≤9223372036854775807)=True:=eq_true (by omega)
            have db1:decide ((o3++(⟨#[32]⟩:ByteArray)).size+xV.size≤9223372036854775807)=true:=decide_eq_true (by rw[zs];omega)
            have db2:(9223372036854775807<(o3++(⟨#[32]⟩:ByteArray)).size+xV.size)=False:=eq_false (by rw[zs];omega)
            have db3:((o3++(⟨#[32]⟩:ByteArray)).size+xV.size≤9223372036854775807)=True:=eq_true (by rw[zs];omega)
            have dc1:decide (o3.size+1+xV.size≤9223372036854775807)=true:=decide_eq_true (by omega)
            have dc2:(9223372036854775807<o3.size+1+xV.size)=False:=eq_false (by omega)
            have dc3:(o3.size+1+xV.size≤9223372036854775807)=True:=eq_true (by omega)
            have c0:w5.cell? ⟨w.heap.size,4,none⟩=some (.int .i64 vk):=(blk_cell BK5.out 4).trans rfl;have c1:w5.cell? ⟨w.heap.size,5,none⟩=some (.int .i64 vn):=(blk_cell BK5.out 5).trans rfl;clear h4 hV k3 zs;go_wp2_with (go_at_call 62;refine(dc _).mono ?_;rintro e w6 ⟨rfl,hb⟩;have BK6:=aS (blk_below BK5.out hb);have HB6:=aS (below_step HB5.out hb);clear hb BK5 HB5)
            go_ret
            exact⟨by rw[K3.out];rfl,HB6.out⟩
    |true=>
      have k0:o1=(nm++⟨#[32]⟩)++xR:=by simpa using h1
      have K0:=aS k0;have dc:=fun W:World=>spec_l6Dec.calls 8 r xR W (hR rfl)
      have zs:(nm++(⟨#[32]⟩:ByteArray)).size=nm.size+1:=by rw[ByteArray.size_append];rfl
      have zo:o1.size≤201:=by rw[k0,ByteArray.size_append,zs];omega
      have da1:decide (nm.size+1≤9223372036854775807)=true:=decide_eq_true (by omega)
      have da2:(9223372036854775807<nm.size+1)=False:=eq_false (by omega)
      have da3:(nm.size+1≤9223372036854775807)=True:=eq_true (by omega)
      have db1:decide ((nm++(⟨#[32]⟩:ByteArray)).size+xR.size≤9223372036854775807)=true:=decide_eq_true (by rw[zs];omega)
      have db2:(9223372036854775807<(nm++(⟨#[32]⟩:ByteArray)).size+xR.size)=False:=eq_false (by rw[zs];omega)
      have db3:((nm++(⟨#[32]⟩:ByteArray)).size+xR.size≤9223372036854775807)=True:=eq_true (by rw[zs];omega)
      have dc1:decide (nm.size+1+xR.size≤9223372036854775807)=true:=decide_eq_true (by omega)
      have dc2:(9223372036854775807<nm.size+1+xR.size)=False:=eq_false (by omega)
      have dc3:(nm.size+1+xR.size≤9223372036854775807)=True:=eq_true (by omega)
      have c0:w3.cell? ⟨w.heap.size,1,none⟩=some (.int .i64 r):=(blk_cell BK3.out 1).trans rfl;clear h1 hR k0 zs;go_upto_region 7 with (go_at_call 61;refine(dc _).mono ?_;rintro e w4 ⟨rfl,hb⟩;have BK4:=aS (blk_below BK3.out hb);have HB4:=aS (below_step HB3.out hb);have g1_:=(hb.cell (World.block_lt_of_cell? _ _ g1)).trans g1;clear g1;have g1:=g1_;clear g1_;have g2_:=(hb.cell (World.block_lt_of_cell? _ _ g2)).trans g2;clear g2;have g2:=g2_;clear g2_;have g3_:=(hb.cell (World.block_lt_of_cell? _ _ g3)).trans g3;clear g3;have g3:=g3_;clear g3_;clear hb BK3 HB3)
      rw[←K0.out];clear dc da1 da2 da3 db1 db2 db3 dc1 dc2 dc3 c0;cases bS with
      |false=>
        have k1:o2=o1:=by simpa using h2
        clear h2 hS;subst k1;go_upto_region 9 with (fail)
        cases bT with
        |false=>
          have k2:o3=o2:=by simpa using h3
          clear h3 hT;subst k2;go_upto_region 11 with (fail)
          cases bV with
          |false=>
            have k3:o4=o3:=by simpa using h4
            clear h4 hV;subst k3;go_wp2
            go_ret
            exact⟨rfl,HB4.out⟩
          |true=>
            have k3:o4=(o3++⟨#[32]⟩)++xV:=by simpa using h4
            have K3:=aS k3;have dc:=fun W:World=>spec_ValText.calls 8 vk vn xV W (hV rfl)
            have zs:(o3++(⟨#[32]⟩:ByteArray)).size=o3.size+1:=by rw[ByteArray.size_append];rfl
            have zo:o4.size≤302:=by rw[k3,ByteArray.size_append,zs];omega
            have da1:decide (o3.size+1≤9223372036854775807)=true:=decide_eq_true (by omega)
            have da2:(9223372036854775807<o3.size+1)=False:=eq_false (by omega)
            have da3:(o3.size+1≤9223372036854775807)=True:=eq_true (by omega)
            have db1:decide ((o3++(⟨#[32]⟩:ByteArray)).size+xV.size≤9223372036854775807)=true:=decide_eq_true (by rw[zs];omega)
            have db2:(9223372036854775807<(o3++(⟨#[32]⟩:ByteArray)).size+xV.size)=False:=eq_false (by rw[zs];omega)
            have db3:((o3++(⟨#[32]⟩:ByteArray)).size+xV.size≤9223372036854775807)=True:=eq_true (by rw[zs];omega)
            have dc1:decide (o3.size+1+xV.size≤9223372036854775807)=true:=decide_eq_true (by omega)
            have dc2:(9223372036854775807<o3.size+1+xV.size)=False:=eq_false (by omega)
            have dc3:(o3.size+1+xV.size≤9223372036854775807)=True:=eq_true (by omega)
            have c0:w4.cell? ⟨w.heap.size,4,none⟩=some (.int .i64 vk):=(blk_cell BK4.out 4).trans rfl;have c1:w4.cell? ⟨w.heap.size,5,none⟩=some (.int .i64 vn):=(blk_cell BK4.out 5).trans rfl;clear h4 hV k3 zs;go_wp2_with (go_at_call 62;refine(dc _).mono ?_;rintro e w5 ⟨rfl,hb⟩;have BK5:=aS (blk_below BK4.out hb);have HB5:=aS (below_step HB4.out hb);clear hb BK4 HB4)
            go_ret
            exact⟨by rw[K3.out];rfl,HB5.out⟩
        |true=>
          have k2:o3=(o2++⟨#[32]⟩)++xT:=by simpa using h3
          have K2:=aS k2;have dc:=fun W:World=>spec_l6Dec.calls 8 t xT W (hT rfl)
          have zs:(o2++(⟨#[32]⟩:ByteArray)).size=o2.size+1:=by rw[ByteArray.size_append];rfl
          have zo:o3.size≤302:=by rw[k2,ByteArray.size_append,zs];omega
          have da1:decide (o2.size+1≤9223372036854775807)=true:=decide_eq_true (by omega)
          have da2:(9223372036854775807<o2.size+1)=False:=eq_false (by omega)
          have da3:(o2.size+1≤9223372036854775807)=True:=eq_true (by omega)
          have db1:decide ((o2++(⟨#[32]⟩:ByteArray)).size+xT.size≤9223372036854775807)=true:=decide_eq_true (by rw[zs];omega)
          have db2:(9223372036854775807<(o2++(⟨#[32]⟩:ByteArray)).size+xT.size)=False:=eq_false (by rw[zs];omega)
          have db3:((o2++(⟨#[32]⟩:ByteArray)).size+xT.size≤9223372036854775807)=True:=eq_true (by rw[zs];omega)
          have dc1:decide (o2.size+1+xT.size≤9223372036854775807)=true:=decide_eq_true (by omega)
          have dc2:(9223372036854775807<o2.size+1+xT.size)=False:=eq_false (by omega)
          have dc3:(o2.size+1+xT.size≤9223372036854775807)=True:=eq_true (by omega)
          have c0:w4.cell? ⟨w.heap.size,3,none⟩=some (.int .i64 t):=(blk_cell BK4.out 3).trans rfl;clear h3 hT k2 zs;go_upto_region 11 with (go_at_call 61;refine(dc _).mono ?_;rintro e w5 ⟨rfl,hb⟩;have BK5:=aS (blk_below BK4.out hb);have HB5:=aS (below_step HB4.out hb);have g3_:=(hb.cell (World.block_lt_of_cell? _ _ g3)).trans g3;clear g3;have g3:=g3_;clear g3_;clear hb BK4 HB4)
          rw[←K2.out];clear dc da1 da2 da3 db1 db2 db3 dc1 dc2 dc3 c0;cases bV with
          |false=>
            have k3:o4=o3:=by simpa using h4
            clear h4 hV;subst k3;go_wp2
            go_ret
            exact⟨rfl,HB5.out⟩
          |true=>
            have k3:o4=(o3++⟨#[32]⟩)++xV:=by simpa using h4
            have K3:=aS k3;have dc:=fun W:World=>spec_ValText.calls 8 vk vn xV W (hV rfl)
            have zs:(o3++(⟨#[32]⟩:ByteArray)).size=o3.size+1:=by rw[ByteArray.size_append];rfl
            have zo:o4.size≤403:=by rw[k3,ByteArray.size_append,zs];omega
            have da1:decide (o3.size+1≤9223372036854775807)=true:=decide_eq_true (by omega)
            have da2:(9223372036854775807<o3.size+1)=False:=eq_false (by omega)
            have da3:(o3.size+1≤9223372036854775807)=True:=eq_true (by omega)
            have db1:decide ((o3++(⟨#[32]⟩:ByteArray)).size+xV.size≤9223372036854775807)=true:=decide_eq_true (by rw[zs];omega)
            have db2:(9223372036854775807<(o3++(⟨#[32]⟩:ByteArray)).size+xV.size)=False:=eq_false (by rw[zs];omega)
            have db3:((o3++(⟨#[32]⟩:ByteArray)).size+xV.size≤9223372036854775807)=True:=eq_true (by rw[zs];omega)
            have dc1:decide (o3.size+1+xV.size≤9223372036854775807)=true:=decide_eq_true (by omega)
            have dc2:(9223372036854775807<o3.size+1+xV.size)=False:=eq_false (by omega)
            have dc3:(o3.size+1+xV.size≤9223372036854775807)=True:=eq_true (by omega)
            have c0:w5.cell? ⟨w.heap.size,4,none⟩=some (.int .i64 vk):=(blk_cell BK5.out 4).trans rfl;have c1:w5.cell? ⟨w.heap.size,5,none⟩=some (.int .i64 vn):=(blk_cell BK5.out 5).trans rfl;clear h4 hV k3 zs;go_wp2_with (go_at_call 62;refine(dc _).mono ?_;rintro e w6 ⟨rfl,hb⟩;have BK6:=aS (blk_below BK5.out hb);have HB6:=aS (below_step HB5.out hb);clear hb BK5 HB5)
            go_ret
            exact⟨by rw[K3.out];rfl,HB6.out⟩
      |true=>
        have k1:o2=(o1++⟨#[32]⟩)++xS:=by simpa using h2
        have K1:=aS k1;have dc:=fun W:World=>spec_l6Dec.calls 8 s xS W (hS rfl)
        have zs:(o1++(⟨#[32]⟩:ByteArray)).size=o1.size+1:=by rw[ByteArray.size_append];rfl
        have zo:o2.size≤302:=by rw[k1,ByteArray.size_append,zs];omega
        have da1:decide (o1.size+1≤9223372036854775807)=true:=decide_eq_true (by omega)
        have da2:(9223372036854775807<o1.size+1)=False:=eq_false (by omega)
        have da3:(o1.size+1≤9223372036854775807)=True:=eq_true (by omega)
        have db1:decide ((o1++(⟨#[32]⟩:ByteArray)).size+xS.size≤9223372036854775807)=true:=decide_eq_true (by rw[zs];omega)
        have db2:(9223372036854775807<(o1++(⟨#[32]⟩:ByteArray)).size+xS.size)=False:=eq_false (by rw[zs];omega)
        have db3:((o1++(⟨#[32]⟩:ByteArray)).size+xS.size≤9223372036854775807)=True:=eq_true (by rw[zs];omega)
        have dc1:decide (o1.size+1+xS.size≤9223372036854775807)=true:=decide_eq_true (by omega)
        have dc2:(9223372036854775807<o1.size+1+xS.size)=False:=eq_false (by omega)
        have dc3:(o1.size+1+xS.size≤9223372036854775807)=True:=eq_true (by omega)
        have c0:w4.cell? ⟨w.heap.size,2,none⟩=some (.int .i64 s):=(blk_cell BK4.out 2).trans rfl;clear h2 hS k1 zs;go_upto_region 9 with (go_at_call 61;refine(dc _).mono ?_;rintro e w5 ⟨rfl,hb⟩;have BK5:=aS (blk_below BK4.out hb);have HB5:=aS (below_step HB4.out hb);have g2_:=(hb.cell (World.block_lt_of_cell? _ _ g2)).trans g2;clear g2;have g2:=g2_;clear g2_;have g3_:=(hb.cell (World.block_lt_of_cell? _ _ g3)).trans g3;clear g3;have g3:=g3_;clear g3_;clear hb BK4 HB4)
        rw[←K1.out];clear dc da1 da2 da3 db1 db2 db3 dc1 dc2 dc3 c0;cases bT with
        |false=>
          have k2:o3=o2:=by simpa using h3
          clear h3 hT;subst k2;go_upto_region 11 with (fail)
          cases bV with
          |false=>
            have k3:o4=o3:=by simpa using h4
            clear h4 hV;subst k3;go_wp2
            go_ret
            exact⟨rfl,HB5.out⟩
          |true=>
            have k3:o4=(o3++⟨#[32]⟩)++xV:=by simpa using h4
            have K3:=aS k3;have dc:=fun W:World=>spec_ValText.calls 8 vk vn xV W (hV rfl)
            have zs:(o3++(⟨#[32]⟩:ByteArray)).size=o3.size+1:=by rw[ByteArray.size_append];rfl
            have zo:o4.size≤403:=by rw[k3,ByteArray.size_append,zs];omega
            have da1:decide (o3.size+1≤9223372036854775807)=true:=decide_eq_true (by omega)
            have da2:(9223372036854775807<o3.size+1)=False:=eq_false (by omega)
            have da3:(o3.size+1≤9223372036854775807)=True:=eq_true (by omega)
            have db1:decide ((o3++(⟨#[32]⟩:ByteArray)).size+xV.size≤9223372036854775807)=true:=decide_eq_true (by rw[zs];omega)
            have db2:(9223372036854775807<(o3++(⟨#[32]⟩:ByteArray)).size+xV.size)=False:=eq_false (by rw[zs];omega)
            have db3:((o3++(⟨#[32]⟩:ByteArray)).size+xV.size≤9223372036854775807)=True:=eq_true (by rw[zs];omega)
            have dc1:decide (o3.size+1+xV.size≤9223372036854775807)=true:=decide_eq_true (by omega)
            have dc2:(9223372036854775807<o3.size+1+xV.size)=False:=eq_false (by omega)
            have dc3:(o3.size+1+xV.size≤9223372036854775807)=True:=eq_true (by omega)
            have c0:w5.cell? ⟨w.heap.size,4,none⟩=some (.int .i64 vk):=(blk_cell BK5.out 4).trans rfl;have c1:w5.cell? ⟨w.heap.size,5,none⟩=some (.int .i64 vn):=(blk_cell BK5.out 5).trans rfl;clear h4 hV k3 zs;go_wp2_with (go_at_call 62;refine(dc _).mono ?_;rintro e w6 ⟨rfl,hb⟩;have BK6:=aS (blk_below BK5.out hb);have HB6:=aS (below_step HB5.out hb);clear hb BK5 HB5)
            go_ret
            exact⟨by rw[K3.out];rfl,HB6.out⟩
        |true=>
          have k2:o3=(o2++⟨#[32]⟩)++xT:=by simpa using h3
          have K2:=aS k2;have dc:=fun W:World=>spec_l6Dec.calls 8 t xT W (hT rfl)
          have zs:(o2++(⟨#[32]⟩:ByteArray)).size=o2.size+1:=by rw[ByteArray.size_append];rfl
          have zo:o3.size≤403:=by rw[k2,ByteArray.size_append,zs];omega
          have da1:decide (o2.size+1≤9223372036854775807)=true:=decide_eq_true (by omega)
          have da2:(9223372036854775807<o2.size+1)=False:=eq_false (by omega)
          have da3:(o2.size+1≤9223372036854775807)=True:=eq_true (by omega)
          have db1:decide ((o2++(⟨#[32]⟩:ByteArray)).size+xT.size≤9223372036854775807)=true:=decide_eq_true (by rw[zs];omega)
          have db2:(9223372036854775807<(o2++(⟨#[32]⟩:ByteArray)).size+xT.size)=False:=eq_false (by rw[zs];omega)
          have db3:((o2++(⟨#[32]⟩:ByteArray)).size+xT.size≤9223372036854775807)=True:=eq_true (by rw[zs];omega)
          have dc1:decide (o2.size+1+xT.size≤9223372036854775807)=true:=decide_eq_true (by omega)
          have dc2:(9223372036854775807<o2.size+1+xT.size)=False:=eq_false (by omega)
          have dc3:(o2.size+1+xT.size≤9223372036854775807)=True:=eq_true (by omega)
          have c0:w5.cell? ⟨w.heap.size,3,none⟩=some (.int .i64 t):=(blk_cell BK5.out 3).trans rfl;clear h3 hT k2 zs;go_upto_region 11 with (go_at_call 61;refine(dc _).mono ?_;rintro e w6 ⟨rfl,hb⟩;have BK6:=aS (blk_below BK5.out hb);have HB6:=aS (below_step HB5.out hb);have g3_:=(hb.cell (World.block_lt_of_cell? _ _ g3)).trans g3;clear g3;have g3:=g3_;clear g3_;clear hb BK5 HB5)
          rw[←K2.out];clear dc da1 da2 da3 db1 db2 db3 dc1 dc2 dc3 c0;cases bV with
          |false=>
            have k3:o4=o3:=by simpa using h4
            clear h4 hV;subst k3;go_wp2
            go_ret
            exact⟨rfl,HB6.out⟩
          |true=>
            have k3:o4=(o3++⟨#[32]⟩)++xV:=by simpa using h4
            have K3:=aS k3;have dc:=fun W:World=>spec_ValText.calls 8 vk vn xV W (hV rfl)
            have zs:(o3++(⟨#[32]⟩:ByteArray)).size=o3.size+1:=by rw[ByteArray.size_append];rfl
            have zo:o4.size≤504:=by rw[k3,ByteArray.size_append,zs];omega
            have da1:decide (o3.size+1≤9223372036854775807)=true:=decide_eq_true (by omega)
            have da2:(9223372036854775807<o3.size+1)=False:=eq_false (by omega)
            have da3:(o3.size+1≤9223372036854775807)=True:=eq_true (by omega)
            have db1:decide ((o3++(⟨#[32]⟩:ByteArray)).size+xV.size≤9223372036854775807)=true:=decide_eq_true (by rw[zs];omega)
            have db2:(9223372036854775807<(o3++(⟨#[32]⟩:ByteArray)).size+xV.size)=False:=eq_false (by rw[zs];omega)
            have db3:((o3++(⟨#[32]⟩:ByteArray)).size+xV.size≤9223372036854775807)=True:=eq_true (by rw[zs];omega)
            have dc1:decide (o3.size+1+xV.size≤9223372036854775807)=true:=decide_eq_true (by omega)
            have dc2:(9223372036854775807<o3.size+1+xV.size)=False:=eq_false (by omega)
            have dc3:(o3.size+1+xV.size≤9223372036854775807)=True:=eq_true (by omega)
            have c0:w6.cell? ⟨w.heap.size,4,none⟩=some (.int .i64 vk):=(blk_cell BK6.out 4).trans rfl;have c1:w6.cell? ⟨w.heap.size,5,none⟩=some (.int .i64 vn):=(blk_cell BK6.out 5).trans rfl;clear h4 hV k3 zs;go_wp2_with (go_at_call 62;refine(dc _).mono ?_;rintro e w7 ⟨rfl,hb⟩;have BK7:=aS (blk_below BK6.out hb);have HB7:=aS (below_step HB6.out hb);clear hb BK6 HB6)
            go_ret
            exact⟨by rw[K3.out];rfl,HB7.out⟩
theorem addN_mk {b:Bool} {out o1:ByteArray} {n:Int} (h:addN b out n=some o1): ∃x:ByteArray,x.size≤100∧(b=true→spec_l6Dec.f 8 n=some x)∧o1=if b=true then(out++⟨#[32]⟩)++x else out:=by
  rcases addN_some h with ⟨rfl,rfl⟩|⟨rfl,x,h1,h2,rfl⟩
  · exact⟨⟨#[]⟩,Nat.zero_le _,fun h=>(by cases h),by simp⟩
  · exact⟨x,h2,fun _=>h1,by simp⟩
theorem addV_mk {b:Bool} {out o1:ByteArray} {k n:Int} (h:addV b out k n=some o1): ∃x:ByteArray,x.size≤100∧(b=true→spec_ValText.f 8 k n=some x)∧o1=if b=true then(out++⟨#[32]⟩)++x else out:=by
  rcases addV_some h with ⟨rfl,rfl⟩|⟨rfl,x,h1,h2,rfl⟩
  · exact⟨⟨#[]⟩,Nat.zero_le _,fun h=>(by cases h),by simp⟩
  · exact⟨x,h2,fun _=>h1,by simp⟩
theorem name_size {k:Int} (h:1≤k∧k≤14):(nameB k).size≤100:=by
  have:k=1∨k=2∨k=3∨k=4∨k=5∨k=6∨k=7∨k=8∨k=9∨k=10∨k=11∨k=12∨k=13∨k=14:=by omega
  rcases this with rfl|rfl|rfl|rfl|rfl|rfl|rfl|rfl|rfl|rfl|rfl|rfl|rfl|rfl<;>decide
theorem spec_OpText.calls (k r s t vk vn:Int) (x:ByteArray) (w:World) (h:otextV.f k r s t vk vn=some x):
    Calls Tryz.prog 29 #[.agg #[.int .i64 k,.int .i64 r,.int .i64 s,.int .i64 t,.int .i64 vk,.int .i64 vn]] w fun e w'=>e= .returned (.string x)∧Below w.heap.size w w':=by
  unfold otextV.f at h;split at h
  · rename_i hop
    obtain⟨o1,h1,h⟩:=Option.bind_eq_some_iff.1 h;obtain⟨o2,h2,h⟩:=Option.bind_eq_some_iff.1 h;obtain⟨o3,h3,h⟩:=Option.bind_eq_some_iff.1 h;obtain⟨xR,zR,hR,e1⟩:=addN_mk h1;obtain⟨xS,zS,hS,e2⟩:=addN_mk h2;obtain⟨xT,zT,hT,e3⟩:=addN_mk h3;obtain⟨xV,zV,hV,e4⟩:=addV_mk h;have hk:=(opB_true.1 hop).1;exact text_walk k r s t vk vn w hop (nameB k) xR xS xT xV hk rfl ⟨name_size hk,zR,zS,zT,zV⟩ _ _ _ _ rfl rfl rfl rfl hR hS hT hV o1 o2 o3 x e1 e2 e3 e4
  · rename_i hop
    obtain rfl:=Option.some.inj h;exact text_no k r s t vk vn w (by simpa using hop)
end Go.Proofs.YtmklpbmlgjkbiaaGreatDoor.PS
end
