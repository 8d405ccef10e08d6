/- What the rows of CTB rest on, part 3. -/
import Derived.Outline
import Derived.Test.YtmklpbmlgjkbiaaDoorRows
import Derived.Stop.LaidErr
import Derived.Lib.LaidTab
import Derived.LaidMore
import Derived.MakeChecks
import Derived.ProofKit
import Derived.Lib.SmallJoins
import Derived.Deep.Slices
import Derived.Test.YtmklpbmlgjkbiaaDoorQCTB1
set_option linter.unusedVariables false
set_option linter.unusedSimpArgs false
set_option maxHeartbeats 8000000
set_option maxRecDepth 100000
section
namespace Go.Proofs.YtmklpbmlgjkbiaaDoor.PS
open Go.RowKit Go.Proofs.YtmklpbmlgjkbiaaDoorW.PrintWords Go.Proofs.YtmklpbmlgjkbiaaDoorW.PrintLast
attribute [local go_sem high] eqA25
theorem specOp_bad (k r s t vk vn:Int) (w:World) (g0 u0 u1 u2 u3 vb:Bool)
    (hForm: ∀W,Calls Tryd.prog 49 #[.int .i64 k] W fun e w'=> ∃g c,e= .returned (.slice (some ⟨g,0,none⟩) 4 c)∧Below W.heap.size W w'∧W.heap.size≤g∧w'.cell? ⟨g,0,none⟩=some (.bool u0)∧w'.cell? ⟨g,1,none⟩=some (.bool u1)∧w'.cell? ⟨g,2,none⟩=some (.bool u2)∧w'.cell? ⟨g,3,none⟩=some (.bool u3))
    (hVal: ∀W,Calls Tryd.prog 42 #[.agg #[.int .i64 vk,.int .i64 vn]] W fun e w'=>e= .returned (.bool vb)∧Below W.heap.size W w') (hvb:Aside0 (vb=false)) (hg:Aside0 (g0=false)):
    Calls Tryd.prog 48 #[.agg #[.int .i64 k,.int .i64 r,.int .i64 s,.int .i64 t,.int .i64 vk,.int .i64 vn]] w fun e w'=>e= .returned (.bool g0)∧Below w.heap.size w w':=by
  have BK:Aside0 ((w.alloc (.cells #[.int .i64 k,.int .i64 r,.int .i64 s,.int .i64 t,.int .i64 vk,.int .i64 vn] 35)).heap[w.heap.size]?=some (.cells #[.int .i64 k,.int .i64 r,.int .i64 s,.int .i64 t,.int .i64 vk,.int .i64 vn] 35 (0,0))):=⟨blk_new _ _⟩;have HB:=Aside0.mk (Below.refl w.heap.size w);have hu27:=Tryd.underlying25;have hu29:=Tryd.underlying35;obtain rfl:=hvb.out;clear hvb;obtain rfl:=hg.out;clear hg;go_enter Tryd.func48,Tryd.ntmps48
  go_wp2_with (first|(go_at_call 49;refine(hForm _).mono ?_;rintro e w' ⟨g,c,rfl,hb,hg,f0,f1,f2,f3⟩;have SZ:=Aside0.mk (hb.size);have BK:=Aside0.mk (blk_below (by(with_reducible repeat(first|refine blk_drewN ?_ _|refine blk_drew ?_|refine blk_alloc ?_ _));exact BK.out) hb);have HB:=Aside0.mk (below_step (by repeat(first|(with_reducible first|exact HB.out|apply below_alloc|apply pw_below_drewN|apply below_drew1)|exact HB.out)) hb);have q0:w'.cell? ⟨w.heap.size,0,none⟩=some (.int .i64 k):=(blk_cell BK.out 0).trans rfl;have q1:w'.cell? ⟨w.heap.size,1,none⟩=some (.int .i64 r):=(blk_cell BK.out 1).trans rfl;have q2:w'.cell? ⟨w.heap.size,2,none⟩=some (.int .i64 s):=(blk_cell BK.out 2).trans rfl;have q3:w'.cell? ⟨w.heap.size,3,none⟩=some (.int .i64 t):=(blk_cell BK.out 3).trans rfl;have q4:w'.cell? ⟨w.heap.size,4,none⟩=some (.int .i64 vk):=(blk_cell BK.out 4).trans rfl;have q5:w'.cell? ⟨w.heap.size,5,none⟩=some (.int .i64 vn):=(blk_cell BK.out 5).trans rfl;have GS:=Aside0.mk (cell_lt f0);have P0:=Aside0.mk f0;have P1:=Aside0.mk f1;have P2:=Aside0.mk f2;have P3:=Aside0.mk f3;clear hb hg)|(go_at_call 42;refine(hVal _).mono ?_;rintro e w'2 ⟨rfl,hb⟩;have P0:=Aside0.mk ((hb.cell (p:=⟨g,0,none⟩) GS.out).trans P0.out);have P1:=Aside0.mk ((hb.cell (p:=⟨g,1,none⟩) GS.out).trans P1.out);have P2:=Aside0.mk ((hb.cell (p:=⟨g,2,none⟩) GS.out).trans P2.out);have P3:=Aside0.mk ((hb.cell (p:=⟨g,3,none⟩) GS.out).trans P3.out);have BK:=Aside0.mk (blk_below (by(with_reducible repeat(first|refine blk_drewN ?_ _|refine blk_drew ?_|refine blk_alloc ?_ _));exact BK.out) hb);have HB:=Aside0.mk (below_step (by repeat(first|(with_reducible first|exact HB.out|apply below_alloc|apply pw_below_drewN|apply below_drew1)|exact HB.out)) hb);have q0:w'2.cell? ⟨w.heap.size,0,none⟩=some (.int .i64 k):=(blk_cell BK.out 0).trans rfl;have q1:w'2.cell? ⟨w.heap.size,1,none⟩=some (.int .i64 r):=(blk_cell BK.out 1).trans rfl;have q2:w'2.cell? ⟨w.heap.size,2,none⟩=some (.int .i64 s):=(blk_cell BK.out 2).trans rfl;have q3:w'2.cell? ⟨w.heap.size,3,none⟩=some (.int .i64 t):=(blk_cell BK.out 3).trans rfl;have q4:w'2.cell? ⟨w.heap.size,4,none⟩=some (.int .i64 vk):=(blk_cell BK.out 4).trans rfl;have q5:w'2.cell? ⟨w.heap.size,5,none⟩=some (.int .i64 vn):=(blk_cell BK.out 5).trans rfl;have f0:=P0.out;have f1:=P1.out;have f2:=P2.out;have f3:=P3.out;clear hb)|(go_at_call 56;refine(in2_any _ _ _ _).mono ?_;rintro e w' ⟨rfl,rfl⟩)|(go_at_call 71;refine(slot_any _ _).mono ?_;rintro e w' ⟨rfl,rfl⟩)|(go_at_call 72;refine(to_any _ _).mono ?_;rintro e w' ⟨rfl,rfl⟩))
  all_goals go_ret
  all_goals exact⟨rfl,HB.out⟩
theorem specOp_8k (r s t vk vn:Int) (w:World) (g0 u0 u1 u2 u3 vb:Bool)
    (hForm: ∀W,Calls Tryd.prog 49 #[.int .i64 8] W fun e w'=> ∃g c,e= .returned (.slice (some ⟨g,0,none⟩) 4 c)∧Below W.heap.size W w'∧W.heap.size≤g∧w'.cell? ⟨g,0,none⟩=some (.bool u0)∧w'.cell? ⟨g,1,none⟩=some (.bool u1)∧w'.cell? ⟨g,2,none⟩=some (.bool u2)∧w'.cell? ⟨g,3,none⟩=some (.bool u3))
    (hVal: ∀W,Calls Tryd.prog 42 #[.agg #[.int .i64 vk,.int .i64 vn]] W fun e w'=>e= .returned (.bool vb)∧Below W.heap.size W w') (hvk:(vk==1)=false) (hvk2:(vk !=1)=true) (hvb:Aside0 (vb=true)) (hg:Aside0 (g0=false)):
    Calls Tryd.prog 48 #[.agg #[.int .i64 8,.int .i64 r,.int .i64 s,.int .i64 t,.int .i64 vk,.int .i64 vn]] w fun e w'=>e= .returned (.bool g0)∧Below w.heap.size w w':=by
  have BK:Aside0 ((w.alloc (.cells #[.int .i64 8,.int .i64 r,.int .i64 s,.int .i64 t,.int .i64 vk,.int .i64 vn] 35)).heap[w.heap.size]?=some (.cells #[.int .i64 8,.int .i64 r,.int .i64 s,.int .i64 t,.int .i64 vk,.int .i64 vn] 35 (0,0))):=⟨blk_new _ _⟩;have HB:=Aside0.mk (Below.refl w.heap.size w);have hu27:=Tryd.underlying25;have hu29:=Tryd.underlying35;obtain rfl:=hvb.out;clear hvb;obtain rfl:=hg.out;clear hg;go_enter Tryd.func48,Tryd.ntmps48
  go_wp2_with (first|(go_at_call 49;refine(hForm _).mono ?_;rintro e w' ⟨g,c,rfl,hb,hg,f0,f1,f2,f3⟩;have SZ:=Aside0.mk (hb.size);have BK:=Aside0.mk (blk_below (by(with_reducible repeat(first|refine blk_drewN ?_ _|refine blk_drew ?_|refine blk_alloc ?_ _));exact BK.out) hb);have HB:=Aside0.mk (below_step (by repeat(first|(with_reducible first|exact HB.out|apply below_alloc|apply pw_below_drewN|apply below_drew1)|exact HB.out)) hb);have q0:w'.cell? ⟨w.heap.size,0,none⟩=some (.int .i64 8):=(blk_cell BK.out 0).trans rfl;have q1:w'.cell? ⟨w.heap.size,1,none⟩=some (.int .i64 r):=(blk_cell BK.out 1).trans rfl;have q2:w'.cell? ⟨w.heap.size,2,none⟩=some (.int .i64 s):=(blk_cell BK.out 2).trans rfl;have q3:w'.cell? ⟨w.heap.size,3,none⟩=some (.int .i64 t):=(blk_cell BK.out 3).trans rfl;have q4:w'.cell? ⟨w.heap.size,4,none⟩=some (.int .i64 vk):=(blk_cell BK.out 4).trans rfl;have q5:w'.cell? ⟨w.heap.size,5,none⟩=some (.int .i64 vn):=(blk_cell BK.out 5).trans rfl;have GS:=Aside0.mk (cell_lt f0);have P0:=Aside0.mk f0;have P1:=Aside0.mk f1;have P2:=Aside0.mk f2;have P3:=Aside0.mk f3;clear hb hg)|(go_at_call 42;refine(hVal _).mono ?_;rintro e w'2 ⟨rfl,hb⟩;have P0:=Aside0.mk ((hb.cell (p:=⟨g,0,none⟩) GS.out).trans P0.out);have P1:=Aside0.mk ((hb.cell (p:=⟨g,1,none⟩) GS.out).trans P1.out);have P2:=Aside0.mk ((hb.cell (p:=⟨g,2,none⟩) GS.out).trans P2.out);have P3:=Aside0.mk ((hb.cell (p:=⟨g,3,none⟩) GS.out).trans P3.out);have BK:=Aside0.mk (blk_below (by(with_reducible repeat(first|refine blk_drewN ?_ _|refine blk_drew ?_|refine blk_alloc ?_ _));exact BK.out) hb);have HB:=Aside0.mk (below_step (by repeat(first|(with_reducible first|exact HB.out|apply below_alloc|apply pw_below_drewN|apply below_drew1)|exact HB.out)) hb);have q0:w'2.cell? ⟨w.heap.size,0,none⟩=some (.int .i64 8):=(blk_cell BK.out 0).trans rfl;have q1:w'2.cell? ⟨w.heap.size,1,none⟩=some (.int .i64 r):=(blk_cell BK.out 1).trans rfl;have q2:w'2.cell? ⟨w.heap.size,2,none⟩=some (.int .i64 s):=(blk_cell BK.out 2).trans rfl;have q3:w'2.cell? ⟨w.heap.size,3,none⟩=some (.int .i64 t):=(blk_cell BK.out 3).trans rfl;have q4:w'2.cell? ⟨w.heap.size,4,none⟩=some (.int .i64 vk):=(blk_cell BK.out 4).trans rfl;have q5:w'2.cell? ⟨w.heap.size,5,none⟩=some (.int .i64 vn):=(blk_cell BK.out 5).trans rfl;have f0:=P0.out;have f1:=P1.out;have f2:=P2.out;have f3:=P3.out;clear hb)|(go_at_call 56;refine(in2_any _ _ _ _).mono ?_;rintro e w' ⟨rfl,rfl⟩)|(go_at_call 71;refine(slot_any _ _).mono ?_;rintro e w' ⟨rfl,rfl⟩)|(go_at_call 72;refine(to_any _ _).mono ?_;rintro e w' ⟨rfl,rfl⟩))
  all_goals go_ret
  all_goals exact⟨rfl,HB.out⟩
theorem specOp_8n (r s t vn:Int) (w:World) (g0 u0 u1 u2 u3 vb:Bool)
    (hForm: ∀W,Calls Tryd.prog 49 #[.int .i64 8] W fun e w'=> ∃g c,e= .returned (.slice (some ⟨g,0,none⟩) 4 c)∧Below W.heap.size W w'∧W.heap.size≤g∧w'.cell? ⟨g,0,none⟩=some (.bool u0)∧w'.cell? ⟨g,1,none⟩=some (.bool u1)∧w'.cell? ⟨g,2,none⟩=some (.bool u2)∧w'.cell? ⟨g,3,none⟩=some (.bool u3))
    (hVal: ∀W,Calls Tryd.prog 42 #[.agg #[.int .i64 1,.int .i64 vn]] W fun e w'=>e= .returned (.bool vb)∧Below W.heap.size W w') (hvn:vn<1) (hvn2:decide (vn<1)=true) (hvb:Aside0 (vb=true)) (hg:Aside0 (g0=false)):
    Calls Tryd.prog 48 #[.agg #[.int .i64 8,.int .i64 r,.int .i64 s,.int .i64 t,.int .i64 1,.int .i64 vn]] w fun e w'=>e= .returned (.bool g0)∧Below w.heap.size w w':=by
  have BK:Aside0 ((w.alloc (.cells #[.int .i64 8,.int .i64 r,.int .i64 s,.int .i64 t,.int .i64 1,.int .i64 vn] 35)).heap[w.heap.size]?=some (.cells #[.int .i64 8,.int .i64 r,.int .i64 s,.int .i64 t,.int .i64 1,.int .i64 vn] 35 (0,0))):=⟨blk_new _ _⟩;have HB:=Aside0.mk (Below.refl w.heap.size w);have hu27:=Tryd.underlying25;have hu29:=Tryd.underlying35;obtain rfl:=hvb.out;clear hvb;obtain rfl:=hg.out;clear hg;go_enter Tryd.func48,Tryd.ntmps48
  go_wp2_with (first|(go_at_call 49;refine(hForm _).mono ?_;rintro e w' ⟨g,c,rfl,hb,hg,f0,f1,f2,f3⟩;have SZ:=Aside0.mk (hb.size);have BK:=Aside0.mk (blk_below (by(with_reducible repeat(first|refine blk_drewN ?_ _|refine blk_drew ?_|refine blk_alloc ?_ _));exact BK.out) hb);have HB:=Aside0.mk (below_step (by repeat(first|(with_reducible first|exact HB.out|apply below_alloc|apply pw_below_drewN|apply below_drew1)|exact HB.out)) hb);have q0:w'.cell? ⟨w.heap.size,0,none⟩=some (.int .i64 8):=(blk_cell BK.out 0).trans rfl;have q1:w'.cell? ⟨w.heap.size,1,none⟩=some (.int .i64 r):=(blk_cell BK.out 1).trans rfl;have q2:w'.cell? ⟨w.heap.size,2,none⟩=some (.int .i64 s):=(blk_cell BK.out 2).trans rfl;have q3:w'.cell? ⟨w.heap.size,3,none⟩=some (.int .i64 t):=(blk_cell BK.out 3).trans rfl;have q4:w'.cell? ⟨w.heap.size,4,none⟩=some (.int .i64 1):=(blk_cell BK.out 4).trans rfl;have q5:w'.cell? ⟨w.heap.size,5,none⟩=some (.int .i64 vn):=(blk_cell BK.out 5).trans rfl;have GS:=Aside0.mk (cell_lt f0);have P0:=Aside0.mk f0;have P1:=Aside0.mk f1;have P2:=Aside0.mk f2;have P3:=Aside0.mk f3;clear hb hg)|(go_at_call 42;refine(hVal _).mono ?_;rintro e w'2 ⟨rfl,hb⟩;have P0:=Aside0.mk ((hb.cell (p:=⟨g,0,none⟩) GS.out).trans P0.out);have P1:=Aside0.mk ((hb.cell (p:=⟨g,1,none⟩) GS.out).trans P1.out);have P2:=Aside0.mk ((hb.cell (p:=⟨g,2,none⟩) GS.out).trans P2.out);have P3:=Aside0.mk ((hb.cell (p:=⟨g,3,none⟩) GS.out).trans P3.out);have BK:=Aside0.mk (blk_below (by(with_reducible repeat(first|refine blk_drewN ?_ _|refine blk_drew ?_|refine blk_alloc ?_ _));exact BK.out) hb);have HB:=Aside0.mk (below_step (by repeat(first|(with_reducible first|exact HB.out|apply below_alloc|apply pw_below_drewN|apply below_drew1)|exact HB.out)) hb);have q0:w'2.cell? ⟨w.heap.size,0,none⟩=some (.int .i64 8):=(blk_cell BK.out 0).trans rfl;have q1:w'2.cell? ⟨w.heap.size,1,none⟩=some (.int .i64 r):=(blk_cell BK.out 1).trans rfl;have q2:w'2.cell? ⟨w.heap.size,2,none⟩=some (.int .i64 s):=(blk_cell BK.out 2).trans rfl;have q3:w'2.cell? ⟨w.heap.size,3,none⟩=some (.int .i64 t):=(blk_cell BK.out 3).trans rfl;have q4:w'2.cell? ⟨w.heap.size,4,none⟩=some (.int .i64 1):=(blk_cell BK.out 4).trans rfl;have q5:w'2.cell? ⟨w.heap.size,5,none⟩=some (.int .i64 vn):=(blk_cell BK.out 5).trans rfl;have f0:=P0.out;have f1:=P1.out;have f2:=P2.out;have f3:=P3.out;clear hb)|(go_at_call 56;refine(in2_any _ _ _ _).mono ?_;rintro e w' ⟨rfl,rfl⟩)|(go_at_call 71;refine(slot_any _ _).mono ?_;rintro e w' ⟨rfl,rfl⟩)|(go_at_call 72;refine(to_any _ _).mono ?_;rintro e w' ⟨rfl,rfl⟩))
  all_goals go_ret
  all_goals exact⟨rfl,HB.out⟩
theorem specOp_13k (r s t vk vn:Int) (w:World) (g0 u0 u1 u2 u3 vb:Bool)
    (hForm: ∀W,Calls Tryd.prog 49 #[.int .i64 13] W fun e w'=> ∃g c,e= .returned (.slice (some ⟨g,0,none⟩) 4 c)∧Below W.heap.size W w'∧W.heap.size≤g∧w'.cell? ⟨g,0,none⟩=some (.bool u0)∧w'.cell? ⟨g,1,none⟩=some (.bool u1)∧w'.cell? ⟨g,2,none⟩=some (.bool u2)∧w'.cell? ⟨g,3,none⟩=some (.bool u3))
    (hVal: ∀W,Calls Tryd.prog 42 #[.agg #[.int .i64 vk,.int .i64 vn]] W fun e w'=>e= .returned (.bool vb)∧Below W.heap.size W w') (hvk:(vk==1)=false) (hvk2:(vk !=1)=true) (hvb:Aside0 (vb=true)) (hg:Aside0 (g0=false)):
    Calls Tryd.prog 48 #[.agg #[.int .i64 13,.int .i64 r,.int .i64 s,.int .i64 t,.int .i64 vk,.int .i64 vn]] w fun e w'=>e= .returned (.bool g0)∧Below w.heap.size w w':=by
  have BK:Aside0 ((w.alloc (.cells #[.int .i64 13,.int .i64 r,.int .i64 s,.int .i64 t,.int .i64 vk,.int .i64 vn] 35)).heap[w.heap.size]?=some (.cells #[.int .i64 13,.int .i64 r,.int .i64 s,.int .i64 t,.int .i64 vk,.int .i64 vn] 35 (0,0))):=⟨blk_new _ _⟩;have HB:=Aside0.mk (Below.refl w.heap.size w);have hu27:=Tryd.underlying25;have hu29:=Tryd.underlying35;obtain rfl:=hvb.out;clear hvb;obtain rfl:=hg.out;clear hg;go_enter Tryd.func48,Tryd.ntmps48
  go_wp2_with (first|(go_at_call 49;refine(hForm _).mono ?_;rintro e w' ⟨g,c,rfl,hb,hg,f0,f1,f2,f3⟩;have SZ:=Aside0.mk (hb.size);have BK:=Aside0.mk (blk_below (by(with_reducible repeat(first|refine blk_drewN ?_ _|refine blk_drew ?_|refine blk_alloc ?_ _));exact BK.out) hb);have HB:=Aside0.mk (below_step (by repeat(first|(with_reducible first|exact HB.out|apply below_alloc|apply pw_below_drewN|apply below_drew1)|exact HB.out)) hb);have q0:w'.cell? ⟨w.heap.size,0,none⟩=some (.int .i64 13):=(blk_cell BK.out 0).trans rfl;have q1:w'.cell? ⟨w.heap.size,1,none⟩=some (.int .i64 r):=(blk_cell BK.out 1).trans rfl;have q2:w'.cell? ⟨w.heap.size,2,none⟩=some (.int .i64 s):=(blk_cell BK.out 2).trans rfl;have q3:w'.cell? ⟨w.heap.size,3,none⟩=some (.int .i64 t):=(blk_cell BK.out 3).trans rfl;have q4:w'.cell? ⟨w.heap.size,4,none⟩=some (.int .i64 vk):=(blk_cell BK.out 4).trans rfl;have q5:w'.cell? ⟨w.heap.size,5,none⟩=some (.int .i64 vn):=(blk_cell BK.out 5).trans rfl;have GS:=Aside0.mk (cell_lt f0);have P0:=Aside0.mk f0;have P1:=Aside0.mk f1;have P2:=Aside0.mk f2;have P3:=Aside0.mk f3;clear hb hg)|(go_at_call 42;refine(hVal _).mono ?_;rintro e w'2 ⟨rfl,hb⟩;have P0:=Aside0.mk ((hb.cell (p:=⟨g,0,none⟩) GS.out).trans P0.out);have P1:=Aside0.mk ((hb.cell (p:=⟨g,1,none⟩) GS.out).trans P1.out);have P2:=Aside0.mk ((hb.cell (p:=⟨g,2,none⟩) GS.out).trans P2.out);have P3:=Aside0.mk ((hb.cell (p:=⟨g,3,none⟩) GS.out).trans P3.out);have BK:=Aside0.mk (blk_below (by(with_reducible repeat(first|refine blk_drewN ?_ _|refine blk_drew ?_|refine blk_alloc ?_ _));exact BK.out) hb);have HB:=Aside0.mk (below_step (by repeat(first|(with_reducible first|exact HB.out|apply below_alloc|apply pw_below_drewN|apply below_drew1)|exact HB.out)) hb);have q0:w'2.cell? ⟨w.heap.size,0,none⟩=some (.int .i64 13):=(blk_cell BK.out 0).trans rfl;have q1:w'2.cell? ⟨w.heap.size,1,none⟩=some (.int .i64 r):=(blk_cell BK.out 1).trans rfl;have q2:w'2.cell? ⟨w.heap.size,2,none⟩=some (.int .i64 s):=(blk_cell BK.out 2).trans rfl;have q3:w'2.cell? ⟨w.heap.size,3,none⟩=some (.int .i64 t):=(blk_cell BK.out 3).trans rfl;have q4:w'2.cell? ⟨w.heap.size,4,none⟩=some (.int .i64 vk):=(blk_cell BK.out 4).trans rfl;have q5:w'2.cell? ⟨w.heap.size,5,none⟩=some (.int .i64 vn):=(blk_cell BK.out 5).trans rfl;have f0:=P0.out;have f1:=P1.out;have f2:=P2.out;have f3:=P3.out;clear hb)|(go_at_call 56;refine(in2_any _ _ _ _).mono ?_;rintro e w' ⟨rfl,rfl⟩)|(go_at_call 71;refine(slot_any _ _).mono ?_;rintro e w' ⟨rfl,rfl⟩)|(go_at_call 72;refine(to_any _ _).mono ?_;rintro e w' ⟨rfl,rfl⟩))
  all_goals go_ret
  all_goals exact⟨rfl,HB.out⟩
theorem specOp_13n (r s t vn:Int) (w:World) (g0 u0 u1 u2 u3 vb:Bool)
    (hForm: ∀W,Calls Tryd.prog 49 #[.int .i64 13] W fun e w'=> ∃g c,e= .returned (.slice (some ⟨g,0,none⟩) 4 c)∧Below W.heap.size W w'∧W.heap.size≤g∧w'.cell? ⟨g,0,none⟩=some (.bool u0)∧w'.cell? ⟨g,1,none⟩=some (.bool u1)∧w'.cell? ⟨g,2,none⟩=some (.bool u2)∧w'.cell? ⟨g,3,none⟩=some (.bool u3))
    (hVal: ∀W,Calls Tryd.prog 42 #[.agg #[.int .i64 1,.int .i64 vn]] W fun e w'=>e= .returned (.bool vb)∧Below W.heap.size W w') (hvn:Aside0 (decide (0≤vn∧vn≤1)=false)) (hvb:Aside0 (vb=true)) (hg:Aside0 (g0=false)):
    Calls Tryd.prog 48 #[.agg #[.int .i64 13,.int .i64 r,.int .i64 s,.int .i64 t,.int .i64 1,.int .i64 vn]] w fun e w'=>e= .returned (.bool g0)∧Below w.heap.size w w':=by
  have BK:Aside0 ((w.alloc (.cells #[.int .i64 13,.int .i64 r,.int .i64 s,.int .i64 t,.int .i64 1,.int .i64 vn] 35)).heap[w.heap.size]?=some (.cells #[.int .i64 13,.int .i64 r,.int .i64 s,.int .i64 t,.int .i64 1,.int .i64 vn] 35 (0,0))):=⟨blk_new _ _⟩;have HB:=Aside0.mk (Below.refl w.heap.size w);have hu27:=Tryd.underlying25;have hu29:=Tryd.underlying35;obtain rfl:=hvb.out;clear hvb;obtain rfl:=hg.out;clear hg;go_enter Tryd.func48,Tryd.ntmps48
  go_wp2_with (first|(go_at_call 49;refine(hForm _).mono ?_;rintro e w' ⟨g,c,rfl,hb,hg,f0,f1,f2,f3⟩;have SZ:=Aside0.mk (hb.size);have BK:=Aside0.mk (blk_below (by(with_reducible repeat(first|refine blk_drewN ?_ _|refine blk_drew ?_|refine blk_alloc ?_ _));exact BK.out) hb);have HB:=Aside0.mk (below_step (by repeat(first|(with_reducible first|exact HB.out|apply below_alloc|apply pw_below_drewN|apply below_drew1)|exact HB.out)) hb);have q0:w'.cell? ⟨w.heap.size,0,none⟩=some (.int .i64 13):=(blk_cell BK.out 0).trans rfl;have q1:w'.cell? ⟨w.heap.size,1,none⟩=some (.int .i64 r):=(blk_cell BK.out 1).trans rfl;have q2:w'.cell? ⟨w.heap.size,2,none⟩=some (.int .i64 s):=(blk_cell BK.out 2).trans rfl;have q3:w'.cell? ⟨w.heap.size,3,none⟩=some (.int .i64 t):=(blk_cell BK.out 3).trans rfl;have q4:w'.cell? ⟨w.heap.size,4,none⟩=some (.int .i64 1):=(blk_cell BK.out 4).trans rfl;have q5:w'.cell? ⟨w.heap.size,5,none⟩=some (.int .i64 vn):=(blk_cell BK.out 5).trans rfl;have GS:=Aside0.mk (cell_lt f0);have P0:=Aside0.mk f0;have P1:=Aside0.mk f1;have P2:=Aside0.mk f2;have P3:=Aside0.mk f3;clear hb hg)|(go_at_call 42;refine(hVal _).mono ?_;rintro e w'2 ⟨rfl,hb⟩;have P0:=Aside0.mk ((hb.cell (p:=⟨g,0,none⟩) GS.out).trans P0.out);have P1:=Aside0.mk ((hb.cell (p:=⟨g,1,none⟩) GS.out).trans P1.out);have P2:=Aside0.mk ((hb.cell (p:=⟨g,2,none⟩) GS.out).trans P2.out);have P3:=Aside0.mk ((hb.cell (p:=⟨g,3,none⟩) GS.out).trans P3.out);have BK:=Aside0.mk (blk_below (by(with_reducible repeat(first|refine blk_drewN ?_ _|refine blk_drew ?_|refine blk_alloc ?_ _));exact BK.out) hb);have HB:=Aside0.mk (below_step (by repeat(first|(with_reducible first|exact HB.out|apply below_alloc|apply pw_below_drewN|apply below_drew1)|exact HB.out)) hb);have q0:w'2.cell? ⟨w.heap.size,0,none⟩=some (.int .i64 13):=(blk_cell BK.out 0).trans rfl;have q1:w'2.cell? ⟨w.heap.size,1,none⟩=some (.int .i64 r):=(blk_cell BK.out 1).trans rfl;have q2:w'2.cell? ⟨w.heap.size,2,none⟩=some (.int .i64 s):=(blk_cell BK.out 2).trans rfl;have q3:w'2.cell? ⟨w.heap.size,3,none⟩=some (.int .i64 t):=(blk_cell BK.out 3).trans rfl;have q4:w'2.cell? ⟨w.heap.size,4,none⟩=some (.int .i64 1):=(blk_cell BK.out 4).trans rfl;have q5:w'2.cell? ⟨w.heap.size,5,none⟩=some (.int .i64 vn):=(blk_cell BK.out 5).trans rfl;have f0:=P0.out;have f1:=P1.out;have f2:=P2.out;have f3:=P3.out;clear hb)|(go_at_call 56;refine(in2_any _ _ _ _).mono ?_;rintro e w' ⟨rfl,rfl⟩;rw[hvn.out])|(go_at_call 71;refine(slot_any _ _).mono ?_;rintro e w' ⟨rfl,rfl⟩)|(go_at_call 72;refine(to_any _ _).mono ?_;rintro e w' ⟨rfl,rfl⟩))
  all_goals go_ret
  all_goals exact⟨rfl,HB.out⟩
end Go.Proofs.YtmklpbmlgjkbiaaDoor.PS
end
section
namespace Go.Proofs.YtmklpbmlgjkbiaaDoor.PS
open Go.RowKit Go.Proofs.YtmklpbmlgjkbiaaDoorW.PrintWords Go.Proofs.YtmklpbmlgjkbiaaDoorW.PrintLast
theorem form_eq (k:Int):spec_l2Form.f 3 k=some (formL k):=by
  refine kinds (P:=fun k=>spec_l2Form.f 3 k=some (formL k)) (fun k hk=> ?_) (by decide) (by decide) (by decide) (by decide) (by decide) (by decide) (by decide) (by decide) (by decide) (by decide) (by decide) (by decide) (by decide) (by decide) k
  unfold formL;rw[if_neg hk];have h1:k≠1:=by omega
  have h2:k≠2:=by omega
  have h3:k≠3:=by omega
  have h4:k≠4:=by omega
  have h5:k≠5:=by omega
  have h6:k≠6:=by omega
  have h7:k≠7:=by omega
  have h8:k≠8:=by omega
  have h9:k≠9:=by omega
  have h10:k≠10:=by omega
  have h11:k≠11:=by omega
  have h12:k≠12:=by omega
  have h13:k≠13:=by omega
  have h14:k≠14:=by omega
  simp[spec_l2Form.f,spec_l2Form.j0,spec_l2Form.j1,h1,h2,h3,h4,h5,h6,h7,h8,h9,h10,h11,h12,h13,h14]
theorem form_calls {k:Int} (hk:1≤k∧k≤14) (W:World):Calls Tryd.prog 49 #[.int .i64 k] W fun e w'=> ∃g c,e= .returned (.slice (some ⟨g,0,none⟩) 4 c)∧Below W.heap.size W w'∧W.heap.size≤g∧w'.cell? ⟨g,0,none⟩=some (.bool (hasR k))∧w'.cell? ⟨g,1,none⟩=some (.bool (hasS k))∧w'.cell? ⟨g,2,none⟩=some (.bool (hasT k))∧w'.cell? ⟨g,3,none⟩=some (.bool (hasV k)):=by
  refine(spec_l2Form.calls 3 k (formL k) W (form_eq k)).mono ?_
  rintro e w' ⟨v,rfl,hR,hb⟩
  have:formL k=[hasR k,hasS k,hasT k,hasV k]:=if_pos hk;rw[this]at hR
  obtain⟨g,c,rfl,hg,q0,q1,q2,q3⟩:=own4 hR;exact⟨g,c,rfl,hb,hg,q0,q1,q2,q3⟩
theorem sok_eq (k n:Int):spec_ValOk.f k n=some (okB k n):=by
  unfold spec_ValOk.f spec_l6In.f okB okP;by_cases h0:k=0
  · subst h0;by_cases hn:n=0<;>simp[hn]
  rw[if_neg h0];by_cases h1:k=1
  · subst h1;by_cases a:n≥ -99<;>simp[a]<;>omega
  rw[if_neg h1];by_cases h2:k=2
  · subst h2;by_cases a:n≥0<;>simp[a]<;>omega
  rw[if_neg h2];by_cases h3:k=3
  · subst h3;by_cases a:n≥1<;>simp[a]<;>omega
  rw[if_neg h3];simp[h0,h1,h2,h3]
theorem opB_form (k r s t vk vn:Int) (hk:1≤k∧k≤14) (hv:valP k vk vn):opB k r s t vk vn=(((decide (0≤r∧r≤3)&&hasR k)||r==0)&&(((decide (0≤s∧s≤3)&&hasS k)||s==0)&&(((decide (0≤t∧t≤15)&&hasT k)||t==0)&&(hasV k||(vk==0&&(vn==0)))))):=by
  have e: ∀x y:Int,(x==y)=decide (x=y):=fun x y=>by by_cases h:x=y<;>simp[h]
  have sw: ∀ (a b c:Prop),((a∧b)∨c) ↔ (c∨(b∧a)):=fun a b c=>⟨fun h=>h.elim (fun g=>.inr ⟨g.2,g.1⟩) .inl,fun h=>h.elim .inr (fun g=>.inl ⟨g.2,g.1⟩)⟩
  rw[Bool.eq_iff_iff];simp only[opB,decide_eq_true_eq,Bool.and_eq_true,Bool.or_eq_true,e,sw]
  exact⟨fun h=>h.2.2,fun h=>⟨hk,hv,h⟩⟩
theorem opB_bad {k r s t vk vn:Int} (h: ¬(1≤k∧k≤14)∨ ¬valP k vk vn):opB k r s t vk vn=false:=opB_false.2 (fun g=>h.elim (fun a=>a g.1) (fun a=>a g.2.1))
theorem specOp_none (k r s t vk vn:Int) (w:World) (hk: ¬(1≤k∧k≤14)):
    Calls Tryd.prog 48 #[.agg #[.int .i64 k,.int .i64 r,.int .i64 s,.int .i64 t,.int .i64 vk,.int .i64 vn]] w fun e w'=>e= .returned (.bool false)∧Below w.heap.size w w':=by
  have hForm: ∀W:World,Calls Tryd.prog 49 #[.int .i64 k] W fun e w'=> ∃A c,e= .returned (.slice A 0 c)∧Below W.heap.size W w':=fun W=>by
    refine(spec_l2Form.calls 3 k (formL k) W (form_eq k)).mono ?_
    rintro e w' ⟨v,rfl,hR,hb⟩
    have:formL k=[]:=if_neg hk;rw[this]at hR
    obtain⟨A,c,rfl⟩:=Kd.R_slice hR;exact⟨A,c,rfl,hb⟩
  clear hk;have HB:=Aside0.mk (Below.refl w.heap.size w);go_enter Tryd.func48,Tryd.ntmps48
  go_wp2_with (go_at_call 49;refine(hForm _).mono ?_;rintro e w' ⟨A,c,rfl,hb⟩)
  go_ret
  exact⟨rfl,below_step (below_alloc (Below.refl _ _) _) hb⟩
theorem spec_OpOk.calls (k r s t vk vn:Int) (b:Bool) (w:World) (h:opV.f k r s t vk vn=some b):
    Calls Tryd.prog 48 #[.agg #[.int .i64 k,.int .i64 r,.int .i64 s,.int .i64 t,.int .i64 vk,.int .i64 vn]] w fun e w'=>e= .returned (.bool b)∧Below w.heap.size w w':=by
  obtain rfl:=Option.some.inj h;by_cases hk:1≤k∧k≤14
  rotate_left
  · rw[opB_bad (.inl hk)];exact specOp_none k r s t vk vn w hk
  have hForm:=fun W=>form_calls hk W
  have hVal:=fun W=>spec_ValOk.calls vk vn (okB vk vn) W (sok_eq vk vn)
  by_cases hv:okP vk vn
  rotate_left
  · rw[opB_bad (.inr (fun g=>hv g.1))]
    exact specOp_bad k r s t vk vn w false _ _ _ _ (okB vk vn) hForm hVal ⟨okB_false.2 hv⟩ ⟨rfl⟩
  have hvb:Aside0 (okB vk vn=true):=⟨okB_true.2 hv⟩;by_cases h8:k=8
  · by_cases h1:vk=1
    · by_cases hn:1≤vn
      · subst h8;subst h1;exact specOp_8 r s t vn w _ _ _ _ _ _ hForm hVal hn hvb ⟨opB_form 8 r s t 1 vn hk ⟨hv,fun _=>⟨rfl,hn⟩,fun e=>by omega⟩⟩
      · rw[opB_bad (.inr (fun g=>hn (g.2.1 h8).2))]
        subst h8;subst h1;exact specOp_8n r s t vn w false _ _ _ _ _ hForm hVal (by omega) (decide_eq_true (by omega)) hvb ⟨rfl⟩
    · rw[opB_bad (.inr (fun g=>h1 (g.2.1 h8).1))]
      subst h8;exact specOp_8k r s t vk vn w false _ _ _ _ _ hForm hVal (by simpa using h1) (by simpa using h1) hvb ⟨rfl⟩
  by_cases h13:k=13
  · by_cases h1:vk=1
    · by_cases hn:0≤vn∧vn≤1
      · subst h13;subst h1;exact specOp_13 r s t vn w _ _ _ _ _ _ hForm hVal hn.1 hn.2 hvb ⟨opB_form 13 r s t 1 vn hk ⟨hv,fun e=>by omega,fun _=>⟨rfl,hn⟩⟩⟩
      · rw[opB_bad (.inr (fun g=>hn (g.2.2 h13).2))]
        subst h13;subst h1;exact specOp_13n r s t vn w false _ _ _ _ _ hForm hVal ⟨decide_eq_false hn⟩ hvb ⟨rfl⟩
    · rw[opB_bad (.inr (fun g=>h1 (g.2.2 h13).1))]
      subst h13;exact specOp_13k r s t vk vn w false _ _ _ _ _ hForm hVal (by simpa using h1) (by simpa using h1) hvb ⟨rfl⟩
  exact specOp_main k r s t vk vn w _ _ _ _ _ _ hForm hVal (by simpa using h8) (by simpa using h13) hvb ⟨opB_form k r s t vk vn hk ⟨hv,fun e=>absurd e h8,fun e=>absurd e h13⟩⟩
end Go.Proofs.YtmklpbmlgjkbiaaDoor.PS
end
section
namespace Go.Proofs.YtmklpbmlgjkbiaaDoor.PS
open Go.RowKit Go.Proofs.YtmklpbmlgjkbiaaDoorW.PrintWords Go.Proofs.YtmklpbmlgjkbiaaDoorW.PrintLast Go.Proofs.YtmklpbmlgjkbiaaDoorW.PrintMore
attribute [local go_sem] max2_int min2_int max_two min_two max_three min_three max_four min_four   -- for this text's walks alone
def spec_l3Goes.f (a0:Int):Option (Bool):=if a0=5 then(some true)else(if a0=8 then(some true)else(if a0=9 then(some true)else(some (a0==10))))
theorem spec_l3Goes.calls (a0:Int) (r:Bool) (w:World) (h:spec_l3Goes.f a0=some r):
    Calls Tryd.prog 77 #[.int .i64 a0] w fun e w'=>e= .returned (.bool r)∧Drawn0 w w':=by
  have H:(if a0=5 then(some true)else(if a0=8 then(some true)else(if a0=9 then(some true)else(some (a0==10)))))=some r:=h
  clear h;by_cases c2:a0=5
  · rw[if_pos c2]at H
    have c2b0:(a0==5)=true:=beq_iff_eq.mpr c2;have c2b1:(a0 !=5)=false:=bne_eq_false_iff_eq.mpr c2;clear c2;obtain rfl:=Option.some.inj H;go_enter Tryd.func77,Tryd.ntmps77
    go_wp2
    go_ret
    exact⟨by first|rfl|(simp;done)|(simp[*];done),by repeat(first|exact Drawn0.refl _|apply Drawn0.step)⟩
  · rw[if_neg c2]at H
    have c2b0:(a0==5)=false:=beq_eq_false_iff_ne.mpr c2;have c2b1:(a0 !=5)=true:=bne_iff_ne.mpr c2;by_cases c3:a0=8
    · rw[if_pos c3]at H
      have c3b0:(a0==8)=true:=beq_iff_eq.mpr c3;have c3b1:(a0 !=8)=false:=bne_eq_false_iff_eq.mpr c3;clear c3;obtain rfl:=Option.some.inj H;go_enter Tryd.func77,Tryd.ntmps77
      go_wp2
      go_ret
      exact⟨by first|rfl|(simp;done)|(simp[*];done),by repeat(first|exact Drawn0.refl _|apply Drawn0.step)⟩
    · rw[if_neg c3]at H
      have c3b0:(a0==8)=false:=beq_eq_false_iff_ne.mpr c3;have c3b1:(a0 !=8)=true:=bne_iff_ne.mpr c3;by_cases c4:a0=9
      · rw[if_pos c4]at H
        have c4b0:(a0==9)=true:=beq_iff_eq.mpr c4;have c4b1:(a0 !=9)=false:=bne_eq_false_iff_eq.mpr c4;clear c4;obtain rfl:=Option.some.inj H;go_enter Tryd.func77,Tryd.ntmps77
        go_wp2
        go_ret
        exact⟨by first|rfl|(simp;done)|(simp[*];done),by repeat(first|exact Drawn0.refl _|apply Drawn0.step)⟩
      · rw[if_neg c4]at H
        have c4b0:(a0==9)=false:=beq_eq_false_iff_ne.mpr c4;have c4b1:(a0 !=9)=true:=bne_iff_ne.mpr c4;obtain rfl:=Option.some.inj H;go_enter Tryd.func77,Tryd.ntmps77
        go_wp2
        go_ret
        exact⟨by first|rfl|(simp;done)|(simp[*];done),by repeat(first|exact Drawn0.refl _|apply Drawn0.step)⟩
mutual
def spec_CodeOk.l0:Nat→List (S35)→Int→Option (Bool)
  |0,_,_=>none
  |k+1,x0,x3=>if x3<(x0.length:Int)then(if 0≤x3 then((opV.f ((rd_T35 x0 x3).f0) ((rd_T35 x0 x3).f1) ((rd_T35 x0 x3).f2) ((rd_T35 x0 x3).f3) ((rd_T35 x0 x3).f4.f0) ((rd_T35 x0 x3).f4.f1)).bind fun t287=>(if t287=true then((spec_l3Goes.f ((rd_T35 x0 x3).f0)).bind fun t289=>(if t289=true then(spec_CodeOk.j1 k x0 x3 (decide (((rd_T35 x0 x3).f3)≥(x0.length:Int))))else(spec_CodeOk.j1 k x0 x3 false)))else(spec_CodeOk.j1 k x0 x3 true)))else(none))else((spec_l6In.f (x0.length:Int) 1 16).bind fun t291=>(some t291))
def spec_CodeOk.j1:Nat→List (S35)→Int→Bool→Option (Bool)
  |0,_,_,_=>none
  |k+1,x0,x3,x33=>if x33=true then(some false)else(spec_CodeOk.l0 k x0 (wrap64 (x3+1)))
end
def spec_CodeOk.f (k:Nat) (l0:List (S35)):Option (Bool):=spec_CodeOk.l0 k l0 0
theorem spec_CodeOk.calls (k:Nat) (A0:Option Addr) (c0:Nat) (l0:List (S35)) (r:Bool) (w:World) (hr0:Kd.C k35 w A0 l0.length l0) (hc0:l0.length≤c0) (h:spec_CodeOk.f k l0=some r):
    Calls Tryd.prog 58 #[.slice A0 l0.length c0] w fun e w'=>e= .returned (.bool r)∧Below w.heap.size w w':=by
  have hu35:=Tryd.underlying35;have HR0:=Aside0.mk hr0;have HC0:=Aside0.mk hc0;clear hr0 hc0;have HB:=Aside0.mk (Below.refl w.heap.size w);have H:(spec_CodeOk.l0 k l0 0)=some r:=h;clear h;have H':=Aside0.mk H;clear H;go_enter Tryd.func58,Tryd.ntmps58
  go_wp2
  go_loopg [3] k (fun kq v3 w'=> ∃ (x3_1:Int),v3= .int .i64 x3_1∧Aside0 (spec_CodeOk.l0 kq l0 x3_1=some r)∧Aside0 (kq≤k)∧Aside0 (Below w.heap.size w w'))
  case atStart=>exact⟨(0),(by first|rfl|(simp;done)|(simp[*];done)),H',⟨Nat.le_refl _⟩,⟨by repeat(first|(with_reducible first|exact HB.out|apply below_alloc|apply pw_below_drewN|apply below_drew1)|exact HB.out)⟩⟩
  case round=>
    clear H';obtain⟨x3_1,rfl,HA,HK1,HB⟩:=hrel;cases gk with
    |zero=>exact absurd HA.out (by simp[spec_CodeOk.l0])
    |succ k1=>
      have H:=HA.out;clear HA;simp only[spec_CodeOk.l0]at H
      by_cases c2:x3_1<(l0.length:Int)
      · rw[if_pos c2]at H
        have c2b0:decide (x3_1<(l0.length:Int))=true:=decide_eq_true c2;clear c2;have HC3:=Aside0.mk H;clear H;go_upto_region 4 with (fail)
        go_cut [33] (fun v33 wc=> ∃ (kq:Nat) (x33_2:Bool),v33= .bool x33_2∧Aside0 (spec_CodeOk.j1 kq l0 x3_1 x33_2=some r)∧Aside0 (kq≤k1)∧Aside0 (Below w.heap.size w wc))
        case first=>
          have H:=HC3.out;clear HC3;by_cases c4:0≤x3_1
          · rw[if_pos c4]at H
            have c4b0:decide (0≤x3_1)=true:=decide_eq_true c4;clear c4;(first|rw[c4b0]|(simp only[i64_w,i32_w];rw[c4b0])|skip)
            replace H:=Option.bind_eq_some_iff.mp H;obtain⟨t287,A50,H⟩:=H;replace H:(if t287=true then((spec_l3Goes.f ((rd_T35 l0 x3_1).f0)).bind fun t289=>(if t289=true then(spec_CodeOk.j1 k1 l0 x3_1 (decide (((rd_T35 l0 x3_1).f3)≥(l0.length:Int))))else(spec_CodeOk.j1 k1 l0 x3_1 false)))else(spec_CodeOk.j1 k1 l0 x3_1 true))=some r:=H
            have A5:=Aside0.mk A50;clear A50;by_cases c6:t287=true
            · subst c6
              have H1:((spec_l3Goes.f ((rd_T35 l0 x3_1).f0)).bind fun t289=>(if t289=true then(spec_CodeOk.j1 k1 l0 x3_1 (decide (((rd_T35 l0 x3_1).f3)≥(l0.length:Int))))else(spec_CodeOk.j1 k1 l0 x3_1 false)))=some r:=by rw[if_pos rfl]at H;exact H
              clear H;have H:=H1;clear H1;replace H:=Option.bind_eq_some_iff.mp H;obtain⟨t289,A70,H⟩:=H;replace H:(if t289=true then(spec_CodeOk.j1 k1 l0 x3_1 (decide (((rd_T35 l0 x3_1).f3)≥(l0.length:Int))))else(spec_CodeOk.j1 k1 l0 x3_1 false))=some r:=H
              have A7:=Aside0.mk A70;clear A70;by_cases c8:t289=true
              · subst c8
                have H1:(spec_CodeOk.j1 k1 l0 x3_1 (decide (((rd_T35 l0 x3_1).f3)≥(l0.length:Int))))=some r:=by rw[if_pos rfl]at H;exact H
                clear H;have H:=H1;clear H1;have H':=Aside0.mk H;clear H;have p286:0≤(x3_1:Int):=of_decide_eq_true (by first|(with_reducible assumption)|assumption)
                have q286:x3_1<(l0.length:Int):=of_decide_eq_true (by first|(with_reducible assumption)|assumption)
                obtain⟨ad286,e286,hx286_0,hx286_1,hx286_2,hx286_3,hx286_4,hx286_5⟩:=at_T35 HR0.out x3_1 p286 q286;cases e286
                replace hx286_0:=(HB.out.cell (World.block_lt_of_cell? w _ hx286_0)).trans hx286_0;replace hx286_1:=(HB.out.cell (World.block_lt_of_cell? w _ hx286_1)).trans hx286_1;replace hx286_2:=(HB.out.cell (World.block_lt_of_cell? w _ hx286_2)).trans hx286_2;replace hx286_3:=(HB.out.cell (World.block_lt_of_cell? w _ hx286_3)).trans hx286_3;replace hx286_4:=(HB.out.cell (World.block_lt_of_cell? w _ hx286_4)).trans hx286_4;replace hx286_5:=(HB.out.cell (World.block_lt_of_cell? w _ hx286_5)).trans hx286_5;replace p286:=eq_true p286;replace q286:=eq_true q286;go_wp2_with (first|((with_reducible refine gate_callee (f:=48) rfl ?_);refine goesL_ (some 14) rfl rfl Tryd.func48 (by kernel_rfl) rfl #[.agg #[.int .i64 ((rd_T35 l0 x3_1).f0),.int .i64 ((rd_T35 l0 x3_1).f1),.int .i64 ((rd_T35 l0 x3_1).f2),.int .i64 ((rd_T35 l0 x3_1).f3),.int .i64 ((rd_T35 l0 x3_1).f4.f0),.int .i64 ((rd_T35 l0 x3_1).f4.f1)]] rfl (by(try simp only[List.map_toArray,List.map_cons,List.map_nil]);first|done|rfl|(simp only[List.length_drop,List.length_take];rfl)) ?_;(with_reducible refine(spec_OpOk.calls ((rd_T35 l0 x3_1).f0) ((rd_T35 l0 x3_1).f1) ((rd_T35 l0 x3_1).f2) ((rd_T35 l0 x3_1).f3) ((rd_T35 l0 x3_1).f4.f0) ((rd_T35 l0 x3_1).f4.f1) true _ A5.out).mono ?_);rintro e w9 ⟨rfl,hb⟩;refine⟨_,rfl,?_⟩;have n0_:=Aside0.mk (below_step (by repeat(first|(with_reducible first|exact HB.out|apply below_alloc|apply pw_below_drewN|apply below_drew1)|exact HB.out)) hb);clear HB;have HB:=n0_;clear n0_;(try clear hb);(try clear hb2);(try clear hk);(try clear hi);have p288:0≤(x3_1:Int):=of_decide_eq_true (by first|(with_reducible assumption)|assumption);have q288:x3_1<(l0.length:Int):=of_decide_eq_true (by first|(with_reducible assumption)|assumption);obtain⟨ad288,e288,hx288_0,hx288_1,hx288_2,hx288_3,hx288_4,hx288_5⟩:=at_T35 HR0.out x3_1 p288 q288;obtain rfl:ad286=ad288:=(by injection e288);replace hx288_0:=(HB.out.cell (World.block_lt_of_cell? w _ hx288_0)).trans hx288_0;replace hx288_1:=(HB.out.cell (World.block_lt_of_cell? w _ hx288_1)).trans hx288_1;replace hx288_2:=(HB.out.cell (World.block_lt_of_cell? w _ hx288_2)).trans hx288_2;replace hx288_3:=(HB.out.cell (World.block_lt_of_cell? w _ hx288_3)).trans hx288_3;replace hx288_4:=(HB.out.cell (World.block_lt_of_cell? w _ hx288_4)).trans hx288_4;replace hx288_5:=(HB.out.cell (World.block_lt_of_cell? w _ hx288_5)).trans hx288_5;replace p288:=eq_true p288;replace q288:=eq_true q288)|(go_at_call 77;(with_reducible refine(spec_l3Goes.calls ((rd_T35 l0 x3_1).f0) true _ A7.out).mono ?_);rintro e w' ⟨rfl,⟨nd,rfl⟩⟩;have p290:0≤(x3_1:Int):=of_decide_eq_true (by first|(with_reducible assumption)|assumption);have q290:x3_1<(l0.length:Int):=of_decide_eq_true (by first|(with_reducible assumption)|assumption);obtain⟨ad290,e290,hx290_0,hx290_1,hx290_2,hx290_3,hx290_4,hx290_5⟩:=at_T35 HR0.out x3_1 p290 q290;obtain rfl:ad286=ad290:=(by injection e290);replace hx290_0:=(HB.out.cell (World.block_lt_of_cell? w _ hx290_0)).trans hx290_0;replace hx290_1:=(HB.out.cell (World.block_lt_of_cell? w _ hx290_1)).trans hx290_1;replace hx290_2:=(HB.out.cell (World.block_lt_of_cell? w _ hx290_2)).trans hx290_2;replace hx290_3:=(HB.out.cell (World.block_lt_of_cell? w _ hx290_3)).trans hx290_3;replace hx290_4:=(HB.out.cell (World.block_lt_of_cell? w _ hx290_4)).trans hx290_4;replace hx290_5:=(HB.out.cell (World.block_lt_of_cell? w _ hx290_5)).trans hx290_5;replace p290:=eq_true p290;replace q290:=eq_true q290))
                go_meet
                case rel=>exact⟨_,(decide (((rd_T35 l0 x3_1).f3)≥(l0.length:Int))),(by first|rfl|(simp;done)|(simp[*];done)),H',⟨by have:=HK1.out;first|omega|exact Nat.le_refl _⟩,⟨by repeat(first|(with_reducible first|exact HB.out|apply below_alloc|apply pw_below_drewN|apply below_drew1)|exact HB.out)⟩⟩
              · replace c8:=Bool.eq_false_iff.mpr c8
                subst c8;have H1:(spec_CodeOk.j1 k1 l0 x3_1 false)=some r:=by rw[if_neg (show¬(false=true) by decide)]at H;exact H
                clear H;have H:=H1;clear H1;have H':=Aside0.mk H;clear H;have p286:0≤(x3_1:Int):=of_decide_eq_true (by first|(with_reducible assumption)|assumption)
                have q286:x3_1<(l0.length:Int):=of_decide_eq_true (by first|(with_reducible assumption)|assumption)
                obtain⟨ad286,e286,hx286_0,hx286_1,hx286_2,hx286_3,hx286_4,hx286_5⟩:=at_T35 HR0.out x3_1 p286 q286;cases e286
                replace hx286_0:=(HB.out.cell (World.block_lt_of_cell? w _ hx286_0)).trans hx286_0;replace hx286_1:=(HB.out.cell (World.block_lt_of_cell? w _ hx286_1)).trans hx286_1;replace hx286_2:=(HB.out.cell (World.block_lt_of_cell? w _ hx286_2)).trans hx286_2;replace hx286_3:=(HB.out.cell (World.block_lt_of_cell? w _ hx286_3)).trans hx286_3;replace hx286_4:=(HB.out.cell (World.block_lt_of_cell? w _ hx286_4)).trans hx286_4;replace hx286_5:=(HB.out.cell (World.block_lt_of_cell? w _ hx286_5)).trans hx286_5;replace p286:=eq_true p286;replace q286:=eq_true q286;go_wp2_with (first|((with_reducible refine gate_callee (f:=48) rfl ?_);refine goesL_ (some 14) rfl rfl Tryd.func48 (by kernel_rfl) rfl #[.agg #[.int .i64 ((rd_T35 l0 x3_1).f0),.int .i64 ((rd_T35 l0 x3_1).f1),.int .i64 ((rd_T35 l0 x3_1).f2),.int .i64 ((rd_T35 l0 x3_1).f3),.int .i64 ((rd_T35 l0 x3_1).f4.f0),.int .i64 ((rd_T35 l0 x3_1).f4.f1)]] rfl (by(try simp only[List.map_toArray,List.map_cons,List.map_nil]);first|done|rfl|(simp only[List.length_drop,List.length_take];rfl)) ?_;(with_reducible refine(spec_OpOk.calls ((rd_T35 l0 x3_1).f0) ((rd_T35 l0 x3_1).f1) ((rd_T35 l0 x3_1).f2) ((rd_T35 l0 x3_1).f3) ((rd_T35 l0 x3_1).f4.f0) ((rd_T35 l0 x3_1).f4.f1) true _ A5.out).mono ?_);rintro e w10 ⟨rfl,hb⟩;refine⟨_,rfl,?_⟩;have n0_:=Aside0.mk (below_step (by repeat(first|(with_reducible first|exact HB.out|apply below_alloc|apply pw_below_drewN|apply below_drew1)|exact HB.out)) hb);clear HB;have HB:=n0_;clear n0_;(try clear hb);(try clear hb2);(try clear hk);(try clear hi);have p288:0≤(x3_1:Int):=of_decide_eq_true (by first|(with_reducible assumption)|assumption);have q288:x3_1<(l0.length:Int):=of_decide_eq_true (by first|(with_reducible assumption)|assumption);obtain⟨ad288,e288,hx288_0,hx288_1,hx288_2,hx288_3,hx288_4,hx288_5⟩:=at_T35 HR0.out x3_1 p288 q288;obtain rfl:ad286=ad288:=(by injection e288);replace hx288_0:=(HB.out.cell (World.block_lt_of_cell? w _ hx288_0)).trans hx288_0;replace hx288_1:=(HB.out.cell (World.block_lt_of_cell? w _ hx288_1)).trans hx288_1;replace hx288_2:=(HB.out.cell (World.block_lt_of_cell? w _ hx288_2)).trans hx288_2;replace hx288_3:=(HB.out.cell (World.block_lt_of_cell? w _ hx288_3)).trans hx288_3;replace hx288_4:=(HB.out.cell (World.block_lt_of_cell? w _ hx288_4)).trans hx288_4;replace hx288_5:=(HB.out.cell (World.block_lt_of_cell? w _ hx288_5)).trans hx288_5;replace p288:=eq_true p288;replace q288:=eq_true q288)|(go_at_call 77;(with_reducible refine(spec_l3Goes.calls ((rd_T35 l0 x3_1).f0) false _ A7.out).mono ?_);rintro e w' ⟨rfl,⟨nd,rfl⟩⟩))
                go_meet
                case rel=>exact⟨_,(false),(by first|rfl|(simp;done)|(simp[*];done)),H',⟨by have:=HK1.out;first|omega|exact Nat.le_refl _⟩,⟨by repeat(first|(with_reducible first|exact HB.out|apply below_alloc|apply pw_below_drewN|apply below_drew1)|exact HB.out)⟩⟩
            · replace c6:=Bool.eq_false_iff.mpr c6
              subst c6;have H1:(spec_CodeOk.j1 k1 l0 x3_1 true)=some r:=by rw[if_neg (show¬(false=true) by decide)]at H;exact H
              clear H;have H:=H1;clear H1;have H':=Aside0.mk H;clear H;have p286:0≤(x3_1:Int):=of_decide_eq_true (by first|(with_reducible assumption)|assumption)
              have q286:x3_1<(l0.length:Int):=of_decide_eq_true (by first|(with_reducible assumption)|assumption)
              obtain⟨ad286,e286,hx286_0,hx286_1,hx286_2,hx286_3,hx286_4,hx286_5⟩:=at_T35 HR0.out x3_1 p286 q286;cases e286
              replace hx286_0:=(HB.out.cell (World.block_lt_of_cell? w _ hx286_0)).trans hx286_0;replace hx286_1:=(HB.out.cell (World.block_lt_of_cell? w _ hx286_1)).trans hx286_1;replace hx286_2:=(HB.out.cell (World.block_lt_of_cell? w _ hx286_2)).trans hx286_2;replace hx286_3:=(HB.out.cell (World.block_lt_of_cell? w _ hx286_3)).trans hx286_3;replace hx286_4:=(HB.out.cell (World.block_lt_of_cell? w _ hx286_4)).trans hx286_4;replace hx286_5:=(HB.out.cell (World.block_lt_of_cell? w _ hx286_5)).trans hx286_5;replace p286:=eq_true p286;replace q286:=eq_true q286;go_wp2_with (first|((with_reducible refine gate_callee (f:=48) rfl ?_);refine goesL_ (some 14) rfl rfl Tryd.func48 (by kernel_rfl) rfl #[.agg #[.int .i64 ((rd_T35 l0 x3_1).f0),.int .i64 ((rd_T35 l0 x3_1).f1),.int .i64 ((rd_T35 l0 x3_1).f2),.int .i64 ((rd_T35 l0 x3_1).f3),.int .i64 ((rd_T35 l0 x3_1).f4.f0),.int .i64 ((rd_T35 l0 x3_1).f4.f1)]] rfl (by(try simp only[List.map_toArray,List.map_cons,List.map_nil]);first|done|rfl|(simp only[List.length_drop,List.length_take];rfl)) ?_;(with_reducible refine(spec_OpOk.calls ((rd_T35 l0 x3_1).f0) ((rd_T35 l0 x3_1).f1) ((rd_T35 l0 x3_1).f2) ((rd_T35 l0 x3_1).f3) ((rd_T35 l0 x3_1).f4.f0) ((rd_T35 l0 x3_1).f4.f1) false _ A5.out).mono ?_);rintro e w11 ⟨rfl,hb⟩;refine⟨_,rfl,?_⟩;have n0_:=Aside0.mk (below_step (by repeat(first|(with_reducible first|exact HB.out|apply below_alloc|apply pw_below_drewN|apply below_drew1)|exact HB.out)) hb);clear HB;have HB:=n0_;clear n0_;(try clear hb);(try clear hb2);(try clear hk);(try clear hi)))
              go_meet
              case rel=>exact⟨_,(true),(by first|rfl|(simp;done)|(simp[*];done)),H',⟨by have:=HK1.out;first|omega|exact Nat.le_refl _⟩,⟨by repeat(first|(with_reducible first|exact HB.out|apply below_alloc|apply pw_below_drewN|apply below_drew1)|exact HB.out)⟩⟩
          · rw[if_neg c4]at H
            exact absurd H (by simp)
        case rest=>
          clear HC3;try clear c2
          try clear c2b0
          try clear p2
          try clear q2
          try clear hx2
          try clear c4
          try clear c4b0
          try clear c5
          try clear c6
          try clear c8
          try clear hx286_0
          try clear hx286_1
          try clear hx286_2
          try clear hx286_3
          try clear hx286_4
          try clear hx286_5
          try clear hx288_0
          try clear hx288_1
          try clear hx288_2
          try clear hx288_3
          try clear hx288_4
          try clear hx288_5
          try clear hx290_0
          try clear hx290_1
          try clear hx290_2
          try clear hx290_3
          try clear hx290_4
          try clear hx290_5
          try clear p286
          try clear p288
          try clear p290
          try clear q286
          try clear q288
          try clear q290
          obtain⟨kq,x33_2,rfl,HA,HJ2,HB⟩:=hcut;cases kq with
          |zero=>exact absurd HA.out (by simp[spec_CodeOk.j1])
          |succ kj2=>
            have H:=HA.out;clear HA;simp only[spec_CodeOk.j1]at H
            by_cases c12:x33_2=true
            · subst c12
              have H1:(some false)=some r:=by rw[if_pos rfl]at H;exact H
              clear H;have H:=H1;clear H1;obtain rfl:=Option.some.inj H;go_wp2
              go_ret
              exact⟨by first|rfl|(simp[errW_none,errW_some]<;>rfl)|(simp[*,errW_none,errW_some]<;>rfl),by repeat(first|(with_reducible first|exact HB.out|apply below_alloc|apply pw_below_drewN|apply below_drew1)|exact HB.out)⟩
            · replace c12:=Bool.eq_false_iff.mpr c12
              subst c12;have H1:(spec_CodeOk.l0 kj2 l0 (wrap64 (x3_1+1)))=some r:=by rw[if_neg (show¬(false=true) by decide)]at H;exact H
              clear H;have H:=H1;clear H1;have H':=Aside0.mk H;clear H;go_wp2
              go_roundg kj2
              case measure=>have:=HK1.out;have:=HJ2.out;omega
              case rel=>exact⟨(wrap64 (x3_1+1)),(by first|rfl|(simp;done)|(simp[*];done)),H',⟨by have:=HK1.out;have:=HJ2.out;omega⟩,⟨by repeat(first|(with_reducible first|exact HB.out|apply below_alloc|apply pw_below_drewN|apply below_drew1)|exact HB.out)⟩⟩
      · rw[if_neg c2]at H
        have c2b0:decide (x3_1<(l0.length:Int))=false:=decide_eq_false c2;clear c2;replace H:=Option.bind_eq_some_iff.mp H;obtain⟨t291,A130,H⟩:=H;replace H:(some t291)=some r:=H;have A13:=Aside0.mk A130;clear A130;obtain rfl:=Option.some.inj H;go_wp2_with (first|((with_reducible refine gate_callee (f:=56) rfl ?_);refine goesL_ (some 36) rfl rfl Tryd.func56 (by kernel_rfl) rfl #[.int .i64 (l0.length:Int),.int .i64 1,.int .i64 16] rfl (by(try simp only[List.map_toArray,List.map_cons,List.map_nil]);first|done|rfl|(simp only[List.length_drop,List.length_take];rfl)) ?_;(with_reducible refine(spec_l6In.calls (l0.length:Int) 1 16 t291 _ A13.out).mono ?_);rintro e w' ⟨rfl,⟨nd,rfl⟩⟩;refine⟨_,rfl,?_⟩))
        go_ret
        exact⟨by first|rfl|(simp[errW_none,errW_some]<;>rfl)|(simp[*,errW_none,errW_some]<;>rfl),by repeat(first|(with_reducible first|exact HB.out|apply below_alloc|apply pw_below_drewN|apply below_drew1)|exact HB.out)⟩
def spec_l2Names.f:Option (List ByteArray):=some (([(⟨#[]⟩:ByteArray),(⟨#[115,101,116]⟩:ByteArray),(⟨#[109,111,118,101]⟩:ByteArray),(⟨#[97,100,100]⟩:ByteArray),(⟨#[115,101,108,102]⟩:ByteArray),(⟨#[98,101,103,105,110]⟩:ByteArray),(⟨#[115,101,110,100]⟩:ByteArray),(⟨#[116,97,107,101]⟩:ByteArray),(⟨#[97,102,116,101,114]⟩:ByteArray),(⟨#[103,111]⟩:ByteArray),(⟨#[105,102]⟩:ByteArray),(⟨#[108,105,110,107]⟩:ByteArray),(⟨#[119,97,116,99,104]⟩:ByteArray),(⟨#[116,114,97,112]⟩:ByteArray),(⟨#[101,110,100]⟩:ByteArray)]:List ByteArray))
theorem spec_l2Names.calls (r:List ByteArray) (w:World) (h:spec_l2Names.f=some r):
    Calls Tryd.prog 50 #[] w fun e w'=> ∃v0_:Value,e= .returned (v0_)∧Kd.R Kd.string 9 w' w.heap.size (fun _=>True) v0_ r∧Below w.heap.size w w':=by
  have HB:=Aside0.mk (Below.refl w.heap.size w);have H:(some (([(⟨#[]⟩:ByteArray),(⟨#[115,101,116]⟩:ByteArray),(⟨#[109,111,118,101]⟩:ByteArray),(⟨#[97,100,100]⟩:ByteArray),(⟨#[115,101,108,102]⟩:ByteArray),(⟨#[98,101,103,105,110]⟩:ByteArray),(⟨#[115,101,110,100]⟩:ByteArray),(⟨#[116,97,107,101]⟩:ByteArray),(⟨#[97,102,116,101,114]⟩:ByteArray),(⟨#[103,111]⟩:ByteArray),(⟨#[105,102]⟩:ByteArray),(⟨#[108,105,110,107]⟩:ByteArray),(⟨#[119,97,116,99,104]⟩:ByteArray),(⟨#[116,114,97,112]⟩:ByteArray),(⟨#[101,110,100]⟩:ByteArray)]:List ByteArray)))=some r:=h;clear h;obtain⟨y292,hy292⟩: ∃y_:List ByteArray,y_=(([(⟨#[]⟩:ByteArray),(⟨#[115,101,116]⟩:ByteArray),(⟨#[109,111,118,101]⟩:ByteArray),(⟨#[97,100,100]⟩:ByteArray),(⟨#[115,101,108,102]⟩:ByteArray),(⟨#[98,101,103,105,110]⟩:ByteArray),(⟨#[115,101,110,100]⟩:ByteArray),(⟨#[116,97,107,101]⟩:ByteArray),(⟨#[97,102,116,101,114]⟩:ByteArray),(⟨#[103,111]⟩:ByteArray),(⟨#[105,102]⟩:ByteArray),(⟨#[108,105,110,107]⟩:ByteArray),(⟨#[119,97,116,99,104]⟩:ByteArray),(⟨#[116,114,97,112]⟩:ByteArray),(⟨#[101,110,100]⟩:ByteArray)]:List ByteArray)):=⟨_,rfl⟩;replace H:(some y292)=some r:=by first|(rw[hy292];with_reducible exact H)|(have H2_:=(Option.bind_some _ _).symm.trans H;rw[hy292];with_reducible exact H2_)|(have H2_:=(Option.bind_some _ _).symm.trans H;with_reducible exact H2_)|with_reducible exact H|(rw[hy292];exact H)|exact H
  have Ny292:=Aside0.mk hy292;clear hy292;obtain rfl:=Option.some.inj H;go_enter Tryd.func50,Tryd.ntmps50
  go_wp2_with (first|((with_reducible refine gate_dst (N:=1) rfl ?_);refine Kd.R_lit Kd.string _ 9 ?hg (N:=1) ?hd (xs:=([(⟨#[]⟩:ByteArray),(⟨#[115,101,116]⟩:ByteArray),(⟨#[109,111,118,101]⟩:ByteArray),(⟨#[97,100,100]⟩:ByteArray),(⟨#[115,101,108,102]⟩:ByteArray),(⟨#[98,101,103,105,110]⟩:ByteArray),(⟨#[115,101,110,100]⟩:ByteArray),(⟨#[116,97,107,101]⟩:ByteArray),(⟨#[97,102,116,101,114]⟩:ByteArray),(⟨#[103,111]⟩:ByteArray),(⟨#[105,102]⟩:ByteArray),(⟨#[108,105,110,107]⟩:ByteArray),(⟨#[119,97,116,99,104]⟩:ByteArray),(⟨#[116,114,97,112]⟩:ByteArray),(⟨#[101,110,100]⟩:ByteArray)]:List ByteArray)) (inner:=[.string (⟨#[]⟩:ByteArray),.string (⟨#[115,101,116]⟩:ByteArray),.string (⟨#[109,111,118,101]⟩:ByteArray),.string (⟨#[97,100,100]⟩:ByteArray),.string (⟨#[115,101,108,102]⟩:ByteArray),.string (⟨#[98,101,103,105,110]⟩:ByteArray),.string (⟨#[115,101,110,100]⟩:ByteArray),.string (⟨#[116,97,107,101]⟩:ByteArray),.string (⟨#[97,102,116,101,114]⟩:ByteArray),.string (⟨#[103,111]⟩:ByteArray),.string (⟨#[105,102]⟩:ByteArray),.string (⟨#[108,105,110,107]⟩:ByteArray),.string (⟨#[119,97,116,99,104]⟩:ByteArray),.string (⟨#[116,114,97,112]⟩:ByteArray),.string (⟨#[101,110,100]⟩:ByteArray)]) (ok:=fun _=>True) (okp:=fun _=>True) ?hr ?hp (fun _ hk=>hk) trivial (Below.refl _ _) (Nat.le_refl _) (by simp) ?_;(case hd=>rfl);(case hg=>rfl);(case hr=>first|(go_simp;done)|(go_simp;rfl));(case hp=>exact(Reps.one (show Kd.M Kd.string _ _ _ (⟨#[]⟩:ByteArray) [.string (⟨#[]⟩:ByteArray)]from rfl) (Reps.one (show Kd.M Kd.string _ _ _ (⟨#[115,101,116]⟩:ByteArray) [.string (⟨#[115,101,116]⟩:ByteArray)]from rfl) (Reps.one (show Kd.M Kd.string _ _ _ (⟨#[109,111,118,101]⟩:ByteArray) [.string (⟨#[109,111,118,101]⟩:ByteArray)]from rfl) (Reps.one (show Kd.M Kd.string _ _ _ (⟨#[97,100,100]⟩:ByteArray) [.string (⟨#[97,100,100]⟩:ByteArray)]from rfl) (Reps.one (show Kd.M Kd.string _ _ _ (⟨#[115,101,108,102]⟩:ByteArray) [.string (⟨#[115,101,108,102]⟩:ByteArray)]from rfl) (Reps.one (show Kd.M Kd.string _ _ _ (⟨#[98,101,103,105,110]⟩:ByteArray) [.string (⟨#[98,101,103,105,110]⟩:ByteArray)]from rfl) (Reps.one (show Kd.M Kd.string _ _ _ (⟨#[115,101,110,100]⟩:ByteArray) [.string (⟨#[115,101,110,100]⟩:ByteArray)]from rfl) (Reps.one (show Kd.M Kd.string _ _ _ (⟨#[116,97,107,101]⟩:ByteArray) [.string (⟨#[116,97,107,101]⟩:ByteArray)]from rfl) (Reps.one (show Kd.M Kd.string _ _ _ (⟨#[97,102,116,101,114]⟩:ByteArray) [.string (⟨#[97,102,116,101,114]⟩:ByteArray)]from rfl) (Reps.one (show Kd.M Kd.string _ _ _ (⟨#[103,111]⟩:ByteArray) [.string (⟨#[103,111]⟩:ByteArray)]from rfl) (Reps.one (show Kd.M Kd.string _ _ _ (⟨#[105,102]⟩:ByteArray) [.string (⟨#[105,102]⟩:ByteArray)]from rfl) (Reps.one (show Kd.M Kd.string _ _ _ (⟨#[108,105,110,107]⟩:ByteArray) [.string (⟨#[108,105,110,107]⟩:ByteArray)]from rfl) (Reps.one (show Kd.M Kd.string _ _ _ (⟨#[119,97,116,99,104]⟩:ByteArray) [.string (⟨#[119,97,116,99,104]⟩:ByteArray)]from rfl) (Reps.one (show Kd.M Kd.string _ _ _ (⟨#[116,114,97,112]⟩:ByteArray) [.string (⟨#[116,114,97,112]⟩:ByteArray)]from rfl) (Reps.one (show Kd.M Kd.string _ _ _ (⟨#[101,110,100]⟩:ByteArray) [.string (⟨#[101,110,100]⟩:ByteArray)]from rfl) (Reps.none _ _)))))))))))))))));intro v293 w1 ho2 hb hg_ hnew_;clear hg_ hnew_;(first|rw[←Ny292.out]at ho2|(simp only[Int.reduceToNat]at ho2;rw[←Ny292.out]at ho2));have n0_:=Aside0.mk (Kd.R_lower ho2 (below_size (by repeat(first|(with_reducible first|exact HB.out|apply below_alloc|apply pw_below_drewN|apply below_drew1)|exact HB.out))));have n1_:=Aside0.mk (below_step (by repeat(first|(with_reducible first|exact HB.out|apply below_alloc|apply pw_below_drewN|apply below_drew1)|exact HB.out)) hb);clear HB;have HO294:=n0_;have HB:=n1_;clear n0_ n1_;clear hb ho2))
  go_ret
  exact⟨_,by first|rfl|(simp[errW_none,errW_some]<;>rfl)|(simp[*,errW_none,errW_some]<;>rfl),by(with_reducible repeat(first|apply Kd.R_alloc|apply Kd.R_drewN|apply Kd.R_drew));exact HO294.out,by repeat(first|(with_reducible first|exact HB.out|apply below_alloc|apply pw_below_drewN|apply below_drew1)|exact HB.out)⟩
end Go.Proofs.YtmklpbmlgjkbiaaDoor.PS
end
section
namespace Go.Proofs.YtmklpbmlgjkbiaaDoor.PS
open Go.RowKit Go.Proofs.YtmklpbmlgjkbiaaDoorW.PrintWords Go.Proofs.YtmklpbmlgjkbiaaDoorW.PrintLast Go.Proofs.YtmklpbmlgjkbiaaDoorW.PrintMore
attribute [local go_sem] max2_int min2_int max_two min_two max_three min_three max_four min_four   -- for this text's walks alone
def spec_l6Dec.f:Nat→Int→Option (ByteArray)
  |0,_=>none
  |k+1,a0=>if a0<(-9223372036854775807)then(some (⟨#[45,57,50,50,51,51,55,50,48,51,54,56,53,52,55,55,53,56,48,56]⟩:ByteArray))else(if a0<0 then((spec_l6Dec.f k (wrap64 (-a0))).bind fun t296=>(if 1+t296.size≤9223372036854775807 then(some ((⟨#[45]⟩:ByteArray)++t296))else(none)))else(if a0<10 then(some (strOfNums (([(wrap64 (48+a0))%256]:List Int))))else((spec_l6Dec.f k (wrap64 (Int.tdiv a0 10))).bind fun t300=>((some (([(wrap64 (48+(Int.tmod a0 10)))%256]:List Int):List Int)).bind fun y301=>(if t300.size+(strOfNums y301).size≤9223372036854775807 then(some (t300++(strOfNums y301)))else(none))))))
def spec_l6Dec.T7:Bool×List (List Nat×List Nat):=(true,[([],[]),([0],[0]),([1],[1]),([],[]),([3],[3]),([4],[4]),([5],[5]),([6],[6]),([7],[7]),([2,8],[2,8]),([9,2,0,1,2,3,4,5,6,7,8,9],[9])])
def spec_l6Dec.B7:List Nat:=[0,1,3,0,8,24,56,120,248,511,1023]
theorem spec_l6Dec.tab7:rtab .any (opsOf Tryd.f43 7)=spec_l6Dec.T7:=by kernel_rfl
theorem spec_l6Dec.bits7:waitsOk spec_l6Dec.T7.2 spec_l6Dec.B7=true:=by kernel_rfl
theorem spec_l6Dec.calls (k:Nat): ∀ (a0:Int) (r:ByteArray) (w:World) (h:spec_l6Dec.f k a0=some r),
    Calls Tryd.prog 43 #[.int .i64 a0] w fun e w'=>e= .returned (.string r)∧Below w.heap.size w w':=by
  induction k using Nat.strongRecOn with
  |_ k ih=>
  intro a0 r w h;cases k with
  |zero=>exact absurd h (by simp[spec_l6Dec.f])
  |succ k=>
  simp only[spec_l6Dec.f]at h
  have HB:=Aside0.mk (Below.refl w.heap.size w);have H:(if a0<(-9223372036854775807)then(some (⟨#[45,57,50,50,51,51,55,50,48,51,54,56,53,52,55,55,53,56,48,56]⟩:ByteArray))else(if a0<0 then((spec_l6Dec.f k (wrap64 (-a0))).bind fun t296=>(if 1+t296.size≤9223372036854775807 then(some ((⟨#[45]⟩:ByteArray)++t296))else(none)))else(if a0<10 then(some (strOfNums (([(wrap64 (48+a0))%256]:List Int))))else((spec_l6Dec.f k (wrap64 (Int.tdiv a0 10))).bind fun t300=>((some (([(wrap64 (48+(Int.tmod a0 10)))%256]:List Int):List Int)).bind fun y301=>(if t300.size+(strOfNums y301).size≤9223372036854775807 then(some (t300++(strOfNums y301)))else(none)))))))=some r:=h
  clear h;by_cases c2:a0<(-9223372036854775807)
  · rw[if_pos c2]at H
    have c2b0:decide (a0<(-9223372036854775807))=true:=decide_eq_true c2;clear c2;obtain rfl:=Option.some.inj H;go_enter Tryd.func43,Tryd.ntmps43
    go_wp2
    go_ret
    exact⟨by first|rfl|(simp[errW_none,errW_some]<;>rfl)|(simp[*,errW_none,errW_some]<;>rfl),by repeat(first|(with_reducible first|exact HB.out|apply below_alloc|apply pw_below_drewN|apply below_drew1)|exact HB.out)⟩
  · rw[if_neg c2]at H
    have c2b0:decide (a0<(-9223372036854775807))=false:=decide_eq_false c2;clear c2;by_cases c3:a0<0
    · rw[if_pos c3]at H
      have c3b0:decide (a0<0)=true:=decide_eq_true c3;clear c3;replace H:=Option.bind_eq_some_iff.mp H;obtain⟨t296,A40,H⟩:=H;replace H:(if 1+t296.size≤9223372036854775807 then(some ((⟨#[45]⟩:ByteArray)++t296))else(none))=some r:=H
      have A4:=Aside0.mk A40;clear A40;by_cases c5:1+t296.size≤9223372036854775807
      · rw[if_pos c5]at H
        have c5b0:=eq_true c5;have c5b1:decide (1+t296.size≤9223372036854775807)=true:=decide_eq_true c5;try have c5b2:(9223372036854775807<1+t296.size)=False:=eq_false (Nat.not_lt.2 c5)
        obtain rfl:=Option.some.inj H;go_enter Tryd.func43,Tryd.ntmps43
        go_wp2_with (first|((with_reducible refine gate_callee (f:=43) rfl ?_);refine goesL_ (some 9) rfl rfl Tryd.func43 (by kernel_rfl) rfl #[.int .i64 (wrap64 (-a0))] rfl (by(try simp only[List.map_toArray,List.map_cons,List.map_nil]);first|done|rfl|(simp only[List.length_drop,List.length_take];rfl)) ?_;(with_reducible refine(ih k (by omega) (wrap64 (-a0)) t296 _ A4.out).mono ?_);rintro e w6 ⟨rfl,hb⟩;refine⟨_,rfl,?_⟩;have n0_:=Aside0.mk (below_step (by repeat(first|(with_reducible first|exact HB.out|apply below_alloc|apply pw_below_drewN|apply below_drew1)|exact HB.out)) hb);clear HB;have HB:=n0_;clear n0_;(try clear hb);(try clear hb2);(try clear hk);(try clear hi)))
        go_ret
        exact⟨by first|rfl|(simp[errW_none,errW_some]<;>rfl)|(simp[*,errW_none,errW_some]<;>rfl),by repeat(first|(with_reducible first|exact HB.out|apply below_alloc|apply pw_below_drewN|apply below_drew1)|exact HB.out)⟩
      · rw[if_neg c5]at H
        exact absurd H (by simp)
    · rw[if_neg c3]at H
      have c3b0:decide (a0<0)=false:=decide_eq_false c3;clear c3;by_cases c7:a0<10
      · rw[if_pos c7]at H
        have c7b0:decide (a0<10)=true:=decide_eq_true c7;clear c7;obtain⟨y297,hy297⟩: ∃y_:List Int,y_=(([(wrap64 (48+a0))%256]:List Int)):=⟨_,rfl⟩;replace H:(some (strOfNums y297))=some r:=by first|(rw[hy297];with_reducible exact H)|(have H2_:=(Option.bind_some _ _).symm.trans H;rw[hy297];with_reducible exact H2_)|(have H2_:=(Option.bind_some _ _).symm.trans H;with_reducible exact H2_)|with_reducible exact H|(rw[hy297];exact H)|exact H
        have Ny297:=Aside0.mk hy297;clear hy297;obtain rfl:=Option.some.inj H;go_enter Tryd.func43,Tryd.ntmps43
        go_wp2_with (first|((with_reducible refine gate_dst (N:=16) rfl ?_);refine Kd.R_lit (Kd.int .u8) _ 5 ?hg (N:=16) ?hd (xs:=([(wrap64 (48+a0))%256]:List Int)) (inner:=[.int .u8 ((wrap64 (48+a0))%256)]) (ok:=fun _=>True) (okp:=fun _=>True) ?hr ?hp (fun _ hk=>hk) trivial (Below.refl _ _) (Nat.le_refl _) (by simp) ?_;(case hd=>rfl);(case hg=>rfl);(case hr=>first|(go_simp;done)|(go_simp;rfl));(case hp=>exact(Reps.one (show Kd.M (Kd.int .u8) _ _ _ ((wrap64 (48+a0))%256) [.int .u8 ((wrap64 (48+a0))%256)]from rfl) (Reps.none _ _)));intro v298 w8 ho9 hb hg_ hnew_;clear hg_ hnew_;(first|rw[←Ny297.out]at ho9|(simp only[Int.reduceToNat]at ho9;rw[←Ny297.out]at ho9));have n0_:=Aside0.mk (Kd.R_lower ho9 (below_size (by repeat(first|(with_reducible first|exact HB.out|apply below_alloc|apply pw_below_drewN|apply below_drew1)|exact HB.out))));have n1_:=Aside0.mk (below_step (by repeat(first|(with_reducible first|exact HB.out|apply below_alloc|apply pw_below_drewN|apply below_drew1)|exact HB.out)) hb);clear HB;have HO299:=n0_;have HB:=n1_;clear n0_ n1_;clear hb ho9;have hcv10:=own_string (P:=Tryd.prog) Tryd.underlying28 Tryd.underlying5 Tryd.underlying9 (Kd.own_of_R HO299.out)))
        go_ret
        exact⟨by first|rfl|(simp[errW_none,errW_some]<;>rfl)|(simp[*,errW_none,errW_some]<;>rfl),by repeat(first|(with_reducible first|exact HB.out|apply below_alloc|apply pw_below_drewN|apply below_drew1)|exact HB.out)⟩
      · rw[if_neg c7]at H
        have c7b0:decide (a0<10)=false:=decide_eq_false c7;clear c7;replace H:=Option.bind_eq_some_iff.mp H;obtain⟨t300,A110,H⟩:=H;replace H:((some (([(wrap64 (48+(Int.tmod a0 10)))%256]:List Int):List Int)).bind fun y301=>(if t300.size+(strOfNums y301).size≤9223372036854775807 then(some (t300++(strOfNums y301)))else(none)))=some r:=H
        have A11:=Aside0.mk A110;clear A110;obtain⟨y301,hy301⟩: ∃y_:List Int,y_=(([(wrap64 (48+(Int.tmod a0 10)))%256]:List Int)):=⟨_,rfl⟩;replace H:(if t300.size+(strOfNums y301).size≤9223372036854775807 then(some (t300++(strOfNums y301)))else(none))=some r:=by first|(rw[hy301];with_reducible exact H)|(have H2_:=(Option.bind_some _ _).symm.trans H;rw[hy301];with_reducible exact H2_)|(have H2_:=(Option.bind_some _ _).symm.trans H;with_reducible exact H2_)|with_reducible exact H|(rw[hy301];exact H)|exact H
        have Ny301:=Aside0.mk hy301;clear hy301;by_cases c12:t300.size+(strOfNums y301).size≤9223372036854775807
        · rw[if_pos c12]at H
          have c12b0:=eq_true c12;have c12b1:decide (t300.size+(strOfNums y301).size≤9223372036854775807)=true:=decide_eq_true c12;try have c12b2:(9223372036854775807<t300.size+(strOfNums y301).size)=False:=eq_false (Nat.not_lt.2 c12)
          obtain rfl:=Option.some.inj H;go_enter Tryd.func43,Tryd.ntmps43
          try go_wp2
          have n0_:=Aside0.mk (below_drew1 HB.out);clear HB;have HB:=n0_;clear n0_;refine start_ (n:=11) (S:=fun w'=>True) (ds:=[]) #[false,false,false,false,false,false,false,false,false,false,false] (by kernel_rfl) rfl rfl trivial (fun hHeld=> ?_);refine with_tabW spec_l6Dec.tab7 spec_l6Dec.bits7 (fun HT_ HW_=> ?_)
          generalize w.drew=w13 at HB hHeld⊢
          refine pure_ (i:=0) (N:=some 18) (v:= ?_) (a':= ?_) #[true,false,false,false,false,false,false,false,false,false,false] rfl rfl (any_of HT_.out (by kernel_rfl)) (fun _ _ _ h=>h) (Or.inl ⟨by rfl,?_⟩) ?_ ?_
          rotate_left
          · intro w'
            go_simp
            with_reducible rfl
          rotate_left
          · simp only[Act.put,List.setIfInBounds_toArray,List.set_cons_zero,List.set_cons_succ,i64_w,i32_w]
            rfl
          refine pure_ (i:=1) (N:=some 19) (v:= ?_) (a':= ?_) #[true,true,false,false,false,false,false,false,false,false,false] rfl rfl (any_of HT_.out (by kernel_rfl)) (fun _ _ _ h=>h) (Or.inl ⟨by rfl,?_⟩) ?_ ?_
          rotate_left
          · intro w'
            go_simp
            with_reducible rfl
          rotate_left
          · simp only[Act.put,List.setIfInBounds_toArray,List.set_cons_zero,List.set_cons_succ,i64_w,i32_w]
            rfl
          refine pure_ (i:=3) (N:=some 21) (v:= ?_) (a':= ?_) #[true,true,false,true,false,false,false,false,false,false,false] rfl rfl (any_of HT_.out (by kernel_rfl)) (fun _ _ _ h=>h) (Or.inl ⟨by rfl,?_⟩) ?_ ?_
          rotate_left
          · intro w'
            go_simp
            with_reducible rfl
          rotate_left
          · simp only[Act.put,List.setIfInBounds_toArray,List.set_cons_zero,List.set_cons_succ,i64_w,i32_w]
            rfl
          refine pure_ (i:=4) (N:=some 22) (v:= ?_) (a':= ?_) #[true,true,false,true,true,false,false,false,false,false,false] rfl rfl (any_of HT_.out (by kernel_rfl)) (fun _ _ _ h=>h) (Or.inl ⟨by rfl,?_⟩) ?_ ?_
          rotate_left
          · intro w'
            go_simp
            with_reducible rfl
          rotate_left
          · simp only[Act.put,List.setIfInBounds_toArray,List.set_cons_zero,List.set_cons_succ,i64_w,i32_w]
            rfl
          refine pure_ (i:=5) (N:=some 23) (v:= ?_) (a':= ?_) #[true,true,false,true,true,true,false,false,false,false,false] rfl rfl (any_of HT_.out (by kernel_rfl)) (fun _ _ _ h=>h) (Or.inl ⟨by rfl,?_⟩) ?_ ?_
          rotate_left
          · intro w'
            go_simp
            with_reducible rfl
          rotate_left
          · simp only[Act.put,List.setIfInBounds_toArray,List.set_cons_zero,List.set_cons_succ,i64_w,i32_w]
            rfl
          refine pure_ (i:=6) (N:=some 24) (v:= ?_) (a':= ?_) #[true,true,false,true,true,true,true,false,false,false,false] rfl rfl (any_of HT_.out (by kernel_rfl)) (fun _ _ _ h=>h) (Or.inl ⟨by rfl,?_⟩) ?_ ?_
          rotate_left
          · intro w'
            go_simp
            with_reducible rfl
          rotate_left
          · simp only[Act.put,List.setIfInBounds_toArray,List.set_cons_zero,List.set_cons_succ,i64_w,i32_w]
            rfl
          refine join_ (σ:=Value) 2 #[true,true,true,true,true,true,true,true,true,false,false] (fun s_=> [(20,.string t300),(25,s_),(26,.string (strOfNums y301))]) (fun s_ w'=>(Kd.R (Kd.int .u8) 5 w' w.heap.size (fun _=>True) s_ y301)∧(Below w.heap.size w w')) ?_ ?_
          rotate_left
          · intro hCont
            refine two_ (i:=2) (j:=7) (Ni:=some 20) (Nj:=some 25) #[true,true,true,true,true,true,true,false,false,false,false] #[true,true,false,true,true,true,true,true,false,false,false] rfl rfl rfl rfl (two_of HT_.out (by kernel_rfl)) (by decide) (by decide) (fun K hK=> ?_) (fun K hK=> ?_)
            · skip
              refine goes_ Tryd.func43 (by kernel_rfl) rfl #[.int .i64 (wrap64 (Int.tdiv a0 10))] (by rfl) rfl rfl (by(try simp only[List.map_toArray,List.map_cons,List.map_nil]);first|done|rfl|(simp only[List.length_drop,List.length_take];rfl)) ?_
              with_reducible refine(ih k (by omega) (wrap64 (Int.tdiv a0 10)) t300 _ A11.out).mono ?_
              rintro e w14 ⟨rfl,hb⟩
              refine⟨_,rfl,?_⟩
              have n0_:=Aside0.mk (below_step (by repeat(first|(with_reducible first|exact HB.out|apply below_alloc|apply pw_below_drewN|apply below_drew1)|exact HB.out)) hb)
              clear HB;have HB:=n0_;clear n0_;(try clear hb)
              (try clear hb2)
              (try clear hk)
              (try clear hi)
              refine hK.out _ _ trivial (fun hHeld=> ?_)
              clear hK K;refine norm_ (a':= ?_) ?_ ?_
              rotate_left
              · show Act.put _ (some 20) _=_
                simp only[Act.put,List.setIfInBounds_toArray,List.set_cons_zero,List.set_cons_succ,i64_w,i32_w]
                rfl
              refine one_ (i:=7) (N:=some 25) #[true,true,true,true,true,true,true,true,false,false,false] rfl rfl (one_of HT_.out (by kernel_rfl)) (by decide) (fun K hK=> ?_)
              refine Kd.R_lit_step (Kd.int .u8) _ 5 ?hg (N:=25) ?hd (xs:=([(wrap64 (48+(Int.tmod a0 10)))%256]:List Int)) (inner:=[.int .u8 ((wrap64 (48+(Int.tmod a0 10)))%256)]) (ok:=fun _=>True) (okp:=fun _=>True) ?hr ?hp (fun _ hk=>hk) trivial (Below.refl _ _) (Nat.le_refl _) (by simp) ?_;(case hd=>rfl);(case hg=>rfl);(case hr=>first|(go_simp;done)|(go_simp;rfl));(case hp=>exact(Reps.one (show Kd.M (Kd.int .u8) _ _ _ ((wrap64 (48+(Int.tmod a0 10)))%256) [.int .u8 ((wrap64 (48+(Int.tmod a0 10)))%256)]from rfl) (Reps.none _ _)))
              intro v302 w15 ho16 hb hg_ hnew_;clear hg_ hnew_;(first|rw[←Ny301.out]at ho16|(simp only[Int.reduceToNat]at ho16;rw[←Ny301.out]at ho16))
              have n0_:=Aside0.mk (Kd.R_lower ho16 (below_size (by repeat(first|(with_reducible first|exact HB.out|apply below_alloc|apply pw_below_drewN|apply below_drew1)|exact HB.out))))
              have n1_:=Aside0.mk (below_step (by repeat(first|(with_reducible first|exact HB.out|apply below_alloc|apply pw_below_drewN|apply below_drew1)|exact HB.out)) hb)
              clear HB;have HO303:=n0_;have HB:=n1_;clear n0_ n1_;clear hb ho16;refine hK.out _ _ trivial (fun hHeld=> ?_)
              clear hK K;refine norm_ (a':= ?_) ?_ ?_
              rotate_left
              · show Act.put _ (some 25) _=_
                simp only[Act.put,List.setIfInBounds_toArray,List.set_cons_zero,List.set_cons_succ,i64_w,i32_w]
                rfl
              refine one_ (i:=8) (N:=some 26) #[true,true,true,true,true,true,true,true,true,false,false] rfl rfl (one_of HT_.out (by kernel_rfl)) (by decide) (fun K hK=> ?_)
              have hcv17:=own_string (P:=Tryd.prog) Tryd.underlying28 Tryd.underlying5 Tryd.underlying9 (Kd.own_of_R HO303.out);refine value_ (w1:= ?_) (v:= ?_) (by rfl) rfl ?_ ?_
              rotate_left 2
              · go_simp
                constructor
                · rfl
                · rfl
              clear hcv17;refine hK.out _ _ trivial (fun hHeld=> ?_)
              clear hK K;refine norm_ (a':= ?_) ?_ ?_
              rotate_left
              · show Act.put _ (some 26) _=_
                simp only[Act.put,List.setIfInBounds_toArray,List.set_cons_zero,List.set_cons_succ,i64_w,i32_w]
                rfl
              exact norm_ (by simp only[putAll,Act.put,List.setIfInBounds_toArray,List.set_cons_zero,List.set_cons_succ]) (hCont (v302) _ ⟨(by(with_reducible repeat(first|apply Kd.R_alloc|apply Kd.R_drewN|apply Kd.R_drew));exact HO303.out),(by repeat(first|(with_reducible first|exact HB.out|apply below_alloc|apply pw_below_drewN|apply below_drew1)|exact HB.out))⟩)
            · skip
              refine Kd.R_lit_step (Kd.int .u8) _ 5 ?hg (N:=25) ?hd (xs:=([(wrap64 (48+(Int.tmod a0 10)))%256]:List Int)) (inner:=[.int .u8 ((wrap64 (48+(Int.tmod a0 10)))%256)]) (ok:=fun _=>True) (okp:=fun _=>True) ?hr ?hp (fun _ hk=>hk) trivial (Below.refl _ _) (Nat.le_refl _) (by simp) ?_;(case hd=>rfl);(case hg=>rfl);(case hr=>first|(go_simp;done)|(go_simp;rfl));(case hp=>exact(Reps.one (show Kd.M (Kd.int .u8) _ _ _ ((wrap64 (48+(Int.tmod a0 10)))%256) [.int .u8 ((wrap64 (48+(Int.tmod a0 10)))%256)]from rfl) (Reps.none _ _)))
              intro v302 w14 ho15 hb hg_ hnew_;clear hg_ hnew_;(first|rw[←Ny301.out]at ho15|(simp only[Int.reduceToNat]at ho15;rw[←Ny301.out]at ho15))
              have n0_:=Aside0.mk (Kd.R_lower ho15 (below_size (by repeat(first|(with_reducible first|exact HB.out|apply below_alloc|apply pw_below_drewN|apply below_drew1)|exact HB.out))))
              have n1_:=Aside0.mk (below_step (by repeat(first|(with_reducible first|exact HB.out|apply below_alloc|apply pw_below_drewN|apply below_drew1)|exact HB.out)) hb)
              clear HB;have HO303:=n0_;have HB:=n1_;clear n0_ n1_;clear hb ho15;refine hK.out _ _ trivial (fun hHeld=> ?_)
              clear hK K;refine norm_ (a':= ?_) ?_ ?_
              rotate_left
              · show Act.put _ (some 25) _=_
                simp only[Act.put,List.setIfInBounds_toArray,List.set_cons_zero,List.set_cons_succ,i64_w,i32_w]
                rfl
              refine two_ (i:=2) (j:=8) (Ni:=some 20) (Nj:=some 26) #[true,true,true,true,true,true,true,true,false,false,false] #[true,true,false,true,true,true,true,true,true,false,false] rfl rfl rfl rfl (two_of HT_.out (by kernel_rfl)) (by decide) (by decide) (fun K hK=> ?_) (fun K hK=> ?_)
              · skip
                refine goes_ Tryd.func43 (by kernel_rfl) rfl #[.int .i64 (wrap64 (Int.tdiv a0 10))] (by rfl) rfl rfl (by(try simp only[List.map_toArray,List.map_cons,List.map_nil]);first|done|rfl|(simp only[List.length_drop,List.length_take];rfl)) ?_
                with_reducible refine(ih k (by omega) (wrap64 (Int.tdiv a0 10)) t300 _ A11.out).mono ?_
                rintro e w16 ⟨rfl,hb⟩
                refine⟨_,rfl,?_⟩
                have n0_:=Aside0.mk (Kd.R_below (by(with_reducible repeat(first|apply Kd.R_alloc|apply Kd.R_drewN|apply Kd.R_drew));exact HO303.out) hb)
                have n1_:=Aside0.mk (below_step (by repeat(first|(with_reducible first|exact HB.out|apply below_alloc|apply pw_below_drewN|apply below_drew1)|exact HB.out)) hb)
                clear HO303;clear HB;have HO303:=n0_;have HB:=n1_;clear n0_ n1_;(try clear hb)
                (try clear hb2)
                (try clear hk)
                (try clear hi)
                refine hK.out _ _ trivial (fun hHeld=> ?_)
                clear hK K;refine norm_ (a':= ?_) ?_ ?_
                rotate_left
                · show Act.put _ (some 20) _=_
                  simp only[Act.put,List.setIfInBounds_toArray,List.set_cons_zero,List.set_cons_succ,i64_w,i32_w]
                  rfl
                refine one_ (i:=8) (N:=some 26) #[true,true,true,true,true,true,true,true,true,false,false] rfl rfl (one_of HT_.out (by kernel_rfl)) (by decide) (fun K hK=> ?_)
                have hcv17:=own_string (P:=Tryd.prog) Tryd.underlying28 Tryd.underlying5 Tryd.underlying9 (Kd.own_of_R HO303.out);refine value_ (w1:= ?_) (v:= ?_) (by rfl) rfl ?_ ?_
                rotate_left 2
                · go_simp
                  constructor
                  · rfl
                  · rfl
                clear hcv17;refine hK.out _ _ trivial (fun hHeld=> ?_)
                clear hK K;refine norm_ (a':= ?_) ?_ ?_
                rotate_left
                · show Act.put _ (some 26) _=_
                  simp only[Act.put,List.setIfInBounds_toArray,List.set_cons_zero,List.set_cons_succ,i64_w,i32_w]
                  rfl
                exact norm_ (by simp only[putAll,Act.put,List.setIfInBounds_toArray,List.set_cons_zero,List.set_cons_succ]) (hCont (v302) _ ⟨(by(with_reducible repeat(first|apply Kd.R_alloc|apply Kd.R_drewN|apply Kd.R_drew));exact HO303.out),(by repeat(first|(with_reducible first|exact HB.out|apply below_alloc|apply pw_below_drewN|apply below_drew1)|exact HB.out))⟩)
              · skip
                have hcv16:=own_string (P:=Tryd.prog) Tryd.underlying28 Tryd.underlying5 Tryd.underlying9 (Kd.own_of_R HO303.out);refine value_ (w1:= ?_) (v:= ?_) (by rfl) rfl ?_ ?_
                rotate_left 2
                · go_simp
                  constructor
                  · rfl
                  · rfl
                clear hcv16;refine hK.out _ _ trivial (fun hHeld=> ?_)
                clear hK K;refine norm_ (a':= ?_) ?_ ?_
                rotate_left
                · show Act.put _ (some 26) _=_
                  simp only[Act.put,List.setIfInBounds_toArray,List.set_cons_zero,List.set_cons_succ,i64_w,i32_w]
                  rfl
                refine one_ (i:=2) (N:=some 20) #[true,true,true,true,true,true,true,true,true,false,false] rfl rfl (one_of HT_.out (by kernel_rfl)) (by decide) (fun K hK=> ?_)
                refine goes_ Tryd.func43 (by kernel_rfl) rfl #[.int .i64 (wrap64 (Int.tdiv a0 10))] (by rfl) rfl rfl (by(try simp only[List.map_toArray,List.map_cons,List.map_nil]);first|done|rfl|(simp only[List.length_drop,List.length_take];rfl)) ?_
                with_reducible refine(ih k (by omega) (wrap64 (Int.tdiv a0 10)) t300 _ A11.out).mono ?_
                rintro e w17 ⟨rfl,hb⟩
                refine⟨_,rfl,?_⟩
                have n0_:=Aside0.mk (Kd.R_below (by(with_reducible repeat(first|apply Kd.R_alloc|apply Kd.R_drewN|apply Kd.R_drew));exact HO303.out) hb)
                have n1_:=Aside0.mk (below_step (by repeat(first|(with_reducible first|exact HB.out|apply below_alloc|apply pw_below_drewN|apply below_drew1)|exact HB.out)) hb)
                clear HO303;clear HB;have HO303:=n0_;have HB:=n1_;clear n0_ n1_;(try clear hb)
                (try clear hb2)
                (try clear hk)
                (try clear hi)
                refine hK.out _ _ trivial (fun hHeld=> ?_)
                clear hK K;refine norm_ (a':= ?_) ?_ ?_
                rotate_left
                · show Act.put _ (some 20) _=_
                  simp only[Act.put,List.setIfInBounds_toArray,List.set_cons_zero,List.set_cons_succ,i64_w,i32_w]
                  rfl
                exact norm_ (by simp only[putAll,Act.put,List.setIfInBounds_toArray,List.set_cons_zero,List.set_cons_succ]) (hCont (v302) _ ⟨(by(with_reducible repeat(first|apply Kd.R_alloc|apply Kd.R_drewN|apply Kd.R_drew));exact HO303.out),(by repeat(first|(with_reducible first|exact HB.out|apply below_alloc|apply pw_below_drewN|apply below_drew1)|exact HB.out))⟩)
          rintro v302 w18 ⟨h0_,h1_⟩
          have n0_:Aside0 (Kd.R (Kd.int .u8) 5 w18 w.heap.size (fun _=>True) v302 y301):=⟨h0_⟩
          have n1_:Aside0 (Below w.heap.size w w18):=⟨h1_⟩;clear HB;clear h0_ h1_;have HO303:=n0_;have HB:=n1_;clear n0_ n1_;have hHeld:=trivial;refine norm_ (a':= ?_) ?_ ?_
          rotate_left
          · simp only[putAll,Act.put,List.setIfInBounds_toArray,List.set_cons_zero,List.set_cons_succ]
            rfl
          refine pure_ (i:=9) (N:=some 27) (v:= ?_) (a':= ?_) #[true,true,true,true,true,true,true,true,true,true,false] rfl rfl (any_of HT_.out (by kernel_rfl)) (fun _ _ _ h=>h) (Or.inl ⟨by rfl,?_⟩) ?_ ?_
          rotate_left
          · intro w'
            go_simp
            with_reducible rfl
          rotate_left
          · simp only[Act.put,List.setIfInBounds_toArray,List.set_cons_zero,List.set_cons_succ,i64_w,i32_w]
            rfl
          refine pure_ (i:=10) (N:=some 2) (v:= ?_) (a':= ?_) #[true,true,true,true,true,true,true,true,true,true,true] rfl rfl (any_of HT_.out (by kernel_rfl)) (fun _ _ _ h=>h) (Or.inl ⟨by rfl,?_⟩) ?_ ?_
          rotate_left
          · intro w'
            go_simp
            with_reducible rfl
          rotate_left
          · simp only[Act.put,List.setIfInBounds_toArray,List.set_cons_zero,List.set_cons_succ,i64_w,i32_w]
            rfl
          refine done_ (done_of HT_.out (by kernel_rfl)) ?_
          try go_wp2
          go_ret
          exact⟨by first|rfl|(simp[errW_none,errW_some]<;>rfl)|(simp[*,errW_none,errW_some]<;>rfl),by repeat(first|(with_reducible first|exact HB.out|apply below_alloc|apply pw_below_drewN|apply below_drew1)|exact HB.out)⟩
        · rw[if_neg c12]at H
          exact absurd H (by simp)
def spec_ValText.f (k:Nat) (a0_0:Int) (a0_1:Int):Option (ByteArray):=(spec_ValOk.f a0_0 a0_1).bind fun t305=>(if t305=true then(if a0_0=0 then(some (⟨#[110,111,110,101]⟩:ByteArray))else((some (([(⟨#[]⟩:ByteArray),(⟨#[110]⟩:ByteArray),(⟨#[97]⟩:ByteArray),(⟨#[114]⟩:ByteArray)]:List ByteArray):List ByteArray)).bind fun y306=>(if 0≤a0_0 then(if a0_0<(y306.length:Int)then((spec_l6Dec.f k a0_1).bind fun t310=>(if(rdOf ByteArray.empty y306 a0_0).size+t310.size≤9223372036854775807 then(some ((rdOf ByteArray.empty y306 a0_0)++t310))else(none)))else(none))else(none))))else(some (⟨#[]⟩:ByteArray)))
def spec_ValText.T5:Bool×List (List Nat×List Nat):=(true,[([],[]),([],[]),([1],[1]),([0,2],[0,2]),([3],[3]),([],[]),([5],[5]),([6],[6]),([4,7],[4,7]),([8,7,0,1,2,3,4,5,6,7,8],[8])])
def spec_ValText.B5:List Nat:=[0,0,2,7,15,0,32,96,255,511]
theorem spec_ValText.tab5:rtab .any (opsOf Tryd.f17 5)=spec_ValText.T5:=by kernel_rfl
theorem spec_ValText.bits5:waitsOk spec_ValText.T5.2 spec_ValText.B5=true:=by kernel_rfl
theorem spec_ValText.calls (k:Nat) (a0_0:Int) (a0_1:Int) (r:ByteArray) (w:World) (h:spec_ValText.f k a0_0 a0_1=some r):
    Calls Tryd.prog 17 #[.agg #[.int .i64 a0_0,.int .i64 a0_1]] w fun e w'=>e= .returned (.string r)∧Below w.heap.size w w':=by
  have hu25:=Tryd.underlying25;have HB:=Aside0.mk (Below.refl w.heap.size w);have H:((spec_ValOk.f a0_0 a0_1).bind fun t305=>(if t305=true then(if a0_0=0 then(some (⟨#[110,111,110,101]⟩:ByteArray))else((some (([(⟨#[]⟩:ByteArray),(⟨#[110]⟩:ByteArray),(⟨#[97]⟩:ByteArray),(⟨#[114]⟩:ByteArray)]:List ByteArray):List ByteArray)).bind fun y306=>(if 0≤a0_0 then(if a0_0<(y306.length:Int)then((spec_l6Dec.f k a0_1).bind fun t310=>(if(rdOf ByteArray.empty y306 a0_0).size+t310.size≤9223372036854775807 then(some ((rdOf ByteArray.empty y306 a0_0)++t310))else(none)))else(none))else(none))))else(some (⟨#[]⟩:ByteArray))))=some r:=h
  clear h;replace H:=Option.bind_eq_some_iff.mp H;obtain⟨t305,A20,H⟩:=H;replace H:(if t305=true then(if a0_0=0 then(some (⟨#[110,111,110,101]⟩:ByteArray))else((some (([(⟨#[]⟩:ByteArray),(⟨#[110]⟩:ByteArray),(⟨#[97]⟩:ByteArray),(⟨#[114]⟩:ByteArray)]:List ByteArray):List ByteArray)).bind fun y306=>(if 0≤a0_0 then(if a0_0<(y306.length:Int)then((spec_l6Dec.f k a0_1).bind fun t310=>(if(rdOf ByteArray.empty y306 a0_0).size+t310.size≤9223372036854775807 then(some ((rdOf ByteArray.empty y306 a0_0)++t310))else(none)))else(none))else(none))))else(some (⟨#[]⟩:ByteArray)))=some r:=H
  have A2:=Aside0.mk A20;clear A20;by_cases c3:t305=true
  · subst c3
    have H1:(if a0_0=0 then(some (⟨#[110,111,110,101]⟩:ByteArray))else((some (([(⟨#[]⟩:ByteArray),(⟨#[110]⟩:ByteArray),(⟨#[97]⟩:ByteArray),(⟨#[114]⟩:ByteArray)]:List ByteArray):List ByteArray)).bind fun y306=>(if 0≤a0_0 then(if a0_0<(y306.length:Int)then((spec_l6Dec.f k a0_1).bind fun t310=>(if(rdOf ByteArray.empty y306 a0_0).size+t310.size≤9223372036854775807 then(some ((rdOf ByteArray.empty y306 a0_0)++t310))else(none)))else(none))else(none))))=some r:=by rw[if_pos rfl]at H;exact H
    clear H;have H:=H1;clear H1;by_cases c4:a0_0=0
    · rw[if_pos c4]at H
      have c4b0:(a0_0==0)=true:=beq_iff_eq.mpr c4;have c4b1:(a0_0 !=0)=false:=bne_eq_false_iff_eq.mpr c4;clear c4;obtain rfl:=Option.some.inj H;go_enter Tryd.func17,Tryd.ntmps17
      go_wp2_with (first|((with_reducible refine gate_dst (N:=1) rfl ?_);refine box_event ?hg (N:=1) ?hd (cs:= #[.int .i64 a0_0,.int .i64 a0_1]) (t:=25) ?hr ?_;(case hd=>rfl);(case hg=>rfl);(case hr=>first|(go_simp;done)|(go_simp;rfl));intro gb304 hg w5 hbox hb;have n0_:=Aside0.mk (below_step (by repeat(first|(with_reducible first|exact HB.out|apply below_alloc|apply pw_below_drewN|apply below_drew1)|exact HB.out)) hb);have n1_:=Aside0.mk (hbox);have n2_:=Aside0.mk ((by rw[hg];exact(below_size (by repeat(first|(with_reducible first|exact HB.out|apply below_alloc|apply pw_below_drewN|apply below_drew1)|exact HB.out))):w.heap.size≤gb304));have n3_:=Aside0.mk ((by rw[hg];exact(below_size (by repeat(first|(with_reducible first|exact HB.out|apply below_alloc|apply pw_below_drewN|apply below_drew1)|exact HB.out))):w.heap.size≤gb304));clear HB;have HB:=n0_;have BK304:=n1_;have GW304:=n2_;have GE304:=n3_;clear n0_ n1_ n2_ n3_;clear hb hbox hg;have hcz6_0:w5.cell? ⟨gb304,0,none⟩=some (.int .i64 a0_0):=(blk_cell BK304.out 0).trans rfl;have hcz6_1:w5.cell? ⟨gb304,1,none⟩=some (.int .i64 a0_1):=(blk_cell BK304.out 1).trans rfl;have hfz6_0:=blk_frozen BK304.out 0;have hfz6_1:=blk_frozen BK304.out 1)|((with_reducible refine gate_callee (f:=42) rfl ?_);refine goesL_ (some 4) rfl rfl Tryd.func42 (by kernel_rfl) rfl #[.agg #[.int .i64 a0_0,.int .i64 a0_1]] rfl (by(try simp only[List.map_toArray,List.map_cons,List.map_nil]);first|done|rfl|(simp only[List.length_drop,List.length_take];rfl)) ?_;(with_reducible refine(spec_ValOk.calls a0_0 a0_1 true _ A2.out).mono ?_);rintro e w7 ⟨rfl,hb⟩;refine⟨_,rfl,?_⟩;have n0_:=Aside0.mk (blk_below (g:=gb304) (o:=.cells #[.int .i64 a0_0,.int .i64 a0_1] 25 (0,0)) (by(with_reducible repeat(first|refine blk_drewN ?_ _|refine blk_drew ?_|refine blk_alloc ?_ _));exact BK304.out) hb);have n1_:=Aside0.mk (below_step (by repeat(first|(with_reducible first|exact HB.out|apply below_alloc|apply pw_below_drewN|apply below_drew1|refine below_set ?_ GE304.out)|exact HB.out)) hb);clear BK304;clear HB;have BK304:=n0_;have HB:=n1_;clear n0_ n1_;(try clear hb);(try clear hb2);(try clear hk);(try clear hi);have hcz8_0:w7.cell? ⟨gb304,0,none⟩=some (.int .i64 a0_0):=(blk_cell BK304.out 0).trans rfl;have hcz8_1:w7.cell? ⟨gb304,1,none⟩=some (.int .i64 a0_1):=(blk_cell BK304.out 1).trans rfl;have hfz8_0:=blk_frozen BK304.out 0;have hfz8_1:=blk_frozen BK304.out 1))
      go_ret
      exact⟨by first|rfl|(simp[errW_none,errW_some]<;>rfl)|(simp[*,errW_none,errW_some]<;>rfl),by repeat(first|(with_reducible first|exact HB.out|apply below_alloc|apply pw_below_drewN|apply below_drew1|refine below_set ?_ GE304.out)|exact HB.out)⟩
    · rw[if_neg c4]at H
      have c4b0:(a0_0==0)=false:=beq_eq_false_iff_ne.mpr c4;have c4b1:(a0_0 !=0)=true:=bne_iff_ne.mpr c4;obtain⟨y306,hy306⟩: ∃y_:List ByteArray,y_=(([(⟨#[]⟩:ByteArray),(⟨#[110]⟩:ByteArray),(⟨#[97]⟩:ByteArray),(⟨#[114]⟩:ByteArray)]:List ByteArray)):=⟨_,rfl⟩;replace H:(if 0≤a0_0 then(if a0_0<(y306.length:Int)then((spec_l6Dec.f k a0_1).bind fun t310=>(if(rdOf ByteArray.empty y306 a0_0).size+t310.size≤9223372036854775807 then(some ((rdOf ByteArray.empty y306 a0_0)++t310))else(none)))else(none))else(none))=some r:=by first|(rw[hy306];with_reducible exact H)|(have H2_:=(Option.bind_some _ _).symm.trans H;rw[hy306];with_reducible exact H2_)|(have H2_:=(Option.bind_some _ _).symm.trans H;with_reducible exact H2_)|with_reducible exact H|(rw[hy306];exact H)|exact H
      have Ny306:=Aside0.mk hy306;clear hy306;by_cases c9:0≤a0_0
      · rw[if_pos c9]at H
        have c9b0:decide (0≤a0_0)=true:=decide_eq_true c9;clear c9;by_cases c10:a0_0<(y306.length:Int)
        · rw[if_pos c10]at H
          have c10b0:decide (a0_0<(y306.length:Int))=true:=decide_eq_true c10;clear c10;replace H:=Option.bind_eq_some_iff.mp H;obtain⟨t310,A110,H⟩:=H;replace H:(if(rdOf ByteArray.empty y306 a0_0).size+t310.size≤9223372036854775807 then(some ((rdOf ByteArray.empty y306 a0_0)++t310))else(none))=some r:=H
          have A11:=Aside0.mk A110;clear A110;by_cases c12:(rdOf ByteArray.empty y306 a0_0).size+t310.size≤9223372036854775807
          · rw[if_pos c12]at H
            have c12b0:=eq_true c12;have c12b1:decide ((rdOf ByteArray.empty y306 a0_0).size+t310.size≤9223372036854775807)=true:=decide_eq_true c12;try have c12b2:(9223372036854775807<(rdOf ByteArray.empty y306 a0_0).size+t310.size)=False:=eq_false (Nat.not_lt.2 c12)
            obtain rfl:=Option.some.inj H;go_enter Tryd.func17,Tryd.ntmps17
            try go_wp2_with (first|((with_reducible refine gate_dst (N:=1) rfl ?_);refine box_event ?hg (N:=1) ?hd (cs:= #[.int .i64 a0_0,.int .i64 a0_1]) (t:=25) ?hr ?_;(case hd=>rfl);(case hg=>rfl);(case hr=>first|(go_simp;done)|(go_simp;rfl));intro gb304 hg w13 hbox hb;have n0_:=Aside0.mk (below_step (by repeat(first|(with_reducible first|exact HB.out|apply below_alloc|apply pw_below_drewN|apply below_drew1)|exact HB.out)) hb);have n1_:=Aside0.mk (hbox);have n2_:=Aside0.mk ((by rw[hg];exact(below_size (by repeat(first|(with_reducible first|exact HB.out|apply below_alloc|apply pw_below_drewN|apply below_drew1)|exact HB.out))):w.heap.size≤gb304));have n3_:=Aside0.mk ((by rw[hg];exact(below_size (by repeat(first|(with_reducible first|exact HB.out|apply below_alloc|apply pw_below_drewN|apply below_drew1)|exact HB.out))):w.heap.size≤gb304));clear HB;have HB:=n0_;have BK304:=n1_;have GW304:=n2_;have GE304:=n3_;clear n0_ n1_ n2_ n3_;clear hb hbox hg;have hcz14_0:w13.cell? ⟨gb304,0,none⟩=some (.int .i64 a0_0):=(blk_cell BK304.out 0).trans rfl;have hcz14_1:w13.cell? ⟨gb304,1,none⟩=some (.int .i64 a0_1):=(blk_cell BK304.out 1).trans rfl;have hfz14_0:=blk_frozen BK304.out 0;have hfz14_1:=blk_frozen BK304.out 1)|((with_reducible refine gate_callee (f:=42) rfl ?_);refine goesL_ (some 4) rfl rfl Tryd.func42 (by kernel_rfl) rfl #[.agg #[.int .i64 a0_0,.int .i64 a0_1]] rfl (by(try simp only[List.map_toArray,List.map_cons,List.map_nil]);first|done|rfl|(simp only[List.length_drop,List.length_take];rfl)) ?_;(with_reducible refine(spec_ValOk.calls a0_0 a0_1 true _ A2.out).mono ?_);rintro e w15 ⟨rfl,hb⟩;refine⟨_,rfl,?_⟩;have n0_:=Aside0.mk (blk_below (g:=gb304) (o:=.cells #[.int .i64 a0_0,.int .i64 a0_1] 25 (0,0)) (by(with_reducible repeat(first|refine blk_drewN ?_ _|refine blk_drew ?_|refine blk_alloc ?_ _));exact BK304.out) hb);have n1_:=Aside0.mk (below_step (by repeat(first|(with_reducible first|exact HB.out|apply below_alloc|apply pw_below_drewN|apply below_drew1|refine below_set ?_ GE304.out)|exact HB.out)) hb);clear BK304;clear HB;have BK304:=n0_;have HB:=n1_;clear n0_ n1_;(try clear hb);(try clear hb2);(try clear hk);(try clear hi);have hcz16_0:w15.cell? ⟨gb304,0,none⟩=some (.int .i64 a0_0):=(blk_cell BK304.out 0).trans rfl;have hcz16_1:w15.cell? ⟨gb304,1,none⟩=some (.int .i64 a0_1):=(blk_cell BK304.out 1).trans rfl;have hfz16_0:=blk_frozen BK304.out 0;have hfz16_1:=blk_frozen BK304.out 1))
            have pi309:(0≤(a0_0:Int))=True:=eq_true (of_decide_eq_true (by first|(with_reducible assumption)|assumption))
            have qi309:(a0_0<(y306.length:Int))=True:=eq_true (of_decide_eq_true (by first|(with_reducible assumption)|assumption))
            have n0_:=Aside0.mk (blk_drew BK304.out);have n1_:=Aside0.mk (below_drew1 HB.out);clear BK304;clear HB;have BK304:=n0_;have HB:=n1_;clear n0_ n1_;refine start_ (n:=10) (S:=fun w'=>True) (ds:=[]) #[false,false,false,false,false,false,false,false,false,false] (by kernel_rfl) rfl rfl trivial (fun hHeld=> ?_);refine with_tabW spec_ValText.tab5 spec_ValText.bits5 (fun HT_ HW_=> ?_)
            generalize w15.drew=w17 at BK304 HB hHeld⊢
            refine pure_ (i:=1) (N:=some 10) (v:= ?_) (a':= ?_) #[false,true,false,false,false,false,false,false,false,false] rfl rfl (any_of HT_.out (by kernel_rfl)) (fun _ _ _ h=>h) (Or.inl ⟨by rfl,?_⟩) ?_ ?_
            rotate_left
            · intro w'
              go_simp
              with_reducible rfl
            rotate_left
            · simp only[Act.put,List.setIfInBounds_toArray,List.set_cons_zero,List.set_cons_succ,i64_w,i32_w]
              rfl
            refine pure_ (i:=5) (N:=some 14) (v:= ?_) (a':= ?_) #[false,true,false,false,false,true,false,false,false,false] rfl rfl (any_of HT_.out (by kernel_rfl)) (fun _ _ _ h=>h) (Or.inl ⟨by rfl,?_⟩) ?_ ?_
            rotate_left
            · intro w'
              go_simp
              with_reducible rfl
            rotate_left
            · simp only[Act.put,List.setIfInBounds_toArray,List.set_cons_zero,List.set_cons_succ,i64_w,i32_w]
              rfl
            refine inv_at [0,2,3,4,6,7,8,9] (fun a0_ b a w'=> ∃ (v307:Value) (adz_v307:Addr) (m3_:Value),a=putSel a0_ b [(0,9,v307),(2,11,.int .i64 a0_0),(3,12,m3_),(4,13,.string (rdOf ByteArray.empty y306 a0_0)),(6,15,.int .i64 a0_1),(7,16,.string t310),(8,17,.string ((rdOf ByteArray.empty y306 a0_0)++t310)),(9,2,.string ((rdOf ByteArray.empty y306 a0_0)++t310))]∧(w'.heap[gb304]?=some (.cells #[.int .i64 a0_0,.int .i64 a0_1] 25 (0,0)))∧(Below w.heap.size w w')∧(b 0=true→Kd.R Kd.string 9 w' w.heap.size (fun _=>True) v307 y306)∧(b 0=true→ ∃c_,(v307:Value)= .slice (some adz_v307) y306.length c_)∧(b 3=true→(m3_:Value)= .pointer (some (adz_v307.add (a0_0).toNat)))) HT_.out HW_.out (by kernel_rfl) (by kernel_rfl) ?_ ?_ ?_
            · exact⟨.bool false,⟨0,0,none⟩,.bool false,by simp only[putSel,Bool.false_eq_true,if_false],BK304.out,HB.out,fun h_=>absurd h_ (by decide),fun h_=>absurd h_ (by decide),fun h_=>absurd h_ (by decide)⟩
            · skip
              clear BK304 HB;refine steps_cons ?_ ?_
              · rintro b a w' ⟨v307,adz_v307,m3_,ha,Q_BK304,Q_HB,Q_HO308,Q_HA_HO308,Q_X3_⟩ hb_ hon hoff
                refine⟨_,rfl,fun K hK=> ?_⟩
                replace ha:=Aside0.mk ha;have BK304:=Aside0.mk Q_BK304;have HB:=Aside0.mk Q_HB;refine Kd.R_lit_step Kd.string _ 9 ?hg (N:=9) ?hd (xs:=([(⟨#[]⟩:ByteArray),(⟨#[110]⟩:ByteArray),(⟨#[97]⟩:ByteArray),(⟨#[114]⟩:ByteArray)]:List ByteArray)) (inner:=[.string (⟨#[]⟩:ByteArray),.string (⟨#[110]⟩:ByteArray),.string (⟨#[97]⟩:ByteArray),.string (⟨#[114]⟩:ByteArray)]) (ok:=fun _=>True) (okp:=fun _=>True) ?hr ?hp (fun _ hk=>hk) trivial (Below.refl _ _) (Nat.le_refl _) (by simp) ?_;(case hd=>rfl);(case hg=>rfl);(case hr=>first|(go_simp;done)|(go_simp;rfl));(case hp=>exact(Reps.one (show Kd.M Kd.string _ _ _ (⟨#[]⟩:ByteArray) [.string (⟨#[]⟩:ByteArray)]from rfl) (Reps.one (show Kd.M Kd.string _ _ _ (⟨#[110]⟩:ByteArray) [.string (⟨#[110]⟩:ByteArray)]from rfl) (Reps.one (show Kd.M Kd.string _ _ _ (⟨#[97]⟩:ByteArray) [.string (⟨#[97]⟩:ByteArray)]from rfl) (Reps.one (show Kd.M Kd.string _ _ _ (⟨#[114]⟩:ByteArray) [.string (⟨#[114]⟩:ByteArray)]from rfl) (Reps.none _ _))))))
                intro v307 w18 ho19 hb hg_ hnew_;clear hg_ hnew_;(first|rw[←Ny306.out]at ho19|(simp only[Int.reduceToNat]at ho19;rw[←Ny306.out]at ho19))
                have n0_:=Aside0.mk (Kd.R_lower ho19 (below_size (by repeat(first|(with_reducible first|exact HB.out|apply below_alloc|apply pw_below_drewN|apply below_drew1|refine below_set ?_ GE304.out)|exact HB.out))))
                have n1_:=Aside0.mk (blk_below (g:=gb304) (o:=.cells #[.int .i64 a0_0,.int .i64 a0_1] 25 (0,0)) (by(with_reducible repeat(first|refine blk_drewN ?_ _|refine blk_drew ?_|refine blk_alloc ?_ _));exact BK304.out) hb)
                have n2_:=Aside0.mk (below_step (by repeat(first|(with_reducible first|exact HB.out|apply below_alloc|apply pw_below_drewN|apply below_drew1|refine below_set ?_ GE304.out)|exact HB.out)) hb)
                clear BK304;clear HB;have HO308:=n0_;have BK304:=n1_;have HB:=n2_;clear n0_ n1_ n2_;clear hb ho19;obtain⟨Ao20,co20,eo20⟩:=Kd.R_slice HO308.out;subst eo20;obtain⟨ado20,fo20,_⟩:=Kd.at_string (Kd.R_reads' HO308.out).2.2 0 (by decide) (by rw[Ny306.out];simp)
                cases fo20
                refine hK.out _ _ ⟨.slice (some ado20) y306.length co20,ado20,m3_,(by rw[ha.out];exact putSel_upk 0 hb_ rfl rfl rfl),(by(with_reducible repeat(first|refine blk_drewN ?_ _|refine blk_drew ?_|refine blk_alloc ?_ _));exact BK304.out),(by repeat(first|(with_reducible first|exact HB.out|apply below_alloc|apply pw_below_drewN|apply below_drew1|refine below_set ?_ GE304.out)|exact HB.out)),fun _=>(by(with_reducible repeat(first|apply Kd.R_alloc|apply Kd.R_drewN|apply Kd.R_drew));exact HO308.out),fun _=>⟨_,rfl⟩,fun h0_=>absurd ((hoff 3 (by kernel_rfl)).symm.trans h0_) (by decide)⟩
              refine steps_cons ?_ ?_
              · rintro b a w' ⟨v307,adz_v307,m3_,ha,Q_BK304,Q_HB,Q_HO308,Q_HA_HO308,Q_X3_⟩ hb_ hon hoff
                refine⟨_,rfl,fun K hK=> ?_⟩
                have e10:a.tmps[10]?=some (.pointer (some ⟨gb304,0,none⟩)):=by rw[ha];exact(putSel_off rfl).trans rfl
                replace ha:=Aside0.mk ha;have BK304:=Aside0.mk Q_BK304;have HB:=Aside0.mk Q_HB;have hc0_:w'.cell? ⟨gb304,0,none⟩=some (.int .i64 a0_0):=(blk_cell BK304.out 0).trans rfl;have hc1_:w'.cell? ⟨gb304,1,none⟩=some (.int .i64 a0_1):=(blk_cell BK304.out 1).trans rfl;refine value_ (w1:=w') (v:=.int .i64 a0_0) (by rfl) rfl ?_ ?_
                · go_simp
                  (try simp only[i64_w])
                  try rfl
                refine hK.out _ _ ⟨v307,adz_v307,m3_,(by rw[ha.out];exact putSel_upk 1 hb_ rfl rfl rfl),Q_BK304,Q_HB,Q_HO308,Q_HA_HO308,fun h0_=>absurd ((hoff 3 (by kernel_rfl)).symm.trans h0_) (by decide)⟩
              refine steps_cons ?_ ?_
              · rintro b a w' ⟨v307,adz_v307,m3_,ha,Q_BK304,Q_HB,Q_HO308,Q_HA_HO308,Q_X3_⟩ hb_ hon hoff
                refine⟨_,rfl,fun K hK=> ?_⟩
                have e9:a.tmps[9]?=some (v307):=by rw[ha];exact putSel_on (e:=(0,9,v307)) 0 rfl rfl (hon 0 (by kernel_rfl)) rfl
                have e11:a.tmps[11]?=some (.int .i64 a0_0):=by rw[ha];exact putSel_on (e:=(2,11,.int .i64 a0_0)) 1 rfl rfl (hon 2 (by kernel_rfl)) rfl
                replace ha:=Aside0.mk ha;have BK304:=Aside0.mk Q_BK304;have HB:=Aside0.mk Q_HB;have HO308:=Aside0.mk (Q_HO308 (hon 0 (by kernel_rfl)))
                have HA_HO308:=Aside0.mk (Q_HA_HO308 (hon 0 (by kernel_rfl)))
                obtain⟨c_,hv_⟩:=HA_HO308.out;rw[hv_]at e9
                refine value_ (w1:=w') (v:=.pointer (some (adz_v307.add (a0_0).toNat))) (by rfl) rfl ?_ ?_
                · go_simp
                  (try simp only[i64_w])
                  try rfl
                refine hK.out _ _ ⟨v307,adz_v307,(.pointer (some (adz_v307.add (a0_0).toNat))),(by rw[ha.out];exact putSel_upk 2 hb_ rfl rfl rfl),Q_BK304,Q_HB,Q_HO308,Q_HA_HO308,fun _=>rfl⟩
              refine steps_cons ?_ ?_
              · rintro b a w' ⟨v307,adz_v307,m3_,ha,Q_BK304,Q_HB,Q_HO308,Q_HA_HO308,Q_X3_⟩ hb_ hon hoff
                refine⟨_,rfl,fun K hK=> ?_⟩
                have e12:a.tmps[12]?=some (m3_):=by rw[ha];exact putSel_on (e:=(3,12,m3_)) 2 rfl rfl (hon 3 (by kernel_rfl)) rfl
                rw[Q_X3_ (hon 3 (by kernel_rfl))]at e12
                replace ha:=Aside0.mk ha;have BK304:=Aside0.mk Q_BK304;have HB:=Aside0.mk Q_HB;have HO308:=Aside0.mk (Q_HO308 (hon 0 (by kernel_rfl)))
                have HA_HO308:=Aside0.mk (Q_HA_HO308 (hon 0 (by kernel_rfl)))
                obtain⟨c_,hv_⟩:=HA_HO308.out;have hF_:=HO308.out;rw[hv_]at hF_
                obtain⟨ad_,ea_,hx_⟩:=Kd.at_string (Kd.R_reads' hF_).2.2 a0_0 (of_eq_true pi309) (of_eq_true qi309);cases ea_
                refine value_ (w1:=w') (v:=.string (rdOf ByteArray.empty y306 a0_0)) (by rfl) rfl ?_ ?_
                · go_simp
                  (try simp only[i64_w])
                  try rfl
                refine hK.out _ _ ⟨v307,adz_v307,m3_,(by rw[ha.out];exact putSel_upk 3 hb_ rfl rfl rfl),Q_BK304,Q_HB,Q_HO308,Q_HA_HO308,Q_X3_⟩
              refine steps_cons ?_ ?_
              · rintro b a w' ⟨v307,adz_v307,m3_,ha,Q_BK304,Q_HB,Q_HO308,Q_HA_HO308,Q_X3_⟩ hb_ hon hoff
                refine⟨_,rfl,fun K hK=> ?_⟩
                have e14:a.tmps[14]?=some (.pointer (some ⟨gb304,1,none⟩)):=by rw[ha];exact(putSel_off rfl).trans rfl
                replace ha:=Aside0.mk ha;have BK304:=Aside0.mk Q_BK304;have HB:=Aside0.mk Q_HB;have hc0_:w'.cell? ⟨gb304,0,none⟩=some (.int .i64 a0_0):=(blk_cell BK304.out 0).trans rfl;have hc1_:w'.cell? ⟨gb304,1,none⟩=some (.int .i64 a0_1):=(blk_cell BK304.out 1).trans rfl;refine value_ (w1:=w') (v:=.int .i64 a0_1) (by rfl) rfl ?_ ?_
                · go_simp
                  (try simp only[i64_w])
                  try rfl
                refine hK.out _ _ ⟨v307,adz_v307,m3_,(by rw[ha.out];exact putSel_upk 4 hb_ rfl rfl rfl),Q_BK304,Q_HB,Q_HO308,Q_HA_HO308,Q_X3_⟩
              refine steps_cons ?_ ?_
              · rintro b a w' ⟨v307,adz_v307,m3_,ha,Q_BK304,Q_HB,Q_HO308,Q_HA_HO308,Q_X3_⟩ hb_ hon hoff
                refine⟨_,rfl,fun K hK=> ?_⟩
                have e15:a.tmps[15]?=some (.int .i64 a0_1):=by rw[ha];exact putSel_on (e:=(6,15,.int .i64 a0_1)) 4 rfl rfl (hon 6 (by kernel_rfl)) rfl
                replace ha:=Aside0.mk ha;have BK304:=Aside0.mk Q_BK304;have HB:=Aside0.mk Q_HB;refine goes_ Tryd.func43 (by kernel_rfl) rfl #[.int .i64 a0_1] (by rfl) rfl rfl (by first|(simp only[List.map_toArray,List.map_cons,List.map_nil,Act.eval,Array.getD_eq_getD_getElem?,Option.getD_some,e15];done)|(simp only[List.map_toArray,List.map_cons,List.map_nil,Act.eval,Array.getD_eq_getD_getElem?,Option.getD_some,e15];rfl)) ?_
                with_reducible refine(spec_l6Dec.calls k a0_1 t310 _ A11.out).mono ?_
                rintro e w18 ⟨rfl,hb⟩
                refine⟨_,rfl,?_⟩
                have n0_:=Aside0.mk (blk_below (g:=gb304) (o:=.cells #[.int .i64 a0_0,.int .i64 a0_1] 25 (0,0)) (by(with_reducible repeat(first|refine blk_drewN ?_ _|refine blk_drew ?_|refine blk_alloc ?_ _));exact BK304.out) hb)
                have n1_:=Aside0.mk (below_step (by repeat(first|(with_reducible first|exact HB.out|apply below_alloc|apply pw_below_drewN|apply below_drew1|refine below_set ?_ GE304.out)|exact HB.out)) hb)
                have z_HO308:=fun (h0_:b 0=true)=>(show Kd.R Kd.string 9 w18 w.heap.size (fun _=>True) v307 y306 from by first|exact(Kd.R_below (by(with_reducible repeat(first|apply Kd.R_alloc|apply Kd.R_drewN|apply Kd.R_drew));exact(Q_HO308 h0_)) hb)|exact Kd.R_mono (Kd.R_below (by(with_reducible repeat(first|apply Kd.R_alloc|apply Kd.R_drewN|apply Kd.R_drew));exact(Q_HO308 h0_)) hb) (fun _ h_=>by first|trivial|exact h_|exact h_.1))
                clear BK304;clear HB;have BK304:=n0_;have HB:=n1_;clear n0_ n1_;(try clear hb)
                (try clear hb2)
                (try clear hk)
                (try clear hi)
                refine hK.out _ _ ⟨v307,adz_v307,m3_,(by rw[ha.out];exact putSel_upk 5 hb_ rfl rfl rfl),(by(with_reducible repeat(first|refine blk_drewN ?_ _|refine blk_drew ?_|refine blk_alloc ?_ _));exact BK304.out),(by repeat(first|(with_reducible first|exact HB.out|apply below_alloc|apply pw_below_drewN|apply below_drew1|refine below_set ?_ GE304.out)|exact HB.out)),z_HO308,Q_HA_HO308,Q_X3_⟩
              refine steps_cons ?_ ?_
              · rintro b a w' ⟨v307,adz_v307,m3_,ha,Q_BK304,Q_HB,Q_HO308,Q_HA_HO308,Q_X3_⟩ hb_ hon hoff
                refine⟨_,rfl,fun K hK=> ?_⟩
                have e13:a.tmps[13]?=some (.string (rdOf ByteArray.empty y306 a0_0)):=by rw[ha];exact putSel_on (e:=(4,13,.string (rdOf ByteArray.empty y306 a0_0))) 3 rfl rfl (hon 4 (by kernel_rfl)) rfl
                have e16:a.tmps[16]?=some (.string t310):=by rw[ha];exact putSel_on (e:=(7,16,.string t310)) 5 rfl rfl (hon 7 (by kernel_rfl)) rfl
                replace ha:=Aside0.mk ha;have BK304:=Aside0.mk Q_BK304;have HB:=Aside0.mk Q_HB;have HO308:=Aside0.mk (Q_HO308 (hon 0 (by kernel_rfl)))
                have HA_HO308:=Aside0.mk (Q_HA_HO308 (hon 0 (by kernel_rfl)))
                refine value_ (w1:=w') (v:=.string ((rdOf ByteArray.empty y306 a0_0)++t310)) (by rfl) rfl ?_ ?_
                · go_simp
                  (try simp only[i64_w])
                  try rfl
                refine hK.out _ _ ⟨v307,adz_v307,m3_,(by rw[ha.out];exact putSel_upk 6 hb_ rfl rfl rfl),Q_BK304,Q_HB,Q_HO308,Q_HA_HO308,Q_X3_⟩
              refine steps_cons ?_ ?_
              · rintro b a w' ⟨v307,adz_v307,m3_,ha,Q_BK304,Q_HB,Q_HO308,Q_HA_HO308,Q_X3_⟩ hb_ hon hoff
                refine⟨_,rfl,fun K hK=> ?_⟩
                have e17:a.tmps[17]?=some (.string ((rdOf ByteArray.empty y306 a0_0)++t310)):=by rw[ha];exact putSel_on (e:=(8,17,.string ((rdOf ByteArray.empty y306 a0_0)++t310))) 6 rfl rfl (hon 8 (by kernel_rfl)) rfl
                replace ha:=Aside0.mk ha;have BK304:=Aside0.mk Q_BK304;have HB:=Aside0.mk Q_HB;have HO308:=Aside0.mk (Q_HO308 (hon 0 (by kernel_rfl)))
                have HA_HO308:=Aside0.mk (Q_HA_HO308 (hon 0 (by kernel_rfl)))
                refine value_ (w1:=w') (v:=.string ((rdOf ByteArray.empty y306 a0_0)++t310)) (by rfl) rfl ?_ ?_
                · go_simp
                  (try simp only[i64_w])
                  try rfl
                refine hK.out _ _ ⟨v307,adz_v307,m3_,(by rw[ha.out];exact putSel_upk 7 hb_ rfl rfl rfl),Q_BK304,Q_HB,Q_HO308,Q_HA_HO308,Q_X3_⟩
              exact steps_nil
            rintro b a w22 hall ⟨v307,adz_v307,m3_,ha,Q_BK304,Q_HB,Q_HO308,Q_HA_HO308,Q_X3_⟩
            clear BK304 HB;have hb0_:=hall 0 (by kernel_rfl)
            have hb2_:=hall 2 (by kernel_rfl)
            have hb3_:=hall 3 (by kernel_rfl)
            have hb4_:=hall 4 (by kernel_rfl)
            have hb6_:=hall 6 (by kernel_rfl)
            have hb7_:=hall 7 (by kernel_rfl)
            have hb8_:=hall 8 (by kernel_rfl)
            have hb9_:=hall 9 (by kernel_rfl)
            subst ha;obtain rfl:=Q_X3_ hb3_;simp only[putSel,hb0_,hb2_,hb3_,hb4_,hb6_,hb7_,hb8_,hb9_,if_true,Act.put,List.setIfInBounds_toArray,List.set_cons_zero,List.set_cons_succ]
            have BK304:=Aside0.mk Q_BK304;clear Q_BK304;have HB:=Aside0.mk Q_HB;clear Q_HB;have HO308:=Aside0.mk (Q_HO308 hb0_);clear Q_HO308;have HA_HO308:=Aside0.mk (Q_HA_HO308 hb0_);clear Q_HA_HO308;clear hall hb0_ hb2_ hb3_ hb4_ hb6_ hb7_ hb8_ hb9_;obtain⟨co23,eo23⟩:=HA_HO308.out;clear HA_HO308;subst eo23;try go_wp2
            go_ret
            exact⟨by first|rfl|(simp[errW_none,errW_some]<;>rfl)|(simp[*,errW_none,errW_some]<;>rfl),by repeat(first|(with_reducible first|exact HB.out|apply below_alloc|apply pw_below_drewN|apply below_drew1|refine below_set ?_ GE304.out)|exact HB.out)⟩
          · rw[if_neg c12]at H
            exact absurd H (by simp)
        · rw[if_neg c10]at H
          exact absurd H (by simp)
      · rw[if_neg c9]at H
        exact absurd H (by simp)
  · replace c3:=Bool.eq_false_iff.mpr c3
    subst c3;have H1:(some (⟨#[]⟩:ByteArray))=some r:=by rw[if_neg (show¬(false=true) by decide)]at H;exact H
    clear H;have H:=H1;clear H1;obtain rfl:=Option.some.inj H;go_enter Tryd.func17,Tryd.ntmps17
    go_wp2_with (first|((with_reducible refine gate_dst (N:=1) rfl ?_);refine box_event ?hg (N:=1) ?hd (cs:= #[.int .i64 a0_0,.int .i64 a0_1]) (t:=25) ?hr ?_;(case hd=>rfl);(case hg=>rfl);(case hr=>first|(go_simp;done)|(go_simp;rfl));intro gb304 hg w24 hbox hb;have n0_:=Aside0.mk (below_step (by repeat(first|(with_reducible first|exact HB.out|apply below_alloc|apply pw_below_drewN|apply below_drew1)|exact HB.out)) hb);have n1_:=Aside0.mk (hbox);have n2_:=Aside0.mk ((by rw[hg];exact(below_size (by repeat(first|(with_reducible first|exact HB.out|apply below_alloc|apply pw_below_drewN|apply below_drew1)|exact HB.out))):w.heap.size≤gb304));have n3_:=Aside0.mk ((by rw[hg];exact(below_size (by repeat(first|(with_reducible first|exact HB.out|apply below_alloc|apply pw_below_drewN|apply below_drew1)|exact HB.out))):w.heap.size≤gb304));clear HB;have HB:=n0_;have BK304:=n1_;have GW304:=n2_;have GE304:=n3_;clear n0_ n1_ n2_ n3_;clear hb hbox hg;have hcz25_0:w24.cell? ⟨gb304,0,none⟩=some (.int .i64 a0_0):=(blk_cell BK304.out 0).trans rfl;have hcz25_1:w24.cell? ⟨gb304,1,none⟩=some (.int .i64 a0_1):=(blk_cell BK304.out 1).trans rfl;have hfz25_0:=blk_frozen BK304.out 0;have hfz25_1:=blk_frozen BK304.out 1)|((with_reducible refine gate_callee (f:=42) rfl ?_);refine goesL_ (some 4) rfl rfl Tryd.func42 (by kernel_rfl) rfl #[.agg #[.int .i64 a0_0,.int .i64 a0_1]] rfl (by(try simp only[List.map_toArray,List.map_cons,List.map_nil]);first|done|rfl|(simp only[List.length_drop,List.length_take];rfl)) ?_;(with_reducible refine(spec_ValOk.calls a0_0 a0_1 false _ A2.out).mono ?_);rintro e w26 ⟨rfl,hb⟩;refine⟨_,rfl,?_⟩;have n0_:=Aside0.mk (blk_below (g:=gb304) (o:=.cells #[.int .i64 a0_0,.int .i64 a0_1] 25 (0,0)) (by(with_reducible repeat(first|refine blk_drewN ?_ _|refine blk_drew ?_|refine blk_alloc ?_ _));exact BK304.out) hb);have n1_:=Aside0.mk (below_step (by repeat(first|(with_reducible first|exact HB.out|apply below_alloc|apply pw_below_drewN|apply below_drew1|refine below_set ?_ GE304.out)|exact HB.out)) hb);clear BK304;clear HB;have BK304:=n0_;have HB:=n1_;clear n0_ n1_;(try clear hb);(try clear hb2);(try clear hk);(try clear hi)))
    go_ret
    exact⟨by first|rfl|(simp[errW_none,errW_some]<;>rfl)|(simp[*,errW_none,errW_some]<;>rfl),by repeat(first|(with_reducible first|exact HB.out|apply below_alloc|apply pw_below_drewN|apply below_drew1|refine below_set ?_ GE304.out)|exact HB.out)⟩
end Go.Proofs.YtmklpbmlgjkbiaaDoor.PS
end
section
namespace Go.Proofs.YtmklpbmlgjkbiaaDoor.PS
open Go.RowKit Go.Proofs.YtmklpbmlgjkbiaaDoorW.PrintWords Go.Proofs.YtmklpbmlgjkbiaaDoorW.PrintLast
def namesL:List ByteArray:=[⟨#[]⟩,⟨#[115,101,116]⟩,⟨#[109,111,118,101]⟩,⟨#[97,100,100]⟩,⟨#[115,101,108,102]⟩,⟨#[98,101,103,105,110]⟩,⟨#[115,101,110,100]⟩,⟨#[116,97,107,101]⟩,⟨#[97,102,116,101,114]⟩,⟨#[103,111]⟩,⟨#[105,102]⟩,⟨#[108,105,110,107]⟩,⟨#[119,97,116,99,104]⟩,⟨#[116,114,97,112]⟩,⟨#[101,110,100]⟩]
def nameB (k:Int):ByteArray:=rdOf ByteArray.empty namesL k
theorem names_calls (k:Int) (hk:0≤k) (hk2:k<15) (W:World):Calls Tryd.prog 50 #[] W fun e w'=> ∃g c,e= .returned (.slice (some ⟨g,0,none⟩) 15 c)∧Below W.heap.size W w'∧w'.cell? ⟨g,k.toNat,none⟩=some (.string (nameB k)):=by
  refine(spec_l2Names.calls namesL W rfl).mono ?_
  rintro e w' ⟨v,rfl,hR,hb⟩
  obtain⟨g,cap,e,_⟩:=Kd.R_form hR (by decide)
  rw[e]at hR⊢
  exact⟨g,cap,rfl,hb,(Kd.R_celln ByteArray.empty hR k hk hk2).1⟩
def addN (b:Bool) (out:ByteArray) (n:Int):Option ByteArray:=if b=true then(spec_l6Dec.f 8 n).bind fun x=>if x.size≤100 then some ((out++⟨#[32]⟩)++x)else none else some out
def addV (b:Bool) (out:ByteArray) (vk vn:Int):Option ByteArray:=if b=true then(spec_ValText.f 8 vk vn).bind fun x=>if x.size≤100 then some ((out++⟨#[32]⟩)++x)else none else some out
def otextV.f (k r s t vk vn:Int):Option ByteArray:=
  if opB k r s t vk vn=true then(addN (hasR k) (nameB k) r).bind fun o1=>(addN (hasS k) o1 s).bind fun o2=>(addN (hasT k) o2 t).bind fun o3=>addV (hasV k) o3 vk vn else some ⟨#[]⟩
theorem addN_some {b:Bool} {out o1:ByteArray} {n:Int} (h:addN b out n=some o1):(b=false∧o1=out)∨(b=true∧ ∃x,spec_l6Dec.f 8 n=some x∧x.size≤100∧o1=(out++⟨#[32]⟩)++x):=by
  unfold addN at h;cases b with
  |false=>exact .inl ⟨rfl,by simpa using h.symm⟩
  |true=>
    right
    rw[if_pos rfl]at h
    obtain⟨x,hx,h⟩:=Option.bind_eq_some_iff.1 h;split at h
    · exact⟨rfl,x,hx,by assumption,(Option.some.inj h).symm⟩
    · cases h
theorem addV_some {b:Bool} {out o1:ByteArray} {k n:Int} (h:addV b out k n=some o1):(b=false∧o1=out)∨(b=true∧ ∃x,spec_ValText.f 8 k n=some x∧x.size≤100∧o1=(out++⟨#[32]⟩)++x):=by
  unfold addV at h;cases b with
  |false=>exact .inl ⟨rfl,by simpa using h.symm⟩
  |true=>
    right
    rw[if_pos rfl]at h
    obtain⟨x,hx,h⟩:=Option.bind_eq_some_iff.1 h;split at h
    · exact⟨rfl,x,hx,by assumption,(Option.some.inj h).symm⟩
    · cases h
theorem text_no (k r s t vk vn:Int) (w:World) (h:opB k r s t vk vn=false):
    Calls Tryd.prog 22 #[.agg #[.int .i64 k,.int .i64 r,.int .i64 s,.int .i64 t,.int .i64 vk,.int .i64 vn]] w fun e w'=>e= .returned (.string ⟨#[]⟩)∧Below w.heap.size w w':=by
  have hOk:=fun W:World=>spec_OpOk.calls k r s t vk vn false W (by unfold opV.f;rw[h])
  clear h;go_enter Tryd.func22,Tryd.ntmps22
  go_wp2_with (go_at_call 48;refine(hOk _).mono ?_;rintro e w' ⟨rfl,hb⟩)
  go_ret
  exact⟨rfl,below_step (below_alloc (Below.refl _ _) _) hb⟩
theorem text_walk (k r s t vk vn:Int) (w:World) (hop:opB k r s t vk vn=true) (nm xR xS xT xV:ByteArray) (hk:1≤k∧k≤14) (hnm:nm=nameB k) (hsz:nm.size≤100∧xR.size≤100∧xS.size≤100∧xT.size≤100∧xV.size≤100)
    (bR bS bT bV:Bool) (eR:bR=hasR k) (eS:bS=hasS k) (eT:bT=hasT k) (eV:bV=hasV k)
    (hR:bR=true→spec_l6Dec.f 8 r=some xR) (hS:bS=true→spec_l6Dec.f 8 s=some xS) (hT:bT=true→spec_l6Dec.f 8 t=some xT) (hV:bV=true→spec_ValText.f 8 vk vn=some xV)
    (o1 o2 o3 o4:ByteArray) (h1:o1=if bR=true then(nm++⟨#[32]⟩)++xR else nm) (h2:o2=if bS=true then(o1++⟨#[32]⟩)++xS else o1) (h3:o3=if bT=true then(o2++⟨#[32]⟩)++xT else o2) (h4:o4=if bV=true then(o3++⟨#[32]⟩)++xV else o3):
    Calls Tryd.prog 22 #[.agg #[.int .i64 k,.int .i64 r,.int .i64 s,.int .i64 t,.int .i64 vk,.int .i64 vn]] w fun e w'=>e= .returned (.string o4)∧Below w.heap.size w w':=by
  have hOk:=fun W:World=>spec_OpOk.calls k r s t vk vn true W (by unfold opV.f;rw[hop])
  have hFo:=fun W:World=>form_calls hk W
  rw[←eR,←eS,←eT,←eV]at hFo
  have hNa:=fun W:World=>names_calls k (by omega) (by omega) W
  rw[←hnm]at hNa
  obtain⟨hk1,hk2⟩:=hk;have hk0:0≤k:=by omega
  have hk15:k<15:=by omega
  have BK:Aside0 ((w.alloc (.cells #[.int .i64 k,.int .i64 r,.int .i64 s,.int .i64 t,.int .i64 vk,.int .i64 vn] 35)).heap[w.heap.size]?=some (.cells #[.int .i64 k,.int .i64 r,.int .i64 s,.int .i64 t,.int .i64 vk,.int .i64 vn] 35 (0,0))):=⟨blk_new _ _⟩;have HB:=Aside0.mk (below_alloc (Below.refl w.heap.size w) (.cells #[.int .i64 k,.int .i64 r,.int .i64 s,.int .i64 t,.int .i64 vk,.int .i64 vn] 35));have H:=Aside0.mk (show _∧_∧_∧_∧_∧_∧_∧_∧_ from⟨h1,h2,h3,h4,hR,hS,hT,hV,hsz⟩)
  clear hop hnm eR eS eT eV hR hS hT hV h1 h2 h3 h4 hsz;go_enter Tryd.func22,Tryd.ntmps22
  go_wp2_with (first|(go_at_call 48;refine(hOk _).mono ?_;rintro e w1 ⟨rfl,hb⟩;have BK1:=Aside0.mk (blk_below BK.out hb);have HB1:=Aside0.mk (below_step HB.out hb);clear hb;have q0:w1.cell? ⟨w.heap.size,0,none⟩=some (.int .i64 k):=(blk_cell BK1.out 0).trans rfl)|(go_at_call 49;refine(hFo _).mono ?_;rintro e w2 ⟨gf,cf,rfl,hb,gl,f0,f1,f2,f3⟩;have BK2:=Aside0.mk (blk_below BK1.out hb);have HB2:=Aside0.mk (below_step HB1.out hb);clear hb))
  have q2:w2.cell? ⟨w.heap.size,0,none⟩=some (.int .i64 k):=(blk_cell BK2.out 0).trans rfl;have hbl:Below w2.heap.size w2 w2.drew:=below_drew (Below.refl _ _);have q3:w2.drew.cell? ⟨w.heap.size,0,none⟩=some (.int .i64 k):=q2;go_region_with (first|(go_at_call 50;refine(hNa _).mono ?_;rintro e w3 ⟨gn,cn,rfl,hb,n0⟩;have q9:w3.cell? ⟨w.heap.size,0,none⟩=some (.int .i64 k):=(hb.cell (World.block_lt_of_cell? _ _ (by first|exact q2|exact q3))).trans (by first|exact q2|exact q3)))
  all_goals
    have hH2:Below w2.heap.size w2 w3:=below_step hbl hb;have BK3:=Aside0.mk (blk_below BK2.out hH2);have HB3:=Aside0.mk (below_step HB2.out hH2);have g0:=(hH2.cell (World.block_lt_of_cell? _ _ f0)).trans f0;have g1:=(hH2.cell (World.block_lt_of_cell? _ _ f1)).trans f1;have g2:=(hH2.cell (World.block_lt_of_cell? _ _ f2)).trans f2;have g3:=(hH2.cell (World.block_lt_of_cell? _ _ f3)).trans f3;clear f0 f1 f2 f3 q0 q2 q3 q9 hbl hOk hFo hNa n0 hH2 hb;obtain⟨h1,h2,h3,h4,hR,hS,hT,hV,z0,zR,zS,zT,zV⟩:=H.out;clear H;cases bR with
    |false=>
      have k0:o1=nm:=by simpa using h1
      clear h1 hR;subst k0;go_upto_region 7 with (fail)
      cases bS with
      |false=>
        have k1:o2=o1:=by simpa using h2
        clear h2 hS;subst k1;go_upto_region 9 with (fail)
        cases bT with
        |false=>
          have k2:o3=o2:=by simpa using h3
          clear h3 hT;subst k2;go_upto_region 11 with (fail)
          cases bV with
          |false=>
            have k3:o4=o3:=by simpa using h4
            clear h4 hV;subst k3;go_wp2
            go_ret
            exact⟨rfl,HB3.out⟩
          |true=>
            have k3:o4=(o3++⟨#[32]⟩)++xV:=by simpa using h4
            have K3:=Aside0.mk k3;have dc:=fun W:World=>spec_ValText.calls 8 vk vn xV W (hV rfl)
            have zs:(o3++(⟨#[32]⟩:ByteArray)).size=o3.size+1:=by rw[ByteArray.size_append];rfl
            have zo:o4.size≤201:=by rw[k3,ByteArray.size_append,zs];omega
            have da1:decide (o3.size+1≤9223372036854775807)=true:=decide_eq_true (by omega)
            have da2:(9223372036854775807<o3.size+1)=False:=eq_false (by omega)
            have da3:(o3.size+1≤9223372036854775807)=True:=eq_true (by omega)
            have db1:decide ((o3++(⟨#[32]⟩:ByteArray)).size+xV.size≤9223372036854775807)=true:=decide_eq_true (by rw[zs];omega)
            have db2:(9223372036854775807<(o3++(⟨#[32]⟩:ByteArray)).size+xV.size)=False:=eq_false (by rw[zs];omega)
            have db3:((o3++(⟨#[32]⟩:ByteArray)).size+xV.size≤9223372036854775807)=True:=eq_true (by rw[zs];omega)
            have dc1:decide (o3.size+1+xV.size≤9223372036854775807)=true:=decide_eq_true (by omega)
            have dc2:(9223372036854775807<o3.size+1+xV.size)=False:=eq_false (by omega)
            have dc3:(o3.size+1+xV.size≤9223372036854775807)=True:=eq_true (by omega)
            have c0:w3.cell? ⟨w.heap.size,4,none⟩=some (.int .i64 vk):=(blk_cell BK3.out 4).trans rfl;have c1:w3.cell? ⟨w.heap.size,5,none⟩=some (.int .i64 vn):=(blk_cell BK3.out 5).trans rfl;clear h4 hV k3 zs;go_wp2_with (go_at_call 17;refine(dc _).mono ?_;rintro e w4 ⟨rfl,hb⟩;have BK4:=Aside0.mk (blk_below BK3.out hb);have HB4:=Aside0.mk (below_step HB3.out hb);clear hb BK3 HB3)
            go_ret
            exact⟨by rw[K3.out];rfl,HB4.out⟩
        |true=>
          have k2:o3=(o2++⟨#[32]⟩)++xT:=by simpa using h3
          have K2:=Aside0.mk k2;have dc:=fun W:World=>spec_l6Dec.calls 8 t xT W (hT rfl)
          have zs:(o2++(⟨#[32]⟩:ByteArray)).size=o2.size+1:=by rw[ByteArray.size_append];rfl
          have zo:o3.size≤201:=by rw[k2,ByteArray.size_append,zs];omega
          have da1:decide (o2.size+1≤9223372036854775807)=true:=decide_eq_true (by omega)
          have da2:(9223372036854775807<o2.size+1)=False:=eq_false (by omega)
          have da3:(o2.size+1≤9223372036854775807)=True:=eq_true (by omega)
          have db1:decide ((o2++(⟨#[32]⟩:ByteArray)).size+xT.size≤9223372036854775807)=true:=decide_eq_true (by rw[zs];omega)
          have db2:(9223372036854775807<(o2++(⟨#[32]⟩:ByteArray)).size+xT.size)=False:=eq_false (by rw[zs];omega)
          have db3:((o2++(⟨#[32]⟩:ByteArray)).size+xT.size≤9223372036854775807)=True:=eq_true (by rw[zs];omega)
          have dc1:decide (o2.size+1+xT.size≤9223372036854775807)=true:=decide_eq_true (by omega)
          have dc2:(9223372036854775807<o2.size+1+xT.size)=False:=eq_false (by omega)
          have dc3:(o2.size+1+xT.size≤9223372036854775807)=True:=eq_true (by omega)
          have c0:w3.cell? ⟨w.heap.size,3,none⟩=some (.int .i64 t):=(blk_cell BK3.out 3).trans rfl;clear h3 hT k2 zs;go_upto_region 11 with (go_at_call 43;refine(dc _).mono ?_;rintro e w4 ⟨rfl,hb⟩;have BK4:=Aside0.mk (blk_below BK3.out hb);have HB4:=Aside0.mk (below_step HB3.out hb);have g3_:=(hb.cell (World.block_lt_of_cell? _ _ g3)).trans g3;clear g3;have g3:=g3_;clear g3_;clear hb BK3 HB3)
          rw[←K2.out];clear dc da1 da2 da3 db1 db2 db3 dc1 dc2 dc3 c0;cases bV with
          |false=>
            have k3:o4=o3:=by simpa using h4
            clear h4 hV;subst k3;go_wp2
            go_ret
            exact⟨rfl,HB4.out⟩
          |true=>
            have k3:o4=(o3++⟨#[32]⟩)++xV:=by simpa using h4
            have K3:=Aside0.mk k3;have dc:=fun W:World=>spec_ValText.calls 8 vk vn xV W (hV rfl)
            have zs:(o3++(⟨#[32]⟩:ByteArray)).size=o3.size+1:=by rw[ByteArray.size_append];rfl
            have zo:o4.size≤302:=by rw[k3,ByteArray.size_append,zs];omega
            have da1:decide (o3.size+1≤9223372036854775807)=true:=decide_eq_true (by omega)
            have da2:(9223372036854775807<o3.size+1)=False:=eq_false (by omega)
            have da3:(o3.size+1≤9223372036854775807)=True:=eq_true (by omega)
            have db1:decide ((o3++(⟨#[32]⟩:ByteArray)).size+xV.size≤9223372036854775807)=true:=decide_eq_true (by rw[zs];omega)
            have db2:(9223372036854775807<(o3++(⟨#[32]⟩:ByteArray)).size+xV.size)=False:=eq_false (by rw[zs];omega)
            have db3:((o3++(⟨#[32]⟩:ByteArray)).size+xV.size≤9223372036854775807)=True:=eq_true (by rw[zs];omega)
            have dc1:decide (o3.size+1+xV.size≤9223372036854775807)=true:=decide_eq_true (by omega)
            have dc2:(9223372036854775807<o3.size+1+xV.size)=False:=eq_false (by omega)
            have dc3:(o3.size+1+xV.size≤9223372036854775807)=True:=eq_true (by omega)
            have c0:w4.cell? ⟨w.heap.size,4,none⟩=some (.int .i64 vk):=(blk_cell BK4.out 4).trans rfl;have c1:w4.cell? ⟨w.heap.size,5,none⟩=some (.int .i64 vn):=(blk_cell BK4.out 5).trans rfl;clear h4 hV k3 zs;go_wp2_with (go_at_call 17;refine(dc _).mono ?_;rintro e w5 ⟨rfl,hb⟩;have BK5:=Aside0.mk (blk_below BK4.out hb);have HB5:=Aside0.mk (below_step HB4.out hb);clear hb BK4 HB4)
            go_ret
            exact⟨by rw[K3.out];rfl,HB5.out⟩
      |true=>
        have k1:o2=(o1++⟨#[32]⟩)++xS:=by simpa using h2
        have K1:=Aside0.mk k1;have dc:=fun W:World=>spec_l6Dec.calls 8 s xS W (hS rfl)
        have zs:(o1++(⟨#[32]⟩:ByteArray)).size=o1.size+1:=by rw[ByteArray.size_append];rfl
        have zo:o2.size≤201:=by rw[k1,ByteArray.size_append,zs];omega
        have da1:decide (o1.size+1≤9223372036854775807)=true:=decide_eq_true (by omega)
        have da2:(9223372036854775807<o1.size+1)=False:=eq_false (by omega)
        have da3:(o1.size+1≤9223372036854775807)=True:=eq_true (by omega)
        have db1:decide ((o1++(⟨#[32]⟩:ByteArray)).size+xS.size≤9223372036854775807)=true:=decide_eq_true (by rw[zs];omega)
        have db2:(9223372036854775807<(o1++(⟨#[32]⟩:ByteArray)).size+xS.size)=False:=eq_false (by rw[zs];omega)
        have db3:((o1++(⟨#[32]⟩:ByteArray)).size+xS.size≤9223372036854775807)=True:=eq_true (by rw[zs];omega)
        have dc1:decide (o1.size+1+xS.size≤9223372036854775807)=true:=decide_eq_true (by omega)
        have dc2:(9223372036854775807<o1.size+1+xS.size)=False:=eq_false (by omega)
        have dc3:(o1.size+1+xS.size≤9223372036854775807)=True:=eq_true (by omega)
        have c0:w3.cell? ⟨w.heap.size,2,none⟩=some (.int .i64 s):=(blk_cell BK3.out 2).trans rfl;clear h2 hS k1 zs;go_upto_region 9 with (go_at_call 43;refine(dc _).mono ?_;rintro e w4 ⟨rfl,hb⟩;have BK4:=Aside0.mk (blk_below BK3.out hb);have HB4:=Aside0.mk (below_step HB3.out hb);have g2_:=(hb.cell (World.block_lt_of_cell? _ _ g2)).trans g2;clear g2;have g2:=g2_;clear g2_;have g3_:=(hb.cell (World.block_lt_of_cell? _ _ g3)).trans g3;clear g3;have g3:=g3_;clear g3_;clear hb BK3 HB3)
        rw[←K1.out];clear dc da1 da2 da3 db1 db2 db3 dc1 dc2 dc3 c0;cases bT with
        |false=>
          have k2:o3=o2:=by simpa using h3
          clear h3 hT;subst k2;go_upto_region 11 with (fail)
          cases bV with
          |false=>
            have k3:o4=o3:=by simpa using h4
            clear h4 hV;subst k3;go_wp2
            go_ret
            exact⟨rfl,HB4.out⟩
          |true=>
            have k3:o4=(o3++⟨#[32]⟩)++xV:=by simpa using h4
            have K3:=Aside0.mk k3;have dc:=fun W:World=>spec_ValText.calls 8 vk vn xV W (hV rfl)
            have zs:(o3++(⟨#[32]⟩:ByteArray)).size=o3.size+1:=by rw[ByteArray.size_append];rfl
            have zo:o4.size≤302:=by rw[k3,ByteArray.size_append,zs];omega
            have da1:decide (o3.size+1≤9223372036854775807)=true:=decide_eq_true (by omega)
            have da2:(9223372036854775807<o3.size+1)=False:=eq_false (by omega)
            have da3:(o3.size+1≤9223372036854775807)=True:=eq_true (by omega)
            have db1:decide ((o3++(⟨#[32]⟩:ByteArray)).size+xV.size≤9223372036854775807)=true:=decide_eq_true (by rw[zs];omega)
            have db2:(9223372036854775807<(o3++(⟨#[32]⟩:ByteArray)).size+xV.size)=False:=eq_false (by rw[zs];omega)
            have db3:((o3++(⟨#[32]⟩:ByteArray)).size+xV.size≤9223372036854775807)=True:=eq_true (by rw[zs];omega)
            have dc1:decide (o3.size+1+xV.size≤9223372036854775807)=true:=decide_eq_true (by omega)
            have dc2:(9223372036854775807<o3.size+1+xV.size)=False:=eq_false (by omega)
            have dc3:(o3.size+1+xV.size≤9223372036854775807)=True:=eq_true (by omega)
            have c0:w4.cell? ⟨w.heap.size,4,none⟩=some (.int .i64 vk):=(blk_cell BK4.out 4).trans rfl;have c1:w4.cell? ⟨w.heap.size,5,none⟩=some (.int .i64 vn):=(blk_cell BK4.out 5).trans rfl;clear h4 hV k3 zs;go_wp2_with (go_at_call 17;refine(dc _).mono ?_;rintro e w5 ⟨rfl,hb⟩;have BK5:=Aside0.mk (blk_below BK4.out hb);have HB5:=Aside0.mk (below_step HB4.out hb);clear hb BK4 HB4)
            go_ret
            exact⟨by rw[K3.out];rfl,HB5.out⟩
        |true=>
          have k2:o3=(o2++⟨#[32]⟩)++xT:=by simpa using h3
          have K2:=Aside0.mk k2;have dc:=fun W:World=>spec_l6Dec.calls 8 t xT W (hT rfl)
          have zs:(o2++(⟨#[32]⟩:ByteArray)).size=o2.size+1:=by rw[ByteArray.size_append];rfl
          have zo:o3.size≤302:=by rw[k2,ByteArray.size_append,zs];omega
          have da1:decide (o2.size+1≤9223372036854775807)=true:=decide_eq_true (by omega)
          have da2:(9223372036854775807<o2.size+1)=False:=eq_false (by omega)
          have da3:(o2.size+1≤9223372036854775807)=True:=eq_true (by omega)
          have db1:decide ((o2++(⟨#[32]⟩:ByteArray)).size+xT.size≤9223372036854775807)=true:=decide_eq_true (by rw[zs];omega)
          have db2:(9223372036854775807<(o2++(⟨#[32]⟩:ByteArray)).size+xT.size)=False:=eq_false (by rw[zs];omega)
          have db3:((o2++(⟨#[32]⟩:ByteArray)).size+xT.size≤9223372036854775807)=True:=eq_true (by rw[zs];omega)
          have dc1:decide (o2.size+1+xT.size≤9223372036854775807)=true:=decide_eq_true (by omega)
          have dc2:(9223372036854775807<o2.size+1+xT.size)=False:=eq_false (by omega)
          have dc3:(o2.size+1+xT.size≤9223372036854775807)=True:=eq_true (by omega)
          have c0:w4.cell? ⟨w.heap.size,3,none⟩=some (.int .i64 t):=(blk_cell BK4.out 3).trans rfl;clear h3 hT k2 zs;go_upto_region 11 with (go_at_call 43;refine(dc _).mono ?_;rintro e w5 ⟨rfl,hb⟩;have BK5:=Aside0.mk (blk_below BK4.out hb);have HB5:=Aside0.mk (below_step HB4.out hb);have g3_:=(hb.cell (World.block_lt_of_cell? _ _ g3)).trans g3;clear g3;have g3:=g3_;clear g3_;clear hb BK4 HB4)
          rw[←K2.out];clear dc da1 da2 da3 db1 db2 db3 dc1 dc2 dc3 c0;cases bV with
          |false=>
            have k3:o4=o3:=by simpa using h4
            clear h4 hV;subst k3;go_wp2
            go_ret
            exact⟨rfl,HB5.out⟩
          |true=>
            have k3:o4=(o3++⟨#[32]⟩)++xV:=by simpa using h4
            have K3:=Aside0.mk k3;have dc:=fun W:World=>spec_ValText.calls 8 vk vn xV W (hV rfl)
            have zs:(o3++(⟨#[32]⟩:ByteArray)).size=o3.size+1:=by rw[ByteArray.size_append];rfl
            have zo:o4.size≤403:=by rw[k3,ByteArray.size_append,zs];omega
            have da1:decide (o3.size+1≤9223372036854775807)=true:=decide_eq_true (by omega)
            have da2:(9223372036854775807<o3.size+1)=False:=eq_false (by omega)
            have da3:(o3.size+1≤9223372036854775807)=True:=eq_true (by omega)
            have db1:decide ((o3++(⟨#[32]⟩:ByteArray)).size+xV.size≤9223372036854775807)=true:=decide_eq_true (by rw[zs];omega)
            have db2:(9223372036854775807<(o3++(⟨#[32]⟩:ByteArray)).size+xV.size)=False:=eq_false (by rw[zs];omega)
            have db3:((o3++(⟨#[32]⟩:ByteArray)).size+xV.size≤9223372036854775807)=True:=eq_true (by rw[zs];omega)
            have dc1:decide (o3.size+1+xV.size≤9223372036854775807)=true:=decide_eq_true (by omega)
            have dc2:(9223372036854775807<o3.size+1+xV.size)=False:=eq_false (by omega)
            have dc3:(o3.size+1+xV.size≤9223372036854775807)=True:=eq_true (by omega)
            have c0:w5.cell? ⟨w.heap.size,4,none⟩=some (.int .i64 vk):=(blk_cell BK5.out 4).trans rfl;have c1:w5.cell? ⟨w.heap.size,5,none⟩=some (.int .i64 vn):=(blk_cell BK5.out 5).trans rfl;clear h4 hV k3 zs;go_wp2_with (go_at_call 17;refine(dc _).mono ?_;rintro e w6 ⟨rfl,hb⟩;have BK6:=Aside0.mk (blk_below BK5.out hb);have HB6:=Aside0.mk (below_step HB5.out hb);clear hb BK5 HB5)
            go_ret
            exact⟨by rw[K3.out];rfl,HB6.out⟩
    |true=>
      have k0:o1=(nm++⟨#[32]⟩)++xR:=by simpa using h1
      have K0:=Aside0.mk k0;have dc:=fun W:World=>spec_l6Dec.calls 8 r xR W (hR rfl)
      have zs:(nm++(⟨#[32]⟩:ByteArray)).size=nm.size+1:=by rw[ByteArray.size_append];rfl
      have zo:o1.size≤201:=by rw[k0,ByteArray.size_append,zs];omega
      have da1:decide (nm.size+1≤9223372036854775807)=true:=decide_eq_true (by omega)
      have da2:(9223372036854775807<nm.size+1)=False:=eq_false (by omega)
      have da3:(nm.size+1≤9223372036854775807)=True:=eq_true (by omega)
      have db1:decide ((nm++(⟨#[32]⟩:ByteArray)).size+xR.size≤9223372036854775807)=true:=decide_eq_true (by rw[zs];omega)
      have db2:(9223372036854775807<(nm++(⟨#[32]⟩:ByteArray)).size+xR.size)=False:=eq_false (by rw[zs];omega)
      have db3:((nm++(⟨#[32]⟩:ByteArray)).size+xR.size≤9223372036854775807)=True:=eq_true (by rw[zs];omega)
      have dc1:decide (nm.size+1+xR.size≤9223372036854775807)=true:=decide_eq_true (by omega)
      have dc2:(9223372036854775807<nm.size+1+xR.size)=False:=eq_false (by omega)
      have dc3:(nm.size+1+xR.size≤9223372036854775807)=True:=eq_true (by omega)
      have c0:w3.cell? ⟨w.heap.size,1,none⟩=some (.int .i64 r):=(blk_cell BK3.out 1).trans rfl;clear h1 hR k0 zs;go_upto_region 7 with (go_at_call 43;refine(dc _).mono ?_;rintro e w4 ⟨rfl,hb⟩;have BK4:=Aside0.mk (blk_below BK3.out hb);have HB4:=Aside0.mk (below_step HB3.out hb);have g1_:=(hb.cell (World.block_lt_of_cell? _ _ g1)).trans g1;clear g1;have g1:=g1_;clear g1_;have g2_:=(hb.cell (World.block_lt_of_cell? _ _ g2)).trans g2;clear g2;have g2:=g2_;clear g2_;have g3_:=(hb.cell (World.block_lt_of_cell? _ _ g3)).trans g3;clear g3;have g3:=g3_;clear g3_;clear hb BK3 HB3)
      rw[←K0.out];clear dc da1 da2 da3 db1 db2 db3 dc1 dc2 dc3 c0;cases bS with
      |false=>
        have k1:o2=o1:=by simpa using h2
        clear h2 hS;subst k1;go_upto_region 9 with (fail)
        cases bT with
        |false=>
          have k2:o3=o2:=by simpa using h3
          clear h3 hT;subst k2;go_upto_region 11 with (fail)
          cases bV with
          |false=>
            have k3:o4=o3:=by simpa using h4
            clear h4 hV;subst k3;go_wp2
            go_ret
            exact⟨rfl,HB4.out⟩
          |true=>
            have k3:o4=(o3++⟨#[32]⟩)++xV:=by simpa using h4
            have K3:=Aside0.mk k3;have dc:=fun W:World=>spec_ValText.calls 8 vk vn xV W (hV rfl)
            have zs:(o3++(⟨#[32]⟩:ByteArray)).size=o3.size+1:=by rw[ByteArray.size_append];rfl
            have zo:o4.size≤302:=by rw[k3,ByteArray.size_append,zs];omega
            have da1:decide (o3.size+1≤9223372036854775807)=true:=decide_eq_true (by omega)
            have da2:(9223372036854775807<o3.size+1)=False:=eq_false (by omega)
            have da3:(o3.size+1≤9223372036854775807)=True:=eq_true (by omega)
            have db1:decide ((o3++(⟨#[32]⟩:ByteArray)).size+xV.size≤9223372036854775807)=true:=decide_eq_true (by rw[zs];omega)
            have db2:(9223372036854775807<(o3++(⟨#[32]⟩:ByteArray)).size+xV.size)=False:=eq_false (by rw[zs];omega)
            have db3:((o3++(⟨#[32]⟩:ByteArray)).size+xV.size≤9223372036854775807)=True:=eq_true (by rw[zs];omega)
            have dc1:decide (o3.size+1+xV.size≤9223372036854775807)=true:=decide_eq_true (by omega)
            have dc2:(9223372036854775807<o3.size+1+xV.size)=False:=eq_false (by omega)
            have dc3:(o3.size+1+xV.size≤9223372036854775807)=True:=eq_true (by omega)
            have c0:w4.cell? ⟨w.heap.size,4,none⟩=some (.int .i64 vk):=(blk_cell BK4.out 4).trans rfl;have c1:w4.cell? ⟨w.heap.size,5,none⟩=some (.int .i64 vn):=(blk_cell BK4.out 5).trans rfl;clear h4 hV k3 zs;go_wp2_with (go_at_call 17;refine(dc _).mono ?_;rintro e w5 ⟨rfl,hb⟩;have BK5:=Aside0.mk (blk_below BK4.out hb);have HB5:=Aside0.mk (below_step HB4.out hb);clear hb BK4 HB4)
            go_ret
            exact⟨by rw[K3.out];rfl,HB5.out⟩
        |true=>
          have k2:o3=(o2++⟨#[32]⟩)++xT:=by simpa using h3
          have K2:=Aside0.mk k2;have dc:=fun W:World=>spec_l6Dec.calls 8 t xT W (hT rfl)
          have zs:(o2++(⟨#[32]⟩:ByteArray)).size=o2.size+1:=by rw[ByteArray.size_append];rfl
          have zo:o3.size≤302:=by rw[k2,ByteArray.size_append,zs];omega
          have da1:decide (o2.size+1≤9223372036854775807)=true:=decide_eq_true (by omega)
          have da2:(9223372036854775807<o2.size+1)=False:=eq_false (by omega)
          have da3:(o2.size+1≤9223372036854775807)=True:=eq_true (by omega)
          have db1:decide ((o2++(⟨#[32]⟩:ByteArray)).size+xT.size≤9223372036854775807)=true:=decide_eq_true (by rw[zs];omega)
          have db2:(9223372036854775807<(o2++(⟨#[32]⟩:ByteArray)).size+xT.size)=False:=eq_false (by rw[zs];omega)
          have db3:((o2++(⟨#[32]⟩:ByteArray)).size+xT.size≤9223372036854775807)=True:=eq_true (by rw[zs];omega)
          have dc1:decide (o2.size+1+xT.size≤9223372036854775807)=true:=decide_eq_true (by omega)
          have dc2:(9223372036854775807<o2.size+1+xT.size)=False:=eq_false (by omega)
          have dc3:(o2.size+1+xT.size≤9223372036854775807)=True:=eq_true (by omega)
          have c0:w4.cell? ⟨w.heap.size,3,none⟩=some (.int .i64 t):=(blk_cell BK4.out 3).trans rfl;clear h3 hT k2 zs;go_upto_region 11 with (go_at_call 43;refine(dc _).mono ?_;rintro e w5 ⟨rfl,hb⟩;have BK5:=Aside0.mk (blk_below BK4.out hb);have HB5:=Aside0.mk (below_step HB4.out hb);have g3_:=(hb.cell (World.block_lt_of_cell? _ _ g3)).trans g3;clear g3;have g3:=g3_;clear g3_;clear hb BK4 HB4)
          rw[←K2.out];clear dc da1 da2 da3 db1 db2 db3 dc1 dc2 dc3 c0;cases bV with
          |false=>
            have k3:o4=o3:=by simpa using h4
            clear h4 hV;subst k3;go_wp2
            go_ret
            exact⟨rfl,HB5.out⟩
          |true=>
            have k3:o4=(o3++⟨#[32]⟩)++xV:=by simpa using h4
            have K3:=Aside0.mk k3;have dc:=fun W:World=>spec_ValText.calls 8 vk vn xV W (hV rfl)
            have zs:(o3++(⟨#[32]⟩:ByteArray)).size=o3.size+1:=by rw[ByteArray.size_append];rfl
            have zo:o4.size≤403:=by rw[k3,ByteArray.size_append,zs];omega
            have da1:decide (o3.size+1≤9223372036854775807)=true:=decide_eq_true (by omega)
            have da2:(9223372036854775807<o3.size+1)=False:=eq_false (by omega)
            have da3:(o3.size+1≤9223372036854775807)=True:=eq_true (by omega)
            have db1:decide ((o3++(⟨#[32]⟩:ByteArray)).size+xV.size≤9223372036854775807)=true:=decide_eq_true (by rw[zs];omega)
            have db2:(9223372036854775807<(o3++(⟨#[32]⟩:ByteArray)).size+xV.size)=False:=eq_false (by rw[zs];omega)
            have db3:((o3++(⟨#[32]⟩:ByteArray)).size+xV.size≤9223372036854775807)=True:=eq_true (by rw[zs];omega)
            have dc1:decide (o3.size+1+xV.size≤9223372036854775807)=true:=decide_eq_true (by omega)
            have dc2:(9223372036854775807<o3.size+1+xV.size)=False:=eq_false (by omega)
            have dc3:(o3.size+1+xV.size≤9223372036854775807)=True:=eq_true (by omega)
            have c0:w5.cell? ⟨w.heap.size,4,none⟩=some (.int .i64 vk):=(blk_cell BK5.out 4).trans rfl;have c1:w5.cell? ⟨w.heap.size,5,none⟩=some (.int .i64 vn):=(blk_cell BK5.out 5).trans rfl;clear h4 hV k3 zs;go_wp2_with (go_at_call 17;refine(dc _).mono ?_;rintro e w6 ⟨rfl,hb⟩;have BK6:=Aside0.mk (blk_below BK5.out hb);have HB6:=Aside0.mk (below_step HB5.out hb);clear hb BK5 HB5)
            go_ret
            exact⟨by rw[K3.out];rfl,HB6.out⟩
      |true=>
        have k1:o2=(o1++⟨#[32]⟩)++xS:=by simpa using h2
        have K1:=Aside0.mk k1;have dc:=fun W:World=>spec_l6Dec.calls 8 s xS W (hS rfl)
        have zs:(o1++(⟨#[32]⟩:ByteArray)).size=o1.size+1:=by rw[ByteArray.size_append];rfl
        have zo:o2.size≤302:=by rw[k1,ByteArray.size_append,zs];omega
        have da1:decide (o1.size+1≤9223372036854775807)=true:=decide_eq_true (by omega)
        have da2:(9223372036854775807<o1.size+1)=False:=eq_false (by omega)
        have da3:(o1.size+1≤9223372036854775807)=True:=eq_true (by omega)
        have db1:decide ((o1++(⟨#[32]⟩:ByteArray)).size+xS.size≤9223372036854775807)=true:=decide_eq_true (by rw[zs];omega)
        have db2:(9223372036854775807<(o1++(⟨#[32]⟩:ByteArray)).size+xS.size)=False:=eq_false (by rw[zs];omega)
        have db3:((o1++(⟨#[32]⟩:ByteArray)).size+xS.size≤9223372036854775807)=True:=eq_true (by rw[zs];omega)
        have dc1:decide (o1.size+1+xS.size≤9223372036854775807)=true:=decide_eq_true (by omega)
        have dc2:(9223372036854775807<o1.size+1+xS.size)=False:=eq_false (by omega)
        have dc3:(o1.size+1+xS.size≤9223372036854775807)=True:=eq_true (by omega)
        have c0:w4.cell? ⟨w.heap.size,2,none⟩=some (.int .i64 s):=(blk_cell BK4.out 2).trans rfl;clear h2 hS k1 zs;go_upto_region 9 with (go_at_call 43;refine(dc _).mono ?_;rintro e w5 ⟨rfl,hb⟩;have BK5:=Aside0.mk (blk_below BK4.out hb);have HB5:=Aside0.mk (below_step HB4.out hb);have g2_:=(hb.cell (World.block_lt_of_cell? _ _ g2)).trans g2;clear g2;have g2:=g2_;clear g2_;have g3_:=(hb.cell (World.block_lt_of_cell? _ _ g3)).trans g3;clear g3;have g3:=g3_;clear g3_;clear hb BK4 HB4)
        rw[←K1.out];clear dc da1 da2 da3 db1 db2 db3 dc1 dc2 dc3 c0;cases bT with
        |false=>
          have k2:o3=o2:=by simpa using h3
          clear h3 hT;subst k2;go_upto_region 11 with (fail)
          cases bV with
          |false=>
            have k3:o4=o3:=by simpa using h4
            clear h4 hV;subst k3;go_wp2
            go_ret
            exact⟨rfl,HB5.out⟩
          |true=>
            have k3:o4=(o3++⟨#[32]⟩)++xV:=by simpa using h4
            have K3:=Aside0.mk k3;have dc:=fun W:World=>spec_ValText.calls 8 vk vn xV W (hV rfl)
            have zs:(o3++(⟨#[32]⟩:ByteArray)).size=o3.size+1:=by rw[ByteArray.size_append];rfl
            have zo:o4.size≤403:=by rw[k3,ByteArray.size_append,zs];omega
            have da1:decide (o3.size+1≤9223372036854775807)=true:=decide_eq_true (by omega)
            have da2:(9223372036854775807<o3.size+1)=False:=eq_false (by omega)
            have da3:(o3.size+1≤9223372036854775807)=True:=eq_true (by omega)
            have db1:decide ((o3++(⟨#[32]⟩:ByteArray)).size+xV.size≤9223372036854775807)=true:=decide_eq_true (by rw[zs];omega)
            have db2:(9223372036854775807<(o3++(⟨#[32]⟩:ByteArray)).size+xV.size)=False:=eq_false (by rw[zs];omega)
            have db3:((o3++(⟨#[32]⟩:ByteArray)).size+xV.size≤9223372036854775807)=True:=eq_true (by rw[zs];omega)
            have dc1:decide (o3.size+1+xV.size≤9223372036854775807)=true:=decide_eq_true (by omega)
            have dc2:(9223372036854775807<o3.size+1+xV.size)=False:=eq_false (by omega)
            have dc3:(o3.size+1+xV.size≤9223372036854775807)=True:=eq_true (by omega)
            have c0:w5.cell? ⟨w.heap.size,4,none⟩=some (.int .i64 vk):=(blk_cell BK5.out 4).trans rfl;have c1:w5.cell? ⟨w.heap.size,5,none⟩=some (.int .i64 vn):=(blk_cell BK5.out 5).trans rfl;clear h4 hV k3 zs;go_wp2_with (go_at_call 17;refine(dc _).mono ?_;rintro e w6 ⟨rfl,hb⟩;have BK6:=Aside0.mk (blk_below BK5.out hb);have HB6:=Aside0.mk (below_step HB5.out hb);clear hb BK5 HB5)
            go_ret
            exact⟨by rw[K3.out];rfl,HB6.out⟩
        |true=>
          have k2:o3=(o2++⟨#[32]⟩)++xT:=by simpa using h3
          have K2:=Aside0.mk k2;have dc:=fun W:World=>spec_l6Dec.calls 8 t xT W (hT rfl)
          have zs:(o2++(⟨#[32]⟩:ByteArray)).size=o2.size+1:=by rw[ByteArray.size_append];rfl
          have zo:o3.size≤403:=by rw[k2,ByteArray.size_append,zs];omega
          have da1:decide (o2.size+1≤9223372036854775807)=true:=decide_eq_true (by omega)
          have da2:(9223372036854775807<o2.size+1)=False:=eq_false (by omega)
          have da3:(o2.size+1≤9223372036854775807)=True:=eq_true (by omega)
          have db1:decide ((o2++(⟨#[32]⟩:ByteArray)).size+xT.size≤9223372036854775807)=true:=decide_eq_true (by rw[zs];omega)
          have db2:(9223372036854775807<(o2++(⟨#[32]⟩:ByteArray)).size+xT.size)=False:=eq_false (by rw[zs];omega)
          have db3:((o2++(⟨#[32]⟩:ByteArray)).size+xT.size≤9223372036854775807)=True:=eq_true (by rw[zs];omega)
          have dc1:decide (o2.size+1+xT.size≤9223372036854775807)=true:=decide_eq_true (by omega)
          have dc2:(9223372036854775807<o2.size+1+xT.size)=False:=eq_false (by omega)
          have dc3:(o2.size+1+xT.size≤9223372036854775807)=True:=eq_true (by omega)
          have c0:w5.cell? ⟨w.heap.size,3,none⟩=some (.int .i64 t):=(blk_cell BK5.out 3).trans rfl;clear h3 hT k2 zs;go_upto_region 11 with (go_at_call 43;refine(dc _).mono ?_;rintro e w6 ⟨rfl,hb⟩;have BK6:=Aside0.mk (blk_below BK5.out hb);have HB6:=Aside0.mk (below_step HB5.out hb);have g3_:=(hb.cell (World.block_lt_of_cell? _ _ g3)).trans g3;clear g3;have g3:=g3_;clear g3_;clear hb BK5 HB5)
          rw[←K2.out];clear dc da1 da2 da3 db1 db2 db3 dc1 dc2 dc3 c0;cases bV with
          |false=>
            have k3:o4=o3:=by simpa using h4
            clear h4 hV;subst k3;go_wp2
            go_ret
            exact⟨rfl,HB6.out⟩
          |true=>
            have k3:o4=(o3++⟨#[32]⟩)++xV:=by simpa using h4
            have K3:=Aside0.mk k3;have dc:=fun W:World=>spec_ValText.calls 8 vk vn xV W (hV rfl)
            have zs:(o3++(⟨#[32]⟩:ByteArray)).size=o3.size+1:=by rw[ByteArray.size_append];rfl
            have zo:o4.size≤504:=by rw[k3,ByteArray.size_append,zs];omega
            have da1:decide (o3.size+1≤9223372036854775807)=true:=decide_eq_true (by omega)
            have da2:(9223372036854775807<o3.size+1)=False:=eq_false (by omega)
            have da3:(o3.size+1≤9223372036854775807)=True:=eq_true (by omega)
            have db1:decide ((o3++(⟨#[32]⟩:ByteArray)).size+xV.size≤9223372036854775807)=true:=decide_eq_true (by rw[zs];omega)
            have db2:(9223372036854775807<(o3++(⟨#[32]⟩:ByteArray)).size+xV.size)=False:=eq_false (by rw[zs];omega)
            have db3:((o3++(⟨#[32]⟩:ByteArray)).size+xV.size≤9223372036854775807)=True:=eq_true (by rw[zs];omega)
            have dc1:decide (o3.size+1+xV.size≤9223372036854775807)=true:=decide_eq_true (by omega)
            have dc2:(9223372036854775807<o3.size+1+xV.size)=False:=eq_false (by omega)
            have dc3:(o3.size+1+xV.size≤9223372036854775807)=True:=eq_true (by omega)
            have c0:w6.cell? ⟨w.heap.size,4,none⟩=some (.int .i64 vk):=(blk_cell BK6.out 4).trans rfl;have c1:w6.cell? ⟨w.heap.size,5,none⟩=some (.int .i64 vn):=(blk_cell BK6.out 5).trans rfl;clear h4 hV k3 zs;go_wp2_with (go_at_call 17;refine(dc _).mono ?_;rintro e w7 ⟨rfl,hb⟩;have BK7:=Aside0.mk (blk_below BK6.out hb);have HB7:=Aside0.mk (below_step HB6.out hb);clear hb BK6 HB6)
            go_ret
            exact⟨by rw[K3.out];rfl,HB7.out⟩
theorem addN_mk {b:Bool} {out o1:ByteArray} {n:Int} (h:addN b out n=some o1): ∃x:ByteArray,x.size≤100∧(b=true→spec_l6Dec.f 8 n=some x)∧o1=if b=true then(out++⟨#[32]⟩)++x else out:=by
  rcases addN_some h with ⟨rfl,rfl⟩|⟨rfl,x,h1,h2,rfl⟩
  · exact⟨⟨#[]⟩,Nat.zero_le _,fun h=>(by cases h),by simp⟩
  · exact⟨x,h2,fun _=>h1,by simp⟩
theorem addV_mk {b:Bool} {out o1:ByteArray} {k n:Int} (h:addV b out k n=some o1): ∃x:ByteArray,x.size≤100∧(b=true→spec_ValText.f 8 k n=some x)∧o1=if b=true then(out++⟨#[32]⟩)++x else out:=by
  rcases addV_some h with ⟨rfl,rfl⟩|⟨rfl,x,h1,h2,rfl⟩
  · exact⟨⟨#[]⟩,Nat.zero_le _,fun h=>(by cases h),by simp⟩
  · exact⟨x,h2,fun _=>h1,by simp⟩
theorem name_size {k:Int} (h:1≤k∧k≤14):(nameB k).size≤100:=by
  have:k=1∨k=2∨k=3∨k=4∨k=5∨k=6∨k=7∨k=8∨k=9∨k=10∨k=11∨k=12∨k=13∨k=14:=by omega
  rcases this with rfl|rfl|rfl|rfl|rfl|rfl|rfl|rfl|rfl|rfl|rfl|rfl|rfl|rfl<;>decide
theorem spec_OpText.calls (k r s t vk vn:Int) (x:ByteArray) (w:World) (h:otextV.f k r s t vk vn=some x):
    Calls Tryd.prog 22 #[.agg #[.int .i64 k,.int .i64 r,.int .i64 s,.int .i64 t,.int .i64 vk,.int .i64 vn]] w fun e w'=>e= .returned (.string x)∧Below w.heap.size w w':=by
  unfold otextV.f at h;split at h
  · rename_i hop
    obtain⟨o1,h1,h⟩:=Option.bind_eq_some_iff.1 h;obtain⟨o2,h2,h⟩:=Option.bind_eq_some_iff.1 h;obtain⟨o3,h3,h⟩:=Option.bind_eq_some_iff.1 h;obtain⟨xR,zR,hR,e1⟩:=addN_mk h1;obtain⟨xS,zS,hS,e2⟩:=addN_mk h2;obtain⟨xT,zT,hT,e3⟩:=addN_mk h3;obtain⟨xV,zV,hV,e4⟩:=addV_mk h;have hk:=(opB_true.1 hop).1;exact text_walk k r s t vk vn w hop (nameB k) xR xS xT xV hk rfl ⟨name_size hk,zR,zS,zT,zV⟩ _ _ _ _ rfl rfl rfl rfl hR hS hT hV o1 o2 o3 x e1 e2 e3 e4
  · rename_i hop
    obtain rfl:=Option.some.inj h;exact text_no k r s t vk vn w (by simpa using hop)
def decB (n:Int):ByteArray:=⟨(itoaS n).toArray⟩
def addS (b:Bool) (out x:ByteArray):ByteArray:=if b=true then(out++⟨#[32]⟩)++x else out
def outR (k r:Int):ByteArray:=addS (hasR k) (nameB k) (decB r)
def outS (k r s:Int):ByteArray:=addS (hasS k) (outR k r) (decB s)
def outT (k r s t:Int):ByteArray:=addS (hasT k) (outS k r s) (decB t)
def opText (k r s t vk vn:Int):ByteArray:=if opB k r s t vk vn=true then addS (hasV k) (outT k r s t) (vtext vk vn)else⟨#[]⟩
theorem dec_size (n:Int):(decB n).size≤3:=by
  unfold decB itoaS dec2;split<;>split<;>simp[ByteArray.size]
theorem add_size (b:Bool) (out x:ByteArray):(addS b out x).size≤out.size+1+x.size:=by
  unfold addS;split
  · rw[ByteArray.size_append,ByteArray.size_append];exact Nat.le_refl _
  · omega
theorem name_le (k:Int) (h:1≤k∧k≤14):(nameB k).size≤5:=by
  revert k;refine fun k=>kinds (P:=fun k=>1≤k∧k≤14→(nameB k).size≤5) (fun k hk h=>absurd h hk) ?_ ?_ ?_ ?_ ?_ ?_ ?_ ?_ ?_ ?_ ?_ ?_ ?_ ?_ k<;>exact fun _=>by decide
theorem how_name (k:Int) (h:1≤k∧k≤14):(howR k).f0=nameB k:=by
  revert k;refine fun k=>kinds (P:=fun k=>1≤k∧k≤14→(howR k).f0=nameB k) (fun k hk h=>absurd h hk) ?_ ?_ ?_ ?_ ?_ ?_ ?_ ?_ ?_ ?_ ?_ ?_ ?_ ?_ k<;>exact fun _=>by decide
theorem vtext_le4 (a b:Int):(vtext a b).size≤4:=by
  by_cases h:okB a b=true
  · have hp:=okB_true.1 h
    unfold vtext;rw[if_pos h];split
    · decide
    · have:(itoaS b).length≤3:=by unfold itoaS dec2;split<;>split<;>simp
      simp[ByteArray.size];omega
  · simp only[Bool.not_eq_true]at h
    rw[vtext_bad h];exact Nat.zero_le _
theorem cat1 (x:ByteArray) (hx:x.size≤1000):decide (1+x.size≤9223372036854775807)=true∧(9223372036854775807<1+x.size)=False∧(1+x.size≤9223372036854775807)=True:=
  ⟨decide_eq_true (by omega),eq_false (by omega),eq_true (by omega)⟩
theorem catB (o x:ByteArray) (ho:o.size≤1000) (hx:x.size≤1000):decide (o.size+(1+x.size)≤9223372036854775807)=true∧(9223372036854775807<o.size+(1+x.size))=False∧(o.size+(1+x.size)≤9223372036854775807)=True:=
  ⟨decide_eq_true (by omega),eq_false (by omega),eq_true (by omega)⟩
def outI (k r s t:Int) (i:Int):ByteArray:=if i=0 then nameB k else if i=1 then outR k r else if i=2 then outS k r s else outT k r s t
def OI (k r s t:Int) (i:Int) (v:Value):Prop:= ∃o:ByteArray,v= .string o∧o=outI k r s t i∧(o.size:Int)≤5+4*i
theorem oi_step {k r s t i:Int} {o x:ByteArray} (ho:o=outI k r s t i) {h:Bool} (e:outI k r s t (i+1)=addS h (outI k r s t i) x):(h=true→outI k r s t (i+1)=o++(⟨#[32]⟩++x))∧(h=false→outI k r s t (i+1)=o):=by
  subst ho;constructor
  · rintro rfl;rw[e];unfold addS;rw[if_pos rfl,ByteArray.append_assoc]
  · rintro rfl;rw[e];unfold addS;rw[if_neg (by simp)]
theorem box3 {W:World} {g:Nat} {a b c:Value} {t:TypeId} (h:W.heap[g]?=some (.cells #[a,b,c] t (0,0))):
    W.cell? ⟨g,0,none⟩=some a∧W.cell? ⟨g,1,none⟩=some b∧W.cell? ⟨g,2,none⟩=some c:=
  ⟨(blk_cell h 0).trans rfl,(blk_cell h 1).trans rfl,(blk_cell h 2).trans rfl⟩
def cells6 (k r s t vk vn:Int):Obj:=.cells #[.int .i64 k,.int .i64 r,.int .i64 s,.int .i64 t,.int .i64 vk,.int .i64 vn] 35
theorem opText_no {k r s t vk vn:Int} (h:opB k r s t vk vn=false):opText k r s t vk vn=⟨#[]⟩:=by unfold opText;simp[h]
theorem impl_OpText_any (k r s t vk vn:Int) (w:World) (hT:Tab w):
    Calls Tryd.prog 24 #[.agg #[.int .i64 k,.int .i64 r,.int .i64 s,.int .i64 t,.int .i64 vk,.int .i64 vn]] w fun e w'=>e= .returned (.string (opText k r s t vk vn))∧Below w.heap.size w w':=by
  have HT:=Aside0.mk hT;clear hT;have HO:Aside0 (∀W,Calls Tryd.prog 38 #[.agg #[.int .i64 k,.int .i64 r,.int .i64 s,.int .i64 t,.int .i64 vk,.int .i64 vn]] W fun e w'=>e= .returned (.bool (opB k r s t vk vn))∧Below W.heap.size W w'):=⟨fun W=>impl_OpOk.calls k r s t vk vn _ W rfl⟩
  obtain⟨b,hop⟩: ∃b,opB k r s t vk vn=b:=⟨_,rfl⟩;cases b with
  |false=>
    rw[opText_no hop];rw[hop]at HO
    clear hop;go_enter Tryd.func24,Tryd.ntmps24
    go_wp2_with (go_at_call 38;(with_reducible refine(HO.out _).mono ?_);rintro e w1 ⟨rfl,hb⟩)
    go_ret
    exact⟨rfl,below_step (below_alloc (Below.refl _ _) _) hb⟩
  |true=>
    rw[hop]at HO
    have hp:=opB_true.1 hop;have hk:=hp.1;have HH:Aside0 (∀ (c:UInt8) W,Calls Tryd.prog 52 #[.agg #[.int .i64 k,.int .i64 r,.int .i64 s,.int .i64 t,.int .i64 vk,.int .i64 vn],.string ⟨#[c]⟩] W fun e w'=>e= .returned (.bool (hasC k c))∧Below W.heap.size W w'):=⟨fun c W=>has_any k r s t vk vn c W⟩
    have HW:Aside0 (∀W,Calls Tryd.prog 51 #[.agg #[.int .i64 k,.int .i64 r,.int .i64 s,.int .i64 t,.int .i64 vk,.int .i64 vn]] W fun e w'=>e= .returned (.agg #[.string (nameB k),.string (howR k).f1,.string (howR k).f2,.bool (howR k).f3])∧Below W.heap.size W w'):=⟨fun W=>by
      rw[←how_name k hk];exact impl_Op_how.calls k r s t vk vn (howR k).f0 (howR k).f1 (howR k).f2 (howR k).f3 W rfl⟩
    have HI:Aside0 (∀n W, -100<n→n<100→Below w.heap.size w W→Calls Tryd.prog 44 #[.int .i64 n] W fun e w'=>e= .returned (.string (decB n))∧Below W.heap.size W w'):=⟨fun n W h0 h1 hW=>itoa_call n W h0 h1 (HT.out.below hW)⟩
    have HV:Aside0 (∀W,Below w.heap.size w W→Calls Tryd.prog 19 #[.agg #[.int .i64 vk,.int .i64 vn]] W fun e w'=>e= .returned (.string (vtext vk vn))∧Below W.heap.size W w'):=⟨fun W hW=>impl_ValText_any vk vn W (HT.out.below hW)⟩
    have hr: -100<r∧r<100∧ -100<s∧s<100∧ -100<t∧t<100:=by
      obtain⟨_,_,a,b,c,_⟩:=hp;omega
    have HRR:=Aside0.mk hr;have HN:=Aside0.mk (name_le k hk);have HEND:Aside0 (opText k r s t vk vn=addS (hasV k) (outI k r s t 3) (vtext vk vn)):=⟨by unfold opText;rw[if_pos hop];rfl⟩
    obtain⟨x1,x2,x3⟩: ∃a b c,a=(howR k).f1∧b=(howR k).f2∧c=(howR k).f3:=⟨_,_,_,rfl,rfl,rfl⟩;clear hop hp hr hk;rw[HEND.out];have hs0: ∀W,Sem.run Tryd.prog (Instr.slice 9 (.string ⟨#[82,83,84]⟩) (some (.int .i64 0)) (some (.int .i64 1)) none) W= .ok (.string ⟨#[82]⟩) W:=fun _=>by kernel_rfl
    have hs1: ∀W,Sem.run Tryd.prog (Instr.slice 9 (.string ⟨#[82,83,84]⟩) (some (.int .i64 1)) (some (.int .i64 2)) none) W= .ok (.string ⟨#[83]⟩) W:=fun _=>by kernel_rfl
    have hs2: ∀W,Sem.run Tryd.prog (Instr.slice 9 (.string ⟨#[82,83,84]⟩) (some (.int .i64 2)) (some (.int .i64 3)) none) W= .ok (.string ⟨#[84]⟩) W:=fun _=>by kernel_rfl
    have hfd: ∀ (a b c d:Value) (W:World),Sem.run Tryd.prog (Instr.field 67 (.agg #[a,b,c,d]) 0) W= .ok a W:=fun _ _ _ _ _=>by kernel_rfl
    have HB:=Aside0.mk (Hold.new (Below.refl w.heap.size w) (cells6 k r s t vk vn));go_enter Tryd.func24,Tryd.ntmps24
    go_upto_block 0 with (first
      |(go_at_call 38;(with_reducible refine(HO.out _).mono ?_);rintro e w1 ⟨rfl,hb⟩;replace HB:=Aside0.mk (HB.out.step hb);clear hb;obtain⟨c0,c1,c2,c3,c4,c5⟩:=box6 HB.out.blk)
      |(go_at_call 51;(with_reducible refine(HW.out _).mono ?_);rintro e w2 ⟨rfl,hb⟩;replace HB:=Aside0.mk (HB.out.step hb);clear hb c0 c1 c2 c3 c4 c5;obtain⟨c0,c1,c2,c3,c4,c5⟩:=box6 HB.out.blk))
    replace HB:=Aside0.mk (Hold2.new HB.out (.cells #[.int .i64 r,.int .i64 s,.int .i64 t] 3 (0,0)));have HO0:Aside0 (OI k r s t 0 (.string (nameB k))):=⟨⟨_,rfl,rfl,by have:=HN.out;omega⟩⟩
    clear c0 c1 c2 c3 c4 c5 HO HW HN HEND;revert HB
    generalize w2.alloc (.cells #[.int .i64 r,.int .i64 s,.int .i64 t] 3)=w3;generalize w2.heap.size=gs;intro HB;go_wp2
    go_loopg [3,20] 3 (fun gg s3 s20 wr=> ∃i:Int,0≤i∧i≤3∧3-i≤gg∧s20= .int .i64 i∧Aside0 (OI k r s t i s3)∧Aside0 (Hold2 w wr w.heap.size (cells6 k r s t vk vn) gs (.cells #[.int .i64 r,.int .i64 s,.int .i64 t] 3)))
    case atStart=>exact⟨0,by omega,by omega,by omega,rfl,HO0,HB⟩
    case round=>
      clear HB HO0;obtain⟨i,hi0,hi3,hgg,rfl,HOI,HB⟩:=hrel;have hi:i=0∨i=1∨i=2∨i=3:=by omega
      clear hi0 hi3;obtain⟨o,rfl,ho,hoz⟩:=HOI.out;clear HOI;obtain⟨c0,c1,c2,c3,c4,c5⟩:=box6 HB.out.blk;obtain⟨d0,d1,d2⟩:=box3 HB.out.blk2;have hw1:IntKind.i64.wrap 1=1:=by decide
      have hw2:IntKind.i64.wrap 2=2:=by decide
      have hw3:IntKind.i64.wrap 3=3:=by decide
      rcases hi with rfl|rfl|rfl|rfl
      · have ES:=Aside0.mk (oi_step (k:=k) (r:=r) (s:=s) (t:=t) (i:=0) (h:=hasR k) (x:=decB r) ho rfl)
        obtain⟨b,hbq⟩: ∃b,hasC k 82=b:=⟨_,rfl⟩;rw[show hasR k=hasC k 82 from(hasC_R k).symm,hbq]at ES
        have HX:Aside0 (∀W,Calls Tryd.prog 52 #[.agg #[.int .i64 k,.int .i64 r,.int .i64 s,.int .i64 t,.int .i64 vk,.int .i64 vn],.string ⟨#[82]⟩] W fun e w'=>e= .returned (.bool b)∧Below W.heap.size W w'):=⟨fun W=>by rw[←hbq];exact HH.out 82 W⟩
        clear ho hbq;go_upto_region 7 with (fail)
        go_region_held3 (fun w'=>w'.cell? ⟨w.heap.size,0,none⟩=some (.int .i64 k)∧w'.cell? ⟨w.heap.size,1,none⟩=some (.int .i64 r)∧w'.cell? ⟨w.heap.size,2,none⟩=some (.int .i64 s)∧w'.cell? ⟨w.heap.size,3,none⟩=some (.int .i64 t)∧w'.cell? ⟨w.heap.size,4,none⟩=some (.int .i64 vk)∧w'.cell? ⟨w.heap.size,5,none⟩=some (.int .i64 vn)) (go_keep) ((go_at_call 52;(with_reducible refine(HX.out _).mono ?_);rintro e w4 ⟨rfl,hb⟩;have HB4:=Aside0.mk (HB.out.drew.step hb);clear hb;obtain⟨z0,z1,z2,z3,z4,z5⟩:=box6 HB4.out.blk))
        all_goals
          replace HB:=HB4;clear HB4 z0 z1 z2 z3 z4 z5;cases b with
          |false=>
            have hx:=ES.out.2 rfl;clear ES HX;go_wp2
            go_roundg (gk-1)
            case measure=>omega
            case rel=>exact⟨_,by omega,by omega,by omega,rfl,⟨⟨o,rfl,hx.symm,by omega⟩⟩,HB⟩
          |true=>
            have hx:=ES.out.1 rfl;clear ES HX;obtain⟨X,hX⟩: ∃X,X=decB r:=⟨_,rfl⟩;have hX3:X.size≤3:=by rw[hX];exact dec_size _
            have HIX:Aside0 (∀W,Below w.heap.size w W→Calls Tryd.prog 44 #[.int .i64 r] W fun e w'=>e= .returned (.string X)∧Below W.heap.size W w'):=⟨fun W hW=>by rw[hX];exact HI.out r W (by have:=HRR.out;omega) (by have:=HRR.out;omega) hW⟩
            rw[←hX]at hx
            obtain⟨q1,q2,q3⟩:=cat1 X (by omega)
            obtain⟨q4,q5,q6⟩:=catB o X (by omega) (by omega)
            have HX4:=Aside0.mk (show _∧_∧_ from⟨hx,hX3,hX⟩)
            clear hx hX3 hX;go_wp2_with (go_at_call 44;(with_reducible refine(HIX.out _ HB.out.below).mono ?_);rintro e w5 ⟨rfl,hb⟩;replace HB:=Aside0.mk (HB.out.step hb);clear hb)
            go_roundg (gk-1)
            case measure=>omega
            case rel=>exact⟨_,by omega,by omega,by omega,rfl,⟨⟨_,rfl,HX4.out.1.symm,by have:=HX4.out.2.1;rw[ByteArray.size_append,ByteArray.size_append,show(⟨#[32]⟩:ByteArray).size=1 from rfl];omega⟩⟩,HB⟩
      · have ES:=Aside0.mk (oi_step (k:=k) (r:=r) (s:=s) (t:=t) (i:=1) (h:=hasS k) (x:=decB s) ho rfl)
        obtain⟨b,hbq⟩: ∃b,hasC k 83=b:=⟨_,rfl⟩;rw[show hasS k=hasC k 83 from(hasC_S k).symm,hbq]at ES
        have HX:Aside0 (∀W,Calls Tryd.prog 52 #[.agg #[.int .i64 k,.int .i64 r,.int .i64 s,.int .i64 t,.int .i64 vk,.int .i64 vn],.string ⟨#[83]⟩] W fun e w'=>e= .returned (.bool b)∧Below W.heap.size W w'):=⟨fun W=>by rw[←hbq];exact HH.out 83 W⟩
        clear ho hbq;go_upto_region 7 with (fail)
        go_region_held3 (fun w'=>w'.cell? ⟨w.heap.size,0,none⟩=some (.int .i64 k)∧w'.cell? ⟨w.heap.size,1,none⟩=some (.int .i64 r)∧w'.cell? ⟨w.heap.size,2,none⟩=some (.int .i64 s)∧w'.cell? ⟨w.heap.size,3,none⟩=some (.int .i64 t)∧w'.cell? ⟨w.heap.size,4,none⟩=some (.int .i64 vk)∧w'.cell? ⟨w.heap.size,5,none⟩=some (.int .i64 vn)) (go_keep) ((go_at_call 52;(with_reducible refine(HX.out _).mono ?_);rintro e w4 ⟨rfl,hb⟩;have HB4:=Aside0.mk (HB.out.drew.step hb);clear hb;obtain⟨z0,z1,z2,z3,z4,z5⟩:=box6 HB4.out.blk))
        all_goals
          replace HB:=HB4;clear HB4 z0 z1 z2 z3 z4 z5;cases b with
          |false=>
            have hx:=ES.out.2 rfl;clear ES HX;go_wp2
            go_roundg (gk-1)
            case measure=>omega
            case rel=>exact⟨_,by omega,by omega,by omega,rfl,⟨⟨o,rfl,hx.symm,by omega⟩⟩,HB⟩
          |true=>
            have hx:=ES.out.1 rfl;clear ES HX;obtain⟨X,hX⟩: ∃X,X=decB s:=⟨_,rfl⟩;have hX3:X.size≤3:=by rw[hX];exact dec_size _
            have HIX:Aside0 (∀W,Below w.heap.size w W→Calls Tryd.prog 44 #[.int .i64 s] W fun e w'=>e= .returned (.string X)∧Below W.heap.size W w'):=⟨fun W hW=>by rw[hX];exact HI.out s W (by have:=HRR.out;omega) (by have:=HRR.out;omega) hW⟩
            rw[←hX]at hx
            obtain⟨q1,q2,q3⟩:=cat1 X (by omega)
            obtain⟨q4,q5,q6⟩:=catB o X (by omega) (by omega)
            have HX4:=Aside0.mk (show _∧_∧_ from⟨hx,hX3,hX⟩)
            clear hx hX3 hX;go_wp2_with (go_at_call 44;(with_reducible refine(HIX.out _ HB.out.below).mono ?_);rintro e w5 ⟨rfl,hb⟩;replace HB:=Aside0.mk (HB.out.step hb);clear hb)
            go_roundg (gk-1)
            case measure=>omega
            case rel=>exact⟨_,by omega,by omega,by omega,rfl,⟨⟨_,rfl,HX4.out.1.symm,by have:=HX4.out.2.1;rw[ByteArray.size_append,ByteArray.size_append,show(⟨#[32]⟩:ByteArray).size=1 from rfl];omega⟩⟩,HB⟩
      · have ES:=Aside0.mk (oi_step (k:=k) (r:=r) (s:=s) (t:=t) (i:=2) (h:=hasT k) (x:=decB t) ho rfl)
        obtain⟨b,hbq⟩: ∃b,hasC k 84=b:=⟨_,rfl⟩;rw[show hasT k=hasC k 84 from(hasC_T k).symm,hbq]at ES
        have HX:Aside0 (∀W,Calls Tryd.prog 52 #[.agg #[.int .i64 k,.int .i64 r,.int .i64 s,.int .i64 t,.int .i64 vk,.int .i64 vn],.string ⟨#[84]⟩] W fun e w'=>e= .returned (.bool b)∧Below W.heap.size W w'):=⟨fun W=>by rw[←hbq];exact HH.out 84 W⟩
        clear ho hbq;go_upto_region 7 with (fail)
        go_region_held3 (fun w'=>w'.cell? ⟨w.heap.size,0,none⟩=some (.int .i64 k)∧w'.cell? ⟨w.heap.size,1,none⟩=some (.int .i64 r)∧w'.cell? ⟨w.heap.size,2,none⟩=some (.int .i64 s)∧w'.cell? ⟨w.heap.size,3,none⟩=some (.int .i64 t)∧w'.cell? ⟨w.heap.size,4,none⟩=some (.int .i64 vk)∧w'.cell? ⟨w.heap.size,5,none⟩=some (.int .i64 vn)) (go_keep) ((go_at_call 52;(with_reducible refine(HX.out _).mono ?_);rintro e w4 ⟨rfl,hb⟩;have HB4:=Aside0.mk (HB.out.drew.step hb);clear hb;obtain⟨z0,z1,z2,z3,z4,z5⟩:=box6 HB4.out.blk))
        all_goals
          replace HB:=HB4;clear HB4 z0 z1 z2 z3 z4 z5;cases b with
          |false=>
            have hx:=ES.out.2 rfl;clear ES HX;go_wp2
            go_roundg (gk-1)
            case measure=>omega
            case rel=>exact⟨_,by omega,by omega,by omega,rfl,⟨⟨o,rfl,hx.symm,by omega⟩⟩,HB⟩
          |true=>
            have hx:=ES.out.1 rfl;clear ES HX;obtain⟨X,hX⟩: ∃X,X=decB t:=⟨_,rfl⟩;have hX3:X.size≤3:=by rw[hX];exact dec_size _
            have HIX:Aside0 (∀W,Below w.heap.size w W→Calls Tryd.prog 44 #[.int .i64 t] W fun e w'=>e= .returned (.string X)∧Below W.heap.size W w'):=⟨fun W hW=>by rw[hX];exact HI.out t W (by have:=HRR.out;omega) (by have:=HRR.out;omega) hW⟩
            rw[←hX]at hx
            obtain⟨q1,q2,q3⟩:=cat1 X (by omega)
            obtain⟨q4,q5,q6⟩:=catB o X (by omega) (by omega)
            have HX4:=Aside0.mk (show _∧_∧_ from⟨hx,hX3,hX⟩)
            clear hx hX3 hX;go_wp2_with (go_at_call 44;(with_reducible refine(HIX.out _ HB.out.below).mono ?_);rintro e w5 ⟨rfl,hb⟩;replace HB:=Aside0.mk (HB.out.step hb);clear hb)
            go_roundg (gk-1)
            case measure=>omega
            case rel=>exact⟨_,by omega,by omega,by omega,rfl,⟨⟨_,rfl,HX4.out.1.symm,by have:=HX4.out.2.1;rw[ByteArray.size_append,ByteArray.size_append,show(⟨#[32]⟩:ByteArray).size=1 from rfl];omega⟩⟩,HB⟩
      · have hcat:=hoz
        have HEE:=Aside0.mk (show _∧_ from⟨ho,hoz⟩)
        obtain⟨q4,q5,q6⟩:True∧True∧True:=⟨trivial,trivial,trivial⟩;clear ho;have HX:Aside0 (∀W,Calls Tryd.prog 52 #[.agg #[.int .i64 k,.int .i64 r,.int .i64 s,.int .i64 t,.int .i64 vk,.int .i64 vn],.string ⟨#[86]⟩] W fun e w'=>e= .returned (.bool (hasV k))∧Below W.heap.size W w'):=⟨fun W=>by rw[←hasC_V];exact HH.out 86 W⟩
        obtain⟨b,hbq⟩: ∃b,hasV k=b:=⟨_,rfl⟩;rw[hbq]at HX
        obtain⟨X,hX⟩: ∃X,X=vtext vk vn:=⟨_,rfl⟩;have hX3:X.size≤4:=by rw[hX];exact vtext_le4 _ _
        rw[←hX]at HV
        have HXV:=Aside0.mk (show _∧_ from⟨hX,hbq⟩)
        obtain⟨q1,q2,q3⟩:=cat1 X (by omega)
        obtain⟨q4,q5,q6⟩:=catB o X (by omega) (by omega)
        clear hX hX3 hoz hcat hbq;cases b with
        |false=>
          go_wp2_with (go_at_call 52;(with_reducible refine(HX.out _).mono ?_);rintro e w4 ⟨rfl,hb⟩;replace HB:=Aside0.mk (HB.out.step hb);clear hb)
          go_ret
          exact⟨by rw[HEE.out.1,HXV.out.2];rfl,HB.out.below⟩
        |true=>
          go_wp2_with (first
            |(go_at_call 52;(with_reducible refine(HX.out _).mono ?_);rintro e w4 ⟨rfl,hb⟩;replace HB:=Aside0.mk (HB.out.step hb);clear hb c0 c1 c2 c3 c4 c5;obtain⟨c0,c1,c2,c3,c4,c5⟩:=box6 HB.out.blk)
            |(go_at_call 19;(with_reducible refine(HV.out _ HB.out.below).mono ?_);rintro e w5 ⟨rfl,hb⟩;replace HB:=Aside0.mk (HB.out.step hb);clear hb))
          go_ret
          exact⟨by rw[HEE.out.1,HXV.out.2,←HXV.out.1];unfold addS;rw[if_pos rfl,ByteArray.append_assoc];rfl,HB.out.below⟩
theorem l6_ok (n:Int) (h0: -100<n) (h1:n<100):spec_l6Dec.f 5 n=some ⟨(itoaS n).toArray⟩:=by
  have h: ∀i∈List.range 199,spec_l6Dec.f 5 ((i:Int)-99)=some ⟨(itoaS ((i:Int)-99)).toArray⟩:=by decide+kernel
  have:=h (n+99).toNat (by simp;omega)
  rwa [show(((n+99).toNat:Nat):Int)-99=n by omega]at this
theorem specOk_f (k n:Int):spec_ValOk.f k n=some (okB k n):=by
  unfold spec_ValOk.f okB okP spec_l6In.f;by_cases h0:k=0
  · subst h0;simp;by_cases n=0<;>simp[*]
  by_cases h1:k=1
  · subst h1;simp;by_cases h: -99≤n<;>by_cases h':n≤99<;>simp[*]
  by_cases h2:k=2
  · subst h2;simp;by_cases h:0≤n<;>by_cases h':n≤9<;>simp[*]
  by_cases h3:k=3
  · subst h3;simp;by_cases h:1≤n<;>by_cases h':n≤6<;>simp[*]
  simp[h0,h1,h2,h3]
theorem specText_f (k n:Int):spec_ValText.f 5 k n=some (vtext k n):=by
  unfold spec_ValText.f vtext;rw[specOk_f];by_cases h:okB k n=true
  · rw[h]
    simp only[Option.bind_some,if_true]
    by_cases h0:k=0
    · rw[if_pos h0,if_pos h0]
    · rw[if_neg h0,if_neg h0]
      have hp:=okB_true.1 h;have hk:k=1∨k=2∨k=3:=by unfold okP at hp;omega
      rw[l6_ok n (by unfold okP at hp;omega) (by unfold okP at hp;omega)]
      have hs:(itoaS n).length≤3:=by unfold itoaS dec2;split<;>split<;>simp
      obtain⟨X,hX⟩: ∃X,X=itoaS n:=⟨_,rfl⟩;rw[←hX]at hs⊢
      clear hX hp h h0;simp only[Option.bind_some]
      have hsz: ∀c:UInt8,(ByteArray.mk #[c]).size+(ByteArray.mk X.toArray).size≤9223372036854775807:=fun c=>by
        have:(ByteArray.mk X.toArray).size=X.length:=by simp[ByteArray.size]
        rw[this];show 1+X.length≤_;omega
      rcases hk with rfl|rfl|rfl
      · rw[if_pos (by decide),if_pos (by decide)];exact(if_pos (hsz 110)).trans rfl
      · rw[if_pos (by decide),if_pos (by decide)];exact(if_pos (hsz 97)).trans rfl
      · rw[if_pos (by decide),if_pos (by decide)];exact(if_pos (hsz 114)).trans rfl
  · simp only[Bool.not_eq_true]at h
    rw[h];simp
theorem l6_ok8 (n:Int) (h0: -100<n) (h1:n<100):spec_l6Dec.f 8 n=some (decB n):=by
  have h: ∀i∈List.range 199,spec_l6Dec.f 8 ((i:Int)-99)=some (decB ((i:Int)-99)):=by decide+kernel
  have:=h (n+99).toNat (by simp;omega)
  rwa [show(((n+99).toNat:Nat):Int)-99=n by omega]at this
theorem l6_up (n:Int) (h0: -100<n) (h1:n<100):spec_l6Dec.f 5 n=spec_l6Dec.f 8 n:=by
  rw[l6_ok8 n h0 h1,l6_ok n h0 h1];rfl
theorem specText_f8 (k n:Int):spec_ValText.f 8 k n=some (vtext k n):=by
  rw[←specText_f k n];unfold spec_ValText.f;rw[specOk_f];by_cases h:okB k n=true
  · have hp:=okB_true.1 h
    by_cases h0:k=0
    · subst h0;rfl
    · rw[l6_up n (by unfold okP at hp;omega) (by unfold okP at hp;omega)]
  · simp only[Bool.not_eq_true]at h
    rw[h];simp
theorem addN_f (b:Bool) (out:ByteArray) (n:Int) (h0: -100<n) (h1:n<100):addN b out n=some (addS b out (decB n)):=by
  unfold addN addS;cases b with
  |false=>simp
  |true=>rw[if_pos rfl,if_pos rfl,l6_ok8 n h0 h1,Option.bind_some,if_pos (by have:=dec_size n;omega)]
theorem addV_f (b:Bool) (out:ByteArray) (k n:Int):addV b out k n=some (addS b out (vtext k n)):=by
  unfold addV addS;cases b with
  |false=>simp
  |true=>rw[if_pos rfl,if_pos rfl,specText_f8 k n,Option.bind_some,if_pos (by have:=vtext_le4 k n;omega)]
theorem otext_f (k r s t vk vn:Int):otextV.f k r s t vk vn=some (opText k r s t vk vn):=by
  unfold otextV.f opText;by_cases h:opB k r s t vk vn=true
  · have hp:=opB_true.1 h
    have hr: -100<r∧r<100∧ -100<s∧s<100∧ -100<t∧t<100:=by
      obtain⟨_,_,a,b,c,_⟩:=hp;omega
    rw[if_pos h,if_pos h,addN_f _ _ _ (by omega) (by omega),Option.bind_some,addN_f _ _ _ (by omega) (by omega),Option.bind_some,addN_f _ _ _ (by omega) (by omega),Option.bind_some,addV_f]
    rfl
  · rw[if_neg h,if_neg h]
theorem spec_OpText_any (k r s t vk vn:Int) (w:World):
    Calls Tryd.prog 22 #[.agg #[.int .i64 k,.int .i64 r,.int .i64 s,.int .i64 t,.int .i64 vk,.int .i64 vn]] w fun e w'=>e= .returned (.string (opText k r s t vk vn))∧Below w.heap.size w w':=
  spec_OpText.calls k r s t vk vn _ w (otext_f k r s t vk vn)
def opS (x:S35):Bool:=opB x.f0 x.f1 x.f2 x.f3 x.f4.f0 x.f4.f1
def wrongB (n:Nat) (x:S35):Bool:= !(opS x)||(hasT x.f0&&decide ((n:Int)≤x.f3))
def codeB (l:List S35):Bool:=decide (1≤l.length∧l.length≤16)&& !(l.any (wrongB l.length))
def codeV.f (l:List S35):Option Bool:=some (codeB l)
theorem wrong_any (A0:Option Addr) (n c0 B:Nat) (k r s t vk vn:Int) (w:World) (hB:w.heap[B]?=some (.cells #[.slice A0 n c0] 48 (0,0))):
    Calls Tryd.prog 78 #[.agg #[.int .i64 k,.int .i64 r,.int .i64 s,.int .i64 t,.int .i64 vk,.int .i64 vn],.pointer (some ⟨B,0,none⟩)] w fun e w'=>e= .returned (.bool (!(opB k r s t vk vn)||(hasT k&&decide ((n:Int)≤t))))∧Below w.heap.size w w':=by
  have hOk:=fun W:World=>impl_OpOk.calls k r s t vk vn (opB k r s t vk vn) W rfl
  have hHas:=fun W:World=>has_any k r s t vk vn 84 W
  rw[hasC_T]at hHas
  have ltB:=blk_lt hB;obtain⟨g,hg⟩: ∃g,g=opB k r s t vk vn:=⟨_,rfl⟩;obtain⟨h,hh⟩: ∃h,h=hasT k:=⟨_,rfl⟩;rw[←hg]at hOk⊢
  rw[←hh]at hHas⊢
  clear hg hh;have BK:Aside0 ((w.alloc (.cells #[.int .i64 k,.int .i64 r,.int .i64 s,.int .i64 t,.int .i64 vk,.int .i64 vn] 35)).heap[w.heap.size]?=some (.cells #[.int .i64 k,.int .i64 r,.int .i64 s,.int .i64 t,.int .i64 vk,.int .i64 vn] 35 (0,0))):=⟨blk_new _ _⟩;have BB:Aside0 ((w.alloc (.cells #[.int .i64 k,.int .i64 r,.int .i64 s,.int .i64 t,.int .i64 vk,.int .i64 vn] 35)).heap[B]?=some (.cells #[.slice A0 n c0] 48 (0,0))):=⟨blk_alloc hB _⟩;have HB:=Aside0.mk (below_alloc (Below.refl w.heap.size w) (.cells #[.int .i64 k,.int .i64 r,.int .i64 s,.int .i64 t,.int .i64 vk,.int .i64 vn] 35));clear hB ltB;cases g<;>cases h
  all_goals go_enter Tryd.func78,Tryd.ntmps78
  all_goals go_wp2_with (first|(go_at_call 38;refine(hOk _).mono ?_;rintro e w' ⟨rfl,hb⟩;have BK1:=Aside0.mk (blk_below BK.out hb);have BB1:=Aside0.mk (blk_below BB.out hb);have HB1:=Aside0.mk (below_step HB.out hb);clear HB BK BB hb;have HB:=HB1;have BK:=BK1;have BB:=BB1;clear HB1 BK1 BB1;obtain⟨q0,q1,q2,q3,q4,q5⟩:w'.cell? ⟨w.heap.size,0,none⟩=some (.int .i64 k)∧w'.cell? ⟨w.heap.size,1,none⟩=some (.int .i64 r)∧w'.cell? ⟨w.heap.size,2,none⟩=some (.int .i64 s)∧w'.cell? ⟨w.heap.size,3,none⟩=some (.int .i64 t)∧w'.cell? ⟨w.heap.size,4,none⟩=some (.int .i64 vk)∧w'.cell? ⟨w.heap.size,5,none⟩=some (.int .i64 vn):=⟨(blk_cell BK.out 0).trans rfl,(blk_cell BK.out 1).trans rfl,(blk_cell BK.out 2).trans rfl,(blk_cell BK.out 3).trans rfl,(blk_cell BK.out 4).trans rfl,(blk_cell BK.out 5).trans rfl⟩)|(go_at_call 52;refine(hHas _).mono ?_;rintro e w'2 ⟨rfl,hb⟩;have BK1:=Aside0.mk (blk_below BK.out hb);have BB1:=Aside0.mk (blk_below BB.out hb);have HB1:=Aside0.mk (below_step HB.out hb);clear HB BK BB hb;have HB:=HB1;have BK:=BK1;have BB:=BB1;clear HB1 BK1 BB1;have u3:w'2.cell? ⟨w.heap.size,3,none⟩=some (.int .i64 t):=(blk_cell BK.out 3).trans rfl;have u0:w'2.cell? ⟨B,0,none⟩=some (.slice A0 n c0):=(blk_cell BB.out 0).trans rfl))
  all_goals go_ret
  all_goals exact⟨by simp,HB.out⟩
def aggS (x:S35):Value:=.agg #[.int .i64 x.f0,.int .i64 x.f1,.int .i64 x.f2,.int .i64 x.f3,.int .i64 x.f4.f0,.int .i64 x.f4.f1]
def FoundAt (p:S35→Bool) (l:List S35) (i:Int):Prop:=(0≤i∧l.any p=true)∨(i= -1∧l.any p=false)
theorem found_yes {p:S35→Bool} {l:List S35} {kk:Nat} (h:kk<l.length) (hp:p (rd_T35 l kk)=true):FoundAt p l kk:=by
  refine .inl ⟨by omega,List.any_eq_true.2 ⟨rd_T35 l kk,?_,hp⟩⟩
  unfold rd_T35;rw[List.getD_eq_getElem?_getD,Int.toNat_natCast,List.getElem?_eq_getElem h];exact List.getElem_mem h
theorem found_no {p:S35→Bool} {l:List S35} (h: ∀j,j<l.length→p (rd_T35 l (j:Nat))=false):FoundAt p l (-1):=by
  refine .inr ⟨rfl,List.any_eq_false.2 fun x hx=> ?_⟩
  obtain⟨j,hj,rfl⟩:=List.mem_iff_getElem.1 hx;have:=h j hj;unfold rd_T35 at this;rw[List.getD_eq_getElem?_getD,Int.toNat_natCast,List.getElem?_eq_getElem hj]at this
  simpa using this
theorem index_ops (p:S35→Bool) (g:Nat) (lb:Array Value) (eg: ∀args w,(callFunc g args).run Tryd.prog w= .ok (.enter g args) w) (A0:Option Addr) (c0:Nat) (l0:List S35) (w:World)
    (hr0:Kd.C k35 w A0 l0.length l0) (hl:l0.length≤16)
    (hp: ∀ (W:World) (x:S35),Below w.heap.size w W→Calls Tryd.prog g (#[aggS x]++lb) W fun e w'=>e= .returned (.bool (p x))∧Below w.heap.size w w'):
    Calls Tryd.prog 90 #[.slice A0 l0.length c0,.func (.func g) #[] lb] w fun e w'=> ∃i,e= .returned (.int .i64 i)∧FoundAt p l0 i∧Below w.heap.size w w':=by
  have HR0:=Aside0.mk hr0;clear hr0;go_enter Tryd.func90,Tryd.ntmps90
  go_wp2
  go_loopg [5,8] l0.length (fun gg _ s8 wr=> ∃kk:Nat,kk≤l0.length∧l0.length-kk≤gg∧s8= .int .i64 kk∧Aside (Below w.heap.size w wr)∧Aside (∀j,j<kk→p (rd_T35 l0 (j:Nat))=false))
  case atStart=>exact⟨0,Nat.zero_le _,by omega,rfl,Below.refl _ w,fun j hj=>absurd hj (Nat.not_lt_zero _)⟩
  case round=>
    obtain⟨kk,hkk,hgg,rfl,BW,A⟩:=hrel;by_cases hlt:kk<l0.length
    · have hltz:(kk:Int)<(l0.length:Int):=by omega
      have h0z:0≤(kk:Int):=by omega
      obtain⟨ad,e,x0,x1,x2,x3,x4,x5⟩:=at_T35 HR0.out (kk:Int) h0z hltz;subst e;rw[Int.toNat_natCast]at x0 x1 x2 x3 x4 x5
      replace x0:=(BW.out.cell (World.block_lt_of_cell? w _ x0)).trans x0;replace x1:=(BW.out.cell (World.block_lt_of_cell? w _ x1)).trans x1;replace x2:=(BW.out.cell (World.block_lt_of_cell? w _ x2)).trans x2;replace x3:=(BW.out.cell (World.block_lt_of_cell? w _ x3)).trans x3;replace x4:=(BW.out.cell (World.block_lt_of_cell? w _ x4)).trans x4;replace x5:=(BW.out.cell (World.block_lt_of_cell? w _ x5)).trans x5;have hcall:=hp wr (rd_T35 l0 (kk:Int)) BW.out;unfold aggS at hcall;clear hp;obtain⟨y,hy0⟩: ∃y,y=rd_T35 l0 (kk:Int):=⟨_,rfl⟩;rw[←hy0]at hcall x0 x1 x2 x3 x4 x5
      have hy:=Aside0.mk hy0;clear hy0;cases hq:p y with
      |true=>
        rw[hq]at hcall
        go_wp2_with (go_at_fn g;refine hcall.mono ?_;rintro e w' ⟨rfl,hb'⟩)
        go_ret
        exact⟨_,rfl,found_yes hlt (by rw[←hy.out];exact hq),hb'⟩
      |false=>
        rw[hq]at hcall
        go_wp2_with (go_at_fn g;refine hcall.mono ?_;rintro e w' ⟨rfl,hb'⟩)
        go_roundg (l0.length- (kk+1))
        case measure=>omega
        case rel=>
          refine⟨kk+1,by omega,by omega,by go_num,hb',(show Aside _ from fun j hj=> ?_)⟩
          by_cases e:j=kk
          · subst e
            rw[←hy.out];exact hq
          · exact A.out j (by omega)
    · have hltz: ¬(kk:Int)<(l0.length:Int):=by omega
      have:kk=l0.length:=by omega
      subst this;go_wp2
      go_ret
      exact⟨_,rfl,found_no A.out,BW.out⟩
theorem contains_ops (p:S35→Bool) (g:Nat) (lb:Array Value) (eg: ∀args w,(callFunc g args).run Tryd.prog w= .ok (.enter g args) w) (A0:Option Addr) (c0:Nat) (l0:List S35) (w:World)
    (hr0:Kd.C k35 w A0 l0.length l0) (hl:l0.length≤16)
    (hp: ∀ (W:World) (x:S35),Below w.heap.size w W→Calls Tryd.prog g (#[aggS x]++lb) W fun e w'=>e= .returned (.bool (p x))∧Below w.heap.size w w'):
    Calls Tryd.prog 79 #[.slice A0 l0.length c0,.func (.func g) #[] lb] w fun e w'=>e= .returned (.bool (l0.any p))∧Below w.heap.size w w':=by
  have hx:=index_ops p g lb eg A0 c0 l0 w hr0 hl hp;clear hr0 hp;go_enter Tryd.func79,Tryd.ntmps79
  go_wp2_with (go_at_call 90;refine hx.mono ?_;rintro e w' ⟨i,rfl,hi,hb⟩)
  go_ret
  refine⟨?_,hb⟩
  rcases hi with ⟨h0,h1⟩|⟨rfl,h1⟩
  · rw[h1];simp[h0]
  · rw[h1];rfl
theorem impl_CodeOk.calls (A0:Option Addr) (c0:Nat) (l0:List S35) (r:Bool) (w:World) (hr0:Kd.C k35 w A0 l0.length l0) (hc0:l0.length≤c0) (h:codeV.f l0=some r):
    Calls Tryd.prog 59 #[.slice A0 l0.length c0] w fun e w'=>e= .returned (.bool r)∧Below w.heap.size w w':=by
  have h:=Aside0.mk (Option.some.inj h);have HR0:=Aside0.mk hr0;clear hr0;by_cases hl:1≤l0.length∧l0.length≤16
  · have b1:(decide (1≤l0.length∧l0.length≤16))=true:=decide_eq_true hl
    have b2:(decide (1≤(l0.length:Int)∧(l0.length:Int)≤16))=true:=decide_eq_true (by omega)
    obtain⟨w1,hw1⟩: ∃w1,w1=w.alloc (.cells #[.slice A0 l0.length c0] 48):=⟨_,rfl⟩
    have hx:=contains_ops (wrongB l0.length) 78 #[.pointer (some ⟨w.heap.size,0,none⟩)] (fun _ _=>by kernel_rfl) A0 c0 l0 w1 (by rw[hw1];exact Kd.C_alloc HR0.out _) hl.2 (fun W x hb=>by
      have hB:W.heap[w.heap.size]?=some (.cells #[.slice A0 l0.length c0] 48 (0,0)):=by
        have:=blk_new w (.cells #[.slice A0 l0.length c0] 48);rw[←hw1]at this
        exact blk_below this hb
      refine(wrong_any A0 l0.length c0 w.heap.size x.f0 x.f1 x.f2 x.f3 x.f4.f0 x.f4.f1 W hB).mono ?_
      rintro e w' ⟨rfl,hb'⟩
      exact⟨rfl,below_step hb hb'⟩)
    rw[hw1]at hx
    go_enter Tryd.func59,Tryd.ntmps59
    go_wp2_with (first|(go_at_call 55;refine(in_any _ _ _ _).mono ?_;rintro e w' ⟨rfl,rfl⟩)|(go_at_call 79;refine hx.mono ?_;rintro e w' ⟨rfl,hb⟩))
    all_goals go_ret
    all_goals(refine⟨by rw[←h.out];unfold codeB;simp[b1],?_⟩)
    all_goals exact below_step (below_alloc (Below.refl _ _) _) hb
  · have b1:(decide (1≤l0.length∧l0.length≤16))=false:=decide_eq_false hl
    have b2:(decide (1≤(l0.length:Int)∧(l0.length:Int)≤16))=false:=decide_eq_false (by omega)
    go_enter Tryd.func59,Tryd.ntmps59
    go_wp2_with (first|(go_at_call 55;refine(in_any _ _ _ _).mono ?_;rintro e w' ⟨rfl,rfl⟩))
    all_goals go_ret
    all_goals(refine⟨by rw[←h.out];unfold codeB;simp[b1],?_⟩)
    all_goals exact below_alloc (Below.refl _ _) _
theorem w64 {x:Int} (h0: -9223372036854775808≤x) (h1:x≤9223372036854775807):wrap64 x=x:=by
  unfold wrap64;omega
theorem rd29_at (l:List S35) (i:Nat) (h:i<l.length):rd_T35 l (i:Int)=l[i]:=by
  unfold rd_T35;simp[List.getD_eq_getElem?_getD,List.getElem?_eq_getElem h]
theorem rd25_at (l:List S32) (i:Nat) (h:i<l.length):rd_T32 l (i:Int)=l[i]:=by
  unfold rd_T32;simp[List.getD_eq_getElem?_getD,List.getElem?_eq_getElem h]
instance:DecidableEq S25:=fun a b=>decidable_of_iff (a.f0=b.f0∧a.f1=b.f1) ⟨fun ⟨h,g⟩=>by cases a;cases b;simp_all,fun h=>by subst h;exact⟨rfl,rfl⟩⟩
instance:DecidableEq S35:=fun a b=>decidable_of_iff (a.f0=b.f0∧a.f1=b.f1∧a.f2=b.f2∧a.f3=b.f3∧a.f4=b.f4) ⟨fun ⟨h,g,i,j,k⟩=>by cases a;cases b;simp_all,fun h=>by subst h;exact⟨rfl,rfl,rfl,rfl,rfl⟩⟩
theorem goes_eq (k:Int):spec_l3Goes.f k=some (hasT k):=by
  unfold spec_l3Goes.f hasT;by_cases h5:k=5
  · subst h5;rfl
  rw[if_neg h5];by_cases h8:k=8
  · subst h8;rfl
  rw[if_neg h8];by_cases h9:k=9
  · subst h9;rfl
  rw[if_neg h9];by_cases h10:k=10
  · subst h10;rfl
  have:(k==10)=false:=by simpa using h10
  rw[this];simp[h5,h8,h9,h10]
theorem in_len (n:Nat):spec_l6In.f (n:Int) 1 16=some (decide (1≤n∧n≤16)):=by
  unfold spec_l6In.f;split
  · congr 1;exact decide_eq_decide.2 (by omega)
  · congr 1;symm;exact decide_eq_false (by omega)
theorem scode_loop (l:List S35) (hm:l.length≤9223372036854775807) (d:Nat): ∀ (k i:Nat),l.length-i=d→i≤l.length→2*d<k→
    spec_CodeOk.l0 k l i=some (decide (1≤l.length∧l.length≤16)&& !((l.drop i).any (wrongB l.length))):=by
  induction d with
  |zero=>
    intro k i hd hi hk;obtain⟨k,rfl⟩: ∃m,k=m+1:=⟨k-1,by omega⟩
    simp only[spec_CodeOk.l0]
    rw[if_neg (by omega),List.drop_of_length_le (by omega),in_len];simp
  |succ d ih=>
    intro k i hd hi hk;obtain⟨k,rfl⟩: ∃m,k=m+1:=⟨k-1,by omega⟩
    obtain⟨k,rfl⟩: ∃m,k=m+1:=⟨k-1,by omega⟩
    simp only[spec_CodeOk.l0]
    have d0:l.drop i=l[i]'(by omega)::l.drop (i+1):=List.drop_eq_getElem_cons (by omega)
    rw[if_pos (by omega),if_pos (by omega),rd29_at l i (by omega),d0]
    obtain⟨x,hx⟩: ∃x,l[i]'(by omega)=x:=⟨_,rfl⟩
    rw[hx];have hw:wrongB l.length x=(!(opS x)||(hasT x.f0&&decide ((l.length:Int)≤x.f3))):=rfl
    have step: ∀b:Bool,spec_CodeOk.j1 (k+1) l i b=if b=true then some false else some (decide (1≤l.length∧l.length≤16)&& !((l.drop (i+1)).any (wrongB l.length))):=fun b=>by
      simp only[spec_CodeOk.j1]
      rw[w64 (by omega) (by omega),show((i:Int)+1)=((i+1:Nat):Int)from by omega,ih k (i+1) (by omega) (by omega) (by omega)]
    have ho:opV.f x.f0 x.f1 x.f2 x.f3 x.f4.f0 x.f4.f1=some (opS x):=rfl;rw[ho,goes_eq];simp only[Option.bind_some,step,List.any_cons,hw]
    cases opS x<;>cases hasT x.f0<;>by_cases ht:(l.length:Int)≤x.f3<;>simp[ht]
theorem scode_eq (l:List S35) (hm:l.length≤9223372036854775807):spec_CodeOk.f (2*l.length+1) l=some (codeB l):=by
  unfold spec_CodeOk.f;exact scode_loop l hm l.length _ 0 (by omega) (by omega) (by omega)
theorem spec_CodeOk_as.calls (A0:Option Addr) (c0:Nat) (l0:List (S35)) (r:Bool) (w:World) (hr0:Kd.C k35 w A0 l0.length l0) (hc0:l0.length≤c0) (h:codeV.f l0=some r):
    Calls Tryd.prog 58 #[.slice A0 l0.length c0] w fun e w'=>e= .returned (.bool r)∧Below w.heap.size w w':=
  spec_CodeOk.calls _ A0 c0 l0 r w hr0 hc0 ((scode_eq l0 (Kd.C_max hr0)).trans h)
def toS (x:S32):S35:=⟨x.f0,x.f1,x.f2,x.f3,⟨x.f4.f0,x.f4.f1⟩⟩
def toOpsV.f (l:List S32):Option (List S35):=if l.length≤5864062014805 then some (l.map toS)else none
theorem toOps_loop (l:List S32) (hm:l.length≤9223372036854775807) (d:Nat): ∀ (k i:Nat) (x:List S35),x.length=l.length→l.length-i=d→i≤l.length→d<k→
    laws_toOpS.l0 k l x i=some (x.take i++(l.drop i).map toS):=by
  induction d with
  |zero=>
    intro k i x hx hd hi hk;obtain⟨k,rfl⟩: ∃m,k=m+1:=⟨k-1,by omega⟩
    simp only[laws_toOpS.l0]
    rw[if_neg (by omega),List.take_of_length_le (by omega),List.drop_of_length_le (by omega)];simp
  |succ d ih=>
    intro k i x hx hd hi hk;obtain⟨k,rfl⟩: ∃m,k=m+1:=⟨k-1,by omega⟩
    simp only[laws_toOpS.l0]
    have d0:l.drop i=l[i]'(by omega)::l.drop (i+1):=List.drop_eq_getElem_cons (by omega)
    rw[if_pos (by omega),if_pos (by omega),rd25_at l i (by omega),d0]
    unfold laws_toOp.f laws_toVal.f;simp only[Option.bind_some]
    rw[if_pos (by omega),w64 (by omega) (by omega),show((i:Int)+1)=((i+1:Nat):Int)from by omega,Int.toNat_natCast,ih k (i+1) _ (by simpa using hx) (by omega) (by omega) (by omega)]
    congr 1
    rw[List.take_succ_eq_append_getElem (by simp;omega),List.take_set_of_le (by omega),List.getElem_set_self,List.append_assoc]
    rfl
theorem toOps_eq (l:List S32) (hm:l.length≤9223372036854775807):laws_toOpS.f (l.length+1) l=toOpsV.f l:=by
  unfold laws_toOpS.f toOpsV.f;rw[if_pos (by omega)]
  simp only[Int.toNat_natCast]
  by_cases h:l.length≤5864062014805
  · rw[if_pos h,if_pos h]
    have:=toOps_loop l hm l.length (l.length+1) 0 (List.replicate l.length z35) (by simp) (by omega) (by omega) (by omega)
    simpa using this
  · rw[if_neg h,if_neg h]
theorem laws_toOpS_as.calls (A0:Option Addr) (c0:Nat) (l0:List (S32)) (r:List (S35)) (w:World) (hr0:Kd.C k32 w A0 l0.length l0) (hc0:l0.length≤c0) (h:toOpsV.f l0=some r):
    Calls Tryd.prog 33 #[.slice A0 l0.length c0] w fun e w'=> ∃v0_:Value,e= .returned (v0_)∧Kd.R k35 35 w' w.heap.size (fun _=>True) v0_ r∧Below w.heap.size w w':=
  laws_toOpS.calls (l0.length+1) A0 c0 l0 r w hr0 hc0 ((toOps_eq l0 (Kd.C_max hr0)).trans h)
def eqOpsV.f (l0 l1:List S35):Option Bool:=some (decide (l0=l1))
theorem eqOps_same (l:List S35):eqOpsV.f l l=some true:=by unfold eqOpsV.f;simp
theorem eqOp_eq (a b:S35):laws_eqOp.f a.f0 a.f1 a.f2 a.f3 a.f4.f0 a.f4.f1 b.f0 b.f1 b.f2 b.f3 b.f4.f0 b.f4.f1=some (decide (a=b)):=by
  obtain⟨a0,a1,a2,a3,a4,a5⟩:=a;obtain⟨b0,b1,b2,b3,b4,b5⟩:=b;unfold laws_eqOp.f laws_eqVal.f;simp only[]
  by_cases h0:a0=b0<;>by_cases h1:a1=b1<;>by_cases h2:a2=b2<;>by_cases h3:a3=b3<;>by_cases h4:a4=b4<;>by_cases h5:a5=b5<;>simp[h0,h1,h2,h3,h4,h5]
theorem eqOps_loop (l0 l1:List S35) (hl:l0.length=l1.length) (hm:l0.length≤9223372036854775807) (d:Nat): ∀ (k i:Nat),l0.length-i=d→i≤l0.length→d<k→
    laws_eqOpS.l0 k l0 l1 i=some (decide (l0.drop i=l1.drop i)):=by
  induction d with
  |zero=>
    intro k i hd hi hk;obtain⟨k,rfl⟩: ∃m,k=m+1:=⟨k-1,by omega⟩
    simp only[laws_eqOpS.l0]
    rw[if_neg (by omega),List.drop_of_length_le (by omega),List.drop_of_length_le (by omega)];simp
  |succ d ih=>
    intro k i hd hi hk;obtain⟨k,rfl⟩: ∃m,k=m+1:=⟨k-1,by omega⟩
    simp only[laws_eqOpS.l0]
    have d0:l0.drop i=l0[i]'(by omega)::l0.drop (i+1):=List.drop_eq_getElem_cons (by omega)
    have d1:l1.drop i=l1[i]'(by omega)::l1.drop (i+1):=List.drop_eq_getElem_cons (by omega)
    rw[if_pos (by omega),if_pos (by omega),if_pos (by omega),rd29_at l0 i (by omega),rd29_at l1 i (by omega),d0,d1,eqOp_eq]
    simp only[Option.bind_some]
    by_cases he:l0[i]'(by omega)=l1[i]'(by omega)
    · rw[if_pos (by simpa using he),w64 (by omega) (by omega),show((i:Int)+1)=((i+1:Nat):Int)from by omega,ih k (i+1) (by omega) (by omega) (by omega),he]
      exact congrArg some (decide_eq_decide.2 ⟨fun h=>by rw[h],fun h=>(List.cons.inj h).2⟩)
    · rw[if_neg (by simpa using he)]
      exact congrArg some (decide_eq_false (fun h=>he (List.cons.inj h).1)).symm
theorem eqOps_eq (l0 l1:List S35) (hm:l0.length≤9223372036854775807):laws_eqOpS.f (l0.length+1) l0 l1=some (decide (l0=l1)):=by
  unfold laws_eqOpS.f;by_cases hl:l0.length=l1.length
  · rw[if_pos (by omega)]
    have:=eqOps_loop l0 l1 hl hm l0.length (l0.length+1) 0 (by omega) (by omega) (by omega)
    simpa using this
  · rw[if_neg (by omega)]
    have:l0≠l1:=fun e=>hl (by rw[e])
    simp[this]
theorem laws_eqOpS_as.calls (A0:Option Addr) (c0:Nat) (l0:List (S35)) (A1:Option Addr) (c1:Nat) (l1:List (S35)) (r:Bool) (w:World) (hr0:Kd.C k35 w A0 l0.length l0) (hc0:l0.length≤c0) (hr1:Kd.C k35 w A1 l1.length l1) (hc1:l1.length≤c1) (h:eqOpsV.f l0 l1=some r):
    Calls Tryd.prog 35 #[.slice A0 l0.length c0,.slice A1 l1.length c1] w fun e w'=>e= .returned (.bool r)∧Below w.heap.size w w':=
  laws_eqOpS.calls (l0.length+1) A0 c0 l0 A1 c1 l1 r w hr0 hc0 hr1 hc1 ((eqOps_eq l0 l1 (Kd.C_max hr0)).trans h)
def opTextS (x:S35):ByteArray:=opText x.f0 x.f1 x.f2 x.f3 x.f4.f0 x.f4.f1
def lineL (x:S35):List UInt8:=(opTextS x).data.toList++ [10]
def textL (l:List S35):List UInt8:=(l.map lineL).flatten
def codeText (l:List S35):ByteArray:=if codeB l=true then⟨(textL l).toArray⟩else⟨#[]⟩
theorem opText_size (k r s t vk vn:Int):(opText k r s t vk vn).size≤30:=by
  unfold opText;split
  · rename_i h
    have h1:=add_size (hasV k) (outT k r s t) (vtext vk vn);have h2:=add_size (hasT k) (outS k r s) (decB t);have h3:=add_size (hasS k) (outR k r) (decB s);have h4:=add_size (hasR k) (nameB k) (decB r);have:=name_le k (opB_true.1 h).1;have:=dec_size r;have:=dec_size s;have:=dec_size t;have:=vtext_le4 vk vn;unfold outT outS outR at*;omega
  · exact Nat.zero_le _
theorem line_len (x:S35):(lineL x).length≤31:=by
  have:=opText_size x.f0 x.f1 x.f2 x.f3 x.f4.f0 x.f4.f1;unfold lineL opTextS;rw[List.length_append];have:(opText x.f0 x.f1 x.f2 x.f3 x.f4.f0 x.f4.f1).data.toList.length=(opText x.f0 x.f1 x.f2 x.f3 x.f4.f0 x.f4.f1).size:=by rw[Array.length_toList];rfl
  simp;omega
theorem text_len: ∀l:List S35,(textL l).length≤31*l.length
  | []=>Nat.le_refl _
  |x::l=>by
    have:=text_len l;have:=line_len x;unfold textL at*;simp only[List.map_cons,List.flatten_cons,List.length_append,List.length_cons]
    omega
theorem text_snoc (l:List S35) (i:Nat) (h:i<l.length):textL (l.take (i+1))=textL (l.take i)++lineL l[i]:=by
  unfold textL;have e:l.take (i+1)=l.take i++ [l[i]]:=by rw[List.take_succ_eq_append_getElem h]
  rw[e,List.map_append,List.flatten_append];rw[List.map_cons,List.map_nil,List.flatten_cons,List.flatten_nil,List.append_nil]
theorem builder_below {T e:TypeId} {B b:Nat} {bs:List Value} {W W':World} (h:Lib.IsBuilder T e B b bs W) (hb:Below W.heap.size W W'):Lib.IsBuilder T e B b bs W':=by
  have step: ∀p,Lib.BuilderAt T e B b p bs W→Lib.BuilderAt T e B b p bs W':=by
    rintro p ⟨h0,v,h1,⟨h2,h3⟩,h4⟩
    refine⟨h0,v,blk_below h1 hb,⟨h2,?_⟩,h4⟩
    rcases h3 with h3|⟨g,cap,cur,a1,a2,a3,a4⟩
    · exact .inl h3
    · exact .inr ⟨g,cap,cur,a1,a2,blk_below a3 hb,a4⟩
  rcases h with h|h
  · exact .inl (step _ h)
  · exact .inr (step _ h)
def BS (w W:World) (g:Nat) (l:List UInt8):Prop:=Lib.IsBuilder 81 5 w.heap.size g (Lib.byteCells l) W∧Below w.heap.size w W
theorem BS.below {w W:World} {g:Nat} {l:List UInt8} (h:BS w W g l):Below w.heap.size w W:=h.2
theorem BS.step {w W W':World} {g:Nat} {l:List UInt8} (h:BS w W g l) (hb:Below W.heap.size W W'):BS w W' g l:=⟨builder_below h.1 hb,below_step h.2 hb⟩
theorem BS.new {w W:World} (h:Below w.heap.size w W):BS w (W.alloc (.cells #[.pointer none,.slice none 0 0] 81)) W.heap.size []:=
  ⟨.inl ⟨h.size,.slice none 0 0,blk_new _ _,World.ownsRow_nil _ _ _ _,by simp[Value.ownBlock]⟩,below_alloc h _⟩
theorem BS.write {w W:World} {g:Nat} {l:List UInt8} (h:BS w W g l) (s:ByteArray) (hs:l.length+s.size≤1000000):
    Calls Tryd.prog 60 #[.pointer (some ⟨g,0,none⟩),.string s] W fun e w'=>e= .returned (.tuple #[.int .i64 s.size,.nilIface])∧BS w w' g (l++s.data.toList):=by
  refine(write_string w.heap.size g (Lib.byteCells l) s W h.1 (by rw[Lib.byteCells_length];omega) h.2.size).mono ?_
  rintro e w' ⟨rfl,h1,h2⟩
  refine⟨rfl,.inr ?_,h.2.trans h2⟩
  rwa [Lib.strCells_eq,←Lib.byteCells_append]at h1
theorem BS.say {w W:World} {g:Nat} {l:List UInt8} (h:BS w W g l):
    Calls Tryd.prog 61 #[.pointer (some ⟨g,0,none⟩)] W fun e w'=>e= .returned (.string ⟨l.toArray⟩)∧Below w.heap.size w w':=by
  refine(Tryd.Builder_String_any w.heap.size g l W h.1 h.2.size).mono ?_
  rintro e w' ⟨rfl,h2⟩
  exact⟨rfl,h.2.trans h2⟩
theorem cat10 (x:ByteArray) (hx:x.size≤1000):decide (x.size+1≤9223372036854775807)=true∧(9223372036854775807<x.size+1)=False∧(x.size+1≤9223372036854775807)=True:=
  ⟨decide_eq_true (by omega),eq_false (by omega),eq_true (by omega)⟩
theorem impl_CodeText_any (A0:Option Addr) (c0:Nat) (l0:List S35) (w:World) (hr0:Kd.C k35 w A0 l0.length l0) (hc0:l0.length≤c0) (hT:Tab w):
    Calls Tryd.prog 34 #[.slice A0 l0.length c0] w fun e w'=>e= .returned (.string (codeText l0))∧Below w.heap.size w w':=by
  have HT:=Aside0.mk hT;have HR0:=Aside0.mk hr0;clear hT;have HO:Aside0 (∀W,Below w.heap.size w W→Calls Tryd.prog 59 #[.slice A0 l0.length c0] W fun e w'=>e= .returned (.bool (codeB l0))∧Below W.heap.size W w'):=⟨fun W hW=>impl_CodeOk.calls A0 c0 l0 (codeB l0) W (Kd.C_below HR0.out hW) hc0 rfl⟩
  have HI:Aside0 (∀k r s t vk vn W,Below w.heap.size w W→Calls Tryd.prog 24 #[.agg #[.int .i64 k,.int .i64 r,.int .i64 s,.int .i64 t,.int .i64 vk,.int .i64 vn]] W fun e w'=>e= .returned (.string (opText k r s t vk vn))∧Below W.heap.size W w'):=⟨fun k r s t vk vn W hW=>impl_OpText_any k r s t vk vn W (HT.out.below hW)⟩
  have HB:=Aside0.mk (Below.refl w.heap.size w);unfold codeText;clear hr0 hc0;cases hc:codeB l0 with
  |false=>
    rw[hc]at HO
    clear hc;go_enter Tryd.func34,Tryd.ntmps34
    go_wp2_with (go_at_call 59;(with_reducible refine(HO.out _ HB.out).mono ?_);rintro e w1 ⟨rfl,hb⟩)
    go_ret
    exact⟨rfl,hb⟩
  |true=>
    have hl:l0.length≤16:=by
      unfold codeB at hc;simp only[Bool.and_eq_true,decide_eq_true_eq]at hc
      exact hc.1.2
    rw[hc]at HO
    rw[if_pos rfl];clear hc;go_enter Tryd.func34,Tryd.ntmps34
    go_upto_block 0 with (go_at_call 59;(with_reducible refine(HO.out _ HB.out).mono ?_);rintro e w1 ⟨rfl,hb⟩;replace HB:=Aside0.mk (below_step HB.out hb);clear hb)
    have HS:Aside0 (BS w (w1.alloc (.cells #[.pointer none,.slice none 0 0] 81)) w1.heap.size []):=⟨BS.new HB.out⟩;clear HO HB;revert HS
    generalize w1.alloc (.cells #[.pointer none,.slice none 0 0] 81)=w2;generalize w1.heap.size=g;intro HS;go_wp2
    go_loopg [5,11] l0.length (fun gg _ s11 wr=> ∃kk:Nat,kk≤l0.length∧l0.length-kk≤gg∧s11= .int .i64 kk∧Aside0 (BS w wr g (textL (l0.take kk))))
    case atStart=>exact⟨0,Nat.zero_le _,by omega,rfl,HS⟩
    case round=>
      clear HS;obtain⟨kk,hkk,hgg,rfl,HS⟩:=hrel;by_cases hlt:kk<l0.length
      · have hltz:(kk:Int)<(l0.length:Int):=by omega
        have h0z:0≤(kk:Int):=by omega
        obtain⟨ad,e,x0,x1,x2,x3,x4,x5⟩:=at_T35 HR0.out (kk:Int) h0z hltz;subst e;rw[Int.toNat_natCast]at x0 x1 x2 x3 x4 x5
        have BW:=Aside0.mk HS.out.below;replace x0:=(BW.out.cell (World.block_lt_of_cell? w _ x0)).trans x0;replace x1:=(BW.out.cell (World.block_lt_of_cell? w _ x1)).trans x1;replace x2:=(BW.out.cell (World.block_lt_of_cell? w _ x2)).trans x2;replace x3:=(BW.out.cell (World.block_lt_of_cell? w _ x3)).trans x3;replace x4:=(BW.out.cell (World.block_lt_of_cell? w _ x4)).trans x4;replace x5:=(BW.out.cell (World.block_lt_of_cell? w _ x5)).trans x5;have hsn:=text_snoc l0 kk hlt;rw[←rd29_at l0 kk hlt]at hsn
        have htl:(textL (l0.take kk)).length≤31*16:=Nat.le_trans (text_len _) (by rw[List.length_take];omega)
        obtain⟨y,hy0⟩: ∃y,y=rd_T35 l0 (kk:Int):=⟨_,rfl⟩;rw[←hy0]at hsn x0 x1 x2 x3 x4 x5
        clear hy0;obtain⟨P,hP⟩: ∃P,P=textL (l0.take kk):=⟨_,rfl⟩;rw[←hP]at hsn HS htl
        have HX:Aside0 (∀W,Below w.heap.size w W→Calls Tryd.prog 24 #[.agg #[.int .i64 y.f0,.int .i64 y.f1,.int .i64 y.f2,.int .i64 y.f3,.int .i64 y.f4.f0,.int .i64 y.f4.f1]] W fun e w'=>e= .returned (.string (opTextS y))∧Below W.heap.size W w'):=⟨fun W hW=>HI.out _ _ _ _ _ _ W hW⟩
        have hz:(opTextS y).size≤30:=opText_size _ _ _ _ _ _;have hln:lineL y=(opTextS y++(⟨#[10]⟩:ByteArray)).data.toList:=by unfold lineL;simp
        rw[hln]at hsn
        obtain⟨X,hX⟩: ∃X,X=opTextS y:=⟨_,rfl⟩;rw[←hX]at HX hz hsn
        obtain⟨q1,q2,q3⟩:=cat10 X (by omega)
        have HN:=Aside0.mk (show _∧_∧_ from⟨hsn,hz,htl⟩)
        have HW:Aside0 (P.length+(X++(⟨#[10]⟩:ByteArray)).size≤1000000):=⟨by rw[ByteArray.size_append,show(⟨#[10]⟩:ByteArray).size=1 from rfl];omega⟩
        clear hX hP hsn hz htl hln BW
        go_wp2_with (first
          |(go_at_call 24;(with_reducible refine(HX.out _ (below_alloc HS.out.below _)).mono ?_);rintro e w3 ⟨rfl,hb⟩;replace HS:=Aside0.mk ((HS.out.step (below_alloc (Below.refl _ _) _)).step hb);clear hb)
          |(go_at_call 60;(with_reducible refine(HS.out.write (X++⟨#[10]⟩) HW.out).mono ?_);rintro e w4 ⟨rfl,hb⟩;rw[←HN.out.1]at hb;replace HS:=Aside0.mk hb;clear hb))
        go_roundg (l0.length- (kk+1))
        case measure=>omega
        case rel=>exact⟨kk+1,by omega,by omega,by go_num,HS⟩
      · have hltz: ¬(kk:Int)<(l0.length:Int):=by omega
        have:kk=l0.length:=by omega
        subst this;rw[List.take_length]at HS
        go_wp2_with (go_at_call 61;(with_reducible refine(HS.out.say).mono ?_);rintro e w4 ⟨rfl,hb⟩)
        go_ret
        exact⟨rfl,hb⟩
def byt (l:List UInt8):ByteArray:=⟨l.toArray⟩
theorem byt_size (l:List UInt8):(byt l).size=l.length:=by unfold byt;simp[ByteArray.size]
theorem byt_app (l:List UInt8) (x y:ByteArray):(byt l++x)++y=byt (l++(x++y).data.toList):=by
  refine Go.WideShapes.bytes_inj ?_
  unfold byt;simp
theorem cat2c (o x:ByteArray) (ho:o.size≤1000) (hx:x.size≤1000):decide (o.size+x.size≤9223372036854775807)=true∧(9223372036854775807<o.size+x.size)=False∧(o.size+x.size≤9223372036854775807)=True:=
  ⟨decide_eq_true (by omega),eq_false (by omega),eq_true (by omega)⟩
theorem cat3c (o x:ByteArray) (ho:o.size≤1000) (hx:x.size≤1000):decide (o.size+x.size+1≤9223372036854775807)=true∧(9223372036854775807<o.size+x.size+1)=False∧(o.size+x.size+1≤9223372036854775807)=True:=
  ⟨decide_eq_true (by omega),eq_false (by omega),eq_true (by omega)⟩
theorem spec_CodeText_any (A0:Option Addr) (c0:Nat) (l0:List S35) (w:World) (hr0:Kd.C k35 w A0 l0.length l0) (hc0:l0.length≤c0):
    Calls Tryd.prog 32 #[.slice A0 l0.length c0] w fun e w'=>e= .returned (.string (codeText l0))∧Below w.heap.size w w':=by
  have HR0:=Aside0.mk hr0;have HO:Aside0 (∀W,Below w.heap.size w W→Calls Tryd.prog 58 #[.slice A0 l0.length c0] W fun e w'=>e= .returned (.bool (codeB l0))∧Below W.heap.size W w'):=⟨fun W hW=>spec_CodeOk_as.calls A0 c0 l0 (codeB l0) W (Kd.C_below HR0.out hW) hc0 rfl⟩
  have HB:=Aside0.mk (Below.refl w.heap.size w);unfold codeText;clear hr0 hc0;cases hc:codeB l0 with
  |false=>
    rw[hc]at HO
    clear hc;go_enter Tryd.func32,Tryd.ntmps32
    go_wp2_with (go_at_call 58;(with_reducible refine(HO.out _ HB.out).mono ?_);rintro e w1 ⟨rfl,hb⟩)
    go_ret
    exact⟨rfl,hb⟩
  |true=>
    have hl:l0.length≤16:=by
      unfold codeB at hc;simp only[Bool.and_eq_true,decide_eq_true_eq]at hc
      exact hc.1.2
    rw[hc]at HO
    rw[if_pos rfl];clear hc;go_enter Tryd.func32,Tryd.ntmps32
    go_wp2_with (go_at_call 58;(with_reducible refine(HO.out _ HB.out).mono ?_);rintro e w1 ⟨rfl,hb⟩;replace HB:=Aside0.mk (below_step HB.out hb);clear hb)
    clear HO;go_loopg [3,4] l0.length (fun gg s3 s4 wr=> ∃kk:Nat,kk≤l0.length∧l0.length-kk≤gg∧s4= .int .i64 kk∧s3= .string (byt (textL (l0.take kk)))∧Aside0 (Below w.heap.size w wr))
    case atStart=>exact⟨0,Nat.zero_le _,by omega,rfl,rfl,HB⟩
    case round=>
      clear HB;obtain⟨kk,hkk,hgg,rfl,rfl,HS⟩:=hrel;by_cases hlt:kk<l0.length
      · have hltz:(kk:Int)<(l0.length:Int):=by omega
        have h0z:0≤(kk:Int):=by omega
        obtain⟨ad,e,x0,x1,x2,x3,x4,x5⟩:=at_T35 HR0.out (kk:Int) h0z hltz;subst e;rw[Int.toNat_natCast]at x0 x1 x2 x3 x4 x5
        replace x0:=(HS.out.cell (World.block_lt_of_cell? w _ x0)).trans x0;replace x1:=(HS.out.cell (World.block_lt_of_cell? w _ x1)).trans x1;replace x2:=(HS.out.cell (World.block_lt_of_cell? w _ x2)).trans x2;replace x3:=(HS.out.cell (World.block_lt_of_cell? w _ x3)).trans x3;replace x4:=(HS.out.cell (World.block_lt_of_cell? w _ x4)).trans x4;replace x5:=(HS.out.cell (World.block_lt_of_cell? w _ x5)).trans x5;have hsn:=text_snoc l0 kk hlt;rw[←rd29_at l0 kk hlt]at hsn
        have htl:(textL (l0.take kk)).length≤31*16:=Nat.le_trans (text_len _) (by rw[List.length_take];omega)
        obtain⟨y,hy0⟩: ∃y,y=rd_T35 l0 (kk:Int):=⟨_,rfl⟩;rw[←hy0]at hsn x0 x1 x2 x3 x4 x5
        clear hy0;obtain⟨P,hP⟩: ∃P,P=textL (l0.take kk):=⟨_,rfl⟩;rw[←hP]at hsn htl⊢
        have HX:Aside0 (∀W,Calls Tryd.prog 22 #[.agg #[.int .i64 y.f0,.int .i64 y.f1,.int .i64 y.f2,.int .i64 y.f3,.int .i64 y.f4.f0,.int .i64 y.f4.f1]] W fun e w'=>e= .returned (.string (opTextS y))∧Below W.heap.size W w'):=⟨fun W=>spec_OpText_any _ _ _ _ _ _ W⟩
        have hz:(opTextS y).size≤30:=opText_size _ _ _ _ _ _;have hln:lineL y=(opTextS y++(⟨#[10]⟩:ByteArray)).data.toList:=by unfold lineL;simp
        rw[hln]at hsn
        obtain⟨X,hX⟩: ∃X,X=opTextS y:=⟨_,rfl⟩;rw[←hX]at HX hz hsn
        have hZs:(byt P).size=P.length:=byt_size P;have hZ:byt (textL (l0.take (kk+1)))=(byt P++X)++⟨#[10]⟩:=by rw[hsn,byt_app]
        obtain⟨Z,hZZ⟩: ∃Z,Z=byt P:=⟨_,rfl⟩;rw[←hZZ]at hZ hZs⊢
        obtain⟨q1,q2,q3⟩:=cat2c Z X (by omega) (by omega)
        obtain⟨q4,q5,q6⟩:=cat3c Z X (by omega) (by omega)
        have hsa:(Z++X).size=Z.size+X.size:=ByteArray.size_append;have HN:=Aside0.mk hZ;clear hX hP hsn hz htl hln hZs hZZ hZ
        go_wp2_with (first
          |(go_at_call 22;(with_reducible refine(HX.out _).mono ?_);rintro e w3 ⟨rfl,hb⟩;replace HS:=Aside0.mk (below_step HS.out hb);clear hb))
        go_roundg (l0.length- (kk+1))
        case measure=>omega
        case rel=>exact⟨kk+1,by omega,by omega,by go_num,by rw[HN.out],HS⟩
      · have hltz: ¬(kk:Int)<(l0.length:Int):=by omega
        have:kk=l0.length:=by omega
        subst this;rw[List.take_length];go_wp2
        go_ret
        exact⟨rfl,HS.out⟩
def MadeOps (l:List S35) (W:World) (e:Ending) (w':World):Prop:= ∃A c,e= .returned (.slice A l.length c)∧l.length≤c∧Kd.C k35 w' A l.length l∧Below W.heap.size W w'
theorem exactCodeText (A0:Option Addr) (c0:Nat) (l0:List S32) (w:World) (hr0:Kd.C k32 w A0 l0.length l0) (hc0:l0.length≤c0) (hm:l0.length≤maxLen) (hT:Tab w):
    Calls Tryd.prog 11 #[.slice A0 l0.length c0] w fun e w'=>e= .returned (.bool true)∧Below w.heap.size w w':=by
  have HT:=Aside0.mk hT;have HR0:=Aside0.mk hr0;have HC0:=Aside0.mk hc0
  obtain⟨r,hr,hrl⟩: ∃r,laws_szOpS.f l0 1048576=some r∧(¬r<0→l0.length≤1048576):=by
    unfold laws_szOpS.f;unfold maxLen at hm;rw[w64 (by omega) (by omega)]
    split
    · exact⟨_,rfl,fun h=>absurd (by decide) h⟩
    · exact⟨_,rfl,fun h=>by omega⟩
  have HZ:Aside0 (∀W,Below w.heap.size w W→Calls Tryd.prog 31 #[.slice A0 l0.length c0,.int .i64 1048576] W fun e w'=>e= .returned (.int .i64 r)∧Below W.heap.size W w'):=⟨fun W hW=>(laws_szOpS.calls A0 c0 l0 1048576 r W (Kd.C_below HR0.out hW) HC0.out hr).mono fun e w' ⟨h1,h2⟩=>⟨h1,by obtain⟨n,rfl⟩:=h2;exact pw_below_drewN (Below.refl _ _) n⟩⟩
  have HB:=Aside0.mk (Below.refl w.heap.size w);clear hT hr0 hc0 hm hr;go_enter Tryd.func11,Tryd.ntmps11
  by_cases hneg:r<0
  · have e0:decide (r<0)=true:=decide_eq_true hneg
    clear hrl hneg;go_wp2_with (go_at_call 31;(with_reducible refine(HZ.out _ HB.out).mono ?_);rintro e w1 ⟨rfl,hb⟩;replace HB:=Aside0.mk (below_step HB.out hb);clear hb)
    go_ret
    exact⟨rfl,HB.out⟩
  have e0:decide (r<0)=false:=decide_eq_false hneg;have hl:=hrl hneg;clear hrl hneg;obtain⟨l,hlm⟩: ∃l,toOpsV.f l0=some l:=⟨_,by unfold toOpsV.f;rw[if_pos (by omega)]⟩
  have HM:Aside0 (∀W,Below w.heap.size w W→Calls Tryd.prog 33 #[.slice A0 l0.length c0] W (MadeOps l W)):=⟨fun W hW=>(laws_toOpS_as.calls A0 c0 l0 l W (Kd.C_below HR0.out hW) HC0.out hlm).mono fun e w' ⟨v,h1,h2,h3⟩=>by
    obtain⟨A,c,rfl,h5,h6⟩:=Kd.R_reads h2;exact⟨A,c,h1,h5,h6,h3⟩⟩
  have HS:Aside0 (∀A c W,l.length≤c→Kd.C k35 W A l.length l→Calls Tryd.prog 32 #[.slice A l.length c] W fun e w'=>e= .returned (.string (codeText l))∧Below W.heap.size W w'):=⟨fun A c W h1 h2=>spec_CodeText_any A c l W h2 h1⟩
  have HI:Aside0 (∀A c W,Below w.heap.size w W→l.length≤c→Kd.C k35 W A l.length l→Calls Tryd.prog 34 #[.slice A l.length c] W fun e w'=>e= .returned (.string (codeText l))∧Below W.heap.size W w'):=⟨fun A c W hW h1 h2=>impl_CodeText_any A c l W h2 h1 (HT.out.below hW)⟩
  have HE:Aside0 (∀A c A' c' W,l.length≤c→Kd.C k35 W A l.length l→l.length≤c'→Kd.C k35 W A' l.length l→Calls Tryd.prog 35 #[.slice A l.length c,.slice A' l.length c'] W fun e w'=>e= .returned (.bool true)∧Below W.heap.size W w'):=⟨fun A c A' c' W h1 h2 h3 h4=>laws_eqOpS_as.calls A c l A' c' l true W h2 h1 h4 h3 (eqOps_same l)⟩
  obtain⟨X,hX⟩: ∃X,X=codeText l:=⟨_,rfl⟩;rw[←hX]at HS HI
  clear hX hlm hl
  go_upto_region 6 with (first
    |(go_at_call 31;(with_reducible refine(HZ.out _ HB.out).mono ?_);rintro e w1 ⟨rfl,hb⟩;replace HB:=Aside0.mk (below_step HB.out hb);clear hb)
    |(go_at_call 33;(with_reducible refine(HM.out _ HB.out).mono ?_);rintro e w2 ⟨A1,c1,rfl,h1,h2,hb⟩;replace HB:=Aside0.mk (below_step HB.out hb);have HC1:=Aside0.mk h1;have HK1:=Aside0.mk h2;clear h1 h2 hb)
    |(go_at_call 32;(with_reducible refine(HS.out _ _ _ HC1.out HK1.out).mono ?_);rintro e w3 ⟨rfl,hb⟩;replace HB:=Aside0.mk (below_step HB.out hb);clear hb HC1 HK1))
  go_upto_region 10 with (first
    |(go_at_call 33;(with_reducible refine(HM.out _ HB.out).mono ?_);rintro e w4 ⟨A1,c1,rfl,h1,h2,hb⟩;replace HB:=Aside0.mk (below_step HB.out hb);have HC1:=Aside0.mk h1;have HK1:=Aside0.mk h2;clear h1 h2 hb)
    |(go_at_call 34;(with_reducible refine(HI.out _ _ _ HB.out HC1.out HK1.out).mono ?_);rintro e w5 ⟨rfl,hb⟩;replace HB:=Aside0.mk (below_step HB.out hb);replace HK1:=Aside0.mk (Kd.C_below HK1.out hb);clear hb))
  go_wp2_with (first
    |(go_at_call 33;(with_reducible refine(HM.out _ HB.out).mono ?_);rintro e w6 ⟨A2,c2,rfl,h1,h2,hb⟩;replace HB:=Aside0.mk (below_step HB.out hb);replace HK1:=Aside0.mk (Kd.C_below HK1.out hb);have HC2:=Aside0.mk h1;have HK2:=Aside0.mk h2;clear h1 h2 hb)
    |(go_at_call 35;(with_reducible refine(HE.out _ _ _ _ _ HC1.out HK1.out HC2.out HK2.out).mono ?_);rintro e w7 ⟨rfl,hb⟩;replace HB:=Aside0.mk (below_step HB.out hb);clear hb))
  go_ret
  exact⟨rfl,HB.out⟩
abbrev l32:String×DataW Unit:=("math/bits.deBruijn32tab",Rows.laid_math_bits_deBruijn32tab)
abbrev l64:String×DataW Unit:=("math/bits.deBruijn64tab",Rows.laid_math_bits_deBruijn64tab)
abbrev lpow:String×DataW Unit:=("internal/strconv.uint64pow10",Rows.laid_internal_strconv_uint64pow10)
abbrev laid3:List (String×DataW Unit):=[l32,l64,lpow]
theorem tab_of {r:List (String×DataW Unit)} {W:World} (h:laidMet Tryd.prog (l32::l64::lpow::r) W):Tab W:=by
  have h2:=laidMet.tail h;have h3:=laidMet.tail h2;have e:(Rows.laid_internal_strconv_uint64pow10:DataW Unit)=Lib.tabData .u64 Lib.pow10Tab:=by kernel_rfl
  unfold lpow at h3;rw[e]at h3
  refine⟨Lib.tabIs_of_head (g:=2) (t:=133) (e:=116) (n:=20) (by kernel_rfl) (by kernel_rfl) (by kernel_rfl) (by kernel_rfl) (by kernel_rfl) (by kernel_rfl) h3,?_⟩
  obtain⟨ps,⟨g,t,cs,fuel,p,q,hg,ht,hv,_⟩,_⟩:=h2;have hg7:Tryd.prog.globalNamed "math/bits.deBruijn64tab" =some 7:=by kernel_rfl
  obtain rfl:=Option.some.inj (hg7.symm.trans hg);unfold World.var? at hv;rw[hg7]at hv
  simp only[Option.bind_some]at hv
  rcases Nat.lt_or_ge 7 W.heap.size with h'|h'
  · exact h'
  · simp[Array.getElem?_eq_none h']at hv
theorem door_met3 (os:Os) (args:Array Value):laidMetH Tryd.prog laid3 ((World.doorLaid Tryd.prog 400 os).forCall (fun _ _=>0) ⟨#[],args,[]⟩).memory:=
  laidMetH_of_parts3 (fuel:=8) (laidMet_of_run' 8 (by kernel_rfl) (by kernel_rfl)) (by kernel_rfl) (by kernel_rfl)
theorem plain3 (W:World):laidMetH Tryd.prog laid3 W→laidMet Tryd.prog laid3 W:=fun h=>by
  rwa [MakeChecks.laidMetH_plain _ _ _ (by kernel_rfl)]at h
theorem facts3 {W:World} (h:laidMetH Tryd.prog laid3 W):Tab W:=tab_of (plain3 W h)
end Go.Proofs.YtmklpbmlgjkbiaaDoor.PS
end
section
namespace Go.Proofs.YtmklpbmlgjkbiaaDoor.PS
open Go.ChangeShapes Go.WideShapes Go.ChangeAt Go.RowKit Go.Joins
theorem cells3:Tryd.prog.cellsOf 3=1:=by kernel_rfl
theorem cells23:Tryd.prog.cellsOf 23=2:=by kernel_rfl
theorem cells32:Tryd.prog.cellsOf 32=6:=by kernel_rfl
section
variable {H:Type} {enc:TypeId×Value→H} {w:World} {base:Nat} {spare:Nat→Bool} {held:Bool} {fuel:Nat} {cs:List Value} {x:DataW H×List MemPlace}
theorem val_cells (h:DataW.trod enc Tryd.prog w base spare held fuel 23 cs=some x): ∃a b:Int,cs=[.int .i64 a,.int .i64 b]∧(Lit.int .i64 a).wf=true∧(Lit.int .i64 b).wf=true:=by
  obtain⟨xs,n,_,_,hl,hlen,hf⟩:=DataW.trod_struct Tryd.underlying23 h;rw[cells23]at hl
  match cs,hl with
  | [c0,c1],_=>
    match xs,hlen with
    | [y0,y1],_=>
      have h0:=hf 0 _ rfl;have h1:=hf 1 _ rfl;obtain⟨a,e0,_,w0⟩:=DataW.trod_int Tryd.underlying3 h0;obtain⟨b,e1,_,w1⟩:=DataW.trod_int Tryd.underlying3 h1;simp[cells3]at e0 e1
      exact⟨a,b,by rw[e0,e1],w0,w1⟩
theorem op_cells (h:DataW.trod enc Tryd.prog w base spare held fuel 32 cs=some x): ∃a b c d e f:Int,cs=[.int .i64 a,.int .i64 b,.int .i64 c,.int .i64 d,.int .i64 e,.int .i64 f]∧((Lit.int .i64 a).wf=true∧(Lit.int .i64 b).wf=true∧(Lit.int .i64 c).wf=true∧(Lit.int .i64 d).wf=true∧(Lit.int .i64 e).wf=true∧(Lit.int .i64 f).wf=true):=by
  obtain⟨xs,n,_,_,hl,hlen,hf⟩:=DataW.trod_struct Tryd.underlying32 h;rw[cells32]at hl
  match cs,hl with
  | [c0,c1,c2,c3,c4,c5],_=>
    match xs,hlen with
    | [y0,y1,y2,y3,y4],_=>
      have h0:=hf 0 _ rfl;have h1:=hf 1 _ rfl;have h2:=hf 2 _ rfl;have h3:=hf 3 _ rfl;have h4:=hf 4 _ rfl;obtain⟨a,e0,_,w0⟩:=DataW.trod_int Tryd.underlying3 h0;obtain⟨b,e1,_,w1⟩:=DataW.trod_int Tryd.underlying3 h1;obtain⟨c,e2,_,w2⟩:=DataW.trod_int Tryd.underlying3 h2;obtain⟨d,e3,_,w3⟩:=DataW.trod_int Tryd.underlying3 h3;obtain⟨e,f,e4,w4,w5⟩:=val_cells h4;simp[cells3,cells23]at e0 e1 e2 e3 e4
      exact⟨a,b,c,d,e,f,by rw[e0,e1,e2,e3,e4.1,e4.2],w0,w1,w2,w3,w4,w5⟩
end
end Go.Proofs.YtmklpbmlgjkbiaaDoor.PS
end
section
namespace Go.Proofs.YtmklpbmlgjkbiaaDoor.PS
open Go.ChangeShapes Go.WideShapes Go.ChangeAt Go.RowKit Go.Joins Go.Deep
open Go.Proofs.YtmklpbmlgjkbiaaDoorW.PrintWords Go.Proofs.YtmklpbmlgjkbiaaDoorW.PrintLast
section
variable {H:Type} {enc:TypeId×Value→H} {w:World} {base:Nat} {spare:Nat→Bool} {held:Bool}
theorem ops_open {a:Option Addr} {len cap:Nat} {d:DataW H} {p:List MemPlace} (h:DataW.Trod enc Tryd.prog w base spare held 45 (.slice a len cap) d p):
    ∃l:List S32,l.length=len∧Kd.C k32 w a len l∧len≤cap∧len≤maxLen:=by
  obtain⟨fuel,hf⟩:=h;rcases open_slice Tryd.underlying45 hf with ⟨hcs,_⟩|⟨x,len',cap',m,n,D,Pl,hcs,hb,hl,hm,hmm,_,hx⟩
  · simp[Value.cells]at hcs
    obtain⟨rfl,rfl,rfl⟩:=hcs;exact⟨[],rfl,⟨rfl,by omega,fun h=>absurd h (by omega)⟩,by omega,by omega⟩
  · simp[Value.cells]at hcs
    obtain⟨rfl,rfl,rfl⟩:=hcs;have hlm:len≤m:=by rw[hmm];split<;>omega
    have each: ∀i,i<len→ ∃y:S32,∀j u,[Value.int .i64 y.f0,.int .i64 y.f1,.int .i64 y.f2,.int .i64 y.f3,.int .i64 y.f4.f0,.int .i64 y.f4.f1][j]?=some u→w.cell? (x.add (i*6+j))=some u:=by
      intro i hi;obtain⟨cs',h1,h2⟩:=hx i (by omega)
      rw[cells32]at h1
      obtain⟨_,hlen,hcell⟩:=World.cells?_some h1;obtain⟨y0,y1,y2,y3,y4,y5,e,_⟩:=op_cells h2;subst e;refine⟨⟨y0,y1,y2,y3,⟨y4,y5⟩⟩,fun j u hj=> ?_⟩
      have hj6:j<6:=by
        have:=(List.getElem?_eq_some_iff.1 hj).1;simpa using this
      have:=hcell j hj6;rw[Go.Deep.add_add]at this
      rw[this];exact hj
    have:Inhabited S32:=⟨z32⟩;obtain⟨f,hf⟩:=choose_lt each;refine⟨(List.range len).map f,by simp,⟨by simp,by unfold maxLen at hm;omega,fun _=>⟨x,rfl,fun j y hy=> ?_⟩⟩,hl,by omega⟩
    rw[List.getElem?_map]at hy
    have hj:j<len:=by
      rcases Nat.lt_or_ge j len with h|h
      · exact h
      · rw[List.getElem?_eq_none (by simpa using h)]at hy;cases hy
    rw[List.getElem?_eq_getElem (by simpa using hj)]at hy
    simp at hy
    subst hy;exact⟨_,rfl,k32_mk w _,fun i u hi=>hf j hj i u hi⟩
end
end Go.Proofs.YtmklpbmlgjkbiaaDoor.PS
end
