/- What the rows of VO rest on, part 2. -/
import Derived.Test.YtmklpbmlgjkbiaaDoorRows
import Derived.Stop.LaidErr
import Derived.Lib.LaidTab
import Derived.LaidMore
import Derived.MakeChecks
import Derived.ProofKit
import Derived.Test.YtmklpbmlgjkbiaaDoorQVO0
set_option linter.unusedVariables false
set_option linter.unusedSimpArgs false
set_option maxHeartbeats 8000000
set_option maxRecDepth 100000
section
namespace Go.Proofs.YtmklpbmlgjkbiaaDoor.PS
open Go.RowKit Go.Proofs.YtmklpbmlgjkbiaaDoorW.PrintWords Go.Proofs.YtmklpbmlgjkbiaaDoorW.PrintLast
attribute [local go_sem high] eqA25
theorem valOne (A0:Option Addr) (c0:Nat) (l0:List Int) (A1:Option Addr) (c1:Nat) (l1:List Int) (w:World) (hr0:Kd.C (Kd.int .u8) w A0 l0.length l0) (hc0:l0.length≤c0) (hw0: ∀x∈l0,(Lit.int .u8 x).wf=true)
    (hr1:Kd.C (Kd.int .u8) w A1 l1.length l1) (hc1:l1.length≤c1) (hw1: ∀x∈l1,(Lit.int .u8 x).wf=true) (hT:Tab w):
    Calls Tryd.prog 4 #[.slice A0 l0.length c0,.slice A1 l1.length c1] w fun e w'=>e= .returned (.bool true)∧Below w.heap.size w w':=by
  have HT:=Aside0.mk hT;clear hT;have H0:Aside0 (∀W,Below w.heap.size w W→Calls Tryd.prog 20 #[.slice A0 l0.length c0] W (SomeVal W)):=⟨fun W hW=>drawValText_w A0 c0 l0 W (Kd.C_below hr0 hW) hc0 hw0⟩
  have H1:Aside0 (∀W,Below w.heap.size w W→Calls Tryd.prog 21 #[.slice A1 l1.length c1] W (SomeVal W)):=⟨fun W hW=>drawValOk_w A1 c1 l1 W (Kd.C_below hr1 hW) hc1 hw1⟩
  clear hr0 hr1 hw0 hw1 hc0 hc1;have HV:Aside0 (∀a b W,Below w.heap.size w W→Calls Tryd.prog 19 #[.agg #[.int .i64 a,.int .i64 b]] W fun e w'=>e= .returned (.string (vtext a b))∧Below W.heap.size W w'):=⟨fun a b W hW=>impl_ValText_any a b W (HT.out.below hW)⟩
  have HB:=Aside0.mk (Below.refl w.heap.size w);go_enter Tryd.func4,Tryd.ntmps4
  by_cases m0:l0.length>1048576
  · have e0:decide ((1048576:Int)<(l0.length:Int))=true:=decide_eq_true (by omega)
    clear m0;go_wp2
    go_ret
    exact⟨rfl,Below.refl _ _⟩
  by_cases m1:l1.length>1048576
  · have e0:decide ((1048576:Int)<(l0.length:Int))=false:=decide_eq_false (by omega)
    have e1:decide ((1048576:Int)<(l1.length:Int))=true:=decide_eq_true (by omega)
    clear m0 m1;go_wp2
    go_ret
    exact⟨rfl,Below.refl _ _⟩
  have e0:decide ((1048576:Int)<(l0.length:Int))=false:=decide_eq_false (by omega)
  have e1:decide ((1048576:Int)<(l1.length:Int))=false:=decide_eq_false (by omega)
  clear m0 m1
  go_upto_region 5 with (first
    |(go_at_call 20;(with_reducible refine(H0.out _ HB.out).mono ?_);rintro e w1 ⟨a,b,rfl,hb⟩;replace HB:=Aside0.mk (below_step HB.out hb);clear hb;have HH:=Aside0.mk (Hold.new HB.out (.cells #[.int .i64 a,.int .i64 b] 25)))
    |(go_at_call 21;(with_reducible refine(H1.out _ HH.out.below).mono ?_);rintro e w2 ⟨c,d,rfl,hb⟩;replace HH:=Aside0.mk (HH.out.step hb);clear hb))
  have HK:Aside0 (Hold2 w (w2.alloc (.cells #[.int .i64 c,.int .i64 d] 25)) w1.heap.size (.cells #[.int .i64 a,.int .i64 b] 25) w2.heap.size (.cells #[.int .i64 c,.int .i64 d] 25)):=⟨Hold2.new HH.out _⟩;have HA:Aside0 (∀W,Below w.heap.size w W→Calls Tryd.prog 19 #[.agg #[.int .i64 a,.int .i64 b]] W fun e w'=>e= .returned (.string (vtext a b))∧Below W.heap.size W w'):=⟨fun W hW=>HV.out a b W hW⟩
  have HC:Aside0 (∀W,Below w.heap.size w W→Calls Tryd.prog 19 #[.agg #[.int .i64 c,.int .i64 d]] W fun e w'=>e= .returned (.string (vtext c d))∧Below W.heap.size W w'):=⟨fun W hW=>HV.out c d W hW⟩
  have HS:Aside0 (∀W,Calls Tryd.prog 17 #[.agg #[.int .i64 a,.int .i64 b]] W fun e w'=>e= .returned (.string (vtext a b))∧Below W.heap.size W w'):=⟨fun W=>spec_ValText_any a b W⟩
  have HX:=vtext_one a b c d;obtain⟨X,hX⟩: ∃X,X=vtext a b:=⟨_,rfl⟩;obtain⟨Y,hY⟩: ∃Y,Y=vtext c d:=⟨_,rfl⟩;rw[←hX]at HA HS HX
  rw[←hY]at HC HX
  clear hX hY HV H0 H1 HH HB HT;obtain⟨p0,p1⟩:=box2 HK.out.blk;obtain⟨q0,q1⟩:=box2 HK.out.blk2;rcases HX with rfl|⟨hx1,hx2,rfl|⟨hy1,hy2,hxy⟩⟩
  all_goals
    go_wp2_with (first
      |(go_at_call 19;(with_reducible refine(HA.out _ HK.out.below).mono ?_);rintro e w3 ⟨rfl,hb⟩;replace HK:=Aside0.mk (HK.out.step hb);clear hb p0 p1 q0 q1;obtain⟨p0,p1⟩:=box2 HK.out.blk;obtain⟨q0,q1⟩:=box2 HK.out.blk2)
      |(go_at_call 19;(with_reducible refine(HC.out _ HK.out.below).mono ?_);rintro e w3 ⟨rfl,hb⟩;replace HK:=Aside0.mk (HK.out.step hb);clear hb p0 p1 q0 q1;obtain⟨p0,p1⟩:=box2 HK.out.blk;obtain⟨q0,q1⟩:=box2 HK.out.blk2)
      |(go_at_call 17;(with_reducible refine(HS.out _).mono ?_);rintro e w3 ⟨rfl,hb⟩;replace HK:=Aside0.mk (HK.out.step hb);clear hb p0 p1 q0 q1;obtain⟨p0,p1⟩:=box2 HK.out.blk;obtain⟨q0,q1⟩:=box2 HK.out.blk2))
    go_ret
    exact⟨rfl,HK.out.below⟩
end Go.Proofs.YtmklpbmlgjkbiaaDoor.PS
end
section
namespace Go.Proofs.YtmklpbmlgjkbiaaDoor.PS
open Go.RowKit Go.Proofs.YtmklpbmlgjkbiaaDoorW.PrintWords Go.Proofs.YtmklpbmlgjkbiaaDoorW.PrintLast
abbrev laid3:List (String×DataW Unit):=[l32,l64,lpow]
theorem door_met3 (os:Os) (args:Array Value):laidMetH Tryd.prog laid3 ((World.doorLaid Tryd.prog 400 os).forCall (fun _ _=>0) ⟨#[],args,[]⟩).memory:=
  laidMetH_of_parts3 (fuel:=8) (laidMet_of_run' 8 (by kernel_rfl) (by kernel_rfl)) (by kernel_rfl) (by kernel_rfl)
theorem plain3 (W:World):laidMetH Tryd.prog laid3 W→laidMet Tryd.prog laid3 W:=fun h=>by
  rwa [MakeChecks.laidMetH_plain _ _ _ (by kernel_rfl)]at h
theorem facts3 {W:World} (h:laidMetH Tryd.prog laid3 W):Tab W:=tab_of (plain3 W h)
end Go.Proofs.YtmklpbmlgjkbiaaDoor.PS
end
