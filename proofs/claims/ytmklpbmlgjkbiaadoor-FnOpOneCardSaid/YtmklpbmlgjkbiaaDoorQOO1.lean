/- What the rows of OO rest on, part 2. -/
import Derived.Shelf.Strings.Builder1
import Derived.Shelf.Utf8.RuneCount
import Derived.Shelf.Strconv.Atoi
import Derived.Shelf.Strconv.Itoa0
import Derived.Shelf.Strconv.Itoa1
import Derived.Shelf.LaysM
import Derived.Shelf.Strconv.Itoa2
import Derived.Shelf.Strconv.Itoa3
import Derived.Shelf.Strconv.AtoiErrFast
import Derived.Shelf.Strconv.ParseIntEmpty
import Derived.Shelf.Strconv.AtoiFail
import Derived.Shelf.Strconv.Clone
import Derived.Shelf.Strconv.SyntaxError
import Derived.Shelf.LaysC
import Derived.Shelf.Strconv.ToError
import Derived.Shelf.Strconv.Lower
import Derived.Shelf.Strconv.ParseUint10
import Derived.Shelf.Strconv.ParseUint10Empty
import Derived.Shelf.Strconv.ParseUint10Any
import Derived.Shelf.Strconv.ParseInt10
import Derived.Shelf.Strconv.AtoiLong
import Derived.Shelf.Strconv.AtoiInnerAll
import Derived.Shelf.Strconv.RangeError
import Derived.Shelf.Strconv.ToErrorRange
import Derived.Shelf.Strconv.AtoiAll
import Derived.Shelf.Strconv.ErrVarAll
import Derived.Shelf.Strings.Search1
import Derived.Shelf.Strings.Search2
import Derived.Shelf.Strings.Count
import Derived.Shelf.Strings.Shaped
import Derived.Shelf.Strings.Split
import Derived.Shelf.Strings.SplitShaped
import Derived.Shelf.Unicode.Decode
import Derived.Shelf.Strings.RuneCount
import Derived.Shelf.Strings.Explode
import Derived.Shelf.Unicode.DecodeSlow
import Derived.Shelf.Unicode.DecodeAny
import Derived.WalkSmall
import Derived.Lib.AppendIntMem
import Derived.RegionTactic
import Derived.Outline
import Derived.Test.YtmklpbmlgjkbiaaDoorQOO0
set_option linter.unusedVariables false
set_option linter.unusedSimpArgs false
set_option maxHeartbeats 8000000
set_option maxRecDepth 100000
section
namespace Go.Proofs.YtmklpbmlgjkbiaaDoor.PS
open Go.RowKit Go.Proofs.YtmklpbmlgjkbiaaDoorW.PrintWords Go.Proofs.YtmklpbmlgjkbiaaDoorW.PrintLast
theorem eqA35 (n:Nat) (w:World) (x0 x1 x2 x3 x4 x5 y0 y1 y2 y3 y4 y5:Int):
    (Op.equalIn (n+3) 35 (.agg #[.int .i64 x0,.int .i64 x1,.int .i64 x2,.int .i64 x3,.int .i64 x4,.int .i64 x5]) (.agg #[.int .i64 y0,.int .i64 y1,.int .i64 y2,.int .i64 y3,.int .i64 y4,.int .i64 y5])).run Tryd.prog w= .ok (x0==y0&&(x1==y1&&(x2==y2&&(x3==y3&&(x4==y4&&(x5==y5)))))) w:=by
  refine eqA_of Tryd.underlying35 (by kernel_rfl) ?_
  refine eqf_cons (by rfl) (by go_simp;rfl) (by go_simp;rfl) (by go_simp) ?_
  refine eqf_cons (by rfl) (by go_simp;rfl) (by go_simp;rfl) (by go_simp) ?_
  refine eqf_cons (by rfl) (by go_simp;rfl) (by go_simp;rfl) (by go_simp) ?_
  refine eqf_cons (by rfl) (by go_simp;rfl) (by go_simp;rfl) (by go_simp) ?_
  exact eqf_last (by rfl) (by go_simp) (by go_simp) (eqA25 n w x4 y4 x5 y5)
attribute [local go_sem high] eqA35
theorem opOne (A0:Option Addr) (c0:Nat) (l0:List Int) (A1:Option Addr) (c1:Nat) (l1:List Int) (w:World) (hr0:Kd.C (Kd.int .u8) w A0 l0.length l0) (hc0:l0.length≤c0) (hw0: ∀x∈l0,(Lit.int .u8 x).wf=true)
    (hr1:Kd.C (Kd.int .u8) w A1 l1.length l1) (hc1:l1.length≤c1) (hw1: ∀x∈l1,(Lit.int .u8 x).wf=true) (hT:Tab w):
    Calls Tryd.prog 9 #[.slice A0 l0.length c0,.slice A1 l1.length c1] w fun e w'=>e= .returned (.bool true)∧Below w.heap.size w w':=by
  have HT:=Aside0.mk hT;clear hT;have H0:Aside0 (∀W,Below w.heap.size w W→Calls Tryd.prog 25 #[.slice A0 l0.length c0] W (SomeOp W)):=⟨fun W hW=>drawOpText_w A0 c0 l0 W (Kd.C_below hr0 hW) hc0 hw0⟩
  have H1:Aside0 (∀W,Below w.heap.size w W→Calls Tryd.prog 28 #[.slice A1 l1.length c1] W (SomeOp W)):=⟨fun W hW=>drawOpOk_w A1 c1 l1 W (Kd.C_below hr1 hW) hc1 hw1⟩
  clear hr0 hr1 hw0 hw1 hc0 hc1;have HV:Aside0 (∀a b c d f g W,Below w.heap.size w W→Calls Tryd.prog 24 #[.agg #[.int .i64 a,.int .i64 b,.int .i64 c,.int .i64 d,.int .i64 f,.int .i64 g]] W fun e w'=>e= .returned (.string (opText a b c d f g))∧Below W.heap.size W w'):=⟨fun a b c d f g W hW=>impl_OpText_any a b c d f g W (HT.out.below hW)⟩
  have HB:=Aside0.mk (Below.refl w.heap.size w);go_enter Tryd.func9,Tryd.ntmps9
  by_cases m0:l0.length>1048576
  · have e0:decide ((1048576:Int)<(l0.length:Int))=true:=decide_eq_true (by omega)
    clear m0;go_wp2
    go_ret
    exact⟨rfl,Below.refl _ _⟩
  by_cases m1:l1.length>1048576
  · have e0:decide ((1048576:Int)<(l0.length:Int))=false:=decide_eq_false (by omega)
    have e1:decide ((1048576:Int)<(l1.length:Int))=true:=decide_eq_true (by omega)
    clear m0 m1;go_wp2
    go_ret
    exact⟨rfl,Below.refl _ _⟩
  have e0:decide ((1048576:Int)<(l0.length:Int))=false:=decide_eq_false (by omega)
  have e1:decide ((1048576:Int)<(l1.length:Int))=false:=decide_eq_false (by omega)
  clear m0 m1
  go_upto_region 5 with (first
    |(go_at_call 25;(with_reducible refine(H0.out _ HB.out).mono ?_);rintro e w1 ⟨a,b,c,d,f,g,rfl, -,hb⟩;replace HB:=Aside0.mk (below_step HB.out hb);clear hb;have HH:=Aside0.mk (Hold.new HB.out (.cells #[.int .i64 a,.int .i64 b,.int .i64 c,.int .i64 d,.int .i64 f,.int .i64 g] 35)))
    |(go_at_call 28;(with_reducible refine(H1.out _ HH.out.below).mono ?_);rintro e w2 ⟨a',b',c',d',f',g',rfl, -,hb⟩;replace HH:=Aside0.mk (HH.out.step hb);clear hb))
  have HK:Aside0 (Hold2 w (w2.alloc (.cells #[.int .i64 a',.int .i64 b',.int .i64 c',.int .i64 d',.int .i64 f',.int .i64 g'] 35)) w1.heap.size (.cells #[.int .i64 a,.int .i64 b,.int .i64 c,.int .i64 d,.int .i64 f,.int .i64 g] 35) w2.heap.size (.cells #[.int .i64 a',.int .i64 b',.int .i64 c',.int .i64 d',.int .i64 f',.int .i64 g'] 35)):=⟨Hold2.new HH.out _⟩;have HA:Aside0 (∀W,Below w.heap.size w W→Calls Tryd.prog 24 #[.agg #[.int .i64 a,.int .i64 b,.int .i64 c,.int .i64 d,.int .i64 f,.int .i64 g]] W fun e w'=>e= .returned (.string (opText a b c d f g))∧Below W.heap.size W w'):=⟨fun W hW=>HV.out a b c d f g W hW⟩
  have HC:Aside0 (∀W,Below w.heap.size w W→Calls Tryd.prog 24 #[.agg #[.int .i64 a',.int .i64 b',.int .i64 c',.int .i64 d',.int .i64 f',.int .i64 g']] W fun e w'=>e= .returned (.string (opText a' b' c' d' f' g'))∧Below W.heap.size W w'):=⟨fun W hW=>HV.out a' b' c' d' f' g' W hW⟩
  have HS:Aside0 (∀W,Calls Tryd.prog 22 #[.agg #[.int .i64 a,.int .i64 b,.int .i64 c,.int .i64 d,.int .i64 f,.int .i64 g]] W fun e w'=>e= .returned (.string (opText a b c d f g))∧Below W.heap.size W w'):=⟨fun W=>spec_OpText_any a b c d f g W⟩
  have HX:=opText_one a b c d f g a' b' c' d' f' g';obtain⟨X,hX⟩: ∃X,X=opText a b c d f g:=⟨_,rfl⟩;obtain⟨Y,hY⟩: ∃Y,Y=opText a' b' c' d' f' g':=⟨_,rfl⟩;rw[←hX]at HA HS HX
  rw[←hY]at HC HX
  clear hX hY HV H0 H1 HH HB HT;obtain⟨p0,p1,p2,p3,p4,p5⟩:=box6 HK.out.blk;obtain⟨q0,q1,q2,q3,q4,q5⟩:=box6 HK.out.blk2;rcases HX with rfl|⟨hx1,hx2,rfl|⟨hy1,hy2,hxy⟩⟩
  all_goals
    go_wp2_with (first
      |(go_at_call 24;(with_reducible refine(HA.out _ HK.out.below).mono ?_);rintro e w3 ⟨rfl,hb⟩;replace HK:=Aside0.mk (HK.out.step hb);clear hb p0 p1 p2 p3 p4 p5 q0 q1 q2 q3 q4 q5;obtain⟨p0,p1,p2,p3,p4,p5⟩:=box6 HK.out.blk;obtain⟨q0,q1,q2,q3,q4,q5⟩:=box6 HK.out.blk2)
      |(go_at_call 24;(with_reducible refine(HC.out _ HK.out.below).mono ?_);rintro e w3 ⟨rfl,hb⟩;replace HK:=Aside0.mk (HK.out.step hb);clear hb p0 p1 p2 p3 p4 p5 q0 q1 q2 q3 q4 q5;obtain⟨p0,p1,p2,p3,p4,p5⟩:=box6 HK.out.blk;obtain⟨q0,q1,q2,q3,q4,q5⟩:=box6 HK.out.blk2)
      |(go_at_call 22;(with_reducible refine(HS.out _).mono ?_);rintro e w3 ⟨rfl,hb⟩;replace HK:=Aside0.mk (HK.out.step hb);clear hb p0 p1 p2 p3 p4 p5 q0 q1 q2 q3 q4 q5;obtain⟨p0,p1,p2,p3,p4,p5⟩:=box6 HK.out.blk;obtain⟨q0,q1,q2,q3,q4,q5⟩:=box6 HK.out.blk2))
    go_ret
    exact⟨rfl,HK.out.below⟩
end Go.Proofs.YtmklpbmlgjkbiaaDoor.PS
end
