/- What the rows of OW rest on, part 1. -/
import Derived.Test.YtmklpbmlgjkbiaaDoorProg
import Derived.Below
import Derived.Deep.Draws
import Derived.Deep.AppendLies
import Derived.Maps.AppendAt
import Derived.OwnWalk
import Derived.Laws.BytesArg
import Derived.Laws.MakeOwn
import Derived.Laws.OwnMore
import Derived.Deep.OwnRows
import Derived.Tactics
import Derived.Lib.ConvBytes
import Derived.Laws.Slices
import Derived.WalkKit
import Derived.KernelRfl
import Derived.RowKit3
import Derived.Deep.LoopGhost
import Derived.Deep.QuietTactic
import Derived.BigQuiet
import Derived.WideLaws
import Derived.Deep.DeepCutAuto
import Derived.Deep.CutBlock
import Derived.Deep.RegionHeld3
import Derived.Laws.Rows
import Derived.Lib.AppendStr
import Derived.ArgAppend
import Derived.Laws.IdiomCopy
import Derived.OrdersHeld
import Derived.Laws.BitsLemmas
import Derived.RowKit
import Derived.Laws.StructEq
import Derived.Deep.RegionWith
import Derived.Lib.Bytealg
import Derived.Shelf.Strings.Search3
import Derived.WalkSpells
import Derived.Shelf.Strings.Builder1
import Derived.Shelf.Utf8.RuneCount
import Derived.Shelf.Strconv.Atoi
import Derived.Shelf.Strconv.Itoa0
import Derived.Shelf.Strconv.Itoa1
import Derived.Shelf.LaysM
import Derived.Shelf.Strconv.Itoa2
import Derived.Shelf.Strconv.Itoa3
import Derived.Shelf.Strconv.AtoiErrFast
import Derived.Shelf.Strconv.ParseIntEmpty
import Derived.Shelf.Strconv.AtoiFail
import Derived.Shelf.Strconv.Clone
import Derived.Shelf.Strconv.SyntaxError
import Derived.Shelf.LaysC
import Derived.Shelf.Strconv.ToError
import Derived.Shelf.Strconv.Lower
import Derived.Shelf.Strconv.ParseUint10
import Derived.Shelf.Strconv.ParseUint10Empty
import Derived.Shelf.Strconv.ParseUint10Any
import Derived.Shelf.Strconv.ParseInt10
import Derived.Shelf.Strconv.AtoiLong
import Derived.Shelf.Strconv.AtoiInnerAll
import Derived.Shelf.Strconv.RangeError
import Derived.Shelf.Strconv.ToErrorRange
import Derived.Shelf.Strconv.AtoiAll
import Derived.Shelf.Strconv.ErrVarAll
import Derived.Shelf.Strings.Search1
import Derived.Shelf.Strings.Search2
import Derived.Shelf.Strings.Count
import Derived.Shelf.Strings.Shaped
import Derived.Shelf.Strings.Split
import Derived.Shelf.Strings.SplitShaped
import Derived.Shelf.Unicode.Decode
import Derived.Shelf.Strings.RuneCount
import Derived.Shelf.Strings.Explode
import Derived.Shelf.Unicode.DecodeSlow
import Derived.Shelf.Unicode.DecodeAny
import Derived.WalkSmall
import Derived.Lib.AppendIntMem
import Derived.RegionTactic
import Derived.Outline
import Derived.Test.YtmklpbmlgjkbiaaDoorQOOB4
set_option linter.unusedVariables false
set_option linter.unusedSimpArgs false
set_option maxHeartbeats 8000000
set_option maxRecDepth 100000
section
namespace Go.Proofs.YtmklpbmlgjkbiaaDoor.PS
open Go.RowKit Go.Proofs.YtmklpbmlgjkbiaaDoorW.PrintWords Go.Proofs.YtmklpbmlgjkbiaaDoorW.PrintLast
theorem opText_words (a b c d f g k:Int):opText a b c d f g=⟨#[]⟩∨((opText a b c d f g).toList=[]→False)∧((opText a b c d f g).toList.isEmpty=false)∧(opText k b c d f g=⟨#[]⟩∨((opText k b c d f g).toList=[]→False)∧((opText k b c d f g).toList.isEmpty=false)∧
    ((opText k b c d f g).toList==(opText a b c d f g).toList)=(k==a)):=by
  rcases opText_one a b c d f g k b c d f g with h|⟨h1,h2,h|⟨h3,h4,h5⟩⟩
  · exact .inl h
  · exact .inr ⟨h1,h2,.inl h⟩
  · refine .inr ⟨h1,h2,.inr ⟨h3,h4,?_⟩⟩
    rw[BEq.comm,h5,BEq.comm];simp
theorem opWords (A0:Option Addr) (c0:Nat) (l0:List Int) (A1:Option Addr) (c1:Nat) (l1:List Int) (w:World) (hr0:Kd.C (Kd.int .u8) w A0 l0.length l0) (hc0:l0.length≤c0) (hw0: ∀x∈l0,(Lit.int .u8 x).wf=true)
    (hr1:Kd.C (Kd.int .u8) w A1 l1.length l1) (hc1:l1.length≤c1) (hw1: ∀x∈l1,(Lit.int .u8 x).wf=true) (hT:Tab w):
    Calls Tryd.prog 6 #[.slice A0 l0.length c0,.slice A1 l1.length c1] w fun e w'=>e= .returned (.bool true)∧Below w.heap.size w w':=by
  have HT:=Aside0.mk hT;clear hT;have H0:Aside0 (∀W,Below w.heap.size w W→Calls Tryd.prog 25 #[.slice A0 l0.length c0] W (SomeOp W)):=⟨fun W hW=>drawOpText_w A0 c0 l0 W (Kd.C_below hr0 hW) hc0 hw0⟩
  clear hr0 hr1 hw0 hw1 hc0 hc1;have HV:Aside0 (∀a b c d f g W,Below w.heap.size w W→Calls Tryd.prog 24 #[.agg #[.int .i64 a,.int .i64 b,.int .i64 c,.int .i64 d,.int .i64 f,.int .i64 g]] W fun e w'=>e= .returned (.string (opText a b c d f g))∧Below W.heap.size W w'):=⟨fun a b c d f g W hW=>impl_OpText_any a b c d f g W (HT.out.below hW)⟩
  have HB:=Aside0.mk (Below.refl w.heap.size w);go_enter Tryd.func6,Tryd.ntmps6
  by_cases m0:l0.length>1048576
  · have e0:decide ((1048576:Int)<(l0.length:Int))=true:=decide_eq_true (by omega)
    clear m0;go_wp2
    go_ret
    exact⟨rfl,Below.refl _ _⟩
  by_cases m1:l1.length>1048576
  · have e0:decide ((1048576:Int)<(l0.length:Int))=false:=decide_eq_false (by omega)
    have e1:decide ((1048576:Int)<(l1.length:Int))=true:=decide_eq_true (by omega)
    clear m0 m1;go_wp2
    go_ret
    exact⟨rfl,Below.refl _ _⟩
  have e0:decide ((1048576:Int)<(l0.length:Int))=false:=decide_eq_false (by omega)
  have e1:decide ((1048576:Int)<(l1.length:Int))=false:=decide_eq_false (by omega)
  have HM:=Aside0.mk m1;clear m0 m1
  go_upto_region 4 with (first
    |(go_at_call 25;(with_reducible refine(H0.out _ HB.out).mono ?_);rintro e w1 ⟨a,b,c,d,f,g,rfl, -,hb⟩;replace HB:=Aside0.mk (below_step HB.out hb);clear hb;have HK:=Aside0.mk (Hold.new HB.out (.cells #[.int .i64 a,.int .i64 b,.int .i64 c,.int .i64 d,.int .i64 f,.int .i64 g] 35))))
  have HA:Aside0 (∀W,Below w.heap.size w W→Calls Tryd.prog 24 #[.agg #[.int .i64 a,.int .i64 b,.int .i64 c,.int .i64 d,.int .i64 f,.int .i64 g]] W fun e w'=>e= .returned (.string (opText a b c d f g))∧Below W.heap.size W w'):=⟨fun W hW=>HV.out a b c d f g W hW⟩
  have HS:Aside0 (∀W,Calls Tryd.prog 22 #[.agg #[.int .i64 a,.int .i64 b,.int .i64 c,.int .i64 d,.int .i64 f,.int .i64 g]] W fun e w'=>e= .returned (.string (opText a b c d f g))∧Below W.heap.size W w'):=⟨fun W=>spec_OpText_any a b c d f g W⟩
  obtain⟨k,hk⟩: ∃k:Int,1+(l1.length:Int)%14=k:=⟨_,rfl⟩;have HKK:=Aside0.mk hk;have HC:Aside0 (∀W,Below w.heap.size w W→Calls Tryd.prog 24 #[.agg #[.int .i64 k,.int .i64 b,.int .i64 c,.int .i64 d,.int .i64 f,.int .i64 g]] W fun e w'=>e= .returned (.string (opText k b c d f g))∧Below W.heap.size W w'):=⟨fun W hW=>HV.out k b c d f g W hW⟩
  have HX:=opText_words a b c d f g k;obtain⟨X,hX⟩: ∃X,X=opText a b c d f g:=⟨_,rfl⟩;obtain⟨Y,hY⟩: ∃Y,Y=opText k b c d f g:=⟨_,rfl⟩;rw[←hX]at HA HS HX
  rw[←hY]at HC HX
  clear hX hY HV H0 HB HT hk;obtain⟨p0,p1,p2,p3,p4,p5⟩:=box6 HK.out.blk;rcases HX with rfl|⟨hx1,hx2,HX⟩
  · go_wp2_with (first
      |(go_at_call 24;(with_reducible refine(HA.out _ HK.out.below).mono ?_);rintro e w3 ⟨rfl,hb⟩;replace HK:=Aside0.mk (HK.out.step hb);clear hb p0 p1 p2 p3 p4 p5;obtain⟨p0,p1,p2,p3,p4,p5⟩:=box6 HK.out.blk)
      |(go_at_call 22;(with_reducible refine(HS.out _).mono ?_);rintro e w3 ⟨rfl,hb⟩;replace HK:=Aside0.mk (HK.out.step hb);clear hb p0 p1 p2 p3 p4 p5;obtain⟨p0,p1,p2,p3,p4,p5⟩:=box6 HK.out.blk))
    go_ret
    exact⟨rfl,HK.out.below⟩
  have HXX:=Aside0.mk HX;clear HX
  go_upto_region 8 with (first
      |(go_at_call 24;(with_reducible refine(HA.out _ HK.out.below).mono ?_);rintro e w3 ⟨rfl,hb⟩;replace HK:=Aside0.mk (HK.out.step hb);clear hb p0 p1 p2 p3 p4 p5;obtain⟨p0,p1,p2,p3,p4,p5⟩:=box6 HK.out.blk)
      |(go_at_call 22;(with_reducible refine(HS.out _).mono ?_);rintro e w4 ⟨rfl,hb⟩;replace HK:=Aside0.mk (HK.out.step hb);clear hb p0 p1 p2 p3 p4 p5;obtain⟨p0,p1,p2,p3,p4,p5⟩:=box6 HK.out.blk))
  have K3:Aside0 (Hold2 w (w4.alloc (.cells #[.int .i64 k,.int .i64 b,.int .i64 c,.int .i64 d,.int .i64 f,.int .i64 g] 35)) w1.heap.size (.cells #[.int .i64 a,.int .i64 b,.int .i64 c,.int .i64 d,.int .i64 f,.int .i64 g] 35) w4.heap.size (.cells #[.int .i64 k,.int .i64 b,.int .i64 c,.int .i64 d,.int .i64 f,.int .i64 g] 35)):=⟨Hold2.new HK.out _⟩;clear p0 p1 p2 p3 p4 p5;go_upto_region 9 with (fail)
  rw[HKK.out];clear HK;obtain⟨p0,p1,p2,p3,p4,p5⟩:=box6 K3.out.blk;obtain⟨q0,q1,q2,q3,q4,q5⟩:=box6 K3.out.blk2;rcases HXX.out with rfl|⟨hy1,hy2,hxy⟩
  all_goals
    clear HXX
    go_wp2_with (first
      |(go_at_call 24;(with_reducible refine(HC.out _ K3.out.below).mono ?_);rintro e w5 ⟨rfl,hb⟩;replace K3:=Aside0.mk (K3.out.step hb);clear hb p0 p1 p2 p3 p4 p5 q0 q1 q2 q3 q4 q5;obtain⟨p0,p1,p2,p3,p4,p5⟩:=box6 K3.out.blk;obtain⟨q0,q1,q2,q3,q4,q5⟩:=box6 K3.out.blk2))
    go_ret
    exact⟨by first|rfl|simp,K3.out.below⟩
end Go.Proofs.YtmklpbmlgjkbiaaDoor.PS
end
