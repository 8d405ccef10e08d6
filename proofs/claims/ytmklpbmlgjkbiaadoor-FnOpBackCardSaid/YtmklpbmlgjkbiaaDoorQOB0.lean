/- What the rows of OB rest on, part 1. -/
import Derived.Test.YtmklpbmlgjkbiaaDoorProg
import Derived.Below
import Derived.Deep.Draws
import Derived.Deep.AppendLies
import Derived.Maps.AppendAt
import Derived.OwnWalk
import Derived.Laws.BytesArg
import Derived.Laws.MakeOwn
import Derived.Laws.OwnMore
import Derived.Deep.OwnRows
import Derived.Tactics
import Derived.Lib.ConvBytes
import Derived.Laws.Slices
import Derived.WalkKit
import Derived.KernelRfl
import Derived.RowKit3
import Derived.Deep.LoopGhost
import Derived.Deep.QuietTactic
import Derived.BigQuiet
import Derived.WideLaws
import Derived.Deep.DeepCutAuto
import Derived.Deep.CutBlock
import Derived.Deep.RegionHeld3
import Derived.Laws.Rows
import Derived.Lib.AppendStr
import Derived.ArgAppend
import Derived.Laws.IdiomCopy
import Derived.OrdersHeld
import Derived.Laws.BitsLemmas
import Derived.RowKit
import Derived.Laws.StructEq
import Derived.Deep.RegionWith
import Derived.Lib.Bytealg
import Derived.Shelf.Strings.Search3
import Derived.WalkSpells
import Derived.Shelf.Strings.Builder1
import Derived.Shelf.Utf8.RuneCount
import Derived.Shelf.Strconv.Atoi
import Derived.Shelf.Strconv.Itoa0
import Derived.Shelf.Strconv.Itoa1
import Derived.Shelf.LaysM
import Derived.Shelf.Strconv.Itoa2
import Derived.Shelf.Strconv.Itoa3
import Derived.Shelf.Strconv.AtoiErrFast
import Derived.Shelf.Strconv.ParseIntEmpty
import Derived.Shelf.Strconv.AtoiFail
import Derived.Shelf.Strconv.Clone
import Derived.Shelf.Strconv.SyntaxError
import Derived.Shelf.LaysC
import Derived.Shelf.Strconv.ToError
import Derived.Shelf.Strconv.Lower
import Derived.Shelf.Strconv.ParseUint10
import Derived.Shelf.Strconv.ParseUint10Empty
import Derived.Shelf.Strconv.ParseUint10Any
import Derived.Shelf.Strconv.ParseInt10
import Derived.Shelf.Strconv.AtoiLong
import Derived.Shelf.Strconv.AtoiInnerAll
import Derived.Shelf.Strconv.RangeError
import Derived.Shelf.Strconv.ToErrorRange
import Derived.Shelf.Strconv.AtoiAll
import Derived.Shelf.Strconv.ErrVarAll
import Derived.Shelf.Strings.Search1
import Derived.Shelf.Strings.Search2
import Derived.Shelf.Strings.Count
import Derived.Shelf.Strings.Shaped
import Derived.Shelf.Strings.Split
import Derived.Shelf.Strings.SplitShaped
import Derived.Shelf.Unicode.Decode
import Derived.Shelf.Strings.RuneCount
import Derived.Shelf.Strings.Explode
import Derived.Shelf.Unicode.DecodeSlow
import Derived.Shelf.Unicode.DecodeAny
import Derived.WalkSmall
import Derived.Lib.AppendIntMem
import Derived.RegionTactic
import Derived.Outline
import Derived.Lib.Split
import Derived.Lib.SplitLaws
import Derived.Lib.CountLaws
import Derived.Lib.AtoiErrMem
import Derived.Lib.OthersKept
import Derived.Maps.OwnSet
import Derived.Maps.Views
import Derived.Test.YtmklpbmlgjkbiaaDoorQOXB6
set_option linter.unusedVariables false
set_option linter.unusedSimpArgs false
set_option maxHeartbeats 8000000
set_option maxRecDepth 100000
section
namespace Go.Proofs.YtmklpbmlgjkbiaaDoor.PS
open Go.RowKit Go.Proofs.YtmklpbmlgjkbiaaDoorW.PrintWords Go.Proofs.YtmklpbmlgjkbiaaDoorW.PrintLast
theorem reads_yes_of {x:ByteArray} {k r s t vk vn a b c d f g:Int} {ok:Bool} (h:Reads x k r s t vk vn ok) (hB:opB a b c d f g=true) (hX:opText a b c d f g=x):k=a∧r=b∧s=c∧t=d∧vk=f∧vn=g∧ok=true:=
  reads_one h (.inl ⟨rfl,hB,hX⟩)
end Go.Proofs.YtmklpbmlgjkbiaaDoor.PS
end
section
namespace Go.Proofs.YtmklpbmlgjkbiaaDoor.PS
open Go.RowKit Go.Proofs.YtmklpbmlgjkbiaaDoorW.PrintWords Go.Proofs.YtmklpbmlgjkbiaaDoorW.PrintLast
attribute [local go_sem high] eqA35
theorem opRead_back {a b c d f g:Int} (hB:opB a b c d f g=true) (W:World) (hE:Env W):
    Calls Tryd.prog 37 #[.string (opText a b c d f g)] W fun e w'=>e= .returned (.tuple #[.agg #[.int .i64 a,.int .i64 b,.int .i64 c,.int .i64 d,.int .i64 f,.int .i64 g],.bool true])∧Below W.heap.size W w':=by
  refine(impl_OpRead_any _ W hE).mono ?_
  rintro e w' ⟨k,r,s,t,vk,vn,ok,rfl,hR,hb⟩
  obtain⟨rfl,rfl,rfl,rfl,rfl,rfl,rfl⟩:=reads_yes_of hR hB rfl;exact⟨rfl,hb⟩
theorem opBack (A0:Option Addr) (c0:Nat) (l0:List Int) (w:World) (hr0:Kd.C (Kd.int .u8) w A0 l0.length l0) (hc0:l0.length≤c0) (hw0: ∀x∈l0,(Lit.int .u8 x).wf=true) (hT:Env w):
    Calls Tryd.prog 13 #[.slice A0 l0.length c0] w fun e w'=>e= .returned (.bool true)∧Below w.heap.size w w':=by
  have HE:=Aside0.mk hT;clear hT;have H0:Aside0 (Calls Tryd.prog 25 #[.slice A0 l0.length c0] w (SomeOp w)):=⟨drawOpText_w A0 c0 l0 w hr0 hc0 hw0⟩;clear hr0 hw0 hc0;by_cases m0:l0.length>1048576
  · have e0:decide ((1048576:Int)<(l0.length:Int))=true:=decide_eq_true (by omega)
    clear m0;go_enter Tryd.func13,Tryd.ntmps13
    go_wp2
    go_ret
    exact⟨rfl,Below.refl _ _⟩
  have e0:decide ((1048576:Int)<(l0.length:Int))=false:=decide_eq_false (by omega)
  clear m0;go_enter Tryd.func13,Tryd.ntmps13
  go_upto_region 4 with (go_at_call 25;(with_reducible refine H0.out.mono ?_);rintro e w1 ⟨a,b,c,d,f,g,rfl, -,hb⟩;have HB:=Aside0.mk (Hold.new hb (.cells #[.int .i64 a,.int .i64 b,.int .i64 c,.int .i64 d,.int .i64 f,.int .i64 g] 35));clear hb)
  have HV:Aside0 (∀W,Below w.heap.size w W→Calls Tryd.prog 24 #[.agg #[.int .i64 a,.int .i64 b,.int .i64 c,.int .i64 d,.int .i64 f,.int .i64 g]] W fun e w'=>e= .returned (.string (opText a b c d f g))∧Below W.heap.size W w'):=⟨fun W hW=>impl_OpText_any a b c d f g W (HE.out.below hW).1.1⟩
  have HS:Aside0 (∀W,Calls Tryd.prog 22 #[.agg #[.int .i64 a,.int .i64 b,.int .i64 c,.int .i64 d,.int .i64 f,.int .i64 g]] W fun e w'=>e= .returned (.string (opText a b c d f g))∧Below W.heap.size W w'):=⟨fun W=>spec_OpText_any a b c d f g W⟩
  have HO:Aside0 (∀W,Calls Tryd.prog 38 #[.agg #[.int .i64 a,.int .i64 b,.int .i64 c,.int .i64 d,.int .i64 f,.int .i64 g]] W fun e w'=>e= .returned (.bool (opB a b c d f g))∧Below W.heap.size W w'):=⟨fun W=>impl_OpOk.calls a b c d f g _ W rfl⟩
  by_cases hok:opB a b c d f g=true
  · obtain⟨x1,x2⟩:=opText_ne hok
    have HR:Aside0 (∀W,Below w.heap.size w W→Calls Tryd.prog 37 #[.string (opText a b c d f g)] W fun e w'=>e= .returned (.tuple #[.agg #[.int .i64 a,.int .i64 b,.int .i64 c,.int .i64 d,.int .i64 f,.int .i64 g],.bool true])∧Below W.heap.size W w'):=⟨fun W hW=>opRead_back hok W (HE.out.below hW)⟩
    rw[hok]at HO
    obtain⟨X,hX⟩: ∃X,X=opText a b c d f g:=⟨_,rfl⟩;rw[←hX]at HV HS HR x1 x2
    clear hX hok;obtain⟨c0,c1,c2,c3,c4,c5⟩:=box6 HB.out.blk
    go_upto_region 8 with (first
      |(go_at_call 24;(with_reducible refine(HV.out _ HB.out.below).mono ?_);rintro e w3 ⟨rfl,hb⟩;replace HB:=Aside0.mk (HB.out.step hb);clear hb c0 c1 c2 c3 c4 c5;obtain⟨c0,c1,c2,c3,c4,c5⟩:=box6 HB.out.blk)
      |(go_at_call 22;(with_reducible refine(HS.out _).mono ?_);rintro e w3 ⟨rfl,hb⟩;replace HB:=Aside0.mk (HB.out.step hb);clear hb c0 c1 c2 c3 c4 c5;obtain⟨c0,c1,c2,c3,c4,c5⟩:=box6 HB.out.blk)
      |(go_at_call 37;(with_reducible refine(HR.out _ HB.out.below).mono ?_);rintro e w3 ⟨rfl,hb⟩;replace HB:=Aside0.mk (Hold2.new (HB.out.step hb) (.cells #[.int .i64 a,.int .i64 b,.int .i64 c,.int .i64 d,.int .i64 f,.int .i64 g] 35));clear hb c0 c1 c2 c3 c4 c5;obtain⟨c0,c1,c2,c3,c4,c5⟩:=box6 HB.out.blk;obtain⟨d0,d1,d2,d3,d4,d5⟩:=box6 HB.out.blk2))
    go_wp2_with (go_at_call 38;(with_reducible refine(HO.out _).mono ?_);rintro e w4 ⟨rfl,hb⟩;replace HB:=Aside0.mk (HB.out.step hb);clear hb)
    go_ret
    exact⟨rfl,HB.out.below⟩
  · simp only[Bool.not_eq_true]at hok
    rw[opText_no hok]at HV HS
    clear hok;obtain⟨c0,c1,c2,c3,c4,c5⟩:=box6 HB.out.blk
    go_wp2_with (first
      |(go_at_call 24;(with_reducible refine(HV.out _ HB.out.below).mono ?_);rintro e w3 ⟨rfl,hb⟩;replace HB:=Aside0.mk (HB.out.step hb);clear hb c0 c1 c2 c3 c4 c5;obtain⟨c0,c1,c2,c3,c4,c5⟩:=box6 HB.out.blk)
      |(go_at_call 22;(with_reducible refine(HS.out _).mono ?_);rintro e w3 ⟨rfl,hb⟩;replace HB:=Aside0.mk (HB.out.step hb);clear hb c0 c1 c2 c3 c4 c5;obtain⟨c0,c1,c2,c3,c4,c5⟩:=box6 HB.out.blk))
    go_ret
    exact⟨rfl,HB.out.below⟩
end Go.Proofs.YtmklpbmlgjkbiaaDoor.PS
end
