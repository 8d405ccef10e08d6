/- What the rows of VK rest on, part 1. -/
import Derived.Test.YtmklpbmlgjkbiaaDoorProg
import Derived.Below
import Derived.Deep.Draws
import Derived.Deep.AppendLies
import Derived.Maps.AppendAt
import Derived.OwnWalk
import Derived.Laws.BytesArg
import Derived.Laws.MakeOwn
import Derived.Laws.OwnMore
import Derived.Deep.OwnRows
import Derived.Tactics
import Derived.Lib.ConvBytes
import Derived.Laws.Slices
import Derived.WalkKit
import Derived.KernelRfl
import Derived.RowKit3
import Derived.Deep.LoopGhost
import Derived.Deep.QuietTactic
import Derived.BigQuiet
import Derived.WideLaws
import Derived.Deep.DeepCutAuto
import Derived.Deep.CutBlock
import Derived.Deep.RegionHeld3
import Derived.Laws.Rows
import Derived.Lib.AppendStr
import Derived.ArgAppend
import Derived.Laws.IdiomCopy
import Derived.OrdersHeld
import Derived.Laws.BitsLemmas
import Derived.RowKit
import Derived.Laws.StructEq
import Derived.Deep.RegionWith
import Derived.Lib.Bytealg
import Derived.Shelf.Strings.Search3
import Derived.WalkSpells
import Derived.Shelf.Strings.Builder1
import Derived.Shelf.Utf8.RuneCount
import Derived.Shelf.Strconv.Atoi
import Derived.Shelf.Strconv.Itoa0
import Derived.Shelf.Strconv.Itoa1
import Derived.Shelf.LaysM
import Derived.Shelf.Strconv.Itoa2
import Derived.Shelf.Strconv.Itoa3
import Derived.Shelf.Strconv.AtoiErrFast
import Derived.Shelf.Strconv.ParseIntEmpty
import Derived.Shelf.Strconv.AtoiFail
import Derived.Shelf.Strconv.Clone
import Derived.Shelf.Strconv.SyntaxError
import Derived.Shelf.LaysC
import Derived.Shelf.Strconv.ToError
import Derived.Shelf.Strconv.Lower
import Derived.Shelf.Strconv.ParseUint10
import Derived.Shelf.Strconv.ParseUint10Empty
import Derived.Shelf.Strconv.ParseUint10Any
import Derived.Shelf.Strconv.ParseInt10
import Derived.Shelf.Strconv.AtoiLong
import Derived.Shelf.Strconv.AtoiInnerAll
import Derived.Shelf.Strconv.RangeError
import Derived.Shelf.Strconv.ToErrorRange
import Derived.Shelf.Strconv.AtoiAll
import Derived.Shelf.Strconv.ErrVarAll
import Derived.Shelf.Strings.Search1
import Derived.Shelf.Strings.Search2
import Derived.Shelf.Strings.Count
import Derived.Shelf.Strings.Shaped
import Derived.Shelf.Strings.Split
import Derived.Shelf.Strings.SplitShaped
import Derived.Shelf.Unicode.Decode
import Derived.Shelf.Strings.RuneCount
import Derived.Shelf.Strings.Explode
import Derived.Shelf.Unicode.DecodeSlow
import Derived.Shelf.Unicode.DecodeAny
import Derived.WalkSmall
import Derived.Lib.AppendIntMem
import Derived.RegionTactic
import Derived.Lib.AtoiErrMem
import Derived.Test.YtmklpbmlgjkbiaaDoorQVB2
set_option linter.unusedVariables false
set_option linter.unusedSimpArgs false
set_option maxHeartbeats 8000000
set_option maxRecDepth 100000
section
namespace Go.Proofs.YtmklpbmlgjkbiaaDoor.PS
open Go.RowKit Go.Proofs.YtmklpbmlgjkbiaaDoorW.PrintWords Go.Proofs.YtmklpbmlgjkbiaaDoorW.PrintLast
attribute [local go_sem high] eqA25
theorem vtext_ne {k n:Int} (h:okP k n):((vtext k n).toList=[]→False)∧((vtext k n).toList.isEmpty=false):=by
  have:=(vtext_size k n h).1;rw[toListD];cases hl:(vtext k n).data.toList with
  |nil=>rw[hl]at this;simp at this
  |cons x xs=>exact⟨(fun h=>by cases h),rfl⟩
theorem valBack (A0:Option Addr) (c0:Nat) (l0:List Int) (w:World) (hr0:Kd.C (Kd.int .u8) w A0 l0.length l0) (hc0:l0.length≤c0) (hw0: ∀x∈l0,(Lit.int .u8 x).wf=true) (hT:TabErrs w):
    Calls Tryd.prog 7 #[.slice A0 l0.length c0] w fun e w'=>e= .returned (.bool true)∧Below w.heap.size w w':=by
  have HT:=Aside0.mk hT.1;have HE:=Aside0.mk hT.2;clear hT;have H0:Aside0 (Calls Tryd.prog 20 #[.slice A0 l0.length c0] w (SomeVal w)):=⟨drawValText_w A0 c0 l0 w hr0 hc0 hw0⟩;clear hr0 hw0 hc0;by_cases m0:l0.length>1048576
  · have e0:decide ((1048576:Int)<(l0.length:Int))=true:=decide_eq_true (by omega)
    clear m0;go_enter Tryd.func7,Tryd.ntmps7
    go_wp2
    go_ret
    exact⟨rfl,Below.refl _ _⟩
  have e0:decide ((1048576:Int)<(l0.length:Int))=false:=decide_eq_false (by omega)
  clear m0;go_enter Tryd.func7,Tryd.ntmps7
  go_upto_region 4 with (go_at_call 20;(with_reducible refine H0.out.mono ?_);rintro e w1 ⟨a,b,rfl,hb⟩;have HB:=Aside0.mk (Hold.new hb (.cells #[.int .i64 a,.int .i64 b] 25));clear hb)
  have HV:Aside0 (∀W,Below w.heap.size w W→Calls Tryd.prog 19 #[.agg #[.int .i64 a,.int .i64 b]] W fun e w'=>e= .returned (.string (vtext a b))∧Below W.heap.size W w'):=⟨fun W hW=>impl_ValText_any a b W (HT.out.below hW)⟩
  have HS:Aside0 (∀W,Calls Tryd.prog 17 #[.agg #[.int .i64 a,.int .i64 b]] W fun e w'=>e= .returned (.string (vtext a b))∧Below W.heap.size W w'):=⟨fun W=>spec_ValText_any a b W⟩
  have HO:Aside0 (∀W,Calls Tryd.prog 27 #[.agg #[.int .i64 a,.int .i64 b]] W fun e w'=>e= .returned (.bool (okB a b))∧Below W.heap.size W w'):=⟨fun W=>valok_any a b W⟩
  by_cases hok:okB a b=true
  · have hp:=okB_true.1 hok
    obtain⟨x1,x2⟩:=vtext_ne hp
    have HR:Aside0 (∀W,Below w.heap.size w W→Calls Tryd.prog 26 #[.string (vtext a b)] W fun e w'=>e= .returned (.tuple #[.agg #[.int .i64 a,.int .i64 b],.bool true])∧Below W.heap.size W w'):=⟨fun W hW=>by
      have:=impl_ValRead_any (vtext a b) W (by have:=(vtext_size a b hp).2;rw[Array.length_toList]at this;show(vtext a b).data.size≤_;omega) (HT.out.below hW) (HE.out.below hW)
      rwa [readV_text a b hp]at this⟩
    rw[hok]at HO
    obtain⟨X,hX⟩: ∃X,X=vtext a b:=⟨_,rfl⟩;rw[←hX]at HV HS HR x1 x2
    clear hX hp hok;obtain⟨c0,c1⟩:=box2 HB.out.blk
    go_upto_region 8 with (first
      |(go_at_call 19;(with_reducible refine(HV.out _ HB.out.below).mono ?_);rintro e w3 ⟨rfl,hb⟩;replace HB:=Aside0.mk (HB.out.step hb);clear hb;obtain⟨c0,c1⟩:=box2 HB.out.blk)
      |(go_at_call 17;(with_reducible refine(HS.out _).mono ?_);rintro e w3 ⟨rfl,hb⟩;replace HB:=Aside0.mk (HB.out.step hb);clear hb;obtain⟨c0,c1⟩:=box2 HB.out.blk)
      |(go_at_call 26;(with_reducible refine(HR.out _ HB.out.below).mono ?_);rintro e w3 ⟨rfl,hb⟩;replace HB:=Aside0.mk (Hold2.new (HB.out.step hb) (.cells #[.int .i64 a,.int .i64 b] 25));clear hb;obtain⟨c0,c1⟩:=box2 HB.out.blk;obtain⟨d0,d1⟩:=box2 HB.out.blk2))
    go_wp2_with (go_at_call 27;(with_reducible refine(HO.out _).mono ?_);rintro e w4 ⟨rfl,hb⟩;replace HB:=Aside0.mk (HB.out.step hb);clear hb)
    go_ret
    exact⟨rfl,HB.out.below⟩
  · simp only[Bool.not_eq_true]at hok
    rw[vtext_bad hok]at HV HS
    clear hok;obtain⟨c0,c1⟩:=box2 HB.out.blk
    go_wp2_with (first
      |(go_at_call 19;(with_reducible refine(HV.out _ HB.out.below).mono ?_);rintro e w3 ⟨rfl,hb⟩;replace HB:=Aside0.mk (HB.out.step hb);clear hb;obtain⟨c0,c1⟩:=box2 HB.out.blk)
      |(go_at_call 17;(with_reducible refine(HS.out _).mono ?_);rintro e w3 ⟨rfl,hb⟩;replace HB:=Aside0.mk (HB.out.step hb);clear hb;obtain⟨c0,c1⟩:=box2 HB.out.blk))
    go_ret
    exact⟨rfl,HB.out.below⟩
end Go.Proofs.YtmklpbmlgjkbiaaDoor.PS
end
