/- What the rows of VX rest on, part 2. -/
import Derived.Shelf.Strings.Builder1
import Derived.Shelf.Utf8.RuneCount
import Derived.Shelf.Strconv.Atoi
import Derived.Shelf.Strconv.Itoa0
import Derived.Shelf.Strconv.Itoa1
import Derived.Shelf.LaysM
import Derived.Shelf.Strconv.Itoa2
import Derived.Shelf.Strconv.Itoa3
import Derived.Shelf.Strconv.AtoiErrFast
import Derived.Shelf.Strconv.ParseIntEmpty
import Derived.Shelf.Strconv.AtoiFail
import Derived.Shelf.Strconv.Clone
import Derived.Shelf.Strconv.SyntaxError
import Derived.Shelf.LaysC
import Derived.Shelf.Strconv.ToError
import Derived.Shelf.Strconv.Lower
import Derived.Shelf.Strconv.ParseUint10
import Derived.Shelf.Strconv.ParseUint10Empty
import Derived.Shelf.Strconv.ParseUint10Any
import Derived.Shelf.Strconv.ParseInt10
import Derived.Shelf.Strconv.AtoiLong
import Derived.Shelf.Strconv.AtoiInnerAll
import Derived.Shelf.Strconv.RangeError
import Derived.Shelf.Strconv.ToErrorRange
import Derived.Shelf.Strconv.AtoiAll
import Derived.Shelf.Strconv.ErrVarAll
import Derived.Shelf.Strings.Search1
import Derived.Shelf.Strings.Search2
import Derived.Shelf.Strings.Count
import Derived.Shelf.Strings.Shaped
import Derived.Shelf.Strings.Split
import Derived.Shelf.Strings.SplitShaped
import Derived.Shelf.Unicode.Decode
import Derived.Shelf.Strings.RuneCount
import Derived.Shelf.Strings.Explode
import Derived.Shelf.Unicode.DecodeSlow
import Derived.Shelf.Unicode.DecodeAny
import Derived.WalkSmall
import Derived.Lib.AppendIntMem
import Derived.RegionTactic
import Derived.Lib.AtoiErrMem
import Derived.Test.YtmklpbmlgjkbiaaDoorQVX0
set_option linter.unusedVariables false
set_option linter.unusedSimpArgs false
set_option maxHeartbeats 8000000
set_option maxRecDepth 100000
section
namespace Go.Proofs.YtmklpbmlgjkbiaaDoor.PS
open Go.RowKit Go.Proofs.YtmklpbmlgjkbiaaDoorW.PrintWords Go.Proofs.YtmklpbmlgjkbiaaDoorW.PrintLast
attribute [local go_sem high] eqA25
theorem vtext_ne {k n:Int} (h:okP k n):((vtext k n).toList=[]→False)∧((vtext k n).toList.isEmpty=false):=by
  have:=(vtext_size k n h).1;rw[toListD];cases hl:(vtext k n).data.toList with
  |nil=>rw[hl]at this;simp at this
  |cons x xs=>exact⟨(fun h=>by cases h),rfl⟩
theorem cut_one (k n:Int) (h:okP k n):(readV ((vtext k n).extract 0 ((vtext k n).size-1))).2.2=false∨((readV ((vtext k n).extract 0 ((vtext k n).size-1))).1==k&&(readV ((vtext k n).extract 0 ((vtext k n).size-1))).2.1==n)=false:=
  okAll (P:=fun k n=>(readV ((vtext k n).extract 0 ((vtext k n).size-1))).2.2=false∨((readV ((vtext k n).extract 0 ((vtext k n).size-1))).1==k&&(readV ((vtext k n).extract 0 ((vtext k n).size-1))).2.1==n)=false) (by decide+kernel) (by decide+kernel) (by decide+kernel) (by decide+kernel) k n h
theorem cut_two (k n:Int) (h:okP k n):readV (vtext k n++⟨#[32]⟩)=(0,0,false):=
  okAll (P:=fun k n=>readV (vtext k n++⟨#[32]⟩)=(0,0,false)) (by decide+kernel) (by decide+kernel) (by decide+kernel) (by decide+kernel) k n h
theorem cut_three:readV ⟨#[110,48,53]⟩=(0,0,false):=by decide+kernel
theorem valCut (A0:Option Addr) (c0:Nat) (l0:List Int) (w:World) (hr0:Kd.C (Kd.int .u8) w A0 l0.length l0) (hc0:l0.length≤c0) (hw0: ∀x∈l0,(Lit.int .u8 x).wf=true) (hT:TabErrs w):
    Calls Tryd.prog 8 #[.slice A0 l0.length c0] w fun e w'=>e= .returned (.bool true)∧Below w.heap.size w w':=by
  have HT:=Aside0.mk hT.1;have HE:=Aside0.mk hT.2;clear hT;have H0:Aside0 (Calls Tryd.prog 20 #[.slice A0 l0.length c0] w (SomeVal w)):=⟨drawValText_w A0 c0 l0 w hr0 hc0 hw0⟩;clear hr0 hw0 hc0;by_cases m0:l0.length>1048576
  · have e0:decide ((1048576:Int)<(l0.length:Int))=true:=decide_eq_true (by omega)
    clear m0;go_enter Tryd.func8,Tryd.ntmps8
    go_wp2
    go_ret
    exact⟨rfl,Below.refl _ _⟩
  have e0:decide ((1048576:Int)<(l0.length:Int))=false:=decide_eq_false (by omega)
  clear m0;go_enter Tryd.func8,Tryd.ntmps8
  go_upto_region 4 with (go_at_call 20;(with_reducible refine H0.out.mono ?_);rintro e w1 ⟨a,b,rfl,hb⟩;have HB:=Aside0.mk (Hold.new hb (.cells #[.int .i64 a,.int .i64 b] 25));clear hb)
  have HV:Aside0 (∀W,Below w.heap.size w W→Calls Tryd.prog 19 #[.agg #[.int .i64 a,.int .i64 b]] W fun e w'=>e= .returned (.string (vtext a b))∧Below W.heap.size W w'):=⟨fun W hW=>impl_ValText_any a b W (HT.out.below hW)⟩
  have HS:Aside0 (∀W,Calls Tryd.prog 17 #[.agg #[.int .i64 a,.int .i64 b]] W fun e w'=>e= .returned (.string (vtext a b))∧Below W.heap.size W w'):=⟨fun W=>spec_ValText_any a b W⟩
  by_cases hok:okB a b=true
  · have hp:=okB_true.1 hok
    obtain⟨x1,x2⟩:=vtext_ne hp;have hsz:(vtext a b).size≤4:=by have:=(vtext_size a b hp).2;rw[Array.length_toList]at this;exact this
    have hsz2:2≤(vtext a b).size:=by have:=(vtext_size a b hp).1;rw[Array.length_toList]at this;exact this
    have HR1:Aside0 (∀W,Below w.heap.size w W→Calls Tryd.prog 26 #[.string ((vtext a b).extract 0 ((vtext a b).size-1))] W fun e w'=>e= .returned (.tuple #[.agg #[.int .i64 (readV ((vtext a b).extract 0 ((vtext a b).size-1))).1,.int .i64 (readV ((vtext a b).extract 0 ((vtext a b).size-1))).2.1],.bool (readV ((vtext a b).extract 0 ((vtext a b).size-1))).2.2])∧Below W.heap.size W w'):=
      ⟨fun W hW=>impl_ValRead_any _ W (by rw[ByteArray.size_extract];omega) (HT.out.below hW) (HE.out.below hW)⟩
    have HR2:Aside0 (∀W,Below w.heap.size w W→Calls Tryd.prog 26 #[.string (vtext a b++⟨#[32]⟩)] W fun e w'=>e= .returned (.tuple #[.agg #[.int .i64 0,.int .i64 0],.bool false])∧Below W.heap.size W w'):=⟨fun W hW=>by
      have:=impl_ValRead_any (vtext a b++⟨#[32]⟩) W (by rw[ByteArray.size_append];show _+1≤_;omega) (HT.out.below hW) (HE.out.below hW)
      rwa [cut_two a b hp]at this⟩
    have HR3:Aside0 (∀W,Below w.heap.size w W→Calls Tryd.prog 26 #[.string ⟨#[110,48,53]⟩] W fun e w'=>e= .returned (.tuple #[.agg #[.int .i64 0,.int .i64 0],.bool false])∧Below W.heap.size W w'):=⟨fun W hW=>by
      have:=impl_ValRead_any ⟨#[110,48,53]⟩ W (by decide) (HT.out.below hW) (HE.out.below hW)
      rwa [cut_three]at this⟩
    have hc:=cut_one a b hp;obtain⟨X,hX⟩: ∃X,X=vtext a b:=⟨_,rfl⟩;rw[←hX]at HV HS HR1 HR2 x1 x2 hsz hsz2 hc
    obtain⟨R,hR⟩: ∃R,R=readV (X.extract 0 (X.size-1)):=⟨_,rfl⟩;rw[←hR]at HR1 hc
    obtain⟨rk,rn,rb⟩:=R;clear hX hp hok hR;obtain⟨c0,c1⟩:=box2 HB.out.blk;have z1:decide (X.size+1≤9223372036854775807)=true:=decide_eq_true (by omega)
    have z2:(9223372036854775807<X.size+1)=False:=eq_false (by omega)
    have z3:(X.size+1≤9223372036854775807)=True:=eq_true (by omega)
    have y1:(0:Int)≤(X.size:Int)-1:=by omega
    go_upto_region 7 with (first
      |(go_at_call 19;(with_reducible refine(HV.out _ HB.out.below).mono ?_);rintro e w3 ⟨rfl,hb⟩;replace HB:=Aside0.mk (HB.out.step hb);clear hb;obtain⟨c0,c1⟩:=box2 HB.out.blk)
      |(go_at_call 17;(with_reducible refine(HS.out _).mono ?_);rintro e w3 ⟨rfl,hb⟩;replace HB:=Aside0.mk (HB.out.step hb);clear hb;obtain⟨c0,c1⟩:=box2 HB.out.blk))
    go_upto_region 10 with (first
      |(go_at_call 26;(with_reducible refine(HR1.out _ HB.out.below).mono ?_);rintro e w3 ⟨rfl,hb⟩;replace HB:=Aside0.mk (Hold2.new (HB.out.step hb) (.cells #[.int .i64 rk,.int .i64 rn] 25));clear hb)
      |(go_at_call 26;(with_reducible refine(HR2.out _ HB.out.below).mono ?_);rintro e w3 ⟨rfl,hb⟩;replace HB:=Aside0.mk ((HB.out.step hb).alloc (.cells #[.int .i64 0,.int .i64 0] 25));clear hb)
      |(go_at_call 26;(with_reducible refine(HR3.out _ HB.out.below).mono ?_);rintro e w3 ⟨rfl,hb⟩;replace HB:=Aside0.mk ((HB.out.step hb).alloc (.cells #[.int .i64 0,.int .i64 0] 25));clear hb;obtain⟨c0,c1⟩:=box2 HB.out.blk;obtain⟨d0,d1⟩:=box2 HB.out.blk2))
    cases rb with
    |false=>
      clear hc;go_wp2
      go_ret
      exact⟨rfl,HB.out.below⟩
    |true=>
      have hc:(rk==a&&rn==b)=false:=by simpa using hc
      go_wp2
      go_ret
      exact⟨rfl,HB.out.below⟩
  · simp only[Bool.not_eq_true]at hok
    rw[vtext_bad hok]at HV HS
    clear hok;obtain⟨c0,c1⟩:=box2 HB.out.blk
    go_wp2_with (first
      |(go_at_call 19;(with_reducible refine(HV.out _ HB.out.below).mono ?_);rintro e w3 ⟨rfl,hb⟩;replace HB:=Aside0.mk (HB.out.step hb);clear hb;obtain⟨c0,c1⟩:=box2 HB.out.blk)
      |(go_at_call 17;(with_reducible refine(HS.out _).mono ?_);rintro e w3 ⟨rfl,hb⟩;replace HB:=Aside0.mk (HB.out.step hb);clear hb;obtain⟨c0,c1⟩:=box2 HB.out.blk))
    go_ret
    exact⟨rfl,HB.out.below⟩
end Go.Proofs.YtmklpbmlgjkbiaaDoor.PS
end
