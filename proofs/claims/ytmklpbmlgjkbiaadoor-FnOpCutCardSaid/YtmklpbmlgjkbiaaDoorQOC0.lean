/- What the rows of OC rest on, part 1. -/
import Derived.Test.YtmklpbmlgjkbiaaDoorProg
import Derived.Below
import Derived.Deep.Draws
import Derived.Deep.AppendLies
import Derived.Maps.AppendAt
import Derived.OwnWalk
import Derived.Laws.BytesArg
import Derived.Laws.MakeOwn
import Derived.Laws.OwnMore
import Derived.Deep.OwnRows
import Derived.Tactics
import Derived.Lib.ConvBytes
import Derived.Laws.Slices
import Derived.WalkKit
import Derived.KernelRfl
import Derived.RowKit3
import Derived.Deep.LoopGhost
import Derived.Deep.QuietTactic
import Derived.BigQuiet
import Derived.WideLaws
import Derived.Deep.DeepCutAuto
import Derived.Deep.CutBlock
import Derived.Deep.RegionHeld3
import Derived.Laws.Rows
import Derived.Lib.AppendStr
import Derived.ArgAppend
import Derived.Laws.IdiomCopy
import Derived.OrdersHeld
import Derived.Laws.BitsLemmas
import Derived.RowKit
import Derived.Laws.StructEq
import Derived.Deep.RegionWith
import Derived.Lib.Bytealg
import Derived.Shelf.Strings.Search3
import Derived.WalkSpells
import Derived.Shelf.Strings.Builder1
import Derived.Shelf.Utf8.RuneCount
import Derived.Shelf.Strconv.Atoi
import Derived.Shelf.Strconv.Itoa0
import Derived.Shelf.Strconv.Itoa1
import Derived.Shelf.LaysM
import Derived.Shelf.Strconv.Itoa2
import Derived.Shelf.Strconv.Itoa3
import Derived.Shelf.Strconv.AtoiErrFast
import Derived.Shelf.Strconv.ParseIntEmpty
import Derived.Shelf.Strconv.AtoiFail
import Derived.Shelf.Strconv.Clone
import Derived.Shelf.Strconv.SyntaxError
import Derived.Shelf.LaysC
import Derived.Shelf.Strconv.ToError
import Derived.Shelf.Strconv.Lower
import Derived.Shelf.Strconv.ParseUint10
import Derived.Shelf.Strconv.ParseUint10Empty
import Derived.Shelf.Strconv.ParseUint10Any
import Derived.Shelf.Strconv.ParseInt10
import Derived.Shelf.Strconv.AtoiLong
import Derived.Shelf.Strconv.AtoiInnerAll
import Derived.Shelf.Strconv.RangeError
import Derived.Shelf.Strconv.ToErrorRange
import Derived.Shelf.Strconv.AtoiAll
import Derived.Shelf.Strconv.ErrVarAll
import Derived.Shelf.Strings.Search1
import Derived.Shelf.Strings.Search2
import Derived.Shelf.Strings.Count
import Derived.Shelf.Strings.Shaped
import Derived.Shelf.Strings.Split
import Derived.Shelf.Strings.SplitShaped
import Derived.Shelf.Unicode.Decode
import Derived.Shelf.Strings.RuneCount
import Derived.Shelf.Strings.Explode
import Derived.Shelf.Unicode.DecodeSlow
import Derived.Shelf.Unicode.DecodeAny
import Derived.WalkSmall
import Derived.Lib.AppendIntMem
import Derived.RegionTactic
import Derived.Outline
import Derived.Lib.Split
import Derived.Lib.SplitLaws
import Derived.Lib.CountLaws
import Derived.Lib.AtoiErrMem
import Derived.Lib.OthersKept
import Derived.Maps.OwnSet
import Derived.Maps.Views
import Derived.Test.YtmklpbmlgjkbiaaDoorQOXB6
set_option linter.unusedVariables false
set_option linter.unusedSimpArgs false
set_option maxHeartbeats 8000000
set_option maxRecDepth 100000
section
namespace Go.Proofs.YtmklpbmlgjkbiaaDoor.PS
open Go.RowKit Go.Proofs.YtmklpbmlgjkbiaaDoorW.PrintWords Go.Proofs.YtmklpbmlgjkbiaaDoorW.PrintLast
theorem byL_inj {a b:List UInt8} (h:byL a=byL b):a=b:=by
  have:=congrArg (fun x:ByteArray=>x.data.toList) h
  simpa[byL]using this
theorem itoa_ne (n:Int) (h0: -100<n) (h1:n<100):itoaS n≠ []:=by
  have h: ∀i∈List.range 199,itoaS ((i:Int)-99)≠ []:=by decide+kernel
  have:=h (n+99).toNat (by simp;omega)
  rwa [show(((n+99).toNat:Nat):Int)-99=n by omega]at this
theorem vtext_neL (vk vn:Int) (h:okP vk vn):vtextS vk vn≠ []:=
  okAll (P:=fun k n=>vtextS k n≠ []) (by decide+kernel) (by decide+kernel) (by decide+kernel) (by decide+kernel) vk vn h
theorem words_ne {k r s t vk vn:Int} (h:opP k r s t vk vn): ∀v∈nameS k::wordsL k r s t vk vn,v≠ []:=by
  obtain⟨hk,hv,hr,hs,ht,hvv⟩:=h;intro v hm;rcases List.mem_cons.1 hm with rfl|hm
  · exact(name_facts k hk).1.2
  unfold wordsL at hm;simp only[List.mem_append]at hm
  have one: ∀ {b:Bool} {x:List UInt8},x≠ []→v∈sg b x→v≠ []:=by
    intro b x hx hv;unfold sg at hv;split at hv
    · rw[List.mem_singleton]at hv;rwa [hv]
    · cases hv
  rcases hm with hm|hm|hm|hm
  · exact one (itoa_ne r (by omega) (by omega)) hm
  · exact one (itoa_ne s (by omega) (by omega)) hm
  · exact one (itoa_ne t (by omega) (by omega)) hm
  · exact one (vtext_neL vk vn hv.1) hm
theorem text_join {k r s t vk vn:Int} (h:opB k r s t vk vn=true):opText k r s t vk vn=byL (joinL (nameS k) (wordsL k r s t vk vn)):=by
  rw[←optL_join,←opText_list h,byL_data]
theorem text_pieces {k r s t vk vn:Int} (h:opB k r s t vk vn=true):piecesB (opText k r s t vk vn)=(nameS k::wordsL k r s t vk vn).map byL:=by
  have hp:=opB_true.1 h;rw[text_join h,pieces_join _ _ (name_facts k hp.1).1.1 (words_blank hp)];rfl
theorem join_end: ∀ (ws:List (List UInt8)) (w:List UInt8),joinL w ws++ [32]=joinL w (ws++ [[]])
  | [],w=>rfl
  |v::ws,w=>by
    show(w++32::joinL v ws)++ [32]=w++32::joinL v (ws++ [[]])
    rw[←join_end ws v];simp
theorem no_blank_end {k r s t vk vn a b c d f g:Int} (h:opB k r s t vk vn=true) (h2:opB a b c d f g=true):opText a b c d f g≠opText k r s t vk vn++⟨#[32]⟩:=by
  intro e;have hp:=opB_true.1 h
  have e1:opText k r s t vk vn++⟨#[32]⟩=byL (joinL (nameS k) (wordsL k r s t vk vn++ [[]])):=by
    rw[←join_end,text_join h];refine Go.WideShapes.bytes_inj ?_
    simp[byL]
  have e2:=pieces_join (wordsL k r s t vk vn++ [[]]) (nameS k) (name_facts k hp.1).1.1 (by
    intro v hv;rcases List.mem_append.1 hv with hv|hv
    · exact words_blank hp v hv
    · rw[List.mem_singleton.1 hv];simp)
  rw[←e1,←e,text_pieces h2]at e2
  have hm:byL []∈(nameS a::wordsL a b c d f g).map byL:=by
    rw[e2];simp
  obtain⟨v,hv,he⟩:=List.mem_map.1 hm;exact words_ne (opB_true.1 h2) v hv (byL_inj he)
theorem no_blank_first {x:ByteArray} {a b c d f g:Int} (h2:opB a b c d f g=true):opText a b c d f g≠⟨#[32]⟩++x:=by
  intro e
  have e1:(⟨#[32]⟩:ByteArray)++x=byL ([]++32::x.data.toList):=by
    refine Go.WideShapes.bytes_inj ?_
    simp[byL]
  have e2:=pieces_cons [] x.data.toList (by simp)
  rw[←e1,←e,text_pieces h2]at e2
  injection e2 with e3 e4
  exact words_ne (opB_true.1 h2) (nameS a) List.mem_cons_self (byL_inj e3)
theorem reads_no_of {x:ByteArray} {k r s t vk vn:Int} {ok:Bool} (h:Reads x k r s t vk vn ok) (hn: ∀a b c d f g:Int,opB a b c d f g=true→opText a b c d f g≠x):k=0∧r=0∧s=0∧t=0∧vk=0∧vn=0∧ok=false:=by
  rcases h with ⟨rfl,h1,h2⟩|⟨rfl,⟨rfl,rfl,rfl,rfl,rfl,rfl⟩,h2⟩
  · exact absurd h2 (hn _ _ _ _ _ _ h1)
  · exact⟨rfl,rfl,rfl,rfl,rfl,rfl,rfl⟩
theorem reads_other {x:ByteArray} {k r s t vk vn a b c d f g:Int} {ok:Bool} (h:Reads x k r s t vk vn ok) (hX:opText a b c d f g≠x):ok=false∨(k==a&&(r==b&&(s==c&&(t==d&&(vk==f&&vn==g)))))=false:=by
  rcases h with ⟨rfl,h1,h2⟩|⟨rfl, -, -⟩
  · right
    cases hq:(k==a&&(r==b&&(s==c&&(t==d&&(vk==f&&vn==g)))))with
    |false=>rfl
    |true=>
      simp only[Bool.and_eq_true,beq_iff_eq]at hq
      obtain⟨rfl,rfl,rfl,rfl,rfl,rfl⟩:=hq;exact absurd h2 hX
  · exact .inl rfl
end Go.Proofs.YtmklpbmlgjkbiaaDoor.PS
end
section
namespace Go.Proofs.YtmklpbmlgjkbiaaDoor.PS
open Go.RowKit Go.Proofs.YtmklpbmlgjkbiaaDoorW.PrintWords Go.Proofs.YtmklpbmlgjkbiaaDoorW.PrintLast
attribute [local go_sem high] eqA35
def NoOp (w:World) (e:Ending) (w':World):Prop:=e= .returned (.tuple #[.agg #[.int .i64 0,.int .i64 0,.int .i64 0,.int .i64 0,.int .i64 0,.int .i64 0],.bool false])∧Below w.heap.size w w'
theorem opRead_none {x:ByteArray} (hn: ∀a b c d f g:Int,opB a b c d f g=true→opText a b c d f g≠x) (W:World) (hE:Env W):Calls Tryd.prog 37 #[.string x] W (NoOp W):=by
  refine(impl_OpRead_any _ W hE).mono ?_
  rintro e w' ⟨k,r,s,t,vk,vn,ok,rfl,hR,hb⟩
  obtain⟨rfl,rfl,rfl,rfl,rfl,rfl,rfl⟩:=reads_no_of hR hn;exact⟨rfl,hb⟩
def OtherOp (a b c d f g:Int) (w:World) (e:Ending) (w':World):Prop:= ∃ (k r s t vk vn:Int) (ok:Bool),e= .returned (.tuple #[.agg #[.int .i64 k,.int .i64 r,.int .i64 s,.int .i64 t,.int .i64 vk,.int .i64 vn],.bool ok])∧(ok=false∨(k==a&&(r==b&&(s==c&&(t==d&&(vk==f&&vn==g)))))=false)∧Below w.heap.size w w'
theorem opRead_other {x:ByteArray} {a b c d f g:Int} (hX:opText a b c d f g≠x) (W:World) (hE:Env W):Calls Tryd.prog 37 #[.string x] W (OtherOp a b c d f g W):=by
  refine(impl_OpRead_any _ W hE).mono ?_
  rintro e w' ⟨k,r,s,t,vk,vn,ok,rfl,hR,hb⟩
  exact⟨k,r,s,t,vk,vn,ok,rfl,reads_other hR hX,hb⟩
theorem cut_ne {X:ByteArray} (h:1≤X.size):X≠X.extract 0 (X.size-1):=by
  intro e;have:=congrArg ByteArray.size e;rw[ByteArray.size_extract]at this
  omega
theorem opCut (A0:Option Addr) (c0:Nat) (l0:List Int) (w:World) (hr0:Kd.C (Kd.int .u8) w A0 l0.length l0) (hc0:l0.length≤c0) (hw0: ∀x∈l0,(Lit.int .u8 x).wf=true) (hT:Env w):
    Calls Tryd.prog 14 #[.slice A0 l0.length c0] w fun e w'=>e= .returned (.bool true)∧Below w.heap.size w w':=by
  have HE:=Aside0.mk hT;clear hT;have H0:Aside0 (Calls Tryd.prog 25 #[.slice A0 l0.length c0] w (SomeOp w)):=⟨drawOpText_w A0 c0 l0 w hr0 hc0 hw0⟩;clear hr0 hw0 hc0;by_cases m0:l0.length>1048576
  · have e0:decide ((1048576:Int)<(l0.length:Int))=true:=decide_eq_true (by omega)
    clear m0;go_enter Tryd.func14,Tryd.ntmps14
    go_wp2
    go_ret
    exact⟨rfl,Below.refl _ _⟩
  have e0:decide ((1048576:Int)<(l0.length:Int))=false:=decide_eq_false (by omega)
  clear m0;go_enter Tryd.func14,Tryd.ntmps14
  go_upto_region 4 with (go_at_call 25;(with_reducible refine H0.out.mono ?_);rintro e w1 ⟨a,b,c,d,f,g,rfl, -,hb⟩;have HB:=Aside0.mk (Hold.new hb (.cells #[.int .i64 a,.int .i64 b,.int .i64 c,.int .i64 d,.int .i64 f,.int .i64 g] 35));clear hb)
  have HV:Aside0 (∀W,Below w.heap.size w W→Calls Tryd.prog 24 #[.agg #[.int .i64 a,.int .i64 b,.int .i64 c,.int .i64 d,.int .i64 f,.int .i64 g]] W fun e w'=>e= .returned (.string (opText a b c d f g))∧Below W.heap.size W w'):=⟨fun W hW=>impl_OpText_any a b c d f g W (HE.out.below hW).1.1⟩
  have HS:Aside0 (∀W,Calls Tryd.prog 22 #[.agg #[.int .i64 a,.int .i64 b,.int .i64 c,.int .i64 d,.int .i64 f,.int .i64 g]] W fun e w'=>e= .returned (.string (opText a b c d f g))∧Below W.heap.size W w'):=⟨fun W=>spec_OpText_any a b c d f g W⟩
  by_cases hok:opB a b c d f g=true
  · obtain⟨x1,x2⟩:=opText_ne hok
    have hsz:(opText a b c d f g).size≤24:=opText_le
    have hsz1:1≤(opText a b c d f g).size:=by
      rw[toListD]at x1
      rcases Nat.eq_zero_or_pos (opText a b c d f g).size with h|h
      · refine absurd ?_ x1
        have:(opText a b c d f g).data.toList.length=0:=by rw[Array.length_toList];exact h
        exact List.length_eq_zero_iff.1 this
      · exact h
    have HR1:Aside0 (∀W,Below w.heap.size w W→Calls Tryd.prog 37 #[.string ((opText a b c d f g).extract 0 ((opText a b c d f g).size-1))] W (OtherOp a b c d f g W)):=⟨fun W hW=>opRead_other (cut_ne hsz1) W (HE.out.below hW)⟩
    have HR2:Aside0 (∀W,Below w.heap.size w W→Calls Tryd.prog 37 #[.string (opText a b c d f g++⟨#[32]⟩)] W (NoOp W)):=⟨fun W hW=>opRead_none (fun _ _ _ _ _ _ h2=>no_blank_end hok h2) W (HE.out.below hW)⟩
    have HR3:Aside0 (∀W,Below w.heap.size w W→Calls Tryd.prog 37 #[.string (⟨#[32]⟩++opText a b c d f g)] W (NoOp W)):=⟨fun W hW=>opRead_none (fun _ _ _ _ _ _ h2=>no_blank_first h2) W (HE.out.below hW)⟩
    obtain⟨X,hX⟩: ∃X,X=opText a b c d f g:=⟨_,rfl⟩;rw[←hX]at HV HS HR1 HR2 HR3 x1 x2 hsz hsz1
    clear hX hok;obtain⟨c0,c1,c2,c3,c4,c5⟩:=box6 HB.out.blk;have z1:decide (X.size+1≤9223372036854775807)=true:=decide_eq_true (by omega)
    have z2:(9223372036854775807<X.size+1)=False:=eq_false (by omega)
    have z3:(X.size+1≤9223372036854775807)=True:=eq_true (by omega)
    have z4:decide (1+X.size≤9223372036854775807)=true:=decide_eq_true (by omega)
    have z5:(9223372036854775807<1+X.size)=False:=eq_false (by omega)
    have z6:(1+X.size≤9223372036854775807)=True:=eq_true (by omega)
    have y1:(0:Int)≤(X.size:Int)-1:=by omega
    go_upto_region 7 with (first
      |(go_at_call 24;(with_reducible refine(HV.out _ HB.out.below).mono ?_);rintro e w3 ⟨rfl,hb⟩;replace HB:=Aside0.mk (HB.out.step hb);clear hb c0 c1 c2 c3 c4 c5;obtain⟨c0,c1,c2,c3,c4,c5⟩:=box6 HB.out.blk)
      |(go_at_call 22;(with_reducible refine(HS.out _).mono ?_);rintro e w3 ⟨rfl,hb⟩;replace HB:=Aside0.mk (HB.out.step hb);clear hb c0 c1 c2 c3 c4 c5;obtain⟨c0,c1,c2,c3,c4,c5⟩:=box6 HB.out.blk))
    clear c0 c1 c2 c3 c4 c5
    go_upto_region 10 with (first
      |(go_at_call 37;(with_reducible refine(HR1.out _ HB.out.below).mono ?_);rintro e w3 ⟨rk,rr,rs,rt,ra,rn,rb,rfl,hc,hb⟩;replace HB:=Aside0.mk (Hold2.new (HB.out.step hb) (.cells #[.int .i64 rk,.int .i64 rr,.int .i64 rs,.int .i64 rt,.int .i64 ra,.int .i64 rn] 35));clear hb)
      |(go_at_call 37;(with_reducible refine(HR2.out _ HB.out.below).mono ?_);rintro e w3 ⟨rfl,hb⟩;replace HB:=Aside0.mk ((HB.out.step hb).alloc (.cells #[.int .i64 0,.int .i64 0,.int .i64 0,.int .i64 0,.int .i64 0,.int .i64 0] 35));clear hb)
      |(go_at_call 37;(with_reducible refine(HR3.out _ HB.out.below).mono ?_);rintro e w3 ⟨rfl,hb⟩;replace HB:=Aside0.mk ((HB.out.step hb).alloc (.cells #[.int .i64 0,.int .i64 0,.int .i64 0,.int .i64 0,.int .i64 0,.int .i64 0] 35));clear hb;obtain⟨c0,c1,c2,c3,c4,c5⟩:=box6 HB.out.blk;obtain⟨d0,d1,d2,d3,d4,d5⟩:=box6 HB.out.blk2))
    cases rb with
    |false=>
      clear hc;go_wp2
      go_ret
      exact⟨rfl,HB.out.below⟩
    |true=>
      have hc:(rk==a&&(rr==b&&(rs==c&&(rt==d&&(ra==f&&rn==g)))))=false:=by simpa using hc
      go_wp2
      go_ret
      exact⟨rfl,HB.out.below⟩
  · simp only[Bool.not_eq_true]at hok
    rw[opText_no hok]at HV HS
    clear hok;obtain⟨c0,c1,c2,c3,c4,c5⟩:=box6 HB.out.blk
    go_wp2_with (first
      |(go_at_call 24;(with_reducible refine(HV.out _ HB.out.below).mono ?_);rintro e w3 ⟨rfl,hb⟩;replace HB:=Aside0.mk (HB.out.step hb);clear hb c0 c1 c2 c3 c4 c5;obtain⟨c0,c1,c2,c3,c4,c5⟩:=box6 HB.out.blk)
      |(go_at_call 22;(with_reducible refine(HS.out _).mono ?_);rintro e w3 ⟨rfl,hb⟩;replace HB:=Aside0.mk (HB.out.step hb);clear hb c0 c1 c2 c3 c4 c5;obtain⟨c0,c1,c2,c3,c4,c5⟩:=box6 HB.out.blk))
    go_ret
    exact⟨rfl,HB.out.below⟩
end Go.Proofs.YtmklpbmlgjkbiaaDoor.PS
end
