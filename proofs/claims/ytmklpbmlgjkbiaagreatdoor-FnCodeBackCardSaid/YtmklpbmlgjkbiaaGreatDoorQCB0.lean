/- What the rows of CB rest on, part 1. -/
import Derived.Test.YtmklpbmlgjkbiaaGreatDoorProg
import Derived.Below
import Derived.Deep.Draws
import Derived.Deep.AppendLies
import Derived.Maps.AppendAt
import Derived.OwnWalk
import Derived.Laws.BytesArg
import Derived.Laws.MakeOwn
import Derived.Laws.OwnMore
import Derived.Deep.OwnRows
import Derived.Tactics
import Derived.Lib.ConvBytes
import Derived.Laws.Slices
import Derived.WalkKit
import Derived.KernelRfl
import Derived.RowKit3
import Derived.Deep.LoopGhost
import Derived.Deep.QuietTactic
import Derived.BigQuiet
import Derived.WideLaws
import Derived.Deep.DeepCutAuto
import Derived.Deep.CutBlock
import Derived.Deep.RegionHeld3
import Derived.Laws.Rows
import Derived.Lib.AppendStr
import Derived.ArgAppend
import Derived.Laws.IdiomCopy
import Derived.OrdersHeld
import Derived.Laws.BitsLemmas
import Derived.RowKit
import Derived.Laws.StructEq
import Derived.Deep.RegionWith
import Derived.Lib.Bytealg
import Derived.Shelf.Strings.Search3
import Derived.WalkSpells
import Derived.RegionTactic
import Derived.Lib.OthersKept
import Derived.Lib.Hide
import Derived.WalkSmall
import Derived.Shelf.Strings.Builder1
import Derived.Shelf.Small.Strs
import Derived.Shelf.Utf8.RuneCount
import Derived.Shelf.Strconv.Atoi
import Derived.Shelf.Strconv.Itoa0
import Derived.Shelf.Strconv.Itoa1
import Derived.Shelf.LaysM
import Derived.Shelf.Strconv.Itoa2
import Derived.Shelf.Strconv.Itoa3
import Derived.Shelf.Strconv.AtoiErrFast
import Derived.Shelf.Strconv.ParseIntEmpty
import Derived.Shelf.Strconv.AtoiFail
import Derived.Shelf.Strconv.Clone
import Derived.Shelf.Strconv.SyntaxError
import Derived.Shelf.LaysC
import Derived.Shelf.Strconv.ToError
import Derived.Shelf.Strconv.Lower
import Derived.Shelf.Strconv.ParseUint10
import Derived.Shelf.Strconv.ParseUint10Empty
import Derived.Shelf.Strconv.ParseUint10Any
import Derived.Shelf.Strconv.ParseInt10
import Derived.Shelf.Strconv.AtoiLong
import Derived.Shelf.Strconv.AtoiInnerAll
import Derived.Shelf.Strconv.RangeError
import Derived.Shelf.Strconv.ToErrorRange
import Derived.Shelf.Strconv.AtoiAll
import Derived.Shelf.Strconv.ErrVarAll
import Derived.Shelf.Strings.Search1
import Derived.Shelf.Strings.Search2
import Derived.Shelf.Strings.Count
import Derived.Shelf.Strings.Shaped
import Derived.Shelf.Strings.Prefix
import Derived.Shelf.Strings.Split
import Derived.Shelf.Strings.SplitShaped
import Derived.Shelf.Unicode.Decode
import Derived.Shelf.Strings.RuneCount
import Derived.Shelf.Strings.Explode
import Derived.Shelf.Unicode.DecodeSlow
import Derived.Shelf.Unicode.DecodeAny
import Derived.Lib.UnsafeStr
import Derived.Lib.Builder
import Derived.Laws.Externs
import Derived.Lib.AppendIntMem
import Derived.Outline
import Derived.RangeFuncNested
import Derived.RangeFuncBound
import Derived.RangeFuncCalls
import Derived.RangeFuncLeaves
import Derived.RangeFuncRecord
import Derived.Shelf.Abstract
import Derived.Shelf.RegionOpen
import Derived.OwnWalkIn
import Derived.TacticsInMore
import Derived.LoopNIn
import Derived.LoopIn
import Derived.RegionIn
import Derived.Lib.Split
import Derived.Lib.SplitLaws
import Derived.Lib.CountLaws
import Derived.Lib.AtoiErrMem
import Derived.Lib.Strings
import Derived.RangeFuncBox
import Derived.RangeFuncWrites
import Derived.Maps.OwnSet
import Derived.Maps.Views
import Derived.Test.YtmklpbmlgjkbiaaGreatDoorQCDB7
set_option linter.unusedVariables false
set_option linter.unusedSimpArgs false
set_option maxHeartbeats 8000000
set_option maxRecDepth 100000
section
namespace Go.Proofs.YtmklpbmlgjkbiaaGreatDoor.PD
open Go.RowKit Go.Proofs.YtmklpbmlgjkbiaaGreatDoorW.PrintWords Go.Proofs.YtmklpbmlgjkbiaaGreatDoorW.PrintLast Go.Proofs.YtmklpbmlgjkbiaaGreatDoorW.PrintMore Go.Proofs.YtmklpbmlgjkbiaaGreatDoor.PS Go.Proofs.YtmklpbmlgjkbiaaGreatDoor.PC
attribute [local go_sem] max2_int min2_int max_two min_two max_three min_three max_four min_four   -- for this text's walks alone
attribute [local go_sem high] eqA39
def spec_DrawCodeText.f (k:Nat) (l0:List Int):Option ((List (S39))):=(spec_l6Open.f l0).bind fun bt332=>((spec_l71Code.f k bt332.1 bt332.2).bind fun bt335=>(some bt335.1))
theorem spec_DrawCodeText.calls (k:Nat) (A0:Option Addr) (c0:Nat) (l0:List Int) (r:List (S39)) (w:World) (hr0:Kd.C (Kd.int .u8) w A0 l0.length l0) (hc0:l0.length≤c0) (h:spec_DrawCodeText.f k l0=some r):
  Calls Tryz.prog 11 #[.slice A0 l0.length c0] w fun e w'=> ∃v0_:Value,e= .returned (v0_)∧Kd.R k39 39 w' w.heap.size (fun _=>True) v0_ r∧Below w.heap.size w w':=by
 have HR0:=aS hr0;have HC0:=aS hc0;clear hr0 hc0;have HB:=aS (Below.refl w.heap.size w);have H:((spec_l6Open.f l0).bind fun bt332=>((spec_l71Code.f k bt332.1 bt332.2).bind fun bt335=>(some bt335.1)))=some r:=h
 clear h;replace H:=Option.bind_eq_some_iff.mp H;obtain⟨⟨t332,t333⟩,A20,H⟩:=H;replace H:((spec_l71Code.f k t332 t333).bind fun bt335=>(some bt335.1))=some r:=H
 have A2:=aS A20;clear A20;replace H:=Option.bind_eq_some_iff.mp H;obtain⟨⟨t335,t338⟩,A30,H⟩:=H;replace H:(some t335)=some r:=H;have A3:=aS A30;clear A30;obtain rfl:=Option.some.inj H;go_enter Tryz.func11,Tryz.ntmps11
 go_wp2_with (first|((with_reducible refine gate_callee (f:=25) rfl ?_);refine goesL_ (some 4) rfl rfl Tryz.func25 (by kernel_rfl) rfl #[.slice A0 l0.length c0] rfl (by(try simp only[List.map_toArray,List.map_cons,List.map_nil])<;>rfl) ?_;(with_reducible refine(spec_l6Open.calls _ _ l0 t332 t333 w _ ?side1 ?side2 ?side3 A2.out).mono ?_);(case side1=>exact bU HB.out);(case side2=>exact HR0.out);(case side3=>exact HC0.out);rintro e w4 ⟨g334,rfl,hi,hb,hb2⟩;refine⟨_,rfl,?_⟩;replace HB:=aS (hb);have HI334:=aS (hi);(try clear hb);(try clear hb2);(try clear hi))|((with_reducible refine gate_callee (f:=24) rfl ?_);refine goesL_ (some 5) rfl rfl Tryz.func24 (by kernel_rfl) rfl #[.pointer (some ⟨g334,0,none⟩)] rfl (by(try simp only[List.map_toArray,List.map_cons,List.map_nil])<;>rfl) ?_;(with_reducible refine(spec_l71Code.calls k g334 t332 t333 t335 t338 w _ ?side1 ?side2 A3.out).mono ?_);(case side1=>repeat(with_reducible first|exact HI334.out|apply sA|apply sN|apply sD|apply sS));(case side2=>repeat(with_reducible first|exact HB.out|apply bA|apply bN|apply b1|refine below_set ?_ (IsS86.ge HI334.out)));rintro e w5 ⟨v336,rfl,ho0,hi,hb,hk⟩;refine⟨_,rfl,?_⟩;have HO337:=aS (Kd.R_lower ho0 (below_size (by repeat(with_reducible first|exact HB.out|apply bA|apply bN|apply b1|refine below_set ?_ (IsS86.ge HI334.out)))));replace HB:=aS (hb);replace HI334:=aS (hi);(try clear hb);(try clear hk);(try clear hi);(try clear ho0)))
 go_ret
 exact⟨_,by first|rfl|(simp[*]<;>rfl),by exact rU HO337.out,by repeat(with_reducible first|exact HB.out|apply bA|apply bN|apply b1|refine below_set ?_ (IsS86.ge HI334.out))⟩
end Go.Proofs.YtmklpbmlgjkbiaaGreatDoor.PD
end
section
namespace Go.Proofs.YtmklpbmlgjkbiaaGreatDoor.PS
open Go.Proofs.YtmklpbmlgjkbiaaGreatDoor.PC Go.Proofs.YtmklpbmlgjkbiaaGreatDoor.PD Go.RowKit Go.Proofs.YtmklpbmlgjkbiaaGreatDoorW.PrintWords Go.Proofs.YtmklpbmlgjkbiaaGreatDoorW.PrintLast
def SomeCode (w:World) (e:Ending) (w':World):Prop:= ∃ (v:Value) (c:List S39),e= .returned v∧Kd.R k39 39 w' w.heap.size (fun _=>True) v c∧c.length≤17∧Below w.heap.size w w'
theorem drawCodeText_w (A0:Option Addr) (c0:Nat) (l0:List Int) (w:World) (hr0:Kd.C (Kd.int .u8) w A0 l0.length l0) (hc0:l0.length≤c0) (hw: ∀x∈l0,(Lit.int .u8 x).wf=true):
    Calls Tryz.prog 11 #[.slice A0 l0.length c0] w (SomeCode w):=by
  obtain⟨b,hb,hB⟩:=open_ok hw;obtain⟨c,p',⟨K,hc⟩,hl, -⟩:=code_ev hB 0 (by omega) (by omega)
  have h:spec_DrawCodeText.f K l0=some c:=by
    unfold spec_DrawCodeText.f;rw[hb];simp only[Option.bind_some]
    rw[show spec_l71Code.f K b 0=some (c,p')from hc K (Nat.le_refl _)];rfl
  exact(spec_DrawCodeText.calls K A0 c0 l0 c w hr0 hc0 h).mono fun e w' ⟨v,e1,e2,e3⟩=>⟨v,c,e1,e2,hl,e3⟩
end Go.Proofs.YtmklpbmlgjkbiaaGreatDoor.PS
end
section
namespace Go.Proofs.YtmklpbmlgjkbiaaGreatDoor.PS
open Go.Proofs.YtmklpbmlgjkbiaaGreatDoor.PD Go.RowKit Go.Proofs.YtmklpbmlgjkbiaaGreatDoorW.PrintWords Go.Proofs.YtmklpbmlgjkbiaaGreatDoorW.PrintLast
def cnt (s:ByteArray) (i:Nat):Int:=(((s.data.toList.take i).count 10:Nat):Int)
theorem cnt_le (s:ByteArray) (i:Nat):0≤cnt s i∧cnt s i≤(i:Int):=by
  unfold cnt;have h1:(s.data.toList.take i).count 10≤(s.data.toList.take i).length:=List.count_le_length;rw[List.length_take]at h1
  omega
theorem cnt_succ (s:ByteArray) (i:Nat) (h:i<s.size):cnt s (i+1)=cnt s i+if s[i]=10 then 1 else 0:=by
  have hl:i<s.data.toList.length:=by rw[Array.length_toList];exact h
  unfold cnt;rw[List.take_succ_eq_append_getElem hl,List.count_append];have e:s.data.toList[i]=s[i]:=rfl;rw[e];by_cases hc:s[i]=10
  · rw[if_pos hc,hc];simp
  · rw[if_neg hc,List.count_singleton]
    rw[if_neg (by simpa using hc)]
    simp
theorem count_text: ∀l:List S39,(∀y∈l,opS y=true)→(textL l).count 10=l.length
  | [],_=>rfl
  |y::l,h=>by
    rw[textL_cons,List.count_append,List.count_cons,count_text l (fun z hz=>h z (List.mem_cons_of_mem _ hz)),List.count_eq_zero.2 (tx_nl (h y List.mem_cons_self))]
    simp
theorem cnt_end {c:List S39} (h:codeB c=true):cnt (codeText c) (codeText c).size=(c.length:Int):=by
  unfold cnt
  have:(codeText c).data.toList.take (codeText c).size=textL c:=by
    rw[codeText_of h];exact List.take_of_length_le (by simp[ByteArray.size])
  rw[this,count_text c (code_ops h).2]
theorem codeText_ne {c:List S39} (h:codeB c=true):((codeText c).toList=[]→False)∧(codeText c).toList.isEmpty=false:=by
  have hl:=(code_ops h).1.1;have:(codeText c).toList=textL c:=by rw[toListD,codeText_of h]
  rw[this];cases c with
  |nil=>simp at hl
  |cons y c=>
    rw[textL_cons];constructor
    · intro e;simp at e
    · cases tx y<;>rfl
theorem codeBack (A0:Option Addr) (c0:Nat) (l0:List Int) (w:World) (hr0:Kd.C (Kd.int .u8) w A0 l0.length l0) (hc0:l0.length≤c0) (hw0: ∀x∈l0,(Lit.int .u8 x).wf=true) (hT:Env w):
    Calls Tryz.prog 4 #[.slice A0 l0.length c0] w fun e w'=>e= .returned (.bool true)∧Below w.heap.size w w':=by
  have HE:=aS hT;clear hT;have H0:Aside0 (Calls Tryz.prog 11 #[.slice A0 l0.length c0] w (SomeCode w)):=⟨drawCodeText_w A0 c0 l0 w hr0 hc0 hw0⟩;clear hr0 hw0 hc0;by_cases m0:l0.length>1048576
  · have e0:decide ((1048576:Int)<(l0.length:Int))=true:=decide_eq_true (by omega)
    clear m0;go_enter Tryz.func4,Tryz.ntmps4
    go_wp2
    go_ret
    exact⟨rfl,Below.refl _ _⟩
  have e0:decide ((1048576:Int)<(l0.length:Int))=false:=decide_eq_false (by omega)
  clear m0;go_enter Tryz.func4,Tryz.ntmps4
  go_upto_region 4 with (go_at_call 11;(with_reducible refine H0.out.mono ?_);rintro e w1 ⟨v,c,rfl,hK,hl,hb⟩;obtain⟨A,cc,rfl,hcl,hC⟩:=Kd.R_reads hK;have HS:Aside0 (OneC w w1 A cc c):=⟨hK,hC,hcl,hb⟩;have HN:=aS hl;clear hK hC hcl hb hl)
  have HT:Aside0 (∀W,OneC w W A cc c→Calls Tryz.prog 12 #[.slice A c.length cc] W fun e w'=>e= .returned (.string (codeText c))∧Below W.heap.size W w'):=⟨fun W h=>impl_CodeText_any A cc c W h.2.1 h.2.2.1 (HE.out.below h.2.2.2).1.1⟩
  have HP:Aside0 (∀W,OneC w W A cc c→Calls Tryz.prog 13 #[.slice A c.length cc] W fun e w'=>e= .returned (.string (codeText c))∧Below W.heap.size W w'):=⟨fun W h=>spec_CodeText_any A cc c W h.2.1 h.2.2.1⟩
  by_cases hok:codeB c=true
  rotate_left
  · have hX:codeText c=⟨#[]⟩:=by unfold codeText;rw[if_neg hok]
    rw[hX]at HT HP
    clear hX hok
    go_wp2_with (first
      |(go_at_call 12;(with_reducible refine(HT.out _ HS.out).mono ?_);rintro e w2 ⟨rfl,hb⟩;replace HS:=aS (HS.out.step hb);clear hb)
      |(go_at_call 13;(with_reducible refine(HP.out _ HS.out).mono ?_);rintro e w2 ⟨rfl,hb⟩;replace HS:=aS (HS.out.step hb);clear hb))
    go_ret
    exact⟨rfl,HS.out.below⟩
  obtain⟨x1,x2⟩:=codeText_ne hok;have hsz:(codeText c).size≤400:=codeText_le hok
  have HR:Aside0 (∀W,OneC w W A cc c→Calls Tryz.prog 7 #[.string (codeText c)] W fun e w'=> ∃v1,e= .returned (.tuple #[v1,.bool true])∧TwoC w w' (.slice A c.length cc) v1 c):=⟨fun W h=>by
    refine(impl_CodeRead_any (codeText c) W (HE.out.below h.2.2.2)).mono ?_
    rintro e w' ⟨v1,l,ok,rfl,hR,hK,hb⟩
    obtain⟨rfl,rfl⟩:=readsC_one hR (.inl ⟨rfl,hok,rfl⟩);exact⟨v1,rfl,⟨_,Kd.R_below h.1 hb⟩,⟨_,hK⟩,below_step h.2.2.2 hb⟩⟩
  have HC:Aside0 (cnt (codeText c) (codeText c).size=(c.length:Int)):=⟨cnt_end hok⟩;obtain⟨X,hX⟩: ∃X,X=codeText c:=⟨_,rfl⟩;rw[←hX]at HT HP HR HC x1 x2 hsz
  clear hX hok
  go_upto_region 8 with (first
    |(go_at_call 12;(with_reducible refine(HT.out _ HS.out).mono ?_);rintro e w2 ⟨rfl,hb⟩;replace HS:=aS (HS.out.step hb);clear hb)
    |(go_at_call 13;(with_reducible refine(HP.out _ HS.out).mono ?_);rintro e w2 ⟨rfl,hb⟩;replace HS:=aS (HS.out.step hb);clear hb)
    |(go_at_call 7;(with_reducible refine(HR.out _ HS.out).mono ?_);rintro e w3 ⟨v1,rfl,hV⟩;have HV:=aS hV;clear hV))
  clear HT HP HR HS H0 x1 x2;go_wp2
  go_loopg [7,8] X.size (fun gg s7 s8 wr=> ∃i:Nat,i≤X.size∧X.size-i≤gg∧s7= .int .i64 (cnt X i)∧s8= .int .i64 (i:Int)∧Aside0 (TwoC w wr (.slice A c.length cc) v1 c))
  case atStart=>exact⟨0,Nat.zero_le _,Nat.sub_le _ _,rfl,rfl,HV⟩
  case round=>
    clear HV;obtain⟨i,hi,hgg,rfl,rfl,HV⟩:=hrel;have hcl:=cnt_le X i;by_cases hlt:i<X.size
    · have hltz:(i:Int)<(X.size:Int):=by omega
      have h0z:(0:Int)≤(i:Int):=by omega
      have hcs:=cnt_succ X i hlt;by_cases hq:X[i]=10
      · have e1:((X[i].toNat:Int)==10)=true:=by rw[hq];rfl
        rw[if_pos hq]at hcs
        have HCS:=aS hcs;clear hq hcs;go_wp2
        go_roundg (X.size- (i+1))
        case measure=>omega
        case rel=>exact⟨i+1,by omega,by omega,by rw[HCS.out];try go_num,by go_num,HV⟩
      · have e1 : ((X[i].toNat : Int) == 10) = false := by
          rw[beq_eq_false_iff_ne];intro e;exact hq (UInt8.toNat_inj.1 (Int.ofNat_inj.1 e))
        rw[if_neg hq]at hcs
        have HCS:=aS hcs;clear hq hcs;go_wp2
        go_roundg (X.size- (i+1))
        case measure=>omega
        case rel=>exact⟨i+1,by omega,by omega,by rw[HCS.out];try go_num,by go_num,HV⟩
    · have hltz: ¬(i:Int)<(X.size:Int):=by omega
      obtain rfl:i=X.size:=by omega
      rw[HC.out];clear hltz hlt hcl hgg hi;go_wp2_with (go_at_call 14;(with_reducible refine(TwoC.lv HN.out HV.out).mono ?_);rintro e w4 ⟨rfl,hb⟩;replace HV:=aS (HV.out.step hb);clear hb)
      go_ret
      exact⟨by simp,HV.out.below⟩
end Go.Proofs.YtmklpbmlgjkbiaaGreatDoor.PS
end
