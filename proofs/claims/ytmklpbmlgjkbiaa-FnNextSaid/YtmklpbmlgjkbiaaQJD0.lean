/- What the rows of JD rest on, part 1. -/
import Derived.Test.YtmklpbmlgjkbiaaProg
import Derived.Below
import Derived.Deep.Draws
import Derived.Deep.AppendLies
import Derived.Maps.AppendAt
import Derived.OwnWalk
import Derived.Laws.BytesArg
import Derived.Laws.MakeOwn
import Derived.Laws.OwnMore
import Derived.Deep.OwnRows
import Derived.Tactics
import Derived.Lib.ConvBytes
import Derived.Laws.Slices
import Derived.WalkKit
import Derived.KernelRfl
import Derived.RowKit3
import Derived.Deep.LoopGhost
import Derived.Deep.QuietTactic
import Derived.BigQuiet
import Derived.WideLaws
import Derived.Deep.DeepCutAuto
import Derived.Deep.CutBlock
import Derived.Deep.RegionHeld3
import Derived.Laws.Rows
import Derived.Lib.AppendStr
import Derived.ArgAppend
import Derived.Laws.IdiomCopy
import Derived.OrdersHeld
import Derived.Laws.BitsLemmas
import Derived.RowKit
import Derived.Laws.StructEq
import Derived.Deep.RegionWith
import Derived.Lib.Bytealg
import Derived.Shelf.Strings.Search3
import Derived.WalkSpells
import Derived.Lib.OthersKept
import Derived.Lib.Hide
import Derived.WalkSmall
import Derived.Laws.EntriesVeiled
import Derived.RegionTactic
import Derived.Test.YtmklpbmlgjkbiaaQBase7
set_option linter.unusedVariables false
set_option linter.unusedSimpArgs false
set_option maxHeartbeats 8000000
set_option maxRecDepth 100000
section
namespace Go.Proofs.Ytmklpbmlgjkbiaa.PS
open Go.RowKit Go.Proofs.YtmklpbmlgjkbiaaW.PrintWords Go.Proofs.YtmklpbmlgjkbiaaW.PrintLast
def NumAt (x:Int) (l:List Int) (i:Int):Prop:=(0≤i∧x∈l)∨(i= -1∧ ¬x∈l)
theorem num_no {x:Int} {l:List Int} (h: ∀j,j<l.length→rd l (j:Nat)≠x):NumAt x l (-1):=by
  refine .inr ⟨rfl,fun hx=> ?_⟩
  obtain⟨j,hj,e⟩:=List.mem_iff_getElem.1 hx;exact h j hj (by rw[rdn_at l j hj];exact e)
theorem index_num (x:Int) (A0:Option Addr) (c0:Nat) (l0:List Int) (w:World) (hr0:Kd.C (Kd.int .i64) w A0 l0.length l0):
    Calls Try.prog 97 #[.slice A0 l0.length c0,.int .i64 x] w fun e w'=> ∃i,e= .returned (.int .i64 i)∧NumAt x l0 i∧Below w.heap.size w w':=by
  have hm:=Kd.C_max hr0;have HR0:=Aside0.mk hr0;clear hr0;go_enter Try.func97,Try.ntmps97
  go_wp2
  go_loopg [5,8] l0.length (fun gg _ s8 wr=> ∃kk:Nat,kk≤l0.length∧l0.length-kk≤gg∧s8= .int .i64 kk∧Aside (Below w.heap.size w wr)∧Aside (∀j,j<kk→rd l0 (j:Nat)≠x))
  case atStart=>exact⟨0,Nat.zero_le _,by omega,rfl,Below.refl _ w,fun j hj=>absurd hj (Nat.not_lt_zero _)⟩
  case round=>
    obtain⟨kk,hkk,hgg,rfl,BW,A⟩:=hrel;by_cases hlt:kk<l0.length
    · have hltz:(kk:Int)<(l0.length:Int):=by omega
      have h0z:0≤(kk:Int):=by omega
      obtain⟨ad,e,x0⟩:=Kd.at_int HR0.out (kk:Int) h0z hltz;subst e;rw[Int.toNat_natCast]at x0
      replace x0:=(BW.out.cell (World.block_lt_of_cell? w _ x0)).trans x0;obtain⟨y,hy0⟩: ∃y,y=rd l0 (kk:Int):=⟨_,rfl⟩;rw[←hy0]at x0
      have hy:=Aside0.mk hy0;clear hy0;by_cases hq:x=y
      · have hq1:(x==y)=true:=by simpa using hq
        go_wp2
        go_ret
        exact⟨_,rfl,.inl ⟨h0z,by rw[hq,hy.out,rdn_at l0 kk hlt];exact List.getElem_mem hlt⟩,BW.out⟩
      · have hq1:(x==y)=false:=by simpa using hq
        go_wp2
        go_roundg (l0.length- (kk+1))
        case measure=>omega
        case rel=>
          refine⟨kk+1,by omega,by omega,by go_num,BW,(show Aside _ from fun j hj=> ?_)⟩
          by_cases e:j=kk
          · subst e
            rw[←hy.out];exact fun e=>hq e.symm
          · exact A.out j (by omega)
    · have hltz: ¬(kk:Int)<(l0.length:Int):=by omega
      have:kk=l0.length:=by omega
      subst this;go_wp2
      go_ret
      exact⟨_,rfl,num_no A.out,BW.out⟩
theorem contains_num (x:Int) (A0:Option Addr) (c0:Nat) (l0:List Int) (w:World) (hr0:Kd.C (Kd.int .i64) w A0 l0.length l0):
    Calls Try.prog 78 #[.slice A0 l0.length c0,.int .i64 x] w fun e w'=>e= .returned (.bool (decide (x∈l0)))∧Below w.heap.size w w':=by
  have hx:=index_num x A0 c0 l0 w hr0;clear hr0;go_enter Try.func78,Try.ntmps78
  go_wp2_with (go_at_call 97;refine hx.mono ?_;rintro e w' ⟨i,rfl,hi,hb⟩)
  go_ret
  refine⟨?_,hb⟩
  rcases hi with ⟨h0,h1⟩|⟨rfl,h1⟩
  · rw[decide_eq_true h1];simp[h0]
  · rw[decide_eq_false h1];rfl
def nextV.f (l:List S29) (at_:Int):Option (List Int):=some (if codeB l=true∧0≤at_∧at_<l.length then onceL (waysL l at_.toNat)else [])
theorem next_no (A0:Option Addr) (c0:Nat) (l0:List S29) (a1:Int) (w:World) (hr0:Kd.C k29 w A0 l0.length l0) (hc0:l0.length≤c0) (h: ¬(codeB l0=true∧0≤a1∧a1<l0.length)):
    Calls Try.prog 39 #[.slice A0 l0.length c0,.int .i64 a1] w fun e w'=>e= .returned (.slice none 0 0)∧Below w.heap.size w w':=by
  have hm:=Kd.C_max hr0;have hOk:=impl_CodeOk.calls A0 c0 l0 (codeB l0) w hr0 hc0 rfl;clear hr0;cases hg:codeB l0 with
  |false=>
    rw[hg]at hOk
    clear h hg;go_enter Try.func39,Try.ntmps39
    go_wp2_with (first|(go_at_call 35;refine hOk.mono ?_;rintro e w' ⟨rfl,hb⟩))
    go_ret
    exact⟨rfl,hb⟩
  |true=>
    rw[hg]at hOk
    have b:decide (0≤a1∧a1≤(l0.length:Int)-1)=false:=decide_eq_false (fun k=>h ⟨hg,k.1,by omega⟩)
    clear h hg;go_enter Try.func39,Try.ntmps39
    go_wp2_with (first|(go_at_call 35;refine hOk.mono ?_;rintro e w' ⟨rfl,hb⟩)|(go_at_call 65;refine(in_any _ _ _ _).mono ?_;rintro e w'2 ⟨rfl,rfl⟩))
    go_ret
    exact⟨rfl,hb⟩
def NextRel (w w1:World) (L:List (Int×Fl)) (j:Nat) (v:Value) (wr:World):Prop:=
  Kd.R (Kd.int .i64) 3 wr w1.heap.size (fun _=>True) v (onceL (L.take j))∧Below w1.heap.size w1 wr
theorem next_yes (A0:Option Addr) (c0:Nat) (l0:List S29) (i:Nat) (w:World) (hr0:Kd.C k29 w A0 l0.length l0) (hc0:l0.length≤c0) (hg:codeB l0=true) (hi:i<l0.length):
    Calls Try.prog 39 #[.slice A0 l0.length c0,.int .i64 i] w fun e w'=> ∃v,e= .returned v∧Kd.R (Kd.int .i64) 3 w' w.heap.size (fun _=>True) v (onceL (waysL l0 i))∧Below w.heap.size w w':=by
  have hl:l0.length≤16:=by
    unfold codeB at hg;simp at hg;exact hg.1.2
  have hOk:=impl_CodeOk.calls A0 c0 l0 true w hr0 hc0 (by rw[←hg];rfl)
  have hAr:=fun W (hb:Below w.heap.size w W)=>impl_arrows A0 c0 l0 i W (Kd.C_below hr0 hb) hi hl
  have b:decide (0≤(i:Int)∧(i:Int)≤(l0.length:Int)-1)=true:=decide_eq_true (by omega)
  have b2:decide ((i:Int)≤(l0.length:Int)-1)=true:=decide_eq_true (by omega)
  have h2:=ways_two l0 i;generalize waysL l0 i=L at hAr h2⊢
  clear hr0 hg;go_enter Try.func39,Try.ntmps39
  go_wp2_with (first|(go_at_call 35;refine hOk.mono ?_;rintro e w' ⟨rfl,hb⟩;have HB:=Aside0.mk hb;clear hb)|(go_at_call 65;refine(in_any _ _ _ _).mono ?_;rintro e w'2 ⟨rfl,rfl⟩)|(go_at_call 77;refine(hAr _ HB.out).mono ?_;rintro e w1 ⟨v,rfl,hown,hbox,hb1⟩;obtain⟨A,c,rfl,hA,hcells⟩:=way_at hown))
  go_loopg [5,23] L.length (fun gg s5 s23 wr=> ∃j:Nat,j≤L.length∧L.length-j≤gg∧s23= .int .i64 j∧Aside0 (NextRel w w1 L j s5 wr))
  case atStart=>exact⟨0,Nat.zero_le _,by omega,rfl,⟨Kd.R_nil _ _ _ _ _,Below.refl _ _⟩⟩
  case round=>
    obtain⟨j,hj,hgg,rfl,hR⟩:=hrel;by_cases hlt:j<L.length
    · have hltz:(j:Int)<(L.length:Int):=by omega
      have h0z:(0:Int)≤(j:Int):=by omega
      obtain⟨g,rfl,hg1,hg2,y0,y1⟩:=hcells j hlt;obtain⟨k1,k2⟩:=hR.out;replace y0:=(k2.cell (World.block_lt_of_cell? w1 _ y0)).trans y0;replace y1:=(k2.cell (World.block_lt_of_cell? w1 _ y1)).trans y1;have hstep:=Aside0.mk (once_snoc L j hlt);obtain⟨to_,hto⟩: ∃x,x=L[j].1:=⟨_,rfl⟩;obtain⟨ff,lb,hfn⟩:=val_func w'.heap.size L[j].2;rw[←hto]at y0 hstep
      rw[hfn]at y1
      have hlen:=once_len L j;obtain⟨out,hout⟩: ∃x,x=onceL (L.take j):=⟨_,rfl⟩;rw[←hout]at hstep k1 hlen
      have K2:=Aside0.mk k2;obtain⟨A5,c5,rfl⟩:=Kd.R_slice k1;have K1:=Aside0.mk k1;clear k1 k2 hR hto hfn hout hcells hA hown hAr hOk hbox;by_cases hq:to_∈out
      · have hq1:decide (to_∈out)=true:=decide_eq_true hq
        go_wp2_with (first|(go_at_call 78;refine(contains_num _ _ _ _ _ ?hc).mono ?_;(case hc=>exact Kd.C_below (Kd.R_reads' K1.out).2.2 (below_alloc (Below.refl _ _) _));rintro e w'3 ⟨rfl,hb⟩;have hx:=blk_below (blk_new wr (.cells #[.int .i64 to_,.func (.func ff) #[] lb] 77)) hb;have z0:w'3.cell? ⟨wr.heap.size,0,none⟩=some (.int .i64 to_):=(blk_cell hx 0).trans rfl;have hbw:=Aside0.mk (below_step (below_alloc (Below.refl wr.heap.size wr) _) hb);clear hx hb))
        go_roundg (L.length- (j+1))
        case measure=>omega
        case rel=>exact⟨j+1,by omega,by omega,by go_num,⟨by rw[hstep.out,if_pos hq];exact Kd.R_below K1.out hbw.out,below_step K2.out hbw.out⟩⟩
      · have hq1:decide (to_∈out)=false:=decide_eq_false hq
        obtain⟨i0,hi_,hz0,hz1,hz2⟩:=info_parts info3;have K3:=Aside0.mk (Kd.own_of_R K1.out);have hlen2:out.length≤2:=by omega
        go_wp2_with (first|(go_at_call 78;refine(contains_num _ _ _ _ _ ?hc).mono ?_;(case hc=>exact Kd.C_below (Kd.R_reads' K1.out).2.2 (below_alloc (Below.refl _ _) _));rintro e w'3 ⟨rfl,hb⟩;have hx:=blk_below (blk_new wr (.cells #[.int .i64 to_,.func (.func ff) #[] lb] 77)) hb;have z0:w'3.cell? ⟨wr.heap.size,0,none⟩=some (.int .i64 to_):=(blk_cell hx 0).trans rfl;have hbw:=Aside0.mk (below_step (below_alloc (Below.refl wr.heap.size wr) _) hb);clear hx hb)|(at_builtin;refine wpList_append_own _ rfl _ _ 32 rfl w1.heap.size 3 i0 (.int .i64 0) 1 8 Try.underlying32 hi_ hz0 hz1 hz2 rfl (by decide) _ _ _ rfl ((own_below K3.out hbw.out).alloc _) ⟨_,0,none⟩ 1 1 [.int .i64 to_] rfl rfl (cell_one_new _ _ _) (by simp[Value.oneCell']) (by unfold maxLen;omega) (by omega) (by have:=K2.out.size;have:=hbw.out.size;simp;omega) ?_;intro v' w9 hown' hgrow _))
        go_roundg (L.length- (j+1))
        case measure=>omega
        case rel=>
          have hO:=own_below K3.out hbw.out;have hB9:=(below_alloc (below_step K2.out hbw.out) _).grown hgrow (below_alloc (below_step K2.out hbw.out) _).size (fun b hb=>own_base hO b hb)
          refine⟨j+1,by omega,by omega,by go_num,⟨?_,hB9⟩⟩
          rw[hstep.out,if_neg hq];refine Kd.R_of_own ?_ (fun _ _=>trivial)
          have e:encs (Value.int .i64) (out++ [to_])=encs (Value.int .i64) out++ [.int .i64 to_]:=by simp[encs]
          rw[e,List.length_append];exact hown'
    · have hltz: ¬(j:Int)<(L.length:Int):=by omega
      obtain rfl:j=L.length:=by omega
      go_wp2
      go_ret
      obtain⟨k1,k2⟩:=hR.out;rw[List.take_length]at k1
      exact⟨_,rfl,Kd.R_lower k1 (by have:=HB.out.size;have:=hb1.size;omega),below_step (below_step HB.out hb1) k2⟩
theorem impl_CodeNext.calls (A0:Option Addr) (c0:Nat) (l0:List (S29)) (a1:Int) (r:List Int) (w:World) (hr0:Kd.C k29 w A0 l0.length l0) (hc0:l0.length≤c0) (h:nextV.f l0 a1=some r):
    Calls Try.prog 39 #[.slice A0 l0.length c0,.int .i64 a1] w fun e w'=> ∃v0_:Value,e= .returned (v0_)∧Kd.R (Kd.int .i64) 3 w' w.heap.size (fun _=>True) v0_ r∧Below w.heap.size w w':=by
  have h:=Option.some.inj h;by_cases hc:codeB l0=true∧0≤a1∧a1<l0.length
  · rw[if_pos hc]at h
    subst h;obtain⟨i,rfl⟩:=Int.eq_ofNat_of_zero_le hc.2.1;exact next_yes A0 c0 l0 i w hr0 hc0 hc.1 (by omega)
  · rw[if_neg hc]at h
    subst h;refine(next_no A0 c0 l0 a1 w hr0 hc0 hc).mono ?_
    rintro e w' ⟨rfl,hb⟩
    exact⟨_,rfl,Kd.R_nil _ _ _ _ _,hb⟩
theorem spec_CodeOk_as.calls (A0:Option Addr) (c0:Nat) (l0:List (S29)) (r:Bool) (w:World) (hr0:Kd.C k29 w A0 l0.length l0) (hc0:l0.length≤c0) (h:codeV.f l0=some r):
    Calls Try.prog 33 #[.slice A0 l0.length c0] w fun e w'=>e= .returned (.bool r)∧Below w.heap.size w w':=
  spec_CodeOk.calls _ A0 c0 l0 r w hr0 hc0 ((scode_eq l0 (Kd.C_max hr0)).trans h)
end Go.Proofs.Ytmklpbmlgjkbiaa.PS
end
section
namespace Go.Proofs.Ytmklpbmlgjkbiaa.PS
open Go.RowKit Go.Proofs.YtmklpbmlgjkbiaaW.PrintWords Go.Proofs.YtmklpbmlgjkbiaaW.PrintLast Go.Proofs.YtmklpbmlgjkbiaaW.PrintMore
attribute [local go_sem] max2_int min2_int max_two min_two max_three min_three max_four min_four   -- for this text's walks alone
def spec_CodeNext.j0:Nat→List (S29)→Int→Bool→Option (List Int)
 |0,_,_,_=>none
 |k+1,x0,x1,x15=>if x15=true then(some (([]:List Int)))else((spec_l3Next.f k x0 x1).bind fun t314=>(some t314))
def spec_CodeNext.f (k:Nat) (l0:List (S29)) (a1:Int):Option (List Int):=(spec_CodeOk.f k l0).bind fun t309=>(if t309=true then((spec_l6In.f a1 0 (wrap64 ((l0.length:Int)-1))).bind fun t310=>(spec_CodeNext.j0 k l0 a1 (!t310)))else(spec_CodeNext.j0 k l0 a1 true))
theorem spec_CodeNext.calls (k:Nat) (A0:Option Addr) (c0:Nat) (l0:List (S29)) (a1:Int) (r:List Int) (w:World) (hr0:Kd.C k29 w A0 l0.length l0) (hc0:l0.length≤c0) (h:spec_CodeNext.f k l0 a1=some r):
  Calls Try.prog 38 #[.slice A0 l0.length c0,.int .i64 a1] w fun e w'=> ∃v0_:Value,e= .returned (v0_)∧Kd.R (Kd.int .i64) 3 w' w.heap.size (fun _=>True) v0_ r∧Below w.heap.size w w':=by
 have HR0:=Aside0.mk hr0;have HC0:=Aside0.mk hc0;clear hr0 hc0;have HB:=Aside0.mk (Below.refl w.heap.size w);have H:((spec_CodeOk.f k l0).bind fun t309=>(if t309=true then((spec_l6In.f a1 0 (wrap64 ((l0.length:Int)-1))).bind fun t310=>(spec_CodeNext.j0 k l0 a1 (!t310)))else(spec_CodeNext.j0 k l0 a1 true)))=some r:=h
 clear h;have HC3:=Aside0.mk H;clear H;go_enter Try.func38,Try.ntmps38
 go_upto_region 1 with (fail)
 go_cut [15] (fun v15 wc=> ∃ (kq:Nat) (x15_2:Bool),v15= .bool x15_2∧Aside0 (spec_CodeNext.j0 kq l0 a1 x15_2=some r)∧Aside0 (kq≤k)∧Aside0 (Below w.heap.size w wc))
 case first=>
  have H:=HC3.out;clear HC3;replace H:=Option.bind_eq_some_iff.mp H;obtain⟨t309,A40,H⟩:=H;replace H:(if t309=true then((spec_l6In.f a1 0 (wrap64 ((l0.length:Int)-1))).bind fun t310=>(spec_CodeNext.j0 k l0 a1 (!t310)))else(spec_CodeNext.j0 k l0 a1 true))=some r:=H
  have A4:=Aside0.mk A40;clear A40;by_cases c5:t309=true
  ·subst c5
   have H1:((spec_l6In.f a1 0 (wrap64 ((l0.length:Int)-1))).bind fun t310=>(spec_CodeNext.j0 k l0 a1 (!t310)))=some r:=by rw[if_pos rfl]at H;exact H
   clear H;have H:=H1;clear H1;replace H:=Option.bind_eq_some_iff.mp H;obtain⟨t310,A60,H⟩:=H;replace H:(spec_CodeNext.j0 k l0 a1 (!t310))=some r:=H;have A6:=Aside0.mk A60;clear A60;have H':=Aside0.mk H;clear H;go_wp2_with (first|((with_reducible refine gate_callee (f:=33) rfl ?_);refine goesL_ (some 6) rfl rfl Try.func33 (by kernel_rfl) rfl #[.slice A0 l0.length c0] rfl (by(try simp only[List.map_toArray,List.map_cons,List.map_nil])<;>rfl) ?_;(with_reducible refine(spec_CodeOk.calls k _ _ l0 true _ ?side1 ?side2 A4.out).mono ?_);(case side1=>repeat(first|exact(Kd.C_below HR0.out HB.out)|(with_reducible refine Kd.C_alloc ?_ _)|(with_reducible refine Kd.C_drewN ?_ _)|(with_reducible refine Kd.C_drew ?_)));(case side2=>exact HC0.out);rintro e w7 ⟨rfl,hb⟩;refine⟨_,rfl,?_⟩;replace HB:=Aside0.mk (below_step (by exact bU HB.out) hb);(try clear hb);(try clear hb2);(try clear hk);(try clear hi))|(go_at_call 59;(with_reducible refine(spec_l6In.calls a1 0 (wrap64 ((l0.length:Int)-1)) t310 _ A6.out).mono ?_);rintro e w' ⟨rfl,⟨nd,rfl⟩⟩))
   go_meet
   case rel=>exact⟨_,(!t310),(by first|rfl|(simp;done)|(simp[*];done)),H',⟨by first|omega|exact Nat.le_refl _⟩,⟨by exact bU HB.out⟩⟩
  ·replace c5:=Bool.eq_false_iff.mpr c5
   subst c5;have H1:(spec_CodeNext.j0 k l0 a1 true)=some r:=by rw[if_neg (show¬(false=true) by decide)]at H;exact H
   clear H;have H:=H1;clear H1;have H':=Aside0.mk H;clear H;go_wp2_with (first|((with_reducible refine gate_callee (f:=33) rfl ?_);refine goesL_ (some 6) rfl rfl Try.func33 (by kernel_rfl) rfl #[.slice A0 l0.length c0] rfl (by(try simp only[List.map_toArray,List.map_cons,List.map_nil])<;>rfl) ?_;(with_reducible refine(spec_CodeOk.calls k _ _ l0 false _ ?side1 ?side2 A4.out).mono ?_);(case side1=>repeat(first|exact(Kd.C_below HR0.out HB.out)|(with_reducible refine Kd.C_alloc ?_ _)|(with_reducible refine Kd.C_drewN ?_ _)|(with_reducible refine Kd.C_drew ?_)));(case side2=>exact HC0.out);rintro e w8 ⟨rfl,hb⟩;refine⟨_,rfl,?_⟩;replace HB:=Aside0.mk (below_step (by exact bU HB.out) hb);(try clear hb);(try clear hb2);(try clear hk);(try clear hi)))
   go_meet
   case rel=>exact⟨_,(true),(by first|rfl|(simp;done)|(simp[*];done)),H',⟨by first|omega|exact Nat.le_refl _⟩,⟨by exact bU HB.out⟩⟩
 case rest=>
  clear HC3;(try clear p2);(try clear c3);(try clear c5);(try clear p6)
  obtain⟨kq,x15_2,rfl,HA,HJ2,HB⟩:=hcut;cases kq with
  |zero=>exact absurd HA.out (by simp[spec_CodeNext.j0])
  |succ kj2=>
   have H:=HA.out;clear HA;simp only[spec_CodeNext.j0]at H
   by_cases c9:x15_2=true
   ·subst c9
    have H1:(some (([]:List Int)))=some r:=by rw[if_pos rfl]at H;exact H
    clear H;have H:=H1;clear H1;obtain⟨y311,hy311⟩: ∃y_:List Int,y_=(([]:List Int)):=⟨_,rfl⟩;replace H:(some y311)=some r:=by first|(rw[hy311];with_reducible exact H)|(have H2_:=(Option.bind_some _ _).symm.trans H;rw[hy311];with_reducible exact H2_)|(have H2_:=(Option.bind_some _ _).symm.trans H;with_reducible exact H2_)|with_reducible exact H|(rw[hy311];exact H)|exact H
    have Ny311:=Aside0.mk hy311;clear hy311;obtain rfl:=Option.some.inj H;go_wp2_with (first|((with_reducible refine gate_dst (N:=16) rfl ?_);(try(refine gate_guard (by rfl) ?_;dsimp only));refine Kd.R_lit (Kd.int .i64) _ 3 ?hg (N:=16) ?hd (xs:=([]:List Int)) (inner:=[]) (ok:=fun _=>True) (okp:=fun _=>True) ?hr ?hp (fun _ hk=>hk) trivial (Below.refl _ _) (Nat.le_refl _) (by simp) ?_;(case hd=>rfl);(case hg=>rfl);(case hr=>first|(go_simp;done)|(go_simp;rfl));(case hp=>exact(Reps.none _ _));intro v312 w10 ho11 hb hg_ hnew_;clear hg_ hnew_;(first|rw[←Ny311.out]at ho11|(simp only[Int.reduceToNat]at ho11;rw[←Ny311.out]at ho11));have HO313:=Aside0.mk (Kd.R_lower ho11 (below_size (by exact bU HB.out)));replace HB:=Aside0.mk (below_step (by exact bU HB.out) hb);clear hb ho11))
    go_ret
    exact⟨_,by first|rfl|(simp[errW_none,errW_some]<;>rfl)|(simp[*,errW_none,errW_some]<;>rfl),by exact rU HO313.out,by exact bU HB.out⟩
   ·replace c9:=Bool.eq_false_iff.mpr c9
    subst c9;have H1:((spec_l3Next.f kj2 l0 a1).bind fun t314=>(some t314))=some r:=by rw[if_neg (show¬(false=true) by decide)]at H;exact H
    clear H;have H:=H1;clear H1;replace H:=Option.bind_eq_some_iff.mp H;obtain⟨t314,A120,H⟩:=H;replace H:(some t314)=some r:=H;have A12:=Aside0.mk A120;clear A120;obtain rfl:=Option.some.inj H;go_wp2_with (first|((with_reducible refine gate_callee (f:=76) rfl ?_);refine goesL_ (some 19) rfl rfl Try.func76 (by kernel_rfl) rfl #[.slice A0 l0.length c0,.int .i64 a1] rfl (by(try simp only[List.map_toArray,List.map_cons,List.map_nil])<;>rfl) ?_;(with_reducible refine(spec_l3Next.calls kj2 _ _ l0 a1 t314 _ ?side1 ?side2 A12.out).mono ?_);(case side1=>repeat(first|exact(Kd.C_below HR0.out HB.out)|(with_reducible refine Kd.C_alloc ?_ _)|(with_reducible refine Kd.C_drewN ?_ _)|(with_reducible refine Kd.C_drew ?_)));(case side2=>exact HC0.out);rintro e w13 ⟨v315,rfl,ho0,hb⟩;refine⟨_,rfl,?_⟩;have HO316:=Aside0.mk (Kd.R_lower ho0 (below_size (by exact bU HB.out)));replace HB:=Aside0.mk (below_step (by exact bU HB.out) hb);(try clear hb);(try clear hb2);(try clear hk);(try clear hi);(try clear ho0)))
    go_ret
    exact⟨_,by first|rfl|(simp[errW_none,errW_some]<;>rfl)|(simp[*,errW_none,errW_some]<;>rfl),by exact rU HO316.out,by exact bU HB.out⟩
end Go.Proofs.Ytmklpbmlgjkbiaa.PS
end
section
namespace Go.Proofs.Ytmklpbmlgjkbiaa.PS
open Go.RowKit Go.Proofs.YtmklpbmlgjkbiaaW.PrintWords Go.Proofs.YtmklpbmlgjkbiaaW.PrintLast
theorem leO_add' {α:Type} {f:Nat→Option α} (h: ∀k,LeO (f k) (f (k+1))) {a:α} {m:Nat} (e:f m=some a): ∀k,f (k+m)=some a
  |0=>by rw[Nat.zero_add];exact e
  |k+1=>by rw[Nat.add_right_comm];exact h _ _ (leO_add' h e k)
theorem in_at (a:Int) (n:Nat) (hn:n≤9223372036854775807):spec_l6In.f a 0 (wrap64 ((n:Int)-1))=some (decide (0≤a∧a<n)):=by
  rw[w64 (by omega) (by omega)]
  unfold spec_l6In.f;split
  · congr 1;exact decide_eq_decide.2 (by omega)
  · congr 1;symm;exact decide_eq_false (by omega)
theorem scodenext_eq (l:List S29) (a:Int) (hm:l.length≤9223372036854775807):spec_CodeNext.f (2*l.length+7) l a=nextV.f l a:=by
  unfold spec_CodeNext.f nextV.f;rw[show 2*l.length+7=6+(2*l.length+1) by omega,leO_add' (fun k=>spec_CodeOk.mono l k) (scode_eq l hm) 6]
  simp only[Option.bind_some,in_at a l.length hm]
  rw[show 6+(2*l.length+1)=(2*l.length+6)+1 by omega]
  have hj: ∀b,spec_CodeNext.j0 ((2*l.length+6)+1) l a b=if b=true then some []else(spec_l3Next.f (2*l.length+6) l a):=fun b=>by
    simp only[spec_CodeNext.j0]
    split
    · rfl
    · cases spec_l3Next.f (2*l.length+6) l a<;>rfl
  simp only[hj]
  by_cases hc:codeB l=true
  · rw[if_pos hc]
    by_cases h:0≤a∧a<l.length
    · rw[if_neg (by simp[h]),if_pos ⟨hc,h⟩]
      obtain⟨i,rfl⟩:=Int.eq_ofNat_of_zero_le h.1;have hl:l.length≤16:=by unfold codeB at hc;simp at hc;exact hc.1.2
      rw[leO_add' (fun k=>spec_l3Next.mono l (i:Int) k) (snext_eq l i (by omega) hl) (2*l.length)]
      rfl
    · rw[decide_eq_false h,if_pos (by rfl),if_neg (fun k=>h k.2)]
  · rw[if_neg hc,if_neg (c:=codeB l=true∧0≤a∧a<(l.length:Int)) (fun k=>hc k.1)];rfl
theorem spec_CodeNext_as.calls (A0:Option Addr) (c0:Nat) (l0:List (S29)) (a1:Int) (r:List Int) (w:World) (hr0:Kd.C k29 w A0 l0.length l0) (hc0:l0.length≤c0) (h:nextV.f l0 a1=some r):
    Calls Try.prog 38 #[.slice A0 l0.length c0,.int .i64 a1] w fun e w'=> ∃v0_:Value,e= .returned (v0_)∧Kd.R (Kd.int .i64) 3 w' w.heap.size (fun _=>True) v0_ r∧Below w.heap.size w w':=
  spec_CodeNext.calls (2*l0.length+7) A0 c0 l0 a1 r w hr0 hc0 ((scodenext_eq l0 a1 (Kd.C_max hr0)).trans h)
end Go.Proofs.Ytmklpbmlgjkbiaa.PS
end
section
namespace Go.Proofs.Ytmklpbmlgjkbiaa.PS
open Go.RowKit Go.Proofs.YtmklpbmlgjkbiaaW.PrintWords Go.Proofs.YtmklpbmlgjkbiaaW.PrintLast Go.Proofs.YtmklpbmlgjkbiaaW.PrintMore
attribute [local go_sem] max2_int min2_int max_two min_two max_three min_three max_four min_four   -- for this text's walks alone
def spec_DrawCodeNext.f (k:Nat) (l0:List Int):Option ((List (S29))×Int):=(spec_l6Open.f l0).bind fun bt572=>((spec_l71Code.f k bt572.1 bt572.2).bind fun bt575=>((spec_l6Rd_pick.f k bt572.1 bt575.2 (wrap64 ((bt575.1.length:Int)+1))).bind fun bt579=>((spec_l6Rd_pick.f k bt572.1 bt579.2 24).bind fun bt581=>(some (bt575.1,wrap64 (bt579.1- (wrap64 ((wrap64 (Int.tdiv bt581.1 23))*3))))))))
theorem spec_DrawCodeNext.calls (k:Nat) (A0:Option Addr) (c0:Nat) (l0:List Int) (r1:List (S29)) (r2:Int) (w:World) (hr0:Kd.C (Kd.int .u8) w A0 l0.length l0) (hc0:l0.length≤c0) (h:spec_DrawCodeNext.f k l0=some (r1,r2)):
  Calls Try.prog 54 #[.slice A0 l0.length c0] w fun e w'=> ∃v0_:Value,e= .returned (.tuple #[v0_,.int .i64 r2])∧Kd.R k29 29 w' w.heap.size (fun _=>True) v0_ r1∧Below w.heap.size w w':=by
 have HR0:=Aside0.mk hr0;have HC0:=Aside0.mk hc0;clear hr0 hc0;have HB:=Aside0.mk (Below.refl w.heap.size w);have H:((spec_l6Open.f l0).bind fun bt572=>((spec_l71Code.f k bt572.1 bt572.2).bind fun bt575=>((spec_l6Rd_pick.f k bt572.1 bt575.2 (wrap64 ((bt575.1.length:Int)+1))).bind fun bt579=>((spec_l6Rd_pick.f k bt572.1 bt579.2 24).bind fun bt581=>(some (bt575.1,wrap64 (bt579.1- (wrap64 ((wrap64 (Int.tdiv bt581.1 23))*3)))))))))=some (r1,r2):=h
 clear h;replace H:=Option.bind_eq_some_iff.mp H;obtain⟨⟨t572,t573⟩,A20,H⟩:=H;replace H:((spec_l71Code.f k t572 t573).bind fun bt575=>((spec_l6Rd_pick.f k t572 bt575.2 (wrap64 ((bt575.1.length:Int)+1))).bind fun bt579=>((spec_l6Rd_pick.f k t572 bt579.2 24).bind fun bt581=>(some (bt575.1,wrap64 (bt579.1- (wrap64 ((wrap64 (Int.tdiv bt581.1 23))*3))))))))=some (r1,r2):=H
 have A2:=Aside0.mk A20;clear A20;replace H:=Option.bind_eq_some_iff.mp H;obtain⟨⟨t575,t578⟩,A30,H⟩:=H;replace H:((spec_l6Rd_pick.f k t572 t578 (wrap64 ((t575.length:Int)+1))).bind fun bt579=>((spec_l6Rd_pick.f k t572 bt579.2 24).bind fun bt581=>(some (t575,wrap64 (bt579.1- (wrap64 ((wrap64 (Int.tdiv bt581.1 23))*3)))))))=some (r1,r2):=H
 have A3:=Aside0.mk A30;clear A30;replace H:=Option.bind_eq_some_iff.mp H;obtain⟨⟨t579,t580⟩,A40,H⟩:=H;replace H:((spec_l6Rd_pick.f k t572 t580 24).bind fun bt581=>(some (t575,wrap64 (t579- (wrap64 ((wrap64 (Int.tdiv bt581.1 23))*3))))))=some (r1,r2):=H
 have A4:=Aside0.mk A40;clear A40;replace H:=Option.bind_eq_some_iff.mp H;obtain⟨⟨t581,t582⟩,A50,H⟩:=H;replace H:(some (t575,wrap64 (t579- (wrap64 ((wrap64 (Int.tdiv t581 23))*3)))))=some (r1,r2):=H;have A5:=Aside0.mk A50;clear A50;simp only[Option.some.injEq,Prod.mk.injEq]at H
 obtain⟨rfl,rfl⟩:=H;go_enter Try.func54,Try.ntmps54
 go_wp2_with (first|((with_reducible refine gate_callee (f:=69) rfl ?_);refine goesL_ (some 7) rfl rfl Try.func69 (by kernel_rfl) rfl #[.slice A0 l0.length c0] rfl (by(try simp only[List.map_toArray,List.map_cons,List.map_nil]);first|done|rfl|(simp only[List.length_drop,List.length_take];rfl)) ?_;(with_reducible refine(spec_l6Open.calls _ _ l0 t572 t573 w _ ?side1 ?side2 ?side3 A2.out).mono ?_);(case side1=>exact bU HB.out);(case side2=>exact HR0.out);(case side3=>exact HC0.out);rintro e w6 ⟨g574,rfl,hi,hb,hb2⟩;refine⟨_,rfl,?_⟩;replace HB:=Aside0.mk (hb);have HI574:=Aside0.mk (hi);(try clear hb);(try clear hb2);(try clear hk);(try clear hi))|((with_reducible refine gate_callee (f:=85) rfl ?_);refine goesL_ (some 9) rfl rfl Try.func85 (by kernel_rfl) rfl #[.pointer (some ⟨g574,0,none⟩)] rfl (by(try simp only[List.map_toArray,List.map_cons,List.map_nil]);first|done|rfl|(simp only[List.length_drop,List.length_take];rfl)) ?_;(with_reducible refine(spec_l71Code.calls k g574 t572 t573 t575 t578 w _ ?side1 ?side2 A3.out).mono ?_);(case side1=>repeat(with_reducible first|exact HI574.out|apply sA|apply sN|apply sD|apply sS));(case side2=>repeat(with_reducible first|exact HB.out|apply bA|apply bN|apply b1|refine below_set ?_ (IsS84.ge HI574.out)));rintro e w7 ⟨v576,rfl,ho0,hi,hb,hk⟩;refine⟨_,rfl,?_⟩;have HO577:=Aside0.mk (Kd.R_lower ho0 (below_size (by repeat(with_reducible first|exact HB.out|apply bA|apply bN|apply b1|refine below_set ?_ (IsS84.ge HI574.out)))));replace HB:=Aside0.mk (hb);replace HI574:=Aside0.mk (hi);(try clear hb);(try clear hb2);(try clear hk);(try clear hi);(try clear ho0);obtain⟨Ao8,co8,eo8⟩:=Kd.R_slice HO577.out;subst eo8)|((with_reducible refine gate_callee (f:=71) rfl ?_);refine goesL_ (some 15) rfl rfl Try.func71 (by kernel_rfl) rfl #[.pointer (some ⟨g574,0,none⟩),.int .i64 (wrap64 ((t575.length:Int)+1))] rfl (by(try simp only[List.map_toArray,List.map_cons,List.map_nil]);first|done|rfl|(simp only[List.length_drop,List.length_take];rfl)) ?_;(with_reducible refine(spec_l6Rd_pick.calls k g574 t572 t578 (wrap64 ((t575.length:Int)+1)) t579 t580 w _ ?side1 ?side2 A4.out).mono ?_);(case side1=>repeat(with_reducible first|exact HI574.out|apply sA|apply sN|apply sD|apply sS));(case side2=>repeat(with_reducible first|exact HB.out|apply bA|apply bN|apply b1|refine below_set ?_ (IsS84.ge HI574.out)));rintro e w9 ⟨rfl,hi,hb,hk⟩;refine⟨_,rfl,?_⟩;replace HO577:=Aside0.mk (Kd.R_mono (Kd.R_keep (IsS84.apart (show IsS84 w _ g574 t572 t578 from by repeat(with_reducible first|exact HI574.out|apply sA|apply sN|apply sD|apply sS)) (by exact rU HO577.out) (by decide)) hk (fun _ h=>h.2)) (fun _ h=>h.1));replace HB:=Aside0.mk (hb);replace HI574:=Aside0.mk (hi);(try clear hb);(try clear hb2);(try clear hk);(try clear hi))|((with_reducible refine gate_callee (f:=71) rfl ?_);refine goesL_ (some 17) rfl rfl Try.func71 (by kernel_rfl) rfl #[.pointer (some ⟨g574,0,none⟩),.int .i64 24] rfl (by(try simp only[List.map_toArray,List.map_cons,List.map_nil]);first|done|rfl|(simp only[List.length_drop,List.length_take];rfl)) ?_;(with_reducible refine(spec_l6Rd_pick.calls k g574 t572 t580 24 t581 t582 w _ ?side1 ?side2 A5.out).mono ?_);(case side1=>repeat(with_reducible first|exact HI574.out|apply sA|apply sN|apply sD|apply sS));(case side2=>repeat(with_reducible first|exact HB.out|apply bA|apply bN|apply b1|refine below_set ?_ (IsS84.ge HI574.out)));rintro e w10 ⟨rfl,hi,hb,hk⟩;refine⟨_,rfl,?_⟩;replace HO577:=Aside0.mk (Kd.R_mono (Kd.R_keep (IsS84.apart (show IsS84 w _ g574 t572 t580 from by repeat(with_reducible first|exact HI574.out|apply sA|apply sN|apply sD|apply sS)) (by exact rU HO577.out) (by decide)) hk (fun _ h=>h.2)) (fun _ h=>h.1));replace HB:=Aside0.mk (hb);replace HI574:=Aside0.mk (hi);(try clear hb);(try clear hb2);(try clear hk);(try clear hi)))
 go_ret2
 exact⟨_,by first|rfl|(simp[errW_none,errW_some]<;>rfl)|(simp[*,errW_none,errW_some]<;>rfl),by exact rU HO577.out,by repeat(with_reducible first|exact HB.out|apply bA|apply bN|apply b1|refine below_set ?_ (IsS84.ge HI574.out))⟩
end Go.Proofs.Ytmklpbmlgjkbiaa.PS
end
section
namespace Go.Proofs.Ytmklpbmlgjkbiaa.PS
open Go.RowKit Go.Proofs.YtmklpbmlgjkbiaaW.PrintWords Go.Proofs.YtmklpbmlgjkbiaaW.PrintLast
theorem drawNext_ev {l:List Int} (hw: ∀x∈l,(Lit.int .u8 x).wf=true): ∃c a,Ev (fun k=>spec_DrawCodeNext.f k l) (c,a)∧c.length≤17∧ -10≤a∧a≤20:=by
  obtain⟨b,hb,hB⟩:=open_ok hw;obtain⟨c,p,hc,hl,hp,hp2⟩:=code_ev hB 0 (by omega) (by omega)
  have e:wrap64 ((c.length:Int)+1)=(c.length:Int)+1:=w64 (by omega) (by omega)
  obtain⟨x,hx,x0,x1, -⟩:=pick_ev hB p ((c.length:Int)+1) (by omega) (by omega) (by omega)
  obtain⟨y,hy,y0,y1, -⟩:=pick_ev hB (p+1) 24 (by omega) (by omega) (by omega)
  have x1:=x1 (by omega)
  have y1:=y1 (by omega)
  have q:0≤Int.tdiv y 23∧Int.tdiv y 23≤1:=by rw[Int.tdiv_eq_ediv_of_nonneg y0];omega
  refine⟨c,wrap64 (x-wrap64 (wrap64 (Int.tdiv y 23)*3)),?_,hl,?_,?_⟩
  · unfold spec_DrawCodeNext.f
    rw[hb];simp only[Option.bind_some]
    refine Ev.bind hc ?_
    simp only[e]
    exact Ev.bind hx (Ev.bind hy (Ev.now _))
  · rw[w64 (x:=Int.tdiv y 23) (by omega) (by omega),w64 (x:=Int.tdiv y 23*3) (by omega) (by omega),w64 (by omega) (by omega)];omega
  · rw[w64 (x:=Int.tdiv y 23) (by omega) (by omega),w64 (x:=Int.tdiv y 23*3) (by omega) (by omega),w64 (by omega) (by omega)];omega
end Go.Proofs.Ytmklpbmlgjkbiaa.PS
end
section
namespace Go.Proofs.Ytmklpbmlgjkbiaa.PJD
open Go.RowKit Go.Proofs.YtmklpbmlgjkbiaaW.PrintWords Go.Proofs.YtmklpbmlgjkbiaaW.PrintLast Go.Proofs.YtmklpbmlgjkbiaaW.PrintMore Go.Proofs.Ytmklpbmlgjkbiaa.PS
attribute [local go_sem] max2_int min2_int max_two min_two max_three min_three max_four min_four   -- for this text's walks alone
mutual
def laws_FnNext.j0:Nat→List (S29)→Int→List Int→Bool→Option (Bool)
 |0,_,_,_,_=>none
 |k+1,x3,x4,x5,x38=>if x38=true then((nextV.f x3 x4).bind fun t112=>((laws_lvInts.f k x5 t112).bind fun t115=>(some t115)))else(if 0≤x4 then(if x4<(x3.length:Int)then(if((rd_T29 x3 x4).f0)=14 then(some ((x5.length:Int)==0))else(if((rd_T29 x3 x4).f0)=9 then((laws_lvInts.f k x5 (([(rd_T29 x3 x4).f3]:List Int))).bind fun t121=>(some t121))else(if((rd_T29 x3 x4).f0)=10 then(laws_FnNext.j1 k x3 x4 x5 (((rd_T29 x3 x4).f0)==10) ((rd_T29 x3 x4).f0) ((rd_T29 x3 x4).f1) ((rd_T29 x3 x4).f2) ((rd_T29 x3 x4).f3) ((rd_T29 x3 x4).f4.f0) ((rd_T29 x3 x4).f4.f1))else(if((rd_T29 x3 x4).f0)=8 then(laws_FnNext.j1 k x3 x4 x5 (((rd_T29 x3 x4).f0)==8) ((rd_T29 x3 x4).f0) ((rd_T29 x3 x4).f1) ((rd_T29 x3 x4).f2) ((rd_T29 x3 x4).f3) ((rd_T29 x3 x4).f4.f0) ((rd_T29 x3 x4).f4.f1))else(laws_FnNext.j1 k x3 x4 x5 (((rd_T29 x3 x4).f0)==5) ((rd_T29 x3 x4).f0) ((rd_T29 x3 x4).f1) ((rd_T29 x3 x4).f2) ((rd_T29 x3 x4).f3) ((rd_T29 x3 x4).f4.f0) ((rd_T29 x3 x4).f4.f1))))))else(none))else(none))
def laws_FnNext.j1:Nat→List (S29)→Int→List Int→Bool→Int→Int→Int→Int→Int→Int→Option (Bool)
 |0,_,_,_,_,_,_,_,_,_,_=>none
 |k+1,x3,x4,x5,x62,x118000,x118001,x118002,x118003,x118004,x118005=>if x62=true then(if(wrap64 (x4+1))=(x3.length:Int)then(laws_FnNext.j2 k x4 x5 true x118000 x118001 x118002 x118003 x118004 x118005)else(laws_FnNext.j2 k x4 x5 (x118003==(wrap64 (x4+1))) x118000 x118001 x118002 x118003 x118004 x118005))else(if(wrap64 (x4+1))=(x3.length:Int)then(if(x5.length:Int)=0 then(some true)else((laws_lvInts.f k x5 (([wrap64 (x4+1)]:List Int))).bind fun t133=>(some t133)))else((laws_lvInts.f k x5 (([wrap64 (x4+1)]:List Int))).bind fun t137=>(some t137)))
def laws_FnNext.j2:Nat→Int→List Int→Bool→Int→Int→Int→Int→Int→Int→Option (Bool)
 |0,_,_,_,_,_,_,_,_,_=>none
 |k+1,x4,x5,x77,x118000,x118001,x118002,x118003,x118004,x118005=>if x77=true then((laws_lvInts.f k x5 (([x118003]:List Int))).bind fun t125=>(some t125))else((laws_lvInts.f k x5 (([wrap64 (x4+1),x118003]:List Int))).bind fun t129=>(some t129))
end
def laws_FnNext.f (k:Nat) (l0:List Int):Option (Bool):=if(l0.length:Int)>1048576 then(some true)else((spec_DrawCodeNext.f k l0).bind fun bt101=>((nextV.f bt101.1 bt101.2).bind fun t105=>((laws_lvInts.f k t105 t105).bind fun t110=>(if t110=true then((codeV.f bt101.1).bind fun t111=>(if t111=true then(if bt101.2<0 then(laws_FnNext.j0 k bt101.1 bt101.2 t105 true)else(laws_FnNext.j0 k bt101.1 bt101.2 t105 (decide (bt101.2≥(bt101.1.length:Int)))))else(laws_FnNext.j0 k bt101.1 bt101.2 t105 true)))else(laws_FnNext.j0 k bt101.1 bt101.2 t105 true)))))
theorem laws_FnNext.calls (k:Nat) (A0:Option Addr) (c0:Nat) (l0:List Int) (r:Bool) (w:World) (hr0:Kd.C (Kd.int .u8) w A0 l0.length l0) (hc0:l0.length≤c0) (h:laws_FnNext.f k l0=some r):
  Calls Try.prog 16 #[.slice A0 l0.length c0] w fun e w'=>e= .returned (.bool r)∧Below w.heap.size w w':=by
 have hu29:=Try.underlying29;have HR0:=Aside0.mk hr0;have HC0:=Aside0.mk hc0;clear hr0 hc0;have HB:=Aside0.mk (Below.refl w.heap.size w);have H:(if(l0.length:Int)>1048576 then(some true)else((spec_DrawCodeNext.f k l0).bind fun bt101=>((nextV.f bt101.1 bt101.2).bind fun t105=>((laws_lvInts.f k t105 t105).bind fun t110=>(if t110=true then((codeV.f bt101.1).bind fun t111=>(if t111=true then(if bt101.2<0 then(laws_FnNext.j0 k bt101.1 bt101.2 t105 true)else(laws_FnNext.j0 k bt101.1 bt101.2 t105 (decide (bt101.2≥(bt101.1.length:Int)))))else(laws_FnNext.j0 k bt101.1 bt101.2 t105 true)))else(laws_FnNext.j0 k bt101.1 bt101.2 t105 true))))))=some r:=h
 clear h;by_cases c2:(l0.length:Int)>1048576
 ·rw[if_pos c2]at H
  have c2b0:decide (1048576<(l0.length:Int))=true:=decide_eq_true c2;have c2b1:decide (1048576<l0.length)=true:=decide_eq_true (by omega)
  clear c2;obtain rfl:=Option.some.inj H;go_enter Try.func16,Try.ntmps16
  go_wp2
  go_ret
  exact⟨by first|rfl|(simp[errW_none,errW_some]<;>rfl)|(simp[*,errW_none,errW_some]<;>rfl),by exact bU HB.out⟩
 ·rw[if_neg c2]at H
  have c2b0:decide (1048576<(l0.length:Int))=false:=decide_eq_false c2;have c2b1:decide (1048576<l0.length)=false:=decide_eq_false (by omega)
  clear c2;replace H:=Option.bind_eq_some_iff.mp H;obtain⟨⟨t101,t102⟩,A30,H⟩:=H;replace H:((nextV.f t101 t102).bind fun t105=>((laws_lvInts.f k t105 t105).bind fun t110=>(if t110=true then((codeV.f t101).bind fun t111=>(if t111=true then(if t102<0 then(laws_FnNext.j0 k t101 t102 t105 true)else(laws_FnNext.j0 k t101 t102 t105 (decide (t102≥(t101.length:Int)))))else(laws_FnNext.j0 k t101 t102 t105 true)))else(laws_FnNext.j0 k t101 t102 t105 true))))=some r:=H
  have A3:=Aside0.mk A30;clear A30;replace H:=Option.bind_eq_some_iff.mp H;obtain⟨t105,A40,H⟩:=H;replace H:((laws_lvInts.f k t105 t105).bind fun t110=>(if t110=true then((codeV.f t101).bind fun t111=>(if t111=true then(if t102<0 then(laws_FnNext.j0 k t101 t102 t105 true)else(laws_FnNext.j0 k t101 t102 t105 (decide (t102≥(t101.length:Int)))))else(laws_FnNext.j0 k t101 t102 t105 true)))else(laws_FnNext.j0 k t101 t102 t105 true)))=some r:=H
  have A4:=Aside0.mk A40;clear A40;have HC5:=Aside0.mk H;clear H;go_enter Try.func16,Try.ntmps16
  go_upto_region 5 with (first|((with_reducible refine gate_callee (f:=54) rfl ?_);refine goesL_ (some 12) rfl rfl Try.func54 (by kernel_rfl) rfl #[.slice A0 l0.length c0] rfl (by(try simp only[List.map_toArray,List.map_cons,List.map_nil])<;>rfl) ?_;(with_reducible refine(spec_DrawCodeNext.calls k _ _ l0 t101 t102 _ ?side1 ?side2 A3.out).mono ?_);(case side1=>repeat(first|exact HR0.out|(with_reducible refine Kd.C_alloc ?_ _)|(with_reducible refine Kd.C_drewN ?_ _)|(with_reducible refine Kd.C_drew ?_)));(case side2=>exact HC0.out);rintro e w6 ⟨v103,rfl,ho0,hb⟩;refine⟨_,rfl,?_⟩;have HO104:=Aside0.mk (Kd.R_lower ho0 (below_size (by exact bU HB.out)));replace HB:=Aside0.mk (below_step (by exact bU HB.out) hb);(try clear hb);(try clear hb2);(try clear hk);(try clear hi);(try clear ho0);obtain⟨Ao7,co7,eo7⟩:=Kd.R_slice HO104.out;subst eo7)|((with_reducible refine gate_callee (f:=39) rfl ?_);refine goesL_ (some 17) rfl rfl Try.func39 (by kernel_rfl) rfl #[.slice Ao7 t101.length co7,.int .i64 t102] rfl (by(try simp only[List.map_toArray,List.map_cons,List.map_nil])<;>rfl) ?_;(with_reducible refine(impl_CodeNext.calls _ _ t101 t102 t105 _ ?side1 ?side2 A4.out).mono ?_);(case side1=>repeat(first|exact(Kd.R_reads' HO104.out).2.2|(with_reducible refine Kd.C_alloc ?_ _)|(with_reducible refine Kd.C_drewN ?_ _)|(with_reducible refine Kd.C_drew ?_)));(case side2=>exact(Kd.R_reads' HO104.out).2.1);rintro e w8 ⟨v106,rfl,ho0,hb⟩;refine⟨_,rfl,?_⟩;replace HO104:=Aside0.mk (Kd.R_below (by exact rU HO104.out) hb);have HO107:=Aside0.mk (Kd.R_lower ho0 (below_size (by exact bU HB.out)));replace HB:=Aside0.mk (below_step (by exact bU HB.out) hb);(try clear hb);(try clear hb2);(try clear hk);(try clear hi);(try clear ho0)))
  (try simp only[Act.put,List.setIfInBounds_toArray,List.set_cons_zero,List.set_cons_succ])
  go_cut [38] (fun v38 wc=> ∃ (kq:Nat) (x38_4:Bool),v38= .bool x38_4∧Aside0 (laws_FnNext.j0 kq t101 t102 t105 x38_4=some r)∧Aside0 (kq≤k)∧Aside0 (Kd.R k29 29 wc w.heap.size (fun _=>True) (.slice Ao7 t101.length co7) t101)∧Aside0 (Kd.R (Kd.int .i64) 3 wc w.heap.size (fun _=>True) v106 t105)∧Aside0 (Below w.heap.size w wc))
  case first=>
   have H:=HC5.out;clear HC5;replace H:=Option.bind_eq_some_iff.mp H;obtain⟨t110,A90,H⟩:=H;replace H:(if t110=true then((codeV.f t101).bind fun t111=>(if t111=true then(if t102<0 then(laws_FnNext.j0 k t101 t102 t105 true)else(laws_FnNext.j0 k t101 t102 t105 (decide (t102≥(t101.length:Int)))))else(laws_FnNext.j0 k t101 t102 t105 true)))else(laws_FnNext.j0 k t101 t102 t105 true))=some r:=H
   have A9:=Aside0.mk A90;clear A90;by_cases c10:t110=true
   ·subst c10
    have H1:((codeV.f t101).bind fun t111=>(if t111=true then(if t102<0 then(laws_FnNext.j0 k t101 t102 t105 true)else(laws_FnNext.j0 k t101 t102 t105 (decide (t102≥(t101.length:Int)))))else(laws_FnNext.j0 k t101 t102 t105 true)))=some r:=by rw[if_pos rfl]at H;exact H
    clear H;have H:=H1;clear H1;replace H:=Option.bind_eq_some_iff.mp H;obtain⟨t111,A110,H⟩:=H;replace H:(if t111=true then(if t102<0 then(laws_FnNext.j0 k t101 t102 t105 true)else(laws_FnNext.j0 k t101 t102 t105 (decide (t102≥(t101.length:Int)))))else(laws_FnNext.j0 k t101 t102 t105 true))=some r:=H
    have A11:=Aside0.mk A110;clear A110;by_cases c12:t111=true
    ·subst c12
     have H1:(if t102<0 then(laws_FnNext.j0 k t101 t102 t105 true)else(laws_FnNext.j0 k t101 t102 t105 (decide (t102≥(t101.length:Int)))))=some r:=by rw[if_pos rfl]at H;exact H
     clear H;have H:=H1;clear H1;by_cases c13:t102<0
     ·rw[if_pos c13]at H
      have c13b0:decide (t102<0)=true:=decide_eq_true c13;clear c13;(first|rw[c13b0]|(simp only[i64_w,i32_w];rw[c13b0])|skip)
      have H':=Aside0.mk H;clear H;go_wp2_with (first|((with_reducible refine gate_callee (f:=38) rfl ?_);refine goesL_ (some 21) rfl rfl Try.func38 (by kernel_rfl) rfl #[.slice Ao7 t101.length co7,.int .i64 t102] rfl (by(try simp only[List.map_toArray,List.map_cons,List.map_nil])<;>rfl) ?_;(with_reducible refine(spec_CodeNext_as.calls _ _ t101 t102 t105 _ ?side1 ?side2 A4.out).mono ?_);(case side1=>repeat(first|exact(Kd.R_reads' HO104.out).2.2|(with_reducible refine Kd.C_alloc ?_ _)|(with_reducible refine Kd.C_drewN ?_ _)|(with_reducible refine Kd.C_drew ?_)));(case side2=>exact(Kd.R_reads' HO104.out).2.1);rintro e w14 ⟨v108,rfl,ho0,hb⟩;refine⟨_,rfl,?_⟩;have n0_:=Aside0.mk (Kd.R_below (by exact rU HO104.out) hb);have n1_:=Aside0.mk (Kd.R_elder' (by exact rU HO107.out) (Kd.R_base ho0) hb);have n2_:=Aside0.mk (Kd.R_lower (Kd.R_new' ho0 (Kd.R_lt (by exact rU HO107.out))) (below_size (by exact bU HB.out)));have n3_:=Aside0.mk (below_step (by exact bU HB.out) hb);clear HO104;clear HO107;clear HB;have HO104:=n0_;have HO107:=n1_;have HO109:=n2_;have HB:=n3_;clear n0_ n1_ n2_ n3_;(try clear hb);(try clear hb2);(try clear hk);(try clear hi);(try clear ho0);obtain⟨Ao15,co15,eo15⟩:=Kd.R_slice HO107.out;subst eo15;obtain⟨Ao16,co16,eo16⟩:=Kd.R_slice HO109.out;subst eo16)|((with_reducible refine gate_callee (f:=49) rfl ?_);refine goesL_ (some 22) rfl rfl Try.func49 (by kernel_rfl) rfl #[.slice Ao15 t105.length co15,.slice Ao16 t105.length co16] rfl (by(try simp only[List.map_toArray,List.map_cons,List.map_nil])<;>rfl) ?_;(with_reducible refine(laws_lvInts.calls k _ _ t105 _ _ t105 true _ ?side1 ?side2 ?side3 ?side4 A9.out).mono ?_);(case side1=>repeat(first|exact(Kd.R_reads' HO107.out).2.2|(with_reducible refine Kd.C_alloc ?_ _)|(with_reducible refine Kd.C_drewN ?_ _)|(with_reducible refine Kd.C_drew ?_)));(case side2=>exact(Kd.R_reads' HO107.out).2.1);(case side3=>repeat(first|exact(Kd.R_reads' HO109.out).2.2|(with_reducible refine Kd.C_alloc ?_ _)|(with_reducible refine Kd.C_drewN ?_ _)|(with_reducible refine Kd.C_drew ?_)));(case side4=>exact(Kd.R_reads' HO109.out).2.1);rintro e w' ⟨rfl,⟨nd,rfl⟩⟩;refine⟨_,rfl,?_⟩)|(go_at_call 33;(with_reducible refine(spec_CodeOk_as.calls _ _ t101 true _ ?side1 ?side2 A11.out).mono ?_);(case side1=>repeat(first|exact(Kd.R_reads' HO104.out).2.2|(with_reducible refine Kd.C_alloc ?_ _)|(with_reducible refine Kd.C_drewN ?_ _)|(with_reducible refine Kd.C_drew ?_)));(case side2=>exact(Kd.R_reads' HO104.out).2.1);rintro e w17 ⟨rfl,hb⟩;replace HO104:=Aside0.mk (Kd.R_below (by exact rU HO104.out) hb);replace HO107:=Aside0.mk (Kd.R_below (by exact rU HO107.out) hb);replace HO109:=Aside0.mk (Kd.R_below (by exact rU HO109.out) hb);replace HB:=Aside0.mk (below_step (by exact bU HB.out) hb);(try clear hb);(try clear hb2);(try clear hk);(try clear hi)))
      go_meet
      case rel=>exact⟨_,(true),(by first|rfl|(simp;done)|(simp[*];done)),H',⟨by first|omega|exact Nat.le_refl _⟩,⟨by exact rU HO104.out⟩,⟨by(with_reducible repeat(first|apply rA|apply rN|apply rD));exact Kd.R_mono HO107.out (fun _ hk=>trivial)⟩,⟨by exact bU HB.out⟩⟩
     ·rw[if_neg c13]at H
      have c13b0:decide (t102<0)=false:=decide_eq_false c13;clear c13;(first|rw[c13b0]|(simp only[i64_w,i32_w];rw[c13b0])|skip)
      have H':=Aside0.mk H;clear H;go_wp2_with (first|((with_reducible refine gate_callee (f:=38) rfl ?_);refine goesL_ (some 21) rfl rfl Try.func38 (by kernel_rfl) rfl #[.slice Ao7 t101.length co7,.int .i64 t102] rfl (by(try simp only[List.map_toArray,List.map_cons,List.map_nil])<;>rfl) ?_;(with_reducible refine(spec_CodeNext_as.calls _ _ t101 t102 t105 _ ?side1 ?side2 A4.out).mono ?_);(case side1=>repeat(first|exact(Kd.R_reads' HO104.out).2.2|(with_reducible refine Kd.C_alloc ?_ _)|(with_reducible refine Kd.C_drewN ?_ _)|(with_reducible refine Kd.C_drew ?_)));(case side2=>exact(Kd.R_reads' HO104.out).2.1);rintro e w18 ⟨v108,rfl,ho0,hb⟩;refine⟨_,rfl,?_⟩;have n0_:=Aside0.mk (Kd.R_below (by exact rU HO104.out) hb);have n1_:=Aside0.mk (Kd.R_elder' (by exact rU HO107.out) (Kd.R_base ho0) hb);have n2_:=Aside0.mk (Kd.R_lower (Kd.R_new' ho0 (Kd.R_lt (by exact rU HO107.out))) (below_size (by exact bU HB.out)));have n3_:=Aside0.mk (below_step (by exact bU HB.out) hb);clear HO104;clear HO107;clear HB;have HO104:=n0_;have HO107:=n1_;have HO109:=n2_;have HB:=n3_;clear n0_ n1_ n2_ n3_;(try clear hb);(try clear hb2);(try clear hk);(try clear hi);(try clear ho0);obtain⟨Ao19,co19,eo19⟩:=Kd.R_slice HO107.out;subst eo19;obtain⟨Ao20,co20,eo20⟩:=Kd.R_slice HO109.out;subst eo20)|((with_reducible refine gate_callee (f:=49) rfl ?_);refine goesL_ (some 22) rfl rfl Try.func49 (by kernel_rfl) rfl #[.slice Ao19 t105.length co19,.slice Ao20 t105.length co20] rfl (by(try simp only[List.map_toArray,List.map_cons,List.map_nil])<;>rfl) ?_;(with_reducible refine(laws_lvInts.calls k _ _ t105 _ _ t105 true _ ?side1 ?side2 ?side3 ?side4 A9.out).mono ?_);(case side1=>repeat(first|exact(Kd.R_reads' HO107.out).2.2|(with_reducible refine Kd.C_alloc ?_ _)|(with_reducible refine Kd.C_drewN ?_ _)|(with_reducible refine Kd.C_drew ?_)));(case side2=>exact(Kd.R_reads' HO107.out).2.1);(case side3=>repeat(first|exact(Kd.R_reads' HO109.out).2.2|(with_reducible refine Kd.C_alloc ?_ _)|(with_reducible refine Kd.C_drewN ?_ _)|(with_reducible refine Kd.C_drew ?_)));(case side4=>exact(Kd.R_reads' HO109.out).2.1);rintro e w' ⟨rfl,⟨nd,rfl⟩⟩;refine⟨_,rfl,?_⟩)|(go_at_call 33;(with_reducible refine(spec_CodeOk_as.calls _ _ t101 true _ ?side1 ?side2 A11.out).mono ?_);(case side1=>repeat(first|exact(Kd.R_reads' HO104.out).2.2|(with_reducible refine Kd.C_alloc ?_ _)|(with_reducible refine Kd.C_drewN ?_ _)|(with_reducible refine Kd.C_drew ?_)));(case side2=>exact(Kd.R_reads' HO104.out).2.1);rintro e w21 ⟨rfl,hb⟩;replace HO104:=Aside0.mk (Kd.R_below (by exact rU HO104.out) hb);replace HO107:=Aside0.mk (Kd.R_below (by exact rU HO107.out) hb);replace HO109:=Aside0.mk (Kd.R_below (by exact rU HO109.out) hb);replace HB:=Aside0.mk (below_step (by exact bU HB.out) hb);(try clear hb);(try clear hb2);(try clear hk);(try clear hi)))
      go_meet
      case rel=>exact⟨_,(decide (t102≥(t101.length:Int))),(by first|rfl|(simp;done)|(simp[*];done)),H',⟨by first|omega|exact Nat.le_refl _⟩,⟨by exact rU HO104.out⟩,⟨by(with_reducible repeat(first|apply rA|apply rN|apply rD));exact Kd.R_mono HO107.out (fun _ hk=>trivial)⟩,⟨by exact bU HB.out⟩⟩
    ·replace c12:=Bool.eq_false_iff.mpr c12
     subst c12;have H1:(laws_FnNext.j0 k t101 t102 t105 true)=some r:=by rw[if_neg (show¬(false=true) by decide)]at H;exact H
     clear H;have H:=H1;clear H1;have H':=Aside0.mk H;clear H;go_wp2_with (first|((with_reducible refine gate_callee (f:=38) rfl ?_);refine goesL_ (some 21) rfl rfl Try.func38 (by kernel_rfl) rfl #[.slice Ao7 t101.length co7,.int .i64 t102] rfl (by(try simp only[List.map_toArray,List.map_cons,List.map_nil])<;>rfl) ?_;(with_reducible refine(spec_CodeNext_as.calls _ _ t101 t102 t105 _ ?side1 ?side2 A4.out).mono ?_);(case side1=>repeat(first|exact(Kd.R_reads' HO104.out).2.2|(with_reducible refine Kd.C_alloc ?_ _)|(with_reducible refine Kd.C_drewN ?_ _)|(with_reducible refine Kd.C_drew ?_)));(case side2=>exact(Kd.R_reads' HO104.out).2.1);rintro e w22 ⟨v108,rfl,ho0,hb⟩;refine⟨_,rfl,?_⟩;have n0_:=Aside0.mk (Kd.R_below (by exact rU HO104.out) hb);have n1_:=Aside0.mk (Kd.R_elder' (by exact rU HO107.out) (Kd.R_base ho0) hb);have n2_:=Aside0.mk (Kd.R_lower (Kd.R_new' ho0 (Kd.R_lt (by exact rU HO107.out))) (below_size (by exact bU HB.out)));have n3_:=Aside0.mk (below_step (by exact bU HB.out) hb);clear HO104;clear HO107;clear HB;have HO104:=n0_;have HO107:=n1_;have HO109:=n2_;have HB:=n3_;clear n0_ n1_ n2_ n3_;(try clear hb);(try clear hb2);(try clear hk);(try clear hi);(try clear ho0);obtain⟨Ao23,co23,eo23⟩:=Kd.R_slice HO107.out;subst eo23;obtain⟨Ao24,co24,eo24⟩:=Kd.R_slice HO109.out;subst eo24)|((with_reducible refine gate_callee (f:=49) rfl ?_);refine goesL_ (some 22) rfl rfl Try.func49 (by kernel_rfl) rfl #[.slice Ao23 t105.length co23,.slice Ao24 t105.length co24] rfl (by(try simp only[List.map_toArray,List.map_cons,List.map_nil])<;>rfl) ?_;(with_reducible refine(laws_lvInts.calls k _ _ t105 _ _ t105 true _ ?side1 ?side2 ?side3 ?side4 A9.out).mono ?_);(case side1=>repeat(first|exact(Kd.R_reads' HO107.out).2.2|(with_reducible refine Kd.C_alloc ?_ _)|(with_reducible refine Kd.C_drewN ?_ _)|(with_reducible refine Kd.C_drew ?_)));(case side2=>exact(Kd.R_reads' HO107.out).2.1);(case side3=>repeat(first|exact(Kd.R_reads' HO109.out).2.2|(with_reducible refine Kd.C_alloc ?_ _)|(with_reducible refine Kd.C_drewN ?_ _)|(with_reducible refine Kd.C_drew ?_)));(case side4=>exact(Kd.R_reads' HO109.out).2.1);rintro e w' ⟨rfl,⟨nd,rfl⟩⟩;refine⟨_,rfl,?_⟩)|(go_at_call 33;(with_reducible refine(spec_CodeOk_as.calls _ _ t101 false _ ?side1 ?side2 A11.out).mono ?_);(case side1=>repeat(first|exact(Kd.R_reads' HO104.out).2.2|(with_reducible refine Kd.C_alloc ?_ _)|(with_reducible refine Kd.C_drewN ?_ _)|(with_reducible refine Kd.C_drew ?_)));(case side2=>exact(Kd.R_reads' HO104.out).2.1);rintro e w25 ⟨rfl,hb⟩;replace HO104:=Aside0.mk (Kd.R_below (by exact rU HO104.out) hb);replace HO107:=Aside0.mk (Kd.R_below (by exact rU HO107.out) hb);replace HO109:=Aside0.mk (Kd.R_below (by exact rU HO109.out) hb);replace HB:=Aside0.mk (below_step (by exact bU HB.out) hb);(try clear hb);(try clear hb2);(try clear hk);(try clear hi)))
     go_meet
     case rel=>exact⟨_,(true),(by first|rfl|(simp;done)|(simp[*];done)),H',⟨by first|omega|exact Nat.le_refl _⟩,⟨by exact rU HO104.out⟩,⟨by(with_reducible repeat(first|apply rA|apply rN|apply rD));exact Kd.R_mono HO107.out (fun _ hk=>trivial)⟩,⟨by exact bU HB.out⟩⟩
   ·replace c10:=Bool.eq_false_iff.mpr c10
    subst c10;have H1:(laws_FnNext.j0 k t101 t102 t105 true)=some r:=by rw[if_neg (show¬(false=true) by decide)]at H;exact H
    clear H;have H:=H1;clear H1;have H':=Aside0.mk H;clear H;go_wp2_with (first|((with_reducible refine gate_callee (f:=38) rfl ?_);refine goesL_ (some 21) rfl rfl Try.func38 (by kernel_rfl) rfl #[.slice Ao7 t101.length co7,.int .i64 t102] rfl (by(try simp only[List.map_toArray,List.map_cons,List.map_nil])<;>rfl) ?_;(with_reducible refine(spec_CodeNext_as.calls _ _ t101 t102 t105 _ ?side1 ?side2 A4.out).mono ?_);(case side1=>repeat(first|exact(Kd.R_reads' HO104.out).2.2|(with_reducible refine Kd.C_alloc ?_ _)|(with_reducible refine Kd.C_drewN ?_ _)|(with_reducible refine Kd.C_drew ?_)));(case side2=>exact(Kd.R_reads' HO104.out).2.1);rintro e w26 ⟨v108,rfl,ho0,hb⟩;refine⟨_,rfl,?_⟩;have n0_:=Aside0.mk (Kd.R_below (by exact rU HO104.out) hb);have n1_:=Aside0.mk (Kd.R_elder' (by exact rU HO107.out) (Kd.R_base ho0) hb);have n2_:=Aside0.mk (Kd.R_lower (Kd.R_new' ho0 (Kd.R_lt (by exact rU HO107.out))) (below_size (by exact bU HB.out)));have n3_:=Aside0.mk (below_step (by exact bU HB.out) hb);clear HO104;clear HO107;clear HB;have HO104:=n0_;have HO107:=n1_;have HO109:=n2_;have HB:=n3_;clear n0_ n1_ n2_ n3_;(try clear hb);(try clear hb2);(try clear hk);(try clear hi);(try clear ho0);obtain⟨Ao27,co27,eo27⟩:=Kd.R_slice HO107.out;subst eo27;obtain⟨Ao28,co28,eo28⟩:=Kd.R_slice HO109.out;subst eo28)|((with_reducible refine gate_callee (f:=49) rfl ?_);refine goesL_ (some 22) rfl rfl Try.func49 (by kernel_rfl) rfl #[.slice Ao27 t105.length co27,.slice Ao28 t105.length co28] rfl (by(try simp only[List.map_toArray,List.map_cons,List.map_nil])<;>rfl) ?_;(with_reducible refine(laws_lvInts.calls k _ _ t105 _ _ t105 false _ ?side1 ?side2 ?side3 ?side4 A9.out).mono ?_);(case side1=>repeat(first|exact(Kd.R_reads' HO107.out).2.2|(with_reducible refine Kd.C_alloc ?_ _)|(with_reducible refine Kd.C_drewN ?_ _)|(with_reducible refine Kd.C_drew ?_)));(case side2=>exact(Kd.R_reads' HO107.out).2.1);(case side3=>repeat(first|exact(Kd.R_reads' HO109.out).2.2|(with_reducible refine Kd.C_alloc ?_ _)|(with_reducible refine Kd.C_drewN ?_ _)|(with_reducible refine Kd.C_drew ?_)));(case side4=>exact(Kd.R_reads' HO109.out).2.1);rintro e w' ⟨rfl,⟨nd,rfl⟩⟩;refine⟨_,rfl,?_⟩))
    go_meet
    case rel=>exact⟨_,(true),(by first|rfl|(simp;done)|(simp[*];done)),H',⟨by first|omega|exact Nat.le_refl _⟩,⟨by exact rU HO104.out⟩,⟨by(with_reducible repeat(first|apply rA|apply rN|apply rD));exact Kd.R_mono HO107.out (fun _ hk=>trivial)⟩,⟨by exact bU HB.out⟩⟩
  case rest=>
   clear HC5;(try clear c1);(try clear c2);(try clear c2b0);(try clear c2b1);(try clear p2);(try clear c3);(try clear c4);(try clear c5);(try clear c10);(try clear c12);(try clear c13);(try clear c13b0);(try clear c16)
   obtain⟨kq,x38_4,rfl,HA,HJ4,HO_3,HO_5,HB⟩:=hcut;cases kq with
   |zero=>exact absurd HA.out (by simp[laws_FnNext.j0])
   |succ kj4=>
    have H:=HA.out;clear HA;simp only[laws_FnNext.j0]at H
    by_cases c29:x38_4=true
    ·subst c29
     have H1:((nextV.f t101 t102).bind fun t112=>((laws_lvInts.f kj4 t105 t112).bind fun t115=>(some t115)))=some r:=by rw[if_pos rfl]at H;exact H
     clear H;have H:=H1;clear H1;replace H:=Option.bind_eq_some_iff.mp H;obtain⟨t112,A300,H⟩:=H;replace H:((laws_lvInts.f kj4 t105 t112).bind fun t115=>(some t115))=some r:=H
     have A30:=Aside0.mk A300;clear A300;replace H:=Option.bind_eq_some_iff.mp H;obtain⟨t115,A310,H⟩:=H;replace H:(some t115)=some r:=H;have A31:=Aside0.mk A310;clear A310;obtain rfl:=Option.some.inj H;go_wp2_with (first|((with_reducible refine gate_callee (f:=38) rfl ?_);refine goesL_ (some 42) rfl rfl Try.func38 (by kernel_rfl) rfl #[.slice Ao7 t101.length co7,.int .i64 t102] rfl (by(try simp only[List.map_toArray,List.map_cons,List.map_nil])<;>rfl) ?_;(with_reducible refine(spec_CodeNext_as.calls _ _ t101 t102 t112 _ ?side1 ?side2 A30.out).mono ?_);(case side1=>repeat(first|exact(Kd.R_reads' HO_3.out).2.2|(with_reducible refine Kd.C_alloc ?_ _)|(with_reducible refine Kd.C_drewN ?_ _)|(with_reducible refine Kd.C_drew ?_)));(case side2=>exact(Kd.R_reads' HO_3.out).2.1);rintro e w32 ⟨v113,rfl,ho0,hb⟩;refine⟨_,rfl,?_⟩;have n0_:=Aside0.mk (Kd.R_below (by exact rU HO_3.out) hb);have n1_:=Aside0.mk (Kd.R_elder' (by exact rU HO_5.out) (Kd.R_base ho0) hb);have n2_:=Aside0.mk (Kd.R_lower (Kd.R_new' ho0 (Kd.R_lt (by exact rU HO_5.out))) (below_size (by exact bU HB.out)));have n3_:=Aside0.mk (below_step (by exact bU HB.out) hb);clear HO_3;clear HO_5;clear HB;have HO_3:=n0_;have HO_5:=n1_;have HO114:=n2_;have HB:=n3_;clear n0_ n1_ n2_ n3_;(try clear hb);(try clear hb2);(try clear hk);(try clear hi);(try clear ho0);obtain⟨Ao33,co33,eo33⟩:=Kd.R_slice HO_5.out;subst eo33;obtain⟨Ao34,co34,eo34⟩:=Kd.R_slice HO114.out;subst eo34)|((with_reducible refine gate_callee (f:=49) rfl ?_);refine goesL_ (some 43) rfl rfl Try.func49 (by kernel_rfl) rfl #[.slice Ao33 t105.length co33,.slice Ao34 t112.length co34] rfl (by(try simp only[List.map_toArray,List.map_cons,List.map_nil])<;>rfl) ?_;(with_reducible refine(laws_lvInts.calls kj4 _ _ t105 _ _ t112 t115 _ ?side1 ?side2 ?side3 ?side4 A31.out).mono ?_);(case side1=>repeat(first|exact(Kd.R_reads' HO_5.out).2.2|(with_reducible refine Kd.C_alloc ?_ _)|(with_reducible refine Kd.C_drewN ?_ _)|(with_reducible refine Kd.C_drew ?_)));(case side2=>exact(Kd.R_reads' HO_5.out).2.1);(case side3=>repeat(first|exact(Kd.R_reads' HO114.out).2.2|(with_reducible refine Kd.C_alloc ?_ _)|(with_reducible refine Kd.C_drewN ?_ _)|(with_reducible refine Kd.C_drew ?_)));(case side4=>exact(Kd.R_reads' HO114.out).2.1);rintro e w' ⟨rfl,⟨nd,rfl⟩⟩;refine⟨_,rfl,?_⟩))
     go_ret
     exact⟨by first|rfl|(simp[errW_none,errW_some]<;>rfl)|(simp[*,errW_none,errW_some]<;>rfl),by exact bU HB.out⟩
    ·replace c29:=Bool.eq_false_iff.mpr c29
     subst c29;have H1:(if 0≤t102 then(if t102<(t101.length:Int)then(if((rd_T29 t101 t102).f0)=14 then(some ((t105.length:Int)==0))else(if((rd_T29 t101 t102).f0)=9 then((laws_lvInts.f kj4 t105 (([(rd_T29 t101 t102).f3]:List Int))).bind fun t121=>(some t121))else(if((rd_T29 t101 t102).f0)=10 then(laws_FnNext.j1 kj4 t101 t102 t105 (((rd_T29 t101 t102).f0)==10) ((rd_T29 t101 t102).f0) ((rd_T29 t101 t102).f1) ((rd_T29 t101 t102).f2) ((rd_T29 t101 t102).f3) ((rd_T29 t101 t102).f4.f0) ((rd_T29 t101 t102).f4.f1))else(if((rd_T29 t101 t102).f0)=8 then(laws_FnNext.j1 kj4 t101 t102 t105 (((rd_T29 t101 t102).f0)==8) ((rd_T29 t101 t102).f0) ((rd_T29 t101 t102).f1) ((rd_T29 t101 t102).f2) ((rd_T29 t101 t102).f3) ((rd_T29 t101 t102).f4.f0) ((rd_T29 t101 t102).f4.f1))else(laws_FnNext.j1 kj4 t101 t102 t105 (((rd_T29 t101 t102).f0)==5) ((rd_T29 t101 t102).f0) ((rd_T29 t101 t102).f1) ((rd_T29 t101 t102).f2) ((rd_T29 t101 t102).f3) ((rd_T29 t101 t102).f4.f0) ((rd_T29 t101 t102).f4.f1))))))else(none))else(none))=some r:=by rw[if_neg (show¬(false=true) by decide)]at H;exact H
     clear H;have H:=H1;clear H1;by_cases c35:0≤t102
     ·rw[if_pos c35]at H
      have c35b0:decide (0≤t102)=true:=decide_eq_true c35;clear c35;by_cases c36:t102<(t101.length:Int)
      ·rw[if_pos c36]at H
       have c36b0:decide (t102<(t101.length:Int))=true:=decide_eq_true c36;clear c36;by_cases c37:((rd_T29 t101 t102).f0)=14
       ·rw[if_pos c37]at H
        have c37b0:(((rd_T29 t101 t102).f0)==14)=true:=beq_iff_eq.mpr c37;have c37b1:(((rd_T29 t101 t102).f0) !=14)=false:=bne_eq_false_iff_eq.mpr c37;clear c37;obtain rfl:=Option.some.inj H;have p116:0≤(t102:Int):=of_decide_eq_true (by assumption)
        have q116:t102<(t101.length:Int):=of_decide_eq_true (by assumption)
        obtain⟨ad116,e116,hx116_0,hx116_1,hx116_2,hx116_3,hx116_4,hx116_5⟩:=at_T29 (Kd.R_reads' HO_3.out).2.2 t102 p116 q116;cases e116
        replace p116:=eq_true p116;replace q116:=eq_true q116;go_wp2_with (first|((with_reducible refine gate_dst (N:=6) rfl ?_);(try(refine gate_guard (by rfl) ?_;dsimp only));refine box_event ?hg (N:=6) ?hd (cs:= #[.int .i64 0,.int .i64 0,.int .i64 0,.int .i64 0,.int .i64 0,.int .i64 0]) (t:=29) ?hr ?_;(case hd=>rfl);(case hg=>rfl);(case hr=>first|(go_simp;done)|(go_simp;rfl));intro gb117 hg w38 hbox hb;have n0_:=Aside0.mk (Kd.R_below (Kd.R_elderB (by exact rU HO_3.out) gb117 (Nat.le_of_eq hg.symm)) hb);have n1_:=Aside0.mk (Kd.R_below (by exact rU HO_5.out) hb);have n2_:=Aside0.mk (below_step (by exact bU HB.out) hb);have n3_:=Aside0.mk (hbox);have n4_:=Aside0.mk ((by rw[hg];exact(below_size (by exact bU HB.out)):w.heap.size≤gb117));have n5_:=Aside0.mk ((by rw[hg];exact(below_size (by exact bU HB.out)):w.heap.size≤gb117));clear HO_3;clear HO_5;clear HB;have HO_3:=n0_;have HO_5:=n1_;have HB:=n2_;have BK117:=n3_;have GW117:=n4_;have GE117:=n5_;clear n0_ n1_ n2_ n3_ n4_ n5_;clear hb hbox hg;obtain⟨hcz39_0,hcz39_1,hcz39_2,hcz39_3,hcz39_4,hcz39_5⟩:=six_cells BK117.out;obtain⟨hfz39_0,hfz39_1,hfz39_2,hfz39_3,hfz39_4,hfz39_5⟩:=six_marks BK117.out;obtain⟨Ao40,co40,eo40⟩:=Kd.R_slice HO_5.out;subst eo40))
        go_ret
        exact⟨by first|rfl|(simp[errW_none,errW_some]<;>rfl)|(simp[*,errW_none,errW_some]<;>rfl),by repeat(with_reducible first|exact HB.out|apply bA|apply bN|apply b1|refine below_set ?_ GE117.out)⟩
       ·rw[if_neg c37]at H
        have c37b0:(((rd_T29 t101 t102).f0)==14)=false:=beq_eq_false_iff_ne.mpr c37;have c37b1:(((rd_T29 t101 t102).f0) !=14)=true:=bne_iff_ne.mpr c37;by_cases c41:((rd_T29 t101 t102).f0)=9
        ·rw[if_pos c41]at H
         have c41b0:(((rd_T29 t101 t102).f0)==9)=true:=beq_iff_eq.mpr c41;have c41b1:(((rd_T29 t101 t102).f0) !=9)=false:=bne_eq_false_iff_eq.mpr c41;clear c41;obtain⟨y118,hy118⟩: ∃y_:List Int,y_=(([(rd_T29 t101 t102).f3]:List Int)):=⟨_,rfl⟩;replace H:((laws_lvInts.f kj4 t105 y118).bind fun t121=>(some t121))=some r:=by first|(rw[hy118];with_reducible exact H)|(have H2_:=(Option.bind_some _ _).symm.trans H;rw[hy118];with_reducible exact H2_)|(have H2_:=(Option.bind_some _ _).symm.trans H;with_reducible exact H2_)|with_reducible exact H|(rw[hy118];exact H)|exact H
         have Ny118:=Aside0.mk hy118;clear hy118;replace H:=Option.bind_eq_some_iff.mp H;obtain⟨t121,A420,H⟩:=H;replace H:(some t121)=some r:=H;have A42:=Aside0.mk A420;clear A420;obtain rfl:=Option.some.inj H;have p116:0≤(t102:Int):=of_decide_eq_true (by assumption)
         have q116:t102<(t101.length:Int):=of_decide_eq_true (by assumption)
         obtain⟨ad116,e116,hx116_0,hx116_1,hx116_2,hx116_3,hx116_4,hx116_5⟩:=at_T29 (Kd.R_reads' HO_3.out).2.2 t102 p116 q116;cases e116
         replace p116:=eq_true p116;replace q116:=eq_true q116;go_wp2_with (first|((with_reducible refine gate_dst (N:=6) rfl ?_);(try(refine gate_guard (by rfl) ?_;dsimp only));refine box_event ?hg (N:=6) ?hd (cs:= #[.int .i64 0,.int .i64 0,.int .i64 0,.int .i64 0,.int .i64 0,.int .i64 0]) (t:=29) ?hr ?_;(case hd=>rfl);(case hg=>rfl);(case hr=>first|(go_simp;done)|(go_simp;rfl));intro gb117 hg w43 hbox hb;have n0_:=Aside0.mk (Kd.R_below (Kd.R_elderB (by exact rU HO_3.out) gb117 (Nat.le_of_eq hg.symm)) hb);have n1_:=Aside0.mk (Kd.R_below (by exact rU HO_5.out) hb);have n2_:=Aside0.mk (below_step (by exact bU HB.out) hb);have n3_:=Aside0.mk (hbox);have n4_:=Aside0.mk ((by rw[hg];exact(below_size (by exact bU HB.out)):w.heap.size≤gb117));have n5_:=Aside0.mk ((by rw[hg];exact(below_size (by exact bU HB.out)):w.heap.size≤gb117));clear HO_3;clear HO_5;clear HB;have HO_3:=n0_;have HO_5:=n1_;have HB:=n2_;have BK117:=n3_;have GW117:=n4_;have GE117:=n5_;clear n0_ n1_ n2_ n3_ n4_ n5_;clear hb hbox hg;obtain⟨hcz44_0,hcz44_1,hcz44_2,hcz44_3,hcz44_4,hcz44_5⟩:=six_cells BK117.out;obtain⟨hfz44_0,hfz44_1,hfz44_2,hfz44_3,hfz44_4,hfz44_5⟩:=six_marks BK117.out)|((with_reducible refine gate_dst (N:=60) rfl ?_);(try(refine gate_guard (by rfl) ?_;dsimp only));refine Kd.R_lit (Kd.int .i64) _ 3 ?hg (N:=60) ?hd (xs:=([(rd_T29 t101 t102).f3]:List Int)) (inner:=[.int .i64 ((rd_T29 t101 t102).f3)]) (ok:=fun _=>True) (okp:=fun _=>True) ?hr ?hp (fun _ hk=>hk) trivial (Below.refl _ _) (Nat.le_refl _) (by simp) ?_;(case hd=>rfl);(case hg=>rfl);(case hr=>first|(go_simp;done)|(go_simp;rfl));(case hp=>exact(Reps.one (show Kd.M (Kd.int .i64) _ _ _ ((rd_T29 t101 t102).f3) [.int .i64 ((rd_T29 t101 t102).f3)]from rfl) (Reps.none _ _)));intro v119 w45 ho46 hb hg_ hnew_;clear hg_ hnew_;(first|rw[←Ny118.out]at ho46|(simp only[Int.reduceToNat]at ho46;rw[←Ny118.out]at ho46));have n0_:=Aside0.mk (Kd.R_below (by(with_reducible repeat(first|apply rA|apply rN|apply rD));exact(Kd.R_mono (Kd.R_far (p:=⟨gb117,5,none⟩) (Kd.R_far (p:=⟨gb117,4,none⟩) (Kd.R_far (p:=⟨gb117,3,none⟩) (Kd.R_far (p:=⟨gb117,2,none⟩) (Kd.R_far (p:=⟨gb117,1,none⟩) (Kd.R_far (p:=⟨gb117,0,none⟩) (Kd.R_mono HO_3.out (fun k_ hk=>(⟨hk,hk.2⟩:_∧k_≠gb117))) (fun _ hk=>hk.2) (.int .i64 ((rd_T29 t101 t102).f0))) (fun _ hk=>hk.2) (.int .i64 ((rd_T29 t101 t102).f1))) (fun _ hk=>hk.2) (.int .i64 ((rd_T29 t101 t102).f2))) (fun _ hk=>hk.2) (.int .i64 ((rd_T29 t101 t102).f3))) (fun _ hk=>hk.2) (.int .i64 ((rd_T29 t101 t102).f4.f0))) (fun _ hk=>hk.2) (.int .i64 ((rd_T29 t101 t102).f4.f1))) (fun _ h_=>h_.1))) hb);have n1_:=Aside0.mk (Kd.R_elder' (by(with_reducible repeat(first|apply rA|apply rN|apply rD));exact(Kd.R_mono (Kd.R_far (p:=⟨gb117,5,none⟩) (Kd.R_far (p:=⟨gb117,4,none⟩) (Kd.R_far (p:=⟨gb117,3,none⟩) (Kd.R_far (p:=⟨gb117,2,none⟩) (Kd.R_far (p:=⟨gb117,1,none⟩) (Kd.R_far (p:=⟨gb117,0,none⟩) (Kd.R_types HO_5.out BK117.out (by decide)) (fun _ hk=>hk.2) (.int .i64 ((rd_T29 t101 t102).f0))) (fun _ hk=>hk.2) (.int .i64 ((rd_T29 t101 t102).f1))) (fun _ hk=>hk.2) (.int .i64 ((rd_T29 t101 t102).f2))) (fun _ hk=>hk.2) (.int .i64 ((rd_T29 t101 t102).f3))) (fun _ hk=>hk.2) (.int .i64 ((rd_T29 t101 t102).f4.f0))) (fun _ hk=>hk.2) (.int .i64 ((rd_T29 t101 t102).f4.f1))) (fun _ h_=>h_.1))) (Kd.R_base ho46) hb);have n2_:=Aside0.mk (Kd.R_lower (Kd.R_new' ho46 (Kd.R_lt (by(with_reducible repeat(first|apply rA|apply rN|apply rD));exact(Kd.R_mono (Kd.R_far (p:=⟨gb117,5,none⟩) (Kd.R_far (p:=⟨gb117,4,none⟩) (Kd.R_far (p:=⟨gb117,3,none⟩) (Kd.R_far (p:=⟨gb117,2,none⟩) (Kd.R_far (p:=⟨gb117,1,none⟩) (Kd.R_far (p:=⟨gb117,0,none⟩) (Kd.R_types HO_5.out BK117.out (by decide)) (fun _ hk=>hk.2) (.int .i64 ((rd_T29 t101 t102).f0))) (fun _ hk=>hk.2) (.int .i64 ((rd_T29 t101 t102).f1))) (fun _ hk=>hk.2) (.int .i64 ((rd_T29 t101 t102).f2))) (fun _ hk=>hk.2) (.int .i64 ((rd_T29 t101 t102).f3))) (fun _ hk=>hk.2) (.int .i64 ((rd_T29 t101 t102).f4.f0))) (fun _ hk=>hk.2) (.int .i64 ((rd_T29 t101 t102).f4.f1))) (fun _ h_=>h_.1))))) (below_size (by repeat(with_reducible first|exact HB.out|apply bA|apply bN|apply b1|refine below_set ?_ GE117.out))));have n3_:=Aside0.mk (blk_below (g:=gb117) (o:=.cells #[.int .i64 ((rd_T29 t101 t102).f0),.int .i64 ((rd_T29 t101 t102).f1),.int .i64 ((rd_T29 t101 t102).f2),.int .i64 ((rd_T29 t101 t102).f3),.int .i64 ((rd_T29 t101 t102).f4.f0),.int .i64 ((rd_T29 t101 t102).f4.f1)] 29 (0,0)) (by(with_reducible repeat(first|apply kN|apply kD|apply kA));refine blk_put (cs:= #[.int .i64 ((rd_T29 t101 t102).f0),.int .i64 ((rd_T29 t101 t102).f1),.int .i64 ((rd_T29 t101 t102).f2),.int .i64 ((rd_T29 t101 t102).f3),.int .i64 ((rd_T29 t101 t102).f4.f0),.int .i64 0]) ?_ 5 _ rfl;(with_reducible repeat(first|apply kN|apply kD|apply kA));refine blk_put (cs:= #[.int .i64 ((rd_T29 t101 t102).f0),.int .i64 ((rd_T29 t101 t102).f1),.int .i64 ((rd_T29 t101 t102).f2),.int .i64 ((rd_T29 t101 t102).f3),.int .i64 0,.int .i64 0]) ?_ 4 _ rfl;(with_reducible repeat(first|apply kN|apply kD|apply kA));refine blk_put (cs:= #[.int .i64 ((rd_T29 t101 t102).f0),.int .i64 ((rd_T29 t101 t102).f1),.int .i64 ((rd_T29 t101 t102).f2),.int .i64 0,.int .i64 0,.int .i64 0]) ?_ 3 _ rfl;(with_reducible repeat(first|apply kN|apply kD|apply kA));refine blk_put (cs:= #[.int .i64 ((rd_T29 t101 t102).f0),.int .i64 ((rd_T29 t101 t102).f1),.int .i64 0,.int .i64 0,.int .i64 0,.int .i64 0]) ?_ 2 _ rfl;(with_reducible repeat(first|apply kN|apply kD|apply kA));refine blk_put (cs:= #[.int .i64 ((rd_T29 t101 t102).f0),.int .i64 0,.int .i64 0,.int .i64 0,.int .i64 0,.int .i64 0]) ?_ 1 _ rfl;(with_reducible repeat(first|apply kN|apply kD|apply kA));refine blk_put (cs:= #[.int .i64 0,.int .i64 0,.int .i64 0,.int .i64 0,.int .i64 0,.int .i64 0]) ?_ 0 _ rfl;exact blkU BK117.out) hb);have n4_:=Aside0.mk (below_step (by repeat(with_reducible first|exact HB.out|apply bA|apply bN|apply b1|refine below_set ?_ GE117.out)) hb);clear HO_3;clear HO_5;clear BK117;clear HB;have HO_3:=n0_;have HO_5:=n1_;have HO120:=n2_;have BK117:=n3_;have HB:=n4_;clear n0_ n1_ n2_ n3_ n4_;clear hb ho46;obtain⟨Ao47,co47,eo47⟩:=Kd.R_slice HO_5.out;subst eo47;obtain⟨Ao48,co48,eo48⟩:=Kd.R_slice HO120.out;subst eo48)|((with_reducible refine gate_callee (f:=49) rfl ?_);refine goesL_ (some 61) rfl rfl Try.func49 (by kernel_rfl) rfl #[.slice Ao47 t105.length co47,.slice Ao48 y118.length co48] rfl (by(try simp only[List.map_toArray,List.map_cons,List.map_nil])<;>rfl) ?_;(with_reducible refine(laws_lvInts.calls kj4 _ _ t105 _ _ y118 t121 _ ?side1 ?side2 ?side3 ?side4 A42.out).mono ?_);(case side1=>repeat(first|exact(Kd.R_reads' HO_5.out).2.2|(with_reducible refine Kd.C_alloc ?_ _)|(with_reducible refine Kd.C_drewN ?_ _)|(with_reducible refine Kd.C_drew ?_)));(case side2=>exact(Kd.R_reads' HO_5.out).2.1);(case side3=>repeat(first|exact(Kd.R_reads' HO120.out).2.2|(with_reducible refine Kd.C_alloc ?_ _)|(with_reducible refine Kd.C_drewN ?_ _)|(with_reducible refine Kd.C_drew ?_)));(case side4=>exact(Kd.R_reads' HO120.out).2.1);rintro e w' ⟨rfl,⟨nd,rfl⟩⟩;refine⟨_,rfl,?_⟩))
         go_ret
         exact⟨by first|rfl|(simp[errW_none,errW_some]<;>rfl)|(simp[*,errW_none,errW_some]<;>rfl),by repeat(with_reducible first|exact HB.out|apply bA|apply bN|apply b1|refine below_set ?_ GE117.out)⟩
        ·rw[if_neg c41]at H
         have c41b0:(((rd_T29 t101 t102).f0)==9)=false:=beq_eq_false_iff_ne.mpr c41;have c41b1:(((rd_T29 t101 t102).f0) !=9)=true:=bne_iff_ne.mpr c41;have HC49:=Aside0.mk H;clear H;have p116:0≤(t102:Int):=of_decide_eq_true (by assumption)
         have q116:t102<(t101.length:Int):=of_decide_eq_true (by assumption)
         obtain⟨ad116,e116,hx116_0,hx116_1,hx116_2,hx116_3,hx116_4,hx116_5⟩:=at_T29 (Kd.R_reads' HO_3.out).2.2 t102 p116 q116;cases e116
         replace p116:=eq_true p116;replace q116:=eq_true q116;go_upto_if 62 with (first|((with_reducible refine gate_dst (N:=6) rfl ?_);(try(refine gate_guard (by rfl) ?_;dsimp only));refine box_event ?hg (N:=6) ?hd (cs:= #[.int .i64 0,.int .i64 0,.int .i64 0,.int .i64 0,.int .i64 0,.int .i64 0]) (t:=29) ?hr ?_;(case hd=>rfl);(case hg=>rfl);(case hr=>first|(go_simp;done)|(go_simp;rfl));intro gb117 hg w50 hbox hb;have n0_:=Aside0.mk (Kd.R_below (Kd.R_elderB (by exact rU HO_3.out) gb117 (Nat.le_of_eq hg.symm)) hb);have n1_:=Aside0.mk (Kd.R_below (by exact rU HO_5.out) hb);have n2_:=Aside0.mk (below_step (by exact bU HB.out) hb);have n3_:=Aside0.mk (hbox);have n4_:=Aside0.mk ((by rw[hg];exact(below_size (by exact bU HB.out)):w.heap.size≤gb117));have n5_:=Aside0.mk ((by rw[hg];exact(below_size (by exact bU HB.out)):w.heap.size≤gb117));clear HO_3;clear HO_5;clear HB;have HO_3:=n0_;have HO_5:=n1_;have HB:=n2_;have BK117:=n3_;have GW117:=n4_;have GE117:=n5_;clear n0_ n1_ n2_ n3_ n4_ n5_;clear hb hbox hg;obtain⟨hcz51_0,hcz51_1,hcz51_2,hcz51_3,hcz51_4,hcz51_5⟩:=six_cells BK117.out;obtain⟨hfz51_0,hfz51_1,hfz51_2,hfz51_3,hfz51_4,hfz51_5⟩:=six_marks BK117.out))
         (try simp only[Act.put,List.setIfInBounds_toArray,List.set_cons_zero,List.set_cons_succ])
         go_cut [62] (fun v62 wc=> ∃ (kq:Nat) (x62_48:Bool),v62= .bool x62_48∧Aside0 (laws_FnNext.j1 kq t101 t102 t105 x62_48 ((rd_T29 t101 t102).f0) ((rd_T29 t101 t102).f1) ((rd_T29 t101 t102).f2) ((rd_T29 t101 t102).f3) ((rd_T29 t101 t102).f4.f0) ((rd_T29 t101 t102).f4.f1)=some r)∧Aside0 (kq≤kj4)∧Aside0 (Kd.R k29 29 wc w.heap.size (fun k_=>k_≠gb117) (.slice (some ad116) t101.length co7) t101)∧Aside0 (Kd.R (Kd.int .i64) 3 wc w.heap.size (fun _=>True) v106 t105)∧Aside0 (wc.heap[gb117]?=some (.cells #[.int .i64 ((rd_T29 t101 t102).f0),.int .i64 ((rd_T29 t101 t102).f1),.int .i64 ((rd_T29 t101 t102).f2),.int .i64 ((rd_T29 t101 t102).f3),.int .i64 ((rd_T29 t101 t102).f4.f0),.int .i64 ((rd_T29 t101 t102).f4.f1)] 29 (0,0)))∧Aside0 (Below w.heap.size w wc))
         case first=>
          have H:=HC49.out;clear HC49;by_cases c52:((rd_T29 t101 t102).f0)=10
          ·rw[if_pos c52]at H
           have c52b0:(((rd_T29 t101 t102).f0)==10)=true:=beq_iff_eq.mpr c52;have c52b1:(((rd_T29 t101 t102).f0) !=10)=false:=bne_eq_false_iff_eq.mpr c52;clear c52;(first|rw[c52b0]|(simp only[i64_w,i32_w];rw[c52b0])|skip)
           have H':=Aside0.mk H;clear H;go_wp2
           go_meet
           case rel=>exact⟨_,((((rd_T29 t101 t102).f0)==10)),(by first|rfl|(simp;done)|(simp[*];done)),H',⟨by have:=HJ4.out;first|omega|exact Nat.le_refl _⟩,⟨by(with_reducible repeat(first|apply rA|apply rN|apply rD));exact Kd.R_mono (Kd.R_far (p:=⟨gb117,5,none⟩) (Kd.R_far (p:=⟨gb117,4,none⟩) (Kd.R_far (p:=⟨gb117,3,none⟩) (Kd.R_far (p:=⟨gb117,2,none⟩) (Kd.R_far (p:=⟨gb117,1,none⟩) (Kd.R_far (p:=⟨gb117,0,none⟩) (Kd.R_mono HO_3.out (fun k_ hk=>(⟨hk,hk.2⟩:_∧k_≠gb117))) (fun _ hk=>hk.2) (.int .i64 ((rd_T29 t101 t102).f0))) (fun _ hk=>hk.2) (.int .i64 ((rd_T29 t101 t102).f1))) (fun _ hk=>hk.2) (.int .i64 ((rd_T29 t101 t102).f2))) (fun _ hk=>hk.2) (.int .i64 ((rd_T29 t101 t102).f3))) (fun _ hk=>hk.2) (.int .i64 ((rd_T29 t101 t102).f4.f0))) (fun _ hk=>hk.2) (.int .i64 ((rd_T29 t101 t102).f4.f1))) (fun _ hk=>hk.1.2)⟩,⟨by(with_reducible repeat(first|apply rA|apply rN|apply rD));exact Kd.R_mono (Kd.R_far (p:=⟨gb117,5,none⟩) (Kd.R_far (p:=⟨gb117,4,none⟩) (Kd.R_far (p:=⟨gb117,3,none⟩) (Kd.R_far (p:=⟨gb117,2,none⟩) (Kd.R_far (p:=⟨gb117,1,none⟩) (Kd.R_far (p:=⟨gb117,0,none⟩) (Kd.R_types HO_5.out BK117.out (by decide)) (fun _ hk=>hk.2) (.int .i64 ((rd_T29 t101 t102).f0))) (fun _ hk=>hk.2) (.int .i64 ((rd_T29 t101 t102).f1))) (fun _ hk=>hk.2) (.int .i64 ((rd_T29 t101 t102).f2))) (fun _ hk=>hk.2) (.int .i64 ((rd_T29 t101 t102).f3))) (fun _ hk=>hk.2) (.int .i64 ((rd_T29 t101 t102).f4.f0))) (fun _ hk=>hk.2) (.int .i64 ((rd_T29 t101 t102).f4.f1))) (fun _ hk=>trivial)⟩,⟨by(with_reducible repeat(first|apply kN|apply kD|apply kA));refine blk_put (cs:= #[.int .i64 ((rd_T29 t101 t102).f0),.int .i64 ((rd_T29 t101 t102).f1),.int .i64 ((rd_T29 t101 t102).f2),.int .i64 ((rd_T29 t101 t102).f3),.int .i64 ((rd_T29 t101 t102).f4.f0),.int .i64 0]) ?_ 5 _ rfl;(with_reducible repeat(first|apply kN|apply kD|apply kA));refine blk_put (cs:= #[.int .i64 ((rd_T29 t101 t102).f0),.int .i64 ((rd_T29 t101 t102).f1),.int .i64 ((rd_T29 t101 t102).f2),.int .i64 ((rd_T29 t101 t102).f3),.int .i64 0,.int .i64 0]) ?_ 4 _ rfl;(with_reducible repeat(first|apply kN|apply kD|apply kA));refine blk_put (cs:= #[.int .i64 ((rd_T29 t101 t102).f0),.int .i64 ((rd_T29 t101 t102).f1),.int .i64 ((rd_T29 t101 t102).f2),.int .i64 0,.int .i64 0,.int .i64 0]) ?_ 3 _ rfl;(with_reducible repeat(first|apply kN|apply kD|apply kA));refine blk_put (cs:= #[.int .i64 ((rd_T29 t101 t102).f0),.int .i64 ((rd_T29 t101 t102).f1),.int .i64 0,.int .i64 0,.int .i64 0,.int .i64 0]) ?_ 2 _ rfl;(with_reducible repeat(first|apply kN|apply kD|apply kA));refine blk_put (cs:= #[.int .i64 ((rd_T29 t101 t102).f0),.int .i64 0,.int .i64 0,.int .i64 0,.int .i64 0,.int .i64 0]) ?_ 1 _ rfl;(with_reducible repeat(first|apply kN|apply kD|apply kA));refine blk_put (cs:= #[.int .i64 0,.int .i64 0,.int .i64 0,.int .i64 0,.int .i64 0,.int .i64 0]) ?_ 0 _ rfl;exact blkU BK117.out⟩,⟨by repeat(with_reducible first|exact HB.out|apply bA|apply bN|apply b1|refine below_set ?_ GE117.out)⟩⟩
          ·rw[if_neg c52]at H
           have c52b0:(((rd_T29 t101 t102).f0)==10)=false:=beq_eq_false_iff_ne.mpr c52;have c52b1:(((rd_T29 t101 t102).f0) !=10)=true:=bne_iff_ne.mpr c52;(first|rw[c52b0]|(simp only[i64_w,i32_w];rw[c52b0])|skip)
           by_cases c53:((rd_T29 t101 t102).f0)=8
           ·rw[if_pos c53]at H
            have c53b0:(((rd_T29 t101 t102).f0)==8)=true:=beq_iff_eq.mpr c53;have c53b1:(((rd_T29 t101 t102).f0) !=8)=false:=bne_eq_false_iff_eq.mpr c53;clear c53;have H':=Aside0.mk H;clear H;go_wp2
            go_meet
            case rel=>exact⟨_,((((rd_T29 t101 t102).f0)==8)),(by first|rfl|(simp;done)|(simp[*];done)),H',⟨by have:=HJ4.out;first|omega|exact Nat.le_refl _⟩,⟨by(with_reducible repeat(first|apply rA|apply rN|apply rD));exact Kd.R_mono (Kd.R_far (p:=⟨gb117,5,none⟩) (Kd.R_far (p:=⟨gb117,4,none⟩) (Kd.R_far (p:=⟨gb117,3,none⟩) (Kd.R_far (p:=⟨gb117,2,none⟩) (Kd.R_far (p:=⟨gb117,1,none⟩) (Kd.R_far (p:=⟨gb117,0,none⟩) (Kd.R_mono HO_3.out (fun k_ hk=>(⟨hk,hk.2⟩:_∧k_≠gb117))) (fun _ hk=>hk.2) (.int .i64 ((rd_T29 t101 t102).f0))) (fun _ hk=>hk.2) (.int .i64 ((rd_T29 t101 t102).f1))) (fun _ hk=>hk.2) (.int .i64 ((rd_T29 t101 t102).f2))) (fun _ hk=>hk.2) (.int .i64 ((rd_T29 t101 t102).f3))) (fun _ hk=>hk.2) (.int .i64 ((rd_T29 t101 t102).f4.f0))) (fun _ hk=>hk.2) (.int .i64 ((rd_T29 t101 t102).f4.f1))) (fun _ hk=>hk.1.2)⟩,⟨by(with_reducible repeat(first|apply rA|apply rN|apply rD));exact Kd.R_mono (Kd.R_far (p:=⟨gb117,5,none⟩) (Kd.R_far (p:=⟨gb117,4,none⟩) (Kd.R_far (p:=⟨gb117,3,none⟩) (Kd.R_far (p:=⟨gb117,2,none⟩) (Kd.R_far (p:=⟨gb117,1,none⟩) (Kd.R_far (p:=⟨gb117,0,none⟩) (Kd.R_types HO_5.out BK117.out (by decide)) (fun _ hk=>hk.2) (.int .i64 ((rd_T29 t101 t102).f0))) (fun _ hk=>hk.2) (.int .i64 ((rd_T29 t101 t102).f1))) (fun _ hk=>hk.2) (.int .i64 ((rd_T29 t101 t102).f2))) (fun _ hk=>hk.2) (.int .i64 ((rd_T29 t101 t102).f3))) (fun _ hk=>hk.2) (.int .i64 ((rd_T29 t101 t102).f4.f0))) (fun _ hk=>hk.2) (.int .i64 ((rd_T29 t101 t102).f4.f1))) (fun _ hk=>trivial)⟩,⟨by(with_reducible repeat(first|apply kN|apply kD|apply kA));refine blk_put (cs:= #[.int .i64 ((rd_T29 t101 t102).f0),.int .i64 ((rd_T29 t101 t102).f1),.int .i64 ((rd_T29 t101 t102).f2),.int .i64 ((rd_T29 t101 t102).f3),.int .i64 ((rd_T29 t101 t102).f4.f0),.int .i64 0]) ?_ 5 _ rfl;(with_reducible repeat(first|apply kN|apply kD|apply kA));refine blk_put (cs:= #[.int .i64 ((rd_T29 t101 t102).f0),.int .i64 ((rd_T29 t101 t102).f1),.int .i64 ((rd_T29 t101 t102).f2),.int .i64 ((rd_T29 t101 t102).f3),.int .i64 0,.int .i64 0]) ?_ 4 _ rfl;(with_reducible repeat(first|apply kN|apply kD|apply kA));refine blk_put (cs:= #[.int .i64 ((rd_T29 t101 t102).f0),.int .i64 ((rd_T29 t101 t102).f1),.int .i64 ((rd_T29 t101 t102).f2),.int .i64 0,.int .i64 0,.int .i64 0]) ?_ 3 _ rfl;(with_reducible repeat(first|apply kN|apply kD|apply kA));refine blk_put (cs:= #[.int .i64 ((rd_T29 t101 t102).f0),.int .i64 ((rd_T29 t101 t102).f1),.int .i64 0,.int .i64 0,.int .i64 0,.int .i64 0]) ?_ 2 _ rfl;(with_reducible repeat(first|apply kN|apply kD|apply kA));refine blk_put (cs:= #[.int .i64 ((rd_T29 t101 t102).f0),.int .i64 0,.int .i64 0,.int .i64 0,.int .i64 0,.int .i64 0]) ?_ 1 _ rfl;(with_reducible repeat(first|apply kN|apply kD|apply kA));refine blk_put (cs:= #[.int .i64 0,.int .i64 0,.int .i64 0,.int .i64 0,.int .i64 0,.int .i64 0]) ?_ 0 _ rfl;exact blkU BK117.out⟩,⟨by repeat(with_reducible first|exact HB.out|apply bA|apply bN|apply b1|refine below_set ?_ GE117.out)⟩⟩
           ·rw[if_neg c53]at H
            have c53b0:(((rd_T29 t101 t102).f0)==8)=false:=beq_eq_false_iff_ne.mpr c53;have c53b1:(((rd_T29 t101 t102).f0) !=8)=true:=bne_iff_ne.mpr c53;have H':=Aside0.mk H;clear H;go_wp2
            go_meet
            case rel=>exact⟨_,((((rd_T29 t101 t102).f0)==5)),(by first|rfl|(simp;done)|(simp[*];done)),H',⟨by have:=HJ4.out;first|omega|exact Nat.le_refl _⟩,⟨by(with_reducible repeat(first|apply rA|apply rN|apply rD));exact Kd.R_mono (Kd.R_far (p:=⟨gb117,5,none⟩) (Kd.R_far (p:=⟨gb117,4,none⟩) (Kd.R_far (p:=⟨gb117,3,none⟩) (Kd.R_far (p:=⟨gb117,2,none⟩) (Kd.R_far (p:=⟨gb117,1,none⟩) (Kd.R_far (p:=⟨gb117,0,none⟩) (Kd.R_mono HO_3.out (fun k_ hk=>(⟨hk,hk.2⟩:_∧k_≠gb117))) (fun _ hk=>hk.2) (.int .i64 ((rd_T29 t101 t102).f0))) (fun _ hk=>hk.2) (.int .i64 ((rd_T29 t101 t102).f1))) (fun _ hk=>hk.2) (.int .i64 ((rd_T29 t101 t102).f2))) (fun _ hk=>hk.2) (.int .i64 ((rd_T29 t101 t102).f3))) (fun _ hk=>hk.2) (.int .i64 ((rd_T29 t101 t102).f4.f0))) (fun _ hk=>hk.2) (.int .i64 ((rd_T29 t101 t102).f4.f1))) (fun _ hk=>hk.1.2)⟩,⟨by(with_reducible repeat(first|apply rA|apply rN|apply rD));exact Kd.R_mono (Kd.R_far (p:=⟨gb117,5,none⟩) (Kd.R_far (p:=⟨gb117,4,none⟩) (Kd.R_far (p:=⟨gb117,3,none⟩) (Kd.R_far (p:=⟨gb117,2,none⟩) (Kd.R_far (p:=⟨gb117,1,none⟩) (Kd.R_far (p:=⟨gb117,0,none⟩) (Kd.R_types HO_5.out BK117.out (by decide)) (fun _ hk=>hk.2) (.int .i64 ((rd_T29 t101 t102).f0))) (fun _ hk=>hk.2) (.int .i64 ((rd_T29 t101 t102).f1))) (fun _ hk=>hk.2) (.int .i64 ((rd_T29 t101 t102).f2))) (fun _ hk=>hk.2) (.int .i64 ((rd_T29 t101 t102).f3))) (fun _ hk=>hk.2) (.int .i64 ((rd_T29 t101 t102).f4.f0))) (fun _ hk=>hk.2) (.int .i64 ((rd_T29 t101 t102).f4.f1))) (fun _ hk=>trivial)⟩,⟨by(with_reducible repeat(first|apply kN|apply kD|apply kA));refine blk_put (cs:= #[.int .i64 ((rd_T29 t101 t102).f0),.int .i64 ((rd_T29 t101 t102).f1),.int .i64 ((rd_T29 t101 t102).f2),.int .i64 ((rd_T29 t101 t102).f3),.int .i64 ((rd_T29 t101 t102).f4.f0),.int .i64 0]) ?_ 5 _ rfl;(with_reducible repeat(first|apply kN|apply kD|apply kA));refine blk_put (cs:= #[.int .i64 ((rd_T29 t101 t102).f0),.int .i64 ((rd_T29 t101 t102).f1),.int .i64 ((rd_T29 t101 t102).f2),.int .i64 ((rd_T29 t101 t102).f3),.int .i64 0,.int .i64 0]) ?_ 4 _ rfl;(with_reducible repeat(first|apply kN|apply kD|apply kA));refine blk_put (cs:= #[.int .i64 ((rd_T29 t101 t102).f0),.int .i64 ((rd_T29 t101 t102).f1),.int .i64 ((rd_T29 t101 t102).f2),.int .i64 0,.int .i64 0,.int .i64 0]) ?_ 3 _ rfl;(with_reducible repeat(first|apply kN|apply kD|apply kA));refine blk_put (cs:= #[.int .i64 ((rd_T29 t101 t102).f0),.int .i64 ((rd_T29 t101 t102).f1),.int .i64 0,.int .i64 0,.int .i64 0,.int .i64 0]) ?_ 2 _ rfl;(with_reducible repeat(first|apply kN|apply kD|apply kA));refine blk_put (cs:= #[.int .i64 ((rd_T29 t101 t102).f0),.int .i64 0,.int .i64 0,.int .i64 0,.int .i64 0,.int .i64 0]) ?_ 1 _ rfl;(with_reducible repeat(first|apply kN|apply kD|apply kA));refine blk_put (cs:= #[.int .i64 0,.int .i64 0,.int .i64 0,.int .i64 0,.int .i64 0,.int .i64 0]) ?_ 0 _ rfl;exact blkU BK117.out⟩,⟨by repeat(with_reducible first|exact HB.out|apply bA|apply bN|apply b1|refine below_set ?_ GE117.out)⟩⟩
         case rest=>
          clear HC49;(try clear c1);(try clear p1);(try clear q1);(try clear hx1);(try clear c2);(try clear c2b0);(try clear c2b1);(try clear p2);(try clear c3);(try clear c4);(try clear c5);(try clear c10);(try clear p11);(try clear q11);(try clear hx11);(try clear c12);(try clear c13);(try clear c13b0);(try clear c16);(try clear c29);(try clear c35);(try clear c35b0);(try clear c36);(try clear c36b0);(try clear c37);(try clear c37b0);(try clear c37b1);(try clear c38);(try clear c39);(try clear c41);(try clear c41b0);(try clear c41b1);(try clear c49);(try clear c52);(try clear c52b0);(try clear c52b1);(try clear c53);(try clear c53b0);(try clear c53b1);(try clear hcz39_0);(try clear hcz39_1);(try clear hcz39_2);(try clear hcz39_3);(try clear hcz39_4);(try clear hcz39_5);(try clear hcz44_0);(try clear hcz44_1);(try clear hcz44_2);(try clear hcz44_3);(try clear hcz44_4);(try clear hcz44_5);(try clear hcz51_0);(try clear hcz51_1);(try clear hcz51_2);(try clear hcz51_3);(try clear hcz51_4);(try clear hcz51_5);(try clear hfz39_0);(try clear hfz39_1);(try clear hfz39_2);(try clear hfz39_3);(try clear hfz39_4);(try clear hfz39_5);(try clear hfz44_0);(try clear hfz44_1);(try clear hfz44_2);(try clear hfz44_3);(try clear hfz44_4);(try clear hfz44_5);(try clear hfz51_0);(try clear hfz51_1);(try clear hfz51_2);(try clear hfz51_3);(try clear hfz51_4);(try clear hfz51_5);(try clear hx116_0);(try clear hx116_1);(try clear hx116_2);(try clear hx116_3);(try clear hx116_4);(try clear hx116_5);(try clear p116);(try clear p2);(try clear q116)
          obtain⟨kq,x62_48,rfl,HA,HJ48,HO_3,HO_5,BK117,HB⟩:=hcut;cases kq with
          |zero=>exact absurd HA.out (by simp[laws_FnNext.j1])
          |succ kj48=>
           have H:=HA.out;clear HA;simp only[laws_FnNext.j1]at H
           by_cases c54:x62_48=true
           ·subst c54
            have H1:(if(wrap64 (t102+1))=(t101.length:Int)then(laws_FnNext.j2 kj48 t102 t105 true ((rd_T29 t101 t102).f0) ((rd_T29 t101 t102).f1) ((rd_T29 t101 t102).f2) ((rd_T29 t101 t102).f3) ((rd_T29 t101 t102).f4.f0) ((rd_T29 t101 t102).f4.f1))else(laws_FnNext.j2 kj48 t102 t105 (((rd_T29 t101 t102).f3)==(wrap64 (t102+1))) ((rd_T29 t101 t102).f0) ((rd_T29 t101 t102).f1) ((rd_T29 t101 t102).f2) ((rd_T29 t101 t102).f3) ((rd_T29 t101 t102).f4.f0) ((rd_T29 t101 t102).f4.f1)))=some r:=by rw[if_pos rfl]at H;exact H
            clear H;have H:=H1;clear H1;have HC55:=Aside0.mk H;clear H;go_upto_region 16 with (fail)
            go_cut [77] (fun v77 wc=> ∃ (kq:Nat) (x77_54:Bool),v77= .bool x77_54∧Aside0 (laws_FnNext.j2 kq t102 t105 x77_54 ((rd_T29 t101 t102).f0) ((rd_T29 t101 t102).f1) ((rd_T29 t101 t102).f2) ((rd_T29 t101 t102).f3) ((rd_T29 t101 t102).f4.f0) ((rd_T29 t101 t102).f4.f1)=some r)∧Aside0 (kq≤kj48)∧Aside0 (Kd.R (Kd.int .i64) 3 wc w.heap.size (fun _=>True) v106 t105)∧Aside0 (wc.heap[gb117]?=some (.cells #[.int .i64 ((rd_T29 t101 t102).f0),.int .i64 ((rd_T29 t101 t102).f1),.int .i64 ((rd_T29 t101 t102).f2),.int .i64 ((rd_T29 t101 t102).f3),.int .i64 ((rd_T29 t101 t102).f4.f0),.int .i64 ((rd_T29 t101 t102).f4.f1)] 29 (0,0)))∧Aside0 (Below w.heap.size w wc))
            case first=>
             have H:=HC55.out;clear HC55;by_cases c56:(wrap64 (t102+1))=(t101.length:Int)
             ·rw[if_pos c56]at H
              have c56b0:((wrap64 (t102+1))==(t101.length:Int))=true:=beq_iff_eq.mpr c56;have c56b1:((wrap64 (t102+1)) !=(t101.length:Int))=false:=bne_eq_false_iff_eq.mpr c56;clear c56;(first|rw[c56b0]|(simp only[i64_w,i32_w];rw[c56b0])|skip)
              have H':=Aside0.mk H;clear H;go_wp2
              go_meet
              case rel=>exact⟨_,(true),(by first|rfl|(simp;done)|(simp[*];done)),H',⟨by have:=HJ4.out;have:=HJ48.out;first|omega|exact Nat.le_refl _⟩,⟨by exact rU HO_5.out⟩,⟨by exact blkU BK117.out⟩,⟨by repeat(with_reducible first|exact HB.out|apply bA|apply bN|apply b1|refine below_set ?_ GE117.out)⟩⟩
             ·rw[if_neg c56]at H
              have c56b0:((wrap64 (t102+1))==(t101.length:Int))=false:=beq_eq_false_iff_ne.mpr c56;have c56b1:((wrap64 (t102+1)) !=(t101.length:Int))=true:=bne_iff_ne.mpr c56;(first|rw[c56b0]|(simp only[i64_w,i32_w];rw[c56b0])|skip)
              have H':=Aside0.mk H;clear H;have hcz57_0:wc.cell? ⟨gb117,0,none⟩=some (.int .i64 ((rd_T29 t101 t102).f0)):=(blk_cell BK117.out 0).trans rfl;have hcz57_1:wc.cell? ⟨gb117,1,none⟩=some (.int .i64 ((rd_T29 t101 t102).f1)):=(blk_cell BK117.out 1).trans rfl;have hcz57_2:wc.cell? ⟨gb117,2,none⟩=some (.int .i64 ((rd_T29 t101 t102).f2)):=(blk_cell BK117.out 2).trans rfl;have hcz57_3:wc.cell? ⟨gb117,3,none⟩=some (.int .i64 ((rd_T29 t101 t102).f3)):=(blk_cell BK117.out 3).trans rfl;have hcz57_4:wc.cell? ⟨gb117,4,none⟩=some (.int .i64 ((rd_T29 t101 t102).f4.f0)):=(blk_cell BK117.out 4).trans rfl;have hcz57_5:wc.cell? ⟨gb117,5,none⟩=some (.int .i64 ((rd_T29 t101 t102).f4.f1)):=(blk_cell BK117.out 5).trans rfl;have hfz57_0:=blk_frozen BK117.out 0;have hfz57_1:=blk_frozen BK117.out 1;have hfz57_2:=blk_frozen BK117.out 2;have hfz57_3:=blk_frozen BK117.out 3;have hfz57_4:=blk_frozen BK117.out 4;have hfz57_5:=blk_frozen BK117.out 5;go_wp2
              go_meet
              case rel=>exact⟨_,((((rd_T29 t101 t102).f3)==(wrap64 (t102+1)))),(by first|rfl|(simp;done)|(simp[*];done)),H',⟨by have:=HJ4.out;have:=HJ48.out;first|omega|exact Nat.le_refl _⟩,⟨by exact rU HO_5.out⟩,⟨by exact blkU BK117.out⟩,⟨by repeat(with_reducible first|exact HB.out|apply bA|apply bN|apply b1|refine below_set ?_ GE117.out)⟩⟩
            case rest=>
             clear HC55;(try clear c1);(try clear p1);(try clear q1);(try clear hx1);(try clear c2);(try clear c2b0);(try clear c2b1);(try clear p2);(try clear c3);(try clear c4);(try clear c5);(try clear p6);(try clear c10);(try clear p11);(try clear q11);(try clear hx11);(try clear c12);(try clear c13);(try clear c13b0);(try clear c16);(try clear c29);(try clear c35);(try clear c35b0);(try clear c36);(try clear c36b0);(try clear c37);(try clear c37b0);(try clear c37b1);(try clear c38);(try clear c39);(try clear c41);(try clear c41b0);(try clear c41b1);(try clear c49);(try clear c52);(try clear c52b0);(try clear c52b1);(try clear c53);(try clear c53b0);(try clear c53b1);(try clear c54);(try clear c56);(try clear c56b0);(try clear c56b1);(try clear hcz39_0);(try clear hcz39_1);(try clear hcz39_2);(try clear hcz39_3);(try clear hcz39_4);(try clear hcz39_5);(try clear hcz44_0);(try clear hcz44_1);(try clear hcz44_2);(try clear hcz44_3);(try clear hcz44_4);(try clear hcz44_5);(try clear hcz51_0);(try clear hcz51_1);(try clear hcz51_2);(try clear hcz51_3);(try clear hcz51_4);(try clear hcz51_5);(try clear hcz57_0);(try clear hcz57_1);(try clear hcz57_2);(try clear hcz57_3);(try clear hcz57_4);(try clear hcz57_5);(try clear hfz39_0);(try clear hfz39_1);(try clear hfz39_2);(try clear hfz39_3);(try clear hfz39_4);(try clear hfz39_5);(try clear hfz44_0);(try clear hfz44_1);(try clear hfz44_2);(try clear hfz44_3);(try clear hfz44_4);(try clear hfz44_5);(try clear hfz51_0);(try clear hfz51_1);(try clear hfz51_2);(try clear hfz51_3);(try clear hfz51_4);(try clear hfz51_5);(try clear hfz57_0);(try clear hfz57_1);(try clear hfz57_2);(try clear hfz57_3);(try clear hfz57_4);(try clear hfz57_5);(try clear hx116_0);(try clear hx116_1);(try clear hx116_2);(try clear hx116_3);(try clear hx116_4);(try clear hx116_5);(try clear p1);(try clear p11);(try clear p116);(try clear p2);(try clear q1);(try clear q11);(try clear q116)
             obtain⟨kq,x77_54,rfl,HA,HJ54,HO_5,BK117,HB⟩:=hcut;cases kq with
             |zero=>exact absurd HA.out (by simp[laws_FnNext.j2])
             |succ kj54=>
              have H:=HA.out;clear HA;simp only[laws_FnNext.j2]at H
              by_cases c58:x77_54=true
              ·subst c58
               have H1:((laws_lvInts.f kj54 t105 (([((rd_T29 t101 t102).f3)]:List Int))).bind fun t125=>(some t125))=some r:=by rw[if_pos rfl]at H;exact H
               clear H;have H:=H1;clear H1;obtain⟨y122,hy122⟩: ∃y_:List Int,y_=(([((rd_T29 t101 t102).f3)]:List Int)):=⟨_,rfl⟩;replace H:((laws_lvInts.f kj54 t105 y122).bind fun t125=>(some t125))=some r:=by first|(rw[hy122];with_reducible exact H)|(have H2_:=(Option.bind_some _ _).symm.trans H;rw[hy122];with_reducible exact H2_)|(have H2_:=(Option.bind_some _ _).symm.trans H;with_reducible exact H2_)|with_reducible exact H|(rw[hy122];exact H)|exact H
               have Ny122:=Aside0.mk hy122;clear hy122;replace H:=Option.bind_eq_some_iff.mp H;obtain⟨t125,A590,H⟩:=H;replace H:(some t125)=some r:=H;have A59:=Aside0.mk A590;clear A590;obtain rfl:=Option.some.inj H;have hcz60_0:wc.cell? ⟨gb117,0,none⟩=some (.int .i64 ((rd_T29 t101 t102).f0)):=(blk_cell BK117.out 0).trans rfl;have hcz60_1:wc.cell? ⟨gb117,1,none⟩=some (.int .i64 ((rd_T29 t101 t102).f1)):=(blk_cell BK117.out 1).trans rfl;have hcz60_2:wc.cell? ⟨gb117,2,none⟩=some (.int .i64 ((rd_T29 t101 t102).f2)):=(blk_cell BK117.out 2).trans rfl;have hcz60_3:wc.cell? ⟨gb117,3,none⟩=some (.int .i64 ((rd_T29 t101 t102).f3)):=(blk_cell BK117.out 3).trans rfl;have hcz60_4:wc.cell? ⟨gb117,4,none⟩=some (.int .i64 ((rd_T29 t101 t102).f4.f0)):=(blk_cell BK117.out 4).trans rfl;have hcz60_5:wc.cell? ⟨gb117,5,none⟩=some (.int .i64 ((rd_T29 t101 t102).f4.f1)):=(blk_cell BK117.out 5).trans rfl;have hfz60_0:=blk_frozen BK117.out 0;have hfz60_1:=blk_frozen BK117.out 1;have hfz60_2:=blk_frozen BK117.out 2;have hfz60_3:=blk_frozen BK117.out 3;have hfz60_4:=blk_frozen BK117.out 4;have hfz60_5:=blk_frozen BK117.out 5;go_wp2_with (first|((with_reducible refine gate_dst (N:=81) rfl ?_);(try(refine gate_guard (by rfl) ?_;dsimp only));refine Kd.R_lit (Kd.int .i64) _ 3 ?hg (N:=81) ?hd (xs:=([((rd_T29 t101 t102).f3)]:List Int)) (inner:=[.int .i64 ((rd_T29 t101 t102).f3)]) (ok:=fun _=>True) (okp:=fun _=>True) ?hr ?hp (fun _ hk=>hk) trivial (Below.refl _ _) (Nat.le_refl _) (by simp) ?_;(case hd=>rfl);(case hg=>rfl);(case hr=>first|(go_simp;done)|(go_simp;rfl));(case hp=>exact(Reps.one (show Kd.M (Kd.int .i64) _ _ _ ((rd_T29 t101 t102).f3) [.int .i64 ((rd_T29 t101 t102).f3)]from rfl) (Reps.none _ _)));intro v123 w61 ho62 hb hg_ hnew_;clear hg_ hnew_;(first|rw[←Ny122.out]at ho62|(simp only[Int.reduceToNat]at ho62;rw[←Ny122.out]at ho62));have n0_:=Aside0.mk (Kd.R_elder' (by exact rU HO_5.out) (Kd.R_base ho62) hb);have n1_:=Aside0.mk (Kd.R_lower (Kd.R_new' ho62 (Kd.R_lt (by exact rU HO_5.out))) (below_size (by repeat(with_reducible first|exact HB.out|apply bA|apply bN|apply b1|refine below_set ?_ GE117.out))));have n2_:=Aside0.mk (blk_below (g:=gb117) (o:=.cells #[.int .i64 ((rd_T29 t101 t102).f0),.int .i64 ((rd_T29 t101 t102).f1),.int .i64 ((rd_T29 t101 t102).f2),.int .i64 ((rd_T29 t101 t102).f3),.int .i64 ((rd_T29 t101 t102).f4.f0),.int .i64 ((rd_T29 t101 t102).f4.f1)] 29 (0,0)) (by exact blkU BK117.out) hb);have n3_:=Aside0.mk (below_step (by repeat(with_reducible first|exact HB.out|apply bA|apply bN|apply b1|refine below_set ?_ GE117.out)) hb);clear HO_5;clear BK117;clear HB;have HO_5:=n0_;have HO124:=n1_;have BK117:=n2_;have HB:=n3_;clear n0_ n1_ n2_ n3_;clear hb ho62;obtain⟨Ao63,co63,eo63⟩:=Kd.R_slice HO_5.out;subst eo63;obtain⟨Ao64,co64,eo64⟩:=Kd.R_slice HO124.out;subst eo64)|((with_reducible refine gate_callee (f:=49) rfl ?_);refine goesL_ (some 82) rfl rfl Try.func49 (by kernel_rfl) rfl #[.slice Ao63 t105.length co63,.slice Ao64 y122.length co64] rfl (by(try simp only[List.map_toArray,List.map_cons,List.map_nil])<;>rfl) ?_;(with_reducible refine(laws_lvInts.calls kj54 _ _ t105 _ _ y122 t125 _ ?side1 ?side2 ?side3 ?side4 A59.out).mono ?_);(case side1=>repeat(first|exact(Kd.R_reads' HO_5.out).2.2|(with_reducible refine Kd.C_alloc ?_ _)|(with_reducible refine Kd.C_drewN ?_ _)|(with_reducible refine Kd.C_drew ?_)));(case side2=>exact(Kd.R_reads' HO_5.out).2.1);(case side3=>repeat(first|exact(Kd.R_reads' HO124.out).2.2|(with_reducible refine Kd.C_alloc ?_ _)|(with_reducible refine Kd.C_drewN ?_ _)|(with_reducible refine Kd.C_drew ?_)));(case side4=>exact(Kd.R_reads' HO124.out).2.1);rintro e w' ⟨rfl,⟨nd,rfl⟩⟩;refine⟨_,rfl,?_⟩))
               go_ret
               exact⟨by first|rfl|(simp[errW_none,errW_some]<;>rfl)|(simp[*,errW_none,errW_some]<;>rfl),by repeat(with_reducible first|exact HB.out|apply bA|apply bN|apply b1|refine below_set ?_ GE117.out)⟩
              ·replace c58:=Bool.eq_false_iff.mpr c58
               subst c58;have H1:((laws_lvInts.f kj54 t105 (([wrap64 (t102+1),((rd_T29 t101 t102).f3)]:List Int))).bind fun t129=>(some t129))=some r:=by rw[if_neg (show¬(false=true) by decide)]at H;exact H
               clear H;have H:=H1;clear H1;obtain⟨y126,hy126⟩: ∃y_:List Int,y_=(([wrap64 (t102+1),((rd_T29 t101 t102).f3)]:List Int)):=⟨_,rfl⟩;replace H:((laws_lvInts.f kj54 t105 y126).bind fun t129=>(some t129))=some r:=by first|(rw[hy126];with_reducible exact H)|(have H2_:=(Option.bind_some _ _).symm.trans H;rw[hy126];with_reducible exact H2_)|(have H2_:=(Option.bind_some _ _).symm.trans H;with_reducible exact H2_)|with_reducible exact H|(rw[hy126];exact H)|exact H
               have Ny126:=Aside0.mk hy126;clear hy126;replace H:=Option.bind_eq_some_iff.mp H;obtain⟨t129,A650,H⟩:=H;replace H:(some t129)=some r:=H;have A65:=Aside0.mk A650;clear A650;obtain rfl:=Option.some.inj H;have hcz66_0:wc.cell? ⟨gb117,0,none⟩=some (.int .i64 ((rd_T29 t101 t102).f0)):=(blk_cell BK117.out 0).trans rfl;have hcz66_1:wc.cell? ⟨gb117,1,none⟩=some (.int .i64 ((rd_T29 t101 t102).f1)):=(blk_cell BK117.out 1).trans rfl;have hcz66_2:wc.cell? ⟨gb117,2,none⟩=some (.int .i64 ((rd_T29 t101 t102).f2)):=(blk_cell BK117.out 2).trans rfl;have hcz66_3:wc.cell? ⟨gb117,3,none⟩=some (.int .i64 ((rd_T29 t101 t102).f3)):=(blk_cell BK117.out 3).trans rfl;have hcz66_4:wc.cell? ⟨gb117,4,none⟩=some (.int .i64 ((rd_T29 t101 t102).f4.f0)):=(blk_cell BK117.out 4).trans rfl;have hcz66_5:wc.cell? ⟨gb117,5,none⟩=some (.int .i64 ((rd_T29 t101 t102).f4.f1)):=(blk_cell BK117.out 5).trans rfl;have hfz66_0:=blk_frozen BK117.out 0;have hfz66_1:=blk_frozen BK117.out 1;have hfz66_2:=blk_frozen BK117.out 2;have hfz66_3:=blk_frozen BK117.out 3;have hfz66_4:=blk_frozen BK117.out 4;have hfz66_5:=blk_frozen BK117.out 5;go_wp2_with (first|((with_reducible refine gate_dst (N:=88) rfl ?_);(try(refine gate_guard (by rfl) ?_;dsimp only));refine Kd.R_lit (Kd.int .i64) _ 3 ?hg (N:=88) ?hd (xs:=([wrap64 (t102+1),((rd_T29 t101 t102).f3)]:List Int)) (inner:=[.int .i64 (wrap64 (t102+1)),.int .i64 ((rd_T29 t101 t102).f3)]) (ok:=fun _=>True) (okp:=fun _=>True) ?hr ?hp (fun _ hk=>hk) trivial (Below.refl _ _) (Nat.le_refl _) (by simp) ?_;(case hd=>rfl);(case hg=>rfl);(case hr=>first|(go_simp;done)|(go_simp;rfl));(case hp=>exact(Reps.one (show Kd.M (Kd.int .i64) _ _ _ (wrap64 (t102+1)) [.int .i64 (wrap64 (t102+1))]from rfl) (Reps.one (show Kd.M (Kd.int .i64) _ _ _ ((rd_T29 t101 t102).f3) [.int .i64 ((rd_T29 t101 t102).f3)]from rfl) (Reps.none _ _))));intro v127 w67 ho68 hb hg_ hnew_;clear hg_ hnew_;(first|rw[←Ny126.out]at ho68|(simp only[Int.reduceToNat]at ho68;rw[←Ny126.out]at ho68));have n0_:=Aside0.mk (Kd.R_elder' (by exact rU HO_5.out) (Kd.R_base ho68) hb);have n1_:=Aside0.mk (Kd.R_lower (Kd.R_new' ho68 (Kd.R_lt (by exact rU HO_5.out))) (below_size (by repeat(with_reducible first|exact HB.out|apply bA|apply bN|apply b1|refine below_set ?_ GE117.out))));have n2_:=Aside0.mk (blk_below (g:=gb117) (o:=.cells #[.int .i64 ((rd_T29 t101 t102).f0),.int .i64 ((rd_T29 t101 t102).f1),.int .i64 ((rd_T29 t101 t102).f2),.int .i64 ((rd_T29 t101 t102).f3),.int .i64 ((rd_T29 t101 t102).f4.f0),.int .i64 ((rd_T29 t101 t102).f4.f1)] 29 (0,0)) (by exact blkU BK117.out) hb);have n3_:=Aside0.mk (below_step (by repeat(with_reducible first|exact HB.out|apply bA|apply bN|apply b1|refine below_set ?_ GE117.out)) hb);clear HO_5;clear BK117;clear HB;have HO_5:=n0_;have HO128:=n1_;have BK117:=n2_;have HB:=n3_;clear n0_ n1_ n2_ n3_;clear hb ho68;obtain⟨Ao69,co69,eo69⟩:=Kd.R_slice HO_5.out;subst eo69;obtain⟨Ao70,co70,eo70⟩:=Kd.R_slice HO128.out;subst eo70)|((with_reducible refine gate_callee (f:=49) rfl ?_);refine goesL_ (some 89) rfl rfl Try.func49 (by kernel_rfl) rfl #[.slice Ao69 t105.length co69,.slice Ao70 y126.length co70] rfl (by(try simp only[List.map_toArray,List.map_cons,List.map_nil])<;>rfl) ?_;(with_reducible refine(laws_lvInts.calls kj54 _ _ t105 _ _ y126 t129 _ ?side1 ?side2 ?side3 ?side4 A65.out).mono ?_);(case side1=>repeat(first|exact(Kd.R_reads' HO_5.out).2.2|(with_reducible refine Kd.C_alloc ?_ _)|(with_reducible refine Kd.C_drewN ?_ _)|(with_reducible refine Kd.C_drew ?_)));(case side2=>exact(Kd.R_reads' HO_5.out).2.1);(case side3=>repeat(first|exact(Kd.R_reads' HO128.out).2.2|(with_reducible refine Kd.C_alloc ?_ _)|(with_reducible refine Kd.C_drewN ?_ _)|(with_reducible refine Kd.C_drew ?_)));(case side4=>exact(Kd.R_reads' HO128.out).2.1);rintro e w' ⟨rfl,⟨nd,rfl⟩⟩;refine⟨_,rfl,?_⟩))
               go_ret
               exact⟨by first|rfl|(simp[errW_none,errW_some]<;>rfl)|(simp[*,errW_none,errW_some]<;>rfl),by repeat(with_reducible first|exact HB.out|apply bA|apply bN|apply b1|refine below_set ?_ GE117.out)⟩
           ·replace c54:=Bool.eq_false_iff.mpr c54
            subst c54;have H1:(if(wrap64 (t102+1))=(t101.length:Int)then(if(t105.length:Int)=0 then(some true)else((laws_lvInts.f kj48 t105 (([wrap64 (t102+1)]:List Int))).bind fun t133=>(some t133)))else((laws_lvInts.f kj48 t105 (([wrap64 (t102+1)]:List Int))).bind fun t137=>(some t137)))=some r:=by rw[if_neg (show¬(false=true) by decide)]at H;exact H
            clear H;have H:=H1;clear H1;by_cases c71:(wrap64 (t102+1))=(t101.length:Int)
            ·rw[if_pos c71]at H
             have c71b0:((wrap64 (t102+1))==(t101.length:Int))=true:=beq_iff_eq.mpr c71;have c71b1:((wrap64 (t102+1)) !=(t101.length:Int))=false:=bne_eq_false_iff_eq.mpr c71;clear c71;by_cases c72:(t105.length:Int)=0
             ·rw[if_pos c72]at H
              have c72b0:((t105.length:Int)==0)=true:=beq_iff_eq.mpr c72;have c72b1:((t105.length:Int) !=0)=false:=bne_eq_false_iff_eq.mpr c72;clear c72;obtain rfl:=Option.some.inj H;obtain⟨Ao73,co73,eo73⟩:=Kd.R_slice HO_5.out;subst eo73;go_wp2
              go_ret
              exact⟨by first|rfl|(simp[errW_none,errW_some]<;>rfl)|(simp[*,errW_none,errW_some]<;>rfl),by repeat(with_reducible first|exact HB.out|apply bA|apply bN|apply b1|refine below_set ?_ GE117.out)⟩
             ·rw[if_neg c72]at H
              have c72b0:((t105.length:Int)==0)=false:=beq_eq_false_iff_ne.mpr c72;have c72b1:((t105.length:Int) !=0)=true:=bne_iff_ne.mpr c72;have c72b2: ¬(t105=[]):=fun h_=>c72 (by rw[h_];rfl)
              obtain⟨y130,hy130⟩: ∃y_:List Int,y_=(([wrap64 (t102+1)]:List Int)):=⟨_,rfl⟩;replace H:((laws_lvInts.f kj48 t105 y130).bind fun t133=>(some t133))=some r:=by first|(rw[hy130];with_reducible exact H)|(have H2_:=(Option.bind_some _ _).symm.trans H;rw[hy130];with_reducible exact H2_)|(have H2_:=(Option.bind_some _ _).symm.trans H;with_reducible exact H2_)|with_reducible exact H|(rw[hy130];exact H)|exact H
              have Ny130:=Aside0.mk hy130;clear hy130;replace H:=Option.bind_eq_some_iff.mp H;obtain⟨t133,A740,H⟩:=H;replace H:(some t133)=some r:=H;have A74:=Aside0.mk A740;clear A740;obtain rfl:=Option.some.inj H;obtain⟨Ao75,co75,eo75⟩:=Kd.R_slice HO_5.out;subst eo75;go_wp2_with (first|((with_reducible refine gate_dst (N:=104) rfl ?_);(try(refine gate_guard (by rfl) ?_;dsimp only));refine Kd.R_lit (Kd.int .i64) _ 3 ?hg (N:=104) ?hd (xs:=([wrap64 (t102+1)]:List Int)) (inner:=[.int .i64 (wrap64 (t102+1))]) (ok:=fun _=>True) (okp:=fun _=>True) ?hr ?hp (fun _ hk=>hk) trivial (Below.refl _ _) (Nat.le_refl _) (by simp) ?_;(case hd=>rfl);(case hg=>rfl);(case hr=>first|(go_simp;done)|(go_simp;rfl));(case hp=>exact(Reps.one (show Kd.M (Kd.int .i64) _ _ _ (wrap64 (t102+1)) [.int .i64 (wrap64 (t102+1))]from rfl) (Reps.none _ _)));intro v131 w76 ho77 hb hg_ hnew_;clear hg_ hnew_;(first|rw[←Ny130.out]at ho77|(simp only[Int.reduceToNat]at ho77;rw[←Ny130.out]at ho77));have n0_:=Aside0.mk (Kd.R_below (by exact rU HO_3.out) hb);have n1_:=Aside0.mk (Kd.R_elder' (by exact rU HO_5.out) (Kd.R_base ho77) hb);have n2_:=Aside0.mk (Kd.R_lower (Kd.R_new' ho77 (Kd.R_lt (by exact rU HO_5.out))) (below_size (by repeat(with_reducible first|exact HB.out|apply bA|apply bN|apply b1|refine below_set ?_ GE117.out))));have n3_:=Aside0.mk (blk_below (g:=gb117) (o:=.cells #[.int .i64 ((rd_T29 t101 t102).f0),.int .i64 ((rd_T29 t101 t102).f1),.int .i64 ((rd_T29 t101 t102).f2),.int .i64 ((rd_T29 t101 t102).f3),.int .i64 ((rd_T29 t101 t102).f4.f0),.int .i64 ((rd_T29 t101 t102).f4.f1)] 29 (0,0)) (by exact blkU BK117.out) hb);have n4_:=Aside0.mk (below_step (by repeat(with_reducible first|exact HB.out|apply bA|apply bN|apply b1|refine below_set ?_ GE117.out)) hb);clear HO_3;clear HO_5;clear BK117;clear HB;have HO_3:=n0_;have HO_5:=n1_;have HO132:=n2_;have BK117:=n3_;have HB:=n4_;clear n0_ n1_ n2_ n3_ n4_;clear hb ho77;obtain⟨Ao78,co78,eo78⟩:=Kd.R_slice HO132.out;subst eo78)|(go_at_call 49;(with_reducible refine(laws_lvInts.calls kj48 _ _ t105 _ _ y130 t133 _ ?side1 ?side2 ?side3 ?side4 A74.out).mono ?_);(case side1=>repeat(first|exact(Kd.R_reads' HO_5.out).2.2|(with_reducible refine Kd.C_alloc ?_ _)|(with_reducible refine Kd.C_drewN ?_ _)|(with_reducible refine Kd.C_drew ?_)));(case side2=>exact(Kd.R_reads' HO_5.out).2.1);(case side3=>repeat(first|exact(Kd.R_reads' HO132.out).2.2|(with_reducible refine Kd.C_alloc ?_ _)|(with_reducible refine Kd.C_drewN ?_ _)|(with_reducible refine Kd.C_drew ?_)));(case side4=>exact(Kd.R_reads' HO132.out).2.1);rintro e w' ⟨rfl,⟨nd,rfl⟩⟩))
              go_ret
              exact⟨by first|rfl|(simp[errW_none,errW_some]<;>rfl)|(simp[*,errW_none,errW_some]<;>rfl),by repeat(with_reducible first|exact HB.out|apply bA|apply bN|apply b1|refine below_set ?_ GE117.out)⟩
            ·rw[if_neg c71]at H
             have c71b0:((wrap64 (t102+1))==(t101.length:Int))=false:=beq_eq_false_iff_ne.mpr c71;have c71b1:((wrap64 (t102+1)) !=(t101.length:Int))=true:=bne_iff_ne.mpr c71;obtain⟨y134,hy134⟩: ∃y_:List Int,y_=(([wrap64 (t102+1)]:List Int)):=⟨_,rfl⟩;replace H:((laws_lvInts.f kj48 t105 y134).bind fun t137=>(some t137))=some r:=by first|(rw[hy134];with_reducible exact H)|(have H2_:=(Option.bind_some _ _).symm.trans H;rw[hy134];with_reducible exact H2_)|(have H2_:=(Option.bind_some _ _).symm.trans H;with_reducible exact H2_)|with_reducible exact H|(rw[hy134];exact H)|exact H
             have Ny134:=Aside0.mk hy134;clear hy134;replace H:=Option.bind_eq_some_iff.mp H;obtain⟨t137,A790,H⟩:=H;replace H:(some t137)=some r:=H;have A79:=Aside0.mk A790;clear A790;obtain rfl:=Option.some.inj H;go_wp2_with (first|((with_reducible refine gate_dst (N:=104) rfl ?_);(try(refine gate_guard (by rfl) ?_;dsimp only));refine Kd.R_lit (Kd.int .i64) _ 3 ?hg (N:=104) ?hd (xs:=([wrap64 (t102+1)]:List Int)) (inner:=[.int .i64 (wrap64 (t102+1))]) (ok:=fun _=>True) (okp:=fun _=>True) ?hr ?hp (fun _ hk=>hk) trivial (Below.refl _ _) (Nat.le_refl _) (by simp) ?_;(case hd=>rfl);(case hg=>rfl);(case hr=>first|(go_simp;done)|(go_simp;rfl));(case hp=>exact(Reps.one (show Kd.M (Kd.int .i64) _ _ _ (wrap64 (t102+1)) [.int .i64 (wrap64 (t102+1))]from rfl) (Reps.none _ _)));intro v135 w80 ho81 hb hg_ hnew_;clear hg_ hnew_;(first|rw[←Ny134.out]at ho81|(simp only[Int.reduceToNat]at ho81;rw[←Ny134.out]at ho81));have n0_:=Aside0.mk (Kd.R_below (by exact rU HO_3.out) hb);have n1_:=Aside0.mk (Kd.R_elder' (by exact rU HO_5.out) (Kd.R_base ho81) hb);have n2_:=Aside0.mk (Kd.R_lower (Kd.R_new' ho81 (Kd.R_lt (by exact rU HO_5.out))) (below_size (by repeat(with_reducible first|exact HB.out|apply bA|apply bN|apply b1|refine below_set ?_ GE117.out))));have n3_:=Aside0.mk (blk_below (g:=gb117) (o:=.cells #[.int .i64 ((rd_T29 t101 t102).f0),.int .i64 ((rd_T29 t101 t102).f1),.int .i64 ((rd_T29 t101 t102).f2),.int .i64 ((rd_T29 t101 t102).f3),.int .i64 ((rd_T29 t101 t102).f4.f0),.int .i64 ((rd_T29 t101 t102).f4.f1)] 29 (0,0)) (by exact blkU BK117.out) hb);have n4_:=Aside0.mk (below_step (by repeat(with_reducible first|exact HB.out|apply bA|apply bN|apply b1|refine below_set ?_ GE117.out)) hb);clear HO_3;clear HO_5;clear BK117;clear HB;have HO_3:=n0_;have HO_5:=n1_;have HO136:=n2_;have BK117:=n3_;have HB:=n4_;clear n0_ n1_ n2_ n3_ n4_;clear hb ho81;obtain⟨Ao82,co82,eo82⟩:=Kd.R_slice HO_5.out;subst eo82;obtain⟨Ao83,co83,eo83⟩:=Kd.R_slice HO136.out;subst eo83)|(go_at_call 49;(with_reducible refine(laws_lvInts.calls kj48 _ _ t105 _ _ y134 t137 _ ?side1 ?side2 ?side3 ?side4 A79.out).mono ?_);(case side1=>repeat(first|exact(Kd.R_reads' HO_5.out).2.2|(with_reducible refine Kd.C_alloc ?_ _)|(with_reducible refine Kd.C_drewN ?_ _)|(with_reducible refine Kd.C_drew ?_)));(case side2=>exact(Kd.R_reads' HO_5.out).2.1);(case side3=>repeat(first|exact(Kd.R_reads' HO136.out).2.2|(with_reducible refine Kd.C_alloc ?_ _)|(with_reducible refine Kd.C_drewN ?_ _)|(with_reducible refine Kd.C_drew ?_)));(case side4=>exact(Kd.R_reads' HO136.out).2.1);rintro e w' ⟨rfl,⟨nd,rfl⟩⟩))
             go_ret
             exact⟨by first|rfl|(simp[errW_none,errW_some]<;>rfl)|(simp[*,errW_none,errW_some]<;>rfl),by repeat(with_reducible first|exact HB.out|apply bA|apply bN|apply b1|refine below_set ?_ GE117.out)⟩
      ·rw[if_neg c36]at H
       exact absurd H (by simp)
     ·rw[if_neg c35]at H
      exact absurd H (by simp)
def laws_FnNext.Pure:Prop:= ∀ (l0:List Int),l0.length≤maxLen→l0.length*1≤140737488351232→(∀x∈l0,(Lit.int .u8 x).wf=true)→ ∃k,laws_FnNext.f k l0=some true
theorem laws_FnNext.walk (P:laws_FnNext.Pure) (a0:Option Addr) (len0 cap0:Nat) (z0:List Int) (w:World) (w0:(a0=none∧len0=0∧cap0=0∧z0=[])∨ ∃x,a0=some x∧len0≤cap0∧cap0≤maxLen∧z0.length=cap0∧(∀i,i<z0.length→w.cell? (x.add i)=some (.int .u8 (z0.getD i 0)))∧ ∀n∈z0,(Lit.int .u8 n).wf=true) (y0:len0*1≤140737488351232):
  Calls Try.prog 16 #[.slice a0 len0 cap0] w fun e w'=>e= .returned (.bool true)∧Below w.heap.size w w':=by
 obtain⟨l0,rfl,hr0,hm0,hw0,hc0⟩:=ReadsInt.ofRowC w0;obtain⟨k,h⟩:=P l0 hm0 y0 hw0;refine(laws_FnNext.calls k _ _ l0 true w (Kd.C_of_reads (d:=(0:Int)) (h1:=fun _=>rfl) hr0) hc0 h).mono ?_
 rintro e w' ⟨rfl,hd⟩
 exact⟨rfl,hd⟩
end Go.Proofs.Ytmklpbmlgjkbiaa.PJD
end
section
namespace Go.Proofs.Ytmklpbmlgjkbiaa.Pure
open Go.RowKit Go.Proofs.Ytmklpbmlgjkbiaa.PJD Go.Proofs.Ytmklpbmlgjkbiaa.PS Go.Proofs.YtmklpbmlgjkbiaaW.PrintWords Go.Proofs.YtmklpbmlgjkbiaaW.PrintLast
theorem next_known {l:List S29} {i:Nat} (x:S29) (hx:rd_T29 l (i:Int)=x):
    onceL (waysL l i)=(if x.f0=9∨x.f0=14 then(if hasT x.f0=true then [x.f3]else [])else if(i:Int)+1<l.length then(if hasT x.f0=true∧x.f3≠(i:Int)+1 then [(i:Int)+1,x.f3]else [(i:Int)+1])else(if hasT x.f0=true then [x.f3]else [])):=by
  unfold waysL arrowsL onceL;rw[hx];have h5:x.f0=5→hasT x.f0=true:=fun h=>by rw[h];rfl
  by_cases e5:x.f0=5
  · have hT:=h5 e5
    rw[if_neg (c:=x.f0=9∨x.f0=14) (by omega),if_pos (c:=x.f0=5) e5,if_neg (c:=x.f0=9∨x.f0=14) (by omega),hT]
    by_cases hn:(i:Int)+1<l.length
    · by_cases he:x.f3=(i:Int)+1
      · simp[hn,he]
      · simp[hn,he]
    · simp[hn]
  · rw[if_neg (c:=x.f0=5) e5]
    by_cases hT:hasT x.f0=true
    · by_cases h9:x.f0=9∨x.f0=14
      · simp[h9,hT]
      · by_cases hn:(i:Int)+1<l.length
        · by_cases he:x.f3=(i:Int)+1
          · simp[h9,hT,hn,he]
          · simp[h9,hT,hn,he]
        · simp[h9,hT,hn]
    · by_cases h9:x.f0=9∨x.f0=14
      · simp[h9,hT]
      · by_cases hn:(i:Int)+1<l.length<;>simp[h9,hT,hn]
theorem nx_ev {l:List S29} (hc:codeB l=true) {i:Nat} (hi:i<l.length):Ev (fun k=>laws_FnNext.j0 k l (i:Int) (onceL (waysL l i)) false) true:=by
  obtain⟨g1,g2⟩:=code_len hc;obtain⟨x,hx⟩: ∃x,x=rd_T29 l (i:Int):=⟨_,rfl⟩;have hop:=(code_op hc hi).1;rw[←rd29_get hi,←hx]at hop
  have hk:=hop.1;have hw:wrap64 ((i:Int)+1)=(i:Int)+1:=w64 (by omega) (by omega)
  have hnx:=next_known x hx.symm (l:=l) (i:=i);have same: ∀L:List Int,L.length≤100→Ev (fun k=>(laws_lvInts.f k L L).bind fun t=>some t) true:=fun L hL=>Ev.bind (lvInts_same L (by omega)) (Ev.now _)
  have j0: ∀ {g:Nat→Option Bool},(∀k,laws_FnNext.j0 (k+1) l (i:Int) (onceL (waysL l i)) false=g k)→Ev g true→Ev (fun k=>laws_FnNext.j0 k l (i:Int) (onceL (waysL l i)) false) true:=fun h k=>Ev.step h k
  by_cases h14:x.f0=14
  · rw[if_pos (.inr h14),if_neg (by rw[h14];decide)]at hnx
    refine j0 (g:=fun k=>some true) (fun k=> ?_) (Ev.now _)
    simp only[laws_FnNext.j0,Bool.false_eq_true,if_false,hnx]
    rw[if_pos (by omega),if_pos (by omega),←hx,if_pos h14];rfl
  by_cases h9:x.f0=9
  · rw[if_pos (.inl h9),if_pos (by rw[h9];rfl)]at hnx
    refine j0 (fun k=> ?_) (same [x.f3] (by simp))
    simp only[laws_FnNext.j0,Bool.false_eq_true,if_false,hnx]
    rw[if_pos (by omega),if_pos (by omega),←hx,if_neg h14,if_pos h9]
  rw[if_neg (by omega)]at hnx
  have j1T:hasT x.f0=true→Ev (fun k=>laws_FnNext.j1 k l (i:Int) (onceL (waysL l i)) true x.f0 x.f1 x.f2 x.f3 x.f4.f0 x.f4.f1) true:=fun hT=>by
    by_cases hn:(i:Int)+1=l.length
    · rw[if_neg (by omega),if_pos hT]at hnx
      refine Ev.step (fun k=> ?_) (Ev.step (g:=fun k=>laws_FnNext.j2 k (i:Int) (onceL (waysL l i)) true x.f0 x.f1 x.f2 x.f3 x.f4.f0 x.f4.f1) (fun k=> ?_) (same [x.f3] (by simp)))
      · simp only[laws_FnNext.j1,if_true,hw];rw[if_pos hn]
      · simp only[laws_FnNext.j2,if_true,hnx]
    · rw[if_pos (by omega)]at hnx
      by_cases he:x.f3=(i:Int)+1
      · rw[if_neg (by simp[he])]at hnx
        have hb:(x.f3==(i:Int)+1)=true:=by simp[he]
        refine Ev.step (fun k=> ?_) (Ev.step (g:=fun k=>laws_FnNext.j2 k (i:Int) (onceL (waysL l i)) true x.f0 x.f1 x.f2 x.f3 x.f4.f0 x.f4.f1) (fun k=> ?_) (same [(i:Int)+1] (by simp)))
        · simp only[laws_FnNext.j1,if_true,hw,hb];rw[if_neg hn]
        · simp only[laws_FnNext.j2,if_true,hnx,he]
      · rw[if_pos ⟨hT,he⟩]at hnx
        have hb:(x.f3==(i:Int)+1)=false:=by simp[he]
        refine Ev.step (fun k=> ?_) (Ev.step (g:=fun k=>laws_FnNext.j2 k (i:Int) (onceL (waysL l i)) false x.f0 x.f1 x.f2 x.f3 x.f4.f0 x.f4.f1) (fun k=> ?_) (same [(i:Int)+1,x.f3] (by simp)))
        · simp only[laws_FnNext.j1,if_true,hw,hb];rw[if_neg hn]
        · simp only[laws_FnNext.j2,Bool.false_eq_true,if_false,hnx,hw]
  have j1F:hasT x.f0≠true→Ev (fun k=>laws_FnNext.j1 k l (i:Int) (onceL (waysL l i)) false x.f0 x.f1 x.f2 x.f3 x.f4.f0 x.f4.f1) true:=fun hT=>by
    by_cases hn:(i:Int)+1=l.length
    · rw[if_neg (by omega),if_neg hT]at hnx
      refine Ev.step (f:=fun k=>some true) (fun k=> ?_) (Ev.now _)
      simp only[laws_FnNext.j1,Bool.false_eq_true,if_false,hw,hnx];rw[if_pos hn];rfl
    · rw[if_pos (by omega),if_neg (fun h=>hT h.1)]at hnx
      refine Ev.step (fun k=> ?_) (same [(i:Int)+1] (by simp))
      simp only[laws_FnNext.j1,Bool.false_eq_true,if_false,hw,hnx];rw[if_neg hn]
  by_cases h10:x.f0=10
  · have hb:(x.f0==10)=true:=by simp[h10]
    refine j0 (fun k=> ?_) (j1T (by rw[h10];rfl))
    simp only[laws_FnNext.j0,Bool.false_eq_true,if_false]
    rw[if_pos (by omega),if_pos (by omega),←hx,if_neg h14,if_neg h9,if_pos h10,hb]
  by_cases h8:x.f0=8
  · have hb:(x.f0==8)=true:=by simp[h8]
    refine j0 (fun k=> ?_) (j1T (by rw[h8];rfl))
    simp only[laws_FnNext.j0,Bool.false_eq_true,if_false]
    rw[if_pos (by omega),if_pos (by omega),←hx,if_neg h14,if_neg h9,if_neg h10,if_pos h8,hb]
  by_cases h5:x.f0=5
  · have hb:(x.f0==5)=true:=by simp[h5]
    refine j0 (fun k=> ?_) (j1T (by rw[h5];rfl))
    simp only[laws_FnNext.j0,Bool.false_eq_true,if_false]
    rw[if_pos (by omega),if_pos (by omega),←hx,if_neg h14,if_neg h9,if_neg h10,if_neg h8,hb]
  · have hb:(x.f0==5)=false:=by simp[h5]
    have hT:hasT x.f0≠true:=by
      unfold hasT;simp;omega
    refine j0 (fun k=> ?_) (j1F hT)
    simp only[laws_FnNext.j0,Bool.false_eq_true,if_false]
    rw[if_pos (by omega),if_pos (by omega),←hx,if_neg h14,if_neg h9,if_neg h10,if_neg h8,hb]
theorem FnNext:laws_FnNext.Pure:=by
  intro l0 hm hr hw;refine Ev.rounds ?_
  unfold laws_FnNext.f;by_cases hl:(l0.length:Int)>1048576
  · simp only[if_pos hl];exact Ev.now _
  simp only[if_neg hl]
  obtain⟨c,a,hc,hcl,ha,ha2⟩:=drawNext_ev hw;refine Ev.bind hc ?_
  obtain⟨r,hr'⟩: ∃r,nextV.f c a=some r:=⟨_,rfl⟩
  have hrl:r.length≤2:=by
    have h:=Option.some.inj hr';subst h;split
    · exact once_len2 _ _
    · simp
  simp only[hr',Option.bind_some]
  refine Ev.bind (lvInts_same _ (by omega)) ?_
  simp only[if_true]
  have no:Ev (fun k=>laws_FnNext.j0 k c a r true) true:=by
    refine Ev.step (f:=fun k=>(laws_lvInts.f k r r).bind fun t115=>some t115) (fun k=> ?_) (Ev.bind (lvInts_same _ (by omega)) (Ev.now _))
    simp only[laws_FnNext.j0,if_true,hr',Option.bind_some]
  unfold codeV.f;simp only[Option.bind_some]
  by_cases hk:codeB c=true
  · simp only[if_pos hk]
    by_cases h0:a<0
    · simp only[if_pos h0];exact no
    · simp only[if_neg h0]
      by_cases h1:a≥(c.length:Int)
      · rw[decide_eq_true h1];exact no
      · rw[decide_eq_false h1]
        obtain⟨i,rfl⟩:=Int.eq_ofNat_of_zero_le (show 0≤a by omega)
        have e:r=onceL (waysL c i):=by
          have h:=Option.some.inj hr';rw[if_pos ⟨hk,by omega,by omega⟩]at h
          exact h.symm
        rw[e];exact nx_ev hk (by omega)
  · simp only[if_neg hk];exact no
end Go.Proofs.Ytmklpbmlgjkbiaa.Pure
end
