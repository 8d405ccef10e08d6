/- What the rows of JE rest on, part 2. -/
import Derived.Test.YtmklpbmlgjkbiaaProg
import Derived.OrdersHeld
import Derived.Laws.BitsLemmas
import Derived.Laws.StructEq
import Derived.Deep.RegionWith
import Derived.Lib.Bytealg
import Derived.Shelf.Strings.Search3
import Derived.WalkSpells
import Derived.Lib.OthersKept
import Derived.Lib.Hide
import Derived.WalkSmall
import Derived.Laws.EntriesVeiled
import Derived.RegionTactic
import Derived.Test.YtmklpbmlgjkbiaaQJE0
set_option linter.unusedVariables false
set_option linter.unusedSimpArgs false
set_option maxHeartbeats 8000000
set_option maxRecDepth 100000
section
namespace Go.Proofs.Ytmklpbmlgjkbiaa.PS
open Go.RowKit Go.Proofs.YtmklpbmlgjkbiaaW.PrintWords Go.Proofs.YtmklpbmlgjkbiaaW.PrintLast
def NumAt (x:Int) (l:List Int) (i:Int):Prop:=(0≤i∧x∈l)∨(i= -1∧ ¬x∈l)
theorem num_no {x:Int} {l:List Int} (h: ∀j,j<l.length→rd l (j:Nat)≠x):NumAt x l (-1):=by
  refine .inr ⟨rfl,fun hx=> ?_⟩
  obtain⟨j,hj,e⟩:=List.mem_iff_getElem.1 hx;exact h j hj (by rw[rdn_at l j hj];exact e)
theorem index_num (x:Int) (A0:Option Addr) (c0:Nat) (l0:List Int) (w:World) (hr0:Kd.C (Kd.int .i64) w A0 l0.length l0):
    Calls Try.prog 97 #[.slice A0 l0.length c0,.int .i64 x] w fun e w'=> ∃i,e= .returned (.int .i64 i)∧NumAt x l0 i∧Below w.heap.size w w':=by
  have hm:=Kd.C_max hr0;have HR0:=Aside0.mk hr0;clear hr0;go_enter Try.func97,Try.ntmps97
  go_wp2
  go_loopg [5,8] l0.length (fun gg _ s8 wr=> ∃kk:Nat,kk≤l0.length∧l0.length-kk≤gg∧s8= .int .i64 kk∧Aside (Below w.heap.size w wr)∧Aside (∀j,j<kk→rd l0 (j:Nat)≠x))
  case atStart=>exact⟨0,Nat.zero_le _,by omega,rfl,Below.refl _ w,fun j hj=>absurd hj (Nat.not_lt_zero _)⟩
  case round=>
    obtain⟨kk,hkk,hgg,rfl,BW,A⟩:=hrel;by_cases hlt:kk<l0.length
    · have hltz:(kk:Int)<(l0.length:Int):=by omega
      have h0z:0≤(kk:Int):=by omega
      obtain⟨ad,e,x0⟩:=Kd.at_int HR0.out (kk:Int) h0z hltz;subst e;rw[Int.toNat_natCast]at x0
      replace x0:=(BW.out.cell (World.block_lt_of_cell? w _ x0)).trans x0;obtain⟨y,hy0⟩: ∃y,y=rd l0 (kk:Int):=⟨_,rfl⟩;rw[←hy0]at x0
      have hy:=Aside0.mk hy0;clear hy0;by_cases hq:x=y
      · have hq1:(x==y)=true:=by simpa using hq
        go_wp2
        go_ret
        exact⟨_,rfl,.inl ⟨h0z,by rw[hq,hy.out,rdn_at l0 kk hlt];exact List.getElem_mem hlt⟩,BW.out⟩
      · have hq1:(x==y)=false:=by simpa using hq
        go_wp2
        go_roundg (l0.length- (kk+1))
        case measure=>omega
        case rel=>
          refine⟨kk+1,by omega,by omega,by go_num,BW,(show Aside _ from fun j hj=> ?_)⟩
          by_cases e:j=kk
          · subst e
            rw[←hy.out];exact fun e=>hq e.symm
          · exact A.out j (by omega)
    · have hltz: ¬(kk:Int)<(l0.length:Int):=by omega
      have:kk=l0.length:=by omega
      subst this;go_wp2
      go_ret
      exact⟨_,rfl,num_no A.out,BW.out⟩
theorem contains_num (x:Int) (A0:Option Addr) (c0:Nat) (l0:List Int) (w:World) (hr0:Kd.C (Kd.int .i64) w A0 l0.length l0):
    Calls Try.prog 78 #[.slice A0 l0.length c0,.int .i64 x] w fun e w'=>e= .returned (.bool (decide (x∈l0)))∧Below w.heap.size w w':=by
  have hx:=index_num x A0 c0 l0 w hr0;clear hr0;go_enter Try.func78,Try.ntmps78
  go_wp2_with (go_at_call 97;refine hx.mono ?_;rintro e w' ⟨i,rfl,hi,hb⟩)
  go_ret
  refine⟨?_,hb⟩
  rcases hi with ⟨h0,h1⟩|⟨rfl,h1⟩
  · rw[decide_eq_true h1];simp[h0]
  · rw[decide_eq_false h1];rfl
def nextV.f (l:List S29) (at_:Int):Option (List Int):=some (if codeB l=true∧0≤at_∧at_<l.length then onceL (waysL l at_.toNat)else [])
theorem next_no (A0:Option Addr) (c0:Nat) (l0:List S29) (a1:Int) (w:World) (hr0:Kd.C k29 w A0 l0.length l0) (hc0:l0.length≤c0) (h: ¬(codeB l0=true∧0≤a1∧a1<l0.length)):
    Calls Try.prog 39 #[.slice A0 l0.length c0,.int .i64 a1] w fun e w'=>e= .returned (.slice none 0 0)∧Below w.heap.size w w':=by
  have hm:=Kd.C_max hr0;have hOk:=impl_CodeOk.calls A0 c0 l0 (codeB l0) w hr0 hc0 rfl;clear hr0;cases hg:codeB l0 with
  |false=>
    rw[hg]at hOk
    clear h hg;go_enter Try.func39,Try.ntmps39
    go_wp2_with (first|(go_at_call 35;refine hOk.mono ?_;rintro e w' ⟨rfl,hb⟩))
    go_ret
    exact⟨rfl,hb⟩
  |true=>
    rw[hg]at hOk
    have b:decide (0≤a1∧a1≤(l0.length:Int)-1)=false:=decide_eq_false (fun k=>h ⟨hg,k.1,by omega⟩)
    clear h hg;go_enter Try.func39,Try.ntmps39
    go_wp2_with (first|(go_at_call 35;refine hOk.mono ?_;rintro e w' ⟨rfl,hb⟩)|(go_at_call 65;refine(in_any _ _ _ _).mono ?_;rintro e w'2 ⟨rfl,rfl⟩))
    go_ret
    exact⟨rfl,hb⟩
def NextRel (w w1:World) (L:List (Int×Fl)) (j:Nat) (v:Value) (wr:World):Prop:=
  Kd.R (Kd.int .i64) 3 wr w1.heap.size (fun _=>True) v (onceL (L.take j))∧Below w1.heap.size w1 wr
theorem next_yes (A0:Option Addr) (c0:Nat) (l0:List S29) (i:Nat) (w:World) (hr0:Kd.C k29 w A0 l0.length l0) (hc0:l0.length≤c0) (hg:codeB l0=true) (hi:i<l0.length):
    Calls Try.prog 39 #[.slice A0 l0.length c0,.int .i64 i] w fun e w'=> ∃v,e= .returned v∧Kd.R (Kd.int .i64) 3 w' w.heap.size (fun _=>True) v (onceL (waysL l0 i))∧Below w.heap.size w w':=by
  have hl:l0.length≤16:=by
    unfold codeB at hg;simp at hg;exact hg.1.2
  have hOk:=impl_CodeOk.calls A0 c0 l0 true w hr0 hc0 (by rw[←hg];rfl)
  have hAr:=fun W (hb:Below w.heap.size w W)=>impl_arrows A0 c0 l0 i W (Kd.C_below hr0 hb) hi hl
  have b:decide (0≤(i:Int)∧(i:Int)≤(l0.length:Int)-1)=true:=decide_eq_true (by omega)
  have b2:decide ((i:Int)≤(l0.length:Int)-1)=true:=decide_eq_true (by omega)
  have h2:=ways_two l0 i;generalize waysL l0 i=L at hAr h2⊢
  clear hr0 hg;go_enter Try.func39,Try.ntmps39
  go_wp2_with (first|(go_at_call 35;refine hOk.mono ?_;rintro e w' ⟨rfl,hb⟩;have HB:=Aside0.mk hb;clear hb)|(go_at_call 65;refine(in_any _ _ _ _).mono ?_;rintro e w'2 ⟨rfl,rfl⟩)|(go_at_call 77;refine(hAr _ HB.out).mono ?_;rintro e w1 ⟨v,rfl,hown,hbox,hb1⟩;obtain⟨A,c,rfl,hA,hcells⟩:=way_at hown))
  go_loopg [5,23] L.length (fun gg s5 s23 wr=> ∃j:Nat,j≤L.length∧L.length-j≤gg∧s23= .int .i64 j∧Aside0 (NextRel w w1 L j s5 wr))
  case atStart=>exact⟨0,Nat.zero_le _,by omega,rfl,⟨Kd.R_nil _ _ _ _ _,Below.refl _ _⟩⟩
  case round=>
    obtain⟨j,hj,hgg,rfl,hR⟩:=hrel;by_cases hlt:j<L.length
    · have hltz:(j:Int)<(L.length:Int):=by omega
      have h0z:(0:Int)≤(j:Int):=by omega
      obtain⟨g,rfl,hg1,hg2,y0,y1⟩:=hcells j hlt;obtain⟨k1,k2⟩:=hR.out;replace y0:=(k2.cell (World.block_lt_of_cell? w1 _ y0)).trans y0;replace y1:=(k2.cell (World.block_lt_of_cell? w1 _ y1)).trans y1;have hstep:=Aside0.mk (once_snoc L j hlt);obtain⟨to_,hto⟩: ∃x,x=L[j].1:=⟨_,rfl⟩;obtain⟨ff,lb,hfn⟩:=val_func w'.heap.size L[j].2;rw[←hto]at y0 hstep
      rw[hfn]at y1
      have hlen:=once_len L j;obtain⟨out,hout⟩: ∃x,x=onceL (L.take j):=⟨_,rfl⟩;rw[←hout]at hstep k1 hlen
      have K2:=Aside0.mk k2;obtain⟨A5,c5,rfl⟩:=Kd.R_slice k1;have K1:=Aside0.mk k1;clear k1 k2 hR hto hfn hout hcells hA hown hAr hOk hbox;by_cases hq:to_∈out
      · have hq1:decide (to_∈out)=true:=decide_eq_true hq
        go_wp2_with (first|(go_at_call 78;refine(contains_num _ _ _ _ _ ?hc).mono ?_;(case hc=>exact Kd.C_below (Kd.R_reads' K1.out).2.2 (below_alloc (Below.refl _ _) _));rintro e w'3 ⟨rfl,hb⟩;have hx:=blk_below (blk_new wr (.cells #[.int .i64 to_,.func (.func ff) #[] lb] 77)) hb;have z0:w'3.cell? ⟨wr.heap.size,0,none⟩=some (.int .i64 to_):=(blk_cell hx 0).trans rfl;have hbw:=Aside0.mk (below_step (below_alloc (Below.refl wr.heap.size wr) _) hb);clear hx hb))
        go_roundg (L.length- (j+1))
        case measure=>omega
        case rel=>exact⟨j+1,by omega,by omega,by go_num,⟨by rw[hstep.out,if_pos hq];exact Kd.R_below K1.out hbw.out,below_step K2.out hbw.out⟩⟩
      · have hq1:decide (to_∈out)=false:=decide_eq_false hq
        obtain⟨i0,hi_,hz0,hz1,hz2⟩:=info_parts info3;have K3:=Aside0.mk (Kd.own_of_R K1.out);have hlen2:out.length≤2:=by omega
        go_wp2_with (first|(go_at_call 78;refine(contains_num _ _ _ _ _ ?hc).mono ?_;(case hc=>exact Kd.C_below (Kd.R_reads' K1.out).2.2 (below_alloc (Below.refl _ _) _));rintro e w'3 ⟨rfl,hb⟩;have hx:=blk_below (blk_new wr (.cells #[.int .i64 to_,.func (.func ff) #[] lb] 77)) hb;have z0:w'3.cell? ⟨wr.heap.size,0,none⟩=some (.int .i64 to_):=(blk_cell hx 0).trans rfl;have hbw:=Aside0.mk (below_step (below_alloc (Below.refl wr.heap.size wr) _) hb);clear hx hb)|(at_builtin;refine wpList_append_own _ rfl _ _ 32 rfl w1.heap.size 3 i0 (.int .i64 0) 1 8 Try.underlying32 hi_ hz0 hz1 hz2 rfl (by decide) _ _ _ rfl ((own_below K3.out hbw.out).alloc _) ⟨_,0,none⟩ 1 1 [.int .i64 to_] rfl rfl (cell_one_new _ _ _) (by simp[Value.oneCell']) (by unfold maxLen;omega) (by omega) (by have:=K2.out.size;have:=hbw.out.size;simp;omega) ?_;intro v' w9 hown' hgrow _))
        go_roundg (L.length- (j+1))
        case measure=>omega
        case rel=>
          have hO:=own_below K3.out hbw.out;have hB9:=(below_alloc (below_step K2.out hbw.out) _).grown hgrow (below_alloc (below_step K2.out hbw.out) _).size (fun b hb=>own_base hO b hb)
          refine⟨j+1,by omega,by omega,by go_num,⟨?_,hB9⟩⟩
          rw[hstep.out,if_neg hq];refine Kd.R_of_own ?_ (fun _ _=>trivial)
          have e:encs (Value.int .i64) (out++ [to_])=encs (Value.int .i64) out++ [.int .i64 to_]:=by simp[encs]
          rw[e,List.length_append];exact hown'
    · have hltz: ¬(j:Int)<(L.length:Int):=by omega
      obtain rfl:j=L.length:=by omega
      go_wp2
      go_ret
      obtain⟨k1,k2⟩:=hR.out;rw[List.take_length]at k1
      exact⟨_,rfl,Kd.R_lower k1 (by have:=HB.out.size;have:=hb1.size;omega),below_step (below_step HB.out hb1) k2⟩
theorem impl_CodeNext.calls (A0:Option Addr) (c0:Nat) (l0:List (S29)) (a1:Int) (r:List Int) (w:World) (hr0:Kd.C k29 w A0 l0.length l0) (hc0:l0.length≤c0) (h:nextV.f l0 a1=some r):
    Calls Try.prog 39 #[.slice A0 l0.length c0,.int .i64 a1] w fun e w'=> ∃v0_:Value,e= .returned (v0_)∧Kd.R (Kd.int .i64) 3 w' w.heap.size (fun _=>True) v0_ r∧Below w.heap.size w w':=by
  have h:=Option.some.inj h;by_cases hc:codeB l0=true∧0≤a1∧a1<l0.length
  · rw[if_pos hc]at h
    subst h;obtain⟨i,rfl⟩:=Int.eq_ofNat_of_zero_le hc.2.1;exact next_yes A0 c0 l0 i w hr0 hc0 hc.1 (by omega)
  · rw[if_neg hc]at h
    subst h;refine(next_no A0 c0 l0 a1 w hr0 hc0 hc).mono ?_
    rintro e w' ⟨rfl,hb⟩
    exact⟨_,rfl,Kd.R_nil _ _ _ _ _,hb⟩
theorem spec_CodeOk_as.calls (A0:Option Addr) (c0:Nat) (l0:List (S29)) (r:Bool) (w:World) (hr0:Kd.C k29 w A0 l0.length l0) (hc0:l0.length≤c0) (h:codeV.f l0=some r):
    Calls Try.prog 33 #[.slice A0 l0.length c0] w fun e w'=>e= .returned (.bool r)∧Below w.heap.size w w':=
  spec_CodeOk.calls _ A0 c0 l0 r w hr0 hc0 ((scode_eq l0 (Kd.C_max hr0)).trans h)
end Go.Proofs.Ytmklpbmlgjkbiaa.PS
end
section
namespace Go.Proofs.Ytmklpbmlgjkbiaa.PS
open Go.RowKit Go.Proofs.YtmklpbmlgjkbiaaW.PrintWords Go.Proofs.YtmklpbmlgjkbiaaW.PrintLast Go.Proofs.YtmklpbmlgjkbiaaW.PrintMore
attribute [local go_sem] max2_int min2_int max_two min_two max_three min_three max_four min_four   -- for this text's walks alone
def spec_CodeNext.j0:Nat→List (S29)→Int→Bool→Option (List Int)
 |0,_,_,_=>none
 |k+1,x0,x1,x15=>if x15=true then(some (([]:List Int)))else((spec_l3Next.f k x0 x1).bind fun t314=>(some t314))
def spec_CodeNext.f (k:Nat) (l0:List (S29)) (a1:Int):Option (List Int):=(spec_CodeOk.f k l0).bind fun t309=>(if t309=true then((spec_l6In.f a1 0 (wrap64 ((l0.length:Int)-1))).bind fun t310=>(spec_CodeNext.j0 k l0 a1 (!t310)))else(spec_CodeNext.j0 k l0 a1 true))
theorem spec_CodeNext.calls (k:Nat) (A0:Option Addr) (c0:Nat) (l0:List (S29)) (a1:Int) (r:List Int) (w:World) (hr0:Kd.C k29 w A0 l0.length l0) (hc0:l0.length≤c0) (h:spec_CodeNext.f k l0 a1=some r):
  Calls Try.prog 38 #[.slice A0 l0.length c0,.int .i64 a1] w fun e w'=> ∃v0_:Value,e= .returned (v0_)∧Kd.R (Kd.int .i64) 3 w' w.heap.size (fun _=>True) v0_ r∧Below w.heap.size w w':=by
 have HR0:=Aside0.mk hr0;have HC0:=Aside0.mk hc0;clear hr0 hc0;have HB:=Aside0.mk (Below.refl w.heap.size w);have H:((spec_CodeOk.f k l0).bind fun t309=>(if t309=true then((spec_l6In.f a1 0 (wrap64 ((l0.length:Int)-1))).bind fun t310=>(spec_CodeNext.j0 k l0 a1 (!t310)))else(spec_CodeNext.j0 k l0 a1 true)))=some r:=h
 clear h;have HC3:=Aside0.mk H;clear H;go_enter Try.func38,Try.ntmps38
 go_upto_region 1 with (fail)
 go_cut [15] (fun v15 wc=> ∃ (kq:Nat) (x15_2:Bool),v15= .bool x15_2∧Aside0 (spec_CodeNext.j0 kq l0 a1 x15_2=some r)∧Aside0 (kq≤k)∧Aside0 (Below w.heap.size w wc))
 case first=>
  have H:=HC3.out;clear HC3;replace H:=Option.bind_eq_some_iff.mp H;obtain⟨t309,A40,H⟩:=H;replace H:(if t309=true then((spec_l6In.f a1 0 (wrap64 ((l0.length:Int)-1))).bind fun t310=>(spec_CodeNext.j0 k l0 a1 (!t310)))else(spec_CodeNext.j0 k l0 a1 true))=some r:=H
  have A4:=Aside0.mk A40;clear A40;by_cases c5:t309=true
  ·subst c5
   have H1:((spec_l6In.f a1 0 (wrap64 ((l0.length:Int)-1))).bind fun t310=>(spec_CodeNext.j0 k l0 a1 (!t310)))=some r:=by rw[if_pos rfl]at H;exact H
   clear H;have H:=H1;clear H1;replace H:=Option.bind_eq_some_iff.mp H;obtain⟨t310,A60,H⟩:=H;replace H:(spec_CodeNext.j0 k l0 a1 (!t310))=some r:=H;have A6:=Aside0.mk A60;clear A60;have H':=Aside0.mk H;clear H;go_wp2_with (first|((with_reducible refine gate_callee (f:=33) rfl ?_);refine goesL_ (some 6) rfl rfl Try.func33 (by kernel_rfl) rfl #[.slice A0 l0.length c0] rfl (by(try simp only[List.map_toArray,List.map_cons,List.map_nil])<;>rfl) ?_;(with_reducible refine(spec_CodeOk.calls k _ _ l0 true _ ?side1 ?side2 A4.out).mono ?_);(case side1=>repeat(first|exact(Kd.C_below HR0.out HB.out)|(with_reducible refine Kd.C_alloc ?_ _)|(with_reducible refine Kd.C_drewN ?_ _)|(with_reducible refine Kd.C_drew ?_)));(case side2=>exact HC0.out);rintro e w7 ⟨rfl,hb⟩;refine⟨_,rfl,?_⟩;replace HB:=Aside0.mk (below_step (by exact bU HB.out) hb);(try clear hb);(try clear hb2);(try clear hk);(try clear hi))|(go_at_call 59;(with_reducible refine(spec_l6In.calls a1 0 (wrap64 ((l0.length:Int)-1)) t310 _ A6.out).mono ?_);rintro e w' ⟨rfl,⟨nd,rfl⟩⟩))
   go_meet
   case rel=>exact⟨_,(!t310),(by first|rfl|(simp;done)|(simp[*];done)),H',⟨by first|omega|exact Nat.le_refl _⟩,⟨by exact bU HB.out⟩⟩
  ·replace c5:=Bool.eq_false_iff.mpr c5
   subst c5;have H1:(spec_CodeNext.j0 k l0 a1 true)=some r:=by rw[if_neg (show¬(false=true) by decide)]at H;exact H
   clear H;have H:=H1;clear H1;have H':=Aside0.mk H;clear H;go_wp2_with (first|((with_reducible refine gate_callee (f:=33) rfl ?_);refine goesL_ (some 6) rfl rfl Try.func33 (by kernel_rfl) rfl #[.slice A0 l0.length c0] rfl (by(try simp only[List.map_toArray,List.map_cons,List.map_nil])<;>rfl) ?_;(with_reducible refine(spec_CodeOk.calls k _ _ l0 false _ ?side1 ?side2 A4.out).mono ?_);(case side1=>repeat(first|exact(Kd.C_below HR0.out HB.out)|(with_reducible refine Kd.C_alloc ?_ _)|(with_reducible refine Kd.C_drewN ?_ _)|(with_reducible refine Kd.C_drew ?_)));(case side2=>exact HC0.out);rintro e w8 ⟨rfl,hb⟩;refine⟨_,rfl,?_⟩;replace HB:=Aside0.mk (below_step (by exact bU HB.out) hb);(try clear hb);(try clear hb2);(try clear hk);(try clear hi)))
   go_meet
   case rel=>exact⟨_,(true),(by first|rfl|(simp;done)|(simp[*];done)),H',⟨by first|omega|exact Nat.le_refl _⟩,⟨by exact bU HB.out⟩⟩
 case rest=>
  clear HC3;(try clear p2);(try clear c3);(try clear c5);(try clear p6)
  obtain⟨kq,x15_2,rfl,HA,HJ2,HB⟩:=hcut;cases kq with
  |zero=>exact absurd HA.out (by simp[spec_CodeNext.j0])
  |succ kj2=>
   have H:=HA.out;clear HA;simp only[spec_CodeNext.j0]at H
   by_cases c9:x15_2=true
   ·subst c9
    have H1:(some (([]:List Int)))=some r:=by rw[if_pos rfl]at H;exact H
    clear H;have H:=H1;clear H1;obtain⟨y311,hy311⟩: ∃y_:List Int,y_=(([]:List Int)):=⟨_,rfl⟩;replace H:(some y311)=some r:=by first|(rw[hy311];with_reducible exact H)|(have H2_:=(Option.bind_some _ _).symm.trans H;rw[hy311];with_reducible exact H2_)|(have H2_:=(Option.bind_some _ _).symm.trans H;with_reducible exact H2_)|with_reducible exact H|(rw[hy311];exact H)|exact H
    have Ny311:=Aside0.mk hy311;clear hy311;obtain rfl:=Option.some.inj H;go_wp2_with (first|((with_reducible refine gate_dst (N:=16) rfl ?_);(try(refine gate_guard (by rfl) ?_;dsimp only));refine Kd.R_lit (Kd.int .i64) _ 3 ?hg (N:=16) ?hd (xs:=([]:List Int)) (inner:=[]) (ok:=fun _=>True) (okp:=fun _=>True) ?hr ?hp (fun _ hk=>hk) trivial (Below.refl _ _) (Nat.le_refl _) (by simp) ?_;(case hd=>rfl);(case hg=>rfl);(case hr=>first|(go_simp;done)|(go_simp;rfl));(case hp=>exact(Reps.none _ _));intro v312 w10 ho11 hb hg_ hnew_;clear hg_ hnew_;(first|rw[←Ny311.out]at ho11|(simp only[Int.reduceToNat]at ho11;rw[←Ny311.out]at ho11));have HO313:=Aside0.mk (Kd.R_lower ho11 (below_size (by exact bU HB.out)));replace HB:=Aside0.mk (below_step (by exact bU HB.out) hb);clear hb ho11))
    go_ret
    exact⟨_,by first|rfl|(simp[errW_none,errW_some]<;>rfl)|(simp[*,errW_none,errW_some]<;>rfl),by exact rU HO313.out,by exact bU HB.out⟩
   ·replace c9:=Bool.eq_false_iff.mpr c9
    subst c9;have H1:((spec_l3Next.f kj2 l0 a1).bind fun t314=>(some t314))=some r:=by rw[if_neg (show¬(false=true) by decide)]at H;exact H
    clear H;have H:=H1;clear H1;replace H:=Option.bind_eq_some_iff.mp H;obtain⟨t314,A120,H⟩:=H;replace H:(some t314)=some r:=H;have A12:=Aside0.mk A120;clear A120;obtain rfl:=Option.some.inj H;go_wp2_with (first|((with_reducible refine gate_callee (f:=76) rfl ?_);refine goesL_ (some 19) rfl rfl Try.func76 (by kernel_rfl) rfl #[.slice A0 l0.length c0,.int .i64 a1] rfl (by(try simp only[List.map_toArray,List.map_cons,List.map_nil])<;>rfl) ?_;(with_reducible refine(spec_l3Next.calls kj2 _ _ l0 a1 t314 _ ?side1 ?side2 A12.out).mono ?_);(case side1=>repeat(first|exact(Kd.C_below HR0.out HB.out)|(with_reducible refine Kd.C_alloc ?_ _)|(with_reducible refine Kd.C_drewN ?_ _)|(with_reducible refine Kd.C_drew ?_)));(case side2=>exact HC0.out);rintro e w13 ⟨v315,rfl,ho0,hb⟩;refine⟨_,rfl,?_⟩;have HO316:=Aside0.mk (Kd.R_lower ho0 (below_size (by exact bU HB.out)));replace HB:=Aside0.mk (below_step (by exact bU HB.out) hb);(try clear hb);(try clear hb2);(try clear hk);(try clear hi);(try clear ho0)))
    go_ret
    exact⟨_,by first|rfl|(simp[errW_none,errW_some]<;>rfl)|(simp[*,errW_none,errW_some]<;>rfl),by exact rU HO316.out,by exact bU HB.out⟩
end Go.Proofs.Ytmklpbmlgjkbiaa.PS
end
section
namespace Go.Proofs.Ytmklpbmlgjkbiaa.PS
open Go.RowKit Go.Proofs.YtmklpbmlgjkbiaaW.PrintWords Go.Proofs.YtmklpbmlgjkbiaaW.PrintLast
theorem leO_add' {α:Type} {f:Nat→Option α} (h: ∀k,LeO (f k) (f (k+1))) {a:α} {m:Nat} (e:f m=some a): ∀k,f (k+m)=some a
  |0=>by rw[Nat.zero_add];exact e
  |k+1=>by rw[Nat.add_right_comm];exact h _ _ (leO_add' h e k)
theorem in_at (a:Int) (n:Nat) (hn:n≤9223372036854775807):spec_l6In.f a 0 (wrap64 ((n:Int)-1))=some (decide (0≤a∧a<n)):=by
  rw[w64 (by omega) (by omega)]
  unfold spec_l6In.f;split
  · congr 1;exact decide_eq_decide.2 (by omega)
  · congr 1;symm;exact decide_eq_false (by omega)
theorem scodenext_eq (l:List S29) (a:Int) (hm:l.length≤9223372036854775807):spec_CodeNext.f (2*l.length+7) l a=nextV.f l a:=by
  unfold spec_CodeNext.f nextV.f;rw[show 2*l.length+7=6+(2*l.length+1) by omega,leO_add' (fun k=>spec_CodeOk.mono l k) (scode_eq l hm) 6]
  simp only[Option.bind_some,in_at a l.length hm]
  rw[show 6+(2*l.length+1)=(2*l.length+6)+1 by omega]
  have hj: ∀b,spec_CodeNext.j0 ((2*l.length+6)+1) l a b=if b=true then some []else(spec_l3Next.f (2*l.length+6) l a):=fun b=>by
    simp only[spec_CodeNext.j0]
    split
    · rfl
    · cases spec_l3Next.f (2*l.length+6) l a<;>rfl
  simp only[hj]
  by_cases hc:codeB l=true
  · rw[if_pos hc]
    by_cases h:0≤a∧a<l.length
    · rw[if_neg (by simp[h]),if_pos ⟨hc,h⟩]
      obtain⟨i,rfl⟩:=Int.eq_ofNat_of_zero_le h.1;have hl:l.length≤16:=by unfold codeB at hc;simp at hc;exact hc.1.2
      rw[leO_add' (fun k=>spec_l3Next.mono l (i:Int) k) (snext_eq l i (by omega) hl) (2*l.length)]
      rfl
    · rw[decide_eq_false h,if_pos (by rfl),if_neg (fun k=>h k.2)]
  · rw[if_neg hc,if_neg (c:=codeB l=true∧0≤a∧a<(l.length:Int)) (fun k=>hc k.1)];rfl
theorem spec_CodeNext_as.calls (A0:Option Addr) (c0:Nat) (l0:List (S29)) (a1:Int) (r:List Int) (w:World) (hr0:Kd.C k29 w A0 l0.length l0) (hc0:l0.length≤c0) (h:nextV.f l0 a1=some r):
    Calls Try.prog 38 #[.slice A0 l0.length c0,.int .i64 a1] w fun e w'=> ∃v0_:Value,e= .returned (v0_)∧Kd.R (Kd.int .i64) 3 w' w.heap.size (fun _=>True) v0_ r∧Below w.heap.size w w':=
  spec_CodeNext.calls (2*l0.length+7) A0 c0 l0 a1 r w hr0 hc0 ((scodenext_eq l0 a1 (Kd.C_max hr0)).trans h)
end Go.Proofs.Ytmklpbmlgjkbiaa.PS
end
section
namespace Go.Proofs.Ytmklpbmlgjkbiaa.PS
open Go.RowKit Go.Proofs.YtmklpbmlgjkbiaaW.PrintWords Go.Proofs.YtmklpbmlgjkbiaaW.PrintLast Go.Proofs.YtmklpbmlgjkbiaaW.PrintMore
attribute [local go_sem] max2_int min2_int max_two min_two max_three min_three max_four min_four   -- for this text's walks alone
def spec_DrawCodeNext.f (k:Nat) (l0:List Int):Option ((List (S29))×Int):=(spec_l6Open.f l0).bind fun bt572=>((spec_l71Code.f k bt572.1 bt572.2).bind fun bt575=>((spec_l6Rd_pick.f k bt572.1 bt575.2 (wrap64 ((bt575.1.length:Int)+1))).bind fun bt579=>((spec_l6Rd_pick.f k bt572.1 bt579.2 24).bind fun bt581=>(some (bt575.1,wrap64 (bt579.1- (wrap64 ((wrap64 (Int.tdiv bt581.1 23))*3))))))))
theorem spec_DrawCodeNext.calls (k:Nat) (A0:Option Addr) (c0:Nat) (l0:List Int) (r1:List (S29)) (r2:Int) (w:World) (hr0:Kd.C (Kd.int .u8) w A0 l0.length l0) (hc0:l0.length≤c0) (h:spec_DrawCodeNext.f k l0=some (r1,r2)):
  Calls Try.prog 54 #[.slice A0 l0.length c0] w fun e w'=> ∃v0_:Value,e= .returned (.tuple #[v0_,.int .i64 r2])∧Kd.R k29 29 w' w.heap.size (fun _=>True) v0_ r1∧Below w.heap.size w w':=by
 have HR0:=Aside0.mk hr0;have HC0:=Aside0.mk hc0;clear hr0 hc0;have HB:=Aside0.mk (Below.refl w.heap.size w);have H:((spec_l6Open.f l0).bind fun bt572=>((spec_l71Code.f k bt572.1 bt572.2).bind fun bt575=>((spec_l6Rd_pick.f k bt572.1 bt575.2 (wrap64 ((bt575.1.length:Int)+1))).bind fun bt579=>((spec_l6Rd_pick.f k bt572.1 bt579.2 24).bind fun bt581=>(some (bt575.1,wrap64 (bt579.1- (wrap64 ((wrap64 (Int.tdiv bt581.1 23))*3)))))))))=some (r1,r2):=h
 clear h;replace H:=Option.bind_eq_some_iff.mp H;obtain⟨⟨t572,t573⟩,A20,H⟩:=H;replace H:((spec_l71Code.f k t572 t573).bind fun bt575=>((spec_l6Rd_pick.f k t572 bt575.2 (wrap64 ((bt575.1.length:Int)+1))).bind fun bt579=>((spec_l6Rd_pick.f k t572 bt579.2 24).bind fun bt581=>(some (bt575.1,wrap64 (bt579.1- (wrap64 ((wrap64 (Int.tdiv bt581.1 23))*3))))))))=some (r1,r2):=H
 have A2:=Aside0.mk A20;clear A20;replace H:=Option.bind_eq_some_iff.mp H;obtain⟨⟨t575,t578⟩,A30,H⟩:=H;replace H:((spec_l6Rd_pick.f k t572 t578 (wrap64 ((t575.length:Int)+1))).bind fun bt579=>((spec_l6Rd_pick.f k t572 bt579.2 24).bind fun bt581=>(some (t575,wrap64 (bt579.1- (wrap64 ((wrap64 (Int.tdiv bt581.1 23))*3)))))))=some (r1,r2):=H
 have A3:=Aside0.mk A30;clear A30;replace H:=Option.bind_eq_some_iff.mp H;obtain⟨⟨t579,t580⟩,A40,H⟩:=H;replace H:((spec_l6Rd_pick.f k t572 t580 24).bind fun bt581=>(some (t575,wrap64 (t579- (wrap64 ((wrap64 (Int.tdiv bt581.1 23))*3))))))=some (r1,r2):=H
 have A4:=Aside0.mk A40;clear A40;replace H:=Option.bind_eq_some_iff.mp H;obtain⟨⟨t581,t582⟩,A50,H⟩:=H;replace H:(some (t575,wrap64 (t579- (wrap64 ((wrap64 (Int.tdiv t581 23))*3)))))=some (r1,r2):=H;have A5:=Aside0.mk A50;clear A50;simp only[Option.some.injEq,Prod.mk.injEq]at H
 obtain⟨rfl,rfl⟩:=H;go_enter Try.func54,Try.ntmps54
 go_wp2_with (first|((with_reducible refine gate_callee (f:=69) rfl ?_);refine goesL_ (some 7) rfl rfl Try.func69 (by kernel_rfl) rfl #[.slice A0 l0.length c0] rfl (by(try simp only[List.map_toArray,List.map_cons,List.map_nil]);first|done|rfl|(simp only[List.length_drop,List.length_take];rfl)) ?_;(with_reducible refine(spec_l6Open.calls _ _ l0 t572 t573 w _ ?side1 ?side2 ?side3 A2.out).mono ?_);(case side1=>exact bU HB.out);(case side2=>exact HR0.out);(case side3=>exact HC0.out);rintro e w6 ⟨g574,rfl,hi,hb,hb2⟩;refine⟨_,rfl,?_⟩;replace HB:=Aside0.mk (hb);have HI574:=Aside0.mk (hi);(try clear hb);(try clear hb2);(try clear hk);(try clear hi))|((with_reducible refine gate_callee (f:=85) rfl ?_);refine goesL_ (some 9) rfl rfl Try.func85 (by kernel_rfl) rfl #[.pointer (some ⟨g574,0,none⟩)] rfl (by(try simp only[List.map_toArray,List.map_cons,List.map_nil]);first|done|rfl|(simp only[List.length_drop,List.length_take];rfl)) ?_;(with_reducible refine(spec_l71Code.calls k g574 t572 t573 t575 t578 w _ ?side1 ?side2 A3.out).mono ?_);(case side1=>repeat(with_reducible first|exact HI574.out|apply sA|apply sN|apply sD|apply sS));(case side2=>repeat(with_reducible first|exact HB.out|apply bA|apply bN|apply b1|refine below_set ?_ (IsS84.ge HI574.out)));rintro e w7 ⟨v576,rfl,ho0,hi,hb,hk⟩;refine⟨_,rfl,?_⟩;have HO577:=Aside0.mk (Kd.R_lower ho0 (below_size (by repeat(with_reducible first|exact HB.out|apply bA|apply bN|apply b1|refine below_set ?_ (IsS84.ge HI574.out)))));replace HB:=Aside0.mk (hb);replace HI574:=Aside0.mk (hi);(try clear hb);(try clear hb2);(try clear hk);(try clear hi);(try clear ho0);obtain⟨Ao8,co8,eo8⟩:=Kd.R_slice HO577.out;subst eo8)|((with_reducible refine gate_callee (f:=71) rfl ?_);refine goesL_ (some 15) rfl rfl Try.func71 (by kernel_rfl) rfl #[.pointer (some ⟨g574,0,none⟩),.int .i64 (wrap64 ((t575.length:Int)+1))] rfl (by(try simp only[List.map_toArray,List.map_cons,List.map_nil]);first|done|rfl|(simp only[List.length_drop,List.length_take];rfl)) ?_;(with_reducible refine(spec_l6Rd_pick.calls k g574 t572 t578 (wrap64 ((t575.length:Int)+1)) t579 t580 w _ ?side1 ?side2 A4.out).mono ?_);(case side1=>repeat(with_reducible first|exact HI574.out|apply sA|apply sN|apply sD|apply sS));(case side2=>repeat(with_reducible first|exact HB.out|apply bA|apply bN|apply b1|refine below_set ?_ (IsS84.ge HI574.out)));rintro e w9 ⟨rfl,hi,hb,hk⟩;refine⟨_,rfl,?_⟩;replace HO577:=Aside0.mk (Kd.R_mono (Kd.R_keep (IsS84.apart (show IsS84 w _ g574 t572 t578 from by repeat(with_reducible first|exact HI574.out|apply sA|apply sN|apply sD|apply sS)) (by exact rU HO577.out) (by decide)) hk (fun _ h=>h.2)) (fun _ h=>h.1));replace HB:=Aside0.mk (hb);replace HI574:=Aside0.mk (hi);(try clear hb);(try clear hb2);(try clear hk);(try clear hi))|((with_reducible refine gate_callee (f:=71) rfl ?_);refine goesL_ (some 17) rfl rfl Try.func71 (by kernel_rfl) rfl #[.pointer (some ⟨g574,0,none⟩),.int .i64 24] rfl (by(try simp only[List.map_toArray,List.map_cons,List.map_nil]);first|done|rfl|(simp only[List.length_drop,List.length_take];rfl)) ?_;(with_reducible refine(spec_l6Rd_pick.calls k g574 t572 t580 24 t581 t582 w _ ?side1 ?side2 A5.out).mono ?_);(case side1=>repeat(with_reducible first|exact HI574.out|apply sA|apply sN|apply sD|apply sS));(case side2=>repeat(with_reducible first|exact HB.out|apply bA|apply bN|apply b1|refine below_set ?_ (IsS84.ge HI574.out)));rintro e w10 ⟨rfl,hi,hb,hk⟩;refine⟨_,rfl,?_⟩;replace HO577:=Aside0.mk (Kd.R_mono (Kd.R_keep (IsS84.apart (show IsS84 w _ g574 t572 t580 from by repeat(with_reducible first|exact HI574.out|apply sA|apply sN|apply sD|apply sS)) (by exact rU HO577.out) (by decide)) hk (fun _ h=>h.2)) (fun _ h=>h.1));replace HB:=Aside0.mk (hb);replace HI574:=Aside0.mk (hi);(try clear hb);(try clear hb2);(try clear hk);(try clear hi)))
 go_ret2
 exact⟨_,by first|rfl|(simp[errW_none,errW_some]<;>rfl)|(simp[*,errW_none,errW_some]<;>rfl),by exact rU HO577.out,by repeat(with_reducible first|exact HB.out|apply bA|apply bN|apply b1|refine below_set ?_ (IsS84.ge HI574.out))⟩
def laws_lvAmong.l0:Nat→List Int→Int→Int→Option (Bool)
 |0,_,_,_=>none
 |k+1,x0,x1,x5=>if x5<(x0.length:Int)then(if 0≤x5 then(if(rd x0 x5)=x1 then(some true)else(laws_lvAmong.l0 k x0 x1 (wrap64 (x5+1))))else(none))else(some false)
def laws_lvAmong.f (k:Nat) (l0:List Int) (a1:Int):Option (Bool):=laws_lvAmong.l0 k l0 a1 0
theorem laws_lvAmong.calls (k:Nat) (A0:Option Addr) (c0:Nat) (l0:List Int) (a1:Int) (r:Bool) (w:World) (hr0:Kd.C (Kd.int .i64) w A0 l0.length l0) (hc0:l0.length≤c0) (h:laws_lvAmong.f k l0 a1=some r):
  Calls Try.prog 55 #[.slice A0 l0.length c0,.int .i64 a1] w fun e w'=>e= .returned (.bool r)∧Drawn0 w w':=by
 have HR0:=Aside0.mk hr0;have HC0:=Aside0.mk hc0;clear hr0 hc0;have H:(laws_lvAmong.l0 k l0 a1 0)=some r:=h;clear h;have H':=Aside0.mk H;clear H;go_enter Try.func55,Try.ntmps55
 go_wp2
 go_loopg [5] k (fun kq v5 w'=> ∃ (x5_1:Int),v5= .int .i64 x5_1∧Aside0 (laws_lvAmong.l0 kq l0 a1 x5_1=some r)∧Aside0 (kq≤k)∧Drawn0 w w')
 case atStart=>exact⟨(0),(by first|rfl|(simp;done)|(simp[*];done)),H',⟨Nat.le_refl _⟩,by repeat(first|exact Drawn0.refl _|apply Drawn0.step)⟩
 case round=>
  clear H';try clear p2
  obtain⟨x5_1,rfl,HA,HK1,⟨m1,rfl⟩⟩:=hrel;cases gk with
  |zero=>exact absurd HA.out (by simp[laws_lvAmong.l0])
  |succ k1=>
   have H:=HA.out;clear HA;simp only[laws_lvAmong.l0]at H
   by_cases c3:x5_1<(l0.length:Int)
   ·rw[if_pos c3]at H
    have c3b0:decide (x5_1<(l0.length:Int))=true:=decide_eq_true c3;clear c3;by_cases c4:0≤x5_1
    ·rw[if_pos c4]at H
     have c4b0:decide (0≤x5_1)=true:=decide_eq_true c4;clear c4;by_cases c5:(rd l0 x5_1)=a1
     ·rw[if_pos c5]at H
      have c5b0:((rd l0 x5_1)==a1)=true:=beq_iff_eq.mpr c5;have c5b1:((rd l0 x5_1) !=a1)=false:=bne_eq_false_iff_eq.mpr c5;clear c5;obtain rfl:=Option.some.inj H;have p583:0≤(x5_1:Int):=of_decide_eq_true (by assumption)
      have q583:x5_1<(l0.length:Int):=of_decide_eq_true (by assumption)
      obtain⟨ad583,e583,hx583_0⟩:=Kd.at_int HR0.out x5_1 p583 q583;cases e583
      replace p583:=eq_true p583;replace q583:=eq_true q583;go_wp2
      go_ret
      exact⟨by first|rfl|(simp;done)|(simp[*];done),by repeat(first|exact Drawn0.refl _|apply Drawn0.step)⟩
     ·rw[if_neg c5]at H
      have c5b0:((rd l0 x5_1)==a1)=false:=beq_eq_false_iff_ne.mpr c5;have c5b1:((rd l0 x5_1) !=a1)=true:=bne_iff_ne.mpr c5;have H':=Aside0.mk H;clear H;have p583:0≤(x5_1:Int):=of_decide_eq_true (by assumption)
      have q583:x5_1<(l0.length:Int):=of_decide_eq_true (by assumption)
      obtain⟨ad583,e583,hx583_0⟩:=Kd.at_int HR0.out x5_1 p583 q583;cases e583
      replace p583:=eq_true p583;replace q583:=eq_true q583;go_wp2
      go_roundg k1
      case measure=>have:=HK1.out;omega
      case rel=>exact⟨(wrap64 (x5_1+1)),(by first|rfl|(simp;done)|(simp[*];done)),H',⟨by have:=HK1.out;omega⟩,by repeat(first|exact Drawn0.refl _|apply Drawn0.step)⟩
    ·rw[if_neg c4]at H
     exact absurd H (by simp)
   ·rw[if_neg c3]at H
    have c3b0:decide (x5_1<(l0.length:Int))=false:=decide_eq_false c3;clear c3;obtain rfl:=Option.some.inj H;go_wp2
    go_ret
    exact⟨by first|rfl|(simp;done)|(simp[*];done),by repeat(first|exact Drawn0.refl _|apply Drawn0.step)⟩
end Go.Proofs.Ytmklpbmlgjkbiaa.PS
end
section
namespace Go.Proofs.Ytmklpbmlgjkbiaa.PS
open Go.RowKit Go.Proofs.YtmklpbmlgjkbiaaW.PrintWords Go.Proofs.YtmklpbmlgjkbiaaW.PrintLast
theorem drawNext_ev {l:List Int} (hw: ∀x∈l,(Lit.int .u8 x).wf=true): ∃c a,Ev (fun k=>spec_DrawCodeNext.f k l) (c,a)∧c.length≤17∧ -10≤a∧a≤20:=by
  obtain⟨b,hb,hB⟩:=open_ok hw;obtain⟨c,p,hc,hl,hp,hp2⟩:=code_ev hB 0 (by omega) (by omega)
  have e:wrap64 ((c.length:Int)+1)=(c.length:Int)+1:=w64 (by omega) (by omega)
  obtain⟨x,hx,x0,x1, -⟩:=pick_ev hB p ((c.length:Int)+1) (by omega) (by omega) (by omega)
  obtain⟨y,hy,y0,y1, -⟩:=pick_ev hB (p+1) 24 (by omega) (by omega) (by omega)
  have x1:=x1 (by omega)
  have y1:=y1 (by omega)
  have q:0≤Int.tdiv y 23∧Int.tdiv y 23≤1:=by rw[Int.tdiv_eq_ediv_of_nonneg y0];omega
  refine⟨c,wrap64 (x-wrap64 (wrap64 (Int.tdiv y 23)*3)),?_,hl,?_,?_⟩
  · unfold spec_DrawCodeNext.f
    rw[hb];simp only[Option.bind_some]
    refine Ev.bind hc ?_
    simp only[e]
    exact Ev.bind hx (Ev.bind hy (Ev.now _))
  · rw[w64 (x:=Int.tdiv y 23) (by omega) (by omega),w64 (x:=Int.tdiv y 23*3) (by omega) (by omega),w64 (by omega) (by omega)];omega
  · rw[w64 (x:=Int.tdiv y 23) (by omega) (by omega),w64 (x:=Int.tdiv y 23*3) (by omega) (by omega),w64 (by omega) (by omega)];omega
def addsL (L:List Int) (M:List Int):List Int:=M.foldl (fun L x=>if x∈L then L else L++ [x]) L
theorem adds_sub (M:List Int): ∀ (L:List Int),(∀x∈L,x∈addsL L M)∧(∀x∈M,x∈addsL L M)∧(∀x∈addsL L M,x∈L∨x∈M)∧(L.Nodup→(addsL L M).Nodup)∧(∃E,addsL L M=L++E):=by
  induction M with
  |nil=>intro L;exact⟨fun x h=>h,by simp,fun x h=>.inl h,fun h=>h,[],by simp[addsL]⟩
  |cons y M ih=>
    intro L;have e:addsL L (y::M)=addsL (if y∈L then L else L++ [y]) M:=rfl
    rw[e];obtain⟨a,b,c,d,E,hE⟩:=ih (if y∈L then L else L++ [y])
    by_cases h:y∈L
    · simp only[if_pos h]at a b c d hE⊢
      refine⟨a,?_,?_,d,E,hE⟩
      · intro x hx
        rcases List.mem_cons.1 hx with rfl|hx
        · exact a _ h
        · exact b x hx
      · intro x hx
        rcases c x hx with h|h
        · exact .inl h
        · exact .inr (List.mem_cons_of_mem _ h)
    · simp only[if_neg h]at a b c d hE⊢
      refine⟨fun x hx=>a x (by simp[hx]),?_,?_,?_,[y]++E,by rw[hE];simp⟩
      · intro x hx
        rcases List.mem_cons.1 hx with rfl|hx
        · exact a _ (by simp)
        · exact b x hx
      · intro x hx
        rcases c x hx with h|h
        · rcases List.mem_append.1 h with h|h
          · exact .inl h
          · simp at h;subst h;exact .inr (by simp)
        · exact .inr (List.mem_cons_of_mem _ h)
      · intro hn
        refine d ?_
        rw[List.nodup_append];refine⟨hn,by simp,?_⟩
        intro x hx z hz;simp at hz;subst hz
        intro e;subst e;exact h hx
theorem mem_once {L:List (Int×Fl)} {y:Int} :y∈onceL L ↔ ∃a∈L,a.1=y:=by
  have e: ∀ (L:List (Int×Fl)) (M:List Int),L.foldl (fun out a=>if a.1∈out then out else out++ [a.1]) M=addsL M (L.map (·.1)):=by
    intro L;induction L with
    |nil=>intro M;rfl
    |cons a L ih=>intro M;rw[List.foldl_cons,ih];rfl
  have e1:onceL L=addsL [] (L.map (·.1)):=e L []
  obtain⟨-,b,c, -, -⟩:=adds_sub (L.map (·.1)) []
  rw[e1];constructor
  · intro h
    rcases c y h with h|h
    · cases h
    · obtain⟨a,ha,hb⟩:=List.mem_map.1 h
      exact⟨a,ha,hb⟩
  · rintro⟨a,ha,rfl⟩
    exact b _ (List.mem_map.2 ⟨a,ha,rfl⟩)
theorem lvAmong_ev (L:List Int) (x:Int) (hm:L.length≤9223372036854775807):Ev (fun k=>laws_lvAmong.f k L x) (decide (x∈L)):=by
  have key: ∀d i,L.length-i=d→i≤L.length→Ev (fun k=>laws_lvAmong.l0 k L x (i:Int)) (decide (x∈L.drop i)):=by
    intro d;induction d with
    |zero=>
      intro i hi hi2;refine Ev.step (f:=fun k=>some false) (fun k=> ?_) (ev_eq (Ev.now _) ?_)
      · simp only[laws_lvAmong.l0];rw[if_neg (by omega)]
      · rw[List.drop_of_length_le (by omega)];simp
    |succ d ih=>
      intro i hi hi2;have ih1:=ih (i+1) (by omega) (by omega)
      have d0:L.drop i=L[i]'(by omega)::L.drop (i+1):=List.drop_eq_getElem_cons (by omega)
      rw[d0];by_cases he:L[i]'(by omega)=x
      · refine Ev.step (f:=fun k=>some true) (fun k=> ?_) (ev_eq (Ev.now _) ?_)
        · simp only[laws_lvAmong.l0];rw[if_pos (by omega),if_pos (by omega),rd_at L i (by omega),if_pos he]
        · rw[he];simp
      · refine ev_eq (Ev.step (fun k=> ?_) ih1) ?_
        · simp only[laws_lvAmong.l0];rw[if_pos (by omega),if_pos (by omega),rd_at L i (by omega),if_neg he,w64 (by omega) (by omega)];rfl
        · have he': ¬x=L[i]'(by omega):=fun h=>he h.symm
          exact decide_eq_decide.2 ⟨fun h=>List.mem_cons_of_mem _ h,fun h=>(List.mem_cons.1 h).resolve_left he'⟩
  have:=key L.length 0 (by omega) (by omega)
  show Ev (fun k=>laws_lvAmong.l0 k L x 0) _
  simpa using this
end Go.Proofs.Ytmklpbmlgjkbiaa.PS
end
section
namespace Go.Proofs.Ytmklpbmlgjkbiaa.PJE
open Go.RowKit Go.Proofs.YtmklpbmlgjkbiaaW.PrintWords Go.Proofs.YtmklpbmlgjkbiaaW.PrintLast Go.Proofs.YtmklpbmlgjkbiaaW.PrintMore Go.Proofs.Ytmklpbmlgjkbiaa.PS
attribute [local go_sem] max2_int min2_int max_two min_two max_three min_three max_four min_four   -- for this text's walks alone
mutual
def laws_FnNextTo.j0:Nat→List Int→List Int→Bool→Option (Bool)
 |0,_,_,_=>none
 |k+1,x0,x1,x17=>if x17=true then(some true)else((spec_DrawCodeNext.f k x0).bind fun bt101=>((nextV.f bt101.1 bt101.2).bind fun t105=>((laws_lvInts.f k t105 t105).bind fun t110=>(if t110=true then((codeV.f bt101.1).bind fun t111=>(laws_FnNextTo.j1 k x1 bt101.1 bt101.2 t105 (!t111)))else(laws_FnNextTo.j1 k x1 bt101.1 bt101.2 t105 true)))))
def laws_FnNextTo.j1:Nat→List Int→List (S29)→Int→List Int→Bool→Option (Bool)
 |0,_,_,_,_,_=>none
 |k+1,x1,x5,x6,x7,x36=>if x36=true then((nextV.f x5 x6).bind fun t112=>((laws_lvInts.f k x7 t112).bind fun t115=>(some t115)))else(if(x5.length:Int)=0 then(none)else((nextV.f x5 ((x1.length:Int)% (x5.length:Int))).bind fun t116=>(laws_FnNextTo.l0 k x5 t116 0)))
def laws_FnNextTo.l0:Nat→List (S29)→List Int→Int→Option (Bool)
 |0,_,_,_=>none
 |k+1,x5,x8,x9=>if x9<(x8.length:Int)then(if 0≤x9 then(if(rd x8 x9)<0 then(laws_FnNextTo.j3 k x5 x8 x9 true)else(if(rd x8 x9)≥(x5.length:Int)then(laws_FnNextTo.j3 k x5 x8 x9 true)else(if x9≤(x8.length:Int)then((laws_lvAmong.f k (x8.take (x9:Int).toNat) (rd x8 x9)).bind fun t126=>(laws_FnNextTo.j3 k x5 x8 x9 t126))else(none))))else(none))else(some (decide ((x8.length:Int)≤2)))
def laws_FnNextTo.j3:Nat→List (S29)→List Int→Int→Bool→Option (Bool)
 |0,_,_,_,_=>none
 |k+1,x5,x8,x9,x78=>if x78=true then(some false)else(laws_FnNextTo.l0 k x5 x8 (wrap64 (x9+1)))
end
def laws_FnNextTo.f (k:Nat) (l0:List Int) (l1:List Int):Option (Bool):=if(l0.length:Int)>1048576 then(laws_FnNextTo.j0 k l0 l1 true)else(laws_FnNextTo.j0 k l0 l1 (decide ((l1.length:Int)>1048576)))
theorem laws_FnNextTo.calls (k:Nat) (A0:Option Addr) (c0:Nat) (l0:List Int) (A1:Option Addr) (c1:Nat) (l1:List Int) (r:Bool) (w:World) (hr0:Kd.C (Kd.int .u8) w A0 l0.length l0) (hc0:l0.length≤c0) (hr1:Kd.C (Kd.int .u8) w A1 l1.length l1) (hc1:l1.length≤c1) (h:laws_FnNextTo.f k l0 l1=some r):
  Calls Try.prog 17 #[.slice A0 l0.length c0,.slice A1 l1.length c1] w fun e w'=>e= .returned (.bool r)∧Below w.heap.size w w':=by
 have HR0:=Aside0.mk hr0;have HC0:=Aside0.mk hc0;clear hr0 hc0;have HR1:=Aside0.mk hr1;have HC1:=Aside0.mk hc1;clear hr1 hc1;have HB:=Aside0.mk (Below.refl w.heap.size w);have H:(if(l0.length:Int)>1048576 then(laws_FnNextTo.j0 k l0 l1 true)else(laws_FnNextTo.j0 k l0 l1 (decide ((l1.length:Int)>1048576))))=some r:=h
 clear h;have HC3:=Aside0.mk H;clear H;go_enter Try.func17,Try.ntmps17
 go_upto_region 1 with (fail)
 repeat(go_quiet (fail);go_upto_region 1 with (fail))
 go_cut [17] (fun v17 wc=> ∃ (kq:Nat) (x17_2:Bool),v17= .bool x17_2∧Aside0 (laws_FnNextTo.j0 kq l0 l1 x17_2=some r)∧Aside0 (kq≤k)∧Aside0 (Below w.heap.size w wc))
 case first=>
  have H:=HC3.out;clear HC3;by_cases c4:(l0.length:Int)>1048576
  ·rw[if_pos c4]at H
   have c4b0:decide (1048576<(l0.length:Int))=true:=decide_eq_true c4;have c4b1:decide (1048576<l0.length)=true:=decide_eq_true (by omega)
   clear c4;(first|rw[c4b0]|(simp only[i64_w,i32_w];rw[c4b0])|skip)
   have H':=Aside0.mk H;clear H;go_wp2
   repeat(go_quiet (fail);try go_wp2)
   go_meet
   case rel=>exact⟨_,(true),(by first|rfl|(simp;done)|(simp[*];done)),H',⟨by first|omega|exact Nat.le_refl _⟩,⟨by exact bU HB.out⟩⟩
  ·rw[if_neg c4]at H
   have c4b0:decide (1048576<(l0.length:Int))=false:=decide_eq_false c4;have c4b1:decide (1048576<l0.length)=false:=decide_eq_false (by omega)
   clear c4;(first|rw[c4b0]|(simp only[i64_w,i32_w];rw[c4b0])|skip)
   have H':=Aside0.mk H;clear H;go_wp2
   repeat(go_quiet (fail);try go_wp2)
   go_meet
   case rel=>exact⟨_,(decide ((l1.length:Int)>1048576)),(by first|rfl|(simp;done)|(simp[*];done)),H',⟨by first|omega|exact Nat.le_refl _⟩,⟨by exact bU HB.out⟩⟩
 case rest=>
  clear HC3;(try clear c1);(try clear p2);(try clear c4);(try clear c4b0);(try clear c4b1)
  obtain⟨kq,x17_2,rfl,HA,HJ2,HB⟩:=hcut;cases kq with
  |zero=>exact absurd HA.out (by simp[laws_FnNextTo.j0])
  |succ kj2=>
   have H:=HA.out;clear HA;simp only[laws_FnNextTo.j0]at H
   by_cases c5:x17_2=true
   ·subst c5
    have H1:(some true)=some r:=by rw[if_pos rfl]at H;exact H
    clear H;have H:=H1;clear H1;obtain rfl:=Option.some.inj H;go_wp2
    repeat(go_quiet (fail);try go_wp2)
    go_ret
    exact⟨by first|rfl|(simp[errW_none,errW_some]<;>rfl)|(simp[*,errW_none,errW_some]<;>rfl),by exact bU HB.out⟩
   ·replace c5:=Bool.eq_false_iff.mpr c5
    subst c5;have H1:((spec_DrawCodeNext.f kj2 l0).bind fun bt101=>((nextV.f bt101.1 bt101.2).bind fun t105=>((laws_lvInts.f kj2 t105 t105).bind fun t110=>(if t110=true then((codeV.f bt101.1).bind fun t111=>(laws_FnNextTo.j1 kj2 l1 bt101.1 bt101.2 t105 (!t111)))else(laws_FnNextTo.j1 kj2 l1 bt101.1 bt101.2 t105 true)))))=some r:=by rw[if_neg (show¬(false=true) by decide)]at H;exact H
    clear H;have H:=H1;clear H1;replace H:=Option.bind_eq_some_iff.mp H;obtain⟨⟨t101,t102⟩,A60,H⟩:=H;replace H:((nextV.f t101 t102).bind fun t105=>((laws_lvInts.f kj2 t105 t105).bind fun t110=>(if t110=true then((codeV.f t101).bind fun t111=>(laws_FnNextTo.j1 kj2 l1 t101 t102 t105 (!t111)))else(laws_FnNextTo.j1 kj2 l1 t101 t102 t105 true))))=some r:=H
    have A6:=Aside0.mk A60;clear A60;replace H:=Option.bind_eq_some_iff.mp H;obtain⟨t105,A70,H⟩:=H;replace H:((laws_lvInts.f kj2 t105 t105).bind fun t110=>(if t110=true then((codeV.f t101).bind fun t111=>(laws_FnNextTo.j1 kj2 l1 t101 t102 t105 (!t111)))else(laws_FnNextTo.j1 kj2 l1 t101 t102 t105 true)))=some r:=H
    have A7:=Aside0.mk A70;clear A70;have HC8:=Aside0.mk H;clear H;go_upto_region 5 with (first|(go_at_call 54;(with_reducible refine(spec_DrawCodeNext.calls kj2 _ _ l0 t101 t102 _ ?side1 ?side2 A6.out).mono ?_);(case side1=>repeat(first|exact(Kd.C_below HR0.out HB.out)|(with_reducible refine Kd.C_alloc ?_ _)|(with_reducible refine Kd.C_drewN ?_ _)|(with_reducible refine Kd.C_drew ?_)));(case side2=>exact HC0.out);rintro e w9 ⟨v103,rfl,ho0,hb⟩;have HO104:=Aside0.mk (Kd.R_lower ho0 (below_size (by exact bU HB.out)));replace HB:=Aside0.mk (below_step (by exact bU HB.out) hb);(try clear hb);(try clear hb2);(try clear hk);(try clear hi);(try clear ho0);obtain⟨Ao10,co10,eo10⟩:=Kd.R_slice HO104.out;subst eo10)|(go_at_call 39;(with_reducible refine(impl_CodeNext.calls _ _ t101 t102 t105 _ ?side1 ?side2 A7.out).mono ?_);(case side1=>repeat(first|exact(Kd.R_reads' HO104.out).2.2|(with_reducible refine Kd.C_alloc ?_ _)|(with_reducible refine Kd.C_drewN ?_ _)|(with_reducible refine Kd.C_drew ?_)));(case side2=>exact(Kd.R_reads' HO104.out).2.1);rintro e w11 ⟨v106,rfl,ho0,hb⟩;replace HO104:=Aside0.mk (Kd.R_below (by exact rU HO104.out) hb);have HO107:=Aside0.mk (Kd.R_lower ho0 (below_size (by exact bU HB.out)));replace HB:=Aside0.mk (below_step (by exact bU HB.out) hb);(try clear hb);(try clear hb2);(try clear hk);(try clear hi);(try clear ho0)))
    repeat(go_quiet (first|(go_at_call 54;(with_reducible refine(spec_DrawCodeNext.calls kj2 _ _ l0 t101 t102 _ ?side1 ?side2 A6.out).mono ?_);(case side1=>repeat(first|exact(Kd.C_below HR0.out HB.out)|(with_reducible refine Kd.C_alloc ?_ _)|(with_reducible refine Kd.C_drewN ?_ _)|(with_reducible refine Kd.C_drew ?_)));(case side2=>exact HC0.out);rintro e w9 ⟨v103,rfl,ho0,hb⟩;have HO104:=Aside0.mk (Kd.R_lower ho0 (below_size (by exact bU HB.out)));replace HB:=Aside0.mk (below_step (by exact bU HB.out) hb);(try clear hb);(try clear hb2);(try clear hk);(try clear hi);(try clear ho0);obtain⟨Ao10,co10,eo10⟩:=Kd.R_slice HO104.out;subst eo10)|(go_at_call 39;(with_reducible refine(impl_CodeNext.calls _ _ t101 t102 t105 _ ?side1 ?side2 A7.out).mono ?_);(case side1=>repeat(first|exact(Kd.R_reads' HO104.out).2.2|(with_reducible refine Kd.C_alloc ?_ _)|(with_reducible refine Kd.C_drewN ?_ _)|(with_reducible refine Kd.C_drew ?_)));(case side2=>exact(Kd.R_reads' HO104.out).2.1);rintro e w11 ⟨v106,rfl,ho0,hb⟩;replace HO104:=Aside0.mk (Kd.R_below (by exact rU HO104.out) hb);have HO107:=Aside0.mk (Kd.R_lower ho0 (below_size (by exact bU HB.out)));replace HB:=Aside0.mk (below_step (by exact bU HB.out) hb);(try clear hb);(try clear hb2);(try clear hk);(try clear hi);(try clear ho0)));go_upto_region 5 with (first|(go_at_call 54;(with_reducible refine(spec_DrawCodeNext.calls kj2 _ _ l0 t101 t102 _ ?side1 ?side2 A6.out).mono ?_);(case side1=>repeat(first|exact(Kd.C_below HR0.out HB.out)|(with_reducible refine Kd.C_alloc ?_ _)|(with_reducible refine Kd.C_drewN ?_ _)|(with_reducible refine Kd.C_drew ?_)));(case side2=>exact HC0.out);rintro e w9 ⟨v103,rfl,ho0,hb⟩;have HO104:=Aside0.mk (Kd.R_lower ho0 (below_size (by exact bU HB.out)));replace HB:=Aside0.mk (below_step (by exact bU HB.out) hb);(try clear hb);(try clear hb2);(try clear hk);(try clear hi);(try clear ho0);obtain⟨Ao10,co10,eo10⟩:=Kd.R_slice HO104.out;subst eo10)|(go_at_call 39;(with_reducible refine(impl_CodeNext.calls _ _ t101 t102 t105 _ ?side1 ?side2 A7.out).mono ?_);(case side1=>repeat(first|exact(Kd.R_reads' HO104.out).2.2|(with_reducible refine Kd.C_alloc ?_ _)|(with_reducible refine Kd.C_drewN ?_ _)|(with_reducible refine Kd.C_drew ?_)));(case side2=>exact(Kd.R_reads' HO104.out).2.1);rintro e w11 ⟨v106,rfl,ho0,hb⟩;replace HO104:=Aside0.mk (Kd.R_below (by exact rU HO104.out) hb);have HO107:=Aside0.mk (Kd.R_lower ho0 (below_size (by exact bU HB.out)));replace HB:=Aside0.mk (below_step (by exact bU HB.out) hb);(try clear hb);(try clear hb2);(try clear hk);(try clear hi);(try clear ho0))))
    (try simp only[Act.put,List.setIfInBounds_toArray,List.set_cons_zero,List.set_cons_succ])
    go_cut [36] (fun v36 wc=> ∃ (kq:Nat) (x36_7:Bool),v36= .bool x36_7∧Aside0 (laws_FnNextTo.j1 kq l1 t101 t102 t105 x36_7=some r)∧Aside0 (kq≤kj2)∧Aside0 (Kd.R k29 29 wc w.heap.size (fun _=>True) (.slice Ao10 t101.length co10) t101)∧Aside0 (Kd.R (Kd.int .i64) 3 wc w.heap.size (fun _=>True) v106 t105)∧Aside0 (Below w.heap.size w wc))
    case first=>
     have H:=HC8.out;clear HC8;replace H:=Option.bind_eq_some_iff.mp H;obtain⟨t110,A120,H⟩:=H;replace H:(if t110=true then((codeV.f t101).bind fun t111=>(laws_FnNextTo.j1 kj2 l1 t101 t102 t105 (!t111)))else(laws_FnNextTo.j1 kj2 l1 t101 t102 t105 true))=some r:=H
     have A12:=Aside0.mk A120;clear A120;by_cases c13:t110=true
     ·subst c13
      have H1:((codeV.f t101).bind fun t111=>(laws_FnNextTo.j1 kj2 l1 t101 t102 t105 (!t111)))=some r:=by rw[if_pos rfl]at H;exact H
      clear H;have H:=H1;clear H1;replace H:=Option.bind_eq_some_iff.mp H;obtain⟨t111,A140,H⟩:=H;replace H:(laws_FnNextTo.j1 kj2 l1 t101 t102 t105 (!t111))=some r:=H;have A14:=Aside0.mk A140;clear A140;have H':=Aside0.mk H;clear H;go_wp2_with (first|(go_at_call 38;(with_reducible refine(spec_CodeNext_as.calls _ _ t101 t102 t105 _ ?side1 ?side2 A7.out).mono ?_);(case side1=>repeat(first|exact(Kd.R_reads' HO104.out).2.2|(with_reducible refine Kd.C_alloc ?_ _)|(with_reducible refine Kd.C_drewN ?_ _)|(with_reducible refine Kd.C_drew ?_)));(case side2=>exact(Kd.R_reads' HO104.out).2.1);rintro e w15 ⟨v108,rfl,ho0,hb⟩;have n0_:=Aside0.mk (Kd.R_below (by exact rU HO104.out) hb);have n1_:=Aside0.mk (Kd.R_elder' (by exact rU HO107.out) (Kd.R_base ho0) hb);have n2_:=Aside0.mk (Kd.R_lower (Kd.R_new' ho0 (Kd.R_lt (by exact rU HO107.out))) (below_size (by exact bU HB.out)));have n3_:=Aside0.mk (below_step (by exact bU HB.out) hb);clear HO104;clear HO107;clear HB;have HO104:=n0_;have HO107:=n1_;have HO109:=n2_;have HB:=n3_;clear n0_ n1_ n2_ n3_;(try clear hb);(try clear hb2);(try clear hk);(try clear hi);(try clear ho0);obtain⟨Ao16,co16,eo16⟩:=Kd.R_slice HO107.out;subst eo16;obtain⟨Ao17,co17,eo17⟩:=Kd.R_slice HO109.out;subst eo17)|(go_at_call 49;(with_reducible refine(laws_lvInts.calls kj2 _ _ t105 _ _ t105 true _ ?side1 ?side2 ?side3 ?side4 A12.out).mono ?_);(case side1=>repeat(first|exact(Kd.R_reads' HO107.out).2.2|(with_reducible refine Kd.C_alloc ?_ _)|(with_reducible refine Kd.C_drewN ?_ _)|(with_reducible refine Kd.C_drew ?_)));(case side2=>exact(Kd.R_reads' HO107.out).2.1);(case side3=>repeat(first|exact(Kd.R_reads' HO109.out).2.2|(with_reducible refine Kd.C_alloc ?_ _)|(with_reducible refine Kd.C_drewN ?_ _)|(with_reducible refine Kd.C_drew ?_)));(case side4=>exact(Kd.R_reads' HO109.out).2.1);rintro e w' ⟨rfl,⟨nd,rfl⟩⟩;(try first|exact⟨rfl,_,World.drewN_drewN _ _ _⟩|exact⟨rfl,_,Eq.trans (World.drewN_drewN _ _ _) (congrArg (World.drewN _) (Nat.add_assoc _ _ _))⟩))|(go_at_call 33;(with_reducible refine(spec_CodeOk_as.calls _ _ t101 t111 _ ?side1 ?side2 A14.out).mono ?_);(case side1=>repeat(first|exact(Kd.R_reads' HO104.out).2.2|(with_reducible refine Kd.C_alloc ?_ _)|(with_reducible refine Kd.C_drewN ?_ _)|(with_reducible refine Kd.C_drew ?_)));(case side2=>exact(Kd.R_reads' HO104.out).2.1);rintro e w18 ⟨rfl,hb⟩;replace HO104:=Aside0.mk (Kd.R_below (by exact rU HO104.out) hb);replace HO107:=Aside0.mk (Kd.R_below (by exact rU HO107.out) hb);replace HO109:=Aside0.mk (Kd.R_below (by exact rU HO109.out) hb);replace HB:=Aside0.mk (below_step (by exact bU HB.out) hb);(try clear hb);(try clear hb2);(try clear hk);(try clear hi)))
      repeat(go_quiet (first|(go_at_call 38;(with_reducible refine(spec_CodeNext_as.calls _ _ t101 t102 t105 _ ?side1 ?side2 A7.out).mono ?_);(case side1=>repeat(first|exact(Kd.R_reads' HO104.out).2.2|(with_reducible refine Kd.C_alloc ?_ _)|(with_reducible refine Kd.C_drewN ?_ _)|(with_reducible refine Kd.C_drew ?_)));(case side2=>exact(Kd.R_reads' HO104.out).2.1);rintro e w15 ⟨v108,rfl,ho0,hb⟩;have n0_:=Aside0.mk (Kd.R_below (by exact rU HO104.out) hb);have n1_:=Aside0.mk (Kd.R_elder' (by exact rU HO107.out) (Kd.R_base ho0) hb);have n2_:=Aside0.mk (Kd.R_lower (Kd.R_new' ho0 (Kd.R_lt (by exact rU HO107.out))) (below_size (by exact bU HB.out)));have n3_:=Aside0.mk (below_step (by exact bU HB.out) hb);clear HO104;clear HO107;clear HB;have HO104:=n0_;have HO107:=n1_;have HO109:=n2_;have HB:=n3_;clear n0_ n1_ n2_ n3_;(try clear hb);(try clear hb2);(try clear hk);(try clear hi);(try clear ho0);obtain⟨Ao16,co16,eo16⟩:=Kd.R_slice HO107.out;subst eo16;obtain⟨Ao17,co17,eo17⟩:=Kd.R_slice HO109.out;subst eo17)|(go_at_call 49;(with_reducible refine(laws_lvInts.calls kj2 _ _ t105 _ _ t105 true _ ?side1 ?side2 ?side3 ?side4 A12.out).mono ?_);(case side1=>repeat(first|exact(Kd.R_reads' HO107.out).2.2|(with_reducible refine Kd.C_alloc ?_ _)|(with_reducible refine Kd.C_drewN ?_ _)|(with_reducible refine Kd.C_drew ?_)));(case side2=>exact(Kd.R_reads' HO107.out).2.1);(case side3=>repeat(first|exact(Kd.R_reads' HO109.out).2.2|(with_reducible refine Kd.C_alloc ?_ _)|(with_reducible refine Kd.C_drewN ?_ _)|(with_reducible refine Kd.C_drew ?_)));(case side4=>exact(Kd.R_reads' HO109.out).2.1);rintro e w' ⟨rfl,⟨nd,rfl⟩⟩;(try first|exact⟨rfl,_,World.drewN_drewN _ _ _⟩|exact⟨rfl,_,Eq.trans (World.drewN_drewN _ _ _) (congrArg (World.drewN _) (Nat.add_assoc _ _ _))⟩))|(go_at_call 33;(with_reducible refine(spec_CodeOk_as.calls _ _ t101 t111 _ ?side1 ?side2 A14.out).mono ?_);(case side1=>repeat(first|exact(Kd.R_reads' HO104.out).2.2|(with_reducible refine Kd.C_alloc ?_ _)|(with_reducible refine Kd.C_drewN ?_ _)|(with_reducible refine Kd.C_drew ?_)));(case side2=>exact(Kd.R_reads' HO104.out).2.1);rintro e w18 ⟨rfl,hb⟩;replace HO104:=Aside0.mk (Kd.R_below (by exact rU HO104.out) hb);replace HO107:=Aside0.mk (Kd.R_below (by exact rU HO107.out) hb);replace HO109:=Aside0.mk (Kd.R_below (by exact rU HO109.out) hb);replace HB:=Aside0.mk (below_step (by exact bU HB.out) hb);(try clear hb);(try clear hb2);(try clear hk);(try clear hi)));try go_wp2_with (first|(go_at_call 38;(with_reducible refine(spec_CodeNext_as.calls _ _ t101 t102 t105 _ ?side1 ?side2 A7.out).mono ?_);(case side1=>repeat(first|exact(Kd.R_reads' HO104.out).2.2|(with_reducible refine Kd.C_alloc ?_ _)|(with_reducible refine Kd.C_drewN ?_ _)|(with_reducible refine Kd.C_drew ?_)));(case side2=>exact(Kd.R_reads' HO104.out).2.1);rintro e w15 ⟨v108,rfl,ho0,hb⟩;have n0_:=Aside0.mk (Kd.R_below (by exact rU HO104.out) hb);have n1_:=Aside0.mk (Kd.R_elder' (by exact rU HO107.out) (Kd.R_base ho0) hb);have n2_:=Aside0.mk (Kd.R_lower (Kd.R_new' ho0 (Kd.R_lt (by exact rU HO107.out))) (below_size (by exact bU HB.out)));have n3_:=Aside0.mk (below_step (by exact bU HB.out) hb);clear HO104;clear HO107;clear HB;have HO104:=n0_;have HO107:=n1_;have HO109:=n2_;have HB:=n3_;clear n0_ n1_ n2_ n3_;(try clear hb);(try clear hb2);(try clear hk);(try clear hi);(try clear ho0);obtain⟨Ao16,co16,eo16⟩:=Kd.R_slice HO107.out;subst eo16;obtain⟨Ao17,co17,eo17⟩:=Kd.R_slice HO109.out;subst eo17)|(go_at_call 49;(with_reducible refine(laws_lvInts.calls kj2 _ _ t105 _ _ t105 true _ ?side1 ?side2 ?side3 ?side4 A12.out).mono ?_);(case side1=>repeat(first|exact(Kd.R_reads' HO107.out).2.2|(with_reducible refine Kd.C_alloc ?_ _)|(with_reducible refine Kd.C_drewN ?_ _)|(with_reducible refine Kd.C_drew ?_)));(case side2=>exact(Kd.R_reads' HO107.out).2.1);(case side3=>repeat(first|exact(Kd.R_reads' HO109.out).2.2|(with_reducible refine Kd.C_alloc ?_ _)|(with_reducible refine Kd.C_drewN ?_ _)|(with_reducible refine Kd.C_drew ?_)));(case side4=>exact(Kd.R_reads' HO109.out).2.1);rintro e w' ⟨rfl,⟨nd,rfl⟩⟩;(try first|exact⟨rfl,_,World.drewN_drewN _ _ _⟩|exact⟨rfl,_,Eq.trans (World.drewN_drewN _ _ _) (congrArg (World.drewN _) (Nat.add_assoc _ _ _))⟩))|(go_at_call 33;(with_reducible refine(spec_CodeOk_as.calls _ _ t101 t111 _ ?side1 ?side2 A14.out).mono ?_);(case side1=>repeat(first|exact(Kd.R_reads' HO104.out).2.2|(with_reducible refine Kd.C_alloc ?_ _)|(with_reducible refine Kd.C_drewN ?_ _)|(with_reducible refine Kd.C_drew ?_)));(case side2=>exact(Kd.R_reads' HO104.out).2.1);rintro e w18 ⟨rfl,hb⟩;replace HO104:=Aside0.mk (Kd.R_below (by exact rU HO104.out) hb);replace HO107:=Aside0.mk (Kd.R_below (by exact rU HO107.out) hb);replace HO109:=Aside0.mk (Kd.R_below (by exact rU HO109.out) hb);replace HB:=Aside0.mk (below_step (by exact bU HB.out) hb);(try clear hb);(try clear hb2);(try clear hk);(try clear hi))))
      go_meet
      case rel=>exact⟨_,(!t111),(by first|rfl|(simp;done)|(simp[*];done)),H',⟨by have:=HJ2.out;first|omega|exact Nat.le_refl _⟩,⟨by exact rU HO104.out⟩,⟨by(with_reducible repeat(first|apply rA|apply rN|apply rD));exact Kd.R_mono HO107.out (fun _ hk=>trivial)⟩,⟨by exact bU HB.out⟩⟩
     ·replace c13:=Bool.eq_false_iff.mpr c13
      subst c13;have H1:(laws_FnNextTo.j1 kj2 l1 t101 t102 t105 true)=some r:=by rw[if_neg (show¬(false=true) by decide)]at H;exact H
      clear H;have H:=H1;clear H1;have H':=Aside0.mk H;clear H;go_wp2_with (first|(go_at_call 38;(with_reducible refine(spec_CodeNext_as.calls _ _ t101 t102 t105 _ ?side1 ?side2 A7.out).mono ?_);(case side1=>repeat(first|exact(Kd.R_reads' HO104.out).2.2|(with_reducible refine Kd.C_alloc ?_ _)|(with_reducible refine Kd.C_drewN ?_ _)|(with_reducible refine Kd.C_drew ?_)));(case side2=>exact(Kd.R_reads' HO104.out).2.1);rintro e w19 ⟨v108,rfl,ho0,hb⟩;have n0_:=Aside0.mk (Kd.R_below (by exact rU HO104.out) hb);have n1_:=Aside0.mk (Kd.R_elder' (by exact rU HO107.out) (Kd.R_base ho0) hb);have n2_:=Aside0.mk (Kd.R_lower (Kd.R_new' ho0 (Kd.R_lt (by exact rU HO107.out))) (below_size (by exact bU HB.out)));have n3_:=Aside0.mk (below_step (by exact bU HB.out) hb);clear HO104;clear HO107;clear HB;have HO104:=n0_;have HO107:=n1_;have HO109:=n2_;have HB:=n3_;clear n0_ n1_ n2_ n3_;(try clear hb);(try clear hb2);(try clear hk);(try clear hi);(try clear ho0);obtain⟨Ao20,co20,eo20⟩:=Kd.R_slice HO107.out;subst eo20;obtain⟨Ao21,co21,eo21⟩:=Kd.R_slice HO109.out;subst eo21)|(go_at_call 49;(with_reducible refine(laws_lvInts.calls kj2 _ _ t105 _ _ t105 false _ ?side1 ?side2 ?side3 ?side4 A12.out).mono ?_);(case side1=>repeat(first|exact(Kd.R_reads' HO107.out).2.2|(with_reducible refine Kd.C_alloc ?_ _)|(with_reducible refine Kd.C_drewN ?_ _)|(with_reducible refine Kd.C_drew ?_)));(case side2=>exact(Kd.R_reads' HO107.out).2.1);(case side3=>repeat(first|exact(Kd.R_reads' HO109.out).2.2|(with_reducible refine Kd.C_alloc ?_ _)|(with_reducible refine Kd.C_drewN ?_ _)|(with_reducible refine Kd.C_drew ?_)));(case side4=>exact(Kd.R_reads' HO109.out).2.1);rintro e w' ⟨rfl,⟨nd,rfl⟩⟩;(try first|exact⟨rfl,_,World.drewN_drewN _ _ _⟩|exact⟨rfl,_,Eq.trans (World.drewN_drewN _ _ _) (congrArg (World.drewN _) (Nat.add_assoc _ _ _))⟩)))
      repeat(go_quiet (first|(go_at_call 38;(with_reducible refine(spec_CodeNext_as.calls _ _ t101 t102 t105 _ ?side1 ?side2 A7.out).mono ?_);(case side1=>repeat(first|exact(Kd.R_reads' HO104.out).2.2|(with_reducible refine Kd.C_alloc ?_ _)|(with_reducible refine Kd.C_drewN ?_ _)|(with_reducible refine Kd.C_drew ?_)));(case side2=>exact(Kd.R_reads' HO104.out).2.1);rintro e w19 ⟨v108,rfl,ho0,hb⟩;have n0_:=Aside0.mk (Kd.R_below (by exact rU HO104.out) hb);have n1_:=Aside0.mk (Kd.R_elder' (by exact rU HO107.out) (Kd.R_base ho0) hb);have n2_:=Aside0.mk (Kd.R_lower (Kd.R_new' ho0 (Kd.R_lt (by exact rU HO107.out))) (below_size (by exact bU HB.out)));have n3_:=Aside0.mk (below_step (by exact bU HB.out) hb);clear HO104;clear HO107;clear HB;have HO104:=n0_;have HO107:=n1_;have HO109:=n2_;have HB:=n3_;clear n0_ n1_ n2_ n3_;(try clear hb);(try clear hb2);(try clear hk);(try clear hi);(try clear ho0);obtain⟨Ao20,co20,eo20⟩:=Kd.R_slice HO107.out;subst eo20;obtain⟨Ao21,co21,eo21⟩:=Kd.R_slice HO109.out;subst eo21)|(go_at_call 49;(with_reducible refine(laws_lvInts.calls kj2 _ _ t105 _ _ t105 false _ ?side1 ?side2 ?side3 ?side4 A12.out).mono ?_);(case side1=>repeat(first|exact(Kd.R_reads' HO107.out).2.2|(with_reducible refine Kd.C_alloc ?_ _)|(with_reducible refine Kd.C_drewN ?_ _)|(with_reducible refine Kd.C_drew ?_)));(case side2=>exact(Kd.R_reads' HO107.out).2.1);(case side3=>repeat(first|exact(Kd.R_reads' HO109.out).2.2|(with_reducible refine Kd.C_alloc ?_ _)|(with_reducible refine Kd.C_drewN ?_ _)|(with_reducible refine Kd.C_drew ?_)));(case side4=>exact(Kd.R_reads' HO109.out).2.1);rintro e w' ⟨rfl,⟨nd,rfl⟩⟩;(try first|exact⟨rfl,_,World.drewN_drewN _ _ _⟩|exact⟨rfl,_,Eq.trans (World.drewN_drewN _ _ _) (congrArg (World.drewN _) (Nat.add_assoc _ _ _))⟩)));try go_wp2_with (first|(go_at_call 38;(with_reducible refine(spec_CodeNext_as.calls _ _ t101 t102 t105 _ ?side1 ?side2 A7.out).mono ?_);(case side1=>repeat(first|exact(Kd.R_reads' HO104.out).2.2|(with_reducible refine Kd.C_alloc ?_ _)|(with_reducible refine Kd.C_drewN ?_ _)|(with_reducible refine Kd.C_drew ?_)));(case side2=>exact(Kd.R_reads' HO104.out).2.1);rintro e w19 ⟨v108,rfl,ho0,hb⟩;have n0_:=Aside0.mk (Kd.R_below (by exact rU HO104.out) hb);have n1_:=Aside0.mk (Kd.R_elder' (by exact rU HO107.out) (Kd.R_base ho0) hb);have n2_:=Aside0.mk (Kd.R_lower (Kd.R_new' ho0 (Kd.R_lt (by exact rU HO107.out))) (below_size (by exact bU HB.out)));have n3_:=Aside0.mk (below_step (by exact bU HB.out) hb);clear HO104;clear HO107;clear HB;have HO104:=n0_;have HO107:=n1_;have HO109:=n2_;have HB:=n3_;clear n0_ n1_ n2_ n3_;(try clear hb);(try clear hb2);(try clear hk);(try clear hi);(try clear ho0);obtain⟨Ao20,co20,eo20⟩:=Kd.R_slice HO107.out;subst eo20;obtain⟨Ao21,co21,eo21⟩:=Kd.R_slice HO109.out;subst eo21)|(go_at_call 49;(with_reducible refine(laws_lvInts.calls kj2 _ _ t105 _ _ t105 false _ ?side1 ?side2 ?side3 ?side4 A12.out).mono ?_);(case side1=>repeat(first|exact(Kd.R_reads' HO107.out).2.2|(with_reducible refine Kd.C_alloc ?_ _)|(with_reducible refine Kd.C_drewN ?_ _)|(with_reducible refine Kd.C_drew ?_)));(case side2=>exact(Kd.R_reads' HO107.out).2.1);(case side3=>repeat(first|exact(Kd.R_reads' HO109.out).2.2|(with_reducible refine Kd.C_alloc ?_ _)|(with_reducible refine Kd.C_drewN ?_ _)|(with_reducible refine Kd.C_drew ?_)));(case side4=>exact(Kd.R_reads' HO109.out).2.1);rintro e w' ⟨rfl,⟨nd,rfl⟩⟩;(try first|exact⟨rfl,_,World.drewN_drewN _ _ _⟩|exact⟨rfl,_,Eq.trans (World.drewN_drewN _ _ _) (congrArg (World.drewN _) (Nat.add_assoc _ _ _))⟩))))
      go_meet
      case rel=>exact⟨_,(true),(by first|rfl|(simp;done)|(simp[*];done)),H',⟨by have:=HJ2.out;first|omega|exact Nat.le_refl _⟩,⟨by exact rU HO104.out⟩,⟨by(with_reducible repeat(first|apply rA|apply rN|apply rD));exact Kd.R_mono HO107.out (fun _ hk=>trivial)⟩,⟨by exact bU HB.out⟩⟩
    case rest=>
     clear HC8;(try clear c1);(try clear p2);(try clear c4);(try clear c4b0);(try clear c4b1);(try clear c5);(try clear c13);(try clear c17);(try clear p2)
     obtain⟨kq,x36_7,rfl,HA,HJ7,HO_5,HO_7,HB⟩:=hcut;cases kq with
     |zero=>exact absurd HA.out (by simp[laws_FnNextTo.j1])
     |succ kj7=>
      have H:=HA.out;clear HA;simp only[laws_FnNextTo.j1]at H
      by_cases c22:x36_7=true
      ·subst c22
       have H1:((nextV.f t101 t102).bind fun t112=>((laws_lvInts.f kj7 t105 t112).bind fun t115=>(some t115)))=some r:=by rw[if_pos rfl]at H;exact H
       clear H;have H:=H1;clear H1;replace H:=Option.bind_eq_some_iff.mp H;obtain⟨t112,A230,H⟩:=H;replace H:((laws_lvInts.f kj7 t105 t112).bind fun t115=>(some t115))=some r:=H
       have A23:=Aside0.mk A230;clear A230;replace H:=Option.bind_eq_some_iff.mp H;obtain⟨t115,A240,H⟩:=H;replace H:(some t115)=some r:=H;have A24:=Aside0.mk A240;clear A240;obtain rfl:=Option.some.inj H;go_wp2_with (first|(go_at_call 38;(with_reducible refine(spec_CodeNext_as.calls _ _ t101 t102 t112 _ ?side1 ?side2 A23.out).mono ?_);(case side1=>repeat(first|exact(Kd.R_reads' HO_5.out).2.2|(with_reducible refine Kd.C_alloc ?_ _)|(with_reducible refine Kd.C_drewN ?_ _)|(with_reducible refine Kd.C_drew ?_)));(case side2=>exact(Kd.R_reads' HO_5.out).2.1);rintro e w25 ⟨v113,rfl,ho0,hb⟩;have n0_:=Aside0.mk (Kd.R_below (by exact rU HO_5.out) hb);have n1_:=Aside0.mk (Kd.R_elder' (by exact rU HO_7.out) (Kd.R_base ho0) hb);have n2_:=Aside0.mk (Kd.R_lower (Kd.R_new' ho0 (Kd.R_lt (by exact rU HO_7.out))) (below_size (by exact bU HB.out)));have n3_:=Aside0.mk (below_step (by exact bU HB.out) hb);clear HO_5;clear HO_7;clear HB;have HO_5:=n0_;have HO_7:=n1_;have HO114:=n2_;have HB:=n3_;clear n0_ n1_ n2_ n3_;(try clear hb);(try clear hb2);(try clear hk);(try clear hi);(try clear ho0);obtain⟨Ao26,co26,eo26⟩:=Kd.R_slice HO_7.out;subst eo26;obtain⟨Ao27,co27,eo27⟩:=Kd.R_slice HO114.out;subst eo27)|(go_at_call 49;(with_reducible refine(laws_lvInts.calls kj7 _ _ t105 _ _ t112 t115 _ ?side1 ?side2 ?side3 ?side4 A24.out).mono ?_);(case side1=>repeat(first|exact(Kd.R_reads' HO_7.out).2.2|(with_reducible refine Kd.C_alloc ?_ _)|(with_reducible refine Kd.C_drewN ?_ _)|(with_reducible refine Kd.C_drew ?_)));(case side2=>exact(Kd.R_reads' HO_7.out).2.1);(case side3=>repeat(first|exact(Kd.R_reads' HO114.out).2.2|(with_reducible refine Kd.C_alloc ?_ _)|(with_reducible refine Kd.C_drewN ?_ _)|(with_reducible refine Kd.C_drew ?_)));(case side4=>exact(Kd.R_reads' HO114.out).2.1);rintro e w' ⟨rfl,⟨nd,rfl⟩⟩;(try first|exact⟨rfl,_,World.drewN_drewN _ _ _⟩|exact⟨rfl,_,Eq.trans (World.drewN_drewN _ _ _) (congrArg (World.drewN _) (Nat.add_assoc _ _ _))⟩)))
       repeat(go_quiet (first|(go_at_call 38;(with_reducible refine(spec_CodeNext_as.calls _ _ t101 t102 t112 _ ?side1 ?side2 A23.out).mono ?_);(case side1=>repeat(first|exact(Kd.R_reads' HO_5.out).2.2|(with_reducible refine Kd.C_alloc ?_ _)|(with_reducible refine Kd.C_drewN ?_ _)|(with_reducible refine Kd.C_drew ?_)));(case side2=>exact(Kd.R_reads' HO_5.out).2.1);rintro e w25 ⟨v113,rfl,ho0,hb⟩;have n0_:=Aside0.mk (Kd.R_below (by exact rU HO_5.out) hb);have n1_:=Aside0.mk (Kd.R_elder' (by exact rU HO_7.out) (Kd.R_base ho0) hb);have n2_:=Aside0.mk (Kd.R_lower (Kd.R_new' ho0 (Kd.R_lt (by exact rU HO_7.out))) (below_size (by exact bU HB.out)));have n3_:=Aside0.mk (below_step (by exact bU HB.out) hb);clear HO_5;clear HO_7;clear HB;have HO_5:=n0_;have HO_7:=n1_;have HO114:=n2_;have HB:=n3_;clear n0_ n1_ n2_ n3_;(try clear hb);(try clear hb2);(try clear hk);(try clear hi);(try clear ho0);obtain⟨Ao26,co26,eo26⟩:=Kd.R_slice HO_7.out;subst eo26;obtain⟨Ao27,co27,eo27⟩:=Kd.R_slice HO114.out;subst eo27)|(go_at_call 49;(with_reducible refine(laws_lvInts.calls kj7 _ _ t105 _ _ t112 t115 _ ?side1 ?side2 ?side3 ?side4 A24.out).mono ?_);(case side1=>repeat(first|exact(Kd.R_reads' HO_7.out).2.2|(with_reducible refine Kd.C_alloc ?_ _)|(with_reducible refine Kd.C_drewN ?_ _)|(with_reducible refine Kd.C_drew ?_)));(case side2=>exact(Kd.R_reads' HO_7.out).2.1);(case side3=>repeat(first|exact(Kd.R_reads' HO114.out).2.2|(with_reducible refine Kd.C_alloc ?_ _)|(with_reducible refine Kd.C_drewN ?_ _)|(with_reducible refine Kd.C_drew ?_)));(case side4=>exact(Kd.R_reads' HO114.out).2.1);rintro e w' ⟨rfl,⟨nd,rfl⟩⟩;(try first|exact⟨rfl,_,World.drewN_drewN _ _ _⟩|exact⟨rfl,_,Eq.trans (World.drewN_drewN _ _ _) (congrArg (World.drewN _) (Nat.add_assoc _ _ _))⟩)));try go_wp2_with (first|(go_at_call 38;(with_reducible refine(spec_CodeNext_as.calls _ _ t101 t102 t112 _ ?side1 ?side2 A23.out).mono ?_);(case side1=>repeat(first|exact(Kd.R_reads' HO_5.out).2.2|(with_reducible refine Kd.C_alloc ?_ _)|(with_reducible refine Kd.C_drewN ?_ _)|(with_reducible refine Kd.C_drew ?_)));(case side2=>exact(Kd.R_reads' HO_5.out).2.1);rintro e w25 ⟨v113,rfl,ho0,hb⟩;have n0_:=Aside0.mk (Kd.R_below (by exact rU HO_5.out) hb);have n1_:=Aside0.mk (Kd.R_elder' (by exact rU HO_7.out) (Kd.R_base ho0) hb);have n2_:=Aside0.mk (Kd.R_lower (Kd.R_new' ho0 (Kd.R_lt (by exact rU HO_7.out))) (below_size (by exact bU HB.out)));have n3_:=Aside0.mk (below_step (by exact bU HB.out) hb);clear HO_5;clear HO_7;clear HB;have HO_5:=n0_;have HO_7:=n1_;have HO114:=n2_;have HB:=n3_;clear n0_ n1_ n2_ n3_;(try clear hb);(try clear hb2);(try clear hk);(try clear hi);(try clear ho0);obtain⟨Ao26,co26,eo26⟩:=Kd.R_slice HO_7.out;subst eo26;obtain⟨Ao27,co27,eo27⟩:=Kd.R_slice HO114.out;subst eo27)|(go_at_call 49;(with_reducible refine(laws_lvInts.calls kj7 _ _ t105 _ _ t112 t115 _ ?side1 ?side2 ?side3 ?side4 A24.out).mono ?_);(case side1=>repeat(first|exact(Kd.R_reads' HO_7.out).2.2|(with_reducible refine Kd.C_alloc ?_ _)|(with_reducible refine Kd.C_drewN ?_ _)|(with_reducible refine Kd.C_drew ?_)));(case side2=>exact(Kd.R_reads' HO_7.out).2.1);(case side3=>repeat(first|exact(Kd.R_reads' HO114.out).2.2|(with_reducible refine Kd.C_alloc ?_ _)|(with_reducible refine Kd.C_drewN ?_ _)|(with_reducible refine Kd.C_drew ?_)));(case side4=>exact(Kd.R_reads' HO114.out).2.1);rintro e w' ⟨rfl,⟨nd,rfl⟩⟩;(try first|exact⟨rfl,_,World.drewN_drewN _ _ _⟩|exact⟨rfl,_,Eq.trans (World.drewN_drewN _ _ _) (congrArg (World.drewN _) (Nat.add_assoc _ _ _))⟩))))
       go_ret
       exact⟨by first|rfl|(simp[errW_none,errW_some]<;>rfl)|(simp[*,errW_none,errW_some]<;>rfl),by exact bU HB.out⟩
      ·replace c22:=Bool.eq_false_iff.mpr c22
       subst c22;have H1:(if(t101.length:Int)=0 then(none)else((nextV.f t101 ((l1.length:Int)% (t101.length:Int))).bind fun t116=>(laws_FnNextTo.l0 kj7 t101 t116 0)))=some r:=by rw[if_neg (show¬(false=true) by decide)]at H;exact H
       clear H;have H:=H1;clear H1;by_cases c28:(t101.length:Int)=0
       ·rw[if_pos c28]at H
        exact absurd H (by simp)
       ·rw[if_neg c28]at H
        have c28b0:((t101.length:Int)==0)=false:=beq_eq_false_iff_ne.mpr c28;have c28b1:((t101.length:Int) !=0)=true:=bne_iff_ne.mpr c28;have c28b2: ¬(t101=[]):=fun h_=>c28 (by rw[h_];rfl)
        replace H:=Option.bind_eq_some_iff.mp H;obtain⟨t116,A290,H⟩:=H;replace H:(laws_FnNextTo.l0 kj7 t101 t116 0)=some r:=H;have A29:=Aside0.mk A290;clear A290;have H':=Aside0.mk H;clear H;go_wp2_with (first|(go_at_call 39;(with_reducible refine(impl_CodeNext.calls _ _ t101 ((l1.length:Int)% (t101.length:Int)) t116 _ ?side1 ?side2 A29.out).mono ?_);(case side1=>repeat(first|exact(Kd.R_reads' HO_5.out).2.2|(with_reducible refine Kd.C_alloc ?_ _)|(with_reducible refine Kd.C_drewN ?_ _)|(with_reducible refine Kd.C_drew ?_)));(case side2=>exact(Kd.R_reads' HO_5.out).2.1);rintro e w30 ⟨v117,rfl,ho0,hb⟩;have n0_:=Aside0.mk (Kd.R_below (by exact rU HO_5.out) hb);have n1_:=Aside0.mk (Kd.R_elder' (by exact rU HO_7.out) (Kd.R_base ho0) hb);have n2_:=Aside0.mk (Kd.R_lower (Kd.R_new' ho0 (Kd.R_lt (by exact rU HO_7.out))) (below_size (by exact bU HB.out)));have n3_:=Aside0.mk (below_step (by exact bU HB.out) hb);clear HO_5;clear HO_7;clear HB;have HO_5:=n0_;have HO_7:=n1_;have HO118:=n2_;have HB:=n3_;clear n0_ n1_ n2_ n3_;(try clear hb);(try clear hb2);(try clear hk);(try clear hi);(try clear ho0)))
        repeat(go_quiet (first|(go_at_call 39;(with_reducible refine(impl_CodeNext.calls _ _ t101 ((l1.length:Int)% (t101.length:Int)) t116 _ ?side1 ?side2 A29.out).mono ?_);(case side1=>repeat(first|exact(Kd.R_reads' HO_5.out).2.2|(with_reducible refine Kd.C_alloc ?_ _)|(with_reducible refine Kd.C_drewN ?_ _)|(with_reducible refine Kd.C_drew ?_)));(case side2=>exact(Kd.R_reads' HO_5.out).2.1);rintro e w30 ⟨v117,rfl,ho0,hb⟩;have n0_:=Aside0.mk (Kd.R_below (by exact rU HO_5.out) hb);have n1_:=Aside0.mk (Kd.R_elder' (by exact rU HO_7.out) (Kd.R_base ho0) hb);have n2_:=Aside0.mk (Kd.R_lower (Kd.R_new' ho0 (Kd.R_lt (by exact rU HO_7.out))) (below_size (by exact bU HB.out)));have n3_:=Aside0.mk (below_step (by exact bU HB.out) hb);clear HO_5;clear HO_7;clear HB;have HO_5:=n0_;have HO_7:=n1_;have HO118:=n2_;have HB:=n3_;clear n0_ n1_ n2_ n3_;(try clear hb);(try clear hb2);(try clear hk);(try clear hi);(try clear ho0)));try go_wp2_with (first|(go_at_call 39;(with_reducible refine(impl_CodeNext.calls _ _ t101 ((l1.length:Int)% (t101.length:Int)) t116 _ ?side1 ?side2 A29.out).mono ?_);(case side1=>repeat(first|exact(Kd.R_reads' HO_5.out).2.2|(with_reducible refine Kd.C_alloc ?_ _)|(with_reducible refine Kd.C_drewN ?_ _)|(with_reducible refine Kd.C_drew ?_)));(case side2=>exact(Kd.R_reads' HO_5.out).2.1);rintro e w30 ⟨v117,rfl,ho0,hb⟩;have n0_:=Aside0.mk (Kd.R_below (by exact rU HO_5.out) hb);have n1_:=Aside0.mk (Kd.R_elder' (by exact rU HO_7.out) (Kd.R_base ho0) hb);have n2_:=Aside0.mk (Kd.R_lower (Kd.R_new' ho0 (Kd.R_lt (by exact rU HO_7.out))) (below_size (by exact bU HB.out)));have n3_:=Aside0.mk (below_step (by exact bU HB.out) hb);clear HO_5;clear HO_7;clear HB;have HO_5:=n0_;have HO_7:=n1_;have HO118:=n2_;have HB:=n3_;clear n0_ n1_ n2_ n3_;(try clear hb);(try clear hb2);(try clear hk);(try clear hi);(try clear ho0))))
        go_loopg [9] kj7 (fun kq v9 w'=> ∃ (x9_3:Int),v9= .int .i64 x9_3∧Aside0 (laws_FnNextTo.l0 kq t101 t116 x9_3=some r)∧Aside0 (kq≤kj7)∧Aside0 (Kd.R k29 29 w' w.heap.size (fun _=>True) (.slice Ao10 t101.length co10) t101)∧Aside0 (Kd.R (Kd.int .i64) 3 w' w.heap.size (fun _=>True) v117 t116)∧Aside0 (Below w.heap.size w w'))
        case atStart=>exact⟨(0),(by first|rfl|(simp;done)|(simp[*];done)),H',⟨Nat.le_refl _⟩,⟨by exact rU HO_5.out⟩,⟨by(with_reducible repeat(first|apply rA|apply rN|apply rD));exact Kd.R_mono HO118.out (fun _ hk=>trivial)⟩,⟨by exact bU HB.out⟩⟩
        case round=>
         clear H';(try clear c1);(try clear c2);(try clear p2);(try clear c4);(try clear c4b0);(try clear c4b1);(try clear c5);(try clear c13);(try clear c17);(try clear c22);(try clear c28);(try clear c28b0);(try clear c28b1);(try clear c28b2);(try clear p2)
         obtain⟨x9_3,rfl,HA,HK3,HO_5,HO_8,HB⟩:=hrel;cases gk with
         |zero=>exact absurd HA.out (by simp[laws_FnNextTo.l0])
         |succ k3=>
          have H:=HA.out;clear HA;simp only[laws_FnNextTo.l0]at H
          by_cases c31:x9_3<(t116.length:Int)
          ·rw[if_pos c31]at H
           have c31b0:decide (x9_3<(t116.length:Int))=true:=decide_eq_true c31;clear c31;have HC32:=Aside0.mk H;clear H;obtain⟨Ao33,co33,eo33⟩:=Kd.R_slice HO_8.out;subst eo33;go_upto_region 11 with (fail)
           repeat(go_quiet (fail);go_upto_region 11 with (fail))
           go_cut [78] (fun v78 wc=> ∃ (kq:Nat) (x78_31:Bool),v78= .bool x78_31∧Aside0 (laws_FnNextTo.j3 kq t101 t116 x9_3 x78_31=some r)∧Aside0 (kq≤k3)∧Aside0 (Kd.R k29 29 wc w.heap.size (fun _=>True) (.slice Ao10 t101.length co10) t101)∧Aside0 (Kd.R (Kd.int .i64) 3 wc w.heap.size (fun _=>True) (.slice Ao33 t116.length co33) t116)∧Aside0 (Below w.heap.size w wc))
           case first=>
            have H:=HC32.out;clear HC32;by_cases c34:0≤x9_3
            ·rw[if_pos c34]at H
             have c34b0:decide (0≤x9_3)=true:=decide_eq_true c34;clear c34;(first|rw[c34b0]|(simp only[i64_w,i32_w];rw[c34b0])|skip)
             by_cases c35:(rd t116 x9_3)<0
             ·rw[if_pos c35]at H
              have c35b0:decide ((rd t116 x9_3)<0)=true:=decide_eq_true c35;clear c35;have H':=Aside0.mk H;clear H;have p119:0≤(x9_3:Int):=of_decide_eq_true (by assumption)
              have q119:x9_3<(t116.length:Int):=of_decide_eq_true (by assumption)
              obtain⟨ad119,e119,hx119_0⟩:=Kd.at_int (Kd.R_reads' HO_8.out).2.2 x9_3 p119 q119;cases e119
              replace p119:=eq_true p119;replace q119:=eq_true q119;go_wp2
              repeat(go_quiet (fail);try go_wp2)
              go_meet
              case rel=>exact⟨_,(true),(by first|rfl|(simp;done)|(simp[*];done)),H',⟨by have:=HJ2.out;have:=HJ7.out;have:=HK3.out;first|omega|exact Nat.le_refl _⟩,⟨by exact rU HO_5.out⟩,⟨by exact rU HO_8.out⟩,⟨by exact bU HB.out⟩⟩
             ·rw[if_neg c35]at H
              have c35b0:decide ((rd t116 x9_3)<0)=false:=decide_eq_false c35;clear c35;by_cases c36:(rd t116 x9_3)≥(t101.length:Int)
              ·rw[if_pos c36]at H
               have c36b0:decide ((t101.length:Int)≤(rd t116 x9_3))=true:=decide_eq_true c36;clear c36;have H':=Aside0.mk H;clear H;have p119:0≤(x9_3:Int):=of_decide_eq_true (by assumption)
               have q119:x9_3<(t116.length:Int):=of_decide_eq_true (by assumption)
               obtain⟨ad119,e119,hx119_0⟩:=Kd.at_int (Kd.R_reads' HO_8.out).2.2 x9_3 p119 q119;cases e119
               replace p119:=eq_true p119;replace q119:=eq_true q119;have p120:0≤(x9_3:Int):=of_decide_eq_true (by assumption)
               have q120:x9_3<(t116.length:Int):=of_decide_eq_true (by assumption)
               obtain⟨ad120,e120,hx120_0⟩:=Kd.at_int (Kd.R_reads' HO_8.out).2.2 x9_3 p120 q120;obtain rfl:ad119=ad120:=(by injection e120)
               replace p120:=eq_true p120;replace q120:=eq_true q120;go_wp2
               repeat(go_quiet (fail);try go_wp2)
               go_meet
               case rel=>exact⟨_,(true),(by first|rfl|(simp;done)|(simp[*];done)),H',⟨by have:=HJ2.out;have:=HJ7.out;have:=HK3.out;first|omega|exact Nat.le_refl _⟩,⟨by exact rU HO_5.out⟩,⟨by exact rU HO_8.out⟩,⟨by exact bU HB.out⟩⟩
              ·rw[if_neg c36]at H
               have c36b0:decide ((t101.length:Int)≤(rd t116 x9_3))=false:=decide_eq_false c36;clear c36;have c37b0:=eq_true (of_decide_eq_true (by assumption):0≤x9_3)
               by_cases c38:x9_3≤(t116.length:Int)
               ·rw[if_pos c38]at H
                have c38b0:=eq_true c38;have c38b1:decide (x9_3≤(t116.length:Int))=true:=decide_eq_true c38;clear c38;obtain⟨y121,hy121⟩: ∃y_:List Int,y_=(t116.take (x9_3:Int).toNat):=⟨_,rfl⟩;replace H:((laws_lvAmong.f k3 y121 (rd t116 x9_3)).bind fun t126=>(laws_FnNextTo.j3 k3 t101 t116 x9_3 t126))=some r:=by first|(rw[hy121];with_reducible exact H)|(have H2_:=(Option.bind_some _ _).symm.trans H;rw[hy121];with_reducible exact H2_)|(have H2_:=(Option.bind_some _ _).symm.trans H;with_reducible exact H2_)|with_reducible exact H|(rw[hy121];exact H)|exact H
                have Ny121:=Aside0.mk hy121;clear hy121;replace H:=Option.bind_eq_some_iff.mp H;obtain⟨t126,A390,H⟩:=H;replace H:(laws_FnNextTo.j3 k3 t101 t116 x9_3 t126)=some r:=H;have A39:=Aside0.mk A390;clear A390;have H':=Aside0.mk H;clear H;have p119:0≤(x9_3:Int):=of_decide_eq_true (by assumption)
                have q119:x9_3<(t116.length:Int):=of_decide_eq_true (by assumption)
                obtain⟨ad119,e119,hx119_0⟩:=Kd.at_int (Kd.R_reads' HO_8.out).2.2 x9_3 p119 q119;cases e119
                replace p119:=eq_true p119;replace q119:=eq_true q119;have p120:0≤(x9_3:Int):=of_decide_eq_true (by assumption)
                have q120:x9_3<(t116.length:Int):=of_decide_eq_true (by assumption)
                obtain⟨ad120,e120,hx120_0⟩:=Kd.at_int (Kd.R_reads' HO_8.out).2.2 x9_3 p120 q120;obtain rfl:ad119=ad120:=(by injection e120)
                replace p120:=eq_true p120;replace q120:=eq_true q120;have q40:(x9_3:Int)≤((t116.length:Int):Int):=of_decide_eq_true (by assumption)
                obtain⟨i040,hi040,_,hsz40,_⟩:=info_parts info3;have hroom40:t116.length≤co33:=(Kd.R_reads' HO_8.out).2.1;have hC40:Kd.C (Kd.int .i64) _ (some ad119) t116.length t116:=(Kd.R_reads' HO_8.out).2.2;have hcut40:=cut_to (P:=Try.prog) 32 3 .i64 Try.underlying32 hi040 (some ad119) t116.length co33 x9_3 (of_decide_eq_true (by assumption)) q40 hroom40
                have hr40:=Kd.C_take (m:=(x9_3:Int).toNat) hC40 (by omega)
                have hy40:y121.length=(x9_3:Int).toNat:=(by rw[Ny121.out,List.length_take];omega)
                rw[←Ny121.out]at hr40
                rw[←hy40]at hcut40
                have HR124:=Aside0.mk hr40;have HC124:=Aside0.mk (show y121.length≤co33 from by omega)
                clear hr40 hC40 hroom40 hi040 hsz40;have KY40:=Aside0.mk hy40;clear hy40;have KL40:=Aside0.mk (show(x9_3:Int).toNat≤t116.length from by omega)
                replace q40:=eq_true q40;have p125:0≤(x9_3:Int):=of_decide_eq_true (by assumption)
                have q125:x9_3<(t116.length:Int):=of_decide_eq_true (by assumption)
                obtain⟨ad125,e125,hx125_0⟩:=Kd.at_int (Kd.R_reads' HO_8.out).2.2 x9_3 p125 q125;obtain rfl:ad119=ad125:=(by injection e125)
                replace p125:=eq_true p125;replace q125:=eq_true q125;go_wp2_with (first|(go_at_call 55;(with_reducible refine(laws_lvAmong.calls k3 _ _ y121 (rd t116 x9_3) t126 _ ?side1 ?side2 A39.out).mono ?_);(case side1=>repeat(first|exact(by repeat(first|(with_reducible exact HR124.out)|(with_reducible refine Kd.C_alloc ?_ _)|(with_reducible refine Kd.C_drewN ?_ _)|(with_reducible refine Kd.C_drew ?_)|exact HR124.out))|(with_reducible refine Kd.C_alloc ?_ _)|(with_reducible refine Kd.C_drewN ?_ _)|(with_reducible refine Kd.C_drew ?_)));(case side2=>exact HC124.out);rintro e w' ⟨rfl,⟨nd,rfl⟩⟩;(try first|exact⟨rfl,_,World.drewN_drewN _ _ _⟩|exact⟨rfl,_,Eq.trans (World.drewN_drewN _ _ _) (congrArg (World.drewN _) (Nat.add_assoc _ _ _))⟩)))
                repeat(go_quiet (first|(go_at_call 55;(with_reducible refine(laws_lvAmong.calls k3 _ _ y121 (rd t116 x9_3) t126 _ ?side1 ?side2 A39.out).mono ?_);(case side1=>repeat(first|exact(by repeat(first|(with_reducible exact HR124.out)|(with_reducible refine Kd.C_alloc ?_ _)|(with_reducible refine Kd.C_drewN ?_ _)|(with_reducible refine Kd.C_drew ?_)|exact HR124.out))|(with_reducible refine Kd.C_alloc ?_ _)|(with_reducible refine Kd.C_drewN ?_ _)|(with_reducible refine Kd.C_drew ?_)));(case side2=>exact HC124.out);rintro e w' ⟨rfl,⟨nd,rfl⟩⟩;(try first|exact⟨rfl,_,World.drewN_drewN _ _ _⟩|exact⟨rfl,_,Eq.trans (World.drewN_drewN _ _ _) (congrArg (World.drewN _) (Nat.add_assoc _ _ _))⟩)));try go_wp2_with (first|(go_at_call 55;(with_reducible refine(laws_lvAmong.calls k3 _ _ y121 (rd t116 x9_3) t126 _ ?side1 ?side2 A39.out).mono ?_);(case side1=>repeat(first|exact(by repeat(first|(with_reducible exact HR124.out)|(with_reducible refine Kd.C_alloc ?_ _)|(with_reducible refine Kd.C_drewN ?_ _)|(with_reducible refine Kd.C_drew ?_)|exact HR124.out))|(with_reducible refine Kd.C_alloc ?_ _)|(with_reducible refine Kd.C_drewN ?_ _)|(with_reducible refine Kd.C_drew ?_)));(case side2=>exact HC124.out);rintro e w' ⟨rfl,⟨nd,rfl⟩⟩;(try first|exact⟨rfl,_,World.drewN_drewN _ _ _⟩|exact⟨rfl,_,Eq.trans (World.drewN_drewN _ _ _) (congrArg (World.drewN _) (Nat.add_assoc _ _ _))⟩))))
                go_meet
                case rel=>exact⟨_,(t126),(by first|rfl|(simp;done)|(simp[*];done)),H',⟨by have:=HJ2.out;have:=HJ7.out;have:=HK3.out;first|omega|exact Nat.le_refl _⟩,⟨by exact rU HO_5.out⟩,⟨by exact rU HO_8.out⟩,⟨by exact bU HB.out⟩⟩
               ·rw[if_neg c38]at H
                exact absurd H (by simp)
            ·rw[if_neg c34]at H
             exact absurd H (by simp)
           case rest=>
            clear HC32;(try clear c1);(try clear p1);(try clear q1);(try clear hx1);(try clear c2);(try clear p2);(try clear c3);(try clear c4);(try clear c4b0);(try clear c4b1);(try clear q4);(try clear c5);(try clear p11);(try clear q11);(try clear hx11);(try clear p12);(try clear q12);(try clear hx12);(try clear c13);(try clear c17);(try clear c22);(try clear c28);(try clear c28b0);(try clear c28b1);(try clear c28b2);(try clear c31);(try clear c31b0);(try clear c34);(try clear c34b0);(try clear c35);(try clear c35b0);(try clear c36);(try clear c36b0);(try clear c37);(try clear c37b0);(try clear c38);(try clear c38b0);(try clear c38b1);(try clear q40);(try clear hx119_0);(try clear hx120_0);(try clear hx125_0);(try clear p119);(try clear p120);(try clear p125);(try clear p2);(try clear q119);(try clear q120);(try clear q125);(try clear q40)
            obtain⟨kq,x78_31,rfl,HA,HJ31,HO_5,HO_8,HB⟩:=hcut;cases kq with
            |zero=>exact absurd HA.out (by simp[laws_FnNextTo.j3])
            |succ kj31=>
             have H:=HA.out;clear HA;simp only[laws_FnNextTo.j3]at H
             by_cases c41:x78_31=true
             ·subst c41
              have H1:(some false)=some r:=by rw[if_pos rfl]at H;exact H
              clear H;have H:=H1;clear H1;obtain rfl:=Option.some.inj H;go_wp2
              repeat(go_quiet (fail);try go_wp2)
              go_ret
              exact⟨by first|rfl|(simp[errW_none,errW_some]<;>rfl)|(simp[*,errW_none,errW_some]<;>rfl),by exact bU HB.out⟩
             ·replace c41:=Bool.eq_false_iff.mpr c41
              subst c41;have H1:(laws_FnNextTo.l0 kj31 t101 t116 (wrap64 (x9_3+1)))=some r:=by rw[if_neg (show¬(false=true) by decide)]at H;exact H
              clear H;have H:=H1;clear H1;have H':=Aside0.mk H;clear H;go_wp2
              repeat(go_quiet (fail);try go_wp2)
              go_roundg kj31
              case measure=>have:=HJ2.out;have:=HJ7.out;have:=HK3.out;have:=HJ31.out;omega
              case rel=>exact⟨(wrap64 (x9_3+1)),(by first|rfl|(simp;done)|(simp[*];done)),H',⟨by have:=HJ2.out;have:=HJ7.out;have:=HK3.out;have:=HJ31.out;omega⟩,⟨by exact rU HO_5.out⟩,⟨by exact rU HO_8.out⟩,⟨by exact bU HB.out⟩⟩
          ·rw[if_neg c31]at H
           have c31b0:decide (x9_3<(t116.length:Int))=false:=decide_eq_false c31;clear c31;obtain rfl:=Option.some.inj H;obtain⟨Ao42,co42,eo42⟩:=Kd.R_slice HO_8.out;subst eo42;go_wp2
           repeat(go_quiet (fail);try go_wp2)
           go_ret
           exact⟨by first|rfl|(simp[errW_none,errW_some]<;>rfl)|(simp[*,errW_none,errW_some]<;>rfl),by exact bU HB.out⟩
def laws_FnNextTo.Pure:Prop:= ∀ (l0:List Int) (l1:List Int),l0.length≤maxLen→l0.length*1≤140737488351232→(∀x∈l0,(Lit.int .u8 x).wf=true)→l1.length≤maxLen→l1.length*1≤140737488351232→(∀x∈l1,(Lit.int .u8 x).wf=true)→ ∃k,laws_FnNextTo.f k l0 l1=some true
theorem laws_FnNextTo.walk (P:laws_FnNextTo.Pure) (a0:Option Addr) (len0 cap0:Nat) (z0:List Int) (a1:Option Addr) (len1 cap1:Nat) (z1:List Int) (w:World) (w0:(a0=none∧len0=0∧cap0=0∧z0=[])∨ ∃x,a0=some x∧len0≤cap0∧cap0≤maxLen∧z0.length=cap0∧(∀i,i<z0.length→w.cell? (x.add i)=some (.int .u8 (z0.getD i 0)))∧ ∀n∈z0,(Lit.int .u8 n).wf=true) (y0:len0*1≤140737488351232) (w1:(a1=none∧len1=0∧cap1=0∧z1=[])∨ ∃x,a1=some x∧len1≤cap1∧cap1≤maxLen∧z1.length=cap1∧(∀i,i<z1.length→w.cell? (x.add i)=some (.int .u8 (z1.getD i 0)))∧ ∀n∈z1,(Lit.int .u8 n).wf=true) (y1:len1*1≤140737488351232):
  Calls Try.prog 17 #[.slice a0 len0 cap0,.slice a1 len1 cap1] w fun e w'=>e= .returned (.bool true)∧Below w.heap.size w w':=by
 obtain⟨l0,rfl,hr0,hm0,hw0,hc0⟩:=ReadsInt.ofRowC w0;obtain⟨l1,rfl,hr1,hm1,hw1,hc1⟩:=ReadsInt.ofRowC w1;obtain⟨k,h⟩:=P l0 l1 hm0 y0 hw0 hm1 y1 hw1;refine(laws_FnNextTo.calls k _ _ l0 _ _ l1 true w (Kd.C_of_reads (d:=(0:Int)) (h1:=fun _=>rfl) hr0) hc0 (Kd.C_of_reads (d:=(0:Int)) (h1:=fun _=>rfl) hr1) hc1 h).mono ?_
 rintro e w' ⟨rfl,hd⟩
 exact⟨rfl,hd⟩
end Go.Proofs.Ytmklpbmlgjkbiaa.PJE
end
section
namespace Go.Proofs.Ytmklpbmlgjkbiaa.Pure
open Go.RowKit Go.Proofs.Ytmklpbmlgjkbiaa.PJE Go.Proofs.Ytmklpbmlgjkbiaa.PS Go.Proofs.YtmklpbmlgjkbiaaW.PrintWords Go.Proofs.YtmklpbmlgjkbiaaW.PrintLast
theorem once_nodup (L:List (Int×Fl)):(onceL L).Nodup:=by
  have e: ∀ (L:List (Int×Fl)) (M:List Int),L.foldl (fun out a=>if a.1∈out then out else out++ [a.1]) M=addsL M (L.map (·.1)):=by
    intro L;induction L with
    |nil=>intro M;rfl
    |cons a L ih=>intro M;rw[List.foldl_cons,ih];rfl
  have e1:onceL L=addsL [] (L.map (·.1)):=e L []
  rw[e1];exact(adds_sub (L.map (·.1)) []).2.2.2.1 (by simp)
theorem nt_loop {l:List S29} {L:List Int} (hL:L.length≤2) (hb: ∀x∈L,0≤x∧x<l.length) (hn:L.Nodup) (d:Nat): ∀i,L.length-i=d→i≤L.length→Ev (fun k=>laws_FnNextTo.l0 k l L (i:Int)) true:=by
  induction d with
  |zero=>
    intro i hd hi;refine Ev.step (f:=fun k=>some true) (fun k=> ?_) (Ev.now _)
    simp only[laws_FnNextTo.l0]
    rw[if_neg (by omega),decide_eq_true (by omega)]
  |succ d ih=>
    intro i hd hi;have ih1:=ih (i+1) (by omega) (by omega)
    have hw:wrap64 ((i:Int)+1)=((i+1:Nat):Int):=by rw[w64 (by omega) (by omega)];rfl
    have hx:=hb L[i] (List.getElem_mem (by omega))
    refine Ev.step (f:=fun k=>(laws_lvAmong.f k (L.take i) (L[i]'(by omega))).bind fun t126=>laws_FnNextTo.j3 k l L (i:Int) t126) (fun k=> ?_) ?_
    · simp only[laws_FnNextTo.l0]
      rw[if_pos (by omega),if_pos (by omega),rd_at L i (by omega),if_neg (by omega),if_neg (by omega),if_pos (by omega),Int.toNat_natCast]
    · refine Ev.bind (lvAmong_ev _ _ (by rw[List.length_take];omega)) ?_
      have hno: ¬L[i]'(by omega)∈L.take i:=by
        intro h;obtain⟨j,hj,he⟩:=List.mem_iff_getElem.1 h;rw[List.length_take]at hj
        rw[List.getElem_take]at he
        exact List.pairwise_iff_getElem.1 hn j i (by omega) (by omega) (by omega) he
      rw[decide_eq_false hno];refine Ev.step (fun k=> ?_) ih1
      simp only[laws_FnNextTo.j3,Bool.false_eq_true,if_false,hw]
theorem FnNextTo:laws_FnNextTo.Pure:=by
  intro l0 l1 hm hr hw hm1 hr1 hw1;refine Ev.rounds ?_
  have no:Ev (fun k=>laws_FnNextTo.j0 k l0 l1 true) true:=by
    refine Ev.step (f:=fun k=>some true) (fun k=> ?_) (Ev.now _)
    simp only[laws_FnNextTo.j0,if_true]
  unfold laws_FnNextTo.f;by_cases hl:(l0.length:Int)>1048576
  · simp only[if_pos hl];exact no
  simp only[if_neg hl]
  by_cases hl1:(l1.length:Int)>1048576
  · rw[decide_eq_true hl1];exact no
  rw[decide_eq_false hl1];obtain⟨c,a,hc,hcl,ha,ha2⟩:=drawNext_ev hw;refine Ev.step (f:=fun k=>(spec_DrawCodeNext.f k l0).bind fun bt101=>((nextV.f bt101.1 bt101.2).bind fun t105=>((laws_lvInts.f k t105 t105).bind fun t110=>(if t110=true then((codeV.f bt101.1).bind fun t111=>(laws_FnNextTo.j1 k l1 bt101.1 bt101.2 t105 (!t111)))else(laws_FnNextTo.j1 k l1 bt101.1 bt101.2 t105 true))))) (fun k=> ?_) ?_
  · simp only[laws_FnNextTo.j0,Bool.false_eq_true,if_false]
  refine Ev.bind hc ?_
  obtain⟨r,hr'⟩: ∃r,nextV.f c a=some r:=⟨_,rfl⟩
  have hrl:r.length≤2:=by
    have h:=Option.some.inj hr';subst h;split
    · exact once_len2 _ _
    · simp
  simp only[hr',Option.bind_some]
  refine Ev.bind (lvInts_same _ (by omega)) ?_
  simp only[if_true,codeV.f,Option.bind_some]
  cases hk:codeB c with
  |false=>
    refine Ev.step (f:=fun k=>(laws_lvInts.f k r r).bind fun t115=>some t115) (fun k=> ?_) (Ev.bind (lvInts_same _ (by omega)) (Ev.now _))
    simp only[laws_FnNextTo.j1,Bool.not_false,if_true,hr',Option.bind_some]
  |true=>
    have hlen:=code_len hk;obtain⟨q,hq⟩:=Int.eq_ofNat_of_zero_le (Int.emod_nonneg (l1.length:Int) (show(c.length:Int)≠0 by omega))
    have hq2:(l1.length:Int)% (c.length:Int)<c.length:=Int.emod_lt_of_pos _ (by omega)
    have hqn:q<c.length:=by omega
    have hn:nextV.f c ((l1.length:Int)% (c.length:Int))=some (onceL (waysL c q)):=by
      rw[hq];unfold nextV.f;rw[if_pos ⟨hk,by omega,by omega⟩,Int.toNat_natCast]
    refine Ev.step (f:=fun k=>laws_FnNextTo.l0 k c (onceL (waysL c q)) 0) (fun k=> ?_) ?_
    · simp only[laws_FnNextTo.j1,Bool.not_true,Bool.false_eq_true,if_false]
      rw[if_neg (by omega),hn];rfl
    · refine nt_loop (once_len2 c q) (fun x hx=> ?_) (once_nodup _) _ 0 rfl (by omega)
      obtain⟨b,hb,rfl⟩:=mem_once.1 hx;have:=code_way hk hqn hb;exact⟨this.1,this.2.1⟩
end Go.Proofs.Ytmklpbmlgjkbiaa.Pure
end
