/- What the rows of KJ rest on, part 2. -/
import Derived.Test.YtmklpbmlgjkbiaaProg
import Derived.Laws.StructEq
import Derived.Deep.RegionWith
import Derived.Lib.Bytealg
import Derived.Shelf.Strings.Search3
import Derived.WalkSpells
import Derived.Lib.OthersKept
import Derived.Lib.Hide
import Derived.WalkSmall
import Derived.Laws.EntriesVeiled
import Derived.RegionTactic
import Derived.Test.YtmklpbmlgjkbiaaQKJ0
set_option linter.unusedVariables false
set_option linter.unusedSimpArgs false
set_option maxHeartbeats 8000000
set_option maxRecDepth 100000
section
namespace Go.Proofs.Ytmklpbmlgjkbiaa.PS
open Go.RowKit Go.Proofs.YtmklpbmlgjkbiaaW.PrintWords Go.Proofs.YtmklpbmlgjkbiaaW.PrintLast Go.Proofs.YtmklpbmlgjkbiaaW.PrintMore
attribute [local go_sem] max2_int min2_int max_two min_two max_three min_three max_four min_four   -- for this text's walks alone
theorem info4:(Try.prog.info? 4).map (fun i=>(i.zero,i.size,i.bytes))=some (some (.bool false),1,1):=by kernel_rfl
section
variable {α:Type} {d:Kd α} {e:Nat} {w:World} {base:Nat} {ok:Nat→Prop} {v:Value} {xs:List α}
end
end Go.Proofs.Ytmklpbmlgjkbiaa.PS
end
section
namespace Go.Proofs.Ytmklpbmlgjkbiaa.PS
open Go.RowKit Go.Proofs.YtmklpbmlgjkbiaaW.PrintWords Go.Proofs.YtmklpbmlgjkbiaaW.PrintLast
theorem rdn_at (l:List Int) (i:Nat) (h:i<l.length):rd l (i:Int)=l[i]:=by
  unfold rd;simp[List.getD_eq_getElem?_getD,List.getElem?_eq_getElem h]
def NumAt (x:Int) (l:List Int) (i:Int):Prop:=(0≤i∧x∈l)∨(i= -1∧ ¬x∈l)
theorem num_no {x:Int} {l:List Int} (h: ∀j,j<l.length→rd l (j:Nat)≠x):NumAt x l (-1):=by
  refine .inr ⟨rfl,fun hx=> ?_⟩
  obtain⟨j,hj,e⟩:=List.mem_iff_getElem.1 hx;exact h j hj (by rw[rdn_at l j hj];exact e)
theorem index_num (x:Int) (A0:Option Addr) (c0:Nat) (l0:List Int) (w:World) (hr0:Kd.C (Kd.int .i64) w A0 l0.length l0):
    Calls Try.prog 97 #[.slice A0 l0.length c0,.int .i64 x] w fun e w'=> ∃i,e= .returned (.int .i64 i)∧NumAt x l0 i∧Below w.heap.size w w':=by
  have hm:=Kd.C_max hr0;have HR0:=aS hr0;clear hr0;go_enter Try.func97,Try.ntmps97
  go_wp2
  go_loopg [5,8] l0.length (fun gg _ s8 wr=> ∃kk:Nat,kk≤l0.length∧l0.length-kk≤gg∧s8= .int .i64 kk∧Aside (Below w.heap.size w wr)∧Aside (∀j,j<kk→rd l0 (j:Nat)≠x))
  case atStart=>exact⟨0,Nat.zero_le _,by omega,rfl,Below.refl _ w,fun j hj=>absurd hj (Nat.not_lt_zero _)⟩
  case round=>
    obtain⟨kk,hkk,hgg,rfl,BW,A⟩:=hrel;by_cases hlt:kk<l0.length
    · have hltz:(kk:Int)<(l0.length:Int):=by omega
      have h0z:0≤(kk:Int):=by omega
      obtain⟨ad,e,x0⟩:=Kd.at_int HR0.out (kk:Int) h0z hltz;subst e;rw[Int.toNat_natCast]at x0
      replace x0:=(BW.out.cell (World.block_lt_of_cell? w _ x0)).trans x0;obtain⟨y,hy0⟩: ∃y,y=rd l0 (kk:Int):=⟨_,rfl⟩;rw[←hy0]at x0
      have hy:=aS hy0;clear hy0;by_cases hq:x=y
      · have hq1:(x==y)=true:=by simpa using hq
        go_wp2
        go_ret
        exact⟨_,rfl,.inl ⟨h0z,by rw[hq,hy.out,rdn_at l0 kk hlt];exact List.getElem_mem hlt⟩,BW.out⟩
      · have hq1:(x==y)=false:=by simpa using hq
        go_wp2
        go_roundg (l0.length- (kk+1))
        case measure=>omega
        case rel=>
          refine⟨kk+1,by omega,by omega,by go_num,BW,(show Aside _ from fun j hj=> ?_)⟩
          by_cases e:j=kk
          · subst e
            rw[←hy.out];exact fun e=>hq e.symm
          · exact A.out j (by omega)
    · have hltz: ¬(kk:Int)<(l0.length:Int):=by omega
      have:kk=l0.length:=by omega
      subst this;go_wp2
      go_ret
      exact⟨_,rfl,num_no A.out,BW.out⟩
theorem contains_num (x:Int) (A0:Option Addr) (c0:Nat) (l0:List Int) (w:World) (hr0:Kd.C (Kd.int .i64) w A0 l0.length l0):
    Calls Try.prog 78 #[.slice A0 l0.length c0,.int .i64 x] w fun e w'=>e= .returned (.bool (decide (x∈l0)))∧Below w.heap.size w w':=by
  have hx:=index_num x A0 c0 l0 w hr0;clear hr0;go_enter Try.func78,Try.ntmps78
  go_wp2_with (go_at_call 97;refine hx.mono ?_;rintro e w' ⟨i,rfl,hi,hb⟩)
  go_ret
  refine⟨?_,hb⟩
  rcases hi with ⟨h0,h1⟩|⟨rfl,h1⟩
  · rw[decide_eq_true h1];simp[h0]
  · rw[decide_eq_false h1];rfl
def nextV.f (l:List S29) (at_:Int):Option (List Int):=some (if codeB l=true∧0≤at_∧at_<l.length then onceL (waysL l at_.toNat)else [])
theorem next_no (A0:Option Addr) (c0:Nat) (l0:List S29) (a1:Int) (w:World) (hr0:Kd.C k29 w A0 l0.length l0) (hc0:l0.length≤c0) (h: ¬(codeB l0=true∧0≤a1∧a1<l0.length)):
    Calls Try.prog 39 #[.slice A0 l0.length c0,.int .i64 a1] w fun e w'=>e= .returned (.slice none 0 0)∧Below w.heap.size w w':=by
  have hm:=Kd.C_max hr0;have hOk:=impl_CodeOk.calls A0 c0 l0 (codeB l0) w hr0 hc0 rfl;clear hr0;cases hg:codeB l0 with
  |false=>
    rw[hg]at hOk
    clear h hg;go_enter Try.func39,Try.ntmps39
    go_wp2_with (first|(go_at_call 35;refine hOk.mono ?_;rintro e w' ⟨rfl,hb⟩))
    go_ret
    exact⟨rfl,hb⟩
  |true=>
    rw[hg]at hOk
    have b:decide (0≤a1∧a1≤(l0.length:Int)-1)=false:=decide_eq_false (fun k=>h ⟨hg,k.1,by omega⟩)
    clear h hg;go_enter Try.func39,Try.ntmps39
    go_wp2_with (first|(go_at_call 35;refine hOk.mono ?_;rintro e w' ⟨rfl,hb⟩)|(go_at_call 65;refine(in_any _ _ _ _).mono ?_;rintro e w'2 ⟨rfl,rfl⟩))
    go_ret
    exact⟨rfl,hb⟩
def NextRel (w w1:World) (L:List (Int×Fl)) (j:Nat) (v:Value) (wr:World):Prop:=
  Kd.R (Kd.int .i64) 3 wr w1.heap.size (fun _=>True) v (onceL (L.take j))∧Below w1.heap.size w1 wr
theorem next_yes (A0:Option Addr) (c0:Nat) (l0:List S29) (i:Nat) (w:World) (hr0:Kd.C k29 w A0 l0.length l0) (hc0:l0.length≤c0) (hg:codeB l0=true) (hi:i<l0.length):
    Calls Try.prog 39 #[.slice A0 l0.length c0,.int .i64 i] w fun e w'=> ∃v,e= .returned v∧Kd.R (Kd.int .i64) 3 w' w.heap.size (fun _=>True) v (onceL (waysL l0 i))∧Below w.heap.size w w':=by
  have hl:l0.length≤16:=by
    unfold codeB at hg;simp at hg;exact hg.1.2
  have hOk:=impl_CodeOk.calls A0 c0 l0 true w hr0 hc0 (by rw[←hg];rfl)
  have hAr:=fun W (hb:Below w.heap.size w W)=>impl_arrows A0 c0 l0 i W (Kd.C_below hr0 hb) hi hl
  have b:decide (0≤(i:Int)∧(i:Int)≤(l0.length:Int)-1)=true:=decide_eq_true (by omega)
  have b2:decide ((i:Int)≤(l0.length:Int)-1)=true:=decide_eq_true (by omega)
  have h2:=ways_two l0 i;generalize waysL l0 i=L at hAr h2⊢
  clear hr0 hg;go_enter Try.func39,Try.ntmps39
  go_wp2_with (first|(go_at_call 35;refine hOk.mono ?_;rintro e w' ⟨rfl,hb⟩;have HB:=aS hb;clear hb)|(go_at_call 65;refine(in_any _ _ _ _).mono ?_;rintro e w'2 ⟨rfl,rfl⟩)|(go_at_call 77;refine(hAr _ HB.out).mono ?_;rintro e w1 ⟨v,rfl,hown,hbox,hb1⟩;obtain⟨A,c,rfl,hA,hcells⟩:=way_at hown))
  go_loopg [5,23] L.length (fun gg s5 s23 wr=> ∃j:Nat,j≤L.length∧L.length-j≤gg∧s23= .int .i64 j∧Aside0 (NextRel w w1 L j s5 wr))
  case atStart=>exact⟨0,Nat.zero_le _,by omega,rfl,⟨Kd.R_nil _ _ _ _ _,Below.refl _ _⟩⟩
  case round=>
    obtain⟨j,hj,hgg,rfl,hR⟩:=hrel;by_cases hlt:j<L.length
    · have hltz:(j:Int)<(L.length:Int):=by omega
      have h0z:(0:Int)≤(j:Int):=by omega
      obtain⟨g,rfl,hg1,hg2,y0,y1⟩:=hcells j hlt;obtain⟨k1,k2⟩:=hR.out;replace y0:=(k2.cell (World.block_lt_of_cell? w1 _ y0)).trans y0;replace y1:=(k2.cell (World.block_lt_of_cell? w1 _ y1)).trans y1;have hstep:=aS (once_snoc L j hlt);obtain⟨to_,hto⟩: ∃x,x=L[j].1:=⟨_,rfl⟩;obtain⟨ff,lb,hfn⟩:=val_func w'.heap.size L[j].2;rw[←hto]at y0 hstep
      rw[hfn]at y1
      have hlen:=once_len L j;obtain⟨out,hout⟩: ∃x,x=onceL (L.take j):=⟨_,rfl⟩;rw[←hout]at hstep k1 hlen
      have K2:=aS k2;obtain⟨A5,c5,rfl⟩:=Kd.R_slice k1;have K1:=aS k1;clear k1 k2 hR hto hfn hout hcells hA hown hAr hOk hbox;by_cases hq:to_∈out
      · have hq1:decide (to_∈out)=true:=decide_eq_true hq
        go_wp2_with (first|(go_at_call 78;refine(contains_num _ _ _ _ _ ?hc).mono ?_;(case hc=>exact Kd.C_below (Kd.R_reads' K1.out).2.2 (below_alloc (Below.refl _ _) _));rintro e w'3 ⟨rfl,hb⟩;have hx:=blk_below (blk_new wr (.cells #[.int .i64 to_,.func (.func ff) #[] lb] 77)) hb;have z0:w'3.cell? ⟨wr.heap.size,0,none⟩=some (.int .i64 to_):=(blk_cell hx 0).trans rfl;have hbw:=aS (below_step (below_alloc (Below.refl wr.heap.size wr) _) hb);clear hx hb))
        go_roundg (L.length- (j+1))
        case measure=>omega
        case rel=>exact⟨j+1,by omega,by omega,by go_num,⟨by rw[hstep.out,if_pos hq];exact Kd.R_below K1.out hbw.out,below_step K2.out hbw.out⟩⟩
      · have hq1:decide (to_∈out)=false:=decide_eq_false hq
        obtain⟨i0,hi_,hz0,hz1,hz2⟩:=info_parts info3;have K3:=aS (Kd.own_of_R K1.out);have hlen2:out.length≤2:=by omega
        go_wp2_with (first|(go_at_call 78;refine(contains_num _ _ _ _ _ ?hc).mono ?_;(case hc=>exact Kd.C_below (Kd.R_reads' K1.out).2.2 (below_alloc (Below.refl _ _) _));rintro e w'3 ⟨rfl,hb⟩;have hx:=blk_below (blk_new wr (.cells #[.int .i64 to_,.func (.func ff) #[] lb] 77)) hb;have z0:w'3.cell? ⟨wr.heap.size,0,none⟩=some (.int .i64 to_):=(blk_cell hx 0).trans rfl;have hbw:=aS (below_step (below_alloc (Below.refl wr.heap.size wr) _) hb);clear hx hb)|(at_builtin;refine wpList_append_own _ rfl _ _ 32 rfl w1.heap.size 3 i0 (.int .i64 0) 1 8 Try.underlying32 hi_ hz0 hz1 hz2 rfl (by decide) _ _ _ rfl ((own_below K3.out hbw.out).alloc _) ⟨_,0,none⟩ 1 1 [.int .i64 to_] rfl rfl (cell_one_new _ _ _) (by simp[Value.oneCell']) (by unfold maxLen;omega) (by omega) (by have:=K2.out.size;have:=hbw.out.size;simp;omega) ?_;intro v' w9 hown' hgrow _))
        go_roundg (L.length- (j+1))
        case measure=>omega
        case rel=>
          have hO:=own_below K3.out hbw.out;have hB9:=(below_alloc (below_step K2.out hbw.out) _).grown hgrow (below_alloc (below_step K2.out hbw.out) _).size (fun b hb=>own_base hO b hb)
          refine⟨j+1,by omega,by omega,by go_num,⟨?_,hB9⟩⟩
          rw[hstep.out,if_neg hq];refine Kd.R_of_own ?_ (fun _ _=>trivial)
          have e:encs (Value.int .i64) (out++ [to_])=encs (Value.int .i64) out++ [.int .i64 to_]:=by simp[encs]
          rw[e,List.length_append];exact hown'
    · have hltz: ¬(j:Int)<(L.length:Int):=by omega
      obtain rfl:j=L.length:=by omega
      go_wp2
      go_ret
      obtain⟨k1,k2⟩:=hR.out;rw[List.take_length]at k1
      exact⟨_,rfl,Kd.R_lower k1 (by have:=HB.out.size;have:=hb1.size;omega),below_step (below_step HB.out hb1) k2⟩
theorem impl_CodeNext.calls (A0:Option Addr) (c0:Nat) (l0:List (S29)) (a1:Int) (r:List Int) (w:World) (hr0:Kd.C k29 w A0 l0.length l0) (hc0:l0.length≤c0) (h:nextV.f l0 a1=some r):
    Calls Try.prog 39 #[.slice A0 l0.length c0,.int .i64 a1] w fun e w'=> ∃v0_:Value,e= .returned (v0_)∧Kd.R (Kd.int .i64) 3 w' w.heap.size (fun _=>True) v0_ r∧Below w.heap.size w w':=by
  have h:=Option.some.inj h;by_cases hc:codeB l0=true∧0≤a1∧a1<l0.length
  · rw[if_pos hc]at h
    subst h;obtain⟨i,rfl⟩:=Int.eq_ofNat_of_zero_le hc.2.1;exact next_yes A0 c0 l0 i w hr0 hc0 hc.1 (by omega)
  · rw[if_neg hc]at h
    subst h;refine(next_no A0 c0 l0 a1 w hr0 hc0 hc).mono ?_
    rintro e w' ⟨rfl,hb⟩
    exact⟨_,rfl,Kd.R_nil _ _ _ _ _,hb⟩
end Go.Proofs.Ytmklpbmlgjkbiaa.PS
end
section
namespace Go.Proofs.Ytmklpbmlgjkbiaa.PS
open Go.RowKit Go.Proofs.YtmklpbmlgjkbiaaW.PrintWords Go.Proofs.YtmklpbmlgjkbiaaW.PrintLast Go.Proofs.YtmklpbmlgjkbiaaW.PrintMore
attribute [local go_sem] max2_int min2_int max_two min_two max_three min_three max_four min_four   -- for this text's walks alone
def laws_lvAmong.l0:Nat→List Int→Int→Int→Option (Bool)
 |0,_,_,_=>none
 |k+1,x0,x1,x5=>if x5<(x0.length:Int)then(if 0≤x5 then(if(rd x0 x5)=x1 then(some true)else(laws_lvAmong.l0 k x0 x1 (wrap64 (x5+1))))else(none))else(some false)
def laws_lvAmong.f (k:Nat) (l0:List Int) (a1:Int):Option (Bool):=laws_lvAmong.l0 k l0 a1 0
theorem laws_lvAmong.calls (k:Nat) (A0:Option Addr) (c0:Nat) (l0:List Int) (a1:Int) (r:Bool) (w:World) (hr0:Kd.C (Kd.int .i64) w A0 l0.length l0) (hc0:l0.length≤c0) (h:laws_lvAmong.f k l0 a1=some r):
  Calls Try.prog 55 #[.slice A0 l0.length c0,.int .i64 a1] w fun e w'=>e= .returned (.bool r)∧Drawn0 w w':=by
 have HR0:=aS hr0;have HC0:=aS hc0;clear hr0 hc0;have H:(laws_lvAmong.l0 k l0 a1 0)=some r:=h;clear h;have H':=aS H;clear H;go_enter Try.func55,Try.ntmps55
 go_wp2
 go_loopg [5] k (fun kq v5 w'=> ∃ (x5_1:Int),v5= .int .i64 x5_1∧Aside0 (laws_lvAmong.l0 kq l0 a1 x5_1=some r)∧Aside0 (kq≤k)∧Drawn0 w w')
 case atStart=>exact⟨(0),(by first|rfl|(simp;done)|(simp[*];done)),H',⟨Nat.le_refl _⟩,by repeat(first|exact Drawn0.refl _|apply Drawn0.step)⟩
 case round=>
  clear H';try clear p2
  obtain⟨x5_1,rfl,HA,HK1,⟨m1,rfl⟩⟩:=hrel;cases gk with
  |zero=>exact absurd HA.out (by simp[laws_lvAmong.l0])
  |succ k1=>
   have H:=HA.out;clear HA;simp only[laws_lvAmong.l0]at H
   by_cases c3:x5_1<(l0.length:Int)
   ·rw[if_pos c3]at H
    have c3b0:decide (x5_1<(l0.length:Int))=true:=decide_eq_true c3;clear c3;by_cases c4:0≤x5_1
    ·rw[if_pos c4]at H
     have c4b0:decide (0≤x5_1)=true:=decide_eq_true c4;clear c4;by_cases c5:(rd l0 x5_1)=a1
     ·rw[if_pos c5]at H
      have c5b0:((rd l0 x5_1)==a1)=true:=beq_iff_eq.mpr c5;have c5b1:((rd l0 x5_1) !=a1)=false:=bne_eq_false_iff_eq.mpr c5;clear c5;obtain rfl:=Option.some.inj H;have p583:0≤(x5_1:Int):=of_decide_eq_true (by assumption)
      have q583:x5_1<(l0.length:Int):=of_decide_eq_true (by assumption)
      obtain⟨ad583,e583,hx583_0⟩:=Kd.at_int HR0.out x5_1 p583 q583;cases e583
      replace p583:=eq_true p583;replace q583:=eq_true q583;go_wp2
      go_ret
      exact⟨by first|rfl|(simp;done)|(simp[*];done),by repeat(first|exact Drawn0.refl _|apply Drawn0.step)⟩
     ·rw[if_neg c5]at H
      have c5b0:((rd l0 x5_1)==a1)=false:=beq_eq_false_iff_ne.mpr c5;have c5b1:((rd l0 x5_1) !=a1)=true:=bne_iff_ne.mpr c5;have H':=aS H;clear H;have p583:0≤(x5_1:Int):=of_decide_eq_true (by assumption)
      have q583:x5_1<(l0.length:Int):=of_decide_eq_true (by assumption)
      obtain⟨ad583,e583,hx583_0⟩:=Kd.at_int HR0.out x5_1 p583 q583;cases e583
      replace p583:=eq_true p583;replace q583:=eq_true q583;go_wp2
      go_roundg k1
      case measure=>have:=HK1.out;omega
      case rel=>exact⟨(wrap64 (x5_1+1)),(by first|rfl|(simp;done)|(simp[*];done)),H',⟨by have:=HK1.out;omega⟩,by repeat(first|exact Drawn0.refl _|apply Drawn0.step)⟩
    ·rw[if_neg c4]at H
     exact absurd H (by simp)
   ·rw[if_neg c3]at H
    have c3b0:decide (x5_1<(l0.length:Int))=false:=decide_eq_false c3;clear c3;obtain rfl:=Option.some.inj H;go_wp2
    go_ret
    exact⟨by first|rfl|(simp;done)|(simp[*];done),by repeat(first|exact Drawn0.refl _|apply Drawn0.step)⟩
end Go.Proofs.Ytmklpbmlgjkbiaa.PS
end
section
namespace Go.Proofs.Ytmklpbmlgjkbiaa.PS
open Go.RowKit Go.Proofs.YtmklpbmlgjkbiaaW.PrintWords Go.Proofs.YtmklpbmlgjkbiaaW.PrintLast
theorem lvAmong_ev (L:List Int) (x:Int) (hm:L.length≤9223372036854775807):Ev (fun k=>laws_lvAmong.f k L x) (decide (x∈L)):=by
  have key: ∀d i,L.length-i=d→i≤L.length→Ev (fun k=>laws_lvAmong.l0 k L x (i:Int)) (decide (x∈L.drop i)):=by
    intro d;induction d with
    |zero=>
      intro i hi hi2;refine Ev.step (f:=fun k=>some false) (fun k=> ?_) (ev_eq (Ev.now _) ?_)
      · simp only[laws_lvAmong.l0];rw[if_neg (by omega)]
      · rw[List.drop_of_length_le (by omega)];simp
    |succ d ih=>
      intro i hi hi2;have ih1:=ih (i+1) (by omega) (by omega)
      have d0:L.drop i=L[i]'(by omega)::L.drop (i+1):=List.drop_eq_getElem_cons (by omega)
      rw[d0];by_cases he:L[i]'(by omega)=x
      · refine Ev.step (f:=fun k=>some true) (fun k=> ?_) (ev_eq (Ev.now _) ?_)
        · simp only[laws_lvAmong.l0];rw[if_pos (by omega),if_pos (by omega),rd_at L i (by omega),if_pos he]
        · rw[he];simp
      · refine ev_eq (Ev.step (fun k=> ?_) ih1) ?_
        · simp only[laws_lvAmong.l0];rw[if_pos (by omega),if_pos (by omega),rd_at L i (by omega),if_neg he,w64 (by omega) (by omega)];rfl
        · have he': ¬x=L[i]'(by omega):=fun h=>he h.symm
          exact decide_eq_decide.2 ⟨fun h=>List.mem_cons_of_mem _ h,fun h=>(List.mem_cons.1 h).resolve_left he'⟩
  have:=key L.length 0 (by omega) (by omega)
  show Ev (fun k=>laws_lvAmong.l0 k L x 0) _
  simpa using this
theorem in_way {l:List S29} {i:Nat} {a:Int×Fl} (h:a∈waysL l i):(a.1,flF a.2 (rd_T29 l i).f1)∈wayW l i:=List.mem_map.2 ⟨a,h,rfl⟩
theorem full_way {l:List S29} (hc:codeB l=true) {i:Nat} (hi:i<l.length) (h0:0≤at_ (fullL l) i) {a:Int×Fl} (ha:a∈waysL l i):
    0≤a.1∧a.1<l.length∧0≤at_ (fullL l) a.1∧both (at_ (fullL l) a.1) (flF a.2 (rd_T29 l i).f1 (at_ (fullL l) i))=at_ (fullL l) a.1:=by
  obtain⟨w0,w1, -⟩:=code_way hc hi ha;have hW:=wayW_good hc;exact⟨w0,w1,fix_goes hW (full_good hW) (full_fix hW) hi h0 (in_way ha),fix_way hW (full_good hW) (full_fix hW) hi h0 (in_way ha)⟩
theorem mem_reach {l:List S29} {i:Nat} (hi:i<l.length):(i:Int)∈reachL l ↔ 0≤at_ (fullL l) (i:Int):=by
  unfold reachL reachTo;constructor
  · intro h
    obtain⟨a,ha,hb⟩:=List.mem_map.1 h;obtain⟨h1,h2⟩:=List.mem_filter.1 ha;have:a=i:=by omega
    subst this;exact of_decide_eq_true h2
  · intro h
    exact List.mem_map.2 ⟨i,List.mem_filter.2 ⟨by simpa using hi,decide_eq_true h⟩,rfl⟩
end Go.Proofs.Ytmklpbmlgjkbiaa.PS
end
section
namespace Go.Proofs.Ytmklpbmlgjkbiaa.PJJ
open Go.RowKit Go.Proofs.YtmklpbmlgjkbiaaW.PrintWords Go.Proofs.YtmklpbmlgjkbiaaW.PrintLast Go.Proofs.YtmklpbmlgjkbiaaW.PrintMore Go.Proofs.Ytmklpbmlgjkbiaa.PS
attribute [local go_sem] max2_int min2_int max_two min_two max_three min_three max_four min_four   -- for this text's walks alone
theorem info4:(Try.prog.info? 4).map (fun i=>(i.zero,i.size,i.bytes))=some (some (.bool false),1,1):=by kernel_rfl
end Go.Proofs.Ytmklpbmlgjkbiaa.PJJ
end
section
namespace Go.Proofs.Ytmklpbmlgjkbiaa.PJJ
open Go.RowKit Go.Proofs.YtmklpbmlgjkbiaaW.PrintWords Go.Proofs.YtmklpbmlgjkbiaaW.PrintLast Go.Proofs.YtmklpbmlgjkbiaaW.PrintMore Go.Proofs.Ytmklpbmlgjkbiaa.PS
attribute [local go_sem] max2_int min2_int max_two min_two max_three min_three max_four min_four   -- for this text's walks alone
mutual
def laws_FnNextReach.j0:Nat→List (S29)→List Int→Bool→Option (Bool)
 |0,_,_,_=>none
 |k+1,x3,x4,x26=>if x26=true then((reachV.f x3).bind fun t110=>((laws_lvInts.f k x4 t110).bind fun t113=>(some t113)))else(if 0≤(x3.length:Int)then(if((x3.length:Int):Int).toNat≤281474976710656 then(laws_FnNextReach.l0 k x3 x4 (List.replicate ((x3.length:Int):Int).toNat false) 0)else(none))else(none))
def laws_FnNextReach.l0:Nat→List (S29)→List Int→List Bool→Int→Option (Bool)
 |0,_,_,_,_=>none
 |k+1,x3,x4,x5,x6=>if x6<(x4.length:Int)then(if 0≤x6 then((nextV.f x3 (rd x4 x6)).bind fun t118=>(laws_FnNextReach.l1 k x3 x4 x5 x6 t118 0))else(none))else(laws_FnNextReach.l2 k x4 x5 0)
def laws_FnNextReach.l1:Nat→List (S29)→List Int→List Bool→Int→List Int→Int→Option (Bool)
 |0,_,_,_,_,_,_=>none
 |k+1,x3,x4,x5,x6,x7,x8=>if x8<(x7.length:Int)then(if 0≤x8 then((laws_lvAmong.f k x4 (rd x7 x8)).bind fun t122=>(if t122=true then(if 0≤(rd x7 x8)then(if(rd x7 x8)<(x5.length:Int)then(laws_FnNextReach.l1 k x3 x4 (x5.set ((rd x7 x8):Int).toNat true) x6 x7 (wrap64 (x8+1)))else(none))else(none))else(some false)))else(none))else(laws_FnNextReach.l0 k x3 x4 x5 (wrap64 (x6+1)))
def laws_FnNextReach.l2:Nat→List Int→List Bool→Int→Option (Bool)
 |0,_,_,_=>none
 |k+1,x4,x5,x9=>if x9<(x4.length:Int)then(if 0≤x9 then(if(rd x4 x9)>0 then(if 0≤(rd x4 x9)then(if(rd x4 x9)<(x5.length:Int)then(if(rdOf false x5 (rd x4 x9)=true)then(if x9>0 then(if 0≤(wrap64 (x9-1))then(if(wrap64 (x9-1))<(x4.length:Int)then(laws_FnNextReach.j4 k x4 x5 x9 (decide ((rd x4 x9)≤(rd x4 (wrap64 (x9-1))))))else(none))else(none))else(laws_FnNextReach.j4 k x4 x5 x9 false))else(laws_FnNextReach.j4 k x4 x5 x9 true))else(none))else(none))else(if x9>0 then(if 0≤(wrap64 (x9-1))then(if(wrap64 (x9-1))<(x4.length:Int)then(laws_FnNextReach.j4 k x4 x5 x9 (decide ((rd x4 x9)≤(rd x4 (wrap64 (x9-1))))))else(none))else(none))else(laws_FnNextReach.j4 k x4 x5 x9 false)))else(none))else(some true)
def laws_FnNextReach.j4:Nat→List Int→List Bool→Int→Bool→Option (Bool)
 |0,_,_,_,_=>none
 |k+1,x4,x5,x9,x101=>if x101=true then(some false)else(laws_FnNextReach.l2 k x4 x5 (wrap64 (x9+1)))
end
def laws_FnNextReach.f (k:Nat) (l0:List Int):Option (Bool):=if(l0.length:Int)>1048576 then(some true)else((spec_DrawCodeReach.f k l0).bind fun t101=>((reachV.f t101).bind fun t104=>((laws_lvInts.f k t104 t104).bind fun t109=>(if t109=true then(laws_FnNextReach.j0 k t101 t104 ((t104.length:Int)==0))else(laws_FnNextReach.j0 k t101 t104 true)))))
theorem laws_FnNextReach.calls (k:Nat) (A0:Option Addr) (c0:Nat) (l0:List Int) (r:Bool) (w:World) (hr0:Kd.C (Kd.int .u8) w A0 l0.length l0) (hc0:l0.length≤c0) (h:laws_FnNextReach.f k l0=some r):
  Calls Try.prog 22 #[.slice A0 l0.length c0] w fun e w'=>e= .returned (.bool r)∧Below w.heap.size w w':=by
 have HR0:=aS hr0;have HC0:=aS hc0;clear hr0 hc0;have HB:=aS (Below.refl w.heap.size w);have H:(if(l0.length:Int)>1048576 then(some true)else((spec_DrawCodeReach.f k l0).bind fun t101=>((reachV.f t101).bind fun t104=>((laws_lvInts.f k t104 t104).bind fun t109=>(if t109=true then(laws_FnNextReach.j0 k t101 t104 ((t104.length:Int)==0))else(laws_FnNextReach.j0 k t101 t104 true))))))=some r:=h
 clear h;by_cases c2:(l0.length:Int)>1048576
 ·rw[if_pos c2]at H
  have c2b0:decide (1048576<(l0.length:Int))=true:=decide_eq_true c2;have c2b1:decide (1048576<l0.length)=true:=decide_eq_true (by omega)
  clear c2;obtain rfl:=Option.some.inj H;go_enter Try.func22,Try.ntmps22
  go_wp2
  repeat(go_quiet (fail);try go_wp2)
  go_ret
  exact⟨by first|rfl|(simp[*]<;>rfl),by exact bU HB.out⟩
 ·rw[if_neg c2]at H
  have c2b0:decide (1048576<(l0.length:Int))=false:=decide_eq_false c2;have c2b1:decide (1048576<l0.length)=false:=decide_eq_false (by omega)
  clear c2;replace H:=Option.bind_eq_some_iff.mp H;obtain⟨t101,A30,H⟩:=H;replace H:((reachV.f t101).bind fun t104=>((laws_lvInts.f k t104 t104).bind fun t109=>(if t109=true then(laws_FnNextReach.j0 k t101 t104 ((t104.length:Int)==0))else(laws_FnNextReach.j0 k t101 t104 true))))=some r:=H
  have A3:=aS A30;clear A30;replace H:=Option.bind_eq_some_iff.mp H;obtain⟨t104,A40,H⟩:=H;replace H:((laws_lvInts.f k t104 t104).bind fun t109=>(if t109=true then(laws_FnNextReach.j0 k t101 t104 ((t104.length:Int)==0))else(laws_FnNextReach.j0 k t101 t104 true)))=some r:=H
  have A4:=aS A40;clear A40;have HC5:=aS H;clear H;go_enter Try.func22,Try.ntmps22
  go_upto_region 5 with (first|(go_at_call 56;(with_reducible refine(spec_DrawCodeReach.calls k _ _ l0 t101 _ ?side1 ?side2 A3.out).mono ?_);(case side1=>exact CU HR0.out);(case side2=>exact HC0.out);rintro e w6 ⟨v102,rfl,ho0,hb⟩;have HO103:=aS (Kd.R_lower ho0 (below_size (by exact bU HB.out)));replace HB:=aS (below_step (by exact bU HB.out) hb);(try clear hb);(try clear ho0);obtain⟨Ao7,co7,eo7⟩:=Kd.R_slice HO103.out;subst eo7)|(go_at_call 42;(with_reducible refine(impl_CodeReach_as.calls _ _ t101 t104 _ ?side1 ?side2 A4.out).mono ?_);(case side1=>exact CU (Kd.R_reads' HO103.out).2.2);(case side2=>exact(Kd.R_reads' HO103.out).2.1);rintro e w8 ⟨v105,rfl,ho0,hb⟩;replace HO103:=aS (Kd.R_below (by exact rU HO103.out) hb);have HO106:=aS (Kd.R_lower ho0 (below_size (by exact bU HB.out)));replace HB:=aS (below_step (by exact bU HB.out) hb);(try clear hb);(try clear ho0)))
  repeat(go_quiet (first|(go_at_call 56;(with_reducible refine(spec_DrawCodeReach.calls k _ _ l0 t101 _ ?side1 ?side2 A3.out).mono ?_);(case side1=>exact CU HR0.out);(case side2=>exact HC0.out);rintro e w6 ⟨v102,rfl,ho0,hb⟩;have HO103:=aS (Kd.R_lower ho0 (below_size (by exact bU HB.out)));replace HB:=aS (below_step (by exact bU HB.out) hb);(try clear hb);(try clear ho0);obtain⟨Ao7,co7,eo7⟩:=Kd.R_slice HO103.out;subst eo7)|(go_at_call 42;(with_reducible refine(impl_CodeReach_as.calls _ _ t101 t104 _ ?side1 ?side2 A4.out).mono ?_);(case side1=>exact CU (Kd.R_reads' HO103.out).2.2);(case side2=>exact(Kd.R_reads' HO103.out).2.1);rintro e w8 ⟨v105,rfl,ho0,hb⟩;replace HO103:=aS (Kd.R_below (by exact rU HO103.out) hb);have HO106:=aS (Kd.R_lower ho0 (below_size (by exact bU HB.out)));replace HB:=aS (below_step (by exact bU HB.out) hb);(try clear hb);(try clear ho0)));go_upto_region 5 with (first|(go_at_call 56;(with_reducible refine(spec_DrawCodeReach.calls k _ _ l0 t101 _ ?side1 ?side2 A3.out).mono ?_);(case side1=>exact CU HR0.out);(case side2=>exact HC0.out);rintro e w6 ⟨v102,rfl,ho0,hb⟩;have HO103:=aS (Kd.R_lower ho0 (below_size (by exact bU HB.out)));replace HB:=aS (below_step (by exact bU HB.out) hb);(try clear hb);(try clear ho0);obtain⟨Ao7,co7,eo7⟩:=Kd.R_slice HO103.out;subst eo7)|(go_at_call 42;(with_reducible refine(impl_CodeReach_as.calls _ _ t101 t104 _ ?side1 ?side2 A4.out).mono ?_);(case side1=>exact CU (Kd.R_reads' HO103.out).2.2);(case side2=>exact(Kd.R_reads' HO103.out).2.1);rintro e w8 ⟨v105,rfl,ho0,hb⟩;replace HO103:=aS (Kd.R_below (by exact rU HO103.out) hb);have HO106:=aS (Kd.R_lower ho0 (below_size (by exact bU HB.out)));replace HB:=aS (below_step (by exact bU HB.out) hb);(try clear hb);(try clear ho0))))
  (try simp only[Act.put,List.setIfInBounds_toArray,List.set_cons_zero,List.set_cons_succ])
  go_cut [26] (fun v26 wc=> ∃ (kq:Nat) (x26_4:Bool),v26= .bool x26_4∧Aside0 (laws_FnNextReach.j0 kq t101 t104 x26_4=some r)∧Aside0 (kq≤k)∧Aside0 (Kd.R k29 29 wc w.heap.size (fun _=>True) (.slice Ao7 t101.length co7) t101)∧Aside0 (Kd.R (Kd.int .i64) 3 wc w.heap.size (fun _=>True) v105 t104)∧Aside0 (Below w.heap.size w wc))
  case first=>
   have H:=HC5.out;clear HC5;replace H:=Option.bind_eq_some_iff.mp H;obtain⟨t109,A90,H⟩:=H;replace H:(if t109=true then(laws_FnNextReach.j0 k t101 t104 ((t104.length:Int)==0))else(laws_FnNextReach.j0 k t101 t104 true))=some r:=H
   have A9:=aS A90;clear A90;by_cases c10:t109=true
   ·subst c10
    have H1:(laws_FnNextReach.j0 k t101 t104 ((t104.length:Int)==0))=some r:=by rw[if_pos rfl]at H;exact H
    clear H;have H:=H1;clear H1;have H':=aS H;clear H;go_wp2_with (first|(go_at_call 41;(with_reducible refine(spec_CodeReach_as.calls _ _ t101 t104 _ ?side1 ?side2 A4.out).mono ?_);(case side1=>exact CU (Kd.R_reads' HO103.out).2.2);(case side2=>exact(Kd.R_reads' HO103.out).2.1);rintro e w11 ⟨v107,rfl,ho0,hb⟩;have n0_:=aS (Kd.R_below (by exact rU HO103.out) hb);have n1_:=aS (Kd.R_elder' (by exact rU HO106.out) (Kd.R_base ho0) hb);have n2_:=aS (Kd.R_lower (Kd.R_new' ho0 (Kd.R_lt (by exact rU HO106.out))) (below_size (by exact bU HB.out)));have n3_:=aS (below_step (by exact bU HB.out) hb);clear HO103;clear HO106;clear HB;have HO103:=n0_;have HO106:=n1_;have HO108:=n2_;have HB:=n3_;clear n0_ n1_ n2_ n3_;(try clear hb);(try clear ho0);obtain⟨Ao12,co12,eo12⟩:=Kd.R_slice HO106.out;subst eo12;obtain⟨Ao13,co13,eo13⟩:=Kd.R_slice HO108.out;subst eo13)|(go_at_call 49;(with_reducible refine(laws_lvInts.calls k _ _ t104 _ _ t104 true _ ?side1 ?side2 ?side3 ?side4 A9.out).mono ?_);(case side1=>exact CU (Kd.R_reads' HO106.out).2.2);(case side2=>exact(Kd.R_reads' HO106.out).2.1);(case side3=>exact CU (Kd.R_reads' HO108.out).2.2);(case side4=>exact(Kd.R_reads' HO108.out).2.1);rintro e w' ⟨rfl,⟨nd,rfl⟩⟩;(try first|exact⟨rfl,_,World.drewN_drewN _ _ _⟩|exact⟨rfl,_,Eq.trans (World.drewN_drewN _ _ _) (congrArg (World.drewN _) (Nat.add_assoc _ _ _))⟩)))
    repeat(go_quiet (first|(go_at_call 41;(with_reducible refine(spec_CodeReach_as.calls _ _ t101 t104 _ ?side1 ?side2 A4.out).mono ?_);(case side1=>exact CU (Kd.R_reads' HO103.out).2.2);(case side2=>exact(Kd.R_reads' HO103.out).2.1);rintro e w11 ⟨v107,rfl,ho0,hb⟩;have n0_:=aS (Kd.R_below (by exact rU HO103.out) hb);have n1_:=aS (Kd.R_elder' (by exact rU HO106.out) (Kd.R_base ho0) hb);have n2_:=aS (Kd.R_lower (Kd.R_new' ho0 (Kd.R_lt (by exact rU HO106.out))) (below_size (by exact bU HB.out)));have n3_:=aS (below_step (by exact bU HB.out) hb);clear HO103;clear HO106;clear HB;have HO103:=n0_;have HO106:=n1_;have HO108:=n2_;have HB:=n3_;clear n0_ n1_ n2_ n3_;(try clear hb);(try clear ho0);obtain⟨Ao12,co12,eo12⟩:=Kd.R_slice HO106.out;subst eo12;obtain⟨Ao13,co13,eo13⟩:=Kd.R_slice HO108.out;subst eo13)|(go_at_call 49;(with_reducible refine(laws_lvInts.calls k _ _ t104 _ _ t104 true _ ?side1 ?side2 ?side3 ?side4 A9.out).mono ?_);(case side1=>exact CU (Kd.R_reads' HO106.out).2.2);(case side2=>exact(Kd.R_reads' HO106.out).2.1);(case side3=>exact CU (Kd.R_reads' HO108.out).2.2);(case side4=>exact(Kd.R_reads' HO108.out).2.1);rintro e w' ⟨rfl,⟨nd,rfl⟩⟩;(try first|exact⟨rfl,_,World.drewN_drewN _ _ _⟩|exact⟨rfl,_,Eq.trans (World.drewN_drewN _ _ _) (congrArg (World.drewN _) (Nat.add_assoc _ _ _))⟩)));try go_wp2_with (first|(go_at_call 41;(with_reducible refine(spec_CodeReach_as.calls _ _ t101 t104 _ ?side1 ?side2 A4.out).mono ?_);(case side1=>exact CU (Kd.R_reads' HO103.out).2.2);(case side2=>exact(Kd.R_reads' HO103.out).2.1);rintro e w11 ⟨v107,rfl,ho0,hb⟩;have n0_:=aS (Kd.R_below (by exact rU HO103.out) hb);have n1_:=aS (Kd.R_elder' (by exact rU HO106.out) (Kd.R_base ho0) hb);have n2_:=aS (Kd.R_lower (Kd.R_new' ho0 (Kd.R_lt (by exact rU HO106.out))) (below_size (by exact bU HB.out)));have n3_:=aS (below_step (by exact bU HB.out) hb);clear HO103;clear HO106;clear HB;have HO103:=n0_;have HO106:=n1_;have HO108:=n2_;have HB:=n3_;clear n0_ n1_ n2_ n3_;(try clear hb);(try clear ho0);obtain⟨Ao12,co12,eo12⟩:=Kd.R_slice HO106.out;subst eo12;obtain⟨Ao13,co13,eo13⟩:=Kd.R_slice HO108.out;subst eo13)|(go_at_call 49;(with_reducible refine(laws_lvInts.calls k _ _ t104 _ _ t104 true _ ?side1 ?side2 ?side3 ?side4 A9.out).mono ?_);(case side1=>exact CU (Kd.R_reads' HO106.out).2.2);(case side2=>exact(Kd.R_reads' HO106.out).2.1);(case side3=>exact CU (Kd.R_reads' HO108.out).2.2);(case side4=>exact(Kd.R_reads' HO108.out).2.1);rintro e w' ⟨rfl,⟨nd,rfl⟩⟩;(try first|exact⟨rfl,_,World.drewN_drewN _ _ _⟩|exact⟨rfl,_,Eq.trans (World.drewN_drewN _ _ _) (congrArg (World.drewN _) (Nat.add_assoc _ _ _))⟩))))
    go_meet
    case rel=>exact⟨_,(((t104.length:Int)==0)),(by first|rfl|(simp;done)|(simp[*];done)),H',⟨by first|omega|exact Nat.le_refl _⟩,⟨by exact rU HO103.out⟩,⟨by exact rU (Kd.R_mono HO106.out (fun _ hk=>trivial))⟩,⟨by exact bU HB.out⟩⟩
   ·replace c10:=Bool.eq_false_iff.mpr c10
    subst c10;have H1:(laws_FnNextReach.j0 k t101 t104 true)=some r:=by rw[if_neg (show¬(false=true) by decide)]at H;exact H
    clear H;have H:=H1;clear H1;have H':=aS H;clear H;go_wp2_with (first|(go_at_call 41;(with_reducible refine(spec_CodeReach_as.calls _ _ t101 t104 _ ?side1 ?side2 A4.out).mono ?_);(case side1=>exact CU (Kd.R_reads' HO103.out).2.2);(case side2=>exact(Kd.R_reads' HO103.out).2.1);rintro e w14 ⟨v107,rfl,ho0,hb⟩;have n0_:=aS (Kd.R_below (by exact rU HO103.out) hb);have n1_:=aS (Kd.R_elder' (by exact rU HO106.out) (Kd.R_base ho0) hb);have n2_:=aS (Kd.R_lower (Kd.R_new' ho0 (Kd.R_lt (by exact rU HO106.out))) (below_size (by exact bU HB.out)));have n3_:=aS (below_step (by exact bU HB.out) hb);clear HO103;clear HO106;clear HB;have HO103:=n0_;have HO106:=n1_;have HO108:=n2_;have HB:=n3_;clear n0_ n1_ n2_ n3_;(try clear hb);(try clear ho0);obtain⟨Ao15,co15,eo15⟩:=Kd.R_slice HO106.out;subst eo15;obtain⟨Ao16,co16,eo16⟩:=Kd.R_slice HO108.out;subst eo16)|(go_at_call 49;(with_reducible refine(laws_lvInts.calls k _ _ t104 _ _ t104 false _ ?side1 ?side2 ?side3 ?side4 A9.out).mono ?_);(case side1=>exact CU (Kd.R_reads' HO106.out).2.2);(case side2=>exact(Kd.R_reads' HO106.out).2.1);(case side3=>exact CU (Kd.R_reads' HO108.out).2.2);(case side4=>exact(Kd.R_reads' HO108.out).2.1);rintro e w' ⟨rfl,⟨nd,rfl⟩⟩;(try first|exact⟨rfl,_,World.drewN_drewN _ _ _⟩|exact⟨rfl,_,Eq.trans (World.drewN_drewN _ _ _) (congrArg (World.drewN _) (Nat.add_assoc _ _ _))⟩)))
    repeat(go_quiet (first|(go_at_call 41;(with_reducible refine(spec_CodeReach_as.calls _ _ t101 t104 _ ?side1 ?side2 A4.out).mono ?_);(case side1=>exact CU (Kd.R_reads' HO103.out).2.2);(case side2=>exact(Kd.R_reads' HO103.out).2.1);rintro e w14 ⟨v107,rfl,ho0,hb⟩;have n0_:=aS (Kd.R_below (by exact rU HO103.out) hb);have n1_:=aS (Kd.R_elder' (by exact rU HO106.out) (Kd.R_base ho0) hb);have n2_:=aS (Kd.R_lower (Kd.R_new' ho0 (Kd.R_lt (by exact rU HO106.out))) (below_size (by exact bU HB.out)));have n3_:=aS (below_step (by exact bU HB.out) hb);clear HO103;clear HO106;clear HB;have HO103:=n0_;have HO106:=n1_;have HO108:=n2_;have HB:=n3_;clear n0_ n1_ n2_ n3_;(try clear hb);(try clear ho0);obtain⟨Ao15,co15,eo15⟩:=Kd.R_slice HO106.out;subst eo15;obtain⟨Ao16,co16,eo16⟩:=Kd.R_slice HO108.out;subst eo16)|(go_at_call 49;(with_reducible refine(laws_lvInts.calls k _ _ t104 _ _ t104 false _ ?side1 ?side2 ?side3 ?side4 A9.out).mono ?_);(case side1=>exact CU (Kd.R_reads' HO106.out).2.2);(case side2=>exact(Kd.R_reads' HO106.out).2.1);(case side3=>exact CU (Kd.R_reads' HO108.out).2.2);(case side4=>exact(Kd.R_reads' HO108.out).2.1);rintro e w' ⟨rfl,⟨nd,rfl⟩⟩;(try first|exact⟨rfl,_,World.drewN_drewN _ _ _⟩|exact⟨rfl,_,Eq.trans (World.drewN_drewN _ _ _) (congrArg (World.drewN _) (Nat.add_assoc _ _ _))⟩)));try go_wp2_with (first|(go_at_call 41;(with_reducible refine(spec_CodeReach_as.calls _ _ t101 t104 _ ?side1 ?side2 A4.out).mono ?_);(case side1=>exact CU (Kd.R_reads' HO103.out).2.2);(case side2=>exact(Kd.R_reads' HO103.out).2.1);rintro e w14 ⟨v107,rfl,ho0,hb⟩;have n0_:=aS (Kd.R_below (by exact rU HO103.out) hb);have n1_:=aS (Kd.R_elder' (by exact rU HO106.out) (Kd.R_base ho0) hb);have n2_:=aS (Kd.R_lower (Kd.R_new' ho0 (Kd.R_lt (by exact rU HO106.out))) (below_size (by exact bU HB.out)));have n3_:=aS (below_step (by exact bU HB.out) hb);clear HO103;clear HO106;clear HB;have HO103:=n0_;have HO106:=n1_;have HO108:=n2_;have HB:=n3_;clear n0_ n1_ n2_ n3_;(try clear hb);(try clear ho0);obtain⟨Ao15,co15,eo15⟩:=Kd.R_slice HO106.out;subst eo15;obtain⟨Ao16,co16,eo16⟩:=Kd.R_slice HO108.out;subst eo16)|(go_at_call 49;(with_reducible refine(laws_lvInts.calls k _ _ t104 _ _ t104 false _ ?side1 ?side2 ?side3 ?side4 A9.out).mono ?_);(case side1=>exact CU (Kd.R_reads' HO106.out).2.2);(case side2=>exact(Kd.R_reads' HO106.out).2.1);(case side3=>exact CU (Kd.R_reads' HO108.out).2.2);(case side4=>exact(Kd.R_reads' HO108.out).2.1);rintro e w' ⟨rfl,⟨nd,rfl⟩⟩;(try first|exact⟨rfl,_,World.drewN_drewN _ _ _⟩|exact⟨rfl,_,Eq.trans (World.drewN_drewN _ _ _) (congrArg (World.drewN _) (Nat.add_assoc _ _ _))⟩))))
    go_meet
    case rel=>exact⟨_,(true),(by first|rfl|(simp;done)|(simp[*];done)),H',⟨by first|omega|exact Nat.le_refl _⟩,⟨by exact rU HO103.out⟩,⟨by exact rU (Kd.R_mono HO106.out (fun _ hk=>trivial))⟩,⟨by exact bU HB.out⟩⟩
  case rest=>
   clear HC5;(try clear c1);(try clear c2);(try clear c2b0);(try clear c2b1);(try clear p2);(try clear c10)
   obtain⟨kq,x26_4,rfl,HA,HJ4,HO_3,HO_4,HB⟩:=hcut;cases kq with
   |zero=>exact absurd HA.out (by simp[laws_FnNextReach.j0])
   |succ kj4=>
    have H:=HA.out;clear HA;simp only[laws_FnNextReach.j0]at H
    by_cases c17:x26_4=true
    ·subst c17
     have H1:((reachV.f t101).bind fun t110=>((laws_lvInts.f kj4 t104 t110).bind fun t113=>(some t113)))=some r:=by rw[if_pos rfl]at H;exact H
     clear H;have H:=H1;clear H1;replace H:=Option.bind_eq_some_iff.mp H;obtain⟨t110,A180,H⟩:=H;replace H:((laws_lvInts.f kj4 t104 t110).bind fun t113=>(some t113))=some r:=H
     have A18:=aS A180;clear A180;replace H:=Option.bind_eq_some_iff.mp H;obtain⟨t113,A190,H⟩:=H;replace H:(some t113)=some r:=H;have A19:=aS A190;clear A190;obtain rfl:=Option.some.inj H;go_wp2_with (first|(go_at_call 41;(with_reducible refine(spec_CodeReach_as.calls _ _ t101 t110 _ ?side1 ?side2 A18.out).mono ?_);(case side1=>exact CU (Kd.R_reads' HO_3.out).2.2);(case side2=>exact(Kd.R_reads' HO_3.out).2.1);rintro e w20 ⟨v111,rfl,ho0,hb⟩;have n0_:=aS (Kd.R_below (by exact rU HO_3.out) hb);have n1_:=aS (Kd.R_elder' (by exact rU HO_4.out) (Kd.R_base ho0) hb);have n2_:=aS (Kd.R_lower (Kd.R_new' ho0 (Kd.R_lt (by exact rU HO_4.out))) (below_size (by exact bU HB.out)));have n3_:=aS (below_step (by exact bU HB.out) hb);clear HO_3;clear HO_4;clear HB;have HO_3:=n0_;have HO_4:=n1_;have HO112:=n2_;have HB:=n3_;clear n0_ n1_ n2_ n3_;(try clear hb);(try clear ho0);obtain⟨Ao21,co21,eo21⟩:=Kd.R_slice HO_4.out;subst eo21;obtain⟨Ao22,co22,eo22⟩:=Kd.R_slice HO112.out;subst eo22)|(go_at_call 49;(with_reducible refine(laws_lvInts.calls kj4 _ _ t104 _ _ t110 t113 _ ?side1 ?side2 ?side3 ?side4 A19.out).mono ?_);(case side1=>exact CU (Kd.R_reads' HO_4.out).2.2);(case side2=>exact(Kd.R_reads' HO_4.out).2.1);(case side3=>exact CU (Kd.R_reads' HO112.out).2.2);(case side4=>exact(Kd.R_reads' HO112.out).2.1);rintro e w' ⟨rfl,⟨nd,rfl⟩⟩;(try first|exact⟨rfl,_,World.drewN_drewN _ _ _⟩|exact⟨rfl,_,Eq.trans (World.drewN_drewN _ _ _) (congrArg (World.drewN _) (Nat.add_assoc _ _ _))⟩)))
     repeat(go_quiet (first|(go_at_call 41;(with_reducible refine(spec_CodeReach_as.calls _ _ t101 t110 _ ?side1 ?side2 A18.out).mono ?_);(case side1=>exact CU (Kd.R_reads' HO_3.out).2.2);(case side2=>exact(Kd.R_reads' HO_3.out).2.1);rintro e w20 ⟨v111,rfl,ho0,hb⟩;have n0_:=aS (Kd.R_below (by exact rU HO_3.out) hb);have n1_:=aS (Kd.R_elder' (by exact rU HO_4.out) (Kd.R_base ho0) hb);have n2_:=aS (Kd.R_lower (Kd.R_new' ho0 (Kd.R_lt (by exact rU HO_4.out))) (below_size (by exact bU HB.out)));have n3_:=aS (below_step (by exact bU HB.out) hb);clear HO_3;clear HO_4;clear HB;have HO_3:=n0_;have HO_4:=n1_;have HO112:=n2_;have HB:=n3_;clear n0_ n1_ n2_ n3_;(try clear hb);(try clear ho0);obtain⟨Ao21,co21,eo21⟩:=Kd.R_slice HO_4.out;subst eo21;obtain⟨Ao22,co22,eo22⟩:=Kd.R_slice HO112.out;subst eo22)|(go_at_call 49;(with_reducible refine(laws_lvInts.calls kj4 _ _ t104 _ _ t110 t113 _ ?side1 ?side2 ?side3 ?side4 A19.out).mono ?_);(case side1=>exact CU (Kd.R_reads' HO_4.out).2.2);(case side2=>exact(Kd.R_reads' HO_4.out).2.1);(case side3=>exact CU (Kd.R_reads' HO112.out).2.2);(case side4=>exact(Kd.R_reads' HO112.out).2.1);rintro e w' ⟨rfl,⟨nd,rfl⟩⟩;(try first|exact⟨rfl,_,World.drewN_drewN _ _ _⟩|exact⟨rfl,_,Eq.trans (World.drewN_drewN _ _ _) (congrArg (World.drewN _) (Nat.add_assoc _ _ _))⟩)));try go_wp2_with (first|(go_at_call 41;(with_reducible refine(spec_CodeReach_as.calls _ _ t101 t110 _ ?side1 ?side2 A18.out).mono ?_);(case side1=>exact CU (Kd.R_reads' HO_3.out).2.2);(case side2=>exact(Kd.R_reads' HO_3.out).2.1);rintro e w20 ⟨v111,rfl,ho0,hb⟩;have n0_:=aS (Kd.R_below (by exact rU HO_3.out) hb);have n1_:=aS (Kd.R_elder' (by exact rU HO_4.out) (Kd.R_base ho0) hb);have n2_:=aS (Kd.R_lower (Kd.R_new' ho0 (Kd.R_lt (by exact rU HO_4.out))) (below_size (by exact bU HB.out)));have n3_:=aS (below_step (by exact bU HB.out) hb);clear HO_3;clear HO_4;clear HB;have HO_3:=n0_;have HO_4:=n1_;have HO112:=n2_;have HB:=n3_;clear n0_ n1_ n2_ n3_;(try clear hb);(try clear ho0);obtain⟨Ao21,co21,eo21⟩:=Kd.R_slice HO_4.out;subst eo21;obtain⟨Ao22,co22,eo22⟩:=Kd.R_slice HO112.out;subst eo22)|(go_at_call 49;(with_reducible refine(laws_lvInts.calls kj4 _ _ t104 _ _ t110 t113 _ ?side1 ?side2 ?side3 ?side4 A19.out).mono ?_);(case side1=>exact CU (Kd.R_reads' HO_4.out).2.2);(case side2=>exact(Kd.R_reads' HO_4.out).2.1);(case side3=>exact CU (Kd.R_reads' HO112.out).2.2);(case side4=>exact(Kd.R_reads' HO112.out).2.1);rintro e w' ⟨rfl,⟨nd,rfl⟩⟩;(try first|exact⟨rfl,_,World.drewN_drewN _ _ _⟩|exact⟨rfl,_,Eq.trans (World.drewN_drewN _ _ _) (congrArg (World.drewN _) (Nat.add_assoc _ _ _))⟩))))
     go_ret
     exact⟨by first|rfl|(simp[*]<;>rfl),by exact bU HB.out⟩
    ·replace c17:=Bool.eq_false_iff.mpr c17
     subst c17;have H1:(if 0≤(t101.length:Int)then(if((t101.length:Int):Int).toNat≤281474976710656 then(laws_FnNextReach.l0 kj4 t101 t104 (List.replicate ((t101.length:Int):Int).toNat false) 0)else(none))else(none))=some r:=by rw[if_neg (show¬(false=true) by decide)]at H;exact H
     clear H;have H:=H1;clear H1;by_cases c23:0≤(t101.length:Int)
     ·rw[if_pos c23]at H
      have c23b0:=eq_true c23;have c23b1:decide (0≤(t101.length:Int))=true:=decide_eq_true c23;clear c23;by_cases c24:((t101.length:Int):Int).toNat≤281474976710656
      ·rw[if_pos c24]at H
       have c24b0:=eq_true c24;have c24b1:decide (((t101.length:Int):Int).toNat≤281474976710656)=true:=decide_eq_true c24;clear c24;obtain⟨y114,hy114⟩: ∃y_:List Bool,y_=(List.replicate ((t101.length:Int):Int).toNat false):=⟨_,rfl⟩;replace H:(laws_FnNextReach.l0 kj4 t101 t104 y114 0)=some r:=by first|(rw[hy114];with_reducible exact H)|(have H2_:=(Option.bind_some _ _).symm.trans H;rw[hy114];with_reducible exact H2_)|(have H2_:=(Option.bind_some _ _).symm.trans H;with_reducible exact H2_)|with_reducible exact H|(rw[hy114];exact H)|exact H
       have Ny114:=aS hy114;clear hy114;have H':=aS H;clear H;go_wp2_with (first|((with_reducible refine gate_dst (N:=33) rfl ?_);(try(refine gate_guard (by rfl) ?_;dsimp only));refine Kd.R_make Kd.bool _ 4 rfl (N:=33) rfl 57 _ _ rfl (t101.length:Int) rfl rfl Try.underlying57 (.bool false) 1 info4 rfl (by decide) (by omega) false (ok:=fun _=>True) (okp:=fun _=>True) rfl (fun _ hk=>hk) trivial (of_decide_eq_true (by assumption)) (Nat.le_trans (Nat.mul_le_mul_right _ (of_decide_eq_true (by assumption):(t101.length:Int).toNat≤281474976710656)) (by omega)) (Below.refl _ _) (Nat.le_refl _) ?_;intro v115 w25 ho26 hb hg_ hnew_;clear hg_ hnew_;(first|rw[←Ny114.out]at ho26|(simp only[Int.reduceToNat]at ho26;rw[←Ny114.out]at ho26));replace HO_3:=aS (Kd.R_below (by exact rU HO_3.out) hb);replace HO_4:=aS (Kd.R_below (by exact rU HO_4.out) hb);have HO116:=aS (Kd.R_lower ho26 (below_size (by exact bU HB.out)));replace HB:=aS (below_step (by exact bU HB.out) hb);clear hb ho26))
       repeat(go_quiet (first|((with_reducible refine gate_dst (N:=33) rfl ?_);(try(refine gate_guard (by rfl) ?_;dsimp only));refine Kd.R_make Kd.bool _ 4 rfl (N:=33) rfl 57 _ _ rfl (t101.length:Int) rfl rfl Try.underlying57 (.bool false) 1 info4 rfl (by decide) (by omega) false (ok:=fun _=>True) (okp:=fun _=>True) rfl (fun _ hk=>hk) trivial (of_decide_eq_true (by assumption)) (Nat.le_trans (Nat.mul_le_mul_right _ (of_decide_eq_true (by assumption):(t101.length:Int).toNat≤281474976710656)) (by omega)) (Below.refl _ _) (Nat.le_refl _) ?_;intro v115 w25 ho26 hb hg_ hnew_;clear hg_ hnew_;(first|rw[←Ny114.out]at ho26|(simp only[Int.reduceToNat]at ho26;rw[←Ny114.out]at ho26));replace HO_3:=aS (Kd.R_below (by exact rU HO_3.out) hb);replace HO_4:=aS (Kd.R_below (by exact rU HO_4.out) hb);have HO116:=aS (Kd.R_lower ho26 (below_size (by exact bU HB.out)));replace HB:=aS (below_step (by exact bU HB.out) hb);clear hb ho26));try go_wp2_with (first|((with_reducible refine gate_dst (N:=33) rfl ?_);(try(refine gate_guard (by rfl) ?_;dsimp only));refine Kd.R_make Kd.bool _ 4 rfl (N:=33) rfl 57 _ _ rfl (t101.length:Int) rfl rfl Try.underlying57 (.bool false) 1 info4 rfl (by decide) (by omega) false (ok:=fun _=>True) (okp:=fun _=>True) rfl (fun _ hk=>hk) trivial (of_decide_eq_true (by assumption)) (Nat.le_trans (Nat.mul_le_mul_right _ (of_decide_eq_true (by assumption):(t101.length:Int).toNat≤281474976710656)) (by omega)) (Below.refl _ _) (Nat.le_refl _) ?_;intro v115 w25 ho26 hb hg_ hnew_;clear hg_ hnew_;(first|rw[←Ny114.out]at ho26|(simp only[Int.reduceToNat]at ho26;rw[←Ny114.out]at ho26));replace HO_3:=aS (Kd.R_below (by exact rU HO_3.out) hb);replace HO_4:=aS (Kd.R_below (by exact rU HO_4.out) hb);have HO116:=aS (Kd.R_lower ho26 (below_size (by exact bU HB.out)));replace HB:=aS (below_step (by exact bU HB.out) hb);clear hb ho26)))
       go_loopg [6] kj4 (fun kq v6 w'=> ∃ (x5_2:List Bool) (x6_2:Int),v6= .int .i64 x6_2∧Aside0 (laws_FnNextReach.l0 kq t101 t104 x5_2 x6_2=some r)∧Aside0 (kq≤kj4)∧Aside0 (Kd.R k29 29 w' w.heap.size (fun _=>True) (.slice Ao7 t101.length co7) t101)∧Aside0 (Kd.R (Kd.int .i64) 3 w' w.heap.size (fun _=>True) v105 t104)∧Aside0 (Kd.R Kd.bool 4 w' w.heap.size (fun _=>True) v115 x5_2)∧Aside0 (Below w.heap.size w w'))
       case atStart=>exact⟨(y114),(0),(by first|rfl|(simp;done)|(simp[*];done)),H',⟨Nat.le_refl _⟩,⟨by exact rU HO_3.out⟩,⟨by exact rU HO_4.out⟩,⟨by exact rU HO116.out⟩,⟨by exact bU HB.out⟩⟩
       case round=>
        clear H';(try clear c1);(try clear c2);(try clear c2b0);(try clear c2b1);(try clear p2);(try clear c10);(try clear c17);(try clear c22);(try clear c23);(try clear c23b0);(try clear c23b1);(try clear c24);(try clear c24b0);(try clear c24b1);(try clear p2)
        obtain⟨x5_2,x6_2,rfl,HA,HK2,HO_3,HO_4,HO_5,HB⟩:=hrel;cases gk with
        |zero=>exact absurd HA.out (by simp[laws_FnNextReach.l0])
        |succ k2=>
         have H:=HA.out;clear HA;simp only[laws_FnNextReach.l0]at H
         by_cases c27:x6_2<(t104.length:Int)
         ·rw[if_pos c27]at H
          have c27b0:decide (x6_2<(t104.length:Int))=true:=decide_eq_true c27;clear c27;by_cases c28:0≤x6_2
          ·rw[if_pos c28]at H
           have c28b0:decide (0≤x6_2)=true:=decide_eq_true c28;clear c28;replace H:=Option.bind_eq_some_iff.mp H;obtain⟨t118,A290,H⟩:=H;replace H:(laws_FnNextReach.l1 k2 t101 t104 x5_2 x6_2 t118 0)=some r:=H;have A29:=aS A290;clear A290;have H':=aS H;clear H;obtain⟨Ao30,co30,eo30⟩:=Kd.R_slice HO_4.out;subst eo30;have p117:0≤(x6_2:Int):=of_decide_eq_true (by assumption)
           have q117:x6_2<(t104.length:Int):=of_decide_eq_true (by assumption)
           obtain⟨ad117,e117,hx117_0⟩:=Kd.at_int (Kd.R_reads' HO_4.out).2.2 x6_2 p117 q117;cases e117
           replace p117:=eq_true p117;replace q117:=eq_true q117;go_wp2_with (first|(go_at_call 39;(with_reducible refine(impl_CodeNext.calls _ _ t101 (rd t104 x6_2) t118 _ ?side1 ?side2 A29.out).mono ?_);(case side1=>exact CU (Kd.R_reads' HO_3.out).2.2);(case side2=>exact(Kd.R_reads' HO_3.out).2.1);rintro e w31 ⟨v119,rfl,ho0,hb⟩;have n0_:=aS (Kd.R_below (by exact rU HO_3.out) hb);have n1_:=aS (Kd.R_elder' (by exact rU HO_4.out) (Kd.R_base ho0) hb);have n2_:=aS (Kd.R_below (by exact rU HO_5.out) hb);have n3_:=aS (Kd.R_lower (Kd.R_new' ho0 (Kd.R_lt (by exact rU HO_4.out))) (below_size (by exact bU HB.out)));have n4_:=aS (below_step (by exact bU HB.out) hb);clear HO_3;clear HO_4;clear HO_5;clear HB;have HO_3:=n0_;have HO_4:=n1_;have HO_5:=n2_;have HO120:=n3_;have HB:=n4_;clear n0_ n1_ n2_ n3_ n4_;(try clear hb);(try clear ho0)))
           repeat(go_quiet (first|(go_at_call 39;(with_reducible refine(impl_CodeNext.calls _ _ t101 (rd t104 x6_2) t118 _ ?side1 ?side2 A29.out).mono ?_);(case side1=>exact CU (Kd.R_reads' HO_3.out).2.2);(case side2=>exact(Kd.R_reads' HO_3.out).2.1);rintro e w31 ⟨v119,rfl,ho0,hb⟩;have n0_:=aS (Kd.R_below (by exact rU HO_3.out) hb);have n1_:=aS (Kd.R_elder' (by exact rU HO_4.out) (Kd.R_base ho0) hb);have n2_:=aS (Kd.R_below (by exact rU HO_5.out) hb);have n3_:=aS (Kd.R_lower (Kd.R_new' ho0 (Kd.R_lt (by exact rU HO_4.out))) (below_size (by exact bU HB.out)));have n4_:=aS (below_step (by exact bU HB.out) hb);clear HO_3;clear HO_4;clear HO_5;clear HB;have HO_3:=n0_;have HO_4:=n1_;have HO_5:=n2_;have HO120:=n3_;have HB:=n4_;clear n0_ n1_ n2_ n3_ n4_;(try clear hb);(try clear ho0)));try go_wp2_with (first|(go_at_call 39;(with_reducible refine(impl_CodeNext.calls _ _ t101 (rd t104 x6_2) t118 _ ?side1 ?side2 A29.out).mono ?_);(case side1=>exact CU (Kd.R_reads' HO_3.out).2.2);(case side2=>exact(Kd.R_reads' HO_3.out).2.1);rintro e w31 ⟨v119,rfl,ho0,hb⟩;have n0_:=aS (Kd.R_below (by exact rU HO_3.out) hb);have n1_:=aS (Kd.R_elder' (by exact rU HO_4.out) (Kd.R_base ho0) hb);have n2_:=aS (Kd.R_below (by exact rU HO_5.out) hb);have n3_:=aS (Kd.R_lower (Kd.R_new' ho0 (Kd.R_lt (by exact rU HO_4.out))) (below_size (by exact bU HB.out)));have n4_:=aS (below_step (by exact bU HB.out) hb);clear HO_3;clear HO_4;clear HO_5;clear HB;have HO_3:=n0_;have HO_4:=n1_;have HO_5:=n2_;have HO120:=n3_;have HB:=n4_;clear n0_ n1_ n2_ n3_ n4_;(try clear hb);(try clear ho0))))
           go_loopg [8] k2 (fun kq v8 w'=> ∃ (x5_3:List Bool) (x8_3:Int),v8= .int .i64 x8_3∧Aside0 (laws_FnNextReach.l1 kq t101 t104 x5_3 x6_2 t118 x8_3=some r)∧Aside0 (kq≤k2)∧Aside0 (Kd.R k29 29 w' w.heap.size (fun _=>True) (.slice Ao7 t101.length co7) t101)∧Aside0 (Kd.R (Kd.int .i64) 3 w' w.heap.size (fun k_=>some k_≠(v119:Value).ownBlock) (.slice (some ad117) t104.length co30) t104)∧Aside0 (Kd.R Kd.bool 4 w' w.heap.size (fun _=>True) v115 x5_3)∧Aside0 (Kd.R (Kd.int .i64) 3 w' w.heap.size (fun k_=>some k_≠((.slice (some ad117) t104.length co30):Value).ownBlock) v119 t118)∧Aside0 (Below w.heap.size w w'))
           case atStart=>exact⟨(x5_2),(0),(by first|rfl|(simp;done)|(simp[*];done)),H',⟨Nat.le_refl _⟩,⟨by exact rU HO_3.out⟩,⟨by exact rU (Kd.R_mono HO_4.out (fun _ hk=>hk.2))⟩,⟨by exact rU HO_5.out⟩,⟨by exact rU (Kd.R_mono HO120.out (fun _ hk=>hk.2))⟩,⟨by exact bU HB.out⟩⟩
           case round=>
            clear H';(try clear c1);(try clear p1);(try clear q1);(try clear hx1);(try clear c2);(try clear c2b0);(try clear c2b1);(try clear p2);(try clear c10);(try clear p11);(try clear q11);(try clear hx11);(try clear c17);(try clear c22);(try clear c23);(try clear c23b0);(try clear c23b1);(try clear c24);(try clear c24b0);(try clear c24b1);(try clear c27);(try clear c27b0);(try clear c28);(try clear c28b0);(try clear hx117_0);(try clear p117);(try clear p2);(try clear q117)
            obtain⟨x5_3,x8_3,rfl,HA,HK3,HO_3,HO_4,HO_5,HO_7,HB⟩:=hrel;cases gk with
            |zero=>exact absurd HA.out (by simp[laws_FnNextReach.l1])
            |succ k3=>
             have H:=HA.out;clear HA;simp only[laws_FnNextReach.l1]at H
             by_cases c32:x8_3<(t118.length:Int)
             ·rw[if_pos c32]at H
              have c32b0:decide (x8_3<(t118.length:Int))=true:=decide_eq_true c32;clear c32;by_cases c33:0≤x8_3
              ·rw[if_pos c33]at H
               have c33b0:decide (0≤x8_3)=true:=decide_eq_true c33;clear c33;replace H:=Option.bind_eq_some_iff.mp H;obtain⟨t122,A340,H⟩:=H;replace H:(if t122=true then(if 0≤(rd t118 x8_3)then(if(rd t118 x8_3)<(x5_3.length:Int)then(laws_FnNextReach.l1 k3 t101 t104 (x5_3.set ((rd t118 x8_3):Int).toNat true) x6_2 t118 (wrap64 (x8_3+1)))else(none))else(none))else(some false))=some r:=H
               have A34:=aS A340;clear A340;by_cases c35:t122=true
               ·subst c35
                have H1:(if 0≤(rd t118 x8_3)then(if(rd t118 x8_3)<(x5_3.length:Int)then(laws_FnNextReach.l1 k3 t101 t104 (x5_3.set ((rd t118 x8_3):Int).toNat true) x6_2 t118 (wrap64 (x8_3+1)))else(none))else(none))=some r:=by rw[if_pos rfl]at H;exact H
                clear H;have H:=H1;clear H1;by_cases c36:0≤(rd t118 x8_3)
                ·rw[if_pos c36]at H
                 have c36b0:decide (0≤(rd t118 x8_3))=true:=decide_eq_true c36;clear c36;by_cases c37:(rd t118 x8_3)<(x5_3.length:Int)
                 ·rw[if_pos c37]at H
                  have c37b0:decide ((rd t118 x8_3)<(x5_3.length:Int))=true:=decide_eq_true c37;clear c37;obtain⟨y124,hy124⟩: ∃y_:List Bool,y_=(x5_3.set ((rd t118 x8_3):Int).toNat true):=⟨_,rfl⟩;replace H:(laws_FnNextReach.l1 k3 t101 t104 y124 x6_2 t118 (wrap64 (x8_3+1)))=some r:=by first|(rw[hy124];with_reducible exact H)|(have H2_:=(Option.bind_some _ _).symm.trans H;rw[hy124];with_reducible exact H2_)|(have H2_:=(Option.bind_some _ _).symm.trans H;with_reducible exact H2_)|with_reducible exact H|(rw[hy124];exact H)|exact H
                  have Ny124:=aS hy124;clear hy124;have H':=aS H;clear H;obtain⟨Ao39,co39,eo39⟩:=Kd.R_slice HO_7.out;subst eo39;have p121:0≤(x8_3:Int):=of_decide_eq_true (by assumption)
                  have q121:x8_3<(t118.length:Int):=of_decide_eq_true (by assumption)
                  obtain⟨ad121,e121,hx121_0⟩:=Kd.at_int (Kd.R_reads' HO_7.out).2.2 x8_3 p121 q121;cases e121
                  replace p121:=eq_true p121;replace q121:=eq_true q121;go_wp2_with (first|(go_at_call 55;(with_reducible refine(laws_lvAmong.calls k3 _ _ t104 (rd t118 x8_3) true _ ?side1 ?side2 A34.out).mono ?_);(case side1=>exact CU (Kd.R_reads' HO_4.out).2.2);(case side2=>exact(Kd.R_reads' HO_4.out).2.1);rintro e w' ⟨rfl,⟨nd,rfl⟩⟩;(try first|exact⟨rfl,_,World.drewN_drewN _ _ _⟩|exact⟨rfl,_,Eq.trans (World.drewN_drewN _ _ _) (congrArg (World.drewN _) (Nat.add_assoc _ _ _))⟩);have p123:0≤(x8_3:Int):=of_decide_eq_true (by assumption);have q123:x8_3<(t118.length:Int):=of_decide_eq_true (by assumption);obtain⟨ad123,e123,hx123_0⟩:=Kd.at_int (Kd.R_reads' HO_7.out).2.2 x8_3 p123 q123;obtain rfl:ad121=ad123:=(by injection e123);replace p123:=eq_true p123;replace q123:=eq_true q123;have p38:0≤((rd t118 x8_3):Int):=of_decide_eq_true (by assumption);have q38:((rd t118 x8_3):Int)<((x5_3.length:Int):Int):=of_decide_eq_true (by assumption);obtain⟨go38,co38,eo38,gb38,gl38,cl38,HG38⟩:=Kd.R_form HO_5.out (by omega);(first|cases eo38|(injection eo38 with ea_ en_ ec_;(first|subst ea_|(injection ea_ with ea_;subst ea_));subst ec_;clear en_));have GB38:=aS gb38;have GG38:=aS HG38;clear gb38 gl38 HG38;obtain⟨hx38_0,hf38_0⟩:=Kd.R_celln false HO_5.out ((rd t118 x8_3):Int) p38 q38;replace p38:=eq_true p38;replace q38:=eq_true q38;obtain⟨hy40_,hz40_⟩:=Kd.R_celln false HO_5.out ((rd t118 x8_3):Int) (of_decide_eq_true (by assumption)) (of_decide_eq_true (by assumption));have HP40:=Kd.R_putg HO_5.out ((rd t118 x8_3):Int) true)|((with_reducible refine gate_store (t:=4) (p:=64) rfl ?_);(try(rw[drewN_self wr];generalize hq_:World.drewN wr _=wr;have n0_:=aS (Kd.R_at hq_ HO_3.out);have n1_:=aS (Kd.R_at hq_ HO_4.out);have n2_:=aS (Kd.R_at hq_ HO_5.out);have n3_:=aS (Kd.R_at hq_ HO_7.out);have n4_:=aS (below_at hq_ HB.out);clear hq_ HO_3 HO_4 HO_5 HO_7 HB;have HO_3:=n0_;have HO_4:=n1_;have HO_5:=n2_;have HO_7:=n3_;have HB:=n4_;clear n0_ n1_ n2_ n3_ n4_;(try(obtain⟨hy40_,hz40_⟩:=Kd.R_celln false HO_5.out ((rd t118 x8_3):Int) (of_decide_eq_true (by assumption)) (of_decide_eq_true (by assumption))));(try(have HP40:=Kd.R_putg HO_5.out ((rd t118 x8_3):Int) true))));refine store_event (t:=4) (p:=64) (v:= ?vo_w41) (w1:=(wr.setCell ⟨go38,((rd t118 x8_3):Int).toNat,none⟩ (.bool true))) ?hg ?ho ?hn ?hr ?_;(case ho=>rfl);(case hg=>rfl);(case hn=>rfl);(case hr=>go_simp<;>rfl);intro w41 hw;have hg:wr.grownBy w41 (some go38):=(by rw[hw];exact HP40.2);have hp_:Kd.R Kd.bool 4 w41 w.heap.size (fun _=>True) (.slice (some ⟨go38,0,none⟩) x5_3.length co38) y124:=(by rw[hw,Ny124.out];exact HP40.1);clear HP40;have n0_:=aS (Kd.R_over' (v:=(.slice (some ⟨go38,0,none⟩) x5_3.length co38)) (by exact rU HO_3.out) (Kd.R_typed HO_5.out) (by decide) hg);have n1_:=aS (Kd.R_over' (v:=(.slice (some ⟨go38,0,none⟩) x5_3.length co38)) (by exact rU HO_4.out) (Kd.R_typed HO_5.out) (by decide) hg);have n2_:=aS (hp_);have n3_:=aS (Kd.R_over' (v:=(.slice (some ⟨go38,0,none⟩) x5_3.length co38)) (by exact rU HO_7.out) (Kd.R_typed HO_5.out) (by decide) hg);have n4_:=aS ((by rw[hw];exact below_set (HB.out) GB38.out:Below w.heap.size w w41));clear HO_3;clear HO_4;clear HO_5;clear HO_7;clear HB;have HO_3:=n0_;have HO_4:=n1_;have HO_5:=n2_;have HO_7:=n3_;have HB:=n4_;clear n0_ n1_ n2_ n3_ n4_;clear hg hw hp_))
                  repeat(go_quiet (first|(go_at_call 55;(with_reducible refine(laws_lvAmong.calls k3 _ _ t104 (rd t118 x8_3) true _ ?side1 ?side2 A34.out).mono ?_);(case side1=>exact CU (Kd.R_reads' HO_4.out).2.2);(case side2=>exact(Kd.R_reads' HO_4.out).2.1);rintro e w' ⟨rfl,⟨nd,rfl⟩⟩;(try first|exact⟨rfl,_,World.drewN_drewN _ _ _⟩|exact⟨rfl,_,Eq.trans (World.drewN_drewN _ _ _) (congrArg (World.drewN _) (Nat.add_assoc _ _ _))⟩);have p123:0≤(x8_3:Int):=of_decide_eq_true (by assumption);have q123:x8_3<(t118.length:Int):=of_decide_eq_true (by assumption);obtain⟨ad123,e123,hx123_0⟩:=Kd.at_int (Kd.R_reads' HO_7.out).2.2 x8_3 p123 q123;obtain rfl:ad121=ad123:=(by injection e123);replace p123:=eq_true p123;replace q123:=eq_true q123;have p38:0≤((rd t118 x8_3):Int):=of_decide_eq_true (by assumption);have q38:((rd t118 x8_3):Int)<((x5_3.length:Int):Int):=of_decide_eq_true (by assumption);obtain⟨go38,co38,eo38,gb38,gl38,cl38,HG38⟩:=Kd.R_form HO_5.out (by omega);(first|cases eo38|(injection eo38 with ea_ en_ ec_;(first|subst ea_|(injection ea_ with ea_;subst ea_));subst ec_;clear en_));have GB38:=aS gb38;have GG38:=aS HG38;clear gb38 gl38 HG38;obtain⟨hx38_0,hf38_0⟩:=Kd.R_celln false HO_5.out ((rd t118 x8_3):Int) p38 q38;replace p38:=eq_true p38;replace q38:=eq_true q38;obtain⟨hy40_,hz40_⟩:=Kd.R_celln false HO_5.out ((rd t118 x8_3):Int) (of_decide_eq_true (by assumption)) (of_decide_eq_true (by assumption));have HP40:=Kd.R_putg HO_5.out ((rd t118 x8_3):Int) true)|((with_reducible refine gate_store (t:=4) (p:=64) rfl ?_);(try(rw[drewN_self wr];generalize hq_:World.drewN wr _=wr;have n0_:=aS (Kd.R_at hq_ HO_3.out);have n1_:=aS (Kd.R_at hq_ HO_4.out);have n2_:=aS (Kd.R_at hq_ HO_5.out);have n3_:=aS (Kd.R_at hq_ HO_7.out);have n4_:=aS (below_at hq_ HB.out);clear hq_ HO_3 HO_4 HO_5 HO_7 HB;have HO_3:=n0_;have HO_4:=n1_;have HO_5:=n2_;have HO_7:=n3_;have HB:=n4_;clear n0_ n1_ n2_ n3_ n4_;(try(obtain⟨hy40_,hz40_⟩:=Kd.R_celln false HO_5.out ((rd t118 x8_3):Int) (of_decide_eq_true (by assumption)) (of_decide_eq_true (by assumption))));(try(have HP40:=Kd.R_putg HO_5.out ((rd t118 x8_3):Int) true))));refine store_event (t:=4) (p:=64) (v:= ?vo_w41) (w1:=(wr.setCell ⟨go38,((rd t118 x8_3):Int).toNat,none⟩ (.bool true))) ?hg ?ho ?hn ?hr ?_;(case ho=>rfl);(case hg=>rfl);(case hn=>rfl);(case hr=>go_simp<;>rfl);intro w41 hw;have hg:wr.grownBy w41 (some go38):=(by rw[hw];exact HP40.2);have hp_:Kd.R Kd.bool 4 w41 w.heap.size (fun _=>True) (.slice (some ⟨go38,0,none⟩) x5_3.length co38) y124:=(by rw[hw,Ny124.out];exact HP40.1);clear HP40;have n0_:=aS (Kd.R_over' (v:=(.slice (some ⟨go38,0,none⟩) x5_3.length co38)) (by exact rU HO_3.out) (Kd.R_typed HO_5.out) (by decide) hg);have n1_:=aS (Kd.R_over' (v:=(.slice (some ⟨go38,0,none⟩) x5_3.length co38)) (by exact rU HO_4.out) (Kd.R_typed HO_5.out) (by decide) hg);have n2_:=aS (hp_);have n3_:=aS (Kd.R_over' (v:=(.slice (some ⟨go38,0,none⟩) x5_3.length co38)) (by exact rU HO_7.out) (Kd.R_typed HO_5.out) (by decide) hg);have n4_:=aS ((by rw[hw];exact below_set (HB.out) GB38.out:Below w.heap.size w w41));clear HO_3;clear HO_4;clear HO_5;clear HO_7;clear HB;have HO_3:=n0_;have HO_4:=n1_;have HO_5:=n2_;have HO_7:=n3_;have HB:=n4_;clear n0_ n1_ n2_ n3_ n4_;clear hg hw hp_));try go_wp2_with (first|(go_at_call 55;(with_reducible refine(laws_lvAmong.calls k3 _ _ t104 (rd t118 x8_3) true _ ?side1 ?side2 A34.out).mono ?_);(case side1=>exact CU (Kd.R_reads' HO_4.out).2.2);(case side2=>exact(Kd.R_reads' HO_4.out).2.1);rintro e w' ⟨rfl,⟨nd,rfl⟩⟩;(try first|exact⟨rfl,_,World.drewN_drewN _ _ _⟩|exact⟨rfl,_,Eq.trans (World.drewN_drewN _ _ _) (congrArg (World.drewN _) (Nat.add_assoc _ _ _))⟩);have p123:0≤(x8_3:Int):=of_decide_eq_true (by assumption);have q123:x8_3<(t118.length:Int):=of_decide_eq_true (by assumption);obtain⟨ad123,e123,hx123_0⟩:=Kd.at_int (Kd.R_reads' HO_7.out).2.2 x8_3 p123 q123;obtain rfl:ad121=ad123:=(by injection e123);replace p123:=eq_true p123;replace q123:=eq_true q123;have p38:0≤((rd t118 x8_3):Int):=of_decide_eq_true (by assumption);have q38:((rd t118 x8_3):Int)<((x5_3.length:Int):Int):=of_decide_eq_true (by assumption);obtain⟨go38,co38,eo38,gb38,gl38,cl38,HG38⟩:=Kd.R_form HO_5.out (by omega);(first|cases eo38|(injection eo38 with ea_ en_ ec_;(first|subst ea_|(injection ea_ with ea_;subst ea_));subst ec_;clear en_));have GB38:=aS gb38;have GG38:=aS HG38;clear gb38 gl38 HG38;obtain⟨hx38_0,hf38_0⟩:=Kd.R_celln false HO_5.out ((rd t118 x8_3):Int) p38 q38;replace p38:=eq_true p38;replace q38:=eq_true q38;obtain⟨hy40_,hz40_⟩:=Kd.R_celln false HO_5.out ((rd t118 x8_3):Int) (of_decide_eq_true (by assumption)) (of_decide_eq_true (by assumption));have HP40:=Kd.R_putg HO_5.out ((rd t118 x8_3):Int) true)|((with_reducible refine gate_store (t:=4) (p:=64) rfl ?_);(try(rw[drewN_self wr];generalize hq_:World.drewN wr _=wr;have n0_:=aS (Kd.R_at hq_ HO_3.out);have n1_:=aS (Kd.R_at hq_ HO_4.out);have n2_:=aS (Kd.R_at hq_ HO_5.out);have n3_:=aS (Kd.R_at hq_ HO_7.out);have n4_:=aS (below_at hq_ HB.out);clear hq_ HO_3 HO_4 HO_5 HO_7 HB;have HO_3:=n0_;have HO_4:=n1_;have HO_5:=n2_;have HO_7:=n3_;have HB:=n4_;clear n0_ n1_ n2_ n3_ n4_;(try(obtain⟨hy40_,hz40_⟩:=Kd.R_celln false HO_5.out ((rd t118 x8_3):Int) (of_decide_eq_true (by assumption)) (of_decide_eq_true (by assumption))));(try(have HP40:=Kd.R_putg HO_5.out ((rd t118 x8_3):Int) true))));refine store_event (t:=4) (p:=64) (v:= ?vo_w41) (w1:=(wr.setCell ⟨go38,((rd t118 x8_3):Int).toNat,none⟩ (.bool true))) ?hg ?ho ?hn ?hr ?_;(case ho=>rfl);(case hg=>rfl);(case hn=>rfl);(case hr=>go_simp<;>rfl);intro w41 hw;have hg:wr.grownBy w41 (some go38):=(by rw[hw];exact HP40.2);have hp_:Kd.R Kd.bool 4 w41 w.heap.size (fun _=>True) (.slice (some ⟨go38,0,none⟩) x5_3.length co38) y124:=(by rw[hw,Ny124.out];exact HP40.1);clear HP40;have n0_:=aS (Kd.R_over' (v:=(.slice (some ⟨go38,0,none⟩) x5_3.length co38)) (by exact rU HO_3.out) (Kd.R_typed HO_5.out) (by decide) hg);have n1_:=aS (Kd.R_over' (v:=(.slice (some ⟨go38,0,none⟩) x5_3.length co38)) (by exact rU HO_4.out) (Kd.R_typed HO_5.out) (by decide) hg);have n2_:=aS (hp_);have n3_:=aS (Kd.R_over' (v:=(.slice (some ⟨go38,0,none⟩) x5_3.length co38)) (by exact rU HO_7.out) (Kd.R_typed HO_5.out) (by decide) hg);have n4_:=aS ((by rw[hw];exact below_set (HB.out) GB38.out:Below w.heap.size w w41));clear HO_3;clear HO_4;clear HO_5;clear HO_7;clear HB;have HO_3:=n0_;have HO_4:=n1_;have HO_5:=n2_;have HO_7:=n3_;have HB:=n4_;clear n0_ n1_ n2_ n3_ n4_;clear hg hw hp_)))
                  go_roundg k3
                  case measure=>have:=HJ4.out;have:=HK2.out;have:=HK3.out;omega
                  case rel=>exact⟨(y124),(wrap64 (x8_3+1)),(by first|rfl|(simp;done)|(simp[*];done)),H',⟨by have:=HJ4.out;have:=HK2.out;have:=HK3.out;omega⟩,⟨by exact rU HO_3.out⟩,⟨by exact rU HO_4.out⟩,⟨by exact rU HO_5.out⟩,⟨by exact rU HO_7.out⟩,⟨by exact bU HB.out⟩⟩
                 ·rw[if_neg c37]at H
                  exact absurd H (by simp)
                ·rw[if_neg c36]at H
                 exact absurd H (by simp)
               ·replace c35:=Bool.eq_false_iff.mpr c35
                subst c35;have H1:(some false)=some r:=by rw[if_neg (show¬(false=true) by decide)]at H;exact H
                clear H;have H:=H1;clear H1;obtain rfl:=Option.some.inj H;obtain⟨Ao42,co42,eo42⟩:=Kd.R_slice HO_7.out;subst eo42;have p121:0≤(x8_3:Int):=of_decide_eq_true (by assumption)
                have q121:x8_3<(t118.length:Int):=of_decide_eq_true (by assumption)
                obtain⟨ad121,e121,hx121_0⟩:=Kd.at_int (Kd.R_reads' HO_7.out).2.2 x8_3 p121 q121;cases e121
                replace p121:=eq_true p121;replace q121:=eq_true q121;go_wp2_with (first|(go_at_call 55;(with_reducible refine(laws_lvAmong.calls k3 _ _ t104 (rd t118 x8_3) false _ ?side1 ?side2 A34.out).mono ?_);(case side1=>exact CU (Kd.R_reads' HO_4.out).2.2);(case side2=>exact(Kd.R_reads' HO_4.out).2.1);rintro e w' ⟨rfl,⟨nd,rfl⟩⟩;(try first|exact⟨rfl,_,World.drewN_drewN _ _ _⟩|exact⟨rfl,_,Eq.trans (World.drewN_drewN _ _ _) (congrArg (World.drewN _) (Nat.add_assoc _ _ _))⟩)))
                repeat(go_quiet (first|(go_at_call 55;(with_reducible refine(laws_lvAmong.calls k3 _ _ t104 (rd t118 x8_3) false _ ?side1 ?side2 A34.out).mono ?_);(case side1=>exact CU (Kd.R_reads' HO_4.out).2.2);(case side2=>exact(Kd.R_reads' HO_4.out).2.1);rintro e w' ⟨rfl,⟨nd,rfl⟩⟩;(try first|exact⟨rfl,_,World.drewN_drewN _ _ _⟩|exact⟨rfl,_,Eq.trans (World.drewN_drewN _ _ _) (congrArg (World.drewN _) (Nat.add_assoc _ _ _))⟩)));try go_wp2_with (first|(go_at_call 55;(with_reducible refine(laws_lvAmong.calls k3 _ _ t104 (rd t118 x8_3) false _ ?side1 ?side2 A34.out).mono ?_);(case side1=>exact CU (Kd.R_reads' HO_4.out).2.2);(case side2=>exact(Kd.R_reads' HO_4.out).2.1);rintro e w' ⟨rfl,⟨nd,rfl⟩⟩;(try first|exact⟨rfl,_,World.drewN_drewN _ _ _⟩|exact⟨rfl,_,Eq.trans (World.drewN_drewN _ _ _) (congrArg (World.drewN _) (Nat.add_assoc _ _ _))⟩))))
                go_ret
                exact⟨by first|rfl|(simp[*]<;>rfl),by exact bU HB.out⟩
              ·rw[if_neg c33]at H
               exact absurd H (by simp)
             ·rw[if_neg c32]at H
              have c32b0:decide (x8_3<(t118.length:Int))=false:=decide_eq_false c32;clear c32;have H':=aS H;clear H;obtain⟨Ao43,co43,eo43⟩:=Kd.R_slice HO_7.out;subst eo43;go_wp2
              repeat(go_quiet (fail);try go_wp2)
              go_roundg k3
              case measure=>have:=HJ4.out;have:=HK2.out;have:=HK3.out;omega
              case rel=>exact⟨(x5_3),(wrap64 (x6_2+1)),(by first|rfl|(simp;done)|(simp[*];done)),H',⟨by have:=HJ4.out;have:=HK2.out;have:=HK3.out;omega⟩,⟨by exact rU HO_3.out⟩,⟨by exact rU (Kd.R_mono HO_4.out (fun _ hk=>trivial))⟩,⟨by exact rU HO_5.out⟩,⟨by exact bU HB.out⟩⟩
          ·rw[if_neg c28]at H
           exact absurd H (by simp)
         ·rw[if_neg c27]at H
          have c27b0:decide (x6_2<(t104.length:Int))=false:=decide_eq_false c27;clear c27;have H':=aS H;clear H;obtain⟨Ao44,co44,eo44⟩:=Kd.R_slice HO_4.out;subst eo44;go_wp2
          repeat(go_quiet (fail);try go_wp2)
          go_loopg [9] k2 (fun kq v9 w'=> ∃ (x9_3:Int),v9= .int .i64 x9_3∧Aside0 (laws_FnNextReach.l2 kq t104 x5_2 x9_3=some r)∧Aside0 (kq≤k2)∧Aside0 (Kd.R (Kd.int .i64) 3 w' w.heap.size (fun _=>True) (.slice Ao44 t104.length co44) t104)∧Aside0 (Kd.R Kd.bool 4 w' w.heap.size (fun _=>True) v115 x5_2)∧Aside0 (Below w.heap.size w w'))
          case atStart=>exact⟨(0),(by first|rfl|(simp;done)|(simp[*];done)),H',⟨Nat.le_refl _⟩,⟨by exact rU HO_4.out⟩,⟨by exact rU HO_5.out⟩,⟨by exact bU HB.out⟩⟩
          case round=>
           clear H';(try clear c1);(try clear p1);(try clear q1);(try clear hx1);(try clear c2);(try clear c2b0);(try clear c2b1);(try clear p2);(try clear c3);(try clear p3);(try clear q3);(try clear hx3);(try clear hf3);(try clear p6);(try clear c10);(try clear p11);(try clear q11);(try clear hx11);(try clear p12);(try clear q12);(try clear hx12);(try clear c17);(try clear c22);(try clear c23);(try clear c23b0);(try clear c23b1);(try clear c24);(try clear c24b0);(try clear c24b1);(try clear c27);(try clear c27b0);(try clear c28);(try clear c28b0);(try clear c32);(try clear c32b0);(try clear c33);(try clear c33b0);(try clear c35);(try clear c36);(try clear c36b0);(try clear c37);(try clear c37b0);(try clear p38);(try clear q38);(try clear hx38);(try clear hf38);(try clear hx117_0);(try clear hx121_0);(try clear hx123_0);(try clear hx38_0);(try clear p1);(try clear p11);(try clear p117);(try clear p121);(try clear p123);(try clear p2);(try clear p38);(try clear q1);(try clear q11);(try clear q117);(try clear q121);(try clear q123);(try clear q38)
           obtain⟨x9_3,rfl,HA,HK3,HO_4,HO_5,HB⟩:=hrel;cases gk with
           |zero=>exact absurd HA.out (by simp[laws_FnNextReach.l2])
           |succ k3=>
            have H:=HA.out;clear HA;simp only[laws_FnNextReach.l2]at H
            by_cases c45:x9_3<(t104.length:Int)
            ·rw[if_pos c45]at H
             have c45b0:decide (x9_3<(t104.length:Int))=true:=decide_eq_true c45;clear c45;have HC46:=aS H;clear H;go_upto_region 21 with (fail)
             repeat(go_quiet (fail);go_upto_region 21 with (fail))
             go_cut [101] (fun v101 wc=> ∃ (kq:Nat) (x101_45:Bool),v101= .bool x101_45∧Aside0 (laws_FnNextReach.j4 kq t104 x5_2 x9_3 x101_45=some r)∧Aside0 (kq≤k3)∧Aside0 (Kd.R (Kd.int .i64) 3 wc w.heap.size (fun _=>True) (.slice Ao44 t104.length co44) t104)∧Aside0 (Kd.R Kd.bool 4 wc w.heap.size (fun _=>True) v115 x5_2)∧Aside0 (Below w.heap.size w wc))
             case first=>
              have H:=HC46.out;clear HC46;by_cases c47:0≤x9_3
              ·rw[if_pos c47]at H
               have c47b0:decide (0≤x9_3)=true:=decide_eq_true c47;clear c47;(first|rw[c47b0]|(simp only[i64_w,i32_w];rw[c47b0])|skip)
               by_cases c48:(rd t104 x9_3)>0
               ·rw[if_pos c48]at H
                have c48b0:decide (0<(rd t104 x9_3))=true:=decide_eq_true c48;clear c48;by_cases c49:0≤(rd t104 x9_3)
                ·rw[if_pos c49]at H
                 have c49b0:decide (0≤(rd t104 x9_3))=true:=decide_eq_true c49;clear c49;by_cases c50:(rd t104 x9_3)<(x5_2.length:Int)
                 ·rw[if_pos c50]at H
                  have c50b0:decide ((rd t104 x9_3)<(x5_2.length:Int))=true:=decide_eq_true c50;clear c50;obtain⟨bq51,hbq51⟩: ∃b_:Bool,b_=(rdOf false x5_2 (rd t104 x9_3)):=⟨_,rfl⟩;replace H:(if(bq51=true)then(if x9_3>0 then(if 0≤(wrap64 (x9_3-1))then(if(wrap64 (x9_3-1))<(t104.length:Int)then(laws_FnNextReach.j4 k3 t104 x5_2 x9_3 (decide ((rd t104 x9_3)≤(rd t104 (wrap64 (x9_3-1))))))else(none))else(none))else(laws_FnNextReach.j4 k3 t104 x5_2 x9_3 false))else(laws_FnNextReach.j4 k3 t104 x5_2 x9_3 true))=some r:=by rw[←hbq51]at H;exact H
                  have Nbq51:=aS hbq51;clear hbq51;by_cases c52:(bq51=true)
                  ·subst c52
                   have H1:(if x9_3>0 then(if 0≤(wrap64 (x9_3-1))then(if(wrap64 (x9_3-1))<(t104.length:Int)then(laws_FnNextReach.j4 k3 t104 x5_2 x9_3 (decide ((rd t104 x9_3)≤(rd t104 (wrap64 (x9_3-1))))))else(none))else(none))else(laws_FnNextReach.j4 k3 t104 x5_2 x9_3 false))=some r:=by rw[if_pos rfl]at H;exact H
                   clear H;have H:=H1;clear H1;by_cases c53:x9_3>0
                   ·rw[if_pos c53]at H
                    have c53b0:decide (0<x9_3)=true:=decide_eq_true c53;clear c53;obtain⟨ji54,hji54⟩: ∃j_:Int,(wrap64 (x9_3-1))=j_:=⟨_,rfl⟩;replace H:(if 0≤(ji54)then(if(ji54)<(t104.length:Int)then(laws_FnNextReach.j4 k3 t104 x5_2 x9_3 (decide ((rd t104 x9_3)≤(rd t104 (ji54)))))else(none))else(none))=some r:=by first|(rw[hji54]at H;exact H)|(simp only[hji54]at H⊢;exact H)
                    have hji54w:(IntKind.i64.wrap (x9_3-1))=ji54:=(i64_w _).trans hji54;by_cases c55:0≤(ji54)
                    ·rw[if_pos c55]at H
                     have c55b0:decide (0≤(ji54))=true:=decide_eq_true c55;clear c55;by_cases c56:(ji54)<(t104.length:Int)
                     ·rw[if_pos c56]at H
                      have c56b0:decide ((ji54)<(t104.length:Int))=true:=decide_eq_true c56;clear c56;have H':=aS H;clear H;have p125:0≤(x9_3:Int):=of_decide_eq_true (by assumption)
                      have q125:x9_3<(t104.length:Int):=of_decide_eq_true (by assumption)
                      obtain⟨ad125,e125,hx125_0⟩:=Kd.at_int (Kd.R_reads' HO_4.out).2.2 x9_3 p125 q125;cases e125
                      replace p125:=eq_true p125;replace q125:=eq_true q125;have p126:0≤(x9_3:Int):=of_decide_eq_true (by assumption)
                      have q126:x9_3<(t104.length:Int):=of_decide_eq_true (by assumption)
                      obtain⟨ad126,e126,hx126_0⟩:=Kd.at_int (Kd.R_reads' HO_4.out).2.2 x9_3 p126 q126;obtain rfl:ad125=ad126:=(by injection e126)
                      replace p126:=eq_true p126;replace q126:=eq_true q126;obtain⟨Ao57,co57,eo57⟩:=Kd.R_slice HO_5.out;subst eo57;have p127:0≤((rd t104 x9_3):Int):=of_decide_eq_true (by assumption)
                      have q127:(rd t104 x9_3)<(x5_2.length:Int):=of_decide_eq_true (by assumption)
                      obtain⟨ad127,e127,hx127_0⟩:=Kd.at_bool (Kd.R_reads' HO_5.out).2.2 (rd t104 x9_3) p127 q127;(try rw[←Nbq51.out]at hx127_0)
                      cases e127
                      replace p127:=eq_true p127;replace q127:=eq_true q127;have p128:0≤(x9_3:Int):=of_decide_eq_true (by assumption)
                      have q128:x9_3<(t104.length:Int):=of_decide_eq_true (by assumption)
                      obtain⟨ad128,e128,hx128_0⟩:=Kd.at_int (Kd.R_reads' HO_4.out).2.2 x9_3 p128 q128;obtain rfl:ad125=ad128:=(by injection e128)
                      replace p128:=eq_true p128;replace q128:=eq_true q128;have p129:0≤((ji54):Int):=of_decide_eq_true (by assumption)
                      have q129:(ji54)<(t104.length:Int):=of_decide_eq_true (by assumption)
                      obtain⟨ad129,e129,hx129_0⟩:=Kd.at_int (Kd.R_reads' HO_4.out).2.2 (ji54) p129 q129;obtain rfl:ad125=ad129:=(by injection e129)
                      replace p129:=eq_true p129;replace q129:=eq_true q129;go_wp2
                      repeat(go_quiet (fail);try go_wp2)
                      go_meet
                      case rel=>exact⟨_,(decide ((rd t104 x9_3)≤(rd t104 (ji54)))),(by first|rfl|(simp;done)|(simp only[←hji54]<;>(first|rfl|simp))|(simp[*];done)),H',⟨by have:=HJ4.out;have:=HK2.out;have:=HK3.out;first|omega|exact Nat.le_refl _⟩,⟨by exact rU HO_4.out⟩,⟨by exact rU HO_5.out⟩,⟨by exact bU HB.out⟩⟩
                     ·rw[if_neg c56]at H
                      exact absurd H (by simp)
                    ·rw[if_neg c55]at H
                     exact absurd H (by simp)
                   ·rw[if_neg c53]at H
                    have c53b0:decide (0<x9_3)=false:=decide_eq_false c53;clear c53;have H':=aS H;clear H;have p125:0≤(x9_3:Int):=of_decide_eq_true (by assumption)
                    have q125:x9_3<(t104.length:Int):=of_decide_eq_true (by assumption)
                    obtain⟨ad125,e125,hx125_0⟩:=Kd.at_int (Kd.R_reads' HO_4.out).2.2 x9_3 p125 q125;cases e125
                    replace p125:=eq_true p125;replace q125:=eq_true q125;have p126:0≤(x9_3:Int):=of_decide_eq_true (by assumption)
                    have q126:x9_3<(t104.length:Int):=of_decide_eq_true (by assumption)
                    obtain⟨ad126,e126,hx126_0⟩:=Kd.at_int (Kd.R_reads' HO_4.out).2.2 x9_3 p126 q126;obtain rfl:ad125=ad126:=(by injection e126)
                    replace p126:=eq_true p126;replace q126:=eq_true q126;obtain⟨Ao58,co58,eo58⟩:=Kd.R_slice HO_5.out;subst eo58;have p127:0≤((rd t104 x9_3):Int):=of_decide_eq_true (by assumption)
                    have q127:(rd t104 x9_3)<(x5_2.length:Int):=of_decide_eq_true (by assumption)
                    obtain⟨ad127,e127,hx127_0⟩:=Kd.at_bool (Kd.R_reads' HO_5.out).2.2 (rd t104 x9_3) p127 q127;(try rw[←Nbq51.out]at hx127_0)
                    cases e127
                    replace p127:=eq_true p127;replace q127:=eq_true q127;go_wp2
                    repeat(go_quiet (fail);try go_wp2)
                    go_meet
                    case rel=>exact⟨_,(false),(by first|rfl|(simp;done)|(simp[*];done)),H',⟨by have:=HJ4.out;have:=HK2.out;have:=HK3.out;first|omega|exact Nat.le_refl _⟩,⟨by exact rU HO_4.out⟩,⟨by exact rU HO_5.out⟩,⟨by exact bU HB.out⟩⟩
                  ·replace c52:=Bool.eq_false_iff.mpr c52
                   subst c52;have H1:(laws_FnNextReach.j4 k3 t104 x5_2 x9_3 true)=some r:=by rw[if_neg (show¬(false=true) by decide)]at H;exact H
                   clear H;have H:=H1;clear H1;have H':=aS H;clear H;have p125:0≤(x9_3:Int):=of_decide_eq_true (by assumption)
                   have q125:x9_3<(t104.length:Int):=of_decide_eq_true (by assumption)
                   obtain⟨ad125,e125,hx125_0⟩:=Kd.at_int (Kd.R_reads' HO_4.out).2.2 x9_3 p125 q125;cases e125
                   replace p125:=eq_true p125;replace q125:=eq_true q125;have p126:0≤(x9_3:Int):=of_decide_eq_true (by assumption)
                   have q126:x9_3<(t104.length:Int):=of_decide_eq_true (by assumption)
                   obtain⟨ad126,e126,hx126_0⟩:=Kd.at_int (Kd.R_reads' HO_4.out).2.2 x9_3 p126 q126;obtain rfl:ad125=ad126:=(by injection e126)
                   replace p126:=eq_true p126;replace q126:=eq_true q126;obtain⟨Ao59,co59,eo59⟩:=Kd.R_slice HO_5.out;subst eo59;have p127:0≤((rd t104 x9_3):Int):=of_decide_eq_true (by assumption)
                   have q127:(rd t104 x9_3)<(x5_2.length:Int):=of_decide_eq_true (by assumption)
                   obtain⟨ad127,e127,hx127_0⟩:=Kd.at_bool (Kd.R_reads' HO_5.out).2.2 (rd t104 x9_3) p127 q127;(try rw[←Nbq51.out]at hx127_0)
                   cases e127
                   replace p127:=eq_true p127;replace q127:=eq_true q127;go_wp2
                   repeat(go_quiet (fail);try go_wp2)
                   go_meet
                   case rel=>exact⟨_,(true),(by first|rfl|(simp;done)|(simp[*];done)),H',⟨by have:=HJ4.out;have:=HK2.out;have:=HK3.out;first|omega|exact Nat.le_refl _⟩,⟨by exact rU HO_4.out⟩,⟨by exact rU HO_5.out⟩,⟨by exact bU HB.out⟩⟩
                 ·rw[if_neg c50]at H
                  exact absurd H (by simp)
                ·rw[if_neg c49]at H
                 exact absurd H (by simp)
               ·rw[if_neg c48]at H
                have c48b0:decide (0<(rd t104 x9_3))=false:=decide_eq_false c48;clear c48;by_cases c60:x9_3>0
                ·rw[if_pos c60]at H
                 have c60b0:decide (0<x9_3)=true:=decide_eq_true c60;clear c60;obtain⟨ji61,hji61⟩: ∃j_:Int,(wrap64 (x9_3-1))=j_:=⟨_,rfl⟩;replace H:(if 0≤(ji61)then(if(ji61)<(t104.length:Int)then(laws_FnNextReach.j4 k3 t104 x5_2 x9_3 (decide ((rd t104 x9_3)≤(rd t104 (ji61)))))else(none))else(none))=some r:=by first|(rw[hji61]at H;exact H)|(simp only[hji61]at H⊢;exact H)
                 have hji61w:(IntKind.i64.wrap (x9_3-1))=ji61:=(i64_w _).trans hji61;by_cases c62:0≤(ji61)
                 ·rw[if_pos c62]at H
                  have c62b0:decide (0≤(ji61))=true:=decide_eq_true c62;clear c62;by_cases c63:(ji61)<(t104.length:Int)
                  ·rw[if_pos c63]at H
                   have c63b0:decide ((ji61)<(t104.length:Int))=true:=decide_eq_true c63;clear c63;have H':=aS H;clear H;have p125:0≤(x9_3:Int):=of_decide_eq_true (by assumption)
                   have q125:x9_3<(t104.length:Int):=of_decide_eq_true (by assumption)
                   obtain⟨ad125,e125,hx125_0⟩:=Kd.at_int (Kd.R_reads' HO_4.out).2.2 x9_3 p125 q125;cases e125
                   replace p125:=eq_true p125;replace q125:=eq_true q125;have p130:0≤(x9_3:Int):=of_decide_eq_true (by assumption)
                   have q130:x9_3<(t104.length:Int):=of_decide_eq_true (by assumption)
                   obtain⟨ad130,e130,hx130_0⟩:=Kd.at_int (Kd.R_reads' HO_4.out).2.2 x9_3 p130 q130;obtain rfl:ad125=ad130:=(by injection e130)
                   replace p130:=eq_true p130;replace q130:=eq_true q130;have p131:0≤((ji61):Int):=of_decide_eq_true (by assumption)
                   have q131:(ji61)<(t104.length:Int):=of_decide_eq_true (by assumption)
                   obtain⟨ad131,e131,hx131_0⟩:=Kd.at_int (Kd.R_reads' HO_4.out).2.2 (ji61) p131 q131;obtain rfl:ad125=ad131:=(by injection e131)
                   replace p131:=eq_true p131;replace q131:=eq_true q131;go_wp2
                   repeat(go_quiet (fail);try go_wp2)
                   go_meet
                   case rel=>exact⟨_,(decide ((rd t104 x9_3)≤(rd t104 (ji61)))),(by first|rfl|(simp;done)|(simp only[←hji61]<;>(first|rfl|simp))|(simp[*];done)),H',⟨by have:=HJ4.out;have:=HK2.out;have:=HK3.out;first|omega|exact Nat.le_refl _⟩,⟨by exact rU HO_4.out⟩,⟨by exact rU HO_5.out⟩,⟨by exact bU HB.out⟩⟩
                  ·rw[if_neg c63]at H
                   exact absurd H (by simp)
                 ·rw[if_neg c62]at H
                  exact absurd H (by simp)
                ·rw[if_neg c60]at H
                 have c60b0:decide (0<x9_3)=false:=decide_eq_false c60;clear c60;have H':=aS H;clear H;have p125:0≤(x9_3:Int):=of_decide_eq_true (by assumption)
                 have q125:x9_3<(t104.length:Int):=of_decide_eq_true (by assumption)
                 obtain⟨ad125,e125,hx125_0⟩:=Kd.at_int (Kd.R_reads' HO_4.out).2.2 x9_3 p125 q125;cases e125
                 replace p125:=eq_true p125;replace q125:=eq_true q125;go_wp2
                 repeat(go_quiet (fail);try go_wp2)
                 go_meet
                 case rel=>exact⟨_,(false),(by first|rfl|(simp;done)|(simp[*];done)),H',⟨by have:=HJ4.out;have:=HK2.out;have:=HK3.out;first|omega|exact Nat.le_refl _⟩,⟨by exact rU HO_4.out⟩,⟨by exact rU HO_5.out⟩,⟨by exact bU HB.out⟩⟩
              ·rw[if_neg c47]at H
               exact absurd H (by simp)
             case rest=>
              clear HC46;(try clear c1);(try clear p1);(try clear q1);(try clear hx1);(try clear c2);(try clear c2b0);(try clear c2b1);(try clear p2);(try clear c3);(try clear p3);(try clear q3);(try clear hx3);(try clear hf3);(try clear c4);(try clear c5);(try clear q5);(try clear c6);(try clear p6);(try clear c10);(try clear p11);(try clear q11);(try clear hx11);(try clear p12);(try clear q12);(try clear hx12);(try clear p13);(try clear q13);(try clear hx13);(try clear c17);(try clear c22);(try clear c23);(try clear c23b0);(try clear c23b1);(try clear c24);(try clear c24b0);(try clear c24b1);(try clear c27);(try clear c27b0);(try clear c28);(try clear c28b0);(try clear c32);(try clear c32b0);(try clear c33);(try clear c33b0);(try clear c35);(try clear c36);(try clear c36b0);(try clear c37);(try clear c37b0);(try clear p38);(try clear q38);(try clear hx38);(try clear hf38);(try clear c45);(try clear c45b0);(try clear c47);(try clear c47b0);(try clear c48);(try clear c48b0);(try clear c49);(try clear c49b0);(try clear c50);(try clear c50b0);(try clear q51);(try clear c52);(try clear c53);(try clear c53b0);(try clear c55);(try clear c55b0);(try clear c56);(try clear c56b0);(try clear c60);(try clear c60b0);(try clear c62);(try clear c62b0);(try clear c63);(try clear c63b0);(try clear hx117_0);(try clear hx121_0);(try clear hx123_0);(try clear hx125_0);(try clear hx126_0);(try clear hx127_0);(try clear hx128_0);(try clear hx129_0);(try clear hx130_0);(try clear hx131_0);(try clear hx38_0);(try clear p1);(try clear p11);(try clear p117);(try clear p12);(try clear p121);(try clear p123);(try clear p125);(try clear p126);(try clear p127);(try clear p128);(try clear p129);(try clear p130);(try clear p131);(try clear p2);(try clear p3);(try clear p38);(try clear p6);(try clear q1);(try clear q11);(try clear q117);(try clear q12);(try clear q121);(try clear q123);(try clear q125);(try clear q126);(try clear q127);(try clear q128);(try clear q129);(try clear q130);(try clear q131);(try clear q3);(try clear q38)
              obtain⟨kq,x101_45,rfl,HA,HJ45,HO_4,HO_5,HB⟩:=hcut;cases kq with
              |zero=>exact absurd HA.out (by simp[laws_FnNextReach.j4])
              |succ kj45=>
               have H:=HA.out;clear HA;simp only[laws_FnNextReach.j4]at H
               by_cases c64:x101_45=true
               ·subst c64
                have H1:(some false)=some r:=by rw[if_pos rfl]at H;exact H
                clear H;have H:=H1;clear H1;obtain rfl:=Option.some.inj H;go_wp2
                repeat(go_quiet (fail);try go_wp2)
                go_ret
                exact⟨by first|rfl|(simp[*]<;>rfl),by exact bU HB.out⟩
               ·replace c64:=Bool.eq_false_iff.mpr c64
                subst c64;have H1:(laws_FnNextReach.l2 kj45 t104 x5_2 (wrap64 (x9_3+1)))=some r:=by rw[if_neg (show¬(false=true) by decide)]at H;exact H
                clear H;have H:=H1;clear H1;have H':=aS H;clear H;go_wp2
                repeat(go_quiet (fail);try go_wp2)
                go_roundg kj45
                case measure=>have:=HJ4.out;have:=HK2.out;have:=HK3.out;have:=HJ45.out;omega
                case rel=>exact⟨(wrap64 (x9_3+1)),(by first|rfl|(simp;done)|(simp[*];done)),H',⟨by have:=HJ4.out;have:=HK2.out;have:=HK3.out;have:=HJ45.out;omega⟩,⟨by exact rU HO_4.out⟩,⟨by exact rU HO_5.out⟩,⟨by exact bU HB.out⟩⟩
            ·rw[if_neg c45]at H
             have c45b0:decide (x9_3<(t104.length:Int))=false:=decide_eq_false c45;clear c45;obtain rfl:=Option.some.inj H;go_wp2
             repeat(go_quiet (fail);try go_wp2)
             go_ret
             exact⟨by first|rfl|(simp[*]<;>rfl),by exact bU HB.out⟩
      ·rw[if_neg c24]at H
       exact absurd H (by simp)
     ·rw[if_neg c23]at H
      exact absurd H (by simp)
def laws_FnNextReach.Pure:Prop:= ∀ (l0:List Int),l0.length≤maxLen→l0.length*1≤140737488351232→(∀x∈l0,(Lit.int .u8 x).wf=true)→ ∃k,laws_FnNextReach.f k l0=some true
theorem laws_FnNextReach.walk (P:laws_FnNextReach.Pure) (a0:Option Addr) (len0 cap0:Nat) (z0:List Int) (w:World) (w0:(a0=none∧len0=0∧cap0=0∧z0=[])∨ ∃x,a0=some x∧len0≤cap0∧cap0≤maxLen∧z0.length=cap0∧(∀i,i<z0.length→w.cell? (x.add i)=some (.int .u8 (z0.getD i 0)))∧ ∀n∈z0,(Lit.int .u8 n).wf=true) (y0:len0*1≤140737488351232):
  Calls Try.prog 22 #[.slice a0 len0 cap0] w fun e w'=>e= .returned (.bool true)∧Below w.heap.size w w':=by
 obtain⟨l0,rfl,hr0,hm0,hw0,hc0⟩:=ReadsInt.ofRowC w0;obtain⟨k,h⟩:=P l0 hm0 y0 hw0;refine(laws_FnNextReach.calls k _ _ l0 true w (Kd.C_of_reads (d:=(0:Int)) (h1:=fun _=>rfl) hr0) hc0 h).mono ?_
 rintro e w' ⟨rfl,hd⟩
 exact⟨rfl,hd⟩
end Go.Proofs.Ytmklpbmlgjkbiaa.PJJ
end
section
namespace Go.Proofs.Ytmklpbmlgjkbiaa.Pure
open Go.RowKit Go.Proofs.Ytmklpbmlgjkbiaa.PJJ Go.Proofs.Ytmklpbmlgjkbiaa.PS Go.Proofs.YtmklpbmlgjkbiaaW.PrintWords Go.Proofs.YtmklpbmlgjkbiaaW.PrintLast
theorem reach_pair (l:List S29):(reachL l).Pairwise (· < ·):=by
  unfold reachL reachTo;rw[List.pairwise_map];refine List.Pairwise.filter _ ?_
  exact List.Pairwise.imp (fun h=>by omega) List.pairwise_lt_range
theorem reach_asc (l:List S29) {i:Nat} (hi:i+1<(reachL l).length):(reachL l)[i]'(by omega)<(reachL l)[i+1]:=
  List.pairwise_iff_getElem.1 (reach_pair l) i (i+1) (by omega) hi (by omega)
def Told (n:Nat) (x:List Bool) (S:Int→Prop):Prop:=x.length=n∧ ∀v,S v→0≤v→v<n→rdOf false x v=true
theorem told_set {n:Nat} {x:List Bool} {S:Int→Prop} (h:Told n x S) {a:Int} (h0:0≤a) (h1:a<n):Told n (x.set a.toNat true) (fun v=>S v∨v=a):=by
  refine⟨by rw[List.length_set];exact h.1,fun v hv v0 v1=> ?_⟩
  unfold rdOf;rw[List.getD_eq_getElem?_getD];by_cases e:a.toNat=v.toNat
  · rw[e,List.getElem?_set_self (by rw[h.1];omega)];rfl
  · rw[List.getElem?_set_ne e]
    rcases hv with hv|hv
    · have:=h.2 v hv v0 v1
      unfold rdOf at this;rwa [List.getD_eq_getElem?_getD]at this
    · omega
def nextOf (l:List S29) (v:Int):List Int:=onceL (waysL l v.toNat)
theorem nr_next {l:List S29} {M:List Int} (hM: ∀x∈M,x∈reachL l) (hM2:M.length≤2) (hrl:(reachL l).length≤100) {i:Int} (d:Nat): ∀ (m:Nat) (x:List Bool) (S:Int→Prop),M.length-m=d→m≤M.length→Told l.length x S→
    (∀x',Told l.length x' (fun v=>S v∨v∈M.drop m)→Ev (fun k=>laws_FnNextReach.l0 k l (reachL l) x' (wrap64 (i+1))) true)→Ev (fun k=>laws_FnNextReach.l1 k l (reachL l) x i M (m:Int)) true:=by
  induction d with
  |zero=>
    intro m x S hd hm hT h
    have h1:=h x ⟨hT.1,fun v hv=>by
      rw[List.drop_of_length_le (by omega)]at hv
      rcases hv with hv|hv
      · exact hT.2 v hv
      · cases hv⟩
    refine Ev.step (fun k=> ?_) h1
    simp only[laws_FnNextReach.l1]
    rw[if_neg (by omega)]
  |succ d ih=>
    intro m x S hd hm hT h;have d0:M.drop m=M[m]'(by omega)::M.drop (m+1):=List.drop_eq_getElem_cons (by omega)
    have hin:=hM M[m] (List.getElem_mem (by omega))
    have hb:=reach_in hin;have hw:wrap64 ((m:Int)+1)=((m+1:Nat):Int):=by rw[w64 (by omega) (by omega)];rfl
    refine Ev.step (f:=fun k=>(laws_lvAmong.f k (reachL l) (M[m]'(by omega))).bind fun t122=>(if t122=true then(if 0≤(M[m]'(by omega))then(if(M[m]'(by omega))<(x.length:Int)then(laws_FnNextReach.l1 k l (reachL l) (x.set ((M[m]'(by omega)):Int).toNat true) i M ((m+1:Nat):Int))else(none))else(none))else(some false))) (fun k=> ?_) ?_
    · simp only[laws_FnNextReach.l1,hw]
      rw[if_pos (by omega),if_pos (by omega),rd_at M m (by omega)]
    · refine Ev.bind (lvAmong_ev _ _ (by omega)) ?_
      rw[decide_eq_true hin];simp only[if_true,if_pos hb.1,if_pos (show M[m]'(by omega)<(x.length:Int) by rw[hT.1];exact hb.2)]
      refine ih (m+1) _ _ (by omega) (by omega) (told_set hT hb.1 hb.2) (fun x' hx'=> ?_)
      refine h x' ⟨hx'.1,fun v hv=>hx'.2 v ?_⟩
      rw[d0]at hv
      rcases hv with hv|hv
      · exact .inl (.inl hv)
      · rcases List.mem_cons.1 hv with hv|hv
        · exact .inl (.inr hv)
        · exact .inr hv
theorem nr_last {l:List S29} (hrl:(reachL l).length≤100) {x:List Bool} (hx:Told l.length x (fun v=>v∈reachL l∧v≠0)) (d:Nat): ∀i,(reachL l).length-i=d→i≤(reachL l).length→Ev (fun k=>laws_FnNextReach.l2 k (reachL l) x (i:Int)) true:=by
  induction d with
  |zero=>
    intro i hd hi;refine Ev.step (f:=fun k=>some true) (fun k=> ?_) (Ev.now _)
    simp only[laws_FnNextReach.l2]
    rw[if_neg (by omega)]
  |succ d ih=>
    intro i hd hi;have ih1:=ih (i+1) (by omega) (by omega)
    have hw:wrap64 ((i:Int)+1)=((i+1:Nat):Int):=by rw[w64 (by omega) (by omega)];rfl
    have hmem:(reachL l)[i]'(by omega)∈reachL l:=List.getElem_mem _
    have hb:=reach_in hmem
    have j4:Ev (fun k=>laws_FnNextReach.j4 k (reachL l) x (i:Int) false) true:=by
      refine Ev.step (fun k=> ?_) ih1
      simp only[laws_FnNextReach.j4,Bool.false_eq_true,if_false,hw]
    have tail: ∀k,(if(i:Int)>0 then(if 0≤(wrap64 ((i:Int)-1))then(if(wrap64 ((i:Int)-1))<((reachL l).length:Int)then(laws_FnNextReach.j4 k (reachL l) x (i:Int) (decide ((reachL l)[i]'(by omega)≤(rd (reachL l) (wrap64 ((i:Int)-1))))))else(none))else(none))else(laws_FnNextReach.j4 k (reachL l) x (i:Int) false))=laws_FnNextReach.j4 k (reachL l) x (i:Int) false:=fun k=>by
      by_cases h0:(i:Int)>0
      · obtain⟨j,rfl⟩: ∃j,i=j+1:=⟨i-1,by omega⟩
        have hw1:wrap64 (((j+1:Nat):Int)-1)=(j:Int):=by rw[w64 (by omega) (by omega)];omega
        have:=reach_asc l (i:=j) (by omega)
        rw[if_pos h0,hw1,if_pos (by omega),if_pos (by omega),rd_at _ j (by omega),decide_eq_false (by omega)]
      · rw[if_neg h0]
    refine Ev.step (fun k=> ?_) j4
    simp only[laws_FnNextReach.l2]
    rw[if_pos (by omega),if_pos (by omega),rd_at _ i (by omega)]
    by_cases hz:(reachL l)[i]'(by omega)>0
    · have ht:=hx.2 _ ⟨hmem,by omega⟩ hb.1 hb.2
      rw[if_pos hz,if_pos hb.1,if_pos (by rw[hx.1];exact hb.2),if_pos ht]
      exact tail k
    · rw[if_neg hz]
      exact tail k
theorem next_in {l:List S29} (hc:codeB l=true) {v:Int} (hv:v∈reachL l): ∀x∈nextOf l v,x∈reachL l:=by
  intro x hx;have hb:=reach_in hv;obtain⟨i,rfl⟩:=Int.eq_ofNat_of_zero_le hb.1;unfold nextOf at hx;rw[Int.toNat_natCast]at hx
  obtain⟨a,ha,rfl⟩:=mem_once.1 hx;have hi:i<l.length:=by omega
  have h0:=(mem_reach hi).1 hv;obtain⟨w0,w1,w2, -⟩:=full_way hc hi h0 ha;obtain⟨t,ht⟩:=Int.eq_ofNat_of_zero_le w0;rw[ht]at w1 w2⊢
  exact(mem_reach (by omega)).2 w2
theorem nr_loop {l:List S29} (hc:codeB l=true) (d:Nat): ∀ (i:Nat) (x:List Bool),(reachL l).length-i=d→i≤(reachL l).length→Told l.length x (fun v=> ∃p,∃h:p<(reachL l).length,p<i∧v∈nextOf l (reachL l)[p])→Ev (fun k=>laws_FnNextReach.l0 k l (reachL l) x (i:Int)) true:=by
  obtain⟨g1,g2⟩:=code_len hc;have hrl:(reachL l).length≤l.length:=reach_len l l.length;induction d with
  |zero=>
    intro i x hd hi hT;refine Ev.step (f:=fun k=>laws_FnNextReach.l2 k (reachL l) x 0) (fun k=> ?_) ?_
    · simp only[laws_FnNextReach.l0];rw[if_neg (by omega)]
    · refine nr_last (by omega) ⟨hT.1,fun v hv v0 v1=>hT.2 v ?_ v0 v1⟩ _ 0 rfl (by omega)
      obtain⟨t,rfl⟩:=Int.eq_ofNat_of_zero_le v0;have h0:=(mem_reach (by omega)).1 hv.1
      have hR:=(full_reach (wayW_good hc) (n:=l.length) (by omega) (i:=(t:Int))).1 ⟨by omega,by omega,h0⟩
      generalize hv':(t:Int)=v at hR hv
      cases hR with
      |first=>exact absurd rfl hv.2
      |next hr hi' ha=>
        rename_i j a;have hj:=((full_reach (wayW_good hc) (n:=l.length) (by omega)).2 hr).2.2
        have hjm:=(mem_reach hi').2 hj;obtain⟨p,hp,he⟩:=List.mem_iff_getElem.1 hjm;refine⟨p,hp,by omega,?_⟩
        rw[he];unfold nextOf;rw[Int.toNat_natCast];exact way_next.2 ⟨_,ha,rfl⟩
  |succ d ih=>
    intro i x hd hi hT;have hmem:(reachL l)[i]'(by omega)∈reachL l:=List.getElem_mem _
    have hb:=reach_in hmem;have hw:wrap64 ((i:Int)+1)=((i+1:Nat):Int):=by rw[w64 (by omega) (by omega)];rfl
    have hn:nextV.f l ((reachL l)[i]'(by omega))=some (nextOf l ((reachL l)[i]'(by omega))):=by
      unfold nextV.f;rw[if_pos ⟨hc,hb.1,hb.2⟩];rfl
    refine Ev.step (f:=fun k=>laws_FnNextReach.l1 k l (reachL l) x (i:Int) (nextOf l ((reachL l)[i]'(by omega))) 0) (fun k=> ?_) ?_
    · simp only[laws_FnNextReach.l0]
      rw[if_pos (by omega),if_pos (by omega),rd_at _ i (by omega),hn];rfl
    · refine nr_next (next_in hc hmem) (once_len2 _ _) (by omega) _ 0 x _ rfl (by omega) hT (fun x' hx'=> ?_)
      rw[hw];refine ih (i+1) x' (by omega) (by omega) ⟨hx'.1,fun v hv=>hx'.2 v ?_⟩
      obtain⟨p,hp,hpi,hv⟩:=hv;by_cases e:p=i
      · subst e;exact .inr hv
      · exact .inl ⟨p,hp,by omega,hv⟩
theorem FnNextReach:laws_FnNextReach.Pure:=by
  intro l0 hm hr hw;refine Ev.rounds ?_
  unfold laws_FnNextReach.f;by_cases hl:(l0.length:Int)>1048576
  · simp only[if_pos hl];exact Ev.now _
  simp only[if_neg hl]
  obtain⟨c,hc,hcl⟩:=drawReach_ev hw;refine Ev.bind hc ?_
  have hrl:=reach_len c c.length;unfold reachV.f;simp only[Option.bind_some]
  by_cases hk:codeB c=true
  · have h1:=code_len hk
    simp only[if_pos hk]
    refine Ev.bind (lvInts_same _ (by unfold reachL;omega)) ?_
    simp only[if_true]
    have hf:0≤at_ (fullL c) 0∧at_ (fullL c) 0≤1:=full_first (wayW_good hk) (n:=c.length) (by omega)
    obtain⟨t,ht⟩:=reach_head c hf.1 (c.length-1);have ht:reachL c=0::t:=by unfold reachL;rw[←ht];congr 1;omega
    have e0:(((reachL c).length:Int)==0)=false:=beq_eq_false_iff_ne.2 (by rw[ht];simp;omega)
    refine Ev.step (fun k=> ?_) (nr_loop hk (reachL c).length 0 (List.replicate c.length false) (by omega) (by omega) ⟨by simp,fun v hv=>by obtain⟨p,_,hp,_⟩:=hv;omega⟩)
    simp only[laws_FnNextReach.j0,e0,Bool.false_eq_true,if_false]
    rw[if_pos (by omega),if_pos (by omega),Int.toNat_natCast];rfl
  · simp only[if_neg hk]
    refine Ev.bind (lvInts_same _ (by simp)) ?_
    simp only[if_true]
    refine Ev.step (f:=fun k=>(laws_lvInts.f k [] []).bind fun t113=>some t113) (fun k=> ?_) ?_
    · simp only[laws_FnNextReach.j0,reachV.f,if_neg hk,Option.bind_some]
      rw[if_pos (by simp)]
    · exact Ev.bind (lvInts_same _ (by simp)) (Ev.now _)
end Go.Proofs.Ytmklpbmlgjkbiaa.Pure
end
