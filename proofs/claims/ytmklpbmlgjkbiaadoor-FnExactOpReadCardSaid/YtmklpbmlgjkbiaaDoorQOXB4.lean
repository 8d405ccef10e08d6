/- What the rows of OXB rest on, part 5. -/
import Derived.Lib.Split
import Derived.Lib.SplitLaws
import Derived.Lib.CountLaws
import Derived.Lib.AtoiErrMem
import Derived.Lib.OthersKept
import Derived.Maps.OwnSet
import Derived.Maps.Views
import Derived.Test.YtmklpbmlgjkbiaaDoorQOXB3
set_option linter.unusedVariables false
set_option linter.unusedSimpArgs false
set_option maxHeartbeats 8000000
set_option maxRecDepth 100000
section
namespace Go.Proofs.YtmklpbmlgjkbiaaDoor.PS
open Go.RowKit Go.Proofs.YtmklpbmlgjkbiaaDoorW.PrintWords Go.Proofs.YtmklpbmlgjkbiaaDoorW.PrintLast
theorem eqA35 (n:Nat) (w:World) (x0 x1 x2 x3 x4 x5 y0 y1 y2 y3 y4 y5:Int):
    (Op.equalIn (n+3) 35 (.agg #[.int .i64 x0,.int .i64 x1,.int .i64 x2,.int .i64 x3,.int .i64 x4,.int .i64 x5]) (.agg #[.int .i64 y0,.int .i64 y1,.int .i64 y2,.int .i64 y3,.int .i64 y4,.int .i64 y5])).run Tryd.prog w= .ok (x0==y0&&(x1==y1&&(x2==y2&&(x3==y3&&(x4==y4&&(x5==y5)))))) w:=by
  refine eqA_of Tryd.underlying35 (by kernel_rfl) ?_
  refine eqf_cons (by rfl) (by go_simp;rfl) (by go_simp;rfl) (by go_simp) ?_
  refine eqf_cons (by rfl) (by go_simp;rfl) (by go_simp;rfl) (by go_simp) ?_
  refine eqf_cons (by rfl) (by go_simp;rfl) (by go_simp;rfl) (by go_simp) ?_
  refine eqf_cons (by rfl) (by go_simp;rfl) (by go_simp;rfl) (by go_simp) ?_
  exact eqf_last (by rfl) (by go_simp) (by go_simp) (eqA25 n w x4 y4 x5 y5)
attribute [local go_sem high] eqA35
end Go.Proofs.YtmklpbmlgjkbiaaDoor.PS
end
section
namespace Go.Proofs.YtmklpbmlgjkbiaaDoor.PS
open Go.RowKit Go.Proofs.YtmklpbmlgjkbiaaDoorW.PrintWords Go.Proofs.YtmklpbmlgjkbiaaDoorW.PrintLast
def byL (l:List UInt8):ByteArray:=⟨l.toArray⟩
theorem byL_data (b:ByteArray):byL b.data.toList=b:=by refine Go.WideShapes.bytes_inj ?_;unfold byL;simp
theorem idx_miss: ∀a:List UInt8,32∉a→Lib.index a [32]= -1
  | [],_=>by simp[Lib.index]
  |b::l,h=>by
    have h1: ¬(32=b):=fun e=>h (by rw[e];exact List.mem_cons_self)
    have h2:=idx_miss l (fun m=>h (List.mem_cons_of_mem _ m))
    unfold Lib.index;simp[h1,h2]
theorem idx_hit: ∀ (a z:List UInt8),32∉a→Lib.index (a++32::z) [32]=a.length
  | [],z,_=>by simp[Lib.index]
  |b::l,z,h=>by
    have h1: ¬(32=b):=fun e=>h (by rw[e];exact List.mem_cons_self)
    have h2:=idx_hit l z (fun m=>h (List.mem_cons_of_mem _ m))
    have h3:((l.length:Int)== -1)=false:=by rw[beq_eq_false_iff_ne];omega
    rw[List.cons_append];unfold Lib.index;rw[h2,h3];simp[h1]
def piecesB (t:ByteArray):List ByteArray:=Lib.splitB ⟨#[32]⟩ 0 (Lib.countB t ⟨#[32]⟩) t
theorem pieces_last (l:List UInt8) (h:32∉l):piecesB (byL l)=[byL l]:=by
  unfold piecesB;exact Lib.splitB_miss _ _ _ _ (by show Lib.index (byL l).data.toList [32]= -1;exact idx_miss _ (by simpa[byL]using h))
theorem pieces_cons (a z:List UInt8) (ha:32∉a):piecesB (byL (a++32::z))=byL a::piecesB (byL z):=by
  have hi:Lib.index (byL (a++32::z)).data.toList (⟨#[32]⟩:ByteArray).data.toList=((a.length:Nat):Int):=by
    show Lib.index (a++32::z) [32]=_
    exact idx_hit a z ha
  have e1:(byL (a++32::z)).extract (a.length+(⟨#[32]⟩:ByteArray).size) (byL (a++32::z)).size=byL z:=by
    refine Go.WideShapes.bytes_inj ?_
    rw[show(⟨#[32]⟩:ByteArray).size=1 from rfl]
    simp[byL,ByteArray.data_extract,ByteArray.size]
    exact List.take_of_length_le (by omega)
  have e2:(byL (a++32::z)).extract 0 (a.length+0)=byL a:=by
    refine Go.WideShapes.bytes_inj ?_
    simp[byL,ByteArray.data_extract]
  unfold piecesB;rw[Lib.countB_hit _ _ a.length (by decide) hi,Nat.add_comm 1,Lib.splitB_hit _ _ _ _ a.length hi,e1,e2]
def joinL:List UInt8→List (List UInt8)→List UInt8
  |w,[]=>w
  |w,v::ws=>w++32::joinL v ws
theorem pieces_join: ∀ (ws:List (List UInt8)) (w:List UInt8),32∉w→(∀v∈ws,32∉v)→piecesB (byL (joinL w ws))=byL w::ws.map byL
  | [],w,h,_=>pieces_last w h
  |v::ws,w,h,hs=>by
    show piecesB (byL (w++32::joinL v ws))=_
    rw[pieces_cons _ _ h,pieces_join ws v (hs v List.mem_cons_self) (fun x hx=>hs x (List.mem_cons_of_mem _ hx))]
    rfl
def sg {α:Type} (b:Bool) (x:α):List α:=if b=true then [x]else []
def wordsL (k r s t vk vn:Int):List (List UInt8):=sg (hasR k) (itoaS r)++(sg (hasS k) (itoaS s)++(sg (hasT k) (itoaS t)++sg (hasV k) (vtextS vk vn)))
theorem optL_join (k r s t vk vn:Int):optL k r s t vk vn=joinL (nameS k) (wordsL k r s t vk vn):=by
  unfold optL wordsL;cases hasR k<;>cases hasS k<;>cases hasT k<;>cases hasV k<;>simp[sg,segL,joinL]
theorem vtext_blank (vk vn:Int) (h:okP vk vn):32∉vtextS vk vn:=
  okAll (P:=fun k n=>32∉vtextS k n) (by decide+kernel) (by decide+kernel) (by decide+kernel) (by decide+kernel) vk vn h
theorem words_blank {k r s t vk vn:Int} (h:opP k r s t vk vn): ∀v∈wordsL k r s t vk vn,32∉v:=by
  obtain⟨hk,hv,hr,hs,ht,hvv⟩:=h;intro v hm;unfold wordsL at hm;simp only[List.mem_append]at hm
  have one: ∀ {b:Bool} {x:List UInt8},32∉x→v∈sg b x→32∉v:=by
    intro b x hx hv;unfold sg at hv;split at hv
    · rw[List.mem_singleton]at hv;rwa [hv]
    · cases hv
  rcases hm with hm|hm|hm|hm
  · exact one (itoa_facts r (by omega) (by omega)).1 hm
  · exact one (itoa_facts s (by omega) (by omega)).1 hm
  · exact one (itoa_facts t (by omega) (by omega)).1 hm
  · exact one (vtext_blank vk vn hv.1) hm
def wordsB (k r s t vk vn:Int):List ByteArray:=nameB k::(sg (hasR k) (decB r)++(sg (hasS k) (decB s)++(sg (hasT k) (decB t)++sg (hasV k) (vtext vk vn))))
theorem pieces_text {k r s t vk vn:Int} (h:opB k r s t vk vn=true):piecesB (opText k r s t vk vn)=wordsB k r s t vk vn:=by
  have hp:=opB_true.1 h
  have e:opText k r s t vk vn=byL (joinL (nameS k) (wordsL k r s t vk vn)):=by
    rw[←optL_join,←opText_list h,byL_data]
  rw[e,pieces_join _ _ (name_facts k hp.1).1.1 (words_blank hp)];unfold wordsB wordsL
  have hs: ∀ {b:Bool} {x:List UInt8} {y:ByteArray},byL x=y→(sg b x).map byL=sg b y:=by
    intro b x y e;subst e;cases b<;>simp[sg]
  have e1:byL (nameS k)=nameB k:=byL_data _;have e2:byL (vtextS vk vn)=vtext vk vn:=byL_data _;rw[List.map_append,List.map_append,List.map_append,hs (y:=decB r) rfl,hs (y:=decB s) rfl,hs (y:=decB t) rfl,hs e2,e1]
theorem opText_le {k r s t vk vn:Int} :(opText k r s t vk vn).size≤24:=by
  unfold opText;split
  · rename_i h
    have h1:=add_size (hasV k) (outT k r s t) (vtext vk vn);have h2:=add_size (hasT k) (outS k r s) (decB t);have h3:=add_size (hasS k) (outR k r) (decB s);have h4:=add_size (hasR k) (nameB k) (decB r);have:=name_le k (opB_true.1 h).1;have:=dec_size r;have:=dec_size s;have:=dec_size t;have:=vtext_le4 vk vn;unfold outT outS outR at*;have hp:=opB_true.1 h
    have one: ∀n:Int,0≤n→n≤15→(decB n).size≤2:=fun n a b=>by
      have h: ∀i∈List.range 16,(decB (i:Int)).size≤2:=by decide+kernel
      have:=h n.toNat (by simp;omega)
      rwa [show((n.toNat:Nat):Int)=n by omega]at this
    have:=one r (by have:=hp.2.2.1;omega) (by have:=hp.2.2.1;omega)
    have:=one s (by have:=hp.2.2.2.1;omega) (by have:=hp.2.2.2.1;omega)
    have:=one t (by have:=hp.2.2.2.2.1;omega) (by have:=hp.2.2.2.2.1;omega)
    omega
  · exact Nat.zero_le _
def Reads (x:ByteArray) (k r s t vk vn:Int) (ok:Bool):Prop:=
  (ok=true∧opB k r s t vk vn=true∧opText k r s t vk vn=x)∨(ok=false∧(k=0∧r=0∧s=0∧t=0∧vk=0∧vn=0)∧ ∀a b c d f g:Int,opB a b c d f g=true→opText a b c d f g≠x)
theorem reads_one {x:ByteArray} {k r s t vk vn k' r' s' t' vk' vn':Int} {ok ok':Bool} (h:Reads x k r s t vk vn ok) (h':Reads x k' r' s' t' vk' vn' ok'):
    k=k'∧r=r'∧s=s'∧t=t'∧vk=vk'∧vn=vn'∧ok=ok':=by
  rcases h with ⟨rfl,h1,h2⟩|⟨rfl,⟨rfl,rfl,rfl,rfl,rfl,rfl⟩,h2⟩<;>rcases h' with ⟨rfl,g1,g2⟩|⟨rfl,⟨rfl,rfl,rfl,rfl,rfl,rfl⟩,g2⟩
  · have e:optL k r s t vk vn=optL k' r' s' t' vk' vn':=by rw[←opText_list h1,←opText_list g1,h2,g2]
    obtain⟨a,b,c,d,f,g⟩:=optL_one (opB_true.1 h1) (opB_true.1 g1) e;exact⟨a,b,c,d,f,g,rfl⟩
  · exact absurd h2 (g2 _ _ _ _ _ _ h1)
  · exact absurd g2 (h2 _ _ _ _ _ _ g1)
  · exact⟨rfl,rfl,rfl,rfl,rfl,rfl,rfl⟩
def aggM (x:S67):Value:=.agg #[.string x.f0,.string x.f1,.string x.f2,.bool x.f3]
theorem match_any (x0 x1 x2:ByteArray) (x3:Bool) (B g:Nat) (n c:Nat) (p:ByteArray) (w:World) (hB:w.heap[B]?=some (.cells #[.slice (some ⟨g,0,none⟩) n c] 57 (0,0))) (hp:w.cell? ⟨g,0,none⟩=some (.string p)) (hn:1≤n):
    Calls Tryd.prog 66 #[.agg #[.string x0,.string x1,.string x2,.bool x3],.pointer (some ⟨B,0,none⟩)] w fun e w'=>e= .returned (.bool (x0.toList==p.toList))∧Below w.heap.size w w':=by
  have lB:=blk_lt hB;have hb0:(w.alloc (.cells #[.string x0,.string x1,.string x2,.bool x3] 67)).cell? ⟨B,0,none⟩=some (.slice (some ⟨g,0,none⟩) n c):=(blk_cell (blk_alloc hB _) 0).trans rfl;have hp0:(w.alloc (.cells #[.string x0,.string x1,.string x2,.bool x3] 67)).cell? ⟨g,0,none⟩=some (.string p):=((below_alloc (Below.refl _ _) _).cell (World.block_lt_of_cell? w _ hp)).trans hp;have HB:=Aside0.mk (below_alloc (Below.refl w.heap.size w) (.cells #[.string x0,.string x1,.string x2,.bool x3] 67));have hnz:(0:Int)<(n:Int):=by omega
  clear hB hp;go_enter Tryd.func66,Tryd.ntmps66
  go_upto_region 1 with (fail)
  go_quiet (fail)
  go_wp2
  go_ret
  exact⟨rfl,pw_below_drewN HB.out _⟩
def FirstAt (p:S67→Bool) (l:List S67) (i:Int):Prop:=(∃kk:Nat,kk<l.length∧i=kk∧p (rd_T67 l (kk:Nat))=true)∨(i= -1∧ ∀kk:Nat,kk<l.length→p (rd_T67 l (kk:Nat))=false)
theorem index_man (p:S67→Bool) (g:Nat) (lb:Array Value) (eg: ∀args w,(callFunc g args).run Tryd.prog w= .ok (.enter g args) w) (A0:Option Addr) (c0:Nat) (l0:List S67) (w:World)
    (hr0:Kd.C k67 w A0 l0.length l0) (hl:l0.length≤16)
    (hp: ∀ (W:World) (x:S67),Below w.heap.size w W→Calls Tryd.prog g (#[aggM x]++lb) W fun e w'=>e= .returned (.bool (p x))∧Below w.heap.size w w'):
    Calls Tryd.prog 64 #[.slice A0 l0.length c0,.func (.func g) #[] lb] w fun e w'=> ∃i,e= .returned (.int .i64 i)∧FirstAt p l0 i∧Below w.heap.size w w':=by
  have HR0:=Aside0.mk hr0;clear hr0;go_enter Tryd.func64,Tryd.ntmps64
  go_wp2
  go_loopg [5,8] l0.length (fun gg _ s8 wr=> ∃kk:Nat,kk≤l0.length∧l0.length-kk≤gg∧s8= .int .i64 kk∧Aside (Below w.heap.size w wr)∧Aside (∀j,j<kk→p (rd_T67 l0 (j:Nat))=false))
  case atStart=>exact⟨0,Nat.zero_le _,by omega,rfl,Below.refl _ w,fun j hj=>absurd hj (Nat.not_lt_zero _)⟩
  case round=>
    obtain⟨kk,hkk,hgg,rfl,BW,A⟩:=hrel;by_cases hlt:kk<l0.length
    · have hltz:(kk:Int)<(l0.length:Int):=by omega
      have h0z:0≤(kk:Int):=by omega
      obtain⟨ad,e,x0,x1,x2,x3⟩:=at_T67 HR0.out (kk:Int) h0z hltz;subst e;rw[Int.toNat_natCast]at x0 x1 x2 x3
      replace x0:=(BW.out.cell (World.block_lt_of_cell? w _ x0)).trans x0;replace x1:=(BW.out.cell (World.block_lt_of_cell? w _ x1)).trans x1;replace x2:=(BW.out.cell (World.block_lt_of_cell? w _ x2)).trans x2;replace x3:=(BW.out.cell (World.block_lt_of_cell? w _ x3)).trans x3;have hcall:=hp wr (rd_T67 l0 (kk:Int)) BW.out;unfold aggM at hcall;clear hp;obtain⟨y,hy0⟩: ∃y,y=rd_T67 l0 (kk:Int):=⟨_,rfl⟩;rw[←hy0]at hcall x0 x1 x2 x3
      have hy:=Aside0.mk hy0;clear hy0;cases hq:p y with
      |true=>
        rw[hq]at hcall
        go_wp2_with (go_at_fn g;refine hcall.mono ?_;rintro e w' ⟨rfl,hb'⟩)
        go_ret
        exact⟨_,rfl,.inl ⟨kk,hlt,rfl,by rw[←hy.out];exact hq⟩,hb'⟩
      |false=>
        rw[hq]at hcall
        go_wp2_with (go_at_fn g;refine hcall.mono ?_;rintro e w' ⟨rfl,hb'⟩)
        go_roundg (l0.length- (kk+1))
        case measure=>omega
        case rel=>
          refine⟨kk+1,by omega,by omega,by go_num,hb',(show Aside _ from fun j hj=> ?_)⟩
          by_cases e:j=kk
          · subst e
            rw[←hy.out];exact hq
          · exact A.out j (by omega)
    · have hltz: ¬(kk:Int)<(l0.length:Int):=by omega
      have:kk=l0.length:=by omega
      subst this;go_wp2
      go_ret
      exact⟨_,rfl,.inr ⟨rfl,A.out⟩,BW.out⟩
theorem manners_C {w w':World} {g:Nat} (h:IsManners w w' g):Kd.C k67 w' (some ⟨g,0,none⟩) mannersL.length mannersL:=by
  refine⟨rfl,by decide,fun _=>⟨_,rfl,fun j y hy=> ?_⟩⟩
  have hj:j<15:=by
    have:=(List.getElem?_eq_some_iff.1 hy).1;exact this
  have hc:=h.2.2
  have one: ∀ (o:Nat) (a b c d:Value),(∀i:Nat,i<4→(cellsOf mannersL)[o+i]?= #[a,b,c,d][i]?)→ ∀ (i:Nat) (u:Value),[a,b,c,d][i]?=some u→w'.cell? ((⟨g,0,none⟩:Addr).add (o+i))=some u:=by
    intro o a b c d h i u hi
    have h4:i<4:=by
      have:=(List.getElem?_eq_some_iff.1 hi).1;exact this
    have e:(⟨g,0,none⟩:Addr).add (o+i)=⟨g,o+i,none⟩:=by simp[Addr.add];intro h1 h2;omega
    rw[e,hc,h i h4,←hi];exact List.getElem?_toArray
  have hj':j=0∨j=1∨j=2∨j=3∨j=4∨j=5∨j=6∨j=7∨j=8∨j=9∨j=10∨j=11∨j=12∨j=13∨j=14:=by omega
  have lt4: ∀ {P:Nat→Prop},P 0→P 1→P 2→P 3→ ∀i:Nat,i<4→P i:=by
    intro P h0 h1 h2 h3 i hi;have:i=0∨i=1∨i=2∨i=3:=by omega
    rcases this with rfl|rfl|rfl|rfl<;>assumption
  rcases hj' with rfl|rfl|rfl|rfl|rfl|rfl|rfl|rfl|rfl|rfl|rfl|rfl|rfl|rfl|rfl<;>
    (obtain rfl:=Option.some.inj hy
     exact⟨_,rfl,k67_mk w' _,one _ _ _ _ _ (lt4 rfl rfl rfl rfl)⟩)
theorem first_name {p:ByteArray} {i:Int} (h:FirstAt (fun x=>x.f0.toList==p.toList) mannersL i):(-1≤i∧i≤14)∧ ∀k,1≤k∧k≤14→(mannersL.getD k.toNat z67).f0=p→i=k:=by
  rcases h with ⟨kk,hk,rfl,hp⟩|⟨rfl,hn⟩
  · have hk:kk<15:=hk
    refine⟨by omega,fun k hk1 e=> ?_⟩
    have e2:(rd_T67 mannersL (kk:Nat)).f0=p:=by
      simp only[beq_iff_eq]at hp
      rw[toListD,toListD]at hp
      exact Go.WideShapes.bytes_inj hp
    have h: ∀a∈List.range 15,∀b∈List.range 15,(mannersL.getD a z67).f0=(mannersL.getD b z67).f0→a=b:=by decide+kernel
    have:=h kk (by simp;omega) k.toNat (by simp;omega) (by rw[e,←e2];unfold rd_T67;rw[Int.toNat_natCast])
    omega
  · refine⟨by omega,fun k hk1 e=> ?_⟩
    have:=hn k.toNat (by show _<15;omega)
    have:((mannersL.getD k.toNat z67).f0.toList==p.toList)=false:=this;rw[e]at this
    simp at this
def readV (s:ByteArray):Int×Int×Bool:=
  if okB (backL s.data.toList).1 (backL s.data.toList).2=true∧vtext (backL s.data.toList).1 (backL s.data.toList).2=s then((backL s.data.toList).1,(backL s.data.toList).2,true)else(0,0,false)
theorem readV_text (k n:Int) (h:okP k n):readV (vtext k n)=(k,n,true):=by
  unfold readV;rw[back_ok k n h,if_pos ⟨okB_true.2 h,rfl⟩]
theorem readV_no {s:ByteArray} (h: ∀k n,okP k n→vtext k n≠s):readV s=(0,0,false):=by
  unfold readV;rw[if_neg];rintro⟨h1,h2⟩
  exact h _ _ (okB_true.1 h1) h2
theorem atoi_back (n:Int) (h0: -100<n) (h1:n<100):Lib.atoiAll (itoaS n)= .ok n:=by
  have h: ∀i∈List.range 199,Lib.atoiAll (itoaS ((i:Int)-99))= .ok ((i:Int)-99):=by decide+kernel
  have:=h (n+99).toNat (by simp;omega)
  rwa [show(((n+99).toNat:Nat):Int)-99=n by omega]at this
def Errs (w:World):Prop:=(∃te pe,w.cell? ⟨0,0,none⟩=some (.iface te pe))∧(∃te pe,w.cell? ⟨1,0,none⟩=some (.iface te pe))∧8≤w.heap.size
theorem Errs.below {w w':World} (h:Errs w) (hb:Below w.heap.size w w'):Errs w':=by
  obtain⟨⟨a,b,h0⟩,⟨c,d,h1⟩,h2⟩:=h;exact⟨⟨a,b,(hb.cell (p:=⟨0,0,none⟩) (by show 0<_;omega)).trans h0⟩,⟨c,d,(hb.cell (p:=⟨1,0,none⟩) (by show 1<_;omega)).trans h1⟩,Nat.le_trans h2 hb.size⟩
theorem atoi_yes (t:ByteArray) (v:Int) (w:World) (ht:t.size≤1048576) (h:Lib.atoiAll t.data.toList= .ok v):
    Calls Tryd.prog 54 #[.string t] w fun e w'=>e= .returned (.tuple #[.int .i64 v,.nilIface])∧Below w.heap.size w w':=by
  refine(Tryd.strconv_Atoi_ok t (by omega) v h w).mono ?_
  rintro e w' ⟨rfl,rfl|⟨t',rfl⟩⟩
  · exact⟨rfl,Below.refl _ _⟩
  · exact⟨rfl,Lib.bytesWorld_below _ _ _⟩
def NoNum (w:World) (e:Ending) (w':World):Prop:= ∃ (v:Int) (N:Nat),e= .returned (.tuple #[.int .i64 v,.iface 108 (.pointer (some ⟨N,0,none⟩))])∧Below w.heap.size w w'
theorem atoi_no (t:ByteArray) (w:World) (ht:t.size≤1048576) (hE:Errs w) (h: ∀v,Lib.atoiAll t.data.toList≠ .ok v):Calls Tryd.prog 54 #[.string t] w (NoNum w):=by
  obtain⟨⟨a,b,h0⟩,⟨c,d,h1⟩,h2⟩:=hE;cases hq:Lib.atoiAll t.data.toList
  · exact absurd hq (h _)
  · refine(Any.strconv_Atoi_syntax Tryd.laysC172 t (by omega) hq _ w h0 (.inr ⟨a,b,rfl⟩)).mono ?_
    rintro e w' ⟨N,rfl, -, -,hb⟩
    exact⟨_,N,rfl,hb⟩
  · refine(Any.strconv_Atoi_range Tryd.laysC172 t (by omega) hq _ w h1 (.inr ⟨c,d,rfl⟩)).mono ?_
    rintro e w' ⟨N,rfl, -, -,hb⟩
    exact⟨_,N,rfl,hb⟩
theorem below_set0 {w W:World} (h:Below w.heap.size w W) (j:Nat) (v:Value):Below w.heap.size w (W.setCell ⟨w.heap.size,j,none⟩ v):=below_set h (Nat.le_refl _)
def NoneBelow (s:ByteArray) (k:Int):Prop:= ∀j:Int,1≤j→j<k→ ∀n,okP j n→vtext j n≠s
theorem tail_of {k n:Int} {s:ByteArray} (hk:1≤k) (h:okP k n) (e:vtext k n=s): ∃h2:0<s.size,2≤s.size∧s[0]=letterB k∧(s.extract 1 s.size).data.toList=itoaS n∧ -100<n∧n<100:=by
  have h0: ¬k=0:=by omega
  have e2:s=⟨(letterB k::itoaS n).toArray⟩:=by
    rw[←e];unfold vtext;rw[if_pos (okB_true.2 h),if_neg h0]
  have hsz:=(vtext_size k n h).1;rw[e,e2]at hsz
  subst e2;refine⟨by simp[ByteArray.size],by simp[ByteArray.size]at*;omega,rfl,?_,by unfold okP at h;omega,by unfold okP at h;omega⟩
  simp[ByteArray.data_extract,ByteArray.size]
theorem none_step {s:ByteArray} {k:Int} (h:NoneBelow s k) (hk: ∀n,okP k n→vtext k n≠s):NoneBelow s (k+1):=by
  intro j h1 h2 n hn;by_cases hj:j<k
  · exact h j h1 hj n hn
  · obtain rfl:j=k:=by omega
    exact hk n hn
theorem none_all {s:ByteArray} (h:NoneBelow s 4) (hn:s≠⟨#[110,111,110,101]⟩):readV s=(0,0,false):=by
  refine readV_no fun k n hk e=> ?_
  by_cases h0:k=0
  · subst h0
    have:n=0:=by unfold okP at hk;omega
    subst this;exact hn e.symm
  · exact h k (by unfold okP at hk;omega) (by unfold okP at hk;omega) n hk e
theorem readV_of {k n:Int} {s:ByteArray} (e:vtext k n=s) (h0:0<s.size):readV s=(k,n,true):=by
  by_cases h:okB k n=true
  · rw[←e];exact readV_text k n (okB_true.1 h)
  · simp only[Bool.not_eq_true]at h
    rw[vtext_bad h]at e
    rw[←e]at h0
    simp[ByteArray.size]at h0
theorem impl_ValRead_any (s:ByteArray) (w:World) (hs:s.size≤1048576) (hT:Tab w) (hE:Errs w):
    Calls Tryd.prog 26 #[.string s] w fun e w'=>e= .returned (.tuple #[.agg #[.int .i64 (readV s).1,.int .i64 (readV s).2.1],.bool (readV s).2.2])∧Below w.heap.size w w':=by
  have HT:=Aside0.mk hT;have HE:=Aside0.mk hE;clear hT hE;have HB:=Aside0.mk (Hold.new (Below.refl w.heap.size w) (.cells #[.int .i64 0,.int .i64 0] 25));by_cases hn:s=⟨#[110,111,110,101]⟩
  · subst hn
    rw[show readV ⟨#[110,111,110,101]⟩=(0,0,true)from readV_text 0 0 (.inl ⟨rfl,rfl⟩)]
    clear hs;go_enter Tryd.func26,Tryd.ntmps26
    go_wp2
    exact bodyPost_ret (v:=.tuple #[.agg #[.int .i64 0,.int .i64 0],.bool true]) (by simp[results,Tryd.results26,go_sem]) rfl ⟨rfl,by repeat(first|exact Below.refl _ _|apply below_alloc|apply below_set0)⟩
  · have e0 : (s.toList == [110, 111, 110, 101]) = false := by
      rw[toListD,beq_eq_false_iff_ne];intro h;exact hn (Go.WideShapes.bytes_inj h)
    have HN:=Aside0.mk hn;clear hn;go_enter Tryd.func26,Tryd.ntmps26
    go_wp2
    go_loopg [4] 4 (fun gg s4 wr=> ∃k:Int,1≤k∧k≤4∧4-k≤gg∧s4= .int .i64 k∧Aside0 (NoneBelow s k)∧Aside0 (Hold w wr w.heap.size (.cells #[.int .i64 0,.int .i64 0] 25)))
    case atStart=>exact⟨1,by omega,by omega,by omega,rfl,⟨fun j h1 h2=>by omega⟩,HB⟩
    case round=>
      clear HB;obtain⟨k,hk1,hk4,hgg,rfl,HP,HB⟩:=hrel;have hk:(k=1∨k=2∨k=3)∨k=4:=by omega
      clear hk1 hk4;rcases hk with hk|rfl
      · rcases hk with rfl|rfl|rfl
        · go_upto_region 6 with (fail)
          by_cases hl:s.size<2
          · have l1:decide ((s.size:Int)<2)=true:=decide_eq_true (by omega)
            have HL:=Aside0.mk hl;clear hl;go_quiet (fail)
            go_wp2
            go_roundg (gk-1)
            case measure=>omega
            case rel=>
              exact⟨_,by omega,by omega,by omega,rfl,⟨none_step HP.out fun n hn e=>by obtain⟨_,h2,_⟩:=tail_of (by omega) hn e;have:=HL.out;omega⟩,⟨HB.out.drewN _⟩⟩
          · have l1:decide ((s.size:Int)<2)=false:=decide_eq_false (by omega)
            have h0:0<s.size:=by omega
            have h0z:(0:Int)<(s.size:Int):=by omega
            clear hl;by_cases hb:s[0]=110
            · have e1:((s[0].toNat:Int) !=(((⟨#[110,97,114]⟩:ByteArray)[0]'(by decide)).toNat:Int))=false:=by rw[hb];rfl
              clear hb;go_quiet (fail)
              go_wp2_with fail
              have ht:(s.extract 1 s.size).size≤1048576:=by rw[ByteArray.size_extract];omega
              by_cases ho: ∃v,Lib.atoiAll (s.extract 1 s.size).data.toList= .ok v
              · obtain⟨v,ho⟩:=ho
                refine(atoi_yes (s.extract 1 s.size) v _ ht ho).mono ?_
                rintro e w1 ⟨rfl,hb⟩
                have HO:=Aside0.mk ho;replace HB:=Aside0.mk (Hold2.new ((HB.out.drewN _).step hb) (.cells #[.int .i64 1,.int .i64 v] 25));clear hb ho ht e1;have HX: ∀W,Below w.heap.size w W→Calls Tryd.prog 19 #[.agg #[.int .i64 1,.int .i64 v]] W fun e w'=>e= .returned (.string (vtext 1 v))∧Below W.heap.size W w':=fun W hW=>impl_ValText_any 1 v W (HT.out.below hW)
                obtain⟨X,hX⟩: ∃X,X=vtext 1 v:=⟨_,rfl⟩;rw[←hX]at HX
                have HXX:=Aside0.mk hX;have HX':=Aside0.mk HX;clear HX hX;by_cases hv:X=s
                · have e2:(X.toList==s.toList)=true:=by rw[hv];simp
                  have HV:=Aside0.mk hv;clear hv;go_wp2_with (go_at_call 19;(with_reducible refine(HX'.out _ HB.out.below).mono ?_);rintro e w2 ⟨rfl,hb⟩;replace HB:=Aside0.mk (HB.out.step hb);clear hb;obtain⟨c0,c1⟩:=box2 HB.out.blk;obtain⟨f0,f1⟩:=free2 HB.out.blk;obtain⟨d0,d1⟩:=box2 HB.out.blk2)
                  exact bodyPost_ret (v:=.tuple #[.agg #[.int .i64 1,.int .i64 v],.bool true]) (by simp[results,Tryd.results26,go_sem,c0,c1]) rfl ⟨by rw[readV_of (HXX.out.symm.trans HV.out) h0],by repeat(first|exact HB.out.below|apply below_set0)⟩
                · have e2 : (X.toList == s.toList) = false := by
                    rw[toListD,toListD,beq_eq_false_iff_ne];intro h;exact hv (Go.WideShapes.bytes_inj h)
                  have HV:=Aside0.mk hv;clear hv;go_wp2_with (go_at_call 19;(with_reducible refine(HX'.out _ HB.out.below).mono ?_);rintro e w2 ⟨rfl,hb⟩;replace HB:=Aside0.mk (HB.out.step hb);clear hb)
                  go_roundg (gk-1)
                  case measure=>omega
                  case rel=>
                    refine⟨_,by omega,by omega,by omega,rfl,⟨none_step HP.out fun n hn e=> ?_⟩,⟨HB.out.1⟩⟩
                    obtain⟨_,_,_,h3,h4,h5⟩:=tail_of (by omega) hn e
                    have:=HO.out;rw[h3,atoi_back n h4 h5]at this
                    injection this with this
                    subst this;exact HV.out (HXX.out.trans e)
              · have hno: ∀v,Lib.atoiAll (s.extract 1 s.size).data.toList≠ .ok v:=fun v h=>ho ⟨v,h⟩
                refine(atoi_no (s.extract 1 s.size) _ ht (HE.out.below (HB.out.drewN _).below) hno).mono ?_
                rintro e w1 ⟨v,N,rfl,hb⟩
                replace HB:=Aside0.mk ((HB.out.drewN _).step hb);have HO:=Aside0.mk hno;clear hb ho hno ht e1;go_wp2
                go_roundg (gk-1)
                case measure=>omega
                case rel=>
                  refine⟨_,by omega,by omega,by omega,rfl,⟨none_step HP.out fun n hn e=> ?_⟩,⟨HB.out.alloc _⟩⟩
                  obtain⟨_,_,_,h3,h4,h5⟩:=tail_of (by omega) hn e
                  exact HO.out n (by rw[h3,atoi_back n h4 h5])
            · have e1 : ((s[0].toNat : Int) != (((⟨#[110, 97, 114]⟩ : ByteArray)[0]'(by decide)).toNat : Int)) = true := by
                simp only[bne_iff_ne,ne_eq];intro h;exact hb (UInt8.toNat_inj.1 (Int.ofNat_inj.1 h))
              have HQ:=Aside0.mk hb;clear hb;go_quiet (fail)
              go_wp2
              go_roundg (gk-1)
              case measure=>omega
              case rel=>
                exact⟨_,by omega,by omega,by omega,rfl,⟨none_step HP.out fun n hn e=>by obtain⟨_,_,h2,_⟩:=tail_of (by omega) hn e;exact HQ.out h2⟩,⟨HB.out.drewN _⟩⟩
        · go_upto_region 6 with (fail)
          by_cases hl:s.size<2
          · have l1:decide ((s.size:Int)<2)=true:=decide_eq_true (by omega)
            have HL:=Aside0.mk hl;clear hl;go_quiet (fail)
            go_wp2
            go_roundg (gk-1)
            case measure=>omega
            case rel=>
              exact⟨_,by omega,by omega,by omega,rfl,⟨none_step HP.out fun n hn e=>by obtain⟨_,h2,_⟩:=tail_of (by omega) hn e;have:=HL.out;omega⟩,⟨HB.out.drewN _⟩⟩
          · have l1:decide ((s.size:Int)<2)=false:=decide_eq_false (by omega)
            have h0:0<s.size:=by omega
            have h0z:(0:Int)<(s.size:Int):=by omega
            clear hl;by_cases hb:s[0]=97
            · have e1:((s[0].toNat:Int) !=(((⟨#[110,97,114]⟩:ByteArray)[1]'(by decide)).toNat:Int))=false:=by rw[hb];rfl
              clear hb;go_quiet (fail)
              go_wp2_with fail
              have ht:(s.extract 1 s.size).size≤1048576:=by rw[ByteArray.size_extract];omega
              by_cases ho: ∃v,Lib.atoiAll (s.extract 1 s.size).data.toList= .ok v
              · obtain⟨v,ho⟩:=ho
                refine(atoi_yes (s.extract 1 s.size) v _ ht ho).mono ?_
                rintro e w1 ⟨rfl,hb⟩
                have HO:=Aside0.mk ho;replace HB:=Aside0.mk (Hold2.new ((HB.out.drewN _).step hb) (.cells #[.int .i64 2,.int .i64 v] 25));clear hb ho ht e1;have HX: ∀W,Below w.heap.size w W→Calls Tryd.prog 19 #[.agg #[.int .i64 2,.int .i64 v]] W fun e w'=>e= .returned (.string (vtext 2 v))∧Below W.heap.size W w':=fun W hW=>impl_ValText_any 2 v W (HT.out.below hW)
                obtain⟨X,hX⟩: ∃X,X=vtext 2 v:=⟨_,rfl⟩;rw[←hX]at HX
                have HXX:=Aside0.mk hX;have HX':=Aside0.mk HX;clear HX hX;by_cases hv:X=s
                · have e2:(X.toList==s.toList)=true:=by rw[hv];simp
                  have HV:=Aside0.mk hv;clear hv;go_wp2_with (go_at_call 19;(with_reducible refine(HX'.out _ HB.out.below).mono ?_);rintro e w2 ⟨rfl,hb⟩;replace HB:=Aside0.mk (HB.out.step hb);clear hb;obtain⟨c0,c1⟩:=box2 HB.out.blk;obtain⟨f0,f1⟩:=free2 HB.out.blk;obtain⟨d0,d1⟩:=box2 HB.out.blk2)
                  exact bodyPost_ret (v:=.tuple #[.agg #[.int .i64 2,.int .i64 v],.bool true]) (by simp[results,Tryd.results26,go_sem,c0,c1]) rfl ⟨by rw[readV_of (HXX.out.symm.trans HV.out) h0],by repeat(first|exact HB.out.below|apply below_set0)⟩
                · have e2 : (X.toList == s.toList) = false := by
                    rw[toListD,toListD,beq_eq_false_iff_ne];intro h;exact hv (Go.WideShapes.bytes_inj h)
                  have HV:=Aside0.mk hv;clear hv;go_wp2_with (go_at_call 19;(with_reducible refine(HX'.out _ HB.out.below).mono ?_);rintro e w2 ⟨rfl,hb⟩;replace HB:=Aside0.mk (HB.out.step hb);clear hb)
                  go_roundg (gk-1)
                  case measure=>omega
                  case rel=>
                    refine⟨_,by omega,by omega,by omega,rfl,⟨none_step HP.out fun n hn e=> ?_⟩,⟨HB.out.1⟩⟩
                    obtain⟨_,_,_,h3,h4,h5⟩:=tail_of (by omega) hn e
                    have:=HO.out;rw[h3,atoi_back n h4 h5]at this
                    injection this with this
                    subst this;exact HV.out (HXX.out.trans e)
              · have hno: ∀v,Lib.atoiAll (s.extract 1 s.size).data.toList≠ .ok v:=fun v h=>ho ⟨v,h⟩
                refine(atoi_no (s.extract 1 s.size) _ ht (HE.out.below (HB.out.drewN _).below) hno).mono ?_
                rintro e w1 ⟨v,N,rfl,hb⟩
                replace HB:=Aside0.mk ((HB.out.drewN _).step hb);have HO:=Aside0.mk hno;clear hb ho hno ht e1;go_wp2
                go_roundg (gk-1)
                case measure=>omega
                case rel=>
                  refine⟨_,by omega,by omega,by omega,rfl,⟨none_step HP.out fun n hn e=> ?_⟩,⟨HB.out.alloc _⟩⟩
                  obtain⟨_,_,_,h3,h4,h5⟩:=tail_of (by omega) hn e
                  exact HO.out n (by rw[h3,atoi_back n h4 h5])
            · have e1 : ((s[0].toNat : Int) != (((⟨#[110, 97, 114]⟩ : ByteArray)[1]'(by decide)).toNat : Int)) = true := by
                simp only[bne_iff_ne,ne_eq];intro h;exact hb (UInt8.toNat_inj.1 (Int.ofNat_inj.1 h))
              have HQ:=Aside0.mk hb;clear hb;go_quiet (fail)
              go_wp2
              go_roundg (gk-1)
              case measure=>omega
              case rel=>
                exact⟨_,by omega,by omega,by omega,rfl,⟨none_step HP.out fun n hn e=>by obtain⟨_,_,h2,_⟩:=tail_of (by omega) hn e;exact HQ.out h2⟩,⟨HB.out.drewN _⟩⟩
        · go_upto_region 6 with (fail)
          by_cases hl:s.size<2
          · have l1:decide ((s.size:Int)<2)=true:=decide_eq_true (by omega)
            have HL:=Aside0.mk hl;clear hl;go_quiet (fail)
            go_wp2
            go_roundg (gk-1)
            case measure=>omega
            case rel=>
              exact⟨_,by omega,by omega,by omega,rfl,⟨none_step HP.out fun n hn e=>by obtain⟨_,h2,_⟩:=tail_of (by omega) hn e;have:=HL.out;omega⟩,⟨HB.out.drewN _⟩⟩
          · have l1:decide ((s.size:Int)<2)=false:=decide_eq_false (by omega)
            have h0:0<s.size:=by omega
            have h0z:(0:Int)<(s.size:Int):=by omega
            clear hl;by_cases hb:s[0]=114
            · have e1:((s[0].toNat:Int) !=(((⟨#[110,97,114]⟩:ByteArray)[2]'(by decide)).toNat:Int))=false:=by rw[hb];rfl
              clear hb;go_quiet (fail)
              go_wp2_with fail
              have ht:(s.extract 1 s.size).size≤1048576:=by rw[ByteArray.size_extract];omega
              by_cases ho: ∃v,Lib.atoiAll (s.extract 1 s.size).data.toList= .ok v
              · obtain⟨v,ho⟩:=ho
                refine(atoi_yes (s.extract 1 s.size) v _ ht ho).mono ?_
                rintro e w1 ⟨rfl,hb⟩
                have HO:=Aside0.mk ho;replace HB:=Aside0.mk (Hold2.new ((HB.out.drewN _).step hb) (.cells #[.int .i64 3,.int .i64 v] 25));clear hb ho ht e1;have HX: ∀W,Below w.heap.size w W→Calls Tryd.prog 19 #[.agg #[.int .i64 3,.int .i64 v]] W fun e w'=>e= .returned (.string (vtext 3 v))∧Below W.heap.size W w':=fun W hW=>impl_ValText_any 3 v W (HT.out.below hW)
                obtain⟨X,hX⟩: ∃X,X=vtext 3 v:=⟨_,rfl⟩;rw[←hX]at HX
                have HXX:=Aside0.mk hX;have HX':=Aside0.mk HX;clear HX hX;by_cases hv:X=s
                · have e2:(X.toList==s.toList)=true:=by rw[hv];simp
                  have HV:=Aside0.mk hv;clear hv;go_wp2_with (go_at_call 19;(with_reducible refine(HX'.out _ HB.out.below).mono ?_);rintro e w2 ⟨rfl,hb⟩;replace HB:=Aside0.mk (HB.out.step hb);clear hb;obtain⟨c0,c1⟩:=box2 HB.out.blk;obtain⟨f0,f1⟩:=free2 HB.out.blk;obtain⟨d0,d1⟩:=box2 HB.out.blk2)
                  exact bodyPost_ret (v:=.tuple #[.agg #[.int .i64 3,.int .i64 v],.bool true]) (by simp[results,Tryd.results26,go_sem,c0,c1]) rfl ⟨by rw[readV_of (HXX.out.symm.trans HV.out) h0],by repeat(first|exact HB.out.below|apply below_set0)⟩
                · have e2 : (X.toList == s.toList) = false := by
                    rw[toListD,toListD,beq_eq_false_iff_ne];intro h;exact hv (Go.WideShapes.bytes_inj h)
                  have HV:=Aside0.mk hv;clear hv;go_wp2_with (go_at_call 19;(with_reducible refine(HX'.out _ HB.out.below).mono ?_);rintro e w2 ⟨rfl,hb⟩;replace HB:=Aside0.mk (HB.out.step hb);clear hb)
                  go_roundg (gk-1)
                  case measure=>omega
                  case rel=>
                    refine⟨_,by omega,by omega,by omega,rfl,⟨none_step HP.out fun n hn e=> ?_⟩,⟨HB.out.1⟩⟩
                    obtain⟨_,_,_,h3,h4,h5⟩:=tail_of (by omega) hn e
                    have:=HO.out;rw[h3,atoi_back n h4 h5]at this
                    injection this with this
                    subst this;exact HV.out (HXX.out.trans e)
              · have hno: ∀v,Lib.atoiAll (s.extract 1 s.size).data.toList≠ .ok v:=fun v h=>ho ⟨v,h⟩
                refine(atoi_no (s.extract 1 s.size) _ ht (HE.out.below (HB.out.drewN _).below) hno).mono ?_
                rintro e w1 ⟨v,N,rfl,hb⟩
                replace HB:=Aside0.mk ((HB.out.drewN _).step hb);have HO:=Aside0.mk hno;clear hb ho hno ht e1;go_wp2
                go_roundg (gk-1)
                case measure=>omega
                case rel=>
                  refine⟨_,by omega,by omega,by omega,rfl,⟨none_step HP.out fun n hn e=> ?_⟩,⟨HB.out.alloc _⟩⟩
                  obtain⟨_,_,_,h3,h4,h5⟩:=tail_of (by omega) hn e
                  exact HO.out n (by rw[h3,atoi_back n h4 h5])
            · have e1 : ((s[0].toNat : Int) != (((⟨#[110, 97, 114]⟩ : ByteArray)[2]'(by decide)).toNat : Int)) = true := by
                simp only[bne_iff_ne,ne_eq];intro h;exact hb (UInt8.toNat_inj.1 (Int.ofNat_inj.1 h))
              have HQ:=Aside0.mk hb;clear hb;go_quiet (fail)
              go_wp2
              go_roundg (gk-1)
              case measure=>omega
              case rel=>
                exact⟨_,by omega,by omega,by omega,rfl,⟨none_step HP.out fun n hn e=>by obtain⟨_,_,h2,_⟩:=tail_of (by omega) hn e;exact HQ.out h2⟩,⟨HB.out.drewN _⟩⟩
      · obtain⟨c0,c1⟩:=box2 HB.out.blk
        obtain⟨f0,f1⟩:=free2 HB.out.blk;go_wp2
        exact bodyPost_ret (v:=.tuple #[.agg #[.int .i64 0,.int .i64 0],.bool false]) (by simp[results,Tryd.results26,go_sem,c0,c1]) rfl ⟨by rw[none_all HP.out HN.out],by repeat(first|exact HB.out.below|apply below_set0)⟩
theorem l1_l0 (x:ByteArray) (s n i:Int) (k:Nat) (hx:x.size≤4) (hi:0≤i) (hk:2*((x.size:Int)-i).toNat+1≤k): ∃r,spec_l1Dec.l0 k x s n i=some r:=by
  induction k using Nat.strongRecOn generalizing n i with
  |_ k ih=>
    obtain⟨k,rfl⟩: ∃m,k=m+1:=⟨k-1,by omega⟩
    simp only[spec_l1Dec.l0]
    by_cases h:i<(x.size:Int)
    · rw[if_pos h,if_pos hi]
      obtain⟨k,rfl⟩: ∃m,k=m+1:=⟨k-1,by omega⟩
      have hw:wrap64 (i+1)=i+1:=by unfold wrap64;omega
      have go: ∀b,∃r,spec_l1Dec.j3 (k+1) x s n i b=some r:=fun b=>by
        simp only[spec_l1Dec.j3]
        cases b with
        |true=>exact⟨_,rfl⟩
        |false=>
          rw[if_neg (by simp),if_pos hi,if_pos h,hw]
          exact ih k (by omega) _ (i+1) (by omega) (by omega)
      by_cases hb:bt x i<48
      · rw[if_pos hb];exact go _
      · rw[if_neg hb];exact go _
    · rw[if_neg h];exact⟨_,rfl⟩
theorem in_f (a b c:Int):spec_l6In.f a b c=some (decide (b≤a∧a≤c)):=by
  unfold spec_l6In.f;by_cases h:b≤a<;>simp[h]
theorem l1_j1 (x:ByteArray) (s:Int) (hx:x.size≤4): ∃r,spec_l1Dec.j1 10 x s=some r:=by
  simp only[spec_l1Dec.j1]
  rw[in_f];simp only[Option.bind_some]
  cases decide (1≤(x.size:Int)∧(x.size:Int)≤2)with
  |true=>rw[if_pos rfl];exact l1_l0 x s 0 0 9 hx (by omega) (by omega)
  |false=>exact⟨_,rfl⟩
theorem l1_all (x:ByteArray) (hx:x.size≤4): ∃r,spec_l1Dec.f 11 x=some r:=by
  have go: ∀b s,(b=true→1≤x.size)→ ∃r,spec_l1Dec.j0 11 x s b=some r:=fun b s hb=>by
    simp only[spec_l1Dec.j0]
    cases b with
    |true=>
      rw[if_pos rfl,if_pos (by have:=hb rfl;omega)]
      exact l1_j1 _ _ (by rw[ByteArray.size_extract];omega)
    |false=>rw[if_neg (by simp)];exact l1_j1 _ _ hx
  unfold spec_l1Dec.f;by_cases h:(x.size:Int)>1
  · rw[if_pos h,if_pos (by omega)];exact go _ _ (fun _=>by omega)
  · rw[if_neg h];exact go _ _ (fun h=>by cases h)
theorem l1_back (n:Int) (h0: -100<n) (h1:n<100):spec_l1Dec.f 11 ⟨(itoaS n).toArray⟩=some (n,true):=by
  have h: ∀i∈List.range 199,spec_l1Dec.f 11 ⟨(itoaS ((i:Int)-99)).toArray⟩=some ((i:Int)-99,true):=by decide+kernel
  have:=h (n+99).toNat (by simp;omega)
  rwa [show(((n+99).toNat:Nat):Int)-99=n by omega]at this
theorem leO_up {k n:Int} {r:ByteArray} (h:spec_ValText.f 5 k n=some r): ∀m,spec_ValText.f (5+m) k n=some r
  |0=>h
  |m+1=>spec_ValText.mono _ _ _ _ (leO_up h m)
theorem ofList (b:ByteArray) {l:List UInt8} (h:b.data.toList=l):b=⟨l.toArray⟩:=by
  cases b with|mk d=>subst h;simp
theorem specRead_f (s:ByteArray):spec_ValRead.f 12 s=some (readV s):=by
  unfold spec_ValRead.f;by_cases h:s.toList=[110,111,110,101]
  · rw[if_pos h]
    have:s=⟨#[110,111,110,101]⟩:=ofList s (by rw[←toListD];exact h)
    subst this;rw[show readV ⟨#[110,111,110,101]⟩=(0,0,true)from readV_text 0 0 (.inl ⟨rfl,rfl⟩)]
  · rw[if_neg h,in_f]
    have hn:s≠⟨#[110,111,110,101]⟩:=fun e=>h (by rw[e,toListD])
    simp only[Option.bind_some]
    by_cases hz:2≤(s.size:Int)∧(s.size:Int)≤4
    · rw[decide_eq_true hz,if_pos rfl,if_pos (by omega)]
      obtain⟨⟨n,ok⟩,hl⟩:=l1_all (s.extract 1 s.size) (by rw[ByteArray.size_extract];omega)
      have hl':spec_l1Dec.f 12 (s.extract 1 s.size)=some (n,ok):=spec_l1Dec.mono _ _ _ hl;rw[hl'];simp only[Option.bind_some]
      rw[if_pos (by omega)]
      have h0:0<s.size:=by omega
      have hb:bt s 0=(s[0].toNat:Int):=by unfold bt;rw[dif_pos (by simpa using h0)];rfl
      rw[hb]
      have tl: ∀k' n',1≤k'→okP k' n'→vtext k' n'=s→s[0]=letterB k'∧n=n'∧ok=true:=fun k' n' h1 h2 h3=>by
        obtain⟨_,_,a,b,c,d⟩:=tail_of h1 h2 h3;have:=ofList _ b;rw[this,l1_back n' c d]at hl
        injection hl with hl
        injection hl with e1 e2
        exact⟨a,e1.symm,e2.symm⟩
      have none0: ∀ {k' n':Int},okP k' n'→vtext k' n'=s→1≤k':=fun {k' n'} hk e=>by
        by_cases h0:k'=0
        · subst h0
          have:n'=0:=by unfold okP at hk;omega
          subst this;exact absurd e.symm hn
        · unfold okP at hk;omega
      have fin: ∀K:Int,1≤K→(∀k',1≤k'→okP k' n→s[0]=letterB k'→k'=K)→spec_ValRead.j0 12 s ok K n=some (readV s):=fun K hK hu=>by
        simp only[spec_ValRead.j0]
        cases ok with
        |false=>
          rw[if_neg (by simp)]
          simp only[spec_ValRead.j1]
          rw[if_pos trivial,readV_no];intro k' n' hk e;have:=(tl k' n' (none0 hk e) hk e).2.2;cases this
        |true=>
          rw[if_pos rfl,if_neg (by omega)]
          have e5:spec_ValText.f 11 K n=some (vtext K n):=leO_up (specText_f K n) 6;rw[e5];simp only[Option.bind_some,spec_ValRead.j1]
          by_cases hv:vtext K n=s
          · rw[if_neg (by simp[hv]),readV_of hv h0]
          · rw [if_pos (by
              simp only[bne_iff_ne,ne_eq];intro h;rw[toListD,toListD]at h;exact hv (Go.WideShapes.bytes_inj h)),readV_no]
            intro k' n' hk e;obtain⟨a,b,_⟩:=tl k' n' (none0 hk e) hk e;subst b;exact hv (by rw[←hu k' (none0 hk e) hk a];exact e)
      have c110: ∀c:UInt8,((s[0].toNat:Int)=(c.toNat:Int)) ↔ s[0]=c:=fun c=>⟨fun h=>UInt8.toNat_inj.1 (Int.ofNat_inj.1 h),fun h=>by rw[h]⟩
      have r1:((s[0].toNat:Int)=110) ↔ s[0]=110:=c110 110;have r2:((s[0].toNat:Int)=97) ↔ s[0]=97:=c110 97;have r3:((s[0].toNat:Int)=114) ↔ s[0]=114:=c110 114;by_cases q1:s[0]=110
      · rw[if_pos (r1.2 q1)]
        exact fin 1 (by omega) fun k' h1 h2 h3=>by
          have:k'=1∨k'=2∨k'=3:=by unfold okP at h2;omega
          rcases this with rfl|rfl|rfl
          · rfl
          · rw[q1]at h3;exact absurd h3 (by decide)
          · rw[q1]at h3;exact absurd h3 (by decide)
      rw[if_neg (fun h=>q1 (r1.1 h))]
      by_cases q2:s[0]=97
      · rw[if_pos (r2.2 q2)]
        exact fin 2 (by omega) fun k' h1 h2 h3=>by
          have:k'=1∨k'=2∨k'=3:=by unfold okP at h2;omega
          rcases this with rfl|rfl|rfl
          · rw[q2]at h3;exact absurd h3 (by decide)
          · rfl
          · rw[q2]at h3;exact absurd h3 (by decide)
      rw[if_neg (fun h=>q2 (r2.1 h))]
      by_cases q3:s[0]=114
      · rw[if_pos (r3.2 q3)]
        exact fin 3 (by omega) fun k' h1 h2 h3=>by
          have:k'=1∨k'=2∨k'=3:=by unfold okP at h2;omega
          rcases this with rfl|rfl|rfl
          · rw[q3]at h3;exact absurd h3 (by decide)
          · rw[q3]at h3;exact absurd h3 (by decide)
          · rfl
      rw[if_neg (fun h=>q3 (r3.1 h))]
      rw[readV_no (fun k' n' hk e=>by
        obtain⟨a,b,_⟩:=tl k' n' (none0 hk e) hk e;have:k'=1∨k'=2∨k'=3:=by have:=none0 hk e;unfold okP at hk;omega
        rcases this with rfl|rfl|rfl
        · exact q1 a
        · exact q2 a
        · exact q3 a)]
      simp only[spec_ValRead.j0,spec_ValRead.j1]
      cases ok<;>simp
    · rw[decide_eq_false hz,if_neg (by simp)]
      rw[readV_no];intro k n hk e;have:=vtext_size k n hk;rw[e]at this
      have e2:s.data.toList.length=s.size:=by rw[Array.length_toList];rfl
      omega
def TabErrs (w:World):Prop:=Tab w∧Errs w
def formC (k:Int):List UInt8:=sg (hasR k) 82++(sg (hasS k) 83++(sg (hasT k) 84++sg (hasV k) 86))
def fieldW (r s t vk vn:Int) (c:UInt8):ByteArray:=if c=82 then decB r else if c=83 then decB s else if c=84 then decB t else vtext vk vn
theorem words_form (k r s t vk vn:Int):wordsB k r s t vk vn=nameB k::(formC k).map (fieldW r s t vk vn):=by
  unfold wordsB formC;cases hasR k<;>cases hasS k<;>cases hasT k<;>cases hasV k<;>simp[sg,fieldW]
theorem form_how (k:Int):(howR k).f1.data.toList=if 1≤k∧k≤14 then formC k else []:=by
  revert k;refine fun k=>kinds (P:=fun k=>(howR k).f1.data.toList=if 1≤k∧k≤14 then formC k else []) (fun k hk=>by unfold howR;rw[if_neg hk,if_neg hk];decide) ?_ ?_ ?_ ?_ ?_ ?_ ?_ ?_ ?_ ?_ ?_ ?_ ?_ ?_ k<;>decide
theorem form_mem {k:Int} {c:UInt8} (h:c∈formC k):c=82∨c=83∨c=84∨c=86:=by
  unfold formC at h;simp only[List.mem_append]at h
  have one: ∀ {b:Bool} {d:UInt8},c∈sg b d→c=d:=by
    intro b d h;unfold sg at h;split at h
    · exact List.mem_singleton.1 h
    · cases h
  rcases h with h|h|h|h
  · exact .inl (one h)
  · exact .inr (.inl (one h))
  · exact .inr (.inr (.inl (one h)))
  · exact .inr (.inr (.inr (one h)))
theorem how_mem {k:Int} {c:UInt8} (h:c∈(howR k).f1.data.toList):c=82∨c=83∨c=84∨c=86:=by
  rw[form_how]at h
  split at h
  · exact form_mem h
  · cases h
theorem form_has (k:Int):(82∈formC k ↔ hasR k=true)∧(83∈formC k ↔ hasS k=true)∧(84∈formC k ↔ hasT k=true)∧(86∈formC k ↔ hasV k=true):=by
  unfold formC;cases hasR k<;>cases hasS k<;>cases hasT k<;>cases hasV k<;>simp[sg]
def Inv (x:ByteArray) (n:Nat) (k r s t vk vn:Int):Prop:=
  ∀k0 r0 s0 t0 a0 b0:Int,opB k0 r0 s0 t0 a0 b0=true→opText k0 r0 s0 t0 a0 b0=x→
    k=k0∧(r=if 82∈(formC k0).take n then r0 else 0)∧(s=if 83∈(formC k0).take n then s0 else 0)∧(t=if 84∈(formC k0).take n then t0 else 0)∧(vk=if 86∈(formC k0).take n then a0 else 0)∧(vn=if 86∈(formC k0).take n then b0 else 0)
def word (x:ByteArray) (i:Nat):ByteArray:=(piecesB x).getD i ⟨#[]⟩
theorem inv_zero {x:ByteArray} {k:Int} (h:FirstAt (fun m=>m.f0.toList==(word x 0).toList) mannersL k):Inv x 0 k 0 0 0 0 0:=by
  intro k0 r0 s0 t0 a0 b0 h1 h2;have hp:=opB_true.1 h1;refine⟨(first_name h).2 k0 hp.1 ?_,by simp,by simp,by simp,by simp,by simp⟩
  have e:=pieces_text h1;rw[h2]at e
  unfold word;rw[e];show _=nameB k0
  rw[←how_name k0 hp.1];unfold howR;rw[if_pos hp.1]
theorem word_at {x:ByteArray} {n:Nat} {k r s t vk vn:Int} (h1:opB k r s t vk vn=true) (h2:opText k r s t vk vn=x) (hn:n<(formC k).length):n+1<(piecesB x).length∧word x (n+1)=fieldW r s t vk vn (formC k)[n]:=by
  have e:=pieces_text h1;rw[h2,words_form]at e
  unfold word;rw[e];constructor
  · simp;exact hn
  · simp[hn]
theorem take_mem {l:List UInt8} {n:Nat} (hn:n<l.length) (c:UInt8):c∈l.take (n+1) ↔ c∈l.take n∨c=l[n]:=by
  rw[List.take_succ_eq_append_getElem hn,List.mem_append,List.mem_singleton]
theorem form_at {F:ByteArray} {k:Int} (hF:F=(howR k).f1) {n:Nat} (hn:n<F.size) (hk:1≤k∧k≤14): ∃h:n<(formC k).length,(formC k)[n]=F[n]:=by
  have e:=form_how k;rw[if_pos hk,←hF]at e
  have hl:n<(formC k).length:=by rw[←e];simpa using hn
  refine⟨hl,?_⟩
  have:(formC k)[n]?=F.data.toList[n]?:=by rw[e]
  rw[List.getElem?_eq_getElem hl,List.getElem?_eq_getElem (by simpa using hn)]at this
  exact Option.some.inj this
theorem inv_short {x F:ByteArray} {n:Nat} {k r s t vk vn:Int} (h:Inv x n k r s t vk vn) (hF:F=(howR k).f1) (hn:n<F.size) (hs:(piecesB x).length≤n+1):Reads x 0 0 0 0 0 0 false:=by
  refine .inr ⟨rfl,⟨rfl,rfl,rfl,rfl,rfl,rfl⟩,fun a b c d f g h1 h2=> ?_⟩
  obtain⟨rfl, -⟩:=h _ _ _ _ _ _ h1 h2;obtain⟨hl, -⟩:=form_at hF hn (opB_true.1 h1).1;have:=(word_at h1 h2 hl).1;omega
theorem inv_num {x F:ByteArray} {n:Nat} {k r s t vk vn v:Int} (h:Inv x n k r s t vk vn) (hF:F=(howR k).f1) (hn:n<F.size) (hv: ∀m,Lib.atoiAll (word x (n+1)).data.toList= .ok m→v=m):
    (F[n]=82→Inv x (n+1) k v s t vk vn)∧(F[n]=83→Inv x (n+1) k r v t vk vn)∧(F[n]=84→Inv x (n+1) k r s v vk vn):=by
  refine⟨fun hc=> ?_,fun hc=> ?_,fun hc=> ?_⟩
  all_goals
    intro k0 r0 s0 t0 a0 b0 h1 h2;obtain⟨rfl,er,es,et,ea,eb⟩:=h _ _ _ _ _ _ h1 h2;have hp:=opB_true.1 h1;obtain⟨hl,hl2⟩:=form_at hF hn hp.1;obtain⟨-,hw⟩:=word_at h1 h2 hl;rw[hl2,hc]at hw
    rw[hc]at hl2
    have hz: -100<r0∧r0<100∧ -100<s0∧s0<100∧ -100<t0∧t0<100:=by
      obtain⟨_,_,a,b,c,_⟩:=hp;omega
    simp only[take_mem hl,hl2]
    refine⟨by trivial,?_,?_,?_,?_,?_⟩
  · simp only[or_true,if_true]
    exact hv _ (by rw[hw];exact atoi_back r0 hz.1 hz.2.1)
  · simpa using es
  · simpa using et
  · simpa using ea
  · simpa using eb
  · simpa using er
  · simp only[or_true,if_true]
    exact hv _ (by rw[hw];exact atoi_back s0 hz.2.2.1 hz.2.2.2.1)
  · simpa using et
  · simpa using ea
  · simpa using eb
  · simpa using er
  · simpa using es
  · simp only[or_true,if_true]
    exact hv _ (by rw[hw];exact atoi_back t0 hz.2.2.2.2.1 hz.2.2.2.2.2)
  · simpa using ea
  · simpa using eb
theorem inv_val {x F:ByteArray} {n:Nat} {k r s t vk vn a b:Int} {ok:Bool} (h:Inv x n k r s t vk vn) (hF:F=(howR k).f1) (hn:n<F.size) (hv:readV (word x (n+1))=(a,b,ok)) (hc:F[n]=86):Inv x (n+1) k r s t a b:=by
  intro k0 r0 s0 t0 a0 b0 h1 h2;obtain⟨rfl,er,es,et,ea,eb⟩:=h _ _ _ _ _ _ h1 h2;have hp:=opB_true.1 h1;obtain⟨hl,hl2⟩:=form_at hF hn hp.1;obtain⟨-,hw⟩:=word_at h1 h2 hl;rw[hl2,hc]at hw
  rw[hc]at hl2
  simp only[take_mem hl,hl2]
  rw[hw,show fieldW r0 s0 t0 a0 b0 86=vtext a0 b0 from rfl,readV_text a0 b0 hp.2.1.1]at hv
  injection hv with e1 e2
  injection e2 with e2 e3
  exact⟨by trivial,by simpa using er,by simpa using es,by simpa using et,by simp[e1],by simp[e2]⟩
theorem inv_end {x F:ByteArray} {n:Nat} {k r s t vk vn:Int} (h:Inv x n k r s t vk vn) (hF:F=(howR k).f1) (hn: ¬n<F.size):
    ∀k0 r0 s0 t0 a0 b0:Int,opB k0 r0 s0 t0 a0 b0=true→opText k0 r0 s0 t0 a0 b0=x→k=k0∧r=r0∧s=s0∧t=t0∧vk=a0∧vn=b0:=by
  intro k0 r0 s0 t0 a0 b0 h1 h2;obtain⟨rfl,er,es,et,ea,eb⟩:=h _ _ _ _ _ _ h1 h2;have hp:=opB_true.1 h1;have e:=form_how k;rw[if_pos hp.1,←hF]at e
  have hl:(formC k).length≤n:=by
    rw[←e];have:F.data.toList.length=F.size:=by rw[Array.length_toList];rfl
    omega
  rw[List.take_of_length_le hl]at er es et ea eb
  obtain⟨f1,f2,f3,f4⟩:=form_has k;simp only[f1,f2,f3,f4]at er es et ea eb
  obtain⟨_,_,gr,gs,gt,gv⟩:=hp;refine⟨rfl,?_,?_,?_,?_,?_⟩
  · rw[er];split
    · rfl
    · rename_i hh;rcases gr with g|⟨g, -⟩
      · exact g.symm
      · exact absurd g hh
  · rw[es];split
    · rfl
    · rename_i hh;rcases gs with g|⟨g, -⟩
      · exact g.symm
      · exact absurd g hh
  · rw[et];split
    · rfl
    · rename_i hh;rcases gt with g|⟨g, -⟩
      · exact g.symm
      · exact absurd g hh
  · rw[ea];split
    · rfl
    · rename_i hh;rcases gv with g|g
      · exact absurd g hh
      · exact g.1.symm
  · rw[eb];split
    · rfl
    · rename_i hh;rcases gv with g|g
      · exact absurd g hh
      · exact g.2.symm
theorem reads_yes {x F:ByteArray} {n:Nat} {k r s t vk vn:Int} (hB:opB k r s t vk vn=true) (hX:opText k r s t vk vn=x):Reads x k r s t vk vn true:=.inl ⟨rfl,hB,hX⟩
theorem reads_no {x F:ByteArray} {n:Nat} {k r s t vk vn:Int} (h:Inv x n k r s t vk vn) (hF:F=(howR k).f1) (hn: ¬n<F.size) (hB: ¬(opB k r s t vk vn=true∧opText k r s t vk vn=x)):Reads x 0 0 0 0 0 0 false:=by
  refine .inr ⟨rfl,⟨rfl,rfl,rfl,rfl,rfl,rfl⟩,fun a b c d f g h1 h2=> ?_⟩
  obtain⟨rfl,rfl,rfl,rfl,rfl,rfl⟩:=inv_end h hF hn _ _ _ _ _ _ h1 h2;exact hB ⟨h1,h2⟩
def Env (w:World):Prop:=TabErrs w∧ ∃m,w.cell? ⟨3,0,none⟩=some (.int .i64 m)
theorem Env.below {w w':World} (h:Env w) (hb:Below w.heap.size w w'):Env w':=by
  obtain⟨h1,m,h2⟩:=h;exact⟨⟨h1.1.below hb,h1.2.below hb⟩,m,(hb.cell (World.block_lt_of_cell? w _ h2)).trans h2⟩
def Words (x:ByteArray) (W:World) (e:Ending) (w':World):Prop:= ∃g N:Nat,e= .returned (.slice (some ⟨g,0,none⟩) N N)∧N=(piecesB x).length∧1≤N∧Below W.heap.size W w'∧w'.heap[g]?=some (.cells ((piecesB x).map Value.string).toArray 9 (0,0))∧W.heap.size≤g
theorem split_any (x:ByteArray) (w:World) (hs:x.size≤24) (hE:Env w):Calls Tryd.prog 63 #[.string x,.string ⟨#[32]⟩] w (Words x w):=by
  obtain⟨-,m,hm⟩:=hE;have hl:(piecesB x).length=Lib.countB x ⟨#[32]⟩+1:=Lib.splitB_all _ (by decide) 0 _ x rfl
  refine(Tryd.strings_Split x ⟨#[32]⟩ m w (by omega) hm (by decide)).mono ?_
  rintro e w' ⟨rfl,rfl⟩
  exact⟨w.heap.size,_,rfl,hl.symm,by omega,below_alloc (Below.refl _ _) _,blk_new _ _,Nat.le_refl _⟩
theorem reads_long {x:ByteArray} (h:24<x.size):Reads x 0 0 0 0 0 0 false:=.inr ⟨rfl,⟨rfl,rfl,rfl,rfl,rfl,rfl⟩,fun a b c d f g _ e=>by have:=opText_le (k:=a) (r:=b) (s:=c) (t:=d) (vk:=f) (vn:=g);rw[e]at this;omega⟩
def zero6:Obj:=.cells #[.int .i64 0,.int .i64 0,.int .i64 0,.int .i64 0,.int .i64 0,.int .i64 0] 35 (0,0)
def OR (x:ByteArray) (w W:World) (g N B:Nat):Prop:=Hold w W w.heap.size zero6∧W.heap[g]?=some (.cells ((piecesB x).map Value.string).toArray 9 (0,0))∧W.heap[B]?=some (.cells #[.slice (some ⟨g,0,none⟩) N N] 57 (0,0))
theorem OR.step {x:ByteArray} {w W W':World} {g N B:Nat} (h:OR x w W g N B) (hb:Below W.heap.size W W'):OR x w W' g N B:=⟨h.1.step hb,blk_below h.2.1 hb,blk_below h.2.2 hb⟩
theorem OR.below {x:ByteArray} {w W:World} {g N B:Nat} (h:OR x w W g N B):Below w.heap.size w W:=h.1.below
theorem OR.alloc {x:ByteArray} {w W:World} {g N B:Nat} (h:OR x w W g N B) (o:Obj):OR x w (W.alloc o) g N B:=h.step (below_alloc (Below.refl _ _) o)
theorem OR.word {x:ByteArray} {w W:World} {g N B:Nat} (h:OR x w W g N B) (i:Nat) (hi:i<(piecesB x).length):W.cell? ⟨g,i,none⟩=some (.string (word x i)):=by
  refine(blk_cell h.2.1 i).trans ?_
  rw[List.getElem?_toArray,List.getElem?_map,List.getElem?_eq_getElem hi];unfold PS.word;simp[List.getElem?_eq_getElem hi]
theorem OR.box {x:ByteArray} {w W:World} {g N B:Nat} (h:OR x w W g N B):W.cell? ⟨B,0,none⟩=some (.slice (some ⟨g,0,none⟩) N N):=(blk_cell h.2.2 0).trans rfl
def KindOf (x:ByteArray) (W:World) (e:Ending) (w':World):Prop:= ∃i:Int,e= .returned (.int .i64 i)∧FirstAt (fun m=>m.f0.toList==(word x 0).toList) mannersL i∧Below W.heap.size W w'
theorem kind_any {x:ByteArray} {w W:World} {g N B gm:Nat} (h:OR x w W g N B) (h1:1≤(piecesB x).length) (hN:1≤N) {V:World} (hm:IsManners V W gm):
    Calls Tryd.prog 64 #[.slice (some ⟨gm,0,none⟩) 15 15,.func (.func 66) #[] #[.pointer (some ⟨B,0,none⟩)]] W (KindOf x W):=
  index_man (fun m=>m.f0.toList==(word x 0).toList) 66 #[.pointer (some ⟨B,0,none⟩)] (fun _ _=>by kernel_rfl) (some ⟨gm,0,none⟩) 15 mannersL W (manners_C hm) (by decide) fun W' y hb=>by
    have hh:=h.step hb;refine(match_any y.f0 y.f1 y.f2 y.f3 B g N N (word x 0) W' hh.2.2 (hh.word 0 h1) hN).mono ?_
    rintro e w' ⟨rfl,hb'⟩
    exact⟨rfl,below_step hb hb'⟩
def ptrR (O:Nat):Value→Option (DataW Unit×List MemPlace)
  | .pointer none=>some (.lit (.int .i64 (-1)),[])
  | .pointer (some ⟨b,j,none⟩)=>if b=O then some (.lit (.int .i64 j),[])else none
  |_=>none
theorem ptrR_mk (O j:Nat):ptrR O (.pointer (some ⟨O,j,none⟩))=some (.lit (.int .i64 j),[]):=by simp[ptrR]
theorem ptrR_inv {O j:Nat} {v:Value} {ps:List MemPlace} (h:ptrR O v=some (.lit (.int .i64 j),ps)):v= .pointer (some ⟨O,j,none⟩):=by
  unfold ptrR at h;split at h
  · simp at h
  · split at h
    · rename_i b j' e
      simp at h
      obtain⟨h, -⟩:=h;obtain rfl:j'=j:=by omega
      rw[e]
    · cases h
  · cases h
def D3:DataW Unit:=(((DataW.map []).put (.int .i32 82) (.lit (.int .i64 1))).put (.int .i32 83) (.lit (.int .i64 2))).put (.int .i32 84) (.lit (.int .i64 3))
def OM (W:World) (O M:Nat):Prop:=W.ownsMap Tryd.prog 21 (ptrR O) M 3 D3
theorem OM.step {W W':World} {O M:Nat} (h:OM W O M) (hb:Below W.heap.size W W'):OM W' O M:=by
  obtain⟨es,clock,h1,h2⟩:=h;exact⟨es,clock,blk_below h1 hb,h2⟩
theorem law21:Maps.Keyed Tryd.prog 21:=Maps.int_keyed Tryd.underlying21
theorem made3 (W:World) (O:Nat): ∃wa wb wc,Sem.run Tryd.prog (Instr.mapUpdate 90 (.map (some W.heap.size)) (.int .i32 82) (.pointer (some ⟨O,1,none⟩))) (W.alloc (.map #[] 0))= .ok () wa∧
    Sem.run Tryd.prog (Instr.mapUpdate 90 (.map (some W.heap.size)) (.int .i32 83) (.pointer (some ⟨O,2,none⟩))) wa= .ok () wb∧
    Sem.run Tryd.prog (Instr.mapUpdate 90 (.map (some W.heap.size)) (.int .i32 84) (.pointer (some ⟨O,3,none⟩))) wb= .ok () wc∧OM wc O W.heap.size∧Below W.heap.size W wc:=by
  have o0:=World.ownsMap_made W Tryd.prog 21 (ptrR O);obtain⟨wa,ra,oa,ga⟩:=o0.update law21 Tryd.underlying90 (by decide) (key:=.int .i32 82) (val:=.pointer (some ⟨O,1,none⟩)) (Maps.keyOf_int_mk Tryd.underlying21 (by decide)) (ptrR_mk O 1)
  obtain⟨wb,rb,ob,gb⟩:=oa.update law21 Tryd.underlying90 (by decide) (key:=.int .i32 83) (val:=.pointer (some ⟨O,2,none⟩)) (Maps.keyOf_int_mk Tryd.underlying21 (by decide)) (ptrR_mk O 2)
  obtain⟨wc,rc,oc,gc⟩:=ob.update law21 Tryd.underlying90 (by decide) (key:=.int .i32 84) (val:=.pointer (some ⟨O,3,none⟩)) (Maps.keyOf_int_mk Tryd.underlying21 (by decide)) (ptrR_mk O 3)
  refine⟨wa,wb,wc,ra,rb,rc,oc,?_⟩
  have b0:=below_alloc (Below.refl W.heap.size W) (.map #[] 0);have b1:=b0.grown ga b0.size (fun k hk=>by cases hk;exact Nat.le_refl _)
  have b2:=b1.grown gb b1.size (fun k hk=>by cases hk;exact Nat.le_refl _)
  exact b2.grown gc b2.size (fun k hk=>by cases hk;exact Nat.le_refl _)
theorem zero89 (w:World):(zeroValue 89).run Tryd.prog w= .ok (.pointer none) w:=by kernel_rfl
theorem look3 {W:World} {O M:Nat} (h:OM W O M):
    Sem.run Tryd.prog (Instr.lookup 90 (.map (some M)) (.int .i32 82) false) W= .ok (.pointer (some ⟨O,1,none⟩)) W∧
    Sem.run Tryd.prog (Instr.lookup 90 (.map (some M)) (.int .i32 83) false) W= .ok (.pointer (some ⟨O,2,none⟩)) W∧
    Sem.run Tryd.prog (Instr.lookup 90 (.map (some M)) (.int .i32 84) false) W= .ok (.pointer (some ⟨O,3,none⟩)) W:=by
  refine⟨?_,?_,?_⟩
  · obtain⟨v,ps,h1,h2⟩:=World.ownsMap.lookup h law21 Tryd.underlying90 (zero89 W) (zd:=.lit (.int .i64 (-1))) (zp:=[]) rfl (key:=.int .i32 82) (Maps.keyOf_int_mk Tryd.underlying21 (by decide))
    have e:=ptrR_inv (O:=O) (j:=1) (v:=v) (ps:=ps) (h2.trans rfl);rw[e]at h1
    exact h1
  · obtain⟨v,ps,h1,h2⟩:=World.ownsMap.lookup h law21 Tryd.underlying90 (zero89 W) (zd:=.lit (.int .i64 (-1))) (zp:=[]) rfl (key:=.int .i32 83) (Maps.keyOf_int_mk Tryd.underlying21 (by decide))
    have e:=ptrR_inv (O:=O) (j:=2) (v:=v) (ps:=ps) (h2.trans rfl);rw[e]at h1
    exact h1
  · obtain⟨v,ps,h1,h2⟩:=World.ownsMap.lookup h law21 Tryd.underlying90 (zero89 W) (zd:=.lit (.int .i64 (-1))) (zp:=[]) rfl (key:=.int .i32 84) (Maps.keyOf_int_mk Tryd.underlying21 (by decide))
    have e:=ptrR_inv (O:=O) (j:=3) (v:=v) (ps:=ps) (h2.trans rfl);rw[e]at h1
    exact h1
theorem OR.far {x:ByteArray} {w W W':World} {g N B k:Nat} (h:OR x w W g N B) (hb:Below w.heap.size w W') (hf: ∀j,j≠k→W'.heap[j]?=W.heap[j]?) (h0:w.heap.size≠k) (hg:g≠k) (hB:B≠k):OR x w W' g N B:=
  ⟨⟨hb,(hf _ h0).trans h.1.blk⟩,(hf _ hg).trans h.2.1,(hf _ hB).trans h.2.2⟩
theorem OR.zero {x:ByteArray} {w W:World} {g N B:Nat} (h:OR x w W g N B):W.heap[w.heap.size]?=some zero6:=h.1.blk
theorem free6 {W:World} {g:Nat} {a b c d e f:Value} {t:TypeId} (h:W.heap[g]?=some (.cells #[a,b,c,d,e,f] t (0,0))):W.frozen? ⟨g,0,none⟩=false∧W.frozen? ⟨g,1,none⟩=false∧W.frozen? ⟨g,2,none⟩=false∧W.frozen? ⟨g,3,none⟩=false∧W.frozen? ⟨g,4,none⟩=false∧W.frozen? ⟨g,5,none⟩=false:=⟨blk_frozen h 0,blk_frozen h 1,blk_frozen h 2,blk_frozen h 3,blk_frozen h 4,blk_frozen h 5⟩
theorem piece_size (sep:ByteArray): ∀ (k:Nat) (s:ByteArray),∀p∈Lib.splitB sep 0 k s,p.size≤s.size
  |0,s,p,h=>by
    unfold Lib.splitB at h;rw[List.mem_singleton]at h
    rw[h];exact Nat.le_refl _
  |k+1,s,p,h=>by
    unfold Lib.splitB at h;split at h
    · rw[List.mem_singleton]at h
      rw[h];exact Nat.le_refl _
    · rcases List.mem_cons.1 h with h|h
      · rw[h,ByteArray.size_extract];omega
      · have:=piece_size sep k _ p h
        rw[ByteArray.size_extract]at this;omega
theorem word_size {x X:ByteArray} {i:Nat} (hz:x.size≤24) (h:X=PS.word x i):X.size≤1048576:=by
  rw[h];unfold PS.word;rw[List.getD_eq_getElem?_getD];rcases Nat.lt_or_ge i (piecesB x).length with hi|hi
  · rw[List.getElem?_eq_getElem hi]
    have:=piece_size _ _ x _ (List.getElem_mem hi:(piecesB x)[i]∈Lib.splitB _ 0 _ x);show((piecesB x)[i]).size≤_
    omega
  · rw[List.getElem?_eq_none hi]
    exact Nat.zero_le _
theorem below6 {w W:World} (h:Below w.heap.size w W) (a b c d e f:Value):Below w.heap.size w ((((((W.setCell ⟨w.heap.size,0,none⟩ a).setCell ⟨w.heap.size,1,none⟩ b).setCell ⟨w.heap.size,2,none⟩ c).setCell ⟨w.heap.size,3,none⟩ d).setCell ⟨w.heap.size,4,none⟩ e).setCell ⟨w.heap.size,5,none⟩ f):=
  below_set0 (below_set0 (below_set0 (below_set0 (below_set0 (below_set0 h _ _) _ _) _ _) _ _) _ _) _ _
def SomeNum (X:ByteArray) (W:World) (e:Ending) (w':World):Prop:= ∃ (v:Int) (er:Value),e= .returned (.tuple #[.int .i64 v,er])∧(∀m,Lib.atoiAll X.data.toList= .ok m→v=m)∧Below W.heap.size W w'
theorem some_num (X:ByteArray) (W:World) (hz:X.size≤1048576) (hE:Errs W):Calls Tryd.prog 54 #[.string X] W (SomeNum X W):=by
  by_cases h: ∃v,Lib.atoiAll X.data.toList= .ok v
  · obtain⟨v,h⟩:=h
    refine(atoi_yes X v W hz h).mono ?_
    rintro e w' ⟨rfl,hb⟩
    exact⟨v,_,rfl,fun m hm=>by rw[h]at hm;injection hm,hb⟩
  · refine(atoi_no X W hz hE fun v hv=>h ⟨v,hv⟩).mono ?_
    rintro e w' ⟨v,N,rfl,hb⟩
    exact⟨v,_,rfl,fun m hm=>absurd ⟨m,hm⟩ h,hb⟩
theorem how_size (k:Int):(howR k).f1.size≤4:=by
  revert k;refine fun k=>kinds (P:=fun k=>(howR k).f1.size≤4) (fun k hk=>by unfold howR;rw[if_neg hk];decide) ?_ ?_ ?_ ?_ ?_ ?_ ?_ ?_ ?_ ?_ ?_ ?_ ?_ ?_ k<;>decide
def LO (x:ByteArray) (w W:World) (g N B O M I:Nat) (F:ByteArray) (n:Nat) (cs:Array Value):Prop:=
  OR x w W g N B∧W.heap[O]?=some (.cells cs 35 (0,0))∧OM W O M∧W.heap[I]?=some (.stringIter F n)∧w.heap.size<O∧w.heap.size<I
theorem LO.below {x:ByteArray} {w W:World} {g N B O M I n:Nat} {F:ByteArray} {cs:Array Value} (h:LO x w W g N B O M I F n cs):Below w.heap.size w W:=h.1.below
theorem LO.orr {x:ByteArray} {w W:World} {g N B O M I n:Nat} {F:ByteArray} {cs:Array Value} (h:LO x w W g N B O M I F n cs):OR x w W g N B:=h.1
theorem LO.blk {x:ByteArray} {w W:World} {g N B O M I n:Nat} {F:ByteArray} {cs:Array Value} (h:LO x w W g N B O M I F n cs):W.heap[O]?=some (.cells cs 35 (0,0)):=h.2.1
theorem LO.map {x:ByteArray} {w W:World} {g N B O M I n:Nat} {F:ByteArray} {cs:Array Value} (h:LO x w W g N B O M I F n cs):OM W O M:=h.2.2.1
theorem LO.it {x:ByteArray} {w W:World} {g N B O M I n:Nat} {F:ByteArray} {cs:Array Value} (h:LO x w W g N B O M I F n cs):W.heap[I]?=some (.stringIter F n):=h.2.2.2.1
theorem LO.step {x:ByteArray} {w W W':World} {g N B O M I n:Nat} {F:ByteArray} {cs:Array Value} (h:LO x w W g N B O M I F n cs) (hb:Below W.heap.size W W'):LO x w W' g N B O M I F n cs:=
  ⟨h.1.step hb,blk_below h.2.1 hb,h.2.2.1.step hb,blk_below h.2.2.2.1 hb,h.2.2.2.2⟩
theorem LO.iter {x:ByteArray} {w W:World} {g N B O M I n:Nat} {F:ByteArray} {cs:Array Value} (h:LO x w W g N B O M I F n cs) (m:Nat):LO x w (W.iterAt I F m) g N B O M I F m cs:=by
  obtain⟨h1,h2,h3,h4,h5,h6⟩:=h;have hf: ∀j,j≠I→(W.iterAt I F m).heap[j]?=W.heap[j]?:=fun j hj=>Lib.iterAt_other W I j F m hj
  obtain⟨es,clock,h7,h8⟩:=h3;refine⟨h1.far (Lib.below_iterAt h1.below (by omega) F m) hf (by omega) ?_ ?_,(hf _ ?_).trans h2,⟨es,clock,(hf _ ?_).trans h7,h8⟩,Lib.iterAt_heap W I F n m h4,h5,h6⟩
  · rintro rfl;rw[h1.2.1]at h4;cases h4
  · rintro rfl;rw[h1.2.2]at h4;cases h4
  · rintro rfl;rw[h2]at h4;cases h4
  · rintro rfl;rw[h7]at h4;cases h4
theorem LO.put {x:ByteArray} {w W:World} {g N B O M I n:Nat} {F:ByteArray} {cs:Array Value} (h:LO x w W g N B O M I F n cs) (j:Nat) (u:Value):LO x w (W.setCell ⟨O,j,none⟩ u) g N B O M I F n (cs.setIfInBounds j u):=by
  obtain⟨h1,h2,h3,h4,h5,h6⟩:=h;have hf: ∀i,i≠O→(W.setCell ⟨O,j,none⟩ u).heap[i]?=W.heap[i]?:=fun i hi=>Below.heap_setCell W ⟨O,j,none⟩ u i hi
  obtain⟨es,clock,h7,h8⟩:=h3;refine⟨h1.far (below_set h1.below (by omega)) hf (by omega) ?_ ?_,blk_set h2 j u,⟨es,clock,(hf _ ?_).trans h7,h8⟩,(hf _ ?_).trans h4,h5,h6⟩
  · rintro rfl;rw[h1.2.1]at h2;cases h2
  · rintro rfl;rw[h1.2.2]at h2;cases h2
  · rintro rfl;rw[h7]at h2;cases h2
  · rintro rfl;rw[h4]at h2;cases h2
def OpAns (x:ByteArray) (w:World) (e:Ending) (w':World):Prop:= ∃ (k r s t vk vn:Int) (ok:Bool),e= .returned (.tuple #[.agg #[.int .i64 k,.int .i64 r,.int .i64 s,.int .i64 t,.int .i64 vk,.int .i64 vn],.bool ok])∧Reads x k r s t vk vn ok∧Below w.heap.size w w'
theorem impl_OpRead_any (x:ByteArray) (w:World) (hE:Env w):Calls Tryd.prog 37 #[.string x] w (OpAns x w):=by
  have HE:=Aside0.mk hE;clear hE;by_cases hz:24<x.size
  · have e0:decide ((24:Int)<(x.size:Int))=true:=decide_eq_true (by omega)
    have HZ:=Aside0.mk hz;have HB:=Aside0.mk (Hold.new (Below.refl w.heap.size w) (.cells #[.int .i64 0,.int .i64 0,.int .i64 0,.int .i64 0,.int .i64 0,.int .i64 0] 35));clear hz;go_enter Tryd.func37,Tryd.ntmps37
    go_wp2
    obtain⟨c0,c1,c2,c3,c4,c5⟩:=box6 HB.out.blk;exact bodyPost_ret (v:=.tuple #[.agg #[.int .i64 0,.int .i64 0,.int .i64 0,.int .i64 0,.int .i64 0,.int .i64 0],.bool false]) (by simp[results,Tryd.results37,go_sem,c0,c1,c2,c3,c4,c5]) rfl ⟨0,0,0,0,0,0,false,rfl,reads_long HZ.out,HB.out.below⟩
  have e0:decide ((24:Int)<(x.size:Int))=false:=decide_eq_false (by omega)
  have HS:Aside0 (∀W,Below w.heap.size w W→Calls Tryd.prog 63 #[.string x,.string ⟨#[32]⟩] W (Words x W)):=⟨fun W hW=>split_any x W (by omega) (HE.out.below hW)⟩
  have HM:Aside0 (∀W,Calls Tryd.prog 65 #[] W fun e w'=> ∃g,e= .returned (.slice (some ⟨g,0,none⟩) 15 15)∧IsManners W w' g):=⟨fun W=>manners_any W⟩
  have HB:=Aside0.mk (Hold.new (Below.refl w.heap.size w) (.cells #[.int .i64 0,.int .i64 0,.int .i64 0,.int .i64 0,.int .i64 0,.int .i64 0] 35));have HZ:=Aside0.mk hz;clear hz;go_enter Tryd.func37,Tryd.ntmps37
  go_upto_region 4 with (go_at_call 63;(with_reducible refine(HS.out _ HB.out.below).mono ?_);rintro e w1 ⟨g,N,rfl,hN,hN1,hb,hw,hg⟩;replace HB:=Aside0.mk (HB.out.step hb);clear hb;have HW:=Aside0.mk hw;have HN:=Aside0.mk (show _∧_∧_ from⟨hN,hN1,hg⟩);clear hw hN hN1 hg)
  have HR:Aside0 (OR x w (w1.alloc (.cells #[.slice (some ⟨g,0,none⟩) N N] 57)) g N w1.heap.size):=⟨⟨HB.out.alloc _,blk_alloc HW.out _,blk_new _ _⟩⟩;clear HB HW HS;obtain⟨B,hB⟩: ∃B,B=w1.heap.size:=⟨_,rfl⟩;rw[←hB]at HR⊢
  clear hB
  go_upto_region 5 with (first
    |(go_at_call 65;(with_reducible refine(HM.out _).mono ?_);rintro e w2 ⟨gm,rfl,hm⟩;replace HR:=Aside0.mk (HR.out.step hm.1);have HI:=Aside0.mk (kind_any HR.out (by have:=HN.out;omega) HN.out.2.1 hm);clear hm)
    |(go_at_call 64;(with_reducible refine(HI.out).mono ?_);rintro e w3 ⟨k,rfl,hk,hb⟩;replace HR:=Aside0.mk (HR.out.step hb);have HK:=Aside0.mk hk;clear hk hb HI HM))
  have HO:Aside0 (OR x w (w3.alloc (.cells #[.int .i64 k,.int .i64 0,.int .i64 0,.int .i64 0,.int .i64 0,.int .i64 0] 35)) g N B∧(w3.alloc (.cells #[.int .i64 k,.int .i64 0,.int .i64 0,.int .i64 0,.int .i64 0,.int .i64 0] 35)).heap[w3.heap.size]?=some (cells6 k 0 0 0 0 0)):=⟨HR.out.alloc _,blk_new _ _⟩;have HOL:=Aside0.mk HR.out.1.lt;clear HR;obtain⟨O,hO⟩: ∃O,O=w3.heap.size:=⟨_,rfl⟩;rw[←hO]at HO HOL⊢
  clear hO;revert HO
  generalize w3.alloc (.cells #[.int .i64 k,.int .i64 0,.int .i64 0,.int .i64 0,.int .i64 0,.int .i64 0] 35)=w4;intro HO;obtain⟨wa,wb,wc,ra,rb,rc,oc,bc⟩:=made3 w4 O;have rm:= @run_makeMap Tryd.prog;have HO2:Aside0 (OR x w wc g N B∧wc.heap[O]?=some (cells6 k 0 0 0 0 0)∧OM wc O w4.heap.size):=⟨HO.out.1.step bc,blk_below HO.out.2 bc,oc⟩;clear oc bc HO;have HW:Aside0 (∀k r s t vk vn W,Calls Tryd.prog 51 #[.agg #[.int .i64 k,.int .i64 r,.int .i64 s,.int .i64 t,.int .i64 vk,.int .i64 vn]] W fun e w'=>e= .returned (.agg #[.string (howR k).f0,.string (howR k).f1,.string (howR k).f2,.bool (howR k).f3])∧Below W.heap.size W w'):=⟨fun k r s t vk vn W=>impl_Op_how.calls k r s t vk vn (howR k).f0 (howR k).f1 (howR k).f2 (howR k).f3 W rfl⟩
  obtain⟨M,hM⟩: ∃M,M=w4.heap.size:=⟨_,rfl⟩;rw[←hM]at ra rb rc HO2
  have rm4:Sem.run Tryd.prog (Instr.makeMap 90 none) w4= .ok (.map (some M)) (w4.alloc (.map #[] 0)):=by rw[hM];exact rm 90 w4
  clear hM rm;have hfd: ∀ (a b c d:Value) (W:World),Sem.run Tryd.prog (Instr.field 67 (.agg #[a,b,c,d]) 1) W= .ok b W:=fun _ _ _ _ _=>by kernel_rfl
  go_upto_region 6 with (fail)
  clear ra rb rc rm4;obtain⟨c0,c1,c2,c3,c4,c5⟩:=box6 HO2.out.2.1;go_upto_block 0 with (go_at_call 51;(with_reducible refine(HW.out _ _ _ _ _ _ _).mono ?_);rintro e w5 ⟨rfl,hb⟩;have HO3:Aside0 (OR x w w5 g N B∧w5.heap[O]?=some (cells6 k 0 0 0 0 0)∧OM w5 O M):=⟨HO2.out.1.step hb,blk_below HO2.out.2.1 hb,HO2.out.2.2.step hb⟩;clear hb HO2 c0 c1 c2 c3 c4 c5)
  obtain⟨F,hF⟩: ∃F,F=(howR k).f1:=⟨_,rfl⟩;rw[←hF];have HF:=Aside0.mk hF;have HL:Aside0 (LO x w (w5.iter F 0) g N B O M w5.heap.size F 0 #[.int .i64 k,.int .i64 0,.int .i64 0,.int .i64 0,.int .i64 0,.int .i64 0]):=⟨⟨HO3.out.1.alloc _,blk_alloc HO3.out.2.1 _,HO3.out.2.2.step (below_alloc (Below.refl _ _) _),blk_new _ _,HOL.out,HO3.out.1.1.lt⟩⟩;clear HO3 hF;obtain⟨I,hI⟩: ∃I,I=w5.heap.size:=⟨_,rfl⟩;rw[←hI]at HL⊢
  clear hI;have HI:Aside0 (Inv x 0 k 0 0 0 0 0):=⟨inv_zero HK.out⟩;go_wp2
  go_loopg [7,8] F.size (fun gg _ _ wr=> ∃ (n:Nat) (r s t vk vn:Int),n≤F.size∧F.size-n≤gg∧Aside0 (LO x w wr g N B O M I F n #[.int .i64 k,.int .i64 r,.int .i64 s,.int .i64 t,.int .i64 vk,.int .i64 vn])∧Aside0 (Inv x n k r s t vk vn))
  case atStart=>exact⟨0,0,0,0,0,0,Nat.zero_le _,Nat.sub_le _ _,HL,HI⟩
  case round=>
    clear HL HI HK;obtain⟨n,r,s,t,vk,vn,hn,hgg,HL,HI⟩:=hrel;by_cases hlt:n<F.size
    · have hcm:F[n]=82∨F[n]=83∨F[n]=84∨F[n]=86:=how_mem (k:=k) (by rw[←HF.out];exact Array.getElem_mem_toList hlt)
      have hnext: ∀ty,(Instr.next (.pointer (some ⟨I,0,none⟩)) true ty).run Tryd.prog wr= .ok (.tuple #[.bool true,.int .i64 n,.int .i32 (F[n]'hlt).toNat]) (wr.iterAt I F (n+1)):=fun ty=>Lib.run_next_ascii_at wr I F n ty HL.out.it hlt (by rcases hcm with h|h|h|h<;>rw[h]<;>decide)
      have HL1:=Aside0.mk (HL.out.iter (n+1));clear HL;have hF4:F.size≤4:=by rw[HF.out];exact how_size k
      have hwr:IntKind.i64.wrap ((n:Int)+1)=(n:Int)+1:=by rw[IntKind.wrap_i64];omega
      have HLT:=Aside0.mk hlt;revert HL1
      generalize wr.iterAt I F (n+1)=W1 at hnext⊢
      intro HL1;have cb:=HL1.out.orr.box;by_cases hs:N≤n+1
      · have e1:decide ((N:Int)≤(n:Int)+1)=true:=decide_eq_true (by omega)
        have HS:=Aside0.mk hs;obtain⟨z0,z1,z2,z3,z4,z5⟩:=box6 HL1.out.orr.zero;obtain⟨f0,f1,f2,f3,f4,f5⟩:=free6 HL1.out.orr.zero;clear hs hcm;go_wp2
        exact bodyPost_ret (v:=.tuple #[.agg #[.int .i64 0,.int .i64 0,.int .i64 0,.int .i64 0,.int .i64 0,.int .i64 0],.bool false]) (by simp[results,Tryd.results37,go_sem,z0,z1,z2,z3,z4,z5]) rfl ⟨0,0,0,0,0,0,false,rfl,inv_short HI.out HF.out HLT.out (by have:=HN.out.1;have:=HS.out;omega),below6 HL1.out.below _ _ _ _ _ _⟩
      · have e1:decide ((N:Int)≤(n:Int)+1)=false:=decide_eq_false (by omega)
        have hnz:(0:Int)≤(n:Int)+1:=by omega
        have hnN:(n:Int)+1<(N:Int):=by omega
        have htn:((n:Int)+1).toNat=n+1:=by omega
        have cw:=HL1.out.orr.word (n+1) (by have:=HN.out.1;omega)
        obtain⟨X,hX⟩: ∃X,X=PS.word x (n+1):=⟨_,rfl⟩;rw[←hX]at cw
        have HX:=Aside0.mk hX;clear hX;rcases hcm with hc|hc|hc|hc
        · have hc0:(F[n]'hlt).toNat=82:=by rw[hc];rfl
          rw[hc0]at hnext
          have HC:=Aside0.mk hc;clear hc hc0;have HLD:=Aside0.mk (HL1.out.step (below_drew (Below.refl W1.heap.size W1)));have l1:=(look3 HLD.out.map).1;have HAT:Aside0 (∀W,Below w.heap.size w W→Calls Tryd.prog 54 #[.string X] W (SomeNum X W)):=⟨fun W hW=>some_num X W (word_size (by have:=HZ.out;omega) HX.out) (HE.out.below hW).1.2⟩
          go_upto_region 9 with (fail)
          go_region_held3 (fun W'=>W'.cell? ⟨B,0,none⟩=some (.slice (some ⟨g,0,none⟩) N N)∧W'.cell? ⟨g,n+1,none⟩=some (.string X)∧Sem.run Tryd.prog (Instr.lookup 90 (.map (some M)) (.int .i32 82) false) W'= .ok (.pointer (some ⟨O,1,none⟩)) W') (go_keep) ((go_at_call 54;(with_reducible refine(HAT.out _ HLD.out.below).mono ?_);rintro e W2 ⟨v,er,rfl,hv,hb⟩;have HL2:=Aside0.mk (HLD.out.step hb);have HVV:=Aside0.mk hv;clear hv hb;have cb2:=HL2.out.orr.box;have cw2:=HL2.out.orr.word (n+1) (by have:=HN.out.1;omega);rw[←HX.out]at cw2;have l12:=(look3 HL2.out.map).1;obtain⟨d0,d1,d2,d3,d4,d5⟩:=box6 HL2.out.blk;obtain⟨g0,g1,g2,g3,g4,g5⟩:=free6 HL2.out.blk;have HL3:=Aside0.mk (HL2.out.put 1 (.int .i64 v));have cb3:=HL3.out.orr.box;have cw3:=HL3.out.orr.word (n+1) (by have:=HN.out.1;omega);rw[←HX.out]at cw3;have l13:=(look3 HL3.out.map).1))
          all_goals
            have HV:=Aside0.mk ((inv_num HI.out HF.out hlt (fun m hm=>HVV.out m (by rw[HX.out];exact hm))).1 HC.out)
            go_wp2
            go_roundg (gk-1)
            case measure=>omega
            case rel=>exact⟨n+1,v,s,t,vk,vn,by omega,by omega,HL3,HV⟩
        · have hc0:(F[n]'hlt).toNat=83:=by rw[hc];rfl
          rw[hc0]at hnext
          have HC:=Aside0.mk hc;clear hc hc0;have HLD:=Aside0.mk (HL1.out.step (below_drew (Below.refl W1.heap.size W1)));have l1:=(look3 HLD.out.map).2.1;have HAT:Aside0 (∀W,Below w.heap.size w W→Calls Tryd.prog 54 #[.string X] W (SomeNum X W)):=⟨fun W hW=>some_num X W (word_size (by have:=HZ.out;omega) HX.out) (HE.out.below hW).1.2⟩
          go_upto_region 9 with (fail)
          go_region_held3 (fun W'=>W'.cell? ⟨B,0,none⟩=some (.slice (some ⟨g,0,none⟩) N N)∧W'.cell? ⟨g,n+1,none⟩=some (.string X)∧Sem.run Tryd.prog (Instr.lookup 90 (.map (some M)) (.int .i32 83) false) W'= .ok (.pointer (some ⟨O,2,none⟩)) W') (go_keep) ((go_at_call 54;(with_reducible refine(HAT.out _ HLD.out.below).mono ?_);rintro e W2 ⟨v,er,rfl,hv,hb⟩;have HL2:=Aside0.mk (HLD.out.step hb);have HVV:=Aside0.mk hv;clear hv hb;have cb2:=HL2.out.orr.box;have cw2:=HL2.out.orr.word (n+1) (by have:=HN.out.1;omega);rw[←HX.out]at cw2;have l12:=(look3 HL2.out.map).2.1;obtain⟨d0,d1,d2,d3,d4,d5⟩:=box6 HL2.out.blk;obtain⟨g0,g1,g2,g3,g4,g5⟩:=free6 HL2.out.blk;have HL3:=Aside0.mk (HL2.out.put 2 (.int .i64 v));have cb3:=HL3.out.orr.box;have cw3:=HL3.out.orr.word (n+1) (by have:=HN.out.1;omega);rw[←HX.out]at cw3;have l13:=(look3 HL3.out.map).2.1))
          all_goals
            have HV:=Aside0.mk ((inv_num HI.out HF.out hlt (fun m hm=>HVV.out m (by rw[HX.out];exact hm))).2.1 HC.out)
            go_wp2
            go_roundg (gk-1)
            case measure=>omega
            case rel=>exact⟨n+1,r,v,t,vk,vn,by omega,by omega,HL3,HV⟩
        · have hc0:(F[n]'hlt).toNat=84:=by rw[hc];rfl
          rw[hc0]at hnext
          have HC:=Aside0.mk hc;clear hc hc0;have HLD:=Aside0.mk (HL1.out.step (below_drew (Below.refl W1.heap.size W1)));have l1:=(look3 HLD.out.map).2.2;have HAT:Aside0 (∀W,Below w.heap.size w W→Calls Tryd.prog 54 #[.string X] W (SomeNum X W)):=⟨fun W hW=>some_num X W (word_size (by have:=HZ.out;omega) HX.out) (HE.out.below hW).1.2⟩
          go_upto_region 9 with (fail)
          go_region_held3 (fun W'=>W'.cell? ⟨B,0,none⟩=some (.slice (some ⟨g,0,none⟩) N N)∧W'.cell? ⟨g,n+1,none⟩=some (.string X)∧Sem.run Tryd.prog (Instr.lookup 90 (.map (some M)) (.int .i32 84) false) W'= .ok (.pointer (some ⟨O,3,none⟩)) W') (go_keep) ((go_at_call 54;(with_reducible refine(HAT.out _ HLD.out.below).mono ?_);rintro e W2 ⟨v,er,rfl,hv,hb⟩;have HL2:=Aside0.mk (HLD.out.step hb);have HVV:=Aside0.mk hv;clear hv hb;have cb2:=HL2.out.orr.box;have cw2:=HL2.out.orr.word (n+1) (by have:=HN.out.1;omega);rw[←HX.out]at cw2;have l12:=(look3 HL2.out.map).2.2;obtain⟨d0,d1,d2,d3,d4,d5⟩:=box6 HL2.out.blk;obtain⟨g0,g1,g2,g3,g4,g5⟩:=free6 HL2.out.blk;have HL3:=Aside0.mk (HL2.out.put 3 (.int .i64 v));have cb3:=HL3.out.orr.box;have cw3:=HL3.out.orr.word (n+1) (by have:=HN.out.1;omega);rw[←HX.out]at cw3;have l13:=(look3 HL3.out.map).2.2))
          all_goals
            have HV:=Aside0.mk ((inv_num HI.out HF.out hlt (fun m hm=>HVV.out m (by rw[HX.out];exact hm))).2.2 HC.out)
            go_wp2
            go_roundg (gk-1)
            case measure=>omega
            case rel=>exact⟨n+1,r,s,v,vk,vn,by omega,by omega,HL3,HV⟩
        · have hc86:(F[n]'hlt).toNat=86:=by rw[hc];rfl
          rw[hc86]at hnext
          have HC:=Aside0.mk hc;clear hc hc86;obtain⟨va,vb,vok,hrv⟩: ∃a b c,readV X=(a,b,c):=⟨_,_,_,rfl⟩;have HR:Aside0 (∀W,Below w.heap.size w W→Calls Tryd.prog 26 #[.string X] W fun e w'=>e= .returned (.tuple #[.agg #[.int .i64 va,.int .i64 vb],.bool vok])∧Below W.heap.size W w'):=⟨fun W hW=>(impl_ValRead_any X W (word_size (by have:=HZ.out;omega) HX.out) (HE.out.below hW).1.1 (HE.out.below hW).1.2).mono fun e w' ⟨h1,h2⟩=>⟨by rw[h1,hrv],h2⟩⟩
          have HV:Aside0 (Inv x (n+1) k r s t va vb):=⟨inv_val HI.out HF.out hlt (by rw[←HX.out];exact hrv) HC.out⟩
          clear hrv;go_wp2_with (go_at_call 26;(with_reducible refine(HR.out _ HL1.out.below).mono ?_);rintro e W2 ⟨rfl,hb⟩;replace HL1:=Aside0.mk (HL1.out.step hb);clear hb;obtain⟨d0,d1,d2,d3,d4,d5⟩:=box6 HL1.out.blk;obtain⟨g0,g1,g2,g3,g4,g5⟩:=free6 HL1.out.blk)
          go_roundg (gk-1)
          case measure=>omega
          case rel=>exact⟨n+1,r,s,t,va,vb,by omega,by omega,⟨(HL1.out.put 4 (.int .i64 va)).put 5 (.int .i64 vb)⟩,HV⟩
    · have hnext: ∀ty,(Instr.next (.pointer (some ⟨I,0,none⟩)) true ty).run Tryd.prog wr= .ok (.tuple #[.bool false]) wr:=fun ty=>Lib.run_next_end_at wr I F n ty HL.out.it hlt
      have HLT:=Aside0.mk hlt;have HOK:Aside0 (∀W,Calls Tryd.prog 38 #[.agg #[.int .i64 k,.int .i64 r,.int .i64 s,.int .i64 t,.int .i64 vk,.int .i64 vn]] W fun e w'=>e= .returned (.bool (opB k r s t vk vn))∧Below W.heap.size W w'):=⟨fun W=>impl_OpOk.calls k r s t vk vn _ W rfl⟩
      have HTX:Aside0 (∀W,Below w.heap.size w W→Calls Tryd.prog 24 #[.agg #[.int .i64 k,.int .i64 r,.int .i64 s,.int .i64 t,.int .i64 vk,.int .i64 vn]] W fun e w'=>e= .returned (.string (opText k r s t vk vn))∧Below W.heap.size W w'):=⟨fun W hW=>impl_OpText_any k r s t vk vn W (HE.out.below hW).1.1⟩
      have HNO:Aside0 (¬(opB k r s t vk vn=true∧opText k r s t vk vn=x)→Reads x 0 0 0 0 0 0 false):=⟨reads_no HI.out HF.out hlt⟩;have HYES:Aside0 (opB k r s t vk vn=true→opText k r s t vk vn=x→Reads x k r s t vk vn true):=⟨fun h1 h2=>reads_yes (F:=F) (n:=n) h1 h2⟩
      obtain⟨b,hb⟩: ∃b,opB k r s t vk vn=b:=⟨_,rfl⟩;obtain⟨X,hX⟩: ∃X,opText k r s t vk vn=X:=⟨_,rfl⟩;rw[hb]at HOK HNO HYES
      rw[hX]at HTX HNO HYES
      clear hlt hn hb hX;obtain⟨d0,d1,d2,d3,d4,d5⟩:=box6 HL.out.blk;obtain⟨z0,z1,z2,z3,z4,z5⟩:=box6 HL.out.orr.zero;obtain⟨f0,f1,f2,f3,f4,f5⟩:=free6 HL.out.orr.zero;cases b with
      |false=>
        go_wp2_with (go_at_call 38;(with_reducible refine(HOK.out _).mono ?_);rintro e W2 ⟨rfl,hb⟩;replace HL:=Aside0.mk (HL.out.step hb);clear hb z0 z1 z2 z3 z4 z5 f0 f1 f2 f3 f4 f5;obtain⟨z0,z1,z2,z3,z4,z5⟩:=box6 HL.out.orr.zero;obtain⟨f0,f1,f2,f3,f4,f5⟩:=free6 HL.out.orr.zero)
        exact bodyPost_ret (v:=.tuple #[.agg #[.int .i64 0,.int .i64 0,.int .i64 0,.int .i64 0,.int .i64 0,.int .i64 0],.bool false]) (by simp[results,Tryd.results37,go_sem,z0,z1,z2,z3,z4,z5]) rfl ⟨0,0,0,0,0,0,false,rfl,HNO.out (by simp),below6 HL.out.below _ _ _ _ _ _⟩
      |true=>
        by_cases hv:X=x
        · have e2:(X.toList==x.toList)=true:=by rw[hv];simp
          have HV:=Aside0.mk hv;clear hv
          go_wp2_with (first
            |(go_at_call 38;(with_reducible refine(HOK.out _).mono ?_);rintro e W2 ⟨rfl,hb⟩;replace HL:=Aside0.mk (HL.out.step hb);clear hb z0 z1 z2 z3 z4 z5 f0 f1 f2 f3 f4 f5 d0 d1 d2 d3 d4 d5;obtain⟨d0,d1,d2,d3,d4,d5⟩:=box6 HL.out.blk;obtain⟨z0,z1,z2,z3,z4,z5⟩:=box6 HL.out.orr.zero;obtain⟨f0,f1,f2,f3,f4,f5⟩:=free6 HL.out.orr.zero)
            |(go_at_call 24;(with_reducible refine(HTX.out _ HL.out.below).mono ?_);rintro e W3 ⟨rfl,hb⟩;replace HL:=Aside0.mk (HL.out.step hb);clear hb z0 z1 z2 z3 z4 z5 f0 f1 f2 f3 f4 f5 d0 d1 d2 d3 d4 d5;obtain⟨d0,d1,d2,d3,d4,d5⟩:=box6 HL.out.blk;obtain⟨z0,z1,z2,z3,z4,z5⟩:=box6 HL.out.orr.zero;obtain⟨f0,f1,f2,f3,f4,f5⟩:=free6 HL.out.orr.zero))
          exact bodyPost_ret (v:=.tuple #[.agg #[.int .i64 k,.int .i64 r,.int .i64 s,.int .i64 t,.int .i64 vk,.int .i64 vn],.bool true]) (by simp[results,Tryd.results37,go_sem,z0,z1,z2,z3,z4,z5]) rfl ⟨k,r,s,t,vk,vn,true,rfl,HYES.out (by trivial) HV.out,below6 HL.out.below _ _ _ _ _ _⟩
        · have e2 : (X.toList == x.toList) = false := by
            rw[toListD,toListD,beq_eq_false_iff_ne];intro h;exact hv (Go.WideShapes.bytes_inj h)
          have HV:=Aside0.mk hv;clear hv
          go_wp2_with (first
            |(go_at_call 38;(with_reducible refine(HOK.out _).mono ?_);rintro e W2 ⟨rfl,hb⟩;replace HL:=Aside0.mk (HL.out.step hb);clear hb z0 z1 z2 z3 z4 z5 f0 f1 f2 f3 f4 f5 d0 d1 d2 d3 d4 d5;obtain⟨d0,d1,d2,d3,d4,d5⟩:=box6 HL.out.blk;obtain⟨z0,z1,z2,z3,z4,z5⟩:=box6 HL.out.orr.zero;obtain⟨f0,f1,f2,f3,f4,f5⟩:=free6 HL.out.orr.zero)
            |(go_at_call 24;(with_reducible refine(HTX.out _ HL.out.below).mono ?_);rintro e W3 ⟨rfl,hb⟩;replace HL:=Aside0.mk (HL.out.step hb);clear hb z0 z1 z2 z3 z4 z5 f0 f1 f2 f3 f4 f5 d0 d1 d2 d3 d4 d5;obtain⟨d0,d1,d2,d3,d4,d5⟩:=box6 HL.out.blk;obtain⟨z0,z1,z2,z3,z4,z5⟩:=box6 HL.out.orr.zero;obtain⟨f0,f1,f2,f3,f4,f5⟩:=free6 HL.out.orr.zero))
          exact bodyPost_ret (v:=.tuple #[.agg #[.int .i64 0,.int .i64 0,.int .i64 0,.int .i64 0,.int .i64 0,.int .i64 0],.bool false]) (by simp[results,Tryd.results37,go_sem,z0,z1,z2,z3,z4,z5]) rfl ⟨0,0,0,0,0,0,false,rfl,HNO.out (fun h=>HV.out h.2),below6 HL.out.below _ _ _ _ _ _⟩
end Go.Proofs.YtmklpbmlgjkbiaaDoor.PS
end
