/- What the rows of OXB rest on, part 7. -/

import Derived.Test.YtmklpbmlgjkbiaaDoorQOXB5
set_option linter.unusedVariables false
set_option linter.unusedSimpArgs false
set_option maxHeartbeats 8000000
set_option maxRecDepth 100000
section
namespace Go.Proofs.YtmklpbmlgjkbiaaDoor.PS
open Go.RowKit Go.Proofs.YtmklpbmlgjkbiaaDoorW.PrintWords Go.Proofs.YtmklpbmlgjkbiaaDoorW.PrintLast
theorem strOf1 (c:UInt8):strOfNums [(c.toNat:Int)]=byL [c]:=by
  have h: ∀c:Fin 256,strOfNums [((UInt8.ofNat c.val).toNat:Int)]=byL [UInt8.ofNat c.val]:=by decide+kernel
  have:=h ⟨c.toNat,c.toNat_lt⟩;simpa using this
def cutsL:List UInt8→List UInt8→List (List UInt8)
  |cur,[]=> [cur]
  |cur,c::l=>if c=32 then cur::cutsL [] l else cutsL (cur++ [c]) l
theorem cuts_pieces: ∀ (l cur:List UInt8),32∉cur→piecesB (byL (cur++l))=(cutsL cur l).map byL
  | [],cur,h=>by rw[List.append_nil];exact pieces_last cur h
  |c::l,cur,h=>by
    unfold cutsL;split
    · rename_i e
      subst e;rw[pieces_cons cur l h,List.map_cons];have:=cuts_pieces l [] (by simp)
      rw[List.nil_append]at this
      rw[this]
    · rename_i e
      have:=cuts_pieces l (cur++ [c]) (by simp only[List.mem_append,List.mem_singleton,not_or];exact⟨h,fun e'=>e e'.symm⟩)
      rwa [List.append_assoc]at this
theorem cut_rest (s:ByteArray): ∀ (n i:Nat) (pre:List ByteArray) (cur:List UInt8),i+n=s.size→(List.range' i n).foldl (cutStep s 32) (pre++ [byL cur])=pre++(cutsL cur (s.data.toList.drop i)).map byL
  |0,i,pre,cur,h=>by
    have:s.data.toList.drop i=[]:=List.drop_eq_nil_of_le (by rw[Array.length_toList];show s.size≤i;omega)
    rw[this];rfl
  |n+1,i,pre,cur,h=>by
    have hi:i<s.size:=by omega
    have hd:s.data.toList.drop i=s[i]::s.data.toList.drop (i+1):=by
      have hl:i<s.data.toList.length:=by rw[Array.length_toList];exact hi
      rw[List.drop_eq_getElem_cons hl];rfl
    have hb:bt s (i:Int)=(s[i].toNat:Int):=by unfold bt;rw[dif_pos (by simpa using hi)];rfl
    rw[List.range'_succ,List.foldl_cons,hd];unfold cutsL;by_cases hc:s[i]=32
    · rw[if_pos hc]
      have:cutStep s 32 (pre++ [byL cur]) i=(pre++ [byL cur])++ [byL []]:=by
        unfold cutStep;rw[if_pos (by rw[hb,hc];rfl)]
        rfl
      rw[this,cut_rest s n (i+1) (pre++ [byL cur]) [] (by omega),List.map_cons,List.append_assoc]
      rfl
    · rw[if_neg hc]
      have:cutStep s 32 (pre++ [byL cur]) i=pre++ [byL (cur++ [s[i]])]:=by
        unfold cutStep;rw[if_neg (by rw[hb];intro e;exact hc (UInt8.toNat_inj.1 (Int.ofNat_inj.1 e))),hb,strOf1]
        have e1:(pre++ [byL cur]).length-1=pre.length:=by simp
        have e2:rdOf ByteArray.empty (pre++ [byL cur]) (((pre++ [byL cur]).length:Int)-1)=byL cur:=by
          unfold rdOf;rw[show(((pre++ [byL cur]).length:Int)-1).toNat=pre.length by simp]
          simp
        rw[e1,e2]
        have e3:byL cur++byL [s[i]]=byL (cur++ [s[i]]):=by
          refine Go.WideShapes.bytes_inj ?_
          simp[byL]
        rw[e3];simp
      rw[this,cut_rest s n (i+1) pre (cur++ [s[i]]) (by omega)]
theorem cut_pieces (x:ByteArray):cutTo x 32 x.size=piecesB x:=by
  have h:=cut_rest x x.size 0 [] [] (by omega)
  have h2:=cuts_pieces x.data.toList [] (by simp)
  rw[List.nil_append,byL_data]at h2
  rw[List.nil_append,List.nil_append,List.drop_zero,←h2]at h
  rw[←h];unfold cutTo;rw[List.range_eq_range'];rfl
theorem l1_any (x:ByteArray): ∃r,spec_l1Dec.f 11 x=some r:=by
  have j1: ∀ (x:ByteArray) (s:Int),∃r,spec_l1Dec.j1 10 x s=some r:=fun x s=>by
    simp only[spec_l1Dec.j1]
    rw[in_f];simp only[Option.bind_some]
    by_cases h:1≤(x.size:Int)∧(x.size:Int)≤2
    · rw[decide_eq_true h,if_pos rfl];exact l1_l0 x s 0 0 9 (by omega) (by omega) (by omega)
    · rw[decide_eq_false h];exact⟨_,rfl⟩
  have go: ∀b s,(b=true→1≤x.size)→ ∃r,spec_l1Dec.j0 11 x s b=some r:=fun b s hb=>by
    simp only[spec_l1Dec.j0]
    cases b with
    |true=>
      rw[if_pos rfl,if_pos (by have:=hb rfl;omega)]
      exact j1 _ _
    |false=>rw[if_neg (by simp)];exact j1 _ _
  unfold spec_l1Dec.f;by_cases h:(x.size:Int)>1
  · rw[if_pos h,if_pos (by omega)];exact go _ _ (fun _=>by omega)
  · rw[if_neg h];exact go _ _ (fun h=>by cases h)
theorem l1_up {x:ByteArray} {r:Int×Bool} (h:spec_l1Dec.f 11 x=some r): ∀m,spec_l1Dec.f (11+m) x=some r
  |0=>h
  |m+1=>spec_l1Dec.mono _ _ _ (l1_up h m)
theorem read_up (x:ByteArray): ∀m,spec_ValRead.f (12+m) x=some (readV x)
  |0=>specRead_f x
  |m+1=>spec_ValRead.mono _ _ _ (read_up x m)
theorem form_up (k:Int): ∀m,spec_l2Form.f (3+m) k=some (formL k)
  |0=>form_eq k
  |m+1=>spec_l2Form.mono _ _ _ (form_up k m)
def KindIs (x:ByteArray) (i k:Int):Prop:=(k=0∨(1≤k∧k<i))∧ ∀k0:Int,1≤k0→k0<i→nameB k0=word x 0→k=k0
theorem name_inj {a b:Int} (ha:1≤a∧a≤14) (hb:1≤b∧b≤14) (h:nameB a=nameB b):a=b:=by
  have h1:=(name_facts a ha).2;have h2:=(name_facts b hb).2;unfold nameS at h1 h2;rw[←h1,←h2,h]
theorem inv_kind {x:ByteArray} {k:Int} (h:KindIs x 15 k):Inv x 0 k 0 0 0 0 0:=by
  intro k0 r0 s0 t0 a0 b0 h1 h2;have hp:=opB_true.1 h1;refine⟨h.2 k0 hp.1.1 (by have:=hp.1.2;omega) ?_,by simp,by simp,by simp,by simp,by simp⟩
  have e:=pieces_text h1;rw[h2]at e
  unfold word;rw[e];rfl
theorem loop_names (x:ByteArray) (hp:1≤(piecesB x).length): ∀ (m:Nat) (i K:Int),i=15- (m:Int)→1≤i→KindIs x i K→ ∃K',KindIs x 15 K'∧ ∀j,PT.spec_OpRead.l0 (j+m+1) x (piecesB x) namesL i K 0 0 0 0 0=(spec_l2Form.f j K').bind fun t=>PT.spec_OpRead.l1 j x (piecesB x) t 1 0 K' 0 0 0 0 0
  |0,i,K,hi,h1,hK=>by
    obtain rfl:i=15:=by omega
    refine⟨K,hK,fun j=> ?_⟩
    simp only[PT.spec_OpRead.l0]
    rw[if_neg (by show¬(15:Int)<((15:Nat):Int);omega)]
  |m+1,i,K,hi,h1,hK=>by
    have hw:wrap64 (i+1)=i+1:=by unfold wrap64;omega
    have key: ∀K1:Int,(∀j,PT.spec_OpRead.l0 (j+(m+1)+1) x (piecesB x) namesL i K 0 0 0 0 0=PT.spec_OpRead.l0 (j+m+1) x (piecesB x) namesL (i+1) K1 0 0 0 0 0)→KindIs x (i+1) K1→ ∃K',KindIs x 15 K'∧ ∀j,PT.spec_OpRead.l0 (j+(m+1)+1) x (piecesB x) namesL i K 0 0 0 0 0=(spec_l2Form.f j K').bind fun t=>PT.spec_OpRead.l1 j x (piecesB x) t 1 0 K' 0 0 0 0 0:=fun K1 he hK1=>by
      obtain⟨K',h2,h3⟩:=loop_names x hp m (i+1) K1 (by omega) (by omega) hK1
      exact⟨K',h2,fun j=>by rw[he,h3]⟩
    have hlt:i<(namesL.length:Int):=by show i<((15:Nat):Int);omega
    by_cases hc:nameB i=word x 0
    · refine key i (fun j=> ?_) ⟨.inr ⟨h1,by omega⟩,fun k0 a b c=>name_inj ⟨h1,by omega⟩ ⟨a,by omega⟩ (hc.trans c.symm)⟩
      rw[show j+(m+1)+1=(j+m+1)+1 by omega]
      simp only[PT.spec_OpRead.l0]
      rw[if_pos hlt,if_pos (by omega),if_pos (by omega),if_pos (by
        show(nameB i).toList=_
        rw[hc];rfl),hw]
    · refine key K (fun j=> ?_) ⟨?_,fun k0 a b c=> ?_⟩
      · rw[show j+(m+1)+1=(j+m+1)+1 by omega]
        simp only[PT.spec_OpRead.l0]
        rw[if_pos hlt,if_pos (by omega),if_pos (by omega),if_neg (by
          intro e;rw[toListD,toListD]at e
          exact hc (Go.WideShapes.bytes_inj e)),hw]
      · rcases hK.1 with h|h
        · exact .inl h
        · exact .inr ⟨h.1,by omega⟩
      · by_cases hk:k0=i
        · subst hk;exact absurd c hc
        · exact hK.2 k0 a (by omega) c
def endV (x:ByteArray) (k r s t vk vn:Int):Int×Int×Int×Int×Int×Int×Bool:=if opText k r s t vk vn=x∧opB k r s t vk vn=true then(k,r,s,t,vk,vn,true)else(0,0,0,0,0,0,false)
theorem loop_end (x:ByteArray) (P:List ByteArray) (fs:List Bool) (a i:Int) (k r s t vk vn:Int) (hi: ¬i<(fs.length:Int)) (m:Nat):PT.spec_OpRead.l1 (m+2) x P fs a i k r s t vk vn=some (endV x k r s t vk vn):=by
  simp only[PT.spec_OpRead.l1]
  rw[if_neg hi];unfold endV;by_cases h0:x.toList=[]
  · rw[if_pos h0]
    simp only[PT.spec_OpRead.j2]
    rw[if_pos trivial,if_neg];rintro⟨h1,h2⟩
    rw[←h1]at h0
    exact(opText_ne h2).1 h0
  · rw[if_neg h0,otext_f]
    simp only[Option.bind_some,PT.spec_OpRead.j2]
    by_cases hv:opText k r s t vk vn=x
    · have hb : opB k r s t vk vn = true := by
        cases hb:opB k r s t vk vn with
        |true=>rfl
        |false=>rw[opText_no hb]at hv;exact absurd (by rw[←hv,toListD]) h0
      rw[if_neg (by simp[hv]),if_pos ⟨hv,hb⟩]
    · rw [if_pos (by
        simp only[bne_iff_ne,ne_eq];intro h;rw[toListD,toListD]at h;exact hv (Go.WideShapes.bytes_inj h)),if_neg (fun h=>hv h.1)]
def num (x:ByteArray) (n:Nat):Int:=((spec_l1Dec.f 11 (word x (n+1))).getD (0,false)).1
theorem num_back {x:ByteArray} {n:Nat} {z:Int} (h0: -100<z) (h1:z<100) (h:word x (n+1)=decB z):num x n=z:=by
  unfold num;rw[h];rw[show spec_l1Dec.f 11 (decB z)=some (z,true)from l1_back z h0 h1]
  rfl
theorem loop_skip {x:ByteArray} {K:Int} {n:Nat} {i r s t vk vn:Int} (hf:rdOf false (formL K) i=false) (h0:0≤i) (h4:i<4) (hK:1≤K∧K≤14) (m:Nat):
    PT.spec_OpRead.l1 (m+1) x (piecesB x) (formL K) ((n:Int)+1) i K r s t vk vn=PT.spec_OpRead.l1 m x (piecesB x) (formL K) ((n:Int)+1) (i+1) K r s t vk vn:=by
  have hw:wrap64 (i+1)=i+1:=by unfold wrap64;omega
  have hl:i<((formL K).length:Int):=by unfold formL;rw[if_pos hK];show i<((4:Nat):Int);omega
  simp only[PT.spec_OpRead.l1]
  rw[if_pos hl,if_pos h0,if_neg (by rw[hf];simp),hw]
theorem loop_short {x:ByteArray} {K:Int} {n:Nat} {i r s t vk vn:Int} (hf:rdOf false (formL K) i=true) (h0:0≤i) (h4:i<4) (hK:1≤K∧K≤14) (hs:(piecesB x).length≤n+1) (m:Nat):
    PT.spec_OpRead.l1 (m+1) x (piecesB x) (formL K) ((n:Int)+1) i K r s t vk vn=some (0,0,0,0,0,0,false):=by
  have hl:i<((formL K).length:Int):=by unfold formL;rw[if_pos hK];show i<((4:Nat):Int);omega
  simp only[PT.spec_OpRead.l1]
  rw[if_pos hl,if_pos h0,if_pos hf,if_pos (by omega)]
theorem loop_take {x:ByteArray} {K:Int} {n:Nat} {i r s t vk vn:Int} (hx:(piecesB x).length≤1000) (hf:rdOf false (formL K) i=true) (h0:0≤i) (h4:i<4) (hK:1≤K∧K≤14) (hs: ¬(piecesB x).length≤n+1) (m:Nat):
    PT.spec_OpRead.l1 (m+13) x (piecesB x) (formL K) ((n:Int)+1) i K r s t vk vn=PT.spec_OpRead.l1 (m+12) x (piecesB x) (formL K) (((n+1:Nat):Int)+1) (i+1) K (if i=0 then num x n else r) (if i=1 then num x n else s) (if i=2 then num x n else t) (if i=3 then(readV (word x (n+1))).1 else vk) (if i=3 then(readV (word x (n+1))).2.1 else vn):=by
  have hw:wrap64 (i+1)=i+1:=by unfold wrap64;omega
  have hw2:wrap64 ((n:Int)+1+1)=((n+1:Nat):Int)+1:=by unfold wrap64;omega
  have hl:i<((formL K).length:Int):=by unfold formL;rw[if_pos hK];show i<((4:Nat):Int);omega
  obtain⟨⟨q,ok⟩,hq⟩:=l1_any (word x (n+1))
  have hq1:spec_l1Dec.f (m+12) (word x (n+1))=some (q,ok):=by
    have:=l1_up hq (m+1);rwa [show 11+(m+1)=m+12 by omega]at this
  have hv1:spec_ValRead.f (m+12) (word x (n+1))=some (readV (word x (n+1))):=by
    have:=read_up (word x (n+1)) m;rwa [Nat.add_comm]at this
  have hn:num x n=q:=by unfold num;rw[hq];rfl
  have hr:rdOf ByteArray.empty (piecesB x) ((n:Int)+1)=word x (n+1):=by
    unfold rdOf;rw[show((n:Int)+1).toNat=n+1 by omega]
    rfl
  obtain⟨M,hM⟩: ∃M,M=m+12:=⟨_,rfl⟩;rw[show m+13=(m+12)+1 by omega]
  rw[←hM]at hq1 hv1⊢
  clear hM;simp only[PT.spec_OpRead.l1]
  rw[if_pos hl,if_pos h0,if_pos hf,if_neg (by omega),if_pos (by omega),if_pos (by omega),hr,hq1]
  simp only[Option.bind_some]
  rw[hv1];simp only[Option.bind_some]
  rw[hn,hw,hw2];have h:i=0∨i=1∨i=2∨i=3:=by omega
  rcases h with rfl|rfl|rfl|rfl<;>simp
theorem letter_at {K:Int} (hK:1≤K∧K≤14) {n:Nat} {c:UInt8} {l:List UInt8} (h:(formC K).drop n=c::l): ∃hn:n<(howR K).f1.size,(howR K).f1[n]=c∧(formC K).drop (n+1)=l:=by
  have e:=form_how K;rw[if_pos hK]at e
  have hn:n<(formC K).length:=by
    rcases Nat.lt_or_ge n (formC K).length with h'|h'
    · exact h'
    · rw[List.drop_eq_nil_of_le h']at h;cases h
  have hn':n<(howR K).f1.size:=by
    have:(howR K).f1.data.toList.length=(howR K).f1.size:=by rw[Array.length_toList];rfl
    rw[e]at this;omega
  rw[List.drop_eq_getElem_cons hn]at h
  injection h with h1 h2
  refine⟨hn',?_,h2⟩
  obtain⟨q,hq⟩:=form_at (F:=(howR K).f1) rfl hn' hK;rw[←hq];exact h1
theorem no_letter {K:Int} (hK:1≤K∧K≤14) {n:Nat} (h:(formC K).drop n=[]): ¬n<(howR K).f1.size:=by
  intro hn;obtain⟨q,hq⟩:=form_at (F:=(howR K).f1) rfl hn hK;rw[List.drop_eq_getElem_cons q]at h
  cases h
theorem inv_numS {x:ByteArray} {n:Nat} {k r s t vk vn:Int} (h:Inv x n k r s t vk vn) {c:UInt8} {l:List UInt8} (hK:1≤k∧k≤14) (hc:(formC k).drop n=c::l):
    (c=82→Inv x (n+1) k (num x n) s t vk vn)∧(c=83→Inv x (n+1) k r (num x n) t vk vn)∧(c=84→Inv x (n+1) k r s (num x n) vk vn):=by
  obtain⟨hn,hF, -⟩:=letter_at hK hc;refine⟨fun hc=> ?_,fun hc=> ?_,fun hc=> ?_⟩
  all_goals
    intro k0 r0 s0 t0 a0 b0 h1 h2;obtain⟨rfl,er,es,et,ea,eb⟩:=h _ _ _ _ _ _ h1 h2;have hp:=opB_true.1 h1;obtain⟨hl,hl2⟩:=form_at (F:=(howR k).f1) rfl hn hp.1;obtain⟨-,hw⟩:=word_at h1 h2 hl;rw[hF]at hl2
    rw[hl2,hc]at hw
    rw[hc]at hl2
    have hz: -100<r0∧r0<100∧ -100<s0∧s0<100∧ -100<t0∧t0<100:=by
      obtain⟨_,_,a,b,c,_⟩:=hp;omega
    simp only[take_mem hl,hl2]
    refine⟨by trivial,?_,?_,?_,?_,?_⟩
  · simp only[or_true,if_true]
    exact num_back hz.1 hz.2.1 hw
  · simpa using es
  · simpa using et
  · simpa using ea
  · simpa using eb
  · simpa using er
  · simp only[or_true,if_true]
    exact num_back hz.2.2.1 hz.2.2.2.1 hw
  · simpa using et
  · simpa using ea
  · simpa using eb
  · simpa using er
  · simpa using es
  · simp only[or_true,if_true]
    exact num_back hz.2.2.2.2.1 hz.2.2.2.2.2 hw
  · simpa using ea
  · simpa using eb
def Told (x:ByteArray) (o:Option (Int×Int×Int×Int×Int×Int×Bool)):Prop:= ∃k r s t vk vn ok,o=some (k,r,s,t,vk,vn,ok)∧Reads x k r s t vk vn ok
theorem told_end {x:ByteArray} {P:List ByteArray} {fs:List Bool} {a i k r s t vk vn:Int} (hi: ¬i<(fs.length:Int)) {n:Nat} (h:Inv x n k r s t vk vn) (hn: ¬n<(howR k).f1.size) (m:Nat):Told x (PT.spec_OpRead.l1 (m+2) x P fs a i k r s t vk vn):=by
  rw[loop_end x P fs a i k r s t vk vn hi];unfold endV;split
  · rename_i hc
    exact⟨_,_,_,_,_,_,_,rfl,reads_yes (F:=⟨#[]⟩) (n:=0) hc.2 hc.1⟩
  · rename_i hc
    exact⟨_,_,_,_,_,_,_,rfl,reads_no h rfl hn (fun q=>hc ⟨q.2,q.1⟩)⟩
theorem sg_drop {K:Int} {n:Nat} {b:Bool} {c:UInt8} {l:List UInt8} (h:(formC K).drop n=sg b c++l):(b=false∧(formC K).drop n=l)∨(b=true∧(formC K).drop n=c::l):=by
  cases b with
  |false=>exact .inl ⟨rfl,by simpa[sg]using h⟩
  |true=>exact .inr ⟨rfl,by simpa[sg]using h⟩
theorem field_of {K:Int} (hK:1≤K∧K≤14):rdOf false (formL K) 0=hasR K∧rdOf false (formL K) 1=hasS K∧rdOf false (formL K) 2=hasT K∧rdOf false (formL K) 3=hasV K∧(formL K).length=4:=by
  unfold formL;rw[if_pos hK];exact⟨rfl,rfl,rfl,rfl,rfl⟩
theorem told_short {x:ByteArray} {K:Int} {n:Nat} {i r s t vk vn:Int} {c:UInt8} {l:List UInt8} (h:Inv x n K r s t vk vn) (hf:rdOf false (formL K) i=true) (h0:0≤i) (h4:i<4) (hK:1≤K∧K≤14) (hc:(formC K).drop n=c::l) (hs:(piecesB x).length≤n+1) (m:Nat):
    Told x (PT.spec_OpRead.l1 (m+1) x (piecesB x) (formL K) ((n:Int)+1) i K r s t vk vn):=by
  rw[loop_short hf h0 h4 hK hs];obtain⟨hn, -, -⟩:=letter_at hK hc;exact⟨_,_,_,_,_,_,_,rfl,inv_short h rfl hn hs⟩
theorem told4 {x:ByteArray} {K:Int} (hK:1≤K∧K≤14) {n:Nat} {r s t vk vn:Int} (h:Inv x n K r s t vk vn) (hd:(formC K).drop n=[]) (m:Nat):Told x (PT.spec_OpRead.l1 (m+2) x (piecesB x) (formL K) ((n:Int)+1) 4 K r s t vk vn):=
  told_end (by rw[(field_of hK).2.2.2.2];omega) h (no_letter hK hd) m
theorem told3 {x:ByteArray} (hx:(piecesB x).length≤1000) {K:Int} (hK:1≤K∧K≤14) {n:Nat} {r s t vk vn:Int} (h:Inv x n K r s t vk vn) (hd:(formC K).drop n=sg (hasV K) 86) (m:Nat):Told x (PT.spec_OpRead.l1 (m+13) x (piecesB x) (formL K) ((n:Int)+1) 3 K r s t vk vn):=by
  have hf:=(field_of hK).2.2.2.1;rcases sg_drop (l:=[]) (by rw[List.append_nil];exact hd)with ⟨hb,hd⟩|⟨hb,hd⟩
  · rw[loop_skip (m:=m+12) (by rw[hf];exact hb) (by omega) (by omega) hK]
    exact told4 hK h hd (m+10)
  · by_cases hs:(piecesB x).length≤n+1
    · exact told_short h (by rw[hf];exact hb) (by omega) (by omega) hK hd hs (m+12)
    · rw[loop_take hx (by rw[hf];exact hb) (by omega) (by omega) hK hs]
      obtain⟨hn,hF,hd1⟩:=letter_at hK hd;exact told4 hK (inv_val (ok:=(readV (word x (n+1))).2.2) h rfl hn rfl hF) hd1 (m+10)
theorem told2 {x:ByteArray} (hx:(piecesB x).length≤1000) {K:Int} (hK:1≤K∧K≤14) {n:Nat} {r s t vk vn:Int} (h:Inv x n K r s t vk vn) (hd:(formC K).drop n=sg (hasT K) 84++sg (hasV K) 86) (m:Nat):Told x (PT.spec_OpRead.l1 (m+14) x (piecesB x) (formL K) ((n:Int)+1) 2 K r s t vk vn):=by
  have hf:=(field_of hK).2.2.1;rcases sg_drop hd with ⟨hb,hd⟩|⟨hb,hd⟩
  · rw[loop_skip (m:=m+13) (by rw[hf];exact hb) (by omega) (by omega) hK]
    exact told3 hx hK h hd m
  · by_cases hs:(piecesB x).length≤n+1
    · exact told_short h (by rw[hf];exact hb) (by omega) (by omega) hK hd hs (m+13)
    · rw[loop_take (m:=m+1) hx (by rw[hf];exact hb) (by omega) (by omega) hK hs]
      obtain⟨hn,hF,hd1⟩:=letter_at hK hd;exact told3 hx hK ((inv_numS h hK hd).2.2 rfl) hd1 m
theorem told1 {x:ByteArray} (hx:(piecesB x).length≤1000) {K:Int} (hK:1≤K∧K≤14) {n:Nat} {r s t vk vn:Int} (h:Inv x n K r s t vk vn) (hd:(formC K).drop n=sg (hasS K) 83++(sg (hasT K) 84++sg (hasV K) 86)) (m:Nat):Told x (PT.spec_OpRead.l1 (m+15) x (piecesB x) (formL K) ((n:Int)+1) 1 K r s t vk vn):=by
  have hf:=(field_of hK).2.1;rcases sg_drop hd with ⟨hb,hd⟩|⟨hb,hd⟩
  · rw[loop_skip (m:=m+14) (by rw[hf];exact hb) (by omega) (by omega) hK]
    exact told2 hx hK h hd m
  · by_cases hs:(piecesB x).length≤n+1
    · exact told_short h (by rw[hf];exact hb) (by omega) (by omega) hK hd hs (m+14)
    · rw[loop_take (m:=m+2) hx (by rw[hf];exact hb) (by omega) (by omega) hK hs]
      obtain⟨hn,hF,hd1⟩:=letter_at hK hd;exact told2 hx hK ((inv_numS h hK hd).2.1 rfl) hd1 m
theorem told0 {x:ByteArray} (hx:(piecesB x).length≤1000) {K:Int} (hK:1≤K∧K≤14) {r s t vk vn:Int} (h:Inv x 0 K r s t vk vn) (m:Nat):Told x (PT.spec_OpRead.l1 (m+16) x (piecesB x) (formL K) 1 0 K r s t vk vn):=by
  have hf:=(field_of hK).1;have hd:(formC K).drop 0=sg (hasR K) 82++(sg (hasS K) 83++(sg (hasT K) 84++sg (hasV K) 86)):=rfl;rcases sg_drop hd with ⟨hb,hd⟩|⟨hb,hd⟩
  · have:=loop_skip (x:=x) (n:=0) (r:=r) (s:=s) (t:=t) (vk:=vk) (vn:=vn) (m:=m+15) (i:=0) (by rw[hf];exact hb) (by omega) (by omega) hK
    have e:PT.spec_OpRead.l1 (m+16) x (piecesB x) (formL K) 1 0 K r s t vk vn=PT.spec_OpRead.l1 (m+15) x (piecesB x) (formL K) (((0:Nat):Int)+1) 1 K r s t vk vn:=this;rw[e];exact told1 hx hK h hd m
  · by_cases hs:(piecesB x).length≤0+1
    · exact told_short (n:=0) (i:=0) h (by rw[hf];exact hb) (by omega) (by omega) hK hd hs (m+15)
    · have:=loop_take (n:=0) (r:=r) (s:=s) (t:=t) (vk:=vk) (vn:=vn) (m:=m+3) (i:=0) hx (by rw[hf];exact hb) (by omega) (by omega) hK hs
      obtain⟨hn,hF,hd1⟩:=letter_at hK hd;have h2:=told1 hx hK ((inv_numS h hK hd).1 rfl) hd1 m;have e:PT.spec_OpRead.l1 (m+16) x (piecesB x) (formL K) 1 0 K r s t vk vn=_:=this;rw[e];exact h2
theorem pieces_len (x:ByteArray) (hx:x.size≤24):1≤(piecesB x).length∧(piecesB x).length≤1000:=by
  rw[←cut_pieces];have:=cut_len x 32 x.size;omega
theorem specRead_told (x:ByteArray):Told x (PT.spec_OpRead.f 40 x):=by
  unfold PT.spec_OpRead.f;by_cases h:(x.size:Int)>24
  · rw[if_pos h]
    refine⟨_,_,_,_,_,_,_,rfl,.inr ⟨rfl,⟨rfl,rfl,rfl,rfl,rfl,rfl⟩,fun a b c d f g _ e=> ?_⟩⟩
    have:=opText_le (k:=a) (r:=b) (s:=c) (t:=d) (vk:=f) (vn:=g);rw[e]at this;omega
  · rw[if_neg h]
    obtain⟨h1,h2⟩:=pieces_len x (by omega)
    have e1:cutV.f x 32=some (piecesB x):=by unfold cutV.f;rw[if_pos (by omega),cut_pieces]
    rw[e1];simp only[Option.bind_some]
    rw[show spec_l2Names.f=some namesL from rfl]
    simp only[Option.bind_some]
    obtain⟨K,hK,hl⟩:=loop_names x h1 14 1 0 (by omega) (by omega) ⟨.inl rfl,fun k0 a b=>by omega⟩
    have:=hl 25;rw[show(40:Nat)=25+14+1 from rfl,this]
    have e2:spec_l2Form.f 25 K=some (formL K):=form_up K 22;rw[e2];simp only[Option.bind_some]
    have hI:=inv_kind hK;by_cases h0:1≤K∧K≤14
    · exact told0 h2 h0 hI 9
    · have hK0:K=0:=by rcases hK.1 with h|h<;>omega
      subst hK0;exact told_end (n:=0) (m:=23) (by decide) hI (by decide)
def SpecAns (x:ByteArray) (w:World) (e:Ending) (w':World):Prop:= ∃ (k r s t vk vn:Int) (ok:Bool),e= .returned (.tuple #[.agg #[.int .i64 k,.int .i64 r,.int .i64 s,.int .i64 t,.int .i64 vk,.int .i64 vn],.bool ok])∧Reads x k r s t vk vn ok∧Below w.heap.size w w'
theorem spec_OpRead_any (x:ByteArray) (w:World):Calls Tryd.prog 39 #[.string x] w (SpecAns x w):=by
  obtain⟨k,r,s,t,vk,vn,ok,h1,h2⟩:=specRead_told x;exact(PT.spec_OpRead.calls 40 x k r s t vk vn ok w h1).mono fun e w' ⟨e1,e2⟩=>⟨k,r,s,t,vk,vn,ok,e1,h2,e2⟩
end Go.Proofs.YtmklpbmlgjkbiaaDoor.PS
end
