/- What the rows of BaseC rest on, part 7. -/
import GoSem.ClaimJoined
import Derived.JoinedOf
import Derived.SizedLaws
import Derived.ChangeSlices
import Derived.Test.YtmklpbmlgjkbiaaQBaseC5
set_option linter.unusedVariables false
set_option linter.unusedSimpArgs false
set_option maxHeartbeats 8000000
set_option maxRecDepth 100000
section
namespace Go.Proofs.Ytmklpbmlgjkbiaa.PS
open Go.RowKit Go.Proofs.YtmklpbmlgjkbiaaW.PrintWords Go.Proofs.YtmklpbmlgjkbiaaW.PrintLast
theorem has_free {x s:Int} (hx:0≤x) (hx2:x≤15) (hs:0≤s) (hs2:s≤3):spec_l3Has.f x s=some (!freeB x s):=by
  have:fours (fun x=>fours fun s=>decide (s≤3→spec_l3Has.f x s=some (!freeB x s)))=true:=by decide+kernel
  exact of_decide_eq_true (fours_all (fours_all this hx hx2) hs (by omega)) hs2
theorem l2uses_eq (k r s t vk vn:Int):spec_l2Uses.f 3 k r s t vk vn=some (usesL k r s):=by
  unfold spec_l2Uses.f usesL;by_cases h2:k=2
  · simp[h2]
  by_cases h3:k=3
  · simp[h3,spec_l2Uses.j0]
  by_cases h6:k=6
  · simp[h6,spec_l2Uses.j0]
  by_cases h10:k=10
  · simp[h10,spec_l2Uses.j0,spec_l2Uses.j1]
  by_cases h11:k=11
  · simp[h11,spec_l2Uses.j0,spec_l2Uses.j1]
  by_cases h12:k=12
  · simp[h12,spec_l2Uses.j0,spec_l2Uses.j1]
  by_cases h14:k=14
  · simp[h14,spec_l2Uses.j0,spec_l2Uses.j1]
  simp[h2,h3,h6,h10,h11,h12,h14,spec_l2Uses.j0,spec_l2Uses.j1]
theorem l2uses_ev (k r s t vk vn:Int):Ev (fun n=>spec_l2Uses.f n k r s t vk vn) (usesL k r s):=Ev.of (fun n=>spec_l2Uses.mono k r s t vk vn n) (l2uses_eq k r s t vk vn)
theorem uses_len (k r s:Int):(usesL k r s).length≤2:=by unfold usesL;split<;>(try split)<;>(try split)<;>simp
def restB (l:List S29) (i:Nat):Bool:=(List.range' i (l.length-i)).all (safeAt l)
theorem rest_succ (l:List S29) (i:Nat) (h:i<l.length):restB l i=(safeAt l i&&restB l (i+1)):=by
  unfold restB;rw[show l.length-i=(l.length- (i+1))+1 by omega,List.range'_succ];rfl
theorem ssafe_uses {l:List S29} {j:Nat} (hj:j<l.length) {x:Int} (hx0:0≤x) (hx1:x≤15) (hxe:x=at_ (fullL l) j) (hl:l.length≤16) (hfl:(fullL l).length=l.length) {U:List Int} (hU: ∀s∈U,0≤s∧s≤3) (hU2:U.length≤2) {r:Bool}
    (h:Ev (fun k=>spec_CodeSafe.j2 k l (fullL l) j (!(decide (j+1<l.length)||endsB (rd_T29 l j)))) r) (d:Nat): ∀m,U.length-m=d→m≤U.length→Ev (fun k=>spec_CodeSafe.l1 k l (fullL l) j U (m:Int)) (if(U.drop m).any (freeB x)=true then false else r):=by
  have ex:rd (fullL l) (j:Int)=x:=hxe.symm;induction d with
  |zero=>
    intro m hm hm2;rw[List.drop_of_length_le (by omega)]
    refine Ev.step (fun k=> ?_) h
    simp only[spec_CodeSafe.l1]
    rw[if_neg (by omega),w64 (by omega) (by omega)]
    by_cases hn:j+1<l.length
    · rw[if_neg (by omega),decide_eq_true hn];rfl
    · rw[if_pos (by omega),if_pos (by omega),if_pos (by omega),decide_eq_false hn]
      unfold endsB;by_cases h9:(rd_T29 l (j:Int)).f0=9
      · rw[if_pos h9,decide_eq_true (.inl h9)];rfl
      · rw[if_neg h9]
        by_cases h14:(rd_T29 l (j:Int)).f0=14
        · rw[decide_eq_true (.inr h14)]
          have:((rd_T29 l (j:Int)).f0 !=14)=false:=by simp[h14]
          rw[this];rfl
        · rw[decide_eq_false (by omega)]
          have:((rd_T29 l (j:Int)).f0 !=14)=true:=by simp[h14]
          rw[this];rfl
  |succ d ih=>
    intro m hm hm2;have ih1:=ih (m+1) (by omega) (by omega)
    have d0:U.drop m=U[m]'(by omega)::U.drop (m+1):=List.drop_eq_getElem_cons (by omega)
    have hs:=hU U[m] (List.getElem_mem (by omega))
    have hh:=has_free hx0 hx1 hs.1 hs.2;rw[d0,List.any_cons];cases hf:freeB x (U[m]'(by omega))with
    |true=>
      rw[hf]at hh
      refine ev_eq (Ev.step (f:=fun k=>some false) (fun k=> ?_) (Ev.now _)) rfl
      simp only[spec_CodeSafe.l1]
      rw[if_pos (by omega),if_pos (by omega),if_pos (by rw[hfl];omega),if_pos (by omega),rd_at U m (by omega),ex,hh];rfl
    |false=>
      rw[hf]at hh
      rw[Bool.false_or];refine Ev.step (fun k=> ?_) ih1
      simp only[spec_CodeSafe.l1]
      rw[if_pos (by omega),if_pos (by omega),if_pos (by rw[hfl];omega),if_pos (by omega),rd_at U m (by omega),ex,hh,w64 (by omega) (by omega)];rfl
theorem ssafe_ev {l:List S29} (hc:codeB l=true) (d:Nat): ∀j,l.length-j=d→j≤l.length→Ev (fun k=>spec_CodeSafe.l0 k l (fullL l) (j:Int)) (restB l j):=by
  obtain⟨h1,h2⟩:=code_len hc;have hg:=full_good (wayW_good hc);have hl:(fullL l).length=l.length:=hg.1;induction d with
  |zero=>
    intro j hj hj2;obtain rfl:j=l.length:=by omega
    refine ev_eq (Ev.step (f:=fun k=>some true) (fun k=> ?_) (Ev.now _)) ?_
    · simp only[spec_CodeSafe.l0];rw[if_neg (by omega)]
    · unfold restB;rw[Nat.sub_self];rfl
  |succ d ih=>
    intro j hj hj2;have ih1:=ih (j+1) (by omega) (by omega)
    have hw:wrap64 ((j:Int)+1)=((j+1:Nat):Int):=by rw[w64 (by omega) (by omega)];rfl
    rw[rest_succ l j (by omega)]
    obtain⟨x,hx⟩: ∃x,x=at_ (fullL l) (j:Int):=⟨_,rfl⟩;have ex:rd (fullL l) (j:Int)=x:=hx.symm;have hx15:x≤15:=by rw[hx];exact(at_good hg (j:Int)).2
    by_cases hneg:x<0
    · have hs:safeAt l j=true:=by unfold safeAt;rw[←hx,decide_eq_true hneg];rfl
      rw[hs,Bool.true_and];refine Ev.step (fun k=> ?_) ih1
      simp only[spec_CodeSafe.l0]
      rw[if_pos (by omega),if_pos (by omega),if_pos (by rw[hl];omega),ex,if_pos hneg,hw]
    · obtain⟨y,hy⟩: ∃y,y=rd_T29 l (j:Int):=⟨_,rfl⟩
      have hus:=uses_slots hc (i:=j) (by omega)
      have hS:safeAt l j=((decide (j+1<l.length)||endsB y)&& !((usesL y.f0 y.f1 y.f2).any (freeB x))):=by
        unfold safeAt;rw[←hx,decide_eq_false hneg,Bool.false_or,hy]
      rw[←hy]at hus
      refine Ev.step (f:=fun k=>(spec_l2Uses.f k y.f0 y.f1 y.f2 y.f3 y.f4.f0 y.f4.f1).bind fun t398=>(spec_CodeSafe.l1 k l (fullL l) j t398 0)) (fun k=> ?_) ?_
      · simp only[spec_CodeSafe.l0]
        rw[if_pos (by omega),if_pos (by omega),if_pos (by rw[hl];omega),ex,if_neg hneg,←hy]
      · refine Ev.bind (l2uses_ev _ _ _ _ _ _) ?_
        have hj2':Ev (fun k=>spec_CodeSafe.j2 k l (fullL l) j (!(decide (j+1<l.length)||endsB (rd_T29 l j)))) (if(!(decide (j+1<l.length)||endsB y))=true then false else restB l (j+1)):=by
          rw[←hy];by_cases hb:(!(decide (j+1<l.length)||endsB y))=true
          · rw[if_pos hb]
            refine Ev.step (f:=fun k=>some false) (fun k=> ?_) (Ev.now _)
            simp only[spec_CodeSafe.j2];rw[if_pos hb]
          · rw[if_neg hb]
            refine Ev.step (fun k=> ?_) ih1
            simp only[spec_CodeSafe.j2];rw[if_neg hb,hw]
        have:=ssafe_uses (l:=l) (j:=j) (by omega) (x:=x) (by omega) hx15 hx h2 hl hus (uses_len _ _ _) hj2' _ 0 rfl (by omega)
        refine ev_eq this ?_
        rw[List.drop_zero,hS];cases (usesL y.f0 y.f1 y.f2).any (freeB x)<;>cases (decide (j+1<l.length)||endsB y)<;>simp
theorem scodesafe_ev (l:List S29) (hm:l.length≤9223372036854775807):Ev (fun k=>spec_CodeSafe.f k l) (safeB l):=by
  unfold spec_CodeSafe.f;refine Ev.bind (scode_ev l hm) ?_
  by_cases h:codeB l=true
  · simp only[if_pos h]
    refine Ev.bind (sfull_ev h) ?_
    have:=ssafe_ev h l.length 0 (by omega) (by omega)
    refine ev_eq this ?_
    unfold restB safeB;rw[h,Bool.true_and,Nat.sub_zero,List.range_eq_range']
  · simp only[if_neg h]
    refine ev_eq (Ev.now _) ?_
    unfold safeB;have:codeB l=false:=by simpa using h
    rw[this];rfl
theorem pick_ev {b:List Int} (hb:Bytes b) (p n:Int) (hp:0≤p) (hp':p<1000000) (hn':n<1000000):
    ∃x,Ev (fun k=>spec_l6Rd_pick.f k b p n) (x,p+1)∧0≤x∧(1≤n→x<n)∧(n<1→x=0):=by
  obtain⟨x,h,r⟩:=pick_ok hb 0 p n hp hp' hn';exact⟨x,Ev.of (fun k=>spec_l6Rd_pick.mono b p n k) h,r⟩
theorem op_ev {b:List Int} (hb:Bytes b) (p n:Int) (hp:0≤p) (hp':p<700000) (hn:1≤n) (hn':n≤16):
    ∃x r s t vk vn p',Ev (fun k=>spec_l71Op.f k b p n) (x,r,s,t,vk,vn,p')∧p≤p'∧p'≤p+12:=by
  obtain⟨x,r,s,t,vk,vn,p',h, -,h1,h2⟩:=op_ok hb 0 p n hp hp' hn hn';exact⟨x,r,s,t,vk,vn,p',Ev.of (fun k=>spec_l71Op.mono b p n k) h,h1,h2⟩
theorem any_ev {b:List Int} (hb:Bytes b) (p:Int) (hp:0≤p) (hp':p<600000):
    ∃x r s t vk vn p',Ev (fun k=>spec_l71AnyOp.f k b p) (x,r,s,t,vk,vn,p')∧p≤p'∧p'≤p+20:=by
  obtain⟨x,r,s,t,vk,vn,p',h, -,h1,h2⟩:=any_ok hb 0 p hp hp';exact⟨x,r,s,t,vk,vn,p',Ev.of (fun k=>spec_l71AnyOp.mono b p k) h,h1,h2⟩
theorem random_loop {b:List Int} (hb:Bytes b) (n:Nat) (hn:3≤n) (hn2:n≤10) (d:Nat): ∀ (i:Nat) (L:List S29) (p:Int),n-i=d→i≤n→L.length=i→0≤p→p+12*d<500000→
    ∃c p',Ev (fun k=>spec_l71Random.l0 k (n:Int) L (i:Int) b p) (c,p')∧c.length=n∧p≤p'∧p'≤p+12*d+2:=by
  induction d with
  |zero=>
    intro i L p hd hi hL hp hp';obtain rfl:i=n:=by omega
    obtain⟨x,hx,x0,x1, -⟩:=pick_ev hb p (i:Int) hp (by omega) (by omega)
    obtain⟨y,hy,y0,y1, -⟩:=pick_ev hb (p+1) 3 (by omega) (by omega) (by omega)
    have e1:wrap64 ((i:Int)-1)=((i-1:Nat):Int):=by rw[w64 (by omega) (by omega)];omega
    by_cases hy3:y=0
    · refine⟨L.set (i-1) ⟨14,0,0,0,⟨0,0⟩⟩,p+1+1,?_,by simpa using hL,by omega,by omega⟩
      refine Ev.step (f:=fun k=>(spec_l6Rd_pick.f k b p (i:Int)).bind fun bt421=>((spec_l6Rd_pick.f k b bt421.2 3).bind fun bt424=>(if bt424.1=0 then(if 0≤(wrap64 ((i:Int)-1))then(if(wrap64 ((i:Int)-1))<(L.length:Int)then(some ((L.set ((wrap64 ((i:Int)-1)):Int).toNat (⟨14,0,0,0,(⟨0,0⟩:S27)⟩:S29)),bt424.2))else(none))else(none))else(if 0≤(wrap64 ((i:Int)-1))then(if(wrap64 ((i:Int)-1))<(L.length:Int)then(some ((L.set ((wrap64 ((i:Int)-1)):Int).toNat (⟨9,0,0,bt421.1,(⟨0,0⟩:S27)⟩:S29)),bt424.2))else(none))else(none))))) (fun k=> ?_) ?_
      · simp only[spec_l71Random.l0];rw[if_neg (by omega)]
      · refine Ev.bind hx (Ev.bind hy ?_)
        simp only[if_pos hy3,e1]
        simp only[if_pos (show(0:Int)≤((i-1:Nat):Int) by omega),if_pos (show((i-1:Nat):Int)<(L.length:Int) by omega),Int.toNat_natCast]
        exact Ev.now _
    · refine⟨L.set (i-1) ⟨9,0,0,x,⟨0,0⟩⟩,p+1+1,?_,by simpa using hL,by omega,by omega⟩
      refine Ev.step (f:=fun k=>(spec_l6Rd_pick.f k b p (i:Int)).bind fun bt421=>((spec_l6Rd_pick.f k b bt421.2 3).bind fun bt424=>(if bt424.1=0 then(if 0≤(wrap64 ((i:Int)-1))then(if(wrap64 ((i:Int)-1))<(L.length:Int)then(some ((L.set ((wrap64 ((i:Int)-1)):Int).toNat (⟨14,0,0,0,(⟨0,0⟩:S27)⟩:S29)),bt424.2))else(none))else(none))else(if 0≤(wrap64 ((i:Int)-1))then(if(wrap64 ((i:Int)-1))<(L.length:Int)then(some ((L.set ((wrap64 ((i:Int)-1)):Int).toNat (⟨9,0,0,bt421.1,(⟨0,0⟩:S27)⟩:S29)),bt424.2))else(none))else(none))))) (fun k=> ?_) ?_
      · simp only[spec_l71Random.l0];rw[if_neg (by omega)]
      · refine Ev.bind hx (Ev.bind hy ?_)
        simp only[if_neg hy3,e1]
        simp only[if_pos (show(0:Int)≤((i-1:Nat):Int) by omega),if_pos (show((i-1:Nat):Int)<(L.length:Int) by omega),Int.toNat_natCast]
        exact Ev.now _
  |succ d ih=>
    intro i L p hd hi hL hp hp';obtain⟨x,r,s,t,vk,vn,p1,ho,h1,h2⟩:=op_ev hb p (n:Int) hp (by omega) (by omega) (by omega)
    obtain⟨c,p',hc,hl,h3,h4⟩:=ih (i+1) (L++ [⟨x,r,s,t,⟨vk,vn⟩⟩]) p1 (by omega) (by omega) (by simp[hL]) (by omega) (by omega)
    refine⟨c,p',?_,hl,by omega,by omega⟩
    refine Ev.step (f:=fun k=>(spec_l71Op.f k b p (n:Int)).bind fun bt411=>(if L.length<2932031007402 then(spec_l71Random.l0 k (n:Int) (L++ [(⟨bt411.1,bt411.2.1,bt411.2.2.1,bt411.2.2.2.1,(⟨bt411.2.2.2.2.1,bt411.2.2.2.2.2.1⟩:S27)⟩:S29)]) ((i+1:Nat):Int) b bt411.2.2.2.2.2.2)else(none))) (fun k=> ?_) ?_
    · simp only[spec_l71Random.l0];rw[if_pos (by omega),w64 (by omega) (by omega)];rfl
    · refine Ev.bind ho ?_
      simp only[if_pos (show L.length<2932031007402 by omega)]
      exact hc
theorem random_ev {b:List Int} (hb:Bytes b) (p:Int) (hp:0≤p) (hp':p<400000): ∃c p',Ev (fun k=>spec_l71Random.f k b p) (c,p')∧1≤c.length∧c.length≤10∧p≤p'∧p'≤p+200:=by
  obtain⟨x,hx,x0,x1, -⟩:=pick_ev hb p 8 hp (by omega) (by omega)
  have x1:=x1 (by omega)
  obtain⟨m,rfl⟩:=Int.eq_ofNat_of_zero_le x0;obtain⟨c,p',hc,hl,h3,h4⟩:=random_loop hb (3+m) (by omega) (by omega) (3+m) 0 [] (p+1) (by omega) (by omega) rfl (by omega) (by omega)
  refine⟨c,p',?_,by omega,by omega,by omega,by omega⟩
  unfold spec_l71Random.f;refine Ev.bind hx ?_
  have e:wrap64 (3+(m:Int))=((3+m:Nat):Int):=by rw[w64 (by omega) (by omega)];omega
  simp only[e]
  exact hc
def textsL:List ByteArray:=(spec_l71Texts.f).getD []
theorem texts_eq:spec_l71Texts.f=some textsL:=rfl
theorem texts_all:(textsL.all fun t=>(spec_CodeRead.f 80 t).map (fun p=>decide (1≤p.1.length∧p.1.length≤16))==some true)=true:=by decide+kernel
theorem texts_len:textsL.length=5:=by decide+kernel
theorem read_ev {t:ByteArray} (h:t∈textsL): ∃c ok,Ev (fun k=>spec_CodeRead.f k t) (c,ok)∧1≤c.length∧c.length≤16:=by
  have h1:=List.all_eq_true.1 texts_all t h;have h2:=eq_of_beq h1;obtain⟨⟨c,ok⟩,h3,h4⟩:=Option.map_eq_some_iff.1 h2;have h5:=of_decide_eq_true h4;exact⟨c,ok,Ev.of (fun k=>spec_CodeRead.mono t k) h3,h5.1,h5.2⟩
theorem of_ev {b:List Int} (hb:Bytes b) (p:Int) (hp:0≤p) (hp':p<900000): ∃t,Ev (fun k=>spec_l6Rd_of.f k b p textsL) (t,p+1)∧t∈textsL:=by
  have hl:=texts_len;obtain⟨x,hx,x0,x1, -⟩:=pick_ev hb p (textsL.length:Int) hp (by omega) (by omega)
  have x1:=x1 (by omega)
  refine⟨rdOf ByteArray.empty textsL x,?_,?_⟩
  · unfold spec_l6Rd_of.f
    refine Ev.bind hx ?_
    simp only[if_pos x0,if_pos x1]
    exact Ev.now _
  · unfold rdOf
    rw[List.getD_eq_getElem?_getD,List.getElem?_eq_getElem (by omega)]
    exact List.getElem_mem _
theorem safe_loop {b:List Int} (hb:Bytes b) (d:Nat): ∀ (i:Nat) (c:List S29) (p:Int),4-i=d→i≤4→1≤c.length→c.length≤16→0≤p→p+20*d<600000→
    ∃c' p',Ev (fun k=>spec_l71Safe.l1 k c (i:Int) b p) (c',p')∧1≤c'.length∧c'.length≤16∧p≤p'∧p'≤p+20*d:=by
  induction d with
  |zero=>
    intro i c p hd hi h1 h2 hp hp';refine⟨c,p,Ev.step (f:=fun k=>some (c,p)) (fun k=> ?_) (Ev.now _),h1,h2,by omega,by omega⟩
    simp only[spec_l71Safe.l1];rw[if_neg (by omega)]
  |succ d ih=>
    intro i c p hd hi h1 h2 hp hp';obtain⟨x,hx,x0,x1, -⟩:=pick_ev hb p (c.length:Int) hp (by omega) (by omega)
    have x1:=x1 (by omega)
    obtain⟨a,r,s,t,vk,vn,p1,ho,q0,q1⟩:=op_ev hb (p+1) (c.length:Int) (by omega) (by omega) (by omega) (by omega)
    obtain⟨y,hy⟩: ∃y,y=c.set x.toNat ⟨a,r,s,t,⟨vk,vn⟩⟩:=⟨_,rfl⟩;have hyl:y.length=c.length:=by rw[hy];simp
    have hs:=scodesafe_ev y (by omega)
    have ew:wrap64 ((i:Int)+1)=((i+1:Nat):Int):=by rw[w64 (by omega) (by omega)];rfl
    have top: ∀ {res:List S29×Int},Ev (fun k=>if safeB y=true then((spec_l6Rd_pick.f k b p1 2).bind fun bt497=>(spec_l71Safe.j2 k c (i:Int) y (bt497.1==0) b bt497.2))else(spec_l71Safe.j2 k c (i:Int) y false b p1)) res→Ev (fun k=>spec_l71Safe.l1 k c (i:Int) b p) res:=fun {res} h=>by
      refine Ev.step (f:=fun k=>(spec_l6Rd_pick.f k b p (c.length:Int)).bind fun bt486=>((spec_l71Op.f k b bt486.2 (c.length:Int)).bind fun bt488=>(if 0≤bt486.1 then(if bt486.1<(c.length:Int)then((some (c.set (bt486.1:Int).toNat (⟨bt488.1,bt488.2.1,bt488.2.2.1,bt488.2.2.2.1,(⟨bt488.2.2.2.2.1,bt488.2.2.2.2.2.1⟩:S27)⟩:S29):List (S29))).bind fun y495=>((spec_CodeSafe.f k y495).bind fun t496=>(if t496=true then((spec_l6Rd_pick.f k b bt488.2.2.2.2.2.2 2).bind fun bt497=>(spec_l71Safe.j2 k c (i:Int) y495 (bt497.1==0) b bt497.2))else(spec_l71Safe.j2 k c (i:Int) y495 false b bt488.2.2.2.2.2.2))))else(none))else(none)))) (fun k=> ?_) ?_
      · simp only[spec_l71Safe.l1,List.nil_append,Option.bind_some,List.length_nil,Nat.zero_add]
        rw[if_pos (by omega),if_pos (by omega)]
      · refine Ev.bind hx (Ev.bind ho ?_)
        simp only[if_pos x0,if_pos x1,Option.bind_some,←hy]
        exact Ev.bind hs h
    have goOn: ∀ (z:List S29) (p2:Int),1≤z.length→z.length≤16→p≤p2→p2≤p+20→ ∃c' p',Ev (fun k=>spec_l71Safe.l1 k z ((i+1:Nat):Int) b p2) (c',p')∧1≤c'.length∧c'.length≤16∧p≤p'∧p'≤p+20*(d+1:Nat):=fun z p2 z1 z2 g1 g2=>by
      obtain⟨c',p',h,l1,l2,l3,l4⟩:=ih (i+1) z p2 (by omega) (by omega) z1 z2 (by omega) (by omega)
      exact⟨c',p',h,l1,l2,by omega,by omega⟩
    by_cases hsf:safeB y=true
    · obtain⟨u,hu,u0,u1, -⟩:=pick_ev hb p1 2 (by omega) (by omega) (by omega)
      by_cases hu0:u=0
      · obtain⟨c',p',h,l⟩:=goOn y (p1+1) (by omega) (by omega) (by omega) (by omega)
        refine⟨c',p',top ?_,l⟩
        simp only[if_pos hsf]
        refine Ev.bind hu ?_
        refine Ev.step (fun k=> ?_) h
        simp only[spec_l71Safe.j2,ew]
        rw[if_pos (by simp[hu0])]
      · obtain⟨c',p',h,l⟩:=goOn c (p1+1) (by omega) (by omega) (by omega) (by omega)
        refine⟨c',p',top ?_,l⟩
        simp only[if_pos hsf]
        refine Ev.bind hu ?_
        refine Ev.step (fun k=> ?_) h
        simp only[spec_l71Safe.j2,ew]
        rw[if_neg (by simp[hu0])]
    · obtain⟨c',p',h,l⟩:=goOn c p1 (by omega) (by omega) (by omega) (by omega)
      refine⟨c',p',top ?_,l⟩
      simp only[if_neg hsf]
      refine Ev.step (fun k=> ?_) h
      simp only[spec_l71Safe.j2,ew]
      rw[if_neg (by decide)]
theorem safe_tries {b:List Int} (hb:Bytes b) (d:Nat): ∀ (i:Nat) (p:Int),3-i=d→i≤3→0≤p→p+300*d<300000→
    ∃c' p',Ev (fun k=>spec_l71Safe.l0 k (i:Int) b p) (c',p')∧1≤c'.length∧c'.length≤16∧p≤p'∧p'≤p+300*d+100:=by
  induction d with
  |zero=>
    intro i p hd hi hp hp';obtain⟨t,ht,hm⟩:=of_ev hb p hp (by omega)
    obtain⟨c,ok,hc,c1,c2⟩:=read_ev hm;obtain⟨c',p',h,l1,l2,l3,l4⟩:=safe_loop hb 4 0 c (p+1) rfl (by omega) c1 c2 (by omega) (by omega)
    refine⟨c',p',?_,l1,l2,by omega,by omega⟩
    refine Ev.step (f:=fun k=>(spec_l71Texts.f).bind fun t471=>((spec_l6Rd_of.f k b p t471).bind fun bt474=>((spec_CodeRead.f k bt474.1).bind fun bt476=>(spec_l71Safe.l1 k bt476.1 0 b bt474.2)))) (fun k=> ?_) ?_
    · simp only[spec_l71Safe.l0];rw[if_neg (by omega)]
    · rw[texts_eq]
      simp only[Option.bind_some]
      exact Ev.bind ht (Ev.bind hc h)
  |succ d ih=>
    intro i p hd hi hp hp';obtain⟨c,p1,hc,c1,c2,c3,c4⟩:=random_ev hb p hp (by omega)
    have hs:=scodesafe_ev c (by omega)
    have ew:wrap64 ((i:Int)+1)=((i+1:Nat):Int):=by rw[w64 (by omega) (by omega)];rfl
    have top: ∀ {res:List S29×Int},Ev (fun k=>if safeB c=true then(some (c,p1))else(spec_l71Safe.l0 k ((i+1:Nat):Int) b p1)) res→Ev (fun k=>spec_l71Safe.l0 k (i:Int) b p) res:=fun {res} h=>by
      refine Ev.step (f:=fun k=>(spec_l71Random.f k b p).bind fun bt466=>((spec_CodeSafe.f k bt466.1).bind fun t470=>(if t470=true then(some (bt466.1,bt466.2))else(spec_l71Safe.l0 k ((i+1:Nat):Int) b bt466.2)))) (fun k=> ?_) ?_
      · simp only[spec_l71Safe.l0,ew];rw[if_pos (by omega)]
      · exact Ev.bind hc (Ev.bind hs h)
    by_cases hsf:safeB c=true
    · refine⟨c,p1,top ?_,c1,by omega,by omega,by omega⟩
      simp only[if_pos hsf];exact Ev.now _
    · obtain⟨c',p',h,l1,l2,l3,l4⟩:=ih (i+1) p1 (by omega) (by omega) (by omega) (by omega)
      refine⟨c',p',top ?_,l1,l2,by omega,by omega⟩
      simp only[if_neg hsf];exact h
theorem safe_ev {b:List Int} (hb:Bytes b) (p:Int) (hp:0≤p) (hp':p<200000): ∃c p',Ev (fun k=>spec_l71Safe.f k b p) (c,p')∧1≤c.length∧c.length≤16∧p≤p'∧p'≤p+1000:=by
  obtain⟨c',p',h,l1,l2,l3,l4⟩:=safe_tries hb 3 0 p rfl (by omega) hp (by omega)
  exact⟨c',p',h,l1,l2,by omega,by omega⟩
theorem fill_loop {b:List Int} (hb:Bytes b) (d:Nat): ∀ (c:List S29) (p:Int),17-c.length=d→c.length≤17→0≤p→p+d<300000→
    ∃c' p',Ev (fun k=>spec_l71Code.l0 k c b p) (c',p')∧c'.length≤17∧p≤p'∧p'≤p+d+1:=by
  induction d with
  |zero=>
    intro c p hd hl hp hp';obtain⟨x,hx,x0,x1, -⟩:=pick_ev hb p 2 hp (by omega) (by omega)
    have x1:=x1 (by omega)
    have e:wrap64 (16+x)=16+x:=w64 (by omega) (by omega)
    refine⟨c,p+1,?_,hl,by omega,by omega⟩
    refine Ev.step (f:=fun k=>(spec_l6Rd_pick.f k b p 2).bind fun bt524=>(if(c.length:Int)<(wrap64 (16+bt524.1))then(if c.length<2932031007402 then(spec_l71Code.l0 k (c++ [(⟨14,0,0,0,(⟨0,0⟩:S27)⟩:S29)]) b bt524.2)else(none))else(some (c,bt524.2)))) (fun k=>by simp only[spec_l71Code.l0]) ?_
    refine Ev.bind hx ?_
    simp only[e,if_neg (show¬(c.length:Int)<16+x by omega)]
    exact Ev.now _
  |succ d ih=>
    intro c p hd hl hp hp';obtain⟨x,hx,x0,x1, -⟩:=pick_ev hb p 2 hp (by omega) (by omega)
    have x1:=x1 (by omega)
    have e:wrap64 (16+x)=16+x:=w64 (by omega) (by omega)
    have top: ∀ {res:List S29×Int},Ev (fun k=>if(c.length:Int)<16+x then(if c.length<2932031007402 then(spec_l71Code.l0 k (c++ [(⟨14,0,0,0,(⟨0,0⟩:S27)⟩:S29)]) b (p+1))else(none))else(some (c,p+1))) res→Ev (fun k=>spec_l71Code.l0 k c b p) res:=fun {res} h=>by
      refine Ev.step (f:=fun k=>(spec_l6Rd_pick.f k b p 2).bind fun bt524=>(if(c.length:Int)<(wrap64 (16+bt524.1))then(if c.length<2932031007402 then(spec_l71Code.l0 k (c++ [(⟨14,0,0,0,(⟨0,0⟩:S27)⟩:S29)]) b bt524.2)else(none))else(some (c,bt524.2)))) (fun k=>by simp only[spec_l71Code.l0]) ?_
      refine Ev.bind hx ?_
      simp only[e];exact h
    by_cases hlt:(c.length:Int)<16+x
    · obtain⟨c',p',h,l1,l2,l3⟩:=ih (c++ [⟨14,0,0,0,⟨0,0⟩⟩]) (p+1) (by simp;omega) (by simp;omega) (by omega) (by omega)
      refine⟨c',p',top ?_,l1,by omega,by omega⟩
      simp only[if_pos hlt,if_pos (show c.length<2932031007402 by omega)]
      exact h
    · refine⟨c,p+1,top ?_,hl,by omega,by omega⟩
      simp only[if_neg hlt];exact Ev.now _
theorem code_ev {b:List Int} (hb:Bytes b) (p:Int) (hp:0≤p) (hp':p<100000): ∃c p',Ev (fun k=>spec_l71Code.f k b p) (c,p')∧c.length≤17∧p≤p'∧p'≤p+1500:=by
  obtain⟨c,p1,hc,c1,c2,c3,c4⟩:=safe_ev hb p hp (by omega)
  obtain⟨x,hx,x0,x1, -⟩:=pick_ev hb p1 12 (by omega) (by omega) (by omega)
  have top: ∀ {res:List S29×Int},Ev (fun k=>if x=0 then((spec_l71Random.f k b (p1+1)).bind fun bt505=>(some (bt505.1,bt505.2)))else(if x=1 then((spec_l6Rd_pick.f k b (p1+1) (c.length:Int)).bind fun bt509=>((spec_l71AnyOp.f k b bt509.2).bind fun bt511=>(if 0≤bt509.1 then(if bt509.1<(c.length:Int)then(some ((c.set (bt509.1:Int).toNat (⟨bt511.1,bt511.2.1,bt511.2.2.1,bt511.2.2.2.1,(⟨bt511.2.2.2.2.1,bt511.2.2.2.2.2.1⟩:S27)⟩:S29)),bt511.2.2.2.2.2.2))else(none))else(none))))else(if x=2 then((spec_l6Rd_pick.f k b (p1+1) (wrap64 ((c.length:Int)+1))).bind fun bt519=>(if 0≤bt519.1 then(if bt519.1≤(c.length:Int)then(some ((c.take (bt519.1:Int).toNat),bt519.2))else(none))else(none)))else(if x=3 then(spec_l71Code.l0 k c b (p1+1))else(some (c,p1+1)))))) res→Ev (fun k=>spec_l71Code.f k b p) res:=fun {res} h=>by
    unfold spec_l71Code.f;exact Ev.bind hc (Ev.bind hx h)
  by_cases h0:x=0
  · obtain⟨c',p',h,l1,l2,l3,l4⟩:=random_ev hb (p1+1) (by omega) (by omega)
    refine⟨c',p',top ?_,by omega,by omega,by omega⟩
    simp only[if_pos h0]
    exact Ev.bind h (Ev.now _)
  by_cases h1:x=1
  · obtain⟨y,hy,y0,y1, -⟩:=pick_ev hb (p1+1) (c.length:Int) (by omega) (by omega) (by omega)
    have y1:=y1 (by omega)
    obtain⟨a,r,s,t,vk,vn,p2,ho,q0,q1⟩:=any_ev hb (p1+1+1) (by omega) (by omega)
    refine⟨c.set y.toNat ⟨a,r,s,t,⟨vk,vn⟩⟩,p2,top ?_,by simp;omega,by omega,by omega⟩
    simp only[if_neg h0,if_pos h1]
    refine Ev.bind hy (Ev.bind ho ?_)
    simp only[if_pos y0,if_pos y1]
    exact Ev.now _
  by_cases h2:x=2
  · have e:wrap64 ((c.length:Int)+1)=(c.length:Int)+1:=w64 (by omega) (by omega)
    obtain⟨y,hy,y0,y1, -⟩:=pick_ev hb (p1+1) ((c.length:Int)+1) (by omega) (by omega) (by omega)
    have y1:=y1 (by omega)
    refine⟨c.take y.toNat,p1+1+1,top ?_,by simp;omega,by omega,by omega⟩
    simp only[if_neg h0,if_neg h1,if_pos h2,e]
    refine Ev.bind hy ?_
    simp only[if_pos y0,if_pos (show y≤(c.length:Int) by omega)]
    exact Ev.now _
  by_cases h3:x=3
  · obtain⟨c',p',h,l1,l2,l3⟩:=fill_loop hb (17-c.length) c (p1+1) rfl (by omega) (by omega) (by omega)
    refine⟨c',p',top ?_,l1,by omega,by omega⟩
    simp only[if_neg h0,if_neg h1,if_neg h2,if_pos h3]
    exact h
  · refine⟨c,p1+1,top ?_,by omega,by omega,by omega⟩
    simp only[if_neg h0,if_neg h1,if_neg h2,if_neg h3]
    exact Ev.now _
theorem drawSafe_ev {l:List Int} (hw: ∀x∈l,(Lit.int .u8 x).wf=true): ∃c,Ev (fun k=>spec_DrawCodeSafe.f k l) c∧c.length≤17:=by
  obtain⟨b,hb,hB⟩:=open_ok hw;obtain⟨x,hx,x0,x1, -⟩:=pick_ev hB 0 3 (by omega) (by omega) (by omega)
  by_cases h0:x=0
  · obtain⟨c,p,hc,hl,hl2, -⟩:=random_ev hB (0+1) (by omega) (by omega)
    refine⟨c,?_,by omega⟩
    unfold spec_DrawCodeSafe.f;rw[hb];simp only[Option.bind_some]
    refine Ev.bind hx ?_
    simp only[if_pos h0]
    exact Ev.bind hc (Ev.now _)
  · obtain⟨c,p,hc,hl, -⟩:=code_ev hB (0+1) (by omega) (by omega)
    refine⟨c,?_,by omega⟩
    unfold spec_DrawCodeSafe.f;rw[hb];simp only[Option.bind_some]
    refine Ev.bind hx ?_
    simp only[if_neg h0]
    exact Ev.bind hc (Ev.now _)
theorem drawReach_ev {l:List Int} (hw: ∀x∈l,(Lit.int .u8 x).wf=true): ∃c,Ev (fun k=>spec_DrawCodeReach.f k l) c∧c.length≤17:=by
  obtain⟨c,hc,hl⟩:=drawSafe_ev hw;refine⟨c,?_,hl⟩
  unfold spec_DrawCodeReach.f;exact Ev.bind hc (Ev.now _)
theorem lvInts_ev (l0 l1:List Int) (hm:l0.length≤9223372036854775807):Ev (fun k=>laws_lvInts.f k l0 l1) (decide (l0=l1)):=by
  by_cases hl:l0.length=l1.length
  · have key : ∀ d i, l0.length - i = d → i ≤ l0.length → Ev (fun k => laws_lvInts.l0 k l0 l1 (i : Int)) (decide (l0.drop i = l1.drop i)) := by
      intro d;induction d with
      |zero=>
        intro i hd hi;refine ev_eq (Ev.step (f:=fun k=>some true) (fun k=> ?_) (Ev.now _)) ?_
        · simp only[laws_lvInts.l0];rw[if_neg (by omega)]
        · rw[List.drop_of_length_le (by omega),List.drop_of_length_le (by omega)];simp
      |succ d ih=>
        intro i hd hi;have ih1:=ih (i+1) (by omega) (by omega)
        have d0:l0.drop i=l0[i]'(by omega)::l0.drop (i+1):=List.drop_eq_getElem_cons (by omega)
        have d1:l1.drop i=l1[i]'(by omega)::l1.drop (i+1):=List.drop_eq_getElem_cons (by omega)
        by_cases he:l0[i]'(by omega)=l1[i]'(by omega)
        · refine ev_eq (Ev.step (fun k=> ?_) ih1) ?_
          · simp only[laws_lvInts.l0];rw[if_pos (by omega),if_pos (by omega),if_pos (by omega),rd_at l0 i (by omega),rd_at l1 i (by omega),if_pos he,w64 (by omega) (by omega)];rfl
          · rw[d0,d1,he]
            exact decide_eq_decide.2 ⟨fun h=>by rw[h],fun h=>(List.cons.inj h).2⟩
        · refine ev_eq (Ev.step (f:=fun k=>some false) (fun k=> ?_) (Ev.now _)) ?_
          · simp only[laws_lvInts.l0];rw[if_pos (by omega),if_pos (by omega),if_pos (by omega),rd_at l0 i (by omega),rd_at l1 i (by omega),if_neg he]
          · rw[d0,d1];exact(decide_eq_false (fun h=>he (List.cons.inj h).1)).symm
    have:=key l0.length 0 (by omega) (by omega)
    refine Ev.congr (fun k=> ?_) (ev_eq this (by simp))
    unfold laws_lvInts.f;rw[if_pos (by omega)];rfl
  · refine ev_eq (Ev.congr (f:=fun k=>some false) (fun k=> ?_) (Ev.now _)) ?_
    · unfold laws_lvInts.f;rw[if_neg (by omega)]
    · symm;exact decide_eq_false (fun h=>hl (by rw[h]))
theorem lvInts_same (l:List Int) (hm:l.length≤9223372036854775807):Ev (fun k=>laws_lvInts.f k l l) true:=ev_eq (lvInts_ev l l hm) (by simp)
theorem reach_head (l:List S29) (h:0≤at_ (fullL l) 0): ∀j,∃t,reachTo l (j+1)=0::t
  |0=>⟨[],by rw[reach_succ];rw[if_pos (by exact h)];rfl⟩
  |j+1=>by
    obtain⟨t,ht⟩:=reach_head l h j;rw[reach_succ,ht];split
    · exact⟨t++ [_],rfl⟩
    · exact⟨t,rfl⟩
theorem reach_in {l:List S29} {x:Int} (h:x∈reachL l):0≤x∧x<l.length:=by
  unfold reachL reachTo at h;obtain⟨a,ha,rfl⟩:=List.mem_map.1 h;have:=(List.mem_filter.1 ha).1;simp at this;omega
end Go.Proofs.Ytmklpbmlgjkbiaa.PS
end
section
namespace Go.Proofs.Ytmklpbmlgjkbiaa.Facts
theorem headIs {ws:List (List Char)} {c:List Char} (h:(behindMainWord ws).head?=some c): ∃rest,behindMainWord ws=c::rest:=by
  cases hb:behindMainWord ws with
  |nil=>rw[hb]at h;cases h
  |cons a r=>rw[hb]at h;cases h;exact⟨r,rfl⟩
theorem signs {s:String} {l:List Char} {c:List Char} (h:s=String.ofList l) (k:(behindMainWord (wordsSigns l)).head?=some c): ∃rest,behindMainWord (wordsSigns s.toList)=c::rest:=by
  subst h;rw[String.toList_ofList];exact headIs k
theorem cutHead: ∃rest,behindMainWord (wordsSigns Try.prog.initOrder.toList)= "cut".toList::rest:=by
  show∃rest,behindMainWord (wordsSigns Try.progTables.initOrder.toList)= "cut".toList::rest
  unfold Try.progTables;exact signs rfl (by kernel_rfl)
theorem noLifts (rest:List (List Char)):stripLifts liftWords ("cut".toList::rest)=([], "cut".toList::rest):=by kernel_rfl
theorem made_of {P:Program} {rest:List (List Char)} (h:behindMainWord (wordsSigns P.initOrder.toList)= "cut".toList::rest):P.make=some .cut:=by
  unfold Program.make;rw[h];kernel_rfl
theorem may_of {P:Program} {rest:List (List Char)} (h:behindMainWord (wordsSigns P.initOrder.toList)= "cut".toList::rest)
    (h1:P.laysLater=false) (h2:P.bearsReflect=false) (h3:P.doorFits []=true):P.mayEnter=true:=by
  unfold Program.mayEnter;rw[h];simp only[noLifts,h1,h2,h3]
  kernel_rfl
theorem lifts_of {P:Program} {rest:List (List Char)} (h:behindMainWord (wordsSigns P.initOrder.toList)= "cut".toList::rest):P.liftsFinal=false:=by
  unfold Program.liftsFinal Program.headLifts;rw[h];kernel_rfl
theorem may:Try.prog.mayEnter=true:=by
  obtain⟨rest,h⟩:=cutHead;exact may_of h (by kernel_rfl) (by kernel_rfl) (by kernel_rfl)
theorem lifts:Try.prog.liftsFinal=false:=by
  obtain⟨rest,h⟩:=cutHead;exact lifts_of h
theorem made:Try.prog.make=some Make.cut:=by
  obtain⟨rest,h⟩:=cutHead;exact made_of h
theorem band {a b:Bool} (ha:a=true) (hb:b=true):(a&&b)=true:=by rw[ha,hb];rfl
theorem flifts {b:Bool} (h:(b==false)=true):(b==Try.prog.liftsFinal)=true:=by rw[lifts];exact h
theorem fmade {m:Make} (h:(some Make.cut==some m)=true):(Try.prog.make==some m)=true:=by rw[made];exact h
end Go.Proofs.Ytmklpbmlgjkbiaa.Facts
end
section
namespace Go.Proofs.YtmklpbmlgjkbiaaW.PrintWords
open Go.ChangeShapes Go.WideShapes
theorem sized_ints {H:Type} {enc:TypeId×Value→H} {P:Program} {W:World} {base:Nat} {spare:Nat→Bool} {held:Bool} {t e:TypeId} {k:IntKind} {a:Option Addr} {len cap:Nat} {d:DataW H} {ps:List MemPlace} {ts:List TypeId} {ds:List (DataW H)} {j:Nat}
    (hsz:(DataW.weightsEach P ts ds).all (· ≤reachBytes)=true) (ht:ts[j]?=some t) (hd:ds[j]?=some d) (hu:P.underlying t=some (.slice e)) (he:P.underlying e=some (.int k)) (hc:P.cellsOf e=1) {B:Nat} (hB:P.bytesOf e=B)
    (h:DataW.Trod enc P W base spare held t (.slice a len cap) d ps):len*B≤140737488351232:=by
  obtain⟨fuel,hf⟩:=h;rcases open_ints hu he hc hf with ⟨hcs,_⟩|⟨x,l,c,zs,hcs,_,hl,_,hz,hx,_,_⟩
  · simp[Value.cells]at hcs
    obtain⟨rfl,rfl,rfl⟩:=hcs;simp
  · simp[Value.cells]at hcs
    obtain⟨rfl,rfl,rfl⟩:=hcs;obtain⟨hx,_⟩:=Prod.mk.inj hx;subst hx;have z:=sized_slice hsz ht hd hu;rw[hB]at z
    have hl2:len≤zs.length:=by
      rw[hz];split
      · exact hl
      · exact Nat.le_refl _
    have h1:(lits (H:=H) k (zs.take len)).length+(lits (H:=H) k (zs.drop len)).length=zs.length:=by
      simp[lits]
      omega
    rw[h1]at z
    exact Nat.le_trans (Nat.mul_le_mul_right _ hl2) z
end Go.Proofs.YtmklpbmlgjkbiaaW.PrintWords
end
