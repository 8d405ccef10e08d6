/- What the rows of CRB rest on, part 6. -/

import Derived.Test.YtmklpbmlgjkbiaaGreatDoorQCRB4
set_option linter.unusedVariables false
set_option linter.unusedSimpArgs false
set_option maxHeartbeats 8000000
set_option maxRecDepth 100000
section
namespace Go.Proofs.YtmklpbmlgjkbiaaGreatDoor.PS
open Go.RowKit Go.Proofs.YtmklpbmlgjkbiaaGreatDoorW.PrintWords Go.Proofs.YtmklpbmlgjkbiaaGreatDoorW.PrintLast
def setQ (x:S39) (q:Nat) (y:Int):S39:=
  match q with
  |0=>⟨y,x.f1,x.f2,x.f3,x.f4⟩
  |1=>⟨x.f0,y,x.f2,x.f3,x.f4⟩
  |2=>⟨x.f0,x.f1,y,x.f3,x.f4⟩
  |3=>⟨x.f0,x.f1,x.f2,y,x.f4⟩
  |4=>⟨x.f0,x.f1,x.f2,x.f3,⟨y,x.f4.f1⟩⟩
  |_=>⟨x.f0,x.f1,x.f2,x.f3,⟨x.f4.f0,y⟩⟩
def cells39 (x:S39):List Value:=[.int .i64 x.f0,.int .i64 x.f1,.int .i64 x.f2,.int .i64 x.f3,.int .i64 x.f4.f0,.int .i64 x.f4.f1]
theorem store29 {ops:Array Oper} {rest:List Oper} {o:Oper} {a:Act} {Q:Exit→Act→World→Prop} {w0 W:World} (base:Nat) (hN:o.dst=none) (hgd:o.guard=none) (p x:Operand) (ho:o.op= .store 3 p x)
    {g n cap o':Nat} (pre post:List S39) (cur:S39) (q:Nat) (hq:q<6) (y:Int) (ok:Nat→Prop)
    (haddr:a.eval p= .pointer (some ⟨g,o',none⟩)) (hoff:o'=pre.length*6+q) (hx:a.eval x= .int .i64 y)
    (HO:Kd.R k39 39 W base ok (.slice (some ⟨g,0,none⟩) n cap) (pre++cur::post)) (HB:Below base w0 W)
    (h: ∀w1,Kd.R k39 39 w1 base ok (.slice (some ⟨g,0,none⟩) n cap) (pre++setQ cur q y::post)→Below base w0 w1→W.grownBy w1 (some g)→wpList Tryz.prog ops Q rest a w1):wpList Tryz.prog ops Q (o::rest) a W:=by
  have hr:=Kd.R_reads' HO;have hn:n=(pre++cur::post).length:=hr.1;have hj:pre.length<n:=by rw[hn];simp
  have hC:=hr.2.2;obtain⟨ad,e,hcell⟩:=hC.2.2 (by simp;omega)
  cases e
  obtain⟨cs,hl,hK,hcc⟩:=hcell pre.length cur (by simp)
  obtain rfl:=k39_open hK
  have hset:(pre++cur::post).set pre.length (setQ cur q y)=pre++setQ cur q y::post:=by
    rw[List.set_append_right _ _ (Nat.le_refl _),Nat.sub_self];rfl
  refine Kd.R_store k39 base hN hgd 3 p x ho 39 (pre.length:Int) q (pre++cur::post) (setQ cur q y) (.int .i64 y) [.int .i64 y] (cells39 cur) ok (fun _=>False) haddr (by rw[hoff,Int.toNat_natCast];rfl) hx rfl (by kernel_rfl) (by simp[Value.oneCell']) HO (by omega) (by omega) rfl ?_ (by show q+1≤6;omega) ?_ (fun k hk=>hk.elim) HB ?_
  · intro j u hu
    have e: ∀m:Nat,(⟨g,0,none⟩:Addr).add m=⟨g,m,none⟩:=fun m=>by
      unfold Addr.add;split
      · rename_i h;rw[h]
      · simp
    have:=hcc j u hu;rw[e]at this
    exact this
  · have e : (cells39 cur).take q ++ [Value.int .i64 y] ++ (cells39 cur).drop (q + 1) = cells39 (setQ cur q y) := by
      match q,hq with
      |0,_=>rfl
      |1,_=>rfl
      |2,_=>rfl
      |3,_=>rfl
      |4,_=>rfl
      |5,_=>rfl
    show k39.M W base _ _ ((cells39 cur).take q++ [Value.int .i64 y]++(cells39 cur).drop (q+1))
    rw[e];exact k39_mkM W base _ _
  · intro w1 h1 h2 h3
    rw[Int.toNat_natCast,hset]at h1
    exact h w1 h1 h2 h3
def markOp (k:Int):S39:=⟨k,wrap64 (k+1),wrap64 (wrap64 (k+1)+1),wrap64 (wrap64 (wrap64 (k+1)+1)+1),⟨wrap64 (wrap64 (wrap64 (wrap64 (k+1)+1)+1)+1),wrap64 (wrap64 (wrap64 (wrap64 (wrap64 (k+1)+1)+1)+1)+1)⟩⟩
def next6 (k:Int):Int:=wrap64 (wrap64 (wrap64 (wrap64 (wrap64 (wrap64 (k+1)+1)+1)+1)+1)+1)
def marksOp:Nat→Int→List S39
  |0,_=> []
  |n+1,k=>markOp k::marksOp n (next6 k)
def markedOp:Nat→Int→Int
  |0,k=>k
  |n+1,k=>markedOp n (next6 k)
def markV.f (l:List S39) (k:Int):Option (Int×List S39):=some (markedOp l.length k,marksOp l.length k)
theorem marksOp_length: ∀ (n:Nat) (k:Int),(marksOp n k).length=n
  |0,_=>rfl
  |n+1,k=>by simp[marksOp,marksOp_length n]
def MarkRel (w0 w:World) (base:Nat) (P0_:Nat→Prop) (v:Value) (n:Nat) (r1:Int) (r2:List S39) (pre post:List S39) (x:Int) (wr:World):Prop:=
  pre.length+post.length=n∧markedOp post.length x=r1∧pre++marksOp post.length x=r2∧Kd.R k39 39 wr base (fun k_=>(P0_ k_∨w.heap.size≤k_)) v (pre++post)∧Below base w0 wr∧Kept w wr (fun k_=>P0_ k_)
theorem laws_markOpS.calls (P0_:Nat→Prop) (u9000_:Value) (l0:List S39) (a1:Int) (r1:Int) (r2:List S39) (w0 w:World) (hB:Below w0.heap.size w0 w) (ho0:Kd.R k39 39 w w0.heap.size P0_ u9000_ l0) (h:markV.f l0 a1=some (r1,r2)):
    Calls Tryz.prog 9 #[u9000_,.int .i64 a1] w fun e w'=>e= .returned (.int .i64 r1)∧Kd.R k39 39 w' w0.heap.size (fun k_=>(P0_ k_∨w.heap.size≤k_)) u9000_ r2∧Below w0.heap.size w0 w'∧Kept w w' (fun k_=>P0_ k_):=by
  have hm:l0.length≤9223372036854775807:=by obtain⟨A,c,_,_,hC⟩:=Kd.R_reads ho0;exact Kd.C_max hC
  have h:=Option.some.inj h;have e1:markedOp l0.length a1=r1:=(Prod.mk.inj h).1;have e2:marksOp l0.length a1=r2:=(Prod.mk.inj h).2;have HR:Aside0 (MarkRel w0 w w0.heap.size P0_ u9000_ l0.length r1 r2 [] l0 a1 w):=⟨by simp,e1,e2,Kd.R_mono ho0 (fun _ hk=>.inl hk),hB,Kept.refl w _⟩
  have hP:=fun g (hg:u9000_.ownBlock=some g)=>ho0.1 g hg
  obtain⟨A,c,ev⟩:=Kd.R_slice ho0;obtain⟨n,hn⟩: ∃n,n=l0.length:=⟨_,rfl⟩
  have hform:0<n→ ∃g,A=some ⟨g,0,none⟩:=fun hp=>by
    obtain⟨g,cap,e,_⟩:=Kd.R_form ho0 (by omega)
    rw[ev]at e
    injection e with e
    exact⟨g,e⟩
  rw[←hn]at HR hm ev
  have HP:Aside0 (∀g,u9000_.ownBlock=some g→P0_ g):=⟨hP⟩;have HL:Aside0 (n=l0.length):=⟨hn⟩;clear hP hn h e1 e2 ho0;subst ev;rcases Nat.eq_zero_or_pos n with hz|hz
  · subst hz
    obtain⟨k1,k2,k3,k4,k5,k6⟩:=HR.out;have hl:l0=[]:=List.length_eq_zero_iff.1 HL.out.symm;subst hl;have F:=Aside0.mk (⟨k2,k3,k4,k5,k6⟩:_∧_∧_∧_∧_);clear k1 k2 k3 k4 k5 k6 HR HL hB;go_enter Tryz.func9,Tryz.ntmps9
    go_wp2
    go_loopg [1,5] 0 (fun gg s1 s5 wr=>s1= .int .i64 a1∧s5= .int .i64 0∧wr=w)
    case atStart=>exact⟨rfl,rfl,rfl⟩
    case round=>
      obtain⟨rfl,rfl,rfl⟩:=hrel;go_wp2
      go_ret
      obtain⟨k2,k3,k4,k5,k6⟩:=F.out;exact⟨by rw[←k2];rfl,by rw[←k3];exact k4,k5,k6⟩
  · obtain⟨g,rfl⟩:=hform hz
    clear hform hB;go_enter Tryz.func9,Tryz.ntmps9
    go_wp2
    go_loopg [1,5] n (fun gg s1 s5 wr=> ∃ (pre post:List S39) (x:Int),s1= .int .i64 x∧s5= .int .i64 (pre.length:Int)∧post.length≤gg∧Aside0 (MarkRel w0 w w0.heap.size P0_ (.slice (some ⟨g,0,none⟩) n c) n r1 r2 pre post x wr))
    case atStart=>exact⟨[],l0,a1,rfl,rfl,by rw[HL.out];exact Nat.le_refl _,HR⟩
    case round=>
      clear HR HL;obtain⟨pre,post,x,rfl,rfl,hgg,R⟩:=hrel;cases post with
      |nil=>
        have hlt: ¬((pre.length:Int)<(n:Int)):=by have:=R.out.1;simp at this;omega
        go_wp2
        go_ret
        obtain⟨k1,k2,k3,k4,k5,k6⟩:=R.out;exact⟨by rw[←k2];rfl,by rw[←k3];exact k4,k5,k6⟩
      |cons cur post=>
        have hlt:((pre.length:Int)<(n:Int)):=by have:=R.out.1;simp at this;omega
        have hj0:(0:Int)≤(pre.length:Int):=by omega
        have hgg:post.length+1≤gk:=by simpa using hgg
        obtain⟨j,hj⟩: ∃j,j=pre.length:=⟨_,rfl⟩;rw[←hj]at hlt hj0⊢
        have HJ:=Aside0.mk hj;clear hj;obtain⟨R1,R2,R3,R4,R5,R6⟩:=R.out;have H0:=Aside0.mk R4;have B0:=Aside0.mk R5;have G0:=Aside0.mk R6;have F1:=Aside0.mk R1;have F2:=Aside0.mk R2;have F3:=Aside0.mk R3;clear R R1 R2 R3 R4 R5 R6;go_wp2_with (first|((with_reducible refine gate_store (t:=3) (p:=16) rfl ?_);refine store29 w0.heap.size rfl rfl (.tmp 16) (.tmp 14) rfl pre post cur 0 (by omega) _ _ rfl (by first|rfl|(simp[HJ.out];done)|(simp[HJ.out];omega)) rfl H0.out B0.out ?_;intro w1 h_ b_ g_;have H1:=Aside0.mk h_;have B1:=Aside0.mk b_;have G1:=Aside0.mk (Kept.of_grown (S:=(fun k_=>P0_ k_)) g_ G0.out (fun k_ e_=>.inl (HP.out k_ (by rw[←e_];rfl))));clear h_ b_ g_)|((with_reducible refine gate_store (t:=3) (p:=23) rfl ?_);refine store29 w0.heap.size rfl rfl (.tmp 23) (.tmp 21) rfl pre post (setQ cur 0 (x)) 1 (by omega) _ _ rfl (by first|rfl|(simp[HJ.out];done)|(simp[HJ.out];omega)) rfl H1.out B1.out ?_;intro w2 h_ b_ g_;have H2:=Aside0.mk h_;have B2:=Aside0.mk b_;have G2:=Aside0.mk (Kept.of_grown (S:=(fun k_=>P0_ k_)) g_ G1.out (fun k_ e_=>.inl (HP.out k_ (by rw[←e_];rfl))));clear h_ b_ g_)|((with_reducible refine gate_store (t:=3) (p:=30) rfl ?_);refine store29 w0.heap.size rfl rfl (.tmp 30) (.tmp 28) rfl pre post (setQ (setQ cur 0 (x)) 1 (wrap64 (x+1))) 2 (by omega) _ _ rfl (by first|rfl|(simp[HJ.out];done)|(simp[HJ.out];omega)) rfl H2.out B2.out ?_;intro w3 h_ b_ g_;have H3:=Aside0.mk h_;have B3:=Aside0.mk b_;have G3:=Aside0.mk (Kept.of_grown (S:=(fun k_=>P0_ k_)) g_ G2.out (fun k_ e_=>.inl (HP.out k_ (by rw[←e_];rfl))));clear h_ b_ g_)|((with_reducible refine gate_store (t:=3) (p:=37) rfl ?_);refine store29 w0.heap.size rfl rfl (.tmp 37) (.tmp 35) rfl pre post (setQ (setQ (setQ cur 0 (x)) 1 (wrap64 (x+1))) 2 (wrap64 (wrap64 (x+1)+1))) 3 (by omega) _ _ rfl (by first|rfl|(simp[HJ.out];done)|(simp[HJ.out];omega)) rfl H3.out B3.out ?_;intro w4 h_ b_ g_;have H4:=Aside0.mk h_;have B4:=Aside0.mk b_;have G4:=Aside0.mk (Kept.of_grown (S:=(fun k_=>P0_ k_)) g_ G3.out (fun k_ e_=>.inl (HP.out k_ (by rw[←e_];rfl))));clear h_ b_ g_)|((with_reducible refine gate_store (t:=3) (p:=45) rfl ?_);refine store29 w0.heap.size rfl rfl (.tmp 45) (.tmp 42) rfl pre post (setQ (setQ (setQ (setQ cur 0 (x)) 1 (wrap64 (x+1))) 2 (wrap64 (wrap64 (x+1)+1))) 3 (wrap64 (wrap64 (wrap64 (x+1)+1)+1))) 4 (by omega) _ _ rfl (by first|rfl|(simp[HJ.out];done)|(simp[HJ.out];omega)) rfl H4.out B4.out ?_;intro w5 h_ b_ g_;have H5:=Aside0.mk h_;have B5:=Aside0.mk b_;have G5:=Aside0.mk (Kept.of_grown (S:=(fun k_=>P0_ k_)) g_ G4.out (fun k_ e_=>.inl (HP.out k_ (by rw[←e_];rfl))));clear h_ b_ g_)|((with_reducible refine gate_store (t:=3) (p:=53) rfl ?_);refine store29 w0.heap.size rfl rfl (.tmp 53) (.tmp 50) rfl pre post (setQ (setQ (setQ (setQ (setQ cur 0 (x)) 1 (wrap64 (x+1))) 2 (wrap64 (wrap64 (x+1)+1))) 3 (wrap64 (wrap64 (wrap64 (x+1)+1)+1))) 4 (wrap64 (wrap64 (wrap64 (wrap64 (x+1)+1)+1)+1))) 5 (by omega) _ _ rfl (by first|rfl|(simp[HJ.out];done)|(simp[HJ.out];omega)) rfl H5.out B5.out ?_;intro w6 h_ b_ g_;have H6:=Aside0.mk h_;have B6:=Aside0.mk b_;have G6:=Aside0.mk (Kept.of_grown (S:=(fun k_=>P0_ k_)) g_ G5.out (fun k_ e_=>.inl (HP.out k_ (by rw[←e_];rfl))));clear h_ b_ g_))
        go_roundg post.length
        case measure=>omega
        case rel=>
          have hf2:=F2.out;have hf3:=F3.out;have hf1:=F1.out;refine⟨pre++ [markOp x],post,next6 x,rfl,by simp[HJ.out],Nat.le_refl _,⟨by simp at hf1⊢;omega,hf2,by rw[←hf3,List.append_assoc];rfl,?_,B6.out,G6.out⟩⟩
          have:=H6.out;rw[List.append_assoc];exact this
end Go.Proofs.YtmklpbmlgjkbiaaGreatDoor.PS
end
section
namespace Go.Proofs.YtmklpbmlgjkbiaaGreatDoor.PS
open Go.RowKit Go.Shelf Go.Proofs.YtmklpbmlgjkbiaaGreatDoorW.PrintWords Go.Proofs.YtmklpbmlgjkbiaaGreatDoorW.PrintLast
attribute [local go_sem] Oper.semAt_some
theorem info39s:(Tryz.prog.info? 39).map (fun i=>(i.zero,i.size,i.bytes))=some (some (.agg #[(.int .i64 0),(.int .i64 0),(.int .i64 0),(.int .i64 0),(.int .i64 0),(.int .i64 0)]),6,48):=by kernel_rfl
theorem lines_make (x:ByteArray) (W:World):Calls Tryz.prog 20 #[.string x] W fun e w'=>e= .returned (.func (.func 44) #[] #[.pointer (some ⟨W.heap.size,0,none⟩)])∧w'=W.alloc (.cells #[.string x] 9):=by
  go_enter Tryz.func20,Tryz.ntmps20
  go_wp2
  go_ret
  exact⟨rfl,rfl⟩
def rowC (os:List S39):List Value:=(os.map cells39).flatten
theorem rowC_snoc (os:List S39) (y:S39):rowC (os++ [y])=rowC os++cells39 y:=by simp[rowC]
theorem rowC_len: ∀os:List S39,(rowC os).length=os.length*6
  | []=>rfl
  |y::os=>by
    have:=rowC_len os;unfold rowC at*;rw[List.map_cons,List.flatten_cons,List.length_append,this,List.length_cons];show 6+_=_
    omega
theorem rowC_at: ∀ (os:List S39) (j:Nat) (y:S39),os[j]?=some y→((rowC os).drop (j*6)).take 6=cells39 y
  | [],j,y,h=>by simp at h
  |z::os,0,y,h=>by
    simp at h
    subst h;rfl
  |z::os,j+1,y,h=>by
    have:=rowC_at os j y (by simpa using h)
    rw[←this,Nat.add_mul,Nat.one_mul,Nat.add_comm,←List.drop_drop];rfl
theorem row_R {W:World} {n0:Nat} {v:Value} {os:List S39} (h:W.ownsRow n0 39 6 v os.length (rowC os)):Kd.R k39 39 W n0 (fun _=>True) v os:=
  ⟨fun _ _=>trivial,rowC os,h,rowC_len os,fun j y hj=>by
    show k39.M W n0 _ y _
    rw[show k39.sz=6 from rfl,rowC_at os j y hj]
    exact k39_mkM W n0 _ y⟩
structure RdI (w:World) (os:List S39) (v:Value) (W:World):Prop where
  own:W.ownsRow (w.heap.size+4) 39 6 v os.length (rowC os)
  b4:W.heap[w.heap.size+2]?=some (.cells #[v] 22 (0,0))
  b2:W.heap[w.heap.size]?=some (.cells #[.slice none 0 0] 22 (0,0))
  b3:W.heap[w.heap.size+1]?=some (.cells #[.bool false] 4 (0,0))
  bel:Below w.heap.size w W
theorem RdI.step {w W W':World} {os:List S39} {v:Value} (h:RdI w os v W) (hb:Below W.heap.size W W'):RdI w os v W':=
  ⟨pw_own_below h.own hb,blk_below h.b4 hb,blk_below h.b2 hb,blk_below h.b3 hb,below_step h.bel hb⟩
theorem RdI.sim {w W W':World} {os:List S39} {v:Value} (h:RdI w os v W) (s:Sim (w.heap.size+4) (w.heap.size+3) W W'):RdI w os v W':=
  ⟨own_move h.own (fun k hk=>by
    obtain⟨cells,hc⟩:=own_typed h.own k hk;have:=own_base h.own k hk;rw[hc];exact s.same k _ hc (by omega) (fun _=>rfl)),s.box h.b4 (by omega),s.box h.b2 (by omega),s.box h.b3 (by omega),s.below h.bel (Nat.le_refl _) (by omega) (by omega)⟩
theorem RdI.two {w W:World} {os:List S39} {v:Value} (h:RdI w os v W):W.cell? ⟨w.heap.size,0,none⟩=some (.slice none 0 0)∧W.cell? ⟨w.heap.size+1,0,none⟩=some (.bool false):=⟨(blk_cell h.b2 0).trans rfl,(blk_cell h.b3 0).trans rfl⟩
theorem RdI.cell {w W:World} {os:List S39} {v:Value} (h:RdI w os v W):W.cell? ⟨w.heap.size+2,0,none⟩=some v:=(blk_cell h.b4 0).trans rfl
theorem RdI.free {w W:World} {os:List S39} {v:Value} (h:RdI w os v W):W.frozen? ⟨w.heap.size+2,0,none⟩=false∧W.frozen? ⟨w.heap.size,0,none⟩=false∧W.frozen? ⟨w.heap.size+1,0,none⟩=false:=⟨blk_frozen h.b4 0,blk_frozen h.b2 0,blk_frozen h.b3 0⟩
theorem RdI.app {w W W':World} {os:List S39} {v v':Value} (h:RdI w os v W) (y:S39) (ho:W'.ownsRow (w.heap.size+4) 39 6 v' (os.length+1) (rowC os++cells39 y)) (hg:W.grownBy W' v.ownBlock):RdI w (os++ [y]) v' (W'.setCell ⟨w.heap.size+2,0,none⟩ v'):=by
  have far: ∀k,k<w.heap.size+4→k<W.heap.size→W'.heap[k]?=W.heap[k]?:=fun k hk hl=>hg.block k hl (fun e=>by have:=own_base h.own k e.symm;omega)
  have l4:=blk_lt h.b4;have e4:=(far _ (by omega) l4).trans h.b4
  have e2:=(far _ (by omega) (by omega)).trans h.b2
  have e3:=(far _ (by omega) (by omega)).trans h.b3
  refine⟨?_,blk_set e4 0 v',(Below.heap_setCell W' ⟨w.heap.size+2,0,none⟩ v' _ (by show w.heap.size≠w.heap.size+2;omega)).trans e2,(Below.heap_setCell W' ⟨w.heap.size+2,0,none⟩ v' _ (by show w.heap.size+1≠w.heap.size+2;omega)).trans e3,below_set (h.bel.grown hg h.bel.size (fun b hb=>by have:=own_base h.own b hb;omega)) (by show w.heap.size≤w.heap.size+2;omega)⟩
  rw[rowC_snoc,List.length_append];exact own_setCell ho (fun e=>by have:=own_base ho _ e.symm;have:w.heap.size+4≤w.heap.size+2:=this;omega) v'
theorem RdI.grown {w W W':World} {os:List S39} {v:Value} (h:RdI w os v W) (hg:W.grownBy W' v.ownBlock) {k:Nat} (hk:k<w.heap.size+4) (hl:k<W.heap.size):W'.heap[k]?=W.heap[k]?:=hg.block k hl (fun e=>by have:=own_base h.own k e.symm;omega)
theorem RdI.box {w W W':World} {os:List S39} {v:Value} (h:RdI w os v W) (hg:W.grownBy W' v.ownBlock):W'.cell? ⟨w.heap.size+2,0,none⟩=some v∧W'.frozen? ⟨w.heap.size+2,0,none⟩=false:=by
  have e:=(h.grown hg (by omega) (blk_lt h.b4)).trans h.b4
  exact⟨(blk_cell e 0).trans rfl,blk_frozen e 0⟩
theorem RdI.keeps {w W W':World} {os:List S39} {v:Value} (h:RdI w os v W) (hg:W.grownBy W' v.ownBlock):KeepsOthers W W':=KeepsOthers.of_grownBy hg (fun j o e ho=>by
  obtain⟨cells,hc⟩:=own_typed h.own j e;rw[hc]at ho;cases ho;rfl)
theorem RdI.away {w W:World} {os:List S39} {v:Value} (h:RdI w os v W):RdI w os v ((W.setCell ⟨w.heap.size,0,none⟩ (.slice none 0 0)).setCell ⟨w.heap.size+1,0,none⟩ (.bool false)):=by
  have f: ∀ (W:World) (B k:Nat) (u:Value),k≠B→(W.setCell ⟨B,0,none⟩ u).heap[k]?=W.heap[k]?:=fun W B k u hk=>Below.heap_setCell W ⟨B,0,none⟩ u k hk
  refine⟨own_setCell (own_setCell h.own (fun e=>by have:w.heap.size+4≤w.heap.size:=own_base h.own _ e.symm;omega) _) (fun e=>by have:w.heap.size+4≤w.heap.size+1:=own_base h.own _ e.symm;omega) _,?_,?_,?_,below_set (below_set h.bel (by show w.heap.size≤w.heap.size;omega)) (by show w.heap.size≤w.heap.size+1;omega)⟩
  · rw[f _ _ _ _ (by omega),f _ _ _ _ (by omega)];exact h.b4
  · rw[f _ _ _ _ (by omega)];exact blk_set h.b2 0 _
  · exact blk_set ((f _ _ _ _ (by omega)).trans h.b3) 0 _
theorem cells_new (W:World) (y:S39) (g:Nat) (hg:g=W.heap.size): ∀j u,(cells39 y)[j]?=some u→(W.alloc (.cells #[.int .i64 y.f0,.int .i64 y.f1,.int .i64 y.f2,.int .i64 y.f3,.int .i64 y.f4.f0,.int .i64 y.f4.f1] 39)).cell? ((⟨g,0,none⟩:Addr).add j)=some u:=by
  subst hg;intro j u hj;have hb:=blk_new W (.cells #[.int .i64 y.f0,.int .i64 y.f1,.int .i64 y.f2,.int .i64 y.f3,.int .i64 y.f4.f0,.int .i64 y.f4.f1] 39);rw[show(⟨W.heap.size,0,none⟩:Addr).add j=⟨W.heap.size,j,none⟩ by(simp[Addr.add];try exact fun h=>h.symm),blk_cell hb j]
  rw[←hj];simp[cells39]
theorem keeps_below {n0:Nat} {W W':World} (h:Below W.heap.size W W'):KeepsFrom n0 W W':=⟨h.size,fun k o _ hk _=>(h.block k (Array.getElem?_eq_some_iff.1 hk).1).trans hk⟩
theorem results7 {W:World} {v:Value} {b:Bool} {B2 B3:Nat} {tmps:Array Value} (t2:tmps[2]?.getD undef= .pointer (some ⟨B2,0,none⟩)) (t3:tmps[3]?.getD undef= .pointer (some ⟨B3,0,none⟩)) (c2:W.cell? ⟨B2,0,none⟩=some v) (c3:W.cell? ⟨B3,0,none⟩=some (.bool b)):
    (results Tryz.f7 tmps).run Tryz.prog W= .ok (.tuple #[v,.bool b]) W:=by
  simp[results,Tryz.results7,go_sem,t2,t3,c2,c3,Tryz.underlying22,Tryz.underlying4]
theorem RdI.say {w W:World} {os:List S39} {v:Value} (h:RdI w os v W) {D:Nat} (hD:w.heap.size+4≤D) (hK:W.heap[D]?=some (.deferred (some []))):
    ((W.setCell ⟨w.heap.size,0,none⟩ v).setCell ⟨w.heap.size+1,0,none⟩ (.bool true)).heap[D]?=some (.deferred (some []))∧
    (((W.setCell ⟨w.heap.size,0,none⟩ v).setCell ⟨w.heap.size+1,0,none⟩ (.bool true)).putObj D (.deferred none)).ownsRow (w.heap.size+4) 39 6 v os.length (rowC os)∧
    (((W.setCell ⟨w.heap.size,0,none⟩ v).setCell ⟨w.heap.size+1,0,none⟩ (.bool true)).putObj D (.deferred none)).cell? ⟨w.heap.size,0,none⟩=some v∧
    (((W.setCell ⟨w.heap.size,0,none⟩ v).setCell ⟨w.heap.size+1,0,none⟩ (.bool true)).putObj D (.deferred none)).cell? ⟨w.heap.size+1,0,none⟩=some (.bool true)∧
    Below w.heap.size w (((W.setCell ⟨w.heap.size,0,none⟩ v).setCell ⟨w.heap.size+1,0,none⟩ (.bool true)).putObj D (.deferred none)):=by
  have f: ∀ (W:World) (B k:Nat) (u:Value),k≠B→(W.setCell ⟨B,0,none⟩ u).heap[k]?=W.heap[k]?:=fun W B k u hk=>Below.heap_setCell W ⟨B,0,none⟩ u k hk
  have own1:=own_setCell (p:=⟨w.heap.size+1,0,none⟩) (own_setCell (p:=⟨w.heap.size,0,none⟩) h.own (fun e=>by have:w.heap.size+4≤w.heap.size:=own_base h.own _ e.symm;omega) v) (fun e=>by have:w.heap.size+4≤w.heap.size+1:=own_base h.own _ e.symm;omega) (.bool true)
  have e2:((W.setCell ⟨w.heap.size,0,none⟩ v).setCell ⟨w.heap.size+1,0,none⟩ (.bool true)).heap[w.heap.size]?=some (.cells #[v] 22 (0,0)):=(f _ _ _ _ (by omega)).trans (blk_set h.b2 0 v)
  have e3:((W.setCell ⟨w.heap.size,0,none⟩ v).setCell ⟨w.heap.size+1,0,none⟩ (.bool true)).heap[w.heap.size+1]?=some (.cells #[.bool true] 4 (0,0)):=blk_set ((f _ _ _ _ (by omega)).trans h.b3) 0 _
  have eD:((W.setCell ⟨w.heap.size,0,none⟩ v).setCell ⟨w.heap.size+1,0,none⟩ (.bool true)).heap[D]?=some (.deferred (some [])):=by rw[f _ _ _ _ (by omega),f _ _ _ _ (by omega)];exact hK
  have hb:Below w.heap.size w ((W.setCell ⟨w.heap.size,0,none⟩ v).setCell ⟨w.heap.size+1,0,none⟩ (.bool true)):=below_set (below_set h.bel (by show w.heap.size≤w.heap.size;omega)) (by show w.heap.size≤w.heap.size+1;omega)
  revert own1 e2 e3 eD hb
  generalize (W.setCell ⟨w.heap.size,0,none⟩ v).setCell ⟨w.heap.size+1,0,none⟩ (.bool true)=V;intro own1 e2 e3 eD hb;have sp: ∀k,k≠D→(V.putObj D (.deferred none)).heap[k]?=V.heap[k]?:=fun k hk=>World.putObj_heap_other hk
  refine⟨eD,own_move own1 (fun k hk=>sp k ?_),(blk_cell ((sp _ (by omega)).trans e2) 0).trans rfl,(blk_cell ((sp _ (by omega)).trans e3) 0).trans rfl,belowK_b (w:=w) (Nat.le_refl _) V D _ (.deferred none) (by omega) eD rfl rfl|>fun h'=> ?_⟩
  · rintro rfl
    obtain⟨cells,hc⟩:=own_typed own1 _ hk;rw[eD]at hc;cases hc
  · exact hb.trans h'
def CodeAns (x:ByteArray) (w:World) (e:Ending) (w':World):Prop:= ∃ (v:Value) (l:List S39) (ok:Bool),e= .returned (.tuple #[v,.bool ok])∧ReadsC x l ok∧Kd.R k39 39 w' w.heap.size (fun _=>True) v l∧Below w.heap.size w w'
def CInv (x:ByteArray) (w:World) (r:ByteArray) (W:World):Prop:= ∃ (os:List S39) (v:Value),RdI w os v W∧InvC x os r∧os.length+r.size≤400
def CEnd (x:ByteArray) (w:World) (W:World):Prop:=(∃v os,RdI w os v W)∧ReadsC x [] false
theorem impl_CodeRead_any (x:ByteArray) (w:World) (hE:Env w):Calls Tryz.prog 7 #[.string x] w (CodeAns x w):=by
  have HE:=Aside0.mk hE;clear hE;refine(callsIn_wide (n:=6)).1 ?_
  refine callsIn_of_wp_marks Tryz.func7 rfl trivial ?_ rfl
  simp only[Tryz.ntmps7,List.size_toArray,List.length_cons,List.length_nil,Nat.reduceAdd,Nat.reduceSub,Array.replicate_succ,Array.replicate_zero,List.push_toArray,List.append_toArray,List.nil_append,List.cons_append]
  by_cases hz:400<x.size
  · have e0:decide ((400:Int)<(x.size:Int))=true:=decide_eq_true (by omega)
    have HZ:=Aside0.mk hz;clear hz;gi_wp2
    have b2:=blk_alloc (blk_new w (.cells #[.slice none 0 0] 22)) (.cells #[.bool false] 4);have b3:=blk_new (w.alloc (.cells #[.slice none 0 0] 22)) (.cells #[.bool false] 4);rw[World.size_alloc]at b3
    exact⟨_,results7 (B2:=w.heap.size) (B3:=w.heap.size+1) rfl rfl ((blk_cell b2 0).trans rfl) ((blk_cell b3 0).trans rfl),_,[],false,rfl,.inr ⟨rfl,rfl,fun c a b=>by have:=codeText_le a;rw[b]at this;exact absurd this (by have:=HZ.out;omega)⟩,Kd.R_nil _ _ _ _ _,below_alloc (below_alloc (Below.refl _ _) _) _⟩
  have e0:decide ((400:Int)<(x.size:Int))=false:=decide_eq_false (by omega)
  have HZ:=Aside0.mk hz;clear hz;have HL:Aside0 (∀W,Calls Tryz.prog 20 #[.string x] W fun e w'=>e= .returned (.func (.func 44) #[] #[.pointer (some ⟨W.heap.size,0,none⟩)])∧w'=W.alloc (.cells #[.string x] 9)):=⟨fun W=>lines_make x W⟩
  gi_wp2_with (refine⟨trivial,?_⟩;gi_at_call 20;refine(callsIn_wide.2 (HL.out _)).mono ?_;rintro e w' ⟨rfl,rfl⟩)
  rw[show w.heap.size+1+1=w.heap.size+2 from rfl,show w.heap.size+2+1=w.heap.size+3 from rfl]
  have hsz4:((((w.alloc (.cells #[.slice none 0 0] 22)).alloc (.cells #[.bool false] 4)).alloc (.cells #[.slice none 0 0] 22)).alloc (.cells #[.string x] 9)).heap.size=w.heap.size+4:=by simp
  have hC:RdI w [] (.slice none 0 0) ((((w.alloc (.cells #[.slice none 0 0] 22)).alloc (.cells #[.bool false] 4)).alloc (.cells #[.slice none 0 0] 22)).alloc (.cells #[.string x] 9)):=by
    refine⟨own_nil _ _ _ _,blk_alloc ?_ _,blk_alloc (blk_alloc (blk_alloc (blk_new w _) _) _) _,blk_alloc (blk_alloc ?_ _) _,below_alloc (below_alloc (below_alloc (below_alloc (Below.refl _ _) _) _) _) _⟩
    · have:=blk_new ((w.alloc (.cells #[.slice none 0 0] 22)).alloc (.cells #[.bool false] 4)) (.cells #[.slice none 0 0] 22)
      rwa [World.size_alloc,World.size_alloc]at this
    · have:=blk_new (w.alloc (.cells #[.slice none 0 0] 22)) (.cells #[.bool false] 4)
      rwa [World.size_alloc]at this
  have hB:restIs ((((w.alloc (.cells #[.slice none 0 0] 22)).alloc (.cells #[.bool false] 4)).alloc (.cells #[.slice none 0 0] 22)).alloc (.cells #[.string x] 9)) (w.heap.size+3) x:=by
    have:=blk_new (((w.alloc (.cells #[.slice none 0 0] 22)).alloc (.cells #[.bool false] 4)).alloc (.cells #[.slice none 0 0] 22)) (.cells #[.string x] 9);rwa [World.size_alloc,World.size_alloc,World.size_alloc]at this
  revert hsz4 hC hB
  generalize (((w.alloc (.cells #[.slice none 0 0] 22)).alloc (.cells #[.bool false] 4)).alloc (.cells #[.slice none 0 0] 22)).alloc (.cells #[.string x] 9)=W0;intro hsz4 hC hB;obtain⟨i0,hi0,hz0,hz1,hz2⟩:=info_parts info39s;have HO:Aside0 (∀W X,Below w.heap.size w W→Calls Tryz.prog 21 #[.string X] W (OpAns X W)):=⟨fun W X hW=>impl_OpRead_any X W (HE.out.below hW)⟩
  have HT:Aside0 (∀W X,X.size≤1000→Calls Tryz.prog 22 #[.string X,.string ⟨#[10]⟩] W fun e w'=>e= .returned (.string (trimB X))∧w'=W):=⟨fun W X hX=>Tryz.strings_TrimSuffix X ⟨#[10]⟩ W (by omega)⟩
  refine range_lines 6 (by omega) (w.heap.size+3) x rfl rfl hB (CInv x w) (CEnd x w) ?hI ?hIx ?hsz ?h0 (fun q=> { tmps:= #[.string x,undef,.pointer (some ⟨w.heap.size,0,none⟩),.pointer (some ⟨w.heap.size+1,0,none⟩),.pointer (some ⟨w.heap.size+2,0,none⟩),.string q,undef,undef,.string x,.int .i64 (x.size:Int),.bool false,.string x,.func (.func 44) #[] #[.pointer (some ⟨w.heap.size+3,0,none⟩)],.string q,undef,undef,undef,undef,undef,undef,undef,undef,undef,undef,undef,undef,undef,undef,undef,undef,undef,undef,undef,undef,undef,undef],defers:=[] }) ?assign ?body ?done ?stop
  case hI=>
    rintro r W W' s ⟨os,v,h1,h2,h3⟩
    rw[hsz4]at s
    exact⟨os,v,h1.sim s,h2,h3⟩
  case hIx=>
    rintro W W' s ⟨⟨v,os,h1⟩,h2⟩
    rw[hsz4]at s
    exact⟨⟨v,os,h1.sim s⟩,h2⟩
  case hsz=>
    rintro r W ⟨os,v,h1,h2,h3⟩
    omega
  case h0=>exact⟨[],.slice none 0 0,hC,invC_first x,by have:=HZ.out;simp;omega⟩
  case assign=>
    intro l r W K hK;gi_wp2
    exact hK
  case body=>
    rintro l r W ⟨os,v,h1,h2,h3⟩ hr hR
    have H1:=Aside0.mk h1;have H2:=Aside0.mk h2;have HR:=Aside0.mk hR;have HL3:Aside0 (os.length+r.size≤400∧r.size≠0∧(lineOf r).size≤r.size):=⟨h3,hr,line_size r⟩;have d1:1≤6-1-1:=by omega
    clear h1 h2 h3 hr hR hC hB
    gi_wp2_with (first
      |(refine⟨trivial,?_⟩;gi_at_call 22;refine(CallsIn.inRound l (callsIn_wide.2 (HT.out _ _ (by have:=HL3.out;omega)))).mono ?_;rintro e w' ⟨rfl,rfl⟩)
      |(refine⟨trivial,?_⟩;gi_at_call 21;refine(CallsIn.inRound l (callsIn_wide.2 (HO.out _ _ H1.out.bel))).mono ?_;rintro e w1 ⟨k,rr,s,t,a,b,ok,rfl,hRd,hb⟩;have HRd:=Aside0.mk hRd;have HB:=Aside0.mk hb;have HW:=Aside0.mk (H1.out.step (below_alloc hb (.cells #[.int .i64 k,.int .i64 rr,.int .i64 s,.int .i64 t,.int .i64 a,.int .i64 b] 39)));clear hRd hb;obtain⟨c0,c1,c2,c3,c4,c5⟩:=box6 (blk_new w1 (.cells #[.int .i64 k,.int .i64 rr,.int .i64 s,.int .i64 t,.int .i64 a,.int .i64 b] 39));have cv:=HW.out.cell;obtain⟨f4,f2,f3⟩:=HW.out.free;obtain⟨q2,q3⟩:=HW.out.two;cases ok)
      |(gi_at_builtin;refine wpListIn_append_own _ rfl _ _ 22 rfl (w.heap.size+4) 39 i0 (.agg #[.int .i64 0,.int .i64 0,.int .i64 0,.int .i64 0,.int .i64 0,.int .i64 0]) 6 48 Tryz.underlying22 hi0 hz0 hz1 hz2 rfl (by decide) _ _ _ rfl ((HW.out.step (below_alloc (Below.refl _ _) (.cells #[.int .i64 k,.int .i64 rr,.int .i64 s,.int .i64 t,.int .i64 a,.int .i64 b] 39))).own) ⟨w1.heap.size+1,0,none⟩ 1 1 (cells39 ⟨k,rr,s,t,⟨a,b⟩⟩) rfl rfl (cells_new _ ⟨k,rr,s,t,⟨a,b⟩⟩ _ (by simp)) (by simp[cells39,Value.oneCell']) (by have:=HL3.out;unfold maxLen;omega) (by have:=HL3.out;omega) (by have:=(HW.out.step (below_alloc (Below.refl _ _) (.cells #[.int .i64 k,.int .i64 rr,.int .i64 s,.int .i64 t,.int .i64 a,.int .i64 b] 39))).bel.size;have:=blk_lt HW.out.b4;simp;simp at this;omega) ?_;intro v' w9 hown' hgrow _;obtain⟨g',cap',rfl⟩:=ownsRow_succ hown';have H9:=Aside0.mk (show _∧_ from⟨hown',hgrow⟩);obtain⟨p4,p5⟩:=(HW.out.step (below_alloc (Below.refl _ _) (.cells #[.int .i64 k,.int .i64 rr,.int .i64 s,.int .i64 t,.int .i64 a,.int .i64 b] 39))).box hgrow;clear hown' hgrow))
    · exact⟨((keeps_below (below_alloc HB.out _)).trans ((KeepsOthers.setCell _ _ _).from _)).trans ((KeepsOthers.setCell _ _ _).from _),⟨_,_,HW.out.away⟩,(invC_step H2.out HL3.out.2.1 HRd.out).2 rfl⟩
    · have hV:=HW.out.step (below_alloc (Below.refl _ _) (.cells #[.int .i64 k,.int .i64 rr,.int .i64 s,.int .i64 t,.int .i64 a,.int .i64 b] 39))
      have hbb:=below_alloc (below_alloc HB.out (.cells #[.int .i64 k,.int .i64 rr,.int .i64 s,.int .i64 t,.int .i64 a,.int .i64 b] 39)) (.cells #[.int .i64 k,.int .i64 rr,.int .i64 s,.int .i64 t,.int .i64 a,.int .i64 b] 39);refine⟨((keeps_below hbb).trans ((hV.keeps H9.out.2).from _)).trans ((KeepsOthers.setCell _ _ _).from _),⟨_,_,hV.app ⟨k,rr,s,t,⟨a,b⟩⟩ H9.out.1 H9.out.2,(invC_step H2.out HL3.out.2.1 HRd.out).1 rfl,?_⟩,?_⟩
      · have:=rest_lt HL3.out.2.1
        have:=HL3.out.1;rw[List.length_append];show _+1+_≤400
        omega
      · have e1:=blk_below HR.out hbb
        exact(Below.heap_setCell w9 ⟨w.heap.size+2,0,none⟩ _ _ (by show w.heap.size+3≠w.heap.size+2;omega)).trans ((hV.grown H9.out.2 (by omega) (blk_lt e1)).trans e1)
  case done=>
    rintro D r W hD hr ⟨os,v,h1,h2,h3⟩ hK
    rw[hsz4]at hD
    obtain⟨A,c,hv,hl,hCC⟩:=Kd.R_reads (row_R h1.own);subst hv;have HCO:Aside0 (∀W',Below W.heap.size W W'→Calls Tryz.prog 16 #[.slice A os.length c] W' fun e w'=>e= .returned (.bool (codeB os))∧Below W'.heap.size W' w'):=⟨fun W' hb=>impl_CodeOk.calls A c os (codeB os) W' (Kd.C_below hCC hb) hl rfl⟩
    have HCT:Aside0 (∀W',Below W.heap.size W W'→Calls Tryz.prog 12 #[.slice A os.length c] W' fun e w'=>e= .returned (.string (codeText os))∧Below W'.heap.size W' w'):=⟨fun W' hb=>impl_CodeText_any A c os W' (Kd.C_below hCC hb) hl (HE.out.below (below_step h1.bel hb)).1.1⟩
    have HN:Aside0 (¬(codeB os=true∧codeText os=x)→ReadsC x [] false):=⟨invC_no h2 hr⟩;have HY:Aside0 (codeB os=true→codeText os=x→ReadsC x os true):=⟨fun a b=>.inl ⟨rfl,a,b⟩⟩
    have HB:=Aside0.mk (Below.refl W.heap.size W);have H1:=Aside0.mk h1;have HK:=Aside0.mk hK;obtain⟨bb,hbb⟩: ∃b,codeB os=b:=⟨_,rfl⟩;obtain⟨X,hX⟩: ∃X,codeText os=X:=⟨_,rfl⟩;rw[hbb]at HCO HN HY
    rw[hX]at HCT HN HY
    have cv:=h1.cell;obtain⟨f4,f2,f3⟩:=h1.free;obtain⟨q2,q3⟩:=h1.two;clear h1 h2 h3 hK hbb hX hCC hr hB hC;cases bb with
    |false=>
      gi_wp2_with (refine⟨trivial,?_⟩;gi_at_call 16;refine(callsIn_wide.2 (HCO.out _ HB.out)).mono ?_;rintro e W2 ⟨rfl,hb⟩;replace H1:=Aside0.mk (H1.out.step hb);replace HK:=Aside0.mk (blk_below HK.out hb);clear hb cv f4 f2 f3 q2 q3;have cv:=H1.out.cell;obtain⟨f4,f2,f3⟩:=H1.out.free;obtain⟨q2,q3⟩:=H1.out.two)
      refine⟨trivial,?_⟩
      gi_wp2
      have eD:((W2.setCell ⟨w.heap.size,0,none⟩ (.slice none 0 0)).setCell ⟨w.heap.size+1,0,none⟩ (.bool false)).heap[D]?=some (.deferred (some [])):=by
        rw[Below.heap_setCell _ ⟨w.heap.size+1,0,none⟩ _ D (by show D≠w.heap.size+1;omega),Below.heap_setCell _ ⟨w.heap.size,0,none⟩ _ D (by show D≠w.heap.size;omega)]
        exact HK.out
      have hF:=H1.out.away.sim (Sim.put (w.heap.size+4) (w.heap.size+3) _ D _ (.deferred none) hD eD rfl);refine⟨by simp,.inl ⟨_,_,rfl,run_takeDeferred eD,?_⟩⟩
      exact⟨_,results7 (B2:=w.heap.size) (B3:=w.heap.size+1) rfl rfl hF.two.1 hF.two.2,_,[],false,rfl,HN.out (by simp),Kd.R_nil _ _ _ _ _,hF.bel⟩
    |true=>
      by_cases hx:X=x
      · have e2:(X.toList==x.toList)=true:=by rw[hx];simp
        have HX:=Aside0.mk hx;clear hx
        gi_wp2_with (first
          |(refine⟨trivial,?_⟩;gi_at_call 16;refine(callsIn_wide.2 (HCO.out _ HB.out)).mono ?_;rintro e W2 ⟨rfl,hb⟩;replace H1:=Aside0.mk (H1.out.step hb);replace HK:=Aside0.mk (blk_below HK.out hb);replace HB:=Aside0.mk hb;clear hb cv f4 f2 f3 q2 q3;have cv:=H1.out.cell;obtain⟨f4,f2,f3⟩:=H1.out.free;obtain⟨q2,q3⟩:=H1.out.two)
          |(refine⟨trivial,?_⟩;gi_at_call 12;refine(callsIn_wide.2 (HCT.out _ HB.out)).mono ?_;rintro e W3 ⟨rfl,hb⟩;replace H1:=Aside0.mk (H1.out.step hb);replace HK:=Aside0.mk (blk_below HK.out hb);clear hb cv f4 f2 f3 q2 q3;have cv:=H1.out.cell;obtain⟨f4,f2,f3⟩:=H1.out.free;obtain⟨q2,q3⟩:=H1.out.two))
        obtain⟨g1,g2,g3,g4,g5⟩:=H1.out.say hD HK.out;refine⟨by simp,.inl ⟨_,_,rfl,run_takeDeferred g1,?_⟩⟩
        exact⟨_,results7 (B2:=w.heap.size) (B3:=w.heap.size+1) rfl rfl g3 g4,_,os,true,rfl,HY.out trivial HX.out,Kd.R_lower (row_R g2) (by omega),g5⟩
      · have e2 : (X.toList == x.toList) = false := by
          rw[toListD,toListD,beq_eq_false_iff_ne];intro h;exact hx (Go.WideShapes.bytes_inj h)
        have HX:=Aside0.mk hx;clear hx
        gi_wp2_with (first
          |(refine⟨trivial,?_⟩;gi_at_call 16;refine(callsIn_wide.2 (HCO.out _ HB.out)).mono ?_;rintro e W2 ⟨rfl,hb⟩;replace H1:=Aside0.mk (H1.out.step hb);replace HK:=Aside0.mk (blk_below HK.out hb);replace HB:=Aside0.mk hb;clear hb cv f4 f2 f3 q2 q3;have cv:=H1.out.cell;obtain⟨f4,f2,f3⟩:=H1.out.free;obtain⟨q2,q3⟩:=H1.out.two)
          |(refine⟨trivial,?_⟩;gi_at_call 12;refine(callsIn_wide.2 (HCT.out _ HB.out)).mono ?_;rintro e W3 ⟨rfl,hb⟩;replace H1:=Aside0.mk (H1.out.step hb);replace HK:=Aside0.mk (blk_below HK.out hb);clear hb cv f4 f2 f3 q2 q3;have cv:=H1.out.cell;obtain⟨f4,f2,f3⟩:=H1.out.free;obtain⟨q2,q3⟩:=H1.out.two))
        have eD:((W3.setCell ⟨w.heap.size,0,none⟩ (.slice none 0 0)).setCell ⟨w.heap.size+1,0,none⟩ (.bool false)).heap[D]?=some (.deferred (some [])):=by
          rw[Below.heap_setCell _ ⟨w.heap.size+1,0,none⟩ _ D (by show D≠w.heap.size+1;omega),Below.heap_setCell _ ⟨w.heap.size,0,none⟩ _ D (by show D≠w.heap.size;omega)]
          exact HK.out
        have hF:=H1.out.away.sim (Sim.put (w.heap.size+4) (w.heap.size+3) _ D _ (.deferred none) hD eD rfl);refine⟨by simp,.inl ⟨_,_,rfl,run_takeDeferred eD,?_⟩⟩
        exact⟨_,results7 (B2:=w.heap.size) (B3:=w.heap.size+1) rfl rfl hF.two.1 hF.two.2,_,[],false,rfl,HN.out (fun h=>HX.out h.2),Kd.R_nil _ _ _ _ _,hF.bel⟩
  case stop=>
    rintro D W hD ⟨⟨v,os,h1⟩,h2⟩ hK
    rw[hsz4]at hD
    have hF:=h1.sim (Sim.put (w.heap.size+4) (w.heap.size+3) _ D _ (.deferred none) hD hK rfl);gi_wp2
    refine⟨by simp,.inl ⟨_,_,rfl,run_takeDeferred hK,?_⟩⟩
    exact⟨_,results7 (B2:=w.heap.size) (B3:=w.heap.size+1) rfl rfl hF.two.1 hF.two.2,_,[],false,rfl,h2,Kd.R_nil _ _ _ _ _,hF.bel⟩
end Go.Proofs.YtmklpbmlgjkbiaaGreatDoor.PS
end
section
namespace Go.Proofs.YtmklpbmlgjkbiaaGreatDoor.PS
open Go.RowKit Go.Proofs.YtmklpbmlgjkbiaaGreatDoorW.PrintWords Go.Proofs.YtmklpbmlgjkbiaaGreatDoorW.PrintLast
theorem spec_CodeRead_any (x:ByteArray) (w:World):Calls Tryz.prog 6 #[.string x] w (CodeAns x w):=by
  obtain⟨l,ok,h1,h2⟩:=specCode_told x;exact(PC.spec_CodeRead.calls 403 x l ok w h1).mono fun e w' ⟨v,e1,e2,e3⟩=>⟨v,l,ok,e1,h2,e2,e3⟩
def itN:Nat→Int→Int
  |0,k=>k
  |i+1,k=>itN i (next6 k)
theorem itN_succ: ∀ (i:Nat) (k:Int),next6 (itN i k)=itN (i+1) k
  |0,_=>rfl
  |i+1,k=>itN_succ i (next6 k)
theorem marked_it: ∀ (n:Nat) (k:Int),markedOp n k=itN n k
  |0,_=>rfl
  |n+1,k=>marked_it n (next6 k)
theorem marks_at: ∀ (n:Nat) (k:Int) (i:Nat),i<n→(marksOp n k)[i]?=some (markOp (itN i k))
  |0,_,i,h=>absurd h (Nat.not_lt_zero _)
  |n+1,k,0,_=>rfl
  |n+1,k,i+1,h=>by
    show(marksOp n (next6 k))[i]?=_
    exact marks_at n (next6 k) i (by omega)
theorem held_loop (n:Nat) (k:Int) (hn:n≤1000): ∀ (m i:Nat),i+m=n→laws_heldOpS.l0 (m+1) (marksOp n k) (itN i k) (i:Int)=some (itN n k)
  |0,i,h=>by
    obtain rfl:i=n:=by omega
    simp only[laws_heldOpS.l0]
    rw[if_neg (by rw[marksOp_length];omega)]
  |m+1,i,h=>by
    have hw:wrap64 ((i:Int)+1)=((i+1:Nat):Int):=by unfold wrap64;omega
    have hrd:rd_T39 (marksOp n k) (i:Int)=markOp (itN i k):=by
      unfold rd_T39;rw[List.getD_eq_getElem?_getD,Int.toNat_natCast,marks_at n k i (by omega)]
      rfl
    have ih:=held_loop n k hn m (i+1) (by omega)
    obtain⟨M,hM⟩: ∃M,M=m+1:=⟨_,rfl⟩;rw[←hM]at ih⊢
    clear hM;simp only[laws_heldOpS.l0]
    have e:wrap64 (wrap64 (wrap64 (wrap64 (wrap64 (wrap64 (itN i k+1)+1)+1)+1)+1)+1)=itN (i+1) k:=itN_succ i k;rw[if_pos (by rw[marksOp_length];omega),if_pos (by omega),hrd,hw,e,if_pos (show(markOp (itN i k)).f0=itN i k from rfl),if_pos (show(markOp (itN i k)).f1=wrap64 (itN i k+1)from rfl),if_pos (show(markOp (itN i k)).f2=wrap64 (wrap64 (itN i k+1)+1)from rfl),if_pos (show(markOp (itN i k)).f3=wrap64 (wrap64 (wrap64 (itN i k+1)+1)+1)from rfl),if_pos (show(markOp (itN i k)).f4.f0=wrap64 (wrap64 (wrap64 (wrap64 (itN i k+1)+1)+1)+1)from rfl),if_pos (show(markOp (itN i k)).f4.f1=wrap64 (wrap64 (wrap64 (wrap64 (wrap64 (itN i k+1)+1)+1)+1)+1)from rfl)]
    exact ih
theorem itN_small: ∀ (i:Nat) (k:Int),0≤k→k+6*(i:Int)≤100000→itN i k=k+6*(i:Int)
  |0,k,_,_=>by show k=_;omega
  |i+1,k,h0,h1=>by
    have:next6 k=k+6:=by unfold next6 wrap64;omega
    show itN i (next6 k)=_
    rw[this,itN_small i (k+6) (by omega) (by omega)]
    omega
theorem eqs_call {W:World} {b b':Nat} {ok ok':Nat→Prop} {v v':Value} {l:List S39} (h:Kd.R k39 39 W b ok v l) (h':Kd.R k39 39 W b' ok' v' l):Calls Tryz.prog 8 #[v,v'] W fun e w'=>e= .returned (.bool true)∧Below W.heap.size W w':=by
  obtain⟨A,c,rfl,hl,hC⟩:=Kd.R_reads h;obtain⟨A',c',rfl,hl',hC'⟩:=Kd.R_reads h';exact laws_eqOpS_as.calls A c l A' c' l true W hC hl hC' hl' (eqOps_same l)
theorem held_call {W:World} {b n:Nat} {ok:Nat→Prop} {v:Value} (hn:n≤16) (h:Kd.R k39 39 W b ok v (marksOp n 1)):Calls Tryz.prog 10 #[v,.int .i64 1] W fun e w'=>e= .returned (.int .i64 (1+6*(n:Int)))∧Below W.heap.size W w':=by
  obtain⟨A,c,rfl,hl,hC⟩:=Kd.R_reads h;have:=laws_heldOpS.calls (n+1) A c (marksOp n 1) 1 (itN n 1) W hC hl (held_loop n 1 (by omega) n 0 (by omega))
  rw[itN_small n 1 (by omega) (by omega)]at this
  exact this.mono fun e w' ⟨h1,h2⟩=>⟨h1,h2.below⟩
theorem mark_call {w1 W:World} {v:Value} {l:List S39} (hn:l.length≤16) (hB:Below w1.heap.size w1 W) (h:Kd.R k39 39 W w1.heap.size (fun _=>True) v l):Calls Tryz.prog 9 #[v,.int .i64 1] W fun e w'=>e= .returned (.int .i64 (1+6*(l.length:Int)))∧Kd.R k39 39 w' w1.heap.size (fun _=>True) v (marksOp l.length 1)∧Below w1.heap.size w1 w':=by
  refine(laws_markOpS.calls (fun _=>True) v l 1 _ _ w1 W hB h rfl).mono ?_
  rintro e w' ⟨rfl,h1,h2, -⟩
  rw[marked_it,itN_small l.length 1 (by omega) (by omega)]
  exact⟨rfl,Kd.R_mono h1 (fun _ _=>trivial),h2⟩
theorem reads_len {x:ByteArray} {l:List S39} {ok:Bool} (h:ReadsC x l ok):l.length≤16:=by
  rcases h with ⟨-,h1, -⟩|⟨-,rfl, -⟩
  · exact(code_ops h1).1.2
  · exact Nat.zero_le _
def Two (w w1 W:World) (v0 v1:Value) (l l1:List S39):Prop:=Kd.R k39 39 W w.heap.size (fun _=>True) v0 l∧Kd.R k39 39 W w1.heap.size (fun _=>True) v1 l1∧Below w1.heap.size w1 W∧Below w.heap.size w W
theorem Two.step {w w1 W W':World} {v0 v1:Value} {l l1:List S39} (h:Two w w1 W v0 v1 l l1) (hb:Below W.heap.size W W'):Two w w1 W' v0 v1 l l1:=
  ⟨Kd.R_below h.1 hb,Kd.R_below h.2.1 hb,below_step h.2.2.1 hb,below_step h.2.2.2 hb⟩
theorem Two.below {w w1 W:World} {v0 v1:Value} {l l1:List S39} (h:Two w w1 W v0 v1 l l1):Below w.heap.size w W:=h.2.2.2
theorem Two.ref {w w1 W:World} {v0 v1:Value} {l l1:List S39} (h:Two w w1 W v0 v1 l l1):Kd.R k39 39 W w.heap.size (fun _=>True) v0 l:=h.1
theorem exactCodeRead (s:ByteArray) (w:World) (hs:s.size≤9223372036854775807) (hT:Env w):
    Calls Tryz.prog 3 #[.string s] w fun e w'=>e= .returned (.bool true)∧Below w.heap.size w w':=by
  have HE:=Aside0.mk hT;clear hT;by_cases m0:s.size>1048576
  · have e0:decide ((1048576:Int)<(s.size:Int))=true:=decide_eq_true (by omega)
    clear m0;go_enter Tryz.func3,Tryz.ntmps3
    go_wp2
    go_ret
    exact⟨rfl,Below.refl _ _⟩
  have e0:decide ((1048576:Int)<(s.size:Int))=false:=decide_eq_false (by omega)
  have H1:Aside0 (∀W,Calls Tryz.prog 6 #[.string s] W (CodeAns s W)):=⟨fun W=>spec_CodeRead_any s W⟩
  have H2:Aside0 (∀W,Below w.heap.size w W→Calls Tryz.prog 7 #[.string s] W (CodeAns s W)):=⟨fun W hW=>impl_CodeRead_any s W (HE.out.below hW)⟩
  clear m0;go_enter Tryz.func3,Tryz.ntmps3
  go_upto_region 5 with (first
    |(go_at_call 6;(with_reducible refine(H1.out _).mono ?_);rintro e w1 ⟨v0,l,ok,rfl,hQ,hR,hb⟩;have HQ:=Aside0.mk hQ;have HR:=Aside0.mk hR;have HB:=Aside0.mk hb;clear hQ hR hb)
    |(go_at_call 7;(with_reducible refine(H2.out _ HB.out).mono ?_);rintro e w2 ⟨v1,l',ok',rfl,hQ,hR,hb⟩;obtain⟨rfl,rfl⟩:=readsC_one HQ.out hQ;have HW:Aside0 (Two w w1 w2 v0 v1 l l):=⟨Kd.R_below HR.out hb,hR,hb,below_step HB.out hb⟩;clear hQ hR hb))
  have HN:=Aside0.mk (reads_len HQ.out);obtain⟨m,hm⟩: ∃m:Int,m=1+6*(l.length:Int):=⟨_,rfl⟩;have hm0:(m<0)=False:=eq_false (by omega)
  have hm1:decide (m<0)=false:=decide_eq_false (by omega)
  have HE1:Aside0 (∀W,Two w w1 W v0 v1 l l→Calls Tryz.prog 8 #[v1,v0] W fun e w'=>e= .returned (.bool true)∧Below W.heap.size W w'):=⟨fun W h=>eqs_call h.2.1 h.1⟩
  have HM:Aside0 (∀W,Two w w1 W v0 v1 l l→Calls Tryz.prog 9 #[v1,.int .i64 1] W fun e w'=>e= .returned (.int .i64 m)∧Two w w1 w' v0 v1 l (marksOp l.length 1)):=⟨fun W h=>(mark_call HN.out h.2.2.1 h.2.1).mono fun e w' ⟨h1,h2,h3⟩=>⟨by rw[h1,hm],Kd.R_below HR.out h3,h2,h3,below_step HB.out h3⟩⟩
  have HH:Aside0 (∀W,Two w w1 W v0 v1 l (marksOp l.length 1)→Calls Tryz.prog 10 #[v1,.int .i64 1] W fun e w'=>e= .returned (.int .i64 m)∧Below W.heap.size W w'):=⟨fun W h=>by rw[hm];exact held_call HN.out h.2.1⟩
  clear hm H1;go_upto_region 8 with (go_at_call 8;(with_reducible refine(HE1.out _ HW.out).mono ?_);rintro e w3 ⟨rfl,hb⟩;replace HW:=Aside0.mk (HW.out.step hb);clear hb)
  go_upto_region 15 with (first
    |(go_at_call 9;(with_reducible refine(HM.out _ HW.out).mono ?_);rintro e w4 ⟨rfl,hT⟩;have HV:=Aside0.mk hT;clear hT)
    |(go_at_call 10;(with_reducible refine(HH.out _ HV.out).mono ?_);rintro e w5 ⟨rfl,hb⟩;replace HV:=Aside0.mk (HV.out.step hb);clear hb))
  go_upto_region 18 with (first
    |(go_at_call 7;(with_reducible refine(H2.out _ HV.out.below).mono ?_);rintro e w6 ⟨v2,l2,ok2,rfl,hQ,hR,hb⟩;obtain⟨rfl,rfl⟩:=readsC_one HQ.out hQ;replace HV:=Aside0.mk (HV.out.step hb);have HE2:=Aside0.mk (eqs_call hR HV.out.ref);clear hQ hR hb)
    |(go_at_call 8;(with_reducible refine HE2.out.mono ?_);rintro e w7 ⟨rfl,hb⟩;replace HV:=Aside0.mk (HV.out.step hb);clear hb))
  go_wp2_with (go_at_call 10;(with_reducible refine(HH.out _ HV.out).mono ?_);rintro e w8 ⟨rfl,hb⟩;replace HV:=Aside0.mk (HV.out.step hb);clear hb)
  go_ret
  exact⟨rfl,HV.out.below⟩
end Go.Proofs.YtmklpbmlgjkbiaaGreatDoor.PS
end
