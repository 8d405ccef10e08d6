/- What the rows of CDB rest on, part 7. -/

import Derived.Test.YtmklpbmlgjkbiaaGreatDoorQCDB5
set_option linter.unusedVariables false
set_option linter.unusedSimpArgs false
set_option maxHeartbeats 8000000
set_option maxRecDepth 100000
section
namespace Go.Proofs.YtmklpbmlgjkbiaaGreatDoor.PS
open Go.RowKit Go.Shelf Go.Proofs.YtmklpbmlgjkbiaaGreatDoorW.PrintWords Go.Proofs.YtmklpbmlgjkbiaaGreatDoorW.PrintLast
attribute [local go_sem] Oper.semAt_some
theorem info39s:(Tryz.prog.info? 39).map (fun i=>(i.zero,i.size,i.bytes))=some (some (.agg #[(.int .i64 0),(.int .i64 0),(.int .i64 0),(.int .i64 0),(.int .i64 0),(.int .i64 0)]),6,48):=by kernel_rfl
theorem lines_make (x:ByteArray) (W:World):Calls Tryz.prog 20 #[.string x] W fun e w'=>e= .returned (.func (.func 44) #[] #[.pointer (some ⟨W.heap.size,0,none⟩)])∧w'=W.alloc (.cells #[.string x] 9):=by
  go_enter Tryz.func20,Tryz.ntmps20
  go_wp2
  go_ret
  exact⟨rfl,rfl⟩
def rowC (os:List S39):List Value:=(os.map cells39).flatten
theorem rowC_snoc (os:List S39) (y:S39):rowC (os++ [y])=rowC os++cells39 y:=by simp[rowC]
theorem rowC_len: ∀os:List S39,(rowC os).length=os.length*6
  | []=>rfl
  |y::os=>by
    have:=rowC_len os;unfold rowC at*;rw[List.map_cons,List.flatten_cons,List.length_append,this,List.length_cons];show 6+_=_
    omega
theorem rowC_at: ∀ (os:List S39) (j:Nat) (y:S39),os[j]?=some y→((rowC os).drop (j*6)).take 6=cells39 y
  | [],j,y,h=>by simp at h
  |z::os,0,y,h=>by
    simp at h
    subst h;rfl
  |z::os,j+1,y,h=>by
    have:=rowC_at os j y (by simpa using h)
    rw[←this,Nat.add_mul,Nat.one_mul,Nat.add_comm,←List.drop_drop];rfl
theorem row_R {W:World} {n0:Nat} {v:Value} {os:List S39} (h:W.ownsRow n0 39 6 v os.length (rowC os)):Kd.R k39 39 W n0 (fun _=>True) v os:=
  ⟨fun _ _=>trivial,rowC os,h,rowC_len os,fun j y hj=>by
    show k39.M W n0 _ y _
    rw[show k39.sz=6 from rfl,rowC_at os j y hj]
    exact k39_mkM W n0 _ y⟩
structure RdI (w:World) (os:List S39) (v:Value) (W:World):Prop where
  own:W.ownsRow (w.heap.size+4) 39 6 v os.length (rowC os)
  b4:W.heap[w.heap.size+2]?=some (.cells #[v] 22 (0,0))
  b2:W.heap[w.heap.size]?=some (.cells #[.slice none 0 0] 22 (0,0))
  b3:W.heap[w.heap.size+1]?=some (.cells #[.bool false] 4 (0,0))
  bel:Below w.heap.size w W
theorem RdI.step {w W W':World} {os:List S39} {v:Value} (h:RdI w os v W) (hb:Below W.heap.size W W'):RdI w os v W':=
  ⟨pw_own_below h.own hb,blk_below h.b4 hb,blk_below h.b2 hb,blk_below h.b3 hb,below_step h.bel hb⟩
theorem RdI.sim {w W W':World} {os:List S39} {v:Value} (h:RdI w os v W) (s:Sim (w.heap.size+4) (w.heap.size+3) W W'):RdI w os v W':=
  ⟨own_move h.own (fun k hk=>by
    obtain⟨cells,hc⟩:=own_typed h.own k hk;have:=own_base h.own k hk;rw[hc];exact s.same k _ hc (by omega) (fun _=>rfl)),s.box h.b4 (by omega),s.box h.b2 (by omega),s.box h.b3 (by omega),s.below h.bel (Nat.le_refl _) (by omega) (by omega)⟩
theorem RdI.two {w W:World} {os:List S39} {v:Value} (h:RdI w os v W):W.cell? ⟨w.heap.size,0,none⟩=some (.slice none 0 0)∧W.cell? ⟨w.heap.size+1,0,none⟩=some (.bool false):=⟨(blk_cell h.b2 0).trans rfl,(blk_cell h.b3 0).trans rfl⟩
theorem RdI.cell {w W:World} {os:List S39} {v:Value} (h:RdI w os v W):W.cell? ⟨w.heap.size+2,0,none⟩=some v:=(blk_cell h.b4 0).trans rfl
theorem RdI.free {w W:World} {os:List S39} {v:Value} (h:RdI w os v W):W.frozen? ⟨w.heap.size+2,0,none⟩=false∧W.frozen? ⟨w.heap.size,0,none⟩=false∧W.frozen? ⟨w.heap.size+1,0,none⟩=false:=⟨blk_frozen h.b4 0,blk_frozen h.b2 0,blk_frozen h.b3 0⟩
theorem RdI.app {w W W':World} {os:List S39} {v v':Value} (h:RdI w os v W) (y:S39) (ho:W'.ownsRow (w.heap.size+4) 39 6 v' (os.length+1) (rowC os++cells39 y)) (hg:W.grownBy W' v.ownBlock):RdI w (os++ [y]) v' (W'.setCell ⟨w.heap.size+2,0,none⟩ v'):=by
  have far: ∀k,k<w.heap.size+4→k<W.heap.size→W'.heap[k]?=W.heap[k]?:=fun k hk hl=>hg.block k hl (fun e=>by have:=own_base h.own k e.symm;omega)
  have l4:=blk_lt h.b4;have e4:=(far _ (by omega) l4).trans h.b4
  have e2:=(far _ (by omega) (by omega)).trans h.b2
  have e3:=(far _ (by omega) (by omega)).trans h.b3
  refine⟨?_,blk_set e4 0 v',(Below.heap_setCell W' ⟨w.heap.size+2,0,none⟩ v' _ (by show w.heap.size≠w.heap.size+2;omega)).trans e2,(Below.heap_setCell W' ⟨w.heap.size+2,0,none⟩ v' _ (by show w.heap.size+1≠w.heap.size+2;omega)).trans e3,below_set (h.bel.grown hg h.bel.size (fun b hb=>by have:=own_base h.own b hb;omega)) (by show w.heap.size≤w.heap.size+2;omega)⟩
  rw[rowC_snoc,List.length_append];exact own_setCell ho (fun e=>by have:=own_base ho _ e.symm;have:w.heap.size+4≤w.heap.size+2:=this;omega) v'
theorem RdI.grown {w W W':World} {os:List S39} {v:Value} (h:RdI w os v W) (hg:W.grownBy W' v.ownBlock) {k:Nat} (hk:k<w.heap.size+4) (hl:k<W.heap.size):W'.heap[k]?=W.heap[k]?:=hg.block k hl (fun e=>by have:=own_base h.own k e.symm;omega)
theorem RdI.box {w W W':World} {os:List S39} {v:Value} (h:RdI w os v W) (hg:W.grownBy W' v.ownBlock):W'.cell? ⟨w.heap.size+2,0,none⟩=some v∧W'.frozen? ⟨w.heap.size+2,0,none⟩=false:=by
  have e:=(h.grown hg (by omega) (blk_lt h.b4)).trans h.b4
  exact⟨(blk_cell e 0).trans rfl,blk_frozen e 0⟩
theorem RdI.keeps {w W W':World} {os:List S39} {v:Value} (h:RdI w os v W) (hg:W.grownBy W' v.ownBlock):KeepsOthers W W':=KeepsOthers.of_grownBy hg (fun j o e ho=>by
  obtain⟨cells,hc⟩:=own_typed h.own j e;rw[hc]at ho;cases ho;rfl)
theorem RdI.away {w W:World} {os:List S39} {v:Value} (h:RdI w os v W):RdI w os v ((W.setCell ⟨w.heap.size,0,none⟩ (.slice none 0 0)).setCell ⟨w.heap.size+1,0,none⟩ (.bool false)):=by
  have f: ∀ (W:World) (B k:Nat) (u:Value),k≠B→(W.setCell ⟨B,0,none⟩ u).heap[k]?=W.heap[k]?:=fun W B k u hk=>Below.heap_setCell W ⟨B,0,none⟩ u k hk
  refine⟨own_setCell (own_setCell h.own (fun e=>by have:w.heap.size+4≤w.heap.size:=own_base h.own _ e.symm;omega) _) (fun e=>by have:w.heap.size+4≤w.heap.size+1:=own_base h.own _ e.symm;omega) _,?_,?_,?_,below_set (below_set h.bel (by show w.heap.size≤w.heap.size;omega)) (by show w.heap.size≤w.heap.size+1;omega)⟩
  · rw[f _ _ _ _ (by omega),f _ _ _ _ (by omega)];exact h.b4
  · rw[f _ _ _ _ (by omega)];exact blk_set h.b2 0 _
  · exact blk_set ((f _ _ _ _ (by omega)).trans h.b3) 0 _
theorem cells_new (W:World) (y:S39) (g:Nat) (hg:g=W.heap.size): ∀j u,(cells39 y)[j]?=some u→(W.alloc (.cells #[.int .i64 y.f0,.int .i64 y.f1,.int .i64 y.f2,.int .i64 y.f3,.int .i64 y.f4.f0,.int .i64 y.f4.f1] 39)).cell? ((⟨g,0,none⟩:Addr).add j)=some u:=by
  subst hg;intro j u hj;have hb:=blk_new W (.cells #[.int .i64 y.f0,.int .i64 y.f1,.int .i64 y.f2,.int .i64 y.f3,.int .i64 y.f4.f0,.int .i64 y.f4.f1] 39);rw[show(⟨W.heap.size,0,none⟩:Addr).add j=⟨W.heap.size,j,none⟩ by(simp[Addr.add];try exact fun h=>h.symm),blk_cell hb j]
  rw[←hj];simp[cells39]
theorem keeps_below {n0:Nat} {W W':World} (h:Below W.heap.size W W'):KeepsFrom n0 W W':=⟨h.size,fun k o _ hk _=>(h.block k (Array.getElem?_eq_some_iff.1 hk).1).trans hk⟩
theorem results7 {W:World} {v:Value} {b:Bool} {B2 B3:Nat} {tmps:Array Value} (t2:tmps[2]?.getD undef= .pointer (some ⟨B2,0,none⟩)) (t3:tmps[3]?.getD undef= .pointer (some ⟨B3,0,none⟩)) (c2:W.cell? ⟨B2,0,none⟩=some v) (c3:W.cell? ⟨B3,0,none⟩=some (.bool b)):
    (results Tryz.f7 tmps).run Tryz.prog W= .ok (.tuple #[v,.bool b]) W:=by
  simp[results,Tryz.results7,go_sem,t2,t3,c2,c3,Tryz.underlying22,Tryz.underlying4]
theorem RdI.say {w W:World} {os:List S39} {v:Value} (h:RdI w os v W) {D:Nat} (hD:w.heap.size+4≤D) (hK:W.heap[D]?=some (.deferred (some []))):
    ((W.setCell ⟨w.heap.size,0,none⟩ v).setCell ⟨w.heap.size+1,0,none⟩ (.bool true)).heap[D]?=some (.deferred (some []))∧
    (((W.setCell ⟨w.heap.size,0,none⟩ v).setCell ⟨w.heap.size+1,0,none⟩ (.bool true)).putObj D (.deferred none)).ownsRow (w.heap.size+4) 39 6 v os.length (rowC os)∧
    (((W.setCell ⟨w.heap.size,0,none⟩ v).setCell ⟨w.heap.size+1,0,none⟩ (.bool true)).putObj D (.deferred none)).cell? ⟨w.heap.size,0,none⟩=some v∧
    (((W.setCell ⟨w.heap.size,0,none⟩ v).setCell ⟨w.heap.size+1,0,none⟩ (.bool true)).putObj D (.deferred none)).cell? ⟨w.heap.size+1,0,none⟩=some (.bool true)∧
    Below w.heap.size w (((W.setCell ⟨w.heap.size,0,none⟩ v).setCell ⟨w.heap.size+1,0,none⟩ (.bool true)).putObj D (.deferred none)):=by
  have f: ∀ (W:World) (B k:Nat) (u:Value),k≠B→(W.setCell ⟨B,0,none⟩ u).heap[k]?=W.heap[k]?:=fun W B k u hk=>Below.heap_setCell W ⟨B,0,none⟩ u k hk
  have own1:=own_setCell (p:=⟨w.heap.size+1,0,none⟩) (own_setCell (p:=⟨w.heap.size,0,none⟩) h.own (fun e=>by have:w.heap.size+4≤w.heap.size:=own_base h.own _ e.symm;omega) v) (fun e=>by have:w.heap.size+4≤w.heap.size+1:=own_base h.own _ e.symm;omega) (.bool true)
  have e2:((W.setCell ⟨w.heap.size,0,none⟩ v).setCell ⟨w.heap.size+1,0,none⟩ (.bool true)).heap[w.heap.size]?=some (.cells #[v] 22 (0,0)):=(f _ _ _ _ (by omega)).trans (blk_set h.b2 0 v)
  have e3:((W.setCell ⟨w.heap.size,0,none⟩ v).setCell ⟨w.heap.size+1,0,none⟩ (.bool true)).heap[w.heap.size+1]?=some (.cells #[.bool true] 4 (0,0)):=blk_set ((f _ _ _ _ (by omega)).trans h.b3) 0 _
  have eD:((W.setCell ⟨w.heap.size,0,none⟩ v).setCell ⟨w.heap.size+1,0,none⟩ (.bool true)).heap[D]?=some (.deferred (some [])):=by rw[f _ _ _ _ (by omega),f _ _ _ _ (by omega)];exact hK
  have hb:Below w.heap.size w ((W.setCell ⟨w.heap.size,0,none⟩ v).setCell ⟨w.heap.size+1,0,none⟩ (.bool true)):=below_set (below_set h.bel (by show w.heap.size≤w.heap.size;omega)) (by show w.heap.size≤w.heap.size+1;omega)
  revert own1 e2 e3 eD hb
  generalize (W.setCell ⟨w.heap.size,0,none⟩ v).setCell ⟨w.heap.size+1,0,none⟩ (.bool true)=V;intro own1 e2 e3 eD hb;have sp: ∀k,k≠D→(V.putObj D (.deferred none)).heap[k]?=V.heap[k]?:=fun k hk=>World.putObj_heap_other hk
  refine⟨eD,own_move own1 (fun k hk=>sp k ?_),(blk_cell ((sp _ (by omega)).trans e2) 0).trans rfl,(blk_cell ((sp _ (by omega)).trans e3) 0).trans rfl,belowK_b (w:=w) (Nat.le_refl _) V D _ (.deferred none) (by omega) eD rfl rfl|>fun h'=> ?_⟩
  · rintro rfl
    obtain⟨cells,hc⟩:=own_typed own1 _ hk;rw[eD]at hc;cases hc
  · exact hb.trans h'
def CodeAns (x:ByteArray) (w:World) (e:Ending) (w':World):Prop:= ∃ (v:Value) (l:List S39) (ok:Bool),e= .returned (.tuple #[v,.bool ok])∧ReadsC x l ok∧Kd.R k39 39 w' w.heap.size (fun _=>True) v l∧Below w.heap.size w w'
def CInv (x:ByteArray) (w:World) (r:ByteArray) (W:World):Prop:= ∃ (os:List S39) (v:Value),RdI w os v W∧InvC x os r∧os.length+r.size≤400
def CEnd (x:ByteArray) (w:World) (W:World):Prop:=(∃v os,RdI w os v W)∧ReadsC x [] false
theorem impl_CodeRead_any (x:ByteArray) (w:World) (hE:Env w):Calls Tryz.prog 7 #[.string x] w (CodeAns x w):=by
  have HE:=Aside0.mk hE;clear hE;refine(callsIn_wide (n:=6)).1 ?_
  refine callsIn_of_wp_marks Tryz.func7 rfl trivial ?_ rfl
  simp only[Tryz.ntmps7,List.size_toArray,List.length_cons,List.length_nil,Nat.reduceAdd,Nat.reduceSub,Array.replicate_succ,Array.replicate_zero,List.push_toArray,List.append_toArray,List.nil_append,List.cons_append]
  by_cases hz:400<x.size
  · have e0:decide ((400:Int)<(x.size:Int))=true:=decide_eq_true (by omega)
    have HZ:=Aside0.mk hz;clear hz;gi_wp2
    have b2:=blk_alloc (blk_new w (.cells #[.slice none 0 0] 22)) (.cells #[.bool false] 4);have b3:=blk_new (w.alloc (.cells #[.slice none 0 0] 22)) (.cells #[.bool false] 4);rw[World.size_alloc]at b3
    exact⟨_,results7 (B2:=w.heap.size) (B3:=w.heap.size+1) rfl rfl ((blk_cell b2 0).trans rfl) ((blk_cell b3 0).trans rfl),_,[],false,rfl,.inr ⟨rfl,rfl,fun c a b=>by have:=codeText_le a;rw[b]at this;exact absurd this (by have:=HZ.out;omega)⟩,Kd.R_nil _ _ _ _ _,below_alloc (below_alloc (Below.refl _ _) _) _⟩
  have e0:decide ((400:Int)<(x.size:Int))=false:=decide_eq_false (by omega)
  have HZ:=Aside0.mk hz;clear hz;have HL:Aside0 (∀W,Calls Tryz.prog 20 #[.string x] W fun e w'=>e= .returned (.func (.func 44) #[] #[.pointer (some ⟨W.heap.size,0,none⟩)])∧w'=W.alloc (.cells #[.string x] 9)):=⟨fun W=>lines_make x W⟩
  gi_wp2_with (refine⟨trivial,?_⟩;gi_at_call 20;refine(callsIn_wide.2 (HL.out _)).mono ?_;rintro e w' ⟨rfl,rfl⟩)
  rw[show w.heap.size+1+1=w.heap.size+2 from rfl,show w.heap.size+2+1=w.heap.size+3 from rfl]
  have hsz4:((((w.alloc (.cells #[.slice none 0 0] 22)).alloc (.cells #[.bool false] 4)).alloc (.cells #[.slice none 0 0] 22)).alloc (.cells #[.string x] 9)).heap.size=w.heap.size+4:=by simp
  have hC:RdI w [] (.slice none 0 0) ((((w.alloc (.cells #[.slice none 0 0] 22)).alloc (.cells #[.bool false] 4)).alloc (.cells #[.slice none 0 0] 22)).alloc (.cells #[.string x] 9)):=by
    refine⟨own_nil _ _ _ _,blk_alloc ?_ _,blk_alloc (blk_alloc (blk_alloc (blk_new w _) _) _) _,blk_alloc (blk_alloc ?_ _) _,below_alloc (below_alloc (below_alloc (below_alloc (Below.refl _ _) _) _) _) _⟩
    · have:=blk_new ((w.alloc (.cells #[.slice none 0 0] 22)).alloc (.cells #[.bool false] 4)) (.cells #[.slice none 0 0] 22)
      rwa [World.size_alloc,World.size_alloc]at this
    · have:=blk_new (w.alloc (.cells #[.slice none 0 0] 22)) (.cells #[.bool false] 4)
      rwa [World.size_alloc]at this
  have hB:restIs ((((w.alloc (.cells #[.slice none 0 0] 22)).alloc (.cells #[.bool false] 4)).alloc (.cells #[.slice none 0 0] 22)).alloc (.cells #[.string x] 9)) (w.heap.size+3) x:=by
    have:=blk_new (((w.alloc (.cells #[.slice none 0 0] 22)).alloc (.cells #[.bool false] 4)).alloc (.cells #[.slice none 0 0] 22)) (.cells #[.string x] 9);rwa [World.size_alloc,World.size_alloc,World.size_alloc]at this
  revert hsz4 hC hB
  generalize (((w.alloc (.cells #[.slice none 0 0] 22)).alloc (.cells #[.bool false] 4)).alloc (.cells #[.slice none 0 0] 22)).alloc (.cells #[.string x] 9)=W0;intro hsz4 hC hB;obtain⟨i0,hi0,hz0,hz1,hz2⟩:=info_parts info39s;have HO:Aside0 (∀W X,Below w.heap.size w W→Calls Tryz.prog 21 #[.string X] W (OpAns X W)):=⟨fun W X hW=>impl_OpRead_any X W (HE.out.below hW)⟩
  have HT:Aside0 (∀W X,X.size≤1000→Calls Tryz.prog 22 #[.string X,.string ⟨#[10]⟩] W fun e w'=>e= .returned (.string (trimB X))∧w'=W):=⟨fun W X hX=>Tryz.strings_TrimSuffix X ⟨#[10]⟩ W (by omega)⟩
  refine range_lines 6 (by omega) (w.heap.size+3) x rfl rfl hB (CInv x w) (CEnd x w) ?hI ?hIx ?hsz ?h0 (fun q=> { tmps:= #[.string x,undef,.pointer (some ⟨w.heap.size,0,none⟩),.pointer (some ⟨w.heap.size+1,0,none⟩),.pointer (some ⟨w.heap.size+2,0,none⟩),.string q,undef,undef,.string x,.int .i64 (x.size:Int),.bool false,.string x,.func (.func 44) #[] #[.pointer (some ⟨w.heap.size+3,0,none⟩)],.string q,undef,undef,undef,undef,undef,undef,undef,undef,undef,undef,undef,undef,undef,undef,undef,undef,undef,undef,undef,undef,undef,undef],defers:=[] }) ?assign ?body ?done ?stop
  case hI=>
    rintro r W W' s ⟨os,v,h1,h2,h3⟩
    rw[hsz4]at s
    exact⟨os,v,h1.sim s,h2,h3⟩
  case hIx=>
    rintro W W' s ⟨⟨v,os,h1⟩,h2⟩
    rw[hsz4]at s
    exact⟨⟨v,os,h1.sim s⟩,h2⟩
  case hsz=>
    rintro r W ⟨os,v,h1,h2,h3⟩
    omega
  case h0=>exact⟨[],.slice none 0 0,hC,invC_first x,by have:=HZ.out;simp;omega⟩
  case assign=>
    intro l r W K hK;gi_wp2
    exact hK
  case body=>
    rintro l r W ⟨os,v,h1,h2,h3⟩ hr hR
    have H1:=Aside0.mk h1;have H2:=Aside0.mk h2;have HR:=Aside0.mk hR;have HL3:Aside0 (os.length+r.size≤400∧r.size≠0∧(lineOf r).size≤r.size):=⟨h3,hr,line_size r⟩;have d1:1≤6-1-1:=by omega
    clear h1 h2 h3 hr hR hC hB
    gi_wp2_with (first
      |(refine⟨trivial,?_⟩;gi_at_call 22;refine(CallsIn.inRound l (callsIn_wide.2 (HT.out _ _ (by have:=HL3.out;omega)))).mono ?_;rintro e w' ⟨rfl,rfl⟩)
      |(refine⟨trivial,?_⟩;gi_at_call 21;refine(CallsIn.inRound l (callsIn_wide.2 (HO.out _ _ H1.out.bel))).mono ?_;rintro e w1 ⟨k,rr,s,t,a,b,ok,rfl,hRd,hb⟩;have HRd:=Aside0.mk hRd;have HB:=Aside0.mk hb;have HW:=Aside0.mk (H1.out.step (below_alloc hb (.cells #[.int .i64 k,.int .i64 rr,.int .i64 s,.int .i64 t,.int .i64 a,.int .i64 b] 39)));clear hRd hb;obtain⟨c0,c1,c2,c3,c4,c5⟩:=box6 (blk_new w1 (.cells #[.int .i64 k,.int .i64 rr,.int .i64 s,.int .i64 t,.int .i64 a,.int .i64 b] 39));have cv:=HW.out.cell;obtain⟨f4,f2,f3⟩:=HW.out.free;obtain⟨q2,q3⟩:=HW.out.two;cases ok)
      |(gi_at_builtin;refine wpListIn_append_own _ rfl _ _ 22 rfl (w.heap.size+4) 39 i0 (.agg #[.int .i64 0,.int .i64 0,.int .i64 0,.int .i64 0,.int .i64 0,.int .i64 0]) 6 48 Tryz.underlying22 hi0 hz0 hz1 hz2 rfl (by decide) _ _ _ rfl ((HW.out.step (below_alloc (Below.refl _ _) (.cells #[.int .i64 k,.int .i64 rr,.int .i64 s,.int .i64 t,.int .i64 a,.int .i64 b] 39))).own) ⟨w1.heap.size+1,0,none⟩ 1 1 (cells39 ⟨k,rr,s,t,⟨a,b⟩⟩) rfl rfl (cells_new _ ⟨k,rr,s,t,⟨a,b⟩⟩ _ (by simp)) (by simp[cells39,Value.oneCell']) (by have:=HL3.out;unfold maxLen;omega) (by have:=HL3.out;omega) (by have:=(HW.out.step (below_alloc (Below.refl _ _) (.cells #[.int .i64 k,.int .i64 rr,.int .i64 s,.int .i64 t,.int .i64 a,.int .i64 b] 39))).bel.size;have:=blk_lt HW.out.b4;simp;simp at this;omega) ?_;intro v' w9 hown' hgrow _;obtain⟨g',cap',rfl⟩:=ownsRow_succ hown';have H9:=Aside0.mk (show _∧_ from⟨hown',hgrow⟩);obtain⟨p4,p5⟩:=(HW.out.step (below_alloc (Below.refl _ _) (.cells #[.int .i64 k,.int .i64 rr,.int .i64 s,.int .i64 t,.int .i64 a,.int .i64 b] 39))).box hgrow;clear hown' hgrow))
    · exact⟨((keeps_below (below_alloc HB.out _)).trans ((KeepsOthers.setCell _ _ _).from _)).trans ((KeepsOthers.setCell _ _ _).from _),⟨_,_,HW.out.away⟩,(invC_step H2.out HL3.out.2.1 HRd.out).2 rfl⟩
    · have hV:=HW.out.step (below_alloc (Below.refl _ _) (.cells #[.int .i64 k,.int .i64 rr,.int .i64 s,.int .i64 t,.int .i64 a,.int .i64 b] 39))
      have hbb:=below_alloc (below_alloc HB.out (.cells #[.int .i64 k,.int .i64 rr,.int .i64 s,.int .i64 t,.int .i64 a,.int .i64 b] 39)) (.cells #[.int .i64 k,.int .i64 rr,.int .i64 s,.int .i64 t,.int .i64 a,.int .i64 b] 39);refine⟨((keeps_below hbb).trans ((hV.keeps H9.out.2).from _)).trans ((KeepsOthers.setCell _ _ _).from _),⟨_,_,hV.app ⟨k,rr,s,t,⟨a,b⟩⟩ H9.out.1 H9.out.2,(invC_step H2.out HL3.out.2.1 HRd.out).1 rfl,?_⟩,?_⟩
      · have:=rest_lt HL3.out.2.1
        have:=HL3.out.1;rw[List.length_append];show _+1+_≤400
        omega
      · have e1:=blk_below HR.out hbb
        exact(Below.heap_setCell w9 ⟨w.heap.size+2,0,none⟩ _ _ (by show w.heap.size+3≠w.heap.size+2;omega)).trans ((hV.grown H9.out.2 (by omega) (blk_lt e1)).trans e1)
  case done=>
    rintro D r W hD hr ⟨os,v,h1,h2,h3⟩ hK
    rw[hsz4]at hD
    obtain⟨A,c,hv,hl,hCC⟩:=Kd.R_reads (row_R h1.own);subst hv;have HCO:Aside0 (∀W',Below W.heap.size W W'→Calls Tryz.prog 16 #[.slice A os.length c] W' fun e w'=>e= .returned (.bool (codeB os))∧Below W'.heap.size W' w'):=⟨fun W' hb=>impl_CodeOk.calls A c os (codeB os) W' (Kd.C_below hCC hb) hl rfl⟩
    have HCT:Aside0 (∀W',Below W.heap.size W W'→Calls Tryz.prog 12 #[.slice A os.length c] W' fun e w'=>e= .returned (.string (codeText os))∧Below W'.heap.size W' w'):=⟨fun W' hb=>impl_CodeText_any A c os W' (Kd.C_below hCC hb) hl (HE.out.below (below_step h1.bel hb)).1.1⟩
    have HN:Aside0 (¬(codeB os=true∧codeText os=x)→ReadsC x [] false):=⟨invC_no h2 hr⟩;have HY:Aside0 (codeB os=true→codeText os=x→ReadsC x os true):=⟨fun a b=>.inl ⟨rfl,a,b⟩⟩
    have HB:=Aside0.mk (Below.refl W.heap.size W);have H1:=Aside0.mk h1;have HK:=Aside0.mk hK;obtain⟨bb,hbb⟩: ∃b,codeB os=b:=⟨_,rfl⟩;obtain⟨X,hX⟩: ∃X,codeText os=X:=⟨_,rfl⟩;rw[hbb]at HCO HN HY
    rw[hX]at HCT HN HY
    have cv:=h1.cell;obtain⟨f4,f2,f3⟩:=h1.free;obtain⟨q2,q3⟩:=h1.two;clear h1 h2 h3 hK hbb hX hCC hr hB hC;cases bb with
    |false=>
      gi_wp2_with (refine⟨trivial,?_⟩;gi_at_call 16;refine(callsIn_wide.2 (HCO.out _ HB.out)).mono ?_;rintro e W2 ⟨rfl,hb⟩;replace H1:=Aside0.mk (H1.out.step hb);replace HK:=Aside0.mk (blk_below HK.out hb);clear hb cv f4 f2 f3 q2 q3;have cv:=H1.out.cell;obtain⟨f4,f2,f3⟩:=H1.out.free;obtain⟨q2,q3⟩:=H1.out.two)
      refine⟨trivial,?_⟩
      gi_wp2
      have eD:((W2.setCell ⟨w.heap.size,0,none⟩ (.slice none 0 0)).setCell ⟨w.heap.size+1,0,none⟩ (.bool false)).heap[D]?=some (.deferred (some [])):=by
        rw[Below.heap_setCell _ ⟨w.heap.size+1,0,none⟩ _ D (by show D≠w.heap.size+1;omega),Below.heap_setCell _ ⟨w.heap.size,0,none⟩ _ D (by show D≠w.heap.size;omega)]
        exact HK.out
      have hF:=H1.out.away.sim (Sim.put (w.heap.size+4) (w.heap.size+3) _ D _ (.deferred none) hD eD rfl);refine⟨by simp,.inl ⟨_,_,rfl,run_takeDeferred eD,?_⟩⟩
      exact⟨_,results7 (B2:=w.heap.size) (B3:=w.heap.size+1) rfl rfl hF.two.1 hF.two.2,_,[],false,rfl,HN.out (by simp),Kd.R_nil _ _ _ _ _,hF.bel⟩
    |true=>
      by_cases hx:X=x
      · have e2:(X.toList==x.toList)=true:=by rw[hx];simp
        have HX:=Aside0.mk hx;clear hx
        gi_wp2_with (first
          |(refine⟨trivial,?_⟩;gi_at_call 16;refine(callsIn_wide.2 (HCO.out _ HB.out)).mono ?_;rintro e W2 ⟨rfl,hb⟩;replace H1:=Aside0.mk (H1.out.step hb);replace HK:=Aside0.mk (blk_below HK.out hb);replace HB:=Aside0.mk hb;clear hb cv f4 f2 f3 q2 q3;have cv:=H1.out.cell;obtain⟨f4,f2,f3⟩:=H1.out.free;obtain⟨q2,q3⟩:=H1.out.two)
          |(refine⟨trivial,?_⟩;gi_at_call 12;refine(callsIn_wide.2 (HCT.out _ HB.out)).mono ?_;rintro e W3 ⟨rfl,hb⟩;replace H1:=Aside0.mk (H1.out.step hb);replace HK:=Aside0.mk (blk_below HK.out hb);clear hb cv f4 f2 f3 q2 q3;have cv:=H1.out.cell;obtain⟨f4,f2,f3⟩:=H1.out.free;obtain⟨q2,q3⟩:=H1.out.two))
        obtain⟨g1,g2,g3,g4,g5⟩:=H1.out.say hD HK.out;refine⟨by simp,.inl ⟨_,_,rfl,run_takeDeferred g1,?_⟩⟩
        exact⟨_,results7 (B2:=w.heap.size) (B3:=w.heap.size+1) rfl rfl g3 g4,_,os,true,rfl,HY.out trivial HX.out,Kd.R_lower (row_R g2) (by omega),g5⟩
      · have e2 : (X.toList == x.toList) = false := by
          rw[toListD,toListD,beq_eq_false_iff_ne];intro h;exact hx (Go.WideShapes.bytes_inj h)
        have HX:=Aside0.mk hx;clear hx
        gi_wp2_with (first
          |(refine⟨trivial,?_⟩;gi_at_call 16;refine(callsIn_wide.2 (HCO.out _ HB.out)).mono ?_;rintro e W2 ⟨rfl,hb⟩;replace H1:=Aside0.mk (H1.out.step hb);replace HK:=Aside0.mk (blk_below HK.out hb);replace HB:=Aside0.mk hb;clear hb cv f4 f2 f3 q2 q3;have cv:=H1.out.cell;obtain⟨f4,f2,f3⟩:=H1.out.free;obtain⟨q2,q3⟩:=H1.out.two)
          |(refine⟨trivial,?_⟩;gi_at_call 12;refine(callsIn_wide.2 (HCT.out _ HB.out)).mono ?_;rintro e W3 ⟨rfl,hb⟩;replace H1:=Aside0.mk (H1.out.step hb);replace HK:=Aside0.mk (blk_below HK.out hb);clear hb cv f4 f2 f3 q2 q3;have cv:=H1.out.cell;obtain⟨f4,f2,f3⟩:=H1.out.free;obtain⟨q2,q3⟩:=H1.out.two))
        have eD:((W3.setCell ⟨w.heap.size,0,none⟩ (.slice none 0 0)).setCell ⟨w.heap.size+1,0,none⟩ (.bool false)).heap[D]?=some (.deferred (some [])):=by
          rw[Below.heap_setCell _ ⟨w.heap.size+1,0,none⟩ _ D (by show D≠w.heap.size+1;omega),Below.heap_setCell _ ⟨w.heap.size,0,none⟩ _ D (by show D≠w.heap.size;omega)]
          exact HK.out
        have hF:=H1.out.away.sim (Sim.put (w.heap.size+4) (w.heap.size+3) _ D _ (.deferred none) hD eD rfl);refine⟨by simp,.inl ⟨_,_,rfl,run_takeDeferred eD,?_⟩⟩
        exact⟨_,results7 (B2:=w.heap.size) (B3:=w.heap.size+1) rfl rfl hF.two.1 hF.two.2,_,[],false,rfl,HN.out (fun h=>HX.out h.2),Kd.R_nil _ _ _ _ _,hF.bel⟩
  case stop=>
    rintro D W hD ⟨⟨v,os,h1⟩,h2⟩ hK
    rw[hsz4]at hD
    have hF:=h1.sim (Sim.put (w.heap.size+4) (w.heap.size+3) _ D _ (.deferred none) hD hK rfl);gi_wp2
    refine⟨by simp,.inl ⟨_,_,rfl,run_takeDeferred hK,?_⟩⟩
    exact⟨_,results7 (B2:=w.heap.size) (B3:=w.heap.size+1) rfl rfl hF.two.1 hF.two.2,_,[],false,rfl,h2,Kd.R_nil _ _ _ _ _,hF.bel⟩
end Go.Proofs.YtmklpbmlgjkbiaaGreatDoor.PS
end
section
namespace Go.Proofs.YtmklpbmlgjkbiaaGreatDoor.PS
open Go.Proofs.YtmklpbmlgjkbiaaGreatDoor.PD Go.RowKit Go.Proofs.YtmklpbmlgjkbiaaGreatDoorW.PrintWords Go.Proofs.YtmklpbmlgjkbiaaGreatDoorW.PrintLast
theorem lv_loop (l:List S39) (hn:l.length≤1000): ∀ (m i:Nat),i+m=l.length→laws_lvOps.l0 (m+1) l l (i:Int)=some true
  |0,i,h=>by
    simp only[laws_lvOps.l0]
    rw[if_neg (by omega)]
  |m+1,i,h=>by
    have hw:wrap64 ((i:Int)+1)=((i+1:Nat):Int):=by unfold wrap64;omega
    have ih:=lv_loop l hn m (i+1) (by omega)
    obtain⟨M,hM⟩: ∃M,M=m+1:=⟨_,rfl⟩;rw[←hM]at ih⊢
    clear hM;simp only[laws_lvOps.l0]
    rw[if_pos (by omega),if_pos (by omega),if_pos (by omega),if_neg (by simp),hw]
    exact ih
theorem lv_call {W:World} {b b':Nat} {ok ok':Nat→Prop} {v v':Value} {l:List S39} (hn:l.length≤17) (h:Kd.R k39 39 W b ok v l) (h':Kd.R k39 39 W b' ok' v' l):Calls Tryz.prog 14 #[v,v'] W fun e w'=>e= .returned (.bool true)∧Below W.heap.size W w':=by
  obtain⟨A,c,rfl,hl,hC⟩:=Kd.R_reads h;obtain⟨A',c',rfl,hl',hC'⟩:=Kd.R_reads h';have:=laws_lvOps.calls (l.length+1) A c l A' c' l true W hC hl hC' hl' (by unfold laws_lvOps.f;rw[if_pos rfl];exact lv_loop l (by omega) l.length 0 (by omega))
  exact this.mono fun e w' ⟨h1,h2⟩=>⟨h1,h2.below⟩
def TwoC (w W:World) (v0 v1:Value) (c:List S39):Prop:=(∃b,Kd.R k39 39 W b (fun _=>True) v0 c)∧(∃b,Kd.R k39 39 W b (fun _=>True) v1 c)∧Below w.heap.size w W
theorem TwoC.step {w W W':World} {v0 v1:Value} {c:List S39} (h:TwoC w W v0 v1 c) (hb:Below W.heap.size W W'):TwoC w W' v0 v1 c:=by
  obtain⟨⟨b,h1⟩,⟨b',h2⟩,h3⟩:=h;exact⟨⟨b,Kd.R_below h1 hb⟩,⟨b',Kd.R_below h2 hb⟩,below_step h3 hb⟩
theorem TwoC.below {w W:World} {v0 v1:Value} {c:List S39} (h:TwoC w W v0 v1 c):Below w.heap.size w W:=h.2.2
theorem TwoC.lv {w W:World} {v0 v1:Value} {c:List S39} (hn:c.length≤17) (h:TwoC w W v0 v1 c):Calls Tryz.prog 14 #[v1,v0] W fun e w'=>e= .returned (.bool true)∧Below W.heap.size W w':=by
  obtain⟨⟨b,h1⟩,⟨b',h2⟩,h3⟩:=h;exact lv_call hn h2 h1
def OneC (w W:World) (A:Option Addr) (cc:Nat) (c:List S39):Prop:=Kd.R k39 39 W w.heap.size (fun _=>True) (.slice A c.length cc) c∧Kd.C k39 W A c.length c∧c.length≤cc∧Below w.heap.size w W
theorem OneC.step {w W W':World} {A:Option Addr} {cc:Nat} {c:List S39} (h:OneC w W A cc c) (hb:Below W.heap.size W W'):OneC w W' A cc c:=⟨Kd.R_below h.1 hb,Kd.C_below h.2.1 hb,h.2.2.1,below_step h.2.2.2 hb⟩
theorem OneC.below {w W:World} {A:Option Addr} {cc:Nat} {c:List S39} (h:OneC w W A cc c):Below w.heap.size w W:=h.2.2.2
end Go.Proofs.YtmklpbmlgjkbiaaGreatDoor.PS
end
