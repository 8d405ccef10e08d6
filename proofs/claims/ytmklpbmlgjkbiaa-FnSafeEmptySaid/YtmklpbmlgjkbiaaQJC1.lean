/- What the rows of JC rest on, part 2. -/
import Derived.Test.YtmklpbmlgjkbiaaProg
import Derived.Laws.StructEq
import Derived.Deep.RegionWith
import Derived.Lib.Bytealg
import Derived.Shelf.Strings.Search3
import Derived.WalkSpells
import Derived.Lib.OthersKept
import Derived.Lib.Hide
import Derived.WalkSmall
import Derived.Laws.EntriesVeiled
import Derived.RegionTactic
import Derived.Test.YtmklpbmlgjkbiaaQJC0
set_option linter.unusedVariables false
set_option linter.unusedSimpArgs false
set_option maxHeartbeats 8000000
set_option maxRecDepth 100000
section
namespace Go.Proofs.Ytmklpbmlgjkbiaa.PS
open Go.RowKit Go.Proofs.YtmklpbmlgjkbiaaW.PrintWords Go.Proofs.YtmklpbmlgjkbiaaW.PrintLast Go.Proofs.YtmklpbmlgjkbiaaW.PrintMore
attribute [local go_sem] max2_int min2_int max_two min_two max_three min_three max_four min_four   -- for this text's walks alone
structure S8 where
  f0:Int
  f1:Int
  f2:Bool
  f3:Int
def z8:S8:=⟨(0:Int),(0:Int),false,(0:Int)⟩
section
variable {α:Type} {d:Kd α} {e:Nat} {w:World} {base:Nat} {ok:Nat→Prop} {v:Value} {xs:List α}
end
end Go.Proofs.Ytmklpbmlgjkbiaa.PS
end
section
namespace Go.Proofs.Ytmklpbmlgjkbiaa.PS
open Go.RowKit Go.Proofs.YtmklpbmlgjkbiaaW.PrintWords Go.Proofs.YtmklpbmlgjkbiaaW.PrintLast
def usesV.f (k r s t vk vn:Int):Option (List Int):=some (if opB k r s t vk vn=true then usesL k r s else [])
end Go.Proofs.Ytmklpbmlgjkbiaa.PS
end
section
namespace Go.Proofs.Ytmklpbmlgjkbiaa.PS
theorem full_still {W:Nat→List Way} {n:Nat} (hn:0<n) (h:stepW W (startO n) 0=startO n):fullW W n=startO n:=by
  have hs: ∀m,m≤n→passW W m (startO n)=startO n:=by
    intro m;induction m with
    |zero=>intro _;rfl
    |succ m ih=>
      intro hm;rw[pass_succ,ih (by omega)]
      cases m with
      |zero=>exact h
      |succ m=>
        unfold stepW;rw[if_pos];unfold startO;rw[at_set_ne (by omega)]
        have:m+1<n:=by omega
        simp[at_,List.getD_eq_getElem?_getD,this]
  exact fin_fix (hs n (Nat.le_refl n))
end Go.Proofs.Ytmklpbmlgjkbiaa.PS
end
section
namespace Go.Proofs.Ytmklpbmlgjkbiaa.PS
open Go.RowKit Go.Proofs.YtmklpbmlgjkbiaaW.PrintWords Go.Proofs.YtmklpbmlgjkbiaaW.PrintLast
theorem uses_no (k r s t vk vn:Int) (w:World) (hn:Aside0 (opB k r s t vk vn=false)):
    Calls Try.prog 27 #[.agg #[.int .i64 k,.int .i64 r,.int .i64 s,.int .i64 t,.int .i64 vk,.int .i64 vn]] w fun e w'=>e= .returned (.slice none 0 0)∧Below w.heap.size w w':=by
  have hOk:=fun W:World=>impl_OpOk.calls k r s t vk vn false W (by rw[←hn.out];rfl)
  go_enter Try.func27,Try.ntmps27
  go_wp2_with (go_at_call 25;refine(hOk _).mono ?_;rintro e w' ⟨rfl,hb⟩)
  go_ret
  exact⟨rfl,below_step (below_alloc (Below.refl _ _) _) hb⟩
def pickL (r s:Int) (l:List UInt8):List Int:=l.map fun c=>if c=82 then r else s
theorem pickL_snoc (r s:Int) (l:List UInt8) (c:UInt8):pickL r s (l++ [c])=pickL r s l++ [if c=82 then r else s]:=by simp[pickL]
theorem take_snoc (s:ByteArray) (k:Nat) (h:k<s.size):s.data.toList.take (k+1)=s.data.toList.take k++ [s[k]]:=by
  rw[List.take_succ_eq_append_getElem (by simpa using h)];rfl
def UsesRel (w:World) (it:Nat) (rd:ByteArray) (k r s t vk vn:Int) (v:Value) (wr:World):Prop:=
  ∃pos,pos≤rd.size∧wr.heap[it]?=some (.stringIter rd pos)∧wr.heap[w.heap.size]?=some (.cells #[.int .i64 k,.int .i64 r,.int .i64 s,.int .i64 t,.int .i64 vk,.int .i64 vn] 29 (0,0))∧
    wr.ownsRow (it+1) 3 1 v pos ((pickL r s (rd.data.toList.take pos)).map (Value.int .i64))∧Below w.heap.size w wr
theorem uses_step {w wq w1:World} {it pos:Nat} {rd:ByteArray} {k r s t vk vn:Int} {v v':Value} {xs:List Value} (X:Int) (hw2:w.heap.size<it) (hqi:wq.heap[it]?=some (.stringIter rd (pos+1)))
    (hqb:wq.heap[w.heap.size]?=some (.cells #[.int .i64 k,.int .i64 r,.int .i64 s,.int .i64 t,.int .i64 vk,.int .i64 vn] 29 (0,0))) (hqbl:Below w.heap.size w wq)
    (hl:(pickL r s (rd.data.toList.take (pos+1))).map (Value.int .i64)=xs++ [.int .i64 X]) (hlt:pos<rd.size) (hown:(wq.alloc (.cells #[.int .i64 X] 3)).ownsRow (it+1) 3 1 v pos xs) (hown':w1.ownsRow (it+1) 3 1 v' (pos+1) (xs++ [.int .i64 X])) (hgrow:(wq.alloc (.cells #[.int .i64 X] 3)).grownBy w1 v.ownBlock):
    UsesRel w it rd k r s t vk vn v' w1:=by
  have hne: ∀g,g≤it→some g≠v.ownBlock:=fun g hg e=>by have:=own_base hown g e.symm;omega
  refine⟨pos+1,hlt,blk_grown (blk_alloc hqi _) hgrow (hne _ (Nat.le_refl _)),blk_grown (blk_alloc hqb _) hgrow (hne _ (Nat.le_of_lt hw2)),by rw[hl];exact hown',?_⟩
  exact(below_alloc hqbl _).grown hgrow (below_alloc hqbl _).size (fun b hb=>by have:=own_base hown b hb;omega)
theorem uses_measure {wr wq w1:World} {it pos:Nat} {rd:ByteArray} {v:Value} {X:Int} {xs:List Value} (hqi:wq.heap[it]?=some (.stringIter rd (pos+1))) (hown:(wq.alloc (.cells #[.int .i64 X] 3)).ownsRow (it+1) 3 1 v pos xs) (hgrow:(wq.alloc (.cells #[.int .i64 X] 3)).grownBy w1 v.ownBlock) (hit:wr.heap[it]?=some (.stringIter rd pos)) (hlt:pos<rd.size):
    rd.size-w1.iterPos it<rd.size-wr.iterPos it:=by
  have hne:some it≠v.ownBlock:=fun e=>by have:=own_base hown it e.symm;omega
  rw[iterPos_of hit,iterPos_of (blk_grown (blk_alloc hqi _) hgrow hne)];omega
theorem uses_yes (k r s t vk vn:Int) (x:S66) (rd:ByteArray) (w:World) (hx:Aside0 (x=howR k)) (hy:Aside0 (opB k r s t vk vn=true)) (hr:Aside0 (x.f2=rd)) (hsz:rd.size≤2) (ha:Aside0 (∀i (h:i<rd.size),rd[i]=82∨rd[i]=83)):
    Calls Try.prog 27 #[.agg #[.int .i64 k,.int .i64 r,.int .i64 s,.int .i64 t,.int .i64 vk,.int .i64 vn]] w fun e w'=> ∃v0_:Value,e= .returned v0_∧w'.ownsRow w.heap.size 3 1 v0_ rd.size ((pickL r s rd.data.toList).map (Value.int .i64))∧Below w.heap.size w w':=by
  have hOk:=fun W:World=>impl_OpOk.calls k r s t vk vn true W (by rw[←hy.out];rfl)
  have hHow:=fun W:World=>impl_Op_how.calls k r s t vk vn x.f0 x.f1 rd x.f3 W (by rw[←hr.out,hx.out];rfl)
  have hfd: ∀ (a b c d:Value) (W:World),Sem.run Try.prog (Instr.field 66 (.agg #[a,b,c,d]) 2) W= .ok c W:=fun _ _ _ _ _=>by kernel_rfl
  obtain⟨i0,hi,hz0,hz1,hz2⟩:=info_parts info3;have BK:Aside0 ((w.alloc (.cells #[.int .i64 k,.int .i64 r,.int .i64 s,.int .i64 t,.int .i64 vk,.int .i64 vn] 29)).heap[w.heap.size]?=some (.cells #[.int .i64 k,.int .i64 r,.int .i64 s,.int .i64 t,.int .i64 vk,.int .i64 vn] 29 (0,0))):=⟨blk_new _ _⟩;have HB:=Aside0.mk (Below.refl w.heap.size w);go_enter Try.func27,Try.ntmps27
  go_wp2_with (first|(go_at_call 25;refine(hOk _).mono ?_;rintro e w' ⟨rfl,hb⟩;obtain⟨b1,b2⟩:=bcell hb;have hz:=hb.size;have HB:=Aside0.mk (below_step (below_alloc HB.out _) hb);have BK:=Aside0.mk (blk_below BK.out hb))|(go_at_call 67;refine(hHow _).mono ?_;rintro e w'2 ⟨rfl,hb2⟩;have HB:=Aside0.mk (below_step HB.out hb2);have BK:=Aside0.mk (blk_below BK.out hb2);clear b1 b2 hz hb hb2))
  go_loopw [3] (fun v wr=>UsesRel w w'2.heap.size rd k r s t vk vn v wr) (fun _ wr=>rd.size-wr.iterPos w'2.heap.size)
  case atStart=>
    exact⟨0,Nat.zero_le _,World.iter_heap _ _ _,blk_alloc BK.out _,World.ownsRow_nil _ _ _ _,below_alloc HB.out _⟩
  case round=>
    obtain⟨pos,hp,hit0,hbk0,hown0,hbl0⟩:=hrel;have hit:=Aside0.mk hit0;have hbk:=Aside0.mk hbk0;have hbl:=Aside0.mk hbl0;have hownA:=Aside0.mk hown0;have hw2:w.heap.size<w'2.heap.size:=by have:=blk_lt BK.out;exact this
    clear hit0 hbk0 hbl0 hown0;by_cases hlt:pos<rd.size
    · have hnx:=fun ty=>Lib.run_next_ascii_at (P:=Try.prog) wr w'2.heap.size rd pos ty hit.out hlt (by rcases ha.out pos hlt with h|h<;>rw[h]<;>decide)
      have hqi:Aside0 ((wr.iterAt w'2.heap.size rd (pos+1)).heap[w'2.heap.size]?=some (.stringIter rd (pos+1))):=⟨Lib.iterAt_heap _ _ _ _ _ hit.out⟩;have hqb:Aside0 ((wr.iterAt w'2.heap.size rd (pos+1)).heap[w.heap.size]?=some (.cells #[.int .i64 k,.int .i64 r,.int .i64 s,.int .i64 t,.int .i64 vk,.int .i64 vn] 29 (0,0))):=⟨(Lib.iterAt_other _ _ _ _ _ (Nat.ne_of_lt hw2)).trans hbk.out⟩;have hqbl:Aside0 (Below w.heap.size w (wr.iterAt w'2.heap.size rd (pos+1))):=⟨Lib.below_iterAt hbl.out (Nat.le_of_lt hw2) _ _⟩;have hown:=ownsRow_iterAt hownA.out (Nat.lt_succ_self w'2.heap.size) rd (pos+1);have hsize:w'2.heap.size<(wr.iterAt w'2.heap.size rd (pos+1)).heap.size:=blk_lt hqi.out;generalize wr.iterAt w'2.heap.size rd (pos+1)=wq at hnx hqi hqb hqbl hown hsize
      rcases ha.out pos hlt with hc|hc
      all_goals rw[hc]at hnx
      · have hcv:Aside0 ((if rd[pos]=82 then r else s)=r):=⟨by rw[hc];rfl⟩
        clear hc;obtain⟨hq1,hq2⟩:wq.cell? ⟨w.heap.size,1,none⟩=some (.int .i64 r)∧wq.cell? ⟨w.heap.size,2,none⟩=some (.int .i64 s):=⟨(blk_cell hqb.out 1).trans rfl,(blk_cell hqb.out 2).trans rfl⟩;go_wp2_with (first|(at_builtin;refine wpList_append_own _ rfl _ _ 32 rfl (w'2.heap.size+1) 3 i0 (.int .i64 0) 1 8 Try.underlying32 hi hz0 hz1 hz2 rfl (by decide) _ _ _ rfl (hown.alloc _) ⟨wq.heap.size,0,none⟩ 1 1 [.int .i64 r] rfl rfl (cell_one_new _ _ _) (by simp[Value.oneCell']) (by unfold maxLen;omega) (by omega) (by simp;omega) ?_;intro v' w1 hown' hgrow _))
        go_roundw
        case rel=>exact uses_step r hw2 hqi.out hqb.out hqbl.out (by rw[take_snoc rd pos hlt,pickL_snoc,hcv.out];simp) hlt (hown.alloc _) hown' hgrow
        case measure=>exact uses_measure hqi.out (hown.alloc _) hgrow hit.out hlt
      · have hcv:Aside0 ((if rd[pos]=82 then r else s)=s):=⟨by rw[hc];rfl⟩
        clear hc;obtain⟨hq1,hq2⟩:wq.cell? ⟨w.heap.size,1,none⟩=some (.int .i64 r)∧wq.cell? ⟨w.heap.size,2,none⟩=some (.int .i64 s):=⟨(blk_cell hqb.out 1).trans rfl,(blk_cell hqb.out 2).trans rfl⟩;go_wp2_with (first|(at_builtin;refine wpList_append_own _ rfl _ _ 32 rfl (w'2.heap.size+1) 3 i0 (.int .i64 0) 1 8 Try.underlying32 hi hz0 hz1 hz2 rfl (by decide) _ _ _ rfl (hown.alloc _) ⟨wq.heap.size,0,none⟩ 1 1 [.int .i64 s] rfl rfl (cell_one_new _ _ _) (by simp[Value.oneCell']) (by unfold maxLen;omega) (by omega) (by simp;omega) ?_;intro v' w1 hown' hgrow _))
        go_roundw
        case rel=>exact uses_step s hw2 hqi.out hqb.out hqbl.out (by rw[take_snoc rd pos hlt,pickL_snoc,hcv.out];simp) hlt (hown.alloc _) hown' hgrow
        case measure=>exact uses_measure hqi.out (hown.alloc _) hgrow hit.out hlt
    · have hnx:=fun ty=>Lib.run_next_end_at (P:=Try.prog) wr w'2.heap.size rd pos ty hit.out hlt
      obtain rfl:pos=rd.size:=by omega
      go_wp2
      go_ret
      refine⟨_,rfl,?_,hbl.out⟩
      have:=hownA.out;rw[List.take_of_length_le (by simp)]at this
      exact own_weaken this (by omega)
def readsB (k:Int):ByteArray:=(howR k).f2
theorem reads_ok (k:Int):(readsB k).size≤2∧(∀i (h:i<(readsB k).size),(readsB k)[i]=82∨(readsB k)[i]=83):=by
  refine kinds (P:=fun k=>(readsB k).size≤2∧(∀i (h:i<(readsB k).size),(readsB k)[i]=82∨(readsB k)[i]=83)) (fun k hk=> ?_) (by decide) (by decide) (by decide) (by decide) (by decide) (by decide) (by decide) (by decide) (by decide) (by decide) (by decide) (by decide) (by decide) (by decide) k
  unfold readsB howR;rw[if_neg hk];exact⟨by decide,by decide⟩
theorem reads_eq (k r s:Int):pickL r s (readsB k).data.toList=usesL k r s:=by
  refine kinds (P:=fun k=>pickL r s (readsB k).data.toList=usesL k r s) (fun k hk=> ?_) rfl rfl rfl rfl rfl rfl rfl rfl rfl rfl rfl rfl rfl rfl k
  unfold readsB howR usesL;rw[if_neg hk,if_neg (by omega),if_neg (by omega),if_neg (by omega)];rfl
theorem impl_OpUses.calls (k r s t vk vn:Int) (l:List Int) (w:World) (h:usesV.f k r s t vk vn=some l):
    Calls Try.prog 27 #[.agg #[.int .i64 k,.int .i64 r,.int .i64 s,.int .i64 t,.int .i64 vk,.int .i64 vn]] w fun e w'=> ∃v0_:Value,e= .returned (v0_)∧Kd.R (Kd.int .i64) 3 w' w.heap.size (fun _=>True) v0_ l∧Below w.heap.size w w':=by
  have h:=Option.some.inj h;by_cases ho:opB k r s t vk vn=true
  · rw[if_pos ho]at h
    obtain⟨h1,h2⟩:=reads_ok k;refine(uses_yes k r s t vk vn (howR k) (readsB k) w ⟨rfl⟩ ⟨ho⟩ ⟨rfl⟩ h1 ⟨h2⟩).mono ?_
    rintro e w' ⟨v,rfl,hown,hb⟩
    refine⟨v,rfl,?_,hb⟩
    rw[reads_eq,h]at hown
    have hl:(readsB k).size=l.length:=by rw[←h,←reads_eq k r s];simp[pickL]
    rw[hl]at hown
    exact Kd.R_of_own hown (fun _ _=>trivial)
  · rw[if_neg ho]at h
    subst h;refine(uses_no k r s t vk vn w ⟨by simpa using ho⟩).mono ?_
    rintro e w' ⟨rfl,hb⟩
    exact⟨_,rfl,Kd.R_nil _ _ _ _ _,hb⟩
theorem slot_walk (x:Int) (s:Int) (hs:0≤s) (hs2:s≤3) (B:Nat) (w:World) (hB:w.cell? ⟨B,0,none⟩=some (.int .i64 x)):Calls Try.prog 84 #[.int .i64 s,.pointer (some ⟨B,0,none⟩)] w fun e w'=>e= .returned (.bool (freeB x s))∧w=w':=by
  go_enter Try.func84,Try.ntmps84
  go_wp2
  go_ret
  exact⟨rfl,rfl⟩
def FoundIn (p:Int→Bool) (l:List Int) (i:Int):Prop:=(0≤i∧l.any p=true)∨(i= -1∧l.any p=false)
theorem foundn_yes {p:Int→Bool} {l:List Int} {kk:Nat} (h:kk<l.length) (hp:p (rd l kk)=true):FoundIn p l kk:=by
  refine .inl ⟨by omega,List.any_eq_true.2 ⟨rd l kk,?_,hp⟩⟩
  rw[rdn_at l kk h];exact List.getElem_mem h
theorem foundn_no {p:Int→Bool} {l:List Int} (h: ∀j,j<l.length→p (rd l (j:Nat))=false):FoundIn p l (-1):=by
  refine .inr ⟨rfl,List.any_eq_false.2 fun x hx=> ?_⟩
  obtain⟨j,hj,rfl⟩:=List.mem_iff_getElem.1 hx;have:=h j hj;rw[rdn_at l j hj]at this
  simpa using this
theorem index_fn (p:Int→Bool) (g:Nat) (lb:Array Value) (eg: ∀args w,(callFunc g args).run Try.prog w= .ok (.enter g args) w) (A0:Option Addr) (c0:Nat) (l0:List Int) (w:World)
    (hr0:Kd.C (Kd.int .i64) w A0 l0.length l0)
    (hp: ∀ (W:World) (x:Int),x∈l0→Below w.heap.size w W→Calls Try.prog g (#[.int .i64 x]++lb) W fun e w'=>e= .returned (.bool (p x))∧Below w.heap.size w w'):
    Calls Try.prog 100 #[.slice A0 l0.length c0,.func (.func g) #[] lb] w fun e w'=> ∃i,e= .returned (.int .i64 i)∧FoundIn p l0 i∧Below w.heap.size w w':=by
  have hm:=Kd.C_max hr0;have HR0:=Aside0.mk hr0;clear hr0;go_enter Try.func100,Try.ntmps100
  go_wp2
  go_loopg [5,8] l0.length (fun gg _ s8 wr=> ∃kk:Nat,kk≤l0.length∧l0.length-kk≤gg∧s8= .int .i64 kk∧Aside (Below w.heap.size w wr)∧Aside (∀j,j<kk→p (rd l0 (j:Nat))=false))
  case atStart=>exact⟨0,Nat.zero_le _,by omega,rfl,Below.refl _ w,fun j hj=>absurd hj (Nat.not_lt_zero _)⟩
  case round=>
    obtain⟨kk,hkk,hgg,rfl,BW,A⟩:=hrel;by_cases hlt:kk<l0.length
    · have hltz:(kk:Int)<(l0.length:Int):=by omega
      have h0z:0≤(kk:Int):=by omega
      obtain⟨ad,e,x0⟩:=Kd.at_int HR0.out (kk:Int) h0z hltz;subst e;rw[Int.toNat_natCast]at x0
      replace x0:=(BW.out.cell (World.block_lt_of_cell? w _ x0)).trans x0;have hcall:=hp wr (rd l0 (kk:Int)) (by rw[rdn_at l0 kk hlt];exact List.getElem_mem hlt) BW.out
      clear hp;obtain⟨y,hy0⟩: ∃y,y=rd l0 (kk:Int):=⟨_,rfl⟩;rw[←hy0]at hcall x0
      have hy:=Aside0.mk hy0;clear hy0;cases hq:p y with
      |true=>
        rw[hq]at hcall
        go_wp2_with (go_at_fn g;refine hcall.mono ?_;rintro e w' ⟨rfl,hb'⟩)
        go_ret
        exact⟨_,rfl,foundn_yes hlt (by rw[←hy.out];exact hq),hb'⟩
      |false=>
        rw[hq]at hcall
        go_wp2_with (go_at_fn g;refine hcall.mono ?_;rintro e w' ⟨rfl,hb'⟩)
        go_roundg (l0.length- (kk+1))
        case measure=>omega
        case rel=>
          refine⟨kk+1,by omega,by omega,by go_num,hb',(show Aside _ from fun j hj=> ?_)⟩
          by_cases e:j=kk
          · subst e
            rw[←hy.out];exact hq
          · exact A.out j (by omega)
    · have hltz: ¬(kk:Int)<(l0.length:Int):=by omega
      have:kk=l0.length:=by omega
      subst this;go_wp2
      go_ret
      exact⟨_,rfl,foundn_no A.out,BW.out⟩
theorem contains_fn (p:Int→Bool) (g:Nat) (lb:Array Value) (eg: ∀args w,(callFunc g args).run Try.prog w= .ok (.enter g args) w) (A0:Option Addr) (c0:Nat) (l0:List Int) (w:World)
    (hr0:Kd.C (Kd.int .i64) w A0 l0.length l0)
    (hp: ∀ (W:World) (x:Int),x∈l0→Below w.heap.size w W→Calls Try.prog g (#[.int .i64 x]++lb) W fun e w'=>e= .returned (.bool (p x))∧Below w.heap.size w w'):
    Calls Try.prog 83 #[.slice A0 l0.length c0,.func (.func g) #[] lb] w fun e w'=>e= .returned (.bool (l0.any p))∧Below w.heap.size w w':=by
  have hx:=index_fn p g lb eg A0 c0 l0 w hr0 hp;clear hr0 hp;go_enter Try.func83,Try.ntmps83
  go_wp2_with (go_at_call 100;refine hx.mono ?_;rintro e w' ⟨i,rfl,hi,hb⟩)
  go_ret
  refine⟨?_,hb⟩
  rcases hi with ⟨h0,h1⟩|⟨rfl,h1⟩
  · rw[h1];simp[h0]
  · rw[h1];rfl
def safeV.f (l:List S29):Option Bool:=some (safeB l)
theorem safe_no (A0:Option Addr) (c0:Nat) (l0:List S29) (w:World) (hr0:Kd.C k29 w A0 l0.length l0) (hc0:l0.length≤c0) (h:codeB l0=false):
    Calls Try.prog 46 #[.slice A0 l0.length c0] w fun e w'=>e= .returned (.bool false)∧Below w.heap.size w w':=by
  have hOk:=impl_CodeOk.calls A0 c0 l0 false w hr0 hc0 (by rw[←h];rfl)
  clear hr0 h;go_enter Try.func46,Try.ntmps46
  go_wp2_with (first|(go_at_call 35;refine hOk.mono ?_;rintro e w' ⟨rfl,hb⟩))
  go_ret
  exact⟨rfl,hb⟩
theorem safe_all {l:List S29} (hc:codeB l=true) (h: ∀i,i<l.length→safeAt l i=true):safeB l=true:=by
  unfold safeB;rw[hc,Bool.true_and,List.all_eq_true];intro i hi;exact h i (by simpa using hi)
theorem safe_not {l:List S29} {i:Nat} (hi:i<l.length) (h:safeAt l i=false):safeB l=false:=by
  unfold safeB
  have:(List.range l.length).all (safeAt l)=false:=by
    rw[List.all_eq_false];exact⟨i,by simpa using hi,by rw[h];decide⟩
  rw[this,Bool.and_false]
theorem safe_yes (A0:Option Addr) (c0:Nat) (l0:List S29) (w:World) (hr0:Kd.C k29 w A0 l0.length l0) (hc0:l0.length≤c0) (hc:codeB l0=true):
    Calls Try.prog 46 #[.slice A0 l0.length c0] w fun e w'=>e= .returned (.bool (safeB l0))∧Below w.heap.size w w':=by
  obtain⟨hl1,hl2⟩:=code_len hc;have hOk:=impl_CodeOk.calls A0 c0 l0 true w hr0 hc0 (by rw[←hc];rfl)
  have hFu:=fun (W:World) (hb:Below w.heap.size w W)=>full_walk A0 c0 l0 W (Kd.C_below hr0 hb) hc
  have HC:=Aside0.mk hc;have HR0:=Aside0.mk hr0;have hfl:(fullL l0).length=l0.length:=(full_good (wayW_good hc)).1;have HFL:=Aside0.mk hfl;clear hr0 hc hfl;go_enter Try.func46,Try.ntmps46
  go_wp2_with (first|(go_at_call 35;refine hOk.mono ?_;rintro e w' ⟨rfl,hb⟩;have HB:=Aside0.mk hb;clear hb)|(go_at_call 80;refine(hFu _ HB.out).mono ?_;rintro e w1 ⟨v,rfl,hR,hb1⟩;have hR2:=hR;obtain⟨A,c,rfl⟩:=Kd.R_slice hR2;have HF:=Aside0.mk (Kd.R_reads' hR).2.2;have HB1:=Aside0.mk (below_step HB.out hb1);rw[HFL.out];clear hR hR2 hb1))
  go_loopg [12] l0.length (fun gg s12 wr=> ∃j:Nat,j≤l0.length∧l0.length-j≤gg∧s12= .int .i64 (j:Int)∧Aside (Below w.heap.size w wr)∧Aside (Below w1.heap.size w1 wr)∧Aside (∀i,i<j→safeAt l0 i=true))
  case atStart=>exact⟨0,Nat.zero_le _,Nat.sub_le _ _,rfl,HB1.out,Below.refl _ _,fun i hi=>absurd hi (Nat.not_lt_zero _)⟩
  case round=>
    obtain⟨j,hj,hgg,rfl,BW,B1,A⟩:=hrel;by_cases hlt:j<l0.length
    · have hltz:(j:Int)<(l0.length:Int):=by omega
      have h0z:(0:Int)≤(j:Int):=by omega
      obtain⟨ad,e,x0⟩:=Kd.at_int HF.out (j:Int) h0z (by rw[HFL.out];exact hltz)
      subst e;rw[Int.toNat_natCast]at x0
      replace x0:=(B1.out.cell (World.block_lt_of_cell? w1 _ x0)).trans x0;obtain⟨x,hx⟩: ∃x,x=at_ (fullL l0) (j:Int):=⟨_,rfl⟩;rw[show rd (fullL l0) (j:Int)=x from hx.symm]at x0
      have hx15:x≤15:=by rw[hx];exact(at_good (full_good (wayW_good HC.out)) (j:Int)).2
      by_cases hneg:x<0
      · have HS:Aside0 (safeAt l0 j=true):=⟨by unfold safeAt;rw[←hx,decide_eq_true hneg];rfl⟩
        clear hx;go_wp2
        go_roundg (l0.length- (j+1))
        case measure=>omega
        case rel=>
          refine⟨j+1,by omega,by omega,by go_num,(show Aside _ from ?_),(show Aside _ from ?_),(show Aside _ from fun i hi=> ?_)⟩
          · exact below_alloc BW.out _
          · exact below_alloc B1.out _
          · by_cases e:i=j
            · rw[e];exact HS.out
            · exact A.out i (by omega)
      · have hneg0:decide (x<0)=false:=decide_eq_false hneg
        obtain⟨ad2,e,y0,y1,y2,y3,y4,y5⟩:=at_T29 HR0.out (j:Int) h0z hltz;subst e;rw[Int.toNat_natCast]at y0 y1 y2 y3 y4 y5
        replace y0:=(BW.out.cell (World.block_lt_of_cell? w _ y0)).trans y0;replace y1:=(BW.out.cell (World.block_lt_of_cell? w _ y1)).trans y1;replace y2:=(BW.out.cell (World.block_lt_of_cell? w _ y2)).trans y2;replace y3:=(BW.out.cell (World.block_lt_of_cell? w _ y3)).trans y3;replace y4:=(BW.out.cell (World.block_lt_of_cell? w _ y4)).trans y4;replace y5:=(BW.out.cell (World.block_lt_of_cell? w _ y5)).trans y5
        have hS:safeAt l0 j=((decide (j+1<l0.length)||endsB (rd_T29 l0 j))&& !((usesL (rd_T29 l0 j).f0 (rd_T29 l0 j).f1 (rd_T29 l0 j).f2).any (freeB x))):=by
          unfold safeAt;rw[←hx,decide_eq_false hneg,Bool.false_or]
        have hus:=uses_slots HC.out hlt;have hop:=(code_op HC.out hlt).1;rw[←rd29_get hlt]at hop
        obtain⟨y,hy⟩: ∃y,y=rd_T29 l0 (j:Int):=⟨_,rfl⟩;rw[←hy]at y0 y1 y2 y3 y4 y5 hS hus hop
        have hUs:=fun W:World=>impl_OpUses.calls y.f0 y.f1 y.f2 y.f3 y.f4.f0 y.f4.f1 (usesL y.f0 y.f1 y.f2) W (by unfold usesV.f;rw[if_pos (opB_true.2 hop)])
        obtain⟨U,hU⟩: ∃U,U=usesL y.f0 y.f1 y.f2:=⟨_,rfl⟩;rw[←hU]at hUs hS hus
        have hCn:=fun (W:World) (A:Option Addr) (c:Nat) (hC:Kd.C (Kd.int .i64) W A U.length U) (hB:W.cell? ⟨wr.heap.size,0,none⟩=some (.int .i64 x))=>contains_fn (freeB x) 84 #[.pointer (some ⟨wr.heap.size,0,none⟩)] (fun _ _=>by kernel_rfl) A c U W hC (fun W2 s hs hb=>(slot_walk x s (hus s hs).1 (hus s hs).2 wr.heap.size W2 ((hb.cell (World.block_lt_of_cell? W _ hB)).trans hB)).mono (fun e w' h=>⟨h.1,by rw[←h.2];exact hb⟩))
        have HS:=Aside0.mk hS;clear hx hy hU hus hS hneg hop;obtain⟨kk,hkk0⟩: ∃kk,kk=y.f0:=⟨_,rfl⟩;rw[←hkk0]at y0 hUs
        have hkk:=Aside0.mk hkk0;clear hkk0;have hbl:=below_alloc (Below.refl wr.heap.size wr) (.cells #[.int .i64 x] 3);have tr: ∀ (a:Addr) (u:Value),wr.cell? a=some u→(wr.alloc (.cells #[.int .i64 x] 3)).cell? a=some u:=fun a u h=>(hbl.cell (World.block_lt_of_cell? wr _ h)).trans h
        have p0:=tr _ _ y0;have p1:=tr _ _ y1;have p2:=tr _ _ y2;have p3:=tr _ _ y3;have p4:=tr _ _ y4;have p5:=tr _ _ y5;have n0:=blk_new wr (.cells #[.int .i64 x] 3);have N0:=Aside0.mk n0;have HBL:=Aside0.mk hbl;have hsz:(wr.alloc (.cells #[.int .i64 x] 3)).heap.size=wr.heap.size+1:=by simp
        have HSZ:=Aside0.mk hsz;clear y0 y1 y2 y3 y4 y5 n0 hbl tr hsz;go_upto_region 7 with (fail)
        obtain⟨w2,hw2⟩: ∃w2,w2=wr.alloc (.cells #[.int .i64 x] 3):=⟨_,rfl⟩;rw[←hw2]at p0 p1 p2 p3 p4 p5 N0 HBL HSZ⊢
        clear hw2 x0;have B2:=Aside0.mk (below_step BW.out HBL.out);have B12:=Aside0.mk (below_step B1.out HBL.out);obtain⟨bx,hbx⟩: ∃b,b=wr.heap.size:=⟨_,rfl⟩;rw[←hbx]at hCn N0⊢
        clear hbx HBL HSZ;by_cases hnx:j+1<l0.length
        · have e1:((j:Int)==(l0.length:Int)-1)=false:=by simp;omega
          cases hany:U.any (freeB x)with
          |true=>
            rw[hany]at hCn
            have HSF:Aside0 (safeB l0=false):=⟨safe_not hlt (by rw[HS.out,hany];simp)⟩
            clear hany;go_wp2_with (first|(go_at_call 27;refine(hUs _).mono ?_;rintro e w3 ⟨v2,rfl,hR,hb⟩;obtain⟨A2,c2,rfl⟩:=Kd.R_slice hR;have HC2:=Aside0.mk (Kd.R_reads' hR).2.2;have HB3:=Aside0.mk (below_step (below_alloc (Below.refl w2.heap.size w2) _) hb);clear hR hb)|(go_at_call 83;refine(hCn _ _ _ HC2.out ?hc).mono ?_;(case hc=>exact(blk_cell (blk_below N0.out HB3.out) 0).trans rfl);rintro e w4 ⟨rfl,hb⟩;have HB4:=Aside0.mk (below_step HB3.out hb);clear hb))
            go_ret
            exact⟨by rw[HSF.out];rfl,below_step B2.out HB4.out⟩
          |false=>
            rw[hany]at hCn
            have HST:Aside0 (safeAt l0 j=true):=⟨by rw[HS.out,hany,decide_eq_true hnx];rfl⟩
            clear hany;go_wp2_with (first|(go_at_call 27;refine(hUs _).mono ?_;rintro e w3 ⟨v2,rfl,hR,hb⟩;obtain⟨A2,c2,rfl⟩:=Kd.R_slice hR;have HC2:=Aside0.mk (Kd.R_reads' hR).2.2;have HB3:=Aside0.mk (below_step (below_alloc (Below.refl w2.heap.size w2) _) hb);clear hR hb)|(go_at_call 83;refine(hCn _ _ _ HC2.out ?hc).mono ?_;(case hc=>exact(blk_cell (blk_below N0.out HB3.out) 0).trans rfl);rintro e w4 ⟨rfl,hb⟩;have HB4:=Aside0.mk (below_step HB3.out hb);clear hb))
            go_roundg (l0.length- (j+1))
            case measure=>omega
            case rel=>
              refine⟨j+1,by omega,by omega,by go_num,(show Aside _ from ?_),(show Aside _ from ?_),(show Aside _ from fun i hi=> ?_)⟩
              · exact below_step B2.out HB4.out
              · exact below_step B12.out HB4.out
              · by_cases e:i=j
                · rw[e];exact HST.out
                · exact A.out i (by omega)
        · have e1:((j:Int)==(l0.length:Int)-1)=true:=by simp;omega
          have hdn:=decide_eq_false hnx;by_cases h9:kk=9
          · have e9:(kk !=9)=false:=by simp[h9]
            have hen:endsB y=true:=by unfold endsB;rw[←hkk.out];exact decide_eq_true (.inl h9)
            have HEN:=Aside0.mk hen;have HDN:=Aside0.mk hdn;clear h9 hen hdn;cases hany:U.any (freeB x)with
            |true=>
              rw[hany]at hCn
              have HSF:Aside0 (safeB l0=false):=⟨safe_not hlt (by rw[HS.out,hany];simp)⟩
              clear hany;go_wp2_with (first|(go_at_call 27;refine(hUs _).mono ?_;rintro e w3 ⟨v2,rfl,hR,hb⟩;obtain⟨A2,c2,rfl⟩:=Kd.R_slice hR;have HC2:=Aside0.mk (Kd.R_reads' hR).2.2;have HB3:=Aside0.mk (below_step (below_alloc (Below.refl w2.heap.size w2) _) hb);clear hR hb)|(go_at_call 83;refine(hCn _ _ _ HC2.out ?hc).mono ?_;(case hc=>exact(blk_cell (blk_below N0.out HB3.out) 0).trans rfl);rintro e w4 ⟨rfl,hb⟩;have HB4:=Aside0.mk (below_step HB3.out hb);clear hb))
              go_ret
              exact⟨by rw[HSF.out];rfl,below_step B2.out HB4.out⟩
            |false=>
              rw[hany]at hCn
              have HST:Aside0 (safeAt l0 j=true):=⟨by rw[HS.out,hany,HDN.out,HEN.out];rfl⟩
              clear hany;go_wp2_with (first|(go_at_call 27;refine(hUs _).mono ?_;rintro e w3 ⟨v2,rfl,hR,hb⟩;obtain⟨A2,c2,rfl⟩:=Kd.R_slice hR;have HC2:=Aside0.mk (Kd.R_reads' hR).2.2;have HB3:=Aside0.mk (below_step (below_alloc (Below.refl w2.heap.size w2) _) hb);clear hR hb)|(go_at_call 83;refine(hCn _ _ _ HC2.out ?hc).mono ?_;(case hc=>exact(blk_cell (blk_below N0.out HB3.out) 0).trans rfl);rintro e w4 ⟨rfl,hb⟩;have HB4:=Aside0.mk (below_step HB3.out hb);clear hb))
              go_roundg (l0.length- (j+1))
              case measure=>omega
              case rel=>
                refine⟨j+1,by omega,by omega,by go_num,(show Aside _ from ?_),(show Aside _ from ?_),(show Aside _ from fun i hi=> ?_)⟩
                · exact below_step B2.out HB4.out
                · exact below_step B12.out HB4.out
                · by_cases e:i=j
                  · rw[e];exact HST.out
                  · exact A.out i (by omega)
          · have e9:(kk !=9)=true:=by simp[h9]
            by_cases h14:kk=14
            · have e14:(kk !=14)=false:=by simp[h14]
              have hen:endsB y=true:=by unfold endsB;rw[←hkk.out];exact decide_eq_true (.inr h14)
              have HEN:=Aside0.mk hen;have HDN:=Aside0.mk hdn;clear h9 h14 hen hdn;cases hany:U.any (freeB x)with
              |true=>
                rw[hany]at hCn
                have HSF:Aside0 (safeB l0=false):=⟨safe_not hlt (by rw[HS.out,hany];simp)⟩
                clear hany;go_wp2_with (first|(go_at_call 27;refine(hUs _).mono ?_;rintro e w3 ⟨v2,rfl,hR,hb⟩;obtain⟨A2,c2,rfl⟩:=Kd.R_slice hR;have HC2:=Aside0.mk (Kd.R_reads' hR).2.2;have HB3:=Aside0.mk (below_step (below_alloc (Below.refl w2.heap.size w2) _) hb);clear hR hb)|(go_at_call 83;refine(hCn _ _ _ HC2.out ?hc).mono ?_;(case hc=>exact(blk_cell (blk_below N0.out HB3.out) 0).trans rfl);rintro e w4 ⟨rfl,hb⟩;have HB4:=Aside0.mk (below_step HB3.out hb);clear hb))
                go_ret
                exact⟨by rw[HSF.out];rfl,below_step B2.out HB4.out⟩
              |false=>
                rw[hany]at hCn
                have HST:Aside0 (safeAt l0 j=true):=⟨by rw[HS.out,hany,HDN.out,HEN.out];rfl⟩
                clear hany;go_wp2_with (first|(go_at_call 27;refine(hUs _).mono ?_;rintro e w3 ⟨v2,rfl,hR,hb⟩;obtain⟨A2,c2,rfl⟩:=Kd.R_slice hR;have HC2:=Aside0.mk (Kd.R_reads' hR).2.2;have HB3:=Aside0.mk (below_step (below_alloc (Below.refl w2.heap.size w2) _) hb);clear hR hb)|(go_at_call 83;refine(hCn _ _ _ HC2.out ?hc).mono ?_;(case hc=>exact(blk_cell (blk_below N0.out HB3.out) 0).trans rfl);rintro e w4 ⟨rfl,hb⟩;have HB4:=Aside0.mk (below_step HB3.out hb);clear hb))
                go_roundg (l0.length- (j+1))
                case measure=>omega
                case rel=>
                  refine⟨j+1,by omega,by omega,by go_num,(show Aside _ from ?_),(show Aside _ from ?_),(show Aside _ from fun i hi=> ?_)⟩
                  · exact below_step B2.out HB4.out
                  · exact below_step B12.out HB4.out
                  · by_cases e:i=j
                    · rw[e];exact HST.out
                    · exact A.out i (by omega)
            · have e14:(kk !=14)=true:=by simp[h14]
              have hen:endsB y=false:=by unfold endsB;rw[←hkk.out];exact decide_eq_false (by omega)
              have HSF:Aside0 (safeB l0=false):=⟨safe_not hlt (by rw[HS.out,hdn,hen];simp)⟩
              clear h9 h14 hen hdn;go_wp2
              go_ret
              exact⟨by rw[HSF.out];rfl,below_step B2.out (below_alloc (Below.refl _ _) _)⟩
    · have hltz: ¬(j:Int)<(l0.length:Int):=by omega
      obtain rfl:j=l0.length:=by omega
      go_wp2
      go_ret
      exact⟨by rw[safe_all HC.out A.out];rfl,BW.out⟩
theorem impl_CodeSafe.calls (A0:Option Addr) (c0:Nat) (l0:List (S29)) (r:Bool) (w:World) (hr0:Kd.C k29 w A0 l0.length l0) (hc0:l0.length≤c0) (h:safeV.f l0=some r):
    Calls Try.prog 46 #[.slice A0 l0.length c0] w fun e w'=>e= .returned (.bool r)∧Below w.heap.size w w':=by
  obtain rfl:=Option.some.inj h;cases hc:codeB l0 with
  |true=>exact safe_yes A0 c0 l0 w hr0 hc0 hc
  |false=>
    have e:safeB l0=false:=by unfold safeB;rw[hc];rfl
    rw[e];exact safe_no A0 c0 l0 w hr0 hc0 hc
theorem spec_CodeSafe_as.calls (A0:Option Addr) (c0:Nat) (l0:List (S29)) (r:Bool) (w:World) (hr0:Kd.C k29 w A0 l0.length l0) (hc0:l0.length≤c0) (h:safeV.f l0=some r):
    Calls Try.prog 45 #[.slice A0 l0.length c0] w fun e w'=>e= .returned (.bool r)∧Below w.heap.size w w':=by
  obtain⟨k,hk⟩:=(scodesafe_ev l0 (Kd.C_max hr0)).rounds;exact spec_CodeSafe.calls k A0 c0 l0 r w hr0 hc0 (hk.trans h)
end Go.Proofs.Ytmklpbmlgjkbiaa.PS
end
section
namespace Go.Proofs.Ytmklpbmlgjkbiaa.PJC
open Go.RowKit Go.Proofs.YtmklpbmlgjkbiaaW.PrintWords Go.Proofs.YtmklpbmlgjkbiaaW.PrintLast Go.Proofs.YtmklpbmlgjkbiaaW.PrintMore Go.Proofs.Ytmklpbmlgjkbiaa.PS
attribute [local go_sem] max2_int min2_int max_two min_two max_three min_three max_four min_four   -- for this text's walks alone
def laws_FnSafeEmpty.j0:Nat→List Int→List Int→Bool→Option (Bool)
 |0,_,_,_=>none
 |k+1,x0,x1,x16=>if x16=true then(some true)else((spec_DrawCodeSafe.f k x0).bind fun t101=>((safeV.f t101).bind fun t104=>(if t104=true then((some (([]:List (S29)):List (S29))).bind fun y105=>(if y105.length+t101.length<2932031007402 then((some (y105++t101:List (S29))).bind fun y108=>(if 0<(y108.length:Int)then((some (([]:List (S29)):List (S29))).bind fun y112=>(if y112.length+t101.length<2932031007402 then((some (y112++t101:List (S29))).bind fun y115=>(if 0<(y115.length:Int)then((safeV.f (y108.set (0:Int).toNat (⟨14,1+((x1.length:Int)%3),0,0,(⟨0,0⟩:S27)⟩:S29))).bind fun t119=>(if t119=true then(some false)else((safeV.f (y115.set (0:Int).toNat (⟨14,0,0,0,(⟨0,0⟩:S27)⟩:S29))).bind fun t120=>(some t120))))else(none)))else(none)))else(none)))else(none)))else(some true))))
def laws_FnSafeEmpty.f (k:Nat) (l0:List Int) (l1:List Int):Option (Bool):=if(l0.length:Int)>1048576 then(laws_FnSafeEmpty.j0 k l0 l1 true)else(laws_FnSafeEmpty.j0 k l0 l1 (decide ((l1.length:Int)>1048576)))
theorem laws_FnSafeEmpty.calls (k:Nat) (A0:Option Addr) (c0:Nat) (l0:List Int) (A1:Option Addr) (c1:Nat) (l1:List Int) (r:Bool) (w:World) (hr0:Kd.C (Kd.int .u8) w A0 l0.length l0) (hc0:l0.length≤c0) (hr1:Kd.C (Kd.int .u8) w A1 l1.length l1) (hc1:l1.length≤c1) (h:laws_FnSafeEmpty.f k l0 l1=some r):
  Calls Try.prog 14 #[.slice A0 l0.length c0,.slice A1 l1.length c1] w fun e w'=>e= .returned (.bool r)∧Below w.heap.size w w':=by
 have hu29:=Try.underlying29;have HR0:=Aside0.mk hr0;have HC0:=Aside0.mk hc0;clear hr0 hc0;have HR1:=Aside0.mk hr1;have HC1:=Aside0.mk hc1;clear hr1 hc1;have HB:=Aside0.mk (Below.refl w.heap.size w);have H:(if(l0.length:Int)>1048576 then(laws_FnSafeEmpty.j0 k l0 l1 true)else(laws_FnSafeEmpty.j0 k l0 l1 (decide ((l1.length:Int)>1048576))))=some r:=h
 clear h;have HC3:=Aside0.mk H;clear H;go_enter Try.func14,Try.ntmps14
 go_upto_region 1 with (fail)
 go_cut [16] (fun v16 wc=> ∃ (kq:Nat) (x16_2:Bool),v16= .bool x16_2∧Aside0 (laws_FnSafeEmpty.j0 kq l0 l1 x16_2=some r)∧Aside0 (kq≤k)∧Aside0 (Below w.heap.size w wc))
 case first=>
  have H:=HC3.out;clear HC3;by_cases c4:(l0.length:Int)>1048576
  ·rw[if_pos c4]at H
   have c4b0:decide (1048576<(l0.length:Int))=true:=decide_eq_true c4;have c4b1:decide (1048576<l0.length)=true:=decide_eq_true (by omega)
   clear c4;(first|rw[c4b0]|(simp only[i64_w,i32_w];rw[c4b0])|skip)
   have H':=Aside0.mk H;clear H;go_wp2
   go_meet
   case rel=>exact⟨_,(true),(by first|rfl|(simp;done)|(simp[*];done)),H',⟨by first|omega|exact Nat.le_refl _⟩,⟨by exact bU HB.out⟩⟩
  ·rw[if_neg c4]at H
   have c4b0:decide (1048576<(l0.length:Int))=false:=decide_eq_false c4;have c4b1:decide (1048576<l0.length)=false:=decide_eq_false (by omega)
   clear c4;(first|rw[c4b0]|(simp only[i64_w,i32_w];rw[c4b0])|skip)
   have H':=Aside0.mk H;clear H;go_wp2
   go_meet
   case rel=>exact⟨_,(decide ((l1.length:Int)>1048576)),(by first|rfl|(simp;done)|(simp[*];done)),H',⟨by first|omega|exact Nat.le_refl _⟩,⟨by exact bU HB.out⟩⟩
 case rest=>
  clear HC3;(try clear c1);(try clear p2);(try clear c4);(try clear c4b0);(try clear c4b1)
  obtain⟨kq,x16_2,rfl,HA,HJ2,HB⟩:=hcut;cases kq with
  |zero=>exact absurd HA.out (by simp[laws_FnSafeEmpty.j0])
  |succ kj2=>
   have H:=HA.out;clear HA;simp only[laws_FnSafeEmpty.j0]at H
   by_cases c5:x16_2=true
   ·subst c5
    have H1:(some true)=some r:=by rw[if_pos rfl]at H;exact H
    clear H;have H:=H1;clear H1;obtain rfl:=Option.some.inj H;go_wp2
    go_ret
    exact⟨by first|rfl|(simp[errW_none,errW_some]<;>rfl)|(simp[*,errW_none,errW_some]<;>rfl),by exact bU HB.out⟩
   ·replace c5:=Bool.eq_false_iff.mpr c5
    subst c5;have H1:((spec_DrawCodeSafe.f kj2 l0).bind fun t101=>((safeV.f t101).bind fun t104=>(if t104=true then((some (([]:List (S29)):List (S29))).bind fun y105=>(if y105.length+t101.length<2932031007402 then((some (y105++t101:List (S29))).bind fun y108=>(if 0<(y108.length:Int)then((some (([]:List (S29)):List (S29))).bind fun y112=>(if y112.length+t101.length<2932031007402 then((some (y112++t101:List (S29))).bind fun y115=>(if 0<(y115.length:Int)then((safeV.f (y108.set (0:Int).toNat (⟨14,1+((l1.length:Int)%3),0,0,(⟨0,0⟩:S27)⟩:S29))).bind fun t119=>(if t119=true then(some false)else((safeV.f (y115.set (0:Int).toNat (⟨14,0,0,0,(⟨0,0⟩:S27)⟩:S29))).bind fun t120=>(some t120))))else(none)))else(none)))else(none)))else(none)))else(some true))))=some r:=by rw[if_neg (show¬(false=true) by decide)]at H;exact H
    clear H;have H:=H1;clear H1;replace H:=Option.bind_eq_some_iff.mp H;obtain⟨t101,A60,H⟩:=H;replace H:((safeV.f t101).bind fun t104=>(if t104=true then((some (([]:List (S29)):List (S29))).bind fun y105=>(if y105.length+t101.length<2932031007402 then((some (y105++t101:List (S29))).bind fun y108=>(if 0<(y108.length:Int)then((some (([]:List (S29)):List (S29))).bind fun y112=>(if y112.length+t101.length<2932031007402 then((some (y112++t101:List (S29))).bind fun y115=>(if 0<(y115.length:Int)then((safeV.f (y108.set (0:Int).toNat (⟨14,1+((l1.length:Int)%3),0,0,(⟨0,0⟩:S27)⟩:S29))).bind fun t119=>(if t119=true then(some false)else((safeV.f (y115.set (0:Int).toNat (⟨14,0,0,0,(⟨0,0⟩:S27)⟩:S29))).bind fun t120=>(some t120))))else(none)))else(none)))else(none)))else(none)))else(some true)))=some r:=H
    have A6:=Aside0.mk A60;clear A60;replace H:=Option.bind_eq_some_iff.mp H;obtain⟨t104,A70,H⟩:=H;replace H:(if t104=true then((some (([]:List (S29)):List (S29))).bind fun y105=>(if y105.length+t101.length<2932031007402 then((some (y105++t101:List (S29))).bind fun y108=>(if 0<(y108.length:Int)then((some (([]:List (S29)):List (S29))).bind fun y112=>(if y112.length+t101.length<2932031007402 then((some (y112++t101:List (S29))).bind fun y115=>(if 0<(y115.length:Int)then((safeV.f (y108.set (0:Int).toNat (⟨14,1+((l1.length:Int)%3),0,0,(⟨0,0⟩:S27)⟩:S29))).bind fun t119=>(if t119=true then(some false)else((safeV.f (y115.set (0:Int).toNat (⟨14,0,0,0,(⟨0,0⟩:S27)⟩:S29))).bind fun t120=>(some t120))))else(none)))else(none)))else(none)))else(none)))else(some true))=some r:=H
    have A7:=Aside0.mk A70;clear A70;have z8:(t104==t104)=true:=by simp
    have z9:(t104 !=t104)=false:=by simp
    by_cases c10:t104=true
    ·subst c10
     have H1:((some (([]:List (S29)):List (S29))).bind fun y105=>(if y105.length+t101.length<2932031007402 then((some (y105++t101:List (S29))).bind fun y108=>(if 0<(y108.length:Int)then((some (([]:List (S29)):List (S29))).bind fun y112=>(if y112.length+t101.length<2932031007402 then((some (y112++t101:List (S29))).bind fun y115=>(if 0<(y115.length:Int)then((safeV.f (y108.set (0:Int).toNat (⟨14,1+((l1.length:Int)%3),0,0,(⟨0,0⟩:S27)⟩:S29))).bind fun t119=>(if t119=true then(some false)else((safeV.f (y115.set (0:Int).toNat (⟨14,0,0,0,(⟨0,0⟩:S27)⟩:S29))).bind fun t120=>(some t120))))else(none)))else(none)))else(none)))else(none)))=some r:=by rw[if_pos rfl]at H;exact H
     clear H;have H:=H1;clear H1;obtain⟨y105,hy105⟩: ∃y_:List (S29),y_=(([]:List (S29))):=⟨_,rfl⟩;replace H:(if y105.length+t101.length<2932031007402 then((some (y105++t101:List (S29))).bind fun y108=>(if 0<(y108.length:Int)then((some (([]:List (S29)):List (S29))).bind fun y112=>(if y112.length+t101.length<2932031007402 then((some (y112++t101:List (S29))).bind fun y115=>(if 0<(y115.length:Int)then((safeV.f (y108.set (0:Int).toNat (⟨14,1+((l1.length:Int)%3),0,0,(⟨0,0⟩:S27)⟩:S29))).bind fun t119=>(if t119=true then(some false)else((safeV.f (y115.set (0:Int).toNat (⟨14,0,0,0,(⟨0,0⟩:S27)⟩:S29))).bind fun t120=>(some t120))))else(none)))else(none)))else(none)))else(none))=some r:=by first|(rw[hy105];with_reducible exact H)|(have H2_:=(Option.bind_some _ _).symm.trans H;rw[hy105];with_reducible exact H2_)|(have H2_:=(Option.bind_some _ _).symm.trans H;with_reducible exact H2_)|with_reducible exact H|(rw[hy105];exact H)|exact H
     have Ny105:=Aside0.mk hy105;clear hy105;by_cases c11:y105.length+t101.length<2932031007402
     ·rw[if_pos c11]at H
      have LMc11:=Aside0.mk c11;clear c11;obtain⟨y108,hy108⟩: ∃y_:List (S29),y_=(y105++t101):=⟨_,rfl⟩;replace H:(if 0<(y108.length:Int)then((some (([]:List (S29)):List (S29))).bind fun y112=>(if y112.length+t101.length<2932031007402 then((some (y112++t101:List (S29))).bind fun y115=>(if 0<(y115.length:Int)then((safeV.f (y108.set (0:Int).toNat (⟨14,1+((l1.length:Int)%3),0,0,(⟨0,0⟩:S27)⟩:S29))).bind fun t119=>(if t119=true then(some false)else((safeV.f (y115.set (0:Int).toNat (⟨14,0,0,0,(⟨0,0⟩:S27)⟩:S29))).bind fun t120=>(some t120))))else(none)))else(none)))else(none))=some r:=by first|(rw[hy108];with_reducible exact H)|(have H2_:=(Option.bind_some _ _).symm.trans H;rw[hy108];with_reducible exact H2_)|(have H2_:=(Option.bind_some _ _).symm.trans H;with_reducible exact H2_)|with_reducible exact H|(rw[hy108];exact H)|exact H
      have Ny108:=Aside0.mk hy108;clear hy108;by_cases c12:0<(y108.length:Int)
      ·rw[if_pos c12]at H
       have c12b0:decide (0<(y108.length:Int))=true:=decide_eq_true c12;have c12b1:decide (0<y108.length)=true:=decide_eq_true (by omega)
       clear c12;obtain⟨y111,hy111⟩: ∃y_:List (S29),y_=(y108.set (0:Int).toNat (⟨14,1+((l1.length:Int)%3),0,0,(⟨0,0⟩:S27)⟩:S29)):=⟨_,rfl⟩;replace H:((some (([]:List (S29)):List (S29))).bind fun y112=>(if y112.length+t101.length<2932031007402 then((some (y112++t101:List (S29))).bind fun y115=>(if 0<(y115.length:Int)then((safeV.f y111).bind fun t119=>(if t119=true then(some false)else((safeV.f (y115.set (0:Int).toNat (⟨14,0,0,0,(⟨0,0⟩:S27)⟩:S29))).bind fun t120=>(some t120))))else(none)))else(none)))=some r:=by first|(rw[hy111];with_reducible exact H)|(have H2_:=(Option.bind_some _ _).symm.trans H;rw[hy111];with_reducible exact H2_)|(have H2_:=(Option.bind_some _ _).symm.trans H;with_reducible exact H2_)|with_reducible exact H|(rw[hy111];exact H)|exact H
       have Ny111:=Aside0.mk hy111;clear hy111;obtain⟨y112,hy112⟩: ∃y_:List (S29),y_=(([]:List (S29))):=⟨_,rfl⟩;replace H:(if y112.length+t101.length<2932031007402 then((some (y112++t101:List (S29))).bind fun y115=>(if 0<(y115.length:Int)then((safeV.f y111).bind fun t119=>(if t119=true then(some false)else((safeV.f (y115.set (0:Int).toNat (⟨14,0,0,0,(⟨0,0⟩:S27)⟩:S29))).bind fun t120=>(some t120))))else(none)))else(none))=some r:=by first|(rw[hy112];with_reducible exact H)|(have H2_:=(Option.bind_some _ _).symm.trans H;rw[hy112];with_reducible exact H2_)|(have H2_:=(Option.bind_some _ _).symm.trans H;with_reducible exact H2_)|with_reducible exact H|(rw[hy112];exact H)|exact H
       have Ny112:=Aside0.mk hy112;clear hy112;by_cases c14:y112.length+t101.length<2932031007402
       ·rw[if_pos c14]at H
        have LMc14:=Aside0.mk c14;clear c14;obtain⟨y115,hy115⟩: ∃y_:List (S29),y_=(y112++t101):=⟨_,rfl⟩;replace H:(if 0<(y115.length:Int)then((safeV.f y111).bind fun t119=>(if t119=true then(some false)else((safeV.f (y115.set (0:Int).toNat (⟨14,0,0,0,(⟨0,0⟩:S27)⟩:S29))).bind fun t120=>(some t120))))else(none))=some r:=by first|(rw[hy115];with_reducible exact H)|(have H2_:=(Option.bind_some _ _).symm.trans H;rw[hy115];with_reducible exact H2_)|(have H2_:=(Option.bind_some _ _).symm.trans H;with_reducible exact H2_)|with_reducible exact H|(rw[hy115];exact H)|exact H
        have Ny115:=Aside0.mk hy115;clear hy115;by_cases c15:0<(y115.length:Int)
        ·rw[if_pos c15]at H
         have c15b0:decide (0<(y115.length:Int))=true:=decide_eq_true c15;have c15b1:decide (0<y115.length)=true:=decide_eq_true (by omega)
         clear c15;obtain⟨y118,hy118⟩: ∃y_:List (S29),y_=(y115.set (0:Int).toNat (⟨14,0,0,0,(⟨0,0⟩:S27)⟩:S29)):=⟨_,rfl⟩;replace H:((safeV.f y111).bind fun t119=>(if t119=true then(some false)else((safeV.f y118).bind fun t120=>(some t120))))=some r:=by first|(rw[hy118];with_reducible exact H)|(have H2_:=(Option.bind_some _ _).symm.trans H;rw[hy118];with_reducible exact H2_)|(have H2_:=(Option.bind_some _ _).symm.trans H;with_reducible exact H2_)|with_reducible exact H|(rw[hy118];exact H)|exact H
         have Ny118:=Aside0.mk hy118;clear hy118;replace H:=Option.bind_eq_some_iff.mp H;obtain⟨t119,A170,H⟩:=H;replace H:(if t119=true then(some false)else((safeV.f y118).bind fun t120=>(some t120)))=some r:=H
         have A17:=Aside0.mk A170;clear A170;by_cases c18:t119=true
         ·subst c18
          have H1:(some false)=some r:=by rw[if_pos rfl]at H;exact H
          clear H;have H:=H1;clear H1;obtain rfl:=Option.some.inj H;go_wp2_with (first|((with_reducible refine gate_callee (f:=52) rfl ?_);refine goesL_ (some 18) rfl rfl Try.func52 (by kernel_rfl) rfl #[.slice A0 l0.length c0] rfl (by(try simp only[List.map_toArray,List.map_cons,List.map_nil])<;>rfl) ?_;(with_reducible refine(spec_DrawCodeSafe.calls kj2 _ _ l0 t101 _ ?side1 ?side2 A6.out).mono ?_);(case side1=>repeat(first|exact(Kd.C_below HR0.out HB.out)|(with_reducible refine Kd.C_alloc ?_ _)|(with_reducible refine Kd.C_drewN ?_ _)|(with_reducible refine Kd.C_drew ?_)));(case side2=>exact HC0.out);rintro e w19 ⟨v102,rfl,ho0,hb⟩;refine⟨_,rfl,?_⟩;have HO103:=Aside0.mk (Kd.R_lower ho0 (below_size (by exact bU HB.out)));replace HB:=Aside0.mk (below_step (by exact bU HB.out) hb);(try clear hb);(try clear hb2);(try clear hk);(try clear hi);(try clear ho0);obtain⟨Ao20,co20,eo20⟩:=Kd.R_slice HO103.out;subst eo20)|((with_reducible refine gate_callee (f:=46) rfl ?_);refine goesL_ (some 20) rfl rfl Try.func46 (by kernel_rfl) rfl #[.slice Ao20 t101.length co20] rfl (by(try simp only[List.map_toArray,List.map_cons,List.map_nil])<;>rfl) ?_;(with_reducible refine(impl_CodeSafe.calls _ _ t101 true _ ?side1 ?side2 A7.out).mono ?_);(case side1=>repeat(first|exact(Kd.R_reads' HO103.out).2.2|(with_reducible refine Kd.C_alloc ?_ _)|(with_reducible refine Kd.C_drewN ?_ _)|(with_reducible refine Kd.C_drew ?_)));(case side2=>exact(Kd.R_reads' HO103.out).2.1);rintro e w21 ⟨rfl,hb⟩;refine⟨_,rfl,?_⟩;replace HO103:=Aside0.mk (Kd.R_below (by exact rU HO103.out) hb);replace HB:=Aside0.mk (below_step (by exact bU HB.out) hb);(try clear hb);(try clear hb2);(try clear hk);(try clear hi))|((with_reducible refine gate_callee (f:=45) rfl ?_);refine goesL_ (some 23) rfl rfl Try.func45 (by kernel_rfl) rfl #[.slice Ao20 t101.length co20] rfl (by(try simp only[List.map_toArray,List.map_cons,List.map_nil])<;>rfl) ?_;(with_reducible refine(spec_CodeSafe_as.calls _ _ t101 true _ ?side1 ?side2 A7.out).mono ?_);(case side1=>repeat(first|exact(Kd.R_reads' HO103.out).2.2|(with_reducible refine Kd.C_alloc ?_ _)|(with_reducible refine Kd.C_drewN ?_ _)|(with_reducible refine Kd.C_drew ?_)));(case side2=>exact(Kd.R_reads' HO103.out).2.1);rintro e w22 ⟨rfl,hb⟩;refine⟨_,rfl,?_⟩;replace HO103:=Aside0.mk (Kd.R_below (by exact rU HO103.out) hb);replace HB:=Aside0.mk (below_step (by exact bU HB.out) hb);(try clear hb);(try clear hb2);(try clear hk);(try clear hi))|((with_reducible refine gate_dst (N:=33) rfl ?_);(try(refine gate_guard (by rfl) ?_;dsimp only));refine Kd.R_lit k29 _ 29 ?hg (N:=33) ?hd (xs:=([]:List (S29))) (inner:=[]) (ok:=fun _=>True) (okp:=fun _=>True) ?hr ?hp (fun _ hk=>hk) trivial (Below.refl _ _) (Nat.le_refl _) (by simp) ?_;(case hd=>rfl);(case hg=>rfl);(case hr=>first|(go_simp;done)|(go_simp;rfl));(case hp=>exact(Reps.none _ _));intro v106 w23 ho24 hb hg_ hnew_;clear hg_ hnew_;(first|rw[←Ny105.out]at ho24|(simp only[Int.reduceToNat]at ho24;rw[←Ny105.out]at ho24));have n0_:=Aside0.mk (Kd.R_elder' (by exact rU HO103.out) (Kd.R_base ho24) hb);have n1_:=Aside0.mk (Kd.R_lower (Kd.R_new' ho24 (Kd.R_lt (by exact rU HO103.out))) (below_size (by exact bU HB.out)));have n2_:=Aside0.mk (below_step (by exact bU HB.out) hb);clear HO103;clear HB;have HO103:=n0_;have HO107:=n1_;have HB:=n2_;clear n0_ n1_ n2_;clear hb ho24)|((with_reducible refine gate_builtin (b:=.append) (xs:= #[.tmp 33,.tmp 34]) rfl ?_);(try(refine gate_guard (by rfl) ?_;dsimp only));at_builtin;refine Kd.R_append_rows k29 (w0:=w) w.heap.size rfl (.tmp 33) (.tmp 34) 42 29 (.agg #[(.int .i64 0),(.int .i64 0),(.int .i64 0),(.int .i64 0),(.int .i64 0),(.int .i64 0)]) 48 rfl Try.underlying42 info29 rfl (by decide) (by omega) v106 y105 t101 _ _ _ (fun k_=>some k_≠(.slice Ao20 t101.length co20:Value).ownBlock) (fun _=>False) rfl rfl ?aO ?aR (fun _ _ h=>h) (fun _ h=>h.elim) ?aF ?aB ?aS ?aL ?_;(case aR=>repeat(first|exact(Kd.R_reads' HO103.out).2.2|(with_reducible refine Kd.C_alloc ?_ _)|(with_reducible refine Kd.C_drewN ?_ _)|(with_reducible refine Kd.C_drew ?_)));(case aB=>exact(by exact bU HB.out));(case aF=>exact(fun k_ hk=>Kd.fresh' (Kd.R_lt (by exact rU HO103.out)) k_ hk));(case aO=>exact(by(with_reducible repeat(first|apply rA|apply rN|apply rD));exact Kd.R_mono HO107.out (fun _ hk=>hk.2)));(case aS=>exact(below_size (by exact bU HB.out)));(case aL=>have:=LMc11.out;omega);intro v109 w25 ho hb hg hat;rw[←Ny108.out]at ho;replace HO103:=Aside0.mk (Kd.R_after (ok:=(fun _=>True)) (by exact rU HO103.out) hg hat);replace HB:=Aside0.mk (hb);have HO110:=Aside0.mk (ho);clear HO107;clear ho hb hg hat;have p13:0≤(0:Int):=(by omega);have q13:(0:Int)<((y108.length:Int):Int):=of_decide_eq_true (by assumption);have qi13:(0<y108.length)=True:=eq_true (by omega);obtain⟨go13,co13,eo13,gb13,gl13,cl13,HG13⟩:=Kd.R_form HO110.out (by omega);(first|cases eo13|(injection eo13 with ea_ en_ ec_;(first|subst ea_|(injection ea_ with ea_;subst ea_));subst ec_;clear en_));have GB13:=Aside0.mk gb13;have GG13:=Aside0.mk HG13;clear gb13 gl13 HG13;obtain⟨ce13,hcl13,hM13,hcc13,hfr13⟩:=Kd.R_elem HO110.out z29 (0:Int) p13 q13;obtain rfl:=k29_openM hM13;have hx13_0:w25.cell? ⟨go13,(0:Int).toNat*6,none⟩=some (.int .i64 ((rd_T29 y108 0).f0)):=hcc13 0 _ rfl;have hx13_1:w25.cell? ⟨go13,(0:Int).toNat*6+1,none⟩=some (.int .i64 ((rd_T29 y108 0).f1)):=hcc13 1 _ rfl;have hx13_2:w25.cell? ⟨go13,(0:Int).toNat*6+2,none⟩=some (.int .i64 ((rd_T29 y108 0).f2)):=hcc13 2 _ rfl;have hx13_3:w25.cell? ⟨go13,(0:Int).toNat*6+3,none⟩=some (.int .i64 ((rd_T29 y108 0).f3)):=hcc13 3 _ rfl;have hx13_4:w25.cell? ⟨go13,(0:Int).toNat*6+4,none⟩=some (.int .i64 ((rd_T29 y108 0).f4.f0)):=hcc13 4 _ rfl;have hx13_5:w25.cell? ⟨go13,(0:Int).toNat*6+5,none⟩=some (.int .i64 ((rd_T29 y108 0).f4.f1)):=hcc13 5 _ rfl;have hf13_0:w25.frozen? ⟨go13,(0:Int).toNat*6,none⟩=false:=hfr13 0;have hf13_1:w25.frozen? ⟨go13,(0:Int).toNat*6+1,none⟩=false:=hfr13 1;have hf13_2:w25.frozen? ⟨go13,(0:Int).toNat*6+2,none⟩=false:=hfr13 2;have hf13_3:w25.frozen? ⟨go13,(0:Int).toNat*6+3,none⟩=false:=hfr13 3;have hf13_4:w25.frozen? ⟨go13,(0:Int).toNat*6+4,none⟩=false:=hfr13 4;have hf13_5:w25.frozen? ⟨go13,(0:Int).toNat*6+5,none⟩=false:=hfr13 5;clear hcl13 hcc13 hfr13 hM13;(try rw[show((0:Int)).toNat=0 from rfl]at hx13_0);(try simp only[Nat.reduceMul,Nat.zero_mul,Nat.zero_add,Nat.reduceAdd]at hx13_0);(try rw[show((0:Int)).toNat=0 from rfl]at hf13_0);(try simp only[Nat.reduceMul,Nat.zero_mul,Nat.zero_add,Nat.reduceAdd]at hf13_0);(try rw[show((0:Int)).toNat=0 from rfl]at hx13_1);(try simp only[Nat.reduceMul,Nat.zero_mul,Nat.zero_add,Nat.reduceAdd]at hx13_1);(try rw[show((0:Int)).toNat=0 from rfl]at hf13_1);(try simp only[Nat.reduceMul,Nat.zero_mul,Nat.zero_add,Nat.reduceAdd]at hf13_1);(try rw[show((0:Int)).toNat=0 from rfl]at hx13_2);(try simp only[Nat.reduceMul,Nat.zero_mul,Nat.zero_add,Nat.reduceAdd]at hx13_2);(try rw[show((0:Int)).toNat=0 from rfl]at hf13_2);(try simp only[Nat.reduceMul,Nat.zero_mul,Nat.zero_add,Nat.reduceAdd]at hf13_2);(try rw[show((0:Int)).toNat=0 from rfl]at hx13_3);(try simp only[Nat.reduceMul,Nat.zero_mul,Nat.zero_add,Nat.reduceAdd]at hx13_3);(try rw[show((0:Int)).toNat=0 from rfl]at hf13_3);(try simp only[Nat.reduceMul,Nat.zero_mul,Nat.zero_add,Nat.reduceAdd]at hf13_3);(try rw[show((0:Int)).toNat=0 from rfl]at hx13_4);(try simp only[Nat.reduceMul,Nat.zero_mul,Nat.zero_add,Nat.reduceAdd]at hx13_4);(try rw[show((0:Int)).toNat=0 from rfl]at hf13_4);(try simp only[Nat.reduceMul,Nat.zero_mul,Nat.zero_add,Nat.reduceAdd]at hf13_4);(try rw[show((0:Int)).toNat=0 from rfl]at hx13_5);(try simp only[Nat.reduceMul,Nat.zero_mul,Nat.zero_add,Nat.reduceAdd]at hx13_5);(try rw[show((0:Int)).toNat=0 from rfl]at hf13_5);(try simp only[Nat.reduceMul,Nat.zero_mul,Nat.zero_add,Nat.reduceAdd]at hf13_5);replace p13:=eq_true p13;replace q13:=eq_true q13;have HX26:=Aside0.mk (show Kd.R k29 29 w25 w.heap.size (fun k_=>some k_≠(.slice Ao20 t101.length co20:Value).ownBlock) (.slice (some ⟨go13,0,none⟩) y108.length co13) y108 from(by exact rU HO110.out));obtain⟨ce26,hcl26,hM26,hcc26,hfr26⟩:=Kd.R_elem HX26.out z29 (0:Int) (by omega) (by have h_:(0:Int)<((y108.length:Int):Int):=of_decide_eq_true (by assumption);first|exact h_|(have e_:=(Kd.R_reads' HO110.out).1;omega)|simpa using h_);obtain rfl:=k29_openM hM26;have HP26:=Kd.R_seg HX26.out (0:Int) (by omega) (by have h_:(0:Int)<((y108.length:Int):Int):=of_decide_eq_true (by assumption);first|exact h_|(have e_:=(Kd.R_reads' HO110.out).1;omega)|simpa using h_) (seg:=[.int .i64 14,.int .i64 (1+((l1.length:Int)%3)),.int .i64 0,.int .i64 0,.int .i64 0,.int .i64 0]) (j:=0) hcl26 hcc26 (show 6≤6 from by decide) (x':=(⟨14,1+((l1.length:Int)%3),0,0,(⟨0,0⟩:S27)⟩:S29)) (k29_mkM _ _ _ (⟨14,1+((l1.length:Int)%3),0,0,(⟨0,0⟩:S27)⟩:S29)) (fun _ hk=>hk);have hx26_0:=hcc26 0 _ rfl;(try simp only[show(k29).sz=6 from rfl,Nat.mul_one,Nat.add_zero]at hx26_0);(try rw[show((0:Int)).toNat=0 from rfl]at hx26_0);(try simp only[Nat.reduceMul,Nat.zero_mul,Nat.zero_add,Nat.reduceAdd]at hx26_0);have hf26_0:=hfr26 0;(try simp only[show(k29).sz=6 from rfl,Nat.mul_one,Nat.add_zero]at hf26_0);(try rw[show((0:Int)).toNat=0 from rfl]at hf26_0);(try simp only[Nat.reduceMul,Nat.zero_mul,Nat.zero_add,Nat.reduceAdd]at hf26_0);have hx26_1:=hcc26 1 _ rfl;(try simp only[show(k29).sz=6 from rfl,Nat.mul_one,Nat.add_zero]at hx26_1);(try rw[show((0:Int)).toNat=0 from rfl]at hx26_1);(try simp only[Nat.reduceMul,Nat.zero_mul,Nat.zero_add,Nat.reduceAdd]at hx26_1);have hf26_1:=hfr26 1;(try simp only[show(k29).sz=6 from rfl,Nat.mul_one,Nat.add_zero]at hf26_1);(try rw[show((0:Int)).toNat=0 from rfl]at hf26_1);(try simp only[Nat.reduceMul,Nat.zero_mul,Nat.zero_add,Nat.reduceAdd]at hf26_1);have hx26_2:=hcc26 2 _ rfl;(try simp only[show(k29).sz=6 from rfl,Nat.mul_one,Nat.add_zero]at hx26_2);(try rw[show((0:Int)).toNat=0 from rfl]at hx26_2);(try simp only[Nat.reduceMul,Nat.zero_mul,Nat.zero_add,Nat.reduceAdd]at hx26_2);have hf26_2:=hfr26 2;(try simp only[show(k29).sz=6 from rfl,Nat.mul_one,Nat.add_zero]at hf26_2);(try rw[show((0:Int)).toNat=0 from rfl]at hf26_2);(try simp only[Nat.reduceMul,Nat.zero_mul,Nat.zero_add,Nat.reduceAdd]at hf26_2);have hx26_3:=hcc26 3 _ rfl;(try simp only[show(k29).sz=6 from rfl,Nat.mul_one,Nat.add_zero]at hx26_3);(try rw[show((0:Int)).toNat=0 from rfl]at hx26_3);(try simp only[Nat.reduceMul,Nat.zero_mul,Nat.zero_add,Nat.reduceAdd]at hx26_3);have hf26_3:=hfr26 3;(try simp only[show(k29).sz=6 from rfl,Nat.mul_one,Nat.add_zero]at hf26_3);(try rw[show((0:Int)).toNat=0 from rfl]at hf26_3);(try simp only[Nat.reduceMul,Nat.zero_mul,Nat.zero_add,Nat.reduceAdd]at hf26_3);have hx26_4:=hcc26 4 _ rfl;(try simp only[show(k29).sz=6 from rfl,Nat.mul_one,Nat.add_zero]at hx26_4);(try rw[show((0:Int)).toNat=0 from rfl]at hx26_4);(try simp only[Nat.reduceMul,Nat.zero_mul,Nat.zero_add,Nat.reduceAdd]at hx26_4);have hf26_4:=hfr26 4;(try simp only[show(k29).sz=6 from rfl,Nat.mul_one,Nat.add_zero]at hf26_4);(try rw[show((0:Int)).toNat=0 from rfl]at hf26_4);(try simp only[Nat.reduceMul,Nat.zero_mul,Nat.zero_add,Nat.reduceAdd]at hf26_4);have hx26_5:=hcc26 5 _ rfl;(try simp only[show(k29).sz=6 from rfl,Nat.mul_one,Nat.add_zero]at hx26_5);(try rw[show((0:Int)).toNat=0 from rfl]at hx26_5);(try simp only[Nat.reduceMul,Nat.zero_mul,Nat.zero_add,Nat.reduceAdd]at hx26_5);have hf26_5:=hfr26 5;(try simp only[show(k29).sz=6 from rfl,Nat.mul_one,Nat.add_zero]at hf26_5);(try rw[show((0:Int)).toNat=0 from rfl]at hf26_5);(try simp only[Nat.reduceMul,Nat.zero_mul,Nat.zero_add,Nat.reduceAdd]at hf26_5);clear hcl26 hcc26 hfr26 hM26)|((with_reducible refine gate_store (t:=29) (p:=42) rfl ?_);refine store_event (t:=29) (p:=42) (v:= ?vo_w27) (w1:=((((((w25.setCell ⟨go13,0,none⟩ (.int .i64 14)).setCell ⟨go13,1,none⟩ (.int .i64 (1+((l1.length:Int)%3)))).setCell ⟨go13,2,none⟩ (.int .i64 0)).setCell ⟨go13,3,none⟩ (.int .i64 0)).setCell ⟨go13,4,none⟩ (.int .i64 0)).setCell ⟨go13,5,none⟩ (.int .i64 0))) ?hg ?ho ?hn ?hr ?_;(case ho=>rfl);(case hg=>rfl);(case hn=>rfl);(case hr=>first|(go_simp;done)|(go_simp;rfl));intro w27 hw;have hg:w25.grownBy w27 (some go13):=(by rw[hw];exact HP26.2);have hp_:Kd.R k29 29 w27 w.heap.size (fun k_=>some k_≠(.slice Ao20 t101.length co20:Value).ownBlock) (.slice (some ⟨go13,0,none⟩) y108.length co13) y111:=(by rw[hw,Ny111.out];exact HP26.1);clear HP26;replace HO103:=Aside0.mk (Kd.R_after (v:=(.slice (some ⟨go13,0,none⟩) y108.length co13)) (v1:=(.slice (some ⟨go13,0,none⟩) y108.length co13)) (ok:=(fun _=>True)) (by exact rU HO103.out) hg (.inl rfl));replace HO110:=Aside0.mk (hp_);replace HB:=Aside0.mk ((by rw[hw];exact below_set (below_set (below_set (below_set (below_set (below_set (HB.out) GB13.out) GB13.out) GB13.out) GB13.out) GB13.out) GB13.out:Below w.heap.size w w27));clear hg hw hp_)|((with_reducible refine gate_dst (N:=43) rfl ?_);(try(refine gate_guard (by rfl) ?_;dsimp only));refine Kd.R_lit k29 _ 29 ?hg (N:=43) ?hd (xs:=([]:List (S29))) (inner:=[]) (ok:=fun _=>True) (okp:=fun _=>True) ?hr ?hp (fun _ hk=>hk) trivial (Below.refl _ _) (Nat.le_refl _) (by simp) ?_;(case hd=>rfl);(case hg=>rfl);(case hr=>first|(go_simp;done)|(go_simp;rfl));(case hp=>exact(Reps.none _ _));intro v113 w28 ho29 hb hg_ hnew_;clear hg_ hnew_;(first|rw[←Ny112.out]at ho29|(simp only[Int.reduceToNat]at ho29;rw[←Ny112.out]at ho29));have n0_:=Aside0.mk (Kd.R_elder' (by exact rU HO103.out) (Kd.R_base ho29) hb);have n1_:=Aside0.mk (Kd.R_elder' (by exact rU HO110.out) (Kd.R_base ho29) hb);have n2_:=Aside0.mk (Kd.R_lower (Kd.R_new' (Kd.R_new' ho29 (Kd.R_lt (by exact rU HO103.out))) (Kd.R_lt (by exact rU HO110.out))) (below_size (by exact bU HB.out)));have n3_:=Aside0.mk (below_step (by exact bU HB.out) hb);clear HO103;clear HO110;clear HB;have HO103:=n0_;have HO110:=n1_;have HO114:=n2_;have HB:=n3_;clear n0_ n1_ n2_ n3_;clear hb ho29)|((with_reducible refine gate_builtin (b:=.append) (xs:= #[.tmp 43,.tmp 44]) rfl ?_);(try(refine gate_guard (by rfl) ?_;dsimp only));at_builtin;refine Kd.R_append_rows k29 (w0:=w) w.heap.size rfl (.tmp 43) (.tmp 44) 42 29 (.agg #[(.int .i64 0),(.int .i64 0),(.int .i64 0),(.int .i64 0),(.int .i64 0),(.int .i64 0)]) 48 rfl Try.underlying42 info29 rfl (by decide) (by omega) v113 y112 t101 _ _ _ (fun k_=>some k_≠(.slice Ao20 t101.length co20:Value).ownBlock∧some k_≠(.slice (some ⟨go13,0,none⟩) y108.length co13:Value).ownBlock) (fun _=>False) rfl rfl ?aO ?aR (fun _ _ h=>h) (fun _ h=>h.elim) ?aF ?aB ?aS ?aL ?_;(case aR=>repeat(first|exact(Kd.R_reads' HO103.out).2.2|(with_reducible refine Kd.C_alloc ?_ _)|(with_reducible refine Kd.C_drewN ?_ _)|(with_reducible refine Kd.C_drew ?_)));(case aB=>exact(by exact bU HB.out));(case aF=>exact(fun k_ hk=>⟨Kd.fresh' (Kd.R_lt (by exact rU HO103.out)) k_ hk,Kd.fresh' (Kd.R_lt (by exact rU HO110.out)) k_ hk⟩));(case aO=>exact(by(with_reducible repeat(first|apply rA|apply rN|apply rD));exact Kd.R_mono HO114.out (fun _ hk=>⟨hk.1.2,hk.2⟩)));(case aS=>exact(below_size (by exact bU HB.out)));(case aL=>have:=LMc14.out;omega);intro v116 w30 ho hb hg hat;rw[←Ny115.out]at ho;replace HO103:=Aside0.mk (Kd.R_after (ok:=(fun k_=>some k_≠(.slice (some ⟨go13,0,none⟩) y108.length co13:Value).ownBlock)) (by(with_reducible repeat(first|apply rA|apply rN|apply rD));exact Kd.R_mono HO103.out (fun _ hk=>⟨hk.1.2,hk.2⟩)) hg hat);replace HO110:=Aside0.mk (Kd.R_after (ok:=(fun k_=>some k_≠(.slice Ao20 t101.length co20:Value).ownBlock)) (by exact rU HO110.out) hg hat);replace HB:=Aside0.mk (hb);have HO117:=Aside0.mk (ho);clear HO114;clear ho hb hg hat;have p16:0≤(0:Int):=(by omega);have q16:(0:Int)<((y115.length:Int):Int):=of_decide_eq_true (by assumption);have qi16:(0<y115.length)=True:=eq_true (by omega);obtain⟨go16,co16,eo16,gb16,gl16,cl16,HG16⟩:=Kd.R_form HO117.out (by omega);(first|cases eo16|(injection eo16 with ea_ en_ ec_;(first|subst ea_|(injection ea_ with ea_;subst ea_));subst ec_;clear en_));have GB16:=Aside0.mk gb16;have GG16:=Aside0.mk HG16;clear gb16 gl16 HG16;obtain⟨ce16,hcl16,hM16,hcc16,hfr16⟩:=Kd.R_elem HO117.out z29 (0:Int) p16 q16;obtain rfl:=k29_openM hM16;have hx16_0:w30.cell? ⟨go16,(0:Int).toNat*6,none⟩=some (.int .i64 ((rd_T29 y115 0).f0)):=hcc16 0 _ rfl;have hx16_1:w30.cell? ⟨go16,(0:Int).toNat*6+1,none⟩=some (.int .i64 ((rd_T29 y115 0).f1)):=hcc16 1 _ rfl;have hx16_2:w30.cell? ⟨go16,(0:Int).toNat*6+2,none⟩=some (.int .i64 ((rd_T29 y115 0).f2)):=hcc16 2 _ rfl;have hx16_3:w30.cell? ⟨go16,(0:Int).toNat*6+3,none⟩=some (.int .i64 ((rd_T29 y115 0).f3)):=hcc16 3 _ rfl;have hx16_4:w30.cell? ⟨go16,(0:Int).toNat*6+4,none⟩=some (.int .i64 ((rd_T29 y115 0).f4.f0)):=hcc16 4 _ rfl;have hx16_5:w30.cell? ⟨go16,(0:Int).toNat*6+5,none⟩=some (.int .i64 ((rd_T29 y115 0).f4.f1)):=hcc16 5 _ rfl;have hf16_0:w30.frozen? ⟨go16,(0:Int).toNat*6,none⟩=false:=hfr16 0;have hf16_1:w30.frozen? ⟨go16,(0:Int).toNat*6+1,none⟩=false:=hfr16 1;have hf16_2:w30.frozen? ⟨go16,(0:Int).toNat*6+2,none⟩=false:=hfr16 2;have hf16_3:w30.frozen? ⟨go16,(0:Int).toNat*6+3,none⟩=false:=hfr16 3;have hf16_4:w30.frozen? ⟨go16,(0:Int).toNat*6+4,none⟩=false:=hfr16 4;have hf16_5:w30.frozen? ⟨go16,(0:Int).toNat*6+5,none⟩=false:=hfr16 5;clear hcl16 hcc16 hfr16 hM16;(try rw[show((0:Int)).toNat=0 from rfl]at hx16_0);(try simp only[Nat.reduceMul,Nat.zero_mul,Nat.zero_add,Nat.reduceAdd]at hx16_0);(try rw[show((0:Int)).toNat=0 from rfl]at hf16_0);(try simp only[Nat.reduceMul,Nat.zero_mul,Nat.zero_add,Nat.reduceAdd]at hf16_0);(try rw[show((0:Int)).toNat=0 from rfl]at hx16_1);(try simp only[Nat.reduceMul,Nat.zero_mul,Nat.zero_add,Nat.reduceAdd]at hx16_1);(try rw[show((0:Int)).toNat=0 from rfl]at hf16_1);(try simp only[Nat.reduceMul,Nat.zero_mul,Nat.zero_add,Nat.reduceAdd]at hf16_1);(try rw[show((0:Int)).toNat=0 from rfl]at hx16_2);(try simp only[Nat.reduceMul,Nat.zero_mul,Nat.zero_add,Nat.reduceAdd]at hx16_2);(try rw[show((0:Int)).toNat=0 from rfl]at hf16_2);(try simp only[Nat.reduceMul,Nat.zero_mul,Nat.zero_add,Nat.reduceAdd]at hf16_2);(try rw[show((0:Int)).toNat=0 from rfl]at hx16_3);(try simp only[Nat.reduceMul,Nat.zero_mul,Nat.zero_add,Nat.reduceAdd]at hx16_3);(try rw[show((0:Int)).toNat=0 from rfl]at hf16_3);(try simp only[Nat.reduceMul,Nat.zero_mul,Nat.zero_add,Nat.reduceAdd]at hf16_3);(try rw[show((0:Int)).toNat=0 from rfl]at hx16_4);(try simp only[Nat.reduceMul,Nat.zero_mul,Nat.zero_add,Nat.reduceAdd]at hx16_4);(try rw[show((0:Int)).toNat=0 from rfl]at hf16_4);(try simp only[Nat.reduceMul,Nat.zero_mul,Nat.zero_add,Nat.reduceAdd]at hf16_4);(try rw[show((0:Int)).toNat=0 from rfl]at hx16_5);(try simp only[Nat.reduceMul,Nat.zero_mul,Nat.zero_add,Nat.reduceAdd]at hx16_5);(try rw[show((0:Int)).toNat=0 from rfl]at hf16_5);(try simp only[Nat.reduceMul,Nat.zero_mul,Nat.zero_add,Nat.reduceAdd]at hf16_5);replace p16:=eq_true p16;replace q16:=eq_true q16;have HX31:=Aside0.mk (show Kd.R k29 29 w30 w.heap.size (fun k_=>some k_≠(.slice Ao20 t101.length co20:Value).ownBlock∧some k_≠(.slice (some ⟨go13,0,none⟩) y108.length co13:Value).ownBlock) (.slice (some ⟨go16,0,none⟩) y115.length co16) y115 from(by exact rU HO117.out));obtain⟨ce31,hcl31,hM31,hcc31,hfr31⟩:=Kd.R_elem HX31.out z29 (0:Int) (by omega) (by have h_:(0:Int)<((y115.length:Int):Int):=of_decide_eq_true (by assumption);first|exact h_|(have e_:=(Kd.R_reads' HO117.out).1;omega)|simpa using h_);obtain rfl:=k29_openM hM31;have HP31:=Kd.R_seg HX31.out (0:Int) (by omega) (by have h_:(0:Int)<((y115.length:Int):Int):=of_decide_eq_true (by assumption);first|exact h_|(have e_:=(Kd.R_reads' HO117.out).1;omega)|simpa using h_) (seg:=[.int .i64 14,.int .i64 0,.int .i64 0,.int .i64 0,.int .i64 0,.int .i64 0]) (j:=0) hcl31 hcc31 (show 6≤6 from by decide) (x':=(⟨14,0,0,0,(⟨0,0⟩:S27)⟩:S29)) (k29_mkM _ _ _ (⟨14,0,0,0,(⟨0,0⟩:S27)⟩:S29)) (fun _ hk=>hk);have hx31_0:=hcc31 0 _ rfl;(try simp only[show(k29).sz=6 from rfl,Nat.mul_one,Nat.add_zero]at hx31_0);(try rw[show((0:Int)).toNat=0 from rfl]at hx31_0);(try simp only[Nat.reduceMul,Nat.zero_mul,Nat.zero_add,Nat.reduceAdd]at hx31_0);have hf31_0:=hfr31 0;(try simp only[show(k29).sz=6 from rfl,Nat.mul_one,Nat.add_zero]at hf31_0);(try rw[show((0:Int)).toNat=0 from rfl]at hf31_0);(try simp only[Nat.reduceMul,Nat.zero_mul,Nat.zero_add,Nat.reduceAdd]at hf31_0);have hx31_1:=hcc31 1 _ rfl;(try simp only[show(k29).sz=6 from rfl,Nat.mul_one,Nat.add_zero]at hx31_1);(try rw[show((0:Int)).toNat=0 from rfl]at hx31_1);(try simp only[Nat.reduceMul,Nat.zero_mul,Nat.zero_add,Nat.reduceAdd]at hx31_1);have hf31_1:=hfr31 1;(try simp only[show(k29).sz=6 from rfl,Nat.mul_one,Nat.add_zero]at hf31_1);(try rw[show((0:Int)).toNat=0 from rfl]at hf31_1);(try simp only[Nat.reduceMul,Nat.zero_mul,Nat.zero_add,Nat.reduceAdd]at hf31_1);have hx31_2:=hcc31 2 _ rfl;(try simp only[show(k29).sz=6 from rfl,Nat.mul_one,Nat.add_zero]at hx31_2);(try rw[show((0:Int)).toNat=0 from rfl]at hx31_2);(try simp only[Nat.reduceMul,Nat.zero_mul,Nat.zero_add,Nat.reduceAdd]at hx31_2);have hf31_2:=hfr31 2;(try simp only[show(k29).sz=6 from rfl,Nat.mul_one,Nat.add_zero]at hf31_2);(try rw[show((0:Int)).toNat=0 from rfl]at hf31_2);(try simp only[Nat.reduceMul,Nat.zero_mul,Nat.zero_add,Nat.reduceAdd]at hf31_2);have hx31_3:=hcc31 3 _ rfl;(try simp only[show(k29).sz=6 from rfl,Nat.mul_one,Nat.add_zero]at hx31_3);(try rw[show((0:Int)).toNat=0 from rfl]at hx31_3);(try simp only[Nat.reduceMul,Nat.zero_mul,Nat.zero_add,Nat.reduceAdd]at hx31_3);have hf31_3:=hfr31 3;(try simp only[show(k29).sz=6 from rfl,Nat.mul_one,Nat.add_zero]at hf31_3);(try rw[show((0:Int)).toNat=0 from rfl]at hf31_3);(try simp only[Nat.reduceMul,Nat.zero_mul,Nat.zero_add,Nat.reduceAdd]at hf31_3);have hx31_4:=hcc31 4 _ rfl;(try simp only[show(k29).sz=6 from rfl,Nat.mul_one,Nat.add_zero]at hx31_4);(try rw[show((0:Int)).toNat=0 from rfl]at hx31_4);(try simp only[Nat.reduceMul,Nat.zero_mul,Nat.zero_add,Nat.reduceAdd]at hx31_4);have hf31_4:=hfr31 4;(try simp only[show(k29).sz=6 from rfl,Nat.mul_one,Nat.add_zero]at hf31_4);(try rw[show((0:Int)).toNat=0 from rfl]at hf31_4);(try simp only[Nat.reduceMul,Nat.zero_mul,Nat.zero_add,Nat.reduceAdd]at hf31_4);have hx31_5:=hcc31 5 _ rfl;(try simp only[show(k29).sz=6 from rfl,Nat.mul_one,Nat.add_zero]at hx31_5);(try rw[show((0:Int)).toNat=0 from rfl]at hx31_5);(try simp only[Nat.reduceMul,Nat.zero_mul,Nat.zero_add,Nat.reduceAdd]at hx31_5);have hf31_5:=hfr31 5;(try simp only[show(k29).sz=6 from rfl,Nat.mul_one,Nat.add_zero]at hf31_5);(try rw[show((0:Int)).toNat=0 from rfl]at hf31_5);(try simp only[Nat.reduceMul,Nat.zero_mul,Nat.zero_add,Nat.reduceAdd]at hf31_5);clear hcl31 hcc31 hfr31 hM31)|((with_reducible refine gate_store (t:=29) (p:=48) rfl ?_);refine store_event (t:=29) (p:=48) (v:= ?vo_w32) (w1:=((((((w30.setCell ⟨go16,0,none⟩ (.int .i64 14)).setCell ⟨go16,1,none⟩ (.int .i64 0)).setCell ⟨go16,2,none⟩ (.int .i64 0)).setCell ⟨go16,3,none⟩ (.int .i64 0)).setCell ⟨go16,4,none⟩ (.int .i64 0)).setCell ⟨go16,5,none⟩ (.int .i64 0))) ?hg ?ho ?hn ?hr ?_;(case ho=>rfl);(case hg=>rfl);(case hn=>rfl);(case hr=>first|(go_simp;done)|(go_simp;rfl));intro w32 hw;have hg:w30.grownBy w32 (some go16):=(by rw[hw];exact HP31.2);have hp_:Kd.R k29 29 w32 w.heap.size (fun k_=>some k_≠(.slice Ao20 t101.length co20:Value).ownBlock∧some k_≠(.slice (some ⟨go13,0,none⟩) y108.length co13:Value).ownBlock) (.slice (some ⟨go16,0,none⟩) y115.length co16) y118:=(by rw[hw,Ny118.out];exact HP31.1);clear HP31;replace HO103:=Aside0.mk (Kd.R_after (v:=(.slice (some ⟨go16,0,none⟩) y115.length co16)) (v1:=(.slice (some ⟨go16,0,none⟩) y115.length co16)) (ok:=(fun k_=>some k_≠(.slice (some ⟨go13,0,none⟩) y108.length co13:Value).ownBlock)) (by exact rU HO103.out) hg (.inl rfl));replace HO110:=Aside0.mk (Kd.R_after (v:=(.slice (some ⟨go16,0,none⟩) y115.length co16)) (v1:=(.slice (some ⟨go16,0,none⟩) y115.length co16)) (ok:=(fun k_=>some k_≠(.slice Ao20 t101.length co20:Value).ownBlock)) (by exact rU HO110.out) hg (.inl rfl));replace HO117:=Aside0.mk (hp_);replace HB:=Aside0.mk ((by rw[hw];exact below_set (below_set (below_set (below_set (below_set (below_set (HB.out) GB16.out) GB16.out) GB16.out) GB16.out) GB16.out) GB16.out:Below w.heap.size w w32));clear hg hw hp_)|((with_reducible refine gate_callee (f:=46) rfl ?_);refine goesL_ (some 50) rfl rfl Try.func46 (by kernel_rfl) rfl #[.slice (some ⟨go13,0,none⟩) y111.length co13] rfl (by(try simp only[List.map_toArray,List.map_cons,List.map_nil]);first|done|(rw[show y111.length=y108.length from(Kd.R_reads' HO110.out).1.symm]<;>rfl)|rfl|(simp only[List.length_drop,List.length_take];rfl)) ?_;(with_reducible refine(impl_CodeSafe.calls _ _ y111 true _ ?side1 ?side2 A17.out).mono ?_);(case side1=>repeat(first|exact(Kd.R_reads' HO110.out).2.2|(with_reducible refine Kd.C_alloc ?_ _)|(with_reducible refine Kd.C_drewN ?_ _)|(with_reducible refine Kd.C_drew ?_)));(case side2=>rw[show y111.length=y108.length from(Kd.R_reads' HO110.out).1.symm];exact(Kd.R_reads' HO110.out).2.1);rintro e w33 ⟨rfl,hb⟩;refine⟨_,rfl,?_⟩;replace HO103:=Aside0.mk (Kd.R_below (by exact rU HO103.out) hb);replace HO110:=Aside0.mk (Kd.R_below (by exact rU HO110.out) hb);replace HO117:=Aside0.mk (Kd.R_below (by exact rU HO117.out) hb);replace HB:=Aside0.mk (below_step (by exact bU HB.out) hb);(try clear hb);(try clear hb2);(try clear hk);(try clear hi)))
          go_ret
          exact⟨by first|rfl|(simp[errW_none,errW_some]<;>rfl)|(simp[*,errW_none,errW_some]<;>rfl),by exact bU HB.out⟩
         ·replace c18:=Bool.eq_false_iff.mpr c18
          subst c18;have H1:((safeV.f y118).bind fun t120=>(some t120))=some r:=by rw[if_neg (show¬(false=true) by decide)]at H;exact H
          clear H;have H:=H1;clear H1;replace H:=Option.bind_eq_some_iff.mp H;obtain⟨t120,A340,H⟩:=H;replace H:(some t120)=some r:=H;have A34:=Aside0.mk A340;clear A340;obtain rfl:=Option.some.inj H;go_wp2_with (first|((with_reducible refine gate_callee (f:=52) rfl ?_);refine goesL_ (some 18) rfl rfl Try.func52 (by kernel_rfl) rfl #[.slice A0 l0.length c0] rfl (by(try simp only[List.map_toArray,List.map_cons,List.map_nil])<;>rfl) ?_;(with_reducible refine(spec_DrawCodeSafe.calls kj2 _ _ l0 t101 _ ?side1 ?side2 A6.out).mono ?_);(case side1=>repeat(first|exact(Kd.C_below HR0.out HB.out)|(with_reducible refine Kd.C_alloc ?_ _)|(with_reducible refine Kd.C_drewN ?_ _)|(with_reducible refine Kd.C_drew ?_)));(case side2=>exact HC0.out);rintro e w35 ⟨v102,rfl,ho0,hb⟩;refine⟨_,rfl,?_⟩;have HO103:=Aside0.mk (Kd.R_lower ho0 (below_size (by exact bU HB.out)));replace HB:=Aside0.mk (below_step (by exact bU HB.out) hb);(try clear hb);(try clear hb2);(try clear hk);(try clear hi);(try clear ho0);obtain⟨Ao36,co36,eo36⟩:=Kd.R_slice HO103.out;subst eo36)|((with_reducible refine gate_callee (f:=46) rfl ?_);refine goesL_ (some 20) rfl rfl Try.func46 (by kernel_rfl) rfl #[.slice Ao36 t101.length co36] rfl (by(try simp only[List.map_toArray,List.map_cons,List.map_nil])<;>rfl) ?_;(with_reducible refine(impl_CodeSafe.calls _ _ t101 true _ ?side1 ?side2 A7.out).mono ?_);(case side1=>repeat(first|exact(Kd.R_reads' HO103.out).2.2|(with_reducible refine Kd.C_alloc ?_ _)|(with_reducible refine Kd.C_drewN ?_ _)|(with_reducible refine Kd.C_drew ?_)));(case side2=>exact(Kd.R_reads' HO103.out).2.1);rintro e w37 ⟨rfl,hb⟩;refine⟨_,rfl,?_⟩;replace HO103:=Aside0.mk (Kd.R_below (by exact rU HO103.out) hb);replace HB:=Aside0.mk (below_step (by exact bU HB.out) hb);(try clear hb);(try clear hb2);(try clear hk);(try clear hi))|((with_reducible refine gate_callee (f:=45) rfl ?_);refine goesL_ (some 23) rfl rfl Try.func45 (by kernel_rfl) rfl #[.slice Ao36 t101.length co36] rfl (by(try simp only[List.map_toArray,List.map_cons,List.map_nil])<;>rfl) ?_;(with_reducible refine(spec_CodeSafe_as.calls _ _ t101 true _ ?side1 ?side2 A7.out).mono ?_);(case side1=>repeat(first|exact(Kd.R_reads' HO103.out).2.2|(with_reducible refine Kd.C_alloc ?_ _)|(with_reducible refine Kd.C_drewN ?_ _)|(with_reducible refine Kd.C_drew ?_)));(case side2=>exact(Kd.R_reads' HO103.out).2.1);rintro e w38 ⟨rfl,hb⟩;refine⟨_,rfl,?_⟩;replace HO103:=Aside0.mk (Kd.R_below (by exact rU HO103.out) hb);replace HB:=Aside0.mk (below_step (by exact bU HB.out) hb);(try clear hb);(try clear hb2);(try clear hk);(try clear hi))|((with_reducible refine gate_dst (N:=33) rfl ?_);(try(refine gate_guard (by rfl) ?_;dsimp only));refine Kd.R_lit k29 _ 29 ?hg (N:=33) ?hd (xs:=([]:List (S29))) (inner:=[]) (ok:=fun _=>True) (okp:=fun _=>True) ?hr ?hp (fun _ hk=>hk) trivial (Below.refl _ _) (Nat.le_refl _) (by simp) ?_;(case hd=>rfl);(case hg=>rfl);(case hr=>first|(go_simp;done)|(go_simp;rfl));(case hp=>exact(Reps.none _ _));intro v106 w39 ho40 hb hg_ hnew_;clear hg_ hnew_;(first|rw[←Ny105.out]at ho40|(simp only[Int.reduceToNat]at ho40;rw[←Ny105.out]at ho40));have n0_:=Aside0.mk (Kd.R_elder' (by exact rU HO103.out) (Kd.R_base ho40) hb);have n1_:=Aside0.mk (Kd.R_lower (Kd.R_new' ho40 (Kd.R_lt (by exact rU HO103.out))) (below_size (by exact bU HB.out)));have n2_:=Aside0.mk (below_step (by exact bU HB.out) hb);clear HO103;clear HB;have HO103:=n0_;have HO107:=n1_;have HB:=n2_;clear n0_ n1_ n2_;clear hb ho40)|((with_reducible refine gate_builtin (b:=.append) (xs:= #[.tmp 33,.tmp 34]) rfl ?_);(try(refine gate_guard (by rfl) ?_;dsimp only));at_builtin;refine Kd.R_append_rows k29 (w0:=w) w.heap.size rfl (.tmp 33) (.tmp 34) 42 29 (.agg #[(.int .i64 0),(.int .i64 0),(.int .i64 0),(.int .i64 0),(.int .i64 0),(.int .i64 0)]) 48 rfl Try.underlying42 info29 rfl (by decide) (by omega) v106 y105 t101 _ _ _ (fun k_=>some k_≠(.slice Ao36 t101.length co36:Value).ownBlock) (fun _=>False) rfl rfl ?aO ?aR (fun _ _ h=>h) (fun _ h=>h.elim) ?aF ?aB ?aS ?aL ?_;(case aR=>repeat(first|exact(Kd.R_reads' HO103.out).2.2|(with_reducible refine Kd.C_alloc ?_ _)|(with_reducible refine Kd.C_drewN ?_ _)|(with_reducible refine Kd.C_drew ?_)));(case aB=>exact(by exact bU HB.out));(case aF=>exact(fun k_ hk=>Kd.fresh' (Kd.R_lt (by exact rU HO103.out)) k_ hk));(case aO=>exact(by(with_reducible repeat(first|apply rA|apply rN|apply rD));exact Kd.R_mono HO107.out (fun _ hk=>hk.2)));(case aS=>exact(below_size (by exact bU HB.out)));(case aL=>have:=LMc11.out;omega);intro v109 w41 ho hb hg hat;rw[←Ny108.out]at ho;replace HO103:=Aside0.mk (Kd.R_after (ok:=(fun _=>True)) (by exact rU HO103.out) hg hat);replace HB:=Aside0.mk (hb);have HO110:=Aside0.mk (ho);clear HO107;clear ho hb hg hat;have p13:0≤(0:Int):=(by omega);have q13:(0:Int)<((y108.length:Int):Int):=of_decide_eq_true (by assumption);have qi13:(0<y108.length)=True:=eq_true (by omega);obtain⟨go13,co13,eo13,gb13,gl13,cl13,HG13⟩:=Kd.R_form HO110.out (by omega);(first|cases eo13|(injection eo13 with ea_ en_ ec_;(first|subst ea_|(injection ea_ with ea_;subst ea_));subst ec_;clear en_));have GB13:=Aside0.mk gb13;have GG13:=Aside0.mk HG13;clear gb13 gl13 HG13;obtain⟨ce13,hcl13,hM13,hcc13,hfr13⟩:=Kd.R_elem HO110.out z29 (0:Int) p13 q13;obtain rfl:=k29_openM hM13;have hx13_0:w41.cell? ⟨go13,(0:Int).toNat*6,none⟩=some (.int .i64 ((rd_T29 y108 0).f0)):=hcc13 0 _ rfl;have hx13_1:w41.cell? ⟨go13,(0:Int).toNat*6+1,none⟩=some (.int .i64 ((rd_T29 y108 0).f1)):=hcc13 1 _ rfl;have hx13_2:w41.cell? ⟨go13,(0:Int).toNat*6+2,none⟩=some (.int .i64 ((rd_T29 y108 0).f2)):=hcc13 2 _ rfl;have hx13_3:w41.cell? ⟨go13,(0:Int).toNat*6+3,none⟩=some (.int .i64 ((rd_T29 y108 0).f3)):=hcc13 3 _ rfl;have hx13_4:w41.cell? ⟨go13,(0:Int).toNat*6+4,none⟩=some (.int .i64 ((rd_T29 y108 0).f4.f0)):=hcc13 4 _ rfl;have hx13_5:w41.cell? ⟨go13,(0:Int).toNat*6+5,none⟩=some (.int .i64 ((rd_T29 y108 0).f4.f1)):=hcc13 5 _ rfl;have hf13_0:w41.frozen? ⟨go13,(0:Int).toNat*6,none⟩=false:=hfr13 0;have hf13_1:w41.frozen? ⟨go13,(0:Int).toNat*6+1,none⟩=false:=hfr13 1;have hf13_2:w41.frozen? ⟨go13,(0:Int).toNat*6+2,none⟩=false:=hfr13 2;have hf13_3:w41.frozen? ⟨go13,(0:Int).toNat*6+3,none⟩=false:=hfr13 3;have hf13_4:w41.frozen? ⟨go13,(0:Int).toNat*6+4,none⟩=false:=hfr13 4;have hf13_5:w41.frozen? ⟨go13,(0:Int).toNat*6+5,none⟩=false:=hfr13 5;clear hcl13 hcc13 hfr13 hM13;(try rw[show((0:Int)).toNat=0 from rfl]at hx13_0);(try simp only[Nat.reduceMul,Nat.zero_mul,Nat.zero_add,Nat.reduceAdd]at hx13_0);(try rw[show((0:Int)).toNat=0 from rfl]at hf13_0);(try simp only[Nat.reduceMul,Nat.zero_mul,Nat.zero_add,Nat.reduceAdd]at hf13_0);(try rw[show((0:Int)).toNat=0 from rfl]at hx13_1);(try simp only[Nat.reduceMul,Nat.zero_mul,Nat.zero_add,Nat.reduceAdd]at hx13_1);(try rw[show((0:Int)).toNat=0 from rfl]at hf13_1);(try simp only[Nat.reduceMul,Nat.zero_mul,Nat.zero_add,Nat.reduceAdd]at hf13_1);(try rw[show((0:Int)).toNat=0 from rfl]at hx13_2);(try simp only[Nat.reduceMul,Nat.zero_mul,Nat.zero_add,Nat.reduceAdd]at hx13_2);(try rw[show((0:Int)).toNat=0 from rfl]at hf13_2);(try simp only[Nat.reduceMul,Nat.zero_mul,Nat.zero_add,Nat.reduceAdd]at hf13_2);(try rw[show((0:Int)).toNat=0 from rfl]at hx13_3);(try simp only[Nat.reduceMul,Nat.zero_mul,Nat.zero_add,Nat.reduceAdd]at hx13_3);(try rw[show((0:Int)).toNat=0 from rfl]at hf13_3);(try simp only[Nat.reduceMul,Nat.zero_mul,Nat.zero_add,Nat.reduceAdd]at hf13_3);(try rw[show((0:Int)).toNat=0 from rfl]at hx13_4);(try simp only[Nat.reduceMul,Nat.zero_mul,Nat.zero_add,Nat.reduceAdd]at hx13_4);(try rw[show((0:Int)).toNat=0 from rfl]at hf13_4);(try simp only[Nat.reduceMul,Nat.zero_mul,Nat.zero_add,Nat.reduceAdd]at hf13_4);(try rw[show((0:Int)).toNat=0 from rfl]at hx13_5);(try simp only[Nat.reduceMul,Nat.zero_mul,Nat.zero_add,Nat.reduceAdd]at hx13_5);(try rw[show((0:Int)).toNat=0 from rfl]at hf13_5);(try simp only[Nat.reduceMul,Nat.zero_mul,Nat.zero_add,Nat.reduceAdd]at hf13_5);replace p13:=eq_true p13;replace q13:=eq_true q13;have HX42:=Aside0.mk (show Kd.R k29 29 w41 w.heap.size (fun k_=>some k_≠(.slice Ao36 t101.length co36:Value).ownBlock) (.slice (some ⟨go13,0,none⟩) y108.length co13) y108 from(by exact rU HO110.out));obtain⟨ce42,hcl42,hM42,hcc42,hfr42⟩:=Kd.R_elem HX42.out z29 (0:Int) (by omega) (by have h_:(0:Int)<((y108.length:Int):Int):=of_decide_eq_true (by assumption);first|exact h_|(have e_:=(Kd.R_reads' HO110.out).1;omega)|simpa using h_);obtain rfl:=k29_openM hM42;have HP42:=Kd.R_seg HX42.out (0:Int) (by omega) (by have h_:(0:Int)<((y108.length:Int):Int):=of_decide_eq_true (by assumption);first|exact h_|(have e_:=(Kd.R_reads' HO110.out).1;omega)|simpa using h_) (seg:=[.int .i64 14,.int .i64 (1+((l1.length:Int)%3)),.int .i64 0,.int .i64 0,.int .i64 0,.int .i64 0]) (j:=0) hcl42 hcc42 (show 6≤6 from by decide) (x':=(⟨14,1+((l1.length:Int)%3),0,0,(⟨0,0⟩:S27)⟩:S29)) (k29_mkM _ _ _ (⟨14,1+((l1.length:Int)%3),0,0,(⟨0,0⟩:S27)⟩:S29)) (fun _ hk=>hk);have hx42_0:=hcc42 0 _ rfl;(try simp only[show(k29).sz=6 from rfl,Nat.mul_one,Nat.add_zero]at hx42_0);(try rw[show((0:Int)).toNat=0 from rfl]at hx42_0);(try simp only[Nat.reduceMul,Nat.zero_mul,Nat.zero_add,Nat.reduceAdd]at hx42_0);have hf42_0:=hfr42 0;(try simp only[show(k29).sz=6 from rfl,Nat.mul_one,Nat.add_zero]at hf42_0);(try rw[show((0:Int)).toNat=0 from rfl]at hf42_0);(try simp only[Nat.reduceMul,Nat.zero_mul,Nat.zero_add,Nat.reduceAdd]at hf42_0);have hx42_1:=hcc42 1 _ rfl;(try simp only[show(k29).sz=6 from rfl,Nat.mul_one,Nat.add_zero]at hx42_1);(try rw[show((0:Int)).toNat=0 from rfl]at hx42_1);(try simp only[Nat.reduceMul,Nat.zero_mul,Nat.zero_add,Nat.reduceAdd]at hx42_1);have hf42_1:=hfr42 1;(try simp only[show(k29).sz=6 from rfl,Nat.mul_one,Nat.add_zero]at hf42_1);(try rw[show((0:Int)).toNat=0 from rfl]at hf42_1);(try simp only[Nat.reduceMul,Nat.zero_mul,Nat.zero_add,Nat.reduceAdd]at hf42_1);have hx42_2:=hcc42 2 _ rfl;(try simp only[show(k29).sz=6 from rfl,Nat.mul_one,Nat.add_zero]at hx42_2);(try rw[show((0:Int)).toNat=0 from rfl]at hx42_2);(try simp only[Nat.reduceMul,Nat.zero_mul,Nat.zero_add,Nat.reduceAdd]at hx42_2);have hf42_2:=hfr42 2;(try simp only[show(k29).sz=6 from rfl,Nat.mul_one,Nat.add_zero]at hf42_2);(try rw[show((0:Int)).toNat=0 from rfl]at hf42_2);(try simp only[Nat.reduceMul,Nat.zero_mul,Nat.zero_add,Nat.reduceAdd]at hf42_2);have hx42_3:=hcc42 3 _ rfl;(try simp only[show(k29).sz=6 from rfl,Nat.mul_one,Nat.add_zero]at hx42_3);(try rw[show((0:Int)).toNat=0 from rfl]at hx42_3);(try simp only[Nat.reduceMul,Nat.zero_mul,Nat.zero_add,Nat.reduceAdd]at hx42_3);have hf42_3:=hfr42 3;(try simp only[show(k29).sz=6 from rfl,Nat.mul_one,Nat.add_zero]at hf42_3);(try rw[show((0:Int)).toNat=0 from rfl]at hf42_3);(try simp only[Nat.reduceMul,Nat.zero_mul,Nat.zero_add,Nat.reduceAdd]at hf42_3);have hx42_4:=hcc42 4 _ rfl;(try simp only[show(k29).sz=6 from rfl,Nat.mul_one,Nat.add_zero]at hx42_4);(try rw[show((0:Int)).toNat=0 from rfl]at hx42_4);(try simp only[Nat.reduceMul,Nat.zero_mul,Nat.zero_add,Nat.reduceAdd]at hx42_4);have hf42_4:=hfr42 4;(try simp only[show(k29).sz=6 from rfl,Nat.mul_one,Nat.add_zero]at hf42_4);(try rw[show((0:Int)).toNat=0 from rfl]at hf42_4);(try simp only[Nat.reduceMul,Nat.zero_mul,Nat.zero_add,Nat.reduceAdd]at hf42_4);have hx42_5:=hcc42 5 _ rfl;(try simp only[show(k29).sz=6 from rfl,Nat.mul_one,Nat.add_zero]at hx42_5);(try rw[show((0:Int)).toNat=0 from rfl]at hx42_5);(try simp only[Nat.reduceMul,Nat.zero_mul,Nat.zero_add,Nat.reduceAdd]at hx42_5);have hf42_5:=hfr42 5;(try simp only[show(k29).sz=6 from rfl,Nat.mul_one,Nat.add_zero]at hf42_5);(try rw[show((0:Int)).toNat=0 from rfl]at hf42_5);(try simp only[Nat.reduceMul,Nat.zero_mul,Nat.zero_add,Nat.reduceAdd]at hf42_5);clear hcl42 hcc42 hfr42 hM42)|((with_reducible refine gate_store (t:=29) (p:=42) rfl ?_);refine store_event (t:=29) (p:=42) (v:= ?vo_w43) (w1:=((((((w41.setCell ⟨go13,0,none⟩ (.int .i64 14)).setCell ⟨go13,1,none⟩ (.int .i64 (1+((l1.length:Int)%3)))).setCell ⟨go13,2,none⟩ (.int .i64 0)).setCell ⟨go13,3,none⟩ (.int .i64 0)).setCell ⟨go13,4,none⟩ (.int .i64 0)).setCell ⟨go13,5,none⟩ (.int .i64 0))) ?hg ?ho ?hn ?hr ?_;(case ho=>rfl);(case hg=>rfl);(case hn=>rfl);(case hr=>first|(go_simp;done)|(go_simp;rfl));intro w43 hw;have hg:w41.grownBy w43 (some go13):=(by rw[hw];exact HP42.2);have hp_:Kd.R k29 29 w43 w.heap.size (fun k_=>some k_≠(.slice Ao36 t101.length co36:Value).ownBlock) (.slice (some ⟨go13,0,none⟩) y108.length co13) y111:=(by rw[hw,Ny111.out];exact HP42.1);clear HP42;replace HO103:=Aside0.mk (Kd.R_after (v:=(.slice (some ⟨go13,0,none⟩) y108.length co13)) (v1:=(.slice (some ⟨go13,0,none⟩) y108.length co13)) (ok:=(fun _=>True)) (by exact rU HO103.out) hg (.inl rfl));replace HO110:=Aside0.mk (hp_);replace HB:=Aside0.mk ((by rw[hw];exact below_set (below_set (below_set (below_set (below_set (below_set (HB.out) GB13.out) GB13.out) GB13.out) GB13.out) GB13.out) GB13.out:Below w.heap.size w w43));clear hg hw hp_)|((with_reducible refine gate_dst (N:=43) rfl ?_);(try(refine gate_guard (by rfl) ?_;dsimp only));refine Kd.R_lit k29 _ 29 ?hg (N:=43) ?hd (xs:=([]:List (S29))) (inner:=[]) (ok:=fun _=>True) (okp:=fun _=>True) ?hr ?hp (fun _ hk=>hk) trivial (Below.refl _ _) (Nat.le_refl _) (by simp) ?_;(case hd=>rfl);(case hg=>rfl);(case hr=>first|(go_simp;done)|(go_simp;rfl));(case hp=>exact(Reps.none _ _));intro v113 w44 ho45 hb hg_ hnew_;clear hg_ hnew_;(first|rw[←Ny112.out]at ho45|(simp only[Int.reduceToNat]at ho45;rw[←Ny112.out]at ho45));have n0_:=Aside0.mk (Kd.R_elder' (by exact rU HO103.out) (Kd.R_base ho45) hb);have n1_:=Aside0.mk (Kd.R_elder' (by exact rU HO110.out) (Kd.R_base ho45) hb);have n2_:=Aside0.mk (Kd.R_lower (Kd.R_new' (Kd.R_new' ho45 (Kd.R_lt (by exact rU HO103.out))) (Kd.R_lt (by exact rU HO110.out))) (below_size (by exact bU HB.out)));have n3_:=Aside0.mk (below_step (by exact bU HB.out) hb);clear HO103;clear HO110;clear HB;have HO103:=n0_;have HO110:=n1_;have HO114:=n2_;have HB:=n3_;clear n0_ n1_ n2_ n3_;clear hb ho45)|((with_reducible refine gate_builtin (b:=.append) (xs:= #[.tmp 43,.tmp 44]) rfl ?_);(try(refine gate_guard (by rfl) ?_;dsimp only));at_builtin;refine Kd.R_append_rows k29 (w0:=w) w.heap.size rfl (.tmp 43) (.tmp 44) 42 29 (.agg #[(.int .i64 0),(.int .i64 0),(.int .i64 0),(.int .i64 0),(.int .i64 0),(.int .i64 0)]) 48 rfl Try.underlying42 info29 rfl (by decide) (by omega) v113 y112 t101 _ _ _ (fun k_=>some k_≠(.slice Ao36 t101.length co36:Value).ownBlock∧some k_≠(.slice (some ⟨go13,0,none⟩) y108.length co13:Value).ownBlock) (fun _=>False) rfl rfl ?aO ?aR (fun _ _ h=>h) (fun _ h=>h.elim) ?aF ?aB ?aS ?aL ?_;(case aR=>repeat(first|exact(Kd.R_reads' HO103.out).2.2|(with_reducible refine Kd.C_alloc ?_ _)|(with_reducible refine Kd.C_drewN ?_ _)|(with_reducible refine Kd.C_drew ?_)));(case aB=>exact(by exact bU HB.out));(case aF=>exact(fun k_ hk=>⟨Kd.fresh' (Kd.R_lt (by exact rU HO103.out)) k_ hk,Kd.fresh' (Kd.R_lt (by exact rU HO110.out)) k_ hk⟩));(case aO=>exact(by(with_reducible repeat(first|apply rA|apply rN|apply rD));exact Kd.R_mono HO114.out (fun _ hk=>⟨hk.1.2,hk.2⟩)));(case aS=>exact(below_size (by exact bU HB.out)));(case aL=>have:=LMc14.out;omega);intro v116 w46 ho hb hg hat;rw[←Ny115.out]at ho;replace HO103:=Aside0.mk (Kd.R_after (ok:=(fun k_=>some k_≠(.slice (some ⟨go13,0,none⟩) y108.length co13:Value).ownBlock)) (by(with_reducible repeat(first|apply rA|apply rN|apply rD));exact Kd.R_mono HO103.out (fun _ hk=>⟨hk.1.2,hk.2⟩)) hg hat);replace HO110:=Aside0.mk (Kd.R_after (ok:=(fun k_=>some k_≠(.slice Ao36 t101.length co36:Value).ownBlock)) (by exact rU HO110.out) hg hat);replace HB:=Aside0.mk (hb);have HO117:=Aside0.mk (ho);clear HO114;clear ho hb hg hat;have p16:0≤(0:Int):=(by omega);have q16:(0:Int)<((y115.length:Int):Int):=of_decide_eq_true (by assumption);have qi16:(0<y115.length)=True:=eq_true (by omega);obtain⟨go16,co16,eo16,gb16,gl16,cl16,HG16⟩:=Kd.R_form HO117.out (by omega);(first|cases eo16|(injection eo16 with ea_ en_ ec_;(first|subst ea_|(injection ea_ with ea_;subst ea_));subst ec_;clear en_));have GB16:=Aside0.mk gb16;have GG16:=Aside0.mk HG16;clear gb16 gl16 HG16;obtain⟨ce16,hcl16,hM16,hcc16,hfr16⟩:=Kd.R_elem HO117.out z29 (0:Int) p16 q16;obtain rfl:=k29_openM hM16;have hx16_0:w46.cell? ⟨go16,(0:Int).toNat*6,none⟩=some (.int .i64 ((rd_T29 y115 0).f0)):=hcc16 0 _ rfl;have hx16_1:w46.cell? ⟨go16,(0:Int).toNat*6+1,none⟩=some (.int .i64 ((rd_T29 y115 0).f1)):=hcc16 1 _ rfl;have hx16_2:w46.cell? ⟨go16,(0:Int).toNat*6+2,none⟩=some (.int .i64 ((rd_T29 y115 0).f2)):=hcc16 2 _ rfl;have hx16_3:w46.cell? ⟨go16,(0:Int).toNat*6+3,none⟩=some (.int .i64 ((rd_T29 y115 0).f3)):=hcc16 3 _ rfl;have hx16_4:w46.cell? ⟨go16,(0:Int).toNat*6+4,none⟩=some (.int .i64 ((rd_T29 y115 0).f4.f0)):=hcc16 4 _ rfl;have hx16_5:w46.cell? ⟨go16,(0:Int).toNat*6+5,none⟩=some (.int .i64 ((rd_T29 y115 0).f4.f1)):=hcc16 5 _ rfl;have hf16_0:w46.frozen? ⟨go16,(0:Int).toNat*6,none⟩=false:=hfr16 0;have hf16_1:w46.frozen? ⟨go16,(0:Int).toNat*6+1,none⟩=false:=hfr16 1;have hf16_2:w46.frozen? ⟨go16,(0:Int).toNat*6+2,none⟩=false:=hfr16 2;have hf16_3:w46.frozen? ⟨go16,(0:Int).toNat*6+3,none⟩=false:=hfr16 3;have hf16_4:w46.frozen? ⟨go16,(0:Int).toNat*6+4,none⟩=false:=hfr16 4;have hf16_5:w46.frozen? ⟨go16,(0:Int).toNat*6+5,none⟩=false:=hfr16 5;clear hcl16 hcc16 hfr16 hM16;(try rw[show((0:Int)).toNat=0 from rfl]at hx16_0);(try simp only[Nat.reduceMul,Nat.zero_mul,Nat.zero_add,Nat.reduceAdd]at hx16_0);(try rw[show((0:Int)).toNat=0 from rfl]at hf16_0);(try simp only[Nat.reduceMul,Nat.zero_mul,Nat.zero_add,Nat.reduceAdd]at hf16_0);(try rw[show((0:Int)).toNat=0 from rfl]at hx16_1);(try simp only[Nat.reduceMul,Nat.zero_mul,Nat.zero_add,Nat.reduceAdd]at hx16_1);(try rw[show((0:Int)).toNat=0 from rfl]at hf16_1);(try simp only[Nat.reduceMul,Nat.zero_mul,Nat.zero_add,Nat.reduceAdd]at hf16_1);(try rw[show((0:Int)).toNat=0 from rfl]at hx16_2);(try simp only[Nat.reduceMul,Nat.zero_mul,Nat.zero_add,Nat.reduceAdd]at hx16_2);(try rw[show((0:Int)).toNat=0 from rfl]at hf16_2);(try simp only[Nat.reduceMul,Nat.zero_mul,Nat.zero_add,Nat.reduceAdd]at hf16_2);(try rw[show((0:Int)).toNat=0 from rfl]at hx16_3);(try simp only[Nat.reduceMul,Nat.zero_mul,Nat.zero_add,Nat.reduceAdd]at hx16_3);(try rw[show((0:Int)).toNat=0 from rfl]at hf16_3);(try simp only[Nat.reduceMul,Nat.zero_mul,Nat.zero_add,Nat.reduceAdd]at hf16_3);(try rw[show((0:Int)).toNat=0 from rfl]at hx16_4);(try simp only[Nat.reduceMul,Nat.zero_mul,Nat.zero_add,Nat.reduceAdd]at hx16_4);(try rw[show((0:Int)).toNat=0 from rfl]at hf16_4);(try simp only[Nat.reduceMul,Nat.zero_mul,Nat.zero_add,Nat.reduceAdd]at hf16_4);(try rw[show((0:Int)).toNat=0 from rfl]at hx16_5);(try simp only[Nat.reduceMul,Nat.zero_mul,Nat.zero_add,Nat.reduceAdd]at hx16_5);(try rw[show((0:Int)).toNat=0 from rfl]at hf16_5);(try simp only[Nat.reduceMul,Nat.zero_mul,Nat.zero_add,Nat.reduceAdd]at hf16_5);replace p16:=eq_true p16;replace q16:=eq_true q16;have HX47:=Aside0.mk (show Kd.R k29 29 w46 w.heap.size (fun k_=>some k_≠(.slice Ao36 t101.length co36:Value).ownBlock∧some k_≠(.slice (some ⟨go13,0,none⟩) y108.length co13:Value).ownBlock) (.slice (some ⟨go16,0,none⟩) y115.length co16) y115 from(by exact rU HO117.out));obtain⟨ce47,hcl47,hM47,hcc47,hfr47⟩:=Kd.R_elem HX47.out z29 (0:Int) (by omega) (by have h_:(0:Int)<((y115.length:Int):Int):=of_decide_eq_true (by assumption);first|exact h_|(have e_:=(Kd.R_reads' HO117.out).1;omega)|simpa using h_);obtain rfl:=k29_openM hM47;have HP47:=Kd.R_seg HX47.out (0:Int) (by omega) (by have h_:(0:Int)<((y115.length:Int):Int):=of_decide_eq_true (by assumption);first|exact h_|(have e_:=(Kd.R_reads' HO117.out).1;omega)|simpa using h_) (seg:=[.int .i64 14,.int .i64 0,.int .i64 0,.int .i64 0,.int .i64 0,.int .i64 0]) (j:=0) hcl47 hcc47 (show 6≤6 from by decide) (x':=(⟨14,0,0,0,(⟨0,0⟩:S27)⟩:S29)) (k29_mkM _ _ _ (⟨14,0,0,0,(⟨0,0⟩:S27)⟩:S29)) (fun _ hk=>hk);have hx47_0:=hcc47 0 _ rfl;(try simp only[show(k29).sz=6 from rfl,Nat.mul_one,Nat.add_zero]at hx47_0);(try rw[show((0:Int)).toNat=0 from rfl]at hx47_0);(try simp only[Nat.reduceMul,Nat.zero_mul,Nat.zero_add,Nat.reduceAdd]at hx47_0);have hf47_0:=hfr47 0;(try simp only[show(k29).sz=6 from rfl,Nat.mul_one,Nat.add_zero]at hf47_0);(try rw[show((0:Int)).toNat=0 from rfl]at hf47_0);(try simp only[Nat.reduceMul,Nat.zero_mul,Nat.zero_add,Nat.reduceAdd]at hf47_0);have hx47_1:=hcc47 1 _ rfl;(try simp only[show(k29).sz=6 from rfl,Nat.mul_one,Nat.add_zero]at hx47_1);(try rw[show((0:Int)).toNat=0 from rfl]at hx47_1);(try simp only[Nat.reduceMul,Nat.zero_mul,Nat.zero_add,Nat.reduceAdd]at hx47_1);have hf47_1:=hfr47 1;(try simp only[show(k29).sz=6 from rfl,Nat.mul_one,Nat.add_zero]at hf47_1);(try rw[show((0:Int)).toNat=0 from rfl]at hf47_1);(try simp only[Nat.reduceMul,Nat.zero_mul,Nat.zero_add,Nat.reduceAdd]at hf47_1);have hx47_2:=hcc47 2 _ rfl;(try simp only[show(k29).sz=6 from rfl,Nat.mul_one,Nat.add_zero]at hx47_2);(try rw[show((0:Int)).toNat=0 from rfl]at hx47_2);(try simp only[Nat.reduceMul,Nat.zero_mul,Nat.zero_add,Nat.reduceAdd]at hx47_2);have hf47_2:=hfr47 2;(try simp only[show(k29).sz=6 from rfl,Nat.mul_one,Nat.add_zero]at hf47_2);(try rw[show((0:Int)).toNat=0 from rfl]at hf47_2);(try simp only[Nat.reduceMul,Nat.zero_mul,Nat.zero_add,Nat.reduceAdd]at hf47_2);have hx47_3:=hcc47 3 _ rfl;(try simp only[show(k29).sz=6 from rfl,Nat.mul_one,Nat.add_zero]at hx47_3);(try rw[show((0:Int)).toNat=0 from rfl]at hx47_3);(try simp only[Nat.reduceMul,Nat.zero_mul,Nat.zero_add,Nat.reduceAdd]at hx47_3);have hf47_3:=hfr47 3;(try simp only[show(k29).sz=6 from rfl,Nat.mul_one,Nat.add_zero]at hf47_3);(try rw[show((0:Int)).toNat=0 from rfl]at hf47_3);(try simp only[Nat.reduceMul,Nat.zero_mul,Nat.zero_add,Nat.reduceAdd]at hf47_3);have hx47_4:=hcc47 4 _ rfl;(try simp only[show(k29).sz=6 from rfl,Nat.mul_one,Nat.add_zero]at hx47_4);(try rw[show((0:Int)).toNat=0 from rfl]at hx47_4);(try simp only[Nat.reduceMul,Nat.zero_mul,Nat.zero_add,Nat.reduceAdd]at hx47_4);have hf47_4:=hfr47 4;(try simp only[show(k29).sz=6 from rfl,Nat.mul_one,Nat.add_zero]at hf47_4);(try rw[show((0:Int)).toNat=0 from rfl]at hf47_4);(try simp only[Nat.reduceMul,Nat.zero_mul,Nat.zero_add,Nat.reduceAdd]at hf47_4);have hx47_5:=hcc47 5 _ rfl;(try simp only[show(k29).sz=6 from rfl,Nat.mul_one,Nat.add_zero]at hx47_5);(try rw[show((0:Int)).toNat=0 from rfl]at hx47_5);(try simp only[Nat.reduceMul,Nat.zero_mul,Nat.zero_add,Nat.reduceAdd]at hx47_5);have hf47_5:=hfr47 5;(try simp only[show(k29).sz=6 from rfl,Nat.mul_one,Nat.add_zero]at hf47_5);(try rw[show((0:Int)).toNat=0 from rfl]at hf47_5);(try simp only[Nat.reduceMul,Nat.zero_mul,Nat.zero_add,Nat.reduceAdd]at hf47_5);clear hcl47 hcc47 hfr47 hM47)|((with_reducible refine gate_store (t:=29) (p:=48) rfl ?_);refine store_event (t:=29) (p:=48) (v:= ?vo_w48) (w1:=((((((w46.setCell ⟨go16,0,none⟩ (.int .i64 14)).setCell ⟨go16,1,none⟩ (.int .i64 0)).setCell ⟨go16,2,none⟩ (.int .i64 0)).setCell ⟨go16,3,none⟩ (.int .i64 0)).setCell ⟨go16,4,none⟩ (.int .i64 0)).setCell ⟨go16,5,none⟩ (.int .i64 0))) ?hg ?ho ?hn ?hr ?_;(case ho=>rfl);(case hg=>rfl);(case hn=>rfl);(case hr=>first|(go_simp;done)|(go_simp;rfl));intro w48 hw;have hg:w46.grownBy w48 (some go16):=(by rw[hw];exact HP47.2);have hp_:Kd.R k29 29 w48 w.heap.size (fun k_=>some k_≠(.slice Ao36 t101.length co36:Value).ownBlock∧some k_≠(.slice (some ⟨go13,0,none⟩) y108.length co13:Value).ownBlock) (.slice (some ⟨go16,0,none⟩) y115.length co16) y118:=(by rw[hw,Ny118.out];exact HP47.1);clear HP47;replace HO103:=Aside0.mk (Kd.R_after (v:=(.slice (some ⟨go16,0,none⟩) y115.length co16)) (v1:=(.slice (some ⟨go16,0,none⟩) y115.length co16)) (ok:=(fun k_=>some k_≠(.slice (some ⟨go13,0,none⟩) y108.length co13:Value).ownBlock)) (by exact rU HO103.out) hg (.inl rfl));replace HO110:=Aside0.mk (Kd.R_after (v:=(.slice (some ⟨go16,0,none⟩) y115.length co16)) (v1:=(.slice (some ⟨go16,0,none⟩) y115.length co16)) (ok:=(fun k_=>some k_≠(.slice Ao36 t101.length co36:Value).ownBlock)) (by exact rU HO110.out) hg (.inl rfl));replace HO117:=Aside0.mk (hp_);replace HB:=Aside0.mk ((by rw[hw];exact below_set (below_set (below_set (below_set (below_set (below_set (HB.out) GB16.out) GB16.out) GB16.out) GB16.out) GB16.out) GB16.out:Below w.heap.size w w48));clear hg hw hp_)|((with_reducible refine gate_callee (f:=46) rfl ?_);refine goesL_ (some 50) rfl rfl Try.func46 (by kernel_rfl) rfl #[.slice (some ⟨go13,0,none⟩) y111.length co13] rfl (by(try simp only[List.map_toArray,List.map_cons,List.map_nil]);first|done|(rw[show y111.length=y108.length from(Kd.R_reads' HO110.out).1.symm]<;>rfl)|rfl|(simp only[List.length_drop,List.length_take];rfl)) ?_;(with_reducible refine(impl_CodeSafe.calls _ _ y111 false _ ?side1 ?side2 A17.out).mono ?_);(case side1=>repeat(first|exact(Kd.R_reads' HO110.out).2.2|(with_reducible refine Kd.C_alloc ?_ _)|(with_reducible refine Kd.C_drewN ?_ _)|(with_reducible refine Kd.C_drew ?_)));(case side2=>rw[show y111.length=y108.length from(Kd.R_reads' HO110.out).1.symm];exact(Kd.R_reads' HO110.out).2.1);rintro e w49 ⟨rfl,hb⟩;refine⟨_,rfl,?_⟩;replace HO103:=Aside0.mk (Kd.R_below (by exact rU HO103.out) hb);replace HO110:=Aside0.mk (Kd.R_below (by exact rU HO110.out) hb);replace HO117:=Aside0.mk (Kd.R_below (by exact rU HO117.out) hb);replace HB:=Aside0.mk (below_step (by exact bU HB.out) hb);(try clear hb);(try clear hb2);(try clear hk);(try clear hi))|(go_at_call 46;refine calls_of_args (args':= #[.slice (some ⟨go16,0,none⟩) y118.length co16]) (by first|(rw[show y118.length=y115.length from(Kd.R_reads' HO117.out).1.symm]<;>rfl)|rfl) ?_;(with_reducible refine(impl_CodeSafe.calls _ _ y118 t120 _ ?side1 ?side2 A34.out).mono ?_);(case side1=>repeat(first|exact(Kd.R_reads' HO117.out).2.2|(with_reducible refine Kd.C_alloc ?_ _)|(with_reducible refine Kd.C_drewN ?_ _)|(with_reducible refine Kd.C_drew ?_)));(case side2=>rw[show y118.length=y115.length from(Kd.R_reads' HO117.out).1.symm];exact(Kd.R_reads' HO117.out).2.1);rintro e w50 ⟨rfl,hb⟩;replace HO103:=Aside0.mk (Kd.R_below (by exact rU HO103.out) hb);replace HO110:=Aside0.mk (Kd.R_below (by exact rU HO110.out) hb);replace HO117:=Aside0.mk (Kd.R_below (by exact rU HO117.out) hb);replace HB:=Aside0.mk (below_step (by exact bU HB.out) hb);(try clear hb);(try clear hb2);(try clear hk);(try clear hi)))
          go_ret
          exact⟨by first|rfl|(simp[errW_none,errW_some]<;>rfl)|(simp[*,errW_none,errW_some]<;>rfl),by exact bU HB.out⟩
        ·rw[if_neg c15]at H
         exact absurd H (by simp)
       ·rw[if_neg c14]at H
        exact absurd H (by simp)
      ·rw[if_neg c12]at H
       exact absurd H (by simp)
     ·rw[if_neg c11]at H
      exact absurd H (by simp)
    ·replace c10:=Bool.eq_false_iff.mpr c10
     subst c10;have H1:(some true)=some r:=by rw[if_neg (show¬(false=true) by decide)]at H;exact H
     clear H;have H:=H1;clear H1;have z51:(false==false)=true:=by simp
     have z52:(false !=false)=false:=by simp
     obtain rfl:=Option.some.inj H;go_wp2_with (first|((with_reducible refine gate_callee (f:=52) rfl ?_);refine goesL_ (some 18) rfl rfl Try.func52 (by kernel_rfl) rfl #[.slice A0 l0.length c0] rfl (by(try simp only[List.map_toArray,List.map_cons,List.map_nil])<;>rfl) ?_;(with_reducible refine(spec_DrawCodeSafe.calls kj2 _ _ l0 t101 _ ?side1 ?side2 A6.out).mono ?_);(case side1=>repeat(first|exact(Kd.C_below HR0.out HB.out)|(with_reducible refine Kd.C_alloc ?_ _)|(with_reducible refine Kd.C_drewN ?_ _)|(with_reducible refine Kd.C_drew ?_)));(case side2=>exact HC0.out);rintro e w53 ⟨v102,rfl,ho0,hb⟩;refine⟨_,rfl,?_⟩;have HO103:=Aside0.mk (Kd.R_lower ho0 (below_size (by exact bU HB.out)));replace HB:=Aside0.mk (below_step (by exact bU HB.out) hb);(try clear hb);(try clear hb2);(try clear hk);(try clear hi);(try clear ho0);obtain⟨Ao54,co54,eo54⟩:=Kd.R_slice HO103.out;subst eo54)|((with_reducible refine gate_callee (f:=46) rfl ?_);refine goesL_ (some 20) rfl rfl Try.func46 (by kernel_rfl) rfl #[.slice Ao54 t101.length co54] rfl (by(try simp only[List.map_toArray,List.map_cons,List.map_nil])<;>rfl) ?_;(with_reducible refine(impl_CodeSafe.calls _ _ t101 false _ ?side1 ?side2 A7.out).mono ?_);(case side1=>repeat(first|exact(Kd.R_reads' HO103.out).2.2|(with_reducible refine Kd.C_alloc ?_ _)|(with_reducible refine Kd.C_drewN ?_ _)|(with_reducible refine Kd.C_drew ?_)));(case side2=>exact(Kd.R_reads' HO103.out).2.1);rintro e w55 ⟨rfl,hb⟩;refine⟨_,rfl,?_⟩;replace HO103:=Aside0.mk (Kd.R_below (by exact rU HO103.out) hb);replace HB:=Aside0.mk (below_step (by exact bU HB.out) hb);(try clear hb);(try clear hb2);(try clear hk);(try clear hi))|((with_reducible refine gate_callee (f:=45) rfl ?_);refine goesL_ (some 23) rfl rfl Try.func45 (by kernel_rfl) rfl #[.slice Ao54 t101.length co54] rfl (by(try simp only[List.map_toArray,List.map_cons,List.map_nil])<;>rfl) ?_;(with_reducible refine(spec_CodeSafe_as.calls _ _ t101 false _ ?side1 ?side2 A7.out).mono ?_);(case side1=>repeat(first|exact(Kd.R_reads' HO103.out).2.2|(with_reducible refine Kd.C_alloc ?_ _)|(with_reducible refine Kd.C_drewN ?_ _)|(with_reducible refine Kd.C_drew ?_)));(case side2=>exact(Kd.R_reads' HO103.out).2.1);rintro e w56 ⟨rfl,hb⟩;refine⟨_,rfl,?_⟩;replace HO103:=Aside0.mk (Kd.R_below (by exact rU HO103.out) hb);replace HB:=Aside0.mk (below_step (by exact bU HB.out) hb);(try clear hb);(try clear hb2);(try clear hk);(try clear hi))|((with_reducible refine gate_callee (f:=45) rfl ?_);refine goesL_ (some 31) rfl rfl Try.func45 (by kernel_rfl) rfl #[.slice Ao54 t101.length co54] rfl (by(try simp only[List.map_toArray,List.map_cons,List.map_nil])<;>rfl) ?_;(with_reducible refine(spec_CodeSafe_as.calls _ _ t101 false _ ?side1 ?side2 A7.out).mono ?_);(case side1=>repeat(first|exact(Kd.R_reads' HO103.out).2.2|(with_reducible refine Kd.C_alloc ?_ _)|(with_reducible refine Kd.C_drewN ?_ _)|(with_reducible refine Kd.C_drew ?_)));(case side2=>exact(Kd.R_reads' HO103.out).2.1);rintro e w57 ⟨rfl,hb⟩;refine⟨_,rfl,?_⟩;replace HO103:=Aside0.mk (Kd.R_below (by exact rU HO103.out) hb);replace HB:=Aside0.mk (below_step (by exact bU HB.out) hb);(try clear hb);(try clear hb2);(try clear hk);(try clear hi)))
     go_ret
     exact⟨by first|rfl|(simp[errW_none,errW_some]<;>rfl)|(simp[*,errW_none,errW_some]<;>rfl),by exact bU HB.out⟩
def laws_FnSafeEmpty.Pure:Prop:= ∀ (l0:List Int) (l1:List Int),l0.length≤maxLen→l0.length*1≤140737488351232→(∀x∈l0,(Lit.int .u8 x).wf=true)→l1.length≤maxLen→l1.length*1≤140737488351232→(∀x∈l1,(Lit.int .u8 x).wf=true)→ ∃k,laws_FnSafeEmpty.f k l0 l1=some true
theorem laws_FnSafeEmpty.walk (P:laws_FnSafeEmpty.Pure) (a0:Option Addr) (len0 cap0:Nat) (z0:List Int) (a1:Option Addr) (len1 cap1:Nat) (z1:List Int) (w:World) (w0:(a0=none∧len0=0∧cap0=0∧z0=[])∨ ∃x,a0=some x∧len0≤cap0∧cap0≤maxLen∧z0.length=cap0∧(∀i,i<z0.length→w.cell? (x.add i)=some (.int .u8 (z0.getD i 0)))∧ ∀n∈z0,(Lit.int .u8 n).wf=true) (y0:len0*1≤140737488351232) (w1:(a1=none∧len1=0∧cap1=0∧z1=[])∨ ∃x,a1=some x∧len1≤cap1∧cap1≤maxLen∧z1.length=cap1∧(∀i,i<z1.length→w.cell? (x.add i)=some (.int .u8 (z1.getD i 0)))∧ ∀n∈z1,(Lit.int .u8 n).wf=true) (y1:len1*1≤140737488351232):
  Calls Try.prog 14 #[.slice a0 len0 cap0,.slice a1 len1 cap1] w fun e w'=>e= .returned (.bool true)∧Below w.heap.size w w':=by
 obtain⟨l0,rfl,hr0,hm0,hw0,hc0⟩:=ReadsInt.ofRowC w0;obtain⟨l1,rfl,hr1,hm1,hw1,hc1⟩:=ReadsInt.ofRowC w1;obtain⟨k,h⟩:=P l0 l1 hm0 y0 hw0 hm1 y1 hw1;refine(laws_FnSafeEmpty.calls k _ _ l0 _ _ l1 true w (Kd.C_of_reads (d:=(0:Int)) (h1:=fun _=>rfl) hr0) hc0 (Kd.C_of_reads (d:=(0:Int)) (h1:=fun _=>rfl) hr1) hc1 h).mono ?_
 rintro e w' ⟨rfl,hd⟩
 exact⟨rfl,hd⟩
end Go.Proofs.Ytmklpbmlgjkbiaa.PJC
end
section
namespace Go.Proofs.Ytmklpbmlgjkbiaa.PS
open Go.RowKit Go.Proofs.YtmklpbmlgjkbiaaW.PrintWords Go.Proofs.YtmklpbmlgjkbiaaW.PrintLast
theorem code_set {l:List S29} (hc:codeB l=true) {i:Nat} (hi:i<l.length) {x:S29} (hx:opP x.f0 x.f1 x.f2 x.f3 x.f4.f0 x.f4.f1) (ht:hasT x.f0=true→x.f3<l.length):codeB (l.set i x)=true:=by
  have hlen:=code_len hc;have h2:l.any (wrongB l.length)=false:=by unfold codeB at hc;simp only[Bool.and_eq_true,Bool.not_eq_true']at hc;exact hc.2
  unfold codeB;rw[List.length_set,decide_eq_true (show 1≤l.length∧l.length≤16 from hlen),Bool.true_and]
  have:(l.set i x).any (wrongB l.length)=false:=by
    rw[List.any_eq_false];intro y hy;rcases List.mem_or_eq_of_mem_set hy with hy|hy
    · exact List.any_eq_false.1 h2 y hy
    · subst hy
      unfold wrongB opS;rw[opB_true.2 hx];by_cases hT:hasT y.f0=true
      · have:=ht hT
        rw[hT,decide_eq_false (by omega)];decide
      · have hT':hasT y.f0=false:=by simpa using hT
        rw[hT'];simp
  rw[this];rfl
theorem end_op (r:Int) (h:0≤r∧r≤3):opP 14 r 0 0 0 0:=by
  refine⟨by omega,⟨by unfold okP;omega,by omega,by omega⟩,.inr ⟨rfl,h.1,h.2⟩,.inl rfl,.inl rfl,.inr ⟨rfl,rfl⟩⟩
theorem rd_set0 {l:List S29} (h:0<l.length) (x:S29):rd_T29 (l.set 0 x) ((0:Nat):Int)=x:=by
  rw[rd29_get (by simpa using h)];simp
theorem end_still {l:List S29} (hc:codeB l=true) {r:Int} (h:0≤r∧r≤3):fullL (l.set 0 ⟨14,r,0,0,⟨0,0⟩⟩)=startO l.length:=by
  have hlen:=code_len hc;unfold fullL;rw[List.length_set];refine full_still (by omega) ?_
  have hw:wayW (l.set 0 ⟨14,r,0,0,⟨0,0⟩⟩) 0=[]:=by
    unfold wayW waysL;rw[rd_set0 (by omega)]
    rfl
  unfold stepW;rw[hw];split<;>rfl
theorem start_at0 {n:Nat} (h:0<n):at_ (startO n) ((0:Nat):Int)=1:=by
  unfold startO;exact at_set_self (i:=0) (by simpa using h)
theorem start_at {n i:Nat} (hi:i<n) (h:i≠0):at_ (startO n) (i:Int)= -1:=by
  unfold startO;rw[at_set_ne (by omega)]
  simp[at_,List.getD_eq_getElem?_getD,hi]
end Go.Proofs.Ytmklpbmlgjkbiaa.PS
end
section
namespace Go.Proofs.Ytmklpbmlgjkbiaa.Pure
open Go.RowKit Go.Proofs.Ytmklpbmlgjkbiaa.PJC Go.Proofs.Ytmklpbmlgjkbiaa.PS Go.Proofs.YtmklpbmlgjkbiaaW.PrintWords Go.Proofs.YtmklpbmlgjkbiaaW.PrintLast
theorem end_safe {l:List S29} (hc:codeB l=true) {r:Int} (h:0≤r∧r≤3):safeB (l.set 0 ⟨14,r,0,0,⟨0,0⟩⟩)=decide (r=0):=by
  have hlen:=code_len hc;have hk:=code_set hc (i:=0) (by omega) (x:=⟨14,r,0,0,⟨0,0⟩⟩) (end_op r h) (by intro hh;cases hh)
  have hs0:safeAt (l.set 0 ⟨14,r,0,0,⟨0,0⟩⟩) 0=decide (r=0):=by
    unfold safeAt;rw[end_still hc h,start_at0 (by omega),rd_set0 (by omega)]
    have:r=0∨r=1∨r=2∨r=3:=by omega
    rcases this with rfl|rfl|rfl|rfl<;>simp[endsB,usesL]<;>decide
  by_cases h0:r=0
  · rw[decide_eq_true h0]at hs0⊢
    refine safe_all hk fun i hi=> ?_
    by_cases hi0:i=0
    · subst hi0;exact hs0
    · unfold safeAt
      rw[List.length_set]at hi
      rw[end_still hc h,start_at hi hi0];rfl
  · rw[decide_eq_false h0]at hs0⊢
    exact safe_not (by rw[List.length_set];omega) hs0
theorem FnSafeEmpty:laws_FnSafeEmpty.Pure:=by
  intro l0 l1 hm hr hw hm1 hr1 hw1;refine Ev.rounds ?_
  have no:Ev (fun k=>laws_FnSafeEmpty.j0 k l0 l1 true) true:=by
    refine Ev.step (f:=fun k=>some true) (fun k=> ?_) (Ev.now _)
    simp only[laws_FnSafeEmpty.j0,if_true]
  unfold laws_FnSafeEmpty.f;by_cases hl:(l0.length:Int)>1048576
  · simp only[if_pos hl];exact no
  simp only[if_neg hl]
  by_cases hl1:(l1.length:Int)>1048576
  · rw[decide_eq_true hl1];exact no
  rw[decide_eq_false hl1];obtain⟨c,hc,hcl⟩:=drawSafe_ev hw;refine Ev.step (f:=fun k=>(spec_DrawCodeSafe.f k l0).bind fun t101=>((safeV.f t101).bind fun t104=>(if t104=true then((some (([]:List (S29)):List (S29))).bind fun y105=>(if y105.length+t101.length<2932031007402 then((some (y105++t101:List (S29))).bind fun y108=>(if 0<(y108.length:Int)then((some (([]:List (S29)):List (S29))).bind fun y112=>(if y112.length+t101.length<2932031007402 then((some (y112++t101:List (S29))).bind fun y115=>(if 0<(y115.length:Int)then((safeV.f (y108.set (0:Int).toNat (⟨14,1+((l1.length:Int)%3),0,0,(⟨0,0⟩:S27)⟩:S29))).bind fun t119=>(if t119=true then(some false)else((safeV.f (y115.set (0:Int).toNat (⟨14,0,0,0,(⟨0,0⟩:S27)⟩:S29))).bind fun t120=>(some t120))))else(none)))else(none)))else(none)))else(none)))else(some true)))) (fun k=> ?_) ?_
  · simp only[laws_FnSafeEmpty.j0,Bool.false_eq_true,if_false]
  refine Ev.bind hc ?_
  simp only[safeV.f,Option.bind_some,List.nil_append,List.length_nil,Nat.zero_add]
  by_cases hs:safeB c=true
  · have hk:codeB c=true:=by unfold safeB at hs;simp only[Bool.and_eq_true]at hs;exact hs.1
    have hlen:=code_len hk;have e0:(0:Int).toNat=0:=rfl;simp only[if_pos hs,if_pos (show c.length<2932031007402 by omega),if_pos (show(0:Int)<(c.length:Int) by omega),e0]
    rw[end_safe hk (r:=1+(l1.length:Int)%3) (by omega),end_safe hk (r:=0) (by omega),decide_eq_false (by omega)]
    exact Ev.now _
  · simp only[if_neg hs];exact Ev.now _
end Go.Proofs.Ytmklpbmlgjkbiaa.Pure
end
