/- What the rows of JF rest on, part 1. -/
import Derived.Test.YtmklpbmlgjkbiaaProg
import Derived.Below
import Derived.Deep.Draws
import Derived.Deep.AppendLies
import Derived.Maps.AppendAt
import Derived.OwnWalk
import Derived.Laws.BytesArg
import Derived.Laws.MakeOwn
import Derived.Laws.OwnMore
import Derived.Deep.OwnRows
import Derived.Tactics
import Derived.Lib.ConvBytes
import Derived.Laws.Slices
import Derived.WalkKit
import Derived.KernelRfl
import Derived.RowKit3
import Derived.Deep.LoopGhost
import Derived.Deep.QuietTactic
import Derived.BigQuiet
import Derived.WideLaws
import Derived.Deep.DeepCutAuto
import Derived.Deep.CutBlock
import Derived.Deep.RegionHeld3
import Derived.Laws.Rows
import Derived.Lib.AppendStr
import Derived.ArgAppend
import Derived.Laws.IdiomCopy
import Derived.OrdersHeld
import Derived.Laws.BitsLemmas
import Derived.RowKit
import Derived.Laws.StructEq
import Derived.Deep.RegionWith
import Derived.Lib.Bytealg
import Derived.Shelf.Strings.Search3
import Derived.WalkSpells
import Derived.Lib.OthersKept
import Derived.Lib.Hide
import Derived.WalkSmall
import Derived.Laws.EntriesVeiled
import Derived.RegionTactic
import Derived.Test.YtmklpbmlgjkbiaaQBase7
set_option linter.unusedVariables false
set_option linter.unusedSimpArgs false
set_option maxHeartbeats 8000000
set_option maxRecDepth 100000
section
namespace Go.Proofs.Ytmklpbmlgjkbiaa.PS
open Go.RowKit Go.Proofs.YtmklpbmlgjkbiaaW.PrintWords Go.Proofs.YtmklpbmlgjkbiaaW.PrintLast
def usesV.f (k r s t vk vn:Int):Option (List Int):=some (if opB k r s t vk vn=true then usesL k r s else [])
theorem spec_CodeOk_as.calls (A0:Option Addr) (c0:Nat) (l0:List (S29)) (r:Bool) (w:World) (hr0:Kd.C k29 w A0 l0.length l0) (hc0:l0.length≤c0) (h:codeV.f l0=some r):
    Calls Try.prog 33 #[.slice A0 l0.length c0] w fun e w'=>e= .returned (.bool r)∧Below w.heap.size w w':=
  spec_CodeOk.calls _ A0 c0 l0 r w hr0 hc0 ((scode_eq l0 (Kd.C_max hr0)).trans h)
end Go.Proofs.Ytmklpbmlgjkbiaa.PS
end
section
namespace Go.Proofs.Ytmklpbmlgjkbiaa.PS
open Go.RowKit Go.Proofs.YtmklpbmlgjkbiaaW.PrintWords Go.Proofs.YtmklpbmlgjkbiaaW.PrintLast Go.Proofs.YtmklpbmlgjkbiaaW.PrintMore
attribute [local go_sem] max2_int min2_int max_two min_two max_three min_three max_four min_four   -- for this text's walks alone
def impl_CodeFull.f (l0:List (S29)):Option (List Int):=(codeV.f l0).bind fun t388=>(if t388=true then((fullV.f l0).bind fun t389=>(some t389))else(some ([]:List Int)))
theorem impl_CodeFull.calls (A0:Option Addr) (c0:Nat) (l0:List (S29)) (r:List Int) (w:World) (hr0:Kd.C k29 w A0 l0.length l0) (hc0:l0.length≤c0) (h:impl_CodeFull.f l0=some r):
  Calls Try.prog 44 #[.slice A0 l0.length c0] w fun e w'=> ∃v0_:Value,e= .returned (v0_)∧Kd.R (Kd.int .i64) 3 w' w.heap.size (fun _=>True) v0_ r∧Below w.heap.size w w':=by
 have HR0:=Aside0.mk hr0;have HC0:=Aside0.mk hc0;clear hr0 hc0;have HB:=Aside0.mk (Below.refl w.heap.size w);have H:((codeV.f l0).bind fun t388=>(if t388=true then((fullV.f l0).bind fun t389=>(some t389))else(some ([]:List Int))))=some r:=h
 clear h;replace H:=Option.bind_eq_some_iff.mp H;obtain⟨t388,A20,H⟩:=H;replace H:(if t388=true then((fullV.f l0).bind fun t389=>(some t389))else(some ([]:List Int)))=some r:=H
 have A2:=Aside0.mk A20;clear A20;by_cases c3:t388=true
 ·subst c3
  have H1:((fullV.f l0).bind fun t389=>(some t389))=some r:=by rw[if_pos rfl]at H;exact H
  clear H;have H:=H1;clear H1;replace H:=Option.bind_eq_some_iff.mp H;obtain⟨t389,A40,H⟩:=H;replace H:(some t389)=some r:=H;have A4:=Aside0.mk A40;clear A40;obtain rfl:=Option.some.inj H;go_enter Try.func44,Try.ntmps44
  go_wp2_with (first|((with_reducible refine gate_callee (f:=35) rfl ?_);refine goesL_ (some 4) rfl rfl Try.func35 (by kernel_rfl) rfl #[.slice A0 l0.length c0] rfl (by(try simp only[List.map_toArray,List.map_cons,List.map_nil])<;>rfl) ?_;(with_reducible refine(impl_CodeOk.calls _ _ l0 true _ ?side1 ?side2 A2.out).mono ?_);(case side1=>repeat(first|exact HR0.out|(with_reducible refine Kd.C_alloc ?_ _)|(with_reducible refine Kd.C_drewN ?_ _)|(with_reducible refine Kd.C_drew ?_)));(case side2=>exact HC0.out);rintro e w5 ⟨rfl,hb⟩;refine⟨_,rfl,?_⟩;replace HB:=Aside0.mk (below_step (by exact bU HB.out) hb);(try clear hb);(try clear hb2);(try clear hk);(try clear hi))|((with_reducible refine gate_callee (f:=80) rfl ?_);refine goesL_ (some 7) rfl rfl Try.func80 (by kernel_rfl) rfl #[.slice A0 l0.length c0] rfl (by(try simp only[List.map_toArray,List.map_cons,List.map_nil])<;>rfl) ?_;(with_reducible refine(impl_full.calls _ _ l0 t389 _ ?side1 ?side2 A4.out).mono ?_);(case side1=>repeat(first|exact(Kd.C_below HR0.out HB.out)|(with_reducible refine Kd.C_alloc ?_ _)|(with_reducible refine Kd.C_drewN ?_ _)|(with_reducible refine Kd.C_drew ?_)));(case side2=>exact HC0.out);rintro e w6 ⟨v390,rfl,ho0,hb⟩;refine⟨_,rfl,?_⟩;have HO391:=Aside0.mk (Kd.R_lower ho0 (below_size (by exact bU HB.out)));replace HB:=Aside0.mk (below_step (by exact bU HB.out) hb);(try clear hb);(try clear hb2);(try clear hk);(try clear hi);(try clear ho0)))
  go_ret
  exact⟨_,by first|rfl|(simp[errW_none,errW_some]<;>rfl)|(simp[*,errW_none,errW_some]<;>rfl),by exact rU HO391.out,by exact bU HB.out⟩
 ·replace c3:=Bool.eq_false_iff.mpr c3
  subst c3;have H1:(some ([]:List Int))=some r:=by rw[if_neg (show¬(false=true) by decide)]at H;exact H
  clear H;have H:=H1;clear H1;obtain rfl:=Option.some.inj H;go_enter Try.func44,Try.ntmps44
  go_wp2_with (first|((with_reducible refine gate_callee (f:=35) rfl ?_);refine goesL_ (some 4) rfl rfl Try.func35 (by kernel_rfl) rfl #[.slice A0 l0.length c0] rfl (by(try simp only[List.map_toArray,List.map_cons,List.map_nil])<;>rfl) ?_;(with_reducible refine(impl_CodeOk.calls _ _ l0 false _ ?side1 ?side2 A2.out).mono ?_);(case side1=>repeat(first|exact HR0.out|(with_reducible refine Kd.C_alloc ?_ _)|(with_reducible refine Kd.C_drewN ?_ _)|(with_reducible refine Kd.C_drew ?_)));(case side2=>exact HC0.out);rintro e w7 ⟨rfl,hb⟩;refine⟨_,rfl,?_⟩;replace HB:=Aside0.mk (below_step (by exact bU HB.out) hb);(try clear hb);(try clear hb2);(try clear hk);(try clear hi)))
  go_ret
  exact⟨_,by first|rfl|(simp[errW_none,errW_some]<;>rfl)|(simp[*,errW_none,errW_some]<;>rfl),by first|exact Kd.R_nil _ _ _ _ _|exact Kd.N_nil _ _ _ _ _|exact Kd.V_nil _ _ _ _ _|exact Kd.Q_nil _ _ _ _ _|exact Kd.S_nil _ _ _ _ _,by exact bU HB.out⟩
end Go.Proofs.Ytmklpbmlgjkbiaa.PS
end
section
namespace Go.Proofs.Ytmklpbmlgjkbiaa.PS
open Go.RowKit Go.Proofs.YtmklpbmlgjkbiaaW.PrintWords Go.Proofs.YtmklpbmlgjkbiaaW.PrintLast
def codeFullV.f (l:List S29):Option (List Int):=some (if codeB l=true then fullL l else [])
theorem impl_CodeFull_as.calls (A0:Option Addr) (c0:Nat) (l0:List (S29)) (r:List Int) (w:World) (hr0:Kd.C k29 w A0 l0.length l0) (hc0:l0.length≤c0) (h:codeFullV.f l0=some r):
    Calls Try.prog 44 #[.slice A0 l0.length c0] w fun e w'=> ∃v0_:Value,e= .returned (v0_)∧Kd.R (Kd.int .i64) 3 w' w.heap.size (fun _=>True) v0_ r∧Below w.heap.size w w':=by
  refine impl_CodeFull.calls A0 c0 l0 r w hr0 hc0 ?_
  rw[←h];unfold impl_CodeFull.f codeV.f fullV.f codeFullV.f;simp only[Option.bind_some]
  by_cases hc:codeB l0=true
  · simp only[if_pos hc];rfl
  · simp only[if_neg hc]
end Go.Proofs.Ytmklpbmlgjkbiaa.PS
end
section
namespace Go.Proofs.Ytmklpbmlgjkbiaa.PS
open Go.RowKit Go.Proofs.YtmklpbmlgjkbiaaW.PrintWords Go.Proofs.YtmklpbmlgjkbiaaW.PrintLast Go.Proofs.YtmklpbmlgjkbiaaW.PrintMore
attribute [local go_sem] max2_int min2_int max_two min_two max_three min_three max_four min_four   -- for this text's walks alone
def laws_lvBit.l0:Nat→Int→Int→Int→Option (Bool)
 |0,_,_,_=>none
 |k+1,x0,x1,x5=>if x5<x1 then(laws_lvBit.l0 k (wrap64 (Int.tdiv x0 2)) x1 (wrap64 (x5+1)))else(some ((Int.tmod x0 2)==1))
def laws_lvBit.f (k:Nat) (a0:Int) (a1:Int):Option (Bool):=laws_lvBit.l0 k a0 a1 0
theorem laws_lvBit.mono_l: ∀k,(∀y0 y1 y2,LeO (laws_lvBit.l0 k y0 y1 y2) (laws_lvBit.l0 (k+1) y0 y1 y2))
 |0=>fun _ _ _ r h=>by simp[laws_lvBit.l0]at h
 |k+1=>by
  have ih0:=laws_lvBit.mono_l k
  ·intro y0 y1 y2
   unfold laws_lvBit.l0;repeat' first
   |(with_reducible exact ih0 _ _ _)
   |(with_reducible exact LeO.refl _)
   |(with_reducible exact LeO.none _)
   |(with_reducible refine LeO.ite ?_ ?_)
   |(with_reducible refine LeO.bind ?_ (fun _=> ?_))
   |exact ih0 _ _ _
   |exact LeO.none _
   |refine LeO.ite ?_ ?_
   |refine LeO.bind ?_ (fun _=> ?_)
theorem laws_lvBit.mono: ∀a0 a1 k,LeO (laws_lvBit.f k a0 a1) (laws_lvBit.f (k+1) a0 a1):=by
 intro a0 a1 k;have ih0:=laws_lvBit.mono_l k;unfold laws_lvBit.f
 repeat' first
   |(with_reducible exact ih0 _ _ _)
   |(with_reducible exact LeO.refl _)
   |(with_reducible exact LeO.none _)
   |(with_reducible refine LeO.ite ?_ ?_)
   |(with_reducible refine LeO.bind ?_ (fun _=> ?_))
   |exact ih0 _ _ _
   |exact LeO.none _
   |refine LeO.ite ?_ ?_
   |refine LeO.bind ?_ (fun _=> ?_)
theorem laws_lvBit.calls (k:Nat) (a0:Int) (a1:Int) (r:Bool) (w:World) (h:laws_lvBit.f k a0 a1=some r):
  Calls Try.prog 50 #[.int .i64 a0,.int .i64 a1] w fun e w'=>e= .returned (.bool r)∧Drawn0 w w':=by
 have H:(laws_lvBit.l0 k a0 a1 0)=some r:=h;clear h;have H':=Aside0.mk H;clear H;go_enter Try.func50,Try.ntmps50
 go_wp2
 go_loopg [0,5] k (fun kq v0 v5 w'=> ∃ (x0_1:Int) (x5_1:Int),v0= .int .i64 x0_1∧v5= .int .i64 x5_1∧Aside0 (laws_lvBit.l0 kq x0_1 a1 x5_1=some r)∧Aside0 (kq≤k)∧Drawn0 w w')
 case atStart=>exact⟨(a0),(0),(by first|rfl|(simp;done)|(simp[*];done)),(by first|rfl|(simp;done)|(simp[*];done)),H',⟨Nat.le_refl _⟩,by repeat(first|exact Drawn0.refl _|apply Drawn0.step)⟩
 case round=>
  clear H';try clear p2
  obtain⟨x0_1,x5_1,rfl,rfl,HA,HK1,⟨m1,rfl⟩⟩:=hrel;cases gk with
  |zero=>exact absurd HA.out (by simp[laws_lvBit.l0])
  |succ k1=>
   have H:=HA.out;clear HA;simp only[laws_lvBit.l0]at H
   by_cases c3:x5_1<a1
   ·rw[if_pos c3]at H
    have c3b0:decide (x5_1<a1)=true:=decide_eq_true c3;clear c3;have H':=Aside0.mk H;clear H;go_wp2
    go_roundg k1
    case measure=>have:=HK1.out;omega
    case rel=>exact⟨(wrap64 (Int.tdiv x0_1 2)),(wrap64 (x5_1+1)),(by first|rfl|(simp;done)|(simp[*];done)),(by first|rfl|(simp;done)|(simp[*];done)),H',⟨by have:=HK1.out;omega⟩,by repeat(first|exact Drawn0.refl _|apply Drawn0.step)⟩
   ·rw[if_neg c3]at H
    have c3b0:decide (x5_1<a1)=false:=decide_eq_false c3;clear c3;obtain rfl:=Option.some.inj H;go_wp2
    go_ret
    exact⟨by first|rfl|(simp;done)|(simp[*];done),by repeat(first|exact Drawn0.refl _|apply Drawn0.step)⟩
end Go.Proofs.Ytmklpbmlgjkbiaa.PS
end
section
namespace Go.Proofs.Ytmklpbmlgjkbiaa.PS
open Go.RowKit Go.Proofs.YtmklpbmlgjkbiaaW.PrintWords Go.Proofs.YtmklpbmlgjkbiaaW.PrintLast
theorem uses_no (k r s t vk vn:Int) (w:World) (hn:Aside0 (opB k r s t vk vn=false)):
    Calls Try.prog 27 #[.agg #[.int .i64 k,.int .i64 r,.int .i64 s,.int .i64 t,.int .i64 vk,.int .i64 vn]] w fun e w'=>e= .returned (.slice none 0 0)∧Below w.heap.size w w':=by
  have hOk:=fun W:World=>impl_OpOk.calls k r s t vk vn false W (by rw[←hn.out];rfl)
  go_enter Try.func27,Try.ntmps27
  go_wp2_with (go_at_call 25;refine(hOk _).mono ?_;rintro e w' ⟨rfl,hb⟩)
  go_ret
  exact⟨rfl,below_step (below_alloc (Below.refl _ _) _) hb⟩
def pickL (r s:Int) (l:List UInt8):List Int:=l.map fun c=>if c=82 then r else s
theorem pickL_snoc (r s:Int) (l:List UInt8) (c:UInt8):pickL r s (l++ [c])=pickL r s l++ [if c=82 then r else s]:=by simp[pickL]
theorem take_snoc (s:ByteArray) (k:Nat) (h:k<s.size):s.data.toList.take (k+1)=s.data.toList.take k++ [s[k]]:=by
  rw[List.take_succ_eq_append_getElem (by simpa using h)];rfl
def UsesRel (w:World) (it:Nat) (rd:ByteArray) (k r s t vk vn:Int) (v:Value) (wr:World):Prop:=
  ∃pos,pos≤rd.size∧wr.heap[it]?=some (.stringIter rd pos)∧wr.heap[w.heap.size]?=some (.cells #[.int .i64 k,.int .i64 r,.int .i64 s,.int .i64 t,.int .i64 vk,.int .i64 vn] 29 (0,0))∧
    wr.ownsRow (it+1) 3 1 v pos ((pickL r s (rd.data.toList.take pos)).map (Value.int .i64))∧Below w.heap.size w wr
theorem uses_step {w wq w1:World} {it pos:Nat} {rd:ByteArray} {k r s t vk vn:Int} {v v':Value} {xs:List Value} (X:Int) (hw2:w.heap.size<it) (hqi:wq.heap[it]?=some (.stringIter rd (pos+1)))
    (hqb:wq.heap[w.heap.size]?=some (.cells #[.int .i64 k,.int .i64 r,.int .i64 s,.int .i64 t,.int .i64 vk,.int .i64 vn] 29 (0,0))) (hqbl:Below w.heap.size w wq)
    (hl:(pickL r s (rd.data.toList.take (pos+1))).map (Value.int .i64)=xs++ [.int .i64 X]) (hlt:pos<rd.size) (hown:(wq.alloc (.cells #[.int .i64 X] 3)).ownsRow (it+1) 3 1 v pos xs) (hown':w1.ownsRow (it+1) 3 1 v' (pos+1) (xs++ [.int .i64 X])) (hgrow:(wq.alloc (.cells #[.int .i64 X] 3)).grownBy w1 v.ownBlock):
    UsesRel w it rd k r s t vk vn v' w1:=by
  have hne: ∀g,g≤it→some g≠v.ownBlock:=fun g hg e=>by have:=own_base hown g e.symm;omega
  refine⟨pos+1,hlt,blk_grown (blk_alloc hqi _) hgrow (hne _ (Nat.le_refl _)),blk_grown (blk_alloc hqb _) hgrow (hne _ (Nat.le_of_lt hw2)),by rw[hl];exact hown',?_⟩
  exact(below_alloc hqbl _).grown hgrow (below_alloc hqbl _).size (fun b hb=>by have:=own_base hown b hb;omega)
theorem uses_measure {wr wq w1:World} {it pos:Nat} {rd:ByteArray} {v:Value} {X:Int} {xs:List Value} (hqi:wq.heap[it]?=some (.stringIter rd (pos+1))) (hown:(wq.alloc (.cells #[.int .i64 X] 3)).ownsRow (it+1) 3 1 v pos xs) (hgrow:(wq.alloc (.cells #[.int .i64 X] 3)).grownBy w1 v.ownBlock) (hit:wr.heap[it]?=some (.stringIter rd pos)) (hlt:pos<rd.size):
    rd.size-w1.iterPos it<rd.size-wr.iterPos it:=by
  have hne:some it≠v.ownBlock:=fun e=>by have:=own_base hown it e.symm;omega
  rw[iterPos_of hit,iterPos_of (blk_grown (blk_alloc hqi _) hgrow hne)];omega
theorem uses_yes (k r s t vk vn:Int) (x:S66) (rd:ByteArray) (w:World) (hx:Aside0 (x=howR k)) (hy:Aside0 (opB k r s t vk vn=true)) (hr:Aside0 (x.f2=rd)) (hsz:rd.size≤2) (ha:Aside0 (∀i (h:i<rd.size),rd[i]=82∨rd[i]=83)):
    Calls Try.prog 27 #[.agg #[.int .i64 k,.int .i64 r,.int .i64 s,.int .i64 t,.int .i64 vk,.int .i64 vn]] w fun e w'=> ∃v0_:Value,e= .returned v0_∧w'.ownsRow w.heap.size 3 1 v0_ rd.size ((pickL r s rd.data.toList).map (Value.int .i64))∧Below w.heap.size w w':=by
  have hOk:=fun W:World=>impl_OpOk.calls k r s t vk vn true W (by rw[←hy.out];rfl)
  have hHow:=fun W:World=>impl_Op_how.calls k r s t vk vn x.f0 x.f1 rd x.f3 W (by rw[←hr.out,hx.out];rfl)
  have hfd: ∀ (a b c d:Value) (W:World),Sem.run Try.prog (Instr.field 66 (.agg #[a,b,c,d]) 2) W= .ok c W:=fun _ _ _ _ _=>by kernel_rfl
  obtain⟨i0,hi,hz0,hz1,hz2⟩:=info_parts info3;have BK:Aside0 ((w.alloc (.cells #[.int .i64 k,.int .i64 r,.int .i64 s,.int .i64 t,.int .i64 vk,.int .i64 vn] 29)).heap[w.heap.size]?=some (.cells #[.int .i64 k,.int .i64 r,.int .i64 s,.int .i64 t,.int .i64 vk,.int .i64 vn] 29 (0,0))):=⟨blk_new _ _⟩;have HB:=Aside0.mk (Below.refl w.heap.size w);go_enter Try.func27,Try.ntmps27
  go_wp2_with (first|(go_at_call 25;refine(hOk _).mono ?_;rintro e w' ⟨rfl,hb⟩;obtain⟨b1,b2⟩:=bcell hb;have hz:=hb.size;have HB:=Aside0.mk (below_step (below_alloc HB.out _) hb);have BK:=Aside0.mk (blk_below BK.out hb))|(go_at_call 67;refine(hHow _).mono ?_;rintro e w'2 ⟨rfl,hb2⟩;have HB:=Aside0.mk (below_step HB.out hb2);have BK:=Aside0.mk (blk_below BK.out hb2);clear b1 b2 hz hb hb2))
  go_loopw [3] (fun v wr=>UsesRel w w'2.heap.size rd k r s t vk vn v wr) (fun _ wr=>rd.size-wr.iterPos w'2.heap.size)
  case atStart=>
    exact⟨0,Nat.zero_le _,World.iter_heap _ _ _,blk_alloc BK.out _,World.ownsRow_nil _ _ _ _,below_alloc HB.out _⟩
  case round=>
    obtain⟨pos,hp,hit0,hbk0,hown0,hbl0⟩:=hrel;have hit:=Aside0.mk hit0;have hbk:=Aside0.mk hbk0;have hbl:=Aside0.mk hbl0;have hownA:=Aside0.mk hown0;have hw2:w.heap.size<w'2.heap.size:=by have:=blk_lt BK.out;exact this
    clear hit0 hbk0 hbl0 hown0;by_cases hlt:pos<rd.size
    · have hnx:=fun ty=>Lib.run_next_ascii_at (P:=Try.prog) wr w'2.heap.size rd pos ty hit.out hlt (by rcases ha.out pos hlt with h|h<;>rw[h]<;>decide)
      have hqi:Aside0 ((wr.iterAt w'2.heap.size rd (pos+1)).heap[w'2.heap.size]?=some (.stringIter rd (pos+1))):=⟨Lib.iterAt_heap _ _ _ _ _ hit.out⟩;have hqb:Aside0 ((wr.iterAt w'2.heap.size rd (pos+1)).heap[w.heap.size]?=some (.cells #[.int .i64 k,.int .i64 r,.int .i64 s,.int .i64 t,.int .i64 vk,.int .i64 vn] 29 (0,0))):=⟨(Lib.iterAt_other _ _ _ _ _ (Nat.ne_of_lt hw2)).trans hbk.out⟩;have hqbl:Aside0 (Below w.heap.size w (wr.iterAt w'2.heap.size rd (pos+1))):=⟨Lib.below_iterAt hbl.out (Nat.le_of_lt hw2) _ _⟩;have hown:=ownsRow_iterAt hownA.out (Nat.lt_succ_self w'2.heap.size) rd (pos+1);have hsize:w'2.heap.size<(wr.iterAt w'2.heap.size rd (pos+1)).heap.size:=blk_lt hqi.out;generalize wr.iterAt w'2.heap.size rd (pos+1)=wq at hnx hqi hqb hqbl hown hsize
      rcases ha.out pos hlt with hc|hc
      all_goals rw[hc]at hnx
      · have hcv:Aside0 ((if rd[pos]=82 then r else s)=r):=⟨by rw[hc];rfl⟩
        clear hc;obtain⟨hq1,hq2⟩:wq.cell? ⟨w.heap.size,1,none⟩=some (.int .i64 r)∧wq.cell? ⟨w.heap.size,2,none⟩=some (.int .i64 s):=⟨(blk_cell hqb.out 1).trans rfl,(blk_cell hqb.out 2).trans rfl⟩;go_wp2_with (first|(at_builtin;refine wpList_append_own _ rfl _ _ 32 rfl (w'2.heap.size+1) 3 i0 (.int .i64 0) 1 8 Try.underlying32 hi hz0 hz1 hz2 rfl (by decide) _ _ _ rfl (hown.alloc _) ⟨wq.heap.size,0,none⟩ 1 1 [.int .i64 r] rfl rfl (cell_one_new _ _ _) (by simp[Value.oneCell']) (by unfold maxLen;omega) (by omega) (by simp;omega) ?_;intro v' w1 hown' hgrow _))
        go_roundw
        case rel=>exact uses_step r hw2 hqi.out hqb.out hqbl.out (by rw[take_snoc rd pos hlt,pickL_snoc,hcv.out];simp) hlt (hown.alloc _) hown' hgrow
        case measure=>exact uses_measure hqi.out (hown.alloc _) hgrow hit.out hlt
      · have hcv:Aside0 ((if rd[pos]=82 then r else s)=s):=⟨by rw[hc];rfl⟩
        clear hc;obtain⟨hq1,hq2⟩:wq.cell? ⟨w.heap.size,1,none⟩=some (.int .i64 r)∧wq.cell? ⟨w.heap.size,2,none⟩=some (.int .i64 s):=⟨(blk_cell hqb.out 1).trans rfl,(blk_cell hqb.out 2).trans rfl⟩;go_wp2_with (first|(at_builtin;refine wpList_append_own _ rfl _ _ 32 rfl (w'2.heap.size+1) 3 i0 (.int .i64 0) 1 8 Try.underlying32 hi hz0 hz1 hz2 rfl (by decide) _ _ _ rfl (hown.alloc _) ⟨wq.heap.size,0,none⟩ 1 1 [.int .i64 s] rfl rfl (cell_one_new _ _ _) (by simp[Value.oneCell']) (by unfold maxLen;omega) (by omega) (by simp;omega) ?_;intro v' w1 hown' hgrow _))
        go_roundw
        case rel=>exact uses_step s hw2 hqi.out hqb.out hqbl.out (by rw[take_snoc rd pos hlt,pickL_snoc,hcv.out];simp) hlt (hown.alloc _) hown' hgrow
        case measure=>exact uses_measure hqi.out (hown.alloc _) hgrow hit.out hlt
    · have hnx:=fun ty=>Lib.run_next_end_at (P:=Try.prog) wr w'2.heap.size rd pos ty hit.out hlt
      obtain rfl:pos=rd.size:=by omega
      go_wp2
      go_ret
      refine⟨_,rfl,?_,hbl.out⟩
      have:=hownA.out;rw[List.take_of_length_le (by simp)]at this
      exact own_weaken this (by omega)
def readsB (k:Int):ByteArray:=(howR k).f2
theorem reads_ok (k:Int):(readsB k).size≤2∧(∀i (h:i<(readsB k).size),(readsB k)[i]=82∨(readsB k)[i]=83):=by
  refine kinds (P:=fun k=>(readsB k).size≤2∧(∀i (h:i<(readsB k).size),(readsB k)[i]=82∨(readsB k)[i]=83)) (fun k hk=> ?_) (by decide) (by decide) (by decide) (by decide) (by decide) (by decide) (by decide) (by decide) (by decide) (by decide) (by decide) (by decide) (by decide) (by decide) k
  unfold readsB howR;rw[if_neg hk];exact⟨by decide,by decide⟩
theorem reads_eq (k r s:Int):pickL r s (readsB k).data.toList=usesL k r s:=by
  refine kinds (P:=fun k=>pickL r s (readsB k).data.toList=usesL k r s) (fun k hk=> ?_) rfl rfl rfl rfl rfl rfl rfl rfl rfl rfl rfl rfl rfl rfl k
  unfold readsB howR usesL;rw[if_neg hk,if_neg (by omega),if_neg (by omega),if_neg (by omega)];rfl
theorem impl_OpUses.calls (k r s t vk vn:Int) (l:List Int) (w:World) (h:usesV.f k r s t vk vn=some l):
    Calls Try.prog 27 #[.agg #[.int .i64 k,.int .i64 r,.int .i64 s,.int .i64 t,.int .i64 vk,.int .i64 vn]] w fun e w'=> ∃v0_:Value,e= .returned (v0_)∧Kd.R (Kd.int .i64) 3 w' w.heap.size (fun _=>True) v0_ l∧Below w.heap.size w w':=by
  have h:=Option.some.inj h;by_cases ho:opB k r s t vk vn=true
  · rw[if_pos ho]at h
    obtain⟨h1,h2⟩:=reads_ok k;refine(uses_yes k r s t vk vn (howR k) (readsB k) w ⟨rfl⟩ ⟨ho⟩ ⟨rfl⟩ h1 ⟨h2⟩).mono ?_
    rintro e w' ⟨v,rfl,hown,hb⟩
    refine⟨v,rfl,?_,hb⟩
    rw[reads_eq,h]at hown
    have hl:(readsB k).size=l.length:=by rw[←h,←reads_eq k r s];simp[pickL]
    rw[hl]at hown
    exact Kd.R_of_own hown (fun _ _=>trivial)
  · rw[if_neg ho]at h
    subst h;refine(uses_no k r s t vk vn w ⟨by simpa using ho⟩).mono ?_
    rintro e w' ⟨rfl,hb⟩
    exact⟨_,rfl,Kd.R_nil _ _ _ _ _,hb⟩
theorem slot_walk (x:Int) (s:Int) (hs:0≤s) (hs2:s≤3) (B:Nat) (w:World) (hB:w.cell? ⟨B,0,none⟩=some (.int .i64 x)):Calls Try.prog 84 #[.int .i64 s,.pointer (some ⟨B,0,none⟩)] w fun e w'=>e= .returned (.bool (freeB x s))∧w=w':=by
  go_enter Try.func84,Try.ntmps84
  go_wp2
  go_ret
  exact⟨rfl,rfl⟩
def FoundIn (p:Int→Bool) (l:List Int) (i:Int):Prop:=(0≤i∧l.any p=true)∨(i= -1∧l.any p=false)
theorem foundn_yes {p:Int→Bool} {l:List Int} {kk:Nat} (h:kk<l.length) (hp:p (rd l kk)=true):FoundIn p l kk:=by
  refine .inl ⟨by omega,List.any_eq_true.2 ⟨rd l kk,?_,hp⟩⟩
  rw[rdn_at l kk h];exact List.getElem_mem h
theorem foundn_no {p:Int→Bool} {l:List Int} (h: ∀j,j<l.length→p (rd l (j:Nat))=false):FoundIn p l (-1):=by
  refine .inr ⟨rfl,List.any_eq_false.2 fun x hx=> ?_⟩
  obtain⟨j,hj,rfl⟩:=List.mem_iff_getElem.1 hx;have:=h j hj;rw[rdn_at l j hj]at this
  simpa using this
theorem index_fn (p:Int→Bool) (g:Nat) (lb:Array Value) (eg: ∀args w,(callFunc g args).run Try.prog w= .ok (.enter g args) w) (A0:Option Addr) (c0:Nat) (l0:List Int) (w:World)
    (hr0:Kd.C (Kd.int .i64) w A0 l0.length l0)
    (hp: ∀ (W:World) (x:Int),x∈l0→Below w.heap.size w W→Calls Try.prog g (#[.int .i64 x]++lb) W fun e w'=>e= .returned (.bool (p x))∧Below w.heap.size w w'):
    Calls Try.prog 100 #[.slice A0 l0.length c0,.func (.func g) #[] lb] w fun e w'=> ∃i,e= .returned (.int .i64 i)∧FoundIn p l0 i∧Below w.heap.size w w':=by
  have hm:=Kd.C_max hr0;have HR0:=Aside0.mk hr0;clear hr0;go_enter Try.func100,Try.ntmps100
  go_wp2
  go_loopg [5,8] l0.length (fun gg _ s8 wr=> ∃kk:Nat,kk≤l0.length∧l0.length-kk≤gg∧s8= .int .i64 kk∧Aside (Below w.heap.size w wr)∧Aside (∀j,j<kk→p (rd l0 (j:Nat))=false))
  case atStart=>exact⟨0,Nat.zero_le _,by omega,rfl,Below.refl _ w,fun j hj=>absurd hj (Nat.not_lt_zero _)⟩
  case round=>
    obtain⟨kk,hkk,hgg,rfl,BW,A⟩:=hrel;by_cases hlt:kk<l0.length
    · have hltz:(kk:Int)<(l0.length:Int):=by omega
      have h0z:0≤(kk:Int):=by omega
      obtain⟨ad,e,x0⟩:=Kd.at_int HR0.out (kk:Int) h0z hltz;subst e;rw[Int.toNat_natCast]at x0
      replace x0:=(BW.out.cell (World.block_lt_of_cell? w _ x0)).trans x0;have hcall:=hp wr (rd l0 (kk:Int)) (by rw[rdn_at l0 kk hlt];exact List.getElem_mem hlt) BW.out
      clear hp;obtain⟨y,hy0⟩: ∃y,y=rd l0 (kk:Int):=⟨_,rfl⟩;rw[←hy0]at hcall x0
      have hy:=Aside0.mk hy0;clear hy0;cases hq:p y with
      |true=>
        rw[hq]at hcall
        go_wp2_with (go_at_fn g;refine hcall.mono ?_;rintro e w' ⟨rfl,hb'⟩)
        go_ret
        exact⟨_,rfl,foundn_yes hlt (by rw[←hy.out];exact hq),hb'⟩
      |false=>
        rw[hq]at hcall
        go_wp2_with (go_at_fn g;refine hcall.mono ?_;rintro e w' ⟨rfl,hb'⟩)
        go_roundg (l0.length- (kk+1))
        case measure=>omega
        case rel=>
          refine⟨kk+1,by omega,by omega,by go_num,hb',(show Aside _ from fun j hj=> ?_)⟩
          by_cases e:j=kk
          · subst e
            rw[←hy.out];exact hq
          · exact A.out j (by omega)
    · have hltz: ¬(kk:Int)<(l0.length:Int):=by omega
      have:kk=l0.length:=by omega
      subst this;go_wp2
      go_ret
      exact⟨_,rfl,foundn_no A.out,BW.out⟩
theorem contains_fn (p:Int→Bool) (g:Nat) (lb:Array Value) (eg: ∀args w,(callFunc g args).run Try.prog w= .ok (.enter g args) w) (A0:Option Addr) (c0:Nat) (l0:List Int) (w:World)
    (hr0:Kd.C (Kd.int .i64) w A0 l0.length l0)
    (hp: ∀ (W:World) (x:Int),x∈l0→Below w.heap.size w W→Calls Try.prog g (#[.int .i64 x]++lb) W fun e w'=>e= .returned (.bool (p x))∧Below w.heap.size w w'):
    Calls Try.prog 83 #[.slice A0 l0.length c0,.func (.func g) #[] lb] w fun e w'=>e= .returned (.bool (l0.any p))∧Below w.heap.size w w':=by
  have hx:=index_fn p g lb eg A0 c0 l0 w hr0 hp;clear hr0 hp;go_enter Try.func83,Try.ntmps83
  go_wp2_with (go_at_call 100;refine hx.mono ?_;rintro e w' ⟨i,rfl,hi,hb⟩)
  go_ret
  refine⟨?_,hb⟩
  rcases hi with ⟨h0,h1⟩|⟨rfl,h1⟩
  · rw[h1];simp[h0]
  · rw[h1];rfl
def safeV.f (l:List S29):Option Bool:=some (safeB l)
theorem safe_no (A0:Option Addr) (c0:Nat) (l0:List S29) (w:World) (hr0:Kd.C k29 w A0 l0.length l0) (hc0:l0.length≤c0) (h:codeB l0=false):
    Calls Try.prog 46 #[.slice A0 l0.length c0] w fun e w'=>e= .returned (.bool false)∧Below w.heap.size w w':=by
  have hOk:=impl_CodeOk.calls A0 c0 l0 false w hr0 hc0 (by rw[←h];rfl)
  clear hr0 h;go_enter Try.func46,Try.ntmps46
  go_wp2_with (first|(go_at_call 35;refine hOk.mono ?_;rintro e w' ⟨rfl,hb⟩))
  go_ret
  exact⟨rfl,hb⟩
theorem safe_all {l:List S29} (hc:codeB l=true) (h: ∀i,i<l.length→safeAt l i=true):safeB l=true:=by
  unfold safeB;rw[hc,Bool.true_and,List.all_eq_true];intro i hi;exact h i (by simpa using hi)
theorem safe_not {l:List S29} {i:Nat} (hi:i<l.length) (h:safeAt l i=false):safeB l=false:=by
  unfold safeB
  have:(List.range l.length).all (safeAt l)=false:=by
    rw[List.all_eq_false];exact⟨i,by simpa using hi,by rw[h];decide⟩
  rw[this,Bool.and_false]
theorem safe_yes (A0:Option Addr) (c0:Nat) (l0:List S29) (w:World) (hr0:Kd.C k29 w A0 l0.length l0) (hc0:l0.length≤c0) (hc:codeB l0=true):
    Calls Try.prog 46 #[.slice A0 l0.length c0] w fun e w'=>e= .returned (.bool (safeB l0))∧Below w.heap.size w w':=by
  obtain⟨hl1,hl2⟩:=code_len hc;have hOk:=impl_CodeOk.calls A0 c0 l0 true w hr0 hc0 (by rw[←hc];rfl)
  have hFu:=fun (W:World) (hb:Below w.heap.size w W)=>full_walk A0 c0 l0 W (Kd.C_below hr0 hb) hc
  have HC:=Aside0.mk hc;have HR0:=Aside0.mk hr0;have hfl:(fullL l0).length=l0.length:=(full_good (wayW_good hc)).1;have HFL:=Aside0.mk hfl;clear hr0 hc hfl;go_enter Try.func46,Try.ntmps46
  go_wp2_with (first|(go_at_call 35;refine hOk.mono ?_;rintro e w' ⟨rfl,hb⟩;have HB:=Aside0.mk hb;clear hb)|(go_at_call 80;refine(hFu _ HB.out).mono ?_;rintro e w1 ⟨v,rfl,hR,hb1⟩;have hR2:=hR;obtain⟨A,c,rfl⟩:=Kd.R_slice hR2;have HF:=Aside0.mk (Kd.R_reads' hR).2.2;have HB1:=Aside0.mk (below_step HB.out hb1);rw[HFL.out];clear hR hR2 hb1))
  go_loopg [12] l0.length (fun gg s12 wr=> ∃j:Nat,j≤l0.length∧l0.length-j≤gg∧s12= .int .i64 (j:Int)∧Aside (Below w.heap.size w wr)∧Aside (Below w1.heap.size w1 wr)∧Aside (∀i,i<j→safeAt l0 i=true))
  case atStart=>exact⟨0,Nat.zero_le _,Nat.sub_le _ _,rfl,HB1.out,Below.refl _ _,fun i hi=>absurd hi (Nat.not_lt_zero _)⟩
  case round=>
    obtain⟨j,hj,hgg,rfl,BW,B1,A⟩:=hrel;by_cases hlt:j<l0.length
    · have hltz:(j:Int)<(l0.length:Int):=by omega
      have h0z:(0:Int)≤(j:Int):=by omega
      obtain⟨ad,e,x0⟩:=Kd.at_int HF.out (j:Int) h0z (by rw[HFL.out];exact hltz)
      subst e;rw[Int.toNat_natCast]at x0
      replace x0:=(B1.out.cell (World.block_lt_of_cell? w1 _ x0)).trans x0;obtain⟨x,hx⟩: ∃x,x=at_ (fullL l0) (j:Int):=⟨_,rfl⟩;rw[show rd (fullL l0) (j:Int)=x from hx.symm]at x0
      have hx15:x≤15:=by rw[hx];exact(at_good (full_good (wayW_good HC.out)) (j:Int)).2
      by_cases hneg:x<0
      · have HS:Aside0 (safeAt l0 j=true):=⟨by unfold safeAt;rw[←hx,decide_eq_true hneg];rfl⟩
        clear hx;go_wp2
        go_roundg (l0.length- (j+1))
        case measure=>omega
        case rel=>
          refine⟨j+1,by omega,by omega,by go_num,(show Aside _ from ?_),(show Aside _ from ?_),(show Aside _ from fun i hi=> ?_)⟩
          · exact below_alloc BW.out _
          · exact below_alloc B1.out _
          · by_cases e:i=j
            · rw[e];exact HS.out
            · exact A.out i (by omega)
      · have hneg0:decide (x<0)=false:=decide_eq_false hneg
        obtain⟨ad2,e,y0,y1,y2,y3,y4,y5⟩:=at_T29 HR0.out (j:Int) h0z hltz;subst e;rw[Int.toNat_natCast]at y0 y1 y2 y3 y4 y5
        replace y0:=(BW.out.cell (World.block_lt_of_cell? w _ y0)).trans y0;replace y1:=(BW.out.cell (World.block_lt_of_cell? w _ y1)).trans y1;replace y2:=(BW.out.cell (World.block_lt_of_cell? w _ y2)).trans y2;replace y3:=(BW.out.cell (World.block_lt_of_cell? w _ y3)).trans y3;replace y4:=(BW.out.cell (World.block_lt_of_cell? w _ y4)).trans y4;replace y5:=(BW.out.cell (World.block_lt_of_cell? w _ y5)).trans y5
        have hS:safeAt l0 j=((decide (j+1<l0.length)||endsB (rd_T29 l0 j))&& !((usesL (rd_T29 l0 j).f0 (rd_T29 l0 j).f1 (rd_T29 l0 j).f2).any (freeB x))):=by
          unfold safeAt;rw[←hx,decide_eq_false hneg,Bool.false_or]
        have hus:=uses_slots HC.out hlt;have hop:=(code_op HC.out hlt).1;rw[←rd29_get hlt]at hop
        obtain⟨y,hy⟩: ∃y,y=rd_T29 l0 (j:Int):=⟨_,rfl⟩;rw[←hy]at y0 y1 y2 y3 y4 y5 hS hus hop
        have hUs:=fun W:World=>impl_OpUses.calls y.f0 y.f1 y.f2 y.f3 y.f4.f0 y.f4.f1 (usesL y.f0 y.f1 y.f2) W (by unfold usesV.f;rw[if_pos (opB_true.2 hop)])
        obtain⟨U,hU⟩: ∃U,U=usesL y.f0 y.f1 y.f2:=⟨_,rfl⟩;rw[←hU]at hUs hS hus
        have hCn:=fun (W:World) (A:Option Addr) (c:Nat) (hC:Kd.C (Kd.int .i64) W A U.length U) (hB:W.cell? ⟨wr.heap.size,0,none⟩=some (.int .i64 x))=>contains_fn (freeB x) 84 #[.pointer (some ⟨wr.heap.size,0,none⟩)] (fun _ _=>by kernel_rfl) A c U W hC (fun W2 s hs hb=>(slot_walk x s (hus s hs).1 (hus s hs).2 wr.heap.size W2 ((hb.cell (World.block_lt_of_cell? W _ hB)).trans hB)).mono (fun e w' h=>⟨h.1,by rw[←h.2];exact hb⟩))
        have HS:=Aside0.mk hS;clear hx hy hU hus hS hneg hop;obtain⟨kk,hkk0⟩: ∃kk,kk=y.f0:=⟨_,rfl⟩;rw[←hkk0]at y0 hUs
        have hkk:=Aside0.mk hkk0;clear hkk0;have hbl:=below_alloc (Below.refl wr.heap.size wr) (.cells #[.int .i64 x] 3);have tr: ∀ (a:Addr) (u:Value),wr.cell? a=some u→(wr.alloc (.cells #[.int .i64 x] 3)).cell? a=some u:=fun a u h=>(hbl.cell (World.block_lt_of_cell? wr _ h)).trans h
        have p0:=tr _ _ y0;have p1:=tr _ _ y1;have p2:=tr _ _ y2;have p3:=tr _ _ y3;have p4:=tr _ _ y4;have p5:=tr _ _ y5;have n0:=blk_new wr (.cells #[.int .i64 x] 3);have N0:=Aside0.mk n0;have HBL:=Aside0.mk hbl;have hsz:(wr.alloc (.cells #[.int .i64 x] 3)).heap.size=wr.heap.size+1:=by simp
        have HSZ:=Aside0.mk hsz;clear y0 y1 y2 y3 y4 y5 n0 hbl tr hsz;go_upto_region 7 with (fail)
        obtain⟨w2,hw2⟩: ∃w2,w2=wr.alloc (.cells #[.int .i64 x] 3):=⟨_,rfl⟩;rw[←hw2]at p0 p1 p2 p3 p4 p5 N0 HBL HSZ⊢
        clear hw2 x0;have B2:=Aside0.mk (below_step BW.out HBL.out);have B12:=Aside0.mk (below_step B1.out HBL.out);obtain⟨bx,hbx⟩: ∃b,b=wr.heap.size:=⟨_,rfl⟩;rw[←hbx]at hCn N0⊢
        clear hbx HBL HSZ;by_cases hnx:j+1<l0.length
        · have e1:((j:Int)==(l0.length:Int)-1)=false:=by simp;omega
          cases hany:U.any (freeB x)with
          |true=>
            rw[hany]at hCn
            have HSF:Aside0 (safeB l0=false):=⟨safe_not hlt (by rw[HS.out,hany];simp)⟩
            clear hany;go_wp2_with (first|(go_at_call 27;refine(hUs _).mono ?_;rintro e w3 ⟨v2,rfl,hR,hb⟩;obtain⟨A2,c2,rfl⟩:=Kd.R_slice hR;have HC2:=Aside0.mk (Kd.R_reads' hR).2.2;have HB3:=Aside0.mk (below_step (below_alloc (Below.refl w2.heap.size w2) _) hb);clear hR hb)|(go_at_call 83;refine(hCn _ _ _ HC2.out ?hc).mono ?_;(case hc=>exact(blk_cell (blk_below N0.out HB3.out) 0).trans rfl);rintro e w4 ⟨rfl,hb⟩;have HB4:=Aside0.mk (below_step HB3.out hb);clear hb))
            go_ret
            exact⟨by rw[HSF.out];rfl,below_step B2.out HB4.out⟩
          |false=>
            rw[hany]at hCn
            have HST:Aside0 (safeAt l0 j=true):=⟨by rw[HS.out,hany,decide_eq_true hnx];rfl⟩
            clear hany;go_wp2_with (first|(go_at_call 27;refine(hUs _).mono ?_;rintro e w3 ⟨v2,rfl,hR,hb⟩;obtain⟨A2,c2,rfl⟩:=Kd.R_slice hR;have HC2:=Aside0.mk (Kd.R_reads' hR).2.2;have HB3:=Aside0.mk (below_step (below_alloc (Below.refl w2.heap.size w2) _) hb);clear hR hb)|(go_at_call 83;refine(hCn _ _ _ HC2.out ?hc).mono ?_;(case hc=>exact(blk_cell (blk_below N0.out HB3.out) 0).trans rfl);rintro e w4 ⟨rfl,hb⟩;have HB4:=Aside0.mk (below_step HB3.out hb);clear hb))
            go_roundg (l0.length- (j+1))
            case measure=>omega
            case rel=>
              refine⟨j+1,by omega,by omega,by go_num,(show Aside _ from ?_),(show Aside _ from ?_),(show Aside _ from fun i hi=> ?_)⟩
              · exact below_step B2.out HB4.out
              · exact below_step B12.out HB4.out
              · by_cases e:i=j
                · rw[e];exact HST.out
                · exact A.out i (by omega)
        · have e1:((j:Int)==(l0.length:Int)-1)=true:=by simp;omega
          have hdn:=decide_eq_false hnx;by_cases h9:kk=9
          · have e9:(kk !=9)=false:=by simp[h9]
            have hen:endsB y=true:=by unfold endsB;rw[←hkk.out];exact decide_eq_true (.inl h9)
            have HEN:=Aside0.mk hen;have HDN:=Aside0.mk hdn;clear h9 hen hdn;cases hany:U.any (freeB x)with
            |true=>
              rw[hany]at hCn
              have HSF:Aside0 (safeB l0=false):=⟨safe_not hlt (by rw[HS.out,hany];simp)⟩
              clear hany;go_wp2_with (first|(go_at_call 27;refine(hUs _).mono ?_;rintro e w3 ⟨v2,rfl,hR,hb⟩;obtain⟨A2,c2,rfl⟩:=Kd.R_slice hR;have HC2:=Aside0.mk (Kd.R_reads' hR).2.2;have HB3:=Aside0.mk (below_step (below_alloc (Below.refl w2.heap.size w2) _) hb);clear hR hb)|(go_at_call 83;refine(hCn _ _ _ HC2.out ?hc).mono ?_;(case hc=>exact(blk_cell (blk_below N0.out HB3.out) 0).trans rfl);rintro e w4 ⟨rfl,hb⟩;have HB4:=Aside0.mk (below_step HB3.out hb);clear hb))
              go_ret
              exact⟨by rw[HSF.out];rfl,below_step B2.out HB4.out⟩
            |false=>
              rw[hany]at hCn
              have HST:Aside0 (safeAt l0 j=true):=⟨by rw[HS.out,hany,HDN.out,HEN.out];rfl⟩
              clear hany;go_wp2_with (first|(go_at_call 27;refine(hUs _).mono ?_;rintro e w3 ⟨v2,rfl,hR,hb⟩;obtain⟨A2,c2,rfl⟩:=Kd.R_slice hR;have HC2:=Aside0.mk (Kd.R_reads' hR).2.2;have HB3:=Aside0.mk (below_step (below_alloc (Below.refl w2.heap.size w2) _) hb);clear hR hb)|(go_at_call 83;refine(hCn _ _ _ HC2.out ?hc).mono ?_;(case hc=>exact(blk_cell (blk_below N0.out HB3.out) 0).trans rfl);rintro e w4 ⟨rfl,hb⟩;have HB4:=Aside0.mk (below_step HB3.out hb);clear hb))
              go_roundg (l0.length- (j+1))
              case measure=>omega
              case rel=>
                refine⟨j+1,by omega,by omega,by go_num,(show Aside _ from ?_),(show Aside _ from ?_),(show Aside _ from fun i hi=> ?_)⟩
                · exact below_step B2.out HB4.out
                · exact below_step B12.out HB4.out
                · by_cases e:i=j
                  · rw[e];exact HST.out
                  · exact A.out i (by omega)
          · have e9:(kk !=9)=true:=by simp[h9]
            by_cases h14:kk=14
            · have e14:(kk !=14)=false:=by simp[h14]
              have hen:endsB y=true:=by unfold endsB;rw[←hkk.out];exact decide_eq_true (.inr h14)
              have HEN:=Aside0.mk hen;have HDN:=Aside0.mk hdn;clear h9 h14 hen hdn;cases hany:U.any (freeB x)with
              |true=>
                rw[hany]at hCn
                have HSF:Aside0 (safeB l0=false):=⟨safe_not hlt (by rw[HS.out,hany];simp)⟩
                clear hany;go_wp2_with (first|(go_at_call 27;refine(hUs _).mono ?_;rintro e w3 ⟨v2,rfl,hR,hb⟩;obtain⟨A2,c2,rfl⟩:=Kd.R_slice hR;have HC2:=Aside0.mk (Kd.R_reads' hR).2.2;have HB3:=Aside0.mk (below_step (below_alloc (Below.refl w2.heap.size w2) _) hb);clear hR hb)|(go_at_call 83;refine(hCn _ _ _ HC2.out ?hc).mono ?_;(case hc=>exact(blk_cell (blk_below N0.out HB3.out) 0).trans rfl);rintro e w4 ⟨rfl,hb⟩;have HB4:=Aside0.mk (below_step HB3.out hb);clear hb))
                go_ret
                exact⟨by rw[HSF.out];rfl,below_step B2.out HB4.out⟩
              |false=>
                rw[hany]at hCn
                have HST:Aside0 (safeAt l0 j=true):=⟨by rw[HS.out,hany,HDN.out,HEN.out];rfl⟩
                clear hany;go_wp2_with (first|(go_at_call 27;refine(hUs _).mono ?_;rintro e w3 ⟨v2,rfl,hR,hb⟩;obtain⟨A2,c2,rfl⟩:=Kd.R_slice hR;have HC2:=Aside0.mk (Kd.R_reads' hR).2.2;have HB3:=Aside0.mk (below_step (below_alloc (Below.refl w2.heap.size w2) _) hb);clear hR hb)|(go_at_call 83;refine(hCn _ _ _ HC2.out ?hc).mono ?_;(case hc=>exact(blk_cell (blk_below N0.out HB3.out) 0).trans rfl);rintro e w4 ⟨rfl,hb⟩;have HB4:=Aside0.mk (below_step HB3.out hb);clear hb))
                go_roundg (l0.length- (j+1))
                case measure=>omega
                case rel=>
                  refine⟨j+1,by omega,by omega,by go_num,(show Aside _ from ?_),(show Aside _ from ?_),(show Aside _ from fun i hi=> ?_)⟩
                  · exact below_step B2.out HB4.out
                  · exact below_step B12.out HB4.out
                  · by_cases e:i=j
                    · rw[e];exact HST.out
                    · exact A.out i (by omega)
            · have e14:(kk !=14)=true:=by simp[h14]
              have hen:endsB y=false:=by unfold endsB;rw[←hkk.out];exact decide_eq_false (by omega)
              have HSF:Aside0 (safeB l0=false):=⟨safe_not hlt (by rw[HS.out,hdn,hen];simp)⟩
              clear h9 h14 hen hdn;go_wp2
              go_ret
              exact⟨by rw[HSF.out];rfl,below_step B2.out (below_alloc (Below.refl _ _) _)⟩
    · have hltz: ¬(j:Int)<(l0.length:Int):=by omega
      obtain rfl:j=l0.length:=by omega
      go_wp2
      go_ret
      exact⟨by rw[safe_all HC.out A.out];rfl,BW.out⟩
theorem impl_CodeSafe.calls (A0:Option Addr) (c0:Nat) (l0:List (S29)) (r:Bool) (w:World) (hr0:Kd.C k29 w A0 l0.length l0) (hc0:l0.length≤c0) (h:safeV.f l0=some r):
    Calls Try.prog 46 #[.slice A0 l0.length c0] w fun e w'=>e= .returned (.bool r)∧Below w.heap.size w w':=by
  obtain rfl:=Option.some.inj h;cases hc:codeB l0 with
  |true=>exact safe_yes A0 c0 l0 w hr0 hc0 hc
  |false=>
    have e:safeB l0=false:=by unfold safeB;rw[hc];rfl
    rw[e];exact safe_no A0 c0 l0 w hr0 hc0 hc
theorem spec_CodeSafe_as.calls (A0:Option Addr) (c0:Nat) (l0:List (S29)) (r:Bool) (w:World) (hr0:Kd.C k29 w A0 l0.length l0) (hc0:l0.length≤c0) (h:safeV.f l0=some r):
    Calls Try.prog 45 #[.slice A0 l0.length c0] w fun e w'=>e= .returned (.bool r)∧Below w.heap.size w w':=by
  obtain⟨k,hk⟩:=(scodesafe_ev l0 (Kd.C_max hr0)).rounds;exact spec_CodeSafe.calls k A0 c0 l0 r w hr0 hc0 (hk.trans h)
theorem bit_ev {x s:Int} (hx:0≤x) (hx2:x≤15) (hs:0≤s) (hs2:s≤3):Ev (fun k=>laws_lvBit.f k x s) (!freeB x s):=by
  have:fours (fun x=>fours fun s=>decide (s≤3→laws_lvBit.f 6 x s=some (!freeB x s)))=true:=by decide+kernel
  exact Ev.of (fun k=>laws_lvBit.mono x s k) (of_decide_eq_true (fours_all (fours_all this hx hx2) hs (by omega)) hs2)
theorem full_at {l:List S29} (hc:codeB l=true) (i:Int): -1≤at_ (fullL l) i∧at_ (fullL l) i≤15:=at_good (full_good (wayW_good hc)) i
end Go.Proofs.Ytmklpbmlgjkbiaa.PS
end
section
namespace Go.Proofs.Ytmklpbmlgjkbiaa.PJF
open Go.RowKit Go.Proofs.YtmklpbmlgjkbiaaW.PrintWords Go.Proofs.YtmklpbmlgjkbiaaW.PrintLast Go.Proofs.YtmklpbmlgjkbiaaW.PrintMore Go.Proofs.Ytmklpbmlgjkbiaa.PS
attribute [local go_sem] max2_int min2_int max_two min_two max_three min_three max_four min_four   -- for this text's walks alone
mutual
def laws_FnSafe.l0:Nat→List (S29)→Bool→Bool→List Int→Int→Option (Bool)
 |0,_,_,_,_,_=>none
 |k+1,x3,x4,x5,x6,x7=>if x7<(x3.length:Int)then(if 0≤x7 then(if x7<(x6.length:Int)then(if(rd x6 x7)<0 then(laws_FnSafe.l0 k x3 x4 x5 x6 (wrap64 (x7+1)))else((usesV.f ((rd_T29 x3 x7).f0) ((rd_T29 x3 x7).f1) ((rd_T29 x3 x7).f2) ((rd_T29 x3 x7).f3) ((rd_T29 x3 x7).f4.f0) ((rd_T29 x3 x7).f4.f1)).bind fun t111=>(laws_FnSafe.l1 k x3 x4 x5 x6 x7 t111 0)))else(none))else(none))else(some (x4==x5))
def laws_FnSafe.l1:Nat→List (S29)→Bool→Bool→List Int→Int→List Int→Int→Option (Bool)
 |0,_,_,_,_,_,_,_=>none
 |k+1,x3,x4,x5,x6,x7,x8,x9=>if x9<(x8.length:Int)then(if x5=true then(if 0≤x7 then(if x7<(x6.length:Int)then(if 0≤x9 then((laws_lvBit.f k (rd x6 x7) (rd x8 x9)).bind fun t118=>(laws_FnSafe.l1 k x3 x4 t118 x6 x7 x8 (wrap64 (x9+1))))else(none))else(none))else(none))else(laws_FnSafe.l1 k x3 x4 false x6 x7 x8 (wrap64 (x9+1))))else(if x5=true then(if(wrap64 (x7+1))<(x3.length:Int)then(laws_FnSafe.l0 k x3 x4 true x6 (wrap64 (x7+1)))else(if 0≤x7 then(if x7<(x3.length:Int)then(if((rd_T29 x3 x7).f0)=9 then(laws_FnSafe.l0 k x3 x4 true x6 (wrap64 (x7+1)))else(laws_FnSafe.l0 k x3 x4 (((rd_T29 x3 x7).f0)==14) x6 (wrap64 (x7+1))))else(none))else(none)))else(laws_FnSafe.l0 k x3 x4 false x6 (wrap64 (x7+1))))
end
def laws_FnSafe.f (k:Nat) (l0:List Int):Option (Bool):=if(l0.length:Int)>1048576 then(some true)else((spec_DrawCodeSafe.f k l0).bind fun t101=>((safeV.f t101).bind fun t104=>((codeV.f t101).bind fun t105=>(if t105=true then((codeFullV.f t101).bind fun t106=>(laws_FnSafe.l0 k t101 t104 true t106 0))else(some true)))))
theorem laws_FnSafe.calls (k:Nat) (A0:Option Addr) (c0:Nat) (l0:List Int) (r:Bool) (w:World) (hr0:Kd.C (Kd.int .u8) w A0 l0.length l0) (hc0:l0.length≤c0) (h:laws_FnSafe.f k l0=some r):
  Calls Try.prog 18 #[.slice A0 l0.length c0] w fun e w'=>e= .returned (.bool r)∧Below w.heap.size w w':=by
 have hu29:=Try.underlying29;have HR0:=Aside0.mk hr0;have HC0:=Aside0.mk hc0;clear hr0 hc0;have HB:=Aside0.mk (Below.refl w.heap.size w);have H:(if(l0.length:Int)>1048576 then(some true)else((spec_DrawCodeSafe.f k l0).bind fun t101=>((safeV.f t101).bind fun t104=>((codeV.f t101).bind fun t105=>(if t105=true then((codeFullV.f t101).bind fun t106=>(laws_FnSafe.l0 k t101 t104 true t106 0))else(some true))))))=some r:=h
 clear h;by_cases c2:(l0.length:Int)>1048576
 ·rw[if_pos c2]at H
  have c2b0:decide (1048576<(l0.length:Int))=true:=decide_eq_true c2;have c2b1:decide (1048576<l0.length)=true:=decide_eq_true (by omega)
  clear c2;obtain rfl:=Option.some.inj H;go_enter Try.func18,Try.ntmps18
  go_wp2
  repeat(go_quiet (fail);try go_wp2)
  go_ret
  exact⟨by first|rfl|(simp[errW_none,errW_some]<;>rfl)|(simp[*,errW_none,errW_some]<;>rfl),by exact bU HB.out⟩
 ·rw[if_neg c2]at H
  have c2b0:decide (1048576<(l0.length:Int))=false:=decide_eq_false c2;have c2b1:decide (1048576<l0.length)=false:=decide_eq_false (by omega)
  clear c2;replace H:=Option.bind_eq_some_iff.mp H;obtain⟨t101,A30,H⟩:=H;replace H:((safeV.f t101).bind fun t104=>((codeV.f t101).bind fun t105=>(if t105=true then((codeFullV.f t101).bind fun t106=>(laws_FnSafe.l0 k t101 t104 true t106 0))else(some true))))=some r:=H
  have A3:=Aside0.mk A30;clear A30;replace H:=Option.bind_eq_some_iff.mp H;obtain⟨t104,A40,H⟩:=H;replace H:((codeV.f t101).bind fun t105=>(if t105=true then((codeFullV.f t101).bind fun t106=>(laws_FnSafe.l0 k t101 t104 true t106 0))else(some true)))=some r:=H
  have A4:=Aside0.mk A40;clear A40;have z5:(t104==t104)=true:=by simp
  have z6:(t104 !=t104)=false:=by simp
  replace H:=Option.bind_eq_some_iff.mp H;obtain⟨t105,A70,H⟩:=H;replace H:(if t105=true then((codeFullV.f t101).bind fun t106=>(laws_FnSafe.l0 k t101 t104 true t106 0))else(some true))=some r:=H
  have A7:=Aside0.mk A70;clear A70;by_cases c8:t105=true
  ·subst c8
   have H1:((codeFullV.f t101).bind fun t106=>(laws_FnSafe.l0 k t101 t104 true t106 0))=some r:=by rw[if_pos rfl]at H;exact H
   clear H;have H:=H1;clear H1;replace H:=Option.bind_eq_some_iff.mp H;obtain⟨t106,A90,H⟩:=H;replace H:(laws_FnSafe.l0 k t101 t104 true t106 0)=some r:=H;have A9:=Aside0.mk A90;clear A90;have H':=Aside0.mk H;clear H;go_enter Try.func18,Try.ntmps18
   go_wp2_with (first|(go_at_call 52;(with_reducible refine(spec_DrawCodeSafe.calls k _ _ l0 t101 _ ?side1 ?side2 A3.out).mono ?_);(case side1=>repeat(first|exact HR0.out|(with_reducible refine Kd.C_alloc ?_ _)|(with_reducible refine Kd.C_drewN ?_ _)|(with_reducible refine Kd.C_drew ?_)));(case side2=>exact HC0.out);rintro e w10 ⟨v102,rfl,ho0,hb⟩;have HO103:=Aside0.mk (Kd.R_lower ho0 (below_size (by exact bU HB.out)));replace HB:=Aside0.mk (below_step (by exact bU HB.out) hb);(try clear hb);(try clear hb2);(try clear hk);(try clear hi);(try clear ho0);obtain⟨Ao11,co11,eo11⟩:=Kd.R_slice HO103.out;subst eo11)|(go_at_call 46;(with_reducible refine(impl_CodeSafe.calls _ _ t101 t104 _ ?side1 ?side2 A4.out).mono ?_);(case side1=>repeat(first|exact(Kd.R_reads' HO103.out).2.2|(with_reducible refine Kd.C_alloc ?_ _)|(with_reducible refine Kd.C_drewN ?_ _)|(with_reducible refine Kd.C_drew ?_)));(case side2=>exact(Kd.R_reads' HO103.out).2.1);rintro e w12 ⟨rfl,hb⟩;replace HO103:=Aside0.mk (Kd.R_below (by exact rU HO103.out) hb);replace HB:=Aside0.mk (below_step (by exact bU HB.out) hb);(try clear hb);(try clear hb2);(try clear hk);(try clear hi))|(go_at_call 45;(with_reducible refine(spec_CodeSafe_as.calls _ _ t101 t104 _ ?side1 ?side2 A4.out).mono ?_);(case side1=>repeat(first|exact(Kd.R_reads' HO103.out).2.2|(with_reducible refine Kd.C_alloc ?_ _)|(with_reducible refine Kd.C_drewN ?_ _)|(with_reducible refine Kd.C_drew ?_)));(case side2=>exact(Kd.R_reads' HO103.out).2.1);rintro e w13 ⟨rfl,hb⟩;replace HO103:=Aside0.mk (Kd.R_below (by exact rU HO103.out) hb);replace HB:=Aside0.mk (below_step (by exact bU HB.out) hb);(try clear hb);(try clear hb2);(try clear hk);(try clear hi))|(go_at_call 33;(with_reducible refine(spec_CodeOk_as.calls _ _ t101 true _ ?side1 ?side2 A7.out).mono ?_);(case side1=>repeat(first|exact(Kd.R_reads' HO103.out).2.2|(with_reducible refine Kd.C_alloc ?_ _)|(with_reducible refine Kd.C_drewN ?_ _)|(with_reducible refine Kd.C_drew ?_)));(case side2=>exact(Kd.R_reads' HO103.out).2.1);rintro e w14 ⟨rfl,hb⟩;replace HO103:=Aside0.mk (Kd.R_below (by exact rU HO103.out) hb);replace HB:=Aside0.mk (below_step (by exact bU HB.out) hb);(try clear hb);(try clear hb2);(try clear hk);(try clear hi))|(go_at_call 44;(with_reducible refine(impl_CodeFull_as.calls _ _ t101 t106 _ ?side1 ?side2 A9.out).mono ?_);(case side1=>repeat(first|exact(Kd.R_reads' HO103.out).2.2|(with_reducible refine Kd.C_alloc ?_ _)|(with_reducible refine Kd.C_drewN ?_ _)|(with_reducible refine Kd.C_drew ?_)));(case side2=>exact(Kd.R_reads' HO103.out).2.1);rintro e w15 ⟨v107,rfl,ho0,hb⟩;replace HO103:=Aside0.mk (Kd.R_below (by exact rU HO103.out) hb);have HO108:=Aside0.mk (Kd.R_lower ho0 (below_size (by exact bU HB.out)));replace HB:=Aside0.mk (below_step (by exact bU HB.out) hb);(try clear hb);(try clear hb2);(try clear hk);(try clear hi);(try clear ho0)))
   repeat(go_quiet (first|(go_at_call 52;(with_reducible refine(spec_DrawCodeSafe.calls k _ _ l0 t101 _ ?side1 ?side2 A3.out).mono ?_);(case side1=>repeat(first|exact HR0.out|(with_reducible refine Kd.C_alloc ?_ _)|(with_reducible refine Kd.C_drewN ?_ _)|(with_reducible refine Kd.C_drew ?_)));(case side2=>exact HC0.out);rintro e w10 ⟨v102,rfl,ho0,hb⟩;have HO103:=Aside0.mk (Kd.R_lower ho0 (below_size (by exact bU HB.out)));replace HB:=Aside0.mk (below_step (by exact bU HB.out) hb);(try clear hb);(try clear hb2);(try clear hk);(try clear hi);(try clear ho0);obtain⟨Ao11,co11,eo11⟩:=Kd.R_slice HO103.out;subst eo11)|(go_at_call 46;(with_reducible refine(impl_CodeSafe.calls _ _ t101 t104 _ ?side1 ?side2 A4.out).mono ?_);(case side1=>repeat(first|exact(Kd.R_reads' HO103.out).2.2|(with_reducible refine Kd.C_alloc ?_ _)|(with_reducible refine Kd.C_drewN ?_ _)|(with_reducible refine Kd.C_drew ?_)));(case side2=>exact(Kd.R_reads' HO103.out).2.1);rintro e w12 ⟨rfl,hb⟩;replace HO103:=Aside0.mk (Kd.R_below (by exact rU HO103.out) hb);replace HB:=Aside0.mk (below_step (by exact bU HB.out) hb);(try clear hb);(try clear hb2);(try clear hk);(try clear hi))|(go_at_call 45;(with_reducible refine(spec_CodeSafe_as.calls _ _ t101 t104 _ ?side1 ?side2 A4.out).mono ?_);(case side1=>repeat(first|exact(Kd.R_reads' HO103.out).2.2|(with_reducible refine Kd.C_alloc ?_ _)|(with_reducible refine Kd.C_drewN ?_ _)|(with_reducible refine Kd.C_drew ?_)));(case side2=>exact(Kd.R_reads' HO103.out).2.1);rintro e w13 ⟨rfl,hb⟩;replace HO103:=Aside0.mk (Kd.R_below (by exact rU HO103.out) hb);replace HB:=Aside0.mk (below_step (by exact bU HB.out) hb);(try clear hb);(try clear hb2);(try clear hk);(try clear hi))|(go_at_call 33;(with_reducible refine(spec_CodeOk_as.calls _ _ t101 true _ ?side1 ?side2 A7.out).mono ?_);(case side1=>repeat(first|exact(Kd.R_reads' HO103.out).2.2|(with_reducible refine Kd.C_alloc ?_ _)|(with_reducible refine Kd.C_drewN ?_ _)|(with_reducible refine Kd.C_drew ?_)));(case side2=>exact(Kd.R_reads' HO103.out).2.1);rintro e w14 ⟨rfl,hb⟩;replace HO103:=Aside0.mk (Kd.R_below (by exact rU HO103.out) hb);replace HB:=Aside0.mk (below_step (by exact bU HB.out) hb);(try clear hb);(try clear hb2);(try clear hk);(try clear hi))|(go_at_call 44;(with_reducible refine(impl_CodeFull_as.calls _ _ t101 t106 _ ?side1 ?side2 A9.out).mono ?_);(case side1=>repeat(first|exact(Kd.R_reads' HO103.out).2.2|(with_reducible refine Kd.C_alloc ?_ _)|(with_reducible refine Kd.C_drewN ?_ _)|(with_reducible refine Kd.C_drew ?_)));(case side2=>exact(Kd.R_reads' HO103.out).2.1);rintro e w15 ⟨v107,rfl,ho0,hb⟩;replace HO103:=Aside0.mk (Kd.R_below (by exact rU HO103.out) hb);have HO108:=Aside0.mk (Kd.R_lower ho0 (below_size (by exact bU HB.out)));replace HB:=Aside0.mk (below_step (by exact bU HB.out) hb);(try clear hb);(try clear hb2);(try clear hk);(try clear hi);(try clear ho0)));try go_wp2_with (first|(go_at_call 52;(with_reducible refine(spec_DrawCodeSafe.calls k _ _ l0 t101 _ ?side1 ?side2 A3.out).mono ?_);(case side1=>repeat(first|exact HR0.out|(with_reducible refine Kd.C_alloc ?_ _)|(with_reducible refine Kd.C_drewN ?_ _)|(with_reducible refine Kd.C_drew ?_)));(case side2=>exact HC0.out);rintro e w10 ⟨v102,rfl,ho0,hb⟩;have HO103:=Aside0.mk (Kd.R_lower ho0 (below_size (by exact bU HB.out)));replace HB:=Aside0.mk (below_step (by exact bU HB.out) hb);(try clear hb);(try clear hb2);(try clear hk);(try clear hi);(try clear ho0);obtain⟨Ao11,co11,eo11⟩:=Kd.R_slice HO103.out;subst eo11)|(go_at_call 46;(with_reducible refine(impl_CodeSafe.calls _ _ t101 t104 _ ?side1 ?side2 A4.out).mono ?_);(case side1=>repeat(first|exact(Kd.R_reads' HO103.out).2.2|(with_reducible refine Kd.C_alloc ?_ _)|(with_reducible refine Kd.C_drewN ?_ _)|(with_reducible refine Kd.C_drew ?_)));(case side2=>exact(Kd.R_reads' HO103.out).2.1);rintro e w12 ⟨rfl,hb⟩;replace HO103:=Aside0.mk (Kd.R_below (by exact rU HO103.out) hb);replace HB:=Aside0.mk (below_step (by exact bU HB.out) hb);(try clear hb);(try clear hb2);(try clear hk);(try clear hi))|(go_at_call 45;(with_reducible refine(spec_CodeSafe_as.calls _ _ t101 t104 _ ?side1 ?side2 A4.out).mono ?_);(case side1=>repeat(first|exact(Kd.R_reads' HO103.out).2.2|(with_reducible refine Kd.C_alloc ?_ _)|(with_reducible refine Kd.C_drewN ?_ _)|(with_reducible refine Kd.C_drew ?_)));(case side2=>exact(Kd.R_reads' HO103.out).2.1);rintro e w13 ⟨rfl,hb⟩;replace HO103:=Aside0.mk (Kd.R_below (by exact rU HO103.out) hb);replace HB:=Aside0.mk (below_step (by exact bU HB.out) hb);(try clear hb);(try clear hb2);(try clear hk);(try clear hi))|(go_at_call 33;(with_reducible refine(spec_CodeOk_as.calls _ _ t101 true _ ?side1 ?side2 A7.out).mono ?_);(case side1=>repeat(first|exact(Kd.R_reads' HO103.out).2.2|(with_reducible refine Kd.C_alloc ?_ _)|(with_reducible refine Kd.C_drewN ?_ _)|(with_reducible refine Kd.C_drew ?_)));(case side2=>exact(Kd.R_reads' HO103.out).2.1);rintro e w14 ⟨rfl,hb⟩;replace HO103:=Aside0.mk (Kd.R_below (by exact rU HO103.out) hb);replace HB:=Aside0.mk (below_step (by exact bU HB.out) hb);(try clear hb);(try clear hb2);(try clear hk);(try clear hi))|(go_at_call 44;(with_reducible refine(impl_CodeFull_as.calls _ _ t101 t106 _ ?side1 ?side2 A9.out).mono ?_);(case side1=>repeat(first|exact(Kd.R_reads' HO103.out).2.2|(with_reducible refine Kd.C_alloc ?_ _)|(with_reducible refine Kd.C_drewN ?_ _)|(with_reducible refine Kd.C_drew ?_)));(case side2=>exact(Kd.R_reads' HO103.out).2.1);rintro e w15 ⟨v107,rfl,ho0,hb⟩;replace HO103:=Aside0.mk (Kd.R_below (by exact rU HO103.out) hb);have HO108:=Aside0.mk (Kd.R_lower ho0 (below_size (by exact bU HB.out)));replace HB:=Aside0.mk (below_step (by exact bU HB.out) hb);(try clear hb);(try clear hb2);(try clear hk);(try clear hi);(try clear ho0))))
   go_loopg [5,7] k (fun kq v5 v7 w'=> ∃ (x5_1:Bool) (x7_1:Int),v5= .bool x5_1∧v7= .int .i64 x7_1∧Aside0 (laws_FnSafe.l0 kq t101 t104 x5_1 t106 x7_1=some r)∧Aside0 (kq≤k)∧Aside0 (Kd.R k29 29 w' w.heap.size (fun _=>True) (.slice Ao11 t101.length co11) t101)∧Aside0 (Kd.R (Kd.int .i64) 3 w' w.heap.size (fun _=>True) v107 t106)∧Aside0 (Below w.heap.size w w'))
   case atStart=>exact⟨(true),(0),(by first|rfl|(simp;done)|(simp[*];done)),(by first|rfl|(simp;done)|(simp[*];done)),H',⟨Nat.le_refl _⟩,⟨by exact rU HO103.out⟩,⟨by exact rU HO108.out⟩,⟨by exact bU HB.out⟩⟩
   case round=>
    clear H';(try clear c1);(try clear c2);(try clear c2b0);(try clear c2b1);(try clear p2);(try clear c8)
    obtain⟨x5_1,x7_1,rfl,rfl,HA,HK1,HO_3,HO_6,HB⟩:=hrel;cases gk with
    |zero=>exact absurd HA.out (by simp[laws_FnSafe.l0])
    |succ k1=>
     have H:=HA.out;clear HA;simp only[laws_FnSafe.l0]at H
     by_cases c16:x7_1<(t101.length:Int)
     ·rw[if_pos c16]at H
      have c16b0:decide (x7_1<(t101.length:Int))=true:=decide_eq_true c16;clear c16;by_cases c17:0≤x7_1
      ·rw[if_pos c17]at H
       have c17b0:decide (0≤x7_1)=true:=decide_eq_true c17;clear c17;by_cases c18:x7_1<(t106.length:Int)
       ·rw[if_pos c18]at H
        have c18b0:decide (x7_1<(t106.length:Int))=true:=decide_eq_true c18;clear c18;by_cases c19:(rd t106 x7_1)<0
        ·rw[if_pos c19]at H
         have c19b0:decide ((rd t106 x7_1)<0)=true:=decide_eq_true c19;clear c19;have H':=Aside0.mk H;clear H;obtain⟨Ao20,co20,eo20⟩:=Kd.R_slice HO_6.out;subst eo20;have p109:0≤(x7_1:Int):=of_decide_eq_true (by assumption)
         have q109:x7_1<(t106.length:Int):=of_decide_eq_true (by assumption)
         obtain⟨ad109,e109,hx109_0⟩:=Kd.at_int (Kd.R_reads' HO_6.out).2.2 x7_1 p109 q109;cases e109
         replace p109:=eq_true p109;replace q109:=eq_true q109;go_wp2
         repeat(go_quiet (fail);try go_wp2)
         go_roundg k1
         case measure=>have:=HK1.out;omega
         case rel=>exact⟨(x5_1),(wrap64 (x7_1+1)),(by first|rfl|(simp;done)|(simp[*];done)),(by first|rfl|(simp;done)|(simp[*];done)),H',⟨by have:=HK1.out;omega⟩,⟨by exact rU HO_3.out⟩,⟨by exact rU HO_6.out⟩,⟨by exact bU HB.out⟩⟩
        ·rw[if_neg c19]at H
         have c19b0:decide ((rd t106 x7_1)<0)=false:=decide_eq_false c19;clear c19;replace H:=Option.bind_eq_some_iff.mp H;obtain⟨t111,A210,H⟩:=H;replace H:(laws_FnSafe.l1 k1 t101 t104 x5_1 t106 x7_1 t111 0)=some r:=H;have A21:=Aside0.mk A210;clear A210;have H':=Aside0.mk H;clear H;obtain⟨Ao22,co22,eo22⟩:=Kd.R_slice HO_6.out;subst eo22;have p109:0≤(x7_1:Int):=of_decide_eq_true (by assumption)
         have q109:x7_1<(t106.length:Int):=of_decide_eq_true (by assumption)
         obtain⟨ad109,e109,hx109_0⟩:=Kd.at_int (Kd.R_reads' HO_6.out).2.2 x7_1 p109 q109;cases e109
         replace p109:=eq_true p109;replace q109:=eq_true q109;have p110:0≤(x7_1:Int):=of_decide_eq_true (by assumption)
         have q110:x7_1<(t101.length:Int):=of_decide_eq_true (by assumption)
         obtain⟨ad110,e110,hx110_0,hx110_1,hx110_2,hx110_3,hx110_4,hx110_5⟩:=at_T29 (Kd.R_reads' HO_3.out).2.2 x7_1 p110 q110;cases e110
         replace p110:=eq_true p110;replace q110:=eq_true q110;go_wp2_with (first|(go_at_call 27;(with_reducible refine(impl_OpUses.calls ((rd_T29 t101 x7_1).f0) ((rd_T29 t101 x7_1).f1) ((rd_T29 t101 x7_1).f2) ((rd_T29 t101 x7_1).f3) ((rd_T29 t101 x7_1).f4.f0) ((rd_T29 t101 x7_1).f4.f1) t111 _ A21.out).mono ?_);rintro e w23 ⟨v112,rfl,ho0,hb⟩;have n0_:=Aside0.mk (Kd.R_below (by exact rU HO_3.out) hb);have n1_:=Aside0.mk (Kd.R_elder' (by exact rU HO_6.out) (Kd.R_base ho0) hb);have n2_:=Aside0.mk (Kd.R_lower (Kd.R_new' ho0 (Kd.R_lt (by exact rU HO_6.out))) (below_size (by exact bU HB.out)));have n3_:=Aside0.mk (below_step (by exact bU HB.out) hb);clear HO_3;clear HO_6;clear HB;have HO_3:=n0_;have HO_6:=n1_;have HO113:=n2_;have HB:=n3_;clear n0_ n1_ n2_ n3_;(try clear hb);(try clear hb2);(try clear hk);(try clear hi);(try clear ho0)))
         repeat(go_quiet (first|(go_at_call 27;(with_reducible refine(impl_OpUses.calls ((rd_T29 t101 x7_1).f0) ((rd_T29 t101 x7_1).f1) ((rd_T29 t101 x7_1).f2) ((rd_T29 t101 x7_1).f3) ((rd_T29 t101 x7_1).f4.f0) ((rd_T29 t101 x7_1).f4.f1) t111 _ A21.out).mono ?_);rintro e w23 ⟨v112,rfl,ho0,hb⟩;have n0_:=Aside0.mk (Kd.R_below (by exact rU HO_3.out) hb);have n1_:=Aside0.mk (Kd.R_elder' (by exact rU HO_6.out) (Kd.R_base ho0) hb);have n2_:=Aside0.mk (Kd.R_lower (Kd.R_new' ho0 (Kd.R_lt (by exact rU HO_6.out))) (below_size (by exact bU HB.out)));have n3_:=Aside0.mk (below_step (by exact bU HB.out) hb);clear HO_3;clear HO_6;clear HB;have HO_3:=n0_;have HO_6:=n1_;have HO113:=n2_;have HB:=n3_;clear n0_ n1_ n2_ n3_;(try clear hb);(try clear hb2);(try clear hk);(try clear hi);(try clear ho0)));try go_wp2_with (first|(go_at_call 27;(with_reducible refine(impl_OpUses.calls ((rd_T29 t101 x7_1).f0) ((rd_T29 t101 x7_1).f1) ((rd_T29 t101 x7_1).f2) ((rd_T29 t101 x7_1).f3) ((rd_T29 t101 x7_1).f4.f0) ((rd_T29 t101 x7_1).f4.f1) t111 _ A21.out).mono ?_);rintro e w23 ⟨v112,rfl,ho0,hb⟩;have n0_:=Aside0.mk (Kd.R_below (by exact rU HO_3.out) hb);have n1_:=Aside0.mk (Kd.R_elder' (by exact rU HO_6.out) (Kd.R_base ho0) hb);have n2_:=Aside0.mk (Kd.R_lower (Kd.R_new' ho0 (Kd.R_lt (by exact rU HO_6.out))) (below_size (by exact bU HB.out)));have n3_:=Aside0.mk (below_step (by exact bU HB.out) hb);clear HO_3;clear HO_6;clear HB;have HO_3:=n0_;have HO_6:=n1_;have HO113:=n2_;have HB:=n3_;clear n0_ n1_ n2_ n3_;(try clear hb);(try clear hb2);(try clear hk);(try clear hi);(try clear ho0))))
         go_loopg [5,9] k1 (fun kq v5 v9 w'=> ∃ (x5_2:Bool) (x9_2:Int),v5= .bool x5_2∧v9= .int .i64 x9_2∧Aside0 (laws_FnSafe.l1 kq t101 t104 x5_2 t106 x7_1 t111 x9_2=some r)∧Aside0 (kq≤k1)∧Aside0 (Kd.R k29 29 w' w.heap.size (fun _=>True) (.slice (some ad110) t101.length co11) t101)∧Aside0 (Kd.R (Kd.int .i64) 3 w' w.heap.size (fun k_=>some k_≠(v112:Value).ownBlock) (.slice (some ad109) t106.length co22) t106)∧Aside0 (Kd.R (Kd.int .i64) 3 w' w.heap.size (fun k_=>some k_≠((.slice (some ad109) t106.length co22):Value).ownBlock) v112 t111)∧Aside0 (Below w.heap.size w w'))
         case atStart=>exact⟨(x5_1),(0),(by first|rfl|(simp;done)|(simp[*];done)),(by first|rfl|(simp;done)|(simp[*];done)),H',⟨Nat.le_refl _⟩,⟨by exact rU HO_3.out⟩,⟨by(with_reducible repeat(first|apply rA|apply rN|apply rD));exact Kd.R_mono HO_6.out (fun _ hk=>hk.2)⟩,⟨by(with_reducible repeat(first|apply rA|apply rN|apply rD));exact Kd.R_mono HO113.out (fun _ hk=>hk.2)⟩,⟨by exact bU HB.out⟩⟩
         case round=>
          clear H';(try clear c1);(try clear p1);(try clear q1);(try clear hx1);(try clear c2);(try clear c2b0);(try clear c2b1);(try clear p2);(try clear p6);(try clear c8);(try clear p10);(try clear q10);(try clear hx10);(try clear p11);(try clear q11);(try clear hx11);(try clear c16);(try clear c16b0);(try clear c17);(try clear c17b0);(try clear c18);(try clear c18b0);(try clear c19);(try clear c19b0);(try clear hx109_0);(try clear hx110_0);(try clear hx110_1);(try clear hx110_2);(try clear hx110_3);(try clear hx110_4);(try clear hx110_5);(try clear p109);(try clear p110);(try clear p2);(try clear q109);(try clear q110)
          obtain⟨x5_2,x9_2,rfl,rfl,HA,HK2,HO_3,HO_6,HO_8,HB⟩:=hrel;cases gk with
          |zero=>exact absurd HA.out (by simp[laws_FnSafe.l1])
          |succ k2=>
           have H:=HA.out;clear HA;simp only[laws_FnSafe.l1]at H
           by_cases c24:x9_2<(t111.length:Int)
           ·rw[if_pos c24]at H
            have c24b0:decide (x9_2<(t111.length:Int))=true:=decide_eq_true c24;clear c24;by_cases c25:x5_2=true
            ·subst c25
             have H1:(if 0≤x7_1 then(if x7_1<(t106.length:Int)then(if 0≤x9_2 then((laws_lvBit.f k2 (rd t106 x7_1) (rd t111 x9_2)).bind fun t118=>(laws_FnSafe.l1 k2 t101 t104 t118 t106 x7_1 t111 (wrap64 (x9_2+1))))else(none))else(none))else(none))=some r:=by rw[if_pos rfl]at H;exact H
             clear H;have H:=H1;clear H1;by_cases c26:0≤x7_1
             ·rw[if_pos c26]at H
              have c26b0:decide (0≤x7_1)=true:=decide_eq_true c26;clear c26;by_cases c27:x7_1<(t106.length:Int)
              ·rw[if_pos c27]at H
               have c27b0:decide (x7_1<(t106.length:Int))=true:=decide_eq_true c27;clear c27;by_cases c28:0≤x9_2
               ·rw[if_pos c28]at H
                have c28b0:decide (0≤x9_2)=true:=decide_eq_true c28;clear c28;replace H:=Option.bind_eq_some_iff.mp H;obtain⟨t118,A290,H⟩:=H;replace H:(laws_FnSafe.l1 k2 t101 t104 t118 t106 x7_1 t111 (wrap64 (x9_2+1)))=some r:=H;have A29:=Aside0.mk A290;clear A290;have H':=Aside0.mk H;clear H;obtain⟨Ao30,co30,eo30⟩:=Kd.R_slice HO_8.out;subst eo30;have p116:0≤(x7_1:Int):=of_decide_eq_true (by assumption)
                have q116:x7_1<(t106.length:Int):=of_decide_eq_true (by assumption)
                obtain⟨ad116,e116,hx116_0⟩:=Kd.at_int (Kd.R_reads' HO_6.out).2.2 x7_1 p116 q116;obtain rfl:ad109=ad116:=(by injection e116)
                replace p116:=eq_true p116;replace q116:=eq_true q116;have p117:0≤(x9_2:Int):=of_decide_eq_true (by assumption)
                have q117:x9_2<(t111.length:Int):=of_decide_eq_true (by assumption)
                obtain⟨ad117,e117,hx117_0⟩:=Kd.at_int (Kd.R_reads' HO_8.out).2.2 x9_2 p117 q117;cases e117
                replace p117:=eq_true p117;replace q117:=eq_true q117;go_wp2_with (first|(go_at_call 50;(with_reducible refine(laws_lvBit.calls k2 (rd t106 x7_1) (rd t111 x9_2) t118 _ A29.out).mono ?_);rintro e w' ⟨rfl,⟨nd,rfl⟩⟩;(try first|exact⟨rfl,_,World.drewN_drewN _ _ _⟩|exact⟨rfl,_,Eq.trans (World.drewN_drewN _ _ _) (congrArg (World.drewN _) (Nat.add_assoc _ _ _))⟩)))
                repeat(go_quiet (first|(go_at_call 50;(with_reducible refine(laws_lvBit.calls k2 (rd t106 x7_1) (rd t111 x9_2) t118 _ A29.out).mono ?_);rintro e w' ⟨rfl,⟨nd,rfl⟩⟩;(try first|exact⟨rfl,_,World.drewN_drewN _ _ _⟩|exact⟨rfl,_,Eq.trans (World.drewN_drewN _ _ _) (congrArg (World.drewN _) (Nat.add_assoc _ _ _))⟩)));try go_wp2_with (first|(go_at_call 50;(with_reducible refine(laws_lvBit.calls k2 (rd t106 x7_1) (rd t111 x9_2) t118 _ A29.out).mono ?_);rintro e w' ⟨rfl,⟨nd,rfl⟩⟩;(try first|exact⟨rfl,_,World.drewN_drewN _ _ _⟩|exact⟨rfl,_,Eq.trans (World.drewN_drewN _ _ _) (congrArg (World.drewN _) (Nat.add_assoc _ _ _))⟩))))
                go_roundg k2
                case measure=>have:=HK1.out;have:=HK2.out;omega
                case rel=>exact⟨(t118),(wrap64 (x9_2+1)),(by first|rfl|(simp;done)|(simp[*];done)),(by first|rfl|(simp;done)|(simp[*];done)),H',⟨by have:=HK1.out;have:=HK2.out;omega⟩,⟨by exact rU HO_3.out⟩,⟨by exact rU HO_6.out⟩,⟨by exact rU HO_8.out⟩,⟨by exact bU HB.out⟩⟩
               ·rw[if_neg c28]at H
                exact absurd H (by simp)
              ·rw[if_neg c27]at H
               exact absurd H (by simp)
             ·rw[if_neg c26]at H
              exact absurd H (by simp)
            ·replace c25:=Bool.eq_false_iff.mpr c25
             subst c25;have H1:(laws_FnSafe.l1 k2 t101 t104 false t106 x7_1 t111 (wrap64 (x9_2+1)))=some r:=by rw[if_neg (show¬(false=true) by decide)]at H;exact H
             clear H;have H:=H1;clear H1;have H':=Aside0.mk H;clear H;obtain⟨Ao31,co31,eo31⟩:=Kd.R_slice HO_8.out;subst eo31;go_wp2
             repeat(go_quiet (fail);try go_wp2)
             go_roundg k2
             case measure=>have:=HK1.out;have:=HK2.out;omega
             case rel=>exact⟨(false),(wrap64 (x9_2+1)),(by first|rfl|(simp;done)|(simp[*];done)),(by first|rfl|(simp;done)|(simp[*];done)),H',⟨by have:=HK1.out;have:=HK2.out;omega⟩,⟨by exact rU HO_3.out⟩,⟨by exact rU HO_6.out⟩,⟨by exact rU HO_8.out⟩,⟨by exact bU HB.out⟩⟩
           ·rw[if_neg c24]at H
            have c24b0:decide (x9_2<(t111.length:Int))=false:=decide_eq_false c24;clear c24;by_cases c32:x5_2=true
            ·subst c32
             have H1:(if(wrap64 (x7_1+1))<(t101.length:Int)then(laws_FnSafe.l0 k2 t101 t104 true t106 (wrap64 (x7_1+1)))else(if 0≤x7_1 then(if x7_1<(t101.length:Int)then(if((rd_T29 t101 x7_1).f0)=9 then(laws_FnSafe.l0 k2 t101 t104 true t106 (wrap64 (x7_1+1)))else(laws_FnSafe.l0 k2 t101 t104 (((rd_T29 t101 x7_1).f0)==14) t106 (wrap64 (x7_1+1))))else(none))else(none)))=some r:=by rw[if_pos rfl]at H;exact H
             clear H;have H:=H1;clear H1;by_cases c33:(wrap64 (x7_1+1))<(t101.length:Int)
             ·rw[if_pos c33]at H
              have c33b0:decide ((wrap64 (x7_1+1))<(t101.length:Int))=true:=decide_eq_true c33;clear c33;have H':=Aside0.mk H;clear H;obtain⟨Ao34,co34,eo34⟩:=Kd.R_slice HO_8.out;subst eo34;go_wp2
              repeat(go_quiet (fail);try go_wp2)
              go_roundg k2
              case measure=>have:=HK1.out;have:=HK2.out;omega
              case rel=>exact⟨(true),(wrap64 (x7_1+1)),(by first|rfl|(simp;done)|(simp[*];done)),(by first|rfl|(simp;done)|(simp[*];done)),H',⟨by have:=HK1.out;have:=HK2.out;omega⟩,⟨by exact rU HO_3.out⟩,⟨by(with_reducible repeat(first|apply rA|apply rN|apply rD));exact Kd.R_mono HO_6.out (fun _ hk=>trivial)⟩,⟨by exact bU HB.out⟩⟩
             ·rw[if_neg c33]at H
              have c33b0:decide ((wrap64 (x7_1+1))<(t101.length:Int))=false:=decide_eq_false c33;clear c33;by_cases c35:0≤x7_1
              ·rw[if_pos c35]at H
               have c35b0:decide (0≤x7_1)=true:=decide_eq_true c35;clear c35;by_cases c36:x7_1<(t101.length:Int)
               ·rw[if_pos c36]at H
                have c36b0:decide (x7_1<(t101.length:Int))=true:=decide_eq_true c36;clear c36;by_cases c37:((rd_T29 t101 x7_1).f0)=9
                ·rw[if_pos c37]at H
                 have c37b0:(((rd_T29 t101 x7_1).f0)==9)=true:=beq_iff_eq.mpr c37;have c37b1:(((rd_T29 t101 x7_1).f0) !=9)=false:=bne_eq_false_iff_eq.mpr c37;clear c37;have H':=Aside0.mk H;clear H;obtain⟨Ao38,co38,eo38⟩:=Kd.R_slice HO_8.out;subst eo38;have p114:0≤(x7_1:Int):=of_decide_eq_true (by assumption)
                 have q114:x7_1<(t101.length:Int):=of_decide_eq_true (by assumption)
                 obtain⟨ad114,e114,hx114_0,hx114_1,hx114_2,hx114_3,hx114_4,hx114_5⟩:=at_T29 (Kd.R_reads' HO_3.out).2.2 x7_1 p114 q114;obtain rfl:ad110=ad114:=(by injection e114)
                 replace p114:=eq_true p114;replace q114:=eq_true q114;go_wp2
                 repeat(go_quiet (fail);try go_wp2)
                 go_roundg k2
                 case measure=>have:=HK1.out;have:=HK2.out;omega
                 case rel=>exact⟨(true),(wrap64 (x7_1+1)),(by first|rfl|(simp;done)|(simp[*];done)),(by first|rfl|(simp;done)|(simp[*];done)),H',⟨by have:=HK1.out;have:=HK2.out;omega⟩,⟨by exact rU HO_3.out⟩,⟨by(with_reducible repeat(first|apply rA|apply rN|apply rD));exact Kd.R_mono HO_6.out (fun _ hk=>trivial)⟩,⟨by exact bU HB.out⟩⟩
                ·rw[if_neg c37]at H
                 have c37b0:(((rd_T29 t101 x7_1).f0)==9)=false:=beq_eq_false_iff_ne.mpr c37;have c37b1:(((rd_T29 t101 x7_1).f0) !=9)=true:=bne_iff_ne.mpr c37;have H':=Aside0.mk H;clear H;obtain⟨Ao39,co39,eo39⟩:=Kd.R_slice HO_8.out;subst eo39;have p114:0≤(x7_1:Int):=of_decide_eq_true (by assumption)
                 have q114:x7_1<(t101.length:Int):=of_decide_eq_true (by assumption)
                 obtain⟨ad114,e114,hx114_0,hx114_1,hx114_2,hx114_3,hx114_4,hx114_5⟩:=at_T29 (Kd.R_reads' HO_3.out).2.2 x7_1 p114 q114;obtain rfl:ad110=ad114:=(by injection e114)
                 replace p114:=eq_true p114;replace q114:=eq_true q114;have p115:0≤(x7_1:Int):=of_decide_eq_true (by assumption)
                 have q115:x7_1<(t101.length:Int):=of_decide_eq_true (by assumption)
                 obtain⟨ad115,e115,hx115_0,hx115_1,hx115_2,hx115_3,hx115_4,hx115_5⟩:=at_T29 (Kd.R_reads' HO_3.out).2.2 x7_1 p115 q115;obtain rfl:ad110=ad115:=(by injection e115)
                 replace p115:=eq_true p115;replace q115:=eq_true q115;go_wp2
                 repeat(go_quiet (fail);try go_wp2)
                 go_roundg k2
                 case measure=>have:=HK1.out;have:=HK2.out;omega
                 case rel=>exact⟨((((rd_T29 t101 x7_1).f0)==14)),(wrap64 (x7_1+1)),(by first|rfl|(simp;done)|(simp[*];done)),(by first|rfl|(simp;done)|(simp[*];done)),H',⟨by have:=HK1.out;have:=HK2.out;omega⟩,⟨by exact rU HO_3.out⟩,⟨by(with_reducible repeat(first|apply rA|apply rN|apply rD));exact Kd.R_mono HO_6.out (fun _ hk=>trivial)⟩,⟨by exact bU HB.out⟩⟩
               ·rw[if_neg c36]at H
                exact absurd H (by simp)
              ·rw[if_neg c35]at H
               exact absurd H (by simp)
            ·replace c32:=Bool.eq_false_iff.mpr c32
             subst c32;have H1:(laws_FnSafe.l0 k2 t101 t104 false t106 (wrap64 (x7_1+1)))=some r:=by rw[if_neg (show¬(false=true) by decide)]at H;exact H
             clear H;have H:=H1;clear H1;have H':=Aside0.mk H;clear H;obtain⟨Ao40,co40,eo40⟩:=Kd.R_slice HO_8.out;subst eo40;go_wp2
             repeat(go_quiet (fail);try go_wp2)
             go_roundg k2
             case measure=>have:=HK1.out;have:=HK2.out;omega
             case rel=>exact⟨(false),(wrap64 (x7_1+1)),(by first|rfl|(simp;done)|(simp[*];done)),(by first|rfl|(simp;done)|(simp[*];done)),H',⟨by have:=HK1.out;have:=HK2.out;omega⟩,⟨by exact rU HO_3.out⟩,⟨by(with_reducible repeat(first|apply rA|apply rN|apply rD));exact Kd.R_mono HO_6.out (fun _ hk=>trivial)⟩,⟨by exact bU HB.out⟩⟩
       ·rw[if_neg c18]at H
        exact absurd H (by simp)
      ·rw[if_neg c17]at H
       exact absurd H (by simp)
     ·rw[if_neg c16]at H
      have c16b0:decide (x7_1<(t101.length:Int))=false:=decide_eq_false c16;clear c16;obtain rfl:=Option.some.inj H;go_wp2
      repeat(go_quiet (fail);try go_wp2)
      go_ret
      exact⟨by first|rfl|(simp[errW_none,errW_some]<;>rfl)|(simp[*,errW_none,errW_some]<;>rfl),by exact bU HB.out⟩
  ·replace c8:=Bool.eq_false_iff.mpr c8
   subst c8;have H1:(some true)=some r:=by rw[if_neg (show¬(false=true) by decide)]at H;exact H
   clear H;have H:=H1;clear H1;have z41:(t104==t104)=true:=by simp
   have z42:(t104 !=t104)=false:=by simp
   obtain rfl:=Option.some.inj H;go_enter Try.func18,Try.ntmps18
   go_wp2_with (first|(go_at_call 52;(with_reducible refine(spec_DrawCodeSafe.calls k _ _ l0 t101 _ ?side1 ?side2 A3.out).mono ?_);(case side1=>repeat(first|exact HR0.out|(with_reducible refine Kd.C_alloc ?_ _)|(with_reducible refine Kd.C_drewN ?_ _)|(with_reducible refine Kd.C_drew ?_)));(case side2=>exact HC0.out);rintro e w43 ⟨v102,rfl,ho0,hb⟩;have HO103:=Aside0.mk (Kd.R_lower ho0 (below_size (by exact bU HB.out)));replace HB:=Aside0.mk (below_step (by exact bU HB.out) hb);(try clear hb);(try clear hb2);(try clear hk);(try clear hi);(try clear ho0);obtain⟨Ao44,co44,eo44⟩:=Kd.R_slice HO103.out;subst eo44)|(go_at_call 46;(with_reducible refine(impl_CodeSafe.calls _ _ t101 t104 _ ?side1 ?side2 A4.out).mono ?_);(case side1=>repeat(first|exact(Kd.R_reads' HO103.out).2.2|(with_reducible refine Kd.C_alloc ?_ _)|(with_reducible refine Kd.C_drewN ?_ _)|(with_reducible refine Kd.C_drew ?_)));(case side2=>exact(Kd.R_reads' HO103.out).2.1);rintro e w45 ⟨rfl,hb⟩;replace HO103:=Aside0.mk (Kd.R_below (by exact rU HO103.out) hb);replace HB:=Aside0.mk (below_step (by exact bU HB.out) hb);(try clear hb);(try clear hb2);(try clear hk);(try clear hi))|(go_at_call 45;(with_reducible refine(spec_CodeSafe_as.calls _ _ t101 t104 _ ?side1 ?side2 A4.out).mono ?_);(case side1=>repeat(first|exact(Kd.R_reads' HO103.out).2.2|(with_reducible refine Kd.C_alloc ?_ _)|(with_reducible refine Kd.C_drewN ?_ _)|(with_reducible refine Kd.C_drew ?_)));(case side2=>exact(Kd.R_reads' HO103.out).2.1);rintro e w46 ⟨rfl,hb⟩;replace HO103:=Aside0.mk (Kd.R_below (by exact rU HO103.out) hb);replace HB:=Aside0.mk (below_step (by exact bU HB.out) hb);(try clear hb);(try clear hb2);(try clear hk);(try clear hi))|(go_at_call 33;(with_reducible refine(spec_CodeOk_as.calls _ _ t101 false _ ?side1 ?side2 A7.out).mono ?_);(case side1=>repeat(first|exact(Kd.R_reads' HO103.out).2.2|(with_reducible refine Kd.C_alloc ?_ _)|(with_reducible refine Kd.C_drewN ?_ _)|(with_reducible refine Kd.C_drew ?_)));(case side2=>exact(Kd.R_reads' HO103.out).2.1);rintro e w47 ⟨rfl,hb⟩;replace HO103:=Aside0.mk (Kd.R_below (by exact rU HO103.out) hb);replace HB:=Aside0.mk (below_step (by exact bU HB.out) hb);(try clear hb);(try clear hb2);(try clear hk);(try clear hi))|(go_at_call 45;(with_reducible refine(spec_CodeSafe_as.calls _ _ t101 t104 _ ?side1 ?side2 A4.out).mono ?_);(case side1=>repeat(first|exact(Kd.R_reads' HO103.out).2.2|(with_reducible refine Kd.C_alloc ?_ _)|(with_reducible refine Kd.C_drewN ?_ _)|(with_reducible refine Kd.C_drew ?_)));(case side2=>exact(Kd.R_reads' HO103.out).2.1);rintro e w48 ⟨rfl,hb⟩;replace HO103:=Aside0.mk (Kd.R_below (by exact rU HO103.out) hb);replace HB:=Aside0.mk (below_step (by exact bU HB.out) hb);(try clear hb);(try clear hb2);(try clear hk);(try clear hi)))
   repeat(go_quiet (first|(go_at_call 52;(with_reducible refine(spec_DrawCodeSafe.calls k _ _ l0 t101 _ ?side1 ?side2 A3.out).mono ?_);(case side1=>repeat(first|exact HR0.out|(with_reducible refine Kd.C_alloc ?_ _)|(with_reducible refine Kd.C_drewN ?_ _)|(with_reducible refine Kd.C_drew ?_)));(case side2=>exact HC0.out);rintro e w43 ⟨v102,rfl,ho0,hb⟩;have HO103:=Aside0.mk (Kd.R_lower ho0 (below_size (by exact bU HB.out)));replace HB:=Aside0.mk (below_step (by exact bU HB.out) hb);(try clear hb);(try clear hb2);(try clear hk);(try clear hi);(try clear ho0);obtain⟨Ao44,co44,eo44⟩:=Kd.R_slice HO103.out;subst eo44)|(go_at_call 46;(with_reducible refine(impl_CodeSafe.calls _ _ t101 t104 _ ?side1 ?side2 A4.out).mono ?_);(case side1=>repeat(first|exact(Kd.R_reads' HO103.out).2.2|(with_reducible refine Kd.C_alloc ?_ _)|(with_reducible refine Kd.C_drewN ?_ _)|(with_reducible refine Kd.C_drew ?_)));(case side2=>exact(Kd.R_reads' HO103.out).2.1);rintro e w45 ⟨rfl,hb⟩;replace HO103:=Aside0.mk (Kd.R_below (by exact rU HO103.out) hb);replace HB:=Aside0.mk (below_step (by exact bU HB.out) hb);(try clear hb);(try clear hb2);(try clear hk);(try clear hi))|(go_at_call 45;(with_reducible refine(spec_CodeSafe_as.calls _ _ t101 t104 _ ?side1 ?side2 A4.out).mono ?_);(case side1=>repeat(first|exact(Kd.R_reads' HO103.out).2.2|(with_reducible refine Kd.C_alloc ?_ _)|(with_reducible refine Kd.C_drewN ?_ _)|(with_reducible refine Kd.C_drew ?_)));(case side2=>exact(Kd.R_reads' HO103.out).2.1);rintro e w46 ⟨rfl,hb⟩;replace HO103:=Aside0.mk (Kd.R_below (by exact rU HO103.out) hb);replace HB:=Aside0.mk (below_step (by exact bU HB.out) hb);(try clear hb);(try clear hb2);(try clear hk);(try clear hi))|(go_at_call 33;(with_reducible refine(spec_CodeOk_as.calls _ _ t101 false _ ?side1 ?side2 A7.out).mono ?_);(case side1=>repeat(first|exact(Kd.R_reads' HO103.out).2.2|(with_reducible refine Kd.C_alloc ?_ _)|(with_reducible refine Kd.C_drewN ?_ _)|(with_reducible refine Kd.C_drew ?_)));(case side2=>exact(Kd.R_reads' HO103.out).2.1);rintro e w47 ⟨rfl,hb⟩;replace HO103:=Aside0.mk (Kd.R_below (by exact rU HO103.out) hb);replace HB:=Aside0.mk (below_step (by exact bU HB.out) hb);(try clear hb);(try clear hb2);(try clear hk);(try clear hi))|(go_at_call 45;(with_reducible refine(spec_CodeSafe_as.calls _ _ t101 t104 _ ?side1 ?side2 A4.out).mono ?_);(case side1=>repeat(first|exact(Kd.R_reads' HO103.out).2.2|(with_reducible refine Kd.C_alloc ?_ _)|(with_reducible refine Kd.C_drewN ?_ _)|(with_reducible refine Kd.C_drew ?_)));(case side2=>exact(Kd.R_reads' HO103.out).2.1);rintro e w48 ⟨rfl,hb⟩;replace HO103:=Aside0.mk (Kd.R_below (by exact rU HO103.out) hb);replace HB:=Aside0.mk (below_step (by exact bU HB.out) hb);(try clear hb);(try clear hb2);(try clear hk);(try clear hi)));try go_wp2_with (first|(go_at_call 52;(with_reducible refine(spec_DrawCodeSafe.calls k _ _ l0 t101 _ ?side1 ?side2 A3.out).mono ?_);(case side1=>repeat(first|exact HR0.out|(with_reducible refine Kd.C_alloc ?_ _)|(with_reducible refine Kd.C_drewN ?_ _)|(with_reducible refine Kd.C_drew ?_)));(case side2=>exact HC0.out);rintro e w43 ⟨v102,rfl,ho0,hb⟩;have HO103:=Aside0.mk (Kd.R_lower ho0 (below_size (by exact bU HB.out)));replace HB:=Aside0.mk (below_step (by exact bU HB.out) hb);(try clear hb);(try clear hb2);(try clear hk);(try clear hi);(try clear ho0);obtain⟨Ao44,co44,eo44⟩:=Kd.R_slice HO103.out;subst eo44)|(go_at_call 46;(with_reducible refine(impl_CodeSafe.calls _ _ t101 t104 _ ?side1 ?side2 A4.out).mono ?_);(case side1=>repeat(first|exact(Kd.R_reads' HO103.out).2.2|(with_reducible refine Kd.C_alloc ?_ _)|(with_reducible refine Kd.C_drewN ?_ _)|(with_reducible refine Kd.C_drew ?_)));(case side2=>exact(Kd.R_reads' HO103.out).2.1);rintro e w45 ⟨rfl,hb⟩;replace HO103:=Aside0.mk (Kd.R_below (by exact rU HO103.out) hb);replace HB:=Aside0.mk (below_step (by exact bU HB.out) hb);(try clear hb);(try clear hb2);(try clear hk);(try clear hi))|(go_at_call 45;(with_reducible refine(spec_CodeSafe_as.calls _ _ t101 t104 _ ?side1 ?side2 A4.out).mono ?_);(case side1=>repeat(first|exact(Kd.R_reads' HO103.out).2.2|(with_reducible refine Kd.C_alloc ?_ _)|(with_reducible refine Kd.C_drewN ?_ _)|(with_reducible refine Kd.C_drew ?_)));(case side2=>exact(Kd.R_reads' HO103.out).2.1);rintro e w46 ⟨rfl,hb⟩;replace HO103:=Aside0.mk (Kd.R_below (by exact rU HO103.out) hb);replace HB:=Aside0.mk (below_step (by exact bU HB.out) hb);(try clear hb);(try clear hb2);(try clear hk);(try clear hi))|(go_at_call 33;(with_reducible refine(spec_CodeOk_as.calls _ _ t101 false _ ?side1 ?side2 A7.out).mono ?_);(case side1=>repeat(first|exact(Kd.R_reads' HO103.out).2.2|(with_reducible refine Kd.C_alloc ?_ _)|(with_reducible refine Kd.C_drewN ?_ _)|(with_reducible refine Kd.C_drew ?_)));(case side2=>exact(Kd.R_reads' HO103.out).2.1);rintro e w47 ⟨rfl,hb⟩;replace HO103:=Aside0.mk (Kd.R_below (by exact rU HO103.out) hb);replace HB:=Aside0.mk (below_step (by exact bU HB.out) hb);(try clear hb);(try clear hb2);(try clear hk);(try clear hi))|(go_at_call 45;(with_reducible refine(spec_CodeSafe_as.calls _ _ t101 t104 _ ?side1 ?side2 A4.out).mono ?_);(case side1=>repeat(first|exact(Kd.R_reads' HO103.out).2.2|(with_reducible refine Kd.C_alloc ?_ _)|(with_reducible refine Kd.C_drewN ?_ _)|(with_reducible refine Kd.C_drew ?_)));(case side2=>exact(Kd.R_reads' HO103.out).2.1);rintro e w48 ⟨rfl,hb⟩;replace HO103:=Aside0.mk (Kd.R_below (by exact rU HO103.out) hb);replace HB:=Aside0.mk (below_step (by exact bU HB.out) hb);(try clear hb);(try clear hb2);(try clear hk);(try clear hi))))
   go_ret
   exact⟨by first|rfl|(simp[errW_none,errW_some]<;>rfl)|(simp[*,errW_none,errW_some]<;>rfl),by exact bU HB.out⟩
def laws_FnSafe.Pure:Prop:= ∀ (l0:List Int),l0.length≤maxLen→l0.length*1≤140737488351232→(∀x∈l0,(Lit.int .u8 x).wf=true)→ ∃k,laws_FnSafe.f k l0=some true
theorem laws_FnSafe.walk (P:laws_FnSafe.Pure) (a0:Option Addr) (len0 cap0:Nat) (z0:List Int) (w:World) (w0:(a0=none∧len0=0∧cap0=0∧z0=[])∨ ∃x,a0=some x∧len0≤cap0∧cap0≤maxLen∧z0.length=cap0∧(∀i,i<z0.length→w.cell? (x.add i)=some (.int .u8 (z0.getD i 0)))∧ ∀n∈z0,(Lit.int .u8 n).wf=true) (y0:len0*1≤140737488351232):
  Calls Try.prog 18 #[.slice a0 len0 cap0] w fun e w'=>e= .returned (.bool true)∧Below w.heap.size w w':=by
 obtain⟨l0,rfl,hr0,hm0,hw0,hc0⟩:=ReadsInt.ofRowC w0;obtain⟨k,h⟩:=P l0 hm0 y0 hw0;refine(laws_FnSafe.calls k _ _ l0 true w (Kd.C_of_reads (d:=(0:Int)) (h1:=fun _=>rfl) hr0) hc0 h).mono ?_
 rintro e w' ⟨rfl,hd⟩
 exact⟨rfl,hd⟩
end Go.Proofs.Ytmklpbmlgjkbiaa.PJF
end
section
namespace Go.Proofs.Ytmklpbmlgjkbiaa.Pure
open Go.RowKit Go.Proofs.Ytmklpbmlgjkbiaa.PJF Go.Proofs.Ytmklpbmlgjkbiaa.PS Go.Proofs.YtmklpbmlgjkbiaaW.PrintWords Go.Proofs.YtmklpbmlgjkbiaaW.PrintLast
theorem sf_uses {l:List S29} {sb:Bool} {i:Nat} (hi:i<l.length) (hl:l.length≤16) (hfl:(fullL l).length=l.length) {u:Int} (hu:u=at_ (fullL l) (i:Int)) (u0:0≤u) (u1:u≤15) {U:List Int} (hU: ∀s∈U,0≤s∧s≤3) (hU2:U.length≤2) {r:Bool} (d:Nat):
    ∀ (m:Nat) (cur:Bool),U.length-m=d→m≤U.length→Ev (fun k=>laws_FnSafe.l0 k l sb (cur&& !(U.drop m).any (freeB u)&&(decide (i+1<l.length)||endsB (rd_T29 l (i:Int)))) (fullL l) ((i+1:Nat):Int)) r→
      Ev (fun k=>laws_FnSafe.l1 k l sb cur (fullL l) (i:Int) U (m:Int)) r:=by
  have hw:=Aside0.mk (show wrap64 ((i:Int)+1)=((i+1:Nat):Int) by rw[w64 (by omega) (by omega)];rfl)
  have e:rd (fullL l) (i:Int)=u:=hu.symm;induction d with
  |zero=>
    intro m cur hm hm2 h;rw[List.drop_of_length_le (by omega)]at h
    simp only[List.any_nil,Bool.not_false,Bool.and_true]at h
    refine Ev.step (fun k=> ?_) h
    simp only[laws_FnSafe.l1,hw.out]
    rw[if_neg (by omega)]
    cases cur with
    |false=>simp
    |true=>
      simp only[if_true,Bool.true_and]
      by_cases hn:i+1<l.length
      · rw[if_pos (by omega),decide_eq_true hn];rfl
      · rw[if_neg (by omega),if_pos (by omega),if_pos (by omega),decide_eq_false hn,Bool.false_or]
        unfold endsB;by_cases h9:(rd_T29 l (i:Int)).f0=9
        · rw[if_pos h9,decide_eq_true (.inl h9)]
        · rw[if_neg h9]
          by_cases h14:(rd_T29 l (i:Int)).f0=14
          · rw[decide_eq_true (.inr h14)]
            have:((rd_T29 l (i:Int)).f0==14)=true:=by simp[h14]
            rw[this]
          · rw[decide_eq_false (by omega)]
            have:((rd_T29 l (i:Int)).f0==14)=false:=by simp[h14]
            rw[this]
  |succ d ih=>
    intro m cur hm hm2 h;have d0:U.drop m=U[m]'(by omega)::U.drop (m+1):=List.drop_eq_getElem_cons (by omega)
    have hs:=hU U[m] (List.getElem_mem (by omega))
    have hwm:=Aside0.mk (show wrap64 ((m:Int)+1)=((m+1:Nat):Int) by rw[w64 (by omega) (by omega)];rfl)
    rw[d0,List.any_cons]at h
    cases cur with
    |false=>
      refine Ev.step (fun k=> ?_) (ih (m+1) false (by omega) (by omega) (by simpa using h))
      simp only[laws_FnSafe.l1,hwm.out,Bool.false_eq_true,if_false]
      rw[if_pos (by omega)]
    |true=>
      refine Ev.step (f:=fun k=>(laws_lvBit.f k u (U[m]'(by omega))).bind fun t118=>laws_FnSafe.l1 k l sb t118 (fullL l) (i:Int) U ((m+1:Nat):Int)) (fun k=> ?_) ?_
      · simp only[laws_FnSafe.l1,hwm.out,if_true]
        rw[if_pos (by omega),if_pos (by omega),if_pos (by omega),if_pos (by omega),rd_at U m (by omega),e]
      · refine Ev.bind (bit_ev u0 u1 hs.1 hs.2) (ih (m+1) _ (by omega) (by omega) ?_)
        refine Ev.congr (fun k=> ?_) h
        congr 2
        cases freeB u (U[m]'(by omega))<;>simp
theorem sf_loop {l:List S29} (hc:codeB l=true) (sb:Bool) (d:Nat): ∀i,l.length-i=d→i≤l.length→Ev (fun k=>laws_FnSafe.l0 k l sb ((List.range i).all (safeAt l)) (fullL l) (i:Int)) (sb==(List.range l.length).all (safeAt l)):=by
  have hl:=full_len hc;obtain⟨h1,h2⟩:=code_len hc;induction d with
  |zero=>
    intro i hd hi;obtain rfl:i=l.length:=by omega
    refine Ev.step (f:=fun k=>some (sb==(List.range l.length).all (safeAt l))) (fun k=> ?_) (Ev.now _)
    simp only[laws_FnSafe.l0]
    rw[if_neg (by omega)]
  |succ d ih=>
    intro i hd hi;have ih1:=ih (i+1) (by omega) (by omega)
    have hw:=Aside0.mk (show wrap64 ((i:Int)+1)=((i+1:Nat):Int) by rw[w64 (by omega) (by omega)];rfl)
    have e:rd (fullL l) (i:Int)=at_ (fullL l) i:=rfl;have hs:(List.range (i+1)).all (safeAt l)=((List.range i).all (safeAt l)&&safeAt l i):=by rw[List.range_succ,List.all_append];simp
    rw[hs]at ih1
    by_cases h0:at_ (fullL l) (i:Int)<0
    · have hsa:safeAt l i=true:=by unfold safeAt;rw[decide_eq_true h0];rfl
      rw[hsa,Bool.and_true]at ih1
      refine Ev.step (fun k=> ?_) ih1
      simp only[laws_FnSafe.l0]
      rw[if_pos (by omega),if_pos (by omega),if_pos (by omega),e,if_pos h0,hw.out]
    · have hus:=uses_slots hc (i:=i) (by omega)
      have hop:=(code_op hc (i:=i) (by omega)).1
      rw[←rd29_get (by omega)]at hop
      have hu:=full_at hc (i:Int);refine Ev.step (f:=fun k=>laws_FnSafe.l1 k l sb ((List.range i).all (safeAt l)) (fullL l) (i:Int) (usesL (rd_T29 l (i:Int)).f0 (rd_T29 l (i:Int)).f1 (rd_T29 l (i:Int)).f2) 0) (fun k=> ?_) ?_
      · simp only[laws_FnSafe.l0,usesV.f,if_pos (opB_true.2 hop),Option.bind_some]
        rw[if_pos (by omega),if_pos (by omega),if_pos (by omega),e,if_neg h0]
      · refine sf_uses (by omega) h2 hl rfl (by omega) hu.2 hus (uses_len _ _ _) _ 0 _ rfl (by omega) ?_
        have hsa:safeAt l i=((decide (i+1<l.length)||endsB (rd_T29 l (i:Int)))&& !(usesL (rd_T29 l (i:Int)).f0 (rd_T29 l (i:Int)).f1 (rd_T29 l (i:Int)).f2).any (freeB (at_ (fullL l) (i:Int)))):=by
          unfold safeAt;rw[decide_eq_false h0,Bool.false_or]
        rw[List.drop_zero];have hb: ∀a b c:Bool,(a&& !b&&c)=(a&&(c&& !b)):=by decide
        rw[hb,←hsa];exact ih1
theorem FnSafe:laws_FnSafe.Pure:=by
  intro l0 hm hr hw;refine Ev.rounds ?_
  unfold laws_FnSafe.f;by_cases hl:(l0.length:Int)>1048576
  · simp only[if_pos hl];exact Ev.now _
  simp only[if_neg hl]
  obtain⟨c,hc,hcl⟩:=drawSafe_ev hw;refine Ev.bind hc ?_
  unfold safeV.f codeV.f codeFullV.f;simp only[Option.bind_some]
  by_cases hk:codeB c=true
  · simp only[if_pos hk]
    have:=sf_loop hk (safeB c) c.length 0 (by omega) (by omega)
    refine ev_eq this ?_
    unfold safeB;rw[hk,Bool.true_and];simp
  · simp only[if_neg hk];exact Ev.now _
end Go.Proofs.Ytmklpbmlgjkbiaa.Pure
end
