/- What the rows of OS rest on, part 2. -/
import Derived.Test.YtmklpbmlgjkbiaaDoorProg
import Derived.OrdersHeld
import Derived.Laws.BitsLemmas
import Derived.Laws.StructEq
import Derived.Deep.RegionWith
import Derived.Lib.Bytealg
import Derived.Shelf.Strings.Search3
import Derived.WalkSpells
import Derived.Shelf.Strings.Builder1
import Derived.Shelf.Utf8.RuneCount
import Derived.Shelf.Strconv.Atoi
import Derived.Shelf.Strconv.Itoa0
import Derived.Shelf.Strconv.Itoa1
import Derived.Shelf.LaysM
import Derived.Shelf.Strconv.Itoa2
import Derived.Shelf.Strconv.Itoa3
import Derived.Shelf.Strconv.AtoiErrFast
import Derived.Shelf.Strconv.ParseIntEmpty
import Derived.Shelf.Strconv.AtoiFail
import Derived.Shelf.Strconv.Clone
import Derived.Shelf.Strconv.SyntaxError
import Derived.Shelf.LaysC
import Derived.Shelf.Strconv.ToError
import Derived.Shelf.Strconv.Lower
import Derived.Shelf.Strconv.ParseUint10
import Derived.Shelf.Strconv.ParseUint10Empty
import Derived.Shelf.Strconv.ParseUint10Any
import Derived.Shelf.Strconv.ParseInt10
import Derived.Shelf.Strconv.AtoiLong
import Derived.Shelf.Strconv.AtoiInnerAll
import Derived.Shelf.Strconv.RangeError
import Derived.Shelf.Strconv.ToErrorRange
import Derived.Shelf.Strconv.AtoiAll
import Derived.Shelf.Strconv.ErrVarAll
import Derived.Shelf.Strings.Search1
import Derived.Shelf.Strings.Search2
import Derived.Shelf.Strings.Count
import Derived.Shelf.Strings.Shaped
import Derived.Shelf.Strings.Split
import Derived.Shelf.Strings.SplitShaped
import Derived.Shelf.Unicode.Decode
import Derived.Shelf.Strings.RuneCount
import Derived.Shelf.Strings.Explode
import Derived.Shelf.Unicode.DecodeSlow
import Derived.Shelf.Unicode.DecodeAny
import Derived.WalkSmall
import Derived.Lib.AppendIntMem
import Derived.RegionTactic
import Derived.Outline
import Derived.Lib.Split
import Derived.Lib.SplitLaws
import Derived.Lib.CountLaws
import Derived.Lib.AtoiErrMem
import Derived.Lib.OthersKept
import Derived.Maps.OwnSet
import Derived.Maps.Views
import Derived.Test.YtmklpbmlgjkbiaaDoorQOS0
set_option linter.unusedVariables false
set_option linter.unusedSimpArgs false
set_option maxHeartbeats 8000000
set_option maxRecDepth 100000
section
namespace Go.Proofs.YtmklpbmlgjkbiaaDoor.PS
open Go.RowKit Go.Proofs.YtmklpbmlgjkbiaaDoorW.PrintWords Go.Proofs.YtmklpbmlgjkbiaaDoorW.PrintLast Go.Proofs.YtmklpbmlgjkbiaaDoorW.PrintMore
attribute [local go_sem] max2_int min2_int max_two min_two max_three min_three max_four min_four   -- for this text's walks alone
def spec_l6Rd_of.f (k:Nat) (s0_0:List Int) (s0_1:Int) (l1:List ByteArray):Option (ByteArray×Int):=(spec_l6Rd_pick.f k s0_0 s0_1 (l1.length:Int)).bind fun bt165=>(if 0≤bt165.1 then(if bt165.1<(l1.length:Int)then(some (rdOf ByteArray.empty l1 bt165.1,bt165.2))else(none))else(none))
theorem spec_l6Rd_of.calls (k:Nat) (g:Nat) (s0_0:List Int) (s0_1:Int) (A1:Option Addr) (c1:Nat) (l1:List ByteArray) (r1:ByteArray) (r2:Int) (w0 w:World) (hI:IsS95 w0 w g s0_0 s0_1) (hB:Below w0.heap.size w0 w) (hr1:Kd.C Kd.string w A1 l1.length l1) (hc1:l1.length≤c1) (hf1: ∀ad,A1=some ad→0<l1.length→ad.block≠g) (h:spec_l6Rd_of.f k s0_0 s0_1 l1=some (r1,r2)):
    Calls Tryd.prog 62 #[.pointer (some ⟨g,0,none⟩),.slice A1 l1.length c1] w fun e w'=>e= .returned (.string r1)∧IsS95 w0 w' g s0_0 r2∧Below w0.heap.size w0 w'∧KeepBut w w' g none:=by
  have HR1:=Aside0.mk hr1;have HC1:=Aside0.mk hc1;clear hr1 hc1;have HI0:=Aside0.mk hI;have HK:=Aside0.mk (KeepBut.refl w g none);have HL:=Aside0.mk hB.size;clear hI;have HW0:=Aside0.mk hB.size;have HB:=Aside0.mk hB;clear hB;have H:((spec_l6Rd_pick.f k s0_0 s0_1 (l1.length:Int)).bind fun bt165=>(if 0≤bt165.1 then(if bt165.1<(l1.length:Int)then(some (rdOf ByteArray.empty l1 bt165.1,bt165.2))else(none))else(none)))=some (r1,r2):=h
  clear h;replace H:=Option.bind_eq_some_iff.mp H;obtain⟨⟨t165,t166⟩,A30,H⟩:=H;replace H:(if 0≤t165 then(if t165<(l1.length:Int)then(some (rdOf ByteArray.empty l1 t165,t166))else(none))else(none))=some (r1,r2):=H
  have A3:=Aside0.mk A30;clear A30;by_cases c4:0≤t165
  · rw[if_pos c4]at H
    have c4b0:decide (0≤t165)=true:=decide_eq_true c4;clear c4;by_cases c5:t165<(l1.length:Int)
    · rw[if_pos c5]at H
      have c5b0:decide (t165<(l1.length:Int))=true:=decide_eq_true c5;clear c5;simp only[Option.some.injEq,Prod.mk.injEq]at H
      obtain⟨rfl,rfl⟩:=H;go_enter Tryd.func62,Tryd.ntmps62
      go_wp2_with (first|((with_reducible refine gate_callee (f:=47) rfl ?_);refine goesL_ (some 9) rfl rfl Tryd.func47 (by kernel_rfl) rfl #[.pointer (some ⟨g,0,none⟩),.int .i64 (l1.length:Int)] rfl (by(try simp only[List.map_toArray,List.map_cons,List.map_nil]);first|done|rfl|(simp only[List.length_drop,List.length_take];rfl)) ?_;(with_reducible refine(spec_l6Rd_pick.calls k g s0_0 s0_1 (l1.length:Int) t165 t166 w0 _ ?side1 ?side2 A3.out).mono ?_);(case side1=>repeat(first|(with_reducible first|exact HI0.out|apply IsS95.alloc|apply IsS95.drewN|apply IsS95.drew|apply IsS95.set_1)|exact HI0.out));(case side2=>repeat(first|(with_reducible first|exact HB.out|apply below_alloc|apply pw_below_drewN|apply below_drew1|refine below_set ?_ (IsS95.ge HI0.out))|exact HB.out));rintro e w6 ⟨rfl,hi,hb,hk⟩;refine⟨_,rfl,?_⟩;have n0_:=Aside0.mk (KeepBut.trans (by repeat(first|(with_reducible first|exact HK.out|apply KeepBut.set_|apply keep_drewN|apply keep_drew|apply keep_alloc)|exact HK.out)) hk (.inl rfl));have n1_:=Aside0.mk (hb);have n2_:=Aside0.mk (hi);clear HK;clear HB;clear HI0;have HK:=n0_;have HB:=n1_;have HI0:=n2_;clear n0_ n1_ n2_;(try clear hb);(try clear hb2);(try clear hk);(try clear hi);have p167:0≤(t165:Int):=of_decide_eq_true (by first|(with_reducible assumption)|assumption);have q167:t165<(l1.length:Int):=of_decide_eq_true (by first|(with_reducible assumption)|assumption);obtain⟨ad167,e167,hx167_0⟩:=Kd.at_string HR1.out t165 p167 q167;cases e167;replace hx167_0:=keep_cell HK.out hx167_0 (by first|(rw[add_block];exact hf1 _ rfl (by omega))|exact hf1 _ rfl (by omega)|exact hf1 ad167 rfl (by omega));replace p167:=eq_true p167;replace q167:=eq_true q167))
      go_ret
      exact⟨by first|rfl|(simp[errW_none,errW_some]<;>rfl)|(simp[*,errW_none,errW_some]<;>rfl),by repeat(first|(with_reducible first|exact HI0.out|apply IsS95.alloc|apply IsS95.drewN|apply IsS95.drew|apply IsS95.set_1)|exact HI0.out),by repeat(first|(with_reducible first|exact HB.out|apply below_alloc|apply pw_below_drewN|apply below_drew1|refine below_set ?_ (IsS95.ge HI0.out))|exact HB.out),by repeat(first|(with_reducible first|exact HK.out|apply KeepBut.set_|apply keep_drewN|apply keep_drew|apply keep_alloc)|exact HK.out)⟩
    · rw[if_neg c5]at H
      exact absurd H (by simp)
  · rw[if_neg c4]at H
    exact absurd H (by simp)
end Go.Proofs.YtmklpbmlgjkbiaaDoor.PS
end
section
namespace Go.Proofs.YtmklpbmlgjkbiaaDoor.PS
open Go.RowKit Go.Proofs.YtmklpbmlgjkbiaaDoorW.PrintWords Go.Proofs.YtmklpbmlgjkbiaaDoorW.PrintLast
def Opened (w:World) (e:Ending) (w':World):Prop:= ∃g:Nat,e= .returned (.pointer (some ⟨g,0,none⟩))∧RD w w' g 0
theorem open_w (A0:Option Addr) (c0:Nat) (l0:List Int) (w:World) (hr0:Kd.C (Kd.int .u8) w A0 l0.length l0) (hc0:l0.length≤c0) (hw: ∀x∈l0,(Lit.int .u8 x).wf=true):
    Calls Tryd.prog 46 #[.slice A0 l0.length c0] w (Opened w):=by
  obtain⟨b,hb,hB⟩:=open_ok hw;exact(spec_l6Open.calls A0 c0 l0 b 0 w w (Below.refl _ _) hr0 hc0 hb).mono fun e w' ⟨g,h1,h2,h3,h4⟩=>⟨g,h1,b,0,hB,h2,by omega,by omega,h3⟩
def DrewN (w0 w:World) (g N:Nat) (n:Int) (e:Ending) (w':World):Prop:= ∃x:Int,e= .returned (.int .i64 x)∧0≤x∧x<n∧RD w0 w' g N∧KeepBut w w' g none
theorem pick_w {w0 w:World} {g N:Nat} (h:RD w0 w g N) (hN:N<600000) (n:Int) (hn:1≤n) (hn':n<1000000):
    Calls Tryd.prog 47 #[.pointer (some ⟨g,0,none⟩),.int .i64 n] w (DrewN w0 w g (N+1) n):=by
  obtain⟨b,p,h1,h2,h3,h4,h5⟩:=h;obtain⟨x,hx,x0,x1, -⟩:=pick_ok h1 0 p n h3 (by omega) hn'
  exact(spec_l6Rd_pick.calls 1 g b p n x (p+1) w0 w h2 h5 hx).mono fun e w' ⟨e1,e2,e3,e4⟩=>⟨x,e1,x0,x1 hn,⟨b,p+1,h1,e2,by omega,by omega,e3⟩,e4⟩
def DrewOp (w0 w:World) (g N:Nat) (e:Ending) (w':World):Prop:= ∃x r s t vk vn:Int,e= .returned (.agg #[.int .i64 x,.int .i64 r,.int .i64 s,.int .i64 t,.int .i64 vk,.int .i64 vn])∧DrawnOp x r s t vk vn∧RD w0 w' g N∧KeepBut w w' g none
theorem any_w {w0 w:World} {g N:Nat} (h:RD w0 w g N) (hN:N<500000):Calls Tryd.prog 53 #[.pointer (some ⟨g,0,none⟩)] w (DrewOp w0 w g (N+20)):=by
  obtain⟨b,p,h1,h2,h3,h4,h5⟩:=h;obtain⟨x,r,s,t,vk,vn,p',hx,hd,q0,q1⟩:=any_ok h1 0 p h3 (by omega)
  exact(spec_l71AnyOp.calls 7 g b p _ _ _ _ _ _ p' w0 w h2 h5 hx).mono fun e w' ⟨e1,e2,e3,e4⟩=>⟨x,r,s,t,vk,vn,e1,hd,⟨b,p',h1,e2,by omega,by omega,e3⟩,e4⟩
def DrewStr (w0 w:World) (g N:Nat) (e:Ending) (w':World):Prop:= ∃s:ByteArray,e= .returned (.string s)∧s.size≤10∧RD w0 w' g N∧KeepBut w w' g none
theorem of_w {w0 w:World} {g N:Nat} (h:RD w0 w g N) (hN:N<500000) (A1:Option Addr) (c1:Nat) (l1:List ByteArray) (hr1:Kd.C Kd.string w A1 l1.length l1) (hc1:l1.length≤c1) (hf1: ∀ad,A1=some ad→0<l1.length→ad.block≠g)
    (hl:1≤l1.length) (hl':l1.length<1000) (hs: ∀x∈l1,x.size≤10):Calls Tryd.prog 62 #[.pointer (some ⟨g,0,none⟩),.slice A1 l1.length c1] w (DrewStr w0 w g (N+1)):=by
  obtain⟨b,p,h1,h2,h3,h4,h5⟩:=h;obtain⟨x,hx,x0,x1, -⟩:=pick_ok h1 0 p (l1.length:Int) h3 (by omega) (by omega)
  have x1:=x1 (by omega)
  have:spec_l6Rd_of.f 1 b p l1=some (rdOf ByteArray.empty l1 x,p+1):=by
    unfold spec_l6Rd_of.f;rw[hx];simp only[Option.bind_some];rw[if_pos x0,if_pos x1]
  refine(spec_l6Rd_of.calls 1 g b p A1 c1 l1 _ (p+1) w0 w h2 h5 hr1 hc1 hf1 this).mono fun e w' ⟨e1,e2,e3,e4⟩=>⟨_,e1,hs _ ?_,⟨b,p+1,h1,e2,by omega,by omega,e3⟩,e4⟩
  unfold rdOf;rw[List.getD_eq_getElem?_getD,List.getElem?_eq_getElem (by omega)]
  exact List.getElem_mem _
theorem C_lit (W:World) (l:List ByteArray) (hl:l.length≤1000):Kd.C Kd.string (W.alloc (.cells (l.map Value.string).toArray 9)).drew (some ⟨W.heap.size,0,none⟩) l.length l:=by
  refine Kd.C_of_reads (d:=ByteArray.empty) (h1:=fun _=>rfl) ⟨rfl,by omega,fun _=>⟨_,rfl,fun j hj=> ?_⟩⟩
  have hb:(W.alloc (.cells (l.map Value.string).toArray 9)).drew.heap[W.heap.size]?=some (.cells (l.map Value.string).toArray 9 (0,0)):=blk_new W _;have:=blk_cell hb j;rw[show(⟨W.heap.size,0,none⟩:Addr).add j=⟨W.heap.size,j,none⟩ by(simp[Addr.add];try exact fun h=>h.symm),this]
  simp[List.getD_eq_getElem?_getD,List.getElem?_eq_getElem hj]
theorem of_lit {w0 W:World} {g N:Nat} (h:RD w0 W g N) (hN:N<500000) (l:List ByteArray) (hl:1≤l.length) (hl':l.length<1000) (hs: ∀x∈l,x.size≤10):
    Calls Tryd.prog 62 #[.pointer (some ⟨g,0,none⟩),.slice (some ⟨W.heap.size,0,none⟩) l.length l.length] (W.alloc (.cells (l.map Value.string).toArray 9)).drew (DrewStr w0 (W.alloc (.cells (l.map Value.string).toArray 9)).drew g (N+1)):=
  of_w (h.alloc _).drew hN _ _ l (C_lit W l (by omega)) (Nat.le_refl _) (fun ad e h0=>by cases e;have:=h.lt;show W.heap.size≠g;omega) hl hl' hs
def SomeStr (w:World) (e:Ending) (w':World):Prop:= ∃s:ByteArray,e= .returned (.string s)∧s.size≤1000∧Below w.heap.size w w'
theorem cat2 (a b:ByteArray) (ha:a.size≤1000000) (hb:b.size≤1000000):decide (a.size+b.size≤9223372036854775807)=true∧(9223372036854775807<a.size+b.size)=False∧(a.size+b.size≤9223372036854775807)=True:=
  ⟨decide_eq_true (by omega),eq_false (by omega),eq_true (by omega)⟩
theorem cat3 (a b c:ByteArray) (ha:a.size≤1000000) (hb:b.size≤1000000) (hc:c.size≤1000000):decide (a.size+b.size+c.size≤9223372036854775807)=true∧(9223372036854775807<a.size+b.size+c.size)=False∧(a.size+b.size+c.size≤9223372036854775807)=True:=
  ⟨decide_eq_true (by omega),eq_false (by omega),eq_true (by omega)⟩
theorem drawOpRead_w (A0:Option Addr) (c0:Nat) (l0:List Int) (w:World) (hr0:Kd.C (Kd.int .u8) w A0 l0.length l0) (hc0:l0.length≤c0) (hw: ∀x∈l0,(Lit.int .u8 x).wf=true):
    Calls Tryd.prog 41 #[.slice A0 l0.length c0] w (SomeStr w):=by
  have H0:Aside0 (Calls Tryd.prog 46 #[.slice A0 l0.length c0] w (Opened w)):=⟨open_w A0 c0 l0 w hr0 hc0 hw⟩;clear hr0 hc0 hw;go_enter Tryd.func41,Tryd.ntmps41
  go_upto_region 3 with (first
    |(go_at_call 46;(with_reducible refine H0.out.mono ?_);rintro e w1 ⟨g,rfl,hR⟩;have HR:=Aside0.mk hR;clear hR)
    |(go_at_call 53;(with_reducible refine(any_w HR.out (by omega)).mono ?_);rintro e w2 ⟨a,b,c,d,f,g',rfl, -,hR, -⟩;replace HR:=Aside0.mk hR;clear hR)
    |(go_at_call 22;(with_reducible refine(spec_OpText_any _ _ _ _ _ _ _).mono ?_);rintro e w3 ⟨rfl,hb⟩;replace HR:=Aside0.mk (HR.out.step hb);clear hb))
  have hs:(opText a b c d f g').size≤24:=opText_le;obtain⟨X,hX⟩: ∃X,X=opText a b c d f g':=⟨_,rfl⟩;rw[←hX]at hs⊢
  clear hX;have y1:(0:Int)≤(X.size:Int)+1:=by omega
  go_upto_block 0 with (first
    |(go_at_call 47;(with_reducible refine(pick_w HR.out (by omega) 7 (by omega) (by omega)).mono ?_);rintro e w5 ⟨y,rfl,hy0,hy1,hR, -⟩;replace HR:=Aside0.mk hR;clear hR)
    |(go_at_call 47;(with_reducible refine(pick_w HR.out (by omega) ((X.size:Int)+1) (by omega) (by omega)).mono ?_);rintro e w4 ⟨x,rfl,hx0,hx1,hR, -⟩;replace HR:=Aside0.mk hR;clear hR))
  have hx2:x≤(X.size:Int):=by omega
  clear hx1 y1;by_cases q0:y=0
  · have e0:(y==0)=true:=by simp[q0]
    clear q0 hy0 hy1;go_wp2
    go_ret
    exact⟨_,rfl,by rw[ByteArray.size_extract];omega,HR.out.below⟩
  have e0:(y==0)=false:=by simp[q0]
  by_cases q1:y=1
  · have e1:(y==1)=true:=by simp[q1]
    clear q0 q1 hy0 hy1;obtain⟨P,hP⟩: ∃P,P=X.extract 0 x.toNat:=⟨_,rfl⟩;obtain⟨Q,hQ⟩: ∃Q,Q=X.extract x.toNat X.size:=⟨_,rfl⟩;have hPs:P.size≤24:=by rw[hP,ByteArray.size_extract];omega
    have hQs:Q.size≤24:=by rw[hQ,ByteArray.size_extract];omega
    have r1: ∀W,Sem.run Tryd.prog (Instr.slice 9 (.string X) none (some (.int .i64 x)) none) W= .ok (.string P) W:=fun W=>by
      rw[hP];go_simp
    have r2: ∀W,Sem.run Tryd.prog (Instr.slice 9 (.string X) (some (.int .i64 x)) none none) W= .ok (.string Q) W:=fun W=>by
      rw[hQ];go_simp
    clear hP hQ
    have HO:Aside0 (Calls Tryd.prog 62 #[.pointer (some ⟨g,0,none⟩),.slice (some ⟨w5.heap.size,0,none⟩) 5 5] (w5.alloc (.cells #[.string ⟨#[48]⟩,.string ⟨#[32]⟩,.string ⟨#[49]⟩,.string ⟨#[32,110,49]⟩,.string ⟨#[120]⟩] 9)).drew (DrewStr w (w5.alloc (.cells #[.string ⟨#[48]⟩,.string ⟨#[32]⟩,.string ⟨#[49]⟩,.string ⟨#[32,110,49]⟩,.string ⟨#[120]⟩] 9)).drew g (0+20+1+1+1))):=
      ⟨of_lit HR.out (by omega) [⟨#[48]⟩,⟨#[32]⟩,⟨#[49]⟩,⟨#[32,110,49]⟩,⟨#[120]⟩] (by decide) (by decide) (by decide)⟩
    go_upto_region 8 with (fail)
    go_region_held3 (fun w'=>True) (trivial) ((go_at_call 62;refine(HO.out).mono ?_;rintro e w6 ⟨z,rfl,hz,hR, -⟩;obtain⟨t1,t2,t3⟩:=cat2 P z (by omega) (by omega);obtain⟨t4,t5,t6⟩:=cat3 P z Q (by omega) (by omega) (by omega);have HZ:=Aside0.mk hz;replace HR:=Aside0.mk hR;clear hR hz))
    go_wp2
    go_ret
    refine⟨_,rfl,?_,HR.out.below⟩
    have:=HZ.out;rw[ByteArray.size_append,ByteArray.size_append];omega
  have e1:(y==1)=false:=by simp[q1]
  clear q0 q1 hy0 hy1;go_wp2
  go_ret
  exact⟨_,rfl,by omega,HR.out.below⟩
end Go.Proofs.YtmklpbmlgjkbiaaDoor.PS
end
section
namespace Go.Proofs.YtmklpbmlgjkbiaaDoor.PS
open Go.RowKit Go.Proofs.YtmklpbmlgjkbiaaDoorW.PrintWords Go.Proofs.YtmklpbmlgjkbiaaDoorW.PrintLast
attribute [local go_sem high] eqA35
theorem opStrict (A0:Option Addr) (c0:Nat) (l0:List Int) (w:World) (hr0:Kd.C (Kd.int .u8) w A0 l0.length l0) (hc0:l0.length≤c0) (hw0: ∀x∈l0,(Lit.int .u8 x).wf=true) (hT:Env w):
    Calls Tryd.prog 16 #[.slice A0 l0.length c0] w fun e w'=>e= .returned (.bool true)∧Below w.heap.size w w':=by
  have HE:=Aside0.mk hT;clear hT;have H0:Aside0 (Calls Tryd.prog 41 #[.slice A0 l0.length c0] w (SomeStr w)):=⟨drawOpRead_w A0 c0 l0 w hr0 hc0 hw0⟩;clear hr0 hw0 hc0;by_cases m0:l0.length>1048576
  · have e0:decide ((1048576:Int)<(l0.length:Int))=true:=decide_eq_true (by omega)
    clear m0;go_enter Tryd.func16,Tryd.ntmps16
    go_wp2
    go_ret
    exact⟨rfl,Below.refl _ _⟩
  have e0:decide ((1048576:Int)<(l0.length:Int))=false:=decide_eq_false (by omega)
  clear m0;go_enter Tryd.func16,Tryd.ntmps16
  go_upto_region 4 with (go_at_call 41;(with_reducible refine H0.out.mono ?_);rintro e w1 ⟨s,rfl,hs,hb⟩;have HB:=Aside0.mk hb;clear hb)
  have H1:Aside0 (∀W,Calls Tryd.prog 39 #[.string s] W (SpecAns s W)):=⟨fun W=>spec_OpRead_any s W⟩
  have H2:Aside0 (∀W,Below w.heap.size w W→Calls Tryd.prog 37 #[.string s] W (OpAns s W)):=⟨fun W hW=>impl_OpRead_any s W (HE.out.below hW)⟩
  clear hs
  go_upto_region 6 with (first
    |(go_at_call 39;(with_reducible refine(H1.out _).mono ?_);rintro e w2 ⟨k,r,s',t,a,b,ok,rfl,hR,hb⟩;have HQ:=Aside0.mk hR;clear hR;replace HB:=Aside0.mk (Hold.new (below_step HB.out hb) (.cells #[.int .i64 k,.int .i64 r,.int .i64 s',.int .i64 t,.int .i64 a,.int .i64 b] 35));clear hb)
    |(go_at_call 37;(with_reducible refine(H2.out _ HB.out.below).mono ?_);rintro e w3 ⟨k2,r2,s2,t2,a2,b2,ok2,rfl,hR,hb⟩;obtain⟨rfl,rfl,rfl,rfl,rfl,rfl,rfl⟩:=reads_one HQ.out hR;clear hR;replace HB:=Aside0.mk (Hold2.new (HB.out.step hb) (.cells #[.int .i64 k,.int .i64 r,.int .i64 s',.int .i64 t,.int .i64 a,.int .i64 b] 35));clear hb;obtain⟨c0,c1,c2,c3,c4,c5⟩:=box6 HB.out.blk;obtain⟨d0,d1,d2,d3,d4,d5⟩:=box6 HB.out.blk2))
  cases ok with
  |false=>
    clear HQ;go_wp2
    go_ret
    exact⟨rfl,HB.out.below⟩
  |true=>
    have hq:opB k r s' t a b=true∧opText k r s' t a b=s:=by
      rcases HQ.out with ⟨-,h1,h2⟩|⟨h, -⟩
      · exact⟨h1,h2⟩
      · cases h
    obtain⟨hp,hv⟩:=hq;have HO:Aside0 (∀W,Calls Tryd.prog 38 #[.agg #[.int .i64 k,.int .i64 r,.int .i64 s',.int .i64 t,.int .i64 a,.int .i64 b]] W fun e w'=>e= .returned (.bool true)∧Below W.heap.size W w'):=⟨fun W=>impl_OpOk.calls k r s' t a b true W (by unfold opV.f;rw[hp])⟩
    have HX:Aside0 (∀W,Below w.heap.size w W→Calls Tryd.prog 24 #[.agg #[.int .i64 k,.int .i64 r,.int .i64 s',.int .i64 t,.int .i64 a,.int .i64 b]] W fun e w'=>e= .returned (.string s)∧Below W.heap.size W w'):=⟨fun W hW=>by
      have:=impl_OpText_any k r s' t a b W (HE.out.below hW).1.1;rwa [hv]at this⟩
    clear hp hv HQ
    go_wp2_with (first
      |(go_at_call 38;(with_reducible refine(HO.out _).mono ?_);rintro e w4 ⟨rfl,hb⟩;replace HB:=Aside0.mk (HB.out.step hb);clear hb c0 c1 c2 c3 c4 c5 d0 d1 d2 d3 d4 d5;obtain⟨c0,c1,c2,c3,c4,c5⟩:=box6 HB.out.blk;obtain⟨d0,d1,d2,d3,d4,d5⟩:=box6 HB.out.blk2)
      |(go_at_call 24;(with_reducible refine(HX.out _ HB.out.below).mono ?_);rintro e w5 ⟨rfl,hb⟩;replace HB:=Aside0.mk (HB.out.step hb);clear hb))
    go_ret
    exact⟨by simp,HB.out.below⟩
end Go.Proofs.YtmklpbmlgjkbiaaDoor.PS
end
