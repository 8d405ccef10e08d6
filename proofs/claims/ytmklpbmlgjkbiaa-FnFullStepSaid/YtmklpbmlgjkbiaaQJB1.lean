/- What the rows of JB rest on, part 2. -/
import Derived.Test.YtmklpbmlgjkbiaaProg
import Derived.Laws.StructEq
import Derived.Deep.RegionWith
import Derived.Lib.Bytealg
import Derived.Shelf.Strings.Search3
import Derived.WalkSpells
import Derived.Lib.OthersKept
import Derived.Lib.Hide
import Derived.WalkSmall
import Derived.Laws.EntriesVeiled
import Derived.RegionTactic
import Derived.Test.YtmklpbmlgjkbiaaQJB0
set_option linter.unusedVariables false
set_option linter.unusedSimpArgs false
set_option maxHeartbeats 8000000
set_option maxRecDepth 100000
section
namespace Go.Proofs.Ytmklpbmlgjkbiaa.PS
open Go.RowKit Go.Proofs.YtmklpbmlgjkbiaaW.PrintWords Go.Proofs.YtmklpbmlgjkbiaaW.PrintLast Go.Proofs.YtmklpbmlgjkbiaaW.PrintMore
attribute [local go_sem] max2_int min2_int max_two min_two max_three min_three max_four min_four   -- for this text's walks alone
def spec_CodeFull.f (k:Nat) (l0:List (S29)):Option (List Int):=(spec_CodeOk.f k l0).bind fun t381=>(if t381=true then((spec_l3Full.f k l0).bind fun t385=>(some t385))else(some (([]:List Int))))
theorem spec_CodeFull.calls (k:Nat) (A0:Option Addr) (c0:Nat) (l0:List (S29)) (r:List Int) (w:World) (hr0:Kd.C k29 w A0 l0.length l0) (hc0:l0.length≤c0) (h:spec_CodeFull.f k l0=some r):
  Calls Try.prog 43 #[.slice A0 l0.length c0] w fun e w'=> ∃v0_:Value,e= .returned (v0_)∧Kd.R (Kd.int .i64) 3 w' w.heap.size (fun _=>True) v0_ r∧Below w.heap.size w w':=by
 have HR0:=Aside0.mk hr0;have HC0:=Aside0.mk hc0;clear hr0 hc0;have HB:=Aside0.mk (Below.refl w.heap.size w);have H:((spec_CodeOk.f k l0).bind fun t381=>(if t381=true then((spec_l3Full.f k l0).bind fun t385=>(some t385))else(some (([]:List Int)))))=some r:=h
 clear h;replace H:=Option.bind_eq_some_iff.mp H;obtain⟨t381,A20,H⟩:=H;replace H:(if t381=true then((spec_l3Full.f k l0).bind fun t385=>(some t385))else(some (([]:List Int))))=some r:=H
 have A2:=Aside0.mk A20;clear A20;by_cases c3:t381=true
 ·subst c3
  have H1:((spec_l3Full.f k l0).bind fun t385=>(some t385))=some r:=by rw[if_pos rfl]at H;exact H
  clear H;have H:=H1;clear H1;replace H:=Option.bind_eq_some_iff.mp H;obtain⟨t385,A40,H⟩:=H;replace H:(some t385)=some r:=H;have A4:=Aside0.mk A40;clear A40;obtain rfl:=Option.some.inj H;go_enter Try.func43,Try.ntmps43
  go_wp2_with (first|((with_reducible refine gate_callee (f:=33) rfl ?_);refine goesL_ (some 4) rfl rfl Try.func33 (by kernel_rfl) rfl #[.slice A0 l0.length c0] rfl (by(try simp only[List.map_toArray,List.map_cons,List.map_nil])<;>rfl) ?_;(with_reducible refine(spec_CodeOk.calls k _ _ l0 true _ ?side1 ?side2 A2.out).mono ?_);(case side1=>repeat(first|exact HR0.out|(with_reducible refine Kd.C_alloc ?_ _)|(with_reducible refine Kd.C_drewN ?_ _)|(with_reducible refine Kd.C_drew ?_)));(case side2=>exact HC0.out);rintro e w5 ⟨rfl,hb⟩;refine⟨_,rfl,?_⟩;replace HB:=Aside0.mk (below_step (by exact bU HB.out) hb);(try clear hb);(try clear hb2);(try clear hk);(try clear hi))|((with_reducible refine gate_callee (f:=81) rfl ?_);refine goesL_ (some 8) rfl rfl Try.func81 (by kernel_rfl) rfl #[.slice A0 l0.length c0] rfl (by(try simp only[List.map_toArray,List.map_cons,List.map_nil])<;>rfl) ?_;(with_reducible refine(spec_l3Full.calls k _ _ l0 t385 _ ?side1 ?side2 A4.out).mono ?_);(case side1=>repeat(first|exact(Kd.C_below HR0.out HB.out)|(with_reducible refine Kd.C_alloc ?_ _)|(with_reducible refine Kd.C_drewN ?_ _)|(with_reducible refine Kd.C_drew ?_)));(case side2=>exact HC0.out);rintro e w6 ⟨v386,rfl,ho0,hb⟩;refine⟨_,rfl,?_⟩;have HO387:=Aside0.mk (Kd.R_lower ho0 (below_size (by exact bU HB.out)));replace HB:=Aside0.mk (below_step (by exact bU HB.out) hb);(try clear hb);(try clear hb2);(try clear hk);(try clear hi);(try clear ho0)))
  go_ret
  exact⟨_,by first|rfl|(simp[errW_none,errW_some]<;>rfl)|(simp[*,errW_none,errW_some]<;>rfl),by exact rU HO387.out,by exact bU HB.out⟩
 ·replace c3:=Bool.eq_false_iff.mpr c3
  subst c3;have H1:(some (([]:List Int)))=some r:=by rw[if_neg (show¬(false=true) by decide)]at H;exact H
  clear H;have H:=H1;clear H1;obtain⟨y382,hy382⟩: ∃y_:List Int,y_=(([]:List Int)):=⟨_,rfl⟩;replace H:(some y382)=some r:=by first|(rw[hy382];with_reducible exact H)|(have H2_:=(Option.bind_some _ _).symm.trans H;rw[hy382];with_reducible exact H2_)|(have H2_:=(Option.bind_some _ _).symm.trans H;with_reducible exact H2_)|with_reducible exact H|(rw[hy382];exact H)|exact H
  have Ny382:=Aside0.mk hy382;clear hy382;obtain rfl:=Option.some.inj H;go_enter Try.func43,Try.ntmps43
  go_wp2_with (first|((with_reducible refine gate_callee (f:=33) rfl ?_);refine goesL_ (some 4) rfl rfl Try.func33 (by kernel_rfl) rfl #[.slice A0 l0.length c0] rfl (by(try simp only[List.map_toArray,List.map_cons,List.map_nil])<;>rfl) ?_;(with_reducible refine(spec_CodeOk.calls k _ _ l0 false _ ?side1 ?side2 A2.out).mono ?_);(case side1=>repeat(first|exact HR0.out|(with_reducible refine Kd.C_alloc ?_ _)|(with_reducible refine Kd.C_drewN ?_ _)|(with_reducible refine Kd.C_drew ?_)));(case side2=>exact HC0.out);rintro e w7 ⟨rfl,hb⟩;refine⟨_,rfl,?_⟩;replace HB:=Aside0.mk (below_step (by exact bU HB.out) hb);(try clear hb);(try clear hb2);(try clear hk);(try clear hi))|((with_reducible refine gate_dst (N:=6) rfl ?_);refine Kd.R_lit (Kd.int .i64) _ 3 ?hg (N:=6) ?hd (xs:=([]:List Int)) (inner:=[]) (ok:=fun _=>True) (okp:=fun _=>True) ?hr ?hp (fun _ hk=>hk) trivial (Below.refl _ _) (Nat.le_refl _) (by simp) ?_;(case hd=>rfl);(case hg=>rfl);(case hr=>first|(go_simp;done)|(go_simp;rfl));(case hp=>exact(Reps.none _ _));intro v383 w8 ho9 hb hg_ hnew_;clear hg_ hnew_;(first|rw[←Ny382.out]at ho9|(simp only[Int.reduceToNat]at ho9;rw[←Ny382.out]at ho9));have HO384:=Aside0.mk (Kd.R_lower ho9 (below_size (by exact bU HB.out)));replace HB:=Aside0.mk (below_step (by exact bU HB.out) hb);clear hb ho9))
  go_ret
  exact⟨_,by first|rfl|(simp[errW_none,errW_some]<;>rfl)|(simp[*,errW_none,errW_some]<;>rfl),by exact rU HO384.out,by exact bU HB.out⟩
def impl_CodeFull.f (l0:List (S29)):Option (List Int):=(codeV.f l0).bind fun t388=>(if t388=true then((fullV.f l0).bind fun t389=>(some t389))else(some ([]:List Int)))
theorem impl_CodeFull.calls (A0:Option Addr) (c0:Nat) (l0:List (S29)) (r:List Int) (w:World) (hr0:Kd.C k29 w A0 l0.length l0) (hc0:l0.length≤c0) (h:impl_CodeFull.f l0=some r):
  Calls Try.prog 44 #[.slice A0 l0.length c0] w fun e w'=> ∃v0_:Value,e= .returned (v0_)∧Kd.R (Kd.int .i64) 3 w' w.heap.size (fun _=>True) v0_ r∧Below w.heap.size w w':=by
 have HR0:=Aside0.mk hr0;have HC0:=Aside0.mk hc0;clear hr0 hc0;have HB:=Aside0.mk (Below.refl w.heap.size w);have H:((codeV.f l0).bind fun t388=>(if t388=true then((fullV.f l0).bind fun t389=>(some t389))else(some ([]:List Int))))=some r:=h
 clear h;replace H:=Option.bind_eq_some_iff.mp H;obtain⟨t388,A20,H⟩:=H;replace H:(if t388=true then((fullV.f l0).bind fun t389=>(some t389))else(some ([]:List Int)))=some r:=H
 have A2:=Aside0.mk A20;clear A20;by_cases c3:t388=true
 ·subst c3
  have H1:((fullV.f l0).bind fun t389=>(some t389))=some r:=by rw[if_pos rfl]at H;exact H
  clear H;have H:=H1;clear H1;replace H:=Option.bind_eq_some_iff.mp H;obtain⟨t389,A40,H⟩:=H;replace H:(some t389)=some r:=H;have A4:=Aside0.mk A40;clear A40;obtain rfl:=Option.some.inj H;go_enter Try.func44,Try.ntmps44
  go_wp2_with (first|((with_reducible refine gate_callee (f:=35) rfl ?_);refine goesL_ (some 4) rfl rfl Try.func35 (by kernel_rfl) rfl #[.slice A0 l0.length c0] rfl (by(try simp only[List.map_toArray,List.map_cons,List.map_nil])<;>rfl) ?_;(with_reducible refine(impl_CodeOk.calls _ _ l0 true _ ?side1 ?side2 A2.out).mono ?_);(case side1=>repeat(first|exact HR0.out|(with_reducible refine Kd.C_alloc ?_ _)|(with_reducible refine Kd.C_drewN ?_ _)|(with_reducible refine Kd.C_drew ?_)));(case side2=>exact HC0.out);rintro e w5 ⟨rfl,hb⟩;refine⟨_,rfl,?_⟩;replace HB:=Aside0.mk (below_step (by exact bU HB.out) hb);(try clear hb);(try clear hb2);(try clear hk);(try clear hi))|((with_reducible refine gate_callee (f:=80) rfl ?_);refine goesL_ (some 7) rfl rfl Try.func80 (by kernel_rfl) rfl #[.slice A0 l0.length c0] rfl (by(try simp only[List.map_toArray,List.map_cons,List.map_nil])<;>rfl) ?_;(with_reducible refine(impl_full.calls _ _ l0 t389 _ ?side1 ?side2 A4.out).mono ?_);(case side1=>repeat(first|exact(Kd.C_below HR0.out HB.out)|(with_reducible refine Kd.C_alloc ?_ _)|(with_reducible refine Kd.C_drewN ?_ _)|(with_reducible refine Kd.C_drew ?_)));(case side2=>exact HC0.out);rintro e w6 ⟨v390,rfl,ho0,hb⟩;refine⟨_,rfl,?_⟩;have HO391:=Aside0.mk (Kd.R_lower ho0 (below_size (by exact bU HB.out)));replace HB:=Aside0.mk (below_step (by exact bU HB.out) hb);(try clear hb);(try clear hb2);(try clear hk);(try clear hi);(try clear ho0)))
  go_ret
  exact⟨_,by first|rfl|(simp[errW_none,errW_some]<;>rfl)|(simp[*,errW_none,errW_some]<;>rfl),by exact rU HO391.out,by exact bU HB.out⟩
 ·replace c3:=Bool.eq_false_iff.mpr c3
  subst c3;have H1:(some ([]:List Int))=some r:=by rw[if_neg (show¬(false=true) by decide)]at H;exact H
  clear H;have H:=H1;clear H1;obtain rfl:=Option.some.inj H;go_enter Try.func44,Try.ntmps44
  go_wp2_with (first|((with_reducible refine gate_callee (f:=35) rfl ?_);refine goesL_ (some 4) rfl rfl Try.func35 (by kernel_rfl) rfl #[.slice A0 l0.length c0] rfl (by(try simp only[List.map_toArray,List.map_cons,List.map_nil])<;>rfl) ?_;(with_reducible refine(impl_CodeOk.calls _ _ l0 false _ ?side1 ?side2 A2.out).mono ?_);(case side1=>repeat(first|exact HR0.out|(with_reducible refine Kd.C_alloc ?_ _)|(with_reducible refine Kd.C_drewN ?_ _)|(with_reducible refine Kd.C_drew ?_)));(case side2=>exact HC0.out);rintro e w7 ⟨rfl,hb⟩;refine⟨_,rfl,?_⟩;replace HB:=Aside0.mk (below_step (by exact bU HB.out) hb);(try clear hb);(try clear hb2);(try clear hk);(try clear hi)))
  go_ret
  exact⟨_,by first|rfl|(simp[errW_none,errW_some]<;>rfl)|(simp[*,errW_none,errW_some]<;>rfl),by first|exact Kd.R_nil _ _ _ _ _|exact Kd.N_nil _ _ _ _ _|exact Kd.V_nil _ _ _ _ _|exact Kd.Q_nil _ _ _ _ _|exact Kd.S_nil _ _ _ _ _,by exact bU HB.out⟩
end Go.Proofs.Ytmklpbmlgjkbiaa.PS
end
section
namespace Go.Proofs.Ytmklpbmlgjkbiaa.PS
open Go.RowKit Go.Proofs.YtmklpbmlgjkbiaaW.PrintWords Go.Proofs.YtmklpbmlgjkbiaaW.PrintLast
def codeFullV.f (l:List S29):Option (List Int):=some (if codeB l=true then fullL l else [])
theorem scodefull_ev (l:List S29) (hm:l.length≤9223372036854775807):Ev (fun k=>spec_CodeFull.f k l) (if codeB l=true then fullL l else []):=by
  unfold spec_CodeFull.f;refine Ev.bind (scode_ev l hm) ?_
  by_cases h:codeB l=true
  · simp only[if_pos h]
    exact Ev.bind (sfull_ev h) (Ev.now _)
  · simp only[if_neg h]
    exact Ev.now _
theorem spec_CodeFull_as.calls (A0:Option Addr) (c0:Nat) (l0:List (S29)) (r:List Int) (w:World) (hr0:Kd.C k29 w A0 l0.length l0) (hc0:l0.length≤c0) (h:codeFullV.f l0=some r):
    Calls Try.prog 43 #[.slice A0 l0.length c0] w fun e w'=> ∃v0_:Value,e= .returned (v0_)∧Kd.R (Kd.int .i64) 3 w' w.heap.size (fun _=>True) v0_ r∧Below w.heap.size w w':=by
  obtain⟨k,hk⟩:=(scodefull_ev l0 (Kd.C_max hr0)).rounds;exact spec_CodeFull.calls k A0 c0 l0 r w hr0 hc0 (hk.trans h)
theorem impl_CodeFull_as.calls (A0:Option Addr) (c0:Nat) (l0:List (S29)) (r:List Int) (w:World) (hr0:Kd.C k29 w A0 l0.length l0) (hc0:l0.length≤c0) (h:codeFullV.f l0=some r):
    Calls Try.prog 44 #[.slice A0 l0.length c0] w fun e w'=> ∃v0_:Value,e= .returned (v0_)∧Kd.R (Kd.int .i64) 3 w' w.heap.size (fun _=>True) v0_ r∧Below w.heap.size w w':=by
  refine impl_CodeFull.calls A0 c0 l0 r w hr0 hc0 ?_
  rw[←h];unfold impl_CodeFull.f codeV.f fullV.f codeFullV.f;simp only[Option.bind_some]
  by_cases hc:codeB l0=true
  · simp only[if_pos hc];rfl
  · simp only[if_neg hc]
end Go.Proofs.Ytmklpbmlgjkbiaa.PS
end
section
namespace Go.Proofs.Ytmklpbmlgjkbiaa.PS
open Go.RowKit Go.Proofs.YtmklpbmlgjkbiaaW.PrintWords Go.Proofs.YtmklpbmlgjkbiaaW.PrintLast Go.Proofs.YtmklpbmlgjkbiaaW.PrintMore
attribute [local go_sem] max2_int min2_int max_two min_two max_three min_three max_four min_four   -- for this text's walks alone
def spec_DrawCodeFull.f (k:Nat) (l0:List Int):Option ((List (S29))):=(spec_l6Open.f l0).bind fun bt548=>((spec_l71Code.f k bt548.1 bt548.2).bind fun bt551=>(some bt551.1))
theorem spec_DrawCodeFull.calls (k:Nat) (A0:Option Addr) (c0:Nat) (l0:List Int) (r:List (S29)) (w:World) (hr0:Kd.C (Kd.int .u8) w A0 l0.length l0) (hc0:l0.length≤c0) (h:spec_DrawCodeFull.f k l0=some r):
  Calls Try.prog 48 #[.slice A0 l0.length c0] w fun e w'=> ∃v0_:Value,e= .returned (v0_)∧Kd.R k29 29 w' w.heap.size (fun _=>True) v0_ r∧Below w.heap.size w w':=by
 have HR0:=Aside0.mk hr0;have HC0:=Aside0.mk hc0;clear hr0 hc0;have HB:=Aside0.mk (Below.refl w.heap.size w);have H:((spec_l6Open.f l0).bind fun bt548=>((spec_l71Code.f k bt548.1 bt548.2).bind fun bt551=>(some bt551.1)))=some r:=h
 clear h;replace H:=Option.bind_eq_some_iff.mp H;obtain⟨⟨t548,t549⟩,A20,H⟩:=H;replace H:((spec_l71Code.f k t548 t549).bind fun bt551=>(some bt551.1))=some r:=H
 have A2:=Aside0.mk A20;clear A20;replace H:=Option.bind_eq_some_iff.mp H;obtain⟨⟨t551,t554⟩,A30,H⟩:=H;replace H:(some t551)=some r:=H;have A3:=Aside0.mk A30;clear A30;obtain rfl:=Option.some.inj H;go_enter Try.func48,Try.ntmps48
 go_wp2_with (first|((with_reducible refine gate_callee (f:=69) rfl ?_);refine goesL_ (some 4) rfl rfl Try.func69 (by kernel_rfl) rfl #[.slice A0 l0.length c0] rfl (by(try simp only[List.map_toArray,List.map_cons,List.map_nil]);first|done|rfl|(simp only[List.length_drop,List.length_take];rfl)) ?_;(with_reducible refine(spec_l6Open.calls _ _ l0 t548 t549 w _ ?side1 ?side2 ?side3 A2.out).mono ?_);(case side1=>exact bU HB.out);(case side2=>exact HR0.out);(case side3=>exact HC0.out);rintro e w4 ⟨g550,rfl,hi,hb,hb2⟩;refine⟨_,rfl,?_⟩;replace HB:=Aside0.mk (hb);have HI550:=Aside0.mk (hi);(try clear hb);(try clear hb2);(try clear hk);(try clear hi))|((with_reducible refine gate_callee (f:=85) rfl ?_);refine goesL_ (some 5) rfl rfl Try.func85 (by kernel_rfl) rfl #[.pointer (some ⟨g550,0,none⟩)] rfl (by(try simp only[List.map_toArray,List.map_cons,List.map_nil]);first|done|rfl|(simp only[List.length_drop,List.length_take];rfl)) ?_;(with_reducible refine(spec_l71Code.calls k g550 t548 t549 t551 t554 w _ ?side1 ?side2 A3.out).mono ?_);(case side1=>repeat(with_reducible first|exact HI550.out|apply sA|apply sN|apply sD|apply sS));(case side2=>repeat(with_reducible first|exact HB.out|apply bA|apply bN|apply b1|refine below_set ?_ (IsS84.ge HI550.out)));rintro e w5 ⟨v552,rfl,ho0,hi,hb,hk⟩;refine⟨_,rfl,?_⟩;have HO553:=Aside0.mk (Kd.R_lower ho0 (below_size (by repeat(with_reducible first|exact HB.out|apply bA|apply bN|apply b1|refine below_set ?_ (IsS84.ge HI550.out)))));replace HB:=Aside0.mk (hb);replace HI550:=Aside0.mk (hi);(try clear hb);(try clear hb2);(try clear hk);(try clear hi);(try clear ho0)))
 go_ret
 exact⟨_,by first|rfl|(simp[errW_none,errW_some]<;>rfl)|(simp[*,errW_none,errW_some]<;>rfl),by exact rU HO553.out,by repeat(with_reducible first|exact HB.out|apply bA|apply bN|apply b1|refine below_set ?_ (IsS84.ge HI550.out))⟩
def laws_lvBit.l0:Nat→Int→Int→Int→Option (Bool)
 |0,_,_,_=>none
 |k+1,x0,x1,x5=>if x5<x1 then(laws_lvBit.l0 k (wrap64 (Int.tdiv x0 2)) x1 (wrap64 (x5+1)))else(some ((Int.tmod x0 2)==1))
def laws_lvBit.f (k:Nat) (a0:Int) (a1:Int):Option (Bool):=laws_lvBit.l0 k a0 a1 0
theorem laws_lvBit.mono_l: ∀k,(∀y0 y1 y2,LeO (laws_lvBit.l0 k y0 y1 y2) (laws_lvBit.l0 (k+1) y0 y1 y2))
 |0=>fun _ _ _ r h=>by simp[laws_lvBit.l0]at h
 |k+1=>by
  have ih0:=laws_lvBit.mono_l k
  ·intro y0 y1 y2
   unfold laws_lvBit.l0;repeat' first
   |(with_reducible exact ih0 _ _ _)
   |(with_reducible exact LeO.refl _)
   |(with_reducible exact LeO.none _)
   |(with_reducible refine LeO.ite ?_ ?_)
   |(with_reducible refine LeO.bind ?_ (fun _=> ?_))
   |exact ih0 _ _ _
   |exact LeO.none _
   |refine LeO.ite ?_ ?_
   |refine LeO.bind ?_ (fun _=> ?_)
theorem laws_lvBit.mono: ∀a0 a1 k,LeO (laws_lvBit.f k a0 a1) (laws_lvBit.f (k+1) a0 a1):=by
 intro a0 a1 k;have ih0:=laws_lvBit.mono_l k;unfold laws_lvBit.f
 repeat' first
   |(with_reducible exact ih0 _ _ _)
   |(with_reducible exact LeO.refl _)
   |(with_reducible exact LeO.none _)
   |(with_reducible refine LeO.ite ?_ ?_)
   |(with_reducible refine LeO.bind ?_ (fun _=> ?_))
   |exact ih0 _ _ _
   |exact LeO.none _
   |refine LeO.ite ?_ ?_
   |refine LeO.bind ?_ (fun _=> ?_)
theorem laws_lvBit.calls (k:Nat) (a0:Int) (a1:Int) (r:Bool) (w:World) (h:laws_lvBit.f k a0 a1=some r):
  Calls Try.prog 50 #[.int .i64 a0,.int .i64 a1] w fun e w'=>e= .returned (.bool r)∧Drawn0 w w':=by
 have H:(laws_lvBit.l0 k a0 a1 0)=some r:=h;clear h;have H':=Aside0.mk H;clear H;go_enter Try.func50,Try.ntmps50
 go_wp2
 go_loopg [0,5] k (fun kq v0 v5 w'=> ∃ (x0_1:Int) (x5_1:Int),v0= .int .i64 x0_1∧v5= .int .i64 x5_1∧Aside0 (laws_lvBit.l0 kq x0_1 a1 x5_1=some r)∧Aside0 (kq≤k)∧Drawn0 w w')
 case atStart=>exact⟨(a0),(0),(by first|rfl|(simp;done)|(simp[*];done)),(by first|rfl|(simp;done)|(simp[*];done)),H',⟨Nat.le_refl _⟩,by repeat(first|exact Drawn0.refl _|apply Drawn0.step)⟩
 case round=>
  clear H';try clear p2
  obtain⟨x0_1,x5_1,rfl,rfl,HA,HK1,⟨m1,rfl⟩⟩:=hrel;cases gk with
  |zero=>exact absurd HA.out (by simp[laws_lvBit.l0])
  |succ k1=>
   have H:=HA.out;clear HA;simp only[laws_lvBit.l0]at H
   by_cases c3:x5_1<a1
   ·rw[if_pos c3]at H
    have c3b0:decide (x5_1<a1)=true:=decide_eq_true c3;clear c3;have H':=Aside0.mk H;clear H;go_wp2
    go_roundg k1
    case measure=>have:=HK1.out;omega
    case rel=>exact⟨(wrap64 (Int.tdiv x0_1 2)),(wrap64 (x5_1+1)),(by first|rfl|(simp;done)|(simp[*];done)),(by first|rfl|(simp;done)|(simp[*];done)),H',⟨by have:=HK1.out;omega⟩,by repeat(first|exact Drawn0.refl _|apply Drawn0.step)⟩
   ·rw[if_neg c3]at H
    have c3b0:decide (x5_1<a1)=false:=decide_eq_false c3;clear c3;obtain rfl:=Option.some.inj H;go_wp2
    go_ret
    exact⟨by first|rfl|(simp;done)|(simp[*];done),by repeat(first|exact Drawn0.refl _|apply Drawn0.step)⟩
def laws_lvFills.f (a0:Int):Option (Bool):=if a0=1 then(some true)else(if a0=2 then(some true)else(if a0=4 then(some true)else(if a0=5 then(some true)else(if a0=7 then(some true)else(some (a0==8))))))
theorem laws_lvFills.calls (a0:Int) (r:Bool) (w:World) (h:laws_lvFills.f a0=some r):
  Calls Try.prog 51 #[.int .i64 a0] w fun e w'=>e= .returned (.bool r)∧Drawn0 w w':=by
 have H:(if a0=1 then(some true)else(if a0=2 then(some true)else(if a0=4 then(some true)else(if a0=5 then(some true)else(if a0=7 then(some true)else(some (a0==8)))))))=some r:=h
 clear h;by_cases c2:a0=1
 ·rw[if_pos c2]at H
  have c2b0:(a0==1)=true:=beq_iff_eq.mpr c2;have c2b1:(a0 !=1)=false:=bne_eq_false_iff_eq.mpr c2;clear c2;obtain rfl:=Option.some.inj H;go_enter Try.func51,Try.ntmps51
  go_wp2
  go_ret
  exact⟨by first|rfl|(simp;done)|(simp[*];done),by repeat(first|exact Drawn0.refl _|apply Drawn0.step)⟩
 ·rw[if_neg c2]at H
  have c2b0:(a0==1)=false:=beq_eq_false_iff_ne.mpr c2;have c2b1:(a0 !=1)=true:=bne_iff_ne.mpr c2;by_cases c3:a0=2
  ·rw[if_pos c3]at H
   have c3b0:(a0==2)=true:=beq_iff_eq.mpr c3;have c3b1:(a0 !=2)=false:=bne_eq_false_iff_eq.mpr c3;clear c3;obtain rfl:=Option.some.inj H;go_enter Try.func51,Try.ntmps51
   go_wp2
   go_ret
   exact⟨by first|rfl|(simp;done)|(simp[*];done),by repeat(first|exact Drawn0.refl _|apply Drawn0.step)⟩
  ·rw[if_neg c3]at H
   have c3b0:(a0==2)=false:=beq_eq_false_iff_ne.mpr c3;have c3b1:(a0 !=2)=true:=bne_iff_ne.mpr c3;by_cases c4:a0=4
   ·rw[if_pos c4]at H
    have c4b0:(a0==4)=true:=beq_iff_eq.mpr c4;have c4b1:(a0 !=4)=false:=bne_eq_false_iff_eq.mpr c4;clear c4;obtain rfl:=Option.some.inj H;go_enter Try.func51,Try.ntmps51
    go_wp2
    go_ret
    exact⟨by first|rfl|(simp;done)|(simp[*];done),by repeat(first|exact Drawn0.refl _|apply Drawn0.step)⟩
   ·rw[if_neg c4]at H
    have c4b0:(a0==4)=false:=beq_eq_false_iff_ne.mpr c4;have c4b1:(a0 !=4)=true:=bne_iff_ne.mpr c4;by_cases c5:a0=5
    ·rw[if_pos c5]at H
     have c5b0:(a0==5)=true:=beq_iff_eq.mpr c5;have c5b1:(a0 !=5)=false:=bne_eq_false_iff_eq.mpr c5;clear c5;obtain rfl:=Option.some.inj H;go_enter Try.func51,Try.ntmps51
     go_wp2
     go_ret
     exact⟨by first|rfl|(simp;done)|(simp[*];done),by repeat(first|exact Drawn0.refl _|apply Drawn0.step)⟩
    ·rw[if_neg c5]at H
     have c5b0:(a0==5)=false:=beq_eq_false_iff_ne.mpr c5;have c5b1:(a0 !=5)=true:=bne_iff_ne.mpr c5;by_cases c6:a0=7
     ·rw[if_pos c6]at H
      have c6b0:(a0==7)=true:=beq_iff_eq.mpr c6;have c6b1:(a0 !=7)=false:=bne_eq_false_iff_eq.mpr c6;clear c6;obtain rfl:=Option.some.inj H;go_enter Try.func51,Try.ntmps51
      go_wp2
      go_ret
      exact⟨by first|rfl|(simp;done)|(simp[*];done),by repeat(first|exact Drawn0.refl _|apply Drawn0.step)⟩
     ·rw[if_neg c6]at H
      have c6b0:(a0==7)=false:=beq_eq_false_iff_ne.mpr c6;have c6b1:(a0 !=7)=true:=bne_iff_ne.mpr c6;obtain rfl:=Option.some.inj H;go_enter Try.func51,Try.ntmps51
      go_wp2
      go_ret
      exact⟨by first|rfl|(simp;done)|(simp[*];done),by repeat(first|exact Drawn0.refl _|apply Drawn0.step)⟩
end Go.Proofs.Ytmklpbmlgjkbiaa.PS
end
section
namespace Go.Proofs.Ytmklpbmlgjkbiaa.PS
open Go.RowKit Go.Proofs.YtmklpbmlgjkbiaaW.PrintWords Go.Proofs.YtmklpbmlgjkbiaaW.PrintLast
theorem drawFull_ev {l:List Int} (hw: ∀x∈l,(Lit.int .u8 x).wf=true): ∃c,Ev (fun k=>spec_DrawCodeFull.f k l) c∧c.length≤17:=by
  obtain⟨b,hb,hB⟩:=open_ok hw;obtain⟨c,p,hc,hl, -⟩:=code_ev hB 0 (by omega) (by omega)
  refine⟨c,?_,hl⟩
  unfold spec_DrawCodeFull.f;rw[hb];simp only[Option.bind_some]
  exact Ev.bind hc (Ev.now _)
theorem bit_ev {x s:Int} (hx:0≤x) (hx2:x≤15) (hs:0≤s) (hs2:s≤3):Ev (fun k=>laws_lvBit.f k x s) (!freeB x s):=by
  have:fours (fun x=>fours fun s=>decide (s≤3→laws_lvBit.f 6 x s=some (!freeB x s)))=true:=by decide+kernel
  exact Ev.of (fun k=>laws_lvBit.mono x s k) (of_decide_eq_true (fours_all (fours_all this hx hx2) hs (by omega)) hs2)
theorem sub_bit {a x s:Int} (ha:0≤a) (ha2:a≤15) (hx:0≤x) (hx2:x≤15) (hs:0≤s) (hs2:s≤3) (h:both a x=a) (hb:freeB a s=false):freeB x s=false:=by
  have:fours (fun a=>fours fun x=>fours fun s=>decide (s≤3→both a x=a→freeB a s=false→freeB x s=false))=true:=by decide+kernel
  exact of_decide_eq_true (fours_all (fours_all (fours_all this ha ha2) hx hx2) hs (by omega)) hs2 h hb
theorem or_bit {x r s:Int} (hx:0≤x) (hx2:x≤15) (hr:0≤r) (hr2:r≤3) (hs:0≤s) (hs2:s≤3):freeB (orBit x r) s=(freeB x s&& !(r==s)):=by
  have:fours (fun x=>fours fun r=>fours fun s=>decide (r≤3→s≤3→freeB (orBit x r) s=(freeB x s&& !(r==s))))=true:=by decide+kernel
  exact of_decide_eq_true (fours_all (fours_all (fours_all this hx hx2) hr (by omega)) hs (by omega)) hr2 hs2
theorem to_same {l:List S29} {i:Nat} (h5:(rd_T29 l i).f0≠5) (hT:hasT (rd_T29 l i).f0=true):((rd_T29 l i).f3,Fl.same)∈waysL l i:=by
  unfold waysL arrowsL;rw[if_neg (c:=(rd_T29 l i).f0=5) h5,if_pos (c:=hasT (rd_T29 l i).f0=true) hT];simp
theorem to_next {l:List S29} {i:Nat} (h9:(rd_T29 l i).f0≠9) (h14:(rd_T29 l i).f0≠14) (hn:i+1<l.length):((i:Int)+1,if(howR (rd_T29 l i).f0).f3=true then Fl.fill else .same)∈waysL l i:=by
  unfold waysL arrowsL;rw[if_neg (c:=(rd_T29 l i).f0=9∨(rd_T29 l i).f0=14) (fun h=>h.elim h9 h14),if_pos (c:=(i:Int)+1<(l.length:Int)) (by omega)];simp
theorem in_way {l:List S29} {i:Nat} {a:Int×Fl} (h:a∈waysL l i):(a.1,flF a.2 (rd_T29 l i).f1)∈wayW l i:=List.mem_map.2 ⟨a,h,rfl⟩
theorem full_way {l:List S29} (hc:codeB l=true) {i:Nat} (hi:i<l.length) (h0:0≤at_ (fullL l) i) {a:Int×Fl} (ha:a∈waysL l i):
    0≤a.1∧a.1<l.length∧0≤at_ (fullL l) a.1∧both (at_ (fullL l) a.1) (flF a.2 (rd_T29 l i).f1 (at_ (fullL l) i))=at_ (fullL l) a.1:=by
  obtain⟨w0,w1, -⟩:=code_way hc hi ha;have hW:=wayW_good hc;exact⟨w0,w1,fix_goes hW (full_good hW) (full_fix hW) hi h0 (in_way ha),fix_way hW (full_good hW) (full_fix hW) hi h0 (in_way ha)⟩
theorem full_at {l:List S29} (hc:codeB l=true) (i:Int): -1≤at_ (fullL l) i∧at_ (fullL l) i≤15:=at_good (full_good (wayW_good hc)) i
theorem mx_nonneg {a:Int} (h:0≤a):mx a 0=a:=by unfold mx;omega
end Go.Proofs.Ytmklpbmlgjkbiaa.PS
end
section
namespace Go.Proofs.Ytmklpbmlgjkbiaa.PJB
open Go.RowKit Go.Proofs.YtmklpbmlgjkbiaaW.PrintWords Go.Proofs.YtmklpbmlgjkbiaaW.PrintLast Go.Proofs.YtmklpbmlgjkbiaaW.PrintMore Go.Proofs.Ytmklpbmlgjkbiaa.PS
attribute [local go_sem] max2_int min2_int max_two min_two max_three min_three max_four min_four   -- for this text's walks alone
mutual
def laws_FnFullStep.j0:Nat→List (S29)→List Int→Bool→Option (Bool)
 |0,_,_,_=>none
 |k+1,x3,x4,x25=>if x25=true then((codeFullV.f x3).bind fun t110=>((laws_lvInts.f k x4 t110).bind fun t113=>(some t113)))else(laws_FnFullStep.l0 k x3 x4 0)
def laws_FnFullStep.l0:Nat→List (S29)→List Int→Int→Option (Bool)
 |0,_,_,_=>none
 |k+1,x3,x4,x5=>if x5<(x3.length:Int)then(if 0≤x5 then(if x5<(x4.length:Int)then(if(rd x4 x5)<0 then(laws_FnFullStep.l0 k x3 x4 (wrap64 (x5+1)))else(laws_FnFullStep.l1 k x3 x4 x5 0 ((rd_T29 x3 x5).f0) ((rd_T29 x3 x5).f1) ((rd_T29 x3 x5).f2) ((rd_T29 x3 x5).f3) ((rd_T29 x3 x5).f4.f0) ((rd_T29 x3 x5).f4.f1)))else(none))else(none))else(some true)
def laws_FnFullStep.l1:Nat→List (S29)→List Int→Int→Int→Int→Int→Int→Int→Int→Int→Option (Bool)
 |0,_,_,_,_,_,_,_,_,_,_=>none
 |k+1,x3,x4,x5,x7,x117000,x117001,x117002,x117003,x117004,x117005=>if x7≤3 then(if 0≤x5 then(if x5<(x4.length:Int)then((laws_lvBit.f k (rd x4 x5) x7).bind fun t118=>(if x117000=9 then(laws_FnFullStep.j3 k x3 x4 x5 x7 t118 false x117000 x117001 x117002 x117003 x117004 x117005)else(if x117000=14 then(laws_FnFullStep.j3 k x3 x4 x5 x7 t118 false x117000 x117001 x117002 x117003 x117004 x117005)else(if(wrap64 (x5+1))<(x3.length:Int)then(if 0≤(wrap64 (x5+1))then(if(wrap64 (x5+1))<(x4.length:Int)then((laws_lvBit.f k (mx (rd x4 (wrap64 (x5+1))) 0) x7).bind fun t120=>(if t120=true then(if t118=true then(laws_FnFullStep.j3 k x3 x4 x5 x7 t118 false x117000 x117001 x117002 x117003 x117004 x117005)else((laws_lvFills.f x117000).bind fun t121=>(if t121=true then(laws_FnFullStep.j3 k x3 x4 x5 x7 t118 (!(x117001==x7)) x117000 x117001 x117002 x117003 x117004 x117005)else(laws_FnFullStep.j3 k x3 x4 x5 x7 t118 (!false) x117000 x117001 x117002 x117003 x117004 x117005))))else(laws_FnFullStep.j3 k x3 x4 x5 x7 t118 false x117000 x117001 x117002 x117003 x117004 x117005)))else(none))else(none))else(laws_FnFullStep.j3 k x3 x4 x5 x7 t118 false x117000 x117001 x117002 x117003 x117004 x117005)))))else(none))else(none))else(laws_FnFullStep.l0 k x3 x4 (wrap64 (x5+1)))
def laws_FnFullStep.j3:Nat→List (S29)→List Int→Int→Int→Bool→Bool→Int→Int→Int→Int→Int→Int→Option (Bool)
 |0,_,_,_,_,_,_,_,_,_,_,_,_=>none
 |k+1,x3,x4,x5,x7,x8,x95,x117000,x117001,x117002,x117003,x117004,x117005=>if x95=true then(some false)else(if x117000=9 then(if 0≤x117003 then(if x117003<(x4.length:Int)then((laws_lvBit.f k (mx (rd x4 x117003) 0) x7).bind fun t123=>(if t123=true then(laws_FnFullStep.j4 k x3 x4 x5 x7 (!x8) x117000 x117001 x117002 x117003 x117004 x117005)else(laws_FnFullStep.j4 k x3 x4 x5 x7 false x117000 x117001 x117002 x117003 x117004 x117005)))else(none))else(none))else(if x117000=10 then(if 0≤x117003 then(if x117003<(x4.length:Int)then((laws_lvBit.f k (mx (rd x4 x117003) 0) x7).bind fun t125=>(if t125=true then(laws_FnFullStep.j4 k x3 x4 x5 x7 (!x8) x117000 x117001 x117002 x117003 x117004 x117005)else(laws_FnFullStep.j4 k x3 x4 x5 x7 false x117000 x117001 x117002 x117003 x117004 x117005)))else(none))else(none))else(if x117000=8 then(if 0≤x117003 then(if x117003<(x4.length:Int)then((laws_lvBit.f k (mx (rd x4 x117003) 0) x7).bind fun t127=>(if t127=true then(laws_FnFullStep.j4 k x3 x4 x5 x7 (!x8) x117000 x117001 x117002 x117003 x117004 x117005)else(laws_FnFullStep.j4 k x3 x4 x5 x7 false x117000 x117001 x117002 x117003 x117004 x117005)))else(none))else(none))else(laws_FnFullStep.j4 k x3 x4 x5 x7 false x117000 x117001 x117002 x117003 x117004 x117005))))
def laws_FnFullStep.j4:Nat→List (S29)→List Int→Int→Int→Bool→Int→Int→Int→Int→Int→Int→Option (Bool)
 |0,_,_,_,_,_,_,_,_,_,_,_=>none
 |k+1,x3,x4,x5,x7,x122,x117000,x117001,x117002,x117003,x117004,x117005=>if x122=true then(some false)else(laws_FnFullStep.l1 k x3 x4 x5 (wrap64 (x7+1)) x117000 x117001 x117002 x117003 x117004 x117005)
end
def laws_FnFullStep.f (k:Nat) (l0:List Int):Option (Bool):=if(l0.length:Int)>1048576 then(some true)else((spec_DrawCodeFull.f k l0).bind fun t101=>((codeFullV.f t101).bind fun t104=>((laws_lvInts.f k t104 t104).bind fun t109=>(if t109=true then(laws_FnFullStep.j0 k t101 t104 ((t104.length:Int)==0))else(laws_FnFullStep.j0 k t101 t104 true)))))
theorem laws_FnFullStep.calls (k:Nat) (A0:Option Addr) (c0:Nat) (l0:List Int) (r:Bool) (w:World) (hr0:Kd.C (Kd.int .u8) w A0 l0.length l0) (hc0:l0.length≤c0) (h:laws_FnFullStep.f k l0=some r):
  Calls Try.prog 13 #[.slice A0 l0.length c0] w fun e w'=>e= .returned (.bool r)∧Below w.heap.size w w':=by
 have hu29:=Try.underlying29;have HR0:=Aside0.mk hr0;have HC0:=Aside0.mk hc0;clear hr0 hc0;have HB:=Aside0.mk (Below.refl w.heap.size w);have H:(if(l0.length:Int)>1048576 then(some true)else((spec_DrawCodeFull.f k l0).bind fun t101=>((codeFullV.f t101).bind fun t104=>((laws_lvInts.f k t104 t104).bind fun t109=>(if t109=true then(laws_FnFullStep.j0 k t101 t104 ((t104.length:Int)==0))else(laws_FnFullStep.j0 k t101 t104 true))))))=some r:=h
 clear h;by_cases c2:(l0.length:Int)>1048576
 ·rw[if_pos c2]at H
  have c2b0:decide (1048576<(l0.length:Int))=true:=decide_eq_true c2;have c2b1:decide (1048576<l0.length)=true:=decide_eq_true (by omega)
  clear c2;obtain rfl:=Option.some.inj H;go_enter Try.func13,Try.ntmps13
  go_wp2
  go_ret
  exact⟨by first|rfl|(simp[errW_none,errW_some]<;>rfl)|(simp[*,errW_none,errW_some]<;>rfl),by exact bU HB.out⟩
 ·rw[if_neg c2]at H
  have c2b0:decide (1048576<(l0.length:Int))=false:=decide_eq_false c2;have c2b1:decide (1048576<l0.length)=false:=decide_eq_false (by omega)
  clear c2;replace H:=Option.bind_eq_some_iff.mp H;obtain⟨t101,A30,H⟩:=H;replace H:((codeFullV.f t101).bind fun t104=>((laws_lvInts.f k t104 t104).bind fun t109=>(if t109=true then(laws_FnFullStep.j0 k t101 t104 ((t104.length:Int)==0))else(laws_FnFullStep.j0 k t101 t104 true))))=some r:=H
  have A3:=Aside0.mk A30;clear A30;replace H:=Option.bind_eq_some_iff.mp H;obtain⟨t104,A40,H⟩:=H;replace H:((laws_lvInts.f k t104 t104).bind fun t109=>(if t109=true then(laws_FnFullStep.j0 k t101 t104 ((t104.length:Int)==0))else(laws_FnFullStep.j0 k t101 t104 true)))=some r:=H
  have A4:=Aside0.mk A40;clear A40;have HC5:=Aside0.mk H;clear H;go_enter Try.func13,Try.ntmps13
  go_upto_region 5 with (first|((with_reducible refine gate_callee (f:=48) rfl ?_);refine goesL_ (some 13) rfl rfl Try.func48 (by kernel_rfl) rfl #[.slice A0 l0.length c0] rfl (by(try simp only[List.map_toArray,List.map_cons,List.map_nil])<;>rfl) ?_;(with_reducible refine(spec_DrawCodeFull.calls k _ _ l0 t101 _ ?side1 ?side2 A3.out).mono ?_);(case side1=>repeat(first|exact HR0.out|(with_reducible refine Kd.C_alloc ?_ _)|(with_reducible refine Kd.C_drewN ?_ _)|(with_reducible refine Kd.C_drew ?_)));(case side2=>exact HC0.out);rintro e w6 ⟨v102,rfl,ho0,hb⟩;refine⟨_,rfl,?_⟩;have HO103:=Aside0.mk (Kd.R_lower ho0 (below_size (by exact bU HB.out)));replace HB:=Aside0.mk (below_step (by exact bU HB.out) hb);(try clear hb);(try clear hb2);(try clear hk);(try clear hi);(try clear ho0);obtain⟨Ao7,co7,eo7⟩:=Kd.R_slice HO103.out;subst eo7)|((with_reducible refine gate_callee (f:=44) rfl ?_);refine goesL_ (some 15) rfl rfl Try.func44 (by kernel_rfl) rfl #[.slice Ao7 t101.length co7] rfl (by(try simp only[List.map_toArray,List.map_cons,List.map_nil])<;>rfl) ?_;(with_reducible refine(impl_CodeFull_as.calls _ _ t101 t104 _ ?side1 ?side2 A4.out).mono ?_);(case side1=>repeat(first|exact(Kd.R_reads' HO103.out).2.2|(with_reducible refine Kd.C_alloc ?_ _)|(with_reducible refine Kd.C_drewN ?_ _)|(with_reducible refine Kd.C_drew ?_)));(case side2=>exact(Kd.R_reads' HO103.out).2.1);rintro e w8 ⟨v105,rfl,ho0,hb⟩;refine⟨_,rfl,?_⟩;replace HO103:=Aside0.mk (Kd.R_below (by exact rU HO103.out) hb);have HO106:=Aside0.mk (Kd.R_lower ho0 (below_size (by exact bU HB.out)));replace HB:=Aside0.mk (below_step (by exact bU HB.out) hb);(try clear hb);(try clear hb2);(try clear hk);(try clear hi);(try clear ho0)))
  (try simp only[Act.put,List.setIfInBounds_toArray,List.set_cons_zero,List.set_cons_succ])
  go_cut [25] (fun v25 wc=> ∃ (kq:Nat) (x25_4:Bool),v25= .bool x25_4∧Aside0 (laws_FnFullStep.j0 kq t101 t104 x25_4=some r)∧Aside0 (kq≤k)∧Aside0 (Kd.R k29 29 wc w.heap.size (fun _=>True) (.slice Ao7 t101.length co7) t101)∧Aside0 (Kd.R (Kd.int .i64) 3 wc w.heap.size (fun _=>True) v105 t104)∧Aside0 (Below w.heap.size w wc))
  case first=>
   have H:=HC5.out;clear HC5;replace H:=Option.bind_eq_some_iff.mp H;obtain⟨t109,A90,H⟩:=H;replace H:(if t109=true then(laws_FnFullStep.j0 k t101 t104 ((t104.length:Int)==0))else(laws_FnFullStep.j0 k t101 t104 true))=some r:=H
   have A9:=Aside0.mk A90;clear A90;by_cases c10:t109=true
   ·subst c10
    have H1:(laws_FnFullStep.j0 k t101 t104 ((t104.length:Int)==0))=some r:=by rw[if_pos rfl]at H;exact H
    clear H;have H:=H1;clear H1;have H':=Aside0.mk H;clear H;go_wp2_with (first|((with_reducible refine gate_callee (f:=43) rfl ?_);refine goesL_ (some 18) rfl rfl Try.func43 (by kernel_rfl) rfl #[.slice Ao7 t101.length co7] rfl (by(try simp only[List.map_toArray,List.map_cons,List.map_nil])<;>rfl) ?_;(with_reducible refine(spec_CodeFull_as.calls _ _ t101 t104 _ ?side1 ?side2 A4.out).mono ?_);(case side1=>repeat(first|exact(Kd.R_reads' HO103.out).2.2|(with_reducible refine Kd.C_alloc ?_ _)|(with_reducible refine Kd.C_drewN ?_ _)|(with_reducible refine Kd.C_drew ?_)));(case side2=>exact(Kd.R_reads' HO103.out).2.1);rintro e w11 ⟨v107,rfl,ho0,hb⟩;refine⟨_,rfl,?_⟩;have n0_:=Aside0.mk (Kd.R_below (by exact rU HO103.out) hb);have n1_:=Aside0.mk (Kd.R_elder' (by exact rU HO106.out) (Kd.R_base ho0) hb);have n2_:=Aside0.mk (Kd.R_lower (Kd.R_new' ho0 (Kd.R_lt (by exact rU HO106.out))) (below_size (by exact bU HB.out)));have n3_:=Aside0.mk (below_step (by exact bU HB.out) hb);clear HO103;clear HO106;clear HB;have HO103:=n0_;have HO106:=n1_;have HO108:=n2_;have HB:=n3_;clear n0_ n1_ n2_ n3_;(try clear hb);(try clear hb2);(try clear hk);(try clear hi);(try clear ho0);obtain⟨Ao12,co12,eo12⟩:=Kd.R_slice HO106.out;subst eo12;obtain⟨Ao13,co13,eo13⟩:=Kd.R_slice HO108.out;subst eo13)|((with_reducible refine gate_callee (f:=49) rfl ?_);refine goesL_ (some 19) rfl rfl Try.func49 (by kernel_rfl) rfl #[.slice Ao12 t104.length co12,.slice Ao13 t104.length co13] rfl (by(try simp only[List.map_toArray,List.map_cons,List.map_nil])<;>rfl) ?_;(with_reducible refine(laws_lvInts.calls k _ _ t104 _ _ t104 true _ ?side1 ?side2 ?side3 ?side4 A9.out).mono ?_);(case side1=>repeat(first|exact(Kd.R_reads' HO106.out).2.2|(with_reducible refine Kd.C_alloc ?_ _)|(with_reducible refine Kd.C_drewN ?_ _)|(with_reducible refine Kd.C_drew ?_)));(case side2=>exact(Kd.R_reads' HO106.out).2.1);(case side3=>repeat(first|exact(Kd.R_reads' HO108.out).2.2|(with_reducible refine Kd.C_alloc ?_ _)|(with_reducible refine Kd.C_drewN ?_ _)|(with_reducible refine Kd.C_drew ?_)));(case side4=>exact(Kd.R_reads' HO108.out).2.1);rintro e w' ⟨rfl,⟨nd,rfl⟩⟩;refine⟨_,rfl,?_⟩))
    go_meet
    case rel=>exact⟨_,(((t104.length:Int)==0)),(by first|rfl|(simp;done)|(simp[*];done)),H',⟨by first|omega|exact Nat.le_refl _⟩,⟨by exact rU HO103.out⟩,⟨by(with_reducible repeat(first|apply rA|apply rN|apply rD));exact Kd.R_mono HO106.out (fun _ hk=>trivial)⟩,⟨by exact bU HB.out⟩⟩
   ·replace c10:=Bool.eq_false_iff.mpr c10
    subst c10;have H1:(laws_FnFullStep.j0 k t101 t104 true)=some r:=by rw[if_neg (show¬(false=true) by decide)]at H;exact H
    clear H;have H:=H1;clear H1;have H':=Aside0.mk H;clear H;go_wp2_with (first|((with_reducible refine gate_callee (f:=43) rfl ?_);refine goesL_ (some 18) rfl rfl Try.func43 (by kernel_rfl) rfl #[.slice Ao7 t101.length co7] rfl (by(try simp only[List.map_toArray,List.map_cons,List.map_nil])<;>rfl) ?_;(with_reducible refine(spec_CodeFull_as.calls _ _ t101 t104 _ ?side1 ?side2 A4.out).mono ?_);(case side1=>repeat(first|exact(Kd.R_reads' HO103.out).2.2|(with_reducible refine Kd.C_alloc ?_ _)|(with_reducible refine Kd.C_drewN ?_ _)|(with_reducible refine Kd.C_drew ?_)));(case side2=>exact(Kd.R_reads' HO103.out).2.1);rintro e w14 ⟨v107,rfl,ho0,hb⟩;refine⟨_,rfl,?_⟩;have n0_:=Aside0.mk (Kd.R_below (by exact rU HO103.out) hb);have n1_:=Aside0.mk (Kd.R_elder' (by exact rU HO106.out) (Kd.R_base ho0) hb);have n2_:=Aside0.mk (Kd.R_lower (Kd.R_new' ho0 (Kd.R_lt (by exact rU HO106.out))) (below_size (by exact bU HB.out)));have n3_:=Aside0.mk (below_step (by exact bU HB.out) hb);clear HO103;clear HO106;clear HB;have HO103:=n0_;have HO106:=n1_;have HO108:=n2_;have HB:=n3_;clear n0_ n1_ n2_ n3_;(try clear hb);(try clear hb2);(try clear hk);(try clear hi);(try clear ho0);obtain⟨Ao15,co15,eo15⟩:=Kd.R_slice HO106.out;subst eo15;obtain⟨Ao16,co16,eo16⟩:=Kd.R_slice HO108.out;subst eo16)|((with_reducible refine gate_callee (f:=49) rfl ?_);refine goesL_ (some 19) rfl rfl Try.func49 (by kernel_rfl) rfl #[.slice Ao15 t104.length co15,.slice Ao16 t104.length co16] rfl (by(try simp only[List.map_toArray,List.map_cons,List.map_nil])<;>rfl) ?_;(with_reducible refine(laws_lvInts.calls k _ _ t104 _ _ t104 false _ ?side1 ?side2 ?side3 ?side4 A9.out).mono ?_);(case side1=>repeat(first|exact(Kd.R_reads' HO106.out).2.2|(with_reducible refine Kd.C_alloc ?_ _)|(with_reducible refine Kd.C_drewN ?_ _)|(with_reducible refine Kd.C_drew ?_)));(case side2=>exact(Kd.R_reads' HO106.out).2.1);(case side3=>repeat(first|exact(Kd.R_reads' HO108.out).2.2|(with_reducible refine Kd.C_alloc ?_ _)|(with_reducible refine Kd.C_drewN ?_ _)|(with_reducible refine Kd.C_drew ?_)));(case side4=>exact(Kd.R_reads' HO108.out).2.1);rintro e w' ⟨rfl,⟨nd,rfl⟩⟩;refine⟨_,rfl,?_⟩))
    go_meet
    case rel=>exact⟨_,(true),(by first|rfl|(simp;done)|(simp[*];done)),H',⟨by first|omega|exact Nat.le_refl _⟩,⟨by exact rU HO103.out⟩,⟨by(with_reducible repeat(first|apply rA|apply rN|apply rD));exact Kd.R_mono HO106.out (fun _ hk=>trivial)⟩,⟨by exact bU HB.out⟩⟩
  case rest=>
   clear HC5;(try clear c1);(try clear c2);(try clear c2b0);(try clear c2b1);(try clear p2);(try clear c4);(try clear c10);(try clear c13)
   obtain⟨kq,x25_4,rfl,HA,HJ4,HO_3,HO_4,HB⟩:=hcut;cases kq with
   |zero=>exact absurd HA.out (by simp[laws_FnFullStep.j0])
   |succ kj4=>
    have H:=HA.out;clear HA;simp only[laws_FnFullStep.j0]at H
    by_cases c17:x25_4=true
    ·subst c17
     have H1:((codeFullV.f t101).bind fun t110=>((laws_lvInts.f kj4 t104 t110).bind fun t113=>(some t113)))=some r:=by rw[if_pos rfl]at H;exact H
     clear H;have H:=H1;clear H1;replace H:=Option.bind_eq_some_iff.mp H;obtain⟨t110,A180,H⟩:=H;replace H:((laws_lvInts.f kj4 t104 t110).bind fun t113=>(some t113))=some r:=H
     have A18:=Aside0.mk A180;clear A180;replace H:=Option.bind_eq_some_iff.mp H;obtain⟨t113,A190,H⟩:=H;replace H:(some t113)=some r:=H;have A19:=Aside0.mk A190;clear A190;obtain rfl:=Option.some.inj H;go_wp2_with (first|((with_reducible refine gate_callee (f:=43) rfl ?_);refine goesL_ (some 28) rfl rfl Try.func43 (by kernel_rfl) rfl #[.slice Ao7 t101.length co7] rfl (by(try simp only[List.map_toArray,List.map_cons,List.map_nil])<;>rfl) ?_;(with_reducible refine(spec_CodeFull_as.calls _ _ t101 t110 _ ?side1 ?side2 A18.out).mono ?_);(case side1=>repeat(first|exact(Kd.R_reads' HO_3.out).2.2|(with_reducible refine Kd.C_alloc ?_ _)|(with_reducible refine Kd.C_drewN ?_ _)|(with_reducible refine Kd.C_drew ?_)));(case side2=>exact(Kd.R_reads' HO_3.out).2.1);rintro e w20 ⟨v111,rfl,ho0,hb⟩;refine⟨_,rfl,?_⟩;have n0_:=Aside0.mk (Kd.R_below (by exact rU HO_3.out) hb);have n1_:=Aside0.mk (Kd.R_elder' (by exact rU HO_4.out) (Kd.R_base ho0) hb);have n2_:=Aside0.mk (Kd.R_lower (Kd.R_new' ho0 (Kd.R_lt (by exact rU HO_4.out))) (below_size (by exact bU HB.out)));have n3_:=Aside0.mk (below_step (by exact bU HB.out) hb);clear HO_3;clear HO_4;clear HB;have HO_3:=n0_;have HO_4:=n1_;have HO112:=n2_;have HB:=n3_;clear n0_ n1_ n2_ n3_;(try clear hb);(try clear hb2);(try clear hk);(try clear hi);(try clear ho0);obtain⟨Ao21,co21,eo21⟩:=Kd.R_slice HO_4.out;subst eo21;obtain⟨Ao22,co22,eo22⟩:=Kd.R_slice HO112.out;subst eo22)|((with_reducible refine gate_callee (f:=49) rfl ?_);refine goesL_ (some 29) rfl rfl Try.func49 (by kernel_rfl) rfl #[.slice Ao21 t104.length co21,.slice Ao22 t110.length co22] rfl (by(try simp only[List.map_toArray,List.map_cons,List.map_nil])<;>rfl) ?_;(with_reducible refine(laws_lvInts.calls kj4 _ _ t104 _ _ t110 t113 _ ?side1 ?side2 ?side3 ?side4 A19.out).mono ?_);(case side1=>repeat(first|exact(Kd.R_reads' HO_4.out).2.2|(with_reducible refine Kd.C_alloc ?_ _)|(with_reducible refine Kd.C_drewN ?_ _)|(with_reducible refine Kd.C_drew ?_)));(case side2=>exact(Kd.R_reads' HO_4.out).2.1);(case side3=>repeat(first|exact(Kd.R_reads' HO112.out).2.2|(with_reducible refine Kd.C_alloc ?_ _)|(with_reducible refine Kd.C_drewN ?_ _)|(with_reducible refine Kd.C_drew ?_)));(case side4=>exact(Kd.R_reads' HO112.out).2.1);rintro e w' ⟨rfl,⟨nd,rfl⟩⟩;refine⟨_,rfl,?_⟩))
     go_ret
     exact⟨by first|rfl|(simp[errW_none,errW_some]<;>rfl)|(simp[*,errW_none,errW_some]<;>rfl),by exact bU HB.out⟩
    ·replace c17:=Bool.eq_false_iff.mpr c17
     subst c17;have H1:(laws_FnFullStep.l0 kj4 t101 t104 0)=some r:=by rw[if_neg (show¬(false=true) by decide)]at H;exact H
     clear H;have H:=H1;clear H1;have H':=Aside0.mk H;clear H;go_wp2
     go_loopg [5] kj4 (fun kq v5 w'=> ∃ (x5_2:Int),v5= .int .i64 x5_2∧Aside0 (laws_FnFullStep.l0 kq t101 t104 x5_2=some r)∧Aside0 (kq≤kj4)∧Aside0 (Kd.R k29 29 w' w.heap.size (fun _=>True) (.slice Ao7 t101.length co7) t101)∧Aside0 (Kd.R (Kd.int .i64) 3 w' w.heap.size (fun _=>True) v105 t104)∧Aside0 (Below w.heap.size w w'))
     case atStart=>exact⟨(0),(by first|rfl|(simp;done)|(simp[*];done)),H',⟨Nat.le_refl _⟩,⟨by exact rU HO_3.out⟩,⟨by exact rU HO_4.out⟩,⟨by exact bU HB.out⟩⟩
     case round=>
      clear H';(try clear c1);(try clear c2);(try clear c2b0);(try clear c2b1);(try clear p2);(try clear c4);(try clear c10);(try clear c13);(try clear c17);(try clear p2)
      obtain⟨x5_2,rfl,HA,HK2,HO_3,HO_4,HB⟩:=hrel;cases gk with
      |zero=>exact absurd HA.out (by simp[laws_FnFullStep.l0])
      |succ k2=>
       have H:=HA.out;clear HA;simp only[laws_FnFullStep.l0]at H
       by_cases c23:x5_2<(t101.length:Int)
       ·rw[if_pos c23]at H
        have c23b0:decide (x5_2<(t101.length:Int))=true:=decide_eq_true c23;clear c23;by_cases c24:0≤x5_2
        ·rw[if_pos c24]at H
         have c24b0:decide (0≤x5_2)=true:=decide_eq_true c24;clear c24;by_cases c25:x5_2<(t104.length:Int)
         ·rw[if_pos c25]at H
          have c25b0:decide (x5_2<(t104.length:Int))=true:=decide_eq_true c25;clear c25;by_cases c26:(rd t104 x5_2)<0
          ·rw[if_pos c26]at H
           have c26b0:decide ((rd t104 x5_2)<0)=true:=decide_eq_true c26;clear c26;have H':=Aside0.mk H;clear H;obtain⟨Ao27,co27,eo27⟩:=Kd.R_slice HO_4.out;subst eo27;have p114:0≤(x5_2:Int):=of_decide_eq_true (by assumption)
           have q114:x5_2<(t104.length:Int):=of_decide_eq_true (by assumption)
           obtain⟨ad114,e114,hx114_0⟩:=Kd.at_int (Kd.R_reads' HO_4.out).2.2 x5_2 p114 q114;cases e114
           replace p114:=eq_true p114;replace q114:=eq_true q114;go_wp2
           go_roundg k2
           case measure=>have:=HJ4.out;have:=HK2.out;omega
           case rel=>exact⟨(wrap64 (x5_2+1)),(by first|rfl|(simp;done)|(simp[*];done)),H',⟨by have:=HJ4.out;have:=HK2.out;omega⟩,⟨by exact rU HO_3.out⟩,⟨by exact rU HO_4.out⟩,⟨by exact bU HB.out⟩⟩
          ·rw[if_neg c26]at H
           have c26b0:decide ((rd t104 x5_2)<0)=false:=decide_eq_false c26;clear c26;have H':=Aside0.mk H;clear H;obtain⟨Ao28,co28,eo28⟩:=Kd.R_slice HO_4.out;subst eo28;have p114:0≤(x5_2:Int):=of_decide_eq_true (by assumption)
           have q114:x5_2<(t104.length:Int):=of_decide_eq_true (by assumption)
           obtain⟨ad114,e114,hx114_0⟩:=Kd.at_int (Kd.R_reads' HO_4.out).2.2 x5_2 p114 q114;cases e114
           replace p114:=eq_true p114;replace q114:=eq_true q114;have p115:0≤(x5_2:Int):=of_decide_eq_true (by assumption)
           have q115:x5_2<(t101.length:Int):=of_decide_eq_true (by assumption)
           obtain⟨ad115,e115,hx115_0,hx115_1,hx115_2,hx115_3,hx115_4,hx115_5⟩:=at_T29 (Kd.R_reads' HO_3.out).2.2 x5_2 p115 q115;cases e115
           replace p115:=eq_true p115;replace q115:=eq_true q115;go_wp2_with (first|((with_reducible refine gate_dst (N:=6) rfl ?_);(try(refine gate_guard (by rfl) ?_;dsimp only));refine box_event ?hg (N:=6) ?hd (cs:= #[.int .i64 0,.int .i64 0,.int .i64 0,.int .i64 0,.int .i64 0,.int .i64 0]) (t:=29) ?hr ?_;(case hd=>rfl);(case hg=>rfl);(case hr=>first|(go_simp;done)|(go_simp;rfl));intro gb116 hg w29 hbox hb;have n0_:=Aside0.mk (Kd.R_below (Kd.R_elderB (by exact rU HO_3.out) gb116 (Nat.le_of_eq hg.symm)) hb);have n1_:=Aside0.mk (Kd.R_below (by exact rU HO_4.out) hb);have n2_:=Aside0.mk (below_step (by exact bU HB.out) hb);have n3_:=Aside0.mk (hbox);have n4_:=Aside0.mk ((by rw[hg];exact(below_size (by exact bU HB.out)):w.heap.size≤gb116));have n5_:=Aside0.mk ((by rw[hg];exact(below_size (by exact bU HB.out)):w.heap.size≤gb116));clear HO_3;clear HO_4;clear HB;have HO_3:=n0_;have HO_4:=n1_;have HB:=n2_;have BK116:=n3_;have GW116:=n4_;have GE116:=n5_;clear n0_ n1_ n2_ n3_ n4_ n5_;clear hb hbox hg;obtain⟨hcz30_0,hcz30_1,hcz30_2,hcz30_3,hcz30_4,hcz30_5⟩:=six_cells BK116.out;obtain⟨hfz30_0,hfz30_1,hfz30_2,hfz30_3,hfz30_4,hfz30_5⟩:=six_marks BK116.out))
           go_loopg [7] k2 (fun kq v7 w'=> ∃ (x7_3:Int),v7= .int .i64 x7_3∧Aside0 (laws_FnFullStep.l1 kq t101 t104 x5_2 x7_3 ((rd_T29 t101 x5_2).f0) ((rd_T29 t101 x5_2).f1) ((rd_T29 t101 x5_2).f2) ((rd_T29 t101 x5_2).f3) ((rd_T29 t101 x5_2).f4.f0) ((rd_T29 t101 x5_2).f4.f1)=some r)∧Aside0 (kq≤k2)∧Aside0 (Kd.R k29 29 w' w.heap.size (fun k_=>k_≠gb116) (.slice (some ad115) t101.length co7) t101)∧Aside0 (Kd.R (Kd.int .i64) 3 w' w.heap.size (fun _=>True) (.slice (some ad114) t104.length co28) t104)∧Aside0 (w'.heap[gb116]?=some (.cells #[.int .i64 ((rd_T29 t101 x5_2).f0),.int .i64 ((rd_T29 t101 x5_2).f1),.int .i64 ((rd_T29 t101 x5_2).f2),.int .i64 ((rd_T29 t101 x5_2).f3),.int .i64 ((rd_T29 t101 x5_2).f4.f0),.int .i64 ((rd_T29 t101 x5_2).f4.f1)] 29 (0,0)))∧Aside0 (Below w.heap.size w w'))
           case atStart=>exact⟨(0),(by first|rfl|(simp;done)|(simp[*];done)),H',⟨Nat.le_refl _⟩,⟨by(with_reducible repeat(first|apply rA|apply rN|apply rD));exact Kd.R_mono (Kd.R_far (p:=⟨gb116,5,none⟩) (Kd.R_far (p:=⟨gb116,4,none⟩) (Kd.R_far (p:=⟨gb116,3,none⟩) (Kd.R_far (p:=⟨gb116,2,none⟩) (Kd.R_far (p:=⟨gb116,1,none⟩) (Kd.R_far (p:=⟨gb116,0,none⟩) (Kd.R_mono HO_3.out (fun k_ hk=>(⟨hk,hk.2⟩:_∧k_≠gb116))) (fun _ hk=>hk.2) (.int .i64 ((rd_T29 t101 x5_2).f0))) (fun _ hk=>hk.2) (.int .i64 ((rd_T29 t101 x5_2).f1))) (fun _ hk=>hk.2) (.int .i64 ((rd_T29 t101 x5_2).f2))) (fun _ hk=>hk.2) (.int .i64 ((rd_T29 t101 x5_2).f3))) (fun _ hk=>hk.2) (.int .i64 ((rd_T29 t101 x5_2).f4.f0))) (fun _ hk=>hk.2) (.int .i64 ((rd_T29 t101 x5_2).f4.f1))) (fun _ hk=>hk.1.2)⟩,⟨by(with_reducible repeat(first|apply rA|apply rN|apply rD));exact Kd.R_mono (Kd.R_far (p:=⟨gb116,5,none⟩) (Kd.R_far (p:=⟨gb116,4,none⟩) (Kd.R_far (p:=⟨gb116,3,none⟩) (Kd.R_far (p:=⟨gb116,2,none⟩) (Kd.R_far (p:=⟨gb116,1,none⟩) (Kd.R_far (p:=⟨gb116,0,none⟩) (Kd.R_types HO_4.out BK116.out (by decide)) (fun _ hk=>hk.2) (.int .i64 ((rd_T29 t101 x5_2).f0))) (fun _ hk=>hk.2) (.int .i64 ((rd_T29 t101 x5_2).f1))) (fun _ hk=>hk.2) (.int .i64 ((rd_T29 t101 x5_2).f2))) (fun _ hk=>hk.2) (.int .i64 ((rd_T29 t101 x5_2).f3))) (fun _ hk=>hk.2) (.int .i64 ((rd_T29 t101 x5_2).f4.f0))) (fun _ hk=>hk.2) (.int .i64 ((rd_T29 t101 x5_2).f4.f1))) (fun _ hk=>trivial)⟩,⟨by(with_reducible repeat(first|apply kN|apply kD|apply kA));refine blk_put (cs:= #[.int .i64 ((rd_T29 t101 x5_2).f0),.int .i64 ((rd_T29 t101 x5_2).f1),.int .i64 ((rd_T29 t101 x5_2).f2),.int .i64 ((rd_T29 t101 x5_2).f3),.int .i64 ((rd_T29 t101 x5_2).f4.f0),.int .i64 0]) ?_ 5 _ rfl;(with_reducible repeat(first|apply kN|apply kD|apply kA));refine blk_put (cs:= #[.int .i64 ((rd_T29 t101 x5_2).f0),.int .i64 ((rd_T29 t101 x5_2).f1),.int .i64 ((rd_T29 t101 x5_2).f2),.int .i64 ((rd_T29 t101 x5_2).f3),.int .i64 0,.int .i64 0]) ?_ 4 _ rfl;(with_reducible repeat(first|apply kN|apply kD|apply kA));refine blk_put (cs:= #[.int .i64 ((rd_T29 t101 x5_2).f0),.int .i64 ((rd_T29 t101 x5_2).f1),.int .i64 ((rd_T29 t101 x5_2).f2),.int .i64 0,.int .i64 0,.int .i64 0]) ?_ 3 _ rfl;(with_reducible repeat(first|apply kN|apply kD|apply kA));refine blk_put (cs:= #[.int .i64 ((rd_T29 t101 x5_2).f0),.int .i64 ((rd_T29 t101 x5_2).f1),.int .i64 0,.int .i64 0,.int .i64 0,.int .i64 0]) ?_ 2 _ rfl;(with_reducible repeat(first|apply kN|apply kD|apply kA));refine blk_put (cs:= #[.int .i64 ((rd_T29 t101 x5_2).f0),.int .i64 0,.int .i64 0,.int .i64 0,.int .i64 0,.int .i64 0]) ?_ 1 _ rfl;(with_reducible repeat(first|apply kN|apply kD|apply kA));refine blk_put (cs:= #[.int .i64 0,.int .i64 0,.int .i64 0,.int .i64 0,.int .i64 0,.int .i64 0]) ?_ 0 _ rfl;exact blkU BK116.out⟩,⟨by repeat(with_reducible first|exact HB.out|apply bA|apply bN|apply b1|refine below_set ?_ GE116.out)⟩⟩
           case round=>
            clear H';(try clear c1);(try clear p1);(try clear q1);(try clear hx1);(try clear c2);(try clear c2b0);(try clear c2b1);(try clear p2);(try clear c4);(try clear p6);(try clear c10);(try clear p11);(try clear q11);(try clear hx11);(try clear c13);(try clear c17);(try clear c23);(try clear c23b0);(try clear c24);(try clear c24b0);(try clear c25);(try clear c25b0);(try clear c26);(try clear c26b0);(try clear hcz30_0);(try clear hcz30_1);(try clear hcz30_2);(try clear hcz30_3);(try clear hcz30_4);(try clear hcz30_5);(try clear hfz30_0);(try clear hfz30_1);(try clear hfz30_2);(try clear hfz30_3);(try clear hfz30_4);(try clear hfz30_5);(try clear hx114_0);(try clear hx115_0);(try clear hx115_1);(try clear hx115_2);(try clear hx115_3);(try clear hx115_4);(try clear hx115_5);(try clear p114);(try clear p115);(try clear p2);(try clear q114);(try clear q115)
            obtain⟨x7_3,rfl,HA,HK3,HO_3,HO_4,BK116,HB⟩:=hrel;cases gk with
            |zero=>exact absurd HA.out (by simp[laws_FnFullStep.l1])
            |succ k3=>
             have H:=HA.out;clear HA;simp only[laws_FnFullStep.l1]at H
             by_cases c31:x7_3≤3
             ·rw[if_pos c31]at H
              have c31b0:decide (x7_3≤3)=true:=decide_eq_true c31;clear c31;by_cases c32:0≤x5_2
              ·rw[if_pos c32]at H
               have c32b0:decide (0≤x5_2)=true:=decide_eq_true c32;clear c32;by_cases c33:x5_2<(t104.length:Int)
               ·rw[if_pos c33]at H
                have c33b0:decide (x5_2<(t104.length:Int))=true:=decide_eq_true c33;clear c33;replace H:=Option.bind_eq_some_iff.mp H;obtain⟨t118,A340,H⟩:=H;replace H:(if((rd_T29 t101 x5_2).f0)=9 then(laws_FnFullStep.j3 k3 t101 t104 x5_2 x7_3 t118 false ((rd_T29 t101 x5_2).f0) ((rd_T29 t101 x5_2).f1) ((rd_T29 t101 x5_2).f2) ((rd_T29 t101 x5_2).f3) ((rd_T29 t101 x5_2).f4.f0) ((rd_T29 t101 x5_2).f4.f1))else(if((rd_T29 t101 x5_2).f0)=14 then(laws_FnFullStep.j3 k3 t101 t104 x5_2 x7_3 t118 false ((rd_T29 t101 x5_2).f0) ((rd_T29 t101 x5_2).f1) ((rd_T29 t101 x5_2).f2) ((rd_T29 t101 x5_2).f3) ((rd_T29 t101 x5_2).f4.f0) ((rd_T29 t101 x5_2).f4.f1))else(if(wrap64 (x5_2+1))<(t101.length:Int)then(if 0≤(wrap64 (x5_2+1))then(if(wrap64 (x5_2+1))<(t104.length:Int)then((laws_lvBit.f k3 (mx (rd t104 (wrap64 (x5_2+1))) 0) x7_3).bind fun t120=>(if t120=true then(if t118=true then(laws_FnFullStep.j3 k3 t101 t104 x5_2 x7_3 t118 false ((rd_T29 t101 x5_2).f0) ((rd_T29 t101 x5_2).f1) ((rd_T29 t101 x5_2).f2) ((rd_T29 t101 x5_2).f3) ((rd_T29 t101 x5_2).f4.f0) ((rd_T29 t101 x5_2).f4.f1))else((laws_lvFills.f ((rd_T29 t101 x5_2).f0)).bind fun t121=>(if t121=true then(laws_FnFullStep.j3 k3 t101 t104 x5_2 x7_3 t118 (!(((rd_T29 t101 x5_2).f1)==x7_3)) ((rd_T29 t101 x5_2).f0) ((rd_T29 t101 x5_2).f1) ((rd_T29 t101 x5_2).f2) ((rd_T29 t101 x5_2).f3) ((rd_T29 t101 x5_2).f4.f0) ((rd_T29 t101 x5_2).f4.f1))else(laws_FnFullStep.j3 k3 t101 t104 x5_2 x7_3 t118 (!false) ((rd_T29 t101 x5_2).f0) ((rd_T29 t101 x5_2).f1) ((rd_T29 t101 x5_2).f2) ((rd_T29 t101 x5_2).f3) ((rd_T29 t101 x5_2).f4.f0) ((rd_T29 t101 x5_2).f4.f1)))))else(laws_FnFullStep.j3 k3 t101 t104 x5_2 x7_3 t118 false ((rd_T29 t101 x5_2).f0) ((rd_T29 t101 x5_2).f1) ((rd_T29 t101 x5_2).f2) ((rd_T29 t101 x5_2).f3) ((rd_T29 t101 x5_2).f4.f0) ((rd_T29 t101 x5_2).f4.f1))))else(none))else(none))else(laws_FnFullStep.j3 k3 t101 t104 x5_2 x7_3 t118 false ((rd_T29 t101 x5_2).f0) ((rd_T29 t101 x5_2).f1) ((rd_T29 t101 x5_2).f2) ((rd_T29 t101 x5_2).f3) ((rd_T29 t101 x5_2).f4.f0) ((rd_T29 t101 x5_2).f4.f1)))))=some r:=H
                have A34:=Aside0.mk A340;clear A340;have HC35:=Aside0.mk H;clear H;have p117:0≤(x5_2:Int):=of_decide_eq_true (by assumption)
                have q117:x5_2<(t104.length:Int):=of_decide_eq_true (by assumption)
                obtain⟨ad117,e117,hx117_0⟩:=Kd.at_int (Kd.R_reads' HO_4.out).2.2 x5_2 p117 q117;obtain rfl:ad114=ad117:=(by injection e117)
                replace p117:=eq_true p117;replace q117:=eq_true q117;go_upto_region 16 with (first|((with_reducible refine gate_callee (f:=50) rfl ?_);refine goesL_ (some 54) rfl rfl Try.func50 (by kernel_rfl) rfl #[.int .i64 (rd t104 x5_2),.int .i64 x7_3] rfl (by(try simp only[List.map_toArray,List.map_cons,List.map_nil])<;>rfl) ?_;(with_reducible refine(laws_lvBit.calls k3 (rd t104 x5_2) x7_3 t118 _ A34.out).mono ?_);rintro e w' ⟨rfl,⟨nd,rfl⟩⟩;refine⟨_,rfl,?_⟩))
                (try simp only[Act.put,List.setIfInBounds_toArray,List.set_cons_zero,List.set_cons_succ])
                go_cut [95] (fun v95 wc=> ∃ (kq:Nat) (x95_34:Bool),v95= .bool x95_34∧Aside0 (laws_FnFullStep.j3 kq t101 t104 x5_2 x7_3 t118 x95_34 ((rd_T29 t101 x5_2).f0) ((rd_T29 t101 x5_2).f1) ((rd_T29 t101 x5_2).f2) ((rd_T29 t101 x5_2).f3) ((rd_T29 t101 x5_2).f4.f0) ((rd_T29 t101 x5_2).f4.f1)=some r)∧Aside0 (kq≤k3)∧Aside0 (Kd.R k29 29 wc w.heap.size (fun k_=>k_≠gb116) (.slice (some ad115) t101.length co7) t101)∧Aside0 (Kd.R (Kd.int .i64) 3 wc w.heap.size (fun _=>True) (.slice (some ad114) t104.length co28) t104)∧Aside0 (wc.heap[gb116]?=some (.cells #[.int .i64 ((rd_T29 t101 x5_2).f0),.int .i64 ((rd_T29 t101 x5_2).f1),.int .i64 ((rd_T29 t101 x5_2).f2),.int .i64 ((rd_T29 t101 x5_2).f3),.int .i64 ((rd_T29 t101 x5_2).f4.f0),.int .i64 ((rd_T29 t101 x5_2).f4.f1)] 29 (0,0)))∧Aside0 (Below w.heap.size w wc))
                case first=>
                 have H:=HC35.out;clear HC35;by_cases c36:((rd_T29 t101 x5_2).f0)=9
                 ·rw[if_pos c36]at H
                  have c36b0:(((rd_T29 t101 x5_2).f0)==9)=true:=beq_iff_eq.mpr c36;have c36b1:(((rd_T29 t101 x5_2).f0) !=9)=false:=bne_eq_false_iff_eq.mpr c36;clear c36;(first|rw[c36b0]|(simp only[i64_w,i32_w];rw[c36b0])|skip)
                  have H':=Aside0.mk H;clear H;have hcz37_0:wr.cell? ⟨gb116,0,none⟩=some (.int .i64 ((rd_T29 t101 x5_2).f0)):=(blk_cell BK116.out 0).trans rfl;have hcz37_1:wr.cell? ⟨gb116,1,none⟩=some (.int .i64 ((rd_T29 t101 x5_2).f1)):=(blk_cell BK116.out 1).trans rfl;have hcz37_2:wr.cell? ⟨gb116,2,none⟩=some (.int .i64 ((rd_T29 t101 x5_2).f2)):=(blk_cell BK116.out 2).trans rfl;have hcz37_3:wr.cell? ⟨gb116,3,none⟩=some (.int .i64 ((rd_T29 t101 x5_2).f3)):=(blk_cell BK116.out 3).trans rfl;have hcz37_4:wr.cell? ⟨gb116,4,none⟩=some (.int .i64 ((rd_T29 t101 x5_2).f4.f0)):=(blk_cell BK116.out 4).trans rfl;have hcz37_5:wr.cell? ⟨gb116,5,none⟩=some (.int .i64 ((rd_T29 t101 x5_2).f4.f1)):=(blk_cell BK116.out 5).trans rfl;have hfz37_0:=blk_frozen BK116.out 0;have hfz37_1:=blk_frozen BK116.out 1;have hfz37_2:=blk_frozen BK116.out 2;have hfz37_3:=blk_frozen BK116.out 3;have hfz37_4:=blk_frozen BK116.out 4;have hfz37_5:=blk_frozen BK116.out 5;go_wp2
                  go_meet
                  case rel=>exact⟨_,(false),(by first|rfl|(simp;done)|(simp[*];done)),H',⟨by have:=HJ4.out;have:=HK2.out;have:=HK3.out;first|omega|exact Nat.le_refl _⟩,⟨by exact rU HO_3.out⟩,⟨by exact rU HO_4.out⟩,⟨by exact blkU BK116.out⟩,⟨by repeat(with_reducible first|exact HB.out|apply bA|apply bN|apply b1|refine below_set ?_ GE116.out)⟩⟩
                 ·rw[if_neg c36]at H
                  have c36b0:(((rd_T29 t101 x5_2).f0)==9)=false:=beq_eq_false_iff_ne.mpr c36;have c36b1:(((rd_T29 t101 x5_2).f0) !=9)=true:=bne_iff_ne.mpr c36;(first|rw[c36b0]|(simp only[i64_w,i32_w];rw[c36b0])|skip)
                  by_cases c38:((rd_T29 t101 x5_2).f0)=14
                  ·rw[if_pos c38]at H
                   have c38b0:(((rd_T29 t101 x5_2).f0)==14)=true:=beq_iff_eq.mpr c38;have c38b1:(((rd_T29 t101 x5_2).f0) !=14)=false:=bne_eq_false_iff_eq.mpr c38;clear c38;have H':=Aside0.mk H;clear H;have hcz39_0:wr.cell? ⟨gb116,0,none⟩=some (.int .i64 ((rd_T29 t101 x5_2).f0)):=(blk_cell BK116.out 0).trans rfl;have hcz39_1:wr.cell? ⟨gb116,1,none⟩=some (.int .i64 ((rd_T29 t101 x5_2).f1)):=(blk_cell BK116.out 1).trans rfl;have hcz39_2:wr.cell? ⟨gb116,2,none⟩=some (.int .i64 ((rd_T29 t101 x5_2).f2)):=(blk_cell BK116.out 2).trans rfl;have hcz39_3:wr.cell? ⟨gb116,3,none⟩=some (.int .i64 ((rd_T29 t101 x5_2).f3)):=(blk_cell BK116.out 3).trans rfl;have hcz39_4:wr.cell? ⟨gb116,4,none⟩=some (.int .i64 ((rd_T29 t101 x5_2).f4.f0)):=(blk_cell BK116.out 4).trans rfl;have hcz39_5:wr.cell? ⟨gb116,5,none⟩=some (.int .i64 ((rd_T29 t101 x5_2).f4.f1)):=(blk_cell BK116.out 5).trans rfl;have hfz39_0:=blk_frozen BK116.out 0;have hfz39_1:=blk_frozen BK116.out 1;have hfz39_2:=blk_frozen BK116.out 2;have hfz39_3:=blk_frozen BK116.out 3;have hfz39_4:=blk_frozen BK116.out 4;have hfz39_5:=blk_frozen BK116.out 5;go_wp2
                   go_meet
                   case rel=>exact⟨_,(false),(by first|rfl|(simp;done)|(simp[*];done)),H',⟨by have:=HJ4.out;have:=HK2.out;have:=HK3.out;first|omega|exact Nat.le_refl _⟩,⟨by exact rU HO_3.out⟩,⟨by exact rU HO_4.out⟩,⟨by exact blkU BK116.out⟩,⟨by repeat(with_reducible first|exact HB.out|apply bA|apply bN|apply b1|refine below_set ?_ GE116.out)⟩⟩
                  ·rw[if_neg c38]at H
                   have c38b0:(((rd_T29 t101 x5_2).f0)==14)=false:=beq_eq_false_iff_ne.mpr c38;have c38b1:(((rd_T29 t101 x5_2).f0) !=14)=true:=bne_iff_ne.mpr c38;by_cases c40:(wrap64 (x5_2+1))<(t101.length:Int)
                   ·rw[if_pos c40]at H
                    have c40b0:decide ((wrap64 (x5_2+1))<(t101.length:Int))=true:=decide_eq_true c40;clear c40;obtain⟨ji41,hji41⟩: ∃j_:Int,(wrap64 (x5_2+1))=j_:=⟨_,rfl⟩;replace H:(if 0≤(ji41)then(if(ji41)<(t104.length:Int)then((laws_lvBit.f k3 (mx (rd t104 (ji41)) 0) x7_3).bind fun t120=>(if t120=true then(if t118=true then(laws_FnFullStep.j3 k3 t101 t104 x5_2 x7_3 t118 false ((rd_T29 t101 x5_2).f0) ((rd_T29 t101 x5_2).f1) ((rd_T29 t101 x5_2).f2) ((rd_T29 t101 x5_2).f3) ((rd_T29 t101 x5_2).f4.f0) ((rd_T29 t101 x5_2).f4.f1))else((laws_lvFills.f ((rd_T29 t101 x5_2).f0)).bind fun t121=>(if t121=true then(laws_FnFullStep.j3 k3 t101 t104 x5_2 x7_3 t118 (!(((rd_T29 t101 x5_2).f1)==x7_3)) ((rd_T29 t101 x5_2).f0) ((rd_T29 t101 x5_2).f1) ((rd_T29 t101 x5_2).f2) ((rd_T29 t101 x5_2).f3) ((rd_T29 t101 x5_2).f4.f0) ((rd_T29 t101 x5_2).f4.f1))else(laws_FnFullStep.j3 k3 t101 t104 x5_2 x7_3 t118 (!false) ((rd_T29 t101 x5_2).f0) ((rd_T29 t101 x5_2).f1) ((rd_T29 t101 x5_2).f2) ((rd_T29 t101 x5_2).f3) ((rd_T29 t101 x5_2).f4.f0) ((rd_T29 t101 x5_2).f4.f1)))))else(laws_FnFullStep.j3 k3 t101 t104 x5_2 x7_3 t118 false ((rd_T29 t101 x5_2).f0) ((rd_T29 t101 x5_2).f1) ((rd_T29 t101 x5_2).f2) ((rd_T29 t101 x5_2).f3) ((rd_T29 t101 x5_2).f4.f0) ((rd_T29 t101 x5_2).f4.f1))))else(none))else(none))=some r:=by first|(rw[hji41]at H;exact H)|(simp only[hji41]at H⊢;exact H)
                    (try rw[hji41]at c40b0)
                    have hji41w:(IntKind.i64.wrap (x5_2+1))=ji41:=(i64_w _).trans hji41;by_cases c42:0≤(ji41)
                    ·rw[if_pos c42]at H
                     have c42b0:decide (0≤(ji41))=true:=decide_eq_true c42;clear c42;by_cases c43:(ji41)<(t104.length:Int)
                     ·rw[if_pos c43]at H
                      have c43b0:decide ((ji41)<(t104.length:Int))=true:=decide_eq_true c43;clear c43;obtain⟨ji44,hji44⟩: ∃j_:Int,(mx (rd t104 (ji41)) 0)=j_:=⟨_,rfl⟩;replace H:((laws_lvBit.f k3 (ji44) x7_3).bind fun t120=>(if t120=true then(if t118=true then(laws_FnFullStep.j3 k3 t101 t104 x5_2 x7_3 t118 false ((rd_T29 t101 x5_2).f0) ((rd_T29 t101 x5_2).f1) ((rd_T29 t101 x5_2).f2) ((rd_T29 t101 x5_2).f3) ((rd_T29 t101 x5_2).f4.f0) ((rd_T29 t101 x5_2).f4.f1))else((laws_lvFills.f ((rd_T29 t101 x5_2).f0)).bind fun t121=>(if t121=true then(laws_FnFullStep.j3 k3 t101 t104 x5_2 x7_3 t118 (!(((rd_T29 t101 x5_2).f1)==x7_3)) ((rd_T29 t101 x5_2).f0) ((rd_T29 t101 x5_2).f1) ((rd_T29 t101 x5_2).f2) ((rd_T29 t101 x5_2).f3) ((rd_T29 t101 x5_2).f4.f0) ((rd_T29 t101 x5_2).f4.f1))else(laws_FnFullStep.j3 k3 t101 t104 x5_2 x7_3 t118 (!false) ((rd_T29 t101 x5_2).f0) ((rd_T29 t101 x5_2).f1) ((rd_T29 t101 x5_2).f2) ((rd_T29 t101 x5_2).f3) ((rd_T29 t101 x5_2).f4.f0) ((rd_T29 t101 x5_2).f4.f1)))))else(laws_FnFullStep.j3 k3 t101 t104 x5_2 x7_3 t118 false ((rd_T29 t101 x5_2).f0) ((rd_T29 t101 x5_2).f1) ((rd_T29 t101 x5_2).f2) ((rd_T29 t101 x5_2).f3) ((rd_T29 t101 x5_2).f4.f0) ((rd_T29 t101 x5_2).f4.f1))))=some r:=by first|(rw[hji44]at H;exact H)|(simp only[hji44]at H⊢;exact H)
                      have hji44_:(if(rd t104 (ji41))<0 then 0 else(rd t104 (ji41)))=ji44:=hji44
                      replace H:=Option.bind_eq_some_iff.mp H;obtain⟨t120,A450,H⟩:=H;replace H:(if t120=true then(if t118=true then(laws_FnFullStep.j3 k3 t101 t104 x5_2 x7_3 t118 false ((rd_T29 t101 x5_2).f0) ((rd_T29 t101 x5_2).f1) ((rd_T29 t101 x5_2).f2) ((rd_T29 t101 x5_2).f3) ((rd_T29 t101 x5_2).f4.f0) ((rd_T29 t101 x5_2).f4.f1))else((laws_lvFills.f ((rd_T29 t101 x5_2).f0)).bind fun t121=>(if t121=true then(laws_FnFullStep.j3 k3 t101 t104 x5_2 x7_3 t118 (!(((rd_T29 t101 x5_2).f1)==x7_3)) ((rd_T29 t101 x5_2).f0) ((rd_T29 t101 x5_2).f1) ((rd_T29 t101 x5_2).f2) ((rd_T29 t101 x5_2).f3) ((rd_T29 t101 x5_2).f4.f0) ((rd_T29 t101 x5_2).f4.f1))else(laws_FnFullStep.j3 k3 t101 t104 x5_2 x7_3 t118 (!false) ((rd_T29 t101 x5_2).f0) ((rd_T29 t101 x5_2).f1) ((rd_T29 t101 x5_2).f2) ((rd_T29 t101 x5_2).f3) ((rd_T29 t101 x5_2).f4.f0) ((rd_T29 t101 x5_2).f4.f1)))))else(laws_FnFullStep.j3 k3 t101 t104 x5_2 x7_3 t118 false ((rd_T29 t101 x5_2).f0) ((rd_T29 t101 x5_2).f1) ((rd_T29 t101 x5_2).f2) ((rd_T29 t101 x5_2).f3) ((rd_T29 t101 x5_2).f4.f0) ((rd_T29 t101 x5_2).f4.f1)))=some r:=H
                      have A45:=Aside0.mk A450;clear A450;by_cases c46:t120=true
                      ·subst c46
                       have H1:(if t118=true then(laws_FnFullStep.j3 k3 t101 t104 x5_2 x7_3 t118 false ((rd_T29 t101 x5_2).f0) ((rd_T29 t101 x5_2).f1) ((rd_T29 t101 x5_2).f2) ((rd_T29 t101 x5_2).f3) ((rd_T29 t101 x5_2).f4.f0) ((rd_T29 t101 x5_2).f4.f1))else((laws_lvFills.f ((rd_T29 t101 x5_2).f0)).bind fun t121=>(if t121=true then(laws_FnFullStep.j3 k3 t101 t104 x5_2 x7_3 t118 (!(((rd_T29 t101 x5_2).f1)==x7_3)) ((rd_T29 t101 x5_2).f0) ((rd_T29 t101 x5_2).f1) ((rd_T29 t101 x5_2).f2) ((rd_T29 t101 x5_2).f3) ((rd_T29 t101 x5_2).f4.f0) ((rd_T29 t101 x5_2).f4.f1))else(laws_FnFullStep.j3 k3 t101 t104 x5_2 x7_3 t118 (!false) ((rd_T29 t101 x5_2).f0) ((rd_T29 t101 x5_2).f1) ((rd_T29 t101 x5_2).f2) ((rd_T29 t101 x5_2).f3) ((rd_T29 t101 x5_2).f4.f0) ((rd_T29 t101 x5_2).f4.f1)))))=some r:=by rw[if_pos rfl]at H;exact H
                       clear H;have H:=H1;clear H1;by_cases c47:t118=true
                       ·subst c47
                        have H1:(laws_FnFullStep.j3 k3 t101 t104 x5_2 x7_3 true false ((rd_T29 t101 x5_2).f0) ((rd_T29 t101 x5_2).f1) ((rd_T29 t101 x5_2).f2) ((rd_T29 t101 x5_2).f3) ((rd_T29 t101 x5_2).f4.f0) ((rd_T29 t101 x5_2).f4.f1))=some r:=by rw[if_pos rfl]at H;exact H
                        clear H;have H:=H1;clear H1;have H':=Aside0.mk H;clear H;have hcz48_0:wr.cell? ⟨gb116,0,none⟩=some (.int .i64 ((rd_T29 t101 x5_2).f0)):=(blk_cell BK116.out 0).trans rfl;have hcz48_1:wr.cell? ⟨gb116,1,none⟩=some (.int .i64 ((rd_T29 t101 x5_2).f1)):=(blk_cell BK116.out 1).trans rfl;have hcz48_2:wr.cell? ⟨gb116,2,none⟩=some (.int .i64 ((rd_T29 t101 x5_2).f2)):=(blk_cell BK116.out 2).trans rfl;have hcz48_3:wr.cell? ⟨gb116,3,none⟩=some (.int .i64 ((rd_T29 t101 x5_2).f3)):=(blk_cell BK116.out 3).trans rfl;have hcz48_4:wr.cell? ⟨gb116,4,none⟩=some (.int .i64 ((rd_T29 t101 x5_2).f4.f0)):=(blk_cell BK116.out 4).trans rfl;have hcz48_5:wr.cell? ⟨gb116,5,none⟩=some (.int .i64 ((rd_T29 t101 x5_2).f4.f1)):=(blk_cell BK116.out 5).trans rfl;have hfz48_0:=blk_frozen BK116.out 0;have hfz48_1:=blk_frozen BK116.out 1;have hfz48_2:=blk_frozen BK116.out 2;have hfz48_3:=blk_frozen BK116.out 3;have hfz48_4:=blk_frozen BK116.out 4;have hfz48_5:=blk_frozen BK116.out 5;have p119:0≤((ji41):Int):=of_decide_eq_true (by assumption)
                        have q119:(ji41)<(t104.length:Int):=of_decide_eq_true (by assumption)
                        obtain⟨ad119,e119,hx119_0⟩:=Kd.at_int (Kd.R_reads' HO_4.out).2.2 (ji41) p119 q119;obtain rfl:ad114=ad119:=(by injection e119)
                        replace p119:=eq_true p119;replace q119:=eq_true q119;go_wp2_with (first|(go_at_call 50;(with_reducible refine(laws_lvBit.calls k3 ji44 x7_3 true _ A45.out).mono ?_);rintro e w' ⟨rfl,⟨nd,rfl⟩⟩))
                        go_meet
                        case rel=>exact⟨_,(false),(by first|rfl|(simp;done)|(simp[*];done)),H',⟨by have:=HJ4.out;have:=HK2.out;have:=HK3.out;first|omega|exact Nat.le_refl _⟩,⟨by exact rU HO_3.out⟩,⟨by exact rU HO_4.out⟩,⟨by exact blkU BK116.out⟩,⟨by repeat(with_reducible first|exact HB.out|apply bA|apply bN|apply b1|refine below_set ?_ GE116.out)⟩⟩
                       ·replace c47:=Bool.eq_false_iff.mpr c47
                        subst c47;have H1:((laws_lvFills.f ((rd_T29 t101 x5_2).f0)).bind fun t121=>(if t121=true then(laws_FnFullStep.j3 k3 t101 t104 x5_2 x7_3 false (!(((rd_T29 t101 x5_2).f1)==x7_3)) ((rd_T29 t101 x5_2).f0) ((rd_T29 t101 x5_2).f1) ((rd_T29 t101 x5_2).f2) ((rd_T29 t101 x5_2).f3) ((rd_T29 t101 x5_2).f4.f0) ((rd_T29 t101 x5_2).f4.f1))else(laws_FnFullStep.j3 k3 t101 t104 x5_2 x7_3 false (!false) ((rd_T29 t101 x5_2).f0) ((rd_T29 t101 x5_2).f1) ((rd_T29 t101 x5_2).f2) ((rd_T29 t101 x5_2).f3) ((rd_T29 t101 x5_2).f4.f0) ((rd_T29 t101 x5_2).f4.f1))))=some r:=by rw[if_neg (show¬(false=true) by decide)]at H;exact H
                        clear H;have H:=H1;clear H1;replace H:=Option.bind_eq_some_iff.mp H;obtain⟨t121,A490,H⟩:=H;replace H:(if t121=true then(laws_FnFullStep.j3 k3 t101 t104 x5_2 x7_3 false (!(((rd_T29 t101 x5_2).f1)==x7_3)) ((rd_T29 t101 x5_2).f0) ((rd_T29 t101 x5_2).f1) ((rd_T29 t101 x5_2).f2) ((rd_T29 t101 x5_2).f3) ((rd_T29 t101 x5_2).f4.f0) ((rd_T29 t101 x5_2).f4.f1))else(laws_FnFullStep.j3 k3 t101 t104 x5_2 x7_3 false (!false) ((rd_T29 t101 x5_2).f0) ((rd_T29 t101 x5_2).f1) ((rd_T29 t101 x5_2).f2) ((rd_T29 t101 x5_2).f3) ((rd_T29 t101 x5_2).f4.f0) ((rd_T29 t101 x5_2).f4.f1)))=some r:=H
                        have A49:=Aside0.mk A490;clear A490;by_cases c50:t121=true
                        ·subst c50
                         have H1:(laws_FnFullStep.j3 k3 t101 t104 x5_2 x7_3 false (!(((rd_T29 t101 x5_2).f1)==x7_3)) ((rd_T29 t101 x5_2).f0) ((rd_T29 t101 x5_2).f1) ((rd_T29 t101 x5_2).f2) ((rd_T29 t101 x5_2).f3) ((rd_T29 t101 x5_2).f4.f0) ((rd_T29 t101 x5_2).f4.f1))=some r:=by rw[if_pos rfl]at H;exact H
                         clear H;have H:=H1;clear H1;have H':=Aside0.mk H;clear H;have hcz51_0:wr.cell? ⟨gb116,0,none⟩=some (.int .i64 ((rd_T29 t101 x5_2).f0)):=(blk_cell BK116.out 0).trans rfl;have hcz51_1:wr.cell? ⟨gb116,1,none⟩=some (.int .i64 ((rd_T29 t101 x5_2).f1)):=(blk_cell BK116.out 1).trans rfl;have hcz51_2:wr.cell? ⟨gb116,2,none⟩=some (.int .i64 ((rd_T29 t101 x5_2).f2)):=(blk_cell BK116.out 2).trans rfl;have hcz51_3:wr.cell? ⟨gb116,3,none⟩=some (.int .i64 ((rd_T29 t101 x5_2).f3)):=(blk_cell BK116.out 3).trans rfl;have hcz51_4:wr.cell? ⟨gb116,4,none⟩=some (.int .i64 ((rd_T29 t101 x5_2).f4.f0)):=(blk_cell BK116.out 4).trans rfl;have hcz51_5:wr.cell? ⟨gb116,5,none⟩=some (.int .i64 ((rd_T29 t101 x5_2).f4.f1)):=(blk_cell BK116.out 5).trans rfl;have hfz51_0:=blk_frozen BK116.out 0;have hfz51_1:=blk_frozen BK116.out 1;have hfz51_2:=blk_frozen BK116.out 2;have hfz51_3:=blk_frozen BK116.out 3;have hfz51_4:=blk_frozen BK116.out 4;have hfz51_5:=blk_frozen BK116.out 5;have p119:0≤((ji41):Int):=of_decide_eq_true (by assumption)
                         have q119:(ji41)<(t104.length:Int):=of_decide_eq_true (by assumption)
                         obtain⟨ad119,e119,hx119_0⟩:=Kd.at_int (Kd.R_reads' HO_4.out).2.2 (ji41) p119 q119;obtain rfl:ad114=ad119:=(by injection e119)
                         replace p119:=eq_true p119;replace q119:=eq_true q119;go_wp2_with (first|(go_at_call 50;(with_reducible refine(laws_lvBit.calls k3 ji44 x7_3 true _ A45.out).mono ?_);rintro e w' ⟨rfl,⟨nd,rfl⟩⟩)|(go_at_call 51;(with_reducible refine(laws_lvFills.calls ((rd_T29 t101 x5_2).f0) true _ A49.out).mono ?_);rintro e w' ⟨rfl,⟨nd,rfl⟩⟩))
                         go_meet
                         case rel=>exact⟨_,(!(((rd_T29 t101 x5_2).f1)==x7_3)),(by first|rfl|(simp;done)|(simp[*];done)),H',⟨by have:=HJ4.out;have:=HK2.out;have:=HK3.out;first|omega|exact Nat.le_refl _⟩,⟨by exact rU HO_3.out⟩,⟨by exact rU HO_4.out⟩,⟨by exact blkU BK116.out⟩,⟨by repeat(with_reducible first|exact HB.out|apply bA|apply bN|apply b1|refine below_set ?_ GE116.out)⟩⟩
                        ·replace c50:=Bool.eq_false_iff.mpr c50
                         subst c50;have H1:(laws_FnFullStep.j3 k3 t101 t104 x5_2 x7_3 false (!false) ((rd_T29 t101 x5_2).f0) ((rd_T29 t101 x5_2).f1) ((rd_T29 t101 x5_2).f2) ((rd_T29 t101 x5_2).f3) ((rd_T29 t101 x5_2).f4.f0) ((rd_T29 t101 x5_2).f4.f1))=some r:=by rw[if_neg (show¬(false=true) by decide)]at H;exact H
                         clear H;have H:=H1;clear H1;have H':=Aside0.mk H;clear H;have hcz52_0:wr.cell? ⟨gb116,0,none⟩=some (.int .i64 ((rd_T29 t101 x5_2).f0)):=(blk_cell BK116.out 0).trans rfl;have hcz52_1:wr.cell? ⟨gb116,1,none⟩=some (.int .i64 ((rd_T29 t101 x5_2).f1)):=(blk_cell BK116.out 1).trans rfl;have hcz52_2:wr.cell? ⟨gb116,2,none⟩=some (.int .i64 ((rd_T29 t101 x5_2).f2)):=(blk_cell BK116.out 2).trans rfl;have hcz52_3:wr.cell? ⟨gb116,3,none⟩=some (.int .i64 ((rd_T29 t101 x5_2).f3)):=(blk_cell BK116.out 3).trans rfl;have hcz52_4:wr.cell? ⟨gb116,4,none⟩=some (.int .i64 ((rd_T29 t101 x5_2).f4.f0)):=(blk_cell BK116.out 4).trans rfl;have hcz52_5:wr.cell? ⟨gb116,5,none⟩=some (.int .i64 ((rd_T29 t101 x5_2).f4.f1)):=(blk_cell BK116.out 5).trans rfl;have hfz52_0:=blk_frozen BK116.out 0;have hfz52_1:=blk_frozen BK116.out 1;have hfz52_2:=blk_frozen BK116.out 2;have hfz52_3:=blk_frozen BK116.out 3;have hfz52_4:=blk_frozen BK116.out 4;have hfz52_5:=blk_frozen BK116.out 5;have p119:0≤((ji41):Int):=of_decide_eq_true (by assumption)
                         have q119:(ji41)<(t104.length:Int):=of_decide_eq_true (by assumption)
                         obtain⟨ad119,e119,hx119_0⟩:=Kd.at_int (Kd.R_reads' HO_4.out).2.2 (ji41) p119 q119;obtain rfl:ad114=ad119:=(by injection e119)
                         replace p119:=eq_true p119;replace q119:=eq_true q119;go_wp2_with (first|(go_at_call 50;(with_reducible refine(laws_lvBit.calls k3 ji44 x7_3 true _ A45.out).mono ?_);rintro e w' ⟨rfl,⟨nd,rfl⟩⟩)|(go_at_call 51;(with_reducible refine(laws_lvFills.calls ((rd_T29 t101 x5_2).f0) false _ A49.out).mono ?_);rintro e w' ⟨rfl,⟨nd,rfl⟩⟩))
                         go_meet
                         case rel=>exact⟨_,(!false),(by first|rfl|(simp;done)|(simp[*];done)),H',⟨by have:=HJ4.out;have:=HK2.out;have:=HK3.out;first|omega|exact Nat.le_refl _⟩,⟨by exact rU HO_3.out⟩,⟨by exact rU HO_4.out⟩,⟨by exact blkU BK116.out⟩,⟨by repeat(with_reducible first|exact HB.out|apply bA|apply bN|apply b1|refine below_set ?_ GE116.out)⟩⟩
                      ·replace c46:=Bool.eq_false_iff.mpr c46
                       subst c46;have H1:(laws_FnFullStep.j3 k3 t101 t104 x5_2 x7_3 t118 false ((rd_T29 t101 x5_2).f0) ((rd_T29 t101 x5_2).f1) ((rd_T29 t101 x5_2).f2) ((rd_T29 t101 x5_2).f3) ((rd_T29 t101 x5_2).f4.f0) ((rd_T29 t101 x5_2).f4.f1))=some r:=by rw[if_neg (show¬(false=true) by decide)]at H;exact H
                       clear H;have H:=H1;clear H1;have H':=Aside0.mk H;clear H;have hcz53_0:wr.cell? ⟨gb116,0,none⟩=some (.int .i64 ((rd_T29 t101 x5_2).f0)):=(blk_cell BK116.out 0).trans rfl;have hcz53_1:wr.cell? ⟨gb116,1,none⟩=some (.int .i64 ((rd_T29 t101 x5_2).f1)):=(blk_cell BK116.out 1).trans rfl;have hcz53_2:wr.cell? ⟨gb116,2,none⟩=some (.int .i64 ((rd_T29 t101 x5_2).f2)):=(blk_cell BK116.out 2).trans rfl;have hcz53_3:wr.cell? ⟨gb116,3,none⟩=some (.int .i64 ((rd_T29 t101 x5_2).f3)):=(blk_cell BK116.out 3).trans rfl;have hcz53_4:wr.cell? ⟨gb116,4,none⟩=some (.int .i64 ((rd_T29 t101 x5_2).f4.f0)):=(blk_cell BK116.out 4).trans rfl;have hcz53_5:wr.cell? ⟨gb116,5,none⟩=some (.int .i64 ((rd_T29 t101 x5_2).f4.f1)):=(blk_cell BK116.out 5).trans rfl;have hfz53_0:=blk_frozen BK116.out 0;have hfz53_1:=blk_frozen BK116.out 1;have hfz53_2:=blk_frozen BK116.out 2;have hfz53_3:=blk_frozen BK116.out 3;have hfz53_4:=blk_frozen BK116.out 4;have hfz53_5:=blk_frozen BK116.out 5;have p119:0≤((ji41):Int):=of_decide_eq_true (by assumption)
                       have q119:(ji41)<(t104.length:Int):=of_decide_eq_true (by assumption)
                       obtain⟨ad119,e119,hx119_0⟩:=Kd.at_int (Kd.R_reads' HO_4.out).2.2 (ji41) p119 q119;obtain rfl:ad114=ad119:=(by injection e119)
                       replace p119:=eq_true p119;replace q119:=eq_true q119;go_wp2_with (first|(go_at_call 50;(with_reducible refine(laws_lvBit.calls k3 ji44 x7_3 false _ A45.out).mono ?_);rintro e w' ⟨rfl,⟨nd,rfl⟩⟩))
                       go_meet
                       case rel=>exact⟨_,(false),(by first|rfl|(simp;done)|(simp[*];done)),H',⟨by have:=HJ4.out;have:=HK2.out;have:=HK3.out;first|omega|exact Nat.le_refl _⟩,⟨by exact rU HO_3.out⟩,⟨by exact rU HO_4.out⟩,⟨by exact blkU BK116.out⟩,⟨by repeat(with_reducible first|exact HB.out|apply bA|apply bN|apply b1|refine below_set ?_ GE116.out)⟩⟩
                     ·rw[if_neg c43]at H
                      exact absurd H (by simp)
                    ·rw[if_neg c42]at H
                     exact absurd H (by simp)
                   ·rw[if_neg c40]at H
                    have c40b0:decide ((wrap64 (x5_2+1))<(t101.length:Int))=false:=decide_eq_false c40;clear c40;have H':=Aside0.mk H;clear H;have hcz54_0:wr.cell? ⟨gb116,0,none⟩=some (.int .i64 ((rd_T29 t101 x5_2).f0)):=(blk_cell BK116.out 0).trans rfl;have hcz54_1:wr.cell? ⟨gb116,1,none⟩=some (.int .i64 ((rd_T29 t101 x5_2).f1)):=(blk_cell BK116.out 1).trans rfl;have hcz54_2:wr.cell? ⟨gb116,2,none⟩=some (.int .i64 ((rd_T29 t101 x5_2).f2)):=(blk_cell BK116.out 2).trans rfl;have hcz54_3:wr.cell? ⟨gb116,3,none⟩=some (.int .i64 ((rd_T29 t101 x5_2).f3)):=(blk_cell BK116.out 3).trans rfl;have hcz54_4:wr.cell? ⟨gb116,4,none⟩=some (.int .i64 ((rd_T29 t101 x5_2).f4.f0)):=(blk_cell BK116.out 4).trans rfl;have hcz54_5:wr.cell? ⟨gb116,5,none⟩=some (.int .i64 ((rd_T29 t101 x5_2).f4.f1)):=(blk_cell BK116.out 5).trans rfl;have hfz54_0:=blk_frozen BK116.out 0;have hfz54_1:=blk_frozen BK116.out 1;have hfz54_2:=blk_frozen BK116.out 2;have hfz54_3:=blk_frozen BK116.out 3;have hfz54_4:=blk_frozen BK116.out 4;have hfz54_5:=blk_frozen BK116.out 5;go_wp2
                    go_meet
                    case rel=>exact⟨_,(false),(by first|rfl|(simp;done)|(simp[*];done)),H',⟨by have:=HJ4.out;have:=HK2.out;have:=HK3.out;first|omega|exact Nat.le_refl _⟩,⟨by exact rU HO_3.out⟩,⟨by exact rU HO_4.out⟩,⟨by exact blkU BK116.out⟩,⟨by repeat(with_reducible first|exact HB.out|apply bA|apply bN|apply b1|refine below_set ?_ GE116.out)⟩⟩
                case rest=>
                 clear HC35;(try clear c1);(try clear p1);(try clear q1);(try clear hx1);(try clear c2);(try clear c2b0);(try clear c2b1);(try clear p2);(try clear c3);(try clear c4);(try clear c5);(try clear p6);(try clear c10);(try clear p11);(try clear q11);(try clear hx11);(try clear c13);(try clear c17);(try clear c23);(try clear c23b0);(try clear c24);(try clear c24b0);(try clear c25);(try clear c25b0);(try clear c26);(try clear c26b0);(try clear c31);(try clear c31b0);(try clear c32);(try clear c32b0);(try clear c33);(try clear c33b0);(try clear c36);(try clear c36b0);(try clear c36b1);(try clear c38);(try clear c38b0);(try clear c38b1);(try clear c40);(try clear c40b0);(try clear c42);(try clear c42b0);(try clear c43);(try clear c43b0);(try clear c44);(try clear c46);(try clear c47);(try clear c48);(try clear c49);(try clear c50);(try clear hcz30_0);(try clear hcz30_1);(try clear hcz30_2);(try clear hcz30_3);(try clear hcz30_4);(try clear hcz30_5);(try clear hcz37_0);(try clear hcz37_1);(try clear hcz37_2);(try clear hcz37_3);(try clear hcz37_4);(try clear hcz37_5);(try clear hcz39_0);(try clear hcz39_1);(try clear hcz39_2);(try clear hcz39_3);(try clear hcz39_4);(try clear hcz39_5);(try clear hcz48_0);(try clear hcz48_1);(try clear hcz48_2);(try clear hcz48_3);(try clear hcz48_4);(try clear hcz48_5);(try clear hcz51_0);(try clear hcz51_1);(try clear hcz51_2);(try clear hcz51_3);(try clear hcz51_4);(try clear hcz51_5);(try clear hcz52_0);(try clear hcz52_1);(try clear hcz52_2);(try clear hcz52_3);(try clear hcz52_4);(try clear hcz52_5);(try clear hcz53_0);(try clear hcz53_1);(try clear hcz53_2);(try clear hcz53_3);(try clear hcz53_4);(try clear hcz53_5);(try clear hcz54_0);(try clear hcz54_1);(try clear hcz54_2);(try clear hcz54_3);(try clear hcz54_4);(try clear hcz54_5);(try clear hfz30_0);(try clear hfz30_1);(try clear hfz30_2);(try clear hfz30_3);(try clear hfz30_4);(try clear hfz30_5);(try clear hfz37_0);(try clear hfz37_1);(try clear hfz37_2);(try clear hfz37_3);(try clear hfz37_4);(try clear hfz37_5);(try clear hfz39_0);(try clear hfz39_1);(try clear hfz39_2);(try clear hfz39_3);(try clear hfz39_4);(try clear hfz39_5);(try clear hfz48_0);(try clear hfz48_1);(try clear hfz48_2);(try clear hfz48_3);(try clear hfz48_4);(try clear hfz48_5);(try clear hfz51_0);(try clear hfz51_1);(try clear hfz51_2);(try clear hfz51_3);(try clear hfz51_4);(try clear hfz51_5);(try clear hfz52_0);(try clear hfz52_1);(try clear hfz52_2);(try clear hfz52_3);(try clear hfz52_4);(try clear hfz52_5);(try clear hfz53_0);(try clear hfz53_1);(try clear hfz53_2);(try clear hfz53_3);(try clear hfz53_4);(try clear hfz53_5);(try clear hfz54_0);(try clear hfz54_1);(try clear hfz54_2);(try clear hfz54_3);(try clear hfz54_4);(try clear hfz54_5);(try clear hx114_0);(try clear hx115_0);(try clear hx115_1);(try clear hx115_2);(try clear hx115_3);(try clear hx115_4);(try clear hx115_5);(try clear hx117_0);(try clear hx119_0);(try clear p1);(try clear p11);(try clear p114);(try clear p115);(try clear p117);(try clear p119);(try clear p2);(try clear p6);(try clear q1);(try clear q11);(try clear q114);(try clear q115);(try clear q117);(try clear q119)
                 obtain⟨kq,x95_34,rfl,HA,HJ34,HO_3,HO_4,BK116,HB⟩:=hcut;cases kq with
                 |zero=>exact absurd HA.out (by simp[laws_FnFullStep.j3])
                 |succ kj34=>
                  have H:=HA.out;clear HA;simp only[laws_FnFullStep.j3]at H
                  by_cases c55:x95_34=true
                  ·subst c55
                   have H1:(some false)=some r:=by rw[if_pos rfl]at H;exact H
                   clear H;have H:=H1;clear H1;obtain rfl:=Option.some.inj H;go_wp2
                   go_ret
                   exact⟨by first|rfl|(simp[errW_none,errW_some]<;>rfl)|(simp[*,errW_none,errW_some]<;>rfl),by repeat(with_reducible first|exact HB.out|apply bA|apply bN|apply b1|refine below_set ?_ GE116.out)⟩
                  ·replace c55:=Bool.eq_false_iff.mpr c55
                   subst c55;have H1:(if((rd_T29 t101 x5_2).f0)=9 then(if 0≤((rd_T29 t101 x5_2).f3)then(if((rd_T29 t101 x5_2).f3)<(t104.length:Int)then((laws_lvBit.f kj34 (mx (rd t104 ((rd_T29 t101 x5_2).f3)) 0) x7_3).bind fun t123=>(if t123=true then(laws_FnFullStep.j4 kj34 t101 t104 x5_2 x7_3 (!t118) ((rd_T29 t101 x5_2).f0) ((rd_T29 t101 x5_2).f1) ((rd_T29 t101 x5_2).f2) ((rd_T29 t101 x5_2).f3) ((rd_T29 t101 x5_2).f4.f0) ((rd_T29 t101 x5_2).f4.f1))else(laws_FnFullStep.j4 kj34 t101 t104 x5_2 x7_3 false ((rd_T29 t101 x5_2).f0) ((rd_T29 t101 x5_2).f1) ((rd_T29 t101 x5_2).f2) ((rd_T29 t101 x5_2).f3) ((rd_T29 t101 x5_2).f4.f0) ((rd_T29 t101 x5_2).f4.f1))))else(none))else(none))else(if((rd_T29 t101 x5_2).f0)=10 then(if 0≤((rd_T29 t101 x5_2).f3)then(if((rd_T29 t101 x5_2).f3)<(t104.length:Int)then((laws_lvBit.f kj34 (mx (rd t104 ((rd_T29 t101 x5_2).f3)) 0) x7_3).bind fun t125=>(if t125=true then(laws_FnFullStep.j4 kj34 t101 t104 x5_2 x7_3 (!t118) ((rd_T29 t101 x5_2).f0) ((rd_T29 t101 x5_2).f1) ((rd_T29 t101 x5_2).f2) ((rd_T29 t101 x5_2).f3) ((rd_T29 t101 x5_2).f4.f0) ((rd_T29 t101 x5_2).f4.f1))else(laws_FnFullStep.j4 kj34 t101 t104 x5_2 x7_3 false ((rd_T29 t101 x5_2).f0) ((rd_T29 t101 x5_2).f1) ((rd_T29 t101 x5_2).f2) ((rd_T29 t101 x5_2).f3) ((rd_T29 t101 x5_2).f4.f0) ((rd_T29 t101 x5_2).f4.f1))))else(none))else(none))else(if((rd_T29 t101 x5_2).f0)=8 then(if 0≤((rd_T29 t101 x5_2).f3)then(if((rd_T29 t101 x5_2).f3)<(t104.length:Int)then((laws_lvBit.f kj34 (mx (rd t104 ((rd_T29 t101 x5_2).f3)) 0) x7_3).bind fun t127=>(if t127=true then(laws_FnFullStep.j4 kj34 t101 t104 x5_2 x7_3 (!t118) ((rd_T29 t101 x5_2).f0) ((rd_T29 t101 x5_2).f1) ((rd_T29 t101 x5_2).f2) ((rd_T29 t101 x5_2).f3) ((rd_T29 t101 x5_2).f4.f0) ((rd_T29 t101 x5_2).f4.f1))else(laws_FnFullStep.j4 kj34 t101 t104 x5_2 x7_3 false ((rd_T29 t101 x5_2).f0) ((rd_T29 t101 x5_2).f1) ((rd_T29 t101 x5_2).f2) ((rd_T29 t101 x5_2).f3) ((rd_T29 t101 x5_2).f4.f0) ((rd_T29 t101 x5_2).f4.f1))))else(none))else(none))else(laws_FnFullStep.j4 kj34 t101 t104 x5_2 x7_3 false ((rd_T29 t101 x5_2).f0) ((rd_T29 t101 x5_2).f1) ((rd_T29 t101 x5_2).f2) ((rd_T29 t101 x5_2).f3) ((rd_T29 t101 x5_2).f4.f0) ((rd_T29 t101 x5_2).f4.f1)))))=some r:=by rw[if_neg (show¬(false=true) by decide)]at H;exact H
                   clear H;have H:=H1;clear H1;have HC56:=Aside0.mk H;clear H;go_upto_region 18 with (fail)
                   go_cut [122] (fun v122 wc=> ∃ (kq:Nat) (x122_55:Bool),v122= .bool x122_55∧Aside0 (laws_FnFullStep.j4 kq t101 t104 x5_2 x7_3 x122_55 ((rd_T29 t101 x5_2).f0) ((rd_T29 t101 x5_2).f1) ((rd_T29 t101 x5_2).f2) ((rd_T29 t101 x5_2).f3) ((rd_T29 t101 x5_2).f4.f0) ((rd_T29 t101 x5_2).f4.f1)=some r)∧Aside0 (kq≤kj34)∧Aside0 (Kd.R k29 29 wc w.heap.size (fun k_=>k_≠gb116) (.slice (some ad115) t101.length co7) t101)∧Aside0 (Kd.R (Kd.int .i64) 3 wc w.heap.size (fun _=>True) (.slice (some ad114) t104.length co28) t104)∧Aside0 (wc.heap[gb116]?=some (.cells #[.int .i64 ((rd_T29 t101 x5_2).f0),.int .i64 ((rd_T29 t101 x5_2).f1),.int .i64 ((rd_T29 t101 x5_2).f2),.int .i64 ((rd_T29 t101 x5_2).f3),.int .i64 ((rd_T29 t101 x5_2).f4.f0),.int .i64 ((rd_T29 t101 x5_2).f4.f1)] 29 (0,0)))∧Aside0 (Below w.heap.size w wc))
                   case first=>
                    have H:=HC56.out;clear HC56;by_cases c57:((rd_T29 t101 x5_2).f0)=9
                    ·rw[if_pos c57]at H
                     have c57b0:(((rd_T29 t101 x5_2).f0)==9)=true:=beq_iff_eq.mpr c57;have c57b1:(((rd_T29 t101 x5_2).f0) !=9)=false:=bne_eq_false_iff_eq.mpr c57;clear c57;(first|rw[c57b0]|(simp only[i64_w,i32_w];rw[c57b0])|skip)
                     by_cases c58:0≤((rd_T29 t101 x5_2).f3)
                     ·rw[if_pos c58]at H
                      have c58b0:decide (0≤((rd_T29 t101 x5_2).f3))=true:=decide_eq_true c58;clear c58;by_cases c59:((rd_T29 t101 x5_2).f3)<(t104.length:Int)
                      ·rw[if_pos c59]at H
                       have c59b0:decide (((rd_T29 t101 x5_2).f3)<(t104.length:Int))=true:=decide_eq_true c59;clear c59;obtain⟨ji60,hji60⟩: ∃j_:Int,(mx (rd t104 ((rd_T29 t101 x5_2).f3)) 0)=j_:=⟨_,rfl⟩;replace H:((laws_lvBit.f kj34 (ji60) x7_3).bind fun t123=>(if t123=true then(laws_FnFullStep.j4 kj34 t101 t104 x5_2 x7_3 (!t118) ((rd_T29 t101 x5_2).f0) ((rd_T29 t101 x5_2).f1) ((rd_T29 t101 x5_2).f2) ((rd_T29 t101 x5_2).f3) ((rd_T29 t101 x5_2).f4.f0) ((rd_T29 t101 x5_2).f4.f1))else(laws_FnFullStep.j4 kj34 t101 t104 x5_2 x7_3 false ((rd_T29 t101 x5_2).f0) ((rd_T29 t101 x5_2).f1) ((rd_T29 t101 x5_2).f2) ((rd_T29 t101 x5_2).f3) ((rd_T29 t101 x5_2).f4.f0) ((rd_T29 t101 x5_2).f4.f1))))=some r:=by first|(rw[hji60]at H;exact H)|(simp only[hji60]at H⊢;exact H)
                       have hji60_:(if(rd t104 ((rd_T29 t101 x5_2).f3))<0 then 0 else(rd t104 ((rd_T29 t101 x5_2).f3)))=ji60:=hji60
                       replace H:=Option.bind_eq_some_iff.mp H;obtain⟨t123,A610,H⟩:=H;replace H:(if t123=true then(laws_FnFullStep.j4 kj34 t101 t104 x5_2 x7_3 (!t118) ((rd_T29 t101 x5_2).f0) ((rd_T29 t101 x5_2).f1) ((rd_T29 t101 x5_2).f2) ((rd_T29 t101 x5_2).f3) ((rd_T29 t101 x5_2).f4.f0) ((rd_T29 t101 x5_2).f4.f1))else(laws_FnFullStep.j4 kj34 t101 t104 x5_2 x7_3 false ((rd_T29 t101 x5_2).f0) ((rd_T29 t101 x5_2).f1) ((rd_T29 t101 x5_2).f2) ((rd_T29 t101 x5_2).f3) ((rd_T29 t101 x5_2).f4.f0) ((rd_T29 t101 x5_2).f4.f1)))=some r:=H
                       have A61:=Aside0.mk A610;clear A610;by_cases c62:t123=true
                       ·subst c62
                        have H1:(laws_FnFullStep.j4 kj34 t101 t104 x5_2 x7_3 (!t118) ((rd_T29 t101 x5_2).f0) ((rd_T29 t101 x5_2).f1) ((rd_T29 t101 x5_2).f2) ((rd_T29 t101 x5_2).f3) ((rd_T29 t101 x5_2).f4.f0) ((rd_T29 t101 x5_2).f4.f1))=some r:=by rw[if_pos rfl]at H;exact H
                        clear H;have H:=H1;clear H1;have H':=Aside0.mk H;clear H;have hcz63_0:wc.cell? ⟨gb116,0,none⟩=some (.int .i64 ((rd_T29 t101 x5_2).f0)):=(blk_cell BK116.out 0).trans rfl;have hcz63_1:wc.cell? ⟨gb116,1,none⟩=some (.int .i64 ((rd_T29 t101 x5_2).f1)):=(blk_cell BK116.out 1).trans rfl;have hcz63_2:wc.cell? ⟨gb116,2,none⟩=some (.int .i64 ((rd_T29 t101 x5_2).f2)):=(blk_cell BK116.out 2).trans rfl;have hcz63_3:wc.cell? ⟨gb116,3,none⟩=some (.int .i64 ((rd_T29 t101 x5_2).f3)):=(blk_cell BK116.out 3).trans rfl;have hcz63_4:wc.cell? ⟨gb116,4,none⟩=some (.int .i64 ((rd_T29 t101 x5_2).f4.f0)):=(blk_cell BK116.out 4).trans rfl;have hcz63_5:wc.cell? ⟨gb116,5,none⟩=some (.int .i64 ((rd_T29 t101 x5_2).f4.f1)):=(blk_cell BK116.out 5).trans rfl;have hfz63_0:=blk_frozen BK116.out 0;have hfz63_1:=blk_frozen BK116.out 1;have hfz63_2:=blk_frozen BK116.out 2;have hfz63_3:=blk_frozen BK116.out 3;have hfz63_4:=blk_frozen BK116.out 4;have hfz63_5:=blk_frozen BK116.out 5;have p122:0≤(((rd_T29 t101 x5_2).f3):Int):=of_decide_eq_true (by assumption)
                        have q122:((rd_T29 t101 x5_2).f3)<(t104.length:Int):=of_decide_eq_true (by assumption)
                        obtain⟨ad122,e122,hx122_0⟩:=Kd.at_int (Kd.R_reads' HO_4.out).2.2 ((rd_T29 t101 x5_2).f3) p122 q122;obtain rfl:ad114=ad122:=(by injection e122)
                        replace p122:=eq_true p122;replace q122:=eq_true q122;go_wp2_with (first|(go_at_call 50;(with_reducible refine(laws_lvBit.calls kj34 ji60 x7_3 true _ A61.out).mono ?_);rintro e w' ⟨rfl,⟨nd,rfl⟩⟩))
                        go_meet
                        case rel=>exact⟨_,(!t118),(by first|rfl|(simp;done)|(simp[*];done)),H',⟨by have:=HJ4.out;have:=HK2.out;have:=HK3.out;have:=HJ34.out;first|omega|exact Nat.le_refl _⟩,⟨by exact rU HO_3.out⟩,⟨by exact rU HO_4.out⟩,⟨by exact blkU BK116.out⟩,⟨by repeat(with_reducible first|exact HB.out|apply bA|apply bN|apply b1|refine below_set ?_ GE116.out)⟩⟩
                       ·replace c62:=Bool.eq_false_iff.mpr c62
                        subst c62;have H1:(laws_FnFullStep.j4 kj34 t101 t104 x5_2 x7_3 false ((rd_T29 t101 x5_2).f0) ((rd_T29 t101 x5_2).f1) ((rd_T29 t101 x5_2).f2) ((rd_T29 t101 x5_2).f3) ((rd_T29 t101 x5_2).f4.f0) ((rd_T29 t101 x5_2).f4.f1))=some r:=by rw[if_neg (show¬(false=true) by decide)]at H;exact H
                        clear H;have H:=H1;clear H1;have H':=Aside0.mk H;clear H;have hcz64_0:wc.cell? ⟨gb116,0,none⟩=some (.int .i64 ((rd_T29 t101 x5_2).f0)):=(blk_cell BK116.out 0).trans rfl;have hcz64_1:wc.cell? ⟨gb116,1,none⟩=some (.int .i64 ((rd_T29 t101 x5_2).f1)):=(blk_cell BK116.out 1).trans rfl;have hcz64_2:wc.cell? ⟨gb116,2,none⟩=some (.int .i64 ((rd_T29 t101 x5_2).f2)):=(blk_cell BK116.out 2).trans rfl;have hcz64_3:wc.cell? ⟨gb116,3,none⟩=some (.int .i64 ((rd_T29 t101 x5_2).f3)):=(blk_cell BK116.out 3).trans rfl;have hcz64_4:wc.cell? ⟨gb116,4,none⟩=some (.int .i64 ((rd_T29 t101 x5_2).f4.f0)):=(blk_cell BK116.out 4).trans rfl;have hcz64_5:wc.cell? ⟨gb116,5,none⟩=some (.int .i64 ((rd_T29 t101 x5_2).f4.f1)):=(blk_cell BK116.out 5).trans rfl;have hfz64_0:=blk_frozen BK116.out 0;have hfz64_1:=blk_frozen BK116.out 1;have hfz64_2:=blk_frozen BK116.out 2;have hfz64_3:=blk_frozen BK116.out 3;have hfz64_4:=blk_frozen BK116.out 4;have hfz64_5:=blk_frozen BK116.out 5;have p122:0≤(((rd_T29 t101 x5_2).f3):Int):=of_decide_eq_true (by assumption)
                        have q122:((rd_T29 t101 x5_2).f3)<(t104.length:Int):=of_decide_eq_true (by assumption)
                        obtain⟨ad122,e122,hx122_0⟩:=Kd.at_int (Kd.R_reads' HO_4.out).2.2 ((rd_T29 t101 x5_2).f3) p122 q122;obtain rfl:ad114=ad122:=(by injection e122)
                        replace p122:=eq_true p122;replace q122:=eq_true q122;go_wp2_with (first|(go_at_call 50;(with_reducible refine(laws_lvBit.calls kj34 ji60 x7_3 false _ A61.out).mono ?_);rintro e w' ⟨rfl,⟨nd,rfl⟩⟩))
                        go_meet
                        case rel=>exact⟨_,(false),(by first|rfl|(simp;done)|(simp[*];done)),H',⟨by have:=HJ4.out;have:=HK2.out;have:=HK3.out;have:=HJ34.out;first|omega|exact Nat.le_refl _⟩,⟨by exact rU HO_3.out⟩,⟨by exact rU HO_4.out⟩,⟨by exact blkU BK116.out⟩,⟨by repeat(with_reducible first|exact HB.out|apply bA|apply bN|apply b1|refine below_set ?_ GE116.out)⟩⟩
                      ·rw[if_neg c59]at H
                       exact absurd H (by simp)
                     ·rw[if_neg c58]at H
                      exact absurd H (by simp)
                    ·rw[if_neg c57]at H
                     have c57b0:(((rd_T29 t101 x5_2).f0)==9)=false:=beq_eq_false_iff_ne.mpr c57;have c57b1:(((rd_T29 t101 x5_2).f0) !=9)=true:=bne_iff_ne.mpr c57;(first|rw[c57b0]|(simp only[i64_w,i32_w];rw[c57b0])|skip)
                     by_cases c65:((rd_T29 t101 x5_2).f0)=10
                     ·rw[if_pos c65]at H
                      have c65b0:(((rd_T29 t101 x5_2).f0)==10)=true:=beq_iff_eq.mpr c65;have c65b1:(((rd_T29 t101 x5_2).f0) !=10)=false:=bne_eq_false_iff_eq.mpr c65;clear c65;by_cases c66:0≤((rd_T29 t101 x5_2).f3)
                      ·rw[if_pos c66]at H
                       have c66b0:decide (0≤((rd_T29 t101 x5_2).f3))=true:=decide_eq_true c66;clear c66;by_cases c67:((rd_T29 t101 x5_2).f3)<(t104.length:Int)
                       ·rw[if_pos c67]at H
                        have c67b0:decide (((rd_T29 t101 x5_2).f3)<(t104.length:Int))=true:=decide_eq_true c67;clear c67;obtain⟨ji68,hji68⟩: ∃j_:Int,(mx (rd t104 ((rd_T29 t101 x5_2).f3)) 0)=j_:=⟨_,rfl⟩;replace H:((laws_lvBit.f kj34 (ji68) x7_3).bind fun t125=>(if t125=true then(laws_FnFullStep.j4 kj34 t101 t104 x5_2 x7_3 (!t118) ((rd_T29 t101 x5_2).f0) ((rd_T29 t101 x5_2).f1) ((rd_T29 t101 x5_2).f2) ((rd_T29 t101 x5_2).f3) ((rd_T29 t101 x5_2).f4.f0) ((rd_T29 t101 x5_2).f4.f1))else(laws_FnFullStep.j4 kj34 t101 t104 x5_2 x7_3 false ((rd_T29 t101 x5_2).f0) ((rd_T29 t101 x5_2).f1) ((rd_T29 t101 x5_2).f2) ((rd_T29 t101 x5_2).f3) ((rd_T29 t101 x5_2).f4.f0) ((rd_T29 t101 x5_2).f4.f1))))=some r:=by first|(rw[hji68]at H;exact H)|(simp only[hji68]at H⊢;exact H)
                        have hji68_:(if(rd t104 ((rd_T29 t101 x5_2).f3))<0 then 0 else(rd t104 ((rd_T29 t101 x5_2).f3)))=ji68:=hji68
                        replace H:=Option.bind_eq_some_iff.mp H;obtain⟨t125,A690,H⟩:=H;replace H:(if t125=true then(laws_FnFullStep.j4 kj34 t101 t104 x5_2 x7_3 (!t118) ((rd_T29 t101 x5_2).f0) ((rd_T29 t101 x5_2).f1) ((rd_T29 t101 x5_2).f2) ((rd_T29 t101 x5_2).f3) ((rd_T29 t101 x5_2).f4.f0) ((rd_T29 t101 x5_2).f4.f1))else(laws_FnFullStep.j4 kj34 t101 t104 x5_2 x7_3 false ((rd_T29 t101 x5_2).f0) ((rd_T29 t101 x5_2).f1) ((rd_T29 t101 x5_2).f2) ((rd_T29 t101 x5_2).f3) ((rd_T29 t101 x5_2).f4.f0) ((rd_T29 t101 x5_2).f4.f1)))=some r:=H
                        have A69:=Aside0.mk A690;clear A690;by_cases c70:t125=true
                        ·subst c70
                         have H1:(laws_FnFullStep.j4 kj34 t101 t104 x5_2 x7_3 (!t118) ((rd_T29 t101 x5_2).f0) ((rd_T29 t101 x5_2).f1) ((rd_T29 t101 x5_2).f2) ((rd_T29 t101 x5_2).f3) ((rd_T29 t101 x5_2).f4.f0) ((rd_T29 t101 x5_2).f4.f1))=some r:=by rw[if_pos rfl]at H;exact H
                         clear H;have H:=H1;clear H1;have H':=Aside0.mk H;clear H;have hcz71_0:wc.cell? ⟨gb116,0,none⟩=some (.int .i64 ((rd_T29 t101 x5_2).f0)):=(blk_cell BK116.out 0).trans rfl;have hcz71_1:wc.cell? ⟨gb116,1,none⟩=some (.int .i64 ((rd_T29 t101 x5_2).f1)):=(blk_cell BK116.out 1).trans rfl;have hcz71_2:wc.cell? ⟨gb116,2,none⟩=some (.int .i64 ((rd_T29 t101 x5_2).f2)):=(blk_cell BK116.out 2).trans rfl;have hcz71_3:wc.cell? ⟨gb116,3,none⟩=some (.int .i64 ((rd_T29 t101 x5_2).f3)):=(blk_cell BK116.out 3).trans rfl;have hcz71_4:wc.cell? ⟨gb116,4,none⟩=some (.int .i64 ((rd_T29 t101 x5_2).f4.f0)):=(blk_cell BK116.out 4).trans rfl;have hcz71_5:wc.cell? ⟨gb116,5,none⟩=some (.int .i64 ((rd_T29 t101 x5_2).f4.f1)):=(blk_cell BK116.out 5).trans rfl;have hfz71_0:=blk_frozen BK116.out 0;have hfz71_1:=blk_frozen BK116.out 1;have hfz71_2:=blk_frozen BK116.out 2;have hfz71_3:=blk_frozen BK116.out 3;have hfz71_4:=blk_frozen BK116.out 4;have hfz71_5:=blk_frozen BK116.out 5;have p124:0≤(((rd_T29 t101 x5_2).f3):Int):=of_decide_eq_true (by assumption)
                         have q124:((rd_T29 t101 x5_2).f3)<(t104.length:Int):=of_decide_eq_true (by assumption)
                         obtain⟨ad124,e124,hx124_0⟩:=Kd.at_int (Kd.R_reads' HO_4.out).2.2 ((rd_T29 t101 x5_2).f3) p124 q124;obtain rfl:ad114=ad124:=(by injection e124)
                         replace p124:=eq_true p124;replace q124:=eq_true q124;go_wp2_with (first|(go_at_call 50;(with_reducible refine(laws_lvBit.calls kj34 ji68 x7_3 true _ A69.out).mono ?_);rintro e w' ⟨rfl,⟨nd,rfl⟩⟩))
                         go_meet
                         case rel=>exact⟨_,(!t118),(by first|rfl|(simp;done)|(simp[*];done)),H',⟨by have:=HJ4.out;have:=HK2.out;have:=HK3.out;have:=HJ34.out;first|omega|exact Nat.le_refl _⟩,⟨by exact rU HO_3.out⟩,⟨by exact rU HO_4.out⟩,⟨by exact blkU BK116.out⟩,⟨by repeat(with_reducible first|exact HB.out|apply bA|apply bN|apply b1|refine below_set ?_ GE116.out)⟩⟩
                        ·replace c70:=Bool.eq_false_iff.mpr c70
                         subst c70;have H1:(laws_FnFullStep.j4 kj34 t101 t104 x5_2 x7_3 false ((rd_T29 t101 x5_2).f0) ((rd_T29 t101 x5_2).f1) ((rd_T29 t101 x5_2).f2) ((rd_T29 t101 x5_2).f3) ((rd_T29 t101 x5_2).f4.f0) ((rd_T29 t101 x5_2).f4.f1))=some r:=by rw[if_neg (show¬(false=true) by decide)]at H;exact H
                         clear H;have H:=H1;clear H1;have H':=Aside0.mk H;clear H;have hcz72_0:wc.cell? ⟨gb116,0,none⟩=some (.int .i64 ((rd_T29 t101 x5_2).f0)):=(blk_cell BK116.out 0).trans rfl;have hcz72_1:wc.cell? ⟨gb116,1,none⟩=some (.int .i64 ((rd_T29 t101 x5_2).f1)):=(blk_cell BK116.out 1).trans rfl;have hcz72_2:wc.cell? ⟨gb116,2,none⟩=some (.int .i64 ((rd_T29 t101 x5_2).f2)):=(blk_cell BK116.out 2).trans rfl;have hcz72_3:wc.cell? ⟨gb116,3,none⟩=some (.int .i64 ((rd_T29 t101 x5_2).f3)):=(blk_cell BK116.out 3).trans rfl;have hcz72_4:wc.cell? ⟨gb116,4,none⟩=some (.int .i64 ((rd_T29 t101 x5_2).f4.f0)):=(blk_cell BK116.out 4).trans rfl;have hcz72_5:wc.cell? ⟨gb116,5,none⟩=some (.int .i64 ((rd_T29 t101 x5_2).f4.f1)):=(blk_cell BK116.out 5).trans rfl;have hfz72_0:=blk_frozen BK116.out 0;have hfz72_1:=blk_frozen BK116.out 1;have hfz72_2:=blk_frozen BK116.out 2;have hfz72_3:=blk_frozen BK116.out 3;have hfz72_4:=blk_frozen BK116.out 4;have hfz72_5:=blk_frozen BK116.out 5;have p124:0≤(((rd_T29 t101 x5_2).f3):Int):=of_decide_eq_true (by assumption)
                         have q124:((rd_T29 t101 x5_2).f3)<(t104.length:Int):=of_decide_eq_true (by assumption)
                         obtain⟨ad124,e124,hx124_0⟩:=Kd.at_int (Kd.R_reads' HO_4.out).2.2 ((rd_T29 t101 x5_2).f3) p124 q124;obtain rfl:ad114=ad124:=(by injection e124)
                         replace p124:=eq_true p124;replace q124:=eq_true q124;go_wp2_with (first|(go_at_call 50;(with_reducible refine(laws_lvBit.calls kj34 ji68 x7_3 false _ A69.out).mono ?_);rintro e w' ⟨rfl,⟨nd,rfl⟩⟩))
                         go_meet
                         case rel=>exact⟨_,(false),(by first|rfl|(simp;done)|(simp[*];done)),H',⟨by have:=HJ4.out;have:=HK2.out;have:=HK3.out;have:=HJ34.out;first|omega|exact Nat.le_refl _⟩,⟨by exact rU HO_3.out⟩,⟨by exact rU HO_4.out⟩,⟨by exact blkU BK116.out⟩,⟨by repeat(with_reducible first|exact HB.out|apply bA|apply bN|apply b1|refine below_set ?_ GE116.out)⟩⟩
                       ·rw[if_neg c67]at H
                        exact absurd H (by simp)
                      ·rw[if_neg c66]at H
                       exact absurd H (by simp)
                     ·rw[if_neg c65]at H
                      have c65b0:(((rd_T29 t101 x5_2).f0)==10)=false:=beq_eq_false_iff_ne.mpr c65;have c65b1:(((rd_T29 t101 x5_2).f0) !=10)=true:=bne_iff_ne.mpr c65;by_cases c73:((rd_T29 t101 x5_2).f0)=8
                      ·rw[if_pos c73]at H
                       have c73b0:(((rd_T29 t101 x5_2).f0)==8)=true:=beq_iff_eq.mpr c73;have c73b1:(((rd_T29 t101 x5_2).f0) !=8)=false:=bne_eq_false_iff_eq.mpr c73;clear c73;by_cases c74:0≤((rd_T29 t101 x5_2).f3)
                       ·rw[if_pos c74]at H
                        have c74b0:decide (0≤((rd_T29 t101 x5_2).f3))=true:=decide_eq_true c74;clear c74;by_cases c75:((rd_T29 t101 x5_2).f3)<(t104.length:Int)
                        ·rw[if_pos c75]at H
                         have c75b0:decide (((rd_T29 t101 x5_2).f3)<(t104.length:Int))=true:=decide_eq_true c75;clear c75;obtain⟨ji76,hji76⟩: ∃j_:Int,(mx (rd t104 ((rd_T29 t101 x5_2).f3)) 0)=j_:=⟨_,rfl⟩;replace H:((laws_lvBit.f kj34 (ji76) x7_3).bind fun t127=>(if t127=true then(laws_FnFullStep.j4 kj34 t101 t104 x5_2 x7_3 (!t118) ((rd_T29 t101 x5_2).f0) ((rd_T29 t101 x5_2).f1) ((rd_T29 t101 x5_2).f2) ((rd_T29 t101 x5_2).f3) ((rd_T29 t101 x5_2).f4.f0) ((rd_T29 t101 x5_2).f4.f1))else(laws_FnFullStep.j4 kj34 t101 t104 x5_2 x7_3 false ((rd_T29 t101 x5_2).f0) ((rd_T29 t101 x5_2).f1) ((rd_T29 t101 x5_2).f2) ((rd_T29 t101 x5_2).f3) ((rd_T29 t101 x5_2).f4.f0) ((rd_T29 t101 x5_2).f4.f1))))=some r:=by first|(rw[hji76]at H;exact H)|(simp only[hji76]at H⊢;exact H)
                         have hji76_:(if(rd t104 ((rd_T29 t101 x5_2).f3))<0 then 0 else(rd t104 ((rd_T29 t101 x5_2).f3)))=ji76:=hji76
                         replace H:=Option.bind_eq_some_iff.mp H;obtain⟨t127,A770,H⟩:=H;replace H:(if t127=true then(laws_FnFullStep.j4 kj34 t101 t104 x5_2 x7_3 (!t118) ((rd_T29 t101 x5_2).f0) ((rd_T29 t101 x5_2).f1) ((rd_T29 t101 x5_2).f2) ((rd_T29 t101 x5_2).f3) ((rd_T29 t101 x5_2).f4.f0) ((rd_T29 t101 x5_2).f4.f1))else(laws_FnFullStep.j4 kj34 t101 t104 x5_2 x7_3 false ((rd_T29 t101 x5_2).f0) ((rd_T29 t101 x5_2).f1) ((rd_T29 t101 x5_2).f2) ((rd_T29 t101 x5_2).f3) ((rd_T29 t101 x5_2).f4.f0) ((rd_T29 t101 x5_2).f4.f1)))=some r:=H
                         have A77:=Aside0.mk A770;clear A770;by_cases c78:t127=true
                         ·subst c78
                          have H1:(laws_FnFullStep.j4 kj34 t101 t104 x5_2 x7_3 (!t118) ((rd_T29 t101 x5_2).f0) ((rd_T29 t101 x5_2).f1) ((rd_T29 t101 x5_2).f2) ((rd_T29 t101 x5_2).f3) ((rd_T29 t101 x5_2).f4.f0) ((rd_T29 t101 x5_2).f4.f1))=some r:=by rw[if_pos rfl]at H;exact H
                          clear H;have H:=H1;clear H1;have H':=Aside0.mk H;clear H;have hcz79_0:wc.cell? ⟨gb116,0,none⟩=some (.int .i64 ((rd_T29 t101 x5_2).f0)):=(blk_cell BK116.out 0).trans rfl;have hcz79_1:wc.cell? ⟨gb116,1,none⟩=some (.int .i64 ((rd_T29 t101 x5_2).f1)):=(blk_cell BK116.out 1).trans rfl;have hcz79_2:wc.cell? ⟨gb116,2,none⟩=some (.int .i64 ((rd_T29 t101 x5_2).f2)):=(blk_cell BK116.out 2).trans rfl;have hcz79_3:wc.cell? ⟨gb116,3,none⟩=some (.int .i64 ((rd_T29 t101 x5_2).f3)):=(blk_cell BK116.out 3).trans rfl;have hcz79_4:wc.cell? ⟨gb116,4,none⟩=some (.int .i64 ((rd_T29 t101 x5_2).f4.f0)):=(blk_cell BK116.out 4).trans rfl;have hcz79_5:wc.cell? ⟨gb116,5,none⟩=some (.int .i64 ((rd_T29 t101 x5_2).f4.f1)):=(blk_cell BK116.out 5).trans rfl;have hfz79_0:=blk_frozen BK116.out 0;have hfz79_1:=blk_frozen BK116.out 1;have hfz79_2:=blk_frozen BK116.out 2;have hfz79_3:=blk_frozen BK116.out 3;have hfz79_4:=blk_frozen BK116.out 4;have hfz79_5:=blk_frozen BK116.out 5;have p126:0≤(((rd_T29 t101 x5_2).f3):Int):=of_decide_eq_true (by assumption)
                          have q126:((rd_T29 t101 x5_2).f3)<(t104.length:Int):=of_decide_eq_true (by assumption)
                          obtain⟨ad126,e126,hx126_0⟩:=Kd.at_int (Kd.R_reads' HO_4.out).2.2 ((rd_T29 t101 x5_2).f3) p126 q126;obtain rfl:ad114=ad126:=(by injection e126)
                          replace p126:=eq_true p126;replace q126:=eq_true q126;go_wp2_with (first|(go_at_call 50;(with_reducible refine(laws_lvBit.calls kj34 ji76 x7_3 true _ A77.out).mono ?_);rintro e w' ⟨rfl,⟨nd,rfl⟩⟩))
                          go_meet
                          case rel=>exact⟨_,(!t118),(by first|rfl|(simp;done)|(simp[*];done)),H',⟨by have:=HJ4.out;have:=HK2.out;have:=HK3.out;have:=HJ34.out;first|omega|exact Nat.le_refl _⟩,⟨by exact rU HO_3.out⟩,⟨by exact rU HO_4.out⟩,⟨by exact blkU BK116.out⟩,⟨by repeat(with_reducible first|exact HB.out|apply bA|apply bN|apply b1|refine below_set ?_ GE116.out)⟩⟩
                         ·replace c78:=Bool.eq_false_iff.mpr c78
                          subst c78;have H1:(laws_FnFullStep.j4 kj34 t101 t104 x5_2 x7_3 false ((rd_T29 t101 x5_2).f0) ((rd_T29 t101 x5_2).f1) ((rd_T29 t101 x5_2).f2) ((rd_T29 t101 x5_2).f3) ((rd_T29 t101 x5_2).f4.f0) ((rd_T29 t101 x5_2).f4.f1))=some r:=by rw[if_neg (show¬(false=true) by decide)]at H;exact H
                          clear H;have H:=H1;clear H1;have H':=Aside0.mk H;clear H;have hcz80_0:wc.cell? ⟨gb116,0,none⟩=some (.int .i64 ((rd_T29 t101 x5_2).f0)):=(blk_cell BK116.out 0).trans rfl;have hcz80_1:wc.cell? ⟨gb116,1,none⟩=some (.int .i64 ((rd_T29 t101 x5_2).f1)):=(blk_cell BK116.out 1).trans rfl;have hcz80_2:wc.cell? ⟨gb116,2,none⟩=some (.int .i64 ((rd_T29 t101 x5_2).f2)):=(blk_cell BK116.out 2).trans rfl;have hcz80_3:wc.cell? ⟨gb116,3,none⟩=some (.int .i64 ((rd_T29 t101 x5_2).f3)):=(blk_cell BK116.out 3).trans rfl;have hcz80_4:wc.cell? ⟨gb116,4,none⟩=some (.int .i64 ((rd_T29 t101 x5_2).f4.f0)):=(blk_cell BK116.out 4).trans rfl;have hcz80_5:wc.cell? ⟨gb116,5,none⟩=some (.int .i64 ((rd_T29 t101 x5_2).f4.f1)):=(blk_cell BK116.out 5).trans rfl;have hfz80_0:=blk_frozen BK116.out 0;have hfz80_1:=blk_frozen BK116.out 1;have hfz80_2:=blk_frozen BK116.out 2;have hfz80_3:=blk_frozen BK116.out 3;have hfz80_4:=blk_frozen BK116.out 4;have hfz80_5:=blk_frozen BK116.out 5;have p126:0≤(((rd_T29 t101 x5_2).f3):Int):=of_decide_eq_true (by assumption)
                          have q126:((rd_T29 t101 x5_2).f3)<(t104.length:Int):=of_decide_eq_true (by assumption)
                          obtain⟨ad126,e126,hx126_0⟩:=Kd.at_int (Kd.R_reads' HO_4.out).2.2 ((rd_T29 t101 x5_2).f3) p126 q126;obtain rfl:ad114=ad126:=(by injection e126)
                          replace p126:=eq_true p126;replace q126:=eq_true q126;go_wp2_with (first|(go_at_call 50;(with_reducible refine(laws_lvBit.calls kj34 ji76 x7_3 false _ A77.out).mono ?_);rintro e w' ⟨rfl,⟨nd,rfl⟩⟩))
                          go_meet
                          case rel=>exact⟨_,(false),(by first|rfl|(simp;done)|(simp[*];done)),H',⟨by have:=HJ4.out;have:=HK2.out;have:=HK3.out;have:=HJ34.out;first|omega|exact Nat.le_refl _⟩,⟨by exact rU HO_3.out⟩,⟨by exact rU HO_4.out⟩,⟨by exact blkU BK116.out⟩,⟨by repeat(with_reducible first|exact HB.out|apply bA|apply bN|apply b1|refine below_set ?_ GE116.out)⟩⟩
                        ·rw[if_neg c75]at H
                         exact absurd H (by simp)
                       ·rw[if_neg c74]at H
                        exact absurd H (by simp)
                      ·rw[if_neg c73]at H
                       have c73b0:(((rd_T29 t101 x5_2).f0)==8)=false:=beq_eq_false_iff_ne.mpr c73;have c73b1:(((rd_T29 t101 x5_2).f0) !=8)=true:=bne_iff_ne.mpr c73;have H':=Aside0.mk H;clear H;have hcz81_0:wc.cell? ⟨gb116,0,none⟩=some (.int .i64 ((rd_T29 t101 x5_2).f0)):=(blk_cell BK116.out 0).trans rfl;have hcz81_1:wc.cell? ⟨gb116,1,none⟩=some (.int .i64 ((rd_T29 t101 x5_2).f1)):=(blk_cell BK116.out 1).trans rfl;have hcz81_2:wc.cell? ⟨gb116,2,none⟩=some (.int .i64 ((rd_T29 t101 x5_2).f2)):=(blk_cell BK116.out 2).trans rfl;have hcz81_3:wc.cell? ⟨gb116,3,none⟩=some (.int .i64 ((rd_T29 t101 x5_2).f3)):=(blk_cell BK116.out 3).trans rfl;have hcz81_4:wc.cell? ⟨gb116,4,none⟩=some (.int .i64 ((rd_T29 t101 x5_2).f4.f0)):=(blk_cell BK116.out 4).trans rfl;have hcz81_5:wc.cell? ⟨gb116,5,none⟩=some (.int .i64 ((rd_T29 t101 x5_2).f4.f1)):=(blk_cell BK116.out 5).trans rfl;have hfz81_0:=blk_frozen BK116.out 0;have hfz81_1:=blk_frozen BK116.out 1;have hfz81_2:=blk_frozen BK116.out 2;have hfz81_3:=blk_frozen BK116.out 3;have hfz81_4:=blk_frozen BK116.out 4;have hfz81_5:=blk_frozen BK116.out 5;go_wp2
                       go_meet
                       case rel=>exact⟨_,(false),(by first|rfl|(simp;done)|(simp[*];done)),H',⟨by have:=HJ4.out;have:=HK2.out;have:=HK3.out;have:=HJ34.out;first|omega|exact Nat.le_refl _⟩,⟨by exact rU HO_3.out⟩,⟨by exact rU HO_4.out⟩,⟨by exact blkU BK116.out⟩,⟨by repeat(with_reducible first|exact HB.out|apply bA|apply bN|apply b1|refine below_set ?_ GE116.out)⟩⟩
                   case rest=>
                    clear HC56;(try clear c1);(try clear p1);(try clear q1);(try clear hx1);(try clear c2);(try clear c2b0);(try clear c2b1);(try clear p2);(try clear c3);(try clear c4);(try clear c5);(try clear c6);(try clear p6);(try clear c7);(try clear c10);(try clear p11);(try clear q11);(try clear hx11);(try clear p12);(try clear q12);(try clear hx12);(try clear c13);(try clear c17);(try clear c23);(try clear c23b0);(try clear c24);(try clear c24b0);(try clear c25);(try clear c25b0);(try clear c26);(try clear c26b0);(try clear c31);(try clear c31b0);(try clear c32);(try clear c32b0);(try clear c33);(try clear c33b0);(try clear c36);(try clear c36b0);(try clear c36b1);(try clear c38);(try clear c38b0);(try clear c38b1);(try clear c40);(try clear c40b0);(try clear c42);(try clear c42b0);(try clear c43);(try clear c43b0);(try clear c44);(try clear c46);(try clear c47);(try clear c48);(try clear c49);(try clear c50);(try clear c55);(try clear c57);(try clear c57b0);(try clear c57b1);(try clear c58);(try clear c58b0);(try clear c59);(try clear c59b0);(try clear c62);(try clear p64);(try clear c65);(try clear c65b0);(try clear c65b1);(try clear c66);(try clear c66b0);(try clear c67);(try clear c67b0);(try clear c70);(try clear c73);(try clear c73b0);(try clear c73b1);(try clear c74);(try clear c74b0);(try clear c75);(try clear c75b0);(try clear c78);(try clear hcz30_0);(try clear hcz30_1);(try clear hcz30_2);(try clear hcz30_3);(try clear hcz30_4);(try clear hcz30_5);(try clear hcz37_0);(try clear hcz37_1);(try clear hcz37_2);(try clear hcz37_3);(try clear hcz37_4);(try clear hcz37_5);(try clear hcz39_0);(try clear hcz39_1);(try clear hcz39_2);(try clear hcz39_3);(try clear hcz39_4);(try clear hcz39_5);(try clear hcz48_0);(try clear hcz48_1);(try clear hcz48_2);(try clear hcz48_3);(try clear hcz48_4);(try clear hcz48_5);(try clear hcz51_0);(try clear hcz51_1);(try clear hcz51_2);(try clear hcz51_3);(try clear hcz51_4);(try clear hcz51_5);(try clear hcz52_0);(try clear hcz52_1);(try clear hcz52_2);(try clear hcz52_3);(try clear hcz52_4);(try clear hcz52_5);(try clear hcz53_0);(try clear hcz53_1);(try clear hcz53_2);(try clear hcz53_3);(try clear hcz53_4);(try clear hcz53_5);(try clear hcz54_0);(try clear hcz54_1);(try clear hcz54_2);(try clear hcz54_3);(try clear hcz54_4);(try clear hcz54_5);(try clear hcz63_0);(try clear hcz63_1);(try clear hcz63_2);(try clear hcz63_3);(try clear hcz63_4);(try clear hcz63_5);(try clear hcz64_0);(try clear hcz64_1);(try clear hcz64_2);(try clear hcz64_3);(try clear hcz64_4);(try clear hcz64_5);(try clear hcz71_0);(try clear hcz71_1);(try clear hcz71_2);(try clear hcz71_3);(try clear hcz71_4);(try clear hcz71_5);(try clear hcz72_0);(try clear hcz72_1);(try clear hcz72_2);(try clear hcz72_3);(try clear hcz72_4);(try clear hcz72_5);(try clear hcz79_0);(try clear hcz79_1);(try clear hcz79_2);(try clear hcz79_3);(try clear hcz79_4);(try clear hcz79_5);(try clear hcz80_0);(try clear hcz80_1);(try clear hcz80_2);(try clear hcz80_3);(try clear hcz80_4);(try clear hcz80_5);(try clear hcz81_0);(try clear hcz81_1);(try clear hcz81_2);(try clear hcz81_3);(try clear hcz81_4);(try clear hcz81_5);(try clear hfz30_0);(try clear hfz30_1);(try clear hfz30_2);(try clear hfz30_3);(try clear hfz30_4);(try clear hfz30_5);(try clear hfz37_0);(try clear hfz37_1);(try clear hfz37_2);(try clear hfz37_3);(try clear hfz37_4);(try clear hfz37_5);(try clear hfz39_0);(try clear hfz39_1);(try clear hfz39_2);(try clear hfz39_3);(try clear hfz39_4);(try clear hfz39_5);(try clear hfz48_0);(try clear hfz48_1);(try clear hfz48_2);(try clear hfz48_3);(try clear hfz48_4);(try clear hfz48_5);(try clear hfz51_0);(try clear hfz51_1);(try clear hfz51_2);(try clear hfz51_3);(try clear hfz51_4);(try clear hfz51_5);(try clear hfz52_0);(try clear hfz52_1);(try clear hfz52_2);(try clear hfz52_3);(try clear hfz52_4);(try clear hfz52_5);(try clear hfz53_0);(try clear hfz53_1);(try clear hfz53_2);(try clear hfz53_3);(try clear hfz53_4);(try clear hfz53_5);(try clear hfz54_0);(try clear hfz54_1);(try clear hfz54_2);(try clear hfz54_3);(try clear hfz54_4);(try clear hfz54_5);(try clear hfz63_0);(try clear hfz63_1);(try clear hfz63_2);(try clear hfz63_3);(try clear hfz63_4);(try clear hfz63_5);(try clear hfz64_0);(try clear hfz64_1);(try clear hfz64_2);(try clear hfz64_3);(try clear hfz64_4);(try clear hfz64_5);(try clear hfz71_0);(try clear hfz71_1);(try clear hfz71_2);(try clear hfz71_3);(try clear hfz71_4);(try clear hfz71_5);(try clear hfz72_0);(try clear hfz72_1);(try clear hfz72_2);(try clear hfz72_3);(try clear hfz72_4);(try clear hfz72_5);(try clear hfz79_0);(try clear hfz79_1);(try clear hfz79_2);(try clear hfz79_3);(try clear hfz79_4);(try clear hfz79_5);(try clear hfz80_0);(try clear hfz80_1);(try clear hfz80_2);(try clear hfz80_3);(try clear hfz80_4);(try clear hfz80_5);(try clear hfz81_0);(try clear hfz81_1);(try clear hfz81_2);(try clear hfz81_3);(try clear hfz81_4);(try clear hfz81_5);(try clear hx114_0);(try clear hx115_0);(try clear hx115_1);(try clear hx115_2);(try clear hx115_3);(try clear hx115_4);(try clear hx115_5);(try clear hx117_0);(try clear hx119_0);(try clear hx122_0);(try clear hx124_0);(try clear hx126_0);(try clear p1);(try clear p11);(try clear p114);(try clear p115);(try clear p117);(try clear p119);(try clear p122);(try clear p124);(try clear p126);(try clear p2);(try clear p6);(try clear q1);(try clear q11);(try clear q114);(try clear q115);(try clear q117);(try clear q119);(try clear q122);(try clear q124);(try clear q126)
                    obtain⟨kq,x122_55,rfl,HA,HJ55,HO_3,HO_4,BK116,HB⟩:=hcut;cases kq with
                    |zero=>exact absurd HA.out (by simp[laws_FnFullStep.j4])
                    |succ kj55=>
                     have H:=HA.out;clear HA;simp only[laws_FnFullStep.j4]at H
                     by_cases c82:x122_55=true
                     ·subst c82
                      have H1:(some false)=some r:=by rw[if_pos rfl]at H;exact H
                      clear H;have H:=H1;clear H1;obtain rfl:=Option.some.inj H;go_wp2
                      go_ret
                      exact⟨by first|rfl|(simp[errW_none,errW_some]<;>rfl)|(simp[*,errW_none,errW_some]<;>rfl),by repeat(with_reducible first|exact HB.out|apply bA|apply bN|apply b1|refine below_set ?_ GE116.out)⟩
                     ·replace c82:=Bool.eq_false_iff.mpr c82
                      subst c82;have H1:(laws_FnFullStep.l1 kj55 t101 t104 x5_2 (wrap64 (x7_3+1)) ((rd_T29 t101 x5_2).f0) ((rd_T29 t101 x5_2).f1) ((rd_T29 t101 x5_2).f2) ((rd_T29 t101 x5_2).f3) ((rd_T29 t101 x5_2).f4.f0) ((rd_T29 t101 x5_2).f4.f1))=some r:=by rw[if_neg (show¬(false=true) by decide)]at H;exact H
                      clear H;have H:=H1;clear H1;have H':=Aside0.mk H;clear H;go_wp2
                      go_roundg kj55
                      case measure=>have:=HJ4.out;have:=HK2.out;have:=HK3.out;have:=HJ34.out;have:=HJ55.out;omega
                      case rel=>exact⟨(wrap64 (x7_3+1)),(by first|rfl|(simp;done)|(simp[*];done)),H',⟨by have:=HJ4.out;have:=HK2.out;have:=HK3.out;have:=HJ34.out;have:=HJ55.out;omega⟩,⟨by exact rU HO_3.out⟩,⟨by exact rU HO_4.out⟩,⟨by exact blkU BK116.out⟩,⟨by repeat(with_reducible first|exact HB.out|apply bA|apply bN|apply b1|refine below_set ?_ GE116.out)⟩⟩
               ·rw[if_neg c33]at H
                exact absurd H (by simp)
              ·rw[if_neg c32]at H
               exact absurd H (by simp)
             ·rw[if_neg c31]at H
              have c31b0:decide (x7_3≤3)=false:=decide_eq_false c31;clear c31;have H':=Aside0.mk H;clear H;go_wp2
              go_roundg k3
              case measure=>have:=HJ4.out;have:=HK2.out;have:=HK3.out;omega
              case rel=>exact⟨(wrap64 (x5_2+1)),(by first|rfl|(simp;done)|(simp[*];done)),H',⟨by have:=HJ4.out;have:=HK2.out;have:=HK3.out;omega⟩,⟨by(with_reducible repeat(first|apply rA|apply rN|apply rD));exact Kd.R_mono HO_3.out (fun _ hk=>trivial)⟩,⟨by exact rU HO_4.out⟩,⟨by repeat(with_reducible first|exact HB.out|apply bA|apply bN|apply b1|refine below_set ?_ GE116.out)⟩⟩
         ·rw[if_neg c25]at H
          exact absurd H (by simp)
        ·rw[if_neg c24]at H
         exact absurd H (by simp)
       ·rw[if_neg c23]at H
        have c23b0:decide (x5_2<(t101.length:Int))=false:=decide_eq_false c23;clear c23;obtain rfl:=Option.some.inj H;go_wp2
        go_ret
        exact⟨by first|rfl|(simp[errW_none,errW_some]<;>rfl)|(simp[*,errW_none,errW_some]<;>rfl),by exact bU HB.out⟩
def laws_FnFullStep.Pure:Prop:= ∀ (l0:List Int),l0.length≤maxLen→l0.length*1≤140737488351232→(∀x∈l0,(Lit.int .u8 x).wf=true)→ ∃k,laws_FnFullStep.f k l0=some true
theorem laws_FnFullStep.walk (P:laws_FnFullStep.Pure) (a0:Option Addr) (len0 cap0:Nat) (z0:List Int) (w:World) (w0:(a0=none∧len0=0∧cap0=0∧z0=[])∨ ∃x,a0=some x∧len0≤cap0∧cap0≤maxLen∧z0.length=cap0∧(∀i,i<z0.length→w.cell? (x.add i)=some (.int .u8 (z0.getD i 0)))∧ ∀n∈z0,(Lit.int .u8 n).wf=true) (y0:len0*1≤140737488351232):
  Calls Try.prog 13 #[.slice a0 len0 cap0] w fun e w'=>e= .returned (.bool true)∧Below w.heap.size w w':=by
 obtain⟨l0,rfl,hr0,hm0,hw0,hc0⟩:=ReadsInt.ofRowC w0;obtain⟨k,h⟩:=P l0 hm0 y0 hw0;refine(laws_FnFullStep.calls k _ _ l0 true w (Kd.C_of_reads (d:=(0:Int)) (h1:=fun _=>rfl) hr0) hc0 h).mono ?_
 rintro e w' ⟨rfl,hd⟩
 exact⟨rfl,hd⟩
end Go.Proofs.Ytmklpbmlgjkbiaa.PJB
end
section
namespace Go.Proofs.Ytmklpbmlgjkbiaa.Pure
open Go.RowKit Go.Proofs.Ytmklpbmlgjkbiaa.PJB Go.Proofs.Ytmklpbmlgjkbiaa.PS Go.Proofs.YtmklpbmlgjkbiaaW.PrintWords Go.Proofs.YtmklpbmlgjkbiaaW.PrintLast
theorem lvfills_eq {k:Int} (h:1≤k∧k≤14):laws_lvFills.f k=some (howR k).f3:=by
  have:k=1∨k=2∨k=3∨k=4∨k=5∨k=6∨k=7∨k=8∨k=9∨k=10∨k=11∨k=12∨k=13∨k=14:=by omega
  rcases this with rfl|rfl|rfl|rfl|rfl|rfl|rfl|rfl|rfl|rfl|rfl|rfl|rfl|rfl<;>rfl
theorem s_three {s d:Nat} (h:4-s=d+1):(s:Int)≤3:=by omega
theorem fs_slots {l:List S29} (hc:codeB l=true) {i:Nat} (hi:i<l.length) (h0:0≤at_ (fullL l) (i:Int)) (hn:Ev (fun k=>laws_FnFullStep.l0 k l (fullL l) ((i+1:Nat):Int)) true) (d:Nat):
    ∀s:Nat,4-s=d→s≤4→Ev (fun k=>laws_FnFullStep.l1 k l (fullL l) (i:Int) (s:Int) (rd_T29 l (i:Int)).f0 (rd_T29 l (i:Int)).f1 (rd_T29 l (i:Int)).f2 (rd_T29 l (i:Int)).f3 (rd_T29 l (i:Int)).f4.f0 (rd_T29 l (i:Int)).f4.f1) true:=by
  have hl:=full_len hc;obtain⟨g1,g2⟩:=code_len hc;have hwi:wrap64 ((i:Int)+1)=((i+1:Nat):Int):=by rw[w64 (by omega) (by omega)];rfl
  have hop:=(code_op hc hi).1;rw[←rd29_get hi]at hop
  obtain⟨hk, -,hR, -, -, -⟩:=hop;have hu:=full_at hc (i:Int);obtain⟨y,hy⟩: ∃y,y=rd_T29 l (i:Int):=⟨_,rfl⟩;obtain⟨u,huu⟩: ∃u,u=at_ (fullL l) (i:Int):=⟨_,rfl⟩;have e:rd (fullL l) (i:Int)=u:=huu.symm;rw[←hy]at hk hR⊢
  rw[←huu]at h0 hu
  induction d with
  |zero=>
    intro s hs hs2;obtain rfl:s=4:=by omega
    refine Ev.step (fun k=> ?_) hn
    simp only[laws_FnFullStep.l1]
    rw[if_neg (by omega),hwi]
  |succ d ih=>
    intro s hs hs2;have ih1:=ih (s+1) (by omega) (by omega)
    have hws:wrap64 ((s:Int)+1)=((s+1:Nat):Int):=by rw[w64 (by omega) (by omega)];rfl
    have hs3:(s:Int)≤3:=s_three hs;have hs0:(0:Int)≤(s:Int):=Int.natCast_nonneg s;have hbit:=bit_ev h0 hu.2 hs0 hs3
    have j4:Ev (fun k=>laws_FnFullStep.j4 k l (fullL l) (i:Int) (s:Int) false y.f0 y.f1 y.f2 y.f3 y.f4.f0 y.f4.f1) true:=by
      refine Ev.step (fun k=> ?_) ih1
      simp only[laws_FnFullStep.j4,hws,Bool.false_eq_true,if_false]
    have toB: ∀h9:y.f0=9∨y.f0=10∨y.f0=8,(0≤y.f3∧y.f3<(l.length:Int))∧Ev (fun k=>(laws_lvBit.f k (mx (rd (fullL l) y.f3) 0) (s:Int)).bind fun t=>if t=true then(laws_FnFullStep.j4 k l (fullL l) (i:Int) (s:Int) (!(!freeB u (s:Int))) y.f0 y.f1 y.f2 y.f3 y.f4.f0 y.f4.f1)else(laws_FnFullStep.j4 k l (fullL l) (i:Int) (s:Int) false y.f0 y.f1 y.f2 y.f3 y.f4.f0 y.f4.f1)) true:=fun h9=>by
      have hT:hasT y.f0=true:=by rcases h9 with h|h|h<;>(rw[h];rfl)
      have h5:y.f0≠5:=by omega
      rw[hy]at hT h5
      obtain⟨w0,w1,w2,w3⟩:=full_way hc hi (by rw[←huu];exact h0) (to_same h5 hT)
      have w3:both (at_ (fullL l) (rd_T29 l (i:Int)).f3) (at_ (fullL l) (i:Int))=at_ (fullL l) (rd_T29 l (i:Int)).f3:=w3;have w2:0≤at_ (fullL l) (rd_T29 l (i:Int)).f3:=w2;have hv:=full_at hc (rd_T29 l (i:Int)).f3;rw[←hy]at w0 w1 w2 w3 hv
      rw[←huu]at w3
      refine⟨⟨w0,w1⟩,?_⟩
      have e2:rd (fullL l) y.f3=at_ (fullL l) y.f3:=rfl;rw[e2,mx_nonneg w2];refine Ev.bind (bit_ev w2 hv.2 hs0 hs3) ?_
      cases hb:freeB (at_ (fullL l) y.f3) (s:Int)with
      |true=>simp only[Bool.not_true,Bool.false_eq_true,if_false];exact j4
      |false=>
        have:=sub_bit w2 hv.2 h0 hu.2 hs0 hs3 w3 hb;rw[this];simp only[Bool.not_false,Bool.not_true,if_true]
        exact j4
    have j3:Ev (fun k=>laws_FnFullStep.j3 k l (fullL l) (i:Int) (s:Int) (!freeB u (s:Int)) false y.f0 y.f1 y.f2 y.f3 y.f4.f0 y.f4.f1) true:=by
      by_cases h9:y.f0=9
      · obtain⟨⟨w0,w1⟩,h⟩:=toB (.inl h9)
        refine Ev.step (fun k=> ?_) h
        simp only[laws_FnFullStep.j3,Bool.false_eq_true,if_false]
        rw[if_pos h9,if_pos w0,if_pos (by omega)]
      by_cases h10:y.f0=10
      · obtain⟨⟨w0,w1⟩,h⟩:=toB (.inr (.inl h10))
        refine Ev.step (fun k=> ?_) h
        simp only[laws_FnFullStep.j3,Bool.false_eq_true,if_false]
        rw[if_neg h9,if_pos h10,if_pos w0,if_pos (by omega)]
      by_cases h8:y.f0=8
      · obtain⟨⟨w0,w1⟩,h⟩:=toB (.inr (.inr h8))
        refine Ev.step (fun k=> ?_) h
        simp only[laws_FnFullStep.j3,Bool.false_eq_true,if_false]
        rw[if_neg h9,if_neg h10,if_pos h8,if_pos w0,if_pos (by omega)]
      refine Ev.step (fun k=> ?_) j4
      simp only[laws_FnFullStep.j3,Bool.false_eq_true,if_false]
      rw[if_neg h9,if_neg h10,if_neg h8]
    by_cases h9:y.f0=9
    · refine Ev.step (f:=fun k=>(laws_lvBit.f k u (s:Int)).bind fun t118=>laws_FnFullStep.j3 k l (fullL l) (i:Int) (s:Int) t118 false y.f0 y.f1 y.f2 y.f3 y.f4.f0 y.f4.f1) (fun k=> ?_) (Ev.bind hbit j3)
      simp only[laws_FnFullStep.l1,if_pos h9]
      rw[if_pos hs3,if_pos (by omega),if_pos (by omega),e]
    by_cases h14:y.f0=14
    · refine Ev.step (f:=fun k=>(laws_lvBit.f k u (s:Int)).bind fun t118=>laws_FnFullStep.j3 k l (fullL l) (i:Int) (s:Int) t118 false y.f0 y.f1 y.f2 y.f3 y.f4.f0 y.f4.f1) (fun k=> ?_) (Ev.bind hbit j3)
      simp only[laws_FnFullStep.l1,if_neg h9,if_pos h14]
      rw[if_pos hs3,if_pos (by omega),if_pos (by omega),e]
    by_cases hnx:i+1<l.length
    · have hwy:=to_next (l:=l) (i:=i) (by rw[←hy];exact h9) (by rw[←hy];exact h14) hnx
      obtain⟨w0,w1,w2,w3⟩:=full_way hc hi (by rw[←huu];exact h0) hwy
      have w2:0≤at_ (fullL l) ((i:Int)+1):=w2;have w3:both (at_ (fullL l) ((i:Int)+1)) (flF (if(howR (rd_T29 l (i:Int)).f0).f3=true then Fl.fill else .same) (rd_T29 l (i:Int)).f1 (at_ (fullL l) (i:Int)))=at_ (fullL l) ((i:Int)+1):=w3
      rw[←hy,←huu]at w3
      have hv:=full_at hc ((i:Int)+1);have e2:rd (fullL l) ((i+1:Nat):Int)=at_ (fullL l) ((i:Int)+1):=rfl;refine Ev.step (f:=fun k=>(laws_lvBit.f k u (s:Int)).bind fun t118=>((laws_lvBit.f k (at_ (fullL l) ((i:Int)+1)) (s:Int)).bind fun t120=>(if t120=true then(if t118=true then(laws_FnFullStep.j3 k l (fullL l) (i:Int) (s:Int) t118 false y.f0 y.f1 y.f2 y.f3 y.f4.f0 y.f4.f1)else((laws_lvFills.f y.f0).bind fun t121=>(if t121=true then(laws_FnFullStep.j3 k l (fullL l) (i:Int) (s:Int) t118 (!(y.f1==(s:Int))) y.f0 y.f1 y.f2 y.f3 y.f4.f0 y.f4.f1)else(laws_FnFullStep.j3 k l (fullL l) (i:Int) (s:Int) t118 (!false) y.f0 y.f1 y.f2 y.f3 y.f4.f0 y.f4.f1))))else(laws_FnFullStep.j3 k l (fullL l) (i:Int) (s:Int) t118 false y.f0 y.f1 y.f2 y.f3 y.f4.f0 y.f4.f1)))) (fun k=> ?_) ?_
      · simp only[laws_FnFullStep.l1,if_neg h9,if_neg h14,hwi]
        rw[if_pos hs3,if_pos (by omega),if_pos (by omega),e]
        simp only[if_pos (show((i+1:Nat):Int)<(l.length:Int) by omega),if_pos (show(0:Int)≤((i+1:Nat):Int) by omega),if_pos (show((i+1:Nat):Int)<((fullL l).length:Int) by omega),e2,mx_nonneg w2]
      · refine Ev.bind hbit (Ev.bind (bit_ev w2 hv.2 hs0 hs3) ?_)
        cases hb:freeB (at_ (fullL l) ((i:Int)+1)) (s:Int)with
        |true=>simp only[Bool.not_true,Bool.false_eq_true,if_false];exact j3
        |false=>
          simp only[Bool.not_false,if_true]
          cases hub:freeB u (s:Int)with
          |false=>
            rw[hub]at j3
            simp only[Bool.not_false,if_true]
            exact j3
          |true=>
            rw[hub]at j3
            simp only[Bool.not_true,Bool.false_eq_true,if_false]
            rw[lvfills_eq hk];simp only[Option.bind_some]
            by_cases hf:(howR y.f0).f3=true
            · simp only[if_pos hf]
              rw[if_pos hf]at w3
              have hr3:0≤y.f1∧y.f1≤3:=by
                rcases hR with h|h
                · omega
                · exact h.2
              have w3:both (at_ (fullL l) ((i:Int)+1)) (orBit u y.f1)=at_ (fullL l) ((i:Int)+1):=w3;have ho:=orBit_range h0 hu.2 hr3.1 hr3.2;have:=sub_bit w2 hv.2 ho.1 ho.2 hs0 hs3 w3 hb;rw[or_bit h0 hu.2 hr3.1 hr3.2 hs0 hs3,hub,Bool.true_and]at this
              rw[this];exact j3
            · rw[if_neg hf]at w3
              have w3:both (at_ (fullL l) ((i:Int)+1)) u=at_ (fullL l) ((i:Int)+1):=w3;have:=sub_bit w2 hv.2 h0 hu.2 hs0 hs3 w3 hb;rw[hub]at this;cases this
    · refine Ev.step (f:=fun k=>(laws_lvBit.f k u (s:Int)).bind fun t118=>laws_FnFullStep.j3 k l (fullL l) (i:Int) (s:Int) t118 false y.f0 y.f1 y.f2 y.f3 y.f4.f0 y.f4.f1) (fun k=> ?_) (Ev.bind hbit j3)
      simp only[laws_FnFullStep.l1,if_neg h9,if_neg h14,hwi]
      rw[if_pos hs3,if_pos (by omega),if_pos (by omega),e]
      simp only[if_neg (show¬((i+1:Nat):Int)<(l.length:Int) by omega)]
theorem fs_loop {l:List S29} (hc:codeB l=true) (d:Nat): ∀i,l.length-i=d→i≤l.length→Ev (fun k=>laws_FnFullStep.l0 k l (fullL l) (i:Int)) true:=by
  have hl:=full_len hc;obtain⟨h1,h2⟩:=code_len hc;induction d with
  |zero=>
    intro i hd hi;refine Ev.step (f:=fun k=>some true) (fun k=> ?_) (Ev.now _)
    simp only[laws_FnFullStep.l0]
    rw[if_neg (by omega)]
  |succ d ih=>
    intro i hd hi;have ih1:=ih (i+1) (by omega) (by omega)
    have hw:wrap64 ((i:Int)+1)=((i+1:Nat):Int):=by rw[w64 (by omega) (by omega)];rfl
    have e:rd (fullL l) (i:Int)=at_ (fullL l) i:=rfl;by_cases h0:0≤at_ (fullL l) (i:Int)
    · refine Ev.step (fun k=> ?_) (fs_slots hc (i:=i) (by omega) h0 ih1 4 0 rfl (by omega))
      simp only[laws_FnFullStep.l0]
      rw[if_pos (by omega),if_pos (by omega),if_pos (by omega),e,if_neg (by omega)];rfl
    · refine Ev.step (fun k=> ?_) ih1
      simp only[laws_FnFullStep.l0]
      rw[if_pos (by omega),if_pos (by omega),if_pos (by omega),e,if_pos (by omega),hw]
theorem FnFullStep:laws_FnFullStep.Pure:=by
  intro l0 hm hr hw;refine Ev.rounds ?_
  unfold laws_FnFullStep.f;by_cases hl:(l0.length:Int)>1048576
  · simp only[if_pos hl];exact Ev.now _
  simp only[if_neg hl]
  obtain⟨c,hc,hcl⟩:=drawFull_ev hw;refine Ev.bind hc ?_
  unfold codeFullV.f;simp only[Option.bind_some]
  by_cases hk:codeB c=true
  · have hfl:=full_len hk
    have h1:=code_len hk;simp only[if_pos hk]
    refine Ev.bind (lvInts_same _ (by omega)) ?_
    simp only[if_true]
    refine Ev.step (fun k=> ?_) (fs_loop hk c.length 0 (by omega) (by omega))
    simp only[laws_FnFullStep.j0]
    have e0:(((fullL c).length:Int)==0)=false:=beq_eq_false_iff_ne.2 (by omega)
    rw[e0,if_neg (by decide)];rfl
  · simp only[if_neg hk]
    refine Ev.bind (lvInts_same _ (by simp)) ?_
    simp only[if_true]
    refine Ev.step (f:=fun k=>(laws_lvInts.f k [] []).bind fun t113=>some t113) (fun k=> ?_) ?_
    · simp only[laws_FnFullStep.j0,codeFullV.f,if_neg hk,Option.bind_some]
      rw[if_pos (by simp)]
    · exact Ev.bind (lvInts_same _ (by simp)) (Ev.now _)
end Go.Proofs.Ytmklpbmlgjkbiaa.Pure
end
