/- What the rows of JA rest on, part 2. -/
import Derived.Test.YtmklpbmlgjkbiaaProg
import Derived.Laws.StructEq
import Derived.Deep.RegionWith
import Derived.Lib.Bytealg
import Derived.Shelf.Strings.Search3
import Derived.WalkSpells
import Derived.Lib.OthersKept
import Derived.Lib.Hide
import Derived.WalkSmall
import Derived.Laws.EntriesVeiled
import Derived.RegionTactic
import Derived.Test.YtmklpbmlgjkbiaaQJA0
set_option linter.unusedVariables false
set_option linter.unusedSimpArgs false
set_option maxHeartbeats 8000000
set_option maxRecDepth 100000
section
namespace Go.Proofs.Ytmklpbmlgjkbiaa.PS
open Go.RowKit Go.Proofs.YtmklpbmlgjkbiaaW.PrintWords Go.Proofs.YtmklpbmlgjkbiaaW.PrintLast Go.Proofs.YtmklpbmlgjkbiaaW.PrintMore
attribute [local go_sem] max2_int min2_int max_two min_two max_three min_three max_four min_four   -- for this text's walks alone
def spec_CodeFull.f (k:Nat) (l0:List (S29)):Option (List Int):=(spec_CodeOk.f k l0).bind fun t381=>(if t381=true then((spec_l3Full.f k l0).bind fun t385=>(some t385))else(some (([]:List Int))))
theorem spec_CodeFull.calls (k:Nat) (A0:Option Addr) (c0:Nat) (l0:List (S29)) (r:List Int) (w:World) (hr0:Kd.C k29 w A0 l0.length l0) (hc0:l0.length≤c0) (h:spec_CodeFull.f k l0=some r):
  Calls Try.prog 43 #[.slice A0 l0.length c0] w fun e w'=> ∃v0_:Value,e= .returned (v0_)∧Kd.R (Kd.int .i64) 3 w' w.heap.size (fun _=>True) v0_ r∧Below w.heap.size w w':=by
 have HR0:=Aside0.mk hr0;have HC0:=Aside0.mk hc0;clear hr0 hc0;have HB:=Aside0.mk (Below.refl w.heap.size w);have H:((spec_CodeOk.f k l0).bind fun t381=>(if t381=true then((spec_l3Full.f k l0).bind fun t385=>(some t385))else(some (([]:List Int)))))=some r:=h
 clear h;replace H:=Option.bind_eq_some_iff.mp H;obtain⟨t381,A20,H⟩:=H;replace H:(if t381=true then((spec_l3Full.f k l0).bind fun t385=>(some t385))else(some (([]:List Int))))=some r:=H
 have A2:=Aside0.mk A20;clear A20;by_cases c3:t381=true
 ·subst c3
  have H1:((spec_l3Full.f k l0).bind fun t385=>(some t385))=some r:=by rw[if_pos rfl]at H;exact H
  clear H;have H:=H1;clear H1;replace H:=Option.bind_eq_some_iff.mp H;obtain⟨t385,A40,H⟩:=H;replace H:(some t385)=some r:=H;have A4:=Aside0.mk A40;clear A40;obtain rfl:=Option.some.inj H;go_enter Try.func43,Try.ntmps43
  go_wp2_with (first|((with_reducible refine gate_callee (f:=33) rfl ?_);refine goesL_ (some 4) rfl rfl Try.func33 (by kernel_rfl) rfl #[.slice A0 l0.length c0] rfl (by(try simp only[List.map_toArray,List.map_cons,List.map_nil])<;>rfl) ?_;(with_reducible refine(spec_CodeOk.calls k _ _ l0 true _ ?side1 ?side2 A2.out).mono ?_);(case side1=>repeat(first|exact HR0.out|(with_reducible refine Kd.C_alloc ?_ _)|(with_reducible refine Kd.C_drewN ?_ _)|(with_reducible refine Kd.C_drew ?_)));(case side2=>exact HC0.out);rintro e w5 ⟨rfl,hb⟩;refine⟨_,rfl,?_⟩;replace HB:=Aside0.mk (below_step (by exact bU HB.out) hb);(try clear hb);(try clear hb2);(try clear hk);(try clear hi))|((with_reducible refine gate_callee (f:=81) rfl ?_);refine goesL_ (some 8) rfl rfl Try.func81 (by kernel_rfl) rfl #[.slice A0 l0.length c0] rfl (by(try simp only[List.map_toArray,List.map_cons,List.map_nil])<;>rfl) ?_;(with_reducible refine(spec_l3Full.calls k _ _ l0 t385 _ ?side1 ?side2 A4.out).mono ?_);(case side1=>repeat(first|exact(Kd.C_below HR0.out HB.out)|(with_reducible refine Kd.C_alloc ?_ _)|(with_reducible refine Kd.C_drewN ?_ _)|(with_reducible refine Kd.C_drew ?_)));(case side2=>exact HC0.out);rintro e w6 ⟨v386,rfl,ho0,hb⟩;refine⟨_,rfl,?_⟩;have HO387:=Aside0.mk (Kd.R_lower ho0 (below_size (by exact bU HB.out)));replace HB:=Aside0.mk (below_step (by exact bU HB.out) hb);(try clear hb);(try clear hb2);(try clear hk);(try clear hi);(try clear ho0)))
  go_ret
  exact⟨_,by first|rfl|(simp[errW_none,errW_some]<;>rfl)|(simp[*,errW_none,errW_some]<;>rfl),by exact rU HO387.out,by exact bU HB.out⟩
 ·replace c3:=Bool.eq_false_iff.mpr c3
  subst c3;have H1:(some (([]:List Int)))=some r:=by rw[if_neg (show¬(false=true) by decide)]at H;exact H
  clear H;have H:=H1;clear H1;obtain⟨y382,hy382⟩: ∃y_:List Int,y_=(([]:List Int)):=⟨_,rfl⟩;replace H:(some y382)=some r:=by first|(rw[hy382];with_reducible exact H)|(have H2_:=(Option.bind_some _ _).symm.trans H;rw[hy382];with_reducible exact H2_)|(have H2_:=(Option.bind_some _ _).symm.trans H;with_reducible exact H2_)|with_reducible exact H|(rw[hy382];exact H)|exact H
  have Ny382:=Aside0.mk hy382;clear hy382;obtain rfl:=Option.some.inj H;go_enter Try.func43,Try.ntmps43
  go_wp2_with (first|((with_reducible refine gate_callee (f:=33) rfl ?_);refine goesL_ (some 4) rfl rfl Try.func33 (by kernel_rfl) rfl #[.slice A0 l0.length c0] rfl (by(try simp only[List.map_toArray,List.map_cons,List.map_nil])<;>rfl) ?_;(with_reducible refine(spec_CodeOk.calls k _ _ l0 false _ ?side1 ?side2 A2.out).mono ?_);(case side1=>repeat(first|exact HR0.out|(with_reducible refine Kd.C_alloc ?_ _)|(with_reducible refine Kd.C_drewN ?_ _)|(with_reducible refine Kd.C_drew ?_)));(case side2=>exact HC0.out);rintro e w7 ⟨rfl,hb⟩;refine⟨_,rfl,?_⟩;replace HB:=Aside0.mk (below_step (by exact bU HB.out) hb);(try clear hb);(try clear hb2);(try clear hk);(try clear hi))|((with_reducible refine gate_dst (N:=6) rfl ?_);refine Kd.R_lit (Kd.int .i64) _ 3 ?hg (N:=6) ?hd (xs:=([]:List Int)) (inner:=[]) (ok:=fun _=>True) (okp:=fun _=>True) ?hr ?hp (fun _ hk=>hk) trivial (Below.refl _ _) (Nat.le_refl _) (by simp) ?_;(case hd=>rfl);(case hg=>rfl);(case hr=>first|(go_simp;done)|(go_simp;rfl));(case hp=>exact(Reps.none _ _));intro v383 w8 ho9 hb hg_ hnew_;clear hg_ hnew_;(first|rw[←Ny382.out]at ho9|(simp only[Int.reduceToNat]at ho9;rw[←Ny382.out]at ho9));have HO384:=Aside0.mk (Kd.R_lower ho9 (below_size (by exact bU HB.out)));replace HB:=Aside0.mk (below_step (by exact bU HB.out) hb);clear hb ho9))
  go_ret
  exact⟨_,by first|rfl|(simp[errW_none,errW_some]<;>rfl)|(simp[*,errW_none,errW_some]<;>rfl),by exact rU HO384.out,by exact bU HB.out⟩
def impl_CodeFull.f (l0:List (S29)):Option (List Int):=(codeV.f l0).bind fun t388=>(if t388=true then((fullV.f l0).bind fun t389=>(some t389))else(some ([]:List Int)))
theorem impl_CodeFull.calls (A0:Option Addr) (c0:Nat) (l0:List (S29)) (r:List Int) (w:World) (hr0:Kd.C k29 w A0 l0.length l0) (hc0:l0.length≤c0) (h:impl_CodeFull.f l0=some r):
  Calls Try.prog 44 #[.slice A0 l0.length c0] w fun e w'=> ∃v0_:Value,e= .returned (v0_)∧Kd.R (Kd.int .i64) 3 w' w.heap.size (fun _=>True) v0_ r∧Below w.heap.size w w':=by
 have HR0:=Aside0.mk hr0;have HC0:=Aside0.mk hc0;clear hr0 hc0;have HB:=Aside0.mk (Below.refl w.heap.size w);have H:((codeV.f l0).bind fun t388=>(if t388=true then((fullV.f l0).bind fun t389=>(some t389))else(some ([]:List Int))))=some r:=h
 clear h;replace H:=Option.bind_eq_some_iff.mp H;obtain⟨t388,A20,H⟩:=H;replace H:(if t388=true then((fullV.f l0).bind fun t389=>(some t389))else(some ([]:List Int)))=some r:=H
 have A2:=Aside0.mk A20;clear A20;by_cases c3:t388=true
 ·subst c3
  have H1:((fullV.f l0).bind fun t389=>(some t389))=some r:=by rw[if_pos rfl]at H;exact H
  clear H;have H:=H1;clear H1;replace H:=Option.bind_eq_some_iff.mp H;obtain⟨t389,A40,H⟩:=H;replace H:(some t389)=some r:=H;have A4:=Aside0.mk A40;clear A40;obtain rfl:=Option.some.inj H;go_enter Try.func44,Try.ntmps44
  go_wp2_with (first|((with_reducible refine gate_callee (f:=35) rfl ?_);refine goesL_ (some 4) rfl rfl Try.func35 (by kernel_rfl) rfl #[.slice A0 l0.length c0] rfl (by(try simp only[List.map_toArray,List.map_cons,List.map_nil])<;>rfl) ?_;(with_reducible refine(impl_CodeOk.calls _ _ l0 true _ ?side1 ?side2 A2.out).mono ?_);(case side1=>repeat(first|exact HR0.out|(with_reducible refine Kd.C_alloc ?_ _)|(with_reducible refine Kd.C_drewN ?_ _)|(with_reducible refine Kd.C_drew ?_)));(case side2=>exact HC0.out);rintro e w5 ⟨rfl,hb⟩;refine⟨_,rfl,?_⟩;replace HB:=Aside0.mk (below_step (by exact bU HB.out) hb);(try clear hb);(try clear hb2);(try clear hk);(try clear hi))|((with_reducible refine gate_callee (f:=80) rfl ?_);refine goesL_ (some 7) rfl rfl Try.func80 (by kernel_rfl) rfl #[.slice A0 l0.length c0] rfl (by(try simp only[List.map_toArray,List.map_cons,List.map_nil])<;>rfl) ?_;(with_reducible refine(impl_full.calls _ _ l0 t389 _ ?side1 ?side2 A4.out).mono ?_);(case side1=>repeat(first|exact(Kd.C_below HR0.out HB.out)|(with_reducible refine Kd.C_alloc ?_ _)|(with_reducible refine Kd.C_drewN ?_ _)|(with_reducible refine Kd.C_drew ?_)));(case side2=>exact HC0.out);rintro e w6 ⟨v390,rfl,ho0,hb⟩;refine⟨_,rfl,?_⟩;have HO391:=Aside0.mk (Kd.R_lower ho0 (below_size (by exact bU HB.out)));replace HB:=Aside0.mk (below_step (by exact bU HB.out) hb);(try clear hb);(try clear hb2);(try clear hk);(try clear hi);(try clear ho0)))
  go_ret
  exact⟨_,by first|rfl|(simp[errW_none,errW_some]<;>rfl)|(simp[*,errW_none,errW_some]<;>rfl),by exact rU HO391.out,by exact bU HB.out⟩
 ·replace c3:=Bool.eq_false_iff.mpr c3
  subst c3;have H1:(some ([]:List Int))=some r:=by rw[if_neg (show¬(false=true) by decide)]at H;exact H
  clear H;have H:=H1;clear H1;obtain rfl:=Option.some.inj H;go_enter Try.func44,Try.ntmps44
  go_wp2_with (first|((with_reducible refine gate_callee (f:=35) rfl ?_);refine goesL_ (some 4) rfl rfl Try.func35 (by kernel_rfl) rfl #[.slice A0 l0.length c0] rfl (by(try simp only[List.map_toArray,List.map_cons,List.map_nil])<;>rfl) ?_;(with_reducible refine(impl_CodeOk.calls _ _ l0 false _ ?side1 ?side2 A2.out).mono ?_);(case side1=>repeat(first|exact HR0.out|(with_reducible refine Kd.C_alloc ?_ _)|(with_reducible refine Kd.C_drewN ?_ _)|(with_reducible refine Kd.C_drew ?_)));(case side2=>exact HC0.out);rintro e w7 ⟨rfl,hb⟩;refine⟨_,rfl,?_⟩;replace HB:=Aside0.mk (below_step (by exact bU HB.out) hb);(try clear hb);(try clear hb2);(try clear hk);(try clear hi)))
  go_ret
  exact⟨_,by first|rfl|(simp[errW_none,errW_some]<;>rfl)|(simp[*,errW_none,errW_some]<;>rfl),by first|exact Kd.R_nil _ _ _ _ _|exact Kd.N_nil _ _ _ _ _|exact Kd.V_nil _ _ _ _ _|exact Kd.Q_nil _ _ _ _ _|exact Kd.S_nil _ _ _ _ _,by exact bU HB.out⟩
end Go.Proofs.Ytmklpbmlgjkbiaa.PS
end
section
namespace Go.Proofs.Ytmklpbmlgjkbiaa.PS
open Go.RowKit Go.Proofs.YtmklpbmlgjkbiaaW.PrintWords Go.Proofs.YtmklpbmlgjkbiaaW.PrintLast
def codeFullV.f (l:List S29):Option (List Int):=some (if codeB l=true then fullL l else [])
theorem scodefull_ev (l:List S29) (hm:l.length≤9223372036854775807):Ev (fun k=>spec_CodeFull.f k l) (if codeB l=true then fullL l else []):=by
  unfold spec_CodeFull.f;refine Ev.bind (scode_ev l hm) ?_
  by_cases h:codeB l=true
  · simp only[if_pos h]
    exact Ev.bind (sfull_ev h) (Ev.now _)
  · simp only[if_neg h]
    exact Ev.now _
theorem spec_CodeFull_as.calls (A0:Option Addr) (c0:Nat) (l0:List (S29)) (r:List Int) (w:World) (hr0:Kd.C k29 w A0 l0.length l0) (hc0:l0.length≤c0) (h:codeFullV.f l0=some r):
    Calls Try.prog 43 #[.slice A0 l0.length c0] w fun e w'=> ∃v0_:Value,e= .returned (v0_)∧Kd.R (Kd.int .i64) 3 w' w.heap.size (fun _=>True) v0_ r∧Below w.heap.size w w':=by
  obtain⟨k,hk⟩:=(scodefull_ev l0 (Kd.C_max hr0)).rounds;exact spec_CodeFull.calls k A0 c0 l0 r w hr0 hc0 (hk.trans h)
theorem impl_CodeFull_as.calls (A0:Option Addr) (c0:Nat) (l0:List (S29)) (r:List Int) (w:World) (hr0:Kd.C k29 w A0 l0.length l0) (hc0:l0.length≤c0) (h:codeFullV.f l0=some r):
    Calls Try.prog 44 #[.slice A0 l0.length c0] w fun e w'=> ∃v0_:Value,e= .returned (v0_)∧Kd.R (Kd.int .i64) 3 w' w.heap.size (fun _=>True) v0_ r∧Below w.heap.size w w':=by
  refine impl_CodeFull.calls A0 c0 l0 r w hr0 hc0 ?_
  rw[←h];unfold impl_CodeFull.f codeV.f fullV.f codeFullV.f;simp only[Option.bind_some]
  by_cases hc:codeB l0=true
  · simp only[if_pos hc];rfl
  · simp only[if_neg hc]
end Go.Proofs.Ytmklpbmlgjkbiaa.PS
end
section
namespace Go.Proofs.Ytmklpbmlgjkbiaa.PS
open Go.RowKit Go.Proofs.YtmklpbmlgjkbiaaW.PrintWords Go.Proofs.YtmklpbmlgjkbiaaW.PrintLast Go.Proofs.YtmklpbmlgjkbiaaW.PrintMore
attribute [local go_sem] max2_int min2_int max_two min_two max_three min_three max_four min_four   -- for this text's walks alone
def spec_DrawCodeFull.f (k:Nat) (l0:List Int):Option ((List (S29))):=(spec_l6Open.f l0).bind fun bt548=>((spec_l71Code.f k bt548.1 bt548.2).bind fun bt551=>(some bt551.1))
theorem spec_DrawCodeFull.calls (k:Nat) (A0:Option Addr) (c0:Nat) (l0:List Int) (r:List (S29)) (w:World) (hr0:Kd.C (Kd.int .u8) w A0 l0.length l0) (hc0:l0.length≤c0) (h:spec_DrawCodeFull.f k l0=some r):
  Calls Try.prog 48 #[.slice A0 l0.length c0] w fun e w'=> ∃v0_:Value,e= .returned (v0_)∧Kd.R k29 29 w' w.heap.size (fun _=>True) v0_ r∧Below w.heap.size w w':=by
 have HR0:=Aside0.mk hr0;have HC0:=Aside0.mk hc0;clear hr0 hc0;have HB:=Aside0.mk (Below.refl w.heap.size w);have H:((spec_l6Open.f l0).bind fun bt548=>((spec_l71Code.f k bt548.1 bt548.2).bind fun bt551=>(some bt551.1)))=some r:=h
 clear h;replace H:=Option.bind_eq_some_iff.mp H;obtain⟨⟨t548,t549⟩,A20,H⟩:=H;replace H:((spec_l71Code.f k t548 t549).bind fun bt551=>(some bt551.1))=some r:=H
 have A2:=Aside0.mk A20;clear A20;replace H:=Option.bind_eq_some_iff.mp H;obtain⟨⟨t551,t554⟩,A30,H⟩:=H;replace H:(some t551)=some r:=H;have A3:=Aside0.mk A30;clear A30;obtain rfl:=Option.some.inj H;go_enter Try.func48,Try.ntmps48
 go_wp2_with (first|((with_reducible refine gate_callee (f:=69) rfl ?_);refine goesL_ (some 4) rfl rfl Try.func69 (by kernel_rfl) rfl #[.slice A0 l0.length c0] rfl (by(try simp only[List.map_toArray,List.map_cons,List.map_nil]);first|done|rfl|(simp only[List.length_drop,List.length_take];rfl)) ?_;(with_reducible refine(spec_l6Open.calls _ _ l0 t548 t549 w _ ?side1 ?side2 ?side3 A2.out).mono ?_);(case side1=>exact bU HB.out);(case side2=>exact HR0.out);(case side3=>exact HC0.out);rintro e w4 ⟨g550,rfl,hi,hb,hb2⟩;refine⟨_,rfl,?_⟩;replace HB:=Aside0.mk (hb);have HI550:=Aside0.mk (hi);(try clear hb);(try clear hb2);(try clear hk);(try clear hi))|((with_reducible refine gate_callee (f:=85) rfl ?_);refine goesL_ (some 5) rfl rfl Try.func85 (by kernel_rfl) rfl #[.pointer (some ⟨g550,0,none⟩)] rfl (by(try simp only[List.map_toArray,List.map_cons,List.map_nil]);first|done|rfl|(simp only[List.length_drop,List.length_take];rfl)) ?_;(with_reducible refine(spec_l71Code.calls k g550 t548 t549 t551 t554 w _ ?side1 ?side2 A3.out).mono ?_);(case side1=>repeat(with_reducible first|exact HI550.out|apply sA|apply sN|apply sD|apply sS));(case side2=>repeat(with_reducible first|exact HB.out|apply bA|apply bN|apply b1|refine below_set ?_ (IsS84.ge HI550.out)));rintro e w5 ⟨v552,rfl,ho0,hi,hb,hk⟩;refine⟨_,rfl,?_⟩;have HO553:=Aside0.mk (Kd.R_lower ho0 (below_size (by repeat(with_reducible first|exact HB.out|apply bA|apply bN|apply b1|refine below_set ?_ (IsS84.ge HI550.out)))));replace HB:=Aside0.mk (hb);replace HI550:=Aside0.mk (hi);(try clear hb);(try clear hb2);(try clear hk);(try clear hi);(try clear ho0)))
 go_ret
 exact⟨_,by first|rfl|(simp[errW_none,errW_some]<;>rfl)|(simp[*,errW_none,errW_some]<;>rfl),by exact rU HO553.out,by repeat(with_reducible first|exact HB.out|apply bA|apply bN|apply b1|refine below_set ?_ (IsS84.ge HI550.out))⟩
def laws_lvBit.l0:Nat→Int→Int→Int→Option (Bool)
 |0,_,_,_=>none
 |k+1,x0,x1,x5=>if x5<x1 then(laws_lvBit.l0 k (wrap64 (Int.tdiv x0 2)) x1 (wrap64 (x5+1)))else(some ((Int.tmod x0 2)==1))
def laws_lvBit.f (k:Nat) (a0:Int) (a1:Int):Option (Bool):=laws_lvBit.l0 k a0 a1 0
theorem laws_lvBit.mono_l: ∀k,(∀y0 y1 y2,LeO (laws_lvBit.l0 k y0 y1 y2) (laws_lvBit.l0 (k+1) y0 y1 y2))
 |0=>fun _ _ _ r h=>by simp[laws_lvBit.l0]at h
 |k+1=>by
  have ih0:=laws_lvBit.mono_l k
  ·intro y0 y1 y2
   unfold laws_lvBit.l0;repeat' first
   |(with_reducible exact ih0 _ _ _)
   |(with_reducible exact LeO.refl _)
   |(with_reducible exact LeO.none _)
   |(with_reducible refine LeO.ite ?_ ?_)
   |(with_reducible refine LeO.bind ?_ (fun _=> ?_))
   |exact ih0 _ _ _
   |exact LeO.none _
   |refine LeO.ite ?_ ?_
   |refine LeO.bind ?_ (fun _=> ?_)
theorem laws_lvBit.mono: ∀a0 a1 k,LeO (laws_lvBit.f k a0 a1) (laws_lvBit.f (k+1) a0 a1):=by
 intro a0 a1 k;have ih0:=laws_lvBit.mono_l k;unfold laws_lvBit.f
 repeat' first
   |(with_reducible exact ih0 _ _ _)
   |(with_reducible exact LeO.refl _)
   |(with_reducible exact LeO.none _)
   |(with_reducible refine LeO.ite ?_ ?_)
   |(with_reducible refine LeO.bind ?_ (fun _=> ?_))
   |exact ih0 _ _ _
   |exact LeO.none _
   |refine LeO.ite ?_ ?_
   |refine LeO.bind ?_ (fun _=> ?_)
theorem laws_lvBit.calls (k:Nat) (a0:Int) (a1:Int) (r:Bool) (w:World) (h:laws_lvBit.f k a0 a1=some r):
  Calls Try.prog 50 #[.int .i64 a0,.int .i64 a1] w fun e w'=>e= .returned (.bool r)∧Drawn0 w w':=by
 have H:(laws_lvBit.l0 k a0 a1 0)=some r:=h;clear h;have H':=Aside0.mk H;clear H;go_enter Try.func50,Try.ntmps50
 go_wp2
 go_loopg [0,5] k (fun kq v0 v5 w'=> ∃ (x0_1:Int) (x5_1:Int),v0= .int .i64 x0_1∧v5= .int .i64 x5_1∧Aside0 (laws_lvBit.l0 kq x0_1 a1 x5_1=some r)∧Aside0 (kq≤k)∧Drawn0 w w')
 case atStart=>exact⟨(a0),(0),(by first|rfl|(simp;done)|(simp[*];done)),(by first|rfl|(simp;done)|(simp[*];done)),H',⟨Nat.le_refl _⟩,by repeat(first|exact Drawn0.refl _|apply Drawn0.step)⟩
 case round=>
  clear H';try clear p2
  obtain⟨x0_1,x5_1,rfl,rfl,HA,HK1,⟨m1,rfl⟩⟩:=hrel;cases gk with
  |zero=>exact absurd HA.out (by simp[laws_lvBit.l0])
  |succ k1=>
   have H:=HA.out;clear HA;simp only[laws_lvBit.l0]at H
   by_cases c3:x5_1<a1
   ·rw[if_pos c3]at H
    have c3b0:decide (x5_1<a1)=true:=decide_eq_true c3;clear c3;have H':=Aside0.mk H;clear H;go_wp2
    go_roundg k1
    case measure=>have:=HK1.out;omega
    case rel=>exact⟨(wrap64 (Int.tdiv x0_1 2)),(wrap64 (x5_1+1)),(by first|rfl|(simp;done)|(simp[*];done)),(by first|rfl|(simp;done)|(simp[*];done)),H',⟨by have:=HK1.out;omega⟩,by repeat(first|exact Drawn0.refl _|apply Drawn0.step)⟩
   ·rw[if_neg c3]at H
    have c3b0:decide (x5_1<a1)=false:=decide_eq_false c3;clear c3;obtain rfl:=Option.some.inj H;go_wp2
    go_ret
    exact⟨by first|rfl|(simp;done)|(simp[*];done),by repeat(first|exact Drawn0.refl _|apply Drawn0.step)⟩
end Go.Proofs.Ytmklpbmlgjkbiaa.PS
end
section
namespace Go.Proofs.Ytmklpbmlgjkbiaa.PS
open Go.RowKit Go.Proofs.YtmklpbmlgjkbiaaW.PrintWords Go.Proofs.YtmklpbmlgjkbiaaW.PrintLast Go.Proofs.YtmklpbmlgjkbiaaW.PrintMore
attribute [local go_sem] max2_int min2_int max_two min_two max_three min_three max_four min_four   -- for this text's walks alone
mutual
def laws_lvIn.l0:Nat→Int→Int→Int→Option (Bool)
 |0,_,_,_=>none
 |k+1,x0,x1,x5=>if x5≤3 then((laws_lvBit.f k x0 x5).bind fun t570=>(if t570=true then((laws_lvBit.f k x1 x5).bind fun t571=>(laws_lvIn.j1 k x0 x1 x5 (!t571)))else(laws_lvIn.j1 k x0 x1 x5 false)))else(some true)
def laws_lvIn.j1:Nat→Int→Int→Int→Bool→Option (Bool)
 |0,_,_,_,_=>none
 |k+1,x0,x1,x5,x18=>if x18=true then(some false)else(laws_lvIn.l0 k x0 x1 (wrap64 (x5+1)))
end
def laws_lvIn.f (k:Nat) (a0:Int) (a1:Int):Option (Bool):=laws_lvIn.l0 k a0 a1 0
theorem laws_lvIn.mono_l: ∀k,(∀y0 y1 y2,LeO (laws_lvIn.l0 k y0 y1 y2) (laws_lvIn.l0 (k+1) y0 y1 y2))∧(∀y0 y1 y2 y3,LeO (laws_lvIn.j1 k y0 y1 y2 y3) (laws_lvIn.j1 (k+1) y0 y1 y2 y3))
 |0=>⟨fun _ _ _ r h=>by simp[laws_lvIn.l0]at h,fun _ _ _ _ r h=>by simp[laws_lvIn.j1]at h⟩
 |k+1=>by
  obtain⟨ih0,ih1⟩:=laws_lvIn.mono_l k;refine⟨?_,?_⟩
  ·intro y0 y1 y2
   unfold laws_lvIn.l0;repeat' first
   |(with_reducible exact ih0 _ _ _)
   |(with_reducible exact ih1 _ _ _ _)
   |(with_reducible exact laws_lvBit.mono _ _ _)
   |(with_reducible exact LeO.refl _)
   |(with_reducible exact LeO.none _)
   |(with_reducible refine LeO.ite ?_ ?_)
   |(with_reducible refine LeO.bind ?_ (fun _=> ?_))
   |exact ih0 _ _ _
   |exact ih1 _ _ _ _
   |exact laws_lvBit.mono _ _ _
   |exact LeO.none _
   |refine LeO.ite ?_ ?_
   |refine LeO.bind ?_ (fun _=> ?_)
  ·intro y0 y1 y2 y3
   unfold laws_lvIn.j1;repeat' first
   |(with_reducible exact ih0 _ _ _)
   |(with_reducible exact ih1 _ _ _ _)
   |(with_reducible exact laws_lvBit.mono _ _ _)
   |(with_reducible exact LeO.refl _)
   |(with_reducible exact LeO.none _)
   |(with_reducible refine LeO.ite ?_ ?_)
   |(with_reducible refine LeO.bind ?_ (fun _=> ?_))
   |exact ih0 _ _ _
   |exact ih1 _ _ _ _
   |exact laws_lvBit.mono _ _ _
   |exact LeO.none _
   |refine LeO.ite ?_ ?_
   |refine LeO.bind ?_ (fun _=> ?_)
theorem laws_lvIn.mono: ∀a0 a1 k,LeO (laws_lvIn.f k a0 a1) (laws_lvIn.f (k+1) a0 a1):=by
 intro a0 a1 k;obtain⟨ih0,ih1⟩:=laws_lvIn.mono_l k;unfold laws_lvIn.f
 repeat' first
   |(with_reducible exact ih0 _ _ _)
   |(with_reducible exact ih1 _ _ _ _)
   |(with_reducible exact laws_lvBit.mono _ _ _)
   |(with_reducible exact LeO.refl _)
   |(with_reducible exact LeO.none _)
   |(with_reducible refine LeO.ite ?_ ?_)
   |(with_reducible refine LeO.bind ?_ (fun _=> ?_))
   |exact ih0 _ _ _
   |exact ih1 _ _ _ _
   |exact laws_lvBit.mono _ _ _
   |exact LeO.none _
   |refine LeO.ite ?_ ?_
   |refine LeO.bind ?_ (fun _=> ?_)
theorem laws_lvIn.calls (k:Nat) (a0:Int) (a1:Int) (r:Bool) (w:World) (h:laws_lvIn.f k a0 a1=some r):
  Calls Try.prog 53 #[.int .i64 a0,.int .i64 a1] w fun e w'=>e= .returned (.bool r)∧Drawn0 w w':=by
 have H:(laws_lvIn.l0 k a0 a1 0)=some r:=h;clear h;have H':=Aside0.mk H;clear H;go_enter Try.func53,Try.ntmps53
 go_wp2
 go_loopg [5] k (fun kq v5 w'=> ∃ (x5_1:Int),v5= .int .i64 x5_1∧Aside0 (laws_lvIn.l0 kq a0 a1 x5_1=some r)∧Aside0 (kq≤k)∧Drawn0 w w')
 case atStart=>exact⟨(0),(by first|rfl|(simp;done)|(simp[*];done)),H',⟨Nat.le_refl _⟩,by repeat(first|exact Drawn0.refl _|apply Drawn0.step)⟩
 case round=>
  clear H';try clear p2
  obtain⟨x5_1,rfl,HA,HK1,⟨m1,rfl⟩⟩:=hrel;cases gk with
  |zero=>exact absurd HA.out (by simp[laws_lvIn.l0])
  |succ k1=>
   have H:=HA.out;clear HA;simp only[laws_lvIn.l0]at H
   by_cases c3:x5_1≤3
   ·rw[if_pos c3]at H
    have c3b0:decide (x5_1≤3)=true:=decide_eq_true c3;clear c3;have HC4:=Aside0.mk H;clear H;go_upto_region 4 with (fail)
    go_cut [18] (fun v18 wc=> ∃ (kq:Nat) (x18_3:Bool),v18= .bool x18_3∧Aside0 (laws_lvIn.j1 kq a0 a1 x5_1 x18_3=some r)∧Aside0 (kq≤k1)∧Drawn0 w wc)
    case first=>
     have H:=HC4.out;clear HC4;replace H:=Option.bind_eq_some_iff.mp H;obtain⟨t570,A50,H⟩:=H;replace H:(if t570=true then((laws_lvBit.f k1 a1 x5_1).bind fun t571=>(laws_lvIn.j1 k1 a0 a1 x5_1 (!t571)))else(laws_lvIn.j1 k1 a0 a1 x5_1 false))=some r:=H
     have A5:=Aside0.mk A50;clear A50;by_cases c6:t570=true
     ·subst c6
      have H1:((laws_lvBit.f k1 a1 x5_1).bind fun t571=>(laws_lvIn.j1 k1 a0 a1 x5_1 (!t571)))=some r:=by rw[if_pos rfl]at H;exact H
      clear H;have H:=H1;clear H1;replace H:=Option.bind_eq_some_iff.mp H;obtain⟨t571,A70,H⟩:=H;replace H:(laws_lvIn.j1 k1 a0 a1 x5_1 (!t571))=some r:=H;have A7:=Aside0.mk A70;clear A70;have H':=Aside0.mk H;clear H;go_wp2_with (first|((with_reducible refine gate_callee (f:=50) rfl ?_);refine goesL_ (some 12) rfl rfl Try.func50 (by kernel_rfl) rfl #[.int .i64 a0,.int .i64 x5_1] rfl (by(try simp only[List.map_toArray,List.map_cons,List.map_nil]);first|done|rfl|(simp only[List.length_drop,List.length_take];rfl)) ?_;(with_reducible refine(laws_lvBit.calls k1 a0 x5_1 true _ A5.out).mono ?_);rintro e w' ⟨rfl,⟨nd,rfl⟩⟩;refine⟨_,rfl,?_⟩)|(go_at_call 50;(with_reducible refine(laws_lvBit.calls k1 a1 x5_1 t571 _ A7.out).mono ?_);rintro e w' ⟨rfl,⟨nd,rfl⟩⟩))
      go_meet
      case rel=>exact⟨_,(!t571),(by first|rfl|(simp;done)|(simp[*];done)),H',⟨by have:=HK1.out;first|omega|exact Nat.le_refl _⟩,by repeat(first|exact Drawn0.refl _|apply Drawn0.step)⟩
     ·replace c6:=Bool.eq_false_iff.mpr c6
      subst c6;have H1:(laws_lvIn.j1 k1 a0 a1 x5_1 false)=some r:=by rw[if_neg (show¬(false=true) by decide)]at H;exact H
      clear H;have H:=H1;clear H1;have H':=Aside0.mk H;clear H;go_wp2_with (first|((with_reducible refine gate_callee (f:=50) rfl ?_);refine goesL_ (some 12) rfl rfl Try.func50 (by kernel_rfl) rfl #[.int .i64 a0,.int .i64 x5_1] rfl (by(try simp only[List.map_toArray,List.map_cons,List.map_nil]);first|done|rfl|(simp only[List.length_drop,List.length_take];rfl)) ?_;(with_reducible refine(laws_lvBit.calls k1 a0 x5_1 false _ A5.out).mono ?_);rintro e w' ⟨rfl,⟨nd,rfl⟩⟩;refine⟨_,rfl,?_⟩))
      go_meet
      case rel=>exact⟨_,(false),(by first|rfl|(simp;done)|(simp[*];done)),H',⟨by have:=HK1.out;first|omega|exact Nat.le_refl _⟩,by repeat(first|exact Drawn0.refl _|apply Drawn0.step)⟩
    case rest=>
     clear HC4;(try clear p2);(try clear c3);(try clear c3b0);(try clear c5);(try clear c6);(try clear p2)
     obtain⟨kq,x18_3,rfl,HA,HJ3,⟨mc3,rfl⟩⟩:=hcut;cases kq with
     |zero=>exact absurd HA.out (by simp[laws_lvIn.j1])
     |succ kj3=>
      have H:=HA.out;clear HA;simp only[laws_lvIn.j1]at H
      by_cases c8:x18_3=true
      ·subst c8
       have H1:(some false)=some r:=by rw[if_pos rfl]at H;exact H
       clear H;have H:=H1;clear H1;obtain rfl:=Option.some.inj H;go_wp2
       go_ret
       exact⟨by first|rfl|(simp;done)|(simp[*];done),by repeat(first|exact Drawn0.refl _|apply Drawn0.step)⟩
      ·replace c8:=Bool.eq_false_iff.mpr c8
       subst c8;have H1:(laws_lvIn.l0 kj3 a0 a1 (wrap64 (x5_1+1)))=some r:=by rw[if_neg (show¬(false=true) by decide)]at H;exact H
       clear H;have H:=H1;clear H1;have H':=Aside0.mk H;clear H;go_wp2
       go_roundg kj3
       case measure=>have:=HK1.out;have:=HJ3.out;omega
       case rel=>exact⟨(wrap64 (x5_1+1)),(by first|rfl|(simp;done)|(simp[*];done)),H',⟨by have:=HK1.out;have:=HJ3.out;omega⟩,by repeat(first|exact Drawn0.refl _|apply Drawn0.step)⟩
   ·rw[if_neg c3]at H
    have c3b0:decide (x5_1≤3)=false:=decide_eq_false c3;clear c3;obtain rfl:=Option.some.inj H;go_wp2
    go_ret
    exact⟨by first|rfl|(simp;done)|(simp[*];done),by repeat(first|exact Drawn0.refl _|apply Drawn0.step)⟩
end Go.Proofs.Ytmklpbmlgjkbiaa.PS
end
section
namespace Go.Proofs.Ytmklpbmlgjkbiaa.PJA
open Go.RowKit Go.Proofs.YtmklpbmlgjkbiaaW.PrintWords Go.Proofs.YtmklpbmlgjkbiaaW.PrintLast Go.Proofs.YtmklpbmlgjkbiaaW.PrintMore Go.Proofs.Ytmklpbmlgjkbiaa.PS
attribute [local go_sem] max2_int min2_int max_two min_two max_three min_three max_four min_four   -- for this text's walks alone
mutual
def laws_FnFullFirst.j0:Nat→List (S29)→List Int→Bool→Option (Bool)
 |0,_,_,_=>none
 |k+1,x3,x4,x22=>if x22=true then((codeFullV.f x3).bind fun t110=>((laws_lvInts.f k x4 t110).bind fun t113=>(some t113)))else(laws_FnFullFirst.l0 k x3 x4 0)
def laws_FnFullFirst.l0:Nat→List (S29)→List Int→Int→Option (Bool)
 |0,_,_,_=>none
 |k+1,x3,x4,x5=>if x5<(x3.length:Int)then(if 0≤x5 then(if x5<(x4.length:Int)then(if(rd x4 x5)<(-1)then(laws_FnFullFirst.j2 k x3 x4 x5 true)else(if(rd x4 x5)>15 then(laws_FnFullFirst.j2 k x3 x4 x5 true)else(if(rd x4 x5)≥0 then(if((rd_T29 x3 x5).f0)=5 then(if 0≤((rd_T29 x3 x5).f3)then(if((rd_T29 x3 x5).f3)<(x4.length:Int)then((laws_lvIn.f k (mx (rd x4 ((rd_T29 x3 x5).f3)) 0) 1).bind fun t122=>(laws_FnFullFirst.j2 k x3 x4 x5 (!t122)))else(none))else(none))else(laws_FnFullFirst.j2 k x3 x4 x5 false))else(laws_FnFullFirst.j2 k x3 x4 x5 false))))else(none))else(none))else(if(x4.length:Int)=(x3.length:Int)then(if 0<(x4.length:Int)then(if(rd x4 0)=1 then(some true)else(some ((rd x4 0)==0)))else(none))else(some false))
def laws_FnFullFirst.j2:Nat→List (S29)→List Int→Int→Bool→Option (Bool)
 |0,_,_,_,_=>none
 |k+1,x3,x4,x5,x72=>if x72=true then(some false)else(laws_FnFullFirst.l0 k x3 x4 (wrap64 (x5+1)))
end
def laws_FnFullFirst.f (k:Nat) (l0:List Int):Option (Bool):=if(l0.length:Int)>1048576 then(some true)else((spec_DrawCodeFull.f k l0).bind fun t101=>((codeFullV.f t101).bind fun t104=>((laws_lvInts.f k t104 t104).bind fun t109=>(if t109=true then(laws_FnFullFirst.j0 k t101 t104 ((t104.length:Int)==0))else(laws_FnFullFirst.j0 k t101 t104 true)))))
theorem laws_FnFullFirst.calls (k:Nat) (A0:Option Addr) (c0:Nat) (l0:List Int) (r:Bool) (w:World) (hr0:Kd.C (Kd.int .u8) w A0 l0.length l0) (hc0:l0.length≤c0) (h:laws_FnFullFirst.f k l0=some r):
  Calls Try.prog 15 #[.slice A0 l0.length c0] w fun e w'=>e= .returned (.bool r)∧Below w.heap.size w w':=by
 have HR0:=Aside0.mk hr0;have HC0:=Aside0.mk hc0;clear hr0 hc0;have HB:=Aside0.mk (Below.refl w.heap.size w);have H:(if(l0.length:Int)>1048576 then(some true)else((spec_DrawCodeFull.f k l0).bind fun t101=>((codeFullV.f t101).bind fun t104=>((laws_lvInts.f k t104 t104).bind fun t109=>(if t109=true then(laws_FnFullFirst.j0 k t101 t104 ((t104.length:Int)==0))else(laws_FnFullFirst.j0 k t101 t104 true))))))=some r:=h
 clear h;by_cases c2:(l0.length:Int)>1048576
 ·rw[if_pos c2]at H
  have c2b0:decide (1048576<(l0.length:Int))=true:=decide_eq_true c2;have c2b1:decide (1048576<l0.length)=true:=decide_eq_true (by omega)
  clear c2;obtain rfl:=Option.some.inj H;go_enter Try.func15,Try.ntmps15
  go_wp2
  go_ret
  exact⟨by first|rfl|(simp[errW_none,errW_some]<;>rfl)|(simp[*,errW_none,errW_some]<;>rfl),by exact bU HB.out⟩
 ·rw[if_neg c2]at H
  have c2b0:decide (1048576<(l0.length:Int))=false:=decide_eq_false c2;have c2b1:decide (1048576<l0.length)=false:=decide_eq_false (by omega)
  clear c2;replace H:=Option.bind_eq_some_iff.mp H;obtain⟨t101,A30,H⟩:=H;replace H:((codeFullV.f t101).bind fun t104=>((laws_lvInts.f k t104 t104).bind fun t109=>(if t109=true then(laws_FnFullFirst.j0 k t101 t104 ((t104.length:Int)==0))else(laws_FnFullFirst.j0 k t101 t104 true))))=some r:=H
  have A3:=Aside0.mk A30;clear A30;replace H:=Option.bind_eq_some_iff.mp H;obtain⟨t104,A40,H⟩:=H;replace H:((laws_lvInts.f k t104 t104).bind fun t109=>(if t109=true then(laws_FnFullFirst.j0 k t101 t104 ((t104.length:Int)==0))else(laws_FnFullFirst.j0 k t101 t104 true)))=some r:=H
  have A4:=Aside0.mk A40;clear A40;have HC5:=Aside0.mk H;clear H;go_enter Try.func15,Try.ntmps15
  go_upto_region 5 with (first|((with_reducible refine gate_callee (f:=48) rfl ?_);refine goesL_ (some 10) rfl rfl Try.func48 (by kernel_rfl) rfl #[.slice A0 l0.length c0] rfl (by(try simp only[List.map_toArray,List.map_cons,List.map_nil])<;>rfl) ?_;(with_reducible refine(spec_DrawCodeFull.calls k _ _ l0 t101 _ ?side1 ?side2 A3.out).mono ?_);(case side1=>repeat(first|exact HR0.out|(with_reducible refine Kd.C_alloc ?_ _)|(with_reducible refine Kd.C_drewN ?_ _)|(with_reducible refine Kd.C_drew ?_)));(case side2=>exact HC0.out);rintro e w6 ⟨v102,rfl,ho0,hb⟩;refine⟨_,rfl,?_⟩;have HO103:=Aside0.mk (Kd.R_lower ho0 (below_size (by exact bU HB.out)));replace HB:=Aside0.mk (below_step (by exact bU HB.out) hb);(try clear hb);(try clear hb2);(try clear hk);(try clear hi);(try clear ho0);obtain⟨Ao7,co7,eo7⟩:=Kd.R_slice HO103.out;subst eo7)|((with_reducible refine gate_callee (f:=44) rfl ?_);refine goesL_ (some 12) rfl rfl Try.func44 (by kernel_rfl) rfl #[.slice Ao7 t101.length co7] rfl (by(try simp only[List.map_toArray,List.map_cons,List.map_nil])<;>rfl) ?_;(with_reducible refine(impl_CodeFull_as.calls _ _ t101 t104 _ ?side1 ?side2 A4.out).mono ?_);(case side1=>repeat(first|exact(Kd.R_reads' HO103.out).2.2|(with_reducible refine Kd.C_alloc ?_ _)|(with_reducible refine Kd.C_drewN ?_ _)|(with_reducible refine Kd.C_drew ?_)));(case side2=>exact(Kd.R_reads' HO103.out).2.1);rintro e w8 ⟨v105,rfl,ho0,hb⟩;refine⟨_,rfl,?_⟩;replace HO103:=Aside0.mk (Kd.R_below (by exact rU HO103.out) hb);have HO106:=Aside0.mk (Kd.R_lower ho0 (below_size (by exact bU HB.out)));replace HB:=Aside0.mk (below_step (by exact bU HB.out) hb);(try clear hb);(try clear hb2);(try clear hk);(try clear hi);(try clear ho0)))
  (try simp only[Act.put,List.setIfInBounds_toArray,List.set_cons_zero,List.set_cons_succ])
  go_cut [22] (fun v22 wc=> ∃ (kq:Nat) (x22_4:Bool),v22= .bool x22_4∧Aside0 (laws_FnFullFirst.j0 kq t101 t104 x22_4=some r)∧Aside0 (kq≤k)∧Aside0 (Kd.R k29 29 wc w.heap.size (fun _=>True) (.slice Ao7 t101.length co7) t101)∧Aside0 (Kd.R (Kd.int .i64) 3 wc w.heap.size (fun _=>True) v105 t104)∧Aside0 (Below w.heap.size w wc))
  case first=>
   have H:=HC5.out;clear HC5;replace H:=Option.bind_eq_some_iff.mp H;obtain⟨t109,A90,H⟩:=H;replace H:(if t109=true then(laws_FnFullFirst.j0 k t101 t104 ((t104.length:Int)==0))else(laws_FnFullFirst.j0 k t101 t104 true))=some r:=H
   have A9:=Aside0.mk A90;clear A90;by_cases c10:t109=true
   ·subst c10
    have H1:(laws_FnFullFirst.j0 k t101 t104 ((t104.length:Int)==0))=some r:=by rw[if_pos rfl]at H;exact H
    clear H;have H:=H1;clear H1;have H':=Aside0.mk H;clear H;go_wp2_with (first|((with_reducible refine gate_callee (f:=43) rfl ?_);refine goesL_ (some 15) rfl rfl Try.func43 (by kernel_rfl) rfl #[.slice Ao7 t101.length co7] rfl (by(try simp only[List.map_toArray,List.map_cons,List.map_nil])<;>rfl) ?_;(with_reducible refine(spec_CodeFull_as.calls _ _ t101 t104 _ ?side1 ?side2 A4.out).mono ?_);(case side1=>repeat(first|exact(Kd.R_reads' HO103.out).2.2|(with_reducible refine Kd.C_alloc ?_ _)|(with_reducible refine Kd.C_drewN ?_ _)|(with_reducible refine Kd.C_drew ?_)));(case side2=>exact(Kd.R_reads' HO103.out).2.1);rintro e w11 ⟨v107,rfl,ho0,hb⟩;refine⟨_,rfl,?_⟩;have n0_:=Aside0.mk (Kd.R_below (by exact rU HO103.out) hb);have n1_:=Aside0.mk (Kd.R_elder' (by exact rU HO106.out) (Kd.R_base ho0) hb);have n2_:=Aside0.mk (Kd.R_lower (Kd.R_new' ho0 (Kd.R_lt (by exact rU HO106.out))) (below_size (by exact bU HB.out)));have n3_:=Aside0.mk (below_step (by exact bU HB.out) hb);clear HO103;clear HO106;clear HB;have HO103:=n0_;have HO106:=n1_;have HO108:=n2_;have HB:=n3_;clear n0_ n1_ n2_ n3_;(try clear hb);(try clear hb2);(try clear hk);(try clear hi);(try clear ho0);obtain⟨Ao12,co12,eo12⟩:=Kd.R_slice HO106.out;subst eo12;obtain⟨Ao13,co13,eo13⟩:=Kd.R_slice HO108.out;subst eo13)|((with_reducible refine gate_callee (f:=49) rfl ?_);refine goesL_ (some 16) rfl rfl Try.func49 (by kernel_rfl) rfl #[.slice Ao12 t104.length co12,.slice Ao13 t104.length co13] rfl (by(try simp only[List.map_toArray,List.map_cons,List.map_nil])<;>rfl) ?_;(with_reducible refine(laws_lvInts.calls k _ _ t104 _ _ t104 true _ ?side1 ?side2 ?side3 ?side4 A9.out).mono ?_);(case side1=>repeat(first|exact(Kd.R_reads' HO106.out).2.2|(with_reducible refine Kd.C_alloc ?_ _)|(with_reducible refine Kd.C_drewN ?_ _)|(with_reducible refine Kd.C_drew ?_)));(case side2=>exact(Kd.R_reads' HO106.out).2.1);(case side3=>repeat(first|exact(Kd.R_reads' HO108.out).2.2|(with_reducible refine Kd.C_alloc ?_ _)|(with_reducible refine Kd.C_drewN ?_ _)|(with_reducible refine Kd.C_drew ?_)));(case side4=>exact(Kd.R_reads' HO108.out).2.1);rintro e w' ⟨rfl,⟨nd,rfl⟩⟩;refine⟨_,rfl,?_⟩))
    go_meet
    case rel=>exact⟨_,(((t104.length:Int)==0)),(by first|rfl|(simp;done)|(simp[*];done)),H',⟨by first|omega|exact Nat.le_refl _⟩,⟨by exact rU HO103.out⟩,⟨by(with_reducible repeat(first|apply rA|apply rN|apply rD));exact Kd.R_mono HO106.out (fun _ hk=>trivial)⟩,⟨by exact bU HB.out⟩⟩
   ·replace c10:=Bool.eq_false_iff.mpr c10
    subst c10;have H1:(laws_FnFullFirst.j0 k t101 t104 true)=some r:=by rw[if_neg (show¬(false=true) by decide)]at H;exact H
    clear H;have H:=H1;clear H1;have H':=Aside0.mk H;clear H;go_wp2_with (first|((with_reducible refine gate_callee (f:=43) rfl ?_);refine goesL_ (some 15) rfl rfl Try.func43 (by kernel_rfl) rfl #[.slice Ao7 t101.length co7] rfl (by(try simp only[List.map_toArray,List.map_cons,List.map_nil])<;>rfl) ?_;(with_reducible refine(spec_CodeFull_as.calls _ _ t101 t104 _ ?side1 ?side2 A4.out).mono ?_);(case side1=>repeat(first|exact(Kd.R_reads' HO103.out).2.2|(with_reducible refine Kd.C_alloc ?_ _)|(with_reducible refine Kd.C_drewN ?_ _)|(with_reducible refine Kd.C_drew ?_)));(case side2=>exact(Kd.R_reads' HO103.out).2.1);rintro e w14 ⟨v107,rfl,ho0,hb⟩;refine⟨_,rfl,?_⟩;have n0_:=Aside0.mk (Kd.R_below (by exact rU HO103.out) hb);have n1_:=Aside0.mk (Kd.R_elder' (by exact rU HO106.out) (Kd.R_base ho0) hb);have n2_:=Aside0.mk (Kd.R_lower (Kd.R_new' ho0 (Kd.R_lt (by exact rU HO106.out))) (below_size (by exact bU HB.out)));have n3_:=Aside0.mk (below_step (by exact bU HB.out) hb);clear HO103;clear HO106;clear HB;have HO103:=n0_;have HO106:=n1_;have HO108:=n2_;have HB:=n3_;clear n0_ n1_ n2_ n3_;(try clear hb);(try clear hb2);(try clear hk);(try clear hi);(try clear ho0);obtain⟨Ao15,co15,eo15⟩:=Kd.R_slice HO106.out;subst eo15;obtain⟨Ao16,co16,eo16⟩:=Kd.R_slice HO108.out;subst eo16)|((with_reducible refine gate_callee (f:=49) rfl ?_);refine goesL_ (some 16) rfl rfl Try.func49 (by kernel_rfl) rfl #[.slice Ao15 t104.length co15,.slice Ao16 t104.length co16] rfl (by(try simp only[List.map_toArray,List.map_cons,List.map_nil])<;>rfl) ?_;(with_reducible refine(laws_lvInts.calls k _ _ t104 _ _ t104 false _ ?side1 ?side2 ?side3 ?side4 A9.out).mono ?_);(case side1=>repeat(first|exact(Kd.R_reads' HO106.out).2.2|(with_reducible refine Kd.C_alloc ?_ _)|(with_reducible refine Kd.C_drewN ?_ _)|(with_reducible refine Kd.C_drew ?_)));(case side2=>exact(Kd.R_reads' HO106.out).2.1);(case side3=>repeat(first|exact(Kd.R_reads' HO108.out).2.2|(with_reducible refine Kd.C_alloc ?_ _)|(with_reducible refine Kd.C_drewN ?_ _)|(with_reducible refine Kd.C_drew ?_)));(case side4=>exact(Kd.R_reads' HO108.out).2.1);rintro e w' ⟨rfl,⟨nd,rfl⟩⟩;refine⟨_,rfl,?_⟩))
    go_meet
    case rel=>exact⟨_,(true),(by first|rfl|(simp;done)|(simp[*];done)),H',⟨by first|omega|exact Nat.le_refl _⟩,⟨by exact rU HO103.out⟩,⟨by(with_reducible repeat(first|apply rA|apply rN|apply rD));exact Kd.R_mono HO106.out (fun _ hk=>trivial)⟩,⟨by exact bU HB.out⟩⟩
  case rest=>
   clear HC5;(try clear c1);(try clear c2);(try clear c2b0);(try clear c2b1);(try clear p2);(try clear c4);(try clear c10);(try clear c15)
   obtain⟨kq,x22_4,rfl,HA,HJ4,HO_3,HO_4,HB⟩:=hcut;cases kq with
   |zero=>exact absurd HA.out (by simp[laws_FnFullFirst.j0])
   |succ kj4=>
    have H:=HA.out;clear HA;simp only[laws_FnFullFirst.j0]at H
    by_cases c17:x22_4=true
    ·subst c17
     have H1:((codeFullV.f t101).bind fun t110=>((laws_lvInts.f kj4 t104 t110).bind fun t113=>(some t113)))=some r:=by rw[if_pos rfl]at H;exact H
     clear H;have H:=H1;clear H1;replace H:=Option.bind_eq_some_iff.mp H;obtain⟨t110,A180,H⟩:=H;replace H:((laws_lvInts.f kj4 t104 t110).bind fun t113=>(some t113))=some r:=H
     have A18:=Aside0.mk A180;clear A180;replace H:=Option.bind_eq_some_iff.mp H;obtain⟨t113,A190,H⟩:=H;replace H:(some t113)=some r:=H;have A19:=Aside0.mk A190;clear A190;obtain rfl:=Option.some.inj H;go_wp2_with (first|((with_reducible refine gate_callee (f:=43) rfl ?_);refine goesL_ (some 25) rfl rfl Try.func43 (by kernel_rfl) rfl #[.slice Ao7 t101.length co7] rfl (by(try simp only[List.map_toArray,List.map_cons,List.map_nil])<;>rfl) ?_;(with_reducible refine(spec_CodeFull_as.calls _ _ t101 t110 _ ?side1 ?side2 A18.out).mono ?_);(case side1=>repeat(first|exact(Kd.R_reads' HO_3.out).2.2|(with_reducible refine Kd.C_alloc ?_ _)|(with_reducible refine Kd.C_drewN ?_ _)|(with_reducible refine Kd.C_drew ?_)));(case side2=>exact(Kd.R_reads' HO_3.out).2.1);rintro e w20 ⟨v111,rfl,ho0,hb⟩;refine⟨_,rfl,?_⟩;have n0_:=Aside0.mk (Kd.R_below (by exact rU HO_3.out) hb);have n1_:=Aside0.mk (Kd.R_elder' (by exact rU HO_4.out) (Kd.R_base ho0) hb);have n2_:=Aside0.mk (Kd.R_lower (Kd.R_new' ho0 (Kd.R_lt (by exact rU HO_4.out))) (below_size (by exact bU HB.out)));have n3_:=Aside0.mk (below_step (by exact bU HB.out) hb);clear HO_3;clear HO_4;clear HB;have HO_3:=n0_;have HO_4:=n1_;have HO112:=n2_;have HB:=n3_;clear n0_ n1_ n2_ n3_;(try clear hb);(try clear hb2);(try clear hk);(try clear hi);(try clear ho0);obtain⟨Ao21,co21,eo21⟩:=Kd.R_slice HO_4.out;subst eo21;obtain⟨Ao22,co22,eo22⟩:=Kd.R_slice HO112.out;subst eo22)|((with_reducible refine gate_callee (f:=49) rfl ?_);refine goesL_ (some 26) rfl rfl Try.func49 (by kernel_rfl) rfl #[.slice Ao21 t104.length co21,.slice Ao22 t110.length co22] rfl (by(try simp only[List.map_toArray,List.map_cons,List.map_nil])<;>rfl) ?_;(with_reducible refine(laws_lvInts.calls kj4 _ _ t104 _ _ t110 t113 _ ?side1 ?side2 ?side3 ?side4 A19.out).mono ?_);(case side1=>repeat(first|exact(Kd.R_reads' HO_4.out).2.2|(with_reducible refine Kd.C_alloc ?_ _)|(with_reducible refine Kd.C_drewN ?_ _)|(with_reducible refine Kd.C_drew ?_)));(case side2=>exact(Kd.R_reads' HO_4.out).2.1);(case side3=>repeat(first|exact(Kd.R_reads' HO112.out).2.2|(with_reducible refine Kd.C_alloc ?_ _)|(with_reducible refine Kd.C_drewN ?_ _)|(with_reducible refine Kd.C_drew ?_)));(case side4=>exact(Kd.R_reads' HO112.out).2.1);rintro e w' ⟨rfl,⟨nd,rfl⟩⟩;refine⟨_,rfl,?_⟩))
     go_ret
     exact⟨by first|rfl|(simp[errW_none,errW_some]<;>rfl)|(simp[*,errW_none,errW_some]<;>rfl),by exact bU HB.out⟩
    ·replace c17:=Bool.eq_false_iff.mpr c17
     subst c17;have H1:(laws_FnFullFirst.l0 kj4 t101 t104 0)=some r:=by rw[if_neg (show¬(false=true) by decide)]at H;exact H
     clear H;have H:=H1;clear H1;have H':=Aside0.mk H;clear H;go_wp2
     go_loopg [5] kj4 (fun kq v5 w'=> ∃ (x5_2:Int),v5= .int .i64 x5_2∧Aside0 (laws_FnFullFirst.l0 kq t101 t104 x5_2=some r)∧Aside0 (kq≤kj4)∧Aside0 (Kd.R k29 29 w' w.heap.size (fun _=>True) (.slice Ao7 t101.length co7) t101)∧Aside0 (Kd.R (Kd.int .i64) 3 w' w.heap.size (fun _=>True) v105 t104)∧Aside0 (Below w.heap.size w w'))
     case atStart=>exact⟨(0),(by first|rfl|(simp;done)|(simp[*];done)),H',⟨Nat.le_refl _⟩,⟨by exact rU HO_3.out⟩,⟨by exact rU HO_4.out⟩,⟨by exact bU HB.out⟩⟩
     case round=>
      clear H';(try clear c1);(try clear c2);(try clear c2b0);(try clear c2b1);(try clear p2);(try clear c4);(try clear c10);(try clear c15);(try clear c17);(try clear p2)
      obtain⟨x5_2,rfl,HA,HK2,HO_3,HO_4,HB⟩:=hrel;cases gk with
      |zero=>exact absurd HA.out (by simp[laws_FnFullFirst.l0])
      |succ k2=>
       have H:=HA.out;clear HA;simp only[laws_FnFullFirst.l0]at H
       by_cases c23:x5_2<(t101.length:Int)
       ·rw[if_pos c23]at H
        have c23b0:decide (x5_2<(t101.length:Int))=true:=decide_eq_true c23;clear c23;have HC24:=Aside0.mk H;clear H;go_upto_region 10 with (fail)
        go_cut [72] (fun v72 wc=> ∃ (kq:Nat) (x72_23:Bool),v72= .bool x72_23∧Aside0 (laws_FnFullFirst.j2 kq t101 t104 x5_2 x72_23=some r)∧Aside0 (kq≤k2)∧Aside0 (Kd.R k29 29 wc w.heap.size (fun _=>True) (.slice Ao7 t101.length co7) t101)∧Aside0 (Kd.R (Kd.int .i64) 3 wc w.heap.size (fun _=>True) v105 t104)∧Aside0 (Below w.heap.size w wc))
        case first=>
         have H:=HC24.out;clear HC24;by_cases c25:0≤x5_2
         ·rw[if_pos c25]at H
          have c25b0:decide (0≤x5_2)=true:=decide_eq_true c25;clear c25;(first|rw[c25b0]|(simp only[i64_w,i32_w];rw[c25b0])|skip)
          by_cases c26:x5_2<(t104.length:Int)
          ·rw[if_pos c26]at H
           have c26b0:decide (x5_2<(t104.length:Int))=true:=decide_eq_true c26;clear c26;by_cases c27:(rd t104 x5_2)<(-1)
           ·rw[if_pos c27]at H
            have c27b0:decide ((rd t104 x5_2)<(-1))=true:=decide_eq_true c27;clear c27;have H':=Aside0.mk H;clear H;obtain⟨Ao28,co28,eo28⟩:=Kd.R_slice HO_4.out;subst eo28;have p116:0≤(x5_2:Int):=of_decide_eq_true (by assumption)
            have q116:x5_2<(t104.length:Int):=of_decide_eq_true (by assumption)
            obtain⟨ad116,e116,hx116_0⟩:=Kd.at_int (Kd.R_reads' HO_4.out).2.2 x5_2 p116 q116;cases e116
            replace p116:=eq_true p116;replace q116:=eq_true q116;go_wp2
            go_meet
            case rel=>exact⟨_,(true),(by first|rfl|(simp;done)|(simp[*];done)),H',⟨by have:=HJ4.out;have:=HK2.out;first|omega|exact Nat.le_refl _⟩,⟨by exact rU HO_3.out⟩,⟨by exact rU HO_4.out⟩,⟨by exact bU HB.out⟩⟩
           ·rw[if_neg c27]at H
            have c27b0:decide ((rd t104 x5_2)<(-1))=false:=decide_eq_false c27;clear c27;by_cases c29:(rd t104 x5_2)>15
            ·rw[if_pos c29]at H
             have c29b0:decide (15<(rd t104 x5_2))=true:=decide_eq_true c29;clear c29;have H':=Aside0.mk H;clear H;obtain⟨Ao30,co30,eo30⟩:=Kd.R_slice HO_4.out;subst eo30;have p116:0≤(x5_2:Int):=of_decide_eq_true (by assumption)
             have q116:x5_2<(t104.length:Int):=of_decide_eq_true (by assumption)
             obtain⟨ad116,e116,hx116_0⟩:=Kd.at_int (Kd.R_reads' HO_4.out).2.2 x5_2 p116 q116;cases e116
             replace p116:=eq_true p116;replace q116:=eq_true q116;have p117:0≤(x5_2:Int):=of_decide_eq_true (by assumption)
             have q117:x5_2<(t104.length:Int):=of_decide_eq_true (by assumption)
             obtain⟨ad117,e117,hx117_0⟩:=Kd.at_int (Kd.R_reads' HO_4.out).2.2 x5_2 p117 q117;obtain rfl:ad116=ad117:=(by injection e117)
             replace p117:=eq_true p117;replace q117:=eq_true q117;go_wp2
             go_meet
             case rel=>exact⟨_,(true),(by first|rfl|(simp;done)|(simp[*];done)),H',⟨by have:=HJ4.out;have:=HK2.out;first|omega|exact Nat.le_refl _⟩,⟨by exact rU HO_3.out⟩,⟨by exact rU HO_4.out⟩,⟨by exact bU HB.out⟩⟩
            ·rw[if_neg c29]at H
             have c29b0:decide (15<(rd t104 x5_2))=false:=decide_eq_false c29;clear c29;by_cases c31:(rd t104 x5_2)≥0
             ·rw[if_pos c31]at H
              have c31b0:decide (0≤(rd t104 x5_2))=true:=decide_eq_true c31;clear c31;by_cases c32:((rd_T29 t101 x5_2).f0)=5
              ·rw[if_pos c32]at H
               have c32b0:(((rd_T29 t101 x5_2).f0)==5)=true:=beq_iff_eq.mpr c32;have c32b1:(((rd_T29 t101 x5_2).f0) !=5)=false:=bne_eq_false_iff_eq.mpr c32;clear c32;by_cases c33:0≤((rd_T29 t101 x5_2).f3)
               ·rw[if_pos c33]at H
                have c33b0:decide (0≤((rd_T29 t101 x5_2).f3))=true:=decide_eq_true c33;clear c33;by_cases c34:((rd_T29 t101 x5_2).f3)<(t104.length:Int)
                ·rw[if_pos c34]at H
                 have c34b0:decide (((rd_T29 t101 x5_2).f3)<(t104.length:Int))=true:=decide_eq_true c34;clear c34;obtain⟨ji35,hji35⟩: ∃j_:Int,(mx (rd t104 ((rd_T29 t101 x5_2).f3)) 0)=j_:=⟨_,rfl⟩;replace H:((laws_lvIn.f k2 (ji35) 1).bind fun t122=>(laws_FnFullFirst.j2 k2 t101 t104 x5_2 (!t122)))=some r:=by first|(rw[hji35]at H;exact H)|(simp only[hji35]at H⊢;exact H)
                 have hji35_:(if(rd t104 ((rd_T29 t101 x5_2).f3))<0 then 0 else(rd t104 ((rd_T29 t101 x5_2).f3)))=ji35:=hji35
                 replace H:=Option.bind_eq_some_iff.mp H;obtain⟨t122,A360,H⟩:=H;replace H:(laws_FnFullFirst.j2 k2 t101 t104 x5_2 (!t122))=some r:=H;have A36:=Aside0.mk A360;clear A360;have H':=Aside0.mk H;clear H;obtain⟨Ao37,co37,eo37⟩:=Kd.R_slice HO_4.out;subst eo37;have p116:0≤(x5_2:Int):=of_decide_eq_true (by assumption)
                 have q116:x5_2<(t104.length:Int):=of_decide_eq_true (by assumption)
                 obtain⟨ad116,e116,hx116_0⟩:=Kd.at_int (Kd.R_reads' HO_4.out).2.2 x5_2 p116 q116;cases e116
                 replace p116:=eq_true p116;replace q116:=eq_true q116;have p117:0≤(x5_2:Int):=of_decide_eq_true (by assumption)
                 have q117:x5_2<(t104.length:Int):=of_decide_eq_true (by assumption)
                 obtain⟨ad117,e117,hx117_0⟩:=Kd.at_int (Kd.R_reads' HO_4.out).2.2 x5_2 p117 q117;obtain rfl:ad116=ad117:=(by injection e117)
                 replace p117:=eq_true p117;replace q117:=eq_true q117;have p118:0≤(x5_2:Int):=of_decide_eq_true (by assumption)
                 have q118:x5_2<(t104.length:Int):=of_decide_eq_true (by assumption)
                 obtain⟨ad118,e118,hx118_0⟩:=Kd.at_int (Kd.R_reads' HO_4.out).2.2 x5_2 p118 q118;obtain rfl:ad116=ad118:=(by injection e118)
                 replace p118:=eq_true p118;replace q118:=eq_true q118;have p119:0≤(x5_2:Int):=of_decide_eq_true (by assumption)
                 have q119:x5_2<(t101.length:Int):=of_decide_eq_true (by assumption)
                 obtain⟨ad119,e119,hx119_0,hx119_1,hx119_2,hx119_3,hx119_4,hx119_5⟩:=at_T29 (Kd.R_reads' HO_3.out).2.2 x5_2 p119 q119;cases e119
                 replace p119:=eq_true p119;replace q119:=eq_true q119;have p120:0≤(x5_2:Int):=of_decide_eq_true (by assumption)
                 have q120:x5_2<(t101.length:Int):=of_decide_eq_true (by assumption)
                 obtain⟨ad120,e120,hx120_0,hx120_1,hx120_2,hx120_3,hx120_4,hx120_5⟩:=at_T29 (Kd.R_reads' HO_3.out).2.2 x5_2 p120 q120;obtain rfl:ad119=ad120:=(by injection e120)
                 replace p120:=eq_true p120;replace q120:=eq_true q120;have p121:0≤(((rd_T29 t101 x5_2).f3):Int):=of_decide_eq_true (by assumption)
                 have q121:((rd_T29 t101 x5_2).f3)<(t104.length:Int):=of_decide_eq_true (by assumption)
                 obtain⟨ad121,e121,hx121_0⟩:=Kd.at_int (Kd.R_reads' HO_4.out).2.2 ((rd_T29 t101 x5_2).f3) p121 q121;obtain rfl:ad116=ad121:=(by injection e121)
                 replace p121:=eq_true p121;replace q121:=eq_true q121;go_wp2_with (first|(go_at_call 53;(with_reducible refine(laws_lvIn.calls k2 ji35 1 t122 _ A36.out).mono ?_);rintro e w' ⟨rfl,⟨nd,rfl⟩⟩))
                 go_meet
                 case rel=>exact⟨_,(!t122),(by first|rfl|(simp;done)|(simp[*];done)),H',⟨by have:=HJ4.out;have:=HK2.out;first|omega|exact Nat.le_refl _⟩,⟨by exact rU HO_3.out⟩,⟨by exact rU HO_4.out⟩,⟨by exact bU HB.out⟩⟩
                ·rw[if_neg c34]at H
                 exact absurd H (by simp)
               ·rw[if_neg c33]at H
                exact absurd H (by simp)
              ·rw[if_neg c32]at H
               have c32b0:(((rd_T29 t101 x5_2).f0)==5)=false:=beq_eq_false_iff_ne.mpr c32;have c32b1:(((rd_T29 t101 x5_2).f0) !=5)=true:=bne_iff_ne.mpr c32;have H':=Aside0.mk H;clear H;obtain⟨Ao38,co38,eo38⟩:=Kd.R_slice HO_4.out;subst eo38;have p116:0≤(x5_2:Int):=of_decide_eq_true (by assumption)
               have q116:x5_2<(t104.length:Int):=of_decide_eq_true (by assumption)
               obtain⟨ad116,e116,hx116_0⟩:=Kd.at_int (Kd.R_reads' HO_4.out).2.2 x5_2 p116 q116;cases e116
               replace p116:=eq_true p116;replace q116:=eq_true q116;have p117:0≤(x5_2:Int):=of_decide_eq_true (by assumption)
               have q117:x5_2<(t104.length:Int):=of_decide_eq_true (by assumption)
               obtain⟨ad117,e117,hx117_0⟩:=Kd.at_int (Kd.R_reads' HO_4.out).2.2 x5_2 p117 q117;obtain rfl:ad116=ad117:=(by injection e117)
               replace p117:=eq_true p117;replace q117:=eq_true q117;have p118:0≤(x5_2:Int):=of_decide_eq_true (by assumption)
               have q118:x5_2<(t104.length:Int):=of_decide_eq_true (by assumption)
               obtain⟨ad118,e118,hx118_0⟩:=Kd.at_int (Kd.R_reads' HO_4.out).2.2 x5_2 p118 q118;obtain rfl:ad116=ad118:=(by injection e118)
               replace p118:=eq_true p118;replace q118:=eq_true q118;have p119:0≤(x5_2:Int):=of_decide_eq_true (by assumption)
               have q119:x5_2<(t101.length:Int):=of_decide_eq_true (by assumption)
               obtain⟨ad119,e119,hx119_0,hx119_1,hx119_2,hx119_3,hx119_4,hx119_5⟩:=at_T29 (Kd.R_reads' HO_3.out).2.2 x5_2 p119 q119;cases e119
               replace p119:=eq_true p119;replace q119:=eq_true q119;go_wp2
               go_meet
               case rel=>exact⟨_,(false),(by first|rfl|(simp;done)|(simp[*];done)),H',⟨by have:=HJ4.out;have:=HK2.out;first|omega|exact Nat.le_refl _⟩,⟨by exact rU HO_3.out⟩,⟨by exact rU HO_4.out⟩,⟨by exact bU HB.out⟩⟩
             ·rw[if_neg c31]at H
              have c31b0:decide (0≤(rd t104 x5_2))=false:=decide_eq_false c31;clear c31;have H':=Aside0.mk H;clear H;obtain⟨Ao39,co39,eo39⟩:=Kd.R_slice HO_4.out;subst eo39;have p116:0≤(x5_2:Int):=of_decide_eq_true (by assumption)
              have q116:x5_2<(t104.length:Int):=of_decide_eq_true (by assumption)
              obtain⟨ad116,e116,hx116_0⟩:=Kd.at_int (Kd.R_reads' HO_4.out).2.2 x5_2 p116 q116;cases e116
              replace p116:=eq_true p116;replace q116:=eq_true q116;have p117:0≤(x5_2:Int):=of_decide_eq_true (by assumption)
              have q117:x5_2<(t104.length:Int):=of_decide_eq_true (by assumption)
              obtain⟨ad117,e117,hx117_0⟩:=Kd.at_int (Kd.R_reads' HO_4.out).2.2 x5_2 p117 q117;obtain rfl:ad116=ad117:=(by injection e117)
              replace p117:=eq_true p117;replace q117:=eq_true q117;have p118:0≤(x5_2:Int):=of_decide_eq_true (by assumption)
              have q118:x5_2<(t104.length:Int):=of_decide_eq_true (by assumption)
              obtain⟨ad118,e118,hx118_0⟩:=Kd.at_int (Kd.R_reads' HO_4.out).2.2 x5_2 p118 q118;obtain rfl:ad116=ad118:=(by injection e118)
              replace p118:=eq_true p118;replace q118:=eq_true q118;go_wp2
              go_meet
              case rel=>exact⟨_,(false),(by first|rfl|(simp;done)|(simp[*];done)),H',⟨by have:=HJ4.out;have:=HK2.out;first|omega|exact Nat.le_refl _⟩,⟨by exact rU HO_3.out⟩,⟨by exact rU HO_4.out⟩,⟨by exact bU HB.out⟩⟩
          ·rw[if_neg c26]at H
           exact absurd H (by simp)
         ·rw[if_neg c25]at H
          exact absurd H (by simp)
        case rest=>
         clear HC24;(try clear c1);(try clear p1);(try clear q1);(try clear hx1);(try clear c2);(try clear c2b0);(try clear c2b1);(try clear p2);(try clear c3);(try clear c4);(try clear c10);(try clear p11);(try clear q11);(try clear hx11);(try clear p12);(try clear q12);(try clear hx12);(try clear c15);(try clear c17);(try clear c23);(try clear c23b0);(try clear c25);(try clear c25b0);(try clear c26);(try clear c26b0);(try clear c27);(try clear c27b0);(try clear c29);(try clear c29b0);(try clear c31);(try clear c31b0);(try clear c32);(try clear c32b0);(try clear c32b1);(try clear c33);(try clear c33b0);(try clear c34);(try clear c34b0);(try clear hx116_0);(try clear hx117_0);(try clear hx118_0);(try clear hx119_0);(try clear hx119_1);(try clear hx119_2);(try clear hx119_3);(try clear hx119_4);(try clear hx119_5);(try clear hx120_0);(try clear hx120_1);(try clear hx120_2);(try clear hx120_3);(try clear hx120_4);(try clear hx120_5);(try clear hx121_0);(try clear p116);(try clear p117);(try clear p118);(try clear p119);(try clear p120);(try clear p121);(try clear p2);(try clear q116);(try clear q117);(try clear q118);(try clear q119);(try clear q120);(try clear q121)
         obtain⟨kq,x72_23,rfl,HA,HJ23,HO_3,HO_4,HB⟩:=hcut;cases kq with
         |zero=>exact absurd HA.out (by simp[laws_FnFullFirst.j2])
         |succ kj23=>
          have H:=HA.out;clear HA;simp only[laws_FnFullFirst.j2]at H
          by_cases c40:x72_23=true
          ·subst c40
           have H1:(some false)=some r:=by rw[if_pos rfl]at H;exact H
           clear H;have H:=H1;clear H1;obtain rfl:=Option.some.inj H;go_wp2
           go_ret
           exact⟨by first|rfl|(simp[errW_none,errW_some]<;>rfl)|(simp[*,errW_none,errW_some]<;>rfl),by exact bU HB.out⟩
          ·replace c40:=Bool.eq_false_iff.mpr c40
           subst c40;have H1:(laws_FnFullFirst.l0 kj23 t101 t104 (wrap64 (x5_2+1)))=some r:=by rw[if_neg (show¬(false=true) by decide)]at H;exact H
           clear H;have H:=H1;clear H1;have H':=Aside0.mk H;clear H;go_wp2
           go_roundg kj23
           case measure=>have:=HJ4.out;have:=HK2.out;have:=HJ23.out;omega
           case rel=>exact⟨(wrap64 (x5_2+1)),(by first|rfl|(simp;done)|(simp[*];done)),H',⟨by have:=HJ4.out;have:=HK2.out;have:=HJ23.out;omega⟩,⟨by exact rU HO_3.out⟩,⟨by exact rU HO_4.out⟩,⟨by exact bU HB.out⟩⟩
       ·rw[if_neg c23]at H
        have c23b0:decide (x5_2<(t101.length:Int))=false:=decide_eq_false c23;clear c23;by_cases c41:(t104.length:Int)=(t101.length:Int)
        ·rw[if_pos c41]at H
         have c41b0:((t104.length:Int)==(t101.length:Int))=true:=beq_iff_eq.mpr c41;have c41b1:((t104.length:Int) !=(t101.length:Int))=false:=bne_eq_false_iff_eq.mpr c41;have c41b2:(t104.length==t101.length)=true:=by first|simpa using c41|(simp at c41⊢;omega)
         clear c41;by_cases c42:0<(t104.length:Int)
         ·rw[if_pos c42]at H
          have c42b0:decide (0<(t104.length:Int))=true:=decide_eq_true c42;have c42b1:decide (0<t104.length)=true:=decide_eq_true (by omega)
          clear c42;by_cases c43:(rd t104 0)=1
          ·rw[if_pos c43]at H
           have c43b0:((rd t104 0)==1)=true:=beq_iff_eq.mpr c43;have c43b1:((rd t104 0) !=1)=false:=bne_eq_false_iff_eq.mpr c43;clear c43;obtain rfl:=Option.some.inj H;obtain⟨Ao44,co44,eo44⟩:=Kd.R_slice HO_4.out;subst eo44;have p114:0≤(0:Int):=(by omega)
           have q114:0<(t104.length:Int):=of_decide_eq_true (by assumption)
           obtain⟨ad114,e114,hx114_0⟩:=Kd.at_int (Kd.R_reads' HO_4.out).2.2 0 p114 q114;cases e114
           have qi114:(0<t104.length)=True:=eq_true (by omega)
           (try rw[show((0:Int)).toNat=0 from rfl]at hx114_0)
           (try rw[Addr.add_zero']at hx114_0)
           replace p114:=eq_true p114;replace q114:=eq_true q114;go_wp2
           go_ret
           exact⟨by first|rfl|(simp[errW_none,errW_some]<;>rfl)|(simp[*,errW_none,errW_some]<;>rfl),by exact bU HB.out⟩
          ·rw[if_neg c43]at H
           have c43b0:((rd t104 0)==1)=false:=beq_eq_false_iff_ne.mpr c43;have c43b1:((rd t104 0) !=1)=true:=bne_iff_ne.mpr c43;obtain rfl:=Option.some.inj H;obtain⟨Ao45,co45,eo45⟩:=Kd.R_slice HO_4.out;subst eo45;have p114:0≤(0:Int):=(by omega)
           have q114:0<(t104.length:Int):=of_decide_eq_true (by assumption)
           obtain⟨ad114,e114,hx114_0⟩:=Kd.at_int (Kd.R_reads' HO_4.out).2.2 0 p114 q114;cases e114
           have qi114:(0<t104.length)=True:=eq_true (by omega)
           (try rw[show((0:Int)).toNat=0 from rfl]at hx114_0)
           (try rw[Addr.add_zero']at hx114_0)
           replace p114:=eq_true p114;replace q114:=eq_true q114;have p115:0≤(0:Int):=(by omega)
           have q115:0<(t104.length:Int):=of_decide_eq_true (by assumption)
           obtain⟨ad115,e115,hx115_0⟩:=Kd.at_int (Kd.R_reads' HO_4.out).2.2 0 p115 q115;obtain rfl:ad114=ad115:=(by injection e115)
           have qi115:(0<t104.length)=True:=eq_true (by omega)
           (try rw[show((0:Int)).toNat=0 from rfl]at hx115_0)
           (try rw[Addr.add_zero']at hx115_0)
           replace p115:=eq_true p115;replace q115:=eq_true q115;go_wp2
           go_ret
           exact⟨by first|rfl|(simp[errW_none,errW_some]<;>rfl)|(simp[*,errW_none,errW_some]<;>rfl),by exact bU HB.out⟩
         ·rw[if_neg c42]at H
          exact absurd H (by simp)
        ·rw[if_neg c41]at H
         have c41b0:((t104.length:Int)==(t101.length:Int))=false:=beq_eq_false_iff_ne.mpr c41;have c41b1:((t104.length:Int) !=(t101.length:Int))=true:=bne_iff_ne.mpr c41;have c41b2:(t104.length==t101.length)=false:=by first|simpa using c41|(simp at c41⊢;omega)
         obtain rfl:=Option.some.inj H;obtain⟨Ao46,co46,eo46⟩:=Kd.R_slice HO_4.out;subst eo46;go_wp2
         go_ret
         exact⟨by first|rfl|(simp[errW_none,errW_some]<;>rfl)|(simp[*,errW_none,errW_some]<;>rfl),by exact bU HB.out⟩
def laws_FnFullFirst.Pure:Prop:= ∀ (l0:List Int),l0.length≤maxLen→l0.length*1≤140737488351232→(∀x∈l0,(Lit.int .u8 x).wf=true)→ ∃k,laws_FnFullFirst.f k l0=some true
theorem laws_FnFullFirst.walk (P:laws_FnFullFirst.Pure) (a0:Option Addr) (len0 cap0:Nat) (z0:List Int) (w:World) (w0:(a0=none∧len0=0∧cap0=0∧z0=[])∨ ∃x,a0=some x∧len0≤cap0∧cap0≤maxLen∧z0.length=cap0∧(∀i,i<z0.length→w.cell? (x.add i)=some (.int .u8 (z0.getD i 0)))∧ ∀n∈z0,(Lit.int .u8 n).wf=true) (y0:len0*1≤140737488351232):
  Calls Try.prog 15 #[.slice a0 len0 cap0] w fun e w'=>e= .returned (.bool true)∧Below w.heap.size w w':=by
 obtain⟨l0,rfl,hr0,hm0,hw0,hc0⟩:=ReadsInt.ofRowC w0;obtain⟨k,h⟩:=P l0 hm0 y0 hw0;refine(laws_FnFullFirst.calls k _ _ l0 true w (Kd.C_of_reads (d:=(0:Int)) (h1:=fun _=>rfl) hr0) hc0 h).mono ?_
 rintro e w' ⟨rfl,hd⟩
 exact⟨rfl,hd⟩
end Go.Proofs.Ytmklpbmlgjkbiaa.PJA
end
section
namespace Go.Proofs.Ytmklpbmlgjkbiaa.PS
open Go.RowKit Go.Proofs.YtmklpbmlgjkbiaaW.PrintWords Go.Proofs.YtmklpbmlgjkbiaaW.PrintLast
theorem drawFull_ev {l:List Int} (hw: ∀x∈l,(Lit.int .u8 x).wf=true): ∃c,Ev (fun k=>spec_DrawCodeFull.f k l) c∧c.length≤17:=by
  obtain⟨b,hb,hB⟩:=open_ok hw;obtain⟨c,p,hc,hl, -⟩:=code_ev hB 0 (by omega) (by omega)
  refine⟨c,?_,hl⟩
  unfold spec_DrawCodeFull.f;rw[hb];simp only[Option.bind_some]
  exact Ev.bind hc (Ev.now _)
def subB (a b:Int):Bool:=decide (both b a=a)
theorem in_ev {a b:Int} (ha:0≤a) (ha2:a≤15) (hb:0≤b) (hb2:b≤15):Ev (fun k=>laws_lvIn.f k a b) (subB a b):=by
  have:fours (fun a=>fours fun b=>decide (laws_lvIn.f 20 a b=some (subB a b)))=true:=by decide+kernel
  exact Ev.of (fun k=>laws_lvIn.mono a b k) (of_decide_eq_true (fours_all (fours_all this ha ha2) hb hb2))
theorem both_sub {a:Int} (ha:0≤a) (ha2:a≤15) (h:both a 1=a):subB a 1=true:=by
  have:fours (fun a=>decide (both a 1=a→subB a 1=true))=true:=by decide+kernel
  exact of_decide_eq_true (fours_all this ha ha2) h
theorem to_one {l:List S29} {i:Nat} (h:(rd_T29 l i).f0=5):((rd_T29 l i).f3,Fl.one)∈waysL l i:=by
  unfold waysL arrowsL;rw[if_pos (c:=(rd_T29 l i).f0=5) h];simp
theorem in_way {l:List S29} {i:Nat} {a:Int×Fl} (h:a∈waysL l i):(a.1,flF a.2 (rd_T29 l i).f1)∈wayW l i:=List.mem_map.2 ⟨a,h,rfl⟩
theorem full_way {l:List S29} (hc:codeB l=true) {i:Nat} (hi:i<l.length) (h0:0≤at_ (fullL l) i) {a:Int×Fl} (ha:a∈waysL l i):
    0≤a.1∧a.1<l.length∧0≤at_ (fullL l) a.1∧both (at_ (fullL l) a.1) (flF a.2 (rd_T29 l i).f1 (at_ (fullL l) i))=at_ (fullL l) a.1:=by
  obtain⟨w0,w1, -⟩:=code_way hc hi ha;have hW:=wayW_good hc;exact⟨w0,w1,fix_goes hW (full_good hW) (full_fix hW) hi h0 (in_way ha),fix_way hW (full_good hW) (full_fix hW) hi h0 (in_way ha)⟩
theorem full_at {l:List S29} (hc:codeB l=true) (i:Int): -1≤at_ (fullL l) i∧at_ (fullL l) i≤15:=at_good (full_good (wayW_good hc)) i
theorem mx_nonneg {a:Int} (h:0≤a):mx a 0=a:=by unfold mx;omega
end Go.Proofs.Ytmklpbmlgjkbiaa.PS
end
section
namespace Go.Proofs.Ytmklpbmlgjkbiaa.Pure
open Go.RowKit Go.Proofs.Ytmklpbmlgjkbiaa.PJA Go.Proofs.Ytmklpbmlgjkbiaa.PS Go.Proofs.YtmklpbmlgjkbiaaW.PrintWords Go.Proofs.YtmklpbmlgjkbiaaW.PrintLast
theorem ff_loop {l:List S29} (hc:codeB l=true) (d:Nat): ∀i,l.length-i=d→i≤l.length→Ev (fun k=>laws_FnFullFirst.l0 k l (fullL l) (i:Int)) true:=by
  have hl:=full_len hc;obtain⟨h1,h2⟩:=code_len hc;induction d with
  |zero=>
    intro i hd hi;have hf:=full_first (wayW_good hc) (n:=l.length) (by omega)
    refine Ev.step (f:=fun k=>some true) (fun k=> ?_) (Ev.now _)
    simp only[laws_FnFullFirst.l0]
    rw[if_neg (by omega),if_pos (by omega),if_pos (by omega)]
    have e:rd (fullL l) 0=at_ (fullL l) 0:=rfl;rw[e];have hf:0≤at_ (fullL l) 0∧at_ (fullL l) 0≤1:=hf;by_cases h:at_ (fullL l) 0=1
    · rw[if_pos h]
    · rw[if_neg h]
      have:at_ (fullL l) 0=0:=by omega
      rw[this];rfl
  |succ d ih=>
    intro i hd hi;have ih1:=ih (i+1) (by omega) (by omega)
    have hw:wrap64 ((i:Int)+1)=((i+1:Nat):Int):=by rw[w64 (by omega) (by omega)];rfl
    have ha:=full_at hc (i:Int);have e:rd (fullL l) (i:Int)=at_ (fullL l) i:=rfl
    have j2:Ev (fun k=>laws_FnFullFirst.j2 k l (fullL l) (i:Int) false) true:=by
      refine Ev.step (fun k=> ?_) ih1
      simp only[laws_FnFullFirst.j2,hw]
      rw[if_neg (by decide)]
    by_cases h0:0≤at_ (fullL l) (i:Int)
    · by_cases h5:(rd_T29 l (i:Int)).f0=5
      · obtain⟨w0,w1,w2,w3⟩:=full_way hc (i:=i) (by omega) h0 (to_one h5)
        have w3:both (at_ (fullL l) (rd_T29 l (i:Int)).f3) 1=at_ (fullL l) (rd_T29 l (i:Int)).f3:=w3;have ht:=full_at hc (rd_T29 l (i:Int)).f3;have e2:rd (fullL l) (rd_T29 l (i:Int)).f3=at_ (fullL l) (rd_T29 l (i:Int)).f3:=rfl;have hin:=in_ev w2 ht.2 (b:=1) (by omega) (by omega)
        rw[both_sub w2 ht.2 w3]at hin
        refine Ev.step (f:=fun k=>(laws_lvIn.f k (at_ (fullL l) (rd_T29 l (i:Int)).f3) 1).bind fun t122=>(laws_FnFullFirst.j2 k l (fullL l) (i:Int) (!t122))) (fun k=> ?_) ?_
        · simp only[laws_FnFullFirst.l0]
          rw[if_pos (by omega),if_pos (by omega),if_pos (by omega),e,if_neg (by omega),if_neg (by omega),if_pos (by omega),if_pos h5,if_pos (by omega),if_pos (by omega),e2,mx_nonneg w2]
        · exact Ev.bind hin j2
      · refine Ev.step (fun k=> ?_) j2
        simp only[laws_FnFullFirst.l0]
        rw[if_pos (by omega),if_pos (by omega),if_pos (by omega),e,if_neg (by omega),if_neg (by omega),if_pos (by omega),if_neg h5]
    · refine Ev.step (fun k=> ?_) j2
      simp only[laws_FnFullFirst.l0]
      rw[if_pos (by omega),if_pos (by omega),if_pos (by omega),e,if_neg (by omega),if_neg (by omega),if_neg (by omega)]
theorem FnFullFirst:laws_FnFullFirst.Pure:=by
  intro l0 hm hr hw;refine Ev.rounds ?_
  unfold laws_FnFullFirst.f;by_cases hl:(l0.length:Int)>1048576
  · simp only[if_pos hl];exact Ev.now _
  simp only[if_neg hl]
  obtain⟨c,hc,hcl⟩:=drawFull_ev hw;refine Ev.bind hc ?_
  unfold codeFullV.f;simp only[Option.bind_some]
  by_cases hk:codeB c=true
  · have hfl:=full_len hk
    have h1:=code_len hk;simp only[if_pos hk]
    refine Ev.bind (lvInts_same _ (by omega)) ?_
    simp only[if_true]
    refine Ev.step (fun k=> ?_) (ff_loop hk c.length 0 (by omega) (by omega))
    simp only[laws_FnFullFirst.j0]
    have e0:(((fullL c).length:Int)==0)=false:=beq_eq_false_iff_ne.2 (by omega)
    rw[e0,if_neg (by decide)];rfl
  · simp only[if_neg hk]
    refine Ev.bind (lvInts_same _ (by simp)) ?_
    simp only[if_true]
    refine Ev.step (f:=fun k=>(laws_lvInts.f k [] []).bind fun t113=>some t113) (fun k=> ?_) ?_
    · simp only[laws_FnFullFirst.j0,codeFullV.f,if_neg hk,Option.bind_some]
      rw[if_pos (by simp)]
    · exact Ev.bind (lvInts_same _ (by simp)) (Ev.now _)
end Go.Proofs.Ytmklpbmlgjkbiaa.Pure
end
