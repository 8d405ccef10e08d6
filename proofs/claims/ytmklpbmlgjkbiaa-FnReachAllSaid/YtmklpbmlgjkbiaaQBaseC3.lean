/- What the rows of BaseC rest on, part 4. -/
import Derived.RegionTactic
import Derived.Test.YtmklpbmlgjkbiaaQBaseC2
set_option linter.unusedVariables false
set_option linter.unusedSimpArgs false
set_option maxHeartbeats 8000000
set_option maxRecDepth 100000
section
namespace Go.Proofs.Ytmklpbmlgjkbiaa.PS
open Go.RowKit Go.Proofs.YtmklpbmlgjkbiaaW.PrintWords Go.Proofs.YtmklpbmlgjkbiaaW.PrintLast Go.Proofs.YtmklpbmlgjkbiaaW.PrintMore
attribute [local go_sem] max2_int min2_int max_two min_two max_three min_three max_four min_four   -- for this text's walks alone
mutual
def spec_CodeReach.l0:Nat→List (S29)→List Int→List Int→Int→Option (List Int)
 |0,_,_,_,_=>none
 |k+1,x0,x3,x4,x5=>if x5<(x4.length:Int)then(if 0≤x5 then((spec_l3Next.f k x0 (rd x4 x5)).bind fun t325=>(spec_CodeReach.l1 k x0 x3 x4 x5 t325 0))else(none))else(spec_CodeReach.l2 k x0 x3 x4 0)
def spec_CodeReach.l1:Nat→List (S29)→List Int→List Int→Int→List Int→Int→Option (List Int)
 |0,_,_,_,_,_,_=>none
 |k+1,x0,x3,x4,x5,x6,x7=>if x7<(x6.length:Int)then(if 0≤x7 then((spec_l11Among.f k x4 (rd x6 x7)).bind fun t329=>(if t329=true then(spec_CodeReach.l1 k x0 x3 x4 x5 x6 (wrap64 (x7+1)))else(if x4.length<17592186044416 then(spec_CodeReach.l1 k x0 x3 (x4++ [rd x6 x7]) x5 x6 (wrap64 (x7+1)))else(none))))else(none))else(spec_CodeReach.l0 k x0 x3 x4 (wrap64 (x5+1)))
def spec_CodeReach.l2:Nat→List (S29)→List Int→List Int→Int→Option (List Int)
 |0,_,_,_,_=>none
 |k+1,x0,x3,x4,x8=>if x8<(x0.length:Int)then((spec_l11Among.f k x4 x8).bind fun t334=>(if t334=true then(if x3.length<17592186044416 then(spec_CodeReach.l2 k x0 (x3++ [x8]) x4 (wrap64 (x8+1)))else(none))else(spec_CodeReach.l2 k x0 x3 x4 (wrap64 (x8+1)))))else(some x3)
end
def spec_CodeReach.f (k:Nat) (l0:List (S29)):Option (List Int):=(some (([]:List Int):List Int)).bind fun y317=>((spec_CodeOk.f k l0).bind fun t320=>(if t320=true then(spec_CodeReach.l0 k l0 y317 (([0]:List Int)) 0)else(some y317)))
theorem spec_CodeReach.calls (k:Nat) (A0:Option Addr) (c0:Nat) (l0:List (S29)) (r:List Int) (w:World) (hr0:Kd.C k29 w A0 l0.length l0) (hc0:l0.length≤c0) (h:spec_CodeReach.f k l0=some r):
  Calls Try.prog 41 #[.slice A0 l0.length c0] w fun e w'=> ∃v0_:Value,e= .returned (v0_)∧Kd.R (Kd.int .i64) 3 w' w.heap.size (fun _=>True) v0_ r∧Below w.heap.size w w':=by
 have HR0:=aS hr0;have HC0:=aS hc0;clear hr0 hc0;have HB:=aS (Below.refl w.heap.size w);have H:((some (([]:List Int):List Int)).bind fun y317=>((spec_CodeOk.f k l0).bind fun t320=>(if t320=true then(spec_CodeReach.l0 k l0 y317 (([0]:List Int)) 0)else(some y317))))=some r:=h
 clear h;obtain⟨y317,hy317⟩: ∃y_:List Int,y_=(([]:List Int)):=⟨_,rfl⟩;replace H:((spec_CodeOk.f k l0).bind fun t320=>(if t320=true then(spec_CodeReach.l0 k l0 y317 (([0]:List Int)) 0)else(some y317)))=some r:=by first|(rw[hy317];with_reducible exact H)|(have H2_:=(Option.bind_some _ _).symm.trans H;rw[hy317];with_reducible exact H2_)|(have H2_:=(Option.bind_some _ _).symm.trans H;with_reducible exact H2_)|with_reducible exact H|(rw[hy317];exact H)|exact H
 have Ny317:=aS hy317;clear hy317;replace H:=Option.bind_eq_some_iff.mp H;obtain⟨t320,A20,H⟩:=H;replace H:(if t320=true then(spec_CodeReach.l0 k l0 y317 (([0]:List Int)) 0)else(some y317))=some r:=H
 have A2:=aS A20;clear A20;by_cases c3:t320=true
 ·subst c3
  have H1:(spec_CodeReach.l0 k l0 y317 (([0]:List Int)) 0)=some r:=by rw[if_pos rfl]at H;exact H
  clear H;have H:=H1;clear H1;obtain⟨y321,hy321⟩: ∃y_:List Int,y_=(([0]:List Int)):=⟨_,rfl⟩;replace H:(spec_CodeReach.l0 k l0 y317 y321 0)=some r:=by first|(rw[hy321];with_reducible exact H)|(have H2_:=(Option.bind_some _ _).symm.trans H;rw[hy321];with_reducible exact H2_)|(have H2_:=(Option.bind_some _ _).symm.trans H;with_reducible exact H2_)|with_reducible exact H|(rw[hy321];exact H)|exact H
  have Ny321:=aS hy321;clear hy321;have H':=aS H;clear H;go_enter Try.func41,Try.ntmps41
  go_wp2_with (first|((with_reducible refine gate_dst (N:=9) rfl ?_);refine Kd.R_lit (Kd.int .i64) _ 3 ?hg (N:=9) ?hd (xs:=([]:List Int)) (inner:=[]) (ok:=fun _=>True) (okp:=fun _=>True) ?hr ?hp (fun _ hk=>hk) trivial (Below.refl _ _) (Nat.le_refl _) (by simp) ?_;(case hd=>rfl);(case hg=>rfl);(case hr=>go_simp<;>rfl);(case hp=>exact(Reps.none _ _));intro v318 w4 ho5 hb hg_ hnew_;clear hg_ hnew_;(first|rw[←Ny317.out]at ho5|(simp only[Int.reduceToNat]at ho5;rw[←Ny317.out]at ho5));have HO319:=aS (Kd.R_lower ho5 (below_size (by exact bU HB.out)));replace HB:=aS (below_step (by exact bU HB.out) hb);clear hb ho5)|((with_reducible refine gate_callee (f:=33) rfl ?_);refine goesL_ (some 11) rfl rfl Try.func33 (by kernel_rfl) rfl #[.slice A0 l0.length c0] rfl (by(try simp only[List.map_toArray,List.map_cons,List.map_nil])<;>rfl) ?_;(with_reducible refine(spec_CodeOk.calls k _ _ l0 true _ ?side1 ?side2 A2.out).mono ?_);(case side1=>repeat(first|exact(Kd.C_below HR0.out HB.out)|(with_reducible refine Kd.C_alloc ?_ _)|(with_reducible refine Kd.C_drewN ?_ _)|(with_reducible refine Kd.C_drew ?_)));(case side2=>exact HC0.out);rintro e w6 ⟨rfl,hb⟩;refine⟨_,rfl,?_⟩;replace HO319:=aS (Kd.R_below (by exact rU HO319.out) hb);replace HB:=aS (below_step (by exact bU HB.out) hb);(try clear hb))|((with_reducible refine gate_dst (N:=14) rfl ?_);refine Kd.R_lit (Kd.int .i64) _ 3 ?hg (N:=14) ?hd (xs:=([0]:List Int)) (inner:=[.int .i64 0]) (ok:=fun _=>True) (okp:=fun _=>True) ?hr ?hp (fun _ hk=>hk) trivial (Below.refl _ _) (Nat.le_refl _) (by simp) ?_;(case hd=>rfl);(case hg=>rfl);(case hr=>go_simp<;>rfl);(case hp=>exact(Reps.one (show Kd.M (Kd.int .i64) _ _ _ 0 [.int .i64 0]from rfl) (Reps.none _ _)));intro v322 w7 ho8 hb hg_ hnew_;clear hg_ hnew_;(first|rw[←Ny321.out]at ho8|(simp only[Int.reduceToNat]at ho8;rw[←Ny321.out]at ho8));have n0_:=aS (Kd.R_elder' (by exact rU HO319.out) (Kd.R_base ho8) hb);have n1_:=aS (Kd.R_lower (Kd.R_new' ho8 (Kd.R_lt (by exact rU HO319.out))) (below_size (by exact bU HB.out)));have n2_:=aS (below_step (by exact bU HB.out) hb);clear HO319;clear HB;have HO319:=n0_;have HO323:=n1_;have HB:=n2_;clear n0_ n1_ n2_;clear hb ho8))
  go_loopg [4,5] k (fun kq v4 v5 w'=> ∃ (x4_1:List Int) (x5_1:Int),v5= .int .i64 x5_1∧Aside0 (spec_CodeReach.l0 kq l0 y317 x4_1 x5_1=some r)∧Aside0 (kq≤k)∧Aside0 (Kd.R (Kd.int .i64) 3 w' w.heap.size (fun k_=>some k_≠(v4:Value).ownBlock) v318 y317)∧Aside0 (Kd.R (Kd.int .i64) 3 w' w.heap.size (fun k_=>some k_≠(v318:Value).ownBlock) v4 x4_1)∧Aside0 (Below w.heap.size w w'))
  case atStart=>exact⟨(y321),(0),(by first|rfl|(simp;done)|(simp[*];done)),H',⟨Nat.le_refl _⟩,⟨by exact rU (Kd.R_mono HO319.out (fun _ hk=>hk.2))⟩,⟨by exact rU (Kd.R_mono HO323.out (fun _ hk=>hk.2))⟩,⟨by exact bU HB.out⟩⟩
  case round=>
   clear H';(try clear p2);(try clear c3);(try clear c4)
   obtain⟨x4_1,x5_1,rfl,HA,HK1,HO_3,HO_4,HB⟩:=hrel;cases gk with
   |zero=>exact absurd HA.out (by simp[spec_CodeReach.l0])
   |succ k1=>
    have H:=HA.out;clear HA;simp only[spec_CodeReach.l0]at H
    by_cases c9:x5_1<(x4_1.length:Int)
    ·rw[if_pos c9]at H
     have c9b0:decide (x5_1<(x4_1.length:Int))=true:=decide_eq_true c9;clear c9;by_cases c10:0≤x5_1
     ·rw[if_pos c10]at H
      have c10b0:decide (0≤x5_1)=true:=decide_eq_true c10;clear c10;replace H:=Option.bind_eq_some_iff.mp H;obtain⟨t325,A110,H⟩:=H;replace H:(spec_CodeReach.l1 k1 l0 y317 x4_1 x5_1 t325 0)=some r:=H;have A11:=aS A110;clear A110;have H':=aS H;clear H;obtain⟨Ao12,co12,eo12⟩:=Kd.R_slice HO_4.out;subst eo12;have p324:0≤(x5_1:Int):=of_decide_eq_true (by assumption)
      have q324:x5_1<(x4_1.length:Int):=of_decide_eq_true (by assumption)
      obtain⟨ad324,e324,hx324_0⟩:=Kd.at_int (Kd.R_reads' HO_4.out).2.2 x5_1 p324 q324;cases e324
      replace p324:=eq_true p324;replace q324:=eq_true q324;go_wp2_with (first|((with_reducible refine gate_callee (f:=76) rfl ?_);refine goesL_ (some 26) rfl rfl Try.func76 (by kernel_rfl) rfl #[.slice A0 l0.length c0,.int .i64 (rd x4_1 x5_1)] rfl (by(try simp only[List.map_toArray,List.map_cons,List.map_nil])<;>rfl) ?_;(with_reducible refine(spec_l3Next.calls k1 _ _ l0 (rd x4_1 x5_1) t325 _ ?side1 ?side2 A11.out).mono ?_);(case side1=>repeat(first|exact(Kd.C_below HR0.out HB.out)|(with_reducible refine Kd.C_alloc ?_ _)|(with_reducible refine Kd.C_drewN ?_ _)|(with_reducible refine Kd.C_drew ?_)));(case side2=>exact HC0.out);rintro e w13 ⟨v326,rfl,ho0,hb⟩;refine⟨_,rfl,?_⟩;have n0_:=aS (Kd.R_elder' (by exact rU HO_3.out) (Kd.R_base ho0) hb);have n1_:=aS (Kd.R_elder' (by exact rU HO_4.out) (Kd.R_base ho0) hb);have n2_:=aS (Kd.R_lower (Kd.R_new' (Kd.R_new' ho0 (Kd.R_lt (by exact rU HO_3.out))) (Kd.R_lt (by exact rU HO_4.out))) (below_size (by exact bU HB.out)));have n3_:=aS (below_step (by exact bU HB.out) hb);clear HO_3;clear HO_4;clear HB;have HO_3:=n0_;have HO_4:=n1_;have HO327:=n2_;have HB:=n3_;clear n0_ n1_ n2_ n3_;(try clear hb);(try clear ho0)))
      go_loopg [4,7] k1 (fun kq v4 v7 w'=> ∃ (x4_2:List Int) (x7_2:Int),v7= .int .i64 x7_2∧Aside0 (spec_CodeReach.l1 kq l0 y317 x4_2 x5_1 t325 x7_2=some r)∧Aside0 (kq≤k1)∧Aside0 (Kd.R (Kd.int .i64) 3 w' w.heap.size (fun k_=>some k_≠(v4:Value).ownBlock∧some k_≠(v326:Value).ownBlock) v318 y317)∧Aside0 (Kd.R (Kd.int .i64) 3 w' w.heap.size (fun k_=>some k_≠(v318:Value).ownBlock∧some k_≠(v326:Value).ownBlock) v4 x4_2)∧Aside0 (Kd.R (Kd.int .i64) 3 w' w.heap.size (fun k_=>some k_≠(v318:Value).ownBlock∧some k_≠(v4:Value).ownBlock) v326 t325)∧Aside0 (Below w.heap.size w w'))
      case atStart=>exact⟨(x4_1),(0),(by first|rfl|(simp;done)|(simp[*];done)),H',⟨Nat.le_refl _⟩,⟨by exact rU HO_3.out⟩,⟨by exact rU HO_4.out⟩,⟨by exact rU (Kd.R_mono HO327.out (fun _ hk=>⟨hk.1.2,hk.2⟩))⟩,⟨by exact bU HB.out⟩⟩
      case round=>
       clear H';(try clear c1);(try clear p2);(try clear c3);(try clear p3);(try clear q3);(try clear hx3);(try clear c4);(try clear c7);(try clear c9);(try clear c9b0);(try clear c10);(try clear c10b0);(try clear hx324_0);(try clear p2);(try clear p324);(try clear q324)
       obtain⟨x4_2,x7_2,rfl,HA,HK2,HO_3,HO_4,HO_6,HB⟩:=hrel;cases gk with
       |zero=>exact absurd HA.out (by simp[spec_CodeReach.l1])
       |succ k2=>
        have H:=HA.out;clear HA;simp only[spec_CodeReach.l1]at H
        by_cases c14:x7_2<(t325.length:Int)
        ·rw[if_pos c14]at H
         have c14b0:decide (x7_2<(t325.length:Int))=true:=decide_eq_true c14;clear c14;by_cases c15:0≤x7_2
         ·rw[if_pos c15]at H
          have c15b0:decide (0≤x7_2)=true:=decide_eq_true c15;clear c15;replace H:=Option.bind_eq_some_iff.mp H;obtain⟨t329,A160,H⟩:=H;replace H:(if t329=true then(spec_CodeReach.l1 k2 l0 y317 x4_2 x5_1 t325 (wrap64 (x7_2+1)))else(if x4_2.length<17592186044416 then(spec_CodeReach.l1 k2 l0 y317 (x4_2++ [rd t325 x7_2]) x5_1 t325 (wrap64 (x7_2+1)))else(none)))=some r:=H
          have A16:=aS A160;clear A160;by_cases c17:t329=true
          ·subst c17
           have H1:(spec_CodeReach.l1 k2 l0 y317 x4_2 x5_1 t325 (wrap64 (x7_2+1)))=some r:=by rw[if_pos rfl]at H;exact H
           clear H;have H:=H1;clear H1;have H':=aS H;clear H;obtain⟨Ao18,co18,eo18⟩:=Kd.R_slice HO_6.out;subst eo18;have p328:0≤(x7_2:Int):=of_decide_eq_true (by assumption)
           have q328:x7_2<(t325.length:Int):=of_decide_eq_true (by assumption)
           obtain⟨ad328,e328,hx328_0⟩:=Kd.at_int (Kd.R_reads' HO_6.out).2.2 x7_2 p328 q328;cases e328
           replace p328:=eq_true p328;replace q328:=eq_true q328;obtain⟨Ao19,co19,eo19⟩:=Kd.R_slice HO_4.out;subst eo19;go_wp2_with (first|((with_reducible refine gate_callee (f:=79) rfl ?_);refine goesL_ (some 38) rfl rfl Try.func79 (by kernel_rfl) rfl #[.slice Ao19 x4_2.length co19,.int .i64 (rd t325 x7_2)] rfl (by(try simp only[List.map_toArray,List.map_cons,List.map_nil])<;>rfl) ?_;(with_reducible refine(spec_l11Among.calls k2 _ _ x4_2 (rd t325 x7_2) true _ ?side1 ?side2 A16.out).mono ?_);(case side1=>exact CU (Kd.R_reads' HO_4.out).2.2);(case side2=>exact(Kd.R_reads' HO_4.out).2.1);rintro e w' ⟨rfl,⟨nd,rfl⟩⟩;refine⟨_,rfl,?_⟩))
           go_roundg k2
           case measure=>have:=HK1.out;have:=HK2.out;omega
           case rel=>exact⟨(x4_2),(wrap64 (x7_2+1)),(by first|rfl|(simp;done)|(simp[*];done)),H',⟨by have:=HK1.out;have:=HK2.out;omega⟩,⟨by exact rU HO_3.out⟩,⟨by exact rU HO_4.out⟩,⟨by exact rU HO_6.out⟩,⟨by exact bU HB.out⟩⟩
          ·replace c17:=Bool.eq_false_iff.mpr c17
           subst c17;have H1:(if x4_2.length<17592186044416 then(spec_CodeReach.l1 k2 l0 y317 (x4_2++ [rd t325 x7_2]) x5_1 t325 (wrap64 (x7_2+1)))else(none))=some r:=by rw[if_neg (show¬(false=true) by decide)]at H;exact H
           clear H;have H:=H1;clear H1;by_cases c20:x4_2.length<17592186044416
           ·rw[if_pos c20]at H
            have LMc20:=aS c20;clear c20;obtain⟨y331,hy331⟩: ∃y_:List Int,y_=(x4_2++ [rd t325 x7_2]):=⟨_,rfl⟩;replace H:(spec_CodeReach.l1 k2 l0 y317 y331 x5_1 t325 (wrap64 (x7_2+1)))=some r:=by first|(rw[hy331];with_reducible exact H)|(have H2_:=(Option.bind_some _ _).symm.trans H;rw[hy331];with_reducible exact H2_)|(have H2_:=(Option.bind_some _ _).symm.trans H;with_reducible exact H2_)|with_reducible exact H|(rw[hy331];exact H)|exact H
            have Ny331:=aS hy331;clear hy331;have H':=aS H;clear H;obtain⟨Ao21,co21,eo21⟩:=Kd.R_slice HO_6.out;subst eo21;have p328:0≤(x7_2:Int):=of_decide_eq_true (by assumption)
            have q328:x7_2<(t325.length:Int):=of_decide_eq_true (by assumption)
            obtain⟨ad328,e328,hx328_0⟩:=Kd.at_int (Kd.R_reads' HO_6.out).2.2 x7_2 p328 q328;cases e328
            replace p328:=eq_true p328;replace q328:=eq_true q328;obtain⟨Ao22,co22,eo22⟩:=Kd.R_slice HO_4.out;subst eo22;go_wp2_with (first|((with_reducible refine gate_callee (f:=79) rfl ?_);refine goesL_ (some 38) rfl rfl Try.func79 (by kernel_rfl) rfl #[.slice Ao22 x4_2.length co22,.int .i64 (rd t325 x7_2)] rfl (by(try simp only[List.map_toArray,List.map_cons,List.map_nil])<;>rfl) ?_;(with_reducible refine(spec_l11Among.calls k2 _ _ x4_2 (rd t325 x7_2) false _ ?side1 ?side2 A16.out).mono ?_);(case side1=>exact CU (Kd.R_reads' HO_4.out).2.2);(case side2=>exact(Kd.R_reads' HO_4.out).2.1);rintro e w' ⟨rfl,⟨nd,rfl⟩⟩;refine⟨_,rfl,?_⟩;have p330:0≤(x7_2:Int):=of_decide_eq_true (by assumption);have q330:x7_2<(t325.length:Int):=of_decide_eq_true (by assumption);obtain⟨ad330,e330,hx330_0⟩:=Kd.at_int (Kd.R_reads' HO_6.out).2.2 x7_2 p330 q330;obtain rfl:ad328=ad330:=(by injection e330);replace p330:=eq_true p330;replace q330:=eq_true q330)|((with_reducible refine gate_builtin (b:=.append) (xs:= #[.tmp 40,.tmp 45]) rfl ?_);at_builtin;refine Kd.R_append (Kd.int .i64) (w0:=w) w.heap.size rfl (.tmp 40) (.tmp 45) 32 3 (.int .i64 0) 8 rfl Try.underlying32 info3 rfl (by decide) (by omega) (.slice Ao22 x4_2.length co22) x4_2 (rd t325 x7_2) [.int .i64 (rd t325 x7_2)] (fun k_=>some k_≠(v318:Value).ownBlock∧some k_≠(.slice (some ad328) t325.length co21:Value).ownBlock) (fun _=>False) rfl rfl ?aP (fun _ hk=>hk.elim) ?aF ?aO ?aB ?aS ?aL ?_;(case aP=>exact rfl);(case aB=>exact(by exact bU HB.out));(case aF=>exact(fun k_ hk=>⟨Kd.fresh' (Kd.R_lt (by exact rU HO_3.out)) k_ hk,Kd.fresh' (Kd.R_lt (by exact rU HO_6.out)) k_ hk⟩));(case aO=>exact(by exact rU HO_4.out));(case aS=>exact(below_size (by exact bU HB.out)));(case aL=>have:=LMc20.out;omega);intro v332 w23 ho hb hg hat;rw[←Ny331.out]at ho;replace HO_3:=aS (Kd.R_after (ok:=(fun k_=>some k_≠(.slice (some ad328) t325.length co21:Value).ownBlock)) (by exact rU (Kd.R_mono HO_3.out (fun _ hk=>⟨hk.2,hk.1⟩))) hg hat);replace HO_6:=aS (Kd.R_after (ok:=(fun k_=>some k_≠(v318:Value).ownBlock)) (by exact rU HO_6.out) hg hat);replace HB:=aS (hb);have HO333:=aS (ho);clear HO_4;clear ho hb hg hat))
            go_roundg k2
            case measure=>have:=HK1.out;have:=HK2.out;omega
            case rel=>exact⟨(y331),(wrap64 (x7_2+1)),(by first|rfl|(simp;done)|(simp[*];done)),H',⟨by have:=HK1.out;have:=HK2.out;omega⟩,⟨by exact rU (Kd.R_mono HO_3.out (fun _ hk=>⟨hk.2,hk.1⟩))⟩,⟨by exact rU HO333.out⟩,⟨by exact rU HO_6.out⟩,⟨by exact bU HB.out⟩⟩
           ·rw[if_neg c20]at H
            exact absurd H (by simp)
         ·rw[if_neg c15]at H
          exact absurd H (by simp)
        ·rw[if_neg c14]at H
         have c14b0:decide (x7_2<(t325.length:Int))=false:=decide_eq_false c14;clear c14;have H':=aS H;clear H;obtain⟨Ao24,co24,eo24⟩:=Kd.R_slice HO_6.out;subst eo24;go_wp2
         go_roundg k2
         case measure=>have:=HK1.out;have:=HK2.out;omega
         case rel=>exact⟨(x4_2),(wrap64 (x5_1+1)),(by first|rfl|(simp;done)|(simp[*];done)),H',⟨by have:=HK1.out;have:=HK2.out;omega⟩,⟨by exact rU (Kd.R_mono HO_3.out (fun _ hk=>hk.1))⟩,⟨by exact rU (Kd.R_mono HO_4.out (fun _ hk=>hk.1))⟩,⟨by exact bU HB.out⟩⟩
     ·rw[if_neg c10]at H
      exact absurd H (by simp)
    ·rw[if_neg c9]at H
     have c9b0:decide (x5_1<(x4_1.length:Int))=false:=decide_eq_false c9;clear c9;have H':=aS H;clear H;obtain⟨Ao25,co25,eo25⟩:=Kd.R_slice HO_4.out;subst eo25;go_wp2
     go_loopg [3,8] k1 (fun kq v3 v8 w'=> ∃ (x3_2:List Int) (x8_2:Int),v8= .int .i64 x8_2∧Aside0 (spec_CodeReach.l2 kq l0 x3_2 x4_1 x8_2=some r)∧Aside0 (kq≤k1)∧Aside0 (Kd.R (Kd.int .i64) 3 w' w.heap.size (fun k_=>some k_≠((.slice Ao25 x4_1.length co25):Value).ownBlock) v3 x3_2)∧Aside0 (Kd.R (Kd.int .i64) 3 w' w.heap.size (fun k_=>some k_≠(v3:Value).ownBlock) (.slice Ao25 x4_1.length co25) x4_1)∧Aside0 (Below w.heap.size w w'))
     case atStart=>exact⟨(y317),(0),(by first|rfl|(simp;done)|(simp[*];done)),H',⟨Nat.le_refl _⟩,⟨by exact rU HO_3.out⟩,⟨by exact rU HO_4.out⟩,⟨by exact bU HB.out⟩⟩
     case round=>
      clear H';(try clear c1);(try clear c2);(try clear p2);(try clear c3);(try clear p3);(try clear q3);(try clear hx3);(try clear c4);(try clear p6);(try clear c7);(try clear c9);(try clear c9b0);(try clear c10);(try clear c10b0);(try clear c14);(try clear c14b0);(try clear c15);(try clear c15b0);(try clear c17);(try clear c20);(try clear hx324_0);(try clear hx328_0);(try clear hx330_0);(try clear p2);(try clear p3);(try clear p324);(try clear p328);(try clear p330);(try clear q3);(try clear q324);(try clear q328);(try clear q330)
      obtain⟨x3_2,x8_2,rfl,HA,HK2,HO_3,HO_4,HB⟩:=hrel;cases gk with
      |zero=>exact absurd HA.out (by simp[spec_CodeReach.l2])
      |succ k2=>
       have H:=HA.out;clear HA;simp only[spec_CodeReach.l2]at H
       by_cases c26:x8_2<(l0.length:Int)
       ·rw[if_pos c26]at H
        have c26b0:decide (x8_2<(l0.length:Int))=true:=decide_eq_true c26;clear c26;replace H:=Option.bind_eq_some_iff.mp H;obtain⟨t334,A270,H⟩:=H;replace H:(if t334=true then(if x3_2.length<17592186044416 then(spec_CodeReach.l2 k2 l0 (x3_2++ [x8_2]) x4_1 (wrap64 (x8_2+1)))else(none))else(spec_CodeReach.l2 k2 l0 x3_2 x4_1 (wrap64 (x8_2+1))))=some r:=H
        have A27:=aS A270;clear A270;by_cases c28:t334=true
        ·subst c28
         have H1:(if x3_2.length<17592186044416 then(spec_CodeReach.l2 k2 l0 (x3_2++ [x8_2]) x4_1 (wrap64 (x8_2+1)))else(none))=some r:=by rw[if_pos rfl]at H;exact H
         clear H;have H:=H1;clear H1;by_cases c29:x3_2.length<17592186044416
         ·rw[if_pos c29]at H
          have LMc29:=aS c29;clear c29;obtain⟨y335,hy335⟩: ∃y_:List Int,y_=(x3_2++ [x8_2]):=⟨_,rfl⟩;replace H:(spec_CodeReach.l2 k2 l0 y335 x4_1 (wrap64 (x8_2+1)))=some r:=by first|(rw[hy335];with_reducible exact H)|(have H2_:=(Option.bind_some _ _).symm.trans H;rw[hy335];with_reducible exact H2_)|(have H2_:=(Option.bind_some _ _).symm.trans H;with_reducible exact H2_)|with_reducible exact H|(rw[hy335];exact H)|exact H
          have Ny335:=aS hy335;clear hy335;have H':=aS H;clear H;go_wp2_with (first|((with_reducible refine gate_callee (f:=79) rfl ?_);refine goesL_ (some 55) rfl rfl Try.func79 (by kernel_rfl) rfl #[.slice Ao25 x4_1.length co25,.int .i64 x8_2] rfl (by(try simp only[List.map_toArray,List.map_cons,List.map_nil])<;>rfl) ?_;(with_reducible refine(spec_l11Among.calls k2 _ _ x4_1 x8_2 true _ ?side1 ?side2 A27.out).mono ?_);(case side1=>exact CU (Kd.R_reads' HO_4.out).2.2);(case side2=>exact(Kd.R_reads' HO_4.out).2.1);rintro e w' ⟨rfl,⟨nd,rfl⟩⟩;refine⟨_,rfl,?_⟩)|((with_reducible refine gate_builtin (b:=.append) (xs:= #[.tmp 56,.tmp 58]) rfl ?_);at_builtin;refine Kd.R_append (Kd.int .i64) (w0:=w) w.heap.size rfl (.tmp 56) (.tmp 58) 32 3 (.int .i64 0) 8 rfl Try.underlying32 info3 rfl (by decide) (by omega) u3 x3_2 x8_2 [.int .i64 x8_2] (fun k_=>some k_≠(.slice Ao25 x4_1.length co25:Value).ownBlock) (fun _=>False) rfl rfl ?aP (fun _ hk=>hk.elim) ?aF ?aO ?aB ?aS ?aL ?_;(case aP=>exact rfl);(case aB=>exact(by exact bU HB.out));(case aF=>exact(fun k_ hk=>Kd.fresh' (Kd.R_lt (by exact rU HO_4.out)) k_ hk));(case aO=>exact(by exact rU HO_3.out));(case aS=>exact(below_size (by exact bU HB.out)));(case aL=>have:=LMc29.out;omega);intro v336 w30 ho hb hg hat;rw[←Ny335.out]at ho;replace HO_4:=aS (Kd.R_after (ok:=(fun _=>True)) (by exact rU (Kd.R_mono HO_4.out (fun _ hk=>⟨trivial,hk⟩))) hg hat);replace HB:=aS (hb);have HO337:=aS (ho);clear HO_3;clear ho hb hg hat))
          go_roundg k2
          case measure=>have:=HK1.out;have:=HK2.out;omega
          case rel=>exact⟨(y335),(wrap64 (x8_2+1)),(by first|rfl|(simp;done)|(simp[*];done)),H',⟨by have:=HK1.out;have:=HK2.out;omega⟩,⟨by exact rU HO337.out⟩,⟨by exact rU (Kd.R_mono HO_4.out (fun _ hk=>hk.2))⟩,⟨by exact bU HB.out⟩⟩
         ·rw[if_neg c29]at H
          exact absurd H (by simp)
        ·replace c28:=Bool.eq_false_iff.mpr c28
         subst c28;have H1:(spec_CodeReach.l2 k2 l0 x3_2 x4_1 (wrap64 (x8_2+1)))=some r:=by rw[if_neg (show¬(false=true) by decide)]at H;exact H
         clear H;have H:=H1;clear H1;have H':=aS H;clear H;go_wp2_with (first|((with_reducible refine gate_callee (f:=79) rfl ?_);refine goesL_ (some 55) rfl rfl Try.func79 (by kernel_rfl) rfl #[.slice Ao25 x4_1.length co25,.int .i64 x8_2] rfl (by(try simp only[List.map_toArray,List.map_cons,List.map_nil])<;>rfl) ?_;(with_reducible refine(spec_l11Among.calls k2 _ _ x4_1 x8_2 false _ ?side1 ?side2 A27.out).mono ?_);(case side1=>exact CU (Kd.R_reads' HO_4.out).2.2);(case side2=>exact(Kd.R_reads' HO_4.out).2.1);rintro e w' ⟨rfl,⟨nd,rfl⟩⟩;refine⟨_,rfl,?_⟩))
         go_roundg k2
         case measure=>have:=HK1.out;have:=HK2.out;omega
         case rel=>exact⟨(x3_2),(wrap64 (x8_2+1)),(by first|rfl|(simp;done)|(simp[*];done)),H',⟨by have:=HK1.out;have:=HK2.out;omega⟩,⟨by exact rU HO_3.out⟩,⟨by exact rU HO_4.out⟩,⟨by exact bU HB.out⟩⟩
       ·rw[if_neg c26]at H
        have c26b0:decide (x8_2<(l0.length:Int))=false:=decide_eq_false c26;clear c26;obtain rfl:=Option.some.inj H;go_wp2
        go_ret
        exact⟨_,by first|rfl|(simp[*]<;>rfl),by exact rU (Kd.R_mono HO_3.out (fun _ hk=>trivial)),by exact bU HB.out⟩
 ·replace c3:=Bool.eq_false_iff.mpr c3
  subst c3;have H1:(some y317)=some r:=by rw[if_neg (show¬(false=true) by decide)]at H;exact H
  clear H;have H:=H1;clear H1;obtain rfl:=Option.some.inj H;go_enter Try.func41,Try.ntmps41
  go_wp2_with (first|((with_reducible refine gate_dst (N:=9) rfl ?_);refine Kd.R_lit (Kd.int .i64) _ 3 ?hg (N:=9) ?hd (xs:=([]:List Int)) (inner:=[]) (ok:=fun _=>True) (okp:=fun _=>True) ?hr ?hp (fun _ hk=>hk) trivial (Below.refl _ _) (Nat.le_refl _) (by simp) ?_;(case hd=>rfl);(case hg=>rfl);(case hr=>go_simp<;>rfl);(case hp=>exact(Reps.none _ _));intro v318 w31 ho32 hb hg_ hnew_;clear hg_ hnew_;(first|rw[←Ny317.out]at ho32|(simp only[Int.reduceToNat]at ho32;rw[←Ny317.out]at ho32));have HO319:=aS (Kd.R_lower ho32 (below_size (by exact bU HB.out)));replace HB:=aS (below_step (by exact bU HB.out) hb);clear hb ho32)|((with_reducible refine gate_callee (f:=33) rfl ?_);refine goesL_ (some 11) rfl rfl Try.func33 (by kernel_rfl) rfl #[.slice A0 l0.length c0] rfl (by(try simp only[List.map_toArray,List.map_cons,List.map_nil])<;>rfl) ?_;(with_reducible refine(spec_CodeOk.calls k _ _ l0 false _ ?side1 ?side2 A2.out).mono ?_);(case side1=>repeat(first|exact(Kd.C_below HR0.out HB.out)|(with_reducible refine Kd.C_alloc ?_ _)|(with_reducible refine Kd.C_drewN ?_ _)|(with_reducible refine Kd.C_drew ?_)));(case side2=>exact HC0.out);rintro e w33 ⟨rfl,hb⟩;refine⟨_,rfl,?_⟩;replace HO319:=aS (Kd.R_below (by exact rU HO319.out) hb);replace HB:=aS (below_step (by exact bU HB.out) hb);(try clear hb)))
  go_ret
  exact⟨_,by first|rfl|(simp[*]<;>rfl),by exact rU HO319.out,by exact bU HB.out⟩
def impl_CodeReach.l0:Nat→List Int→List Int→Int→Int→Option (List Int)
 |0,_,_,_,_=>none
 |k+1,x3,x10,x11,x12=>if x12<x11 then(if 0≤x12 then(if x12<(x10.length:Int)then(if(rd x10 x12)≥0 then(if x3.length<17592186044416 then(impl_CodeReach.l0 k (x3++ [x12]) x10 x11 (wrap64 (x12+1)))else(none))else(impl_CodeReach.l0 k x3 x10 x11 (wrap64 (x12+1))))else(none))else(none))else(some x3)
def impl_CodeReach.f (k:Nat) (l0:List (S29)):Option (List Int):=(codeV.f l0).bind fun t338=>(if t338=true then((fullV.f l0).bind fun t339=>(impl_CodeReach.l0 k ([]:List Int) t339 (t339.length:Int) 0))else(some ([]:List Int)))
theorem impl_CodeReach.calls (k:Nat) (A0:Option Addr) (c0:Nat) (l0:List (S29)) (r:List Int) (w:World) (hr0:Kd.C k29 w A0 l0.length l0) (hc0:l0.length≤c0) (h:impl_CodeReach.f k l0=some r):
  Calls Try.prog 42 #[.slice A0 l0.length c0] w fun e w'=> ∃v0_:Value,e= .returned (v0_)∧Kd.R (Kd.int .i64) 3 w' w.heap.size (fun _=>True) v0_ r∧Below w.heap.size w w':=by
 have HR0:=aS hr0;have HC0:=aS hc0;clear hr0 hc0;have HB:=aS (Below.refl w.heap.size w);have H:((codeV.f l0).bind fun t338=>(if t338=true then((fullV.f l0).bind fun t339=>(impl_CodeReach.l0 k ([]:List Int) t339 (t339.length:Int) 0))else(some ([]:List Int))))=some r:=h
 clear h;replace H:=Option.bind_eq_some_iff.mp H;obtain⟨t338,A20,H⟩:=H;replace H:(if t338=true then((fullV.f l0).bind fun t339=>(impl_CodeReach.l0 k ([]:List Int) t339 (t339.length:Int) 0))else(some ([]:List Int)))=some r:=H
 have A2:=aS A20;clear A20;by_cases c3:t338=true
 ·subst c3
  have H1:((fullV.f l0).bind fun t339=>(impl_CodeReach.l0 k ([]:List Int) t339 (t339.length:Int) 0))=some r:=by rw[if_pos rfl]at H;exact H
  clear H;have H:=H1;clear H1;replace H:=Option.bind_eq_some_iff.mp H;obtain⟨t339,A40,H⟩:=H;replace H:(impl_CodeReach.l0 k ([]:List Int) t339 (t339.length:Int) 0)=some r:=H;have A4:=aS A40;clear A40;have H':=aS H;clear H;go_enter Try.func42,Try.ntmps42
  go_wp2_with (first|((with_reducible refine gate_callee (f:=35) rfl ?_);refine goesL_ (some 7) rfl rfl Try.func35 (by kernel_rfl) rfl #[.slice A0 l0.length c0] rfl (by(try simp only[List.map_toArray,List.map_cons,List.map_nil])<;>rfl) ?_;(with_reducible refine(impl_CodeOk.calls _ _ l0 true _ ?side1 ?side2 A2.out).mono ?_);(case side1=>exact CU HR0.out);(case side2=>exact HC0.out);rintro e w5 ⟨rfl,hb⟩;refine⟨_,rfl,?_⟩;replace HB:=aS (below_step (by exact bU HB.out) hb);(try clear hb))|((with_reducible refine gate_callee (f:=80) rfl ?_);refine goesL_ (some 10) rfl rfl Try.func80 (by kernel_rfl) rfl #[.slice A0 l0.length c0] rfl (by(try simp only[List.map_toArray,List.map_cons,List.map_nil])<;>rfl) ?_;(with_reducible refine(impl_full.calls _ _ l0 t339 _ ?side1 ?side2 A4.out).mono ?_);(case side1=>repeat(first|exact(Kd.C_below HR0.out HB.out)|(with_reducible refine Kd.C_alloc ?_ _)|(with_reducible refine Kd.C_drewN ?_ _)|(with_reducible refine Kd.C_drew ?_)));(case side2=>exact HC0.out);rintro e w6 ⟨v340,rfl,ho0,hb⟩;refine⟨_,rfl,?_⟩;have HO341:=aS (Kd.R_lower ho0 (below_size (by exact bU HB.out)));replace HB:=aS (below_step (by exact bU HB.out) hb);(try clear hb);(try clear ho0);obtain⟨Ao7,co7,eo7⟩:=Kd.R_slice HO341.out;subst eo7))
  go_loopg [3,12] k (fun kq v3 v12 w'=> ∃ (x3_1:List Int) (x12_1:Int),v12= .int .i64 x12_1∧Aside0 (impl_CodeReach.l0 kq x3_1 t339 (t339.length:Int) x12_1=some r)∧Aside0 (kq≤k)∧Aside0 (Kd.R (Kd.int .i64) 3 w' w.heap.size (fun k_=>some k_≠((.slice Ao7 t339.length co7):Value).ownBlock) v3 x3_1)∧Aside0 (Kd.R (Kd.int .i64) 3 w' w.heap.size (fun k_=>some k_≠(v3:Value).ownBlock) (.slice Ao7 t339.length co7) t339)∧Aside0 (Below w.heap.size w w'))
  case atStart=>exact⟨(([]:List Int)),(0),(by first|rfl|(simp;done)|(simp[*];done)),H',⟨Nat.le_refl _⟩,⟨by first|exact Kd.R_nil _ _ _ _ _|exact Kd.N_nil _ _ _ _ _|exact Kd.V_nil _ _ _ _ _|exact Kd.Q_nil _ _ _ _ _|exact Kd.S_nil _ _ _ _ _⟩,⟨by exact rU (Kd.R_mono HO341.out (fun _ hk=>(by simp[Value.ownBlock])))⟩,⟨by exact bU HB.out⟩⟩
  case round=>
   clear H';(try clear p2);(try clear c3);(try clear c4)
   obtain⟨x3_1,x12_1,rfl,HA,HK1,HO_3,HO_10,HB⟩:=hrel;cases gk with
   |zero=>exact absurd HA.out (by simp[impl_CodeReach.l0])
   |succ k1=>
    have H:=HA.out;clear HA;simp only[impl_CodeReach.l0]at H
    by_cases c8:x12_1<(t339.length:Int)
    ·rw[if_pos c8]at H
     have c8b0:decide (x12_1<(t339.length:Int))=true:=decide_eq_true c8;clear c8;by_cases c9:0≤x12_1
     ·rw[if_pos c9]at H
      have c9b0:decide (0≤x12_1)=true:=decide_eq_true c9;clear c9;by_cases c10:x12_1<(t339.length:Int)
      ·rw[if_pos c10]at H
       have c10b0:decide (x12_1<(t339.length:Int))=true:=decide_eq_true c10;clear c10;by_cases c11:(rd t339 x12_1)≥0
       ·rw[if_pos c11]at H
        have c11b0:decide (0≤(rd t339 x12_1))=true:=decide_eq_true c11;clear c11;by_cases c12:x3_1.length<17592186044416
        ·rw[if_pos c12]at H
         have LMc12:=aS c12;clear c12;obtain⟨y343,hy343⟩: ∃y_:List Int,y_=(x3_1++ [x12_1]):=⟨_,rfl⟩;replace H:(impl_CodeReach.l0 k1 y343 t339 (t339.length:Int) (wrap64 (x12_1+1)))=some r:=by first|(rw[hy343];with_reducible exact H)|(have H2_:=(Option.bind_some _ _).symm.trans H;rw[hy343];with_reducible exact H2_)|(have H2_:=(Option.bind_some _ _).symm.trans H;with_reducible exact H2_)|with_reducible exact H|(rw[hy343];exact H)|exact H
         have Ny343:=aS hy343;clear hy343;have H':=aS H;clear H;have p342:0≤(x12_1:Int):=of_decide_eq_true (by assumption)
         have q342:x12_1<(t339.length:Int):=of_decide_eq_true (by assumption)
         obtain⟨ad342,e342,hx342_0⟩:=Kd.at_int (Kd.R_reads' HO_10.out).2.2 x12_1 p342 q342;cases e342
         replace p342:=eq_true p342;replace q342:=eq_true q342;go_wp2_with (first|((with_reducible refine gate_builtin (b:=.append) (xs:= #[.tmp 19,.tmp 21]) rfl ?_);at_builtin;refine Kd.R_append (Kd.int .i64) (w0:=w) w.heap.size rfl (.tmp 19) (.tmp 21) 32 3 (.int .i64 0) 8 rfl Try.underlying32 info3 rfl (by decide) (by omega) u3 x3_1 x12_1 [.int .i64 x12_1] (fun k_=>some k_≠(.slice (some ad342) t339.length co7:Value).ownBlock) (fun _=>False) rfl rfl ?aP (fun _ hk=>hk.elim) ?aF ?aO ?aB ?aS ?aL ?_;(case aP=>exact rfl);(case aB=>exact(by exact bU HB.out));(case aF=>exact(fun k_ hk=>Kd.fresh' (Kd.R_lt (by exact rU HO_10.out)) k_ hk));(case aO=>exact(by exact rU HO_3.out));(case aS=>exact(below_size (by exact bU HB.out)));(case aL=>have:=LMc12.out;omega);intro v344 w13 ho hb hg hat;rw[←Ny343.out]at ho;replace HO_10:=aS (Kd.R_after (ok:=(fun _=>True)) (by exact rU (Kd.R_mono HO_10.out (fun _ hk=>⟨trivial,hk⟩))) hg hat);replace HB:=aS (hb);have HO345:=aS (ho);clear HO_3;clear ho hb hg hat))
         go_roundg k1
         case measure=>have:=HK1.out;omega
         case rel=>exact⟨(y343),(wrap64 (x12_1+1)),(by first|rfl|(simp;done)|(simp[*];done)),H',⟨by have:=HK1.out;omega⟩,⟨by exact rU HO345.out⟩,⟨by exact rU (Kd.R_mono HO_10.out (fun _ hk=>hk.2))⟩,⟨by exact bU HB.out⟩⟩
        ·rw[if_neg c12]at H
         exact absurd H (by simp)
       ·rw[if_neg c11]at H
        have c11b0:decide (0≤(rd t339 x12_1))=false:=decide_eq_false c11;clear c11;have H':=aS H;clear H;have p342:0≤(x12_1:Int):=of_decide_eq_true (by assumption)
        have q342:x12_1<(t339.length:Int):=of_decide_eq_true (by assumption)
        obtain⟨ad342,e342,hx342_0⟩:=Kd.at_int (Kd.R_reads' HO_10.out).2.2 x12_1 p342 q342;cases e342
        replace p342:=eq_true p342;replace q342:=eq_true q342;go_wp2
        go_roundg k1
        case measure=>have:=HK1.out;omega
        case rel=>exact⟨(x3_1),(wrap64 (x12_1+1)),(by first|rfl|(simp;done)|(simp[*];done)),H',⟨by have:=HK1.out;omega⟩,⟨by exact rU HO_3.out⟩,⟨by exact rU HO_10.out⟩,⟨by exact bU HB.out⟩⟩
      ·rw[if_neg c10]at H
       exact absurd H (by simp)
     ·rw[if_neg c9]at H
      exact absurd H (by simp)
    ·rw[if_neg c8]at H
     have c8b0:decide (x12_1<(t339.length:Int))=false:=decide_eq_false c8;clear c8;obtain rfl:=Option.some.inj H;go_wp2
     go_ret
     exact⟨_,by first|rfl|(simp[*]<;>rfl),by exact rU (Kd.R_mono HO_3.out (fun _ hk=>trivial)),by exact bU HB.out⟩
 ·replace c3:=Bool.eq_false_iff.mpr c3
  subst c3;have H1:(some ([]:List Int))=some r:=by rw[if_neg (show¬(false=true) by decide)]at H;exact H
  clear H;have H:=H1;clear H1;obtain rfl:=Option.some.inj H;go_enter Try.func42,Try.ntmps42
  go_wp2_with (first|((with_reducible refine gate_callee (f:=35) rfl ?_);refine goesL_ (some 7) rfl rfl Try.func35 (by kernel_rfl) rfl #[.slice A0 l0.length c0] rfl (by(try simp only[List.map_toArray,List.map_cons,List.map_nil])<;>rfl) ?_;(with_reducible refine(impl_CodeOk.calls _ _ l0 false _ ?side1 ?side2 A2.out).mono ?_);(case side1=>exact CU HR0.out);(case side2=>exact HC0.out);rintro e w14 ⟨rfl,hb⟩;refine⟨_,rfl,?_⟩;replace HB:=aS (below_step (by exact bU HB.out) hb);(try clear hb)))
  go_ret
  exact⟨_,by first|rfl|(simp[*]<;>rfl),by first|exact Kd.R_nil _ _ _ _ _|exact Kd.N_nil _ _ _ _ _|exact Kd.V_nil _ _ _ _ _|exact Kd.Q_nil _ _ _ _ _|exact Kd.S_nil _ _ _ _ _,by exact bU HB.out⟩
def spec_l3Fills.f (a0:Int):Option (Bool):=if a0=1 then(some true)else(if a0=2 then(some true)else(if a0=4 then(some true)else(if a0=5 then(some true)else(if a0=7 then(some true)else(some (a0==8))))))
theorem spec_l3Fills.calls (a0:Int) (r:Bool) (w:World) (h:spec_l3Fills.f a0=some r):
  Calls Try.prog 104 #[.int .i64 a0] w fun e w'=>e= .returned (.bool r)∧Drawn0 w w':=by
 have H:(if a0=1 then(some true)else(if a0=2 then(some true)else(if a0=4 then(some true)else(if a0=5 then(some true)else(if a0=7 then(some true)else(some (a0==8)))))))=some r:=h
 clear h;by_cases c2:a0=1
 ·rw[if_pos c2]at H
  have c2b0:(a0==1)=true:=beq_iff_eq.mpr c2;have c2b1:(a0 !=1)=false:=bne_eq_false_iff_eq.mpr c2;clear c2;obtain rfl:=Option.some.inj H;go_enter Try.func104,Try.ntmps104
  go_wp2
  go_ret
  exact⟨by first|rfl|(simp;done)|(simp[*];done),by repeat(first|exact Drawn0.refl _|apply Drawn0.step)⟩
 ·rw[if_neg c2]at H
  have c2b0:(a0==1)=false:=beq_eq_false_iff_ne.mpr c2;have c2b1:(a0 !=1)=true:=bne_iff_ne.mpr c2;by_cases c3:a0=2
  ·rw[if_pos c3]at H
   have c3b0:(a0==2)=true:=beq_iff_eq.mpr c3;have c3b1:(a0 !=2)=false:=bne_eq_false_iff_eq.mpr c3;clear c3;obtain rfl:=Option.some.inj H;go_enter Try.func104,Try.ntmps104
   go_wp2
   go_ret
   exact⟨by first|rfl|(simp;done)|(simp[*];done),by repeat(first|exact Drawn0.refl _|apply Drawn0.step)⟩
  ·rw[if_neg c3]at H
   have c3b0:(a0==2)=false:=beq_eq_false_iff_ne.mpr c3;have c3b1:(a0 !=2)=true:=bne_iff_ne.mpr c3;by_cases c4:a0=4
   ·rw[if_pos c4]at H
    have c4b0:(a0==4)=true:=beq_iff_eq.mpr c4;have c4b1:(a0 !=4)=false:=bne_eq_false_iff_eq.mpr c4;clear c4;obtain rfl:=Option.some.inj H;go_enter Try.func104,Try.ntmps104
    go_wp2
    go_ret
    exact⟨by first|rfl|(simp;done)|(simp[*];done),by repeat(first|exact Drawn0.refl _|apply Drawn0.step)⟩
   ·rw[if_neg c4]at H
    have c4b0:(a0==4)=false:=beq_eq_false_iff_ne.mpr c4;have c4b1:(a0 !=4)=true:=bne_iff_ne.mpr c4;by_cases c5:a0=5
    ·rw[if_pos c5]at H
     have c5b0:(a0==5)=true:=beq_iff_eq.mpr c5;have c5b1:(a0 !=5)=false:=bne_eq_false_iff_eq.mpr c5;clear c5;obtain rfl:=Option.some.inj H;go_enter Try.func104,Try.ntmps104
     go_wp2
     go_ret
     exact⟨by first|rfl|(simp;done)|(simp[*];done),by repeat(first|exact Drawn0.refl _|apply Drawn0.step)⟩
    ·rw[if_neg c5]at H
     have c5b0:(a0==5)=false:=beq_eq_false_iff_ne.mpr c5;have c5b1:(a0 !=5)=true:=bne_iff_ne.mpr c5;by_cases c6:a0=7
     ·rw[if_pos c6]at H
      have c6b0:(a0==7)=true:=beq_iff_eq.mpr c6;have c6b1:(a0 !=7)=false:=bne_eq_false_iff_eq.mpr c6;clear c6;obtain rfl:=Option.some.inj H;go_enter Try.func104,Try.ntmps104
      go_wp2
      go_ret
      exact⟨by first|rfl|(simp;done)|(simp[*];done),by repeat(first|exact Drawn0.refl _|apply Drawn0.step)⟩
     ·rw[if_neg c6]at H
      have c6b0:(a0==7)=false:=beq_eq_false_iff_ne.mpr c6;have c6b1:(a0 !=7)=true:=bne_iff_ne.mpr c6;obtain rfl:=Option.some.inj H;go_enter Try.func104,Try.ntmps104
      go_wp2
      go_ret
      exact⟨by first|rfl|(simp;done)|(simp[*];done),by repeat(first|exact Drawn0.refl _|apply Drawn0.step)⟩
def spec_l3Bit.f (a0:Int):Option (Int):=(some (([1,2,4,8]:List Int):List Int)).bind fun y346=>(if 0≤a0 then(if a0<(y346.length:Int)then(some (rd y346 a0))else(none))else(none))
theorem spec_l3Bit.calls (a0:Int) (r:Int) (w:World) (h:spec_l3Bit.f a0=some r):
  Calls Try.prog 99 #[.int .i64 a0] w fun e w'=>e= .returned (.int .i64 r)∧Below w.heap.size w w':=by
 have HB:=aS (Below.refl w.heap.size w);have H:((some (([1,2,4,8]:List Int):List Int)).bind fun y346=>(if 0≤a0 then(if a0<(y346.length:Int)then(some (rd y346 a0))else(none))else(none)))=some r:=h
 clear h;obtain⟨y346,hy346⟩: ∃y_:List Int,y_=(([1,2,4,8]:List Int)):=⟨_,rfl⟩;replace H:(if 0≤a0 then(if a0<(y346.length:Int)then(some (rd y346 a0))else(none))else(none))=some r:=by first|(rw[hy346];with_reducible exact H)|(have H2_:=(Option.bind_some _ _).symm.trans H;rw[hy346];with_reducible exact H2_)|(have H2_:=(Option.bind_some _ _).symm.trans H;with_reducible exact H2_)|with_reducible exact H|(rw[hy346];exact H)|exact H
 have Ny346:=aS hy346;clear hy346;by_cases c2:0≤a0
 ·rw[if_pos c2]at H
  have c2b0:decide (0≤a0)=true:=decide_eq_true c2;clear c2;by_cases c3:a0<(y346.length:Int)
  ·rw[if_pos c3]at H
   have c3b0:decide (a0<(y346.length:Int))=true:=decide_eq_true c3;clear c3;obtain rfl:=Option.some.inj H;go_enter Try.func99,Try.ntmps99
   go_wp2_with (first|((with_reducible refine gate_dst (N:=3) rfl ?_);refine Kd.R_lit (Kd.int .i64) _ 3 ?hg (N:=3) ?hd (xs:=([1,2,4,8]:List Int)) (inner:=[.int .i64 1,.int .i64 2,.int .i64 4,.int .i64 8]) (ok:=fun _=>True) (okp:=fun _=>True) ?hr ?hp (fun _ hk=>hk) trivial (Below.refl _ _) (Nat.le_refl _) (by simp) ?_;(case hd=>rfl);(case hg=>rfl);(case hr=>go_simp<;>rfl);(case hp=>exact(Reps.one (show Kd.M (Kd.int .i64) _ _ _ 1 [.int .i64 1]from rfl) (Reps.one (show Kd.M (Kd.int .i64) _ _ _ 2 [.int .i64 2]from rfl) (Reps.one (show Kd.M (Kd.int .i64) _ _ _ 4 [.int .i64 4]from rfl) (Reps.one (show Kd.M (Kd.int .i64) _ _ _ 8 [.int .i64 8]from rfl) (Reps.none _ _))))));intro v347 w4 ho5 hb hg_ hnew_;clear hg_ hnew_;(first|rw[←Ny346.out]at ho5|(simp only[Int.reduceToNat]at ho5;rw[←Ny346.out]at ho5));have HO348:=aS (Kd.R_lower ho5 (below_size (by exact bU HB.out)));replace HB:=aS (below_step (by exact bU HB.out) hb);clear hb ho5;obtain⟨Ao6,co6,eo6⟩:=Kd.R_slice HO348.out;subst eo6;have p349:0≤(a0:Int):=of_decide_eq_true (by assumption);have q349:a0<(y346.length:Int):=of_decide_eq_true (by assumption);obtain⟨ad349,e349,hx349_0⟩:=Kd.at_int (Kd.R_reads' HO348.out).2.2 a0 p349 q349;cases e349;replace p349:=eq_true p349;replace q349:=eq_true q349))
   go_ret
   exact⟨by first|rfl|(simp[*]<;>rfl),by exact bU HB.out⟩
  ·rw[if_neg c3]at H
   exact absurd H (by simp)
 ·rw[if_neg c2]at H
  exact absurd H (by simp)
def spec_l3Has.f (a0:Int) (a1:Int):Option (Bool):=(spec_l3Bit.f a1).bind fun t350=>(if t350=0 then(none)else(some ((Int.tmod (wrap64 (Int.tdiv a0 t350)) 2)==1)))
theorem spec_l3Has.calls (a0:Int) (a1:Int) (r:Bool) (w:World) (h:spec_l3Has.f a0 a1=some r):
  Calls Try.prog 82 #[.int .i64 a0,.int .i64 a1] w fun e w'=>e= .returned (.bool r)∧Below w.heap.size w w':=by
 have HB:=aS (Below.refl w.heap.size w);have H:((spec_l3Bit.f a1).bind fun t350=>(if t350=0 then(none)else(some ((Int.tmod (wrap64 (Int.tdiv a0 t350)) 2)==1))))=some r:=h
 clear h;replace H:=Option.bind_eq_some_iff.mp H;obtain⟨t350,A30,H⟩:=H;replace H:(if t350=0 then(none)else(some ((Int.tmod (wrap64 (Int.tdiv a0 t350)) 2)==1)))=some r:=H
 have A3:=aS A30;clear A30;by_cases c4:t350=0
 ·rw[if_pos c4]at H
  exact absurd H (by simp)
 ·rw[if_neg c4]at H
  have c4b0:(t350==0)=false:=beq_eq_false_iff_ne.mpr c4;have c4b1:(t350 !=0)=true:=bne_iff_ne.mpr c4;obtain rfl:=Option.some.inj H;go_enter Try.func82,Try.ntmps82
  go_wp2_with (first|((with_reducible refine gate_callee (f:=99) rfl ?_);refine goesL_ (some 7) rfl rfl Try.func99 (by kernel_rfl) rfl #[.int .i64 a1] rfl (by(try simp only[List.map_toArray,List.map_cons,List.map_nil])<;>rfl) ?_;(with_reducible refine(spec_l3Bit.calls a1 t350 _ A3.out).mono ?_);rintro e w5 ⟨rfl,hb⟩;refine⟨_,rfl,?_⟩;replace HB:=aS (below_step (by exact bU HB.out) hb);(try clear hb)))
  go_ret
  exact⟨by first|rfl|(simp[*]<;>rfl),by exact bU HB.out⟩
def spec_l3With.f (a0:Int) (a1:Int):Option (Int):=(spec_l3Has.f a0 a1).bind fun t351=>(if t351=true then(some a0)else((spec_l3Bit.f a1).bind fun t352=>(some (wrap64 (a0+t352)))))
theorem spec_l3With.calls (a0:Int) (a1:Int) (r:Int) (w:World) (h:spec_l3With.f a0 a1=some r):
  Calls Try.prog 105 #[.int .i64 a0,.int .i64 a1] w fun e w'=>e= .returned (.int .i64 r)∧Below w.heap.size w w':=by
 have HB:=aS (Below.refl w.heap.size w);have H:((spec_l3Has.f a0 a1).bind fun t351=>(if t351=true then(some a0)else((spec_l3Bit.f a1).bind fun t352=>(some (wrap64 (a0+t352))))))=some r:=h
 clear h;replace H:=Option.bind_eq_some_iff.mp H;obtain⟨t351,A30,H⟩:=H;replace H:(if t351=true then(some a0)else((spec_l3Bit.f a1).bind fun t352=>(some (wrap64 (a0+t352)))))=some r:=H
 have A3:=aS A30;clear A30;by_cases c4:t351=true
 ·subst c4
  have H1:(some a0)=some r:=by rw[if_pos rfl]at H;exact H
  clear H;have H:=H1;clear H1;obtain rfl:=Option.some.inj H;go_enter Try.func105,Try.ntmps105
  go_wp2_with (first|((with_reducible refine gate_callee (f:=82) rfl ?_);refine goesL_ (some 7) rfl rfl Try.func82 (by kernel_rfl) rfl #[.int .i64 a0,.int .i64 a1] rfl (by(try simp only[List.map_toArray,List.map_cons,List.map_nil])<;>rfl) ?_;(with_reducible refine(spec_l3Has.calls a0 a1 true _ A3.out).mono ?_);rintro e w5 ⟨rfl,hb⟩;refine⟨_,rfl,?_⟩;replace HB:=aS (below_step (by exact bU HB.out) hb);(try clear hb)))
  go_ret
  exact⟨by first|rfl|(simp[*]<;>rfl),by exact bU HB.out⟩
 ·replace c4:=Bool.eq_false_iff.mpr c4
  subst c4;have H1:((spec_l3Bit.f a1).bind fun t352=>(some (wrap64 (a0+t352))))=some r:=by rw[if_neg (show¬(false=true) by decide)]at H;exact H
  clear H;have H:=H1;clear H1;replace H:=Option.bind_eq_some_iff.mp H;obtain⟨t352,A60,H⟩:=H;replace H:(some (wrap64 (a0+t352)))=some r:=H;have A6:=aS A60;clear A60;obtain rfl:=Option.some.inj H;go_enter Try.func105,Try.ntmps105
  go_wp2_with (first|((with_reducible refine gate_callee (f:=82) rfl ?_);refine goesL_ (some 7) rfl rfl Try.func82 (by kernel_rfl) rfl #[.int .i64 a0,.int .i64 a1] rfl (by(try simp only[List.map_toArray,List.map_cons,List.map_nil])<;>rfl) ?_;(with_reducible refine(spec_l3Has.calls a0 a1 false _ A3.out).mono ?_);rintro e w7 ⟨rfl,hb⟩;refine⟨_,rfl,?_⟩;replace HB:=aS (below_step (by exact bU HB.out) hb);(try clear hb))|((with_reducible refine gate_callee (f:=99) rfl ?_);refine goesL_ (some 11) rfl rfl Try.func99 (by kernel_rfl) rfl #[.int .i64 a1] rfl (by(try simp only[List.map_toArray,List.map_cons,List.map_nil])<;>rfl) ?_;(with_reducible refine(spec_l3Bit.calls a1 t352 _ A6.out).mono ?_);rintro e w8 ⟨rfl,hb⟩;refine⟨_,rfl,?_⟩;replace HB:=aS (below_step (by exact bU HB.out) hb);(try clear hb)))
  go_ret
  exact⟨by first|rfl|(simp[*]<;>rfl),by exact bU HB.out⟩
end Go.Proofs.Ytmklpbmlgjkbiaa.PS
end
section
namespace Go.Proofs.Ytmklpbmlgjkbiaa.PS
open Go.RowKit Go.Proofs.YtmklpbmlgjkbiaaW.PrintWords Go.Proofs.YtmklpbmlgjkbiaaW.PrintLast Go.Proofs.YtmklpbmlgjkbiaaW.PrintMore
attribute [local go_sem] max2_int min2_int max_two min_two max_three min_three max_four min_four   -- for this text's walks alone
mutual
def spec_l3Both.l0:Nat→Int→Int→Int→Int→Option (Int)
 |0,_,_,_,_=>none
 |k+1,x0,x1,x5,x6=>if x6≤3 then((spec_l3Has.f x0 x6).bind fun t353=>(if t353=true then((spec_l3Has.f x1 x6).bind fun t354=>(spec_l3Both.j1 k x0 x1 x5 x6 t354))else(spec_l3Both.j1 k x0 x1 x5 x6 false)))else(some x5)
def spec_l3Both.j1:Nat→Int→Int→Int→Int→Bool→Option (Int)
 |0,_,_,_,_,_=>none
 |k+1,x0,x1,x5,x6,x21=>if x21=true then((spec_l3Bit.f x6).bind fun t355=>(spec_l3Both.l0 k x0 x1 (wrap64 (x5+t355)) (wrap64 (x6+1))))else(spec_l3Both.l0 k x0 x1 x5 (wrap64 (x6+1)))
end
def spec_l3Both.f (k:Nat) (a0:Int) (a1:Int):Option (Int):=if a0<0 then(some a1)else(spec_l3Both.l0 k a0 a1 0 0)
theorem spec_l3Both.mono_l: ∀k,(∀y0 y1 y2 y3,LeO (spec_l3Both.l0 k y0 y1 y2 y3) (spec_l3Both.l0 (k+1) y0 y1 y2 y3))∧(∀y0 y1 y2 y3 y4,LeO (spec_l3Both.j1 k y0 y1 y2 y3 y4) (spec_l3Both.j1 (k+1) y0 y1 y2 y3 y4))
 |0=>⟨fun _ _ _ _ r h=>by simp[spec_l3Both.l0]at h,fun _ _ _ _ _ r h=>by simp[spec_l3Both.j1]at h⟩
 |k+1=>by
  obtain⟨ih0,ih1⟩:=spec_l3Both.mono_l k;refine⟨?_,?_⟩
  ·intro y0 y1 y2 y3
   unfold spec_l3Both.l0;repeat' first
   |(with_reducible exact ih0 _ _ _ _)
   |(with_reducible exact ih1 _ _ _ _ _)
   |(with_reducible exact LeO.refl _)
   |(with_reducible exact LeO.none _)
   |(with_reducible refine LeO.ite ?_ ?_)
   |(with_reducible refine LeO.bind ?_ (fun _=> ?_))
   |exact ih0 _ _ _ _
   |exact ih1 _ _ _ _ _
   |exact LeO.none _
   |refine LeO.ite ?_ ?_
   |refine LeO.bind ?_ (fun _=> ?_)
  ·intro y0 y1 y2 y3 y4
   unfold spec_l3Both.j1;repeat' first
   |(with_reducible exact ih0 _ _ _ _)
   |(with_reducible exact ih1 _ _ _ _ _)
   |(with_reducible exact LeO.refl _)
   |(with_reducible exact LeO.none _)
   |(with_reducible refine LeO.ite ?_ ?_)
   |(with_reducible refine LeO.bind ?_ (fun _=> ?_))
   |exact ih0 _ _ _ _
   |exact ih1 _ _ _ _ _
   |exact LeO.none _
   |refine LeO.ite ?_ ?_
   |refine LeO.bind ?_ (fun _=> ?_)
theorem spec_l3Both.mono: ∀a0 a1 k,LeO (spec_l3Both.f k a0 a1) (spec_l3Both.f (k+1) a0 a1):=by
 intro a0 a1 k;obtain⟨ih0,ih1⟩:=spec_l3Both.mono_l k;unfold spec_l3Both.f
 repeat' first
   |(with_reducible exact ih0 _ _ _ _)
   |(with_reducible exact ih1 _ _ _ _ _)
   |(with_reducible exact LeO.refl _)
   |(with_reducible exact LeO.none _)
   |(with_reducible refine LeO.ite ?_ ?_)
   |(with_reducible refine LeO.bind ?_ (fun _=> ?_))
   |exact ih0 _ _ _ _
   |exact ih1 _ _ _ _ _
   |exact LeO.none _
   |refine LeO.ite ?_ ?_
   |refine LeO.bind ?_ (fun _=> ?_)
theorem spec_l3Both.calls (k:Nat) (a0:Int) (a1:Int) (r:Int) (w:World) (h:spec_l3Both.f k a0 a1=some r):
  Calls Try.prog 111 #[.int .i64 a0,.int .i64 a1] w fun e w'=>e= .returned (.int .i64 r)∧Below w.heap.size w w':=by
 have HB:=aS (Below.refl w.heap.size w);have H:(if a0<0 then(some a1)else(spec_l3Both.l0 k a0 a1 0 0))=some r:=h
 clear h;by_cases c3:a0<0
 ·rw[if_pos c3]at H
  have c3b0:decide (a0<0)=true:=decide_eq_true c3;clear c3;obtain rfl:=Option.some.inj H;go_enter Try.func111,Try.ntmps111
  go_wp2
  go_ret
  exact⟨by first|rfl|(simp[*]<;>rfl),by exact bU HB.out⟩
 ·rw[if_neg c3]at H
  have c3b0:decide (a0<0)=false:=decide_eq_false c3;clear c3;have H':=aS H;clear H;go_enter Try.func111,Try.ntmps111
  go_wp2
  go_loopg [5,6] k (fun kq v5 v6 w'=> ∃ (x5_1:Int) (x6_1:Int),v5= .int .i64 x5_1∧v6= .int .i64 x6_1∧Aside0 (spec_l3Both.l0 kq a0 a1 x5_1 x6_1=some r)∧Aside0 (kq≤k)∧Aside0 (Below w.heap.size w w'))
  case atStart=>exact⟨(0),(0),(by first|rfl|(simp;done)|(simp[*];done)),(by first|rfl|(simp;done)|(simp[*];done)),H',⟨Nat.le_refl _⟩,⟨by exact bU HB.out⟩⟩
  case round=>
   clear H';(try clear c1);(try clear p2);(try clear c3);(try clear c3b0)
   obtain⟨x5_1,x6_1,rfl,rfl,HA,HK1,HB⟩:=hrel;cases gk with
   |zero=>exact absurd HA.out (by simp[spec_l3Both.l0])
   |succ k1=>
    have H:=HA.out;clear HA;simp only[spec_l3Both.l0]at H
    by_cases c4:x6_1≤3
    ·rw[if_pos c4]at H
     have c4b0:decide (x6_1≤3)=true:=decide_eq_true c4;clear c4;have HC5:=aS H;clear H;go_upto_region 7 with (fail)
     go_cut [21] (fun v21 wc=> ∃ (kq:Nat) (x21_4:Bool),v21= .bool x21_4∧Aside0 (spec_l3Both.j1 kq a0 a1 x5_1 x6_1 x21_4=some r)∧Aside0 (kq≤k1)∧Aside0 (Below w.heap.size w wc))
     case first=>
      have H:=HC5.out;clear HC5;replace H:=Option.bind_eq_some_iff.mp H;obtain⟨t353,A60,H⟩:=H;replace H:(if t353=true then((spec_l3Has.f a1 x6_1).bind fun t354=>(spec_l3Both.j1 k1 a0 a1 x5_1 x6_1 t354))else(spec_l3Both.j1 k1 a0 a1 x5_1 x6_1 false))=some r:=H
      have A6:=aS A60;clear A60;by_cases c7:t353=true
      ·subst c7
       have H1:((spec_l3Has.f a1 x6_1).bind fun t354=>(spec_l3Both.j1 k1 a0 a1 x5_1 x6_1 t354))=some r:=by rw[if_pos rfl]at H;exact H
       clear H;have H:=H1;clear H1;replace H:=Option.bind_eq_some_iff.mp H;obtain⟨t354,A80,H⟩:=H;replace H:(spec_l3Both.j1 k1 a0 a1 x5_1 x6_1 t354)=some r:=H;have A8:=aS A80;clear A80;have H':=aS H;clear H;go_wp2_with (first|((with_reducible refine gate_callee (f:=82) rfl ?_);refine goesL_ (some 16) rfl rfl Try.func82 (by kernel_rfl) rfl #[.int .i64 a0,.int .i64 x6_1] rfl (by(try simp only[List.map_toArray,List.map_cons,List.map_nil])<;>rfl) ?_;(with_reducible refine(spec_l3Has.calls a0 x6_1 true _ A6.out).mono ?_);rintro e w9 ⟨rfl,hb⟩;refine⟨_,rfl,?_⟩;replace HB:=aS (below_step (by exact bU HB.out) hb);(try clear hb))|(go_at_call 82;(with_reducible refine(spec_l3Has.calls a1 x6_1 t354 _ A8.out).mono ?_);rintro e w10 ⟨rfl,hb⟩;replace HB:=aS (below_step (by exact bU HB.out) hb);(try clear hb)))
       go_meet
       case rel=>exact⟨_,(t354),(by first|rfl|(simp;done)|(simp[*];done)),H',⟨by have:=HK1.out;first|omega|exact Nat.le_refl _⟩,⟨by exact bU HB.out⟩⟩
      ·replace c7:=Bool.eq_false_iff.mpr c7
       subst c7;have H1:(spec_l3Both.j1 k1 a0 a1 x5_1 x6_1 false)=some r:=by rw[if_neg (show¬(false=true) by decide)]at H;exact H
       clear H;have H:=H1;clear H1;have H':=aS H;clear H;go_wp2_with (first|((with_reducible refine gate_callee (f:=82) rfl ?_);refine goesL_ (some 16) rfl rfl Try.func82 (by kernel_rfl) rfl #[.int .i64 a0,.int .i64 x6_1] rfl (by(try simp only[List.map_toArray,List.map_cons,List.map_nil])<;>rfl) ?_;(with_reducible refine(spec_l3Has.calls a0 x6_1 false _ A6.out).mono ?_);rintro e w11 ⟨rfl,hb⟩;refine⟨_,rfl,?_⟩;replace HB:=aS (below_step (by exact bU HB.out) hb);(try clear hb)))
       go_meet
       case rel=>exact⟨_,(false),(by first|rfl|(simp;done)|(simp[*];done)),H',⟨by have:=HK1.out;first|omega|exact Nat.le_refl _⟩,⟨by exact bU HB.out⟩⟩
     case rest=>
      clear HC5;(try clear c1);(try clear p2);(try clear c3);(try clear c3b0);(try clear c4);(try clear c4b0);(try clear c7);(try clear c8);(try clear c11);(try clear p2)
      obtain⟨kq,x21_4,rfl,HA,HJ4,HB⟩:=hcut;cases kq with
      |zero=>exact absurd HA.out (by simp[spec_l3Both.j1])
      |succ kj4=>
       have H:=HA.out;clear HA;simp only[spec_l3Both.j1]at H
       by_cases c12:x21_4=true
       ·subst c12
        have H1:((spec_l3Bit.f x6_1).bind fun t355=>(spec_l3Both.l0 kj4 a0 a1 (wrap64 (x5_1+t355)) (wrap64 (x6_1+1))))=some r:=by rw[if_pos rfl]at H;exact H
        clear H;have H:=H1;clear H1;replace H:=Option.bind_eq_some_iff.mp H;obtain⟨t355,A130,H⟩:=H;replace H:(spec_l3Both.l0 kj4 a0 a1 (wrap64 (x5_1+t355)) (wrap64 (x6_1+1)))=some r:=H;have A13:=aS A130;clear A130;have H':=aS H;clear H;go_wp2_with (first|((with_reducible refine gate_callee (f:=99) rfl ?_);refine goesL_ (some 24) rfl rfl Try.func99 (by kernel_rfl) rfl #[.int .i64 x6_1] rfl (by(try simp only[List.map_toArray,List.map_cons,List.map_nil])<;>rfl) ?_;(with_reducible refine(spec_l3Bit.calls x6_1 t355 _ A13.out).mono ?_);rintro e w14 ⟨rfl,hb⟩;refine⟨_,rfl,?_⟩;replace HB:=aS (below_step (by exact bU HB.out) hb);(try clear hb)))
        go_roundg kj4
        case measure=>have:=HK1.out;have:=HJ4.out;omega
        case rel=>exact⟨(wrap64 (x5_1+t355)),(wrap64 (x6_1+1)),(by first|rfl|(simp;done)|(simp[*];done)),(by first|rfl|(simp;done)|(simp[*];done)),H',⟨by have:=HK1.out;have:=HJ4.out;omega⟩,⟨by exact bU HB.out⟩⟩
       ·replace c12:=Bool.eq_false_iff.mpr c12
        subst c12;have H1:(spec_l3Both.l0 kj4 a0 a1 x5_1 (wrap64 (x6_1+1)))=some r:=by rw[if_neg (show¬(false=true) by decide)]at H;exact H
        clear H;have H:=H1;clear H1;have H':=aS H;clear H;go_wp2
        go_roundg kj4
        case measure=>have:=HK1.out;have:=HJ4.out;omega
        case rel=>exact⟨(x5_1),(wrap64 (x6_1+1)),(by first|rfl|(simp;done)|(simp[*];done)),(by first|rfl|(simp;done)|(simp[*];done)),H',⟨by have:=HK1.out;have:=HJ4.out;omega⟩,⟨by exact bU HB.out⟩⟩
    ·rw[if_neg c4]at H
     have c4b0:decide (x6_1≤3)=false:=decide_eq_false c4;clear c4;obtain rfl:=Option.some.inj H;go_wp2
     go_ret
     exact⟨by first|rfl|(simp[*]<;>rfl),by exact bU HB.out⟩
def spec_l3Merge.f (k:Nat) (l0:List Int) (a1:Int) (a2:Int):Option (Bool×List Int):=if a1≥(l0.length:Int)then(some (false,l0))else(if 0≤a1 then(if a1<(l0.length:Int)then((spec_l3Both.f k (rd l0 a1) a2).bind fun t357=>(if t357=(rd l0 a1)then(some (false,l0))else(some (true,(l0.set (a1:Int).toNat t357)))))else(none))else(none))
theorem spec_l3Merge.calls (k:Nat) (P0_:Nat→Prop) (u9000_:Value) (l0:List Int) (a1:Int) (a2:Int) (r1:Bool) (r2:List Int) (w0 w:World) (hB:Below w0.heap.size w0 w) (ho0:Kd.R (Kd.int .i64) 3 w w0.heap.size P0_ u9000_ l0) (h:spec_l3Merge.f k l0 a1 a2=some (r1,r2)):
  Calls Try.prog 106 #[u9000_,.int .i64 a1,.int .i64 a2] w fun e w'=>e= .returned (.bool r1)∧Kd.R (Kd.int .i64) 3 w' w0.heap.size (fun k_=>(P0_ k_∨w.heap.size≤k_)) u9000_ r2∧Below w0.heap.size w0 w'∧Kept w w' (fun k_=>P0_ k_):=by
 have HO0:=aS (show Kd.R (Kd.int .i64) 3 w w0.heap.size (fun k_=>(P0_ k_∨w.heap.size≤k_)) u9000_ l0 from Kd.R_mono ho0 (fun k_ hk=>(.inl hk)))
 have HK:=aS (Kept.refl w (fun k_=>P0_ k_))
 have HW0:=aS hB.size;have HB:=aS hB;clear hB;have H:(if a1≥(l0.length:Int)then(some (false,l0))else(if 0≤a1 then(if a1<(l0.length:Int)then((spec_l3Both.f k (rd l0 a1) a2).bind fun t357=>(if t357=(rd l0 a1)then(some (false,l0))else(some (true,(l0.set (a1:Int).toNat t357)))))else(none))else(none)))=some (r1,r2):=h
 clear h;by_cases c4:a1≥(l0.length:Int)
 ·rw[if_pos c4]at H
  have c4b0:decide ((l0.length:Int)≤a1)=true:=decide_eq_true c4;clear c4;simp only[Option.some.injEq,Prod.mk.injEq]at H
  obtain⟨rfl,rfl⟩:=H;obtain⟨Ao5,co5,eo5⟩:=Kd.R_slice HO0.out;subst eo5;go_enter Try.func106,Try.ntmps106
  go_wp2
  go_ret
  exact⟨by first|rfl|(simp[*]<;>rfl),by exact rU HO0.out,by exact bU HB.out,by repeat(with_reducible first|exact HK.out|apply Kept.alloc|apply Kept.drewN|apply Kept.drew)⟩
 ·rw[if_neg c4]at H
  have c4b0:decide ((l0.length:Int)≤a1)=false:=decide_eq_false c4;clear c4;by_cases c6:0≤a1
  ·rw[if_pos c6]at H
   have c6b0:decide (0≤a1)=true:=decide_eq_true c6;clear c6;by_cases c7:a1<(l0.length:Int)
   ·rw[if_pos c7]at H
    have c7b0:decide (a1<(l0.length:Int))=true:=decide_eq_true c7;clear c7;replace H:=Option.bind_eq_some_iff.mp H;obtain⟨t357,A80,H⟩:=H;replace H:(if t357=(rd l0 a1)then(some (false,l0))else(some (true,(l0.set (a1:Int).toNat t357))))=some (r1,r2):=H
    have A8:=aS A80;clear A80;by_cases c9:t357=(rd l0 a1)
    ·rw[if_pos c9]at H
     have c9b0:(t357==(rd l0 a1))=true:=beq_iff_eq.mpr c9;have c9b1:(t357 !=(rd l0 a1))=false:=bne_eq_false_iff_eq.mpr c9;clear c9;simp only[Option.some.injEq,Prod.mk.injEq]at H
     obtain⟨rfl,rfl⟩:=H;obtain⟨Ao10,co10,eo10⟩:=Kd.R_slice HO0.out;subst eo10;have p356:0≤(a1:Int):=of_decide_eq_true (by assumption)
     have q356:a1<(l0.length:Int):=of_decide_eq_true (by assumption)
     obtain⟨ad356,e356,hx356_0⟩:=Kd.at_int (Kd.R_reads' HO0.out).2.2 a1 p356 q356;cases e356
     replace p356:=eq_true p356;replace q356:=eq_true q356;go_enter Try.func106,Try.ntmps106
     go_wp2_with (first|((with_reducible refine gate_callee (f:=111) rfl ?_);refine goesL_ (some 17) rfl rfl Try.func111 (by kernel_rfl) rfl #[.int .i64 (rd l0 a1),.int .i64 a2] rfl (by(try simp only[List.map_toArray,List.map_cons,List.map_nil])<;>rfl) ?_;(with_reducible refine(spec_l3Both.calls k (rd l0 a1) a2 t357 _ A8.out).mono ?_);rintro e w11 ⟨rfl,hb⟩;refine⟨_,rfl,?_⟩;replace HO0:=aS (Kd.R_below (by exact rU HO0.out) hb);replace HK:=aS (Kept.below (S:=(fun k_=>P0_ k_)) (by repeat(with_reducible first|exact HK.out|apply Kept.alloc|apply Kept.drewN|apply Kept.drew)) hb);replace HB:=aS (below_step (by exact bU HB.out) hb);(try clear hb);have p358:0≤(a1:Int):=of_decide_eq_true (by assumption);have q358:a1<(l0.length:Int):=of_decide_eq_true (by assumption);obtain⟨ad358,e358,hx358_0⟩:=Kd.at_int (Kd.R_reads' HO0.out).2.2 a1 p358 q358;obtain rfl:ad356=ad358:=(by injection e358);replace p358:=eq_true p358;replace q358:=eq_true q358))
     go_ret
     exact⟨by first|rfl|(simp[*]<;>rfl),by exact rU HO0.out,by exact bU HB.out,by repeat(with_reducible first|exact HK.out|apply Kept.alloc|apply Kept.drewN|apply Kept.drew)⟩
    ·rw[if_neg c9]at H
     have c9b0:(t357==(rd l0 a1))=false:=beq_eq_false_iff_ne.mpr c9;have c9b1:(t357 !=(rd l0 a1))=true:=bne_iff_ne.mpr c9;obtain⟨y359,hy359⟩: ∃y_:List Int,y_=(l0.set (a1:Int).toNat t357):=⟨_,rfl⟩;replace H:(some (true,y359))=some (r1,r2):=by first|(rw[hy359];with_reducible exact H)|(have H2_:=(Option.bind_some _ _).symm.trans H;rw[hy359];with_reducible exact H2_)|(have H2_:=(Option.bind_some _ _).symm.trans H;with_reducible exact H2_)|with_reducible exact H|(rw[hy359];exact H)|exact H
     have Ny359:=aS hy359;clear hy359;simp only[Option.some.injEq,Prod.mk.injEq]at H
     obtain⟨rfl,rfl⟩:=H;obtain⟨Ao13,co13,eo13⟩:=Kd.R_slice HO0.out;subst eo13;have p356:0≤(a1:Int):=of_decide_eq_true (by assumption)
     have q356:a1<(l0.length:Int):=of_decide_eq_true (by assumption)
     obtain⟨ad356,e356,hx356_0⟩:=Kd.at_int (Kd.R_reads' HO0.out).2.2 a1 p356 q356;cases e356
     replace p356:=eq_true p356;replace q356:=eq_true q356;go_enter Try.func106,Try.ntmps106
     go_wp2_with (first|((with_reducible refine gate_callee (f:=111) rfl ?_);refine goesL_ (some 17) rfl rfl Try.func111 (by kernel_rfl) rfl #[.int .i64 (rd l0 a1),.int .i64 a2] rfl (by(try simp only[List.map_toArray,List.map_cons,List.map_nil])<;>rfl) ?_;(with_reducible refine(spec_l3Both.calls k (rd l0 a1) a2 t357 _ A8.out).mono ?_);rintro e w14 ⟨rfl,hb⟩;refine⟨_,rfl,?_⟩;replace HO0:=aS (Kd.R_below (by exact rU HO0.out) hb);replace HK:=aS (Kept.below (S:=(fun k_=>P0_ k_)) (by repeat(with_reducible first|exact HK.out|apply Kept.alloc|apply Kept.drewN|apply Kept.drew)) hb);replace HB:=aS (below_step (by exact bU HB.out) hb);(try clear hb);have p358:0≤(a1:Int):=of_decide_eq_true (by assumption);have q358:a1<(l0.length:Int):=of_decide_eq_true (by assumption);obtain⟨ad358,e358,hx358_0⟩:=Kd.at_int (Kd.R_reads' HO0.out).2.2 a1 p358 q358;obtain rfl:ad356=ad358:=(by injection e358);replace p358:=eq_true p358;replace q358:=eq_true q358;have p12:0≤(a1:Int):=of_decide_eq_true (by assumption);have q12:(a1:Int)<((l0.length:Int):Int):=of_decide_eq_true (by assumption);obtain⟨go12,co12,eo12,gb12,gl12,cl12,HG12⟩:=Kd.R_form HO0.out (by omega);(first|cases eo12|(injection eo12 with ea_ en_ ec_;(first|subst ea_|(injection ea_ with ea_;subst ea_));subst ec_;clear en_));have GB12:=aS gb12;have GG12:=aS HG12;clear gb12 gl12 HG12;have HMgo12:=aS (show(P0_ go12∨w.heap.size≤go12)from(HO0.out.1 _ rfl));(first|simp only[add_plain]at hx356_0|skip);(first|simp only[add_plain]at hx358_0|skip);obtain⟨hx12_0,hf12_0⟩:=Kd.R_celln 0 HO0.out (a1:Int) p12 q12;replace p12:=eq_true p12;replace q12:=eq_true q12;obtain⟨hy15_,hz15_⟩:=Kd.R_celln 0 HO0.out (a1:Int) (of_decide_eq_true (by assumption)) (of_decide_eq_true (by assumption));have HP15:=Kd.R_putg HO0.out (a1:Int) t357)|((with_reducible refine gate_store (t:=3) (p:=27) rfl ?_);refine store_event (t:=3) (p:=27) (v:= ?vo_w16) (w1:=(w14.setCell ⟨go12,(a1:Int).toNat,none⟩ (.int .i64 t357))) ?hg ?ho ?hn ?hr ?_;(case ho=>rfl);(case hg=>rfl);(case hn=>rfl);(case hr=>go_simp<;>rfl);intro w16 hw;have hg:w14.grownBy w16 (some go12):=(by rw[hw];exact HP15.2);have hp_:Kd.R (Kd.int .i64) 3 w16 w0.heap.size (fun k_=>(P0_ k_∨w.heap.size≤k_)) (.slice (some ⟨go12,0,none⟩) l0.length co13) y359:=(by rw[hw,Ny359.out];exact HP15.1);clear HP15;have n0_:=aS (hp_);have n1_:=aS ((by rw[hw];exact below_set (HB.out) GB12.out:Below w0.heap.size w0 w16));have n2_:=aS (Kept.of_grown (S:=(fun k_=>P0_ k_)) hg (by repeat(with_reducible first|exact HK.out|apply Kept.alloc|apply Kept.drewN|apply Kept.drew)) (fun k_ e_=>(HO0.out.1 k_ e_)));clear HO0;clear HB;clear HK;have HO0:=n0_;have HB:=n1_;have HK:=n2_;clear n0_ n1_ n2_;clear hg hw hp_))
     go_ret
     exact⟨by first|rfl|(simp[*]<;>rfl),by exact rU HO0.out,by exact bU HB.out,by repeat(with_reducible first|exact HK.out|apply Kept.alloc|apply Kept.drewN|apply Kept.drew)⟩
   ·rw[if_neg c7]at H
    exact absurd H (by simp)
  ·rw[if_neg c6]at H
   exact absurd H (by simp)
end Go.Proofs.Ytmklpbmlgjkbiaa.PS
end
section
namespace Go.Proofs.Ytmklpbmlgjkbiaa.PS
open Go.RowKit Go.Proofs.YtmklpbmlgjkbiaaW.PrintWords Go.Proofs.YtmklpbmlgjkbiaaW.PrintLast Go.Proofs.YtmklpbmlgjkbiaaW.PrintMore
attribute [local go_sem] max2_int min2_int max_two min_two max_three min_three max_four min_four   -- for this text's walks alone
mutual
def spec_l3From.j0:Nat→List Int→Int→Int→Int→Int→Int→Int→Int→Int→Int→Option (Bool×List Int)
 |0,_,_,_,_,_,_,_,_,_,_=>none
 |k+1,x1,x2,x8,x9,x362000,x362001,x362002,x362003,x362004,x362005=>if x362000=5 then((spec_l3Merge.f k x1 x362003 1).bind fun bt365=>(spec_l3From.j2 k bt365.2 x2 x9 bt365.1))else(if x362000=9 then((spec_l3Merge.f k x1 x362003 x8).bind fun bt367=>(some (bt367.1,bt367.2)))else(if x362000=8 then(spec_l3From.j1 k x1 x2 x8 x9 false x362000 (x362000==8) x362000 x362001 x362002 x362003 x362004 x362005)else(spec_l3From.j1 k x1 x2 x8 x9 false x362000 (x362000==10) x362000 x362001 x362002 x362003 x362004 x362005)))
def spec_l3From.j2:Nat→List Int→Int→Int→Bool→Option (Bool×List Int)
 |0,_,_,_,_=>none
 |k+1,x1,x2,x9,x10=>(spec_l3Merge.f k x1 (wrap64 (x2+1)) x9).bind fun bt371=>(if bt371.1=true then(some (true,bt371.2))else(some (x10,bt371.2)))
def spec_l3From.j1:Nat→List Int→Int→Int→Int→Bool→Int→Bool→Int→Int→Int→Int→Int→Int→Option (Bool×List Int)
 |0,_,_,_,_,_,_,_,_,_,_,_,_,_=>none
 |k+1,x1,x2,x8,x9,x10,x28,x42,x362000,x362001,x362002,x362003,x362004,x362005=>if x42=true then((spec_l3Merge.f k x1 x362003 x8).bind fun bt369=>(spec_l3From.j2 k bt369.2 x2 x9 bt369.1))else(if x28=14 then(some (false,x1))else(spec_l3From.j2 k x1 x2 x9 x10))
end
def spec_l3From.f (k:Nat) (l0:List (S29)) (l1:List Int) (a2:Int):Option (Bool×List Int):=if 0≤a2 then(if a2<(l0.length:Int)then(if a2<(l1.length:Int)then((spec_l3Fills.f ((rd_T29 l0 a2).f0)).bind fun t363=>(if t363=true then((spec_l3With.f (rd l1 a2) ((rd_T29 l0 a2).f1)).bind fun t364=>(spec_l3From.j0 k l1 a2 (rd l1 a2) t364 ((rd_T29 l0 a2).f0) ((rd_T29 l0 a2).f1) ((rd_T29 l0 a2).f2) ((rd_T29 l0 a2).f3) ((rd_T29 l0 a2).f4.f0) ((rd_T29 l0 a2).f4.f1)))else(spec_l3From.j0 k l1 a2 (rd l1 a2) (rd l1 a2) ((rd_T29 l0 a2).f0) ((rd_T29 l0 a2).f1) ((rd_T29 l0 a2).f2) ((rd_T29 l0 a2).f3) ((rd_T29 l0 a2).f4.f0) ((rd_T29 l0 a2).f4.f1))))else(none))else(none))else(none)
theorem spec_l3From.calls (k:Nat) (A0:Option Addr) (c0:Nat) (l0:List (S29)) (P1_:Nat→Prop) (u9000_:Value) (l1:List Int) (a2:Int) (r1:Bool) (r2:List Int) (w0 w:World) (hB:Below w0.heap.size w0 w) (hr0: ∀W_,Kept w W_ (fun k_=>P1_ k_)→Kd.C k29 W_ A0 l0.length l0) (hc0:l0.length≤c0) (ho1:Kd.R (Kd.int .i64) 3 w w0.heap.size P1_ u9000_ l1) (h:spec_l3From.f k l0 l1 a2=some (r1,r2)):
  Calls Try.prog 98 #[.slice A0 l0.length c0,u9000_,.int .i64 a2] w fun e w'=>e= .returned (.bool r1)∧Kd.R (Kd.int .i64) 3 w' w0.heap.size (fun k_=>(P1_ k_∨w.heap.size≤k_)) u9000_ r2∧Below w0.heap.size w0 w'∧Kept w w' (fun k_=>P1_ k_):=by
 have hu29:=Try.underlying29;have HR0:=aS hr0;have HC0:=aS hc0;clear hr0 hc0;have HO1:=aS (show Kd.R (Kd.int .i64) 3 w w0.heap.size (fun k_=>(P1_ k_∨w.heap.size≤k_)) u9000_ l1 from Kd.R_mono ho1 (fun k_ hk=>(.inl hk)))
 have HK:=aS (Kept.refl w (fun k_=>P1_ k_))
 have HW0:=aS hB.size;have HB:=aS hB;clear hB;have H:(if 0≤a2 then(if a2<(l0.length:Int)then(if a2<(l1.length:Int)then((spec_l3Fills.f ((rd_T29 l0 a2).f0)).bind fun t363=>(if t363=true then((spec_l3With.f (rd l1 a2) ((rd_T29 l0 a2).f1)).bind fun t364=>(spec_l3From.j0 k l1 a2 (rd l1 a2) t364 ((rd_T29 l0 a2).f0) ((rd_T29 l0 a2).f1) ((rd_T29 l0 a2).f2) ((rd_T29 l0 a2).f3) ((rd_T29 l0 a2).f4.f0) ((rd_T29 l0 a2).f4.f1)))else(spec_l3From.j0 k l1 a2 (rd l1 a2) (rd l1 a2) ((rd_T29 l0 a2).f0) ((rd_T29 l0 a2).f1) ((rd_T29 l0 a2).f2) ((rd_T29 l0 a2).f3) ((rd_T29 l0 a2).f4.f0) ((rd_T29 l0 a2).f4.f1))))else(none))else(none))else(none))=some (r1,r2):=h
 clear h;by_cases c4:0≤a2
 ·rw[if_pos c4]at H
  have c4b0:decide (0≤a2)=true:=decide_eq_true c4;clear c4;by_cases c5:a2<(l0.length:Int)
  ·rw[if_pos c5]at H
   have c5b0:decide (a2<(l0.length:Int))=true:=decide_eq_true c5;clear c5;by_cases c6:a2<(l1.length:Int)
   ·rw[if_pos c6]at H
    have c6b0:decide (a2<(l1.length:Int))=true:=decide_eq_true c6;clear c6;replace H:=Option.bind_eq_some_iff.mp H;obtain⟨t363,A70,H⟩:=H;replace H:(if t363=true then((spec_l3With.f (rd l1 a2) ((rd_T29 l0 a2).f1)).bind fun t364=>(spec_l3From.j0 k l1 a2 (rd l1 a2) t364 ((rd_T29 l0 a2).f0) ((rd_T29 l0 a2).f1) ((rd_T29 l0 a2).f2) ((rd_T29 l0 a2).f3) ((rd_T29 l0 a2).f4.f0) ((rd_T29 l0 a2).f4.f1)))else(spec_l3From.j0 k l1 a2 (rd l1 a2) (rd l1 a2) ((rd_T29 l0 a2).f0) ((rd_T29 l0 a2).f1) ((rd_T29 l0 a2).f2) ((rd_T29 l0 a2).f3) ((rd_T29 l0 a2).f4.f0) ((rd_T29 l0 a2).f4.f1)))=some (r1,r2):=H
    have A7:=aS A70;clear A70;have HC8:=aS H;clear H;have p360:0≤(a2:Int):=of_decide_eq_true (by assumption)
    have q360:a2<(l0.length:Int):=of_decide_eq_true (by assumption)
    obtain⟨ad360,e360,hx360_0,hx360_1,hx360_2,hx360_3,hx360_4,hx360_5⟩:=at_T29 (Kd.C_kept_now HR0.out HK.out) a2 p360 q360;cases e360
    replace p360:=eq_true p360;replace q360:=eq_true q360;go_enter Try.func98,Try.ntmps98
    go_upto_if 22 with (first|((with_reducible refine gate_dst (N:=7) rfl ?_);refine box_event ?hg (N:=7) ?hd (cs:= #[.int .i64 0,.int .i64 0,.int .i64 0,.int .i64 0,.int .i64 0,.int .i64 0]) (t:=29) ?hr ?_;(case hd=>rfl);(case hg=>rfl);(case hr=>go_simp<;>rfl);intro gb361 hg w9 hbox hb;have n0_:=aS (Kd.R_below (by exact rU HO1.out) hb);have n1_:=aS (Kept.below (S:=(fun k_=>P1_ k_)) (by repeat(with_reducible first|exact HK.out|apply Kept.alloc|apply Kept.drewN|apply Kept.drew)) hb);have n2_:=aS (below_step (by exact bU HB.out) hb);have n3_:=aS (hbox);have n4_:=aS ((by rw[hg];exact(by first|exact HK.out.1|exact(show Kept w _ (fun k_=>P1_ k_)from by repeat(with_reducible first|exact HK.out|apply Kept.alloc|apply Kept.drewN|apply Kept.drew)).1):w.heap.size≤gb361));have n5_:=aS ((by rw[hg];exact(below_size (by exact bU HB.out)):w0.heap.size≤gb361));clear HO1;clear HK;clear HB;have HO1:=n0_;have HK:=n1_;have HB:=n2_;have BK361:=n3_;have GW361:=n4_;have GE361:=n5_;clear n0_ n1_ n2_ n3_ n4_ n5_;clear hb hbox hg;obtain⟨hcz10_0,hcz10_1,hcz10_2,hcz10_3,hcz10_4,hcz10_5⟩:=six_cells BK361.out;obtain⟨hfz10_0,hfz10_1,hfz10_2,hfz10_3,hfz10_4,hfz10_5⟩:=six_marks BK361.out;obtain⟨Ao11,co11,eo11⟩:=Kd.R_slice HO1.out;subst eo11;have p362:0≤(a2:Int):=of_decide_eq_true (by assumption);have q362:a2<(l1.length:Int):=of_decide_eq_true (by assumption);obtain⟨ad362,e362,hx362_0⟩:=Kd.at_int (Kd.R_reads' HO1.out).2.2 a2 p362 q362;cases e362;have hn362_0:ad362.block≠gb361:=Kd.own_blk (Kd.R_ne HO1.out BK361.out (by decide));have hn362_1:ad362.block≠gb361:=Kd.own_blk (Kd.R_ne HO1.out BK361.out (by decide));have hn362_2:ad362.block≠gb361:=Kd.own_blk (Kd.R_ne HO1.out BK361.out (by decide));have hn362_3:ad362.block≠gb361:=Kd.own_blk (Kd.R_ne HO1.out BK361.out (by decide));have hn362_4:ad362.block≠gb361:=Kd.own_blk (Kd.R_ne HO1.out BK361.out (by decide));have hn362_5:ad362.block≠gb361:=Kd.own_blk (Kd.R_ne HO1.out BK361.out (by decide));replace hx362_0:=(cell_far (p:=⟨gb361,0,none⟩) (by first|(rw[add_block];exact hn362_0)|(show(Addr.add _ _).block≠_;rw[add_block];exact hn362_0)|exact hn362_0) (.int .i64 ((rd_T29 l0 a2).f0))).trans hx362_0;replace hx362_0:=(cell_far (p:=⟨gb361,1,none⟩) (by first|(rw[add_block];exact hn362_1)|(show(Addr.add _ _).block≠_;rw[add_block];exact hn362_1)|exact hn362_1) (.int .i64 ((rd_T29 l0 a2).f1))).trans hx362_0;replace hx362_0:=(cell_far (p:=⟨gb361,2,none⟩) (by first|(rw[add_block];exact hn362_2)|(show(Addr.add _ _).block≠_;rw[add_block];exact hn362_2)|exact hn362_2) (.int .i64 ((rd_T29 l0 a2).f2))).trans hx362_0;replace hx362_0:=(cell_far (p:=⟨gb361,3,none⟩) (by first|(rw[add_block];exact hn362_3)|(show(Addr.add _ _).block≠_;rw[add_block];exact hn362_3)|exact hn362_3) (.int .i64 ((rd_T29 l0 a2).f3))).trans hx362_0;replace hx362_0:=(cell_far (p:=⟨gb361,4,none⟩) (by first|(rw[add_block];exact hn362_4)|(show(Addr.add _ _).block≠_;rw[add_block];exact hn362_4)|exact hn362_4) (.int .i64 ((rd_T29 l0 a2).f4.f0))).trans hx362_0;replace hx362_0:=(cell_far (p:=⟨gb361,5,none⟩) (by first|(rw[add_block];exact hn362_5)|(show(Addr.add _ _).block≠_;rw[add_block];exact hn362_5)|exact hn362_5) (.int .i64 ((rd_T29 l0 a2).f4.f1))).trans hx362_0;clear hn362_0;clear hn362_1;clear hn362_2;clear hn362_3;clear hn362_4;clear hn362_5;replace p362:=eq_true p362;replace q362:=eq_true q362)|((with_reducible refine gate_callee (f:=104) rfl ?_);refine goesL_ (some 22) rfl rfl Try.func104 (by kernel_rfl) rfl #[.int .i64 ((rd_T29 l0 a2).f0)] rfl (by(try simp only[List.map_toArray,List.map_cons,List.map_nil])<;>rfl) ?_;(with_reducible refine(spec_l3Fills.calls ((rd_T29 l0 a2).f0) t363 _ A7.out).mono ?_);rintro e w' ⟨rfl,⟨nd,rfl⟩⟩;refine⟨_,rfl,?_⟩))
    (try simp only[Act.put,List.setIfInBounds_toArray,List.set_cons_zero,List.set_cons_succ])
    go_cut [9] (fun v9 wc=> ∃ (kq:Nat) (x9_7:Int),v9= .int .i64 x9_7∧Aside0 (spec_l3From.j0 kq l1 a2 (rd l1 a2) x9_7 ((rd_T29 l0 a2).f0) ((rd_T29 l0 a2).f1) ((rd_T29 l0 a2).f2) ((rd_T29 l0 a2).f3) ((rd_T29 l0 a2).f4.f0) ((rd_T29 l0 a2).f4.f1)=some (r1,r2))∧Aside0 (kq≤k)∧Aside0 (Kd.R (Kd.int .i64) 3 wc w0.heap.size (fun k_=>(P1_ k_∨w.heap.size≤k_)) (.slice (some ad362) l1.length co11) l1)∧Aside0 (wc.heap[gb361]?=some (.cells #[.int .i64 ((rd_T29 l0 a2).f0),.int .i64 ((rd_T29 l0 a2).f1),.int .i64 ((rd_T29 l0 a2).f2),.int .i64 ((rd_T29 l0 a2).f3),.int .i64 ((rd_T29 l0 a2).f4.f0),.int .i64 ((rd_T29 l0 a2).f4.f1)] 29 (0,0)))∧Aside0 (Kept w wc (fun k_=>P1_ k_))∧Aside0 (Below w0.heap.size w0 wc))
    case first=>
     have H:=HC8.out;clear HC8;by_cases c12:t363=true
     ·subst c12
      have H1:((spec_l3With.f (rd l1 a2) ((rd_T29 l0 a2).f1)).bind fun t364=>(spec_l3From.j0 k l1 a2 (rd l1 a2) t364 ((rd_T29 l0 a2).f0) ((rd_T29 l0 a2).f1) ((rd_T29 l0 a2).f2) ((rd_T29 l0 a2).f3) ((rd_T29 l0 a2).f4.f0) ((rd_T29 l0 a2).f4.f1)))=some (r1,r2):=by rw[if_pos rfl]at H;exact H
      clear H;have H:=H1;clear H1;replace H:=Option.bind_eq_some_iff.mp H;obtain⟨t364,A130,H⟩:=H;replace H:(spec_l3From.j0 k l1 a2 (rd l1 a2) t364 ((rd_T29 l0 a2).f0) ((rd_T29 l0 a2).f1) ((rd_T29 l0 a2).f2) ((rd_T29 l0 a2).f3) ((rd_T29 l0 a2).f4.f0) ((rd_T29 l0 a2).f4.f1))=some (r1,r2):=H;have A13:=aS A130;clear A130;have H':=aS H;clear H;have hcz14_0:w9.cell? ⟨gb361,0,none⟩=some (.int .i64 0):=(blk_cell BK361.out 0).trans rfl;have hcz14_1:w9.cell? ⟨gb361,1,none⟩=some (.int .i64 0):=(blk_cell BK361.out 1).trans rfl;have hcz14_2:w9.cell? ⟨gb361,2,none⟩=some (.int .i64 0):=(blk_cell BK361.out 2).trans rfl;have hcz14_3:w9.cell? ⟨gb361,3,none⟩=some (.int .i64 0):=(blk_cell BK361.out 3).trans rfl;have hcz14_4:w9.cell? ⟨gb361,4,none⟩=some (.int .i64 0):=(blk_cell BK361.out 4).trans rfl;have hcz14_5:w9.cell? ⟨gb361,5,none⟩=some (.int .i64 0):=(blk_cell BK361.out 5).trans rfl;have hfz14_0:=blk_frozen BK361.out 0;have hfz14_1:=blk_frozen BK361.out 1;have hfz14_2:=blk_frozen BK361.out 2;have hfz14_3:=blk_frozen BK361.out 3;have hfz14_4:=blk_frozen BK361.out 4;have hfz14_5:=blk_frozen BK361.out 5;go_wp2_with (first|((with_reducible refine gate_callee (f:=105) rfl ?_);refine goesL_ (some 26) rfl rfl Try.func105 (by kernel_rfl) rfl #[.int .i64 (rd l1 a2),.int .i64 ((rd_T29 l0 a2).f1)] rfl (by(try simp only[List.map_toArray,List.map_cons,List.map_nil])<;>rfl) ?_;(with_reducible refine(spec_l3With.calls (rd l1 a2) ((rd_T29 l0 a2).f1) t364 _ A13.out).mono ?_);rintro e w15 ⟨rfl,hb⟩;refine⟨_,rfl,?_⟩;replace HO1:=aS (Kd.R_below (by(with_reducible repeat(first|apply rA|apply rN|apply rD));exact(Kd.R_mono (Kd.R_far (p:=⟨gb361,5,none⟩) (Kd.R_far (p:=⟨gb361,4,none⟩) (Kd.R_far (p:=⟨gb361,3,none⟩) (Kd.R_far (p:=⟨gb361,2,none⟩) (Kd.R_far (p:=⟨gb361,1,none⟩) (Kd.R_far (p:=⟨gb361,0,none⟩) (Kd.R_types HO1.out BK361.out (by decide)) (fun _ hk=>hk.2) (.int .i64 ((rd_T29 l0 a2).f0))) (fun _ hk=>hk.2) (.int .i64 ((rd_T29 l0 a2).f1))) (fun _ hk=>hk.2) (.int .i64 ((rd_T29 l0 a2).f2))) (fun _ hk=>hk.2) (.int .i64 ((rd_T29 l0 a2).f3))) (fun _ hk=>hk.2) (.int .i64 ((rd_T29 l0 a2).f4.f0))) (fun _ hk=>hk.2) (.int .i64 ((rd_T29 l0 a2).f4.f1))) (fun _ h_=>h_.1))) hb);replace BK361:=aS (blk_below (g:=gb361) (o:=.cells #[.int .i64 ((rd_T29 l0 a2).f0),.int .i64 ((rd_T29 l0 a2).f1),.int .i64 ((rd_T29 l0 a2).f2),.int .i64 ((rd_T29 l0 a2).f3),.int .i64 ((rd_T29 l0 a2).f4.f0),.int .i64 ((rd_T29 l0 a2).f4.f1)] 29 (0,0)) (by refine kU ?_;refine blk_put (cs:= #[.int .i64 ((rd_T29 l0 a2).f0),.int .i64 ((rd_T29 l0 a2).f1),.int .i64 ((rd_T29 l0 a2).f2),.int .i64 ((rd_T29 l0 a2).f3),.int .i64 ((rd_T29 l0 a2).f4.f0),.int .i64 0]) ?_ 5 _ rfl;refine kU ?_;refine blk_put (cs:= #[.int .i64 ((rd_T29 l0 a2).f0),.int .i64 ((rd_T29 l0 a2).f1),.int .i64 ((rd_T29 l0 a2).f2),.int .i64 ((rd_T29 l0 a2).f3),.int .i64 0,.int .i64 0]) ?_ 4 _ rfl;refine kU ?_;refine blk_put (cs:= #[.int .i64 ((rd_T29 l0 a2).f0),.int .i64 ((rd_T29 l0 a2).f1),.int .i64 ((rd_T29 l0 a2).f2),.int .i64 0,.int .i64 0,.int .i64 0]) ?_ 3 _ rfl;refine kU ?_;refine blk_put (cs:= #[.int .i64 ((rd_T29 l0 a2).f0),.int .i64 ((rd_T29 l0 a2).f1),.int .i64 0,.int .i64 0,.int .i64 0,.int .i64 0]) ?_ 2 _ rfl;refine kU ?_;refine blk_put (cs:= #[.int .i64 ((rd_T29 l0 a2).f0),.int .i64 0,.int .i64 0,.int .i64 0,.int .i64 0,.int .i64 0]) ?_ 1 _ rfl;refine kU ?_;refine blk_put (cs:= #[.int .i64 0,.int .i64 0,.int .i64 0,.int .i64 0,.int .i64 0,.int .i64 0]) ?_ 0 _ rfl;exact blkU BK361.out) hb);replace HK:=aS (Kept.below (S:=(fun k_=>P1_ k_)) (by repeat(with_reducible first|exact HK.out|apply Kept.alloc|apply Kept.drewN|apply Kept.drew|refine Kept.setCell ?_ (.inr GW361.out) _)) hb);replace HB:=aS (below_step (by repeat(with_reducible first|exact HB.out|apply bA|apply bN|apply b1|refine below_set ?_ GE361.out)) hb);(try clear hb)))
      go_meet
      case rel=>exact⟨_,(t364),(by first|rfl|(simp;done)|(simp[*];done)),H',⟨by first|omega|exact Nat.le_refl _⟩,⟨by exact rU HO1.out⟩,⟨by exact blkU BK361.out⟩,⟨by repeat(with_reducible first|exact HK.out|apply Kept.alloc|apply Kept.drewN|apply Kept.drew|refine Kept.setCell ?_ (.inr GW361.out) _)⟩,⟨by repeat(with_reducible first|exact HB.out|apply bA|apply bN|apply b1|refine below_set ?_ GE361.out)⟩⟩
     ·replace c12:=Bool.eq_false_iff.mpr c12
      subst c12;have H1:(spec_l3From.j0 k l1 a2 (rd l1 a2) (rd l1 a2) ((rd_T29 l0 a2).f0) ((rd_T29 l0 a2).f1) ((rd_T29 l0 a2).f2) ((rd_T29 l0 a2).f3) ((rd_T29 l0 a2).f4.f0) ((rd_T29 l0 a2).f4.f1))=some (r1,r2):=by rw[if_neg (show¬(false=true) by decide)]at H;exact H
      clear H;have H:=H1;clear H1;have H':=aS H;clear H;go_wp2
      go_meet
      case rel=>exact⟨_,(rd l1 a2),(by first|rfl|(simp;done)|(simp[*];done)),H',⟨by first|omega|exact Nat.le_refl _⟩,⟨by(with_reducible repeat(first|apply rA|apply rN|apply rD));exact Kd.R_mono (Kd.R_far (p:=⟨gb361,5,none⟩) (Kd.R_far (p:=⟨gb361,4,none⟩) (Kd.R_far (p:=⟨gb361,3,none⟩) (Kd.R_far (p:=⟨gb361,2,none⟩) (Kd.R_far (p:=⟨gb361,1,none⟩) (Kd.R_far (p:=⟨gb361,0,none⟩) (Kd.R_types HO1.out BK361.out (by decide)) (fun _ hk=>hk.2) (.int .i64 ((rd_T29 l0 a2).f0))) (fun _ hk=>hk.2) (.int .i64 ((rd_T29 l0 a2).f1))) (fun _ hk=>hk.2) (.int .i64 ((rd_T29 l0 a2).f2))) (fun _ hk=>hk.2) (.int .i64 ((rd_T29 l0 a2).f3))) (fun _ hk=>hk.2) (.int .i64 ((rd_T29 l0 a2).f4.f0))) (fun _ hk=>hk.2) (.int .i64 ((rd_T29 l0 a2).f4.f1))) (fun _ hk=>hk.1)⟩,⟨by refine kU ?_;refine blk_put (cs:= #[.int .i64 ((rd_T29 l0 a2).f0),.int .i64 ((rd_T29 l0 a2).f1),.int .i64 ((rd_T29 l0 a2).f2),.int .i64 ((rd_T29 l0 a2).f3),.int .i64 ((rd_T29 l0 a2).f4.f0),.int .i64 0]) ?_ 5 _ rfl;refine kU ?_;refine blk_put (cs:= #[.int .i64 ((rd_T29 l0 a2).f0),.int .i64 ((rd_T29 l0 a2).f1),.int .i64 ((rd_T29 l0 a2).f2),.int .i64 ((rd_T29 l0 a2).f3),.int .i64 0,.int .i64 0]) ?_ 4 _ rfl;refine kU ?_;refine blk_put (cs:= #[.int .i64 ((rd_T29 l0 a2).f0),.int .i64 ((rd_T29 l0 a2).f1),.int .i64 ((rd_T29 l0 a2).f2),.int .i64 0,.int .i64 0,.int .i64 0]) ?_ 3 _ rfl;refine kU ?_;refine blk_put (cs:= #[.int .i64 ((rd_T29 l0 a2).f0),.int .i64 ((rd_T29 l0 a2).f1),.int .i64 0,.int .i64 0,.int .i64 0,.int .i64 0]) ?_ 2 _ rfl;refine kU ?_;refine blk_put (cs:= #[.int .i64 ((rd_T29 l0 a2).f0),.int .i64 0,.int .i64 0,.int .i64 0,.int .i64 0,.int .i64 0]) ?_ 1 _ rfl;refine kU ?_;refine blk_put (cs:= #[.int .i64 0,.int .i64 0,.int .i64 0,.int .i64 0,.int .i64 0,.int .i64 0]) ?_ 0 _ rfl;exact blkU BK361.out⟩,⟨by repeat(with_reducible first|exact HK.out|apply Kept.alloc|apply Kept.drewN|apply Kept.drew|refine Kept.setCell ?_ (.inr GW361.out) _)⟩,⟨by repeat(with_reducible first|exact HB.out|apply bA|apply bN|apply b1|refine below_set ?_ GE361.out)⟩⟩
    case rest=>
     clear HC8;(try clear c1);(try clear p2);(try clear p3);(try clear q3);(try clear hx3);(try clear c4);(try clear c4b0);(try clear c5);(try clear c5b0);(try clear c6);(try clear c6b0);(try clear c9);(try clear c10);(try clear c12);(try clear hcz10_0);(try clear hcz10_1);(try clear hcz10_2);(try clear hcz10_3);(try clear hcz10_4);(try clear hcz10_5);(try clear hcz14_0);(try clear hcz14_1);(try clear hcz14_2);(try clear hcz14_3);(try clear hcz14_4);(try clear hcz14_5);(try clear hfz10_0);(try clear hfz10_1);(try clear hfz10_2);(try clear hfz10_3);(try clear hfz10_4);(try clear hfz10_5);(try clear hfz14_0);(try clear hfz14_1);(try clear hfz14_2);(try clear hfz14_3);(try clear hfz14_4);(try clear hfz14_5);(try clear hx360_0);(try clear hx360_1);(try clear hx360_2);(try clear hx360_3);(try clear hx360_4);(try clear hx360_5);(try clear hx362_0);(try clear p360);(try clear p362);(try clear q360);(try clear q362)
     obtain⟨kq,x9_7,rfl,HA,HJ7,HO_1,BK361,HK,HB⟩:=hcut;cases kq with
     |zero=>exact absurd HA.out (by simp[spec_l3From.j0])
     |succ kj7=>
      have H:=HA.out;clear HA;simp only[spec_l3From.j0]at H
      have HC16:=aS H;clear H;have hcz17_0:wc.cell? ⟨gb361,0,none⟩=some (.int .i64 ((rd_T29 l0 a2).f0)):=(blk_cell BK361.out 0).trans rfl;have hcz17_1:wc.cell? ⟨gb361,1,none⟩=some (.int .i64 ((rd_T29 l0 a2).f1)):=(blk_cell BK361.out 1).trans rfl;have hcz17_2:wc.cell? ⟨gb361,2,none⟩=some (.int .i64 ((rd_T29 l0 a2).f2)):=(blk_cell BK361.out 2).trans rfl;have hcz17_3:wc.cell? ⟨gb361,3,none⟩=some (.int .i64 ((rd_T29 l0 a2).f3)):=(blk_cell BK361.out 3).trans rfl;have hcz17_4:wc.cell? ⟨gb361,4,none⟩=some (.int .i64 ((rd_T29 l0 a2).f4.f0)):=(blk_cell BK361.out 4).trans rfl;have hcz17_5:wc.cell? ⟨gb361,5,none⟩=some (.int .i64 ((rd_T29 l0 a2).f4.f1)):=(blk_cell BK361.out 5).trans rfl;have hfz17_0:=blk_frozen BK361.out 0;have hfz17_1:=blk_frozen BK361.out 1;have hfz17_2:=blk_frozen BK361.out 2;have hfz17_3:=blk_frozen BK361.out 3;have hfz17_4:=blk_frozen BK361.out 4;have hfz17_5:=blk_frozen BK361.out 5;go_upto_block 0 with (fail)
      go_cut [10] (fun v10 wc=> ∃ (kq:Nat) (x1_15:List Int) (x10_15:Bool),v10= .bool x10_15∧Aside0 (spec_l3From.j2 kq x1_15 a2 x9_7 x10_15=some (r1,r2))∧Aside0 (kq≤kj7)∧Aside0 (Kd.R (Kd.int .i64) 3 wc w0.heap.size (fun k_=>(P1_ k_∨w.heap.size≤k_)) (.slice (some ad362) l1.length co11) x1_15)∧Aside0 (wc.heap[gb361]?=some (.cells #[.int .i64 ((rd_T29 l0 a2).f0),.int .i64 ((rd_T29 l0 a2).f1),.int .i64 ((rd_T29 l0 a2).f2),.int .i64 ((rd_T29 l0 a2).f3),.int .i64 ((rd_T29 l0 a2).f4.f0),.int .i64 ((rd_T29 l0 a2).f4.f1)] 29 (0,0)))∧Aside0 (Kept w wc (fun k_=>P1_ k_))∧Aside0 (Below w0.heap.size w0 wc))
      case first=>
       have H:=HC16.out;clear HC16;by_cases c18:((rd_T29 l0 a2).f0)=5
       ·rw[if_pos c18]at H
        have c18b0:(((rd_T29 l0 a2).f0)==5)=true:=beq_iff_eq.mpr c18;have c18b1:(((rd_T29 l0 a2).f0) !=5)=false:=bne_eq_false_iff_eq.mpr c18;clear c18;(first|rw[c18b0]|(simp only[i64_w,i32_w];rw[c18b0])|skip)
        replace H:=Option.bind_eq_some_iff.mp H;obtain⟨⟨t365,t366⟩,A190,H⟩:=H;replace H:(spec_l3From.j2 kj7 t366 a2 x9_7 t365)=some (r1,r2):=H;have A19:=aS A190;clear A190;have H':=aS H;clear H;have hcz20_0:wc.cell? ⟨gb361,0,none⟩=some (.int .i64 ((rd_T29 l0 a2).f0)):=(blk_cell BK361.out 0).trans rfl;have hcz20_1:wc.cell? ⟨gb361,1,none⟩=some (.int .i64 ((rd_T29 l0 a2).f1)):=(blk_cell BK361.out 1).trans rfl;have hcz20_2:wc.cell? ⟨gb361,2,none⟩=some (.int .i64 ((rd_T29 l0 a2).f2)):=(blk_cell BK361.out 2).trans rfl;have hcz20_3:wc.cell? ⟨gb361,3,none⟩=some (.int .i64 ((rd_T29 l0 a2).f3)):=(blk_cell BK361.out 3).trans rfl;have hcz20_4:wc.cell? ⟨gb361,4,none⟩=some (.int .i64 ((rd_T29 l0 a2).f4.f0)):=(blk_cell BK361.out 4).trans rfl;have hcz20_5:wc.cell? ⟨gb361,5,none⟩=some (.int .i64 ((rd_T29 l0 a2).f4.f1)):=(blk_cell BK361.out 5).trans rfl;have hfz20_0:=blk_frozen BK361.out 0;have hfz20_1:=blk_frozen BK361.out 1;have hfz20_2:=blk_frozen BK361.out 2;have hfz20_3:=blk_frozen BK361.out 3;have hfz20_4:=blk_frozen BK361.out 4;have hfz20_5:=blk_frozen BK361.out 5;go_wp2_with (first|((with_reducible refine gate_callee (f:=106) rfl ?_);refine goesL_ (some 34) rfl rfl Try.func106 (by kernel_rfl) rfl #[.slice (some ad362) l1.length co11,.int .i64 ((rd_T29 l0 a2).f3),.int .i64 1] rfl (by(try simp only[List.map_toArray,List.map_cons,List.map_nil])<;>rfl) ?_;(with_reducible refine(spec_l3Merge.calls kj7 (fun k_=>some k_=(.slice (some ad362) l1.length co11:Value).ownBlock) (.slice (some ad362) l1.length co11) l1 ((rd_T29 l0 a2).f3) 1 t365 t366 w0 _ ?side1 ?side2 A19.out).mono ?_);(case side1=>repeat(with_reducible first|exact HB.out|apply bA|apply bN|apply b1|refine below_set ?_ GE361.out));(case side2=>exact Kd.R_tight rfl HO_1.out);rintro e w21 ⟨rfl,hy0,hb,hkp⟩;refine⟨_,rfl,?_⟩;have n0_:=aS (Kd.R_reok rfl hy0 (fun k_ e_=>HO_1.out.1 k_ e_));have n1_:=aS (blk_kept (by exact blkU BK361.out) hkp (fun hs_=>(fun e_=>(Kd.R_ne HO_1.out BK361.out (by decide)) e_) hs_));have n2_:=aS (Kept.then_ (S:=(fun k_=>P1_ k_)) (by repeat(with_reducible first|exact HK.out|apply Kept.alloc|apply Kept.drewN|apply Kept.drew|refine Kept.setCell ?_ (.inr GW361.out) _)) hkp (fun k_ hs_=>(fun e_=>(HO_1.out.1 k_ e_.symm)) hs_));have n3_:=aS (hb);clear HO_1;clear BK361;clear HK;clear HB;have HO_1:=n0_;have BK361:=n1_;have HK:=n2_;have HB:=n3_;clear n0_ n1_ n2_ n3_;(try clear hb);(try clear hkp);(try clear hy0)))
        go_meet
        case rel=>exact⟨_,(t366),(t365),(by first|rfl|(simp;done)|(simp[*];done)),H',⟨by have:=HJ7.out;first|omega|exact Nat.le_refl _⟩,⟨by exact rU HO_1.out⟩,⟨by exact blkU BK361.out⟩,⟨by repeat(with_reducible first|exact HK.out|apply Kept.alloc|apply Kept.drewN|apply Kept.drew|refine Kept.setCell ?_ (.inr GW361.out) _)⟩,⟨by repeat(with_reducible first|exact HB.out|apply bA|apply bN|apply b1|refine below_set ?_ GE361.out)⟩⟩
       ·rw[if_neg c18]at H
        have c18b0:(((rd_T29 l0 a2).f0)==5)=false:=beq_eq_false_iff_ne.mpr c18;have c18b1:(((rd_T29 l0 a2).f0) !=5)=true:=bne_iff_ne.mpr c18;(first|rw[c18b0]|(simp only[i64_w,i32_w];rw[c18b0])|skip)
        by_cases c22:((rd_T29 l0 a2).f0)=9
        ·rw[if_pos c22]at H
         have c22b0:(((rd_T29 l0 a2).f0)==9)=true:=beq_iff_eq.mpr c22;have c22b1:(((rd_T29 l0 a2).f0) !=9)=false:=bne_eq_false_iff_eq.mpr c22;clear c22;replace H:=Option.bind_eq_some_iff.mp H;obtain⟨⟨t367,t368⟩,A230,H⟩:=H;replace H:(some (t367,t368))=some (r1,r2):=H;have A23:=aS A230;clear A230;simp only[Option.some.injEq,Prod.mk.injEq]at H
         obtain⟨rfl,rfl⟩:=H;have hcz24_0:wc.cell? ⟨gb361,0,none⟩=some (.int .i64 ((rd_T29 l0 a2).f0)):=(blk_cell BK361.out 0).trans rfl;have hcz24_1:wc.cell? ⟨gb361,1,none⟩=some (.int .i64 ((rd_T29 l0 a2).f1)):=(blk_cell BK361.out 1).trans rfl;have hcz24_2:wc.cell? ⟨gb361,2,none⟩=some (.int .i64 ((rd_T29 l0 a2).f2)):=(blk_cell BK361.out 2).trans rfl;have hcz24_3:wc.cell? ⟨gb361,3,none⟩=some (.int .i64 ((rd_T29 l0 a2).f3)):=(blk_cell BK361.out 3).trans rfl;have hcz24_4:wc.cell? ⟨gb361,4,none⟩=some (.int .i64 ((rd_T29 l0 a2).f4.f0)):=(blk_cell BK361.out 4).trans rfl;have hcz24_5:wc.cell? ⟨gb361,5,none⟩=some (.int .i64 ((rd_T29 l0 a2).f4.f1)):=(blk_cell BK361.out 5).trans rfl;have hfz24_0:=blk_frozen BK361.out 0;have hfz24_1:=blk_frozen BK361.out 1;have hfz24_2:=blk_frozen BK361.out 2;have hfz24_3:=blk_frozen BK361.out 3;have hfz24_4:=blk_frozen BK361.out 4;have hfz24_5:=blk_frozen BK361.out 5;go_wp2_with (first|((with_reducible refine gate_callee (f:=106) rfl ?_);refine goesL_ (some 41) rfl rfl Try.func106 (by kernel_rfl) rfl #[.slice (some ad362) l1.length co11,.int .i64 ((rd_T29 l0 a2).f3),.int .i64 (rd l1 a2)] rfl (by(try simp only[List.map_toArray,List.map_cons,List.map_nil])<;>rfl) ?_;(with_reducible refine(spec_l3Merge.calls kj7 (fun k_=>some k_=(.slice (some ad362) l1.length co11:Value).ownBlock) (.slice (some ad362) l1.length co11) l1 ((rd_T29 l0 a2).f3) (rd l1 a2) t367 t368 w0 _ ?side1 ?side2 A23.out).mono ?_);(case side1=>repeat(with_reducible first|exact HB.out|apply bA|apply bN|apply b1|refine below_set ?_ GE361.out));(case side2=>exact Kd.R_tight rfl HO_1.out);rintro e w25 ⟨rfl,hy0,hb,hkp⟩;refine⟨_,rfl,?_⟩;have n0_:=aS (Kd.R_reok rfl hy0 (fun k_ e_=>HO_1.out.1 k_ e_));have n1_:=aS (blk_kept (by exact blkU BK361.out) hkp (fun hs_=>(fun e_=>(Kd.R_ne HO_1.out BK361.out (by decide)) e_) hs_));have n2_:=aS (Kept.then_ (S:=(fun k_=>P1_ k_)) (by repeat(with_reducible first|exact HK.out|apply Kept.alloc|apply Kept.drewN|apply Kept.drew|refine Kept.setCell ?_ (.inr GW361.out) _)) hkp (fun k_ hs_=>(fun e_=>(HO_1.out.1 k_ e_.symm)) hs_));have n3_:=aS (hb);clear HO_1;clear BK361;clear HK;clear HB;have HO_1:=n0_;have BK361:=n1_;have HK:=n2_;have HB:=n3_;clear n0_ n1_ n2_ n3_;(try clear hb);(try clear hkp);(try clear hy0)))
         go_ret
         exact⟨by first|rfl|(simp[*]<;>rfl),by exact rU HO_1.out,by repeat(with_reducible first|exact HB.out|apply bA|apply bN|apply b1|refine below_set ?_ GE361.out),by repeat(with_reducible first|exact HK.out|apply Kept.alloc|apply Kept.drewN|apply Kept.drew|refine Kept.setCell ?_ (.inr GW361.out) _)⟩
        ·rw[if_neg c22]at H
         have c22b0:(((rd_T29 l0 a2).f0)==9)=false:=beq_eq_false_iff_ne.mpr c22;have c22b1:(((rd_T29 l0 a2).f0) !=9)=true:=bne_iff_ne.mpr c22;have HC26:=aS H;clear H;go_upto_if 42 with (fail)
         go_cut [42] (fun v42 wc=> ∃ (kq:Nat) (x42_25:Bool),v42= .bool x42_25∧Aside0 (spec_l3From.j1 kq l1 a2 (rd l1 a2) x9_7 false ((rd_T29 l0 a2).f0) x42_25 ((rd_T29 l0 a2).f0) ((rd_T29 l0 a2).f1) ((rd_T29 l0 a2).f2) ((rd_T29 l0 a2).f3) ((rd_T29 l0 a2).f4.f0) ((rd_T29 l0 a2).f4.f1)=some (r1,r2))∧Aside0 (kq≤kj7)∧Aside0 (Kd.R (Kd.int .i64) 3 wc w0.heap.size (fun k_=>(P1_ k_∨w.heap.size≤k_)) (.slice (some ad362) l1.length co11) l1)∧Aside0 (wc.heap[gb361]?=some (.cells #[.int .i64 ((rd_T29 l0 a2).f0),.int .i64 ((rd_T29 l0 a2).f1),.int .i64 ((rd_T29 l0 a2).f2),.int .i64 ((rd_T29 l0 a2).f3),.int .i64 ((rd_T29 l0 a2).f4.f0),.int .i64 ((rd_T29 l0 a2).f4.f1)] 29 (0,0)))∧Aside0 (Kept w wc (fun k_=>P1_ k_))∧Aside0 (Below w0.heap.size w0 wc))
         case first=>
          have H:=HC26.out;clear HC26;by_cases c27:((rd_T29 l0 a2).f0)=8
          ·rw[if_pos c27]at H
           have c27b0:(((rd_T29 l0 a2).f0)==8)=true:=beq_iff_eq.mpr c27;have c27b1:(((rd_T29 l0 a2).f0) !=8)=false:=bne_eq_false_iff_eq.mpr c27;clear c27;(first|rw[c27b0]|(simp only[i64_w,i32_w];rw[c27b0])|skip)
           have H':=aS H;clear H;go_wp2
           go_meet
           case rel=>exact⟨_,((((rd_T29 l0 a2).f0)==8)),(by first|rfl|(simp;done)|(simp[*];done)),H',⟨by have:=HJ7.out;first|omega|exact Nat.le_refl _⟩,⟨by exact rU HO_1.out⟩,⟨by exact blkU BK361.out⟩,⟨by repeat(with_reducible first|exact HK.out|apply Kept.alloc|apply Kept.drewN|apply Kept.drew|refine Kept.setCell ?_ (.inr GW361.out) _)⟩,⟨by repeat(with_reducible first|exact HB.out|apply bA|apply bN|apply b1|refine below_set ?_ GE361.out)⟩⟩
          ·rw[if_neg c27]at H
           have c27b0:(((rd_T29 l0 a2).f0)==8)=false:=beq_eq_false_iff_ne.mpr c27;have c27b1:(((rd_T29 l0 a2).f0) !=8)=true:=bne_iff_ne.mpr c27;(first|rw[c27b0]|(simp only[i64_w,i32_w];rw[c27b0])|skip)
           have H':=aS H;clear H;go_wp2
           go_meet
           case rel=>exact⟨_,((((rd_T29 l0 a2).f0)==10)),(by first|rfl|(simp;done)|(simp[*];done)),H',⟨by have:=HJ7.out;first|omega|exact Nat.le_refl _⟩,⟨by exact rU HO_1.out⟩,⟨by exact blkU BK361.out⟩,⟨by repeat(with_reducible first|exact HK.out|apply Kept.alloc|apply Kept.drewN|apply Kept.drew|refine Kept.setCell ?_ (.inr GW361.out) _)⟩,⟨by repeat(with_reducible first|exact HB.out|apply bA|apply bN|apply b1|refine below_set ?_ GE361.out)⟩⟩
         case rest=>
          clear HC26;(try clear c1);(try clear c2);(try clear p2);(try clear p3);(try clear q3);(try clear hx3);(try clear c4);(try clear c4b0);(try clear c5);(try clear c5b0);(try clear c6);(try clear c6b0);(try clear c9);(try clear c10);(try clear c12);(try clear c18);(try clear c18b0);(try clear c18b1);(try clear c22);(try clear c22b0);(try clear c22b1);(try clear c27);(try clear c27b0);(try clear c27b1);(try clear hcz10_0);(try clear hcz10_1);(try clear hcz10_2);(try clear hcz10_3);(try clear hcz10_4);(try clear hcz10_5);(try clear hcz14_0);(try clear hcz14_1);(try clear hcz14_2);(try clear hcz14_3);(try clear hcz14_4);(try clear hcz14_5);(try clear hcz17_0);(try clear hcz17_1);(try clear hcz17_2);(try clear hcz17_3);(try clear hcz17_4);(try clear hcz17_5);(try clear hcz20_0);(try clear hcz20_1);(try clear hcz20_2);(try clear hcz20_3);(try clear hcz20_4);(try clear hcz20_5);(try clear hcz24_0);(try clear hcz24_1);(try clear hcz24_2);(try clear hcz24_3);(try clear hcz24_4);(try clear hcz24_5);(try clear hfz10_0);(try clear hfz10_1);(try clear hfz10_2);(try clear hfz10_3);(try clear hfz10_4);(try clear hfz10_5);(try clear hfz14_0);(try clear hfz14_1);(try clear hfz14_2);(try clear hfz14_3);(try clear hfz14_4);(try clear hfz14_5);(try clear hfz17_0);(try clear hfz17_1);(try clear hfz17_2);(try clear hfz17_3);(try clear hfz17_4);(try clear hfz17_5);(try clear hfz20_0);(try clear hfz20_1);(try clear hfz20_2);(try clear hfz20_3);(try clear hfz20_4);(try clear hfz20_5);(try clear hfz24_0);(try clear hfz24_1);(try clear hfz24_2);(try clear hfz24_3);(try clear hfz24_4);(try clear hfz24_5);(try clear hx360_0);(try clear hx360_1);(try clear hx360_2);(try clear hx360_3);(try clear hx360_4);(try clear hx360_5);(try clear hx362_0);(try clear p2);(try clear p3);(try clear p360);(try clear p362);(try clear q3);(try clear q360);(try clear q362)
          obtain⟨kq,x42_25,rfl,HA,HJ25,HO_1,BK361,HK,HB⟩:=hcut;cases kq with
          |zero=>exact absurd HA.out (by simp[spec_l3From.j1])
          |succ kj25=>
           have H:=HA.out;clear HA;simp only[spec_l3From.j1]at H
           by_cases c28:x42_25=true
           ·subst c28
            have H1:((spec_l3Merge.f kj25 l1 ((rd_T29 l0 a2).f3) (rd l1 a2)).bind fun bt369=>(spec_l3From.j2 kj25 bt369.2 a2 x9_7 bt369.1))=some (r1,r2):=by rw[if_pos rfl]at H;exact H
            clear H;have H:=H1;clear H1;replace H:=Option.bind_eq_some_iff.mp H;obtain⟨⟨t369,t370⟩,A290,H⟩:=H;replace H:(spec_l3From.j2 kj25 t370 a2 x9_7 t369)=some (r1,r2):=H;have A29:=aS A290;clear A290;have H':=aS H;clear H;have hcz30_0:wc.cell? ⟨gb361,0,none⟩=some (.int .i64 ((rd_T29 l0 a2).f0)):=(blk_cell BK361.out 0).trans rfl;have hcz30_1:wc.cell? ⟨gb361,1,none⟩=some (.int .i64 ((rd_T29 l0 a2).f1)):=(blk_cell BK361.out 1).trans rfl;have hcz30_2:wc.cell? ⟨gb361,2,none⟩=some (.int .i64 ((rd_T29 l0 a2).f2)):=(blk_cell BK361.out 2).trans rfl;have hcz30_3:wc.cell? ⟨gb361,3,none⟩=some (.int .i64 ((rd_T29 l0 a2).f3)):=(blk_cell BK361.out 3).trans rfl;have hcz30_4:wc.cell? ⟨gb361,4,none⟩=some (.int .i64 ((rd_T29 l0 a2).f4.f0)):=(blk_cell BK361.out 4).trans rfl;have hcz30_5:wc.cell? ⟨gb361,5,none⟩=some (.int .i64 ((rd_T29 l0 a2).f4.f1)):=(blk_cell BK361.out 5).trans rfl;have hfz30_0:=blk_frozen BK361.out 0;have hfz30_1:=blk_frozen BK361.out 1;have hfz30_2:=blk_frozen BK361.out 2;have hfz30_3:=blk_frozen BK361.out 3;have hfz30_4:=blk_frozen BK361.out 4;have hfz30_5:=blk_frozen BK361.out 5;go_wp2_with (first|((with_reducible refine gate_callee (f:=106) rfl ?_);refine goesL_ (some 49) rfl rfl Try.func106 (by kernel_rfl) rfl #[.slice (some ad362) l1.length co11,.int .i64 ((rd_T29 l0 a2).f3),.int .i64 (rd l1 a2)] rfl (by(try simp only[List.map_toArray,List.map_cons,List.map_nil])<;>rfl) ?_;(with_reducible refine(spec_l3Merge.calls kj25 (fun k_=>some k_=(.slice (some ad362) l1.length co11:Value).ownBlock) (.slice (some ad362) l1.length co11) l1 ((rd_T29 l0 a2).f3) (rd l1 a2) t369 t370 w0 _ ?side1 ?side2 A29.out).mono ?_);(case side1=>repeat(with_reducible first|exact HB.out|apply bA|apply bN|apply b1|refine below_set ?_ GE361.out));(case side2=>exact Kd.R_tight rfl HO_1.out);rintro e w31 ⟨rfl,hy0,hb,hkp⟩;refine⟨_,rfl,?_⟩;have n0_:=aS (Kd.R_reok rfl hy0 (fun k_ e_=>HO_1.out.1 k_ e_));have n1_:=aS (blk_kept (by exact blkU BK361.out) hkp (fun hs_=>(fun e_=>(Kd.R_ne HO_1.out BK361.out (by decide)) e_) hs_));have n2_:=aS (Kept.then_ (S:=(fun k_=>P1_ k_)) (by repeat(with_reducible first|exact HK.out|apply Kept.alloc|apply Kept.drewN|apply Kept.drew|refine Kept.setCell ?_ (.inr GW361.out) _)) hkp (fun k_ hs_=>(fun e_=>(HO_1.out.1 k_ e_.symm)) hs_));have n3_:=aS (hb);clear HO_1;clear BK361;clear HK;clear HB;have HO_1:=n0_;have BK361:=n1_;have HK:=n2_;have HB:=n3_;clear n0_ n1_ n2_ n3_;(try clear hb);(try clear hkp);(try clear hy0)))
            go_meet
            case rel=>exact⟨_,(t370),(t369),(by first|rfl|(simp;done)|(simp[*];done)),H',⟨by have:=HJ7.out;have:=HJ25.out;first|omega|exact Nat.le_refl _⟩,⟨by exact rU HO_1.out⟩,⟨by exact blkU BK361.out⟩,⟨by repeat(with_reducible first|exact HK.out|apply Kept.alloc|apply Kept.drewN|apply Kept.drew|refine Kept.setCell ?_ (.inr GW361.out) _)⟩,⟨by repeat(with_reducible first|exact HB.out|apply bA|apply bN|apply b1|refine below_set ?_ GE361.out)⟩⟩
           ·replace c28:=Bool.eq_false_iff.mpr c28
            subst c28;have H1:(if((rd_T29 l0 a2).f0)=14 then(some (false,l1))else(spec_l3From.j2 kj25 l1 a2 x9_7 false))=some (r1,r2):=by rw[if_neg (show¬(false=true) by decide)]at H;exact H
            clear H;have H:=H1;clear H1;by_cases c32:((rd_T29 l0 a2).f0)=14
            ·rw[if_pos c32]at H
             have c32b0:(((rd_T29 l0 a2).f0)==14)=true:=beq_iff_eq.mpr c32;have c32b1:(((rd_T29 l0 a2).f0) !=14)=false:=bne_eq_false_iff_eq.mpr c32;clear c32;simp only[Option.some.injEq,Prod.mk.injEq]at H
             obtain⟨rfl,rfl⟩:=H;go_wp2
             go_ret
             exact⟨by first|rfl|(simp[*]<;>rfl),by exact rU HO_1.out,by repeat(with_reducible first|exact HB.out|apply bA|apply bN|apply b1|refine below_set ?_ GE361.out),by repeat(with_reducible first|exact HK.out|apply Kept.alloc|apply Kept.drewN|apply Kept.drew|refine Kept.setCell ?_ (.inr GW361.out) _)⟩
            ·rw[if_neg c32]at H
             have c32b0:(((rd_T29 l0 a2).f0)==14)=false:=beq_eq_false_iff_ne.mpr c32;have c32b1:(((rd_T29 l0 a2).f0) !=14)=true:=bne_iff_ne.mpr c32;have H':=aS H;clear H;go_wp2
             go_meet
             case rel=>exact⟨_,(l1),(false),(by first|rfl|(simp;done)|(simp[*];done)),H',⟨by have:=HJ7.out;have:=HJ25.out;first|omega|exact Nat.le_refl _⟩,⟨by exact rU HO_1.out⟩,⟨by exact blkU BK361.out⟩,⟨by repeat(with_reducible first|exact HK.out|apply Kept.alloc|apply Kept.drewN|apply Kept.drew|refine Kept.setCell ?_ (.inr GW361.out) _)⟩,⟨by repeat(with_reducible first|exact HB.out|apply bA|apply bN|apply b1|refine below_set ?_ GE361.out)⟩⟩
      case rest=>
       clear HC16;(try clear c1);(try clear c2);(try clear p2);(try clear c3);(try clear p3);(try clear q3);(try clear hx3);(try clear c4);(try clear c4b0);(try clear c5);(try clear c5b0);(try clear c6);(try clear c6b0);(try clear c9);(try clear c10);(try clear c12);(try clear c18);(try clear c18b0);(try clear c18b1);(try clear c22);(try clear c22b0);(try clear c22b1);(try clear c27);(try clear c27b0);(try clear c27b1);(try clear c28);(try clear c32);(try clear c32b0);(try clear c32b1);(try clear hcz10_0);(try clear hcz10_1);(try clear hcz10_2);(try clear hcz10_3);(try clear hcz10_4);(try clear hcz10_5);(try clear hcz14_0);(try clear hcz14_1);(try clear hcz14_2);(try clear hcz14_3);(try clear hcz14_4);(try clear hcz14_5);(try clear hcz17_0);(try clear hcz17_1);(try clear hcz17_2);(try clear hcz17_3);(try clear hcz17_4);(try clear hcz17_5);(try clear hcz20_0);(try clear hcz20_1);(try clear hcz20_2);(try clear hcz20_3);(try clear hcz20_4);(try clear hcz20_5);(try clear hcz24_0);(try clear hcz24_1);(try clear hcz24_2);(try clear hcz24_3);(try clear hcz24_4);(try clear hcz24_5);(try clear hcz30_0);(try clear hcz30_1);(try clear hcz30_2);(try clear hcz30_3);(try clear hcz30_4);(try clear hcz30_5);(try clear hfz10_0);(try clear hfz10_1);(try clear hfz10_2);(try clear hfz10_3);(try clear hfz10_4);(try clear hfz10_5);(try clear hfz14_0);(try clear hfz14_1);(try clear hfz14_2);(try clear hfz14_3);(try clear hfz14_4);(try clear hfz14_5);(try clear hfz17_0);(try clear hfz17_1);(try clear hfz17_2);(try clear hfz17_3);(try clear hfz17_4);(try clear hfz17_5);(try clear hfz20_0);(try clear hfz20_1);(try clear hfz20_2);(try clear hfz20_3);(try clear hfz20_4);(try clear hfz20_5);(try clear hfz24_0);(try clear hfz24_1);(try clear hfz24_2);(try clear hfz24_3);(try clear hfz24_4);(try clear hfz24_5);(try clear hfz30_0);(try clear hfz30_1);(try clear hfz30_2);(try clear hfz30_3);(try clear hfz30_4);(try clear hfz30_5);(try clear hx360_0);(try clear hx360_1);(try clear hx360_2);(try clear hx360_3);(try clear hx360_4);(try clear hx360_5);(try clear hx362_0);(try clear p2);(try clear p3);(try clear p360);(try clear p362);(try clear q3);(try clear q360);(try clear q362)
       obtain⟨kq,x1_15,x10_15,rfl,HA,HJ15,HO_1,BK361,HK,HB⟩:=hcut;have hl1_15:=(Kd.R_reads' HO_1.out).1;rw[hl1_15]at HO_1
       (try simp only[hl1_15])
       (try simp only[hl1_15]at BK361)
       cases kq with
       |zero=>exact absurd HA.out (by simp[spec_l3From.j2])
       |succ kj15=>
        have H:=HA.out;clear HA;simp only[spec_l3From.j2]at H
        replace H:=Option.bind_eq_some_iff.mp H;obtain⟨⟨t371,t372⟩,A330,H⟩:=H;replace H:(if t371=true then(some (true,t372))else(some (x10_15,t372)))=some (r1,r2):=H
        have A33:=aS A330;clear A330;by_cases c34:t371=true
        ·subst c34
         have H1:(some (true,t372))=some (r1,r2):=by rw[if_pos rfl]at H;exact H
         clear H;have H:=H1;clear H1;simp only[Option.some.injEq,Prod.mk.injEq]at H
         obtain⟨rfl,rfl⟩:=H;go_wp2_with (first|((with_reducible refine gate_callee (f:=106) rfl ?_);refine goesL_ (some 56) rfl rfl Try.func106 (by kernel_rfl) rfl #[.slice (some ad362) x1_15.length co11,.int .i64 (wrap64 (a2+1)),.int .i64 x9_7] rfl (by(try simp only[List.map_toArray,List.map_cons,List.map_nil])<;>rfl) ?_;(with_reducible refine(spec_l3Merge.calls kj15 (fun k_=>some k_=(.slice (some ad362) x1_15.length co11:Value).ownBlock) (.slice (some ad362) x1_15.length co11) x1_15 (wrap64 (a2+1)) x9_7 true t372 w0 _ ?side1 ?side2 A33.out).mono ?_);(case side1=>repeat(with_reducible first|exact HB.out|apply bA|apply bN|apply b1|refine below_set ?_ GE361.out));(case side2=>exact Kd.R_tight rfl HO_1.out);rintro e w35 ⟨rfl,hy0,hb,hkp⟩;refine⟨_,rfl,?_⟩;have n0_:=aS (Kd.R_reok rfl hy0 (fun k_ e_=>HO_1.out.1 k_ e_));have n1_:=aS (blk_kept (by exact blkU BK361.out) hkp (fun hs_=>(fun e_=>(Kd.R_ne HO_1.out BK361.out (by decide)) e_) hs_));have n2_:=aS (Kept.then_ (S:=(fun k_=>P1_ k_)) (by repeat(with_reducible first|exact HK.out|apply Kept.alloc|apply Kept.drewN|apply Kept.drew|refine Kept.setCell ?_ (.inr GW361.out) _)) hkp (fun k_ hs_=>(fun e_=>(HO_1.out.1 k_ e_.symm)) hs_));have n3_:=aS (hb);clear HO_1;clear BK361;clear HK;clear HB;have HO_1:=n0_;have BK361:=n1_;have HK:=n2_;have HB:=n3_;clear n0_ n1_ n2_ n3_;(try clear hb);(try clear hkp);(try clear hy0)))
         go_ret
         exact⟨by first|rfl|(simp[*]<;>rfl),(by first|exact(by exact rU HO_1.out)|(simp only[hl1_15];exact(by exact rU HO_1.out))),by repeat(with_reducible first|exact HB.out|apply bA|apply bN|apply b1|refine below_set ?_ GE361.out),by repeat(with_reducible first|exact HK.out|apply Kept.alloc|apply Kept.drewN|apply Kept.drew|refine Kept.setCell ?_ (.inr GW361.out) _)⟩
        ·replace c34:=Bool.eq_false_iff.mpr c34
         subst c34;have H1:(some (x10_15,t372))=some (r1,r2):=by rw[if_neg (show¬(false=true) by decide)]at H;exact H
         clear H;have H:=H1;clear H1;simp only[Option.some.injEq,Prod.mk.injEq]at H
         obtain⟨rfl,rfl⟩:=H;go_wp2_with (first|((with_reducible refine gate_callee (f:=106) rfl ?_);refine goesL_ (some 56) rfl rfl Try.func106 (by kernel_rfl) rfl #[.slice (some ad362) x1_15.length co11,.int .i64 (wrap64 (a2+1)),.int .i64 x9_7] rfl (by(try simp only[List.map_toArray,List.map_cons,List.map_nil])<;>rfl) ?_;(with_reducible refine(spec_l3Merge.calls kj15 (fun k_=>some k_=(.slice (some ad362) x1_15.length co11:Value).ownBlock) (.slice (some ad362) x1_15.length co11) x1_15 (wrap64 (a2+1)) x9_7 false t372 w0 _ ?side1 ?side2 A33.out).mono ?_);(case side1=>repeat(with_reducible first|exact HB.out|apply bA|apply bN|apply b1|refine below_set ?_ GE361.out));(case side2=>exact Kd.R_tight rfl HO_1.out);rintro e w36 ⟨rfl,hy0,hb,hkp⟩;refine⟨_,rfl,?_⟩;have n0_:=aS (Kd.R_reok rfl hy0 (fun k_ e_=>HO_1.out.1 k_ e_));have n1_:=aS (blk_kept (by exact blkU BK361.out) hkp (fun hs_=>(fun e_=>(Kd.R_ne HO_1.out BK361.out (by decide)) e_) hs_));have n2_:=aS (Kept.then_ (S:=(fun k_=>P1_ k_)) (by repeat(with_reducible first|exact HK.out|apply Kept.alloc|apply Kept.drewN|apply Kept.drew|refine Kept.setCell ?_ (.inr GW361.out) _)) hkp (fun k_ hs_=>(fun e_=>(HO_1.out.1 k_ e_.symm)) hs_));have n3_:=aS (hb);clear HO_1;clear BK361;clear HK;clear HB;have HO_1:=n0_;have BK361:=n1_;have HK:=n2_;have HB:=n3_;clear n0_ n1_ n2_ n3_;(try clear hb);(try clear hkp);(try clear hy0)))
         go_ret
         exact⟨by first|rfl|(simp[*]<;>rfl),(by first|exact(by exact rU HO_1.out)|(simp only[hl1_15];exact(by exact rU HO_1.out))),by repeat(with_reducible first|exact HB.out|apply bA|apply bN|apply b1|refine below_set ?_ GE361.out),by repeat(with_reducible first|exact HK.out|apply Kept.alloc|apply Kept.drewN|apply Kept.drew|refine Kept.setCell ?_ (.inr GW361.out) _)⟩
   ·rw[if_neg c6]at H
    exact absurd H (by simp)
  ·rw[if_neg c5]at H
   exact absurd H (by simp)
 ·rw[if_neg c4]at H
  exact absurd H (by simp)
end Go.Proofs.Ytmklpbmlgjkbiaa.PS
end
section
namespace Go.Proofs.Ytmklpbmlgjkbiaa.PS
open Go.RowKit Go.Proofs.YtmklpbmlgjkbiaaW.PrintWords Go.Proofs.YtmklpbmlgjkbiaaW.PrintLast Go.Proofs.YtmklpbmlgjkbiaaW.PrintMore
attribute [local go_sem] max2_int min2_int max_two min_two max_three min_three max_four min_four   -- for this text's walks alone
mutual
def spec_l3Full.l0:Nat→List (S29)→List Int→Int→Option (List Int)
 |0,_,_,_=>none
 |k+1,x0,x3,x4=>if x4<(x3.length:Int)then(if 0≤x4 then(spec_l3Full.l0 k x0 (x3.set (x4:Int).toNat (-1)) (wrap64 (x4+1)))else(none))else(if 0<(x3.length:Int)then(spec_l3Full.l1 k x0 (x3.set (0:Int).toNat 1) true)else(none))
def spec_l3Full.l1:Nat→List (S29)→List Int→Bool→Option (List Int)
 |0,_,_,_=>none
 |k+1,x0,x3,x5=>if x5=true then(spec_l3Full.l2 k x0 x3 false 0)else(some x3)
def spec_l3Full.l2:Nat→List (S29)→List Int→Bool→Int→Option (List Int)
 |0,_,_,_,_=>none
 |k+1,x0,x3,x5,x6=>if x6<(x0.length:Int)then(if 0≤x6 then(if x6<(x3.length:Int)then(if(rd x3 x6)≥0 then((spec_l3From.f k x0 x3 x6).bind fun bt379=>(spec_l3Full.j3 k x0 bt379.2 x5 x6 bt379.1))else(spec_l3Full.j3 k x0 x3 x5 x6 false))else(none))else(none))else(spec_l3Full.l1 k x0 x3 x5)
def spec_l3Full.j3:Nat→List (S29)→List Int→Bool→Int→Bool→Option (List Int)
 |0,_,_,_,_,_=>none
 |k+1,x0,x3,x5,x6,x38=>if x38=true then(spec_l3Full.l2 k x0 x3 true (wrap64 (x6+1)))else(spec_l3Full.l2 k x0 x3 x5 (wrap64 (x6+1)))
end
def spec_l3Full.f (k:Nat) (l0:List (S29)):Option (List Int):=if 0≤(l0.length:Int)then(if((l0.length:Int):Int).toNat≤35184372088832 then(spec_l3Full.l0 k l0 (List.replicate ((l0.length:Int):Int).toNat 0) 1)else(none))else(none)
theorem spec_l3Full.calls (k:Nat) (A0:Option Addr) (c0:Nat) (l0:List (S29)) (r:List Int) (w:World) (hr0:Kd.C k29 w A0 l0.length l0) (hc0:l0.length≤c0) (h:spec_l3Full.f k l0=some r):
  Calls Try.prog 81 #[.slice A0 l0.length c0] w fun e w'=> ∃v0_:Value,e= .returned (v0_)∧Kd.R (Kd.int .i64) 3 w' w.heap.size (fun _=>True) v0_ r∧Below w.heap.size w w':=by
 have HR0:=aS hr0;have HC0:=aS hc0;clear hr0 hc0;have HB:=aS (Below.refl w.heap.size w);have H:(if 0≤(l0.length:Int)then(if((l0.length:Int):Int).toNat≤35184372088832 then(spec_l3Full.l0 k l0 (List.replicate ((l0.length:Int):Int).toNat 0) 1)else(none))else(none))=some r:=h
 clear h;by_cases c2:0≤(l0.length:Int)
 ·rw[if_pos c2]at H
  have c2b0:=eq_true c2;have c2b1:decide (0≤(l0.length:Int))=true:=decide_eq_true c2;clear c2;by_cases c3:((l0.length:Int):Int).toNat≤35184372088832
  ·rw[if_pos c3]at H
   have c3b0:=eq_true c3;have c3b1:decide (((l0.length:Int):Int).toNat≤35184372088832)=true:=decide_eq_true c3;clear c3;obtain⟨y373,hy373⟩: ∃y_:List Int,y_=(List.replicate ((l0.length:Int):Int).toNat 0):=⟨_,rfl⟩;replace H:(spec_l3Full.l0 k l0 y373 1)=some r:=by first|(rw[hy373];with_reducible exact H)|(have H2_:=(Option.bind_some _ _).symm.trans H;rw[hy373];with_reducible exact H2_)|(have H2_:=(Option.bind_some _ _).symm.trans H;with_reducible exact H2_)|with_reducible exact H|(rw[hy373];exact H)|exact H
   have Ny373:=aS hy373;clear hy373;have H':=aS H;clear H;go_enter Try.func81,Try.ntmps81
   go_wp2_with (first|((with_reducible refine gate_dst (N:=9) rfl ?_);refine Kd.R_make (Kd.int .i64) _ 3 rfl (N:=9) rfl 32 _ _ rfl (l0.length:Int) rfl rfl Try.underlying32 (.int .i64 0) 8 info3 rfl (by decide) (by omega) 0 (ok:=fun _=>True) (okp:=fun _=>True) rfl (fun _ hk=>hk) trivial (of_decide_eq_true (by assumption)) (Nat.le_trans (Nat.mul_le_mul_right _ (of_decide_eq_true (by assumption):(l0.length:Int).toNat≤35184372088832)) (by omega)) (Below.refl _ _) (Nat.le_refl _) ?_;intro v374 w4 ho5 hb hg_ hnew_;clear hg_ hnew_;(first|rw[←Ny373.out]at ho5|(simp only[Int.reduceToNat]at ho5;rw[←Ny373.out]at ho5));have HO375:=aS (Kd.R_lower ho5 (below_size (by exact bU HB.out)));replace HB:=aS (below_step (by exact bU HB.out) hb);clear hb ho5))
   go_loopg [4] k (fun kq v4 w'=> ∃ (x3_1:List Int) (x4_1:Int),v4= .int .i64 x4_1∧Aside0 (spec_l3Full.l0 kq l0 x3_1 x4_1=some r)∧Aside0 (kq≤k)∧Aside0 (Kd.R (Kd.int .i64) 3 w' w.heap.size (fun _=>True) v374 x3_1)∧Aside0 (Below w.heap.size w w'))
   case atStart=>exact⟨(y373),(1),(by first|rfl|(simp;done)|(simp[*];done)),H',⟨Nat.le_refl _⟩,⟨by exact rU HO375.out⟩,⟨by exact bU HB.out⟩⟩
   case round=>
    clear H';(try clear c2);(try clear c2b0);(try clear c2b1);(try clear p2);(try clear c3);(try clear c3b0);(try clear c3b1)
    obtain⟨x3_1,x4_1,rfl,HA,HK1,HO_3,HB⟩:=hrel;cases gk with
    |zero=>exact absurd HA.out (by simp[spec_l3Full.l0])
    |succ k1=>
     have H:=HA.out;clear HA;simp only[spec_l3Full.l0]at H
     by_cases c6:x4_1<(x3_1.length:Int)
     ·rw[if_pos c6]at H
      have c6b0:decide (x4_1<(x3_1.length:Int))=true:=decide_eq_true c6;clear c6;by_cases c7:0≤x4_1
      ·rw[if_pos c7]at H
       have c7b0:decide (0≤x4_1)=true:=decide_eq_true c7;clear c7;obtain⟨y376,hy376⟩: ∃y_:List Int,y_=(x3_1.set (x4_1:Int).toNat (-1)):=⟨_,rfl⟩;replace H:(spec_l3Full.l0 k1 l0 y376 (wrap64 (x4_1+1)))=some r:=by first|(rw[hy376];with_reducible exact H)|(have H2_:=(Option.bind_some _ _).symm.trans H;rw[hy376];with_reducible exact H2_)|(have H2_:=(Option.bind_some _ _).symm.trans H;with_reducible exact H2_)|with_reducible exact H|(rw[hy376];exact H)|exact H
       have Ny376:=aS hy376;clear hy376;have H':=aS H;clear H;obtain⟨Ao9,co9,eo9⟩:=Kd.R_slice HO_3.out;subst eo9;have p8:0≤(x4_1:Int):=of_decide_eq_true (by assumption)
       have q8:(x4_1:Int)<((x3_1.length:Int):Int):=of_decide_eq_true (by assumption)
       obtain⟨go8,co8,eo8,gb8,gl8,cl8,HG8⟩:=Kd.R_form HO_3.out (by omega)
       (first|cases eo8|(injection eo8 with ea_ en_ ec_;(first|subst ea_|(injection ea_ with ea_;subst ea_));subst ec_;clear en_))
       have GB8:=aS gb8;have GG8:=aS HG8;clear gb8 gl8 HG8;obtain⟨hx8_0,hf8_0⟩:=Kd.R_celln 0 HO_3.out (x4_1:Int) p8 q8;replace p8:=eq_true p8;replace q8:=eq_true q8;have HP10:=Kd.R_putg HO_3.out (x4_1:Int) (-1);go_wp2_with (first|((with_reducible refine gate_store (t:=3) (p:=18) rfl ?_);refine store_event (t:=3) (p:=18) (v:= ?vo_w11) (w1:=(wr.setCell ⟨go8,(x4_1:Int).toNat,none⟩ (.int .i64 (-1)))) ?hg ?ho ?hn ?hr ?_;(case ho=>rfl);(case hg=>rfl);(case hn=>rfl);(case hr=>go_simp<;>rfl);intro w11 hw;have hg:wr.grownBy w11 (some go8):=(by rw[hw];exact HP10.2);have hp_:Kd.R (Kd.int .i64) 3 w11 w.heap.size (fun _=>True) (.slice (some ⟨go8,0,none⟩) x3_1.length co9) y376:=(by rw[hw,Ny376.out];exact HP10.1);clear HP10;replace HO_3:=aS (hp_);replace HB:=aS ((by rw[hw];exact below_set (HB.out) GB8.out:Below w.heap.size w w11));clear hg hw hp_))
       go_roundg k1
       case measure=>have:=HK1.out;omega
       case rel=>exact⟨(y376),(wrap64 (x4_1+1)),(by first|rfl|(simp;done)|(simp[*];done)),H',⟨by have:=HK1.out;omega⟩,⟨by exact rU HO_3.out⟩,⟨by exact bU HB.out⟩⟩
      ·rw[if_neg c7]at H
       exact absurd H (by simp)
     ·rw[if_neg c6]at H
      have c6b0:decide (x4_1<(x3_1.length:Int))=false:=decide_eq_false c6;clear c6;by_cases c12:0<(x3_1.length:Int)
      ·rw[if_pos c12]at H
       have c12b0:decide (0<(x3_1.length:Int))=true:=decide_eq_true c12;have c12b1:decide (0<x3_1.length)=true:=decide_eq_true (by omega)
       clear c12;obtain⟨y377,hy377⟩: ∃y_:List Int,y_=(x3_1.set (0:Int).toNat 1):=⟨_,rfl⟩;replace H:(spec_l3Full.l1 k1 l0 y377 true)=some r:=by first|(rw[hy377];with_reducible exact H)|(have H2_:=(Option.bind_some _ _).symm.trans H;rw[hy377];with_reducible exact H2_)|(have H2_:=(Option.bind_some _ _).symm.trans H;with_reducible exact H2_)|with_reducible exact H|(rw[hy377];exact H)|exact H
       have Ny377:=aS hy377;clear hy377;have H':=aS H;clear H;obtain⟨Ao14,co14,eo14⟩:=Kd.R_slice HO_3.out;subst eo14;have p13:0≤(0:Int):=(by omega)
       have q13:(0:Int)<((x3_1.length:Int):Int):=of_decide_eq_true (by assumption)
       have qi13:(0<x3_1.length)=True:=eq_true (by omega)
       obtain⟨go13,co13,eo13,gb13,gl13,cl13,HG13⟩:=Kd.R_form HO_3.out (by omega)
       (first|cases eo13|(injection eo13 with ea_ en_ ec_;(first|subst ea_|(injection ea_ with ea_;subst ea_));subst ec_;clear en_))
       have GB13:=aS gb13;have GG13:=aS HG13;clear gb13 gl13 HG13;obtain⟨hx13_0,hf13_0⟩:=Kd.R_celln 0 HO_3.out (0:Int) p13 q13;(try rw[show((0:Int)).toNat=0 from rfl]at hx13_0)
       (try simp only[Nat.reduceMul,Nat.zero_mul,Nat.zero_add,Nat.reduceAdd]at hx13_0)
       (try rw[show((0:Int)).toNat=0 from rfl]at hf13_0)
       (try simp only[Nat.reduceMul,Nat.zero_mul,Nat.zero_add,Nat.reduceAdd]at hf13_0)
       replace p13:=eq_true p13;replace q13:=eq_true q13;have HP15:=Kd.R_putg HO_3.out (0:Int) 1;go_wp2_with (first|((with_reducible refine gate_store (t:=3) (p:=20) rfl ?_);refine store_event (t:=3) (p:=20) (v:= ?vo_w16) (w1:=(wr.setCell ⟨go13,(0:Int).toNat,none⟩ (.int .i64 1))) ?hg ?ho ?hn ?hr ?_;(case ho=>rfl);(case hg=>rfl);(case hn=>rfl);(case hr=>go_simp<;>rfl);intro w16 hw;have hg:wr.grownBy w16 (some go13):=(by rw[hw];exact HP15.2);have hp_:Kd.R (Kd.int .i64) 3 w16 w.heap.size (fun _=>True) (.slice (some ⟨go13,0,none⟩) x3_1.length co14) y377:=(by rw[hw,Ny377.out];exact HP15.1);clear HP15;replace HO_3:=aS (hp_);replace HB:=aS ((by rw[hw];exact below_set (HB.out) GB13.out:Below w.heap.size w w16));clear hg hw hp_))
       go_loopg [5] k1 (fun kq v5 w'=> ∃ (x3_2:List Int) (x5_2:Bool),v5= .bool x5_2∧Aside0 (spec_l3Full.l1 kq l0 x3_2 x5_2=some r)∧Aside0 (kq≤k1)∧Aside0 (Kd.R (Kd.int .i64) 3 w' w.heap.size (fun _=>True) (.slice (some ⟨go13,0,none⟩) x3_1.length co14) x3_2)∧Aside0 (Below w.heap.size w w'))
       case atStart=>exact⟨(y377),(true),(by first|rfl|(simp;done)|(simp[*];done)),H',⟨Nat.le_refl _⟩,⟨by exact rU HO_3.out⟩,⟨by exact bU HB.out⟩⟩
       case round=>
        clear H';(try clear c1);(try clear p1);(try clear q1);(try clear hx1);(try clear qi1);(try clear hf1);(try clear c2);(try clear c2b0);(try clear c2b1);(try clear p2);(try clear c3);(try clear c3b0);(try clear c3b1);(try clear c6);(try clear c6b0);(try clear p6);(try clear c7);(try clear c7b0);(try clear c8);(try clear p8);(try clear q8);(try clear hx8);(try clear hf8);(try clear c12);(try clear c12b0);(try clear c12b1);(try clear p13);(try clear q13);(try clear hx13);(try clear qi13);(try clear hf13);(try clear hx13_0);(try clear hx8_0);(try clear p13);(try clear p2);(try clear p8);(try clear q13);(try clear q8)
        obtain⟨x3_2,x5_2,rfl,HA,HK2,HO_3,HB⟩:=hrel;have hl3_2:=(Kd.R_reads' HO_3.out).1;rw[hl3_2]at HO_3
        (try simp only[hl3_2])
        cases gk with
        |zero=>exact absurd HA.out (by simp[spec_l3Full.l1])
        |succ k2=>
         have H:=HA.out;clear HA;simp only[spec_l3Full.l1]at H
         by_cases c17:x5_2=true
         ·subst c17
          have H1:(spec_l3Full.l2 k2 l0 x3_2 false 0)=some r:=by rw[if_pos rfl]at H;exact H
          clear H;have H:=H1;clear H1;have H':=aS H;clear H;go_wp2
          go_loopg [5,6] k2 (fun kq v5 v6 w'=> ∃ (x3_3:List Int) (x5_3:Bool) (x6_3:Int),v5= .bool x5_3∧v6= .int .i64 x6_3∧Aside0 (spec_l3Full.l2 kq l0 x3_3 x5_3 x6_3=some r)∧Aside0 (kq≤k2)∧Aside0 (Kd.R (Kd.int .i64) 3 w' w.heap.size (fun _=>True) (.slice (some ⟨go13,0,none⟩) x3_2.length co14) x3_3)∧Aside0 (Below w.heap.size w w'))
          case atStart=>exact⟨(x3_2),(false),(0),(by first|rfl|(simp;done)|(simp[*];done)),(by first|rfl|(simp;done)|(simp[*];done)),H',⟨Nat.le_refl _⟩,⟨by(try simp only[hl3_2]);exact rU HO_3.out⟩,⟨by exact bU HB.out⟩⟩
          case round=>
           clear H';(try clear c1);(try clear p1);(try clear q1);(try clear hx1);(try clear qi1);(try clear hf1);(try clear c2);(try clear c2b0);(try clear c2b1);(try clear p2);(try clear c3);(try clear c3b0);(try clear c3b1);(try clear c6);(try clear c6b0);(try clear p6);(try clear c7);(try clear c7b0);(try clear c8);(try clear p8);(try clear q8);(try clear hx8);(try clear hf8);(try clear c12);(try clear c12b0);(try clear c12b1);(try clear p13);(try clear q13);(try clear hx13);(try clear qi13);(try clear hf13);(try clear c17);(try clear hx13_0);(try clear hx8_0);(try clear p1);(try clear p13);(try clear p2);(try clear p6);(try clear p8);(try clear q1);(try clear q13);(try clear q8)
           obtain⟨x3_3,x5_3,x6_3,rfl,rfl,HA,HK3,HO_3,HB⟩:=hrel;have hl3_3:=(Kd.R_reads' HO_3.out).1;rw[hl3_3]at HO_3
           (try simp only[hl3_3])
           cases gk with
           |zero=>exact absurd HA.out (by simp[spec_l3Full.l2])
           |succ k3=>
            have H:=HA.out;clear HA;simp only[spec_l3Full.l2]at H
            by_cases c18:x6_3<(l0.length:Int)
            ·rw[if_pos c18]at H
             have c18b0:decide (x6_3<(l0.length:Int))=true:=decide_eq_true c18;clear c18;have HC19:=aS H;clear H;go_upto_region 13 with (fail)
             go_cut [38] (fun v38 wc=> ∃ (kq:Nat) (x3_18:List Int) (x38_18:Bool),v38= .bool x38_18∧Aside0 (spec_l3Full.j3 kq l0 x3_18 x5_3 x6_3 x38_18=some r)∧Aside0 (kq≤k3)∧Aside0 (Kd.R (Kd.int .i64) 3 wc w.heap.size (fun _=>True) (.slice (some ⟨go13,0,none⟩) x3_3.length co14) x3_18)∧Aside0 (Below w.heap.size w wc))
             case first=>
              have H:=HC19.out;clear HC19;by_cases c20:0≤x6_3
              ·rw[if_pos c20]at H
               have c20b0:decide (0≤x6_3)=true:=decide_eq_true c20;clear c20;(first|rw[c20b0]|(simp only[i64_w,i32_w];rw[c20b0])|skip)
               by_cases c21:x6_3<(x3_3.length:Int)
               ·rw[if_pos c21]at H
                have c21b0:decide (x6_3<(x3_3.length:Int))=true:=decide_eq_true c21;clear c21;by_cases c22:(rd x3_3 x6_3)≥0
                ·rw[if_pos c22]at H
                 have c22b0:decide (0≤(rd x3_3 x6_3))=true:=decide_eq_true c22;clear c22;replace H:=Option.bind_eq_some_iff.mp H;obtain⟨⟨t379,t380⟩,A230,H⟩:=H;replace H:(spec_l3Full.j3 k3 l0 t380 x5_3 x6_3 t379)=some r:=H;have A23:=aS A230;clear A230;have H':=aS H;clear H;have p378:0≤(x6_3:Int):=of_decide_eq_true (by assumption)
                 have q378:x6_3<(x3_3.length:Int):=of_decide_eq_true (by assumption)
                 obtain⟨ad378,e378,hx378_0⟩:=Kd.at_int (Kd.R_reads' HO_3.out).2.2 x6_3 p378 q378;obtain rfl:(⟨go13,0,none⟩:Addr)=ad378:=(by injection e378)
                 (first|simp only[add_plain]at hx378_0|simp only[add_at]at hx378_0|simp only[Addr.add,Nat.zero_add]at hx378_0|skip)
                 replace p378:=eq_true p378;replace q378:=eq_true q378;go_wp2_with (first|(go_at_call 98;(with_reducible refine(spec_l3From.calls k3 _ _ l0 (fun k_=>some k_=(.slice (some ⟨go13,0,none⟩) x3_3.length co14:Value).ownBlock) (.slice (some ⟨go13,0,none⟩) x3_3.length co14) x3_3 x6_3 t379 t380 w _ ?side1 ?side2 ?side3 ?side4 A23.out).mono ?_);(case side1=>exact bU HB.out);(case side2=>exact Kd.C_kept_came k29_heap HR0.out (by exact bU HB.out) (fun k_ hs_=>(fun e_=>Kd.R_base HO_3.out k_ e_.symm) hs_));(case side3=>exact HC0.out);(case side4=>exact Kd.R_tight rfl HO_3.out);rintro e w24 ⟨rfl,hy0,hb,hkp⟩;replace HO_3:=aS (Kd.R_reok rfl hy0 (fun k_ e_=>HO_3.out.1 k_ e_));replace HB:=aS (hb);(try clear hb);(try clear hkp);(try clear hy0)))
                 go_meet
                 case rel=>exact⟨_,(t380),(t379),(by first|rfl|(simp;done)|(simp[*];done)),H',⟨by have:=HK1.out;have:=HK2.out;have:=HK3.out;first|omega|exact Nat.le_refl _⟩,⟨by(try simp only[hl3_2]);(try simp only[hl3_3]);exact rU HO_3.out⟩,⟨by exact bU HB.out⟩⟩
                ·rw[if_neg c22]at H
                 have c22b0:decide (0≤(rd x3_3 x6_3))=false:=decide_eq_false c22;clear c22;have H':=aS H;clear H;have p378:0≤(x6_3:Int):=of_decide_eq_true (by assumption)
                 have q378:x6_3<(x3_3.length:Int):=of_decide_eq_true (by assumption)
                 obtain⟨ad378,e378,hx378_0⟩:=Kd.at_int (Kd.R_reads' HO_3.out).2.2 x6_3 p378 q378;obtain rfl:(⟨go13,0,none⟩:Addr)=ad378:=(by injection e378)
                 (first|simp only[add_plain]at hx378_0|simp only[add_at]at hx378_0|simp only[Addr.add,Nat.zero_add]at hx378_0|skip)
                 replace p378:=eq_true p378;replace q378:=eq_true q378;go_wp2
                 go_meet
                 case rel=>exact⟨_,(x3_3),(false),(by first|rfl|(simp;done)|(simp[*];done)),H',⟨by have:=HK1.out;have:=HK2.out;have:=HK3.out;first|omega|exact Nat.le_refl _⟩,⟨by(try simp only[hl3_2]);(try simp only[hl3_3]);exact rU HO_3.out⟩,⟨by exact bU HB.out⟩⟩
               ·rw[if_neg c21]at H
                exact absurd H (by simp)
              ·rw[if_neg c20]at H
               exact absurd H (by simp)
             case rest=>
              clear HC19;(try clear c1);(try clear p1);(try clear q1);(try clear hx1);(try clear qi1);(try clear hf1);(try clear c2);(try clear c2b0);(try clear c2b1);(try clear p2);(try clear c3);(try clear c3b0);(try clear c3b1);(try clear p3);(try clear q3);(try clear hx3);(try clear c6);(try clear c6b0);(try clear p6);(try clear c7);(try clear c7b0);(try clear c8);(try clear p8);(try clear q8);(try clear hx8);(try clear hf8);(try clear c12);(try clear c12b0);(try clear c12b1);(try clear p13);(try clear q13);(try clear hx13);(try clear qi13);(try clear hf13);(try clear c17);(try clear c18);(try clear c18b0);(try clear c20);(try clear c20b0);(try clear c21);(try clear c21b0);(try clear c22);(try clear c22b0);(try clear hx13_0);(try clear hx378_0);(try clear hx8_0);(try clear p1);(try clear p13);(try clear p2);(try clear p378);(try clear p6);(try clear p8);(try clear q1);(try clear q13);(try clear q378);(try clear q8)
              obtain⟨kq,x3_18,x38_18,rfl,HA,HJ18,HO_3,HB⟩:=hcut;have hl3_18:=(Kd.R_reads' HO_3.out).1;rw[hl3_18]at HO_3
              (try simp only[hl3_18])
              cases kq with
              |zero=>exact absurd HA.out (by simp[spec_l3Full.j3])
              |succ kj18=>
               have H:=HA.out;clear HA;simp only[spec_l3Full.j3]at H
               by_cases c25:x38_18=true
               ·subst c25
                have H1:(spec_l3Full.l2 kj18 l0 x3_18 true (wrap64 (x6_3+1)))=some r:=by rw[if_pos rfl]at H;exact H
                clear H;have H:=H1;clear H1;have H':=aS H;clear H;go_wp2
                (try simp only[←hl3_3,←hl3_18])
                go_roundg kj18
                case measure=>have:=HK1.out;have:=HK2.out;have:=HK3.out;have:=HJ18.out;omega
                case rel=>exact⟨(x3_18),(true),(wrap64 (x6_3+1)),(by first|rfl|(simp;done)|(simp[*];done)),(by first|rfl|(simp;done)|(simp[*];done)),H',⟨by have:=HK1.out;have:=HK2.out;have:=HK3.out;have:=HJ18.out;omega⟩,⟨by(try simp only[hl3_2]);(try simp only[hl3_3]);(try simp only[hl3_18]);exact rU HO_3.out⟩,⟨by exact bU HB.out⟩⟩
               ·replace c25:=Bool.eq_false_iff.mpr c25
                subst c25;have H1:(spec_l3Full.l2 kj18 l0 x3_18 x5_3 (wrap64 (x6_3+1)))=some r:=by rw[if_neg (show¬(false=true) by decide)]at H;exact H
                clear H;have H:=H1;clear H1;have H':=aS H;clear H;go_wp2
                (try simp only[←hl3_3,←hl3_18])
                go_roundg kj18
                case measure=>have:=HK1.out;have:=HK2.out;have:=HK3.out;have:=HJ18.out;omega
                case rel=>exact⟨(x3_18),(x5_3),(wrap64 (x6_3+1)),(by first|rfl|(simp;done)|(simp[*];done)),(by first|rfl|(simp;done)|(simp[*];done)),H',⟨by have:=HK1.out;have:=HK2.out;have:=HK3.out;have:=HJ18.out;omega⟩,⟨by(try simp only[hl3_2]);(try simp only[hl3_3]);(try simp only[hl3_18]);exact rU HO_3.out⟩,⟨by exact bU HB.out⟩⟩
            ·rw[if_neg c18]at H
             have c18b0:decide (x6_3<(l0.length:Int))=false:=decide_eq_false c18;clear c18;have H':=aS H;clear H;go_wp2
             (try simp only[←hl3_2,←hl3_3])
             go_roundg k3
             case measure=>have:=HK1.out;have:=HK2.out;have:=HK3.out;omega
             case rel=>exact⟨(x3_3),(x5_3),(by first|rfl|(simp;done)|(simp[*];done)),H',⟨by have:=HK1.out;have:=HK2.out;have:=HK3.out;omega⟩,⟨by(try simp only[hl3_2]);(try simp only[hl3_3]);exact rU HO_3.out⟩,⟨by exact bU HB.out⟩⟩
         ·replace c17:=Bool.eq_false_iff.mpr c17
          subst c17;have H1:(some x3_2)=some r:=by rw[if_neg (show¬(false=true) by decide)]at H;exact H
          clear H;have H:=H1;clear H1;obtain rfl:=Option.some.inj H;go_wp2
          go_ret
          exact⟨_,by first|rfl|(simp[*]<;>rfl),by exact rU HO_3.out,by exact bU HB.out⟩
      ·rw[if_neg c12]at H
       exact absurd H (by simp)
  ·rw[if_neg c3]at H
   exact absurd H (by simp)
 ·rw[if_neg c2]at H
  exact absurd H (by simp)
end Go.Proofs.Ytmklpbmlgjkbiaa.PS
end
section
namespace Go.Proofs.Ytmklpbmlgjkbiaa.PS
open Go.RowKit Go.Proofs.YtmklpbmlgjkbiaaW.PrintWords Go.Proofs.YtmklpbmlgjkbiaaW.PrintLast
theorem both_eq {a x:Int} (ha: -1≤a) (ha':a≤15) (h0:0≤x) (h1:x≤15):spec_l3Both.f 12 a x=some (both a x):=by
  by_cases h:a= -1
  · subst h;unfold spec_l3Both.f;rfl
  · have:fours (fun a=>fours fun x=>decide (spec_l3Both.f 12 a x=some (both a x)))=true:=by decide+kernel
    exact of_decide_eq_true (fours_all (fours_all this (by omega) ha') h0 h1)
theorem both_ev {a x:Int} (ha: -1≤a) (ha':a≤15) (h0:0≤x) (h1:x≤15):Ev (fun k=>spec_l3Both.f k a x) (both a x):=
  Ev.of (fun k=>spec_l3Both.mono a x k) (both_eq ha ha' h0 h1)
theorem with_eq {x r:Int} (hx:0≤x) (hx2:x≤15) (hr:0≤r) (hr2:r≤3):spec_l3With.f x r=some (orBit x r):=by
  have:fours (fun x=>fours fun r=>decide (r≤3→spec_l3With.f x r=some (orBit x r)))=true:=by decide+kernel
  exact of_decide_eq_true (fours_all (fours_all this hx hx2) hr (by omega)) hr2
theorem fills_eq {k:Int} (h:1≤k∧k≤14):spec_l3Fills.f k=some (howR k).f3:=by
  have:k=1∨k=2∨k=3∨k=4∨k=5∨k=6∨k=7∨k=8∨k=9∨k=10∨k=11∨k=12∨k=13∨k=14:=by omega
  rcases this with rfl|rfl|rfl|rfl|rfl|rfl|rfl|rfl|rfl|rfl|rfl|rfl|rfl|rfl<;>rfl
def msetL (o:List Int) (t:Int) (v:Int):List Int:=o.set t.toNat (both (at_ o t) v)
theorem merge_ev {n:Nat} {o:List Int} (ho:GoodO n o) {t v:Int} (h0:0≤t) (ht:t<n) (hv:0≤v) (hv2:v≤15):Ev (fun k=>spec_l3Merge.f k o t v) (decide (mu (msetL o t v)<mu o),msetL o t v):=by
  have hb:=both_ev (at_good ho t).1 (at_good ho t).2 hv hv2;obtain⟨K,hK⟩:=hb;refine⟨K,fun k hk=> ?_⟩
  have hK:spec_l3Both.f k (at_ o t) v=some (both (at_ o t) v):=hK k hk;show spec_l3Merge.f k o t v=_
  unfold spec_l3Merge.f;rw[if_neg (by rw[ho.1];omega),if_pos h0,if_pos (by rw[ho.1];omega)]
  have e:rd o t=at_ o t:=rfl;rw[e,hK];simp only[Option.bind_some]
  have hm:=mu_set (o:=o) (i:=t.toNat) (x:=both (at_ o t) v) (by rw[ho.1];omega)
  rw[Int.toNat_of_nonneg h0]at hm
  by_cases he:both (at_ o t) v=at_ o t
  · rw[if_pos he]
    have e2:msetL o t v=o:=by
      unfold msetL;rw[he];have:=set_at (o:=o) (i:=t.toNat);rwa [Int.toNat_of_nonneg h0]at this
    rw[e2];simp
  · rw[if_neg he]
    have:=both_mu (at_good ho t).1 (at_good ho t).2 hv hv2
    have h2:mu1 (both (at_ o t) v)<mu1 (at_ o t):=by
      rcases this with h|h
      · exact absurd h he
      · exact h
    have h3:mu (msetL o t v)<mu o:=by unfold msetL;omega
    rw[decide_eq_true h3];rfl
theorem merge_out (k:Nat) {o:List Int} {t v:Int} (ht:(o.length:Int)≤t):spec_l3Merge.f k o t v=some (false,o):=by
  unfold spec_l3Merge.f;rw[if_pos (by omega)]
theorem mset_good {n:Nat} {o:List Int} (ho:GoodO n o) {t v:Int} (h0:0≤t) (ht:t<n) (hv:0≤v) (hv2:v≤15):GoodO n (msetL o t v)∧Down o (msetL o t v)∧ ∀i,0≤i→0≤at_ o i→0≤at_ (msetL o t v) i:=by
  have hb:=both_range (a:=at_ o t) hv hv2;refine⟨⟨by simp[msetL,ho.1],fun x hx=> ?_⟩,?_,fun i hi h=> ?_⟩
  · rcases List.mem_or_eq_of_mem_set hx with h|h
    · exact ho.2 x h
    · omega
  · have hm:=mu_set (o:=o) (i:=t.toNat) (x:=both (at_ o t) v) (by rw[ho.1];omega)
    rw[Int.toNat_of_nonneg h0]at hm
    rcases both_mu (at_good ho t).1 (at_good ho t).2 hv hv2 with he|he
    · left;unfold msetL;rw[he]
      have:=set_at (o:=o) (i:=t.toNat);rwa [Int.toNat_of_nonneg h0]at this
    · right;unfold msetL;omega
  · by_cases e:t=i
    · subst e;unfold msetL;rw[at_set_self (by rw[ho.1];omega)];exact hb.1
    · have:=at_set_ne (o:=o) (i:=t.toNat) (j:=i.toNat) (x:=both (at_ o t) v) (by omega)
      rw[Int.toNat_of_nonneg hi]at this
      unfold msetL;rw[this];exact h
theorem both_comm {z a b:Int} (ha:0≤a) (hb:0≤b):both (both z a) b=both (both z b) a:=by
  unfold both;by_cases hz:z<0
  · rw[if_pos hz,if_pos hz,if_neg (by omega),if_neg (by omega),Nat.and_comm]
  · rw[if_neg hz,if_neg hz,if_neg (by omega),if_neg (by omega)]
    simp only[Int.toNat_natCast]
    rw[Nat.and_assoc,Nat.and_comm a.toNat,←Nat.and_assoc]
theorem mset_comm {n:Nat} {o:List Int} (ho:GoodO n o) {s t a b:Int} (hs:0≤s) (hs2:s<n) (ht:0≤t) (ht2:t<n) (ha:0≤a) (hb:0≤b):msetL (msetL o s a) t b=msetL (msetL o t b) s a:=by
  by_cases e:s=t
  · subst e
    unfold msetL;rw[at_set_self (by rw[ho.1];omega),at_set_self (by rw[ho.1];omega),List.set_set,List.set_set,both_comm ha hb]
  · have h1:=at_set_ne (o:=o) (i:=s.toNat) (j:=t.toNat) (x:=both (at_ o s) a) (by omega)
    have h2:=at_set_ne (o:=o) (i:=t.toNat) (j:=s.toNat) (x:=both (at_ o t) b) (by omega)
    rw[Int.toNat_of_nonneg ht]at h1
    rw[Int.toNat_of_nonneg hs]at h2
    unfold msetL;rw[h1,h2,List.set_comm _ _ (by omega)]
theorem ev_eq {α:Type} {g:Nat→Option α} {a b:α} (h:Ev g a) (e:a=b):Ev g b:=e▸h
theorem from_ev {l:List S29} (hc:codeB l=true) {o:List Int} (ho:GoodO l.length o) {i:Nat} (hi:i<l.length) (h0:0≤at_ o i):
    Ev (fun k=>spec_l3From.f k l o i) (decide (mu (stepW (wayW l) o i)<mu o),stepW (wayW l) o i):=by
  obtain⟨⟨k1,k2,k3,k4,k5,k6⟩,kt⟩:=code_op hc hi;have hlen:=code_len hc;obtain⟨x,hx⟩: ∃x,x=l[i]:=⟨_,rfl⟩;rw[←hx]at k1 k2 k3 k4 k5 k6 kt
  have hrd:rd_T29 l (i:Int)=x:=by rw[rd29_get hi,hx]
  obtain⟨u,hu⟩: ∃u,u=at_ o i:=⟨_,rfl⟩;have hu15:=(at_good ho i).2;rw[←hu]at h0 hu15
  obtain⟨on,hon⟩: ∃on,on=flF (if(howR x.f0).f3=true then .fill else .same) x.f1 u:=⟨_,rfl⟩
  have hon15:0≤on∧on≤15∧(spec_l3Fills.f x.f0).bind (fun t=>if t=true then spec_l3With.f u x.f1 else some u)=some on:=by
    rw[fills_eq k1];simp only[Option.bind_some]
    by_cases hf:(howR x.f0).f3=true
    · have hr : 0 ≤ x.f1 ∧ x.f1 ≤ 3 := by
        have:=fills_has hf;rcases k3 with k3|k3
        · omega
        · exact k3.2
      rw[if_pos hf]at hon⊢
      rw[hon];exact⟨(orBit_range h0 hu15 hr.1 hr.2).1,(orBit_range h0 hu15 hr.1 hr.2).2,with_eq h0 hu15 hr.1 hr.2⟩
    · rw[if_neg hf]at hon⊢
      rw[hon];exact⟨h0,hu15,rfl⟩
  obtain⟨on0,on1,honf⟩:=hon15;have wn:wrap64 ((i:Int)+1)=(i:Int)+1:=w64 (by omega) (by omega)
  have next: ∀o':List Int,GoodO l.length o'→Ev (fun k=>spec_l3Merge.f k o' (wrap64 ((i:Int)+1)) on) (if(i:Int)+1<l.length then(decide (mu (msetL o' ((i:Int)+1) on)<mu o'),msetL o' ((i:Int)+1) on)else(false,o')):=fun o' ho'=>by
    rw[wn];by_cases hn:(i:Int)+1<l.length
    · rw[if_pos hn];exact merge_ev ho' (by omega) hn on0 on1
    · rw[if_neg hn];exact⟨0,fun k _=>merge_out k (by rw[ho'.1];omega)⟩
  have j2 : ∀ (o' : List Int) (b : Bool), GoodO l.length o' → Down o o' → b = decide (mu o' < mu o) → Ev (fun k => spec_l3From.j2 k o' i on b)
      (decide (mu (if(i:Int)+1<l.length then msetL o' ((i:Int)+1) on else o')<mu o),if(i:Int)+1<l.length then msetL o' ((i:Int)+1) on else o'):=fun o' b ho' hd hb=>by
    refine Ev.step (f:=fun k=>(spec_l3Merge.f k o' (wrap64 ((i:Int)+1)) on).bind fun bt371=>(if bt371.1=true then(some (true,bt371.2))else(some (b,bt371.2)))) (fun k=>by simp only[spec_l3From.j2]) ?_
    refine Ev.bind (next o' ho') ?_
    by_cases hn:(i:Int)+1<l.length
    · simp only[if_pos hn]
      have hd2:=(mset_good ho' (t:=(i:Int)+1) (by omega) hn on0 on1).2.1
      obtain⟨nw,hnw⟩: ∃nw,nw=msetL o' ((i:Int)+1) on:=⟨_,rfl⟩;rw[←hnw]at hd2⊢
      by_cases hm:mu nw<mu o'
      · have h3 : mu nw < mu o := by
          rcases hd with hd|hd
          · rw[hd]at hm;exact hm
          · omega
        rw[decide_eq_true hm,decide_eq_true h3];exact Ev.now _
      · have e : nw = o' := by
          rcases hd2 with h|h
          · exact h
          · exact absurd h hm
        rw[decide_eq_false hm,hb,e];exact Ev.now _
    · simp only[if_neg hn]
      rw[hb];exact Ev.now _
  have goK: ∀ {g:Nat→Option (Bool×List Int)} {fin:List Int},Ev g (decide (mu fin<mu o),fin)→fin=stepW (wayW l) o i→Ev g (decide (mu (stepW (wayW l) o i)<mu o),stepW (wayW l) o i):=fun h e=>e▸h
  have hstep:stepW (wayW l) o i=(wayW l i).foldl (mergeW i) o:=by unfold stepW;rw[if_neg (by rw[←hu];omega)]
  have hways:wayW l i=((if x.f0=9∨x.f0=14 then []else if(i:Int)+1<l.length then [((i:Int)+1,if(howR x.f0).f3=true then Fl.fill else .same)]else [])++(if x.f0=5 then [(x.f3,Fl.one)]else if hasT x.f0=true then [(x.f3,.same)]else [])).map fun a=>(a.1,flF a.2 x.f1):=by
    unfold wayW waysL arrowsL;rw[hrd]
  have nxt: ∀o':List Int,at_ o' i=u→mergeW i o' ((i:Int)+1,flF (if(howR x.f0).f3=true then .fill else .same) x.f1)=msetL o' ((i:Int)+1) on:=fun o' h=>by
    unfold mergeW msetL;simp only[];rw[h,hon]
  have stay:at_ (msetL o ((i:Int)+1) on) i=u:=by
    have:=at_set_ne (o:=o) (i:=((i:Int)+1).toNat) (j:=i) (x:=both (at_ o ((i:Int)+1)) on) (by omega)
    unfold msetL;rw[this,hu]
  have hf: ∀k,spec_l3From.f k l o i=spec_l3From.j0 k o i u on x.f0 x.f1 x.f2 x.f3 x.f4.f0 x.f4.f1:=fun k=>by
    unfold spec_l3From.f;rw[if_pos (by omega),if_pos (by omega),if_pos (by rw[ho.1];omega),hrd]
    have e:rd o (i:Int)=u:=hu.symm;rw[e];rw[fills_eq k1]at honf⊢
    simp only[Option.bind_some]at honf⊢
    by_cases hff:(howR x.f0).f3=true
    · rw[if_pos hff]at honf⊢
      rw[honf];rfl
    · rw[if_neg hff]at honf⊢
      obtain rfl:=Option.some.inj honf;rfl
  refine Ev.congr hf ?_
  have tT:hasT x.f0=true→0≤x.f3∧x.f3<l.length:=fun h=>⟨by omega,kt h⟩
  have h1:(0:Int)≤1∧(1:Int)≤15:=by omega
  by_cases e5:x.f0=5
  · have ht:=tT (by rw[e5];rfl)
    refine Ev.step (f:=fun k=>(spec_l3Merge.f k o x.f3 1).bind fun bt365=>(spec_l3From.j2 k bt365.2 i on bt365.1)) (fun k=>by simp only[spec_l3From.j0];rw[if_pos e5]) ?_
    refine Ev.bind (merge_ev ho ht.1 ht.2 h1.1 h1.2) ?_
    obtain⟨g1,d1, -⟩:=mset_good ho ht.1 ht.2 h1.1 h1.2;refine goK (j2 _ _ g1 d1 rfl) ?_
    rw[hstep,hways,if_neg (c:=x.f0=9∨x.f0=14) (by omega),if_pos (c:=x.f0=5) e5]
    by_cases hn:(i:Int)+1<l.length
    · simp only[if_pos hn,List.singleton_append,List.map_cons,List.map_nil,List.foldl_cons,List.foldl_nil]
      rw[nxt o hu.symm,mset_comm ho ht.1 ht.2 (by omega) hn h1.1 on0]
      rfl
    · simp only[if_neg hn,List.nil_append,List.map_cons,List.map_nil,List.foldl_cons,List.foldl_nil]
      rfl
  by_cases e9:x.f0=9
  · have ht:=tT (by rw[e9];rfl)
    refine Ev.step (f:=fun k=>(spec_l3Merge.f k o x.f3 u).bind fun bt367=>(some (bt367.1,bt367.2))) (fun k=>by simp only[spec_l3From.j0];rw[if_neg e5,if_pos e9]) ?_
    refine Ev.bind (merge_ev ho ht.1 ht.2 h0 hu15) ?_
    refine goK (Ev.now _) ?_
    rw[hstep,hways,if_pos (c:=x.f0=9∨x.f0=14) (.inl e9),if_neg (c:=x.f0=5) e5,if_pos (c:=hasT x.f0=true) (by rw[e9];rfl)]
    simp only[List.nil_append,List.map_cons,List.map_nil,List.foldl_cons,List.foldl_nil]
    unfold mergeW msetL;simp only[flF];rw[hu]
  have j1:Ev (fun k=>spec_l3From.j1 k o i u on false x.f0 (x.f0==8||x.f0==10) x.f0 x.f1 x.f2 x.f3 x.f4.f0 x.f4.f1) (decide (mu (stepW (wayW l) o i)<mu o),stepW (wayW l) o i):=by
    by_cases e810:x.f0=8∨x.f0=10
    · have hb:(x.f0==8||x.f0==10)=true:=by simpa using e810
      have hT:hasT x.f0=true:=by rcases e810 with e|e<;>(rw[e];rfl)
      have ht:=tT hT;refine Ev.step (f:=fun k=>(spec_l3Merge.f k o x.f3 u).bind fun bt369=>(spec_l3From.j2 k bt369.2 i on bt369.1)) (fun k=>by simp only[spec_l3From.j1];rw[if_pos hb]) ?_
      refine Ev.bind (merge_ev ho ht.1 ht.2 h0 hu15) ?_
      obtain⟨g1,d1, -⟩:=mset_good ho ht.1 ht.2 h0 hu15;refine goK (j2 _ _ g1 d1 rfl) ?_
      rw[hstep,hways,if_neg (c:=x.f0=9∨x.f0=14) (by omega),if_neg (c:=x.f0=5) e5,if_pos (c:=hasT x.f0=true) hT]
      by_cases hn:(i:Int)+1<l.length
      · simp only[if_pos hn,List.singleton_append,List.map_cons,List.map_nil,List.foldl_cons,List.foldl_nil]
        rw[nxt o hu.symm,mset_comm ho ht.1 ht.2 (by omega) hn h0 on0]
        show _=msetL _ x.f3 (at_ _ i)
        rw[stay]
      · simp only[if_neg hn,List.nil_append,List.map_cons,List.map_nil,List.foldl_cons,List.foldl_nil]
        show _=msetL _ x.f3 (at_ _ i)
        rw[←hu]
    · have hb: ¬(x.f0==8||x.f0==10)=true:=by simpa using e810
      have hT:hasT x.f0=false:=by
        unfold hasT;exact decide_eq_false (by omega)
      by_cases e14:x.f0=14
      · refine Ev.step (f:=fun k=>some (false,o)) (fun k=>by simp only[spec_l3From.j1];rw[if_neg hb,if_pos e14]) ?_
        have e:o=stepW (wayW l) o i:=by
          rw[hstep,hways,if_pos (c:=x.f0=9∨x.f0=14) (.inr e14),if_neg (c:=x.f0=5) e5,if_neg (c:=hasT x.f0=true) (by rw[hT];decide)];rfl
        rw[←e];refine ev_eq (Ev.now _) ?_
        simp
      · refine Ev.step (f:=fun k=>spec_l3From.j2 k o i on false) (fun k=>by simp only[spec_l3From.j1];rw[if_neg hb,if_neg e14]) ?_
        refine goK (j2 o false ho (.refl _) (by simp)) ?_
        rw[hstep,hways,if_neg (c:=x.f0=9∨x.f0=14) (by omega),if_neg (c:=x.f0=5) e5,if_neg (c:=hasT x.f0=true) (by rw[hT];decide)]
        by_cases hn:(i:Int)+1<l.length
        · simp only[if_pos hn,List.append_nil,List.map_cons,List.map_nil,List.foldl_cons,List.foldl_nil]
          rw[nxt o hu.symm]
        · simp only[if_neg hn,List.append_nil,List.map_nil,List.foldl_nil]
  refine Ev.step (f:=fun k=>spec_l3From.j1 k o i u on false x.f0 (x.f0==8||x.f0==10) x.f0 x.f1 x.f2 x.f3 x.f4.f0 x.f4.f1) (fun k=> ?_) j1
  simp only[spec_l3From.j0]
  rw[if_neg e5,if_neg e9];by_cases e8:x.f0=8
  · rw[if_pos e8];simp[e8]
  · rw[if_neg e8]
    have:(x.f0==8)=false:=by simpa using e8
    rw[this];rfl
theorem l2_ev {l:List S29} (hc:codeB l=true) {o:List Int} (ho:GoodO l.length o) {r:List Int} (h:Ev (fun k=>spec_l3Full.l1 k l (passW (wayW l) l.length o) (decide (mu (passW (wayW l) l.length o)<mu o))) r) (d:Nat):
    ∀j,l.length-j=d→j≤l.length→Ev (fun k=>spec_l3Full.l2 k l (passW (wayW l) j o) (decide (mu (passW (wayW l) j o)<mu o)) j) r:=by
  have hlen:=code_len hc;induction d with
  |zero=>
    intro j hj hj2;obtain rfl:j=l.length:=by omega
    refine Ev.step (fun k=> ?_) h
    simp only[spec_l3Full.l2]
    rw[if_neg (by omega)]
  |succ d ih=>
    intro j hj hj2;obtain⟨gp,dp⟩:=passes_good (wayW_good hc) ho j (by omega)
    have ih1:=ih (j+1) (by omega) (by omega)
    have ew:wrap64 ((j:Int)+1)=((j+1:Nat):Int):=by rw[w64 (by omega) (by omega)];omega
    obtain⟨p,hp⟩: ∃p,p=passW (wayW l) j o:=⟨_,rfl⟩;rw[pass_succ,←hp]at ih1
    rw[←hp]at gp dp⊢
    have e:rd p (j:Int)=at_ p j:=rfl;by_cases hn:0≤at_ p j
    · have hfr:=from_ev hc gp (i:=j) (by omega) hn
      refine Ev.step (f:=fun k=>(spec_l3From.f k l p j).bind fun bt379=>(spec_l3Full.j3 k l bt379.2 (decide (mu p<mu o)) j bt379.1)) (fun k=> ?_) ?_
      · simp only[spec_l3Full.l2]
        rw[if_pos (by omega),if_pos (by omega),if_pos (by rw[gp.1];omega),e,if_pos hn]
      · refine Ev.bind hfr ?_
        obtain⟨g2,d2⟩:=step_good (wayW_good hc) (i:=j) (by omega) gp
        obtain⟨s,hs⟩: ∃s,s=stepW (wayW l) p j:=⟨_,rfl⟩;rw[←hs]at ih1 g2 d2⊢
        by_cases hm:mu s<mu p
        · refine Ev.step (fun k=> ?_) ih1
          have:mu s<mu o:=by
            rcases dp with h|h
            · rw[h]at hm;exact hm
            · omega
          simp only[spec_l3Full.j3,decide_eq_true hm,decide_eq_true this,ew,if_true]
        · have es : s = p := by
            rcases d2 with h|h
            · exact h
            · exact absurd h hm
          rw[es]at ih1⊢
          refine Ev.step (fun k=> ?_) ih1
          simp only[spec_l3Full.j3,ew]
          rw[if_neg (by simp)]
    · have hst:stepW (wayW l) p j=p:=by unfold stepW;rw[if_pos (by omega)]
      rw[hst]at ih1
      refine Ev.step (f:=fun k=>spec_l3Full.j3 k l p (decide (mu p<mu o)) j false) (fun k=> ?_) ?_
      · simp only[spec_l3Full.l2]
        rw[if_pos (by omega),if_pos (by omega),if_pos (by rw[gp.1];omega),e,if_neg (by omega)]
      · refine Ev.step (fun k=> ?_) ih1
        simp only[spec_l3Full.j3,ew]
        rw[if_neg (by decide)]
theorem l1_ev {l:List S29} (hc:codeB l=true) (m:Nat): ∀ (o:List Int) (c:Bool),GoodO l.length o→mu o+c.toNat≤m→(c=false→passW (wayW l) l.length o=o)→Ev (fun k=>spec_l3Full.l1 k l o c) (finW (wayW l) l.length o):=by
  have one: ∀ (o:List Int),passW (wayW l) l.length o=o→Ev (fun k=>spec_l3Full.l1 k l o false) (finW (wayW l) l.length o):=fun o ho=>by
    refine Ev.step (f:=fun k=>some o) (fun k=> ?_) (ev_eq (Ev.now _) (fin_fix ho).symm)
    simp only[spec_l3Full.l1];rw[if_neg (by decide)]
  induction m with
  |zero=>
    intro o c ho hm hf;cases c with
    |false=>exact one o (hf rfl)
    |true=>simp at hm
  |succ m ih=>
    intro o c ho hm hf;cases c with
    |false=>exact one o (hf rfl)
    |true=>
      obtain⟨g,d⟩:=passes_good (wayW_good hc) ho l.length (Nat.le_refl _)
      have hrec:Ev (fun k=>spec_l3Full.l1 k l (passW (wayW l) l.length o) (decide (mu (passW (wayW l) l.length o)<mu o))) (finW (wayW l) l.length o):=by
        rw[←fin_pass (wayW_good hc) ho];rcases d with d|d
        · have hd:decide (mu (passW (wayW l) l.length o)<mu o)=false:=by rw[d];simp
          rw[hd];exact one _ (by rw[d,d])
        · rw[decide_eq_true d]
          exact ih _ true g (by simp at hm⊢;omega) (fun h=>by cases h)
      have:=l2_ev hc ho hrec l.length 0 (by omega) (by omega)
      refine Ev.step (fun k=> ?_) this
      simp only[spec_l3Full.l1,if_true]
      have e0:decide (mu (passW (wayW l) 0 o)<mu o)=false:=by simp[passW]
      rw[e0];rfl
theorem l0_ev {l:List S29} {r:List Int} (h1:1≤l.length) (h2:l.length≤16) (h:Ev (fun k=>spec_l3Full.l1 k l (startO l.length) true) r) (d:Nat):
    ∀j,l.length-1-j=d→j+1≤l.length→Ev (fun k=>spec_l3Full.l0 k l (0::(List.replicate j (-1)++List.replicate (l.length-1-j) 0)) ((j+1:Nat):Int)) r:=by
  induction d with
  |zero=>
    intro j hj hj2;refine Ev.step (fun k=> ?_) h
    have hl:(0::(List.replicate j (-1)++List.replicate (l.length-1-j) (0:Int))).length=l.length:=by simp;omega
    simp only[spec_l3Full.l0]
    rw[hl,if_neg (by omega),if_pos (by omega),hj]
    have:startO l.length=(0::(List.replicate j (-1)++List.replicate 0 (0:Int))).set (Int.toNat 0) 1:=by
      unfold startO;rw[show l.length=j+1 by omega,List.replicate_succ];simp
    rw[this]
  |succ d ih=>
    intro j hj hj2;have ih1:=ih (j+1) (by omega) (by omega)
    refine Ev.step (fun k=> ?_) ih1
    have hl:(0::(List.replicate j (-1)++List.replicate (l.length-1-j) (0:Int))).length=l.length:=by simp;omega
    simp only[spec_l3Full.l0]
    rw[hl,if_pos (by omega),if_pos (by omega),w64 (by omega) (by omega),Int.toNat_natCast]
    have:(0::(List.replicate j (-1)++List.replicate (l.length-1-j) (0:Int))).set (j+1) (-1)=0::(List.replicate (j+1) (-1)++List.replicate (l.length-1- (j+1)) 0):=by
      rw[List.set_cons_succ,List.set_append_right _ _ (by simp),List.length_replicate,Nat.sub_self,show l.length-1-j=(l.length-1- (j+1))+1 by omega,List.replicate_succ,List.set_cons_zero,List.replicate_succ',List.append_assoc]
      rfl
    rw[this];rfl
theorem sfull_ev {l:List S29} (hc:codeB l=true):Ev (fun k=>spec_l3Full.f k l) (fullL l):=by
  obtain⟨h1,h2⟩:=code_len hc;have:=l0_ev h1 h2 (l1_ev hc _ (startO l.length) true (start_good _) (Nat.le_refl _) (fun h=>by cases h)) (l.length-1) 0 (by omega) (by omega)
  refine Ev.congr (fun k=> ?_) this
  unfold spec_l3Full.f;rw[if_pos (by omega),if_pos (by omega),Int.toNat_natCast]
  obtain⟨n,hn⟩: ∃n,l.length=n+1:=⟨l.length-1,by omega⟩
  rw[hn,List.replicate_succ];simp
theorem scode_ev (l:List S29) (hm:l.length≤9223372036854775807):Ev (fun k=>spec_CodeOk.f k l) (codeB l):=Ev.of (fun k=>spec_CodeOk.mono l k) (scode_eq l hm)
def addsL (L:List Int) (M:List Int):List Int:=M.foldl (fun L x=>if x∈L then L else L++ [x]) L
theorem adds_sub (M:List Int): ∀ (L:List Int),(∀x∈L,x∈addsL L M)∧(∀x∈M,x∈addsL L M)∧(∀x∈addsL L M,x∈L∨x∈M)∧(L.Nodup→(addsL L M).Nodup)∧(∃E,addsL L M=L++E):=by
  induction M with
  |nil=>intro L;exact⟨fun x h=>h,by simp,fun x h=>.inl h,fun h=>h,[],by simp[addsL]⟩
  |cons y M ih=>
    intro L;have e:addsL L (y::M)=addsL (if y∈L then L else L++ [y]) M:=rfl
    rw[e];obtain⟨a,b,c,d,E,hE⟩:=ih (if y∈L then L else L++ [y])
    by_cases h:y∈L
    · simp only[if_pos h]at a b c d hE⊢
      refine⟨a,?_,?_,d,E,hE⟩
      · intro x hx
        rcases List.mem_cons.1 hx with rfl|hx
        · exact a _ h
        · exact b x hx
      · intro x hx
        rcases c x hx with h|h
        · exact .inl h
        · exact .inr (List.mem_cons_of_mem _ h)
    · simp only[if_neg h]at a b c d hE⊢
      refine⟨fun x hx=>a x (by simp[hx]),?_,?_,?_,[y]++E,by rw[hE];simp⟩
      · intro x hx
        rcases List.mem_cons.1 hx with rfl|hx
        · exact a _ (by simp)
        · exact b x hx
      · intro x hx
        rcases c x hx with h|h
        · rcases List.mem_append.1 h with h|h
          · exact .inl h
          · simp at h;subst h;exact .inr (by simp)
        · exact .inr (List.mem_cons_of_mem _ h)
      · intro hn
        refine d ?_
        rw[List.nodup_append];refine⟨hn,by simp,?_⟩
        intro x hx z hz;simp at hz;subst hz
        intro e;subst e;exact h hx
theorem nodup_small {L:List Int} {n:Nat} (h:L.Nodup) (hb: ∀x∈L,0≤x∧x<n):L.length≤n:=by
  have h1: ∀ (n:Nat) (L:List Int),L.Nodup→(∀x∈L,0≤x∧x<n)→L.length≤n:=by
    intro n;induction n with
    |zero=>
      intro L _ hb;cases L with
      |nil=>simp
      |cons y L=>have:=hb y (by simp);omega
    |succ n ih=>
      intro L hn hb;by_cases h:(n:Int)∈L
      · have := ih (L.erase (n : Int)) (hn.erase _) (fun x hx => by
          have h2:=(hn.mem_erase_iff).1 hx;have:=hb x h2.2;have h3:=h2.1;omega)
        rw[List.length_erase_of_mem h]at this
        omega
      · have := ih L hn (fun x hx => by
          have:=hb x hx;have:x≠n:=fun e=>h (e▸hx)
          omega)
        omega
  exact h1 n L h hb
def reachTo (l:List S29) (j:Nat):List Int:=((List.range j).filter fun (i:Nat)=>decide (0≤at_ (fullL l) (i:Int))).map (fun (i:Nat)=>(i:Int))
def reachL (l:List S29):List Int:=reachTo l l.length
def reachV.f (l:List S29):Option (List Int):=some (if codeB l=true then reachL l else [])
theorem reach_succ (l:List S29) (j:Nat):reachTo l (j+1)=if 0≤at_ (fullL l) (j:Int)then reachTo l j++ [(j:Int)]else reachTo l j:=by
  unfold reachTo;rw[List.range_succ,List.filter_append,List.map_append];by_cases h:0≤at_ (fullL l) (j:Int)<;>simp[h]
theorem reach_len (l:List S29) (j:Nat):(reachTo l j).length≤j:=by
  unfold reachTo;rw[List.length_map];exact Nat.le_trans (List.length_filter_le _ _) (by simp)
theorem ireach_ev {l:List S29} (hc:codeB l=true) (d:Nat): ∀j,l.length-j=d→j≤l.length→Ev (fun k=>impl_CodeReach.l0 k (reachTo l j) (fullL l) (l.length:Int) (j:Int)) (reachL l):=by
  obtain⟨h1,h2⟩:=code_len hc;have hg:=full_good (wayW_good hc);have hl:(fullL l).length=l.length:=hg.1;induction d with
  |zero=>
    intro j hj hj2;obtain rfl:j=l.length:=by omega
    refine Ev.step (f:=fun k=>some (reachL l)) (fun k=> ?_) (Ev.now _)
    simp only[impl_CodeReach.l0]
    rw[if_neg (by omega)];rfl
  |succ d ih=>
    intro j hj hj2;have ih1:=ih (j+1) (by omega) (by omega)
    refine Ev.step (fun k=> ?_) ih1
    have hr:=reach_len l j;simp only[impl_CodeReach.l0]
    rw[if_pos (by omega),if_pos (by omega),if_pos (by rw[hl];omega),w64 (by omega) (by omega),reach_succ]
    have e:rd (fullL l) (j:Int)=at_ (fullL l) j:=rfl;rw[e];by_cases hn:0≤at_ (fullL l) j
    · rw[if_pos hn,if_pos (by omega),if_pos hn];rfl
    · rw[if_neg (by omega),if_neg hn];rfl
theorem among_ev (L:List Int) (x:Int) (hm:L.length≤9223372036854775807):Ev (fun k=>spec_l11Among.f k L x) (decide (x∈L)):=by
  have key: ∀d i,L.length-i=d→i≤L.length→Ev (fun k=>spec_l11Among.l0 k L x (i:Int)) (decide (x∈L.drop i)):=by
    intro d;induction d with
    |zero=>
      intro i hi hi2;refine Ev.step (f:=fun k=>some false) (fun k=> ?_) (ev_eq (Ev.now _) ?_)
      · simp only[spec_l11Among.l0];rw[if_neg (by omega)]
      · rw[List.drop_of_length_le (by omega)];simp
    |succ d ih=>
      intro i hi hi2;have ih1:=ih (i+1) (by omega) (by omega)
      have d0:L.drop i=L[i]'(by omega)::L.drop (i+1):=List.drop_eq_getElem_cons (by omega)
      rw[d0];by_cases he:L[i]'(by omega)=x
      · refine Ev.step (f:=fun k=>some true) (fun k=> ?_) (ev_eq (Ev.now _) ?_)
        · simp only[spec_l11Among.l0];rw[if_pos (by omega),if_pos (by omega),rd_at L i (by omega),if_pos he]
        · rw[he];simp
      · refine ev_eq (Ev.step (fun k=> ?_) ih1) ?_
        · simp only[spec_l11Among.l0];rw[if_pos (by omega),if_pos (by omega),rd_at L i (by omega),if_neg he,w64 (by omega) (by omega)];rfl
        · have he': ¬x=L[i]'(by omega):=fun h=>he h.symm
          exact decide_eq_decide.2 ⟨fun h=>List.mem_cons_of_mem _ h,fun h=>(List.mem_cons.1 h).resolve_left he'⟩
  have:=key L.length 0 (by omega) (by omega)
  show Ev (fun k=>spec_l11Among.l0 k L x 0) _
  simpa using this
theorem mem_once {L:List (Int×Fl)} {y:Int} :y∈onceL L ↔ ∃a∈L,a.1=y:=by
  have e: ∀ (L:List (Int×Fl)) (M:List Int),L.foldl (fun out a=>if a.1∈out then out else out++ [a.1]) M=addsL M (L.map (·.1)):=by
    intro L;induction L with
    |nil=>intro M;rfl
    |cons a L ih=>intro M;rw[List.foldl_cons,ih];rfl
  have e1:onceL L=addsL [] (L.map (·.1)):=e L []
  obtain⟨-,b,c, -, -⟩:=adds_sub (L.map (·.1)) []
  rw[e1];constructor
  · intro h
    rcases c y h with h|h
    · cases h
    · obtain⟨a,ha,hb⟩:=List.mem_map.1 h
      exact⟨a,ha,hb⟩
  · rintro⟨a,ha,rfl⟩
    exact b _ (List.mem_map.2 ⟨a,ha,rfl⟩)
theorem way_next {l:List S29} {i:Nat} {y:Int} :y∈onceL (waysL l i) ↔ ∃a∈wayW l i,a.1=y:=by
  rw[mem_once];unfold wayW;constructor
  · rintro⟨a,ha,rfl⟩
    exact⟨_,List.mem_map.2 ⟨a,ha,rfl⟩,rfl⟩
  · rintro⟨a,ha,rfl⟩
    obtain⟨b,hb,rfl⟩:=List.mem_map.1 ha;exact⟨b,hb,rfl⟩
theorem once_len2 (l:List S29) (i:Nat):(onceL (waysL l i)).length≤2:=by
  have:=once_len (waysL l i) (waysL l i).length;rw[List.take_length]at this
  exact Nat.le_trans this (ways_two l i)
theorem sadd_ev {l:List S29} {x3:List Int} {i:Int} {M:List Int} {r:List Int} (hM:M.length≤2) (d:Nat): ∀ (m:Nat) (L:List Int),M.length-m=d→m≤M.length→L.length+d≤100→Ev (fun k=>spec_CodeReach.l0 k l x3 (addsL L (M.drop m)) (wrap64 (i+1))) r→
    Ev (fun k=>spec_CodeReach.l1 k l x3 L i M (m:Int)) r:=by
  induction d with
  |zero=>
    intro m L hm hm2 hl h;rw[List.drop_of_length_le (by omega)]at h
    refine Ev.step (fun k=> ?_) h
    simp only[spec_CodeReach.l1]
    rw[if_neg (by omega)];rfl
  |succ d ih=>
    intro m L hm hm2 hl h;have d0:M.drop m=M[m]'(by omega)::M.drop (m+1):=List.drop_eq_getElem_cons (by omega)
    rw[d0]at h
    refine Ev.step (f:=fun k=>(spec_l11Among.f k L (M[m]'(by omega))).bind fun t329=>(if t329=true then(spec_CodeReach.l1 k l x3 L i M (((m+1:Nat):Int)))else(if L.length<17592186044416 then(spec_CodeReach.l1 k l x3 (L++ [M[m]'(by omega)]) i M ((m+1:Nat):Int))else(none)))) (fun k=> ?_) ?_
    · simp only[spec_CodeReach.l1]
      rw[if_pos (by omega),if_pos (by omega),rd_at M m (by omega),w64 (by omega) (by omega)];rfl
    · refine Ev.bind (among_ev L _ (by omega)) ?_
      by_cases hin:M[m]'(by omega)∈L
      · simp only[decide_eq_true hin,if_true]
        refine ih (m+1) L (by omega) (by omega) (by omega) ?_
        have e:addsL L (M[m]'(by omega)::M.drop (m+1))=addsL L (M.drop (m+1)):=by
          show addsL (if M[m]'(by omega)∈L then L else L++ [M[m]'(by omega)]) (M.drop (m+1))=_
          rw[if_pos hin]
        rwa [e]at h
      · simp only[decide_eq_false hin,Bool.false_eq_true,if_false]
        simp only[if_pos (show L.length<17592186044416 by omega)]
        refine ih (m+1) _ (by omega) (by omega) (by simp;omega) ?_
        have e:addsL L (M[m]'(by omega)::M.drop (m+1))=addsL (L++ [M[m]'(by omega)]) (M.drop (m+1)):=by
          show addsL (if M[m]'(by omega)∈L then L else L++ [M[m]'(by omega)]) (M.drop (m+1))=_
          rw[if_neg hin]
        rwa [e]at h
theorem sout_ev {l:List S29} (hc:codeB l=true) {L:List Int} (hm:L.length≤100) (hL: ∀x,x∈L ↔ Reach (wayW l) l.length x) (d:Nat): ∀j,l.length-j=d→j≤l.length→Ev (fun k=>spec_CodeReach.l2 k l (reachTo l j) L (j:Int)) (reachL l):=by
  obtain⟨h1,h2⟩:=code_len hc;induction d with
  |zero=>
    intro j hj hj2;obtain rfl:j=l.length:=by omega
    refine Ev.step (f:=fun k=>some (reachL l)) (fun k=> ?_) (Ev.now _)
    simp only[spec_CodeReach.l2]
    rw[if_neg (by omega)];rfl
  |succ d ih=>
    intro j hj hj2;have ih1:=ih (j+1) (by omega) (by omega)
    have hr:=reach_len l j;have hw:wrap64 ((j:Int)+1)=((j+1:Nat):Int):=by rw[w64 (by omega) (by omega)];rfl
    refine Ev.step (f:=fun k=>(spec_l11Among.f k L j).bind fun t334=>(if t334=true then(if(reachTo l j).length<17592186044416 then(spec_CodeReach.l2 k l (reachTo l j++ [(j:Int)]) L ((j+1:Nat):Int))else(none))else(spec_CodeReach.l2 k l (reachTo l j) L ((j+1:Nat):Int)))) (fun k=> ?_) ?_
    · simp only[spec_CodeReach.l2]
      rw[if_pos (by omega),hw]
    · refine Ev.bind (among_ev L _ (by omega)) ?_
      have hiff:((j:Int)∈L) ↔ 0≤at_ (fullL l) (j:Int):=by
        rw[hL,←full_reach (wayW_good hc) (by omega)]
        constructor
        · exact fun h=>h.2.2
        · exact fun h=>⟨by omega,by omega,h⟩
      rw[reach_succ]at ih1
      by_cases hin:(j:Int)∈L
      · simp only[decide_eq_true hin,if_true]
        simp only[if_pos (show(reachTo l j).length<17592186044416 by omega)]
        rwa [if_pos (hiff.1 hin)]at ih1
      · simp only[decide_eq_false hin,Bool.false_eq_true,if_false]
        rwa [if_neg (fun h=>hin (hiff.2 h))]at ih1
theorem sreach_ev {l:List S29} (hc:codeB l=true) (d:Nat): ∀ (L:List Int) (i:Nat),l.length-i=d→i≤L.length→L.Nodup→0∈L→(∀x∈L,Reach (wayW l) l.length x)→(∀p (hp:p<L.length),p<i→ ∀y∈onceL (waysL l (L[p]).toNat),y∈L)→
    Ev (fun k=>spec_CodeReach.l0 k l [] L (i:Int)) (reachL l):=by
  obtain⟨h1,h2⟩:=code_len hc
  have bound: ∀L:List Int,(∀x∈L,Reach (wayW l) l.length x)→ ∀x∈L,0≤x∧x<l.length:=fun L hR x hx=>by
    have:=(full_reach (wayW_good hc) (by omega)).2 (hR x hx)
    exact⟨this.1,this.2.1⟩
  have fin: ∀ (L:List Int) (i:Nat),¬i<L.length→L.Nodup→0∈L→(∀x∈L,Reach (wayW l) l.length x)→(∀p (hp:p<L.length),p<i→ ∀y∈onceL (waysL l (L[p]).toNat),y∈L)→Ev (fun k=>spec_CodeReach.l0 k l [] L (i:Int)) (reachL l):=by
    intro L i hi hn h0 hR hcl;have hs:=nodup_small hn (bound L hR);refine Ev.step (f:=fun k=>spec_CodeReach.l2 k l [] L 0) (fun k=> ?_) ?_
    · simp only[spec_CodeReach.l0];rw[if_neg (by omega)]
    · have hL : ∀ x, x ∈ L ↔ Reach (wayW l) l.length x := by
        intro x;refine⟨hR x,fun h=> ?_⟩
        induction h with
        |first=>exact h0
        |next hr hi' ha ih=>
          obtain⟨p,hp,he⟩:=List.mem_iff_getElem.1 ih;refine hcl p hp (by omega) _ ?_
          rw[he,Int.toNat_natCast];exact way_next.2 ⟨_,ha,rfl⟩
      have:=sout_ev hc (by omega) hL l.length 0 (by omega) (by omega)
      rw[show reachTo l 0=[]from rfl]at this
      exact this
  induction d with
  |zero=>
    intro L i hd hi hn h0 hR hcl;have hs:=nodup_small hn (bound L hR);exact fin L i (by omega) hn h0 hR hcl
  |succ d ih=>
    intro L i hd hi hn h0 hR hcl;by_cases hlt:i<L.length
    · have hs:=nodup_small hn (bound L hR)
      have hb:=bound L hR L[i] (List.getElem_mem hlt);obtain⟨q,hq⟩:=Int.eq_ofNat_of_zero_le hb.1;obtain⟨a1,a2,a3,a4,E,a5⟩:=adds_sub (onceL (waysL l q)) L;refine Ev.step (f:=fun k=>(spec_l3Next.f k l (q:Int)).bind fun t325=>(spec_CodeReach.l1 k l [] L i t325 0)) (fun k=> ?_) ?_
      · simp only[spec_CodeReach.l0]
        rw[if_pos (by omega),if_pos (by omega),rd_at L i hlt,hq]
      · refine Ev.bind (Ev.of (fun k=>spec_l3Next.mono l (q:Int) k) (snext_eq l q (by omega) h2)) ?_
        refine sadd_ev (once_len2 l q) _ 0 L rfl (by omega) (by have:=once_len2 l q;omega) ?_
        rw[List.drop_zero,w64 (by omega) (by omega)]
        refine ih (addsL L (onceL (waysL l q))) (i+1) (by omega) ?_ (a4 hn) (a1 0 h0) ?_ ?_
        · rw[a5,List.length_append];omega
        · intro x hx
          rcases a3 x hx with h|h
          · exact hR x h
          · obtain⟨a,ha,rfl⟩:=way_next.1 h
            have hq':=hR L[i] (List.getElem_mem hlt);rw[hq]at hq'
            exact .next hq' (by omega) ha
        · intro p hp hpi y hy
          have hpl:p<L.length:=by omega
          have e:(addsL L (onceL (waysL l q)))[p]=L[p]:=by
            simp only[a5];rw[List.getElem_append_left hpl]
          rw[e]at hy
          by_cases hpe:p=i
          · subst hpe
            rw[hq,Int.toNat_natCast]at hy
            exact a2 y hy
          · exact a1 y (hcl p hpl (by omega) y hy)
    · exact fin L i hlt hn h0 hR hcl
theorem scodereach_ev (l:List S29) (hm:l.length≤9223372036854775807):Ev (fun k=>spec_CodeReach.f k l) (if codeB l=true then reachL l else []):=by
  unfold spec_CodeReach.f;simp only[Option.bind_some]
  refine Ev.bind (scode_ev l hm) ?_
  by_cases h:codeB l=true
  · simp only[if_pos h]
    have:=code_len h;exact sreach_ev h l.length [0] 0 (by omega) (by simp) (by simp) (by simp) (fun x hx=>by simp at hx;subst hx;exact .first) (fun p hp hp0=>by omega)
  · simp only[if_neg h]
    exact Ev.now _
theorem spec_CodeReach_as.calls (A0:Option Addr) (c0:Nat) (l0:List (S29)) (r:List Int) (w:World) (hr0:Kd.C k29 w A0 l0.length l0) (hc0:l0.length≤c0) (h:reachV.f l0=some r):
    Calls Try.prog 41 #[.slice A0 l0.length c0] w fun e w'=> ∃v0_:Value,e= .returned (v0_)∧Kd.R (Kd.int .i64) 3 w' w.heap.size (fun _=>True) v0_ r∧Below w.heap.size w w':=by
  obtain⟨k,hk⟩:=(scodereach_ev l0 (Kd.C_max hr0)).rounds;exact spec_CodeReach.calls k A0 c0 l0 r w hr0 hc0 (hk.trans h)
theorem impl_CodeReach_as.calls (A0:Option Addr) (c0:Nat) (l0:List (S29)) (r:List Int) (w:World) (hr0:Kd.C k29 w A0 l0.length l0) (hc0:l0.length≤c0) (h:reachV.f l0=some r):
    Calls Try.prog 42 #[.slice A0 l0.length c0] w fun e w'=> ∃v0_:Value,e= .returned (v0_)∧Kd.R (Kd.int .i64) 3 w' w.heap.size (fun _=>True) v0_ r∧Below w.heap.size w w':=by
  have hE:Ev (fun k=>impl_CodeReach.f k l0) (if codeB l0=true then reachL l0 else []):=by
    unfold impl_CodeReach.f codeV.f fullV.f;simp only[Option.bind_some]
    by_cases hc:codeB l0=true
    · simp only[if_pos hc,Option.bind_some]
      have hl:(fullL l0).length=l0.length:=(full_good (wayW_good hc)).1;rw[hl];have:=ireach_ev hc l0.length 0 (by omega) (by omega)
      rw[show reachTo l0 0=[]from rfl]at this
      exact this
    · simp only[if_neg hc]
      exact Ev.now _
  obtain⟨k,hk⟩:=hE.rounds;exact impl_CodeReach.calls k A0 c0 l0 r w hr0 hc0 (hk.trans h)
def cutStep (s:ByteArray) (a:Int) (out:List ByteArray) (i:Nat):List ByteArray:=
  if bt s i=a then out++ [⟨#[]⟩]else out.set (out.length-1) (rdOf ByteArray.empty out ((out.length:Int)-1)++strOfNums [bt s i])
def cutTo (s:ByteArray) (a:Int) (n:Nat):List ByteArray:=(List.range n).foldl (cutStep s a) [⟨#[]⟩]
def cutV.f (s:ByteArray) (a:Int):Option (List ByteArray):=if s.size≤1000 then some (cutTo s a s.size)else none
theorem cut_succ (s:ByteArray) (a:Int) (n:Nat):cutTo s a (n+1)=cutStep s a (cutTo s a n) n:=by
  unfold cutTo;rw[List.range_succ,List.foldl_append];rfl
theorem cut_len (s:ByteArray) (a:Int) (n:Nat):1≤(cutTo s a n).length∧(cutTo s a n).length≤n+1:=by
  induction n with
  |zero=>exact⟨Nat.le_refl _,Nat.le_refl _⟩
  |succ n ih=>rw[cut_succ];unfold cutStep;split<;>simp<;>omega
theorem strOf_size (x:Int):(strOfNums [x]).size=1:=rfl
theorem cut_sizes (s:ByteArray) (a:Int) (n:Nat): ∀x∈cutTo s a n,x.size≤n:=by
  induction n with
  | zero => intro x hx; have : x = ⟨#[]⟩ := by simpa [cutTo] using hx
            rw[this];exact Nat.le_refl _
  |succ n ih=>
    rw[cut_succ];unfold cutStep;have h1:=(cut_len s a n).1;split
    · intro x hx
      rcases List.mem_append.1 hx with hx|hx
      · exact Nat.le_succ_of_le (ih x hx)
      · have:x=⟨#[]⟩:=by simpa using hx
        rw[this];exact Nat.zero_le _
    · intro x hx
      rcases List.mem_or_eq_of_mem_set hx with hx|hx
      · exact Nat.le_succ_of_le (ih x hx)
      · rw[hx,ByteArray.size_append,strOf_size]
        have:rdOf ByteArray.empty (cutTo s a n) (((cutTo s a n).length:Int)-1)∈cutTo s a n:=by
          unfold rdOf;rw[List.getD_eq_getElem?_getD,List.getElem?_eq_getElem (by omega)]
          exact List.getElem_mem _
        have:=ih _ this;omega
def CI (w:World) (v:Value) (out:List ByteArray) (wr:World):Prop:=Kd.R Kd.string 9 wr w.heap.size (fun _=>True) v out∧Below w.heap.size w wr
theorem cut_walk (a0:ByteArray) (a1:Int) (w:World) (hm:a0.size≤1000):
    Calls Try.prog 112 #[.string a0,.int .u8 a1] w fun e w'=> ∃v0_:Value,e= .returned (v0_)∧Kd.R Kd.string 9 w' w.heap.size (fun _=>True) v0_ (cutTo a0 a1 a0.size)∧Below w.heap.size w w':=by
  go_enter Try.func112,Try.ntmps112
  go_wp2_with (first|((with_reducible refine gate_dst (N:=7) rfl ?_);refine Kd.R_lit Kd.string _ 9 ?hg (N:=7) ?hd (xs:=([(⟨#[]⟩:ByteArray)]:List ByteArray)) (inner:=[.string (⟨#[]⟩:ByteArray)]) (ok:=fun _=>True) (okp:=fun _=>True) ?hr ?hp (fun _ hk=>hk) trivial (Below.refl _ _) (Nat.le_refl _) (by simp) ?_;(case hd=>rfl);(case hg=>rfl);(case hr=>go_simp<;>rfl);(case hp=>exact(Reps.one (show Kd.M Kd.string _ _ _ (⟨#[]⟩:ByteArray) [.string (⟨#[]⟩:ByteArray)]from rfl) (Reps.none _ _)));intro v1 w1 h1 b1 _ _;have HS:Aside0 (CI w v1 (cutTo a0 a1 0) w1):=⟨h1,b1⟩;clear h1 b1))
  go_loopg [5,6] a0.size (fun gg s5 s6 wr=> ∃i:Nat,i≤a0.size∧a0.size-i≤gg∧s6= .int .i64 (i:Int)∧Aside0 (CI w s5 (cutTo a0 a1 i) wr))
  case atStart=>exact⟨0,Nat.zero_le _,Nat.sub_le _ _,rfl,HS⟩
  case round=>
    clear HS;obtain⟨i,hi,hgg,rfl,HS⟩:=hrel;by_cases hlt:i<a0.size
    · have hltz:(i:Int)<(a0.size:Int):=by omega
      have h0z:(0:Int)≤(i:Int):=by omega
      have hcl:=cut_len a0 a1 i;have hbt:bt a0 (i:Int)=((a0[i]'hlt).toNat:Int):=by unfold bt;rw[dif_pos (by simpa using hlt)];rfl
      obtain⟨out,hout⟩: ∃out,out=cutTo a0 a1 i:=⟨_,rfl⟩;have hsc:=cut_succ a0 a1 i;rw[←hout]at hcl HS hsc
      obtain⟨N,hN⟩: ∃N,out.length=N+1:=⟨out.length-1,by omega⟩
      have HSC:=aS hsc;have HBT:=aS hbt;have HN:=aS hN;have hN2:N<1000:=by omega
      by_cases hq:bt a0 i=a1
      · have e1:((a0[i].toNat:Int)==a1)=true:=by rw[←hbt];simpa using hq
        have HC:Aside0 (cutTo a0 a1 (i+1)=out++ [⟨#[]⟩]):=⟨by rw[hsc];unfold cutStep;rw[if_pos hq]⟩
        obtain⟨k1,k2⟩:=HS.out;obtain⟨A5,c5,rfl⟩:=Kd.R_slice k1;obtain⟨i0,hi_,hz0,hz1,hz2⟩:=info_parts info9;have K3:=aS (Kd.own_of_R k1);have K2:=aS k2;have hol:=hcl.2;clear hq hbt hout hsc hN k1 k2 HS hcl;go_wp2_with (at_builtin;refine wpList_append_own _ rfl _ _ 97 rfl w.heap.size 9 i0 (.string ⟨#[]⟩) 1 16 Try.underlying97 hi_ hz0 hz1 hz2 rfl (by decide) _ _ _ rfl (K3.out.alloc _) ⟨_,0,none⟩ 1 1 [.string ⟨#[]⟩] rfl rfl (cell_one_new _ _ _) (by simp[Value.oneCell']) (by unfold maxLen;omega) (by omega) (by have:=K2.out.size;simp;omega) ?_;intro v' w9 hown' hgrow _)
        go_roundg (a0.size- (i+1))
        case measure=>omega
        case rel=>
          have hB9:=(below_alloc K2.out _).grown hgrow (below_alloc K2.out _).size (fun b hb=>own_base K3.out b hb)
          refine⟨i+1,by omega,by omega,by go_num,⟨?_,hB9⟩⟩
          rw[HC.out];refine Kd.R_of_own ?_ (fun _ _=>trivial)
          have e:encs Value.string (out++ [⟨#[]⟩])=encs Value.string out++ [.string ⟨#[]⟩]:=by simp[encs]
          rw[e,List.length_append];exact hown'
      · have e1:((a0[i].toNat:Int)==a1)=false:=by rw[←hbt];simpa using hq
        obtain⟨k1,k2⟩:=HS.out;obtain⟨g,cap,e5,gb,gl,cl,gh⟩:=Kd.R_form k1 (by omega)
        subst e5;obtain⟨x0,x1⟩:=Kd.R_celln ByteArray.empty k1 (N:Int) (by omega) (by omega)
        rw[Int.toNat_natCast]at x0 x1
        have K1:=aS k1;have K2:=aS k2;rw[hN];have GB:=aS gb
        have HC:Aside0 (cutTo a0 a1 (i+1)=out.set N (rdOf ByteArray.empty out (N:Int)++strOfNums [(a0[i].toNat:Int)])):=⟨by
          rw[hsc];unfold cutStep;rw[if_neg hq,hN,hbt,show((N+1:Nat):Int)-1=(N:Int) by omega];rfl⟩
        clear hq hbt hsc hN k1 k2 HS gb gl gh hcl
        have hsz:(rdOf ByteArray.empty out (N:Int)).size≤1000:=by
          have:=cut_sizes a0 a1 i (rdOf ByteArray.empty out (N:Int)) (by
            rw[←hout];unfold rdOf;rw[List.getD_eq_getElem?_getD,List.getElem?_eq_getElem (by rw[Int.toNat_natCast];have:=HN.out;omega)]
            exact List.getElem_mem _)
          omega
        obtain⟨last,hlast⟩: ∃last,last=rdOf ByteArray.empty out (N:Int):=⟨_,rfl⟩;rw[←hlast]at hsz x0
        have HLA:=aS hlast;have hso:=strOf_size (a0[i].toNat:Int);have hs1:decide (last.size+(strOfNums [(a0[i].toNat:Int)]).size≤9223372036854775807)=true:=decide_eq_true (by rw[hso];omega)
        have hs2:(9223372036854775807<last.size+(strOfNums [(a0[i].toNat:Int)]).size)=False:=eq_false (by rw[hso];omega)
        have hs3:(last.size+(strOfNums [(a0[i].toNat:Int)]).size≤9223372036854775807)=True:=eq_true (by rw[hso];omega)
        have hcv:(convert 36 9 (.slice (some ⟨wr.heap.size,0,none⟩) 1 1)).run Try.prog ((wr.alloc (.cells #[.int .u8 (a0[i].toNat:Int)] 5)).drew)= .ok (.string (strOfNums [(a0[i].toNat:Int)])) ((wr.alloc (.cells #[.int .u8 (a0[i].toNat:Int)] 5)).drew):=by
          have hr:ReadsInt ((wr.alloc (.cells #[.int .u8 (a0[i].toNat:Int)] 5)).drew) .u8 (some ⟨wr.heap.size,0,none⟩) 1 [(a0[i].toNat:Int)]:=⟨rfl,by omega,fun _=>⟨_,rfl,fun j hj=>by
            obtain rfl:j=0:=by omega
            exact(blk_cell (blk_new wr (.cells #[.int .u8 (a0[i].toNat:Int)] 5)) 0).trans rfl⟩⟩
          exact string_of_reads Try.underlying36 Try.underlying5 Try.underlying9 hr
        have hbl:=below_alloc (Below.refl wr.heap.size wr) (.cells #[.int .u8 (a0[i].toNat:Int)] 5);have p0:=(hbl.cell (World.block_lt_of_cell? wr _ x0)).trans x0;have p1:=(hbl.frozen (World.block_lt_of_cell? wr _ x0)).trans x1;clear hbl hlast hso hsz hout;go_wp2
        go_region
        have HC2:Aside0 (CI w (.slice (some ⟨g,0,none⟩) (N+1) cap) (cutTo a0 a1 (i+1)) (((wr.alloc (.cells #[.int .u8 (a0[i].toNat:Int)] 5)).setCell ⟨g,N,none⟩ (.string (last++strOfNums [(a0[i].toNat:Int)]))).drew)):=⟨by
          have h1:=(Kd.R_putg (Kd.R_alloc K1.out (.cells #[.int .u8 (a0[i].toNat:Int)] 5)) (N:Int) (last++strOfNums [(a0[i].toNat:Int)])).1;rw[Int.toNat_natCast,HN.out]at h1
          rw[HC.out,←HLA.out];exact⟨Kd.R_drew h1,below_drew (below_set (below_alloc K2.out _) GB.out)⟩⟩
        go_wp2
        go_roundg (a0.size- (i+1))
        case measure=>omega
        case rel=>exact⟨i+1,by omega,by omega,by go_num,HC2⟩
    · have hltz: ¬(i:Int)<(a0.size:Int):=by omega
      obtain rfl:i=a0.size:=by omega
      go_wp2
      go_ret
      exact⟨_,rfl,HS.out.1,HS.out.2⟩
theorem spec_l2Cut.calls (a0:ByteArray) (a1:Int) (r:List ByteArray) (w:World) (h:cutV.f a0 a1=some r):
    Calls Try.prog 112 #[.string a0,.int .u8 a1] w fun e w'=> ∃v0_:Value,e= .returned (v0_)∧Kd.R Kd.string 9 w' w.heap.size (fun _=>True) v0_ r∧Below w.heap.size w w':=by
  unfold cutV.f at h;split at h
  · obtain rfl:=Option.some.inj h
    exact cut_walk a0 a1 w (by assumption)
  · cases h
end Go.Proofs.Ytmklpbmlgjkbiaa.PS
end
section
namespace Go.Proofs.Ytmklpbmlgjkbiaa.PO
open Go.RowKit Go.Proofs.YtmklpbmlgjkbiaaW.PrintWords Go.Proofs.YtmklpbmlgjkbiaaW.PrintLast Go.Proofs.YtmklpbmlgjkbiaaW.PrintMore Go.Proofs.Ytmklpbmlgjkbiaa.PS
attribute [local go_sem] max2_int min2_int max_two min_two max_three min_three max_four min_four   -- for this text's walks alone
def errW:Option Int→Value
 |none=>.nilIface
 |some c=>.iface 0 (.int .i64 c)
theorem errW_none:errW none= .nilIface:=rfl
theorem errW_some (c:Int):errW (some c)= .iface 0 (.int .i64 c):=rfl
theorem info5:(Try.prog.info? 5).map (fun i=>(i.zero,i.size,i.bytes))=some (some (.int .u8 0),1,1):=by kernel_rfl
theorem info9:(Try.prog.info? 9).map (fun i=>(i.zero,i.size,i.bytes))=some (some (.string ⟨#[]⟩),1,16):=by kernel_rfl
end Go.Proofs.Ytmklpbmlgjkbiaa.PO
end
section
namespace Go.Proofs.Ytmklpbmlgjkbiaa.PT
open Go.RowKit Go.Proofs.YtmklpbmlgjkbiaaW.PrintWords Go.Proofs.YtmklpbmlgjkbiaaW.PrintLast Go.Proofs.YtmklpbmlgjkbiaaW.PrintMore Go.Proofs.Ytmklpbmlgjkbiaa.PS Go.Proofs.Ytmklpbmlgjkbiaa.PO
attribute [local go_sem] max2_int min2_int max_two min_two max_three min_three max_four min_four   -- for this text's walks alone
def errW:Option Int→Value
 |none=>.nilIface
 |some c=>.iface 0 (.int .i64 c)
theorem errW_none:errW none= .nilIface:=rfl
theorem errW_some (c:Int):errW (some c)= .iface 0 (.int .i64 c):=rfl
end Go.Proofs.Ytmklpbmlgjkbiaa.PT
end
section
namespace Go.Proofs.Ytmklpbmlgjkbiaa.PO
open Go.RowKit Go.Proofs.YtmklpbmlgjkbiaaW.PrintWords Go.Proofs.YtmklpbmlgjkbiaaW.PrintLast Go.Proofs.YtmklpbmlgjkbiaaW.PrintMore Go.Proofs.Ytmklpbmlgjkbiaa.PS
attribute [local go_sem] max2_int min2_int max_two min_two max_three min_three max_four min_four   -- for this text's walks alone
def spec_l2Names.f:Option (List ByteArray):=some (([(⟨#[]⟩:ByteArray),(⟨#[115,101,116]⟩:ByteArray),(⟨#[109,111,118,101]⟩:ByteArray),(⟨#[97,100,100]⟩:ByteArray),(⟨#[115,101,108,102]⟩:ByteArray),(⟨#[98,101,103,105,110]⟩:ByteArray),(⟨#[115,101,110,100]⟩:ByteArray),(⟨#[116,97,107,101]⟩:ByteArray),(⟨#[97,102,116,101,114]⟩:ByteArray),(⟨#[103,111]⟩:ByteArray),(⟨#[105,102]⟩:ByteArray),(⟨#[108,105,110,107]⟩:ByteArray),(⟨#[119,97,116,99,104]⟩:ByteArray),(⟨#[116,114,97,112]⟩:ByteArray),(⟨#[101,110,100]⟩:ByteArray)]:List ByteArray))
theorem spec_l2Names.calls (r:List ByteArray) (w:World) (h:spec_l2Names.f=some r):
  Calls Try.prog 118 #[] w fun e w'=> ∃v0_:Value,e= .returned (v0_)∧Kd.R Kd.string 9 w' w.heap.size (fun _=>True) v0_ r∧Below w.heap.size w w':=by
 have HB:=aS (Below.refl w.heap.size w);have H:(some (([(⟨#[]⟩:ByteArray),(⟨#[115,101,116]⟩:ByteArray),(⟨#[109,111,118,101]⟩:ByteArray),(⟨#[97,100,100]⟩:ByteArray),(⟨#[115,101,108,102]⟩:ByteArray),(⟨#[98,101,103,105,110]⟩:ByteArray),(⟨#[115,101,110,100]⟩:ByteArray),(⟨#[116,97,107,101]⟩:ByteArray),(⟨#[97,102,116,101,114]⟩:ByteArray),(⟨#[103,111]⟩:ByteArray),(⟨#[105,102]⟩:ByteArray),(⟨#[108,105,110,107]⟩:ByteArray),(⟨#[119,97,116,99,104]⟩:ByteArray),(⟨#[116,114,97,112]⟩:ByteArray),(⟨#[101,110,100]⟩:ByteArray)]:List ByteArray)))=some r:=h;clear h;obtain⟨y101,hy101⟩: ∃y_:List ByteArray,y_=(([(⟨#[]⟩:ByteArray),(⟨#[115,101,116]⟩:ByteArray),(⟨#[109,111,118,101]⟩:ByteArray),(⟨#[97,100,100]⟩:ByteArray),(⟨#[115,101,108,102]⟩:ByteArray),(⟨#[98,101,103,105,110]⟩:ByteArray),(⟨#[115,101,110,100]⟩:ByteArray),(⟨#[116,97,107,101]⟩:ByteArray),(⟨#[97,102,116,101,114]⟩:ByteArray),(⟨#[103,111]⟩:ByteArray),(⟨#[105,102]⟩:ByteArray),(⟨#[108,105,110,107]⟩:ByteArray),(⟨#[119,97,116,99,104]⟩:ByteArray),(⟨#[116,114,97,112]⟩:ByteArray),(⟨#[101,110,100]⟩:ByteArray)]:List ByteArray)):=⟨_,rfl⟩;replace H:(some y101)=some r:=by first|(rw[hy101];with_reducible exact H)|(have H2_:=(Option.bind_some _ _).symm.trans H;rw[hy101];with_reducible exact H2_)|(have H2_:=(Option.bind_some _ _).symm.trans H;with_reducible exact H2_)|with_reducible exact H|(rw[hy101];exact H)|exact H
 have Ny101:=aS hy101;clear hy101;obtain rfl:=Option.some.inj H;go_enter Try.func118,Try.ntmps118
 go_wp2_with (first|((with_reducible refine gate_dst (N:=1) rfl ?_);refine Kd.R_lit Kd.string _ 9 ?hg (N:=1) ?hd (xs:=([(⟨#[]⟩:ByteArray),(⟨#[115,101,116]⟩:ByteArray),(⟨#[109,111,118,101]⟩:ByteArray),(⟨#[97,100,100]⟩:ByteArray),(⟨#[115,101,108,102]⟩:ByteArray),(⟨#[98,101,103,105,110]⟩:ByteArray),(⟨#[115,101,110,100]⟩:ByteArray),(⟨#[116,97,107,101]⟩:ByteArray),(⟨#[97,102,116,101,114]⟩:ByteArray),(⟨#[103,111]⟩:ByteArray),(⟨#[105,102]⟩:ByteArray),(⟨#[108,105,110,107]⟩:ByteArray),(⟨#[119,97,116,99,104]⟩:ByteArray),(⟨#[116,114,97,112]⟩:ByteArray),(⟨#[101,110,100]⟩:ByteArray)]:List ByteArray)) (inner:=[.string (⟨#[]⟩:ByteArray),.string (⟨#[115,101,116]⟩:ByteArray),.string (⟨#[109,111,118,101]⟩:ByteArray),.string (⟨#[97,100,100]⟩:ByteArray),.string (⟨#[115,101,108,102]⟩:ByteArray),.string (⟨#[98,101,103,105,110]⟩:ByteArray),.string (⟨#[115,101,110,100]⟩:ByteArray),.string (⟨#[116,97,107,101]⟩:ByteArray),.string (⟨#[97,102,116,101,114]⟩:ByteArray),.string (⟨#[103,111]⟩:ByteArray),.string (⟨#[105,102]⟩:ByteArray),.string (⟨#[108,105,110,107]⟩:ByteArray),.string (⟨#[119,97,116,99,104]⟩:ByteArray),.string (⟨#[116,114,97,112]⟩:ByteArray),.string (⟨#[101,110,100]⟩:ByteArray)]) (ok:=fun _=>True) (okp:=fun _=>True) ?hr ?hp (fun _ hk=>hk) trivial (Below.refl _ _) (Nat.le_refl _) (by simp) ?_;(case hd=>rfl);(case hg=>rfl);(case hr=>go_simp<;>rfl);(case hp=>exact(Reps.one (show Kd.M Kd.string _ _ _ (⟨#[]⟩:ByteArray) [.string (⟨#[]⟩:ByteArray)]from rfl) (Reps.one (show Kd.M Kd.string _ _ _ (⟨#[115,101,116]⟩:ByteArray) [.string (⟨#[115,101,116]⟩:ByteArray)]from rfl) (Reps.one (show Kd.M Kd.string _ _ _ (⟨#[109,111,118,101]⟩:ByteArray) [.string (⟨#[109,111,118,101]⟩:ByteArray)]from rfl) (Reps.one (show Kd.M Kd.string _ _ _ (⟨#[97,100,100]⟩:ByteArray) [.string (⟨#[97,100,100]⟩:ByteArray)]from rfl) (Reps.one (show Kd.M Kd.string _ _ _ (⟨#[115,101,108,102]⟩:ByteArray) [.string (⟨#[115,101,108,102]⟩:ByteArray)]from rfl) (Reps.one (show Kd.M Kd.string _ _ _ (⟨#[98,101,103,105,110]⟩:ByteArray) [.string (⟨#[98,101,103,105,110]⟩:ByteArray)]from rfl) (Reps.one (show Kd.M Kd.string _ _ _ (⟨#[115,101,110,100]⟩:ByteArray) [.string (⟨#[115,101,110,100]⟩:ByteArray)]from rfl) (Reps.one (show Kd.M Kd.string _ _ _ (⟨#[116,97,107,101]⟩:ByteArray) [.string (⟨#[116,97,107,101]⟩:ByteArray)]from rfl) (Reps.one (show Kd.M Kd.string _ _ _ (⟨#[97,102,116,101,114]⟩:ByteArray) [.string (⟨#[97,102,116,101,114]⟩:ByteArray)]from rfl) (Reps.one (show Kd.M Kd.string _ _ _ (⟨#[103,111]⟩:ByteArray) [.string (⟨#[103,111]⟩:ByteArray)]from rfl) (Reps.one (show Kd.M Kd.string _ _ _ (⟨#[105,102]⟩:ByteArray) [.string (⟨#[105,102]⟩:ByteArray)]from rfl) (Reps.one (show Kd.M Kd.string _ _ _ (⟨#[108,105,110,107]⟩:ByteArray) [.string (⟨#[108,105,110,107]⟩:ByteArray)]from rfl) (Reps.one (show Kd.M Kd.string _ _ _ (⟨#[119,97,116,99,104]⟩:ByteArray) [.string (⟨#[119,97,116,99,104]⟩:ByteArray)]from rfl) (Reps.one (show Kd.M Kd.string _ _ _ (⟨#[116,114,97,112]⟩:ByteArray) [.string (⟨#[116,114,97,112]⟩:ByteArray)]from rfl) (Reps.one (show Kd.M Kd.string _ _ _ (⟨#[101,110,100]⟩:ByteArray) [.string (⟨#[101,110,100]⟩:ByteArray)]from rfl) (Reps.none _ _)))))))))))))))));intro v102 w1 ho2 hb hg_ hnew_;clear hg_ hnew_;(first|rw[←Ny101.out]at ho2|(simp only[Int.reduceToNat]at ho2;rw[←Ny101.out]at ho2));have HO103:=aS (Kd.R_lower ho2 (below_size (by exact bU HB.out)));replace HB:=aS (below_step (by exact bU HB.out) hb);clear hb ho2))
 go_ret
 exact⟨_,by first|rfl|(simp[*]<;>rfl),by exact rU HO103.out,by exact bU HB.out⟩
mutual
def spec_l1Dec.j0:Nat→ByteArray→Int→Bool→Option (Int×Bool)
 |0,_,_,_=>none
 |k+1,x0,x4,x14=>if x14=true then(if 1≤(x0.size:Int)then(spec_l1Dec.j1 k (x0.extract 1 x0.size) (-1))else(none))else(spec_l1Dec.j1 k x0 x4)
def spec_l1Dec.j1:Nat→ByteArray→Int→Option (Int×Bool)
 |0,_,_=>none
 |k+1,x0,x4=>(spec_l6In.f (x0.size:Int) 1 2).bind fun t104=>(if t104=true then(spec_l1Dec.l0 k x0 x4 0 0)else(some (0,false)))
def spec_l1Dec.l0:Nat→ByteArray→Int→Int→Int→Option (Int×Bool)
 |0,_,_,_,_=>none
 |k+1,x0,x4,x5,x6=>if x6<(x0.size:Int)then(if 0≤x6 then(if(bt x0 x6)<48 then(spec_l1Dec.j3 k x0 x4 x5 x6 true)else(spec_l1Dec.j3 k x0 x4 x5 x6 (decide ((bt x0 x6)>57))))else(none))else(some (wrap64 (x4*x5),true))
def spec_l1Dec.j3:Nat→ByteArray→Int→Int→Int→Bool→Option (Int×Bool)
 |0,_,_,_,_,_=>none
 |k+1,x0,x4,x5,x6,x36=>if x36=true then(some (0,false))else(if 0≤x6 then(if x6<(x0.size:Int)then(spec_l1Dec.l0 k x0 x4 (wrap64 ((wrap64 (10*x5))+(((bt x0 x6)-48)%256))) (wrap64 (x6+1)))else(none))else(none))
end
def spec_l1Dec.f (k:Nat) (a0:ByteArray):Option (Int×Bool):=if(a0.size:Int)>1 then(if 0<(a0.size:Int)then(spec_l1Dec.j0 k a0 1 ((bt a0 0)==45))else(none))else(spec_l1Dec.j0 k a0 1 false)
theorem spec_l1Dec.calls (k:Nat) (a0:ByteArray) (r1:Int) (r2:Bool) (w:World) (h:spec_l1Dec.f k a0=some (r1,r2)):
  Calls Try.prog 119 #[.string a0] w fun e w'=>e= .returned (.tuple #[.int .i64 r1,.bool r2])∧Drawn0 w w':=by
 have H:(if(a0.size:Int)>1 then(if 0<(a0.size:Int)then(spec_l1Dec.j0 k a0 1 ((bt a0 0)==45))else(none))else(spec_l1Dec.j0 k a0 1 false))=some (r1,r2):=h
 clear h;have HC2:=aS H;clear H;go_enter Try.func119,Try.ntmps119
 go_upto_region 2 with (fail)
 go_cut [14] (fun v14 wc=> ∃ (kq:Nat) (x14_1:Bool),v14= .bool x14_1∧Aside0 (spec_l1Dec.j0 kq a0 1 x14_1=some (r1,r2))∧Aside0 (kq≤k)∧Drawn0 w wc)
 case first=>
  have H:=HC2.out;clear HC2;by_cases c3:(a0.size:Int)>1
  ·rw[if_pos c3]at H
   have c3b0:decide (1<(a0.size:Int))=true:=decide_eq_true c3;have c3b1:decide (1<a0.size)=true:=decide_eq_true (by omega)
   clear c3;(first|rw[c3b0]|(simp only[i64_w,i32_w];rw[c3b0])|skip)
   by_cases c4:0<(a0.size:Int)
   ·rw[if_pos c4]at H
    have c4b0:decide (0<(a0.size:Int))=true:=decide_eq_true c4;have c4b1:decide (0<a0.size)=true:=decide_eq_true (by omega)
    clear c4;have H':=aS H;clear H;have p5:0≤(0:Int):=(by omega)
    have q5:0<a0.size:=(by have:(0:Int)<(a0.size:Int):=of_decide_eq_true (by assumption);omega)
    have hx5: ∀h:0<a0.size,((a0[0]'h).toNat:Int)=bt a0 0:=bt_at a0 0;clear p5;have qi5:(0<(a0.size:Int))=True:=eq_true (of_decide_eq_true (by assumption))
    replace q5:=eq_true q5;go_wp2
    go_meet
    case rel=>exact⟨_,(((bt a0 0)==45)),(by first|rfl|(simp;done)|(simp[*];done)),H',⟨by first|omega|exact Nat.le_refl _⟩,by repeat(first|exact Drawn0.refl _|apply Drawn0.step)⟩
   ·rw[if_neg c4]at H
    exact absurd H (by simp)
  ·rw[if_neg c3]at H
   have c3b0:decide (1<(a0.size:Int))=false:=decide_eq_false c3;have c3b1:decide (1<a0.size)=false:=decide_eq_false (by omega)
   clear c3;(first|rw[c3b0]|(simp only[i64_w,i32_w];rw[c3b0])|skip)
   have H':=aS H;clear H;go_wp2
   go_meet
   case rel=>exact⟨_,(false),(by first|rfl|(simp;done)|(simp[*];done)),H',⟨by first|omega|exact Nat.le_refl _⟩,by repeat(first|exact Drawn0.refl _|apply Drawn0.step)⟩
 case rest=>
  clear HC2;(try clear c1);(try clear p2);(try clear c3);(try clear c3b0);(try clear c3b1);(try clear c4);(try clear c4b0);(try clear c4b1);(try clear p5);(try clear q5);(try clear hx5);(try clear qi5);(try clear p5);(try clear q5)
  obtain⟨kq,x14_1,rfl,HA,HJ1,⟨mc1,rfl⟩⟩:=hcut;cases kq with
  |zero=>exact absurd HA.out (by simp[spec_l1Dec.j0])
  |succ kj1=>
   have H:=HA.out;clear HA;simp only[spec_l1Dec.j0]at H
   have HC6:=aS H;clear H;go_upto_if 14 with (fail)
   go_cut [0,4] (fun v0 v4 wc=> ∃ (kq:Nat) (x0_5:ByteArray) (x4_5:Int),v0= .string x0_5∧v4= .int .i64 x4_5∧Aside0 (spec_l1Dec.j1 kq x0_5 x4_5=some (r1,r2))∧Aside0 (kq≤kj1)∧Drawn0 w wc)
   case first=>
    have H:=HC6.out;clear HC6;by_cases c7:x14_1=true
    ·subst c7
     have H1:(if 1≤(a0.size:Int)then(spec_l1Dec.j1 kj1 (a0.extract 1 a0.size) (-1))else(none))=some (r1,r2):=by rw[if_pos rfl]at H;exact H
     clear H;have H:=H1;clear H1;by_cases c8:1≤(a0.size:Int)
     ·rw[if_pos c8]at H
      have c8b0:=eq_true c8;have c8b1:decide (1≤(a0.size:Int))=true:=decide_eq_true c8;clear c8;have H':=aS H;clear H;go_wp2
      go_meet
      case rel=>exact⟨_,(a0.extract 1 a0.size),((-1)),(by first|rfl|(simp;done)|(simp[*];done)),(by first|rfl|(simp;done)|(simp[*];done)),H',⟨by have:=HJ1.out;first|omega|exact Nat.le_refl _⟩,by repeat(first|exact Drawn0.refl _|apply Drawn0.step)⟩
     ·rw[if_neg c8]at H
      exact absurd H (by simp)
    ·replace c7:=Bool.eq_false_iff.mpr c7
     subst c7;have H1:(spec_l1Dec.j1 kj1 a0 1)=some (r1,r2):=by rw[if_neg (show¬(false=true) by decide)]at H;exact H
     clear H;have H:=H1;clear H1;have H':=aS H;clear H;go_wp2
     go_meet
     case rel=>exact⟨_,(a0),(1),(by first|rfl|(simp;done)|(simp[*];done)),(by first|rfl|(simp;done)|(simp[*];done)),H',⟨by have:=HJ1.out;first|omega|exact Nat.le_refl _⟩,by repeat(first|exact Drawn0.refl _|apply Drawn0.step)⟩
   case rest=>
    clear HC6;(try clear c1);(try clear p2);(try clear c3);(try clear c3b0);(try clear c3b1);(try clear c4);(try clear c4b0);(try clear c4b1);(try clear p5);(try clear q5);(try clear hx5);(try clear qi5);(try clear c7);(try clear c8);(try clear c8b0);(try clear c8b1);(try clear p2);(try clear p5);(try clear q5)
    obtain⟨kq,x0_5,x4_5,rfl,rfl,HA,HJ5,⟨mc5,rfl⟩⟩:=hcut;cases kq with
    |zero=>exact absurd HA.out (by simp[spec_l1Dec.j1])
    |succ kj5=>
     have H:=HA.out;clear HA;simp only[spec_l1Dec.j1]at H
     replace H:=Option.bind_eq_some_iff.mp H;obtain⟨t104,A90,H⟩:=H;replace H:(if t104=true then(spec_l1Dec.l0 kj5 x0_5 x4_5 0 0)else(some (0,false)))=some (r1,r2):=H
     have A9:=aS A90;clear A90;by_cases c10:t104=true
     ·subst c10
      have H1:(spec_l1Dec.l0 kj5 x0_5 x4_5 0 0)=some (r1,r2):=by rw[if_pos rfl]at H;exact H
      clear H;have H:=H1;clear H1;have H':=aS H;clear H;go_wp2_with (first|((with_reducible refine gate_callee (f:=59) rfl ?_);refine goesL_ (some 19) rfl rfl Try.func59 (by kernel_rfl) rfl #[.int .i64 (x0_5.size:Int),.int .i64 1,.int .i64 2] rfl (by(try simp only[List.map_toArray,List.map_cons,List.map_nil])<;>rfl) ?_;(with_reducible refine(spec_l6In.calls (x0_5.size:Int) 1 2 true _ A9.out).mono ?_);rintro e w' ⟨rfl,⟨nd,rfl⟩⟩;refine⟨_,rfl,?_⟩))
      go_loopg [5,6] kj5 (fun kq v5 v6 w'=> ∃ (x5_3:Int) (x6_3:Int),v5= .int .i64 x5_3∧v6= .int .i64 x6_3∧Aside0 (spec_l1Dec.l0 kq x0_5 x4_5 x5_3 x6_3=some (r1,r2))∧Aside0 (kq≤kj5)∧Drawn0 w w')
      case atStart=>exact⟨(0),(0),(by first|rfl|(simp;done)|(simp[*];done)),(by first|rfl|(simp;done)|(simp[*];done)),H',⟨Nat.le_refl _⟩,by repeat(first|exact Drawn0.refl _|apply Drawn0.step)⟩
      case round=>
       clear H';(try clear c1);(try clear p2);(try clear c3);(try clear c3b0);(try clear c3b1);(try clear c4);(try clear c4b0);(try clear c4b1);(try clear c5);(try clear p5);(try clear q5);(try clear hx5);(try clear qi5);(try clear c7);(try clear c8);(try clear c8b0);(try clear c8b1);(try clear c10);(try clear p2);(try clear p5);(try clear q5)
       obtain⟨x5_3,x6_3,rfl,rfl,HA,HK3,⟨m3,rfl⟩⟩:=hrel;cases gk with
       |zero=>exact absurd HA.out (by simp[spec_l1Dec.l0])
       |succ k3=>
        have H:=HA.out;clear HA;simp only[spec_l1Dec.l0]at H
        by_cases c11:x6_3<(x0_5.size:Int)
        ·rw[if_pos c11]at H
         have c11b0:decide (x6_3<(x0_5.size:Int))=true:=decide_eq_true c11;clear c11;have HC12:=aS H;clear H;go_upto_region 11 with (fail)
         go_cut [36] (fun v36 wc=> ∃ (kq:Nat) (x36_11:Bool),v36= .bool x36_11∧Aside0 (spec_l1Dec.j3 kq x0_5 x4_5 x5_3 x6_3 x36_11=some (r1,r2))∧Aside0 (kq≤k3)∧Drawn0 w wc)
         case first=>
          have H:=HC12.out;clear HC12;by_cases c13:0≤x6_3
          ·rw[if_pos c13]at H
           have c13b0:decide (0≤x6_3)=true:=decide_eq_true c13;clear c13;(first|rw[c13b0]|(simp only[i64_w,i32_w];rw[c13b0])|skip)
           by_cases c15:(bt x0_5 x6_3)<48
           ·rw[if_pos c15]at H
            have c15b0:decide ((bt x0_5 x6_3)<48)=true:=decide_eq_true c15;clear c15;have H':=aS H;clear H;have p14:0≤(x6_3:Int):=of_decide_eq_true (by assumption)
            have q14:x6_3<(x0_5.size:Int):=of_decide_eq_true (by assumption)
            have hx14:=bt_at x0_5 x6_3;replace p14:=eq_true p14;replace q14:=eq_true q14;go_wp2
            go_meet
            case rel=>exact⟨_,(true),(by first|rfl|(simp;done)|(simp[*];done)),H',⟨by have:=HJ1.out;have:=HJ5.out;have:=HK3.out;first|omega|exact Nat.le_refl _⟩,by repeat(first|exact Drawn0.refl _|apply Drawn0.step)⟩
           ·rw[if_neg c15]at H
            have c15b0:decide ((bt x0_5 x6_3)<48)=false:=decide_eq_false c15;clear c15;have H':=aS H;clear H;have p14:0≤(x6_3:Int):=of_decide_eq_true (by assumption)
            have q14:x6_3<(x0_5.size:Int):=of_decide_eq_true (by assumption)
            have hx14:=bt_at x0_5 x6_3;replace p14:=eq_true p14;replace q14:=eq_true q14;have p16:0≤(x6_3:Int):=of_decide_eq_true (by assumption)
            have q16:x6_3<(x0_5.size:Int):=of_decide_eq_true (by assumption)
            have hx16:=bt_at x0_5 x6_3;replace p16:=eq_true p16;replace q16:=eq_true q16;go_wp2
            go_meet
            case rel=>exact⟨_,(decide ((bt x0_5 x6_3)>57)),(by first|rfl|(simp;done)|(simp[*];done)),H',⟨by have:=HJ1.out;have:=HJ5.out;have:=HK3.out;first|omega|exact Nat.le_refl _⟩,by repeat(first|exact Drawn0.refl _|apply Drawn0.step)⟩
          ·rw[if_neg c13]at H
           exact absurd H (by simp)
         case rest=>
          clear HC12;(try clear c1);(try clear p1);(try clear q1);(try clear hx1);(try clear p2);(try clear c3);(try clear c3b0);(try clear c3b1);(try clear c4);(try clear c4b0);(try clear c4b1);(try clear c5);(try clear p5);(try clear q5);(try clear hx5);(try clear qi5);(try clear c7);(try clear c8);(try clear c8b0);(try clear c8b1);(try clear c10);(try clear c11);(try clear c11b0);(try clear c13);(try clear c13b0);(try clear p14);(try clear q14);(try clear hx14);(try clear c15);(try clear c15b0);(try clear p16);(try clear q16);(try clear hx16);(try clear p14);(try clear p16);(try clear p2);(try clear p5);(try clear q14);(try clear q16);(try clear q5)
          obtain⟨kq,x36_11,rfl,HA,HJ11,⟨mc11,rfl⟩⟩:=hcut;cases kq with
          |zero=>exact absurd HA.out (by simp[spec_l1Dec.j3])
          |succ kj11=>
           have H:=HA.out;clear HA;simp only[spec_l1Dec.j3]at H
           by_cases c17:x36_11=true
           ·subst c17
            have H1:(some (0,false))=some (r1,r2):=by rw[if_pos rfl]at H;exact H
            clear H;have H:=H1;clear H1;simp only[Option.some.injEq,Prod.mk.injEq]at H
            obtain⟨rfl,rfl⟩:=H;go_wp2
            go_ret2
            exact⟨by first|rfl|(simp;done)|(simp[*];done),by repeat(first|exact Drawn0.refl _|apply Drawn0.step)⟩
           ·replace c17:=Bool.eq_false_iff.mpr c17
            subst c17;have H1:(if 0≤x6_3 then(if x6_3<(x0_5.size:Int)then(spec_l1Dec.l0 kj11 x0_5 x4_5 (wrap64 ((wrap64 (10*x5_3))+(((bt x0_5 x6_3)-48)%256))) (wrap64 (x6_3+1)))else(none))else(none))=some (r1,r2):=by rw[if_neg (show¬(false=true) by decide)]at H;exact H
            clear H;have H:=H1;clear H1;by_cases c18:0≤x6_3
            ·rw[if_pos c18]at H
             have c18b0:decide (0≤x6_3)=true:=decide_eq_true c18;clear c18;by_cases c19:x6_3<(x0_5.size:Int)
             ·rw[if_pos c19]at H
              have c19b0:decide (x6_3<(x0_5.size:Int))=true:=decide_eq_true c19;clear c19;have H':=aS H;clear H;have p20:0≤(x6_3:Int):=of_decide_eq_true (by assumption)
              have q20:x6_3<(x0_5.size:Int):=of_decide_eq_true (by assumption)
              have hx20:=bt_at x0_5 x6_3;replace p20:=eq_true p20;replace q20:=eq_true q20;go_wp2
              go_roundg kj11
              case measure=>have:=HJ1.out;have:=HJ5.out;have:=HK3.out;have:=HJ11.out;omega
              case rel=>exact⟨(wrap64 ((wrap64 (10*x5_3))+(((bt x0_5 x6_3)-48)%256))),(wrap64 (x6_3+1)),(by first|rfl|(simp;done)|(simp[*];done)),(by first|rfl|(simp;done)|(simp[*];done)),H',⟨by have:=HJ1.out;have:=HJ5.out;have:=HK3.out;have:=HJ11.out;omega⟩,by repeat(first|exact Drawn0.refl _|apply Drawn0.step)⟩
             ·rw[if_neg c19]at H
              exact absurd H (by simp)
            ·rw[if_neg c18]at H
             exact absurd H (by simp)
        ·rw[if_neg c11]at H
         have c11b0:decide (x6_3<(x0_5.size:Int))=false:=decide_eq_false c11;clear c11;simp only[Option.some.injEq,Prod.mk.injEq]at H
         obtain⟨rfl,rfl⟩:=H;go_wp2
         go_ret2
         exact⟨by first|rfl|(simp;done)|(simp[*];done),by repeat(first|exact Drawn0.refl _|apply Drawn0.step)⟩
     ·replace c10:=Bool.eq_false_iff.mpr c10
      subst c10;have H1:(some (0,false))=some (r1,r2):=by rw[if_neg (show¬(false=true) by decide)]at H;exact H
      clear H;have H:=H1;clear H1;simp only[Option.some.injEq,Prod.mk.injEq]at H
      obtain⟨rfl,rfl⟩:=H;go_wp2_with (first|((with_reducible refine gate_callee (f:=59) rfl ?_);refine goesL_ (some 19) rfl rfl Try.func59 (by kernel_rfl) rfl #[.int .i64 (x0_5.size:Int),.int .i64 1,.int .i64 2] rfl (by(try simp only[List.map_toArray,List.map_cons,List.map_nil])<;>rfl) ?_;(with_reducible refine(spec_l6In.calls (x0_5.size:Int) 1 2 false _ A9.out).mono ?_);rintro e w' ⟨rfl,⟨nd,rfl⟩⟩;refine⟨_,rfl,?_⟩))
      go_ret2
      exact⟨by first|rfl|(simp;done)|(simp[*];done),by repeat(first|exact Drawn0.refl _|apply Drawn0.step)⟩
def spec_l6Dec.f:Nat→Int→Option (ByteArray)
 |0,_=>none
 |k+1,a0=>if a0<(-9223372036854775807)then(some (⟨#[45,57,50,50,51,51,55,50,48,51,54,56,53,52,55,55,53,56,48,56]⟩:ByteArray))else(if a0<0 then((spec_l6Dec.f k (wrap64 (-a0))).bind fun t105=>(if 1+t105.size≤9223372036854775807 then(some ((⟨#[45]⟩:ByteArray)++t105))else(none)))else(if a0<10 then(some (strOfNums (([(wrap64 (48+a0))%256]:List Int))))else((spec_l6Dec.f k (wrap64 (Int.tdiv a0 10))).bind fun t109=>((some (([(wrap64 (48+(Int.tmod a0 10)))%256]:List Int):List Int)).bind fun y110=>(if t109.size+(strOfNums y110).size≤9223372036854775807 then(some (t109++(strOfNums y110)))else(none))))))
def spec_l6Dec.T7:Bool×List (List Nat×List Nat):=(true,[([],[]),([0],[0]),([1],[1]),([],[]),([3],[3]),([4],[4]),([5],[5]),([6],[6]),([7],[7]),([2,8],[2,8]),([9,2,0,1,2,3,4,5,6,7,8,9],[9])])
def spec_l6Dec.B7:List Nat:=[0,1,3,0,8,24,56,120,248,511,1023]
theorem spec_l6Dec.tab7:rtab .any (opsOf Try.f125 7)=spec_l6Dec.T7:=by kernel_rfl
theorem spec_l6Dec.bits7:waitsOk spec_l6Dec.T7.2 spec_l6Dec.B7=true:=by kernel_rfl
theorem spec_l6Dec.calls (k:Nat): ∀ (a0:Int) (r:ByteArray) (w:World) (h:spec_l6Dec.f k a0=some r),
  Calls Try.prog 125 #[.int .i64 a0] w fun e w'=>e= .returned (.string r)∧Below w.heap.size w w':=by
 induction k using Nat.strongRecOn with
 |_ k ih=>
 intro a0 r w h;cases k with
 |zero=>exact absurd h (by simp[spec_l6Dec.f])
 |succ k=>
 simp only[spec_l6Dec.f]at h
 have HB:=aS (Below.refl w.heap.size w);have H:(if a0<(-9223372036854775807)then(some (⟨#[45,57,50,50,51,51,55,50,48,51,54,56,53,52,55,55,53,56,48,56]⟩:ByteArray))else(if a0<0 then((spec_l6Dec.f k (wrap64 (-a0))).bind fun t105=>(if 1+t105.size≤9223372036854775807 then(some ((⟨#[45]⟩:ByteArray)++t105))else(none)))else(if a0<10 then(some (strOfNums (([(wrap64 (48+a0))%256]:List Int))))else((spec_l6Dec.f k (wrap64 (Int.tdiv a0 10))).bind fun t109=>((some (([(wrap64 (48+(Int.tmod a0 10)))%256]:List Int):List Int)).bind fun y110=>(if t109.size+(strOfNums y110).size≤9223372036854775807 then(some (t109++(strOfNums y110)))else(none)))))))=some r:=h
 clear h;by_cases c2:a0<(-9223372036854775807)
 ·rw[if_pos c2]at H
  have c2b0:decide (a0<(-9223372036854775807))=true:=decide_eq_true c2;clear c2;obtain rfl:=Option.some.inj H;go_enter Try.func125,Try.ntmps125
  go_wp2
  go_ret
  exact⟨by first|rfl|(simp[*]<;>rfl),by exact bU HB.out⟩
 ·rw[if_neg c2]at H
  have c2b0:decide (a0<(-9223372036854775807))=false:=decide_eq_false c2;clear c2;by_cases c3:a0<0
  ·rw[if_pos c3]at H
   have c3b0:decide (a0<0)=true:=decide_eq_true c3;clear c3;replace H:=Option.bind_eq_some_iff.mp H;obtain⟨t105,A40,H⟩:=H;replace H:(if 1+t105.size≤9223372036854775807 then(some ((⟨#[45]⟩:ByteArray)++t105))else(none))=some r:=H
   have A4:=aS A40;clear A40;by_cases c5:1+t105.size≤9223372036854775807
   ·rw[if_pos c5]at H
    have c5b0:=eq_true c5;have c5b1:decide (1+t105.size≤9223372036854775807)=true:=decide_eq_true c5;try have c5b2:(9223372036854775807<1+t105.size)=False:=eq_false (Nat.not_lt.2 c5)
    obtain rfl:=Option.some.inj H;go_enter Try.func125,Try.ntmps125
    go_wp2_with (first|((with_reducible refine gate_callee (f:=125) rfl ?_);refine goesL_ (some 9) rfl rfl Try.func125 (by kernel_rfl) rfl #[.int .i64 (wrap64 (-a0))] rfl (by(try simp only[List.map_toArray,List.map_cons,List.map_nil])<;>rfl) ?_;(with_reducible refine(ih k (by omega) (wrap64 (-a0)) t105 _ A4.out).mono ?_);rintro e w6 ⟨rfl,hb⟩;refine⟨_,rfl,?_⟩;replace HB:=aS (below_step (by exact bU HB.out) hb);(try clear hb)))
    go_ret
    exact⟨by first|rfl|(simp[*]<;>rfl),by exact bU HB.out⟩
   ·rw[if_neg c5]at H
    exact absurd H (by simp)
  ·rw[if_neg c3]at H
   have c3b0:decide (a0<0)=false:=decide_eq_false c3;clear c3;by_cases c7:a0<10
   ·rw[if_pos c7]at H
    have c7b0:decide (a0<10)=true:=decide_eq_true c7;clear c7;obtain⟨y106,hy106⟩: ∃y_:List Int,y_=(([(wrap64 (48+a0))%256]:List Int)):=⟨_,rfl⟩;replace H:(some (strOfNums y106))=some r:=by first|(rw[hy106];with_reducible exact H)|(have H2_:=(Option.bind_some _ _).symm.trans H;rw[hy106];with_reducible exact H2_)|(have H2_:=(Option.bind_some _ _).symm.trans H;with_reducible exact H2_)|with_reducible exact H|(rw[hy106];exact H)|exact H
    have Ny106:=aS hy106;clear hy106;obtain rfl:=Option.some.inj H;go_enter Try.func125,Try.ntmps125
    go_wp2_with (first|((with_reducible refine gate_dst (N:=16) rfl ?_);refine Kd.R_lit (Kd.int .u8) _ 5 ?hg (N:=16) ?hd (xs:=([(wrap64 (48+a0))%256]:List Int)) (inner:=[.int .u8 ((wrap64 (48+a0))%256)]) (ok:=fun _=>True) (okp:=fun _=>True) ?hr ?hp (fun _ hk=>hk) trivial (Below.refl _ _) (Nat.le_refl _) (by simp) ?_;(case hd=>rfl);(case hg=>rfl);(case hr=>go_simp<;>rfl);(case hp=>exact(Reps.one (show Kd.M (Kd.int .u8) _ _ _ ((wrap64 (48+a0))%256) [.int .u8 ((wrap64 (48+a0))%256)]from rfl) (Reps.none _ _)));intro v107 w8 ho9 hb hg_ hnew_;clear hg_ hnew_;(first|rw[←Ny106.out]at ho9|(simp only[Int.reduceToNat]at ho9;rw[←Ny106.out]at ho9));have HO108:=aS (Kd.R_lower ho9 (below_size (by exact bU HB.out)));replace HB:=aS (below_step (by exact bU HB.out) hb);clear hb ho9;have hcv10:=own_string (P:=Try.prog) Try.underlying36 Try.underlying5 Try.underlying9 (Kd.own_of_R HO108.out)))
    go_ret
    exact⟨by first|rfl|(simp[*]<;>rfl),by exact bU HB.out⟩
   ·rw[if_neg c7]at H
    have c7b0:decide (a0<10)=false:=decide_eq_false c7;clear c7;replace H:=Option.bind_eq_some_iff.mp H;obtain⟨t109,A110,H⟩:=H;replace H:((some (([(wrap64 (48+(Int.tmod a0 10)))%256]:List Int):List Int)).bind fun y110=>(if t109.size+(strOfNums y110).size≤9223372036854775807 then(some (t109++(strOfNums y110)))else(none)))=some r:=H
    have A11:=aS A110;clear A110;obtain⟨y110,hy110⟩: ∃y_:List Int,y_=(([(wrap64 (48+(Int.tmod a0 10)))%256]:List Int)):=⟨_,rfl⟩;replace H:(if t109.size+(strOfNums y110).size≤9223372036854775807 then(some (t109++(strOfNums y110)))else(none))=some r:=by first|(rw[hy110];with_reducible exact H)|(have H2_:=(Option.bind_some _ _).symm.trans H;rw[hy110];with_reducible exact H2_)|(have H2_:=(Option.bind_some _ _).symm.trans H;with_reducible exact H2_)|with_reducible exact H|(rw[hy110];exact H)|exact H
    have Ny110:=aS hy110;clear hy110;by_cases c12:t109.size+(strOfNums y110).size≤9223372036854775807
    ·rw[if_pos c12]at H
     have c12b0:=eq_true c12;have c12b1:decide (t109.size+(strOfNums y110).size≤9223372036854775807)=true:=decide_eq_true c12;try have c12b2:(9223372036854775807<t109.size+(strOfNums y110).size)=False:=eq_false (Nat.not_lt.2 c12)
     obtain rfl:=Option.some.inj H;go_enter Try.func125,Try.ntmps125
     try go_wp2
     have n0_:=aS (below_drew1 HB.out);clear HB;have HB:=n0_;clear n0_;refine start_ (n:=11) (S:=fun w'=>True) (ds:=[]) #[false,false,false,false,false,false,false,false,false,false,false] (by kernel_rfl) rfl rfl trivial (fun hHeld=> ?_);refine with_tabW spec_l6Dec.tab7 spec_l6Dec.bits7 (fun HT_ HW_=> ?_)
     generalize w.drew=w13 at HB hHeld⊢
     refine pure_ (i:=0) (N:=some 18) (v:= ?_) (a':= ?_) #[true,false,false,false,false,false,false,false,false,false,false] rfl rfl (any_of HT_.out (by kernel_rfl)) (fun _ _ _ h=>h) (Or.inl ⟨by rfl,?_⟩) ?_ ?_
     rotate_left
     ·intro w'
      go_simp
      with_reducible rfl
     rotate_left
     ·simp only[Act.put,List.setIfInBounds_toArray,List.set_cons_zero,List.set_cons_succ,i64_w,i32_w]
      rfl
     refine pure_ (i:=1) (N:=some 19) (v:= ?_) (a':= ?_) #[true,true,false,false,false,false,false,false,false,false,false] rfl rfl (any_of HT_.out (by kernel_rfl)) (fun _ _ _ h=>h) (Or.inl ⟨by rfl,?_⟩) ?_ ?_
     rotate_left
     ·intro w'
      go_simp
      with_reducible rfl
     rotate_left
     ·simp only[Act.put,List.setIfInBounds_toArray,List.set_cons_zero,List.set_cons_succ,i64_w,i32_w]
      rfl
     refine pure_ (i:=3) (N:=some 21) (v:= ?_) (a':= ?_) #[true,true,false,true,false,false,false,false,false,false,false] rfl rfl (any_of HT_.out (by kernel_rfl)) (fun _ _ _ h=>h) (Or.inl ⟨by rfl,?_⟩) ?_ ?_
     rotate_left
     ·intro w'
      go_simp
      with_reducible rfl
     rotate_left
     ·simp only[Act.put,List.setIfInBounds_toArray,List.set_cons_zero,List.set_cons_succ,i64_w,i32_w]
      rfl
     refine pure_ (i:=4) (N:=some 22) (v:= ?_) (a':= ?_) #[true,true,false,true,true,false,false,false,false,false,false] rfl rfl (any_of HT_.out (by kernel_rfl)) (fun _ _ _ h=>h) (Or.inl ⟨by rfl,?_⟩) ?_ ?_
     rotate_left
     ·intro w'
      go_simp
      with_reducible rfl
     rotate_left
     ·simp only[Act.put,List.setIfInBounds_toArray,List.set_cons_zero,List.set_cons_succ,i64_w,i32_w]
      rfl
     refine pure_ (i:=5) (N:=some 23) (v:= ?_) (a':= ?_) #[true,true,false,true,true,true,false,false,false,false,false] rfl rfl (any_of HT_.out (by kernel_rfl)) (fun _ _ _ h=>h) (Or.inl ⟨by rfl,?_⟩) ?_ ?_
     rotate_left
     ·intro w'
      go_simp
      with_reducible rfl
     rotate_left
     ·simp only[Act.put,List.setIfInBounds_toArray,List.set_cons_zero,List.set_cons_succ,i64_w,i32_w]
      rfl
     refine pure_ (i:=6) (N:=some 24) (v:= ?_) (a':= ?_) #[true,true,false,true,true,true,true,false,false,false,false] rfl rfl (any_of HT_.out (by kernel_rfl)) (fun _ _ _ h=>h) (Or.inl ⟨by rfl,?_⟩) ?_ ?_
     rotate_left
     ·intro w'
      go_simp
      with_reducible rfl
     rotate_left
     ·simp only[Act.put,List.setIfInBounds_toArray,List.set_cons_zero,List.set_cons_succ,i64_w,i32_w]
      rfl
     refine join_ (σ:=Value) 2 #[true,true,true,true,true,true,true,true,true,false,false] (fun s_=> [(20,.string t109),(25,s_),(26,.string (strOfNums y110))]) (fun s_ w'=>(Kd.R (Kd.int .u8) 5 w' w.heap.size (fun _=>True) s_ y110)∧(Below w.heap.size w w')) ?_ ?_
     rotate_left
     ·intro hCont
      refine two_ (i:=2) (j:=7) (Ni:=some 20) (Nj:=some 25) #[true,true,true,true,true,true,true,false,false,false,false] #[true,true,false,true,true,true,true,true,false,false,false] rfl rfl rfl rfl (two_of HT_.out (by kernel_rfl)) (by decide) (by decide) (fun K hK=> ?_) (fun K hK=> ?_)
      ·skip
       refine goes_ Try.func125 (by kernel_rfl) rfl #[.int .i64 (wrap64 (Int.tdiv a0 10))] (by rfl) rfl rfl (by(try simp only[List.map_toArray,List.map_cons,List.map_nil])<;>rfl) ?_
       with_reducible refine(ih k (by omega) (wrap64 (Int.tdiv a0 10)) t109 _ A11.out).mono ?_
       rintro e w14 ⟨rfl,hb⟩
       refine⟨_,rfl,?_⟩
       have n0_:=aS (below_step (by exact bU HB.out) hb)
       clear HB;have HB:=n0_;clear n0_;(try clear hb)
       (try clear hb2)
       (try clear hk)
       (try clear hi)
       refine hK.out _ _ trivial (fun hHeld=> ?_)
       clear hK K;refine norm_ (a':= ?_) ?_ ?_
       rotate_left
       ·show Act.put _ (some 20) _=_
        simp only[Act.put,List.setIfInBounds_toArray,List.set_cons_zero,List.set_cons_succ,i64_w,i32_w]
        rfl
       refine one_ (i:=7) (N:=some 25) #[true,true,true,true,true,true,true,true,false,false,false] rfl rfl (one_of HT_.out (by kernel_rfl)) (by decide) (fun K hK=> ?_)
       refine Kd.R_lit_step (Kd.int .u8) _ 5 ?hg (N:=25) ?hd (xs:=([(wrap64 (48+(Int.tmod a0 10)))%256]:List Int)) (inner:=[.int .u8 ((wrap64 (48+(Int.tmod a0 10)))%256)]) (ok:=fun _=>True) (okp:=fun _=>True) ?hr ?hp (fun _ hk=>hk) trivial (Below.refl _ _) (Nat.le_refl _) (by simp) ?_;(case hd=>rfl);(case hg=>rfl);(case hr=>go_simp<;>rfl);(case hp=>exact(Reps.one (show Kd.M (Kd.int .u8) _ _ _ ((wrap64 (48+(Int.tmod a0 10)))%256) [.int .u8 ((wrap64 (48+(Int.tmod a0 10)))%256)]from rfl) (Reps.none _ _)))
       intro v111 w15 ho16 hb hg_ hnew_;clear hg_ hnew_;(first|rw[←Ny110.out]at ho16|(simp only[Int.reduceToNat]at ho16;rw[←Ny110.out]at ho16))
       have n0_:=aS (Kd.R_lower ho16 (below_size (by exact bU HB.out)))
       have n1_:=aS (below_step (by exact bU HB.out) hb)
       clear HB;have HO112:=n0_;have HB:=n1_;clear n0_ n1_ hb ho16;refine hK.out _ _ trivial (fun hHeld=> ?_)
       clear hK K;refine norm_ (a':= ?_) ?_ ?_
       rotate_left
       ·show Act.put _ (some 25) _=_
        simp only[Act.put,List.setIfInBounds_toArray,List.set_cons_zero,List.set_cons_succ,i64_w,i32_w]
        rfl
       refine one_ (i:=8) (N:=some 26) #[true,true,true,true,true,true,true,true,true,false,false] rfl rfl (one_of HT_.out (by kernel_rfl)) (by decide) (fun K hK=> ?_)
       have hcv17:=own_string (P:=Try.prog) Try.underlying36 Try.underlying5 Try.underlying9 (Kd.own_of_R HO112.out);refine value_ (w1:= ?_) (v:= ?_) (by rfl) rfl ?_ ?_
       rotate_left 2
       ·go_simp
        constructor
        ·rfl
        ·rfl
       clear hcv17;refine hK.out _ _ trivial (fun hHeld=> ?_)
       clear hK K;refine norm_ (a':= ?_) ?_ ?_
       rotate_left
       ·show Act.put _ (some 26) _=_
        simp only[Act.put,List.setIfInBounds_toArray,List.set_cons_zero,List.set_cons_succ,i64_w,i32_w]
        rfl
       exact norm_ (by simp only[putAll,Act.put,List.setIfInBounds_toArray,List.set_cons_zero,List.set_cons_succ]) (hCont (v111) _ ⟨(by exact rU HO112.out),(by exact bU HB.out)⟩)
      ·skip
       refine Kd.R_lit_step (Kd.int .u8) _ 5 ?hg (N:=25) ?hd (xs:=([(wrap64 (48+(Int.tmod a0 10)))%256]:List Int)) (inner:=[.int .u8 ((wrap64 (48+(Int.tmod a0 10)))%256)]) (ok:=fun _=>True) (okp:=fun _=>True) ?hr ?hp (fun _ hk=>hk) trivial (Below.refl _ _) (Nat.le_refl _) (by simp) ?_;(case hd=>rfl);(case hg=>rfl);(case hr=>go_simp<;>rfl);(case hp=>exact(Reps.one (show Kd.M (Kd.int .u8) _ _ _ ((wrap64 (48+(Int.tmod a0 10)))%256) [.int .u8 ((wrap64 (48+(Int.tmod a0 10)))%256)]from rfl) (Reps.none _ _)))
       intro v111 w14 ho15 hb hg_ hnew_;clear hg_ hnew_;(first|rw[←Ny110.out]at ho15|(simp only[Int.reduceToNat]at ho15;rw[←Ny110.out]at ho15))
       have n0_:=aS (Kd.R_lower ho15 (below_size (by exact bU HB.out)))
       have n1_:=aS (below_step (by exact bU HB.out) hb)
       clear HB;have HO112:=n0_;have HB:=n1_;clear n0_ n1_ hb ho15;refine hK.out _ _ trivial (fun hHeld=> ?_)
       clear hK K;refine norm_ (a':= ?_) ?_ ?_
       rotate_left
       ·show Act.put _ (some 25) _=_
        simp only[Act.put,List.setIfInBounds_toArray,List.set_cons_zero,List.set_cons_succ,i64_w,i32_w]
        rfl
       refine two_ (i:=2) (j:=8) (Ni:=some 20) (Nj:=some 26) #[true,true,true,true,true,true,true,true,false,false,false] #[true,true,false,true,true,true,true,true,true,false,false] rfl rfl rfl rfl (two_of HT_.out (by kernel_rfl)) (by decide) (by decide) (fun K hK=> ?_) (fun K hK=> ?_)
       ·skip
        refine goes_ Try.func125 (by kernel_rfl) rfl #[.int .i64 (wrap64 (Int.tdiv a0 10))] (by rfl) rfl rfl (by(try simp only[List.map_toArray,List.map_cons,List.map_nil])<;>rfl) ?_
        with_reducible refine(ih k (by omega) (wrap64 (Int.tdiv a0 10)) t109 _ A11.out).mono ?_
        rintro e w16 ⟨rfl,hb⟩
        refine⟨_,rfl,?_⟩
        have n0_:=aS (Kd.R_below (by exact rU HO112.out) hb)
        have n1_:=aS (below_step (by exact bU HB.out) hb)
        clear HO112 HB;have HO112:=n0_;have HB:=n1_;clear n0_ n1_;(try clear hb)
        (try clear hb2)
        (try clear hk)
        (try clear hi)
        refine hK.out _ _ trivial (fun hHeld=> ?_)
        clear hK K;refine norm_ (a':= ?_) ?_ ?_
        rotate_left
        ·show Act.put _ (some 20) _=_
         simp only[Act.put,List.setIfInBounds_toArray,List.set_cons_zero,List.set_cons_succ,i64_w,i32_w]
         rfl
        refine one_ (i:=8) (N:=some 26) #[true,true,true,true,true,true,true,true,true,false,false] rfl rfl (one_of HT_.out (by kernel_rfl)) (by decide) (fun K hK=> ?_)
        have hcv17:=own_string (P:=Try.prog) Try.underlying36 Try.underlying5 Try.underlying9 (Kd.own_of_R HO112.out);refine value_ (w1:= ?_) (v:= ?_) (by rfl) rfl ?_ ?_
        rotate_left 2
        ·go_simp
         constructor
         ·rfl
         ·rfl
        clear hcv17;refine hK.out _ _ trivial (fun hHeld=> ?_)
        clear hK K;refine norm_ (a':= ?_) ?_ ?_
        rotate_left
        ·show Act.put _ (some 26) _=_
         simp only[Act.put,List.setIfInBounds_toArray,List.set_cons_zero,List.set_cons_succ,i64_w,i32_w]
         rfl
        exact norm_ (by simp only[putAll,Act.put,List.setIfInBounds_toArray,List.set_cons_zero,List.set_cons_succ]) (hCont (v111) _ ⟨(by exact rU HO112.out),(by exact bU HB.out)⟩)
       ·skip
        have hcv16:=own_string (P:=Try.prog) Try.underlying36 Try.underlying5 Try.underlying9 (Kd.own_of_R HO112.out);refine value_ (w1:= ?_) (v:= ?_) (by rfl) rfl ?_ ?_
        rotate_left 2
        ·go_simp
         constructor
         ·rfl
         ·rfl
        clear hcv16;refine hK.out _ _ trivial (fun hHeld=> ?_)
        clear hK K;refine norm_ (a':= ?_) ?_ ?_
        rotate_left
        ·show Act.put _ (some 26) _=_
         simp only[Act.put,List.setIfInBounds_toArray,List.set_cons_zero,List.set_cons_succ,i64_w,i32_w]
         rfl
        refine one_ (i:=2) (N:=some 20) #[true,true,true,true,true,true,true,true,true,false,false] rfl rfl (one_of HT_.out (by kernel_rfl)) (by decide) (fun K hK=> ?_)
        refine goes_ Try.func125 (by kernel_rfl) rfl #[.int .i64 (wrap64 (Int.tdiv a0 10))] (by rfl) rfl rfl (by(try simp only[List.map_toArray,List.map_cons,List.map_nil])<;>rfl) ?_
        with_reducible refine(ih k (by omega) (wrap64 (Int.tdiv a0 10)) t109 _ A11.out).mono ?_
        rintro e w17 ⟨rfl,hb⟩
        refine⟨_,rfl,?_⟩
        have n0_:=aS (Kd.R_below (by exact rU HO112.out) hb)
        have n1_:=aS (below_step (by exact bU HB.out) hb)
        clear HO112 HB;have HO112:=n0_;have HB:=n1_;clear n0_ n1_;(try clear hb)
        (try clear hb2)
        (try clear hk)
        (try clear hi)
        refine hK.out _ _ trivial (fun hHeld=> ?_)
        clear hK K;refine norm_ (a':= ?_) ?_ ?_
        rotate_left
        ·show Act.put _ (some 20) _=_
         simp only[Act.put,List.setIfInBounds_toArray,List.set_cons_zero,List.set_cons_succ,i64_w,i32_w]
         rfl
        exact norm_ (by simp only[putAll,Act.put,List.setIfInBounds_toArray,List.set_cons_zero,List.set_cons_succ]) (hCont (v111) _ ⟨(by exact rU HO112.out),(by exact bU HB.out)⟩)
     rintro v111 w18 ⟨h0_,h1_⟩
     have n0_:Aside0 (Kd.R (Kd.int .u8) 5 w18 w.heap.size (fun _=>True) v111 y110):=⟨h0_⟩
     have n1_:Aside0 (Below w.heap.size w w18):=⟨h1_⟩;clear HB h0_ h1_;have HO112:=n0_;have HB:=n1_;clear n0_ n1_;have hHeld:=trivial;refine norm_ (a':= ?_) ?_ ?_
     rotate_left
     ·simp only[putAll,Act.put,List.setIfInBounds_toArray,List.set_cons_zero,List.set_cons_succ]
      rfl
     refine pure_ (i:=9) (N:=some 27) (v:= ?_) (a':= ?_) #[true,true,true,true,true,true,true,true,true,true,false] rfl rfl (any_of HT_.out (by kernel_rfl)) (fun _ _ _ h=>h) (Or.inl ⟨by rfl,?_⟩) ?_ ?_
     rotate_left
     ·intro w'
      go_simp
      with_reducible rfl
     rotate_left
     ·simp only[Act.put,List.setIfInBounds_toArray,List.set_cons_zero,List.set_cons_succ,i64_w,i32_w]
      rfl
     refine pure_ (i:=10) (N:=some 2) (v:= ?_) (a':= ?_) #[true,true,true,true,true,true,true,true,true,true,true] rfl rfl (any_of HT_.out (by kernel_rfl)) (fun _ _ _ h=>h) (Or.inl ⟨by rfl,?_⟩) ?_ ?_
     rotate_left
     ·intro w'
      go_simp
      with_reducible rfl
     rotate_left
     ·simp only[Act.put,List.setIfInBounds_toArray,List.set_cons_zero,List.set_cons_succ,i64_w,i32_w]
      rfl
     refine done_ (done_of HT_.out (by kernel_rfl)) ?_
     try go_wp2
     go_ret
     exact⟨by first|rfl|(simp[*]<;>rfl),by exact bU HB.out⟩
    ·rw[if_neg c12]at H
     exact absurd H (by simp)
end Go.Proofs.Ytmklpbmlgjkbiaa.PO
end
