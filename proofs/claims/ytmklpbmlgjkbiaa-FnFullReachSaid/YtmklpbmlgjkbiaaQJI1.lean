/- What the rows of JI rest on, part 2. -/
import Derived.Test.YtmklpbmlgjkbiaaProg
import Derived.Laws.StructEq
import Derived.Deep.RegionWith
import Derived.Lib.Bytealg
import Derived.Shelf.Strings.Search3
import Derived.WalkSpells
import Derived.Lib.OthersKept
import Derived.Lib.Hide
import Derived.WalkSmall
import Derived.Laws.EntriesVeiled
import Derived.RegionTactic
import Derived.Test.YtmklpbmlgjkbiaaQJI0
set_option linter.unusedVariables false
set_option linter.unusedSimpArgs false
set_option maxHeartbeats 8000000
set_option maxRecDepth 100000
section
namespace Go.Proofs.Ytmklpbmlgjkbiaa.PS
inductive Reach (W:Nat→List Way) (n:Nat):Int→Prop
  |first:Reach W n 0
  |next {i:Nat} {a:Way} :Reach W n i→i<n→a∈W i→Reach W n a.1
def Come (W:Nat→List Way) (n:Nat) (o:List Int):Prop:= ∀i:Nat,i<n→0≤at_ o i→Reach W n i
theorem merge_come {W:Nat→List Way} {n i:Nat} {o:List Int} {a:Way} (hW:GoodW W n) (ho:GoodO n o) (hi:i<n) (ha:a∈W i) (h0:0≤at_ o i) (hc:Come W n o):Come W n (mergeW i o a):=by
  obtain⟨t0,t1,hf⟩:=hW i hi a ha;intro j hj h;by_cases e:a.1.toNat=j
  · have:(j:Int)=a.1:=by omega
    rw[this];exact .next (hc i hi h0) hi ha
  · unfold mergeW at h;rw[at_set_ne e]at h;exact hc j hj h
theorem merges_come {W:Nat→List Way} {n i:Nat} (hW:GoodW W n) (hi:i<n): ∀ (L:List Way),(∀a∈L,a∈W i)→ ∀o,GoodO n o→0≤at_ o i→Come W n o→Come W n (L.foldl (mergeW i) o)
  | [],_,o,_,_,hc=>hc
  |a::L,hL,o,ho,h0,hc=>by
    obtain⟨g,d,z⟩:=merge_good hW ho hi (hL a (by simp)) h0
    exact merges_come hW hi L (fun b hb=>hL b (by simp[hb])) _ g z (merge_come hW ho hi (hL a (by simp)) h0 hc)
theorem pass_come {W:Nat→List Way} {n:Nat} (hW:GoodW W n) {o:List Int} (ho:GoodO n o) (hc:Come W n o): ∀m,m≤n→Come W n (passW W m o)
  |0,_=>hc
  |m+1,hm=>by
    have ih:=pass_come hW ho hc m (by omega)
    have g:=(passes_good hW ho m (by omega)).1
    rw[pass_succ];unfold stepW;split
    · exact ih
    · exact merges_come hW (by omega) _ (fun _ h=>h) _ g (by omega) ih
theorem iter_come {W:Nat→List Way} {n:Nat} (hW:GoodW W n): ∀k (o:List Int),GoodO n o→Come W n o→Come W n (iterW W n k o)
  |0,o,_,hc=>hc
  |k+1,o,ho,hc=>iter_come hW k _ (passes_good hW ho n (Nat.le_refl n)).1 (pass_come hW ho hc n (Nat.le_refl n))
theorem start_come (W:Nat→List Way) (n:Nat):Come W n (startO n):=by
  intro i hi h;by_cases e:0=i
  · subst e;exact .first
  · unfold startO at h;rw[at_set_ne e]at h
    simp[at_,List.getD_eq_getElem?_getD,hi]at h
theorem full_reach {W:Nat→List Way} {n:Nat} (hW:GoodW W n) (hn:0<n) {i:Int} :(0≤i∧i<n∧0≤at_ (fullW W n) i) ↔ Reach W n i:=by
  constructor
  · rintro⟨h0,h1,h2⟩
    have:=iter_come hW (mu (startO n)) _ (start_good n) (start_come W n) i.toNat (by omega)
    rw[Int.toNat_of_nonneg h0]at this
    exact this h2
  · intro h
    induction h with
    |first=>exact⟨by omega,by omega,(full_first hW hn).1⟩
    |next _ hi ha ih=>
      obtain⟨t0,t1,hf⟩:=hW _ hi _ ha;exact⟨t0,t1,fix_goes hW (full_good hW) (full_fix hW) hi ih.2.2 ha⟩
end Go.Proofs.Ytmklpbmlgjkbiaa.PS
end
section
namespace Go.Proofs.Ytmklpbmlgjkbiaa.PS
open Go.RowKit Go.Proofs.YtmklpbmlgjkbiaaW.PrintWords Go.Proofs.YtmklpbmlgjkbiaaW.PrintLast Go.Proofs.YtmklpbmlgjkbiaaW.PrintMore
attribute [local go_sem] max2_int min2_int max_two min_two max_three min_three max_four min_four   -- for this text's walks alone
mutual
def spec_CodeReach.l0:Nat→List (S29)→List Int→List Int→Int→Option (List Int)
 |0,_,_,_,_=>none
 |k+1,x0,x3,x4,x5=>if x5<(x4.length:Int)then(if 0≤x5 then((spec_l3Next.f k x0 (rd x4 x5)).bind fun t325=>(spec_CodeReach.l1 k x0 x3 x4 x5 t325 0))else(none))else(spec_CodeReach.l2 k x0 x3 x4 0)
def spec_CodeReach.l1:Nat→List (S29)→List Int→List Int→Int→List Int→Int→Option (List Int)
 |0,_,_,_,_,_,_=>none
 |k+1,x0,x3,x4,x5,x6,x7=>if x7<(x6.length:Int)then(if 0≤x7 then((spec_l11Among.f k x4 (rd x6 x7)).bind fun t329=>(if t329=true then(spec_CodeReach.l1 k x0 x3 x4 x5 x6 (wrap64 (x7+1)))else(if x4.length<17592186044416 then(spec_CodeReach.l1 k x0 x3 (x4++ [rd x6 x7]) x5 x6 (wrap64 (x7+1)))else(none))))else(none))else(spec_CodeReach.l0 k x0 x3 x4 (wrap64 (x5+1)))
def spec_CodeReach.l2:Nat→List (S29)→List Int→List Int→Int→Option (List Int)
 |0,_,_,_,_=>none
 |k+1,x0,x3,x4,x8=>if x8<(x0.length:Int)then((spec_l11Among.f k x4 x8).bind fun t334=>(if t334=true then(if x3.length<17592186044416 then(spec_CodeReach.l2 k x0 (x3++ [x8]) x4 (wrap64 (x8+1)))else(none))else(spec_CodeReach.l2 k x0 x3 x4 (wrap64 (x8+1)))))else(some x3)
end
def spec_CodeReach.f (k:Nat) (l0:List (S29)):Option (List Int):=(some (([]:List Int):List Int)).bind fun y317=>((spec_CodeOk.f k l0).bind fun t320=>(if t320=true then(spec_CodeReach.l0 k l0 y317 (([0]:List Int)) 0)else(some y317)))
theorem spec_CodeReach.calls (k:Nat) (A0:Option Addr) (c0:Nat) (l0:List (S29)) (r:List Int) (w:World) (hr0:Kd.C k29 w A0 l0.length l0) (hc0:l0.length≤c0) (h:spec_CodeReach.f k l0=some r):
  Calls Try.prog 41 #[.slice A0 l0.length c0] w fun e w'=> ∃v0_:Value,e= .returned (v0_)∧Kd.R (Kd.int .i64) 3 w' w.heap.size (fun _=>True) v0_ r∧Below w.heap.size w w':=by
 have HR0:=Aside0.mk hr0;have HC0:=Aside0.mk hc0;clear hr0 hc0;have HB:=Aside0.mk (Below.refl w.heap.size w);have H:((some (([]:List Int):List Int)).bind fun y317=>((spec_CodeOk.f k l0).bind fun t320=>(if t320=true then(spec_CodeReach.l0 k l0 y317 (([0]:List Int)) 0)else(some y317))))=some r:=h
 clear h;obtain⟨y317,hy317⟩: ∃y_:List Int,y_=(([]:List Int)):=⟨_,rfl⟩;replace H:((spec_CodeOk.f k l0).bind fun t320=>(if t320=true then(spec_CodeReach.l0 k l0 y317 (([0]:List Int)) 0)else(some y317)))=some r:=by first|(rw[hy317];with_reducible exact H)|(have H2_:=(Option.bind_some _ _).symm.trans H;rw[hy317];with_reducible exact H2_)|(have H2_:=(Option.bind_some _ _).symm.trans H;with_reducible exact H2_)|with_reducible exact H|(rw[hy317];exact H)|exact H
 have Ny317:=Aside0.mk hy317;clear hy317;replace H:=Option.bind_eq_some_iff.mp H;obtain⟨t320,A20,H⟩:=H;replace H:(if t320=true then(spec_CodeReach.l0 k l0 y317 (([0]:List Int)) 0)else(some y317))=some r:=H
 have A2:=Aside0.mk A20;clear A20;by_cases c3:t320=true
 ·subst c3
  have H1:(spec_CodeReach.l0 k l0 y317 (([0]:List Int)) 0)=some r:=by rw[if_pos rfl]at H;exact H
  clear H;have H:=H1;clear H1;obtain⟨y321,hy321⟩: ∃y_:List Int,y_=(([0]:List Int)):=⟨_,rfl⟩;replace H:(spec_CodeReach.l0 k l0 y317 y321 0)=some r:=by first|(rw[hy321];with_reducible exact H)|(have H2_:=(Option.bind_some _ _).symm.trans H;rw[hy321];with_reducible exact H2_)|(have H2_:=(Option.bind_some _ _).symm.trans H;with_reducible exact H2_)|with_reducible exact H|(rw[hy321];exact H)|exact H
  have Ny321:=Aside0.mk hy321;clear hy321;have H':=Aside0.mk H;clear H;go_enter Try.func41,Try.ntmps41
  go_wp2_with (first|((with_reducible refine gate_dst (N:=9) rfl ?_);refine Kd.R_lit (Kd.int .i64) _ 3 ?hg (N:=9) ?hd (xs:=([]:List Int)) (inner:=[]) (ok:=fun _=>True) (okp:=fun _=>True) ?hr ?hp (fun _ hk=>hk) trivial (Below.refl _ _) (Nat.le_refl _) (by simp) ?_;(case hd=>rfl);(case hg=>rfl);(case hr=>first|(go_simp;done)|(go_simp;rfl));(case hp=>exact(Reps.none _ _));intro v318 w4 ho5 hb hg_ hnew_;clear hg_ hnew_;(first|rw[←Ny317.out]at ho5|(simp only[Int.reduceToNat]at ho5;rw[←Ny317.out]at ho5));have HO319:=Aside0.mk (Kd.R_lower ho5 (below_size (by exact bU HB.out)));replace HB:=Aside0.mk (below_step (by exact bU HB.out) hb);clear hb ho5)|((with_reducible refine gate_callee (f:=33) rfl ?_);refine goesL_ (some 11) rfl rfl Try.func33 (by kernel_rfl) rfl #[.slice A0 l0.length c0] rfl (by(try simp only[List.map_toArray,List.map_cons,List.map_nil])<;>rfl) ?_;(with_reducible refine(spec_CodeOk.calls k _ _ l0 true _ ?side1 ?side2 A2.out).mono ?_);(case side1=>repeat(first|exact(Kd.C_below HR0.out HB.out)|(with_reducible refine Kd.C_alloc ?_ _)|(with_reducible refine Kd.C_drewN ?_ _)|(with_reducible refine Kd.C_drew ?_)));(case side2=>exact HC0.out);rintro e w6 ⟨rfl,hb⟩;refine⟨_,rfl,?_⟩;replace HO319:=Aside0.mk (Kd.R_below (by exact rU HO319.out) hb);replace HB:=Aside0.mk (below_step (by exact bU HB.out) hb);(try clear hb);(try clear hb2);(try clear hk);(try clear hi))|((with_reducible refine gate_dst (N:=14) rfl ?_);refine Kd.R_lit (Kd.int .i64) _ 3 ?hg (N:=14) ?hd (xs:=([0]:List Int)) (inner:=[.int .i64 0]) (ok:=fun _=>True) (okp:=fun _=>True) ?hr ?hp (fun _ hk=>hk) trivial (Below.refl _ _) (Nat.le_refl _) (by simp) ?_;(case hd=>rfl);(case hg=>rfl);(case hr=>first|(go_simp;done)|(go_simp;rfl));(case hp=>exact(Reps.one (show Kd.M (Kd.int .i64) _ _ _ 0 [.int .i64 0]from rfl) (Reps.none _ _)));intro v322 w7 ho8 hb hg_ hnew_;clear hg_ hnew_;(first|rw[←Ny321.out]at ho8|(simp only[Int.reduceToNat]at ho8;rw[←Ny321.out]at ho8));have n0_:=Aside0.mk (Kd.R_elder' (by exact rU HO319.out) (Kd.R_base ho8) hb);have n1_:=Aside0.mk (Kd.R_lower (Kd.R_new' ho8 (Kd.R_lt (by exact rU HO319.out))) (below_size (by exact bU HB.out)));have n2_:=Aside0.mk (below_step (by exact bU HB.out) hb);clear HO319;clear HB;have HO319:=n0_;have HO323:=n1_;have HB:=n2_;clear n0_ n1_ n2_;clear hb ho8))
  go_loopg [4,5] k (fun kq v4 v5 w'=> ∃ (x4_1:List Int) (x5_1:Int),v5= .int .i64 x5_1∧Aside0 (spec_CodeReach.l0 kq l0 y317 x4_1 x5_1=some r)∧Aside0 (kq≤k)∧Aside0 (Kd.R (Kd.int .i64) 3 w' w.heap.size (fun k_=>some k_≠(v4:Value).ownBlock) v318 y317)∧Aside0 (Kd.R (Kd.int .i64) 3 w' w.heap.size (fun k_=>some k_≠(v318:Value).ownBlock) v4 x4_1)∧Aside0 (Below w.heap.size w w'))
  case atStart=>exact⟨(y321),(0),(by first|rfl|(simp;done)|(simp[*];done)),H',⟨Nat.le_refl _⟩,⟨by(with_reducible repeat(first|apply rA|apply rN|apply rD));exact Kd.R_mono HO319.out (fun _ hk=>hk.2)⟩,⟨by(with_reducible repeat(first|apply rA|apply rN|apply rD));exact Kd.R_mono HO323.out (fun _ hk=>hk.2)⟩,⟨by exact bU HB.out⟩⟩
  case round=>
   clear H';(try clear p2);(try clear c3);(try clear c4)
   obtain⟨x4_1,x5_1,rfl,HA,HK1,HO_3,HO_4,HB⟩:=hrel;cases gk with
   |zero=>exact absurd HA.out (by simp[spec_CodeReach.l0])
   |succ k1=>
    have H:=HA.out;clear HA;simp only[spec_CodeReach.l0]at H
    by_cases c9:x5_1<(x4_1.length:Int)
    ·rw[if_pos c9]at H
     have c9b0:decide (x5_1<(x4_1.length:Int))=true:=decide_eq_true c9;clear c9;by_cases c10:0≤x5_1
     ·rw[if_pos c10]at H
      have c10b0:decide (0≤x5_1)=true:=decide_eq_true c10;clear c10;replace H:=Option.bind_eq_some_iff.mp H;obtain⟨t325,A110,H⟩:=H;replace H:(spec_CodeReach.l1 k1 l0 y317 x4_1 x5_1 t325 0)=some r:=H;have A11:=Aside0.mk A110;clear A110;have H':=Aside0.mk H;clear H;obtain⟨Ao12,co12,eo12⟩:=Kd.R_slice HO_4.out;subst eo12;have p324:0≤(x5_1:Int):=of_decide_eq_true (by assumption)
      have q324:x5_1<(x4_1.length:Int):=of_decide_eq_true (by assumption)
      obtain⟨ad324,e324,hx324_0⟩:=Kd.at_int (Kd.R_reads' HO_4.out).2.2 x5_1 p324 q324;cases e324
      replace p324:=eq_true p324;replace q324:=eq_true q324;go_wp2_with (first|((with_reducible refine gate_callee (f:=76) rfl ?_);refine goesL_ (some 26) rfl rfl Try.func76 (by kernel_rfl) rfl #[.slice A0 l0.length c0,.int .i64 (rd x4_1 x5_1)] rfl (by(try simp only[List.map_toArray,List.map_cons,List.map_nil])<;>rfl) ?_;(with_reducible refine(spec_l3Next.calls k1 _ _ l0 (rd x4_1 x5_1) t325 _ ?side1 ?side2 A11.out).mono ?_);(case side1=>repeat(first|exact(Kd.C_below HR0.out HB.out)|(with_reducible refine Kd.C_alloc ?_ _)|(with_reducible refine Kd.C_drewN ?_ _)|(with_reducible refine Kd.C_drew ?_)));(case side2=>exact HC0.out);rintro e w13 ⟨v326,rfl,ho0,hb⟩;refine⟨_,rfl,?_⟩;have n0_:=Aside0.mk (Kd.R_elder' (by exact rU HO_3.out) (Kd.R_base ho0) hb);have n1_:=Aside0.mk (Kd.R_elder' (by exact rU HO_4.out) (Kd.R_base ho0) hb);have n2_:=Aside0.mk (Kd.R_lower (Kd.R_new' (Kd.R_new' ho0 (Kd.R_lt (by exact rU HO_3.out))) (Kd.R_lt (by exact rU HO_4.out))) (below_size (by exact bU HB.out)));have n3_:=Aside0.mk (below_step (by exact bU HB.out) hb);clear HO_3;clear HO_4;clear HB;have HO_3:=n0_;have HO_4:=n1_;have HO327:=n2_;have HB:=n3_;clear n0_ n1_ n2_ n3_;(try clear hb);(try clear hb2);(try clear hk);(try clear hi);(try clear ho0)))
      go_loopg [4,7] k1 (fun kq v4 v7 w'=> ∃ (x4_2:List Int) (x7_2:Int),v7= .int .i64 x7_2∧Aside0 (spec_CodeReach.l1 kq l0 y317 x4_2 x5_1 t325 x7_2=some r)∧Aside0 (kq≤k1)∧Aside0 (Kd.R (Kd.int .i64) 3 w' w.heap.size (fun k_=>some k_≠(v4:Value).ownBlock∧some k_≠(v326:Value).ownBlock) v318 y317)∧Aside0 (Kd.R (Kd.int .i64) 3 w' w.heap.size (fun k_=>some k_≠(v318:Value).ownBlock∧some k_≠(v326:Value).ownBlock) v4 x4_2)∧Aside0 (Kd.R (Kd.int .i64) 3 w' w.heap.size (fun k_=>some k_≠(v318:Value).ownBlock∧some k_≠(v4:Value).ownBlock) v326 t325)∧Aside0 (Below w.heap.size w w'))
      case atStart=>exact⟨(x4_1),(0),(by first|rfl|(simp;done)|(simp[*];done)),H',⟨Nat.le_refl _⟩,⟨by exact rU HO_3.out⟩,⟨by exact rU HO_4.out⟩,⟨by(with_reducible repeat(first|apply rA|apply rN|apply rD));exact Kd.R_mono HO327.out (fun _ hk=>⟨hk.1.2,hk.2⟩)⟩,⟨by exact bU HB.out⟩⟩
      case round=>
       clear H';(try clear c1);(try clear p2);(try clear c3);(try clear p3);(try clear q3);(try clear hx3);(try clear c4);(try clear c7);(try clear c9);(try clear c9b0);(try clear c10);(try clear c10b0);(try clear hx324_0);(try clear p2);(try clear p324);(try clear q324)
       obtain⟨x4_2,x7_2,rfl,HA,HK2,HO_3,HO_4,HO_6,HB⟩:=hrel;cases gk with
       |zero=>exact absurd HA.out (by simp[spec_CodeReach.l1])
       |succ k2=>
        have H:=HA.out;clear HA;simp only[spec_CodeReach.l1]at H
        by_cases c14:x7_2<(t325.length:Int)
        ·rw[if_pos c14]at H
         have c14b0:decide (x7_2<(t325.length:Int))=true:=decide_eq_true c14;clear c14;by_cases c15:0≤x7_2
         ·rw[if_pos c15]at H
          have c15b0:decide (0≤x7_2)=true:=decide_eq_true c15;clear c15;replace H:=Option.bind_eq_some_iff.mp H;obtain⟨t329,A160,H⟩:=H;replace H:(if t329=true then(spec_CodeReach.l1 k2 l0 y317 x4_2 x5_1 t325 (wrap64 (x7_2+1)))else(if x4_2.length<17592186044416 then(spec_CodeReach.l1 k2 l0 y317 (x4_2++ [rd t325 x7_2]) x5_1 t325 (wrap64 (x7_2+1)))else(none)))=some r:=H
          have A16:=Aside0.mk A160;clear A160;by_cases c17:t329=true
          ·subst c17
           have H1:(spec_CodeReach.l1 k2 l0 y317 x4_2 x5_1 t325 (wrap64 (x7_2+1)))=some r:=by rw[if_pos rfl]at H;exact H
           clear H;have H:=H1;clear H1;have H':=Aside0.mk H;clear H;obtain⟨Ao18,co18,eo18⟩:=Kd.R_slice HO_6.out;subst eo18;have p328:0≤(x7_2:Int):=of_decide_eq_true (by assumption)
           have q328:x7_2<(t325.length:Int):=of_decide_eq_true (by assumption)
           obtain⟨ad328,e328,hx328_0⟩:=Kd.at_int (Kd.R_reads' HO_6.out).2.2 x7_2 p328 q328;cases e328
           replace p328:=eq_true p328;replace q328:=eq_true q328;obtain⟨Ao19,co19,eo19⟩:=Kd.R_slice HO_4.out;subst eo19;go_wp2_with (first|((with_reducible refine gate_callee (f:=79) rfl ?_);refine goesL_ (some 38) rfl rfl Try.func79 (by kernel_rfl) rfl #[.slice Ao19 x4_2.length co19,.int .i64 (rd t325 x7_2)] rfl (by(try simp only[List.map_toArray,List.map_cons,List.map_nil])<;>rfl) ?_;(with_reducible refine(spec_l11Among.calls k2 _ _ x4_2 (rd t325 x7_2) true _ ?side1 ?side2 A16.out).mono ?_);(case side1=>repeat(first|exact(Kd.R_reads' HO_4.out).2.2|(with_reducible refine Kd.C_alloc ?_ _)|(with_reducible refine Kd.C_drewN ?_ _)|(with_reducible refine Kd.C_drew ?_)));(case side2=>exact(Kd.R_reads' HO_4.out).2.1);rintro e w' ⟨rfl,⟨nd,rfl⟩⟩;refine⟨_,rfl,?_⟩))
           go_roundg k2
           case measure=>have:=HK1.out;have:=HK2.out;omega
           case rel=>exact⟨(x4_2),(wrap64 (x7_2+1)),(by first|rfl|(simp;done)|(simp[*];done)),H',⟨by have:=HK1.out;have:=HK2.out;omega⟩,⟨by exact rU HO_3.out⟩,⟨by exact rU HO_4.out⟩,⟨by exact rU HO_6.out⟩,⟨by exact bU HB.out⟩⟩
          ·replace c17:=Bool.eq_false_iff.mpr c17
           subst c17;have H1:(if x4_2.length<17592186044416 then(spec_CodeReach.l1 k2 l0 y317 (x4_2++ [rd t325 x7_2]) x5_1 t325 (wrap64 (x7_2+1)))else(none))=some r:=by rw[if_neg (show¬(false=true) by decide)]at H;exact H
           clear H;have H:=H1;clear H1;by_cases c20:x4_2.length<17592186044416
           ·rw[if_pos c20]at H
            have LMc20:=Aside0.mk c20;clear c20;obtain⟨y331,hy331⟩: ∃y_:List Int,y_=(x4_2++ [rd t325 x7_2]):=⟨_,rfl⟩;replace H:(spec_CodeReach.l1 k2 l0 y317 y331 x5_1 t325 (wrap64 (x7_2+1)))=some r:=by first|(rw[hy331];with_reducible exact H)|(have H2_:=(Option.bind_some _ _).symm.trans H;rw[hy331];with_reducible exact H2_)|(have H2_:=(Option.bind_some _ _).symm.trans H;with_reducible exact H2_)|with_reducible exact H|(rw[hy331];exact H)|exact H
            have Ny331:=Aside0.mk hy331;clear hy331;have H':=Aside0.mk H;clear H;obtain⟨Ao21,co21,eo21⟩:=Kd.R_slice HO_6.out;subst eo21;have p328:0≤(x7_2:Int):=of_decide_eq_true (by assumption)
            have q328:x7_2<(t325.length:Int):=of_decide_eq_true (by assumption)
            obtain⟨ad328,e328,hx328_0⟩:=Kd.at_int (Kd.R_reads' HO_6.out).2.2 x7_2 p328 q328;cases e328
            replace p328:=eq_true p328;replace q328:=eq_true q328;obtain⟨Ao22,co22,eo22⟩:=Kd.R_slice HO_4.out;subst eo22;go_wp2_with (first|((with_reducible refine gate_callee (f:=79) rfl ?_);refine goesL_ (some 38) rfl rfl Try.func79 (by kernel_rfl) rfl #[.slice Ao22 x4_2.length co22,.int .i64 (rd t325 x7_2)] rfl (by(try simp only[List.map_toArray,List.map_cons,List.map_nil])<;>rfl) ?_;(with_reducible refine(spec_l11Among.calls k2 _ _ x4_2 (rd t325 x7_2) false _ ?side1 ?side2 A16.out).mono ?_);(case side1=>repeat(first|exact(Kd.R_reads' HO_4.out).2.2|(with_reducible refine Kd.C_alloc ?_ _)|(with_reducible refine Kd.C_drewN ?_ _)|(with_reducible refine Kd.C_drew ?_)));(case side2=>exact(Kd.R_reads' HO_4.out).2.1);rintro e w' ⟨rfl,⟨nd,rfl⟩⟩;refine⟨_,rfl,?_⟩;have p330:0≤(x7_2:Int):=of_decide_eq_true (by assumption);have q330:x7_2<(t325.length:Int):=of_decide_eq_true (by assumption);obtain⟨ad330,e330,hx330_0⟩:=Kd.at_int (Kd.R_reads' HO_6.out).2.2 x7_2 p330 q330;obtain rfl:ad328=ad330:=(by injection e330);replace p330:=eq_true p330;replace q330:=eq_true q330)|((with_reducible refine gate_builtin (b:=.append) (xs:= #[.tmp 40,.tmp 45]) rfl ?_);at_builtin;refine Kd.R_append (Kd.int .i64) (w0:=w) w.heap.size rfl (.tmp 40) (.tmp 45) 32 3 (.int .i64 0) 8 rfl Try.underlying32 info3 rfl (by decide) (by omega) (.slice Ao22 x4_2.length co22) x4_2 (rd t325 x7_2) [.int .i64 (rd t325 x7_2)] (fun k_=>some k_≠(v318:Value).ownBlock∧some k_≠(.slice (some ad328) t325.length co21:Value).ownBlock) (fun _=>False) rfl rfl ?aP (fun _ hk=>hk.elim) ?aF ?aO ?aB ?aS ?aL ?_;(case aP=>exact rfl);(case aB=>exact(by exact bU HB.out));(case aF=>exact(fun k_ hk=>⟨Kd.fresh' (Kd.R_lt (by exact rU HO_3.out)) k_ hk,Kd.fresh' (Kd.R_lt (by exact rU HO_6.out)) k_ hk⟩));(case aO=>exact(by exact rU HO_4.out));(case aS=>exact(below_size (by exact bU HB.out)));(case aL=>have:=LMc20.out;omega);intro v332 w23 ho hb hg hat;rw[←Ny331.out]at ho;replace HO_3:=Aside0.mk (Kd.R_after (ok:=(fun k_=>some k_≠(.slice (some ad328) t325.length co21:Value).ownBlock)) (by(with_reducible repeat(first|apply rA|apply rN|apply rD));exact Kd.R_mono HO_3.out (fun _ hk=>⟨hk.2,hk.1⟩)) hg hat);replace HO_6:=Aside0.mk (Kd.R_after (ok:=(fun k_=>some k_≠(v318:Value).ownBlock)) (by exact rU HO_6.out) hg hat);replace HB:=Aside0.mk (hb);have HO333:=Aside0.mk (ho);clear HO_4;clear ho hb hg hat))
            go_roundg k2
            case measure=>have:=HK1.out;have:=HK2.out;omega
            case rel=>exact⟨(y331),(wrap64 (x7_2+1)),(by first|rfl|(simp;done)|(simp[*];done)),H',⟨by have:=HK1.out;have:=HK2.out;omega⟩,⟨by(with_reducible repeat(first|apply rA|apply rN|apply rD));exact Kd.R_mono HO_3.out (fun _ hk=>⟨hk.2,hk.1⟩)⟩,⟨by exact rU HO333.out⟩,⟨by exact rU HO_6.out⟩,⟨by exact bU HB.out⟩⟩
           ·rw[if_neg c20]at H
            exact absurd H (by simp)
         ·rw[if_neg c15]at H
          exact absurd H (by simp)
        ·rw[if_neg c14]at H
         have c14b0:decide (x7_2<(t325.length:Int))=false:=decide_eq_false c14;clear c14;have H':=Aside0.mk H;clear H;obtain⟨Ao24,co24,eo24⟩:=Kd.R_slice HO_6.out;subst eo24;go_wp2
         go_roundg k2
         case measure=>have:=HK1.out;have:=HK2.out;omega
         case rel=>exact⟨(x4_2),(wrap64 (x5_1+1)),(by first|rfl|(simp;done)|(simp[*];done)),H',⟨by have:=HK1.out;have:=HK2.out;omega⟩,⟨by(with_reducible repeat(first|apply rA|apply rN|apply rD));exact Kd.R_mono HO_3.out (fun _ hk=>hk.1)⟩,⟨by(with_reducible repeat(first|apply rA|apply rN|apply rD));exact Kd.R_mono HO_4.out (fun _ hk=>hk.1)⟩,⟨by exact bU HB.out⟩⟩
     ·rw[if_neg c10]at H
      exact absurd H (by simp)
    ·rw[if_neg c9]at H
     have c9b0:decide (x5_1<(x4_1.length:Int))=false:=decide_eq_false c9;clear c9;have H':=Aside0.mk H;clear H;obtain⟨Ao25,co25,eo25⟩:=Kd.R_slice HO_4.out;subst eo25;go_wp2
     go_loopg [3,8] k1 (fun kq v3 v8 w'=> ∃ (x3_2:List Int) (x8_2:Int),v8= .int .i64 x8_2∧Aside0 (spec_CodeReach.l2 kq l0 x3_2 x4_1 x8_2=some r)∧Aside0 (kq≤k1)∧Aside0 (Kd.R (Kd.int .i64) 3 w' w.heap.size (fun k_=>some k_≠((.slice Ao25 x4_1.length co25):Value).ownBlock) v3 x3_2)∧Aside0 (Kd.R (Kd.int .i64) 3 w' w.heap.size (fun k_=>some k_≠(v3:Value).ownBlock) (.slice Ao25 x4_1.length co25) x4_1)∧Aside0 (Below w.heap.size w w'))
     case atStart=>exact⟨(y317),(0),(by first|rfl|(simp;done)|(simp[*];done)),H',⟨Nat.le_refl _⟩,⟨by exact rU HO_3.out⟩,⟨by exact rU HO_4.out⟩,⟨by exact bU HB.out⟩⟩
     case round=>
      clear H';(try clear c1);(try clear c2);(try clear p2);(try clear c3);(try clear p3);(try clear q3);(try clear hx3);(try clear c4);(try clear p6);(try clear c7);(try clear c9);(try clear c9b0);(try clear c10);(try clear c10b0);(try clear c14);(try clear c14b0);(try clear c15);(try clear c15b0);(try clear c17);(try clear c20);(try clear hx324_0);(try clear hx328_0);(try clear hx330_0);(try clear p2);(try clear p3);(try clear p324);(try clear p328);(try clear p330);(try clear q3);(try clear q324);(try clear q328);(try clear q330)
      obtain⟨x3_2,x8_2,rfl,HA,HK2,HO_3,HO_4,HB⟩:=hrel;cases gk with
      |zero=>exact absurd HA.out (by simp[spec_CodeReach.l2])
      |succ k2=>
       have H:=HA.out;clear HA;simp only[spec_CodeReach.l2]at H
       by_cases c26:x8_2<(l0.length:Int)
       ·rw[if_pos c26]at H
        have c26b0:decide (x8_2<(l0.length:Int))=true:=decide_eq_true c26;clear c26;replace H:=Option.bind_eq_some_iff.mp H;obtain⟨t334,A270,H⟩:=H;replace H:(if t334=true then(if x3_2.length<17592186044416 then(spec_CodeReach.l2 k2 l0 (x3_2++ [x8_2]) x4_1 (wrap64 (x8_2+1)))else(none))else(spec_CodeReach.l2 k2 l0 x3_2 x4_1 (wrap64 (x8_2+1))))=some r:=H
        have A27:=Aside0.mk A270;clear A270;by_cases c28:t334=true
        ·subst c28
         have H1:(if x3_2.length<17592186044416 then(spec_CodeReach.l2 k2 l0 (x3_2++ [x8_2]) x4_1 (wrap64 (x8_2+1)))else(none))=some r:=by rw[if_pos rfl]at H;exact H
         clear H;have H:=H1;clear H1;by_cases c29:x3_2.length<17592186044416
         ·rw[if_pos c29]at H
          have LMc29:=Aside0.mk c29;clear c29;obtain⟨y335,hy335⟩: ∃y_:List Int,y_=(x3_2++ [x8_2]):=⟨_,rfl⟩;replace H:(spec_CodeReach.l2 k2 l0 y335 x4_1 (wrap64 (x8_2+1)))=some r:=by first|(rw[hy335];with_reducible exact H)|(have H2_:=(Option.bind_some _ _).symm.trans H;rw[hy335];with_reducible exact H2_)|(have H2_:=(Option.bind_some _ _).symm.trans H;with_reducible exact H2_)|with_reducible exact H|(rw[hy335];exact H)|exact H
          have Ny335:=Aside0.mk hy335;clear hy335;have H':=Aside0.mk H;clear H;go_wp2_with (first|((with_reducible refine gate_callee (f:=79) rfl ?_);refine goesL_ (some 55) rfl rfl Try.func79 (by kernel_rfl) rfl #[.slice Ao25 x4_1.length co25,.int .i64 x8_2] rfl (by(try simp only[List.map_toArray,List.map_cons,List.map_nil])<;>rfl) ?_;(with_reducible refine(spec_l11Among.calls k2 _ _ x4_1 x8_2 true _ ?side1 ?side2 A27.out).mono ?_);(case side1=>repeat(first|exact(Kd.R_reads' HO_4.out).2.2|(with_reducible refine Kd.C_alloc ?_ _)|(with_reducible refine Kd.C_drewN ?_ _)|(with_reducible refine Kd.C_drew ?_)));(case side2=>exact(Kd.R_reads' HO_4.out).2.1);rintro e w' ⟨rfl,⟨nd,rfl⟩⟩;refine⟨_,rfl,?_⟩)|((with_reducible refine gate_builtin (b:=.append) (xs:= #[.tmp 56,.tmp 58]) rfl ?_);at_builtin;refine Kd.R_append (Kd.int .i64) (w0:=w) w.heap.size rfl (.tmp 56) (.tmp 58) 32 3 (.int .i64 0) 8 rfl Try.underlying32 info3 rfl (by decide) (by omega) u3 x3_2 x8_2 [.int .i64 x8_2] (fun k_=>some k_≠(.slice Ao25 x4_1.length co25:Value).ownBlock) (fun _=>False) rfl rfl ?aP (fun _ hk=>hk.elim) ?aF ?aO ?aB ?aS ?aL ?_;(case aP=>exact rfl);(case aB=>exact(by exact bU HB.out));(case aF=>exact(fun k_ hk=>Kd.fresh' (Kd.R_lt (by exact rU HO_4.out)) k_ hk));(case aO=>exact(by exact rU HO_3.out));(case aS=>exact(below_size (by exact bU HB.out)));(case aL=>have:=LMc29.out;omega);intro v336 w30 ho hb hg hat;rw[←Ny335.out]at ho;replace HO_4:=Aside0.mk (Kd.R_after (ok:=(fun _=>True)) (by(with_reducible repeat(first|apply rA|apply rN|apply rD));exact Kd.R_mono HO_4.out (fun _ hk=>⟨trivial,hk⟩)) hg hat);replace HB:=Aside0.mk (hb);have HO337:=Aside0.mk (ho);clear HO_3;clear ho hb hg hat))
          go_roundg k2
          case measure=>have:=HK1.out;have:=HK2.out;omega
          case rel=>exact⟨(y335),(wrap64 (x8_2+1)),(by first|rfl|(simp;done)|(simp[*];done)),H',⟨by have:=HK1.out;have:=HK2.out;omega⟩,⟨by exact rU HO337.out⟩,⟨by(with_reducible repeat(first|apply rA|apply rN|apply rD));exact Kd.R_mono HO_4.out (fun _ hk=>hk.2)⟩,⟨by exact bU HB.out⟩⟩
         ·rw[if_neg c29]at H
          exact absurd H (by simp)
        ·replace c28:=Bool.eq_false_iff.mpr c28
         subst c28;have H1:(spec_CodeReach.l2 k2 l0 x3_2 x4_1 (wrap64 (x8_2+1)))=some r:=by rw[if_neg (show¬(false=true) by decide)]at H;exact H
         clear H;have H:=H1;clear H1;have H':=Aside0.mk H;clear H;go_wp2_with (first|((with_reducible refine gate_callee (f:=79) rfl ?_);refine goesL_ (some 55) rfl rfl Try.func79 (by kernel_rfl) rfl #[.slice Ao25 x4_1.length co25,.int .i64 x8_2] rfl (by(try simp only[List.map_toArray,List.map_cons,List.map_nil])<;>rfl) ?_;(with_reducible refine(spec_l11Among.calls k2 _ _ x4_1 x8_2 false _ ?side1 ?side2 A27.out).mono ?_);(case side1=>repeat(first|exact(Kd.R_reads' HO_4.out).2.2|(with_reducible refine Kd.C_alloc ?_ _)|(with_reducible refine Kd.C_drewN ?_ _)|(with_reducible refine Kd.C_drew ?_)));(case side2=>exact(Kd.R_reads' HO_4.out).2.1);rintro e w' ⟨rfl,⟨nd,rfl⟩⟩;refine⟨_,rfl,?_⟩))
         go_roundg k2
         case measure=>have:=HK1.out;have:=HK2.out;omega
         case rel=>exact⟨(x3_2),(wrap64 (x8_2+1)),(by first|rfl|(simp;done)|(simp[*];done)),H',⟨by have:=HK1.out;have:=HK2.out;omega⟩,⟨by exact rU HO_3.out⟩,⟨by exact rU HO_4.out⟩,⟨by exact bU HB.out⟩⟩
       ·rw[if_neg c26]at H
        have c26b0:decide (x8_2<(l0.length:Int))=false:=decide_eq_false c26;clear c26;obtain rfl:=Option.some.inj H;go_wp2
        go_ret
        exact⟨_,by first|rfl|(simp[errW_none,errW_some]<;>rfl)|(simp[*,errW_none,errW_some]<;>rfl),by(with_reducible repeat(first|apply rA|apply rN|apply rD));exact Kd.R_mono HO_3.out (fun _ hk=>trivial),by exact bU HB.out⟩
 ·replace c3:=Bool.eq_false_iff.mpr c3
  subst c3;have H1:(some y317)=some r:=by rw[if_neg (show¬(false=true) by decide)]at H;exact H
  clear H;have H:=H1;clear H1;obtain rfl:=Option.some.inj H;go_enter Try.func41,Try.ntmps41
  go_wp2_with (first|((with_reducible refine gate_dst (N:=9) rfl ?_);refine Kd.R_lit (Kd.int .i64) _ 3 ?hg (N:=9) ?hd (xs:=([]:List Int)) (inner:=[]) (ok:=fun _=>True) (okp:=fun _=>True) ?hr ?hp (fun _ hk=>hk) trivial (Below.refl _ _) (Nat.le_refl _) (by simp) ?_;(case hd=>rfl);(case hg=>rfl);(case hr=>first|(go_simp;done)|(go_simp;rfl));(case hp=>exact(Reps.none _ _));intro v318 w31 ho32 hb hg_ hnew_;clear hg_ hnew_;(first|rw[←Ny317.out]at ho32|(simp only[Int.reduceToNat]at ho32;rw[←Ny317.out]at ho32));have HO319:=Aside0.mk (Kd.R_lower ho32 (below_size (by exact bU HB.out)));replace HB:=Aside0.mk (below_step (by exact bU HB.out) hb);clear hb ho32)|((with_reducible refine gate_callee (f:=33) rfl ?_);refine goesL_ (some 11) rfl rfl Try.func33 (by kernel_rfl) rfl #[.slice A0 l0.length c0] rfl (by(try simp only[List.map_toArray,List.map_cons,List.map_nil])<;>rfl) ?_;(with_reducible refine(spec_CodeOk.calls k _ _ l0 false _ ?side1 ?side2 A2.out).mono ?_);(case side1=>repeat(first|exact(Kd.C_below HR0.out HB.out)|(with_reducible refine Kd.C_alloc ?_ _)|(with_reducible refine Kd.C_drewN ?_ _)|(with_reducible refine Kd.C_drew ?_)));(case side2=>exact HC0.out);rintro e w33 ⟨rfl,hb⟩;refine⟨_,rfl,?_⟩;replace HO319:=Aside0.mk (Kd.R_below (by exact rU HO319.out) hb);replace HB:=Aside0.mk (below_step (by exact bU HB.out) hb);(try clear hb);(try clear hb2);(try clear hk);(try clear hi)))
  go_ret
  exact⟨_,by first|rfl|(simp[errW_none,errW_some]<;>rfl)|(simp[*,errW_none,errW_some]<;>rfl),by exact rU HO319.out,by exact bU HB.out⟩
def impl_CodeReach.l0:Nat→List Int→List Int→Int→Int→Option (List Int)
 |0,_,_,_,_=>none
 |k+1,x3,x10,x11,x12=>if x12<x11 then(if 0≤x12 then(if x12<(x10.length:Int)then(if(rd x10 x12)≥0 then(if x3.length<17592186044416 then(impl_CodeReach.l0 k (x3++ [x12]) x10 x11 (wrap64 (x12+1)))else(none))else(impl_CodeReach.l0 k x3 x10 x11 (wrap64 (x12+1))))else(none))else(none))else(some x3)
def impl_CodeReach.f (k:Nat) (l0:List (S29)):Option (List Int):=(codeV.f l0).bind fun t338=>(if t338=true then((fullV.f l0).bind fun t339=>(impl_CodeReach.l0 k ([]:List Int) t339 (t339.length:Int) 0))else(some ([]:List Int)))
theorem impl_CodeReach.calls (k:Nat) (A0:Option Addr) (c0:Nat) (l0:List (S29)) (r:List Int) (w:World) (hr0:Kd.C k29 w A0 l0.length l0) (hc0:l0.length≤c0) (h:impl_CodeReach.f k l0=some r):
  Calls Try.prog 42 #[.slice A0 l0.length c0] w fun e w'=> ∃v0_:Value,e= .returned (v0_)∧Kd.R (Kd.int .i64) 3 w' w.heap.size (fun _=>True) v0_ r∧Below w.heap.size w w':=by
 have HR0:=Aside0.mk hr0;have HC0:=Aside0.mk hc0;clear hr0 hc0;have HB:=Aside0.mk (Below.refl w.heap.size w);have H:((codeV.f l0).bind fun t338=>(if t338=true then((fullV.f l0).bind fun t339=>(impl_CodeReach.l0 k ([]:List Int) t339 (t339.length:Int) 0))else(some ([]:List Int))))=some r:=h
 clear h;replace H:=Option.bind_eq_some_iff.mp H;obtain⟨t338,A20,H⟩:=H;replace H:(if t338=true then((fullV.f l0).bind fun t339=>(impl_CodeReach.l0 k ([]:List Int) t339 (t339.length:Int) 0))else(some ([]:List Int)))=some r:=H
 have A2:=Aside0.mk A20;clear A20;by_cases c3:t338=true
 ·subst c3
  have H1:((fullV.f l0).bind fun t339=>(impl_CodeReach.l0 k ([]:List Int) t339 (t339.length:Int) 0))=some r:=by rw[if_pos rfl]at H;exact H
  clear H;have H:=H1;clear H1;replace H:=Option.bind_eq_some_iff.mp H;obtain⟨t339,A40,H⟩:=H;replace H:(impl_CodeReach.l0 k ([]:List Int) t339 (t339.length:Int) 0)=some r:=H;have A4:=Aside0.mk A40;clear A40;have H':=Aside0.mk H;clear H;go_enter Try.func42,Try.ntmps42
  go_wp2_with (first|((with_reducible refine gate_callee (f:=35) rfl ?_);refine goesL_ (some 7) rfl rfl Try.func35 (by kernel_rfl) rfl #[.slice A0 l0.length c0] rfl (by(try simp only[List.map_toArray,List.map_cons,List.map_nil])<;>rfl) ?_;(with_reducible refine(impl_CodeOk.calls _ _ l0 true _ ?side1 ?side2 A2.out).mono ?_);(case side1=>repeat(first|exact HR0.out|(with_reducible refine Kd.C_alloc ?_ _)|(with_reducible refine Kd.C_drewN ?_ _)|(with_reducible refine Kd.C_drew ?_)));(case side2=>exact HC0.out);rintro e w5 ⟨rfl,hb⟩;refine⟨_,rfl,?_⟩;replace HB:=Aside0.mk (below_step (by exact bU HB.out) hb);(try clear hb);(try clear hb2);(try clear hk);(try clear hi))|((with_reducible refine gate_callee (f:=80) rfl ?_);refine goesL_ (some 10) rfl rfl Try.func80 (by kernel_rfl) rfl #[.slice A0 l0.length c0] rfl (by(try simp only[List.map_toArray,List.map_cons,List.map_nil])<;>rfl) ?_;(with_reducible refine(impl_full.calls _ _ l0 t339 _ ?side1 ?side2 A4.out).mono ?_);(case side1=>repeat(first|exact(Kd.C_below HR0.out HB.out)|(with_reducible refine Kd.C_alloc ?_ _)|(with_reducible refine Kd.C_drewN ?_ _)|(with_reducible refine Kd.C_drew ?_)));(case side2=>exact HC0.out);rintro e w6 ⟨v340,rfl,ho0,hb⟩;refine⟨_,rfl,?_⟩;have HO341:=Aside0.mk (Kd.R_lower ho0 (below_size (by exact bU HB.out)));replace HB:=Aside0.mk (below_step (by exact bU HB.out) hb);(try clear hb);(try clear hb2);(try clear hk);(try clear hi);(try clear ho0);obtain⟨Ao7,co7,eo7⟩:=Kd.R_slice HO341.out;subst eo7))
  go_loopg [3,12] k (fun kq v3 v12 w'=> ∃ (x3_1:List Int) (x12_1:Int),v12= .int .i64 x12_1∧Aside0 (impl_CodeReach.l0 kq x3_1 t339 (t339.length:Int) x12_1=some r)∧Aside0 (kq≤k)∧Aside0 (Kd.R (Kd.int .i64) 3 w' w.heap.size (fun k_=>some k_≠((.slice Ao7 t339.length co7):Value).ownBlock) v3 x3_1)∧Aside0 (Kd.R (Kd.int .i64) 3 w' w.heap.size (fun k_=>some k_≠(v3:Value).ownBlock) (.slice Ao7 t339.length co7) t339)∧Aside0 (Below w.heap.size w w'))
  case atStart=>exact⟨(([]:List Int)),(0),(by first|rfl|(simp;done)|(simp[*];done)),H',⟨Nat.le_refl _⟩,⟨by first|exact Kd.R_nil _ _ _ _ _|exact Kd.N_nil _ _ _ _ _|exact Kd.V_nil _ _ _ _ _|exact Kd.Q_nil _ _ _ _ _|exact Kd.S_nil _ _ _ _ _⟩,⟨by(with_reducible repeat(first|apply rA|apply rN|apply rD));exact Kd.R_mono HO341.out (fun _ hk=>(by simp[Value.ownBlock]))⟩,⟨by exact bU HB.out⟩⟩
  case round=>
   clear H';(try clear p2);(try clear c3);(try clear c4)
   obtain⟨x3_1,x12_1,rfl,HA,HK1,HO_3,HO_10,HB⟩:=hrel;cases gk with
   |zero=>exact absurd HA.out (by simp[impl_CodeReach.l0])
   |succ k1=>
    have H:=HA.out;clear HA;simp only[impl_CodeReach.l0]at H
    by_cases c8:x12_1<(t339.length:Int)
    ·rw[if_pos c8]at H
     have c8b0:decide (x12_1<(t339.length:Int))=true:=decide_eq_true c8;clear c8;by_cases c9:0≤x12_1
     ·rw[if_pos c9]at H
      have c9b0:decide (0≤x12_1)=true:=decide_eq_true c9;clear c9;by_cases c10:x12_1<(t339.length:Int)
      ·rw[if_pos c10]at H
       have c10b0:decide (x12_1<(t339.length:Int))=true:=decide_eq_true c10;clear c10;by_cases c11:(rd t339 x12_1)≥0
       ·rw[if_pos c11]at H
        have c11b0:decide (0≤(rd t339 x12_1))=true:=decide_eq_true c11;clear c11;by_cases c12:x3_1.length<17592186044416
        ·rw[if_pos c12]at H
         have LMc12:=Aside0.mk c12;clear c12;obtain⟨y343,hy343⟩: ∃y_:List Int,y_=(x3_1++ [x12_1]):=⟨_,rfl⟩;replace H:(impl_CodeReach.l0 k1 y343 t339 (t339.length:Int) (wrap64 (x12_1+1)))=some r:=by first|(rw[hy343];with_reducible exact H)|(have H2_:=(Option.bind_some _ _).symm.trans H;rw[hy343];with_reducible exact H2_)|(have H2_:=(Option.bind_some _ _).symm.trans H;with_reducible exact H2_)|with_reducible exact H|(rw[hy343];exact H)|exact H
         have Ny343:=Aside0.mk hy343;clear hy343;have H':=Aside0.mk H;clear H;have p342:0≤(x12_1:Int):=of_decide_eq_true (by assumption)
         have q342:x12_1<(t339.length:Int):=of_decide_eq_true (by assumption)
         obtain⟨ad342,e342,hx342_0⟩:=Kd.at_int (Kd.R_reads' HO_10.out).2.2 x12_1 p342 q342;cases e342
         replace p342:=eq_true p342;replace q342:=eq_true q342;go_wp2_with (first|((with_reducible refine gate_builtin (b:=.append) (xs:= #[.tmp 19,.tmp 21]) rfl ?_);at_builtin;refine Kd.R_append (Kd.int .i64) (w0:=w) w.heap.size rfl (.tmp 19) (.tmp 21) 32 3 (.int .i64 0) 8 rfl Try.underlying32 info3 rfl (by decide) (by omega) u3 x3_1 x12_1 [.int .i64 x12_1] (fun k_=>some k_≠(.slice (some ad342) t339.length co7:Value).ownBlock) (fun _=>False) rfl rfl ?aP (fun _ hk=>hk.elim) ?aF ?aO ?aB ?aS ?aL ?_;(case aP=>exact rfl);(case aB=>exact(by exact bU HB.out));(case aF=>exact(fun k_ hk=>Kd.fresh' (Kd.R_lt (by exact rU HO_10.out)) k_ hk));(case aO=>exact(by exact rU HO_3.out));(case aS=>exact(below_size (by exact bU HB.out)));(case aL=>have:=LMc12.out;omega);intro v344 w13 ho hb hg hat;rw[←Ny343.out]at ho;replace HO_10:=Aside0.mk (Kd.R_after (ok:=(fun _=>True)) (by(with_reducible repeat(first|apply rA|apply rN|apply rD));exact Kd.R_mono HO_10.out (fun _ hk=>⟨trivial,hk⟩)) hg hat);replace HB:=Aside0.mk (hb);have HO345:=Aside0.mk (ho);clear HO_3;clear ho hb hg hat))
         go_roundg k1
         case measure=>have:=HK1.out;omega
         case rel=>exact⟨(y343),(wrap64 (x12_1+1)),(by first|rfl|(simp;done)|(simp[*];done)),H',⟨by have:=HK1.out;omega⟩,⟨by exact rU HO345.out⟩,⟨by(with_reducible repeat(first|apply rA|apply rN|apply rD));exact Kd.R_mono HO_10.out (fun _ hk=>hk.2)⟩,⟨by exact bU HB.out⟩⟩
        ·rw[if_neg c12]at H
         exact absurd H (by simp)
       ·rw[if_neg c11]at H
        have c11b0:decide (0≤(rd t339 x12_1))=false:=decide_eq_false c11;clear c11;have H':=Aside0.mk H;clear H;have p342:0≤(x12_1:Int):=of_decide_eq_true (by assumption)
        have q342:x12_1<(t339.length:Int):=of_decide_eq_true (by assumption)
        obtain⟨ad342,e342,hx342_0⟩:=Kd.at_int (Kd.R_reads' HO_10.out).2.2 x12_1 p342 q342;cases e342
        replace p342:=eq_true p342;replace q342:=eq_true q342;go_wp2
        go_roundg k1
        case measure=>have:=HK1.out;omega
        case rel=>exact⟨(x3_1),(wrap64 (x12_1+1)),(by first|rfl|(simp;done)|(simp[*];done)),H',⟨by have:=HK1.out;omega⟩,⟨by exact rU HO_3.out⟩,⟨by exact rU HO_10.out⟩,⟨by exact bU HB.out⟩⟩
      ·rw[if_neg c10]at H
       exact absurd H (by simp)
     ·rw[if_neg c9]at H
      exact absurd H (by simp)
    ·rw[if_neg c8]at H
     have c8b0:decide (x12_1<(t339.length:Int))=false:=decide_eq_false c8;clear c8;obtain rfl:=Option.some.inj H;go_wp2
     go_ret
     exact⟨_,by first|rfl|(simp[errW_none,errW_some]<;>rfl)|(simp[*,errW_none,errW_some]<;>rfl),by(with_reducible repeat(first|apply rA|apply rN|apply rD));exact Kd.R_mono HO_3.out (fun _ hk=>trivial),by exact bU HB.out⟩
 ·replace c3:=Bool.eq_false_iff.mpr c3
  subst c3;have H1:(some ([]:List Int))=some r:=by rw[if_neg (show¬(false=true) by decide)]at H;exact H
  clear H;have H:=H1;clear H1;obtain rfl:=Option.some.inj H;go_enter Try.func42,Try.ntmps42
  go_wp2_with (first|((with_reducible refine gate_callee (f:=35) rfl ?_);refine goesL_ (some 7) rfl rfl Try.func35 (by kernel_rfl) rfl #[.slice A0 l0.length c0] rfl (by(try simp only[List.map_toArray,List.map_cons,List.map_nil])<;>rfl) ?_;(with_reducible refine(impl_CodeOk.calls _ _ l0 false _ ?side1 ?side2 A2.out).mono ?_);(case side1=>repeat(first|exact HR0.out|(with_reducible refine Kd.C_alloc ?_ _)|(with_reducible refine Kd.C_drewN ?_ _)|(with_reducible refine Kd.C_drew ?_)));(case side2=>exact HC0.out);rintro e w14 ⟨rfl,hb⟩;refine⟨_,rfl,?_⟩;replace HB:=Aside0.mk (below_step (by exact bU HB.out) hb);(try clear hb);(try clear hb2);(try clear hk);(try clear hi)))
  go_ret
  exact⟨_,by first|rfl|(simp[errW_none,errW_some]<;>rfl)|(simp[*,errW_none,errW_some]<;>rfl),by first|exact Kd.R_nil _ _ _ _ _|exact Kd.N_nil _ _ _ _ _|exact Kd.V_nil _ _ _ _ _|exact Kd.Q_nil _ _ _ _ _|exact Kd.S_nil _ _ _ _ _,by exact bU HB.out⟩
end Go.Proofs.Ytmklpbmlgjkbiaa.PS
end
section
namespace Go.Proofs.Ytmklpbmlgjkbiaa.PS
open Go.RowKit Go.Proofs.YtmklpbmlgjkbiaaW.PrintWords Go.Proofs.YtmklpbmlgjkbiaaW.PrintLast Go.Proofs.YtmklpbmlgjkbiaaW.PrintMore
attribute [local go_sem] max2_int min2_int max_two min_two max_three min_three max_four min_four   -- for this text's walks alone
def impl_CodeFull.f (l0:List (S29)):Option (List Int):=(codeV.f l0).bind fun t388=>(if t388=true then((fullV.f l0).bind fun t389=>(some t389))else(some ([]:List Int)))
theorem impl_CodeFull.calls (A0:Option Addr) (c0:Nat) (l0:List (S29)) (r:List Int) (w:World) (hr0:Kd.C k29 w A0 l0.length l0) (hc0:l0.length≤c0) (h:impl_CodeFull.f l0=some r):
  Calls Try.prog 44 #[.slice A0 l0.length c0] w fun e w'=> ∃v0_:Value,e= .returned (v0_)∧Kd.R (Kd.int .i64) 3 w' w.heap.size (fun _=>True) v0_ r∧Below w.heap.size w w':=by
 have HR0:=Aside0.mk hr0;have HC0:=Aside0.mk hc0;clear hr0 hc0;have HB:=Aside0.mk (Below.refl w.heap.size w);have H:((codeV.f l0).bind fun t388=>(if t388=true then((fullV.f l0).bind fun t389=>(some t389))else(some ([]:List Int))))=some r:=h
 clear h;replace H:=Option.bind_eq_some_iff.mp H;obtain⟨t388,A20,H⟩:=H;replace H:(if t388=true then((fullV.f l0).bind fun t389=>(some t389))else(some ([]:List Int)))=some r:=H
 have A2:=Aside0.mk A20;clear A20;by_cases c3:t388=true
 ·subst c3
  have H1:((fullV.f l0).bind fun t389=>(some t389))=some r:=by rw[if_pos rfl]at H;exact H
  clear H;have H:=H1;clear H1;replace H:=Option.bind_eq_some_iff.mp H;obtain⟨t389,A40,H⟩:=H;replace H:(some t389)=some r:=H;have A4:=Aside0.mk A40;clear A40;obtain rfl:=Option.some.inj H;go_enter Try.func44,Try.ntmps44
  go_wp2_with (first|((with_reducible refine gate_callee (f:=35) rfl ?_);refine goesL_ (some 4) rfl rfl Try.func35 (by kernel_rfl) rfl #[.slice A0 l0.length c0] rfl (by(try simp only[List.map_toArray,List.map_cons,List.map_nil])<;>rfl) ?_;(with_reducible refine(impl_CodeOk.calls _ _ l0 true _ ?side1 ?side2 A2.out).mono ?_);(case side1=>repeat(first|exact HR0.out|(with_reducible refine Kd.C_alloc ?_ _)|(with_reducible refine Kd.C_drewN ?_ _)|(with_reducible refine Kd.C_drew ?_)));(case side2=>exact HC0.out);rintro e w5 ⟨rfl,hb⟩;refine⟨_,rfl,?_⟩;replace HB:=Aside0.mk (below_step (by exact bU HB.out) hb);(try clear hb);(try clear hb2);(try clear hk);(try clear hi))|((with_reducible refine gate_callee (f:=80) rfl ?_);refine goesL_ (some 7) rfl rfl Try.func80 (by kernel_rfl) rfl #[.slice A0 l0.length c0] rfl (by(try simp only[List.map_toArray,List.map_cons,List.map_nil])<;>rfl) ?_;(with_reducible refine(impl_full.calls _ _ l0 t389 _ ?side1 ?side2 A4.out).mono ?_);(case side1=>repeat(first|exact(Kd.C_below HR0.out HB.out)|(with_reducible refine Kd.C_alloc ?_ _)|(with_reducible refine Kd.C_drewN ?_ _)|(with_reducible refine Kd.C_drew ?_)));(case side2=>exact HC0.out);rintro e w6 ⟨v390,rfl,ho0,hb⟩;refine⟨_,rfl,?_⟩;have HO391:=Aside0.mk (Kd.R_lower ho0 (below_size (by exact bU HB.out)));replace HB:=Aside0.mk (below_step (by exact bU HB.out) hb);(try clear hb);(try clear hb2);(try clear hk);(try clear hi);(try clear ho0)))
  go_ret
  exact⟨_,by first|rfl|(simp[errW_none,errW_some]<;>rfl)|(simp[*,errW_none,errW_some]<;>rfl),by exact rU HO391.out,by exact bU HB.out⟩
 ·replace c3:=Bool.eq_false_iff.mpr c3
  subst c3;have H1:(some ([]:List Int))=some r:=by rw[if_neg (show¬(false=true) by decide)]at H;exact H
  clear H;have H:=H1;clear H1;obtain rfl:=Option.some.inj H;go_enter Try.func44,Try.ntmps44
  go_wp2_with (first|((with_reducible refine gate_callee (f:=35) rfl ?_);refine goesL_ (some 4) rfl rfl Try.func35 (by kernel_rfl) rfl #[.slice A0 l0.length c0] rfl (by(try simp only[List.map_toArray,List.map_cons,List.map_nil])<;>rfl) ?_;(with_reducible refine(impl_CodeOk.calls _ _ l0 false _ ?side1 ?side2 A2.out).mono ?_);(case side1=>repeat(first|exact HR0.out|(with_reducible refine Kd.C_alloc ?_ _)|(with_reducible refine Kd.C_drewN ?_ _)|(with_reducible refine Kd.C_drew ?_)));(case side2=>exact HC0.out);rintro e w7 ⟨rfl,hb⟩;refine⟨_,rfl,?_⟩;replace HB:=Aside0.mk (below_step (by exact bU HB.out) hb);(try clear hb);(try clear hb2);(try clear hk);(try clear hi)))
  go_ret
  exact⟨_,by first|rfl|(simp[errW_none,errW_some]<;>rfl)|(simp[*,errW_none,errW_some]<;>rfl),by first|exact Kd.R_nil _ _ _ _ _|exact Kd.N_nil _ _ _ _ _|exact Kd.V_nil _ _ _ _ _|exact Kd.Q_nil _ _ _ _ _|exact Kd.S_nil _ _ _ _ _,by exact bU HB.out⟩
end Go.Proofs.Ytmklpbmlgjkbiaa.PS
end
section
namespace Go.Proofs.Ytmklpbmlgjkbiaa.PS
open Go.RowKit Go.Proofs.YtmklpbmlgjkbiaaW.PrintWords Go.Proofs.YtmklpbmlgjkbiaaW.PrintLast
def codeFullV.f (l:List S29):Option (List Int):=some (if codeB l=true then fullL l else [])
theorem impl_CodeFull_as.calls (A0:Option Addr) (c0:Nat) (l0:List (S29)) (r:List Int) (w:World) (hr0:Kd.C k29 w A0 l0.length l0) (hc0:l0.length≤c0) (h:codeFullV.f l0=some r):
    Calls Try.prog 44 #[.slice A0 l0.length c0] w fun e w'=> ∃v0_:Value,e= .returned (v0_)∧Kd.R (Kd.int .i64) 3 w' w.heap.size (fun _=>True) v0_ r∧Below w.heap.size w w':=by
  refine impl_CodeFull.calls A0 c0 l0 r w hr0 hc0 ?_
  rw[←h];unfold impl_CodeFull.f codeV.f fullV.f codeFullV.f;simp only[Option.bind_some]
  by_cases hc:codeB l0=true
  · simp only[if_pos hc];rfl
  · simp only[if_neg hc]
end Go.Proofs.Ytmklpbmlgjkbiaa.PS
end
section
namespace Go.Proofs.Ytmklpbmlgjkbiaa.PS
open Go.RowKit Go.Proofs.YtmklpbmlgjkbiaaW.PrintWords Go.Proofs.YtmklpbmlgjkbiaaW.PrintLast Go.Proofs.YtmklpbmlgjkbiaaW.PrintMore
attribute [local go_sem] max2_int min2_int max_two min_two max_three min_three max_four min_four   -- for this text's walks alone
def laws_lvAmong.l0:Nat→List Int→Int→Int→Option (Bool)
 |0,_,_,_=>none
 |k+1,x0,x1,x5=>if x5<(x0.length:Int)then(if 0≤x5 then(if(rd x0 x5)=x1 then(some true)else(laws_lvAmong.l0 k x0 x1 (wrap64 (x5+1))))else(none))else(some false)
def laws_lvAmong.f (k:Nat) (l0:List Int) (a1:Int):Option (Bool):=laws_lvAmong.l0 k l0 a1 0
theorem laws_lvAmong.calls (k:Nat) (A0:Option Addr) (c0:Nat) (l0:List Int) (a1:Int) (r:Bool) (w:World) (hr0:Kd.C (Kd.int .i64) w A0 l0.length l0) (hc0:l0.length≤c0) (h:laws_lvAmong.f k l0 a1=some r):
  Calls Try.prog 55 #[.slice A0 l0.length c0,.int .i64 a1] w fun e w'=>e= .returned (.bool r)∧Drawn0 w w':=by
 have HR0:=Aside0.mk hr0;have HC0:=Aside0.mk hc0;clear hr0 hc0;have H:(laws_lvAmong.l0 k l0 a1 0)=some r:=h;clear h;have H':=Aside0.mk H;clear H;go_enter Try.func55,Try.ntmps55
 go_wp2
 go_loopg [5] k (fun kq v5 w'=> ∃ (x5_1:Int),v5= .int .i64 x5_1∧Aside0 (laws_lvAmong.l0 kq l0 a1 x5_1=some r)∧Aside0 (kq≤k)∧Drawn0 w w')
 case atStart=>exact⟨(0),(by first|rfl|(simp;done)|(simp[*];done)),H',⟨Nat.le_refl _⟩,by repeat(first|exact Drawn0.refl _|apply Drawn0.step)⟩
 case round=>
  clear H';try clear p2
  obtain⟨x5_1,rfl,HA,HK1,⟨m1,rfl⟩⟩:=hrel;cases gk with
  |zero=>exact absurd HA.out (by simp[laws_lvAmong.l0])
  |succ k1=>
   have H:=HA.out;clear HA;simp only[laws_lvAmong.l0]at H
   by_cases c3:x5_1<(l0.length:Int)
   ·rw[if_pos c3]at H
    have c3b0:decide (x5_1<(l0.length:Int))=true:=decide_eq_true c3;clear c3;by_cases c4:0≤x5_1
    ·rw[if_pos c4]at H
     have c4b0:decide (0≤x5_1)=true:=decide_eq_true c4;clear c4;by_cases c5:(rd l0 x5_1)=a1
     ·rw[if_pos c5]at H
      have c5b0:((rd l0 x5_1)==a1)=true:=beq_iff_eq.mpr c5;have c5b1:((rd l0 x5_1) !=a1)=false:=bne_eq_false_iff_eq.mpr c5;clear c5;obtain rfl:=Option.some.inj H;have p583:0≤(x5_1:Int):=of_decide_eq_true (by assumption)
      have q583:x5_1<(l0.length:Int):=of_decide_eq_true (by assumption)
      obtain⟨ad583,e583,hx583_0⟩:=Kd.at_int HR0.out x5_1 p583 q583;cases e583
      replace p583:=eq_true p583;replace q583:=eq_true q583;go_wp2
      go_ret
      exact⟨by first|rfl|(simp;done)|(simp[*];done),by repeat(first|exact Drawn0.refl _|apply Drawn0.step)⟩
     ·rw[if_neg c5]at H
      have c5b0:((rd l0 x5_1)==a1)=false:=beq_eq_false_iff_ne.mpr c5;have c5b1:((rd l0 x5_1) !=a1)=true:=bne_iff_ne.mpr c5;have H':=Aside0.mk H;clear H;have p583:0≤(x5_1:Int):=of_decide_eq_true (by assumption)
      have q583:x5_1<(l0.length:Int):=of_decide_eq_true (by assumption)
      obtain⟨ad583,e583,hx583_0⟩:=Kd.at_int HR0.out x5_1 p583 q583;cases e583
      replace p583:=eq_true p583;replace q583:=eq_true q583;go_wp2
      go_roundg k1
      case measure=>have:=HK1.out;omega
      case rel=>exact⟨(wrap64 (x5_1+1)),(by first|rfl|(simp;done)|(simp[*];done)),H',⟨by have:=HK1.out;omega⟩,by repeat(first|exact Drawn0.refl _|apply Drawn0.step)⟩
    ·rw[if_neg c4]at H
     exact absurd H (by simp)
   ·rw[if_neg c3]at H
    have c3b0:decide (x5_1<(l0.length:Int))=false:=decide_eq_false c3;clear c3;obtain rfl:=Option.some.inj H;go_wp2
    go_ret
    exact⟨by first|rfl|(simp;done)|(simp[*];done),by repeat(first|exact Drawn0.refl _|apply Drawn0.step)⟩
def spec_DrawCodeReach.f (k:Nat) (l0:List Int):Option ((List (S29))):=(spec_DrawCodeSafe.f k l0).bind fun t584=>(some t584)
theorem spec_DrawCodeReach.calls (k:Nat) (A0:Option Addr) (c0:Nat) (l0:List Int) (r:List (S29)) (w:World) (hr0:Kd.C (Kd.int .u8) w A0 l0.length l0) (hc0:l0.length≤c0) (h:spec_DrawCodeReach.f k l0=some r):
  Calls Try.prog 56 #[.slice A0 l0.length c0] w fun e w'=> ∃v0_:Value,e= .returned (v0_)∧Kd.R k29 29 w' w.heap.size (fun _=>True) v0_ r∧Below w.heap.size w w':=by
 have HR0:=Aside0.mk hr0;have HC0:=Aside0.mk hc0;clear hr0 hc0;have HB:=Aside0.mk (Below.refl w.heap.size w);have H:((spec_DrawCodeSafe.f k l0).bind fun t584=>(some t584))=some r:=h
 clear h;replace H:=Option.bind_eq_some_iff.mp H;obtain⟨t584,A20,H⟩:=H;replace H:(some t584)=some r:=H;have A2:=Aside0.mk A20;clear A20;obtain rfl:=Option.some.inj H;go_enter Try.func56,Try.ntmps56
 go_wp2_with (first|((with_reducible refine gate_callee (f:=52) rfl ?_);refine goesL_ (some 4) rfl rfl Try.func52 (by kernel_rfl) rfl #[.slice A0 l0.length c0] rfl (by(try simp only[List.map_toArray,List.map_cons,List.map_nil]);first|done|rfl|(simp only[List.length_drop,List.length_take];rfl)) ?_;(with_reducible refine(spec_DrawCodeSafe.calls k _ _ l0 t584 _ ?side1 ?side2 A2.out).mono ?_);(case side1=>repeat(first|exact HR0.out|(with_reducible refine Kd.C_alloc ?_ _)|(with_reducible refine Kd.C_drewN ?_ _)|(with_reducible refine Kd.C_drew ?_)));(case side2=>exact HC0.out);rintro e w3 ⟨v585,rfl,ho0,hb⟩;refine⟨_,rfl,?_⟩;have HO586:=Aside0.mk (Kd.R_lower ho0 (below_size (by exact bU HB.out)));replace HB:=Aside0.mk (below_step (by exact bU HB.out) hb);(try clear hb);(try clear hb2);(try clear hk);(try clear hi);(try clear ho0)))
 go_ret
 exact⟨_,by first|rfl|(simp[errW_none,errW_some]<;>rfl)|(simp[*,errW_none,errW_some]<;>rfl),by exact rU HO586.out,by exact bU HB.out⟩
end Go.Proofs.Ytmklpbmlgjkbiaa.PS
end
section
namespace Go.Proofs.Ytmklpbmlgjkbiaa.PS
open Go.RowKit Go.Proofs.YtmklpbmlgjkbiaaW.PrintWords Go.Proofs.YtmklpbmlgjkbiaaW.PrintLast
theorem drawReach_ev {l:List Int} (hw: ∀x∈l,(Lit.int .u8 x).wf=true): ∃c,Ev (fun k=>spec_DrawCodeReach.f k l) c∧c.length≤17:=by
  obtain⟨c,hc,hl⟩:=drawSafe_ev hw;refine⟨c,?_,hl⟩
  unfold spec_DrawCodeReach.f;exact Ev.bind hc (Ev.now _)
def addsL (L:List Int) (M:List Int):List Int:=M.foldl (fun L x=>if x∈L then L else L++ [x]) L
theorem adds_sub (M:List Int): ∀ (L:List Int),(∀x∈L,x∈addsL L M)∧(∀x∈M,x∈addsL L M)∧(∀x∈addsL L M,x∈L∨x∈M)∧(L.Nodup→(addsL L M).Nodup)∧(∃E,addsL L M=L++E):=by
  induction M with
  |nil=>intro L;exact⟨fun x h=>h,by simp,fun x h=>.inl h,fun h=>h,[],by simp[addsL]⟩
  |cons y M ih=>
    intro L;have e:addsL L (y::M)=addsL (if y∈L then L else L++ [y]) M:=rfl
    rw[e];obtain⟨a,b,c,d,E,hE⟩:=ih (if y∈L then L else L++ [y])
    by_cases h:y∈L
    · simp only[if_pos h]at a b c d hE⊢
      refine⟨a,?_,?_,d,E,hE⟩
      · intro x hx
        rcases List.mem_cons.1 hx with rfl|hx
        · exact a _ h
        · exact b x hx
      · intro x hx
        rcases c x hx with h|h
        · exact .inl h
        · exact .inr (List.mem_cons_of_mem _ h)
    · simp only[if_neg h]at a b c d hE⊢
      refine⟨fun x hx=>a x (by simp[hx]),?_,?_,?_,[y]++E,by rw[hE];simp⟩
      · intro x hx
        rcases List.mem_cons.1 hx with rfl|hx
        · exact a _ (by simp)
        · exact b x hx
      · intro x hx
        rcases c x hx with h|h
        · rcases List.mem_append.1 h with h|h
          · exact .inl h
          · simp at h;subst h;exact .inr (by simp)
        · exact .inr (List.mem_cons_of_mem _ h)
      · intro hn
        refine d ?_
        rw[List.nodup_append];refine⟨hn,by simp,?_⟩
        intro x hx z hz;simp at hz;subst hz
        intro e;subst e;exact h hx
theorem nodup_small {L:List Int} {n:Nat} (h:L.Nodup) (hb: ∀x∈L,0≤x∧x<n):L.length≤n:=by
  have h1: ∀ (n:Nat) (L:List Int),L.Nodup→(∀x∈L,0≤x∧x<n)→L.length≤n:=by
    intro n;induction n with
    |zero=>
      intro L _ hb;cases L with
      |nil=>simp
      |cons y L=>have:=hb y (by simp);omega
    |succ n ih=>
      intro L hn hb;by_cases h:(n:Int)∈L
      · have := ih (L.erase (n : Int)) (hn.erase _) (fun x hx => by
          have h2:=(hn.mem_erase_iff).1 hx;have:=hb x h2.2;have h3:=h2.1;omega)
        rw[List.length_erase_of_mem h]at this
        omega
      · have := ih L hn (fun x hx => by
          have:=hb x hx;have:x≠n:=fun e=>h (e▸hx)
          omega)
        omega
  exact h1 n L h hb
def reachTo (l:List S29) (j:Nat):List Int:=((List.range j).filter fun (i:Nat)=>decide (0≤at_ (fullL l) (i:Int))).map (fun (i:Nat)=>(i:Int))
def reachL (l:List S29):List Int:=reachTo l l.length
def reachV.f (l:List S29):Option (List Int):=some (if codeB l=true then reachL l else [])
theorem reach_succ (l:List S29) (j:Nat):reachTo l (j+1)=if 0≤at_ (fullL l) (j:Int)then reachTo l j++ [(j:Int)]else reachTo l j:=by
  unfold reachTo;rw[List.range_succ,List.filter_append,List.map_append];by_cases h:0≤at_ (fullL l) (j:Int)<;>simp[h]
theorem reach_len (l:List S29) (j:Nat):(reachTo l j).length≤j:=by
  unfold reachTo;rw[List.length_map];exact Nat.le_trans (List.length_filter_le _ _) (by simp)
theorem ireach_ev {l:List S29} (hc:codeB l=true) (d:Nat): ∀j,l.length-j=d→j≤l.length→Ev (fun k=>impl_CodeReach.l0 k (reachTo l j) (fullL l) (l.length:Int) (j:Int)) (reachL l):=by
  obtain⟨h1,h2⟩:=code_len hc;have hg:=full_good (wayW_good hc);have hl:(fullL l).length=l.length:=hg.1;induction d with
  |zero=>
    intro j hj hj2;obtain rfl:j=l.length:=by omega
    refine Ev.step (f:=fun k=>some (reachL l)) (fun k=> ?_) (Ev.now _)
    simp only[impl_CodeReach.l0]
    rw[if_neg (by omega)];rfl
  |succ d ih=>
    intro j hj hj2;have ih1:=ih (j+1) (by omega) (by omega)
    refine Ev.step (fun k=> ?_) ih1
    have hr:=reach_len l j;simp only[impl_CodeReach.l0]
    rw[if_pos (by omega),if_pos (by omega),if_pos (by rw[hl];omega),w64 (by omega) (by omega),reach_succ]
    have e:rd (fullL l) (j:Int)=at_ (fullL l) j:=rfl;rw[e];by_cases hn:0≤at_ (fullL l) j
    · rw[if_pos hn,if_pos (by omega),if_pos hn];rfl
    · rw[if_neg (by omega),if_neg hn];rfl
theorem among_ev (L:List Int) (x:Int) (hm:L.length≤9223372036854775807):Ev (fun k=>spec_l11Among.f k L x) (decide (x∈L)):=by
  have key: ∀d i,L.length-i=d→i≤L.length→Ev (fun k=>spec_l11Among.l0 k L x (i:Int)) (decide (x∈L.drop i)):=by
    intro d;induction d with
    |zero=>
      intro i hi hi2;refine Ev.step (f:=fun k=>some false) (fun k=> ?_) (ev_eq (Ev.now _) ?_)
      · simp only[spec_l11Among.l0];rw[if_neg (by omega)]
      · rw[List.drop_of_length_le (by omega)];simp
    |succ d ih=>
      intro i hi hi2;have ih1:=ih (i+1) (by omega) (by omega)
      have d0:L.drop i=L[i]'(by omega)::L.drop (i+1):=List.drop_eq_getElem_cons (by omega)
      rw[d0];by_cases he:L[i]'(by omega)=x
      · refine Ev.step (f:=fun k=>some true) (fun k=> ?_) (ev_eq (Ev.now _) ?_)
        · simp only[spec_l11Among.l0];rw[if_pos (by omega),if_pos (by omega),rd_at L i (by omega),if_pos he]
        · rw[he];simp
      · refine ev_eq (Ev.step (fun k=> ?_) ih1) ?_
        · simp only[spec_l11Among.l0];rw[if_pos (by omega),if_pos (by omega),rd_at L i (by omega),if_neg he,w64 (by omega) (by omega)];rfl
        · have he': ¬x=L[i]'(by omega):=fun h=>he h.symm
          exact decide_eq_decide.2 ⟨fun h=>List.mem_cons_of_mem _ h,fun h=>(List.mem_cons.1 h).resolve_left he'⟩
  have:=key L.length 0 (by omega) (by omega)
  show Ev (fun k=>spec_l11Among.l0 k L x 0) _
  simpa using this
theorem mem_once {L:List (Int×Fl)} {y:Int} :y∈onceL L ↔ ∃a∈L,a.1=y:=by
  have e: ∀ (L:List (Int×Fl)) (M:List Int),L.foldl (fun out a=>if a.1∈out then out else out++ [a.1]) M=addsL M (L.map (·.1)):=by
    intro L;induction L with
    |nil=>intro M;rfl
    |cons a L ih=>intro M;rw[List.foldl_cons,ih];rfl
  have e1:onceL L=addsL [] (L.map (·.1)):=e L []
  obtain⟨-,b,c, -, -⟩:=adds_sub (L.map (·.1)) []
  rw[e1];constructor
  · intro h
    rcases c y h with h|h
    · cases h
    · obtain⟨a,ha,hb⟩:=List.mem_map.1 h
      exact⟨a,ha,hb⟩
  · rintro⟨a,ha,rfl⟩
    exact b _ (List.mem_map.2 ⟨a,ha,rfl⟩)
theorem way_next {l:List S29} {i:Nat} {y:Int} :y∈onceL (waysL l i) ↔ ∃a∈wayW l i,a.1=y:=by
  rw[mem_once];unfold wayW;constructor
  · rintro⟨a,ha,rfl⟩
    exact⟨_,List.mem_map.2 ⟨a,ha,rfl⟩,rfl⟩
  · rintro⟨a,ha,rfl⟩
    obtain⟨b,hb,rfl⟩:=List.mem_map.1 ha;exact⟨b,hb,rfl⟩
theorem sadd_ev {l:List S29} {x3:List Int} {i:Int} {M:List Int} {r:List Int} (hM:M.length≤2) (d:Nat): ∀ (m:Nat) (L:List Int),M.length-m=d→m≤M.length→L.length+d≤100→Ev (fun k=>spec_CodeReach.l0 k l x3 (addsL L (M.drop m)) (wrap64 (i+1))) r→
    Ev (fun k=>spec_CodeReach.l1 k l x3 L i M (m:Int)) r:=by
  induction d with
  |zero=>
    intro m L hm hm2 hl h;rw[List.drop_of_length_le (by omega)]at h
    refine Ev.step (fun k=> ?_) h
    simp only[spec_CodeReach.l1]
    rw[if_neg (by omega)];rfl
  |succ d ih=>
    intro m L hm hm2 hl h;have d0:M.drop m=M[m]'(by omega)::M.drop (m+1):=List.drop_eq_getElem_cons (by omega)
    rw[d0]at h
    refine Ev.step (f:=fun k=>(spec_l11Among.f k L (M[m]'(by omega))).bind fun t329=>(if t329=true then(spec_CodeReach.l1 k l x3 L i M (((m+1:Nat):Int)))else(if L.length<17592186044416 then(spec_CodeReach.l1 k l x3 (L++ [M[m]'(by omega)]) i M ((m+1:Nat):Int))else(none)))) (fun k=> ?_) ?_
    · simp only[spec_CodeReach.l1]
      rw[if_pos (by omega),if_pos (by omega),rd_at M m (by omega),w64 (by omega) (by omega)];rfl
    · refine Ev.bind (among_ev L _ (by omega)) ?_
      by_cases hin:M[m]'(by omega)∈L
      · simp only[decide_eq_true hin,if_true]
        refine ih (m+1) L (by omega) (by omega) (by omega) ?_
        have e:addsL L (M[m]'(by omega)::M.drop (m+1))=addsL L (M.drop (m+1)):=by
          show addsL (if M[m]'(by omega)∈L then L else L++ [M[m]'(by omega)]) (M.drop (m+1))=_
          rw[if_pos hin]
        rwa [e]at h
      · simp only[decide_eq_false hin,Bool.false_eq_true,if_false]
        simp only[if_pos (show L.length<17592186044416 by omega)]
        refine ih (m+1) _ (by omega) (by omega) (by simp;omega) ?_
        have e:addsL L (M[m]'(by omega)::M.drop (m+1))=addsL (L++ [M[m]'(by omega)]) (M.drop (m+1)):=by
          show addsL (if M[m]'(by omega)∈L then L else L++ [M[m]'(by omega)]) (M.drop (m+1))=_
          rw[if_neg hin]
        rwa [e]at h
theorem sout_ev {l:List S29} (hc:codeB l=true) {L:List Int} (hm:L.length≤100) (hL: ∀x,x∈L ↔ Reach (wayW l) l.length x) (d:Nat): ∀j,l.length-j=d→j≤l.length→Ev (fun k=>spec_CodeReach.l2 k l (reachTo l j) L (j:Int)) (reachL l):=by
  obtain⟨h1,h2⟩:=code_len hc;induction d with
  |zero=>
    intro j hj hj2;obtain rfl:j=l.length:=by omega
    refine Ev.step (f:=fun k=>some (reachL l)) (fun k=> ?_) (Ev.now _)
    simp only[spec_CodeReach.l2]
    rw[if_neg (by omega)];rfl
  |succ d ih=>
    intro j hj hj2;have ih1:=ih (j+1) (by omega) (by omega)
    have hr:=reach_len l j;have hw:wrap64 ((j:Int)+1)=((j+1:Nat):Int):=by rw[w64 (by omega) (by omega)];rfl
    refine Ev.step (f:=fun k=>(spec_l11Among.f k L j).bind fun t334=>(if t334=true then(if(reachTo l j).length<17592186044416 then(spec_CodeReach.l2 k l (reachTo l j++ [(j:Int)]) L ((j+1:Nat):Int))else(none))else(spec_CodeReach.l2 k l (reachTo l j) L ((j+1:Nat):Int)))) (fun k=> ?_) ?_
    · simp only[spec_CodeReach.l2]
      rw[if_pos (by omega),hw]
    · refine Ev.bind (among_ev L _ (by omega)) ?_
      have hiff:((j:Int)∈L) ↔ 0≤at_ (fullL l) (j:Int):=by
        rw[hL,←full_reach (wayW_good hc) (by omega)]
        constructor
        · exact fun h=>h.2.2
        · exact fun h=>⟨by omega,by omega,h⟩
      rw[reach_succ]at ih1
      by_cases hin:(j:Int)∈L
      · simp only[decide_eq_true hin,if_true]
        simp only[if_pos (show(reachTo l j).length<17592186044416 by omega)]
        rwa [if_pos (hiff.1 hin)]at ih1
      · simp only[decide_eq_false hin,Bool.false_eq_true,if_false]
        rwa [if_neg (fun h=>hin (hiff.2 h))]at ih1
theorem sreach_ev {l:List S29} (hc:codeB l=true) (d:Nat): ∀ (L:List Int) (i:Nat),l.length-i=d→i≤L.length→L.Nodup→0∈L→(∀x∈L,Reach (wayW l) l.length x)→(∀p (hp:p<L.length),p<i→ ∀y∈onceL (waysL l (L[p]).toNat),y∈L)→
    Ev (fun k=>spec_CodeReach.l0 k l [] L (i:Int)) (reachL l):=by
  obtain⟨h1,h2⟩:=code_len hc
  have bound: ∀L:List Int,(∀x∈L,Reach (wayW l) l.length x)→ ∀x∈L,0≤x∧x<l.length:=fun L hR x hx=>by
    have:=(full_reach (wayW_good hc) (by omega)).2 (hR x hx)
    exact⟨this.1,this.2.1⟩
  have fin: ∀ (L:List Int) (i:Nat),¬i<L.length→L.Nodup→0∈L→(∀x∈L,Reach (wayW l) l.length x)→(∀p (hp:p<L.length),p<i→ ∀y∈onceL (waysL l (L[p]).toNat),y∈L)→Ev (fun k=>spec_CodeReach.l0 k l [] L (i:Int)) (reachL l):=by
    intro L i hi hn h0 hR hcl;have hs:=nodup_small hn (bound L hR);refine Ev.step (f:=fun k=>spec_CodeReach.l2 k l [] L 0) (fun k=> ?_) ?_
    · simp only[spec_CodeReach.l0];rw[if_neg (by omega)]
    · have hL : ∀ x, x ∈ L ↔ Reach (wayW l) l.length x := by
        intro x;refine⟨hR x,fun h=> ?_⟩
        induction h with
        |first=>exact h0
        |next hr hi' ha ih=>
          obtain⟨p,hp,he⟩:=List.mem_iff_getElem.1 ih;refine hcl p hp (by omega) _ ?_
          rw[he,Int.toNat_natCast];exact way_next.2 ⟨_,ha,rfl⟩
      have:=sout_ev hc (by omega) hL l.length 0 (by omega) (by omega)
      rw[show reachTo l 0=[]from rfl]at this
      exact this
  induction d with
  |zero=>
    intro L i hd hi hn h0 hR hcl;have hs:=nodup_small hn (bound L hR);exact fin L i (by omega) hn h0 hR hcl
  |succ d ih=>
    intro L i hd hi hn h0 hR hcl;by_cases hlt:i<L.length
    · have hs:=nodup_small hn (bound L hR)
      have hb:=bound L hR L[i] (List.getElem_mem hlt);obtain⟨q,hq⟩:=Int.eq_ofNat_of_zero_le hb.1;obtain⟨a1,a2,a3,a4,E,a5⟩:=adds_sub (onceL (waysL l q)) L;refine Ev.step (f:=fun k=>(spec_l3Next.f k l (q:Int)).bind fun t325=>(spec_CodeReach.l1 k l [] L i t325 0)) (fun k=> ?_) ?_
      · simp only[spec_CodeReach.l0]
        rw[if_pos (by omega),if_pos (by omega),rd_at L i hlt,hq]
      · refine Ev.bind (Ev.of (fun k=>spec_l3Next.mono l (q:Int) k) (snext_eq l q (by omega) h2)) ?_
        refine sadd_ev (once_len2 l q) _ 0 L rfl (by omega) (by have:=once_len2 l q;omega) ?_
        rw[List.drop_zero,w64 (by omega) (by omega)]
        refine ih (addsL L (onceL (waysL l q))) (i+1) (by omega) ?_ (a4 hn) (a1 0 h0) ?_ ?_
        · rw[a5,List.length_append];omega
        · intro x hx
          rcases a3 x hx with h|h
          · exact hR x h
          · obtain⟨a,ha,rfl⟩:=way_next.1 h
            have hq':=hR L[i] (List.getElem_mem hlt);rw[hq]at hq'
            exact .next hq' (by omega) ha
        · intro p hp hpi y hy
          have hpl:p<L.length:=by omega
          have e:(addsL L (onceL (waysL l q)))[p]=L[p]:=by
            simp only[a5];rw[List.getElem_append_left hpl]
          rw[e]at hy
          by_cases hpe:p=i
          · subst hpe
            rw[hq,Int.toNat_natCast]at hy
            exact a2 y hy
          · exact a1 y (hcl p hpl (by omega) y hy)
    · exact fin L i hlt hn h0 hR hcl
theorem scodereach_ev (l:List S29) (hm:l.length≤9223372036854775807):Ev (fun k=>spec_CodeReach.f k l) (if codeB l=true then reachL l else []):=by
  unfold spec_CodeReach.f;simp only[Option.bind_some]
  refine Ev.bind (scode_ev l hm) ?_
  by_cases h:codeB l=true
  · simp only[if_pos h]
    have:=code_len h;exact sreach_ev h l.length [0] 0 (by omega) (by simp) (by simp) (by simp) (fun x hx=>by simp at hx;subst hx;exact .first) (fun p hp hp0=>by omega)
  · simp only[if_neg h]
    exact Ev.now _
theorem spec_CodeReach_as.calls (A0:Option Addr) (c0:Nat) (l0:List (S29)) (r:List Int) (w:World) (hr0:Kd.C k29 w A0 l0.length l0) (hc0:l0.length≤c0) (h:reachV.f l0=some r):
    Calls Try.prog 41 #[.slice A0 l0.length c0] w fun e w'=> ∃v0_:Value,e= .returned (v0_)∧Kd.R (Kd.int .i64) 3 w' w.heap.size (fun _=>True) v0_ r∧Below w.heap.size w w':=by
  obtain⟨k,hk⟩:=(scodereach_ev l0 (Kd.C_max hr0)).rounds;exact spec_CodeReach.calls k A0 c0 l0 r w hr0 hc0 (hk.trans h)
theorem impl_CodeReach_as.calls (A0:Option Addr) (c0:Nat) (l0:List (S29)) (r:List Int) (w:World) (hr0:Kd.C k29 w A0 l0.length l0) (hc0:l0.length≤c0) (h:reachV.f l0=some r):
    Calls Try.prog 42 #[.slice A0 l0.length c0] w fun e w'=> ∃v0_:Value,e= .returned (v0_)∧Kd.R (Kd.int .i64) 3 w' w.heap.size (fun _=>True) v0_ r∧Below w.heap.size w w':=by
  have hE:Ev (fun k=>impl_CodeReach.f k l0) (if codeB l0=true then reachL l0 else []):=by
    unfold impl_CodeReach.f codeV.f fullV.f;simp only[Option.bind_some]
    by_cases hc:codeB l0=true
    · simp only[if_pos hc,Option.bind_some]
      have hl:(fullL l0).length=l0.length:=(full_good (wayW_good hc)).1;rw[hl];have:=ireach_ev hc l0.length 0 (by omega) (by omega)
      rw[show reachTo l0 0=[]from rfl]at this
      exact this
    · simp only[if_neg hc]
      exact Ev.now _
  obtain⟨k,hk⟩:=hE.rounds;exact impl_CodeReach.calls k A0 c0 l0 r w hr0 hc0 (hk.trans h)
theorem lvAmong_ev (L:List Int) (x:Int) (hm:L.length≤9223372036854775807):Ev (fun k=>laws_lvAmong.f k L x) (decide (x∈L)):=by
  have key: ∀d i,L.length-i=d→i≤L.length→Ev (fun k=>laws_lvAmong.l0 k L x (i:Int)) (decide (x∈L.drop i)):=by
    intro d;induction d with
    |zero=>
      intro i hi hi2;refine Ev.step (f:=fun k=>some false) (fun k=> ?_) (ev_eq (Ev.now _) ?_)
      · simp only[laws_lvAmong.l0];rw[if_neg (by omega)]
      · rw[List.drop_of_length_le (by omega)];simp
    |succ d ih=>
      intro i hi hi2;have ih1:=ih (i+1) (by omega) (by omega)
      have d0:L.drop i=L[i]'(by omega)::L.drop (i+1):=List.drop_eq_getElem_cons (by omega)
      rw[d0];by_cases he:L[i]'(by omega)=x
      · refine Ev.step (f:=fun k=>some true) (fun k=> ?_) (ev_eq (Ev.now _) ?_)
        · simp only[laws_lvAmong.l0];rw[if_pos (by omega),if_pos (by omega),rd_at L i (by omega),if_pos he]
        · rw[he];simp
      · refine ev_eq (Ev.step (fun k=> ?_) ih1) ?_
        · simp only[laws_lvAmong.l0];rw[if_pos (by omega),if_pos (by omega),rd_at L i (by omega),if_neg he,w64 (by omega) (by omega)];rfl
        · have he': ¬x=L[i]'(by omega):=fun h=>he h.symm
          exact decide_eq_decide.2 ⟨fun h=>List.mem_cons_of_mem _ h,fun h=>(List.mem_cons.1 h).resolve_left he'⟩
  have:=key L.length 0 (by omega) (by omega)
  show Ev (fun k=>laws_lvAmong.l0 k L x 0) _
  simpa using this
theorem reach_head (l:List S29) (h:0≤at_ (fullL l) 0): ∀j,∃t,reachTo l (j+1)=0::t
  |0=>⟨[],by rw[reach_succ];rw[if_pos (by exact h)];rfl⟩
  |j+1=>by
    obtain⟨t,ht⟩:=reach_head l h j;rw[reach_succ,ht];split
    · exact⟨t++ [_],rfl⟩
    · exact⟨t,rfl⟩
theorem mem_reach {l:List S29} {i:Nat} (hi:i<l.length):(i:Int)∈reachL l ↔ 0≤at_ (fullL l) (i:Int):=by
  unfold reachL reachTo;constructor
  · intro h
    obtain⟨a,ha,hb⟩:=List.mem_map.1 h;obtain⟨h1,h2⟩:=List.mem_filter.1 ha;have:a=i:=by omega
    subst this;exact of_decide_eq_true h2
  · intro h
    exact List.mem_map.2 ⟨i,List.mem_filter.2 ⟨by simpa using hi,decide_eq_true h⟩,rfl⟩
end Go.Proofs.Ytmklpbmlgjkbiaa.PS
end
section
namespace Go.Proofs.Ytmklpbmlgjkbiaa.PJI
open Go.RowKit Go.Proofs.YtmklpbmlgjkbiaaW.PrintWords Go.Proofs.YtmklpbmlgjkbiaaW.PrintLast Go.Proofs.YtmklpbmlgjkbiaaW.PrintMore Go.Proofs.Ytmklpbmlgjkbiaa.PS
attribute [local go_sem] max2_int min2_int max_two min_two max_three min_three max_four min_four   -- for this text's walks alone
mutual
def laws_FnFullReach.j0:Nat→List (S29)→List Int→Bool→Option (Bool)
 |0,_,_,_=>none
 |k+1,x3,x4,x23=>if x23=true then((reachV.f x3).bind fun t110=>((laws_lvInts.f k x4 t110).bind fun t113=>(some t113)))else((codeFullV.f x3).bind fun t114=>(laws_FnFullReach.l0 k x3 x4 t114 0))
def laws_FnFullReach.l0:Nat→List (S29)→List Int→List Int→Int→Option (Bool)
 |0,_,_,_,_=>none
 |k+1,x3,x4,x5,x6=>if x6<(x3.length:Int)then(if 0≤x6 then(if x6<(x5.length:Int)then((laws_lvAmong.f k x4 x6).bind fun t119=>(if((decide ((rd x5 x6)≥0)) !=t119)=true then(some false)else(laws_FnFullReach.l0 k x3 x4 x5 (wrap64 (x6+1)))))else(none))else(none))else(if 0<(x4.length:Int)then(some ((rd x4 0)==0))else(none))
end
def laws_FnFullReach.f (k:Nat) (l0:List Int):Option (Bool):=if(l0.length:Int)>1048576 then(some true)else((spec_DrawCodeReach.f k l0).bind fun t101=>((reachV.f t101).bind fun t104=>((laws_lvInts.f k t104 t104).bind fun t109=>(if t109=true then(laws_FnFullReach.j0 k t101 t104 ((t104.length:Int)==0))else(laws_FnFullReach.j0 k t101 t104 true)))))
theorem laws_FnFullReach.calls (k:Nat) (A0:Option Addr) (c0:Nat) (l0:List Int) (r:Bool) (w:World) (hr0:Kd.C (Kd.int .u8) w A0 l0.length l0) (hc0:l0.length≤c0) (h:laws_FnFullReach.f k l0=some r):
  Calls Try.prog 21 #[.slice A0 l0.length c0] w fun e w'=>e= .returned (.bool r)∧Below w.heap.size w w':=by
 have HR0:=Aside0.mk hr0;have HC0:=Aside0.mk hc0;clear hr0 hc0;have HB:=Aside0.mk (Below.refl w.heap.size w);have H:(if(l0.length:Int)>1048576 then(some true)else((spec_DrawCodeReach.f k l0).bind fun t101=>((reachV.f t101).bind fun t104=>((laws_lvInts.f k t104 t104).bind fun t109=>(if t109=true then(laws_FnFullReach.j0 k t101 t104 ((t104.length:Int)==0))else(laws_FnFullReach.j0 k t101 t104 true))))))=some r:=h
 clear h;by_cases c2:(l0.length:Int)>1048576
 ·rw[if_pos c2]at H
  have c2b0:decide (1048576<(l0.length:Int))=true:=decide_eq_true c2;have c2b1:decide (1048576<l0.length)=true:=decide_eq_true (by omega)
  clear c2;obtain rfl:=Option.some.inj H;go_enter Try.func21,Try.ntmps21
  go_wp2
  repeat(go_quiet (fail);try go_wp2)
  go_ret
  exact⟨by first|rfl|(simp[errW_none,errW_some]<;>rfl)|(simp[*,errW_none,errW_some]<;>rfl),by exact bU HB.out⟩
 ·rw[if_neg c2]at H
  have c2b0:decide (1048576<(l0.length:Int))=false:=decide_eq_false c2;have c2b1:decide (1048576<l0.length)=false:=decide_eq_false (by omega)
  clear c2;replace H:=Option.bind_eq_some_iff.mp H;obtain⟨t101,A30,H⟩:=H;replace H:((reachV.f t101).bind fun t104=>((laws_lvInts.f k t104 t104).bind fun t109=>(if t109=true then(laws_FnFullReach.j0 k t101 t104 ((t104.length:Int)==0))else(laws_FnFullReach.j0 k t101 t104 true))))=some r:=H
  have A3:=Aside0.mk A30;clear A30;replace H:=Option.bind_eq_some_iff.mp H;obtain⟨t104,A40,H⟩:=H;replace H:((laws_lvInts.f k t104 t104).bind fun t109=>(if t109=true then(laws_FnFullReach.j0 k t101 t104 ((t104.length:Int)==0))else(laws_FnFullReach.j0 k t101 t104 true)))=some r:=H
  have A4:=Aside0.mk A40;clear A40;have HC5:=Aside0.mk H;clear H;go_enter Try.func21,Try.ntmps21
  go_upto_region 5 with (first|(go_at_call 56;(with_reducible refine(spec_DrawCodeReach.calls k _ _ l0 t101 _ ?side1 ?side2 A3.out).mono ?_);(case side1=>repeat(first|exact HR0.out|(with_reducible refine Kd.C_alloc ?_ _)|(with_reducible refine Kd.C_drewN ?_ _)|(with_reducible refine Kd.C_drew ?_)));(case side2=>exact HC0.out);rintro e w6 ⟨v102,rfl,ho0,hb⟩;have HO103:=Aside0.mk (Kd.R_lower ho0 (below_size (by exact bU HB.out)));replace HB:=Aside0.mk (below_step (by exact bU HB.out) hb);(try clear hb);(try clear hb2);(try clear hk);(try clear hi);(try clear ho0);obtain⟨Ao7,co7,eo7⟩:=Kd.R_slice HO103.out;subst eo7)|(go_at_call 42;(with_reducible refine(impl_CodeReach_as.calls _ _ t101 t104 _ ?side1 ?side2 A4.out).mono ?_);(case side1=>repeat(first|exact(Kd.R_reads' HO103.out).2.2|(with_reducible refine Kd.C_alloc ?_ _)|(with_reducible refine Kd.C_drewN ?_ _)|(with_reducible refine Kd.C_drew ?_)));(case side2=>exact(Kd.R_reads' HO103.out).2.1);rintro e w8 ⟨v105,rfl,ho0,hb⟩;replace HO103:=Aside0.mk (Kd.R_below (by exact rU HO103.out) hb);have HO106:=Aside0.mk (Kd.R_lower ho0 (below_size (by exact bU HB.out)));replace HB:=Aside0.mk (below_step (by exact bU HB.out) hb);(try clear hb);(try clear hb2);(try clear hk);(try clear hi);(try clear ho0)))
  repeat(go_quiet (first|(go_at_call 56;(with_reducible refine(spec_DrawCodeReach.calls k _ _ l0 t101 _ ?side1 ?side2 A3.out).mono ?_);(case side1=>repeat(first|exact HR0.out|(with_reducible refine Kd.C_alloc ?_ _)|(with_reducible refine Kd.C_drewN ?_ _)|(with_reducible refine Kd.C_drew ?_)));(case side2=>exact HC0.out);rintro e w6 ⟨v102,rfl,ho0,hb⟩;have HO103:=Aside0.mk (Kd.R_lower ho0 (below_size (by exact bU HB.out)));replace HB:=Aside0.mk (below_step (by exact bU HB.out) hb);(try clear hb);(try clear hb2);(try clear hk);(try clear hi);(try clear ho0);obtain⟨Ao7,co7,eo7⟩:=Kd.R_slice HO103.out;subst eo7)|(go_at_call 42;(with_reducible refine(impl_CodeReach_as.calls _ _ t101 t104 _ ?side1 ?side2 A4.out).mono ?_);(case side1=>repeat(first|exact(Kd.R_reads' HO103.out).2.2|(with_reducible refine Kd.C_alloc ?_ _)|(with_reducible refine Kd.C_drewN ?_ _)|(with_reducible refine Kd.C_drew ?_)));(case side2=>exact(Kd.R_reads' HO103.out).2.1);rintro e w8 ⟨v105,rfl,ho0,hb⟩;replace HO103:=Aside0.mk (Kd.R_below (by exact rU HO103.out) hb);have HO106:=Aside0.mk (Kd.R_lower ho0 (below_size (by exact bU HB.out)));replace HB:=Aside0.mk (below_step (by exact bU HB.out) hb);(try clear hb);(try clear hb2);(try clear hk);(try clear hi);(try clear ho0)));go_upto_region 5 with (first|(go_at_call 56;(with_reducible refine(spec_DrawCodeReach.calls k _ _ l0 t101 _ ?side1 ?side2 A3.out).mono ?_);(case side1=>repeat(first|exact HR0.out|(with_reducible refine Kd.C_alloc ?_ _)|(with_reducible refine Kd.C_drewN ?_ _)|(with_reducible refine Kd.C_drew ?_)));(case side2=>exact HC0.out);rintro e w6 ⟨v102,rfl,ho0,hb⟩;have HO103:=Aside0.mk (Kd.R_lower ho0 (below_size (by exact bU HB.out)));replace HB:=Aside0.mk (below_step (by exact bU HB.out) hb);(try clear hb);(try clear hb2);(try clear hk);(try clear hi);(try clear ho0);obtain⟨Ao7,co7,eo7⟩:=Kd.R_slice HO103.out;subst eo7)|(go_at_call 42;(with_reducible refine(impl_CodeReach_as.calls _ _ t101 t104 _ ?side1 ?side2 A4.out).mono ?_);(case side1=>repeat(first|exact(Kd.R_reads' HO103.out).2.2|(with_reducible refine Kd.C_alloc ?_ _)|(with_reducible refine Kd.C_drewN ?_ _)|(with_reducible refine Kd.C_drew ?_)));(case side2=>exact(Kd.R_reads' HO103.out).2.1);rintro e w8 ⟨v105,rfl,ho0,hb⟩;replace HO103:=Aside0.mk (Kd.R_below (by exact rU HO103.out) hb);have HO106:=Aside0.mk (Kd.R_lower ho0 (below_size (by exact bU HB.out)));replace HB:=Aside0.mk (below_step (by exact bU HB.out) hb);(try clear hb);(try clear hb2);(try clear hk);(try clear hi);(try clear ho0))))
  (try simp only[Act.put,List.setIfInBounds_toArray,List.set_cons_zero,List.set_cons_succ])
  go_cut [23] (fun v23 wc=> ∃ (kq:Nat) (x23_4:Bool),v23= .bool x23_4∧Aside0 (laws_FnFullReach.j0 kq t101 t104 x23_4=some r)∧Aside0 (kq≤k)∧Aside0 (Kd.R k29 29 wc w.heap.size (fun _=>True) (.slice Ao7 t101.length co7) t101)∧Aside0 (Kd.R (Kd.int .i64) 3 wc w.heap.size (fun _=>True) v105 t104)∧Aside0 (Below w.heap.size w wc))
  case first=>
   have H:=HC5.out;clear HC5;replace H:=Option.bind_eq_some_iff.mp H;obtain⟨t109,A90,H⟩:=H;replace H:(if t109=true then(laws_FnFullReach.j0 k t101 t104 ((t104.length:Int)==0))else(laws_FnFullReach.j0 k t101 t104 true))=some r:=H
   have A9:=Aside0.mk A90;clear A90;by_cases c10:t109=true
   ·subst c10
    have H1:(laws_FnFullReach.j0 k t101 t104 ((t104.length:Int)==0))=some r:=by rw[if_pos rfl]at H;exact H
    clear H;have H:=H1;clear H1;have H':=Aside0.mk H;clear H;go_wp2_with (first|(go_at_call 41;(with_reducible refine(spec_CodeReach_as.calls _ _ t101 t104 _ ?side1 ?side2 A4.out).mono ?_);(case side1=>repeat(first|exact(Kd.R_reads' HO103.out).2.2|(with_reducible refine Kd.C_alloc ?_ _)|(with_reducible refine Kd.C_drewN ?_ _)|(with_reducible refine Kd.C_drew ?_)));(case side2=>exact(Kd.R_reads' HO103.out).2.1);rintro e w11 ⟨v107,rfl,ho0,hb⟩;have n0_:=Aside0.mk (Kd.R_below (by exact rU HO103.out) hb);have n1_:=Aside0.mk (Kd.R_elder' (by exact rU HO106.out) (Kd.R_base ho0) hb);have n2_:=Aside0.mk (Kd.R_lower (Kd.R_new' ho0 (Kd.R_lt (by exact rU HO106.out))) (below_size (by exact bU HB.out)));have n3_:=Aside0.mk (below_step (by exact bU HB.out) hb);clear HO103;clear HO106;clear HB;have HO103:=n0_;have HO106:=n1_;have HO108:=n2_;have HB:=n3_;clear n0_ n1_ n2_ n3_;(try clear hb);(try clear hb2);(try clear hk);(try clear hi);(try clear ho0);obtain⟨Ao12,co12,eo12⟩:=Kd.R_slice HO106.out;subst eo12;obtain⟨Ao13,co13,eo13⟩:=Kd.R_slice HO108.out;subst eo13)|(go_at_call 49;(with_reducible refine(laws_lvInts.calls k _ _ t104 _ _ t104 true _ ?side1 ?side2 ?side3 ?side4 A9.out).mono ?_);(case side1=>repeat(first|exact(Kd.R_reads' HO106.out).2.2|(with_reducible refine Kd.C_alloc ?_ _)|(with_reducible refine Kd.C_drewN ?_ _)|(with_reducible refine Kd.C_drew ?_)));(case side2=>exact(Kd.R_reads' HO106.out).2.1);(case side3=>repeat(first|exact(Kd.R_reads' HO108.out).2.2|(with_reducible refine Kd.C_alloc ?_ _)|(with_reducible refine Kd.C_drewN ?_ _)|(with_reducible refine Kd.C_drew ?_)));(case side4=>exact(Kd.R_reads' HO108.out).2.1);rintro e w' ⟨rfl,⟨nd,rfl⟩⟩;(try first|exact⟨rfl,_,World.drewN_drewN _ _ _⟩|exact⟨rfl,_,Eq.trans (World.drewN_drewN _ _ _) (congrArg (World.drewN _) (Nat.add_assoc _ _ _))⟩)))
    repeat(go_quiet (first|(go_at_call 41;(with_reducible refine(spec_CodeReach_as.calls _ _ t101 t104 _ ?side1 ?side2 A4.out).mono ?_);(case side1=>repeat(first|exact(Kd.R_reads' HO103.out).2.2|(with_reducible refine Kd.C_alloc ?_ _)|(with_reducible refine Kd.C_drewN ?_ _)|(with_reducible refine Kd.C_drew ?_)));(case side2=>exact(Kd.R_reads' HO103.out).2.1);rintro e w11 ⟨v107,rfl,ho0,hb⟩;have n0_:=Aside0.mk (Kd.R_below (by exact rU HO103.out) hb);have n1_:=Aside0.mk (Kd.R_elder' (by exact rU HO106.out) (Kd.R_base ho0) hb);have n2_:=Aside0.mk (Kd.R_lower (Kd.R_new' ho0 (Kd.R_lt (by exact rU HO106.out))) (below_size (by exact bU HB.out)));have n3_:=Aside0.mk (below_step (by exact bU HB.out) hb);clear HO103;clear HO106;clear HB;have HO103:=n0_;have HO106:=n1_;have HO108:=n2_;have HB:=n3_;clear n0_ n1_ n2_ n3_;(try clear hb);(try clear hb2);(try clear hk);(try clear hi);(try clear ho0);obtain⟨Ao12,co12,eo12⟩:=Kd.R_slice HO106.out;subst eo12;obtain⟨Ao13,co13,eo13⟩:=Kd.R_slice HO108.out;subst eo13)|(go_at_call 49;(with_reducible refine(laws_lvInts.calls k _ _ t104 _ _ t104 true _ ?side1 ?side2 ?side3 ?side4 A9.out).mono ?_);(case side1=>repeat(first|exact(Kd.R_reads' HO106.out).2.2|(with_reducible refine Kd.C_alloc ?_ _)|(with_reducible refine Kd.C_drewN ?_ _)|(with_reducible refine Kd.C_drew ?_)));(case side2=>exact(Kd.R_reads' HO106.out).2.1);(case side3=>repeat(first|exact(Kd.R_reads' HO108.out).2.2|(with_reducible refine Kd.C_alloc ?_ _)|(with_reducible refine Kd.C_drewN ?_ _)|(with_reducible refine Kd.C_drew ?_)));(case side4=>exact(Kd.R_reads' HO108.out).2.1);rintro e w' ⟨rfl,⟨nd,rfl⟩⟩;(try first|exact⟨rfl,_,World.drewN_drewN _ _ _⟩|exact⟨rfl,_,Eq.trans (World.drewN_drewN _ _ _) (congrArg (World.drewN _) (Nat.add_assoc _ _ _))⟩)));try go_wp2_with (first|(go_at_call 41;(with_reducible refine(spec_CodeReach_as.calls _ _ t101 t104 _ ?side1 ?side2 A4.out).mono ?_);(case side1=>repeat(first|exact(Kd.R_reads' HO103.out).2.2|(with_reducible refine Kd.C_alloc ?_ _)|(with_reducible refine Kd.C_drewN ?_ _)|(with_reducible refine Kd.C_drew ?_)));(case side2=>exact(Kd.R_reads' HO103.out).2.1);rintro e w11 ⟨v107,rfl,ho0,hb⟩;have n0_:=Aside0.mk (Kd.R_below (by exact rU HO103.out) hb);have n1_:=Aside0.mk (Kd.R_elder' (by exact rU HO106.out) (Kd.R_base ho0) hb);have n2_:=Aside0.mk (Kd.R_lower (Kd.R_new' ho0 (Kd.R_lt (by exact rU HO106.out))) (below_size (by exact bU HB.out)));have n3_:=Aside0.mk (below_step (by exact bU HB.out) hb);clear HO103;clear HO106;clear HB;have HO103:=n0_;have HO106:=n1_;have HO108:=n2_;have HB:=n3_;clear n0_ n1_ n2_ n3_;(try clear hb);(try clear hb2);(try clear hk);(try clear hi);(try clear ho0);obtain⟨Ao12,co12,eo12⟩:=Kd.R_slice HO106.out;subst eo12;obtain⟨Ao13,co13,eo13⟩:=Kd.R_slice HO108.out;subst eo13)|(go_at_call 49;(with_reducible refine(laws_lvInts.calls k _ _ t104 _ _ t104 true _ ?side1 ?side2 ?side3 ?side4 A9.out).mono ?_);(case side1=>repeat(first|exact(Kd.R_reads' HO106.out).2.2|(with_reducible refine Kd.C_alloc ?_ _)|(with_reducible refine Kd.C_drewN ?_ _)|(with_reducible refine Kd.C_drew ?_)));(case side2=>exact(Kd.R_reads' HO106.out).2.1);(case side3=>repeat(first|exact(Kd.R_reads' HO108.out).2.2|(with_reducible refine Kd.C_alloc ?_ _)|(with_reducible refine Kd.C_drewN ?_ _)|(with_reducible refine Kd.C_drew ?_)));(case side4=>exact(Kd.R_reads' HO108.out).2.1);rintro e w' ⟨rfl,⟨nd,rfl⟩⟩;(try first|exact⟨rfl,_,World.drewN_drewN _ _ _⟩|exact⟨rfl,_,Eq.trans (World.drewN_drewN _ _ _) (congrArg (World.drewN _) (Nat.add_assoc _ _ _))⟩))))
    go_meet
    case rel=>exact⟨_,(((t104.length:Int)==0)),(by first|rfl|(simp;done)|(simp[*];done)),H',⟨by first|omega|exact Nat.le_refl _⟩,⟨by exact rU HO103.out⟩,⟨by(with_reducible repeat(first|apply rA|apply rN|apply rD));exact Kd.R_mono HO106.out (fun _ hk=>trivial)⟩,⟨by exact bU HB.out⟩⟩
   ·replace c10:=Bool.eq_false_iff.mpr c10
    subst c10;have H1:(laws_FnFullReach.j0 k t101 t104 true)=some r:=by rw[if_neg (show¬(false=true) by decide)]at H;exact H
    clear H;have H:=H1;clear H1;have H':=Aside0.mk H;clear H;go_wp2_with (first|(go_at_call 41;(with_reducible refine(spec_CodeReach_as.calls _ _ t101 t104 _ ?side1 ?side2 A4.out).mono ?_);(case side1=>repeat(first|exact(Kd.R_reads' HO103.out).2.2|(with_reducible refine Kd.C_alloc ?_ _)|(with_reducible refine Kd.C_drewN ?_ _)|(with_reducible refine Kd.C_drew ?_)));(case side2=>exact(Kd.R_reads' HO103.out).2.1);rintro e w14 ⟨v107,rfl,ho0,hb⟩;have n0_:=Aside0.mk (Kd.R_below (by exact rU HO103.out) hb);have n1_:=Aside0.mk (Kd.R_elder' (by exact rU HO106.out) (Kd.R_base ho0) hb);have n2_:=Aside0.mk (Kd.R_lower (Kd.R_new' ho0 (Kd.R_lt (by exact rU HO106.out))) (below_size (by exact bU HB.out)));have n3_:=Aside0.mk (below_step (by exact bU HB.out) hb);clear HO103;clear HO106;clear HB;have HO103:=n0_;have HO106:=n1_;have HO108:=n2_;have HB:=n3_;clear n0_ n1_ n2_ n3_;(try clear hb);(try clear hb2);(try clear hk);(try clear hi);(try clear ho0);obtain⟨Ao15,co15,eo15⟩:=Kd.R_slice HO106.out;subst eo15;obtain⟨Ao16,co16,eo16⟩:=Kd.R_slice HO108.out;subst eo16)|(go_at_call 49;(with_reducible refine(laws_lvInts.calls k _ _ t104 _ _ t104 false _ ?side1 ?side2 ?side3 ?side4 A9.out).mono ?_);(case side1=>repeat(first|exact(Kd.R_reads' HO106.out).2.2|(with_reducible refine Kd.C_alloc ?_ _)|(with_reducible refine Kd.C_drewN ?_ _)|(with_reducible refine Kd.C_drew ?_)));(case side2=>exact(Kd.R_reads' HO106.out).2.1);(case side3=>repeat(first|exact(Kd.R_reads' HO108.out).2.2|(with_reducible refine Kd.C_alloc ?_ _)|(with_reducible refine Kd.C_drewN ?_ _)|(with_reducible refine Kd.C_drew ?_)));(case side4=>exact(Kd.R_reads' HO108.out).2.1);rintro e w' ⟨rfl,⟨nd,rfl⟩⟩;(try first|exact⟨rfl,_,World.drewN_drewN _ _ _⟩|exact⟨rfl,_,Eq.trans (World.drewN_drewN _ _ _) (congrArg (World.drewN _) (Nat.add_assoc _ _ _))⟩)))
    repeat(go_quiet (first|(go_at_call 41;(with_reducible refine(spec_CodeReach_as.calls _ _ t101 t104 _ ?side1 ?side2 A4.out).mono ?_);(case side1=>repeat(first|exact(Kd.R_reads' HO103.out).2.2|(with_reducible refine Kd.C_alloc ?_ _)|(with_reducible refine Kd.C_drewN ?_ _)|(with_reducible refine Kd.C_drew ?_)));(case side2=>exact(Kd.R_reads' HO103.out).2.1);rintro e w14 ⟨v107,rfl,ho0,hb⟩;have n0_:=Aside0.mk (Kd.R_below (by exact rU HO103.out) hb);have n1_:=Aside0.mk (Kd.R_elder' (by exact rU HO106.out) (Kd.R_base ho0) hb);have n2_:=Aside0.mk (Kd.R_lower (Kd.R_new' ho0 (Kd.R_lt (by exact rU HO106.out))) (below_size (by exact bU HB.out)));have n3_:=Aside0.mk (below_step (by exact bU HB.out) hb);clear HO103;clear HO106;clear HB;have HO103:=n0_;have HO106:=n1_;have HO108:=n2_;have HB:=n3_;clear n0_ n1_ n2_ n3_;(try clear hb);(try clear hb2);(try clear hk);(try clear hi);(try clear ho0);obtain⟨Ao15,co15,eo15⟩:=Kd.R_slice HO106.out;subst eo15;obtain⟨Ao16,co16,eo16⟩:=Kd.R_slice HO108.out;subst eo16)|(go_at_call 49;(with_reducible refine(laws_lvInts.calls k _ _ t104 _ _ t104 false _ ?side1 ?side2 ?side3 ?side4 A9.out).mono ?_);(case side1=>repeat(first|exact(Kd.R_reads' HO106.out).2.2|(with_reducible refine Kd.C_alloc ?_ _)|(with_reducible refine Kd.C_drewN ?_ _)|(with_reducible refine Kd.C_drew ?_)));(case side2=>exact(Kd.R_reads' HO106.out).2.1);(case side3=>repeat(first|exact(Kd.R_reads' HO108.out).2.2|(with_reducible refine Kd.C_alloc ?_ _)|(with_reducible refine Kd.C_drewN ?_ _)|(with_reducible refine Kd.C_drew ?_)));(case side4=>exact(Kd.R_reads' HO108.out).2.1);rintro e w' ⟨rfl,⟨nd,rfl⟩⟩;(try first|exact⟨rfl,_,World.drewN_drewN _ _ _⟩|exact⟨rfl,_,Eq.trans (World.drewN_drewN _ _ _) (congrArg (World.drewN _) (Nat.add_assoc _ _ _))⟩)));try go_wp2_with (first|(go_at_call 41;(with_reducible refine(spec_CodeReach_as.calls _ _ t101 t104 _ ?side1 ?side2 A4.out).mono ?_);(case side1=>repeat(first|exact(Kd.R_reads' HO103.out).2.2|(with_reducible refine Kd.C_alloc ?_ _)|(with_reducible refine Kd.C_drewN ?_ _)|(with_reducible refine Kd.C_drew ?_)));(case side2=>exact(Kd.R_reads' HO103.out).2.1);rintro e w14 ⟨v107,rfl,ho0,hb⟩;have n0_:=Aside0.mk (Kd.R_below (by exact rU HO103.out) hb);have n1_:=Aside0.mk (Kd.R_elder' (by exact rU HO106.out) (Kd.R_base ho0) hb);have n2_:=Aside0.mk (Kd.R_lower (Kd.R_new' ho0 (Kd.R_lt (by exact rU HO106.out))) (below_size (by exact bU HB.out)));have n3_:=Aside0.mk (below_step (by exact bU HB.out) hb);clear HO103;clear HO106;clear HB;have HO103:=n0_;have HO106:=n1_;have HO108:=n2_;have HB:=n3_;clear n0_ n1_ n2_ n3_;(try clear hb);(try clear hb2);(try clear hk);(try clear hi);(try clear ho0);obtain⟨Ao15,co15,eo15⟩:=Kd.R_slice HO106.out;subst eo15;obtain⟨Ao16,co16,eo16⟩:=Kd.R_slice HO108.out;subst eo16)|(go_at_call 49;(with_reducible refine(laws_lvInts.calls k _ _ t104 _ _ t104 false _ ?side1 ?side2 ?side3 ?side4 A9.out).mono ?_);(case side1=>repeat(first|exact(Kd.R_reads' HO106.out).2.2|(with_reducible refine Kd.C_alloc ?_ _)|(with_reducible refine Kd.C_drewN ?_ _)|(with_reducible refine Kd.C_drew ?_)));(case side2=>exact(Kd.R_reads' HO106.out).2.1);(case side3=>repeat(first|exact(Kd.R_reads' HO108.out).2.2|(with_reducible refine Kd.C_alloc ?_ _)|(with_reducible refine Kd.C_drewN ?_ _)|(with_reducible refine Kd.C_drew ?_)));(case side4=>exact(Kd.R_reads' HO108.out).2.1);rintro e w' ⟨rfl,⟨nd,rfl⟩⟩;(try first|exact⟨rfl,_,World.drewN_drewN _ _ _⟩|exact⟨rfl,_,Eq.trans (World.drewN_drewN _ _ _) (congrArg (World.drewN _) (Nat.add_assoc _ _ _))⟩))))
    go_meet
    case rel=>exact⟨_,(true),(by first|rfl|(simp;done)|(simp[*];done)),H',⟨by first|omega|exact Nat.le_refl _⟩,⟨by exact rU HO103.out⟩,⟨by(with_reducible repeat(first|apply rA|apply rN|apply rD));exact Kd.R_mono HO106.out (fun _ hk=>trivial)⟩,⟨by exact bU HB.out⟩⟩
  case rest=>
   clear HC5;(try clear c1);(try clear c2);(try clear c2b0);(try clear c2b1);(try clear p2);(try clear c10)
   obtain⟨kq,x23_4,rfl,HA,HJ4,HO_3,HO_4,HB⟩:=hcut;cases kq with
   |zero=>exact absurd HA.out (by simp[laws_FnFullReach.j0])
   |succ kj4=>
    have H:=HA.out;clear HA;simp only[laws_FnFullReach.j0]at H
    by_cases c17:x23_4=true
    ·subst c17
     have H1:((reachV.f t101).bind fun t110=>((laws_lvInts.f kj4 t104 t110).bind fun t113=>(some t113)))=some r:=by rw[if_pos rfl]at H;exact H
     clear H;have H:=H1;clear H1;replace H:=Option.bind_eq_some_iff.mp H;obtain⟨t110,A180,H⟩:=H;replace H:((laws_lvInts.f kj4 t104 t110).bind fun t113=>(some t113))=some r:=H
     have A18:=Aside0.mk A180;clear A180;replace H:=Option.bind_eq_some_iff.mp H;obtain⟨t113,A190,H⟩:=H;replace H:(some t113)=some r:=H;have A19:=Aside0.mk A190;clear A190;obtain rfl:=Option.some.inj H;go_wp2_with (first|(go_at_call 41;(with_reducible refine(spec_CodeReach_as.calls _ _ t101 t110 _ ?side1 ?side2 A18.out).mono ?_);(case side1=>repeat(first|exact(Kd.R_reads' HO_3.out).2.2|(with_reducible refine Kd.C_alloc ?_ _)|(with_reducible refine Kd.C_drewN ?_ _)|(with_reducible refine Kd.C_drew ?_)));(case side2=>exact(Kd.R_reads' HO_3.out).2.1);rintro e w20 ⟨v111,rfl,ho0,hb⟩;have n0_:=Aside0.mk (Kd.R_below (by exact rU HO_3.out) hb);have n1_:=Aside0.mk (Kd.R_elder' (by exact rU HO_4.out) (Kd.R_base ho0) hb);have n2_:=Aside0.mk (Kd.R_lower (Kd.R_new' ho0 (Kd.R_lt (by exact rU HO_4.out))) (below_size (by exact bU HB.out)));have n3_:=Aside0.mk (below_step (by exact bU HB.out) hb);clear HO_3;clear HO_4;clear HB;have HO_3:=n0_;have HO_4:=n1_;have HO112:=n2_;have HB:=n3_;clear n0_ n1_ n2_ n3_;(try clear hb);(try clear hb2);(try clear hk);(try clear hi);(try clear ho0);obtain⟨Ao21,co21,eo21⟩:=Kd.R_slice HO_4.out;subst eo21;obtain⟨Ao22,co22,eo22⟩:=Kd.R_slice HO112.out;subst eo22)|(go_at_call 49;(with_reducible refine(laws_lvInts.calls kj4 _ _ t104 _ _ t110 t113 _ ?side1 ?side2 ?side3 ?side4 A19.out).mono ?_);(case side1=>repeat(first|exact(Kd.R_reads' HO_4.out).2.2|(with_reducible refine Kd.C_alloc ?_ _)|(with_reducible refine Kd.C_drewN ?_ _)|(with_reducible refine Kd.C_drew ?_)));(case side2=>exact(Kd.R_reads' HO_4.out).2.1);(case side3=>repeat(first|exact(Kd.R_reads' HO112.out).2.2|(with_reducible refine Kd.C_alloc ?_ _)|(with_reducible refine Kd.C_drewN ?_ _)|(with_reducible refine Kd.C_drew ?_)));(case side4=>exact(Kd.R_reads' HO112.out).2.1);rintro e w' ⟨rfl,⟨nd,rfl⟩⟩;(try first|exact⟨rfl,_,World.drewN_drewN _ _ _⟩|exact⟨rfl,_,Eq.trans (World.drewN_drewN _ _ _) (congrArg (World.drewN _) (Nat.add_assoc _ _ _))⟩)))
     repeat(go_quiet (first|(go_at_call 41;(with_reducible refine(spec_CodeReach_as.calls _ _ t101 t110 _ ?side1 ?side2 A18.out).mono ?_);(case side1=>repeat(first|exact(Kd.R_reads' HO_3.out).2.2|(with_reducible refine Kd.C_alloc ?_ _)|(with_reducible refine Kd.C_drewN ?_ _)|(with_reducible refine Kd.C_drew ?_)));(case side2=>exact(Kd.R_reads' HO_3.out).2.1);rintro e w20 ⟨v111,rfl,ho0,hb⟩;have n0_:=Aside0.mk (Kd.R_below (by exact rU HO_3.out) hb);have n1_:=Aside0.mk (Kd.R_elder' (by exact rU HO_4.out) (Kd.R_base ho0) hb);have n2_:=Aside0.mk (Kd.R_lower (Kd.R_new' ho0 (Kd.R_lt (by exact rU HO_4.out))) (below_size (by exact bU HB.out)));have n3_:=Aside0.mk (below_step (by exact bU HB.out) hb);clear HO_3;clear HO_4;clear HB;have HO_3:=n0_;have HO_4:=n1_;have HO112:=n2_;have HB:=n3_;clear n0_ n1_ n2_ n3_;(try clear hb);(try clear hb2);(try clear hk);(try clear hi);(try clear ho0);obtain⟨Ao21,co21,eo21⟩:=Kd.R_slice HO_4.out;subst eo21;obtain⟨Ao22,co22,eo22⟩:=Kd.R_slice HO112.out;subst eo22)|(go_at_call 49;(with_reducible refine(laws_lvInts.calls kj4 _ _ t104 _ _ t110 t113 _ ?side1 ?side2 ?side3 ?side4 A19.out).mono ?_);(case side1=>repeat(first|exact(Kd.R_reads' HO_4.out).2.2|(with_reducible refine Kd.C_alloc ?_ _)|(with_reducible refine Kd.C_drewN ?_ _)|(with_reducible refine Kd.C_drew ?_)));(case side2=>exact(Kd.R_reads' HO_4.out).2.1);(case side3=>repeat(first|exact(Kd.R_reads' HO112.out).2.2|(with_reducible refine Kd.C_alloc ?_ _)|(with_reducible refine Kd.C_drewN ?_ _)|(with_reducible refine Kd.C_drew ?_)));(case side4=>exact(Kd.R_reads' HO112.out).2.1);rintro e w' ⟨rfl,⟨nd,rfl⟩⟩;(try first|exact⟨rfl,_,World.drewN_drewN _ _ _⟩|exact⟨rfl,_,Eq.trans (World.drewN_drewN _ _ _) (congrArg (World.drewN _) (Nat.add_assoc _ _ _))⟩)));try go_wp2_with (first|(go_at_call 41;(with_reducible refine(spec_CodeReach_as.calls _ _ t101 t110 _ ?side1 ?side2 A18.out).mono ?_);(case side1=>repeat(first|exact(Kd.R_reads' HO_3.out).2.2|(with_reducible refine Kd.C_alloc ?_ _)|(with_reducible refine Kd.C_drewN ?_ _)|(with_reducible refine Kd.C_drew ?_)));(case side2=>exact(Kd.R_reads' HO_3.out).2.1);rintro e w20 ⟨v111,rfl,ho0,hb⟩;have n0_:=Aside0.mk (Kd.R_below (by exact rU HO_3.out) hb);have n1_:=Aside0.mk (Kd.R_elder' (by exact rU HO_4.out) (Kd.R_base ho0) hb);have n2_:=Aside0.mk (Kd.R_lower (Kd.R_new' ho0 (Kd.R_lt (by exact rU HO_4.out))) (below_size (by exact bU HB.out)));have n3_:=Aside0.mk (below_step (by exact bU HB.out) hb);clear HO_3;clear HO_4;clear HB;have HO_3:=n0_;have HO_4:=n1_;have HO112:=n2_;have HB:=n3_;clear n0_ n1_ n2_ n3_;(try clear hb);(try clear hb2);(try clear hk);(try clear hi);(try clear ho0);obtain⟨Ao21,co21,eo21⟩:=Kd.R_slice HO_4.out;subst eo21;obtain⟨Ao22,co22,eo22⟩:=Kd.R_slice HO112.out;subst eo22)|(go_at_call 49;(with_reducible refine(laws_lvInts.calls kj4 _ _ t104 _ _ t110 t113 _ ?side1 ?side2 ?side3 ?side4 A19.out).mono ?_);(case side1=>repeat(first|exact(Kd.R_reads' HO_4.out).2.2|(with_reducible refine Kd.C_alloc ?_ _)|(with_reducible refine Kd.C_drewN ?_ _)|(with_reducible refine Kd.C_drew ?_)));(case side2=>exact(Kd.R_reads' HO_4.out).2.1);(case side3=>repeat(first|exact(Kd.R_reads' HO112.out).2.2|(with_reducible refine Kd.C_alloc ?_ _)|(with_reducible refine Kd.C_drewN ?_ _)|(with_reducible refine Kd.C_drew ?_)));(case side4=>exact(Kd.R_reads' HO112.out).2.1);rintro e w' ⟨rfl,⟨nd,rfl⟩⟩;(try first|exact⟨rfl,_,World.drewN_drewN _ _ _⟩|exact⟨rfl,_,Eq.trans (World.drewN_drewN _ _ _) (congrArg (World.drewN _) (Nat.add_assoc _ _ _))⟩))))
     go_ret
     exact⟨by first|rfl|(simp[errW_none,errW_some]<;>rfl)|(simp[*,errW_none,errW_some]<;>rfl),by exact bU HB.out⟩
    ·replace c17:=Bool.eq_false_iff.mpr c17
     subst c17;have H1:((codeFullV.f t101).bind fun t114=>(laws_FnFullReach.l0 kj4 t101 t104 t114 0))=some r:=by rw[if_neg (show¬(false=true) by decide)]at H;exact H
     clear H;have H:=H1;clear H1;replace H:=Option.bind_eq_some_iff.mp H;obtain⟨t114,A230,H⟩:=H;replace H:(laws_FnFullReach.l0 kj4 t101 t104 t114 0)=some r:=H;have A23:=Aside0.mk A230;clear A230;have H':=Aside0.mk H;clear H;go_wp2_with (first|(go_at_call 44;(with_reducible refine(impl_CodeFull_as.calls _ _ t101 t114 _ ?side1 ?side2 A23.out).mono ?_);(case side1=>repeat(first|exact(Kd.R_reads' HO_3.out).2.2|(with_reducible refine Kd.C_alloc ?_ _)|(with_reducible refine Kd.C_drewN ?_ _)|(with_reducible refine Kd.C_drew ?_)));(case side2=>exact(Kd.R_reads' HO_3.out).2.1);rintro e w24 ⟨v115,rfl,ho0,hb⟩;have n0_:=Aside0.mk (Kd.R_below (by exact rU HO_3.out) hb);have n1_:=Aside0.mk (Kd.R_elder' (by exact rU HO_4.out) (Kd.R_base ho0) hb);have n2_:=Aside0.mk (Kd.R_lower (Kd.R_new' ho0 (Kd.R_lt (by exact rU HO_4.out))) (below_size (by exact bU HB.out)));have n3_:=Aside0.mk (below_step (by exact bU HB.out) hb);clear HO_3;clear HO_4;clear HB;have HO_3:=n0_;have HO_4:=n1_;have HO116:=n2_;have HB:=n3_;clear n0_ n1_ n2_ n3_;(try clear hb);(try clear hb2);(try clear hk);(try clear hi);(try clear ho0)))
     repeat(go_quiet (first|(go_at_call 44;(with_reducible refine(impl_CodeFull_as.calls _ _ t101 t114 _ ?side1 ?side2 A23.out).mono ?_);(case side1=>repeat(first|exact(Kd.R_reads' HO_3.out).2.2|(with_reducible refine Kd.C_alloc ?_ _)|(with_reducible refine Kd.C_drewN ?_ _)|(with_reducible refine Kd.C_drew ?_)));(case side2=>exact(Kd.R_reads' HO_3.out).2.1);rintro e w24 ⟨v115,rfl,ho0,hb⟩;have n0_:=Aside0.mk (Kd.R_below (by exact rU HO_3.out) hb);have n1_:=Aside0.mk (Kd.R_elder' (by exact rU HO_4.out) (Kd.R_base ho0) hb);have n2_:=Aside0.mk (Kd.R_lower (Kd.R_new' ho0 (Kd.R_lt (by exact rU HO_4.out))) (below_size (by exact bU HB.out)));have n3_:=Aside0.mk (below_step (by exact bU HB.out) hb);clear HO_3;clear HO_4;clear HB;have HO_3:=n0_;have HO_4:=n1_;have HO116:=n2_;have HB:=n3_;clear n0_ n1_ n2_ n3_;(try clear hb);(try clear hb2);(try clear hk);(try clear hi);(try clear ho0)));try go_wp2_with (first|(go_at_call 44;(with_reducible refine(impl_CodeFull_as.calls _ _ t101 t114 _ ?side1 ?side2 A23.out).mono ?_);(case side1=>repeat(first|exact(Kd.R_reads' HO_3.out).2.2|(with_reducible refine Kd.C_alloc ?_ _)|(with_reducible refine Kd.C_drewN ?_ _)|(with_reducible refine Kd.C_drew ?_)));(case side2=>exact(Kd.R_reads' HO_3.out).2.1);rintro e w24 ⟨v115,rfl,ho0,hb⟩;have n0_:=Aside0.mk (Kd.R_below (by exact rU HO_3.out) hb);have n1_:=Aside0.mk (Kd.R_elder' (by exact rU HO_4.out) (Kd.R_base ho0) hb);have n2_:=Aside0.mk (Kd.R_lower (Kd.R_new' ho0 (Kd.R_lt (by exact rU HO_4.out))) (below_size (by exact bU HB.out)));have n3_:=Aside0.mk (below_step (by exact bU HB.out) hb);clear HO_3;clear HO_4;clear HB;have HO_3:=n0_;have HO_4:=n1_;have HO116:=n2_;have HB:=n3_;clear n0_ n1_ n2_ n3_;(try clear hb);(try clear hb2);(try clear hk);(try clear hi);(try clear ho0))))
     go_loopg [6] kj4 (fun kq v6 w'=> ∃ (x6_2:Int),v6= .int .i64 x6_2∧Aside0 (laws_FnFullReach.l0 kq t101 t104 t114 x6_2=some r)∧Aside0 (kq≤kj4)∧Aside0 (Kd.R k29 29 w' w.heap.size (fun _=>True) (.slice Ao7 t101.length co7) t101)∧Aside0 (Kd.R (Kd.int .i64) 3 w' w.heap.size (fun k_=>some k_≠(v115:Value).ownBlock) v105 t104)∧Aside0 (Kd.R (Kd.int .i64) 3 w' w.heap.size (fun k_=>some k_≠(v105:Value).ownBlock) v115 t114)∧Aside0 (Below w.heap.size w w'))
     case atStart=>exact⟨(0),(by first|rfl|(simp;done)|(simp[*];done)),H',⟨Nat.le_refl _⟩,⟨by exact rU HO_3.out⟩,⟨by(with_reducible repeat(first|apply rA|apply rN|apply rD));exact Kd.R_mono HO_4.out (fun _ hk=>hk.2)⟩,⟨by(with_reducible repeat(first|apply rA|apply rN|apply rD));exact Kd.R_mono HO116.out (fun _ hk=>hk.2)⟩,⟨by exact bU HB.out⟩⟩
     case round=>
      clear H';(try clear c1);(try clear c2);(try clear c2b0);(try clear c2b1);(try clear p2);(try clear c10);(try clear c17);(try clear c21);(try clear p2)
      obtain⟨x6_2,rfl,HA,HK2,HO_3,HO_4,HO_5,HB⟩:=hrel;cases gk with
      |zero=>exact absurd HA.out (by simp[laws_FnFullReach.l0])
      |succ k2=>
       have H:=HA.out;clear HA;simp only[laws_FnFullReach.l0]at H
       by_cases c25:x6_2<(t101.length:Int)
       ·rw[if_pos c25]at H
        have c25b0:decide (x6_2<(t101.length:Int))=true:=decide_eq_true c25;clear c25;by_cases c26:0≤x6_2
        ·rw[if_pos c26]at H
         have c26b0:decide (0≤x6_2)=true:=decide_eq_true c26;clear c26;by_cases c27:x6_2<(t114.length:Int)
         ·rw[if_pos c27]at H
          have c27b0:decide (x6_2<(t114.length:Int))=true:=decide_eq_true c27;clear c27;replace H:=Option.bind_eq_some_iff.mp H;obtain⟨t119,A280,H⟩:=H;replace H:(if((decide ((rd t114 x6_2)≥0)) !=t119)=true then(some false)else(laws_FnFullReach.l0 k2 t101 t104 t114 (wrap64 (x6_2+1))))=some r:=H
          have A28:=Aside0.mk A280;clear A280;by_cases c29:((decide ((rd t114 x6_2)≥0)) !=t119)=true
          ·rw[if_pos c29]at H
           have c29b0:((decide ((rd t114 x6_2)≥0)) !=t119)=true:=c29;(try(have c29b1:decide ((decide ((rd t114 x6_2)≥0))=t119)=false:=by simpa using c29))
           (try(have c29b2:((decide ((rd t114 x6_2)≥0))==t119)=false:=by simpa using c29))
           (try(have c29b3: ¬((decide ((rd t114 x6_2)≥0))=t119):=by simpa using c29))
           clear c29;obtain rfl:=Option.some.inj H;obtain⟨Ao30,co30,eo30⟩:=Kd.R_slice HO_5.out;subst eo30;have p118:0≤(x6_2:Int):=of_decide_eq_true (by assumption)
           have q118:x6_2<(t114.length:Int):=of_decide_eq_true (by assumption)
           obtain⟨ad118,e118,hx118_0⟩:=Kd.at_int (Kd.R_reads' HO_5.out).2.2 x6_2 p118 q118;cases e118
           replace p118:=eq_true p118;replace q118:=eq_true q118;obtain⟨Ao31,co31,eo31⟩:=Kd.R_slice HO_4.out;subst eo31;go_wp2_with (first|(go_at_call 55;(with_reducible refine(laws_lvAmong.calls k2 _ _ t104 x6_2 t119 _ ?side1 ?side2 A28.out).mono ?_);(case side1=>repeat(first|exact(Kd.R_reads' HO_4.out).2.2|(with_reducible refine Kd.C_alloc ?_ _)|(with_reducible refine Kd.C_drewN ?_ _)|(with_reducible refine Kd.C_drew ?_)));(case side2=>exact(Kd.R_reads' HO_4.out).2.1);rintro e w' ⟨rfl,⟨nd,rfl⟩⟩;(try first|exact⟨rfl,_,World.drewN_drewN _ _ _⟩|exact⟨rfl,_,Eq.trans (World.drewN_drewN _ _ _) (congrArg (World.drewN _) (Nat.add_assoc _ _ _))⟩)))
           repeat(go_quiet (first|(go_at_call 55;(with_reducible refine(laws_lvAmong.calls k2 _ _ t104 x6_2 t119 _ ?side1 ?side2 A28.out).mono ?_);(case side1=>repeat(first|exact(Kd.R_reads' HO_4.out).2.2|(with_reducible refine Kd.C_alloc ?_ _)|(with_reducible refine Kd.C_drewN ?_ _)|(with_reducible refine Kd.C_drew ?_)));(case side2=>exact(Kd.R_reads' HO_4.out).2.1);rintro e w' ⟨rfl,⟨nd,rfl⟩⟩;(try first|exact⟨rfl,_,World.drewN_drewN _ _ _⟩|exact⟨rfl,_,Eq.trans (World.drewN_drewN _ _ _) (congrArg (World.drewN _) (Nat.add_assoc _ _ _))⟩)));try go_wp2_with (first|(go_at_call 55;(with_reducible refine(laws_lvAmong.calls k2 _ _ t104 x6_2 t119 _ ?side1 ?side2 A28.out).mono ?_);(case side1=>repeat(first|exact(Kd.R_reads' HO_4.out).2.2|(with_reducible refine Kd.C_alloc ?_ _)|(with_reducible refine Kd.C_drewN ?_ _)|(with_reducible refine Kd.C_drew ?_)));(case side2=>exact(Kd.R_reads' HO_4.out).2.1);rintro e w' ⟨rfl,⟨nd,rfl⟩⟩;(try first|exact⟨rfl,_,World.drewN_drewN _ _ _⟩|exact⟨rfl,_,Eq.trans (World.drewN_drewN _ _ _) (congrArg (World.drewN _) (Nat.add_assoc _ _ _))⟩))))
           go_ret
           exact⟨by first|rfl|(simp[errW_none,errW_some]<;>rfl)|(simp[*,errW_none,errW_some]<;>rfl),by exact bU HB.out⟩
          ·rw[if_neg c29]at H
           have c29b0:((decide ((rd t114 x6_2)≥0)) !=t119)=false:=by simpa using c29
           (try(have c29b1:decide ((decide ((rd t114 x6_2)≥0))=t119)=true:=by simpa using c29))
           (try(have c29b2:((decide ((rd t114 x6_2)≥0))==t119)=true:=by simpa using c29))
           clear c29;have H':=Aside0.mk H;clear H;obtain⟨Ao32,co32,eo32⟩:=Kd.R_slice HO_5.out;subst eo32;have p118:0≤(x6_2:Int):=of_decide_eq_true (by assumption)
           have q118:x6_2<(t114.length:Int):=of_decide_eq_true (by assumption)
           obtain⟨ad118,e118,hx118_0⟩:=Kd.at_int (Kd.R_reads' HO_5.out).2.2 x6_2 p118 q118;cases e118
           replace p118:=eq_true p118;replace q118:=eq_true q118;obtain⟨Ao33,co33,eo33⟩:=Kd.R_slice HO_4.out;subst eo33;go_wp2_with (first|(go_at_call 55;(with_reducible refine(laws_lvAmong.calls k2 _ _ t104 x6_2 t119 _ ?side1 ?side2 A28.out).mono ?_);(case side1=>repeat(first|exact(Kd.R_reads' HO_4.out).2.2|(with_reducible refine Kd.C_alloc ?_ _)|(with_reducible refine Kd.C_drewN ?_ _)|(with_reducible refine Kd.C_drew ?_)));(case side2=>exact(Kd.R_reads' HO_4.out).2.1);rintro e w' ⟨rfl,⟨nd,rfl⟩⟩;(try first|exact⟨rfl,_,World.drewN_drewN _ _ _⟩|exact⟨rfl,_,Eq.trans (World.drewN_drewN _ _ _) (congrArg (World.drewN _) (Nat.add_assoc _ _ _))⟩)))
           repeat(go_quiet (first|(go_at_call 55;(with_reducible refine(laws_lvAmong.calls k2 _ _ t104 x6_2 t119 _ ?side1 ?side2 A28.out).mono ?_);(case side1=>repeat(first|exact(Kd.R_reads' HO_4.out).2.2|(with_reducible refine Kd.C_alloc ?_ _)|(with_reducible refine Kd.C_drewN ?_ _)|(with_reducible refine Kd.C_drew ?_)));(case side2=>exact(Kd.R_reads' HO_4.out).2.1);rintro e w' ⟨rfl,⟨nd,rfl⟩⟩;(try first|exact⟨rfl,_,World.drewN_drewN _ _ _⟩|exact⟨rfl,_,Eq.trans (World.drewN_drewN _ _ _) (congrArg (World.drewN _) (Nat.add_assoc _ _ _))⟩)));try go_wp2_with (first|(go_at_call 55;(with_reducible refine(laws_lvAmong.calls k2 _ _ t104 x6_2 t119 _ ?side1 ?side2 A28.out).mono ?_);(case side1=>repeat(first|exact(Kd.R_reads' HO_4.out).2.2|(with_reducible refine Kd.C_alloc ?_ _)|(with_reducible refine Kd.C_drewN ?_ _)|(with_reducible refine Kd.C_drew ?_)));(case side2=>exact(Kd.R_reads' HO_4.out).2.1);rintro e w' ⟨rfl,⟨nd,rfl⟩⟩;(try first|exact⟨rfl,_,World.drewN_drewN _ _ _⟩|exact⟨rfl,_,Eq.trans (World.drewN_drewN _ _ _) (congrArg (World.drewN _) (Nat.add_assoc _ _ _))⟩))))
           go_roundg k2
           case measure=>have:=HJ4.out;have:=HK2.out;omega
           case rel=>exact⟨(wrap64 (x6_2+1)),(by first|rfl|(simp;done)|(simp[*];done)),H',⟨by have:=HJ4.out;have:=HK2.out;omega⟩,⟨by exact rU HO_3.out⟩,⟨by exact rU HO_4.out⟩,⟨by exact rU HO_5.out⟩,⟨by exact bU HB.out⟩⟩
         ·rw[if_neg c27]at H
          exact absurd H (by simp)
        ·rw[if_neg c26]at H
         exact absurd H (by simp)
       ·rw[if_neg c25]at H
        have c25b0:decide (x6_2<(t101.length:Int))=false:=decide_eq_false c25;clear c25;by_cases c34:0<(t104.length:Int)
        ·rw[if_pos c34]at H
         have c34b0:decide (0<(t104.length:Int))=true:=decide_eq_true c34;have c34b1:decide (0<t104.length)=true:=decide_eq_true (by omega)
         clear c34;obtain rfl:=Option.some.inj H;obtain⟨Ao35,co35,eo35⟩:=Kd.R_slice HO_4.out;subst eo35;have p117:0≤(0:Int):=(by omega)
         have q117:0<(t104.length:Int):=of_decide_eq_true (by assumption)
         obtain⟨ad117,e117,hx117_0⟩:=Kd.at_int (Kd.R_reads' HO_4.out).2.2 0 p117 q117;cases e117
         have qi117:(0<t104.length)=True:=eq_true (by omega)
         (try rw[show((0:Int)).toNat=0 from rfl]at hx117_0)
         (try rw[Addr.add_zero']at hx117_0)
         replace p117:=eq_true p117;replace q117:=eq_true q117;go_wp2
         repeat(go_quiet (fail);try go_wp2)
         go_ret
         exact⟨by first|rfl|(simp[errW_none,errW_some]<;>rfl)|(simp[*,errW_none,errW_some]<;>rfl),by exact bU HB.out⟩
        ·rw[if_neg c34]at H
         exact absurd H (by simp)
def laws_FnFullReach.Pure:Prop:= ∀ (l0:List Int),l0.length≤maxLen→l0.length*1≤140737488351232→(∀x∈l0,(Lit.int .u8 x).wf=true)→ ∃k,laws_FnFullReach.f k l0=some true
theorem laws_FnFullReach.walk (P:laws_FnFullReach.Pure) (a0:Option Addr) (len0 cap0:Nat) (z0:List Int) (w:World) (w0:(a0=none∧len0=0∧cap0=0∧z0=[])∨ ∃x,a0=some x∧len0≤cap0∧cap0≤maxLen∧z0.length=cap0∧(∀i,i<z0.length→w.cell? (x.add i)=some (.int .u8 (z0.getD i 0)))∧ ∀n∈z0,(Lit.int .u8 n).wf=true) (y0:len0*1≤140737488351232):
  Calls Try.prog 21 #[.slice a0 len0 cap0] w fun e w'=>e= .returned (.bool true)∧Below w.heap.size w w':=by
 obtain⟨l0,rfl,hr0,hm0,hw0,hc0⟩:=ReadsInt.ofRowC w0;obtain⟨k,h⟩:=P l0 hm0 y0 hw0;refine(laws_FnFullReach.calls k _ _ l0 true w (Kd.C_of_reads (d:=(0:Int)) (h1:=fun _=>rfl) hr0) hc0 h).mono ?_
 rintro e w' ⟨rfl,hd⟩
 exact⟨rfl,hd⟩
end Go.Proofs.Ytmklpbmlgjkbiaa.PJI
end
section
namespace Go.Proofs.Ytmklpbmlgjkbiaa.Pure
open Go.RowKit Go.Proofs.Ytmklpbmlgjkbiaa.PJI Go.Proofs.Ytmklpbmlgjkbiaa.PS Go.Proofs.YtmklpbmlgjkbiaaW.PrintWords Go.Proofs.YtmklpbmlgjkbiaaW.PrintLast
theorem fr_loop {l:List S29} (hc:codeB l=true) (d:Nat): ∀i,l.length-i=d→i≤l.length→Ev (fun k=>laws_FnFullReach.l0 k l (reachL l) (fullL l) (i:Int)) true:=by
  have hl:=full_len hc;obtain⟨h1,h2⟩:=code_len hc;have hrl:=reach_len l l.length;have hf:0≤at_ (fullL l) 0∧at_ (fullL l) 0≤1:=full_first (wayW_good hc) (n:=l.length) (by omega)
  induction d with
  |zero=>
    intro i hd hi;obtain⟨t,ht⟩:=reach_head l hf.1 (l.length-1);have ht:reachL l=0::t:=by unfold reachL;rw[←ht];congr 1;omega
    refine Ev.step (f:=fun k=>some true) (fun k=> ?_) (Ev.now _)
    simp only[laws_FnFullReach.l0]
    rw[if_neg (by omega),ht,if_pos (by simp)]
    rfl
  |succ d ih=>
    intro i hd hi;have ih1:=ih (i+1) (by omega) (by omega)
    have hw:wrap64 ((i:Int)+1)=((i+1:Nat):Int):=by rw[w64 (by omega) (by omega)];rfl
    have e:rd (fullL l) (i:Int)=at_ (fullL l) i:=rfl;refine Ev.step (f:=fun k=>(laws_lvAmong.f k (reachL l) i).bind fun t119=>(if((decide (at_ (fullL l) (i:Int)≥0)) !=t119)=true then(some false)else(laws_FnFullReach.l0 k l (reachL l) (fullL l) ((i+1:Nat):Int)))) (fun k=> ?_) ?_
    · simp only[laws_FnFullReach.l0]
      rw[if_pos (by omega),if_pos (by omega),if_pos (by omega),e,hw]
    · refine Ev.bind (lvAmong_ev _ _ (by unfold reachL;omega)) ?_
      have:decide ((i:Int)∈reachL l)=decide (at_ (fullL l) (i:Int)≥0):=decide_eq_decide.2 (mem_reach (by omega))
      rw[this];simp only[bne_self_eq_false,Bool.false_eq_true,if_false]
      exact ih1
theorem FnFullReach:laws_FnFullReach.Pure:=by
  intro l0 hm hr hw;refine Ev.rounds ?_
  unfold laws_FnFullReach.f;by_cases hl:(l0.length:Int)>1048576
  · simp only[if_pos hl];exact Ev.now _
  simp only[if_neg hl]
  obtain⟨c,hc,hcl⟩:=drawReach_ev hw;refine Ev.bind hc ?_
  have hrl:=reach_len c c.length;unfold reachV.f;simp only[Option.bind_some]
  by_cases hk:codeB c=true
  · have h1:=code_len hk
    simp only[if_pos hk]
    refine Ev.bind (lvInts_same _ (by unfold reachL;omega)) ?_
    simp only[if_true]
    refine Ev.step (fun k=> ?_) (fr_loop hk c.length 0 (by omega) (by omega))
    have hf:0≤at_ (fullL c) 0∧at_ (fullL c) 0≤1:=full_first (wayW_good hk) (n:=c.length) (by omega)
    obtain⟨t,ht⟩:=reach_head c hf.1 (c.length-1);have ht:reachL c=0::t:=by unfold reachL;rw[←ht];congr 1;omega
    have e0:(((reachL c).length:Int)==0)=false:=beq_eq_false_iff_ne.2 (by rw[ht];simp;omega)
    simp only[laws_FnFullReach.j0,e0,codeFullV.f,if_pos hk,Option.bind_some]
    rw[if_neg (by decide)];rfl
  · simp only[if_neg hk]
    refine Ev.bind (lvInts_same _ (by simp)) ?_
    simp only[if_true]
    refine Ev.step (f:=fun k=>(laws_lvInts.f k [] []).bind fun t113=>some t113) (fun k=> ?_) ?_
    · simp only[laws_FnFullReach.j0,reachV.f,if_neg hk,Option.bind_some]
      rw[if_pos (by simp)]
    · exact Ev.bind (lvInts_same _ (by simp)) (Ev.now _)
end Go.Proofs.Ytmklpbmlgjkbiaa.Pure
end
