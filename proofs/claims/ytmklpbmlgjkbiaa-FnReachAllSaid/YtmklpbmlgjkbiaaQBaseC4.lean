/- What the rows of BaseC rest on, part 5. -/

import Derived.Test.YtmklpbmlgjkbiaaQBaseC3
set_option linter.unusedVariables false
set_option linter.unusedSimpArgs false
set_option maxHeartbeats 8000000
set_option maxRecDepth 100000
section
namespace Go.Proofs.Ytmklpbmlgjkbiaa.PO
open Go.RowKit Go.Proofs.YtmklpbmlgjkbiaaW.PrintWords Go.Proofs.YtmklpbmlgjkbiaaW.PrintLast Go.Proofs.YtmklpbmlgjkbiaaW.PrintMore Go.Proofs.Ytmklpbmlgjkbiaa.PS
attribute [local go_sem] max2_int min2_int max_two min_two max_three min_three max_four min_four   -- for this text's walks alone
def spec_ValText.f (k:Nat) (a0_0:Int) (a0_1:Int):Option (ByteArray):=(spec_ValOk.f a0_0 a0_1).bind fun t114=>(if t114=true then(if a0_0=0 then(some (⟨#[110,111,110,101]⟩:ByteArray))else((some (([(⟨#[]⟩:ByteArray),(⟨#[110]⟩:ByteArray),(⟨#[97]⟩:ByteArray),(⟨#[114]⟩:ByteArray)]:List ByteArray):List ByteArray)).bind fun y115=>(if 0≤a0_0 then(if a0_0<(y115.length:Int)then((spec_l6Dec.f k a0_1).bind fun t119=>(if(rdOf ByteArray.empty y115 a0_0).size+t119.size≤9223372036854775807 then(some ((rdOf ByteArray.empty y115 a0_0)++t119))else(none)))else(none))else(none))))else(some (⟨#[]⟩:ByteArray)))
def spec_ValText.T5:Bool×List (List Nat×List Nat):=(true,[([],[]),([],[]),([1],[1]),([0,2],[0,2]),([3],[3]),([],[]),([5],[5]),([6],[6]),([4,7],[4,7]),([8,7,0,1,2,3,4,5,6,7,8],[8])])
def spec_ValText.B5:List Nat:=[0,0,2,7,15,0,32,96,255,511]
theorem spec_ValText.tab5:rtab .any (opsOf Try.f124 5)=spec_ValText.T5:=by kernel_rfl
theorem spec_ValText.bits5:waitsOk spec_ValText.T5.2 spec_ValText.B5=true:=by kernel_rfl
theorem spec_ValText.calls (k:Nat) (a0_0:Int) (a0_1:Int) (r:ByteArray) (w:World) (h:spec_ValText.f k a0_0 a0_1=some r):
  Calls Try.prog 124 #[.agg #[.int .i64 a0_0,.int .i64 a0_1]] w fun e w'=>e= .returned (.string r)∧Below w.heap.size w w':=by
 have hu27:=Try.underlying27;have HB:=aS (Below.refl w.heap.size w);have H:((spec_ValOk.f a0_0 a0_1).bind fun t114=>(if t114=true then(if a0_0=0 then(some (⟨#[110,111,110,101]⟩:ByteArray))else((some (([(⟨#[]⟩:ByteArray),(⟨#[110]⟩:ByteArray),(⟨#[97]⟩:ByteArray),(⟨#[114]⟩:ByteArray)]:List ByteArray):List ByteArray)).bind fun y115=>(if 0≤a0_0 then(if a0_0<(y115.length:Int)then((spec_l6Dec.f k a0_1).bind fun t119=>(if(rdOf ByteArray.empty y115 a0_0).size+t119.size≤9223372036854775807 then(some ((rdOf ByteArray.empty y115 a0_0)++t119))else(none)))else(none))else(none))))else(some (⟨#[]⟩:ByteArray))))=some r:=h
 clear h;replace H:=Option.bind_eq_some_iff.mp H;obtain⟨t114,A20,H⟩:=H;replace H:(if t114=true then(if a0_0=0 then(some (⟨#[110,111,110,101]⟩:ByteArray))else((some (([(⟨#[]⟩:ByteArray),(⟨#[110]⟩:ByteArray),(⟨#[97]⟩:ByteArray),(⟨#[114]⟩:ByteArray)]:List ByteArray):List ByteArray)).bind fun y115=>(if 0≤a0_0 then(if a0_0<(y115.length:Int)then((spec_l6Dec.f k a0_1).bind fun t119=>(if(rdOf ByteArray.empty y115 a0_0).size+t119.size≤9223372036854775807 then(some ((rdOf ByteArray.empty y115 a0_0)++t119))else(none)))else(none))else(none))))else(some (⟨#[]⟩:ByteArray)))=some r:=H
 have A2:=aS A20;clear A20;by_cases c3:t114=true
 ·subst c3
  have H1:(if a0_0=0 then(some (⟨#[110,111,110,101]⟩:ByteArray))else((some (([(⟨#[]⟩:ByteArray),(⟨#[110]⟩:ByteArray),(⟨#[97]⟩:ByteArray),(⟨#[114]⟩:ByteArray)]:List ByteArray):List ByteArray)).bind fun y115=>(if 0≤a0_0 then(if a0_0<(y115.length:Int)then((spec_l6Dec.f k a0_1).bind fun t119=>(if(rdOf ByteArray.empty y115 a0_0).size+t119.size≤9223372036854775807 then(some ((rdOf ByteArray.empty y115 a0_0)++t119))else(none)))else(none))else(none))))=some r:=by rw[if_pos rfl]at H;exact H
  clear H;have H:=H1;clear H1;by_cases c4:a0_0=0
  ·rw[if_pos c4]at H
   have c4b0:(a0_0==0)=true:=beq_iff_eq.mpr c4;have c4b1:(a0_0 !=0)=false:=bne_eq_false_iff_eq.mpr c4;clear c4;obtain rfl:=Option.some.inj H;go_enter Try.func124,Try.ntmps124
   go_wp2_with (first|((with_reducible refine gate_dst (N:=1) rfl ?_);refine box_event ?hg (N:=1) ?hd (cs:= #[.int .i64 a0_0,.int .i64 a0_1]) (t:=27) ?hr ?_;(case hd=>rfl);(case hg=>rfl);(case hr=>go_simp<;>rfl);intro gb113 hg w5 hbox hb;have n0_:=aS (below_step (by exact bU HB.out) hb);have n1_:=aS (hbox);have n2_:=aS ((by rw[hg];exact(below_size (by exact bU HB.out)):w.heap.size≤gb113));have n3_:=aS ((by rw[hg];exact(below_size (by exact bU HB.out)):w.heap.size≤gb113));clear HB;have HB:=n0_;have BK113:=n1_;have GW113:=n2_;have GE113:=n3_;clear n0_ n1_ n2_ n3_;clear hb hbox hg;have hcz6_0:w5.cell? ⟨gb113,0,none⟩=some (.int .i64 a0_0):=(blk_cell BK113.out 0).trans rfl;have hcz6_1:w5.cell? ⟨gb113,1,none⟩=some (.int .i64 a0_1):=(blk_cell BK113.out 1).trans rfl;have hfz6_0:=blk_frozen BK113.out 0;have hfz6_1:=blk_frozen BK113.out 1)|((with_reducible refine gate_callee (f:=58) rfl ?_);refine goesL_ (some 4) rfl rfl Try.func58 (by kernel_rfl) rfl #[.agg #[.int .i64 a0_0,.int .i64 a0_1]] rfl (by(try simp only[List.map_toArray,List.map_cons,List.map_nil])<;>rfl) ?_;(with_reducible refine(spec_ValOk.calls a0_0 a0_1 true _ A2.out).mono ?_);rintro e w7 ⟨rfl,hb⟩;refine⟨_,rfl,?_⟩;replace BK113:=aS (blk_below (g:=gb113) (o:=.cells #[.int .i64 a0_0,.int .i64 a0_1] 27 (0,0)) (by exact blkU BK113.out) hb);replace HB:=aS (below_step (by repeat(with_reducible first|exact HB.out|apply bA|apply bN|apply b1|refine below_set ?_ GE113.out)) hb);(try clear hb);have hcz8_0:w7.cell? ⟨gb113,0,none⟩=some (.int .i64 a0_0):=(blk_cell BK113.out 0).trans rfl;have hcz8_1:w7.cell? ⟨gb113,1,none⟩=some (.int .i64 a0_1):=(blk_cell BK113.out 1).trans rfl;have hfz8_0:=blk_frozen BK113.out 0;have hfz8_1:=blk_frozen BK113.out 1))
   go_ret
   exact⟨by first|rfl|(simp[*]<;>rfl),by repeat(with_reducible first|exact HB.out|apply bA|apply bN|apply b1|refine below_set ?_ GE113.out)⟩
  ·rw[if_neg c4]at H
   have c4b0:(a0_0==0)=false:=beq_eq_false_iff_ne.mpr c4;have c4b1:(a0_0 !=0)=true:=bne_iff_ne.mpr c4;obtain⟨y115,hy115⟩: ∃y_:List ByteArray,y_=(([(⟨#[]⟩:ByteArray),(⟨#[110]⟩:ByteArray),(⟨#[97]⟩:ByteArray),(⟨#[114]⟩:ByteArray)]:List ByteArray)):=⟨_,rfl⟩;replace H:(if 0≤a0_0 then(if a0_0<(y115.length:Int)then((spec_l6Dec.f k a0_1).bind fun t119=>(if(rdOf ByteArray.empty y115 a0_0).size+t119.size≤9223372036854775807 then(some ((rdOf ByteArray.empty y115 a0_0)++t119))else(none)))else(none))else(none))=some r:=by first|(rw[hy115];with_reducible exact H)|(have H2_:=(Option.bind_some _ _).symm.trans H;rw[hy115];with_reducible exact H2_)|(have H2_:=(Option.bind_some _ _).symm.trans H;with_reducible exact H2_)|with_reducible exact H|(rw[hy115];exact H)|exact H
   have Ny115:=aS hy115;clear hy115;by_cases c9:0≤a0_0
   ·rw[if_pos c9]at H
    have c9b0:decide (0≤a0_0)=true:=decide_eq_true c9;clear c9;by_cases c10:a0_0<(y115.length:Int)
    ·rw[if_pos c10]at H
     have c10b0:decide (a0_0<(y115.length:Int))=true:=decide_eq_true c10;clear c10;replace H:=Option.bind_eq_some_iff.mp H;obtain⟨t119,A110,H⟩:=H;replace H:(if(rdOf ByteArray.empty y115 a0_0).size+t119.size≤9223372036854775807 then(some ((rdOf ByteArray.empty y115 a0_0)++t119))else(none))=some r:=H
     have A11:=aS A110;clear A110;by_cases c12:(rdOf ByteArray.empty y115 a0_0).size+t119.size≤9223372036854775807
     ·rw[if_pos c12]at H
      have c12b0:=eq_true c12;have c12b1:decide ((rdOf ByteArray.empty y115 a0_0).size+t119.size≤9223372036854775807)=true:=decide_eq_true c12;try have c12b2:(9223372036854775807<(rdOf ByteArray.empty y115 a0_0).size+t119.size)=False:=eq_false (Nat.not_lt.2 c12)
      obtain rfl:=Option.some.inj H;go_enter Try.func124,Try.ntmps124
      try go_wp2_with (first|((with_reducible refine gate_dst (N:=1) rfl ?_);refine box_event ?hg (N:=1) ?hd (cs:= #[.int .i64 a0_0,.int .i64 a0_1]) (t:=27) ?hr ?_;(case hd=>rfl);(case hg=>rfl);(case hr=>go_simp<;>rfl);intro gb113 hg w13 hbox hb;have n0_:=aS (below_step (by exact bU HB.out) hb);have n1_:=aS (hbox);have n2_:=aS ((by rw[hg];exact(below_size (by exact bU HB.out)):w.heap.size≤gb113));have n3_:=aS ((by rw[hg];exact(below_size (by exact bU HB.out)):w.heap.size≤gb113));clear HB;have HB:=n0_;have BK113:=n1_;have GW113:=n2_;have GE113:=n3_;clear n0_ n1_ n2_ n3_;clear hb hbox hg;have hcz14_0:w13.cell? ⟨gb113,0,none⟩=some (.int .i64 a0_0):=(blk_cell BK113.out 0).trans rfl;have hcz14_1:w13.cell? ⟨gb113,1,none⟩=some (.int .i64 a0_1):=(blk_cell BK113.out 1).trans rfl;have hfz14_0:=blk_frozen BK113.out 0;have hfz14_1:=blk_frozen BK113.out 1)|((with_reducible refine gate_callee (f:=58) rfl ?_);refine goesL_ (some 4) rfl rfl Try.func58 (by kernel_rfl) rfl #[.agg #[.int .i64 a0_0,.int .i64 a0_1]] rfl (by(try simp only[List.map_toArray,List.map_cons,List.map_nil])<;>rfl) ?_;(with_reducible refine(spec_ValOk.calls a0_0 a0_1 true _ A2.out).mono ?_);rintro e w15 ⟨rfl,hb⟩;refine⟨_,rfl,?_⟩;replace BK113:=aS (blk_below (g:=gb113) (o:=.cells #[.int .i64 a0_0,.int .i64 a0_1] 27 (0,0)) (by exact blkU BK113.out) hb);replace HB:=aS (below_step (by repeat(with_reducible first|exact HB.out|apply bA|apply bN|apply b1|refine below_set ?_ GE113.out)) hb);(try clear hb);have hcz16_0:w15.cell? ⟨gb113,0,none⟩=some (.int .i64 a0_0):=(blk_cell BK113.out 0).trans rfl;have hcz16_1:w15.cell? ⟨gb113,1,none⟩=some (.int .i64 a0_1):=(blk_cell BK113.out 1).trans rfl;have hfz16_0:=blk_frozen BK113.out 0;have hfz16_1:=blk_frozen BK113.out 1))
      have pi118:(0≤(a0_0:Int))=True:=eq_true (of_decide_eq_true (by assumption))
      have qi118:(a0_0<(y115.length:Int))=True:=eq_true (of_decide_eq_true (by assumption))
      have n0_:=aS (blk_drew BK113.out);have n1_:=aS (below_drew1 HB.out);clear BK113 HB;have BK113:=n0_;have HB:=n1_;clear n0_ n1_;refine start_ (n:=10) (S:=fun w'=>True) (ds:=[]) #[false,false,false,false,false,false,false,false,false,false] (by kernel_rfl) rfl rfl trivial (fun hHeld=> ?_);refine with_tabW spec_ValText.tab5 spec_ValText.bits5 (fun HT_ HW_=> ?_)
      generalize w15.drew=w17 at BK113 HB hHeld⊢
      refine pure_ (i:=1) (N:=some 10) (v:= ?_) (a':= ?_) #[false,true,false,false,false,false,false,false,false,false] rfl rfl (any_of HT_.out (by kernel_rfl)) (fun _ _ _ h=>h) (Or.inl ⟨by rfl,?_⟩) ?_ ?_
      rotate_left
      ·intro w'
       go_simp
       with_reducible rfl
      rotate_left
      ·simp only[Act.put,List.setIfInBounds_toArray,List.set_cons_zero,List.set_cons_succ,i64_w,i32_w]
       rfl
      refine pure_ (i:=5) (N:=some 14) (v:= ?_) (a':= ?_) #[false,true,false,false,false,true,false,false,false,false] rfl rfl (any_of HT_.out (by kernel_rfl)) (fun _ _ _ h=>h) (Or.inl ⟨by rfl,?_⟩) ?_ ?_
      rotate_left
      ·intro w'
       go_simp
       with_reducible rfl
      rotate_left
      ·simp only[Act.put,List.setIfInBounds_toArray,List.set_cons_zero,List.set_cons_succ,i64_w,i32_w]
       rfl
      refine inv_at [0,2,3,4,6,7,8,9] (fun a0_ b a w'=> ∃ (v116:Value) (adz_v116:Addr) (m3_:Value),a=putSel a0_ b [(0,9,v116),(2,11,.int .i64 a0_0),(3,12,m3_),(4,13,.string (rdOf ByteArray.empty y115 a0_0)),(6,15,.int .i64 a0_1),(7,16,.string t119),(8,17,.string ((rdOf ByteArray.empty y115 a0_0)++t119)),(9,2,.string ((rdOf ByteArray.empty y115 a0_0)++t119))]∧(w'.heap[gb113]?=some (.cells #[.int .i64 a0_0,.int .i64 a0_1] 27 (0,0)))∧(Below w.heap.size w w')∧(b 0=true→Kd.R Kd.string 9 w' w.heap.size (fun _=>True) v116 y115)∧(b 0=true→ ∃c_,(v116:Value)= .slice (some adz_v116) y115.length c_)∧(b 3=true→(m3_:Value)= .pointer (some (adz_v116.add (a0_0).toNat)))) HT_.out HW_.out (by kernel_rfl) (by kernel_rfl) ?_ ?_ ?_
      ·exact⟨.bool false,⟨0,0,none⟩,.bool false,by simp only[putSel,Bool.false_eq_true,if_false],BK113.out,HB.out,fun h_=>absurd h_ (by decide),fun h_=>absurd h_ (by decide),fun h_=>absurd h_ (by decide)⟩
      ·skip
       clear BK113 HB;refine steps_cons ?_ ?_
       ·rintro b a w' ⟨v116,adz_v116,m3_,ha,Q_BK113,Q_HB,Q_HO117,Q_HA_HO117,Q_X3_⟩ hb_ hon hoff
        refine⟨_,rfl,fun K hK=> ?_⟩
        replace ha:=aS ha;have BK113:=aS Q_BK113;have HB:=aS Q_HB;refine Kd.R_lit_step Kd.string _ 9 ?hg (N:=9) ?hd (xs:=([(⟨#[]⟩:ByteArray),(⟨#[110]⟩:ByteArray),(⟨#[97]⟩:ByteArray),(⟨#[114]⟩:ByteArray)]:List ByteArray)) (inner:=[.string (⟨#[]⟩:ByteArray),.string (⟨#[110]⟩:ByteArray),.string (⟨#[97]⟩:ByteArray),.string (⟨#[114]⟩:ByteArray)]) (ok:=fun _=>True) (okp:=fun _=>True) ?hr ?hp (fun _ hk=>hk) trivial (Below.refl _ _) (Nat.le_refl _) (by simp) ?_;(case hd=>rfl);(case hg=>rfl);(case hr=>go_simp<;>rfl);(case hp=>exact(Reps.one (show Kd.M Kd.string _ _ _ (⟨#[]⟩:ByteArray) [.string (⟨#[]⟩:ByteArray)]from rfl) (Reps.one (show Kd.M Kd.string _ _ _ (⟨#[110]⟩:ByteArray) [.string (⟨#[110]⟩:ByteArray)]from rfl) (Reps.one (show Kd.M Kd.string _ _ _ (⟨#[97]⟩:ByteArray) [.string (⟨#[97]⟩:ByteArray)]from rfl) (Reps.one (show Kd.M Kd.string _ _ _ (⟨#[114]⟩:ByteArray) [.string (⟨#[114]⟩:ByteArray)]from rfl) (Reps.none _ _))))))
        intro v116 w18 ho19 hb hg_ hnew_;clear hg_ hnew_;(first|rw[←Ny115.out]at ho19|(simp only[Int.reduceToNat]at ho19;rw[←Ny115.out]at ho19))
        have n0_:=aS (Kd.R_lower ho19 (below_size (by repeat(with_reducible first|exact HB.out|apply bA|apply bN|apply b1|refine below_set ?_ GE113.out))))
        have n1_:=aS (blk_below (g:=gb113) (o:=.cells #[.int .i64 a0_0,.int .i64 a0_1] 27 (0,0)) (by exact blkU BK113.out) hb)
        have n2_:=aS (below_step (by repeat(with_reducible first|exact HB.out|apply bA|apply bN|apply b1|refine below_set ?_ GE113.out)) hb)
        clear BK113 HB;have HO117:=n0_;have BK113:=n1_;have HB:=n2_;clear n0_ n1_ n2_ hb ho19;obtain⟨Ao20,co20,eo20⟩:=Kd.R_slice HO117.out;subst eo20;obtain⟨ado20,fo20,_⟩:=Kd.at_string (Kd.R_reads' HO117.out).2.2 0 (by decide) (by rw[Ny115.out];simp)
        cases fo20
        refine hK.out _ _ ⟨.slice (some ado20) y115.length co20,ado20,m3_,(by rw[ha.out];exact putSel_upk 0 hb_ rfl rfl rfl),(by exact blkU BK113.out),(by repeat(with_reducible first|exact HB.out|apply bA|apply bN|apply b1|refine below_set ?_ GE113.out)),fun _=>(by exact rU HO117.out),fun _=>⟨_,rfl⟩,fun h0_=>absurd ((hoff 3 (by kernel_rfl)).symm.trans h0_) (by decide)⟩
       refine steps_cons ?_ ?_
       ·rintro b a w' ⟨v116,adz_v116,m3_,ha,Q_BK113,Q_HB,Q_HO117,Q_HA_HO117,Q_X3_⟩ hb_ hon hoff
        refine⟨_,rfl,fun K hK=> ?_⟩
        have e10:a.tmps[10]?=some (.pointer (some ⟨gb113,0,none⟩)):=by rw[ha];exact(putSel_off rfl).trans rfl
        replace ha:=aS ha;have BK113:=aS Q_BK113;have HB:=aS Q_HB;have hc0_:w'.cell? ⟨gb113,0,none⟩=some (.int .i64 a0_0):=(blk_cell BK113.out 0).trans rfl;have hc1_:w'.cell? ⟨gb113,1,none⟩=some (.int .i64 a0_1):=(blk_cell BK113.out 1).trans rfl;refine value_ (w1:=w') (v:=.int .i64 a0_0) (by rfl) rfl ?_ ?_
        ·go_simp
         (try simp only[i64_w])
         try rfl
        refine hK.out _ _ ⟨v116,adz_v116,m3_,(by rw[ha.out];exact putSel_upk 1 hb_ rfl rfl rfl),Q_BK113,Q_HB,Q_HO117,Q_HA_HO117,fun h0_=>absurd ((hoff 3 (by kernel_rfl)).symm.trans h0_) (by decide)⟩
       refine steps_cons ?_ ?_
       ·rintro b a w' ⟨v116,adz_v116,m3_,ha,Q_BK113,Q_HB,Q_HO117,Q_HA_HO117,Q_X3_⟩ hb_ hon hoff
        refine⟨_,rfl,fun K hK=> ?_⟩
        have e9:a.tmps[9]?=some (v116):=by rw[ha];exact putSel_on (e:=(0,9,v116)) 0 rfl rfl (hon 0 (by kernel_rfl)) rfl
        have e11:a.tmps[11]?=some (.int .i64 a0_0):=by rw[ha];exact putSel_on (e:=(2,11,.int .i64 a0_0)) 1 rfl rfl (hon 2 (by kernel_rfl)) rfl
        replace ha:=aS ha;have BK113:=aS Q_BK113;have HB:=aS Q_HB;have HO117:=aS (Q_HO117 (hon 0 (by kernel_rfl)))
        have HA_HO117:=aS (Q_HA_HO117 (hon 0 (by kernel_rfl)))
        obtain⟨c_,hv_⟩:=HA_HO117.out;rw[hv_]at e9
        refine value_ (w1:=w') (v:=.pointer (some (adz_v116.add (a0_0).toNat))) (by rfl) rfl ?_ ?_
        ·go_simp
         (try simp only[i64_w])
         try rfl
        refine hK.out _ _ ⟨v116,adz_v116,(.pointer (some (adz_v116.add (a0_0).toNat))),(by rw[ha.out];exact putSel_upk 2 hb_ rfl rfl rfl),Q_BK113,Q_HB,Q_HO117,Q_HA_HO117,fun _=>rfl⟩
       refine steps_cons ?_ ?_
       ·rintro b a w' ⟨v116,adz_v116,m3_,ha,Q_BK113,Q_HB,Q_HO117,Q_HA_HO117,Q_X3_⟩ hb_ hon hoff
        refine⟨_,rfl,fun K hK=> ?_⟩
        have e12:a.tmps[12]?=some (m3_):=by rw[ha];exact putSel_on (e:=(3,12,m3_)) 2 rfl rfl (hon 3 (by kernel_rfl)) rfl
        rw[Q_X3_ (hon 3 (by kernel_rfl))]at e12
        replace ha:=aS ha;have BK113:=aS Q_BK113;have HB:=aS Q_HB;have HO117:=aS (Q_HO117 (hon 0 (by kernel_rfl)))
        have HA_HO117:=aS (Q_HA_HO117 (hon 0 (by kernel_rfl)))
        obtain⟨c_,hv_⟩:=HA_HO117.out;have hF_:=HO117.out;rw[hv_]at hF_
        obtain⟨ad_,ea_,hx_⟩:=Kd.at_string (Kd.R_reads' hF_).2.2 a0_0 (of_eq_true pi118) (of_eq_true qi118);cases ea_
        refine value_ (w1:=w') (v:=.string (rdOf ByteArray.empty y115 a0_0)) (by rfl) rfl ?_ ?_
        ·go_simp
         (try simp only[i64_w])
         try rfl
        refine hK.out _ _ ⟨v116,adz_v116,m3_,(by rw[ha.out];exact putSel_upk 3 hb_ rfl rfl rfl),Q_BK113,Q_HB,Q_HO117,Q_HA_HO117,Q_X3_⟩
       refine steps_cons ?_ ?_
       ·rintro b a w' ⟨v116,adz_v116,m3_,ha,Q_BK113,Q_HB,Q_HO117,Q_HA_HO117,Q_X3_⟩ hb_ hon hoff
        refine⟨_,rfl,fun K hK=> ?_⟩
        have e14:a.tmps[14]?=some (.pointer (some ⟨gb113,1,none⟩)):=by rw[ha];exact(putSel_off rfl).trans rfl
        replace ha:=aS ha;have BK113:=aS Q_BK113;have HB:=aS Q_HB;have hc0_:w'.cell? ⟨gb113,0,none⟩=some (.int .i64 a0_0):=(blk_cell BK113.out 0).trans rfl;have hc1_:w'.cell? ⟨gb113,1,none⟩=some (.int .i64 a0_1):=(blk_cell BK113.out 1).trans rfl;refine value_ (w1:=w') (v:=.int .i64 a0_1) (by rfl) rfl ?_ ?_
        ·go_simp
         (try simp only[i64_w])
         try rfl
        refine hK.out _ _ ⟨v116,adz_v116,m3_,(by rw[ha.out];exact putSel_upk 4 hb_ rfl rfl rfl),Q_BK113,Q_HB,Q_HO117,Q_HA_HO117,Q_X3_⟩
       refine steps_cons ?_ ?_
       ·rintro b a w' ⟨v116,adz_v116,m3_,ha,Q_BK113,Q_HB,Q_HO117,Q_HA_HO117,Q_X3_⟩ hb_ hon hoff
        refine⟨_,rfl,fun K hK=> ?_⟩
        have e15:a.tmps[15]?=some (.int .i64 a0_1):=by rw[ha];exact putSel_on (e:=(6,15,.int .i64 a0_1)) 4 rfl rfl (hon 6 (by kernel_rfl)) rfl
        replace ha:=aS ha;have BK113:=aS Q_BK113;have HB:=aS Q_HB;refine goes_ Try.func125 (by kernel_rfl) rfl #[.int .i64 a0_1] (by rfl) rfl rfl (by first|(simp only[List.map_toArray,List.map_cons,List.map_nil,Act.eval,Array.getD_eq_getD_getElem?,Option.getD_some,e15];done)|(simp only[List.map_toArray,List.map_cons,List.map_nil,Act.eval,Array.getD_eq_getD_getElem?,Option.getD_some,e15];rfl)) ?_
        with_reducible refine(spec_l6Dec.calls k a0_1 t119 _ A11.out).mono ?_
        rintro e w18 ⟨rfl,hb⟩
        refine⟨_,rfl,?_⟩
        have n0_:=aS (blk_below (g:=gb113) (o:=.cells #[.int .i64 a0_0,.int .i64 a0_1] 27 (0,0)) (by exact blkU BK113.out) hb)
        have n1_:=aS (below_step (by repeat(with_reducible first|exact HB.out|apply bA|apply bN|apply b1|refine below_set ?_ GE113.out)) hb)
        have z_HO117:=fun (h0_:b 0=true)=>(show Kd.R Kd.string 9 w18 w.heap.size (fun _=>True) v116 y115 from by first|exact(Kd.R_below (by(with_reducible repeat(first|apply rA|apply rN|apply rD));exact(Q_HO117 h0_)) hb)|exact Kd.R_mono (Kd.R_below (by(with_reducible repeat(first|apply rA|apply rN|apply rD));exact(Q_HO117 h0_)) hb) (fun _ h_=>by first|trivial|exact h_|exact h_.1))
        clear BK113 HB;have BK113:=n0_;have HB:=n1_;clear n0_ n1_;(try clear hb)
        (try clear hb2)
        (try clear hk)
        (try clear hi)
        refine hK.out _ _ ⟨v116,adz_v116,m3_,(by rw[ha.out];exact putSel_upk 5 hb_ rfl rfl rfl),(by exact blkU BK113.out),(by repeat(with_reducible first|exact HB.out|apply bA|apply bN|apply b1|refine below_set ?_ GE113.out)),z_HO117,Q_HA_HO117,Q_X3_⟩
       refine steps_cons ?_ ?_
       ·rintro b a w' ⟨v116,adz_v116,m3_,ha,Q_BK113,Q_HB,Q_HO117,Q_HA_HO117,Q_X3_⟩ hb_ hon hoff
        refine⟨_,rfl,fun K hK=> ?_⟩
        have e13:a.tmps[13]?=some (.string (rdOf ByteArray.empty y115 a0_0)):=by rw[ha];exact putSel_on (e:=(4,13,.string (rdOf ByteArray.empty y115 a0_0))) 3 rfl rfl (hon 4 (by kernel_rfl)) rfl
        have e16:a.tmps[16]?=some (.string t119):=by rw[ha];exact putSel_on (e:=(7,16,.string t119)) 5 rfl rfl (hon 7 (by kernel_rfl)) rfl
        replace ha:=aS ha;have BK113:=aS Q_BK113;have HB:=aS Q_HB;have HO117:=aS (Q_HO117 (hon 0 (by kernel_rfl)))
        have HA_HO117:=aS (Q_HA_HO117 (hon 0 (by kernel_rfl)))
        refine value_ (w1:=w') (v:=.string ((rdOf ByteArray.empty y115 a0_0)++t119)) (by rfl) rfl ?_ ?_
        ·go_simp
         (try simp only[i64_w])
         try rfl
        refine hK.out _ _ ⟨v116,adz_v116,m3_,(by rw[ha.out];exact putSel_upk 6 hb_ rfl rfl rfl),Q_BK113,Q_HB,Q_HO117,Q_HA_HO117,Q_X3_⟩
       refine steps_cons ?_ ?_
       ·rintro b a w' ⟨v116,adz_v116,m3_,ha,Q_BK113,Q_HB,Q_HO117,Q_HA_HO117,Q_X3_⟩ hb_ hon hoff
        refine⟨_,rfl,fun K hK=> ?_⟩
        have e17:a.tmps[17]?=some (.string ((rdOf ByteArray.empty y115 a0_0)++t119)):=by rw[ha];exact putSel_on (e:=(8,17,.string ((rdOf ByteArray.empty y115 a0_0)++t119))) 6 rfl rfl (hon 8 (by kernel_rfl)) rfl
        replace ha:=aS ha;have BK113:=aS Q_BK113;have HB:=aS Q_HB;have HO117:=aS (Q_HO117 (hon 0 (by kernel_rfl)))
        have HA_HO117:=aS (Q_HA_HO117 (hon 0 (by kernel_rfl)))
        refine value_ (w1:=w') (v:=.string ((rdOf ByteArray.empty y115 a0_0)++t119)) (by rfl) rfl ?_ ?_
        ·go_simp
         (try simp only[i64_w])
         try rfl
        refine hK.out _ _ ⟨v116,adz_v116,m3_,(by rw[ha.out];exact putSel_upk 7 hb_ rfl rfl rfl),Q_BK113,Q_HB,Q_HO117,Q_HA_HO117,Q_X3_⟩
       exact steps_nil
      rintro b a w22 hall ⟨v116,adz_v116,m3_,ha,Q_BK113,Q_HB,Q_HO117,Q_HA_HO117,Q_X3_⟩
      clear BK113 HB;have hb0_:=hall 0 (by kernel_rfl)
      have hb2_:=hall 2 (by kernel_rfl)
      have hb3_:=hall 3 (by kernel_rfl)
      have hb4_:=hall 4 (by kernel_rfl)
      have hb6_:=hall 6 (by kernel_rfl)
      have hb7_:=hall 7 (by kernel_rfl)
      have hb8_:=hall 8 (by kernel_rfl)
      have hb9_:=hall 9 (by kernel_rfl)
      subst ha;obtain rfl:=Q_X3_ hb3_;simp only[putSel,hb0_,hb2_,hb3_,hb4_,hb6_,hb7_,hb8_,hb9_,if_true,Act.put,List.setIfInBounds_toArray,List.set_cons_zero,List.set_cons_succ]
      have BK113:=aS Q_BK113;clear Q_BK113;have HB:=aS Q_HB;clear Q_HB;have HO117:=aS (Q_HO117 hb0_);clear Q_HO117;have HA_HO117:=aS (Q_HA_HO117 hb0_);clear Q_HA_HO117 hall hb0_ hb2_ hb3_ hb4_ hb6_ hb7_ hb8_ hb9_;obtain⟨co23,eo23⟩:=HA_HO117.out;clear HA_HO117;subst eo23;try go_wp2
      go_ret
      exact⟨by first|rfl|(simp[*]<;>rfl),by repeat(with_reducible first|exact HB.out|apply bA|apply bN|apply b1|refine below_set ?_ GE113.out)⟩
     ·rw[if_neg c12]at H
      exact absurd H (by simp)
    ·rw[if_neg c10]at H
     exact absurd H (by simp)
   ·rw[if_neg c9]at H
    exact absurd H (by simp)
 ·replace c3:=Bool.eq_false_iff.mpr c3
  subst c3;have H1:(some (⟨#[]⟩:ByteArray))=some r:=by rw[if_neg (show¬(false=true) by decide)]at H;exact H
  clear H;have H:=H1;clear H1;obtain rfl:=Option.some.inj H;go_enter Try.func124,Try.ntmps124
  go_wp2_with (first|((with_reducible refine gate_dst (N:=1) rfl ?_);refine box_event ?hg (N:=1) ?hd (cs:= #[.int .i64 a0_0,.int .i64 a0_1]) (t:=27) ?hr ?_;(case hd=>rfl);(case hg=>rfl);(case hr=>go_simp<;>rfl);intro gb113 hg w24 hbox hb;have n0_:=aS (below_step (by exact bU HB.out) hb);have n1_:=aS (hbox);have n2_:=aS ((by rw[hg];exact(below_size (by exact bU HB.out)):w.heap.size≤gb113));have n3_:=aS ((by rw[hg];exact(below_size (by exact bU HB.out)):w.heap.size≤gb113));clear HB;have HB:=n0_;have BK113:=n1_;have GW113:=n2_;have GE113:=n3_;clear n0_ n1_ n2_ n3_;clear hb hbox hg;have hcz25_0:w24.cell? ⟨gb113,0,none⟩=some (.int .i64 a0_0):=(blk_cell BK113.out 0).trans rfl;have hcz25_1:w24.cell? ⟨gb113,1,none⟩=some (.int .i64 a0_1):=(blk_cell BK113.out 1).trans rfl;have hfz25_0:=blk_frozen BK113.out 0;have hfz25_1:=blk_frozen BK113.out 1)|((with_reducible refine gate_callee (f:=58) rfl ?_);refine goesL_ (some 4) rfl rfl Try.func58 (by kernel_rfl) rfl #[.agg #[.int .i64 a0_0,.int .i64 a0_1]] rfl (by(try simp only[List.map_toArray,List.map_cons,List.map_nil])<;>rfl) ?_;(with_reducible refine(spec_ValOk.calls a0_0 a0_1 false _ A2.out).mono ?_);rintro e w26 ⟨rfl,hb⟩;refine⟨_,rfl,?_⟩;replace BK113:=aS (blk_below (g:=gb113) (o:=.cells #[.int .i64 a0_0,.int .i64 a0_1] 27 (0,0)) (by exact blkU BK113.out) hb);replace HB:=aS (below_step (by repeat(with_reducible first|exact HB.out|apply bA|apply bN|apply b1|refine below_set ?_ GE113.out)) hb);(try clear hb)))
  go_ret
  exact⟨by first|rfl|(simp[*]<;>rfl),by repeat(with_reducible first|exact HB.out|apply bA|apply bN|apply b1|refine below_set ?_ GE113.out)⟩
mutual
def spec_ValRead.j0:Nat→ByteArray→Bool→Int→Int→Option (Int×Int×Bool)
 |0,_,_,_,_=>none
 |k+1,x0,x5,x125000,x125001=>if x5=true then(if x125000=0 then(spec_ValRead.j1 k true x125000 x125001)else((spec_ValText.f k x125000 x125001).bind fun t125=>(spec_ValRead.j1 k (t125.toList !=x0.toList) x125000 x125001)))else(spec_ValRead.j1 k true x125000 x125001)
def spec_ValRead.j1:Nat→Bool→Int→Int→Option (Int×Int×Bool)
 |0,_,_,_=>none
 |k+1,x46,x125000,x125001=>if x46=true then(some (0,0,false))else(some (x125000,x125001,true))
end
def spec_ValRead.f (k:Nat) (a0:ByteArray):Option (Int×Int×Bool):=if a0.toList=([110,111,110,101]:List UInt8)then(some (0,0,true))else((spec_l6In.f (a0.size:Int) 2 4).bind fun t121=>(if t121=true then(if 1≤(a0.size:Int)then((spec_l1Dec.f k (a0.extract 1 a0.size)).bind fun bt122=>(if 0<(a0.size:Int)then(if(bt a0 0)=110 then(spec_ValRead.j0 k a0 bt122.2 1 bt122.1)else(if(bt a0 0)=97 then(spec_ValRead.j0 k a0 bt122.2 2 bt122.1)else(if(bt a0 0)=114 then(spec_ValRead.j0 k a0 bt122.2 3 bt122.1)else(spec_ValRead.j0 k a0 bt122.2 0 bt122.1))))else(none)))else(none))else(some (0,0,false))))
theorem spec_ValRead.calls (k:Nat) (a0:ByteArray) (r1:Int) (r2:Int) (r3:Bool) (w:World) (h:spec_ValRead.f k a0=some (r1,r2,r3)):
  Calls Try.prog 120 #[.string a0] w fun e w'=>e= .returned (.tuple #[.agg #[.int .i64 r1,.int .i64 r2],.bool r3])∧Below w.heap.size w w':=by
 have hu27:=Try.underlying27;have HB:=aS (Below.refl w.heap.size w);have H:(if a0.toList=([110,111,110,101]:List UInt8)then(some (0,0,true))else((spec_l6In.f (a0.size:Int) 2 4).bind fun t121=>(if t121=true then(if 1≤(a0.size:Int)then((spec_l1Dec.f k (a0.extract 1 a0.size)).bind fun bt122=>(if 0<(a0.size:Int)then(if(bt a0 0)=110 then(spec_ValRead.j0 k a0 bt122.2 1 bt122.1)else(if(bt a0 0)=97 then(spec_ValRead.j0 k a0 bt122.2 2 bt122.1)else(if(bt a0 0)=114 then(spec_ValRead.j0 k a0 bt122.2 3 bt122.1)else(spec_ValRead.j0 k a0 bt122.2 0 bt122.1))))else(none)))else(none))else(some (0,0,false)))))=some (r1,r2,r3):=h
 clear h;by_cases c2:a0.toList=([110,111,110,101]:List UInt8)
 ·rw[if_pos c2]at H
  have c2b0:(a0.toList==([110,111,110,101]:List UInt8))=true:=beq_iff_eq.mpr c2;have c2b1:(a0.toList !=([110,111,110,101]:List UInt8))=false:=bne_eq_false_iff_eq.mpr c2;clear c2;simp only[Option.some.injEq,Prod.mk.injEq]at H
  obtain⟨rfl,rfl,rfl⟩:=H;go_enter Try.func120,Try.ntmps120
  go_wp2_with (first|((with_reducible refine gate_dst (N:=2) rfl ?_);refine box_event ?hg (N:=2) ?hd (cs:= #[.int .i64 0,.int .i64 0]) (t:=27) ?hr ?_;(case hd=>rfl);(case hg=>rfl);(case hr=>go_simp<;>rfl);intro gb120 hg w3 hbox hb;have n0_:=aS (below_step (by exact bU HB.out) hb);have n1_:=aS (hbox);have n2_:=aS ((by rw[hg];exact(below_size (by exact bU HB.out)):w.heap.size≤gb120));have n3_:=aS ((by rw[hg];exact(below_size (by exact bU HB.out)):w.heap.size≤gb120));clear HB;have HB:=n0_;have BK120:=n1_;have GW120:=n2_;have GE120:=n3_;clear n0_ n1_ n2_ n3_;clear hb hbox hg;have hcz4_0:w3.cell? ⟨gb120,0,none⟩=some (.int .i64 0):=(blk_cell BK120.out 0).trans rfl;have hcz4_1:w3.cell? ⟨gb120,1,none⟩=some (.int .i64 0):=(blk_cell BK120.out 1).trans rfl;have hfz4_0:=blk_frozen BK120.out 0;have hfz4_1:=blk_frozen BK120.out 1))
  refine bodyPost_ret (results_ct rfl _ _ gb120 27 #[.int .i64 0,.int .i64 0] (0,0) _ rfl (by refine kU ?_;refine blk_put (cs:= #[.int .i64 0,.int .i64 0]) ?_ 1 _ rfl;refine kU ?_;refine blk_put (cs:= #[.int .i64 0,.int .i64 0]) ?_ 0 _ rfl;exact blkU BK120.out) Try.underlying27 rfl (by kernel_rfl)) rfl ?_
  exact⟨by first|rfl|(simp[*]<;>rfl),by repeat(with_reducible first|exact HB.out|apply bA|apply bN|apply b1|refine below_set ?_ GE120.out)⟩
 ·rw[if_neg c2]at H
  have c2b0:(a0.toList==([110,111,110,101]:List UInt8))=false:=beq_eq_false_iff_ne.mpr c2;have c2b1:(a0.toList !=([110,111,110,101]:List UInt8))=true:=bne_iff_ne.mpr c2;replace H:=Option.bind_eq_some_iff.mp H;obtain⟨t121,A50,H⟩:=H;replace H:(if t121=true then(if 1≤(a0.size:Int)then((spec_l1Dec.f k (a0.extract 1 a0.size)).bind fun bt122=>(if 0<(a0.size:Int)then(if(bt a0 0)=110 then(spec_ValRead.j0 k a0 bt122.2 1 bt122.1)else(if(bt a0 0)=97 then(spec_ValRead.j0 k a0 bt122.2 2 bt122.1)else(if(bt a0 0)=114 then(spec_ValRead.j0 k a0 bt122.2 3 bt122.1)else(spec_ValRead.j0 k a0 bt122.2 0 bt122.1))))else(none)))else(none))else(some (0,0,false)))=some (r1,r2,r3):=H
  have A5:=aS A50;clear A50;by_cases c6:t121=true
  ·subst c6
   have H1:(if 1≤(a0.size:Int)then((spec_l1Dec.f k (a0.extract 1 a0.size)).bind fun bt122=>(if 0<(a0.size:Int)then(if(bt a0 0)=110 then(spec_ValRead.j0 k a0 bt122.2 1 bt122.1)else(if(bt a0 0)=97 then(spec_ValRead.j0 k a0 bt122.2 2 bt122.1)else(if(bt a0 0)=114 then(spec_ValRead.j0 k a0 bt122.2 3 bt122.1)else(spec_ValRead.j0 k a0 bt122.2 0 bt122.1))))else(none)))else(none))=some (r1,r2,r3):=by rw[if_pos rfl]at H;exact H
   clear H;have H:=H1;clear H1;by_cases c7:1≤(a0.size:Int)
   ·rw[if_pos c7]at H
    have c7b0:=eq_true c7;have c7b1:decide (1≤(a0.size:Int))=true:=decide_eq_true c7;clear c7;replace H:=Option.bind_eq_some_iff.mp H;obtain⟨⟨t122,t123⟩,A80,H⟩:=H;replace H:(if 0<(a0.size:Int)then(if(bt a0 0)=110 then(spec_ValRead.j0 k a0 t123 1 t122)else(if(bt a0 0)=97 then(spec_ValRead.j0 k a0 t123 2 t122)else(if(bt a0 0)=114 then(spec_ValRead.j0 k a0 t123 3 t122)else(spec_ValRead.j0 k a0 t123 0 t122))))else(none))=some (r1,r2,r3):=H
    have A8:=aS A80;clear A80;by_cases c9:0<(a0.size:Int)
    ·rw[if_pos c9]at H
     have c9b0:decide (0<(a0.size:Int))=true:=decide_eq_true c9;have c9b1:decide (0<a0.size)=true:=decide_eq_true (by omega)
     clear c9;have HC11:=aS H;clear H;go_enter Try.func120,Try.ntmps120
     go_upto_block 0 with (first|((with_reducible refine gate_dst (N:=2) rfl ?_);refine box_event ?hg (N:=2) ?hd (cs:= #[.int .i64 0,.int .i64 0]) (t:=27) ?hr ?_;(case hd=>rfl);(case hg=>rfl);(case hr=>go_simp<;>rfl);intro gb120 hg w12 hbox hb;have n0_:=aS (below_step (by exact bU HB.out) hb);have n1_:=aS (hbox);have n2_:=aS ((by rw[hg];exact(below_size (by exact bU HB.out)):w.heap.size≤gb120));have n3_:=aS ((by rw[hg];exact(below_size (by exact bU HB.out)):w.heap.size≤gb120));clear HB;have HB:=n0_;have BK120:=n1_;have GW120:=n2_;have GE120:=n3_;clear n0_ n1_ n2_ n3_;clear hb hbox hg)|((with_reducible refine gate_callee (f:=59) rfl ?_);refine goesL_ (some 12) rfl rfl Try.func59 (by kernel_rfl) rfl #[.int .i64 (a0.size:Int),.int .i64 2,.int .i64 4] rfl (by(try simp only[List.map_toArray,List.map_cons,List.map_nil])<;>rfl) ?_;(with_reducible refine(spec_l6In.calls (a0.size:Int) 2 4 true _ A5.out).mono ?_);rintro e w' ⟨rfl,⟨nd,rfl⟩⟩;refine⟨_,rfl,?_⟩;(try(rw[drewN_self w12];generalize hq_:World.drewN w12 _=w12;have n0_:Aside0 (w12.heap[gb120]?=some (.cells #[.int .i64 0,.int .i64 0] 27 (0,0))):=⟨by rw[←hq_];exact(by exact blkU BK120.out)⟩;have n1_:Aside0 (Below w.heap.size w w12):=⟨by rw[←hq_];exact(by repeat(with_reducible first|exact HB.out|apply bA|apply bN|apply b1|refine below_set ?_ GE120.out))⟩;clear BK120 HB hq_;have BK120:=n0_;have HB:=n1_;clear n0_ n1_)))|((with_reducible refine gate_callee (f:=119) rfl ?_);refine goesL_ (some 18) rfl rfl Try.func119 (by kernel_rfl) rfl #[.string (a0.extract 1 a0.size)] rfl (by(try simp only[List.map_toArray,List.map_cons,List.map_nil])<;>rfl) ?_;(with_reducible refine(spec_l1Dec.calls k (a0.extract 1 a0.size) t122 t123 _ A8.out).mono ?_);rintro e w' ⟨rfl,⟨nd,rfl⟩⟩;refine⟨_,rfl,?_⟩;(try(rw[drewN_self w12];generalize hq_:World.drewN w12 _=w12;have n0_:Aside0 (w12.heap[gb120]?=some (.cells #[.int .i64 0,.int .i64 0] 27 (0,0))):=⟨by rw[←hq_];exact(by exact blkU BK120.out)⟩;have n1_:Aside0 (Below w.heap.size w w12):=⟨by rw[←hq_];exact(by repeat(with_reducible first|exact HB.out|apply bA|apply bN|apply b1|refine below_set ?_ GE120.out))⟩;clear BK120 HB hq_;have BK120:=n0_;have HB:=n1_;clear n0_ n1_)))|((with_reducible refine gate_dst (N:=6) rfl ?_);refine box_event ?hg (N:=6) ?hd (cs:= #[.int .i64 0,.int .i64 0]) (t:=27) ?hr ?_;(case hd=>rfl);(case hg=>rfl);(case hr=>go_simp<;>rfl);intro gb124 hg w13 hbox hb;have n0_:=aS (blk_below (g:=gb120) (o:=.cells #[.int .i64 0,.int .i64 0] 27 (0,0)) (by exact blkU BK120.out) hb);have n1_:=aS (below_step (by repeat(with_reducible first|exact HB.out|apply bA|apply bN|apply b1|refine below_set ?_ GE120.out)) hb);have n2_:=aS (hbox);have n3_:=aS ((by rw[hg];exact(below_size (by repeat(with_reducible first|exact HB.out|apply bA|apply bN|apply b1|refine below_set ?_ GE120.out))):w.heap.size≤gb124));have n4_:=aS ((by rw[hg];exact(below_size (by repeat(with_reducible first|exact HB.out|apply bA|apply bN|apply b1|refine below_set ?_ GE120.out))):w.heap.size≤gb124));have n5_:=aS ((by rw[hg];exact Nat.ne_of_lt (blk_lt (g:=gb120) (o:=.cells #[.int .i64 0,.int .i64 0] 27 (0,0)) (by exact blkU BK120.out)):gb120≠gb124));have n6_:=aS ((by rw[hg];exact Nat.ne_of_gt (blk_lt (g:=gb120) (o:=.cells #[.int .i64 0,.int .i64 0] 27 (0,0)) (by exact blkU BK120.out)):gb124≠gb120));clear BK120;clear HB;have BK120:=n0_;have HB:=n1_;have BK124:=n2_;have GW124:=n3_;have GE124:=n4_;have NB120_124:=n5_;have NB124_120:=n6_;clear n0_ n1_ n2_ n3_ n4_ n5_ n6_;clear hb hbox hg;have hnb14:=NB124_120.out;have hnc14:=NB120_124.out;have hcz15_0:w13.cell? ⟨gb124,0,none⟩=some (.int .i64 0):=(blk_cell BK124.out 0).trans rfl;have hcz15_1:w13.cell? ⟨gb124,1,none⟩=some (.int .i64 0):=(blk_cell BK124.out 1).trans rfl;have hfz15_0:=blk_frozen BK124.out 0;have hfz15_1:=blk_frozen BK124.out 1;have p10:0≤(0:Int):=(by omega);have q10:0<a0.size:=(by have:(0:Int)<(a0.size:Int):=of_decide_eq_true (by assumption);omega);have hx10: ∀h:0<a0.size,((a0[0]'h).toNat:Int)=bt a0 0:=bt_at a0 0;clear p10;have qi10:(0<(a0.size:Int))=True:=eq_true (of_decide_eq_true (by assumption));replace q10:=eq_true q10))
     (try simp only[Act.put,List.setIfInBounds_toArray,List.set_cons_zero,List.set_cons_succ])
     go_cut [] (fun wc=> ∃ (kq:Nat) (x125000_10:Int),Aside0 (spec_ValRead.j0 kq a0 t123 x125000_10 t122=some (r1,r2,r3))∧Aside0 (kq≤k)∧Aside0 (wc.heap[gb120]?=some (.cells #[.int .i64 0,.int .i64 0] 27 (0,0)))∧Aside0 (wc.heap[gb124]?=some (.cells #[.int .i64 x125000_10,.int .i64 t122] 27 (0,0)))∧Aside0 (Below w.heap.size w wc))
     case first=>
      have H:=HC11.out;clear HC11;by_cases c16:(bt a0 0)=110
      ·rw[if_pos c16]at H
       have c16b0:((bt a0 0)==110)=true:=beq_iff_eq.mpr c16;have c16b1:((bt a0 0) !=110)=false:=bne_eq_false_iff_eq.mpr c16;clear c16;(first|rw[c16b0]|(simp only[i64_w,i32_w];rw[c16b0])|skip)
       have H':=aS H;clear H;have hnb17:=NB124_120.out;have hnc17:=NB120_124.out;have hcz18_0:w13.cell? ⟨gb124,0,none⟩=some (.int .i64 0):=(blk_cell BK124.out 0).trans rfl;have hcz18_1:w13.cell? ⟨gb124,1,none⟩=some (.int .i64 0):=(blk_cell BK124.out 1).trans rfl;have hfz18_0:=blk_frozen BK124.out 0;have hfz18_1:=blk_frozen BK124.out 1;go_wp2
       go_meet
       case rel=>exact⟨_,(1),H',⟨by first|omega|exact Nat.le_refl _⟩,⟨by refine kU ?_;refine blk_far ?_ NB120_124.out _;refine kU ?_;refine blk_far ?_ NB120_124.out _;refine kU ?_;refine blk_far ?_ NB120_124.out _;exact blkU BK120.out⟩,⟨by refine kU ?_;refine blk_put (cs:= #[.int .i64 0,.int .i64 t122]) ?_ 0 _ rfl;refine kU ?_;refine blk_put (cs:= #[.int .i64 0,.int .i64 0]) ?_ 1 _ rfl;refine kU ?_;refine blk_put (cs:= #[.int .i64 0,.int .i64 0]) ?_ 0 _ rfl;exact blkU BK124.out⟩,⟨by repeat(with_reducible first|exact HB.out|apply bA|apply bN|apply b1|refine below_set ?_ GE120.out|refine below_set ?_ GE124.out)⟩⟩
      ·rw[if_neg c16]at H
       have c16b0:((bt a0 0)==110)=false:=beq_eq_false_iff_ne.mpr c16;have c16b1:((bt a0 0) !=110)=true:=bne_iff_ne.mpr c16;(first|rw[c16b0]|(simp only[i64_w,i32_w];rw[c16b0])|skip)
       by_cases c19:(bt a0 0)=97
       ·rw[if_pos c19]at H
        have c19b0:((bt a0 0)==97)=true:=beq_iff_eq.mpr c19;have c19b1:((bt a0 0) !=97)=false:=bne_eq_false_iff_eq.mpr c19;clear c19;have H':=aS H;clear H;have hnb20:=NB124_120.out;have hnc20:=NB120_124.out;have hcz21_0:w13.cell? ⟨gb124,0,none⟩=some (.int .i64 0):=(blk_cell BK124.out 0).trans rfl;have hcz21_1:w13.cell? ⟨gb124,1,none⟩=some (.int .i64 0):=(blk_cell BK124.out 1).trans rfl;have hfz21_0:=blk_frozen BK124.out 0;have hfz21_1:=blk_frozen BK124.out 1;go_wp2
        go_meet
        case rel=>exact⟨_,(2),H',⟨by first|omega|exact Nat.le_refl _⟩,⟨by refine kU ?_;refine blk_far ?_ NB120_124.out _;refine kU ?_;refine blk_far ?_ NB120_124.out _;refine kU ?_;refine blk_far ?_ NB120_124.out _;exact blkU BK120.out⟩,⟨by refine kU ?_;refine blk_put (cs:= #[.int .i64 0,.int .i64 t122]) ?_ 0 _ rfl;refine kU ?_;refine blk_put (cs:= #[.int .i64 0,.int .i64 0]) ?_ 1 _ rfl;refine kU ?_;refine blk_put (cs:= #[.int .i64 0,.int .i64 0]) ?_ 0 _ rfl;exact blkU BK124.out⟩,⟨by repeat(with_reducible first|exact HB.out|apply bA|apply bN|apply b1|refine below_set ?_ GE120.out|refine below_set ?_ GE124.out)⟩⟩
       ·rw[if_neg c19]at H
        have c19b0:((bt a0 0)==97)=false:=beq_eq_false_iff_ne.mpr c19;have c19b1:((bt a0 0) !=97)=true:=bne_iff_ne.mpr c19;by_cases c22:(bt a0 0)=114
        ·rw[if_pos c22]at H
         have c22b0:((bt a0 0)==114)=true:=beq_iff_eq.mpr c22;have c22b1:((bt a0 0) !=114)=false:=bne_eq_false_iff_eq.mpr c22;clear c22;have H':=aS H;clear H;have hnb23:=NB124_120.out;have hnc23:=NB120_124.out;have hcz24_0:w13.cell? ⟨gb124,0,none⟩=some (.int .i64 0):=(blk_cell BK124.out 0).trans rfl;have hcz24_1:w13.cell? ⟨gb124,1,none⟩=some (.int .i64 0):=(blk_cell BK124.out 1).trans rfl;have hfz24_0:=blk_frozen BK124.out 0;have hfz24_1:=blk_frozen BK124.out 1;go_wp2
         go_meet
         case rel=>exact⟨_,(3),H',⟨by first|omega|exact Nat.le_refl _⟩,⟨by refine kU ?_;refine blk_far ?_ NB120_124.out _;refine kU ?_;refine blk_far ?_ NB120_124.out _;refine kU ?_;refine blk_far ?_ NB120_124.out _;exact blkU BK120.out⟩,⟨by refine kU ?_;refine blk_put (cs:= #[.int .i64 0,.int .i64 t122]) ?_ 0 _ rfl;refine kU ?_;refine blk_put (cs:= #[.int .i64 0,.int .i64 0]) ?_ 1 _ rfl;refine kU ?_;refine blk_put (cs:= #[.int .i64 0,.int .i64 0]) ?_ 0 _ rfl;exact blkU BK124.out⟩,⟨by repeat(with_reducible first|exact HB.out|apply bA|apply bN|apply b1|refine below_set ?_ GE120.out|refine below_set ?_ GE124.out)⟩⟩
        ·rw[if_neg c22]at H
         have c22b0:((bt a0 0)==114)=false:=beq_eq_false_iff_ne.mpr c22;have c22b1:((bt a0 0) !=114)=true:=bne_iff_ne.mpr c22;have H':=aS H;clear H;go_wp2
         go_meet
         case rel=>exact⟨_,(0),H',⟨by first|omega|exact Nat.le_refl _⟩,⟨by refine kU ?_;refine blk_far ?_ NB120_124.out _;refine kU ?_;refine blk_far ?_ NB120_124.out _;exact blkU BK120.out⟩,⟨by refine kU ?_;refine blk_put (cs:= #[.int .i64 0,.int .i64 0]) ?_ 1 _ rfl;refine kU ?_;refine blk_put (cs:= #[.int .i64 0,.int .i64 0]) ?_ 0 _ rfl;exact blkU BK124.out⟩,⟨by repeat(with_reducible first|exact HB.out|apply bA|apply bN|apply b1|refine below_set ?_ GE120.out|refine below_set ?_ GE124.out)⟩⟩
     case rest=>
      clear HC11;(try clear c1);(try clear p1);(try clear q1);(try clear hx1);(try clear qi1);(try clear c2);(try clear c2b0);(try clear c2b1);(try clear p2);(try clear c5);(try clear c6);(try clear c7);(try clear c7b0);(try clear c7b1);(try clear c9);(try clear c9b0);(try clear c9b1);(try clear p10);(try clear q10);(try clear hx10);(try clear qi10);(try clear c11);(try clear c12);(try clear c14);(try clear c16);(try clear c16b0);(try clear c16b1);(try clear c17);(try clear c19);(try clear c19b0);(try clear c19b1);(try clear c20);(try clear c22);(try clear c22b0);(try clear c22b1);(try clear c23);(try clear hcz15_0);(try clear hcz15_1);(try clear hcz18_0);(try clear hcz18_1);(try clear hcz21_0);(try clear hcz21_1);(try clear hcz24_0);(try clear hcz24_1);(try clear hcz4_0);(try clear hcz4_1);(try clear hfz15_0);(try clear hfz15_1);(try clear hfz18_0);(try clear hfz18_1);(try clear hfz21_0);(try clear hfz21_1);(try clear hfz24_0);(try clear hfz24_1);(try clear hfz4_0);(try clear hfz4_1);(try clear p10);(try clear q10)
      obtain⟨kq,x125000_10,HA,HJ10,BK120,BK124,HB⟩:=hcut;cases kq with
      |zero=>exact absurd HA.out (by simp[spec_ValRead.j0])
      |succ kj10=>
       have H:=HA.out;clear HA;simp only[spec_ValRead.j0]at H
       have HC25:=aS H;clear H;go_upto_region 14 with (fail)
       go_cut [46] (fun v46 wc=> ∃ (kq:Nat) (x46_24:Bool),v46= .bool x46_24∧Aside0 (spec_ValRead.j1 kq x46_24 x125000_10 t122=some (r1,r2,r3))∧Aside0 (kq≤kj10)∧Aside0 (wc.heap[gb120]?=some (.cells #[.int .i64 0,.int .i64 0] 27 (0,0)))∧Aside0 (wc.heap[gb124]?=some (.cells #[.int .i64 x125000_10,.int .i64 t122] 27 (0,0)))∧Aside0 (Below w.heap.size w wc))
       case first=>
        have H:=HC25.out;clear HC25;by_cases c26:t123=true
        ·subst c26
         have H1:(if x125000_10=0 then(spec_ValRead.j1 kj10 true x125000_10 t122)else((spec_ValText.f kj10 x125000_10 t122).bind fun t125=>(spec_ValRead.j1 kj10 (t125.toList !=a0.toList) x125000_10 t122)))=some (r1,r2,r3):=by rw[if_pos rfl]at H;exact H
         clear H;have H:=H1;clear H1;by_cases c27:x125000_10=0
         ·rw[if_pos c27]at H
          have c27b0:(x125000_10==0)=true:=beq_iff_eq.mpr c27;have c27b1:(x125000_10 !=0)=false:=bne_eq_false_iff_eq.mpr c27;clear c27;(first|rw[c27b0]|(simp only[i64_w,i32_w];rw[c27b0])|skip)
          have H':=aS H;clear H;have hnb28:=NB124_120.out;have hnc28:=NB120_124.out;have hcz29_0:wc.cell? ⟨gb124,0,none⟩=some (.int .i64 x125000_10):=(blk_cell BK124.out 0).trans rfl;have hcz29_1:wc.cell? ⟨gb124,1,none⟩=some (.int .i64 t122):=(blk_cell BK124.out 1).trans rfl;have hfz29_0:=blk_frozen BK124.out 0;have hfz29_1:=blk_frozen BK124.out 1;go_wp2
          go_meet
          case rel=>exact⟨_,(true),(by first|rfl|(simp;done)|(simp[*];done)),H',⟨by have:=HJ10.out;first|omega|exact Nat.le_refl _⟩,⟨by exact blkU BK120.out⟩,⟨by exact blkU BK124.out⟩,⟨by repeat(with_reducible first|exact HB.out|apply bA|apply bN|apply b1|refine below_set ?_ GE120.out|refine below_set ?_ GE124.out)⟩⟩
         ·rw[if_neg c27]at H
          have c27b0:(x125000_10==0)=false:=beq_eq_false_iff_ne.mpr c27;have c27b1:(x125000_10 !=0)=true:=bne_iff_ne.mpr c27;(first|rw[c27b0]|(simp only[i64_w,i32_w];rw[c27b0])|skip)
          replace H:=Option.bind_eq_some_iff.mp H;obtain⟨t125,A300,H⟩:=H;replace H:(spec_ValRead.j1 kj10 (t125.toList !=a0.toList) x125000_10 t122)=some (r1,r2,r3):=H;have A30:=aS A300;clear A300;have H':=aS H;clear H;have hnb31:=NB124_120.out;have hnc31:=NB120_124.out;have hcz32_0:wc.cell? ⟨gb124,0,none⟩=some (.int .i64 x125000_10):=(blk_cell BK124.out 0).trans rfl;have hcz32_1:wc.cell? ⟨gb124,1,none⟩=some (.int .i64 t122):=(blk_cell BK124.out 1).trans rfl;have hfz32_0:=blk_frozen BK124.out 0;have hfz32_1:=blk_frozen BK124.out 1;go_wp2_with (first|(go_at_call 124;(with_reducible refine(spec_ValText.calls kj10 x125000_10 t122 t125 _ A30.out).mono ?_);rintro e w33 ⟨rfl,hb⟩;replace BK120:=aS (blk_below (g:=gb120) (o:=.cells #[.int .i64 0,.int .i64 0] 27 (0,0)) (by exact blkU BK120.out) hb);replace BK124:=aS (blk_below (g:=gb124) (o:=.cells #[.int .i64 x125000_10,.int .i64 t122] 27 (0,0)) (by exact blkU BK124.out) hb);replace HB:=aS (below_step (by repeat(with_reducible first|exact HB.out|apply bA|apply bN|apply b1|refine below_set ?_ GE120.out|refine below_set ?_ GE124.out)) hb);(try clear hb)))
          go_meet
          case rel=>exact⟨_,((t125.toList !=a0.toList)),(by first|rfl|(simp;done)|(simp[*];done)),H',⟨by have:=HJ10.out;first|omega|exact Nat.le_refl _⟩,⟨by exact blkU BK120.out⟩,⟨by exact blkU BK124.out⟩,⟨by repeat(with_reducible first|exact HB.out|apply bA|apply bN|apply b1|refine below_set ?_ GE120.out|refine below_set ?_ GE124.out)⟩⟩
        ·replace c26:=Bool.eq_false_iff.mpr c26
         subst c26;have H1:(spec_ValRead.j1 kj10 true x125000_10 t122)=some (r1,r2,r3):=by rw[if_neg (show¬(false=true) by decide)]at H;exact H
         clear H;have H:=H1;clear H1;have H':=aS H;clear H;go_wp2
         go_meet
         case rel=>exact⟨_,(true),(by first|rfl|(simp;done)|(simp[*];done)),H',⟨by have:=HJ10.out;first|omega|exact Nat.le_refl _⟩,⟨by exact blkU BK120.out⟩,⟨by exact blkU BK124.out⟩,⟨by repeat(with_reducible first|exact HB.out|apply bA|apply bN|apply b1|refine below_set ?_ GE120.out|refine below_set ?_ GE124.out)⟩⟩
       case rest=>
        clear HC25;(try clear c1);(try clear p1);(try clear q1);(try clear hx1);(try clear qi1);(try clear c2);(try clear c2b0);(try clear c2b1);(try clear p2);(try clear c3);(try clear c5);(try clear c6);(try clear c7);(try clear c7b0);(try clear c7b1);(try clear c9);(try clear c9b0);(try clear c9b1);(try clear p10);(try clear q10);(try clear hx10);(try clear qi10);(try clear c11);(try clear c12);(try clear c14);(try clear c16);(try clear c16b0);(try clear c16b1);(try clear c17);(try clear c19);(try clear c19b0);(try clear c19b1);(try clear c20);(try clear c22);(try clear c22b0);(try clear c22b1);(try clear c23);(try clear c26);(try clear c27);(try clear c27b0);(try clear c27b1);(try clear c28);(try clear c31);(try clear hcz15_0);(try clear hcz15_1);(try clear hcz18_0);(try clear hcz18_1);(try clear hcz21_0);(try clear hcz21_1);(try clear hcz24_0);(try clear hcz24_1);(try clear hcz29_0);(try clear hcz29_1);(try clear hcz32_0);(try clear hcz32_1);(try clear hcz4_0);(try clear hcz4_1);(try clear hfz15_0);(try clear hfz15_1);(try clear hfz18_0);(try clear hfz18_1);(try clear hfz21_0);(try clear hfz21_1);(try clear hfz24_0);(try clear hfz24_1);(try clear hfz29_0);(try clear hfz29_1);(try clear hfz32_0);(try clear hfz32_1);(try clear hfz4_0);(try clear hfz4_1);(try clear p1);(try clear p10);(try clear p2);(try clear q1);(try clear q10)
        obtain⟨kq,x46_24,rfl,HA,HJ24,BK120,BK124,HB⟩:=hcut;cases kq with
        |zero=>exact absurd HA.out (by simp[spec_ValRead.j1])
        |succ kj24=>
         have H:=HA.out;clear HA;simp only[spec_ValRead.j1]at H
         by_cases c34:x46_24=true
         ·subst c34
          have H1:(some (0,0,false))=some (r1,r2,r3):=by rw[if_pos rfl]at H;exact H
          clear H;have H:=H1;clear H1;simp only[Option.some.injEq,Prod.mk.injEq]at H
          obtain⟨rfl,rfl,rfl⟩:=H;have hnb35:=NB120_124.out;have hnc35:=NB124_120.out;have hcz36_0:wc.cell? ⟨gb120,0,none⟩=some (.int .i64 0):=(blk_cell BK120.out 0).trans rfl;have hcz36_1:wc.cell? ⟨gb120,1,none⟩=some (.int .i64 0):=(blk_cell BK120.out 1).trans rfl;have hfz36_0:=blk_frozen BK120.out 0;have hfz36_1:=blk_frozen BK120.out 1;go_wp2
          refine bodyPost_ret (results_ct rfl _ _ gb120 27 #[.int .i64 0,.int .i64 0] (0,0) _ rfl (by refine kU ?_;refine blk_put (cs:= #[.int .i64 0,.int .i64 0]) ?_ 1 _ rfl;refine kU ?_;refine blk_put (cs:= #[.int .i64 0,.int .i64 0]) ?_ 0 _ rfl;exact blkU BK120.out) Try.underlying27 rfl (by kernel_rfl)) rfl ?_
          exact⟨by first|rfl|(simp[*]<;>rfl),by repeat(with_reducible first|exact HB.out|apply bA|apply bN|apply b1|refine below_set ?_ GE120.out|refine below_set ?_ GE124.out)⟩
         ·replace c34:=Bool.eq_false_iff.mpr c34
          subst c34;have H1:(some (x125000_10,t122,true))=some (r1,r2,r3):=by rw[if_neg (show¬(false=true) by decide)]at H;exact H
          clear H;have H:=H1;clear H1;simp only[Option.some.injEq,Prod.mk.injEq]at H
          obtain⟨rfl,rfl,rfl⟩:=H;have hnb37:=NB124_120.out;have hnc37:=NB120_124.out;have hcz38_0:wc.cell? ⟨gb124,0,none⟩=some (.int .i64 x125000_10):=(blk_cell BK124.out 0).trans rfl;have hcz38_1:wc.cell? ⟨gb124,1,none⟩=some (.int .i64 t122):=(blk_cell BK124.out 1).trans rfl;have hfz38_0:=blk_frozen BK124.out 0;have hfz38_1:=blk_frozen BK124.out 1;have hcz39_0:wc.cell? ⟨gb120,0,none⟩=some (.int .i64 0):=(blk_cell BK120.out 0).trans rfl;have hcz39_1:wc.cell? ⟨gb120,1,none⟩=some (.int .i64 0):=(blk_cell BK120.out 1).trans rfl;have hfz39_0:=blk_frozen BK120.out 0;have hfz39_1:=blk_frozen BK120.out 1;go_wp2
          refine bodyPost_ret (results_ct rfl _ _ gb120 27 #[.int .i64 x125000_10,.int .i64 t122] (0,0) _ rfl (by refine kU ?_;refine blk_put (cs:= #[.int .i64 x125000_10,.int .i64 0]) ?_ 1 _ rfl;refine kU ?_;refine blk_put (cs:= #[.int .i64 0,.int .i64 0]) ?_ 0 _ rfl;exact blkU BK120.out) Try.underlying27 rfl (by kernel_rfl)) rfl ?_
          exact⟨by first|rfl|(simp[*]<;>rfl),by repeat(with_reducible first|exact HB.out|apply bA|apply bN|apply b1|refine below_set ?_ GE120.out|refine below_set ?_ GE124.out)⟩
    ·rw[if_neg c9]at H
     exact absurd H (by simp)
   ·rw[if_neg c7]at H
    exact absurd H (by simp)
  ·replace c6:=Bool.eq_false_iff.mpr c6
   subst c6;have H1:(some (0,0,false))=some (r1,r2,r3):=by rw[if_neg (show¬(false=true) by decide)]at H;exact H
   clear H;have H:=H1;clear H1;simp only[Option.some.injEq,Prod.mk.injEq]at H
   obtain⟨rfl,rfl,rfl⟩:=H;go_enter Try.func120,Try.ntmps120
   go_wp2_with (first|((with_reducible refine gate_dst (N:=2) rfl ?_);refine box_event ?hg (N:=2) ?hd (cs:= #[.int .i64 0,.int .i64 0]) (t:=27) ?hr ?_;(case hd=>rfl);(case hg=>rfl);(case hr=>go_simp<;>rfl);intro gb120 hg w40 hbox hb;have n0_:=aS (below_step (by exact bU HB.out) hb);have n1_:=aS (hbox);have n2_:=aS ((by rw[hg];exact(below_size (by exact bU HB.out)):w.heap.size≤gb120));have n3_:=aS ((by rw[hg];exact(below_size (by exact bU HB.out)):w.heap.size≤gb120));clear HB;have HB:=n0_;have BK120:=n1_;have GW120:=n2_;have GE120:=n3_;clear n0_ n1_ n2_ n3_;clear hb hbox hg)|((with_reducible refine gate_callee (f:=59) rfl ?_);refine goesL_ (some 12) rfl rfl Try.func59 (by kernel_rfl) rfl #[.int .i64 (a0.size:Int),.int .i64 2,.int .i64 4] rfl (by(try simp only[List.map_toArray,List.map_cons,List.map_nil])<;>rfl) ?_;(with_reducible refine(spec_l6In.calls (a0.size:Int) 2 4 false _ A5.out).mono ?_);rintro e w' ⟨rfl,⟨nd,rfl⟩⟩;refine⟨_,rfl,?_⟩;(try(rw[drewN_self w40];generalize hq_:World.drewN w40 _=w40;have n0_:Aside0 (w40.heap[gb120]?=some (.cells #[.int .i64 0,.int .i64 0] 27 (0,0))):=⟨by rw[←hq_];exact(by exact blkU BK120.out)⟩;have n1_:Aside0 (Below w.heap.size w w40):=⟨by rw[←hq_];exact(by repeat(with_reducible first|exact HB.out|apply bA|apply bN|apply b1|refine below_set ?_ GE120.out))⟩;clear BK120 HB hq_;have BK120:=n0_;have HB:=n1_;clear n0_ n1_));have hcz41_0:w40.cell? ⟨gb120,0,none⟩=some (.int .i64 0):=(blk_cell BK120.out 0).trans rfl;have hcz41_1:w40.cell? ⟨gb120,1,none⟩=some (.int .i64 0):=(blk_cell BK120.out 1).trans rfl;have hfz41_0:=blk_frozen BK120.out 0;have hfz41_1:=blk_frozen BK120.out 1))
   refine bodyPost_ret (results_ct rfl _ _ gb120 27 #[.int .i64 0,.int .i64 0] (0,0) _ rfl (by refine kU ?_;refine blk_put (cs:= #[.int .i64 0,.int .i64 0]) ?_ 1 _ rfl;refine kU ?_;refine blk_put (cs:= #[.int .i64 0,.int .i64 0]) ?_ 0 _ rfl;exact blkU BK120.out) Try.underlying27 rfl (by kernel_rfl)) rfl ?_
   exact⟨by first|rfl|(simp[*]<;>rfl),by repeat(with_reducible first|exact HB.out|apply bA|apply bN|apply b1|refine below_set ?_ GE120.out)⟩
end Go.Proofs.Ytmklpbmlgjkbiaa.PO
end
section
namespace Go.Proofs.Ytmklpbmlgjkbiaa.PS
open Go.RowKit Go.Proofs.YtmklpbmlgjkbiaaW.PrintWords Go.Proofs.YtmklpbmlgjkbiaaW.PrintLast
def namesL:List ByteArray:=[⟨#[]⟩,⟨#[115,101,116]⟩,⟨#[109,111,118,101]⟩,⟨#[97,100,100]⟩,⟨#[115,101,108,102]⟩,⟨#[98,101,103,105,110]⟩,⟨#[115,101,110,100]⟩,⟨#[116,97,107,101]⟩,⟨#[97,102,116,101,114]⟩,⟨#[103,111]⟩,⟨#[105,102]⟩,⟨#[108,105,110,107]⟩,⟨#[119,97,116,99,104]⟩,⟨#[116,114,97,112]⟩,⟨#[101,110,100]⟩]
def nameB (k:Int):ByteArray:=rdOf ByteArray.empty namesL k
theorem names_calls (k:Int) (hk:0≤k) (hk2:k<15) (W:World):Calls Try.prog 118 #[] W fun e w'=> ∃g c,e= .returned (.slice (some ⟨g,0,none⟩) 15 c)∧Below W.heap.size W w'∧w'.cell? ⟨g,k.toNat,none⟩=some (.string (nameB k)):=by
  refine(PO.spec_l2Names.calls namesL W rfl).mono ?_
  rintro e w' ⟨v,rfl,hR,hb⟩
  obtain⟨g,cap,e,_⟩:=Kd.R_form hR (by decide)
  rw[e]at hR⊢
  exact⟨g,cap,rfl,hb,(Kd.R_celln ByteArray.empty hR k hk hk2).1⟩
def addN (b:Bool) (out:ByteArray) (n:Int):Option ByteArray:=if b=true then(PO.spec_l6Dec.f 8 n).bind fun x=>if x.size≤100 then some ((out++⟨#[32]⟩)++x)else none else some out
def addV (b:Bool) (out:ByteArray) (vk vn:Int):Option ByteArray:=if b=true then(PO.spec_ValText.f 8 vk vn).bind fun x=>if x.size≤100 then some ((out++⟨#[32]⟩)++x)else none else some out
def otextV.f (k r s t vk vn:Int):Option ByteArray:=
  if opB k r s t vk vn=true then(addN (hasR k) (nameB k) r).bind fun o1=>(addN (hasS k) o1 s).bind fun o2=>(addN (hasT k) o2 t).bind fun o3=>addV (hasV k) o3 vk vn else some ⟨#[]⟩
theorem addN_some {b:Bool} {out o1:ByteArray} {n:Int} (h:addN b out n=some o1):(b=false∧o1=out)∨(b=true∧ ∃x,PO.spec_l6Dec.f 8 n=some x∧x.size≤100∧o1=(out++⟨#[32]⟩)++x):=by
  unfold addN at h;cases b with
  |false=>exact .inl ⟨rfl,by simpa using h.symm⟩
  |true=>
    right
    rw[if_pos rfl]at h
    obtain⟨x,hx,h⟩:=Option.bind_eq_some_iff.1 h;split at h
    · exact⟨rfl,x,hx,by assumption,(Option.some.inj h).symm⟩
    · cases h
theorem addV_some {b:Bool} {out o1:ByteArray} {k n:Int} (h:addV b out k n=some o1):(b=false∧o1=out)∨(b=true∧ ∃x,PO.spec_ValText.f 8 k n=some x∧x.size≤100∧o1=(out++⟨#[32]⟩)++x):=by
  unfold addV at h;cases b with
  |false=>exact .inl ⟨rfl,by simpa using h.symm⟩
  |true=>
    right
    rw[if_pos rfl]at h
    obtain⟨x,hx,h⟩:=Option.bind_eq_some_iff.1 h;split at h
    · exact⟨rfl,x,hx,by assumption,(Option.some.inj h).symm⟩
    · cases h
theorem text_no (k r s t vk vn:Int) (w:World) (h:opB k r s t vk vn=false):
    Calls Try.prog 121 #[.agg #[.int .i64 k,.int .i64 r,.int .i64 s,.int .i64 t,.int .i64 vk,.int .i64 vn]] w fun e w'=>e= .returned (.string ⟨#[]⟩)∧Below w.heap.size w w':=by
  have hOk:=fun W:World=>spec_OpOk.calls k r s t vk vn false W (by unfold opV.f;rw[h])
  clear h;go_enter Try.func121,Try.ntmps121
  go_wp2_with (go_at_call 23;refine(hOk _).mono ?_;rintro e w' ⟨rfl,hb⟩)
  go_ret
  exact⟨rfl,below_step (below_alloc (Below.refl _ _) _) hb⟩
theorem text_walk (k r s t vk vn:Int) (w:World) (hop:opB k r s t vk vn=true) (nm xR xS xT xV:ByteArray) (hk:1≤k∧k≤14) (hnm:nm=nameB k) (hsz:nm.size≤100∧xR.size≤100∧xS.size≤100∧xT.size≤100∧xV.size≤100)
    (bR bS bT bV:Bool) (eR:bR=hasR k) (eS:bS=hasS k) (eT:bT=hasT k) (eV:bV=hasV k)
    (hR:bR=true→PO.spec_l6Dec.f 8 r=some xR) (hS:bS=true→PO.spec_l6Dec.f 8 s=some xS) (hT:bT=true→PO.spec_l6Dec.f 8 t=some xT) (hV:bV=true→PO.spec_ValText.f 8 vk vn=some xV)
    (o1 o2 o3 o4:ByteArray) (h1:o1=if bR=true then(nm++⟨#[32]⟩)++xR else nm) (h2:o2=if bS=true then(o1++⟨#[32]⟩)++xS else o1) (h3:o3=if bT=true then(o2++⟨#[32]⟩)++xT else o2) (h4:o4=if bV=true then(o3++⟨#[32]⟩)++xV else o3):
    Calls Try.prog 121 #[.agg #[.int .i64 k,.int .i64 r,.int .i64 s,.int .i64 t,.int .i64 vk,.int .i64 vn]] w fun e w'=>e= .returned (.string o4)∧Below w.heap.size w w':=by
  have hOk:=fun W:World=>spec_OpOk.calls k r s t vk vn true W (by unfold opV.f;rw[hop])
  have hFo:=fun W:World=>form_calls hk W
  rw[←eR,←eS,←eT,←eV]at hFo
  have hNa:=fun W:World=>names_calls k (by omega) (by omega) W
  rw[←hnm]at hNa
  obtain⟨hk1,hk2⟩:=hk;have hk0:0≤k:=by omega
  have hk15:k<15:=by omega
  have BK:Aside0 ((w.alloc (.cells #[.int .i64 k,.int .i64 r,.int .i64 s,.int .i64 t,.int .i64 vk,.int .i64 vn] 29)).heap[w.heap.size]?=some (.cells #[.int .i64 k,.int .i64 r,.int .i64 s,.int .i64 t,.int .i64 vk,.int .i64 vn] 29 (0,0))):=⟨blk_new _ _⟩;have HB:=aS (below_alloc (Below.refl w.heap.size w) (.cells #[.int .i64 k,.int .i64 r,.int .i64 s,.int .i64 t,.int .i64 vk,.int .i64 vn] 29));have H:=aS (show _∧_∧_∧_∧_∧_∧_∧_∧_ from⟨h1,h2,h3,h4,hR,hS,hT,hV,hsz⟩)
  clear hop hnm eR eS eT eV hR hS hT hV h1 h2 h3 h4 hsz;go_enter Try.func121,Try.ntmps121
  go_wp2_with (first|(go_at_call 23;refine(hOk _).mono ?_;rintro e w1 ⟨rfl,hb⟩;have BK1:=aS (blk_below BK.out hb);have HB1:=aS (below_step HB.out hb);clear hb;have q0:w1.cell? ⟨w.heap.size,0,none⟩=some (.int .i64 k):=(blk_cell BK1.out 0).trans rfl)|(go_at_call 57;refine(hFo _).mono ?_;rintro e w2 ⟨gf,cf,rfl,hb,gl,f0,f1,f2,f3⟩;have BK2:=aS (blk_below BK1.out hb);have HB2:=aS (below_step HB1.out hb);clear hb))
  have q2:w2.cell? ⟨w.heap.size,0,none⟩=some (.int .i64 k):=(blk_cell BK2.out 0).trans rfl;have hbl:Below w2.heap.size w2 w2.drew:=below_drew (Below.refl _ _);have q3:w2.drew.cell? ⟨w.heap.size,0,none⟩=some (.int .i64 k):=q2;go_region_with (first|(go_at_call 118;refine(hNa _).mono ?_;rintro e w3 ⟨gn,cn,rfl,hb,n0⟩;have q9:w3.cell? ⟨w.heap.size,0,none⟩=some (.int .i64 k):=(hb.cell (World.block_lt_of_cell? _ _ (by first|exact q2|exact q3))).trans (by first|exact q2|exact q3)))
  all_goals
    have hH2:Below w2.heap.size w2 w3:=below_step hbl hb;have BK3:=aS (blk_below BK2.out hH2);have HB3:=aS (below_step HB2.out hH2);have g0:=(hH2.cell (World.block_lt_of_cell? _ _ f0)).trans f0;have g1:=(hH2.cell (World.block_lt_of_cell? _ _ f1)).trans f1;have g2:=(hH2.cell (World.block_lt_of_cell? _ _ f2)).trans f2;have g3:=(hH2.cell (World.block_lt_of_cell? _ _ f3)).trans f3;clear f0 f1 f2 f3 q0 q2 q3 q9 hbl hOk hFo hNa n0 hH2 hb;obtain⟨h1,h2,h3,h4,hR,hS,hT,hV,z0,zR,zS,zT,zV⟩:=H.out;clear H;cases bR with
    |false=>
      have k0:o1=nm:=by simpa using h1
      clear h1 hR;subst k0;go_upto_region 7 with (fail)
      cases bS with
      |false=>
        have k1:o2=o1:=by simpa using h2
        clear h2 hS;subst k1;go_upto_region 9 with (fail)
        cases bT with
        |false=>
          have k2:o3=o2:=by simpa using h3
          clear h3 hT;subst k2;go_upto_region 11 with (fail)
          cases bV with
          |false=>
            have k3:o4=o3:=by simpa using h4
            clear h4 hV;subst k3;go_wp2
            go_ret
            exact⟨rfl,HB3.out⟩
          |true=>
            have k3:o4=(o3++⟨#[32]⟩)++xV:=by simpa using h4
            have K3:=aS k3;have dc:=fun W:World=>PO.spec_ValText.calls 8 vk vn xV W (hV rfl)
            have zs:(o3++(⟨#[32]⟩:ByteArray)).size=o3.size+1:=by rw[ByteArray.size_append];rfl
            have zo:o4.size≤201:=by rw[k3,ByteArray.size_append,zs];omega
            have da1:decide (o3.size+1≤9223372036854775807)=true:=decide_eq_true (by omega)
            have da2:(9223372036854775807<o3.size+1)=False:=eq_false (by omega)
            have da3:(o3.size+1≤9223372036854775807)=True:=eq_true (by omega)
            have db1:decide ((o3++(⟨#[32]⟩:ByteArray)).size+xV.size≤9223372036854775807)=true:=decide_eq_true (by rw[zs];omega)
            have db2:(9223372036854775807<(o3++(⟨#[32]⟩:ByteArray)).size+xV.size)=False:=eq_false (by rw[zs];omega)
            have db3:((o3++(⟨#[32]⟩:ByteArray)).size+xV.size≤9223372036854775807)=True:=eq_true (by rw[zs];omega)
            have dc1:decide (o3.size+1+xV.size≤9223372036854775807)=true:=decide_eq_true (by omega)
            have dc2:(9223372036854775807<o3.size+1+xV.size)=False:=eq_false (by omega)
            have dc3:(o3.size+1+xV.size≤9223372036854775807)=True:=eq_true (by omega)
            have c0:w3.cell? ⟨w.heap.size,4,none⟩=some (.int .i64 vk):=(blk_cell BK3.out 4).trans rfl;have c1:w3.cell? ⟨w.heap.size,5,none⟩=some (.int .i64 vn):=(blk_cell BK3.out 5).trans rfl;clear h4 hV k3 zs;go_wp2_with (go_at_call 124;refine(dc _).mono ?_;rintro e w4 ⟨rfl,hb⟩;have BK4:=aS (blk_below BK3.out hb);have HB4:=aS (below_step HB3.out hb);clear hb BK3 HB3)
            go_ret
            exact⟨by rw[K3.out];rfl,HB4.out⟩
        |true=>
          have k2:o3=(o2++⟨#[32]⟩)++xT:=by simpa using h3
          have K2:=aS k2;have dc:=fun W:World=>PO.spec_l6Dec.calls 8 t xT W (hT rfl)
          have zs:(o2++(⟨#[32]⟩:ByteArray)).size=o2.size+1:=by rw[ByteArray.size_append];rfl
          have zo:o3.size≤201:=by rw[k2,ByteArray.size_append,zs];omega
          have da1:decide (o2.size+1≤9223372036854775807)=true:=decide_eq_true (by omega)
          have da2:(9223372036854775807<o2.size+1)=False:=eq_false (by omega)
          have da3:(o2.size+1≤9223372036854775807)=True:=eq_true (by omega)
          have db1:decide ((o2++(⟨#[32]⟩:ByteArray)).size+xT.size≤9223372036854775807)=true:=decide_eq_true (by rw[zs];omega)
          have db2:(9223372036854775807<(o2++(⟨#[32]⟩:ByteArray)).size+xT.size)=False:=eq_false (by rw[zs];omega)
          have db3:((o2++(⟨#[32]⟩:ByteArray)).size+xT.size≤9223372036854775807)=True:=eq_true (by rw[zs];omega)
          have dc1:decide (o2.size+1+xT.size≤9223372036854775807)=true:=decide_eq_true (by omega)
          have dc2:(9223372036854775807<o2.size+1+xT.size)=False:=eq_false (by omega)
          have dc3:(o2.size+1+xT.size≤9223372036854775807)=True:=eq_true (by omega)
          have c0:w3.cell? ⟨w.heap.size,3,none⟩=some (.int .i64 t):=(blk_cell BK3.out 3).trans rfl;clear h3 hT k2 zs;go_upto_region 11 with (go_at_call 125;refine(dc _).mono ?_;rintro e w4 ⟨rfl,hb⟩;have BK4:=aS (blk_below BK3.out hb);have HB4:=aS (below_step HB3.out hb);have g3_:=(hb.cell (World.block_lt_of_cell? _ _ g3)).trans g3;clear g3;have g3:=g3_;clear g3_;clear hb BK3 HB3)
          rw[←K2.out];clear dc da1 da2 da3 db1 db2 db3 dc1 dc2 dc3 c0;cases bV with
          |false=>
            have k3:o4=o3:=by simpa using h4
            clear h4 hV;subst k3;go_wp2
            go_ret
            exact⟨rfl,HB4.out⟩
          |true=>
            have k3:o4=(o3++⟨#[32]⟩)++xV:=by simpa using h4
            have K3:=aS k3;have dc:=fun W:World=>PO.spec_ValText.calls 8 vk vn xV W (hV rfl)
            have zs:(o3++(⟨#[32]⟩:ByteArray)).size=o3.size+1:=by rw[ByteArray.size_append];rfl
            have zo:o4.size≤302:=by rw[k3,ByteArray.size_append,zs];omega
            have da1:decide (o3.size+1≤9223372036854775807)=true:=decide_eq_true (by omega)
            have da2:(9223372036854775807<o3.size+1)=False:=eq_false (by omega)
            have da3:(o3.size+1≤9223372036854775807)=True:=eq_true (by omega)
            have db1:decide ((o3++(⟨#[32]⟩:ByteArray)).size+xV.size≤9223372036854775807)=true:=decide_eq_true (by rw[zs];omega)
            have db2:(9223372036854775807<(o3++(⟨#[32]⟩:ByteArray)).size+xV.size)=False:=eq_false (by rw[zs];omega)
            have db3:((o3++(⟨#[32]⟩:ByteArray)).size+xV.size≤9223372036854775807)=True:=eq_true (by rw[zs];omega)
            have dc1:decide (o3.size+1+xV.size≤9223372036854775807)=true:=decide_eq_true (by omega)
            have dc2:(9223372036854775807<o3.size+1+xV.size)=False:=eq_false (by omega)
            have dc3:(o3.size+1+xV.size≤9223372036854775807)=True:=eq_true (by omega)
            have c0:w4.cell? ⟨w.heap.size,4,none⟩=some (.int .i64 vk):=(blk_cell BK4.out 4).trans rfl;have c1:w4.cell? ⟨w.heap.size,5,none⟩=some (.int .i64 vn):=(blk_cell BK4.out 5).trans rfl;clear h4 hV k3 zs;go_wp2_with (go_at_call 124;refine(dc _).mono ?_;rintro e w5 ⟨rfl,hb⟩;have BK5:=aS (blk_below BK4.out hb);have HB5:=aS (below_step HB4.out hb);clear hb BK4 HB4)
            go_ret
            exact⟨by rw[K3.out];rfl,HB5.out⟩
      |true=>
        have k1:o2=(o1++⟨#[32]⟩)++xS:=by simpa using h2
        have K1:=aS k1;have dc:=fun W:World=>PO.spec_l6Dec.calls 8 s xS W (hS rfl)
        have zs:(o1++(⟨#[32]⟩:ByteArray)).size=o1.size+1:=by rw[ByteArray.size_append];rfl
        have zo:o2.size≤201:=by rw[k1,ByteArray.size_append,zs];omega
        have da1:decide (o1.size+1≤9223372036854775807)=true:=decide_eq_true (by omega)
        have da2:(9223372036854775807<o1.size+1)=False:=eq_false (by omega)
        have da3:(o1.size+1≤9223372036854775807)=True:=eq_true (by omega)
        have db1:decide ((o1++(⟨#[32]⟩:ByteArray)).size+xS.size≤9223372036854775807)=true:=decide_eq_true (by rw[zs];omega)
        have db2:(9223372036854775807<(o1++(⟨#[32]⟩:ByteArray)).size+xS.size)=False:=eq_false (by rw[zs];omega)
        have db3:((o1++(⟨#[32]⟩:ByteArray)).size+xS.size≤9223372036854775807)=True:=eq_true (by rw[zs];omega)
        have dc1:decide (o1.size+1+xS.size≤9223372036854775807)=true:=decide_eq_true (by omega)
        have dc2:(9223372036854775807<o1.size+1+xS.size)=False:=eq_false (by omega)
        have dc3:(o1.size+1+xS.size≤9223372036854775807)=True:=eq_true (by omega)
        have c0:w3.cell? ⟨w.heap.size,2,none⟩=some (.int .i64 s):=(blk_cell BK3.out 2).trans rfl;clear h2 hS k1 zs;go_upto_region 9 with (go_at_call 125;refine(dc _).mono ?_;rintro e w4 ⟨rfl,hb⟩;have BK4:=aS (blk_below BK3.out hb);have HB4:=aS (below_step HB3.out hb);have g2_:=(hb.cell (World.block_lt_of_cell? _ _ g2)).trans g2;clear g2;have g2:=g2_;clear g2_;have g3_:=(hb.cell (World.block_lt_of_cell? _ _ g3)).trans g3;clear g3;have g3:=g3_;clear g3_;clear hb BK3 HB3)
        rw[←K1.out];clear dc da1 da2 da3 db1 db2 db3 dc1 dc2 dc3 c0;cases bT with
        |false=>
          have k2:o3=o2:=by simpa using h3
          clear h3 hT;subst k2;go_upto_region 11 with (fail)
          cases bV with
          |false=>
            have k3:o4=o3:=by simpa using h4
            clear h4 hV;subst k3;go_wp2
            go_ret
            exact⟨rfl,HB4.out⟩
          |true=>
            have k3:o4=(o3++⟨#[32]⟩)++xV:=by simpa using h4
            have K3:=aS k3;have dc:=fun W:World=>PO.spec_ValText.calls 8 vk vn xV W (hV rfl)
            have zs:(o3++(⟨#[32]⟩:ByteArray)).size=o3.size+1:=by rw[ByteArray.size_append];rfl
            have zo:o4.size≤302:=by rw[k3,ByteArray.size_append,zs];omega
            have da1:decide (o3.size+1≤9223372036854775807)=true:=decide_eq_true (by omega)
            have da2:(9223372036854775807<o3.size+1)=False:=eq_false (by omega)
            have da3:(o3.size+1≤9223372036854775807)=True:=eq_true (by omega)
            have db1:decide ((o3++(⟨#[32]⟩:ByteArray)).size+xV.size≤9223372036854775807)=true:=decide_eq_true (by rw[zs];omega)
            have db2:(9223372036854775807<(o3++(⟨#[32]⟩:ByteArray)).size+xV.size)=False:=eq_false (by rw[zs];omega)
            have db3:((o3++(⟨#[32]⟩:ByteArray)).size+xV.size≤9223372036854775807)=True:=eq_true (by rw[zs];omega)
            have dc1:decide (o3.size+1+xV.size≤9223372036854775807)=true:=decide_eq_true (by omega)
            have dc2:(9223372036854775807<o3.size+1+xV.size)=False:=eq_false (by omega)
            have dc3:(o3.size+1+xV.size≤9223372036854775807)=True:=eq_true (by omega)
            have c0:w4.cell? ⟨w.heap.size,4,none⟩=some (.int .i64 vk):=(blk_cell BK4.out 4).trans rfl;have c1:w4.cell? ⟨w.heap.size,5,none⟩=some (.int .i64 vn):=(blk_cell BK4.out 5).trans rfl;clear h4 hV k3 zs;go_wp2_with (go_at_call 124;refine(dc _).mono ?_;rintro e w5 ⟨rfl,hb⟩;have BK5:=aS (blk_below BK4.out hb);have HB5:=aS (below_step HB4.out hb);clear hb BK4 HB4)
            go_ret
            exact⟨by rw[K3.out];rfl,HB5.out⟩
        |true=>
          have k2:o3=(o2++⟨#[32]⟩)++xT:=by simpa using h3
          have K2:=aS k2;have dc:=fun W:World=>PO.spec_l6Dec.calls 8 t xT W (hT rfl)
          have zs:(o2++(⟨#[32]⟩:ByteArray)).size=o2.size+1:=by rw[ByteArray.size_append];rfl
          have zo:o3.size≤302:=by rw[k2,ByteArray.size_append,zs];omega
          have da1:decide (o2.size+1≤9223372036854775807)=true:=decide_eq_true (by omega)
          have da2:(9223372036854775807<o2.size+1)=False:=eq_false (by omega)
          have da3:(o2.size+1≤9223372036854775807)=True:=eq_true (by omega)
          have db1:decide ((o2++(⟨#[32]⟩:ByteArray)).size+xT.size≤9223372036854775807)=true:=decide_eq_true (by rw[zs];omega)
          have db2:(9223372036854775807<(o2++(⟨#[32]⟩:ByteArray)).size+xT.size)=False:=eq_false (by rw[zs];omega)
          have db3:((o2++(⟨#[32]⟩:ByteArray)).size+xT.size≤9223372036854775807)=True:=eq_true (by rw[zs];omega)
          have dc1:decide (o2.size+1+xT.size≤9223372036854775807)=true:=decide_eq_true (by omega)
          have dc2:(9223372036854775807<o2.size+1+xT.size)=False:=eq_false (by omega)
          have dc3:(o2.size+1+xT.size≤9223372036854775807)=True:=eq_true (by omega)
          have c0:w4.cell? ⟨w.heap.size,3,none⟩=some (.int .i64 t):=(blk_cell BK4.out 3).trans rfl;clear h3 hT k2 zs;go_upto_region 11 with (go_at_call 125;refine(dc _).mono ?_;rintro e w5 ⟨rfl,hb⟩;have BK5:=aS (blk_below BK4.out hb);have HB5:=aS (below_step HB4.out hb);have g3_:=(hb.cell (World.block_lt_of_cell? _ _ g3)).trans g3;clear g3;have g3:=g3_;clear g3_;clear hb BK4 HB4)
          rw[←K2.out];clear dc da1 da2 da3 db1 db2 db3 dc1 dc2 dc3 c0;cases bV with
          |false=>
            have k3:o4=o3:=by simpa using h4
            clear h4 hV;subst k3;go_wp2
            go_ret
            exact⟨rfl,HB5.out⟩
          |true=>
            have k3:o4=(o3++⟨#[32]⟩)++xV:=by simpa using h4
            have K3:=aS k3;have dc:=fun W:World=>PO.spec_ValText.calls 8 vk vn xV W (hV rfl)
            have zs:(o3++(⟨#[32]⟩:ByteArray)).size=o3.size+1:=by rw[ByteArray.size_append];rfl
            have zo:o4.size≤403:=by rw[k3,ByteArray.size_append,zs];omega
            have da1:decide (o3.size+1≤9223372036854775807)=true:=decide_eq_true (by omega)
            have da2:(9223372036854775807<o3.size+1)=False:=eq_false (by omega)
            have da3:(o3.size+1≤9223372036854775807)=True:=eq_true (by omega)
            have db1:decide ((o3++(⟨#[32]⟩:ByteArray)).size+xV.size≤9223372036854775807)=true:=decide_eq_true (by rw[zs];omega)
            have db2:(9223372036854775807<(o3++(⟨#[32]⟩:ByteArray)).size+xV.size)=False:=eq_false (by rw[zs];omega)
            have db3:((o3++(⟨#[32]⟩:ByteArray)).size+xV.size≤9223372036854775807)=True:=eq_true (by rw[zs];omega)
            have dc1:decide (o3.size+1+xV.size≤9223372036854775807)=true:=decide_eq_true (by omega)
            have dc2:(9223372036854775807<o3.size+1+xV.size)=False:=eq_false (by omega)
            have dc3:(o3.size+1+xV.size≤9223372036854775807)=True:=eq_true (by omega)
            have c0:w5.cell? ⟨w.heap.size,4,none⟩=some (.int .i64 vk):=(blk_cell BK5.out 4).trans rfl;have c1:w5.cell? ⟨w.heap.size,5,none⟩=some (.int .i64 vn):=(blk_cell BK5.out 5).trans rfl;clear h4 hV k3 zs;go_wp2_with (go_at_call 124;refine(dc _).mono ?_;rintro e w6 ⟨rfl,hb⟩;have BK6:=aS (blk_below BK5.out hb);have HB6:=aS (below_step HB5.out hb);clear hb BK5 HB5)
            go_ret
            exact⟨by rw[K3.out];rfl,HB6.out⟩
    |true=>
      have k0:o1=(nm++⟨#[32]⟩)++xR:=by simpa using h1
      have K0:=aS k0;have dc:=fun W:World=>PO.spec_l6Dec.calls 8 r xR W (hR rfl)
      have zs:(nm++(⟨#[32]⟩:ByteArray)).size=nm.size+1:=by rw[ByteArray.size_append];rfl
      have zo:o1.size≤201:=by rw[k0,ByteArray.size_append,zs];omega
      have da1:decide (nm.size+1≤9223372036854775807)=true:=decide_eq_true (by omega)
      have da2:(9223372036854775807<nm.size+1)=False:=eq_false (by omega)
      have da3:(nm.size+1≤9223372036854775807)=True:=eq_true (by omega)
      have db1:decide ((nm++(⟨#[32]⟩:ByteArray)).size+xR.size≤9223372036854775807)=true:=decide_eq_true (by rw[zs];omega)
      have db2:(9223372036854775807<(nm++(⟨#[32]⟩:ByteArray)).size+xR.size)=False:=eq_false (by rw[zs];omega)
      have db3:((nm++(⟨#[32]⟩:ByteArray)).size+xR.size≤9223372036854775807)=True:=eq_true (by rw[zs];omega)
      have dc1:decide (nm.size+1+xR.size≤9223372036854775807)=true:=decide_eq_true (by omega)
      have dc2:(9223372036854775807<nm.size+1+xR.size)=False:=eq_false (by omega)
      have dc3:(nm.size+1+xR.size≤9223372036854775807)=True:=eq_true (by omega)
      have c0:w3.cell? ⟨w.heap.size,1,none⟩=some (.int .i64 r):=(blk_cell BK3.out 1).trans rfl;clear h1 hR k0 zs;go_upto_region 7 with (go_at_call 125;refine(dc _).mono ?_;rintro e w4 ⟨rfl,hb⟩;have BK4:=aS (blk_below BK3.out hb);have HB4:=aS (below_step HB3.out hb);have g1_:=(hb.cell (World.block_lt_of_cell? _ _ g1)).trans g1;clear g1;have g1:=g1_;clear g1_;have g2_:=(hb.cell (World.block_lt_of_cell? _ _ g2)).trans g2;clear g2;have g2:=g2_;clear g2_;have g3_:=(hb.cell (World.block_lt_of_cell? _ _ g3)).trans g3;clear g3;have g3:=g3_;clear g3_;clear hb BK3 HB3)
      rw[←K0.out];clear dc da1 da2 da3 db1 db2 db3 dc1 dc2 dc3 c0;cases bS with
      |false=>
        have k1:o2=o1:=by simpa using h2
        clear h2 hS;subst k1;go_upto_region 9 with (fail)
        cases bT with
        |false=>
          have k2:o3=o2:=by simpa using h3
          clear h3 hT;subst k2;go_upto_region 11 with (fail)
          cases bV with
          |false=>
            have k3:o4=o3:=by simpa using h4
            clear h4 hV;subst k3;go_wp2
            go_ret
            exact⟨rfl,HB4.out⟩
          |true=>
            have k3:o4=(o3++⟨#[32]⟩)++xV:=by simpa using h4
            have K3:=aS k3;have dc:=fun W:World=>PO.spec_ValText.calls 8 vk vn xV W (hV rfl)
            have zs:(o3++(⟨#[32]⟩:ByteArray)).size=o3.size+1:=by rw[ByteArray.size_append];rfl
            have zo:o4.size≤302:=by rw[k3,ByteArray.size_append,zs];omega
            have da1:decide (o3.size+1≤9223372036854775807)=true:=decide_eq_true (by omega)
            have da2:(9223372036854775807<o3.size+1)=False:=eq_false (by omega)
            have da3:(o3.size+1≤9223372036854775807)=True:=eq_true (by omega)
            have db1:decide ((o3++(⟨#[32]⟩:ByteArray)).size+xV.size≤9223372036854775807)=true:=decide_eq_true (by rw[zs];omega)
            have db2:(9223372036854775807<(o3++(⟨#[32]⟩:ByteArray)).size+xV.size)=False:=eq_false (by rw[zs];omega)
            have db3:((o3++(⟨#[32]⟩:ByteArray)).size+xV.size≤9223372036854775807)=True:=eq_true (by rw[zs];omega)
            have dc1:decide (o3.size+1+xV.size≤9223372036854775807)=true:=decide_eq_true (by omega)
            have dc2:(9223372036854775807<o3.size+1+xV.size)=False:=eq_false (by omega)
            have dc3:(o3.size+1+xV.size≤9223372036854775807)=True:=eq_true (by omega)
            have c0:w4.cell? ⟨w.heap.size,4,none⟩=some (.int .i64 vk):=(blk_cell BK4.out 4).trans rfl;have c1:w4.cell? ⟨w.heap.size,5,none⟩=some (.int .i64 vn):=(blk_cell BK4.out 5).trans rfl;clear h4 hV k3 zs;go_wp2_with (go_at_call 124;refine(dc _).mono ?_;rintro e w5 ⟨rfl,hb⟩;have BK5:=aS (blk_below BK4.out hb);have HB5:=aS (below_step HB4.out hb);clear hb BK4 HB4)
            go_ret
            exact⟨by rw[K3.out];rfl,HB5.out⟩
        |true=>
          have k2:o3=(o2++⟨#[32]⟩)++xT:=by simpa using h3
          have K2:=aS k2;have dc:=fun W:World=>PO.spec_l6Dec.calls 8 t xT W (hT rfl)
          have zs:(o2++(⟨#[32]⟩:ByteArray)).size=o2.size+1:=by rw[ByteArray.size_append];rfl
          have zo:o3.size≤302:=by rw[k2,ByteArray.size_append,zs];omega
          have da1:decide (o2.size+1≤9223372036854775807)=true:=decide_eq_true (by omega)
          have da2:(9223372036854775807<o2.size+1)=False:=eq_false (by omega)
          have da3:(o2.size+1≤9223372036854775807)=True:=eq_true (by omega)
          have db1:decide ((o2++(⟨#[32]⟩:ByteArray)).size+xT.size≤9223372036854775807)=true:=decide_eq_true (by rw[zs];omega)
          have db2:(9223372036854775807<(o2++(⟨#[32]⟩:ByteArray)).size+xT.size)=False:=eq_false (by rw[zs];omega)
          have db3:((o2++(⟨#[32]⟩:ByteArray)).size+xT.size≤9223372036854775807)=True:=eq_true (by rw[zs];omega)
          have dc1:decide (o2.size+1+xT.size≤9223372036854775807)=true:=decide_eq_true (by omega)
          have dc2:(9223372036854775807<o2.size+1+xT.size)=False:=eq_false (by omega)
          have dc3:(o2.size+1+xT.size≤9223372036854775807)=True:=eq_true (by omega)
          have c0:w4.cell? ⟨w.heap.size,3,none⟩=some (.int .i64 t):=(blk_cell BK4.out 3).trans rfl;clear h3 hT k2 zs;go_upto_region 11 with (go_at_call 125;refine(dc _).mono ?_;rintro e w5 ⟨rfl,hb⟩;have BK5:=aS (blk_below BK4.out hb);have HB5:=aS (below_step HB4.out hb);have g3_:=(hb.cell (World.block_lt_of_cell? _ _ g3)).trans g3;clear g3;have g3:=g3_;clear g3_;clear hb BK4 HB4)
          rw[←K2.out];clear dc da1 da2 da3 db1 db2 db3 dc1 dc2 dc3 c0;cases bV with
          |false=>
            have k3:o4=o3:=by simpa using h4
            clear h4 hV;subst k3;go_wp2
            go_ret
            exact⟨rfl,HB5.out⟩
          |true=>
            have k3:o4=(o3++⟨#[32]⟩)++xV:=by simpa using h4
            have K3:=aS k3;have dc:=fun W:World=>PO.spec_ValText.calls 8 vk vn xV W (hV rfl)
            have zs:(o3++(⟨#[32]⟩:ByteArray)).size=o3.size+1:=by rw[ByteArray.size_append];rfl
            have zo:o4.size≤403:=by rw[k3,ByteArray.size_append,zs];omega
            have da1:decide (o3.size+1≤9223372036854775807)=true:=decide_eq_true (by omega)
            have da2:(9223372036854775807<o3.size+1)=False:=eq_false (by omega)
            have da3:(o3.size+1≤9223372036854775807)=True:=eq_true (by omega)
            have db1:decide ((o3++(⟨#[32]⟩:ByteArray)).size+xV.size≤9223372036854775807)=true:=decide_eq_true (by rw[zs];omega)
            have db2:(9223372036854775807<(o3++(⟨#[32]⟩:ByteArray)).size+xV.size)=False:=eq_false (by rw[zs];omega)
            have db3:((o3++(⟨#[32]⟩:ByteArray)).size+xV.size≤9223372036854775807)=True:=eq_true (by rw[zs];omega)
            have dc1:decide (o3.size+1+xV.size≤9223372036854775807)=true:=decide_eq_true (by omega)
            have dc2:(9223372036854775807<o3.size+1+xV.size)=False:=eq_false (by omega)
            have dc3:(o3.size+1+xV.size≤9223372036854775807)=True:=eq_true (by omega)
            have c0:w5.cell? ⟨w.heap.size,4,none⟩=some (.int .i64 vk):=(blk_cell BK5.out 4).trans rfl;have c1:w5.cell? ⟨w.heap.size,5,none⟩=some (.int .i64 vn):=(blk_cell BK5.out 5).trans rfl;clear h4 hV k3 zs;go_wp2_with (go_at_call 124;refine(dc _).mono ?_;rintro e w6 ⟨rfl,hb⟩;have BK6:=aS (blk_below BK5.out hb);have HB6:=aS (below_step HB5.out hb);clear hb BK5 HB5)
            go_ret
            exact⟨by rw[K3.out];rfl,HB6.out⟩
      |true=>
        have k1:o2=(o1++⟨#[32]⟩)++xS:=by simpa using h2
        have K1:=aS k1;have dc:=fun W:World=>PO.spec_l6Dec.calls 8 s xS W (hS rfl)
        have zs:(o1++(⟨#[32]⟩:ByteArray)).size=o1.size+1:=by rw[ByteArray.size_append];rfl
        have zo:o2.size≤302:=by rw[k1,ByteArray.size_append,zs];omega
        have da1:decide (o1.size+1≤9223372036854775807)=true:=decide_eq_true (by omega)
        have da2:(9223372036854775807<o1.size+1)=False:=eq_false (by omega)
        have da3:(o1.size+1≤9223372036854775807)=True:=eq_true (by omega)
        have db1:decide ((o1++(⟨#[32]⟩:ByteArray)).size+xS.size≤9223372036854775807)=true:=decide_eq_true (by rw[zs];omega)
        have db2:(9223372036854775807<(o1++(⟨#[32]⟩:ByteArray)).size+xS.size)=False:=eq_false (by rw[zs];omega)
        have db3:((o1++(⟨#[32]⟩:ByteArray)).size+xS.size≤9223372036854775807)=True:=eq_true (by rw[zs];omega)
        have dc1:decide (o1.size+1+xS.size≤9223372036854775807)=true:=decide_eq_true (by omega)
        have dc2:(9223372036854775807<o1.size+1+xS.size)=False:=eq_false (by omega)
        have dc3:(o1.size+1+xS.size≤9223372036854775807)=True:=eq_true (by omega)
        have c0:w4.cell? ⟨w.heap.size,2,none⟩=some (.int .i64 s):=(blk_cell BK4.out 2).trans rfl;clear h2 hS k1 zs;go_upto_region 9 with (go_at_call 125;refine(dc _).mono ?_;rintro e w5 ⟨rfl,hb⟩;have BK5:=aS (blk_below BK4.out hb);have HB5:=aS (below_step HB4.out hb);have g2_:=(hb.cell (World.block_lt_of_cell? _ _ g2)).trans g2;clear g2;have g2:=g2_;clear g2_;have g3_:=(hb.cell (World.block_lt_of_cell? _ _ g3)).trans g3;clear g3;have g3:=g3_;clear g3_;clear hb BK4 HB4)
        rw[←K1.out];clear dc da1 da2 da3 db1 db2 db3 dc1 dc2 dc3 c0;cases bT with
        |false=>
          have k2:o3=o2:=by simpa using h3
          clear h3 hT;subst k2;go_upto_region 11 with (fail)
          cases bV with
          |false=>
            have k3:o4=o3:=by simpa using h4
            clear h4 hV;subst k3;go_wp2
            go_ret
            exact⟨rfl,HB5.out⟩
          |true=>
            have k3:o4=(o3++⟨#[32]⟩)++xV:=by simpa using h4
            have K3:=aS k3;have dc:=fun W:World=>PO.spec_ValText.calls 8 vk vn xV W (hV rfl)
            have zs:(o3++(⟨#[32]⟩:ByteArray)).size=o3.size+1:=by rw[ByteArray.size_append];rfl
            have zo:o4.size≤403:=by rw[k3,ByteArray.size_append,zs];omega
            have da1:decide (o3.size+1≤9223372036854775807)=true:=decide_eq_true (by omega)
            have da2:(9223372036854775807<o3.size+1)=False:=eq_false (by omega)
            have da3:(o3.size+1≤9223372036854775807)=True:=eq_true (by omega)
            have db1:decide ((o3++(⟨#[32]⟩:ByteArray)).size+xV.size≤9223372036854775807)=true:=decide_eq_true (by rw[zs];omega)
            have db2:(9223372036854775807<(o3++(⟨#[32]⟩:ByteArray)).size+xV.size)=False:=eq_false (by rw[zs];omega)
            have db3:((o3++(⟨#[32]⟩:ByteArray)).size+xV.size≤9223372036854775807)=True:=eq_true (by rw[zs];omega)
            have dc1:decide (o3.size+1+xV.size≤9223372036854775807)=true:=decide_eq_true (by omega)
            have dc2:(9223372036854775807<o3.size+1+xV.size)=False:=eq_false (by omega)
            have dc3:(o3.size+1+xV.size≤9223372036854775807)=True:=eq_true (by omega)
            have c0:w5.cell? ⟨w.heap.size,4,none⟩=some (.int .i64 vk):=(blk_cell BK5.out 4).trans rfl;have c1:w5.cell? ⟨w.heap.size,5,none⟩=some (.int .i64 vn):=(blk_cell BK5.out 5).trans rfl;clear h4 hV k3 zs;go_wp2_with (go_at_call 124;refine(dc _).mono ?_;rintro e w6 ⟨rfl,hb⟩;have BK6:=aS (blk_below BK5.out hb);have HB6:=aS (below_step HB5.out hb);clear hb BK5 HB5)
            go_ret
            exact⟨by rw[K3.out];rfl,HB6.out⟩
        |true=>
          have k2:o3=(o2++⟨#[32]⟩)++xT:=by simpa using h3
          have K2:=aS k2;have dc:=fun W:World=>PO.spec_l6Dec.calls 8 t xT W (hT rfl)
          have zs:(o2++(⟨#[32]⟩:ByteArray)).size=o2.size+1:=by rw[ByteArray.size_append];rfl
          have zo:o3.size≤403:=by rw[k2,ByteArray.size_append,zs];omega
          have da1:decide (o2.size+1≤9223372036854775807)=true:=decide_eq_true (by omega)
          have da2:(9223372036854775807<o2.size+1)=False:=eq_false (by omega)
          have da3:(o2.size+1≤9223372036854775807)=True:=eq_true (by omega)
          have db1:decide ((o2++(⟨#[32]⟩:ByteArray)).size+xT.size≤9223372036854775807)=true:=decide_eq_true (by rw[zs];omega)
          have db2:(9223372036854775807<(o2++(⟨#[32]⟩:ByteArray)).size+xT.size)=False:=eq_false (by rw[zs];omega)
          have db3:((o2++(⟨#[32]⟩:ByteArray)).size+xT.size≤9223372036854775807)=True:=eq_true (by rw[zs];omega)
          have dc1:decide (o2.size+1+xT.size≤9223372036854775807)=true:=decide_eq_true (by omega)
          have dc2:(9223372036854775807<o2.size+1+xT.size)=False:=eq_false (by omega)
          have dc3:(o2.size+1+xT.size≤9223372036854775807)=True:=eq_true (by omega)
          have c0:w5.cell? ⟨w.heap.size,3,none⟩=some (.int .i64 t):=(blk_cell BK5.out 3).trans rfl;clear h3 hT k2 zs;go_upto_region 11 with (go_at_call 125;refine(dc _).mono ?_;rintro e w6 ⟨rfl,hb⟩;have BK6:=aS (blk_below BK5.out hb);have HB6:=aS (below_step HB5.out hb);have g3_:=(hb.cell (World.block_lt_of_cell? _ _ g3)).trans g3;clear g3;have g3:=g3_;clear g3_;clear hb BK5 HB5)
          rw[←K2.out];clear dc da1 da2 da3 db1 db2 db3 dc1 dc2 dc3 c0;cases bV with
          |false=>
            have k3:o4=o3:=by simpa using h4
            clear h4 hV;subst k3;go_wp2
            go_ret
            exact⟨rfl,HB6.out⟩
          |true=>
            have k3:o4=(o3++⟨#[32]⟩)++xV:=by simpa using h4
            have K3:=aS k3;have dc:=fun W:World=>PO.spec_ValText.calls 8 vk vn xV W (hV rfl)
            have zs:(o3++(⟨#[32]⟩:ByteArray)).size=o3.size+1:=by rw[ByteArray.size_append];rfl
            have zo:o4.size≤504:=by rw[k3,ByteArray.size_append,zs];omega
            have da1:decide (o3.size+1≤9223372036854775807)=true:=decide_eq_true (by omega)
            have da2:(9223372036854775807<o3.size+1)=False:=eq_false (by omega)
            have da3:(o3.size+1≤9223372036854775807)=True:=eq_true (by omega)
            have db1:decide ((o3++(⟨#[32]⟩:ByteArray)).size+xV.size≤9223372036854775807)=true:=decide_eq_true (by rw[zs];omega)
            have db2:(9223372036854775807<(o3++(⟨#[32]⟩:ByteArray)).size+xV.size)=False:=eq_false (by rw[zs];omega)
            have db3:((o3++(⟨#[32]⟩:ByteArray)).size+xV.size≤9223372036854775807)=True:=eq_true (by rw[zs];omega)
            have dc1:decide (o3.size+1+xV.size≤9223372036854775807)=true:=decide_eq_true (by omega)
            have dc2:(9223372036854775807<o3.size+1+xV.size)=False:=eq_false (by omega)
            have dc3:(o3.size+1+xV.size≤9223372036854775807)=True:=eq_true (by omega)
            have c0:w6.cell? ⟨w.heap.size,4,none⟩=some (.int .i64 vk):=(blk_cell BK6.out 4).trans rfl;have c1:w6.cell? ⟨w.heap.size,5,none⟩=some (.int .i64 vn):=(blk_cell BK6.out 5).trans rfl;clear h4 hV k3 zs;go_wp2_with (go_at_call 124;refine(dc _).mono ?_;rintro e w7 ⟨rfl,hb⟩;have BK7:=aS (blk_below BK6.out hb);have HB7:=aS (below_step HB6.out hb);clear hb BK6 HB6)
            go_ret
            exact⟨by rw[K3.out];rfl,HB7.out⟩
theorem addN_mk {b:Bool} {out o1:ByteArray} {n:Int} (h:addN b out n=some o1): ∃x:ByteArray,x.size≤100∧(b=true→PO.spec_l6Dec.f 8 n=some x)∧o1=if b=true then(out++⟨#[32]⟩)++x else out:=by
  rcases addN_some h with ⟨rfl,rfl⟩|⟨rfl,x,h1,h2,rfl⟩
  · exact⟨⟨#[]⟩,Nat.zero_le _,fun h=>(by cases h),by simp⟩
  · exact⟨x,h2,fun _=>h1,by simp⟩
theorem addV_mk {b:Bool} {out o1:ByteArray} {k n:Int} (h:addV b out k n=some o1): ∃x:ByteArray,x.size≤100∧(b=true→PO.spec_ValText.f 8 k n=some x)∧o1=if b=true then(out++⟨#[32]⟩)++x else out:=by
  rcases addV_some h with ⟨rfl,rfl⟩|⟨rfl,x,h1,h2,rfl⟩
  · exact⟨⟨#[]⟩,Nat.zero_le _,fun h=>(by cases h),by simp⟩
  · exact⟨x,h2,fun _=>h1,by simp⟩
theorem name_size {k:Int} (h:1≤k∧k≤14):(nameB k).size≤100:=by
  have:k=1∨k=2∨k=3∨k=4∨k=5∨k=6∨k=7∨k=8∨k=9∨k=10∨k=11∨k=12∨k=13∨k=14:=by omega
  rcases this with rfl|rfl|rfl|rfl|rfl|rfl|rfl|rfl|rfl|rfl|rfl|rfl|rfl|rfl<;>decide
theorem spec_OpText.calls (k r s t vk vn:Int) (x:ByteArray) (w:World) (h:otextV.f k r s t vk vn=some x):
    Calls Try.prog 121 #[.agg #[.int .i64 k,.int .i64 r,.int .i64 s,.int .i64 t,.int .i64 vk,.int .i64 vn]] w fun e w'=>e= .returned (.string x)∧Below w.heap.size w w':=by
  unfold otextV.f at h;split at h
  · rename_i hop
    obtain⟨o1,h1,h⟩:=Option.bind_eq_some_iff.1 h;obtain⟨o2,h2,h⟩:=Option.bind_eq_some_iff.1 h;obtain⟨o3,h3,h⟩:=Option.bind_eq_some_iff.1 h;obtain⟨xR,zR,hR,e1⟩:=addN_mk h1;obtain⟨xS,zS,hS,e2⟩:=addN_mk h2;obtain⟨xT,zT,hT,e3⟩:=addN_mk h3;obtain⟨xV,zV,hV,e4⟩:=addV_mk h;have hk:=(opB_true.1 hop).1;exact text_walk k r s t vk vn w hop (nameB k) xR xS xT xV hk rfl ⟨name_size hk,zR,zS,zT,zV⟩ _ _ _ _ rfl rfl rfl rfl hR hS hT hV o1 o2 o3 x e1 e2 e3 e4
  · rename_i hop
    obtain rfl:=Option.some.inj h;exact text_no k r s t vk vn w (by simpa using hop)
end Go.Proofs.Ytmklpbmlgjkbiaa.PS
end
section
namespace Go.Proofs.Ytmklpbmlgjkbiaa.PT
open Go.RowKit Go.Proofs.YtmklpbmlgjkbiaaW.PrintWords Go.Proofs.YtmklpbmlgjkbiaaW.PrintLast Go.Proofs.YtmklpbmlgjkbiaaW.PrintMore Go.Proofs.Ytmklpbmlgjkbiaa.PS Go.Proofs.Ytmklpbmlgjkbiaa.PO
attribute [local go_sem] max2_int min2_int max_two min_two max_three min_three max_four min_four   -- for this text's walks alone
mutual
def spec_OpRead.l0:Nat→ByteArray→List ByteArray→List ByteArray→Int→Int→Int→Int→Int→Int→Int→Option (Int×Int×Int×Int×Int×Int×Bool)
 |0,_,_,_,_,_,_,_,_,_,_=>none
 |k+1,x0,x4,x5,x7,x109000,x109001,x109002,x109003,x109004,x109005=>if x7<(x5.length:Int)then(if 0≤x7 then(if 0<(x4.length:Int)then(if(rdOf ByteArray.empty x5 x7).toList=(rdOf ByteArray.empty x4 0).toList then(spec_OpRead.l0 k x0 x4 x5 (wrap64 (x7+1)) x7 x109001 x109002 x109003 x109004 x109005)else(spec_OpRead.l0 k x0 x4 x5 (wrap64 (x7+1)) x109000 x109001 x109002 x109003 x109004 x109005))else(none))else(none))else((spec_l2Form.f k x109000).bind fun t111=>(spec_OpRead.l1 k x0 x4 t111 1 0 x109000 x109001 x109002 x109003 x109004 x109005))
def spec_OpRead.l1:Nat→ByteArray→List ByteArray→List Bool→Int→Int→Int→Int→Int→Int→Int→Int→Option (Int×Int×Int×Int×Int×Int×Bool)
 |0,_,_,_,_,_,_,_,_,_,_,_=>none
 |k+1,x0,x4,x8,x9,x10,x109000,x109001,x109002,x109003,x109004,x109005=>if x10<(x8.length:Int)then(if 0≤x10 then(if rdOf false x8 x10=true then(if x9≥(x4.length:Int)then(some (0,0,0,0,0,0,false))else(if 0≤x9 then(if x9<(x4.length:Int)then((spec_l1Dec.f k (rdOf ByteArray.empty x4 x9)).bind fun bt116=>((spec_ValRead.f k (rdOf ByteArray.empty x4 x9)).bind fun bt119=>(if x10=0 then(spec_OpRead.l1 k x0 x4 x8 (wrap64 (x9+1)) (wrap64 (x10+1)) x109000 bt116.1 x109002 x109003 x109004 x109005)else(if x10=1 then(spec_OpRead.l1 k x0 x4 x8 (wrap64 (x9+1)) (wrap64 (x10+1)) x109000 x109001 bt116.1 x109003 x109004 x109005)else(if x10=2 then(spec_OpRead.l1 k x0 x4 x8 (wrap64 (x9+1)) (wrap64 (x10+1)) x109000 x109001 x109002 bt116.1 x109004 x109005)else(if x10=3 then(spec_OpRead.l1 k x0 x4 x8 (wrap64 (x9+1)) (wrap64 (x10+1)) x109000 x109001 x109002 x109003 bt119.1 bt119.2.1)else(spec_OpRead.l1 k x0 x4 x8 (wrap64 (x9+1)) (wrap64 (x10+1)) x109000 x109001 x109002 x109003 x109004 x109005)))))))else(none))else(none)))else(spec_OpRead.l1 k x0 x4 x8 x9 (wrap64 (x10+1)) x109000 x109001 x109002 x109003 x109004 x109005))else(none))else(if x0.toList=([]:List UInt8)then(spec_OpRead.j2 k true x109000 x109001 x109002 x109003 x109004 x109005)else((otextV.f x109000 x109001 x109002 x109003 x109004 x109005).bind fun t123=>(spec_OpRead.j2 k (t123.toList !=x0.toList) x109000 x109001 x109002 x109003 x109004 x109005)))
def spec_OpRead.j2:Nat→Bool→Int→Int→Int→Int→Int→Int→Option (Int×Int×Int×Int×Int×Int×Bool)
 |0,_,_,_,_,_,_,_=>none
 |k+1,x100,x109000,x109001,x109002,x109003,x109004,x109005=>if x100=true then(some (0,0,0,0,0,0,false))else(some (x109000,x109001,x109002,x109003,x109004,x109005,true))
end
def spec_OpRead.f (k:Nat) (a0:ByteArray):Option (Int×Int×Int×Int×Int×Int×Bool):=if(a0.size:Int)>24 then(some (0,0,0,0,0,0,false))else((cutV.f a0 32).bind fun t102=>((spec_l2Names.f).bind fun t105=>(spec_OpRead.l0 k a0 t102 t105 1 0 0 0 0 0 0)))
theorem spec_OpRead.calls (k:Nat) (a0:ByteArray) (r1:Int) (r2:Int) (r3:Int) (r4:Int) (r5:Int) (r6:Int) (r7:Bool) (w:World) (h:spec_OpRead.f k a0=some (r1,r2,r3,r4,r5,r6,r7)):
  Calls Try.prog 113 #[.string a0] w fun e w'=>e= .returned (.tuple #[.agg #[.int .i64 r1,.int .i64 r2,.int .i64 r3,.int .i64 r4,.int .i64 r5,.int .i64 r6],.bool r7])∧Below w.heap.size w w':=by
 have hu29:=Try.underlying29;have hu27:=Try.underlying27;have HB:=aS (Below.refl w.heap.size w);have H:(if(a0.size:Int)>24 then(some (0,0,0,0,0,0,false))else((cutV.f a0 32).bind fun t102=>((spec_l2Names.f).bind fun t105=>(spec_OpRead.l0 k a0 t102 t105 1 0 0 0 0 0 0))))=some (r1,r2,r3,r4,r5,r6,r7):=h
 clear h;by_cases c2:(a0.size:Int)>24
 ·rw[if_pos c2]at H
  have c2b0:decide (24<(a0.size:Int))=true:=decide_eq_true c2;have c2b1:decide (24<a0.size)=true:=decide_eq_true (by omega)
  clear c2;simp only[Option.some.injEq,Prod.mk.injEq]at H
  obtain⟨rfl,rfl,rfl,rfl,rfl,rfl,rfl⟩:=H;go_enter Try.func113,Try.ntmps113
  go_wp2_with (first|((with_reducible refine gate_dst (N:=2) rfl ?_);refine box_event ?hg (N:=2) ?hd (cs:= #[.int .i64 0,.int .i64 0,.int .i64 0,.int .i64 0,.int .i64 0,.int .i64 0]) (t:=29) ?hr ?_;(case hd=>rfl);(case hg=>rfl);(case hr=>go_simp<;>rfl);intro gb101 hg w3 hbox hb;have n0_:=aS (below_step (by exact bU HB.out) hb);have n1_:=aS (hbox);have n2_:=aS ((by rw[hg];exact(below_size (by exact bU HB.out)):w.heap.size≤gb101));have n3_:=aS ((by rw[hg];exact(below_size (by exact bU HB.out)):w.heap.size≤gb101));clear HB;have HB:=n0_;have BK101:=n1_;have GW101:=n2_;have GE101:=n3_;clear n0_ n1_ n2_ n3_;clear hb hbox hg;obtain⟨hcz4_0,hcz4_1,hcz4_2,hcz4_3,hcz4_4,hcz4_5⟩:=six_cells BK101.out;obtain⟨hfz4_0,hfz4_1,hfz4_2,hfz4_3,hfz4_4,hfz4_5⟩:=six_marks BK101.out))
  refine bodyPost_ret (results_ct rfl _ _ gb101 29 #[.int .i64 0,.int .i64 0,.int .i64 0,.int .i64 0,.int .i64 0,.int .i64 0] (0,0) _ rfl (by refine kU ?_;refine blk_put (cs:= #[.int .i64 0,.int .i64 0,.int .i64 0,.int .i64 0,.int .i64 0,.int .i64 0]) ?_ 5 _ rfl;refine kU ?_;refine blk_put (cs:= #[.int .i64 0,.int .i64 0,.int .i64 0,.int .i64 0,.int .i64 0,.int .i64 0]) ?_ 4 _ rfl;refine kU ?_;refine blk_put (cs:= #[.int .i64 0,.int .i64 0,.int .i64 0,.int .i64 0,.int .i64 0,.int .i64 0]) ?_ 3 _ rfl;refine kU ?_;refine blk_put (cs:= #[.int .i64 0,.int .i64 0,.int .i64 0,.int .i64 0,.int .i64 0,.int .i64 0]) ?_ 2 _ rfl;refine kU ?_;refine blk_put (cs:= #[.int .i64 0,.int .i64 0,.int .i64 0,.int .i64 0,.int .i64 0,.int .i64 0]) ?_ 1 _ rfl;refine kU ?_;refine blk_put (cs:= #[.int .i64 0,.int .i64 0,.int .i64 0,.int .i64 0,.int .i64 0,.int .i64 0]) ?_ 0 _ rfl;exact blkU BK101.out) Try.underlying29 rfl (by kernel_rfl)) rfl ?_
  exact⟨by first|rfl|(simp[*]<;>rfl),by repeat(with_reducible first|exact HB.out|apply bA|apply bN|apply b1|refine below_set ?_ GE101.out)⟩
 ·rw[if_neg c2]at H
  have c2b0:decide (24<(a0.size:Int))=false:=decide_eq_false c2;have c2b1:decide (24<a0.size)=false:=decide_eq_false (by omega)
  clear c2;replace H:=Option.bind_eq_some_iff.mp H;obtain⟨t102,A50,H⟩:=H;replace H:((spec_l2Names.f).bind fun t105=>(spec_OpRead.l0 k a0 t102 t105 1 0 0 0 0 0 0))=some (r1,r2,r3,r4,r5,r6,r7):=H
  have A5:=aS A50;clear A50;replace H:=Option.bind_eq_some_iff.mp H;obtain⟨t105,A60,H⟩:=H;replace H:(spec_OpRead.l0 k a0 t102 t105 1 0 0 0 0 0 0)=some (r1,r2,r3,r4,r5,r6,r7):=H;have A6:=aS A60;clear A60;have H':=aS H;clear H;go_enter Try.func113,Try.ntmps113
  go_wp2_with (first|((with_reducible refine gate_dst (N:=2) rfl ?_);refine box_event ?hg (N:=2) ?hd (cs:= #[.int .i64 0,.int .i64 0,.int .i64 0,.int .i64 0,.int .i64 0,.int .i64 0]) (t:=29) ?hr ?_;(case hd=>rfl);(case hg=>rfl);(case hr=>go_simp<;>rfl);intro gb101 hg w7 hbox hb;have n0_:=aS (below_step (by exact bU HB.out) hb);have n1_:=aS (hbox);have n2_:=aS ((by rw[hg];exact(below_size (by exact bU HB.out)):w.heap.size≤gb101));have n3_:=aS ((by rw[hg];exact(below_size (by exact bU HB.out)):w.heap.size≤gb101));clear HB;have HB:=n0_;have BK101:=n1_;have GW101:=n2_;have GE101:=n3_;clear n0_ n1_ n2_ n3_;clear hb hbox hg)|(go_at_call 112;(with_reducible refine(spec_l2Cut.calls a0 32 t102 _ A5.out).mono ?_);rintro e w8 ⟨v103,rfl,ho0,hb⟩;have HO104:=aS (Kd.R_lower ho0 (below_size (by repeat(with_reducible first|exact HB.out|apply bA|apply bN|apply b1|refine below_set ?_ GE101.out))));replace BK101:=aS (blk_below (g:=gb101) (o:=.cells #[.int .i64 0,.int .i64 0,.int .i64 0,.int .i64 0,.int .i64 0,.int .i64 0] 29 (0,0)) (by exact blkU BK101.out) hb);replace HB:=aS (below_step (by repeat(with_reducible first|exact HB.out|apply bA|apply bN|apply b1|refine below_set ?_ GE101.out)) hb);(try clear hb);(try clear ho0))|(go_at_call 118;(with_reducible refine(spec_l2Names.calls t105 _ A6.out).mono ?_);rintro e w9 ⟨v106,rfl,ho0,hb⟩;have n0_:=aS (Kd.R_elder' (by exact rU HO104.out) (Kd.R_base ho0) hb);have n1_:=aS (Kd.R_lower (Kd.R_new' ho0 (Kd.R_lt (by exact rU HO104.out))) (below_size (by repeat(with_reducible first|exact HB.out|apply bA|apply bN|apply b1|refine below_set ?_ GE101.out))));have n2_:=aS (blk_below (g:=gb101) (o:=.cells #[.int .i64 0,.int .i64 0,.int .i64 0,.int .i64 0,.int .i64 0,.int .i64 0] 29 (0,0)) (by exact blkU BK101.out) hb);have n3_:=aS (below_step (by repeat(with_reducible first|exact HB.out|apply bA|apply bN|apply b1|refine below_set ?_ GE101.out)) hb);clear HO104;clear BK101;clear HB;have HO104:=n0_;have HO107:=n1_;have BK101:=n2_;have HB:=n3_;clear n0_ n1_ n2_ n3_;(try clear hb);(try clear ho0))|((with_reducible refine gate_dst (N:=6) rfl ?_);refine box_event ?hg (N:=6) ?hd (cs:= #[.int .i64 0,.int .i64 0,.int .i64 0,.int .i64 0,.int .i64 0,.int .i64 0]) (t:=29) ?hr ?_;(case hd=>rfl);(case hg=>rfl);(case hr=>go_simp<;>rfl);intro gb108 hg w10 hbox hb;have n0_:=aS (Kd.R_below (by exact rU HO104.out) hb);have n1_:=aS (Kd.R_below (by exact rU HO107.out) hb);have n2_:=aS (blk_below (g:=gb101) (o:=.cells #[.int .i64 0,.int .i64 0,.int .i64 0,.int .i64 0,.int .i64 0,.int .i64 0] 29 (0,0)) (by exact blkU BK101.out) hb);have n3_:=aS (below_step (by repeat(with_reducible first|exact HB.out|apply bA|apply bN|apply b1|refine below_set ?_ GE101.out)) hb);have n4_:=aS (hbox);have n5_:=aS ((by rw[hg];exact(below_size (by repeat(with_reducible first|exact HB.out|apply bA|apply bN|apply b1|refine below_set ?_ GE101.out))):w.heap.size≤gb108));have n6_:=aS ((by rw[hg];exact(below_size (by repeat(with_reducible first|exact HB.out|apply bA|apply bN|apply b1|refine below_set ?_ GE101.out))):w.heap.size≤gb108));have n7_:=aS ((by rw[hg];exact Nat.ne_of_lt (blk_lt (g:=gb101) (o:=.cells #[.int .i64 0,.int .i64 0,.int .i64 0,.int .i64 0,.int .i64 0,.int .i64 0] 29 (0,0)) (by exact blkU BK101.out)):gb101≠gb108));have n8_:=aS ((by rw[hg];exact Nat.ne_of_gt (blk_lt (g:=gb101) (o:=.cells #[.int .i64 0,.int .i64 0,.int .i64 0,.int .i64 0,.int .i64 0,.int .i64 0] 29 (0,0)) (by exact blkU BK101.out)):gb108≠gb101));clear HO104;clear HO107;clear BK101;clear HB;have HO104:=n0_;have HO107:=n1_;have BK101:=n2_;have HB:=n3_;have BK108:=n4_;have GW108:=n5_;have GE108:=n6_;have NB101_108:=n7_;have NB108_101:=n8_;clear n0_ n1_ n2_ n3_ n4_ n5_ n6_ n7_ n8_;clear hb hbox hg;have hnb11:=NB108_101.out;have hnc11:=NB101_108.out;obtain⟨hcz12_0,hcz12_1,hcz12_2,hcz12_3,hcz12_4,hcz12_5⟩:=six_cells BK108.out;obtain⟨hfz12_0,hfz12_1,hfz12_2,hfz12_3,hfz12_4,hfz12_5⟩:=six_marks BK108.out))
  go_loopg [7] k (fun kq v7 w'=> ∃ (x7_1:Int) (x109000_1:Int),v7= .int .i64 x7_1∧Aside0 (spec_OpRead.l0 kq a0 t102 t105 x7_1 x109000_1 0 0 0 0 0=some (r1,r2,r3,r4,r5,r6,r7))∧Aside0 (kq≤k)∧Aside0 (Kd.R Kd.string 9 w' w.heap.size (fun k_=>some k_≠(v106:Value).ownBlock) v103 t102)∧Aside0 (Kd.R Kd.string 9 w' w.heap.size (fun k_=>some k_≠(v103:Value).ownBlock) v106 t105)∧Aside0 (w'.heap[gb101]?=some (.cells #[.int .i64 0,.int .i64 0,.int .i64 0,.int .i64 0,.int .i64 0,.int .i64 0] 29 (0,0)))∧Aside0 (w'.heap[gb108]?=some (.cells #[.int .i64 x109000_1,.int .i64 0,.int .i64 0,.int .i64 0,.int .i64 0,.int .i64 0] 29 (0,0)))∧Aside0 (Below w.heap.size w w'))
  case atStart=>exact⟨(1),(0),(by first|rfl|(simp;done)|(simp[*];done)),H',⟨Nat.le_refl _⟩,⟨by(with_reducible repeat(first|apply rA|apply rN|apply rD));exact Kd.R_mono (Kd.R_far (p:=⟨gb108,5,none⟩) (Kd.R_far (p:=⟨gb108,4,none⟩) (Kd.R_far (p:=⟨gb108,3,none⟩) (Kd.R_far (p:=⟨gb108,2,none⟩) (Kd.R_far (p:=⟨gb108,1,none⟩) (Kd.R_far (p:=⟨gb108,0,none⟩) (Kd.R_types HO104.out BK108.out (by decide)) (fun _ hk=>hk.2) (.int .i64 0)) (fun _ hk=>hk.2) (.int .i64 0)) (fun _ hk=>hk.2) (.int .i64 0)) (fun _ hk=>hk.2) (.int .i64 0)) (fun _ hk=>hk.2) (.int .i64 0)) (fun _ hk=>hk.2) (.int .i64 0)) (fun _ hk=>hk.1.2)⟩,⟨by(with_reducible repeat(first|apply rA|apply rN|apply rD));exact Kd.R_mono (Kd.R_far (p:=⟨gb108,5,none⟩) (Kd.R_far (p:=⟨gb108,4,none⟩) (Kd.R_far (p:=⟨gb108,3,none⟩) (Kd.R_far (p:=⟨gb108,2,none⟩) (Kd.R_far (p:=⟨gb108,1,none⟩) (Kd.R_far (p:=⟨gb108,0,none⟩) (Kd.R_types HO107.out BK108.out (by decide)) (fun _ hk=>hk.2) (.int .i64 0)) (fun _ hk=>hk.2) (.int .i64 0)) (fun _ hk=>hk.2) (.int .i64 0)) (fun _ hk=>hk.2) (.int .i64 0)) (fun _ hk=>hk.2) (.int .i64 0)) (fun _ hk=>hk.2) (.int .i64 0)) (fun _ hk=>hk.1.2)⟩,⟨by refine kU ?_;refine blk_far ?_ NB101_108.out _;refine kU ?_;refine blk_far ?_ NB101_108.out _;refine kU ?_;refine blk_far ?_ NB101_108.out _;refine kU ?_;refine blk_far ?_ NB101_108.out _;refine kU ?_;refine blk_far ?_ NB101_108.out _;refine kU ?_;refine blk_far ?_ NB101_108.out _;exact blkU BK101.out⟩,⟨by refine kU ?_;refine blk_put (cs:= #[.int .i64 0,.int .i64 0,.int .i64 0,.int .i64 0,.int .i64 0,.int .i64 0]) ?_ 5 _ rfl;refine kU ?_;refine blk_put (cs:= #[.int .i64 0,.int .i64 0,.int .i64 0,.int .i64 0,.int .i64 0,.int .i64 0]) ?_ 4 _ rfl;refine kU ?_;refine blk_put (cs:= #[.int .i64 0,.int .i64 0,.int .i64 0,.int .i64 0,.int .i64 0,.int .i64 0]) ?_ 3 _ rfl;refine kU ?_;refine blk_put (cs:= #[.int .i64 0,.int .i64 0,.int .i64 0,.int .i64 0,.int .i64 0,.int .i64 0]) ?_ 2 _ rfl;refine kU ?_;refine blk_put (cs:= #[.int .i64 0,.int .i64 0,.int .i64 0,.int .i64 0,.int .i64 0,.int .i64 0]) ?_ 1 _ rfl;refine kU ?_;refine blk_put (cs:= #[.int .i64 0,.int .i64 0,.int .i64 0,.int .i64 0,.int .i64 0,.int .i64 0]) ?_ 0 _ rfl;exact blkU BK108.out⟩,⟨by repeat(with_reducible first|exact HB.out|apply bA|apply bN|apply b1|refine below_set ?_ GE101.out|refine below_set ?_ GE108.out)⟩⟩
  case round=>
   clear H';(try clear c1);(try clear c2);(try clear c2b0);(try clear c2b1);(try clear p2);(try clear c11);(try clear hcz12_0);(try clear hcz12_1);(try clear hcz12_2);(try clear hcz12_3);(try clear hcz12_4);(try clear hcz12_5);(try clear hcz4_0);(try clear hcz4_1);(try clear hcz4_2);(try clear hcz4_3);(try clear hcz4_4);(try clear hcz4_5);(try clear hfz12_0);(try clear hfz12_1);(try clear hfz12_2);(try clear hfz12_3);(try clear hfz12_4);(try clear hfz12_5);(try clear hfz4_0);(try clear hfz4_1);(try clear hfz4_2);(try clear hfz4_3);(try clear hfz4_4);(try clear hfz4_5)
   obtain⟨x7_1,x109000_1,rfl,HA,HK1,HO_4,HO_5,BK101,BK108,HB⟩:=hrel;cases gk with
   |zero=>exact absurd HA.out (by simp[spec_OpRead.l0])
   |succ k1=>
    have H:=HA.out;clear HA;simp only[spec_OpRead.l0]at H
    by_cases c13:x7_1<(t105.length:Int)
    ·rw[if_pos c13]at H
     have c13b0:decide (x7_1<(t105.length:Int))=true:=decide_eq_true c13;clear c13;by_cases c14:0≤x7_1
     ·rw[if_pos c14]at H
      have c14b0:decide (0≤x7_1)=true:=decide_eq_true c14;clear c14;by_cases c15:0<(t102.length:Int)
      ·rw[if_pos c15]at H
       have c15b0:decide (0<(t102.length:Int))=true:=decide_eq_true c15;have c15b1:decide (0<t102.length)=true:=decide_eq_true (by omega)
       clear c15;by_cases c16:(rdOf ByteArray.empty t105 x7_1).toList=(rdOf ByteArray.empty t102 0).toList
       ·rw[if_pos c16]at H
        have c16b0:((rdOf ByteArray.empty t105 x7_1).toList==(rdOf ByteArray.empty t102 0).toList)=true:=beq_iff_eq.mpr c16;have c16b1:((rdOf ByteArray.empty t105 x7_1).toList !=(rdOf ByteArray.empty t102 0).toList)=false:=bne_eq_false_iff_eq.mpr c16;clear c16;have H':=aS H;clear H;obtain⟨Ao17,co17,eo17⟩:=Kd.R_slice HO_5.out;subst eo17;have p109:0≤(x7_1:Int):=of_decide_eq_true (by assumption)
        have q109:x7_1<(t105.length:Int):=of_decide_eq_true (by assumption)
        obtain⟨ad109,e109,hx109_0⟩:=Kd.at_string (Kd.R_reads' HO_5.out).2.2 x7_1 p109 q109;cases e109
        replace p109:=eq_true p109;replace q109:=eq_true q109;obtain⟨Ao18,co18,eo18⟩:=Kd.R_slice HO_4.out;subst eo18;have p110:0≤(0:Int):=(by omega)
        have q110:0<(t102.length:Int):=of_decide_eq_true (by assumption)
        obtain⟨ad110,e110,hx110_0⟩:=Kd.at_string (Kd.R_reads' HO_4.out).2.2 0 p110 q110;cases e110
        have qi110:(0<t102.length)=True:=eq_true (by omega)
        (try rw[show((0:Int)).toNat=0 from rfl]at hx110_0)
        (try rw[Addr.add_zero']at hx110_0)
        replace p110:=eq_true p110;replace q110:=eq_true q110;have hnb19:=NB108_101.out;have hnc19:=NB101_108.out;have hcz20_0:wr.cell? ⟨gb108,0,none⟩=some (.int .i64 x109000_1):=(blk_cell BK108.out 0).trans rfl;have hcz20_1:wr.cell? ⟨gb108,1,none⟩=some (.int .i64 0):=(blk_cell BK108.out 1).trans rfl;have hcz20_2:wr.cell? ⟨gb108,2,none⟩=some (.int .i64 0):=(blk_cell BK108.out 2).trans rfl;have hcz20_3:wr.cell? ⟨gb108,3,none⟩=some (.int .i64 0):=(blk_cell BK108.out 3).trans rfl;have hcz20_4:wr.cell? ⟨gb108,4,none⟩=some (.int .i64 0):=(blk_cell BK108.out 4).trans rfl;have hcz20_5:wr.cell? ⟨gb108,5,none⟩=some (.int .i64 0):=(blk_cell BK108.out 5).trans rfl;have hfz20_0:=blk_frozen BK108.out 0;have hfz20_1:=blk_frozen BK108.out 1;have hfz20_2:=blk_frozen BK108.out 2;have hfz20_3:=blk_frozen BK108.out 3;have hfz20_4:=blk_frozen BK108.out 4;have hfz20_5:=blk_frozen BK108.out 5;go_wp2
        repeat(go_quiet (fail);try go_wp2)
        go_roundg k1
        case measure=>have:=HK1.out;omega
        case rel=>exact⟨(wrap64 (x7_1+1)),(x7_1),(by first|rfl|(simp;done)|(simp[*];done)),H',⟨by have:=HK1.out;omega⟩,⟨by(with_reducible repeat(first|apply rA|apply rN|apply rD));exact Kd.R_mono (Kd.R_far (p:=⟨gb108,0,none⟩) (Kd.R_types HO_4.out BK108.out (by decide)) (fun _ hk=>hk.2) (.int .i64 x7_1)) (fun _ hk=>hk.1)⟩,⟨by(with_reducible repeat(first|apply rA|apply rN|apply rD));exact Kd.R_mono (Kd.R_far (p:=⟨gb108,0,none⟩) (Kd.R_types HO_5.out BK108.out (by decide)) (fun _ hk=>hk.2) (.int .i64 x7_1)) (fun _ hk=>hk.1)⟩,⟨by refine kU ?_;refine blk_far ?_ NB101_108.out _;exact blkU BK101.out⟩,⟨by refine kU ?_;refine blk_put (cs:= #[.int .i64 x109000_1,.int .i64 0,.int .i64 0,.int .i64 0,.int .i64 0,.int .i64 0]) ?_ 0 _ rfl;exact blkU BK108.out⟩,⟨by repeat(with_reducible first|exact HB.out|apply bA|apply bN|apply b1|refine below_set ?_ GE101.out|refine below_set ?_ GE108.out)⟩⟩
       ·rw[if_neg c16]at H
        have c16b0:((rdOf ByteArray.empty t105 x7_1).toList==(rdOf ByteArray.empty t102 0).toList)=false:=beq_eq_false_iff_ne.mpr c16;have c16b1:((rdOf ByteArray.empty t105 x7_1).toList !=(rdOf ByteArray.empty t102 0).toList)=true:=bne_iff_ne.mpr c16;have H':=aS H;clear H;obtain⟨Ao21,co21,eo21⟩:=Kd.R_slice HO_5.out;subst eo21;have p109:0≤(x7_1:Int):=of_decide_eq_true (by assumption)
        have q109:x7_1<(t105.length:Int):=of_decide_eq_true (by assumption)
        obtain⟨ad109,e109,hx109_0⟩:=Kd.at_string (Kd.R_reads' HO_5.out).2.2 x7_1 p109 q109;cases e109
        replace p109:=eq_true p109;replace q109:=eq_true q109;obtain⟨Ao22,co22,eo22⟩:=Kd.R_slice HO_4.out;subst eo22;have p110:0≤(0:Int):=(by omega)
        have q110:0<(t102.length:Int):=of_decide_eq_true (by assumption)
        obtain⟨ad110,e110,hx110_0⟩:=Kd.at_string (Kd.R_reads' HO_4.out).2.2 0 p110 q110;cases e110
        have qi110:(0<t102.length)=True:=eq_true (by omega)
        (try rw[show((0:Int)).toNat=0 from rfl]at hx110_0)
        (try rw[Addr.add_zero']at hx110_0)
        replace p110:=eq_true p110;replace q110:=eq_true q110;go_wp2
        repeat(go_quiet (fail);try go_wp2)
        go_roundg k1
        case measure=>have:=HK1.out;omega
        case rel=>exact⟨(wrap64 (x7_1+1)),(x109000_1),(by first|rfl|(simp;done)|(simp[*];done)),H',⟨by have:=HK1.out;omega⟩,⟨by exact rU HO_4.out⟩,⟨by exact rU HO_5.out⟩,⟨by exact blkU BK101.out⟩,⟨by exact blkU BK108.out⟩,⟨by repeat(with_reducible first|exact HB.out|apply bA|apply bN|apply b1|refine below_set ?_ GE101.out|refine below_set ?_ GE108.out)⟩⟩
      ·rw[if_neg c15]at H
       exact absurd H (by simp)
     ·rw[if_neg c14]at H
      exact absurd H (by simp)
    ·rw[if_neg c13]at H
     have c13b0:decide (x7_1<(t105.length:Int))=false:=decide_eq_false c13;clear c13;replace H:=Option.bind_eq_some_iff.mp H;obtain⟨t111,A230,H⟩:=H;replace H:(spec_OpRead.l1 k1 a0 t102 t111 1 0 x109000_1 0 0 0 0 0)=some (r1,r2,r3,r4,r5,r6,r7):=H;have A23:=aS A230;clear A230;have H':=aS H;clear H;obtain⟨Ao24,co24,eo24⟩:=Kd.R_slice HO_5.out;subst eo24;have hnb25:=NB108_101.out;have hnc25:=NB101_108.out;have hcz26_0:wr.cell? ⟨gb108,0,none⟩=some (.int .i64 x109000_1):=(blk_cell BK108.out 0).trans rfl;have hcz26_1:wr.cell? ⟨gb108,1,none⟩=some (.int .i64 0):=(blk_cell BK108.out 1).trans rfl;have hcz26_2:wr.cell? ⟨gb108,2,none⟩=some (.int .i64 0):=(blk_cell BK108.out 2).trans rfl;have hcz26_3:wr.cell? ⟨gb108,3,none⟩=some (.int .i64 0):=(blk_cell BK108.out 3).trans rfl;have hcz26_4:wr.cell? ⟨gb108,4,none⟩=some (.int .i64 0):=(blk_cell BK108.out 4).trans rfl;have hcz26_5:wr.cell? ⟨gb108,5,none⟩=some (.int .i64 0):=(blk_cell BK108.out 5).trans rfl;have hfz26_0:=blk_frozen BK108.out 0;have hfz26_1:=blk_frozen BK108.out 1;have hfz26_2:=blk_frozen BK108.out 2;have hfz26_3:=blk_frozen BK108.out 3;have hfz26_4:=blk_frozen BK108.out 4;have hfz26_5:=blk_frozen BK108.out 5;go_wp2_with (first|(go_at_call 57;(with_reducible refine(spec_l2Form.calls k1 x109000_1 t111 _ A23.out).mono ?_);rintro e w27 ⟨v112,rfl,ho0,hb⟩;replace HO_4:=aS (Kd.R_below (by exact rU HO_4.out) hb);replace HO_5:=aS (Kd.R_below (by exact rU HO_5.out) hb);have HO113:=aS (Kd.R_lower ho0 (below_size (by repeat(with_reducible first|exact HB.out|apply bA|apply bN|apply b1|refine below_set ?_ GE101.out|refine below_set ?_ GE108.out))));replace BK101:=aS (blk_below (g:=gb101) (o:=.cells #[.int .i64 0,.int .i64 0,.int .i64 0,.int .i64 0,.int .i64 0,.int .i64 0] 29 (0,0)) (by exact blkU BK101.out) hb);replace BK108:=aS (blk_below (g:=gb108) (o:=.cells #[.int .i64 x109000_1,.int .i64 0,.int .i64 0,.int .i64 0,.int .i64 0,.int .i64 0] 29 (0,0)) (by exact blkU BK108.out) hb);replace HB:=aS (below_step (by repeat(with_reducible first|exact HB.out|apply bA|apply bN|apply b1|refine below_set ?_ GE101.out|refine below_set ?_ GE108.out)) hb);(try clear hb);(try clear ho0)))
     go_loopg [9,10] k1 (fun kq v9 v10 w'=> ∃ (x9_2:Int) (x10_2:Int) (x102000_2:Int) (x102001_2:Int) (x102002_2:Int) (x102003_2:Int) (x102004_2:Int) (x102005_2:Int) (x109001_2:Int) (x109002_2:Int) (x109003_2:Int) (x109004_2:Int) (x109005_2:Int),v9= .int .i64 x9_2∧v10= .int .i64 x10_2∧Aside0 (spec_OpRead.l1 kq a0 t102 t111 x9_2 x10_2 x109000_1 x109001_2 x109002_2 x109003_2 x109004_2 x109005_2=some (r1,r2,r3,r4,r5,r6,r7))∧Aside0 (kq≤k1)∧Aside0 (Kd.R Kd.string 9 w' w.heap.size (fun _=>True) v103 t102)∧Aside0 (Kd.R Kd.bool 4 w' w.heap.size (fun _=>True) v112 t111)∧Aside0 (w'.heap[gb101]?=some (.cells #[.int .i64 x102000_2,.int .i64 x102001_2,.int .i64 x102002_2,.int .i64 x102003_2,.int .i64 x102004_2,.int .i64 x102005_2] 29 (0,0)))∧Aside0 (w'.heap[gb108]?=some (.cells #[.int .i64 x109000_1,.int .i64 x109001_2,.int .i64 x109002_2,.int .i64 x109003_2,.int .i64 x109004_2,.int .i64 x109005_2] 29 (0,0)))∧Aside0 (Below w.heap.size w w'))
     case atStart=>exact⟨(1),(0),(0),(0),(0),(0),(0),(0),(0),(0),(0),(0),(0),(by first|rfl|(simp;done)|(simp[*];done)),(by first|rfl|(simp;done)|(simp[*];done)),H',⟨Nat.le_refl _⟩,⟨by exact rU (Kd.R_mono HO_4.out (fun _ hk=>trivial))⟩,⟨by exact rU HO113.out⟩,⟨by exact blkU BK101.out⟩,⟨by exact blkU BK108.out⟩,⟨by repeat(with_reducible first|exact HB.out|apply bA|apply bN|apply b1|refine below_set ?_ GE101.out|refine below_set ?_ GE108.out)⟩⟩
     case round=>
      clear H';(try clear c1);(try clear p1);(try clear q1);(try clear hx1);(try clear qi1);(try clear c2);(try clear c2b0);(try clear c2b1);(try clear p2);(try clear p6);(try clear p10);(try clear q10);(try clear hx10);(try clear c11);(try clear p11);(try clear q11);(try clear hx11);(try clear qi11);(try clear c13);(try clear c13b0);(try clear c14);(try clear c14b0);(try clear c15);(try clear c15b0);(try clear c15b1);(try clear c16);(try clear c16b0);(try clear c16b1);(try clear c19);(try clear c25);(try clear hcz12_0);(try clear hcz12_1);(try clear hcz12_2);(try clear hcz12_3);(try clear hcz12_4);(try clear hcz12_5);(try clear hcz20_0);(try clear hcz20_1);(try clear hcz20_2);(try clear hcz20_3);(try clear hcz20_4);(try clear hcz20_5);(try clear hcz26_0);(try clear hcz26_1);(try clear hcz26_2);(try clear hcz26_3);(try clear hcz26_4);(try clear hcz26_5);(try clear hcz4_0);(try clear hcz4_1);(try clear hcz4_2);(try clear hcz4_3);(try clear hcz4_4);(try clear hcz4_5);(try clear hfz12_0);(try clear hfz12_1);(try clear hfz12_2);(try clear hfz12_3);(try clear hfz12_4);(try clear hfz12_5);(try clear hfz20_0);(try clear hfz20_1);(try clear hfz20_2);(try clear hfz20_3);(try clear hfz20_4);(try clear hfz20_5);(try clear hfz26_0);(try clear hfz26_1);(try clear hfz26_2);(try clear hfz26_3);(try clear hfz26_4);(try clear hfz26_5);(try clear hfz4_0);(try clear hfz4_1);(try clear hfz4_2);(try clear hfz4_3);(try clear hfz4_4);(try clear hfz4_5);(try clear hx109_0);(try clear hx110_0);(try clear p109);(try clear p110);(try clear p2);(try clear q109);(try clear q110)
      obtain⟨x9_2,x10_2,x102000_2,x102001_2,x102002_2,x102003_2,x102004_2,x102005_2,x109001_2,x109002_2,x109003_2,x109004_2,x109005_2,rfl,rfl,HA,HK2,HO_4,HO_8,BK101,BK108,HB⟩:=hrel;cases gk with
      |zero=>exact absurd HA.out (by simp[spec_OpRead.l1])
      |succ k2=>
       have H:=HA.out;clear HA;simp only[spec_OpRead.l1]at H
       by_cases c28:x10_2<(t111.length:Int)
       ·rw[if_pos c28]at H
        have c28b0:decide (x10_2<(t111.length:Int))=true:=decide_eq_true c28;clear c28;by_cases c29:0≤x10_2
        ·rw[if_pos c29]at H
         have c29b0:decide (0≤x10_2)=true:=decide_eq_true c29;clear c29;obtain⟨bq30,hbq30⟩: ∃b_:Bool,b_=(rdOf false t111 x10_2):=⟨_,rfl⟩;replace H:(if bq30=true then(if x9_2≥(t102.length:Int)then(some (0,0,0,0,0,0,false))else(if 0≤x9_2 then(if x9_2<(t102.length:Int)then((spec_l1Dec.f k2 (rdOf ByteArray.empty t102 x9_2)).bind fun bt116=>((spec_ValRead.f k2 (rdOf ByteArray.empty t102 x9_2)).bind fun bt119=>(if x10_2=0 then(spec_OpRead.l1 k2 a0 t102 t111 (wrap64 (x9_2+1)) (wrap64 (x10_2+1)) x109000_1 bt116.1 x109002_2 x109003_2 x109004_2 x109005_2)else(if x10_2=1 then(spec_OpRead.l1 k2 a0 t102 t111 (wrap64 (x9_2+1)) (wrap64 (x10_2+1)) x109000_1 x109001_2 bt116.1 x109003_2 x109004_2 x109005_2)else(if x10_2=2 then(spec_OpRead.l1 k2 a0 t102 t111 (wrap64 (x9_2+1)) (wrap64 (x10_2+1)) x109000_1 x109001_2 x109002_2 bt116.1 x109004_2 x109005_2)else(if x10_2=3 then(spec_OpRead.l1 k2 a0 t102 t111 (wrap64 (x9_2+1)) (wrap64 (x10_2+1)) x109000_1 x109001_2 x109002_2 x109003_2 bt119.1 bt119.2.1)else(spec_OpRead.l1 k2 a0 t102 t111 (wrap64 (x9_2+1)) (wrap64 (x10_2+1)) x109000_1 x109001_2 x109002_2 x109003_2 x109004_2 x109005_2)))))))else(none))else(none)))else(spec_OpRead.l1 k2 a0 t102 t111 x9_2 (wrap64 (x10_2+1)) x109000_1 x109001_2 x109002_2 x109003_2 x109004_2 x109005_2))=some (r1,r2,r3,r4,r5,r6,r7):=by rw[←hbq30]at H;exact H
         have Nbq30:=aS hbq30;clear hbq30;by_cases c31:bq30=true
         ·subst c31
          have H1:(if x9_2≥(t102.length:Int)then(some (0,0,0,0,0,0,false))else(if 0≤x9_2 then(if x9_2<(t102.length:Int)then((spec_l1Dec.f k2 (rdOf ByteArray.empty t102 x9_2)).bind fun bt116=>((spec_ValRead.f k2 (rdOf ByteArray.empty t102 x9_2)).bind fun bt119=>(if x10_2=0 then(spec_OpRead.l1 k2 a0 t102 t111 (wrap64 (x9_2+1)) (wrap64 (x10_2+1)) x109000_1 bt116.1 x109002_2 x109003_2 x109004_2 x109005_2)else(if x10_2=1 then(spec_OpRead.l1 k2 a0 t102 t111 (wrap64 (x9_2+1)) (wrap64 (x10_2+1)) x109000_1 x109001_2 bt116.1 x109003_2 x109004_2 x109005_2)else(if x10_2=2 then(spec_OpRead.l1 k2 a0 t102 t111 (wrap64 (x9_2+1)) (wrap64 (x10_2+1)) x109000_1 x109001_2 x109002_2 bt116.1 x109004_2 x109005_2)else(if x10_2=3 then(spec_OpRead.l1 k2 a0 t102 t111 (wrap64 (x9_2+1)) (wrap64 (x10_2+1)) x109000_1 x109001_2 x109002_2 x109003_2 bt119.1 bt119.2.1)else(spec_OpRead.l1 k2 a0 t102 t111 (wrap64 (x9_2+1)) (wrap64 (x10_2+1)) x109000_1 x109001_2 x109002_2 x109003_2 x109004_2 x109005_2)))))))else(none))else(none)))=some (r1,r2,r3,r4,r5,r6,r7):=by rw[if_pos rfl]at H;exact H
          clear H;have H:=H1;clear H1;by_cases c32:x9_2≥(t102.length:Int)
          ·rw[if_pos c32]at H
           have c32b0:decide ((t102.length:Int)≤x9_2)=true:=decide_eq_true c32;clear c32;simp only[Option.some.injEq,Prod.mk.injEq]at H
           obtain⟨rfl,rfl,rfl,rfl,rfl,rfl,rfl⟩:=H;obtain⟨Ao33,co33,eo33⟩:=Kd.R_slice HO_8.out;subst eo33;have p114:0≤(x10_2:Int):=of_decide_eq_true (by assumption)
           have q114:x10_2<(t111.length:Int):=of_decide_eq_true (by assumption)
           obtain⟨ad114,e114,hx114_0⟩:=Kd.at_bool (Kd.R_reads' HO_8.out).2.2 x10_2 p114 q114;(try rw[←Nbq30.out]at hx114_0)
           cases e114
           replace p114:=eq_true p114;replace q114:=eq_true q114;obtain⟨Ao34,co34,eo34⟩:=Kd.R_slice HO_4.out;subst eo34;have hnb35:=NB101_108.out;have hnc35:=NB108_101.out;have hcz36_0:wr.cell? ⟨gb101,0,none⟩=some (.int .i64 x102000_2):=(blk_cell BK101.out 0).trans rfl;have hcz36_1:wr.cell? ⟨gb101,1,none⟩=some (.int .i64 x102001_2):=(blk_cell BK101.out 1).trans rfl;have hcz36_2:wr.cell? ⟨gb101,2,none⟩=some (.int .i64 x102002_2):=(blk_cell BK101.out 2).trans rfl;have hcz36_3:wr.cell? ⟨gb101,3,none⟩=some (.int .i64 x102003_2):=(blk_cell BK101.out 3).trans rfl;have hcz36_4:wr.cell? ⟨gb101,4,none⟩=some (.int .i64 x102004_2):=(blk_cell BK101.out 4).trans rfl;have hcz36_5:wr.cell? ⟨gb101,5,none⟩=some (.int .i64 x102005_2):=(blk_cell BK101.out 5).trans rfl;have hfz36_0:=blk_frozen BK101.out 0;have hfz36_1:=blk_frozen BK101.out 1;have hfz36_2:=blk_frozen BK101.out 2;have hfz36_3:=blk_frozen BK101.out 3;have hfz36_4:=blk_frozen BK101.out 4;have hfz36_5:=blk_frozen BK101.out 5;go_wp2
           refine bodyPost_ret (results_ct rfl _ _ gb101 29 #[.int .i64 0,.int .i64 0,.int .i64 0,.int .i64 0,.int .i64 0,.int .i64 0] (0,0) _ rfl (by refine kU ?_;refine blk_put (cs:= #[.int .i64 0,.int .i64 0,.int .i64 0,.int .i64 0,.int .i64 0,.int .i64 x102005_2]) ?_ 5 _ rfl;refine kU ?_;refine blk_put (cs:= #[.int .i64 0,.int .i64 0,.int .i64 0,.int .i64 0,.int .i64 x102004_2,.int .i64 x102005_2]) ?_ 4 _ rfl;refine kU ?_;refine blk_put (cs:= #[.int .i64 0,.int .i64 0,.int .i64 0,.int .i64 x102003_2,.int .i64 x102004_2,.int .i64 x102005_2]) ?_ 3 _ rfl;refine kU ?_;refine blk_put (cs:= #[.int .i64 0,.int .i64 0,.int .i64 x102002_2,.int .i64 x102003_2,.int .i64 x102004_2,.int .i64 x102005_2]) ?_ 2 _ rfl;refine kU ?_;refine blk_put (cs:= #[.int .i64 0,.int .i64 x102001_2,.int .i64 x102002_2,.int .i64 x102003_2,.int .i64 x102004_2,.int .i64 x102005_2]) ?_ 1 _ rfl;refine kU ?_;refine blk_put (cs:= #[.int .i64 x102000_2,.int .i64 x102001_2,.int .i64 x102002_2,.int .i64 x102003_2,.int .i64 x102004_2,.int .i64 x102005_2]) ?_ 0 _ rfl;exact blkU BK101.out) Try.underlying29 rfl (by kernel_rfl)) rfl ?_
           exact⟨by first|rfl|(simp[*]<;>rfl),by repeat(with_reducible first|exact HB.out|apply bA|apply bN|apply b1|refine below_set ?_ GE101.out|refine below_set ?_ GE108.out)⟩
          ·rw[if_neg c32]at H
           have c32b0:decide ((t102.length:Int)≤x9_2)=false:=decide_eq_false c32;clear c32;by_cases c37:0≤x9_2
           ·rw[if_pos c37]at H
            have c37b0:decide (0≤x9_2)=true:=decide_eq_true c37;clear c37;by_cases c38:x9_2<(t102.length:Int)
            ·rw[if_pos c38]at H
             have c38b0:decide (x9_2<(t102.length:Int))=true:=decide_eq_true c38;clear c38;replace H:=Option.bind_eq_some_iff.mp H;obtain⟨⟨t116,t117⟩,A390,H⟩:=H;replace H:((spec_ValRead.f k2 (rdOf ByteArray.empty t102 x9_2)).bind fun bt119=>(if x10_2=0 then(spec_OpRead.l1 k2 a0 t102 t111 (wrap64 (x9_2+1)) (wrap64 (x10_2+1)) x109000_1 t116 x109002_2 x109003_2 x109004_2 x109005_2)else(if x10_2=1 then(spec_OpRead.l1 k2 a0 t102 t111 (wrap64 (x9_2+1)) (wrap64 (x10_2+1)) x109000_1 x109001_2 t116 x109003_2 x109004_2 x109005_2)else(if x10_2=2 then(spec_OpRead.l1 k2 a0 t102 t111 (wrap64 (x9_2+1)) (wrap64 (x10_2+1)) x109000_1 x109001_2 x109002_2 t116 x109004_2 x109005_2)else(if x10_2=3 then(spec_OpRead.l1 k2 a0 t102 t111 (wrap64 (x9_2+1)) (wrap64 (x10_2+1)) x109000_1 x109001_2 x109002_2 x109003_2 bt119.1 bt119.2.1)else(spec_OpRead.l1 k2 a0 t102 t111 (wrap64 (x9_2+1)) (wrap64 (x10_2+1)) x109000_1 x109001_2 x109002_2 x109003_2 x109004_2 x109005_2))))))=some (r1,r2,r3,r4,r5,r6,r7):=H
             have A39:=aS A390;clear A390;replace H:=Option.bind_eq_some_iff.mp H;obtain⟨⟨t119,t120,t121⟩,A400,H⟩:=H;replace H:(if x10_2=0 then(spec_OpRead.l1 k2 a0 t102 t111 (wrap64 (x9_2+1)) (wrap64 (x10_2+1)) x109000_1 t116 x109002_2 x109003_2 x109004_2 x109005_2)else(if x10_2=1 then(spec_OpRead.l1 k2 a0 t102 t111 (wrap64 (x9_2+1)) (wrap64 (x10_2+1)) x109000_1 x109001_2 t116 x109003_2 x109004_2 x109005_2)else(if x10_2=2 then(spec_OpRead.l1 k2 a0 t102 t111 (wrap64 (x9_2+1)) (wrap64 (x10_2+1)) x109000_1 x109001_2 x109002_2 t116 x109004_2 x109005_2)else(if x10_2=3 then(spec_OpRead.l1 k2 a0 t102 t111 (wrap64 (x9_2+1)) (wrap64 (x10_2+1)) x109000_1 x109001_2 x109002_2 x109003_2 t119 t120)else(spec_OpRead.l1 k2 a0 t102 t111 (wrap64 (x9_2+1)) (wrap64 (x10_2+1)) x109000_1 x109001_2 x109002_2 x109003_2 x109004_2 x109005_2)))))=some (r1,r2,r3,r4,r5,r6,r7):=H
             have A40:=aS A400;clear A400;by_cases c41:x10_2=0
             ·rw[if_pos c41]at H
              have c41b0:(x10_2==0)=true:=beq_iff_eq.mpr c41;have c41b1:(x10_2 !=0)=false:=bne_eq_false_iff_eq.mpr c41;clear c41;have H':=aS H;clear H;obtain⟨Ao42,co42,eo42⟩:=Kd.R_slice HO_8.out;subst eo42;have p114:0≤(x10_2:Int):=of_decide_eq_true (by assumption)
              have q114:x10_2<(t111.length:Int):=of_decide_eq_true (by assumption)
              obtain⟨ad114,e114,hx114_0⟩:=Kd.at_bool (Kd.R_reads' HO_8.out).2.2 x10_2 p114 q114;(try rw[←Nbq30.out]at hx114_0)
              cases e114
              replace p114:=eq_true p114;replace q114:=eq_true q114;obtain⟨Ao43,co43,eo43⟩:=Kd.R_slice HO_4.out;subst eo43;have p115:0≤(x9_2:Int):=of_decide_eq_true (by assumption)
              have q115:x9_2<(t102.length:Int):=of_decide_eq_true (by assumption)
              obtain⟨ad115,e115,hx115_0⟩:=Kd.at_string (Kd.R_reads' HO_4.out).2.2 x9_2 p115 q115;cases e115
              replace p115:=eq_true p115;replace q115:=eq_true q115;go_wp2_with (first|(go_at_call 119;(with_reducible refine(spec_l1Dec.calls k2 (rdOf ByteArray.empty t102 x9_2) t116 t117 _ A39.out).mono ?_);rintro e w' ⟨rfl,⟨nd,rfl⟩⟩;(try first|exact⟨rfl,_,World.drewN_drewN _ _ _⟩|exact⟨rfl,_,Eq.trans (World.drewN_drewN _ _ _) (congrArg (World.drewN _) (Nat.add_assoc _ _ _))⟩);have p118:0≤(x9_2:Int):=of_decide_eq_true (by assumption);have q118:x9_2<(t102.length:Int):=of_decide_eq_true (by assumption);obtain⟨ad118,e118,hx118_0⟩:=Kd.at_string (Kd.R_reads' HO_4.out).2.2 x9_2 p118 q118;obtain rfl:ad115=ad118:=(by injection e118);replace p118:=eq_true p118;replace q118:=eq_true q118)|(go_at_call 120;(with_reducible refine(spec_ValRead.calls k2 (rdOf ByteArray.empty t102 x9_2) t119 t120 t121 _ A40.out).mono ?_);rintro e w44 ⟨rfl,hb⟩;replace HO_4:=aS (Kd.R_below (by exact rU HO_4.out) hb);replace HO_8:=aS (Kd.R_below (by exact rU HO_8.out) hb);replace BK101:=aS (blk_below (g:=gb101) (o:=.cells #[.int .i64 x102000_2,.int .i64 x102001_2,.int .i64 x102002_2,.int .i64 x102003_2,.int .i64 x102004_2,.int .i64 x102005_2] 29 (0,0)) (by exact blkU BK101.out) hb);replace BK108:=aS (blk_below (g:=gb108) (o:=.cells #[.int .i64 x109000_1,.int .i64 x109001_2,.int .i64 x109002_2,.int .i64 x109003_2,.int .i64 x109004_2,.int .i64 x109005_2] 29 (0,0)) (by exact blkU BK108.out) hb);replace HB:=aS (below_step (by repeat(with_reducible first|exact HB.out|apply bA|apply bN|apply b1|refine below_set ?_ GE101.out|refine below_set ?_ GE108.out)) hb);(try clear hb))|((with_reducible refine gate_dst (N:=13) rfl ?_);refine box_event ?hg (N:=13) ?hd (cs:= #[.int .i64 0,.int .i64 0]) (t:=27) ?hr ?_;(case hd=>rfl);(case hg=>rfl);(case hr=>go_simp<;>rfl);intro gb122 hg w45 hbox hb;have n0_:=aS (Kd.R_below (by exact rU HO_4.out) hb);have n1_:=aS (Kd.R_below (by exact rU HO_8.out) hb);have n2_:=aS (blk_below (g:=gb101) (o:=.cells #[.int .i64 x102000_2,.int .i64 x102001_2,.int .i64 x102002_2,.int .i64 x102003_2,.int .i64 x102004_2,.int .i64 x102005_2] 29 (0,0)) (by exact blkU BK101.out) hb);have n3_:=aS (blk_below (g:=gb108) (o:=.cells #[.int .i64 x109000_1,.int .i64 x109001_2,.int .i64 x109002_2,.int .i64 x109003_2,.int .i64 x109004_2,.int .i64 x109005_2] 29 (0,0)) (by exact blkU BK108.out) hb);have n4_:=aS (below_step (by repeat(with_reducible first|exact HB.out|apply bA|apply bN|apply b1|refine below_set ?_ GE101.out|refine below_set ?_ GE108.out)) hb);have n5_:=aS (hbox);have n6_:=aS ((by rw[hg];exact(below_size (by repeat(with_reducible first|exact HB.out|apply bA|apply bN|apply b1|refine below_set ?_ GE101.out|refine below_set ?_ GE108.out))):w.heap.size≤gb122));have n7_:=aS ((by rw[hg];exact(below_size (by repeat(with_reducible first|exact HB.out|apply bA|apply bN|apply b1|refine below_set ?_ GE101.out|refine below_set ?_ GE108.out))):w.heap.size≤gb122));have n8_:=aS ((by rw[hg];exact Nat.ne_of_lt (blk_lt (g:=gb101) (o:=.cells #[.int .i64 x102000_2,.int .i64 x102001_2,.int .i64 x102002_2,.int .i64 x102003_2,.int .i64 x102004_2,.int .i64 x102005_2] 29 (0,0)) (by exact blkU BK101.out)):gb101≠gb122));have n9_:=aS ((by rw[hg];exact Nat.ne_of_gt (blk_lt (g:=gb101) (o:=.cells #[.int .i64 x102000_2,.int .i64 x102001_2,.int .i64 x102002_2,.int .i64 x102003_2,.int .i64 x102004_2,.int .i64 x102005_2] 29 (0,0)) (by exact blkU BK101.out)):gb122≠gb101));have n10_:=aS ((by rw[hg];exact Nat.ne_of_lt (blk_lt (g:=gb108) (o:=.cells #[.int .i64 x109000_1,.int .i64 x109001_2,.int .i64 x109002_2,.int .i64 x109003_2,.int .i64 x109004_2,.int .i64 x109005_2] 29 (0,0)) (by exact blkU BK108.out)):gb108≠gb122));have n11_:=aS ((by rw[hg];exact Nat.ne_of_gt (blk_lt (g:=gb108) (o:=.cells #[.int .i64 x109000_1,.int .i64 x109001_2,.int .i64 x109002_2,.int .i64 x109003_2,.int .i64 x109004_2,.int .i64 x109005_2] 29 (0,0)) (by exact blkU BK108.out)):gb122≠gb108));clear HO_4;clear HO_8;clear BK101;clear BK108;clear HB;have HO_4:=n0_;have HO_8:=n1_;have BK101:=n2_;have BK108:=n3_;have HB:=n4_;have BK122:=n5_;have GW122:=n6_;have GE122:=n7_;have NB101_122:=n8_;have NB122_101:=n9_;have NB108_122:=n10_;have NB122_108:=n11_;clear n0_ n1_ n2_ n3_ n4_ n5_ n6_ n7_ n8_ n9_ n10_ n11_;clear hb hbox hg;have hnb46:=NB122_101.out;have hnc46:=NB101_122.out;have hnb47:=NB122_108.out;have hnc47:=NB108_122.out;have hcz48_0:w45.cell? ⟨gb122,0,none⟩=some (.int .i64 0):=(blk_cell BK122.out 0).trans rfl;have hcz48_1:w45.cell? ⟨gb122,1,none⟩=some (.int .i64 0):=(blk_cell BK122.out 1).trans rfl;have hfz48_0:=blk_frozen BK122.out 0;have hfz48_1:=blk_frozen BK122.out 1;have hnb49:=NB108_101.out;have hnc49:=NB101_108.out;obtain⟨hcz50_0,hcz50_1,hcz50_2,hcz50_3,hcz50_4,hcz50_5⟩:=six_cells BK108.out;obtain⟨hfz50_0,hfz50_1,hfz50_2,hfz50_3,hfz50_4,hfz50_5⟩:=six_marks BK108.out))
              go_roundg k2
              case measure=>have:=HK1.out;have:=HK2.out;omega
              case rel=>exact⟨(wrap64 (x9_2+1)),(wrap64 (x10_2+1)),(x102000_2),(x102001_2),(x102002_2),(x102003_2),(x102004_2),(x102005_2),(t116),(x109002_2),(x109003_2),(x109004_2),(x109005_2),(by first|rfl|(simp;done)|(simp[*];done)),(by first|rfl|(simp;done)|(simp[*];done)),H',⟨by have:=HK1.out;have:=HK2.out;omega⟩,⟨by(with_reducible repeat(first|apply rA|apply rN|apply rD));exact Kd.R_mono (Kd.R_far (p:=⟨gb108,1,none⟩) (Kd.R_far (p:=⟨gb122,1,none⟩) (Kd.R_far (p:=⟨gb122,0,none⟩) (Kd.R_types (Kd.R_types HO_4.out BK122.out (by decide)) BK108.out (by decide)) (fun _ hk=>hk.1.2) (.int .i64 t119)) (fun _ hk=>hk.1.2) (.int .i64 t120)) (fun _ hk=>hk.2) (.int .i64 t116)) (fun _ hk=>trivial)⟩,⟨by(with_reducible repeat(first|apply rA|apply rN|apply rD));exact Kd.R_mono (Kd.R_far (p:=⟨gb108,1,none⟩) (Kd.R_far (p:=⟨gb122,1,none⟩) (Kd.R_far (p:=⟨gb122,0,none⟩) (Kd.R_types (Kd.R_types HO_8.out BK122.out (by decide)) BK108.out (by decide)) (fun _ hk=>hk.1.2) (.int .i64 t119)) (fun _ hk=>hk.1.2) (.int .i64 t120)) (fun _ hk=>hk.2) (.int .i64 t116)) (fun _ hk=>trivial)⟩,⟨by refine kU ?_;refine blk_far ?_ NB101_108.out _;refine kU ?_;refine blk_far ?_ NB101_122.out _;refine kU ?_;refine blk_far ?_ NB101_122.out _;exact blkU BK101.out⟩,⟨by refine kU ?_;refine blk_put (cs:= #[.int .i64 x109000_1,.int .i64 x109001_2,.int .i64 x109002_2,.int .i64 x109003_2,.int .i64 x109004_2,.int .i64 x109005_2]) ?_ 1 _ rfl;refine kU ?_;refine blk_far ?_ NB108_122.out _;refine kU ?_;refine blk_far ?_ NB108_122.out _;exact blkU BK108.out⟩,⟨by repeat(with_reducible first|exact HB.out|apply bA|apply bN|apply b1|refine below_set ?_ GE101.out|refine below_set ?_ GE108.out|refine below_set ?_ GE122.out)⟩⟩
             ·rw[if_neg c41]at H
              have c41b0:(x10_2==0)=false:=beq_eq_false_iff_ne.mpr c41;have c41b1:(x10_2 !=0)=true:=bne_iff_ne.mpr c41;by_cases c51:x10_2=1
              ·rw[if_pos c51]at H
               have c51b0:(x10_2==1)=true:=beq_iff_eq.mpr c51;have c51b1:(x10_2 !=1)=false:=bne_eq_false_iff_eq.mpr c51;clear c51;have H':=aS H;clear H;obtain⟨Ao52,co52,eo52⟩:=Kd.R_slice HO_8.out;subst eo52;have p114:0≤(x10_2:Int):=of_decide_eq_true (by assumption)
               have q114:x10_2<(t111.length:Int):=of_decide_eq_true (by assumption)
               obtain⟨ad114,e114,hx114_0⟩:=Kd.at_bool (Kd.R_reads' HO_8.out).2.2 x10_2 p114 q114;(try rw[←Nbq30.out]at hx114_0)
               cases e114
               replace p114:=eq_true p114;replace q114:=eq_true q114;obtain⟨Ao53,co53,eo53⟩:=Kd.R_slice HO_4.out;subst eo53;have p115:0≤(x9_2:Int):=of_decide_eq_true (by assumption)
               have q115:x9_2<(t102.length:Int):=of_decide_eq_true (by assumption)
               obtain⟨ad115,e115,hx115_0⟩:=Kd.at_string (Kd.R_reads' HO_4.out).2.2 x9_2 p115 q115;cases e115
               replace p115:=eq_true p115;replace q115:=eq_true q115;go_wp2_with (first|(go_at_call 119;(with_reducible refine(spec_l1Dec.calls k2 (rdOf ByteArray.empty t102 x9_2) t116 t117 _ A39.out).mono ?_);rintro e w' ⟨rfl,⟨nd,rfl⟩⟩;(try first|exact⟨rfl,_,World.drewN_drewN _ _ _⟩|exact⟨rfl,_,Eq.trans (World.drewN_drewN _ _ _) (congrArg (World.drewN _) (Nat.add_assoc _ _ _))⟩);have p118:0≤(x9_2:Int):=of_decide_eq_true (by assumption);have q118:x9_2<(t102.length:Int):=of_decide_eq_true (by assumption);obtain⟨ad118,e118,hx118_0⟩:=Kd.at_string (Kd.R_reads' HO_4.out).2.2 x9_2 p118 q118;obtain rfl:ad115=ad118:=(by injection e118);replace p118:=eq_true p118;replace q118:=eq_true q118)|(go_at_call 120;(with_reducible refine(spec_ValRead.calls k2 (rdOf ByteArray.empty t102 x9_2) t119 t120 t121 _ A40.out).mono ?_);rintro e w54 ⟨rfl,hb⟩;replace HO_4:=aS (Kd.R_below (by exact rU HO_4.out) hb);replace HO_8:=aS (Kd.R_below (by exact rU HO_8.out) hb);replace BK101:=aS (blk_below (g:=gb101) (o:=.cells #[.int .i64 x102000_2,.int .i64 x102001_2,.int .i64 x102002_2,.int .i64 x102003_2,.int .i64 x102004_2,.int .i64 x102005_2] 29 (0,0)) (by exact blkU BK101.out) hb);replace BK108:=aS (blk_below (g:=gb108) (o:=.cells #[.int .i64 x109000_1,.int .i64 x109001_2,.int .i64 x109002_2,.int .i64 x109003_2,.int .i64 x109004_2,.int .i64 x109005_2] 29 (0,0)) (by exact blkU BK108.out) hb);replace HB:=aS (below_step (by repeat(with_reducible first|exact HB.out|apply bA|apply bN|apply b1|refine below_set ?_ GE101.out|refine below_set ?_ GE108.out)) hb);(try clear hb))|((with_reducible refine gate_dst (N:=13) rfl ?_);refine box_event ?hg (N:=13) ?hd (cs:= #[.int .i64 0,.int .i64 0]) (t:=27) ?hr ?_;(case hd=>rfl);(case hg=>rfl);(case hr=>go_simp<;>rfl);intro gb122 hg w55 hbox hb;have n0_:=aS (Kd.R_below (by exact rU HO_4.out) hb);have n1_:=aS (Kd.R_below (by exact rU HO_8.out) hb);have n2_:=aS (blk_below (g:=gb101) (o:=.cells #[.int .i64 x102000_2,.int .i64 x102001_2,.int .i64 x102002_2,.int .i64 x102003_2,.int .i64 x102004_2,.int .i64 x102005_2] 29 (0,0)) (by exact blkU BK101.out) hb);have n3_:=aS (blk_below (g:=gb108) (o:=.cells #[.int .i64 x109000_1,.int .i64 x109001_2,.int .i64 x109002_2,.int .i64 x109003_2,.int .i64 x109004_2,.int .i64 x109005_2] 29 (0,0)) (by exact blkU BK108.out) hb);have n4_:=aS (below_step (by repeat(with_reducible first|exact HB.out|apply bA|apply bN|apply b1|refine below_set ?_ GE101.out|refine below_set ?_ GE108.out)) hb);have n5_:=aS (hbox);have n6_:=aS ((by rw[hg];exact(below_size (by repeat(with_reducible first|exact HB.out|apply bA|apply bN|apply b1|refine below_set ?_ GE101.out|refine below_set ?_ GE108.out))):w.heap.size≤gb122));have n7_:=aS ((by rw[hg];exact(below_size (by repeat(with_reducible first|exact HB.out|apply bA|apply bN|apply b1|refine below_set ?_ GE101.out|refine below_set ?_ GE108.out))):w.heap.size≤gb122));have n8_:=aS ((by rw[hg];exact Nat.ne_of_lt (blk_lt (g:=gb101) (o:=.cells #[.int .i64 x102000_2,.int .i64 x102001_2,.int .i64 x102002_2,.int .i64 x102003_2,.int .i64 x102004_2,.int .i64 x102005_2] 29 (0,0)) (by exact blkU BK101.out)):gb101≠gb122));have n9_:=aS ((by rw[hg];exact Nat.ne_of_gt (blk_lt (g:=gb101) (o:=.cells #[.int .i64 x102000_2,.int .i64 x102001_2,.int .i64 x102002_2,.int .i64 x102003_2,.int .i64 x102004_2,.int .i64 x102005_2] 29 (0,0)) (by exact blkU BK101.out)):gb122≠gb101));have n10_:=aS ((by rw[hg];exact Nat.ne_of_lt (blk_lt (g:=gb108) (o:=.cells #[.int .i64 x109000_1,.int .i64 x109001_2,.int .i64 x109002_2,.int .i64 x109003_2,.int .i64 x109004_2,.int .i64 x109005_2] 29 (0,0)) (by exact blkU BK108.out)):gb108≠gb122));have n11_:=aS ((by rw[hg];exact Nat.ne_of_gt (blk_lt (g:=gb108) (o:=.cells #[.int .i64 x109000_1,.int .i64 x109001_2,.int .i64 x109002_2,.int .i64 x109003_2,.int .i64 x109004_2,.int .i64 x109005_2] 29 (0,0)) (by exact blkU BK108.out)):gb122≠gb108));clear HO_4;clear HO_8;clear BK101;clear BK108;clear HB;have HO_4:=n0_;have HO_8:=n1_;have BK101:=n2_;have BK108:=n3_;have HB:=n4_;have BK122:=n5_;have GW122:=n6_;have GE122:=n7_;have NB101_122:=n8_;have NB122_101:=n9_;have NB108_122:=n10_;have NB122_108:=n11_;clear n0_ n1_ n2_ n3_ n4_ n5_ n6_ n7_ n8_ n9_ n10_ n11_;clear hb hbox hg;have hnb56:=NB122_101.out;have hnc56:=NB101_122.out;have hnb57:=NB122_108.out;have hnc57:=NB108_122.out;have hcz58_0:w55.cell? ⟨gb122,0,none⟩=some (.int .i64 0):=(blk_cell BK122.out 0).trans rfl;have hcz58_1:w55.cell? ⟨gb122,1,none⟩=some (.int .i64 0):=(blk_cell BK122.out 1).trans rfl;have hfz58_0:=blk_frozen BK122.out 0;have hfz58_1:=blk_frozen BK122.out 1;have hnb59:=NB108_101.out;have hnc59:=NB101_108.out;obtain⟨hcz60_0,hcz60_1,hcz60_2,hcz60_3,hcz60_4,hcz60_5⟩:=six_cells BK108.out;obtain⟨hfz60_0,hfz60_1,hfz60_2,hfz60_3,hfz60_4,hfz60_5⟩:=six_marks BK108.out))
               go_roundg k2
               case measure=>have:=HK1.out;have:=HK2.out;omega
               case rel=>exact⟨(wrap64 (x9_2+1)),(wrap64 (x10_2+1)),(x102000_2),(x102001_2),(x102002_2),(x102003_2),(x102004_2),(x102005_2),(x109001_2),(t116),(x109003_2),(x109004_2),(x109005_2),(by first|rfl|(simp;done)|(simp[*];done)),(by first|rfl|(simp;done)|(simp[*];done)),H',⟨by have:=HK1.out;have:=HK2.out;omega⟩,⟨by(with_reducible repeat(first|apply rA|apply rN|apply rD));exact Kd.R_mono (Kd.R_far (p:=⟨gb108,2,none⟩) (Kd.R_far (p:=⟨gb122,1,none⟩) (Kd.R_far (p:=⟨gb122,0,none⟩) (Kd.R_types (Kd.R_types HO_4.out BK122.out (by decide)) BK108.out (by decide)) (fun _ hk=>hk.1.2) (.int .i64 t119)) (fun _ hk=>hk.1.2) (.int .i64 t120)) (fun _ hk=>hk.2) (.int .i64 t116)) (fun _ hk=>trivial)⟩,⟨by(with_reducible repeat(first|apply rA|apply rN|apply rD));exact Kd.R_mono (Kd.R_far (p:=⟨gb108,2,none⟩) (Kd.R_far (p:=⟨gb122,1,none⟩) (Kd.R_far (p:=⟨gb122,0,none⟩) (Kd.R_types (Kd.R_types HO_8.out BK122.out (by decide)) BK108.out (by decide)) (fun _ hk=>hk.1.2) (.int .i64 t119)) (fun _ hk=>hk.1.2) (.int .i64 t120)) (fun _ hk=>hk.2) (.int .i64 t116)) (fun _ hk=>trivial)⟩,⟨by refine kU ?_;refine blk_far ?_ NB101_108.out _;refine kU ?_;refine blk_far ?_ NB101_122.out _;refine kU ?_;refine blk_far ?_ NB101_122.out _;exact blkU BK101.out⟩,⟨by refine kU ?_;refine blk_put (cs:= #[.int .i64 x109000_1,.int .i64 x109001_2,.int .i64 x109002_2,.int .i64 x109003_2,.int .i64 x109004_2,.int .i64 x109005_2]) ?_ 2 _ rfl;refine kU ?_;refine blk_far ?_ NB108_122.out _;refine kU ?_;refine blk_far ?_ NB108_122.out _;exact blkU BK108.out⟩,⟨by repeat(with_reducible first|exact HB.out|apply bA|apply bN|apply b1|refine below_set ?_ GE101.out|refine below_set ?_ GE108.out|refine below_set ?_ GE122.out)⟩⟩
              ·rw[if_neg c51]at H
               have c51b0:(x10_2==1)=false:=beq_eq_false_iff_ne.mpr c51;have c51b1:(x10_2 !=1)=true:=bne_iff_ne.mpr c51;by_cases c61:x10_2=2
               ·rw[if_pos c61]at H
                have c61b0:(x10_2==2)=true:=beq_iff_eq.mpr c61;have c61b1:(x10_2 !=2)=false:=bne_eq_false_iff_eq.mpr c61;clear c61;have H':=aS H;clear H;obtain⟨Ao62,co62,eo62⟩:=Kd.R_slice HO_8.out;subst eo62;have p114:0≤(x10_2:Int):=of_decide_eq_true (by assumption)
                have q114:x10_2<(t111.length:Int):=of_decide_eq_true (by assumption)
                obtain⟨ad114,e114,hx114_0⟩:=Kd.at_bool (Kd.R_reads' HO_8.out).2.2 x10_2 p114 q114;(try rw[←Nbq30.out]at hx114_0)
                cases e114
                replace p114:=eq_true p114;replace q114:=eq_true q114;obtain⟨Ao63,co63,eo63⟩:=Kd.R_slice HO_4.out;subst eo63;have p115:0≤(x9_2:Int):=of_decide_eq_true (by assumption)
                have q115:x9_2<(t102.length:Int):=of_decide_eq_true (by assumption)
                obtain⟨ad115,e115,hx115_0⟩:=Kd.at_string (Kd.R_reads' HO_4.out).2.2 x9_2 p115 q115;cases e115
                replace p115:=eq_true p115;replace q115:=eq_true q115;go_wp2_with (first|(go_at_call 119;(with_reducible refine(spec_l1Dec.calls k2 (rdOf ByteArray.empty t102 x9_2) t116 t117 _ A39.out).mono ?_);rintro e w' ⟨rfl,⟨nd,rfl⟩⟩;(try first|exact⟨rfl,_,World.drewN_drewN _ _ _⟩|exact⟨rfl,_,Eq.trans (World.drewN_drewN _ _ _) (congrArg (World.drewN _) (Nat.add_assoc _ _ _))⟩);have p118:0≤(x9_2:Int):=of_decide_eq_true (by assumption);have q118:x9_2<(t102.length:Int):=of_decide_eq_true (by assumption);obtain⟨ad118,e118,hx118_0⟩:=Kd.at_string (Kd.R_reads' HO_4.out).2.2 x9_2 p118 q118;obtain rfl:ad115=ad118:=(by injection e118);replace p118:=eq_true p118;replace q118:=eq_true q118)|(go_at_call 120;(with_reducible refine(spec_ValRead.calls k2 (rdOf ByteArray.empty t102 x9_2) t119 t120 t121 _ A40.out).mono ?_);rintro e w64 ⟨rfl,hb⟩;replace HO_4:=aS (Kd.R_below (by exact rU HO_4.out) hb);replace HO_8:=aS (Kd.R_below (by exact rU HO_8.out) hb);replace BK101:=aS (blk_below (g:=gb101) (o:=.cells #[.int .i64 x102000_2,.int .i64 x102001_2,.int .i64 x102002_2,.int .i64 x102003_2,.int .i64 x102004_2,.int .i64 x102005_2] 29 (0,0)) (by exact blkU BK101.out) hb);replace BK108:=aS (blk_below (g:=gb108) (o:=.cells #[.int .i64 x109000_1,.int .i64 x109001_2,.int .i64 x109002_2,.int .i64 x109003_2,.int .i64 x109004_2,.int .i64 x109005_2] 29 (0,0)) (by exact blkU BK108.out) hb);replace HB:=aS (below_step (by repeat(with_reducible first|exact HB.out|apply bA|apply bN|apply b1|refine below_set ?_ GE101.out|refine below_set ?_ GE108.out)) hb);(try clear hb))|((with_reducible refine gate_dst (N:=13) rfl ?_);refine box_event ?hg (N:=13) ?hd (cs:= #[.int .i64 0,.int .i64 0]) (t:=27) ?hr ?_;(case hd=>rfl);(case hg=>rfl);(case hr=>go_simp<;>rfl);intro gb122 hg w65 hbox hb;have n0_:=aS (Kd.R_below (by exact rU HO_4.out) hb);have n1_:=aS (Kd.R_below (by exact rU HO_8.out) hb);have n2_:=aS (blk_below (g:=gb101) (o:=.cells #[.int .i64 x102000_2,.int .i64 x102001_2,.int .i64 x102002_2,.int .i64 x102003_2,.int .i64 x102004_2,.int .i64 x102005_2] 29 (0,0)) (by exact blkU BK101.out) hb);have n3_:=aS (blk_below (g:=gb108) (o:=.cells #[.int .i64 x109000_1,.int .i64 x109001_2,.int .i64 x109002_2,.int .i64 x109003_2,.int .i64 x109004_2,.int .i64 x109005_2] 29 (0,0)) (by exact blkU BK108.out) hb);have n4_:=aS (below_step (by repeat(with_reducible first|exact HB.out|apply bA|apply bN|apply b1|refine below_set ?_ GE101.out|refine below_set ?_ GE108.out)) hb);have n5_:=aS (hbox);have n6_:=aS ((by rw[hg];exact(below_size (by repeat(with_reducible first|exact HB.out|apply bA|apply bN|apply b1|refine below_set ?_ GE101.out|refine below_set ?_ GE108.out))):w.heap.size≤gb122));have n7_:=aS ((by rw[hg];exact(below_size (by repeat(with_reducible first|exact HB.out|apply bA|apply bN|apply b1|refine below_set ?_ GE101.out|refine below_set ?_ GE108.out))):w.heap.size≤gb122));have n8_:=aS ((by rw[hg];exact Nat.ne_of_lt (blk_lt (g:=gb101) (o:=.cells #[.int .i64 x102000_2,.int .i64 x102001_2,.int .i64 x102002_2,.int .i64 x102003_2,.int .i64 x102004_2,.int .i64 x102005_2] 29 (0,0)) (by exact blkU BK101.out)):gb101≠gb122));have n9_:=aS ((by rw[hg];exact Nat.ne_of_gt (blk_lt (g:=gb101) (o:=.cells #[.int .i64 x102000_2,.int .i64 x102001_2,.int .i64 x102002_2,.int .i64 x102003_2,.int .i64 x102004_2,.int .i64 x102005_2] 29 (0,0)) (by exact blkU BK101.out)):gb122≠gb101));have n10_:=aS ((by rw[hg];exact Nat.ne_of_lt (blk_lt (g:=gb108) (o:=.cells #[.int .i64 x109000_1,.int .i64 x109001_2,.int .i64 x109002_2,.int .i64 x109003_2,.int .i64 x109004_2,.int .i64 x109005_2] 29 (0,0)) (by exact blkU BK108.out)):gb108≠gb122));have n11_:=aS ((by rw[hg];exact Nat.ne_of_gt (blk_lt (g:=gb108) (o:=.cells #[.int .i64 x109000_1,.int .i64 x109001_2,.int .i64 x109002_2,.int .i64 x109003_2,.int .i64 x109004_2,.int .i64 x109005_2] 29 (0,0)) (by exact blkU BK108.out)):gb122≠gb108));clear HO_4;clear HO_8;clear BK101;clear BK108;clear HB;have HO_4:=n0_;have HO_8:=n1_;have BK101:=n2_;have BK108:=n3_;have HB:=n4_;have BK122:=n5_;have GW122:=n6_;have GE122:=n7_;have NB101_122:=n8_;have NB122_101:=n9_;have NB108_122:=n10_;have NB122_108:=n11_;clear n0_ n1_ n2_ n3_ n4_ n5_ n6_ n7_ n8_ n9_ n10_ n11_;clear hb hbox hg;have hnb66:=NB122_101.out;have hnc66:=NB101_122.out;have hnb67:=NB122_108.out;have hnc67:=NB108_122.out;have hcz68_0:w65.cell? ⟨gb122,0,none⟩=some (.int .i64 0):=(blk_cell BK122.out 0).trans rfl;have hcz68_1:w65.cell? ⟨gb122,1,none⟩=some (.int .i64 0):=(blk_cell BK122.out 1).trans rfl;have hfz68_0:=blk_frozen BK122.out 0;have hfz68_1:=blk_frozen BK122.out 1;have hnb69:=NB108_101.out;have hnc69:=NB101_108.out;obtain⟨hcz70_0,hcz70_1,hcz70_2,hcz70_3,hcz70_4,hcz70_5⟩:=six_cells BK108.out;obtain⟨hfz70_0,hfz70_1,hfz70_2,hfz70_3,hfz70_4,hfz70_5⟩:=six_marks BK108.out))
                go_roundg k2
                case measure=>have:=HK1.out;have:=HK2.out;omega
                case rel=>exact⟨(wrap64 (x9_2+1)),(wrap64 (x10_2+1)),(x102000_2),(x102001_2),(x102002_2),(x102003_2),(x102004_2),(x102005_2),(x109001_2),(x109002_2),(t116),(x109004_2),(x109005_2),(by first|rfl|(simp;done)|(simp[*];done)),(by first|rfl|(simp;done)|(simp[*];done)),H',⟨by have:=HK1.out;have:=HK2.out;omega⟩,⟨by(with_reducible repeat(first|apply rA|apply rN|apply rD));exact Kd.R_mono (Kd.R_far (p:=⟨gb108,3,none⟩) (Kd.R_far (p:=⟨gb122,1,none⟩) (Kd.R_far (p:=⟨gb122,0,none⟩) (Kd.R_types (Kd.R_types HO_4.out BK122.out (by decide)) BK108.out (by decide)) (fun _ hk=>hk.1.2) (.int .i64 t119)) (fun _ hk=>hk.1.2) (.int .i64 t120)) (fun _ hk=>hk.2) (.int .i64 t116)) (fun _ hk=>trivial)⟩,⟨by(with_reducible repeat(first|apply rA|apply rN|apply rD));exact Kd.R_mono (Kd.R_far (p:=⟨gb108,3,none⟩) (Kd.R_far (p:=⟨gb122,1,none⟩) (Kd.R_far (p:=⟨gb122,0,none⟩) (Kd.R_types (Kd.R_types HO_8.out BK122.out (by decide)) BK108.out (by decide)) (fun _ hk=>hk.1.2) (.int .i64 t119)) (fun _ hk=>hk.1.2) (.int .i64 t120)) (fun _ hk=>hk.2) (.int .i64 t116)) (fun _ hk=>trivial)⟩,⟨by refine kU ?_;refine blk_far ?_ NB101_108.out _;refine kU ?_;refine blk_far ?_ NB101_122.out _;refine kU ?_;refine blk_far ?_ NB101_122.out _;exact blkU BK101.out⟩,⟨by refine kU ?_;refine blk_put (cs:= #[.int .i64 x109000_1,.int .i64 x109001_2,.int .i64 x109002_2,.int .i64 x109003_2,.int .i64 x109004_2,.int .i64 x109005_2]) ?_ 3 _ rfl;refine kU ?_;refine blk_far ?_ NB108_122.out _;refine kU ?_;refine blk_far ?_ NB108_122.out _;exact blkU BK108.out⟩,⟨by repeat(with_reducible first|exact HB.out|apply bA|apply bN|apply b1|refine below_set ?_ GE101.out|refine below_set ?_ GE108.out|refine below_set ?_ GE122.out)⟩⟩
               ·rw[if_neg c61]at H
                have c61b0:(x10_2==2)=false:=beq_eq_false_iff_ne.mpr c61;have c61b1:(x10_2 !=2)=true:=bne_iff_ne.mpr c61;by_cases c71:x10_2=3
                ·rw[if_pos c71]at H
                 have c71b0:(x10_2==3)=true:=beq_iff_eq.mpr c71;have c71b1:(x10_2 !=3)=false:=bne_eq_false_iff_eq.mpr c71;clear c71;have H':=aS H;clear H;obtain⟨Ao72,co72,eo72⟩:=Kd.R_slice HO_8.out;subst eo72;have p114:0≤(x10_2:Int):=of_decide_eq_true (by assumption)
                 have q114:x10_2<(t111.length:Int):=of_decide_eq_true (by assumption)
                 obtain⟨ad114,e114,hx114_0⟩:=Kd.at_bool (Kd.R_reads' HO_8.out).2.2 x10_2 p114 q114;(try rw[←Nbq30.out]at hx114_0)
                 cases e114
                 replace p114:=eq_true p114;replace q114:=eq_true q114;obtain⟨Ao73,co73,eo73⟩:=Kd.R_slice HO_4.out;subst eo73;have p115:0≤(x9_2:Int):=of_decide_eq_true (by assumption)
                 have q115:x9_2<(t102.length:Int):=of_decide_eq_true (by assumption)
                 obtain⟨ad115,e115,hx115_0⟩:=Kd.at_string (Kd.R_reads' HO_4.out).2.2 x9_2 p115 q115;cases e115
                 replace p115:=eq_true p115;replace q115:=eq_true q115;go_wp2_with (first|(go_at_call 119;(with_reducible refine(spec_l1Dec.calls k2 (rdOf ByteArray.empty t102 x9_2) t116 t117 _ A39.out).mono ?_);rintro e w' ⟨rfl,⟨nd,rfl⟩⟩;(try first|exact⟨rfl,_,World.drewN_drewN _ _ _⟩|exact⟨rfl,_,Eq.trans (World.drewN_drewN _ _ _) (congrArg (World.drewN _) (Nat.add_assoc _ _ _))⟩);have p118:0≤(x9_2:Int):=of_decide_eq_true (by assumption);have q118:x9_2<(t102.length:Int):=of_decide_eq_true (by assumption);obtain⟨ad118,e118,hx118_0⟩:=Kd.at_string (Kd.R_reads' HO_4.out).2.2 x9_2 p118 q118;obtain rfl:ad115=ad118:=(by injection e118);replace p118:=eq_true p118;replace q118:=eq_true q118)|(go_at_call 120;(with_reducible refine(spec_ValRead.calls k2 (rdOf ByteArray.empty t102 x9_2) t119 t120 t121 _ A40.out).mono ?_);rintro e w74 ⟨rfl,hb⟩;replace HO_4:=aS (Kd.R_below (by exact rU HO_4.out) hb);replace HO_8:=aS (Kd.R_below (by exact rU HO_8.out) hb);replace BK101:=aS (blk_below (g:=gb101) (o:=.cells #[.int .i64 x102000_2,.int .i64 x102001_2,.int .i64 x102002_2,.int .i64 x102003_2,.int .i64 x102004_2,.int .i64 x102005_2] 29 (0,0)) (by exact blkU BK101.out) hb);replace BK108:=aS (blk_below (g:=gb108) (o:=.cells #[.int .i64 x109000_1,.int .i64 x109001_2,.int .i64 x109002_2,.int .i64 x109003_2,.int .i64 x109004_2,.int .i64 x109005_2] 29 (0,0)) (by exact blkU BK108.out) hb);replace HB:=aS (below_step (by repeat(with_reducible first|exact HB.out|apply bA|apply bN|apply b1|refine below_set ?_ GE101.out|refine below_set ?_ GE108.out)) hb);(try clear hb))|((with_reducible refine gate_dst (N:=13) rfl ?_);refine box_event ?hg (N:=13) ?hd (cs:= #[.int .i64 0,.int .i64 0]) (t:=27) ?hr ?_;(case hd=>rfl);(case hg=>rfl);(case hr=>go_simp<;>rfl);intro gb122 hg w75 hbox hb;have n0_:=aS (Kd.R_below (by exact rU HO_4.out) hb);have n1_:=aS (Kd.R_below (by exact rU HO_8.out) hb);have n2_:=aS (blk_below (g:=gb101) (o:=.cells #[.int .i64 x102000_2,.int .i64 x102001_2,.int .i64 x102002_2,.int .i64 x102003_2,.int .i64 x102004_2,.int .i64 x102005_2] 29 (0,0)) (by exact blkU BK101.out) hb);have n3_:=aS (blk_below (g:=gb108) (o:=.cells #[.int .i64 x109000_1,.int .i64 x109001_2,.int .i64 x109002_2,.int .i64 x109003_2,.int .i64 x109004_2,.int .i64 x109005_2] 29 (0,0)) (by exact blkU BK108.out) hb);have n4_:=aS (below_step (by repeat(with_reducible first|exact HB.out|apply bA|apply bN|apply b1|refine below_set ?_ GE101.out|refine below_set ?_ GE108.out)) hb);have n5_:=aS (hbox);have n6_:=aS ((by rw[hg];exact(below_size (by repeat(with_reducible first|exact HB.out|apply bA|apply bN|apply b1|refine below_set ?_ GE101.out|refine below_set ?_ GE108.out))):w.heap.size≤gb122));have n7_:=aS ((by rw[hg];exact(below_size (by repeat(with_reducible first|exact HB.out|apply bA|apply bN|apply b1|refine below_set ?_ GE101.out|refine below_set ?_ GE108.out))):w.heap.size≤gb122));have n8_:=aS ((by rw[hg];exact Nat.ne_of_lt (blk_lt (g:=gb101) (o:=.cells #[.int .i64 x102000_2,.int .i64 x102001_2,.int .i64 x102002_2,.int .i64 x102003_2,.int .i64 x102004_2,.int .i64 x102005_2] 29 (0,0)) (by exact blkU BK101.out)):gb101≠gb122));have n9_:=aS ((by rw[hg];exact Nat.ne_of_gt (blk_lt (g:=gb101) (o:=.cells #[.int .i64 x102000_2,.int .i64 x102001_2,.int .i64 x102002_2,.int .i64 x102003_2,.int .i64 x102004_2,.int .i64 x102005_2] 29 (0,0)) (by exact blkU BK101.out)):gb122≠gb101));have n10_:=aS ((by rw[hg];exact Nat.ne_of_lt (blk_lt (g:=gb108) (o:=.cells #[.int .i64 x109000_1,.int .i64 x109001_2,.int .i64 x109002_2,.int .i64 x109003_2,.int .i64 x109004_2,.int .i64 x109005_2] 29 (0,0)) (by exact blkU BK108.out)):gb108≠gb122));have n11_:=aS ((by rw[hg];exact Nat.ne_of_gt (blk_lt (g:=gb108) (o:=.cells #[.int .i64 x109000_1,.int .i64 x109001_2,.int .i64 x109002_2,.int .i64 x109003_2,.int .i64 x109004_2,.int .i64 x109005_2] 29 (0,0)) (by exact blkU BK108.out)):gb122≠gb108));clear HO_4;clear HO_8;clear BK101;clear BK108;clear HB;have HO_4:=n0_;have HO_8:=n1_;have BK101:=n2_;have BK108:=n3_;have HB:=n4_;have BK122:=n5_;have GW122:=n6_;have GE122:=n7_;have NB101_122:=n8_;have NB122_101:=n9_;have NB108_122:=n10_;have NB122_108:=n11_;clear n0_ n1_ n2_ n3_ n4_ n5_ n6_ n7_ n8_ n9_ n10_ n11_;clear hb hbox hg;have hnb76:=NB122_101.out;have hnc76:=NB101_122.out;have hnb77:=NB122_108.out;have hnc77:=NB108_122.out;have hcz78_0:w75.cell? ⟨gb122,0,none⟩=some (.int .i64 0):=(blk_cell BK122.out 0).trans rfl;have hcz78_1:w75.cell? ⟨gb122,1,none⟩=some (.int .i64 0):=(blk_cell BK122.out 1).trans rfl;have hfz78_0:=blk_frozen BK122.out 0;have hfz78_1:=blk_frozen BK122.out 1;have hnb79:=NB108_101.out;have hnc79:=NB101_108.out;obtain⟨hcz80_0,hcz80_1,hcz80_2,hcz80_3,hcz80_4,hcz80_5⟩:=six_cells BK108.out;obtain⟨hfz80_0,hfz80_1,hfz80_2,hfz80_3,hfz80_4,hfz80_5⟩:=six_marks BK108.out))
                 go_roundg k2
                 case measure=>have:=HK1.out;have:=HK2.out;omega
                 case rel=>exact⟨(wrap64 (x9_2+1)),(wrap64 (x10_2+1)),(x102000_2),(x102001_2),(x102002_2),(x102003_2),(x102004_2),(x102005_2),(x109001_2),(x109002_2),(x109003_2),(t119),(t120),(by first|rfl|(simp;done)|(simp[*];done)),(by first|rfl|(simp;done)|(simp[*];done)),H',⟨by have:=HK1.out;have:=HK2.out;omega⟩,⟨by(with_reducible repeat(first|apply rA|apply rN|apply rD));exact Kd.R_mono (Kd.R_far (p:=⟨gb108,5,none⟩) (Kd.R_far (p:=⟨gb108,4,none⟩) (Kd.R_far (p:=⟨gb122,1,none⟩) (Kd.R_far (p:=⟨gb122,0,none⟩) (Kd.R_types (Kd.R_types HO_4.out BK122.out (by decide)) BK108.out (by decide)) (fun _ hk=>hk.1.2) (.int .i64 t119)) (fun _ hk=>hk.1.2) (.int .i64 t120)) (fun _ hk=>hk.2) (.int .i64 t119)) (fun _ hk=>hk.2) (.int .i64 t120)) (fun _ hk=>trivial)⟩,⟨by(with_reducible repeat(first|apply rA|apply rN|apply rD));exact Kd.R_mono (Kd.R_far (p:=⟨gb108,5,none⟩) (Kd.R_far (p:=⟨gb108,4,none⟩) (Kd.R_far (p:=⟨gb122,1,none⟩) (Kd.R_far (p:=⟨gb122,0,none⟩) (Kd.R_types (Kd.R_types HO_8.out BK122.out (by decide)) BK108.out (by decide)) (fun _ hk=>hk.1.2) (.int .i64 t119)) (fun _ hk=>hk.1.2) (.int .i64 t120)) (fun _ hk=>hk.2) (.int .i64 t119)) (fun _ hk=>hk.2) (.int .i64 t120)) (fun _ hk=>trivial)⟩,⟨by refine kU ?_;refine blk_far ?_ NB101_108.out _;refine kU ?_;refine blk_far ?_ NB101_108.out _;refine kU ?_;refine blk_far ?_ NB101_122.out _;refine kU ?_;refine blk_far ?_ NB101_122.out _;exact blkU BK101.out⟩,⟨by refine kU ?_;refine blk_put (cs:= #[.int .i64 x109000_1,.int .i64 x109001_2,.int .i64 x109002_2,.int .i64 x109003_2,.int .i64 t119,.int .i64 x109005_2]) ?_ 5 _ rfl;refine kU ?_;refine blk_put (cs:= #[.int .i64 x109000_1,.int .i64 x109001_2,.int .i64 x109002_2,.int .i64 x109003_2,.int .i64 x109004_2,.int .i64 x109005_2]) ?_ 4 _ rfl;refine kU ?_;refine blk_far ?_ NB108_122.out _;refine kU ?_;refine blk_far ?_ NB108_122.out _;exact blkU BK108.out⟩,⟨by repeat(with_reducible first|exact HB.out|apply bA|apply bN|apply b1|refine below_set ?_ GE101.out|refine below_set ?_ GE108.out|refine below_set ?_ GE122.out)⟩⟩
                ·rw[if_neg c71]at H
                 have c71b0:(x10_2==3)=false:=beq_eq_false_iff_ne.mpr c71;have c71b1:(x10_2 !=3)=true:=bne_iff_ne.mpr c71;have H':=aS H;clear H;obtain⟨Ao81,co81,eo81⟩:=Kd.R_slice HO_8.out;subst eo81;have p114:0≤(x10_2:Int):=of_decide_eq_true (by assumption)
                 have q114:x10_2<(t111.length:Int):=of_decide_eq_true (by assumption)
                 obtain⟨ad114,e114,hx114_0⟩:=Kd.at_bool (Kd.R_reads' HO_8.out).2.2 x10_2 p114 q114;(try rw[←Nbq30.out]at hx114_0)
                 cases e114
                 replace p114:=eq_true p114;replace q114:=eq_true q114;obtain⟨Ao82,co82,eo82⟩:=Kd.R_slice HO_4.out;subst eo82;have p115:0≤(x9_2:Int):=of_decide_eq_true (by assumption)
                 have q115:x9_2<(t102.length:Int):=of_decide_eq_true (by assumption)
                 obtain⟨ad115,e115,hx115_0⟩:=Kd.at_string (Kd.R_reads' HO_4.out).2.2 x9_2 p115 q115;cases e115
                 replace p115:=eq_true p115;replace q115:=eq_true q115;go_wp2_with (first|(go_at_call 119;(with_reducible refine(spec_l1Dec.calls k2 (rdOf ByteArray.empty t102 x9_2) t116 t117 _ A39.out).mono ?_);rintro e w' ⟨rfl,⟨nd,rfl⟩⟩;(try first|exact⟨rfl,_,World.drewN_drewN _ _ _⟩|exact⟨rfl,_,Eq.trans (World.drewN_drewN _ _ _) (congrArg (World.drewN _) (Nat.add_assoc _ _ _))⟩);have p118:0≤(x9_2:Int):=of_decide_eq_true (by assumption);have q118:x9_2<(t102.length:Int):=of_decide_eq_true (by assumption);obtain⟨ad118,e118,hx118_0⟩:=Kd.at_string (Kd.R_reads' HO_4.out).2.2 x9_2 p118 q118;obtain rfl:ad115=ad118:=(by injection e118);replace p118:=eq_true p118;replace q118:=eq_true q118)|(go_at_call 120;(with_reducible refine(spec_ValRead.calls k2 (rdOf ByteArray.empty t102 x9_2) t119 t120 t121 _ A40.out).mono ?_);rintro e w83 ⟨rfl,hb⟩;replace HO_4:=aS (Kd.R_below (by exact rU HO_4.out) hb);replace HO_8:=aS (Kd.R_below (by exact rU HO_8.out) hb);replace BK101:=aS (blk_below (g:=gb101) (o:=.cells #[.int .i64 x102000_2,.int .i64 x102001_2,.int .i64 x102002_2,.int .i64 x102003_2,.int .i64 x102004_2,.int .i64 x102005_2] 29 (0,0)) (by exact blkU BK101.out) hb);replace BK108:=aS (blk_below (g:=gb108) (o:=.cells #[.int .i64 x109000_1,.int .i64 x109001_2,.int .i64 x109002_2,.int .i64 x109003_2,.int .i64 x109004_2,.int .i64 x109005_2] 29 (0,0)) (by exact blkU BK108.out) hb);replace HB:=aS (below_step (by repeat(with_reducible first|exact HB.out|apply bA|apply bN|apply b1|refine below_set ?_ GE101.out|refine below_set ?_ GE108.out)) hb);(try clear hb))|((with_reducible refine gate_dst (N:=13) rfl ?_);refine box_event ?hg (N:=13) ?hd (cs:= #[.int .i64 0,.int .i64 0]) (t:=27) ?hr ?_;(case hd=>rfl);(case hg=>rfl);(case hr=>go_simp<;>rfl);intro gb122 hg w84 hbox hb;have n0_:=aS (Kd.R_below (by exact rU HO_4.out) hb);have n1_:=aS (Kd.R_below (by exact rU HO_8.out) hb);have n2_:=aS (blk_below (g:=gb101) (o:=.cells #[.int .i64 x102000_2,.int .i64 x102001_2,.int .i64 x102002_2,.int .i64 x102003_2,.int .i64 x102004_2,.int .i64 x102005_2] 29 (0,0)) (by exact blkU BK101.out) hb);have n3_:=aS (blk_below (g:=gb108) (o:=.cells #[.int .i64 x109000_1,.int .i64 x109001_2,.int .i64 x109002_2,.int .i64 x109003_2,.int .i64 x109004_2,.int .i64 x109005_2] 29 (0,0)) (by exact blkU BK108.out) hb);have n4_:=aS (below_step (by repeat(with_reducible first|exact HB.out|apply bA|apply bN|apply b1|refine below_set ?_ GE101.out|refine below_set ?_ GE108.out)) hb);have n5_:=aS (hbox);have n6_:=aS ((by rw[hg];exact(below_size (by repeat(with_reducible first|exact HB.out|apply bA|apply bN|apply b1|refine below_set ?_ GE101.out|refine below_set ?_ GE108.out))):w.heap.size≤gb122));have n7_:=aS ((by rw[hg];exact(below_size (by repeat(with_reducible first|exact HB.out|apply bA|apply bN|apply b1|refine below_set ?_ GE101.out|refine below_set ?_ GE108.out))):w.heap.size≤gb122));have n8_:=aS ((by rw[hg];exact Nat.ne_of_lt (blk_lt (g:=gb101) (o:=.cells #[.int .i64 x102000_2,.int .i64 x102001_2,.int .i64 x102002_2,.int .i64 x102003_2,.int .i64 x102004_2,.int .i64 x102005_2] 29 (0,0)) (by exact blkU BK101.out)):gb101≠gb122));have n9_:=aS ((by rw[hg];exact Nat.ne_of_gt (blk_lt (g:=gb101) (o:=.cells #[.int .i64 x102000_2,.int .i64 x102001_2,.int .i64 x102002_2,.int .i64 x102003_2,.int .i64 x102004_2,.int .i64 x102005_2] 29 (0,0)) (by exact blkU BK101.out)):gb122≠gb101));have n10_:=aS ((by rw[hg];exact Nat.ne_of_lt (blk_lt (g:=gb108) (o:=.cells #[.int .i64 x109000_1,.int .i64 x109001_2,.int .i64 x109002_2,.int .i64 x109003_2,.int .i64 x109004_2,.int .i64 x109005_2] 29 (0,0)) (by exact blkU BK108.out)):gb108≠gb122));have n11_:=aS ((by rw[hg];exact Nat.ne_of_gt (blk_lt (g:=gb108) (o:=.cells #[.int .i64 x109000_1,.int .i64 x109001_2,.int .i64 x109002_2,.int .i64 x109003_2,.int .i64 x109004_2,.int .i64 x109005_2] 29 (0,0)) (by exact blkU BK108.out)):gb122≠gb108));clear HO_4;clear HO_8;clear BK101;clear BK108;clear HB;have HO_4:=n0_;have HO_8:=n1_;have BK101:=n2_;have BK108:=n3_;have HB:=n4_;have BK122:=n5_;have GW122:=n6_;have GE122:=n7_;have NB101_122:=n8_;have NB122_101:=n9_;have NB108_122:=n10_;have NB122_108:=n11_;clear n0_ n1_ n2_ n3_ n4_ n5_ n6_ n7_ n8_ n9_ n10_ n11_;clear hb hbox hg;have hnb85:=NB122_101.out;have hnc85:=NB101_122.out;have hnb86:=NB122_108.out;have hnc86:=NB108_122.out;have hcz87_0:w84.cell? ⟨gb122,0,none⟩=some (.int .i64 0):=(blk_cell BK122.out 0).trans rfl;have hcz87_1:w84.cell? ⟨gb122,1,none⟩=some (.int .i64 0):=(blk_cell BK122.out 1).trans rfl;have hfz87_0:=blk_frozen BK122.out 0;have hfz87_1:=blk_frozen BK122.out 1))
                 go_roundg k2
                 case measure=>have:=HK1.out;have:=HK2.out;omega
                 case rel=>exact⟨(wrap64 (x9_2+1)),(wrap64 (x10_2+1)),(x102000_2),(x102001_2),(x102002_2),(x102003_2),(x102004_2),(x102005_2),(x109001_2),(x109002_2),(x109003_2),(x109004_2),(x109005_2),(by first|rfl|(simp;done)|(simp[*];done)),(by first|rfl|(simp;done)|(simp[*];done)),H',⟨by have:=HK1.out;have:=HK2.out;omega⟩,⟨by(with_reducible repeat(first|apply rA|apply rN|apply rD));exact Kd.R_mono (Kd.R_far (p:=⟨gb122,1,none⟩) (Kd.R_far (p:=⟨gb122,0,none⟩) (Kd.R_types HO_4.out BK122.out (by decide)) (fun _ hk=>hk.2) (.int .i64 t119)) (fun _ hk=>hk.2) (.int .i64 t120)) (fun _ hk=>trivial)⟩,⟨by(with_reducible repeat(first|apply rA|apply rN|apply rD));exact Kd.R_mono (Kd.R_far (p:=⟨gb122,1,none⟩) (Kd.R_far (p:=⟨gb122,0,none⟩) (Kd.R_types HO_8.out BK122.out (by decide)) (fun _ hk=>hk.2) (.int .i64 t119)) (fun _ hk=>hk.2) (.int .i64 t120)) (fun _ hk=>trivial)⟩,⟨by refine kU ?_;refine blk_far ?_ NB101_122.out _;refine kU ?_;refine blk_far ?_ NB101_122.out _;exact blkU BK101.out⟩,⟨by refine kU ?_;refine blk_far ?_ NB108_122.out _;refine kU ?_;refine blk_far ?_ NB108_122.out _;exact blkU BK108.out⟩,⟨by repeat(with_reducible first|exact HB.out|apply bA|apply bN|apply b1|refine below_set ?_ GE101.out|refine below_set ?_ GE108.out|refine below_set ?_ GE122.out)⟩⟩
            ·rw[if_neg c38]at H
             exact absurd H (by simp)
           ·rw[if_neg c37]at H
            exact absurd H (by simp)
         ·replace c31:=Bool.eq_false_iff.mpr c31
          subst c31;have H1:(spec_OpRead.l1 k2 a0 t102 t111 x9_2 (wrap64 (x10_2+1)) x109000_1 x109001_2 x109002_2 x109003_2 x109004_2 x109005_2)=some (r1,r2,r3,r4,r5,r6,r7):=by rw[if_neg (show¬(false=true) by decide)]at H;exact H
          clear H;have H:=H1;clear H1;have H':=aS H;clear H;obtain⟨Ao88,co88,eo88⟩:=Kd.R_slice HO_8.out;subst eo88;have p114:0≤(x10_2:Int):=of_decide_eq_true (by assumption)
          have q114:x10_2<(t111.length:Int):=of_decide_eq_true (by assumption)
          obtain⟨ad114,e114,hx114_0⟩:=Kd.at_bool (Kd.R_reads' HO_8.out).2.2 x10_2 p114 q114;(try rw[←Nbq30.out]at hx114_0)
          cases e114
          replace p114:=eq_true p114;replace q114:=eq_true q114;go_wp2
          go_roundg k2
          case measure=>have:=HK1.out;have:=HK2.out;omega
          case rel=>exact⟨(x9_2),(wrap64 (x10_2+1)),(x102000_2),(x102001_2),(x102002_2),(x102003_2),(x102004_2),(x102005_2),(x109001_2),(x109002_2),(x109003_2),(x109004_2),(x109005_2),(by first|rfl|(simp;done)|(simp[*];done)),(by first|rfl|(simp;done)|(simp[*];done)),H',⟨by have:=HK1.out;have:=HK2.out;omega⟩,⟨by exact rU HO_4.out⟩,⟨by exact rU HO_8.out⟩,⟨by exact blkU BK101.out⟩,⟨by exact blkU BK108.out⟩,⟨by repeat(with_reducible first|exact HB.out|apply bA|apply bN|apply b1|refine below_set ?_ GE101.out|refine below_set ?_ GE108.out)⟩⟩
        ·rw[if_neg c29]at H
         exact absurd H (by simp)
       ·rw[if_neg c28]at H
        have c28b0:decide (x10_2<(t111.length:Int))=false:=decide_eq_false c28;clear c28;have HC89:=aS H;clear H;obtain⟨Ao90,co90,eo90⟩:=Kd.R_slice HO_8.out;subst eo90;go_upto_region 31 with (fail)
        go_cut [100] (fun v100 wc=> ∃ (kq:Nat) (x100_88:Bool),v100= .bool x100_88∧Aside0 (spec_OpRead.j2 kq x100_88 x109000_1 x109001_2 x109002_2 x109003_2 x109004_2 x109005_2=some (r1,r2,r3,r4,r5,r6,r7))∧Aside0 (kq≤k2)∧Aside0 (wc.heap[gb101]?=some (.cells #[.int .i64 x102000_2,.int .i64 x102001_2,.int .i64 x102002_2,.int .i64 x102003_2,.int .i64 x102004_2,.int .i64 x102005_2] 29 (0,0)))∧Aside0 (wc.heap[gb108]?=some (.cells #[.int .i64 x109000_1,.int .i64 x109001_2,.int .i64 x109002_2,.int .i64 x109003_2,.int .i64 x109004_2,.int .i64 x109005_2] 29 (0,0)))∧Aside0 (Below w.heap.size w wc))
        case first=>
         have H:=HC89.out;clear HC89;by_cases c91:a0.toList=([]:List UInt8)
         ·rw[if_pos c91]at H
          have c91b0:(a0.toList==([]:List UInt8))=true:=beq_iff_eq.mpr c91;have c91b1:(a0.toList !=([]:List UInt8))=false:=bne_eq_false_iff_eq.mpr c91;clear c91;(first|rw[c91b0]|(simp only[i64_w,i32_w];rw[c91b0])|skip)
          have H':=aS H;clear H;go_wp2
          go_meet
          case rel=>exact⟨_,(true),(by first|rfl|(simp;done)|(simp[*];done)),H',⟨by have:=HK1.out;have:=HK2.out;first|omega|exact Nat.le_refl _⟩,⟨by exact blkU BK101.out⟩,⟨by exact blkU BK108.out⟩,⟨by repeat(with_reducible first|exact HB.out|apply bA|apply bN|apply b1|refine below_set ?_ GE101.out|refine below_set ?_ GE108.out)⟩⟩
         ·rw[if_neg c91]at H
          have c91b0:(a0.toList==([]:List UInt8))=false:=beq_eq_false_iff_ne.mpr c91;have c91b1:(a0.toList !=([]:List UInt8))=true:=bne_iff_ne.mpr c91;(first|rw[c91b0]|(simp only[i64_w,i32_w];rw[c91b0])|skip)
          replace H:=Option.bind_eq_some_iff.mp H;obtain⟨t123,A920,H⟩:=H;replace H:(spec_OpRead.j2 k2 (t123.toList !=a0.toList) x109000_1 x109001_2 x109002_2 x109003_2 x109004_2 x109005_2)=some (r1,r2,r3,r4,r5,r6,r7):=H;have A92:=aS A920;clear A920;have H':=aS H;clear H;have hnb93:=NB108_101.out;have hnc93:=NB101_108.out;have hcz94_0:wr.cell? ⟨gb108,0,none⟩=some (.int .i64 x109000_1):=(blk_cell BK108.out 0).trans rfl;have hcz94_1:wr.cell? ⟨gb108,1,none⟩=some (.int .i64 x109001_2):=(blk_cell BK108.out 1).trans rfl;have hcz94_2:wr.cell? ⟨gb108,2,none⟩=some (.int .i64 x109002_2):=(blk_cell BK108.out 2).trans rfl;have hcz94_3:wr.cell? ⟨gb108,3,none⟩=some (.int .i64 x109003_2):=(blk_cell BK108.out 3).trans rfl;have hcz94_4:wr.cell? ⟨gb108,4,none⟩=some (.int .i64 x109004_2):=(blk_cell BK108.out 4).trans rfl;have hcz94_5:wr.cell? ⟨gb108,5,none⟩=some (.int .i64 x109005_2):=(blk_cell BK108.out 5).trans rfl;have hfz94_0:=blk_frozen BK108.out 0;have hfz94_1:=blk_frozen BK108.out 1;have hfz94_2:=blk_frozen BK108.out 2;have hfz94_3:=blk_frozen BK108.out 3;have hfz94_4:=blk_frozen BK108.out 4;have hfz94_5:=blk_frozen BK108.out 5;go_wp2_with (first|(go_at_call 121;(with_reducible refine(spec_OpText.calls x109000_1 x109001_2 x109002_2 x109003_2 x109004_2 x109005_2 t123 _ A92.out).mono ?_);rintro e w95 ⟨rfl,hb⟩;replace HO_4:=aS (Kd.R_below (by exact rU HO_4.out) hb);replace HO_8:=aS (Kd.R_below (by exact rU HO_8.out) hb);replace BK101:=aS (blk_below (g:=gb101) (o:=.cells #[.int .i64 x102000_2,.int .i64 x102001_2,.int .i64 x102002_2,.int .i64 x102003_2,.int .i64 x102004_2,.int .i64 x102005_2] 29 (0,0)) (by exact blkU BK101.out) hb);replace BK108:=aS (blk_below (g:=gb108) (o:=.cells #[.int .i64 x109000_1,.int .i64 x109001_2,.int .i64 x109002_2,.int .i64 x109003_2,.int .i64 x109004_2,.int .i64 x109005_2] 29 (0,0)) (by exact blkU BK108.out) hb);replace HB:=aS (below_step (by repeat(with_reducible first|exact HB.out|apply bA|apply bN|apply b1|refine below_set ?_ GE101.out|refine below_set ?_ GE108.out)) hb);(try clear hb)))
          go_meet
          case rel=>exact⟨_,((t123.toList !=a0.toList)),(by first|rfl|(simp;done)|(simp[*];done)),H',⟨by have:=HK1.out;have:=HK2.out;first|omega|exact Nat.le_refl _⟩,⟨by exact blkU BK101.out⟩,⟨by exact blkU BK108.out⟩,⟨by repeat(with_reducible first|exact HB.out|apply bA|apply bN|apply b1|refine below_set ?_ GE101.out|refine below_set ?_ GE108.out)⟩⟩
        case rest=>
         clear HC89;(try clear c1);(try clear p1);(try clear q1);(try clear hx1);(try clear qi1);(try clear c2);(try clear c2b0);(try clear c2b1);(try clear p2);(try clear c3);(try clear q3);(try clear c4);(try clear c5);(try clear c6);(try clear p6);(try clear c7);(try clear c8);(try clear c9);(try clear p10);(try clear q10);(try clear hx10);(try clear c11);(try clear p11);(try clear q11);(try clear hx11);(try clear qi11);(try clear c13);(try clear c13b0);(try clear c14);(try clear c14b0);(try clear c15);(try clear c15b0);(try clear c15b1);(try clear c16);(try clear c16b0);(try clear c16b1);(try clear c19);(try clear c25);(try clear c28);(try clear c28b0);(try clear c29);(try clear c29b0);(try clear q30);(try clear c31);(try clear c32);(try clear c32b0);(try clear c35);(try clear c37);(try clear c37b0);(try clear c38);(try clear c38b0);(try clear c41);(try clear c41b0);(try clear c41b1);(try clear c46);(try clear c47);(try clear c49);(try clear c51);(try clear c51b0);(try clear c51b1);(try clear c56);(try clear c57);(try clear c59);(try clear c61);(try clear c61b0);(try clear c61b1);(try clear p64);(try clear c66);(try clear c67);(try clear c69);(try clear c71);(try clear c71b0);(try clear c71b1);(try clear c76);(try clear c77);(try clear c79);(try clear c85);(try clear c86);(try clear c91);(try clear c91b0);(try clear c91b1);(try clear c93);(try clear hcz12_0);(try clear hcz12_1);(try clear hcz12_2);(try clear hcz12_3);(try clear hcz12_4);(try clear hcz12_5);(try clear hcz20_0);(try clear hcz20_1);(try clear hcz20_2);(try clear hcz20_3);(try clear hcz20_4);(try clear hcz20_5);(try clear hcz26_0);(try clear hcz26_1);(try clear hcz26_2);(try clear hcz26_3);(try clear hcz26_4);(try clear hcz26_5);(try clear hcz36_0);(try clear hcz36_1);(try clear hcz36_2);(try clear hcz36_3);(try clear hcz36_4);(try clear hcz36_5);(try clear hcz48_0);(try clear hcz48_1);(try clear hcz4_0);(try clear hcz4_1);(try clear hcz4_2);(try clear hcz4_3);(try clear hcz4_4);(try clear hcz4_5);(try clear hcz50_0);(try clear hcz50_1);(try clear hcz50_2);(try clear hcz50_3);(try clear hcz50_4);(try clear hcz50_5);(try clear hcz58_0);(try clear hcz58_1);(try clear hcz60_0);(try clear hcz60_1);(try clear hcz60_2);(try clear hcz60_3);(try clear hcz60_4);(try clear hcz60_5);(try clear hcz68_0);(try clear hcz68_1);(try clear hcz70_0);(try clear hcz70_1);(try clear hcz70_2);(try clear hcz70_3);(try clear hcz70_4);(try clear hcz70_5);(try clear hcz78_0);(try clear hcz78_1);(try clear hcz80_0);(try clear hcz80_1);(try clear hcz80_2);(try clear hcz80_3);(try clear hcz80_4);(try clear hcz80_5);(try clear hcz87_0);(try clear hcz87_1);(try clear hcz94_0);(try clear hcz94_1);(try clear hcz94_2);(try clear hcz94_3);(try clear hcz94_4);(try clear hcz94_5);(try clear hfz12_0);(try clear hfz12_1);(try clear hfz12_2);(try clear hfz12_3);(try clear hfz12_4);(try clear hfz12_5);(try clear hfz20_0);(try clear hfz20_1);(try clear hfz20_2);(try clear hfz20_3);(try clear hfz20_4);(try clear hfz20_5);(try clear hfz26_0);(try clear hfz26_1);(try clear hfz26_2);(try clear hfz26_3);(try clear hfz26_4);(try clear hfz26_5);(try clear hfz36_0);(try clear hfz36_1);(try clear hfz36_2);(try clear hfz36_3);(try clear hfz36_4);(try clear hfz36_5);(try clear hfz48_0);(try clear hfz48_1);(try clear hfz4_0);(try clear hfz4_1);(try clear hfz4_2);(try clear hfz4_3);(try clear hfz4_4);(try clear hfz4_5);(try clear hfz50_0);(try clear hfz50_1);(try clear hfz50_2);(try clear hfz50_3);(try clear hfz50_4);(try clear hfz50_5);(try clear hfz58_0);(try clear hfz58_1);(try clear hfz60_0);(try clear hfz60_1);(try clear hfz60_2);(try clear hfz60_3);(try clear hfz60_4);(try clear hfz60_5);(try clear hfz68_0);(try clear hfz68_1);(try clear hfz70_0);(try clear hfz70_1);(try clear hfz70_2);(try clear hfz70_3);(try clear hfz70_4);(try clear hfz70_5);(try clear hfz78_0);(try clear hfz78_1);(try clear hfz80_0);(try clear hfz80_1);(try clear hfz80_2);(try clear hfz80_3);(try clear hfz80_4);(try clear hfz80_5);(try clear hfz87_0);(try clear hfz87_1);(try clear hfz94_0);(try clear hfz94_1);(try clear hfz94_2);(try clear hfz94_3);(try clear hfz94_4);(try clear hfz94_5);(try clear hx109_0);(try clear hx110_0);(try clear hx114_0);(try clear hx115_0);(try clear hx118_0);(try clear p1);(try clear p10);(try clear p109);(try clear p11);(try clear p110);(try clear p114);(try clear p115);(try clear p118);(try clear p2);(try clear p6);(try clear q1);(try clear q10);(try clear q109);(try clear q11);(try clear q110);(try clear q114);(try clear q115);(try clear q118)
         obtain⟨kq,x100_88,rfl,HA,HJ88,BK101,BK108,HB⟩:=hcut;cases kq with
         |zero=>exact absurd HA.out (by simp[spec_OpRead.j2])
         |succ kj88=>
          have H:=HA.out;clear HA;simp only[spec_OpRead.j2]at H
          by_cases c96:x100_88=true
          ·subst c96
           have H1:(some (0,0,0,0,0,0,false))=some (r1,r2,r3,r4,r5,r6,r7):=by rw[if_pos rfl]at H;exact H
           clear H;have H:=H1;clear H1;simp only[Option.some.injEq,Prod.mk.injEq]at H
           obtain⟨rfl,rfl,rfl,rfl,rfl,rfl,rfl⟩:=H;have hnb97:=NB101_108.out;have hnc97:=NB108_101.out;have hcz98_0:wc.cell? ⟨gb101,0,none⟩=some (.int .i64 x102000_2):=(blk_cell BK101.out 0).trans rfl;have hcz98_1:wc.cell? ⟨gb101,1,none⟩=some (.int .i64 x102001_2):=(blk_cell BK101.out 1).trans rfl;have hcz98_2:wc.cell? ⟨gb101,2,none⟩=some (.int .i64 x102002_2):=(blk_cell BK101.out 2).trans rfl;have hcz98_3:wc.cell? ⟨gb101,3,none⟩=some (.int .i64 x102003_2):=(blk_cell BK101.out 3).trans rfl;have hcz98_4:wc.cell? ⟨gb101,4,none⟩=some (.int .i64 x102004_2):=(blk_cell BK101.out 4).trans rfl;have hcz98_5:wc.cell? ⟨gb101,5,none⟩=some (.int .i64 x102005_2):=(blk_cell BK101.out 5).trans rfl;have hfz98_0:=blk_frozen BK101.out 0;have hfz98_1:=blk_frozen BK101.out 1;have hfz98_2:=blk_frozen BK101.out 2;have hfz98_3:=blk_frozen BK101.out 3;have hfz98_4:=blk_frozen BK101.out 4;have hfz98_5:=blk_frozen BK101.out 5;go_wp2
           refine bodyPost_ret (results_ct rfl _ _ gb101 29 #[.int .i64 0,.int .i64 0,.int .i64 0,.int .i64 0,.int .i64 0,.int .i64 0] (0,0) _ rfl (by refine kU ?_;refine blk_put (cs:= #[.int .i64 0,.int .i64 0,.int .i64 0,.int .i64 0,.int .i64 0,.int .i64 x102005_2]) ?_ 5 _ rfl;refine kU ?_;refine blk_put (cs:= #[.int .i64 0,.int .i64 0,.int .i64 0,.int .i64 0,.int .i64 x102004_2,.int .i64 x102005_2]) ?_ 4 _ rfl;refine kU ?_;refine blk_put (cs:= #[.int .i64 0,.int .i64 0,.int .i64 0,.int .i64 x102003_2,.int .i64 x102004_2,.int .i64 x102005_2]) ?_ 3 _ rfl;refine kU ?_;refine blk_put (cs:= #[.int .i64 0,.int .i64 0,.int .i64 x102002_2,.int .i64 x102003_2,.int .i64 x102004_2,.int .i64 x102005_2]) ?_ 2 _ rfl;refine kU ?_;refine blk_put (cs:= #[.int .i64 0,.int .i64 x102001_2,.int .i64 x102002_2,.int .i64 x102003_2,.int .i64 x102004_2,.int .i64 x102005_2]) ?_ 1 _ rfl;refine kU ?_;refine blk_put (cs:= #[.int .i64 x102000_2,.int .i64 x102001_2,.int .i64 x102002_2,.int .i64 x102003_2,.int .i64 x102004_2,.int .i64 x102005_2]) ?_ 0 _ rfl;exact blkU BK101.out) Try.underlying29 rfl (by kernel_rfl)) rfl ?_
           exact⟨by first|rfl|(simp[*]<;>rfl),by repeat(with_reducible first|exact HB.out|apply bA|apply bN|apply b1|refine below_set ?_ GE101.out|refine below_set ?_ GE108.out)⟩
          ·replace c96:=Bool.eq_false_iff.mpr c96
           subst c96;have H1:(some (x109000_1,x109001_2,x109002_2,x109003_2,x109004_2,x109005_2,true))=some (r1,r2,r3,r4,r5,r6,r7):=by rw[if_neg (show¬(false=true) by decide)]at H;exact H
           clear H;have H:=H1;clear H1;simp only[Option.some.injEq,Prod.mk.injEq]at H
           obtain⟨rfl,rfl,rfl,rfl,rfl,rfl,rfl⟩:=H;have hnb99:=NB108_101.out;have hnc99:=NB101_108.out;have hcz100_0:wc.cell? ⟨gb108,0,none⟩=some (.int .i64 x109000_1):=(blk_cell BK108.out 0).trans rfl;have hcz100_1:wc.cell? ⟨gb108,1,none⟩=some (.int .i64 x109001_2):=(blk_cell BK108.out 1).trans rfl;have hcz100_2:wc.cell? ⟨gb108,2,none⟩=some (.int .i64 x109002_2):=(blk_cell BK108.out 2).trans rfl;have hcz100_3:wc.cell? ⟨gb108,3,none⟩=some (.int .i64 x109003_2):=(blk_cell BK108.out 3).trans rfl;have hcz100_4:wc.cell? ⟨gb108,4,none⟩=some (.int .i64 x109004_2):=(blk_cell BK108.out 4).trans rfl;have hcz100_5:wc.cell? ⟨gb108,5,none⟩=some (.int .i64 x109005_2):=(blk_cell BK108.out 5).trans rfl;have hfz100_0:=blk_frozen BK108.out 0;have hfz100_1:=blk_frozen BK108.out 1;have hfz100_2:=blk_frozen BK108.out 2;have hfz100_3:=blk_frozen BK108.out 3;have hfz100_4:=blk_frozen BK108.out 4;have hfz100_5:=blk_frozen BK108.out 5;have hcz101_0:wc.cell? ⟨gb101,0,none⟩=some (.int .i64 x102000_2):=(blk_cell BK101.out 0).trans rfl;have hcz101_1:wc.cell? ⟨gb101,1,none⟩=some (.int .i64 x102001_2):=(blk_cell BK101.out 1).trans rfl;have hcz101_2:wc.cell? ⟨gb101,2,none⟩=some (.int .i64 x102002_2):=(blk_cell BK101.out 2).trans rfl;have hcz101_3:wc.cell? ⟨gb101,3,none⟩=some (.int .i64 x102003_2):=(blk_cell BK101.out 3).trans rfl;have hcz101_4:wc.cell? ⟨gb101,4,none⟩=some (.int .i64 x102004_2):=(blk_cell BK101.out 4).trans rfl;have hcz101_5:wc.cell? ⟨gb101,5,none⟩=some (.int .i64 x102005_2):=(blk_cell BK101.out 5).trans rfl;have hfz101_0:=blk_frozen BK101.out 0;have hfz101_1:=blk_frozen BK101.out 1;have hfz101_2:=blk_frozen BK101.out 2;have hfz101_3:=blk_frozen BK101.out 3;have hfz101_4:=blk_frozen BK101.out 4;have hfz101_5:=blk_frozen BK101.out 5;go_wp2
           refine bodyPost_ret (results_ct rfl _ _ gb101 29 #[.int .i64 x109000_1,.int .i64 x109001_2,.int .i64 x109002_2,.int .i64 x109003_2,.int .i64 x109004_2,.int .i64 x109005_2] (0,0) _ rfl (by refine kU ?_;refine blk_put (cs:= #[.int .i64 x109000_1,.int .i64 x109001_2,.int .i64 x109002_2,.int .i64 x109003_2,.int .i64 x109004_2,.int .i64 x102005_2]) ?_ 5 _ rfl;refine kU ?_;refine blk_put (cs:= #[.int .i64 x109000_1,.int .i64 x109001_2,.int .i64 x109002_2,.int .i64 x109003_2,.int .i64 x102004_2,.int .i64 x102005_2]) ?_ 4 _ rfl;refine kU ?_;refine blk_put (cs:= #[.int .i64 x109000_1,.int .i64 x109001_2,.int .i64 x109002_2,.int .i64 x102003_2,.int .i64 x102004_2,.int .i64 x102005_2]) ?_ 3 _ rfl;refine kU ?_;refine blk_put (cs:= #[.int .i64 x109000_1,.int .i64 x109001_2,.int .i64 x102002_2,.int .i64 x102003_2,.int .i64 x102004_2,.int .i64 x102005_2]) ?_ 2 _ rfl;refine kU ?_;refine blk_put (cs:= #[.int .i64 x109000_1,.int .i64 x102001_2,.int .i64 x102002_2,.int .i64 x102003_2,.int .i64 x102004_2,.int .i64 x102005_2]) ?_ 1 _ rfl;refine kU ?_;refine blk_put (cs:= #[.int .i64 x102000_2,.int .i64 x102001_2,.int .i64 x102002_2,.int .i64 x102003_2,.int .i64 x102004_2,.int .i64 x102005_2]) ?_ 0 _ rfl;exact blkU BK101.out) Try.underlying29 rfl (by kernel_rfl)) rfl ?_
           exact⟨by first|rfl|(simp[*]<;>rfl),by repeat(with_reducible first|exact HB.out|apply bA|apply bN|apply b1|refine below_set ?_ GE101.out|refine below_set ?_ GE108.out)⟩
end Go.Proofs.Ytmklpbmlgjkbiaa.PT
end
section
namespace Go.Proofs.Ytmklpbmlgjkbiaa.PS
open Go.RowKit Go.Proofs.YtmklpbmlgjkbiaaW.PrintWords Go.Proofs.YtmklpbmlgjkbiaaW.PrintLast
def oreadV.f (a0:ByteArray):Option (Int×Int×Int×Int×Int×Int×Bool):=PT.spec_OpRead.f 60 a0
theorem spec_OpRead.calls (a0:ByteArray) (r1:Int) (r2:Int) (r3:Int) (r4:Int) (r5:Int) (r6:Int) (r7:Bool) (w:World) (h:oreadV.f a0=some (r1,r2,r3,r4,r5,r6,r7)):
    Calls Try.prog 113 #[.string a0] w fun e w'=>e= .returned (.tuple #[.agg #[.int .i64 r1,.int .i64 r2,.int .i64 r3,.int .i64 r4,.int .i64 r5,.int .i64 r6],.bool r7])∧Below w.heap.size w w':=
  PT.spec_OpRead.calls 60 a0 r1 r2 r3 r4 r5 r6 r7 w h
end Go.Proofs.Ytmklpbmlgjkbiaa.PS
end
