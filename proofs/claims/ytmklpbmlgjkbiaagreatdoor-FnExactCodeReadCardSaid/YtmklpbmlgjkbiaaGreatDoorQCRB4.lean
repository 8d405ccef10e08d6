/- What the rows of CRB rest on, part 5. -/
import Derived.Shelf.Strings.Builder1
import Derived.Shelf.Small.Strs
import Derived.Shelf.Utf8.RuneCount
import Derived.Shelf.Strconv.Atoi
import Derived.Shelf.Strconv.Itoa0
import Derived.Shelf.Strconv.Itoa1
import Derived.Shelf.LaysM
import Derived.Shelf.Strconv.Itoa2
import Derived.Shelf.Strconv.Itoa3
import Derived.Shelf.Strconv.AtoiErrFast
import Derived.Shelf.Strconv.ParseIntEmpty
import Derived.Shelf.Strconv.AtoiFail
import Derived.Shelf.Strconv.Clone
import Derived.Shelf.Strconv.SyntaxError
import Derived.Shelf.LaysC
import Derived.Shelf.Strconv.ToError
import Derived.Shelf.Strconv.Lower
import Derived.Shelf.Strconv.ParseUint10
import Derived.Shelf.Strconv.ParseUint10Empty
import Derived.Shelf.Strconv.ParseUint10Any
import Derived.Shelf.Strconv.ParseInt10
import Derived.Shelf.Strconv.AtoiLong
import Derived.Shelf.Strconv.AtoiInnerAll
import Derived.Shelf.Strconv.RangeError
import Derived.Shelf.Strconv.ToErrorRange
import Derived.Shelf.Strconv.AtoiAll
import Derived.Shelf.Strconv.ErrVarAll
import Derived.Shelf.Strings.Search1
import Derived.Shelf.Strings.Search2
import Derived.Shelf.Strings.Count
import Derived.Shelf.Strings.Shaped
import Derived.Shelf.Strings.Prefix
import Derived.Shelf.Strings.Split
import Derived.Shelf.Strings.SplitShaped
import Derived.Shelf.Unicode.Decode
import Derived.Shelf.Strings.RuneCount
import Derived.Shelf.Strings.Explode
import Derived.Shelf.Unicode.DecodeSlow
import Derived.Shelf.Unicode.DecodeAny
import Derived.WalkSmall
import Derived.Lib.AppendIntMem
import Derived.Outline
import Derived.Lib.Split
import Derived.Lib.SplitLaws
import Derived.Lib.CountLaws
import Derived.Lib.AtoiErrMem
import Derived.Lib.UnsafeStr
import Derived.Lib.Builder
import Derived.Laws.Externs
import Derived.Lib.Strings
import Derived.RangeFuncNested
import Derived.RangeFuncBound
import Derived.RangeFuncCalls
import Derived.RangeFuncLeaves
import Derived.RangeFuncRecord
import Derived.Shelf.Abstract
import Derived.Shelf.RegionOpen
import Derived.OwnWalkIn
import Derived.TacticsInMore
import Derived.LoopNIn
import Derived.LoopIn
import Derived.RegionIn
import Derived.RangeFuncBox
import Derived.RangeFuncWrites
import Derived.Lib.OthersKept
import Derived.Maps.OwnSet
import Derived.Maps.Views
import Derived.Test.YtmklpbmlgjkbiaaGreatDoorQCRB3
set_option linter.unusedVariables false
set_option linter.unusedSimpArgs false
set_option maxHeartbeats 8000000
set_option maxRecDepth 100000
section
namespace Go.Proofs.YtmklpbmlgjkbiaaGreatDoor.PC
open Go.RowKit Go.Proofs.YtmklpbmlgjkbiaaGreatDoorW.PrintWords Go.Proofs.YtmklpbmlgjkbiaaGreatDoorW.PrintLast Go.Proofs.YtmklpbmlgjkbiaaGreatDoorW.PrintMore Go.Proofs.YtmklpbmlgjkbiaaGreatDoor.PS
attribute [local go_sem] max2_int min2_int max_two min_two max_three min_three max_four min_four   -- for this text's walks alone
theorem ie_ne (l:List UInt8):(l !=[])= !l.isEmpty:=by cases l<;>rfl
mutual
def spec_CodeRead.j0:Nat→List ByteArray→Int→Bool→Option ((List (S39))×Bool)
  |0,_,_,_=>none
  |k+1,x4,x5,x27=>if x27=true then(some ((([]:List (S39))),false))else(spec_CodeRead.l0 k x4 x5 (([]:List (S39))) 0)
def spec_CodeRead.l0:Nat→List ByteArray→Int→List (S39)→Int→Option ((List (S39))×Bool)
  |0,_,_,_,_=>none
  |k+1,x4,x5,x6,x7=>if x7<x5 then(if 0≤x7 then(if x7<(x4.length:Int)then((oreadV.f (rdOf ByteArray.empty x4 x7)).bind fun bt115=>(if bt115.2.2.2.2.2.2=true then(if x6.length<2932031007402 then(spec_CodeRead.l0 k x4 x5 (x6++ [(⟨bt115.1,bt115.2.1,bt115.2.2.1,bt115.2.2.2.1,(⟨bt115.2.2.2.2.1,bt115.2.2.2.2.2.1⟩:S37)⟩:S39)]) (wrap64 (x7+1)))else(none))else(some ((([]:List (S39))),false))))else(none))else(none))else((codeV.f x6).bind fun t129=>(if t129=true then(some (x6,true))else(some ((([]:List (S39))),false))))
end
def spec_CodeRead.f (k:Nat) (a0:ByteArray):Option ((List (S39))×Bool):=if(a0.size:Int)>400 then(some ((([]:List (S39))),false))else((cutV.f a0 10).bind fun t104=>(if(wrap64 ((t104.length:Int)-1))<1 then(spec_CodeRead.j0 k t104 (wrap64 ((t104.length:Int)-1)) true)else(if 0≤(wrap64 ((t104.length:Int)-1))then(if(wrap64 ((t104.length:Int)-1))<(t104.length:Int)then(spec_CodeRead.j0 k t104 (wrap64 ((t104.length:Int)-1)) ((rdOf ByteArray.empty t104 (wrap64 ((t104.length:Int)-1))).toList !=([]:List UInt8)))else(none))else(none))))
theorem spec_CodeRead.calls (k:Nat) (a0:ByteArray) (r1:List (S39)) (r2:Bool) (w:World) (h:spec_CodeRead.f k a0=some (r1,r2)):
    Calls Tryz.prog 6 #[.string a0] w fun e w'=> ∃v0_:Value,e= .returned (.tuple #[v0_,.bool r2])∧Kd.R k39 39 w' w.heap.size (fun _=>True) v0_ r1∧Below w.heap.size w w':=by
  have hu39:=Tryz.underlying39;have HB:=Aside0.mk (Below.refl w.heap.size w);have H:(if(a0.size:Int)>400 then(some ((([]:List (S39))),false))else((cutV.f a0 10).bind fun t104=>(if(wrap64 ((t104.length:Int)-1))<1 then(spec_CodeRead.j0 k t104 (wrap64 ((t104.length:Int)-1)) true)else(if 0≤(wrap64 ((t104.length:Int)-1))then(if(wrap64 ((t104.length:Int)-1))<(t104.length:Int)then(spec_CodeRead.j0 k t104 (wrap64 ((t104.length:Int)-1)) ((rdOf ByteArray.empty t104 (wrap64 ((t104.length:Int)-1))).toList !=([]:List UInt8)))else(none))else(none)))))=some (r1,r2):=h
  clear h;by_cases c2:(a0.size:Int)>400
  · rw[if_pos c2]at H
    have c2b0:decide (400<(a0.size:Int))=true:=decide_eq_true c2;have c2b1:decide (400<a0.size)=true:=decide_eq_true (by omega)
    clear c2;obtain⟨y101,hy101⟩: ∃y_:List (S39),y_=(([]:List (S39))):=⟨_,rfl⟩;replace H:(some (y101,false))=some (r1,r2):=by first|(rw[hy101];with_reducible exact H)|(have H2_:=(Option.bind_some _ _).symm.trans H;rw[hy101];with_reducible exact H2_)|(have H2_:=(Option.bind_some _ _).symm.trans H;with_reducible exact H2_)|with_reducible exact H|(rw[hy101];exact H)|exact H
    have Ny101:=Aside0.mk hy101;clear hy101;simp only[Option.some.injEq,Prod.mk.injEq]at H
    obtain⟨rfl,rfl⟩:=H;go_enter Tryz.func6,Tryz.ntmps6
    go_wp2_with (first|((with_reducible refine gate_dst (N:=13) rfl ?_);refine Kd.R_lit k39 _ 39 ?hg (N:=13) ?hd (xs:=([]:List (S39))) (inner:=[]) (ok:=fun _=>True) (okp:=fun _=>True) ?hr ?hp (fun _ hk=>hk) trivial (Below.refl _ _) (Nat.le_refl _) (by simp) ?_;(case hd=>rfl);(case hg=>rfl);(case hr=>first|(go_simp;done)|(go_simp;rfl));(case hp=>exact(Reps.none _ _));intro v102 w3 ho4 hb hg_ hnew_;clear hg_ hnew_;(first|rw[←Ny101.out]at ho4|(simp only[Int.reduceToNat]at ho4;rw[←Ny101.out]at ho4));have n0_:=Aside0.mk (Kd.R_lower ho4 (below_size (by repeat(first|(with_reducible first|exact HB.out|apply below_alloc|apply pw_below_drewN|apply below_drew1)|exact HB.out))));have n1_:=Aside0.mk (below_step (by repeat(first|(with_reducible first|exact HB.out|apply below_alloc|apply pw_below_drewN|apply below_drew1)|exact HB.out)) hb);clear HB;have HO103:=n0_;have HB:=n1_;clear n0_ n1_;clear hb ho4))
    go_ret2
    exact⟨_,by first|rfl|(simp[errW_none,errW_some]<;>rfl)|(simp[*,errW_none,errW_some]<;>rfl),by(with_reducible repeat(first|apply Kd.R_alloc|apply Kd.R_drewN|apply Kd.R_drew));exact HO103.out,by repeat(first|(with_reducible first|exact HB.out|apply below_alloc|apply pw_below_drewN|apply below_drew1)|exact HB.out)⟩
  · rw[if_neg c2]at H
    have c2b0:decide (400<(a0.size:Int))=false:=decide_eq_false c2;have c2b1:decide (400<a0.size)=false:=decide_eq_false (by omega)
    clear c2;replace H:=Option.bind_eq_some_iff.mp H;obtain⟨t104,A50,H⟩:=H;replace H:(if(wrap64 ((t104.length:Int)-1))<1 then(spec_CodeRead.j0 k t104 (wrap64 ((t104.length:Int)-1)) true)else(if 0≤(wrap64 ((t104.length:Int)-1))then(if(wrap64 ((t104.length:Int)-1))<(t104.length:Int)then(spec_CodeRead.j0 k t104 (wrap64 ((t104.length:Int)-1)) ((rdOf ByteArray.empty t104 (wrap64 ((t104.length:Int)-1))).toList !=([]:List UInt8)))else(none))else(none)))=some (r1,r2):=H
    have A5:=Aside0.mk A50;clear A50;have HC6:=Aside0.mk H;clear H;go_enter Tryz.func6,Tryz.ntmps6
    go_upto_region 5 with (first|((with_reducible refine gate_callee (f:=17) rfl ?_);refine goesL_ (some 15) rfl rfl Tryz.func17 (by kernel_rfl) rfl #[.string a0,.int .u8 10] rfl (by(try simp only[List.map_toArray,List.map_cons,List.map_nil]);first|done|rfl|(simp only[List.length_drop,List.length_take];rfl)) ?_;(with_reducible refine(spec_l2Cut.calls a0 10 t104 _ A5.out).mono ?_);rintro e w7 ⟨v105,rfl,ho0,hb⟩;refine⟨_,rfl,?_⟩;have n0_:=Aside0.mk (Kd.R_lower ho0 (below_size (by repeat(first|(with_reducible first|exact HB.out|apply below_alloc|apply pw_below_drewN|apply below_drew1)|exact HB.out))));have n1_:=Aside0.mk (below_step (by repeat(first|(with_reducible first|exact HB.out|apply below_alloc|apply pw_below_drewN|apply below_drew1)|exact HB.out)) hb);clear HB;have HO106:=n0_;have HB:=n1_;clear n0_ n1_;(try clear hb);(try clear hb2);(try clear hk);(try clear hi);(try clear ho0);obtain⟨Ao8,co8,eo8⟩:=Kd.R_slice HO106.out;subst eo8))
    (try simp only[Act.put,List.setIfInBounds_toArray,List.set_cons_zero,List.set_cons_succ])
    go_cut [27] (fun v27 wc=> ∃ (kq:Nat) (x27_5:Bool),v27= .bool x27_5∧Aside0 (spec_CodeRead.j0 kq t104 (wrap64 ((t104.length:Int)-1)) x27_5=some (r1,r2))∧Aside0 (kq≤k)∧Aside0 (Kd.R Kd.string 9 wc w.heap.size (fun _=>True) (.slice Ao8 t104.length co8) t104)∧Aside0 (Below w.heap.size w wc))
    case first=>
      have H:=HC6.out;clear HC6;by_cases c9:(wrap64 ((t104.length:Int)-1))<1
      · rw[if_pos c9]at H
        have c9b0:decide ((wrap64 ((t104.length:Int)-1))<1)=true:=decide_eq_true c9;clear c9;(first|rw[c9b0]|(simp only[i64_w,i32_w];rw[c9b0])|skip)
        have H':=Aside0.mk H;clear H;go_wp2
        go_meet
        case rel=>exact⟨_,(true),(by first|rfl|(simp;done)|(simp[*];done)),H',⟨by first|omega|exact Nat.le_refl _⟩,⟨by(with_reducible repeat(first|apply Kd.R_alloc|apply Kd.R_drewN|apply Kd.R_drew));exact HO106.out⟩,⟨by repeat(first|(with_reducible first|exact HB.out|apply below_alloc|apply pw_below_drewN|apply below_drew1)|exact HB.out)⟩⟩
      · rw[if_neg c9]at H
        have c9b0:decide ((wrap64 ((t104.length:Int)-1))<1)=false:=decide_eq_false c9;clear c9;(first|rw[c9b0]|(simp only[i64_w,i32_w];rw[c9b0])|skip)
        obtain⟨ji10,hji10⟩: ∃j_:Int,(wrap64 ((t104.length:Int)-1))=j_:=⟨_,rfl⟩;replace H:(if 0≤(ji10)then(if(ji10)<(t104.length:Int)then(spec_CodeRead.j0 k t104 ji10 ((rdOf ByteArray.empty t104 (ji10)).toList !=([]:List UInt8)))else(none))else(none))=some (r1,r2):=by first|(rw[hji10]at H;exact H)|(simp only[hji10]at H⊢;exact H)
        (try rw[hji10]at c9b0)
        have hji10w:(IntKind.i64.wrap ((t104.length:Int)-1))=ji10:=(i64_w _).trans hji10;by_cases c11:0≤(ji10)
        · rw[if_pos c11]at H
          have c11b0:decide (0≤(ji10))=true:=decide_eq_true c11;clear c11;by_cases c12:(ji10)<(t104.length:Int)
          · rw[if_pos c12]at H
            have c12b0:decide ((ji10)<(t104.length:Int))=true:=decide_eq_true c12;clear c12;have H':=Aside0.mk H;clear H;have p107:0≤((ji10):Int):=of_decide_eq_true (by first|(with_reducible assumption)|assumption)
            have q107:(ji10)<(t104.length:Int):=of_decide_eq_true (by first|(with_reducible assumption)|assumption)
            obtain⟨ad107,e107,hx107_0⟩:=Kd.at_string (Kd.R_reads' HO106.out).2.2 (ji10) p107 q107;cases e107
            replace p107:=eq_true p107;replace q107:=eq_true q107;go_wp2
            go_meet
            case rel=>subst hji10;exact⟨_,(((rdOf ByteArray.empty t104 (wrap64 ((t104.length:Int)-1))).toList !=([]:List UInt8))),(by first|rfl|(simp;done)|(simp only[ie_ne];rfl)|(simp[ie_ne];done)),H',⟨by first|omega|exact Nat.le_refl _⟩,⟨by(with_reducible repeat(first|apply Kd.R_alloc|apply Kd.R_drewN|apply Kd.R_drew));exact HO106.out⟩,⟨by repeat(first|(with_reducible first|exact HB.out|apply below_alloc|apply pw_below_drewN|apply below_drew1)|exact HB.out)⟩⟩
          · rw[if_neg c12]at H
            exact absurd H (by simp)
        · rw[if_neg c11]at H
          exact absurd H (by simp)
    case rest=>
      clear HC6;try clear c1
      try clear p1
      try clear q1
      try clear hx1
      try clear c2
      try clear c2b0
      try clear c2b1
      try clear p2
      try clear c6
      try clear p6
      try clear c9
      try clear c9b0
      try clear p10
      try clear q10
      try clear hx10
      try clear c11
      try clear c11b0
      try clear c12
      try clear c12b0
      try clear hx107_0
      try clear p107
      try clear q107
      obtain⟨kq,x27_5,rfl,HA,HJ5,HO_4,HB⟩:=hcut;cases kq with
      |zero=>exact absurd HA.out (by simp[spec_CodeRead.j0])
      |succ kj5=>
        have H:=HA.out;clear HA;simp only[spec_CodeRead.j0]at H
        by_cases c13:x27_5=true
        · subst c13
          have H1:(some ((([]:List (S39))),false))=some (r1,r2):=by rw[if_pos rfl]at H;exact H
          clear H;have H:=H1;clear H1;obtain⟨y108,hy108⟩: ∃y_:List (S39),y_=(([]:List (S39))):=⟨_,rfl⟩;replace H:(some (y108,false))=some (r1,r2):=by first|(rw[hy108];with_reducible exact H)|(have H2_:=(Option.bind_some _ _).symm.trans H;rw[hy108];with_reducible exact H2_)|(have H2_:=(Option.bind_some _ _).symm.trans H;with_reducible exact H2_)|with_reducible exact H|(rw[hy108];exact H)|exact H
          have Ny108:=Aside0.mk hy108;clear hy108;simp only[Option.some.injEq,Prod.mk.injEq]at H
          obtain⟨rfl,rfl⟩:=H;go_wp2_with (first|((with_reducible refine gate_dst (N:=28) rfl ?_);refine Kd.R_lit k39 _ 39 ?hg (N:=28) ?hd (xs:=([]:List (S39))) (inner:=[]) (ok:=fun _=>True) (okp:=fun _=>True) ?hr ?hp (fun _ hk=>hk) trivial (Below.refl _ _) (Nat.le_refl _) (by simp) ?_;(case hd=>rfl);(case hg=>rfl);(case hr=>first|(go_simp;done)|(go_simp;rfl));(case hp=>exact(Reps.none _ _));intro v109 w14 ho15 hb hg_ hnew_;clear hg_ hnew_;(first|rw[←Ny108.out]at ho15|(simp only[Int.reduceToNat]at ho15;rw[←Ny108.out]at ho15));have n0_:=Aside0.mk (Kd.R_below (by(with_reducible repeat(first|apply Kd.R_alloc|apply Kd.R_drewN|apply Kd.R_drew));exact HO_4.out) hb);have n1_:=Aside0.mk (Kd.R_lower ho15 (below_size (by repeat(first|(with_reducible first|exact HB.out|apply below_alloc|apply pw_below_drewN|apply below_drew1)|exact HB.out))));have n2_:=Aside0.mk (below_step (by repeat(first|(with_reducible first|exact HB.out|apply below_alloc|apply pw_below_drewN|apply below_drew1)|exact HB.out)) hb);clear HO_4;clear HB;have HO_4:=n0_;have HO110:=n1_;have HB:=n2_;clear n0_ n1_ n2_;clear hb ho15))
          go_ret2
          exact⟨_,by first|rfl|(simp[errW_none,errW_some]<;>rfl)|(simp[*,errW_none,errW_some]<;>rfl),by(with_reducible repeat(first|apply Kd.R_alloc|apply Kd.R_drewN|apply Kd.R_drew));exact HO110.out,by repeat(first|(with_reducible first|exact HB.out|apply below_alloc|apply pw_below_drewN|apply below_drew1)|exact HB.out)⟩
        · replace c13:=Bool.eq_false_iff.mpr c13
          subst c13;have H1:(spec_CodeRead.l0 kj5 t104 (wrap64 ((t104.length:Int)-1)) (([]:List (S39))) 0)=some (r1,r2):=by rw[if_neg (show¬(false=true) by decide)]at H;exact H
          clear H;have H:=H1;clear H1;obtain⟨y111,hy111⟩: ∃y_:List (S39),y_=(([]:List (S39))):=⟨_,rfl⟩;replace H:(spec_CodeRead.l0 kj5 t104 (wrap64 ((t104.length:Int)-1)) y111 0)=some (r1,r2):=by first|(rw[hy111];with_reducible exact H)|(have H2_:=(Option.bind_some _ _).symm.trans H;rw[hy111];with_reducible exact H2_)|(have H2_:=(Option.bind_some _ _).symm.trans H;with_reducible exact H2_)|with_reducible exact H|(rw[hy111];exact H)|exact H
          have Ny111:=Aside0.mk hy111;clear hy111;have H':=Aside0.mk H;clear H;go_wp2_with (first|((with_reducible refine gate_dst (N:=29) rfl ?_);refine Kd.R_lit k39 _ 39 ?hg (N:=29) ?hd (xs:=([]:List (S39))) (inner:=[]) (ok:=fun _=>True) (okp:=fun _=>True) ?hr ?hp (fun _ hk=>hk) trivial (Below.refl _ _) (Nat.le_refl _) (by simp) ?_;(case hd=>rfl);(case hg=>rfl);(case hr=>first|(go_simp;done)|(go_simp;rfl));(case hp=>exact(Reps.none _ _));intro v112 w16 ho17 hb hg_ hnew_;clear hg_ hnew_;(first|rw[←Ny111.out]at ho17|(simp only[Int.reduceToNat]at ho17;rw[←Ny111.out]at ho17));have n0_:=Aside0.mk (Kd.R_below (by(with_reducible repeat(first|apply Kd.R_alloc|apply Kd.R_drewN|apply Kd.R_drew));exact HO_4.out) hb);have n1_:=Aside0.mk (Kd.R_lower ho17 (below_size (by repeat(first|(with_reducible first|exact HB.out|apply below_alloc|apply pw_below_drewN|apply below_drew1)|exact HB.out))));have n2_:=Aside0.mk (below_step (by repeat(first|(with_reducible first|exact HB.out|apply below_alloc|apply pw_below_drewN|apply below_drew1)|exact HB.out)) hb);clear HO_4;clear HB;have HO_4:=n0_;have HO113:=n1_;have HB:=n2_;clear n0_ n1_ n2_;clear hb ho17))
          go_loopg [6,7] kj5 (fun kq v6 v7 w'=> ∃ (x6_2:List (S39)) (x7_2:Int),v7= .int .i64 x7_2∧Aside0 (spec_CodeRead.l0 kq t104 (wrap64 ((t104.length:Int)-1)) x6_2 x7_2=some (r1,r2))∧Aside0 (kq≤kj5)∧Aside0 (Kd.R Kd.string 9 w' w.heap.size (fun _=>True) (.slice Ao8 t104.length co8) t104)∧Aside0 (Kd.R k39 39 w' w.heap.size (fun _=>True) v6 x6_2)∧Aside0 (Below w.heap.size w w'))
          case atStart=>exact⟨(y111),(0),(by first|rfl|(simp;done)|(simp[*];done)),H',⟨Nat.le_refl _⟩,⟨by(with_reducible repeat(first|apply Kd.R_alloc|apply Kd.R_drewN|apply Kd.R_drew));exact HO_4.out⟩,⟨by(with_reducible repeat(first|apply Kd.R_alloc|apply Kd.R_drewN|apply Kd.R_drew));exact HO113.out⟩,⟨by repeat(first|(with_reducible first|exact HB.out|apply below_alloc|apply pw_below_drewN|apply below_drew1)|exact HB.out)⟩⟩
          case round=>
            clear H';try clear c1
            try clear p1
            try clear q1
            try clear hx1
            try clear c2
            try clear c2b0
            try clear c2b1
            try clear p2
            try clear c6
            try clear p6
            try clear c9
            try clear c9b0
            try clear p10
            try clear q10
            try clear hx10
            try clear c11
            try clear c11b0
            try clear c12
            try clear c12b0
            try clear c13
            try clear c17
            try clear hx107_0
            try clear p1
            try clear p10
            try clear p107
            try clear p2
            try clear p6
            try clear q1
            try clear q10
            try clear q107
            obtain⟨x6_2,x7_2,rfl,HA,HK2,HO_4,HO_6,HB⟩:=hrel;cases gk with
            |zero=>exact absurd HA.out (by simp[spec_CodeRead.l0])
            |succ k2=>
              have H:=HA.out;clear HA;simp only[spec_CodeRead.l0]at H
              by_cases c18:x7_2<(wrap64 ((t104.length:Int)-1))
              · rw[if_pos c18]at H
                have c18b0:decide (x7_2<(wrap64 ((t104.length:Int)-1)))=true:=decide_eq_true c18;clear c18;by_cases c19:0≤x7_2
                · rw[if_pos c19]at H
                  have c19b0:decide (0≤x7_2)=true:=decide_eq_true c19;clear c19;by_cases c20:x7_2<(t104.length:Int)
                  · rw[if_pos c20]at H
                    have c20b0:decide (x7_2<(t104.length:Int))=true:=decide_eq_true c20;clear c20;replace H:=Option.bind_eq_some_iff.mp H;obtain⟨⟨t115,t116,t117,t118,t119,t120,t121⟩,A210,H⟩:=H;replace H:(if t121=true then(if x6_2.length<2932031007402 then(spec_CodeRead.l0 k2 t104 (wrap64 ((t104.length:Int)-1)) (x6_2++ [(⟨t115,t116,t117,t118,(⟨t119,t120⟩:S37)⟩:S39)]) (wrap64 (x7_2+1)))else(none))else(some ((([]:List (S39))),false)))=some (r1,r2):=H
                    have A21:=Aside0.mk A210;clear A210;by_cases c22:t121=true
                    · subst c22
                      have H1:(if x6_2.length<2932031007402 then(spec_CodeRead.l0 k2 t104 (wrap64 ((t104.length:Int)-1)) (x6_2++ [(⟨t115,t116,t117,t118,(⟨t119,t120⟩:S37)⟩:S39)]) (wrap64 (x7_2+1)))else(none))=some (r1,r2):=by rw[if_pos rfl]at H;exact H
                      clear H;have H:=H1;clear H1;by_cases c23:x6_2.length<2932031007402
                      · rw[if_pos c23]at H
                        have LMc23:=Aside0.mk c23;clear c23;obtain⟨y123,hy123⟩: ∃y_:List (S39),y_=(x6_2++ [(⟨t115,t116,t117,t118,(⟨t119,t120⟩:S37)⟩:S39)]):=⟨_,rfl⟩;replace H:(spec_CodeRead.l0 k2 t104 (wrap64 ((t104.length:Int)-1)) y123 (wrap64 (x7_2+1)))=some (r1,r2):=by first|(rw[hy123];with_reducible exact H)|(have H2_:=(Option.bind_some _ _).symm.trans H;rw[hy123];with_reducible exact H2_)|(have H2_:=(Option.bind_some _ _).symm.trans H;with_reducible exact H2_)|with_reducible exact H|(rw[hy123];exact H)|exact H
                        have Ny123:=Aside0.mk hy123;clear hy123;have H':=Aside0.mk H;clear H;have p114:0≤(x7_2:Int):=of_decide_eq_true (by first|(with_reducible assumption)|assumption)
                        have q114:x7_2<(t104.length:Int):=of_decide_eq_true (by first|(with_reducible assumption)|assumption)
                        obtain⟨ad114,e114,hx114_0⟩:=Kd.at_string (Kd.R_reads' HO_4.out).2.2 x7_2 p114 q114;cases e114
                        replace p114:=eq_true p114;replace q114:=eq_true q114;go_wp2_with (first|((with_reducible refine gate_callee (f:=18) rfl ?_);refine goesL_ (some 40) rfl rfl Tryz.func18 (by kernel_rfl) rfl #[.string (rdOf ByteArray.empty t104 x7_2)] rfl (by(try simp only[List.map_toArray,List.map_cons,List.map_nil]);first|done|rfl|(simp only[List.length_drop,List.length_take];rfl)) ?_;(with_reducible refine(spec_OpRead.calls (rdOf ByteArray.empty t104 x7_2) t115 t116 t117 t118 t119 t120 true _ A21.out).mono ?_);rintro e w24 ⟨rfl,hb⟩;refine⟨_,rfl,?_⟩;have n0_:=Aside0.mk (Kd.R_below (by(with_reducible repeat(first|apply Kd.R_alloc|apply Kd.R_drewN|apply Kd.R_drew));exact HO_4.out) hb);have n1_:=Aside0.mk (Kd.R_below (by(with_reducible repeat(first|apply Kd.R_alloc|apply Kd.R_drewN|apply Kd.R_drew));exact HO_6.out) hb);have n2_:=Aside0.mk (below_step (by repeat(first|(with_reducible first|exact HB.out|apply below_alloc|apply pw_below_drewN|apply below_drew1)|exact HB.out)) hb);clear HO_4;clear HO_6;clear HB;have HO_4:=n0_;have HO_6:=n1_;have HB:=n2_;clear n0_ n1_ n2_;(try clear hb);(try clear hb2);(try clear hk);(try clear hi))|((with_reducible refine gate_dst (N:=8) rfl ?_);refine box_event ?hg (N:=8) ?hd (cs:= #[.int .i64 0,.int .i64 0,.int .i64 0,.int .i64 0,.int .i64 0,.int .i64 0]) (t:=39) ?hr ?_;(case hd=>rfl);(case hg=>rfl);(case hr=>first|(go_simp;done)|(go_simp;rfl));intro gb122 hg w25 hbox hb;have n0_:=Aside0.mk (Kd.R_below (by(with_reducible repeat(first|apply Kd.R_alloc|apply Kd.R_drewN|apply Kd.R_drew));exact HO_4.out) hb);have n1_:=Aside0.mk (Kd.R_below (Kd.R_elderB (by(with_reducible repeat(first|apply Kd.R_alloc|apply Kd.R_drewN|apply Kd.R_drew));exact HO_6.out) gb122 (Nat.le_of_eq hg.symm)) hb);have n2_:=Aside0.mk (below_step (by repeat(first|(with_reducible first|exact HB.out|apply below_alloc|apply pw_below_drewN|apply below_drew1)|exact HB.out)) hb);have n3_:=Aside0.mk (hbox);have n4_:=Aside0.mk ((by rw[hg];exact(below_size (by repeat(first|(with_reducible first|exact HB.out|apply below_alloc|apply pw_below_drewN|apply below_drew1)|exact HB.out))):w.heap.size≤gb122));have n5_:=Aside0.mk ((by rw[hg];exact(below_size (by repeat(first|(with_reducible first|exact HB.out|apply below_alloc|apply pw_below_drewN|apply below_drew1)|exact HB.out))):w.heap.size≤gb122));clear HO_4;clear HO_6;clear HB;have HO_4:=n0_;have HO_6:=n1_;have HB:=n2_;have BK122:=n3_;have GW122:=n4_;have GE122:=n5_;clear n0_ n1_ n2_ n3_ n4_ n5_;clear hb hbox hg;have hcz26_0:w25.cell? ⟨gb122,0,none⟩=some (.int .i64 0):=(blk_cell BK122.out 0).trans rfl;have hcz26_1:w25.cell? ⟨gb122,1,none⟩=some (.int .i64 0):=(blk_cell BK122.out 1).trans rfl;have hcz26_2:w25.cell? ⟨gb122,2,none⟩=some (.int .i64 0):=(blk_cell BK122.out 2).trans rfl;have hcz26_3:w25.cell? ⟨gb122,3,none⟩=some (.int .i64 0):=(blk_cell BK122.out 3).trans rfl;have hcz26_4:w25.cell? ⟨gb122,4,none⟩=some (.int .i64 0):=(blk_cell BK122.out 4).trans rfl;have hcz26_5:w25.cell? ⟨gb122,5,none⟩=some (.int .i64 0):=(blk_cell BK122.out 5).trans rfl;have hfz26_0:=blk_frozen BK122.out 0;have hfz26_1:=blk_frozen BK122.out 1;have hfz26_2:=blk_frozen BK122.out 2;have hfz26_3:=blk_frozen BK122.out 3;have hfz26_4:=blk_frozen BK122.out 4;have hfz26_5:=blk_frozen BK122.out 5)|((with_reducible refine gate_builtin (b:=.append) (xs:= #[.tmp 46,.tmp 48]) rfl ?_);at_builtin;refine Kd.R_append k39 (w0:=w) w.heap.size rfl (.tmp 46) (.tmp 48) 22 39 (.agg #[(.int .i64 0),(.int .i64 0),(.int .i64 0),(.int .i64 0),(.int .i64 0),(.int .i64 0)]) 48 rfl Tryz.underlying22 info39 rfl (by decide) (by omega) u6 x6_2 (⟨t115,t116,t117,t118,(⟨t119,t120⟩:S37)⟩:S39) [.int .i64 t115,.int .i64 t116,.int .i64 t117,.int .i64 t118,.int .i64 t119,.int .i64 t120] (fun k_=>k_≠gb122) (fun _=>False) rfl (by first|(go_simp;done)|(go_simp;rfl)) ?aP (fun _ hk=>hk.elim) ?aF ?aO ?aB ?aS ?aL ?_;(case aP=>exact k39_mkM _ _ _ (⟨t115,t116,t117,t118,(⟨t119,t120⟩:S37)⟩:S39));(case aB=>exact(by repeat(first|(with_reducible first|exact HB.out|apply below_alloc|apply pw_below_drewN|apply below_drew1|refine below_set ?_ GE122.out)|exact HB.out)));(case aF=>exact(fun k_ hk=>Kd.freshB (g:=gb122) (o:=.cells #[.int .i64 t115,.int .i64 t116,.int .i64 t117,.int .i64 t118,.int .i64 t119,.int .i64 t120] 39 (0,0)) (by(with_reducible repeat(first|refine blk_drewN ?_ _|refine blk_drew ?_|refine blk_alloc ?_ _));refine blk_put (cs:= #[.int .i64 t115,.int .i64 t116,.int .i64 t117,.int .i64 t118,.int .i64 t119,.int .i64 0]) ?_ 5 _ rfl;(with_reducible repeat(first|refine blk_drewN ?_ _|refine blk_drew ?_|refine blk_alloc ?_ _));refine blk_put (cs:= #[.int .i64 t115,.int .i64 t116,.int .i64 t117,.int .i64 t118,.int .i64 0,.int .i64 0]) ?_ 4 _ rfl;(with_reducible repeat(first|refine blk_drewN ?_ _|refine blk_drew ?_|refine blk_alloc ?_ _));refine blk_put (cs:= #[.int .i64 t115,.int .i64 t116,.int .i64 t117,.int .i64 0,.int .i64 0,.int .i64 0]) ?_ 3 _ rfl;(with_reducible repeat(first|refine blk_drewN ?_ _|refine blk_drew ?_|refine blk_alloc ?_ _));refine blk_put (cs:= #[.int .i64 t115,.int .i64 t116,.int .i64 0,.int .i64 0,.int .i64 0,.int .i64 0]) ?_ 2 _ rfl;(with_reducible repeat(first|refine blk_drewN ?_ _|refine blk_drew ?_|refine blk_alloc ?_ _));refine blk_put (cs:= #[.int .i64 t115,.int .i64 0,.int .i64 0,.int .i64 0,.int .i64 0,.int .i64 0]) ?_ 1 _ rfl;(with_reducible repeat(first|refine blk_drewN ?_ _|refine blk_drew ?_|refine blk_alloc ?_ _));refine blk_put (cs:= #[.int .i64 0,.int .i64 0,.int .i64 0,.int .i64 0,.int .i64 0,.int .i64 0]) ?_ 0 _ rfl;(with_reducible repeat(first|refine blk_drewN ?_ _|refine blk_drew ?_|refine blk_alloc ?_ _));exact BK122.out) k_ hk));(case aO=>exact(by(with_reducible repeat(first|apply Kd.R_alloc|apply Kd.R_drewN|apply Kd.R_drew));exact Kd.R_mono (Kd.R_far (p:=⟨gb122,5,none⟩) (Kd.R_far (p:=⟨gb122,4,none⟩) (Kd.R_far (p:=⟨gb122,3,none⟩) (Kd.R_far (p:=⟨gb122,2,none⟩) (Kd.R_far (p:=⟨gb122,1,none⟩) (Kd.R_far (p:=⟨gb122,0,none⟩) (Kd.R_mono HO_6.out (fun k_ hk=>(⟨hk,hk.2⟩:_∧k_≠gb122))) (fun _ hk=>hk.2) (.int .i64 t115)) (fun _ hk=>hk.2) (.int .i64 t116)) (fun _ hk=>hk.2) (.int .i64 t117)) (fun _ hk=>hk.2) (.int .i64 t118)) (fun _ hk=>hk.2) (.int .i64 t119)) (fun _ hk=>hk.2) (.int .i64 t120)) (fun _ hk=>hk.1.2)));(case aS=>exact(below_size (by repeat(first|(with_reducible first|exact HB.out|apply below_alloc|apply pw_below_drewN|apply below_drew1|refine below_set ?_ GE122.out)|exact HB.out))));(case aL=>have:=LMc23.out;omega);intro v124 w27 ho hb hg hat;rw[←Ny123.out]at ho;have n0_:=Aside0.mk (Kd.R_over' (by(with_reducible repeat(first|apply Kd.R_alloc|apply Kd.R_drewN|apply Kd.R_drew));exact(Kd.R_mono (Kd.R_far (p:=⟨gb122,5,none⟩) (Kd.R_far (p:=⟨gb122,4,none⟩) (Kd.R_far (p:=⟨gb122,3,none⟩) (Kd.R_far (p:=⟨gb122,2,none⟩) (Kd.R_far (p:=⟨gb122,1,none⟩) (Kd.R_far (p:=⟨gb122,0,none⟩) (Kd.R_types HO_4.out BK122.out (by decide)) (fun _ hk=>hk.2) (.int .i64 t115)) (fun _ hk=>hk.2) (.int .i64 t116)) (fun _ hk=>hk.2) (.int .i64 t117)) (fun _ hk=>hk.2) (.int .i64 t118)) (fun _ hk=>hk.2) (.int .i64 t119)) (fun _ hk=>hk.2) (.int .i64 t120)) (fun _ h_=>h_.1))) (Kd.R_typed (by(with_reducible repeat(first|apply Kd.R_alloc|apply Kd.R_drewN|apply Kd.R_drew));exact(Kd.R_mono (Kd.R_far (p:=⟨gb122,5,none⟩) (Kd.R_far (p:=⟨gb122,4,none⟩) (Kd.R_far (p:=⟨gb122,3,none⟩) (Kd.R_far (p:=⟨gb122,2,none⟩) (Kd.R_far (p:=⟨gb122,1,none⟩) (Kd.R_far (p:=⟨gb122,0,none⟩) (Kd.R_mono HO_6.out (fun k_ hk=>(⟨hk,hk.2⟩:_∧k_≠gb122))) (fun _ hk=>hk.2) (.int .i64 t115)) (fun _ hk=>hk.2) (.int .i64 t116)) (fun _ hk=>hk.2) (.int .i64 t117)) (fun _ hk=>hk.2) (.int .i64 t118)) (fun _ hk=>hk.2) (.int .i64 t119)) (fun _ hk=>hk.2) (.int .i64 t120)) (fun _ h_=>h_.1)))) (by decide) hg);have n1_:=Aside0.mk (blk_grown (g:=gb122) (o:=.cells #[.int .i64 t115,.int .i64 t116,.int .i64 t117,.int .i64 t118,.int .i64 t119,.int .i64 t120] 39 (0,0)) (by(with_reducible repeat(first|refine blk_drewN ?_ _|refine blk_drew ?_|refine blk_alloc ?_ _));refine blk_put (cs:= #[.int .i64 t115,.int .i64 t116,.int .i64 t117,.int .i64 t118,.int .i64 t119,.int .i64 0]) ?_ 5 _ rfl;(with_reducible repeat(first|refine blk_drewN ?_ _|refine blk_drew ?_|refine blk_alloc ?_ _));refine blk_put (cs:= #[.int .i64 t115,.int .i64 t116,.int .i64 t117,.int .i64 t118,.int .i64 0,.int .i64 0]) ?_ 4 _ rfl;(with_reducible repeat(first|refine blk_drewN ?_ _|refine blk_drew ?_|refine blk_alloc ?_ _));refine blk_put (cs:= #[.int .i64 t115,.int .i64 t116,.int .i64 t117,.int .i64 0,.int .i64 0,.int .i64 0]) ?_ 3 _ rfl;(with_reducible repeat(first|refine blk_drewN ?_ _|refine blk_drew ?_|refine blk_alloc ?_ _));refine blk_put (cs:= #[.int .i64 t115,.int .i64 t116,.int .i64 0,.int .i64 0,.int .i64 0,.int .i64 0]) ?_ 2 _ rfl;(with_reducible repeat(first|refine blk_drewN ?_ _|refine blk_drew ?_|refine blk_alloc ?_ _));refine blk_put (cs:= #[.int .i64 t115,.int .i64 0,.int .i64 0,.int .i64 0,.int .i64 0,.int .i64 0]) ?_ 1 _ rfl;(with_reducible repeat(first|refine blk_drewN ?_ _|refine blk_drew ?_|refine blk_alloc ?_ _));refine blk_put (cs:= #[.int .i64 0,.int .i64 0,.int .i64 0,.int .i64 0,.int .i64 0,.int .i64 0]) ?_ 0 _ rfl;(with_reducible repeat(first|refine blk_drewN ?_ _|refine blk_drew ?_|refine blk_alloc ?_ _));exact BK122.out) hg (Kd.R_away HO_6.out (fun _ hk=>hk.2)));have n2_:=Aside0.mk (hb);have n3_:=Aside0.mk (ho);clear HO_4;clear BK122;clear HB;clear HO_6;have HO_4:=n0_;have BK122:=n1_;have HB:=n2_;have HO125:=n3_;clear n0_ n1_ n2_ n3_;clear ho hb hg hat))
                        go_roundg k2
                        case measure=>have:=HJ5.out;have:=HK2.out;omega
                        case rel=>exact⟨(y123),(wrap64 (x7_2+1)),(by first|rfl|(simp;done)|(simp[*];done)),H',⟨by have:=HJ5.out;have:=HK2.out;omega⟩,⟨by(with_reducible repeat(first|apply Kd.R_alloc|apply Kd.R_drewN|apply Kd.R_drew));exact HO_4.out⟩,⟨by(with_reducible repeat(first|apply Kd.R_alloc|apply Kd.R_drewN|apply Kd.R_drew));exact Kd.R_mono HO125.out (fun _ hk=>trivial)⟩,⟨by repeat(first|(with_reducible first|exact HB.out|apply below_alloc|apply pw_below_drewN|apply below_drew1|refine below_set ?_ GE122.out)|exact HB.out)⟩⟩
                      · rw[if_neg c23]at H
                        exact absurd H (by simp)
                    · replace c22:=Bool.eq_false_iff.mpr c22
                      subst c22;have H1:(some ((([]:List (S39))),false))=some (r1,r2):=by rw[if_neg (show¬(false=true) by decide)]at H;exact H
                      clear H;have H:=H1;clear H1;obtain⟨y126,hy126⟩: ∃y_:List (S39),y_=(([]:List (S39))):=⟨_,rfl⟩;replace H:(some (y126,false))=some (r1,r2):=by first|(rw[hy126];with_reducible exact H)|(have H2_:=(Option.bind_some _ _).symm.trans H;rw[hy126];with_reducible exact H2_)|(have H2_:=(Option.bind_some _ _).symm.trans H;with_reducible exact H2_)|with_reducible exact H|(rw[hy126];exact H)|exact H
                      have Ny126:=Aside0.mk hy126;clear hy126;simp only[Option.some.injEq,Prod.mk.injEq]at H
                      obtain⟨rfl,rfl⟩:=H;have p114:0≤(x7_2:Int):=of_decide_eq_true (by first|(with_reducible assumption)|assumption)
                      have q114:x7_2<(t104.length:Int):=of_decide_eq_true (by first|(with_reducible assumption)|assumption)
                      obtain⟨ad114,e114,hx114_0⟩:=Kd.at_string (Kd.R_reads' HO_4.out).2.2 x7_2 p114 q114;cases e114
                      replace p114:=eq_true p114;replace q114:=eq_true q114;go_wp2_with (first|((with_reducible refine gate_callee (f:=18) rfl ?_);refine goesL_ (some 40) rfl rfl Tryz.func18 (by kernel_rfl) rfl #[.string (rdOf ByteArray.empty t104 x7_2)] rfl (by(try simp only[List.map_toArray,List.map_cons,List.map_nil]);first|done|rfl|(simp only[List.length_drop,List.length_take];rfl)) ?_;(with_reducible refine(spec_OpRead.calls (rdOf ByteArray.empty t104 x7_2) t115 t116 t117 t118 t119 t120 false _ A21.out).mono ?_);rintro e w28 ⟨rfl,hb⟩;refine⟨_,rfl,?_⟩;have n0_:=Aside0.mk (Kd.R_below (by(with_reducible repeat(first|apply Kd.R_alloc|apply Kd.R_drewN|apply Kd.R_drew));exact HO_4.out) hb);have n1_:=Aside0.mk (Kd.R_below (by(with_reducible repeat(first|apply Kd.R_alloc|apply Kd.R_drewN|apply Kd.R_drew));exact HO_6.out) hb);have n2_:=Aside0.mk (below_step (by repeat(first|(with_reducible first|exact HB.out|apply below_alloc|apply pw_below_drewN|apply below_drew1)|exact HB.out)) hb);clear HO_4;clear HO_6;clear HB;have HO_4:=n0_;have HO_6:=n1_;have HB:=n2_;clear n0_ n1_ n2_;(try clear hb);(try clear hb2);(try clear hk);(try clear hi))|((with_reducible refine gate_dst (N:=8) rfl ?_);refine box_event ?hg (N:=8) ?hd (cs:= #[.int .i64 0,.int .i64 0,.int .i64 0,.int .i64 0,.int .i64 0,.int .i64 0]) (t:=39) ?hr ?_;(case hd=>rfl);(case hg=>rfl);(case hr=>first|(go_simp;done)|(go_simp;rfl));intro gb122 hg w29 hbox hb;have n0_:=Aside0.mk (Kd.R_below (by(with_reducible repeat(first|apply Kd.R_alloc|apply Kd.R_drewN|apply Kd.R_drew));exact HO_4.out) hb);have n1_:=Aside0.mk (Kd.R_below (Kd.R_elderB (by(with_reducible repeat(first|apply Kd.R_alloc|apply Kd.R_drewN|apply Kd.R_drew));exact HO_6.out) gb122 (Nat.le_of_eq hg.symm)) hb);have n2_:=Aside0.mk (below_step (by repeat(first|(with_reducible first|exact HB.out|apply below_alloc|apply pw_below_drewN|apply below_drew1)|exact HB.out)) hb);have n3_:=Aside0.mk (hbox);have n4_:=Aside0.mk ((by rw[hg];exact(below_size (by repeat(first|(with_reducible first|exact HB.out|apply below_alloc|apply pw_below_drewN|apply below_drew1)|exact HB.out))):w.heap.size≤gb122));have n5_:=Aside0.mk ((by rw[hg];exact(below_size (by repeat(first|(with_reducible first|exact HB.out|apply below_alloc|apply pw_below_drewN|apply below_drew1)|exact HB.out))):w.heap.size≤gb122));clear HO_4;clear HO_6;clear HB;have HO_4:=n0_;have HO_6:=n1_;have HB:=n2_;have BK122:=n3_;have GW122:=n4_;have GE122:=n5_;clear n0_ n1_ n2_ n3_ n4_ n5_;clear hb hbox hg;have hcz30_0:w29.cell? ⟨gb122,0,none⟩=some (.int .i64 0):=(blk_cell BK122.out 0).trans rfl;have hcz30_1:w29.cell? ⟨gb122,1,none⟩=some (.int .i64 0):=(blk_cell BK122.out 1).trans rfl;have hcz30_2:w29.cell? ⟨gb122,2,none⟩=some (.int .i64 0):=(blk_cell BK122.out 2).trans rfl;have hcz30_3:w29.cell? ⟨gb122,3,none⟩=some (.int .i64 0):=(blk_cell BK122.out 3).trans rfl;have hcz30_4:w29.cell? ⟨gb122,4,none⟩=some (.int .i64 0):=(blk_cell BK122.out 4).trans rfl;have hcz30_5:w29.cell? ⟨gb122,5,none⟩=some (.int .i64 0):=(blk_cell BK122.out 5).trans rfl;have hfz30_0:=blk_frozen BK122.out 0;have hfz30_1:=blk_frozen BK122.out 1;have hfz30_2:=blk_frozen BK122.out 2;have hfz30_3:=blk_frozen BK122.out 3;have hfz30_4:=blk_frozen BK122.out 4;have hfz30_5:=blk_frozen BK122.out 5)|((with_reducible refine gate_dst (N:=45) rfl ?_);refine Kd.R_lit k39 _ 39 ?hg (N:=45) ?hd (xs:=([]:List (S39))) (inner:=[]) (ok:=fun _=>True) (okp:=fun _=>True) ?hr ?hp (fun _ hk=>hk) trivial (Below.refl _ _) (Nat.le_refl _) (by simp) ?_;(case hd=>rfl);(case hg=>rfl);(case hr=>first|(go_simp;done)|(go_simp;rfl));(case hp=>exact(Reps.none _ _));intro v127 w31 ho32 hb hg_ hnew_;clear hg_ hnew_;(first|rw[←Ny126.out]at ho32|(simp only[Int.reduceToNat]at ho32;rw[←Ny126.out]at ho32));have n0_:=Aside0.mk (Kd.R_below (by(with_reducible repeat(first|apply Kd.R_alloc|apply Kd.R_drewN|apply Kd.R_drew));exact(Kd.R_mono (Kd.R_far (p:=⟨gb122,5,none⟩) (Kd.R_far (p:=⟨gb122,4,none⟩) (Kd.R_far (p:=⟨gb122,3,none⟩) (Kd.R_far (p:=⟨gb122,2,none⟩) (Kd.R_far (p:=⟨gb122,1,none⟩) (Kd.R_far (p:=⟨gb122,0,none⟩) (Kd.R_types HO_4.out BK122.out (by decide)) (fun _ hk=>hk.2) (.int .i64 t115)) (fun _ hk=>hk.2) (.int .i64 t116)) (fun _ hk=>hk.2) (.int .i64 t117)) (fun _ hk=>hk.2) (.int .i64 t118)) (fun _ hk=>hk.2) (.int .i64 t119)) (fun _ hk=>hk.2) (.int .i64 t120)) (fun _ h_=>h_.1))) hb);have n1_:=Aside0.mk (Kd.R_elder' (by(with_reducible repeat(first|apply Kd.R_alloc|apply Kd.R_drewN|apply Kd.R_drew));exact(Kd.R_mono (Kd.R_far (p:=⟨gb122,5,none⟩) (Kd.R_far (p:=⟨gb122,4,none⟩) (Kd.R_far (p:=⟨gb122,3,none⟩) (Kd.R_far (p:=⟨gb122,2,none⟩) (Kd.R_far (p:=⟨gb122,1,none⟩) (Kd.R_far (p:=⟨gb122,0,none⟩) (Kd.R_mono HO_6.out (fun k_ hk=>(⟨hk,hk.2⟩:_∧k_≠gb122))) (fun _ hk=>hk.2) (.int .i64 t115)) (fun _ hk=>hk.2) (.int .i64 t116)) (fun _ hk=>hk.2) (.int .i64 t117)) (fun _ hk=>hk.2) (.int .i64 t118)) (fun _ hk=>hk.2) (.int .i64 t119)) (fun _ hk=>hk.2) (.int .i64 t120)) (fun _ h_=>h_.1))) (Kd.R_base ho32) hb);have n2_:=Aside0.mk (Kd.R_lower (Kd.R_newB (Kd.R_new' ho32 (Kd.R_lt (by(with_reducible repeat(first|apply Kd.R_alloc|apply Kd.R_drewN|apply Kd.R_drew));exact(Kd.R_mono (Kd.R_far (p:=⟨gb122,5,none⟩) (Kd.R_far (p:=⟨gb122,4,none⟩) (Kd.R_far (p:=⟨gb122,3,none⟩) (Kd.R_far (p:=⟨gb122,2,none⟩) (Kd.R_far (p:=⟨gb122,1,none⟩) (Kd.R_far (p:=⟨gb122,0,none⟩) (Kd.R_mono HO_6.out (fun k_ hk=>(⟨hk,hk.2⟩:_∧k_≠gb122))) (fun _ hk=>hk.2) (.int .i64 t115)) (fun _ hk=>hk.2) (.int .i64 t116)) (fun _ hk=>hk.2) (.int .i64 t117)) (fun _ hk=>hk.2) (.int .i64 t118)) (fun _ hk=>hk.2) (.int .i64 t119)) (fun _ hk=>hk.2) (.int .i64 t120)) (fun _ h_=>h_.1))))) (g:=gb122) (o:=.cells #[.int .i64 t115,.int .i64 t116,.int .i64 t117,.int .i64 t118,.int .i64 t119,.int .i64 t120] 39 (0,0)) (by(with_reducible repeat(first|refine blk_drewN ?_ _|refine blk_drew ?_|refine blk_alloc ?_ _));refine blk_put (cs:= #[.int .i64 t115,.int .i64 t116,.int .i64 t117,.int .i64 t118,.int .i64 t119,.int .i64 0]) ?_ 5 _ rfl;(with_reducible repeat(first|refine blk_drewN ?_ _|refine blk_drew ?_|refine blk_alloc ?_ _));refine blk_put (cs:= #[.int .i64 t115,.int .i64 t116,.int .i64 t117,.int .i64 t118,.int .i64 0,.int .i64 0]) ?_ 4 _ rfl;(with_reducible repeat(first|refine blk_drewN ?_ _|refine blk_drew ?_|refine blk_alloc ?_ _));refine blk_put (cs:= #[.int .i64 t115,.int .i64 t116,.int .i64 t117,.int .i64 0,.int .i64 0,.int .i64 0]) ?_ 3 _ rfl;(with_reducible repeat(first|refine blk_drewN ?_ _|refine blk_drew ?_|refine blk_alloc ?_ _));refine blk_put (cs:= #[.int .i64 t115,.int .i64 t116,.int .i64 0,.int .i64 0,.int .i64 0,.int .i64 0]) ?_ 2 _ rfl;(with_reducible repeat(first|refine blk_drewN ?_ _|refine blk_drew ?_|refine blk_alloc ?_ _));refine blk_put (cs:= #[.int .i64 t115,.int .i64 0,.int .i64 0,.int .i64 0,.int .i64 0,.int .i64 0]) ?_ 1 _ rfl;(with_reducible repeat(first|refine blk_drewN ?_ _|refine blk_drew ?_|refine blk_alloc ?_ _));refine blk_put (cs:= #[.int .i64 0,.int .i64 0,.int .i64 0,.int .i64 0,.int .i64 0,.int .i64 0]) ?_ 0 _ rfl;(with_reducible repeat(first|refine blk_drewN ?_ _|refine blk_drew ?_|refine blk_alloc ?_ _));exact BK122.out)) (below_size (by repeat(first|(with_reducible first|exact HB.out|apply below_alloc|apply pw_below_drewN|apply below_drew1|refine below_set ?_ GE122.out)|exact HB.out))));have n3_:=Aside0.mk (blk_below (g:=gb122) (o:=.cells #[.int .i64 t115,.int .i64 t116,.int .i64 t117,.int .i64 t118,.int .i64 t119,.int .i64 t120] 39 (0,0)) (by(with_reducible repeat(first|refine blk_drewN ?_ _|refine blk_drew ?_|refine blk_alloc ?_ _));refine blk_put (cs:= #[.int .i64 t115,.int .i64 t116,.int .i64 t117,.int .i64 t118,.int .i64 t119,.int .i64 0]) ?_ 5 _ rfl;(with_reducible repeat(first|refine blk_drewN ?_ _|refine blk_drew ?_|refine blk_alloc ?_ _));refine blk_put (cs:= #[.int .i64 t115,.int .i64 t116,.int .i64 t117,.int .i64 t118,.int .i64 0,.int .i64 0]) ?_ 4 _ rfl;(with_reducible repeat(first|refine blk_drewN ?_ _|refine blk_drew ?_|refine blk_alloc ?_ _));refine blk_put (cs:= #[.int .i64 t115,.int .i64 t116,.int .i64 t117,.int .i64 0,.int .i64 0,.int .i64 0]) ?_ 3 _ rfl;(with_reducible repeat(first|refine blk_drewN ?_ _|refine blk_drew ?_|refine blk_alloc ?_ _));refine blk_put (cs:= #[.int .i64 t115,.int .i64 t116,.int .i64 0,.int .i64 0,.int .i64 0,.int .i64 0]) ?_ 2 _ rfl;(with_reducible repeat(first|refine blk_drewN ?_ _|refine blk_drew ?_|refine blk_alloc ?_ _));refine blk_put (cs:= #[.int .i64 t115,.int .i64 0,.int .i64 0,.int .i64 0,.int .i64 0,.int .i64 0]) ?_ 1 _ rfl;(with_reducible repeat(first|refine blk_drewN ?_ _|refine blk_drew ?_|refine blk_alloc ?_ _));refine blk_put (cs:= #[.int .i64 0,.int .i64 0,.int .i64 0,.int .i64 0,.int .i64 0,.int .i64 0]) ?_ 0 _ rfl;(with_reducible repeat(first|refine blk_drewN ?_ _|refine blk_drew ?_|refine blk_alloc ?_ _));exact BK122.out) hb);have n4_:=Aside0.mk (below_step (by repeat(first|(with_reducible first|exact HB.out|apply below_alloc|apply pw_below_drewN|apply below_drew1|refine below_set ?_ GE122.out)|exact HB.out)) hb);clear HO_4;clear HO_6;clear BK122;clear HB;have HO_4:=n0_;have HO_6:=n1_;have HO128:=n2_;have BK122:=n3_;have HB:=n4_;clear n0_ n1_ n2_ n3_ n4_;clear hb ho32))
                      go_ret2
                      exact⟨_,by first|rfl|(simp[errW_none,errW_some]<;>rfl)|(simp[*,errW_none,errW_some]<;>rfl),by(with_reducible repeat(first|apply Kd.R_alloc|apply Kd.R_drewN|apply Kd.R_drew));exact Kd.R_mono HO128.out (fun _ hk=>trivial),by repeat(first|(with_reducible first|exact HB.out|apply below_alloc|apply pw_below_drewN|apply below_drew1|refine below_set ?_ GE122.out)|exact HB.out)⟩
                  · rw[if_neg c20]at H
                    exact absurd H (by simp)
                · rw[if_neg c19]at H
                  exact absurd H (by simp)
              · rw[if_neg c18]at H
                have c18b0:decide (x7_2<(wrap64 ((t104.length:Int)-1)))=false:=decide_eq_false c18;clear c18;replace H:=Option.bind_eq_some_iff.mp H;obtain⟨t129,A330,H⟩:=H;replace H:(if t129=true then(some (x6_2,true))else(some ((([]:List (S39))),false)))=some (r1,r2):=H
                have A33:=Aside0.mk A330;clear A330;by_cases c34:t129=true
                · subst c34
                  have H1:(some (x6_2,true))=some (r1,r2):=by rw[if_pos rfl]at H;exact H
                  clear H;have H:=H1;clear H1;simp only[Option.some.injEq,Prod.mk.injEq]at H
                  obtain⟨rfl,rfl⟩:=H;obtain⟨Ao35,co35,eo35⟩:=Kd.R_slice HO_6.out;subst eo35;go_wp2_with (first|((with_reducible refine gate_callee (f:=19) rfl ?_);refine goesL_ (some 51) rfl rfl Tryz.func19 (by kernel_rfl) rfl #[.slice Ao35 x6_2.length co35] rfl (by(try simp only[List.map_toArray,List.map_cons,List.map_nil]);first|done|rfl|(simp only[List.length_drop,List.length_take];rfl)) ?_;(with_reducible refine(spec_CodeOk_as.calls _ _ x6_2 true _ ?side1 ?side2 A33.out).mono ?_);(case side1=>repeat(first|exact(Kd.R_reads' HO_6.out).2.2|(with_reducible refine Kd.C_alloc ?_ _)|(with_reducible refine Kd.C_drewN ?_ _)|(with_reducible refine Kd.C_drew ?_)));(case side2=>exact(Kd.R_reads' HO_6.out).2.1);rintro e w36 ⟨rfl,hb⟩;refine⟨_,rfl,?_⟩;have n0_:=Aside0.mk (Kd.R_below (by(with_reducible repeat(first|apply Kd.R_alloc|apply Kd.R_drewN|apply Kd.R_drew));exact HO_4.out) hb);have n1_:=Aside0.mk (Kd.R_below (by(with_reducible repeat(first|apply Kd.R_alloc|apply Kd.R_drewN|apply Kd.R_drew));exact HO_6.out) hb);have n2_:=Aside0.mk (below_step (by repeat(first|(with_reducible first|exact HB.out|apply below_alloc|apply pw_below_drewN|apply below_drew1)|exact HB.out)) hb);clear HO_4;clear HO_6;clear HB;have HO_4:=n0_;have HO_6:=n1_;have HB:=n2_;clear n0_ n1_ n2_;(try clear hb);(try clear hb2);(try clear hk);(try clear hi)))
                  go_ret2
                  exact⟨_,by first|rfl|(simp[errW_none,errW_some]<;>rfl)|(simp[*,errW_none,errW_some]<;>rfl),by(with_reducible repeat(first|apply Kd.R_alloc|apply Kd.R_drewN|apply Kd.R_drew));exact HO_6.out,by repeat(first|(with_reducible first|exact HB.out|apply below_alloc|apply pw_below_drewN|apply below_drew1)|exact HB.out)⟩
                · replace c34:=Bool.eq_false_iff.mpr c34
                  subst c34;have H1:(some ((([]:List (S39))),false))=some (r1,r2):=by rw[if_neg (show¬(false=true) by decide)]at H;exact H
                  clear H;have H:=H1;clear H1;obtain⟨y130,hy130⟩: ∃y_:List (S39),y_=(([]:List (S39))):=⟨_,rfl⟩;replace H:(some (y130,false))=some (r1,r2):=by first|(rw[hy130];with_reducible exact H)|(have H2_:=(Option.bind_some _ _).symm.trans H;rw[hy130];with_reducible exact H2_)|(have H2_:=(Option.bind_some _ _).symm.trans H;with_reducible exact H2_)|with_reducible exact H|(rw[hy130];exact H)|exact H
                  have Ny130:=Aside0.mk hy130;clear hy130;simp only[Option.some.injEq,Prod.mk.injEq]at H
                  obtain⟨rfl,rfl⟩:=H;obtain⟨Ao37,co37,eo37⟩:=Kd.R_slice HO_6.out;subst eo37;go_wp2_with (first|((with_reducible refine gate_callee (f:=19) rfl ?_);refine goesL_ (some 51) rfl rfl Tryz.func19 (by kernel_rfl) rfl #[.slice Ao37 x6_2.length co37] rfl (by(try simp only[List.map_toArray,List.map_cons,List.map_nil]);first|done|rfl|(simp only[List.length_drop,List.length_take];rfl)) ?_;(with_reducible refine(spec_CodeOk_as.calls _ _ x6_2 false _ ?side1 ?side2 A33.out).mono ?_);(case side1=>repeat(first|exact(Kd.R_reads' HO_6.out).2.2|(with_reducible refine Kd.C_alloc ?_ _)|(with_reducible refine Kd.C_drewN ?_ _)|(with_reducible refine Kd.C_drew ?_)));(case side2=>exact(Kd.R_reads' HO_6.out).2.1);rintro e w38 ⟨rfl,hb⟩;refine⟨_,rfl,?_⟩;have n0_:=Aside0.mk (Kd.R_below (by(with_reducible repeat(first|apply Kd.R_alloc|apply Kd.R_drewN|apply Kd.R_drew));exact HO_4.out) hb);have n1_:=Aside0.mk (Kd.R_below (by(with_reducible repeat(first|apply Kd.R_alloc|apply Kd.R_drewN|apply Kd.R_drew));exact HO_6.out) hb);have n2_:=Aside0.mk (below_step (by repeat(first|(with_reducible first|exact HB.out|apply below_alloc|apply pw_below_drewN|apply below_drew1)|exact HB.out)) hb);clear HO_4;clear HO_6;clear HB;have HO_4:=n0_;have HO_6:=n1_;have HB:=n2_;clear n0_ n1_ n2_;(try clear hb);(try clear hb2);(try clear hk);(try clear hi))|((with_reducible refine gate_dst (N:=53) rfl ?_);refine Kd.R_lit k39 _ 39 ?hg (N:=53) ?hd (xs:=([]:List (S39))) (inner:=[]) (ok:=fun _=>True) (okp:=fun _=>True) ?hr ?hp (fun _ hk=>hk) trivial (Below.refl _ _) (Nat.le_refl _) (by simp) ?_;(case hd=>rfl);(case hg=>rfl);(case hr=>first|(go_simp;done)|(go_simp;rfl));(case hp=>exact(Reps.none _ _));intro v131 w39 ho40 hb hg_ hnew_;clear hg_ hnew_;(first|rw[←Ny130.out]at ho40|(simp only[Int.reduceToNat]at ho40;rw[←Ny130.out]at ho40));have n0_:=Aside0.mk (Kd.R_below (by(with_reducible repeat(first|apply Kd.R_alloc|apply Kd.R_drewN|apply Kd.R_drew));exact HO_4.out) hb);have n1_:=Aside0.mk (Kd.R_elder' (by(with_reducible repeat(first|apply Kd.R_alloc|apply Kd.R_drewN|apply Kd.R_drew));exact HO_6.out) (Kd.R_base ho40) hb);have n2_:=Aside0.mk (Kd.R_lower (Kd.R_new' ho40 (Kd.R_lt (by(with_reducible repeat(first|apply Kd.R_alloc|apply Kd.R_drewN|apply Kd.R_drew));exact HO_6.out))) (below_size (by repeat(first|(with_reducible first|exact HB.out|apply below_alloc|apply pw_below_drewN|apply below_drew1)|exact HB.out))));have n3_:=Aside0.mk (below_step (by repeat(first|(with_reducible first|exact HB.out|apply below_alloc|apply pw_below_drewN|apply below_drew1)|exact HB.out)) hb);clear HO_4;clear HO_6;clear HB;have HO_4:=n0_;have HO_6:=n1_;have HO132:=n2_;have HB:=n3_;clear n0_ n1_ n2_ n3_;clear hb ho40))
                  go_ret2
                  exact⟨_,by first|rfl|(simp[errW_none,errW_some]<;>rfl)|(simp[*,errW_none,errW_some]<;>rfl),by(with_reducible repeat(first|apply Kd.R_alloc|apply Kd.R_drewN|apply Kd.R_drew));exact Kd.R_mono HO132.out (fun _ hk=>trivial),by repeat(first|(with_reducible first|exact HB.out|apply below_alloc|apply pw_below_drewN|apply below_drew1)|exact HB.out)⟩
end Go.Proofs.YtmklpbmlgjkbiaaGreatDoor.PC
end
section
namespace Go.Proofs
open Go.Shelf
def Tryz.lays169_ren:Go.Shelf.Ren:=⟨fun|169=>28|n=>n,fun|70=>50|9=>9|0=>0|72=>52|37=>28|127=>90|3=>3|5=>5|n=>n,fun|n=>n⟩
theorem Tryz.lays169:Go.Proofs.Lays.n169 Tryz.prog Tryz.lays169_ren:= {
  mixed:=by kernel_rfl
  f169:=Tryz.func28.trans (congrArg some (by kernel_rfl))
  t0:=Tryz.underlying0
  a0:=Tryz.isAgg0
  z0:=Tryz.sizeOf0
  v0:=Tryz.zeroValue0
  t3:=Tryz.underlying3
  a3:=Tryz.isAgg3
  z3:=Tryz.sizeOf3
  v3:=Tryz.zeroValue3
  t9:=Tryz.underlying9
  a9:=Tryz.isAgg9
  z9:=Tryz.sizeOf9
  v9:=Tryz.zeroValue9
  t37:=Tryz.underlying28
  a37:=Tryz.isAgg28
  z37:=Tryz.sizeOf28
  v37:=Tryz.zeroValue28
  t70:=Tryz.underlying50
  a70:=Tryz.isAgg50
  z70:=Tryz.sizeOf50
  v70:=Tryz.zeroValue50
  t72:=Tryz.underlying52
  a72:=Tryz.isAgg52
  z72:=Tryz.sizeOf52
  v72:=Tryz.zeroValue52
  t127:=Tryz.underlying90
  a127:=Tryz.isAgg90
  z127:=Tryz.sizeOf90
  v127:=Tryz.zeroValue90 }
theorem Tryz.Builder_Extra_169:Builder.Extra Tryz.prog Tryz.lays169_ren:= {
  sizeBuilder:=by kernel_rfl
  liesBuilder:=by kernel_rfl
  t5:=Tryz.underlying5
  a5:=Tryz.isAgg5
  z5:=Tryz.sizeOf5
  v5:=Tryz.zeroValue5
  infoByte:=by kernel_rfl
  cellsByte:=by kernel_rfl
  sizeByte:=by kernel_rfl
  neB5:=by decide }
open Go.RowKit in
theorem Tryz.Builder_String_any (B b:Nat) (l:List UInt8) (w:World) (h:Lib.IsBuilder 52 5 B b (Lib.byteCells l) w) (hBw:B≤w.heap.size):
    Calls Tryz.prog 28 #[.pointer (some ⟨b,0,none⟩)] w fun e w'=>e= .returned (.string ⟨l.toArray⟩)∧Below B w w':=Any.Builder_String_any Tryz.lays169 Tryz.Builder_Extra_169 B b l w h hBw
def Tryz.lays137_ren:Go.Shelf.Ren:=⟨fun|137=>45|217=>70|266=>83|n=>n,fun|9=>9|5=>5|3=>3|n=>n,fun|n=>n⟩
theorem Tryz.lays137:Go.Proofs.Lays.n137 Tryz.prog Tryz.lays137_ren:= {
  mixed:=by kernel_rfl
  f137:=Tryz.func45.trans (congrArg some (by kernel_rfl))
  f217:=Tryz.func70.trans (congrArg some (by kernel_rfl))
  f266:=Tryz.func83.trans (congrArg some (by kernel_rfl))
  t3:=Tryz.underlying3
  a3:=Tryz.isAgg3
  z3:=Tryz.sizeOf3
  v3:=Tryz.zeroValue3
  t5:=Tryz.underlying5
  a5:=Tryz.isAgg5
  z5:=Tryz.sizeOf5
  v5:=Tryz.zeroValue5
  t9:=Tryz.underlying9
  a9:=Tryz.isAgg9
  z9:=Tryz.sizeOf9
  v9:=Tryz.zeroValue9 }
open Go.RowKit in
theorem Tryz.strings_IndexByte (s:ByteArray) (c:Int) (w:World):
    Calls Tryz.prog 45 #[.string s,.int .u8 c] w fun e w'=>e= .returned (.int .i64 (Lib.indexByte s.data.toList c.toNat.toUInt8))∧w'=w:=Any.strings_IndexByte Tryz.lays137 s c w
def Tryz.laysM171_ren:Go.Shelf.Ren:=⟨fun|171=>59|243=>80|246=>95|283=>105|284=>106|285=>107|286=>108|129=>119|317=>118|318=>120|319=>121|320=>122|337=>125|338=>126|n=>n,fun|3=>3|9=>9|2=>2|4=>4|171=>126|0=>0|53=>117|37=>28|5=>5|173=>129|212=>138|51=>139|20=>20|213=>140|46=>120|232=>149|233=>150|n=>n,fun|17=>3|18=>6|19=>7|n=>n⟩
theorem Tryz.laysM171:Go.Proofs.LaysM.n171 Tryz.prog Tryz.laysM171_ren:= {
  mixed:=by kernel_rfl
  f129:=Tryz.func119.trans (congrArg some (by kernel_rfl))
  f171:=Tryz.func59.trans (congrArg some (by kernel_rfl))
  f243:=Tryz.func80.trans (congrArg some (by kernel_rfl))
  f246:=Tryz.func95.trans (congrArg some (by kernel_rfl))
  f283:=Tryz.func105.trans (congrArg some (by kernel_rfl))
  f284:=Tryz.func106.trans (congrArg some (by kernel_rfl))
  f285:=Tryz.func107.trans (congrArg some (by kernel_rfl))
  f286:=Tryz.func108.trans (congrArg some (by kernel_rfl))
  f317:=Tryz.func118.trans (congrArg some (by kernel_rfl))
  f318:=Tryz.func120.trans (congrArg some (by kernel_rfl))
  f319:=Tryz.func121.trans (congrArg some (by kernel_rfl))
  f320:=Tryz.func122.trans (congrArg some (by kernel_rfl))
  f337:=Tryz.func125.trans (congrArg some (by kernel_rfl))
  f338:=Tryz.func126.trans (congrArg some (by kernel_rfl))
  t0:=Tryz.underlying0
  a0:=Tryz.isAgg0
  z0:=Tryz.sizeOf0
  v0:=Tryz.zeroValue0
  t2:=Tryz.underlying2
  a2:=Tryz.isAgg2
  z2:=Tryz.sizeOf2
  v2:=Tryz.zeroValue2
  t3:=Tryz.underlying3
  a3:=Tryz.isAgg3
  z3:=Tryz.sizeOf3
  v3:=Tryz.zeroValue3
  t4:=Tryz.underlying4
  a4:=Tryz.isAgg4
  z4:=Tryz.sizeOf4
  v4:=Tryz.zeroValue4
  t5:=Tryz.underlying5
  a5:=Tryz.isAgg5
  z5:=Tryz.sizeOf5
  v5:=Tryz.zeroValue5
  t9:=Tryz.underlying9
  a9:=Tryz.isAgg9
  z9:=Tryz.sizeOf9
  v9:=Tryz.zeroValue9
  t20:=Tryz.underlying20
  a20:=Tryz.isAgg20
  z20:=Tryz.sizeOf20
  v20:=Tryz.zeroValue20
  t37:=Tryz.underlying28
  a37:=Tryz.isAgg28
  z37:=Tryz.sizeOf28
  v37:=Tryz.zeroValue28
  t46:=Tryz.underlying120
  a46:=Tryz.isAgg120
  z46:=Tryz.sizeOf120
  v46:=Tryz.zeroValue120
  t51:=Tryz.underlying139
  a51:=Tryz.isAgg139
  z51:=Tryz.sizeOf139
  v51:=Tryz.zeroValue139
  t53:=Tryz.underlying117
  a53:=Tryz.isAgg117
  z53:=Tryz.sizeOf117
  v53:=Tryz.zeroValue117
  t171:=Tryz.underlying126
  a171:=Tryz.isAgg126
  z171:=Tryz.sizeOf126
  v171:=Tryz.zeroValue126
  t173:=Tryz.underlying129
  a173:=Tryz.isAgg129
  z173:=Tryz.sizeOf129
  v173:=Tryz.zeroValue129
  t212:=Tryz.underlying138
  a212:=Tryz.isAgg138
  z212:=Tryz.sizeOf138
  v212:=Tryz.zeroValue138
  t213:=Tryz.underlying140
  a213:=Tryz.isAgg140
  z213:=Tryz.sizeOf140
  t232:=Tryz.underlying149
  a232:=Tryz.isAgg149
  z232:=Tryz.sizeOf149
  v232:=Tryz.zeroValue149
  t233:=Tryz.underlying150
  a233:=Tryz.isAgg150
  z233:=Tryz.sizeOf150
  v233:=Tryz.zeroValue150
  g17:=by kernel_rfl
  g18:=by kernel_rfl
  g19:=by kernel_rfl
  i0:=by kernel_rfl
  i2:=by kernel_rfl
  i3:=by kernel_rfl
  i4:=by kernel_rfl
  i5:=by kernel_rfl
  i9:=by kernel_rfl
  i20:=by kernel_rfl
  i37:=by kernel_rfl
  i46:=by kernel_rfl
  i51:=by kernel_rfl
  i53:=by kernel_rfl
  i171:=by kernel_rfl
  i173:=by kernel_rfl
  i212:=by kernel_rfl
  i232:=by kernel_rfl
  i233:=by kernel_rfl
  m17:=by kernel_rfl
  m18:=by kernel_rfl
  m19:=by kernel_rfl }
open Go.RowKit Go.Sort Go.Lib in
theorem Tryz.strconv_Itoa (n:Int) (h0: -9223372036854775808≤n) (h1:n≤9223372036854775807) (w:World) (htab:Lib.TabIs Tryz.prog w "internal/strconv.uint64pow10" .u64 Lib.pow10Tab):
    Calls Tryz.prog 59 #[.int .i64 n] w fun e w'=>e= .returned (.string ⟨(Lib.itoa n).toArray⟩)∧ ∃k os,w'=grow (w.drewN k) os:=Any.strconv_Itoa Tryz.laysM171 n h0 h1 w htab
def Tryz.laysC172_ren:Go.Shelf.Ren:=⟨fun|172=>52|244=>72|245=>73|247=>86|279=>87|280=>88|281=>89|282=>90|287=>100|316=>101|171=>59|205=>102|321=>113|322=>114|243=>80|246=>95|283=>105|284=>106|285=>107|286=>108|129=>119|317=>118|318=>120|319=>121|320=>122|337=>125|338=>126|n=>n,fun|9=>9|3=>3|75=>54|76=>55|4=>4|5=>5|167=>104|37=>28|0=>0|85=>105|2=>2|168=>107|53=>117|175=>118|46=>120|210=>123|127=>90|145=>134|143=>132|21=>21|171=>126|173=>129|212=>138|51=>139|20=>20|213=>140|232=>149|233=>150|80=>58|n=>n,fun|15=>1|16=>2|17=>3|18=>6|19=>7|n=>n⟩
theorem Tryz.laysC172:Go.Proofs.LaysC.n172 Tryz.prog Tryz.laysC172_ren:= {
  mixed:=by kernel_rfl
  f129:=Tryz.func119.trans (congrArg some (by kernel_rfl))
  f171:=Tryz.func59.trans (congrArg some (by kernel_rfl))
  f172:=Tryz.func52.trans (congrArg some (by kernel_rfl))
  f205:=Tryz.func102.trans (congrArg some (by kernel_rfl))
  f243:=Tryz.func80.trans (congrArg some (by kernel_rfl))
  f244:=Tryz.func72.trans (congrArg some (by kernel_rfl))
  f245:=Tryz.func73.trans (congrArg some (by kernel_rfl))
  f246:=Tryz.func95.trans (congrArg some (by kernel_rfl))
  f247:=Tryz.func86.trans (congrArg some (by kernel_rfl))
  f279:=Tryz.func87.trans (congrArg some (by kernel_rfl))
  f280:=Tryz.func88.trans (congrArg some (by kernel_rfl))
  f281:=Tryz.func89.trans (congrArg some (by kernel_rfl))
  f282:=Tryz.func90.trans (congrArg some (by kernel_rfl))
  f283:=Tryz.func105.trans (congrArg some (by kernel_rfl))
  f284:=Tryz.func106.trans (congrArg some (by kernel_rfl))
  f285:=Tryz.func107.trans (congrArg some (by kernel_rfl))
  f286:=Tryz.func108.trans (congrArg some (by kernel_rfl))
  f287:=Tryz.func100.trans (congrArg some (by kernel_rfl))
  f316:=Tryz.func101.trans (congrArg some (by kernel_rfl))
  f317:=Tryz.func118.trans (congrArg some (by kernel_rfl))
  f318:=Tryz.func120.trans (congrArg some (by kernel_rfl))
  f319:=Tryz.func121.trans (congrArg some (by kernel_rfl))
  f320:=Tryz.func122.trans (congrArg some (by kernel_rfl))
  f321:=Tryz.func113.trans (congrArg some (by kernel_rfl))
  f322:=Tryz.func114.trans (congrArg some (by kernel_rfl))
  f337:=Tryz.func125.trans (congrArg some (by kernel_rfl))
  f338:=Tryz.func126.trans (congrArg some (by kernel_rfl))
  t0:=Tryz.underlying0
  a0:=Tryz.isAgg0
  z0:=Tryz.sizeOf0
  v0:=Tryz.zeroValue0
  t2:=Tryz.underlying2
  a2:=Tryz.isAgg2
  z2:=Tryz.sizeOf2
  v2:=Tryz.zeroValue2
  t3:=Tryz.underlying3
  a3:=Tryz.isAgg3
  z3:=Tryz.sizeOf3
  v3:=Tryz.zeroValue3
  t4:=Tryz.underlying4
  a4:=Tryz.isAgg4
  z4:=Tryz.sizeOf4
  v4:=Tryz.zeroValue4
  t5:=Tryz.underlying5
  a5:=Tryz.isAgg5
  z5:=Tryz.sizeOf5
  v5:=Tryz.zeroValue5
  t9:=Tryz.underlying9
  a9:=Tryz.isAgg9
  z9:=Tryz.sizeOf9
  v9:=Tryz.zeroValue9
  t20:=Tryz.underlying20
  a20:=Tryz.isAgg20
  z20:=Tryz.sizeOf20
  v20:=Tryz.zeroValue20
  t21:=Tryz.underlying21
  a21:=Tryz.isAgg21
  z21:=Tryz.sizeOf21
  v21:=Tryz.zeroValue21
  t37:=Tryz.underlying28
  a37:=Tryz.isAgg28
  z37:=Tryz.sizeOf28
  v37:=Tryz.zeroValue28
  t46:=Tryz.underlying120
  a46:=Tryz.isAgg120
  z46:=Tryz.sizeOf120
  v46:=Tryz.zeroValue120
  t51:=Tryz.underlying139
  a51:=Tryz.isAgg139
  z51:=Tryz.sizeOf139
  v51:=Tryz.zeroValue139
  t53:=Tryz.underlying117
  a53:=Tryz.isAgg117
  z53:=Tryz.sizeOf117
  v53:=Tryz.zeroValue117
  t75:=Tryz.underlying54
  a75:=Tryz.isAgg54
  z75:=Tryz.sizeOf54
  v75:=Tryz.zeroValue54
  t76:=Tryz.underlying55
  a76:=Tryz.isAgg55
  z76:=Tryz.sizeOf55
  v76:=Tryz.zeroValue55
  t85:=Tryz.underlying105
  a85:=Tryz.isAgg105
  z85:=Tryz.sizeOf105
  v85:=Tryz.zeroValue105
  t127:=Tryz.underlying90
  a127:=Tryz.isAgg90
  z127:=Tryz.sizeOf90
  v127:=Tryz.zeroValue90
  t143:=Tryz.underlying132
  a143:=Tryz.isAgg132
  z143:=Tryz.sizeOf132
  v143:=Tryz.zeroValue132
  t145:=Tryz.underlying134
  a145:=Tryz.isAgg134
  z145:=Tryz.sizeOf134
  v145:=Tryz.zeroValue134
  t167:=Tryz.underlying104
  a167:=Tryz.isAgg104
  z167:=Tryz.sizeOf104
  v167:=Tryz.zeroValue104
  t168:=Tryz.underlying107
  a168:=Tryz.isAgg107
  z168:=Tryz.sizeOf107
  v168:=Tryz.zeroValue107
  t171:=Tryz.underlying126
  a171:=Tryz.isAgg126
  z171:=Tryz.sizeOf126
  v171:=Tryz.zeroValue126
  t173:=Tryz.underlying129
  a173:=Tryz.isAgg129
  z173:=Tryz.sizeOf129
  v173:=Tryz.zeroValue129
  t175:=Tryz.underlying118
  a175:=Tryz.isAgg118
  z175:=Tryz.sizeOf118
  v175:=Tryz.zeroValue118
  t210:=Tryz.underlying123
  a210:=Tryz.isAgg123
  z210:=Tryz.sizeOf123
  v210:=Tryz.zeroValue123
  t212:=Tryz.underlying138
  a212:=Tryz.isAgg138
  z212:=Tryz.sizeOf138
  v212:=Tryz.zeroValue138
  t213:=Tryz.underlying140
  a213:=Tryz.isAgg140
  z213:=Tryz.sizeOf140
  t232:=Tryz.underlying149
  a232:=Tryz.isAgg149
  z232:=Tryz.sizeOf149
  v232:=Tryz.zeroValue149
  t233:=Tryz.underlying150
  a233:=Tryz.isAgg150
  z233:=Tryz.sizeOf150
  v233:=Tryz.zeroValue150
  g15:=by kernel_rfl
  g16:=by kernel_rfl
  g17:=by kernel_rfl
  g18:=by kernel_rfl
  g19:=by kernel_rfl
  t80:=Tryz.underlying58
  a80:=Tryz.isAgg58
  z80:=Tryz.sizeOf58
  v80:=Tryz.zeroValue58
  i0:=by kernel_rfl
  i2:=by kernel_rfl
  i3:=by kernel_rfl
  i4:=by kernel_rfl
  i5:=by kernel_rfl
  i9:=by kernel_rfl
  i20:=by kernel_rfl
  i21:=by kernel_rfl
  i37:=by kernel_rfl
  i46:=by kernel_rfl
  i51:=by kernel_rfl
  i53:=by kernel_rfl
  i75:=by kernel_rfl
  i76:=by kernel_rfl
  i80:=by kernel_rfl
  i85:=by kernel_rfl
  i127:=by kernel_rfl
  i143:=by kernel_rfl
  i145:=by kernel_rfl
  i167:=by kernel_rfl
  i168:=by kernel_rfl
  i171:=by kernel_rfl
  i173:=by kernel_rfl
  i175:=by kernel_rfl
  i210:=by kernel_rfl
  i212:=by kernel_rfl
  i232:=by kernel_rfl
  i233:=by kernel_rfl
  m15:=by kernel_rfl
  m16:=by kernel_rfl
  m17:=by kernel_rfl
  m18:=by kernel_rfl
  m19:=by kernel_rfl
  c0:=by kernel_rfl
  c2:=by kernel_rfl
  c3:=by kernel_rfl
  c4:=by kernel_rfl
  c5:=by kernel_rfl
  c9:=by kernel_rfl
  c20:=by kernel_rfl
  c21:=by kernel_rfl
  c37:=by kernel_rfl
  c46:=by kernel_rfl
  c51:=by kernel_rfl
  c53:=by kernel_rfl
  c75:=by kernel_rfl
  c76:=by kernel_rfl
  c80:=by kernel_rfl
  c85:=by kernel_rfl
  c127:=by kernel_rfl
  c143:=by kernel_rfl
  c145:=by kernel_rfl
  c167:=by kernel_rfl
  c168:=by kernel_rfl
  c171:=by kernel_rfl
  c173:=by kernel_rfl
  c175:=by kernel_rfl
  c210:=by kernel_rfl
  c212:=by kernel_rfl
  c213:=by kernel_rfl
  c232:=by kernel_rfl
  c233:=by kernel_rfl }
open Go.RowKit in
theorem Tryz.strconv_Atoi_ok (s:ByteArray) (hmax:s.size≤9223372036854775806) (v:Int) (h:Lib.atoiAll s.data.toList= .ok v) (w:World):
    Calls Tryz.prog 52 #[.string s] w fun e w'=>e= .returned (.tuple #[.int .i64 v,.nilIface])∧(w'=w∨ ∃t,w'=Lib.bytesWorld w 5 t):=Any.strconv_Atoi_ok Tryz.laysC172 s hmax v h w
open Go.RowKit in
theorem Tryz.strconv_Atoi_range (s:ByteArray) (hlim:s.size≤281474976710656) (h:Lib.atoiAll s.data.toList= .range) (ev:Value) (w:World) (hv:w.cell? ⟨2,0,none⟩=some ev) (hev:ev= .nilIface∨ ∃te pe,ev= .iface te pe):
    Calls Tryz.prog 52 #[.string s] w fun e w'=> ∃N,e= .returned (.tuple #[.int .i64 (Lib.atoiSat s.data.toList),.iface 107 (.pointer (some ⟨N,0,none⟩))])∧w.heap.size≤N∧w'.heap[N]?=some (.cells #[.string ⟨#[65,116,111,105]⟩,.string s,ev] 123 (0,0))∧Below w.heap.size w w':=Any.strconv_Atoi_range Tryz.laysC172 s hlim h ev w hv hev
def Tryz.lays102_ren:Go.Shelf.Ren:=⟨fun|102=>22|209=>53|207=>74|n=>n,fun|9=>9|4=>4|3=>3|n=>n,fun|n=>n⟩
theorem Tryz.lays102:Go.Proofs.Lays.n102 Tryz.prog Tryz.lays102_ren:= {
  mixed:=by kernel_rfl
  f102:=Tryz.func22.trans (congrArg some (by kernel_rfl))
  f207:=Tryz.func74.trans (congrArg some (by kernel_rfl))
  f209:=Tryz.func53.trans (congrArg some (by kernel_rfl))
  t3:=Tryz.underlying3
  a3:=Tryz.isAgg3
  z3:=Tryz.sizeOf3
  v3:=Tryz.zeroValue3
  t4:=Tryz.underlying4
  a4:=Tryz.isAgg4
  z4:=Tryz.sizeOf4
  v4:=Tryz.zeroValue4
  t9:=Tryz.underlying9
  a9:=Tryz.isAgg9
  z9:=Tryz.sizeOf9
  v9:=Tryz.zeroValue9 }
open Go.RowKit Go.Lib in
theorem Tryz.strings_TrimSuffix (s p:ByteArray) (w:World) (hs:s.size≤9223372036854775807):
    Calls Tryz.prog 22 #[.string s,.string p] w fun e w'=>e= .returned (.string ⟨(Lib.trimSuffix s.data.toList p.data.toList).toArray⟩)∧w'=w:=Any.strings_TrimSuffix Tryz.lays102 s p w hs
def Tryz.lays146_ren:Go.Shelf.Ren:=⟨fun|146=>46|221=>71|268=>84|138=>85|143=>82|195=>97|197=>98|218=>99|219=>96|260=>112|217=>70|225=>109|224=>110|267=>111|266=>83|314=>123|n=>n,fun|9=>9|31=>34|3=>3|4=>4|0=>0|105=>115|21=>21|5=>5|46=>120|119=>144|139=>147|138=>146|146=>142|51=>139|n=>n,fun|1=>0|3=>4|4=>5|n=>n⟩
theorem Tryz.lays146:Go.Proofs.Lays.n146 Tryz.prog Tryz.lays146_ren:= {
  mixed:=by kernel_rfl
  f138:=Tryz.func85.trans (congrArg some (by kernel_rfl))
  f143:=Tryz.func82.trans (congrArg some (by kernel_rfl))
  f146:=Tryz.func46.trans (congrArg some (by kernel_rfl))
  f195:=Tryz.func97.trans (congrArg some (by kernel_rfl))
  f197:=Tryz.func98.trans (congrArg some (by kernel_rfl))
  f217:=Tryz.func70.trans (congrArg some (by kernel_rfl))
  f218:=Tryz.func99.trans (congrArg some (by kernel_rfl))
  f219:=Tryz.func96.trans (congrArg some (by kernel_rfl))
  f221:=Tryz.func71.trans (congrArg some (by kernel_rfl))
  f224:=Tryz.func110.trans (congrArg some (by kernel_rfl))
  f225:=Tryz.func109.trans (congrArg some (by kernel_rfl))
  f260:=Tryz.func112.trans (congrArg some (by kernel_rfl))
  f266:=Tryz.func83.trans (congrArg some (by kernel_rfl))
  f267:=Tryz.func111.trans (congrArg some (by kernel_rfl))
  f268:=Tryz.func84.trans (congrArg some (by kernel_rfl))
  f314:=Tryz.func123.trans (congrArg some (by kernel_rfl))
  t0:=Tryz.underlying0
  a0:=Tryz.isAgg0
  z0:=Tryz.sizeOf0
  v0:=Tryz.zeroValue0
  t3:=Tryz.underlying3
  a3:=Tryz.isAgg3
  z3:=Tryz.sizeOf3
  v3:=Tryz.zeroValue3
  t4:=Tryz.underlying4
  a4:=Tryz.isAgg4
  z4:=Tryz.sizeOf4
  v4:=Tryz.zeroValue4
  t5:=Tryz.underlying5
  a5:=Tryz.isAgg5
  z5:=Tryz.sizeOf5
  v5:=Tryz.zeroValue5
  t9:=Tryz.underlying9
  a9:=Tryz.isAgg9
  z9:=Tryz.sizeOf9
  v9:=Tryz.zeroValue9
  t21:=Tryz.underlying21
  a21:=Tryz.isAgg21
  z21:=Tryz.sizeOf21
  v21:=Tryz.zeroValue21
  t31:=Tryz.underlying34
  a31:=Tryz.isAgg34
  z31:=Tryz.sizeOf34
  v31:=Tryz.zeroValue34
  t46:=Tryz.underlying120
  a46:=Tryz.isAgg120
  z46:=Tryz.sizeOf120
  v46:=Tryz.zeroValue120
  t51:=Tryz.underlying139
  a51:=Tryz.isAgg139
  z51:=Tryz.sizeOf139
  v51:=Tryz.zeroValue139
  t105:=Tryz.underlying115
  a105:=Tryz.isAgg115
  z105:=Tryz.sizeOf115
  v105:=Tryz.zeroValue115
  t119:=Tryz.underlying144
  a119:=Tryz.isAgg144
  z119:=Tryz.sizeOf144
  t138:=Tryz.underlying146
  a138:=Tryz.isAgg146
  z138:=Tryz.sizeOf146
  v138:=Tryz.zeroValue146
  t139:=Tryz.underlying147
  a139:=Tryz.isAgg147
  z139:=Tryz.sizeOf147
  v139:=Tryz.zeroValue147
  t146:=Tryz.underlying142
  a146:=Tryz.isAgg142
  z146:=Tryz.sizeOf142
  v146:=Tryz.zeroValue142
  g1:=by kernel_rfl
  g3:=by kernel_rfl
  g4:=by kernel_rfl }
open Go.RowKit Go.Lib in
theorem Tryz.strings_Split (s sep:ByteArray) (m:Int) (w:World) (hs:s.size<4294967281) (hm:w.cell? ⟨0,0,none⟩=some (.int .i64 m)) (h1:1≤sep.size):
    Calls Tryz.prog 46 #[.string s,.string sep] w fun e w'=>
      e= .returned (.slice (some ⟨w.heap.size,0,none⟩) (Lib.countB s sep+1) (Lib.countB s sep+1))∧w'=w.alloc (.cells ((Lib.splitB sep 0 (Lib.countB s sep) s).map Value.string).toArray 9):=Any.strings_Split Tryz.lays146 (by kernel_rfl) s sep m w hs hm h1
end Go.Proofs
end
section
namespace Go.Proofs.YtmklpbmlgjkbiaaGreatDoor.PS
open Go.RowKit Go.Proofs.YtmklpbmlgjkbiaaGreatDoorW.PrintWords Go.Proofs.YtmklpbmlgjkbiaaGreatDoorW.PrintLast
def dec2 (n:Nat):List UInt8:=if n<10 then [UInt8.ofNat (48+n)]else [UInt8.ofNat (48+n/10),UInt8.ofNat (48+n%10)]
def itoaS (n:Int):List UInt8:=if n<0 then 45::dec2 n.natAbs else dec2 n.toNat
theorem decDigits_2 (n:Nat) (h:n<100):Lib.decDigits n=dec2 n:=by
  unfold dec2;by_cases h1:n<10
  · rw[if_pos h1,Lib.decDigits];simp[h1]
  · rw[if_neg h1,Lib.decDigits];simp[h1]
    rw[Lib.decDigits];simp[show n/10<10 by omega]
theorem itoa_S (n:Int) (h0: -100<n) (h1:n<100):Lib.itoa n=itoaS n:=by
  unfold Lib.itoa itoaS;split<;>rw[decDigits_2 _ (by omega)]
def letterB (k:Int):UInt8:=if k=1 then 110 else if k=2 then 97 else 114
def vtext (k n:Int):ByteArray:=if okB k n=true then(if k=0 then⟨#[110,111,110,101]⟩else⟨(letterB k::itoaS n).toArray⟩)else⟨#[]⟩
def Tab (w:World):Prop:=Lib.TabIs Tryz.prog w "internal/strconv.uint64pow10" .u64 Lib.pow10Tab∧8≤w.heap.size
theorem Tab.below {w w':World} (h:Tab w) (hb:Below w.heap.size w w'):Tab w':=
  ⟨var?_below hb (show Tryz.prog.globalNamed "internal/strconv.uint64pow10" =some 3 by kernel_rfl) (by have:=h.2;omega) h.1,Nat.le_trans h.2 hb.size⟩
theorem itoa_call (n:Int) (w:World) (h0: -100<n) (h1:n<100) (hT:Tab w):
    Calls Tryz.prog 59 #[.int .i64 n] w fun e w'=>e= .returned (.string ⟨(itoaS n).toArray⟩)∧Below w.heap.size w w':=by
  refine(Tryz.strconv_Itoa n (by omega) (by omega) w hT.1).mono ?_
  rintro e w' ⟨rfl,k,os,rfl⟩
  exact⟨by rw[itoa_S n h0 h1],Lib.below_grow _ _ (Nat.le_refl _) _ _⟩
theorem vtext_bad {k n:Int} (h:okB k n=false):vtext k n=⟨#[]⟩:=by unfold vtext;simp[h]
theorem impl_ValText_any (k n:Int) (w:World) (hT:Tab w):
    Calls Tryz.prog 60 #[.agg #[.int .i64 k,.int .i64 n]] w fun e w'=>e= .returned (.string (vtext k n))∧Below w.heap.size w w':=by
  obtain⟨g,hg⟩: ∃g,g=okB k n:=⟨_,rfl⟩;have hv:=valok_any k n;have hA:Aside0 (∀W,Calls Tryz.prog 81 #[.agg #[.int .i64 k,.int .i64 n]] W fun e w'=>e= .returned (.bool g)∧Below W.heap.size W w'):=⟨by rw[hg];exact hv⟩
  have HG:=Aside0.mk hg;clear hv hg;have HT:=Aside0.mk hT;clear hT;cases g with
  |false=>
    rw[vtext_bad HG.out.symm];go_enter Tryz.func60,Tryz.ntmps60
    go_wp2_with (go_at_call 81;refine(hA.out _).mono ?_;rintro e w' ⟨rfl,hb⟩)
    go_ret
    exact⟨rfl,below_step (below_alloc (Below.refl _ _) _) hb⟩
  |true=>
    have hok:=okB_true.1 HG.out.symm;by_cases h0:k=0
    · subst h0
      have e0:Aside0 (vtext 0 n=⟨#[110,111,110,101]⟩):=⟨by unfold vtext;rw[←HG.out];rfl⟩
      rw[e0.out];clear hok;go_enter Tryz.func60,Tryz.ntmps60
      go_wp2_with (go_at_call 81;refine(hA.out _).mono ?_;rintro e w' ⟨rfl,hb⟩;have hc:=hb.cell (p:=⟨w.heap.size,0,none⟩) (by simp))
      go_ret
      exact⟨rfl,below_step (below_alloc (Below.refl _ _) _) hb⟩
    · have hn: -100<n∧n<100:=by unfold okP at hok;omega
      obtain⟨hn0,hn1⟩:=hn;have hb': ∀ {W W':World},Below W.heap.size W W'→ ∀b o,b<W.heap.size→W'.cell? ⟨b,o,none⟩=W.cell? ⟨b,o,none⟩:=fun hb b o h=>hb.cell (p:=⟨b,o,none⟩) h
      have HB0:=Aside0.mk (below_alloc (Below.refl w.heap.size w) (.cells #[.int .i64 k,.int .i64 n] 37));have hk:k=1∨k=2∨k=3:=by unfold okP at hok;omega
      have e1:Aside0 (vtext k n=⟨#[letterB k]⟩++⟨(itoaS n).toArray⟩):=⟨by unfold vtext;rw[←HG.out];simp[h0];rfl⟩
      rw[e1.out]
      have HI:Aside0 (∀W,Below w.heap.size w W→Calls Tryz.prog 59 #[.int .i64 n] W fun e w'=>e= .returned (.string ⟨(itoaS n).toArray⟩)∧Below W.heap.size W w'):=
        ⟨fun W hW=>itoa_call n W hn0 hn1 (HT.out.below hW)⟩
      obtain⟨X,hX⟩: ∃X,X=itoaS n:=⟨_,rfl⟩;have hXs:X.length≤3:=by rw[hX];unfold itoaS dec2;split<;>split<;>simp
      rw[←hX]at HI⊢
      clear hX hok HG e1;have hw0:IntKind.i64.wrap 0=0:=by kernel_rfl
      have hw1:IntKind.i64.wrap 1=1:=by kernel_rfl
      have hw2:IntKind.i64.wrap 2=2:=by kernel_rfl
      have hs1: ∀W,Sem.run Tryz.prog (Instr.slice 9 (.string ⟨#[110,97,114]⟩) (some (.int .i64 0)) (some (.int .i64 1)) none) W= .ok (.string ⟨#[110]⟩) W:=fun _=>by kernel_rfl
      have hs2: ∀W,Sem.run Tryz.prog (Instr.slice 9 (.string ⟨#[110,97,114]⟩) (some (.int .i64 1)) (some (.int .i64 2)) none) W= .ok (.string ⟨#[97]⟩) W:=fun _=>by kernel_rfl
      have hs3: ∀W,Sem.run Tryz.prog (Instr.slice 9 (.string ⟨#[110,97,114]⟩) (some (.int .i64 2)) (some (.int .i64 3)) none) W= .ok (.string ⟨#[114]⟩) W:=fun _=>by kernel_rfl
      have x1:decide (1+X.length≤9223372036854775807)=true:=decide_eq_true (by omega)
      have x2:(9223372036854775807<1+X.length)=False:=eq_false (by omega)
      have x3:(1+X.length≤9223372036854775807)=True:=eq_true (by omega)
      rcases hk with rfl|rfl|rfl
      all_goals
        go_enter Tryz.func60,Tryz.ntmps60
        go_wp2_with (go_at_call 81;refine(hA.out _).mono ?_;rintro e w1 ⟨rfl,hb⟩;have hc0:=hb.cell (p:=⟨w.heap.size,0,none⟩) (by simp);have hc1:=hb.cell (p:=⟨w.heap.size,1,none⟩) (by simp);have HB1:=Aside0.mk (below_step HB0.out hb);have hsz:w.heap.size<w1.heap.size:=(by have:=hb.size;rw[World.size_alloc]at this;exact this);clear hb)
        go_region_held3 (fun w'=>w'.cell? ⟨w.heap.size,0,none⟩=w1.cell? ⟨w.heap.size,0,none⟩∧w'.cell? ⟨w.heap.size,1,none⟩=w1.cell? ⟨w.heap.size,1,none⟩) (go_keep) ((go_at_call 59;refine(HI.out _ (below_drew1 HB1.out)).mono ?_;rintro e w2 ⟨rfl,hb⟩;have q0:=hb.cell (p:=⟨w.heap.size,0,none⟩) hsz;have q1:=hb.cell (p:=⟨w.heap.size,1,none⟩) hsz;have HB2:=Aside0.mk (below_step (below_drew1 HB1.out) hb);clear hb))
        go_wp2
        go_ret
        exact⟨rfl,HB2.out⟩
def Hold (w W:World) (g:Nat) (o:Obj):Prop:=Below w.heap.size w W∧W.heap[g]?=some o
theorem Hold.new {w W:World} (h:Below w.heap.size w W) (o:Obj):Hold w (W.alloc o) W.heap.size o:=⟨below_alloc h o,blk_new W o⟩
theorem Hold.step {w W W':World} {g:Nat} {o:Obj} (h:Hold w W g o) (hb:Below W.heap.size W W'):Hold w W' g o:=⟨below_step h.1 hb,blk_below h.2 hb⟩
theorem Hold.alloc {w W:World} {g:Nat} {o:Obj} (h:Hold w W g o) (o':Obj):Hold w (W.alloc o') g o:=⟨below_alloc h.1 o',blk_alloc h.2 o'⟩
theorem Hold.drew {w W:World} {g:Nat} {o:Obj} (h:Hold w W g o):Hold w W.drew g o:=⟨below_drew1 h.1,h.2⟩
theorem Hold.drewN {w W:World} {g:Nat} {o:Obj} (h:Hold w W g o) (n:Nat):Hold w (W.drewN n) g o:=⟨pw_below_drewN h.1 n,h.2⟩
theorem Hold.below {w W:World} {g:Nat} {o:Obj} (h:Hold w W g o):Below w.heap.size w W:=h.1
theorem Hold.blk {w W:World} {g:Nat} {o:Obj} (h:Hold w W g o):W.heap[g]?=some o:=h.2
theorem Hold.lt {w W:World} {g:Nat} {o:Obj} (h:Hold w W g o):g<W.heap.size:=blk_lt h.2
theorem box2 {W:World} {g:Nat} {a b:Value} {t:TypeId} (h:W.heap[g]?=some (.cells #[a,b] t (0,0))):W.cell? ⟨g,0,none⟩=some a∧W.cell? ⟨g,1,none⟩=some b:=
  ⟨(blk_cell h 0).trans rfl,(blk_cell h 1).trans rfl⟩
theorem free2 {W:World} {g:Nat} {a b:Value} {t:TypeId} (h:W.heap[g]?=some (.cells #[a,b] t (0,0))):W.frozen? ⟨g,0,none⟩=false∧W.frozen? ⟨g,1,none⟩=false:=⟨blk_frozen h 0,blk_frozen h 1⟩
theorem box6 {W:World} {g:Nat} {a b c d e f:Value} {t:TypeId} (h:W.heap[g]?=some (.cells #[a,b,c,d,e,f] t (0,0))):
    W.cell? ⟨g,0,none⟩=some a∧W.cell? ⟨g,1,none⟩=some b∧W.cell? ⟨g,2,none⟩=some c∧W.cell? ⟨g,3,none⟩=some d∧W.cell? ⟨g,4,none⟩=some e∧W.cell? ⟨g,5,none⟩=some f:=
  ⟨(blk_cell h 0).trans rfl,(blk_cell h 1).trans rfl,(blk_cell h 2).trans rfl,(blk_cell h 3).trans rfl,(blk_cell h 4).trans rfl,(blk_cell h 5).trans rfl⟩
def Hold2 (w W:World) (g:Nat) (o:Obj) (g':Nat) (o':Obj):Prop:=Hold w W g o∧W.heap[g']?=some o'
theorem Hold2.step {w W W':World} {g g':Nat} {o o':Obj} (h:Hold2 w W g o g' o') (hb:Below W.heap.size W W'):Hold2 w W' g o g' o':=⟨h.1.step hb,blk_below h.2 hb⟩
theorem Hold2.alloc {w W:World} {g g':Nat} {o o':Obj} (h:Hold2 w W g o g' o') (q:Obj):Hold2 w (W.alloc q) g o g' o':=⟨h.1.alloc q,blk_alloc h.2 q⟩
theorem Hold2.drew {w W:World} {g g':Nat} {o o':Obj} (h:Hold2 w W g o g' o'):Hold2 w W.drew g o g' o':=⟨h.1.drew,h.2⟩
theorem Hold2.new {w W:World} {g:Nat} {o:Obj} (h:Hold w W g o) (q:Obj):Hold2 w (W.alloc q) g o W.heap.size q:=⟨h.alloc q,blk_new W q⟩
theorem Hold2.below {w W:World} {g g':Nat} {o o':Obj} (h:Hold2 w W g o g' o'):Below w.heap.size w W:=h.1.1
theorem Hold2.blk {w W:World} {g g':Nat} {o o':Obj} (h:Hold2 w W g o g' o'):W.heap[g]?=some o:=h.1.2
theorem Hold2.blk2 {w W:World} {g g':Nat} {o o':Obj} (h:Hold2 w W g o g' o'):W.heap[g']?=some o':=h.2
def decB (n:Int):ByteArray:=⟨(itoaS n).toArray⟩
def addS (b:Bool) (out x:ByteArray):ByteArray:=if b=true then(out++⟨#[32]⟩)++x else out
def outR (k r:Int):ByteArray:=addS (hasR k) (nameB k) (decB r)
def outS (k r s:Int):ByteArray:=addS (hasS k) (outR k r) (decB s)
def outT (k r s t:Int):ByteArray:=addS (hasT k) (outS k r s) (decB t)
def opText (k r s t vk vn:Int):ByteArray:=if opB k r s t vk vn=true then addS (hasV k) (outT k r s t) (vtext vk vn)else⟨#[]⟩
theorem dec_size (n:Int):(decB n).size≤3:=by
  unfold decB itoaS dec2;split<;>split<;>simp[ByteArray.size]
theorem add_size (b:Bool) (out x:ByteArray):(addS b out x).size≤out.size+1+x.size:=by
  unfold addS;split
  · rw[ByteArray.size_append,ByteArray.size_append];exact Nat.le_refl _
  · omega
theorem name_le (k:Int) (h:1≤k∧k≤14):(nameB k).size≤5:=by
  revert k;refine fun k=>kinds (P:=fun k=>1≤k∧k≤14→(nameB k).size≤5) (fun k hk h=>absurd h hk) ?_ ?_ ?_ ?_ ?_ ?_ ?_ ?_ ?_ ?_ ?_ ?_ ?_ ?_ k<;>exact fun _=>by decide
theorem how_name (k:Int) (h:1≤k∧k≤14):(howR k).f0=nameB k:=by
  revert k;refine fun k=>kinds (P:=fun k=>1≤k∧k≤14→(howR k).f0=nameB k) (fun k hk h=>absurd h hk) ?_ ?_ ?_ ?_ ?_ ?_ ?_ ?_ ?_ ?_ ?_ ?_ ?_ ?_ k<;>exact fun _=>by decide
theorem vtext_le4 (a b:Int):(vtext a b).size≤4:=by
  by_cases h:okB a b=true
  · have hp:=okB_true.1 h
    unfold vtext;rw[if_pos h];split
    · decide
    · have:(itoaS b).length≤3:=by unfold itoaS dec2;split<;>split<;>simp
      simp[ByteArray.size];omega
  · simp only[Bool.not_eq_true]at h
    rw[vtext_bad h];exact Nat.zero_le _
theorem cat1 (x:ByteArray) (hx:x.size≤1000):decide (1+x.size≤9223372036854775807)=true∧(9223372036854775807<1+x.size)=False∧(1+x.size≤9223372036854775807)=True:=
  ⟨decide_eq_true (by omega),eq_false (by omega),eq_true (by omega)⟩
theorem catB (o x:ByteArray) (ho:o.size≤1000) (hx:x.size≤1000):decide (o.size+(1+x.size)≤9223372036854775807)=true∧(9223372036854775807<o.size+(1+x.size))=False∧(o.size+(1+x.size)≤9223372036854775807)=True:=
  ⟨decide_eq_true (by omega),eq_false (by omega),eq_true (by omega)⟩
def outI (k r s t:Int) (i:Int):ByteArray:=if i=0 then nameB k else if i=1 then outR k r else if i=2 then outS k r s else outT k r s t
def OI (k r s t:Int) (i:Int) (v:Value):Prop:= ∃o:ByteArray,v= .string o∧o=outI k r s t i∧(o.size:Int)≤5+4*i
theorem oi_step {k r s t i:Int} {o x:ByteArray} (ho:o=outI k r s t i) {h:Bool} (e:outI k r s t (i+1)=addS h (outI k r s t i) x):(h=true→outI k r s t (i+1)=o++(⟨#[32]⟩++x))∧(h=false→outI k r s t (i+1)=o):=by
  subst ho;constructor
  · rintro rfl;rw[e];unfold addS;rw[if_pos rfl,ByteArray.append_assoc]
  · rintro rfl;rw[e];unfold addS;rw[if_neg (by simp)]
theorem box3 {W:World} {g:Nat} {a b c:Value} {t:TypeId} (h:W.heap[g]?=some (.cells #[a,b,c] t (0,0))):
    W.cell? ⟨g,0,none⟩=some a∧W.cell? ⟨g,1,none⟩=some b∧W.cell? ⟨g,2,none⟩=some c:=
  ⟨(blk_cell h 0).trans rfl,(blk_cell h 1).trans rfl,(blk_cell h 2).trans rfl⟩
def cells6 (k r s t vk vn:Int):Obj:=.cells #[.int .i64 k,.int .i64 r,.int .i64 s,.int .i64 t,.int .i64 vk,.int .i64 vn] 39
theorem opText_no {k r s t vk vn:Int} (h:opB k r s t vk vn=false):opText k r s t vk vn=⟨#[]⟩:=by unfold opText;simp[h]
theorem impl_OpText_any (k r s t vk vn:Int) (w:World) (hT:Tab w):
    Calls Tryz.prog 27 #[.agg #[.int .i64 k,.int .i64 r,.int .i64 s,.int .i64 t,.int .i64 vk,.int .i64 vn]] w fun e w'=>e= .returned (.string (opText k r s t vk vn))∧Below w.heap.size w w':=by
  have HT:=Aside0.mk hT;clear hT;have HO:Aside0 (∀W,Calls Tryz.prog 33 #[.agg #[.int .i64 k,.int .i64 r,.int .i64 s,.int .i64 t,.int .i64 vk,.int .i64 vn]] W fun e w'=>e= .returned (.bool (opB k r s t vk vn))∧Below W.heap.size W w'):=⟨fun W=>impl_OpOk.calls k r s t vk vn _ W rfl⟩
  obtain⟨b,hop⟩: ∃b,opB k r s t vk vn=b:=⟨_,rfl⟩;cases b with
  |false=>
    rw[opText_no hop];rw[hop]at HO
    clear hop;go_enter Tryz.func27,Tryz.ntmps27
    go_wp2_with (go_at_call 33;(with_reducible refine(HO.out _).mono ?_);rintro e w1 ⟨rfl,hb⟩)
    go_ret
    exact⟨rfl,below_step (below_alloc (Below.refl _ _) _) hb⟩
  |true=>
    rw[hop]at HO
    have hp:=opB_true.1 hop;have hk:=hp.1;have HH:Aside0 (∀ (c:UInt8) W,Calls Tryz.prog 34 #[.agg #[.int .i64 k,.int .i64 r,.int .i64 s,.int .i64 t,.int .i64 vk,.int .i64 vn],.string ⟨#[c]⟩] W fun e w'=>e= .returned (.bool (hasC k c))∧Below W.heap.size W w'):=⟨fun c W=>has_any k r s t vk vn c W⟩
    have HW:Aside0 (∀W,Calls Tryz.prog 50 #[.agg #[.int .i64 k,.int .i64 r,.int .i64 s,.int .i64 t,.int .i64 vk,.int .i64 vn]] W fun e w'=>e= .returned (.agg #[.string (nameB k),.string (howR k).f1,.string (howR k).f2,.bool (howR k).f3])∧Below W.heap.size W w'):=⟨fun W=>by
      rw[←how_name k hk];exact impl_Op_how.calls k r s t vk vn (howR k).f0 (howR k).f1 (howR k).f2 (howR k).f3 W rfl⟩
    have HI:Aside0 (∀n W, -100<n→n<100→Below w.heap.size w W→Calls Tryz.prog 59 #[.int .i64 n] W fun e w'=>e= .returned (.string (decB n))∧Below W.heap.size W w'):=⟨fun n W h0 h1 hW=>itoa_call n W h0 h1 (HT.out.below hW)⟩
    have HV:Aside0 (∀W,Below w.heap.size w W→Calls Tryz.prog 60 #[.agg #[.int .i64 vk,.int .i64 vn]] W fun e w'=>e= .returned (.string (vtext vk vn))∧Below W.heap.size W w'):=⟨fun W hW=>impl_ValText_any vk vn W (HT.out.below hW)⟩
    have hr: -100<r∧r<100∧ -100<s∧s<100∧ -100<t∧t<100:=by
      obtain⟨_,_,a,b,c,_⟩:=hp;omega
    have HRR:=Aside0.mk hr;have HN:=Aside0.mk (name_le k hk);have HEND:Aside0 (opText k r s t vk vn=addS (hasV k) (outI k r s t 3) (vtext vk vn)):=⟨by unfold opText;rw[if_pos hop];rfl⟩
    obtain⟨x1,x2,x3⟩: ∃a b c,a=(howR k).f1∧b=(howR k).f2∧c=(howR k).f3:=⟨_,_,_,rfl,rfl,rfl⟩;clear hop hp hr hk;rw[HEND.out];have hs0: ∀W,Sem.run Tryz.prog (Instr.slice 9 (.string ⟨#[82,83,84]⟩) (some (.int .i64 0)) (some (.int .i64 1)) none) W= .ok (.string ⟨#[82]⟩) W:=fun _=>by kernel_rfl
    have hs1: ∀W,Sem.run Tryz.prog (Instr.slice 9 (.string ⟨#[82,83,84]⟩) (some (.int .i64 1)) (some (.int .i64 2)) none) W= .ok (.string ⟨#[83]⟩) W:=fun _=>by kernel_rfl
    have hs2: ∀W,Sem.run Tryz.prog (Instr.slice 9 (.string ⟨#[82,83,84]⟩) (some (.int .i64 2)) (some (.int .i64 3)) none) W= .ok (.string ⟨#[84]⟩) W:=fun _=>by kernel_rfl
    have hfd: ∀ (a b c d:Value) (W:World),Sem.run Tryz.prog (Instr.field 77 (.agg #[a,b,c,d]) 0) W= .ok a W:=fun _ _ _ _ _=>by kernel_rfl
    have HB:=Aside0.mk (Hold.new (Below.refl w.heap.size w) (cells6 k r s t vk vn));go_enter Tryz.func27,Tryz.ntmps27
    go_upto_block 0 with (first
      |(go_at_call 33;(with_reducible refine(HO.out _).mono ?_);rintro e w1 ⟨rfl,hb⟩;replace HB:=Aside0.mk (HB.out.step hb);clear hb;obtain⟨c0,c1,c2,c3,c4,c5⟩:=box6 HB.out.blk)
      |(go_at_call 50;(with_reducible refine(HW.out _).mono ?_);rintro e w2 ⟨rfl,hb⟩;replace HB:=Aside0.mk (HB.out.step hb);clear hb c0 c1 c2 c3 c4 c5;obtain⟨c0,c1,c2,c3,c4,c5⟩:=box6 HB.out.blk))
    replace HB:=Aside0.mk (Hold2.new HB.out (.cells #[.int .i64 r,.int .i64 s,.int .i64 t] 3 (0,0)));have HO0:Aside0 (OI k r s t 0 (.string (nameB k))):=⟨⟨_,rfl,rfl,by have:=HN.out;omega⟩⟩
    clear c0 c1 c2 c3 c4 c5 HO HW HN HEND;revert HB
    generalize w2.alloc (.cells #[.int .i64 r,.int .i64 s,.int .i64 t] 3)=w3;generalize w2.heap.size=gs;intro HB;go_wp2
    go_loopg [3,20] 3 (fun gg s3 s20 wr=> ∃i:Int,0≤i∧i≤3∧3-i≤gg∧s20= .int .i64 i∧Aside0 (OI k r s t i s3)∧Aside0 (Hold2 w wr w.heap.size (cells6 k r s t vk vn) gs (.cells #[.int .i64 r,.int .i64 s,.int .i64 t] 3)))
    case atStart=>exact⟨0,by omega,by omega,by omega,rfl,HO0,HB⟩
    case round=>
      clear HB HO0;obtain⟨i,hi0,hi3,hgg,rfl,HOI,HB⟩:=hrel;have hi:i=0∨i=1∨i=2∨i=3:=by omega
      clear hi0 hi3;obtain⟨o,rfl,ho,hoz⟩:=HOI.out;clear HOI;obtain⟨c0,c1,c2,c3,c4,c5⟩:=box6 HB.out.blk;obtain⟨d0,d1,d2⟩:=box3 HB.out.blk2;have hw1:IntKind.i64.wrap 1=1:=by decide
      have hw2:IntKind.i64.wrap 2=2:=by decide
      have hw3:IntKind.i64.wrap 3=3:=by decide
      rcases hi with rfl|rfl|rfl|rfl
      · have ES:=Aside0.mk (oi_step (k:=k) (r:=r) (s:=s) (t:=t) (i:=0) (h:=hasR k) (x:=decB r) ho rfl)
        obtain⟨b,hbq⟩: ∃b,hasC k 82=b:=⟨_,rfl⟩;rw[show hasR k=hasC k 82 from(hasC_R k).symm,hbq]at ES
        have HX:Aside0 (∀W,Calls Tryz.prog 34 #[.agg #[.int .i64 k,.int .i64 r,.int .i64 s,.int .i64 t,.int .i64 vk,.int .i64 vn],.string ⟨#[82]⟩] W fun e w'=>e= .returned (.bool b)∧Below W.heap.size W w'):=⟨fun W=>by rw[←hbq];exact HH.out 82 W⟩
        clear ho hbq;go_upto_region 7 with (fail)
        go_region_held3 (fun w'=>w'.cell? ⟨w.heap.size,0,none⟩=some (.int .i64 k)∧w'.cell? ⟨w.heap.size,1,none⟩=some (.int .i64 r)∧w'.cell? ⟨w.heap.size,2,none⟩=some (.int .i64 s)∧w'.cell? ⟨w.heap.size,3,none⟩=some (.int .i64 t)∧w'.cell? ⟨w.heap.size,4,none⟩=some (.int .i64 vk)∧w'.cell? ⟨w.heap.size,5,none⟩=some (.int .i64 vn)) (go_keep) ((go_at_call 34;(with_reducible refine(HX.out _).mono ?_);rintro e w4 ⟨rfl,hb⟩;have HB4:=Aside0.mk (HB.out.drew.step hb);clear hb;obtain⟨z0,z1,z2,z3,z4,z5⟩:=box6 HB4.out.blk))
        all_goals
          replace HB:=HB4;clear HB4 z0 z1 z2 z3 z4 z5;cases b with
          |false=>
            have hx:=ES.out.2 rfl;clear ES HX;go_wp2
            go_roundg (gk-1)
            case measure=>omega
            case rel=>exact⟨_,by omega,by omega,by omega,rfl,⟨⟨o,rfl,hx.symm,by omega⟩⟩,HB⟩
          |true=>
            have hx:=ES.out.1 rfl;clear ES HX;obtain⟨X,hX⟩: ∃X,X=decB r:=⟨_,rfl⟩;have hX3:X.size≤3:=by rw[hX];exact dec_size _
            have HIX:Aside0 (∀W,Below w.heap.size w W→Calls Tryz.prog 59 #[.int .i64 r] W fun e w'=>e= .returned (.string X)∧Below W.heap.size W w'):=⟨fun W hW=>by rw[hX];exact HI.out r W (by have:=HRR.out;omega) (by have:=HRR.out;omega) hW⟩
            rw[←hX]at hx
            obtain⟨q1,q2,q3⟩:=cat1 X (by omega)
            obtain⟨q4,q5,q6⟩:=catB o X (by omega) (by omega)
            have HX4:=Aside0.mk (show _∧_∧_ from⟨hx,hX3,hX⟩)
            clear hx hX3 hX;go_wp2_with (go_at_call 59;(with_reducible refine(HIX.out _ HB.out.below).mono ?_);rintro e w5 ⟨rfl,hb⟩;replace HB:=Aside0.mk (HB.out.step hb);clear hb)
            go_roundg (gk-1)
            case measure=>omega
            case rel=>exact⟨_,by omega,by omega,by omega,rfl,⟨⟨_,rfl,HX4.out.1.symm,by have:=HX4.out.2.1;rw[ByteArray.size_append,ByteArray.size_append,show(⟨#[32]⟩:ByteArray).size=1 from rfl];omega⟩⟩,HB⟩
      · have ES:=Aside0.mk (oi_step (k:=k) (r:=r) (s:=s) (t:=t) (i:=1) (h:=hasS k) (x:=decB s) ho rfl)
        obtain⟨b,hbq⟩: ∃b,hasC k 83=b:=⟨_,rfl⟩;rw[show hasS k=hasC k 83 from(hasC_S k).symm,hbq]at ES
        have HX:Aside0 (∀W,Calls Tryz.prog 34 #[.agg #[.int .i64 k,.int .i64 r,.int .i64 s,.int .i64 t,.int .i64 vk,.int .i64 vn],.string ⟨#[83]⟩] W fun e w'=>e= .returned (.bool b)∧Below W.heap.size W w'):=⟨fun W=>by rw[←hbq];exact HH.out 83 W⟩
        clear ho hbq;go_upto_region 7 with (fail)
        go_region_held3 (fun w'=>w'.cell? ⟨w.heap.size,0,none⟩=some (.int .i64 k)∧w'.cell? ⟨w.heap.size,1,none⟩=some (.int .i64 r)∧w'.cell? ⟨w.heap.size,2,none⟩=some (.int .i64 s)∧w'.cell? ⟨w.heap.size,3,none⟩=some (.int .i64 t)∧w'.cell? ⟨w.heap.size,4,none⟩=some (.int .i64 vk)∧w'.cell? ⟨w.heap.size,5,none⟩=some (.int .i64 vn)) (go_keep) ((go_at_call 34;(with_reducible refine(HX.out _).mono ?_);rintro e w4 ⟨rfl,hb⟩;have HB4:=Aside0.mk (HB.out.drew.step hb);clear hb;obtain⟨z0,z1,z2,z3,z4,z5⟩:=box6 HB4.out.blk))
        all_goals
          replace HB:=HB4;clear HB4 z0 z1 z2 z3 z4 z5;cases b with
          |false=>
            have hx:=ES.out.2 rfl;clear ES HX;go_wp2
            go_roundg (gk-1)
            case measure=>omega
            case rel=>exact⟨_,by omega,by omega,by omega,rfl,⟨⟨o,rfl,hx.symm,by omega⟩⟩,HB⟩
          |true=>
            have hx:=ES.out.1 rfl;clear ES HX;obtain⟨X,hX⟩: ∃X,X=decB s:=⟨_,rfl⟩;have hX3:X.size≤3:=by rw[hX];exact dec_size _
            have HIX:Aside0 (∀W,Below w.heap.size w W→Calls Tryz.prog 59 #[.int .i64 s] W fun e w'=>e= .returned (.string X)∧Below W.heap.size W w'):=⟨fun W hW=>by rw[hX];exact HI.out s W (by have:=HRR.out;omega) (by have:=HRR.out;omega) hW⟩
            rw[←hX]at hx
            obtain⟨q1,q2,q3⟩:=cat1 X (by omega)
            obtain⟨q4,q5,q6⟩:=catB o X (by omega) (by omega)
            have HX4:=Aside0.mk (show _∧_∧_ from⟨hx,hX3,hX⟩)
            clear hx hX3 hX;go_wp2_with (go_at_call 59;(with_reducible refine(HIX.out _ HB.out.below).mono ?_);rintro e w5 ⟨rfl,hb⟩;replace HB:=Aside0.mk (HB.out.step hb);clear hb)
            go_roundg (gk-1)
            case measure=>omega
            case rel=>exact⟨_,by omega,by omega,by omega,rfl,⟨⟨_,rfl,HX4.out.1.symm,by have:=HX4.out.2.1;rw[ByteArray.size_append,ByteArray.size_append,show(⟨#[32]⟩:ByteArray).size=1 from rfl];omega⟩⟩,HB⟩
      · have ES:=Aside0.mk (oi_step (k:=k) (r:=r) (s:=s) (t:=t) (i:=2) (h:=hasT k) (x:=decB t) ho rfl)
        obtain⟨b,hbq⟩: ∃b,hasC k 84=b:=⟨_,rfl⟩;rw[show hasT k=hasC k 84 from(hasC_T k).symm,hbq]at ES
        have HX:Aside0 (∀W,Calls Tryz.prog 34 #[.agg #[.int .i64 k,.int .i64 r,.int .i64 s,.int .i64 t,.int .i64 vk,.int .i64 vn],.string ⟨#[84]⟩] W fun e w'=>e= .returned (.bool b)∧Below W.heap.size W w'):=⟨fun W=>by rw[←hbq];exact HH.out 84 W⟩
        clear ho hbq;go_upto_region 7 with (fail)
        go_region_held3 (fun w'=>w'.cell? ⟨w.heap.size,0,none⟩=some (.int .i64 k)∧w'.cell? ⟨w.heap.size,1,none⟩=some (.int .i64 r)∧w'.cell? ⟨w.heap.size,2,none⟩=some (.int .i64 s)∧w'.cell? ⟨w.heap.size,3,none⟩=some (.int .i64 t)∧w'.cell? ⟨w.heap.size,4,none⟩=some (.int .i64 vk)∧w'.cell? ⟨w.heap.size,5,none⟩=some (.int .i64 vn)) (go_keep) ((go_at_call 34;(with_reducible refine(HX.out _).mono ?_);rintro e w4 ⟨rfl,hb⟩;have HB4:=Aside0.mk (HB.out.drew.step hb);clear hb;obtain⟨z0,z1,z2,z3,z4,z5⟩:=box6 HB4.out.blk))
        all_goals
          replace HB:=HB4;clear HB4 z0 z1 z2 z3 z4 z5;cases b with
          |false=>
            have hx:=ES.out.2 rfl;clear ES HX;go_wp2
            go_roundg (gk-1)
            case measure=>omega
            case rel=>exact⟨_,by omega,by omega,by omega,rfl,⟨⟨o,rfl,hx.symm,by omega⟩⟩,HB⟩
          |true=>
            have hx:=ES.out.1 rfl;clear ES HX;obtain⟨X,hX⟩: ∃X,X=decB t:=⟨_,rfl⟩;have hX3:X.size≤3:=by rw[hX];exact dec_size _
            have HIX:Aside0 (∀W,Below w.heap.size w W→Calls Tryz.prog 59 #[.int .i64 t] W fun e w'=>e= .returned (.string X)∧Below W.heap.size W w'):=⟨fun W hW=>by rw[hX];exact HI.out t W (by have:=HRR.out;omega) (by have:=HRR.out;omega) hW⟩
            rw[←hX]at hx
            obtain⟨q1,q2,q3⟩:=cat1 X (by omega)
            obtain⟨q4,q5,q6⟩:=catB o X (by omega) (by omega)
            have HX4:=Aside0.mk (show _∧_∧_ from⟨hx,hX3,hX⟩)
            clear hx hX3 hX;go_wp2_with (go_at_call 59;(with_reducible refine(HIX.out _ HB.out.below).mono ?_);rintro e w5 ⟨rfl,hb⟩;replace HB:=Aside0.mk (HB.out.step hb);clear hb)
            go_roundg (gk-1)
            case measure=>omega
            case rel=>exact⟨_,by omega,by omega,by omega,rfl,⟨⟨_,rfl,HX4.out.1.symm,by have:=HX4.out.2.1;rw[ByteArray.size_append,ByteArray.size_append,show(⟨#[32]⟩:ByteArray).size=1 from rfl];omega⟩⟩,HB⟩
      · have hcat:=hoz
        have HEE:=Aside0.mk (show _∧_ from⟨ho,hoz⟩)
        obtain⟨q4,q5,q6⟩:True∧True∧True:=⟨trivial,trivial,trivial⟩;clear ho;have HX:Aside0 (∀W,Calls Tryz.prog 34 #[.agg #[.int .i64 k,.int .i64 r,.int .i64 s,.int .i64 t,.int .i64 vk,.int .i64 vn],.string ⟨#[86]⟩] W fun e w'=>e= .returned (.bool (hasV k))∧Below W.heap.size W w'):=⟨fun W=>by rw[←hasC_V];exact HH.out 86 W⟩
        obtain⟨b,hbq⟩: ∃b,hasV k=b:=⟨_,rfl⟩;rw[hbq]at HX
        obtain⟨X,hX⟩: ∃X,X=vtext vk vn:=⟨_,rfl⟩;have hX3:X.size≤4:=by rw[hX];exact vtext_le4 _ _
        rw[←hX]at HV
        have HXV:=Aside0.mk (show _∧_ from⟨hX,hbq⟩)
        obtain⟨q1,q2,q3⟩:=cat1 X (by omega)
        obtain⟨q4,q5,q6⟩:=catB o X (by omega) (by omega)
        clear hX hX3 hoz hcat hbq;cases b with
        |false=>
          go_wp2_with (go_at_call 34;(with_reducible refine(HX.out _).mono ?_);rintro e w4 ⟨rfl,hb⟩;replace HB:=Aside0.mk (HB.out.step hb);clear hb)
          go_ret
          exact⟨by rw[HEE.out.1,HXV.out.2];rfl,HB.out.below⟩
        |true=>
          go_wp2_with (first
            |(go_at_call 34;(with_reducible refine(HX.out _).mono ?_);rintro e w4 ⟨rfl,hb⟩;replace HB:=Aside0.mk (HB.out.step hb);clear hb c0 c1 c2 c3 c4 c5;obtain⟨c0,c1,c2,c3,c4,c5⟩:=box6 HB.out.blk)
            |(go_at_call 60;(with_reducible refine(HV.out _ HB.out.below).mono ?_);rintro e w5 ⟨rfl,hb⟩;replace HB:=Aside0.mk (HB.out.step hb);clear hb))
          go_ret
          exact⟨by rw[HEE.out.1,HXV.out.2,←HXV.out.1];unfold addS;rw[if_pos rfl,ByteArray.append_assoc];rfl,HB.out.below⟩
theorem okAll {P:Int→Int→Prop} (h0:P 0 0) (h1: ∀i∈List.range 199,P 1 ((i:Int)-99)) (h2: ∀i∈List.range 10,P 2 (i:Int)) (h3: ∀i∈List.range 6,P 3 ((i:Int)+1)) (k n:Int) (h:okP k n):P k n:=by
  rcases h with ⟨rfl,rfl⟩|⟨rfl,a,b⟩|⟨rfl,a,b⟩|⟨rfl,a,b⟩
  · exact h0
  · have:=h1 (n+99).toNat (by simp;omega)
    rwa [show(((n+99).toNat:Nat):Int)-99=n by omega]at this
  · have:=h2 n.toNat (by simp;omega)
    rwa [show((n.toNat:Nat):Int)=n by omega]at this
  · have:=h3 (n-1).toNat (by simp;omega)
    rwa [show(((n-1).toNat:Nat):Int)+1=n by omega]at this
def decL:List UInt8→Int
  | [45,a]=> -((a.toNat:Int)-48)
  | [45,a,b]=> -(((a.toNat:Int)-48)*10+((b.toNat:Int)-48))
  | [a]=>(a.toNat:Int)-48
  | [a,b]=>((a.toNat:Int)-48)*10+((b.toNat:Int)-48)
  |_=>0
def backL:List UInt8→Int×Int
  | [110,111,110,101]=>(0,0)
  |110::r=>(1,decL r)
  |97::r=>(2,decL r)
  |114::r=>(3,decL r)
  |_=>(4,0)
theorem back_ok (k n:Int) (h:okP k n):backL (vtext k n).data.toList=(k,n):=
  okAll (P:=fun k n=>backL (vtext k n).data.toList=(k,n)) (by decide+kernel) (by decide+kernel) (by decide+kernel) (by decide+kernel) k n h
theorem vtext_size (k n:Int) (h:okP k n):2≤(vtext k n).data.toList.length∧(vtext k n).data.toList.length≤4:=
  okAll (P:=fun k n=>2≤(vtext k n).data.toList.length∧(vtext k n).data.toList.length≤4) (by decide+kernel) (by decide+kernel) (by decide+kernel) (by decide+kernel) k n h
theorem toListD (b:ByteArray):b.toList=b.data.toList:=ByteArray.toList_eq b
def segL (b:Bool) (l:List UInt8):List UInt8:=if b=true then 32::l else []
def nameS (k:Int):List UInt8:=(nameB k).data.toList
def vtextS (k n:Int):List UInt8:=(vtext k n).data.toList
def optL (k r s t vk vn:Int):List UInt8:=nameS k++(segL (hasR k) (itoaS r)++(segL (hasS k) (itoaS s)++(segL (hasT k) (itoaS t)++segL (hasV k) (vtextS vk vn))))
theorem addS_list (b:Bool) (o x:ByteArray):(addS b o x).data.toList=o.data.toList++segL b x.data.toList:=by
  unfold addS segL;cases b with
  |false=>simp
  |true=>simp
theorem opText_list {k r s t vk vn:Int} (h:opB k r s t vk vn=true):(opText k r s t vk vn).data.toList=optL k r s t vk vn:=by
  unfold opText optL;rw[if_pos h,addS_list];unfold outT outS outR decB nameS vtextS;rw[addS_list,addS_list,addS_list];simp[List.append_assoc]
theorem itoa_facts (n:Int) (h0: -100<n) (h1:n<100):32∉itoaS n∧decL (itoaS n)=n:=by
  have h: ∀i∈List.range 199,32∉itoaS ((i:Int)-99)∧decL (itoaS ((i:Int)-99))=((i:Int)-99):=by decide+kernel
  have:=h (n+99).toNat (by simp;omega)
  rwa [show(((n+99).toNat:Nat):Int)-99=n by omega]at this
def kindL:List UInt8→Int
  | [115,101,116]=>1
  | [109,111,118,101]=>2
  | [97,100,100]=>3
  | [115,101,108,102]=>4
  | [98,101,103,105,110]=>5
  | [115,101,110,100]=>6
  | [116,97,107,101]=>7
  | [97,102,116,101,114]=>8
  | [103,111]=>9
  | [105,102]=>10
  | [108,105,110,107]=>11
  | [119,97,116,99,104]=>12
  | [116,114,97,112]=>13
  |_=>14
theorem name_facts (k:Int) (h:1≤k∧k≤14):(32∉nameS k∧nameS k≠ [])∧kindL (nameS k)=k:=by
  revert k;refine fun k=>kinds (P:=fun k=>1≤k∧k≤14→(32∉nameS k∧nameS k≠ [])∧kindL (nameS k)=k) (fun k hk h=>absurd h hk) ?_ ?_ ?_ ?_ ?_ ?_ ?_ ?_ ?_ ?_ ?_ ?_ ?_ ?_ k<;>exact fun _=>by decide
def Hd (x:List UInt8):Prop:=x=[]∨ ∃z,x=32::z
theorem hd_seg (b:Bool) (l x:List UInt8) (h:Hd x):Hd (segL b l++x):=by
  unfold segL;cases b with
  |false=>simpa using h
  |true=>exact .inr ⟨l++x,by simp⟩
theorem hd_seg0 (b:Bool) (l:List UInt8):Hd (segL b l):=by
  unfold segL;cases b with
  |false=>exact .inl (by simp)
  |true=>exact .inr ⟨l,by simp⟩
theorem cut_word: ∀ {a b x y:List UInt8},32∉a→32∉b→Hd x→Hd y→a++x=b++y→a=b∧x=y
  | [],[],_,_,_,_,_,_,h=>⟨rfl,h⟩
  | [],c::b,x,y,_,hb,hx,_,h=>by
    rcases hx with rfl|⟨z,rfl⟩
    · simp at h
    · simp at h;exact absurd (List.mem_cons.2 (.inl h.1)) hb
  |c::a,[],x,y,ha,_,_,hy,h=>by
    rcases hy with rfl|⟨z,rfl⟩
    · simp at h
    · simp at h;exact absurd (List.mem_cons.2 (.inl h.1.symm)) ha
  |c::a,d::b,x,y,ha,hb,hx,hy,h=>by
    simp only[List.cons_append,List.cons.injEq]at h
    obtain⟨e1,e2⟩:=cut_word (fun m=>ha (List.mem_cons_of_mem _ m)) (fun m=>hb (List.mem_cons_of_mem _ m)) hx hy h.2
    exact⟨by rw[h.1,e1],e2⟩
theorem seg_cut {b:Bool} {n m:Int} {x y:List UInt8} (hn: -100<n∧n<100) (hm: -100<m∧m<100) (h0:b=false→n=0∧m=0) (hx:Hd x) (hy:Hd y) (h:segL b (itoaS n)++x=segL b (itoaS m)++y):n=m∧x=y:=by
  cases b with
  |false=>exact⟨(h0 rfl).1.trans (h0 rfl).2.symm,by simpa[segL]using h⟩
  |true=>
    simp only[segL,if_true,List.cons_append,List.cons.injEq,true_and]at h
    obtain⟨e1,e2⟩:=cut_word (itoa_facts n hn.1 hn.2).1 (itoa_facts m hm.1 hm.2).1 hx hy h;have:=congrArg decL e1;rw[(itoa_facts n hn.1 hn.2).2,(itoa_facts m hm.1 hm.2).2]at this
    exact⟨this,e2⟩
theorem optL_one {k r s t vk vn k' r' s' t' vk' vn':Int} (h:opP k r s t vk vn) (h':opP k' r' s' t' vk' vn') (e:optL k r s t vk vn=optL k' r' s' t' vk' vn'):
    k=k'∧r=r'∧s=s'∧t=t'∧vk=vk'∧vn=vn':=by
  obtain⟨hk,hv,hr,hs,ht,hvv⟩:=h;obtain⟨hk',hv',hr',hs',ht',hvv'⟩:=h';unfold optL at e;obtain⟨e0,e1⟩:=cut_word (name_facts k hk).1.1 (name_facts k' hk').1.1 (hd_seg _ _ _ (hd_seg _ _ _ (hd_seg _ _ _ (hd_seg0 _ _)))) (hd_seg _ _ _ (hd_seg _ _ _ (hd_seg _ _ _ (hd_seg0 _ _)))) e;have ek:=congrArg kindL e0;rw[(name_facts k hk).2,(name_facts k' hk').2]at ek
  subst ek;obtain⟨f1,e2⟩:=seg_cut (by omega) (by omega) (fun hb=>by simp only[hb,Bool.false_eq_true,false_and,or_false]at hr hr';exact⟨hr,hr'⟩) (hd_seg _ _ _ (hd_seg _ _ _ (hd_seg0 _ _))) (hd_seg _ _ _ (hd_seg _ _ _ (hd_seg0 _ _))) e1
  obtain⟨f2,e3⟩:=seg_cut (by omega) (by omega) (fun hb=>by simp only[hb,Bool.false_eq_true,false_and,or_false]at hs hs';exact⟨hs,hs'⟩) (hd_seg _ _ _ (hd_seg0 _ _)) (hd_seg _ _ _ (hd_seg0 _ _)) e2
  obtain⟨f3,e4⟩:=seg_cut (by omega) (by omega) (fun hb=>by simp only[hb,Bool.false_eq_true,false_and,or_false]at ht ht';exact⟨ht,ht'⟩) (hd_seg0 _ _) (hd_seg0 _ _) e3
  refine⟨rfl,f1,f2,f3,?_⟩
  cases hb:hasV k with
  |false=>
    simp only[hb,Bool.false_eq_true,false_or]at hvv hvv'
    exact⟨hvv.1.trans hvv'.1.symm,hvv.2.trans hvv'.2.symm⟩
  |true=>
    rw[hb]at e4
    simp only[segL,if_true,List.cons.injEq,true_and]at e4
    have:=congrArg backL e4;unfold vtextS at this;rw[back_ok _ _ hv.1,back_ok _ _ hv'.1]at this
    injection this with g1 g2
    exact⟨g1,g2⟩
theorem opText_ne {k r s t vk vn:Int} (h:opB k r s t vk vn=true):((opText k r s t vk vn).toList=[]→False)∧(opText k r s t vk vn).toList.isEmpty=false:=by
  rw[toListD,opText_list h];have:=(name_facts k (opB_true.1 h).1).1.2;unfold optL;cases hl:nameS k with
  |nil=>exact absurd hl this
  |cons c l=>exact⟨by simp,by simp⟩
def byL (l:List UInt8):ByteArray:=⟨l.toArray⟩
theorem byL_data (b:ByteArray):byL b.data.toList=b:=by refine Go.WideShapes.bytes_inj ?_;unfold byL;simp
theorem idx_miss: ∀a:List UInt8,32∉a→Lib.index a [32]= -1
  | [],_=>by simp[Lib.index]
  |b::l,h=>by
    have h1: ¬(32=b):=fun e=>h (by rw[e];exact List.mem_cons_self)
    have h2:=idx_miss l (fun m=>h (List.mem_cons_of_mem _ m))
    unfold Lib.index;simp[h1,h2]
theorem idx_hit: ∀ (a z:List UInt8),32∉a→Lib.index (a++32::z) [32]=a.length
  | [],z,_=>by simp[Lib.index]
  |b::l,z,h=>by
    have h1: ¬(32=b):=fun e=>h (by rw[e];exact List.mem_cons_self)
    have h2:=idx_hit l z (fun m=>h (List.mem_cons_of_mem _ m))
    have h3:((l.length:Int)== -1)=false:=by rw[beq_eq_false_iff_ne];omega
    rw[List.cons_append];unfold Lib.index;rw[h2,h3];simp[h1]
def piecesB (t:ByteArray):List ByteArray:=Lib.splitB ⟨#[32]⟩ 0 (Lib.countB t ⟨#[32]⟩) t
theorem pieces_last (l:List UInt8) (h:32∉l):piecesB (byL l)=[byL l]:=by
  unfold piecesB;exact Lib.splitB_miss _ _ _ _ (by show Lib.index (byL l).data.toList [32]= -1;exact idx_miss _ (by simpa[byL]using h))
theorem pieces_cons (a z:List UInt8) (ha:32∉a):piecesB (byL (a++32::z))=byL a::piecesB (byL z):=by
  have hi:Lib.index (byL (a++32::z)).data.toList (⟨#[32]⟩:ByteArray).data.toList=((a.length:Nat):Int):=by
    show Lib.index (a++32::z) [32]=_
    exact idx_hit a z ha
  have e1:(byL (a++32::z)).extract (a.length+(⟨#[32]⟩:ByteArray).size) (byL (a++32::z)).size=byL z:=by
    refine Go.WideShapes.bytes_inj ?_
    rw[show(⟨#[32]⟩:ByteArray).size=1 from rfl]
    simp[byL,ByteArray.data_extract,ByteArray.size]
    exact List.take_of_length_le (by omega)
  have e2:(byL (a++32::z)).extract 0 (a.length+0)=byL a:=by
    refine Go.WideShapes.bytes_inj ?_
    simp[byL,ByteArray.data_extract]
  unfold piecesB;rw[Lib.countB_hit _ _ a.length (by decide) hi,Nat.add_comm 1,Lib.splitB_hit _ _ _ _ a.length hi,e1,e2]
def joinL:List UInt8→List (List UInt8)→List UInt8
  |w,[]=>w
  |w,v::ws=>w++32::joinL v ws
theorem pieces_join: ∀ (ws:List (List UInt8)) (w:List UInt8),32∉w→(∀v∈ws,32∉v)→piecesB (byL (joinL w ws))=byL w::ws.map byL
  | [],w,h,_=>pieces_last w h
  |v::ws,w,h,hs=>by
    show piecesB (byL (w++32::joinL v ws))=_
    rw[pieces_cons _ _ h,pieces_join ws v (hs v List.mem_cons_self) (fun x hx=>hs x (List.mem_cons_of_mem _ hx))]
    rfl
def sg {α:Type} (b:Bool) (x:α):List α:=if b=true then [x]else []
def wordsL (k r s t vk vn:Int):List (List UInt8):=sg (hasR k) (itoaS r)++(sg (hasS k) (itoaS s)++(sg (hasT k) (itoaS t)++sg (hasV k) (vtextS vk vn)))
theorem optL_join (k r s t vk vn:Int):optL k r s t vk vn=joinL (nameS k) (wordsL k r s t vk vn):=by
  unfold optL wordsL;cases hasR k<;>cases hasS k<;>cases hasT k<;>cases hasV k<;>simp[sg,segL,joinL]
theorem vtext_blank (vk vn:Int) (h:okP vk vn):32∉vtextS vk vn:=
  okAll (P:=fun k n=>32∉vtextS k n) (by decide+kernel) (by decide+kernel) (by decide+kernel) (by decide+kernel) vk vn h
theorem words_blank {k r s t vk vn:Int} (h:opP k r s t vk vn): ∀v∈wordsL k r s t vk vn,32∉v:=by
  obtain⟨hk,hv,hr,hs,ht,hvv⟩:=h;intro v hm;unfold wordsL at hm;simp only[List.mem_append]at hm
  have one: ∀ {b:Bool} {x:List UInt8},32∉x→v∈sg b x→32∉v:=by
    intro b x hx hv;unfold sg at hv;split at hv
    · rw[List.mem_singleton]at hv;rwa [hv]
    · cases hv
  rcases hm with hm|hm|hm|hm
  · exact one (itoa_facts r (by omega) (by omega)).1 hm
  · exact one (itoa_facts s (by omega) (by omega)).1 hm
  · exact one (itoa_facts t (by omega) (by omega)).1 hm
  · exact one (vtext_blank vk vn hv.1) hm
def wordsB (k r s t vk vn:Int):List ByteArray:=nameB k::(sg (hasR k) (decB r)++(sg (hasS k) (decB s)++(sg (hasT k) (decB t)++sg (hasV k) (vtext vk vn))))
theorem pieces_text {k r s t vk vn:Int} (h:opB k r s t vk vn=true):piecesB (opText k r s t vk vn)=wordsB k r s t vk vn:=by
  have hp:=opB_true.1 h
  have e:opText k r s t vk vn=byL (joinL (nameS k) (wordsL k r s t vk vn)):=by
    rw[←optL_join,←opText_list h,byL_data]
  rw[e,pieces_join _ _ (name_facts k hp.1).1.1 (words_blank hp)];unfold wordsB wordsL
  have hs: ∀ {b:Bool} {x:List UInt8} {y:ByteArray},byL x=y→(sg b x).map byL=sg b y:=by
    intro b x y e;subst e;cases b<;>simp[sg]
  have e1:byL (nameS k)=nameB k:=byL_data _;have e2:byL (vtextS vk vn)=vtext vk vn:=byL_data _;rw[List.map_append,List.map_append,List.map_append,hs (y:=decB r) rfl,hs (y:=decB s) rfl,hs (y:=decB t) rfl,hs e2,e1]
theorem opText_le {k r s t vk vn:Int} :(opText k r s t vk vn).size≤24:=by
  unfold opText;split
  · rename_i h
    have h1:=add_size (hasV k) (outT k r s t) (vtext vk vn);have h2:=add_size (hasT k) (outS k r s) (decB t);have h3:=add_size (hasS k) (outR k r) (decB s);have h4:=add_size (hasR k) (nameB k) (decB r);have:=name_le k (opB_true.1 h).1;have:=dec_size r;have:=dec_size s;have:=dec_size t;have:=vtext_le4 vk vn;unfold outT outS outR at*;have hp:=opB_true.1 h
    have one: ∀n:Int,0≤n→n≤15→(decB n).size≤2:=fun n a b=>by
      have h: ∀i∈List.range 16,(decB (i:Int)).size≤2:=by decide+kernel
      have:=h n.toNat (by simp;omega)
      rwa [show((n.toNat:Nat):Int)=n by omega]at this
    have:=one r (by have:=hp.2.2.1;omega) (by have:=hp.2.2.1;omega)
    have:=one s (by have:=hp.2.2.2.1;omega) (by have:=hp.2.2.2.1;omega)
    have:=one t (by have:=hp.2.2.2.2.1;omega) (by have:=hp.2.2.2.2.1;omega)
    omega
  · exact Nat.zero_le _
def Reads (x:ByteArray) (k r s t vk vn:Int) (ok:Bool):Prop:=
  (ok=true∧opB k r s t vk vn=true∧opText k r s t vk vn=x)∨(ok=false∧(k=0∧r=0∧s=0∧t=0∧vk=0∧vn=0)∧ ∀a b c d f g:Int,opB a b c d f g=true→opText a b c d f g≠x)
theorem reads_one {x:ByteArray} {k r s t vk vn k' r' s' t' vk' vn':Int} {ok ok':Bool} (h:Reads x k r s t vk vn ok) (h':Reads x k' r' s' t' vk' vn' ok'):
    k=k'∧r=r'∧s=s'∧t=t'∧vk=vk'∧vn=vn'∧ok=ok':=by
  rcases h with ⟨rfl,h1,h2⟩|⟨rfl,⟨rfl,rfl,rfl,rfl,rfl,rfl⟩,h2⟩<;>rcases h' with ⟨rfl,g1,g2⟩|⟨rfl,⟨rfl,rfl,rfl,rfl,rfl,rfl⟩,g2⟩
  · have e:optL k r s t vk vn=optL k' r' s' t' vk' vn':=by rw[←opText_list h1,←opText_list g1,h2,g2]
    obtain⟨a,b,c,d,f,g⟩:=optL_one (opB_true.1 h1) (opB_true.1 g1) e;exact⟨a,b,c,d,f,g,rfl⟩
  · exact absurd h2 (g2 _ _ _ _ _ _ h1)
  · exact absurd g2 (h2 _ _ _ _ _ _ g1)
  · exact⟨rfl,rfl,rfl,rfl,rfl,rfl,rfl⟩
def aggM (x:S77):Value:=.agg #[.string x.f0,.string x.f1,.string x.f2,.bool x.f3]
theorem match_any (x0 x1 x2:ByteArray) (x3:Bool) (B g:Nat) (n c:Nat) (p:ByteArray) (w:World) (hB:w.heap[B]?=some (.cells #[.slice (some ⟨g,0,none⟩) n c] 34 (0,0))) (hp:w.cell? ⟨g,0,none⟩=some (.string p)) (hn:1≤n):
    Calls Tryz.prog 49 #[.agg #[.string x0,.string x1,.string x2,.bool x3],.pointer (some ⟨B,0,none⟩)] w fun e w'=>e= .returned (.bool (x0.toList==p.toList))∧Below w.heap.size w w':=by
  have lB:=blk_lt hB;have hb0:(w.alloc (.cells #[.string x0,.string x1,.string x2,.bool x3] 77)).cell? ⟨B,0,none⟩=some (.slice (some ⟨g,0,none⟩) n c):=(blk_cell (blk_alloc hB _) 0).trans rfl;have hp0:(w.alloc (.cells #[.string x0,.string x1,.string x2,.bool x3] 77)).cell? ⟨g,0,none⟩=some (.string p):=((below_alloc (Below.refl _ _) _).cell (World.block_lt_of_cell? w _ hp)).trans hp;have HB:=Aside0.mk (below_alloc (Below.refl w.heap.size w) (.cells #[.string x0,.string x1,.string x2,.bool x3] 77));have hnz:(0:Int)<(n:Int):=by omega
  clear hB hp;go_enter Tryz.func49,Tryz.ntmps49
  go_upto_region 1 with (fail)
  go_quiet (fail)
  go_wp2
  go_ret
  exact⟨rfl,pw_below_drewN HB.out _⟩
def FirstAt (p:S77→Bool) (l:List S77) (i:Int):Prop:=(∃kk:Nat,kk<l.length∧i=kk∧p (rd_T77 l (kk:Nat))=true)∨(i= -1∧ ∀kk:Nat,kk<l.length→p (rd_T77 l (kk:Nat))=false)
theorem index_man (p:S77→Bool) (g:Nat) (lb:Array Value) (eg: ∀args w,(callFunc g args).run Tryz.prog w= .ok (.enter g args) w) (A0:Option Addr) (c0:Nat) (l0:List S77) (w:World)
    (hr0:Kd.C k77 w A0 l0.length l0) (hl:l0.length≤16)
    (hp: ∀ (W:World) (x:S77),Below w.heap.size w W→Calls Tryz.prog g (#[aggM x]++lb) W fun e w'=>e= .returned (.bool (p x))∧Below w.heap.size w w'):
    Calls Tryz.prog 47 #[.slice A0 l0.length c0,.func (.func g) #[] lb] w fun e w'=> ∃i,e= .returned (.int .i64 i)∧FirstAt p l0 i∧Below w.heap.size w w':=by
  have HR0:=Aside0.mk hr0;clear hr0;go_enter Tryz.func47,Tryz.ntmps47
  go_wp2
  go_loopg [5,8] l0.length (fun gg _ s8 wr=> ∃kk:Nat,kk≤l0.length∧l0.length-kk≤gg∧s8= .int .i64 kk∧Aside (Below w.heap.size w wr)∧Aside (∀j,j<kk→p (rd_T77 l0 (j:Nat))=false))
  case atStart=>exact⟨0,Nat.zero_le _,by omega,rfl,Below.refl _ w,fun j hj=>absurd hj (Nat.not_lt_zero _)⟩
  case round=>
    obtain⟨kk,hkk,hgg,rfl,BW,A⟩:=hrel;by_cases hlt:kk<l0.length
    · have hltz:(kk:Int)<(l0.length:Int):=by omega
      have h0z:0≤(kk:Int):=by omega
      obtain⟨ad,e,x0,x1,x2,x3⟩:=at_T77 HR0.out (kk:Int) h0z hltz;subst e;rw[Int.toNat_natCast]at x0 x1 x2 x3
      replace x0:=(BW.out.cell (World.block_lt_of_cell? w _ x0)).trans x0;replace x1:=(BW.out.cell (World.block_lt_of_cell? w _ x1)).trans x1;replace x2:=(BW.out.cell (World.block_lt_of_cell? w _ x2)).trans x2;replace x3:=(BW.out.cell (World.block_lt_of_cell? w _ x3)).trans x3;have hcall:=hp wr (rd_T77 l0 (kk:Int)) BW.out;unfold aggM at hcall;clear hp;obtain⟨y,hy0⟩: ∃y,y=rd_T77 l0 (kk:Int):=⟨_,rfl⟩;rw[←hy0]at hcall x0 x1 x2 x3
      have hy:=Aside0.mk hy0;clear hy0;cases hq:p y with
      |true=>
        rw[hq]at hcall
        go_wp2_with (go_at_fn g;refine hcall.mono ?_;rintro e w' ⟨rfl,hb'⟩)
        go_ret
        exact⟨_,rfl,.inl ⟨kk,hlt,rfl,by rw[←hy.out];exact hq⟩,hb'⟩
      |false=>
        rw[hq]at hcall
        go_wp2_with (go_at_fn g;refine hcall.mono ?_;rintro e w' ⟨rfl,hb'⟩)
        go_roundg (l0.length- (kk+1))
        case measure=>omega
        case rel=>
          refine⟨kk+1,by omega,by omega,by go_num,hb',(show Aside _ from fun j hj=> ?_)⟩
          by_cases e:j=kk
          · subst e
            rw[←hy.out];exact hq
          · exact A.out j (by omega)
    · have hltz: ¬(kk:Int)<(l0.length:Int):=by omega
      have:kk=l0.length:=by omega
      subst this;go_wp2
      go_ret
      exact⟨_,rfl,.inr ⟨rfl,A.out⟩,BW.out⟩
theorem manners_C {w w':World} {g:Nat} (h:IsManners w w' g):Kd.C k77 w' (some ⟨g,0,none⟩) mannersL.length mannersL:=by
  refine⟨rfl,by decide,fun _=>⟨_,rfl,fun j y hy=> ?_⟩⟩
  have hj:j<15:=by
    have:=(List.getElem?_eq_some_iff.1 hy).1;exact this
  have hc:=h.2.2
  have one: ∀ (o:Nat) (a b c d:Value),(∀i:Nat,i<4→(cellsOf mannersL)[o+i]?= #[a,b,c,d][i]?)→ ∀ (i:Nat) (u:Value),[a,b,c,d][i]?=some u→w'.cell? ((⟨g,0,none⟩:Addr).add (o+i))=some u:=by
    intro o a b c d h i u hi
    have h4:i<4:=by
      have:=(List.getElem?_eq_some_iff.1 hi).1;exact this
    have e:(⟨g,0,none⟩:Addr).add (o+i)=⟨g,o+i,none⟩:=by simp[Addr.add];intro h1 h2;omega
    rw[e,hc,h i h4,←hi];exact List.getElem?_toArray
  have hj':j=0∨j=1∨j=2∨j=3∨j=4∨j=5∨j=6∨j=7∨j=8∨j=9∨j=10∨j=11∨j=12∨j=13∨j=14:=by omega
  have lt4: ∀ {P:Nat→Prop},P 0→P 1→P 2→P 3→ ∀i:Nat,i<4→P i:=by
    intro P h0 h1 h2 h3 i hi;have:i=0∨i=1∨i=2∨i=3:=by omega
    rcases this with rfl|rfl|rfl|rfl<;>assumption
  rcases hj' with rfl|rfl|rfl|rfl|rfl|rfl|rfl|rfl|rfl|rfl|rfl|rfl|rfl|rfl|rfl<;>
    (obtain rfl:=Option.some.inj hy
     exact⟨_,rfl,k77_mk w' _,one _ _ _ _ _ (lt4 rfl rfl rfl rfl)⟩)
theorem first_name {p:ByteArray} {i:Int} (h:FirstAt (fun x=>x.f0.toList==p.toList) mannersL i):(-1≤i∧i≤14)∧ ∀k,1≤k∧k≤14→(mannersL.getD k.toNat z77).f0=p→i=k:=by
  rcases h with ⟨kk,hk,rfl,hp⟩|⟨rfl,hn⟩
  · have hk:kk<15:=hk
    refine⟨by omega,fun k hk1 e=> ?_⟩
    have e2:(rd_T77 mannersL (kk:Nat)).f0=p:=by
      simp only[beq_iff_eq]at hp
      rw[toListD,toListD]at hp
      exact Go.WideShapes.bytes_inj hp
    have h: ∀a∈List.range 15,∀b∈List.range 15,(mannersL.getD a z77).f0=(mannersL.getD b z77).f0→a=b:=by decide+kernel
    have:=h kk (by simp;omega) k.toNat (by simp;omega) (by rw[e,←e2];unfold rd_T77;rw[Int.toNat_natCast])
    omega
  · refine⟨by omega,fun k hk1 e=> ?_⟩
    have:=hn k.toNat (by show _<15;omega)
    have:((mannersL.getD k.toNat z77).f0.toList==p.toList)=false:=this;rw[e]at this
    simp at this
def readV (s:ByteArray):Int×Int×Bool:=
  if okB (backL s.data.toList).1 (backL s.data.toList).2=true∧vtext (backL s.data.toList).1 (backL s.data.toList).2=s then((backL s.data.toList).1,(backL s.data.toList).2,true)else(0,0,false)
theorem readV_text (k n:Int) (h:okP k n):readV (vtext k n)=(k,n,true):=by
  unfold readV;rw[back_ok k n h,if_pos ⟨okB_true.2 h,rfl⟩]
theorem readV_no {s:ByteArray} (h: ∀k n,okP k n→vtext k n≠s):readV s=(0,0,false):=by
  unfold readV;rw[if_neg];rintro⟨h1,h2⟩
  exact h _ _ (okB_true.1 h1) h2
theorem atoi_back (n:Int) (h0: -100<n) (h1:n<100):Lib.atoiAll (itoaS n)= .ok n:=by
  have h: ∀i∈List.range 199,Lib.atoiAll (itoaS ((i:Int)-99))= .ok ((i:Int)-99):=by decide+kernel
  have:=h (n+99).toNat (by simp;omega)
  rwa [show(((n+99).toNat:Nat):Int)-99=n by omega]at this
def Errs (w:World):Prop:=(∃te pe,w.cell? ⟨1,0,none⟩=some (.iface te pe))∧(∃te pe,w.cell? ⟨2,0,none⟩=some (.iface te pe))∧8≤w.heap.size
theorem Errs.below {w w':World} (h:Errs w) (hb:Below w.heap.size w w'):Errs w':=by
  obtain⟨⟨a,b,h0⟩,⟨c,d,h1⟩,h2⟩:=h;exact⟨⟨a,b,(hb.cell (p:=⟨1,0,none⟩) (by show 1<_;omega)).trans h0⟩,⟨c,d,(hb.cell (p:=⟨2,0,none⟩) (by show 2<_;omega)).trans h1⟩,Nat.le_trans h2 hb.size⟩
theorem atoi_yes (t:ByteArray) (v:Int) (w:World) (ht:t.size≤1048576) (h:Lib.atoiAll t.data.toList= .ok v):
    Calls Tryz.prog 52 #[.string t] w fun e w'=>e= .returned (.tuple #[.int .i64 v,.nilIface])∧Below w.heap.size w w':=by
  refine(Tryz.strconv_Atoi_ok t (by omega) v h w).mono ?_
  rintro e w' ⟨rfl,rfl|⟨t',rfl⟩⟩
  · exact⟨rfl,Below.refl _ _⟩
  · exact⟨rfl,Lib.bytesWorld_below _ _ _⟩
def NoNum (w:World) (e:Ending) (w':World):Prop:= ∃ (v:Int) (N:Nat),e= .returned (.tuple #[.int .i64 v,.iface 107 (.pointer (some ⟨N,0,none⟩))])∧Below w.heap.size w w'
theorem atoi_no (t:ByteArray) (w:World) (ht:t.size≤1048576) (hE:Errs w) (h: ∀v,Lib.atoiAll t.data.toList≠ .ok v):Calls Tryz.prog 52 #[.string t] w (NoNum w):=by
  obtain⟨⟨a,b,h0⟩,⟨c,d,h1⟩,h2⟩:=hE;cases hq:Lib.atoiAll t.data.toList
  · exact absurd hq (h _)
  · refine(Any.strconv_Atoi_syntax Tryz.laysC172 t (by omega) hq _ w h0 (.inr ⟨a,b,rfl⟩)).mono ?_
    rintro e w' ⟨N,rfl, -, -,hb⟩
    exact⟨_,N,rfl,hb⟩
  · refine(Any.strconv_Atoi_range Tryz.laysC172 t (by omega) hq _ w h1 (.inr ⟨c,d,rfl⟩)).mono ?_
    rintro e w' ⟨N,rfl, -, -,hb⟩
    exact⟨_,N,rfl,hb⟩
def formC (k:Int):List UInt8:=sg (hasR k) 82++(sg (hasS k) 83++(sg (hasT k) 84++sg (hasV k) 86))
def fieldW (r s t vk vn:Int) (c:UInt8):ByteArray:=if c=82 then decB r else if c=83 then decB s else if c=84 then decB t else vtext vk vn
theorem words_form (k r s t vk vn:Int):wordsB k r s t vk vn=nameB k::(formC k).map (fieldW r s t vk vn):=by
  unfold wordsB formC;cases hasR k<;>cases hasS k<;>cases hasT k<;>cases hasV k<;>simp[sg,fieldW]
theorem form_how (k:Int):(howR k).f1.data.toList=if 1≤k∧k≤14 then formC k else []:=by
  revert k;refine fun k=>kinds (P:=fun k=>(howR k).f1.data.toList=if 1≤k∧k≤14 then formC k else []) (fun k hk=>by unfold howR;rw[if_neg hk,if_neg hk];decide) ?_ ?_ ?_ ?_ ?_ ?_ ?_ ?_ ?_ ?_ ?_ ?_ ?_ ?_ k<;>decide
theorem form_mem {k:Int} {c:UInt8} (h:c∈formC k):c=82∨c=83∨c=84∨c=86:=by
  unfold formC at h;simp only[List.mem_append]at h
  have one: ∀ {b:Bool} {d:UInt8},c∈sg b d→c=d:=by
    intro b d h;unfold sg at h;split at h
    · exact List.mem_singleton.1 h
    · cases h
  rcases h with h|h|h|h
  · exact .inl (one h)
  · exact .inr (.inl (one h))
  · exact .inr (.inr (.inl (one h)))
  · exact .inr (.inr (.inr (one h)))
theorem how_mem {k:Int} {c:UInt8} (h:c∈(howR k).f1.data.toList):c=82∨c=83∨c=84∨c=86:=by
  rw[form_how]at h
  split at h
  · exact form_mem h
  · cases h
theorem form_has (k:Int):(82∈formC k ↔ hasR k=true)∧(83∈formC k ↔ hasS k=true)∧(84∈formC k ↔ hasT k=true)∧(86∈formC k ↔ hasV k=true):=by
  unfold formC;cases hasR k<;>cases hasS k<;>cases hasT k<;>cases hasV k<;>simp[sg]
def Inv (x:ByteArray) (n:Nat) (k r s t vk vn:Int):Prop:=
  ∀k0 r0 s0 t0 a0 b0:Int,opB k0 r0 s0 t0 a0 b0=true→opText k0 r0 s0 t0 a0 b0=x→
    k=k0∧(r=if 82∈(formC k0).take n then r0 else 0)∧(s=if 83∈(formC k0).take n then s0 else 0)∧(t=if 84∈(formC k0).take n then t0 else 0)∧(vk=if 86∈(formC k0).take n then a0 else 0)∧(vn=if 86∈(formC k0).take n then b0 else 0)
def word (x:ByteArray) (i:Nat):ByteArray:=(piecesB x).getD i ⟨#[]⟩
theorem inv_zero {x:ByteArray} {k:Int} (h:FirstAt (fun m=>m.f0.toList==(word x 0).toList) mannersL k):Inv x 0 k 0 0 0 0 0:=by
  intro k0 r0 s0 t0 a0 b0 h1 h2;have hp:=opB_true.1 h1;refine⟨(first_name h).2 k0 hp.1 ?_,by simp,by simp,by simp,by simp,by simp⟩
  have e:=pieces_text h1;rw[h2]at e
  unfold word;rw[e];show _=nameB k0
  rw[←how_name k0 hp.1];unfold howR;rw[if_pos hp.1]
theorem word_at {x:ByteArray} {n:Nat} {k r s t vk vn:Int} (h1:opB k r s t vk vn=true) (h2:opText k r s t vk vn=x) (hn:n<(formC k).length):n+1<(piecesB x).length∧word x (n+1)=fieldW r s t vk vn (formC k)[n]:=by
  have e:=pieces_text h1;rw[h2,words_form]at e
  unfold word;rw[e];constructor
  · simp;exact hn
  · simp[hn]
theorem take_mem {l:List UInt8} {n:Nat} (hn:n<l.length) (c:UInt8):c∈l.take (n+1) ↔ c∈l.take n∨c=l[n]:=by
  rw[List.take_succ_eq_append_getElem hn,List.mem_append,List.mem_singleton]
theorem form_at {F:ByteArray} {k:Int} (hF:F=(howR k).f1) {n:Nat} (hn:n<F.size) (hk:1≤k∧k≤14): ∃h:n<(formC k).length,(formC k)[n]=F[n]:=by
  have e:=form_how k;rw[if_pos hk,←hF]at e
  have hl:n<(formC k).length:=by rw[←e];simpa using hn
  refine⟨hl,?_⟩
  have:(formC k)[n]?=F.data.toList[n]?:=by rw[e]
  rw[List.getElem?_eq_getElem hl,List.getElem?_eq_getElem (by simpa using hn)]at this
  exact Option.some.inj this
theorem inv_short {x F:ByteArray} {n:Nat} {k r s t vk vn:Int} (h:Inv x n k r s t vk vn) (hF:F=(howR k).f1) (hn:n<F.size) (hs:(piecesB x).length≤n+1):Reads x 0 0 0 0 0 0 false:=by
  refine .inr ⟨rfl,⟨rfl,rfl,rfl,rfl,rfl,rfl⟩,fun a b c d f g h1 h2=> ?_⟩
  obtain⟨rfl, -⟩:=h _ _ _ _ _ _ h1 h2;obtain⟨hl, -⟩:=form_at hF hn (opB_true.1 h1).1;have:=(word_at h1 h2 hl).1;omega
theorem inv_num {x F:ByteArray} {n:Nat} {k r s t vk vn v:Int} (h:Inv x n k r s t vk vn) (hF:F=(howR k).f1) (hn:n<F.size) (hv: ∀m,Lib.atoiAll (word x (n+1)).data.toList= .ok m→v=m):
    (F[n]=82→Inv x (n+1) k v s t vk vn)∧(F[n]=83→Inv x (n+1) k r v t vk vn)∧(F[n]=84→Inv x (n+1) k r s v vk vn):=by
  refine⟨fun hc=> ?_,fun hc=> ?_,fun hc=> ?_⟩
  all_goals
    intro k0 r0 s0 t0 a0 b0 h1 h2;obtain⟨rfl,er,es,et,ea,eb⟩:=h _ _ _ _ _ _ h1 h2;have hp:=opB_true.1 h1;obtain⟨hl,hl2⟩:=form_at hF hn hp.1;obtain⟨-,hw⟩:=word_at h1 h2 hl;rw[hl2,hc]at hw
    rw[hc]at hl2
    have hz: -100<r0∧r0<100∧ -100<s0∧s0<100∧ -100<t0∧t0<100:=by
      obtain⟨_,_,a,b,c,_⟩:=hp;omega
    simp only[take_mem hl,hl2]
    refine⟨by trivial,?_,?_,?_,?_,?_⟩
  · simp only[or_true,if_true]
    exact hv _ (by rw[hw];exact atoi_back r0 hz.1 hz.2.1)
  · simpa using es
  · simpa using et
  · simpa using ea
  · simpa using eb
  · simpa using er
  · simp only[or_true,if_true]
    exact hv _ (by rw[hw];exact atoi_back s0 hz.2.2.1 hz.2.2.2.1)
  · simpa using et
  · simpa using ea
  · simpa using eb
  · simpa using er
  · simpa using es
  · simp only[or_true,if_true]
    exact hv _ (by rw[hw];exact atoi_back t0 hz.2.2.2.2.1 hz.2.2.2.2.2)
  · simpa using ea
  · simpa using eb
theorem inv_val {x F:ByteArray} {n:Nat} {k r s t vk vn a b:Int} {ok:Bool} (h:Inv x n k r s t vk vn) (hF:F=(howR k).f1) (hn:n<F.size) (hv:readV (word x (n+1))=(a,b,ok)) (hc:F[n]=86):Inv x (n+1) k r s t a b:=by
  intro k0 r0 s0 t0 a0 b0 h1 h2;obtain⟨rfl,er,es,et,ea,eb⟩:=h _ _ _ _ _ _ h1 h2;have hp:=opB_true.1 h1;obtain⟨hl,hl2⟩:=form_at hF hn hp.1;obtain⟨-,hw⟩:=word_at h1 h2 hl;rw[hl2,hc]at hw
  rw[hc]at hl2
  simp only[take_mem hl,hl2]
  rw[hw,show fieldW r0 s0 t0 a0 b0 86=vtext a0 b0 from rfl,readV_text a0 b0 hp.2.1.1]at hv
  injection hv with e1 e2
  injection e2 with e2 e3
  exact⟨by trivial,by simpa using er,by simpa using es,by simpa using et,by simp[e1],by simp[e2]⟩
theorem inv_end {x F:ByteArray} {n:Nat} {k r s t vk vn:Int} (h:Inv x n k r s t vk vn) (hF:F=(howR k).f1) (hn: ¬n<F.size):
    ∀k0 r0 s0 t0 a0 b0:Int,opB k0 r0 s0 t0 a0 b0=true→opText k0 r0 s0 t0 a0 b0=x→k=k0∧r=r0∧s=s0∧t=t0∧vk=a0∧vn=b0:=by
  intro k0 r0 s0 t0 a0 b0 h1 h2;obtain⟨rfl,er,es,et,ea,eb⟩:=h _ _ _ _ _ _ h1 h2;have hp:=opB_true.1 h1;have e:=form_how k;rw[if_pos hp.1,←hF]at e
  have hl:(formC k).length≤n:=by
    rw[←e];have:F.data.toList.length=F.size:=by rw[Array.length_toList];rfl
    omega
  rw[List.take_of_length_le hl]at er es et ea eb
  obtain⟨f1,f2,f3,f4⟩:=form_has k;simp only[f1,f2,f3,f4]at er es et ea eb
  obtain⟨_,_,gr,gs,gt,gv⟩:=hp;refine⟨rfl,?_,?_,?_,?_,?_⟩
  · rw[er];split
    · rfl
    · rename_i hh;rcases gr with g|⟨g, -⟩
      · exact g.symm
      · exact absurd g hh
  · rw[es];split
    · rfl
    · rename_i hh;rcases gs with g|⟨g, -⟩
      · exact g.symm
      · exact absurd g hh
  · rw[et];split
    · rfl
    · rename_i hh;rcases gt with g|⟨g, -⟩
      · exact g.symm
      · exact absurd g hh
  · rw[ea];split
    · rfl
    · rename_i hh;rcases gv with g|g
      · exact absurd g hh
      · exact g.1.symm
  · rw[eb];split
    · rfl
    · rename_i hh;rcases gv with g|g
      · exact absurd g hh
      · exact g.2.symm
theorem reads_yes {x F:ByteArray} {n:Nat} {k r s t vk vn:Int} (hB:opB k r s t vk vn=true) (hX:opText k r s t vk vn=x):Reads x k r s t vk vn true:=.inl ⟨rfl,hB,hX⟩
theorem reads_no {x F:ByteArray} {n:Nat} {k r s t vk vn:Int} (h:Inv x n k r s t vk vn) (hF:F=(howR k).f1) (hn: ¬n<F.size) (hB: ¬(opB k r s t vk vn=true∧opText k r s t vk vn=x)):Reads x 0 0 0 0 0 0 false:=by
  refine .inr ⟨rfl,⟨rfl,rfl,rfl,rfl,rfl,rfl⟩,fun a b c d f g h1 h2=> ?_⟩
  obtain⟨rfl,rfl,rfl,rfl,rfl,rfl⟩:=inv_end h hF hn _ _ _ _ _ _ h1 h2;exact hB ⟨h1,h2⟩
theorem l6_ok (n:Int) (h0: -100<n) (h1:n<100):spec_l6Dec.f 5 n=some ⟨(itoaS n).toArray⟩:=by
  have h: ∀i∈List.range 199,spec_l6Dec.f 5 ((i:Int)-99)=some ⟨(itoaS ((i:Int)-99)).toArray⟩:=by decide+kernel
  have:=h (n+99).toNat (by simp;omega)
  rwa [show(((n+99).toNat:Nat):Int)-99=n by omega]at this
theorem specOk_f (k n:Int):spec_ValOk.f k n=some (okB k n):=by
  unfold spec_ValOk.f okB okP spec_l6In.f;by_cases h0:k=0
  · subst h0;simp;by_cases n=0<;>simp[*]
  by_cases h1:k=1
  · subst h1;simp;by_cases h: -99≤n<;>by_cases h':n≤99<;>simp[*]
  by_cases h2:k=2
  · subst h2;simp;by_cases h:0≤n<;>by_cases h':n≤9<;>simp[*]
  by_cases h3:k=3
  · subst h3;simp;by_cases h:1≤n<;>by_cases h':n≤6<;>simp[*]
  simp[h0,h1,h2,h3]
theorem specText_f (k n:Int):spec_ValText.f 5 k n=some (vtext k n):=by
  unfold spec_ValText.f vtext;rw[specOk_f];by_cases h:okB k n=true
  · rw[h]
    simp only[Option.bind_some,if_true]
    by_cases h0:k=0
    · rw[if_pos h0,if_pos h0]
    · rw[if_neg h0,if_neg h0]
      have hp:=okB_true.1 h;have hk:k=1∨k=2∨k=3:=by unfold okP at hp;omega
      rw[l6_ok n (by unfold okP at hp;omega) (by unfold okP at hp;omega)]
      have hs:(itoaS n).length≤3:=by unfold itoaS dec2;split<;>split<;>simp
      obtain⟨X,hX⟩: ∃X,X=itoaS n:=⟨_,rfl⟩;rw[←hX]at hs⊢
      clear hX hp h h0;simp only[Option.bind_some]
      have hsz: ∀c:UInt8,(ByteArray.mk #[c]).size+(ByteArray.mk X.toArray).size≤9223372036854775807:=fun c=>by
        have:(ByteArray.mk X.toArray).size=X.length:=by simp[ByteArray.size]
        rw[this];show 1+X.length≤_;omega
      rcases hk with rfl|rfl|rfl
      · rw[if_pos (by decide),if_pos (by decide)];exact(if_pos (hsz 110)).trans rfl
      · rw[if_pos (by decide),if_pos (by decide)];exact(if_pos (hsz 97)).trans rfl
      · rw[if_pos (by decide),if_pos (by decide)];exact(if_pos (hsz 114)).trans rfl
  · simp only[Bool.not_eq_true]at h
    rw[h];simp
theorem below_set0 {w W:World} (h:Below w.heap.size w W) (j:Nat) (v:Value):Below w.heap.size w (W.setCell ⟨w.heap.size,j,none⟩ v):=below_set h (Nat.le_refl _)
def NoneBelow (s:ByteArray) (k:Int):Prop:= ∀j:Int,1≤j→j<k→ ∀n,okP j n→vtext j n≠s
theorem tail_of {k n:Int} {s:ByteArray} (hk:1≤k) (h:okP k n) (e:vtext k n=s): ∃h2:0<s.size,2≤s.size∧s[0]=letterB k∧(s.extract 1 s.size).data.toList=itoaS n∧ -100<n∧n<100:=by
  have h0: ¬k=0:=by omega
  have e2:s=⟨(letterB k::itoaS n).toArray⟩:=by
    rw[←e];unfold vtext;rw[if_pos (okB_true.2 h),if_neg h0]
  have hsz:=(vtext_size k n h).1;rw[e,e2]at hsz
  subst e2;refine⟨by simp[ByteArray.size],by simp[ByteArray.size]at*;omega,rfl,?_,by unfold okP at h;omega,by unfold okP at h;omega⟩
  simp[ByteArray.data_extract,ByteArray.size]
theorem none_step {s:ByteArray} {k:Int} (h:NoneBelow s k) (hk: ∀n,okP k n→vtext k n≠s):NoneBelow s (k+1):=by
  intro j h1 h2 n hn;by_cases hj:j<k
  · exact h j h1 hj n hn
  · obtain rfl:j=k:=by omega
    exact hk n hn
theorem none_all {s:ByteArray} (h:NoneBelow s 4) (hn:s≠⟨#[110,111,110,101]⟩):readV s=(0,0,false):=by
  refine readV_no fun k n hk e=> ?_
  by_cases h0:k=0
  · subst h0
    have:n=0:=by unfold okP at hk;omega
    subst this;exact hn e.symm
  · exact h k (by unfold okP at hk;omega) (by unfold okP at hk;omega) n hk e
theorem readV_of {k n:Int} {s:ByteArray} (e:vtext k n=s) (h0:0<s.size):readV s=(k,n,true):=by
  by_cases h:okB k n=true
  · rw[←e];exact readV_text k n (okB_true.1 h)
  · simp only[Bool.not_eq_true]at h
    rw[vtext_bad h]at e
    rw[←e]at h0
    simp[ByteArray.size]at h0
theorem impl_ValRead_any (s:ByteArray) (w:World) (hs:s.size≤1048576) (hT:Tab w) (hE:Errs w):
    Calls Tryz.prog 51 #[.string s] w fun e w'=>e= .returned (.tuple #[.agg #[.int .i64 (readV s).1,.int .i64 (readV s).2.1],.bool (readV s).2.2])∧Below w.heap.size w w':=by
  have HT:=Aside0.mk hT;have HE:=Aside0.mk hE;clear hT hE;have HB:=Aside0.mk (Hold.new (Below.refl w.heap.size w) (.cells #[.int .i64 0,.int .i64 0] 37));by_cases hn:s=⟨#[110,111,110,101]⟩
  · subst hn
    rw[show readV ⟨#[110,111,110,101]⟩=(0,0,true)from readV_text 0 0 (.inl ⟨rfl,rfl⟩)]
    clear hs;go_enter Tryz.func51,Tryz.ntmps51
    go_wp2
    exact bodyPost_ret (v:=.tuple #[.agg #[.int .i64 0,.int .i64 0],.bool true]) (by simp[results,Tryz.results51,go_sem]) rfl ⟨rfl,by repeat(first|exact Below.refl _ _|apply below_alloc|apply below_set0)⟩
  · have e0 : (s.toList == [110, 111, 110, 101]) = false := by
      rw[toListD,beq_eq_false_iff_ne];intro h;exact hn (Go.WideShapes.bytes_inj h)
    have HN:=Aside0.mk hn;clear hn;go_enter Tryz.func51,Tryz.ntmps51
    go_wp2
    go_loopg [4] 4 (fun gg s4 wr=> ∃k:Int,1≤k∧k≤4∧4-k≤gg∧s4= .int .i64 k∧Aside0 (NoneBelow s k)∧Aside0 (Hold w wr w.heap.size (.cells #[.int .i64 0,.int .i64 0] 37)))
    case atStart=>exact⟨1,by omega,by omega,by omega,rfl,⟨fun j h1 h2=>by omega⟩,HB⟩
    case round=>
      clear HB;obtain⟨k,hk1,hk4,hgg,rfl,HP,HB⟩:=hrel;have hk:(k=1∨k=2∨k=3)∨k=4:=by omega
      clear hk1 hk4;rcases hk with hk|rfl
      · rcases hk with rfl|rfl|rfl
        · go_upto_region 6 with (fail)
          by_cases hl:s.size<2
          · have l1:decide ((s.size:Int)<2)=true:=decide_eq_true (by omega)
            have HL:=Aside0.mk hl;clear hl;go_quiet (fail)
            go_wp2
            go_roundg (gk-1)
            case measure=>omega
            case rel=>
              exact⟨_,by omega,by omega,by omega,rfl,⟨none_step HP.out fun n hn e=>by obtain⟨_,h2,_⟩:=tail_of (by omega) hn e;have:=HL.out;omega⟩,⟨HB.out.drewN _⟩⟩
          · have l1:decide ((s.size:Int)<2)=false:=decide_eq_false (by omega)
            have h0:0<s.size:=by omega
            have h0z:(0:Int)<(s.size:Int):=by omega
            clear hl;by_cases hb:s[0]=110
            · have e1:((s[0].toNat:Int) !=(((⟨#[110,97,114]⟩:ByteArray)[0]'(by decide)).toNat:Int))=false:=by rw[hb];rfl
              clear hb;go_quiet (fail)
              go_wp2_with fail
              have ht:(s.extract 1 s.size).size≤1048576:=by rw[ByteArray.size_extract];omega
              by_cases ho: ∃v,Lib.atoiAll (s.extract 1 s.size).data.toList= .ok v
              · obtain⟨v,ho⟩:=ho
                refine(atoi_yes (s.extract 1 s.size) v _ ht ho).mono ?_
                rintro e w1 ⟨rfl,hb⟩
                have HO:=Aside0.mk ho;replace HB:=Aside0.mk (Hold2.new ((HB.out.drewN _).step hb) (.cells #[.int .i64 1,.int .i64 v] 37));clear hb ho ht e1;have HX: ∀W,Below w.heap.size w W→Calls Tryz.prog 60 #[.agg #[.int .i64 1,.int .i64 v]] W fun e w'=>e= .returned (.string (vtext 1 v))∧Below W.heap.size W w':=fun W hW=>impl_ValText_any 1 v W (HT.out.below hW)
                obtain⟨X,hX⟩: ∃X,X=vtext 1 v:=⟨_,rfl⟩;rw[←hX]at HX
                have HXX:=Aside0.mk hX;have HX':=Aside0.mk HX;clear HX hX;by_cases hv:X=s
                · have e2:(X.toList==s.toList)=true:=by rw[hv];simp
                  have HV:=Aside0.mk hv;clear hv;go_wp2_with (go_at_call 60;(with_reducible refine(HX'.out _ HB.out.below).mono ?_);rintro e w2 ⟨rfl,hb⟩;replace HB:=Aside0.mk (HB.out.step hb);clear hb;obtain⟨c0,c1⟩:=box2 HB.out.blk;obtain⟨f0,f1⟩:=free2 HB.out.blk;obtain⟨d0,d1⟩:=box2 HB.out.blk2)
                  exact bodyPost_ret (v:=.tuple #[.agg #[.int .i64 1,.int .i64 v],.bool true]) (by simp[results,Tryz.results51,go_sem,c0,c1]) rfl ⟨by rw[readV_of (HXX.out.symm.trans HV.out) h0],by repeat(first|exact HB.out.below|apply below_set0)⟩
                · have e2 : (X.toList == s.toList) = false := by
                    rw[toListD,toListD,beq_eq_false_iff_ne];intro h;exact hv (Go.WideShapes.bytes_inj h)
                  have HV:=Aside0.mk hv;clear hv;go_wp2_with (go_at_call 60;(with_reducible refine(HX'.out _ HB.out.below).mono ?_);rintro e w2 ⟨rfl,hb⟩;replace HB:=Aside0.mk (HB.out.step hb);clear hb)
                  go_roundg (gk-1)
                  case measure=>omega
                  case rel=>
                    refine⟨_,by omega,by omega,by omega,rfl,⟨none_step HP.out fun n hn e=> ?_⟩,⟨HB.out.1⟩⟩
                    obtain⟨_,_,_,h3,h4,h5⟩:=tail_of (by omega) hn e
                    have:=HO.out;rw[h3,atoi_back n h4 h5]at this
                    injection this with this
                    subst this;exact HV.out (HXX.out.trans e)
              · have hno: ∀v,Lib.atoiAll (s.extract 1 s.size).data.toList≠ .ok v:=fun v h=>ho ⟨v,h⟩
                refine(atoi_no (s.extract 1 s.size) _ ht (HE.out.below (HB.out.drewN _).below) hno).mono ?_
                rintro e w1 ⟨v,N,rfl,hb⟩
                replace HB:=Aside0.mk ((HB.out.drewN _).step hb);have HO:=Aside0.mk hno;clear hb ho hno ht e1;go_wp2
                go_roundg (gk-1)
                case measure=>omega
                case rel=>
                  refine⟨_,by omega,by omega,by omega,rfl,⟨none_step HP.out fun n hn e=> ?_⟩,⟨HB.out.alloc _⟩⟩
                  obtain⟨_,_,_,h3,h4,h5⟩:=tail_of (by omega) hn e
                  exact HO.out n (by rw[h3,atoi_back n h4 h5])
            · have e1 : ((s[0].toNat : Int) != (((⟨#[110, 97, 114]⟩ : ByteArray)[0]'(by decide)).toNat : Int)) = true := by
                simp only[bne_iff_ne,ne_eq];intro h;exact hb (UInt8.toNat_inj.1 (Int.ofNat_inj.1 h))
              have HQ:=Aside0.mk hb;clear hb;go_quiet (fail)
              go_wp2
              go_roundg (gk-1)
              case measure=>omega
              case rel=>
                exact⟨_,by omega,by omega,by omega,rfl,⟨none_step HP.out fun n hn e=>by obtain⟨_,_,h2,_⟩:=tail_of (by omega) hn e;exact HQ.out h2⟩,⟨HB.out.drewN _⟩⟩
        · go_upto_region 6 with (fail)
          by_cases hl:s.size<2
          · have l1:decide ((s.size:Int)<2)=true:=decide_eq_true (by omega)
            have HL:=Aside0.mk hl;clear hl;go_quiet (fail)
            go_wp2
            go_roundg (gk-1)
            case measure=>omega
            case rel=>
              exact⟨_,by omega,by omega,by omega,rfl,⟨none_step HP.out fun n hn e=>by obtain⟨_,h2,_⟩:=tail_of (by omega) hn e;have:=HL.out;omega⟩,⟨HB.out.drewN _⟩⟩
          · have l1:decide ((s.size:Int)<2)=false:=decide_eq_false (by omega)
            have h0:0<s.size:=by omega
            have h0z:(0:Int)<(s.size:Int):=by omega
            clear hl;by_cases hb:s[0]=97
            · have e1:((s[0].toNat:Int) !=(((⟨#[110,97,114]⟩:ByteArray)[1]'(by decide)).toNat:Int))=false:=by rw[hb];rfl
              clear hb;go_quiet (fail)
              go_wp2_with fail
              have ht:(s.extract 1 s.size).size≤1048576:=by rw[ByteArray.size_extract];omega
              by_cases ho: ∃v,Lib.atoiAll (s.extract 1 s.size).data.toList= .ok v
              · obtain⟨v,ho⟩:=ho
                refine(atoi_yes (s.extract 1 s.size) v _ ht ho).mono ?_
                rintro e w1 ⟨rfl,hb⟩
                have HO:=Aside0.mk ho;replace HB:=Aside0.mk (Hold2.new ((HB.out.drewN _).step hb) (.cells #[.int .i64 2,.int .i64 v] 37));clear hb ho ht e1;have HX: ∀W,Below w.heap.size w W→Calls Tryz.prog 60 #[.agg #[.int .i64 2,.int .i64 v]] W fun e w'=>e= .returned (.string (vtext 2 v))∧Below W.heap.size W w':=fun W hW=>impl_ValText_any 2 v W (HT.out.below hW)
                obtain⟨X,hX⟩: ∃X,X=vtext 2 v:=⟨_,rfl⟩;rw[←hX]at HX
                have HXX:=Aside0.mk hX;have HX':=Aside0.mk HX;clear HX hX;by_cases hv:X=s
                · have e2:(X.toList==s.toList)=true:=by rw[hv];simp
                  have HV:=Aside0.mk hv;clear hv;go_wp2_with (go_at_call 60;(with_reducible refine(HX'.out _ HB.out.below).mono ?_);rintro e w2 ⟨rfl,hb⟩;replace HB:=Aside0.mk (HB.out.step hb);clear hb;obtain⟨c0,c1⟩:=box2 HB.out.blk;obtain⟨f0,f1⟩:=free2 HB.out.blk;obtain⟨d0,d1⟩:=box2 HB.out.blk2)
                  exact bodyPost_ret (v:=.tuple #[.agg #[.int .i64 2,.int .i64 v],.bool true]) (by simp[results,Tryz.results51,go_sem,c0,c1]) rfl ⟨by rw[readV_of (HXX.out.symm.trans HV.out) h0],by repeat(first|exact HB.out.below|apply below_set0)⟩
                · have e2 : (X.toList == s.toList) = false := by
                    rw[toListD,toListD,beq_eq_false_iff_ne];intro h;exact hv (Go.WideShapes.bytes_inj h)
                  have HV:=Aside0.mk hv;clear hv;go_wp2_with (go_at_call 60;(with_reducible refine(HX'.out _ HB.out.below).mono ?_);rintro e w2 ⟨rfl,hb⟩;replace HB:=Aside0.mk (HB.out.step hb);clear hb)
                  go_roundg (gk-1)
                  case measure=>omega
                  case rel=>
                    refine⟨_,by omega,by omega,by omega,rfl,⟨none_step HP.out fun n hn e=> ?_⟩,⟨HB.out.1⟩⟩
                    obtain⟨_,_,_,h3,h4,h5⟩:=tail_of (by omega) hn e
                    have:=HO.out;rw[h3,atoi_back n h4 h5]at this
                    injection this with this
                    subst this;exact HV.out (HXX.out.trans e)
              · have hno: ∀v,Lib.atoiAll (s.extract 1 s.size).data.toList≠ .ok v:=fun v h=>ho ⟨v,h⟩
                refine(atoi_no (s.extract 1 s.size) _ ht (HE.out.below (HB.out.drewN _).below) hno).mono ?_
                rintro e w1 ⟨v,N,rfl,hb⟩
                replace HB:=Aside0.mk ((HB.out.drewN _).step hb);have HO:=Aside0.mk hno;clear hb ho hno ht e1;go_wp2
                go_roundg (gk-1)
                case measure=>omega
                case rel=>
                  refine⟨_,by omega,by omega,by omega,rfl,⟨none_step HP.out fun n hn e=> ?_⟩,⟨HB.out.alloc _⟩⟩
                  obtain⟨_,_,_,h3,h4,h5⟩:=tail_of (by omega) hn e
                  exact HO.out n (by rw[h3,atoi_back n h4 h5])
            · have e1 : ((s[0].toNat : Int) != (((⟨#[110, 97, 114]⟩ : ByteArray)[1]'(by decide)).toNat : Int)) = true := by
                simp only[bne_iff_ne,ne_eq];intro h;exact hb (UInt8.toNat_inj.1 (Int.ofNat_inj.1 h))
              have HQ:=Aside0.mk hb;clear hb;go_quiet (fail)
              go_wp2
              go_roundg (gk-1)
              case measure=>omega
              case rel=>
                exact⟨_,by omega,by omega,by omega,rfl,⟨none_step HP.out fun n hn e=>by obtain⟨_,_,h2,_⟩:=tail_of (by omega) hn e;exact HQ.out h2⟩,⟨HB.out.drewN _⟩⟩
        · go_upto_region 6 with (fail)
          by_cases hl:s.size<2
          · have l1:decide ((s.size:Int)<2)=true:=decide_eq_true (by omega)
            have HL:=Aside0.mk hl;clear hl;go_quiet (fail)
            go_wp2
            go_roundg (gk-1)
            case measure=>omega
            case rel=>
              exact⟨_,by omega,by omega,by omega,rfl,⟨none_step HP.out fun n hn e=>by obtain⟨_,h2,_⟩:=tail_of (by omega) hn e;have:=HL.out;omega⟩,⟨HB.out.drewN _⟩⟩
          · have l1:decide ((s.size:Int)<2)=false:=decide_eq_false (by omega)
            have h0:0<s.size:=by omega
            have h0z:(0:Int)<(s.size:Int):=by omega
            clear hl;by_cases hb:s[0]=114
            · have e1:((s[0].toNat:Int) !=(((⟨#[110,97,114]⟩:ByteArray)[2]'(by decide)).toNat:Int))=false:=by rw[hb];rfl
              clear hb;go_quiet (fail)
              go_wp2_with fail
              have ht:(s.extract 1 s.size).size≤1048576:=by rw[ByteArray.size_extract];omega
              by_cases ho: ∃v,Lib.atoiAll (s.extract 1 s.size).data.toList= .ok v
              · obtain⟨v,ho⟩:=ho
                refine(atoi_yes (s.extract 1 s.size) v _ ht ho).mono ?_
                rintro e w1 ⟨rfl,hb⟩
                have HO:=Aside0.mk ho;replace HB:=Aside0.mk (Hold2.new ((HB.out.drewN _).step hb) (.cells #[.int .i64 3,.int .i64 v] 37));clear hb ho ht e1;have HX: ∀W,Below w.heap.size w W→Calls Tryz.prog 60 #[.agg #[.int .i64 3,.int .i64 v]] W fun e w'=>e= .returned (.string (vtext 3 v))∧Below W.heap.size W w':=fun W hW=>impl_ValText_any 3 v W (HT.out.below hW)
                obtain⟨X,hX⟩: ∃X,X=vtext 3 v:=⟨_,rfl⟩;rw[←hX]at HX
                have HXX:=Aside0.mk hX;have HX':=Aside0.mk HX;clear HX hX;by_cases hv:X=s
                · have e2:(X.toList==s.toList)=true:=by rw[hv];simp
                  have HV:=Aside0.mk hv;clear hv;go_wp2_with (go_at_call 60;(with_reducible refine(HX'.out _ HB.out.below).mono ?_);rintro e w2 ⟨rfl,hb⟩;replace HB:=Aside0.mk (HB.out.step hb);clear hb;obtain⟨c0,c1⟩:=box2 HB.out.blk;obtain⟨f0,f1⟩:=free2 HB.out.blk;obtain⟨d0,d1⟩:=box2 HB.out.blk2)
                  exact bodyPost_ret (v:=.tuple #[.agg #[.int .i64 3,.int .i64 v],.bool true]) (by simp[results,Tryz.results51,go_sem,c0,c1]) rfl ⟨by rw[readV_of (HXX.out.symm.trans HV.out) h0],by repeat(first|exact HB.out.below|apply below_set0)⟩
                · have e2 : (X.toList == s.toList) = false := by
                    rw[toListD,toListD,beq_eq_false_iff_ne];intro h;exact hv (Go.WideShapes.bytes_inj h)
                  have HV:=Aside0.mk hv;clear hv;go_wp2_with (go_at_call 60;(with_reducible refine(HX'.out _ HB.out.below).mono ?_);rintro e w2 ⟨rfl,hb⟩;replace HB:=Aside0.mk (HB.out.step hb);clear hb)
                  go_roundg (gk-1)
                  case measure=>omega
                  case rel=>
                    refine⟨_,by omega,by omega,by omega,rfl,⟨none_step HP.out fun n hn e=> ?_⟩,⟨HB.out.1⟩⟩
                    obtain⟨_,_,_,h3,h4,h5⟩:=tail_of (by omega) hn e
                    have:=HO.out;rw[h3,atoi_back n h4 h5]at this
                    injection this with this
                    subst this;exact HV.out (HXX.out.trans e)
              · have hno: ∀v,Lib.atoiAll (s.extract 1 s.size).data.toList≠ .ok v:=fun v h=>ho ⟨v,h⟩
                refine(atoi_no (s.extract 1 s.size) _ ht (HE.out.below (HB.out.drewN _).below) hno).mono ?_
                rintro e w1 ⟨v,N,rfl,hb⟩
                replace HB:=Aside0.mk ((HB.out.drewN _).step hb);have HO:=Aside0.mk hno;clear hb ho hno ht e1;go_wp2
                go_roundg (gk-1)
                case measure=>omega
                case rel=>
                  refine⟨_,by omega,by omega,by omega,rfl,⟨none_step HP.out fun n hn e=> ?_⟩,⟨HB.out.alloc _⟩⟩
                  obtain⟨_,_,_,h3,h4,h5⟩:=tail_of (by omega) hn e
                  exact HO.out n (by rw[h3,atoi_back n h4 h5])
            · have e1 : ((s[0].toNat : Int) != (((⟨#[110, 97, 114]⟩ : ByteArray)[2]'(by decide)).toNat : Int)) = true := by
                simp only[bne_iff_ne,ne_eq];intro h;exact hb (UInt8.toNat_inj.1 (Int.ofNat_inj.1 h))
              have HQ:=Aside0.mk hb;clear hb;go_quiet (fail)
              go_wp2
              go_roundg (gk-1)
              case measure=>omega
              case rel=>
                exact⟨_,by omega,by omega,by omega,rfl,⟨none_step HP.out fun n hn e=>by obtain⟨_,_,h2,_⟩:=tail_of (by omega) hn e;exact HQ.out h2⟩,⟨HB.out.drewN _⟩⟩
      · obtain⟨c0,c1⟩:=box2 HB.out.blk
        obtain⟨f0,f1⟩:=free2 HB.out.blk;go_wp2
        exact bodyPost_ret (v:=.tuple #[.agg #[.int .i64 0,.int .i64 0],.bool false]) (by simp[results,Tryz.results51,go_sem,c0,c1]) rfl ⟨by rw[none_all HP.out HN.out],by repeat(first|exact HB.out.below|apply below_set0)⟩
theorem l1_l0 (x:ByteArray) (s n i:Int) (k:Nat) (hx:x.size≤4) (hi:0≤i) (hk:2*((x.size:Int)-i).toNat+1≤k): ∃r,spec_l1Dec.l0 k x s n i=some r:=by
  induction k using Nat.strongRecOn generalizing n i with
  |_ k ih=>
    obtain⟨k,rfl⟩: ∃m,k=m+1:=⟨k-1,by omega⟩
    simp only[spec_l1Dec.l0]
    by_cases h:i<(x.size:Int)
    · rw[if_pos h,if_pos hi]
      obtain⟨k,rfl⟩: ∃m,k=m+1:=⟨k-1,by omega⟩
      have hw:wrap64 (i+1)=i+1:=by unfold wrap64;omega
      have go: ∀b,∃r,spec_l1Dec.j3 (k+1) x s n i b=some r:=fun b=>by
        simp only[spec_l1Dec.j3]
        cases b with
        |true=>exact⟨_,rfl⟩
        |false=>
          rw[if_neg (by simp),if_pos hi,if_pos h,hw]
          exact ih k (by omega) _ (i+1) (by omega) (by omega)
      by_cases hb:bt x i<48
      · rw[if_pos hb];exact go _
      · rw[if_neg hb];exact go _
    · rw[if_neg h];exact⟨_,rfl⟩
theorem in_f (a b c:Int):spec_l6In.f a b c=some (decide (b≤a∧a≤c)):=by
  unfold spec_l6In.f;by_cases h:b≤a<;>simp[h]
theorem l1_j1 (x:ByteArray) (s:Int) (hx:x.size≤4): ∃r,spec_l1Dec.j1 10 x s=some r:=by
  simp only[spec_l1Dec.j1]
  rw[in_f];simp only[Option.bind_some]
  cases decide (1≤(x.size:Int)∧(x.size:Int)≤2)with
  |true=>rw[if_pos rfl];exact l1_l0 x s 0 0 9 hx (by omega) (by omega)
  |false=>exact⟨_,rfl⟩
theorem l1_all (x:ByteArray) (hx:x.size≤4): ∃r,spec_l1Dec.f 11 x=some r:=by
  have go: ∀b s,(b=true→1≤x.size)→ ∃r,spec_l1Dec.j0 11 x s b=some r:=fun b s hb=>by
    simp only[spec_l1Dec.j0]
    cases b with
    |true=>
      rw[if_pos rfl,if_pos (by have:=hb rfl;omega)]
      exact l1_j1 _ _ (by rw[ByteArray.size_extract];omega)
    |false=>rw[if_neg (by simp)];exact l1_j1 _ _ hx
  unfold spec_l1Dec.f;by_cases h:(x.size:Int)>1
  · rw[if_pos h,if_pos (by omega)];exact go _ _ (fun _=>by omega)
  · rw[if_neg h];exact go _ _ (fun h=>by cases h)
theorem l1_back (n:Int) (h0: -100<n) (h1:n<100):spec_l1Dec.f 11 ⟨(itoaS n).toArray⟩=some (n,true):=by
  have h: ∀i∈List.range 199,spec_l1Dec.f 11 ⟨(itoaS ((i:Int)-99)).toArray⟩=some ((i:Int)-99,true):=by decide+kernel
  have:=h (n+99).toNat (by simp;omega)
  rwa [show(((n+99).toNat:Nat):Int)-99=n by omega]at this
theorem leO_up {k n:Int} {r:ByteArray} (h:spec_ValText.f 5 k n=some r): ∀m,spec_ValText.f (5+m) k n=some r
  |0=>h
  |m+1=>spec_ValText.mono _ _ _ _ (leO_up h m)
theorem ofList (b:ByteArray) {l:List UInt8} (h:b.data.toList=l):b=⟨l.toArray⟩:=by
  cases b with|mk d=>subst h;simp
theorem specRead_f (s:ByteArray):spec_ValRead.f 12 s=some (readV s):=by
  unfold spec_ValRead.f;by_cases h:s.toList=[110,111,110,101]
  · rw[if_pos h]
    have:s=⟨#[110,111,110,101]⟩:=ofList s (by rw[←toListD];exact h)
    subst this;rw[show readV ⟨#[110,111,110,101]⟩=(0,0,true)from readV_text 0 0 (.inl ⟨rfl,rfl⟩)]
  · rw[if_neg h,in_f]
    have hn:s≠⟨#[110,111,110,101]⟩:=fun e=>h (by rw[e,toListD])
    simp only[Option.bind_some]
    by_cases hz:2≤(s.size:Int)∧(s.size:Int)≤4
    · rw[decide_eq_true hz,if_pos rfl,if_pos (by omega)]
      obtain⟨⟨n,ok⟩,hl⟩:=l1_all (s.extract 1 s.size) (by rw[ByteArray.size_extract];omega)
      have hl':spec_l1Dec.f 12 (s.extract 1 s.size)=some (n,ok):=spec_l1Dec.mono _ _ _ hl;rw[hl'];simp only[Option.bind_some]
      rw[if_pos (by omega)]
      have h0:0<s.size:=by omega
      have hb:bt s 0=(s[0].toNat:Int):=by unfold bt;rw[dif_pos (by simpa using h0)];rfl
      rw[hb]
      have tl: ∀k' n',1≤k'→okP k' n'→vtext k' n'=s→s[0]=letterB k'∧n=n'∧ok=true:=fun k' n' h1 h2 h3=>by
        obtain⟨_,_,a,b,c,d⟩:=tail_of h1 h2 h3;have:=ofList _ b;rw[this,l1_back n' c d]at hl
        injection hl with hl
        injection hl with e1 e2
        exact⟨a,e1.symm,e2.symm⟩
      have none0: ∀ {k' n':Int},okP k' n'→vtext k' n'=s→1≤k':=fun {k' n'} hk e=>by
        by_cases h0:k'=0
        · subst h0
          have:n'=0:=by unfold okP at hk;omega
          subst this;exact absurd e.symm hn
        · unfold okP at hk;omega
      have fin: ∀K:Int,1≤K→(∀k',1≤k'→okP k' n→s[0]=letterB k'→k'=K)→spec_ValRead.j0 12 s ok K n=some (readV s):=fun K hK hu=>by
        simp only[spec_ValRead.j0]
        cases ok with
        |false=>
          rw[if_neg (by simp)]
          simp only[spec_ValRead.j1]
          rw[if_pos trivial,readV_no];intro k' n' hk e;have:=(tl k' n' (none0 hk e) hk e).2.2;cases this
        |true=>
          rw[if_pos rfl,if_neg (by omega)]
          have e5:spec_ValText.f 11 K n=some (vtext K n):=leO_up (specText_f K n) 6;rw[e5];simp only[Option.bind_some,spec_ValRead.j1]
          by_cases hv:vtext K n=s
          · rw[if_neg (by simp[hv]),readV_of hv h0]
          · rw [if_pos (by
              simp only[bne_iff_ne,ne_eq];intro h;rw[toListD,toListD]at h;exact hv (Go.WideShapes.bytes_inj h)),readV_no]
            intro k' n' hk e;obtain⟨a,b,_⟩:=tl k' n' (none0 hk e) hk e;subst b;exact hv (by rw[←hu k' (none0 hk e) hk a];exact e)
      have c110: ∀c:UInt8,((s[0].toNat:Int)=(c.toNat:Int)) ↔ s[0]=c:=fun c=>⟨fun h=>UInt8.toNat_inj.1 (Int.ofNat_inj.1 h),fun h=>by rw[h]⟩
      have r1:((s[0].toNat:Int)=110) ↔ s[0]=110:=c110 110;have r2:((s[0].toNat:Int)=97) ↔ s[0]=97:=c110 97;have r3:((s[0].toNat:Int)=114) ↔ s[0]=114:=c110 114;by_cases q1:s[0]=110
      · rw[if_pos (r1.2 q1)]
        exact fin 1 (by omega) fun k' h1 h2 h3=>by
          have:k'=1∨k'=2∨k'=3:=by unfold okP at h2;omega
          rcases this with rfl|rfl|rfl
          · rfl
          · rw[q1]at h3;exact absurd h3 (by decide)
          · rw[q1]at h3;exact absurd h3 (by decide)
      rw[if_neg (fun h=>q1 (r1.1 h))]
      by_cases q2:s[0]=97
      · rw[if_pos (r2.2 q2)]
        exact fin 2 (by omega) fun k' h1 h2 h3=>by
          have:k'=1∨k'=2∨k'=3:=by unfold okP at h2;omega
          rcases this with rfl|rfl|rfl
          · rw[q2]at h3;exact absurd h3 (by decide)
          · rfl
          · rw[q2]at h3;exact absurd h3 (by decide)
      rw[if_neg (fun h=>q2 (r2.1 h))]
      by_cases q3:s[0]=114
      · rw[if_pos (r3.2 q3)]
        exact fin 3 (by omega) fun k' h1 h2 h3=>by
          have:k'=1∨k'=2∨k'=3:=by unfold okP at h2;omega
          rcases this with rfl|rfl|rfl
          · rw[q3]at h3;exact absurd h3 (by decide)
          · rw[q3]at h3;exact absurd h3 (by decide)
          · rfl
      rw[if_neg (fun h=>q3 (r3.1 h))]
      rw[readV_no (fun k' n' hk e=>by
        obtain⟨a,b,_⟩:=tl k' n' (none0 hk e) hk e;have:k'=1∨k'=2∨k'=3:=by have:=none0 hk e;unfold okP at hk;omega
        rcases this with rfl|rfl|rfl
        · exact q1 a
        · exact q2 a
        · exact q3 a)]
      simp only[spec_ValRead.j0,spec_ValRead.j1]
      cases ok<;>simp
    · rw[decide_eq_false hz,if_neg (by simp)]
      rw[readV_no];intro k n hk e;have:=vtext_size k n hk;rw[e]at this
      have e2:s.data.toList.length=s.size:=by rw[Array.length_toList];rfl
      omega
def TabErrs (w:World):Prop:=Tab w∧Errs w
theorem l6_ok8 (n:Int) (h0: -100<n) (h1:n<100):spec_l6Dec.f 8 n=some (decB n):=by
  have h: ∀i∈List.range 199,spec_l6Dec.f 8 ((i:Int)-99)=some (decB ((i:Int)-99)):=by decide+kernel
  have:=h (n+99).toNat (by simp;omega)
  rwa [show(((n+99).toNat:Nat):Int)-99=n by omega]at this
theorem l6_up (n:Int) (h0: -100<n) (h1:n<100):spec_l6Dec.f 5 n=spec_l6Dec.f 8 n:=by
  rw[l6_ok8 n h0 h1,l6_ok n h0 h1];rfl
theorem specText_f8 (k n:Int):spec_ValText.f 8 k n=some (vtext k n):=by
  rw[←specText_f k n];unfold spec_ValText.f;rw[specOk_f];by_cases h:okB k n=true
  · have hp:=okB_true.1 h
    by_cases h0:k=0
    · subst h0;rfl
    · rw[l6_up n (by unfold okP at hp;omega) (by unfold okP at hp;omega)]
  · simp only[Bool.not_eq_true]at h
    rw[h];simp
theorem addN_f (b:Bool) (out:ByteArray) (n:Int) (h0: -100<n) (h1:n<100):addN b out n=some (addS b out (decB n)):=by
  unfold addN addS;cases b with
  |false=>simp
  |true=>rw[if_pos rfl,if_pos rfl,l6_ok8 n h0 h1,Option.bind_some,if_pos (by have:=dec_size n;omega)]
theorem addV_f (b:Bool) (out:ByteArray) (k n:Int):addV b out k n=some (addS b out (vtext k n)):=by
  unfold addV addS;cases b with
  |false=>simp
  |true=>rw[if_pos rfl,if_pos rfl,specText_f8 k n,Option.bind_some,if_pos (by have:=vtext_le4 k n;omega)]
theorem otext_f (k r s t vk vn:Int):otextV.f k r s t vk vn=some (opText k r s t vk vn):=by
  unfold otextV.f opText;by_cases h:opB k r s t vk vn=true
  · have hp:=opB_true.1 h
    have hr: -100<r∧r<100∧ -100<s∧s<100∧ -100<t∧t<100:=by
      obtain⟨_,_,a,b,c,_⟩:=hp;omega
    rw[if_pos h,if_pos h,addN_f _ _ _ (by omega) (by omega),Option.bind_some,addN_f _ _ _ (by omega) (by omega),Option.bind_some,addN_f _ _ _ (by omega) (by omega),Option.bind_some,addV_f]
    rfl
  · rw[if_neg h,if_neg h]
theorem strOf1 (c:UInt8):strOfNums [(c.toNat:Int)]=byL [c]:=by
  have h: ∀c:Fin 256,strOfNums [((UInt8.ofNat c.val).toNat:Int)]=byL [UInt8.ofNat c.val]:=by decide+kernel
  have:=h ⟨c.toNat,c.toNat_lt⟩;simpa using this
def cutsL:List UInt8→List UInt8→List (List UInt8)
  |cur,[]=> [cur]
  |cur,c::l=>if c=32 then cur::cutsL [] l else cutsL (cur++ [c]) l
theorem cuts_pieces: ∀ (l cur:List UInt8),32∉cur→piecesB (byL (cur++l))=(cutsL cur l).map byL
  | [],cur,h=>by rw[List.append_nil];exact pieces_last cur h
  |c::l,cur,h=>by
    unfold cutsL;split
    · rename_i e
      subst e;rw[pieces_cons cur l h,List.map_cons];have:=cuts_pieces l [] (by simp)
      rw[List.nil_append]at this
      rw[this]
    · rename_i e
      have:=cuts_pieces l (cur++ [c]) (by simp only[List.mem_append,List.mem_singleton,not_or];exact⟨h,fun e'=>e e'.symm⟩)
      rwa [List.append_assoc]at this
theorem cut_rest (s:ByteArray): ∀ (n i:Nat) (pre:List ByteArray) (cur:List UInt8),i+n=s.size→(List.range' i n).foldl (cutStep s 32) (pre++ [byL cur])=pre++(cutsL cur (s.data.toList.drop i)).map byL
  |0,i,pre,cur,h=>by
    have:s.data.toList.drop i=[]:=List.drop_eq_nil_of_le (by rw[Array.length_toList];show s.size≤i;omega)
    rw[this];rfl
  |n+1,i,pre,cur,h=>by
    have hi:i<s.size:=by omega
    have hd:s.data.toList.drop i=s[i]::s.data.toList.drop (i+1):=by
      have hl:i<s.data.toList.length:=by rw[Array.length_toList];exact hi
      rw[List.drop_eq_getElem_cons hl];rfl
    have hb:bt s (i:Int)=(s[i].toNat:Int):=by unfold bt;rw[dif_pos (by simpa using hi)];rfl
    rw[List.range'_succ,List.foldl_cons,hd];unfold cutsL;by_cases hc:s[i]=32
    · rw[if_pos hc]
      have:cutStep s 32 (pre++ [byL cur]) i=(pre++ [byL cur])++ [byL []]:=by
        unfold cutStep;rw[if_pos (by rw[hb,hc];rfl)]
        rfl
      rw[this,cut_rest s n (i+1) (pre++ [byL cur]) [] (by omega),List.map_cons,List.append_assoc]
      rfl
    · rw[if_neg hc]
      have:cutStep s 32 (pre++ [byL cur]) i=pre++ [byL (cur++ [s[i]])]:=by
        unfold cutStep;rw[if_neg (by rw[hb];intro e;exact hc (UInt8.toNat_inj.1 (Int.ofNat_inj.1 e))),hb,strOf1]
        have e1:(pre++ [byL cur]).length-1=pre.length:=by simp
        have e2:rdOf ByteArray.empty (pre++ [byL cur]) (((pre++ [byL cur]).length:Int)-1)=byL cur:=by
          unfold rdOf;rw[show(((pre++ [byL cur]).length:Int)-1).toNat=pre.length by simp]
          simp
        rw[e1,e2]
        have e3:byL cur++byL [s[i]]=byL (cur++ [s[i]]):=by
          refine Go.WideShapes.bytes_inj ?_
          simp[byL]
        rw[e3];simp
      rw[this,cut_rest s n (i+1) pre (cur++ [s[i]]) (by omega)]
theorem cut_pieces (x:ByteArray):cutTo x 32 x.size=piecesB x:=by
  have h:=cut_rest x x.size 0 [] [] (by omega)
  have h2:=cuts_pieces x.data.toList [] (by simp)
  rw[List.nil_append,byL_data]at h2
  rw[List.nil_append,List.nil_append,List.drop_zero,←h2]at h
  rw[←h];unfold cutTo;rw[List.range_eq_range'];rfl
theorem l1_any (x:ByteArray): ∃r,spec_l1Dec.f 11 x=some r:=by
  have j1: ∀ (x:ByteArray) (s:Int),∃r,spec_l1Dec.j1 10 x s=some r:=fun x s=>by
    simp only[spec_l1Dec.j1]
    rw[in_f];simp only[Option.bind_some]
    by_cases h:1≤(x.size:Int)∧(x.size:Int)≤2
    · rw[decide_eq_true h,if_pos rfl];exact l1_l0 x s 0 0 9 (by omega) (by omega) (by omega)
    · rw[decide_eq_false h];exact⟨_,rfl⟩
  have go: ∀b s,(b=true→1≤x.size)→ ∃r,spec_l1Dec.j0 11 x s b=some r:=fun b s hb=>by
    simp only[spec_l1Dec.j0]
    cases b with
    |true=>
      rw[if_pos rfl,if_pos (by have:=hb rfl;omega)]
      exact j1 _ _
    |false=>rw[if_neg (by simp)];exact j1 _ _
  unfold spec_l1Dec.f;by_cases h:(x.size:Int)>1
  · rw[if_pos h,if_pos (by omega)];exact go _ _ (fun _=>by omega)
  · rw[if_neg h];exact go _ _ (fun h=>by cases h)
theorem l1_up {x:ByteArray} {r:Int×Bool} (h:spec_l1Dec.f 11 x=some r): ∀m,spec_l1Dec.f (11+m) x=some r
  |0=>h
  |m+1=>spec_l1Dec.mono _ _ _ (l1_up h m)
theorem read_up (x:ByteArray): ∀m,spec_ValRead.f (12+m) x=some (readV x)
  |0=>specRead_f x
  |m+1=>spec_ValRead.mono _ _ _ (read_up x m)
theorem form_up (k:Int): ∀m,spec_l2Form.f (3+m) k=some (formL k)
  |0=>form_eq k
  |m+1=>spec_l2Form.mono _ _ _ (form_up k m)
def KindIs (x:ByteArray) (i k:Int):Prop:=(k=0∨(1≤k∧k<i))∧ ∀k0:Int,1≤k0→k0<i→nameB k0=word x 0→k=k0
theorem name_inj {a b:Int} (ha:1≤a∧a≤14) (hb:1≤b∧b≤14) (h:nameB a=nameB b):a=b:=by
  have h1:=(name_facts a ha).2;have h2:=(name_facts b hb).2;unfold nameS at h1 h2;rw[←h1,←h2,h]
theorem inv_kind {x:ByteArray} {k:Int} (h:KindIs x 15 k):Inv x 0 k 0 0 0 0 0:=by
  intro k0 r0 s0 t0 a0 b0 h1 h2;have hp:=opB_true.1 h1;refine⟨h.2 k0 hp.1.1 (by have:=hp.1.2;omega) ?_,by simp,by simp,by simp,by simp,by simp⟩
  have e:=pieces_text h1;rw[h2]at e
  unfold word;rw[e];rfl
theorem loop_names (x:ByteArray) (hp:1≤(piecesB x).length): ∀ (m:Nat) (i K:Int),i=15- (m:Int)→1≤i→KindIs x i K→ ∃K',KindIs x 15 K'∧ ∀j,PT.spec_OpRead.l0 (j+m+1) x (piecesB x) namesL i K 0 0 0 0 0=(spec_l2Form.f j K').bind fun t=>PT.spec_OpRead.l1 j x (piecesB x) t 1 0 K' 0 0 0 0 0
  |0,i,K,hi,h1,hK=>by
    obtain rfl:i=15:=by omega
    refine⟨K,hK,fun j=> ?_⟩
    simp only[PT.spec_OpRead.l0]
    rw[if_neg (by show¬(15:Int)<((15:Nat):Int);omega)]
  |m+1,i,K,hi,h1,hK=>by
    have hw:wrap64 (i+1)=i+1:=by unfold wrap64;omega
    have key: ∀K1:Int,(∀j,PT.spec_OpRead.l0 (j+(m+1)+1) x (piecesB x) namesL i K 0 0 0 0 0=PT.spec_OpRead.l0 (j+m+1) x (piecesB x) namesL (i+1) K1 0 0 0 0 0)→KindIs x (i+1) K1→ ∃K',KindIs x 15 K'∧ ∀j,PT.spec_OpRead.l0 (j+(m+1)+1) x (piecesB x) namesL i K 0 0 0 0 0=(spec_l2Form.f j K').bind fun t=>PT.spec_OpRead.l1 j x (piecesB x) t 1 0 K' 0 0 0 0 0:=fun K1 he hK1=>by
      obtain⟨K',h2,h3⟩:=loop_names x hp m (i+1) K1 (by omega) (by omega) hK1
      exact⟨K',h2,fun j=>by rw[he,h3]⟩
    have hlt:i<(namesL.length:Int):=by show i<((15:Nat):Int);omega
    by_cases hc:nameB i=word x 0
    · refine key i (fun j=> ?_) ⟨.inr ⟨h1,by omega⟩,fun k0 a b c=>name_inj ⟨h1,by omega⟩ ⟨a,by omega⟩ (hc.trans c.symm)⟩
      rw[show j+(m+1)+1=(j+m+1)+1 by omega]
      simp only[PT.spec_OpRead.l0]
      rw[if_pos hlt,if_pos (by omega),if_pos (by omega),if_pos (by
        show(nameB i).toList=_
        rw[hc];rfl),hw]
    · refine key K (fun j=> ?_) ⟨?_,fun k0 a b c=> ?_⟩
      · rw[show j+(m+1)+1=(j+m+1)+1 by omega]
        simp only[PT.spec_OpRead.l0]
        rw[if_pos hlt,if_pos (by omega),if_pos (by omega),if_neg (by
          intro e;rw[toListD,toListD]at e
          exact hc (Go.WideShapes.bytes_inj e)),hw]
      · rcases hK.1 with h|h
        · exact .inl h
        · exact .inr ⟨h.1,by omega⟩
      · by_cases hk:k0=i
        · subst hk;exact absurd c hc
        · exact hK.2 k0 a (by omega) c
def endV (x:ByteArray) (k r s t vk vn:Int):Int×Int×Int×Int×Int×Int×Bool:=if opText k r s t vk vn=x∧opB k r s t vk vn=true then(k,r,s,t,vk,vn,true)else(0,0,0,0,0,0,false)
theorem loop_end (x:ByteArray) (P:List ByteArray) (fs:List Bool) (a i:Int) (k r s t vk vn:Int) (hi: ¬i<(fs.length:Int)) (m:Nat):PT.spec_OpRead.l1 (m+2) x P fs a i k r s t vk vn=some (endV x k r s t vk vn):=by
  simp only[PT.spec_OpRead.l1]
  rw[if_neg hi];unfold endV;by_cases h0:x.toList=[]
  · rw[if_pos h0]
    simp only[PT.spec_OpRead.j2]
    rw[if_pos trivial,if_neg];rintro⟨h1,h2⟩
    rw[←h1]at h0
    exact(opText_ne h2).1 h0
  · rw[if_neg h0,otext_f]
    simp only[Option.bind_some,PT.spec_OpRead.j2]
    by_cases hv:opText k r s t vk vn=x
    · have hb : opB k r s t vk vn = true := by
        cases hb:opB k r s t vk vn with
        |true=>rfl
        |false=>rw[opText_no hb]at hv;exact absurd (by rw[←hv,toListD]) h0
      rw[if_neg (by simp[hv]),if_pos ⟨hv,hb⟩]
    · rw [if_pos (by
        simp only[bne_iff_ne,ne_eq];intro h;rw[toListD,toListD]at h;exact hv (Go.WideShapes.bytes_inj h)),if_neg (fun h=>hv h.1)]
def num (x:ByteArray) (n:Nat):Int:=((spec_l1Dec.f 11 (word x (n+1))).getD (0,false)).1
theorem num_back {x:ByteArray} {n:Nat} {z:Int} (h0: -100<z) (h1:z<100) (h:word x (n+1)=decB z):num x n=z:=by
  unfold num;rw[h];rw[show spec_l1Dec.f 11 (decB z)=some (z,true)from l1_back z h0 h1]
  rfl
theorem loop_skip {x:ByteArray} {K:Int} {n:Nat} {i r s t vk vn:Int} (hf:rdOf false (formL K) i=false) (h0:0≤i) (h4:i<4) (hK:1≤K∧K≤14) (m:Nat):
    PT.spec_OpRead.l1 (m+1) x (piecesB x) (formL K) ((n:Int)+1) i K r s t vk vn=PT.spec_OpRead.l1 m x (piecesB x) (formL K) ((n:Int)+1) (i+1) K r s t vk vn:=by
  have hw:wrap64 (i+1)=i+1:=by unfold wrap64;omega
  have hl:i<((formL K).length:Int):=by unfold formL;rw[if_pos hK];show i<((4:Nat):Int);omega
  simp only[PT.spec_OpRead.l1]
  rw[if_pos hl,if_pos h0,if_neg (by rw[hf];simp),hw]
theorem loop_short {x:ByteArray} {K:Int} {n:Nat} {i r s t vk vn:Int} (hf:rdOf false (formL K) i=true) (h0:0≤i) (h4:i<4) (hK:1≤K∧K≤14) (hs:(piecesB x).length≤n+1) (m:Nat):
    PT.spec_OpRead.l1 (m+1) x (piecesB x) (formL K) ((n:Int)+1) i K r s t vk vn=some (0,0,0,0,0,0,false):=by
  have hl:i<((formL K).length:Int):=by unfold formL;rw[if_pos hK];show i<((4:Nat):Int);omega
  simp only[PT.spec_OpRead.l1]
  rw[if_pos hl,if_pos h0,if_pos hf,if_pos (by omega)]
theorem loop_take {x:ByteArray} {K:Int} {n:Nat} {i r s t vk vn:Int} (hx:(piecesB x).length≤1000) (hf:rdOf false (formL K) i=true) (h0:0≤i) (h4:i<4) (hK:1≤K∧K≤14) (hs: ¬(piecesB x).length≤n+1) (m:Nat):
    PT.spec_OpRead.l1 (m+13) x (piecesB x) (formL K) ((n:Int)+1) i K r s t vk vn=PT.spec_OpRead.l1 (m+12) x (piecesB x) (formL K) (((n+1:Nat):Int)+1) (i+1) K (if i=0 then num x n else r) (if i=1 then num x n else s) (if i=2 then num x n else t) (if i=3 then(readV (word x (n+1))).1 else vk) (if i=3 then(readV (word x (n+1))).2.1 else vn):=by
  have hw:wrap64 (i+1)=i+1:=by unfold wrap64;omega
  have hw2:wrap64 ((n:Int)+1+1)=((n+1:Nat):Int)+1:=by unfold wrap64;omega
  have hl:i<((formL K).length:Int):=by unfold formL;rw[if_pos hK];show i<((4:Nat):Int);omega
  obtain⟨⟨q,ok⟩,hq⟩:=l1_any (word x (n+1))
  have hq1:spec_l1Dec.f (m+12) (word x (n+1))=some (q,ok):=by
    have:=l1_up hq (m+1);rwa [show 11+(m+1)=m+12 by omega]at this
  have hv1:spec_ValRead.f (m+12) (word x (n+1))=some (readV (word x (n+1))):=by
    have:=read_up (word x (n+1)) m;rwa [Nat.add_comm]at this
  have hn:num x n=q:=by unfold num;rw[hq];rfl
  have hr:rdOf ByteArray.empty (piecesB x) ((n:Int)+1)=word x (n+1):=by
    unfold rdOf;rw[show((n:Int)+1).toNat=n+1 by omega]
    rfl
  obtain⟨M,hM⟩: ∃M,M=m+12:=⟨_,rfl⟩;rw[show m+13=(m+12)+1 by omega]
  rw[←hM]at hq1 hv1⊢
  clear hM;simp only[PT.spec_OpRead.l1]
  rw[if_pos hl,if_pos h0,if_pos hf,if_neg (by omega),if_pos (by omega),if_pos (by omega),hr,hq1]
  simp only[Option.bind_some]
  rw[hv1];simp only[Option.bind_some]
  rw[hn,hw,hw2];have h:i=0∨i=1∨i=2∨i=3:=by omega
  rcases h with rfl|rfl|rfl|rfl<;>simp
theorem letter_at {K:Int} (hK:1≤K∧K≤14) {n:Nat} {c:UInt8} {l:List UInt8} (h:(formC K).drop n=c::l): ∃hn:n<(howR K).f1.size,(howR K).f1[n]=c∧(formC K).drop (n+1)=l:=by
  have e:=form_how K;rw[if_pos hK]at e
  have hn:n<(formC K).length:=by
    rcases Nat.lt_or_ge n (formC K).length with h'|h'
    · exact h'
    · rw[List.drop_eq_nil_of_le h']at h;cases h
  have hn':n<(howR K).f1.size:=by
    have:(howR K).f1.data.toList.length=(howR K).f1.size:=by rw[Array.length_toList];rfl
    rw[e]at this;omega
  rw[List.drop_eq_getElem_cons hn]at h
  injection h with h1 h2
  refine⟨hn',?_,h2⟩
  obtain⟨q,hq⟩:=form_at (F:=(howR K).f1) rfl hn' hK;rw[←hq];exact h1
theorem no_letter {K:Int} (hK:1≤K∧K≤14) {n:Nat} (h:(formC K).drop n=[]): ¬n<(howR K).f1.size:=by
  intro hn;obtain⟨q,hq⟩:=form_at (F:=(howR K).f1) rfl hn hK;rw[List.drop_eq_getElem_cons q]at h
  cases h
theorem inv_numS {x:ByteArray} {n:Nat} {k r s t vk vn:Int} (h:Inv x n k r s t vk vn) {c:UInt8} {l:List UInt8} (hK:1≤k∧k≤14) (hc:(formC k).drop n=c::l):
    (c=82→Inv x (n+1) k (num x n) s t vk vn)∧(c=83→Inv x (n+1) k r (num x n) t vk vn)∧(c=84→Inv x (n+1) k r s (num x n) vk vn):=by
  obtain⟨hn,hF, -⟩:=letter_at hK hc;refine⟨fun hc=> ?_,fun hc=> ?_,fun hc=> ?_⟩
  all_goals
    intro k0 r0 s0 t0 a0 b0 h1 h2;obtain⟨rfl,er,es,et,ea,eb⟩:=h _ _ _ _ _ _ h1 h2;have hp:=opB_true.1 h1;obtain⟨hl,hl2⟩:=form_at (F:=(howR k).f1) rfl hn hp.1;obtain⟨-,hw⟩:=word_at h1 h2 hl;rw[hF]at hl2
    rw[hl2,hc]at hw
    rw[hc]at hl2
    have hz: -100<r0∧r0<100∧ -100<s0∧s0<100∧ -100<t0∧t0<100:=by
      obtain⟨_,_,a,b,c,_⟩:=hp;omega
    simp only[take_mem hl,hl2]
    refine⟨by trivial,?_,?_,?_,?_,?_⟩
  · simp only[or_true,if_true]
    exact num_back hz.1 hz.2.1 hw
  · simpa using es
  · simpa using et
  · simpa using ea
  · simpa using eb
  · simpa using er
  · simp only[or_true,if_true]
    exact num_back hz.2.2.1 hz.2.2.2.1 hw
  · simpa using et
  · simpa using ea
  · simpa using eb
  · simpa using er
  · simpa using es
  · simp only[or_true,if_true]
    exact num_back hz.2.2.2.2.1 hz.2.2.2.2.2 hw
  · simpa using ea
  · simpa using eb
def Told (x:ByteArray) (o:Option (Int×Int×Int×Int×Int×Int×Bool)):Prop:= ∃k r s t vk vn ok,o=some (k,r,s,t,vk,vn,ok)∧Reads x k r s t vk vn ok
theorem told_end {x:ByteArray} {P:List ByteArray} {fs:List Bool} {a i k r s t vk vn:Int} (hi: ¬i<(fs.length:Int)) {n:Nat} (h:Inv x n k r s t vk vn) (hn: ¬n<(howR k).f1.size) (m:Nat):Told x (PT.spec_OpRead.l1 (m+2) x P fs a i k r s t vk vn):=by
  rw[loop_end x P fs a i k r s t vk vn hi];unfold endV;split
  · rename_i hc
    exact⟨_,_,_,_,_,_,_,rfl,reads_yes (F:=⟨#[]⟩) (n:=0) hc.2 hc.1⟩
  · rename_i hc
    exact⟨_,_,_,_,_,_,_,rfl,reads_no h rfl hn (fun q=>hc ⟨q.2,q.1⟩)⟩
theorem sg_drop {K:Int} {n:Nat} {b:Bool} {c:UInt8} {l:List UInt8} (h:(formC K).drop n=sg b c++l):(b=false∧(formC K).drop n=l)∨(b=true∧(formC K).drop n=c::l):=by
  cases b with
  |false=>exact .inl ⟨rfl,by simpa[sg]using h⟩
  |true=>exact .inr ⟨rfl,by simpa[sg]using h⟩
theorem field_of {K:Int} (hK:1≤K∧K≤14):rdOf false (formL K) 0=hasR K∧rdOf false (formL K) 1=hasS K∧rdOf false (formL K) 2=hasT K∧rdOf false (formL K) 3=hasV K∧(formL K).length=4:=by
  unfold formL;rw[if_pos hK];exact⟨rfl,rfl,rfl,rfl,rfl⟩
theorem told_short {x:ByteArray} {K:Int} {n:Nat} {i r s t vk vn:Int} {c:UInt8} {l:List UInt8} (h:Inv x n K r s t vk vn) (hf:rdOf false (formL K) i=true) (h0:0≤i) (h4:i<4) (hK:1≤K∧K≤14) (hc:(formC K).drop n=c::l) (hs:(piecesB x).length≤n+1) (m:Nat):
    Told x (PT.spec_OpRead.l1 (m+1) x (piecesB x) (formL K) ((n:Int)+1) i K r s t vk vn):=by
  rw[loop_short hf h0 h4 hK hs];obtain⟨hn, -, -⟩:=letter_at hK hc;exact⟨_,_,_,_,_,_,_,rfl,inv_short h rfl hn hs⟩
theorem told4 {x:ByteArray} {K:Int} (hK:1≤K∧K≤14) {n:Nat} {r s t vk vn:Int} (h:Inv x n K r s t vk vn) (hd:(formC K).drop n=[]) (m:Nat):Told x (PT.spec_OpRead.l1 (m+2) x (piecesB x) (formL K) ((n:Int)+1) 4 K r s t vk vn):=
  told_end (by rw[(field_of hK).2.2.2.2];omega) h (no_letter hK hd) m
theorem told3 {x:ByteArray} (hx:(piecesB x).length≤1000) {K:Int} (hK:1≤K∧K≤14) {n:Nat} {r s t vk vn:Int} (h:Inv x n K r s t vk vn) (hd:(formC K).drop n=sg (hasV K) 86) (m:Nat):Told x (PT.spec_OpRead.l1 (m+13) x (piecesB x) (formL K) ((n:Int)+1) 3 K r s t vk vn):=by
  have hf:=(field_of hK).2.2.2.1;rcases sg_drop (l:=[]) (by rw[List.append_nil];exact hd)with ⟨hb,hd⟩|⟨hb,hd⟩
  · rw[loop_skip (m:=m+12) (by rw[hf];exact hb) (by omega) (by omega) hK]
    exact told4 hK h hd (m+10)
  · by_cases hs:(piecesB x).length≤n+1
    · exact told_short h (by rw[hf];exact hb) (by omega) (by omega) hK hd hs (m+12)
    · rw[loop_take hx (by rw[hf];exact hb) (by omega) (by omega) hK hs]
      obtain⟨hn,hF,hd1⟩:=letter_at hK hd;exact told4 hK (inv_val (ok:=(readV (word x (n+1))).2.2) h rfl hn rfl hF) hd1 (m+10)
theorem told2 {x:ByteArray} (hx:(piecesB x).length≤1000) {K:Int} (hK:1≤K∧K≤14) {n:Nat} {r s t vk vn:Int} (h:Inv x n K r s t vk vn) (hd:(formC K).drop n=sg (hasT K) 84++sg (hasV K) 86) (m:Nat):Told x (PT.spec_OpRead.l1 (m+14) x (piecesB x) (formL K) ((n:Int)+1) 2 K r s t vk vn):=by
  have hf:=(field_of hK).2.2.1;rcases sg_drop hd with ⟨hb,hd⟩|⟨hb,hd⟩
  · rw[loop_skip (m:=m+13) (by rw[hf];exact hb) (by omega) (by omega) hK]
    exact told3 hx hK h hd m
  · by_cases hs:(piecesB x).length≤n+1
    · exact told_short h (by rw[hf];exact hb) (by omega) (by omega) hK hd hs (m+13)
    · rw[loop_take (m:=m+1) hx (by rw[hf];exact hb) (by omega) (by omega) hK hs]
      obtain⟨hn,hF,hd1⟩:=letter_at hK hd;exact told3 hx hK ((inv_numS h hK hd).2.2 rfl) hd1 m
theorem told1 {x:ByteArray} (hx:(piecesB x).length≤1000) {K:Int} (hK:1≤K∧K≤14) {n:Nat} {r s t vk vn:Int} (h:Inv x n K r s t vk vn) (hd:(formC K).drop n=sg (hasS K) 83++(sg (hasT K) 84++sg (hasV K) 86)) (m:Nat):Told x (PT.spec_OpRead.l1 (m+15) x (piecesB x) (formL K) ((n:Int)+1) 1 K r s t vk vn):=by
  have hf:=(field_of hK).2.1;rcases sg_drop hd with ⟨hb,hd⟩|⟨hb,hd⟩
  · rw[loop_skip (m:=m+14) (by rw[hf];exact hb) (by omega) (by omega) hK]
    exact told2 hx hK h hd m
  · by_cases hs:(piecesB x).length≤n+1
    · exact told_short h (by rw[hf];exact hb) (by omega) (by omega) hK hd hs (m+14)
    · rw[loop_take (m:=m+2) hx (by rw[hf];exact hb) (by omega) (by omega) hK hs]
      obtain⟨hn,hF,hd1⟩:=letter_at hK hd;exact told2 hx hK ((inv_numS h hK hd).2.1 rfl) hd1 m
theorem told0 {x:ByteArray} (hx:(piecesB x).length≤1000) {K:Int} (hK:1≤K∧K≤14) {r s t vk vn:Int} (h:Inv x 0 K r s t vk vn) (m:Nat):Told x (PT.spec_OpRead.l1 (m+16) x (piecesB x) (formL K) 1 0 K r s t vk vn):=by
  have hf:=(field_of hK).1;have hd:(formC K).drop 0=sg (hasR K) 82++(sg (hasS K) 83++(sg (hasT K) 84++sg (hasV K) 86)):=rfl;rcases sg_drop hd with ⟨hb,hd⟩|⟨hb,hd⟩
  · have:=loop_skip (x:=x) (n:=0) (r:=r) (s:=s) (t:=t) (vk:=vk) (vn:=vn) (m:=m+15) (i:=0) (by rw[hf];exact hb) (by omega) (by omega) hK
    have e:PT.spec_OpRead.l1 (m+16) x (piecesB x) (formL K) 1 0 K r s t vk vn=PT.spec_OpRead.l1 (m+15) x (piecesB x) (formL K) (((0:Nat):Int)+1) 1 K r s t vk vn:=this;rw[e];exact told1 hx hK h hd m
  · by_cases hs:(piecesB x).length≤0+1
    · exact told_short (n:=0) (i:=0) h (by rw[hf];exact hb) (by omega) (by omega) hK hd hs (m+15)
    · have:=loop_take (n:=0) (r:=r) (s:=s) (t:=t) (vk:=vk) (vn:=vn) (m:=m+3) (i:=0) hx (by rw[hf];exact hb) (by omega) (by omega) hK hs
      obtain⟨hn,hF,hd1⟩:=letter_at hK hd;have h2:=told1 hx hK ((inv_numS h hK hd).1 rfl) hd1 m;have e:PT.spec_OpRead.l1 (m+16) x (piecesB x) (formL K) 1 0 K r s t vk vn=_:=this;rw[e];exact h2
theorem pieces_len (x:ByteArray) (hx:x.size≤24):1≤(piecesB x).length∧(piecesB x).length≤1000:=by
  rw[←cut_pieces];have:=cut_len x 32 x.size;omega
theorem specRead_told (x:ByteArray):Told x (PT.spec_OpRead.f 40 x):=by
  unfold PT.spec_OpRead.f;by_cases h:(x.size:Int)>24
  · rw[if_pos h]
    refine⟨_,_,_,_,_,_,_,rfl,.inr ⟨rfl,⟨rfl,rfl,rfl,rfl,rfl,rfl⟩,fun a b c d f g _ e=> ?_⟩⟩
    have:=opText_le (k:=a) (r:=b) (s:=c) (t:=d) (vk:=f) (vn:=g);rw[e]at this;omega
  · rw[if_neg h]
    obtain⟨h1,h2⟩:=pieces_len x (by omega)
    have e1:cutV.f x 32=some (piecesB x):=by unfold cutV.f;rw[if_pos (by omega),cut_pieces]
    rw[e1];simp only[Option.bind_some]
    rw[show spec_l2Names.f=some namesL from rfl]
    simp only[Option.bind_some]
    obtain⟨K,hK,hl⟩:=loop_names x h1 14 1 0 (by omega) (by omega) ⟨.inl rfl,fun k0 a b=>by omega⟩
    have:=hl 25;rw[show(40:Nat)=25+14+1 from rfl,this]
    have e2:spec_l2Form.f 25 K=some (formL K):=form_up K 22;rw[e2];simp only[Option.bind_some]
    have hI:=inv_kind hK;by_cases h0:1≤K∧K≤14
    · exact told0 h2 h0 hI 9
    · have hK0:K=0:=by rcases hK.1 with h|h<;>omega
      subst hK0;exact told_end (n:=0) (m:=23) (by decide) hI (by decide)
theorem size81:(Tryz.prog.info? 52).map (·.size)=some 2:=by kernel_rfl
theorem lies81:liesAt Tryz.prog Tryz.prog.depth 52 (2/Tryz.prog.cellsOf 52) 0 52 1=true:=by kernel_rfl
theorem info5b:(Tryz.prog.info? 5).map (fun i=>(i.zero,i.size,i.bytes))=some (some (.int .u8 0),1,1):=by kernel_rfl
theorem check_used (b:Nat) (w:World) (h0:w.cell? ⟨b,0,none⟩=some (.pointer (some ⟨b,0,none⟩))):
    Calls Tryz.prog 58 #[.pointer (some ⟨b,0,none⟩)] w fun e w'=>e= .returned (.tuple #[])∧w'=w:=by
  obtain⟨j,hj,_⟩:=Option.map_eq_some_iff.1 size81;go_enter Tryz.func58,Tryz.ntmps58
  go_wp2
  rw[Lib.run_neq_ptr_same w _ Tryz.underlying50 hj];go_wp2
  go_end0
  exact⟨rfl,rfl⟩
theorem check_fresh (b:Nat) (w:World) (h0:w.cell? ⟨b,0,none⟩=some (.pointer none)) (hsh:w.shape? b=some (52,2)) (hfz:w.frozen? ⟨b,0,none⟩=false):
    Calls Tryz.prog 58 #[.pointer (some ⟨b,0,none⟩)] w fun e w'=>e= .returned (.tuple #[])∧w'=w.setCell ⟨b,0,none⟩ (.pointer (some ⟨b,0,none⟩)):=by
  obtain⟨j,hj,hjs⟩:=Option.map_eq_some_iff.1 size81;go_enter Tryz.func58,Tryz.ntmps58
  go_wp2
  rw[Lib.run_to_unsafe w ⟨b,0,none⟩ Tryz.underlying50 Tryz.underlying100 hj (by rw[hjs];decide) hsh (Nat.zero_lt_succ 1)]
  simp only[Result.andThen]
  rw[Oper.upon_value];go_wp2
  rw[run_callFunc_extern Tryz.func79 (by kernel_rfl) (by kernel_rfl) (by kernel_rfl) (e:=Extern.AbiNoEscape.same) (by kernel_rfl)]
  rw[Lib.run_noEscape];simp only[Result.andThen]
  rw[Oper.upon_value];go_wp2
  rw[Lib.run_from_unsafe w ⟨b,0,none⟩ Tryz.underlying100 Tryz.underlying50 hj hsh lies81];simp only[Result.andThen]
  rw[Oper.upon_value];go_wp2
  go_end0
  exact⟨rfl,rfl⟩
theorem copy_check (B b:Nat) (bs:List Value) (w:World) (h:Lib.IsBuilder 52 5 B b bs w):
    Calls Tryz.prog 58 #[.pointer (some ⟨b,0,none⟩)] w fun e w'=>e= .returned (.tuple #[])∧(Lib.BuilderAt 52 5 B b (.pointer (some ⟨b,0,none⟩)) bs w'∧Below B w w'):=by
  rcases h with h|h
  · refine(check_fresh b w h.cell0 h.shape h.frozen0).mono ?_
    rintro e w' ⟨rfl,rfl⟩
    exact⟨rfl,h.used _,(Below.refl B w).setCell (p:=⟨b,0,none⟩) h.1 _⟩
  · refine(check_used b w h.cell0).mono ?_
    rintro e w' ⟨rfl,rfl⟩
    exact⟨rfl,h,Below.refl B _⟩
theorem write_string (B b:Nat) (bs:List Value) (s:ByteArray) (w:World) (h:Lib.IsBuilder 52 5 B b bs w) (hlen:bs.length+s.size≤140737488355328) (hBw:B≤w.heap.size):
    Calls Tryz.prog 26 #[.pointer (some ⟨b,0,none⟩),.string s] w fun e w'=>e= .returned (.tuple #[.int .i64 s.size,.nilIface])∧(Lib.BuilderAt 52 5 B b (.pointer (some ⟨b,0,none⟩)) (bs++Lib.strCells s) w'∧Below B w w'):=by
  obtain⟨i0,hi,hz0,hz1,hz2⟩:=info_parts info5b;go_enter Tryz.func26,Tryz.ntmps26
  go_wp2_with (go_at_call 58;refine(copy_check B b bs _ h).mono ?_)
  rintro e w1 ⟨rfl,h1,hb1⟩
  obtain⟨hB,v,hbk,hown,hne⟩:=h1;have c0:w1.cell? ⟨b,0,none⟩=some (.pointer (some ⟨b,0,none⟩)):=by rw[Lib.cell_of_heap hbk];rfl
  have c1:w1.cell? ⟨b,1,none⟩=some v:=by rw[Lib.cell_of_heap hbk];rfl
  go_wp2_with (at_builtin;refine Lib.wpList_append_own_string _ rfl _ _ 28 9 rfl B 5 i0 Tryz.underlying28 Tryz.underlying9 hi hz0 hz1 hz2 _ _ _ rfl hown s rfl ?c3 ?c4 ?c5 ?_)
  case c3=>unfold maxLen;omega
  case c4=>omega
  case c5=>have:=hb1.size;omega
  intro v' w2 hown' hgrow _
  have hlt:b<w1.heap.size:=by
    rcases Nat.lt_or_ge b w1.heap.size with h'|h'
    · exact h'
    · simp[Array.getElem?_eq_none h']at hbk
  have hb2:w2.heap[b]?=some (.cells #[.pointer (some ⟨b,0,none⟩),v] 52 (0,0)):=by
    rw[hgrow.block b hlt (fun e=>hne e.symm)]
    exact hbk
  have d0:w2.cell? ⟨b,0,none⟩=some (.pointer (some ⟨b,0,none⟩)):=by rw[Lib.cell_of_heap hb2];rfl
  have d1:w2.cell? ⟨b,1,none⟩=some v:=by rw[Lib.cell_of_heap hb2];rfl
  have f1:w2.frozen? ⟨b,1,none⟩=false:=Lib.frozen_of_heap hb2 1
  obtain⟨ao,n',cap,rfl⟩: ∃ao n' cap,v'= .slice ao n' cap:=by
    rcases hown'.2 with ⟨hv,_⟩|⟨g,cap,cur,hv,_⟩
    · exact⟨_,_,_,hv⟩
    · exact⟨_,_,_,hv⟩
  go_wp2
  go_ret2
  refine⟨rfl,?_,?_⟩
  · exact Lib.BuilderAt.put (T:=52) (e:=5) hB hb2 (bs':=bs++Lib.strCells s) (by simpa[Lib.strCells_length]using hown') (by decide)
  · exact(hb1.grown hgrow (by have:=hb1.size;omega) (fun k hk=>(hown.lt k hk).1)).setCell (p:=⟨b,1,none⟩) hB _
def opTextS (x:S39):ByteArray:=opText x.f0 x.f1 x.f2 x.f3 x.f4.f0 x.f4.f1
def lineL (x:S39):List UInt8:=(opTextS x).data.toList++ [10]
def textL (l:List S39):List UInt8:=(l.map lineL).flatten
def codeText (l:List S39):ByteArray:=if codeB l=true then⟨(textL l).toArray⟩else⟨#[]⟩
theorem opText_size (k r s t vk vn:Int):(opText k r s t vk vn).size≤30:=by
  unfold opText;split
  · rename_i h
    have h1:=add_size (hasV k) (outT k r s t) (vtext vk vn);have h2:=add_size (hasT k) (outS k r s) (decB t);have h3:=add_size (hasS k) (outR k r) (decB s);have h4:=add_size (hasR k) (nameB k) (decB r);have:=name_le k (opB_true.1 h).1;have:=dec_size r;have:=dec_size s;have:=dec_size t;have:=vtext_le4 vk vn;unfold outT outS outR at*;omega
  · exact Nat.zero_le _
theorem line_len (x:S39):(lineL x).length≤31:=by
  have:=opText_size x.f0 x.f1 x.f2 x.f3 x.f4.f0 x.f4.f1;unfold lineL opTextS;rw[List.length_append];have:(opText x.f0 x.f1 x.f2 x.f3 x.f4.f0 x.f4.f1).data.toList.length=(opText x.f0 x.f1 x.f2 x.f3 x.f4.f0 x.f4.f1).size:=by rw[Array.length_toList];rfl
  simp;omega
theorem text_len: ∀l:List S39,(textL l).length≤31*l.length
  | []=>Nat.le_refl _
  |x::l=>by
    have:=text_len l;have:=line_len x;unfold textL at*;simp only[List.map_cons,List.flatten_cons,List.length_append,List.length_cons]
    omega
theorem text_snoc (l:List S39) (i:Nat) (h:i<l.length):textL (l.take (i+1))=textL (l.take i)++lineL l[i]:=by
  unfold textL;have e:l.take (i+1)=l.take i++ [l[i]]:=by rw[List.take_succ_eq_append_getElem h]
  rw[e,List.map_append,List.flatten_append];rw[List.map_cons,List.map_nil,List.flatten_cons,List.flatten_nil,List.append_nil]
theorem builder_below {T e:TypeId} {B b:Nat} {bs:List Value} {W W':World} (h:Lib.IsBuilder T e B b bs W) (hb:Below W.heap.size W W'):Lib.IsBuilder T e B b bs W':=by
  have step: ∀p,Lib.BuilderAt T e B b p bs W→Lib.BuilderAt T e B b p bs W':=by
    rintro p ⟨h0,v,h1,⟨h2,h3⟩,h4⟩
    refine⟨h0,v,blk_below h1 hb,⟨h2,?_⟩,h4⟩
    rcases h3 with h3|⟨g,cap,cur,a1,a2,a3,a4⟩
    · exact .inl h3
    · exact .inr ⟨g,cap,cur,a1,a2,blk_below a3 hb,a4⟩
  rcases h with h|h
  · exact .inl (step _ h)
  · exact .inr (step _ h)
def BS (w W:World) (g:Nat) (l:List UInt8):Prop:=Lib.IsBuilder 52 5 w.heap.size g (Lib.byteCells l) W∧Below w.heap.size w W
theorem BS.below {w W:World} {g:Nat} {l:List UInt8} (h:BS w W g l):Below w.heap.size w W:=h.2
theorem BS.step {w W W':World} {g:Nat} {l:List UInt8} (h:BS w W g l) (hb:Below W.heap.size W W'):BS w W' g l:=⟨builder_below h.1 hb,below_step h.2 hb⟩
theorem BS.new {w W:World} (h:Below w.heap.size w W):BS w (W.alloc (.cells #[.pointer none,.slice none 0 0] 52)) W.heap.size []:=
  ⟨.inl ⟨h.size,.slice none 0 0,blk_new _ _,World.ownsRow_nil _ _ _ _,by simp[Value.ownBlock]⟩,below_alloc h _⟩
theorem BS.write {w W:World} {g:Nat} {l:List UInt8} (h:BS w W g l) (s:ByteArray) (hs:l.length+s.size≤1000000):
    Calls Tryz.prog 26 #[.pointer (some ⟨g,0,none⟩),.string s] W fun e w'=>e= .returned (.tuple #[.int .i64 s.size,.nilIface])∧BS w w' g (l++s.data.toList):=by
  refine(write_string w.heap.size g (Lib.byteCells l) s W h.1 (by rw[Lib.byteCells_length];omega) h.2.size).mono ?_
  rintro e w' ⟨rfl,h1,h2⟩
  refine⟨rfl,.inr ?_,h.2.trans h2⟩
  rwa [Lib.strCells_eq,←Lib.byteCells_append]at h1
theorem BS.say {w W:World} {g:Nat} {l:List UInt8} (h:BS w W g l):
    Calls Tryz.prog 28 #[.pointer (some ⟨g,0,none⟩)] W fun e w'=>e= .returned (.string ⟨l.toArray⟩)∧Below w.heap.size w w':=by
  refine(Tryz.Builder_String_any w.heap.size g l W h.1 h.2.size).mono ?_
  rintro e w' ⟨rfl,h2⟩
  exact⟨rfl,h.2.trans h2⟩
theorem cat10 (x:ByteArray) (hx:x.size≤1000):decide (x.size+1≤9223372036854775807)=true∧(9223372036854775807<x.size+1)=False∧(x.size+1≤9223372036854775807)=True:=
  ⟨decide_eq_true (by omega),eq_false (by omega),eq_true (by omega)⟩
theorem impl_CodeText_any (A0:Option Addr) (c0:Nat) (l0:List S39) (w:World) (hr0:Kd.C k39 w A0 l0.length l0) (hc0:l0.length≤c0) (hT:Tab w):
    Calls Tryz.prog 12 #[.slice A0 l0.length c0] w fun e w'=>e= .returned (.string (codeText l0))∧Below w.heap.size w w':=by
  have HT:=Aside0.mk hT;have HR0:=Aside0.mk hr0;clear hT;have HO:Aside0 (∀W,Below w.heap.size w W→Calls Tryz.prog 16 #[.slice A0 l0.length c0] W fun e w'=>e= .returned (.bool (codeB l0))∧Below W.heap.size W w'):=⟨fun W hW=>impl_CodeOk.calls A0 c0 l0 (codeB l0) W (Kd.C_below HR0.out hW) hc0 rfl⟩
  have HI:Aside0 (∀k r s t vk vn W,Below w.heap.size w W→Calls Tryz.prog 27 #[.agg #[.int .i64 k,.int .i64 r,.int .i64 s,.int .i64 t,.int .i64 vk,.int .i64 vn]] W fun e w'=>e= .returned (.string (opText k r s t vk vn))∧Below W.heap.size W w'):=⟨fun k r s t vk vn W hW=>impl_OpText_any k r s t vk vn W (HT.out.below hW)⟩
  have HB:=Aside0.mk (Below.refl w.heap.size w);unfold codeText;clear hr0 hc0;cases hc:codeB l0 with
  |false=>
    rw[hc]at HO
    clear hc;go_enter Tryz.func12,Tryz.ntmps12
    go_wp2_with (go_at_call 16;(with_reducible refine(HO.out _ HB.out).mono ?_);rintro e w1 ⟨rfl,hb⟩)
    go_ret
    exact⟨rfl,hb⟩
  |true=>
    have hl:l0.length≤16:=by
      unfold codeB at hc;simp only[Bool.and_eq_true,decide_eq_true_eq]at hc
      exact hc.1.2
    rw[hc]at HO
    rw[if_pos rfl];clear hc;go_enter Tryz.func12,Tryz.ntmps12
    go_upto_block 0 with (go_at_call 16;(with_reducible refine(HO.out _ HB.out).mono ?_);rintro e w1 ⟨rfl,hb⟩;replace HB:=Aside0.mk (below_step HB.out hb);clear hb)
    have HS:Aside0 (BS w (w1.alloc (.cells #[.pointer none,.slice none 0 0] 52)) w1.heap.size []):=⟨BS.new HB.out⟩;clear HO HB;revert HS
    generalize w1.alloc (.cells #[.pointer none,.slice none 0 0] 52)=w2;generalize w1.heap.size=g;intro HS;go_wp2
    go_loopg [5,11] l0.length (fun gg _ s11 wr=> ∃kk:Nat,kk≤l0.length∧l0.length-kk≤gg∧s11= .int .i64 kk∧Aside0 (BS w wr g (textL (l0.take kk))))
    case atStart=>exact⟨0,Nat.zero_le _,by omega,rfl,HS⟩
    case round=>
      clear HS;obtain⟨kk,hkk,hgg,rfl,HS⟩:=hrel;by_cases hlt:kk<l0.length
      · have hltz:(kk:Int)<(l0.length:Int):=by omega
        have h0z:0≤(kk:Int):=by omega
        obtain⟨ad,e,x0,x1,x2,x3,x4,x5⟩:=at_T39 HR0.out (kk:Int) h0z hltz;subst e;rw[Int.toNat_natCast]at x0 x1 x2 x3 x4 x5
        have BW:=Aside0.mk HS.out.below;replace x0:=(BW.out.cell (World.block_lt_of_cell? w _ x0)).trans x0;replace x1:=(BW.out.cell (World.block_lt_of_cell? w _ x1)).trans x1;replace x2:=(BW.out.cell (World.block_lt_of_cell? w _ x2)).trans x2;replace x3:=(BW.out.cell (World.block_lt_of_cell? w _ x3)).trans x3;replace x4:=(BW.out.cell (World.block_lt_of_cell? w _ x4)).trans x4;replace x5:=(BW.out.cell (World.block_lt_of_cell? w _ x5)).trans x5;have hsn:=text_snoc l0 kk hlt;rw[←rd29_at l0 kk hlt]at hsn
        have htl:(textL (l0.take kk)).length≤31*16:=Nat.le_trans (text_len _) (by rw[List.length_take];omega)
        obtain⟨y,hy0⟩: ∃y,y=rd_T39 l0 (kk:Int):=⟨_,rfl⟩;rw[←hy0]at hsn x0 x1 x2 x3 x4 x5
        clear hy0;obtain⟨P,hP⟩: ∃P,P=textL (l0.take kk):=⟨_,rfl⟩;rw[←hP]at hsn HS htl
        have HX:Aside0 (∀W,Below w.heap.size w W→Calls Tryz.prog 27 #[.agg #[.int .i64 y.f0,.int .i64 y.f1,.int .i64 y.f2,.int .i64 y.f3,.int .i64 y.f4.f0,.int .i64 y.f4.f1]] W fun e w'=>e= .returned (.string (opTextS y))∧Below W.heap.size W w'):=⟨fun W hW=>HI.out _ _ _ _ _ _ W hW⟩
        have hz:(opTextS y).size≤30:=opText_size _ _ _ _ _ _;have hln:lineL y=(opTextS y++(⟨#[10]⟩:ByteArray)).data.toList:=by unfold lineL;simp
        rw[hln]at hsn
        obtain⟨X,hX⟩: ∃X,X=opTextS y:=⟨_,rfl⟩;rw[←hX]at HX hz hsn
        obtain⟨q1,q2,q3⟩:=cat10 X (by omega)
        have HN:=Aside0.mk (show _∧_∧_ from⟨hsn,hz,htl⟩)
        have HW:Aside0 (P.length+(X++(⟨#[10]⟩:ByteArray)).size≤1000000):=⟨by rw[ByteArray.size_append,show(⟨#[10]⟩:ByteArray).size=1 from rfl];omega⟩
        clear hX hP hsn hz htl hln BW
        go_wp2_with (first
          |(go_at_call 27;(with_reducible refine(HX.out _ (below_alloc HS.out.below _)).mono ?_);rintro e w3 ⟨rfl,hb⟩;replace HS:=Aside0.mk ((HS.out.step (below_alloc (Below.refl _ _) _)).step hb);clear hb)
          |(go_at_call 26;(with_reducible refine(HS.out.write (X++⟨#[10]⟩) HW.out).mono ?_);rintro e w4 ⟨rfl,hb⟩;rw[←HN.out.1]at hb;replace HS:=Aside0.mk hb;clear hb))
        go_roundg (l0.length- (kk+1))
        case measure=>omega
        case rel=>exact⟨kk+1,by omega,by omega,by go_num,HS⟩
      · have hltz: ¬(kk:Int)<(l0.length:Int):=by omega
        have:kk=l0.length:=by omega
        subst this;rw[List.take_length]at HS
        go_wp2_with (go_at_call 28;(with_reducible refine(HS.out.say).mono ?_);rintro e w4 ⟨rfl,hb⟩)
        go_ret
        exact⟨rfl,hb⟩
theorem byL_inj {a b:List UInt8} (h:byL a=byL b):a=b:=by
  have:=congrArg (fun x:ByteArray=>x.data.toList) h
  simpa[byL]using this
theorem name_nl (k:Int) (h:1≤k∧k≤14):10∉nameS k:=by
  revert k;refine fun k=>kinds (P:=fun k=>1≤k∧k≤14→10∉nameS k) (fun k hk h=>absurd h hk) ?_ ?_ ?_ ?_ ?_ ?_ ?_ ?_ ?_ ?_ ?_ ?_ ?_ ?_ k<;>exact fun _=>by decide
theorem itoa_nl (n:Int) (h0: -100<n) (h1:n<100):10∉itoaS n:=by
  have h: ∀i∈List.range 199,10∉itoaS ((i:Int)-99):=by decide+kernel
  have:=h (n+99).toNat (by simp;omega)
  rwa [show(((n+99).toNat:Nat):Int)-99=n by omega]at this
theorem vtext_nl (vk vn:Int) (h:okP vk vn):10∉vtextS vk vn:=
  okAll (P:=fun k n=>10∉vtextS k n) (by decide+kernel) (by decide+kernel) (by decide+kernel) (by decide+kernel) vk vn h
theorem seg_nl {b:Bool} {l:List UInt8} (h:10∉l):10∉segL b l:=by
  unfold segL;cases b with
  |false=>simp
  |true=>simpa using h
theorem opText_nl {k r s t vk vn:Int} (h:opB k r s t vk vn=true):10∉ (opText k r s t vk vn).data.toList:=by
  rw[opText_list h];obtain⟨hk,hv,hr,hs,ht,hvv⟩:=opB_true.1 h;unfold optL;simp only[List.mem_append,not_or]
  exact⟨name_nl k hk,seg_nl (itoa_nl r (by omega) (by omega)),seg_nl (itoa_nl s (by omega) (by omega)),seg_nl (itoa_nl t (by omega) (by omega)),seg_nl (vtext_nl vk vn hv.1)⟩
def tx (x:S39):List UInt8:=(opTextS x).data.toList
theorem tx_nl {x:S39} (h:opS x=true):10∉tx x:=opText_nl h
theorem code_ops {c:List S39} (h:codeB c=true):(1≤c.length∧c.length≤16)∧ ∀y∈c,opS y=true:=by
  unfold codeB at h;simp only[Bool.and_eq_true,decide_eq_true_eq,Bool.not_eq_true']at h
  refine⟨h.1,fun y hy=> ?_⟩
  have:=List.any_eq_false.1 h.2 y hy;unfold wrongB at this;simp only[Bool.or_eq_true,not_or,Bool.not_eq_true',Bool.not_eq_false]at this
  exact this.1
theorem line_le (x:S39):(lineL x).length≤25:=by
  unfold lineL;have:(opTextS x).data.toList.length=(opTextS x).size:=by rw[Array.length_toList];rfl
  have h2:(opTextS x).size≤24:=opText_le;simp;omega
theorem text_le: ∀l:List S39,(textL l).length≤25*l.length
  | []=>Nat.le_refl _
  |x::l=>by
    have:=line_le x;have:=text_le l;unfold textL at*;simp at*;omega
theorem codeText_of {c:List S39} (h:codeB c=true):codeText c=⟨(textL c).toArray⟩:=if_pos h
theorem codeText_le {c:List S39} (h:codeB c=true):(codeText c).size≤400:=by
  rw[codeText_of h];have:=text_le c;have:=(code_ops h).1;simp[ByteArray.size];omega
def ReadsC (x:ByteArray) (l:List S39) (ok:Bool):Prop:=(ok=true∧codeB l=true∧codeText l=x)∨(ok=false∧l=[]∧ ∀c,codeB c=true→codeText c≠x)
def cutsN:List UInt8→List UInt8→List (List UInt8)
  |cur,[]=> [cur]
  |cur,c::l=>if c=10 then cur::cutsN [] l else cutsN (cur++ [c]) l
theorem cutsN_text: ∀ (t r cur:List UInt8),10∉t→cutsN cur (t++10::r)=(cur++t)::cutsN [] r
  | [],r,cur,_=>by simp[cutsN]
  |c::t,r,cur,h=>by
    have h1: ¬c=10:=fun e=>h (by rw[e];exact List.mem_cons_self)
    rw[List.cons_append,cutsN,if_neg h1,cutsN_text t r (cur++ [c]) (fun m=>h (List.mem_cons_of_mem _ m)),List.append_assoc]
    rfl
theorem textL_cons (y:S39) (l:List S39):textL (y::l)=tx y++10::textL l:=by
  unfold textL tx;simp[lineL]
theorem cutsN_lines: ∀l:List S39,(∀y∈l,opS y=true)→cutsN [] (textL l)=l.map tx++ [[]]
  | [],_=>rfl
  |y::l,h=>by
    rw[textL_cons,cutsN_text _ _ _ (tx_nl (h y List.mem_cons_self)),cutsN_lines l (fun z hz=>h z (List.mem_cons_of_mem _ hz))]
    rfl
theorem cutsN_join: ∀ (l cur:List UInt8),∃ls last,cutsN cur l=ls++ [last]∧(ls.map (· ++ [10])).flatten++last=cur++l
  | [],cur=>⟨[],cur,rfl,by simp⟩
  |c::l,cur=>by
    unfold cutsN;split
    · rename_i e
      obtain⟨ls,last,h1,h2⟩:=cutsN_join l [];refine⟨cur::ls,last,by rw[h1];rfl,?_⟩
      simp only[List.nil_append]at h2
      simp[h2,e]
    · obtain⟨ls,last,h1,h2⟩:=cutsN_join l (cur++ [c])
      exact⟨ls,last,h1,by rw[h2];simp⟩
theorem cutN_rest (s:ByteArray): ∀ (n i:Nat) (pre:List ByteArray) (cur:List UInt8),i+n=s.size→(List.range' i n).foldl (cutStep s 10) (pre++ [byL cur])=pre++(cutsN cur (s.data.toList.drop i)).map byL
  |0,i,pre,cur,h=>by
    have:s.data.toList.drop i=[]:=List.drop_eq_nil_of_le (by rw[Array.length_toList];show s.size≤i;omega)
    rw[this];rfl
  |n+1,i,pre,cur,h=>by
    have hi:i<s.size:=by omega
    have hd:s.data.toList.drop i=s[i]::s.data.toList.drop (i+1):=by
      have hl:i<s.data.toList.length:=by rw[Array.length_toList];exact hi
      rw[List.drop_eq_getElem_cons hl];rfl
    have hb:bt s (i:Int)=(s[i].toNat:Int):=by unfold bt;rw[dif_pos (by simpa using hi)];rfl
    rw[List.range'_succ,List.foldl_cons,hd];unfold cutsN;by_cases hc:s[i]=10
    · rw[if_pos hc]
      have:cutStep s 10 (pre++ [byL cur]) i=(pre++ [byL cur])++ [byL []]:=by
        unfold cutStep;rw[if_pos (by rw[hb,hc];rfl)]
        rfl
      rw[this,cutN_rest s n (i+1) (pre++ [byL cur]) [] (by omega),List.map_cons,List.append_assoc]
      rfl
    · rw[if_neg hc]
      have:cutStep s 10 (pre++ [byL cur]) i=pre++ [byL (cur++ [s[i]])]:=by
        unfold cutStep;rw[if_neg (by rw[hb];intro e;exact hc (UInt8.toNat_inj.1 (Int.ofNat_inj.1 e))),hb,strOf1]
        have e1:(pre++ [byL cur]).length-1=pre.length:=by simp
        have e2:rdOf ByteArray.empty (pre++ [byL cur]) (((pre++ [byL cur]).length:Int)-1)=byL cur:=by
          unfold rdOf;rw[show(((pre++ [byL cur]).length:Int)-1).toNat=pre.length by simp]
          simp
        rw[e1,e2]
        have e3:byL cur++byL [s[i]]=byL (cur++ [s[i]]):=by
          refine Go.WideShapes.bytes_inj ?_
          simp[byL]
        rw[e3];simp
      rw[this,cutN_rest s n (i+1) pre (cur++ [s[i]]) (by omega)]
def linesL (x:ByteArray):List (List UInt8):=cutsN [] x.data.toList
theorem cut_lines (x:ByteArray):cutTo x 10 x.size=(linesL x).map byL:=by
  have h:=cutN_rest x x.size 0 [] [] (by omega)
  rw[List.nil_append,List.nil_append,List.drop_zero]at h
  unfold linesL;rw[←h];unfold cutTo;rw[List.range_eq_range'];rfl
theorem lines_code {c:List S39} {x:ByteArray} (h:codeB c=true) (hx:codeText c=x):linesL x=c.map tx++ [[]]:=by
  unfold linesL;rw[←hx,codeText_of h];exact cutsN_lines c (code_ops h).2
def InvS (x:ByteArray) (i:Nat) (os:List S39):Prop:=os.length=i∧os.map tx=(linesL x).take i∧(∀c,codeB c=true→codeText c=x→os=c.take i)
def ToldC (x:ByteArray) (o:Option (List S39×Bool)):Prop:= ∃l ok,o=some (l,ok)∧ReadsC x l ok
theorem toldC_no {x:ByteArray} (h: ∀c,codeB c=true→codeText c≠x):ToldC x (some ([],false)):=⟨_,_,rfl,.inr ⟨rfl,rfl,h⟩⟩
theorem byL_tx (y:S39):byL (tx y)=opTextS y:=byL_data _
theorem loop_lines (x:ByteArray) (n:Nat) (hn:(linesL x).length=n+1) (hl:(linesL x)[n]?=some []) (h4:n≤400): ∀ (m i:Nat) (os:List S39),i+m=n→InvS x i os→ ∀j,ToldC x (PC.spec_CodeRead.l0 (j+m+1) ((linesL x).map byL) (n:Int) os (i:Int))
  |0,i,os,hi,⟨h1,h2,h3⟩,j=>by
    obtain rfl:i=n:=by omega
    simp only[PC.spec_CodeRead.l0]
    rw[if_neg (by omega)]
    show ToldC x ((codeV.f os).bind _)
    unfold codeV.f;simp only[Option.bind_some]
    have hc: ∀c,codeB c=true→codeText c=x→os=c:=fun c a b=>by
      have e:=lines_code a b;have:c.length=i:=by rw[e]at hn;simp at hn;exact hn
      rw[h3 c a b,←this,List.take_length]
    cases hb:codeB os with
    |false=>
      rw[if_neg (by simp)]
      exact toldC_no fun c a b=>by rw[hc c a b,a]at hb;cases hb
    |true=>
      rw[if_pos rfl];refine⟨_,_,rfl,.inl ⟨rfl,hb,?_⟩⟩
      rw[codeText_of hb];obtain⟨ls,last,e1,e2⟩:=cutsN_join x.data.toList [];have e1':linesL x=ls++ [last]:=e1;have hll:ls.length=i:=by rw[e1']at hn;simp at hn;exact hn
      have:last=[]:=by rw[e1',←hll]at hl;simpa using hl
      subst this
      have e3:textL os=x.data.toList:=by
        rw[List.append_nil,List.nil_append]at e2
        rw[←e2];have:ls=os.map tx:=by rw[h2,e1',←hll];simp
        rw[this];unfold textL;rw[List.map_map];rfl
      rw[e3]
  |m+1,i,os,hi,⟨h1,h2,h3⟩,j=>by
    have hw:wrap64 ((i:Int)+1)=((i+1:Nat):Int):=by unfold wrap64;omega
    have hlt:i<(linesL x).length:=by omega
    obtain⟨k,r,s,t,vk,vn,ok,hr,hR⟩:=specRead_told (byL (linesL x)[i])
    have hrd:rdOf ByteArray.empty ((linesL x).map byL) (i:Int)=byL (linesL x)[i]:=by
      unfold rdOf;rw[List.getD_eq_getElem?_getD,List.getElem?_eq_getElem (by simpa using hlt)]
      simp
    rw[show j+(m+1)+1=(j+m+1)+1 by omega]
    simp only[PC.spec_CodeRead.l0]
    rw[if_pos (by omega),if_pos (by omega),if_pos (by simp;omega),hrd]
    show ToldC x ((oreadV.f (byL (linesL x)[i])).bind _)
    unfold oreadV.f;rw[hr];simp only[Option.bind_some]
    have hat: ∀c,codeB c=true→codeText c=x→ ∃h:i<c.length,opTextS c[i]=byL (linesL x)[i]∧opS c[i]=true:=fun c a b=>by
      have e:=lines_code a b;have hl2:i<c.length:=by rw[e]at hn;simp at hn;omega
      refine⟨hl2,?_,(code_ops a).2 _ (List.getElem_mem _)⟩
      rw[←byL_tx];congr 1
      have:(linesL x)[i]?=some (tx c[i]):=by rw[e,List.getElem?_append_left (by simpa using hl2)];simp[List.getElem?_eq_getElem hl2]
      rw[List.getElem?_eq_getElem hlt]at this
      exact(Option.some.inj this).symm
    rcases hR with ⟨rfl,hB,hX⟩|⟨rfl, -,hN⟩
    · rw[if_pos rfl,if_pos (by omega),hw]
      refine loop_lines x n hn hl h4 m (i+1) _ (by omega) ⟨by simp;omega,?_,fun c a b=> ?_⟩ j
      · rw[List.map_append,h2,List.take_succ_eq_append_getElem hlt]
        congr 1
        have:byL (tx ⟨k,r,s,t,⟨vk,vn⟩⟩)=byL (linesL x)[i]:=by rw[byL_tx];exact hX
        rw[List.map_cons,List.map_nil,byL_inj this]
      · obtain⟨hl2,e1,e2⟩:=hat c a b
        rw[List.take_succ_eq_append_getElem hl2,←h3 c a b];congr 1
        obtain⟨g1,g2,g3,g4,g5,g6, -⟩:=reads_one (x:=byL (linesL x)[i]) (.inl ⟨rfl,hB,hX⟩) (.inl ⟨rfl,e2,e1⟩);rw[g1,g2,g3,g4,g5,g6]
    · rw[if_neg (by simp)]
      exact toldC_no fun c a b=>by
        obtain⟨hl2,e1,e2⟩:=hat c a b;exact hN _ _ _ _ _ _ e2 e1
theorem specCode_told (x:ByteArray):ToldC x (PC.spec_CodeRead.f 403 x):=by
  unfold PC.spec_CodeRead.f;by_cases h:(x.size:Int)>400
  · rw[if_pos h]
    exact toldC_no fun c a b=>by have:=codeText_le a;rw[b]at this;omega
  · rw[if_neg h]
    have e1:cutV.f x 10=some ((linesL x).map byL):=by unfold cutV.f;rw[if_pos (by omega),cut_lines]
    rw[e1];simp only[Option.bind_some]
    obtain⟨n,hn⟩: ∃n,(linesL x).length=n+1:=by
      obtain⟨ls,last,e, -⟩:=cutsN_join x.data.toList [];exact⟨ls.length,by show(cutsN [] x.data.toList).length=_;rw[e];simp⟩
    have h4:n≤400:=by
      have:=(cut_len x 10 x.size).2;rw[cut_lines,List.length_map,hn]at this
      omega
    have hw:wrap64 (((linesL x).map byL).length-1:Int)=(n:Int):=by rw[List.length_map,hn];unfold wrap64;omega
    rw[hw]
    have nol:(∀c,codeB c=true→codeText c=x→1≤n∧(linesL x)[n]?=some []):=fun c a b=>by
      have e:=lines_code a b;have hc:=(code_ops a).1;have:c.length=n:=by rw[e]at hn;simp at hn;exact hn
      refine⟨by omega,?_⟩
      rw[e,←this,List.getElem?_append_right (by simp)]
      simp
    by_cases h1:(n:Int)<1
    · rw[if_pos h1]
      simp only[PC.spec_CodeRead.j0]
      rw[if_pos trivial];exact toldC_no fun c a b=>by have:=(nol c a b).1;omega
    · rw[if_neg h1,if_pos (by omega),if_pos (by rw[List.length_map,hn];omega)]
      have hrd:rdOf ByteArray.empty ((linesL x).map byL) (n:Int)=byL ((linesL x)[n]'(by omega)):=by
        unfold rdOf;rw[List.getD_eq_getElem?_getD,List.getElem?_eq_getElem (by simp;omega)]
        simp
      rw[hrd];simp only[PC.spec_CodeRead.j0]
      by_cases hl:(linesL x)[n]'(by omega)=[]
      · rw[if_neg (by rw[hl,toListD];simp[byL])]
        have:=loop_lines x n hn (by rw[List.getElem?_eq_getElem (by omega),hl]) h4 n 0 [] (by omega) ⟨rfl,rfl,fun _ _ _=>rfl⟩ (401-n)
        rw[show 401-n+n+1=402 by omega]at this
        exact this
      · rw[if_pos (by rw[toListD];simp[byL];exact hl)]
        exact toldC_no fun c a b=>by
          have:=(nol c a b).2;rw[List.getElem?_eq_getElem (by omega)]at this
          exact hl (Option.some.inj this)
def InvC (x:ByteArray) (os:List S39) (r:ByteArray):Prop:= ∀c,codeB c=true→codeText c=x→ ∃c',c=os++c'∧r=byL (textL c')
theorem invC_first (x:ByteArray):InvC x [] x:=fun c a b=>⟨c,rfl,by rw[←b,codeText_of a];rfl⟩
theorem idx_nl: ∀ (t r:List UInt8),10∉t→Lib.indexByte (t++10::r) 10=(t.length:Int)
  | [],r,_=>by simp[Lib.indexByte]
  |c::t,r,h=>by
    have h1: ¬c=10:=fun e=>h (by rw[e];exact List.mem_cons_self)
    have h2:=idx_nl t r (fun m=>h (List.mem_cons_of_mem _ m))
    have h3:((t.length:Int)== -1)=false:=by rw[beq_eq_false_iff_ne];omega
    have h4:(c==10)=false:=by simpa using h1
    rw[List.cons_append];unfold Lib.indexByte;rw[h2,h3,h4];simp
def lineOf (r:ByteArray):ByteArray:=if 0≤Lib.indexByte r.data.toList 10 then r.extract 0 (Lib.indexByte r.data.toList 10+1).toNat else r
def restOf (r:ByteArray):ByteArray:=if 0≤Lib.indexByte r.data.toList 10 then r.extract (Lib.indexByte r.data.toList 10+1).toNat r.size else⟨#[]⟩
def trimB (l:ByteArray):ByteArray:=⟨(Lib.trimSuffix l.data.toList [10]).toArray⟩
theorem line_at (t r:List UInt8) (h:10∉t):lineOf (byL (t++10::r))=byL (t++ [10])∧restOf (byL (t++10::r))=byL r:=by
  have hi:Lib.indexByte (byL (t++10::r)).data.toList 10=(t.length:Int):=by
    show Lib.indexByte (t++10::r) 10=_
    exact idx_nl t r h
  unfold lineOf restOf;rw[hi,if_pos (by omega),if_pos (by omega),show((t.length:Int)+1).toNat=t.length+1 by omega]
  constructor
  · refine Go.WideShapes.bytes_inj ?_
    simp[byL,ByteArray.data_extract]
    rw[show t++10::r=(t++ [10])++r by simp,List.take_append_of_le_length (by simp),List.take_of_length_le (by simp)]
  · refine Go.WideShapes.bytes_inj ?_
    simp[byL,ByteArray.data_extract,ByteArray.size]
    exact List.take_of_length_le (by omega)
theorem trim_line (t:List UInt8):trimB (byL (t++ [10]))=byL t:=by
  unfold trimB Lib.trimSuffix Lib.hasSuffix
  have:([10]:List UInt8).isSuffixOf (byL (t++ [10])).data.toList=true:=by
    rw[List.isSuffixOf_iff_suffix];exact⟨t,by simp[byL]⟩
  rw[if_pos this];unfold byL;simp
theorem invC_step {x r:ByteArray} {os:List S39} (h:InvC x os r) (h0:r.size≠0) {k rr s t vk vn:Int} {ok:Bool} (hR:Reads (trimB (lineOf r)) k rr s t vk vn ok):
    (ok=true→InvC x (os++ [⟨k,rr,s,t,⟨vk,vn⟩⟩]) (restOf r))∧(ok=false→ReadsC x [] false):=by
  have key: ∀c,codeB c=true→codeText c=x→ ∃y c',c=os++y::c'∧opS y=true∧opTextS y=trimB (lineOf r)∧restOf r=byL (textL c'):=fun c a b=>by
    obtain⟨c',e1,e2⟩:=h c a b;cases c' with
    |nil=>rw[e2]at h0;exact absurd rfl h0
    |cons y c'=>
      have hy:opS y=true:=(code_ops a).2 y (by rw[e1];simp)
      rw[textL_cons]at e2
      obtain⟨l1,l2⟩:=line_at (tx y) (textL c') (tx_nl hy);exact⟨y,c',e1,hy,by rw[e2,l1,trim_line,byL_tx],by rw[e2,l2]⟩
  refine⟨fun hok c a b=> ?_,fun hok=>.inr ⟨rfl,rfl,fun c a b=> ?_⟩⟩
  · obtain⟨y,c',e1,e2,e3,e4⟩:=key c a b
    obtain⟨g1,g2,g3,g4,g5,g6, -⟩:=reads_one hR (.inl ⟨rfl,e2,e3⟩);exact⟨c',by rw[e1,g1,g2,g3,g4,g5,g6];simp,e4⟩
  · obtain⟨y,c',e1,e2,e3,e4⟩:=key c a b
    have:=(reads_one hR (.inl ⟨rfl,e2,e3⟩)).2.2.2.2.2.2;rw[hok]at this;cases this
theorem invC_end {x r:ByteArray} {os:List S39} (h:InvC x os r) (h0:r.size=0): ∀c,codeB c=true→codeText c=x→c=os:=fun c a b=>by
  obtain⟨c',e1,e2⟩:=h c a b;cases c' with
  |nil=>rw[e1];simp
  |cons y c'=>rw[e2,textL_cons]at h0;simp[byL,ByteArray.size]at h0
theorem invC_no {x r:ByteArray} {os:List S39} (h:InvC x os r) (h0:r.size=0) (hn: ¬(codeB os=true∧codeText os=x)):ReadsC x [] false:=
  .inr ⟨rfl,rfl,fun c a b=>by have e:=invC_end h h0 c a b;subst e;exact hn ⟨a,b⟩⟩
theorem rest_lt {r:ByteArray} (h0:r.size≠0):(restOf r).size<r.size:=by
  unfold restOf;split
  · rw[ByteArray.size_extract];omega
  · show 0<r.size;omega
theorem line_size (r:ByteArray):(lineOf r).size≤r.size:=by
  unfold lineOf;split
  · rw[ByteArray.size_extract];omega
  · exact Nat.le_refl _
theorem readsC_one {x:ByteArray} {l l':List S39} {ok ok':Bool} (h:ReadsC x l ok) (h':ReadsC x l' ok'):l=l'∧ok=ok':=by
  rcases h with ⟨rfl,h1,h2⟩|⟨rfl,rfl,h2⟩<;>rcases h' with ⟨rfl,g1,g2⟩|⟨rfl,rfl,g2⟩
  · refine⟨?_,rfl⟩
    have e:l.map tx++ [[]]=l'.map tx++ [[]]:=by rw[←lines_code h1 h2,←lines_code g1 g2]
    have e:=List.append_cancel_right e
    have: ∀ (l l':List S39),(∀y∈l,opS y=true)→(∀y∈l',opS y=true)→l.map tx=l'.map tx→l=l':=by
      intro l;induction l with
      |nil=>intro l' _ _ e;cases l' with|nil=>rfl|cons a b=>cases e
      |cons y l ih=>
        intro l' p q e;cases l' with
        |nil=>cases e
        |cons z l'=>
          rw[List.map_cons,List.map_cons]at e
          injection e with e1 e2
          have e3:opTextS y=opTextS z:=by rw[←byL_tx,←byL_tx,e1]
          obtain⟨g1,g2,g3,g4,g5,g6, -⟩:=reads_one (x:=opTextS z) (.inl ⟨rfl,p y List.mem_cons_self,e3⟩) (.inl ⟨rfl,q z List.mem_cons_self,rfl⟩);rw[ih l' (fun a ha=>p a (List.mem_cons_of_mem _ ha)) (fun a ha=>q a (List.mem_cons_of_mem _ ha)) e2]
          obtain⟨y0,y1,y2,y3,⟨y4,y5⟩⟩:=y;obtain⟨z0,z1,z2,z3,⟨z4,z5⟩⟩:=z;simp only at g1 g2 g3 g4 g5 g6
          rw[g1,g2,g3,g4,g5,g6]
    exact this l l' (code_ops h1).2 (code_ops g1).2 e
  · exact absurd h2 (g2 _ h1)
  · exact absurd g2 (h2 _ g1)
  · exact⟨rfl,rfl⟩
end Go.Proofs.YtmklpbmlgjkbiaaGreatDoor.PS
end
section
namespace Go.Proofs.YtmklpbmlgjkbiaaGreatDoor.PS
open Go.RowKit Go.Shelf Go.Proofs.YtmklpbmlgjkbiaaGreatDoorW.PrintWords Go.Proofs.YtmklpbmlgjkbiaaGreatDoorW.PrintLast
attribute [local go_sem] Oper.semAt_some
def restIs (W:World) (Bs:Nat) (r:ByteArray):Prop:=W.heap[Bs]?=some (.cells #[.string r] 9 (0,0))
def leftAt (Bs:Nat) (W:World):Nat:=match W.cell? ⟨Bs,0,none⟩with|some (.string r)=>r.size|_=>0
theorem restIs.cell {W:World} {Bs:Nat} {r:ByteArray} (h:restIs W Bs r):W.cell? ⟨Bs,0,none⟩=some (.string r):=(blk_cell h 0).trans rfl
theorem restIs.free {W:World} {Bs:Nat} {r:ByteArray} (h:restIs W Bs r):W.frozen? ⟨Bs,0,none⟩=false:=blk_frozen h 0
theorem restIs.left {W:World} {Bs:Nat} {r:ByteArray} (h:restIs W Bs r):leftAt Bs W=r.size:=by unfold leftAt;rw[h.cell]
theorem restIs.put {W:World} {Bs:Nat} {r:ByteArray} (h:restIs W Bs r) (q:ByteArray):restIs (W.setCell ⟨Bs,0,none⟩ (.string q)) Bs q:=blk_set h 0 (.string q)
theorem indexByte_lt: ∀ (l:List UInt8) (c:UInt8),Lib.indexByte l c<(l.length:Int)∨l=[]
  | [],_=>.inr rfl
  |b::l,c=>by
    left
    have:=indexByte_lt l c;unfold Lib.indexByte;rw[List.length_cons];split
    · omega
    · split
      · omega
      · rcases this with h|h
        · omega
        · subst h;simp[Lib.indexByte]at*
theorem idx_lt (r:ByteArray) (h:r.size≠0):Lib.indexByte r.data.toList 10<(r.size:Int):=by
  have e:r.data.toList.length=r.size:=by rw[Array.length_toList];rfl
  rcases indexByte_lt r.data.toList 10 with h'|h'
  · omega
  · rw[h']at e;exact absurd e.symm h
theorem lines_in (n:Nat) (hn:1≤n) (l Bs:Nat) (J:ByteArray→World→Prop) (Jx:World→Prop)
    (hset: ∀r W v,J r W→J r (W.setCell ⟨Bs,0,none⟩ v)) (hdr: ∀r W,J r W→J r W.drew) (hsz: ∀r W,J r W→r.size≤1000)
    (hY: ∀r W,J r W→r.size≠0→restIs W Bs (restOf r)→YieldAt Fence.wide (n-1) Tryz.prog l #[.string (lineOf r)] W fun e W'=>(e= .returned (.bool true)∧J (restOf r) W'∧restIs W' Bs (restOf r))∨(e= .returned (.bool false)∧Jx W'))
    (x:ByteArray) (W:World) (h0:J x W) (hB:restIs W Bs x):
    CallsIn Fence.wide n Tryz.prog 44 #[.func (.yield l) #[] #[],.pointer (some ⟨Bs,0,none⟩)] W fun e W'=>(∃v,e= .returned v)∧((∃r,r.size=0∧J r W')∨Jx W'):=by
  refine callsIn_of_wp Tryz.func44 rfl trivial ?_ rfl
  simp only[Tryz.ntmps44,List.size_toArray,List.length_cons,List.length_nil,Nat.reduceAdd,Nat.reduceSub,Array.replicate_succ,Array.replicate_zero,List.push_toArray,List.append_toArray,List.nil_append,List.cons_append]
  gi_wp2
  gi_loopw [3,4] (fun p q wr=> ∃r,J r wr∧restIs wr Bs r) (fun p q wr=>leftAt Bs wr)
  case atStart=>exact⟨x,h0,hB⟩
  case round=>
    obtain⟨r,hJ,hR⟩:=hrel;have hc:=hR.cell;have hf:=hR.free;by_cases hz:r.size=0
    · have e0:decide ((0:Int)<(r.size:Int))=false:=decide_eq_false (by omega)
      gi_wp2
      go_end0
      exact⟨⟨_,rfl⟩,.inl ⟨r,hz,hJ⟩⟩
    · have e0:decide ((0:Int)<(r.size:Int))=true:=decide_eq_true (by omega)
      have hmx:Tryz.prog.follows .mixedOrders=true:=by kernel_rfl
      obtain⟨i,hidx⟩: ∃i,i=Lib.indexByte r.data.toList 10:=⟨_,rfl⟩;have hI:Aside0 (∀W,Calls Tryz.prog 45 #[.string r,.int .u8 10] W fun e w'=>e= .returned (.int .i64 i)∧w'=W):=⟨fun W=>by rw[hidx];exact Tryz.strings_IndexByte r 10 W⟩
      by_cases hi:0≤i
      · have e1:decide ((0:Int)≤i)=true:=decide_eq_true hi
        have hlt:i<(r.size:Int):=by rw[hidx];exact idx_lt r hz
        have hw:IntKind.i64.wrap (i+1)=i+1:=by rw[IntKind.wrap_i64];have:=hsz r _ hJ;omega
        have g1:(0:Int)≤i+1:=by omega
        have g2:i+1≤(r.size:Int):=by omega
        have eL:lineOf r=r.extract 0 (i+1).toNat:=by unfold lineOf;rw[←hidx,if_pos hi]
        have eR:restOf r=r.extract (i+1).toNat r.size:=by unfold restOf;rw[←hidx,if_pos hi]
        clear hidx
        have r1: ∀W,Sem.run Tryz.prog (Instr.slice 9 (.string r) none (some (.int .i64 (i+1))) none) W= .ok (.string (lineOf r)) W:=fun W=>by
          rw[eL];go_simp
        have r2: ∀W,Sem.run Tryz.prog (Instr.slice 9 (.string r) (some (.int .i64 (i+1))) none none) W= .ok (.string (restOf r)) W:=fun W=>by
          rw[eR];go_simp
        clear eL eR;obtain⟨fn,tmps,assign,body,hy,hR2⟩:=hY r _ (hdr _ _ (hset r _ (.string (restOf r)) hJ)) hz (hR.put (restOf r));gi_wp2_with (refine⟨trivial,?_⟩;gi_at_call 45;refine(callsIn_wide.2 (hI.out _)).mono ?_;rintro e w' ⟨rfl,rfl⟩)
        gi_region
        gi_wp2
        refine hR2.mono ?_
        rintro e W3 (⟨rfl,hJ3,hB3⟩|⟨rfl,hx3⟩)
        · gi_wp2
          go_roundw
          case rel=>exact⟨_,hJ3,hB3⟩
          case measure=>rw[hB3.left,hR.left];exact rest_lt hz
        · gi_wp2
          refine bodyPost_ret (results_none rfl _ _ _) rfl ?_
          exact⟨⟨_,rfl⟩,.inr hx3⟩
      · have e1:decide ((0:Int)≤i)=false:=decide_eq_false hi
        have q1:lineOf r=r:=by unfold lineOf;rw[←hidx,if_neg hi]
        have q2:restOf r=⟨#[]⟩:=by unfold restOf;rw[←hidx,if_neg hi]
        clear hidx;obtain⟨fn,tmps,assign,body,hy,hR2⟩:=hY r _ (hset r _ (.string (restOf r)) hJ) hz (hR.put (restOf r));have hm:=rest_lt hz;rw[q1,q2]at hy
        rw[q2]at hR2
        rw[q2]at hm
        gi_wp2_with (refine⟨trivial,?_⟩;gi_at_call 45;refine(callsIn_wide.2 (hI.out _)).mono ?_;rintro e w' ⟨rfl,rfl⟩)
        refine hR2.mono ?_
        rintro e W3 (⟨rfl,hJ3,hB3⟩|⟨rfl,hx3⟩)
        · gi_wp2
          go_roundw
          case rel=>exact⟨_,hJ3,hB3⟩
          case measure=>rw[hB3.left,hR.left];exact hm
        · gi_wp2
          refine bodyPost_ret (results_none rfl _ _ _) rfl ?_
          exact⟨⟨_,rfl⟩,.inr hx3⟩
end Go.Proofs.YtmklpbmlgjkbiaaGreatDoor.PS
end
section
namespace Go.Proofs.YtmklpbmlgjkbiaaGreatDoor.PS
open Go.RowKit Go.Shelf Go.Proofs.YtmklpbmlgjkbiaaGreatDoorW.PrintWords Go.Proofs.YtmklpbmlgjkbiaaGreatDoorW.PrintLast
structure Sim (n0 Bs:Nat) (W W':World):Prop where
  os:W'.os=W.os
  tape:W'.tape=W.tape
  output:W'.output=W.output
  size:W.heap.size≤W'.heap.size
  same: ∀ (k:Nat) (o:Obj),W.heap[k]?=some o→k≠Bs→(n0≤k→o.isCells=true)→W'.heap[k]?=some o
theorem Sim.set (n0 Bs j:Nat) (W:World) (v:Value):Sim n0 Bs W (W.setCell ⟨Bs,j,none⟩ v):=by
  have h:=(Below.refl Bs W).setCell (p:=⟨Bs,j,none⟩) (Nat.le_refl _) v;exact⟨h.os,h.tape,h.output,h.size,fun k o hk hn _=>(Below.heap_setCell W ⟨Bs,j,none⟩ v k hn).trans hk⟩
theorem Sim.drew (n0 Bs:Nat) (W:World):Sim n0 Bs W W.drew:=by
  have h:=below_drew1 (Below.refl Bs W);exact⟨h.os,h.tape,h.output,h.size,fun k o hk _ _=>hk⟩
theorem Sim.alloc (n0 Bs:Nat) (W:World) (o:Obj):Sim n0 Bs W (W.alloc o):=by
  have h:=below_alloc (Below.refl W.heap.size W) o;exact⟨h.os,h.tape,h.output,h.size,fun k q hk _ _=>(h.block k (Array.getElem?_eq_some_iff.1 hk).1).trans hk⟩
theorem Sim.put (n0 Bs:Nat) (W:World) (l:Nat) (o o':Obj) (hn:n0≤l) (hl:W.heap[l]?=some o) (ho:o.isCells=false):Sim n0 Bs W (W.putObj l o'):=by
  have h:=(Below.refl l W).grown (grownBy_putObj' W l o') (by have:=(Array.getElem?_eq_some_iff.1 hl).1;omega) (fun k e=>by cases e;exact Nat.le_refl _)
  refine⟨h.os,h.tape,h.output,h.size,fun k q hk _ hc=> ?_⟩
  have hne:k≠l:=by
    rintro rfl
    rw[hl]at hk
    cases hk
    rw[hc hn]at ho
    cases ho
  exact(World.putObj_heap_other hne).trans hk
theorem Sim.box {n0 Bs B:Nat} {t:TypeId} {v:Value} {W W':World} (h:Sim n0 Bs W W') (hB:W.heap[B]?=some (.cells #[v] t (0,0))) (hne:B≠Bs):W'.heap[B]?=some (.cells #[v] t (0,0)):=h.same B _ hB hne (fun _=>rfl)
theorem Sim.below {n0 Bs n:Nat} {w W W':World} (h:Sim n0 Bs W W') (hb:Below n w W) (hn:n≤w.heap.size) (h0:n≤n0) (hs:n≤Bs):Below n w W':=by
  refine⟨h.os.trans hb.os,h.tape.trans hb.tape,h.output.trans hb.output,Nat.le_trans hb.size h.size,fun k hk=> ?_⟩
  have hlt:k<w.heap.size:=by omega
  have e:=hb.block k hk;rw[Array.getElem?_eq_getElem hlt]at e⊢
  exact h.same k _ e (by omega) (fun h'=>by omega)
def roundEnd (n0 Bs:Nat) (r:ByteArray) (I:ByteArray→World→Prop) (Ix:World→Prop) (W:World):Exit→Act→World→Prop
  | .normal,_,W'=>KeepsFrom n0 W W'∧I r W'∧restIs W' Bs r
  | .ret,_,W'=>KeepsFrom n0 W W'∧Ix W'
  |_,_,_=>False
theorem range_lines {g:Operand} {ps:Array Tmp} {assign body:Code} {Q:Exit→Act→World→Prop} {a:Act} {w:World} (n:Nat) (hn:3≤n) (Bs:Nat) (x:ByteArray)
    (hg:a.eval g= .func (.func 44) #[] #[.pointer (some ⟨Bs,0,none⟩)]) (hps:ps.size=1) (hB:restIs w Bs x)
    (I:ByteArray→World→Prop) (Ix:World→Prop) (hI: ∀r W W',Sim w.heap.size Bs W W'→I r W→I r W') (hIx: ∀W W',Sim w.heap.size Bs W W'→Ix W→Ix W') (hsz: ∀r W,I r W→r.size≤1000) (h0:I x w) (a₁:ByteArray→Act)
    (hassign: ∀ (l:Nat) (r:ByteArray) (W:World) (K:Act→World→Prop),K (a₁ (lineOf r)) W→
      assign.wpIn (Fence.wide.inRound l) (n-1-1) Tryz.prog (Exit.then K (fun _ _ _=>False)) { tmps:=(ps.zip #[.string (lineOf r)]).foldl (fun t (p,v)=>t.setIfInBounds p v) a.tmps,defers:=[] } W)
    (hbody: ∀ (l:Nat) (r:ByteArray) (W:World),I r W→r.size≠0→restIs W Bs (restOf r)→body.wpIn (Fence.wide.inRound l) (n-1-1) Tryz.prog (roundEnd w.heap.size Bs (restOf r) I Ix W) (a₁ (lineOf r)) W)
    (hdone: ∀ (D:Nat) (r:ByteArray) (W:World),w.heap.size≤D→r.size=0→I r W→W.heap[D]?=some (.deferred (some []))→Q .normal { a with defers:= { target:=.collected D,args:= #[] } ::a.defers } W)
    (hstop: ∀ (D:Nat) (W:World),w.heap.size≤D→Ix W→W.heap[D]?=some (.deferred (some []))→Code.ret.wpIn Fence.wide n Tryz.prog Q { a with defers:= { target:=.collected D,args:= #[] } ::a.defers } W):
    (Code.rangeFunc g ps assign body).wpIn Fence.wide n Tryz.prog Q a w:=by
  have hBs:Bs<w.heap.size:=blk_lt hB;refine wpIn_rangeFunc ?_
  intro fn hfn;obtain⟨rec,hrec⟩: ∃rec:LoopState→Option Code→Loop,rec=fun st pe=> { state:=st,pending:=pe,fn,tmps:=a.tmps,params:=ps,assign,body,defers:=w.heap.size } :=⟨_,rfl⟩
  obtain⟨D,hD⟩: ∃D,D=w.heap.size:=⟨_,rfl⟩;obtain⟨W1,hW1⟩: ∃W1,(w.alloc (.deferred (some []))).alloc (.loop (rec .ready none))=W1:=⟨_,rfl⟩
  have hS:Sim D Bs w W1:=by
    have h1:=Sim.alloc D Bs w (.deferred (some []));have h2:=Sim.alloc D Bs (w.alloc (.deferred (some []))) (.loop (rec .ready none));rw[←hW1];refine⟨h2.os.trans h1.os,h2.tape.trans h1.tape,h2.output.trans h1.output,Nat.le_trans h1.size h2.size,fun k o hk hne hc=>h2.same k o (h1.same k o hk hne hc) hne hc⟩
  have hL1:W1.heap[D+1]?=some (.loop (rec .ready none)):=by
    rw[←hW1,hD];have:=World.alloc_heap_new (w.alloc (.deferred (some []))) (.loop (rec .ready none));rwa [World.size_alloc]at this
  have hK1:W1.heap[D]?=some (.deferred (some [])):=by
    rw[←hW1,hD];exact(Below.heap_alloc _ _ _ (by simp)).trans (World.alloc_heap_new w _)
  rw[←hD]at hI hIx hbody hdone hstop
  have hen:=run_enterLoop_outer (P:=Tryz.prog) (w:=w) fn a.tmps ps assign body
  refine⟨D+1,[{ target:=.collected D,args:= #[] }],W1, { target:=.fn (.func 44) #[.pointer (some ⟨Bs,0,none⟩)],args:= #[.func (.yield (D+1)) #[] #[]] },W1,44,
    #[.func (.yield (D+1)) #[] #[]]++ #[.pointer (some ⟨Bs,0,none⟩)],W1,?_,?_,?_,?_,fun h=>by omega,?_⟩
  · rw[←hW1,hrec,hD];exact hen
  · simp only[resolve,hg]
    simp[go_sem]
  · intro f' hf';trivial
  · have e44: ∀args W,(callFunc 44 args).run Tryz.prog W= .ok (.enter 44 args) W:=enters_of Tryz.func44 (by kernel_rfl) rfl
    simp[invoke,go_sem,e44]
  refine(lines_in (n-1) (by omega) (D+1) Bs
    (fun r W=>I r W∧W.heap[D+1]?=some (.loop (rec .ready none))∧W.heap[D]?=some (.deferred (some [])))
    (fun W=>Ix W∧W.heap[D+1]?=some (.loop (rec .done (some .ret)))∧W.heap[D]?=some (.deferred (some [])))
    ?_ ?_ (fun r W h=>hsz r W h.1) ?_ x W1 ⟨hI x _ _ hS h0,hL1,hK1⟩ (hS.same Bs _ hB|>fun _=> ?_)).mono ?_
  · rintro r W v ⟨h1,h2,h3⟩
    exact⟨hI r _ _ (Sim.set D Bs 0 W v) h1,(Below.heap_setCell W ⟨Bs,0,none⟩ v _ (by show D+1≠Bs;omega)).trans h2,(Below.heap_setCell W ⟨Bs,0,none⟩ v _ (by show D≠Bs;omega)).trans h3⟩
  · rintro r W ⟨h1,h2,h3⟩
    exact⟨hI r _ _ (Sim.drew D Bs W) h1,h2,h3⟩
  · -- one round
    rintro r W ⟨h1,h2,h3⟩ hr hR
    have hlt:D+1<W.heap.size:=blk_lt h2;have hy:=run_yield (P:=Tryz.prog) (args:= #[.string (lineOf r)]) h2 (by rw[hrec];exact hps.symm)
    rw[hrec]at hy
    refine⟨fn,_,assign,body,hy,roundIn_of_wpIn hfn (hassign _ r W _ ⟨_,run_beginRound h2 (by rw[hrec]),?_⟩)⟩
    obtain⟨busy,hbusy⟩: ∃o:Obj,o= .loop { rec .ready none with state:=.busy } :=⟨_,rfl⟩
    have b1:(W.putObj (D+1) busy).heap[D+1]?=some busy:=World.putObj_heap_same hlt;have b2:(W.putObj (D+1) busy).heap[D]?=some (.deferred (some [])):=(World.putObj_heap_other (by omega)).trans h3
    have b3:restIs (W.putObj (D+1) busy) Bs (restOf r):=(World.putObj_heap_other (by omega)).trans hR
    rw[←hbusy];refine wpIn_mono (hbody _ r _ (hI r _ _ (Sim.put D Bs W (D+1) _ busy (by omega) h2 rfl) h1) hr b3) ?_
    have nc:busy.isCells=false:=by rw[hbusy];rfl
    rintro e a3 W3 hp
    cases e with
    |normal=>
      obtain⟨hk,hi,hs⟩:=hp;have c1:=hk.same _ _ (by omega) b1 nc
      have c2:=hk.same _ _ (Nat.le_refl _) b2 rfl;have c3:W3.heap[D+1]?=some (.loop { rec .ready none with state:=.busy }):=by rw[c1,hbusy]
      have hr3:=run_endRound (P:=Tryz.prog) none c3;refine⟨_,_,hr3,.inl ⟨rfl,⟨hI _ _ _ (Sim.put D Bs W3 (D+1) _ _ (by omega) c3 rfl) hi,?_,(World.putObj_heap_other (by omega)).trans c2⟩,(World.putObj_heap_other (by omega)).trans hs⟩⟩
      rw[World.putObj_heap_same (blk_lt c3),hrec];rfl
    |ret=>
      obtain⟨hk,hi⟩:=hp;have c1:=hk.same _ _ (by omega) b1 nc
      have c2:=hk.same _ _ (Nat.le_refl _) b2 rfl;have c3:W3.heap[D+1]?=some (.loop { rec .ready none with state:=.busy }):=by rw[c1,hbusy]
      have hr3:=run_endRound (P:=Tryz.prog) (some .ret) c3;refine⟨_,_,hr3,.inr ⟨rfl,hIx _ _ (Sim.put D Bs W3 (D+1) _ _ (by omega) c3 rfl) hi,?_,(World.putObj_heap_other (by omega)).trans c2⟩⟩
      rw[World.putObj_heap_same (blk_lt c3),hrec];rfl
    |exit id=>exact hp.elim
    |goto t=>exact hp.elim
    |panic ch=>exact hp.elim
    |outgrown=>exact hp.elim
  · -- the text that is left, where the rounds begin
    rw[←hW1];have h1:=(Below.heap_alloc w (.deferred (some [])) Bs hBs).trans hB;exact(Below.heap_alloc (w.alloc (.deferred (some []))) (.loop (rec .ready none)) Bs (by rw[World.size_alloc];omega)).trans h1
  · -- behind the iterator
    rintro e W2 ⟨⟨v,rfl⟩,(⟨r,hr,h1,h2,h3⟩|⟨h1,h2,h3⟩)⟩
    · have he:=run_endLoop (P:=Tryz.prog) h2 (by rw[hrec];simp)
      rw[hrec]at he
      exact⟨none,_,he,hdone D r _ (Nat.le_refl _) hr (hI _ _ _ (Sim.put D Bs W2 (D+1) _ _ (by omega) h2 rfl) h1) ((World.putObj_heap_other (by omega)).trans h3)⟩
    · have he:=run_endLoop (P:=Tryz.prog) h2 (by rw[hrec];simp)
      rw[hrec]at he
      exact⟨some .ret,_,he,hstop D _ (Nat.le_refl _) (hIx _ _ (Sim.put D Bs W2 (D+1) _ _ (by omega) h2 rfl) h1) ((World.putObj_heap_other (by omega)).trans h3)⟩
end Go.Proofs.YtmklpbmlgjkbiaaGreatDoor.PS
end
section
namespace Go.Proofs.YtmklpbmlgjkbiaaGreatDoor.PS
open Go.RowKit Go.Proofs.YtmklpbmlgjkbiaaGreatDoorW.PrintWords Go.Proofs.YtmklpbmlgjkbiaaGreatDoorW.PrintLast
def Env (w:World):Prop:=TabErrs w∧ ∃m,w.cell? ⟨0,0,none⟩=some (.int .i64 m)
theorem Env.below {w w':World} (h:Env w) (hb:Below w.heap.size w w'):Env w':=by
  obtain⟨h1,m,h2⟩:=h;exact⟨⟨h1.1.below hb,h1.2.below hb⟩,m,(hb.cell (World.block_lt_of_cell? w _ h2)).trans h2⟩
def Words (x:ByteArray) (W:World) (e:Ending) (w':World):Prop:= ∃g N:Nat,e= .returned (.slice (some ⟨g,0,none⟩) N N)∧N=(piecesB x).length∧1≤N∧Below W.heap.size W w'∧w'.heap[g]?=some (.cells ((piecesB x).map Value.string).toArray 9 (0,0))∧W.heap.size≤g
theorem split_any (x:ByteArray) (w:World) (hs:x.size≤24) (hE:Env w):Calls Tryz.prog 46 #[.string x,.string ⟨#[32]⟩] w (Words x w):=by
  obtain⟨-,m,hm⟩:=hE;have hl:(piecesB x).length=Lib.countB x ⟨#[32]⟩+1:=Lib.splitB_all _ (by decide) 0 _ x rfl
  refine(Tryz.strings_Split x ⟨#[32]⟩ m w (by omega) hm (by decide)).mono ?_
  rintro e w' ⟨rfl,rfl⟩
  exact⟨w.heap.size,_,rfl,hl.symm,by omega,below_alloc (Below.refl _ _) _,blk_new _ _,Nat.le_refl _⟩
theorem reads_long {x:ByteArray} (h:24<x.size):Reads x 0 0 0 0 0 0 false:=.inr ⟨rfl,⟨rfl,rfl,rfl,rfl,rfl,rfl⟩,fun a b c d f g _ e=>by have:=opText_le (k:=a) (r:=b) (s:=c) (t:=d) (vk:=f) (vn:=g);rw[e]at this;omega⟩
def zero6:Obj:=.cells #[.int .i64 0,.int .i64 0,.int .i64 0,.int .i64 0,.int .i64 0,.int .i64 0] 39 (0,0)
def OR (x:ByteArray) (w W:World) (g N B:Nat):Prop:=Hold w W w.heap.size zero6∧W.heap[g]?=some (.cells ((piecesB x).map Value.string).toArray 9 (0,0))∧W.heap[B]?=some (.cells #[.slice (some ⟨g,0,none⟩) N N] 34 (0,0))
theorem OR.step {x:ByteArray} {w W W':World} {g N B:Nat} (h:OR x w W g N B) (hb:Below W.heap.size W W'):OR x w W' g N B:=⟨h.1.step hb,blk_below h.2.1 hb,blk_below h.2.2 hb⟩
theorem OR.below {x:ByteArray} {w W:World} {g N B:Nat} (h:OR x w W g N B):Below w.heap.size w W:=h.1.below
theorem OR.alloc {x:ByteArray} {w W:World} {g N B:Nat} (h:OR x w W g N B) (o:Obj):OR x w (W.alloc o) g N B:=h.step (below_alloc (Below.refl _ _) o)
theorem OR.word {x:ByteArray} {w W:World} {g N B:Nat} (h:OR x w W g N B) (i:Nat) (hi:i<(piecesB x).length):W.cell? ⟨g,i,none⟩=some (.string (word x i)):=by
  refine(blk_cell h.2.1 i).trans ?_
  rw[List.getElem?_toArray,List.getElem?_map,List.getElem?_eq_getElem hi];unfold PS.word;simp[List.getElem?_eq_getElem hi]
theorem OR.box {x:ByteArray} {w W:World} {g N B:Nat} (h:OR x w W g N B):W.cell? ⟨B,0,none⟩=some (.slice (some ⟨g,0,none⟩) N N):=(blk_cell h.2.2 0).trans rfl
def KindOf (x:ByteArray) (W:World) (e:Ending) (w':World):Prop:= ∃i:Int,e= .returned (.int .i64 i)∧FirstAt (fun m=>m.f0.toList==(word x 0).toList) mannersL i∧Below W.heap.size W w'
theorem kind_any {x:ByteArray} {w W:World} {g N B gm:Nat} (h:OR x w W g N B) (h1:1≤(piecesB x).length) (hN:1≤N) {V:World} (hm:IsManners V W gm):
    Calls Tryz.prog 47 #[.slice (some ⟨gm,0,none⟩) 15 15,.func (.func 49) #[] #[.pointer (some ⟨B,0,none⟩)]] W (KindOf x W):=
  index_man (fun m=>m.f0.toList==(word x 0).toList) 49 #[.pointer (some ⟨B,0,none⟩)] (fun _ _=>by kernel_rfl) (some ⟨gm,0,none⟩) 15 mannersL W (manners_C hm) (by decide) fun W' y hb=>by
    have hh:=h.step hb;refine(match_any y.f0 y.f1 y.f2 y.f3 B g N N (word x 0) W' hh.2.2 (hh.word 0 h1) hN).mono ?_
    rintro e w' ⟨rfl,hb'⟩
    exact⟨rfl,below_step hb hb'⟩
def ptrR (O:Nat):Value→Option (DataW Unit×List MemPlace)
  | .pointer none=>some (.lit (.int .i64 (-1)),[])
  | .pointer (some ⟨b,j,none⟩)=>if b=O then some (.lit (.int .i64 j),[])else none
  |_=>none
theorem ptrR_mk (O j:Nat):ptrR O (.pointer (some ⟨O,j,none⟩))=some (.lit (.int .i64 j),[]):=by simp[ptrR]
theorem ptrR_inv {O j:Nat} {v:Value} {ps:List MemPlace} (h:ptrR O v=some (.lit (.int .i64 j),ps)):v= .pointer (some ⟨O,j,none⟩):=by
  unfold ptrR at h;split at h
  · simp at h
  · split at h
    · rename_i b j' e
      simp at h
      obtain⟨h, -⟩:=h;obtain rfl:j'=j:=by omega
      rw[e]
    · cases h
  · cases h
def D3:DataW Unit:=(((DataW.map []).put (.int .i32 82) (.lit (.int .i64 1))).put (.int .i32 83) (.lit (.int .i64 2))).put (.int .i32 84) (.lit (.int .i64 3))
def OM (W:World) (O M:Nat):Prop:=W.ownsMap Tryz.prog 21 (ptrR O) M 3 D3
theorem OM.step {W W':World} {O M:Nat} (h:OM W O M) (hb:Below W.heap.size W W'):OM W' O M:=by
  obtain⟨es,clock,h1,h2⟩:=h;exact⟨es,clock,blk_below h1 hb,h2⟩
theorem law21:Maps.Keyed Tryz.prog 21:=Maps.int_keyed Tryz.underlying21
theorem made3 (W:World) (O:Nat): ∃wa wb wc,Sem.run Tryz.prog (Instr.mapUpdate 81 (.map (some W.heap.size)) (.int .i32 82) (.pointer (some ⟨O,1,none⟩))) (W.alloc (.map #[] 0))= .ok () wa∧
    Sem.run Tryz.prog (Instr.mapUpdate 81 (.map (some W.heap.size)) (.int .i32 83) (.pointer (some ⟨O,2,none⟩))) wa= .ok () wb∧
    Sem.run Tryz.prog (Instr.mapUpdate 81 (.map (some W.heap.size)) (.int .i32 84) (.pointer (some ⟨O,3,none⟩))) wb= .ok () wc∧OM wc O W.heap.size∧Below W.heap.size W wc:=by
  have o0:=World.ownsMap_made W Tryz.prog 21 (ptrR O);obtain⟨wa,ra,oa,ga⟩:=o0.update law21 Tryz.underlying81 (by decide) (key:=.int .i32 82) (val:=.pointer (some ⟨O,1,none⟩)) (Maps.keyOf_int_mk Tryz.underlying21 (by decide)) (ptrR_mk O 1)
  obtain⟨wb,rb,ob,gb⟩:=oa.update law21 Tryz.underlying81 (by decide) (key:=.int .i32 83) (val:=.pointer (some ⟨O,2,none⟩)) (Maps.keyOf_int_mk Tryz.underlying21 (by decide)) (ptrR_mk O 2)
  obtain⟨wc,rc,oc,gc⟩:=ob.update law21 Tryz.underlying81 (by decide) (key:=.int .i32 84) (val:=.pointer (some ⟨O,3,none⟩)) (Maps.keyOf_int_mk Tryz.underlying21 (by decide)) (ptrR_mk O 3)
  refine⟨wa,wb,wc,ra,rb,rc,oc,?_⟩
  have b0:=below_alloc (Below.refl W.heap.size W) (.map #[] 0);have b1:=b0.grown ga b0.size (fun k hk=>by cases hk;exact Nat.le_refl _)
  have b2:=b1.grown gb b1.size (fun k hk=>by cases hk;exact Nat.le_refl _)
  exact b2.grown gc b2.size (fun k hk=>by cases hk;exact Nat.le_refl _)
theorem zero89 (w:World):(zeroValue 80).run Tryz.prog w= .ok (.pointer none) w:=by kernel_rfl
theorem look3 {W:World} {O M:Nat} (h:OM W O M):
    Sem.run Tryz.prog (Instr.lookup 81 (.map (some M)) (.int .i32 82) false) W= .ok (.pointer (some ⟨O,1,none⟩)) W∧
    Sem.run Tryz.prog (Instr.lookup 81 (.map (some M)) (.int .i32 83) false) W= .ok (.pointer (some ⟨O,2,none⟩)) W∧
    Sem.run Tryz.prog (Instr.lookup 81 (.map (some M)) (.int .i32 84) false) W= .ok (.pointer (some ⟨O,3,none⟩)) W:=by
  refine⟨?_,?_,?_⟩
  · obtain⟨v,ps,h1,h2⟩:=World.ownsMap.lookup h law21 Tryz.underlying81 (zero89 W) (zd:=.lit (.int .i64 (-1))) (zp:=[]) rfl (key:=.int .i32 82) (Maps.keyOf_int_mk Tryz.underlying21 (by decide))
    have e:=ptrR_inv (O:=O) (j:=1) (v:=v) (ps:=ps) (h2.trans rfl);rw[e]at h1
    exact h1
  · obtain⟨v,ps,h1,h2⟩:=World.ownsMap.lookup h law21 Tryz.underlying81 (zero89 W) (zd:=.lit (.int .i64 (-1))) (zp:=[]) rfl (key:=.int .i32 83) (Maps.keyOf_int_mk Tryz.underlying21 (by decide))
    have e:=ptrR_inv (O:=O) (j:=2) (v:=v) (ps:=ps) (h2.trans rfl);rw[e]at h1
    exact h1
  · obtain⟨v,ps,h1,h2⟩:=World.ownsMap.lookup h law21 Tryz.underlying81 (zero89 W) (zd:=.lit (.int .i64 (-1))) (zp:=[]) rfl (key:=.int .i32 84) (Maps.keyOf_int_mk Tryz.underlying21 (by decide))
    have e:=ptrR_inv (O:=O) (j:=3) (v:=v) (ps:=ps) (h2.trans rfl);rw[e]at h1
    exact h1
theorem OR.far {x:ByteArray} {w W W':World} {g N B k:Nat} (h:OR x w W g N B) (hb:Below w.heap.size w W') (hf: ∀j,j≠k→W'.heap[j]?=W.heap[j]?) (h0:w.heap.size≠k) (hg:g≠k) (hB:B≠k):OR x w W' g N B:=
  ⟨⟨hb,(hf _ h0).trans h.1.blk⟩,(hf _ hg).trans h.2.1,(hf _ hB).trans h.2.2⟩
theorem OR.zero {x:ByteArray} {w W:World} {g N B:Nat} (h:OR x w W g N B):W.heap[w.heap.size]?=some zero6:=h.1.blk
theorem free6 {W:World} {g:Nat} {a b c d e f:Value} {t:TypeId} (h:W.heap[g]?=some (.cells #[a,b,c,d,e,f] t (0,0))):W.frozen? ⟨g,0,none⟩=false∧W.frozen? ⟨g,1,none⟩=false∧W.frozen? ⟨g,2,none⟩=false∧W.frozen? ⟨g,3,none⟩=false∧W.frozen? ⟨g,4,none⟩=false∧W.frozen? ⟨g,5,none⟩=false:=⟨blk_frozen h 0,blk_frozen h 1,blk_frozen h 2,blk_frozen h 3,blk_frozen h 4,blk_frozen h 5⟩
theorem piece_size (sep:ByteArray): ∀ (k:Nat) (s:ByteArray),∀p∈Lib.splitB sep 0 k s,p.size≤s.size
  |0,s,p,h=>by
    unfold Lib.splitB at h;rw[List.mem_singleton]at h
    rw[h];exact Nat.le_refl _
  |k+1,s,p,h=>by
    unfold Lib.splitB at h;split at h
    · rw[List.mem_singleton]at h
      rw[h];exact Nat.le_refl _
    · rcases List.mem_cons.1 h with h|h
      · rw[h,ByteArray.size_extract];omega
      · have:=piece_size sep k _ p h
        rw[ByteArray.size_extract]at this;omega
theorem word_size {x X:ByteArray} {i:Nat} (hz:x.size≤24) (h:X=PS.word x i):X.size≤1048576:=by
  rw[h];unfold PS.word;rw[List.getD_eq_getElem?_getD];rcases Nat.lt_or_ge i (piecesB x).length with hi|hi
  · rw[List.getElem?_eq_getElem hi]
    have:=piece_size _ _ x _ (List.getElem_mem hi:(piecesB x)[i]∈Lib.splitB _ 0 _ x);show((piecesB x)[i]).size≤_
    omega
  · rw[List.getElem?_eq_none hi]
    exact Nat.zero_le _
theorem below6 {w W:World} (h:Below w.heap.size w W) (a b c d e f:Value):Below w.heap.size w ((((((W.setCell ⟨w.heap.size,0,none⟩ a).setCell ⟨w.heap.size,1,none⟩ b).setCell ⟨w.heap.size,2,none⟩ c).setCell ⟨w.heap.size,3,none⟩ d).setCell ⟨w.heap.size,4,none⟩ e).setCell ⟨w.heap.size,5,none⟩ f):=
  below_set0 (below_set0 (below_set0 (below_set0 (below_set0 (below_set0 h _ _) _ _) _ _) _ _) _ _) _ _
def SomeNum (X:ByteArray) (W:World) (e:Ending) (w':World):Prop:= ∃ (v:Int) (er:Value),e= .returned (.tuple #[.int .i64 v,er])∧(∀m,Lib.atoiAll X.data.toList= .ok m→v=m)∧Below W.heap.size W w'
theorem some_num (X:ByteArray) (W:World) (hz:X.size≤1048576) (hE:Errs W):Calls Tryz.prog 52 #[.string X] W (SomeNum X W):=by
  by_cases h: ∃v,Lib.atoiAll X.data.toList= .ok v
  · obtain⟨v,h⟩:=h
    refine(atoi_yes X v W hz h).mono ?_
    rintro e w' ⟨rfl,hb⟩
    exact⟨v,_,rfl,fun m hm=>by rw[h]at hm;injection hm,hb⟩
  · refine(atoi_no X W hz hE fun v hv=>h ⟨v,hv⟩).mono ?_
    rintro e w' ⟨v,N,rfl,hb⟩
    exact⟨v,_,rfl,fun m hm=>absurd ⟨m,hm⟩ h,hb⟩
theorem how_size (k:Int):(howR k).f1.size≤4:=by
  revert k;refine fun k=>kinds (P:=fun k=>(howR k).f1.size≤4) (fun k hk=>by unfold howR;rw[if_neg hk];decide) ?_ ?_ ?_ ?_ ?_ ?_ ?_ ?_ ?_ ?_ ?_ ?_ ?_ ?_ k<;>decide
def LO (x:ByteArray) (w W:World) (g N B O M I:Nat) (F:ByteArray) (n:Nat) (cs:Array Value):Prop:=
  OR x w W g N B∧W.heap[O]?=some (.cells cs 39 (0,0))∧OM W O M∧W.heap[I]?=some (.stringIter F n)∧w.heap.size<O∧w.heap.size<I
theorem LO.below {x:ByteArray} {w W:World} {g N B O M I n:Nat} {F:ByteArray} {cs:Array Value} (h:LO x w W g N B O M I F n cs):Below w.heap.size w W:=h.1.below
theorem LO.orr {x:ByteArray} {w W:World} {g N B O M I n:Nat} {F:ByteArray} {cs:Array Value} (h:LO x w W g N B O M I F n cs):OR x w W g N B:=h.1
theorem LO.blk {x:ByteArray} {w W:World} {g N B O M I n:Nat} {F:ByteArray} {cs:Array Value} (h:LO x w W g N B O M I F n cs):W.heap[O]?=some (.cells cs 39 (0,0)):=h.2.1
theorem LO.map {x:ByteArray} {w W:World} {g N B O M I n:Nat} {F:ByteArray} {cs:Array Value} (h:LO x w W g N B O M I F n cs):OM W O M:=h.2.2.1
theorem LO.it {x:ByteArray} {w W:World} {g N B O M I n:Nat} {F:ByteArray} {cs:Array Value} (h:LO x w W g N B O M I F n cs):W.heap[I]?=some (.stringIter F n):=h.2.2.2.1
theorem LO.step {x:ByteArray} {w W W':World} {g N B O M I n:Nat} {F:ByteArray} {cs:Array Value} (h:LO x w W g N B O M I F n cs) (hb:Below W.heap.size W W'):LO x w W' g N B O M I F n cs:=
  ⟨h.1.step hb,blk_below h.2.1 hb,h.2.2.1.step hb,blk_below h.2.2.2.1 hb,h.2.2.2.2⟩
theorem LO.iter {x:ByteArray} {w W:World} {g N B O M I n:Nat} {F:ByteArray} {cs:Array Value} (h:LO x w W g N B O M I F n cs) (m:Nat):LO x w (W.iterAt I F m) g N B O M I F m cs:=by
  obtain⟨h1,h2,h3,h4,h5,h6⟩:=h;have hf: ∀j,j≠I→(W.iterAt I F m).heap[j]?=W.heap[j]?:=fun j hj=>Lib.iterAt_other W I j F m hj
  obtain⟨es,clock,h7,h8⟩:=h3;refine⟨h1.far (Lib.below_iterAt h1.below (by omega) F m) hf (by omega) ?_ ?_,(hf _ ?_).trans h2,⟨es,clock,(hf _ ?_).trans h7,h8⟩,Lib.iterAt_heap W I F n m h4,h5,h6⟩
  · rintro rfl;rw[h1.2.1]at h4;cases h4
  · rintro rfl;rw[h1.2.2]at h4;cases h4
  · rintro rfl;rw[h2]at h4;cases h4
  · rintro rfl;rw[h7]at h4;cases h4
theorem LO.put {x:ByteArray} {w W:World} {g N B O M I n:Nat} {F:ByteArray} {cs:Array Value} (h:LO x w W g N B O M I F n cs) (j:Nat) (u:Value):LO x w (W.setCell ⟨O,j,none⟩ u) g N B O M I F n (cs.setIfInBounds j u):=by
  obtain⟨h1,h2,h3,h4,h5,h6⟩:=h;have hf: ∀i,i≠O→(W.setCell ⟨O,j,none⟩ u).heap[i]?=W.heap[i]?:=fun i hi=>Below.heap_setCell W ⟨O,j,none⟩ u i hi
  obtain⟨es,clock,h7,h8⟩:=h3;refine⟨h1.far (below_set h1.below (by omega)) hf (by omega) ?_ ?_,blk_set h2 j u,⟨es,clock,(hf _ ?_).trans h7,h8⟩,(hf _ ?_).trans h4,h5,h6⟩
  · rintro rfl;rw[h1.2.1]at h2;cases h2
  · rintro rfl;rw[h1.2.2]at h2;cases h2
  · rintro rfl;rw[h7]at h2;cases h2
  · rintro rfl;rw[h4]at h2;cases h2
def OpAns (x:ByteArray) (w:World) (e:Ending) (w':World):Prop:= ∃ (k r s t vk vn:Int) (ok:Bool),e= .returned (.tuple #[.agg #[.int .i64 k,.int .i64 r,.int .i64 s,.int .i64 t,.int .i64 vk,.int .i64 vn],.bool ok])∧Reads x k r s t vk vn ok∧Below w.heap.size w w'
theorem impl_OpRead_any (x:ByteArray) (w:World) (hE:Env w):Calls Tryz.prog 21 #[.string x] w (OpAns x w):=by
  have HE:=Aside0.mk hE;clear hE;by_cases hz:24<x.size
  · have e0:decide ((24:Int)<(x.size:Int))=true:=decide_eq_true (by omega)
    have HZ:=Aside0.mk hz;have HB:=Aside0.mk (Hold.new (Below.refl w.heap.size w) (.cells #[.int .i64 0,.int .i64 0,.int .i64 0,.int .i64 0,.int .i64 0,.int .i64 0] 39));clear hz;go_enter Tryz.func21,Tryz.ntmps21
    go_wp2
    obtain⟨c0,c1,c2,c3,c4,c5⟩:=box6 HB.out.blk;exact bodyPost_ret (v:=.tuple #[.agg #[.int .i64 0,.int .i64 0,.int .i64 0,.int .i64 0,.int .i64 0,.int .i64 0],.bool false]) (by simp[results,Tryz.results21,go_sem,c0,c1,c2,c3,c4,c5]) rfl ⟨0,0,0,0,0,0,false,rfl,reads_long HZ.out,HB.out.below⟩
  have e0:decide ((24:Int)<(x.size:Int))=false:=decide_eq_false (by omega)
  have HS:Aside0 (∀W,Below w.heap.size w W→Calls Tryz.prog 46 #[.string x,.string ⟨#[32]⟩] W (Words x W)):=⟨fun W hW=>split_any x W (by omega) (HE.out.below hW)⟩
  have HM:Aside0 (∀W,Calls Tryz.prog 48 #[] W fun e w'=> ∃g,e= .returned (.slice (some ⟨g,0,none⟩) 15 15)∧IsManners W w' g):=⟨fun W=>manners_any W⟩
  have HB:=Aside0.mk (Hold.new (Below.refl w.heap.size w) (.cells #[.int .i64 0,.int .i64 0,.int .i64 0,.int .i64 0,.int .i64 0,.int .i64 0] 39));have HZ:=Aside0.mk hz;clear hz;go_enter Tryz.func21,Tryz.ntmps21
  go_upto_region 4 with (go_at_call 46;(with_reducible refine(HS.out _ HB.out.below).mono ?_);rintro e w1 ⟨g,N,rfl,hN,hN1,hb,hw,hg⟩;replace HB:=Aside0.mk (HB.out.step hb);clear hb;have HW:=Aside0.mk hw;have HN:=Aside0.mk (show _∧_∧_ from⟨hN,hN1,hg⟩);clear hw hN hN1 hg)
  have HR:Aside0 (OR x w (w1.alloc (.cells #[.slice (some ⟨g,0,none⟩) N N] 34)) g N w1.heap.size):=⟨⟨HB.out.alloc _,blk_alloc HW.out _,blk_new _ _⟩⟩;clear HB HW HS;obtain⟨B,hB⟩: ∃B,B=w1.heap.size:=⟨_,rfl⟩;rw[←hB]at HR⊢
  clear hB
  go_upto_region 5 with (first
    |(go_at_call 48;(with_reducible refine(HM.out _).mono ?_);rintro e w2 ⟨gm,rfl,hm⟩;replace HR:=Aside0.mk (HR.out.step hm.1);have HI:=Aside0.mk (kind_any HR.out (by have:=HN.out;omega) HN.out.2.1 hm);clear hm)
    |(go_at_call 47;(with_reducible refine(HI.out).mono ?_);rintro e w3 ⟨k,rfl,hk,hb⟩;replace HR:=Aside0.mk (HR.out.step hb);have HK:=Aside0.mk hk;clear hk hb HI HM))
  have HO:Aside0 (OR x w (w3.alloc (.cells #[.int .i64 k,.int .i64 0,.int .i64 0,.int .i64 0,.int .i64 0,.int .i64 0] 39)) g N B∧(w3.alloc (.cells #[.int .i64 k,.int .i64 0,.int .i64 0,.int .i64 0,.int .i64 0,.int .i64 0] 39)).heap[w3.heap.size]?=some (cells6 k 0 0 0 0 0)):=⟨HR.out.alloc _,blk_new _ _⟩;have HOL:=Aside0.mk HR.out.1.lt;clear HR;obtain⟨O,hO⟩: ∃O,O=w3.heap.size:=⟨_,rfl⟩;rw[←hO]at HO HOL⊢
  clear hO;revert HO
  generalize w3.alloc (.cells #[.int .i64 k,.int .i64 0,.int .i64 0,.int .i64 0,.int .i64 0,.int .i64 0] 39)=w4;intro HO;obtain⟨wa,wb,wc,ra,rb,rc,oc,bc⟩:=made3 w4 O;have rm:= @run_makeMap Tryz.prog;have HO2:Aside0 (OR x w wc g N B∧wc.heap[O]?=some (cells6 k 0 0 0 0 0)∧OM wc O w4.heap.size):=⟨HO.out.1.step bc,blk_below HO.out.2 bc,oc⟩;clear oc bc HO;have HW:Aside0 (∀k r s t vk vn W,Calls Tryz.prog 50 #[.agg #[.int .i64 k,.int .i64 r,.int .i64 s,.int .i64 t,.int .i64 vk,.int .i64 vn]] W fun e w'=>e= .returned (.agg #[.string (howR k).f0,.string (howR k).f1,.string (howR k).f2,.bool (howR k).f3])∧Below W.heap.size W w'):=⟨fun k r s t vk vn W=>impl_Op_how.calls k r s t vk vn (howR k).f0 (howR k).f1 (howR k).f2 (howR k).f3 W rfl⟩
  obtain⟨M,hM⟩: ∃M,M=w4.heap.size:=⟨_,rfl⟩;rw[←hM]at ra rb rc HO2
  have rm4:Sem.run Tryz.prog (Instr.makeMap 81 none) w4= .ok (.map (some M)) (w4.alloc (.map #[] 0)):=by rw[hM];exact rm 81 w4
  clear hM rm;have hfd: ∀ (a b c d:Value) (W:World),Sem.run Tryz.prog (Instr.field 77 (.agg #[a,b,c,d]) 1) W= .ok b W:=fun _ _ _ _ _=>by kernel_rfl
  go_upto_region 6 with (fail)
  clear ra rb rc rm4;obtain⟨c0,c1,c2,c3,c4,c5⟩:=box6 HO2.out.2.1;go_upto_block 0 with (go_at_call 50;(with_reducible refine(HW.out _ _ _ _ _ _ _).mono ?_);rintro e w5 ⟨rfl,hb⟩;have HO3:Aside0 (OR x w w5 g N B∧w5.heap[O]?=some (cells6 k 0 0 0 0 0)∧OM w5 O M):=⟨HO2.out.1.step hb,blk_below HO2.out.2.1 hb,HO2.out.2.2.step hb⟩;clear hb HO2 c0 c1 c2 c3 c4 c5)
  obtain⟨F,hF⟩: ∃F,F=(howR k).f1:=⟨_,rfl⟩;rw[←hF];have HF:=Aside0.mk hF;have HL:Aside0 (LO x w (w5.iter F 0) g N B O M w5.heap.size F 0 #[.int .i64 k,.int .i64 0,.int .i64 0,.int .i64 0,.int .i64 0,.int .i64 0]):=⟨⟨HO3.out.1.alloc _,blk_alloc HO3.out.2.1 _,HO3.out.2.2.step (below_alloc (Below.refl _ _) _),blk_new _ _,HOL.out,HO3.out.1.1.lt⟩⟩;clear HO3 hF;obtain⟨I,hI⟩: ∃I,I=w5.heap.size:=⟨_,rfl⟩;rw[←hI]at HL⊢
  clear hI;have HI:Aside0 (Inv x 0 k 0 0 0 0 0):=⟨inv_zero HK.out⟩;go_wp2
  go_loopg [7,8] F.size (fun gg _ _ wr=> ∃ (n:Nat) (r s t vk vn:Int),n≤F.size∧F.size-n≤gg∧Aside0 (LO x w wr g N B O M I F n #[.int .i64 k,.int .i64 r,.int .i64 s,.int .i64 t,.int .i64 vk,.int .i64 vn])∧Aside0 (Inv x n k r s t vk vn))
  case atStart=>exact⟨0,0,0,0,0,0,Nat.zero_le _,Nat.sub_le _ _,HL,HI⟩
  case round=>
    clear HL HI HK;obtain⟨n,r,s,t,vk,vn,hn,hgg,HL,HI⟩:=hrel;by_cases hlt:n<F.size
    · have hcm:F[n]=82∨F[n]=83∨F[n]=84∨F[n]=86:=how_mem (k:=k) (by rw[←HF.out];exact Array.getElem_mem_toList hlt)
      have hnext: ∀ty,(Instr.next (.pointer (some ⟨I,0,none⟩)) true ty).run Tryz.prog wr= .ok (.tuple #[.bool true,.int .i64 n,.int .i32 (F[n]'hlt).toNat]) (wr.iterAt I F (n+1)):=fun ty=>Lib.run_next_ascii_at wr I F n ty HL.out.it hlt (by rcases hcm with h|h|h|h<;>rw[h]<;>decide)
      have HL1:=Aside0.mk (HL.out.iter (n+1));clear HL;have hF4:F.size≤4:=by rw[HF.out];exact how_size k
      have hwr:IntKind.i64.wrap ((n:Int)+1)=(n:Int)+1:=by rw[IntKind.wrap_i64];omega
      have HLT:=Aside0.mk hlt;revert HL1
      generalize wr.iterAt I F (n+1)=W1 at hnext⊢
      intro HL1;have cb:=HL1.out.orr.box;by_cases hs:N≤n+1
      · have e1:decide ((N:Int)≤(n:Int)+1)=true:=decide_eq_true (by omega)
        have HS:=Aside0.mk hs;obtain⟨z0,z1,z2,z3,z4,z5⟩:=box6 HL1.out.orr.zero;obtain⟨f0,f1,f2,f3,f4,f5⟩:=free6 HL1.out.orr.zero;clear hs hcm;go_wp2
        exact bodyPost_ret (v:=.tuple #[.agg #[.int .i64 0,.int .i64 0,.int .i64 0,.int .i64 0,.int .i64 0,.int .i64 0],.bool false]) (by simp[results,Tryz.results21,go_sem,z0,z1,z2,z3,z4,z5]) rfl ⟨0,0,0,0,0,0,false,rfl,inv_short HI.out HF.out HLT.out (by have:=HN.out.1;have:=HS.out;omega),below6 HL1.out.below _ _ _ _ _ _⟩
      · have e1:decide ((N:Int)≤(n:Int)+1)=false:=decide_eq_false (by omega)
        have hnz:(0:Int)≤(n:Int)+1:=by omega
        have hnN:(n:Int)+1<(N:Int):=by omega
        have htn:((n:Int)+1).toNat=n+1:=by omega
        have cw:=HL1.out.orr.word (n+1) (by have:=HN.out.1;omega)
        obtain⟨X,hX⟩: ∃X,X=PS.word x (n+1):=⟨_,rfl⟩;rw[←hX]at cw
        have HX:=Aside0.mk hX;clear hX;rcases hcm with hc|hc|hc|hc
        · have hc0:(F[n]'hlt).toNat=82:=by rw[hc];rfl
          rw[hc0]at hnext
          have HC:=Aside0.mk hc;clear hc hc0;have HLD:=Aside0.mk (HL1.out.step (below_drew (Below.refl W1.heap.size W1)));have l1:=(look3 HLD.out.map).1;have HAT:Aside0 (∀W,Below w.heap.size w W→Calls Tryz.prog 52 #[.string X] W (SomeNum X W)):=⟨fun W hW=>some_num X W (word_size (by have:=HZ.out;omega) HX.out) (HE.out.below hW).1.2⟩
          go_upto_region 9 with (fail)
          go_region_held3 (fun W'=>W'.cell? ⟨B,0,none⟩=some (.slice (some ⟨g,0,none⟩) N N)∧W'.cell? ⟨g,n+1,none⟩=some (.string X)∧Sem.run Tryz.prog (Instr.lookup 81 (.map (some M)) (.int .i32 82) false) W'= .ok (.pointer (some ⟨O,1,none⟩)) W') (go_keep) ((go_at_call 52;(with_reducible refine(HAT.out _ HLD.out.below).mono ?_);rintro e W2 ⟨v,er,rfl,hv,hb⟩;have HL2:=Aside0.mk (HLD.out.step hb);have HVV:=Aside0.mk hv;clear hv hb;have cb2:=HL2.out.orr.box;have cw2:=HL2.out.orr.word (n+1) (by have:=HN.out.1;omega);rw[←HX.out]at cw2;have l12:=(look3 HL2.out.map).1;obtain⟨d0,d1,d2,d3,d4,d5⟩:=box6 HL2.out.blk;obtain⟨g0,g1,g2,g3,g4,g5⟩:=free6 HL2.out.blk;have HL3:=Aside0.mk (HL2.out.put 1 (.int .i64 v));have cb3:=HL3.out.orr.box;have cw3:=HL3.out.orr.word (n+1) (by have:=HN.out.1;omega);rw[←HX.out]at cw3;have l13:=(look3 HL3.out.map).1))
          all_goals
            have HV:=Aside0.mk ((inv_num HI.out HF.out hlt (fun m hm=>HVV.out m (by rw[HX.out];exact hm))).1 HC.out)
            go_wp2
            go_roundg (gk-1)
            case measure=>omega
            case rel=>exact⟨n+1,v,s,t,vk,vn,by omega,by omega,HL3,HV⟩
        · have hc0:(F[n]'hlt).toNat=83:=by rw[hc];rfl
          rw[hc0]at hnext
          have HC:=Aside0.mk hc;clear hc hc0;have HLD:=Aside0.mk (HL1.out.step (below_drew (Below.refl W1.heap.size W1)));have l1:=(look3 HLD.out.map).2.1;have HAT:Aside0 (∀W,Below w.heap.size w W→Calls Tryz.prog 52 #[.string X] W (SomeNum X W)):=⟨fun W hW=>some_num X W (word_size (by have:=HZ.out;omega) HX.out) (HE.out.below hW).1.2⟩
          go_upto_region 9 with (fail)
          go_region_held3 (fun W'=>W'.cell? ⟨B,0,none⟩=some (.slice (some ⟨g,0,none⟩) N N)∧W'.cell? ⟨g,n+1,none⟩=some (.string X)∧Sem.run Tryz.prog (Instr.lookup 81 (.map (some M)) (.int .i32 83) false) W'= .ok (.pointer (some ⟨O,2,none⟩)) W') (go_keep) ((go_at_call 52;(with_reducible refine(HAT.out _ HLD.out.below).mono ?_);rintro e W2 ⟨v,er,rfl,hv,hb⟩;have HL2:=Aside0.mk (HLD.out.step hb);have HVV:=Aside0.mk hv;clear hv hb;have cb2:=HL2.out.orr.box;have cw2:=HL2.out.orr.word (n+1) (by have:=HN.out.1;omega);rw[←HX.out]at cw2;have l12:=(look3 HL2.out.map).2.1;obtain⟨d0,d1,d2,d3,d4,d5⟩:=box6 HL2.out.blk;obtain⟨g0,g1,g2,g3,g4,g5⟩:=free6 HL2.out.blk;have HL3:=Aside0.mk (HL2.out.put 2 (.int .i64 v));have cb3:=HL3.out.orr.box;have cw3:=HL3.out.orr.word (n+1) (by have:=HN.out.1;omega);rw[←HX.out]at cw3;have l13:=(look3 HL3.out.map).2.1))
          all_goals
            have HV:=Aside0.mk ((inv_num HI.out HF.out hlt (fun m hm=>HVV.out m (by rw[HX.out];exact hm))).2.1 HC.out)
            go_wp2
            go_roundg (gk-1)
            case measure=>omega
            case rel=>exact⟨n+1,r,v,t,vk,vn,by omega,by omega,HL3,HV⟩
        · have hc0:(F[n]'hlt).toNat=84:=by rw[hc];rfl
          rw[hc0]at hnext
          have HC:=Aside0.mk hc;clear hc hc0;have HLD:=Aside0.mk (HL1.out.step (below_drew (Below.refl W1.heap.size W1)));have l1:=(look3 HLD.out.map).2.2;have HAT:Aside0 (∀W,Below w.heap.size w W→Calls Tryz.prog 52 #[.string X] W (SomeNum X W)):=⟨fun W hW=>some_num X W (word_size (by have:=HZ.out;omega) HX.out) (HE.out.below hW).1.2⟩
          go_upto_region 9 with (fail)
          go_region_held3 (fun W'=>W'.cell? ⟨B,0,none⟩=some (.slice (some ⟨g,0,none⟩) N N)∧W'.cell? ⟨g,n+1,none⟩=some (.string X)∧Sem.run Tryz.prog (Instr.lookup 81 (.map (some M)) (.int .i32 84) false) W'= .ok (.pointer (some ⟨O,3,none⟩)) W') (go_keep) ((go_at_call 52;(with_reducible refine(HAT.out _ HLD.out.below).mono ?_);rintro e W2 ⟨v,er,rfl,hv,hb⟩;have HL2:=Aside0.mk (HLD.out.step hb);have HVV:=Aside0.mk hv;clear hv hb;have cb2:=HL2.out.orr.box;have cw2:=HL2.out.orr.word (n+1) (by have:=HN.out.1;omega);rw[←HX.out]at cw2;have l12:=(look3 HL2.out.map).2.2;obtain⟨d0,d1,d2,d3,d4,d5⟩:=box6 HL2.out.blk;obtain⟨g0,g1,g2,g3,g4,g5⟩:=free6 HL2.out.blk;have HL3:=Aside0.mk (HL2.out.put 3 (.int .i64 v));have cb3:=HL3.out.orr.box;have cw3:=HL3.out.orr.word (n+1) (by have:=HN.out.1;omega);rw[←HX.out]at cw3;have l13:=(look3 HL3.out.map).2.2))
          all_goals
            have HV:=Aside0.mk ((inv_num HI.out HF.out hlt (fun m hm=>HVV.out m (by rw[HX.out];exact hm))).2.2 HC.out)
            go_wp2
            go_roundg (gk-1)
            case measure=>omega
            case rel=>exact⟨n+1,r,s,v,vk,vn,by omega,by omega,HL3,HV⟩
        · have hc86:(F[n]'hlt).toNat=86:=by rw[hc];rfl
          rw[hc86]at hnext
          have HC:=Aside0.mk hc;clear hc hc86;obtain⟨va,vb,vok,hrv⟩: ∃a b c,readV X=(a,b,c):=⟨_,_,_,rfl⟩;have HR:Aside0 (∀W,Below w.heap.size w W→Calls Tryz.prog 51 #[.string X] W fun e w'=>e= .returned (.tuple #[.agg #[.int .i64 va,.int .i64 vb],.bool vok])∧Below W.heap.size W w'):=⟨fun W hW=>(impl_ValRead_any X W (word_size (by have:=HZ.out;omega) HX.out) (HE.out.below hW).1.1 (HE.out.below hW).1.2).mono fun e w' ⟨h1,h2⟩=>⟨by rw[h1,hrv],h2⟩⟩
          have HV:Aside0 (Inv x (n+1) k r s t va vb):=⟨inv_val HI.out HF.out hlt (by rw[←HX.out];exact hrv) HC.out⟩
          clear hrv;go_wp2_with (go_at_call 51;(with_reducible refine(HR.out _ HL1.out.below).mono ?_);rintro e W2 ⟨rfl,hb⟩;replace HL1:=Aside0.mk (HL1.out.step hb);clear hb;obtain⟨d0,d1,d2,d3,d4,d5⟩:=box6 HL1.out.blk;obtain⟨g0,g1,g2,g3,g4,g5⟩:=free6 HL1.out.blk)
          go_roundg (gk-1)
          case measure=>omega
          case rel=>exact⟨n+1,r,s,t,va,vb,by omega,by omega,⟨(HL1.out.put 4 (.int .i64 va)).put 5 (.int .i64 vb)⟩,HV⟩
    · have hnext: ∀ty,(Instr.next (.pointer (some ⟨I,0,none⟩)) true ty).run Tryz.prog wr= .ok (.tuple #[.bool false]) wr:=fun ty=>Lib.run_next_end_at wr I F n ty HL.out.it hlt
      have HLT:=Aside0.mk hlt;have HOK:Aside0 (∀W,Calls Tryz.prog 33 #[.agg #[.int .i64 k,.int .i64 r,.int .i64 s,.int .i64 t,.int .i64 vk,.int .i64 vn]] W fun e w'=>e= .returned (.bool (opB k r s t vk vn))∧Below W.heap.size W w'):=⟨fun W=>impl_OpOk.calls k r s t vk vn _ W rfl⟩
      have HTX:Aside0 (∀W,Below w.heap.size w W→Calls Tryz.prog 27 #[.agg #[.int .i64 k,.int .i64 r,.int .i64 s,.int .i64 t,.int .i64 vk,.int .i64 vn]] W fun e w'=>e= .returned (.string (opText k r s t vk vn))∧Below W.heap.size W w'):=⟨fun W hW=>impl_OpText_any k r s t vk vn W (HE.out.below hW).1.1⟩
      have HNO:Aside0 (¬(opB k r s t vk vn=true∧opText k r s t vk vn=x)→Reads x 0 0 0 0 0 0 false):=⟨reads_no HI.out HF.out hlt⟩;have HYES:Aside0 (opB k r s t vk vn=true→opText k r s t vk vn=x→Reads x k r s t vk vn true):=⟨fun h1 h2=>reads_yes (F:=F) (n:=n) h1 h2⟩
      obtain⟨b,hb⟩: ∃b,opB k r s t vk vn=b:=⟨_,rfl⟩;obtain⟨X,hX⟩: ∃X,opText k r s t vk vn=X:=⟨_,rfl⟩;rw[hb]at HOK HNO HYES
      rw[hX]at HTX HNO HYES
      clear hlt hn hb hX;obtain⟨d0,d1,d2,d3,d4,d5⟩:=box6 HL.out.blk;obtain⟨z0,z1,z2,z3,z4,z5⟩:=box6 HL.out.orr.zero;obtain⟨f0,f1,f2,f3,f4,f5⟩:=free6 HL.out.orr.zero;cases b with
      |false=>
        go_wp2_with (go_at_call 33;(with_reducible refine(HOK.out _).mono ?_);rintro e W2 ⟨rfl,hb⟩;replace HL:=Aside0.mk (HL.out.step hb);clear hb z0 z1 z2 z3 z4 z5 f0 f1 f2 f3 f4 f5;obtain⟨z0,z1,z2,z3,z4,z5⟩:=box6 HL.out.orr.zero;obtain⟨f0,f1,f2,f3,f4,f5⟩:=free6 HL.out.orr.zero)
        exact bodyPost_ret (v:=.tuple #[.agg #[.int .i64 0,.int .i64 0,.int .i64 0,.int .i64 0,.int .i64 0,.int .i64 0],.bool false]) (by simp[results,Tryz.results21,go_sem,z0,z1,z2,z3,z4,z5]) rfl ⟨0,0,0,0,0,0,false,rfl,HNO.out (by simp),below6 HL.out.below _ _ _ _ _ _⟩
      |true=>
        by_cases hv:X=x
        · have e2:(X.toList==x.toList)=true:=by rw[hv];simp
          have HV:=Aside0.mk hv;clear hv
          go_wp2_with (first
            |(go_at_call 33;(with_reducible refine(HOK.out _).mono ?_);rintro e W2 ⟨rfl,hb⟩;replace HL:=Aside0.mk (HL.out.step hb);clear hb z0 z1 z2 z3 z4 z5 f0 f1 f2 f3 f4 f5 d0 d1 d2 d3 d4 d5;obtain⟨d0,d1,d2,d3,d4,d5⟩:=box6 HL.out.blk;obtain⟨z0,z1,z2,z3,z4,z5⟩:=box6 HL.out.orr.zero;obtain⟨f0,f1,f2,f3,f4,f5⟩:=free6 HL.out.orr.zero)
            |(go_at_call 27;(with_reducible refine(HTX.out _ HL.out.below).mono ?_);rintro e W3 ⟨rfl,hb⟩;replace HL:=Aside0.mk (HL.out.step hb);clear hb z0 z1 z2 z3 z4 z5 f0 f1 f2 f3 f4 f5 d0 d1 d2 d3 d4 d5;obtain⟨d0,d1,d2,d3,d4,d5⟩:=box6 HL.out.blk;obtain⟨z0,z1,z2,z3,z4,z5⟩:=box6 HL.out.orr.zero;obtain⟨f0,f1,f2,f3,f4,f5⟩:=free6 HL.out.orr.zero))
          exact bodyPost_ret (v:=.tuple #[.agg #[.int .i64 k,.int .i64 r,.int .i64 s,.int .i64 t,.int .i64 vk,.int .i64 vn],.bool true]) (by simp[results,Tryz.results21,go_sem,z0,z1,z2,z3,z4,z5]) rfl ⟨k,r,s,t,vk,vn,true,rfl,HYES.out (by trivial) HV.out,below6 HL.out.below _ _ _ _ _ _⟩
        · have e2 : (X.toList == x.toList) = false := by
            rw[toListD,toListD,beq_eq_false_iff_ne];intro h;exact hv (Go.WideShapes.bytes_inj h)
          have HV:=Aside0.mk hv;clear hv
          go_wp2_with (first
            |(go_at_call 33;(with_reducible refine(HOK.out _).mono ?_);rintro e W2 ⟨rfl,hb⟩;replace HL:=Aside0.mk (HL.out.step hb);clear hb z0 z1 z2 z3 z4 z5 f0 f1 f2 f3 f4 f5 d0 d1 d2 d3 d4 d5;obtain⟨d0,d1,d2,d3,d4,d5⟩:=box6 HL.out.blk;obtain⟨z0,z1,z2,z3,z4,z5⟩:=box6 HL.out.orr.zero;obtain⟨f0,f1,f2,f3,f4,f5⟩:=free6 HL.out.orr.zero)
            |(go_at_call 27;(with_reducible refine(HTX.out _ HL.out.below).mono ?_);rintro e W3 ⟨rfl,hb⟩;replace HL:=Aside0.mk (HL.out.step hb);clear hb z0 z1 z2 z3 z4 z5 f0 f1 f2 f3 f4 f5 d0 d1 d2 d3 d4 d5;obtain⟨d0,d1,d2,d3,d4,d5⟩:=box6 HL.out.blk;obtain⟨z0,z1,z2,z3,z4,z5⟩:=box6 HL.out.orr.zero;obtain⟨f0,f1,f2,f3,f4,f5⟩:=free6 HL.out.orr.zero))
          exact bodyPost_ret (v:=.tuple #[.agg #[.int .i64 0,.int .i64 0,.int .i64 0,.int .i64 0,.int .i64 0,.int .i64 0],.bool false]) (by simp[results,Tryz.results21,go_sem,z0,z1,z2,z3,z4,z5]) rfl ⟨0,0,0,0,0,0,false,rfl,HNO.out (fun h=>HV.out h.2),below6 HL.out.below _ _ _ _ _ _⟩
end Go.Proofs.YtmklpbmlgjkbiaaGreatDoor.PS
end
