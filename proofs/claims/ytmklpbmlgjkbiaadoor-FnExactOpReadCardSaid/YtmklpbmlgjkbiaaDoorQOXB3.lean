/- What the rows of OXB rest on, part 4. -/
import Derived.Outline
import Derived.Test.YtmklpbmlgjkbiaaDoorQOXB2
set_option linter.unusedVariables false
set_option linter.unusedSimpArgs false
set_option maxHeartbeats 8000000
set_option maxRecDepth 100000
section
namespace Go.Proofs.YtmklpbmlgjkbiaaDoor.PS
open Go.RowKit Go.Proofs.YtmklpbmlgjkbiaaDoorW.PrintWords Go.Proofs.YtmklpbmlgjkbiaaDoorW.PrintLast Go.Proofs.YtmklpbmlgjkbiaaDoorW.PrintMore
attribute [local go_sem] max2_int min2_int max_two min_two max_three min_three max_four min_four   -- for this text's walks alone
mutual
def spec_l1Dec.j0:Nat→ByteArray→Int→Bool→Option (Int×Bool)
  |0,_,_,_=>none
  |k+1,x0,x4,x14=>if x14=true then(if 1≤(x0.size:Int)then(spec_l1Dec.j1 k (x0.extract 1 x0.size) (-1))else(none))else(spec_l1Dec.j1 k x0 x4)
def spec_l1Dec.j1:Nat→ByteArray→Int→Option (Int×Bool)
  |0,_,_=>none
  |k+1,x0,x4=>(spec_l6In.f (x0.size:Int) 1 2).bind fun t295=>(if t295=true then(spec_l1Dec.l0 k x0 x4 0 0)else(some (0,false)))
def spec_l1Dec.l0:Nat→ByteArray→Int→Int→Int→Option (Int×Bool)
  |0,_,_,_,_=>none
  |k+1,x0,x4,x5,x6=>if x6<(x0.size:Int)then(if 0≤x6 then(if(bt x0 x6)<48 then(spec_l1Dec.j3 k x0 x4 x5 x6 true)else(spec_l1Dec.j3 k x0 x4 x5 x6 (decide ((bt x0 x6)>57))))else(none))else(some (wrap64 (x4*x5),true))
def spec_l1Dec.j3:Nat→ByteArray→Int→Int→Int→Bool→Option (Int×Bool)
  |0,_,_,_,_,_=>none
  |k+1,x0,x4,x5,x6,x36=>if x36=true then(some (0,false))else(if 0≤x6 then(if x6<(x0.size:Int)then(spec_l1Dec.l0 k x0 x4 (wrap64 ((wrap64 (10*x5))+(((bt x0 x6)-48)%256))) (wrap64 (x6+1)))else(none))else(none))
end
def spec_l1Dec.f (k:Nat) (a0:ByteArray):Option (Int×Bool):=if(a0.size:Int)>1 then(if 0<(a0.size:Int)then(spec_l1Dec.j0 k a0 1 ((bt a0 0)==45))else(none))else(spec_l1Dec.j0 k a0 1 false)
theorem spec_l1Dec.mono_l: ∀k,(∀y0 y1 y2,LeO (spec_l1Dec.j0 k y0 y1 y2) (spec_l1Dec.j0 (k+1) y0 y1 y2))∧(∀y0 y1,LeO (spec_l1Dec.j1 k y0 y1) (spec_l1Dec.j1 (k+1) y0 y1))∧(∀y0 y1 y2 y3,LeO (spec_l1Dec.l0 k y0 y1 y2 y3) (spec_l1Dec.l0 (k+1) y0 y1 y2 y3))∧(∀y0 y1 y2 y3 y4,LeO (spec_l1Dec.j3 k y0 y1 y2 y3 y4) (spec_l1Dec.j3 (k+1) y0 y1 y2 y3 y4))
  |0=>⟨fun _ _ _ r h=>by simp[spec_l1Dec.j0]at h,fun _ _ r h=>by simp[spec_l1Dec.j1]at h,fun _ _ _ _ r h=>by simp[spec_l1Dec.l0]at h,fun _ _ _ _ _ r h=>by simp[spec_l1Dec.j3]at h⟩
  |k+1=>by
    obtain⟨ih0,ih1,ih2,ih3⟩:=spec_l1Dec.mono_l k;refine⟨?_,?_,?_,?_⟩
    · intro y0 y1 y2
      unfold spec_l1Dec.j0;repeat' first
      |(with_reducible exact ih0 _ _ _)
      |(with_reducible exact ih1 _ _)
      |(with_reducible exact ih2 _ _ _ _)
      |(with_reducible exact ih3 _ _ _ _ _)
      |(with_reducible exact LeO.refl _)
      |(with_reducible exact LeO.none _)
      |(with_reducible refine LeO.ite ?_ ?_)
      |(with_reducible refine LeO.bind ?_ (fun _=> ?_))
      |exact ih0 _ _ _
      |exact ih1 _ _
      |exact ih2 _ _ _ _
      |exact ih3 _ _ _ _ _
      |exact LeO.none _
      |refine LeO.ite ?_ ?_
      |refine LeO.bind ?_ (fun _=> ?_)
    · intro y0 y1
      unfold spec_l1Dec.j1;repeat' first
      |(with_reducible exact ih0 _ _ _)
      |(with_reducible exact ih1 _ _)
      |(with_reducible exact ih2 _ _ _ _)
      |(with_reducible exact ih3 _ _ _ _ _)
      |(with_reducible exact LeO.refl _)
      |(with_reducible exact LeO.none _)
      |(with_reducible refine LeO.ite ?_ ?_)
      |(with_reducible refine LeO.bind ?_ (fun _=> ?_))
      |exact ih0 _ _ _
      |exact ih1 _ _
      |exact ih2 _ _ _ _
      |exact ih3 _ _ _ _ _
      |exact LeO.none _
      |refine LeO.ite ?_ ?_
      |refine LeO.bind ?_ (fun _=> ?_)
    · intro y0 y1 y2 y3
      unfold spec_l1Dec.l0;repeat' first
      |(with_reducible exact ih0 _ _ _)
      |(with_reducible exact ih1 _ _)
      |(with_reducible exact ih2 _ _ _ _)
      |(with_reducible exact ih3 _ _ _ _ _)
      |(with_reducible exact LeO.refl _)
      |(with_reducible exact LeO.none _)
      |(with_reducible refine LeO.ite ?_ ?_)
      |(with_reducible refine LeO.bind ?_ (fun _=> ?_))
      |exact ih0 _ _ _
      |exact ih1 _ _
      |exact ih2 _ _ _ _
      |exact ih3 _ _ _ _ _
      |exact LeO.none _
      |refine LeO.ite ?_ ?_
      |refine LeO.bind ?_ (fun _=> ?_)
    · intro y0 y1 y2 y3 y4
      unfold spec_l1Dec.j3;repeat' first
      |(with_reducible exact ih0 _ _ _)
      |(with_reducible exact ih1 _ _)
      |(with_reducible exact ih2 _ _ _ _)
      |(with_reducible exact ih3 _ _ _ _ _)
      |(with_reducible exact LeO.refl _)
      |(with_reducible exact LeO.none _)
      |(with_reducible refine LeO.ite ?_ ?_)
      |(with_reducible refine LeO.bind ?_ (fun _=> ?_))
      |exact ih0 _ _ _
      |exact ih1 _ _
      |exact ih2 _ _ _ _
      |exact ih3 _ _ _ _ _
      |exact LeO.none _
      |refine LeO.ite ?_ ?_
      |refine LeO.bind ?_ (fun _=> ?_)
theorem spec_l1Dec.mono: ∀a0 k,LeO (spec_l1Dec.f k a0) (spec_l1Dec.f (k+1) a0):=by
  intro a0 k;obtain⟨ih0,ih1,ih2,ih3⟩:=spec_l1Dec.mono_l k;unfold spec_l1Dec.f
  repeat' first
      |(with_reducible exact ih0 _ _ _)
      |(with_reducible exact ih1 _ _)
      |(with_reducible exact ih2 _ _ _ _)
      |(with_reducible exact ih3 _ _ _ _ _)
      |(with_reducible exact LeO.refl _)
      |(with_reducible exact LeO.none _)
      |(with_reducible refine LeO.ite ?_ ?_)
      |(with_reducible refine LeO.bind ?_ (fun _=> ?_))
      |exact ih0 _ _ _
      |exact ih1 _ _
      |exact ih2 _ _ _ _
      |exact ih3 _ _ _ _ _
      |exact LeO.none _
      |refine LeO.ite ?_ ?_
      |refine LeO.bind ?_ (fun _=> ?_)
theorem spec_l1Dec.calls (k:Nat) (a0:ByteArray) (r1:Int) (r2:Bool) (w:World) (h:spec_l1Dec.f k a0=some (r1,r2)):
    Calls Tryd.prog 57 #[.string a0] w fun e w'=>e= .returned (.tuple #[.int .i64 r1,.bool r2])∧Drawn0 w w':=by
  have H:(if(a0.size:Int)>1 then(if 0<(a0.size:Int)then(spec_l1Dec.j0 k a0 1 ((bt a0 0)==45))else(none))else(spec_l1Dec.j0 k a0 1 false))=some (r1,r2):=h
  clear h;have HC2:=Aside0.mk H;clear H;go_enter Tryd.func57,Tryd.ntmps57
  go_upto_region 2 with (fail)
  go_cut [14] (fun v14 wc=> ∃ (kq:Nat) (x14_1:Bool),v14= .bool x14_1∧Aside0 (spec_l1Dec.j0 kq a0 1 x14_1=some (r1,r2))∧Aside0 (kq≤k)∧Drawn0 w wc)
  case first=>
    have H:=HC2.out;clear HC2;by_cases c3:(a0.size:Int)>1
    · rw[if_pos c3]at H
      have c3b0:decide (1<(a0.size:Int))=true:=decide_eq_true c3;have c3b1:decide (1<a0.size)=true:=decide_eq_true (by omega)
      clear c3;(first|rw[c3b0]|(simp only[i64_w,i32_w];rw[c3b0])|skip)
      by_cases c4:0<(a0.size:Int)
      · rw[if_pos c4]at H
        have c4b0:decide (0<(a0.size:Int))=true:=decide_eq_true c4;have c4b1:decide (0<a0.size)=true:=decide_eq_true (by omega)
        clear c4;have H':=Aside0.mk H;clear H;have p5:0≤(0:Int):=(by omega)
        have q5:0<a0.size:=(by have:(0:Int)<(a0.size:Int):=of_decide_eq_true (by first|(with_reducible assumption)|assumption);omega)
        have hx5: ∀h:0<a0.size,((a0[0]'h).toNat:Int)=bt a0 0:=bt_at a0 0;clear p5;have qi5:(0<(a0.size:Int))=True:=eq_true (of_decide_eq_true (by first|(with_reducible assumption)|assumption))
        replace q5:=eq_true q5;go_wp2
        go_meet
        case rel=>exact⟨_,(((bt a0 0)==45)),(by first|rfl|(simp;done)|(simp[*];done)),H',⟨by first|omega|exact Nat.le_refl _⟩,by repeat(first|exact Drawn0.refl _|apply Drawn0.step)⟩
      · rw[if_neg c4]at H
        exact absurd H (by simp)
    · rw[if_neg c3]at H
      have c3b0:decide (1<(a0.size:Int))=false:=decide_eq_false c3;have c3b1:decide (1<a0.size)=false:=decide_eq_false (by omega)
      clear c3;(first|rw[c3b0]|(simp only[i64_w,i32_w];rw[c3b0])|skip)
      have H':=Aside0.mk H;clear H;go_wp2
      go_meet
      case rel=>exact⟨_,(false),(by first|rfl|(simp;done)|(simp[*];done)),H',⟨by first|omega|exact Nat.le_refl _⟩,by repeat(first|exact Drawn0.refl _|apply Drawn0.step)⟩
  case rest=>
    clear HC2;try clear p2
    try clear c3
    try clear c3b0
    try clear c3b1
    try clear c4
    try clear c4b0
    try clear c4b1
    try clear c5
    try clear p5
    try clear q5
    try clear hx5
    try clear qi5
    try clear p5
    try clear q5
    obtain⟨kq,x14_1,rfl,HA,HJ1,⟨mc1,rfl⟩⟩:=hcut;cases kq with
    |zero=>exact absurd HA.out (by simp[spec_l1Dec.j0])
    |succ kj1=>
      have H:=HA.out;clear HA;simp only[spec_l1Dec.j0]at H
      have HC6:=Aside0.mk H;clear H;go_upto_if 14 with (fail)
      go_cut [0,4] (fun v0 v4 wc=> ∃ (kq:Nat) (x0_5:ByteArray) (x4_5:Int),v0= .string x0_5∧v4= .int .i64 x4_5∧Aside0 (spec_l1Dec.j1 kq x0_5 x4_5=some (r1,r2))∧Aside0 (kq≤kj1)∧Drawn0 w wc)
      case first=>
        have H:=HC6.out;clear HC6;by_cases c7:x14_1=true
        · subst c7
          have H1:(if 1≤(a0.size:Int)then(spec_l1Dec.j1 kj1 (a0.extract 1 a0.size) (-1))else(none))=some (r1,r2):=by rw[if_pos rfl]at H;exact H
          clear H;have H:=H1;clear H1;by_cases c8:1≤(a0.size:Int)
          · rw[if_pos c8]at H
            have c8b0:=eq_true c8;have c8b1:decide (1≤(a0.size:Int))=true:=decide_eq_true c8;clear c8;have H':=Aside0.mk H;clear H;go_wp2
            go_meet
            case rel=>exact⟨_,(a0.extract 1 a0.size),((-1)),(by first|rfl|(simp;done)|(simp[*];done)),(by first|rfl|(simp;done)|(simp[*];done)),H',⟨by have:=HJ1.out;first|omega|exact Nat.le_refl _⟩,by repeat(first|exact Drawn0.refl _|apply Drawn0.step)⟩
          · rw[if_neg c8]at H
            exact absurd H (by simp)
        · replace c7:=Bool.eq_false_iff.mpr c7
          subst c7;have H1:(spec_l1Dec.j1 kj1 a0 1)=some (r1,r2):=by rw[if_neg (show¬(false=true) by decide)]at H;exact H
          clear H;have H:=H1;clear H1;have H':=Aside0.mk H;clear H;go_wp2
          go_meet
          case rel=>exact⟨_,(a0),(1),(by first|rfl|(simp;done)|(simp[*];done)),(by first|rfl|(simp;done)|(simp[*];done)),H',⟨by have:=HJ1.out;first|omega|exact Nat.le_refl _⟩,by repeat(first|exact Drawn0.refl _|apply Drawn0.step)⟩
      case rest=>
        clear HC6;try clear c1
        try clear p2
        try clear c3
        try clear c3b0
        try clear c3b1
        try clear c4
        try clear c4b0
        try clear c4b1
        try clear c5
        try clear p5
        try clear q5
        try clear hx5
        try clear qi5
        try clear c7
        try clear c8
        try clear c8b0
        try clear c8b1
        try clear p2
        try clear p5
        try clear q5
        obtain⟨kq,x0_5,x4_5,rfl,rfl,HA,HJ5,⟨mc5,rfl⟩⟩:=hcut;cases kq with
        |zero=>exact absurd HA.out (by simp[spec_l1Dec.j1])
        |succ kj5=>
          have H:=HA.out;clear HA;simp only[spec_l1Dec.j1]at H
          replace H:=Option.bind_eq_some_iff.mp H;obtain⟨t295,A90,H⟩:=H;replace H:(if t295=true then(spec_l1Dec.l0 kj5 x0_5 x4_5 0 0)else(some (0,false)))=some (r1,r2):=H
          have A9:=Aside0.mk A90;clear A90;by_cases c10:t295=true
          · subst c10
            have H1:(spec_l1Dec.l0 kj5 x0_5 x4_5 0 0)=some (r1,r2):=by rw[if_pos rfl]at H;exact H
            clear H;have H:=H1;clear H1;have H':=Aside0.mk H;clear H;go_wp2_with (first|((with_reducible refine gate_callee (f:=56) rfl ?_);refine goesL_ (some 19) rfl rfl Tryd.func56 (by kernel_rfl) rfl #[.int .i64 (x0_5.size:Int),.int .i64 1,.int .i64 2] rfl (by(try simp only[List.map_toArray,List.map_cons,List.map_nil]);first|done|rfl|(simp only[List.length_drop,List.length_take];rfl)) ?_;(with_reducible refine(spec_l6In.calls (x0_5.size:Int) 1 2 true _ A9.out).mono ?_);rintro e w' ⟨rfl,⟨nd,rfl⟩⟩;refine⟨_,rfl,?_⟩))
            go_loopg [5,6] kj5 (fun kq v5 v6 w'=> ∃ (x5_3:Int) (x6_3:Int),v5= .int .i64 x5_3∧v6= .int .i64 x6_3∧Aside0 (spec_l1Dec.l0 kq x0_5 x4_5 x5_3 x6_3=some (r1,r2))∧Aside0 (kq≤kj5)∧Drawn0 w w')
            case atStart=>exact⟨(0),(0),(by first|rfl|(simp;done)|(simp[*];done)),(by first|rfl|(simp;done)|(simp[*];done)),H',⟨Nat.le_refl _⟩,by repeat(first|exact Drawn0.refl _|apply Drawn0.step)⟩
            case round=>
              clear H';try clear c1
              try clear p2
              try clear c3
              try clear c3b0
              try clear c3b1
              try clear c4
              try clear c4b0
              try clear c4b1
              try clear c5
              try clear p5
              try clear q5
              try clear hx5
              try clear qi5
              try clear c7
              try clear c8
              try clear c8b0
              try clear c8b1
              try clear c10
              try clear p2
              try clear p5
              try clear q5
              obtain⟨x5_3,x6_3,rfl,rfl,HA,HK3,⟨m3,rfl⟩⟩:=hrel;cases gk with
              |zero=>exact absurd HA.out (by simp[spec_l1Dec.l0])
              |succ k3=>
                have H:=HA.out;clear HA;simp only[spec_l1Dec.l0]at H
                by_cases c11:x6_3<(x0_5.size:Int)
                · rw[if_pos c11]at H
                  have c11b0:decide (x6_3<(x0_5.size:Int))=true:=decide_eq_true c11;clear c11;have HC12:=Aside0.mk H;clear H;go_upto_region 11 with (fail)
                  go_cut [36] (fun v36 wc=> ∃ (kq:Nat) (x36_11:Bool),v36= .bool x36_11∧Aside0 (spec_l1Dec.j3 kq x0_5 x4_5 x5_3 x6_3 x36_11=some (r1,r2))∧Aside0 (kq≤k3)∧Drawn0 w wc)
                  case first=>
                    have H:=HC12.out;clear HC12;by_cases c13:0≤x6_3
                    · rw[if_pos c13]at H
                      have c13b0:decide (0≤x6_3)=true:=decide_eq_true c13;clear c13;(first|rw[c13b0]|(simp only[i64_w,i32_w];rw[c13b0])|skip)
                      by_cases c15:(bt x0_5 x6_3)<48
                      · rw[if_pos c15]at H
                        have c15b0:decide ((bt x0_5 x6_3)<48)=true:=decide_eq_true c15;clear c15;have H':=Aside0.mk H;clear H;have p14:0≤(x6_3:Int):=of_decide_eq_true (by first|(with_reducible assumption)|assumption)
                        have q14:x6_3<(x0_5.size:Int):=of_decide_eq_true (by first|(with_reducible assumption)|assumption)
                        have hx14:=bt_at x0_5 x6_3;replace p14:=eq_true p14;replace q14:=eq_true q14;go_wp2
                        go_meet
                        case rel=>exact⟨_,(true),(by first|rfl|(simp;done)|(simp[*];done)),H',⟨by have:=HJ1.out;have:=HJ5.out;have:=HK3.out;first|omega|exact Nat.le_refl _⟩,by repeat(first|exact Drawn0.refl _|apply Drawn0.step)⟩
                      · rw[if_neg c15]at H
                        have c15b0:decide ((bt x0_5 x6_3)<48)=false:=decide_eq_false c15;clear c15;have H':=Aside0.mk H;clear H;have p14:0≤(x6_3:Int):=of_decide_eq_true (by first|(with_reducible assumption)|assumption)
                        have q14:x6_3<(x0_5.size:Int):=of_decide_eq_true (by first|(with_reducible assumption)|assumption)
                        have hx14:=bt_at x0_5 x6_3;replace p14:=eq_true p14;replace q14:=eq_true q14;have p16:0≤(x6_3:Int):=of_decide_eq_true (by first|(with_reducible assumption)|assumption)
                        have q16:x6_3<(x0_5.size:Int):=of_decide_eq_true (by first|(with_reducible assumption)|assumption)
                        have hx16:=bt_at x0_5 x6_3;replace p16:=eq_true p16;replace q16:=eq_true q16;go_wp2
                        go_meet
                        case rel=>exact⟨_,(decide ((bt x0_5 x6_3)>57)),(by first|rfl|(simp;done)|(simp[*];done)),H',⟨by have:=HJ1.out;have:=HJ5.out;have:=HK3.out;first|omega|exact Nat.le_refl _⟩,by repeat(first|exact Drawn0.refl _|apply Drawn0.step)⟩
                    · rw[if_neg c13]at H
                      exact absurd H (by simp)
                  case rest=>
                    clear HC12;try clear c1
                    try clear p1
                    try clear q1
                    try clear hx1
                    try clear p2
                    try clear c3
                    try clear c3b0
                    try clear c3b1
                    try clear c4
                    try clear c4b0
                    try clear c4b1
                    try clear c5
                    try clear p5
                    try clear q5
                    try clear hx5
                    try clear qi5
                    try clear c7
                    try clear c8
                    try clear c8b0
                    try clear c8b1
                    try clear c10
                    try clear c11
                    try clear c11b0
                    try clear c13
                    try clear c13b0
                    try clear p14
                    try clear q14
                    try clear hx14
                    try clear c15
                    try clear c15b0
                    try clear p16
                    try clear q16
                    try clear hx16
                    try clear p14
                    try clear p16
                    try clear p2
                    try clear p5
                    try clear q14
                    try clear q16
                    try clear q5
                    obtain⟨kq,x36_11,rfl,HA,HJ11,⟨mc11,rfl⟩⟩:=hcut;cases kq with
                    |zero=>exact absurd HA.out (by simp[spec_l1Dec.j3])
                    |succ kj11=>
                      have H:=HA.out;clear HA;simp only[spec_l1Dec.j3]at H
                      by_cases c17:x36_11=true
                      · subst c17
                        have H1:(some (0,false))=some (r1,r2):=by rw[if_pos rfl]at H;exact H
                        clear H;have H:=H1;clear H1;simp only[Option.some.injEq,Prod.mk.injEq]at H
                        obtain⟨rfl,rfl⟩:=H;go_wp2
                        go_ret2
                        exact⟨by first|rfl|(simp;done)|(simp[*];done),by repeat(first|exact Drawn0.refl _|apply Drawn0.step)⟩
                      · replace c17:=Bool.eq_false_iff.mpr c17
                        subst c17;have H1:(if 0≤x6_3 then(if x6_3<(x0_5.size:Int)then(spec_l1Dec.l0 kj11 x0_5 x4_5 (wrap64 ((wrap64 (10*x5_3))+(((bt x0_5 x6_3)-48)%256))) (wrap64 (x6_3+1)))else(none))else(none))=some (r1,r2):=by rw[if_neg (show¬(false=true) by decide)]at H;exact H
                        clear H;have H:=H1;clear H1;by_cases c18:0≤x6_3
                        · rw[if_pos c18]at H
                          have c18b0:decide (0≤x6_3)=true:=decide_eq_true c18;clear c18;by_cases c19:x6_3<(x0_5.size:Int)
                          · rw[if_pos c19]at H
                            have c19b0:decide (x6_3<(x0_5.size:Int))=true:=decide_eq_true c19;clear c19;have H':=Aside0.mk H;clear H;have p20:0≤(x6_3:Int):=of_decide_eq_true (by first|(with_reducible assumption)|assumption)
                            have q20:x6_3<(x0_5.size:Int):=of_decide_eq_true (by first|(with_reducible assumption)|assumption)
                            have hx20:=bt_at x0_5 x6_3;replace p20:=eq_true p20;replace q20:=eq_true q20;go_wp2
                            go_roundg kj11
                            case measure=>have:=HJ1.out;have:=HJ5.out;have:=HK3.out;have:=HJ11.out;omega
                            case rel=>exact⟨(wrap64 ((wrap64 (10*x5_3))+(((bt x0_5 x6_3)-48)%256))),(wrap64 (x6_3+1)),(by first|rfl|(simp;done)|(simp[*];done)),(by first|rfl|(simp;done)|(simp[*];done)),H',⟨by have:=HJ1.out;have:=HJ5.out;have:=HK3.out;have:=HJ11.out;omega⟩,by repeat(first|exact Drawn0.refl _|apply Drawn0.step)⟩
                          · rw[if_neg c19]at H
                            exact absurd H (by simp)
                        · rw[if_neg c18]at H
                          exact absurd H (by simp)
                · rw[if_neg c11]at H
                  have c11b0:decide (x6_3<(x0_5.size:Int))=false:=decide_eq_false c11;clear c11;simp only[Option.some.injEq,Prod.mk.injEq]at H
                  obtain⟨rfl,rfl⟩:=H;go_wp2
                  go_ret2
                  exact⟨by first|rfl|(simp;done)|(simp[*];done),by repeat(first|exact Drawn0.refl _|apply Drawn0.step)⟩
          · replace c10:=Bool.eq_false_iff.mpr c10
            subst c10;have H1:(some (0,false))=some (r1,r2):=by rw[if_neg (show¬(false=true) by decide)]at H;exact H
            clear H;have H:=H1;clear H1;simp only[Option.some.injEq,Prod.mk.injEq]at H
            obtain⟨rfl,rfl⟩:=H;go_wp2_with (first|((with_reducible refine gate_callee (f:=56) rfl ?_);refine goesL_ (some 19) rfl rfl Tryd.func56 (by kernel_rfl) rfl #[.int .i64 (x0_5.size:Int),.int .i64 1,.int .i64 2] rfl (by(try simp only[List.map_toArray,List.map_cons,List.map_nil]);first|done|rfl|(simp only[List.length_drop,List.length_take];rfl)) ?_;(with_reducible refine(spec_l6In.calls (x0_5.size:Int) 1 2 false _ A9.out).mono ?_);rintro e w' ⟨rfl,⟨nd,rfl⟩⟩;refine⟨_,rfl,?_⟩))
            go_ret2
            exact⟨by first|rfl|(simp;done)|(simp[*];done),by repeat(first|exact Drawn0.refl _|apply Drawn0.step)⟩
def spec_l6Dec.f:Nat→Int→Option (ByteArray)
  |0,_=>none
  |k+1,a0=>if a0<(-9223372036854775807)then(some (⟨#[45,57,50,50,51,51,55,50,48,51,54,56,53,52,55,55,53,56,48,56]⟩:ByteArray))else(if a0<0 then((spec_l6Dec.f k (wrap64 (-a0))).bind fun t296=>(if 1+t296.size≤9223372036854775807 then(some ((⟨#[45]⟩:ByteArray)++t296))else(none)))else(if a0<10 then(some (strOfNums (([(wrap64 (48+a0))%256]:List Int))))else((spec_l6Dec.f k (wrap64 (Int.tdiv a0 10))).bind fun t300=>((some (([(wrap64 (48+(Int.tmod a0 10)))%256]:List Int):List Int)).bind fun y301=>(if t300.size+(strOfNums y301).size≤9223372036854775807 then(some (t300++(strOfNums y301)))else(none))))))
theorem spec_l6Dec.mono_l: ∀k,(∀y0,LeO (spec_l6Dec.f k y0) (spec_l6Dec.f (k+1) y0))
  |0=>fun _ r h=>by simp[spec_l6Dec.f]at h
  |k+1=>by
    have ih0:=spec_l6Dec.mono_l k
    · intro y0
      unfold spec_l6Dec.f;repeat' first
      |(with_reducible exact ih0 _)
      |(with_reducible exact LeO.refl _)
      |(with_reducible exact LeO.none _)
      |(with_reducible refine LeO.ite ?_ ?_)
      |(with_reducible refine LeO.bind ?_ (fun _=> ?_))
      |exact ih0 _
      |exact LeO.none _
      |refine LeO.ite ?_ ?_
      |refine LeO.bind ?_ (fun _=> ?_)
theorem spec_l6Dec.mono: ∀a0 k,LeO (spec_l6Dec.f k a0) (spec_l6Dec.f (k+1) a0):=by
  intro a0 k;have ih0:=spec_l6Dec.mono_l k;exact ih0 a0
def spec_l6Dec.T7:Bool×List (List Nat×List Nat):=(true,[([],[]),([0],[0]),([1],[1]),([],[]),([3],[3]),([4],[4]),([5],[5]),([6],[6]),([7],[7]),([2,8],[2,8]),([9,2,0,1,2,3,4,5,6,7,8,9],[9])])
def spec_l6Dec.B7:List Nat:=[0,1,3,0,8,24,56,120,248,511,1023]
theorem spec_l6Dec.tab7:rtab .any (opsOf Tryd.f43 7)=spec_l6Dec.T7:=by kernel_rfl
theorem spec_l6Dec.bits7:waitsOk spec_l6Dec.T7.2 spec_l6Dec.B7=true:=by kernel_rfl
theorem spec_l6Dec.calls (k:Nat): ∀ (a0:Int) (r:ByteArray) (w:World) (h:spec_l6Dec.f k a0=some r),
    Calls Tryd.prog 43 #[.int .i64 a0] w fun e w'=>e= .returned (.string r)∧Below w.heap.size w w':=by
  induction k using Nat.strongRecOn with
  |_ k ih=>
  intro a0 r w h;cases k with
  |zero=>exact absurd h (by simp[spec_l6Dec.f])
  |succ k=>
  simp only[spec_l6Dec.f]at h
  have HB:=Aside0.mk (Below.refl w.heap.size w);have H:(if a0<(-9223372036854775807)then(some (⟨#[45,57,50,50,51,51,55,50,48,51,54,56,53,52,55,55,53,56,48,56]⟩:ByteArray))else(if a0<0 then((spec_l6Dec.f k (wrap64 (-a0))).bind fun t296=>(if 1+t296.size≤9223372036854775807 then(some ((⟨#[45]⟩:ByteArray)++t296))else(none)))else(if a0<10 then(some (strOfNums (([(wrap64 (48+a0))%256]:List Int))))else((spec_l6Dec.f k (wrap64 (Int.tdiv a0 10))).bind fun t300=>((some (([(wrap64 (48+(Int.tmod a0 10)))%256]:List Int):List Int)).bind fun y301=>(if t300.size+(strOfNums y301).size≤9223372036854775807 then(some (t300++(strOfNums y301)))else(none)))))))=some r:=h
  clear h;by_cases c2:a0<(-9223372036854775807)
  · rw[if_pos c2]at H
    have c2b0:decide (a0<(-9223372036854775807))=true:=decide_eq_true c2;clear c2;obtain rfl:=Option.some.inj H;go_enter Tryd.func43,Tryd.ntmps43
    go_wp2
    go_ret
    exact⟨by first|rfl|(simp[errW_none,errW_some]<;>rfl)|(simp[*,errW_none,errW_some]<;>rfl),by repeat(first|(with_reducible first|exact HB.out|apply below_alloc|apply pw_below_drewN|apply below_drew1)|exact HB.out)⟩
  · rw[if_neg c2]at H
    have c2b0:decide (a0<(-9223372036854775807))=false:=decide_eq_false c2;clear c2;by_cases c3:a0<0
    · rw[if_pos c3]at H
      have c3b0:decide (a0<0)=true:=decide_eq_true c3;clear c3;replace H:=Option.bind_eq_some_iff.mp H;obtain⟨t296,A40,H⟩:=H;replace H:(if 1+t296.size≤9223372036854775807 then(some ((⟨#[45]⟩:ByteArray)++t296))else(none))=some r:=H
      have A4:=Aside0.mk A40;clear A40;by_cases c5:1+t296.size≤9223372036854775807
      · rw[if_pos c5]at H
        have c5b0:=eq_true c5;have c5b1:decide (1+t296.size≤9223372036854775807)=true:=decide_eq_true c5;try have c5b2:(9223372036854775807<1+t296.size)=False:=eq_false (Nat.not_lt.2 c5)
        obtain rfl:=Option.some.inj H;go_enter Tryd.func43,Tryd.ntmps43
        go_wp2_with (first|((with_reducible refine gate_callee (f:=43) rfl ?_);refine goesL_ (some 9) rfl rfl Tryd.func43 (by kernel_rfl) rfl #[.int .i64 (wrap64 (-a0))] rfl (by(try simp only[List.map_toArray,List.map_cons,List.map_nil]);first|done|rfl|(simp only[List.length_drop,List.length_take];rfl)) ?_;(with_reducible refine(ih k (by omega) (wrap64 (-a0)) t296 _ A4.out).mono ?_);rintro e w6 ⟨rfl,hb⟩;refine⟨_,rfl,?_⟩;have n0_:=Aside0.mk (below_step (by repeat(first|(with_reducible first|exact HB.out|apply below_alloc|apply pw_below_drewN|apply below_drew1)|exact HB.out)) hb);clear HB;have HB:=n0_;clear n0_;(try clear hb);(try clear hb2);(try clear hk);(try clear hi)))
        go_ret
        exact⟨by first|rfl|(simp[errW_none,errW_some]<;>rfl)|(simp[*,errW_none,errW_some]<;>rfl),by repeat(first|(with_reducible first|exact HB.out|apply below_alloc|apply pw_below_drewN|apply below_drew1)|exact HB.out)⟩
      · rw[if_neg c5]at H
        exact absurd H (by simp)
    · rw[if_neg c3]at H
      have c3b0:decide (a0<0)=false:=decide_eq_false c3;clear c3;by_cases c7:a0<10
      · rw[if_pos c7]at H
        have c7b0:decide (a0<10)=true:=decide_eq_true c7;clear c7;obtain⟨y297,hy297⟩: ∃y_:List Int,y_=(([(wrap64 (48+a0))%256]:List Int)):=⟨_,rfl⟩;replace H:(some (strOfNums y297))=some r:=by first|(rw[hy297];with_reducible exact H)|(have H2_:=(Option.bind_some _ _).symm.trans H;rw[hy297];with_reducible exact H2_)|(have H2_:=(Option.bind_some _ _).symm.trans H;with_reducible exact H2_)|with_reducible exact H|(rw[hy297];exact H)|exact H
        have Ny297:=Aside0.mk hy297;clear hy297;obtain rfl:=Option.some.inj H;go_enter Tryd.func43,Tryd.ntmps43
        go_wp2_with (first|((with_reducible refine gate_dst (N:=16) rfl ?_);refine Kd.R_lit (Kd.int .u8) _ 5 ?hg (N:=16) ?hd (xs:=([(wrap64 (48+a0))%256]:List Int)) (inner:=[.int .u8 ((wrap64 (48+a0))%256)]) (ok:=fun _=>True) (okp:=fun _=>True) ?hr ?hp (fun _ hk=>hk) trivial (Below.refl _ _) (Nat.le_refl _) (by simp) ?_;(case hd=>rfl);(case hg=>rfl);(case hr=>first|(go_simp;done)|(go_simp;rfl));(case hp=>exact(Reps.one (show Kd.M (Kd.int .u8) _ _ _ ((wrap64 (48+a0))%256) [.int .u8 ((wrap64 (48+a0))%256)]from rfl) (Reps.none _ _)));intro v298 w8 ho9 hb hg_ hnew_;clear hg_ hnew_;(first|rw[←Ny297.out]at ho9|(simp only[Int.reduceToNat]at ho9;rw[←Ny297.out]at ho9));have n0_:=Aside0.mk (Kd.R_lower ho9 (below_size (by repeat(first|(with_reducible first|exact HB.out|apply below_alloc|apply pw_below_drewN|apply below_drew1)|exact HB.out))));have n1_:=Aside0.mk (below_step (by repeat(first|(with_reducible first|exact HB.out|apply below_alloc|apply pw_below_drewN|apply below_drew1)|exact HB.out)) hb);clear HB;have HO299:=n0_;have HB:=n1_;clear n0_ n1_;clear hb ho9;have hcv10:=own_string (P:=Tryd.prog) Tryd.underlying28 Tryd.underlying5 Tryd.underlying9 (Kd.own_of_R HO299.out)))
        go_ret
        exact⟨by first|rfl|(simp[errW_none,errW_some]<;>rfl)|(simp[*,errW_none,errW_some]<;>rfl),by repeat(first|(with_reducible first|exact HB.out|apply below_alloc|apply pw_below_drewN|apply below_drew1)|exact HB.out)⟩
      · rw[if_neg c7]at H
        have c7b0:decide (a0<10)=false:=decide_eq_false c7;clear c7;replace H:=Option.bind_eq_some_iff.mp H;obtain⟨t300,A110,H⟩:=H;replace H:((some (([(wrap64 (48+(Int.tmod a0 10)))%256]:List Int):List Int)).bind fun y301=>(if t300.size+(strOfNums y301).size≤9223372036854775807 then(some (t300++(strOfNums y301)))else(none)))=some r:=H
        have A11:=Aside0.mk A110;clear A110;obtain⟨y301,hy301⟩: ∃y_:List Int,y_=(([(wrap64 (48+(Int.tmod a0 10)))%256]:List Int)):=⟨_,rfl⟩;replace H:(if t300.size+(strOfNums y301).size≤9223372036854775807 then(some (t300++(strOfNums y301)))else(none))=some r:=by first|(rw[hy301];with_reducible exact H)|(have H2_:=(Option.bind_some _ _).symm.trans H;rw[hy301];with_reducible exact H2_)|(have H2_:=(Option.bind_some _ _).symm.trans H;with_reducible exact H2_)|with_reducible exact H|(rw[hy301];exact H)|exact H
        have Ny301:=Aside0.mk hy301;clear hy301;by_cases c12:t300.size+(strOfNums y301).size≤9223372036854775807
        · rw[if_pos c12]at H
          have c12b0:=eq_true c12;have c12b1:decide (t300.size+(strOfNums y301).size≤9223372036854775807)=true:=decide_eq_true c12;try have c12b2:(9223372036854775807<t300.size+(strOfNums y301).size)=False:=eq_false (Nat.not_lt.2 c12)
          obtain rfl:=Option.some.inj H;go_enter Tryd.func43,Tryd.ntmps43
          try go_wp2
          have n0_:=Aside0.mk (below_drew1 HB.out);clear HB;have HB:=n0_;clear n0_;refine start_ (n:=11) (S:=fun w'=>True) (ds:=[]) #[false,false,false,false,false,false,false,false,false,false,false] (by kernel_rfl) rfl rfl trivial (fun hHeld=> ?_);refine with_tabW spec_l6Dec.tab7 spec_l6Dec.bits7 (fun HT_ HW_=> ?_)
          generalize w.drew=w13 at HB hHeld⊢
          refine pure_ (i:=0) (N:=some 18) (v:= ?_) (a':= ?_) #[true,false,false,false,false,false,false,false,false,false,false] rfl rfl (any_of HT_.out (by kernel_rfl)) (fun _ _ _ h=>h) (Or.inl ⟨by rfl,?_⟩) ?_ ?_
          rotate_left
          · intro w'
            go_simp
            with_reducible rfl
          rotate_left
          · simp only[Act.put,List.setIfInBounds_toArray,List.set_cons_zero,List.set_cons_succ,i64_w,i32_w]
            rfl
          refine pure_ (i:=1) (N:=some 19) (v:= ?_) (a':= ?_) #[true,true,false,false,false,false,false,false,false,false,false] rfl rfl (any_of HT_.out (by kernel_rfl)) (fun _ _ _ h=>h) (Or.inl ⟨by rfl,?_⟩) ?_ ?_
          rotate_left
          · intro w'
            go_simp
            with_reducible rfl
          rotate_left
          · simp only[Act.put,List.setIfInBounds_toArray,List.set_cons_zero,List.set_cons_succ,i64_w,i32_w]
            rfl
          refine pure_ (i:=3) (N:=some 21) (v:= ?_) (a':= ?_) #[true,true,false,true,false,false,false,false,false,false,false] rfl rfl (any_of HT_.out (by kernel_rfl)) (fun _ _ _ h=>h) (Or.inl ⟨by rfl,?_⟩) ?_ ?_
          rotate_left
          · intro w'
            go_simp
            with_reducible rfl
          rotate_left
          · simp only[Act.put,List.setIfInBounds_toArray,List.set_cons_zero,List.set_cons_succ,i64_w,i32_w]
            rfl
          refine pure_ (i:=4) (N:=some 22) (v:= ?_) (a':= ?_) #[true,true,false,true,true,false,false,false,false,false,false] rfl rfl (any_of HT_.out (by kernel_rfl)) (fun _ _ _ h=>h) (Or.inl ⟨by rfl,?_⟩) ?_ ?_
          rotate_left
          · intro w'
            go_simp
            with_reducible rfl
          rotate_left
          · simp only[Act.put,List.setIfInBounds_toArray,List.set_cons_zero,List.set_cons_succ,i64_w,i32_w]
            rfl
          refine pure_ (i:=5) (N:=some 23) (v:= ?_) (a':= ?_) #[true,true,false,true,true,true,false,false,false,false,false] rfl rfl (any_of HT_.out (by kernel_rfl)) (fun _ _ _ h=>h) (Or.inl ⟨by rfl,?_⟩) ?_ ?_
          rotate_left
          · intro w'
            go_simp
            with_reducible rfl
          rotate_left
          · simp only[Act.put,List.setIfInBounds_toArray,List.set_cons_zero,List.set_cons_succ,i64_w,i32_w]
            rfl
          refine pure_ (i:=6) (N:=some 24) (v:= ?_) (a':= ?_) #[true,true,false,true,true,true,true,false,false,false,false] rfl rfl (any_of HT_.out (by kernel_rfl)) (fun _ _ _ h=>h) (Or.inl ⟨by rfl,?_⟩) ?_ ?_
          rotate_left
          · intro w'
            go_simp
            with_reducible rfl
          rotate_left
          · simp only[Act.put,List.setIfInBounds_toArray,List.set_cons_zero,List.set_cons_succ,i64_w,i32_w]
            rfl
          refine join_ (σ:=Value) 2 #[true,true,true,true,true,true,true,true,true,false,false] (fun s_=> [(20,.string t300),(25,s_),(26,.string (strOfNums y301))]) (fun s_ w'=>(Kd.R (Kd.int .u8) 5 w' w.heap.size (fun _=>True) s_ y301)∧(Below w.heap.size w w')) ?_ ?_
          rotate_left
          · intro hCont
            refine two_ (i:=2) (j:=7) (Ni:=some 20) (Nj:=some 25) #[true,true,true,true,true,true,true,false,false,false,false] #[true,true,false,true,true,true,true,true,false,false,false] rfl rfl rfl rfl (two_of HT_.out (by kernel_rfl)) (by decide) (by decide) (fun K hK=> ?_) (fun K hK=> ?_)
            · skip
              refine goes_ Tryd.func43 (by kernel_rfl) rfl #[.int .i64 (wrap64 (Int.tdiv a0 10))] (by rfl) rfl rfl (by(try simp only[List.map_toArray,List.map_cons,List.map_nil]);first|done|rfl|(simp only[List.length_drop,List.length_take];rfl)) ?_
              with_reducible refine(ih k (by omega) (wrap64 (Int.tdiv a0 10)) t300 _ A11.out).mono ?_
              rintro e w14 ⟨rfl,hb⟩
              refine⟨_,rfl,?_⟩
              have n0_:=Aside0.mk (below_step (by repeat(first|(with_reducible first|exact HB.out|apply below_alloc|apply pw_below_drewN|apply below_drew1)|exact HB.out)) hb)
              clear HB;have HB:=n0_;clear n0_;(try clear hb)
              (try clear hb2)
              (try clear hk)
              (try clear hi)
              refine hK.out _ _ trivial (fun hHeld=> ?_)
              clear hK K;refine norm_ (a':= ?_) ?_ ?_
              rotate_left
              · show Act.put _ (some 20) _=_
                simp only[Act.put,List.setIfInBounds_toArray,List.set_cons_zero,List.set_cons_succ,i64_w,i32_w]
                rfl
              refine one_ (i:=7) (N:=some 25) #[true,true,true,true,true,true,true,true,false,false,false] rfl rfl (one_of HT_.out (by kernel_rfl)) (by decide) (fun K hK=> ?_)
              refine Kd.R_lit_step (Kd.int .u8) _ 5 ?hg (N:=25) ?hd (xs:=([(wrap64 (48+(Int.tmod a0 10)))%256]:List Int)) (inner:=[.int .u8 ((wrap64 (48+(Int.tmod a0 10)))%256)]) (ok:=fun _=>True) (okp:=fun _=>True) ?hr ?hp (fun _ hk=>hk) trivial (Below.refl _ _) (Nat.le_refl _) (by simp) ?_;(case hd=>rfl);(case hg=>rfl);(case hr=>first|(go_simp;done)|(go_simp;rfl));(case hp=>exact(Reps.one (show Kd.M (Kd.int .u8) _ _ _ ((wrap64 (48+(Int.tmod a0 10)))%256) [.int .u8 ((wrap64 (48+(Int.tmod a0 10)))%256)]from rfl) (Reps.none _ _)))
              intro v302 w15 ho16 hb hg_ hnew_;clear hg_ hnew_;(first|rw[←Ny301.out]at ho16|(simp only[Int.reduceToNat]at ho16;rw[←Ny301.out]at ho16))
              have n0_:=Aside0.mk (Kd.R_lower ho16 (below_size (by repeat(first|(with_reducible first|exact HB.out|apply below_alloc|apply pw_below_drewN|apply below_drew1)|exact HB.out))))
              have n1_:=Aside0.mk (below_step (by repeat(first|(with_reducible first|exact HB.out|apply below_alloc|apply pw_below_drewN|apply below_drew1)|exact HB.out)) hb)
              clear HB;have HO303:=n0_;have HB:=n1_;clear n0_ n1_;clear hb ho16;refine hK.out _ _ trivial (fun hHeld=> ?_)
              clear hK K;refine norm_ (a':= ?_) ?_ ?_
              rotate_left
              · show Act.put _ (some 25) _=_
                simp only[Act.put,List.setIfInBounds_toArray,List.set_cons_zero,List.set_cons_succ,i64_w,i32_w]
                rfl
              refine one_ (i:=8) (N:=some 26) #[true,true,true,true,true,true,true,true,true,false,false] rfl rfl (one_of HT_.out (by kernel_rfl)) (by decide) (fun K hK=> ?_)
              have hcv17:=own_string (P:=Tryd.prog) Tryd.underlying28 Tryd.underlying5 Tryd.underlying9 (Kd.own_of_R HO303.out);refine value_ (w1:= ?_) (v:= ?_) (by rfl) rfl ?_ ?_
              rotate_left 2
              · go_simp
                constructor
                · rfl
                · rfl
              clear hcv17;refine hK.out _ _ trivial (fun hHeld=> ?_)
              clear hK K;refine norm_ (a':= ?_) ?_ ?_
              rotate_left
              · show Act.put _ (some 26) _=_
                simp only[Act.put,List.setIfInBounds_toArray,List.set_cons_zero,List.set_cons_succ,i64_w,i32_w]
                rfl
              exact norm_ (by simp only[putAll,Act.put,List.setIfInBounds_toArray,List.set_cons_zero,List.set_cons_succ]) (hCont (v302) _ ⟨(by(with_reducible repeat(first|apply Kd.R_alloc|apply Kd.R_drewN|apply Kd.R_drew));exact HO303.out),(by repeat(first|(with_reducible first|exact HB.out|apply below_alloc|apply pw_below_drewN|apply below_drew1)|exact HB.out))⟩)
            · skip
              refine Kd.R_lit_step (Kd.int .u8) _ 5 ?hg (N:=25) ?hd (xs:=([(wrap64 (48+(Int.tmod a0 10)))%256]:List Int)) (inner:=[.int .u8 ((wrap64 (48+(Int.tmod a0 10)))%256)]) (ok:=fun _=>True) (okp:=fun _=>True) ?hr ?hp (fun _ hk=>hk) trivial (Below.refl _ _) (Nat.le_refl _) (by simp) ?_;(case hd=>rfl);(case hg=>rfl);(case hr=>first|(go_simp;done)|(go_simp;rfl));(case hp=>exact(Reps.one (show Kd.M (Kd.int .u8) _ _ _ ((wrap64 (48+(Int.tmod a0 10)))%256) [.int .u8 ((wrap64 (48+(Int.tmod a0 10)))%256)]from rfl) (Reps.none _ _)))
              intro v302 w14 ho15 hb hg_ hnew_;clear hg_ hnew_;(first|rw[←Ny301.out]at ho15|(simp only[Int.reduceToNat]at ho15;rw[←Ny301.out]at ho15))
              have n0_:=Aside0.mk (Kd.R_lower ho15 (below_size (by repeat(first|(with_reducible first|exact HB.out|apply below_alloc|apply pw_below_drewN|apply below_drew1)|exact HB.out))))
              have n1_:=Aside0.mk (below_step (by repeat(first|(with_reducible first|exact HB.out|apply below_alloc|apply pw_below_drewN|apply below_drew1)|exact HB.out)) hb)
              clear HB;have HO303:=n0_;have HB:=n1_;clear n0_ n1_;clear hb ho15;refine hK.out _ _ trivial (fun hHeld=> ?_)
              clear hK K;refine norm_ (a':= ?_) ?_ ?_
              rotate_left
              · show Act.put _ (some 25) _=_
                simp only[Act.put,List.setIfInBounds_toArray,List.set_cons_zero,List.set_cons_succ,i64_w,i32_w]
                rfl
              refine two_ (i:=2) (j:=8) (Ni:=some 20) (Nj:=some 26) #[true,true,true,true,true,true,true,true,false,false,false] #[true,true,false,true,true,true,true,true,true,false,false] rfl rfl rfl rfl (two_of HT_.out (by kernel_rfl)) (by decide) (by decide) (fun K hK=> ?_) (fun K hK=> ?_)
              · skip
                refine goes_ Tryd.func43 (by kernel_rfl) rfl #[.int .i64 (wrap64 (Int.tdiv a0 10))] (by rfl) rfl rfl (by(try simp only[List.map_toArray,List.map_cons,List.map_nil]);first|done|rfl|(simp only[List.length_drop,List.length_take];rfl)) ?_
                with_reducible refine(ih k (by omega) (wrap64 (Int.tdiv a0 10)) t300 _ A11.out).mono ?_
                rintro e w16 ⟨rfl,hb⟩
                refine⟨_,rfl,?_⟩
                have n0_:=Aside0.mk (Kd.R_below (by(with_reducible repeat(first|apply Kd.R_alloc|apply Kd.R_drewN|apply Kd.R_drew));exact HO303.out) hb)
                have n1_:=Aside0.mk (below_step (by repeat(first|(with_reducible first|exact HB.out|apply below_alloc|apply pw_below_drewN|apply below_drew1)|exact HB.out)) hb)
                clear HO303;clear HB;have HO303:=n0_;have HB:=n1_;clear n0_ n1_;(try clear hb)
                (try clear hb2)
                (try clear hk)
                (try clear hi)
                refine hK.out _ _ trivial (fun hHeld=> ?_)
                clear hK K;refine norm_ (a':= ?_) ?_ ?_
                rotate_left
                · show Act.put _ (some 20) _=_
                  simp only[Act.put,List.setIfInBounds_toArray,List.set_cons_zero,List.set_cons_succ,i64_w,i32_w]
                  rfl
                refine one_ (i:=8) (N:=some 26) #[true,true,true,true,true,true,true,true,true,false,false] rfl rfl (one_of HT_.out (by kernel_rfl)) (by decide) (fun K hK=> ?_)
                have hcv17:=own_string (P:=Tryd.prog) Tryd.underlying28 Tryd.underlying5 Tryd.underlying9 (Kd.own_of_R HO303.out);refine value_ (w1:= ?_) (v:= ?_) (by rfl) rfl ?_ ?_
                rotate_left 2
                · go_simp
                  constructor
                  · rfl
                  · rfl
                clear hcv17;refine hK.out _ _ trivial (fun hHeld=> ?_)
                clear hK K;refine norm_ (a':= ?_) ?_ ?_
                rotate_left
                · show Act.put _ (some 26) _=_
                  simp only[Act.put,List.setIfInBounds_toArray,List.set_cons_zero,List.set_cons_succ,i64_w,i32_w]
                  rfl
                exact norm_ (by simp only[putAll,Act.put,List.setIfInBounds_toArray,List.set_cons_zero,List.set_cons_succ]) (hCont (v302) _ ⟨(by(with_reducible repeat(first|apply Kd.R_alloc|apply Kd.R_drewN|apply Kd.R_drew));exact HO303.out),(by repeat(first|(with_reducible first|exact HB.out|apply below_alloc|apply pw_below_drewN|apply below_drew1)|exact HB.out))⟩)
              · skip
                have hcv16:=own_string (P:=Tryd.prog) Tryd.underlying28 Tryd.underlying5 Tryd.underlying9 (Kd.own_of_R HO303.out);refine value_ (w1:= ?_) (v:= ?_) (by rfl) rfl ?_ ?_
                rotate_left 2
                · go_simp
                  constructor
                  · rfl
                  · rfl
                clear hcv16;refine hK.out _ _ trivial (fun hHeld=> ?_)
                clear hK K;refine norm_ (a':= ?_) ?_ ?_
                rotate_left
                · show Act.put _ (some 26) _=_
                  simp only[Act.put,List.setIfInBounds_toArray,List.set_cons_zero,List.set_cons_succ,i64_w,i32_w]
                  rfl
                refine one_ (i:=2) (N:=some 20) #[true,true,true,true,true,true,true,true,true,false,false] rfl rfl (one_of HT_.out (by kernel_rfl)) (by decide) (fun K hK=> ?_)
                refine goes_ Tryd.func43 (by kernel_rfl) rfl #[.int .i64 (wrap64 (Int.tdiv a0 10))] (by rfl) rfl rfl (by(try simp only[List.map_toArray,List.map_cons,List.map_nil]);first|done|rfl|(simp only[List.length_drop,List.length_take];rfl)) ?_
                with_reducible refine(ih k (by omega) (wrap64 (Int.tdiv a0 10)) t300 _ A11.out).mono ?_
                rintro e w17 ⟨rfl,hb⟩
                refine⟨_,rfl,?_⟩
                have n0_:=Aside0.mk (Kd.R_below (by(with_reducible repeat(first|apply Kd.R_alloc|apply Kd.R_drewN|apply Kd.R_drew));exact HO303.out) hb)
                have n1_:=Aside0.mk (below_step (by repeat(first|(with_reducible first|exact HB.out|apply below_alloc|apply pw_below_drewN|apply below_drew1)|exact HB.out)) hb)
                clear HO303;clear HB;have HO303:=n0_;have HB:=n1_;clear n0_ n1_;(try clear hb)
                (try clear hb2)
                (try clear hk)
                (try clear hi)
                refine hK.out _ _ trivial (fun hHeld=> ?_)
                clear hK K;refine norm_ (a':= ?_) ?_ ?_
                rotate_left
                · show Act.put _ (some 20) _=_
                  simp only[Act.put,List.setIfInBounds_toArray,List.set_cons_zero,List.set_cons_succ,i64_w,i32_w]
                  rfl
                exact norm_ (by simp only[putAll,Act.put,List.setIfInBounds_toArray,List.set_cons_zero,List.set_cons_succ]) (hCont (v302) _ ⟨(by(with_reducible repeat(first|apply Kd.R_alloc|apply Kd.R_drewN|apply Kd.R_drew));exact HO303.out),(by repeat(first|(with_reducible first|exact HB.out|apply below_alloc|apply pw_below_drewN|apply below_drew1)|exact HB.out))⟩)
          rintro v302 w18 ⟨h0_,h1_⟩
          have n0_:Aside0 (Kd.R (Kd.int .u8) 5 w18 w.heap.size (fun _=>True) v302 y301):=⟨h0_⟩
          have n1_:Aside0 (Below w.heap.size w w18):=⟨h1_⟩;clear HB;clear h0_ h1_;have HO303:=n0_;have HB:=n1_;clear n0_ n1_;have hHeld:=trivial;refine norm_ (a':= ?_) ?_ ?_
          rotate_left
          · simp only[putAll,Act.put,List.setIfInBounds_toArray,List.set_cons_zero,List.set_cons_succ]
            rfl
          refine pure_ (i:=9) (N:=some 27) (v:= ?_) (a':= ?_) #[true,true,true,true,true,true,true,true,true,true,false] rfl rfl (any_of HT_.out (by kernel_rfl)) (fun _ _ _ h=>h) (Or.inl ⟨by rfl,?_⟩) ?_ ?_
          rotate_left
          · intro w'
            go_simp
            with_reducible rfl
          rotate_left
          · simp only[Act.put,List.setIfInBounds_toArray,List.set_cons_zero,List.set_cons_succ,i64_w,i32_w]
            rfl
          refine pure_ (i:=10) (N:=some 2) (v:= ?_) (a':= ?_) #[true,true,true,true,true,true,true,true,true,true,true] rfl rfl (any_of HT_.out (by kernel_rfl)) (fun _ _ _ h=>h) (Or.inl ⟨by rfl,?_⟩) ?_ ?_
          rotate_left
          · intro w'
            go_simp
            with_reducible rfl
          rotate_left
          · simp only[Act.put,List.setIfInBounds_toArray,List.set_cons_zero,List.set_cons_succ,i64_w,i32_w]
            rfl
          refine done_ (done_of HT_.out (by kernel_rfl)) ?_
          try go_wp2
          go_ret
          exact⟨by first|rfl|(simp[errW_none,errW_some]<;>rfl)|(simp[*,errW_none,errW_some]<;>rfl),by repeat(first|(with_reducible first|exact HB.out|apply below_alloc|apply pw_below_drewN|apply below_drew1)|exact HB.out)⟩
        · rw[if_neg c12]at H
          exact absurd H (by simp)
end Go.Proofs.YtmklpbmlgjkbiaaDoor.PS
end
section
namespace Go.Proofs.YtmklpbmlgjkbiaaDoor.PS
open Go.RowKit Go.Proofs.YtmklpbmlgjkbiaaDoorW.PrintWords Go.Proofs.YtmklpbmlgjkbiaaDoorW.PrintLast Go.Proofs.YtmklpbmlgjkbiaaDoorW.PrintMore
attribute [local go_sem] max2_int min2_int max_two min_two max_three min_three max_four min_four   -- for this text's walks alone
def spec_ValText.f (k:Nat) (a0_0:Int) (a0_1:Int):Option (ByteArray):=(spec_ValOk.f a0_0 a0_1).bind fun t305=>(if t305=true then(if a0_0=0 then(some (⟨#[110,111,110,101]⟩:ByteArray))else((some (([(⟨#[]⟩:ByteArray),(⟨#[110]⟩:ByteArray),(⟨#[97]⟩:ByteArray),(⟨#[114]⟩:ByteArray)]:List ByteArray):List ByteArray)).bind fun y306=>(if 0≤a0_0 then(if a0_0<(y306.length:Int)then((spec_l6Dec.f k a0_1).bind fun t310=>(if(rdOf ByteArray.empty y306 a0_0).size+t310.size≤9223372036854775807 then(some ((rdOf ByteArray.empty y306 a0_0)++t310))else(none)))else(none))else(none))))else(some (⟨#[]⟩:ByteArray)))
theorem spec_ValText.mono: ∀a0 a1 k,LeO (spec_ValText.f k a0 a1) (spec_ValText.f (k+1) a0 a1):=by
  intro a0 a1 k;unfold spec_ValText.f
  repeat' first
      |(with_reducible exact spec_l6Dec.mono _ _)
      |(with_reducible exact LeO.refl _)
      |(with_reducible exact LeO.none _)
      |(with_reducible refine LeO.ite ?_ ?_)
      |(with_reducible refine LeO.bind ?_ (fun _=> ?_))
      |exact spec_l6Dec.mono _ _
      |exact LeO.none _
      |refine LeO.ite ?_ ?_
      |refine LeO.bind ?_ (fun _=> ?_)
def spec_ValText.T5:Bool×List (List Nat×List Nat):=(true,[([],[]),([],[]),([1],[1]),([0,2],[0,2]),([3],[3]),([],[]),([5],[5]),([6],[6]),([4,7],[4,7]),([8,7,0,1,2,3,4,5,6,7,8],[8])])
def spec_ValText.B5:List Nat:=[0,0,2,7,15,0,32,96,255,511]
theorem spec_ValText.tab5:rtab .any (opsOf Tryd.f17 5)=spec_ValText.T5:=by kernel_rfl
theorem spec_ValText.bits5:waitsOk spec_ValText.T5.2 spec_ValText.B5=true:=by kernel_rfl
theorem spec_ValText.calls (k:Nat) (a0_0:Int) (a0_1:Int) (r:ByteArray) (w:World) (h:spec_ValText.f k a0_0 a0_1=some r):
    Calls Tryd.prog 17 #[.agg #[.int .i64 a0_0,.int .i64 a0_1]] w fun e w'=>e= .returned (.string r)∧Below w.heap.size w w':=by
  have hu25:=Tryd.underlying25;have HB:=Aside0.mk (Below.refl w.heap.size w);have H:((spec_ValOk.f a0_0 a0_1).bind fun t305=>(if t305=true then(if a0_0=0 then(some (⟨#[110,111,110,101]⟩:ByteArray))else((some (([(⟨#[]⟩:ByteArray),(⟨#[110]⟩:ByteArray),(⟨#[97]⟩:ByteArray),(⟨#[114]⟩:ByteArray)]:List ByteArray):List ByteArray)).bind fun y306=>(if 0≤a0_0 then(if a0_0<(y306.length:Int)then((spec_l6Dec.f k a0_1).bind fun t310=>(if(rdOf ByteArray.empty y306 a0_0).size+t310.size≤9223372036854775807 then(some ((rdOf ByteArray.empty y306 a0_0)++t310))else(none)))else(none))else(none))))else(some (⟨#[]⟩:ByteArray))))=some r:=h
  clear h;replace H:=Option.bind_eq_some_iff.mp H;obtain⟨t305,A20,H⟩:=H;replace H:(if t305=true then(if a0_0=0 then(some (⟨#[110,111,110,101]⟩:ByteArray))else((some (([(⟨#[]⟩:ByteArray),(⟨#[110]⟩:ByteArray),(⟨#[97]⟩:ByteArray),(⟨#[114]⟩:ByteArray)]:List ByteArray):List ByteArray)).bind fun y306=>(if 0≤a0_0 then(if a0_0<(y306.length:Int)then((spec_l6Dec.f k a0_1).bind fun t310=>(if(rdOf ByteArray.empty y306 a0_0).size+t310.size≤9223372036854775807 then(some ((rdOf ByteArray.empty y306 a0_0)++t310))else(none)))else(none))else(none))))else(some (⟨#[]⟩:ByteArray)))=some r:=H
  have A2:=Aside0.mk A20;clear A20;by_cases c3:t305=true
  · subst c3
    have H1:(if a0_0=0 then(some (⟨#[110,111,110,101]⟩:ByteArray))else((some (([(⟨#[]⟩:ByteArray),(⟨#[110]⟩:ByteArray),(⟨#[97]⟩:ByteArray),(⟨#[114]⟩:ByteArray)]:List ByteArray):List ByteArray)).bind fun y306=>(if 0≤a0_0 then(if a0_0<(y306.length:Int)then((spec_l6Dec.f k a0_1).bind fun t310=>(if(rdOf ByteArray.empty y306 a0_0).size+t310.size≤9223372036854775807 then(some ((rdOf ByteArray.empty y306 a0_0)++t310))else(none)))else(none))else(none))))=some r:=by rw[if_pos rfl]at H;exact H
    clear H;have H:=H1;clear H1;by_cases c4:a0_0=0
    · rw[if_pos c4]at H
      have c4b0:(a0_0==0)=true:=beq_iff_eq.mpr c4;have c4b1:(a0_0 !=0)=false:=bne_eq_false_iff_eq.mpr c4;clear c4;obtain rfl:=Option.some.inj H;go_enter Tryd.func17,Tryd.ntmps17
      go_wp2_with (first|((with_reducible refine gate_dst (N:=1) rfl ?_);refine box_event ?hg (N:=1) ?hd (cs:= #[.int .i64 a0_0,.int .i64 a0_1]) (t:=25) ?hr ?_;(case hd=>rfl);(case hg=>rfl);(case hr=>first|(go_simp;done)|(go_simp;rfl));intro gb304 hg w5 hbox hb;have n0_:=Aside0.mk (below_step (by repeat(first|(with_reducible first|exact HB.out|apply below_alloc|apply pw_below_drewN|apply below_drew1)|exact HB.out)) hb);have n1_:=Aside0.mk (hbox);have n2_:=Aside0.mk ((by rw[hg];exact(below_size (by repeat(first|(with_reducible first|exact HB.out|apply below_alloc|apply pw_below_drewN|apply below_drew1)|exact HB.out))):w.heap.size≤gb304));have n3_:=Aside0.mk ((by rw[hg];exact(below_size (by repeat(first|(with_reducible first|exact HB.out|apply below_alloc|apply pw_below_drewN|apply below_drew1)|exact HB.out))):w.heap.size≤gb304));clear HB;have HB:=n0_;have BK304:=n1_;have GW304:=n2_;have GE304:=n3_;clear n0_ n1_ n2_ n3_;clear hb hbox hg;have hcz6_0:w5.cell? ⟨gb304,0,none⟩=some (.int .i64 a0_0):=(blk_cell BK304.out 0).trans rfl;have hcz6_1:w5.cell? ⟨gb304,1,none⟩=some (.int .i64 a0_1):=(blk_cell BK304.out 1).trans rfl;have hfz6_0:=blk_frozen BK304.out 0;have hfz6_1:=blk_frozen BK304.out 1)|((with_reducible refine gate_callee (f:=42) rfl ?_);refine goesL_ (some 4) rfl rfl Tryd.func42 (by kernel_rfl) rfl #[.agg #[.int .i64 a0_0,.int .i64 a0_1]] rfl (by(try simp only[List.map_toArray,List.map_cons,List.map_nil]);first|done|rfl|(simp only[List.length_drop,List.length_take];rfl)) ?_;(with_reducible refine(spec_ValOk.calls a0_0 a0_1 true _ A2.out).mono ?_);rintro e w7 ⟨rfl,hb⟩;refine⟨_,rfl,?_⟩;have n0_:=Aside0.mk (blk_below (g:=gb304) (o:=.cells #[.int .i64 a0_0,.int .i64 a0_1] 25 (0,0)) (by(with_reducible repeat(first|refine blk_drewN ?_ _|refine blk_drew ?_|refine blk_alloc ?_ _));exact BK304.out) hb);have n1_:=Aside0.mk (below_step (by repeat(first|(with_reducible first|exact HB.out|apply below_alloc|apply pw_below_drewN|apply below_drew1|refine below_set ?_ GE304.out)|exact HB.out)) hb);clear BK304;clear HB;have BK304:=n0_;have HB:=n1_;clear n0_ n1_;(try clear hb);(try clear hb2);(try clear hk);(try clear hi);have hcz8_0:w7.cell? ⟨gb304,0,none⟩=some (.int .i64 a0_0):=(blk_cell BK304.out 0).trans rfl;have hcz8_1:w7.cell? ⟨gb304,1,none⟩=some (.int .i64 a0_1):=(blk_cell BK304.out 1).trans rfl;have hfz8_0:=blk_frozen BK304.out 0;have hfz8_1:=blk_frozen BK304.out 1))
      go_ret
      exact⟨by first|rfl|(simp[errW_none,errW_some]<;>rfl)|(simp[*,errW_none,errW_some]<;>rfl),by repeat(first|(with_reducible first|exact HB.out|apply below_alloc|apply pw_below_drewN|apply below_drew1|refine below_set ?_ GE304.out)|exact HB.out)⟩
    · rw[if_neg c4]at H
      have c4b0:(a0_0==0)=false:=beq_eq_false_iff_ne.mpr c4;have c4b1:(a0_0 !=0)=true:=bne_iff_ne.mpr c4;obtain⟨y306,hy306⟩: ∃y_:List ByteArray,y_=(([(⟨#[]⟩:ByteArray),(⟨#[110]⟩:ByteArray),(⟨#[97]⟩:ByteArray),(⟨#[114]⟩:ByteArray)]:List ByteArray)):=⟨_,rfl⟩;replace H:(if 0≤a0_0 then(if a0_0<(y306.length:Int)then((spec_l6Dec.f k a0_1).bind fun t310=>(if(rdOf ByteArray.empty y306 a0_0).size+t310.size≤9223372036854775807 then(some ((rdOf ByteArray.empty y306 a0_0)++t310))else(none)))else(none))else(none))=some r:=by first|(rw[hy306];with_reducible exact H)|(have H2_:=(Option.bind_some _ _).symm.trans H;rw[hy306];with_reducible exact H2_)|(have H2_:=(Option.bind_some _ _).symm.trans H;with_reducible exact H2_)|with_reducible exact H|(rw[hy306];exact H)|exact H
      have Ny306:=Aside0.mk hy306;clear hy306;by_cases c9:0≤a0_0
      · rw[if_pos c9]at H
        have c9b0:decide (0≤a0_0)=true:=decide_eq_true c9;clear c9;by_cases c10:a0_0<(y306.length:Int)
        · rw[if_pos c10]at H
          have c10b0:decide (a0_0<(y306.length:Int))=true:=decide_eq_true c10;clear c10;replace H:=Option.bind_eq_some_iff.mp H;obtain⟨t310,A110,H⟩:=H;replace H:(if(rdOf ByteArray.empty y306 a0_0).size+t310.size≤9223372036854775807 then(some ((rdOf ByteArray.empty y306 a0_0)++t310))else(none))=some r:=H
          have A11:=Aside0.mk A110;clear A110;by_cases c12:(rdOf ByteArray.empty y306 a0_0).size+t310.size≤9223372036854775807
          · rw[if_pos c12]at H
            have c12b0:=eq_true c12;have c12b1:decide ((rdOf ByteArray.empty y306 a0_0).size+t310.size≤9223372036854775807)=true:=decide_eq_true c12;try have c12b2:(9223372036854775807<(rdOf ByteArray.empty y306 a0_0).size+t310.size)=False:=eq_false (Nat.not_lt.2 c12)
            obtain rfl:=Option.some.inj H;go_enter Tryd.func17,Tryd.ntmps17
            try go_wp2_with (first|((with_reducible refine gate_dst (N:=1) rfl ?_);refine box_event ?hg (N:=1) ?hd (cs:= #[.int .i64 a0_0,.int .i64 a0_1]) (t:=25) ?hr ?_;(case hd=>rfl);(case hg=>rfl);(case hr=>first|(go_simp;done)|(go_simp;rfl));intro gb304 hg w13 hbox hb;have n0_:=Aside0.mk (below_step (by repeat(first|(with_reducible first|exact HB.out|apply below_alloc|apply pw_below_drewN|apply below_drew1)|exact HB.out)) hb);have n1_:=Aside0.mk (hbox);have n2_:=Aside0.mk ((by rw[hg];exact(below_size (by repeat(first|(with_reducible first|exact HB.out|apply below_alloc|apply pw_below_drewN|apply below_drew1)|exact HB.out))):w.heap.size≤gb304));have n3_:=Aside0.mk ((by rw[hg];exact(below_size (by repeat(first|(with_reducible first|exact HB.out|apply below_alloc|apply pw_below_drewN|apply below_drew1)|exact HB.out))):w.heap.size≤gb304));clear HB;have HB:=n0_;have BK304:=n1_;have GW304:=n2_;have GE304:=n3_;clear n0_ n1_ n2_ n3_;clear hb hbox hg;have hcz14_0:w13.cell? ⟨gb304,0,none⟩=some (.int .i64 a0_0):=(blk_cell BK304.out 0).trans rfl;have hcz14_1:w13.cell? ⟨gb304,1,none⟩=some (.int .i64 a0_1):=(blk_cell BK304.out 1).trans rfl;have hfz14_0:=blk_frozen BK304.out 0;have hfz14_1:=blk_frozen BK304.out 1)|((with_reducible refine gate_callee (f:=42) rfl ?_);refine goesL_ (some 4) rfl rfl Tryd.func42 (by kernel_rfl) rfl #[.agg #[.int .i64 a0_0,.int .i64 a0_1]] rfl (by(try simp only[List.map_toArray,List.map_cons,List.map_nil]);first|done|rfl|(simp only[List.length_drop,List.length_take];rfl)) ?_;(with_reducible refine(spec_ValOk.calls a0_0 a0_1 true _ A2.out).mono ?_);rintro e w15 ⟨rfl,hb⟩;refine⟨_,rfl,?_⟩;have n0_:=Aside0.mk (blk_below (g:=gb304) (o:=.cells #[.int .i64 a0_0,.int .i64 a0_1] 25 (0,0)) (by(with_reducible repeat(first|refine blk_drewN ?_ _|refine blk_drew ?_|refine blk_alloc ?_ _));exact BK304.out) hb);have n1_:=Aside0.mk (below_step (by repeat(first|(with_reducible first|exact HB.out|apply below_alloc|apply pw_below_drewN|apply below_drew1|refine below_set ?_ GE304.out)|exact HB.out)) hb);clear BK304;clear HB;have BK304:=n0_;have HB:=n1_;clear n0_ n1_;(try clear hb);(try clear hb2);(try clear hk);(try clear hi);have hcz16_0:w15.cell? ⟨gb304,0,none⟩=some (.int .i64 a0_0):=(blk_cell BK304.out 0).trans rfl;have hcz16_1:w15.cell? ⟨gb304,1,none⟩=some (.int .i64 a0_1):=(blk_cell BK304.out 1).trans rfl;have hfz16_0:=blk_frozen BK304.out 0;have hfz16_1:=blk_frozen BK304.out 1))
            have pi309:(0≤(a0_0:Int))=True:=eq_true (of_decide_eq_true (by first|(with_reducible assumption)|assumption))
            have qi309:(a0_0<(y306.length:Int))=True:=eq_true (of_decide_eq_true (by first|(with_reducible assumption)|assumption))
            have n0_:=Aside0.mk (blk_drew BK304.out);have n1_:=Aside0.mk (below_drew1 HB.out);clear BK304;clear HB;have BK304:=n0_;have HB:=n1_;clear n0_ n1_;refine start_ (n:=10) (S:=fun w'=>True) (ds:=[]) #[false,false,false,false,false,false,false,false,false,false] (by kernel_rfl) rfl rfl trivial (fun hHeld=> ?_);refine with_tabW spec_ValText.tab5 spec_ValText.bits5 (fun HT_ HW_=> ?_)
            generalize w15.drew=w17 at BK304 HB hHeld⊢
            refine pure_ (i:=1) (N:=some 10) (v:= ?_) (a':= ?_) #[false,true,false,false,false,false,false,false,false,false] rfl rfl (any_of HT_.out (by kernel_rfl)) (fun _ _ _ h=>h) (Or.inl ⟨by rfl,?_⟩) ?_ ?_
            rotate_left
            · intro w'
              go_simp
              with_reducible rfl
            rotate_left
            · simp only[Act.put,List.setIfInBounds_toArray,List.set_cons_zero,List.set_cons_succ,i64_w,i32_w]
              rfl
            refine pure_ (i:=5) (N:=some 14) (v:= ?_) (a':= ?_) #[false,true,false,false,false,true,false,false,false,false] rfl rfl (any_of HT_.out (by kernel_rfl)) (fun _ _ _ h=>h) (Or.inl ⟨by rfl,?_⟩) ?_ ?_
            rotate_left
            · intro w'
              go_simp
              with_reducible rfl
            rotate_left
            · simp only[Act.put,List.setIfInBounds_toArray,List.set_cons_zero,List.set_cons_succ,i64_w,i32_w]
              rfl
            refine inv_at [0,2,3,4,6,7,8,9] (fun a0_ b a w'=> ∃ (v307:Value) (adz_v307:Addr) (m3_:Value),a=putSel a0_ b [(0,9,v307),(2,11,.int .i64 a0_0),(3,12,m3_),(4,13,.string (rdOf ByteArray.empty y306 a0_0)),(6,15,.int .i64 a0_1),(7,16,.string t310),(8,17,.string ((rdOf ByteArray.empty y306 a0_0)++t310)),(9,2,.string ((rdOf ByteArray.empty y306 a0_0)++t310))]∧(w'.heap[gb304]?=some (.cells #[.int .i64 a0_0,.int .i64 a0_1] 25 (0,0)))∧(Below w.heap.size w w')∧(b 0=true→Kd.R Kd.string 9 w' w.heap.size (fun _=>True) v307 y306)∧(b 0=true→ ∃c_,(v307:Value)= .slice (some adz_v307) y306.length c_)∧(b 3=true→(m3_:Value)= .pointer (some (adz_v307.add (a0_0).toNat)))) HT_.out HW_.out (by kernel_rfl) (by kernel_rfl) ?_ ?_ ?_
            · exact⟨.bool false,⟨0,0,none⟩,.bool false,by simp only[putSel,Bool.false_eq_true,if_false],BK304.out,HB.out,fun h_=>absurd h_ (by decide),fun h_=>absurd h_ (by decide),fun h_=>absurd h_ (by decide)⟩
            · skip
              clear BK304 HB;refine steps_cons ?_ ?_
              · rintro b a w' ⟨v307,adz_v307,m3_,ha,Q_BK304,Q_HB,Q_HO308,Q_HA_HO308,Q_X3_⟩ hb_ hon hoff
                refine⟨_,rfl,fun K hK=> ?_⟩
                replace ha:=Aside0.mk ha;have BK304:=Aside0.mk Q_BK304;have HB:=Aside0.mk Q_HB;refine Kd.R_lit_step Kd.string _ 9 ?hg (N:=9) ?hd (xs:=([(⟨#[]⟩:ByteArray),(⟨#[110]⟩:ByteArray),(⟨#[97]⟩:ByteArray),(⟨#[114]⟩:ByteArray)]:List ByteArray)) (inner:=[.string (⟨#[]⟩:ByteArray),.string (⟨#[110]⟩:ByteArray),.string (⟨#[97]⟩:ByteArray),.string (⟨#[114]⟩:ByteArray)]) (ok:=fun _=>True) (okp:=fun _=>True) ?hr ?hp (fun _ hk=>hk) trivial (Below.refl _ _) (Nat.le_refl _) (by simp) ?_;(case hd=>rfl);(case hg=>rfl);(case hr=>first|(go_simp;done)|(go_simp;rfl));(case hp=>exact(Reps.one (show Kd.M Kd.string _ _ _ (⟨#[]⟩:ByteArray) [.string (⟨#[]⟩:ByteArray)]from rfl) (Reps.one (show Kd.M Kd.string _ _ _ (⟨#[110]⟩:ByteArray) [.string (⟨#[110]⟩:ByteArray)]from rfl) (Reps.one (show Kd.M Kd.string _ _ _ (⟨#[97]⟩:ByteArray) [.string (⟨#[97]⟩:ByteArray)]from rfl) (Reps.one (show Kd.M Kd.string _ _ _ (⟨#[114]⟩:ByteArray) [.string (⟨#[114]⟩:ByteArray)]from rfl) (Reps.none _ _))))))
                intro v307 w18 ho19 hb hg_ hnew_;clear hg_ hnew_;(first|rw[←Ny306.out]at ho19|(simp only[Int.reduceToNat]at ho19;rw[←Ny306.out]at ho19))
                have n0_:=Aside0.mk (Kd.R_lower ho19 (below_size (by repeat(first|(with_reducible first|exact HB.out|apply below_alloc|apply pw_below_drewN|apply below_drew1|refine below_set ?_ GE304.out)|exact HB.out))))
                have n1_:=Aside0.mk (blk_below (g:=gb304) (o:=.cells #[.int .i64 a0_0,.int .i64 a0_1] 25 (0,0)) (by(with_reducible repeat(first|refine blk_drewN ?_ _|refine blk_drew ?_|refine blk_alloc ?_ _));exact BK304.out) hb)
                have n2_:=Aside0.mk (below_step (by repeat(first|(with_reducible first|exact HB.out|apply below_alloc|apply pw_below_drewN|apply below_drew1|refine below_set ?_ GE304.out)|exact HB.out)) hb)
                clear BK304;clear HB;have HO308:=n0_;have BK304:=n1_;have HB:=n2_;clear n0_ n1_ n2_;clear hb ho19;obtain⟨Ao20,co20,eo20⟩:=Kd.R_slice HO308.out;subst eo20;obtain⟨ado20,fo20,_⟩:=Kd.at_string (Kd.R_reads' HO308.out).2.2 0 (by decide) (by rw[Ny306.out];simp)
                cases fo20
                refine hK.out _ _ ⟨.slice (some ado20) y306.length co20,ado20,m3_,(by rw[ha.out];exact putSel_upk 0 hb_ rfl rfl rfl),(by(with_reducible repeat(first|refine blk_drewN ?_ _|refine blk_drew ?_|refine blk_alloc ?_ _));exact BK304.out),(by repeat(first|(with_reducible first|exact HB.out|apply below_alloc|apply pw_below_drewN|apply below_drew1|refine below_set ?_ GE304.out)|exact HB.out)),fun _=>(by(with_reducible repeat(first|apply Kd.R_alloc|apply Kd.R_drewN|apply Kd.R_drew));exact HO308.out),fun _=>⟨_,rfl⟩,fun h0_=>absurd ((hoff 3 (by kernel_rfl)).symm.trans h0_) (by decide)⟩
              refine steps_cons ?_ ?_
              · rintro b a w' ⟨v307,adz_v307,m3_,ha,Q_BK304,Q_HB,Q_HO308,Q_HA_HO308,Q_X3_⟩ hb_ hon hoff
                refine⟨_,rfl,fun K hK=> ?_⟩
                have e10:a.tmps[10]?=some (.pointer (some ⟨gb304,0,none⟩)):=by rw[ha];exact(putSel_off rfl).trans rfl
                replace ha:=Aside0.mk ha;have BK304:=Aside0.mk Q_BK304;have HB:=Aside0.mk Q_HB;have hc0_:w'.cell? ⟨gb304,0,none⟩=some (.int .i64 a0_0):=(blk_cell BK304.out 0).trans rfl;have hc1_:w'.cell? ⟨gb304,1,none⟩=some (.int .i64 a0_1):=(blk_cell BK304.out 1).trans rfl;refine value_ (w1:=w') (v:=.int .i64 a0_0) (by rfl) rfl ?_ ?_
                · go_simp
                  (try simp only[i64_w])
                  try rfl
                refine hK.out _ _ ⟨v307,adz_v307,m3_,(by rw[ha.out];exact putSel_upk 1 hb_ rfl rfl rfl),Q_BK304,Q_HB,Q_HO308,Q_HA_HO308,fun h0_=>absurd ((hoff 3 (by kernel_rfl)).symm.trans h0_) (by decide)⟩
              refine steps_cons ?_ ?_
              · rintro b a w' ⟨v307,adz_v307,m3_,ha,Q_BK304,Q_HB,Q_HO308,Q_HA_HO308,Q_X3_⟩ hb_ hon hoff
                refine⟨_,rfl,fun K hK=> ?_⟩
                have e9:a.tmps[9]?=some (v307):=by rw[ha];exact putSel_on (e:=(0,9,v307)) 0 rfl rfl (hon 0 (by kernel_rfl)) rfl
                have e11:a.tmps[11]?=some (.int .i64 a0_0):=by rw[ha];exact putSel_on (e:=(2,11,.int .i64 a0_0)) 1 rfl rfl (hon 2 (by kernel_rfl)) rfl
                replace ha:=Aside0.mk ha;have BK304:=Aside0.mk Q_BK304;have HB:=Aside0.mk Q_HB;have HO308:=Aside0.mk (Q_HO308 (hon 0 (by kernel_rfl)))
                have HA_HO308:=Aside0.mk (Q_HA_HO308 (hon 0 (by kernel_rfl)))
                obtain⟨c_,hv_⟩:=HA_HO308.out;rw[hv_]at e9
                refine value_ (w1:=w') (v:=.pointer (some (adz_v307.add (a0_0).toNat))) (by rfl) rfl ?_ ?_
                · go_simp
                  (try simp only[i64_w])
                  try rfl
                refine hK.out _ _ ⟨v307,adz_v307,(.pointer (some (adz_v307.add (a0_0).toNat))),(by rw[ha.out];exact putSel_upk 2 hb_ rfl rfl rfl),Q_BK304,Q_HB,Q_HO308,Q_HA_HO308,fun _=>rfl⟩
              refine steps_cons ?_ ?_
              · rintro b a w' ⟨v307,adz_v307,m3_,ha,Q_BK304,Q_HB,Q_HO308,Q_HA_HO308,Q_X3_⟩ hb_ hon hoff
                refine⟨_,rfl,fun K hK=> ?_⟩
                have e12:a.tmps[12]?=some (m3_):=by rw[ha];exact putSel_on (e:=(3,12,m3_)) 2 rfl rfl (hon 3 (by kernel_rfl)) rfl
                rw[Q_X3_ (hon 3 (by kernel_rfl))]at e12
                replace ha:=Aside0.mk ha;have BK304:=Aside0.mk Q_BK304;have HB:=Aside0.mk Q_HB;have HO308:=Aside0.mk (Q_HO308 (hon 0 (by kernel_rfl)))
                have HA_HO308:=Aside0.mk (Q_HA_HO308 (hon 0 (by kernel_rfl)))
                obtain⟨c_,hv_⟩:=HA_HO308.out;have hF_:=HO308.out;rw[hv_]at hF_
                obtain⟨ad_,ea_,hx_⟩:=Kd.at_string (Kd.R_reads' hF_).2.2 a0_0 (of_eq_true pi309) (of_eq_true qi309);cases ea_
                refine value_ (w1:=w') (v:=.string (rdOf ByteArray.empty y306 a0_0)) (by rfl) rfl ?_ ?_
                · go_simp
                  (try simp only[i64_w])
                  try rfl
                refine hK.out _ _ ⟨v307,adz_v307,m3_,(by rw[ha.out];exact putSel_upk 3 hb_ rfl rfl rfl),Q_BK304,Q_HB,Q_HO308,Q_HA_HO308,Q_X3_⟩
              refine steps_cons ?_ ?_
              · rintro b a w' ⟨v307,adz_v307,m3_,ha,Q_BK304,Q_HB,Q_HO308,Q_HA_HO308,Q_X3_⟩ hb_ hon hoff
                refine⟨_,rfl,fun K hK=> ?_⟩
                have e14:a.tmps[14]?=some (.pointer (some ⟨gb304,1,none⟩)):=by rw[ha];exact(putSel_off rfl).trans rfl
                replace ha:=Aside0.mk ha;have BK304:=Aside0.mk Q_BK304;have HB:=Aside0.mk Q_HB;have hc0_:w'.cell? ⟨gb304,0,none⟩=some (.int .i64 a0_0):=(blk_cell BK304.out 0).trans rfl;have hc1_:w'.cell? ⟨gb304,1,none⟩=some (.int .i64 a0_1):=(blk_cell BK304.out 1).trans rfl;refine value_ (w1:=w') (v:=.int .i64 a0_1) (by rfl) rfl ?_ ?_
                · go_simp
                  (try simp only[i64_w])
                  try rfl
                refine hK.out _ _ ⟨v307,adz_v307,m3_,(by rw[ha.out];exact putSel_upk 4 hb_ rfl rfl rfl),Q_BK304,Q_HB,Q_HO308,Q_HA_HO308,Q_X3_⟩
              refine steps_cons ?_ ?_
              · rintro b a w' ⟨v307,adz_v307,m3_,ha,Q_BK304,Q_HB,Q_HO308,Q_HA_HO308,Q_X3_⟩ hb_ hon hoff
                refine⟨_,rfl,fun K hK=> ?_⟩
                have e15:a.tmps[15]?=some (.int .i64 a0_1):=by rw[ha];exact putSel_on (e:=(6,15,.int .i64 a0_1)) 4 rfl rfl (hon 6 (by kernel_rfl)) rfl
                replace ha:=Aside0.mk ha;have BK304:=Aside0.mk Q_BK304;have HB:=Aside0.mk Q_HB;refine goes_ Tryd.func43 (by kernel_rfl) rfl #[.int .i64 a0_1] (by rfl) rfl rfl (by first|(simp only[List.map_toArray,List.map_cons,List.map_nil,Act.eval,Array.getD_eq_getD_getElem?,Option.getD_some,e15];done)|(simp only[List.map_toArray,List.map_cons,List.map_nil,Act.eval,Array.getD_eq_getD_getElem?,Option.getD_some,e15];rfl)) ?_
                with_reducible refine(spec_l6Dec.calls k a0_1 t310 _ A11.out).mono ?_
                rintro e w18 ⟨rfl,hb⟩
                refine⟨_,rfl,?_⟩
                have n0_:=Aside0.mk (blk_below (g:=gb304) (o:=.cells #[.int .i64 a0_0,.int .i64 a0_1] 25 (0,0)) (by(with_reducible repeat(first|refine blk_drewN ?_ _|refine blk_drew ?_|refine blk_alloc ?_ _));exact BK304.out) hb)
                have n1_:=Aside0.mk (below_step (by repeat(first|(with_reducible first|exact HB.out|apply below_alloc|apply pw_below_drewN|apply below_drew1|refine below_set ?_ GE304.out)|exact HB.out)) hb)
                have z_HO308:=fun (h0_:b 0=true)=>(show Kd.R Kd.string 9 w18 w.heap.size (fun _=>True) v307 y306 from by first|exact(Kd.R_below (by(with_reducible repeat(first|apply Kd.R_alloc|apply Kd.R_drewN|apply Kd.R_drew));exact(Q_HO308 h0_)) hb)|exact Kd.R_mono (Kd.R_below (by(with_reducible repeat(first|apply Kd.R_alloc|apply Kd.R_drewN|apply Kd.R_drew));exact(Q_HO308 h0_)) hb) (fun _ h_=>by first|trivial|exact h_|exact h_.1))
                clear BK304;clear HB;have BK304:=n0_;have HB:=n1_;clear n0_ n1_;(try clear hb)
                (try clear hb2)
                (try clear hk)
                (try clear hi)
                refine hK.out _ _ ⟨v307,adz_v307,m3_,(by rw[ha.out];exact putSel_upk 5 hb_ rfl rfl rfl),(by(with_reducible repeat(first|refine blk_drewN ?_ _|refine blk_drew ?_|refine blk_alloc ?_ _));exact BK304.out),(by repeat(first|(with_reducible first|exact HB.out|apply below_alloc|apply pw_below_drewN|apply below_drew1|refine below_set ?_ GE304.out)|exact HB.out)),z_HO308,Q_HA_HO308,Q_X3_⟩
              refine steps_cons ?_ ?_
              · rintro b a w' ⟨v307,adz_v307,m3_,ha,Q_BK304,Q_HB,Q_HO308,Q_HA_HO308,Q_X3_⟩ hb_ hon hoff
                refine⟨_,rfl,fun K hK=> ?_⟩
                have e13:a.tmps[13]?=some (.string (rdOf ByteArray.empty y306 a0_0)):=by rw[ha];exact putSel_on (e:=(4,13,.string (rdOf ByteArray.empty y306 a0_0))) 3 rfl rfl (hon 4 (by kernel_rfl)) rfl
                have e16:a.tmps[16]?=some (.string t310):=by rw[ha];exact putSel_on (e:=(7,16,.string t310)) 5 rfl rfl (hon 7 (by kernel_rfl)) rfl
                replace ha:=Aside0.mk ha;have BK304:=Aside0.mk Q_BK304;have HB:=Aside0.mk Q_HB;have HO308:=Aside0.mk (Q_HO308 (hon 0 (by kernel_rfl)))
                have HA_HO308:=Aside0.mk (Q_HA_HO308 (hon 0 (by kernel_rfl)))
                refine value_ (w1:=w') (v:=.string ((rdOf ByteArray.empty y306 a0_0)++t310)) (by rfl) rfl ?_ ?_
                · go_simp
                  (try simp only[i64_w])
                  try rfl
                refine hK.out _ _ ⟨v307,adz_v307,m3_,(by rw[ha.out];exact putSel_upk 6 hb_ rfl rfl rfl),Q_BK304,Q_HB,Q_HO308,Q_HA_HO308,Q_X3_⟩
              refine steps_cons ?_ ?_
              · rintro b a w' ⟨v307,adz_v307,m3_,ha,Q_BK304,Q_HB,Q_HO308,Q_HA_HO308,Q_X3_⟩ hb_ hon hoff
                refine⟨_,rfl,fun K hK=> ?_⟩
                have e17:a.tmps[17]?=some (.string ((rdOf ByteArray.empty y306 a0_0)++t310)):=by rw[ha];exact putSel_on (e:=(8,17,.string ((rdOf ByteArray.empty y306 a0_0)++t310))) 6 rfl rfl (hon 8 (by kernel_rfl)) rfl
                replace ha:=Aside0.mk ha;have BK304:=Aside0.mk Q_BK304;have HB:=Aside0.mk Q_HB;have HO308:=Aside0.mk (Q_HO308 (hon 0 (by kernel_rfl)))
                have HA_HO308:=Aside0.mk (Q_HA_HO308 (hon 0 (by kernel_rfl)))
                refine value_ (w1:=w') (v:=.string ((rdOf ByteArray.empty y306 a0_0)++t310)) (by rfl) rfl ?_ ?_
                · go_simp
                  (try simp only[i64_w])
                  try rfl
                refine hK.out _ _ ⟨v307,adz_v307,m3_,(by rw[ha.out];exact putSel_upk 7 hb_ rfl rfl rfl),Q_BK304,Q_HB,Q_HO308,Q_HA_HO308,Q_X3_⟩
              exact steps_nil
            rintro b a w22 hall ⟨v307,adz_v307,m3_,ha,Q_BK304,Q_HB,Q_HO308,Q_HA_HO308,Q_X3_⟩
            clear BK304 HB;have hb0_:=hall 0 (by kernel_rfl)
            have hb2_:=hall 2 (by kernel_rfl)
            have hb3_:=hall 3 (by kernel_rfl)
            have hb4_:=hall 4 (by kernel_rfl)
            have hb6_:=hall 6 (by kernel_rfl)
            have hb7_:=hall 7 (by kernel_rfl)
            have hb8_:=hall 8 (by kernel_rfl)
            have hb9_:=hall 9 (by kernel_rfl)
            subst ha;obtain rfl:=Q_X3_ hb3_;simp only[putSel,hb0_,hb2_,hb3_,hb4_,hb6_,hb7_,hb8_,hb9_,if_true,Act.put,List.setIfInBounds_toArray,List.set_cons_zero,List.set_cons_succ]
            have BK304:=Aside0.mk Q_BK304;clear Q_BK304;have HB:=Aside0.mk Q_HB;clear Q_HB;have HO308:=Aside0.mk (Q_HO308 hb0_);clear Q_HO308;have HA_HO308:=Aside0.mk (Q_HA_HO308 hb0_);clear Q_HA_HO308;clear hall hb0_ hb2_ hb3_ hb4_ hb6_ hb7_ hb8_ hb9_;obtain⟨co23,eo23⟩:=HA_HO308.out;clear HA_HO308;subst eo23;try go_wp2
            go_ret
            exact⟨by first|rfl|(simp[errW_none,errW_some]<;>rfl)|(simp[*,errW_none,errW_some]<;>rfl),by repeat(first|(with_reducible first|exact HB.out|apply below_alloc|apply pw_below_drewN|apply below_drew1|refine below_set ?_ GE304.out)|exact HB.out)⟩
          · rw[if_neg c12]at H
            exact absurd H (by simp)
        · rw[if_neg c10]at H
          exact absurd H (by simp)
      · rw[if_neg c9]at H
        exact absurd H (by simp)
  · replace c3:=Bool.eq_false_iff.mpr c3
    subst c3;have H1:(some (⟨#[]⟩:ByteArray))=some r:=by rw[if_neg (show¬(false=true) by decide)]at H;exact H
    clear H;have H:=H1;clear H1;obtain rfl:=Option.some.inj H;go_enter Tryd.func17,Tryd.ntmps17
    go_wp2_with (first|((with_reducible refine gate_dst (N:=1) rfl ?_);refine box_event ?hg (N:=1) ?hd (cs:= #[.int .i64 a0_0,.int .i64 a0_1]) (t:=25) ?hr ?_;(case hd=>rfl);(case hg=>rfl);(case hr=>first|(go_simp;done)|(go_simp;rfl));intro gb304 hg w24 hbox hb;have n0_:=Aside0.mk (below_step (by repeat(first|(with_reducible first|exact HB.out|apply below_alloc|apply pw_below_drewN|apply below_drew1)|exact HB.out)) hb);have n1_:=Aside0.mk (hbox);have n2_:=Aside0.mk ((by rw[hg];exact(below_size (by repeat(first|(with_reducible first|exact HB.out|apply below_alloc|apply pw_below_drewN|apply below_drew1)|exact HB.out))):w.heap.size≤gb304));have n3_:=Aside0.mk ((by rw[hg];exact(below_size (by repeat(first|(with_reducible first|exact HB.out|apply below_alloc|apply pw_below_drewN|apply below_drew1)|exact HB.out))):w.heap.size≤gb304));clear HB;have HB:=n0_;have BK304:=n1_;have GW304:=n2_;have GE304:=n3_;clear n0_ n1_ n2_ n3_;clear hb hbox hg;have hcz25_0:w24.cell? ⟨gb304,0,none⟩=some (.int .i64 a0_0):=(blk_cell BK304.out 0).trans rfl;have hcz25_1:w24.cell? ⟨gb304,1,none⟩=some (.int .i64 a0_1):=(blk_cell BK304.out 1).trans rfl;have hfz25_0:=blk_frozen BK304.out 0;have hfz25_1:=blk_frozen BK304.out 1)|((with_reducible refine gate_callee (f:=42) rfl ?_);refine goesL_ (some 4) rfl rfl Tryd.func42 (by kernel_rfl) rfl #[.agg #[.int .i64 a0_0,.int .i64 a0_1]] rfl (by(try simp only[List.map_toArray,List.map_cons,List.map_nil]);first|done|rfl|(simp only[List.length_drop,List.length_take];rfl)) ?_;(with_reducible refine(spec_ValOk.calls a0_0 a0_1 false _ A2.out).mono ?_);rintro e w26 ⟨rfl,hb⟩;refine⟨_,rfl,?_⟩;have n0_:=Aside0.mk (blk_below (g:=gb304) (o:=.cells #[.int .i64 a0_0,.int .i64 a0_1] 25 (0,0)) (by(with_reducible repeat(first|refine blk_drewN ?_ _|refine blk_drew ?_|refine blk_alloc ?_ _));exact BK304.out) hb);have n1_:=Aside0.mk (below_step (by repeat(first|(with_reducible first|exact HB.out|apply below_alloc|apply pw_below_drewN|apply below_drew1|refine below_set ?_ GE304.out)|exact HB.out)) hb);clear BK304;clear HB;have BK304:=n0_;have HB:=n1_;clear n0_ n1_;(try clear hb);(try clear hb2);(try clear hk);(try clear hi)))
    go_ret
    exact⟨by first|rfl|(simp[errW_none,errW_some]<;>rfl)|(simp[*,errW_none,errW_some]<;>rfl),by repeat(first|(with_reducible first|exact HB.out|apply below_alloc|apply pw_below_drewN|apply below_drew1|refine below_set ?_ GE304.out)|exact HB.out)⟩
mutual
def spec_ValRead.j0:Nat→ByteArray→Bool→Int→Int→Option (Int×Int×Bool)
  |0,_,_,_,_=>none
  |k+1,x0,x5,x316000,x316001=>if x5=true then(if x316000=0 then(spec_ValRead.j1 k true x316000 x316001)else((spec_ValText.f k x316000 x316001).bind fun t316=>(spec_ValRead.j1 k (t316.toList !=x0.toList) x316000 x316001)))else(spec_ValRead.j1 k true x316000 x316001)
def spec_ValRead.j1:Nat→Bool→Int→Int→Option (Int×Int×Bool)
  |0,_,_,_=>none
  |k+1,x46,x316000,x316001=>if x46=true then(some (0,0,false))else(some (x316000,x316001,true))
end
def spec_ValRead.f (k:Nat) (a0:ByteArray):Option (Int×Int×Bool):=if a0.toList=([110,111,110,101]:List UInt8)then(some (0,0,true))else((spec_l6In.f (a0.size:Int) 2 4).bind fun t312=>(if t312=true then(if 1≤(a0.size:Int)then((spec_l1Dec.f k (a0.extract 1 a0.size)).bind fun bt313=>(if 0<(a0.size:Int)then(if(bt a0 0)=110 then(spec_ValRead.j0 k a0 bt313.2 1 bt313.1)else(if(bt a0 0)=97 then(spec_ValRead.j0 k a0 bt313.2 2 bt313.1)else(if(bt a0 0)=114 then(spec_ValRead.j0 k a0 bt313.2 3 bt313.1)else(spec_ValRead.j0 k a0 bt313.2 0 bt313.1))))else(none)))else(none))else(some (0,0,false))))
theorem spec_ValRead.mono_l: ∀k,(∀y0 y1 y2 y3,LeO (spec_ValRead.j0 k y0 y1 y2 y3) (spec_ValRead.j0 (k+1) y0 y1 y2 y3))∧(∀y0 y1 y2,LeO (spec_ValRead.j1 k y0 y1 y2) (spec_ValRead.j1 (k+1) y0 y1 y2))
  |0=>⟨fun _ _ _ _ r h=>by simp[spec_ValRead.j0]at h,fun _ _ _ r h=>by simp[spec_ValRead.j1]at h⟩
  |k+1=>by
    obtain⟨ih0,ih1⟩:=spec_ValRead.mono_l k;refine⟨?_,?_⟩
    · intro y0 y1 y2 y3
      unfold spec_ValRead.j0;repeat' first
      |(with_reducible exact ih0 _ _ _ _)
      |(with_reducible exact ih1 _ _ _)
      |(with_reducible exact spec_ValText.mono _ _ _)
      |(with_reducible exact spec_l1Dec.mono _ _)
      |(with_reducible exact LeO.refl _)
      |(with_reducible exact LeO.none _)
      |(with_reducible refine LeO.ite ?_ ?_)
      |(with_reducible refine LeO.bind ?_ (fun _=> ?_))
      |exact ih0 _ _ _ _
      |exact ih1 _ _ _
      |exact spec_ValText.mono _ _ _
      |exact spec_l1Dec.mono _ _
      |exact LeO.none _
      |refine LeO.ite ?_ ?_
      |refine LeO.bind ?_ (fun _=> ?_)
    · intro y0 y1 y2
      unfold spec_ValRead.j1;repeat' first
      |(with_reducible exact ih0 _ _ _ _)
      |(with_reducible exact ih1 _ _ _)
      |(with_reducible exact spec_ValText.mono _ _ _)
      |(with_reducible exact spec_l1Dec.mono _ _)
      |(with_reducible exact LeO.refl _)
      |(with_reducible exact LeO.none _)
      |(with_reducible refine LeO.ite ?_ ?_)
      |(with_reducible refine LeO.bind ?_ (fun _=> ?_))
      |exact ih0 _ _ _ _
      |exact ih1 _ _ _
      |exact spec_ValText.mono _ _ _
      |exact spec_l1Dec.mono _ _
      |exact LeO.none _
      |refine LeO.ite ?_ ?_
      |refine LeO.bind ?_ (fun _=> ?_)
theorem spec_ValRead.mono: ∀a0 k,LeO (spec_ValRead.f k a0) (spec_ValRead.f (k+1) a0):=by
  intro a0 k;obtain⟨ih0,ih1⟩:=spec_ValRead.mono_l k;unfold spec_ValRead.f
  repeat' first
      |(with_reducible exact ih0 _ _ _ _)
      |(with_reducible exact ih1 _ _ _)
      |(with_reducible exact spec_ValText.mono _ _ _)
      |(with_reducible exact spec_l1Dec.mono _ _)
      |(with_reducible exact LeO.refl _)
      |(with_reducible exact LeO.none _)
      |(with_reducible refine LeO.ite ?_ ?_)
      |(with_reducible refine LeO.bind ?_ (fun _=> ?_))
      |exact ih0 _ _ _ _
      |exact ih1 _ _ _
      |exact spec_ValText.mono _ _ _
      |exact spec_l1Dec.mono _ _
      |exact LeO.none _
      |refine LeO.ite ?_ ?_
      |refine LeO.bind ?_ (fun _=> ?_)
theorem spec_ValRead.calls (k:Nat) (a0:ByteArray) (r1:Int) (r2:Int) (r3:Bool) (w:World) (h:spec_ValRead.f k a0=some (r1,r2,r3)):
    Calls Tryd.prog 29 #[.string a0] w fun e w'=>e= .returned (.tuple #[.agg #[.int .i64 r1,.int .i64 r2],.bool r3])∧Below w.heap.size w w':=by
  have hu25:=Tryd.underlying25;have HB:=Aside0.mk (Below.refl w.heap.size w);have H:(if a0.toList=([110,111,110,101]:List UInt8)then(some (0,0,true))else((spec_l6In.f (a0.size:Int) 2 4).bind fun t312=>(if t312=true then(if 1≤(a0.size:Int)then((spec_l1Dec.f k (a0.extract 1 a0.size)).bind fun bt313=>(if 0<(a0.size:Int)then(if(bt a0 0)=110 then(spec_ValRead.j0 k a0 bt313.2 1 bt313.1)else(if(bt a0 0)=97 then(spec_ValRead.j0 k a0 bt313.2 2 bt313.1)else(if(bt a0 0)=114 then(spec_ValRead.j0 k a0 bt313.2 3 bt313.1)else(spec_ValRead.j0 k a0 bt313.2 0 bt313.1))))else(none)))else(none))else(some (0,0,false)))))=some (r1,r2,r3):=h
  clear h;by_cases c2:a0.toList=([110,111,110,101]:List UInt8)
  · rw[if_pos c2]at H
    have c2b0:(a0.toList==([110,111,110,101]:List UInt8))=true:=beq_iff_eq.mpr c2;have c2b1:(a0.toList !=([110,111,110,101]:List UInt8))=false:=bne_eq_false_iff_eq.mpr c2;clear c2;simp only[Option.some.injEq,Prod.mk.injEq]at H
    obtain⟨rfl,rfl,rfl⟩:=H;go_enter Tryd.func29,Tryd.ntmps29
    go_wp2_with (first|((with_reducible refine gate_dst (N:=2) rfl ?_);refine box_event ?hg (N:=2) ?hd (cs:= #[.int .i64 0,.int .i64 0]) (t:=25) ?hr ?_;(case hd=>rfl);(case hg=>rfl);(case hr=>first|(go_simp;done)|(go_simp;rfl));intro gb311 hg w3 hbox hb;have n0_:=Aside0.mk (below_step (by repeat(first|(with_reducible first|exact HB.out|apply below_alloc|apply pw_below_drewN|apply below_drew1)|exact HB.out)) hb);have n1_:=Aside0.mk (hbox);have n2_:=Aside0.mk ((by rw[hg];exact(below_size (by repeat(first|(with_reducible first|exact HB.out|apply below_alloc|apply pw_below_drewN|apply below_drew1)|exact HB.out))):w.heap.size≤gb311));have n3_:=Aside0.mk ((by rw[hg];exact(below_size (by repeat(first|(with_reducible first|exact HB.out|apply below_alloc|apply pw_below_drewN|apply below_drew1)|exact HB.out))):w.heap.size≤gb311));clear HB;have HB:=n0_;have BK311:=n1_;have GW311:=n2_;have GE311:=n3_;clear n0_ n1_ n2_ n3_;clear hb hbox hg;have hcz4_0:w3.cell? ⟨gb311,0,none⟩=some (.int .i64 0):=(blk_cell BK311.out 0).trans rfl;have hcz4_1:w3.cell? ⟨gb311,1,none⟩=some (.int .i64 0):=(blk_cell BK311.out 1).trans rfl;have hfz4_0:=blk_frozen BK311.out 0;have hfz4_1:=blk_frozen BK311.out 1))
    refine bodyPost_ret (results_ct rfl _ _ gb311 25 #[.int .i64 0,.int .i64 0] (0,0) _ rfl (by(with_reducible repeat(first|refine blk_drewN ?_ _|refine blk_drew ?_|refine blk_alloc ?_ _));refine blk_put (cs:= #[.int .i64 0,.int .i64 0]) ?_ 1 _ rfl;(with_reducible repeat(first|refine blk_drewN ?_ _|refine blk_drew ?_|refine blk_alloc ?_ _));refine blk_put (cs:= #[.int .i64 0,.int .i64 0]) ?_ 0 _ rfl;(with_reducible repeat(first|refine blk_drewN ?_ _|refine blk_drew ?_|refine blk_alloc ?_ _));exact BK311.out) Tryd.underlying25 rfl (by kernel_rfl)) rfl ?_
    exact⟨by first|rfl|(simp[errW_none,errW_some]<;>rfl)|(simp[*,errW_none,errW_some]<;>rfl),by repeat(first|(with_reducible first|exact HB.out|apply below_alloc|apply pw_below_drewN|apply below_drew1|refine below_set ?_ GE311.out)|exact HB.out)⟩
  · rw[if_neg c2]at H
    have c2b0:(a0.toList==([110,111,110,101]:List UInt8))=false:=beq_eq_false_iff_ne.mpr c2;have c2b1:(a0.toList !=([110,111,110,101]:List UInt8))=true:=bne_iff_ne.mpr c2;replace H:=Option.bind_eq_some_iff.mp H;obtain⟨t312,A50,H⟩:=H;replace H:(if t312=true then(if 1≤(a0.size:Int)then((spec_l1Dec.f k (a0.extract 1 a0.size)).bind fun bt313=>(if 0<(a0.size:Int)then(if(bt a0 0)=110 then(spec_ValRead.j0 k a0 bt313.2 1 bt313.1)else(if(bt a0 0)=97 then(spec_ValRead.j0 k a0 bt313.2 2 bt313.1)else(if(bt a0 0)=114 then(spec_ValRead.j0 k a0 bt313.2 3 bt313.1)else(spec_ValRead.j0 k a0 bt313.2 0 bt313.1))))else(none)))else(none))else(some (0,0,false)))=some (r1,r2,r3):=H
    have A5:=Aside0.mk A50;clear A50;by_cases c6:t312=true
    · subst c6
      have H1:(if 1≤(a0.size:Int)then((spec_l1Dec.f k (a0.extract 1 a0.size)).bind fun bt313=>(if 0<(a0.size:Int)then(if(bt a0 0)=110 then(spec_ValRead.j0 k a0 bt313.2 1 bt313.1)else(if(bt a0 0)=97 then(spec_ValRead.j0 k a0 bt313.2 2 bt313.1)else(if(bt a0 0)=114 then(spec_ValRead.j0 k a0 bt313.2 3 bt313.1)else(spec_ValRead.j0 k a0 bt313.2 0 bt313.1))))else(none)))else(none))=some (r1,r2,r3):=by rw[if_pos rfl]at H;exact H
      clear H;have H:=H1;clear H1;by_cases c7:1≤(a0.size:Int)
      · rw[if_pos c7]at H
        have c7b0:=eq_true c7;have c7b1:decide (1≤(a0.size:Int))=true:=decide_eq_true c7;clear c7;replace H:=Option.bind_eq_some_iff.mp H;obtain⟨⟨t313,t314⟩,A80,H⟩:=H;replace H:(if 0<(a0.size:Int)then(if(bt a0 0)=110 then(spec_ValRead.j0 k a0 t314 1 t313)else(if(bt a0 0)=97 then(spec_ValRead.j0 k a0 t314 2 t313)else(if(bt a0 0)=114 then(spec_ValRead.j0 k a0 t314 3 t313)else(spec_ValRead.j0 k a0 t314 0 t313))))else(none))=some (r1,r2,r3):=H
        have A8:=Aside0.mk A80;clear A80;by_cases c9:0<(a0.size:Int)
        · rw[if_pos c9]at H
          have c9b0:decide (0<(a0.size:Int))=true:=decide_eq_true c9;have c9b1:decide (0<a0.size)=true:=decide_eq_true (by omega)
          clear c9;have HC11:=Aside0.mk H;clear H;go_enter Tryd.func29,Tryd.ntmps29
          go_upto_block 0 with (first|((with_reducible refine gate_dst (N:=2) rfl ?_);refine box_event ?hg (N:=2) ?hd (cs:= #[.int .i64 0,.int .i64 0]) (t:=25) ?hr ?_;(case hd=>rfl);(case hg=>rfl);(case hr=>first|(go_simp;done)|(go_simp;rfl));intro gb311 hg w12 hbox hb;have n0_:=Aside0.mk (below_step (by repeat(first|(with_reducible first|exact HB.out|apply below_alloc|apply pw_below_drewN|apply below_drew1)|exact HB.out)) hb);have n1_:=Aside0.mk (hbox);have n2_:=Aside0.mk ((by rw[hg];exact(below_size (by repeat(first|(with_reducible first|exact HB.out|apply below_alloc|apply pw_below_drewN|apply below_drew1)|exact HB.out))):w.heap.size≤gb311));have n3_:=Aside0.mk ((by rw[hg];exact(below_size (by repeat(first|(with_reducible first|exact HB.out|apply below_alloc|apply pw_below_drewN|apply below_drew1)|exact HB.out))):w.heap.size≤gb311));clear HB;have HB:=n0_;have BK311:=n1_;have GW311:=n2_;have GE311:=n3_;clear n0_ n1_ n2_ n3_;clear hb hbox hg)|((with_reducible refine gate_callee (f:=56) rfl ?_);refine goesL_ (some 12) rfl rfl Tryd.func56 (by kernel_rfl) rfl #[.int .i64 (a0.size:Int),.int .i64 2,.int .i64 4] rfl (by(try simp only[List.map_toArray,List.map_cons,List.map_nil]);first|done|rfl|(simp only[List.length_drop,List.length_take];rfl)) ?_;(with_reducible refine(spec_l6In.calls (a0.size:Int) 2 4 true _ A5.out).mono ?_);rintro e w' ⟨rfl,⟨nd,rfl⟩⟩;refine⟨_,rfl,?_⟩;(try(rw[drewN_self w12];generalize hq_:World.drewN w12 _=w12;have n0_:Aside0 (w12.heap[gb311]?=some (.cells #[.int .i64 0,.int .i64 0] 25 (0,0))):=⟨by rw[←hq_];exact(by(with_reducible repeat(first|refine blk_drewN ?_ _|refine blk_drew ?_|refine blk_alloc ?_ _));exact BK311.out)⟩;have n1_:Aside0 (Below w.heap.size w w12):=⟨by rw[←hq_];exact(by repeat(first|(with_reducible first|exact HB.out|apply below_alloc|apply pw_below_drewN|apply below_drew1|refine below_set ?_ GE311.out)|exact HB.out))⟩;clear BK311 HB hq_;have BK311:=n0_;have HB:=n1_;clear n0_ n1_)))|((with_reducible refine gate_callee (f:=57) rfl ?_);refine goesL_ (some 18) rfl rfl Tryd.func57 (by kernel_rfl) rfl #[.string (a0.extract 1 a0.size)] rfl (by(try simp only[List.map_toArray,List.map_cons,List.map_nil]);first|done|rfl|(simp only[List.length_drop,List.length_take];rfl)) ?_;(with_reducible refine(spec_l1Dec.calls k (a0.extract 1 a0.size) t313 t314 _ A8.out).mono ?_);rintro e w' ⟨rfl,⟨nd,rfl⟩⟩;refine⟨_,rfl,?_⟩;(try(rw[drewN_self w12];generalize hq_:World.drewN w12 _=w12;have n0_:Aside0 (w12.heap[gb311]?=some (.cells #[.int .i64 0,.int .i64 0] 25 (0,0))):=⟨by rw[←hq_];exact(by(with_reducible repeat(first|refine blk_drewN ?_ _|refine blk_drew ?_|refine blk_alloc ?_ _));exact BK311.out)⟩;have n1_:Aside0 (Below w.heap.size w w12):=⟨by rw[←hq_];exact(by repeat(first|(with_reducible first|exact HB.out|apply below_alloc|apply pw_below_drewN|apply below_drew1|refine below_set ?_ GE311.out)|exact HB.out))⟩;clear BK311 HB hq_;have BK311:=n0_;have HB:=n1_;clear n0_ n1_)))|((with_reducible refine gate_dst (N:=6) rfl ?_);refine box_event ?hg (N:=6) ?hd (cs:= #[.int .i64 0,.int .i64 0]) (t:=25) ?hr ?_;(case hd=>rfl);(case hg=>rfl);(case hr=>first|(go_simp;done)|(go_simp;rfl));intro gb315 hg w13 hbox hb;have n0_:=Aside0.mk (blk_below (g:=gb311) (o:=.cells #[.int .i64 0,.int .i64 0] 25 (0,0)) (by(with_reducible repeat(first|refine blk_drewN ?_ _|refine blk_drew ?_|refine blk_alloc ?_ _));exact BK311.out) hb);have n1_:=Aside0.mk (below_step (by repeat(first|(with_reducible first|exact HB.out|apply below_alloc|apply pw_below_drewN|apply below_drew1|refine below_set ?_ GE311.out)|exact HB.out)) hb);have n2_:=Aside0.mk (hbox);have n3_:=Aside0.mk ((by rw[hg];exact(below_size (by repeat(first|(with_reducible first|exact HB.out|apply below_alloc|apply pw_below_drewN|apply below_drew1|refine below_set ?_ GE311.out)|exact HB.out))):w.heap.size≤gb315));have n4_:=Aside0.mk ((by rw[hg];exact(below_size (by repeat(first|(with_reducible first|exact HB.out|apply below_alloc|apply pw_below_drewN|apply below_drew1|refine below_set ?_ GE311.out)|exact HB.out))):w.heap.size≤gb315));have n5_:=Aside0.mk ((by rw[hg];exact Nat.ne_of_lt (blk_lt (g:=gb311) (o:=.cells #[.int .i64 0,.int .i64 0] 25 (0,0)) (by(with_reducible repeat(first|refine blk_drewN ?_ _|refine blk_drew ?_|refine blk_alloc ?_ _));exact BK311.out)):gb311≠gb315));have n6_:=Aside0.mk ((by rw[hg];exact Nat.ne_of_gt (blk_lt (g:=gb311) (o:=.cells #[.int .i64 0,.int .i64 0] 25 (0,0)) (by(with_reducible repeat(first|refine blk_drewN ?_ _|refine blk_drew ?_|refine blk_alloc ?_ _));exact BK311.out)):gb315≠gb311));clear BK311;clear HB;have BK311:=n0_;have HB:=n1_;have BK315:=n2_;have GW315:=n3_;have GE315:=n4_;have NB311_315:=n5_;have NB315_311:=n6_;clear n0_ n1_ n2_ n3_ n4_ n5_ n6_;clear hb hbox hg;have hnb14:=NB315_311.out;have hnc14:=NB311_315.out;have hcz15_0:w13.cell? ⟨gb315,0,none⟩=some (.int .i64 0):=(blk_cell BK315.out 0).trans rfl;have hcz15_1:w13.cell? ⟨gb315,1,none⟩=some (.int .i64 0):=(blk_cell BK315.out 1).trans rfl;have hfz15_0:=blk_frozen BK315.out 0;have hfz15_1:=blk_frozen BK315.out 1;have p10:0≤(0:Int):=(by omega);have q10:0<a0.size:=(by have:(0:Int)<(a0.size:Int):=of_decide_eq_true (by first|(with_reducible assumption)|assumption);omega);have hx10: ∀h:0<a0.size,((a0[0]'h).toNat:Int)=bt a0 0:=bt_at a0 0;clear p10;have qi10:(0<(a0.size:Int))=True:=eq_true (of_decide_eq_true (by first|(with_reducible assumption)|assumption));replace q10:=eq_true q10))
          (try simp only[Act.put,List.setIfInBounds_toArray,List.set_cons_zero,List.set_cons_succ])
          go_cut [] (fun wc=> ∃ (kq:Nat) (x316000_10:Int),Aside0 (spec_ValRead.j0 kq a0 t314 x316000_10 t313=some (r1,r2,r3))∧Aside0 (kq≤k)∧Aside0 (wc.heap[gb311]?=some (.cells #[.int .i64 0,.int .i64 0] 25 (0,0)))∧Aside0 (wc.heap[gb315]?=some (.cells #[.int .i64 x316000_10,.int .i64 t313] 25 (0,0)))∧Aside0 (Below w.heap.size w wc))
          case first=>
            have H:=HC11.out;clear HC11;by_cases c16:(bt a0 0)=110
            · rw[if_pos c16]at H
              have c16b0:((bt a0 0)==110)=true:=beq_iff_eq.mpr c16;have c16b1:((bt a0 0) !=110)=false:=bne_eq_false_iff_eq.mpr c16;clear c16;(first|rw[c16b0]|(simp only[i64_w,i32_w];rw[c16b0])|skip)
              have H':=Aside0.mk H;clear H;have hnb17:=NB315_311.out;have hnc17:=NB311_315.out;have hcz18_0:w13.cell? ⟨gb315,0,none⟩=some (.int .i64 0):=(blk_cell BK315.out 0).trans rfl;have hcz18_1:w13.cell? ⟨gb315,1,none⟩=some (.int .i64 0):=(blk_cell BK315.out 1).trans rfl;have hfz18_0:=blk_frozen BK315.out 0;have hfz18_1:=blk_frozen BK315.out 1;go_wp2
              go_meet
              case rel=>exact⟨_,(1),H',⟨by first|omega|exact Nat.le_refl _⟩,⟨by(with_reducible repeat(first|refine blk_drewN ?_ _|refine blk_drew ?_|refine blk_alloc ?_ _));refine blk_far ?_ NB311_315.out _;(with_reducible repeat(first|refine blk_drewN ?_ _|refine blk_drew ?_|refine blk_alloc ?_ _));refine blk_far ?_ NB311_315.out _;(with_reducible repeat(first|refine blk_drewN ?_ _|refine blk_drew ?_|refine blk_alloc ?_ _));refine blk_far ?_ NB311_315.out _;(with_reducible repeat(first|refine blk_drewN ?_ _|refine blk_drew ?_|refine blk_alloc ?_ _));exact BK311.out⟩,⟨by(with_reducible repeat(first|refine blk_drewN ?_ _|refine blk_drew ?_|refine blk_alloc ?_ _));refine blk_put (cs:= #[.int .i64 0,.int .i64 t313]) ?_ 0 _ rfl;(with_reducible repeat(first|refine blk_drewN ?_ _|refine blk_drew ?_|refine blk_alloc ?_ _));refine blk_put (cs:= #[.int .i64 0,.int .i64 0]) ?_ 1 _ rfl;(with_reducible repeat(first|refine blk_drewN ?_ _|refine blk_drew ?_|refine blk_alloc ?_ _));refine blk_put (cs:= #[.int .i64 0,.int .i64 0]) ?_ 0 _ rfl;(with_reducible repeat(first|refine blk_drewN ?_ _|refine blk_drew ?_|refine blk_alloc ?_ _));exact BK315.out⟩,⟨by repeat(first|(with_reducible first|exact HB.out|apply below_alloc|apply pw_below_drewN|apply below_drew1|refine below_set ?_ GE311.out|refine below_set ?_ GE315.out)|exact HB.out)⟩⟩
            · rw[if_neg c16]at H
              have c16b0:((bt a0 0)==110)=false:=beq_eq_false_iff_ne.mpr c16;have c16b1:((bt a0 0) !=110)=true:=bne_iff_ne.mpr c16;(first|rw[c16b0]|(simp only[i64_w,i32_w];rw[c16b0])|skip)
              by_cases c19:(bt a0 0)=97
              · rw[if_pos c19]at H
                have c19b0:((bt a0 0)==97)=true:=beq_iff_eq.mpr c19;have c19b1:((bt a0 0) !=97)=false:=bne_eq_false_iff_eq.mpr c19;clear c19;have H':=Aside0.mk H;clear H;have hnb20:=NB315_311.out;have hnc20:=NB311_315.out;have hcz21_0:w13.cell? ⟨gb315,0,none⟩=some (.int .i64 0):=(blk_cell BK315.out 0).trans rfl;have hcz21_1:w13.cell? ⟨gb315,1,none⟩=some (.int .i64 0):=(blk_cell BK315.out 1).trans rfl;have hfz21_0:=blk_frozen BK315.out 0;have hfz21_1:=blk_frozen BK315.out 1;go_wp2
                go_meet
                case rel=>exact⟨_,(2),H',⟨by first|omega|exact Nat.le_refl _⟩,⟨by(with_reducible repeat(first|refine blk_drewN ?_ _|refine blk_drew ?_|refine blk_alloc ?_ _));refine blk_far ?_ NB311_315.out _;(with_reducible repeat(first|refine blk_drewN ?_ _|refine blk_drew ?_|refine blk_alloc ?_ _));refine blk_far ?_ NB311_315.out _;(with_reducible repeat(first|refine blk_drewN ?_ _|refine blk_drew ?_|refine blk_alloc ?_ _));refine blk_far ?_ NB311_315.out _;(with_reducible repeat(first|refine blk_drewN ?_ _|refine blk_drew ?_|refine blk_alloc ?_ _));exact BK311.out⟩,⟨by(with_reducible repeat(first|refine blk_drewN ?_ _|refine blk_drew ?_|refine blk_alloc ?_ _));refine blk_put (cs:= #[.int .i64 0,.int .i64 t313]) ?_ 0 _ rfl;(with_reducible repeat(first|refine blk_drewN ?_ _|refine blk_drew ?_|refine blk_alloc ?_ _));refine blk_put (cs:= #[.int .i64 0,.int .i64 0]) ?_ 1 _ rfl;(with_reducible repeat(first|refine blk_drewN ?_ _|refine blk_drew ?_|refine blk_alloc ?_ _));refine blk_put (cs:= #[.int .i64 0,.int .i64 0]) ?_ 0 _ rfl;(with_reducible repeat(first|refine blk_drewN ?_ _|refine blk_drew ?_|refine blk_alloc ?_ _));exact BK315.out⟩,⟨by repeat(first|(with_reducible first|exact HB.out|apply below_alloc|apply pw_below_drewN|apply below_drew1|refine below_set ?_ GE311.out|refine below_set ?_ GE315.out)|exact HB.out)⟩⟩
              · rw[if_neg c19]at H
                have c19b0:((bt a0 0)==97)=false:=beq_eq_false_iff_ne.mpr c19;have c19b1:((bt a0 0) !=97)=true:=bne_iff_ne.mpr c19;by_cases c22:(bt a0 0)=114
                · rw[if_pos c22]at H
                  have c22b0:((bt a0 0)==114)=true:=beq_iff_eq.mpr c22;have c22b1:((bt a0 0) !=114)=false:=bne_eq_false_iff_eq.mpr c22;clear c22;have H':=Aside0.mk H;clear H;have hnb23:=NB315_311.out;have hnc23:=NB311_315.out;have hcz24_0:w13.cell? ⟨gb315,0,none⟩=some (.int .i64 0):=(blk_cell BK315.out 0).trans rfl;have hcz24_1:w13.cell? ⟨gb315,1,none⟩=some (.int .i64 0):=(blk_cell BK315.out 1).trans rfl;have hfz24_0:=blk_frozen BK315.out 0;have hfz24_1:=blk_frozen BK315.out 1;go_wp2
                  go_meet
                  case rel=>exact⟨_,(3),H',⟨by first|omega|exact Nat.le_refl _⟩,⟨by(with_reducible repeat(first|refine blk_drewN ?_ _|refine blk_drew ?_|refine blk_alloc ?_ _));refine blk_far ?_ NB311_315.out _;(with_reducible repeat(first|refine blk_drewN ?_ _|refine blk_drew ?_|refine blk_alloc ?_ _));refine blk_far ?_ NB311_315.out _;(with_reducible repeat(first|refine blk_drewN ?_ _|refine blk_drew ?_|refine blk_alloc ?_ _));refine blk_far ?_ NB311_315.out _;(with_reducible repeat(first|refine blk_drewN ?_ _|refine blk_drew ?_|refine blk_alloc ?_ _));exact BK311.out⟩,⟨by(with_reducible repeat(first|refine blk_drewN ?_ _|refine blk_drew ?_|refine blk_alloc ?_ _));refine blk_put (cs:= #[.int .i64 0,.int .i64 t313]) ?_ 0 _ rfl;(with_reducible repeat(first|refine blk_drewN ?_ _|refine blk_drew ?_|refine blk_alloc ?_ _));refine blk_put (cs:= #[.int .i64 0,.int .i64 0]) ?_ 1 _ rfl;(with_reducible repeat(first|refine blk_drewN ?_ _|refine blk_drew ?_|refine blk_alloc ?_ _));refine blk_put (cs:= #[.int .i64 0,.int .i64 0]) ?_ 0 _ rfl;(with_reducible repeat(first|refine blk_drewN ?_ _|refine blk_drew ?_|refine blk_alloc ?_ _));exact BK315.out⟩,⟨by repeat(first|(with_reducible first|exact HB.out|apply below_alloc|apply pw_below_drewN|apply below_drew1|refine below_set ?_ GE311.out|refine below_set ?_ GE315.out)|exact HB.out)⟩⟩
                · rw[if_neg c22]at H
                  have c22b0:((bt a0 0)==114)=false:=beq_eq_false_iff_ne.mpr c22;have c22b1:((bt a0 0) !=114)=true:=bne_iff_ne.mpr c22;have H':=Aside0.mk H;clear H;go_wp2
                  go_meet
                  case rel=>exact⟨_,(0),H',⟨by first|omega|exact Nat.le_refl _⟩,⟨by(with_reducible repeat(first|refine blk_drewN ?_ _|refine blk_drew ?_|refine blk_alloc ?_ _));refine blk_far ?_ NB311_315.out _;(with_reducible repeat(first|refine blk_drewN ?_ _|refine blk_drew ?_|refine blk_alloc ?_ _));refine blk_far ?_ NB311_315.out _;(with_reducible repeat(first|refine blk_drewN ?_ _|refine blk_drew ?_|refine blk_alloc ?_ _));exact BK311.out⟩,⟨by(with_reducible repeat(first|refine blk_drewN ?_ _|refine blk_drew ?_|refine blk_alloc ?_ _));refine blk_put (cs:= #[.int .i64 0,.int .i64 0]) ?_ 1 _ rfl;(with_reducible repeat(first|refine blk_drewN ?_ _|refine blk_drew ?_|refine blk_alloc ?_ _));refine blk_put (cs:= #[.int .i64 0,.int .i64 0]) ?_ 0 _ rfl;(with_reducible repeat(first|refine blk_drewN ?_ _|refine blk_drew ?_|refine blk_alloc ?_ _));exact BK315.out⟩,⟨by repeat(first|(with_reducible first|exact HB.out|apply below_alloc|apply pw_below_drewN|apply below_drew1|refine below_set ?_ GE311.out|refine below_set ?_ GE315.out)|exact HB.out)⟩⟩
          case rest=>
            clear HC11;try clear c1
            try clear p1
            try clear q1
            try clear hx1
            try clear qi1
            try clear c2
            try clear c2b0
            try clear c2b1
            try clear p2
            try clear c5
            try clear c6
            try clear c7
            try clear c7b0
            try clear c7b1
            try clear c9
            try clear c9b0
            try clear c9b1
            try clear p10
            try clear q10
            try clear hx10
            try clear qi10
            try clear c14
            try clear c16
            try clear c16b0
            try clear c16b1
            try clear c17
            try clear c19
            try clear c19b0
            try clear c19b1
            try clear c20
            try clear c22
            try clear c22b0
            try clear c22b1
            try clear c23
            try clear hcz15_0
            try clear hcz15_1
            try clear hcz18_0
            try clear hcz18_1
            try clear hcz21_0
            try clear hcz21_1
            try clear hcz24_0
            try clear hcz24_1
            try clear hcz4_0
            try clear hcz4_1
            try clear hfz15_0
            try clear hfz15_1
            try clear hfz18_0
            try clear hfz18_1
            try clear hfz21_0
            try clear hfz21_1
            try clear hfz24_0
            try clear hfz24_1
            try clear hfz4_0
            try clear hfz4_1
            try clear p10
            try clear q10
            obtain⟨kq,x316000_10,HA,HJ10,BK311,BK315,HB⟩:=hcut;cases kq with
            |zero=>exact absurd HA.out (by simp[spec_ValRead.j0])
            |succ kj10=>
              have H:=HA.out;clear HA;simp only[spec_ValRead.j0]at H
              have HC25:=Aside0.mk H;clear H;go_upto_region 14 with (fail)
              go_cut [46] (fun v46 wc=> ∃ (kq:Nat) (x46_24:Bool),v46= .bool x46_24∧Aside0 (spec_ValRead.j1 kq x46_24 x316000_10 t313=some (r1,r2,r3))∧Aside0 (kq≤kj10)∧Aside0 (wc.heap[gb311]?=some (.cells #[.int .i64 0,.int .i64 0] 25 (0,0)))∧Aside0 (wc.heap[gb315]?=some (.cells #[.int .i64 x316000_10,.int .i64 t313] 25 (0,0)))∧Aside0 (Below w.heap.size w wc))
              case first=>
                have H:=HC25.out;clear HC25;by_cases c26:t314=true
                · subst c26
                  have H1:(if x316000_10=0 then(spec_ValRead.j1 kj10 true x316000_10 t313)else((spec_ValText.f kj10 x316000_10 t313).bind fun t316=>(spec_ValRead.j1 kj10 (t316.toList !=a0.toList) x316000_10 t313)))=some (r1,r2,r3):=by rw[if_pos rfl]at H;exact H
                  clear H;have H:=H1;clear H1;by_cases c27:x316000_10=0
                  · rw[if_pos c27]at H
                    have c27b0:(x316000_10==0)=true:=beq_iff_eq.mpr c27;have c27b1:(x316000_10 !=0)=false:=bne_eq_false_iff_eq.mpr c27;clear c27;(first|rw[c27b0]|(simp only[i64_w,i32_w];rw[c27b0])|skip)
                    have H':=Aside0.mk H;clear H;have hnb28:=NB315_311.out;have hnc28:=NB311_315.out;have hcz29_0:wc.cell? ⟨gb315,0,none⟩=some (.int .i64 x316000_10):=(blk_cell BK315.out 0).trans rfl;have hcz29_1:wc.cell? ⟨gb315,1,none⟩=some (.int .i64 t313):=(blk_cell BK315.out 1).trans rfl;have hfz29_0:=blk_frozen BK315.out 0;have hfz29_1:=blk_frozen BK315.out 1;go_wp2
                    go_meet
                    case rel=>exact⟨_,(true),(by first|rfl|(simp;done)|(simp[*];done)),H',⟨by have:=HJ10.out;first|omega|exact Nat.le_refl _⟩,⟨by(with_reducible repeat(first|refine blk_drewN ?_ _|refine blk_drew ?_|refine blk_alloc ?_ _));exact BK311.out⟩,⟨by(with_reducible repeat(first|refine blk_drewN ?_ _|refine blk_drew ?_|refine blk_alloc ?_ _));exact BK315.out⟩,⟨by repeat(first|(with_reducible first|exact HB.out|apply below_alloc|apply pw_below_drewN|apply below_drew1|refine below_set ?_ GE311.out|refine below_set ?_ GE315.out)|exact HB.out)⟩⟩
                  · rw[if_neg c27]at H
                    have c27b0:(x316000_10==0)=false:=beq_eq_false_iff_ne.mpr c27;have c27b1:(x316000_10 !=0)=true:=bne_iff_ne.mpr c27;(first|rw[c27b0]|(simp only[i64_w,i32_w];rw[c27b0])|skip)
                    replace H:=Option.bind_eq_some_iff.mp H;obtain⟨t316,A300,H⟩:=H;replace H:(spec_ValRead.j1 kj10 (t316.toList !=a0.toList) x316000_10 t313)=some (r1,r2,r3):=H;have A30:=Aside0.mk A300;clear A300;have H':=Aside0.mk H;clear H;have hnb31:=NB315_311.out;have hnc31:=NB311_315.out;have hcz32_0:wc.cell? ⟨gb315,0,none⟩=some (.int .i64 x316000_10):=(blk_cell BK315.out 0).trans rfl;have hcz32_1:wc.cell? ⟨gb315,1,none⟩=some (.int .i64 t313):=(blk_cell BK315.out 1).trans rfl;have hfz32_0:=blk_frozen BK315.out 0;have hfz32_1:=blk_frozen BK315.out 1;go_wp2_with (first|(go_at_call 17;(with_reducible refine(spec_ValText.calls kj10 x316000_10 t313 t316 _ A30.out).mono ?_);rintro e w33 ⟨rfl,hb⟩;have n0_:=Aside0.mk (blk_below (g:=gb311) (o:=.cells #[.int .i64 0,.int .i64 0] 25 (0,0)) (by(with_reducible repeat(first|refine blk_drewN ?_ _|refine blk_drew ?_|refine blk_alloc ?_ _));exact BK311.out) hb);have n1_:=Aside0.mk (blk_below (g:=gb315) (o:=.cells #[.int .i64 x316000_10,.int .i64 t313] 25 (0,0)) (by(with_reducible repeat(first|refine blk_drewN ?_ _|refine blk_drew ?_|refine blk_alloc ?_ _));exact BK315.out) hb);have n2_:=Aside0.mk (below_step (by repeat(first|(with_reducible first|exact HB.out|apply below_alloc|apply pw_below_drewN|apply below_drew1|refine below_set ?_ GE311.out|refine below_set ?_ GE315.out)|exact HB.out)) hb);clear BK311;clear BK315;clear HB;have BK311:=n0_;have BK315:=n1_;have HB:=n2_;clear n0_ n1_ n2_;(try clear hb);(try clear hb2);(try clear hk);(try clear hi)))
                    go_meet
                    case rel=>exact⟨_,((t316.toList !=a0.toList)),(by first|rfl|(simp;done)|(simp[*];done)),H',⟨by have:=HJ10.out;first|omega|exact Nat.le_refl _⟩,⟨by(with_reducible repeat(first|refine blk_drewN ?_ _|refine blk_drew ?_|refine blk_alloc ?_ _));exact BK311.out⟩,⟨by(with_reducible repeat(first|refine blk_drewN ?_ _|refine blk_drew ?_|refine blk_alloc ?_ _));exact BK315.out⟩,⟨by repeat(first|(with_reducible first|exact HB.out|apply below_alloc|apply pw_below_drewN|apply below_drew1|refine below_set ?_ GE311.out|refine below_set ?_ GE315.out)|exact HB.out)⟩⟩
                · replace c26:=Bool.eq_false_iff.mpr c26
                  subst c26;have H1:(spec_ValRead.j1 kj10 true x316000_10 t313)=some (r1,r2,r3):=by rw[if_neg (show¬(false=true) by decide)]at H;exact H
                  clear H;have H:=H1;clear H1;have H':=Aside0.mk H;clear H;go_wp2
                  go_meet
                  case rel=>exact⟨_,(true),(by first|rfl|(simp;done)|(simp[*];done)),H',⟨by have:=HJ10.out;first|omega|exact Nat.le_refl _⟩,⟨by(with_reducible repeat(first|refine blk_drewN ?_ _|refine blk_drew ?_|refine blk_alloc ?_ _));exact BK311.out⟩,⟨by(with_reducible repeat(first|refine blk_drewN ?_ _|refine blk_drew ?_|refine blk_alloc ?_ _));exact BK315.out⟩,⟨by repeat(first|(with_reducible first|exact HB.out|apply below_alloc|apply pw_below_drewN|apply below_drew1|refine below_set ?_ GE311.out|refine below_set ?_ GE315.out)|exact HB.out)⟩⟩
              case rest=>
                clear HC25;try clear c1
                try clear p1
                try clear q1
                try clear hx1
                try clear qi1
                try clear c2
                try clear c2b0
                try clear c2b1
                try clear p2
                try clear c3
                try clear c5
                try clear c6
                try clear c7
                try clear c7b0
                try clear c7b1
                try clear c9
                try clear c9b0
                try clear c9b1
                try clear p10
                try clear q10
                try clear hx10
                try clear qi10
                try clear c14
                try clear c16
                try clear c16b0
                try clear c16b1
                try clear c17
                try clear c19
                try clear c19b0
                try clear c19b1
                try clear c20
                try clear c22
                try clear c22b0
                try clear c22b1
                try clear c23
                try clear c26
                try clear c27
                try clear c27b0
                try clear c27b1
                try clear c28
                try clear c29
                try clear c31
                try clear hcz15_0
                try clear hcz15_1
                try clear hcz18_0
                try clear hcz18_1
                try clear hcz21_0
                try clear hcz21_1
                try clear hcz24_0
                try clear hcz24_1
                try clear hcz29_0
                try clear hcz29_1
                try clear hcz32_0
                try clear hcz32_1
                try clear hcz4_0
                try clear hcz4_1
                try clear hfz15_0
                try clear hfz15_1
                try clear hfz18_0
                try clear hfz18_1
                try clear hfz21_0
                try clear hfz21_1
                try clear hfz24_0
                try clear hfz24_1
                try clear hfz29_0
                try clear hfz29_1
                try clear hfz32_0
                try clear hfz32_1
                try clear hfz4_0
                try clear hfz4_1
                try clear p1
                try clear p10
                try clear p2
                try clear q1
                try clear q10
                obtain⟨kq,x46_24,rfl,HA,HJ24,BK311,BK315,HB⟩:=hcut;cases kq with
                |zero=>exact absurd HA.out (by simp[spec_ValRead.j1])
                |succ kj24=>
                  have H:=HA.out;clear HA;simp only[spec_ValRead.j1]at H
                  by_cases c34:x46_24=true
                  · subst c34
                    have H1:(some (0,0,false))=some (r1,r2,r3):=by rw[if_pos rfl]at H;exact H
                    clear H;have H:=H1;clear H1;simp only[Option.some.injEq,Prod.mk.injEq]at H
                    obtain⟨rfl,rfl,rfl⟩:=H;have hnb35:=NB311_315.out;have hnc35:=NB315_311.out;have hcz36_0:wc.cell? ⟨gb311,0,none⟩=some (.int .i64 0):=(blk_cell BK311.out 0).trans rfl;have hcz36_1:wc.cell? ⟨gb311,1,none⟩=some (.int .i64 0):=(blk_cell BK311.out 1).trans rfl;have hfz36_0:=blk_frozen BK311.out 0;have hfz36_1:=blk_frozen BK311.out 1;go_wp2
                    refine bodyPost_ret (results_ct rfl _ _ gb311 25 #[.int .i64 0,.int .i64 0] (0,0) _ rfl (by(with_reducible repeat(first|refine blk_drewN ?_ _|refine blk_drew ?_|refine blk_alloc ?_ _));refine blk_put (cs:= #[.int .i64 0,.int .i64 0]) ?_ 1 _ rfl;(with_reducible repeat(first|refine blk_drewN ?_ _|refine blk_drew ?_|refine blk_alloc ?_ _));refine blk_put (cs:= #[.int .i64 0,.int .i64 0]) ?_ 0 _ rfl;(with_reducible repeat(first|refine blk_drewN ?_ _|refine blk_drew ?_|refine blk_alloc ?_ _));exact BK311.out) Tryd.underlying25 rfl (by kernel_rfl)) rfl ?_
                    exact⟨by first|rfl|(simp[errW_none,errW_some]<;>rfl)|(simp[*,errW_none,errW_some]<;>rfl),by repeat(first|(with_reducible first|exact HB.out|apply below_alloc|apply pw_below_drewN|apply below_drew1|refine below_set ?_ GE311.out|refine below_set ?_ GE315.out)|exact HB.out)⟩
                  · replace c34:=Bool.eq_false_iff.mpr c34
                    subst c34;have H1:(some (x316000_10,t313,true))=some (r1,r2,r3):=by rw[if_neg (show¬(false=true) by decide)]at H;exact H
                    clear H;have H:=H1;clear H1;simp only[Option.some.injEq,Prod.mk.injEq]at H
                    obtain⟨rfl,rfl,rfl⟩:=H;have hnb37:=NB315_311.out;have hnc37:=NB311_315.out;have hcz38_0:wc.cell? ⟨gb315,0,none⟩=some (.int .i64 x316000_10):=(blk_cell BK315.out 0).trans rfl;have hcz38_1:wc.cell? ⟨gb315,1,none⟩=some (.int .i64 t313):=(blk_cell BK315.out 1).trans rfl;have hfz38_0:=blk_frozen BK315.out 0;have hfz38_1:=blk_frozen BK315.out 1;have hcz39_0:wc.cell? ⟨gb311,0,none⟩=some (.int .i64 0):=(blk_cell BK311.out 0).trans rfl;have hcz39_1:wc.cell? ⟨gb311,1,none⟩=some (.int .i64 0):=(blk_cell BK311.out 1).trans rfl;have hfz39_0:=blk_frozen BK311.out 0;have hfz39_1:=blk_frozen BK311.out 1;go_wp2
                    refine bodyPost_ret (results_ct rfl _ _ gb311 25 #[.int .i64 x316000_10,.int .i64 t313] (0,0) _ rfl (by(with_reducible repeat(first|refine blk_drewN ?_ _|refine blk_drew ?_|refine blk_alloc ?_ _));refine blk_put (cs:= #[.int .i64 x316000_10,.int .i64 0]) ?_ 1 _ rfl;(with_reducible repeat(first|refine blk_drewN ?_ _|refine blk_drew ?_|refine blk_alloc ?_ _));refine blk_put (cs:= #[.int .i64 0,.int .i64 0]) ?_ 0 _ rfl;(with_reducible repeat(first|refine blk_drewN ?_ _|refine blk_drew ?_|refine blk_alloc ?_ _));exact BK311.out) Tryd.underlying25 rfl (by kernel_rfl)) rfl ?_
                    exact⟨by first|rfl|(simp[errW_none,errW_some]<;>rfl)|(simp[*,errW_none,errW_some]<;>rfl),by repeat(first|(with_reducible first|exact HB.out|apply below_alloc|apply pw_below_drewN|apply below_drew1|refine below_set ?_ GE311.out|refine below_set ?_ GE315.out)|exact HB.out)⟩
        · rw[if_neg c9]at H
          exact absurd H (by simp)
      · rw[if_neg c7]at H
        exact absurd H (by simp)
    · replace c6:=Bool.eq_false_iff.mpr c6
      subst c6;have H1:(some (0,0,false))=some (r1,r2,r3):=by rw[if_neg (show¬(false=true) by decide)]at H;exact H
      clear H;have H:=H1;clear H1;simp only[Option.some.injEq,Prod.mk.injEq]at H
      obtain⟨rfl,rfl,rfl⟩:=H;go_enter Tryd.func29,Tryd.ntmps29
      go_wp2_with (first|((with_reducible refine gate_dst (N:=2) rfl ?_);refine box_event ?hg (N:=2) ?hd (cs:= #[.int .i64 0,.int .i64 0]) (t:=25) ?hr ?_;(case hd=>rfl);(case hg=>rfl);(case hr=>first|(go_simp;done)|(go_simp;rfl));intro gb311 hg w40 hbox hb;have n0_:=Aside0.mk (below_step (by repeat(first|(with_reducible first|exact HB.out|apply below_alloc|apply pw_below_drewN|apply below_drew1)|exact HB.out)) hb);have n1_:=Aside0.mk (hbox);have n2_:=Aside0.mk ((by rw[hg];exact(below_size (by repeat(first|(with_reducible first|exact HB.out|apply below_alloc|apply pw_below_drewN|apply below_drew1)|exact HB.out))):w.heap.size≤gb311));have n3_:=Aside0.mk ((by rw[hg];exact(below_size (by repeat(first|(with_reducible first|exact HB.out|apply below_alloc|apply pw_below_drewN|apply below_drew1)|exact HB.out))):w.heap.size≤gb311));clear HB;have HB:=n0_;have BK311:=n1_;have GW311:=n2_;have GE311:=n3_;clear n0_ n1_ n2_ n3_;clear hb hbox hg)|((with_reducible refine gate_callee (f:=56) rfl ?_);refine goesL_ (some 12) rfl rfl Tryd.func56 (by kernel_rfl) rfl #[.int .i64 (a0.size:Int),.int .i64 2,.int .i64 4] rfl (by(try simp only[List.map_toArray,List.map_cons,List.map_nil]);first|done|rfl|(simp only[List.length_drop,List.length_take];rfl)) ?_;(with_reducible refine(spec_l6In.calls (a0.size:Int) 2 4 false _ A5.out).mono ?_);rintro e w' ⟨rfl,⟨nd,rfl⟩⟩;refine⟨_,rfl,?_⟩;(try(rw[drewN_self w40];generalize hq_:World.drewN w40 _=w40;have n0_:Aside0 (w40.heap[gb311]?=some (.cells #[.int .i64 0,.int .i64 0] 25 (0,0))):=⟨by rw[←hq_];exact(by(with_reducible repeat(first|refine blk_drewN ?_ _|refine blk_drew ?_|refine blk_alloc ?_ _));exact BK311.out)⟩;have n1_:Aside0 (Below w.heap.size w w40):=⟨by rw[←hq_];exact(by repeat(first|(with_reducible first|exact HB.out|apply below_alloc|apply pw_below_drewN|apply below_drew1|refine below_set ?_ GE311.out)|exact HB.out))⟩;clear BK311 HB hq_;have BK311:=n0_;have HB:=n1_;clear n0_ n1_));have hcz41_0:w40.cell? ⟨gb311,0,none⟩=some (.int .i64 0):=(blk_cell BK311.out 0).trans rfl;have hcz41_1:w40.cell? ⟨gb311,1,none⟩=some (.int .i64 0):=(blk_cell BK311.out 1).trans rfl;have hfz41_0:=blk_frozen BK311.out 0;have hfz41_1:=blk_frozen BK311.out 1))
      refine bodyPost_ret (results_ct rfl _ _ gb311 25 #[.int .i64 0,.int .i64 0] (0,0) _ rfl (by(with_reducible repeat(first|refine blk_drewN ?_ _|refine blk_drew ?_|refine blk_alloc ?_ _));refine blk_put (cs:= #[.int .i64 0,.int .i64 0]) ?_ 1 _ rfl;(with_reducible repeat(first|refine blk_drewN ?_ _|refine blk_drew ?_|refine blk_alloc ?_ _));refine blk_put (cs:= #[.int .i64 0,.int .i64 0]) ?_ 0 _ rfl;(with_reducible repeat(first|refine blk_drewN ?_ _|refine blk_drew ?_|refine blk_alloc ?_ _));exact BK311.out) Tryd.underlying25 rfl (by kernel_rfl)) rfl ?_
      exact⟨by first|rfl|(simp[errW_none,errW_some]<;>rfl)|(simp[*,errW_none,errW_some]<;>rfl),by repeat(first|(with_reducible first|exact HB.out|apply below_alloc|apply pw_below_drewN|apply below_drew1|refine below_set ?_ GE311.out)|exact HB.out)⟩
end Go.Proofs.YtmklpbmlgjkbiaaDoor.PS
end
section
namespace Go.Proofs.YtmklpbmlgjkbiaaDoor.PS
open Go.RowKit Go.Proofs.YtmklpbmlgjkbiaaDoorW.PrintWords Go.Proofs.YtmklpbmlgjkbiaaDoorW.PrintLast
def namesL:List ByteArray:=[⟨#[]⟩,⟨#[115,101,116]⟩,⟨#[109,111,118,101]⟩,⟨#[97,100,100]⟩,⟨#[115,101,108,102]⟩,⟨#[98,101,103,105,110]⟩,⟨#[115,101,110,100]⟩,⟨#[116,97,107,101]⟩,⟨#[97,102,116,101,114]⟩,⟨#[103,111]⟩,⟨#[105,102]⟩,⟨#[108,105,110,107]⟩,⟨#[119,97,116,99,104]⟩,⟨#[116,114,97,112]⟩,⟨#[101,110,100]⟩]
def nameB (k:Int):ByteArray:=rdOf ByteArray.empty namesL k
theorem names_calls (k:Int) (hk:0≤k) (hk2:k<15) (W:World):Calls Tryd.prog 50 #[] W fun e w'=> ∃g c,e= .returned (.slice (some ⟨g,0,none⟩) 15 c)∧Below W.heap.size W w'∧w'.cell? ⟨g,k.toNat,none⟩=some (.string (nameB k)):=by
  refine(spec_l2Names.calls namesL W rfl).mono ?_
  rintro e w' ⟨v,rfl,hR,hb⟩
  obtain⟨g,cap,e,_⟩:=Kd.R_form hR (by decide)
  rw[e]at hR⊢
  exact⟨g,cap,rfl,hb,(Kd.R_celln ByteArray.empty hR k hk hk2).1⟩
def addN (b:Bool) (out:ByteArray) (n:Int):Option ByteArray:=if b=true then(spec_l6Dec.f 8 n).bind fun x=>if x.size≤100 then some ((out++⟨#[32]⟩)++x)else none else some out
def addV (b:Bool) (out:ByteArray) (vk vn:Int):Option ByteArray:=if b=true then(spec_ValText.f 8 vk vn).bind fun x=>if x.size≤100 then some ((out++⟨#[32]⟩)++x)else none else some out
def otextV.f (k r s t vk vn:Int):Option ByteArray:=
  if opB k r s t vk vn=true then(addN (hasR k) (nameB k) r).bind fun o1=>(addN (hasS k) o1 s).bind fun o2=>(addN (hasT k) o2 t).bind fun o3=>addV (hasV k) o3 vk vn else some ⟨#[]⟩
theorem addN_some {b:Bool} {out o1:ByteArray} {n:Int} (h:addN b out n=some o1):(b=false∧o1=out)∨(b=true∧ ∃x,spec_l6Dec.f 8 n=some x∧x.size≤100∧o1=(out++⟨#[32]⟩)++x):=by
  unfold addN at h;cases b with
  |false=>exact .inl ⟨rfl,by simpa using h.symm⟩
  |true=>
    right
    rw[if_pos rfl]at h
    obtain⟨x,hx,h⟩:=Option.bind_eq_some_iff.1 h;split at h
    · exact⟨rfl,x,hx,by assumption,(Option.some.inj h).symm⟩
    · cases h
theorem addV_some {b:Bool} {out o1:ByteArray} {k n:Int} (h:addV b out k n=some o1):(b=false∧o1=out)∨(b=true∧ ∃x,spec_ValText.f 8 k n=some x∧x.size≤100∧o1=(out++⟨#[32]⟩)++x):=by
  unfold addV at h;cases b with
  |false=>exact .inl ⟨rfl,by simpa using h.symm⟩
  |true=>
    right
    rw[if_pos rfl]at h
    obtain⟨x,hx,h⟩:=Option.bind_eq_some_iff.1 h;split at h
    · exact⟨rfl,x,hx,by assumption,(Option.some.inj h).symm⟩
    · cases h
theorem text_no (k r s t vk vn:Int) (w:World) (h:opB k r s t vk vn=false):
    Calls Tryd.prog 22 #[.agg #[.int .i64 k,.int .i64 r,.int .i64 s,.int .i64 t,.int .i64 vk,.int .i64 vn]] w fun e w'=>e= .returned (.string ⟨#[]⟩)∧Below w.heap.size w w':=by
  have hOk:=fun W:World=>spec_OpOk.calls k r s t vk vn false W (by unfold opV.f;rw[h])
  clear h;go_enter Tryd.func22,Tryd.ntmps22
  go_wp2_with (go_at_call 48;refine(hOk _).mono ?_;rintro e w' ⟨rfl,hb⟩)
  go_ret
  exact⟨rfl,below_step (below_alloc (Below.refl _ _) _) hb⟩
theorem text_walk (k r s t vk vn:Int) (w:World) (hop:opB k r s t vk vn=true) (nm xR xS xT xV:ByteArray) (hk:1≤k∧k≤14) (hnm:nm=nameB k) (hsz:nm.size≤100∧xR.size≤100∧xS.size≤100∧xT.size≤100∧xV.size≤100)
    (bR bS bT bV:Bool) (eR:bR=hasR k) (eS:bS=hasS k) (eT:bT=hasT k) (eV:bV=hasV k)
    (hR:bR=true→spec_l6Dec.f 8 r=some xR) (hS:bS=true→spec_l6Dec.f 8 s=some xS) (hT:bT=true→spec_l6Dec.f 8 t=some xT) (hV:bV=true→spec_ValText.f 8 vk vn=some xV)
    (o1 o2 o3 o4:ByteArray) (h1:o1=if bR=true then(nm++⟨#[32]⟩)++xR else nm) (h2:o2=if bS=true then(o1++⟨#[32]⟩)++xS else o1) (h3:o3=if bT=true then(o2++⟨#[32]⟩)++xT else o2) (h4:o4=if bV=true then(o3++⟨#[32]⟩)++xV else o3):
    Calls Tryd.prog 22 #[.agg #[.int .i64 k,.int .i64 r,.int .i64 s,.int .i64 t,.int .i64 vk,.int .i64 vn]] w fun e w'=>e= .returned (.string o4)∧Below w.heap.size w w':=by
  have hOk:=fun W:World=>spec_OpOk.calls k r s t vk vn true W (by unfold opV.f;rw[hop])
  have hFo:=fun W:World=>form_calls hk W
  rw[←eR,←eS,←eT,←eV]at hFo
  have hNa:=fun W:World=>names_calls k (by omega) (by omega) W
  rw[←hnm]at hNa
  obtain⟨hk1,hk2⟩:=hk;have hk0:0≤k:=by omega
  have hk15:k<15:=by omega
  have BK:Aside0 ((w.alloc (.cells #[.int .i64 k,.int .i64 r,.int .i64 s,.int .i64 t,.int .i64 vk,.int .i64 vn] 35)).heap[w.heap.size]?=some (.cells #[.int .i64 k,.int .i64 r,.int .i64 s,.int .i64 t,.int .i64 vk,.int .i64 vn] 35 (0,0))):=⟨blk_new _ _⟩;have HB:=Aside0.mk (below_alloc (Below.refl w.heap.size w) (.cells #[.int .i64 k,.int .i64 r,.int .i64 s,.int .i64 t,.int .i64 vk,.int .i64 vn] 35));have H:=Aside0.mk (show _∧_∧_∧_∧_∧_∧_∧_∧_ from⟨h1,h2,h3,h4,hR,hS,hT,hV,hsz⟩)
  clear hop hnm eR eS eT eV hR hS hT hV h1 h2 h3 h4 hsz;go_enter Tryd.func22,Tryd.ntmps22
  go_wp2_with (first|(go_at_call 48;refine(hOk _).mono ?_;rintro e w1 ⟨rfl,hb⟩;have BK1:=Aside0.mk (blk_below BK.out hb);have HB1:=Aside0.mk (below_step HB.out hb);clear hb;have q0:w1.cell? ⟨w.heap.size,0,none⟩=some (.int .i64 k):=(blk_cell BK1.out 0).trans rfl)|(go_at_call 49;refine(hFo _).mono ?_;rintro e w2 ⟨gf,cf,rfl,hb,gl,f0,f1,f2,f3⟩;have BK2:=Aside0.mk (blk_below BK1.out hb);have HB2:=Aside0.mk (below_step HB1.out hb);clear hb))
  have q2:w2.cell? ⟨w.heap.size,0,none⟩=some (.int .i64 k):=(blk_cell BK2.out 0).trans rfl;have hbl:Below w2.heap.size w2 w2.drew:=below_drew (Below.refl _ _);have q3:w2.drew.cell? ⟨w.heap.size,0,none⟩=some (.int .i64 k):=q2;go_region_with (first|(go_at_call 50;refine(hNa _).mono ?_;rintro e w3 ⟨gn,cn,rfl,hb,n0⟩;have q9:w3.cell? ⟨w.heap.size,0,none⟩=some (.int .i64 k):=(hb.cell (World.block_lt_of_cell? _ _ (by first|exact q2|exact q3))).trans (by first|exact q2|exact q3)))
  all_goals
    have hH2:Below w2.heap.size w2 w3:=below_step hbl hb;have BK3:=Aside0.mk (blk_below BK2.out hH2);have HB3:=Aside0.mk (below_step HB2.out hH2);have g0:=(hH2.cell (World.block_lt_of_cell? _ _ f0)).trans f0;have g1:=(hH2.cell (World.block_lt_of_cell? _ _ f1)).trans f1;have g2:=(hH2.cell (World.block_lt_of_cell? _ _ f2)).trans f2;have g3:=(hH2.cell (World.block_lt_of_cell? _ _ f3)).trans f3;clear f0 f1 f2 f3 q0 q2 q3 q9 hbl hOk hFo hNa n0 hH2 hb;obtain⟨h1,h2,h3,h4,hR,hS,hT,hV,z0,zR,zS,zT,zV⟩:=H.out;clear H;cases bR with
    |false=>
      have k0:o1=nm:=by simpa using h1
      clear h1 hR;subst k0;go_upto_region 7 with (fail)
      cases bS with
      |false=>
        have k1:o2=o1:=by simpa using h2
        clear h2 hS;subst k1;go_upto_region 9 with (fail)
        cases bT with
        |false=>
          have k2:o3=o2:=by simpa using h3
          clear h3 hT;subst k2;go_upto_region 11 with (fail)
          cases bV with
          |false=>
            have k3:o4=o3:=by simpa using h4
            clear h4 hV;subst k3;go_wp2
            go_ret
            exact⟨rfl,HB3.out⟩
          |true=>
            have k3:o4=(o3++⟨#[32]⟩)++xV:=by simpa using h4
            have K3:=Aside0.mk k3;have dc:=fun W:World=>spec_ValText.calls 8 vk vn xV W (hV rfl)
            have zs:(o3++(⟨#[32]⟩:ByteArray)).size=o3.size+1:=by rw[ByteArray.size_append];rfl
            have zo:o4.size≤201:=by rw[k3,ByteArray.size_append,zs];omega
            have da1:decide (o3.size+1≤9223372036854775807)=true:=decide_eq_true (by omega)
            have da2:(9223372036854775807<o3.size+1)=False:=eq_false (by omega)
            have da3:(o3.size+1≤9223372036854775807)=True:=eq_true (by omega)
            have db1:decide ((o3++(⟨#[32]⟩:ByteArray)).size+xV.size≤9223372036854775807)=true:=decide_eq_true (by rw[zs];omega)
            have db2:(9223372036854775807<(o3++(⟨#[32]⟩:ByteArray)).size+xV.size)=False:=eq_false (by rw[zs];omega)
            have db3:((o3++(⟨#[32]⟩:ByteArray)).size+xV.size≤9223372036854775807)=True:=eq_true (by rw[zs];omega)
            have dc1:decide (o3.size+1+xV.size≤9223372036854775807)=true:=decide_eq_true (by omega)
            have dc2:(9223372036854775807<o3.size+1+xV.size)=False:=eq_false (by omega)
            have dc3:(o3.size+1+xV.size≤9223372036854775807)=True:=eq_true (by omega)
            have c0:w3.cell? ⟨w.heap.size,4,none⟩=some (.int .i64 vk):=(blk_cell BK3.out 4).trans rfl;have c1:w3.cell? ⟨w.heap.size,5,none⟩=some (.int .i64 vn):=(blk_cell BK3.out 5).trans rfl;clear h4 hV k3 zs;go_wp2_with (go_at_call 17;refine(dc _).mono ?_;rintro e w4 ⟨rfl,hb⟩;have BK4:=Aside0.mk (blk_below BK3.out hb);have HB4:=Aside0.mk (below_step HB3.out hb);clear hb BK3 HB3)
            go_ret
            exact⟨by rw[K3.out];rfl,HB4.out⟩
        |true=>
          have k2:o3=(o2++⟨#[32]⟩)++xT:=by simpa using h3
          have K2:=Aside0.mk k2;have dc:=fun W:World=>spec_l6Dec.calls 8 t xT W (hT rfl)
          have zs:(o2++(⟨#[32]⟩:ByteArray)).size=o2.size+1:=by rw[ByteArray.size_append];rfl
          have zo:o3.size≤201:=by rw[k2,ByteArray.size_append,zs];omega
          have da1:decide (o2.size+1≤9223372036854775807)=true:=decide_eq_true (by omega)
          have da2:(9223372036854775807<o2.size+1)=False:=eq_false (by omega)
          have da3:(o2.size+1≤9223372036854775807)=True:=eq_true (by omega)
          have db1:decide ((o2++(⟨#[32]⟩:ByteArray)).size+xT.size≤9223372036854775807)=true:=decide_eq_true (by rw[zs];omega)
          have db2:(9223372036854775807<(o2++(⟨#[32]⟩:ByteArray)).size+xT.size)=False:=eq_false (by rw[zs];omega)
          have db3:((o2++(⟨#[32]⟩:ByteArray)).size+xT.size≤9223372036854775807)=True:=eq_true (by rw[zs];omega)
          have dc1:decide (o2.size+1+xT.size≤9223372036854775807)=true:=decide_eq_true (by omega)
          have dc2:(9223372036854775807<o2.size+1+xT.size)=False:=eq_false (by omega)
          have dc3:(o2.size+1+xT.size≤9223372036854775807)=True:=eq_true (by omega)
          have c0:w3.cell? ⟨w.heap.size,3,none⟩=some (.int .i64 t):=(blk_cell BK3.out 3).trans rfl;clear h3 hT k2 zs;go_upto_region 11 with (go_at_call 43;refine(dc _).mono ?_;rintro e w4 ⟨rfl,hb⟩;have BK4:=Aside0.mk (blk_below BK3.out hb);have HB4:=Aside0.mk (below_step HB3.out hb);have g3_:=(hb.cell (World.block_lt_of_cell? _ _ g3)).trans g3;clear g3;have g3:=g3_;clear g3_;clear hb BK3 HB3)
          rw[←K2.out];clear dc da1 da2 da3 db1 db2 db3 dc1 dc2 dc3 c0;cases bV with
          |false=>
            have k3:o4=o3:=by simpa using h4
            clear h4 hV;subst k3;go_wp2
            go_ret
            exact⟨rfl,HB4.out⟩
          |true=>
            have k3:o4=(o3++⟨#[32]⟩)++xV:=by simpa using h4
            have K3:=Aside0.mk k3;have dc:=fun W:World=>spec_ValText.calls 8 vk vn xV W (hV rfl)
            have zs:(o3++(⟨#[32]⟩:ByteArray)).size=o3.size+1:=by rw[ByteArray.size_append];rfl
            have zo:o4.size≤302:=by rw[k3,ByteArray.size_append,zs];omega
            have da1:decide (o3.size+1≤9223372036854775807)=true:=decide_eq_true (by omega)
            have da2:(9223372036854775807<o3.size+1)=False:=eq_false (by omega)
            have da3:(o3.size+1≤9223372036854775807)=True:=eq_true (by omega)
            have db1:decide ((o3++(⟨#[32]⟩:ByteArray)).size+xV.size≤9223372036854775807)=true:=decide_eq_true (by rw[zs];omega)
            have db2:(9223372036854775807<(o3++(⟨#[32]⟩:ByteArray)).size+xV.size)=False:=eq_false (by rw[zs];omega)
            have db3:((o3++(⟨#[32]⟩:ByteArray)).size+xV.size≤9223372036854775807)=True:=eq_true (by rw[zs];omega)
            have dc1:decide (o3.size+1+xV.size≤9223372036854775807)=true:=decide_eq_true (by omega)
            have dc2:(9223372036854775807<o3.size+1+xV.size)=False:=eq_false (by omega)
            have dc3:(o3.size+1+xV.size≤9223372036854775807)=True:=eq_true (by omega)
            have c0:w4.cell? ⟨w.heap.size,4,none⟩=some (.int .i64 vk):=(blk_cell BK4.out 4).trans rfl;have c1:w4.cell? ⟨w.heap.size,5,none⟩=some (.int .i64 vn):=(blk_cell BK4.out 5).trans rfl;clear h4 hV k3 zs;go_wp2_with (go_at_call 17;refine(dc _).mono ?_;rintro e w5 ⟨rfl,hb⟩;have BK5:=Aside0.mk (blk_below BK4.out hb);have HB5:=Aside0.mk (below_step HB4.out hb);clear hb BK4 HB4)
            go_ret
            exact⟨by rw[K3.out];rfl,HB5.out⟩
      |true=>
        have k1:o2=(o1++⟨#[32]⟩)++xS:=by simpa using h2
        have K1:=Aside0.mk k1;have dc:=fun W:World=>spec_l6Dec.calls 8 s xS W (hS rfl)
        have zs:(o1++(⟨#[32]⟩:ByteArray)).size=o1.size+1:=by rw[ByteArray.size_append];rfl
        have zo:o2.size≤201:=by rw[k1,ByteArray.size_append,zs];omega
        have da1:decide (o1.size+1≤9223372036854775807)=true:=decide_eq_true (by omega)
        have da2:(9223372036854775807<o1.size+1)=False:=eq_false (by omega)
        have da3:(o1.size+1≤9223372036854775807)=True:=eq_true (by omega)
        have db1:decide ((o1++(⟨#[32]⟩:ByteArray)).size+xS.size≤9223372036854775807)=true:=decide_eq_true (by rw[zs];omega)
        have db2:(9223372036854775807<(o1++(⟨#[32]⟩:ByteArray)).size+xS.size)=False:=eq_false (by rw[zs];omega)
        have db3:((o1++(⟨#[32]⟩:ByteArray)).size+xS.size≤9223372036854775807)=True:=eq_true (by rw[zs];omega)
        have dc1:decide (o1.size+1+xS.size≤9223372036854775807)=true:=decide_eq_true (by omega)
        have dc2:(9223372036854775807<o1.size+1+xS.size)=False:=eq_false (by omega)
        have dc3:(o1.size+1+xS.size≤9223372036854775807)=True:=eq_true (by omega)
        have c0:w3.cell? ⟨w.heap.size,2,none⟩=some (.int .i64 s):=(blk_cell BK3.out 2).trans rfl;clear h2 hS k1 zs;go_upto_region 9 with (go_at_call 43;refine(dc _).mono ?_;rintro e w4 ⟨rfl,hb⟩;have BK4:=Aside0.mk (blk_below BK3.out hb);have HB4:=Aside0.mk (below_step HB3.out hb);have g2_:=(hb.cell (World.block_lt_of_cell? _ _ g2)).trans g2;clear g2;have g2:=g2_;clear g2_;have g3_:=(hb.cell (World.block_lt_of_cell? _ _ g3)).trans g3;clear g3;have g3:=g3_;clear g3_;clear hb BK3 HB3)
        rw[←K1.out];clear dc da1 da2 da3 db1 db2 db3 dc1 dc2 dc3 c0;cases bT with
        |false=>
          have k2:o3=o2:=by simpa using h3
          clear h3 hT;subst k2;go_upto_region 11 with (fail)
          cases bV with
          |false=>
            have k3:o4=o3:=by simpa using h4
            clear h4 hV;subst k3;go_wp2
            go_ret
            exact⟨rfl,HB4.out⟩
          |true=>
            have k3:o4=(o3++⟨#[32]⟩)++xV:=by simpa using h4
            have K3:=Aside0.mk k3;have dc:=fun W:World=>spec_ValText.calls 8 vk vn xV W (hV rfl)
            have zs:(o3++(⟨#[32]⟩:ByteArray)).size=o3.size+1:=by rw[ByteArray.size_append];rfl
            have zo:o4.size≤302:=by rw[k3,ByteArray.size_append,zs];omega
            have da1:decide (o3.size+1≤9223372036854775807)=true:=decide_eq_true (by omega)
            have da2:(9223372036854775807<o3.size+1)=False:=eq_false (by omega)
            have da3:(o3.size+1≤9223372036854775807)=True:=eq_true (by omega)
            have db1:decide ((o3++(⟨#[32]⟩:ByteArray)).size+xV.size≤9223372036854775807)=true:=decide_eq_true (by rw[zs];omega)
            have db2:(9223372036854775807<(o3++(⟨#[32]⟩:ByteArray)).size+xV.size)=False:=eq_false (by rw[zs];omega)
            have db3:((o3++(⟨#[32]⟩:ByteArray)).size+xV.size≤9223372036854775807)=True:=eq_true (by rw[zs];omega)
            have dc1:decide (o3.size+1+xV.size≤9223372036854775807)=true:=decide_eq_true (by omega)
            have dc2:(9223372036854775807<o3.size+1+xV.size)=False:=eq_false (by omega)
            have dc3:(o3.size+1+xV.size≤9223372036854775807)=True:=eq_true (by omega)
            have c0:w4.cell? ⟨w.heap.size,4,none⟩=some (.int .i64 vk):=(blk_cell BK4.out 4).trans rfl;have c1:w4.cell? ⟨w.heap.size,5,none⟩=some (.int .i64 vn):=(blk_cell BK4.out 5).trans rfl;clear h4 hV k3 zs;go_wp2_with (go_at_call 17;refine(dc _).mono ?_;rintro e w5 ⟨rfl,hb⟩;have BK5:=Aside0.mk (blk_below BK4.out hb);have HB5:=Aside0.mk (below_step HB4.out hb);clear hb BK4 HB4)
            go_ret
            exact⟨by rw[K3.out];rfl,HB5.out⟩
        |true=>
          have k2:o3=(o2++⟨#[32]⟩)++xT:=by simpa using h3
          have K2:=Aside0.mk k2;have dc:=fun W:World=>spec_l6Dec.calls 8 t xT W (hT rfl)
          have zs:(o2++(⟨#[32]⟩:ByteArray)).size=o2.size+1:=by rw[ByteArray.size_append];rfl
          have zo:o3.size≤302:=by rw[k2,ByteArray.size_append,zs];omega
          have da1:decide (o2.size+1≤9223372036854775807)=true:=decide_eq_true (by omega)
          have da2:(9223372036854775807<o2.size+1)=False:=eq_false (by omega)
          have da3:(o2.size+1≤9223372036854775807)=True:=eq_true (by omega)
          have db1:decide ((o2++(⟨#[32]⟩:ByteArray)).size+xT.size≤9223372036854775807)=true:=decide_eq_true (by rw[zs];omega)
          have db2:(9223372036854775807<(o2++(⟨#[32]⟩:ByteArray)).size+xT.size)=False:=eq_false (by rw[zs];omega)
          have db3:((o2++(⟨#[32]⟩:ByteArray)).size+xT.size≤9223372036854775807)=True:=eq_true (by rw[zs];omega)
          have dc1:decide (o2.size+1+xT.size≤9223372036854775807)=true:=decide_eq_true (by omega)
          have dc2:(9223372036854775807<o2.size+1+xT.size)=False:=eq_false (by omega)
          have dc3:(o2.size+1+xT.size≤9223372036854775807)=True:=eq_true (by omega)
          have c0:w4.cell? ⟨w.heap.size,3,none⟩=some (.int .i64 t):=(blk_cell BK4.out 3).trans rfl;clear h3 hT k2 zs;go_upto_region 11 with (go_at_call 43;refine(dc _).mono ?_;rintro e w5 ⟨rfl,hb⟩;have BK5:=Aside0.mk (blk_below BK4.out hb);have HB5:=Aside0.mk (below_step HB4.out hb);have g3_:=(hb.cell (World.block_lt_of_cell? _ _ g3)).trans g3;clear g3;have g3:=g3_;clear g3_;clear hb BK4 HB4)
          rw[←K2.out];clear dc da1 da2 da3 db1 db2 db3 dc1 dc2 dc3 c0;cases bV with
          |false=>
            have k3:o4=o3:=by simpa using h4
            clear h4 hV;subst k3;go_wp2
            go_ret
            exact⟨rfl,HB5.out⟩
          |true=>
            have k3:o4=(o3++⟨#[32]⟩)++xV:=by simpa using h4
            have K3:=Aside0.mk k3;have dc:=fun W:World=>spec_ValText.calls 8 vk vn xV W (hV rfl)
            have zs:(o3++(⟨#[32]⟩:ByteArray)).size=o3.size+1:=by rw[ByteArray.size_append];rfl
            have zo:o4.size≤403:=by rw[k3,ByteArray.size_append,zs];omega
            have da1:decide (o3.size+1≤9223372036854775807)=true:=decide_eq_true (by omega)
            have da2:(9223372036854775807<o3.size+1)=False:=eq_false (by omega)
            have da3:(o3.size+1≤9223372036854775807)=True:=eq_true (by omega)
            have db1:decide ((o3++(⟨#[32]⟩:ByteArray)).size+xV.size≤9223372036854775807)=true:=decide_eq_true (by rw[zs];omega)
            have db2:(9223372036854775807<(o3++(⟨#[32]⟩:ByteArray)).size+xV.size)=False:=eq_false (by rw[zs];omega)
            have db3:((o3++(⟨#[32]⟩:ByteArray)).size+xV.size≤9223372036854775807)=True:=eq_true (by rw[zs];omega)
            have dc1:decide (o3.size+1+xV.size≤9223372036854775807)=true:=decide_eq_true (by omega)
            have dc2:(9223372036854775807<o3.size+1+xV.size)=False:=eq_false (by omega)
            have dc3:(o3.size+1+xV.size≤9223372036854775807)=True:=eq_true (by omega)
            have c0:w5.cell? ⟨w.heap.size,4,none⟩=some (.int .i64 vk):=(blk_cell BK5.out 4).trans rfl;have c1:w5.cell? ⟨w.heap.size,5,none⟩=some (.int .i64 vn):=(blk_cell BK5.out 5).trans rfl;clear h4 hV k3 zs;go_wp2_with (go_at_call 17;refine(dc _).mono ?_;rintro e w6 ⟨rfl,hb⟩;have BK6:=Aside0.mk (blk_below BK5.out hb);have HB6:=Aside0.mk (below_step HB5.out hb);clear hb BK5 HB5)
            go_ret
            exact⟨by rw[K3.out];rfl,HB6.out⟩
    |true=>
      have k0:o1=(nm++⟨#[32]⟩)++xR:=by simpa using h1
      have K0:=Aside0.mk k0;have dc:=fun W:World=>spec_l6Dec.calls 8 r xR W (hR rfl)
      have zs:(nm++(⟨#[32]⟩:ByteArray)).size=nm.size+1:=by rw[ByteArray.size_append];rfl
      have zo:o1.size≤201:=by rw[k0,ByteArray.size_append,zs];omega
      have da1:decide (nm.size+1≤9223372036854775807)=true:=decide_eq_true (by omega)
      have da2:(9223372036854775807<nm.size+1)=False:=eq_false (by omega)
      have da3:(nm.size+1≤9223372036854775807)=True:=eq_true (by omega)
      have db1:decide ((nm++(⟨#[32]⟩:ByteArray)).size+xR.size≤9223372036854775807)=true:=decide_eq_true (by rw[zs];omega)
      have db2:(9223372036854775807<(nm++(⟨#[32]⟩:ByteArray)).size+xR.size)=False:=eq_false (by rw[zs];omega)
      have db3:((nm++(⟨#[32]⟩:ByteArray)).size+xR.size≤9223372036854775807)=True:=eq_true (by rw[zs];omega)
      have dc1:decide (nm.size+1+xR.size≤9223372036854775807)=true:=decide_eq_true (by omega)
      have dc2:(9223372036854775807<nm.size+1+xR.size)=False:=eq_false (by omega)
      have dc3:(nm.size+1+xR.size≤9223372036854775807)=True:=eq_true (by omega)
      have c0:w3.cell? ⟨w.heap.size,1,none⟩=some (.int .i64 r):=(blk_cell BK3.out 1).trans rfl;clear h1 hR k0 zs;go_upto_region 7 with (go_at_call 43;refine(dc _).mono ?_;rintro e w4 ⟨rfl,hb⟩;have BK4:=Aside0.mk (blk_below BK3.out hb);have HB4:=Aside0.mk (below_step HB3.out hb);have g1_:=(hb.cell (World.block_lt_of_cell? _ _ g1)).trans g1;clear g1;have g1:=g1_;clear g1_;have g2_:=(hb.cell (World.block_lt_of_cell? _ _ g2)).trans g2;clear g2;have g2:=g2_;clear g2_;have g3_:=(hb.cell (World.block_lt_of_cell? _ _ g3)).trans g3;clear g3;have g3:=g3_;clear g3_;clear hb BK3 HB3)
      rw[←K0.out];clear dc da1 da2 da3 db1 db2 db3 dc1 dc2 dc3 c0;cases bS with
      |false=>
        have k1:o2=o1:=by simpa using h2
        clear h2 hS;subst k1;go_upto_region 9 with (fail)
        cases bT with
        |false=>
          have k2:o3=o2:=by simpa using h3
          clear h3 hT;subst k2;go_upto_region 11 with (fail)
          cases bV with
          |false=>
            have k3:o4=o3:=by simpa using h4
            clear h4 hV;subst k3;go_wp2
            go_ret
            exact⟨rfl,HB4.out⟩
          |true=>
            have k3:o4=(o3++⟨#[32]⟩)++xV:=by simpa using h4
            have K3:=Aside0.mk k3;have dc:=fun W:World=>spec_ValText.calls 8 vk vn xV W (hV rfl)
            have zs:(o3++(⟨#[32]⟩:ByteArray)).size=o3.size+1:=by rw[ByteArray.size_append];rfl
            have zo:o4.size≤302:=by rw[k3,ByteArray.size_append,zs];omega
            have da1:decide (o3.size+1≤9223372036854775807)=true:=decide_eq_true (by omega)
            have da2:(9223372036854775807<o3.size+1)=False:=eq_false (by omega)
            have da3:(o3.size+1≤9223372036854775807)=True:=eq_true (by omega)
            have db1:decide ((o3++(⟨#[32]⟩:ByteArray)).size+xV.size≤9223372036854775807)=true:=decide_eq_true (by rw[zs];omega)
            have db2:(9223372036854775807<(o3++(⟨#[32]⟩:ByteArray)).size+xV.size)=False:=eq_false (by rw[zs];omega)
            have db3:((o3++(⟨#[32]⟩:ByteArray)).size+xV.size≤9223372036854775807)=True:=eq_true (by rw[zs];omega)
            have dc1:decide (o3.size+1+xV.size≤9223372036854775807)=true:=decide_eq_true (by omega)
            have dc2:(9223372036854775807<o3.size+1+xV.size)=False:=eq_false (by omega)
            have dc3:(o3.size+1+xV.size≤9223372036854775807)=True:=eq_true (by omega)
            have c0:w4.cell? ⟨w.heap.size,4,none⟩=some (.int .i64 vk):=(blk_cell BK4.out 4).trans rfl;have c1:w4.cell? ⟨w.heap.size,5,none⟩=some (.int .i64 vn):=(blk_cell BK4.out 5).trans rfl;clear h4 hV k3 zs;go_wp2_with (go_at_call 17;refine(dc _).mono ?_;rintro e w5 ⟨rfl,hb⟩;have BK5:=Aside0.mk (blk_below BK4.out hb);have HB5:=Aside0.mk (below_step HB4.out hb);clear hb BK4 HB4)
            go_ret
            exact⟨by rw[K3.out];rfl,HB5.out⟩
        |true=>
          have k2:o3=(o2++⟨#[32]⟩)++xT:=by simpa using h3
          have K2:=Aside0.mk k2;have dc:=fun W:World=>spec_l6Dec.calls 8 t xT W (hT rfl)
          have zs:(o2++(⟨#[32]⟩:ByteArray)).size=o2.size+1:=by rw[ByteArray.size_append];rfl
          have zo:o3.size≤302:=by rw[k2,ByteArray.size_append,zs];omega
          have da1:decide (o2.size+1≤9223372036854775807)=true:=decide_eq_true (by omega)
          have da2:(9223372036854775807<o2.size+1)=False:=eq_false (by omega)
          have da3:(o2.size+1≤9223372036854775807)=True:=eq_true (by omega)
          have db1:decide ((o2++(⟨#[32]⟩:ByteArray)).size+xT.size≤9223372036854775807)=true:=decide_eq_true (by rw[zs];omega)
          have db2:(9223372036854775807<(o2++(⟨#[32]⟩:ByteArray)).size+xT.size)=False:=eq_false (by rw[zs];omega)
          have db3:((o2++(⟨#[32]⟩:ByteArray)).size+xT.size≤9223372036854775807)=True:=eq_true (by rw[zs];omega)
          have dc1:decide (o2.size+1+xT.size≤9223372036854775807)=true:=decide_eq_true (by omega)
          have dc2:(9223372036854775807<o2.size+1+xT.size)=False:=eq_false (by omega)
          have dc3:(o2.size+1+xT.size≤9223372036854775807)=True:=eq_true (by omega)
          have c0:w4.cell? ⟨w.heap.size,3,none⟩=some (.int .i64 t):=(blk_cell BK4.out 3).trans rfl;clear h3 hT k2 zs;go_upto_region 11 with (go_at_call 43;refine(dc _).mono ?_;rintro e w5 ⟨rfl,hb⟩;have BK5:=Aside0.mk (blk_below BK4.out hb);have HB5:=Aside0.mk (below_step HB4.out hb);have g3_:=(hb.cell (World.block_lt_of_cell? _ _ g3)).trans g3;clear g3;have g3:=g3_;clear g3_;clear hb BK4 HB4)
          rw[←K2.out];clear dc da1 da2 da3 db1 db2 db3 dc1 dc2 dc3 c0;cases bV with
          |false=>
            have k3:o4=o3:=by simpa using h4
            clear h4 hV;subst k3;go_wp2
            go_ret
            exact⟨rfl,HB5.out⟩
          |true=>
            have k3:o4=(o3++⟨#[32]⟩)++xV:=by simpa using h4
            have K3:=Aside0.mk k3;have dc:=fun W:World=>spec_ValText.calls 8 vk vn xV W (hV rfl)
            have zs:(o3++(⟨#[32]⟩:ByteArray)).size=o3.size+1:=by rw[ByteArray.size_append];rfl
            have zo:o4.size≤403:=by rw[k3,ByteArray.size_append,zs];omega
            have da1:decide (o3.size+1≤9223372036854775807)=true:=decide_eq_true (by omega)
            have da2:(9223372036854775807<o3.size+1)=False:=eq_false (by omega)
            have da3:(o3.size+1≤9223372036854775807)=True:=eq_true (by omega)
            have db1:decide ((o3++(⟨#[32]⟩:ByteArray)).size+xV.size≤9223372036854775807)=true:=decide_eq_true (by rw[zs];omega)
            have db2:(9223372036854775807<(o3++(⟨#[32]⟩:ByteArray)).size+xV.size)=False:=eq_false (by rw[zs];omega)
            have db3:((o3++(⟨#[32]⟩:ByteArray)).size+xV.size≤9223372036854775807)=True:=eq_true (by rw[zs];omega)
            have dc1:decide (o3.size+1+xV.size≤9223372036854775807)=true:=decide_eq_true (by omega)
            have dc2:(9223372036854775807<o3.size+1+xV.size)=False:=eq_false (by omega)
            have dc3:(o3.size+1+xV.size≤9223372036854775807)=True:=eq_true (by omega)
            have c0:w5.cell? ⟨w.heap.size,4,none⟩=some (.int .i64 vk):=(blk_cell BK5.out 4).trans rfl;have c1:w5.cell? ⟨w.heap.size,5,none⟩=some (.int .i64 vn):=(blk_cell BK5.out 5).trans rfl;clear h4 hV k3 zs;go_wp2_with (go_at_call 17;refine(dc _).mono ?_;rintro e w6 ⟨rfl,hb⟩;have BK6:=Aside0.mk (blk_below BK5.out hb);have HB6:=Aside0.mk (below_step HB5.out hb);clear hb BK5 HB5)
            go_ret
            exact⟨by rw[K3.out];rfl,HB6.out⟩
      |true=>
        have k1:o2=(o1++⟨#[32]⟩)++xS:=by simpa using h2
        have K1:=Aside0.mk k1;have dc:=fun W:World=>spec_l6Dec.calls 8 s xS W (hS rfl)
        have zs:(o1++(⟨#[32]⟩:ByteArray)).size=o1.size+1:=by rw[ByteArray.size_append];rfl
        have zo:o2.size≤302:=by rw[k1,ByteArray.size_append,zs];omega
        have da1:decide (o1.size+1≤9223372036854775807)=true:=decide_eq_true (by omega)
        have da2:(9223372036854775807<o1.size+1)=False:=eq_false (by omega)
        have da3:(o1.size+1≤9223372036854775807)=True:=eq_true (by omega)
        have db1:decide ((o1++(⟨#[32]⟩:ByteArray)).size+xS.size≤9223372036854775807)=true:=decide_eq_true (by rw[zs];omega)
        have db2:(9223372036854775807<(o1++(⟨#[32]⟩:ByteArray)).size+xS.size)=False:=eq_false (by rw[zs];omega)
        have db3:((o1++(⟨#[32]⟩:ByteArray)).size+xS.size≤9223372036854775807)=True:=eq_true (by rw[zs];omega)
        have dc1:decide (o1.size+1+xS.size≤9223372036854775807)=true:=decide_eq_true (by omega)
        have dc2:(9223372036854775807<o1.size+1+xS.size)=False:=eq_false (by omega)
        have dc3:(o1.size+1+xS.size≤9223372036854775807)=True:=eq_true (by omega)
        have c0:w4.cell? ⟨w.heap.size,2,none⟩=some (.int .i64 s):=(blk_cell BK4.out 2).trans rfl;clear h2 hS k1 zs;go_upto_region 9 with (go_at_call 43;refine(dc _).mono ?_;rintro e w5 ⟨rfl,hb⟩;have BK5:=Aside0.mk (blk_below BK4.out hb);have HB5:=Aside0.mk (below_step HB4.out hb);have g2_:=(hb.cell (World.block_lt_of_cell? _ _ g2)).trans g2;clear g2;have g2:=g2_;clear g2_;have g3_:=(hb.cell (World.block_lt_of_cell? _ _ g3)).trans g3;clear g3;have g3:=g3_;clear g3_;clear hb BK4 HB4)
        rw[←K1.out];clear dc da1 da2 da3 db1 db2 db3 dc1 dc2 dc3 c0;cases bT with
        |false=>
          have k2:o3=o2:=by simpa using h3
          clear h3 hT;subst k2;go_upto_region 11 with (fail)
          cases bV with
          |false=>
            have k3:o4=o3:=by simpa using h4
            clear h4 hV;subst k3;go_wp2
            go_ret
            exact⟨rfl,HB5.out⟩
          |true=>
            have k3:o4=(o3++⟨#[32]⟩)++xV:=by simpa using h4
            have K3:=Aside0.mk k3;have dc:=fun W:World=>spec_ValText.calls 8 vk vn xV W (hV rfl)
            have zs:(o3++(⟨#[32]⟩:ByteArray)).size=o3.size+1:=by rw[ByteArray.size_append];rfl
            have zo:o4.size≤403:=by rw[k3,ByteArray.size_append,zs];omega
            have da1:decide (o3.size+1≤9223372036854775807)=true:=decide_eq_true (by omega)
            have da2:(9223372036854775807<o3.size+1)=False:=eq_false (by omega)
            have da3:(o3.size+1≤9223372036854775807)=True:=eq_true (by omega)
            have db1:decide ((o3++(⟨#[32]⟩:ByteArray)).size+xV.size≤9223372036854775807)=true:=decide_eq_true (by rw[zs];omega)
            have db2:(9223372036854775807<(o3++(⟨#[32]⟩:ByteArray)).size+xV.size)=False:=eq_false (by rw[zs];omega)
            have db3:((o3++(⟨#[32]⟩:ByteArray)).size+xV.size≤9223372036854775807)=True:=eq_true (by rw[zs];omega)
            have dc1:decide (o3.size+1+xV.size≤9223372036854775807)=true:=decide_eq_true (by omega)
            have dc2:(9223372036854775807<o3.size+1+xV.size)=False:=eq_false (by omega)
            have dc3:(o3.size+1+xV.size≤9223372036854775807)=True:=eq_true (by omega)
            have c0:w5.cell? ⟨w.heap.size,4,none⟩=some (.int .i64 vk):=(blk_cell BK5.out 4).trans rfl;have c1:w5.cell? ⟨w.heap.size,5,none⟩=some (.int .i64 vn):=(blk_cell BK5.out 5).trans rfl;clear h4 hV k3 zs;go_wp2_with (go_at_call 17;refine(dc _).mono ?_;rintro e w6 ⟨rfl,hb⟩;have BK6:=Aside0.mk (blk_below BK5.out hb);have HB6:=Aside0.mk (below_step HB5.out hb);clear hb BK5 HB5)
            go_ret
            exact⟨by rw[K3.out];rfl,HB6.out⟩
        |true=>
          have k2:o3=(o2++⟨#[32]⟩)++xT:=by simpa using h3
          have K2:=Aside0.mk k2;have dc:=fun W:World=>spec_l6Dec.calls 8 t xT W (hT rfl)
          have zs:(o2++(⟨#[32]⟩:ByteArray)).size=o2.size+1:=by rw[ByteArray.size_append];rfl
          have zo:o3.size≤403:=by rw[k2,ByteArray.size_append,zs];omega
          have da1:decide (o2.size+1≤9223372036854775807)=true:=decide_eq_true (by omega)
          have da2:(9223372036854775807<o2.size+1)=False:=eq_false (by omega)
          have da3:(o2.size+1≤9223372036854775807)=True:=eq_true (by omega)
          have db1:decide ((o2++(⟨#[32]⟩:ByteArray)).size+xT.size≤9223372036854775807)=true:=decide_eq_true (by rw[zs];omega)
          have db2:(9223372036854775807<(o2++(⟨#[32]⟩:ByteArray)).size+xT.size)=False:=eq_false (by rw[zs];omega)
          have db3:((o2++(⟨#[32]⟩:ByteArray)).size+xT.size≤9223372036854775807)=True:=eq_true (by rw[zs];omega)
          have dc1:decide (o2.size+1+xT.size≤9223372036854775807)=true:=decide_eq_true (by omega)
          have dc2:(9223372036854775807<o2.size+1+xT.size)=False:=eq_false (by omega)
          have dc3:(o2.size+1+xT.size≤9223372036854775807)=True:=eq_true (by omega)
          have c0:w5.cell? ⟨w.heap.size,3,none⟩=some (.int .i64 t):=(blk_cell BK5.out 3).trans rfl;clear h3 hT k2 zs;go_upto_region 11 with (go_at_call 43;refine(dc _).mono ?_;rintro e w6 ⟨rfl,hb⟩;have BK6:=Aside0.mk (blk_below BK5.out hb);have HB6:=Aside0.mk (below_step HB5.out hb);have g3_:=(hb.cell (World.block_lt_of_cell? _ _ g3)).trans g3;clear g3;have g3:=g3_;clear g3_;clear hb BK5 HB5)
          rw[←K2.out];clear dc da1 da2 da3 db1 db2 db3 dc1 dc2 dc3 c0;cases bV with
          |false=>
            have k3:o4=o3:=by simpa using h4
            clear h4 hV;subst k3;go_wp2
            go_ret
            exact⟨rfl,HB6.out⟩
          |true=>
            have k3:o4=(o3++⟨#[32]⟩)++xV:=by simpa using h4
            have K3:=Aside0.mk k3;have dc:=fun W:World=>spec_ValText.calls 8 vk vn xV W (hV rfl)
            have zs:(o3++(⟨#[32]⟩:ByteArray)).size=o3.size+1:=by rw[ByteArray.size_append];rfl
            have zo:o4.size≤504:=by rw[k3,ByteArray.size_append,zs];omega
            have da1:decide (o3.size+1≤9223372036854775807)=true:=decide_eq_true (by omega)
            have da2:(9223372036854775807<o3.size+1)=False:=eq_false (by omega)
            have da3:(o3.size+1≤9223372036854775807)=True:=eq_true (by omega)
            have db1:decide ((o3++(⟨#[32]⟩:ByteArray)).size+xV.size≤9223372036854775807)=true:=decide_eq_true (by rw[zs];omega)
            have db2:(9223372036854775807<(o3++(⟨#[32]⟩:ByteArray)).size+xV.size)=False:=eq_false (by rw[zs];omega)
            have db3:((o3++(⟨#[32]⟩:ByteArray)).size+xV.size≤9223372036854775807)=True:=eq_true (by rw[zs];omega)
            have dc1:decide (o3.size+1+xV.size≤9223372036854775807)=true:=decide_eq_true (by omega)
            have dc2:(9223372036854775807<o3.size+1+xV.size)=False:=eq_false (by omega)
            have dc3:(o3.size+1+xV.size≤9223372036854775807)=True:=eq_true (by omega)
            have c0:w6.cell? ⟨w.heap.size,4,none⟩=some (.int .i64 vk):=(blk_cell BK6.out 4).trans rfl;have c1:w6.cell? ⟨w.heap.size,5,none⟩=some (.int .i64 vn):=(blk_cell BK6.out 5).trans rfl;clear h4 hV k3 zs;go_wp2_with (go_at_call 17;refine(dc _).mono ?_;rintro e w7 ⟨rfl,hb⟩;have BK7:=Aside0.mk (blk_below BK6.out hb);have HB7:=Aside0.mk (below_step HB6.out hb);clear hb BK6 HB6)
            go_ret
            exact⟨by rw[K3.out];rfl,HB7.out⟩
theorem addN_mk {b:Bool} {out o1:ByteArray} {n:Int} (h:addN b out n=some o1): ∃x:ByteArray,x.size≤100∧(b=true→spec_l6Dec.f 8 n=some x)∧o1=if b=true then(out++⟨#[32]⟩)++x else out:=by
  rcases addN_some h with ⟨rfl,rfl⟩|⟨rfl,x,h1,h2,rfl⟩
  · exact⟨⟨#[]⟩,Nat.zero_le _,fun h=>(by cases h),by simp⟩
  · exact⟨x,h2,fun _=>h1,by simp⟩
theorem addV_mk {b:Bool} {out o1:ByteArray} {k n:Int} (h:addV b out k n=some o1): ∃x:ByteArray,x.size≤100∧(b=true→spec_ValText.f 8 k n=some x)∧o1=if b=true then(out++⟨#[32]⟩)++x else out:=by
  rcases addV_some h with ⟨rfl,rfl⟩|⟨rfl,x,h1,h2,rfl⟩
  · exact⟨⟨#[]⟩,Nat.zero_le _,fun h=>(by cases h),by simp⟩
  · exact⟨x,h2,fun _=>h1,by simp⟩
theorem name_size {k:Int} (h:1≤k∧k≤14):(nameB k).size≤100:=by
  have:k=1∨k=2∨k=3∨k=4∨k=5∨k=6∨k=7∨k=8∨k=9∨k=10∨k=11∨k=12∨k=13∨k=14:=by omega
  rcases this with rfl|rfl|rfl|rfl|rfl|rfl|rfl|rfl|rfl|rfl|rfl|rfl|rfl|rfl<;>decide
theorem spec_OpText.calls (k r s t vk vn:Int) (x:ByteArray) (w:World) (h:otextV.f k r s t vk vn=some x):
    Calls Tryd.prog 22 #[.agg #[.int .i64 k,.int .i64 r,.int .i64 s,.int .i64 t,.int .i64 vk,.int .i64 vn]] w fun e w'=>e= .returned (.string x)∧Below w.heap.size w w':=by
  unfold otextV.f at h;split at h
  · rename_i hop
    obtain⟨o1,h1,h⟩:=Option.bind_eq_some_iff.1 h;obtain⟨o2,h2,h⟩:=Option.bind_eq_some_iff.1 h;obtain⟨o3,h3,h⟩:=Option.bind_eq_some_iff.1 h;obtain⟨xR,zR,hR,e1⟩:=addN_mk h1;obtain⟨xS,zS,hS,e2⟩:=addN_mk h2;obtain⟨xT,zT,hT,e3⟩:=addN_mk h3;obtain⟨xV,zV,hV,e4⟩:=addV_mk h;have hk:=(opB_true.1 hop).1;exact text_walk k r s t vk vn w hop (nameB k) xR xS xT xV hk rfl ⟨name_size hk,zR,zS,zT,zV⟩ _ _ _ _ rfl rfl rfl rfl hR hS hT hV o1 o2 o3 x e1 e2 e3 e4
  · rename_i hop
    obtain rfl:=Option.some.inj h;exact text_no k r s t vk vn w (by simpa using hop)
def decB (n:Int):ByteArray:=⟨(itoaS n).toArray⟩
def addS (b:Bool) (out x:ByteArray):ByteArray:=if b=true then(out++⟨#[32]⟩)++x else out
def outR (k r:Int):ByteArray:=addS (hasR k) (nameB k) (decB r)
def outS (k r s:Int):ByteArray:=addS (hasS k) (outR k r) (decB s)
def outT (k r s t:Int):ByteArray:=addS (hasT k) (outS k r s) (decB t)
def opText (k r s t vk vn:Int):ByteArray:=if opB k r s t vk vn=true then addS (hasV k) (outT k r s t) (vtext vk vn)else⟨#[]⟩
theorem dec_size (n:Int):(decB n).size≤3:=by
  unfold decB itoaS dec2;split<;>split<;>simp[ByteArray.size]
theorem add_size (b:Bool) (out x:ByteArray):(addS b out x).size≤out.size+1+x.size:=by
  unfold addS;split
  · rw[ByteArray.size_append,ByteArray.size_append];exact Nat.le_refl _
  · omega
theorem name_le (k:Int) (h:1≤k∧k≤14):(nameB k).size≤5:=by
  revert k;refine fun k=>kinds (P:=fun k=>1≤k∧k≤14→(nameB k).size≤5) (fun k hk h=>absurd h hk) ?_ ?_ ?_ ?_ ?_ ?_ ?_ ?_ ?_ ?_ ?_ ?_ ?_ ?_ k<;>exact fun _=>by decide
theorem how_name (k:Int) (h:1≤k∧k≤14):(howR k).f0=nameB k:=by
  revert k;refine fun k=>kinds (P:=fun k=>1≤k∧k≤14→(howR k).f0=nameB k) (fun k hk h=>absurd h hk) ?_ ?_ ?_ ?_ ?_ ?_ ?_ ?_ ?_ ?_ ?_ ?_ ?_ ?_ k<;>exact fun _=>by decide
theorem vtext_le4 (a b:Int):(vtext a b).size≤4:=by
  by_cases h:okB a b=true
  · have hp:=okB_true.1 h
    unfold vtext;rw[if_pos h];split
    · decide
    · have:(itoaS b).length≤3:=by unfold itoaS dec2;split<;>split<;>simp
      simp[ByteArray.size];omega
  · simp only[Bool.not_eq_true]at h
    rw[vtext_bad h];exact Nat.zero_le _
theorem cat1 (x:ByteArray) (hx:x.size≤1000):decide (1+x.size≤9223372036854775807)=true∧(9223372036854775807<1+x.size)=False∧(1+x.size≤9223372036854775807)=True:=
  ⟨decide_eq_true (by omega),eq_false (by omega),eq_true (by omega)⟩
theorem catB (o x:ByteArray) (ho:o.size≤1000) (hx:x.size≤1000):decide (o.size+(1+x.size)≤9223372036854775807)=true∧(9223372036854775807<o.size+(1+x.size))=False∧(o.size+(1+x.size)≤9223372036854775807)=True:=
  ⟨decide_eq_true (by omega),eq_false (by omega),eq_true (by omega)⟩
def outI (k r s t:Int) (i:Int):ByteArray:=if i=0 then nameB k else if i=1 then outR k r else if i=2 then outS k r s else outT k r s t
def OI (k r s t:Int) (i:Int) (v:Value):Prop:= ∃o:ByteArray,v= .string o∧o=outI k r s t i∧(o.size:Int)≤5+4*i
theorem oi_step {k r s t i:Int} {o x:ByteArray} (ho:o=outI k r s t i) {h:Bool} (e:outI k r s t (i+1)=addS h (outI k r s t i) x):(h=true→outI k r s t (i+1)=o++(⟨#[32]⟩++x))∧(h=false→outI k r s t (i+1)=o):=by
  subst ho;constructor
  · rintro rfl;rw[e];unfold addS;rw[if_pos rfl,ByteArray.append_assoc]
  · rintro rfl;rw[e];unfold addS;rw[if_neg (by simp)]
theorem box3 {W:World} {g:Nat} {a b c:Value} {t:TypeId} (h:W.heap[g]?=some (.cells #[a,b,c] t (0,0))):
    W.cell? ⟨g,0,none⟩=some a∧W.cell? ⟨g,1,none⟩=some b∧W.cell? ⟨g,2,none⟩=some c:=
  ⟨(blk_cell h 0).trans rfl,(blk_cell h 1).trans rfl,(blk_cell h 2).trans rfl⟩
def cells6 (k r s t vk vn:Int):Obj:=.cells #[.int .i64 k,.int .i64 r,.int .i64 s,.int .i64 t,.int .i64 vk,.int .i64 vn] 35
theorem opText_no {k r s t vk vn:Int} (h:opB k r s t vk vn=false):opText k r s t vk vn=⟨#[]⟩:=by unfold opText;simp[h]
theorem impl_OpText_any (k r s t vk vn:Int) (w:World) (hT:Tab w):
    Calls Tryd.prog 24 #[.agg #[.int .i64 k,.int .i64 r,.int .i64 s,.int .i64 t,.int .i64 vk,.int .i64 vn]] w fun e w'=>e= .returned (.string (opText k r s t vk vn))∧Below w.heap.size w w':=by
  have HT:=Aside0.mk hT;clear hT;have HO:Aside0 (∀W,Calls Tryd.prog 38 #[.agg #[.int .i64 k,.int .i64 r,.int .i64 s,.int .i64 t,.int .i64 vk,.int .i64 vn]] W fun e w'=>e= .returned (.bool (opB k r s t vk vn))∧Below W.heap.size W w'):=⟨fun W=>impl_OpOk.calls k r s t vk vn _ W rfl⟩
  obtain⟨b,hop⟩: ∃b,opB k r s t vk vn=b:=⟨_,rfl⟩;cases b with
  |false=>
    rw[opText_no hop];rw[hop]at HO
    clear hop;go_enter Tryd.func24,Tryd.ntmps24
    go_wp2_with (go_at_call 38;(with_reducible refine(HO.out _).mono ?_);rintro e w1 ⟨rfl,hb⟩)
    go_ret
    exact⟨rfl,below_step (below_alloc (Below.refl _ _) _) hb⟩
  |true=>
    rw[hop]at HO
    have hp:=opB_true.1 hop;have hk:=hp.1;have HH:Aside0 (∀ (c:UInt8) W,Calls Tryd.prog 52 #[.agg #[.int .i64 k,.int .i64 r,.int .i64 s,.int .i64 t,.int .i64 vk,.int .i64 vn],.string ⟨#[c]⟩] W fun e w'=>e= .returned (.bool (hasC k c))∧Below W.heap.size W w'):=⟨fun c W=>has_any k r s t vk vn c W⟩
    have HW:Aside0 (∀W,Calls Tryd.prog 51 #[.agg #[.int .i64 k,.int .i64 r,.int .i64 s,.int .i64 t,.int .i64 vk,.int .i64 vn]] W fun e w'=>e= .returned (.agg #[.string (nameB k),.string (howR k).f1,.string (howR k).f2,.bool (howR k).f3])∧Below W.heap.size W w'):=⟨fun W=>by
      rw[←how_name k hk];exact impl_Op_how.calls k r s t vk vn (howR k).f0 (howR k).f1 (howR k).f2 (howR k).f3 W rfl⟩
    have HI:Aside0 (∀n W, -100<n→n<100→Below w.heap.size w W→Calls Tryd.prog 44 #[.int .i64 n] W fun e w'=>e= .returned (.string (decB n))∧Below W.heap.size W w'):=⟨fun n W h0 h1 hW=>itoa_call n W h0 h1 (HT.out.below hW)⟩
    have HV:Aside0 (∀W,Below w.heap.size w W→Calls Tryd.prog 19 #[.agg #[.int .i64 vk,.int .i64 vn]] W fun e w'=>e= .returned (.string (vtext vk vn))∧Below W.heap.size W w'):=⟨fun W hW=>impl_ValText_any vk vn W (HT.out.below hW)⟩
    have hr: -100<r∧r<100∧ -100<s∧s<100∧ -100<t∧t<100:=by
      obtain⟨_,_,a,b,c,_⟩:=hp;omega
    have HRR:=Aside0.mk hr;have HN:=Aside0.mk (name_le k hk);have HEND:Aside0 (opText k r s t vk vn=addS (hasV k) (outI k r s t 3) (vtext vk vn)):=⟨by unfold opText;rw[if_pos hop];rfl⟩
    obtain⟨x1,x2,x3⟩: ∃a b c,a=(howR k).f1∧b=(howR k).f2∧c=(howR k).f3:=⟨_,_,_,rfl,rfl,rfl⟩;clear hop hp hr hk;rw[HEND.out];have hs0: ∀W,Sem.run Tryd.prog (Instr.slice 9 (.string ⟨#[82,83,84]⟩) (some (.int .i64 0)) (some (.int .i64 1)) none) W= .ok (.string ⟨#[82]⟩) W:=fun _=>by kernel_rfl
    have hs1: ∀W,Sem.run Tryd.prog (Instr.slice 9 (.string ⟨#[82,83,84]⟩) (some (.int .i64 1)) (some (.int .i64 2)) none) W= .ok (.string ⟨#[83]⟩) W:=fun _=>by kernel_rfl
    have hs2: ∀W,Sem.run Tryd.prog (Instr.slice 9 (.string ⟨#[82,83,84]⟩) (some (.int .i64 2)) (some (.int .i64 3)) none) W= .ok (.string ⟨#[84]⟩) W:=fun _=>by kernel_rfl
    have hfd: ∀ (a b c d:Value) (W:World),Sem.run Tryd.prog (Instr.field 67 (.agg #[a,b,c,d]) 0) W= .ok a W:=fun _ _ _ _ _=>by kernel_rfl
    have HB:=Aside0.mk (Hold.new (Below.refl w.heap.size w) (cells6 k r s t vk vn));go_enter Tryd.func24,Tryd.ntmps24
    go_upto_block 0 with (first
      |(go_at_call 38;(with_reducible refine(HO.out _).mono ?_);rintro e w1 ⟨rfl,hb⟩;replace HB:=Aside0.mk (HB.out.step hb);clear hb;obtain⟨c0,c1,c2,c3,c4,c5⟩:=box6 HB.out.blk)
      |(go_at_call 51;(with_reducible refine(HW.out _).mono ?_);rintro e w2 ⟨rfl,hb⟩;replace HB:=Aside0.mk (HB.out.step hb);clear hb c0 c1 c2 c3 c4 c5;obtain⟨c0,c1,c2,c3,c4,c5⟩:=box6 HB.out.blk))
    replace HB:=Aside0.mk (Hold2.new HB.out (.cells #[.int .i64 r,.int .i64 s,.int .i64 t] 3 (0,0)));have HO0:Aside0 (OI k r s t 0 (.string (nameB k))):=⟨⟨_,rfl,rfl,by have:=HN.out;omega⟩⟩
    clear c0 c1 c2 c3 c4 c5 HO HW HN HEND;revert HB
    generalize w2.alloc (.cells #[.int .i64 r,.int .i64 s,.int .i64 t] 3)=w3;generalize w2.heap.size=gs;intro HB;go_wp2
    go_loopg [3,20] 3 (fun gg s3 s20 wr=> ∃i:Int,0≤i∧i≤3∧3-i≤gg∧s20= .int .i64 i∧Aside0 (OI k r s t i s3)∧Aside0 (Hold2 w wr w.heap.size (cells6 k r s t vk vn) gs (.cells #[.int .i64 r,.int .i64 s,.int .i64 t] 3)))
    case atStart=>exact⟨0,by omega,by omega,by omega,rfl,HO0,HB⟩
    case round=>
      clear HB HO0;obtain⟨i,hi0,hi3,hgg,rfl,HOI,HB⟩:=hrel;have hi:i=0∨i=1∨i=2∨i=3:=by omega
      clear hi0 hi3;obtain⟨o,rfl,ho,hoz⟩:=HOI.out;clear HOI;obtain⟨c0,c1,c2,c3,c4,c5⟩:=box6 HB.out.blk;obtain⟨d0,d1,d2⟩:=box3 HB.out.blk2;have hw1:IntKind.i64.wrap 1=1:=by decide
      have hw2:IntKind.i64.wrap 2=2:=by decide
      have hw3:IntKind.i64.wrap 3=3:=by decide
      rcases hi with rfl|rfl|rfl|rfl
      · have ES:=Aside0.mk (oi_step (k:=k) (r:=r) (s:=s) (t:=t) (i:=0) (h:=hasR k) (x:=decB r) ho rfl)
        obtain⟨b,hbq⟩: ∃b,hasC k 82=b:=⟨_,rfl⟩;rw[show hasR k=hasC k 82 from(hasC_R k).symm,hbq]at ES
        have HX:Aside0 (∀W,Calls Tryd.prog 52 #[.agg #[.int .i64 k,.int .i64 r,.int .i64 s,.int .i64 t,.int .i64 vk,.int .i64 vn],.string ⟨#[82]⟩] W fun e w'=>e= .returned (.bool b)∧Below W.heap.size W w'):=⟨fun W=>by rw[←hbq];exact HH.out 82 W⟩
        clear ho hbq;go_upto_region 7 with (fail)
        go_region_held3 (fun w'=>w'.cell? ⟨w.heap.size,0,none⟩=some (.int .i64 k)∧w'.cell? ⟨w.heap.size,1,none⟩=some (.int .i64 r)∧w'.cell? ⟨w.heap.size,2,none⟩=some (.int .i64 s)∧w'.cell? ⟨w.heap.size,3,none⟩=some (.int .i64 t)∧w'.cell? ⟨w.heap.size,4,none⟩=some (.int .i64 vk)∧w'.cell? ⟨w.heap.size,5,none⟩=some (.int .i64 vn)) (go_keep) ((go_at_call 52;(with_reducible refine(HX.out _).mono ?_);rintro e w4 ⟨rfl,hb⟩;have HB4:=Aside0.mk (HB.out.drew.step hb);clear hb;obtain⟨z0,z1,z2,z3,z4,z5⟩:=box6 HB4.out.blk))
        all_goals
          replace HB:=HB4;clear HB4 z0 z1 z2 z3 z4 z5;cases b with
          |false=>
            have hx:=ES.out.2 rfl;clear ES HX;go_wp2
            go_roundg (gk-1)
            case measure=>omega
            case rel=>exact⟨_,by omega,by omega,by omega,rfl,⟨⟨o,rfl,hx.symm,by omega⟩⟩,HB⟩
          |true=>
            have hx:=ES.out.1 rfl;clear ES HX;obtain⟨X,hX⟩: ∃X,X=decB r:=⟨_,rfl⟩;have hX3:X.size≤3:=by rw[hX];exact dec_size _
            have HIX:Aside0 (∀W,Below w.heap.size w W→Calls Tryd.prog 44 #[.int .i64 r] W fun e w'=>e= .returned (.string X)∧Below W.heap.size W w'):=⟨fun W hW=>by rw[hX];exact HI.out r W (by have:=HRR.out;omega) (by have:=HRR.out;omega) hW⟩
            rw[←hX]at hx
            obtain⟨q1,q2,q3⟩:=cat1 X (by omega)
            obtain⟨q4,q5,q6⟩:=catB o X (by omega) (by omega)
            have HX4:=Aside0.mk (show _∧_∧_ from⟨hx,hX3,hX⟩)
            clear hx hX3 hX;go_wp2_with (go_at_call 44;(with_reducible refine(HIX.out _ HB.out.below).mono ?_);rintro e w5 ⟨rfl,hb⟩;replace HB:=Aside0.mk (HB.out.step hb);clear hb)
            go_roundg (gk-1)
            case measure=>omega
            case rel=>exact⟨_,by omega,by omega,by omega,rfl,⟨⟨_,rfl,HX4.out.1.symm,by have:=HX4.out.2.1;rw[ByteArray.size_append,ByteArray.size_append,show(⟨#[32]⟩:ByteArray).size=1 from rfl];omega⟩⟩,HB⟩
      · have ES:=Aside0.mk (oi_step (k:=k) (r:=r) (s:=s) (t:=t) (i:=1) (h:=hasS k) (x:=decB s) ho rfl)
        obtain⟨b,hbq⟩: ∃b,hasC k 83=b:=⟨_,rfl⟩;rw[show hasS k=hasC k 83 from(hasC_S k).symm,hbq]at ES
        have HX:Aside0 (∀W,Calls Tryd.prog 52 #[.agg #[.int .i64 k,.int .i64 r,.int .i64 s,.int .i64 t,.int .i64 vk,.int .i64 vn],.string ⟨#[83]⟩] W fun e w'=>e= .returned (.bool b)∧Below W.heap.size W w'):=⟨fun W=>by rw[←hbq];exact HH.out 83 W⟩
        clear ho hbq;go_upto_region 7 with (fail)
        go_region_held3 (fun w'=>w'.cell? ⟨w.heap.size,0,none⟩=some (.int .i64 k)∧w'.cell? ⟨w.heap.size,1,none⟩=some (.int .i64 r)∧w'.cell? ⟨w.heap.size,2,none⟩=some (.int .i64 s)∧w'.cell? ⟨w.heap.size,3,none⟩=some (.int .i64 t)∧w'.cell? ⟨w.heap.size,4,none⟩=some (.int .i64 vk)∧w'.cell? ⟨w.heap.size,5,none⟩=some (.int .i64 vn)) (go_keep) ((go_at_call 52;(with_reducible refine(HX.out _).mono ?_);rintro e w4 ⟨rfl,hb⟩;have HB4:=Aside0.mk (HB.out.drew.step hb);clear hb;obtain⟨z0,z1,z2,z3,z4,z5⟩:=box6 HB4.out.blk))
        all_goals
          replace HB:=HB4;clear HB4 z0 z1 z2 z3 z4 z5;cases b with
          |false=>
            have hx:=ES.out.2 rfl;clear ES HX;go_wp2
            go_roundg (gk-1)
            case measure=>omega
            case rel=>exact⟨_,by omega,by omega,by omega,rfl,⟨⟨o,rfl,hx.symm,by omega⟩⟩,HB⟩
          |true=>
            have hx:=ES.out.1 rfl;clear ES HX;obtain⟨X,hX⟩: ∃X,X=decB s:=⟨_,rfl⟩;have hX3:X.size≤3:=by rw[hX];exact dec_size _
            have HIX:Aside0 (∀W,Below w.heap.size w W→Calls Tryd.prog 44 #[.int .i64 s] W fun e w'=>e= .returned (.string X)∧Below W.heap.size W w'):=⟨fun W hW=>by rw[hX];exact HI.out s W (by have:=HRR.out;omega) (by have:=HRR.out;omega) hW⟩
            rw[←hX]at hx
            obtain⟨q1,q2,q3⟩:=cat1 X (by omega)
            obtain⟨q4,q5,q6⟩:=catB o X (by omega) (by omega)
            have HX4:=Aside0.mk (show _∧_∧_ from⟨hx,hX3,hX⟩)
            clear hx hX3 hX;go_wp2_with (go_at_call 44;(with_reducible refine(HIX.out _ HB.out.below).mono ?_);rintro e w5 ⟨rfl,hb⟩;replace HB:=Aside0.mk (HB.out.step hb);clear hb)
            go_roundg (gk-1)
            case measure=>omega
            case rel=>exact⟨_,by omega,by omega,by omega,rfl,⟨⟨_,rfl,HX4.out.1.symm,by have:=HX4.out.2.1;rw[ByteArray.size_append,ByteArray.size_append,show(⟨#[32]⟩:ByteArray).size=1 from rfl];omega⟩⟩,HB⟩
      · have ES:=Aside0.mk (oi_step (k:=k) (r:=r) (s:=s) (t:=t) (i:=2) (h:=hasT k) (x:=decB t) ho rfl)
        obtain⟨b,hbq⟩: ∃b,hasC k 84=b:=⟨_,rfl⟩;rw[show hasT k=hasC k 84 from(hasC_T k).symm,hbq]at ES
        have HX:Aside0 (∀W,Calls Tryd.prog 52 #[.agg #[.int .i64 k,.int .i64 r,.int .i64 s,.int .i64 t,.int .i64 vk,.int .i64 vn],.string ⟨#[84]⟩] W fun e w'=>e= .returned (.bool b)∧Below W.heap.size W w'):=⟨fun W=>by rw[←hbq];exact HH.out 84 W⟩
        clear ho hbq;go_upto_region 7 with (fail)
        go_region_held3 (fun w'=>w'.cell? ⟨w.heap.size,0,none⟩=some (.int .i64 k)∧w'.cell? ⟨w.heap.size,1,none⟩=some (.int .i64 r)∧w'.cell? ⟨w.heap.size,2,none⟩=some (.int .i64 s)∧w'.cell? ⟨w.heap.size,3,none⟩=some (.int .i64 t)∧w'.cell? ⟨w.heap.size,4,none⟩=some (.int .i64 vk)∧w'.cell? ⟨w.heap.size,5,none⟩=some (.int .i64 vn)) (go_keep) ((go_at_call 52;(with_reducible refine(HX.out _).mono ?_);rintro e w4 ⟨rfl,hb⟩;have HB4:=Aside0.mk (HB.out.drew.step hb);clear hb;obtain⟨z0,z1,z2,z3,z4,z5⟩:=box6 HB4.out.blk))
        all_goals
          replace HB:=HB4;clear HB4 z0 z1 z2 z3 z4 z5;cases b with
          |false=>
            have hx:=ES.out.2 rfl;clear ES HX;go_wp2
            go_roundg (gk-1)
            case measure=>omega
            case rel=>exact⟨_,by omega,by omega,by omega,rfl,⟨⟨o,rfl,hx.symm,by omega⟩⟩,HB⟩
          |true=>
            have hx:=ES.out.1 rfl;clear ES HX;obtain⟨X,hX⟩: ∃X,X=decB t:=⟨_,rfl⟩;have hX3:X.size≤3:=by rw[hX];exact dec_size _
            have HIX:Aside0 (∀W,Below w.heap.size w W→Calls Tryd.prog 44 #[.int .i64 t] W fun e w'=>e= .returned (.string X)∧Below W.heap.size W w'):=⟨fun W hW=>by rw[hX];exact HI.out t W (by have:=HRR.out;omega) (by have:=HRR.out;omega) hW⟩
            rw[←hX]at hx
            obtain⟨q1,q2,q3⟩:=cat1 X (by omega)
            obtain⟨q4,q5,q6⟩:=catB o X (by omega) (by omega)
            have HX4:=Aside0.mk (show _∧_∧_ from⟨hx,hX3,hX⟩)
            clear hx hX3 hX;go_wp2_with (go_at_call 44;(with_reducible refine(HIX.out _ HB.out.below).mono ?_);rintro e w5 ⟨rfl,hb⟩;replace HB:=Aside0.mk (HB.out.step hb);clear hb)
            go_roundg (gk-1)
            case measure=>omega
            case rel=>exact⟨_,by omega,by omega,by omega,rfl,⟨⟨_,rfl,HX4.out.1.symm,by have:=HX4.out.2.1;rw[ByteArray.size_append,ByteArray.size_append,show(⟨#[32]⟩:ByteArray).size=1 from rfl];omega⟩⟩,HB⟩
      · have hcat:=hoz
        have HEE:=Aside0.mk (show _∧_ from⟨ho,hoz⟩)
        obtain⟨q4,q5,q6⟩:True∧True∧True:=⟨trivial,trivial,trivial⟩;clear ho;have HX:Aside0 (∀W,Calls Tryd.prog 52 #[.agg #[.int .i64 k,.int .i64 r,.int .i64 s,.int .i64 t,.int .i64 vk,.int .i64 vn],.string ⟨#[86]⟩] W fun e w'=>e= .returned (.bool (hasV k))∧Below W.heap.size W w'):=⟨fun W=>by rw[←hasC_V];exact HH.out 86 W⟩
        obtain⟨b,hbq⟩: ∃b,hasV k=b:=⟨_,rfl⟩;rw[hbq]at HX
        obtain⟨X,hX⟩: ∃X,X=vtext vk vn:=⟨_,rfl⟩;have hX3:X.size≤4:=by rw[hX];exact vtext_le4 _ _
        rw[←hX]at HV
        have HXV:=Aside0.mk (show _∧_ from⟨hX,hbq⟩)
        obtain⟨q1,q2,q3⟩:=cat1 X (by omega)
        obtain⟨q4,q5,q6⟩:=catB o X (by omega) (by omega)
        clear hX hX3 hoz hcat hbq;cases b with
        |false=>
          go_wp2_with (go_at_call 52;(with_reducible refine(HX.out _).mono ?_);rintro e w4 ⟨rfl,hb⟩;replace HB:=Aside0.mk (HB.out.step hb);clear hb)
          go_ret
          exact⟨by rw[HEE.out.1,HXV.out.2];rfl,HB.out.below⟩
        |true=>
          go_wp2_with (first
            |(go_at_call 52;(with_reducible refine(HX.out _).mono ?_);rintro e w4 ⟨rfl,hb⟩;replace HB:=Aside0.mk (HB.out.step hb);clear hb c0 c1 c2 c3 c4 c5;obtain⟨c0,c1,c2,c3,c4,c5⟩:=box6 HB.out.blk)
            |(go_at_call 19;(with_reducible refine(HV.out _ HB.out.below).mono ?_);rintro e w5 ⟨rfl,hb⟩;replace HB:=Aside0.mk (HB.out.step hb);clear hb))
          go_ret
          exact⟨by rw[HEE.out.1,HXV.out.2,←HXV.out.1];unfold addS;rw[if_pos rfl,ByteArray.append_assoc];rfl,HB.out.below⟩
theorem l6_ok (n:Int) (h0: -100<n) (h1:n<100):spec_l6Dec.f 5 n=some ⟨(itoaS n).toArray⟩:=by
  have h: ∀i∈List.range 199,spec_l6Dec.f 5 ((i:Int)-99)=some ⟨(itoaS ((i:Int)-99)).toArray⟩:=by decide+kernel
  have:=h (n+99).toNat (by simp;omega)
  rwa [show(((n+99).toNat:Nat):Int)-99=n by omega]at this
theorem specOk_f (k n:Int):spec_ValOk.f k n=some (okB k n):=by
  unfold spec_ValOk.f okB okP spec_l6In.f;by_cases h0:k=0
  · subst h0;simp;by_cases n=0<;>simp[*]
  by_cases h1:k=1
  · subst h1;simp;by_cases h: -99≤n<;>by_cases h':n≤99<;>simp[*]
  by_cases h2:k=2
  · subst h2;simp;by_cases h:0≤n<;>by_cases h':n≤9<;>simp[*]
  by_cases h3:k=3
  · subst h3;simp;by_cases h:1≤n<;>by_cases h':n≤6<;>simp[*]
  simp[h0,h1,h2,h3]
theorem specText_f (k n:Int):spec_ValText.f 5 k n=some (vtext k n):=by
  unfold spec_ValText.f vtext;rw[specOk_f];by_cases h:okB k n=true
  · rw[h]
    simp only[Option.bind_some,if_true]
    by_cases h0:k=0
    · rw[if_pos h0,if_pos h0]
    · rw[if_neg h0,if_neg h0]
      have hp:=okB_true.1 h;have hk:k=1∨k=2∨k=3:=by unfold okP at hp;omega
      rw[l6_ok n (by unfold okP at hp;omega) (by unfold okP at hp;omega)]
      have hs:(itoaS n).length≤3:=by unfold itoaS dec2;split<;>split<;>simp
      obtain⟨X,hX⟩: ∃X,X=itoaS n:=⟨_,rfl⟩;rw[←hX]at hs⊢
      clear hX hp h h0;simp only[Option.bind_some]
      have hsz: ∀c:UInt8,(ByteArray.mk #[c]).size+(ByteArray.mk X.toArray).size≤9223372036854775807:=fun c=>by
        have:(ByteArray.mk X.toArray).size=X.length:=by simp[ByteArray.size]
        rw[this];show 1+X.length≤_;omega
      rcases hk with rfl|rfl|rfl
      · rw[if_pos (by decide),if_pos (by decide)];exact(if_pos (hsz 110)).trans rfl
      · rw[if_pos (by decide),if_pos (by decide)];exact(if_pos (hsz 97)).trans rfl
      · rw[if_pos (by decide),if_pos (by decide)];exact(if_pos (hsz 114)).trans rfl
  · simp only[Bool.not_eq_true]at h
    rw[h];simp
theorem l6_ok8 (n:Int) (h0: -100<n) (h1:n<100):spec_l6Dec.f 8 n=some (decB n):=by
  have h: ∀i∈List.range 199,spec_l6Dec.f 8 ((i:Int)-99)=some (decB ((i:Int)-99)):=by decide+kernel
  have:=h (n+99).toNat (by simp;omega)
  rwa [show(((n+99).toNat:Nat):Int)-99=n by omega]at this
theorem l6_up (n:Int) (h0: -100<n) (h1:n<100):spec_l6Dec.f 5 n=spec_l6Dec.f 8 n:=by
  rw[l6_ok8 n h0 h1,l6_ok n h0 h1];rfl
theorem specText_f8 (k n:Int):spec_ValText.f 8 k n=some (vtext k n):=by
  rw[←specText_f k n];unfold spec_ValText.f;rw[specOk_f];by_cases h:okB k n=true
  · have hp:=okB_true.1 h
    by_cases h0:k=0
    · subst h0;rfl
    · rw[l6_up n (by unfold okP at hp;omega) (by unfold okP at hp;omega)]
  · simp only[Bool.not_eq_true]at h
    rw[h];simp
theorem addN_f (b:Bool) (out:ByteArray) (n:Int) (h0: -100<n) (h1:n<100):addN b out n=some (addS b out (decB n)):=by
  unfold addN addS;cases b with
  |false=>simp
  |true=>rw[if_pos rfl,if_pos rfl,l6_ok8 n h0 h1,Option.bind_some,if_pos (by have:=dec_size n;omega)]
theorem addV_f (b:Bool) (out:ByteArray) (k n:Int):addV b out k n=some (addS b out (vtext k n)):=by
  unfold addV addS;cases b with
  |false=>simp
  |true=>rw[if_pos rfl,if_pos rfl,specText_f8 k n,Option.bind_some,if_pos (by have:=vtext_le4 k n;omega)]
theorem otext_f (k r s t vk vn:Int):otextV.f k r s t vk vn=some (opText k r s t vk vn):=by
  unfold otextV.f opText;by_cases h:opB k r s t vk vn=true
  · have hp:=opB_true.1 h
    have hr: -100<r∧r<100∧ -100<s∧s<100∧ -100<t∧t<100:=by
      obtain⟨_,_,a,b,c,_⟩:=hp;omega
    rw[if_pos h,if_pos h,addN_f _ _ _ (by omega) (by omega),Option.bind_some,addN_f _ _ _ (by omega) (by omega),Option.bind_some,addN_f _ _ _ (by omega) (by omega),Option.bind_some,addV_f]
    rfl
  · rw[if_neg h,if_neg h]
theorem spec_OpText_any (k r s t vk vn:Int) (w:World):
    Calls Tryd.prog 22 #[.agg #[.int .i64 k,.int .i64 r,.int .i64 s,.int .i64 t,.int .i64 vk,.int .i64 vn]] w fun e w'=>e= .returned (.string (opText k r s t vk vn))∧Below w.heap.size w w':=
  spec_OpText.calls k r s t vk vn _ w (otext_f k r s t vk vn)
theorem okAll {P:Int→Int→Prop} (h0:P 0 0) (h1: ∀i∈List.range 199,P 1 ((i:Int)-99)) (h2: ∀i∈List.range 10,P 2 (i:Int)) (h3: ∀i∈List.range 6,P 3 ((i:Int)+1)) (k n:Int) (h:okP k n):P k n:=by
  rcases h with ⟨rfl,rfl⟩|⟨rfl,a,b⟩|⟨rfl,a,b⟩|⟨rfl,a,b⟩
  · exact h0
  · have:=h1 (n+99).toNat (by simp;omega)
    rwa [show(((n+99).toNat:Nat):Int)-99=n by omega]at this
  · have:=h2 n.toNat (by simp;omega)
    rwa [show((n.toNat:Nat):Int)=n by omega]at this
  · have:=h3 (n-1).toNat (by simp;omega)
    rwa [show(((n-1).toNat:Nat):Int)+1=n by omega]at this
def decL:List UInt8→Int
  | [45,a]=> -((a.toNat:Int)-48)
  | [45,a,b]=> -(((a.toNat:Int)-48)*10+((b.toNat:Int)-48))
  | [a]=>(a.toNat:Int)-48
  | [a,b]=>((a.toNat:Int)-48)*10+((b.toNat:Int)-48)
  |_=>0
def backL:List UInt8→Int×Int
  | [110,111,110,101]=>(0,0)
  |110::r=>(1,decL r)
  |97::r=>(2,decL r)
  |114::r=>(3,decL r)
  |_=>(4,0)
theorem back_ok (k n:Int) (h:okP k n):backL (vtext k n).data.toList=(k,n):=
  okAll (P:=fun k n=>backL (vtext k n).data.toList=(k,n)) (by decide+kernel) (by decide+kernel) (by decide+kernel) (by decide+kernel) k n h
theorem vtext_size (k n:Int) (h:okP k n):2≤(vtext k n).data.toList.length∧(vtext k n).data.toList.length≤4:=
  okAll (P:=fun k n=>2≤(vtext k n).data.toList.length∧(vtext k n).data.toList.length≤4) (by decide+kernel) (by decide+kernel) (by decide+kernel) (by decide+kernel) k n h
theorem toListD (b:ByteArray):b.toList=b.data.toList:=ByteArray.toList_eq b
def segL (b:Bool) (l:List UInt8):List UInt8:=if b=true then 32::l else []
def nameS (k:Int):List UInt8:=(nameB k).data.toList
def vtextS (k n:Int):List UInt8:=(vtext k n).data.toList
def optL (k r s t vk vn:Int):List UInt8:=nameS k++(segL (hasR k) (itoaS r)++(segL (hasS k) (itoaS s)++(segL (hasT k) (itoaS t)++segL (hasV k) (vtextS vk vn))))
theorem addS_list (b:Bool) (o x:ByteArray):(addS b o x).data.toList=o.data.toList++segL b x.data.toList:=by
  unfold addS segL;cases b with
  |false=>simp
  |true=>simp
theorem opText_list {k r s t vk vn:Int} (h:opB k r s t vk vn=true):(opText k r s t vk vn).data.toList=optL k r s t vk vn:=by
  unfold opText optL;rw[if_pos h,addS_list];unfold outT outS outR decB nameS vtextS;rw[addS_list,addS_list,addS_list];simp[List.append_assoc]
theorem itoa_facts (n:Int) (h0: -100<n) (h1:n<100):32∉itoaS n∧decL (itoaS n)=n:=by
  have h: ∀i∈List.range 199,32∉itoaS ((i:Int)-99)∧decL (itoaS ((i:Int)-99))=((i:Int)-99):=by decide+kernel
  have:=h (n+99).toNat (by simp;omega)
  rwa [show(((n+99).toNat:Nat):Int)-99=n by omega]at this
def kindL:List UInt8→Int
  | [115,101,116]=>1
  | [109,111,118,101]=>2
  | [97,100,100]=>3
  | [115,101,108,102]=>4
  | [98,101,103,105,110]=>5
  | [115,101,110,100]=>6
  | [116,97,107,101]=>7
  | [97,102,116,101,114]=>8
  | [103,111]=>9
  | [105,102]=>10
  | [108,105,110,107]=>11
  | [119,97,116,99,104]=>12
  | [116,114,97,112]=>13
  |_=>14
theorem name_facts (k:Int) (h:1≤k∧k≤14):(32∉nameS k∧nameS k≠ [])∧kindL (nameS k)=k:=by
  revert k;refine fun k=>kinds (P:=fun k=>1≤k∧k≤14→(32∉nameS k∧nameS k≠ [])∧kindL (nameS k)=k) (fun k hk h=>absurd h hk) ?_ ?_ ?_ ?_ ?_ ?_ ?_ ?_ ?_ ?_ ?_ ?_ ?_ ?_ k<;>exact fun _=>by decide
def Hd (x:List UInt8):Prop:=x=[]∨ ∃z,x=32::z
theorem hd_seg (b:Bool) (l x:List UInt8) (h:Hd x):Hd (segL b l++x):=by
  unfold segL;cases b with
  |false=>simpa using h
  |true=>exact .inr ⟨l++x,by simp⟩
theorem hd_seg0 (b:Bool) (l:List UInt8):Hd (segL b l):=by
  unfold segL;cases b with
  |false=>exact .inl (by simp)
  |true=>exact .inr ⟨l,by simp⟩
theorem cut_word: ∀ {a b x y:List UInt8},32∉a→32∉b→Hd x→Hd y→a++x=b++y→a=b∧x=y
  | [],[],_,_,_,_,_,_,h=>⟨rfl,h⟩
  | [],c::b,x,y,_,hb,hx,_,h=>by
    rcases hx with rfl|⟨z,rfl⟩
    · simp at h
    · simp at h;exact absurd (List.mem_cons.2 (.inl h.1)) hb
  |c::a,[],x,y,ha,_,_,hy,h=>by
    rcases hy with rfl|⟨z,rfl⟩
    · simp at h
    · simp at h;exact absurd (List.mem_cons.2 (.inl h.1.symm)) ha
  |c::a,d::b,x,y,ha,hb,hx,hy,h=>by
    simp only[List.cons_append,List.cons.injEq]at h
    obtain⟨e1,e2⟩:=cut_word (fun m=>ha (List.mem_cons_of_mem _ m)) (fun m=>hb (List.mem_cons_of_mem _ m)) hx hy h.2
    exact⟨by rw[h.1,e1],e2⟩
theorem seg_cut {b:Bool} {n m:Int} {x y:List UInt8} (hn: -100<n∧n<100) (hm: -100<m∧m<100) (h0:b=false→n=0∧m=0) (hx:Hd x) (hy:Hd y) (h:segL b (itoaS n)++x=segL b (itoaS m)++y):n=m∧x=y:=by
  cases b with
  |false=>exact⟨(h0 rfl).1.trans (h0 rfl).2.symm,by simpa[segL]using h⟩
  |true=>
    simp only[segL,if_true,List.cons_append,List.cons.injEq,true_and]at h
    obtain⟨e1,e2⟩:=cut_word (itoa_facts n hn.1 hn.2).1 (itoa_facts m hm.1 hm.2).1 hx hy h;have:=congrArg decL e1;rw[(itoa_facts n hn.1 hn.2).2,(itoa_facts m hm.1 hm.2).2]at this
    exact⟨this,e2⟩
theorem optL_one {k r s t vk vn k' r' s' t' vk' vn':Int} (h:opP k r s t vk vn) (h':opP k' r' s' t' vk' vn') (e:optL k r s t vk vn=optL k' r' s' t' vk' vn'):
    k=k'∧r=r'∧s=s'∧t=t'∧vk=vk'∧vn=vn':=by
  obtain⟨hk,hv,hr,hs,ht,hvv⟩:=h;obtain⟨hk',hv',hr',hs',ht',hvv'⟩:=h';unfold optL at e;obtain⟨e0,e1⟩:=cut_word (name_facts k hk).1.1 (name_facts k' hk').1.1 (hd_seg _ _ _ (hd_seg _ _ _ (hd_seg _ _ _ (hd_seg0 _ _)))) (hd_seg _ _ _ (hd_seg _ _ _ (hd_seg _ _ _ (hd_seg0 _ _)))) e;have ek:=congrArg kindL e0;rw[(name_facts k hk).2,(name_facts k' hk').2]at ek
  subst ek;obtain⟨f1,e2⟩:=seg_cut (by omega) (by omega) (fun hb=>by simp only[hb,Bool.false_eq_true,false_and,or_false]at hr hr';exact⟨hr,hr'⟩) (hd_seg _ _ _ (hd_seg _ _ _ (hd_seg0 _ _))) (hd_seg _ _ _ (hd_seg _ _ _ (hd_seg0 _ _))) e1
  obtain⟨f2,e3⟩:=seg_cut (by omega) (by omega) (fun hb=>by simp only[hb,Bool.false_eq_true,false_and,or_false]at hs hs';exact⟨hs,hs'⟩) (hd_seg _ _ _ (hd_seg0 _ _)) (hd_seg _ _ _ (hd_seg0 _ _)) e2
  obtain⟨f3,e4⟩:=seg_cut (by omega) (by omega) (fun hb=>by simp only[hb,Bool.false_eq_true,false_and,or_false]at ht ht';exact⟨ht,ht'⟩) (hd_seg0 _ _) (hd_seg0 _ _) e3
  refine⟨rfl,f1,f2,f3,?_⟩
  cases hb:hasV k with
  |false=>
    simp only[hb,Bool.false_eq_true,false_or]at hvv hvv'
    exact⟨hvv.1.trans hvv'.1.symm,hvv.2.trans hvv'.2.symm⟩
  |true=>
    rw[hb]at e4
    simp only[segL,if_true,List.cons.injEq,true_and]at e4
    have:=congrArg backL e4;unfold vtextS at this;rw[back_ok _ _ hv.1,back_ok _ _ hv'.1]at this
    injection this with g1 g2
    exact⟨g1,g2⟩
theorem opText_ne {k r s t vk vn:Int} (h:opB k r s t vk vn=true):((opText k r s t vk vn).toList=[]→False)∧(opText k r s t vk vn).toList.isEmpty=false:=by
  rw[toListD,opText_list h];have:=(name_facts k (opB_true.1 h).1).1.2;unfold optL;cases hl:nameS k with
  |nil=>exact absurd hl this
  |cons c l=>exact⟨by simp,by simp⟩
theorem wr64 {x:Int} (h0: -9223372036854775808≤x) (h1:x≤9223372036854775807):wrap64 x=x:=by
  unfold wrap64;omega
theorem xor_nonneg (a b:Int) (ha:0≤a) (ha':a<4611686018427387904) (hb:0≤b) (hb':b<4611686018427387904):0≤Go.bits .xor .i64 a b:=by
  obtain⟨m,rfl⟩:=Int.eq_ofNat_of_zero_le ha;obtain⟨n,rfl⟩:=Int.eq_ofNat_of_zero_le hb;have hm:m<2^62:=by omega
  have hn:n<2^62:=by omega
  have hx:m^^^n<2^62:=Nat.xor_lt_two_pow hm hn;have e1:m%2^IntKind.i64.bits=m:=Nat.mod_eq_of_lt (by show m<2^64;omega)
  have e2:n%2^IntKind.i64.bits=n:=Nat.mod_eq_of_lt (by show n<2^64;omega)
  simp only[bits,BitVec.ofInt_natCast,BitVec.toNat_xor,BitVec.toNat_ofNat,e1,e2]
  rw[IntKind.wrap_i64];omega
def Bytes (b:List Int):Prop:=b.length≤2000∧ ∀x∈b,0≤x∧x≤255
theorem rd_byte {b:List Int} (hb:Bytes b) {i:Int} (h:i.toNat<b.length):0≤rd b i∧rd b i≤255:=by
  unfold rd;rw[List.getD_eq_getElem?_getD,List.getElem?_eq_getElem h];exact hb.2 _ (List.getElem_mem h)
theorem pick_ok {b:List Int} (hb:Bytes b) (k:Nat) (p n:Int) (hp:0≤p) (hp':p<1000000) (hn':n<1000000):
    ∃x,spec_l6Rd_pick.f (k+1) b p n=some (x,p+1)∧0≤x∧(1≤n→x<n)∧(n<1→x=0):=by
  have e1:wrap64 (p+1)=p+1:=wr64 (by omega) (by omega)
  have e2:wrap64 (p+1-1)=p:=by rw[wr64]<;>omega
  unfold spec_l6Rd_pick.f;rw[e1];by_cases hn:n<1
  · rw[if_pos hn]
    exact⟨0,by simp[spec_l6Rd_pick.j0],by omega,by omega,fun _=>rfl⟩
  rw[if_neg hn];by_cases hl:b.length=0
  · refine⟨0,?_,by omega,by omega,fun _=>rfl⟩
    simp[spec_l6Rd_pick.j0,hl]
  have hlb:=hb.1;have c0:(((b.length:Nat):Int)==0)=false:=by simp;intro h;simp[h]at hl
  rw[c0];simp only[spec_l6Rd_pick.j0]
  rw[if_neg (by simp),e2]
  have tm: ∀X:Int,0≤X→0≤Int.tmod X n∧Int.tmod X n<n:=fun X hX=>by
    rw[Int.tmod_eq_emod_of_nonneg hX];exact⟨Int.emod_nonneg _ (by omega),Int.emod_lt_of_pos _ (by omega)⟩
  by_cases hlt:p<(b.length:Int)
  · rw[if_pos hlt,if_pos hp,if_neg (by omega)]
    have hr:=rd_byte hb (i:=p) (by omega)
    rw[wr64 (x:=rd b p) (by omega) (by omega)]
    have:=tm _ hr.1;exact⟨_,rfl,this.1,fun _=>this.2,fun h=>absurd h hn⟩
  rw[if_neg hlt,if_neg (by omega)]
  have hL:(0:Int)<(b.length:Int):=by omega
  have ti: ∀X:Int,0≤X→0≤Int.tmod X (b.length:Int)∧Int.tmod X (b.length:Int)<(b.length:Int):=fun X hX=>by
    rw[Int.tmod_eq_emod_of_nonneg hX];exact⟨Int.emod_nonneg _ (by omega),Int.emod_lt_of_pos _ hL⟩
  have e3:wrap64 (wrap64 (p*7)+3)=p*7+3:=by rw[wr64 (x:=p*7) (by omega) (by omega)];exact wr64 (by omega) (by omega)
  rw[e3];obtain⟨i,hi⟩: ∃i,Int.tmod p (b.length:Int)=i:=⟨_,rfl⟩;obtain⟨j,hj⟩: ∃j,Int.tmod (p*7+3) (b.length:Int)=j:=⟨_,rfl⟩;have bi:=ti p hp;have bj:=ti (p*7+3) (by omega)
  rw[hi]at bi⊢;rw[hj]at bj⊢
  rw[if_pos bi.1,if_pos bi.2,if_pos bj.1,if_pos bj.2,if_neg (by omega)]
  have r1:=rd_byte hb (i:=i) (by omega)
  have r2:=rd_byte hb (i:=j) (by omega)
  obtain⟨u,hu⟩: ∃u,rd b i=u:=⟨_,rfl⟩;obtain⟨v,hv⟩: ∃v,rd b j=v:=⟨_,rfl⟩;rw[hu]at r1⊢;rw[hv]at r2⊢
  obtain⟨q,hq⟩: ∃q,Int.tdiv p (b.length:Int)=q:=⟨_,rfl⟩
  have bq:0≤q∧q≤p:=by
    rw[←hq,Int.tdiv_eq_ediv_of_nonneg hp];exact⟨Int.ediv_nonneg hp (by omega),Int.ediv_le_self _ hp⟩
  rw[hq,wr64 (x:=u) (by omega) (by omega),wr64 (x:=v) (by omega) (by omega),wr64 (x:=u*131) (by omega) (by omega),wr64 (x:=v*1117) (by omega) (by omega),wr64 (x:=u*131+v*1117) (by omega) (by omega),wr64 (x:=p*29) (by omega) (by omega),wr64 (x:=q) (by omega) (by omega),wr64 (x:=q*53) (by omega) (by omega),wr64 (x:=u*131+v*1117+p*29) (by omega) (by omega),wr64 (x:=u*131+v*1117+p*29+q*53) (by omega) (by omega)]
  obtain⟨X,hX⟩: ∃X,u*131+v*1117+p*29+q*53=X:=⟨_,rfl⟩;have bX:0≤X∧X<100000000:=by omega
  rw[hX]
  have bY:0≤Int.tdiv X 64∧Int.tdiv X 64<100000000:=by
    rw[Int.tdiv_eq_ediv_of_nonneg bX.1];omega
  rw[wr64 (x:=Int.tdiv X 64) (by omega) (by omega)]
  have:=tm _ (xor_nonneg X (Int.tdiv X 64) bX.1 (by omega) bY.1 (by omega))
  exact⟨_,rfl,this.1,fun _=>this.2,fun h=>absurd h hn⟩
theorem rd_all {P:Int→Prop} {l:List Int} (h: ∀x∈l,P x) {i:Int} (hi:i.toNat<l.length):P (rd l i):=by
  unfold rd;rw[List.getD_eq_getElem?_getD,List.getElem?_eq_getElem hi];exact h _ (List.getElem_mem hi)
theorem open_ok {l:List Int} (hw: ∀x∈l,(Lit.int .u8 x).wf=true): ∃b,spec_l6Open.f l=some (b,0)∧Bytes b:=by
  have hb: ∀x∈l,0≤x∧x≤255:=fun x hx=>by
    have:=hw x hx;simp[Lit.wf,IntKind.min,IntKind.max,IntKind.signed,IntKind.bits]at this
    omega
  unfold spec_l6Open.f;by_cases h:(l.length:Int)>2000
  · rw[if_pos h,if_pos (by omega)]
    exact⟨_,rfl,by simp;omega,fun x hx=>hb x (List.mem_of_mem_take hx)⟩
  · rw[if_neg h]
    exact⟨_,rfl,by omega,hb⟩
def Drawn (kd n:Int):Prop:=0≤kd∧kd≤5∧ -100≤n∧n≤100
theorem val_tail {b:List Int} (hb:Bytes b) (k:Nat) (p kd n:Int) (hp:0≤p) (hp':p<900000) (h:Drawn kd n):
    ∃kd' n' p',spec_l71Val.j0 (k+2) b p kd n=some (kd',n',p')∧Drawn kd' n'∧p≤p'∧p'≤p+2:=by
  obtain⟨h1,h2,h3,h4⟩:=h;simp only[spec_l71Val.j0]
  obtain⟨x,hx,x0,x1, -⟩:=pick_ok hb k p 30 hp (by omega) (by omega)
  rw[hx];simp only[Option.bind_some]
  by_cases c0:x=0
  · rw[if_pos c0]
    obtain⟨y,hy,y0,y1, -⟩:=pick_ok hb k (p+1) 3 (by omega) (by omega) (by omega)
    have y1:=y1 (by omega)
    rw[hy];simp only[Option.bind_some]
    rw[if_pos y0,if_pos (by simp;omega)]
    have:=rd_all (P:=fun x=> -100≤x∧x≤100) (l:=[-100,100,10]) (by simp) (i:=y) (by simp;omega)
    exact⟨_,_,_,rfl,⟨h1,h2,this.1,this.2⟩,by omega,by omega⟩
  rw[if_neg c0];by_cases c1:x=1
  · rw[if_pos c1]
    obtain⟨y,hy,y0,y1, -⟩:=pick_ok hb k (p+1) 6 (by omega) (by omega) (by omega)
    have y1:=y1 (by omega)
    rw[hy];simp only[Option.bind_some]
    exact⟨_,_,_,rfl,⟨y0,by omega,h3,h4⟩,by omega,by omega⟩
  rw[if_neg c1];exact⟨_,_,_,rfl,⟨h1,h2,h3,h4⟩,by omega,by omega⟩
theorem val_ok {b:List Int} (hb:Bytes b) (k:Nat) (p:Int) (hp:0≤p) (hp':p<800000):
    ∃kd n p',spec_l71Val.f (k+2) b p=some (kd,n,p')∧Drawn kd n∧p≤p'∧p'≤p+4:=by
  unfold spec_l71Val.f;obtain⟨x,hx,x0,x1, -⟩:=pick_ok hb (k+1) p 4 hp (by omega) (by omega)
  have x1:=x1 (by omega)
  rw[hx];simp only[Option.bind_some]
  by_cases c1:x=1
  · rw[if_pos c1]
    obtain⟨y,hy,y0,y1, -⟩:=pick_ok hb (k+1) (p+1) 9 (by omega) (by omega) (by omega)
    have y1:=y1 (by omega)
    rw[hy];simp only[Option.bind_some]
    rw[if_pos y0,if_pos (by simp;omega)]
    have:=rd_all (P:=fun x=> -100≤x∧x≤100) (l:=[0,1,2,3, -1,7,50,99, -99]) (by simp) (i:=y) (by simp;omega)
    obtain⟨kd,n,p',h,hd,l1,l2⟩:=val_tail hb k (p+1+1) x _ (by omega) (by omega) ⟨x0,by omega,this.1,this.2⟩
    exact⟨kd,n,p',h,hd,by omega,by omega⟩
  rw[if_neg c1];by_cases c2:x=2
  · rw[if_pos c2]
    obtain⟨y,hy,y0,y1, -⟩:=pick_ok hb (k+1) (p+1) 5 (by omega) (by omega) (by omega)
    have y1:=y1 (by omega)
    rw[hy];simp only[Option.bind_some]
    obtain⟨kd,n,p',h,hd,l1,l2⟩:=val_tail hb k (p+1+1) x y (by omega) (by omega) ⟨x0,by omega,by omega,by omega⟩
    exact⟨kd,n,p',h,hd,by omega,by omega⟩
  rw[if_neg c2];by_cases c3:x=3
  · rw[if_pos c3]
    obtain⟨y,hy,y0,y1, -⟩:=pick_ok hb (k+1) (p+1) 4 (by omega) (by omega) (by omega)
    have y1:=y1 (by omega)
    rw[hy];simp only[Option.bind_some]
    rw[wr64 (x:=1+y) (by omega) (by omega)]
    obtain⟨kd,n,p',h,hd,l1,l2⟩:=val_tail hb k (p+1+1) x (1+y) (by omega) (by omega) ⟨x0,by omega,by omega,by omega⟩
    exact⟨kd,n,p',h,hd,by omega,by omega⟩
  rw[if_neg c3];obtain⟨kd,n,p',h,hd,l1,l2⟩:=val_tail hb k (p+1) x 0 (by omega) (by omega) ⟨x0,by omega,by omega,by omega⟩
  exact⟨kd,n,p',h,hd,by omega,by omega⟩
theorem good_ok {b:List Int} (hb:Bytes b) (k:Nat) (p:Int) (hp:0≤p) (hp':p<800000):
    ∃kd n p',spec_l71Good.f (k+2) b p=some (kd,n,p')∧Drawn kd n∧okP kd n∧p≤p'∧p'≤p+4:=by
  unfold spec_l71Good.f;obtain⟨kd,n,p',h,hd,p0,p1⟩:=val_ok hb k p hp hp';rw[h];simp only[Option.bind_some]
  rw[sok_eq];simp only[Option.bind_some]
  by_cases c:okB kd n=true
  · rw[if_pos c];exact⟨_,_,_,rfl,hd,okB_true.1 c,p0,p1⟩
  · rw[if_neg c];exact⟨1,1,_,rfl,⟨by omega,by omega,by omega,by omega⟩,by unfold okP;omega,p0,p1⟩
theorem leO_add {α:Type} {f:Nat→Option α} (h: ∀k,LeO (f k) (f (k+1))) {a:α} {m:Nat} (e:f m=some a): ∀k,f (k+m)=some a
  |0=>by rw[Nat.zero_add];exact e
  |k+1=>by rw[Nat.add_right_comm];exact h _ _ (leO_add h e k)
theorem form_ge (k:Nat) (x:Int):spec_l2Form.f (k+3) x=some (formL x):=leO_add (f:=fun k=>spec_l2Form.f k x) (fun k=>spec_l2Form.mono x k) (form_eq x) k
def DrawnOp (k r s t vk vn:Int):Prop:=0≤k∧k≤17∧ -1≤r∧r≤6∧ -1≤s∧s≤6∧0≤t∧t≤16∧Drawn vk vn
def GoodOp (places k r s t vk vn:Int):Prop:=(1≤k∧k≤14)∧valP k vk vn∧(r=0∨(hasR k=true∧0≤r∧r≤3))∧(s=0∨(hasS k=true∧0≤s∧s≤3))∧
    (t=0∨(hasT k=true∧0≤t∧t<places))∧(hasV k=true∨(vk=0∧vn=0))∧Drawn vk vn
theorem op_ok {b:List Int} (hb:Bytes b) (k:Nat) (p n:Int) (hp:0≤p) (hp':p<700000) (hn:1≤n) (hn':n≤16):
    ∃x r s t vk vn p',spec_l71Op.f (k+7) b p n=some (x,r,s,t,vk,vn,p')∧GoodOp n x r s t vk vn∧p≤p'∧p'≤p+12:=by
  unfold spec_l71Op.f;obtain⟨x0,hx,x00,x01, -⟩:=pick_ok hb (k+6) p 14 hp (by omega) (by omega)
  have x01:=x01 (by omega)
  rw[hx];simp only[Option.bind_some]
  rw[wr64 (x:=1+x0) (by omega) (by omega),show k+7=(k+4)+3 from rfl,form_ge];simp only[Option.bind_some]
  obtain⟨x,hxx⟩: ∃x,1+x0=x:=⟨_,rfl⟩;rw[hxx];have hk:1≤x∧x≤14:=by omega
  have hF:formL x=[hasR x,hasS x,hasT x,hasV x]:=if_pos hk;rw[hF,if_pos (by simp)]
  have hR: ∃r p1,(if rdOf false [hasR x,hasS x,hasT x,hasV x] 0=true then(spec_l6Rd_pick.f (k+7) b (p+1) 4).bind fun bt209=>spec_l71Op.j0 (k+7) n [hasR x,hasS x,hasT x,hasV x] b bt209.2 x bt209.1 0 0 0 0 else spec_l71Op.j0 (k+7) n [hasR x,hasS x,hasT x,hasV x] b (p+1) x 0 0 0 0 0)=spec_l71Op.j0 (k+7) n [hasR x,hasS x,hasT x,hasV x] b p1 x r 0 0 0 0∧(r=0∨(hasR x=true∧0≤r∧r≤3))∧p+1≤p1∧p1≤p+2:=by
    have e:rdOf false [hasR x,hasS x,hasT x,hasV x] 0=hasR x:=rfl;rw[e];by_cases c:hasR x=true
    · rw[if_pos c]
      obtain⟨y,hy,y0,y1, -⟩:=pick_ok hb (k+6) (p+1) 4 (by omega) (by omega) (by omega)
      have y1:=y1 (by omega)
      rw[hy];simp only[Option.bind_some]
      exact⟨y,p+1+1,rfl,.inr ⟨c,y0,by omega⟩,by omega,by omega⟩
    · rw[if_neg c];exact⟨0,p+1,rfl,.inl rfl,by omega,by omega⟩
  obtain⟨r,p1,e1,hr,b10,b11⟩:=hR;rw[show k+4+3=k+7 from rfl,e1]
  rw[show k+7=(k+6)+1 from rfl,spec_l71Op.j0]
  rw[if_pos (by simp)]
  have hS: ∃s p2,(if rdOf false [hasR x,hasS x,hasT x,hasV x] 1=true then(spec_l6Rd_pick.f (k+6) b p1 4).bind fun bt209=>spec_l71Op.j1 (k+6) n [hasR x,hasS x,hasT x,hasV x] b bt209.2 x r bt209.1 0 0 0 else spec_l71Op.j1 (k+6) n [hasR x,hasS x,hasT x,hasV x] b p1 x r 0 0 0 0)=spec_l71Op.j1 (k+6) n [hasR x,hasS x,hasT x,hasV x] b p2 x r s 0 0 0∧(s=0∨(hasS x=true∧0≤s∧s≤3))∧p1≤p2∧p2≤p1+1:=by
    have e:rdOf false [hasR x,hasS x,hasT x,hasV x] 1=hasS x:=rfl;rw[e];by_cases c:hasS x=true
    · rw[if_pos c]
      obtain⟨y,hy,y0,y1, -⟩:=pick_ok hb (k+5) p1 4 (by omega) (by omega) (by omega)
      have y1:=y1 (by omega)
      rw[hy];simp only[Option.bind_some]
      exact⟨y,p1+1,rfl,.inr ⟨c,y0,by omega⟩,by omega,by omega⟩
    · rw[if_neg c];exact⟨0,p1,rfl,.inl rfl,by omega,by omega⟩
  obtain⟨s,p2,e2,hs,b20,b21⟩:=hS;rw[e2,show k+6=(k+5)+1 from rfl,spec_l71Op.j1,if_pos (by simp)]
  have hT: ∃t p3,(if rdOf false [hasR x,hasS x,hasT x,hasV x] 2=true then(spec_l6Rd_pick.f (k+5) b p2 n).bind fun bt209=>spec_l71Op.j2 (k+5) [hasR x,hasS x,hasT x,hasV x] b bt209.2 x r s bt209.1 0 0 else spec_l71Op.j2 (k+5) [hasR x,hasS x,hasT x,hasV x] b p2 x r s 0 0 0)=spec_l71Op.j2 (k+5) [hasR x,hasS x,hasT x,hasV x] b p3 x r s t 0 0∧(t=0∨(hasT x=true∧0≤t∧t<n))∧p2≤p3∧p3≤p2+1:=by
    have e:rdOf false [hasR x,hasS x,hasT x,hasV x] 2=hasT x:=rfl;rw[e];by_cases c:hasT x=true
    · rw[if_pos c]
      obtain⟨y,hy,y0,y1, -⟩:=pick_ok hb (k+4) p2 n (by omega) (by omega) (by omega)
      have y1:=y1 (by omega)
      rw[hy];simp only[Option.bind_some]
      exact⟨y,p2+1,rfl,.inr ⟨c,y0,by omega⟩,by omega,by omega⟩
    · rw[if_neg c];exact⟨0,p2,rfl,.inl rfl,by omega,by omega⟩
  obtain⟨t,p3,e3,ht,b30,b31⟩:=hT;rw[e3,show k+5=(k+4)+1 from rfl,spec_l71Op.j2,if_pos (by simp)]
  have hV: ∃vk vn p4,(if rdOf false [hasR x,hasS x,hasT x,hasV x] 3=true then(spec_l71Good.f (k+4) b p3).bind fun bt218=>spec_l71Op.j3 (k+4) b bt218.2.2 x r s t bt218.1 bt218.2.1 else spec_l71Op.j3 (k+4) b p3 x r s t 0 0)=spec_l71Op.j3 (k+4) b p4 x r s t vk vn∧okP vk vn∧Drawn vk vn∧(hasV x=true∨(vk=0∧vn=0))∧p3≤p4∧p4≤p3+4:=by
    have e:rdOf false [hasR x,hasS x,hasT x,hasV x] 3=hasV x:=rfl;rw[e];by_cases c:hasV x=true
    · rw[if_pos c]
      obtain⟨kd,v,p',h,hd,ho,q0,q1⟩:=good_ok hb (k+2) p3 (by omega) (by omega)
      rw[h];simp only[Option.bind_some]
      exact⟨kd,v,p',rfl,ho,hd,.inl c,q0,q1⟩
    · rw[if_neg c];exact⟨0,0,p3,rfl,by unfold okP;omega,⟨by omega,by omega,by omega,by omega⟩,.inr ⟨rfl,rfl⟩,by omega,by omega⟩
  obtain⟨vk,vn,p4,e4,ho,hd,hv,b40,b41⟩:=hV;rw[e4,show k+4=(k+3)+1 from rfl,spec_l71Op.j3]
  by_cases c8:x=8
  · rw[if_pos c8]
    obtain⟨y,hy,y0,y1, -⟩:=pick_ok hb (k+2) p4 3 (by omega) (by omega) (by omega)
    have y1:=y1 (by omega)
    rw[hy];simp only[Option.bind_some]
    rw[wr64 (x:=1+y) (by omega) (by omega)]
    exact⟨x,r,s,t,1,1+y,p4+1,rfl,⟨hk,⟨by unfold okP;omega,by omega,by omega⟩,hr,hs,ht,.inl (by subst c8;rfl),by omega,by omega,by omega,by omega⟩,by omega,by omega⟩
  rw[if_neg c8];by_cases c13:x=13
  · rw[if_pos c13]
    obtain⟨y,hy,y0,y1, -⟩:=pick_ok hb (k+2) p4 2 (by omega) (by omega) (by omega)
    have y1:=y1 (by omega)
    rw[hy];simp only[Option.bind_some]
    exact⟨x,r,s,t,1,y,p4+1,rfl,⟨hk,⟨by unfold okP;omega,by omega,by omega⟩,hr,hs,ht,.inl (by subst c13;rfl),by omega,by omega,by omega,by omega⟩,by omega,by omega⟩
  rw[if_neg c13];exact⟨x,r,s,t,vk,vn,p4,rfl,⟨hk,⟨ho,by omega,by omega⟩,hr,hs,ht,hv,hd⟩,by omega,by omega⟩
theorem GoodOp.drawn {n k r s t vk vn:Int} (hn:n≤16) (h:GoodOp n k r s t vk vn):DrawnOp k r s t vk vn:=by
  obtain⟨a,b,c,d,e,f,g⟩:=h;exact⟨by omega,by omega,by omega,by omega,by omega,by omega,by omega,by omega,g⟩
theorem GoodOp.op {n k r s t vk vn:Int} (hn:n≤16) (h:GoodOp n k r s t vk vn):opP k r s t vk vn:=by
  obtain⟨a,b,c,d,e,f,g⟩:=h;refine⟨a,b,c,d,e.imp id (fun h=>⟨h.1,h.2.1,by omega⟩),f⟩
theorem any_ok {b:List Int} (hb:Bytes b) (k:Nat) (p:Int) (hp:0≤p) (hp':p<600000):
    ∃x r s t vk vn p',spec_l71AnyOp.f (k+7) b p=some (x,r,s,t,vk,vn,p')∧DrawnOp x r s t vk vn∧p≤p'∧p'≤p+20:=by
  unfold spec_l71AnyOp.f;obtain⟨x,r,s,t,vk,vn,p1,h,hg,q0,q1⟩:=op_ok hb k p 16 hp (by omega) (by omega) (by omega)
  obtain⟨d1,d2,d3,d4,d5,d6,d7,d8,hd⟩:=hg.drawn (by omega)
  rw[h];simp only[Option.bind_some]
  obtain⟨y,hy,y0,y1, -⟩:=pick_ok hb (k+6) p1 20 (by omega) (by omega) (by omega)
  rw[hy];simp only[Option.bind_some]
  by_cases c0:y=0
  · rw[if_pos c0]
    obtain⟨z,hz,z0,z1, -⟩:=pick_ok hb (k+6) (p1+1) 17 (by omega) (by omega) (by omega)
    have z1:=z1 (by omega)
    rw[hz];simp only[Option.bind_some]
    exact⟨_,_,_,_,_,_,_,rfl,⟨z0,by omega,d3,d4,d5,d6,d7,d8,hd⟩,by omega,by omega⟩
  rw[if_neg c0];by_cases c1:y=1
  · rw[if_pos c1]
    obtain⟨z,hz,z0,z1, -⟩:=pick_ok hb (k+6) (p1+1) 6 (by omega) (by omega) (by omega)
    have z1:=z1 (by omega)
    rw[hz];simp only[Option.bind_some]
    rw[wr64 (x:=z-1) (by omega) (by omega)]
    exact⟨_,_,_,_,_,_,_,rfl,⟨d1,d2,by omega,by omega,d5,d6,d7,d8,hd⟩,by omega,by omega⟩
  rw[if_neg c1];by_cases c2:y=2
  · rw[if_pos c2]
    obtain⟨kd,v,p',h,hd,q0,q1⟩:=val_ok hb (k+5) (p1+1) (by omega) (by omega)
    rw[h];simp only[Option.bind_some]
    exact⟨_,_,_,_,_,_,_,rfl,⟨d1,d2,d3,d4,d5,d6,d7,d8,hd⟩,by omega,by omega⟩
  rw[if_neg c2];exact⟨_,_,_,_,_,_,_,rfl,⟨d1,d2,d3,d4,d5,d6,d7,d8,hd⟩,by omega,by omega⟩
def SomeOp (w:World) (e:Ending) (w':World):Prop:= ∃a b c d f g:Int,e= .returned (.agg #[.int .i64 a,.int .i64 b,.int .i64 c,.int .i64 d,.int .i64 f,.int .i64 g])∧DrawnOp a b c d f g∧Below w.heap.size w w'
theorem drawOpText_w (A0:Option Addr) (c0:Nat) (l0:List Int) (w:World) (hr0:Kd.C (Kd.int .u8) w A0 l0.length l0) (hc0:l0.length≤c0) (hw: ∀x∈l0,(Lit.int .u8 x).wf=true):
    Calls Tryd.prog 25 #[.slice A0 l0.length c0] w (SomeOp w):=by
  obtain⟨b,hb,hB⟩:=open_ok hw;obtain⟨x,r,s,t,vk,vn,p',h,hd, -, -⟩:=any_ok hB 0 0 (by omega) (by omega)
  have:spec_DrawOpText.f 7 l0=some (x,r,s,t,vk,vn):=by
    unfold spec_DrawOpText.f;rw[hb];simp only[Option.bind_some];rw[h];rfl
  exact(spec_DrawOpText.calls 7 A0 c0 l0 _ _ _ _ _ _ w hr0 hc0 this).mono fun e w' ⟨h1,h2⟩=>⟨x,r,s,t,vk,vn,h1,hd,h2⟩
end Go.Proofs.YtmklpbmlgjkbiaaDoor.PS
end
