/- What the rows of VS rest on, part 2. -/
import Derived.Test.YtmklpbmlgjkbiaaDoorProg
import Derived.Laws.StructEq
import Derived.Deep.RegionWith
import Derived.Lib.Bytealg
import Derived.Shelf.Strings.Search3
import Derived.WalkSpells
import Derived.Shelf.Strings.Builder1
import Derived.Shelf.Utf8.RuneCount
import Derived.Shelf.Strconv.Atoi
import Derived.Shelf.Strconv.Itoa0
import Derived.Shelf.Strconv.Itoa1
import Derived.Shelf.LaysM
import Derived.Shelf.Strconv.Itoa2
import Derived.Shelf.Strconv.Itoa3
import Derived.Shelf.Strconv.AtoiErrFast
import Derived.Shelf.Strconv.ParseIntEmpty
import Derived.Shelf.Strconv.AtoiFail
import Derived.Shelf.Strconv.Clone
import Derived.Shelf.Strconv.SyntaxError
import Derived.Shelf.LaysC
import Derived.Shelf.Strconv.ToError
import Derived.Shelf.Strconv.Lower
import Derived.Shelf.Strconv.ParseUint10
import Derived.Shelf.Strconv.ParseUint10Empty
import Derived.Shelf.Strconv.ParseUint10Any
import Derived.Shelf.Strconv.ParseInt10
import Derived.Shelf.Strconv.AtoiLong
import Derived.Shelf.Strconv.AtoiInnerAll
import Derived.Shelf.Strconv.RangeError
import Derived.Shelf.Strconv.ToErrorRange
import Derived.Shelf.Strconv.AtoiAll
import Derived.Shelf.Strconv.ErrVarAll
import Derived.Shelf.Strings.Search1
import Derived.Shelf.Strings.Search2
import Derived.Shelf.Strings.Count
import Derived.Shelf.Strings.Shaped
import Derived.Shelf.Strings.Split
import Derived.Shelf.Strings.SplitShaped
import Derived.Shelf.Unicode.Decode
import Derived.Shelf.Strings.RuneCount
import Derived.Shelf.Strings.Explode
import Derived.Shelf.Unicode.DecodeSlow
import Derived.Shelf.Unicode.DecodeAny
import Derived.WalkSmall
import Derived.Lib.AppendIntMem
import Derived.RegionTactic
import Derived.Lib.AtoiErrMem
import Derived.Test.YtmklpbmlgjkbiaaDoorQVS0
set_option linter.unusedVariables false
set_option linter.unusedSimpArgs false
set_option maxHeartbeats 8000000
set_option maxRecDepth 100000
section
namespace Go.Proofs.YtmklpbmlgjkbiaaDoor.PS
open Go.RowKit Go.Proofs.YtmklpbmlgjkbiaaDoorW.PrintWords Go.Proofs.YtmklpbmlgjkbiaaDoorW.PrintLast Go.Proofs.YtmklpbmlgjkbiaaDoorW.PrintMore
attribute [local go_sem] max2_int min2_int max_two min_two max_three min_three max_four min_four   -- for this text's walks alone
mutual
def spec_l1Dec.j0:Nat→ByteArray→Int→Bool→Option (Int×Bool)
  |0,_,_,_=>none
  |k+1,x0,x4,x14=>if x14=true then(if 1≤(x0.size:Int)then(spec_l1Dec.j1 k (x0.extract 1 x0.size) (-1))else(none))else(spec_l1Dec.j1 k x0 x4)
def spec_l1Dec.j1:Nat→ByteArray→Int→Option (Int×Bool)
  |0,_,_=>none
  |k+1,x0,x4=>(spec_l6In.f (x0.size:Int) 1 2).bind fun t295=>(if t295=true then(spec_l1Dec.l0 k x0 x4 0 0)else(some (0,false)))
def spec_l1Dec.l0:Nat→ByteArray→Int→Int→Int→Option (Int×Bool)
  |0,_,_,_,_=>none
  |k+1,x0,x4,x5,x6=>if x6<(x0.size:Int)then(if 0≤x6 then(if(bt x0 x6)<48 then(spec_l1Dec.j3 k x0 x4 x5 x6 true)else(spec_l1Dec.j3 k x0 x4 x5 x6 (decide ((bt x0 x6)>57))))else(none))else(some (wrap64 (x4*x5),true))
def spec_l1Dec.j3:Nat→ByteArray→Int→Int→Int→Bool→Option (Int×Bool)
  |0,_,_,_,_,_=>none
  |k+1,x0,x4,x5,x6,x36=>if x36=true then(some (0,false))else(if 0≤x6 then(if x6<(x0.size:Int)then(spec_l1Dec.l0 k x0 x4 (wrap64 ((wrap64 (10*x5))+(((bt x0 x6)-48)%256))) (wrap64 (x6+1)))else(none))else(none))
end
def spec_l1Dec.f (k:Nat) (a0:ByteArray):Option (Int×Bool):=if(a0.size:Int)>1 then(if 0<(a0.size:Int)then(spec_l1Dec.j0 k a0 1 ((bt a0 0)==45))else(none))else(spec_l1Dec.j0 k a0 1 false)
theorem spec_l1Dec.mono_l: ∀k,(∀y0 y1 y2,LeO (spec_l1Dec.j0 k y0 y1 y2) (spec_l1Dec.j0 (k+1) y0 y1 y2))∧(∀y0 y1,LeO (spec_l1Dec.j1 k y0 y1) (spec_l1Dec.j1 (k+1) y0 y1))∧(∀y0 y1 y2 y3,LeO (spec_l1Dec.l0 k y0 y1 y2 y3) (spec_l1Dec.l0 (k+1) y0 y1 y2 y3))∧(∀y0 y1 y2 y3 y4,LeO (spec_l1Dec.j3 k y0 y1 y2 y3 y4) (spec_l1Dec.j3 (k+1) y0 y1 y2 y3 y4))
  |0=>⟨fun _ _ _ r h=>by simp[spec_l1Dec.j0]at h,fun _ _ r h=>by simp[spec_l1Dec.j1]at h,fun _ _ _ _ r h=>by simp[spec_l1Dec.l0]at h,fun _ _ _ _ _ r h=>by simp[spec_l1Dec.j3]at h⟩
  |k+1=>by
    obtain⟨ih0,ih1,ih2,ih3⟩:=spec_l1Dec.mono_l k;refine⟨?_,?_,?_,?_⟩
    · intro y0 y1 y2
      unfold spec_l1Dec.j0;repeat' first
      |(with_reducible exact ih0 _ _ _)
      |(with_reducible exact ih1 _ _)
      |(with_reducible exact ih2 _ _ _ _)
      |(with_reducible exact ih3 _ _ _ _ _)
      |(with_reducible exact LeO.refl _)
      |(with_reducible exact LeO.none _)
      |(with_reducible refine LeO.ite ?_ ?_)
      |(with_reducible refine LeO.bind ?_ (fun _=> ?_))
      |exact ih0 _ _ _
      |exact ih1 _ _
      |exact ih2 _ _ _ _
      |exact ih3 _ _ _ _ _
      |exact LeO.none _
      |refine LeO.ite ?_ ?_
      |refine LeO.bind ?_ (fun _=> ?_)
    · intro y0 y1
      unfold spec_l1Dec.j1;repeat' first
      |(with_reducible exact ih0 _ _ _)
      |(with_reducible exact ih1 _ _)
      |(with_reducible exact ih2 _ _ _ _)
      |(with_reducible exact ih3 _ _ _ _ _)
      |(with_reducible exact LeO.refl _)
      |(with_reducible exact LeO.none _)
      |(with_reducible refine LeO.ite ?_ ?_)
      |(with_reducible refine LeO.bind ?_ (fun _=> ?_))
      |exact ih0 _ _ _
      |exact ih1 _ _
      |exact ih2 _ _ _ _
      |exact ih3 _ _ _ _ _
      |exact LeO.none _
      |refine LeO.ite ?_ ?_
      |refine LeO.bind ?_ (fun _=> ?_)
    · intro y0 y1 y2 y3
      unfold spec_l1Dec.l0;repeat' first
      |(with_reducible exact ih0 _ _ _)
      |(with_reducible exact ih1 _ _)
      |(with_reducible exact ih2 _ _ _ _)
      |(with_reducible exact ih3 _ _ _ _ _)
      |(with_reducible exact LeO.refl _)
      |(with_reducible exact LeO.none _)
      |(with_reducible refine LeO.ite ?_ ?_)
      |(with_reducible refine LeO.bind ?_ (fun _=> ?_))
      |exact ih0 _ _ _
      |exact ih1 _ _
      |exact ih2 _ _ _ _
      |exact ih3 _ _ _ _ _
      |exact LeO.none _
      |refine LeO.ite ?_ ?_
      |refine LeO.bind ?_ (fun _=> ?_)
    · intro y0 y1 y2 y3 y4
      unfold spec_l1Dec.j3;repeat' first
      |(with_reducible exact ih0 _ _ _)
      |(with_reducible exact ih1 _ _)
      |(with_reducible exact ih2 _ _ _ _)
      |(with_reducible exact ih3 _ _ _ _ _)
      |(with_reducible exact LeO.refl _)
      |(with_reducible exact LeO.none _)
      |(with_reducible refine LeO.ite ?_ ?_)
      |(with_reducible refine LeO.bind ?_ (fun _=> ?_))
      |exact ih0 _ _ _
      |exact ih1 _ _
      |exact ih2 _ _ _ _
      |exact ih3 _ _ _ _ _
      |exact LeO.none _
      |refine LeO.ite ?_ ?_
      |refine LeO.bind ?_ (fun _=> ?_)
theorem spec_l1Dec.mono: ∀a0 k,LeO (spec_l1Dec.f k a0) (spec_l1Dec.f (k+1) a0):=by
  intro a0 k;obtain⟨ih0,ih1,ih2,ih3⟩:=spec_l1Dec.mono_l k;unfold spec_l1Dec.f
  repeat' first
      |(with_reducible exact ih0 _ _ _)
      |(with_reducible exact ih1 _ _)
      |(with_reducible exact ih2 _ _ _ _)
      |(with_reducible exact ih3 _ _ _ _ _)
      |(with_reducible exact LeO.refl _)
      |(with_reducible exact LeO.none _)
      |(with_reducible refine LeO.ite ?_ ?_)
      |(with_reducible refine LeO.bind ?_ (fun _=> ?_))
      |exact ih0 _ _ _
      |exact ih1 _ _
      |exact ih2 _ _ _ _
      |exact ih3 _ _ _ _ _
      |exact LeO.none _
      |refine LeO.ite ?_ ?_
      |refine LeO.bind ?_ (fun _=> ?_)
theorem spec_l1Dec.calls (k:Nat) (a0:ByteArray) (r1:Int) (r2:Bool) (w:World) (h:spec_l1Dec.f k a0=some (r1,r2)):
    Calls Tryd.prog 57 #[.string a0] w fun e w'=>e= .returned (.tuple #[.int .i64 r1,.bool r2])∧Drawn0 w w':=by
  have H:(if(a0.size:Int)>1 then(if 0<(a0.size:Int)then(spec_l1Dec.j0 k a0 1 ((bt a0 0)==45))else(none))else(spec_l1Dec.j0 k a0 1 false))=some (r1,r2):=h
  clear h;have HC2:=Aside0.mk H;clear H;go_enter Tryd.func57,Tryd.ntmps57
  go_upto_region 2 with (fail)
  go_cut [14] (fun v14 wc=> ∃ (kq:Nat) (x14_1:Bool),v14= .bool x14_1∧Aside0 (spec_l1Dec.j0 kq a0 1 x14_1=some (r1,r2))∧Aside0 (kq≤k)∧Drawn0 w wc)
  case first=>
    have H:=HC2.out;clear HC2;by_cases c3:(a0.size:Int)>1
    · rw[if_pos c3]at H
      have c3b0:decide (1<(a0.size:Int))=true:=decide_eq_true c3;have c3b1:decide (1<a0.size)=true:=decide_eq_true (by omega)
      clear c3;(first|rw[c3b0]|(simp only[i64_w,i32_w];rw[c3b0])|skip)
      by_cases c4:0<(a0.size:Int)
      · rw[if_pos c4]at H
        have c4b0:decide (0<(a0.size:Int))=true:=decide_eq_true c4;have c4b1:decide (0<a0.size)=true:=decide_eq_true (by omega)
        clear c4;have H':=Aside0.mk H;clear H;have p5:0≤(0:Int):=(by omega)
        have q5:0<a0.size:=(by have:(0:Int)<(a0.size:Int):=of_decide_eq_true (by first|(with_reducible assumption)|assumption);omega)
        have hx5: ∀h:0<a0.size,((a0[0]'h).toNat:Int)=bt a0 0:=bt_at a0 0;clear p5;have qi5:(0<(a0.size:Int))=True:=eq_true (of_decide_eq_true (by first|(with_reducible assumption)|assumption))
        replace q5:=eq_true q5;go_wp2
        go_meet
        case rel=>exact⟨_,(((bt a0 0)==45)),(by first|rfl|(simp;done)|(simp[*];done)),H',⟨by first|omega|exact Nat.le_refl _⟩,by repeat(first|exact Drawn0.refl _|apply Drawn0.step)⟩
      · rw[if_neg c4]at H
        exact absurd H (by simp)
    · rw[if_neg c3]at H
      have c3b0:decide (1<(a0.size:Int))=false:=decide_eq_false c3;have c3b1:decide (1<a0.size)=false:=decide_eq_false (by omega)
      clear c3;(first|rw[c3b0]|(simp only[i64_w,i32_w];rw[c3b0])|skip)
      have H':=Aside0.mk H;clear H;go_wp2
      go_meet
      case rel=>exact⟨_,(false),(by first|rfl|(simp;done)|(simp[*];done)),H',⟨by first|omega|exact Nat.le_refl _⟩,by repeat(first|exact Drawn0.refl _|apply Drawn0.step)⟩
  case rest=>
    clear HC2;try clear p2
    try clear c3
    try clear c3b0
    try clear c3b1
    try clear c4
    try clear c4b0
    try clear c4b1
    try clear c5
    try clear p5
    try clear q5
    try clear hx5
    try clear qi5
    try clear p5
    try clear q5
    obtain⟨kq,x14_1,rfl,HA,HJ1,⟨mc1,rfl⟩⟩:=hcut;cases kq with
    |zero=>exact absurd HA.out (by simp[spec_l1Dec.j0])
    |succ kj1=>
      have H:=HA.out;clear HA;simp only[spec_l1Dec.j0]at H
      have HC6:=Aside0.mk H;clear H;go_upto_if 14 with (fail)
      go_cut [0,4] (fun v0 v4 wc=> ∃ (kq:Nat) (x0_5:ByteArray) (x4_5:Int),v0= .string x0_5∧v4= .int .i64 x4_5∧Aside0 (spec_l1Dec.j1 kq x0_5 x4_5=some (r1,r2))∧Aside0 (kq≤kj1)∧Drawn0 w wc)
      case first=>
        have H:=HC6.out;clear HC6;by_cases c7:x14_1=true
        · subst c7
          have H1:(if 1≤(a0.size:Int)then(spec_l1Dec.j1 kj1 (a0.extract 1 a0.size) (-1))else(none))=some (r1,r2):=by rw[if_pos rfl]at H;exact H
          clear H;have H:=H1;clear H1;by_cases c8:1≤(a0.size:Int)
          · rw[if_pos c8]at H
            have c8b0:=eq_true c8;have c8b1:decide (1≤(a0.size:Int))=true:=decide_eq_true c8;clear c8;have H':=Aside0.mk H;clear H;go_wp2
            go_meet
            case rel=>exact⟨_,(a0.extract 1 a0.size),((-1)),(by first|rfl|(simp;done)|(simp[*];done)),(by first|rfl|(simp;done)|(simp[*];done)),H',⟨by have:=HJ1.out;first|omega|exact Nat.le_refl _⟩,by repeat(first|exact Drawn0.refl _|apply Drawn0.step)⟩
          · rw[if_neg c8]at H
            exact absurd H (by simp)
        · replace c7:=Bool.eq_false_iff.mpr c7
          subst c7;have H1:(spec_l1Dec.j1 kj1 a0 1)=some (r1,r2):=by rw[if_neg (show¬(false=true) by decide)]at H;exact H
          clear H;have H:=H1;clear H1;have H':=Aside0.mk H;clear H;go_wp2
          go_meet
          case rel=>exact⟨_,(a0),(1),(by first|rfl|(simp;done)|(simp[*];done)),(by first|rfl|(simp;done)|(simp[*];done)),H',⟨by have:=HJ1.out;first|omega|exact Nat.le_refl _⟩,by repeat(first|exact Drawn0.refl _|apply Drawn0.step)⟩
      case rest=>
        clear HC6;try clear c1
        try clear p2
        try clear c3
        try clear c3b0
        try clear c3b1
        try clear c4
        try clear c4b0
        try clear c4b1
        try clear c5
        try clear p5
        try clear q5
        try clear hx5
        try clear qi5
        try clear c7
        try clear c8
        try clear c8b0
        try clear c8b1
        try clear p2
        try clear p5
        try clear q5
        obtain⟨kq,x0_5,x4_5,rfl,rfl,HA,HJ5,⟨mc5,rfl⟩⟩:=hcut;cases kq with
        |zero=>exact absurd HA.out (by simp[spec_l1Dec.j1])
        |succ kj5=>
          have H:=HA.out;clear HA;simp only[spec_l1Dec.j1]at H
          replace H:=Option.bind_eq_some_iff.mp H;obtain⟨t295,A90,H⟩:=H;replace H:(if t295=true then(spec_l1Dec.l0 kj5 x0_5 x4_5 0 0)else(some (0,false)))=some (r1,r2):=H
          have A9:=Aside0.mk A90;clear A90;by_cases c10:t295=true
          · subst c10
            have H1:(spec_l1Dec.l0 kj5 x0_5 x4_5 0 0)=some (r1,r2):=by rw[if_pos rfl]at H;exact H
            clear H;have H:=H1;clear H1;have H':=Aside0.mk H;clear H;go_wp2_with (first|((with_reducible refine gate_callee (f:=56) rfl ?_);refine goesL_ (some 19) rfl rfl Tryd.func56 (by kernel_rfl) rfl #[.int .i64 (x0_5.size:Int),.int .i64 1,.int .i64 2] rfl (by(try simp only[List.map_toArray,List.map_cons,List.map_nil]);first|done|rfl|(simp only[List.length_drop,List.length_take];rfl)) ?_;(with_reducible refine(spec_l6In.calls (x0_5.size:Int) 1 2 true _ A9.out).mono ?_);rintro e w' ⟨rfl,⟨nd,rfl⟩⟩;refine⟨_,rfl,?_⟩))
            go_loopg [5,6] kj5 (fun kq v5 v6 w'=> ∃ (x5_3:Int) (x6_3:Int),v5= .int .i64 x5_3∧v6= .int .i64 x6_3∧Aside0 (spec_l1Dec.l0 kq x0_5 x4_5 x5_3 x6_3=some (r1,r2))∧Aside0 (kq≤kj5)∧Drawn0 w w')
            case atStart=>exact⟨(0),(0),(by first|rfl|(simp;done)|(simp[*];done)),(by first|rfl|(simp;done)|(simp[*];done)),H',⟨Nat.le_refl _⟩,by repeat(first|exact Drawn0.refl _|apply Drawn0.step)⟩
            case round=>
              clear H';try clear c1
              try clear p2
              try clear c3
              try clear c3b0
              try clear c3b1
              try clear c4
              try clear c4b0
              try clear c4b1
              try clear c5
              try clear p5
              try clear q5
              try clear hx5
              try clear qi5
              try clear c7
              try clear c8
              try clear c8b0
              try clear c8b1
              try clear c10
              try clear p2
              try clear p5
              try clear q5
              obtain⟨x5_3,x6_3,rfl,rfl,HA,HK3,⟨m3,rfl⟩⟩:=hrel;cases gk with
              |zero=>exact absurd HA.out (by simp[spec_l1Dec.l0])
              |succ k3=>
                have H:=HA.out;clear HA;simp only[spec_l1Dec.l0]at H
                by_cases c11:x6_3<(x0_5.size:Int)
                · rw[if_pos c11]at H
                  have c11b0:decide (x6_3<(x0_5.size:Int))=true:=decide_eq_true c11;clear c11;have HC12:=Aside0.mk H;clear H;go_upto_region 11 with (fail)
                  go_cut [36] (fun v36 wc=> ∃ (kq:Nat) (x36_11:Bool),v36= .bool x36_11∧Aside0 (spec_l1Dec.j3 kq x0_5 x4_5 x5_3 x6_3 x36_11=some (r1,r2))∧Aside0 (kq≤k3)∧Drawn0 w wc)
                  case first=>
                    have H:=HC12.out;clear HC12;by_cases c13:0≤x6_3
                    · rw[if_pos c13]at H
                      have c13b0:decide (0≤x6_3)=true:=decide_eq_true c13;clear c13;(first|rw[c13b0]|(simp only[i64_w,i32_w];rw[c13b0])|skip)
                      by_cases c15:(bt x0_5 x6_3)<48
                      · rw[if_pos c15]at H
                        have c15b0:decide ((bt x0_5 x6_3)<48)=true:=decide_eq_true c15;clear c15;have H':=Aside0.mk H;clear H;have p14:0≤(x6_3:Int):=of_decide_eq_true (by first|(with_reducible assumption)|assumption)
                        have q14:x6_3<(x0_5.size:Int):=of_decide_eq_true (by first|(with_reducible assumption)|assumption)
                        have hx14:=bt_at x0_5 x6_3;replace p14:=eq_true p14;replace q14:=eq_true q14;go_wp2
                        go_meet
                        case rel=>exact⟨_,(true),(by first|rfl|(simp;done)|(simp[*];done)),H',⟨by have:=HJ1.out;have:=HJ5.out;have:=HK3.out;first|omega|exact Nat.le_refl _⟩,by repeat(first|exact Drawn0.refl _|apply Drawn0.step)⟩
                      · rw[if_neg c15]at H
                        have c15b0:decide ((bt x0_5 x6_3)<48)=false:=decide_eq_false c15;clear c15;have H':=Aside0.mk H;clear H;have p14:0≤(x6_3:Int):=of_decide_eq_true (by first|(with_reducible assumption)|assumption)
                        have q14:x6_3<(x0_5.size:Int):=of_decide_eq_true (by first|(with_reducible assumption)|assumption)
                        have hx14:=bt_at x0_5 x6_3;replace p14:=eq_true p14;replace q14:=eq_true q14;have p16:0≤(x6_3:Int):=of_decide_eq_true (by first|(with_reducible assumption)|assumption)
                        have q16:x6_3<(x0_5.size:Int):=of_decide_eq_true (by first|(with_reducible assumption)|assumption)
                        have hx16:=bt_at x0_5 x6_3;replace p16:=eq_true p16;replace q16:=eq_true q16;go_wp2
                        go_meet
                        case rel=>exact⟨_,(decide ((bt x0_5 x6_3)>57)),(by first|rfl|(simp;done)|(simp[*];done)),H',⟨by have:=HJ1.out;have:=HJ5.out;have:=HK3.out;first|omega|exact Nat.le_refl _⟩,by repeat(first|exact Drawn0.refl _|apply Drawn0.step)⟩
                    · rw[if_neg c13]at H
                      exact absurd H (by simp)
                  case rest=>
                    clear HC12;try clear c1
                    try clear p1
                    try clear q1
                    try clear hx1
                    try clear p2
                    try clear c3
                    try clear c3b0
                    try clear c3b1
                    try clear c4
                    try clear c4b0
                    try clear c4b1
                    try clear c5
                    try clear p5
                    try clear q5
                    try clear hx5
                    try clear qi5
                    try clear c7
                    try clear c8
                    try clear c8b0
                    try clear c8b1
                    try clear c10
                    try clear c11
                    try clear c11b0
                    try clear c13
                    try clear c13b0
                    try clear p14
                    try clear q14
                    try clear hx14
                    try clear c15
                    try clear c15b0
                    try clear p16
                    try clear q16
                    try clear hx16
                    try clear p14
                    try clear p16
                    try clear p2
                    try clear p5
                    try clear q14
                    try clear q16
                    try clear q5
                    obtain⟨kq,x36_11,rfl,HA,HJ11,⟨mc11,rfl⟩⟩:=hcut;cases kq with
                    |zero=>exact absurd HA.out (by simp[spec_l1Dec.j3])
                    |succ kj11=>
                      have H:=HA.out;clear HA;simp only[spec_l1Dec.j3]at H
                      by_cases c17:x36_11=true
                      · subst c17
                        have H1:(some (0,false))=some (r1,r2):=by rw[if_pos rfl]at H;exact H
                        clear H;have H:=H1;clear H1;simp only[Option.some.injEq,Prod.mk.injEq]at H
                        obtain⟨rfl,rfl⟩:=H;go_wp2
                        go_ret2
                        exact⟨by first|rfl|(simp;done)|(simp[*];done),by repeat(first|exact Drawn0.refl _|apply Drawn0.step)⟩
                      · replace c17:=Bool.eq_false_iff.mpr c17
                        subst c17;have H1:(if 0≤x6_3 then(if x6_3<(x0_5.size:Int)then(spec_l1Dec.l0 kj11 x0_5 x4_5 (wrap64 ((wrap64 (10*x5_3))+(((bt x0_5 x6_3)-48)%256))) (wrap64 (x6_3+1)))else(none))else(none))=some (r1,r2):=by rw[if_neg (show¬(false=true) by decide)]at H;exact H
                        clear H;have H:=H1;clear H1;by_cases c18:0≤x6_3
                        · rw[if_pos c18]at H
                          have c18b0:decide (0≤x6_3)=true:=decide_eq_true c18;clear c18;by_cases c19:x6_3<(x0_5.size:Int)
                          · rw[if_pos c19]at H
                            have c19b0:decide (x6_3<(x0_5.size:Int))=true:=decide_eq_true c19;clear c19;have H':=Aside0.mk H;clear H;have p20:0≤(x6_3:Int):=of_decide_eq_true (by first|(with_reducible assumption)|assumption)
                            have q20:x6_3<(x0_5.size:Int):=of_decide_eq_true (by first|(with_reducible assumption)|assumption)
                            have hx20:=bt_at x0_5 x6_3;replace p20:=eq_true p20;replace q20:=eq_true q20;go_wp2
                            go_roundg kj11
                            case measure=>have:=HJ1.out;have:=HJ5.out;have:=HK3.out;have:=HJ11.out;omega
                            case rel=>exact⟨(wrap64 ((wrap64 (10*x5_3))+(((bt x0_5 x6_3)-48)%256))),(wrap64 (x6_3+1)),(by first|rfl|(simp;done)|(simp[*];done)),(by first|rfl|(simp;done)|(simp[*];done)),H',⟨by have:=HJ1.out;have:=HJ5.out;have:=HK3.out;have:=HJ11.out;omega⟩,by repeat(first|exact Drawn0.refl _|apply Drawn0.step)⟩
                          · rw[if_neg c19]at H
                            exact absurd H (by simp)
                        · rw[if_neg c18]at H
                          exact absurd H (by simp)
                · rw[if_neg c11]at H
                  have c11b0:decide (x6_3<(x0_5.size:Int))=false:=decide_eq_false c11;clear c11;simp only[Option.some.injEq,Prod.mk.injEq]at H
                  obtain⟨rfl,rfl⟩:=H;go_wp2
                  go_ret2
                  exact⟨by first|rfl|(simp;done)|(simp[*];done),by repeat(first|exact Drawn0.refl _|apply Drawn0.step)⟩
          · replace c10:=Bool.eq_false_iff.mpr c10
            subst c10;have H1:(some (0,false))=some (r1,r2):=by rw[if_neg (show¬(false=true) by decide)]at H;exact H
            clear H;have H:=H1;clear H1;simp only[Option.some.injEq,Prod.mk.injEq]at H
            obtain⟨rfl,rfl⟩:=H;go_wp2_with (first|((with_reducible refine gate_callee (f:=56) rfl ?_);refine goesL_ (some 19) rfl rfl Tryd.func56 (by kernel_rfl) rfl #[.int .i64 (x0_5.size:Int),.int .i64 1,.int .i64 2] rfl (by(try simp only[List.map_toArray,List.map_cons,List.map_nil]);first|done|rfl|(simp only[List.length_drop,List.length_take];rfl)) ?_;(with_reducible refine(spec_l6In.calls (x0_5.size:Int) 1 2 false _ A9.out).mono ?_);rintro e w' ⟨rfl,⟨nd,rfl⟩⟩;refine⟨_,rfl,?_⟩))
            go_ret2
            exact⟨by first|rfl|(simp;done)|(simp[*];done),by repeat(first|exact Drawn0.refl _|apply Drawn0.step)⟩
theorem spec_l6Dec.mono_l: ∀k,(∀y0,LeO (spec_l6Dec.f k y0) (spec_l6Dec.f (k+1) y0))
  |0=>fun _ r h=>by simp[spec_l6Dec.f]at h
  |k+1=>by
    have ih0:=spec_l6Dec.mono_l k
    · intro y0
      unfold spec_l6Dec.f;repeat' first
      |(with_reducible exact ih0 _)
      |(with_reducible exact LeO.refl _)
      |(with_reducible exact LeO.none _)
      |(with_reducible refine LeO.ite ?_ ?_)
      |(with_reducible refine LeO.bind ?_ (fun _=> ?_))
      |exact ih0 _
      |exact LeO.none _
      |refine LeO.ite ?_ ?_
      |refine LeO.bind ?_ (fun _=> ?_)
theorem spec_l6Dec.mono: ∀a0 k,LeO (spec_l6Dec.f k a0) (spec_l6Dec.f (k+1) a0):=by
  intro a0 k;have ih0:=spec_l6Dec.mono_l k;exact ih0 a0
end Go.Proofs.YtmklpbmlgjkbiaaDoor.PS
end
section
namespace Go.Proofs.YtmklpbmlgjkbiaaDoor.PS
open Go.RowKit Go.Proofs.YtmklpbmlgjkbiaaDoorW.PrintWords Go.Proofs.YtmklpbmlgjkbiaaDoorW.PrintLast Go.Proofs.YtmklpbmlgjkbiaaDoorW.PrintMore
attribute [local go_sem] max2_int min2_int max_two min_two max_three min_three max_four min_four   -- for this text's walks alone
theorem spec_ValText.mono: ∀a0 a1 k,LeO (spec_ValText.f k a0 a1) (spec_ValText.f (k+1) a0 a1):=by
  intro a0 a1 k;unfold spec_ValText.f
  repeat' first
      |(with_reducible exact spec_l6Dec.mono _ _)
      |(with_reducible exact LeO.refl _)
      |(with_reducible exact LeO.none _)
      |(with_reducible refine LeO.ite ?_ ?_)
      |(with_reducible refine LeO.bind ?_ (fun _=> ?_))
      |exact spec_l6Dec.mono _ _
      |exact LeO.none _
      |refine LeO.ite ?_ ?_
      |refine LeO.bind ?_ (fun _=> ?_)
mutual
def spec_ValRead.j0:Nat→ByteArray→Bool→Int→Int→Option (Int×Int×Bool)
  |0,_,_,_,_=>none
  |k+1,x0,x5,x316000,x316001=>if x5=true then(if x316000=0 then(spec_ValRead.j1 k true x316000 x316001)else((spec_ValText.f k x316000 x316001).bind fun t316=>(spec_ValRead.j1 k (t316.toList !=x0.toList) x316000 x316001)))else(spec_ValRead.j1 k true x316000 x316001)
def spec_ValRead.j1:Nat→Bool→Int→Int→Option (Int×Int×Bool)
  |0,_,_,_=>none
  |k+1,x46,x316000,x316001=>if x46=true then(some (0,0,false))else(some (x316000,x316001,true))
end
def spec_ValRead.f (k:Nat) (a0:ByteArray):Option (Int×Int×Bool):=if a0.toList=([110,111,110,101]:List UInt8)then(some (0,0,true))else((spec_l6In.f (a0.size:Int) 2 4).bind fun t312=>(if t312=true then(if 1≤(a0.size:Int)then((spec_l1Dec.f k (a0.extract 1 a0.size)).bind fun bt313=>(if 0<(a0.size:Int)then(if(bt a0 0)=110 then(spec_ValRead.j0 k a0 bt313.2 1 bt313.1)else(if(bt a0 0)=97 then(spec_ValRead.j0 k a0 bt313.2 2 bt313.1)else(if(bt a0 0)=114 then(spec_ValRead.j0 k a0 bt313.2 3 bt313.1)else(spec_ValRead.j0 k a0 bt313.2 0 bt313.1))))else(none)))else(none))else(some (0,0,false))))
theorem spec_ValRead.calls (k:Nat) (a0:ByteArray) (r1:Int) (r2:Int) (r3:Bool) (w:World) (h:spec_ValRead.f k a0=some (r1,r2,r3)):
    Calls Tryd.prog 29 #[.string a0] w fun e w'=>e= .returned (.tuple #[.agg #[.int .i64 r1,.int .i64 r2],.bool r3])∧Below w.heap.size w w':=by
  have hu25:=Tryd.underlying25;have HB:=Aside0.mk (Below.refl w.heap.size w);have H:(if a0.toList=([110,111,110,101]:List UInt8)then(some (0,0,true))else((spec_l6In.f (a0.size:Int) 2 4).bind fun t312=>(if t312=true then(if 1≤(a0.size:Int)then((spec_l1Dec.f k (a0.extract 1 a0.size)).bind fun bt313=>(if 0<(a0.size:Int)then(if(bt a0 0)=110 then(spec_ValRead.j0 k a0 bt313.2 1 bt313.1)else(if(bt a0 0)=97 then(spec_ValRead.j0 k a0 bt313.2 2 bt313.1)else(if(bt a0 0)=114 then(spec_ValRead.j0 k a0 bt313.2 3 bt313.1)else(spec_ValRead.j0 k a0 bt313.2 0 bt313.1))))else(none)))else(none))else(some (0,0,false)))))=some (r1,r2,r3):=h
  clear h;by_cases c2:a0.toList=([110,111,110,101]:List UInt8)
  · rw[if_pos c2]at H
    have c2b0:(a0.toList==([110,111,110,101]:List UInt8))=true:=beq_iff_eq.mpr c2;have c2b1:(a0.toList !=([110,111,110,101]:List UInt8))=false:=bne_eq_false_iff_eq.mpr c2;clear c2;simp only[Option.some.injEq,Prod.mk.injEq]at H
    obtain⟨rfl,rfl,rfl⟩:=H;go_enter Tryd.func29,Tryd.ntmps29
    go_wp2_with (first|((with_reducible refine gate_dst (N:=2) rfl ?_);refine box_event ?hg (N:=2) ?hd (cs:= #[.int .i64 0,.int .i64 0]) (t:=25) ?hr ?_;(case hd=>rfl);(case hg=>rfl);(case hr=>first|(go_simp;done)|(go_simp;rfl));intro gb311 hg w3 hbox hb;have n0_:=Aside0.mk (below_step (by repeat(first|(with_reducible first|exact HB.out|apply below_alloc|apply pw_below_drewN|apply below_drew1)|exact HB.out)) hb);have n1_:=Aside0.mk (hbox);have n2_:=Aside0.mk ((by rw[hg];exact(below_size (by repeat(first|(with_reducible first|exact HB.out|apply below_alloc|apply pw_below_drewN|apply below_drew1)|exact HB.out))):w.heap.size≤gb311));have n3_:=Aside0.mk ((by rw[hg];exact(below_size (by repeat(first|(with_reducible first|exact HB.out|apply below_alloc|apply pw_below_drewN|apply below_drew1)|exact HB.out))):w.heap.size≤gb311));clear HB;have HB:=n0_;have BK311:=n1_;have GW311:=n2_;have GE311:=n3_;clear n0_ n1_ n2_ n3_;clear hb hbox hg;have hcz4_0:w3.cell? ⟨gb311,0,none⟩=some (.int .i64 0):=(blk_cell BK311.out 0).trans rfl;have hcz4_1:w3.cell? ⟨gb311,1,none⟩=some (.int .i64 0):=(blk_cell BK311.out 1).trans rfl;have hfz4_0:=blk_frozen BK311.out 0;have hfz4_1:=blk_frozen BK311.out 1))
    refine bodyPost_ret (results_ct rfl _ _ gb311 25 #[.int .i64 0,.int .i64 0] (0,0) _ rfl (by(with_reducible repeat(first|refine blk_drewN ?_ _|refine blk_drew ?_|refine blk_alloc ?_ _));refine blk_put (cs:= #[.int .i64 0,.int .i64 0]) ?_ 1 _ rfl;(with_reducible repeat(first|refine blk_drewN ?_ _|refine blk_drew ?_|refine blk_alloc ?_ _));refine blk_put (cs:= #[.int .i64 0,.int .i64 0]) ?_ 0 _ rfl;(with_reducible repeat(first|refine blk_drewN ?_ _|refine blk_drew ?_|refine blk_alloc ?_ _));exact BK311.out) Tryd.underlying25 rfl (by kernel_rfl)) rfl ?_
    exact⟨by first|rfl|(simp[errW_none,errW_some]<;>rfl)|(simp[*,errW_none,errW_some]<;>rfl),by repeat(first|(with_reducible first|exact HB.out|apply below_alloc|apply pw_below_drewN|apply below_drew1|refine below_set ?_ GE311.out)|exact HB.out)⟩
  · rw[if_neg c2]at H
    have c2b0:(a0.toList==([110,111,110,101]:List UInt8))=false:=beq_eq_false_iff_ne.mpr c2;have c2b1:(a0.toList !=([110,111,110,101]:List UInt8))=true:=bne_iff_ne.mpr c2;replace H:=Option.bind_eq_some_iff.mp H;obtain⟨t312,A50,H⟩:=H;replace H:(if t312=true then(if 1≤(a0.size:Int)then((spec_l1Dec.f k (a0.extract 1 a0.size)).bind fun bt313=>(if 0<(a0.size:Int)then(if(bt a0 0)=110 then(spec_ValRead.j0 k a0 bt313.2 1 bt313.1)else(if(bt a0 0)=97 then(spec_ValRead.j0 k a0 bt313.2 2 bt313.1)else(if(bt a0 0)=114 then(spec_ValRead.j0 k a0 bt313.2 3 bt313.1)else(spec_ValRead.j0 k a0 bt313.2 0 bt313.1))))else(none)))else(none))else(some (0,0,false)))=some (r1,r2,r3):=H
    have A5:=Aside0.mk A50;clear A50;by_cases c6:t312=true
    · subst c6
      have H1:(if 1≤(a0.size:Int)then((spec_l1Dec.f k (a0.extract 1 a0.size)).bind fun bt313=>(if 0<(a0.size:Int)then(if(bt a0 0)=110 then(spec_ValRead.j0 k a0 bt313.2 1 bt313.1)else(if(bt a0 0)=97 then(spec_ValRead.j0 k a0 bt313.2 2 bt313.1)else(if(bt a0 0)=114 then(spec_ValRead.j0 k a0 bt313.2 3 bt313.1)else(spec_ValRead.j0 k a0 bt313.2 0 bt313.1))))else(none)))else(none))=some (r1,r2,r3):=by rw[if_pos rfl]at H;exact H
      clear H;have H:=H1;clear H1;by_cases c7:1≤(a0.size:Int)
      · rw[if_pos c7]at H
        have c7b0:=eq_true c7;have c7b1:decide (1≤(a0.size:Int))=true:=decide_eq_true c7;clear c7;replace H:=Option.bind_eq_some_iff.mp H;obtain⟨⟨t313,t314⟩,A80,H⟩:=H;replace H:(if 0<(a0.size:Int)then(if(bt a0 0)=110 then(spec_ValRead.j0 k a0 t314 1 t313)else(if(bt a0 0)=97 then(spec_ValRead.j0 k a0 t314 2 t313)else(if(bt a0 0)=114 then(spec_ValRead.j0 k a0 t314 3 t313)else(spec_ValRead.j0 k a0 t314 0 t313))))else(none))=some (r1,r2,r3):=H
        have A8:=Aside0.mk A80;clear A80;by_cases c9:0<(a0.size:Int)
        · rw[if_pos c9]at H
          have c9b0:decide (0<(a0.size:Int))=true:=decide_eq_true c9;have c9b1:decide (0<a0.size)=true:=decide_eq_true (by omega)
          clear c9;have HC11:=Aside0.mk H;clear H;go_enter Tryd.func29,Tryd.ntmps29
          go_upto_block 0 with (first|((with_reducible refine gate_dst (N:=2) rfl ?_);refine box_event ?hg (N:=2) ?hd (cs:= #[.int .i64 0,.int .i64 0]) (t:=25) ?hr ?_;(case hd=>rfl);(case hg=>rfl);(case hr=>first|(go_simp;done)|(go_simp;rfl));intro gb311 hg w12 hbox hb;have n0_:=Aside0.mk (below_step (by repeat(first|(with_reducible first|exact HB.out|apply below_alloc|apply pw_below_drewN|apply below_drew1)|exact HB.out)) hb);have n1_:=Aside0.mk (hbox);have n2_:=Aside0.mk ((by rw[hg];exact(below_size (by repeat(first|(with_reducible first|exact HB.out|apply below_alloc|apply pw_below_drewN|apply below_drew1)|exact HB.out))):w.heap.size≤gb311));have n3_:=Aside0.mk ((by rw[hg];exact(below_size (by repeat(first|(with_reducible first|exact HB.out|apply below_alloc|apply pw_below_drewN|apply below_drew1)|exact HB.out))):w.heap.size≤gb311));clear HB;have HB:=n0_;have BK311:=n1_;have GW311:=n2_;have GE311:=n3_;clear n0_ n1_ n2_ n3_;clear hb hbox hg)|((with_reducible refine gate_callee (f:=56) rfl ?_);refine goesL_ (some 12) rfl rfl Tryd.func56 (by kernel_rfl) rfl #[.int .i64 (a0.size:Int),.int .i64 2,.int .i64 4] rfl (by(try simp only[List.map_toArray,List.map_cons,List.map_nil]);first|done|rfl|(simp only[List.length_drop,List.length_take];rfl)) ?_;(with_reducible refine(spec_l6In.calls (a0.size:Int) 2 4 true _ A5.out).mono ?_);rintro e w' ⟨rfl,⟨nd,rfl⟩⟩;refine⟨_,rfl,?_⟩;(try(rw[drewN_self w12];generalize hq_:World.drewN w12 _=w12;have n0_:Aside0 (w12.heap[gb311]?=some (.cells #[.int .i64 0,.int .i64 0] 25 (0,0))):=⟨by rw[←hq_];exact(by(with_reducible repeat(first|refine blk_drewN ?_ _|refine blk_drew ?_|refine blk_alloc ?_ _));exact BK311.out)⟩;have n1_:Aside0 (Below w.heap.size w w12):=⟨by rw[←hq_];exact(by repeat(first|(with_reducible first|exact HB.out|apply below_alloc|apply pw_below_drewN|apply below_drew1|refine below_set ?_ GE311.out)|exact HB.out))⟩;clear BK311 HB hq_;have BK311:=n0_;have HB:=n1_;clear n0_ n1_)))|((with_reducible refine gate_callee (f:=57) rfl ?_);refine goesL_ (some 18) rfl rfl Tryd.func57 (by kernel_rfl) rfl #[.string (a0.extract 1 a0.size)] rfl (by(try simp only[List.map_toArray,List.map_cons,List.map_nil]);first|done|rfl|(simp only[List.length_drop,List.length_take];rfl)) ?_;(with_reducible refine(spec_l1Dec.calls k (a0.extract 1 a0.size) t313 t314 _ A8.out).mono ?_);rintro e w' ⟨rfl,⟨nd,rfl⟩⟩;refine⟨_,rfl,?_⟩;(try(rw[drewN_self w12];generalize hq_:World.drewN w12 _=w12;have n0_:Aside0 (w12.heap[gb311]?=some (.cells #[.int .i64 0,.int .i64 0] 25 (0,0))):=⟨by rw[←hq_];exact(by(with_reducible repeat(first|refine blk_drewN ?_ _|refine blk_drew ?_|refine blk_alloc ?_ _));exact BK311.out)⟩;have n1_:Aside0 (Below w.heap.size w w12):=⟨by rw[←hq_];exact(by repeat(first|(with_reducible first|exact HB.out|apply below_alloc|apply pw_below_drewN|apply below_drew1|refine below_set ?_ GE311.out)|exact HB.out))⟩;clear BK311 HB hq_;have BK311:=n0_;have HB:=n1_;clear n0_ n1_)))|((with_reducible refine gate_dst (N:=6) rfl ?_);refine box_event ?hg (N:=6) ?hd (cs:= #[.int .i64 0,.int .i64 0]) (t:=25) ?hr ?_;(case hd=>rfl);(case hg=>rfl);(case hr=>first|(go_simp;done)|(go_simp;rfl));intro gb315 hg w13 hbox hb;have n0_:=Aside0.mk (blk_below (g:=gb311) (o:=.cells #[.int .i64 0,.int .i64 0] 25 (0,0)) (by(with_reducible repeat(first|refine blk_drewN ?_ _|refine blk_drew ?_|refine blk_alloc ?_ _));exact BK311.out) hb);have n1_:=Aside0.mk (below_step (by repeat(first|(with_reducible first|exact HB.out|apply below_alloc|apply pw_below_drewN|apply below_drew1|refine below_set ?_ GE311.out)|exact HB.out)) hb);have n2_:=Aside0.mk (hbox);have n3_:=Aside0.mk ((by rw[hg];exact(below_size (by repeat(first|(with_reducible first|exact HB.out|apply below_alloc|apply pw_below_drewN|apply below_drew1|refine below_set ?_ GE311.out)|exact HB.out))):w.heap.size≤gb315));have n4_:=Aside0.mk ((by rw[hg];exact(below_size (by repeat(first|(with_reducible first|exact HB.out|apply below_alloc|apply pw_below_drewN|apply below_drew1|refine below_set ?_ GE311.out)|exact HB.out))):w.heap.size≤gb315));have n5_:=Aside0.mk ((by rw[hg];exact Nat.ne_of_lt (blk_lt (g:=gb311) (o:=.cells #[.int .i64 0,.int .i64 0] 25 (0,0)) (by(with_reducible repeat(first|refine blk_drewN ?_ _|refine blk_drew ?_|refine blk_alloc ?_ _));exact BK311.out)):gb311≠gb315));have n6_:=Aside0.mk ((by rw[hg];exact Nat.ne_of_gt (blk_lt (g:=gb311) (o:=.cells #[.int .i64 0,.int .i64 0] 25 (0,0)) (by(with_reducible repeat(first|refine blk_drewN ?_ _|refine blk_drew ?_|refine blk_alloc ?_ _));exact BK311.out)):gb315≠gb311));clear BK311;clear HB;have BK311:=n0_;have HB:=n1_;have BK315:=n2_;have GW315:=n3_;have GE315:=n4_;have NB311_315:=n5_;have NB315_311:=n6_;clear n0_ n1_ n2_ n3_ n4_ n5_ n6_;clear hb hbox hg;have hnb14:=NB315_311.out;have hnc14:=NB311_315.out;have hcz15_0:w13.cell? ⟨gb315,0,none⟩=some (.int .i64 0):=(blk_cell BK315.out 0).trans rfl;have hcz15_1:w13.cell? ⟨gb315,1,none⟩=some (.int .i64 0):=(blk_cell BK315.out 1).trans rfl;have hfz15_0:=blk_frozen BK315.out 0;have hfz15_1:=blk_frozen BK315.out 1;have p10:0≤(0:Int):=(by omega);have q10:0<a0.size:=(by have:(0:Int)<(a0.size:Int):=of_decide_eq_true (by first|(with_reducible assumption)|assumption);omega);have hx10: ∀h:0<a0.size,((a0[0]'h).toNat:Int)=bt a0 0:=bt_at a0 0;clear p10;have qi10:(0<(a0.size:Int))=True:=eq_true (of_decide_eq_true (by first|(with_reducible assumption)|assumption));replace q10:=eq_true q10))
          (try simp only[Act.put,List.setIfInBounds_toArray,List.set_cons_zero,List.set_cons_succ])
          go_cut [] (fun wc=> ∃ (kq:Nat) (x316000_10:Int),Aside0 (spec_ValRead.j0 kq a0 t314 x316000_10 t313=some (r1,r2,r3))∧Aside0 (kq≤k)∧Aside0 (wc.heap[gb311]?=some (.cells #[.int .i64 0,.int .i64 0] 25 (0,0)))∧Aside0 (wc.heap[gb315]?=some (.cells #[.int .i64 x316000_10,.int .i64 t313] 25 (0,0)))∧Aside0 (Below w.heap.size w wc))
          case first=>
            have H:=HC11.out;clear HC11;by_cases c16:(bt a0 0)=110
            · rw[if_pos c16]at H
              have c16b0:((bt a0 0)==110)=true:=beq_iff_eq.mpr c16;have c16b1:((bt a0 0) !=110)=false:=bne_eq_false_iff_eq.mpr c16;clear c16;(first|rw[c16b0]|(simp only[i64_w,i32_w];rw[c16b0])|skip)
              have H':=Aside0.mk H;clear H;have hnb17:=NB315_311.out;have hnc17:=NB311_315.out;have hcz18_0:w13.cell? ⟨gb315,0,none⟩=some (.int .i64 0):=(blk_cell BK315.out 0).trans rfl;have hcz18_1:w13.cell? ⟨gb315,1,none⟩=some (.int .i64 0):=(blk_cell BK315.out 1).trans rfl;have hfz18_0:=blk_frozen BK315.out 0;have hfz18_1:=blk_frozen BK315.out 1;go_wp2
              go_meet
              case rel=>exact⟨_,(1),H',⟨by first|omega|exact Nat.le_refl _⟩,⟨by(with_reducible repeat(first|refine blk_drewN ?_ _|refine blk_drew ?_|refine blk_alloc ?_ _));refine blk_far ?_ NB311_315.out _;(with_reducible repeat(first|refine blk_drewN ?_ _|refine blk_drew ?_|refine blk_alloc ?_ _));refine blk_far ?_ NB311_315.out _;(with_reducible repeat(first|refine blk_drewN ?_ _|refine blk_drew ?_|refine blk_alloc ?_ _));refine blk_far ?_ NB311_315.out _;(with_reducible repeat(first|refine blk_drewN ?_ _|refine blk_drew ?_|refine blk_alloc ?_ _));exact BK311.out⟩,⟨by(with_reducible repeat(first|refine blk_drewN ?_ _|refine blk_drew ?_|refine blk_alloc ?_ _));refine blk_put (cs:= #[.int .i64 0,.int .i64 t313]) ?_ 0 _ rfl;(with_reducible repeat(first|refine blk_drewN ?_ _|refine blk_drew ?_|refine blk_alloc ?_ _));refine blk_put (cs:= #[.int .i64 0,.int .i64 0]) ?_ 1 _ rfl;(with_reducible repeat(first|refine blk_drewN ?_ _|refine blk_drew ?_|refine blk_alloc ?_ _));refine blk_put (cs:= #[.int .i64 0,.int .i64 0]) ?_ 0 _ rfl;(with_reducible repeat(first|refine blk_drewN ?_ _|refine blk_drew ?_|refine blk_alloc ?_ _));exact BK315.out⟩,⟨by repeat(first|(with_reducible first|exact HB.out|apply below_alloc|apply pw_below_drewN|apply below_drew1|refine below_set ?_ GE311.out|refine below_set ?_ GE315.out)|exact HB.out)⟩⟩
            · rw[if_neg c16]at H
              have c16b0:((bt a0 0)==110)=false:=beq_eq_false_iff_ne.mpr c16;have c16b1:((bt a0 0) !=110)=true:=bne_iff_ne.mpr c16;(first|rw[c16b0]|(simp only[i64_w,i32_w];rw[c16b0])|skip)
              by_cases c19:(bt a0 0)=97
              · rw[if_pos c19]at H
                have c19b0:((bt a0 0)==97)=true:=beq_iff_eq.mpr c19;have c19b1:((bt a0 0) !=97)=false:=bne_eq_false_iff_eq.mpr c19;clear c19;have H':=Aside0.mk H;clear H;have hnb20:=NB315_311.out;have hnc20:=NB311_315.out;have hcz21_0:w13.cell? ⟨gb315,0,none⟩=some (.int .i64 0):=(blk_cell BK315.out 0).trans rfl;have hcz21_1:w13.cell? ⟨gb315,1,none⟩=some (.int .i64 0):=(blk_cell BK315.out 1).trans rfl;have hfz21_0:=blk_frozen BK315.out 0;have hfz21_1:=blk_frozen BK315.out 1;go_wp2
                go_meet
                case rel=>exact⟨_,(2),H',⟨by first|omega|exact Nat.le_refl _⟩,⟨by(with_reducible repeat(first|refine blk_drewN ?_ _|refine blk_drew ?_|refine blk_alloc ?_ _));refine blk_far ?_ NB311_315.out _;(with_reducible repeat(first|refine blk_drewN ?_ _|refine blk_drew ?_|refine blk_alloc ?_ _));refine blk_far ?_ NB311_315.out _;(with_reducible repeat(first|refine blk_drewN ?_ _|refine blk_drew ?_|refine blk_alloc ?_ _));refine blk_far ?_ NB311_315.out _;(with_reducible repeat(first|refine blk_drewN ?_ _|refine blk_drew ?_|refine blk_alloc ?_ _));exact BK311.out⟩,⟨by(with_reducible repeat(first|refine blk_drewN ?_ _|refine blk_drew ?_|refine blk_alloc ?_ _));refine blk_put (cs:= #[.int .i64 0,.int .i64 t313]) ?_ 0 _ rfl;(with_reducible repeat(first|refine blk_drewN ?_ _|refine blk_drew ?_|refine blk_alloc ?_ _));refine blk_put (cs:= #[.int .i64 0,.int .i64 0]) ?_ 1 _ rfl;(with_reducible repeat(first|refine blk_drewN ?_ _|refine blk_drew ?_|refine blk_alloc ?_ _));refine blk_put (cs:= #[.int .i64 0,.int .i64 0]) ?_ 0 _ rfl;(with_reducible repeat(first|refine blk_drewN ?_ _|refine blk_drew ?_|refine blk_alloc ?_ _));exact BK315.out⟩,⟨by repeat(first|(with_reducible first|exact HB.out|apply below_alloc|apply pw_below_drewN|apply below_drew1|refine below_set ?_ GE311.out|refine below_set ?_ GE315.out)|exact HB.out)⟩⟩
              · rw[if_neg c19]at H
                have c19b0:((bt a0 0)==97)=false:=beq_eq_false_iff_ne.mpr c19;have c19b1:((bt a0 0) !=97)=true:=bne_iff_ne.mpr c19;by_cases c22:(bt a0 0)=114
                · rw[if_pos c22]at H
                  have c22b0:((bt a0 0)==114)=true:=beq_iff_eq.mpr c22;have c22b1:((bt a0 0) !=114)=false:=bne_eq_false_iff_eq.mpr c22;clear c22;have H':=Aside0.mk H;clear H;have hnb23:=NB315_311.out;have hnc23:=NB311_315.out;have hcz24_0:w13.cell? ⟨gb315,0,none⟩=some (.int .i64 0):=(blk_cell BK315.out 0).trans rfl;have hcz24_1:w13.cell? ⟨gb315,1,none⟩=some (.int .i64 0):=(blk_cell BK315.out 1).trans rfl;have hfz24_0:=blk_frozen BK315.out 0;have hfz24_1:=blk_frozen BK315.out 1;go_wp2
                  go_meet
                  case rel=>exact⟨_,(3),H',⟨by first|omega|exact Nat.le_refl _⟩,⟨by(with_reducible repeat(first|refine blk_drewN ?_ _|refine blk_drew ?_|refine blk_alloc ?_ _));refine blk_far ?_ NB311_315.out _;(with_reducible repeat(first|refine blk_drewN ?_ _|refine blk_drew ?_|refine blk_alloc ?_ _));refine blk_far ?_ NB311_315.out _;(with_reducible repeat(first|refine blk_drewN ?_ _|refine blk_drew ?_|refine blk_alloc ?_ _));refine blk_far ?_ NB311_315.out _;(with_reducible repeat(first|refine blk_drewN ?_ _|refine blk_drew ?_|refine blk_alloc ?_ _));exact BK311.out⟩,⟨by(with_reducible repeat(first|refine blk_drewN ?_ _|refine blk_drew ?_|refine blk_alloc ?_ _));refine blk_put (cs:= #[.int .i64 0,.int .i64 t313]) ?_ 0 _ rfl;(with_reducible repeat(first|refine blk_drewN ?_ _|refine blk_drew ?_|refine blk_alloc ?_ _));refine blk_put (cs:= #[.int .i64 0,.int .i64 0]) ?_ 1 _ rfl;(with_reducible repeat(first|refine blk_drewN ?_ _|refine blk_drew ?_|refine blk_alloc ?_ _));refine blk_put (cs:= #[.int .i64 0,.int .i64 0]) ?_ 0 _ rfl;(with_reducible repeat(first|refine blk_drewN ?_ _|refine blk_drew ?_|refine blk_alloc ?_ _));exact BK315.out⟩,⟨by repeat(first|(with_reducible first|exact HB.out|apply below_alloc|apply pw_below_drewN|apply below_drew1|refine below_set ?_ GE311.out|refine below_set ?_ GE315.out)|exact HB.out)⟩⟩
                · rw[if_neg c22]at H
                  have c22b0:((bt a0 0)==114)=false:=beq_eq_false_iff_ne.mpr c22;have c22b1:((bt a0 0) !=114)=true:=bne_iff_ne.mpr c22;have H':=Aside0.mk H;clear H;go_wp2
                  go_meet
                  case rel=>exact⟨_,(0),H',⟨by first|omega|exact Nat.le_refl _⟩,⟨by(with_reducible repeat(first|refine blk_drewN ?_ _|refine blk_drew ?_|refine blk_alloc ?_ _));refine blk_far ?_ NB311_315.out _;(with_reducible repeat(first|refine blk_drewN ?_ _|refine blk_drew ?_|refine blk_alloc ?_ _));refine blk_far ?_ NB311_315.out _;(with_reducible repeat(first|refine blk_drewN ?_ _|refine blk_drew ?_|refine blk_alloc ?_ _));exact BK311.out⟩,⟨by(with_reducible repeat(first|refine blk_drewN ?_ _|refine blk_drew ?_|refine blk_alloc ?_ _));refine blk_put (cs:= #[.int .i64 0,.int .i64 0]) ?_ 1 _ rfl;(with_reducible repeat(first|refine blk_drewN ?_ _|refine blk_drew ?_|refine blk_alloc ?_ _));refine blk_put (cs:= #[.int .i64 0,.int .i64 0]) ?_ 0 _ rfl;(with_reducible repeat(first|refine blk_drewN ?_ _|refine blk_drew ?_|refine blk_alloc ?_ _));exact BK315.out⟩,⟨by repeat(first|(with_reducible first|exact HB.out|apply below_alloc|apply pw_below_drewN|apply below_drew1|refine below_set ?_ GE311.out|refine below_set ?_ GE315.out)|exact HB.out)⟩⟩
          case rest=>
            clear HC11;try clear c1
            try clear p1
            try clear q1
            try clear hx1
            try clear qi1
            try clear c2
            try clear c2b0
            try clear c2b1
            try clear p2
            try clear c5
            try clear c6
            try clear c7
            try clear c7b0
            try clear c7b1
            try clear c9
            try clear c9b0
            try clear c9b1
            try clear p10
            try clear q10
            try clear hx10
            try clear qi10
            try clear c14
            try clear c16
            try clear c16b0
            try clear c16b1
            try clear c17
            try clear c19
            try clear c19b0
            try clear c19b1
            try clear c20
            try clear c22
            try clear c22b0
            try clear c22b1
            try clear c23
            try clear hcz15_0
            try clear hcz15_1
            try clear hcz18_0
            try clear hcz18_1
            try clear hcz21_0
            try clear hcz21_1
            try clear hcz24_0
            try clear hcz24_1
            try clear hcz4_0
            try clear hcz4_1
            try clear hfz15_0
            try clear hfz15_1
            try clear hfz18_0
            try clear hfz18_1
            try clear hfz21_0
            try clear hfz21_1
            try clear hfz24_0
            try clear hfz24_1
            try clear hfz4_0
            try clear hfz4_1
            try clear p10
            try clear q10
            obtain⟨kq,x316000_10,HA,HJ10,BK311,BK315,HB⟩:=hcut;cases kq with
            |zero=>exact absurd HA.out (by simp[spec_ValRead.j0])
            |succ kj10=>
              have H:=HA.out;clear HA;simp only[spec_ValRead.j0]at H
              have HC25:=Aside0.mk H;clear H;go_upto_region 14 with (fail)
              go_cut [46] (fun v46 wc=> ∃ (kq:Nat) (x46_24:Bool),v46= .bool x46_24∧Aside0 (spec_ValRead.j1 kq x46_24 x316000_10 t313=some (r1,r2,r3))∧Aside0 (kq≤kj10)∧Aside0 (wc.heap[gb311]?=some (.cells #[.int .i64 0,.int .i64 0] 25 (0,0)))∧Aside0 (wc.heap[gb315]?=some (.cells #[.int .i64 x316000_10,.int .i64 t313] 25 (0,0)))∧Aside0 (Below w.heap.size w wc))
              case first=>
                have H:=HC25.out;clear HC25;by_cases c26:t314=true
                · subst c26
                  have H1:(if x316000_10=0 then(spec_ValRead.j1 kj10 true x316000_10 t313)else((spec_ValText.f kj10 x316000_10 t313).bind fun t316=>(spec_ValRead.j1 kj10 (t316.toList !=a0.toList) x316000_10 t313)))=some (r1,r2,r3):=by rw[if_pos rfl]at H;exact H
                  clear H;have H:=H1;clear H1;by_cases c27:x316000_10=0
                  · rw[if_pos c27]at H
                    have c27b0:(x316000_10==0)=true:=beq_iff_eq.mpr c27;have c27b1:(x316000_10 !=0)=false:=bne_eq_false_iff_eq.mpr c27;clear c27;(first|rw[c27b0]|(simp only[i64_w,i32_w];rw[c27b0])|skip)
                    have H':=Aside0.mk H;clear H;have hnb28:=NB315_311.out;have hnc28:=NB311_315.out;have hcz29_0:wc.cell? ⟨gb315,0,none⟩=some (.int .i64 x316000_10):=(blk_cell BK315.out 0).trans rfl;have hcz29_1:wc.cell? ⟨gb315,1,none⟩=some (.int .i64 t313):=(blk_cell BK315.out 1).trans rfl;have hfz29_0:=blk_frozen BK315.out 0;have hfz29_1:=blk_frozen BK315.out 1;go_wp2
                    go_meet
                    case rel=>exact⟨_,(true),(by first|rfl|(simp;done)|(simp[*];done)),H',⟨by have:=HJ10.out;first|omega|exact Nat.le_refl _⟩,⟨by(with_reducible repeat(first|refine blk_drewN ?_ _|refine blk_drew ?_|refine blk_alloc ?_ _));exact BK311.out⟩,⟨by(with_reducible repeat(first|refine blk_drewN ?_ _|refine blk_drew ?_|refine blk_alloc ?_ _));exact BK315.out⟩,⟨by repeat(first|(with_reducible first|exact HB.out|apply below_alloc|apply pw_below_drewN|apply below_drew1|refine below_set ?_ GE311.out|refine below_set ?_ GE315.out)|exact HB.out)⟩⟩
                  · rw[if_neg c27]at H
                    have c27b0:(x316000_10==0)=false:=beq_eq_false_iff_ne.mpr c27;have c27b1:(x316000_10 !=0)=true:=bne_iff_ne.mpr c27;(first|rw[c27b0]|(simp only[i64_w,i32_w];rw[c27b0])|skip)
                    replace H:=Option.bind_eq_some_iff.mp H;obtain⟨t316,A300,H⟩:=H;replace H:(spec_ValRead.j1 kj10 (t316.toList !=a0.toList) x316000_10 t313)=some (r1,r2,r3):=H;have A30:=Aside0.mk A300;clear A300;have H':=Aside0.mk H;clear H;have hnb31:=NB315_311.out;have hnc31:=NB311_315.out;have hcz32_0:wc.cell? ⟨gb315,0,none⟩=some (.int .i64 x316000_10):=(blk_cell BK315.out 0).trans rfl;have hcz32_1:wc.cell? ⟨gb315,1,none⟩=some (.int .i64 t313):=(blk_cell BK315.out 1).trans rfl;have hfz32_0:=blk_frozen BK315.out 0;have hfz32_1:=blk_frozen BK315.out 1;go_wp2_with (first|(go_at_call 17;(with_reducible refine(spec_ValText.calls kj10 x316000_10 t313 t316 _ A30.out).mono ?_);rintro e w33 ⟨rfl,hb⟩;have n0_:=Aside0.mk (blk_below (g:=gb311) (o:=.cells #[.int .i64 0,.int .i64 0] 25 (0,0)) (by(with_reducible repeat(first|refine blk_drewN ?_ _|refine blk_drew ?_|refine blk_alloc ?_ _));exact BK311.out) hb);have n1_:=Aside0.mk (blk_below (g:=gb315) (o:=.cells #[.int .i64 x316000_10,.int .i64 t313] 25 (0,0)) (by(with_reducible repeat(first|refine blk_drewN ?_ _|refine blk_drew ?_|refine blk_alloc ?_ _));exact BK315.out) hb);have n2_:=Aside0.mk (below_step (by repeat(first|(with_reducible first|exact HB.out|apply below_alloc|apply pw_below_drewN|apply below_drew1|refine below_set ?_ GE311.out|refine below_set ?_ GE315.out)|exact HB.out)) hb);clear BK311;clear BK315;clear HB;have BK311:=n0_;have BK315:=n1_;have HB:=n2_;clear n0_ n1_ n2_;(try clear hb);(try clear hb2);(try clear hk);(try clear hi)))
                    go_meet
                    case rel=>exact⟨_,((t316.toList !=a0.toList)),(by first|rfl|(simp;done)|(simp[*];done)),H',⟨by have:=HJ10.out;first|omega|exact Nat.le_refl _⟩,⟨by(with_reducible repeat(first|refine blk_drewN ?_ _|refine blk_drew ?_|refine blk_alloc ?_ _));exact BK311.out⟩,⟨by(with_reducible repeat(first|refine blk_drewN ?_ _|refine blk_drew ?_|refine blk_alloc ?_ _));exact BK315.out⟩,⟨by repeat(first|(with_reducible first|exact HB.out|apply below_alloc|apply pw_below_drewN|apply below_drew1|refine below_set ?_ GE311.out|refine below_set ?_ GE315.out)|exact HB.out)⟩⟩
                · replace c26:=Bool.eq_false_iff.mpr c26
                  subst c26;have H1:(spec_ValRead.j1 kj10 true x316000_10 t313)=some (r1,r2,r3):=by rw[if_neg (show¬(false=true) by decide)]at H;exact H
                  clear H;have H:=H1;clear H1;have H':=Aside0.mk H;clear H;go_wp2
                  go_meet
                  case rel=>exact⟨_,(true),(by first|rfl|(simp;done)|(simp[*];done)),H',⟨by have:=HJ10.out;first|omega|exact Nat.le_refl _⟩,⟨by(with_reducible repeat(first|refine blk_drewN ?_ _|refine blk_drew ?_|refine blk_alloc ?_ _));exact BK311.out⟩,⟨by(with_reducible repeat(first|refine blk_drewN ?_ _|refine blk_drew ?_|refine blk_alloc ?_ _));exact BK315.out⟩,⟨by repeat(first|(with_reducible first|exact HB.out|apply below_alloc|apply pw_below_drewN|apply below_drew1|refine below_set ?_ GE311.out|refine below_set ?_ GE315.out)|exact HB.out)⟩⟩
              case rest=>
                clear HC25;try clear c1
                try clear p1
                try clear q1
                try clear hx1
                try clear qi1
                try clear c2
                try clear c2b0
                try clear c2b1
                try clear p2
                try clear c3
                try clear c5
                try clear c6
                try clear c7
                try clear c7b0
                try clear c7b1
                try clear c9
                try clear c9b0
                try clear c9b1
                try clear p10
                try clear q10
                try clear hx10
                try clear qi10
                try clear c14
                try clear c16
                try clear c16b0
                try clear c16b1
                try clear c17
                try clear c19
                try clear c19b0
                try clear c19b1
                try clear c20
                try clear c22
                try clear c22b0
                try clear c22b1
                try clear c23
                try clear c26
                try clear c27
                try clear c27b0
                try clear c27b1
                try clear c28
                try clear c29
                try clear c31
                try clear hcz15_0
                try clear hcz15_1
                try clear hcz18_0
                try clear hcz18_1
                try clear hcz21_0
                try clear hcz21_1
                try clear hcz24_0
                try clear hcz24_1
                try clear hcz29_0
                try clear hcz29_1
                try clear hcz32_0
                try clear hcz32_1
                try clear hcz4_0
                try clear hcz4_1
                try clear hfz15_0
                try clear hfz15_1
                try clear hfz18_0
                try clear hfz18_1
                try clear hfz21_0
                try clear hfz21_1
                try clear hfz24_0
                try clear hfz24_1
                try clear hfz29_0
                try clear hfz29_1
                try clear hfz32_0
                try clear hfz32_1
                try clear hfz4_0
                try clear hfz4_1
                try clear p1
                try clear p10
                try clear p2
                try clear q1
                try clear q10
                obtain⟨kq,x46_24,rfl,HA,HJ24,BK311,BK315,HB⟩:=hcut;cases kq with
                |zero=>exact absurd HA.out (by simp[spec_ValRead.j1])
                |succ kj24=>
                  have H:=HA.out;clear HA;simp only[spec_ValRead.j1]at H
                  by_cases c34:x46_24=true
                  · subst c34
                    have H1:(some (0,0,false))=some (r1,r2,r3):=by rw[if_pos rfl]at H;exact H
                    clear H;have H:=H1;clear H1;simp only[Option.some.injEq,Prod.mk.injEq]at H
                    obtain⟨rfl,rfl,rfl⟩:=H;have hnb35:=NB311_315.out;have hnc35:=NB315_311.out;have hcz36_0:wc.cell? ⟨gb311,0,none⟩=some (.int .i64 0):=(blk_cell BK311.out 0).trans rfl;have hcz36_1:wc.cell? ⟨gb311,1,none⟩=some (.int .i64 0):=(blk_cell BK311.out 1).trans rfl;have hfz36_0:=blk_frozen BK311.out 0;have hfz36_1:=blk_frozen BK311.out 1;go_wp2
                    refine bodyPost_ret (results_ct rfl _ _ gb311 25 #[.int .i64 0,.int .i64 0] (0,0) _ rfl (by(with_reducible repeat(first|refine blk_drewN ?_ _|refine blk_drew ?_|refine blk_alloc ?_ _));refine blk_put (cs:= #[.int .i64 0,.int .i64 0]) ?_ 1 _ rfl;(with_reducible repeat(first|refine blk_drewN ?_ _|refine blk_drew ?_|refine blk_alloc ?_ _));refine blk_put (cs:= #[.int .i64 0,.int .i64 0]) ?_ 0 _ rfl;(with_reducible repeat(first|refine blk_drewN ?_ _|refine blk_drew ?_|refine blk_alloc ?_ _));exact BK311.out) Tryd.underlying25 rfl (by kernel_rfl)) rfl ?_
                    exact⟨by first|rfl|(simp[errW_none,errW_some]<;>rfl)|(simp[*,errW_none,errW_some]<;>rfl),by repeat(first|(with_reducible first|exact HB.out|apply below_alloc|apply pw_below_drewN|apply below_drew1|refine below_set ?_ GE311.out|refine below_set ?_ GE315.out)|exact HB.out)⟩
                  · replace c34:=Bool.eq_false_iff.mpr c34
                    subst c34;have H1:(some (x316000_10,t313,true))=some (r1,r2,r3):=by rw[if_neg (show¬(false=true) by decide)]at H;exact H
                    clear H;have H:=H1;clear H1;simp only[Option.some.injEq,Prod.mk.injEq]at H
                    obtain⟨rfl,rfl,rfl⟩:=H;have hnb37:=NB315_311.out;have hnc37:=NB311_315.out;have hcz38_0:wc.cell? ⟨gb315,0,none⟩=some (.int .i64 x316000_10):=(blk_cell BK315.out 0).trans rfl;have hcz38_1:wc.cell? ⟨gb315,1,none⟩=some (.int .i64 t313):=(blk_cell BK315.out 1).trans rfl;have hfz38_0:=blk_frozen BK315.out 0;have hfz38_1:=blk_frozen BK315.out 1;have hcz39_0:wc.cell? ⟨gb311,0,none⟩=some (.int .i64 0):=(blk_cell BK311.out 0).trans rfl;have hcz39_1:wc.cell? ⟨gb311,1,none⟩=some (.int .i64 0):=(blk_cell BK311.out 1).trans rfl;have hfz39_0:=blk_frozen BK311.out 0;have hfz39_1:=blk_frozen BK311.out 1;go_wp2
                    refine bodyPost_ret (results_ct rfl _ _ gb311 25 #[.int .i64 x316000_10,.int .i64 t313] (0,0) _ rfl (by(with_reducible repeat(first|refine blk_drewN ?_ _|refine blk_drew ?_|refine blk_alloc ?_ _));refine blk_put (cs:= #[.int .i64 x316000_10,.int .i64 0]) ?_ 1 _ rfl;(with_reducible repeat(first|refine blk_drewN ?_ _|refine blk_drew ?_|refine blk_alloc ?_ _));refine blk_put (cs:= #[.int .i64 0,.int .i64 0]) ?_ 0 _ rfl;(with_reducible repeat(first|refine blk_drewN ?_ _|refine blk_drew ?_|refine blk_alloc ?_ _));exact BK311.out) Tryd.underlying25 rfl (by kernel_rfl)) rfl ?_
                    exact⟨by first|rfl|(simp[errW_none,errW_some]<;>rfl)|(simp[*,errW_none,errW_some]<;>rfl),by repeat(first|(with_reducible first|exact HB.out|apply below_alloc|apply pw_below_drewN|apply below_drew1|refine below_set ?_ GE311.out|refine below_set ?_ GE315.out)|exact HB.out)⟩
        · rw[if_neg c9]at H
          exact absurd H (by simp)
      · rw[if_neg c7]at H
        exact absurd H (by simp)
    · replace c6:=Bool.eq_false_iff.mpr c6
      subst c6;have H1:(some (0,0,false))=some (r1,r2,r3):=by rw[if_neg (show¬(false=true) by decide)]at H;exact H
      clear H;have H:=H1;clear H1;simp only[Option.some.injEq,Prod.mk.injEq]at H
      obtain⟨rfl,rfl,rfl⟩:=H;go_enter Tryd.func29,Tryd.ntmps29
      go_wp2_with (first|((with_reducible refine gate_dst (N:=2) rfl ?_);refine box_event ?hg (N:=2) ?hd (cs:= #[.int .i64 0,.int .i64 0]) (t:=25) ?hr ?_;(case hd=>rfl);(case hg=>rfl);(case hr=>first|(go_simp;done)|(go_simp;rfl));intro gb311 hg w40 hbox hb;have n0_:=Aside0.mk (below_step (by repeat(first|(with_reducible first|exact HB.out|apply below_alloc|apply pw_below_drewN|apply below_drew1)|exact HB.out)) hb);have n1_:=Aside0.mk (hbox);have n2_:=Aside0.mk ((by rw[hg];exact(below_size (by repeat(first|(with_reducible first|exact HB.out|apply below_alloc|apply pw_below_drewN|apply below_drew1)|exact HB.out))):w.heap.size≤gb311));have n3_:=Aside0.mk ((by rw[hg];exact(below_size (by repeat(first|(with_reducible first|exact HB.out|apply below_alloc|apply pw_below_drewN|apply below_drew1)|exact HB.out))):w.heap.size≤gb311));clear HB;have HB:=n0_;have BK311:=n1_;have GW311:=n2_;have GE311:=n3_;clear n0_ n1_ n2_ n3_;clear hb hbox hg)|((with_reducible refine gate_callee (f:=56) rfl ?_);refine goesL_ (some 12) rfl rfl Tryd.func56 (by kernel_rfl) rfl #[.int .i64 (a0.size:Int),.int .i64 2,.int .i64 4] rfl (by(try simp only[List.map_toArray,List.map_cons,List.map_nil]);first|done|rfl|(simp only[List.length_drop,List.length_take];rfl)) ?_;(with_reducible refine(spec_l6In.calls (a0.size:Int) 2 4 false _ A5.out).mono ?_);rintro e w' ⟨rfl,⟨nd,rfl⟩⟩;refine⟨_,rfl,?_⟩;(try(rw[drewN_self w40];generalize hq_:World.drewN w40 _=w40;have n0_:Aside0 (w40.heap[gb311]?=some (.cells #[.int .i64 0,.int .i64 0] 25 (0,0))):=⟨by rw[←hq_];exact(by(with_reducible repeat(first|refine blk_drewN ?_ _|refine blk_drew ?_|refine blk_alloc ?_ _));exact BK311.out)⟩;have n1_:Aside0 (Below w.heap.size w w40):=⟨by rw[←hq_];exact(by repeat(first|(with_reducible first|exact HB.out|apply below_alloc|apply pw_below_drewN|apply below_drew1|refine below_set ?_ GE311.out)|exact HB.out))⟩;clear BK311 HB hq_;have BK311:=n0_;have HB:=n1_;clear n0_ n1_));have hcz41_0:w40.cell? ⟨gb311,0,none⟩=some (.int .i64 0):=(blk_cell BK311.out 0).trans rfl;have hcz41_1:w40.cell? ⟨gb311,1,none⟩=some (.int .i64 0):=(blk_cell BK311.out 1).trans rfl;have hfz41_0:=blk_frozen BK311.out 0;have hfz41_1:=blk_frozen BK311.out 1))
      refine bodyPost_ret (results_ct rfl _ _ gb311 25 #[.int .i64 0,.int .i64 0] (0,0) _ rfl (by(with_reducible repeat(first|refine blk_drewN ?_ _|refine blk_drew ?_|refine blk_alloc ?_ _));refine blk_put (cs:= #[.int .i64 0,.int .i64 0]) ?_ 1 _ rfl;(with_reducible repeat(first|refine blk_drewN ?_ _|refine blk_drew ?_|refine blk_alloc ?_ _));refine blk_put (cs:= #[.int .i64 0,.int .i64 0]) ?_ 0 _ rfl;(with_reducible repeat(first|refine blk_drewN ?_ _|refine blk_drew ?_|refine blk_alloc ?_ _));exact BK311.out) Tryd.underlying25 rfl (by kernel_rfl)) rfl ?_
      exact⟨by first|rfl|(simp[errW_none,errW_some]<;>rfl)|(simp[*,errW_none,errW_some]<;>rfl),by repeat(first|(with_reducible first|exact HB.out|apply below_alloc|apply pw_below_drewN|apply below_drew1|refine below_set ?_ GE311.out)|exact HB.out)⟩
end Go.Proofs.YtmklpbmlgjkbiaaDoor.PS
end
section
namespace Go.Proofs.YtmklpbmlgjkbiaaDoor.PS
open Go.RowKit Go.Proofs.YtmklpbmlgjkbiaaDoorW.PrintWords Go.Proofs.YtmklpbmlgjkbiaaDoorW.PrintLast
theorem Hold.lt {w W:World} {g:Nat} {o:Obj} (h:Hold w W g o):g<W.heap.size:=blk_lt h.2
end Go.Proofs.YtmklpbmlgjkbiaaDoor.PS
end
section
namespace Go.Proofs.YtmklpbmlgjkbiaaDoor.PS
open Go.RowKit Go.Proofs.YtmklpbmlgjkbiaaDoorW.PrintWords Go.Proofs.YtmklpbmlgjkbiaaDoorW.PrintLast Go.Proofs.YtmklpbmlgjkbiaaDoorW.PrintMore
attribute [local go_sem] max2_int min2_int max_two min_two max_three min_three max_four min_four   -- for this text's walks alone
def spec_l6Rd_of.f (k:Nat) (s0_0:List Int) (s0_1:Int) (l1:List ByteArray):Option (ByteArray×Int):=(spec_l6Rd_pick.f k s0_0 s0_1 (l1.length:Int)).bind fun bt165=>(if 0≤bt165.1 then(if bt165.1<(l1.length:Int)then(some (rdOf ByteArray.empty l1 bt165.1,bt165.2))else(none))else(none))
theorem spec_l6Rd_of.calls (k:Nat) (g:Nat) (s0_0:List Int) (s0_1:Int) (A1:Option Addr) (c1:Nat) (l1:List ByteArray) (r1:ByteArray) (r2:Int) (w0 w:World) (hI:IsS95 w0 w g s0_0 s0_1) (hB:Below w0.heap.size w0 w) (hr1:Kd.C Kd.string w A1 l1.length l1) (hc1:l1.length≤c1) (hf1: ∀ad,A1=some ad→0<l1.length→ad.block≠g) (h:spec_l6Rd_of.f k s0_0 s0_1 l1=some (r1,r2)):
    Calls Tryd.prog 62 #[.pointer (some ⟨g,0,none⟩),.slice A1 l1.length c1] w fun e w'=>e= .returned (.string r1)∧IsS95 w0 w' g s0_0 r2∧Below w0.heap.size w0 w'∧KeepBut w w' g none:=by
  have HR1:=Aside0.mk hr1;have HC1:=Aside0.mk hc1;clear hr1 hc1;have HI0:=Aside0.mk hI;have HK:=Aside0.mk (KeepBut.refl w g none);have HL:=Aside0.mk hB.size;clear hI;have HW0:=Aside0.mk hB.size;have HB:=Aside0.mk hB;clear hB;have H:((spec_l6Rd_pick.f k s0_0 s0_1 (l1.length:Int)).bind fun bt165=>(if 0≤bt165.1 then(if bt165.1<(l1.length:Int)then(some (rdOf ByteArray.empty l1 bt165.1,bt165.2))else(none))else(none)))=some (r1,r2):=h
  clear h;replace H:=Option.bind_eq_some_iff.mp H;obtain⟨⟨t165,t166⟩,A30,H⟩:=H;replace H:(if 0≤t165 then(if t165<(l1.length:Int)then(some (rdOf ByteArray.empty l1 t165,t166))else(none))else(none))=some (r1,r2):=H
  have A3:=Aside0.mk A30;clear A30;by_cases c4:0≤t165
  · rw[if_pos c4]at H
    have c4b0:decide (0≤t165)=true:=decide_eq_true c4;clear c4;by_cases c5:t165<(l1.length:Int)
    · rw[if_pos c5]at H
      have c5b0:decide (t165<(l1.length:Int))=true:=decide_eq_true c5;clear c5;simp only[Option.some.injEq,Prod.mk.injEq]at H
      obtain⟨rfl,rfl⟩:=H;go_enter Tryd.func62,Tryd.ntmps62
      go_wp2_with (first|((with_reducible refine gate_callee (f:=47) rfl ?_);refine goesL_ (some 9) rfl rfl Tryd.func47 (by kernel_rfl) rfl #[.pointer (some ⟨g,0,none⟩),.int .i64 (l1.length:Int)] rfl (by(try simp only[List.map_toArray,List.map_cons,List.map_nil]);first|done|rfl|(simp only[List.length_drop,List.length_take];rfl)) ?_;(with_reducible refine(spec_l6Rd_pick.calls k g s0_0 s0_1 (l1.length:Int) t165 t166 w0 _ ?side1 ?side2 A3.out).mono ?_);(case side1=>repeat(first|(with_reducible first|exact HI0.out|apply IsS95.alloc|apply IsS95.drewN|apply IsS95.drew|apply IsS95.set_1)|exact HI0.out));(case side2=>repeat(first|(with_reducible first|exact HB.out|apply below_alloc|apply pw_below_drewN|apply below_drew1|refine below_set ?_ (IsS95.ge HI0.out))|exact HB.out));rintro e w6 ⟨rfl,hi,hb,hk⟩;refine⟨_,rfl,?_⟩;have n0_:=Aside0.mk (KeepBut.trans (by repeat(first|(with_reducible first|exact HK.out|apply KeepBut.set_|apply keep_drewN|apply keep_drew|apply keep_alloc)|exact HK.out)) hk (.inl rfl));have n1_:=Aside0.mk (hb);have n2_:=Aside0.mk (hi);clear HK;clear HB;clear HI0;have HK:=n0_;have HB:=n1_;have HI0:=n2_;clear n0_ n1_ n2_;(try clear hb);(try clear hb2);(try clear hk);(try clear hi);have p167:0≤(t165:Int):=of_decide_eq_true (by first|(with_reducible assumption)|assumption);have q167:t165<(l1.length:Int):=of_decide_eq_true (by first|(with_reducible assumption)|assumption);obtain⟨ad167,e167,hx167_0⟩:=Kd.at_string HR1.out t165 p167 q167;cases e167;replace hx167_0:=keep_cell HK.out hx167_0 (by first|(rw[add_block];exact hf1 _ rfl (by omega))|exact hf1 _ rfl (by omega)|exact hf1 ad167 rfl (by omega));replace p167:=eq_true p167;replace q167:=eq_true q167))
      go_ret
      exact⟨by first|rfl|(simp[errW_none,errW_some]<;>rfl)|(simp[*,errW_none,errW_some]<;>rfl),by repeat(first|(with_reducible first|exact HI0.out|apply IsS95.alloc|apply IsS95.drewN|apply IsS95.drew|apply IsS95.set_1)|exact HI0.out),by repeat(first|(with_reducible first|exact HB.out|apply below_alloc|apply pw_below_drewN|apply below_drew1|refine below_set ?_ (IsS95.ge HI0.out))|exact HB.out),by repeat(first|(with_reducible first|exact HK.out|apply KeepBut.set_|apply keep_drewN|apply keep_drew|apply keep_alloc)|exact HK.out)⟩
    · rw[if_neg c5]at H
      exact absurd H (by simp)
  · rw[if_neg c4]at H
    exact absurd H (by simp)
end Go.Proofs.YtmklpbmlgjkbiaaDoor.PS
end
section
namespace Go.Proofs.YtmklpbmlgjkbiaaDoor.PS
open Go.RowKit Go.Proofs.YtmklpbmlgjkbiaaDoorW.PrintWords Go.Proofs.YtmklpbmlgjkbiaaDoorW.PrintLast
theorem readV_yes {s:ByteArray} {k n:Int} (h:readV s=(k,n,true)):okP k n∧vtext k n=s:=by
  unfold readV at h;split at h
  · rename_i hc
    injection h with e1 e2
    injection e2 with e2 e3
    rw[e1,e2]at hc
    exact⟨okB_true.1 hc.1,hc.2⟩
  · injection h with e1 e2;injection e2 with e2 e3;cases e3
theorem l1_l0 (x:ByteArray) (s n i:Int) (k:Nat) (hx:x.size≤4) (hi:0≤i) (hk:2*((x.size:Int)-i).toNat+1≤k): ∃r,spec_l1Dec.l0 k x s n i=some r:=by
  induction k using Nat.strongRecOn generalizing n i with
  |_ k ih=>
    obtain⟨k,rfl⟩: ∃m,k=m+1:=⟨k-1,by omega⟩
    simp only[spec_l1Dec.l0]
    by_cases h:i<(x.size:Int)
    · rw[if_pos h,if_pos hi]
      obtain⟨k,rfl⟩: ∃m,k=m+1:=⟨k-1,by omega⟩
      have hw:wrap64 (i+1)=i+1:=by unfold wrap64;omega
      have go: ∀b,∃r,spec_l1Dec.j3 (k+1) x s n i b=some r:=fun b=>by
        simp only[spec_l1Dec.j3]
        cases b with
        |true=>exact⟨_,rfl⟩
        |false=>
          rw[if_neg (by simp),if_pos hi,if_pos h,hw]
          exact ih k (by omega) _ (i+1) (by omega) (by omega)
      by_cases hb:bt x i<48
      · rw[if_pos hb];exact go _
      · rw[if_neg hb];exact go _
    · rw[if_neg h];exact⟨_,rfl⟩
theorem in_f (a b c:Int):spec_l6In.f a b c=some (decide (b≤a∧a≤c)):=by
  unfold spec_l6In.f;by_cases h:b≤a<;>simp[h]
theorem l1_j1 (x:ByteArray) (s:Int) (hx:x.size≤4): ∃r,spec_l1Dec.j1 10 x s=some r:=by
  simp only[spec_l1Dec.j1]
  rw[in_f];simp only[Option.bind_some]
  cases decide (1≤(x.size:Int)∧(x.size:Int)≤2)with
  |true=>rw[if_pos rfl];exact l1_l0 x s 0 0 9 hx (by omega) (by omega)
  |false=>exact⟨_,rfl⟩
theorem l1_all (x:ByteArray) (hx:x.size≤4): ∃r,spec_l1Dec.f 11 x=some r:=by
  have go: ∀b s,(b=true→1≤x.size)→ ∃r,spec_l1Dec.j0 11 x s b=some r:=fun b s hb=>by
    simp only[spec_l1Dec.j0]
    cases b with
    |true=>
      rw[if_pos rfl,if_pos (by have:=hb rfl;omega)]
      exact l1_j1 _ _ (by rw[ByteArray.size_extract];omega)
    |false=>rw[if_neg (by simp)];exact l1_j1 _ _ hx
  unfold spec_l1Dec.f;by_cases h:(x.size:Int)>1
  · rw[if_pos h,if_pos (by omega)];exact go _ _ (fun _=>by omega)
  · rw[if_neg h];exact go _ _ (fun h=>by cases h)
theorem l1_back (n:Int) (h0: -100<n) (h1:n<100):spec_l1Dec.f 11 ⟨(itoaS n).toArray⟩=some (n,true):=by
  have h: ∀i∈List.range 199,spec_l1Dec.f 11 ⟨(itoaS ((i:Int)-99)).toArray⟩=some ((i:Int)-99,true):=by decide+kernel
  have:=h (n+99).toNat (by simp;omega)
  rwa [show(((n+99).toNat:Nat):Int)-99=n by omega]at this
theorem leO_up {k n:Int} {r:ByteArray} (h:spec_ValText.f 5 k n=some r): ∀m,spec_ValText.f (5+m) k n=some r
  |0=>h
  |m+1=>spec_ValText.mono _ _ _ _ (leO_up h m)
theorem ofList (b:ByteArray) {l:List UInt8} (h:b.data.toList=l):b=⟨l.toArray⟩:=by
  cases b with|mk d=>subst h;simp
theorem specRead_f (s:ByteArray):spec_ValRead.f 12 s=some (readV s):=by
  unfold spec_ValRead.f;by_cases h:s.toList=[110,111,110,101]
  · rw[if_pos h]
    have:s=⟨#[110,111,110,101]⟩:=ofList s (by rw[←toListD];exact h)
    subst this;rw[show readV ⟨#[110,111,110,101]⟩=(0,0,true)from readV_text 0 0 (.inl ⟨rfl,rfl⟩)]
  · rw[if_neg h,in_f]
    have hn:s≠⟨#[110,111,110,101]⟩:=fun e=>h (by rw[e,toListD])
    simp only[Option.bind_some]
    by_cases hz:2≤(s.size:Int)∧(s.size:Int)≤4
    · rw[decide_eq_true hz,if_pos rfl,if_pos (by omega)]
      obtain⟨⟨n,ok⟩,hl⟩:=l1_all (s.extract 1 s.size) (by rw[ByteArray.size_extract];omega)
      have hl':spec_l1Dec.f 12 (s.extract 1 s.size)=some (n,ok):=spec_l1Dec.mono _ _ _ hl;rw[hl'];simp only[Option.bind_some]
      rw[if_pos (by omega)]
      have h0:0<s.size:=by omega
      have hb:bt s 0=(s[0].toNat:Int):=by unfold bt;rw[dif_pos (by simpa using h0)];rfl
      rw[hb]
      have tl: ∀k' n',1≤k'→okP k' n'→vtext k' n'=s→s[0]=letterB k'∧n=n'∧ok=true:=fun k' n' h1 h2 h3=>by
        obtain⟨_,_,a,b,c,d⟩:=tail_of h1 h2 h3;have:=ofList _ b;rw[this,l1_back n' c d]at hl
        injection hl with hl
        injection hl with e1 e2
        exact⟨a,e1.symm,e2.symm⟩
      have none0: ∀ {k' n':Int},okP k' n'→vtext k' n'=s→1≤k':=fun {k' n'} hk e=>by
        by_cases h0:k'=0
        · subst h0
          have:n'=0:=by unfold okP at hk;omega
          subst this;exact absurd e.symm hn
        · unfold okP at hk;omega
      have fin: ∀K:Int,1≤K→(∀k',1≤k'→okP k' n→s[0]=letterB k'→k'=K)→spec_ValRead.j0 12 s ok K n=some (readV s):=fun K hK hu=>by
        simp only[spec_ValRead.j0]
        cases ok with
        |false=>
          rw[if_neg (by simp)]
          simp only[spec_ValRead.j1]
          rw[if_pos trivial,readV_no];intro k' n' hk e;have:=(tl k' n' (none0 hk e) hk e).2.2;cases this
        |true=>
          rw[if_pos rfl,if_neg (by omega)]
          have e5:spec_ValText.f 11 K n=some (vtext K n):=leO_up (specText_f K n) 6;rw[e5];simp only[Option.bind_some,spec_ValRead.j1]
          by_cases hv:vtext K n=s
          · rw[if_neg (by simp[hv]),readV_of hv h0]
          · rw [if_pos (by
              simp only[bne_iff_ne,ne_eq];intro h;rw[toListD,toListD]at h;exact hv (Go.WideShapes.bytes_inj h)),readV_no]
            intro k' n' hk e;obtain⟨a,b,_⟩:=tl k' n' (none0 hk e) hk e;subst b;exact hv (by rw[←hu k' (none0 hk e) hk a];exact e)
      have c110: ∀c:UInt8,((s[0].toNat:Int)=(c.toNat:Int)) ↔ s[0]=c:=fun c=>⟨fun h=>UInt8.toNat_inj.1 (Int.ofNat_inj.1 h),fun h=>by rw[h]⟩
      have r1:((s[0].toNat:Int)=110) ↔ s[0]=110:=c110 110;have r2:((s[0].toNat:Int)=97) ↔ s[0]=97:=c110 97;have r3:((s[0].toNat:Int)=114) ↔ s[0]=114:=c110 114;by_cases q1:s[0]=110
      · rw[if_pos (r1.2 q1)]
        exact fin 1 (by omega) fun k' h1 h2 h3=>by
          have:k'=1∨k'=2∨k'=3:=by unfold okP at h2;omega
          rcases this with rfl|rfl|rfl
          · rfl
          · rw[q1]at h3;exact absurd h3 (by decide)
          · rw[q1]at h3;exact absurd h3 (by decide)
      rw[if_neg (fun h=>q1 (r1.1 h))]
      by_cases q2:s[0]=97
      · rw[if_pos (r2.2 q2)]
        exact fin 2 (by omega) fun k' h1 h2 h3=>by
          have:k'=1∨k'=2∨k'=3:=by unfold okP at h2;omega
          rcases this with rfl|rfl|rfl
          · rw[q2]at h3;exact absurd h3 (by decide)
          · rfl
          · rw[q2]at h3;exact absurd h3 (by decide)
      rw[if_neg (fun h=>q2 (r2.1 h))]
      by_cases q3:s[0]=114
      · rw[if_pos (r3.2 q3)]
        exact fin 3 (by omega) fun k' h1 h2 h3=>by
          have:k'=1∨k'=2∨k'=3:=by unfold okP at h2;omega
          rcases this with rfl|rfl|rfl
          · rw[q3]at h3;exact absurd h3 (by decide)
          · rw[q3]at h3;exact absurd h3 (by decide)
          · rfl
      rw[if_neg (fun h=>q3 (r3.1 h))]
      rw[readV_no (fun k' n' hk e=>by
        obtain⟨a,b,_⟩:=tl k' n' (none0 hk e) hk e;have:k'=1∨k'=2∨k'=3:=by have:=none0 hk e;unfold okP at hk;omega
        rcases this with rfl|rfl|rfl
        · exact q1 a
        · exact q2 a
        · exact q3 a)]
      simp only[spec_ValRead.j0,spec_ValRead.j1]
      cases ok<;>simp
    · rw[decide_eq_false hz,if_neg (by simp)]
      rw[readV_no];intro k n hk e;have:=vtext_size k n hk;rw[e]at this
      have e2:s.data.toList.length=s.size:=by rw[Array.length_toList];rfl
      omega
theorem spec_ValRead_any (s:ByteArray) (w:World):
    Calls Tryd.prog 29 #[.string s] w fun e w'=>e= .returned (.tuple #[.agg #[.int .i64 (readV s).1,.int .i64 (readV s).2.1],.bool (readV s).2.2])∧Below w.heap.size w w':=
  spec_ValRead.calls 12 s _ _ _ w (specRead_f s)
theorem RD.lt {w0 w:World} {g N:Nat} (h:RD w0 w g N):g<w.heap.size:=by
  obtain⟨b,p,h1,h2,h3,h4,h5⟩:=h;exact h2.lt
def Opened (w:World) (e:Ending) (w':World):Prop:= ∃g:Nat,e= .returned (.pointer (some ⟨g,0,none⟩))∧RD w w' g 0
theorem open_w (A0:Option Addr) (c0:Nat) (l0:List Int) (w:World) (hr0:Kd.C (Kd.int .u8) w A0 l0.length l0) (hc0:l0.length≤c0) (hw: ∀x∈l0,(Lit.int .u8 x).wf=true):
    Calls Tryd.prog 46 #[.slice A0 l0.length c0] w (Opened w):=by
  obtain⟨b,hb,hB⟩:=open_ok hw;exact(spec_l6Open.calls A0 c0 l0 b 0 w w (Below.refl _ _) hr0 hc0 hb).mono fun e w' ⟨g,h1,h2,h3,h4⟩=>⟨g,h1,b,0,hB,h2,by omega,by omega,h3⟩
def DrewN (w0 w:World) (g N:Nat) (n:Int) (e:Ending) (w':World):Prop:= ∃x:Int,e= .returned (.int .i64 x)∧0≤x∧x<n∧RD w0 w' g N∧KeepBut w w' g none
theorem pick_w {w0 w:World} {g N:Nat} (h:RD w0 w g N) (hN:N<600000) (n:Int) (hn:1≤n) (hn':n<1000000):
    Calls Tryd.prog 47 #[.pointer (some ⟨g,0,none⟩),.int .i64 n] w (DrewN w0 w g (N+1) n):=by
  obtain⟨b,p,h1,h2,h3,h4,h5⟩:=h;obtain⟨x,hx,x0,x1, -⟩:=pick_ok h1 0 p n h3 (by omega) hn'
  exact(spec_l6Rd_pick.calls 1 g b p n x (p+1) w0 w h2 h5 hx).mono fun e w' ⟨e1,e2,e3,e4⟩=>⟨x,e1,x0,x1 hn,⟨b,p+1,h1,e2,by omega,by omega,e3⟩,e4⟩
def DrewVal (w0 w:World) (g N:Nat) (e:Ending) (w':World):Prop:= ∃a b:Int,e= .returned (.agg #[.int .i64 a,.int .i64 b])∧Drawn a b∧RD w0 w' g N∧KeepBut w w' g none
theorem val_w {w0 w:World} {g N:Nat} (h:RD w0 w g N) (hN:N<500000):Calls Tryd.prog 45 #[.pointer (some ⟨g,0,none⟩)] w (DrewVal w0 w g (N+4)):=by
  obtain⟨b,p,h1,h2,h3,h4,h5⟩:=h;obtain⟨kd,n,p',hx,hd,q0,q1⟩:=val_ok h1 0 p h3 (by omega)
  exact(spec_l71Val.calls 2 g b p kd n p' w0 w h2 h5 hx).mono fun e w' ⟨e1,e2,e3,e4⟩=>⟨kd,n,e1,hd,⟨b,p',h1,e2,by omega,by omega,e3⟩,e4⟩
def DrewStr (w0 w:World) (g N:Nat) (e:Ending) (w':World):Prop:= ∃s:ByteArray,e= .returned (.string s)∧s.size≤10∧RD w0 w' g N∧KeepBut w w' g none
theorem of_w {w0 w:World} {g N:Nat} (h:RD w0 w g N) (hN:N<500000) (A1:Option Addr) (c1:Nat) (l1:List ByteArray) (hr1:Kd.C Kd.string w A1 l1.length l1) (hc1:l1.length≤c1) (hf1: ∀ad,A1=some ad→0<l1.length→ad.block≠g)
    (hl:1≤l1.length) (hl':l1.length<1000) (hs: ∀x∈l1,x.size≤10):Calls Tryd.prog 62 #[.pointer (some ⟨g,0,none⟩),.slice A1 l1.length c1] w (DrewStr w0 w g (N+1)):=by
  obtain⟨b,p,h1,h2,h3,h4,h5⟩:=h;obtain⟨x,hx,x0,x1, -⟩:=pick_ok h1 0 p (l1.length:Int) h3 (by omega) (by omega)
  have x1:=x1 (by omega)
  have:spec_l6Rd_of.f 1 b p l1=some (rdOf ByteArray.empty l1 x,p+1):=by
    unfold spec_l6Rd_of.f;rw[hx];simp only[Option.bind_some];rw[if_pos x0,if_pos x1]
  refine(spec_l6Rd_of.calls 1 g b p A1 c1 l1 _ (p+1) w0 w h2 h5 hr1 hc1 hf1 this).mono fun e w' ⟨e1,e2,e3,e4⟩=>⟨_,e1,hs _ ?_,⟨b,p+1,h1,e2,by omega,by omega,e3⟩,e4⟩
  unfold rdOf;rw[List.getD_eq_getElem?_getD,List.getElem?_eq_getElem (by omega)]
  exact List.getElem_mem _
theorem C_lit (W:World) (l:List ByteArray) (hl:l.length≤1000):Kd.C Kd.string (W.alloc (.cells (l.map Value.string).toArray 9)).drew (some ⟨W.heap.size,0,none⟩) l.length l:=by
  refine Kd.C_of_reads (d:=ByteArray.empty) (h1:=fun _=>rfl) ⟨rfl,by omega,fun _=>⟨_,rfl,fun j hj=> ?_⟩⟩
  have hb:(W.alloc (.cells (l.map Value.string).toArray 9)).drew.heap[W.heap.size]?=some (.cells (l.map Value.string).toArray 9 (0,0)):=blk_new W _;have:=blk_cell hb j;rw[show(⟨W.heap.size,0,none⟩:Addr).add j=⟨W.heap.size,j,none⟩ by(simp[Addr.add];try exact fun h=>h.symm),this]
  simp[List.getD_eq_getElem?_getD,List.getElem?_eq_getElem hj]
theorem of_lit {w0 W:World} {g N:Nat} (h:RD w0 W g N) (hN:N<500000) (l:List ByteArray) (hl:1≤l.length) (hl':l.length<1000) (hs: ∀x∈l,x.size≤10):
    Calls Tryd.prog 62 #[.pointer (some ⟨g,0,none⟩),.slice (some ⟨W.heap.size,0,none⟩) l.length l.length] (W.alloc (.cells (l.map Value.string).toArray 9)).drew (DrewStr w0 (W.alloc (.cells (l.map Value.string).toArray 9)).drew g (N+1)):=
  of_w (h.alloc _).drew hN _ _ l (C_lit W l (by omega)) (Nat.le_refl _) (fun ad e h0=>by cases e;have:=h.lt;show W.heap.size≠g;omega) hl hl' hs
def SomeStr (w:World) (e:Ending) (w':World):Prop:= ∃s:ByteArray,e= .returned (.string s)∧s.size≤1000∧Below w.heap.size w w'
theorem vtext_le (a b:Int):(vtext a b).size≤4:=by
  by_cases h:okB a b=true
  · have:=(vtext_size a b (okB_true.1 h)).2;rw[Array.length_toList]at this;exact this
  · simp only[Bool.not_eq_true]at h
    rw[vtext_bad h];exact Nat.zero_le _
theorem cat2 (a b:ByteArray) (ha:a.size≤1000000) (hb:b.size≤1000000):decide (a.size+b.size≤9223372036854775807)=true∧(9223372036854775807<a.size+b.size)=False∧(a.size+b.size≤9223372036854775807)=True:=
  ⟨decide_eq_true (by omega),eq_false (by omega),eq_true (by omega)⟩
theorem cat3 (a b c:ByteArray) (ha:a.size≤1000000) (hb:b.size≤1000000) (hc:c.size≤1000000):decide (a.size+b.size+c.size≤9223372036854775807)=true∧(9223372036854775807<a.size+b.size+c.size)=False∧(a.size+b.size+c.size≤9223372036854775807)=True:=
  ⟨decide_eq_true (by omega),eq_false (by omega),eq_true (by omega)⟩
theorem drawValRead_w (A0:Option Addr) (c0:Nat) (l0:List Int) (w:World) (hr0:Kd.C (Kd.int .u8) w A0 l0.length l0) (hc0:l0.length≤c0) (hw: ∀x∈l0,(Lit.int .u8 x).wf=true):
    Calls Tryd.prog 36 #[.slice A0 l0.length c0] w (SomeStr w):=by
  have H0:Aside0 (Calls Tryd.prog 46 #[.slice A0 l0.length c0] w (Opened w)):=⟨open_w A0 c0 l0 w hr0 hc0 hw⟩;clear hr0 hc0 hw;go_enter Tryd.func36,Tryd.ntmps36
  go_upto_region 3 with (first
    |(go_at_call 46;(with_reducible refine H0.out.mono ?_);rintro e w1 ⟨g,rfl,hR⟩;have HR:=Aside0.mk hR;clear hR)
    |(go_at_call 45;(with_reducible refine(val_w HR.out (by omega)).mono ?_);rintro e w2 ⟨a,b,rfl, -,hR, -⟩;replace HR:=Aside0.mk hR;clear hR)
    |(go_at_call 17;(with_reducible refine(spec_ValText_any _ _ _).mono ?_);rintro e w3 ⟨rfl,hb⟩;replace HR:=Aside0.mk (HR.out.step hb);clear hb))
  have hs:=vtext_le a b;obtain⟨X,hX⟩: ∃X,X=vtext a b:=⟨_,rfl⟩;rw[←hX]at hs⊢
  clear hX;have y1:(0:Int)≤(X.size:Int)+1:=by omega
  go_upto_block 0 with (first
    |(go_at_call 47;(with_reducible refine(pick_w HR.out (by omega) 7 (by omega) (by omega)).mono ?_);rintro e w5 ⟨y,rfl,hy0,hy1,hR, -⟩;replace HR:=Aside0.mk hR;clear hR)
    |(go_at_call 47;(with_reducible refine(pick_w HR.out (by omega) ((X.size:Int)+1) (by omega) (by omega)).mono ?_);rintro e w4 ⟨x,rfl,hx0,hx1,hR, -⟩;replace HR:=Aside0.mk hR;clear hR))
  have hx2:x≤(X.size:Int):=by omega
  clear hx1 y1;by_cases q0:y=0
  · have e0:(y==0)=true:=by simp[q0]
    clear q0 hy0 hy1;go_wp2
    go_ret
    exact⟨_,rfl,by rw[ByteArray.size_extract];omega,HR.out.below⟩
  have e0:(y==0)=false:=by simp[q0]
  by_cases q1:y=1
  · have e1:(y==1)=true:=by simp[q1]
    clear q0 q1 hy0 hy1;obtain⟨P,hP⟩: ∃P,P=X.extract 0 x.toNat:=⟨_,rfl⟩;obtain⟨Q,hQ⟩: ∃Q,Q=X.extract x.toNat X.size:=⟨_,rfl⟩;have hPs:P.size≤4:=by rw[hP,ByteArray.size_extract];omega
    have hQs:Q.size≤4:=by rw[hQ,ByteArray.size_extract];omega
    have r1: ∀W,Sem.run Tryd.prog (Instr.slice 9 (.string X) none (some (.int .i64 x)) none) W= .ok (.string P) W:=fun W=>by
      rw[hP];go_simp
    have r2: ∀W,Sem.run Tryd.prog (Instr.slice 9 (.string X) (some (.int .i64 x)) none none) W= .ok (.string Q) W:=fun W=>by
      rw[hQ];go_simp
    clear hP hQ
    have HO:Aside0 (Calls Tryd.prog 62 #[.pointer (some ⟨g,0,none⟩),.slice (some ⟨w5.heap.size,0,none⟩) 5 5] (w5.alloc (.cells #[.string ⟨#[48]⟩,.string ⟨#[32]⟩,.string ⟨#[49]⟩,.string ⟨#[45]⟩,.string ⟨#[110]⟩] 9)).drew (DrewStr w (w5.alloc (.cells #[.string ⟨#[48]⟩,.string ⟨#[32]⟩,.string ⟨#[49]⟩,.string ⟨#[45]⟩,.string ⟨#[110]⟩] 9)).drew g (0+4+1+1+1))):=
      ⟨of_lit HR.out (by omega) [⟨#[48]⟩,⟨#[32]⟩,⟨#[49]⟩,⟨#[45]⟩,⟨#[110]⟩] (by decide) (by decide) (by decide)⟩
    go_upto_region 8 with (fail)
    go_region_held3 (fun w'=>True) (trivial) ((go_at_call 62;refine(HO.out).mono ?_;rintro e w6 ⟨z,rfl,hz,hR, -⟩;obtain⟨t1,t2,t3⟩:=cat2 P z (by omega) (by omega);obtain⟨t4,t5,t6⟩:=cat3 P z Q (by omega) (by omega) (by omega);have HZ:=Aside0.mk hz;replace HR:=Aside0.mk hR;clear hR hz))
    go_wp2
    go_ret
    refine⟨_,rfl,?_,HR.out.below⟩
    have:=HZ.out;rw[ByteArray.size_append,ByteArray.size_append];omega
  have e1:(y==1)=false:=by simp[q1]
  clear q0 q1 hy0 hy1;go_wp2
  go_ret
  exact⟨_,rfl,by omega,HR.out.below⟩
end Go.Proofs.YtmklpbmlgjkbiaaDoor.PS
end
section
namespace Go.Proofs.YtmklpbmlgjkbiaaDoor.PS
open Go.RowKit Go.Proofs.YtmklpbmlgjkbiaaDoorW.PrintWords Go.Proofs.YtmklpbmlgjkbiaaDoorW.PrintLast
attribute [local go_sem high] eqA25
theorem valStrict (A0:Option Addr) (c0:Nat) (l0:List Int) (w:World) (hr0:Kd.C (Kd.int .u8) w A0 l0.length l0) (hc0:l0.length≤c0) (hw0: ∀x∈l0,(Lit.int .u8 x).wf=true) (hT:TabErrs w):
    Calls Tryd.prog 12 #[.slice A0 l0.length c0] w fun e w'=>e= .returned (.bool true)∧Below w.heap.size w w':=by
  have HT:=Aside0.mk hT.1;have HE:=Aside0.mk hT.2;clear hT;have H0:Aside0 (Calls Tryd.prog 36 #[.slice A0 l0.length c0] w (SomeStr w)):=⟨drawValRead_w A0 c0 l0 w hr0 hc0 hw0⟩;clear hr0 hw0 hc0;by_cases m0:l0.length>1048576
  · have e0:decide ((1048576:Int)<(l0.length:Int))=true:=decide_eq_true (by omega)
    clear m0;go_enter Tryd.func12,Tryd.ntmps12
    go_wp2
    go_ret
    exact⟨rfl,Below.refl _ _⟩
  have e0:decide ((1048576:Int)<(l0.length:Int))=false:=decide_eq_false (by omega)
  clear m0;go_enter Tryd.func12,Tryd.ntmps12
  go_upto_region 4 with (go_at_call 36;(with_reducible refine H0.out.mono ?_);rintro e w1 ⟨s,rfl,hs,hb⟩;have HB:=Aside0.mk hb;clear hb)
  have H1:Aside0 (∀W,Calls Tryd.prog 29 #[.string s] W fun e w'=>e= .returned (.tuple #[.agg #[.int .i64 (readV s).1,.int .i64 (readV s).2.1],.bool (readV s).2.2])∧Below W.heap.size W w'):=⟨fun W=>spec_ValRead_any s W⟩
  have H2:Aside0 (∀W,Below w.heap.size w W→Calls Tryd.prog 26 #[.string s] W fun e w'=>e= .returned (.tuple #[.agg #[.int .i64 (readV s).1,.int .i64 (readV s).2.1],.bool (readV s).2.2])∧Below W.heap.size W w'):=
    ⟨fun W hW=>impl_ValRead_any s W (by omega) (HT.out.below hW) (HE.out.below hW)⟩
  have hyes: ∀k n,readV s=(k,n,true)→okP k n∧vtext k n=s:=fun k n h=>readV_yes h
  have HV:Aside0 (∀k n W,Below w.heap.size w W→Calls Tryd.prog 19 #[.agg #[.int .i64 k,.int .i64 n]] W fun e w'=>e= .returned (.string (vtext k n))∧Below W.heap.size W w'):=⟨fun k n W hW=>impl_ValText_any k n W (HT.out.below hW)⟩
  obtain⟨rv,hrv⟩: ∃rv,rv=readV s:=⟨_,rfl⟩;rw[←hrv]at H1 H2 hyes
  clear hrv;obtain⟨rk,rn,rb⟩:=rv;cases rb with
  |false=>
    clear hyes
    go_wp2_with (first
      |(go_at_call 29;(with_reducible refine(H1.out _).mono ?_);rintro e w2 ⟨rfl,hb⟩;replace HB:=Aside0.mk (Hold.new (below_step HB.out hb) (.cells #[.int .i64 rk,.int .i64 rn] 25));clear hb)
      |(go_at_call 26;(with_reducible refine(H2.out _ HB.out.below).mono ?_);rintro e w3 ⟨rfl,hb⟩;replace HB:=Aside0.mk (Hold2.new (HB.out.step hb) (.cells #[.int .i64 rk,.int .i64 rn] 25));clear hb;obtain⟨c0,c1⟩:=box2 HB.out.blk;obtain⟨d0,d1⟩:=box2 HB.out.blk2))
    go_ret
    exact⟨rfl,HB.out.below⟩
  |true=>
    obtain⟨hp,hv⟩:=hyes rk rn rfl
    have HO:Aside0 (∀W,Calls Tryd.prog 27 #[.agg #[.int .i64 rk,.int .i64 rn]] W fun e w'=>e= .returned (.bool true)∧Below W.heap.size W w'):=⟨fun W=>by
      have:=valok_any rk rn W;rwa [okB_true.2 hp]at this⟩
    have HX:Aside0 (∀W,Below w.heap.size w W→Calls Tryd.prog 19 #[.agg #[.int .i64 rk,.int .i64 rn]] W fun e w'=>e= .returned (.string s)∧Below W.heap.size W w'):=⟨fun W hW=>by
      have:=HV.out rk rn W hW;rwa [hv]at this⟩
    clear hyes hp hv HV
    go_wp2_with (first
      |(go_at_call 29;(with_reducible refine(H1.out _).mono ?_);rintro e w2 ⟨rfl,hb⟩;replace HB:=Aside0.mk (Hold.new (below_step HB.out hb) (.cells #[.int .i64 rk,.int .i64 rn] 25));clear hb)
      |(go_at_call 26;(with_reducible refine(H2.out _ HB.out.below).mono ?_);rintro e w3 ⟨rfl,hb⟩;replace HB:=Aside0.mk (Hold2.new (HB.out.step hb) (.cells #[.int .i64 rk,.int .i64 rn] 25));clear hb;obtain⟨c0,c1⟩:=box2 HB.out.blk;obtain⟨d0,d1⟩:=box2 HB.out.blk2)
      |(go_at_call 27;(with_reducible refine(HO.out _).mono ?_);rintro e w4 ⟨rfl,hb⟩;replace HB:=Aside0.mk (HB.out.step hb);clear hb;obtain⟨c0,c1⟩:=box2 HB.out.blk;obtain⟨d0,d1⟩:=box2 HB.out.blk2)
      |(go_at_call 19;(with_reducible refine(HX.out _ HB.out.below).mono ?_);rintro e w5 ⟨rfl,hb⟩;replace HB:=Aside0.mk (HB.out.step hb);clear hb))
    go_ret
    exact⟨by simp,HB.out.below⟩
end Go.Proofs.YtmklpbmlgjkbiaaDoor.PS
end
