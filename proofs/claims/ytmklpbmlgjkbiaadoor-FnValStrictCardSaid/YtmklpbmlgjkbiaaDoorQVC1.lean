/- What the rows of VC rest on, part 2. -/
import Derived.Test.YtmklpbmlgjkbiaaDoorProg
import Derived.Deep.RegionWith
import Derived.Lib.Bytealg
import Derived.Shelf.Strings.Search3
import Derived.WalkSpells
import Derived.Shelf.Strings.Builder1
import Derived.Shelf.Utf8.RuneCount
import Derived.Shelf.Strconv.Atoi
import Derived.Shelf.Strconv.Itoa0
import Derived.Shelf.Strconv.Itoa1
import Derived.Shelf.LaysM
import Derived.Shelf.Strconv.Itoa2
import Derived.Shelf.Strconv.Itoa3
import Derived.Shelf.Strconv.AtoiErrFast
import Derived.Shelf.Strconv.ParseIntEmpty
import Derived.Shelf.Strconv.AtoiFail
import Derived.Shelf.Strconv.Clone
import Derived.Shelf.Strconv.SyntaxError
import Derived.Shelf.LaysC
import Derived.Shelf.Strconv.ToError
import Derived.Shelf.Strconv.Lower
import Derived.Shelf.Strconv.ParseUint10
import Derived.Shelf.Strconv.ParseUint10Empty
import Derived.Shelf.Strconv.ParseUint10Any
import Derived.Shelf.Strconv.ParseInt10
import Derived.Shelf.Strconv.AtoiLong
import Derived.Shelf.Strconv.AtoiInnerAll
import Derived.Shelf.Strconv.RangeError
import Derived.Shelf.Strconv.ToErrorRange
import Derived.Shelf.Strconv.AtoiAll
import Derived.Shelf.Strconv.ErrVarAll
import Derived.Shelf.Strings.Search1
import Derived.Shelf.Strings.Search2
import Derived.Shelf.Strings.Count
import Derived.Shelf.Strings.Shaped
import Derived.Shelf.Strings.Split
import Derived.Shelf.Strings.SplitShaped
import Derived.Shelf.Unicode.Decode
import Derived.Shelf.Strings.RuneCount
import Derived.Shelf.Strings.Explode
import Derived.Shelf.Unicode.DecodeSlow
import Derived.Shelf.Unicode.DecodeAny
import Derived.WalkSmall
import Derived.Lib.AppendIntMem
import Derived.RegionTactic
import Derived.Lib.AtoiErrMem
import Derived.Test.YtmklpbmlgjkbiaaDoorRows
import Derived.Stop.LaidErr
import Derived.Lib.LaidTab
import Derived.LaidMore
import Derived.MakeChecks
import Derived.ProofKit
import Derived.OpenShut
import Derived.ChangeOld
import Derived.Test.YtmklpbmlgjkbiaaDoorQVC0
set_option linter.unusedVariables false
set_option linter.unusedSimpArgs false
set_option maxHeartbeats 8000000
set_option maxRecDepth 100000
section
namespace Go.Proofs.YtmklpbmlgjkbiaaDoor.PS
open Go.RowKit Go.Proofs.YtmklpbmlgjkbiaaDoorW.PrintWords Go.Proofs.YtmklpbmlgjkbiaaDoorW.PrintLast Go.Proofs.YtmklpbmlgjkbiaaDoorW.PrintMore
attribute [local go_sem] max2_int min2_int max_two min_two max_three min_three max_four min_four   -- for this text's walks alone
def errW:Option Int→Value
  |none=>.nilIface
  |some c=>.iface 0 (.int .i64 c)
theorem errW_none:errW none= .nilIface:=rfl
theorem errW_some (c:Int):errW (some c)= .iface 0 (.int .i64 c):=rfl
theorem info5:(Tryd.prog.info? 5).map (fun i=>(i.zero,i.size,i.bytes))=some (some (.int .u8 0),1,1):=by kernel_rfl
structure S145 where
  f0:Int
  f1:Int
def z145:S145:=⟨(0:Int),(0:Int)⟩
end Go.Proofs.YtmklpbmlgjkbiaaDoor.PS
end
section
namespace Go.Proofs.YtmklpbmlgjkbiaaDoor.PS
open Go.RowKit Go.Proofs.YtmklpbmlgjkbiaaDoorW.PrintWords Go.Proofs.YtmklpbmlgjkbiaaDoorW.PrintLast
def okP (k n:Int):Prop:=(k=0∧n=0)∨(k=1∧ -99≤n∧n≤99)∨(k=2∧0≤n∧n≤9)∨(k=3∧1≤n∧n≤6)
instance (k n:Int):Decidable (okP k n):=by unfold okP;infer_instance
def okB (k n:Int):Bool:=decide (okP k n)
theorem okB_true {k n:Int} :okB k n=true ↔ okP k n:=by simp[okB]
def hasR (k:Int):Bool:=decide (1≤k∧k≤14∧k≠9∧k≠13)
def hasS (k:Int):Bool:=decide (k=2∨k=3∨k=6∨k=7∨k=8)
def hasT (k:Int):Bool:=decide (k=5∨k=8∨k=9∨k=10)
def hasV (k:Int):Bool:=decide (k=1∨k=8∨k=10∨k=13)
def valP (k vk vn:Int):Prop:=okP vk vn∧(k=8→vk=1∧1≤vn)∧(k=13→vk=1∧0≤vn∧vn≤1)
instance (k vk vn:Int):Decidable (valP k vk vn):=by unfold valP;infer_instance
def opP (k r s t vk vn:Int):Prop:=
  (1≤k∧k≤14)∧valP k vk vn∧(r=0∨(hasR k=true∧0≤r∧r≤3))∧(s=0∨(hasS k=true∧0≤s∧s≤3))∧
    (t=0∨(hasT k=true∧0≤t∧t≤15))∧(hasV k=true∨(vk=0∧vn=0))
instance (k r s t vk vn:Int):Decidable (opP k r s t vk vn):=by unfold opP;infer_instance
theorem in_any (a b c:Int) (w:World):Calls Tryd.prog 55 #[.int .i64 a,.int .i64 b,.int .i64 c] w fun e w'=>e= .returned (.bool (decide (b≤a∧a≤c)))∧w=w':=by
  by_cases h1:b≤a<;>by_cases h2:a≤c<;>(go_enter Tryd.func55,Tryd.ntmps55;go_wp2;go_ret;exact⟨by simp[h1,h2],rfl⟩)
theorem blk2 (w:World) (A B:Obj):((w.alloc A).alloc B).drew.heap[w.heap.size+1]?=some B:=by
  have:=blk_new (w.alloc A) B;rwa [World.size_alloc]at this
theorem eqA25 (d:Nat) (w:World) (x0 y0:Int) (x1 y1:Int):
    (Op.equalIn (d+2) 25 (.agg #[.int .i64 x0,.int .i64 x1]) (.agg #[.int .i64 y0,.int .i64 y1])).run Tryd.prog w= .ok (x0==y0&&(x1==y1)) w:=by
  refine eqA_of Tryd.underlying25 (by kernel_rfl) ?_
  refine eqf_cons (by rfl) (by go_simp;rfl) (by go_simp;rfl) (by go_simp) ?_
  exact eqf_last (by rfl) (by go_simp;rfl) (by go_simp;rfl) (by go_simp)
theorem valok_any (a b:Int) (w:World):Calls Tryd.prog 27 #[.agg #[.int .i64 a,.int .i64 b]] w fun e w'=>e= .returned (.bool (okB a b))∧Below w.heap.size w w':=by
  by_cases h0:a=0
  · subst h0
    have e:okB 0 b=(b==0):=by
      unfold okB okP;by_cases hb:b=0<;>simp[hb]
    rw[e];go_enter Tryd.func27,Tryd.ntmps27
    go_wp2
    go_ret
    exact⟨by first|rfl|simp,below_alloc (Below.refl _ _) _⟩
  by_cases h1:a=1
  · subst h1
    have e:okB 1 b=decide (-99≤b∧b≤99):=by unfold okB okP;simp
    rw[e];go_enter Tryd.func27,Tryd.ntmps27
    go_wp2_with (go_at_call 55;refine(in_any _ _ _ _).mono ?_;rintro e w' ⟨rfl,rfl⟩)
    go_ret
    exact⟨by first|rfl|simp,below_alloc (Below.refl _ _) _⟩
  by_cases h2:a=2
  · subst h2
    have e:okB 2 b=decide (0≤b∧b≤9):=by unfold okB okP;simp
    rw[e];go_enter Tryd.func27,Tryd.ntmps27
    go_wp2_with (go_at_call 55;refine(in_any _ _ _ _).mono ?_;rintro e w' ⟨rfl,rfl⟩)
    go_ret
    exact⟨by first|rfl|simp,below_alloc (Below.refl _ _) _⟩
  by_cases h3:a=3
  · subst h3
    have e:okB 3 b=decide (1≤b∧b≤6):=by unfold okB okP;simp
    rw[e];go_enter Tryd.func27,Tryd.ntmps27
    go_wp2_with (go_at_call 55;refine(in_any _ _ _ _).mono ?_;rintro e w' ⟨rfl,rfl⟩)
    go_ret
    exact⟨by first|rfl|simp,below_alloc (Below.refl _ _) _⟩
  have e:okB a b=false:=by unfold okB okP;simp[h0,h1,h2,h3]
  rw[e];have b0:(a==0)=false:=by simpa using h0
  have b1:(a==1)=false:=by simpa using h1
  have b2:(a==2)=false:=by simpa using h2
  have b3:(a==3)=false:=by simpa using h3
  go_enter Tryd.func27,Tryd.ntmps27
  go_wp2
  go_ret
  exact⟨rfl,below_alloc (Below.refl _ _) _⟩
end Go.Proofs.YtmklpbmlgjkbiaaDoor.PS
end
section
namespace Go.Proofs
open Go.Shelf
def Tryd.laysM171_ren:Go.Shelf.Ren:=⟨fun|171=>44|243=>70|246=>82|283=>94|284=>95|285=>96|286=>97|129=>106|317=>105|318=>107|319=>108|320=>109|337=>117|338=>118|n=>n,fun|3=>3|9=>9|2=>2|4=>4|171=>115|0=>0|53=>116|37=>28|5=>5|173=>119|212=>133|51=>134|20=>20|213=>135|46=>123|232=>148|233=>149|n=>n,fun|17=>2|18=>6|19=>7|n=>n⟩
theorem Tryd.laysM171:Go.Proofs.LaysM.n171 Tryd.prog Tryd.laysM171_ren:= {
  mixed:=by kernel_rfl
  f129:=Tryd.func106.trans (congrArg some (by kernel_rfl))
  f171:=Tryd.func44.trans (congrArg some (by kernel_rfl))
  f243:=Tryd.func70.trans (congrArg some (by kernel_rfl))
  f246:=Tryd.func82.trans (congrArg some (by kernel_rfl))
  f283:=Tryd.func94.trans (congrArg some (by kernel_rfl))
  f284:=Tryd.func95.trans (congrArg some (by kernel_rfl))
  f285:=Tryd.func96.trans (congrArg some (by kernel_rfl))
  f286:=Tryd.func97.trans (congrArg some (by kernel_rfl))
  f317:=Tryd.func105.trans (congrArg some (by kernel_rfl))
  f318:=Tryd.func107.trans (congrArg some (by kernel_rfl))
  f319:=Tryd.func108.trans (congrArg some (by kernel_rfl))
  f320:=Tryd.func109.trans (congrArg some (by kernel_rfl))
  f337:=Tryd.func117.trans (congrArg some (by kernel_rfl))
  f338:=Tryd.func118.trans (congrArg some (by kernel_rfl))
  t0:=Tryd.underlying0
  a0:=Tryd.isAgg0
  z0:=Tryd.sizeOf0
  v0:=Tryd.zeroValue0
  t2:=Tryd.underlying2
  a2:=Tryd.isAgg2
  z2:=Tryd.sizeOf2
  v2:=Tryd.zeroValue2
  t3:=Tryd.underlying3
  a3:=Tryd.isAgg3
  z3:=Tryd.sizeOf3
  v3:=Tryd.zeroValue3
  t4:=Tryd.underlying4
  a4:=Tryd.isAgg4
  z4:=Tryd.sizeOf4
  v4:=Tryd.zeroValue4
  t5:=Tryd.underlying5
  a5:=Tryd.isAgg5
  z5:=Tryd.sizeOf5
  v5:=Tryd.zeroValue5
  t9:=Tryd.underlying9
  a9:=Tryd.isAgg9
  z9:=Tryd.sizeOf9
  v9:=Tryd.zeroValue9
  t20:=Tryd.underlying20
  a20:=Tryd.isAgg20
  z20:=Tryd.sizeOf20
  v20:=Tryd.zeroValue20
  t37:=Tryd.underlying28
  a37:=Tryd.isAgg28
  z37:=Tryd.sizeOf28
  v37:=Tryd.zeroValue28
  t46:=Tryd.underlying123
  a46:=Tryd.isAgg123
  z46:=Tryd.sizeOf123
  v46:=Tryd.zeroValue123
  t51:=Tryd.underlying134
  a51:=Tryd.isAgg134
  z51:=Tryd.sizeOf134
  v51:=Tryd.zeroValue134
  t53:=Tryd.underlying116
  a53:=Tryd.isAgg116
  z53:=Tryd.sizeOf116
  v53:=Tryd.zeroValue116
  t171:=Tryd.underlying115
  a171:=Tryd.isAgg115
  z171:=Tryd.sizeOf115
  v171:=Tryd.zeroValue115
  t173:=Tryd.underlying119
  a173:=Tryd.isAgg119
  z173:=Tryd.sizeOf119
  v173:=Tryd.zeroValue119
  t212:=Tryd.underlying133
  a212:=Tryd.isAgg133
  z212:=Tryd.sizeOf133
  v212:=Tryd.zeroValue133
  t213:=Tryd.underlying135
  a213:=Tryd.isAgg135
  z213:=Tryd.sizeOf135
  t232:=Tryd.underlying148
  a232:=Tryd.isAgg148
  z232:=Tryd.sizeOf148
  v232:=Tryd.zeroValue148
  t233:=Tryd.underlying149
  a233:=Tryd.isAgg149
  z233:=Tryd.sizeOf149
  v233:=Tryd.zeroValue149
  g17:=by kernel_rfl
  g18:=by kernel_rfl
  g19:=by kernel_rfl
  i0:=by kernel_rfl
  i2:=by kernel_rfl
  i3:=by kernel_rfl
  i4:=by kernel_rfl
  i5:=by kernel_rfl
  i9:=by kernel_rfl
  i20:=by kernel_rfl
  i37:=by kernel_rfl
  i46:=by kernel_rfl
  i51:=by kernel_rfl
  i53:=by kernel_rfl
  i171:=by kernel_rfl
  i173:=by kernel_rfl
  i212:=by kernel_rfl
  i232:=by kernel_rfl
  i233:=by kernel_rfl
  m17:=by kernel_rfl
  m18:=by kernel_rfl
  m19:=by kernel_rfl }
open Go.RowKit Go.Sort Go.Lib in
theorem Tryd.strconv_Itoa (n:Int) (h0: -9223372036854775808≤n) (h1:n≤9223372036854775807) (w:World) (htab:Lib.TabIs Tryd.prog w "internal/strconv.uint64pow10" .u64 Lib.pow10Tab):
    Calls Tryd.prog 44 #[.int .i64 n] w fun e w'=>e= .returned (.string ⟨(Lib.itoa n).toArray⟩)∧ ∃k os,w'=grow (w.drewN k) os:=Any.strconv_Itoa Tryd.laysM171 n h0 h1 w htab
def Tryd.laysC172_ren:Go.Shelf.Ren:=⟨fun|172=>54|244=>75|245=>76|247=>85|279=>86|280=>87|281=>88|282=>89|287=>99|316=>100|171=>44|205=>101|321=>114|322=>115|243=>70|246=>82|283=>94|284=>95|285=>96|286=>97|129=>106|317=>105|318=>107|319=>108|320=>109|337=>117|338=>118|n=>n,fun|9=>9|3=>3|75=>72|76=>73|4=>4|5=>5|167=>105|37=>28|0=>0|85=>106|2=>2|168=>108|53=>116|175=>121|46=>123|210=>126|127=>101|145=>140|143=>138|21=>21|171=>115|173=>119|212=>133|51=>134|20=>20|213=>135|232=>148|233=>149|80=>82|n=>n,fun|15=>0|16=>1|17=>2|18=>6|19=>7|n=>n⟩
theorem Tryd.laysC172:Go.Proofs.LaysC.n172 Tryd.prog Tryd.laysC172_ren:= {
  mixed:=by kernel_rfl
  f129:=Tryd.func106.trans (congrArg some (by kernel_rfl))
  f171:=Tryd.func44.trans (congrArg some (by kernel_rfl))
  f172:=Tryd.func54.trans (congrArg some (by kernel_rfl))
  f205:=Tryd.func101.trans (congrArg some (by kernel_rfl))
  f243:=Tryd.func70.trans (congrArg some (by kernel_rfl))
  f244:=Tryd.func75.trans (congrArg some (by kernel_rfl))
  f245:=Tryd.func76.trans (congrArg some (by kernel_rfl))
  f246:=Tryd.func82.trans (congrArg some (by kernel_rfl))
  f247:=Tryd.func85.trans (congrArg some (by kernel_rfl))
  f279:=Tryd.func86.trans (congrArg some (by kernel_rfl))
  f280:=Tryd.func87.trans (congrArg some (by kernel_rfl))
  f281:=Tryd.func88.trans (congrArg some (by kernel_rfl))
  f282:=Tryd.func89.trans (congrArg some (by kernel_rfl))
  f283:=Tryd.func94.trans (congrArg some (by kernel_rfl))
  f284:=Tryd.func95.trans (congrArg some (by kernel_rfl))
  f285:=Tryd.func96.trans (congrArg some (by kernel_rfl))
  f286:=Tryd.func97.trans (congrArg some (by kernel_rfl))
  f287:=Tryd.func99.trans (congrArg some (by kernel_rfl))
  f316:=Tryd.func100.trans (congrArg some (by kernel_rfl))
  f317:=Tryd.func105.trans (congrArg some (by kernel_rfl))
  f318:=Tryd.func107.trans (congrArg some (by kernel_rfl))
  f319:=Tryd.func108.trans (congrArg some (by kernel_rfl))
  f320:=Tryd.func109.trans (congrArg some (by kernel_rfl))
  f321:=Tryd.func114.trans (congrArg some (by kernel_rfl))
  f322:=Tryd.func115.trans (congrArg some (by kernel_rfl))
  f337:=Tryd.func117.trans (congrArg some (by kernel_rfl))
  f338:=Tryd.func118.trans (congrArg some (by kernel_rfl))
  t0:=Tryd.underlying0
  a0:=Tryd.isAgg0
  z0:=Tryd.sizeOf0
  v0:=Tryd.zeroValue0
  t2:=Tryd.underlying2
  a2:=Tryd.isAgg2
  z2:=Tryd.sizeOf2
  v2:=Tryd.zeroValue2
  t3:=Tryd.underlying3
  a3:=Tryd.isAgg3
  z3:=Tryd.sizeOf3
  v3:=Tryd.zeroValue3
  t4:=Tryd.underlying4
  a4:=Tryd.isAgg4
  z4:=Tryd.sizeOf4
  v4:=Tryd.zeroValue4
  t5:=Tryd.underlying5
  a5:=Tryd.isAgg5
  z5:=Tryd.sizeOf5
  v5:=Tryd.zeroValue5
  t9:=Tryd.underlying9
  a9:=Tryd.isAgg9
  z9:=Tryd.sizeOf9
  v9:=Tryd.zeroValue9
  t20:=Tryd.underlying20
  a20:=Tryd.isAgg20
  z20:=Tryd.sizeOf20
  v20:=Tryd.zeroValue20
  t21:=Tryd.underlying21
  a21:=Tryd.isAgg21
  z21:=Tryd.sizeOf21
  v21:=Tryd.zeroValue21
  t37:=Tryd.underlying28
  a37:=Tryd.isAgg28
  z37:=Tryd.sizeOf28
  v37:=Tryd.zeroValue28
  t46:=Tryd.underlying123
  a46:=Tryd.isAgg123
  z46:=Tryd.sizeOf123
  v46:=Tryd.zeroValue123
  t51:=Tryd.underlying134
  a51:=Tryd.isAgg134
  z51:=Tryd.sizeOf134
  v51:=Tryd.zeroValue134
  t53:=Tryd.underlying116
  a53:=Tryd.isAgg116
  z53:=Tryd.sizeOf116
  v53:=Tryd.zeroValue116
  t75:=Tryd.underlying72
  a75:=Tryd.isAgg72
  z75:=Tryd.sizeOf72
  v75:=Tryd.zeroValue72
  t76:=Tryd.underlying73
  a76:=Tryd.isAgg73
  z76:=Tryd.sizeOf73
  v76:=Tryd.zeroValue73
  t85:=Tryd.underlying106
  a85:=Tryd.isAgg106
  z85:=Tryd.sizeOf106
  v85:=Tryd.zeroValue106
  t127:=Tryd.underlying101
  a127:=Tryd.isAgg101
  z127:=Tryd.sizeOf101
  v127:=Tryd.zeroValue101
  t143:=Tryd.underlying138
  a143:=Tryd.isAgg138
  z143:=Tryd.sizeOf138
  v143:=Tryd.zeroValue138
  t145:=Tryd.underlying140
  a145:=Tryd.isAgg140
  z145:=Tryd.sizeOf140
  v145:=Tryd.zeroValue140
  t167:=Tryd.underlying105
  a167:=Tryd.isAgg105
  z167:=Tryd.sizeOf105
  v167:=Tryd.zeroValue105
  t168:=Tryd.underlying108
  a168:=Tryd.isAgg108
  z168:=Tryd.sizeOf108
  v168:=Tryd.zeroValue108
  t171:=Tryd.underlying115
  a171:=Tryd.isAgg115
  z171:=Tryd.sizeOf115
  v171:=Tryd.zeroValue115
  t173:=Tryd.underlying119
  a173:=Tryd.isAgg119
  z173:=Tryd.sizeOf119
  v173:=Tryd.zeroValue119
  t175:=Tryd.underlying121
  a175:=Tryd.isAgg121
  z175:=Tryd.sizeOf121
  v175:=Tryd.zeroValue121
  t210:=Tryd.underlying126
  a210:=Tryd.isAgg126
  z210:=Tryd.sizeOf126
  v210:=Tryd.zeroValue126
  t212:=Tryd.underlying133
  a212:=Tryd.isAgg133
  z212:=Tryd.sizeOf133
  v212:=Tryd.zeroValue133
  t213:=Tryd.underlying135
  a213:=Tryd.isAgg135
  z213:=Tryd.sizeOf135
  t232:=Tryd.underlying148
  a232:=Tryd.isAgg148
  z232:=Tryd.sizeOf148
  v232:=Tryd.zeroValue148
  t233:=Tryd.underlying149
  a233:=Tryd.isAgg149
  z233:=Tryd.sizeOf149
  v233:=Tryd.zeroValue149
  g15:=by kernel_rfl
  g16:=by kernel_rfl
  g17:=by kernel_rfl
  g18:=by kernel_rfl
  g19:=by kernel_rfl
  t80:=Tryd.underlying82
  a80:=Tryd.isAgg82
  z80:=Tryd.sizeOf82
  v80:=Tryd.zeroValue82
  i0:=by kernel_rfl
  i2:=by kernel_rfl
  i3:=by kernel_rfl
  i4:=by kernel_rfl
  i5:=by kernel_rfl
  i9:=by kernel_rfl
  i20:=by kernel_rfl
  i21:=by kernel_rfl
  i37:=by kernel_rfl
  i46:=by kernel_rfl
  i51:=by kernel_rfl
  i53:=by kernel_rfl
  i75:=by kernel_rfl
  i76:=by kernel_rfl
  i80:=by kernel_rfl
  i85:=by kernel_rfl
  i127:=by kernel_rfl
  i143:=by kernel_rfl
  i145:=by kernel_rfl
  i167:=by kernel_rfl
  i168:=by kernel_rfl
  i171:=by kernel_rfl
  i173:=by kernel_rfl
  i175:=by kernel_rfl
  i210:=by kernel_rfl
  i212:=by kernel_rfl
  i232:=by kernel_rfl
  i233:=by kernel_rfl
  m15:=by kernel_rfl
  m16:=by kernel_rfl
  m17:=by kernel_rfl
  m18:=by kernel_rfl
  m19:=by kernel_rfl
  c0:=by kernel_rfl
  c2:=by kernel_rfl
  c3:=by kernel_rfl
  c4:=by kernel_rfl
  c5:=by kernel_rfl
  c9:=by kernel_rfl
  c20:=by kernel_rfl
  c21:=by kernel_rfl
  c37:=by kernel_rfl
  c46:=by kernel_rfl
  c51:=by kernel_rfl
  c53:=by kernel_rfl
  c75:=by kernel_rfl
  c76:=by kernel_rfl
  c80:=by kernel_rfl
  c85:=by kernel_rfl
  c127:=by kernel_rfl
  c143:=by kernel_rfl
  c145:=by kernel_rfl
  c167:=by kernel_rfl
  c168:=by kernel_rfl
  c171:=by kernel_rfl
  c173:=by kernel_rfl
  c175:=by kernel_rfl
  c210:=by kernel_rfl
  c212:=by kernel_rfl
  c213:=by kernel_rfl
  c232:=by kernel_rfl
  c233:=by kernel_rfl }
open Go.RowKit in
theorem Tryd.strconv_Atoi_ok (s:ByteArray) (hmax:s.size≤9223372036854775806) (v:Int) (h:Lib.atoiAll s.data.toList= .ok v) (w:World):
    Calls Tryd.prog 54 #[.string s] w fun e w'=>e= .returned (.tuple #[.int .i64 v,.nilIface])∧(w'=w∨ ∃t,w'=Lib.bytesWorld w 5 t):=Any.strconv_Atoi_ok Tryd.laysC172 s hmax v h w
open Go.RowKit in
theorem Tryd.strconv_Atoi_range (s:ByteArray) (hlim:s.size≤281474976710656) (h:Lib.atoiAll s.data.toList= .range) (ev:Value) (w:World) (hv:w.cell? ⟨1,0,none⟩=some ev) (hev:ev= .nilIface∨ ∃te pe,ev= .iface te pe):
    Calls Tryd.prog 54 #[.string s] w fun e w'=> ∃N,e= .returned (.tuple #[.int .i64 (Lib.atoiSat s.data.toList),.iface 108 (.pointer (some ⟨N,0,none⟩))])∧w.heap.size≤N∧w'.heap[N]?=some (.cells #[.string ⟨#[65,116,111,105]⟩,.string s,ev] 126 (0,0))∧Below w.heap.size w w':=Any.strconv_Atoi_range Tryd.laysC172 s hlim h ev w hv hev
end Go.Proofs
end
section
namespace Go.Proofs.YtmklpbmlgjkbiaaDoor.PS
open Go.RowKit Go.Proofs.YtmklpbmlgjkbiaaDoorW.PrintWords Go.Proofs.YtmklpbmlgjkbiaaDoorW.PrintLast
def dec2 (n:Nat):List UInt8:=if n<10 then [UInt8.ofNat (48+n)]else [UInt8.ofNat (48+n/10),UInt8.ofNat (48+n%10)]
def itoaS (n:Int):List UInt8:=if n<0 then 45::dec2 n.natAbs else dec2 n.toNat
theorem decDigits_2 (n:Nat) (h:n<100):Lib.decDigits n=dec2 n:=by
  unfold dec2;by_cases h1:n<10
  · rw[if_pos h1,Lib.decDigits];simp[h1]
  · rw[if_neg h1,Lib.decDigits];simp[h1]
    rw[Lib.decDigits];simp[show n/10<10 by omega]
theorem itoa_S (n:Int) (h0: -100<n) (h1:n<100):Lib.itoa n=itoaS n:=by
  unfold Lib.itoa itoaS;split<;>rw[decDigits_2 _ (by omega)]
def letterB (k:Int):UInt8:=if k=1 then 110 else if k=2 then 97 else 114
def vtext (k n:Int):ByteArray:=if okB k n=true then(if k=0 then⟨#[110,111,110,101]⟩else⟨(letterB k::itoaS n).toArray⟩)else⟨#[]⟩
def Tab (w:World):Prop:=Lib.TabIs Tryd.prog w "internal/strconv.uint64pow10" .u64 Lib.pow10Tab∧8≤w.heap.size
theorem Tab.below {w w':World} (h:Tab w) (hb:Below w.heap.size w w'):Tab w':=
  ⟨var?_below hb (show Tryd.prog.globalNamed "internal/strconv.uint64pow10" =some 2 by kernel_rfl) (by have:=h.2;omega) h.1,Nat.le_trans h.2 hb.size⟩
theorem itoa_call (n:Int) (w:World) (h0: -100<n) (h1:n<100) (hT:Tab w):
    Calls Tryd.prog 44 #[.int .i64 n] w fun e w'=>e= .returned (.string ⟨(itoaS n).toArray⟩)∧Below w.heap.size w w':=by
  refine(Tryd.strconv_Itoa n (by omega) (by omega) w hT.1).mono ?_
  rintro e w' ⟨rfl,k,os,rfl⟩
  exact⟨by rw[itoa_S n h0 h1],Lib.below_grow _ _ (Nat.le_refl _) _ _⟩
theorem vtext_bad {k n:Int} (h:okB k n=false):vtext k n=⟨#[]⟩:=by unfold vtext;simp[h]
theorem impl_ValText_any (k n:Int) (w:World) (hT:Tab w):
    Calls Tryd.prog 19 #[.agg #[.int .i64 k,.int .i64 n]] w fun e w'=>e= .returned (.string (vtext k n))∧Below w.heap.size w w':=by
  obtain⟨g,hg⟩: ∃g,g=okB k n:=⟨_,rfl⟩;have hv:=valok_any k n;have hA:Aside0 (∀W,Calls Tryd.prog 27 #[.agg #[.int .i64 k,.int .i64 n]] W fun e w'=>e= .returned (.bool g)∧Below W.heap.size W w'):=⟨by rw[hg];exact hv⟩
  have HG:=Aside0.mk hg;clear hv hg;have HT:=Aside0.mk hT;clear hT;cases g with
  |false=>
    rw[vtext_bad HG.out.symm];go_enter Tryd.func19,Tryd.ntmps19
    go_wp2_with (go_at_call 27;refine(hA.out _).mono ?_;rintro e w' ⟨rfl,hb⟩)
    go_ret
    exact⟨rfl,below_step (below_alloc (Below.refl _ _) _) hb⟩
  |true=>
    have hok:=okB_true.1 HG.out.symm;by_cases h0:k=0
    · subst h0
      have e0:Aside0 (vtext 0 n=⟨#[110,111,110,101]⟩):=⟨by unfold vtext;rw[←HG.out];rfl⟩
      rw[e0.out];clear hok;go_enter Tryd.func19,Tryd.ntmps19
      go_wp2_with (go_at_call 27;refine(hA.out _).mono ?_;rintro e w' ⟨rfl,hb⟩;have hc:=hb.cell (p:=⟨w.heap.size,0,none⟩) (by simp))
      go_ret
      exact⟨rfl,below_step (below_alloc (Below.refl _ _) _) hb⟩
    · have hn: -100<n∧n<100:=by unfold okP at hok;omega
      obtain⟨hn0,hn1⟩:=hn;have hb': ∀ {W W':World},Below W.heap.size W W'→ ∀b o,b<W.heap.size→W'.cell? ⟨b,o,none⟩=W.cell? ⟨b,o,none⟩:=fun hb b o h=>hb.cell (p:=⟨b,o,none⟩) h
      have HB0:=Aside0.mk (below_alloc (Below.refl w.heap.size w) (.cells #[.int .i64 k,.int .i64 n] 25));have hk:k=1∨k=2∨k=3:=by unfold okP at hok;omega
      have e1:Aside0 (vtext k n=⟨#[letterB k]⟩++⟨(itoaS n).toArray⟩):=⟨by unfold vtext;rw[←HG.out];simp[h0];rfl⟩
      rw[e1.out]
      have HI:Aside0 (∀W,Below w.heap.size w W→Calls Tryd.prog 44 #[.int .i64 n] W fun e w'=>e= .returned (.string ⟨(itoaS n).toArray⟩)∧Below W.heap.size W w'):=
        ⟨fun W hW=>itoa_call n W hn0 hn1 (HT.out.below hW)⟩
      obtain⟨X,hX⟩: ∃X,X=itoaS n:=⟨_,rfl⟩;have hXs:X.length≤3:=by rw[hX];unfold itoaS dec2;split<;>split<;>simp
      rw[←hX]at HI⊢
      clear hX hok HG e1;have hw0:IntKind.i64.wrap 0=0:=by kernel_rfl
      have hw1:IntKind.i64.wrap 1=1:=by kernel_rfl
      have hw2:IntKind.i64.wrap 2=2:=by kernel_rfl
      have hs1: ∀W,Sem.run Tryd.prog (Instr.slice 9 (.string ⟨#[110,97,114]⟩) (some (.int .i64 0)) (some (.int .i64 1)) none) W= .ok (.string ⟨#[110]⟩) W:=fun _=>by kernel_rfl
      have hs2: ∀W,Sem.run Tryd.prog (Instr.slice 9 (.string ⟨#[110,97,114]⟩) (some (.int .i64 1)) (some (.int .i64 2)) none) W= .ok (.string ⟨#[97]⟩) W:=fun _=>by kernel_rfl
      have hs3: ∀W,Sem.run Tryd.prog (Instr.slice 9 (.string ⟨#[110,97,114]⟩) (some (.int .i64 2)) (some (.int .i64 3)) none) W= .ok (.string ⟨#[114]⟩) W:=fun _=>by kernel_rfl
      have x1:decide (1+X.length≤9223372036854775807)=true:=decide_eq_true (by omega)
      have x2:(9223372036854775807<1+X.length)=False:=eq_false (by omega)
      have x3:(1+X.length≤9223372036854775807)=True:=eq_true (by omega)
      rcases hk with rfl|rfl|rfl
      all_goals
        go_enter Tryd.func19,Tryd.ntmps19
        go_wp2_with (go_at_call 27;refine(hA.out _).mono ?_;rintro e w1 ⟨rfl,hb⟩;have hc0:=hb.cell (p:=⟨w.heap.size,0,none⟩) (by simp);have hc1:=hb.cell (p:=⟨w.heap.size,1,none⟩) (by simp);have HB1:=Aside0.mk (below_step HB0.out hb);have hsz:w.heap.size<w1.heap.size:=(by have:=hb.size;rw[World.size_alloc]at this;exact this);clear hb)
        go_region_held3 (fun w'=>w'.cell? ⟨w.heap.size,0,none⟩=w1.cell? ⟨w.heap.size,0,none⟩∧w'.cell? ⟨w.heap.size,1,none⟩=w1.cell? ⟨w.heap.size,1,none⟩) (go_keep) ((go_at_call 44;refine(HI.out _ (below_drew1 HB1.out)).mono ?_;rintro e w2 ⟨rfl,hb⟩;have q0:=hb.cell (p:=⟨w.heap.size,0,none⟩) hsz;have q1:=hb.cell (p:=⟨w.heap.size,1,none⟩) hsz;have HB2:=Aside0.mk (below_step (below_drew1 HB1.out) hb);clear hb))
        go_wp2
        go_ret
        exact⟨rfl,HB2.out⟩
end Go.Proofs.YtmklpbmlgjkbiaaDoor.PS
end
section
namespace Go.Proofs.YtmklpbmlgjkbiaaDoor.PS
open Go.RowKit Go.Proofs.YtmklpbmlgjkbiaaDoorW.PrintWords Go.Proofs.YtmklpbmlgjkbiaaDoorW.PrintLast Go.Proofs.YtmklpbmlgjkbiaaDoorW.PrintMore
attribute [local go_sem] max2_int min2_int max_two min_two max_three min_three max_four min_four   -- for this text's walks alone
def spec_l6In.f (a0:Int) (a1:Int) (a2:Int):Option (Bool):=if a0≥a1 then(some (decide (a0≤a2)))else(some false)
theorem spec_l6In.calls (a0:Int) (a1:Int) (a2:Int) (r:Bool) (w:World) (h:spec_l6In.f a0 a1 a2=some r):
    Calls Tryd.prog 56 #[.int .i64 a0,.int .i64 a1,.int .i64 a2] w fun e w'=>e= .returned (.bool r)∧Drawn0 w w':=by
  have H:(if a0≥a1 then(some (decide (a0≤a2)))else(some false))=some r:=h
  clear h;by_cases c4:a0≥a1
  · rw[if_pos c4]at H
    have c4b0:decide (a1≤a0)=true:=decide_eq_true c4;clear c4;obtain rfl:=Option.some.inj H;go_enter Tryd.func56,Tryd.ntmps56
    go_wp2
    go_ret
    exact⟨by first|rfl|(simp;done)|(simp[*];done),by repeat(first|exact Drawn0.refl _|apply Drawn0.step)⟩
  · rw[if_neg c4]at H
    have c4b0:decide (a1≤a0)=false:=decide_eq_false c4;clear c4;obtain rfl:=Option.some.inj H;go_enter Tryd.func56,Tryd.ntmps56
    go_wp2
    go_ret
    exact⟨by first|rfl|(simp;done)|(simp[*];done),by repeat(first|exact Drawn0.refl _|apply Drawn0.step)⟩
def spec_ValOk.f (a0_0:Int) (a0_1:Int):Option (Bool):=if a0_0=0 then(some (a0_1==0))else(if a0_0=1 then((spec_l6In.f a0_1 (-99) 99).bind fun t156=>(some t156))else(if a0_0=2 then((spec_l6In.f a0_1 0 9).bind fun t157=>(some t157))else(if a0_0=3 then((spec_l6In.f a0_1 1 6).bind fun t158=>(some t158))else(some false))))
theorem spec_ValOk.calls (a0_0:Int) (a0_1:Int) (r:Bool) (w:World) (h:spec_ValOk.f a0_0 a0_1=some r):
    Calls Tryd.prog 42 #[.agg #[.int .i64 a0_0,.int .i64 a0_1]] w fun e w'=>e= .returned (.bool r)∧Below w.heap.size w w':=by
  have hu25:=Tryd.underlying25;have HB:=Aside0.mk (Below.refl w.heap.size w);have H:(if a0_0=0 then(some (a0_1==0))else(if a0_0=1 then((spec_l6In.f a0_1 (-99) 99).bind fun t156=>(some t156))else(if a0_0=2 then((spec_l6In.f a0_1 0 9).bind fun t157=>(some t157))else(if a0_0=3 then((spec_l6In.f a0_1 1 6).bind fun t158=>(some t158))else(some false)))))=some r:=h
  clear h;by_cases c2:a0_0=0
  · rw[if_pos c2]at H
    have c2b0:(a0_0==0)=true:=beq_iff_eq.mpr c2;have c2b1:(a0_0 !=0)=false:=bne_eq_false_iff_eq.mpr c2;clear c2;obtain rfl:=Option.some.inj H;go_enter Tryd.func42,Tryd.ntmps42
    go_wp2_with (first|((with_reducible refine gate_dst (N:=1) rfl ?_);refine box_event ?hg (N:=1) ?hd (cs:= #[.int .i64 a0_0,.int .i64 a0_1]) (t:=25) ?hr ?_;(case hd=>rfl);(case hg=>rfl);(case hr=>first|(go_simp;done)|(go_simp;rfl));intro gb155 hg w3 hbox hb;have n0_:=Aside0.mk (below_step (by repeat(first|(with_reducible first|exact HB.out|apply below_alloc|apply pw_below_drewN|apply below_drew1)|exact HB.out)) hb);have n1_:=Aside0.mk (hbox);have n2_:=Aside0.mk ((by rw[hg];exact(below_size (by repeat(first|(with_reducible first|exact HB.out|apply below_alloc|apply pw_below_drewN|apply below_drew1)|exact HB.out))):w.heap.size≤gb155));have n3_:=Aside0.mk ((by rw[hg];exact(below_size (by repeat(first|(with_reducible first|exact HB.out|apply below_alloc|apply pw_below_drewN|apply below_drew1)|exact HB.out))):w.heap.size≤gb155));clear HB;have HB:=n0_;have BK155:=n1_;have GW155:=n2_;have GE155:=n3_;clear n0_ n1_ n2_ n3_;clear hb hbox hg;have hcz4_0:w3.cell? ⟨gb155,0,none⟩=some (.int .i64 a0_0):=(blk_cell BK155.out 0).trans rfl;have hcz4_1:w3.cell? ⟨gb155,1,none⟩=some (.int .i64 a0_1):=(blk_cell BK155.out 1).trans rfl;have hfz4_0:=blk_frozen BK155.out 0;have hfz4_1:=blk_frozen BK155.out 1))
    go_ret
    exact⟨by first|rfl|(simp[errW_none,errW_some]<;>rfl)|(simp[*,errW_none,errW_some]<;>rfl),by repeat(first|(with_reducible first|exact HB.out|apply below_alloc|apply pw_below_drewN|apply below_drew1|refine below_set ?_ GE155.out)|exact HB.out)⟩
  · rw[if_neg c2]at H
    have c2b0:(a0_0==0)=false:=beq_eq_false_iff_ne.mpr c2;have c2b1:(a0_0 !=0)=true:=bne_iff_ne.mpr c2;by_cases c5:a0_0=1
    · rw[if_pos c5]at H
      have c5b0:(a0_0==1)=true:=beq_iff_eq.mpr c5;have c5b1:(a0_0 !=1)=false:=bne_eq_false_iff_eq.mpr c5;clear c5;replace H:=Option.bind_eq_some_iff.mp H;obtain⟨t156,A60,H⟩:=H;replace H:(some t156)=some r:=H;have A6:=Aside0.mk A60;clear A60;obtain rfl:=Option.some.inj H;go_enter Tryd.func42,Tryd.ntmps42
      go_wp2_with (first|((with_reducible refine gate_dst (N:=1) rfl ?_);refine box_event ?hg (N:=1) ?hd (cs:= #[.int .i64 a0_0,.int .i64 a0_1]) (t:=25) ?hr ?_;(case hd=>rfl);(case hg=>rfl);(case hr=>first|(go_simp;done)|(go_simp;rfl));intro gb155 hg w7 hbox hb;have n0_:=Aside0.mk (below_step (by repeat(first|(with_reducible first|exact HB.out|apply below_alloc|apply pw_below_drewN|apply below_drew1)|exact HB.out)) hb);have n1_:=Aside0.mk (hbox);have n2_:=Aside0.mk ((by rw[hg];exact(below_size (by repeat(first|(with_reducible first|exact HB.out|apply below_alloc|apply pw_below_drewN|apply below_drew1)|exact HB.out))):w.heap.size≤gb155));have n3_:=Aside0.mk ((by rw[hg];exact(below_size (by repeat(first|(with_reducible first|exact HB.out|apply below_alloc|apply pw_below_drewN|apply below_drew1)|exact HB.out))):w.heap.size≤gb155));clear HB;have HB:=n0_;have BK155:=n1_;have GW155:=n2_;have GE155:=n3_;clear n0_ n1_ n2_ n3_;clear hb hbox hg;have hcz8_0:w7.cell? ⟨gb155,0,none⟩=some (.int .i64 a0_0):=(blk_cell BK155.out 0).trans rfl;have hcz8_1:w7.cell? ⟨gb155,1,none⟩=some (.int .i64 a0_1):=(blk_cell BK155.out 1).trans rfl;have hfz8_0:=blk_frozen BK155.out 0;have hfz8_1:=blk_frozen BK155.out 1)|((with_reducible refine gate_callee (f:=56) rfl ?_);refine goesL_ (some 14) rfl rfl Tryd.func56 (by kernel_rfl) rfl #[.int .i64 a0_1,.int .i64 (-99),.int .i64 99] rfl (by(try simp only[List.map_toArray,List.map_cons,List.map_nil]);first|done|rfl|(simp only[List.length_drop,List.length_take];rfl)) ?_;(with_reducible refine(spec_l6In.calls a0_1 (-99) 99 t156 _ A6.out).mono ?_);rintro e w' ⟨rfl,⟨nd,rfl⟩⟩;refine⟨_,rfl,?_⟩))
      go_ret
      exact⟨by first|rfl|(simp[errW_none,errW_some]<;>rfl)|(simp[*,errW_none,errW_some]<;>rfl),by repeat(first|(with_reducible first|exact HB.out|apply below_alloc|apply pw_below_drewN|apply below_drew1|refine below_set ?_ GE155.out)|exact HB.out)⟩
    · rw[if_neg c5]at H
      have c5b0:(a0_0==1)=false:=beq_eq_false_iff_ne.mpr c5;have c5b1:(a0_0 !=1)=true:=bne_iff_ne.mpr c5;by_cases c9:a0_0=2
      · rw[if_pos c9]at H
        have c9b0:(a0_0==2)=true:=beq_iff_eq.mpr c9;have c9b1:(a0_0 !=2)=false:=bne_eq_false_iff_eq.mpr c9;clear c9;replace H:=Option.bind_eq_some_iff.mp H;obtain⟨t157,A100,H⟩:=H;replace H:(some t157)=some r:=H;have A10:=Aside0.mk A100;clear A100;obtain rfl:=Option.some.inj H;go_enter Tryd.func42,Tryd.ntmps42
        go_wp2_with (first|((with_reducible refine gate_dst (N:=1) rfl ?_);refine box_event ?hg (N:=1) ?hd (cs:= #[.int .i64 a0_0,.int .i64 a0_1]) (t:=25) ?hr ?_;(case hd=>rfl);(case hg=>rfl);(case hr=>first|(go_simp;done)|(go_simp;rfl));intro gb155 hg w11 hbox hb;have n0_:=Aside0.mk (below_step (by repeat(first|(with_reducible first|exact HB.out|apply below_alloc|apply pw_below_drewN|apply below_drew1)|exact HB.out)) hb);have n1_:=Aside0.mk (hbox);have n2_:=Aside0.mk ((by rw[hg];exact(below_size (by repeat(first|(with_reducible first|exact HB.out|apply below_alloc|apply pw_below_drewN|apply below_drew1)|exact HB.out))):w.heap.size≤gb155));have n3_:=Aside0.mk ((by rw[hg];exact(below_size (by repeat(first|(with_reducible first|exact HB.out|apply below_alloc|apply pw_below_drewN|apply below_drew1)|exact HB.out))):w.heap.size≤gb155));clear HB;have HB:=n0_;have BK155:=n1_;have GW155:=n2_;have GE155:=n3_;clear n0_ n1_ n2_ n3_;clear hb hbox hg;have hcz12_0:w11.cell? ⟨gb155,0,none⟩=some (.int .i64 a0_0):=(blk_cell BK155.out 0).trans rfl;have hcz12_1:w11.cell? ⟨gb155,1,none⟩=some (.int .i64 a0_1):=(blk_cell BK155.out 1).trans rfl;have hfz12_0:=blk_frozen BK155.out 0;have hfz12_1:=blk_frozen BK155.out 1)|((with_reducible refine gate_callee (f:=56) rfl ?_);refine goesL_ (some 19) rfl rfl Tryd.func56 (by kernel_rfl) rfl #[.int .i64 a0_1,.int .i64 0,.int .i64 9] rfl (by(try simp only[List.map_toArray,List.map_cons,List.map_nil]);first|done|rfl|(simp only[List.length_drop,List.length_take];rfl)) ?_;(with_reducible refine(spec_l6In.calls a0_1 0 9 t157 _ A10.out).mono ?_);rintro e w' ⟨rfl,⟨nd,rfl⟩⟩;refine⟨_,rfl,?_⟩))
        go_ret
        exact⟨by first|rfl|(simp[errW_none,errW_some]<;>rfl)|(simp[*,errW_none,errW_some]<;>rfl),by repeat(first|(with_reducible first|exact HB.out|apply below_alloc|apply pw_below_drewN|apply below_drew1|refine below_set ?_ GE155.out)|exact HB.out)⟩
      · rw[if_neg c9]at H
        have c9b0:(a0_0==2)=false:=beq_eq_false_iff_ne.mpr c9;have c9b1:(a0_0 !=2)=true:=bne_iff_ne.mpr c9;by_cases c13:a0_0=3
        · rw[if_pos c13]at H
          have c13b0:(a0_0==3)=true:=beq_iff_eq.mpr c13;have c13b1:(a0_0 !=3)=false:=bne_eq_false_iff_eq.mpr c13;clear c13;replace H:=Option.bind_eq_some_iff.mp H;obtain⟨t158,A140,H⟩:=H;replace H:(some t158)=some r:=H;have A14:=Aside0.mk A140;clear A140;obtain rfl:=Option.some.inj H;go_enter Tryd.func42,Tryd.ntmps42
          go_wp2_with (first|((with_reducible refine gate_dst (N:=1) rfl ?_);refine box_event ?hg (N:=1) ?hd (cs:= #[.int .i64 a0_0,.int .i64 a0_1]) (t:=25) ?hr ?_;(case hd=>rfl);(case hg=>rfl);(case hr=>first|(go_simp;done)|(go_simp;rfl));intro gb155 hg w15 hbox hb;have n0_:=Aside0.mk (below_step (by repeat(first|(with_reducible first|exact HB.out|apply below_alloc|apply pw_below_drewN|apply below_drew1)|exact HB.out)) hb);have n1_:=Aside0.mk (hbox);have n2_:=Aside0.mk ((by rw[hg];exact(below_size (by repeat(first|(with_reducible first|exact HB.out|apply below_alloc|apply pw_below_drewN|apply below_drew1)|exact HB.out))):w.heap.size≤gb155));have n3_:=Aside0.mk ((by rw[hg];exact(below_size (by repeat(first|(with_reducible first|exact HB.out|apply below_alloc|apply pw_below_drewN|apply below_drew1)|exact HB.out))):w.heap.size≤gb155));clear HB;have HB:=n0_;have BK155:=n1_;have GW155:=n2_;have GE155:=n3_;clear n0_ n1_ n2_ n3_;clear hb hbox hg;have hcz16_0:w15.cell? ⟨gb155,0,none⟩=some (.int .i64 a0_0):=(blk_cell BK155.out 0).trans rfl;have hcz16_1:w15.cell? ⟨gb155,1,none⟩=some (.int .i64 a0_1):=(blk_cell BK155.out 1).trans rfl;have hfz16_0:=blk_frozen BK155.out 0;have hfz16_1:=blk_frozen BK155.out 1)|((with_reducible refine gate_callee (f:=56) rfl ?_);refine goesL_ (some 24) rfl rfl Tryd.func56 (by kernel_rfl) rfl #[.int .i64 a0_1,.int .i64 1,.int .i64 6] rfl (by(try simp only[List.map_toArray,List.map_cons,List.map_nil]);first|done|rfl|(simp only[List.length_drop,List.length_take];rfl)) ?_;(with_reducible refine(spec_l6In.calls a0_1 1 6 t158 _ A14.out).mono ?_);rintro e w' ⟨rfl,⟨nd,rfl⟩⟩;refine⟨_,rfl,?_⟩))
          go_ret
          exact⟨by first|rfl|(simp[errW_none,errW_some]<;>rfl)|(simp[*,errW_none,errW_some]<;>rfl),by repeat(first|(with_reducible first|exact HB.out|apply below_alloc|apply pw_below_drewN|apply below_drew1|refine below_set ?_ GE155.out)|exact HB.out)⟩
        · rw[if_neg c13]at H
          have c13b0:(a0_0==3)=false:=beq_eq_false_iff_ne.mpr c13;have c13b1:(a0_0 !=3)=true:=bne_iff_ne.mpr c13;obtain rfl:=Option.some.inj H;go_enter Tryd.func42,Tryd.ntmps42
          go_wp2_with (first|((with_reducible refine gate_dst (N:=1) rfl ?_);refine box_event ?hg (N:=1) ?hd (cs:= #[.int .i64 a0_0,.int .i64 a0_1]) (t:=25) ?hr ?_;(case hd=>rfl);(case hg=>rfl);(case hr=>first|(go_simp;done)|(go_simp;rfl));intro gb155 hg w17 hbox hb;have n0_:=Aside0.mk (below_step (by repeat(first|(with_reducible first|exact HB.out|apply below_alloc|apply pw_below_drewN|apply below_drew1)|exact HB.out)) hb);have n1_:=Aside0.mk (hbox);have n2_:=Aside0.mk ((by rw[hg];exact(below_size (by repeat(first|(with_reducible first|exact HB.out|apply below_alloc|apply pw_below_drewN|apply below_drew1)|exact HB.out))):w.heap.size≤gb155));have n3_:=Aside0.mk ((by rw[hg];exact(below_size (by repeat(first|(with_reducible first|exact HB.out|apply below_alloc|apply pw_below_drewN|apply below_drew1)|exact HB.out))):w.heap.size≤gb155));clear HB;have HB:=n0_;have BK155:=n1_;have GW155:=n2_;have GE155:=n3_;clear n0_ n1_ n2_ n3_;clear hb hbox hg;have hcz18_0:w17.cell? ⟨gb155,0,none⟩=some (.int .i64 a0_0):=(blk_cell BK155.out 0).trans rfl;have hcz18_1:w17.cell? ⟨gb155,1,none⟩=some (.int .i64 a0_1):=(blk_cell BK155.out 1).trans rfl;have hfz18_0:=blk_frozen BK155.out 0;have hfz18_1:=blk_frozen BK155.out 1))
          go_ret
          exact⟨by first|rfl|(simp[errW_none,errW_some]<;>rfl)|(simp[*,errW_none,errW_some]<;>rfl),by repeat(first|(with_reducible first|exact HB.out|apply below_alloc|apply pw_below_drewN|apply below_drew1|refine below_set ?_ GE155.out)|exact HB.out)⟩
def spec_l6Dec.f:Nat→Int→Option (ByteArray)
  |0,_=>none
  |k+1,a0=>if a0<(-9223372036854775807)then(some (⟨#[45,57,50,50,51,51,55,50,48,51,54,56,53,52,55,55,53,56,48,56]⟩:ByteArray))else(if a0<0 then((spec_l6Dec.f k (wrap64 (-a0))).bind fun t296=>(if 1+t296.size≤9223372036854775807 then(some ((⟨#[45]⟩:ByteArray)++t296))else(none)))else(if a0<10 then(some (strOfNums (([(wrap64 (48+a0))%256]:List Int))))else((spec_l6Dec.f k (wrap64 (Int.tdiv a0 10))).bind fun t300=>((some (([(wrap64 (48+(Int.tmod a0 10)))%256]:List Int):List Int)).bind fun y301=>(if t300.size+(strOfNums y301).size≤9223372036854775807 then(some (t300++(strOfNums y301)))else(none))))))
def spec_l6Dec.T7:Bool×List (List Nat×List Nat):=(true,[([],[]),([0],[0]),([1],[1]),([],[]),([3],[3]),([4],[4]),([5],[5]),([6],[6]),([7],[7]),([2,8],[2,8]),([9,2,0,1,2,3,4,5,6,7,8,9],[9])])
def spec_l6Dec.B7:List Nat:=[0,1,3,0,8,24,56,120,248,511,1023]
theorem spec_l6Dec.tab7:rtab .any (opsOf Tryd.f43 7)=spec_l6Dec.T7:=by kernel_rfl
theorem spec_l6Dec.bits7:waitsOk spec_l6Dec.T7.2 spec_l6Dec.B7=true:=by kernel_rfl
theorem spec_l6Dec.calls (k:Nat): ∀ (a0:Int) (r:ByteArray) (w:World) (h:spec_l6Dec.f k a0=some r),
    Calls Tryd.prog 43 #[.int .i64 a0] w fun e w'=>e= .returned (.string r)∧Below w.heap.size w w':=by
  induction k using Nat.strongRecOn with
  |_ k ih=>
  intro a0 r w h;cases k with
  |zero=>exact absurd h (by simp[spec_l6Dec.f])
  |succ k=>
  simp only[spec_l6Dec.f]at h
  have HB:=Aside0.mk (Below.refl w.heap.size w);have H:(if a0<(-9223372036854775807)then(some (⟨#[45,57,50,50,51,51,55,50,48,51,54,56,53,52,55,55,53,56,48,56]⟩:ByteArray))else(if a0<0 then((spec_l6Dec.f k (wrap64 (-a0))).bind fun t296=>(if 1+t296.size≤9223372036854775807 then(some ((⟨#[45]⟩:ByteArray)++t296))else(none)))else(if a0<10 then(some (strOfNums (([(wrap64 (48+a0))%256]:List Int))))else((spec_l6Dec.f k (wrap64 (Int.tdiv a0 10))).bind fun t300=>((some (([(wrap64 (48+(Int.tmod a0 10)))%256]:List Int):List Int)).bind fun y301=>(if t300.size+(strOfNums y301).size≤9223372036854775807 then(some (t300++(strOfNums y301)))else(none)))))))=some r:=h
  clear h;by_cases c2:a0<(-9223372036854775807)
  · rw[if_pos c2]at H
    have c2b0:decide (a0<(-9223372036854775807))=true:=decide_eq_true c2;clear c2;obtain rfl:=Option.some.inj H;go_enter Tryd.func43,Tryd.ntmps43
    go_wp2
    go_ret
    exact⟨by first|rfl|(simp[errW_none,errW_some]<;>rfl)|(simp[*,errW_none,errW_some]<;>rfl),by repeat(first|(with_reducible first|exact HB.out|apply below_alloc|apply pw_below_drewN|apply below_drew1)|exact HB.out)⟩
  · rw[if_neg c2]at H
    have c2b0:decide (a0<(-9223372036854775807))=false:=decide_eq_false c2;clear c2;by_cases c3:a0<0
    · rw[if_pos c3]at H
      have c3b0:decide (a0<0)=true:=decide_eq_true c3;clear c3;replace H:=Option.bind_eq_some_iff.mp H;obtain⟨t296,A40,H⟩:=H;replace H:(if 1+t296.size≤9223372036854775807 then(some ((⟨#[45]⟩:ByteArray)++t296))else(none))=some r:=H
      have A4:=Aside0.mk A40;clear A40;by_cases c5:1+t296.size≤9223372036854775807
      · rw[if_pos c5]at H
        have c5b0:=eq_true c5;have c5b1:decide (1+t296.size≤9223372036854775807)=true:=decide_eq_true c5;try have c5b2:(9223372036854775807<1+t296.size)=False:=eq_false (Nat.not_lt.2 c5)
        obtain rfl:=Option.some.inj H;go_enter Tryd.func43,Tryd.ntmps43
        go_wp2_with (first|((with_reducible refine gate_callee (f:=43) rfl ?_);refine goesL_ (some 9) rfl rfl Tryd.func43 (by kernel_rfl) rfl #[.int .i64 (wrap64 (-a0))] rfl (by(try simp only[List.map_toArray,List.map_cons,List.map_nil]);first|done|rfl|(simp only[List.length_drop,List.length_take];rfl)) ?_;(with_reducible refine(ih k (by omega) (wrap64 (-a0)) t296 _ A4.out).mono ?_);rintro e w6 ⟨rfl,hb⟩;refine⟨_,rfl,?_⟩;have n0_:=Aside0.mk (below_step (by repeat(first|(with_reducible first|exact HB.out|apply below_alloc|apply pw_below_drewN|apply below_drew1)|exact HB.out)) hb);clear HB;have HB:=n0_;clear n0_;(try clear hb);(try clear hb2);(try clear hk);(try clear hi)))
        go_ret
        exact⟨by first|rfl|(simp[errW_none,errW_some]<;>rfl)|(simp[*,errW_none,errW_some]<;>rfl),by repeat(first|(with_reducible first|exact HB.out|apply below_alloc|apply pw_below_drewN|apply below_drew1)|exact HB.out)⟩
      · rw[if_neg c5]at H
        exact absurd H (by simp)
    · rw[if_neg c3]at H
      have c3b0:decide (a0<0)=false:=decide_eq_false c3;clear c3;by_cases c7:a0<10
      · rw[if_pos c7]at H
        have c7b0:decide (a0<10)=true:=decide_eq_true c7;clear c7;obtain⟨y297,hy297⟩: ∃y_:List Int,y_=(([(wrap64 (48+a0))%256]:List Int)):=⟨_,rfl⟩;replace H:(some (strOfNums y297))=some r:=by first|(rw[hy297];with_reducible exact H)|(have H2_:=(Option.bind_some _ _).symm.trans H;rw[hy297];with_reducible exact H2_)|(have H2_:=(Option.bind_some _ _).symm.trans H;with_reducible exact H2_)|with_reducible exact H|(rw[hy297];exact H)|exact H
        have Ny297:=Aside0.mk hy297;clear hy297;obtain rfl:=Option.some.inj H;go_enter Tryd.func43,Tryd.ntmps43
        go_wp2_with (first|((with_reducible refine gate_dst (N:=16) rfl ?_);refine Kd.R_lit (Kd.int .u8) _ 5 ?hg (N:=16) ?hd (xs:=([(wrap64 (48+a0))%256]:List Int)) (inner:=[.int .u8 ((wrap64 (48+a0))%256)]) (ok:=fun _=>True) (okp:=fun _=>True) ?hr ?hp (fun _ hk=>hk) trivial (Below.refl _ _) (Nat.le_refl _) (by simp) ?_;(case hd=>rfl);(case hg=>rfl);(case hr=>first|(go_simp;done)|(go_simp;rfl));(case hp=>exact(Reps.one (show Kd.M (Kd.int .u8) _ _ _ ((wrap64 (48+a0))%256) [.int .u8 ((wrap64 (48+a0))%256)]from rfl) (Reps.none _ _)));intro v298 w8 ho9 hb hg_ hnew_;clear hg_ hnew_;(first|rw[←Ny297.out]at ho9|(simp only[Int.reduceToNat]at ho9;rw[←Ny297.out]at ho9));have n0_:=Aside0.mk (Kd.R_lower ho9 (below_size (by repeat(first|(with_reducible first|exact HB.out|apply below_alloc|apply pw_below_drewN|apply below_drew1)|exact HB.out))));have n1_:=Aside0.mk (below_step (by repeat(first|(with_reducible first|exact HB.out|apply below_alloc|apply pw_below_drewN|apply below_drew1)|exact HB.out)) hb);clear HB;have HO299:=n0_;have HB:=n1_;clear n0_ n1_;clear hb ho9;have hcv10:=own_string (P:=Tryd.prog) Tryd.underlying28 Tryd.underlying5 Tryd.underlying9 (Kd.own_of_R HO299.out)))
        go_ret
        exact⟨by first|rfl|(simp[errW_none,errW_some]<;>rfl)|(simp[*,errW_none,errW_some]<;>rfl),by repeat(first|(with_reducible first|exact HB.out|apply below_alloc|apply pw_below_drewN|apply below_drew1)|exact HB.out)⟩
      · rw[if_neg c7]at H
        have c7b0:decide (a0<10)=false:=decide_eq_false c7;clear c7;replace H:=Option.bind_eq_some_iff.mp H;obtain⟨t300,A110,H⟩:=H;replace H:((some (([(wrap64 (48+(Int.tmod a0 10)))%256]:List Int):List Int)).bind fun y301=>(if t300.size+(strOfNums y301).size≤9223372036854775807 then(some (t300++(strOfNums y301)))else(none)))=some r:=H
        have A11:=Aside0.mk A110;clear A110;obtain⟨y301,hy301⟩: ∃y_:List Int,y_=(([(wrap64 (48+(Int.tmod a0 10)))%256]:List Int)):=⟨_,rfl⟩;replace H:(if t300.size+(strOfNums y301).size≤9223372036854775807 then(some (t300++(strOfNums y301)))else(none))=some r:=by first|(rw[hy301];with_reducible exact H)|(have H2_:=(Option.bind_some _ _).symm.trans H;rw[hy301];with_reducible exact H2_)|(have H2_:=(Option.bind_some _ _).symm.trans H;with_reducible exact H2_)|with_reducible exact H|(rw[hy301];exact H)|exact H
        have Ny301:=Aside0.mk hy301;clear hy301;by_cases c12:t300.size+(strOfNums y301).size≤9223372036854775807
        · rw[if_pos c12]at H
          have c12b0:=eq_true c12;have c12b1:decide (t300.size+(strOfNums y301).size≤9223372036854775807)=true:=decide_eq_true c12;try have c12b2:(9223372036854775807<t300.size+(strOfNums y301).size)=False:=eq_false (Nat.not_lt.2 c12)
          obtain rfl:=Option.some.inj H;go_enter Tryd.func43,Tryd.ntmps43
          try go_wp2
          have n0_:=Aside0.mk (below_drew1 HB.out);clear HB;have HB:=n0_;clear n0_;refine start_ (n:=11) (S:=fun w'=>True) (ds:=[]) #[false,false,false,false,false,false,false,false,false,false,false] (by kernel_rfl) rfl rfl trivial (fun hHeld=> ?_);refine with_tabW spec_l6Dec.tab7 spec_l6Dec.bits7 (fun HT_ HW_=> ?_)
          generalize w.drew=w13 at HB hHeld⊢
          refine pure_ (i:=0) (N:=some 18) (v:= ?_) (a':= ?_) #[true,false,false,false,false,false,false,false,false,false,false] rfl rfl (any_of HT_.out (by kernel_rfl)) (fun _ _ _ h=>h) (Or.inl ⟨by rfl,?_⟩) ?_ ?_
          rotate_left
          · intro w'
            go_simp
            with_reducible rfl
          rotate_left
          · simp only[Act.put,List.setIfInBounds_toArray,List.set_cons_zero,List.set_cons_succ,i64_w,i32_w]
            rfl
          refine pure_ (i:=1) (N:=some 19) (v:= ?_) (a':= ?_) #[true,true,false,false,false,false,false,false,false,false,false] rfl rfl (any_of HT_.out (by kernel_rfl)) (fun _ _ _ h=>h) (Or.inl ⟨by rfl,?_⟩) ?_ ?_
          rotate_left
          · intro w'
            go_simp
            with_reducible rfl
          rotate_left
          · simp only[Act.put,List.setIfInBounds_toArray,List.set_cons_zero,List.set_cons_succ,i64_w,i32_w]
            rfl
          refine pure_ (i:=3) (N:=some 21) (v:= ?_) (a':= ?_) #[true,true,false,true,false,false,false,false,false,false,false] rfl rfl (any_of HT_.out (by kernel_rfl)) (fun _ _ _ h=>h) (Or.inl ⟨by rfl,?_⟩) ?_ ?_
          rotate_left
          · intro w'
            go_simp
            with_reducible rfl
          rotate_left
          · simp only[Act.put,List.setIfInBounds_toArray,List.set_cons_zero,List.set_cons_succ,i64_w,i32_w]
            rfl
          refine pure_ (i:=4) (N:=some 22) (v:= ?_) (a':= ?_) #[true,true,false,true,true,false,false,false,false,false,false] rfl rfl (any_of HT_.out (by kernel_rfl)) (fun _ _ _ h=>h) (Or.inl ⟨by rfl,?_⟩) ?_ ?_
          rotate_left
          · intro w'
            go_simp
            with_reducible rfl
          rotate_left
          · simp only[Act.put,List.setIfInBounds_toArray,List.set_cons_zero,List.set_cons_succ,i64_w,i32_w]
            rfl
          refine pure_ (i:=5) (N:=some 23) (v:= ?_) (a':= ?_) #[true,true,false,true,true,true,false,false,false,false,false] rfl rfl (any_of HT_.out (by kernel_rfl)) (fun _ _ _ h=>h) (Or.inl ⟨by rfl,?_⟩) ?_ ?_
          rotate_left
          · intro w'
            go_simp
            with_reducible rfl
          rotate_left
          · simp only[Act.put,List.setIfInBounds_toArray,List.set_cons_zero,List.set_cons_succ,i64_w,i32_w]
            rfl
          refine pure_ (i:=6) (N:=some 24) (v:= ?_) (a':= ?_) #[true,true,false,true,true,true,true,false,false,false,false] rfl rfl (any_of HT_.out (by kernel_rfl)) (fun _ _ _ h=>h) (Or.inl ⟨by rfl,?_⟩) ?_ ?_
          rotate_left
          · intro w'
            go_simp
            with_reducible rfl
          rotate_left
          · simp only[Act.put,List.setIfInBounds_toArray,List.set_cons_zero,List.set_cons_succ,i64_w,i32_w]
            rfl
          refine join_ (σ:=Value) 2 #[true,true,true,true,true,true,true,true,true,false,false] (fun s_=> [(20,.string t300),(25,s_),(26,.string (strOfNums y301))]) (fun s_ w'=>(Kd.R (Kd.int .u8) 5 w' w.heap.size (fun _=>True) s_ y301)∧(Below w.heap.size w w')) ?_ ?_
          rotate_left
          · intro hCont
            refine two_ (i:=2) (j:=7) (Ni:=some 20) (Nj:=some 25) #[true,true,true,true,true,true,true,false,false,false,false] #[true,true,false,true,true,true,true,true,false,false,false] rfl rfl rfl rfl (two_of HT_.out (by kernel_rfl)) (by decide) (by decide) (fun K hK=> ?_) (fun K hK=> ?_)
            · skip
              refine goes_ Tryd.func43 (by kernel_rfl) rfl #[.int .i64 (wrap64 (Int.tdiv a0 10))] (by rfl) rfl rfl (by(try simp only[List.map_toArray,List.map_cons,List.map_nil]);first|done|rfl|(simp only[List.length_drop,List.length_take];rfl)) ?_
              with_reducible refine(ih k (by omega) (wrap64 (Int.tdiv a0 10)) t300 _ A11.out).mono ?_
              rintro e w14 ⟨rfl,hb⟩
              refine⟨_,rfl,?_⟩
              have n0_:=Aside0.mk (below_step (by repeat(first|(with_reducible first|exact HB.out|apply below_alloc|apply pw_below_drewN|apply below_drew1)|exact HB.out)) hb)
              clear HB;have HB:=n0_;clear n0_;(try clear hb)
              (try clear hb2)
              (try clear hk)
              (try clear hi)
              refine hK.out _ _ trivial (fun hHeld=> ?_)
              clear hK K;refine norm_ (a':= ?_) ?_ ?_
              rotate_left
              · show Act.put _ (some 20) _=_
                simp only[Act.put,List.setIfInBounds_toArray,List.set_cons_zero,List.set_cons_succ,i64_w,i32_w]
                rfl
              refine one_ (i:=7) (N:=some 25) #[true,true,true,true,true,true,true,true,false,false,false] rfl rfl (one_of HT_.out (by kernel_rfl)) (by decide) (fun K hK=> ?_)
              refine Kd.R_lit_step (Kd.int .u8) _ 5 ?hg (N:=25) ?hd (xs:=([(wrap64 (48+(Int.tmod a0 10)))%256]:List Int)) (inner:=[.int .u8 ((wrap64 (48+(Int.tmod a0 10)))%256)]) (ok:=fun _=>True) (okp:=fun _=>True) ?hr ?hp (fun _ hk=>hk) trivial (Below.refl _ _) (Nat.le_refl _) (by simp) ?_;(case hd=>rfl);(case hg=>rfl);(case hr=>first|(go_simp;done)|(go_simp;rfl));(case hp=>exact(Reps.one (show Kd.M (Kd.int .u8) _ _ _ ((wrap64 (48+(Int.tmod a0 10)))%256) [.int .u8 ((wrap64 (48+(Int.tmod a0 10)))%256)]from rfl) (Reps.none _ _)))
              intro v302 w15 ho16 hb hg_ hnew_;clear hg_ hnew_;(first|rw[←Ny301.out]at ho16|(simp only[Int.reduceToNat]at ho16;rw[←Ny301.out]at ho16))
              have n0_:=Aside0.mk (Kd.R_lower ho16 (below_size (by repeat(first|(with_reducible first|exact HB.out|apply below_alloc|apply pw_below_drewN|apply below_drew1)|exact HB.out))))
              have n1_:=Aside0.mk (below_step (by repeat(first|(with_reducible first|exact HB.out|apply below_alloc|apply pw_below_drewN|apply below_drew1)|exact HB.out)) hb)
              clear HB;have HO303:=n0_;have HB:=n1_;clear n0_ n1_;clear hb ho16;refine hK.out _ _ trivial (fun hHeld=> ?_)
              clear hK K;refine norm_ (a':= ?_) ?_ ?_
              rotate_left
              · show Act.put _ (some 25) _=_
                simp only[Act.put,List.setIfInBounds_toArray,List.set_cons_zero,List.set_cons_succ,i64_w,i32_w]
                rfl
              refine one_ (i:=8) (N:=some 26) #[true,true,true,true,true,true,true,true,true,false,false] rfl rfl (one_of HT_.out (by kernel_rfl)) (by decide) (fun K hK=> ?_)
              have hcv17:=own_string (P:=Tryd.prog) Tryd.underlying28 Tryd.underlying5 Tryd.underlying9 (Kd.own_of_R HO303.out);refine value_ (w1:= ?_) (v:= ?_) (by rfl) rfl ?_ ?_
              rotate_left 2
              · go_simp
                constructor
                · rfl
                · rfl
              clear hcv17;refine hK.out _ _ trivial (fun hHeld=> ?_)
              clear hK K;refine norm_ (a':= ?_) ?_ ?_
              rotate_left
              · show Act.put _ (some 26) _=_
                simp only[Act.put,List.setIfInBounds_toArray,List.set_cons_zero,List.set_cons_succ,i64_w,i32_w]
                rfl
              exact norm_ (by simp only[putAll,Act.put,List.setIfInBounds_toArray,List.set_cons_zero,List.set_cons_succ]) (hCont (v302) _ ⟨(by(with_reducible repeat(first|apply Kd.R_alloc|apply Kd.R_drewN|apply Kd.R_drew));exact HO303.out),(by repeat(first|(with_reducible first|exact HB.out|apply below_alloc|apply pw_below_drewN|apply below_drew1)|exact HB.out))⟩)
            · skip
              refine Kd.R_lit_step (Kd.int .u8) _ 5 ?hg (N:=25) ?hd (xs:=([(wrap64 (48+(Int.tmod a0 10)))%256]:List Int)) (inner:=[.int .u8 ((wrap64 (48+(Int.tmod a0 10)))%256)]) (ok:=fun _=>True) (okp:=fun _=>True) ?hr ?hp (fun _ hk=>hk) trivial (Below.refl _ _) (Nat.le_refl _) (by simp) ?_;(case hd=>rfl);(case hg=>rfl);(case hr=>first|(go_simp;done)|(go_simp;rfl));(case hp=>exact(Reps.one (show Kd.M (Kd.int .u8) _ _ _ ((wrap64 (48+(Int.tmod a0 10)))%256) [.int .u8 ((wrap64 (48+(Int.tmod a0 10)))%256)]from rfl) (Reps.none _ _)))
              intro v302 w14 ho15 hb hg_ hnew_;clear hg_ hnew_;(first|rw[←Ny301.out]at ho15|(simp only[Int.reduceToNat]at ho15;rw[←Ny301.out]at ho15))
              have n0_:=Aside0.mk (Kd.R_lower ho15 (below_size (by repeat(first|(with_reducible first|exact HB.out|apply below_alloc|apply pw_below_drewN|apply below_drew1)|exact HB.out))))
              have n1_:=Aside0.mk (below_step (by repeat(first|(with_reducible first|exact HB.out|apply below_alloc|apply pw_below_drewN|apply below_drew1)|exact HB.out)) hb)
              clear HB;have HO303:=n0_;have HB:=n1_;clear n0_ n1_;clear hb ho15;refine hK.out _ _ trivial (fun hHeld=> ?_)
              clear hK K;refine norm_ (a':= ?_) ?_ ?_
              rotate_left
              · show Act.put _ (some 25) _=_
                simp only[Act.put,List.setIfInBounds_toArray,List.set_cons_zero,List.set_cons_succ,i64_w,i32_w]
                rfl
              refine two_ (i:=2) (j:=8) (Ni:=some 20) (Nj:=some 26) #[true,true,true,true,true,true,true,true,false,false,false] #[true,true,false,true,true,true,true,true,true,false,false] rfl rfl rfl rfl (two_of HT_.out (by kernel_rfl)) (by decide) (by decide) (fun K hK=> ?_) (fun K hK=> ?_)
              · skip
                refine goes_ Tryd.func43 (by kernel_rfl) rfl #[.int .i64 (wrap64 (Int.tdiv a0 10))] (by rfl) rfl rfl (by(try simp only[List.map_toArray,List.map_cons,List.map_nil]);first|done|rfl|(simp only[List.length_drop,List.length_take];rfl)) ?_
                with_reducible refine(ih k (by omega) (wrap64 (Int.tdiv a0 10)) t300 _ A11.out).mono ?_
                rintro e w16 ⟨rfl,hb⟩
                refine⟨_,rfl,?_⟩
                have n0_:=Aside0.mk (Kd.R_below (by(with_reducible repeat(first|apply Kd.R_alloc|apply Kd.R_drewN|apply Kd.R_drew));exact HO303.out) hb)
                have n1_:=Aside0.mk (below_step (by repeat(first|(with_reducible first|exact HB.out|apply below_alloc|apply pw_below_drewN|apply below_drew1)|exact HB.out)) hb)
                clear HO303;clear HB;have HO303:=n0_;have HB:=n1_;clear n0_ n1_;(try clear hb)
                (try clear hb2)
                (try clear hk)
                (try clear hi)
                refine hK.out _ _ trivial (fun hHeld=> ?_)
                clear hK K;refine norm_ (a':= ?_) ?_ ?_
                rotate_left
                · show Act.put _ (some 20) _=_
                  simp only[Act.put,List.setIfInBounds_toArray,List.set_cons_zero,List.set_cons_succ,i64_w,i32_w]
                  rfl
                refine one_ (i:=8) (N:=some 26) #[true,true,true,true,true,true,true,true,true,false,false] rfl rfl (one_of HT_.out (by kernel_rfl)) (by decide) (fun K hK=> ?_)
                have hcv17:=own_string (P:=Tryd.prog) Tryd.underlying28 Tryd.underlying5 Tryd.underlying9 (Kd.own_of_R HO303.out);refine value_ (w1:= ?_) (v:= ?_) (by rfl) rfl ?_ ?_
                rotate_left 2
                · go_simp
                  constructor
                  · rfl
                  · rfl
                clear hcv17;refine hK.out _ _ trivial (fun hHeld=> ?_)
                clear hK K;refine norm_ (a':= ?_) ?_ ?_
                rotate_left
                · show Act.put _ (some 26) _=_
                  simp only[Act.put,List.setIfInBounds_toArray,List.set_cons_zero,List.set_cons_succ,i64_w,i32_w]
                  rfl
                exact norm_ (by simp only[putAll,Act.put,List.setIfInBounds_toArray,List.set_cons_zero,List.set_cons_succ]) (hCont (v302) _ ⟨(by(with_reducible repeat(first|apply Kd.R_alloc|apply Kd.R_drewN|apply Kd.R_drew));exact HO303.out),(by repeat(first|(with_reducible first|exact HB.out|apply below_alloc|apply pw_below_drewN|apply below_drew1)|exact HB.out))⟩)
              · skip
                have hcv16:=own_string (P:=Tryd.prog) Tryd.underlying28 Tryd.underlying5 Tryd.underlying9 (Kd.own_of_R HO303.out);refine value_ (w1:= ?_) (v:= ?_) (by rfl) rfl ?_ ?_
                rotate_left 2
                · go_simp
                  constructor
                  · rfl
                  · rfl
                clear hcv16;refine hK.out _ _ trivial (fun hHeld=> ?_)
                clear hK K;refine norm_ (a':= ?_) ?_ ?_
                rotate_left
                · show Act.put _ (some 26) _=_
                  simp only[Act.put,List.setIfInBounds_toArray,List.set_cons_zero,List.set_cons_succ,i64_w,i32_w]
                  rfl
                refine one_ (i:=2) (N:=some 20) #[true,true,true,true,true,true,true,true,true,false,false] rfl rfl (one_of HT_.out (by kernel_rfl)) (by decide) (fun K hK=> ?_)
                refine goes_ Tryd.func43 (by kernel_rfl) rfl #[.int .i64 (wrap64 (Int.tdiv a0 10))] (by rfl) rfl rfl (by(try simp only[List.map_toArray,List.map_cons,List.map_nil]);first|done|rfl|(simp only[List.length_drop,List.length_take];rfl)) ?_
                with_reducible refine(ih k (by omega) (wrap64 (Int.tdiv a0 10)) t300 _ A11.out).mono ?_
                rintro e w17 ⟨rfl,hb⟩
                refine⟨_,rfl,?_⟩
                have n0_:=Aside0.mk (Kd.R_below (by(with_reducible repeat(first|apply Kd.R_alloc|apply Kd.R_drewN|apply Kd.R_drew));exact HO303.out) hb)
                have n1_:=Aside0.mk (below_step (by repeat(first|(with_reducible first|exact HB.out|apply below_alloc|apply pw_below_drewN|apply below_drew1)|exact HB.out)) hb)
                clear HO303;clear HB;have HO303:=n0_;have HB:=n1_;clear n0_ n1_;(try clear hb)
                (try clear hb2)
                (try clear hk)
                (try clear hi)
                refine hK.out _ _ trivial (fun hHeld=> ?_)
                clear hK K;refine norm_ (a':= ?_) ?_ ?_
                rotate_left
                · show Act.put _ (some 20) _=_
                  simp only[Act.put,List.setIfInBounds_toArray,List.set_cons_zero,List.set_cons_succ,i64_w,i32_w]
                  rfl
                exact norm_ (by simp only[putAll,Act.put,List.setIfInBounds_toArray,List.set_cons_zero,List.set_cons_succ]) (hCont (v302) _ ⟨(by(with_reducible repeat(first|apply Kd.R_alloc|apply Kd.R_drewN|apply Kd.R_drew));exact HO303.out),(by repeat(first|(with_reducible first|exact HB.out|apply below_alloc|apply pw_below_drewN|apply below_drew1)|exact HB.out))⟩)
          rintro v302 w18 ⟨h0_,h1_⟩
          have n0_:Aside0 (Kd.R (Kd.int .u8) 5 w18 w.heap.size (fun _=>True) v302 y301):=⟨h0_⟩
          have n1_:Aside0 (Below w.heap.size w w18):=⟨h1_⟩;clear HB;clear h0_ h1_;have HO303:=n0_;have HB:=n1_;clear n0_ n1_;have hHeld:=trivial;refine norm_ (a':= ?_) ?_ ?_
          rotate_left
          · simp only[putAll,Act.put,List.setIfInBounds_toArray,List.set_cons_zero,List.set_cons_succ]
            rfl
          refine pure_ (i:=9) (N:=some 27) (v:= ?_) (a':= ?_) #[true,true,true,true,true,true,true,true,true,true,false] rfl rfl (any_of HT_.out (by kernel_rfl)) (fun _ _ _ h=>h) (Or.inl ⟨by rfl,?_⟩) ?_ ?_
          rotate_left
          · intro w'
            go_simp
            with_reducible rfl
          rotate_left
          · simp only[Act.put,List.setIfInBounds_toArray,List.set_cons_zero,List.set_cons_succ,i64_w,i32_w]
            rfl
          refine pure_ (i:=10) (N:=some 2) (v:= ?_) (a':= ?_) #[true,true,true,true,true,true,true,true,true,true,true] rfl rfl (any_of HT_.out (by kernel_rfl)) (fun _ _ _ h=>h) (Or.inl ⟨by rfl,?_⟩) ?_ ?_
          rotate_left
          · intro w'
            go_simp
            with_reducible rfl
          rotate_left
          · simp only[Act.put,List.setIfInBounds_toArray,List.set_cons_zero,List.set_cons_succ,i64_w,i32_w]
            rfl
          refine done_ (done_of HT_.out (by kernel_rfl)) ?_
          try go_wp2
          go_ret
          exact⟨by first|rfl|(simp[errW_none,errW_some]<;>rfl)|(simp[*,errW_none,errW_some]<;>rfl),by repeat(first|(with_reducible first|exact HB.out|apply below_alloc|apply pw_below_drewN|apply below_drew1)|exact HB.out)⟩
        · rw[if_neg c12]at H
          exact absurd H (by simp)
def spec_ValText.f (k:Nat) (a0_0:Int) (a0_1:Int):Option (ByteArray):=(spec_ValOk.f a0_0 a0_1).bind fun t305=>(if t305=true then(if a0_0=0 then(some (⟨#[110,111,110,101]⟩:ByteArray))else((some (([(⟨#[]⟩:ByteArray),(⟨#[110]⟩:ByteArray),(⟨#[97]⟩:ByteArray),(⟨#[114]⟩:ByteArray)]:List ByteArray):List ByteArray)).bind fun y306=>(if 0≤a0_0 then(if a0_0<(y306.length:Int)then((spec_l6Dec.f k a0_1).bind fun t310=>(if(rdOf ByteArray.empty y306 a0_0).size+t310.size≤9223372036854775807 then(some ((rdOf ByteArray.empty y306 a0_0)++t310))else(none)))else(none))else(none))))else(some (⟨#[]⟩:ByteArray)))
def spec_ValText.T5:Bool×List (List Nat×List Nat):=(true,[([],[]),([],[]),([1],[1]),([0,2],[0,2]),([3],[3]),([],[]),([5],[5]),([6],[6]),([4,7],[4,7]),([8,7,0,1,2,3,4,5,6,7,8],[8])])
def spec_ValText.B5:List Nat:=[0,0,2,7,15,0,32,96,255,511]
theorem spec_ValText.tab5:rtab .any (opsOf Tryd.f17 5)=spec_ValText.T5:=by kernel_rfl
theorem spec_ValText.bits5:waitsOk spec_ValText.T5.2 spec_ValText.B5=true:=by kernel_rfl
theorem spec_ValText.calls (k:Nat) (a0_0:Int) (a0_1:Int) (r:ByteArray) (w:World) (h:spec_ValText.f k a0_0 a0_1=some r):
    Calls Tryd.prog 17 #[.agg #[.int .i64 a0_0,.int .i64 a0_1]] w fun e w'=>e= .returned (.string r)∧Below w.heap.size w w':=by
  have hu25:=Tryd.underlying25;have HB:=Aside0.mk (Below.refl w.heap.size w);have H:((spec_ValOk.f a0_0 a0_1).bind fun t305=>(if t305=true then(if a0_0=0 then(some (⟨#[110,111,110,101]⟩:ByteArray))else((some (([(⟨#[]⟩:ByteArray),(⟨#[110]⟩:ByteArray),(⟨#[97]⟩:ByteArray),(⟨#[114]⟩:ByteArray)]:List ByteArray):List ByteArray)).bind fun y306=>(if 0≤a0_0 then(if a0_0<(y306.length:Int)then((spec_l6Dec.f k a0_1).bind fun t310=>(if(rdOf ByteArray.empty y306 a0_0).size+t310.size≤9223372036854775807 then(some ((rdOf ByteArray.empty y306 a0_0)++t310))else(none)))else(none))else(none))))else(some (⟨#[]⟩:ByteArray))))=some r:=h
  clear h;replace H:=Option.bind_eq_some_iff.mp H;obtain⟨t305,A20,H⟩:=H;replace H:(if t305=true then(if a0_0=0 then(some (⟨#[110,111,110,101]⟩:ByteArray))else((some (([(⟨#[]⟩:ByteArray),(⟨#[110]⟩:ByteArray),(⟨#[97]⟩:ByteArray),(⟨#[114]⟩:ByteArray)]:List ByteArray):List ByteArray)).bind fun y306=>(if 0≤a0_0 then(if a0_0<(y306.length:Int)then((spec_l6Dec.f k a0_1).bind fun t310=>(if(rdOf ByteArray.empty y306 a0_0).size+t310.size≤9223372036854775807 then(some ((rdOf ByteArray.empty y306 a0_0)++t310))else(none)))else(none))else(none))))else(some (⟨#[]⟩:ByteArray)))=some r:=H
  have A2:=Aside0.mk A20;clear A20;by_cases c3:t305=true
  · subst c3
    have H1:(if a0_0=0 then(some (⟨#[110,111,110,101]⟩:ByteArray))else((some (([(⟨#[]⟩:ByteArray),(⟨#[110]⟩:ByteArray),(⟨#[97]⟩:ByteArray),(⟨#[114]⟩:ByteArray)]:List ByteArray):List ByteArray)).bind fun y306=>(if 0≤a0_0 then(if a0_0<(y306.length:Int)then((spec_l6Dec.f k a0_1).bind fun t310=>(if(rdOf ByteArray.empty y306 a0_0).size+t310.size≤9223372036854775807 then(some ((rdOf ByteArray.empty y306 a0_0)++t310))else(none)))else(none))else(none))))=some r:=by rw[if_pos rfl]at H;exact H
    clear H;have H:=H1;clear H1;by_cases c4:a0_0=0
    · rw[if_pos c4]at H
      have c4b0:(a0_0==0)=true:=beq_iff_eq.mpr c4;have c4b1:(a0_0 !=0)=false:=bne_eq_false_iff_eq.mpr c4;clear c4;obtain rfl:=Option.some.inj H;go_enter Tryd.func17,Tryd.ntmps17
      go_wp2_with (first|((with_reducible refine gate_dst (N:=1) rfl ?_);refine box_event ?hg (N:=1) ?hd (cs:= #[.int .i64 a0_0,.int .i64 a0_1]) (t:=25) ?hr ?_;(case hd=>rfl);(case hg=>rfl);(case hr=>first|(go_simp;done)|(go_simp;rfl));intro gb304 hg w5 hbox hb;have n0_:=Aside0.mk (below_step (by repeat(first|(with_reducible first|exact HB.out|apply below_alloc|apply pw_below_drewN|apply below_drew1)|exact HB.out)) hb);have n1_:=Aside0.mk (hbox);have n2_:=Aside0.mk ((by rw[hg];exact(below_size (by repeat(first|(with_reducible first|exact HB.out|apply below_alloc|apply pw_below_drewN|apply below_drew1)|exact HB.out))):w.heap.size≤gb304));have n3_:=Aside0.mk ((by rw[hg];exact(below_size (by repeat(first|(with_reducible first|exact HB.out|apply below_alloc|apply pw_below_drewN|apply below_drew1)|exact HB.out))):w.heap.size≤gb304));clear HB;have HB:=n0_;have BK304:=n1_;have GW304:=n2_;have GE304:=n3_;clear n0_ n1_ n2_ n3_;clear hb hbox hg;have hcz6_0:w5.cell? ⟨gb304,0,none⟩=some (.int .i64 a0_0):=(blk_cell BK304.out 0).trans rfl;have hcz6_1:w5.cell? ⟨gb304,1,none⟩=some (.int .i64 a0_1):=(blk_cell BK304.out 1).trans rfl;have hfz6_0:=blk_frozen BK304.out 0;have hfz6_1:=blk_frozen BK304.out 1)|((with_reducible refine gate_callee (f:=42) rfl ?_);refine goesL_ (some 4) rfl rfl Tryd.func42 (by kernel_rfl) rfl #[.agg #[.int .i64 a0_0,.int .i64 a0_1]] rfl (by(try simp only[List.map_toArray,List.map_cons,List.map_nil]);first|done|rfl|(simp only[List.length_drop,List.length_take];rfl)) ?_;(with_reducible refine(spec_ValOk.calls a0_0 a0_1 true _ A2.out).mono ?_);rintro e w7 ⟨rfl,hb⟩;refine⟨_,rfl,?_⟩;have n0_:=Aside0.mk (blk_below (g:=gb304) (o:=.cells #[.int .i64 a0_0,.int .i64 a0_1] 25 (0,0)) (by(with_reducible repeat(first|refine blk_drewN ?_ _|refine blk_drew ?_|refine blk_alloc ?_ _));exact BK304.out) hb);have n1_:=Aside0.mk (below_step (by repeat(first|(with_reducible first|exact HB.out|apply below_alloc|apply pw_below_drewN|apply below_drew1|refine below_set ?_ GE304.out)|exact HB.out)) hb);clear BK304;clear HB;have BK304:=n0_;have HB:=n1_;clear n0_ n1_;(try clear hb);(try clear hb2);(try clear hk);(try clear hi);have hcz8_0:w7.cell? ⟨gb304,0,none⟩=some (.int .i64 a0_0):=(blk_cell BK304.out 0).trans rfl;have hcz8_1:w7.cell? ⟨gb304,1,none⟩=some (.int .i64 a0_1):=(blk_cell BK304.out 1).trans rfl;have hfz8_0:=blk_frozen BK304.out 0;have hfz8_1:=blk_frozen BK304.out 1))
      go_ret
      exact⟨by first|rfl|(simp[errW_none,errW_some]<;>rfl)|(simp[*,errW_none,errW_some]<;>rfl),by repeat(first|(with_reducible first|exact HB.out|apply below_alloc|apply pw_below_drewN|apply below_drew1|refine below_set ?_ GE304.out)|exact HB.out)⟩
    · rw[if_neg c4]at H
      have c4b0:(a0_0==0)=false:=beq_eq_false_iff_ne.mpr c4;have c4b1:(a0_0 !=0)=true:=bne_iff_ne.mpr c4;obtain⟨y306,hy306⟩: ∃y_:List ByteArray,y_=(([(⟨#[]⟩:ByteArray),(⟨#[110]⟩:ByteArray),(⟨#[97]⟩:ByteArray),(⟨#[114]⟩:ByteArray)]:List ByteArray)):=⟨_,rfl⟩;replace H:(if 0≤a0_0 then(if a0_0<(y306.length:Int)then((spec_l6Dec.f k a0_1).bind fun t310=>(if(rdOf ByteArray.empty y306 a0_0).size+t310.size≤9223372036854775807 then(some ((rdOf ByteArray.empty y306 a0_0)++t310))else(none)))else(none))else(none))=some r:=by first|(rw[hy306];with_reducible exact H)|(have H2_:=(Option.bind_some _ _).symm.trans H;rw[hy306];with_reducible exact H2_)|(have H2_:=(Option.bind_some _ _).symm.trans H;with_reducible exact H2_)|with_reducible exact H|(rw[hy306];exact H)|exact H
      have Ny306:=Aside0.mk hy306;clear hy306;by_cases c9:0≤a0_0
      · rw[if_pos c9]at H
        have c9b0:decide (0≤a0_0)=true:=decide_eq_true c9;clear c9;by_cases c10:a0_0<(y306.length:Int)
        · rw[if_pos c10]at H
          have c10b0:decide (a0_0<(y306.length:Int))=true:=decide_eq_true c10;clear c10;replace H:=Option.bind_eq_some_iff.mp H;obtain⟨t310,A110,H⟩:=H;replace H:(if(rdOf ByteArray.empty y306 a0_0).size+t310.size≤9223372036854775807 then(some ((rdOf ByteArray.empty y306 a0_0)++t310))else(none))=some r:=H
          have A11:=Aside0.mk A110;clear A110;by_cases c12:(rdOf ByteArray.empty y306 a0_0).size+t310.size≤9223372036854775807
          · rw[if_pos c12]at H
            have c12b0:=eq_true c12;have c12b1:decide ((rdOf ByteArray.empty y306 a0_0).size+t310.size≤9223372036854775807)=true:=decide_eq_true c12;try have c12b2:(9223372036854775807<(rdOf ByteArray.empty y306 a0_0).size+t310.size)=False:=eq_false (Nat.not_lt.2 c12)
            obtain rfl:=Option.some.inj H;go_enter Tryd.func17,Tryd.ntmps17
            try go_wp2_with (first|((with_reducible refine gate_dst (N:=1) rfl ?_);refine box_event ?hg (N:=1) ?hd (cs:= #[.int .i64 a0_0,.int .i64 a0_1]) (t:=25) ?hr ?_;(case hd=>rfl);(case hg=>rfl);(case hr=>first|(go_simp;done)|(go_simp;rfl));intro gb304 hg w13 hbox hb;have n0_:=Aside0.mk (below_step (by repeat(first|(with_reducible first|exact HB.out|apply below_alloc|apply pw_below_drewN|apply below_drew1)|exact HB.out)) hb);have n1_:=Aside0.mk (hbox);have n2_:=Aside0.mk ((by rw[hg];exact(below_size (by repeat(first|(with_reducible first|exact HB.out|apply below_alloc|apply pw_below_drewN|apply below_drew1)|exact HB.out))):w.heap.size≤gb304));have n3_:=Aside0.mk ((by rw[hg];exact(below_size (by repeat(first|(with_reducible first|exact HB.out|apply below_alloc|apply pw_below_drewN|apply below_drew1)|exact HB.out))):w.heap.size≤gb304));clear HB;have HB:=n0_;have BK304:=n1_;have GW304:=n2_;have GE304:=n3_;clear n0_ n1_ n2_ n3_;clear hb hbox hg;have hcz14_0:w13.cell? ⟨gb304,0,none⟩=some (.int .i64 a0_0):=(blk_cell BK304.out 0).trans rfl;have hcz14_1:w13.cell? ⟨gb304,1,none⟩=some (.int .i64 a0_1):=(blk_cell BK304.out 1).trans rfl;have hfz14_0:=blk_frozen BK304.out 0;have hfz14_1:=blk_frozen BK304.out 1)|((with_reducible refine gate_callee (f:=42) rfl ?_);refine goesL_ (some 4) rfl rfl Tryd.func42 (by kernel_rfl) rfl #[.agg #[.int .i64 a0_0,.int .i64 a0_1]] rfl (by(try simp only[List.map_toArray,List.map_cons,List.map_nil]);first|done|rfl|(simp only[List.length_drop,List.length_take];rfl)) ?_;(with_reducible refine(spec_ValOk.calls a0_0 a0_1 true _ A2.out).mono ?_);rintro e w15 ⟨rfl,hb⟩;refine⟨_,rfl,?_⟩;have n0_:=Aside0.mk (blk_below (g:=gb304) (o:=.cells #[.int .i64 a0_0,.int .i64 a0_1] 25 (0,0)) (by(with_reducible repeat(first|refine blk_drewN ?_ _|refine blk_drew ?_|refine blk_alloc ?_ _));exact BK304.out) hb);have n1_:=Aside0.mk (below_step (by repeat(first|(with_reducible first|exact HB.out|apply below_alloc|apply pw_below_drewN|apply below_drew1|refine below_set ?_ GE304.out)|exact HB.out)) hb);clear BK304;clear HB;have BK304:=n0_;have HB:=n1_;clear n0_ n1_;(try clear hb);(try clear hb2);(try clear hk);(try clear hi);have hcz16_0:w15.cell? ⟨gb304,0,none⟩=some (.int .i64 a0_0):=(blk_cell BK304.out 0).trans rfl;have hcz16_1:w15.cell? ⟨gb304,1,none⟩=some (.int .i64 a0_1):=(blk_cell BK304.out 1).trans rfl;have hfz16_0:=blk_frozen BK304.out 0;have hfz16_1:=blk_frozen BK304.out 1))
            have pi309:(0≤(a0_0:Int))=True:=eq_true (of_decide_eq_true (by first|(with_reducible assumption)|assumption))
            have qi309:(a0_0<(y306.length:Int))=True:=eq_true (of_decide_eq_true (by first|(with_reducible assumption)|assumption))
            have n0_:=Aside0.mk (blk_drew BK304.out);have n1_:=Aside0.mk (below_drew1 HB.out);clear BK304;clear HB;have BK304:=n0_;have HB:=n1_;clear n0_ n1_;refine start_ (n:=10) (S:=fun w'=>True) (ds:=[]) #[false,false,false,false,false,false,false,false,false,false] (by kernel_rfl) rfl rfl trivial (fun hHeld=> ?_);refine with_tabW spec_ValText.tab5 spec_ValText.bits5 (fun HT_ HW_=> ?_)
            generalize w15.drew=w17 at BK304 HB hHeld⊢
            refine pure_ (i:=1) (N:=some 10) (v:= ?_) (a':= ?_) #[false,true,false,false,false,false,false,false,false,false] rfl rfl (any_of HT_.out (by kernel_rfl)) (fun _ _ _ h=>h) (Or.inl ⟨by rfl,?_⟩) ?_ ?_
            rotate_left
            · intro w'
              go_simp
              with_reducible rfl
            rotate_left
            · simp only[Act.put,List.setIfInBounds_toArray,List.set_cons_zero,List.set_cons_succ,i64_w,i32_w]
              rfl
            refine pure_ (i:=5) (N:=some 14) (v:= ?_) (a':= ?_) #[false,true,false,false,false,true,false,false,false,false] rfl rfl (any_of HT_.out (by kernel_rfl)) (fun _ _ _ h=>h) (Or.inl ⟨by rfl,?_⟩) ?_ ?_
            rotate_left
            · intro w'
              go_simp
              with_reducible rfl
            rotate_left
            · simp only[Act.put,List.setIfInBounds_toArray,List.set_cons_zero,List.set_cons_succ,i64_w,i32_w]
              rfl
            refine inv_at [0,2,3,4,6,7,8,9] (fun a0_ b a w'=> ∃ (v307:Value) (adz_v307:Addr) (m3_:Value),a=putSel a0_ b [(0,9,v307),(2,11,.int .i64 a0_0),(3,12,m3_),(4,13,.string (rdOf ByteArray.empty y306 a0_0)),(6,15,.int .i64 a0_1),(7,16,.string t310),(8,17,.string ((rdOf ByteArray.empty y306 a0_0)++t310)),(9,2,.string ((rdOf ByteArray.empty y306 a0_0)++t310))]∧(w'.heap[gb304]?=some (.cells #[.int .i64 a0_0,.int .i64 a0_1] 25 (0,0)))∧(Below w.heap.size w w')∧(b 0=true→Kd.R Kd.string 9 w' w.heap.size (fun _=>True) v307 y306)∧(b 0=true→ ∃c_,(v307:Value)= .slice (some adz_v307) y306.length c_)∧(b 3=true→(m3_:Value)= .pointer (some (adz_v307.add (a0_0).toNat)))) HT_.out HW_.out (by kernel_rfl) (by kernel_rfl) ?_ ?_ ?_
            · exact⟨.bool false,⟨0,0,none⟩,.bool false,by simp only[putSel,Bool.false_eq_true,if_false],BK304.out,HB.out,fun h_=>absurd h_ (by decide),fun h_=>absurd h_ (by decide),fun h_=>absurd h_ (by decide)⟩
            · skip
              clear BK304 HB;refine steps_cons ?_ ?_
              · rintro b a w' ⟨v307,adz_v307,m3_,ha,Q_BK304,Q_HB,Q_HO308,Q_HA_HO308,Q_X3_⟩ hb_ hon hoff
                refine⟨_,rfl,fun K hK=> ?_⟩
                replace ha:=Aside0.mk ha;have BK304:=Aside0.mk Q_BK304;have HB:=Aside0.mk Q_HB;refine Kd.R_lit_step Kd.string _ 9 ?hg (N:=9) ?hd (xs:=([(⟨#[]⟩:ByteArray),(⟨#[110]⟩:ByteArray),(⟨#[97]⟩:ByteArray),(⟨#[114]⟩:ByteArray)]:List ByteArray)) (inner:=[.string (⟨#[]⟩:ByteArray),.string (⟨#[110]⟩:ByteArray),.string (⟨#[97]⟩:ByteArray),.string (⟨#[114]⟩:ByteArray)]) (ok:=fun _=>True) (okp:=fun _=>True) ?hr ?hp (fun _ hk=>hk) trivial (Below.refl _ _) (Nat.le_refl _) (by simp) ?_;(case hd=>rfl);(case hg=>rfl);(case hr=>first|(go_simp;done)|(go_simp;rfl));(case hp=>exact(Reps.one (show Kd.M Kd.string _ _ _ (⟨#[]⟩:ByteArray) [.string (⟨#[]⟩:ByteArray)]from rfl) (Reps.one (show Kd.M Kd.string _ _ _ (⟨#[110]⟩:ByteArray) [.string (⟨#[110]⟩:ByteArray)]from rfl) (Reps.one (show Kd.M Kd.string _ _ _ (⟨#[97]⟩:ByteArray) [.string (⟨#[97]⟩:ByteArray)]from rfl) (Reps.one (show Kd.M Kd.string _ _ _ (⟨#[114]⟩:ByteArray) [.string (⟨#[114]⟩:ByteArray)]from rfl) (Reps.none _ _))))))
                intro v307 w18 ho19 hb hg_ hnew_;clear hg_ hnew_;(first|rw[←Ny306.out]at ho19|(simp only[Int.reduceToNat]at ho19;rw[←Ny306.out]at ho19))
                have n0_:=Aside0.mk (Kd.R_lower ho19 (below_size (by repeat(first|(with_reducible first|exact HB.out|apply below_alloc|apply pw_below_drewN|apply below_drew1|refine below_set ?_ GE304.out)|exact HB.out))))
                have n1_:=Aside0.mk (blk_below (g:=gb304) (o:=.cells #[.int .i64 a0_0,.int .i64 a0_1] 25 (0,0)) (by(with_reducible repeat(first|refine blk_drewN ?_ _|refine blk_drew ?_|refine blk_alloc ?_ _));exact BK304.out) hb)
                have n2_:=Aside0.mk (below_step (by repeat(first|(with_reducible first|exact HB.out|apply below_alloc|apply pw_below_drewN|apply below_drew1|refine below_set ?_ GE304.out)|exact HB.out)) hb)
                clear BK304;clear HB;have HO308:=n0_;have BK304:=n1_;have HB:=n2_;clear n0_ n1_ n2_;clear hb ho19;obtain⟨Ao20,co20,eo20⟩:=Kd.R_slice HO308.out;subst eo20;obtain⟨ado20,fo20,_⟩:=Kd.at_string (Kd.R_reads' HO308.out).2.2 0 (by decide) (by rw[Ny306.out];simp)
                cases fo20
                refine hK.out _ _ ⟨.slice (some ado20) y306.length co20,ado20,m3_,(by rw[ha.out];exact putSel_upk 0 hb_ rfl rfl rfl),(by(with_reducible repeat(first|refine blk_drewN ?_ _|refine blk_drew ?_|refine blk_alloc ?_ _));exact BK304.out),(by repeat(first|(with_reducible first|exact HB.out|apply below_alloc|apply pw_below_drewN|apply below_drew1|refine below_set ?_ GE304.out)|exact HB.out)),fun _=>(by(with_reducible repeat(first|apply Kd.R_alloc|apply Kd.R_drewN|apply Kd.R_drew));exact HO308.out),fun _=>⟨_,rfl⟩,fun h0_=>absurd ((hoff 3 (by kernel_rfl)).symm.trans h0_) (by decide)⟩
              refine steps_cons ?_ ?_
              · rintro b a w' ⟨v307,adz_v307,m3_,ha,Q_BK304,Q_HB,Q_HO308,Q_HA_HO308,Q_X3_⟩ hb_ hon hoff
                refine⟨_,rfl,fun K hK=> ?_⟩
                have e10:a.tmps[10]?=some (.pointer (some ⟨gb304,0,none⟩)):=by rw[ha];exact(putSel_off rfl).trans rfl
                replace ha:=Aside0.mk ha;have BK304:=Aside0.mk Q_BK304;have HB:=Aside0.mk Q_HB;have hc0_:w'.cell? ⟨gb304,0,none⟩=some (.int .i64 a0_0):=(blk_cell BK304.out 0).trans rfl;have hc1_:w'.cell? ⟨gb304,1,none⟩=some (.int .i64 a0_1):=(blk_cell BK304.out 1).trans rfl;refine value_ (w1:=w') (v:=.int .i64 a0_0) (by rfl) rfl ?_ ?_
                · go_simp
                  (try simp only[i64_w])
                  try rfl
                refine hK.out _ _ ⟨v307,adz_v307,m3_,(by rw[ha.out];exact putSel_upk 1 hb_ rfl rfl rfl),Q_BK304,Q_HB,Q_HO308,Q_HA_HO308,fun h0_=>absurd ((hoff 3 (by kernel_rfl)).symm.trans h0_) (by decide)⟩
              refine steps_cons ?_ ?_
              · rintro b a w' ⟨v307,adz_v307,m3_,ha,Q_BK304,Q_HB,Q_HO308,Q_HA_HO308,Q_X3_⟩ hb_ hon hoff
                refine⟨_,rfl,fun K hK=> ?_⟩
                have e9:a.tmps[9]?=some (v307):=by rw[ha];exact putSel_on (e:=(0,9,v307)) 0 rfl rfl (hon 0 (by kernel_rfl)) rfl
                have e11:a.tmps[11]?=some (.int .i64 a0_0):=by rw[ha];exact putSel_on (e:=(2,11,.int .i64 a0_0)) 1 rfl rfl (hon 2 (by kernel_rfl)) rfl
                replace ha:=Aside0.mk ha;have BK304:=Aside0.mk Q_BK304;have HB:=Aside0.mk Q_HB;have HO308:=Aside0.mk (Q_HO308 (hon 0 (by kernel_rfl)))
                have HA_HO308:=Aside0.mk (Q_HA_HO308 (hon 0 (by kernel_rfl)))
                obtain⟨c_,hv_⟩:=HA_HO308.out;rw[hv_]at e9
                refine value_ (w1:=w') (v:=.pointer (some (adz_v307.add (a0_0).toNat))) (by rfl) rfl ?_ ?_
                · go_simp
                  (try simp only[i64_w])
                  try rfl
                refine hK.out _ _ ⟨v307,adz_v307,(.pointer (some (adz_v307.add (a0_0).toNat))),(by rw[ha.out];exact putSel_upk 2 hb_ rfl rfl rfl),Q_BK304,Q_HB,Q_HO308,Q_HA_HO308,fun _=>rfl⟩
              refine steps_cons ?_ ?_
              · rintro b a w' ⟨v307,adz_v307,m3_,ha,Q_BK304,Q_HB,Q_HO308,Q_HA_HO308,Q_X3_⟩ hb_ hon hoff
                refine⟨_,rfl,fun K hK=> ?_⟩
                have e12:a.tmps[12]?=some (m3_):=by rw[ha];exact putSel_on (e:=(3,12,m3_)) 2 rfl rfl (hon 3 (by kernel_rfl)) rfl
                rw[Q_X3_ (hon 3 (by kernel_rfl))]at e12
                replace ha:=Aside0.mk ha;have BK304:=Aside0.mk Q_BK304;have HB:=Aside0.mk Q_HB;have HO308:=Aside0.mk (Q_HO308 (hon 0 (by kernel_rfl)))
                have HA_HO308:=Aside0.mk (Q_HA_HO308 (hon 0 (by kernel_rfl)))
                obtain⟨c_,hv_⟩:=HA_HO308.out;have hF_:=HO308.out;rw[hv_]at hF_
                obtain⟨ad_,ea_,hx_⟩:=Kd.at_string (Kd.R_reads' hF_).2.2 a0_0 (of_eq_true pi309) (of_eq_true qi309);cases ea_
                refine value_ (w1:=w') (v:=.string (rdOf ByteArray.empty y306 a0_0)) (by rfl) rfl ?_ ?_
                · go_simp
                  (try simp only[i64_w])
                  try rfl
                refine hK.out _ _ ⟨v307,adz_v307,m3_,(by rw[ha.out];exact putSel_upk 3 hb_ rfl rfl rfl),Q_BK304,Q_HB,Q_HO308,Q_HA_HO308,Q_X3_⟩
              refine steps_cons ?_ ?_
              · rintro b a w' ⟨v307,adz_v307,m3_,ha,Q_BK304,Q_HB,Q_HO308,Q_HA_HO308,Q_X3_⟩ hb_ hon hoff
                refine⟨_,rfl,fun K hK=> ?_⟩
                have e14:a.tmps[14]?=some (.pointer (some ⟨gb304,1,none⟩)):=by rw[ha];exact(putSel_off rfl).trans rfl
                replace ha:=Aside0.mk ha;have BK304:=Aside0.mk Q_BK304;have HB:=Aside0.mk Q_HB;have hc0_:w'.cell? ⟨gb304,0,none⟩=some (.int .i64 a0_0):=(blk_cell BK304.out 0).trans rfl;have hc1_:w'.cell? ⟨gb304,1,none⟩=some (.int .i64 a0_1):=(blk_cell BK304.out 1).trans rfl;refine value_ (w1:=w') (v:=.int .i64 a0_1) (by rfl) rfl ?_ ?_
                · go_simp
                  (try simp only[i64_w])
                  try rfl
                refine hK.out _ _ ⟨v307,adz_v307,m3_,(by rw[ha.out];exact putSel_upk 4 hb_ rfl rfl rfl),Q_BK304,Q_HB,Q_HO308,Q_HA_HO308,Q_X3_⟩
              refine steps_cons ?_ ?_
              · rintro b a w' ⟨v307,adz_v307,m3_,ha,Q_BK304,Q_HB,Q_HO308,Q_HA_HO308,Q_X3_⟩ hb_ hon hoff
                refine⟨_,rfl,fun K hK=> ?_⟩
                have e15:a.tmps[15]?=some (.int .i64 a0_1):=by rw[ha];exact putSel_on (e:=(6,15,.int .i64 a0_1)) 4 rfl rfl (hon 6 (by kernel_rfl)) rfl
                replace ha:=Aside0.mk ha;have BK304:=Aside0.mk Q_BK304;have HB:=Aside0.mk Q_HB;refine goes_ Tryd.func43 (by kernel_rfl) rfl #[.int .i64 a0_1] (by rfl) rfl rfl (by first|(simp only[List.map_toArray,List.map_cons,List.map_nil,Act.eval,Array.getD_eq_getD_getElem?,Option.getD_some,e15];done)|(simp only[List.map_toArray,List.map_cons,List.map_nil,Act.eval,Array.getD_eq_getD_getElem?,Option.getD_some,e15];rfl)) ?_
                with_reducible refine(spec_l6Dec.calls k a0_1 t310 _ A11.out).mono ?_
                rintro e w18 ⟨rfl,hb⟩
                refine⟨_,rfl,?_⟩
                have n0_:=Aside0.mk (blk_below (g:=gb304) (o:=.cells #[.int .i64 a0_0,.int .i64 a0_1] 25 (0,0)) (by(with_reducible repeat(first|refine blk_drewN ?_ _|refine blk_drew ?_|refine blk_alloc ?_ _));exact BK304.out) hb)
                have n1_:=Aside0.mk (below_step (by repeat(first|(with_reducible first|exact HB.out|apply below_alloc|apply pw_below_drewN|apply below_drew1|refine below_set ?_ GE304.out)|exact HB.out)) hb)
                have z_HO308:=fun (h0_:b 0=true)=>(show Kd.R Kd.string 9 w18 w.heap.size (fun _=>True) v307 y306 from by first|exact(Kd.R_below (by(with_reducible repeat(first|apply Kd.R_alloc|apply Kd.R_drewN|apply Kd.R_drew));exact(Q_HO308 h0_)) hb)|exact Kd.R_mono (Kd.R_below (by(with_reducible repeat(first|apply Kd.R_alloc|apply Kd.R_drewN|apply Kd.R_drew));exact(Q_HO308 h0_)) hb) (fun _ h_=>by first|trivial|exact h_|exact h_.1))
                clear BK304;clear HB;have BK304:=n0_;have HB:=n1_;clear n0_ n1_;(try clear hb)
                (try clear hb2)
                (try clear hk)
                (try clear hi)
                refine hK.out _ _ ⟨v307,adz_v307,m3_,(by rw[ha.out];exact putSel_upk 5 hb_ rfl rfl rfl),(by(with_reducible repeat(first|refine blk_drewN ?_ _|refine blk_drew ?_|refine blk_alloc ?_ _));exact BK304.out),(by repeat(first|(with_reducible first|exact HB.out|apply below_alloc|apply pw_below_drewN|apply below_drew1|refine below_set ?_ GE304.out)|exact HB.out)),z_HO308,Q_HA_HO308,Q_X3_⟩
              refine steps_cons ?_ ?_
              · rintro b a w' ⟨v307,adz_v307,m3_,ha,Q_BK304,Q_HB,Q_HO308,Q_HA_HO308,Q_X3_⟩ hb_ hon hoff
                refine⟨_,rfl,fun K hK=> ?_⟩
                have e13:a.tmps[13]?=some (.string (rdOf ByteArray.empty y306 a0_0)):=by rw[ha];exact putSel_on (e:=(4,13,.string (rdOf ByteArray.empty y306 a0_0))) 3 rfl rfl (hon 4 (by kernel_rfl)) rfl
                have e16:a.tmps[16]?=some (.string t310):=by rw[ha];exact putSel_on (e:=(7,16,.string t310)) 5 rfl rfl (hon 7 (by kernel_rfl)) rfl
                replace ha:=Aside0.mk ha;have BK304:=Aside0.mk Q_BK304;have HB:=Aside0.mk Q_HB;have HO308:=Aside0.mk (Q_HO308 (hon 0 (by kernel_rfl)))
                have HA_HO308:=Aside0.mk (Q_HA_HO308 (hon 0 (by kernel_rfl)))
                refine value_ (w1:=w') (v:=.string ((rdOf ByteArray.empty y306 a0_0)++t310)) (by rfl) rfl ?_ ?_
                · go_simp
                  (try simp only[i64_w])
                  try rfl
                refine hK.out _ _ ⟨v307,adz_v307,m3_,(by rw[ha.out];exact putSel_upk 6 hb_ rfl rfl rfl),Q_BK304,Q_HB,Q_HO308,Q_HA_HO308,Q_X3_⟩
              refine steps_cons ?_ ?_
              · rintro b a w' ⟨v307,adz_v307,m3_,ha,Q_BK304,Q_HB,Q_HO308,Q_HA_HO308,Q_X3_⟩ hb_ hon hoff
                refine⟨_,rfl,fun K hK=> ?_⟩
                have e17:a.tmps[17]?=some (.string ((rdOf ByteArray.empty y306 a0_0)++t310)):=by rw[ha];exact putSel_on (e:=(8,17,.string ((rdOf ByteArray.empty y306 a0_0)++t310))) 6 rfl rfl (hon 8 (by kernel_rfl)) rfl
                replace ha:=Aside0.mk ha;have BK304:=Aside0.mk Q_BK304;have HB:=Aside0.mk Q_HB;have HO308:=Aside0.mk (Q_HO308 (hon 0 (by kernel_rfl)))
                have HA_HO308:=Aside0.mk (Q_HA_HO308 (hon 0 (by kernel_rfl)))
                refine value_ (w1:=w') (v:=.string ((rdOf ByteArray.empty y306 a0_0)++t310)) (by rfl) rfl ?_ ?_
                · go_simp
                  (try simp only[i64_w])
                  try rfl
                refine hK.out _ _ ⟨v307,adz_v307,m3_,(by rw[ha.out];exact putSel_upk 7 hb_ rfl rfl rfl),Q_BK304,Q_HB,Q_HO308,Q_HA_HO308,Q_X3_⟩
              exact steps_nil
            rintro b a w22 hall ⟨v307,adz_v307,m3_,ha,Q_BK304,Q_HB,Q_HO308,Q_HA_HO308,Q_X3_⟩
            clear BK304 HB;have hb0_:=hall 0 (by kernel_rfl)
            have hb2_:=hall 2 (by kernel_rfl)
            have hb3_:=hall 3 (by kernel_rfl)
            have hb4_:=hall 4 (by kernel_rfl)
            have hb6_:=hall 6 (by kernel_rfl)
            have hb7_:=hall 7 (by kernel_rfl)
            have hb8_:=hall 8 (by kernel_rfl)
            have hb9_:=hall 9 (by kernel_rfl)
            subst ha;obtain rfl:=Q_X3_ hb3_;simp only[putSel,hb0_,hb2_,hb3_,hb4_,hb6_,hb7_,hb8_,hb9_,if_true,Act.put,List.setIfInBounds_toArray,List.set_cons_zero,List.set_cons_succ]
            have BK304:=Aside0.mk Q_BK304;clear Q_BK304;have HB:=Aside0.mk Q_HB;clear Q_HB;have HO308:=Aside0.mk (Q_HO308 hb0_);clear Q_HO308;have HA_HO308:=Aside0.mk (Q_HA_HO308 hb0_);clear Q_HA_HO308;clear hall hb0_ hb2_ hb3_ hb4_ hb6_ hb7_ hb8_ hb9_;obtain⟨co23,eo23⟩:=HA_HO308.out;clear HA_HO308;subst eo23;try go_wp2
            go_ret
            exact⟨by first|rfl|(simp[errW_none,errW_some]<;>rfl)|(simp[*,errW_none,errW_some]<;>rfl),by repeat(first|(with_reducible first|exact HB.out|apply below_alloc|apply pw_below_drewN|apply below_drew1|refine below_set ?_ GE304.out)|exact HB.out)⟩
          · rw[if_neg c12]at H
            exact absurd H (by simp)
        · rw[if_neg c10]at H
          exact absurd H (by simp)
      · rw[if_neg c9]at H
        exact absurd H (by simp)
  · replace c3:=Bool.eq_false_iff.mpr c3
    subst c3;have H1:(some (⟨#[]⟩:ByteArray))=some r:=by rw[if_neg (show¬(false=true) by decide)]at H;exact H
    clear H;have H:=H1;clear H1;obtain rfl:=Option.some.inj H;go_enter Tryd.func17,Tryd.ntmps17
    go_wp2_with (first|((with_reducible refine gate_dst (N:=1) rfl ?_);refine box_event ?hg (N:=1) ?hd (cs:= #[.int .i64 a0_0,.int .i64 a0_1]) (t:=25) ?hr ?_;(case hd=>rfl);(case hg=>rfl);(case hr=>first|(go_simp;done)|(go_simp;rfl));intro gb304 hg w24 hbox hb;have n0_:=Aside0.mk (below_step (by repeat(first|(with_reducible first|exact HB.out|apply below_alloc|apply pw_below_drewN|apply below_drew1)|exact HB.out)) hb);have n1_:=Aside0.mk (hbox);have n2_:=Aside0.mk ((by rw[hg];exact(below_size (by repeat(first|(with_reducible first|exact HB.out|apply below_alloc|apply pw_below_drewN|apply below_drew1)|exact HB.out))):w.heap.size≤gb304));have n3_:=Aside0.mk ((by rw[hg];exact(below_size (by repeat(first|(with_reducible first|exact HB.out|apply below_alloc|apply pw_below_drewN|apply below_drew1)|exact HB.out))):w.heap.size≤gb304));clear HB;have HB:=n0_;have BK304:=n1_;have GW304:=n2_;have GE304:=n3_;clear n0_ n1_ n2_ n3_;clear hb hbox hg;have hcz25_0:w24.cell? ⟨gb304,0,none⟩=some (.int .i64 a0_0):=(blk_cell BK304.out 0).trans rfl;have hcz25_1:w24.cell? ⟨gb304,1,none⟩=some (.int .i64 a0_1):=(blk_cell BK304.out 1).trans rfl;have hfz25_0:=blk_frozen BK304.out 0;have hfz25_1:=blk_frozen BK304.out 1)|((with_reducible refine gate_callee (f:=42) rfl ?_);refine goesL_ (some 4) rfl rfl Tryd.func42 (by kernel_rfl) rfl #[.agg #[.int .i64 a0_0,.int .i64 a0_1]] rfl (by(try simp only[List.map_toArray,List.map_cons,List.map_nil]);first|done|rfl|(simp only[List.length_drop,List.length_take];rfl)) ?_;(with_reducible refine(spec_ValOk.calls a0_0 a0_1 false _ A2.out).mono ?_);rintro e w26 ⟨rfl,hb⟩;refine⟨_,rfl,?_⟩;have n0_:=Aside0.mk (blk_below (g:=gb304) (o:=.cells #[.int .i64 a0_0,.int .i64 a0_1] 25 (0,0)) (by(with_reducible repeat(first|refine blk_drewN ?_ _|refine blk_drew ?_|refine blk_alloc ?_ _));exact BK304.out) hb);have n1_:=Aside0.mk (below_step (by repeat(first|(with_reducible first|exact HB.out|apply below_alloc|apply pw_below_drewN|apply below_drew1|refine below_set ?_ GE304.out)|exact HB.out)) hb);clear BK304;clear HB;have BK304:=n0_;have HB:=n1_;clear n0_ n1_;(try clear hb);(try clear hb2);(try clear hk);(try clear hi)))
    go_ret
    exact⟨by first|rfl|(simp[errW_none,errW_some]<;>rfl)|(simp[*,errW_none,errW_some]<;>rfl),by repeat(first|(with_reducible first|exact HB.out|apply below_alloc|apply pw_below_drewN|apply below_drew1|refine below_set ?_ GE304.out)|exact HB.out)⟩
end Go.Proofs.YtmklpbmlgjkbiaaDoor.PS
end
section
namespace Go.Proofs.YtmklpbmlgjkbiaaDoor.PS
open Go.RowKit Go.Proofs.YtmklpbmlgjkbiaaDoorW.PrintWords Go.Proofs.YtmklpbmlgjkbiaaDoorW.PrintLast
theorem l6_ok (n:Int) (h0: -100<n) (h1:n<100):spec_l6Dec.f 5 n=some ⟨(itoaS n).toArray⟩:=by
  have h: ∀i∈List.range 199,spec_l6Dec.f 5 ((i:Int)-99)=some ⟨(itoaS ((i:Int)-99)).toArray⟩:=by decide+kernel
  have:=h (n+99).toNat (by simp;omega)
  rwa [show(((n+99).toNat:Nat):Int)-99=n by omega]at this
theorem specOk_f (k n:Int):spec_ValOk.f k n=some (okB k n):=by
  unfold spec_ValOk.f okB okP spec_l6In.f;by_cases h0:k=0
  · subst h0;simp;by_cases n=0<;>simp[*]
  by_cases h1:k=1
  · subst h1;simp;by_cases h: -99≤n<;>by_cases h':n≤99<;>simp[*]
  by_cases h2:k=2
  · subst h2;simp;by_cases h:0≤n<;>by_cases h':n≤9<;>simp[*]
  by_cases h3:k=3
  · subst h3;simp;by_cases h:1≤n<;>by_cases h':n≤6<;>simp[*]
  simp[h0,h1,h2,h3]
theorem specText_f (k n:Int):spec_ValText.f 5 k n=some (vtext k n):=by
  unfold spec_ValText.f vtext;rw[specOk_f];by_cases h:okB k n=true
  · rw[h]
    simp only[Option.bind_some,if_true]
    by_cases h0:k=0
    · rw[if_pos h0,if_pos h0]
    · rw[if_neg h0,if_neg h0]
      have hp:=okB_true.1 h;have hk:k=1∨k=2∨k=3:=by unfold okP at hp;omega
      rw[l6_ok n (by unfold okP at hp;omega) (by unfold okP at hp;omega)]
      have hs:(itoaS n).length≤3:=by unfold itoaS dec2;split<;>split<;>simp
      obtain⟨X,hX⟩: ∃X,X=itoaS n:=⟨_,rfl⟩;rw[←hX]at hs⊢
      clear hX hp h h0;simp only[Option.bind_some]
      have hsz: ∀c:UInt8,(ByteArray.mk #[c]).size+(ByteArray.mk X.toArray).size≤9223372036854775807:=fun c=>by
        have:(ByteArray.mk X.toArray).size=X.length:=by simp[ByteArray.size]
        rw[this];show 1+X.length≤_;omega
      rcases hk with rfl|rfl|rfl
      · rw[if_pos (by decide),if_pos (by decide)];exact(if_pos (hsz 110)).trans rfl
      · rw[if_pos (by decide),if_pos (by decide)];exact(if_pos (hsz 97)).trans rfl
      · rw[if_pos (by decide),if_pos (by decide)];exact(if_pos (hsz 114)).trans rfl
  · simp only[Bool.not_eq_true]at h
    rw[h];simp
def Hold (w W:World) (g:Nat) (o:Obj):Prop:=Below w.heap.size w W∧W.heap[g]?=some o
theorem Hold.new {w W:World} (h:Below w.heap.size w W) (o:Obj):Hold w (W.alloc o) W.heap.size o:=⟨below_alloc h o,blk_new W o⟩
theorem Hold.step {w W W':World} {g:Nat} {o:Obj} (h:Hold w W g o) (hb:Below W.heap.size W W'):Hold w W' g o:=⟨below_step h.1 hb,blk_below h.2 hb⟩
theorem Hold.alloc {w W:World} {g:Nat} {o:Obj} (h:Hold w W g o) (o':Obj):Hold w (W.alloc o') g o:=⟨below_alloc h.1 o',blk_alloc h.2 o'⟩
theorem Hold.drew {w W:World} {g:Nat} {o:Obj} (h:Hold w W g o):Hold w W.drew g o:=⟨below_drew1 h.1,h.2⟩
theorem Hold.drewN {w W:World} {g:Nat} {o:Obj} (h:Hold w W g o) (n:Nat):Hold w (W.drewN n) g o:=⟨pw_below_drewN h.1 n,h.2⟩
theorem Hold.below {w W:World} {g:Nat} {o:Obj} (h:Hold w W g o):Below w.heap.size w W:=h.1
theorem Hold.blk {w W:World} {g:Nat} {o:Obj} (h:Hold w W g o):W.heap[g]?=some o:=h.2
theorem box2 {W:World} {g:Nat} {a b:Value} {t:TypeId} (h:W.heap[g]?=some (.cells #[a,b] t (0,0))):W.cell? ⟨g,0,none⟩=some a∧W.cell? ⟨g,1,none⟩=some b:=
  ⟨(blk_cell h 0).trans rfl,(blk_cell h 1).trans rfl⟩
theorem free2 {W:World} {g:Nat} {a b:Value} {t:TypeId} (h:W.heap[g]?=some (.cells #[a,b] t (0,0))):W.frozen? ⟨g,0,none⟩=false∧W.frozen? ⟨g,1,none⟩=false:=⟨blk_frozen h 0,blk_frozen h 1⟩
def Hold2 (w W:World) (g:Nat) (o:Obj) (g':Nat) (o':Obj):Prop:=Hold w W g o∧W.heap[g']?=some o'
theorem Hold2.step {w W W':World} {g g':Nat} {o o':Obj} (h:Hold2 w W g o g' o') (hb:Below W.heap.size W W'):Hold2 w W' g o g' o':=⟨h.1.step hb,blk_below h.2 hb⟩
theorem Hold2.alloc {w W:World} {g g':Nat} {o o':Obj} (h:Hold2 w W g o g' o') (q:Obj):Hold2 w (W.alloc q) g o g' o':=⟨h.1.alloc q,blk_alloc h.2 q⟩
theorem Hold2.drew {w W:World} {g g':Nat} {o o':Obj} (h:Hold2 w W g o g' o'):Hold2 w W.drew g o g' o':=⟨h.1.drew,h.2⟩
theorem Hold2.new {w W:World} {g:Nat} {o:Obj} (h:Hold w W g o) (q:Obj):Hold2 w (W.alloc q) g o W.heap.size q:=⟨h.alloc q,blk_new W q⟩
theorem Hold2.below {w W:World} {g g':Nat} {o o':Obj} (h:Hold2 w W g o g' o'):Below w.heap.size w W:=h.1.1
theorem Hold2.blk {w W:World} {g g':Nat} {o o':Obj} (h:Hold2 w W g o g' o'):W.heap[g]?=some o:=h.1.2
theorem Hold2.blk2 {w W:World} {g g':Nat} {o o':Obj} (h:Hold2 w W g o g' o'):W.heap[g']?=some o':=h.2
theorem spec_ValText_any (k n:Int) (w:World):
    Calls Tryd.prog 17 #[.agg #[.int .i64 k,.int .i64 n]] w fun e w'=>e= .returned (.string (vtext k n))∧Below w.heap.size w w':=
  spec_ValText.calls 5 k n _ w (specText_f k n)
theorem okAll {P:Int→Int→Prop} (h0:P 0 0) (h1: ∀i∈List.range 199,P 1 ((i:Int)-99)) (h2: ∀i∈List.range 10,P 2 (i:Int)) (h3: ∀i∈List.range 6,P 3 ((i:Int)+1)) (k n:Int) (h:okP k n):P k n:=by
  rcases h with ⟨rfl,rfl⟩|⟨rfl,a,b⟩|⟨rfl,a,b⟩|⟨rfl,a,b⟩
  · exact h0
  · have:=h1 (n+99).toNat (by simp;omega)
    rwa [show(((n+99).toNat:Nat):Int)-99=n by omega]at this
  · have:=h2 n.toNat (by simp;omega)
    rwa [show((n.toNat:Nat):Int)=n by omega]at this
  · have:=h3 (n-1).toNat (by simp;omega)
    rwa [show(((n-1).toNat:Nat):Int)+1=n by omega]at this
def decL:List UInt8→Int
  | [45,a]=> -((a.toNat:Int)-48)
  | [45,a,b]=> -(((a.toNat:Int)-48)*10+((b.toNat:Int)-48))
  | [a]=>(a.toNat:Int)-48
  | [a,b]=>((a.toNat:Int)-48)*10+((b.toNat:Int)-48)
  |_=>0
def backL:List UInt8→Int×Int
  | [110,111,110,101]=>(0,0)
  |110::r=>(1,decL r)
  |97::r=>(2,decL r)
  |114::r=>(3,decL r)
  |_=>(4,0)
theorem back_ok (k n:Int) (h:okP k n):backL (vtext k n).data.toList=(k,n):=
  okAll (P:=fun k n=>backL (vtext k n).data.toList=(k,n)) (by decide+kernel) (by decide+kernel) (by decide+kernel) (by decide+kernel) k n h
theorem vtext_size (k n:Int) (h:okP k n):2≤(vtext k n).data.toList.length∧(vtext k n).data.toList.length≤4:=
  okAll (P:=fun k n=>2≤(vtext k n).data.toList.length∧(vtext k n).data.toList.length≤4) (by decide+kernel) (by decide+kernel) (by decide+kernel) (by decide+kernel) k n h
theorem toListD (b:ByteArray):b.toList=b.data.toList:=ByteArray.toList_eq b
end Go.Proofs.YtmklpbmlgjkbiaaDoor.PS
end
section
namespace Go.Proofs.YtmklpbmlgjkbiaaDoor.PS
open Go.RowKit Go.Proofs.YtmklpbmlgjkbiaaDoorW.PrintWords Go.Proofs.YtmklpbmlgjkbiaaDoorW.PrintLast Go.Proofs.YtmklpbmlgjkbiaaDoorW.PrintMore
attribute [local go_sem] max2_int min2_int max_two min_two max_three min_three max_four min_four   -- for this text's walks alone
def IsS95 (w0 W:World) (g:Nat) (f0:List Int) (f1:Int):Prop:= ∃A0 c0,W.heap[g]?=some (.cells #[.slice A0 f0.length c0,.int .i64 f1] 95 (0,0))∧w0.heap.size≤g∧Kd.C (Kd.int .u8) w0 A0 f0.length f0
theorem IsS95.grown {w0 W:World} {g:Nat} {f0:List Int} {f1:Int} {W1:World} {row:Option Nat} (h:IsS95 w0 W g f0 f1) (hw:W.grownBy W1 row) (hne:some g≠row):IsS95 w0 W1 g f0 f1:=by
  obtain⟨A0,c0,hb,hg,hr0⟩:=h;exact⟨A0,c0,blk_grown hb hw hne,hg,hr0⟩
theorem IsS95.kept {w0 W:World} {g:Nat} {f0:List Int} {f1:Int} {W1:World} {S:Nat→Prop} (h:IsS95 w0 W g f0 f1) (hk:Kept W W1 S) (hne: ¬S g):IsS95 w0 W1 g f0 f1:=by
  obtain⟨A0,c0,hb,hg,hr0⟩:=h;exact⟨A0,c0,blk_kept hb hk hne,hg,hr0⟩
theorem IsS95.below {w0 W:World} {g:Nat} {f0:List Int} {f1:Int} {W1:World} (h:IsS95 w0 W g f0 f1) (hw:Below W.heap.size W W1):IsS95 w0 W1 g f0 f1:=h.grown (grown_of_below hw none) (by simp)
theorem IsS95.alloc {w0 W:World} {g:Nat} {f0:List Int} {f1:Int} (h:IsS95 w0 W g f0 f1) (o:Obj):IsS95 w0 (W.alloc o) g f0 f1:=h.below (below_alloc (Below.refl _ _) o)
theorem IsS95.drewN {w0 W:World} {g:Nat} {f0:List Int} {f1:Int} (h:IsS95 w0 W g f0 f1) (m:Nat):IsS95 w0 (W.drewN m) g f0 f1:=h
theorem IsS95.drew {w0 W:World} {g:Nat} {f0:List Int} {f1:Int} (h:IsS95 w0 W g f0 f1):IsS95 w0 W.drew g f0 f1:=h
theorem IsS95.apart {w0 W:World} {g:Nat} {f0:List Int} {f1:Int} {α:Type} {d:Kd α} {e:Nat} {base:Nat} {ok:Nat→Prop} {v:Value} {xs:List α} (h:IsS95 w0 W g f0 f1) (ho:d.R e W base ok v xs) (ht: ∀q,q∈e::d.E→q≠95):d.R e W base (fun k=>ok k∧k≠g) v xs:=by
  obtain⟨A0,c0,hb,hg,hr0⟩:=h;exact Kd.R_types ho hb ht
theorem IsS95.lt {w0 W:World} {g:Nat} {f0:List Int} {f1:Int} (h:IsS95 w0 W g f0 f1):g<W.heap.size:=by
  obtain⟨A0,c0,hb,hg,hr0⟩:=h;exact blk_lt hb
theorem IsS95.ge {w0 W:World} {g:Nat} {f0:List Int} {f1:Int} (h:IsS95 w0 W g f0 f1):w0.heap.size≤g:=by
  obtain⟨A0,c0,hb,hg,hr0⟩:=h;exact hg
theorem IsS95.far {w0 W:World} {g:Nat} {f0:List Int} {f1:Int} {p:Addr} (h:IsS95 w0 W g f0 f1) (hne:g≠p.block) (u:Value):IsS95 w0 (W.setCell p u) g f0 f1:=by
  obtain⟨A0,c0,hb,hg,hr0⟩:=h;exact⟨A0,c0,blk_far hb hne u,hg,hr0⟩
theorem cellS95_0 {W:World} {g:Nat} {A0:Option Addr} {c0:Nat} {f0:List Int} {f1:Int} (h:W.heap[g]?=some (.cells #[.slice A0 f0.length c0,.int .i64 f1] 95 (0,0))):W.cell? ⟨g,0,none⟩=some (.slice A0 f0.length c0):=(blk_cell h 0).trans rfl
theorem cellS95_1 {W:World} {g:Nat} {A0:Option Addr} {c0:Nat} {f0:List Int} {f1:Int} (h:W.heap[g]?=some (.cells #[.slice A0 f0.length c0,.int .i64 f1] 95 (0,0))):W.cell? ⟨g,1,none⟩=some (.int .i64 f1):=(blk_cell h 1).trans rfl
theorem IsS95.set_1 {w0 W:World} {g:Nat} {f0:List Int} {f1:Int} (h:IsS95 w0 W g f0 f1) (x:Int):IsS95 w0 (W.setCell ⟨g,1,none⟩ (.int .i64 x)) g f0 x:=by
  obtain⟨A0,c0,hb,hg,hr0⟩:=h;exact⟨A0,c0,by simpa using blk_set hb 1 (.int .i64 x),hg,hr0⟩
def spec_l6Open.f (l0:List Int):Option (List Int×Int):=if(l0.length:Int)>2000 then(if 2000≤(l0.length:Int)then(some (l0.take 2000,0))else(none))else(some (l0,0))
theorem spec_l6Open.calls (A0:Option Addr) (c0:Nat) (l0:List Int) (r1:List Int) (r2:Int) (w0 w:World) (hB:Below w0.heap.size w0 w) (hr0:Kd.C (Kd.int .u8) w0 A0 l0.length l0) (hc0:l0.length≤c0) (h:spec_l6Open.f l0=some (r1,r2)):
    Calls Tryd.prog 46 #[.slice A0 l0.length c0] w fun e w'=> ∃g_:Nat,e= .returned (.pointer (some ⟨g_,0,none⟩))∧IsS95 w0 w' g_ r1 r2∧Below w0.heap.size w0 w'∧Below w.heap.size w w':=by
  have hu95:=Tryd.underlying95;have HR0:=Aside0.mk hr0;have HC0:=Aside0.mk hc0;clear hr0 hc0;have HBW:=Aside0.mk (Below.refl w.heap.size w);have HW0:=Aside0.mk hB.size;have HB:=Aside0.mk hB;clear hB;have H:(if(l0.length:Int)>2000 then(if 2000≤(l0.length:Int)then(some (l0.take 2000,0))else(none))else(some (l0,0)))=some (r1,r2):=h
  clear h;by_cases c2:(l0.length:Int)>2000
  · rw[if_pos c2]at H
    have c2b0:decide (2000<(l0.length:Int))=true:=decide_eq_true c2;have c2b1:decide (2000<l0.length)=true:=decide_eq_true (by omega)
    clear c2;by_cases c3:2000≤(l0.length:Int)
    · rw[if_pos c3]at H
      have c3b0:=eq_true c3;have c3b1:decide (2000≤(l0.length:Int))=true:=decide_eq_true c3;clear c3;simp only[Option.some.injEq,Prod.mk.injEq]at H
      obtain⟨rfl,rfl⟩:=H;obtain⟨i04,hi04,_,hsz4,_⟩:=info_parts info5;obtain⟨hcut4,hA4,hC4⟩:=print_take_of (P:=Tryd.prog) (Value.int .u8) 0 28 5 .i64 Tryd.underlying28 hi04 hsz4 A0 c0 l0 2000 (by omega) (of_decide_eq_true (by first|(with_reducible assumption)|assumption)) HC0.out
      have HR159:=Aside0.mk (Kd.C_of_reads (h1:=fun _=>rfl) (hA4 _ (Kd.reads_of_C HR0.out)))
      have HC159:=Aside0.mk hC4;clear hA4 hC4 hi04 hsz4;go_enter Tryd.func46,Tryd.ntmps46
      go_wp2_with (first|((with_reducible refine gate_dst (N:=10) rfl ?_);refine box_event ?hg (N:=10) ?hd (cs:= #[.slice A0 (l0.take 2000).length c0,.int .i64 0]) (t:=95) ?hr ?_;(case hd=>rfl);(case hg=>rfl);(case hr=>first|(go_simp;done)|(go_simp;rfl));intro gb160 hg w5 hbox hb;have n0_:=Aside0.mk (below_step HBW.out hb);have n1_:=Aside0.mk (below_step (by repeat(first|(with_reducible first|exact HB.out|apply below_alloc|apply pw_below_drewN|apply below_drew1)|exact HB.out)) hb);have n2_:=Aside0.mk (hbox);have n3_:=Aside0.mk ((by rw[hg];exact(below_size (by repeat(first|(with_reducible first|exact HBW.out|apply below_alloc|apply pw_below_drewN|apply below_drew1)|exact HBW.out))):w.heap.size≤gb160));have n4_:=Aside0.mk ((Nat.le_trans HW0.out (by rw[hg];exact(below_size (by repeat(first|(with_reducible first|exact HBW.out|apply below_alloc|apply pw_below_drewN|apply below_drew1)|exact HBW.out))):w.heap.size≤gb160):w0.heap.size≤gb160));clear HBW;clear HB;have HBW:=n0_;have HB:=n1_;have BK160:=n2_;have GW160:=n3_;have GE160:=n4_;clear n0_ n1_ n2_ n3_ n4_;clear hb hbox hg))
      go_ret
      exact⟨_,rfl,(show IsS95 w0 _ gb160 (l0.take 2000) 0 from⟨_,_,by(with_reducible repeat(first|refine blk_drewN ?_ _|refine blk_drew ?_|refine blk_alloc ?_ _));exact BK160.out,GE160.out,HR159.out⟩),by repeat(first|(with_reducible first|exact HB.out|apply below_alloc|apply pw_below_drewN|apply below_drew1|refine below_set ?_ GE160.out)|exact HB.out),by repeat(first|(with_reducible first|exact HBW.out|apply below_alloc|apply pw_below_drewN|apply below_drew1|refine below_set ?_ GW160.out)|exact HBW.out)⟩
    · rw[if_neg c3]at H
      exact absurd H (by simp)
  · rw[if_neg c2]at H
    have c2b0:decide (2000<(l0.length:Int))=false:=decide_eq_false c2;have c2b1:decide (2000<l0.length)=false:=decide_eq_false (by omega)
    clear c2;simp only[Option.some.injEq,Prod.mk.injEq]at H
    obtain⟨rfl,rfl⟩:=H;go_enter Tryd.func46,Tryd.ntmps46
    go_wp2_with (first|((with_reducible refine gate_dst (N:=10) rfl ?_);refine box_event ?hg (N:=10) ?hd (cs:= #[.slice A0 l0.length c0,.int .i64 0]) (t:=95) ?hr ?_;(case hd=>rfl);(case hg=>rfl);(case hr=>first|(go_simp;done)|(go_simp;rfl));intro gb161 hg w6 hbox hb;have n0_:=Aside0.mk (below_step HBW.out hb);have n1_:=Aside0.mk (below_step (by repeat(first|(with_reducible first|exact HB.out|apply below_alloc|apply pw_below_drewN|apply below_drew1)|exact HB.out)) hb);have n2_:=Aside0.mk (hbox);have n3_:=Aside0.mk ((by rw[hg];exact(below_size (by repeat(first|(with_reducible first|exact HBW.out|apply below_alloc|apply pw_below_drewN|apply below_drew1)|exact HBW.out))):w.heap.size≤gb161));have n4_:=Aside0.mk ((Nat.le_trans HW0.out (by rw[hg];exact(below_size (by repeat(first|(with_reducible first|exact HBW.out|apply below_alloc|apply pw_below_drewN|apply below_drew1)|exact HBW.out))):w.heap.size≤gb161):w0.heap.size≤gb161));clear HBW;clear HB;have HBW:=n0_;have HB:=n1_;have BK161:=n2_;have GW161:=n3_;have GE161:=n4_;clear n0_ n1_ n2_ n3_ n4_;clear hb hbox hg))
    go_ret
    exact⟨_,rfl,(show IsS95 w0 _ gb161 l0 0 from⟨_,_,by(with_reducible repeat(first|refine blk_drewN ?_ _|refine blk_drew ?_|refine blk_alloc ?_ _));exact BK161.out,GE161.out,HR0.out⟩),by repeat(first|(with_reducible first|exact HB.out|apply below_alloc|apply pw_below_drewN|apply below_drew1|refine below_set ?_ GE161.out)|exact HB.out),by repeat(first|(with_reducible first|exact HBW.out|apply below_alloc|apply pw_below_drewN|apply below_drew1|refine below_set ?_ GW161.out)|exact HBW.out)⟩
def spec_l6Rd_pick.j0:Nat→Int→Bool→List Int→Int→Option (Int×Int)
  |0,_,_,_,_=>none
  |k+1,x1,x24,x1000,x1001=>if x24=true then(some (0,x1001))else(if(wrap64 (x1001-1))<(x1000.length:Int)then(if 0≤(wrap64 (x1001-1))then(if x1=0 then(none)else(some (Int.tmod (wrap64 (rd x1000 (wrap64 (x1001-1)))) x1,x1001)))else(none))else(if(x1000.length:Int)=0 then(none)else(if 0≤(Int.tmod (wrap64 (x1001-1)) (x1000.length:Int))then(if(Int.tmod (wrap64 (x1001-1)) (x1000.length:Int))<(x1000.length:Int)then(if 0≤(Int.tmod (wrap64 ((wrap64 ((wrap64 (x1001-1))*7))+3)) (x1000.length:Int))then(if(Int.tmod (wrap64 ((wrap64 ((wrap64 (x1001-1))*7))+3)) (x1000.length:Int))<(x1000.length:Int)then(if x1=0 then(none)else(some (Int.tmod (Go.bits .xor .i64 (wrap64 ((wrap64 ((wrap64 ((wrap64 ((wrap64 (rd x1000 (Int.tmod (wrap64 (x1001-1)) (x1000.length:Int))))*131))+(wrap64 ((wrap64 (rd x1000 (Int.tmod (wrap64 ((wrap64 ((wrap64 (x1001-1))*7))+3)) (x1000.length:Int))))*1117))))+(wrap64 ((wrap64 (x1001-1))*29))))+(wrap64 ((wrap64 (Int.tdiv (wrap64 (x1001-1)) (x1000.length:Int)))*53)))) (wrap64 (Int.tdiv (wrap64 ((wrap64 ((wrap64 ((wrap64 ((wrap64 (rd x1000 (Int.tmod (wrap64 (x1001-1)) (x1000.length:Int))))*131))+(wrap64 ((wrap64 (rd x1000 (Int.tmod (wrap64 ((wrap64 ((wrap64 (x1001-1))*7))+3)) (x1000.length:Int))))*1117))))+(wrap64 ((wrap64 (x1001-1))*29))))+(wrap64 ((wrap64 (Int.tdiv (wrap64 (x1001-1)) (x1000.length:Int)))*53)))) 64))) x1,x1001)))else(none))else(none))else(none))else(none))))
def spec_l6Rd_pick.f (k:Nat) (s0_0:List Int) (s0_1:Int) (a1:Int):Option (Int×Int):=if a1<1 then(spec_l6Rd_pick.j0 k a1 true s0_0 (wrap64 (s0_1+1)))else(spec_l6Rd_pick.j0 k a1 ((s0_0.length:Int)==0) s0_0 (wrap64 (s0_1+1)))
theorem spec_l6Rd_pick.calls (k:Nat) (g:Nat) (s0_0:List Int) (s0_1:Int) (a1:Int) (r1:Int) (r2:Int) (w0 w:World) (hI:IsS95 w0 w g s0_0 s0_1) (hB:Below w0.heap.size w0 w) (h:spec_l6Rd_pick.f k s0_0 s0_1 a1=some (r1,r2)):
    Calls Tryd.prog 47 #[.pointer (some ⟨g,0,none⟩),.int .i64 a1] w fun e w'=>e= .returned (.int .i64 r1)∧IsS95 w0 w' g s0_0 r2∧Below w0.heap.size w0 w'∧KeepBut w w' g none:=by
  have HI0:=Aside0.mk hI;have HK:=Aside0.mk (KeepBut.refl w g none);have HL:=Aside0.mk hB.size;clear hI;have HW0:=Aside0.mk hB.size;have HB:=Aside0.mk hB;clear hB;have H:(if a1<1 then(spec_l6Rd_pick.j0 k a1 true s0_0 (wrap64 (s0_1+1)))else(spec_l6Rd_pick.j0 k a1 ((s0_0.length:Int)==0) s0_0 (wrap64 (s0_1+1))))=some (r1,r2):=h
  clear h;have HC3:=Aside0.mk H;clear H;obtain⟨ASz4_0,cSz4_0,HGz4,hgz4,HSz4_0⟩:=HI0.out;have hcz4_0:=cellS95_0 HGz4;have hcz4_1:=cellS95_1 HGz4;have hfz4_1:=blk_frozen HGz4 1;clear HGz4 hgz4;go_enter Tryd.func47,Tryd.ntmps47
  go_upto_region 2 with (fail)
  repeat(go_quiet (fail);go_upto_region 2 with (fail))
  go_cut [24] (fun v24 wc=> ∃ (kq:Nat) (x24_2:Bool),v24= .bool x24_2∧Aside0 (spec_l6Rd_pick.j0 kq a1 x24_2 s0_0 (wrap64 (s0_1+1))=some (r1,r2))∧Aside0 (kq≤k)∧Aside0 (IsS95 w0 wc g s0_0 (wrap64 (s0_1+1)))∧Aside0 (KeepBut w wc g none)∧Aside0 (Below w0.heap.size w0 wc))
  case first=>
    have H:=HC3.out;clear HC3;by_cases c5:a1<1
    · rw[if_pos c5]at H
      have c5b0:decide (a1<1)=true:=decide_eq_true c5;clear c5;(first|rw[c5b0]|(simp only[i64_w,i32_w];rw[c5b0])|skip)
      have H':=Aside0.mk H;clear H;go_wp2
      repeat(go_quiet (fail);try go_wp2)
      go_meet
      case rel=>exact⟨_,(true),(by first|rfl|(simp;done)|(simp[*];done)),H',⟨by first|omega|exact Nat.le_refl _⟩,⟨by repeat(first|(with_reducible first|exact HI0.out|apply IsS95.alloc|apply IsS95.drewN|apply IsS95.drew|apply IsS95.set_1)|exact HI0.out)⟩,⟨by repeat(first|(with_reducible first|exact HK.out|apply KeepBut.set_|apply keep_drewN|apply keep_drew|apply keep_alloc)|exact HK.out)⟩,⟨by repeat(first|(with_reducible first|exact HB.out|apply below_alloc|apply pw_below_drewN|apply below_drew1|refine below_set ?_ (IsS95.ge HI0.out))|exact HB.out)⟩⟩
    · rw[if_neg c5]at H
      have c5b0:decide (a1<1)=false:=decide_eq_false c5;clear c5;(first|rw[c5b0]|(simp only[i64_w,i32_w];rw[c5b0])|skip)
      have H':=Aside0.mk H;clear H;obtain⟨ASz6_0,cSz6_0,HGz6,hgz6,HSz6_0⟩:=HI0.out;have hcz6_0:=cellS95_0 HGz6;have hcz6_1:=cellS95_1 HGz6;have hfz6_1:=blk_frozen HGz6 1;clear HGz6 hgz6;go_wp2
      repeat(go_quiet (fail);try go_wp2)
      go_meet
      case rel=>exact⟨_,(((s0_0.length:Int)==0)),(by first|rfl|(simp;done)|(simp[*];done)),H',⟨by first|omega|exact Nat.le_refl _⟩,⟨by repeat(first|(with_reducible first|exact HI0.out|apply IsS95.alloc|apply IsS95.drewN|apply IsS95.drew|apply IsS95.set_1)|exact HI0.out)⟩,⟨by repeat(first|(with_reducible first|exact HK.out|apply KeepBut.set_|apply keep_drewN|apply keep_drew|apply keep_alloc)|exact HK.out)⟩,⟨by repeat(first|(with_reducible first|exact HB.out|apply below_alloc|apply pw_below_drewN|apply below_drew1|refine below_set ?_ (IsS95.ge HI0.out))|exact HB.out)⟩⟩
  case rest=>
    clear HC3;try clear p2
    try clear c4
    try clear c5
    try clear c5b0
    try clear p6
    try clear hcz4_0
    try clear hcz4_1
    try clear hcz6_0
    try clear hcz6_1
    try clear hfz4_1
    try clear hfz6_1
    obtain⟨kq,x24_2,rfl,HA,HJ2,HI0,HK,HB⟩:=hcut;cases kq with
    |zero=>exact absurd HA.out (by simp[spec_l6Rd_pick.j0])
    |succ kj2=>
      have H:=HA.out;clear HA;simp only[spec_l6Rd_pick.j0]at H
      by_cases c7:x24_2=true
      · subst c7
        have H1:(some (0,(wrap64 (s0_1+1))))=some (r1,r2):=by rw[if_pos rfl]at H;exact H
        clear H;have H:=H1;clear H1;simp only[Option.some.injEq,Prod.mk.injEq]at H
        obtain⟨rfl,rfl⟩:=H;go_wp2
        repeat(go_quiet (fail);try go_wp2)
        go_ret
        exact⟨by first|rfl|(simp[errW_none,errW_some]<;>rfl)|(simp[*,errW_none,errW_some]<;>rfl),by repeat(first|(with_reducible first|exact HI0.out|apply IsS95.alloc|apply IsS95.drewN|apply IsS95.drew|apply IsS95.set_1)|exact HI0.out),by repeat(first|(with_reducible first|exact HB.out|apply below_alloc|apply pw_below_drewN|apply below_drew1|refine below_set ?_ (IsS95.ge HI0.out))|exact HB.out),by repeat(first|(with_reducible first|exact HK.out|apply KeepBut.set_|apply keep_drewN|apply keep_drew|apply keep_alloc)|exact HK.out)⟩
      · replace c7:=Bool.eq_false_iff.mpr c7
        subst c7;have H1:(if(wrap64 ((wrap64 (s0_1+1))-1))<(s0_0.length:Int)then(if 0≤(wrap64 ((wrap64 (s0_1+1))-1))then(if a1=0 then(none)else(some (Int.tmod (wrap64 (rd s0_0 (wrap64 ((wrap64 (s0_1+1))-1)))) a1,(wrap64 (s0_1+1)))))else(none))else(if(s0_0.length:Int)=0 then(none)else(if 0≤(Int.tmod (wrap64 ((wrap64 (s0_1+1))-1)) (s0_0.length:Int))then(if(Int.tmod (wrap64 ((wrap64 (s0_1+1))-1)) (s0_0.length:Int))<(s0_0.length:Int)then(if 0≤(Int.tmod (wrap64 ((wrap64 ((wrap64 ((wrap64 (s0_1+1))-1))*7))+3)) (s0_0.length:Int))then(if(Int.tmod (wrap64 ((wrap64 ((wrap64 ((wrap64 (s0_1+1))-1))*7))+3)) (s0_0.length:Int))<(s0_0.length:Int)then(if a1=0 then(none)else(some (Int.tmod (Go.bits .xor .i64 (wrap64 ((wrap64 ((wrap64 ((wrap64 ((wrap64 (rd s0_0 (Int.tmod (wrap64 ((wrap64 (s0_1+1))-1)) (s0_0.length:Int))))*131))+(wrap64 ((wrap64 (rd s0_0 (Int.tmod (wrap64 ((wrap64 ((wrap64 ((wrap64 (s0_1+1))-1))*7))+3)) (s0_0.length:Int))))*1117))))+(wrap64 ((wrap64 ((wrap64 (s0_1+1))-1))*29))))+(wrap64 ((wrap64 (Int.tdiv (wrap64 ((wrap64 (s0_1+1))-1)) (s0_0.length:Int)))*53)))) (wrap64 (Int.tdiv (wrap64 ((wrap64 ((wrap64 ((wrap64 ((wrap64 (rd s0_0 (Int.tmod (wrap64 ((wrap64 (s0_1+1))-1)) (s0_0.length:Int))))*131))+(wrap64 ((wrap64 (rd s0_0 (Int.tmod (wrap64 ((wrap64 ((wrap64 ((wrap64 (s0_1+1))-1))*7))+3)) (s0_0.length:Int))))*1117))))+(wrap64 ((wrap64 ((wrap64 (s0_1+1))-1))*29))))+(wrap64 ((wrap64 (Int.tdiv (wrap64 ((wrap64 (s0_1+1))-1)) (s0_0.length:Int)))*53)))) 64))) a1,(wrap64 (s0_1+1)))))else(none))else(none))else(none))else(none))))=some (r1,r2):=by rw[if_neg (show¬(false=true) by decide)]at H;exact H
        clear H;have H:=H1;clear H1;by_cases c8:(wrap64 ((wrap64 (s0_1+1))-1))<(s0_0.length:Int)
        · rw[if_pos c8]at H
          have c8b0:decide ((wrap64 ((wrap64 (s0_1+1))-1))<(s0_0.length:Int))=true:=decide_eq_true c8;clear c8;obtain⟨ji9,hji9⟩: ∃j_:Int,(wrap64 ((wrap64 (s0_1+1))-1))=j_:=⟨_,rfl⟩;replace H:(if 0≤(ji9)then(if a1=0 then(none)else(some (Int.tmod (wrap64 (rd s0_0 (ji9))) a1,(wrap64 (s0_1+1)))))else(none))=some (r1,r2):=by first|(rw[hji9]at H;exact H)|(simp only[hji9]at H⊢;exact H)
          (try rw[hji9]at c8b0)
          have hji9w:(IntKind.i64.wrap ((wrap64 (s0_1+1))-1))=ji9:=(i64_w _).trans hji9;by_cases c10:0≤(ji9)
          · rw[if_pos c10]at H
            have c10b0:decide (0≤(ji9))=true:=decide_eq_true c10;clear c10;by_cases c11:a1=0
            · rw[if_pos c11]at H
              exact absurd H (by simp)
            · rw[if_neg c11]at H
              have c11b0:(a1==0)=false:=beq_eq_false_iff_ne.mpr c11;have c11b1:(a1 !=0)=true:=bne_iff_ne.mpr c11;simp only[Option.some.injEq,Prod.mk.injEq]at H
              obtain⟨rfl,rfl⟩:=H;obtain⟨ASz12_0,cSz12_0,HGz12,hgz12,HSz12_0⟩:=HI0.out;have hcz12_0:=cellS95_0 HGz12;have hcz12_1:=cellS95_1 HGz12;have hfz12_1:=blk_frozen HGz12 1;clear HGz12 hgz12;have p162:0≤((ji9):Int):=of_decide_eq_true (by first|(with_reducible assumption)|assumption)
              have q162:(ji9)<(s0_0.length:Int):=of_decide_eq_true (by first|(with_reducible assumption)|assumption)
              obtain⟨ad162,e162,hx162_0⟩:=Kd.at_int HSz12_0 (ji9) p162 q162;cases e162
              replace hx162_0:=pw_cell_below HB.out hx162_0;replace p162:=eq_true p162;replace q162:=eq_true q162;go_wp2
              repeat(go_quiet (fail);try go_wp2)
              go_ret
              exact⟨by first|rfl|(simp[errW_none,errW_some]<;>rfl)|(simp only[←hji9];first|rfl|(simp[errW_none,errW_some]<;>rfl))|(simp[*,errW_none,errW_some]<;>rfl),by repeat(first|(with_reducible first|exact HI0.out|apply IsS95.alloc|apply IsS95.drewN|apply IsS95.drew|apply IsS95.set_1)|exact HI0.out),by repeat(first|(with_reducible first|exact HB.out|apply below_alloc|apply pw_below_drewN|apply below_drew1|refine below_set ?_ (IsS95.ge HI0.out))|exact HB.out),by repeat(first|(with_reducible first|exact HK.out|apply KeepBut.set_|apply keep_drewN|apply keep_drew|apply keep_alloc)|exact HK.out)⟩
          · rw[if_neg c10]at H
            exact absurd H (by simp)
        · rw[if_neg c8]at H
          have c8b0:decide ((wrap64 ((wrap64 (s0_1+1))-1))<(s0_0.length:Int))=false:=decide_eq_false c8;clear c8;by_cases c13:(s0_0.length:Int)=0
          · rw[if_pos c13]at H
            exact absurd H (by simp)
          · rw[if_neg c13]at H
            have c13b0:((s0_0.length:Int)==0)=false:=beq_eq_false_iff_ne.mpr c13;have c13b1:((s0_0.length:Int) !=0)=true:=bne_iff_ne.mpr c13;have c13b2: ¬(s0_0=[]):=fun h_=>c13 (by rw[h_];rfl)
            obtain⟨ji14,hji14⟩: ∃j_:Int,(Int.tmod (wrap64 ((wrap64 (s0_1+1))-1)) (s0_0.length:Int))=j_:=⟨_,rfl⟩;replace H:(if 0≤(ji14)then(if(ji14)<(s0_0.length:Int)then(if 0≤(Int.tmod (wrap64 ((wrap64 ((wrap64 ((wrap64 (s0_1+1))-1))*7))+3)) (s0_0.length:Int))then(if(Int.tmod (wrap64 ((wrap64 ((wrap64 ((wrap64 (s0_1+1))-1))*7))+3)) (s0_0.length:Int))<(s0_0.length:Int)then(if a1=0 then(none)else(some (Int.tmod (Go.bits .xor .i64 (wrap64 ((wrap64 ((wrap64 ((wrap64 ((wrap64 (rd s0_0 (ji14)))*131))+(wrap64 ((wrap64 (rd s0_0 (Int.tmod (wrap64 ((wrap64 ((wrap64 ((wrap64 (s0_1+1))-1))*7))+3)) (s0_0.length:Int))))*1117))))+(wrap64 ((wrap64 ((wrap64 (s0_1+1))-1))*29))))+(wrap64 ((wrap64 (Int.tdiv (wrap64 ((wrap64 (s0_1+1))-1)) (s0_0.length:Int)))*53)))) (wrap64 (Int.tdiv (wrap64 ((wrap64 ((wrap64 ((wrap64 ((wrap64 (rd s0_0 (ji14)))*131))+(wrap64 ((wrap64 (rd s0_0 (Int.tmod (wrap64 ((wrap64 ((wrap64 ((wrap64 (s0_1+1))-1))*7))+3)) (s0_0.length:Int))))*1117))))+(wrap64 ((wrap64 ((wrap64 (s0_1+1))-1))*29))))+(wrap64 ((wrap64 (Int.tdiv (wrap64 ((wrap64 (s0_1+1))-1)) (s0_0.length:Int)))*53)))) 64))) a1,(wrap64 (s0_1+1)))))else(none))else(none))else(none))else(none))=some (r1,r2):=by first|(rw[hji14]at H;exact H)|(simp only[hji14]at H⊢;exact H)
            by_cases c15:0≤(ji14)
            · rw[if_pos c15]at H
              have c15b0:decide (0≤(ji14))=true:=decide_eq_true c15;clear c15;by_cases c16:(ji14)<(s0_0.length:Int)
              · rw[if_pos c16]at H
                have c16b0:decide ((ji14)<(s0_0.length:Int))=true:=decide_eq_true c16;clear c16;obtain⟨ji17,hji17⟩: ∃j_:Int,(Int.tmod (wrap64 ((wrap64 ((wrap64 ((wrap64 (s0_1+1))-1))*7))+3)) (s0_0.length:Int))=j_:=⟨_,rfl⟩;replace H:(if 0≤(ji17)then(if(ji17)<(s0_0.length:Int)then(if a1=0 then(none)else(some (Int.tmod (Go.bits .xor .i64 (wrap64 ((wrap64 ((wrap64 ((wrap64 ((wrap64 (rd s0_0 (ji14)))*131))+(wrap64 ((wrap64 (rd s0_0 (ji17)))*1117))))+(wrap64 ((wrap64 ((wrap64 (s0_1+1))-1))*29))))+(wrap64 ((wrap64 (Int.tdiv (wrap64 ((wrap64 (s0_1+1))-1)) (s0_0.length:Int)))*53)))) (wrap64 (Int.tdiv (wrap64 ((wrap64 ((wrap64 ((wrap64 ((wrap64 (rd s0_0 (ji14)))*131))+(wrap64 ((wrap64 (rd s0_0 (ji17)))*1117))))+(wrap64 ((wrap64 ((wrap64 (s0_1+1))-1))*29))))+(wrap64 ((wrap64 (Int.tdiv (wrap64 ((wrap64 (s0_1+1))-1)) (s0_0.length:Int)))*53)))) 64))) a1,(wrap64 (s0_1+1)))))else(none))else(none))=some (r1,r2):=by first|(rw[hji17]at H;exact H)|(simp only[hji17]at H⊢;exact H)
                by_cases c18:0≤(ji17)
                · rw[if_pos c18]at H
                  have c18b0:decide (0≤(ji17))=true:=decide_eq_true c18;clear c18;by_cases c19:(ji17)<(s0_0.length:Int)
                  · rw[if_pos c19]at H
                    have c19b0:decide ((ji17)<(s0_0.length:Int))=true:=decide_eq_true c19;clear c19;by_cases c20:a1=0
                    · rw[if_pos c20]at H
                      exact absurd H (by simp)
                    · rw[if_neg c20]at H
                      have c20b0:(a1==0)=false:=beq_eq_false_iff_ne.mpr c20;have c20b1:(a1 !=0)=true:=bne_iff_ne.mpr c20;simp only[Option.some.injEq,Prod.mk.injEq]at H
                      obtain⟨rfl,rfl⟩:=H;obtain⟨ASz21_0,cSz21_0,HGz21,hgz21,HSz21_0⟩:=HI0.out;have hcz21_0:=cellS95_0 HGz21;have hcz21_1:=cellS95_1 HGz21;have hfz21_1:=blk_frozen HGz21 1;clear HGz21 hgz21;have p163:0≤((ji14):Int):=of_decide_eq_true (by first|(with_reducible assumption)|assumption)
                      have q163:(ji14)<(s0_0.length:Int):=of_decide_eq_true (by first|(with_reducible assumption)|assumption)
                      obtain⟨ad163,e163,hx163_0⟩:=Kd.at_int HSz21_0 (ji14) p163 q163;cases e163
                      replace hx163_0:=pw_cell_below HB.out hx163_0;replace p163:=eq_true p163;replace q163:=eq_true q163;have p164:0≤((ji17):Int):=of_decide_eq_true (by first|(with_reducible assumption)|assumption)
                      have q164:(ji17)<(s0_0.length:Int):=of_decide_eq_true (by first|(with_reducible assumption)|assumption)
                      obtain⟨ad164,e164,hx164_0⟩:=Kd.at_int HSz21_0 (ji17) p164 q164;obtain rfl:ad163=ad164:=(by injection e164)
                      replace hx164_0:=pw_cell_below HB.out hx164_0;replace p164:=eq_true p164;replace q164:=eq_true q164;go_wp2
                      repeat(go_quiet (fail);try go_wp2)
                      go_ret
                      exact⟨by first|rfl|(simp[errW_none,errW_some]<;>rfl)|(simp only[←hji14,←hji17];first|rfl|(simp[errW_none,errW_some]<;>rfl))|(simp[*,errW_none,errW_some]<;>rfl),by repeat(first|(with_reducible first|exact HI0.out|apply IsS95.alloc|apply IsS95.drewN|apply IsS95.drew|apply IsS95.set_1)|exact HI0.out),by repeat(first|(with_reducible first|exact HB.out|apply below_alloc|apply pw_below_drewN|apply below_drew1|refine below_set ?_ (IsS95.ge HI0.out))|exact HB.out),by repeat(first|(with_reducible first|exact HK.out|apply KeepBut.set_|apply keep_drewN|apply keep_drew|apply keep_alloc)|exact HK.out)⟩
                  · rw[if_neg c19]at H
                    exact absurd H (by simp)
                · rw[if_neg c18]at H
                  exact absurd H (by simp)
              · rw[if_neg c16]at H
                exact absurd H (by simp)
            · rw[if_neg c15]at H
              exact absurd H (by simp)
def spec_l71Val.j0:Nat→List Int→Int→Int→Int→Option (Int×Int×Int)
  |0,_,_,_,_=>none
  |k+1,x1000,x1001,x172000,x172001=>(spec_l6Rd_pick.f k x1000 x1001 30).bind fun bt182=>(if bt182.1=0 then((some (([(-100),100,10]:List Int):List Int)).bind fun y184=>((spec_l6Rd_pick.f k x1000 bt182.2 3).bind fun bt187=>(if 0≤bt187.1 then(if bt187.1<(y184.length:Int)then(some (x172000,rd y184 bt187.1,bt187.2))else(none))else(none))))else(if bt182.1=1 then((spec_l6Rd_pick.f k x1000 bt182.2 6).bind fun bt190=>(some (bt190.1,x172001,bt190.2)))else(some (x172000,x172001,bt182.2))))
def spec_l71Val.f (k:Nat) (s0_0:List Int) (s0_1:Int):Option (Int×Int×Int):=(spec_l6Rd_pick.f k s0_0 s0_1 4).bind fun bt169=>(if bt169.1=1 then((some (([0,1,2,3,(-1),7,50,99,(-99)]:List Int):List Int)).bind fun y172=>((spec_l6Rd_pick.f k s0_0 bt169.2 9).bind fun bt175=>(if 0≤bt175.1 then(if bt175.1<(y172.length:Int)then(spec_l71Val.j0 k s0_0 bt175.2 bt169.1 (rd y172 bt175.1))else(none))else(none))))else(if bt169.1=2 then((spec_l6Rd_pick.f k s0_0 bt169.2 5).bind fun bt178=>(spec_l71Val.j0 k s0_0 bt178.2 bt169.1 bt178.1))else(if bt169.1=3 then((spec_l6Rd_pick.f k s0_0 bt169.2 4).bind fun bt180=>(spec_l71Val.j0 k s0_0 bt180.2 bt169.1 (wrap64 (1+bt180.1))))else(spec_l71Val.j0 k s0_0 bt169.2 bt169.1 0))))
theorem spec_l71Val.calls (k:Nat) (g:Nat) (s0_0:List Int) (s0_1:Int) (r1:Int) (r2:Int) (r3:Int) (w0 w:World) (hI:IsS95 w0 w g s0_0 s0_1) (hB:Below w0.heap.size w0 w) (h:spec_l71Val.f k s0_0 s0_1=some (r1,r2,r3)):
    Calls Tryd.prog 45 #[.pointer (some ⟨g,0,none⟩)] w fun e w'=>e= .returned (.agg #[.int .i64 r1,.int .i64 r2])∧IsS95 w0 w' g s0_0 r3∧Below w0.heap.size w0 w'∧KeepBut w w' g none:=by
  have hu25:=Tryd.underlying25;have HI0:=Aside0.mk hI;have HK:=Aside0.mk (KeepBut.refl w g none);have HL:=Aside0.mk hB.size;clear hI;have HW0:=Aside0.mk hB.size;have HB:=Aside0.mk hB;clear hB;have H:((spec_l6Rd_pick.f k s0_0 s0_1 4).bind fun bt169=>(if bt169.1=1 then((some (([0,1,2,3,(-1),7,50,99,(-99)]:List Int):List Int)).bind fun y172=>((spec_l6Rd_pick.f k s0_0 bt169.2 9).bind fun bt175=>(if 0≤bt175.1 then(if bt175.1<(y172.length:Int)then(spec_l71Val.j0 k s0_0 bt175.2 bt169.1 (rd y172 bt175.1))else(none))else(none))))else(if bt169.1=2 then((spec_l6Rd_pick.f k s0_0 bt169.2 5).bind fun bt178=>(spec_l71Val.j0 k s0_0 bt178.2 bt169.1 bt178.1))else(if bt169.1=3 then((spec_l6Rd_pick.f k s0_0 bt169.2 4).bind fun bt180=>(spec_l71Val.j0 k s0_0 bt180.2 bt169.1 (wrap64 (1+bt180.1))))else(spec_l71Val.j0 k s0_0 bt169.2 bt169.1 0)))))=some (r1,r2,r3):=h
  clear h;replace H:=Option.bind_eq_some_iff.mp H;obtain⟨⟨t169,t170⟩,A20,H⟩:=H;replace H:(if t169=1 then((some (([0,1,2,3,(-1),7,50,99,(-99)]:List Int):List Int)).bind fun y172=>((spec_l6Rd_pick.f k s0_0 t170 9).bind fun bt175=>(if 0≤bt175.1 then(if bt175.1<(y172.length:Int)then(spec_l71Val.j0 k s0_0 bt175.2 t169 (rd y172 bt175.1))else(none))else(none))))else(if t169=2 then((spec_l6Rd_pick.f k s0_0 t170 5).bind fun bt178=>(spec_l71Val.j0 k s0_0 bt178.2 t169 bt178.1))else(if t169=3 then((spec_l6Rd_pick.f k s0_0 t170 4).bind fun bt180=>(spec_l71Val.j0 k s0_0 bt180.2 t169 (wrap64 (1+bt180.1))))else(spec_l71Val.j0 k s0_0 t170 t169 0))))=some (r1,r2,r3):=H
  have A2:=Aside0.mk A20;clear A20;have HC3:=Aside0.mk H;clear H;go_enter Tryd.func45,Tryd.ntmps45
  go_upto_block 0 with (first|((with_reducible refine gate_dst (N:=2) rfl ?_);refine box_event ?hg (N:=2) ?hd (cs:= #[.int .i64 0,.int .i64 0]) (t:=25) ?hr ?_;(case hd=>rfl);(case hg=>rfl);(case hr=>first|(go_simp;done)|(go_simp;rfl));intro gb168 hg w4 hbox hb;have n0_:=Aside0.mk (IsS95.below (by repeat(first|(with_reducible first|exact HI0.out|apply IsS95.alloc|apply IsS95.drewN|apply IsS95.drew|apply IsS95.set_1)|exact HI0.out)) hb);have n1_:=Aside0.mk (KeepBut.trans (by repeat(first|(with_reducible first|exact HK.out|apply KeepBut.set_|apply keep_drewN|apply keep_drew|apply keep_alloc)|exact HK.out)) (KeepBut.of_below hb g none) (.inl rfl));have n2_:=Aside0.mk (below_step (by repeat(first|(with_reducible first|exact HB.out|apply below_alloc|apply pw_below_drewN|apply below_drew1|refine below_set ?_ (IsS95.ge HI0.out))|exact HB.out)) hb);have n3_:=Aside0.mk (hbox);have n4_:=Aside0.mk ((by rw[hg];exact(keep_size (w:=w) (g:=g) (row:=none) (by repeat(first|(with_reducible first|exact HK.out|apply KeepBut.set_|apply keep_drewN|apply keep_drew|apply keep_alloc)|exact HK.out))):w.heap.size≤gb168));have n5_:=Aside0.mk ((Nat.le_trans HW0.out (by rw[hg];exact(keep_size (w:=w) (g:=g) (row:=none) (by repeat(first|(with_reducible first|exact HK.out|apply KeepBut.set_|apply keep_drewN|apply keep_drew|apply keep_alloc)|exact HK.out))):w.heap.size≤gb168):w0.heap.size≤gb168));have n6_:=Aside0.mk ((by rw[hg];exact Nat.ne_of_lt (IsS95.lt (show IsS95 w0 _ g s0_0 s0_1 from by repeat(first|(with_reducible first|exact HI0.out|apply IsS95.alloc|apply IsS95.drewN|apply IsS95.drew|apply IsS95.set_1)|exact HI0.out))):g≠gb168));have n7_:=Aside0.mk ((by rw[hg];exact Nat.ne_of_gt (IsS95.lt (show IsS95 w0 _ g s0_0 s0_1 from by repeat(first|(with_reducible first|exact HI0.out|apply IsS95.alloc|apply IsS95.drewN|apply IsS95.drew|apply IsS95.set_1)|exact HI0.out))):gb168≠g));clear HI0;clear HK;clear HB;have HI0:=n0_;have HK:=n1_;have HB:=n2_;have BK168:=n3_;have GW168:=n4_;have GE168:=n5_;have NB0_168:=n6_;have NB168_0:=n7_;clear n0_ n1_ n2_ n3_ n4_ n5_ n6_ n7_;clear hb hbox hg)|((with_reducible refine gate_callee (f:=47) rfl ?_);refine goesL_ (some 5) rfl rfl Tryd.func47 (by kernel_rfl) rfl #[.pointer (some ⟨g,0,none⟩),.int .i64 4] rfl (by(try simp only[List.map_toArray,List.map_cons,List.map_nil]);first|done|rfl|(simp only[List.length_drop,List.length_take];rfl)) ?_;(with_reducible refine(spec_l6Rd_pick.calls k g s0_0 s0_1 4 t169 t170 w0 _ ?side1 ?side2 A2.out).mono ?_);(case side1=>repeat(first|(with_reducible first|exact HI0.out|apply IsS95.alloc|apply IsS95.drewN|apply IsS95.drew|apply IsS95.set_1|refine IsS95.far ?_ NB0_168.out _)|exact HI0.out));(case side2=>repeat(first|(with_reducible first|exact HB.out|apply below_alloc|apply pw_below_drewN|apply below_drew1|refine below_set ?_ (IsS95.ge HI0.out)|refine below_set ?_ GE168.out)|exact HB.out));rintro e w5 ⟨rfl,hi,hb,hk⟩;refine⟨_,rfl,?_⟩;have n0_:=Aside0.mk (KeepBut.blk hk (g':=gb168) (o:=.cells #[.int .i64 0,.int .i64 0] 25 (0,0)) (by(with_reducible repeat(first|refine blk_drewN ?_ _|refine blk_drew ?_|refine blk_alloc ?_ _));exact BK168.out) NB168_0.out (by simp));have n1_:=Aside0.mk (KeepBut.trans (by repeat(first|(with_reducible first|exact HK.out|apply KeepBut.set_|apply keep_drewN|apply keep_drew|apply keep_alloc|refine keep_far ?_ GW168.out _)|exact HK.out)) hk (.inl rfl));have n2_:=Aside0.mk (hb);have n3_:=Aside0.mk (hi);clear BK168;clear HK;clear HB;clear HI0;have BK168:=n0_;have HK:=n1_;have HB:=n2_;have HI0:=n3_;clear n0_ n1_ n2_ n3_;(try clear hb);(try clear hb2);(try clear hk);(try clear hi))|((with_reducible refine gate_dst (N:=3) rfl ?_);refine box_event ?hg (N:=3) ?hd (cs:= #[.int .i64 0,.int .i64 0]) (t:=25) ?hr ?_;(case hd=>rfl);(case hg=>rfl);(case hr=>first|(go_simp;done)|(go_simp;rfl));intro gb171 hg w6 hbox hb;have n0_:=Aside0.mk (IsS95.below (by repeat(first|(with_reducible first|exact HI0.out|apply IsS95.alloc|apply IsS95.drewN|apply IsS95.drew|apply IsS95.set_1|refine IsS95.far ?_ NB0_168.out _)|exact HI0.out)) hb);have n1_:=Aside0.mk (blk_below (g:=gb168) (o:=.cells #[.int .i64 0,.int .i64 0] 25 (0,0)) (by(with_reducible repeat(first|refine blk_drewN ?_ _|refine blk_drew ?_|refine blk_alloc ?_ _));exact BK168.out) hb);have n2_:=Aside0.mk (KeepBut.trans (by repeat(first|(with_reducible first|exact HK.out|apply KeepBut.set_|apply keep_drewN|apply keep_drew|apply keep_alloc|refine keep_far ?_ GW168.out _)|exact HK.out)) (KeepBut.of_below hb g none) (.inl rfl));have n3_:=Aside0.mk (below_step (by repeat(first|(with_reducible first|exact HB.out|apply below_alloc|apply pw_below_drewN|apply below_drew1|refine below_set ?_ (IsS95.ge HI0.out)|refine below_set ?_ GE168.out)|exact HB.out)) hb);have n4_:=Aside0.mk (hbox);have n5_:=Aside0.mk ((by rw[hg];exact(keep_size (w:=w) (g:=g) (row:=none) (by repeat(first|(with_reducible first|exact HK.out|apply KeepBut.set_|apply keep_drewN|apply keep_drew|apply keep_alloc|refine keep_far ?_ GW168.out _)|exact HK.out))):w.heap.size≤gb171));have n6_:=Aside0.mk ((Nat.le_trans HW0.out (by rw[hg];exact(keep_size (w:=w) (g:=g) (row:=none) (by repeat(first|(with_reducible first|exact HK.out|apply KeepBut.set_|apply keep_drewN|apply keep_drew|apply keep_alloc|refine keep_far ?_ GW168.out _)|exact HK.out))):w.heap.size≤gb171):w0.heap.size≤gb171));have n7_:=Aside0.mk ((by rw[hg];exact Nat.ne_of_lt (blk_lt (g:=gb168) (o:=.cells #[.int .i64 0,.int .i64 0] 25 (0,0)) (by(with_reducible repeat(first|refine blk_drewN ?_ _|refine blk_drew ?_|refine blk_alloc ?_ _));exact BK168.out)):gb168≠gb171));have n8_:=Aside0.mk ((by rw[hg];exact Nat.ne_of_gt (blk_lt (g:=gb168) (o:=.cells #[.int .i64 0,.int .i64 0] 25 (0,0)) (by(with_reducible repeat(first|refine blk_drewN ?_ _|refine blk_drew ?_|refine blk_alloc ?_ _));exact BK168.out)):gb171≠gb168));have n9_:=Aside0.mk ((by rw[hg];exact Nat.ne_of_lt (IsS95.lt (show IsS95 w0 _ g s0_0 t170 from by repeat(first|(with_reducible first|exact HI0.out|apply IsS95.alloc|apply IsS95.drewN|apply IsS95.drew|apply IsS95.set_1|refine IsS95.far ?_ NB0_168.out _)|exact HI0.out))):g≠gb171));have n10_:=Aside0.mk ((by rw[hg];exact Nat.ne_of_gt (IsS95.lt (show IsS95 w0 _ g s0_0 t170 from by repeat(first|(with_reducible first|exact HI0.out|apply IsS95.alloc|apply IsS95.drewN|apply IsS95.drew|apply IsS95.set_1|refine IsS95.far ?_ NB0_168.out _)|exact HI0.out))):gb171≠g));clear HI0;clear BK168;clear HK;clear HB;have HI0:=n0_;have BK168:=n1_;have HK:=n2_;have HB:=n3_;have BK171:=n4_;have GW171:=n5_;have GE171:=n6_;have NB168_171:=n7_;have NB171_168:=n8_;have NB0_171:=n9_;have NB171_0:=n10_;clear n0_ n1_ n2_ n3_ n4_ n5_ n6_ n7_ n8_ n9_ n10_;clear hb hbox hg;have hnb7:=NB171_168.out;have hnc7:=NB168_171.out;have hnb8:=NB171_0.out;have hnc8:=NB0_171.out;have hcz9_0:w6.cell? ⟨gb171,0,none⟩=some (.int .i64 0):=(blk_cell BK171.out 0).trans rfl;have hcz9_1:w6.cell? ⟨gb171,1,none⟩=some (.int .i64 0):=(blk_cell BK171.out 1).trans rfl;have hfz9_0:=blk_frozen BK171.out 0;have hfz9_1:=blk_frozen BK171.out 1))
  (try simp only[Act.put,List.setIfInBounds_toArray,List.set_cons_zero,List.set_cons_succ])
  go_cut [] (fun wc=> ∃ (kq:Nat) (x1001_2:Int) (x172001_2:Int),Aside0 (spec_l71Val.j0 kq s0_0 x1001_2 t169 x172001_2=some (r1,r2,r3))∧Aside0 (kq≤k)∧Aside0 (wc.heap[gb168]?=some (.cells #[.int .i64 0,.int .i64 0] 25 (0,0)))∧Aside0 (wc.heap[gb171]?=some (.cells #[.int .i64 t169,.int .i64 x172001_2] 25 (0,0)))∧Aside0 (IsS95 w0 wc g s0_0 x1001_2)∧Aside0 (KeepBut w wc g none)∧Aside0 (Below w0.heap.size w0 wc))
  case first=>
    have H:=HC3.out;clear HC3;by_cases c10:t169=1
    · rw[if_pos c10]at H
      have c10b0:(t169==1)=true:=beq_iff_eq.mpr c10;have c10b1:(t169 !=1)=false:=bne_eq_false_iff_eq.mpr c10;clear c10;(first|rw[c10b0]|(simp only[i64_w,i32_w];rw[c10b0])|skip)
      obtain⟨y172,hy172⟩: ∃y_:List Int,y_=(([0,1,2,3,(-1),7,50,99,(-99)]:List Int)):=⟨_,rfl⟩;replace H:((spec_l6Rd_pick.f k s0_0 t170 9).bind fun bt175=>(if 0≤bt175.1 then(if bt175.1<(y172.length:Int)then(spec_l71Val.j0 k s0_0 bt175.2 t169 (rd y172 bt175.1))else(none))else(none)))=some (r1,r2,r3):=by first|(rw[hy172];with_reducible exact H)|(have H2_:=(Option.bind_some _ _).symm.trans H;rw[hy172];with_reducible exact H2_)|(have H2_:=(Option.bind_some _ _).symm.trans H;with_reducible exact H2_)|with_reducible exact H|(rw[hy172];exact H)|exact H
      have Ny172:=Aside0.mk hy172;clear hy172;replace H:=Option.bind_eq_some_iff.mp H;obtain⟨⟨t175,t176⟩,A110,H⟩:=H;replace H:(if 0≤t175 then(if t175<(y172.length:Int)then(spec_l71Val.j0 k s0_0 t176 t169 (rd y172 t175))else(none))else(none))=some (r1,r2,r3):=H
      have A11:=Aside0.mk A110;clear A110;by_cases c12:0≤t175
      · rw[if_pos c12]at H
        have c12b0:decide (0≤t175)=true:=decide_eq_true c12;clear c12;by_cases c13:t175<(y172.length:Int)
        · rw[if_pos c13]at H
          have c13b0:decide (t175<(y172.length:Int))=true:=decide_eq_true c13;clear c13;have H':=Aside0.mk H;clear H;go_wp2_with (first|((with_reducible refine gate_dst (N:=11) rfl ?_);refine Kd.R_lit (Kd.int .i64) _ 3 ?hg (N:=11) ?hd (xs:=([0,1,2,3,(-1),7,50,99,(-99)]:List Int)) (inner:=[.int .i64 0,.int .i64 1,.int .i64 2,.int .i64 3,.int .i64 (-1),.int .i64 7,.int .i64 50,.int .i64 99,.int .i64 (-99)]) (ok:=fun _=>True) (okp:=fun _=>True) ?hr ?hp (fun _ hk=>hk) trivial (Below.refl _ _) (Nat.le_refl _) (by simp) ?_;(case hd=>rfl);(case hg=>rfl);(case hr=>first|(go_simp;done)|(go_simp;rfl));(case hp=>exact(Reps.one (show Kd.M (Kd.int .i64) _ _ _ 0 [.int .i64 0]from rfl) (Reps.one (show Kd.M (Kd.int .i64) _ _ _ 1 [.int .i64 1]from rfl) (Reps.one (show Kd.M (Kd.int .i64) _ _ _ 2 [.int .i64 2]from rfl) (Reps.one (show Kd.M (Kd.int .i64) _ _ _ 3 [.int .i64 3]from rfl) (Reps.one (show Kd.M (Kd.int .i64) _ _ _ (-1) [.int .i64 (-1)]from rfl) (Reps.one (show Kd.M (Kd.int .i64) _ _ _ 7 [.int .i64 7]from rfl) (Reps.one (show Kd.M (Kd.int .i64) _ _ _ 50 [.int .i64 50]from rfl) (Reps.one (show Kd.M (Kd.int .i64) _ _ _ 99 [.int .i64 99]from rfl) (Reps.one (show Kd.M (Kd.int .i64) _ _ _ (-99) [.int .i64 (-99)]from rfl) (Reps.none _ _)))))))))));intro v173 w14 ho15 hb hg_ hnew_;clear hg_ hnew_;(first|rw[←Ny172.out]at ho15|(simp only[Int.reduceToNat]at ho15;rw[←Ny172.out]at ho15));have n0_:=Aside0.mk (Kd.R_lower ho15 (keep_size (w:=w) (g:=g) (row:=none) (by repeat(first|(with_reducible first|exact HK.out|apply KeepBut.set_|apply keep_drewN|apply keep_drew|apply keep_alloc|refine keep_far ?_ GW168.out _|refine keep_far ?_ GW171.out _)|exact HK.out))));have n1_:=Aside0.mk (IsS95.below (show IsS95 w0 ((w6.setCell ⟨gb171,0,none⟩ (.int .i64 t169)).setCell ⟨gb171,1,none⟩ (.int .i64 0)) g s0_0 t170 from by repeat(first|(with_reducible first|exact HI0.out|apply IsS95.alloc|apply IsS95.drewN|apply IsS95.drew|apply IsS95.set_1|refine IsS95.far ?_ NB0_168.out _|refine IsS95.far ?_ NB0_171.out _)|exact HI0.out)) hb);have n2_:=Aside0.mk (blk_below (g:=gb168) (o:=.cells #[.int .i64 0,.int .i64 0] 25 (0,0)) (by(with_reducible repeat(first|refine blk_drewN ?_ _|refine blk_drew ?_|refine blk_alloc ?_ _));refine blk_far ?_ NB168_171.out _;(with_reducible repeat(first|refine blk_drewN ?_ _|refine blk_drew ?_|refine blk_alloc ?_ _));refine blk_far ?_ NB168_171.out _;(with_reducible repeat(first|refine blk_drewN ?_ _|refine blk_drew ?_|refine blk_alloc ?_ _));exact BK168.out) hb);have n3_:=Aside0.mk (blk_below (g:=gb171) (o:=.cells #[.int .i64 t169,.int .i64 0] 25 (0,0)) (by(with_reducible repeat(first|refine blk_drewN ?_ _|refine blk_drew ?_|refine blk_alloc ?_ _));refine blk_put (cs:= #[.int .i64 t169,.int .i64 0]) ?_ 1 _ rfl;(with_reducible repeat(first|refine blk_drewN ?_ _|refine blk_drew ?_|refine blk_alloc ?_ _));refine blk_put (cs:= #[.int .i64 0,.int .i64 0]) ?_ 0 _ rfl;(with_reducible repeat(first|refine blk_drewN ?_ _|refine blk_drew ?_|refine blk_alloc ?_ _));exact BK171.out) hb);have n4_:=Aside0.mk (KeepBut.trans (by repeat(first|(with_reducible first|exact HK.out|apply KeepBut.set_|apply keep_drewN|apply keep_drew|apply keep_alloc|refine keep_far ?_ GW168.out _|refine keep_far ?_ GW171.out _)|exact HK.out)) (KeepBut.of_below hb g none) (.inl rfl));have n5_:=Aside0.mk (below_step (by repeat(first|(with_reducible first|exact HB.out|apply below_alloc|apply pw_below_drewN|apply below_drew1|refine below_set ?_ (IsS95.ge HI0.out)|refine below_set ?_ GE168.out|refine below_set ?_ GE171.out)|exact HB.out)) hb);clear HI0;clear BK168;clear BK171;clear HK;clear HB;have HO174:=n0_;have HI0:=n1_;have BK168:=n2_;have BK171:=n3_;have HK:=n4_;have HB:=n5_;clear n0_ n1_ n2_ n3_ n4_ n5_;clear hb ho15)|((with_reducible refine gate_callee (f:=47) rfl ?_);refine goesL_ (some 13) rfl rfl Tryd.func47 (by kernel_rfl) rfl #[.pointer (some ⟨g,0,none⟩),.int .i64 9] rfl (by(try simp only[List.map_toArray,List.map_cons,List.map_nil]);first|done|rfl|(simp only[List.length_drop,List.length_take];rfl)) ?_;(with_reducible refine(spec_l6Rd_pick.calls k g s0_0 t170 9 t175 t176 w0 _ ?side1 ?side2 A11.out).mono ?_);(case side1=>repeat(first|(with_reducible first|exact HI0.out|apply IsS95.alloc|apply IsS95.drewN|apply IsS95.drew|apply IsS95.set_1|refine IsS95.far ?_ NB0_168.out _|refine IsS95.far ?_ NB0_171.out _)|exact HI0.out));(case side2=>repeat(first|(with_reducible first|exact HB.out|apply below_alloc|apply pw_below_drewN|apply below_drew1|refine below_set ?_ (IsS95.ge HI0.out)|refine below_set ?_ GE168.out|refine below_set ?_ GE171.out)|exact HB.out));rintro e w16 ⟨rfl,hi,hb,hk⟩;refine⟨_,rfl,?_⟩;have n0_:=Aside0.mk (KeepBut.blk hk (g':=gb168) (o:=.cells #[.int .i64 0,.int .i64 0] 25 (0,0)) (by(with_reducible repeat(first|refine blk_drewN ?_ _|refine blk_drew ?_|refine blk_alloc ?_ _));exact BK168.out) NB168_0.out (by simp));have n1_:=Aside0.mk (KeepBut.blk hk (g':=gb171) (o:=.cells #[.int .i64 t169,.int .i64 0] 25 (0,0)) (by(with_reducible repeat(first|refine blk_drewN ?_ _|refine blk_drew ?_|refine blk_alloc ?_ _));exact BK171.out) NB171_0.out (by simp));have n2_:=Aside0.mk (Kd.R_mono (Kd.R_keep (IsS95.apart (show IsS95 w0 _ g s0_0 t170 from by repeat(first|(with_reducible first|exact HI0.out|apply IsS95.alloc|apply IsS95.drewN|apply IsS95.drew|apply IsS95.set_1|refine IsS95.far ?_ NB0_168.out _|refine IsS95.far ?_ NB0_171.out _)|exact HI0.out)) (by(with_reducible repeat(first|apply Kd.R_alloc|apply Kd.R_drewN|apply Kd.R_drew));exact HO174.out) (by decide)) hk (fun _ h=>h.2)) (fun _ h=>h.1));have n3_:=Aside0.mk (KeepBut.trans (by repeat(first|(with_reducible first|exact HK.out|apply KeepBut.set_|apply keep_drewN|apply keep_drew|apply keep_alloc|refine keep_far ?_ GW168.out _|refine keep_far ?_ GW171.out _)|exact HK.out)) hk (.inl rfl));have n4_:=Aside0.mk (hb);have n5_:=Aside0.mk (hi);clear BK168;clear BK171;clear HO174;clear HK;clear HB;clear HI0;have BK168:=n0_;have BK171:=n1_;have HO174:=n2_;have HK:=n3_;have HB:=n4_;have HI0:=n5_;clear n0_ n1_ n2_ n3_ n4_ n5_;(try clear hb);(try clear hb2);(try clear hk);(try clear hi);obtain⟨Ao17,co17,eo17⟩:=Kd.R_slice HO174.out;subst eo17;have p177:0≤(t175:Int):=of_decide_eq_true (by first|(with_reducible assumption)|assumption);have q177:t175<(y172.length:Int):=of_decide_eq_true (by first|(with_reducible assumption)|assumption);obtain⟨ad177,e177,hx177_0⟩:=Kd.at_int (Kd.R_reads' HO174.out).2.2 t175 p177 q177;cases e177;replace p177:=eq_true p177;replace q177:=eq_true q177;have hnb18:=NB171_168.out;have hnc18:=NB168_171.out;have hnb19:=NB171_0.out;have hnc19:=NB0_171.out;have hcz20_0:w16.cell? ⟨gb171,0,none⟩=some (.int .i64 t169):=(blk_cell BK171.out 0).trans rfl;have hcz20_1:w16.cell? ⟨gb171,1,none⟩=some (.int .i64 0):=(blk_cell BK171.out 1).trans rfl;have hfz20_0:=blk_frozen BK171.out 0;have hfz20_1:=blk_frozen BK171.out 1))
          go_meet
          case rel=>exact⟨_,(t176),(rd y172 t175),H',⟨by first|omega|exact Nat.le_refl _⟩,⟨by(with_reducible repeat(first|refine blk_drewN ?_ _|refine blk_drew ?_|refine blk_alloc ?_ _));refine blk_far ?_ NB168_171.out _;(with_reducible repeat(first|refine blk_drewN ?_ _|refine blk_drew ?_|refine blk_alloc ?_ _));exact BK168.out⟩,⟨by(with_reducible repeat(first|refine blk_drewN ?_ _|refine blk_drew ?_|refine blk_alloc ?_ _));refine blk_put (cs:= #[.int .i64 t169,.int .i64 0]) ?_ 1 _ rfl;(with_reducible repeat(first|refine blk_drewN ?_ _|refine blk_drew ?_|refine blk_alloc ?_ _));exact BK171.out⟩,⟨by repeat(first|(with_reducible first|exact HI0.out|apply IsS95.alloc|apply IsS95.drewN|apply IsS95.drew|apply IsS95.set_1|refine IsS95.far ?_ NB0_168.out _|refine IsS95.far ?_ NB0_171.out _)|exact HI0.out)⟩,⟨by repeat(first|(with_reducible first|exact HK.out|apply KeepBut.set_|apply keep_drewN|apply keep_drew|apply keep_alloc|refine keep_far ?_ GW168.out _|refine keep_far ?_ GW171.out _)|exact HK.out)⟩,⟨by repeat(first|(with_reducible first|exact HB.out|apply below_alloc|apply pw_below_drewN|apply below_drew1|refine below_set ?_ (IsS95.ge HI0.out)|refine below_set ?_ GE168.out|refine below_set ?_ GE171.out)|exact HB.out)⟩⟩
        · rw[if_neg c13]at H
          exact absurd H (by simp)
      · rw[if_neg c12]at H
        exact absurd H (by simp)
    · rw[if_neg c10]at H
      have c10b0:(t169==1)=false:=beq_eq_false_iff_ne.mpr c10;have c10b1:(t169 !=1)=true:=bne_iff_ne.mpr c10;(first|rw[c10b0]|(simp only[i64_w,i32_w];rw[c10b0])|skip)
      by_cases c21:t169=2
      · rw[if_pos c21]at H
        have c21b0:(t169==2)=true:=beq_iff_eq.mpr c21;have c21b1:(t169 !=2)=false:=bne_eq_false_iff_eq.mpr c21;clear c21;replace H:=Option.bind_eq_some_iff.mp H;obtain⟨⟨t178,t179⟩,A220,H⟩:=H;replace H:(spec_l71Val.j0 k s0_0 t179 t169 t178)=some (r1,r2,r3):=H;have A22:=Aside0.mk A220;clear A220;have H':=Aside0.mk H;clear H;go_wp2_with (first|((with_reducible refine gate_callee (f:=47) rfl ?_);refine goesL_ (some 20) rfl rfl Tryd.func47 (by kernel_rfl) rfl #[.pointer (some ⟨g,0,none⟩),.int .i64 5] rfl (by(try simp only[List.map_toArray,List.map_cons,List.map_nil]);first|done|rfl|(simp only[List.length_drop,List.length_take];rfl)) ?_;(with_reducible refine(spec_l6Rd_pick.calls k g s0_0 t170 5 t178 t179 w0 _ ?side1 ?side2 A22.out).mono ?_);(case side1=>repeat(first|(with_reducible first|exact HI0.out|apply IsS95.alloc|apply IsS95.drewN|apply IsS95.drew|apply IsS95.set_1|refine IsS95.far ?_ NB0_168.out _|refine IsS95.far ?_ NB0_171.out _)|exact HI0.out));(case side2=>repeat(first|(with_reducible first|exact HB.out|apply below_alloc|apply pw_below_drewN|apply below_drew1|refine below_set ?_ (IsS95.ge HI0.out)|refine below_set ?_ GE168.out|refine below_set ?_ GE171.out)|exact HB.out));rintro e w23 ⟨rfl,hi,hb,hk⟩;refine⟨_,rfl,?_⟩;have n0_:=Aside0.mk (KeepBut.blk hk (g':=gb168) (o:=.cells #[.int .i64 0,.int .i64 0] 25 (0,0)) (by(with_reducible repeat(first|refine blk_drewN ?_ _|refine blk_drew ?_|refine blk_alloc ?_ _));refine blk_far ?_ NB168_171.out _;(with_reducible repeat(first|refine blk_drewN ?_ _|refine blk_drew ?_|refine blk_alloc ?_ _));refine blk_far ?_ NB168_171.out _;(with_reducible repeat(first|refine blk_drewN ?_ _|refine blk_drew ?_|refine blk_alloc ?_ _));exact BK168.out) NB168_0.out (by simp));have n1_:=Aside0.mk (KeepBut.blk hk (g':=gb171) (o:=.cells #[.int .i64 t169,.int .i64 0] 25 (0,0)) (by(with_reducible repeat(first|refine blk_drewN ?_ _|refine blk_drew ?_|refine blk_alloc ?_ _));refine blk_put (cs:= #[.int .i64 t169,.int .i64 0]) ?_ 1 _ rfl;(with_reducible repeat(first|refine blk_drewN ?_ _|refine blk_drew ?_|refine blk_alloc ?_ _));refine blk_put (cs:= #[.int .i64 0,.int .i64 0]) ?_ 0 _ rfl;(with_reducible repeat(first|refine blk_drewN ?_ _|refine blk_drew ?_|refine blk_alloc ?_ _));exact BK171.out) NB171_0.out (by simp));have n2_:=Aside0.mk (KeepBut.trans (by repeat(first|(with_reducible first|exact HK.out|apply KeepBut.set_|apply keep_drewN|apply keep_drew|apply keep_alloc|refine keep_far ?_ GW168.out _|refine keep_far ?_ GW171.out _)|exact HK.out)) hk (.inl rfl));have n3_:=Aside0.mk (hb);have n4_:=Aside0.mk (hi);clear BK168;clear BK171;clear HK;clear HB;clear HI0;have BK168:=n0_;have BK171:=n1_;have HK:=n2_;have HB:=n3_;have HI0:=n4_;clear n0_ n1_ n2_ n3_ n4_;(try clear hb);(try clear hb2);(try clear hk);(try clear hi);have hnb24:=NB171_168.out;have hnc24:=NB168_171.out;have hnb25:=NB171_0.out;have hnc25:=NB0_171.out;have hcz26_0:w23.cell? ⟨gb171,0,none⟩=some (.int .i64 t169):=(blk_cell BK171.out 0).trans rfl;have hcz26_1:w23.cell? ⟨gb171,1,none⟩=some (.int .i64 0):=(blk_cell BK171.out 1).trans rfl;have hfz26_0:=blk_frozen BK171.out 0;have hfz26_1:=blk_frozen BK171.out 1))
        go_meet
        case rel=>exact⟨_,(t179),(t178),H',⟨by first|omega|exact Nat.le_refl _⟩,⟨by(with_reducible repeat(first|refine blk_drewN ?_ _|refine blk_drew ?_|refine blk_alloc ?_ _));refine blk_far ?_ NB168_171.out _;(with_reducible repeat(first|refine blk_drewN ?_ _|refine blk_drew ?_|refine blk_alloc ?_ _));exact BK168.out⟩,⟨by(with_reducible repeat(first|refine blk_drewN ?_ _|refine blk_drew ?_|refine blk_alloc ?_ _));refine blk_put (cs:= #[.int .i64 t169,.int .i64 0]) ?_ 1 _ rfl;(with_reducible repeat(first|refine blk_drewN ?_ _|refine blk_drew ?_|refine blk_alloc ?_ _));exact BK171.out⟩,⟨by repeat(first|(with_reducible first|exact HI0.out|apply IsS95.alloc|apply IsS95.drewN|apply IsS95.drew|apply IsS95.set_1|refine IsS95.far ?_ NB0_168.out _|refine IsS95.far ?_ NB0_171.out _)|exact HI0.out)⟩,⟨by repeat(first|(with_reducible first|exact HK.out|apply KeepBut.set_|apply keep_drewN|apply keep_drew|apply keep_alloc|refine keep_far ?_ GW168.out _|refine keep_far ?_ GW171.out _)|exact HK.out)⟩,⟨by repeat(first|(with_reducible first|exact HB.out|apply below_alloc|apply pw_below_drewN|apply below_drew1|refine below_set ?_ (IsS95.ge HI0.out)|refine below_set ?_ GE168.out|refine below_set ?_ GE171.out)|exact HB.out)⟩⟩
      · rw[if_neg c21]at H
        have c21b0:(t169==2)=false:=beq_eq_false_iff_ne.mpr c21;have c21b1:(t169 !=2)=true:=bne_iff_ne.mpr c21;by_cases c27:t169=3
        · rw[if_pos c27]at H
          have c27b0:(t169==3)=true:=beq_iff_eq.mpr c27;have c27b1:(t169 !=3)=false:=bne_eq_false_iff_eq.mpr c27;clear c27;replace H:=Option.bind_eq_some_iff.mp H;obtain⟨⟨t180,t181⟩,A280,H⟩:=H;replace H:(spec_l71Val.j0 k s0_0 t181 t169 (wrap64 (1+t180)))=some (r1,r2,r3):=H;have A28:=Aside0.mk A280;clear A280;have H':=Aside0.mk H;clear H;go_wp2_with (first|((with_reducible refine gate_callee (f:=47) rfl ?_);refine goesL_ (some 25) rfl rfl Tryd.func47 (by kernel_rfl) rfl #[.pointer (some ⟨g,0,none⟩),.int .i64 4] rfl (by(try simp only[List.map_toArray,List.map_cons,List.map_nil]);first|done|rfl|(simp only[List.length_drop,List.length_take];rfl)) ?_;(with_reducible refine(spec_l6Rd_pick.calls k g s0_0 t170 4 t180 t181 w0 _ ?side1 ?side2 A28.out).mono ?_);(case side1=>repeat(first|(with_reducible first|exact HI0.out|apply IsS95.alloc|apply IsS95.drewN|apply IsS95.drew|apply IsS95.set_1|refine IsS95.far ?_ NB0_168.out _|refine IsS95.far ?_ NB0_171.out _)|exact HI0.out));(case side2=>repeat(first|(with_reducible first|exact HB.out|apply below_alloc|apply pw_below_drewN|apply below_drew1|refine below_set ?_ (IsS95.ge HI0.out)|refine below_set ?_ GE168.out|refine below_set ?_ GE171.out)|exact HB.out));rintro e w29 ⟨rfl,hi,hb,hk⟩;refine⟨_,rfl,?_⟩;have n0_:=Aside0.mk (KeepBut.blk hk (g':=gb168) (o:=.cells #[.int .i64 0,.int .i64 0] 25 (0,0)) (by(with_reducible repeat(first|refine blk_drewN ?_ _|refine blk_drew ?_|refine blk_alloc ?_ _));refine blk_far ?_ NB168_171.out _;(with_reducible repeat(first|refine blk_drewN ?_ _|refine blk_drew ?_|refine blk_alloc ?_ _));refine blk_far ?_ NB168_171.out _;(with_reducible repeat(first|refine blk_drewN ?_ _|refine blk_drew ?_|refine blk_alloc ?_ _));exact BK168.out) NB168_0.out (by simp));have n1_:=Aside0.mk (KeepBut.blk hk (g':=gb171) (o:=.cells #[.int .i64 t169,.int .i64 0] 25 (0,0)) (by(with_reducible repeat(first|refine blk_drewN ?_ _|refine blk_drew ?_|refine blk_alloc ?_ _));refine blk_put (cs:= #[.int .i64 t169,.int .i64 0]) ?_ 1 _ rfl;(with_reducible repeat(first|refine blk_drewN ?_ _|refine blk_drew ?_|refine blk_alloc ?_ _));refine blk_put (cs:= #[.int .i64 0,.int .i64 0]) ?_ 0 _ rfl;(with_reducible repeat(first|refine blk_drewN ?_ _|refine blk_drew ?_|refine blk_alloc ?_ _));exact BK171.out) NB171_0.out (by simp));have n2_:=Aside0.mk (KeepBut.trans (by repeat(first|(with_reducible first|exact HK.out|apply KeepBut.set_|apply keep_drewN|apply keep_drew|apply keep_alloc|refine keep_far ?_ GW168.out _|refine keep_far ?_ GW171.out _)|exact HK.out)) hk (.inl rfl));have n3_:=Aside0.mk (hb);have n4_:=Aside0.mk (hi);clear BK168;clear BK171;clear HK;clear HB;clear HI0;have BK168:=n0_;have BK171:=n1_;have HK:=n2_;have HB:=n3_;have HI0:=n4_;clear n0_ n1_ n2_ n3_ n4_;(try clear hb);(try clear hb2);(try clear hk);(try clear hi);have hnb30:=NB171_168.out;have hnc30:=NB168_171.out;have hnb31:=NB171_0.out;have hnc31:=NB0_171.out;have hcz32_0:w29.cell? ⟨gb171,0,none⟩=some (.int .i64 t169):=(blk_cell BK171.out 0).trans rfl;have hcz32_1:w29.cell? ⟨gb171,1,none⟩=some (.int .i64 0):=(blk_cell BK171.out 1).trans rfl;have hfz32_0:=blk_frozen BK171.out 0;have hfz32_1:=blk_frozen BK171.out 1))
          go_meet
          case rel=>exact⟨_,(t181),(wrap64 (1+t180)),H',⟨by first|omega|exact Nat.le_refl _⟩,⟨by(with_reducible repeat(first|refine blk_drewN ?_ _|refine blk_drew ?_|refine blk_alloc ?_ _));refine blk_far ?_ NB168_171.out _;(with_reducible repeat(first|refine blk_drewN ?_ _|refine blk_drew ?_|refine blk_alloc ?_ _));exact BK168.out⟩,⟨by(with_reducible repeat(first|refine blk_drewN ?_ _|refine blk_drew ?_|refine blk_alloc ?_ _));refine blk_put (cs:= #[.int .i64 t169,.int .i64 0]) ?_ 1 _ rfl;(with_reducible repeat(first|refine blk_drewN ?_ _|refine blk_drew ?_|refine blk_alloc ?_ _));exact BK171.out⟩,⟨by repeat(first|(with_reducible first|exact HI0.out|apply IsS95.alloc|apply IsS95.drewN|apply IsS95.drew|apply IsS95.set_1|refine IsS95.far ?_ NB0_168.out _|refine IsS95.far ?_ NB0_171.out _)|exact HI0.out)⟩,⟨by repeat(first|(with_reducible first|exact HK.out|apply KeepBut.set_|apply keep_drewN|apply keep_drew|apply keep_alloc|refine keep_far ?_ GW168.out _|refine keep_far ?_ GW171.out _)|exact HK.out)⟩,⟨by repeat(first|(with_reducible first|exact HB.out|apply below_alloc|apply pw_below_drewN|apply below_drew1|refine below_set ?_ (IsS95.ge HI0.out)|refine below_set ?_ GE168.out|refine below_set ?_ GE171.out)|exact HB.out)⟩⟩
        · rw[if_neg c27]at H
          have c27b0:(t169==3)=false:=beq_eq_false_iff_ne.mpr c27;have c27b1:(t169 !=3)=true:=bne_iff_ne.mpr c27;have H':=Aside0.mk H;clear H;go_wp2
          go_meet
          case rel=>exact⟨_,(t170),(0),H',⟨by first|omega|exact Nat.le_refl _⟩,⟨by(with_reducible repeat(first|refine blk_drewN ?_ _|refine blk_drew ?_|refine blk_alloc ?_ _));refine blk_far ?_ NB168_171.out _;(with_reducible repeat(first|refine blk_drewN ?_ _|refine blk_drew ?_|refine blk_alloc ?_ _));refine blk_far ?_ NB168_171.out _;(with_reducible repeat(first|refine blk_drewN ?_ _|refine blk_drew ?_|refine blk_alloc ?_ _));exact BK168.out⟩,⟨by(with_reducible repeat(first|refine blk_drewN ?_ _|refine blk_drew ?_|refine blk_alloc ?_ _));refine blk_put (cs:= #[.int .i64 t169,.int .i64 0]) ?_ 1 _ rfl;(with_reducible repeat(first|refine blk_drewN ?_ _|refine blk_drew ?_|refine blk_alloc ?_ _));refine blk_put (cs:= #[.int .i64 0,.int .i64 0]) ?_ 0 _ rfl;(with_reducible repeat(first|refine blk_drewN ?_ _|refine blk_drew ?_|refine blk_alloc ?_ _));exact BK171.out⟩,⟨by repeat(first|(with_reducible first|exact HI0.out|apply IsS95.alloc|apply IsS95.drewN|apply IsS95.drew|apply IsS95.set_1|refine IsS95.far ?_ NB0_168.out _|refine IsS95.far ?_ NB0_171.out _)|exact HI0.out)⟩,⟨by repeat(first|(with_reducible first|exact HK.out|apply KeepBut.set_|apply keep_drewN|apply keep_drew|apply keep_alloc|refine keep_far ?_ GW168.out _|refine keep_far ?_ GW171.out _)|exact HK.out)⟩,⟨by repeat(first|(with_reducible first|exact HB.out|apply below_alloc|apply pw_below_drewN|apply below_drew1|refine below_set ?_ (IsS95.ge HI0.out)|refine below_set ?_ GE168.out|refine below_set ?_ GE171.out)|exact HB.out)⟩⟩
  case rest=>
    clear HC3;try clear c1
    try clear p1
    try clear q1
    try clear hx1
    try clear c2
    try clear p2
    try clear c3
    try clear c4
    try clear p6
    try clear c7
    try clear c8
    try clear c10
    try clear c10b0
    try clear c10b1
    try clear c12
    try clear c12b0
    try clear c13
    try clear c13b0
    try clear p17
    try clear q17
    try clear hx17
    try clear c18
    try clear c19
    try clear c21
    try clear c21b0
    try clear c21b1
    try clear c24
    try clear c25
    try clear c27
    try clear c27b0
    try clear c27b1
    try clear c30
    try clear c31
    try clear hcz20_0
    try clear hcz20_1
    try clear hcz26_0
    try clear hcz26_1
    try clear hcz32_0
    try clear hcz32_1
    try clear hcz9_0
    try clear hcz9_1
    try clear hfz20_0
    try clear hfz20_1
    try clear hfz26_0
    try clear hfz26_1
    try clear hfz32_0
    try clear hfz32_1
    try clear hfz9_0
    try clear hfz9_1
    try clear hx177_0
    try clear p177
    try clear q177
    obtain⟨kq,x1001_2,x172001_2,HA,HJ2,BK168,BK171,HI0,HK,HB⟩:=hcut;cases kq with
    |zero=>exact absurd HA.out (by simp[spec_l71Val.j0])
    |succ kj2=>
      have H:=HA.out;clear HA;simp only[spec_l71Val.j0]at H
      replace H:=Option.bind_eq_some_iff.mp H;obtain⟨⟨t182,t183⟩,A330,H⟩:=H;replace H:(if t182=0 then((some (([(-100),100,10]:List Int):List Int)).bind fun y184=>((spec_l6Rd_pick.f kj2 s0_0 t183 3).bind fun bt187=>(if 0≤bt187.1 then(if bt187.1<(y184.length:Int)then(some (t169,rd y184 bt187.1,bt187.2))else(none))else(none))))else(if t182=1 then((spec_l6Rd_pick.f kj2 s0_0 t183 6).bind fun bt190=>(some (bt190.1,x172001_2,bt190.2)))else(some (t169,x172001_2,t183))))=some (r1,r2,r3):=H
      have A33:=Aside0.mk A330;clear A330;by_cases c34:t182=0
      · rw[if_pos c34]at H
        have c34b0:(t182==0)=true:=beq_iff_eq.mpr c34;have c34b1:(t182 !=0)=false:=bne_eq_false_iff_eq.mpr c34;clear c34;obtain⟨y184,hy184⟩: ∃y_:List Int,y_=(([(-100),100,10]:List Int)):=⟨_,rfl⟩;replace H:((spec_l6Rd_pick.f kj2 s0_0 t183 3).bind fun bt187=>(if 0≤bt187.1 then(if bt187.1<(y184.length:Int)then(some (t169,rd y184 bt187.1,bt187.2))else(none))else(none)))=some (r1,r2,r3):=by first|(rw[hy184];with_reducible exact H)|(have H2_:=(Option.bind_some _ _).symm.trans H;rw[hy184];with_reducible exact H2_)|(have H2_:=(Option.bind_some _ _).symm.trans H;with_reducible exact H2_)|with_reducible exact H|(rw[hy184];exact H)|exact H
        have Ny184:=Aside0.mk hy184;clear hy184;replace H:=Option.bind_eq_some_iff.mp H;obtain⟨⟨t187,t188⟩,A350,H⟩:=H;replace H:(if 0≤t187 then(if t187<(y184.length:Int)then(some (t169,rd y184 t187,t188))else(none))else(none))=some (r1,r2,r3):=H
        have A35:=Aside0.mk A350;clear A350;by_cases c36:0≤t187
        · rw[if_pos c36]at H
          have c36b0:decide (0≤t187)=true:=decide_eq_true c36;clear c36;by_cases c37:t187<(y184.length:Int)
          · rw[if_pos c37]at H
            have c37b0:decide (t187<(y184.length:Int))=true:=decide_eq_true c37;clear c37;simp only[Option.some.injEq,Prod.mk.injEq]at H
            obtain⟨rfl,rfl,rfl⟩:=H;go_wp2_with (first|((with_reducible refine gate_callee (f:=47) rfl ?_);refine goesL_ (some 29) rfl rfl Tryd.func47 (by kernel_rfl) rfl #[.pointer (some ⟨g,0,none⟩),.int .i64 30] rfl (by(try simp only[List.map_toArray,List.map_cons,List.map_nil]);first|done|rfl|(simp only[List.length_drop,List.length_take];rfl)) ?_;(with_reducible refine(spec_l6Rd_pick.calls kj2 g s0_0 x1001_2 30 t182 t183 w0 _ ?side1 ?side2 A33.out).mono ?_);(case side1=>repeat(first|(with_reducible first|exact HI0.out|apply IsS95.alloc|apply IsS95.drewN|apply IsS95.drew|apply IsS95.set_1|refine IsS95.far ?_ NB0_168.out _|refine IsS95.far ?_ NB0_171.out _)|exact HI0.out));(case side2=>repeat(first|(with_reducible first|exact HB.out|apply below_alloc|apply pw_below_drewN|apply below_drew1|refine below_set ?_ (IsS95.ge HI0.out)|refine below_set ?_ GE168.out|refine below_set ?_ GE171.out)|exact HB.out));rintro e w38 ⟨rfl,hi,hb,hk⟩;refine⟨_,rfl,?_⟩;have n0_:=Aside0.mk (KeepBut.blk hk (g':=gb168) (o:=.cells #[.int .i64 0,.int .i64 0] 25 (0,0)) (by(with_reducible repeat(first|refine blk_drewN ?_ _|refine blk_drew ?_|refine blk_alloc ?_ _));exact BK168.out) NB168_0.out (by simp));have n1_:=Aside0.mk (KeepBut.blk hk (g':=gb171) (o:=.cells #[.int .i64 t169,.int .i64 x172001_2] 25 (0,0)) (by(with_reducible repeat(first|refine blk_drewN ?_ _|refine blk_drew ?_|refine blk_alloc ?_ _));exact BK171.out) NB171_0.out (by simp));have n2_:=Aside0.mk (KeepBut.trans (by repeat(first|(with_reducible first|exact HK.out|apply KeepBut.set_|apply keep_drewN|apply keep_drew|apply keep_alloc|refine keep_far ?_ GW168.out _|refine keep_far ?_ GW171.out _)|exact HK.out)) hk (.inl rfl));have n3_:=Aside0.mk (hb);have n4_:=Aside0.mk (hi);clear BK168;clear BK171;clear HK;clear HB;clear HI0;have BK168:=n0_;have BK171:=n1_;have HK:=n2_;have HB:=n3_;have HI0:=n4_;clear n0_ n1_ n2_ n3_ n4_;(try clear hb);(try clear hb2);(try clear hk);(try clear hi))|((with_reducible refine gate_dst (N:=32) rfl ?_);refine Kd.R_lit (Kd.int .i64) _ 3 ?hg (N:=32) ?hd (xs:=([(-100),100,10]:List Int)) (inner:=[.int .i64 (-100),.int .i64 100,.int .i64 10]) (ok:=fun _=>True) (okp:=fun _=>True) ?hr ?hp (fun _ hk=>hk) trivial (Below.refl _ _) (Nat.le_refl _) (by simp) ?_;(case hd=>rfl);(case hg=>rfl);(case hr=>first|(go_simp;done)|(go_simp;rfl));(case hp=>exact(Reps.one (show Kd.M (Kd.int .i64) _ _ _ (-100) [.int .i64 (-100)]from rfl) (Reps.one (show Kd.M (Kd.int .i64) _ _ _ 100 [.int .i64 100]from rfl) (Reps.one (show Kd.M (Kd.int .i64) _ _ _ 10 [.int .i64 10]from rfl) (Reps.none _ _)))));intro v185 w39 ho40 hb hg_ hnew_;clear hg_ hnew_;(first|rw[←Ny184.out]at ho40|(simp only[Int.reduceToNat]at ho40;rw[←Ny184.out]at ho40));have n0_:=Aside0.mk (Kd.R_lower ho40 (keep_size (w:=w) (g:=g) (row:=none) (by repeat(first|(with_reducible first|exact HK.out|apply KeepBut.set_|apply keep_drewN|apply keep_drew|apply keep_alloc|refine keep_far ?_ GW168.out _|refine keep_far ?_ GW171.out _)|exact HK.out))));have n1_:=Aside0.mk (blk_below (g:=gb168) (o:=.cells #[.int .i64 0,.int .i64 0] 25 (0,0)) (by(with_reducible repeat(first|refine blk_drewN ?_ _|refine blk_drew ?_|refine blk_alloc ?_ _));exact BK168.out) hb);have n2_:=Aside0.mk (blk_below (g:=gb171) (o:=.cells #[.int .i64 t169,.int .i64 x172001_2] 25 (0,0)) (by(with_reducible repeat(first|refine blk_drewN ?_ _|refine blk_drew ?_|refine blk_alloc ?_ _));exact BK171.out) hb);have n3_:=Aside0.mk (IsS95.below (by repeat(first|(with_reducible first|exact HI0.out|apply IsS95.alloc|apply IsS95.drewN|apply IsS95.drew|apply IsS95.set_1|refine IsS95.far ?_ NB0_168.out _|refine IsS95.far ?_ NB0_171.out _)|exact HI0.out)) hb);have n4_:=Aside0.mk (KeepBut.trans (by repeat(first|(with_reducible first|exact HK.out|apply KeepBut.set_|apply keep_drewN|apply keep_drew|apply keep_alloc|refine keep_far ?_ GW168.out _|refine keep_far ?_ GW171.out _)|exact HK.out)) (KeepBut.of_below hb g none) (.inl rfl));have n5_:=Aside0.mk (below_step (by repeat(first|(with_reducible first|exact HB.out|apply below_alloc|apply pw_below_drewN|apply below_drew1|refine below_set ?_ (IsS95.ge HI0.out)|refine below_set ?_ GE168.out|refine below_set ?_ GE171.out)|exact HB.out)) hb);clear BK168;clear BK171;clear HI0;clear HK;clear HB;have HO186:=n0_;have BK168:=n1_;have BK171:=n2_;have HI0:=n3_;have HK:=n4_;have HB:=n5_;clear n0_ n1_ n2_ n3_ n4_ n5_;clear hb ho40)|((with_reducible refine gate_callee (f:=47) rfl ?_);refine goesL_ (some 34) rfl rfl Tryd.func47 (by kernel_rfl) rfl #[.pointer (some ⟨g,0,none⟩),.int .i64 3] rfl (by(try simp only[List.map_toArray,List.map_cons,List.map_nil]);first|done|rfl|(simp only[List.length_drop,List.length_take];rfl)) ?_;(with_reducible refine(spec_l6Rd_pick.calls kj2 g s0_0 t183 3 t187 t188 w0 _ ?side1 ?side2 A35.out).mono ?_);(case side1=>repeat(first|(with_reducible first|exact HI0.out|apply IsS95.alloc|apply IsS95.drewN|apply IsS95.drew|apply IsS95.set_1|refine IsS95.far ?_ NB0_168.out _|refine IsS95.far ?_ NB0_171.out _)|exact HI0.out));(case side2=>repeat(first|(with_reducible first|exact HB.out|apply below_alloc|apply pw_below_drewN|apply below_drew1|refine below_set ?_ (IsS95.ge HI0.out)|refine below_set ?_ GE168.out|refine below_set ?_ GE171.out)|exact HB.out));rintro e w41 ⟨rfl,hi,hb,hk⟩;refine⟨_,rfl,?_⟩;have n0_:=Aside0.mk (KeepBut.blk hk (g':=gb168) (o:=.cells #[.int .i64 0,.int .i64 0] 25 (0,0)) (by(with_reducible repeat(first|refine blk_drewN ?_ _|refine blk_drew ?_|refine blk_alloc ?_ _));exact BK168.out) NB168_0.out (by simp));have n1_:=Aside0.mk (KeepBut.blk hk (g':=gb171) (o:=.cells #[.int .i64 t169,.int .i64 x172001_2] 25 (0,0)) (by(with_reducible repeat(first|refine blk_drewN ?_ _|refine blk_drew ?_|refine blk_alloc ?_ _));exact BK171.out) NB171_0.out (by simp));have n2_:=Aside0.mk (Kd.R_mono (Kd.R_keep (IsS95.apart (show IsS95 w0 _ g s0_0 t183 from by repeat(first|(with_reducible first|exact HI0.out|apply IsS95.alloc|apply IsS95.drewN|apply IsS95.drew|apply IsS95.set_1|refine IsS95.far ?_ NB0_168.out _|refine IsS95.far ?_ NB0_171.out _)|exact HI0.out)) (by(with_reducible repeat(first|apply Kd.R_alloc|apply Kd.R_drewN|apply Kd.R_drew));exact HO186.out) (by decide)) hk (fun _ h=>h.2)) (fun _ h=>h.1));have n3_:=Aside0.mk (KeepBut.trans (by repeat(first|(with_reducible first|exact HK.out|apply KeepBut.set_|apply keep_drewN|apply keep_drew|apply keep_alloc|refine keep_far ?_ GW168.out _|refine keep_far ?_ GW171.out _)|exact HK.out)) hk (.inl rfl));have n4_:=Aside0.mk (hb);have n5_:=Aside0.mk (hi);clear BK168;clear BK171;clear HO186;clear HK;clear HB;clear HI0;have BK168:=n0_;have BK171:=n1_;have HO186:=n2_;have HK:=n3_;have HB:=n4_;have HI0:=n5_;clear n0_ n1_ n2_ n3_ n4_ n5_;(try clear hb);(try clear hb2);(try clear hk);(try clear hi);obtain⟨Ao42,co42,eo42⟩:=Kd.R_slice HO186.out;subst eo42;have p189:0≤(t187:Int):=of_decide_eq_true (by first|(with_reducible assumption)|assumption);have q189:t187<(y184.length:Int):=of_decide_eq_true (by first|(with_reducible assumption)|assumption);obtain⟨ad189,e189,hx189_0⟩:=Kd.at_int (Kd.R_reads' HO186.out).2.2 t187 p189 q189;cases e189;replace p189:=eq_true p189;replace q189:=eq_true q189;have hnb43:=NB171_168.out;have hnc43:=NB168_171.out;have hnb44:=NB171_0.out;have hnc44:=NB0_171.out;have hcz45_0:w41.cell? ⟨gb171,0,none⟩=some (.int .i64 t169):=(blk_cell BK171.out 0).trans rfl;have hcz45_1:w41.cell? ⟨gb171,1,none⟩=some (.int .i64 x172001_2):=(blk_cell BK171.out 1).trans rfl;have hfz45_0:=blk_frozen BK171.out 0;have hfz45_1:=blk_frozen BK171.out 1;have hnb46:=NB168_0.out;have hnc46:=NB0_168.out;have hcz47_0:w41.cell? ⟨gb168,0,none⟩=some (.int .i64 0):=(blk_cell BK168.out 0).trans rfl;have hcz47_1:w41.cell? ⟨gb168,1,none⟩=some (.int .i64 0):=(blk_cell BK168.out 1).trans rfl;have hfz47_0:=blk_frozen BK168.out 0;have hfz47_1:=blk_frozen BK168.out 1))
            refine bodyPost_ret (results_cell_row rfl _ _ gb168 25 #[.int .i64 t169,.int .i64 (rd y184 t187)] (0,0) _ rfl (by(with_reducible repeat(first|refine blk_drewN ?_ _|refine blk_drew ?_|refine blk_alloc ?_ _));refine blk_put (cs:= #[.int .i64 t169,.int .i64 0]) ?_ 1 _ rfl;(with_reducible repeat(first|refine blk_drewN ?_ _|refine blk_drew ?_|refine blk_alloc ?_ _));refine blk_put (cs:= #[.int .i64 0,.int .i64 0]) ?_ 0 _ rfl;(with_reducible repeat(first|refine blk_drewN ?_ _|refine blk_drew ?_|refine blk_alloc ?_ _));refine blk_far ?_ NB168_171.out _;(with_reducible repeat(first|refine blk_drewN ?_ _|refine blk_drew ?_|refine blk_alloc ?_ _));exact BK168.out) Tryd.underlying25 rfl (by kernel_rfl)) rfl ?_
            exact⟨by first|rfl|(simp[errW_none,errW_some]<;>rfl)|(simp[*,errW_none,errW_some]<;>rfl),by repeat(first|(with_reducible first|exact HI0.out|apply IsS95.alloc|apply IsS95.drewN|apply IsS95.drew|apply IsS95.set_1|refine IsS95.far ?_ NB0_168.out _|refine IsS95.far ?_ NB0_171.out _)|exact HI0.out),by repeat(first|(with_reducible first|exact HB.out|apply below_alloc|apply pw_below_drewN|apply below_drew1|refine below_set ?_ (IsS95.ge HI0.out)|refine below_set ?_ GE168.out|refine below_set ?_ GE171.out)|exact HB.out),by repeat(first|(with_reducible first|exact HK.out|apply KeepBut.set_|apply keep_drewN|apply keep_drew|apply keep_alloc|refine keep_far ?_ GW168.out _|refine keep_far ?_ GW171.out _)|exact HK.out)⟩
          · rw[if_neg c37]at H
            exact absurd H (by simp)
        · rw[if_neg c36]at H
          exact absurd H (by simp)
      · rw[if_neg c34]at H
        have c34b0:(t182==0)=false:=beq_eq_false_iff_ne.mpr c34;have c34b1:(t182 !=0)=true:=bne_iff_ne.mpr c34;by_cases c48:t182=1
        · rw[if_pos c48]at H
          have c48b0:(t182==1)=true:=beq_iff_eq.mpr c48;have c48b1:(t182 !=1)=false:=bne_eq_false_iff_eq.mpr c48;clear c48;replace H:=Option.bind_eq_some_iff.mp H;obtain⟨⟨t190,t191⟩,A490,H⟩:=H;replace H:(some (t190,x172001_2,t191))=some (r1,r2,r3):=H;have A49:=Aside0.mk A490;clear A490;simp only[Option.some.injEq,Prod.mk.injEq]at H
          obtain⟨rfl,rfl,rfl⟩:=H;go_wp2_with (first|((with_reducible refine gate_callee (f:=47) rfl ?_);refine goesL_ (some 29) rfl rfl Tryd.func47 (by kernel_rfl) rfl #[.pointer (some ⟨g,0,none⟩),.int .i64 30] rfl (by(try simp only[List.map_toArray,List.map_cons,List.map_nil]);first|done|rfl|(simp only[List.length_drop,List.length_take];rfl)) ?_;(with_reducible refine(spec_l6Rd_pick.calls kj2 g s0_0 x1001_2 30 t182 t183 w0 _ ?side1 ?side2 A33.out).mono ?_);(case side1=>repeat(first|(with_reducible first|exact HI0.out|apply IsS95.alloc|apply IsS95.drewN|apply IsS95.drew|apply IsS95.set_1|refine IsS95.far ?_ NB0_168.out _|refine IsS95.far ?_ NB0_171.out _)|exact HI0.out));(case side2=>repeat(first|(with_reducible first|exact HB.out|apply below_alloc|apply pw_below_drewN|apply below_drew1|refine below_set ?_ (IsS95.ge HI0.out)|refine below_set ?_ GE168.out|refine below_set ?_ GE171.out)|exact HB.out));rintro e w50 ⟨rfl,hi,hb,hk⟩;refine⟨_,rfl,?_⟩;have n0_:=Aside0.mk (KeepBut.blk hk (g':=gb168) (o:=.cells #[.int .i64 0,.int .i64 0] 25 (0,0)) (by(with_reducible repeat(first|refine blk_drewN ?_ _|refine blk_drew ?_|refine blk_alloc ?_ _));exact BK168.out) NB168_0.out (by simp));have n1_:=Aside0.mk (KeepBut.blk hk (g':=gb171) (o:=.cells #[.int .i64 t169,.int .i64 x172001_2] 25 (0,0)) (by(with_reducible repeat(first|refine blk_drewN ?_ _|refine blk_drew ?_|refine blk_alloc ?_ _));exact BK171.out) NB171_0.out (by simp));have n2_:=Aside0.mk (KeepBut.trans (by repeat(first|(with_reducible first|exact HK.out|apply KeepBut.set_|apply keep_drewN|apply keep_drew|apply keep_alloc|refine keep_far ?_ GW168.out _|refine keep_far ?_ GW171.out _)|exact HK.out)) hk (.inl rfl));have n3_:=Aside0.mk (hb);have n4_:=Aside0.mk (hi);clear BK168;clear BK171;clear HK;clear HB;clear HI0;have BK168:=n0_;have BK171:=n1_;have HK:=n2_;have HB:=n3_;have HI0:=n4_;clear n0_ n1_ n2_ n3_ n4_;(try clear hb);(try clear hb2);(try clear hk);(try clear hi))|((with_reducible refine gate_callee (f:=47) rfl ?_);refine goesL_ (some 41) rfl rfl Tryd.func47 (by kernel_rfl) rfl #[.pointer (some ⟨g,0,none⟩),.int .i64 6] rfl (by(try simp only[List.map_toArray,List.map_cons,List.map_nil]);first|done|rfl|(simp only[List.length_drop,List.length_take];rfl)) ?_;(with_reducible refine(spec_l6Rd_pick.calls kj2 g s0_0 t183 6 t190 t191 w0 _ ?side1 ?side2 A49.out).mono ?_);(case side1=>repeat(first|(with_reducible first|exact HI0.out|apply IsS95.alloc|apply IsS95.drewN|apply IsS95.drew|apply IsS95.set_1|refine IsS95.far ?_ NB0_168.out _|refine IsS95.far ?_ NB0_171.out _)|exact HI0.out));(case side2=>repeat(first|(with_reducible first|exact HB.out|apply below_alloc|apply pw_below_drewN|apply below_drew1|refine below_set ?_ (IsS95.ge HI0.out)|refine below_set ?_ GE168.out|refine below_set ?_ GE171.out)|exact HB.out));rintro e w51 ⟨rfl,hi,hb,hk⟩;refine⟨_,rfl,?_⟩;have n0_:=Aside0.mk (KeepBut.blk hk (g':=gb168) (o:=.cells #[.int .i64 0,.int .i64 0] 25 (0,0)) (by(with_reducible repeat(first|refine blk_drewN ?_ _|refine blk_drew ?_|refine blk_alloc ?_ _));exact BK168.out) NB168_0.out (by simp));have n1_:=Aside0.mk (KeepBut.blk hk (g':=gb171) (o:=.cells #[.int .i64 t169,.int .i64 x172001_2] 25 (0,0)) (by(with_reducible repeat(first|refine blk_drewN ?_ _|refine blk_drew ?_|refine blk_alloc ?_ _));exact BK171.out) NB171_0.out (by simp));have n2_:=Aside0.mk (KeepBut.trans (by repeat(first|(with_reducible first|exact HK.out|apply KeepBut.set_|apply keep_drewN|apply keep_drew|apply keep_alloc|refine keep_far ?_ GW168.out _|refine keep_far ?_ GW171.out _)|exact HK.out)) hk (.inl rfl));have n3_:=Aside0.mk (hb);have n4_:=Aside0.mk (hi);clear BK168;clear BK171;clear HK;clear HB;clear HI0;have BK168:=n0_;have BK171:=n1_;have HK:=n2_;have HB:=n3_;have HI0:=n4_;clear n0_ n1_ n2_ n3_ n4_;(try clear hb);(try clear hb2);(try clear hk);(try clear hi);have hnb52:=NB171_168.out;have hnc52:=NB168_171.out;have hnb53:=NB171_0.out;have hnc53:=NB0_171.out;have hcz54_0:w51.cell? ⟨gb171,0,none⟩=some (.int .i64 t169):=(blk_cell BK171.out 0).trans rfl;have hcz54_1:w51.cell? ⟨gb171,1,none⟩=some (.int .i64 x172001_2):=(blk_cell BK171.out 1).trans rfl;have hfz54_0:=blk_frozen BK171.out 0;have hfz54_1:=blk_frozen BK171.out 1;have hnb55:=NB168_0.out;have hnc55:=NB0_168.out;have hcz56_0:w51.cell? ⟨gb168,0,none⟩=some (.int .i64 0):=(blk_cell BK168.out 0).trans rfl;have hcz56_1:w51.cell? ⟨gb168,1,none⟩=some (.int .i64 0):=(blk_cell BK168.out 1).trans rfl;have hfz56_0:=blk_frozen BK168.out 0;have hfz56_1:=blk_frozen BK168.out 1))
          refine bodyPost_ret (results_cell_row rfl _ _ gb168 25 #[.int .i64 t190,.int .i64 x172001_2] (0,0) _ rfl (by(with_reducible repeat(first|refine blk_drewN ?_ _|refine blk_drew ?_|refine blk_alloc ?_ _));refine blk_put (cs:= #[.int .i64 t190,.int .i64 0]) ?_ 1 _ rfl;(with_reducible repeat(first|refine blk_drewN ?_ _|refine blk_drew ?_|refine blk_alloc ?_ _));refine blk_put (cs:= #[.int .i64 0,.int .i64 0]) ?_ 0 _ rfl;(with_reducible repeat(first|refine blk_drewN ?_ _|refine blk_drew ?_|refine blk_alloc ?_ _));refine blk_far ?_ NB168_171.out _;(with_reducible repeat(first|refine blk_drewN ?_ _|refine blk_drew ?_|refine blk_alloc ?_ _));exact BK168.out) Tryd.underlying25 rfl (by kernel_rfl)) rfl ?_
          exact⟨by first|rfl|(simp[errW_none,errW_some]<;>rfl)|(simp[*,errW_none,errW_some]<;>rfl),by repeat(first|(with_reducible first|exact HI0.out|apply IsS95.alloc|apply IsS95.drewN|apply IsS95.drew|apply IsS95.set_1|refine IsS95.far ?_ NB0_168.out _|refine IsS95.far ?_ NB0_171.out _)|exact HI0.out),by repeat(first|(with_reducible first|exact HB.out|apply below_alloc|apply pw_below_drewN|apply below_drew1|refine below_set ?_ (IsS95.ge HI0.out)|refine below_set ?_ GE168.out|refine below_set ?_ GE171.out)|exact HB.out),by repeat(first|(with_reducible first|exact HK.out|apply KeepBut.set_|apply keep_drewN|apply keep_drew|apply keep_alloc|refine keep_far ?_ GW168.out _|refine keep_far ?_ GW171.out _)|exact HK.out)⟩
        · rw[if_neg c48]at H
          have c48b0:(t182==1)=false:=beq_eq_false_iff_ne.mpr c48;have c48b1:(t182 !=1)=true:=bne_iff_ne.mpr c48;simp only[Option.some.injEq,Prod.mk.injEq]at H
          obtain⟨rfl,rfl,rfl⟩:=H;go_wp2_with (first|((with_reducible refine gate_callee (f:=47) rfl ?_);refine goesL_ (some 29) rfl rfl Tryd.func47 (by kernel_rfl) rfl #[.pointer (some ⟨g,0,none⟩),.int .i64 30] rfl (by(try simp only[List.map_toArray,List.map_cons,List.map_nil]);first|done|rfl|(simp only[List.length_drop,List.length_take];rfl)) ?_;(with_reducible refine(spec_l6Rd_pick.calls kj2 g s0_0 x1001_2 30 t182 t183 w0 _ ?side1 ?side2 A33.out).mono ?_);(case side1=>repeat(first|(with_reducible first|exact HI0.out|apply IsS95.alloc|apply IsS95.drewN|apply IsS95.drew|apply IsS95.set_1|refine IsS95.far ?_ NB0_168.out _|refine IsS95.far ?_ NB0_171.out _)|exact HI0.out));(case side2=>repeat(first|(with_reducible first|exact HB.out|apply below_alloc|apply pw_below_drewN|apply below_drew1|refine below_set ?_ (IsS95.ge HI0.out)|refine below_set ?_ GE168.out|refine below_set ?_ GE171.out)|exact HB.out));rintro e w57 ⟨rfl,hi,hb,hk⟩;refine⟨_,rfl,?_⟩;have n0_:=Aside0.mk (KeepBut.blk hk (g':=gb168) (o:=.cells #[.int .i64 0,.int .i64 0] 25 (0,0)) (by(with_reducible repeat(first|refine blk_drewN ?_ _|refine blk_drew ?_|refine blk_alloc ?_ _));exact BK168.out) NB168_0.out (by simp));have n1_:=Aside0.mk (KeepBut.blk hk (g':=gb171) (o:=.cells #[.int .i64 t169,.int .i64 x172001_2] 25 (0,0)) (by(with_reducible repeat(first|refine blk_drewN ?_ _|refine blk_drew ?_|refine blk_alloc ?_ _));exact BK171.out) NB171_0.out (by simp));have n2_:=Aside0.mk (KeepBut.trans (by repeat(first|(with_reducible first|exact HK.out|apply KeepBut.set_|apply keep_drewN|apply keep_drew|apply keep_alloc|refine keep_far ?_ GW168.out _|refine keep_far ?_ GW171.out _)|exact HK.out)) hk (.inl rfl));have n3_:=Aside0.mk (hb);have n4_:=Aside0.mk (hi);clear BK168;clear BK171;clear HK;clear HB;clear HI0;have BK168:=n0_;have BK171:=n1_;have HK:=n2_;have HB:=n3_;have HI0:=n4_;clear n0_ n1_ n2_ n3_ n4_;(try clear hb);(try clear hb2);(try clear hk);(try clear hi);have hnb58:=NB171_168.out;have hnc58:=NB168_171.out;have hnb59:=NB171_0.out;have hnc59:=NB0_171.out;have hcz60_0:w57.cell? ⟨gb171,0,none⟩=some (.int .i64 t169):=(blk_cell BK171.out 0).trans rfl;have hcz60_1:w57.cell? ⟨gb171,1,none⟩=some (.int .i64 x172001_2):=(blk_cell BK171.out 1).trans rfl;have hfz60_0:=blk_frozen BK171.out 0;have hfz60_1:=blk_frozen BK171.out 1;have hnb61:=NB168_0.out;have hnc61:=NB0_168.out;have hcz62_0:w57.cell? ⟨gb168,0,none⟩=some (.int .i64 0):=(blk_cell BK168.out 0).trans rfl;have hcz62_1:w57.cell? ⟨gb168,1,none⟩=some (.int .i64 0):=(blk_cell BK168.out 1).trans rfl;have hfz62_0:=blk_frozen BK168.out 0;have hfz62_1:=blk_frozen BK168.out 1))
          refine bodyPost_ret (results_cell_row rfl _ _ gb168 25 #[.int .i64 t169,.int .i64 x172001_2] (0,0) _ rfl (by(with_reducible repeat(first|refine blk_drewN ?_ _|refine blk_drew ?_|refine blk_alloc ?_ _));refine blk_put (cs:= #[.int .i64 t169,.int .i64 0]) ?_ 1 _ rfl;(with_reducible repeat(first|refine blk_drewN ?_ _|refine blk_drew ?_|refine blk_alloc ?_ _));refine blk_put (cs:= #[.int .i64 0,.int .i64 0]) ?_ 0 _ rfl;(with_reducible repeat(first|refine blk_drewN ?_ _|refine blk_drew ?_|refine blk_alloc ?_ _));exact BK168.out) Tryd.underlying25 rfl (by kernel_rfl)) rfl ?_
          exact⟨by first|rfl|(simp[errW_none,errW_some]<;>rfl)|(simp[*,errW_none,errW_some]<;>rfl),by repeat(first|(with_reducible first|exact HI0.out|apply IsS95.alloc|apply IsS95.drewN|apply IsS95.drew|apply IsS95.set_1|refine IsS95.far ?_ NB0_168.out _|refine IsS95.far ?_ NB0_171.out _)|exact HI0.out),by repeat(first|(with_reducible first|exact HB.out|apply below_alloc|apply pw_below_drewN|apply below_drew1|refine below_set ?_ (IsS95.ge HI0.out)|refine below_set ?_ GE168.out|refine below_set ?_ GE171.out)|exact HB.out),by repeat(first|(with_reducible first|exact HK.out|apply KeepBut.set_|apply keep_drewN|apply keep_drew|apply keep_alloc|refine keep_far ?_ GW168.out _|refine keep_far ?_ GW171.out _)|exact HK.out)⟩
end Go.Proofs.YtmklpbmlgjkbiaaDoor.PS
end
section
namespace Go.Proofs.YtmklpbmlgjkbiaaDoor.PS
open Go.RowKit Go.Proofs.YtmklpbmlgjkbiaaDoorW.PrintWords Go.Proofs.YtmklpbmlgjkbiaaDoorW.PrintLast
theorem wr64 {x:Int} (h0: -9223372036854775808≤x) (h1:x≤9223372036854775807):wrap64 x=x:=by
  unfold wrap64;omega
theorem xor_nonneg (a b:Int) (ha:0≤a) (ha':a<4611686018427387904) (hb:0≤b) (hb':b<4611686018427387904):0≤Go.bits .xor .i64 a b:=by
  obtain⟨m,rfl⟩:=Int.eq_ofNat_of_zero_le ha;obtain⟨n,rfl⟩:=Int.eq_ofNat_of_zero_le hb;have hm:m<2^62:=by omega
  have hn:n<2^62:=by omega
  have hx:m^^^n<2^62:=Nat.xor_lt_two_pow hm hn;have e1:m%2^IntKind.i64.bits=m:=Nat.mod_eq_of_lt (by show m<2^64;omega)
  have e2:n%2^IntKind.i64.bits=n:=Nat.mod_eq_of_lt (by show n<2^64;omega)
  simp only[bits,BitVec.ofInt_natCast,BitVec.toNat_xor,BitVec.toNat_ofNat,e1,e2]
  rw[IntKind.wrap_i64];omega
def Bytes (b:List Int):Prop:=b.length≤2000∧ ∀x∈b,0≤x∧x≤255
theorem rd_byte {b:List Int} (hb:Bytes b) {i:Int} (h:i.toNat<b.length):0≤rd b i∧rd b i≤255:=by
  unfold rd;rw[List.getD_eq_getElem?_getD,List.getElem?_eq_getElem h];exact hb.2 _ (List.getElem_mem h)
theorem pick_ok {b:List Int} (hb:Bytes b) (k:Nat) (p n:Int) (hp:0≤p) (hp':p<1000000) (hn':n<1000000):
    ∃x,spec_l6Rd_pick.f (k+1) b p n=some (x,p+1)∧0≤x∧(1≤n→x<n)∧(n<1→x=0):=by
  have e1:wrap64 (p+1)=p+1:=wr64 (by omega) (by omega)
  have e2:wrap64 (p+1-1)=p:=by rw[wr64]<;>omega
  unfold spec_l6Rd_pick.f;rw[e1];by_cases hn:n<1
  · rw[if_pos hn]
    exact⟨0,by simp[spec_l6Rd_pick.j0],by omega,by omega,fun _=>rfl⟩
  rw[if_neg hn];by_cases hl:b.length=0
  · refine⟨0,?_,by omega,by omega,fun _=>rfl⟩
    simp[spec_l6Rd_pick.j0,hl]
  have hlb:=hb.1;have c0:(((b.length:Nat):Int)==0)=false:=by simp;intro h;simp[h]at hl
  rw[c0];simp only[spec_l6Rd_pick.j0]
  rw[if_neg (by simp),e2]
  have tm: ∀X:Int,0≤X→0≤Int.tmod X n∧Int.tmod X n<n:=fun X hX=>by
    rw[Int.tmod_eq_emod_of_nonneg hX];exact⟨Int.emod_nonneg _ (by omega),Int.emod_lt_of_pos _ (by omega)⟩
  by_cases hlt:p<(b.length:Int)
  · rw[if_pos hlt,if_pos hp,if_neg (by omega)]
    have hr:=rd_byte hb (i:=p) (by omega)
    rw[wr64 (x:=rd b p) (by omega) (by omega)]
    have:=tm _ hr.1;exact⟨_,rfl,this.1,fun _=>this.2,fun h=>absurd h hn⟩
  rw[if_neg hlt,if_neg (by omega)]
  have hL:(0:Int)<(b.length:Int):=by omega
  have ti: ∀X:Int,0≤X→0≤Int.tmod X (b.length:Int)∧Int.tmod X (b.length:Int)<(b.length:Int):=fun X hX=>by
    rw[Int.tmod_eq_emod_of_nonneg hX];exact⟨Int.emod_nonneg _ (by omega),Int.emod_lt_of_pos _ hL⟩
  have e3:wrap64 (wrap64 (p*7)+3)=p*7+3:=by rw[wr64 (x:=p*7) (by omega) (by omega)];exact wr64 (by omega) (by omega)
  rw[e3];obtain⟨i,hi⟩: ∃i,Int.tmod p (b.length:Int)=i:=⟨_,rfl⟩;obtain⟨j,hj⟩: ∃j,Int.tmod (p*7+3) (b.length:Int)=j:=⟨_,rfl⟩;have bi:=ti p hp;have bj:=ti (p*7+3) (by omega)
  rw[hi]at bi⊢;rw[hj]at bj⊢
  rw[if_pos bi.1,if_pos bi.2,if_pos bj.1,if_pos bj.2,if_neg (by omega)]
  have r1:=rd_byte hb (i:=i) (by omega)
  have r2:=rd_byte hb (i:=j) (by omega)
  obtain⟨u,hu⟩: ∃u,rd b i=u:=⟨_,rfl⟩;obtain⟨v,hv⟩: ∃v,rd b j=v:=⟨_,rfl⟩;rw[hu]at r1⊢;rw[hv]at r2⊢
  obtain⟨q,hq⟩: ∃q,Int.tdiv p (b.length:Int)=q:=⟨_,rfl⟩
  have bq:0≤q∧q≤p:=by
    rw[←hq,Int.tdiv_eq_ediv_of_nonneg hp];exact⟨Int.ediv_nonneg hp (by omega),Int.ediv_le_self _ hp⟩
  rw[hq,wr64 (x:=u) (by omega) (by omega),wr64 (x:=v) (by omega) (by omega),wr64 (x:=u*131) (by omega) (by omega),wr64 (x:=v*1117) (by omega) (by omega),wr64 (x:=u*131+v*1117) (by omega) (by omega),wr64 (x:=p*29) (by omega) (by omega),wr64 (x:=q) (by omega) (by omega),wr64 (x:=q*53) (by omega) (by omega),wr64 (x:=u*131+v*1117+p*29) (by omega) (by omega),wr64 (x:=u*131+v*1117+p*29+q*53) (by omega) (by omega)]
  obtain⟨X,hX⟩: ∃X,u*131+v*1117+p*29+q*53=X:=⟨_,rfl⟩;have bX:0≤X∧X<100000000:=by omega
  rw[hX]
  have bY:0≤Int.tdiv X 64∧Int.tdiv X 64<100000000:=by
    rw[Int.tdiv_eq_ediv_of_nonneg bX.1];omega
  rw[wr64 (x:=Int.tdiv X 64) (by omega) (by omega)]
  have:=tm _ (xor_nonneg X (Int.tdiv X 64) bX.1 (by omega) bY.1 (by omega))
  exact⟨_,rfl,this.1,fun _=>this.2,fun h=>absurd h hn⟩
theorem rd_all {P:Int→Prop} {l:List Int} (h: ∀x∈l,P x) {i:Int} (hi:i.toNat<l.length):P (rd l i):=by
  unfold rd;rw[List.getD_eq_getElem?_getD,List.getElem?_eq_getElem hi];exact h _ (List.getElem_mem hi)
theorem open_ok {l:List Int} (hw: ∀x∈l,(Lit.int .u8 x).wf=true): ∃b,spec_l6Open.f l=some (b,0)∧Bytes b:=by
  have hb: ∀x∈l,0≤x∧x≤255:=fun x hx=>by
    have:=hw x hx;simp[Lit.wf,IntKind.min,IntKind.max,IntKind.signed,IntKind.bits]at this
    omega
  unfold spec_l6Open.f;by_cases h:(l.length:Int)>2000
  · rw[if_pos h,if_pos (by omega)]
    exact⟨_,rfl,by simp;omega,fun x hx=>hb x (List.mem_of_mem_take hx)⟩
  · rw[if_neg h]
    exact⟨_,rfl,by omega,hb⟩
def Drawn (kd n:Int):Prop:=0≤kd∧kd≤5∧ -100≤n∧n≤100
theorem val_tail {b:List Int} (hb:Bytes b) (k:Nat) (p kd n:Int) (hp:0≤p) (hp':p<900000) (h:Drawn kd n):
    ∃kd' n' p',spec_l71Val.j0 (k+2) b p kd n=some (kd',n',p')∧Drawn kd' n'∧p≤p'∧p'≤p+2:=by
  obtain⟨h1,h2,h3,h4⟩:=h;simp only[spec_l71Val.j0]
  obtain⟨x,hx,x0,x1, -⟩:=pick_ok hb k p 30 hp (by omega) (by omega)
  rw[hx];simp only[Option.bind_some]
  by_cases c0:x=0
  · rw[if_pos c0]
    obtain⟨y,hy,y0,y1, -⟩:=pick_ok hb k (p+1) 3 (by omega) (by omega) (by omega)
    have y1:=y1 (by omega)
    rw[hy];simp only[Option.bind_some]
    rw[if_pos y0,if_pos (by simp;omega)]
    have:=rd_all (P:=fun x=> -100≤x∧x≤100) (l:=[-100,100,10]) (by simp) (i:=y) (by simp;omega)
    exact⟨_,_,_,rfl,⟨h1,h2,this.1,this.2⟩,by omega,by omega⟩
  rw[if_neg c0];by_cases c1:x=1
  · rw[if_pos c1]
    obtain⟨y,hy,y0,y1, -⟩:=pick_ok hb k (p+1) 6 (by omega) (by omega) (by omega)
    have y1:=y1 (by omega)
    rw[hy];simp only[Option.bind_some]
    exact⟨_,_,_,rfl,⟨y0,by omega,h3,h4⟩,by omega,by omega⟩
  rw[if_neg c1];exact⟨_,_,_,rfl,⟨h1,h2,h3,h4⟩,by omega,by omega⟩
theorem val_ok {b:List Int} (hb:Bytes b) (k:Nat) (p:Int) (hp:0≤p) (hp':p<800000):
    ∃kd n p',spec_l71Val.f (k+2) b p=some (kd,n,p')∧Drawn kd n∧p≤p'∧p'≤p+4:=by
  unfold spec_l71Val.f;obtain⟨x,hx,x0,x1, -⟩:=pick_ok hb (k+1) p 4 hp (by omega) (by omega)
  have x1:=x1 (by omega)
  rw[hx];simp only[Option.bind_some]
  by_cases c1:x=1
  · rw[if_pos c1]
    obtain⟨y,hy,y0,y1, -⟩:=pick_ok hb (k+1) (p+1) 9 (by omega) (by omega) (by omega)
    have y1:=y1 (by omega)
    rw[hy];simp only[Option.bind_some]
    rw[if_pos y0,if_pos (by simp;omega)]
    have:=rd_all (P:=fun x=> -100≤x∧x≤100) (l:=[0,1,2,3, -1,7,50,99, -99]) (by simp) (i:=y) (by simp;omega)
    obtain⟨kd,n,p',h,hd,l1,l2⟩:=val_tail hb k (p+1+1) x _ (by omega) (by omega) ⟨x0,by omega,this.1,this.2⟩
    exact⟨kd,n,p',h,hd,by omega,by omega⟩
  rw[if_neg c1];by_cases c2:x=2
  · rw[if_pos c2]
    obtain⟨y,hy,y0,y1, -⟩:=pick_ok hb (k+1) (p+1) 5 (by omega) (by omega) (by omega)
    have y1:=y1 (by omega)
    rw[hy];simp only[Option.bind_some]
    obtain⟨kd,n,p',h,hd,l1,l2⟩:=val_tail hb k (p+1+1) x y (by omega) (by omega) ⟨x0,by omega,by omega,by omega⟩
    exact⟨kd,n,p',h,hd,by omega,by omega⟩
  rw[if_neg c2];by_cases c3:x=3
  · rw[if_pos c3]
    obtain⟨y,hy,y0,y1, -⟩:=pick_ok hb (k+1) (p+1) 4 (by omega) (by omega) (by omega)
    have y1:=y1 (by omega)
    rw[hy];simp only[Option.bind_some]
    rw[wr64 (x:=1+y) (by omega) (by omega)]
    obtain⟨kd,n,p',h,hd,l1,l2⟩:=val_tail hb k (p+1+1) x (1+y) (by omega) (by omega) ⟨x0,by omega,by omega,by omega⟩
    exact⟨kd,n,p',h,hd,by omega,by omega⟩
  rw[if_neg c3];obtain⟨kd,n,p',h,hd,l1,l2⟩:=val_tail hb k (p+1) x 0 (by omega) (by omega) ⟨x0,by omega,by omega,by omega⟩
  exact⟨kd,n,p',h,hd,by omega,by omega⟩
def DrawnOp (k r s t vk vn:Int):Prop:=0≤k∧k≤17∧ -1≤r∧r≤6∧ -1≤s∧s≤6∧0≤t∧t≤16∧Drawn vk vn
def GoodOp (places k r s t vk vn:Int):Prop:=(1≤k∧k≤14)∧valP k vk vn∧(r=0∨(hasR k=true∧0≤r∧r≤3))∧(s=0∨(hasS k=true∧0≤s∧s≤3))∧
    (t=0∨(hasT k=true∧0≤t∧t<places))∧(hasV k=true∨(vk=0∧vn=0))∧Drawn vk vn
theorem GoodOp.drawn {n k r s t vk vn:Int} (hn:n≤16) (h:GoodOp n k r s t vk vn):DrawnOp k r s t vk vn:=by
  obtain⟨a,b,c,d,e,f,g⟩:=h;exact⟨by omega,by omega,by omega,by omega,by omega,by omega,by omega,by omega,g⟩
theorem GoodOp.op {n k r s t vk vn:Int} (hn:n≤16) (h:GoodOp n k r s t vk vn):opP k r s t vk vn:=by
  obtain⟨a,b,c,d,e,f,g⟩:=h;refine⟨a,b,c,d,e.imp id (fun h=>⟨h.1,h.2.1,by omega⟩),f⟩
def readV (s:ByteArray):Int×Int×Bool:=
  if okB (backL s.data.toList).1 (backL s.data.toList).2=true∧vtext (backL s.data.toList).1 (backL s.data.toList).2=s then((backL s.data.toList).1,(backL s.data.toList).2,true)else(0,0,false)
theorem readV_text (k n:Int) (h:okP k n):readV (vtext k n)=(k,n,true):=by
  unfold readV;rw[back_ok k n h,if_pos ⟨okB_true.2 h,rfl⟩]
theorem readV_no {s:ByteArray} (h: ∀k n,okP k n→vtext k n≠s):readV s=(0,0,false):=by
  unfold readV;rw[if_neg];rintro⟨h1,h2⟩
  exact h _ _ (okB_true.1 h1) h2
theorem atoi_back (n:Int) (h0: -100<n) (h1:n<100):Lib.atoiAll (itoaS n)= .ok n:=by
  have h: ∀i∈List.range 199,Lib.atoiAll (itoaS ((i:Int)-99))= .ok ((i:Int)-99):=by decide+kernel
  have:=h (n+99).toNat (by simp;omega)
  rwa [show(((n+99).toNat:Nat):Int)-99=n by omega]at this
def Errs (w:World):Prop:=(∃te pe,w.cell? ⟨0,0,none⟩=some (.iface te pe))∧(∃te pe,w.cell? ⟨1,0,none⟩=some (.iface te pe))∧8≤w.heap.size
theorem Errs.below {w w':World} (h:Errs w) (hb:Below w.heap.size w w'):Errs w':=by
  obtain⟨⟨a,b,h0⟩,⟨c,d,h1⟩,h2⟩:=h;exact⟨⟨a,b,(hb.cell (p:=⟨0,0,none⟩) (by show 0<_;omega)).trans h0⟩,⟨c,d,(hb.cell (p:=⟨1,0,none⟩) (by show 1<_;omega)).trans h1⟩,Nat.le_trans h2 hb.size⟩
theorem atoi_yes (t:ByteArray) (v:Int) (w:World) (ht:t.size≤1048576) (h:Lib.atoiAll t.data.toList= .ok v):
    Calls Tryd.prog 54 #[.string t] w fun e w'=>e= .returned (.tuple #[.int .i64 v,.nilIface])∧Below w.heap.size w w':=by
  refine(Tryd.strconv_Atoi_ok t (by omega) v h w).mono ?_
  rintro e w' ⟨rfl,rfl|⟨t',rfl⟩⟩
  · exact⟨rfl,Below.refl _ _⟩
  · exact⟨rfl,Lib.bytesWorld_below _ _ _⟩
def NoNum (w:World) (e:Ending) (w':World):Prop:= ∃ (v:Int) (N:Nat),e= .returned (.tuple #[.int .i64 v,.iface 108 (.pointer (some ⟨N,0,none⟩))])∧Below w.heap.size w w'
theorem atoi_no (t:ByteArray) (w:World) (ht:t.size≤1048576) (hE:Errs w) (h: ∀v,Lib.atoiAll t.data.toList≠ .ok v):Calls Tryd.prog 54 #[.string t] w (NoNum w):=by
  obtain⟨⟨a,b,h0⟩,⟨c,d,h1⟩,h2⟩:=hE;cases hq:Lib.atoiAll t.data.toList
  · exact absurd hq (h _)
  · refine(Any.strconv_Atoi_syntax Tryd.laysC172 t (by omega) hq _ w h0 (.inr ⟨a,b,rfl⟩)).mono ?_
    rintro e w' ⟨N,rfl, -, -,hb⟩
    exact⟨_,N,rfl,hb⟩
  · refine(Any.strconv_Atoi_range Tryd.laysC172 t (by omega) hq _ w h1 (.inr ⟨c,d,rfl⟩)).mono ?_
    rintro e w' ⟨N,rfl, -, -,hb⟩
    exact⟨_,N,rfl,hb⟩
theorem below_set0 {w W:World} (h:Below w.heap.size w W) (j:Nat) (v:Value):Below w.heap.size w (W.setCell ⟨w.heap.size,j,none⟩ v):=below_set h (Nat.le_refl _)
def NoneBelow (s:ByteArray) (k:Int):Prop:= ∀j:Int,1≤j→j<k→ ∀n,okP j n→vtext j n≠s
theorem tail_of {k n:Int} {s:ByteArray} (hk:1≤k) (h:okP k n) (e:vtext k n=s): ∃h2:0<s.size,2≤s.size∧s[0]=letterB k∧(s.extract 1 s.size).data.toList=itoaS n∧ -100<n∧n<100:=by
  have h0: ¬k=0:=by omega
  have e2:s=⟨(letterB k::itoaS n).toArray⟩:=by
    rw[←e];unfold vtext;rw[if_pos (okB_true.2 h),if_neg h0]
  have hsz:=(vtext_size k n h).1;rw[e,e2]at hsz
  subst e2;refine⟨by simp[ByteArray.size],by simp[ByteArray.size]at*;omega,rfl,?_,by unfold okP at h;omega,by unfold okP at h;omega⟩
  simp[ByteArray.data_extract,ByteArray.size]
theorem none_step {s:ByteArray} {k:Int} (h:NoneBelow s k) (hk: ∀n,okP k n→vtext k n≠s):NoneBelow s (k+1):=by
  intro j h1 h2 n hn;by_cases hj:j<k
  · exact h j h1 hj n hn
  · obtain rfl:j=k:=by omega
    exact hk n hn
theorem none_all {s:ByteArray} (h:NoneBelow s 4) (hn:s≠⟨#[110,111,110,101]⟩):readV s=(0,0,false):=by
  refine readV_no fun k n hk e=> ?_
  by_cases h0:k=0
  · subst h0
    have:n=0:=by unfold okP at hk;omega
    subst this;exact hn e.symm
  · exact h k (by unfold okP at hk;omega) (by unfold okP at hk;omega) n hk e
theorem readV_of {k n:Int} {s:ByteArray} (e:vtext k n=s) (h0:0<s.size):readV s=(k,n,true):=by
  by_cases h:okB k n=true
  · rw[←e];exact readV_text k n (okB_true.1 h)
  · simp only[Bool.not_eq_true]at h
    rw[vtext_bad h]at e
    rw[←e]at h0
    simp[ByteArray.size]at h0
theorem impl_ValRead_any (s:ByteArray) (w:World) (hs:s.size≤1048576) (hT:Tab w) (hE:Errs w):
    Calls Tryd.prog 26 #[.string s] w fun e w'=>e= .returned (.tuple #[.agg #[.int .i64 (readV s).1,.int .i64 (readV s).2.1],.bool (readV s).2.2])∧Below w.heap.size w w':=by
  have HT:=Aside0.mk hT;have HE:=Aside0.mk hE;clear hT hE;have HB:=Aside0.mk (Hold.new (Below.refl w.heap.size w) (.cells #[.int .i64 0,.int .i64 0] 25));by_cases hn:s=⟨#[110,111,110,101]⟩
  · subst hn
    rw[show readV ⟨#[110,111,110,101]⟩=(0,0,true)from readV_text 0 0 (.inl ⟨rfl,rfl⟩)]
    clear hs;go_enter Tryd.func26,Tryd.ntmps26
    go_wp2
    exact bodyPost_ret (v:=.tuple #[.agg #[.int .i64 0,.int .i64 0],.bool true]) (by simp[results,Tryd.results26,go_sem]) rfl ⟨rfl,by repeat(first|exact Below.refl _ _|apply below_alloc|apply below_set0)⟩
  · have e0 : (s.toList == [110, 111, 110, 101]) = false := by
      rw[toListD,beq_eq_false_iff_ne];intro h;exact hn (Go.WideShapes.bytes_inj h)
    have HN:=Aside0.mk hn;clear hn;go_enter Tryd.func26,Tryd.ntmps26
    go_wp2
    go_loopg [4] 4 (fun gg s4 wr=> ∃k:Int,1≤k∧k≤4∧4-k≤gg∧s4= .int .i64 k∧Aside0 (NoneBelow s k)∧Aside0 (Hold w wr w.heap.size (.cells #[.int .i64 0,.int .i64 0] 25)))
    case atStart=>exact⟨1,by omega,by omega,by omega,rfl,⟨fun j h1 h2=>by omega⟩,HB⟩
    case round=>
      clear HB;obtain⟨k,hk1,hk4,hgg,rfl,HP,HB⟩:=hrel;have hk:(k=1∨k=2∨k=3)∨k=4:=by omega
      clear hk1 hk4;rcases hk with hk|rfl
      · rcases hk with rfl|rfl|rfl
        · go_upto_region 6 with (fail)
          by_cases hl:s.size<2
          · have l1:decide ((s.size:Int)<2)=true:=decide_eq_true (by omega)
            have HL:=Aside0.mk hl;clear hl;go_quiet (fail)
            go_wp2
            go_roundg (gk-1)
            case measure=>omega
            case rel=>
              exact⟨_,by omega,by omega,by omega,rfl,⟨none_step HP.out fun n hn e=>by obtain⟨_,h2,_⟩:=tail_of (by omega) hn e;have:=HL.out;omega⟩,⟨HB.out.drewN _⟩⟩
          · have l1:decide ((s.size:Int)<2)=false:=decide_eq_false (by omega)
            have h0:0<s.size:=by omega
            have h0z:(0:Int)<(s.size:Int):=by omega
            clear hl;by_cases hb:s[0]=110
            · have e1:((s[0].toNat:Int) !=(((⟨#[110,97,114]⟩:ByteArray)[0]'(by decide)).toNat:Int))=false:=by rw[hb];rfl
              clear hb;go_quiet (fail)
              go_wp2_with fail
              have ht:(s.extract 1 s.size).size≤1048576:=by rw[ByteArray.size_extract];omega
              by_cases ho: ∃v,Lib.atoiAll (s.extract 1 s.size).data.toList= .ok v
              · obtain⟨v,ho⟩:=ho
                refine(atoi_yes (s.extract 1 s.size) v _ ht ho).mono ?_
                rintro e w1 ⟨rfl,hb⟩
                have HO:=Aside0.mk ho;replace HB:=Aside0.mk (Hold2.new ((HB.out.drewN _).step hb) (.cells #[.int .i64 1,.int .i64 v] 25));clear hb ho ht e1;have HX: ∀W,Below w.heap.size w W→Calls Tryd.prog 19 #[.agg #[.int .i64 1,.int .i64 v]] W fun e w'=>e= .returned (.string (vtext 1 v))∧Below W.heap.size W w':=fun W hW=>impl_ValText_any 1 v W (HT.out.below hW)
                obtain⟨X,hX⟩: ∃X,X=vtext 1 v:=⟨_,rfl⟩;rw[←hX]at HX
                have HXX:=Aside0.mk hX;have HX':=Aside0.mk HX;clear HX hX;by_cases hv:X=s
                · have e2:(X.toList==s.toList)=true:=by rw[hv];simp
                  have HV:=Aside0.mk hv;clear hv;go_wp2_with (go_at_call 19;(with_reducible refine(HX'.out _ HB.out.below).mono ?_);rintro e w2 ⟨rfl,hb⟩;replace HB:=Aside0.mk (HB.out.step hb);clear hb;obtain⟨c0,c1⟩:=box2 HB.out.blk;obtain⟨f0,f1⟩:=free2 HB.out.blk;obtain⟨d0,d1⟩:=box2 HB.out.blk2)
                  exact bodyPost_ret (v:=.tuple #[.agg #[.int .i64 1,.int .i64 v],.bool true]) (by simp[results,Tryd.results26,go_sem,c0,c1]) rfl ⟨by rw[readV_of (HXX.out.symm.trans HV.out) h0],by repeat(first|exact HB.out.below|apply below_set0)⟩
                · have e2 : (X.toList == s.toList) = false := by
                    rw[toListD,toListD,beq_eq_false_iff_ne];intro h;exact hv (Go.WideShapes.bytes_inj h)
                  have HV:=Aside0.mk hv;clear hv;go_wp2_with (go_at_call 19;(with_reducible refine(HX'.out _ HB.out.below).mono ?_);rintro e w2 ⟨rfl,hb⟩;replace HB:=Aside0.mk (HB.out.step hb);clear hb)
                  go_roundg (gk-1)
                  case measure=>omega
                  case rel=>
                    refine⟨_,by omega,by omega,by omega,rfl,⟨none_step HP.out fun n hn e=> ?_⟩,⟨HB.out.1⟩⟩
                    obtain⟨_,_,_,h3,h4,h5⟩:=tail_of (by omega) hn e
                    have:=HO.out;rw[h3,atoi_back n h4 h5]at this
                    injection this with this
                    subst this;exact HV.out (HXX.out.trans e)
              · have hno: ∀v,Lib.atoiAll (s.extract 1 s.size).data.toList≠ .ok v:=fun v h=>ho ⟨v,h⟩
                refine(atoi_no (s.extract 1 s.size) _ ht (HE.out.below (HB.out.drewN _).below) hno).mono ?_
                rintro e w1 ⟨v,N,rfl,hb⟩
                replace HB:=Aside0.mk ((HB.out.drewN _).step hb);have HO:=Aside0.mk hno;clear hb ho hno ht e1;go_wp2
                go_roundg (gk-1)
                case measure=>omega
                case rel=>
                  refine⟨_,by omega,by omega,by omega,rfl,⟨none_step HP.out fun n hn e=> ?_⟩,⟨HB.out.alloc _⟩⟩
                  obtain⟨_,_,_,h3,h4,h5⟩:=tail_of (by omega) hn e
                  exact HO.out n (by rw[h3,atoi_back n h4 h5])
            · have e1 : ((s[0].toNat : Int) != (((⟨#[110, 97, 114]⟩ : ByteArray)[0]'(by decide)).toNat : Int)) = true := by
                simp only[bne_iff_ne,ne_eq];intro h;exact hb (UInt8.toNat_inj.1 (Int.ofNat_inj.1 h))
              have HQ:=Aside0.mk hb;clear hb;go_quiet (fail)
              go_wp2
              go_roundg (gk-1)
              case measure=>omega
              case rel=>
                exact⟨_,by omega,by omega,by omega,rfl,⟨none_step HP.out fun n hn e=>by obtain⟨_,_,h2,_⟩:=tail_of (by omega) hn e;exact HQ.out h2⟩,⟨HB.out.drewN _⟩⟩
        · go_upto_region 6 with (fail)
          by_cases hl:s.size<2
          · have l1:decide ((s.size:Int)<2)=true:=decide_eq_true (by omega)
            have HL:=Aside0.mk hl;clear hl;go_quiet (fail)
            go_wp2
            go_roundg (gk-1)
            case measure=>omega
            case rel=>
              exact⟨_,by omega,by omega,by omega,rfl,⟨none_step HP.out fun n hn e=>by obtain⟨_,h2,_⟩:=tail_of (by omega) hn e;have:=HL.out;omega⟩,⟨HB.out.drewN _⟩⟩
          · have l1:decide ((s.size:Int)<2)=false:=decide_eq_false (by omega)
            have h0:0<s.size:=by omega
            have h0z:(0:Int)<(s.size:Int):=by omega
            clear hl;by_cases hb:s[0]=97
            · have e1:((s[0].toNat:Int) !=(((⟨#[110,97,114]⟩:ByteArray)[1]'(by decide)).toNat:Int))=false:=by rw[hb];rfl
              clear hb;go_quiet (fail)
              go_wp2_with fail
              have ht:(s.extract 1 s.size).size≤1048576:=by rw[ByteArray.size_extract];omega
              by_cases ho: ∃v,Lib.atoiAll (s.extract 1 s.size).data.toList= .ok v
              · obtain⟨v,ho⟩:=ho
                refine(atoi_yes (s.extract 1 s.size) v _ ht ho).mono ?_
                rintro e w1 ⟨rfl,hb⟩
                have HO:=Aside0.mk ho;replace HB:=Aside0.mk (Hold2.new ((HB.out.drewN _).step hb) (.cells #[.int .i64 2,.int .i64 v] 25));clear hb ho ht e1;have HX: ∀W,Below w.heap.size w W→Calls Tryd.prog 19 #[.agg #[.int .i64 2,.int .i64 v]] W fun e w'=>e= .returned (.string (vtext 2 v))∧Below W.heap.size W w':=fun W hW=>impl_ValText_any 2 v W (HT.out.below hW)
                obtain⟨X,hX⟩: ∃X,X=vtext 2 v:=⟨_,rfl⟩;rw[←hX]at HX
                have HXX:=Aside0.mk hX;have HX':=Aside0.mk HX;clear HX hX;by_cases hv:X=s
                · have e2:(X.toList==s.toList)=true:=by rw[hv];simp
                  have HV:=Aside0.mk hv;clear hv;go_wp2_with (go_at_call 19;(with_reducible refine(HX'.out _ HB.out.below).mono ?_);rintro e w2 ⟨rfl,hb⟩;replace HB:=Aside0.mk (HB.out.step hb);clear hb;obtain⟨c0,c1⟩:=box2 HB.out.blk;obtain⟨f0,f1⟩:=free2 HB.out.blk;obtain⟨d0,d1⟩:=box2 HB.out.blk2)
                  exact bodyPost_ret (v:=.tuple #[.agg #[.int .i64 2,.int .i64 v],.bool true]) (by simp[results,Tryd.results26,go_sem,c0,c1]) rfl ⟨by rw[readV_of (HXX.out.symm.trans HV.out) h0],by repeat(first|exact HB.out.below|apply below_set0)⟩
                · have e2 : (X.toList == s.toList) = false := by
                    rw[toListD,toListD,beq_eq_false_iff_ne];intro h;exact hv (Go.WideShapes.bytes_inj h)
                  have HV:=Aside0.mk hv;clear hv;go_wp2_with (go_at_call 19;(with_reducible refine(HX'.out _ HB.out.below).mono ?_);rintro e w2 ⟨rfl,hb⟩;replace HB:=Aside0.mk (HB.out.step hb);clear hb)
                  go_roundg (gk-1)
                  case measure=>omega
                  case rel=>
                    refine⟨_,by omega,by omega,by omega,rfl,⟨none_step HP.out fun n hn e=> ?_⟩,⟨HB.out.1⟩⟩
                    obtain⟨_,_,_,h3,h4,h5⟩:=tail_of (by omega) hn e
                    have:=HO.out;rw[h3,atoi_back n h4 h5]at this
                    injection this with this
                    subst this;exact HV.out (HXX.out.trans e)
              · have hno: ∀v,Lib.atoiAll (s.extract 1 s.size).data.toList≠ .ok v:=fun v h=>ho ⟨v,h⟩
                refine(atoi_no (s.extract 1 s.size) _ ht (HE.out.below (HB.out.drewN _).below) hno).mono ?_
                rintro e w1 ⟨v,N,rfl,hb⟩
                replace HB:=Aside0.mk ((HB.out.drewN _).step hb);have HO:=Aside0.mk hno;clear hb ho hno ht e1;go_wp2
                go_roundg (gk-1)
                case measure=>omega
                case rel=>
                  refine⟨_,by omega,by omega,by omega,rfl,⟨none_step HP.out fun n hn e=> ?_⟩,⟨HB.out.alloc _⟩⟩
                  obtain⟨_,_,_,h3,h4,h5⟩:=tail_of (by omega) hn e
                  exact HO.out n (by rw[h3,atoi_back n h4 h5])
            · have e1 : ((s[0].toNat : Int) != (((⟨#[110, 97, 114]⟩ : ByteArray)[1]'(by decide)).toNat : Int)) = true := by
                simp only[bne_iff_ne,ne_eq];intro h;exact hb (UInt8.toNat_inj.1 (Int.ofNat_inj.1 h))
              have HQ:=Aside0.mk hb;clear hb;go_quiet (fail)
              go_wp2
              go_roundg (gk-1)
              case measure=>omega
              case rel=>
                exact⟨_,by omega,by omega,by omega,rfl,⟨none_step HP.out fun n hn e=>by obtain⟨_,_,h2,_⟩:=tail_of (by omega) hn e;exact HQ.out h2⟩,⟨HB.out.drewN _⟩⟩
        · go_upto_region 6 with (fail)
          by_cases hl:s.size<2
          · have l1:decide ((s.size:Int)<2)=true:=decide_eq_true (by omega)
            have HL:=Aside0.mk hl;clear hl;go_quiet (fail)
            go_wp2
            go_roundg (gk-1)
            case measure=>omega
            case rel=>
              exact⟨_,by omega,by omega,by omega,rfl,⟨none_step HP.out fun n hn e=>by obtain⟨_,h2,_⟩:=tail_of (by omega) hn e;have:=HL.out;omega⟩,⟨HB.out.drewN _⟩⟩
          · have l1:decide ((s.size:Int)<2)=false:=decide_eq_false (by omega)
            have h0:0<s.size:=by omega
            have h0z:(0:Int)<(s.size:Int):=by omega
            clear hl;by_cases hb:s[0]=114
            · have e1:((s[0].toNat:Int) !=(((⟨#[110,97,114]⟩:ByteArray)[2]'(by decide)).toNat:Int))=false:=by rw[hb];rfl
              clear hb;go_quiet (fail)
              go_wp2_with fail
              have ht:(s.extract 1 s.size).size≤1048576:=by rw[ByteArray.size_extract];omega
              by_cases ho: ∃v,Lib.atoiAll (s.extract 1 s.size).data.toList= .ok v
              · obtain⟨v,ho⟩:=ho
                refine(atoi_yes (s.extract 1 s.size) v _ ht ho).mono ?_
                rintro e w1 ⟨rfl,hb⟩
                have HO:=Aside0.mk ho;replace HB:=Aside0.mk (Hold2.new ((HB.out.drewN _).step hb) (.cells #[.int .i64 3,.int .i64 v] 25));clear hb ho ht e1;have HX: ∀W,Below w.heap.size w W→Calls Tryd.prog 19 #[.agg #[.int .i64 3,.int .i64 v]] W fun e w'=>e= .returned (.string (vtext 3 v))∧Below W.heap.size W w':=fun W hW=>impl_ValText_any 3 v W (HT.out.below hW)
                obtain⟨X,hX⟩: ∃X,X=vtext 3 v:=⟨_,rfl⟩;rw[←hX]at HX
                have HXX:=Aside0.mk hX;have HX':=Aside0.mk HX;clear HX hX;by_cases hv:X=s
                · have e2:(X.toList==s.toList)=true:=by rw[hv];simp
                  have HV:=Aside0.mk hv;clear hv;go_wp2_with (go_at_call 19;(with_reducible refine(HX'.out _ HB.out.below).mono ?_);rintro e w2 ⟨rfl,hb⟩;replace HB:=Aside0.mk (HB.out.step hb);clear hb;obtain⟨c0,c1⟩:=box2 HB.out.blk;obtain⟨f0,f1⟩:=free2 HB.out.blk;obtain⟨d0,d1⟩:=box2 HB.out.blk2)
                  exact bodyPost_ret (v:=.tuple #[.agg #[.int .i64 3,.int .i64 v],.bool true]) (by simp[results,Tryd.results26,go_sem,c0,c1]) rfl ⟨by rw[readV_of (HXX.out.symm.trans HV.out) h0],by repeat(first|exact HB.out.below|apply below_set0)⟩
                · have e2 : (X.toList == s.toList) = false := by
                    rw[toListD,toListD,beq_eq_false_iff_ne];intro h;exact hv (Go.WideShapes.bytes_inj h)
                  have HV:=Aside0.mk hv;clear hv;go_wp2_with (go_at_call 19;(with_reducible refine(HX'.out _ HB.out.below).mono ?_);rintro e w2 ⟨rfl,hb⟩;replace HB:=Aside0.mk (HB.out.step hb);clear hb)
                  go_roundg (gk-1)
                  case measure=>omega
                  case rel=>
                    refine⟨_,by omega,by omega,by omega,rfl,⟨none_step HP.out fun n hn e=> ?_⟩,⟨HB.out.1⟩⟩
                    obtain⟨_,_,_,h3,h4,h5⟩:=tail_of (by omega) hn e
                    have:=HO.out;rw[h3,atoi_back n h4 h5]at this
                    injection this with this
                    subst this;exact HV.out (HXX.out.trans e)
              · have hno: ∀v,Lib.atoiAll (s.extract 1 s.size).data.toList≠ .ok v:=fun v h=>ho ⟨v,h⟩
                refine(atoi_no (s.extract 1 s.size) _ ht (HE.out.below (HB.out.drewN _).below) hno).mono ?_
                rintro e w1 ⟨v,N,rfl,hb⟩
                replace HB:=Aside0.mk ((HB.out.drewN _).step hb);have HO:=Aside0.mk hno;clear hb ho hno ht e1;go_wp2
                go_roundg (gk-1)
                case measure=>omega
                case rel=>
                  refine⟨_,by omega,by omega,by omega,rfl,⟨none_step HP.out fun n hn e=> ?_⟩,⟨HB.out.alloc _⟩⟩
                  obtain⟨_,_,_,h3,h4,h5⟩:=tail_of (by omega) hn e
                  exact HO.out n (by rw[h3,atoi_back n h4 h5])
            · have e1 : ((s[0].toNat : Int) != (((⟨#[110, 97, 114]⟩ : ByteArray)[2]'(by decide)).toNat : Int)) = true := by
                simp only[bne_iff_ne,ne_eq];intro h;exact hb (UInt8.toNat_inj.1 (Int.ofNat_inj.1 h))
              have HQ:=Aside0.mk hb;clear hb;go_quiet (fail)
              go_wp2
              go_roundg (gk-1)
              case measure=>omega
              case rel=>
                exact⟨_,by omega,by omega,by omega,rfl,⟨none_step HP.out fun n hn e=>by obtain⟨_,_,h2,_⟩:=tail_of (by omega) hn e;exact HQ.out h2⟩,⟨HB.out.drewN _⟩⟩
      · obtain⟨c0,c1⟩:=box2 HB.out.blk
        obtain⟨f0,f1⟩:=free2 HB.out.blk;go_wp2
        exact bodyPost_ret (v:=.tuple #[.agg #[.int .i64 0,.int .i64 0],.bool false]) (by simp[results,Tryd.results26,go_sem,c0,c1]) rfl ⟨by rw[none_all HP.out HN.out],by repeat(first|exact HB.out.below|apply below_set0)⟩
def TabErrs (w:World):Prop:=Tab w∧Errs w
abbrev l32:String×DataW Unit:=("math/bits.deBruijn32tab",Rows.laid_math_bits_deBruijn32tab)
abbrev l64:String×DataW Unit:=("math/bits.deBruijn64tab",Rows.laid_math_bits_deBruijn64tab)
abbrev lpow:String×DataW Unit:=("internal/strconv.uint64pow10",Rows.laid_internal_strconv_uint64pow10)
theorem tab_of {r:List (String×DataW Unit)} {W:World} (h:laidMet Tryd.prog (l32::l64::lpow::r) W):Tab W:=by
  have h2:=laidMet.tail h;have h3:=laidMet.tail h2;have e:(Rows.laid_internal_strconv_uint64pow10:DataW Unit)=Lib.tabData .u64 Lib.pow10Tab:=by kernel_rfl
  unfold lpow at h3;rw[e]at h3
  refine⟨Lib.tabIs_of_head (g:=2) (t:=133) (e:=116) (n:=20) (by kernel_rfl) (by kernel_rfl) (by kernel_rfl) (by kernel_rfl) (by kernel_rfl) (by kernel_rfl) h3,?_⟩
  obtain⟨ps,⟨g,t,cs,fuel,p,q,hg,ht,hv,_⟩,_⟩:=h2;have hg7:Tryd.prog.globalNamed "math/bits.deBruijn64tab" =some 7:=by kernel_rfl
  obtain rfl:=Option.some.inj (hg7.symm.trans hg);unfold World.var? at hv;rw[hg7]at hv
  simp only[Option.bind_some]at hv
  rcases Nat.lt_or_ge 7 W.heap.size with h'|h'
  · exact h'
  · simp[Array.getElem?_eq_none h']at hv
end Go.Proofs.YtmklpbmlgjkbiaaDoor.PS
end
section
namespace Go.Proofs.YtmklpbmlgjkbiaaDoor.PS
open Go.RowKit Go.ChangeShapes Go.Proofs.YtmklpbmlgjkbiaaDoorW.PrintWords Go.Proofs.YtmklpbmlgjkbiaaDoorW.PrintLast
abbrev lRange:String×DataW Unit:=("strconv.ErrRange",Rows.laid_strconv_ErrRange)
abbrev lSyntax:String×DataW Unit:=("strconv.ErrSyntax",Rows.laid_strconv_ErrSyntax)
abbrev laid5:List (String×DataW Unit):=[l32,l64,lpow,lRange,lSyntax]
theorem star: "*" ++ "errors.errorString" = "*errors.errorString" :=by decide
theorem rowErr (u:TypeId) (h:Tryd.prog.typeName? 3 u=some "*errors.errorString"):u=138:=
  typeName_ptr_named (nm:= "errors.errorString") (by rw[star];kernel_rfl) (by kernel_rfl) (by decide) u (by rw[star];exact h)
theorem errs_of {r r':List (String×DataW Unit)} {W:World} (h0:laidMet Tryd.prog (lRange::r) W) (h1:laidMet Tryd.prog (lSyntax::r') W) (h8:8≤W.heap.size):Errs W:=by
  have g0:Tryd.prog.globalNamed "strconv.ErrSyntax" =some 0:=by kernel_rfl
  have g1:Tryd.prog.globalNamed "strconv.ErrRange" =some 1:=by kernel_rfl
  obtain⟨a0,s0,v0, -⟩:=laid_sentinel (tp:=138) h1 g0 (ti:=72) (by kernel_rfl) Tryd.underlying72 rowErr Tryd.underlying138 Tryd.underlying140 rfl rfl Tryd.underlying9 (by kernel_rfl) (by kernel_rfl)
  obtain⟨a1,s1,v1, -⟩:=laid_sentinel (tp:=138) h0 g1 (ti:=72) (by kernel_rfl) Tryd.underlying72 rowErr Tryd.underlying138 Tryd.underlying140 rfl rfl Tryd.underlying9 (by kernel_rfl) (by kernel_rfl)
  exact⟨⟨_,_,by rw[World.var?_cell g0 v0 0];rfl⟩,⟨_,_,by rw[World.var?_cell g1 v1 0];rfl⟩,h8⟩
theorem door_met5 (os:Os) (args:Array Value):laidMetH Tryd.prog laid5 ((World.doorLaid Tryd.prog 400 os).forCall (fun _ _=>0) ⟨#[],args,[]⟩).memory:=
  laidMetH_of_parts3 (fuel:=8) (laidMet_of_run' 8 (by kernel_rfl) (by kernel_rfl)) (by kernel_rfl) (by kernel_rfl)
theorem facts5 {W:World} (h:laidMetH Tryd.prog laid5 W):TabErrs W:=by
  have h:laidMet Tryd.prog laid5 W:=by rwa [MakeChecks.laidMetH_plain _ _ _ (by kernel_rfl)]at h
  have ht:=tab_of h;have h3:=laidMet.tail (laidMet.tail (laidMet.tail h));exact⟨ht,errs_of h3 (laidMet.tail h3) ht.2⟩
end Go.Proofs.YtmklpbmlgjkbiaaDoor.PS
end
section
namespace Go.Proofs.YtmklpbmlgjkbiaaDoor.PS
open Go.RowKit Go.ChangeShapes Go.WideShapes Go.ChangeAt Go.Proofs.YtmklpbmlgjkbiaaDoorW.PrintWords Go.Proofs.YtmklpbmlgjkbiaaDoorW.PrintLast
theorem bytes_open {H:Type} {enc:TypeId×Value→H} {W:World} {base:Nat} {held:Bool} {a:Option Addr} {len cap:Nat} {d:DataW H} {p:List MemPlace}
    (h:DataW.Trod enc Tryd.prog W base (fun _=>true) held 28 (.slice a len cap) d p):
    ∃l:List Int,len=l.length∧Kd.C (Kd.int .u8) W a l.length l∧l.length≤cap∧ ∀x∈l,(Lit.int .u8 x).wf=true:=by
  have hr: ∃zs:List Int,(a=none∧len=0∧cap=0∧zs=[])∨ ∃x,a=some x∧len≤cap∧cap≤maxLen∧zs.length=cap∧(∀i,i<zs.length→W.cell? (x.add i)=some (.int .u8 (zs.getD i 0)))∧ ∀n∈zs,(Lit.int .u8 n).wf=true:=by
    obtain⟨fuel,hf⟩:=h;rcases open_ints Tryd.underlying28 Tryd.underlying5 (by kernel_rfl) hf with ⟨hcs,_⟩|⟨x,l,c,zs,hcs,_,hl,hm,hz,_,hcell,hwz⟩
    · simp[Value.cells]at hcs
      obtain⟨rfl,rfl,rfl⟩:=hcs;exact⟨[],.inl ⟨rfl,rfl,rfl,rfl⟩⟩
    · simp[Value.cells]at hcs
      obtain⟨rfl,rfl,rfl⟩:=hcs;exact⟨zs,.inr ⟨_,rfl,hl,hm,by simpa using hz,hcell,hwz⟩⟩
  obtain⟨zs,hr⟩:=hr;obtain⟨l,e,hr0,hm0,hw0,hc0⟩:=ReadsInt.ofRowC hr;subst e;exact⟨l,rfl,Kd.C_of_reads (d:=(0:Int)) (h1:=fun _=>rfl) hr0,hc0,hw0⟩
end Go.Proofs.YtmklpbmlgjkbiaaDoor.PS
end
section
namespace Go.Proofs.YtmklpbmlgjkbiaaDoor.PS
open Go.RowKit Go.Proofs.YtmklpbmlgjkbiaaDoorW.PrintWords Go.Proofs.YtmklpbmlgjkbiaaDoorW.PrintLast
def RD (w0 w:World) (g N:Nat):Prop:= ∃b p,Bytes b∧IsS95 w0 w g b p∧0≤p∧p≤(N:Int)∧Below w0.heap.size w0 w
theorem RD.step {w0 w w':World} {g N:Nat} (h:RD w0 w g N) (hb:Below w.heap.size w w'):RD w0 w' g N:=by
  obtain⟨b,p,h1,h2,h3,h4,h5⟩:=h;exact⟨b,p,h1,h2.below hb,h3,h4,below_step h5 hb⟩
theorem RD.below {w0 w:World} {g N:Nat} (h:RD w0 w g N):Below w0.heap.size w0 w:=by
  obtain⟨b,p,h1,h2,h3,h4,h5⟩:=h;exact h5
theorem RD.alloc {w0 w:World} {g N:Nat} (h:RD w0 w g N) (o:Obj):RD w0 (w.alloc o) g N:=h.step (below_alloc (Below.refl _ _) o)
theorem RD.drew {w0 w:World} {g N:Nat} (h:RD w0 w g N):RD w0 w.drew g N:=h.step (below_drew1 (Below.refl _ _))
theorem RD.drewN {w0 w:World} {g N:Nat} (h:RD w0 w g N) (n:Nat):RD w0 (w.drewN n) g N:=h.step (pw_below_drewN (Below.refl _ _) n)
end Go.Proofs.YtmklpbmlgjkbiaaDoor.PS
end
