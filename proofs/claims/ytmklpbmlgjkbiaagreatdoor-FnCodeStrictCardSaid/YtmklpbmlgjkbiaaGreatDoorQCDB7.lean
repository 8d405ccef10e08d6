/- What the rows of CDB rest on, part 8. -/
import Derived.Test.YtmklpbmlgjkbiaaGreatDoorRows
import Derived.Stop.LaidErr
import Derived.Lib.LaidTab
import Derived.LaidMore
import Derived.MakeChecks
import Derived.ProofKit
import Derived.Handed
import Derived.HandedShaped
import Derived.Shelf.Vars
import Derived.Lay
import Derived.OpenShut
import Derived.ChangeOld
import GoSem.ClaimJoined
import Derived.JoinedOf
import Derived.Test.YtmklpbmlgjkbiaaGreatDoorQCDB6
set_option linter.unusedVariables false
set_option linter.unusedSimpArgs false
set_option maxHeartbeats 8000000
set_option maxRecDepth 100000
section
namespace Go.Proofs.YtmklpbmlgjkbiaaGreatDoor.PS
open Go.RowKit Go.Proofs.YtmklpbmlgjkbiaaGreatDoorW.PrintWords Go.Proofs.YtmklpbmlgjkbiaaGreatDoorW.PrintLast
abbrev l32:String×DataW Unit:=("math/bits.deBruijn32tab",Rows.laid_math_bits_deBruijn32tab)
abbrev l64:String×DataW Unit:=("math/bits.deBruijn64tab",Rows.laid_math_bits_deBruijn64tab)
abbrev lpow:String×DataW Unit:=("internal/strconv.uint64pow10",Rows.laid_internal_strconv_uint64pow10)
theorem tab_of {r:List (String×DataW Unit)} {W:World} (h:laidMet Tryz.prog (l32::l64::lpow::r) W):Tab W:=by
  have h2:=laidMet.tail h;have h3:=laidMet.tail h2;have e:(Rows.laid_internal_strconv_uint64pow10:DataW Unit)=Lib.tabData .u64 Lib.pow10Tab:=by kernel_rfl
  unfold lpow at h3;rw[e]at h3
  refine⟨Lib.tabIs_of_head (g:=3) (t:=138) (e:=117) (n:=20) (by kernel_rfl) (by kernel_rfl) (by kernel_rfl) (by kernel_rfl) (by kernel_rfl) (by kernel_rfl) h3,?_⟩
  obtain⟨ps,⟨g,t,cs,fuel,p,q,hg,ht,hv,_⟩,_⟩:=h2;have hg7:Tryz.prog.globalNamed "math/bits.deBruijn64tab" =some 7:=by kernel_rfl
  obtain rfl:=Option.some.inj (hg7.symm.trans hg);unfold World.var? at hv;rw[hg7]at hv
  simp only[Option.bind_some]at hv
  rcases Nat.lt_or_ge 7 W.heap.size with h'|h'
  · exact h'
  · simp[Array.getElem?_eq_none h']at hv
end Go.Proofs.YtmklpbmlgjkbiaaGreatDoor.PS
end
section
namespace Go.Proofs.YtmklpbmlgjkbiaaGreatDoor.PS
open Go.RowKit Go.ChangeShapes Go.Proofs.YtmklpbmlgjkbiaaGreatDoorW.PrintWords Go.Proofs.YtmklpbmlgjkbiaaGreatDoorW.PrintLast
abbrev lRange:String×DataW Unit:=("strconv.ErrRange",Rows.laid_strconv_ErrRange)
abbrev lSyntax:String×DataW Unit:=("strconv.ErrSyntax",Rows.laid_strconv_ErrSyntax)
theorem star: "*" ++ "errors.errorString" = "*errors.errorString" :=by decide
theorem rowErr (u:TypeId) (h:Tryz.prog.typeName? 3 u=some "*errors.errorString"):u=132:=
  typeName_ptr_named (nm:= "errors.errorString") (by rw[star];kernel_rfl) (by kernel_rfl) (by decide) u (by rw[star];exact h)
theorem errs_of {r r':List (String×DataW Unit)} {W:World} (h0:laidMet Tryz.prog (lRange::r) W) (h1:laidMet Tryz.prog (lSyntax::r') W) (h8:8≤W.heap.size):Errs W:=by
  have g0:Tryz.prog.globalNamed "strconv.ErrSyntax" =some 1:=by kernel_rfl
  have g1:Tryz.prog.globalNamed "strconv.ErrRange" =some 2:=by kernel_rfl
  obtain⟨a0,s0,v0, -⟩:=laid_sentinel (tp:=132) h1 g0 (ti:=54) (by kernel_rfl) Tryz.underlying54 rowErr Tryz.underlying132 Tryz.underlying134 rfl rfl Tryz.underlying9 (by kernel_rfl) (by kernel_rfl)
  obtain⟨a1,s1,v1, -⟩:=laid_sentinel (tp:=132) h0 g1 (ti:=54) (by kernel_rfl) Tryz.underlying54 rowErr Tryz.underlying132 Tryz.underlying134 rfl rfl Tryz.underlying9 (by kernel_rfl) (by kernel_rfl)
  exact⟨⟨_,_,by rw[World.var?_cell g0 v0 0];rfl⟩,⟨_,_,by rw[World.var?_cell g1 v1 0];rfl⟩,h8⟩
end Go.Proofs.YtmklpbmlgjkbiaaGreatDoor.PS
end
section
namespace Go.Proofs.YtmklpbmlgjkbiaaGreatDoor.PS
open Go
variable {H:Type} {enc:TypeId×Value→H}
theorem ret_and_shaped {a:Assume} {C:Checked} {os:Os} {f:FuncId} {fn:Func} {s:ChangeSpec} {conds:List PathCond} {apart fresh handsOn again:Bool} {X:World→Array Value→Prop}
    (hX: ∀ (w w':World) (args:Array Value),w.heap=w'.heap→X w args→X w' args)
    (own:ownKnob C.prog.godebug=none) (started:os.Started) (noInit:C.prog.inits.idxOf? f=none) (hfn:C.prog.funcs[f]?=some fn)
    (witness: ∃ (w:World) (tape:Tape) (i:Input),w.os=os∧(w.forCall tape i).Shaped C.prog∧i.vars=[]∧Input.okWide C.prog (w.forCall tape i) .any w.heap.size f i∧
      ((s.pre enc C.prog fn conds apart (w.forCall tape i).memory i.args∧X (w.forCall tape i).memory i.args)∧sizedMet enc C.prog fn (OpenSpec.ofChange s) apart (w.forCall tape i).memory i.args)∧a.holds C.prog (lone (Frame.enter C.prog f i.args .normal) [] (w.forCall tape i)))
    (contract: ∀ (W:World) (base:Nat) (args:Array Value) (ds gs:List (DataW H)) (before:List MemPlace),
      (∀ (j:Nat) t v,fn.params[j]?=some t→args[j]?=some v→Value.okWide C.prog W .any base t v)→
      DataW.Whole enc C.prog fn.params.toList s.vars apart W args.toList ds gs before→
      W.ShapedOpen C.prog→X W args→
      Calls C.prog f args W fun e W'=> ∃v,e= .returned v∧s.post enc C.prog fn apart fresh handsOn again W args v W'):
    ReturnsInHanded a C os f .any (fun w args=>(s.pre enc C.prog fn conds apart w args∧X w args)∧sizedMet enc C.prog fn (OpenSpec.ofChange s) apart w args) (s.post enc C.prog fn apart fresh handsOn again):=by
  refine returnsInHanded_of_calls own started noInit witness ?_
  intro w tape i _ hsh _ hok hpre _;obtain⟨_,_,_,fn',hfn',_,_,_,_,hval⟩:=hok;have e:fn'=fn:=Option.some.inj (hfn'.symm.trans hfn);subst e;obtain⟨⟨⟨ds,gs,before,hw,_⟩,hx⟩,_⟩:=hpre;have hw':=DataW.Whole.of_heap (w':=w.forCall tape i) (by rfl) hw
  refine(contract (w.forCall tape i) w.heap.size i.args ds gs before hval hw' hsh (hX _ _ _ (by rfl) hx)).mono fun e W' ⟨v,he,hp⟩=> ?_
  subst he;exact ChangeSpec.post_blind hp
theorem max_cell {W:World} (h:W.ShapedOpen Tryz.prog): ∃m,W.cell? ⟨0,0,none⟩=some (.int .i64 m):=
  cell_of_shapedOpen_int (t:=3) (zero:= #[.int .i64 0]) h (by decide+kernel) (by kernel_rfl) (by rfl) (by kernel_rfl) (by kernel_rfl) Tryz.underlying3
end Go.Proofs.YtmklpbmlgjkbiaaGreatDoor.PS
end
section
namespace Go.Proofs.YtmklpbmlgjkbiaaGreatDoor.PS
open Go.RowKit Go.ChangeShapes Go.Proofs.YtmklpbmlgjkbiaaGreatDoorW.PrintWords Go.Proofs.YtmklpbmlgjkbiaaGreatDoorW.PrintLast
abbrev lAcc:String×DataW Unit:=("unicode/utf8.acceptRanges",Rows.laid_unicode_utf8_acceptRanges)
abbrev lFirst:String×DataW Unit:=("unicode/utf8.first",Rows.laid_unicode_utf8_first)
abbrev laid7:List (String×DataW Unit):=[l32,l64,lpow,lAcc,lRange,lSyntax,lFirst]
theorem plain7 (W:World):laidMetH Tryz.prog laid7 W→laidMet Tryz.prog laid7 W:=fun h=>by
  rwa [MakeChecks.laidMetH_plain _ _ _ (by kernel_rfl)]at h
theorem door_met7 (os:Os) (args:Array Value):laidMetH Tryz.prog laid7 ((World.laidAll Tryz.prog os laid7).forCall (fun _ _=>0) ⟨#[],args,[]⟩).memory:=by
  rw[MakeChecks.laidMetH_plain _ _ _ (by kernel_rfl)]
  exact laidMet_laidAll _ (by kernel_rfl) (by kernel_rfl)
theorem facts7 {W:World} (h:laidMetH Tryz.prog laid7 W) (hsh:W.ShapedOpen Tryz.prog):Env W:=by
  have h:=plain7 W h;have ht:=tab_of h;have h4:=laidMet.tail (laidMet.tail (laidMet.tail (laidMet.tail h)));exact⟨⟨ht,errs_of h4 (laidMet.tail h4) ht.2⟩,max_cell hsh⟩
end Go.Proofs.YtmklpbmlgjkbiaaGreatDoor.PS
end
section
namespace Go.Proofs.YtmklpbmlgjkbiaaGreatDoor.PS
open Go.RowKit Go.ChangeShapes Go.WideShapes Go.ChangeAt Go.Proofs.YtmklpbmlgjkbiaaGreatDoorW.PrintWords Go.Proofs.YtmklpbmlgjkbiaaGreatDoorW.PrintLast
theorem bytes_open {H:Type} {enc:TypeId×Value→H} {W:World} {base:Nat} {held:Bool} {a:Option Addr} {len cap:Nat} {d:DataW H} {p:List MemPlace}
    (h:DataW.Trod enc Tryz.prog W base (fun _=>true) held 28 (.slice a len cap) d p):
    ∃l:List Int,len=l.length∧Kd.C (Kd.int .u8) W a l.length l∧l.length≤cap∧ ∀x∈l,(Lit.int .u8 x).wf=true:=by
  have hr: ∃zs:List Int,(a=none∧len=0∧cap=0∧zs=[])∨ ∃x,a=some x∧len≤cap∧cap≤maxLen∧zs.length=cap∧(∀i,i<zs.length→W.cell? (x.add i)=some (.int .u8 (zs.getD i 0)))∧ ∀n∈zs,(Lit.int .u8 n).wf=true:=by
    obtain⟨fuel,hf⟩:=h;rcases open_ints Tryz.underlying28 Tryz.underlying5 (by kernel_rfl) hf with ⟨hcs,_⟩|⟨x,l,c,zs,hcs,_,hl,hm,hz,_,hcell,hwz⟩
    · simp[Value.cells]at hcs
      obtain⟨rfl,rfl,rfl⟩:=hcs;exact⟨[],.inl ⟨rfl,rfl,rfl,rfl⟩⟩
    · simp[Value.cells]at hcs
      obtain⟨rfl,rfl,rfl⟩:=hcs;exact⟨zs,.inr ⟨_,rfl,hl,hm,by simpa using hz,hcell,hwz⟩⟩
  obtain⟨zs,hr⟩:=hr;obtain⟨l,e,hr0,hm0,hw0,hc0⟩:=ReadsInt.ofRowC hr;subst e;exact⟨l,rfl,Kd.C_of_reads (d:=(0:Int)) (h1:=fun _=>rfl) hr0,hc0,hw0⟩
end Go.Proofs.YtmklpbmlgjkbiaaGreatDoor.PS
end
section
namespace Go.Proofs.YtmklpbmlgjkbiaaGreatDoor.Facts
theorem headIs {ws:List (List Char)} {c:List Char} (h:(behindMainWord ws).head?=some c): ∃rest,behindMainWord ws=c::rest:=by
  cases hb:behindMainWord ws with
  |nil=>rw[hb]at h;cases h
  |cons a r=>rw[hb]at h;cases h;exact⟨r,rfl⟩
theorem signs {s:String} {l:List Char} {c:List Char} (h:s=String.ofList l) (k:(behindMainWord (wordsSigns l)).head?=some c): ∃rest,behindMainWord (wordsSigns s.toList)=c::rest:=by
  subst h;rw[String.toList_ofList];exact headIs k
theorem cutHead: ∃rest,behindMainWord (wordsSigns Tryz.prog.initOrder.toList)= "cut".toList::rest:=by
  show∃rest,behindMainWord (wordsSigns Tryz.progTables.initOrder.toList)= "cut".toList::rest
  unfold Tryz.progTables;exact signs rfl (by kernel_rfl)
theorem noLifts (rest:List (List Char)):stripLifts liftWords ("cut".toList::rest)=([], "cut".toList::rest):=by kernel_rfl
theorem made_of {P:Program} {rest:List (List Char)} (h:behindMainWord (wordsSigns P.initOrder.toList)= "cut".toList::rest):P.make=some .cut:=by
  unfold Program.make;rw[h];kernel_rfl
theorem may_of {P:Program} {rest:List (List Char)} (h:behindMainWord (wordsSigns P.initOrder.toList)= "cut".toList::rest)
    (h1:P.laysLater=false) (h2:P.bearsReflect=false) (h3:P.doorFits []=true):P.mayEnter=true:=by
  unfold Program.mayEnter;rw[h];simp only[noLifts,h1,h2,h3]
  kernel_rfl
theorem lifts_of {P:Program} {rest:List (List Char)} (h:behindMainWord (wordsSigns P.initOrder.toList)= "cut".toList::rest):P.liftsFinal=false:=by
  unfold Program.liftsFinal Program.headLifts;rw[h];kernel_rfl
theorem may:Tryz.prog.mayEnter=true:=by
  obtain⟨rest,h⟩:=cutHead;exact may_of h (by kernel_rfl) (by kernel_rfl) (by kernel_rfl)
theorem lifts:Tryz.prog.liftsFinal=false:=by
  obtain⟨rest,h⟩:=cutHead;exact lifts_of h
theorem made:Tryz.prog.make=some Make.cut:=by
  obtain⟨rest,h⟩:=cutHead;exact made_of h
theorem band {a b:Bool} (ha:a=true) (hb:b=true):(a&&b)=true:=by rw[ha,hb];rfl
theorem flifts {b:Bool} (h:(b==false)=true):(b==Tryz.prog.liftsFinal)=true:=by rw[lifts];exact h
theorem fmade {m:Make} (h:(some Make.cut==some m)=true):(Tryz.prog.make==some m)=true:=by rw[made];exact h
end Go.Proofs.YtmklpbmlgjkbiaaGreatDoor.Facts
end
section
namespace Go.Proofs.YtmklpbmlgjkbiaaGreatDoor.PS
open Go.RowKit Go.Proofs.YtmklpbmlgjkbiaaGreatDoorW.PrintWords Go.Proofs.YtmklpbmlgjkbiaaGreatDoorW.PrintLast
def Two (w w1 W:World) (v0 v1:Value) (l l1:List S39):Prop:=Kd.R k39 39 W w.heap.size (fun _=>True) v0 l∧Kd.R k39 39 W w1.heap.size (fun _=>True) v1 l1∧Below w1.heap.size w1 W∧Below w.heap.size w W
theorem Two.step {w w1 W W':World} {v0 v1:Value} {l l1:List S39} (h:Two w w1 W v0 v1 l l1) (hb:Below W.heap.size W W'):Two w w1 W' v0 v1 l l1:=
  ⟨Kd.R_below h.1 hb,Kd.R_below h.2.1 hb,below_step h.2.2.1 hb,below_step h.2.2.2 hb⟩
theorem Two.below {w w1 W:World} {v0 v1:Value} {l l1:List S39} (h:Two w w1 W v0 v1 l l1):Below w.heap.size w W:=h.2.2.2
end Go.Proofs.YtmklpbmlgjkbiaaGreatDoor.PS
end
