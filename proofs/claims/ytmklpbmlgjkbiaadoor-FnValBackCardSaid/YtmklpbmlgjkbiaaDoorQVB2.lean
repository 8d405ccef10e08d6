/- What the rows of VB rest on, part 3. -/
import Derived.Test.YtmklpbmlgjkbiaaDoorRows
import Derived.Stop.LaidErr
import Derived.Lib.LaidTab
import Derived.LaidMore
import Derived.MakeChecks
import Derived.ProofKit
import Derived.OpenShut
import Derived.ChangeOld
import Derived.Lib.AtoiErrMem
import Derived.Test.YtmklpbmlgjkbiaaDoorQVB1
set_option linter.unusedVariables false
set_option linter.unusedSimpArgs false
set_option maxHeartbeats 8000000
set_option maxRecDepth 100000
section
namespace Go.Proofs.YtmklpbmlgjkbiaaDoor.PS
open Go.RowKit Go.Proofs.YtmklpbmlgjkbiaaDoorW.PrintWords Go.Proofs.YtmklpbmlgjkbiaaDoorW.PrintLast
abbrev l32:String×DataW Unit:=("math/bits.deBruijn32tab",Rows.laid_math_bits_deBruijn32tab)
abbrev l64:String×DataW Unit:=("math/bits.deBruijn64tab",Rows.laid_math_bits_deBruijn64tab)
abbrev lpow:String×DataW Unit:=("internal/strconv.uint64pow10",Rows.laid_internal_strconv_uint64pow10)
theorem tab_of {r:List (String×DataW Unit)} {W:World} (h:laidMet Tryd.prog (l32::l64::lpow::r) W):Tab W:=by
  have h2:=laidMet.tail h;have h3:=laidMet.tail h2;have e:(Rows.laid_internal_strconv_uint64pow10:DataW Unit)=Lib.tabData .u64 Lib.pow10Tab:=by kernel_rfl
  unfold lpow at h3;rw[e]at h3
  refine⟨Lib.tabIs_of_head (g:=2) (t:=133) (e:=116) (n:=20) (by kernel_rfl) (by kernel_rfl) (by kernel_rfl) (by kernel_rfl) (by kernel_rfl) (by kernel_rfl) h3,?_⟩
  obtain⟨ps,⟨g,t,cs,fuel,p,q,hg,ht,hv,_⟩,_⟩:=h2;have hg7:Tryd.prog.globalNamed "math/bits.deBruijn64tab" =some 7:=by kernel_rfl
  obtain rfl:=Option.some.inj (hg7.symm.trans hg);unfold World.var? at hv;rw[hg7]at hv
  simp only[Option.bind_some]at hv
  rcases Nat.lt_or_ge 7 W.heap.size with h'|h'
  · exact h'
  · simp[Array.getElem?_eq_none h']at hv
end Go.Proofs.YtmklpbmlgjkbiaaDoor.PS
end
section
namespace Go.Proofs.YtmklpbmlgjkbiaaDoor.PS
open Go.RowKit Go.ChangeShapes Go.WideShapes Go.ChangeAt Go.Proofs.YtmklpbmlgjkbiaaDoorW.PrintWords Go.Proofs.YtmklpbmlgjkbiaaDoorW.PrintLast
theorem bytes_open {H:Type} {enc:TypeId×Value→H} {W:World} {base:Nat} {held:Bool} {a:Option Addr} {len cap:Nat} {d:DataW H} {p:List MemPlace}
    (h:DataW.Trod enc Tryd.prog W base (fun _=>true) held 28 (.slice a len cap) d p):
    ∃l:List Int,len=l.length∧Kd.C (Kd.int .u8) W a l.length l∧l.length≤cap∧ ∀x∈l,(Lit.int .u8 x).wf=true:=by
  have hr: ∃zs:List Int,(a=none∧len=0∧cap=0∧zs=[])∨ ∃x,a=some x∧len≤cap∧cap≤maxLen∧zs.length=cap∧(∀i,i<zs.length→W.cell? (x.add i)=some (.int .u8 (zs.getD i 0)))∧ ∀n∈zs,(Lit.int .u8 n).wf=true:=by
    obtain⟨fuel,hf⟩:=h;rcases open_ints Tryd.underlying28 Tryd.underlying5 (by kernel_rfl) hf with ⟨hcs,_⟩|⟨x,l,c,zs,hcs,_,hl,hm,hz,_,hcell,hwz⟩
    · simp[Value.cells]at hcs
      obtain⟨rfl,rfl,rfl⟩:=hcs;exact⟨[],.inl ⟨rfl,rfl,rfl,rfl⟩⟩
    · simp[Value.cells]at hcs
      obtain⟨rfl,rfl,rfl⟩:=hcs;exact⟨zs,.inr ⟨_,rfl,hl,hm,by simpa using hz,hcell,hwz⟩⟩
  obtain⟨zs,hr⟩:=hr;obtain⟨l,e,hr0,hm0,hw0,hc0⟩:=ReadsInt.ofRowC hr;subst e;exact⟨l,rfl,Kd.C_of_reads (d:=(0:Int)) (h1:=fun _=>rfl) hr0,hc0,hw0⟩
end Go.Proofs.YtmklpbmlgjkbiaaDoor.PS
end
section
namespace Go.Proofs.YtmklpbmlgjkbiaaDoor.PS
open Go.RowKit Go.Proofs.YtmklpbmlgjkbiaaDoorW.PrintWords Go.Proofs.YtmklpbmlgjkbiaaDoorW.PrintLast
def readV (s:ByteArray):Int×Int×Bool:=
  if okB (backL s.data.toList).1 (backL s.data.toList).2=true∧vtext (backL s.data.toList).1 (backL s.data.toList).2=s then((backL s.data.toList).1,(backL s.data.toList).2,true)else(0,0,false)
theorem readV_text (k n:Int) (h:okP k n):readV (vtext k n)=(k,n,true):=by
  unfold readV;rw[back_ok k n h,if_pos ⟨okB_true.2 h,rfl⟩]
theorem readV_no {s:ByteArray} (h: ∀k n,okP k n→vtext k n≠s):readV s=(0,0,false):=by
  unfold readV;rw[if_neg];rintro⟨h1,h2⟩
  exact h _ _ (okB_true.1 h1) h2
theorem atoi_back (n:Int) (h0: -100<n) (h1:n<100):Lib.atoiAll (itoaS n)= .ok n:=by
  have h: ∀i∈List.range 199,Lib.atoiAll (itoaS ((i:Int)-99))= .ok ((i:Int)-99):=by decide+kernel
  have:=h (n+99).toNat (by simp;omega)
  rwa [show(((n+99).toNat:Nat):Int)-99=n by omega]at this
def Errs (w:World):Prop:=(∃te pe,w.cell? ⟨0,0,none⟩=some (.iface te pe))∧(∃te pe,w.cell? ⟨1,0,none⟩=some (.iface te pe))∧8≤w.heap.size
theorem Errs.below {w w':World} (h:Errs w) (hb:Below w.heap.size w w'):Errs w':=by
  obtain⟨⟨a,b,h0⟩,⟨c,d,h1⟩,h2⟩:=h;exact⟨⟨a,b,(hb.cell (p:=⟨0,0,none⟩) (by show 0<_;omega)).trans h0⟩,⟨c,d,(hb.cell (p:=⟨1,0,none⟩) (by show 1<_;omega)).trans h1⟩,Nat.le_trans h2 hb.size⟩
theorem atoi_yes (t:ByteArray) (v:Int) (w:World) (ht:t.size≤1048576) (h:Lib.atoiAll t.data.toList= .ok v):
    Calls Tryd.prog 54 #[.string t] w fun e w'=>e= .returned (.tuple #[.int .i64 v,.nilIface])∧Below w.heap.size w w':=by
  refine(Tryd.strconv_Atoi_ok t (by omega) v h w).mono ?_
  rintro e w' ⟨rfl,rfl|⟨t',rfl⟩⟩
  · exact⟨rfl,Below.refl _ _⟩
  · exact⟨rfl,Lib.bytesWorld_below _ _ _⟩
def NoNum (w:World) (e:Ending) (w':World):Prop:= ∃ (v:Int) (N:Nat),e= .returned (.tuple #[.int .i64 v,.iface 108 (.pointer (some ⟨N,0,none⟩))])∧Below w.heap.size w w'
theorem atoi_no (t:ByteArray) (w:World) (ht:t.size≤1048576) (hE:Errs w) (h: ∀v,Lib.atoiAll t.data.toList≠ .ok v):Calls Tryd.prog 54 #[.string t] w (NoNum w):=by
  obtain⟨⟨a,b,h0⟩,⟨c,d,h1⟩,h2⟩:=hE;cases hq:Lib.atoiAll t.data.toList
  · exact absurd hq (h _)
  · refine(Any.strconv_Atoi_syntax Tryd.laysC172 t (by omega) hq _ w h0 (.inr ⟨a,b,rfl⟩)).mono ?_
    rintro e w' ⟨N,rfl, -, -,hb⟩
    exact⟨_,N,rfl,hb⟩
  · refine(Any.strconv_Atoi_range Tryd.laysC172 t (by omega) hq _ w h1 (.inr ⟨c,d,rfl⟩)).mono ?_
    rintro e w' ⟨N,rfl, -, -,hb⟩
    exact⟨_,N,rfl,hb⟩
theorem below_set0 {w W:World} (h:Below w.heap.size w W) (j:Nat) (v:Value):Below w.heap.size w (W.setCell ⟨w.heap.size,j,none⟩ v):=below_set h (Nat.le_refl _)
def NoneBelow (s:ByteArray) (k:Int):Prop:= ∀j:Int,1≤j→j<k→ ∀n,okP j n→vtext j n≠s
theorem tail_of {k n:Int} {s:ByteArray} (hk:1≤k) (h:okP k n) (e:vtext k n=s): ∃h2:0<s.size,2≤s.size∧s[0]=letterB k∧(s.extract 1 s.size).data.toList=itoaS n∧ -100<n∧n<100:=by
  have h0: ¬k=0:=by omega
  have e2:s=⟨(letterB k::itoaS n).toArray⟩:=by
    rw[←e];unfold vtext;rw[if_pos (okB_true.2 h),if_neg h0]
  have hsz:=(vtext_size k n h).1;rw[e,e2]at hsz
  subst e2;refine⟨by simp[ByteArray.size],by simp[ByteArray.size]at*;omega,rfl,?_,by unfold okP at h;omega,by unfold okP at h;omega⟩
  simp[ByteArray.data_extract,ByteArray.size]
theorem none_step {s:ByteArray} {k:Int} (h:NoneBelow s k) (hk: ∀n,okP k n→vtext k n≠s):NoneBelow s (k+1):=by
  intro j h1 h2 n hn;by_cases hj:j<k
  · exact h j h1 hj n hn
  · obtain rfl:j=k:=by omega
    exact hk n hn
theorem none_all {s:ByteArray} (h:NoneBelow s 4) (hn:s≠⟨#[110,111,110,101]⟩):readV s=(0,0,false):=by
  refine readV_no fun k n hk e=> ?_
  by_cases h0:k=0
  · subst h0
    have:n=0:=by unfold okP at hk;omega
    subst this;exact hn e.symm
  · exact h k (by unfold okP at hk;omega) (by unfold okP at hk;omega) n hk e
theorem readV_of {k n:Int} {s:ByteArray} (e:vtext k n=s) (h0:0<s.size):readV s=(k,n,true):=by
  by_cases h:okB k n=true
  · rw[←e];exact readV_text k n (okB_true.1 h)
  · simp only[Bool.not_eq_true]at h
    rw[vtext_bad h]at e
    rw[←e]at h0
    simp[ByteArray.size]at h0
theorem impl_ValRead_any (s:ByteArray) (w:World) (hs:s.size≤1048576) (hT:Tab w) (hE:Errs w):
    Calls Tryd.prog 26 #[.string s] w fun e w'=>e= .returned (.tuple #[.agg #[.int .i64 (readV s).1,.int .i64 (readV s).2.1],.bool (readV s).2.2])∧Below w.heap.size w w':=by
  have HT:=Aside0.mk hT;have HE:=Aside0.mk hE;clear hT hE;have HB:=Aside0.mk (Hold.new (Below.refl w.heap.size w) (.cells #[.int .i64 0,.int .i64 0] 25));by_cases hn:s=⟨#[110,111,110,101]⟩
  · subst hn
    rw[show readV ⟨#[110,111,110,101]⟩=(0,0,true)from readV_text 0 0 (.inl ⟨rfl,rfl⟩)]
    clear hs;go_enter Tryd.func26,Tryd.ntmps26
    go_wp2
    exact bodyPost_ret (v:=.tuple #[.agg #[.int .i64 0,.int .i64 0],.bool true]) (by simp[results,Tryd.results26,go_sem]) rfl ⟨rfl,by repeat(first|exact Below.refl _ _|apply below_alloc|apply below_set0)⟩
  · have e0 : (s.toList == [110, 111, 110, 101]) = false := by
      rw[toListD,beq_eq_false_iff_ne];intro h;exact hn (Go.WideShapes.bytes_inj h)
    have HN:=Aside0.mk hn;clear hn;go_enter Tryd.func26,Tryd.ntmps26
    go_wp2
    go_loopg [4] 4 (fun gg s4 wr=> ∃k:Int,1≤k∧k≤4∧4-k≤gg∧s4= .int .i64 k∧Aside0 (NoneBelow s k)∧Aside0 (Hold w wr w.heap.size (.cells #[.int .i64 0,.int .i64 0] 25)))
    case atStart=>exact⟨1,by omega,by omega,by omega,rfl,⟨fun j h1 h2=>by omega⟩,HB⟩
    case round=>
      clear HB;obtain⟨k,hk1,hk4,hgg,rfl,HP,HB⟩:=hrel;have hk:(k=1∨k=2∨k=3)∨k=4:=by omega
      clear hk1 hk4;rcases hk with hk|rfl
      · rcases hk with rfl|rfl|rfl
        · go_upto_region 6 with (fail)
          by_cases hl:s.size<2
          · have l1:decide ((s.size:Int)<2)=true:=decide_eq_true (by omega)
            have HL:=Aside0.mk hl;clear hl;go_quiet (fail)
            go_wp2
            go_roundg (gk-1)
            case measure=>omega
            case rel=>
              exact⟨_,by omega,by omega,by omega,rfl,⟨none_step HP.out fun n hn e=>by obtain⟨_,h2,_⟩:=tail_of (by omega) hn e;have:=HL.out;omega⟩,⟨HB.out.drewN _⟩⟩
          · have l1:decide ((s.size:Int)<2)=false:=decide_eq_false (by omega)
            have h0:0<s.size:=by omega
            have h0z:(0:Int)<(s.size:Int):=by omega
            clear hl;by_cases hb:s[0]=110
            · have e1:((s[0].toNat:Int) !=(((⟨#[110,97,114]⟩:ByteArray)[0]'(by decide)).toNat:Int))=false:=by rw[hb];rfl
              clear hb;go_quiet (fail)
              go_wp2_with fail
              have ht:(s.extract 1 s.size).size≤1048576:=by rw[ByteArray.size_extract];omega
              by_cases ho: ∃v,Lib.atoiAll (s.extract 1 s.size).data.toList= .ok v
              · obtain⟨v,ho⟩:=ho
                refine(atoi_yes (s.extract 1 s.size) v _ ht ho).mono ?_
                rintro e w1 ⟨rfl,hb⟩
                have HO:=Aside0.mk ho;replace HB:=Aside0.mk (Hold2.new ((HB.out.drewN _).step hb) (.cells #[.int .i64 1,.int .i64 v] 25));clear hb ho ht e1;have HX: ∀W,Below w.heap.size w W→Calls Tryd.prog 19 #[.agg #[.int .i64 1,.int .i64 v]] W fun e w'=>e= .returned (.string (vtext 1 v))∧Below W.heap.size W w':=fun W hW=>impl_ValText_any 1 v W (HT.out.below hW)
                obtain⟨X,hX⟩: ∃X,X=vtext 1 v:=⟨_,rfl⟩;rw[←hX]at HX
                have HXX:=Aside0.mk hX;have HX':=Aside0.mk HX;clear HX hX;by_cases hv:X=s
                · have e2:(X.toList==s.toList)=true:=by rw[hv];simp
                  have HV:=Aside0.mk hv;clear hv;go_wp2_with (go_at_call 19;(with_reducible refine(HX'.out _ HB.out.below).mono ?_);rintro e w2 ⟨rfl,hb⟩;replace HB:=Aside0.mk (HB.out.step hb);clear hb;obtain⟨c0,c1⟩:=box2 HB.out.blk;obtain⟨f0,f1⟩:=free2 HB.out.blk;obtain⟨d0,d1⟩:=box2 HB.out.blk2)
                  exact bodyPost_ret (v:=.tuple #[.agg #[.int .i64 1,.int .i64 v],.bool true]) (by simp[results,Tryd.results26,go_sem,c0,c1]) rfl ⟨by rw[readV_of (HXX.out.symm.trans HV.out) h0],by repeat(first|exact HB.out.below|apply below_set0)⟩
                · have e2 : (X.toList == s.toList) = false := by
                    rw[toListD,toListD,beq_eq_false_iff_ne];intro h;exact hv (Go.WideShapes.bytes_inj h)
                  have HV:=Aside0.mk hv;clear hv;go_wp2_with (go_at_call 19;(with_reducible refine(HX'.out _ HB.out.below).mono ?_);rintro e w2 ⟨rfl,hb⟩;replace HB:=Aside0.mk (HB.out.step hb);clear hb)
                  go_roundg (gk-1)
                  case measure=>omega
                  case rel=>
                    refine⟨_,by omega,by omega,by omega,rfl,⟨none_step HP.out fun n hn e=> ?_⟩,⟨HB.out.1⟩⟩
                    obtain⟨_,_,_,h3,h4,h5⟩:=tail_of (by omega) hn e
                    have:=HO.out;rw[h3,atoi_back n h4 h5]at this
                    injection this with this
                    subst this;exact HV.out (HXX.out.trans e)
              · have hno: ∀v,Lib.atoiAll (s.extract 1 s.size).data.toList≠ .ok v:=fun v h=>ho ⟨v,h⟩
                refine(atoi_no (s.extract 1 s.size) _ ht (HE.out.below (HB.out.drewN _).below) hno).mono ?_
                rintro e w1 ⟨v,N,rfl,hb⟩
                replace HB:=Aside0.mk ((HB.out.drewN _).step hb);have HO:=Aside0.mk hno;clear hb ho hno ht e1;go_wp2
                go_roundg (gk-1)
                case measure=>omega
                case rel=>
                  refine⟨_,by omega,by omega,by omega,rfl,⟨none_step HP.out fun n hn e=> ?_⟩,⟨HB.out.alloc _⟩⟩
                  obtain⟨_,_,_,h3,h4,h5⟩:=tail_of (by omega) hn e
                  exact HO.out n (by rw[h3,atoi_back n h4 h5])
            · have e1 : ((s[0].toNat : Int) != (((⟨#[110, 97, 114]⟩ : ByteArray)[0]'(by decide)).toNat : Int)) = true := by
                simp only[bne_iff_ne,ne_eq];intro h;exact hb (UInt8.toNat_inj.1 (Int.ofNat_inj.1 h))
              have HQ:=Aside0.mk hb;clear hb;go_quiet (fail)
              go_wp2
              go_roundg (gk-1)
              case measure=>omega
              case rel=>
                exact⟨_,by omega,by omega,by omega,rfl,⟨none_step HP.out fun n hn e=>by obtain⟨_,_,h2,_⟩:=tail_of (by omega) hn e;exact HQ.out h2⟩,⟨HB.out.drewN _⟩⟩
        · go_upto_region 6 with (fail)
          by_cases hl:s.size<2
          · have l1:decide ((s.size:Int)<2)=true:=decide_eq_true (by omega)
            have HL:=Aside0.mk hl;clear hl;go_quiet (fail)
            go_wp2
            go_roundg (gk-1)
            case measure=>omega
            case rel=>
              exact⟨_,by omega,by omega,by omega,rfl,⟨none_step HP.out fun n hn e=>by obtain⟨_,h2,_⟩:=tail_of (by omega) hn e;have:=HL.out;omega⟩,⟨HB.out.drewN _⟩⟩
          · have l1:decide ((s.size:Int)<2)=false:=decide_eq_false (by omega)
            have h0:0<s.size:=by omega
            have h0z:(0:Int)<(s.size:Int):=by omega
            clear hl;by_cases hb:s[0]=97
            · have e1:((s[0].toNat:Int) !=(((⟨#[110,97,114]⟩:ByteArray)[1]'(by decide)).toNat:Int))=false:=by rw[hb];rfl
              clear hb;go_quiet (fail)
              go_wp2_with fail
              have ht:(s.extract 1 s.size).size≤1048576:=by rw[ByteArray.size_extract];omega
              by_cases ho: ∃v,Lib.atoiAll (s.extract 1 s.size).data.toList= .ok v
              · obtain⟨v,ho⟩:=ho
                refine(atoi_yes (s.extract 1 s.size) v _ ht ho).mono ?_
                rintro e w1 ⟨rfl,hb⟩
                have HO:=Aside0.mk ho;replace HB:=Aside0.mk (Hold2.new ((HB.out.drewN _).step hb) (.cells #[.int .i64 2,.int .i64 v] 25));clear hb ho ht e1;have HX: ∀W,Below w.heap.size w W→Calls Tryd.prog 19 #[.agg #[.int .i64 2,.int .i64 v]] W fun e w'=>e= .returned (.string (vtext 2 v))∧Below W.heap.size W w':=fun W hW=>impl_ValText_any 2 v W (HT.out.below hW)
                obtain⟨X,hX⟩: ∃X,X=vtext 2 v:=⟨_,rfl⟩;rw[←hX]at HX
                have HXX:=Aside0.mk hX;have HX':=Aside0.mk HX;clear HX hX;by_cases hv:X=s
                · have e2:(X.toList==s.toList)=true:=by rw[hv];simp
                  have HV:=Aside0.mk hv;clear hv;go_wp2_with (go_at_call 19;(with_reducible refine(HX'.out _ HB.out.below).mono ?_);rintro e w2 ⟨rfl,hb⟩;replace HB:=Aside0.mk (HB.out.step hb);clear hb;obtain⟨c0,c1⟩:=box2 HB.out.blk;obtain⟨f0,f1⟩:=free2 HB.out.blk;obtain⟨d0,d1⟩:=box2 HB.out.blk2)
                  exact bodyPost_ret (v:=.tuple #[.agg #[.int .i64 2,.int .i64 v],.bool true]) (by simp[results,Tryd.results26,go_sem,c0,c1]) rfl ⟨by rw[readV_of (HXX.out.symm.trans HV.out) h0],by repeat(first|exact HB.out.below|apply below_set0)⟩
                · have e2 : (X.toList == s.toList) = false := by
                    rw[toListD,toListD,beq_eq_false_iff_ne];intro h;exact hv (Go.WideShapes.bytes_inj h)
                  have HV:=Aside0.mk hv;clear hv;go_wp2_with (go_at_call 19;(with_reducible refine(HX'.out _ HB.out.below).mono ?_);rintro e w2 ⟨rfl,hb⟩;replace HB:=Aside0.mk (HB.out.step hb);clear hb)
                  go_roundg (gk-1)
                  case measure=>omega
                  case rel=>
                    refine⟨_,by omega,by omega,by omega,rfl,⟨none_step HP.out fun n hn e=> ?_⟩,⟨HB.out.1⟩⟩
                    obtain⟨_,_,_,h3,h4,h5⟩:=tail_of (by omega) hn e
                    have:=HO.out;rw[h3,atoi_back n h4 h5]at this
                    injection this with this
                    subst this;exact HV.out (HXX.out.trans e)
              · have hno: ∀v,Lib.atoiAll (s.extract 1 s.size).data.toList≠ .ok v:=fun v h=>ho ⟨v,h⟩
                refine(atoi_no (s.extract 1 s.size) _ ht (HE.out.below (HB.out.drewN _).below) hno).mono ?_
                rintro e w1 ⟨v,N,rfl,hb⟩
                replace HB:=Aside0.mk ((HB.out.drewN _).step hb);have HO:=Aside0.mk hno;clear hb ho hno ht e1;go_wp2
                go_roundg (gk-1)
                case measure=>omega
                case rel=>
                  refine⟨_,by omega,by omega,by omega,rfl,⟨none_step HP.out fun n hn e=> ?_⟩,⟨HB.out.alloc _⟩⟩
                  obtain⟨_,_,_,h3,h4,h5⟩:=tail_of (by omega) hn e
                  exact HO.out n (by rw[h3,atoi_back n h4 h5])
            · have e1 : ((s[0].toNat : Int) != (((⟨#[110, 97, 114]⟩ : ByteArray)[1]'(by decide)).toNat : Int)) = true := by
                simp only[bne_iff_ne,ne_eq];intro h;exact hb (UInt8.toNat_inj.1 (Int.ofNat_inj.1 h))
              have HQ:=Aside0.mk hb;clear hb;go_quiet (fail)
              go_wp2
              go_roundg (gk-1)
              case measure=>omega
              case rel=>
                exact⟨_,by omega,by omega,by omega,rfl,⟨none_step HP.out fun n hn e=>by obtain⟨_,_,h2,_⟩:=tail_of (by omega) hn e;exact HQ.out h2⟩,⟨HB.out.drewN _⟩⟩
        · go_upto_region 6 with (fail)
          by_cases hl:s.size<2
          · have l1:decide ((s.size:Int)<2)=true:=decide_eq_true (by omega)
            have HL:=Aside0.mk hl;clear hl;go_quiet (fail)
            go_wp2
            go_roundg (gk-1)
            case measure=>omega
            case rel=>
              exact⟨_,by omega,by omega,by omega,rfl,⟨none_step HP.out fun n hn e=>by obtain⟨_,h2,_⟩:=tail_of (by omega) hn e;have:=HL.out;omega⟩,⟨HB.out.drewN _⟩⟩
          · have l1:decide ((s.size:Int)<2)=false:=decide_eq_false (by omega)
            have h0:0<s.size:=by omega
            have h0z:(0:Int)<(s.size:Int):=by omega
            clear hl;by_cases hb:s[0]=114
            · have e1:((s[0].toNat:Int) !=(((⟨#[110,97,114]⟩:ByteArray)[2]'(by decide)).toNat:Int))=false:=by rw[hb];rfl
              clear hb;go_quiet (fail)
              go_wp2_with fail
              have ht:(s.extract 1 s.size).size≤1048576:=by rw[ByteArray.size_extract];omega
              by_cases ho: ∃v,Lib.atoiAll (s.extract 1 s.size).data.toList= .ok v
              · obtain⟨v,ho⟩:=ho
                refine(atoi_yes (s.extract 1 s.size) v _ ht ho).mono ?_
                rintro e w1 ⟨rfl,hb⟩
                have HO:=Aside0.mk ho;replace HB:=Aside0.mk (Hold2.new ((HB.out.drewN _).step hb) (.cells #[.int .i64 3,.int .i64 v] 25));clear hb ho ht e1;have HX: ∀W,Below w.heap.size w W→Calls Tryd.prog 19 #[.agg #[.int .i64 3,.int .i64 v]] W fun e w'=>e= .returned (.string (vtext 3 v))∧Below W.heap.size W w':=fun W hW=>impl_ValText_any 3 v W (HT.out.below hW)
                obtain⟨X,hX⟩: ∃X,X=vtext 3 v:=⟨_,rfl⟩;rw[←hX]at HX
                have HXX:=Aside0.mk hX;have HX':=Aside0.mk HX;clear HX hX;by_cases hv:X=s
                · have e2:(X.toList==s.toList)=true:=by rw[hv];simp
                  have HV:=Aside0.mk hv;clear hv;go_wp2_with (go_at_call 19;(with_reducible refine(HX'.out _ HB.out.below).mono ?_);rintro e w2 ⟨rfl,hb⟩;replace HB:=Aside0.mk (HB.out.step hb);clear hb;obtain⟨c0,c1⟩:=box2 HB.out.blk;obtain⟨f0,f1⟩:=free2 HB.out.blk;obtain⟨d0,d1⟩:=box2 HB.out.blk2)
                  exact bodyPost_ret (v:=.tuple #[.agg #[.int .i64 3,.int .i64 v],.bool true]) (by simp[results,Tryd.results26,go_sem,c0,c1]) rfl ⟨by rw[readV_of (HXX.out.symm.trans HV.out) h0],by repeat(first|exact HB.out.below|apply below_set0)⟩
                · have e2 : (X.toList == s.toList) = false := by
                    rw[toListD,toListD,beq_eq_false_iff_ne];intro h;exact hv (Go.WideShapes.bytes_inj h)
                  have HV:=Aside0.mk hv;clear hv;go_wp2_with (go_at_call 19;(with_reducible refine(HX'.out _ HB.out.below).mono ?_);rintro e w2 ⟨rfl,hb⟩;replace HB:=Aside0.mk (HB.out.step hb);clear hb)
                  go_roundg (gk-1)
                  case measure=>omega
                  case rel=>
                    refine⟨_,by omega,by omega,by omega,rfl,⟨none_step HP.out fun n hn e=> ?_⟩,⟨HB.out.1⟩⟩
                    obtain⟨_,_,_,h3,h4,h5⟩:=tail_of (by omega) hn e
                    have:=HO.out;rw[h3,atoi_back n h4 h5]at this
                    injection this with this
                    subst this;exact HV.out (HXX.out.trans e)
              · have hno: ∀v,Lib.atoiAll (s.extract 1 s.size).data.toList≠ .ok v:=fun v h=>ho ⟨v,h⟩
                refine(atoi_no (s.extract 1 s.size) _ ht (HE.out.below (HB.out.drewN _).below) hno).mono ?_
                rintro e w1 ⟨v,N,rfl,hb⟩
                replace HB:=Aside0.mk ((HB.out.drewN _).step hb);have HO:=Aside0.mk hno;clear hb ho hno ht e1;go_wp2
                go_roundg (gk-1)
                case measure=>omega
                case rel=>
                  refine⟨_,by omega,by omega,by omega,rfl,⟨none_step HP.out fun n hn e=> ?_⟩,⟨HB.out.alloc _⟩⟩
                  obtain⟨_,_,_,h3,h4,h5⟩:=tail_of (by omega) hn e
                  exact HO.out n (by rw[h3,atoi_back n h4 h5])
            · have e1 : ((s[0].toNat : Int) != (((⟨#[110, 97, 114]⟩ : ByteArray)[2]'(by decide)).toNat : Int)) = true := by
                simp only[bne_iff_ne,ne_eq];intro h;exact hb (UInt8.toNat_inj.1 (Int.ofNat_inj.1 h))
              have HQ:=Aside0.mk hb;clear hb;go_quiet (fail)
              go_wp2
              go_roundg (gk-1)
              case measure=>omega
              case rel=>
                exact⟨_,by omega,by omega,by omega,rfl,⟨none_step HP.out fun n hn e=>by obtain⟨_,_,h2,_⟩:=tail_of (by omega) hn e;exact HQ.out h2⟩,⟨HB.out.drewN _⟩⟩
      · obtain⟨c0,c1⟩:=box2 HB.out.blk
        obtain⟨f0,f1⟩:=free2 HB.out.blk;go_wp2
        exact bodyPost_ret (v:=.tuple #[.agg #[.int .i64 0,.int .i64 0],.bool false]) (by simp[results,Tryd.results26,go_sem,c0,c1]) rfl ⟨by rw[none_all HP.out HN.out],by repeat(first|exact HB.out.below|apply below_set0)⟩
def TabErrs (w:World):Prop:=Tab w∧Errs w
end Go.Proofs.YtmklpbmlgjkbiaaDoor.PS
end
section
namespace Go.Proofs.YtmklpbmlgjkbiaaDoor.PS
open Go.RowKit Go.ChangeShapes Go.Proofs.YtmklpbmlgjkbiaaDoorW.PrintWords Go.Proofs.YtmklpbmlgjkbiaaDoorW.PrintLast
abbrev lRange:String×DataW Unit:=("strconv.ErrRange",Rows.laid_strconv_ErrRange)
abbrev lSyntax:String×DataW Unit:=("strconv.ErrSyntax",Rows.laid_strconv_ErrSyntax)
abbrev laid5:List (String×DataW Unit):=[l32,l64,lpow,lRange,lSyntax]
theorem star: "*" ++ "errors.errorString" = "*errors.errorString" :=by decide
theorem rowErr (u:TypeId) (h:Tryd.prog.typeName? 3 u=some "*errors.errorString"):u=138:=
  typeName_ptr_named (nm:= "errors.errorString") (by rw[star];kernel_rfl) (by kernel_rfl) (by decide) u (by rw[star];exact h)
theorem errs_of {r r':List (String×DataW Unit)} {W:World} (h0:laidMet Tryd.prog (lRange::r) W) (h1:laidMet Tryd.prog (lSyntax::r') W) (h8:8≤W.heap.size):Errs W:=by
  have g0:Tryd.prog.globalNamed "strconv.ErrSyntax" =some 0:=by kernel_rfl
  have g1:Tryd.prog.globalNamed "strconv.ErrRange" =some 1:=by kernel_rfl
  obtain⟨a0,s0,v0, -⟩:=laid_sentinel (tp:=138) h1 g0 (ti:=72) (by kernel_rfl) Tryd.underlying72 rowErr Tryd.underlying138 Tryd.underlying140 rfl rfl Tryd.underlying9 (by kernel_rfl) (by kernel_rfl)
  obtain⟨a1,s1,v1, -⟩:=laid_sentinel (tp:=138) h0 g1 (ti:=72) (by kernel_rfl) Tryd.underlying72 rowErr Tryd.underlying138 Tryd.underlying140 rfl rfl Tryd.underlying9 (by kernel_rfl) (by kernel_rfl)
  exact⟨⟨_,_,by rw[World.var?_cell g0 v0 0];rfl⟩,⟨_,_,by rw[World.var?_cell g1 v1 0];rfl⟩,h8⟩
theorem door_met5 (os:Os) (args:Array Value):laidMetH Tryd.prog laid5 ((World.doorLaid Tryd.prog 400 os).forCall (fun _ _=>0) ⟨#[],args,[]⟩).memory:=
  laidMetH_of_parts3 (fuel:=8) (laidMet_of_run' 8 (by kernel_rfl) (by kernel_rfl)) (by kernel_rfl) (by kernel_rfl)
theorem facts5 {W:World} (h:laidMetH Tryd.prog laid5 W):TabErrs W:=by
  have h:laidMet Tryd.prog laid5 W:=by rwa [MakeChecks.laidMetH_plain _ _ _ (by kernel_rfl)]at h
  have ht:=tab_of h;have h3:=laidMet.tail (laidMet.tail (laidMet.tail h));exact⟨ht,errs_of h3 (laidMet.tail h3) ht.2⟩
end Go.Proofs.YtmklpbmlgjkbiaaDoor.PS
end
