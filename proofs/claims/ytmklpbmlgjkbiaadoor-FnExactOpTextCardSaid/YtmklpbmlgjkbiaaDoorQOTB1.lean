/- What the rows of OTB rest on, part 2. -/
import Derived.Test.YtmklpbmlgjkbiaaDoorProg
import Derived.Deep.RegionWith
import Derived.Lib.Bytealg
import Derived.Shelf.Strings.Search3
import Derived.WalkSpells
import Derived.Shelf.Strings.Builder1
import Derived.Shelf.Utf8.RuneCount
import Derived.Shelf.Strconv.Atoi
import Derived.Shelf.Strconv.Itoa0
import Derived.Shelf.Strconv.Itoa1
import Derived.Shelf.LaysM
import Derived.Shelf.Strconv.Itoa2
import Derived.Shelf.Strconv.Itoa3
import Derived.Shelf.Strconv.AtoiErrFast
import Derived.Shelf.Strconv.ParseIntEmpty
import Derived.Shelf.Strconv.AtoiFail
import Derived.Shelf.Strconv.Clone
import Derived.Shelf.Strconv.SyntaxError
import Derived.Shelf.LaysC
import Derived.Shelf.Strconv.ToError
import Derived.Shelf.Strconv.Lower
import Derived.Shelf.Strconv.ParseUint10
import Derived.Shelf.Strconv.ParseUint10Empty
import Derived.Shelf.Strconv.ParseUint10Any
import Derived.Shelf.Strconv.ParseInt10
import Derived.Shelf.Strconv.AtoiLong
import Derived.Shelf.Strconv.AtoiInnerAll
import Derived.Shelf.Strconv.RangeError
import Derived.Shelf.Strconv.ToErrorRange
import Derived.Shelf.Strconv.AtoiAll
import Derived.Shelf.Strconv.ErrVarAll
import Derived.Shelf.Strings.Search1
import Derived.Shelf.Strings.Search2
import Derived.Shelf.Strings.Count
import Derived.Shelf.Strings.Shaped
import Derived.Shelf.Strings.Split
import Derived.Shelf.Strings.SplitShaped
import Derived.Shelf.Unicode.Decode
import Derived.Shelf.Strings.RuneCount
import Derived.Shelf.Strings.Explode
import Derived.Shelf.Unicode.DecodeSlow
import Derived.Shelf.Unicode.DecodeAny
import Derived.WalkSmall
import Derived.Lib.AppendIntMem
import Derived.RegionTactic
import Derived.Test.YtmklpbmlgjkbiaaDoorQOTB0
set_option linter.unusedVariables false
set_option linter.unusedSimpArgs false
set_option maxHeartbeats 8000000
set_option maxRecDepth 100000
section
namespace Go.Proofs.YtmklpbmlgjkbiaaDoor.PS
open Go.RowKit Go.Proofs.YtmklpbmlgjkbiaaDoorW.PrintWords Go.Proofs.YtmklpbmlgjkbiaaDoorW.PrintLast Go.Proofs.YtmklpbmlgjkbiaaDoorW.PrintMore
attribute [local go_sem] max2_int min2_int max_two min_two max_three min_three max_four min_four   -- for this text's walks alone
def errW:Option Int→Value
  |none=>.nilIface
  |some c=>.iface 0 (.int .i64 c)
theorem errW_none:errW none= .nilIface:=rfl
theorem errW_some (c:Int):errW (some c)= .iface 0 (.int .i64 c):=rfl
structure S67 where
  f0:ByteArray
  f1:ByteArray
  f2:ByteArray
  f3:Bool
def z67:S67:=⟨(⟨#[]⟩:ByteArray),(⟨#[]⟩:ByteArray),(⟨#[]⟩:ByteArray),false⟩
end Go.Proofs.YtmklpbmlgjkbiaaDoor.PS
end
section
namespace Go.Proofs.YtmklpbmlgjkbiaaDoor.PS
open Go.RowKit Go.Proofs.YtmklpbmlgjkbiaaDoorW.PrintWords Go.Proofs.YtmklpbmlgjkbiaaDoorW.PrintLast
def okP (k n:Int):Prop:=(k=0∧n=0)∨(k=1∧ -99≤n∧n≤99)∨(k=2∧0≤n∧n≤9)∨(k=3∧1≤n∧n≤6)
instance (k n:Int):Decidable (okP k n):=by unfold okP;infer_instance
def okB (k n:Int):Bool:=decide (okP k n)
theorem okB_true {k n:Int} :okB k n=true ↔ okP k n:=by simp[okB]
theorem okB_false {k n:Int} :okB k n=false ↔ ¬okP k n:=by simp[okB]
def hasR (k:Int):Bool:=decide (1≤k∧k≤14∧k≠9∧k≠13)
def hasS (k:Int):Bool:=decide (k=2∨k=3∨k=6∨k=7∨k=8)
def hasT (k:Int):Bool:=decide (k=5∨k=8∨k=9∨k=10)
def hasV (k:Int):Bool:=decide (k=1∨k=8∨k=10∨k=13)
def formL (k:Int):List Bool:=if 1≤k∧k≤14 then [hasR k,hasS k,hasT k,hasV k]else []
def valP (k vk vn:Int):Prop:=okP vk vn∧(k=8→vk=1∧1≤vn)∧(k=13→vk=1∧0≤vn∧vn≤1)
instance (k vk vn:Int):Decidable (valP k vk vn):=by unfold valP;infer_instance
def opP (k r s t vk vn:Int):Prop:=
  (1≤k∧k≤14)∧valP k vk vn∧(r=0∨(hasR k=true∧0≤r∧r≤3))∧(s=0∨(hasS k=true∧0≤s∧s≤3))∧
    (t=0∨(hasT k=true∧0≤t∧t≤15))∧(hasV k=true∨(vk=0∧vn=0))
instance (k r s t vk vn:Int):Decidable (opP k r s t vk vn):=by unfold opP;infer_instance
def opB (k r s t vk vn:Int):Bool:=decide (opP k r s t vk vn)
theorem opB_true {k r s t vk vn:Int} :opB k r s t vk vn=true ↔ opP k r s t vk vn:=by simp[opB]
theorem opB_false {k r s t vk vn:Int} :opB k r s t vk vn=false ↔ ¬opP k r s t vk vn:=by simp[opB]
def opV.f (k r s t vk vn:Int):Option Bool:=some (opB k r s t vk vn)
def mannersL:List S67:=
  [⟨⟨#[]⟩,⟨#[]⟩,⟨#[]⟩,false⟩,
   ⟨⟨#[115,101,116]⟩,⟨#[82,86]⟩,⟨#[]⟩,true⟩,
   ⟨⟨#[109,111,118,101]⟩,⟨#[82,83]⟩,⟨#[83]⟩,true⟩,
   ⟨⟨#[97,100,100]⟩,⟨#[82,83]⟩,⟨#[82,83]⟩,false⟩,
   ⟨⟨#[115,101,108,102]⟩,⟨#[82]⟩,⟨#[]⟩,true⟩,
   ⟨⟨#[98,101,103,105,110]⟩,⟨#[82,84]⟩,⟨#[]⟩,true⟩,
   ⟨⟨#[115,101,110,100]⟩,⟨#[82,83]⟩,⟨#[82,83]⟩,false⟩,
   ⟨⟨#[116,97,107,101]⟩,⟨#[82,83]⟩,⟨#[]⟩,true⟩,
   ⟨⟨#[97,102,116,101,114]⟩,⟨#[82,83,84,86]⟩,⟨#[]⟩,true⟩,
   ⟨⟨#[103,111]⟩,⟨#[84]⟩,⟨#[]⟩,false⟩,
   ⟨⟨#[105,102]⟩,⟨#[82,84,86]⟩,⟨#[82]⟩,false⟩,
   ⟨⟨#[108,105,110,107]⟩,⟨#[82]⟩,⟨#[82]⟩,false⟩,
   ⟨⟨#[119,97,116,99,104]⟩,⟨#[82]⟩,⟨#[82]⟩,false⟩,
   ⟨⟨#[116,114,97,112]⟩,⟨#[86]⟩,⟨#[]⟩,false⟩,
   ⟨⟨#[101,110,100]⟩,⟨#[82]⟩,⟨#[82]⟩,false⟩]
def howR (k:Int):S67:=if 1≤k∧k≤14 then mannersL.getD k.toNat z67 else z67
def howV.f (k _r _s _t _vk _vn:Int):Option (ByteArray×ByteArray×ByteArray×Bool):=some ((howR k).f0,(howR k).f1,(howR k).f2,(howR k).f3)
theorem kinds {P:Int→Prop} (h: ∀k:Int,¬(1≤k∧k≤14)→P k) (h1:P 1) (h2:P 2) (h3:P 3) (h4:P 4) (h5:P 5) (h6:P 6) (h7:P 7) (h8:P 8) (h9:P 9)
    (h10:P 10) (h11:P 11) (h12:P 12) (h13:P 13) (h14:P 14) (k:Int):P k:=by
  by_cases hk:1≤k∧k≤14
  · have:k=1∨k=2∨k=3∨k=4∨k=5∨k=6∨k=7∨k=8∨k=9∨k=10∨k=11∨k=12∨k=13∨k=14:=by omega
    rcases this with rfl|rfl|rfl|rfl|rfl|rfl|rfl|rfl|rfl|rfl|rfl|rfl|rfl|rfl<;>assumption
  · exact h k hk
theorem in_any (a b c:Int) (w:World):Calls Tryd.prog 55 #[.int .i64 a,.int .i64 b,.int .i64 c] w fun e w'=>e= .returned (.bool (decide (b≤a∧a≤c)))∧w=w':=by
  by_cases h1:b≤a<;>by_cases h2:a≤c<;>(go_enter Tryd.func55,Tryd.ntmps55;go_wp2;go_ret;exact⟨by simp[h1,h2],rfl⟩)
def cellsOf:List S67→List Value
  | []=> []
  |x::xs=>.string x.f0:: .string x.f1:: .string x.f2:: .bool x.f3::cellsOf xs
def IsManners (w w':World) (g:Nat):Prop:=Below w.heap.size w w'∧w.heap.size≤g∧ ∀i,w'.cell? ⟨g,i,none⟩=(cellsOf mannersL)[i]?
theorem manners_any (w:World):Calls Tryd.prog 65 #[] w fun e w'=> ∃g,e= .returned (.slice (some ⟨g,0,none⟩) 15 15)∧IsManners w w' g:=by
  go_enter Tryd.func65,Tryd.ntmps65
  go_wp2
  go_ret
  refine⟨_,rfl,(Below.refl _ _).alloc (Nat.le_refl _) _,Nat.le_refl _,fun i=> ?_⟩
  rw[World.cell?_alloc_new];show(cellsOf mannersL).toArray[i]?=_
  exact List.getElem?_toArray
theorem bcell {W w1:World} (hb:Below W.heap.size W w1):(∀b o,b<W.heap.size→w1.cell? ⟨b,o,none⟩=W.cell? ⟨b,o,none⟩)∧(∀b o,b<W.heap.size→w1.frozen? ⟨b,o,none⟩=W.frozen? ⟨b,o,none⟩):=
  ⟨fun b o h=>hb.cell (p:=⟨b,o,none⟩) h,fun b o h=>hb.frozen (p:=⟨b,o,none⟩) h⟩
theorem blk2 (w:World) (A B:Obj):((w.alloc A).alloc B).drew.heap[w.heap.size+1]?=some B:=by
  have:=blk_new (w.alloc A) B;rwa [World.size_alloc]at this
theorem end4 {w W w':World} {g t:Nat} {z0 z1 z2 z3:Value} (hW:Below w.heap.size w W) (hge:w.heap.size≤g) (h0:W.heap[g]?=some (.cells #[z0,z1,z2,z3] t (0,0))) (hb:Below W.heap.size W w') (a b c d:Value):
    Below w.heap.size w ((((w'.setCell ⟨g,0,none⟩ a).setCell ⟨g,1,none⟩ b).setCell ⟨g,2,none⟩ c).setCell ⟨g,3,none⟩ d)∧
    ((((w'.setCell ⟨g,0,none⟩ a).setCell ⟨g,1,none⟩ b).setCell ⟨g,2,none⟩ c).setCell ⟨g,3,none⟩ d).heap[g]?=some (.cells #[a,b,c,d] t (0,0)):=
  ⟨below_set (below_set (below_set (below_set (below_step hW hb) hge) hge) hge) hge,blk_set (blk_set (blk_set (blk_set (blk_below h0 hb) 0 a) 1 b) 2 c) 3 d⟩
theorem how_kind (k:Int) (r s t vk vn:Int) (x:S67) (w:World) (hk:1≤k∧k≤14) (hx:x=mannersL.getD k.toNat z67):
    Calls Tryd.prog 51 #[.agg #[.int .i64 k,.int .i64 r,.int .i64 s,.int .i64 t,.int .i64 vk,.int .i64 vn]] w fun e w'=>e= .returned (.agg #[.string x.f0,.string x.f1,.string x.f2,.bool x.f3])∧Below w.heap.size w w':=by
  have hm: ∀ (W:World) (g:Nat),(∀i,W.cell? ⟨g,i,none⟩=(cellsOf mannersL)[i]?)→W.cell? ⟨g,k.toNat*4,none⟩=some (.string x.f0)∧W.cell? ⟨g,k.toNat*4+1,none⟩=some (.string x.f1)∧W.cell? ⟨g,k.toNat*4+2,none⟩=some (.string x.f2)∧W.cell? ⟨g,k.toNat*4+3,none⟩=some (.bool x.f3):=by
    intro W g h;have:k=1∨k=2∨k=3∨k=4∨k=5∨k=6∨k=7∨k=8∨k=9∨k=10∨k=11∨k=12∨k=13∨k=14:=by omega
    rcases this with rfl|rfl|rfl|rfl|rfl|rfl|rfl|rfl|rfl|rfl|rfl|rfl|rfl|rfl<;>(subst hx;exact⟨h _,h _,h _,h _⟩)
  clear hx;obtain⟨hk1,hk2⟩:=hk;go_enter Tryd.func51,Tryd.ntmps51
  go_wp2_with (go_at_call 55;refine(in_any _ _ _ _).mono ?_;rintro e w' ⟨rfl,rfl⟩)
  go_region_with (go_at_call 65;refine(manners_any _).mono ?_;rintro e w' ⟨g,rfl,hb,hg,hc⟩;obtain⟨m0,m1,m2,m3⟩:=hm _ _ hc;obtain⟨b1,b2⟩:=bcell hb;clear hc;have hgs:=hb.size;have sz:=b1 w.heap.size)
  all_goals go_wp2
  all_goals
    obtain⟨E0,E1⟩:=end4 (w:=w) (g:=w.heap.size+1) (t:=67) (below_drew1 (below_alloc (below_alloc (Below.refl _ _) _) _)) (Nat.le_succ _) (blk2 _ _ _) hb (.string x.f0) (.string x.f1) (.string x.f2) (.bool x.f3);have q0:=blk_cell E1 0;have q1:=blk_cell E1 1;have q2:=blk_cell E1 2;have q3:=blk_cell E1 3;exact bodyPost_ret (v:=.agg #[.string x.f0,.string x.f1,.string x.f2,.bool x.f3]) (by simp[results,Tryd.results51,go_sem,q0,q1,q2,q3]) rfl ⟨rfl,E0⟩
theorem how_none (k:Int) (r s t vk vn:Int) (w:World) (hk:decide (1≤k∧k≤14)=false):
    Calls Tryd.prog 51 #[.agg #[.int .i64 k,.int .i64 r,.int .i64 s,.int .i64 t,.int .i64 vk,.int .i64 vn]] w fun e w'=>e= .returned (.agg #[.string ⟨#[]⟩,.string ⟨#[]⟩,.string ⟨#[]⟩,.bool false])∧Below w.heap.size w w':=by
  go_enter Tryd.func51,Tryd.ntmps51
  go_wp2_with (go_at_call 55;refine(in_any _ _ _ _).mono ?_;rintro e w' ⟨rfl,rfl⟩;rw[hk])
  exact bodyPost_ret (v:=.agg #[.string ⟨#[]⟩,.string ⟨#[]⟩,.string ⟨#[]⟩,.bool false]) (by simp[results,Tryd.results51,go_sem]) rfl ⟨rfl,by repeat(first|exact Below.refl _ _|apply below_alloc|apply below_drew1|refine below_set ?_ (Nat.le_succ _))⟩
theorem impl_Op_how.calls (k r s t vk vn:Int) (r1 r2 r3:ByteArray) (r4:Bool) (w:World) (h:howV.f k r s t vk vn=some (r1,r2,r3,r4)):
    Calls Tryd.prog 51 #[.agg #[.int .i64 k,.int .i64 r,.int .i64 s,.int .i64 t,.int .i64 vk,.int .i64 vn]] w fun e w'=>e= .returned (.agg #[.string r1,.string r2,.string r3,.bool r4])∧Below w.heap.size w w':=by
  unfold howV.f at h;have h:=Option.some.inj h;simp only[Prod.mk.injEq]at h
  obtain⟨rfl,rfl,rfl,rfl⟩:=h;by_cases hk:1≤k∧k≤14
  · have e:howR k=mannersL.getD k.toNat z67:=if_pos hk
    rw[e];exact how_kind k r s t vk vn _ w hk rfl
  · have e:howR k=z67:=if_neg hk
    rw[e];exact how_none k r s t vk vn w (decide_eq_false hk)
end Go.Proofs.YtmklpbmlgjkbiaaDoor.PS
end
section
namespace Go.Proofs.YtmklpbmlgjkbiaaDoor.PS
open Go.RowKit
theorem indexByte_any (s:ByteArray) (c:Int) (w:World):
    Calls Tryd.prog 110 #[.string s,.int .u8 c] w fun e w'=>e= .returned (.int .i64 (Lib.indexByte s.data.toList c.toNat.toUInt8))∧w=w':=by
  go_enter Tryd.func110,Tryd.ntmps110
  go_wp2
  rw[run_callFunc_extern Tryd.func119 (by kernel_rfl) (by kernel_rfl) (by kernel_rfl) (e:=Extern.BytealgIndexByte.indexByte) (by kernel_rfl),Lib.run_indexByteString]
  simp only[Result.andThen]
  rw[Oper.upon_value];go_wp2
  go_ret
  exact⟨rfl,rfl⟩
theorem index_one (s:ByteArray) (c:UInt8) (w:World):
    Calls Tryd.prog 98 #[.string s,.string ⟨#[c]⟩] w fun e w'=>e= .returned (.int .i64 (Lib.indexByte s.data.toList c))∧w=w':=by
  go_enter Tryd.func98,Tryd.ntmps98
  go_wp2_with (go_at_call 110;refine(indexByte_any _ _ _).mono ?_;rintro e w' ⟨rfl,rfl⟩)
  · have h:([c]==s.toList)=true:=by assumption
    go_ret
    refine⟨?_,rfl⟩
    have e:s.data.toList=[c]:=by rw[←Lib.toList_data];exact(beq_iff_eq.1 h).symm
    rw[e];simp[Lib.indexByte]
  · go_ret
    exact⟨rfl,rfl⟩
theorem sindex_one (s:ByteArray) (c:UInt8) (w:World):
    Calls Tryd.prog 83 #[.string s,.string ⟨#[c]⟩] w fun e w'=>e= .returned (.int .i64 (Lib.indexByte s.data.toList c))∧w=w':=by
  go_enter Tryd.func83,Tryd.ntmps83
  go_wp2_with (go_at_call 98;refine(index_one _ _ _).mono ?_;rintro e w' ⟨rfl,rfl⟩)
  go_ret
  exact⟨rfl,rfl⟩
theorem contains_one (s:ByteArray) (c:UInt8) (w:World):
    Calls Tryd.prog 73 #[.string s,.string ⟨#[c]⟩] w fun e w'=>e= .returned (.bool (decide (0≤Lib.indexByte s.data.toList c)))∧w=w':=by
  go_enter Tryd.func73,Tryd.ntmps73
  go_wp2_with (go_at_call 83;refine(sindex_one _ _ _).mono ?_;rintro e w' ⟨rfl,rfl⟩)
  go_ret
  exact⟨rfl,rfl⟩
end Go.Proofs.YtmklpbmlgjkbiaaDoor.PS
end
section
namespace Go.Proofs.YtmklpbmlgjkbiaaDoor.PS
open Go.RowKit Go.Proofs.YtmklpbmlgjkbiaaDoorW.PrintWords Go.Proofs.YtmklpbmlgjkbiaaDoorW.PrintLast
def hasC (k:Int) (c:UInt8):Bool:=decide (0≤Lib.indexByte (howR k).f1.data.toList c)
theorem hasC_R (k:Int):hasC k 82=hasR k:=by
  refine kinds (P:=fun k=>hasC k 82=hasR k) (fun k hk=> ?_) (by decide) (by decide) (by decide) (by decide) (by decide) (by decide) (by decide) (by decide) (by decide) (by decide) (by decide) (by decide) (by decide) (by decide) k
  unfold hasC howR;rw[if_neg hk];have:hasR k=false:=by unfold hasR;exact decide_eq_false (by omega)
  rw[this];decide
theorem hasC_S (k:Int):hasC k 83=hasS k:=by
  refine kinds (P:=fun k=>hasC k 83=hasS k) (fun k hk=> ?_) (by decide) (by decide) (by decide) (by decide) (by decide) (by decide) (by decide) (by decide) (by decide) (by decide) (by decide) (by decide) (by decide) (by decide) k
  unfold hasC howR;rw[if_neg hk];have:hasS k=false:=by unfold hasS;exact decide_eq_false (by omega)
  rw[this];decide
theorem hasC_T (k:Int):hasC k 84=hasT k:=by
  refine kinds (P:=fun k=>hasC k 84=hasT k) (fun k hk=> ?_) (by decide) (by decide) (by decide) (by decide) (by decide) (by decide) (by decide) (by decide) (by decide) (by decide) (by decide) (by decide) (by decide) (by decide) k
  unfold hasC howR;rw[if_neg hk];have:hasT k=false:=by unfold hasT;exact decide_eq_false (by omega)
  rw[this];decide
theorem hasC_V (k:Int):hasC k 86=hasV k:=by
  refine kinds (P:=fun k=>hasC k 86=hasV k) (fun k hk=> ?_) (by decide) (by decide) (by decide) (by decide) (by decide) (by decide) (by decide) (by decide) (by decide) (by decide) (by decide) (by decide) (by decide) (by decide) k
  unfold hasC howR;rw[if_neg hk];have:hasV k=false:=by unfold hasV;exact decide_eq_false (by omega)
  rw[this];decide
theorem has_any (k r s t vk vn:Int) (c:UInt8) (w:World):
    Calls Tryd.prog 52 #[.agg #[.int .i64 k,.int .i64 r,.int .i64 s,.int .i64 t,.int .i64 vk,.int .i64 vn],.string ⟨#[c]⟩] w fun e w'=>e= .returned (.bool (hasC k c))∧Below w.heap.size w w':=by
  have hw:=fun W:World=>impl_Op_how.calls k r s t vk vn (howR k).f0 (howR k).f1 (howR k).f2 (howR k).f3 W rfl
  obtain⟨x,hx⟩: ∃x,x=howR k:=⟨_,rfl⟩;unfold hasC;rw[←hx]at hw⊢
  clear hx;have hu66:=Tryd.underlying67;have hfd: ∀ (a b c d:Value) (W:World),Sem.run Tryd.prog (Instr.field 67 (.agg #[a,b,c,d]) 1) W= .ok b W:=fun _ _ _ _ _=>by kernel_rfl
  go_enter Tryd.func52,Tryd.ntmps52
  go_wp2_with (first|(go_at_call 51;refine(hw _).mono ?_;rintro e w' ⟨rfl,hb⟩)|(go_at_call 73;refine(contains_one _ _ _).mono ?_;rintro e w' ⟨rfl,rfl⟩))
  go_ret
  exact⟨rfl,below_step (below_alloc (Below.refl _ _) _) hb⟩
theorem eqA25 (d:Nat) (w:World) (x0 y0:Int) (x1 y1:Int):
    (Op.equalIn (d+2) 25 (.agg #[.int .i64 x0,.int .i64 x1]) (.agg #[.int .i64 y0,.int .i64 y1])).run Tryd.prog w= .ok (x0==y0&&(x1==y1)) w:=by
  refine eqA_of Tryd.underlying25 (by kernel_rfl) ?_
  refine eqf_cons (by rfl) (by go_simp;rfl) (by go_simp;rfl) (by go_simp) ?_
  exact eqf_last (by rfl) (by go_simp;rfl) (by go_simp;rfl) (by go_simp)
def fieldB (h:Bool) (n m:Int):Bool:=if h=true then decide (0≤n∧n≤m)else decide (n=0)
theorem field_any (B:Nat) (k r s t vk vn:Int) (c:UInt8) (n m:Int) (w:World) (hB:w.heap[B]?=some (.cells #[.int .i64 k,.int .i64 r,.int .i64 s,.int .i64 t,.int .i64 vk,.int .i64 vn] 35 (0,0))):
    Calls Tryd.prog 67 #[.string ⟨#[c]⟩,.int .i64 n,.int .i64 m,.pointer (some ⟨B,0,none⟩)] w fun e w'=>e= .returned (.bool (fieldB (hasC k c) n m))∧Below w.heap.size w w':=by
  have q0:=blk_cell hB 0;have q1:=blk_cell hB 1;have q2:=blk_cell hB 2;have q3:=blk_cell hB 3;have q4:=blk_cell hB 4;have q5:=blk_cell hB 5;simp at q0 q1 q2 q3 q4 q5
  clear hB;have hw:=fun W:World=>has_any k r s t vk vn c W
  obtain⟨h,hh⟩: ∃h,h=hasC k c:=⟨_,rfl⟩;rw[←hh]at hw⊢
  clear hh;unfold fieldB;cases h
  · go_enter Tryd.func67,Tryd.ntmps67
    go_wp2_with (first|(go_at_call 52;refine(hw _).mono ?_;rintro e w' ⟨rfl,hb⟩)|(go_at_call 55;refine(in_any _ _ _ _).mono ?_;rintro e w' ⟨rfl,rfl⟩))
    go_ret
    exact⟨by by_cases hn:n=0<;>simp[hn],hb⟩
  · go_enter Tryd.func67,Tryd.ntmps67
    go_wp2_with (first|(go_at_call 52;refine(hw _).mono ?_;rintro e w' ⟨rfl,hb⟩)|(go_at_call 55;refine(in_any _ _ _ _).mono ?_;rintro e w' ⟨rfl,rfl⟩))
    go_ret
    exact⟨by simp,hb⟩
theorem valok_any (a b:Int) (w:World):Calls Tryd.prog 27 #[.agg #[.int .i64 a,.int .i64 b]] w fun e w'=>e= .returned (.bool (okB a b))∧Below w.heap.size w w':=by
  by_cases h0:a=0
  · subst h0
    have e:okB 0 b=(b==0):=by
      unfold okB okP;by_cases hb:b=0<;>simp[hb]
    rw[e];go_enter Tryd.func27,Tryd.ntmps27
    go_wp2
    go_ret
    exact⟨by first|rfl|simp,below_alloc (Below.refl _ _) _⟩
  by_cases h1:a=1
  · subst h1
    have e:okB 1 b=decide (-99≤b∧b≤99):=by unfold okB okP;simp
    rw[e];go_enter Tryd.func27,Tryd.ntmps27
    go_wp2_with (go_at_call 55;refine(in_any _ _ _ _).mono ?_;rintro e w' ⟨rfl,rfl⟩)
    go_ret
    exact⟨by first|rfl|simp,below_alloc (Below.refl _ _) _⟩
  by_cases h2:a=2
  · subst h2
    have e:okB 2 b=decide (0≤b∧b≤9):=by unfold okB okP;simp
    rw[e];go_enter Tryd.func27,Tryd.ntmps27
    go_wp2_with (go_at_call 55;refine(in_any _ _ _ _).mono ?_;rintro e w' ⟨rfl,rfl⟩)
    go_ret
    exact⟨by first|rfl|simp,below_alloc (Below.refl _ _) _⟩
  by_cases h3:a=3
  · subst h3
    have e:okB 3 b=decide (1≤b∧b≤6):=by unfold okB okP;simp
    rw[e];go_enter Tryd.func27,Tryd.ntmps27
    go_wp2_with (go_at_call 55;refine(in_any _ _ _ _).mono ?_;rintro e w' ⟨rfl,rfl⟩)
    go_ret
    exact⟨by first|rfl|simp,below_alloc (Below.refl _ _) _⟩
  have e:okB a b=false:=by unfold okB okP;simp[h0,h1,h2,h3]
  rw[e];have b0:(a==0)=false:=by simpa using h0
  have b1:(a==1)=false:=by simpa using h1
  have b2:(a==2)=false:=by simpa using h2
  have b3:(a==3)=false:=by simpa using h3
  go_enter Tryd.func27,Tryd.ntmps27
  go_wp2
  go_ret
  exact⟨rfl,below_alloc (Below.refl _ _) _⟩
end Go.Proofs.YtmklpbmlgjkbiaaDoor.PS
end
section
namespace Go.Proofs.YtmklpbmlgjkbiaaDoor.PS
open Go.RowKit Go.Proofs.YtmklpbmlgjkbiaaDoorW.PrintWords Go.Proofs.YtmklpbmlgjkbiaaDoorW.PrintLast Go.Proofs.YtmklpbmlgjkbiaaDoorW.PrintMore
attribute [local go_sem] max2_int min2_int max_two min_two max_three min_three max_four min_four   -- for this text's walks alone
def laws_toVal.f (a0_0:Int) (a0_1:Int):Option (Int×Int):=some (a0_0,a0_1)
theorem laws_toVal.calls (a0_0:Int) (a0_1:Int) (r1:Int) (r2:Int) (w:World) (h:laws_toVal.f a0_0 a0_1=some (r1,r2)):
    Calls Tryd.prog 18 #[.agg #[.int .i64 a0_0,.int .i64 a0_1]] w fun e w'=>e= .returned (.agg #[.int .i64 r1,.int .i64 r2])∧Below w.heap.size w w':=by
  have hu23:=Tryd.underlying23;have hu25:=Tryd.underlying25;have HB:=Aside0.mk (Below.refl w.heap.size w);have H:(some (a0_0,a0_1))=some (r1,r2):=h;clear h;simp only[Option.some.injEq,Prod.mk.injEq]at H
  obtain⟨rfl,rfl⟩:=H;go_enter Tryd.func18,Tryd.ntmps18
  go_wp2_with (first|((with_reducible refine gate_dst (N:=1) rfl ?_);refine box_event ?hg (N:=1) ?hd (cs:= #[.int .i64 a0_0,.int .i64 a0_1]) (t:=23) ?hr ?_;(case hd=>rfl);(case hg=>rfl);(case hr=>first|(go_simp;done)|(go_simp;rfl));intro gb101 hg w2 hbox hb;have n0_:=Aside0.mk (below_step (by repeat(first|(with_reducible first|exact HB.out|apply below_alloc|apply pw_below_drewN|apply below_drew1)|exact HB.out)) hb);have n1_:=Aside0.mk (hbox);have n2_:=Aside0.mk ((by rw[hg];exact(below_size (by repeat(first|(with_reducible first|exact HB.out|apply below_alloc|apply pw_below_drewN|apply below_drew1)|exact HB.out))):w.heap.size≤gb101));have n3_:=Aside0.mk ((by rw[hg];exact(below_size (by repeat(first|(with_reducible first|exact HB.out|apply below_alloc|apply pw_below_drewN|apply below_drew1)|exact HB.out))):w.heap.size≤gb101));clear HB;have HB:=n0_;have BK101:=n1_;have GW101:=n2_;have GE101:=n3_;clear n0_ n1_ n2_ n3_;clear hb hbox hg)|((with_reducible refine gate_dst (N:=2) rfl ?_);refine box_event ?hg (N:=2) ?hd (cs:= #[.int .i64 0,.int .i64 0]) (t:=25) ?hr ?_;(case hd=>rfl);(case hg=>rfl);(case hr=>first|(go_simp;done)|(go_simp;rfl));intro gb102 hg w3 hbox hb;have n0_:=Aside0.mk (blk_below (g:=gb101) (o:=.cells #[.int .i64 a0_0,.int .i64 a0_1] 23 (0,0)) (by(with_reducible repeat(first|refine blk_drewN ?_ _|refine blk_drew ?_|refine blk_alloc ?_ _));exact BK101.out) hb);have n1_:=Aside0.mk (below_step (by repeat(first|(with_reducible first|exact HB.out|apply below_alloc|apply pw_below_drewN|apply below_drew1|refine below_set ?_ GE101.out)|exact HB.out)) hb);have n2_:=Aside0.mk (hbox);have n3_:=Aside0.mk ((by rw[hg];exact(below_size (by repeat(first|(with_reducible first|exact HB.out|apply below_alloc|apply pw_below_drewN|apply below_drew1|refine below_set ?_ GE101.out)|exact HB.out))):w.heap.size≤gb102));have n4_:=Aside0.mk ((by rw[hg];exact(below_size (by repeat(first|(with_reducible first|exact HB.out|apply below_alloc|apply pw_below_drewN|apply below_drew1|refine below_set ?_ GE101.out)|exact HB.out))):w.heap.size≤gb102));have n5_:=Aside0.mk ((by rw[hg];exact Nat.ne_of_lt (blk_lt (g:=gb101) (o:=.cells #[.int .i64 a0_0,.int .i64 a0_1] 23 (0,0)) (by(with_reducible repeat(first|refine blk_drewN ?_ _|refine blk_drew ?_|refine blk_alloc ?_ _));exact BK101.out)):gb101≠gb102));have n6_:=Aside0.mk ((by rw[hg];exact Nat.ne_of_gt (blk_lt (g:=gb101) (o:=.cells #[.int .i64 a0_0,.int .i64 a0_1] 23 (0,0)) (by(with_reducible repeat(first|refine blk_drewN ?_ _|refine blk_drew ?_|refine blk_alloc ?_ _));exact BK101.out)):gb102≠gb101));clear BK101;clear HB;have BK101:=n0_;have HB:=n1_;have BK102:=n2_;have GW102:=n3_;have GE102:=n4_;have NB101_102:=n5_;have NB102_101:=n6_;clear n0_ n1_ n2_ n3_ n4_ n5_ n6_;clear hb hbox hg)|((with_reducible refine gate_dst (N:=3) rfl ?_);refine box_event ?hg (N:=3) ?hd (cs:= #[.int .i64 0,.int .i64 0]) (t:=25) ?hr ?_;(case hd=>rfl);(case hg=>rfl);(case hr=>first|(go_simp;done)|(go_simp;rfl));intro gb103 hg w4 hbox hb;have n0_:=Aside0.mk (blk_below (g:=gb101) (o:=.cells #[.int .i64 a0_0,.int .i64 a0_1] 23 (0,0)) (by(with_reducible repeat(first|refine blk_drewN ?_ _|refine blk_drew ?_|refine blk_alloc ?_ _));exact BK101.out) hb);have n1_:=Aside0.mk (blk_below (g:=gb102) (o:=.cells #[.int .i64 0,.int .i64 0] 25 (0,0)) (by(with_reducible repeat(first|refine blk_drewN ?_ _|refine blk_drew ?_|refine blk_alloc ?_ _));exact BK102.out) hb);have n2_:=Aside0.mk (below_step (by repeat(first|(with_reducible first|exact HB.out|apply below_alloc|apply pw_below_drewN|apply below_drew1|refine below_set ?_ GE101.out|refine below_set ?_ GE102.out)|exact HB.out)) hb);have n3_:=Aside0.mk (hbox);have n4_:=Aside0.mk ((by rw[hg];exact(below_size (by repeat(first|(with_reducible first|exact HB.out|apply below_alloc|apply pw_below_drewN|apply below_drew1|refine below_set ?_ GE101.out|refine below_set ?_ GE102.out)|exact HB.out))):w.heap.size≤gb103));have n5_:=Aside0.mk ((by rw[hg];exact(below_size (by repeat(first|(with_reducible first|exact HB.out|apply below_alloc|apply pw_below_drewN|apply below_drew1|refine below_set ?_ GE101.out|refine below_set ?_ GE102.out)|exact HB.out))):w.heap.size≤gb103));have n6_:=Aside0.mk ((by rw[hg];exact Nat.ne_of_lt (blk_lt (g:=gb101) (o:=.cells #[.int .i64 a0_0,.int .i64 a0_1] 23 (0,0)) (by(with_reducible repeat(first|refine blk_drewN ?_ _|refine blk_drew ?_|refine blk_alloc ?_ _));exact BK101.out)):gb101≠gb103));have n7_:=Aside0.mk ((by rw[hg];exact Nat.ne_of_gt (blk_lt (g:=gb101) (o:=.cells #[.int .i64 a0_0,.int .i64 a0_1] 23 (0,0)) (by(with_reducible repeat(first|refine blk_drewN ?_ _|refine blk_drew ?_|refine blk_alloc ?_ _));exact BK101.out)):gb103≠gb101));have n8_:=Aside0.mk ((by rw[hg];exact Nat.ne_of_lt (blk_lt (g:=gb102) (o:=.cells #[.int .i64 0,.int .i64 0] 25 (0,0)) (by(with_reducible repeat(first|refine blk_drewN ?_ _|refine blk_drew ?_|refine blk_alloc ?_ _));exact BK102.out)):gb102≠gb103));have n9_:=Aside0.mk ((by rw[hg];exact Nat.ne_of_gt (blk_lt (g:=gb102) (o:=.cells #[.int .i64 0,.int .i64 0] 25 (0,0)) (by(with_reducible repeat(first|refine blk_drewN ?_ _|refine blk_drew ?_|refine blk_alloc ?_ _));exact BK102.out)):gb103≠gb102));clear BK101;clear BK102;clear HB;have BK101:=n0_;have BK102:=n1_;have HB:=n2_;have BK103:=n3_;have GW103:=n4_;have GE103:=n5_;have NB101_103:=n6_;have NB103_101:=n7_;have NB102_103:=n8_;have NB103_102:=n9_;clear n0_ n1_ n2_ n3_ n4_ n5_ n6_ n7_ n8_ n9_;clear hb hbox hg;have hnb5:=NB101_102.out;have hnc5:=NB102_101.out;have hnb6:=NB101_103.out;have hnc6:=NB103_101.out;have hcz7_0:w4.cell? ⟨gb101,0,none⟩=some (.int .i64 a0_0):=(blk_cell BK101.out 0).trans rfl;have hcz7_1:w4.cell? ⟨gb101,1,none⟩=some (.int .i64 a0_1):=(blk_cell BK101.out 1).trans rfl;have hfz7_0:=blk_frozen BK101.out 0;have hfz7_1:=blk_frozen BK101.out 1;have hnb8:=NB103_102.out;have hnc8:=NB102_103.out;have hcz9_0:w4.cell? ⟨gb103,0,none⟩=some (.int .i64 0):=(blk_cell BK103.out 0).trans rfl;have hcz9_1:w4.cell? ⟨gb103,1,none⟩=some (.int .i64 0):=(blk_cell BK103.out 1).trans rfl;have hfz9_0:=blk_frozen BK103.out 0;have hfz9_1:=blk_frozen BK103.out 1;have hcz10_0:w4.cell? ⟨gb102,0,none⟩=some (.int .i64 0):=(blk_cell BK102.out 0).trans rfl;have hcz10_1:w4.cell? ⟨gb102,1,none⟩=some (.int .i64 0):=(blk_cell BK102.out 1).trans rfl;have hfz10_0:=blk_frozen BK102.out 0;have hfz10_1:=blk_frozen BK102.out 1))
  refine bodyPost_ret (results_cell_row rfl _ _ gb102 25 #[.int .i64 a0_0,.int .i64 a0_1] (0,0) _ rfl (by(with_reducible repeat(first|refine blk_drewN ?_ _|refine blk_drew ?_|refine blk_alloc ?_ _));refine blk_put (cs:= #[.int .i64 a0_0,.int .i64 0]) ?_ 1 _ rfl;(with_reducible repeat(first|refine blk_drewN ?_ _|refine blk_drew ?_|refine blk_alloc ?_ _));refine blk_put (cs:= #[.int .i64 0,.int .i64 0]) ?_ 0 _ rfl;(with_reducible repeat(first|refine blk_drewN ?_ _|refine blk_drew ?_|refine blk_alloc ?_ _));refine blk_far ?_ NB102_103.out _;(with_reducible repeat(first|refine blk_drewN ?_ _|refine blk_drew ?_|refine blk_alloc ?_ _));refine blk_far ?_ NB102_103.out _;(with_reducible repeat(first|refine blk_drewN ?_ _|refine blk_drew ?_|refine blk_alloc ?_ _));exact BK102.out) Tryd.underlying25 rfl (by kernel_rfl)) rfl ?_
  exact⟨by first|rfl|(simp[errW_none,errW_some]<;>rfl)|(simp[*,errW_none,errW_some]<;>rfl),by repeat(first|(with_reducible first|exact HB.out|apply below_alloc|apply pw_below_drewN|apply below_drew1|refine below_set ?_ GE101.out|refine below_set ?_ GE102.out|refine below_set ?_ GE103.out)|exact HB.out)⟩
def laws_toOp.f (a0_0:Int) (a0_1:Int) (a0_2:Int) (a0_3:Int) (a0_4:Int) (a0_5:Int):Option (Int×Int×Int×Int×Int×Int):=(laws_toVal.f a0_4 a0_5).bind fun bt107=>(some (a0_0,a0_1,a0_2,a0_3,bt107.1,bt107.2))
theorem laws_toOp.calls (a0_0:Int) (a0_1:Int) (a0_2:Int) (a0_3:Int) (a0_4:Int) (a0_5:Int) (r1:Int) (r2:Int) (r3:Int) (r4:Int) (r5:Int) (r6:Int) (w:World) (h:laws_toOp.f a0_0 a0_1 a0_2 a0_3 a0_4 a0_5=some (r1,r2,r3,r4,r5,r6)):
    Calls Tryd.prog 23 #[.agg #[.int .i64 a0_0,.int .i64 a0_1,.int .i64 a0_2,.int .i64 a0_3,.int .i64 a0_4,.int .i64 a0_5]] w fun e w'=>e= .returned (.agg #[.int .i64 r1,.int .i64 r2,.int .i64 r3,.int .i64 r4,.int .i64 r5,.int .i64 r6])∧Below w.heap.size w w':=by
  have hu32:=Tryd.underlying32;have hu35:=Tryd.underlying35;have hu23:=Tryd.underlying23;have hu25:=Tryd.underlying25;have HB:=Aside0.mk (Below.refl w.heap.size w);have H:((laws_toVal.f a0_4 a0_5).bind fun bt107=>(some (a0_0,a0_1,a0_2,a0_3,bt107.1,bt107.2)))=some (r1,r2,r3,r4,r5,r6):=h
  clear h;replace H:=Option.bind_eq_some_iff.mp H;obtain⟨⟨t107,t108⟩,A20,H⟩:=H;replace H:(some (a0_0,a0_1,a0_2,a0_3,t107,t108))=some (r1,r2,r3,r4,r5,r6):=H;have A2:=Aside0.mk A20;clear A20;simp only[Option.some.injEq,Prod.mk.injEq]at H
  obtain⟨rfl,rfl,rfl,rfl,rfl,rfl⟩:=H;go_enter Tryd.func23,Tryd.ntmps23
  go_wp2_with (first|((with_reducible refine gate_dst (N:=1) rfl ?_);refine box_event ?hg (N:=1) ?hd (cs:= #[.int .i64 a0_0,.int .i64 a0_1,.int .i64 a0_2,.int .i64 a0_3,.int .i64 a0_4,.int .i64 a0_5]) (t:=32) ?hr ?_;(case hd=>rfl);(case hg=>rfl);(case hr=>first|(go_simp;done)|(go_simp;rfl));intro gb104 hg w3 hbox hb;have n0_:=Aside0.mk (below_step (by repeat(first|(with_reducible first|exact HB.out|apply below_alloc|apply pw_below_drewN|apply below_drew1)|exact HB.out)) hb);have n1_:=Aside0.mk (hbox);have n2_:=Aside0.mk ((by rw[hg];exact(below_size (by repeat(first|(with_reducible first|exact HB.out|apply below_alloc|apply pw_below_drewN|apply below_drew1)|exact HB.out))):w.heap.size≤gb104));have n3_:=Aside0.mk ((by rw[hg];exact(below_size (by repeat(first|(with_reducible first|exact HB.out|apply below_alloc|apply pw_below_drewN|apply below_drew1)|exact HB.out))):w.heap.size≤gb104));clear HB;have HB:=n0_;have BK104:=n1_;have GW104:=n2_;have GE104:=n3_;clear n0_ n1_ n2_ n3_;clear hb hbox hg)|((with_reducible refine gate_dst (N:=2) rfl ?_);refine box_event ?hg (N:=2) ?hd (cs:= #[.int .i64 0,.int .i64 0,.int .i64 0,.int .i64 0,.int .i64 0,.int .i64 0]) (t:=35) ?hr ?_;(case hd=>rfl);(case hg=>rfl);(case hr=>first|(go_simp;done)|(go_simp;rfl));intro gb105 hg w4 hbox hb;have n0_:=Aside0.mk (blk_below (g:=gb104) (o:=.cells #[.int .i64 a0_0,.int .i64 a0_1,.int .i64 a0_2,.int .i64 a0_3,.int .i64 a0_4,.int .i64 a0_5] 32 (0,0)) (by(with_reducible repeat(first|refine blk_drewN ?_ _|refine blk_drew ?_|refine blk_alloc ?_ _));exact BK104.out) hb);have n1_:=Aside0.mk (below_step (by repeat(first|(with_reducible first|exact HB.out|apply below_alloc|apply pw_below_drewN|apply below_drew1|refine below_set ?_ GE104.out)|exact HB.out)) hb);have n2_:=Aside0.mk (hbox);have n3_:=Aside0.mk ((by rw[hg];exact(below_size (by repeat(first|(with_reducible first|exact HB.out|apply below_alloc|apply pw_below_drewN|apply below_drew1|refine below_set ?_ GE104.out)|exact HB.out))):w.heap.size≤gb105));have n4_:=Aside0.mk ((by rw[hg];exact(below_size (by repeat(first|(with_reducible first|exact HB.out|apply below_alloc|apply pw_below_drewN|apply below_drew1|refine below_set ?_ GE104.out)|exact HB.out))):w.heap.size≤gb105));have n5_:=Aside0.mk ((by rw[hg];exact Nat.ne_of_lt (blk_lt (g:=gb104) (o:=.cells #[.int .i64 a0_0,.int .i64 a0_1,.int .i64 a0_2,.int .i64 a0_3,.int .i64 a0_4,.int .i64 a0_5] 32 (0,0)) (by(with_reducible repeat(first|refine blk_drewN ?_ _|refine blk_drew ?_|refine blk_alloc ?_ _));exact BK104.out)):gb104≠gb105));have n6_:=Aside0.mk ((by rw[hg];exact Nat.ne_of_gt (blk_lt (g:=gb104) (o:=.cells #[.int .i64 a0_0,.int .i64 a0_1,.int .i64 a0_2,.int .i64 a0_3,.int .i64 a0_4,.int .i64 a0_5] 32 (0,0)) (by(with_reducible repeat(first|refine blk_drewN ?_ _|refine blk_drew ?_|refine blk_alloc ?_ _));exact BK104.out)):gb105≠gb104));clear BK104;clear HB;have BK104:=n0_;have HB:=n1_;have BK105:=n2_;have GW105:=n3_;have GE105:=n4_;have NB104_105:=n5_;have NB105_104:=n6_;clear n0_ n1_ n2_ n3_ n4_ n5_ n6_;clear hb hbox hg)|((with_reducible refine gate_dst (N:=3) rfl ?_);refine box_event ?hg (N:=3) ?hd (cs:= #[.int .i64 0,.int .i64 0,.int .i64 0,.int .i64 0,.int .i64 0,.int .i64 0]) (t:=35) ?hr ?_;(case hd=>rfl);(case hg=>rfl);(case hr=>first|(go_simp;done)|(go_simp;rfl));intro gb106 hg w5 hbox hb;have n0_:=Aside0.mk (blk_below (g:=gb104) (o:=.cells #[.int .i64 a0_0,.int .i64 a0_1,.int .i64 a0_2,.int .i64 a0_3,.int .i64 a0_4,.int .i64 a0_5] 32 (0,0)) (by(with_reducible repeat(first|refine blk_drewN ?_ _|refine blk_drew ?_|refine blk_alloc ?_ _));exact BK104.out) hb);have n1_:=Aside0.mk (blk_below (g:=gb105) (o:=.cells #[.int .i64 0,.int .i64 0,.int .i64 0,.int .i64 0,.int .i64 0,.int .i64 0] 35 (0,0)) (by(with_reducible repeat(first|refine blk_drewN ?_ _|refine blk_drew ?_|refine blk_alloc ?_ _));exact BK105.out) hb);have n2_:=Aside0.mk (below_step (by repeat(first|(with_reducible first|exact HB.out|apply below_alloc|apply pw_below_drewN|apply below_drew1|refine below_set ?_ GE104.out|refine below_set ?_ GE105.out)|exact HB.out)) hb);have n3_:=Aside0.mk (hbox);have n4_:=Aside0.mk ((by rw[hg];exact(below_size (by repeat(first|(with_reducible first|exact HB.out|apply below_alloc|apply pw_below_drewN|apply below_drew1|refine below_set ?_ GE104.out|refine below_set ?_ GE105.out)|exact HB.out))):w.heap.size≤gb106));have n5_:=Aside0.mk ((by rw[hg];exact(below_size (by repeat(first|(with_reducible first|exact HB.out|apply below_alloc|apply pw_below_drewN|apply below_drew1|refine below_set ?_ GE104.out|refine below_set ?_ GE105.out)|exact HB.out))):w.heap.size≤gb106));have n6_:=Aside0.mk ((by rw[hg];exact Nat.ne_of_lt (blk_lt (g:=gb104) (o:=.cells #[.int .i64 a0_0,.int .i64 a0_1,.int .i64 a0_2,.int .i64 a0_3,.int .i64 a0_4,.int .i64 a0_5] 32 (0,0)) (by(with_reducible repeat(first|refine blk_drewN ?_ _|refine blk_drew ?_|refine blk_alloc ?_ _));exact BK104.out)):gb104≠gb106));have n7_:=Aside0.mk ((by rw[hg];exact Nat.ne_of_gt (blk_lt (g:=gb104) (o:=.cells #[.int .i64 a0_0,.int .i64 a0_1,.int .i64 a0_2,.int .i64 a0_3,.int .i64 a0_4,.int .i64 a0_5] 32 (0,0)) (by(with_reducible repeat(first|refine blk_drewN ?_ _|refine blk_drew ?_|refine blk_alloc ?_ _));exact BK104.out)):gb106≠gb104));have n8_:=Aside0.mk ((by rw[hg];exact Nat.ne_of_lt (blk_lt (g:=gb105) (o:=.cells #[.int .i64 0,.int .i64 0,.int .i64 0,.int .i64 0,.int .i64 0,.int .i64 0] 35 (0,0)) (by(with_reducible repeat(first|refine blk_drewN ?_ _|refine blk_drew ?_|refine blk_alloc ?_ _));exact BK105.out)):gb105≠gb106));have n9_:=Aside0.mk ((by rw[hg];exact Nat.ne_of_gt (blk_lt (g:=gb105) (o:=.cells #[.int .i64 0,.int .i64 0,.int .i64 0,.int .i64 0,.int .i64 0,.int .i64 0] 35 (0,0)) (by(with_reducible repeat(first|refine blk_drewN ?_ _|refine blk_drew ?_|refine blk_alloc ?_ _));exact BK105.out)):gb106≠gb105));clear BK104;clear BK105;clear HB;have BK104:=n0_;have BK105:=n1_;have HB:=n2_;have BK106:=n3_;have GW106:=n4_;have GE106:=n5_;have NB104_106:=n6_;have NB106_104:=n7_;have NB105_106:=n8_;have NB106_105:=n9_;clear n0_ n1_ n2_ n3_ n4_ n5_ n6_ n7_ n8_ n9_;clear hb hbox hg;have hnb6:=NB104_105.out;have hnc6:=NB105_104.out;have hnb7:=NB104_106.out;have hnc7:=NB106_104.out;have hcz8_0:w5.cell? ⟨gb104,0,none⟩=some (.int .i64 a0_0):=(blk_cell BK104.out 0).trans rfl;have hcz8_1:w5.cell? ⟨gb104,1,none⟩=some (.int .i64 a0_1):=(blk_cell BK104.out 1).trans rfl;have hcz8_2:w5.cell? ⟨gb104,2,none⟩=some (.int .i64 a0_2):=(blk_cell BK104.out 2).trans rfl;have hcz8_3:w5.cell? ⟨gb104,3,none⟩=some (.int .i64 a0_3):=(blk_cell BK104.out 3).trans rfl;have hcz8_4:w5.cell? ⟨gb104,4,none⟩=some (.int .i64 a0_4):=(blk_cell BK104.out 4).trans rfl;have hcz8_5:w5.cell? ⟨gb104,5,none⟩=some (.int .i64 a0_5):=(blk_cell BK104.out 5).trans rfl;have hfz8_0:=blk_frozen BK104.out 0;have hfz8_1:=blk_frozen BK104.out 1;have hfz8_2:=blk_frozen BK104.out 2;have hfz8_3:=blk_frozen BK104.out 3;have hfz8_4:=blk_frozen BK104.out 4;have hfz8_5:=blk_frozen BK104.out 5;have hnb9:=NB106_105.out;have hnc9:=NB105_106.out;have hcz10_0:w5.cell? ⟨gb106,0,none⟩=some (.int .i64 0):=(blk_cell BK106.out 0).trans rfl;have hcz10_1:w5.cell? ⟨gb106,1,none⟩=some (.int .i64 0):=(blk_cell BK106.out 1).trans rfl;have hcz10_2:w5.cell? ⟨gb106,2,none⟩=some (.int .i64 0):=(blk_cell BK106.out 2).trans rfl;have hcz10_3:w5.cell? ⟨gb106,3,none⟩=some (.int .i64 0):=(blk_cell BK106.out 3).trans rfl;have hcz10_4:w5.cell? ⟨gb106,4,none⟩=some (.int .i64 0):=(blk_cell BK106.out 4).trans rfl;have hcz10_5:w5.cell? ⟨gb106,5,none⟩=some (.int .i64 0):=(blk_cell BK106.out 5).trans rfl;have hfz10_0:=blk_frozen BK106.out 0;have hfz10_1:=blk_frozen BK106.out 1;have hfz10_2:=blk_frozen BK106.out 2;have hfz10_3:=blk_frozen BK106.out 3;have hfz10_4:=blk_frozen BK106.out 4;have hfz10_5:=blk_frozen BK106.out 5)|((with_reducible refine gate_callee (f:=18) rfl ?_);refine goesL_ (some 18) rfl rfl Tryd.func18 (by kernel_rfl) rfl #[.agg #[.int .i64 a0_4,.int .i64 a0_5]] rfl (by(try simp only[List.map_toArray,List.map_cons,List.map_nil]);first|done|rfl|(simp only[List.length_drop,List.length_take];rfl)) ?_;(with_reducible refine(laws_toVal.calls a0_4 a0_5 t107 t108 _ A2.out).mono ?_);rintro e w11 ⟨rfl,hb⟩;refine⟨_,rfl,?_⟩;have n0_:=Aside0.mk (blk_below (g:=gb104) (o:=.cells #[.int .i64 a0_0,.int .i64 a0_1,.int .i64 a0_2,.int .i64 a0_3,.int .i64 a0_4,.int .i64 a0_5] 32 (0,0)) (by(with_reducible repeat(first|refine blk_drewN ?_ _|refine blk_drew ?_|refine blk_alloc ?_ _));refine blk_far ?_ NB104_106.out _;(with_reducible repeat(first|refine blk_drewN ?_ _|refine blk_drew ?_|refine blk_alloc ?_ _));refine blk_far ?_ NB104_106.out _;(with_reducible repeat(first|refine blk_drewN ?_ _|refine blk_drew ?_|refine blk_alloc ?_ _));refine blk_far ?_ NB104_106.out _;(with_reducible repeat(first|refine blk_drewN ?_ _|refine blk_drew ?_|refine blk_alloc ?_ _));refine blk_far ?_ NB104_106.out _;(with_reducible repeat(first|refine blk_drewN ?_ _|refine blk_drew ?_|refine blk_alloc ?_ _));exact BK104.out) hb);have n1_:=Aside0.mk (blk_below (g:=gb105) (o:=.cells #[.int .i64 0,.int .i64 0,.int .i64 0,.int .i64 0,.int .i64 0,.int .i64 0] 35 (0,0)) (by(with_reducible repeat(first|refine blk_drewN ?_ _|refine blk_drew ?_|refine blk_alloc ?_ _));refine blk_far ?_ NB105_106.out _;(with_reducible repeat(first|refine blk_drewN ?_ _|refine blk_drew ?_|refine blk_alloc ?_ _));refine blk_far ?_ NB105_106.out _;(with_reducible repeat(first|refine blk_drewN ?_ _|refine blk_drew ?_|refine blk_alloc ?_ _));refine blk_far ?_ NB105_106.out _;(with_reducible repeat(first|refine blk_drewN ?_ _|refine blk_drew ?_|refine blk_alloc ?_ _));refine blk_far ?_ NB105_106.out _;(with_reducible repeat(first|refine blk_drewN ?_ _|refine blk_drew ?_|refine blk_alloc ?_ _));exact BK105.out) hb);have n2_:=Aside0.mk (blk_below (g:=gb106) (o:=.cells #[.int .i64 a0_0,.int .i64 a0_1,.int .i64 a0_2,.int .i64 a0_3,.int .i64 0,.int .i64 0] 35 (0,0)) (by(with_reducible repeat(first|refine blk_drewN ?_ _|refine blk_drew ?_|refine blk_alloc ?_ _));refine blk_put (cs:= #[.int .i64 a0_0,.int .i64 a0_1,.int .i64 a0_2,.int .i64 0,.int .i64 0,.int .i64 0]) ?_ 3 _ rfl;(with_reducible repeat(first|refine blk_drewN ?_ _|refine blk_drew ?_|refine blk_alloc ?_ _));refine blk_put (cs:= #[.int .i64 a0_0,.int .i64 a0_1,.int .i64 0,.int .i64 0,.int .i64 0,.int .i64 0]) ?_ 2 _ rfl;(with_reducible repeat(first|refine blk_drewN ?_ _|refine blk_drew ?_|refine blk_alloc ?_ _));refine blk_put (cs:= #[.int .i64 a0_0,.int .i64 0,.int .i64 0,.int .i64 0,.int .i64 0,.int .i64 0]) ?_ 1 _ rfl;(with_reducible repeat(first|refine blk_drewN ?_ _|refine blk_drew ?_|refine blk_alloc ?_ _));refine blk_put (cs:= #[.int .i64 0,.int .i64 0,.int .i64 0,.int .i64 0,.int .i64 0,.int .i64 0]) ?_ 0 _ rfl;(with_reducible repeat(first|refine blk_drewN ?_ _|refine blk_drew ?_|refine blk_alloc ?_ _));exact BK106.out) hb);have n3_:=Aside0.mk (below_step (by repeat(first|(with_reducible first|exact HB.out|apply below_alloc|apply pw_below_drewN|apply below_drew1|refine below_set ?_ GE104.out|refine below_set ?_ GE105.out|refine below_set ?_ GE106.out)|exact HB.out)) hb);clear BK104;clear BK105;clear BK106;clear HB;have BK104:=n0_;have BK105:=n1_;have BK106:=n2_;have HB:=n3_;clear n0_ n1_ n2_ n3_;(try clear hb);(try clear hb2);(try clear hk);(try clear hi);have hcz12_0:w11.cell? ⟨gb106,0,none⟩=some (.int .i64 a0_0):=(blk_cell BK106.out 0).trans rfl;have hcz12_1:w11.cell? ⟨gb106,1,none⟩=some (.int .i64 a0_1):=(blk_cell BK106.out 1).trans rfl;have hcz12_2:w11.cell? ⟨gb106,2,none⟩=some (.int .i64 a0_2):=(blk_cell BK106.out 2).trans rfl;have hcz12_3:w11.cell? ⟨gb106,3,none⟩=some (.int .i64 a0_3):=(blk_cell BK106.out 3).trans rfl;have hcz12_4:w11.cell? ⟨gb106,4,none⟩=some (.int .i64 0):=(blk_cell BK106.out 4).trans rfl;have hcz12_5:w11.cell? ⟨gb106,5,none⟩=some (.int .i64 0):=(blk_cell BK106.out 5).trans rfl;have hfz12_0:=blk_frozen BK106.out 0;have hfz12_1:=blk_frozen BK106.out 1;have hfz12_2:=blk_frozen BK106.out 2;have hfz12_3:=blk_frozen BK106.out 3;have hfz12_4:=blk_frozen BK106.out 4;have hfz12_5:=blk_frozen BK106.out 5;have hcz13_0:w11.cell? ⟨gb105,0,none⟩=some (.int .i64 0):=(blk_cell BK105.out 0).trans rfl;have hcz13_1:w11.cell? ⟨gb105,1,none⟩=some (.int .i64 0):=(blk_cell BK105.out 1).trans rfl;have hcz13_2:w11.cell? ⟨gb105,2,none⟩=some (.int .i64 0):=(blk_cell BK105.out 2).trans rfl;have hcz13_3:w11.cell? ⟨gb105,3,none⟩=some (.int .i64 0):=(blk_cell BK105.out 3).trans rfl;have hcz13_4:w11.cell? ⟨gb105,4,none⟩=some (.int .i64 0):=(blk_cell BK105.out 4).trans rfl;have hcz13_5:w11.cell? ⟨gb105,5,none⟩=some (.int .i64 0):=(blk_cell BK105.out 5).trans rfl;have hfz13_0:=blk_frozen BK105.out 0;have hfz13_1:=blk_frozen BK105.out 1;have hfz13_2:=blk_frozen BK105.out 2;have hfz13_3:=blk_frozen BK105.out 3;have hfz13_4:=blk_frozen BK105.out 4;have hfz13_5:=blk_frozen BK105.out 5))
  refine bodyPost_ret (results_cell_row rfl _ _ gb105 35 #[.int .i64 a0_0,.int .i64 a0_1,.int .i64 a0_2,.int .i64 a0_3,.int .i64 t107,.int .i64 t108] (0,0) _ rfl (by(with_reducible repeat(first|refine blk_drewN ?_ _|refine blk_drew ?_|refine blk_alloc ?_ _));refine blk_put (cs:= #[.int .i64 a0_0,.int .i64 a0_1,.int .i64 a0_2,.int .i64 a0_3,.int .i64 t107,.int .i64 0]) ?_ 5 _ rfl;(with_reducible repeat(first|refine blk_drewN ?_ _|refine blk_drew ?_|refine blk_alloc ?_ _));refine blk_put (cs:= #[.int .i64 a0_0,.int .i64 a0_1,.int .i64 a0_2,.int .i64 a0_3,.int .i64 0,.int .i64 0]) ?_ 4 _ rfl;(with_reducible repeat(first|refine blk_drewN ?_ _|refine blk_drew ?_|refine blk_alloc ?_ _));refine blk_put (cs:= #[.int .i64 a0_0,.int .i64 a0_1,.int .i64 a0_2,.int .i64 0,.int .i64 0,.int .i64 0]) ?_ 3 _ rfl;(with_reducible repeat(first|refine blk_drewN ?_ _|refine blk_drew ?_|refine blk_alloc ?_ _));refine blk_put (cs:= #[.int .i64 a0_0,.int .i64 a0_1,.int .i64 0,.int .i64 0,.int .i64 0,.int .i64 0]) ?_ 2 _ rfl;(with_reducible repeat(first|refine blk_drewN ?_ _|refine blk_drew ?_|refine blk_alloc ?_ _));refine blk_put (cs:= #[.int .i64 a0_0,.int .i64 0,.int .i64 0,.int .i64 0,.int .i64 0,.int .i64 0]) ?_ 1 _ rfl;(with_reducible repeat(first|refine blk_drewN ?_ _|refine blk_drew ?_|refine blk_alloc ?_ _));refine blk_put (cs:= #[.int .i64 0,.int .i64 0,.int .i64 0,.int .i64 0,.int .i64 0,.int .i64 0]) ?_ 0 _ rfl;(with_reducible repeat(first|refine blk_drewN ?_ _|refine blk_drew ?_|refine blk_alloc ?_ _));refine blk_far ?_ NB105_106.out _;(with_reducible repeat(first|refine blk_drewN ?_ _|refine blk_drew ?_|refine blk_alloc ?_ _));refine blk_far ?_ NB105_106.out _;(with_reducible repeat(first|refine blk_drewN ?_ _|refine blk_drew ?_|refine blk_alloc ?_ _));exact BK105.out) Tryd.underlying35 rfl (by kernel_rfl)) rfl ?_
  exact⟨by first|rfl|(simp[errW_none,errW_some]<;>rfl)|(simp[*,errW_none,errW_some]<;>rfl),by repeat(first|(with_reducible first|exact HB.out|apply below_alloc|apply pw_below_drewN|apply below_drew1|refine below_set ?_ GE104.out|refine below_set ?_ GE105.out|refine below_set ?_ GE106.out)|exact HB.out)⟩
end Go.Proofs.YtmklpbmlgjkbiaaDoor.PS
end
section
namespace Go.Proofs
open Go.Shelf
def Tryd.laysM171_ren:Go.Shelf.Ren:=⟨fun|171=>44|243=>70|246=>82|283=>94|284=>95|285=>96|286=>97|129=>106|317=>105|318=>107|319=>108|320=>109|337=>117|338=>118|n=>n,fun|3=>3|9=>9|2=>2|4=>4|171=>115|0=>0|53=>116|37=>28|5=>5|173=>119|212=>133|51=>134|20=>20|213=>135|46=>123|232=>148|233=>149|n=>n,fun|17=>2|18=>6|19=>7|n=>n⟩
theorem Tryd.laysM171:Go.Proofs.LaysM.n171 Tryd.prog Tryd.laysM171_ren:= {
  mixed:=by kernel_rfl
  f129:=Tryd.func106.trans (congrArg some (by kernel_rfl))
  f171:=Tryd.func44.trans (congrArg some (by kernel_rfl))
  f243:=Tryd.func70.trans (congrArg some (by kernel_rfl))
  f246:=Tryd.func82.trans (congrArg some (by kernel_rfl))
  f283:=Tryd.func94.trans (congrArg some (by kernel_rfl))
  f284:=Tryd.func95.trans (congrArg some (by kernel_rfl))
  f285:=Tryd.func96.trans (congrArg some (by kernel_rfl))
  f286:=Tryd.func97.trans (congrArg some (by kernel_rfl))
  f317:=Tryd.func105.trans (congrArg some (by kernel_rfl))
  f318:=Tryd.func107.trans (congrArg some (by kernel_rfl))
  f319:=Tryd.func108.trans (congrArg some (by kernel_rfl))
  f320:=Tryd.func109.trans (congrArg some (by kernel_rfl))
  f337:=Tryd.func117.trans (congrArg some (by kernel_rfl))
  f338:=Tryd.func118.trans (congrArg some (by kernel_rfl))
  t0:=Tryd.underlying0
  a0:=Tryd.isAgg0
  z0:=Tryd.sizeOf0
  v0:=Tryd.zeroValue0
  t2:=Tryd.underlying2
  a2:=Tryd.isAgg2
  z2:=Tryd.sizeOf2
  v2:=Tryd.zeroValue2
  t3:=Tryd.underlying3
  a3:=Tryd.isAgg3
  z3:=Tryd.sizeOf3
  v3:=Tryd.zeroValue3
  t4:=Tryd.underlying4
  a4:=Tryd.isAgg4
  z4:=Tryd.sizeOf4
  v4:=Tryd.zeroValue4
  t5:=Tryd.underlying5
  a5:=Tryd.isAgg5
  z5:=Tryd.sizeOf5
  v5:=Tryd.zeroValue5
  t9:=Tryd.underlying9
  a9:=Tryd.isAgg9
  z9:=Tryd.sizeOf9
  v9:=Tryd.zeroValue9
  t20:=Tryd.underlying20
  a20:=Tryd.isAgg20
  z20:=Tryd.sizeOf20
  v20:=Tryd.zeroValue20
  t37:=Tryd.underlying28
  a37:=Tryd.isAgg28
  z37:=Tryd.sizeOf28
  v37:=Tryd.zeroValue28
  t46:=Tryd.underlying123
  a46:=Tryd.isAgg123
  z46:=Tryd.sizeOf123
  v46:=Tryd.zeroValue123
  t51:=Tryd.underlying134
  a51:=Tryd.isAgg134
  z51:=Tryd.sizeOf134
  v51:=Tryd.zeroValue134
  t53:=Tryd.underlying116
  a53:=Tryd.isAgg116
  z53:=Tryd.sizeOf116
  v53:=Tryd.zeroValue116
  t171:=Tryd.underlying115
  a171:=Tryd.isAgg115
  z171:=Tryd.sizeOf115
  v171:=Tryd.zeroValue115
  t173:=Tryd.underlying119
  a173:=Tryd.isAgg119
  z173:=Tryd.sizeOf119
  v173:=Tryd.zeroValue119
  t212:=Tryd.underlying133
  a212:=Tryd.isAgg133
  z212:=Tryd.sizeOf133
  v212:=Tryd.zeroValue133
  t213:=Tryd.underlying135
  a213:=Tryd.isAgg135
  z213:=Tryd.sizeOf135
  t232:=Tryd.underlying148
  a232:=Tryd.isAgg148
  z232:=Tryd.sizeOf148
  v232:=Tryd.zeroValue148
  t233:=Tryd.underlying149
  a233:=Tryd.isAgg149
  z233:=Tryd.sizeOf149
  v233:=Tryd.zeroValue149
  g17:=by kernel_rfl
  g18:=by kernel_rfl
  g19:=by kernel_rfl
  i0:=by kernel_rfl
  i2:=by kernel_rfl
  i3:=by kernel_rfl
  i4:=by kernel_rfl
  i5:=by kernel_rfl
  i9:=by kernel_rfl
  i20:=by kernel_rfl
  i37:=by kernel_rfl
  i46:=by kernel_rfl
  i51:=by kernel_rfl
  i53:=by kernel_rfl
  i171:=by kernel_rfl
  i173:=by kernel_rfl
  i212:=by kernel_rfl
  i232:=by kernel_rfl
  i233:=by kernel_rfl
  m17:=by kernel_rfl
  m18:=by kernel_rfl
  m19:=by kernel_rfl }
open Go.RowKit Go.Sort Go.Lib in
theorem Tryd.strconv_Itoa (n:Int) (h0: -9223372036854775808≤n) (h1:n≤9223372036854775807) (w:World) (htab:Lib.TabIs Tryd.prog w "internal/strconv.uint64pow10" .u64 Lib.pow10Tab):
    Calls Tryd.prog 44 #[.int .i64 n] w fun e w'=>e= .returned (.string ⟨(Lib.itoa n).toArray⟩)∧ ∃k os,w'=grow (w.drewN k) os:=Any.strconv_Itoa Tryd.laysM171 n h0 h1 w htab
end Go.Proofs
end
section
namespace Go.Proofs.YtmklpbmlgjkbiaaDoor.PS
open Go.RowKit Go.Proofs.YtmklpbmlgjkbiaaDoorW.PrintWords Go.Proofs.YtmklpbmlgjkbiaaDoorW.PrintLast
def dec2 (n:Nat):List UInt8:=if n<10 then [UInt8.ofNat (48+n)]else [UInt8.ofNat (48+n/10),UInt8.ofNat (48+n%10)]
def itoaS (n:Int):List UInt8:=if n<0 then 45::dec2 n.natAbs else dec2 n.toNat
theorem decDigits_2 (n:Nat) (h:n<100):Lib.decDigits n=dec2 n:=by
  unfold dec2;by_cases h1:n<10
  · rw[if_pos h1,Lib.decDigits];simp[h1]
  · rw[if_neg h1,Lib.decDigits];simp[h1]
    rw[Lib.decDigits];simp[show n/10<10 by omega]
theorem itoa_S (n:Int) (h0: -100<n) (h1:n<100):Lib.itoa n=itoaS n:=by
  unfold Lib.itoa itoaS;split<;>rw[decDigits_2 _ (by omega)]
def letterB (k:Int):UInt8:=if k=1 then 110 else if k=2 then 97 else 114
def vtext (k n:Int):ByteArray:=if okB k n=true then(if k=0 then⟨#[110,111,110,101]⟩else⟨(letterB k::itoaS n).toArray⟩)else⟨#[]⟩
def Tab (w:World):Prop:=Lib.TabIs Tryd.prog w "internal/strconv.uint64pow10" .u64 Lib.pow10Tab∧8≤w.heap.size
theorem Tab.below {w w':World} (h:Tab w) (hb:Below w.heap.size w w'):Tab w':=
  ⟨var?_below hb (show Tryd.prog.globalNamed "internal/strconv.uint64pow10" =some 2 by kernel_rfl) (by have:=h.2;omega) h.1,Nat.le_trans h.2 hb.size⟩
theorem itoa_call (n:Int) (w:World) (h0: -100<n) (h1:n<100) (hT:Tab w):
    Calls Tryd.prog 44 #[.int .i64 n] w fun e w'=>e= .returned (.string ⟨(itoaS n).toArray⟩)∧Below w.heap.size w w':=by
  refine(Tryd.strconv_Itoa n (by omega) (by omega) w hT.1).mono ?_
  rintro e w' ⟨rfl,k,os,rfl⟩
  exact⟨by rw[itoa_S n h0 h1],Lib.below_grow _ _ (Nat.le_refl _) _ _⟩
theorem vtext_bad {k n:Int} (h:okB k n=false):vtext k n=⟨#[]⟩:=by unfold vtext;simp[h]
theorem impl_ValText_any (k n:Int) (w:World) (hT:Tab w):
    Calls Tryd.prog 19 #[.agg #[.int .i64 k,.int .i64 n]] w fun e w'=>e= .returned (.string (vtext k n))∧Below w.heap.size w w':=by
  obtain⟨g,hg⟩: ∃g,g=okB k n:=⟨_,rfl⟩;have hv:=valok_any k n;have hA:Aside0 (∀W,Calls Tryd.prog 27 #[.agg #[.int .i64 k,.int .i64 n]] W fun e w'=>e= .returned (.bool g)∧Below W.heap.size W w'):=⟨by rw[hg];exact hv⟩
  have HG:=Aside0.mk hg;clear hv hg;have HT:=Aside0.mk hT;clear hT;cases g with
  |false=>
    rw[vtext_bad HG.out.symm];go_enter Tryd.func19,Tryd.ntmps19
    go_wp2_with (go_at_call 27;refine(hA.out _).mono ?_;rintro e w' ⟨rfl,hb⟩)
    go_ret
    exact⟨rfl,below_step (below_alloc (Below.refl _ _) _) hb⟩
  |true=>
    have hok:=okB_true.1 HG.out.symm;by_cases h0:k=0
    · subst h0
      have e0:Aside0 (vtext 0 n=⟨#[110,111,110,101]⟩):=⟨by unfold vtext;rw[←HG.out];rfl⟩
      rw[e0.out];clear hok;go_enter Tryd.func19,Tryd.ntmps19
      go_wp2_with (go_at_call 27;refine(hA.out _).mono ?_;rintro e w' ⟨rfl,hb⟩;have hc:=hb.cell (p:=⟨w.heap.size,0,none⟩) (by simp))
      go_ret
      exact⟨rfl,below_step (below_alloc (Below.refl _ _) _) hb⟩
    · have hn: -100<n∧n<100:=by unfold okP at hok;omega
      obtain⟨hn0,hn1⟩:=hn;have hb': ∀ {W W':World},Below W.heap.size W W'→ ∀b o,b<W.heap.size→W'.cell? ⟨b,o,none⟩=W.cell? ⟨b,o,none⟩:=fun hb b o h=>hb.cell (p:=⟨b,o,none⟩) h
      have HB0:=Aside0.mk (below_alloc (Below.refl w.heap.size w) (.cells #[.int .i64 k,.int .i64 n] 25));have hk:k=1∨k=2∨k=3:=by unfold okP at hok;omega
      have e1:Aside0 (vtext k n=⟨#[letterB k]⟩++⟨(itoaS n).toArray⟩):=⟨by unfold vtext;rw[←HG.out];simp[h0];rfl⟩
      rw[e1.out]
      have HI:Aside0 (∀W,Below w.heap.size w W→Calls Tryd.prog 44 #[.int .i64 n] W fun e w'=>e= .returned (.string ⟨(itoaS n).toArray⟩)∧Below W.heap.size W w'):=
        ⟨fun W hW=>itoa_call n W hn0 hn1 (HT.out.below hW)⟩
      obtain⟨X,hX⟩: ∃X,X=itoaS n:=⟨_,rfl⟩;have hXs:X.length≤3:=by rw[hX];unfold itoaS dec2;split<;>split<;>simp
      rw[←hX]at HI⊢
      clear hX hok HG e1;have hw0:IntKind.i64.wrap 0=0:=by kernel_rfl
      have hw1:IntKind.i64.wrap 1=1:=by kernel_rfl
      have hw2:IntKind.i64.wrap 2=2:=by kernel_rfl
      have hs1: ∀W,Sem.run Tryd.prog (Instr.slice 9 (.string ⟨#[110,97,114]⟩) (some (.int .i64 0)) (some (.int .i64 1)) none) W= .ok (.string ⟨#[110]⟩) W:=fun _=>by kernel_rfl
      have hs2: ∀W,Sem.run Tryd.prog (Instr.slice 9 (.string ⟨#[110,97,114]⟩) (some (.int .i64 1)) (some (.int .i64 2)) none) W= .ok (.string ⟨#[97]⟩) W:=fun _=>by kernel_rfl
      have hs3: ∀W,Sem.run Tryd.prog (Instr.slice 9 (.string ⟨#[110,97,114]⟩) (some (.int .i64 2)) (some (.int .i64 3)) none) W= .ok (.string ⟨#[114]⟩) W:=fun _=>by kernel_rfl
      have x1:decide (1+X.length≤9223372036854775807)=true:=decide_eq_true (by omega)
      have x2:(9223372036854775807<1+X.length)=False:=eq_false (by omega)
      have x3:(1+X.length≤9223372036854775807)=True:=eq_true (by omega)
      rcases hk with rfl|rfl|rfl
      all_goals
        go_enter Tryd.func19,Tryd.ntmps19
        go_wp2_with (go_at_call 27;refine(hA.out _).mono ?_;rintro e w1 ⟨rfl,hb⟩;have hc0:=hb.cell (p:=⟨w.heap.size,0,none⟩) (by simp);have hc1:=hb.cell (p:=⟨w.heap.size,1,none⟩) (by simp);have HB1:=Aside0.mk (below_step HB0.out hb);have hsz:w.heap.size<w1.heap.size:=(by have:=hb.size;rw[World.size_alloc]at this;exact this);clear hb)
        go_region_held3 (fun w'=>w'.cell? ⟨w.heap.size,0,none⟩=w1.cell? ⟨w.heap.size,0,none⟩∧w'.cell? ⟨w.heap.size,1,none⟩=w1.cell? ⟨w.heap.size,1,none⟩) (go_keep) ((go_at_call 44;refine(HI.out _ (below_drew1 HB1.out)).mono ?_;rintro e w2 ⟨rfl,hb⟩;have q0:=hb.cell (p:=⟨w.heap.size,0,none⟩) hsz;have q1:=hb.cell (p:=⟨w.heap.size,1,none⟩) hsz;have HB2:=Aside0.mk (below_step (below_drew1 HB1.out) hb);clear hb))
        go_wp2
        go_ret
        exact⟨rfl,HB2.out⟩
def Hold (w W:World) (g:Nat) (o:Obj):Prop:=Below w.heap.size w W∧W.heap[g]?=some o
theorem Hold.new {w W:World} (h:Below w.heap.size w W) (o:Obj):Hold w (W.alloc o) W.heap.size o:=⟨below_alloc h o,blk_new W o⟩
theorem Hold.step {w W W':World} {g:Nat} {o:Obj} (h:Hold w W g o) (hb:Below W.heap.size W W'):Hold w W' g o:=⟨below_step h.1 hb,blk_below h.2 hb⟩
theorem Hold.alloc {w W:World} {g:Nat} {o:Obj} (h:Hold w W g o) (o':Obj):Hold w (W.alloc o') g o:=⟨below_alloc h.1 o',blk_alloc h.2 o'⟩
theorem Hold.drew {w W:World} {g:Nat} {o:Obj} (h:Hold w W g o):Hold w W.drew g o:=⟨below_drew1 h.1,h.2⟩
theorem Hold.drewN {w W:World} {g:Nat} {o:Obj} (h:Hold w W g o) (n:Nat):Hold w (W.drewN n) g o:=⟨pw_below_drewN h.1 n,h.2⟩
theorem Hold.below {w W:World} {g:Nat} {o:Obj} (h:Hold w W g o):Below w.heap.size w W:=h.1
theorem Hold.blk {w W:World} {g:Nat} {o:Obj} (h:Hold w W g o):W.heap[g]?=some o:=h.2
theorem box6 {W:World} {g:Nat} {a b c d e f:Value} {t:TypeId} (h:W.heap[g]?=some (.cells #[a,b,c,d,e,f] t (0,0))):
    W.cell? ⟨g,0,none⟩=some a∧W.cell? ⟨g,1,none⟩=some b∧W.cell? ⟨g,2,none⟩=some c∧W.cell? ⟨g,3,none⟩=some d∧W.cell? ⟨g,4,none⟩=some e∧W.cell? ⟨g,5,none⟩=some f:=
  ⟨(blk_cell h 0).trans rfl,(blk_cell h 1).trans rfl,(blk_cell h 2).trans rfl,(blk_cell h 3).trans rfl,(blk_cell h 4).trans rfl,(blk_cell h 5).trans rfl⟩
def Hold2 (w W:World) (g:Nat) (o:Obj) (g':Nat) (o':Obj):Prop:=Hold w W g o∧W.heap[g']?=some o'
theorem Hold2.step {w W W':World} {g g':Nat} {o o':Obj} (h:Hold2 w W g o g' o') (hb:Below W.heap.size W W'):Hold2 w W' g o g' o':=⟨h.1.step hb,blk_below h.2 hb⟩
theorem Hold2.alloc {w W:World} {g g':Nat} {o o':Obj} (h:Hold2 w W g o g' o') (q:Obj):Hold2 w (W.alloc q) g o g' o':=⟨h.1.alloc q,blk_alloc h.2 q⟩
theorem Hold2.drew {w W:World} {g g':Nat} {o o':Obj} (h:Hold2 w W g o g' o'):Hold2 w W.drew g o g' o':=⟨h.1.drew,h.2⟩
theorem Hold2.new {w W:World} {g:Nat} {o:Obj} (h:Hold w W g o) (q:Obj):Hold2 w (W.alloc q) g o W.heap.size q:=⟨h.alloc q,blk_new W q⟩
theorem Hold2.below {w W:World} {g g':Nat} {o o':Obj} (h:Hold2 w W g o g' o'):Below w.heap.size w W:=h.1.1
theorem Hold2.blk {w W:World} {g g':Nat} {o o':Obj} (h:Hold2 w W g o g' o'):W.heap[g]?=some o:=h.1.2
theorem Hold2.blk2 {w W:World} {g g':Nat} {o o':Obj} (h:Hold2 w W g o g' o'):W.heap[g']?=some o':=h.2
end Go.Proofs.YtmklpbmlgjkbiaaDoor.PS
end
section
namespace Go.Proofs.YtmklpbmlgjkbiaaDoor.PS
open Go.RowKit Go.Proofs.YtmklpbmlgjkbiaaDoorW.PrintWords Go.Proofs.YtmklpbmlgjkbiaaDoorW.PrintLast
attribute [local go_sem high] eqA25
theorem ends_bool {w w':World} {a b:Bool} (h:Aside0 (b=a)) (hb:Below w.heap.size w w'):Ending.returned (Value.bool a)= .returned (.bool b)∧Below w.heap.size w w':=⟨by rw[h.out],hb⟩
def valB (k vk vn:Int):Bool:=decide (valP k vk vn)
theorem valB_8 (vk vn:Int):valB 8 vk vn=(okB vk vn&&((vk==1)&&decide (1≤vn))):=by
  unfold valB valP okB;by_cases a:vk=1<;>by_cases b:1≤vn<;>by_cases c:okP vk vn<;>simp[a,b,c]
theorem valB_13 (vk vn:Int):valB 13 vk vn=((vk==1)&&decide (0≤vn∧vn≤1)):=by
  unfold valB valP okP;by_cases a:vk=1<;>by_cases b:0≤vn∧vn≤1<;>simp[a,b]<;>omega
theorem valB_other (k vk vn:Int) (h8:k≠8) (h13:k≠13):valB k vk vn=okB vk vn:=by
  unfold valB valP okB;simp[h8,h13]
theorem valOp_any (k r s t vk vn:Int) (w:World):
    Calls Tryd.prog 68 #[.agg #[.int .i64 k,.int .i64 r,.int .i64 s,.int .i64 t,.int .i64 vk,.int .i64 vn]] w fun e w'=>e= .returned (.bool (valB k vk vn))∧Below w.heap.size w w':=by
  by_cases h8:k=8
  · subst h8
    have hw:=fun W:World=>valok_any vk vn W
    obtain⟨g,hg⟩: ∃g,g=valB 8 vk vn:=⟨_,rfl⟩;obtain⟨h,hh⟩: ∃h,h=okB vk vn:=⟨_,rfl⟩;have HH:=Aside0.mk (hg.trans (valB_8 vk vn));rw[←hg];rw[←hh]at hw HH
    clear hg hh;by_cases h1:vk=1
    · subst h1
      simp only[beq_self_eq_true,Bool.true_and]at HH
      cases h
      · go_enter Tryd.func68,Tryd.ntmps68
        go_wp2_with (go_at_call 27;refine(hw _).mono ?_;rintro e w' ⟨rfl,hb⟩;obtain⟨b1,b2⟩:=bcell hb)
        go_ret
        exact ends_bool HH (below_step (below_alloc (Below.refl _ _) _) hb)
      · go_enter Tryd.func68,Tryd.ntmps68
        go_wp2_with (go_at_call 27;refine(hw _).mono ?_;rintro e w' ⟨rfl,hb⟩;obtain⟨b1,b2⟩:=bcell hb)
        go_ret
        exact ends_bool HH (below_step (below_alloc (Below.refl _ _) _) hb)
    · have c1:(vk==1)=false:=by simpa using h1
      rw[c1,Bool.false_and,Bool.and_false]at HH
      cases h
      · go_enter Tryd.func68,Tryd.ntmps68
        go_wp2_with (go_at_call 27;refine(hw _).mono ?_;rintro e w' ⟨rfl,hb⟩;obtain⟨b1,b2⟩:=bcell hb)
        go_ret
        exact ends_bool HH (below_step (below_alloc (Below.refl _ _) _) hb)
      · go_enter Tryd.func68,Tryd.ntmps68
        go_wp2_with (go_at_call 27;refine(hw _).mono ?_;rintro e w' ⟨rfl,hb⟩;obtain⟨b1,b2⟩:=bcell hb)
        go_ret
        exact ends_bool HH (below_step (below_alloc (Below.refl _ _) _) hb)
  by_cases h13:k=13
  · subst h13
    obtain⟨g,hg⟩: ∃g,g=valB 13 vk vn:=⟨_,rfl⟩;have HH:=Aside0.mk (hg.trans (valB_13 vk vn));rw[←hg];clear hg;by_cases h1:vk=1
    · subst h1
      simp only[beq_self_eq_true,Bool.true_and]at HH
      have hw:=fun W:World=>in_any vn 0 1 W
      obtain⟨h,hh⟩: ∃h,h=decide (0≤vn∧vn≤1):=⟨_,rfl⟩;rw[←hh]at hw HH
      clear hh;go_enter Tryd.func68,Tryd.ntmps68
      go_wp2_with (go_at_call 55;refine(hw _).mono ?_;rintro e w' ⟨rfl,rfl⟩)
      go_ret
      exact ends_bool HH (below_alloc (Below.refl _ _) _)
    · have c1:(vk==1)=false:=by simpa using h1
      rw[c1,Bool.false_and]at HH
      go_enter Tryd.func68,Tryd.ntmps68
      go_wp2
      go_ret
      exact ends_bool HH (below_alloc (Below.refl _ _) _)
  have HH:=Aside0.mk (valB_other k vk vn h8 h13);have c8:(k==8)=false:=by simpa using h8
  have c13:(k==13)=false:=by simpa using h13
  have hw:=fun W:World=>valok_any vk vn W
  obtain⟨g,hg⟩: ∃g,g=valB k vk vn:=⟨_,rfl⟩;obtain⟨h,hh⟩: ∃h,h=okB vk vn:=⟨_,rfl⟩;rw[←hg];rw[←hg,←hh]at HH
  rw[←hh]at hw
  clear hg hh;go_enter Tryd.func68,Tryd.ntmps68
  go_wp2_with (go_at_call 27;refine(hw _).mono ?_;rintro e w' ⟨rfl,hb⟩;obtain⟨b1,b2⟩:=bcell hb)
  go_ret
  exact ends_bool HH (below_step (below_alloc (Below.refl _ _) _) hb)
theorem implOp_walk (k r s t vk vn:Int) (w:World) (g hv vb:Bool) (F:UInt8→Int→Int→Bool) (x:S67)
    (hHow: ∀W,Calls Tryd.prog 51 #[.agg #[.int .i64 k,.int .i64 r,.int .i64 s,.int .i64 t,.int .i64 vk,.int .i64 vn]] W fun e w'=>e= .returned (.agg #[.string x.f0,.string x.f1,.string x.f2,.bool x.f3])∧Below W.heap.size W w')
    (hHas: ∀W,Calls Tryd.prog 52 #[.agg #[.int .i64 k,.int .i64 r,.int .i64 s,.int .i64 t,.int .i64 vk,.int .i64 vn],.string ⟨#[86]⟩] W fun e w'=>e= .returned (.bool hv)∧Below W.heap.size W w')
    (hVal: ∀W,Calls Tryd.prog 68 #[.agg #[.int .i64 k,.int .i64 r,.int .i64 s,.int .i64 t,.int .i64 vk,.int .i64 vn]] W fun e w'=>e= .returned (.bool vb)∧Below W.heap.size W w')
    (hF: ∀ (c:UInt8) (n m:Int) (W:World) (hB:W.heap[w.heap.size]?=some (.cells #[.int .i64 k,.int .i64 r,.int .i64 s,.int .i64 t,.int .i64 vk,.int .i64 vn] 35 (0,0))),
      Calls Tryd.prog 67 #[.string ⟨#[c]⟩,.int .i64 n,.int .i64 m,.pointer (some ⟨w.heap.size,0,none⟩)] W fun e w'=>e= .returned (.bool (F c n m))∧Below W.heap.size W w')
    (hg:Aside0 (g=(!x.f0.toList.isEmpty&&(F 82 r 3&&(F 83 s 3&&(F 84 t 15&&if hv=true then vb else(vk==0&&(vn==0)))))))):
    Calls Tryd.prog 38 #[.agg #[.int .i64 k,.int .i64 r,.int .i64 s,.int .i64 t,.int .i64 vk,.int .i64 vn]] w fun e w'=>e= .returned (.bool g)∧Below w.heap.size w w':=by
  have BK:Aside0 ((w.alloc (.cells #[.int .i64 k,.int .i64 r,.int .i64 s,.int .i64 t,.int .i64 vk,.int .i64 vn] 35)).heap[w.heap.size]?=some (.cells #[.int .i64 k,.int .i64 r,.int .i64 s,.int .i64 t,.int .i64 vk,.int .i64 vn] 35 (0,0))):=⟨blk_new _ _⟩;have HB:=Aside0.mk (Below.refl w.heap.size w);have hu27:=Tryd.underlying25;have hu29:=Tryd.underlying35;have hfd: ∀ (a b c d:Value) (W:World),Sem.run Tryd.prog (Instr.field 67 (.agg #[a,b,c,d]) 0) W= .ok a W:=fun _ _ _ _ _=>by kernel_rfl
  cases hv
  · go_enter Tryd.func38,Tryd.ntmps38
    go_wp2_with (first|(go_at_call 52;refine(hHas _).mono ?_;rintro e w' ⟨rfl,hb⟩;have BK:=Aside0.mk (blk_below (by(with_reducible repeat(first|refine blk_drewN ?_ _|refine blk_drew ?_|refine blk_alloc ?_ _));exact BK.out) hb);have HB:=Aside0.mk (below_step (by repeat(first|(with_reducible first|exact HB.out|apply below_alloc|apply pw_below_drewN|apply below_drew1)|exact HB.out)) hb);have q0:w'.cell? ⟨w.heap.size,0,none⟩=some (.int .i64 k):=(blk_cell BK.out 0).trans rfl;have q1:w'.cell? ⟨w.heap.size,1,none⟩=some (.int .i64 r):=(blk_cell BK.out 1).trans rfl;have q2:w'.cell? ⟨w.heap.size,2,none⟩=some (.int .i64 s):=(blk_cell BK.out 2).trans rfl;have q3:w'.cell? ⟨w.heap.size,3,none⟩=some (.int .i64 t):=(blk_cell BK.out 3).trans rfl;have q4:w'.cell? ⟨w.heap.size,4,none⟩=some (.int .i64 vk):=(blk_cell BK.out 4).trans rfl;have q5:w'.cell? ⟨w.heap.size,5,none⟩=some (.int .i64 vn):=(blk_cell BK.out 5).trans rfl;clear hb)|(go_at_call 68;refine(hVal _).mono ?_;rintro e w' ⟨rfl,hb⟩;have BK:=Aside0.mk (blk_below (by(with_reducible repeat(first|refine blk_drewN ?_ _|refine blk_drew ?_|refine blk_alloc ?_ _));exact BK.out) hb);have HB:=Aside0.mk (below_step (by repeat(first|(with_reducible first|exact HB.out|apply below_alloc|apply pw_below_drewN|apply below_drew1)|exact HB.out)) hb);have q0:w'.cell? ⟨w.heap.size,0,none⟩=some (.int .i64 k):=(blk_cell BK.out 0).trans rfl;have q1:w'.cell? ⟨w.heap.size,1,none⟩=some (.int .i64 r):=(blk_cell BK.out 1).trans rfl;have q2:w'.cell? ⟨w.heap.size,2,none⟩=some (.int .i64 s):=(blk_cell BK.out 2).trans rfl;have q3:w'.cell? ⟨w.heap.size,3,none⟩=some (.int .i64 t):=(blk_cell BK.out 3).trans rfl;have q4:w'.cell? ⟨w.heap.size,4,none⟩=some (.int .i64 vk):=(blk_cell BK.out 4).trans rfl;have q5:w'.cell? ⟨w.heap.size,5,none⟩=some (.int .i64 vn):=(blk_cell BK.out 5).trans rfl;clear hb)|(go_at_call 51;refine(hHow _).mono ?_;rintro e w' ⟨rfl,hb⟩;have BK:=Aside0.mk (blk_below (by(with_reducible repeat(first|refine blk_drewN ?_ _|refine blk_drew ?_|refine blk_alloc ?_ _));exact BK.out) hb);have HB:=Aside0.mk (below_step (by repeat(first|(with_reducible first|exact HB.out|apply below_alloc|apply pw_below_drewN|apply below_drew1)|exact HB.out)) hb);have q0:w'.cell? ⟨w.heap.size,0,none⟩=some (.int .i64 k):=(blk_cell BK.out 0).trans rfl;have q1:w'.cell? ⟨w.heap.size,1,none⟩=some (.int .i64 r):=(blk_cell BK.out 1).trans rfl;have q2:w'.cell? ⟨w.heap.size,2,none⟩=some (.int .i64 s):=(blk_cell BK.out 2).trans rfl;have q3:w'.cell? ⟨w.heap.size,3,none⟩=some (.int .i64 t):=(blk_cell BK.out 3).trans rfl;have q4:w'.cell? ⟨w.heap.size,4,none⟩=some (.int .i64 vk):=(blk_cell BK.out 4).trans rfl;have q5:w'.cell? ⟨w.heap.size,5,none⟩=some (.int .i64 vn):=(blk_cell BK.out 5).trans rfl;clear hb)|(go_at_call 67;refine(hF _ _ _ _ (by(with_reducible repeat(first|refine blk_drewN ?_ _|refine blk_drew ?_|refine blk_alloc ?_ _));exact BK.out)).mono ?_;rintro e w' ⟨rfl,hb⟩;have BK:=Aside0.mk (blk_below (by(with_reducible repeat(first|refine blk_drewN ?_ _|refine blk_drew ?_|refine blk_alloc ?_ _));exact BK.out) hb);have HB:=Aside0.mk (below_step (by repeat(first|(with_reducible first|exact HB.out|apply below_alloc|apply pw_below_drewN|apply below_drew1)|exact HB.out)) hb);have q0:w'.cell? ⟨w.heap.size,0,none⟩=some (.int .i64 k):=(blk_cell BK.out 0).trans rfl;have q1:w'.cell? ⟨w.heap.size,1,none⟩=some (.int .i64 r):=(blk_cell BK.out 1).trans rfl;have q2:w'.cell? ⟨w.heap.size,2,none⟩=some (.int .i64 s):=(blk_cell BK.out 2).trans rfl;have q3:w'.cell? ⟨w.heap.size,3,none⟩=some (.int .i64 t):=(blk_cell BK.out 3).trans rfl;have q4:w'.cell? ⟨w.heap.size,4,none⟩=some (.int .i64 vk):=(blk_cell BK.out 4).trans rfl;have q5:w'.cell? ⟨w.heap.size,5,none⟩=some (.int .i64 vn):=(blk_cell BK.out 5).trans rfl;clear hb))
    all_goals go_ret
    all_goals refine⟨?_,HB.out⟩
    all_goals(rw[hg.out];simp[*])
  · go_enter Tryd.func38,Tryd.ntmps38
    go_wp2_with (first|(go_at_call 52;refine(hHas _).mono ?_;rintro e w' ⟨rfl,hb⟩;have BK:=Aside0.mk (blk_below (by(with_reducible repeat(first|refine blk_drewN ?_ _|refine blk_drew ?_|refine blk_alloc ?_ _));exact BK.out) hb);have HB:=Aside0.mk (below_step (by repeat(first|(with_reducible first|exact HB.out|apply below_alloc|apply pw_below_drewN|apply below_drew1)|exact HB.out)) hb);have q0:w'.cell? ⟨w.heap.size,0,none⟩=some (.int .i64 k):=(blk_cell BK.out 0).trans rfl;have q1:w'.cell? ⟨w.heap.size,1,none⟩=some (.int .i64 r):=(blk_cell BK.out 1).trans rfl;have q2:w'.cell? ⟨w.heap.size,2,none⟩=some (.int .i64 s):=(blk_cell BK.out 2).trans rfl;have q3:w'.cell? ⟨w.heap.size,3,none⟩=some (.int .i64 t):=(blk_cell BK.out 3).trans rfl;have q4:w'.cell? ⟨w.heap.size,4,none⟩=some (.int .i64 vk):=(blk_cell BK.out 4).trans rfl;have q5:w'.cell? ⟨w.heap.size,5,none⟩=some (.int .i64 vn):=(blk_cell BK.out 5).trans rfl;clear hb)|(go_at_call 68;refine(hVal _).mono ?_;rintro e w' ⟨rfl,hb⟩;have BK:=Aside0.mk (blk_below (by(with_reducible repeat(first|refine blk_drewN ?_ _|refine blk_drew ?_|refine blk_alloc ?_ _));exact BK.out) hb);have HB:=Aside0.mk (below_step (by repeat(first|(with_reducible first|exact HB.out|apply below_alloc|apply pw_below_drewN|apply below_drew1)|exact HB.out)) hb);have q0:w'.cell? ⟨w.heap.size,0,none⟩=some (.int .i64 k):=(blk_cell BK.out 0).trans rfl;have q1:w'.cell? ⟨w.heap.size,1,none⟩=some (.int .i64 r):=(blk_cell BK.out 1).trans rfl;have q2:w'.cell? ⟨w.heap.size,2,none⟩=some (.int .i64 s):=(blk_cell BK.out 2).trans rfl;have q3:w'.cell? ⟨w.heap.size,3,none⟩=some (.int .i64 t):=(blk_cell BK.out 3).trans rfl;have q4:w'.cell? ⟨w.heap.size,4,none⟩=some (.int .i64 vk):=(blk_cell BK.out 4).trans rfl;have q5:w'.cell? ⟨w.heap.size,5,none⟩=some (.int .i64 vn):=(blk_cell BK.out 5).trans rfl;clear hb)|(go_at_call 51;refine(hHow _).mono ?_;rintro e w' ⟨rfl,hb⟩;have BK:=Aside0.mk (blk_below (by(with_reducible repeat(first|refine blk_drewN ?_ _|refine blk_drew ?_|refine blk_alloc ?_ _));exact BK.out) hb);have HB:=Aside0.mk (below_step (by repeat(first|(with_reducible first|exact HB.out|apply below_alloc|apply pw_below_drewN|apply below_drew1)|exact HB.out)) hb);have q0:w'.cell? ⟨w.heap.size,0,none⟩=some (.int .i64 k):=(blk_cell BK.out 0).trans rfl;have q1:w'.cell? ⟨w.heap.size,1,none⟩=some (.int .i64 r):=(blk_cell BK.out 1).trans rfl;have q2:w'.cell? ⟨w.heap.size,2,none⟩=some (.int .i64 s):=(blk_cell BK.out 2).trans rfl;have q3:w'.cell? ⟨w.heap.size,3,none⟩=some (.int .i64 t):=(blk_cell BK.out 3).trans rfl;have q4:w'.cell? ⟨w.heap.size,4,none⟩=some (.int .i64 vk):=(blk_cell BK.out 4).trans rfl;have q5:w'.cell? ⟨w.heap.size,5,none⟩=some (.int .i64 vn):=(blk_cell BK.out 5).trans rfl;clear hb)|(go_at_call 67;refine(hF _ _ _ _ (by(with_reducible repeat(first|refine blk_drewN ?_ _|refine blk_drew ?_|refine blk_alloc ?_ _));exact BK.out)).mono ?_;rintro e w' ⟨rfl,hb⟩;have BK:=Aside0.mk (blk_below (by(with_reducible repeat(first|refine blk_drewN ?_ _|refine blk_drew ?_|refine blk_alloc ?_ _));exact BK.out) hb);have HB:=Aside0.mk (below_step (by repeat(first|(with_reducible first|exact HB.out|apply below_alloc|apply pw_below_drewN|apply below_drew1)|exact HB.out)) hb);have q0:w'.cell? ⟨w.heap.size,0,none⟩=some (.int .i64 k):=(blk_cell BK.out 0).trans rfl;have q1:w'.cell? ⟨w.heap.size,1,none⟩=some (.int .i64 r):=(blk_cell BK.out 1).trans rfl;have q2:w'.cell? ⟨w.heap.size,2,none⟩=some (.int .i64 s):=(blk_cell BK.out 2).trans rfl;have q3:w'.cell? ⟨w.heap.size,3,none⟩=some (.int .i64 t):=(blk_cell BK.out 3).trans rfl;have q4:w'.cell? ⟨w.heap.size,4,none⟩=some (.int .i64 vk):=(blk_cell BK.out 4).trans rfl;have q5:w'.cell? ⟨w.heap.size,5,none⟩=some (.int .i64 vn):=(blk_cell BK.out 5).trans rfl;clear hb))
    all_goals go_ret
    all_goals refine⟨?_,HB.out⟩
    all_goals(rw[hg.out];simp[*])
end Go.Proofs.YtmklpbmlgjkbiaaDoor.PS
end
section
namespace Go.Proofs.YtmklpbmlgjkbiaaDoor.PS
open Go.RowKit Go.Proofs.YtmklpbmlgjkbiaaDoorW.PrintWords Go.Proofs.YtmklpbmlgjkbiaaDoorW.PrintLast
theorem fieldB_eq (h:Bool) (n m:Int) (hm:0≤m):fieldB h n m=decide (n=0∨(h=true∧0≤n∧n≤m)):=by
  unfold fieldB;cases h
  · simp
  · simp;omega
theorem word_some (k:Int):(!(howR k).f0.toList.isEmpty)=decide (1≤k∧k≤14):=by
  rw[Lib.toList_data];refine kinds (P:=fun k=>(!(howR k).f0.data.toList.isEmpty)=decide (1≤k∧k≤14)) (fun k hk=> ?_) (by decide) (by decide) (by decide) (by decide) (by decide) (by decide) (by decide) (by decide) (by decide) (by decide) (by decide) (by decide) (by decide) (by decide) k
  unfold howR;rw[if_neg hk,decide_eq_false hk];decide
theorem opB_eq (k r s t vk vn:Int):opB k r s t vk vn=(!(howR k).f0.toList.isEmpty&&(fieldB (hasC k 82) r 3&&(fieldB (hasC k 83) s 3&&(fieldB (hasC k 84) t 15&&if hasC k 86=true then valB k vk vn else(vk==0&&(vn==0)))))):=by
  rw[word_some,hasC_R,hasC_S,hasC_T,hasC_V,fieldB_eq _ _ _ (by omega),fieldB_eq _ _ _ (by omega),fieldB_eq _ _ _ (by omega)]
  have hv:(if hasV k=true then valB k vk vn else(vk==0&&(vn==0)))=decide (valP k vk vn∧(hasV k=true∨(vk=0∧vn=0))):=by
    by_cases h:hasV k=true
    · rw[if_pos h];unfold valB;simp[h]
    · rw[if_neg h]
      have h8:k≠8∧k≠13:=by unfold hasV at h;simp at h;omega
      by_cases hz:vk=0∧vn=0
      · obtain⟨rfl,rfl⟩:=hz
        have:valP k 0 0:=⟨Or.inl ⟨rfl,rfl⟩,fun e=>absurd e h8.1,fun e=>absurd e h8.2⟩
        simp[this]
      · have e1 : (vk == 0 && (vn == 0)) = false := by
          by_cases a:vk=0<;>by_cases b:vn=0<;>simp[a,b]<;>simp_all
        rw[e1];exact(decide_eq_false (fun ⟨_,g⟩=>g.elim h hz)).symm
  rw[hv];unfold opB;simp only[←Bool.decide_and]
  apply decide_eq_decide.2
  unfold opP;constructor
  · rintro⟨a,b,c,d,e,f⟩;exact⟨a,c,d,e,b,f⟩
  · rintro⟨a,c,d,e,b,f⟩;exact⟨a,b,c,d,e,f⟩
theorem impl_OpOk.calls (k r s t vk vn:Int) (b:Bool) (w:World) (h:opV.f k r s t vk vn=some b):
    Calls Tryd.prog 38 #[.agg #[.int .i64 k,.int .i64 r,.int .i64 s,.int .i64 t,.int .i64 vk,.int .i64 vn]] w fun e w'=>e= .returned (.bool b)∧Below w.heap.size w w':=by
  refine implOp_walk k r s t vk vn w b (hasC k 86) (valB k vk vn) (fun c n m=>fieldB (hasC k c) n m) (howR k) (fun W=>impl_Op_how.calls k r s t vk vn _ _ _ _ W rfl) (fun W=>has_any k r s t vk vn 86 W)
    (fun W=>valOp_any k r s t vk vn W) (fun c n m W hB=>field_any w.heap.size k r s t vk vn c n m W hB) ⟨?_⟩
  rw[←opB_eq];exact(Option.some.inj h).symm
end Go.Proofs.YtmklpbmlgjkbiaaDoor.PS
end
section
namespace Go.Proofs.YtmklpbmlgjkbiaaDoor.PS
open Go.RowKit Go.Proofs.YtmklpbmlgjkbiaaDoorW.PrintWords Go.Proofs.YtmklpbmlgjkbiaaDoorW.PrintLast Go.Proofs.YtmklpbmlgjkbiaaDoorW.PrintMore
attribute [local go_sem] max2_int min2_int max_two min_two max_three min_three max_four min_four   -- for this text's walks alone
mutual
def spec_l2Form.j0:Nat→Int→Bool→Option (List Bool)
  |0,_,_=>none
  |k+1,x3,x7=>if x7=true then(some (([true,true,false,false]:List Bool)))else(if x3=4 then(spec_l2Form.j1 k x3 (x3==4))else(if x3=11 then(spec_l2Form.j1 k x3 (x3==11))else(if x3=12 then(spec_l2Form.j1 k x3 (x3==12))else(spec_l2Form.j1 k x3 (x3==14)))))
def spec_l2Form.j1:Nat→Int→Bool→Option (List Bool)
  |0,_,_=>none
  |k+1,x3,x13=>if x13=true then(some (([true,false,false,false]:List Bool)))else(if x3=5 then(some (([true,false,true,false]:List Bool)))else(if x3=8 then(some (([true,true,true,true]:List Bool)))else(if x3=9 then(some (([false,false,true,false]:List Bool)))else(if x3=10 then(some (([true,false,true,true]:List Bool)))else(if x3=13 then(some (([false,false,false,true]:List Bool)))else(some (([]:List Bool))))))))
end
def spec_l2Form.f (k:Nat) (a0:Int):Option (List Bool):=if a0=1 then(some (([true,false,false,true]:List Bool)))else(if a0=2 then(spec_l2Form.j0 k a0 (a0==2))else(if a0=3 then(spec_l2Form.j0 k a0 (a0==3))else(if a0=6 then(spec_l2Form.j0 k a0 (a0==6))else(spec_l2Form.j0 k a0 (a0==7)))))
theorem spec_l2Form.calls (k:Nat) (a0:Int) (r:List Bool) (w:World) (h:spec_l2Form.f k a0=some r):
    Calls Tryd.prog 49 #[.int .i64 a0] w fun e w'=> ∃v0_:Value,e= .returned (v0_)∧Kd.R Kd.bool 4 w' w.heap.size (fun _=>True) v0_ r∧Below w.heap.size w w':=by
  have HB:=Aside0.mk (Below.refl w.heap.size w);have H:(if a0=1 then(some (([true,false,false,true]:List Bool)))else(if a0=2 then(spec_l2Form.j0 k a0 (a0==2))else(if a0=3 then(spec_l2Form.j0 k a0 (a0==3))else(if a0=6 then(spec_l2Form.j0 k a0 (a0==6))else(spec_l2Form.j0 k a0 (a0==7))))))=some r:=h
  clear h;by_cases c2:a0=1
  · rw[if_pos c2]at H
    have c2b0:(a0==1)=true:=beq_iff_eq.mpr c2;have c2b1:(a0 !=1)=false:=bne_eq_false_iff_eq.mpr c2;clear c2;obtain⟨y128,hy128⟩: ∃y_:List Bool,y_=(([true,false,false,true]:List Bool)):=⟨_,rfl⟩;replace H:(some y128)=some r:=by first|(rw[hy128];with_reducible exact H)|(have H2_:=(Option.bind_some _ _).symm.trans H;rw[hy128];with_reducible exact H2_)|(have H2_:=(Option.bind_some _ _).symm.trans H;with_reducible exact H2_)|with_reducible exact H|(rw[hy128];exact H)|exact H
    have Ny128:=Aside0.mk hy128;clear hy128;obtain rfl:=Option.some.inj H;go_enter Tryd.func49,Tryd.ntmps49
    go_wp2_with (first|((with_reducible refine gate_dst (N:=6) rfl ?_);refine Kd.R_lit Kd.bool _ 4 ?hg (N:=6) ?hd (xs:=([true,false,false,true]:List Bool)) (inner:=[.bool true,.bool false,.bool false,.bool true]) (ok:=fun _=>True) (okp:=fun _=>True) ?hr ?hp (fun _ hk=>hk) trivial (Below.refl _ _) (Nat.le_refl _) (by simp) ?_;(case hd=>rfl);(case hg=>rfl);(case hr=>first|(go_simp;done)|(go_simp;rfl));(case hp=>exact(Reps.one (show Kd.M Kd.bool _ _ _ true [.bool true]from rfl) (Reps.one (show Kd.M Kd.bool _ _ _ false [.bool false]from rfl) (Reps.one (show Kd.M Kd.bool _ _ _ false [.bool false]from rfl) (Reps.one (show Kd.M Kd.bool _ _ _ true [.bool true]from rfl) (Reps.none _ _))))));intro v129 w3 ho4 hb hg_ hnew_;clear hg_ hnew_;(first|rw[←Ny128.out]at ho4|(simp only[Int.reduceToNat]at ho4;rw[←Ny128.out]at ho4));have n0_:=Aside0.mk (Kd.R_lower ho4 (below_size (by repeat(first|(with_reducible first|exact HB.out|apply below_alloc|apply pw_below_drewN|apply below_drew1)|exact HB.out))));have n1_:=Aside0.mk (below_step (by repeat(first|(with_reducible first|exact HB.out|apply below_alloc|apply pw_below_drewN|apply below_drew1)|exact HB.out)) hb);clear HB;have HO130:=n0_;have HB:=n1_;clear n0_ n1_;clear hb ho4))
    go_ret
    exact⟨_,by first|rfl|(simp[errW_none,errW_some]<;>rfl)|(simp[*,errW_none,errW_some]<;>rfl),by(with_reducible repeat(first|apply Kd.R_alloc|apply Kd.R_drewN|apply Kd.R_drew));exact HO130.out,by repeat(first|(with_reducible first|exact HB.out|apply below_alloc|apply pw_below_drewN|apply below_drew1)|exact HB.out)⟩
  · rw[if_neg c2]at H
    have c2b0:(a0==1)=false:=beq_eq_false_iff_ne.mpr c2;have c2b1:(a0 !=1)=true:=bne_iff_ne.mpr c2;have HC5:=Aside0.mk H;clear H;go_enter Tryd.func49,Tryd.ntmps49
    go_upto_if 7 with (fail)
    go_cut [7] (fun v7 wc=> ∃ (kq:Nat) (x7_4:Bool),v7= .bool x7_4∧Aside0 (spec_l2Form.j0 kq a0 x7_4=some r)∧Aside0 (kq≤k)∧Aside0 (Below w.heap.size w wc))
    case first=>
      have H:=HC5.out;clear HC5;by_cases c6:a0=2
      · rw[if_pos c6]at H
        have c6b0:(a0==2)=true:=beq_iff_eq.mpr c6;have c6b1:(a0 !=2)=false:=bne_eq_false_iff_eq.mpr c6;clear c6;(first|rw[c6b0]|(simp only[i64_w,i32_w];rw[c6b0])|skip)
        have H':=Aside0.mk H;clear H;go_wp2
        go_meet
        case rel=>exact⟨_,((a0==2)),(by first|rfl|(simp;done)|(simp[*];done)),H',⟨by first|omega|exact Nat.le_refl _⟩,⟨by repeat(first|(with_reducible first|exact HB.out|apply below_alloc|apply pw_below_drewN|apply below_drew1)|exact HB.out)⟩⟩
      · rw[if_neg c6]at H
        have c6b0:(a0==2)=false:=beq_eq_false_iff_ne.mpr c6;have c6b1:(a0 !=2)=true:=bne_iff_ne.mpr c6;(first|rw[c6b0]|(simp only[i64_w,i32_w];rw[c6b0])|skip)
        by_cases c7:a0=3
        · rw[if_pos c7]at H
          have c7b0:(a0==3)=true:=beq_iff_eq.mpr c7;have c7b1:(a0 !=3)=false:=bne_eq_false_iff_eq.mpr c7;clear c7;have H':=Aside0.mk H;clear H;go_wp2
          go_meet
          case rel=>exact⟨_,((a0==3)),(by first|rfl|(simp;done)|(simp[*];done)),H',⟨by first|omega|exact Nat.le_refl _⟩,⟨by repeat(first|(with_reducible first|exact HB.out|apply below_alloc|apply pw_below_drewN|apply below_drew1)|exact HB.out)⟩⟩
        · rw[if_neg c7]at H
          have c7b0:(a0==3)=false:=beq_eq_false_iff_ne.mpr c7;have c7b1:(a0 !=3)=true:=bne_iff_ne.mpr c7;by_cases c8:a0=6
          · rw[if_pos c8]at H
            have c8b0:(a0==6)=true:=beq_iff_eq.mpr c8;have c8b1:(a0 !=6)=false:=bne_eq_false_iff_eq.mpr c8;clear c8;have H':=Aside0.mk H;clear H;go_wp2
            go_meet
            case rel=>exact⟨_,((a0==6)),(by first|rfl|(simp;done)|(simp[*];done)),H',⟨by first|omega|exact Nat.le_refl _⟩,⟨by repeat(first|(with_reducible first|exact HB.out|apply below_alloc|apply pw_below_drewN|apply below_drew1)|exact HB.out)⟩⟩
          · rw[if_neg c8]at H
            have c8b0:(a0==6)=false:=beq_eq_false_iff_ne.mpr c8;have c8b1:(a0 !=6)=true:=bne_iff_ne.mpr c8;have H':=Aside0.mk H;clear H;go_wp2
            go_meet
            case rel=>exact⟨_,((a0==7)),(by first|rfl|(simp;done)|(simp[*];done)),H',⟨by first|omega|exact Nat.le_refl _⟩,⟨by repeat(first|(with_reducible first|exact HB.out|apply below_alloc|apply pw_below_drewN|apply below_drew1)|exact HB.out)⟩⟩
    case rest=>
      clear HC5;try clear c2
      try clear c2b0
      try clear c2b1
      try clear p2
      try clear c4
      try clear c6
      try clear c6b0
      try clear c6b1
      try clear c7
      try clear c7b0
      try clear c7b1
      try clear c8
      try clear c8b0
      try clear c8b1
      obtain⟨kq,x7_4,rfl,HA,HJ4,HB⟩:=hcut;cases kq with
      |zero=>exact absurd HA.out (by simp[spec_l2Form.j0])
      |succ kj4=>
        have H:=HA.out;clear HA;simp only[spec_l2Form.j0]at H
        by_cases c9:x7_4=true
        · subst c9
          have H1:(some (([true,true,false,false]:List Bool)))=some r:=by rw[if_pos rfl]at H;exact H
          clear H;have H:=H1;clear H1;obtain⟨y131,hy131⟩: ∃y_:List Bool,y_=(([true,true,false,false]:List Bool)):=⟨_,rfl⟩;replace H:(some y131)=some r:=by first|(rw[hy131];with_reducible exact H)|(have H2_:=(Option.bind_some _ _).symm.trans H;rw[hy131];with_reducible exact H2_)|(have H2_:=(Option.bind_some _ _).symm.trans H;with_reducible exact H2_)|with_reducible exact H|(rw[hy131];exact H)|exact H
          have Ny131:=Aside0.mk hy131;clear hy131;obtain rfl:=Option.some.inj H;go_wp2_with (first|((with_reducible refine gate_dst (N:=12) rfl ?_);refine Kd.R_lit Kd.bool _ 4 ?hg (N:=12) ?hd (xs:=([true,true,false,false]:List Bool)) (inner:=[.bool true,.bool true,.bool false,.bool false]) (ok:=fun _=>True) (okp:=fun _=>True) ?hr ?hp (fun _ hk=>hk) trivial (Below.refl _ _) (Nat.le_refl _) (by simp) ?_;(case hd=>rfl);(case hg=>rfl);(case hr=>first|(go_simp;done)|(go_simp;rfl));(case hp=>exact(Reps.one (show Kd.M Kd.bool _ _ _ true [.bool true]from rfl) (Reps.one (show Kd.M Kd.bool _ _ _ true [.bool true]from rfl) (Reps.one (show Kd.M Kd.bool _ _ _ false [.bool false]from rfl) (Reps.one (show Kd.M Kd.bool _ _ _ false [.bool false]from rfl) (Reps.none _ _))))));intro v132 w10 ho11 hb hg_ hnew_;clear hg_ hnew_;(first|rw[←Ny131.out]at ho11|(simp only[Int.reduceToNat]at ho11;rw[←Ny131.out]at ho11));have n0_:=Aside0.mk (Kd.R_lower ho11 (below_size (by repeat(first|(with_reducible first|exact HB.out|apply below_alloc|apply pw_below_drewN|apply below_drew1)|exact HB.out))));have n1_:=Aside0.mk (below_step (by repeat(first|(with_reducible first|exact HB.out|apply below_alloc|apply pw_below_drewN|apply below_drew1)|exact HB.out)) hb);clear HB;have HO133:=n0_;have HB:=n1_;clear n0_ n1_;clear hb ho11))
          go_ret
          exact⟨_,by first|rfl|(simp[errW_none,errW_some]<;>rfl)|(simp[*,errW_none,errW_some]<;>rfl),by(with_reducible repeat(first|apply Kd.R_alloc|apply Kd.R_drewN|apply Kd.R_drew));exact HO133.out,by repeat(first|(with_reducible first|exact HB.out|apply below_alloc|apply pw_below_drewN|apply below_drew1)|exact HB.out)⟩
        · replace c9:=Bool.eq_false_iff.mpr c9
          subst c9;have H1:(if a0=4 then(spec_l2Form.j1 kj4 a0 (a0==4))else(if a0=11 then(spec_l2Form.j1 kj4 a0 (a0==11))else(if a0=12 then(spec_l2Form.j1 kj4 a0 (a0==12))else(spec_l2Form.j1 kj4 a0 (a0==14)))))=some r:=by rw[if_neg (show¬(false=true) by decide)]at H;exact H
          clear H;have H:=H1;clear H1;have HC12:=Aside0.mk H;clear H;go_upto_if 13 with (fail)
          go_cut [13] (fun v13 wc=> ∃ (kq:Nat) (x13_11:Bool),v13= .bool x13_11∧Aside0 (spec_l2Form.j1 kq a0 x13_11=some r)∧Aside0 (kq≤kj4)∧Aside0 (Below w.heap.size w wc))
          case first=>
            have H:=HC12.out;clear HC12;by_cases c13:a0=4
            · rw[if_pos c13]at H
              have c13b0:(a0==4)=true:=beq_iff_eq.mpr c13;have c13b1:(a0 !=4)=false:=bne_eq_false_iff_eq.mpr c13;clear c13;(first|rw[c13b0]|(simp only[i64_w,i32_w];rw[c13b0])|skip)
              have H':=Aside0.mk H;clear H;go_wp2
              go_meet
              case rel=>exact⟨_,((a0==4)),(by first|rfl|(simp;done)|(simp[*];done)),H',⟨by have:=HJ4.out;first|omega|exact Nat.le_refl _⟩,⟨by repeat(first|(with_reducible first|exact HB.out|apply below_alloc|apply pw_below_drewN|apply below_drew1)|exact HB.out)⟩⟩
            · rw[if_neg c13]at H
              have c13b0:(a0==4)=false:=beq_eq_false_iff_ne.mpr c13;have c13b1:(a0 !=4)=true:=bne_iff_ne.mpr c13;(first|rw[c13b0]|(simp only[i64_w,i32_w];rw[c13b0])|skip)
              by_cases c14:a0=11
              · rw[if_pos c14]at H
                have c14b0:(a0==11)=true:=beq_iff_eq.mpr c14;have c14b1:(a0 !=11)=false:=bne_eq_false_iff_eq.mpr c14;clear c14;have H':=Aside0.mk H;clear H;go_wp2
                go_meet
                case rel=>exact⟨_,((a0==11)),(by first|rfl|(simp;done)|(simp[*];done)),H',⟨by have:=HJ4.out;first|omega|exact Nat.le_refl _⟩,⟨by repeat(first|(with_reducible first|exact HB.out|apply below_alloc|apply pw_below_drewN|apply below_drew1)|exact HB.out)⟩⟩
              · rw[if_neg c14]at H
                have c14b0:(a0==11)=false:=beq_eq_false_iff_ne.mpr c14;have c14b1:(a0 !=11)=true:=bne_iff_ne.mpr c14;by_cases c15:a0=12
                · rw[if_pos c15]at H
                  have c15b0:(a0==12)=true:=beq_iff_eq.mpr c15;have c15b1:(a0 !=12)=false:=bne_eq_false_iff_eq.mpr c15;clear c15;have H':=Aside0.mk H;clear H;go_wp2
                  go_meet
                  case rel=>exact⟨_,((a0==12)),(by first|rfl|(simp;done)|(simp[*];done)),H',⟨by have:=HJ4.out;first|omega|exact Nat.le_refl _⟩,⟨by repeat(first|(with_reducible first|exact HB.out|apply below_alloc|apply pw_below_drewN|apply below_drew1)|exact HB.out)⟩⟩
                · rw[if_neg c15]at H
                  have c15b0:(a0==12)=false:=beq_eq_false_iff_ne.mpr c15;have c15b1:(a0 !=12)=true:=bne_iff_ne.mpr c15;have H':=Aside0.mk H;clear H;go_wp2
                  go_meet
                  case rel=>exact⟨_,((a0==14)),(by first|rfl|(simp;done)|(simp[*];done)),H',⟨by have:=HJ4.out;first|omega|exact Nat.le_refl _⟩,⟨by repeat(first|(with_reducible first|exact HB.out|apply below_alloc|apply pw_below_drewN|apply below_drew1)|exact HB.out)⟩⟩
          case rest=>
            clear HC12;try clear c1
            try clear c2
            try clear c2b0
            try clear c2b1
            try clear p2
            try clear c4
            try clear c6
            try clear c6b0
            try clear c6b1
            try clear c7
            try clear c7b0
            try clear c7b1
            try clear c8
            try clear c8b0
            try clear c8b1
            try clear c9
            try clear c13
            try clear c13b0
            try clear c13b1
            try clear c14
            try clear c14b0
            try clear c14b1
            try clear c15
            try clear c15b0
            try clear c15b1
            try clear p2
            obtain⟨kq,x13_11,rfl,HA,HJ11,HB⟩:=hcut;cases kq with
            |zero=>exact absurd HA.out (by simp[spec_l2Form.j1])
            |succ kj11=>
              have H:=HA.out;clear HA;simp only[spec_l2Form.j1]at H
              by_cases c16:x13_11=true
              · subst c16
                have H1:(some (([true,false,false,false]:List Bool)))=some r:=by rw[if_pos rfl]at H;exact H
                clear H;have H:=H1;clear H1;obtain⟨y134,hy134⟩: ∃y_:List Bool,y_=(([true,false,false,false]:List Bool)):=⟨_,rfl⟩;replace H:(some y134)=some r:=by first|(rw[hy134];with_reducible exact H)|(have H2_:=(Option.bind_some _ _).symm.trans H;rw[hy134];with_reducible exact H2_)|(have H2_:=(Option.bind_some _ _).symm.trans H;with_reducible exact H2_)|with_reducible exact H|(rw[hy134];exact H)|exact H
                have Ny134:=Aside0.mk hy134;clear hy134;obtain rfl:=Option.some.inj H;go_wp2_with (first|((with_reducible refine gate_dst (N:=18) rfl ?_);refine Kd.R_lit Kd.bool _ 4 ?hg (N:=18) ?hd (xs:=([true,false,false,false]:List Bool)) (inner:=[.bool true,.bool false,.bool false,.bool false]) (ok:=fun _=>True) (okp:=fun _=>True) ?hr ?hp (fun _ hk=>hk) trivial (Below.refl _ _) (Nat.le_refl _) (by simp) ?_;(case hd=>rfl);(case hg=>rfl);(case hr=>first|(go_simp;done)|(go_simp;rfl));(case hp=>exact(Reps.one (show Kd.M Kd.bool _ _ _ true [.bool true]from rfl) (Reps.one (show Kd.M Kd.bool _ _ _ false [.bool false]from rfl) (Reps.one (show Kd.M Kd.bool _ _ _ false [.bool false]from rfl) (Reps.one (show Kd.M Kd.bool _ _ _ false [.bool false]from rfl) (Reps.none _ _))))));intro v135 w17 ho18 hb hg_ hnew_;clear hg_ hnew_;(first|rw[←Ny134.out]at ho18|(simp only[Int.reduceToNat]at ho18;rw[←Ny134.out]at ho18));have n0_:=Aside0.mk (Kd.R_lower ho18 (below_size (by repeat(first|(with_reducible first|exact HB.out|apply below_alloc|apply pw_below_drewN|apply below_drew1)|exact HB.out))));have n1_:=Aside0.mk (below_step (by repeat(first|(with_reducible first|exact HB.out|apply below_alloc|apply pw_below_drewN|apply below_drew1)|exact HB.out)) hb);clear HB;have HO136:=n0_;have HB:=n1_;clear n0_ n1_;clear hb ho18))
                go_ret
                exact⟨_,by first|rfl|(simp[errW_none,errW_some]<;>rfl)|(simp[*,errW_none,errW_some]<;>rfl),by(with_reducible repeat(first|apply Kd.R_alloc|apply Kd.R_drewN|apply Kd.R_drew));exact HO136.out,by repeat(first|(with_reducible first|exact HB.out|apply below_alloc|apply pw_below_drewN|apply below_drew1)|exact HB.out)⟩
              · replace c16:=Bool.eq_false_iff.mpr c16
                subst c16;have H1:(if a0=5 then(some (([true,false,true,false]:List Bool)))else(if a0=8 then(some (([true,true,true,true]:List Bool)))else(if a0=9 then(some (([false,false,true,false]:List Bool)))else(if a0=10 then(some (([true,false,true,true]:List Bool)))else(if a0=13 then(some (([false,false,false,true]:List Bool)))else(some (([]:List Bool))))))))=some r:=by rw[if_neg (show¬(false=true) by decide)]at H;exact H
                clear H;have H:=H1;clear H1;by_cases c19:a0=5
                · rw[if_pos c19]at H
                  have c19b0:(a0==5)=true:=beq_iff_eq.mpr c19;have c19b1:(a0 !=5)=false:=bne_eq_false_iff_eq.mpr c19;clear c19;obtain⟨y137,hy137⟩: ∃y_:List Bool,y_=(([true,false,true,false]:List Bool)):=⟨_,rfl⟩;replace H:(some y137)=some r:=by first|(rw[hy137];with_reducible exact H)|(have H2_:=(Option.bind_some _ _).symm.trans H;rw[hy137];with_reducible exact H2_)|(have H2_:=(Option.bind_some _ _).symm.trans H;with_reducible exact H2_)|with_reducible exact H|(rw[hy137];exact H)|exact H
                  have Ny137:=Aside0.mk hy137;clear hy137;obtain rfl:=Option.some.inj H;go_wp2_with (first|((with_reducible refine gate_dst (N:=21) rfl ?_);refine Kd.R_lit Kd.bool _ 4 ?hg (N:=21) ?hd (xs:=([true,false,true,false]:List Bool)) (inner:=[.bool true,.bool false,.bool true,.bool false]) (ok:=fun _=>True) (okp:=fun _=>True) ?hr ?hp (fun _ hk=>hk) trivial (Below.refl _ _) (Nat.le_refl _) (by simp) ?_;(case hd=>rfl);(case hg=>rfl);(case hr=>first|(go_simp;done)|(go_simp;rfl));(case hp=>exact(Reps.one (show Kd.M Kd.bool _ _ _ true [.bool true]from rfl) (Reps.one (show Kd.M Kd.bool _ _ _ false [.bool false]from rfl) (Reps.one (show Kd.M Kd.bool _ _ _ true [.bool true]from rfl) (Reps.one (show Kd.M Kd.bool _ _ _ false [.bool false]from rfl) (Reps.none _ _))))));intro v138 w20 ho21 hb hg_ hnew_;clear hg_ hnew_;(first|rw[←Ny137.out]at ho21|(simp only[Int.reduceToNat]at ho21;rw[←Ny137.out]at ho21));have n0_:=Aside0.mk (Kd.R_lower ho21 (below_size (by repeat(first|(with_reducible first|exact HB.out|apply below_alloc|apply pw_below_drewN|apply below_drew1)|exact HB.out))));have n1_:=Aside0.mk (below_step (by repeat(first|(with_reducible first|exact HB.out|apply below_alloc|apply pw_below_drewN|apply below_drew1)|exact HB.out)) hb);clear HB;have HO139:=n0_;have HB:=n1_;clear n0_ n1_;clear hb ho21))
                  go_ret
                  exact⟨_,by first|rfl|(simp[errW_none,errW_some]<;>rfl)|(simp[*,errW_none,errW_some]<;>rfl),by(with_reducible repeat(first|apply Kd.R_alloc|apply Kd.R_drewN|apply Kd.R_drew));exact HO139.out,by repeat(first|(with_reducible first|exact HB.out|apply below_alloc|apply pw_below_drewN|apply below_drew1)|exact HB.out)⟩
                · rw[if_neg c19]at H
                  have c19b0:(a0==5)=false:=beq_eq_false_iff_ne.mpr c19;have c19b1:(a0 !=5)=true:=bne_iff_ne.mpr c19;by_cases c22:a0=8
                  · rw[if_pos c22]at H
                    have c22b0:(a0==8)=true:=beq_iff_eq.mpr c22;have c22b1:(a0 !=8)=false:=bne_eq_false_iff_eq.mpr c22;clear c22;obtain⟨y140,hy140⟩: ∃y_:List Bool,y_=(([true,true,true,true]:List Bool)):=⟨_,rfl⟩;replace H:(some y140)=some r:=by first|(rw[hy140];with_reducible exact H)|(have H2_:=(Option.bind_some _ _).symm.trans H;rw[hy140];with_reducible exact H2_)|(have H2_:=(Option.bind_some _ _).symm.trans H;with_reducible exact H2_)|with_reducible exact H|(rw[hy140];exact H)|exact H
                    have Ny140:=Aside0.mk hy140;clear hy140;obtain rfl:=Option.some.inj H;go_wp2_with (first|((with_reducible refine gate_dst (N:=24) rfl ?_);refine Kd.R_lit Kd.bool _ 4 ?hg (N:=24) ?hd (xs:=([true,true,true,true]:List Bool)) (inner:=[.bool true,.bool true,.bool true,.bool true]) (ok:=fun _=>True) (okp:=fun _=>True) ?hr ?hp (fun _ hk=>hk) trivial (Below.refl _ _) (Nat.le_refl _) (by simp) ?_;(case hd=>rfl);(case hg=>rfl);(case hr=>first|(go_simp;done)|(go_simp;rfl));(case hp=>exact(Reps.one (show Kd.M Kd.bool _ _ _ true [.bool true]from rfl) (Reps.one (show Kd.M Kd.bool _ _ _ true [.bool true]from rfl) (Reps.one (show Kd.M Kd.bool _ _ _ true [.bool true]from rfl) (Reps.one (show Kd.M Kd.bool _ _ _ true [.bool true]from rfl) (Reps.none _ _))))));intro v141 w23 ho24 hb hg_ hnew_;clear hg_ hnew_;(first|rw[←Ny140.out]at ho24|(simp only[Int.reduceToNat]at ho24;rw[←Ny140.out]at ho24));have n0_:=Aside0.mk (Kd.R_lower ho24 (below_size (by repeat(first|(with_reducible first|exact HB.out|apply below_alloc|apply pw_below_drewN|apply below_drew1)|exact HB.out))));have n1_:=Aside0.mk (below_step (by repeat(first|(with_reducible first|exact HB.out|apply below_alloc|apply pw_below_drewN|apply below_drew1)|exact HB.out)) hb);clear HB;have HO142:=n0_;have HB:=n1_;clear n0_ n1_;clear hb ho24))
                    go_ret
                    exact⟨_,by first|rfl|(simp[errW_none,errW_some]<;>rfl)|(simp[*,errW_none,errW_some]<;>rfl),by(with_reducible repeat(first|apply Kd.R_alloc|apply Kd.R_drewN|apply Kd.R_drew));exact HO142.out,by repeat(first|(with_reducible first|exact HB.out|apply below_alloc|apply pw_below_drewN|apply below_drew1)|exact HB.out)⟩
                  · rw[if_neg c22]at H
                    have c22b0:(a0==8)=false:=beq_eq_false_iff_ne.mpr c22;have c22b1:(a0 !=8)=true:=bne_iff_ne.mpr c22;by_cases c25:a0=9
                    · rw[if_pos c25]at H
                      have c25b0:(a0==9)=true:=beq_iff_eq.mpr c25;have c25b1:(a0 !=9)=false:=bne_eq_false_iff_eq.mpr c25;clear c25;obtain⟨y143,hy143⟩: ∃y_:List Bool,y_=(([false,false,true,false]:List Bool)):=⟨_,rfl⟩;replace H:(some y143)=some r:=by first|(rw[hy143];with_reducible exact H)|(have H2_:=(Option.bind_some _ _).symm.trans H;rw[hy143];with_reducible exact H2_)|(have H2_:=(Option.bind_some _ _).symm.trans H;with_reducible exact H2_)|with_reducible exact H|(rw[hy143];exact H)|exact H
                      have Ny143:=Aside0.mk hy143;clear hy143;obtain rfl:=Option.some.inj H;go_wp2_with (first|((with_reducible refine gate_dst (N:=27) rfl ?_);refine Kd.R_lit Kd.bool _ 4 ?hg (N:=27) ?hd (xs:=([false,false,true,false]:List Bool)) (inner:=[.bool false,.bool false,.bool true,.bool false]) (ok:=fun _=>True) (okp:=fun _=>True) ?hr ?hp (fun _ hk=>hk) trivial (Below.refl _ _) (Nat.le_refl _) (by simp) ?_;(case hd=>rfl);(case hg=>rfl);(case hr=>first|(go_simp;done)|(go_simp;rfl));(case hp=>exact(Reps.one (show Kd.M Kd.bool _ _ _ false [.bool false]from rfl) (Reps.one (show Kd.M Kd.bool _ _ _ false [.bool false]from rfl) (Reps.one (show Kd.M Kd.bool _ _ _ true [.bool true]from rfl) (Reps.one (show Kd.M Kd.bool _ _ _ false [.bool false]from rfl) (Reps.none _ _))))));intro v144 w26 ho27 hb hg_ hnew_;clear hg_ hnew_;(first|rw[←Ny143.out]at ho27|(simp only[Int.reduceToNat]at ho27;rw[←Ny143.out]at ho27));have n0_:=Aside0.mk (Kd.R_lower ho27 (below_size (by repeat(first|(with_reducible first|exact HB.out|apply below_alloc|apply pw_below_drewN|apply below_drew1)|exact HB.out))));have n1_:=Aside0.mk (below_step (by repeat(first|(with_reducible first|exact HB.out|apply below_alloc|apply pw_below_drewN|apply below_drew1)|exact HB.out)) hb);clear HB;have HO145:=n0_;have HB:=n1_;clear n0_ n1_;clear hb ho27))
                      go_ret
                      exact⟨_,by first|rfl|(simp[errW_none,errW_some]<;>rfl)|(simp[*,errW_none,errW_some]<;>rfl),by(with_reducible repeat(first|apply Kd.R_alloc|apply Kd.R_drewN|apply Kd.R_drew));exact HO145.out,by repeat(first|(with_reducible first|exact HB.out|apply below_alloc|apply pw_below_drewN|apply below_drew1)|exact HB.out)⟩
                    · rw[if_neg c25]at H
                      have c25b0:(a0==9)=false:=beq_eq_false_iff_ne.mpr c25;have c25b1:(a0 !=9)=true:=bne_iff_ne.mpr c25;by_cases c28:a0=10
                      · rw[if_pos c28]at H
                        have c28b0:(a0==10)=true:=beq_iff_eq.mpr c28;have c28b1:(a0 !=10)=false:=bne_eq_false_iff_eq.mpr c28;clear c28;obtain⟨y146,hy146⟩: ∃y_:List Bool,y_=(([true,false,true,true]:List Bool)):=⟨_,rfl⟩;replace H:(some y146)=some r:=by first|(rw[hy146];with_reducible exact H)|(have H2_:=(Option.bind_some _ _).symm.trans H;rw[hy146];with_reducible exact H2_)|(have H2_:=(Option.bind_some _ _).symm.trans H;with_reducible exact H2_)|with_reducible exact H|(rw[hy146];exact H)|exact H
                        have Ny146:=Aside0.mk hy146;clear hy146;obtain rfl:=Option.some.inj H;go_wp2_with (first|((with_reducible refine gate_dst (N:=30) rfl ?_);refine Kd.R_lit Kd.bool _ 4 ?hg (N:=30) ?hd (xs:=([true,false,true,true]:List Bool)) (inner:=[.bool true,.bool false,.bool true,.bool true]) (ok:=fun _=>True) (okp:=fun _=>True) ?hr ?hp (fun _ hk=>hk) trivial (Below.refl _ _) (Nat.le_refl _) (by simp) ?_;(case hd=>rfl);(case hg=>rfl);(case hr=>first|(go_simp;done)|(go_simp;rfl));(case hp=>exact(Reps.one (show Kd.M Kd.bool _ _ _ true [.bool true]from rfl) (Reps.one (show Kd.M Kd.bool _ _ _ false [.bool false]from rfl) (Reps.one (show Kd.M Kd.bool _ _ _ true [.bool true]from rfl) (Reps.one (show Kd.M Kd.bool _ _ _ true [.bool true]from rfl) (Reps.none _ _))))));intro v147 w29 ho30 hb hg_ hnew_;clear hg_ hnew_;(first|rw[←Ny146.out]at ho30|(simp only[Int.reduceToNat]at ho30;rw[←Ny146.out]at ho30));have n0_:=Aside0.mk (Kd.R_lower ho30 (below_size (by repeat(first|(with_reducible first|exact HB.out|apply below_alloc|apply pw_below_drewN|apply below_drew1)|exact HB.out))));have n1_:=Aside0.mk (below_step (by repeat(first|(with_reducible first|exact HB.out|apply below_alloc|apply pw_below_drewN|apply below_drew1)|exact HB.out)) hb);clear HB;have HO148:=n0_;have HB:=n1_;clear n0_ n1_;clear hb ho30))
                        go_ret
                        exact⟨_,by first|rfl|(simp[errW_none,errW_some]<;>rfl)|(simp[*,errW_none,errW_some]<;>rfl),by(with_reducible repeat(first|apply Kd.R_alloc|apply Kd.R_drewN|apply Kd.R_drew));exact HO148.out,by repeat(first|(with_reducible first|exact HB.out|apply below_alloc|apply pw_below_drewN|apply below_drew1)|exact HB.out)⟩
                      · rw[if_neg c28]at H
                        have c28b0:(a0==10)=false:=beq_eq_false_iff_ne.mpr c28;have c28b1:(a0 !=10)=true:=bne_iff_ne.mpr c28;by_cases c31:a0=13
                        · rw[if_pos c31]at H
                          have c31b0:(a0==13)=true:=beq_iff_eq.mpr c31;have c31b1:(a0 !=13)=false:=bne_eq_false_iff_eq.mpr c31;clear c31;obtain⟨y149,hy149⟩: ∃y_:List Bool,y_=(([false,false,false,true]:List Bool)):=⟨_,rfl⟩;replace H:(some y149)=some r:=by first|(rw[hy149];with_reducible exact H)|(have H2_:=(Option.bind_some _ _).symm.trans H;rw[hy149];with_reducible exact H2_)|(have H2_:=(Option.bind_some _ _).symm.trans H;with_reducible exact H2_)|with_reducible exact H|(rw[hy149];exact H)|exact H
                          have Ny149:=Aside0.mk hy149;clear hy149;obtain rfl:=Option.some.inj H;go_wp2_with (first|((with_reducible refine gate_dst (N:=33) rfl ?_);refine Kd.R_lit Kd.bool _ 4 ?hg (N:=33) ?hd (xs:=([false,false,false,true]:List Bool)) (inner:=[.bool false,.bool false,.bool false,.bool true]) (ok:=fun _=>True) (okp:=fun _=>True) ?hr ?hp (fun _ hk=>hk) trivial (Below.refl _ _) (Nat.le_refl _) (by simp) ?_;(case hd=>rfl);(case hg=>rfl);(case hr=>first|(go_simp;done)|(go_simp;rfl));(case hp=>exact(Reps.one (show Kd.M Kd.bool _ _ _ false [.bool false]from rfl) (Reps.one (show Kd.M Kd.bool _ _ _ false [.bool false]from rfl) (Reps.one (show Kd.M Kd.bool _ _ _ false [.bool false]from rfl) (Reps.one (show Kd.M Kd.bool _ _ _ true [.bool true]from rfl) (Reps.none _ _))))));intro v150 w32 ho33 hb hg_ hnew_;clear hg_ hnew_;(first|rw[←Ny149.out]at ho33|(simp only[Int.reduceToNat]at ho33;rw[←Ny149.out]at ho33));have n0_:=Aside0.mk (Kd.R_lower ho33 (below_size (by repeat(first|(with_reducible first|exact HB.out|apply below_alloc|apply pw_below_drewN|apply below_drew1)|exact HB.out))));have n1_:=Aside0.mk (below_step (by repeat(first|(with_reducible first|exact HB.out|apply below_alloc|apply pw_below_drewN|apply below_drew1)|exact HB.out)) hb);clear HB;have HO151:=n0_;have HB:=n1_;clear n0_ n1_;clear hb ho33))
                          go_ret
                          exact⟨_,by first|rfl|(simp[errW_none,errW_some]<;>rfl)|(simp[*,errW_none,errW_some]<;>rfl),by(with_reducible repeat(first|apply Kd.R_alloc|apply Kd.R_drewN|apply Kd.R_drew));exact HO151.out,by repeat(first|(with_reducible first|exact HB.out|apply below_alloc|apply pw_below_drewN|apply below_drew1)|exact HB.out)⟩
                        · rw[if_neg c31]at H
                          have c31b0:(a0==13)=false:=beq_eq_false_iff_ne.mpr c31;have c31b1:(a0 !=13)=true:=bne_iff_ne.mpr c31;obtain⟨y152,hy152⟩: ∃y_:List Bool,y_=(([]:List Bool)):=⟨_,rfl⟩;replace H:(some y152)=some r:=by first|(rw[hy152];with_reducible exact H)|(have H2_:=(Option.bind_some _ _).symm.trans H;rw[hy152];with_reducible exact H2_)|(have H2_:=(Option.bind_some _ _).symm.trans H;with_reducible exact H2_)|with_reducible exact H|(rw[hy152];exact H)|exact H
                          have Ny152:=Aside0.mk hy152;clear hy152;obtain rfl:=Option.some.inj H;go_wp2_with (first|((with_reducible refine gate_dst (N:=34) rfl ?_);refine Kd.R_lit Kd.bool _ 4 ?hg (N:=34) ?hd (xs:=([]:List Bool)) (inner:=[]) (ok:=fun _=>True) (okp:=fun _=>True) ?hr ?hp (fun _ hk=>hk) trivial (Below.refl _ _) (Nat.le_refl _) (by simp) ?_;(case hd=>rfl);(case hg=>rfl);(case hr=>first|(go_simp;done)|(go_simp;rfl));(case hp=>exact(Reps.none _ _));intro v153 w34 ho35 hb hg_ hnew_;clear hg_ hnew_;(first|rw[←Ny152.out]at ho35|(simp only[Int.reduceToNat]at ho35;rw[←Ny152.out]at ho35));have n0_:=Aside0.mk (Kd.R_lower ho35 (below_size (by repeat(first|(with_reducible first|exact HB.out|apply below_alloc|apply pw_below_drewN|apply below_drew1)|exact HB.out))));have n1_:=Aside0.mk (below_step (by repeat(first|(with_reducible first|exact HB.out|apply below_alloc|apply pw_below_drewN|apply below_drew1)|exact HB.out)) hb);clear HB;have HO154:=n0_;have HB:=n1_;clear n0_ n1_;clear hb ho35))
                          go_ret
                          exact⟨_,by first|rfl|(simp[errW_none,errW_some]<;>rfl)|(simp[*,errW_none,errW_some]<;>rfl),by(with_reducible repeat(first|apply Kd.R_alloc|apply Kd.R_drewN|apply Kd.R_drew));exact HO154.out,by repeat(first|(with_reducible first|exact HB.out|apply below_alloc|apply pw_below_drewN|apply below_drew1)|exact HB.out)⟩
def spec_l6In.f (a0:Int) (a1:Int) (a2:Int):Option (Bool):=if a0≥a1 then(some (decide (a0≤a2)))else(some false)
theorem spec_l6In.calls (a0:Int) (a1:Int) (a2:Int) (r:Bool) (w:World) (h:spec_l6In.f a0 a1 a2=some r):
    Calls Tryd.prog 56 #[.int .i64 a0,.int .i64 a1,.int .i64 a2] w fun e w'=>e= .returned (.bool r)∧Drawn0 w w':=by
  have H:(if a0≥a1 then(some (decide (a0≤a2)))else(some false))=some r:=h
  clear h;by_cases c4:a0≥a1
  · rw[if_pos c4]at H
    have c4b0:decide (a1≤a0)=true:=decide_eq_true c4;clear c4;obtain rfl:=Option.some.inj H;go_enter Tryd.func56,Tryd.ntmps56
    go_wp2
    go_ret
    exact⟨by first|rfl|(simp;done)|(simp[*];done),by repeat(first|exact Drawn0.refl _|apply Drawn0.step)⟩
  · rw[if_neg c4]at H
    have c4b0:decide (a1≤a0)=false:=decide_eq_false c4;clear c4;obtain rfl:=Option.some.inj H;go_enter Tryd.func56,Tryd.ntmps56
    go_wp2
    go_ret
    exact⟨by first|rfl|(simp;done)|(simp[*];done),by repeat(first|exact Drawn0.refl _|apply Drawn0.step)⟩
def spec_ValOk.f (a0_0:Int) (a0_1:Int):Option (Bool):=if a0_0=0 then(some (a0_1==0))else(if a0_0=1 then((spec_l6In.f a0_1 (-99) 99).bind fun t156=>(some t156))else(if a0_0=2 then((spec_l6In.f a0_1 0 9).bind fun t157=>(some t157))else(if a0_0=3 then((spec_l6In.f a0_1 1 6).bind fun t158=>(some t158))else(some false))))
theorem spec_ValOk.calls (a0_0:Int) (a0_1:Int) (r:Bool) (w:World) (h:spec_ValOk.f a0_0 a0_1=some r):
    Calls Tryd.prog 42 #[.agg #[.int .i64 a0_0,.int .i64 a0_1]] w fun e w'=>e= .returned (.bool r)∧Below w.heap.size w w':=by
  have hu25:=Tryd.underlying25;have HB:=Aside0.mk (Below.refl w.heap.size w);have H:(if a0_0=0 then(some (a0_1==0))else(if a0_0=1 then((spec_l6In.f a0_1 (-99) 99).bind fun t156=>(some t156))else(if a0_0=2 then((spec_l6In.f a0_1 0 9).bind fun t157=>(some t157))else(if a0_0=3 then((spec_l6In.f a0_1 1 6).bind fun t158=>(some t158))else(some false)))))=some r:=h
  clear h;by_cases c2:a0_0=0
  · rw[if_pos c2]at H
    have c2b0:(a0_0==0)=true:=beq_iff_eq.mpr c2;have c2b1:(a0_0 !=0)=false:=bne_eq_false_iff_eq.mpr c2;clear c2;obtain rfl:=Option.some.inj H;go_enter Tryd.func42,Tryd.ntmps42
    go_wp2_with (first|((with_reducible refine gate_dst (N:=1) rfl ?_);refine box_event ?hg (N:=1) ?hd (cs:= #[.int .i64 a0_0,.int .i64 a0_1]) (t:=25) ?hr ?_;(case hd=>rfl);(case hg=>rfl);(case hr=>first|(go_simp;done)|(go_simp;rfl));intro gb155 hg w3 hbox hb;have n0_:=Aside0.mk (below_step (by repeat(first|(with_reducible first|exact HB.out|apply below_alloc|apply pw_below_drewN|apply below_drew1)|exact HB.out)) hb);have n1_:=Aside0.mk (hbox);have n2_:=Aside0.mk ((by rw[hg];exact(below_size (by repeat(first|(with_reducible first|exact HB.out|apply below_alloc|apply pw_below_drewN|apply below_drew1)|exact HB.out))):w.heap.size≤gb155));have n3_:=Aside0.mk ((by rw[hg];exact(below_size (by repeat(first|(with_reducible first|exact HB.out|apply below_alloc|apply pw_below_drewN|apply below_drew1)|exact HB.out))):w.heap.size≤gb155));clear HB;have HB:=n0_;have BK155:=n1_;have GW155:=n2_;have GE155:=n3_;clear n0_ n1_ n2_ n3_;clear hb hbox hg;have hcz4_0:w3.cell? ⟨gb155,0,none⟩=some (.int .i64 a0_0):=(blk_cell BK155.out 0).trans rfl;have hcz4_1:w3.cell? ⟨gb155,1,none⟩=some (.int .i64 a0_1):=(blk_cell BK155.out 1).trans rfl;have hfz4_0:=blk_frozen BK155.out 0;have hfz4_1:=blk_frozen BK155.out 1))
    go_ret
    exact⟨by first|rfl|(simp[errW_none,errW_some]<;>rfl)|(simp[*,errW_none,errW_some]<;>rfl),by repeat(first|(with_reducible first|exact HB.out|apply below_alloc|apply pw_below_drewN|apply below_drew1|refine below_set ?_ GE155.out)|exact HB.out)⟩
  · rw[if_neg c2]at H
    have c2b0:(a0_0==0)=false:=beq_eq_false_iff_ne.mpr c2;have c2b1:(a0_0 !=0)=true:=bne_iff_ne.mpr c2;by_cases c5:a0_0=1
    · rw[if_pos c5]at H
      have c5b0:(a0_0==1)=true:=beq_iff_eq.mpr c5;have c5b1:(a0_0 !=1)=false:=bne_eq_false_iff_eq.mpr c5;clear c5;replace H:=Option.bind_eq_some_iff.mp H;obtain⟨t156,A60,H⟩:=H;replace H:(some t156)=some r:=H;have A6:=Aside0.mk A60;clear A60;obtain rfl:=Option.some.inj H;go_enter Tryd.func42,Tryd.ntmps42
      go_wp2_with (first|((with_reducible refine gate_dst (N:=1) rfl ?_);refine box_event ?hg (N:=1) ?hd (cs:= #[.int .i64 a0_0,.int .i64 a0_1]) (t:=25) ?hr ?_;(case hd=>rfl);(case hg=>rfl);(case hr=>first|(go_simp;done)|(go_simp;rfl));intro gb155 hg w7 hbox hb;have n0_:=Aside0.mk (below_step (by repeat(first|(with_reducible first|exact HB.out|apply below_alloc|apply pw_below_drewN|apply below_drew1)|exact HB.out)) hb);have n1_:=Aside0.mk (hbox);have n2_:=Aside0.mk ((by rw[hg];exact(below_size (by repeat(first|(with_reducible first|exact HB.out|apply below_alloc|apply pw_below_drewN|apply below_drew1)|exact HB.out))):w.heap.size≤gb155));have n3_:=Aside0.mk ((by rw[hg];exact(below_size (by repeat(first|(with_reducible first|exact HB.out|apply below_alloc|apply pw_below_drewN|apply below_drew1)|exact HB.out))):w.heap.size≤gb155));clear HB;have HB:=n0_;have BK155:=n1_;have GW155:=n2_;have GE155:=n3_;clear n0_ n1_ n2_ n3_;clear hb hbox hg;have hcz8_0:w7.cell? ⟨gb155,0,none⟩=some (.int .i64 a0_0):=(blk_cell BK155.out 0).trans rfl;have hcz8_1:w7.cell? ⟨gb155,1,none⟩=some (.int .i64 a0_1):=(blk_cell BK155.out 1).trans rfl;have hfz8_0:=blk_frozen BK155.out 0;have hfz8_1:=blk_frozen BK155.out 1)|((with_reducible refine gate_callee (f:=56) rfl ?_);refine goesL_ (some 14) rfl rfl Tryd.func56 (by kernel_rfl) rfl #[.int .i64 a0_1,.int .i64 (-99),.int .i64 99] rfl (by(try simp only[List.map_toArray,List.map_cons,List.map_nil]);first|done|rfl|(simp only[List.length_drop,List.length_take];rfl)) ?_;(with_reducible refine(spec_l6In.calls a0_1 (-99) 99 t156 _ A6.out).mono ?_);rintro e w' ⟨rfl,⟨nd,rfl⟩⟩;refine⟨_,rfl,?_⟩))
      go_ret
      exact⟨by first|rfl|(simp[errW_none,errW_some]<;>rfl)|(simp[*,errW_none,errW_some]<;>rfl),by repeat(first|(with_reducible first|exact HB.out|apply below_alloc|apply pw_below_drewN|apply below_drew1|refine below_set ?_ GE155.out)|exact HB.out)⟩
    · rw[if_neg c5]at H
      have c5b0:(a0_0==1)=false:=beq_eq_false_iff_ne.mpr c5;have c5b1:(a0_0 !=1)=true:=bne_iff_ne.mpr c5;by_cases c9:a0_0=2
      · rw[if_pos c9]at H
        have c9b0:(a0_0==2)=true:=beq_iff_eq.mpr c9;have c9b1:(a0_0 !=2)=false:=bne_eq_false_iff_eq.mpr c9;clear c9;replace H:=Option.bind_eq_some_iff.mp H;obtain⟨t157,A100,H⟩:=H;replace H:(some t157)=some r:=H;have A10:=Aside0.mk A100;clear A100;obtain rfl:=Option.some.inj H;go_enter Tryd.func42,Tryd.ntmps42
        go_wp2_with (first|((with_reducible refine gate_dst (N:=1) rfl ?_);refine box_event ?hg (N:=1) ?hd (cs:= #[.int .i64 a0_0,.int .i64 a0_1]) (t:=25) ?hr ?_;(case hd=>rfl);(case hg=>rfl);(case hr=>first|(go_simp;done)|(go_simp;rfl));intro gb155 hg w11 hbox hb;have n0_:=Aside0.mk (below_step (by repeat(first|(with_reducible first|exact HB.out|apply below_alloc|apply pw_below_drewN|apply below_drew1)|exact HB.out)) hb);have n1_:=Aside0.mk (hbox);have n2_:=Aside0.mk ((by rw[hg];exact(below_size (by repeat(first|(with_reducible first|exact HB.out|apply below_alloc|apply pw_below_drewN|apply below_drew1)|exact HB.out))):w.heap.size≤gb155));have n3_:=Aside0.mk ((by rw[hg];exact(below_size (by repeat(first|(with_reducible first|exact HB.out|apply below_alloc|apply pw_below_drewN|apply below_drew1)|exact HB.out))):w.heap.size≤gb155));clear HB;have HB:=n0_;have BK155:=n1_;have GW155:=n2_;have GE155:=n3_;clear n0_ n1_ n2_ n3_;clear hb hbox hg;have hcz12_0:w11.cell? ⟨gb155,0,none⟩=some (.int .i64 a0_0):=(blk_cell BK155.out 0).trans rfl;have hcz12_1:w11.cell? ⟨gb155,1,none⟩=some (.int .i64 a0_1):=(blk_cell BK155.out 1).trans rfl;have hfz12_0:=blk_frozen BK155.out 0;have hfz12_1:=blk_frozen BK155.out 1)|((with_reducible refine gate_callee (f:=56) rfl ?_);refine goesL_ (some 19) rfl rfl Tryd.func56 (by kernel_rfl) rfl #[.int .i64 a0_1,.int .i64 0,.int .i64 9] rfl (by(try simp only[List.map_toArray,List.map_cons,List.map_nil]);first|done|rfl|(simp only[List.length_drop,List.length_take];rfl)) ?_;(with_reducible refine(spec_l6In.calls a0_1 0 9 t157 _ A10.out).mono ?_);rintro e w' ⟨rfl,⟨nd,rfl⟩⟩;refine⟨_,rfl,?_⟩))
        go_ret
        exact⟨by first|rfl|(simp[errW_none,errW_some]<;>rfl)|(simp[*,errW_none,errW_some]<;>rfl),by repeat(first|(with_reducible first|exact HB.out|apply below_alloc|apply pw_below_drewN|apply below_drew1|refine below_set ?_ GE155.out)|exact HB.out)⟩
      · rw[if_neg c9]at H
        have c9b0:(a0_0==2)=false:=beq_eq_false_iff_ne.mpr c9;have c9b1:(a0_0 !=2)=true:=bne_iff_ne.mpr c9;by_cases c13:a0_0=3
        · rw[if_pos c13]at H
          have c13b0:(a0_0==3)=true:=beq_iff_eq.mpr c13;have c13b1:(a0_0 !=3)=false:=bne_eq_false_iff_eq.mpr c13;clear c13;replace H:=Option.bind_eq_some_iff.mp H;obtain⟨t158,A140,H⟩:=H;replace H:(some t158)=some r:=H;have A14:=Aside0.mk A140;clear A140;obtain rfl:=Option.some.inj H;go_enter Tryd.func42,Tryd.ntmps42
          go_wp2_with (first|((with_reducible refine gate_dst (N:=1) rfl ?_);refine box_event ?hg (N:=1) ?hd (cs:= #[.int .i64 a0_0,.int .i64 a0_1]) (t:=25) ?hr ?_;(case hd=>rfl);(case hg=>rfl);(case hr=>first|(go_simp;done)|(go_simp;rfl));intro gb155 hg w15 hbox hb;have n0_:=Aside0.mk (below_step (by repeat(first|(with_reducible first|exact HB.out|apply below_alloc|apply pw_below_drewN|apply below_drew1)|exact HB.out)) hb);have n1_:=Aside0.mk (hbox);have n2_:=Aside0.mk ((by rw[hg];exact(below_size (by repeat(first|(with_reducible first|exact HB.out|apply below_alloc|apply pw_below_drewN|apply below_drew1)|exact HB.out))):w.heap.size≤gb155));have n3_:=Aside0.mk ((by rw[hg];exact(below_size (by repeat(first|(with_reducible first|exact HB.out|apply below_alloc|apply pw_below_drewN|apply below_drew1)|exact HB.out))):w.heap.size≤gb155));clear HB;have HB:=n0_;have BK155:=n1_;have GW155:=n2_;have GE155:=n3_;clear n0_ n1_ n2_ n3_;clear hb hbox hg;have hcz16_0:w15.cell? ⟨gb155,0,none⟩=some (.int .i64 a0_0):=(blk_cell BK155.out 0).trans rfl;have hcz16_1:w15.cell? ⟨gb155,1,none⟩=some (.int .i64 a0_1):=(blk_cell BK155.out 1).trans rfl;have hfz16_0:=blk_frozen BK155.out 0;have hfz16_1:=blk_frozen BK155.out 1)|((with_reducible refine gate_callee (f:=56) rfl ?_);refine goesL_ (some 24) rfl rfl Tryd.func56 (by kernel_rfl) rfl #[.int .i64 a0_1,.int .i64 1,.int .i64 6] rfl (by(try simp only[List.map_toArray,List.map_cons,List.map_nil]);first|done|rfl|(simp only[List.length_drop,List.length_take];rfl)) ?_;(with_reducible refine(spec_l6In.calls a0_1 1 6 t158 _ A14.out).mono ?_);rintro e w' ⟨rfl,⟨nd,rfl⟩⟩;refine⟨_,rfl,?_⟩))
          go_ret
          exact⟨by first|rfl|(simp[errW_none,errW_some]<;>rfl)|(simp[*,errW_none,errW_some]<;>rfl),by repeat(first|(with_reducible first|exact HB.out|apply below_alloc|apply pw_below_drewN|apply below_drew1|refine below_set ?_ GE155.out)|exact HB.out)⟩
        · rw[if_neg c13]at H
          have c13b0:(a0_0==3)=false:=beq_eq_false_iff_ne.mpr c13;have c13b1:(a0_0 !=3)=true:=bne_iff_ne.mpr c13;obtain rfl:=Option.some.inj H;go_enter Tryd.func42,Tryd.ntmps42
          go_wp2_with (first|((with_reducible refine gate_dst (N:=1) rfl ?_);refine box_event ?hg (N:=1) ?hd (cs:= #[.int .i64 a0_0,.int .i64 a0_1]) (t:=25) ?hr ?_;(case hd=>rfl);(case hg=>rfl);(case hr=>first|(go_simp;done)|(go_simp;rfl));intro gb155 hg w17 hbox hb;have n0_:=Aside0.mk (below_step (by repeat(first|(with_reducible first|exact HB.out|apply below_alloc|apply pw_below_drewN|apply below_drew1)|exact HB.out)) hb);have n1_:=Aside0.mk (hbox);have n2_:=Aside0.mk ((by rw[hg];exact(below_size (by repeat(first|(with_reducible first|exact HB.out|apply below_alloc|apply pw_below_drewN|apply below_drew1)|exact HB.out))):w.heap.size≤gb155));have n3_:=Aside0.mk ((by rw[hg];exact(below_size (by repeat(first|(with_reducible first|exact HB.out|apply below_alloc|apply pw_below_drewN|apply below_drew1)|exact HB.out))):w.heap.size≤gb155));clear HB;have HB:=n0_;have BK155:=n1_;have GW155:=n2_;have GE155:=n3_;clear n0_ n1_ n2_ n3_;clear hb hbox hg;have hcz18_0:w17.cell? ⟨gb155,0,none⟩=some (.int .i64 a0_0):=(blk_cell BK155.out 0).trans rfl;have hcz18_1:w17.cell? ⟨gb155,1,none⟩=some (.int .i64 a0_1):=(blk_cell BK155.out 1).trans rfl;have hfz18_0:=blk_frozen BK155.out 0;have hfz18_1:=blk_frozen BK155.out 1))
          go_ret
          exact⟨by first|rfl|(simp[errW_none,errW_some]<;>rfl)|(simp[*,errW_none,errW_some]<;>rfl),by repeat(first|(with_reducible first|exact HB.out|apply below_alloc|apply pw_below_drewN|apply below_drew1|refine below_set ?_ GE155.out)|exact HB.out)⟩
end Go.Proofs.YtmklpbmlgjkbiaaDoor.PS
end
section
namespace Go.Proofs.YtmklpbmlgjkbiaaDoor.PS
open Go.RowKit Go.Proofs.YtmklpbmlgjkbiaaDoorW.PrintWords Go.Proofs.YtmklpbmlgjkbiaaDoorW.PrintLast Go.Proofs.YtmklpbmlgjkbiaaDoorW.PrintMore
attribute [local go_sem] max2_int min2_int max_two min_two max_three min_three max_four min_four   -- for this text's walks alone
def IsS95 (w0 W:World) (g:Nat) (f0:List Int) (f1:Int):Prop:= ∃A0 c0,W.heap[g]?=some (.cells #[.slice A0 f0.length c0,.int .i64 f1] 95 (0,0))∧w0.heap.size≤g∧Kd.C (Kd.int .u8) w0 A0 f0.length f0
theorem IsS95.grown {w0 W:World} {g:Nat} {f0:List Int} {f1:Int} {W1:World} {row:Option Nat} (h:IsS95 w0 W g f0 f1) (hw:W.grownBy W1 row) (hne:some g≠row):IsS95 w0 W1 g f0 f1:=by
  obtain⟨A0,c0,hb,hg,hr0⟩:=h;exact⟨A0,c0,blk_grown hb hw hne,hg,hr0⟩
theorem IsS95.kept {w0 W:World} {g:Nat} {f0:List Int} {f1:Int} {W1:World} {S:Nat→Prop} (h:IsS95 w0 W g f0 f1) (hk:Kept W W1 S) (hne: ¬S g):IsS95 w0 W1 g f0 f1:=by
  obtain⟨A0,c0,hb,hg,hr0⟩:=h;exact⟨A0,c0,blk_kept hb hk hne,hg,hr0⟩
theorem IsS95.below {w0 W:World} {g:Nat} {f0:List Int} {f1:Int} {W1:World} (h:IsS95 w0 W g f0 f1) (hw:Below W.heap.size W W1):IsS95 w0 W1 g f0 f1:=h.grown (grown_of_below hw none) (by simp)
theorem IsS95.alloc {w0 W:World} {g:Nat} {f0:List Int} {f1:Int} (h:IsS95 w0 W g f0 f1) (o:Obj):IsS95 w0 (W.alloc o) g f0 f1:=h.below (below_alloc (Below.refl _ _) o)
theorem IsS95.drewN {w0 W:World} {g:Nat} {f0:List Int} {f1:Int} (h:IsS95 w0 W g f0 f1) (m:Nat):IsS95 w0 (W.drewN m) g f0 f1:=h
theorem IsS95.drew {w0 W:World} {g:Nat} {f0:List Int} {f1:Int} (h:IsS95 w0 W g f0 f1):IsS95 w0 W.drew g f0 f1:=h
theorem IsS95.apart {w0 W:World} {g:Nat} {f0:List Int} {f1:Int} {α:Type} {d:Kd α} {e:Nat} {base:Nat} {ok:Nat→Prop} {v:Value} {xs:List α} (h:IsS95 w0 W g f0 f1) (ho:d.R e W base ok v xs) (ht: ∀q,q∈e::d.E→q≠95):d.R e W base (fun k=>ok k∧k≠g) v xs:=by
  obtain⟨A0,c0,hb,hg,hr0⟩:=h;exact Kd.R_types ho hb ht
end Go.Proofs.YtmklpbmlgjkbiaaDoor.PS
end
section
namespace Go.Proofs.YtmklpbmlgjkbiaaDoor.PS
open Go.RowKit Go.Proofs.YtmklpbmlgjkbiaaDoorW.PrintWords Go.Proofs.YtmklpbmlgjkbiaaDoorW.PrintLast
attribute [local go_sem high] eqA25
theorem in2_any (a b c:Int) (w:World):Calls Tryd.prog 56 #[.int .i64 a,.int .i64 b,.int .i64 c] w fun e w'=>e= .returned (.bool (decide (b≤a∧a≤c)))∧w=w':=by
  by_cases h1:b≤a<;>by_cases h2:a≤c<;>(go_enter Tryd.func56,Tryd.ntmps56;go_wp2;go_ret;exact⟨by simp[h1,h2],rfl⟩)
theorem slot_any (a:Int) (w:World):Calls Tryd.prog 71 #[.int .i64 a] w fun e w'=>e= .returned (.bool (decide (0≤a∧a≤3)))∧w=w':=by
  go_enter Tryd.func71,Tryd.ntmps71
  go_wp2_with (go_at_call 56;refine(in2_any _ _ _ _).mono ?_;rintro e w' ⟨rfl,rfl⟩)
  go_ret
  exact⟨by first|rfl|simp,rfl⟩
theorem to_any (a:Int) (w:World):Calls Tryd.prog 72 #[.int .i64 a] w fun e w'=>e= .returned (.bool (decide (0≤a∧a≤15)))∧w=w':=by
  go_enter Tryd.func72,Tryd.ntmps72
  go_wp2_with (go_at_call 56;refine(in2_any _ _ _ _).mono ?_;rintro e w' ⟨rfl,rfl⟩)
  go_ret
  exact⟨by first|rfl|simp,rfl⟩
theorem cell_lt {w:World} {g i:Nat} {v:Value} (h:w.cell? ⟨g,i,none⟩=some v):g<w.heap.size:=by
  by_cases hg:g<w.heap.size
  · exact hg
  · simp[World.cell?,Array.getElem?_eq_none (Nat.not_lt.1 hg)]at h
theorem own4 {w:World} {base:Nat} {ok:Nat→Prop} {v:Value} {a b c d:Bool} (h:Kd.R Kd.bool 4 w base ok v [a,b,c,d]):
    ∃g cap,v= .slice (some ⟨g,0,none⟩) 4 cap∧base≤g∧w.cell? ⟨g,0,none⟩=some (.bool a)∧w.cell? ⟨g,1,none⟩=some (.bool b)∧w.cell? ⟨g,2,none⟩=some (.bool c)∧w.cell? ⟨g,3,none⟩=some (.bool d):=by
  obtain⟨inner,ho⟩:=Kd.R_own h;rcases ho.2 with ⟨_,h2⟩|⟨g,cap,cur,rfl,hg,_⟩
  · obtain⟨A,c0,e,_,hC⟩:=Kd.R_reads h
    have:=ho.2;simp_all
  · exact⟨g,cap,rfl,hg,(Kd.R_cell (xs:=[a,b,c,d]) false h 0 (by omega) (by simp)).1,(Kd.R_cell (xs:=[a,b,c,d]) false h 1 (by omega) (by simp)).1,(Kd.R_cell (xs:=[a,b,c,d]) false h 2 (by omega) (by simp)).1,(Kd.R_cell (xs:=[a,b,c,d]) false h 3 (by omega) (by simp)).1⟩
theorem specOp_main (k r s t vk vn:Int) (w:World) (g0 u0 u1 u2 u3 vb:Bool)
    (hForm: ∀W,Calls Tryd.prog 49 #[.int .i64 k] W fun e w'=> ∃g c,e= .returned (.slice (some ⟨g,0,none⟩) 4 c)∧Below W.heap.size W w'∧W.heap.size≤g∧w'.cell? ⟨g,0,none⟩=some (.bool u0)∧w'.cell? ⟨g,1,none⟩=some (.bool u1)∧w'.cell? ⟨g,2,none⟩=some (.bool u2)∧w'.cell? ⟨g,3,none⟩=some (.bool u3))
    (hVal: ∀W,Calls Tryd.prog 42 #[.agg #[.int .i64 vk,.int .i64 vn]] W fun e w'=>e= .returned (.bool vb)∧Below W.heap.size W w') (c8:(k==8)=false) (c13:(k==13)=false) (hvb:Aside0 (vb=true)) (hg:Aside0 (g0=(((decide (0≤r∧r≤3)&&u0)||r==0)&&(((decide (0≤s∧s≤3)&&u1)||s==0)&&(((decide (0≤t∧t≤15)&&u2)||t==0)&&(u3||(vk==0&&(vn==0)))))))):
    Calls Tryd.prog 48 #[.agg #[.int .i64 k,.int .i64 r,.int .i64 s,.int .i64 t,.int .i64 vk,.int .i64 vn]] w fun e w'=>e= .returned (.bool g0)∧Below w.heap.size w w':=by
  have BK:Aside0 ((w.alloc (.cells #[.int .i64 k,.int .i64 r,.int .i64 s,.int .i64 t,.int .i64 vk,.int .i64 vn] 35)).heap[w.heap.size]?=some (.cells #[.int .i64 k,.int .i64 r,.int .i64 s,.int .i64 t,.int .i64 vk,.int .i64 vn] 35 (0,0))):=⟨blk_new _ _⟩;have HB:=Aside0.mk (Below.refl w.heap.size w);have hu27:=Tryd.underlying25;have hu29:=Tryd.underlying35;obtain rfl:=hvb.out;clear hvb;go_enter Tryd.func48,Tryd.ntmps48
  go_wp2_with (first|(go_at_call 49;refine(hForm _).mono ?_;rintro e w' ⟨g,c,rfl,hb,hg,f0,f1,f2,f3⟩;have SZ:=Aside0.mk (hb.size);have BK:=Aside0.mk (blk_below (by(with_reducible repeat(first|refine blk_drewN ?_ _|refine blk_drew ?_|refine blk_alloc ?_ _));exact BK.out) hb);have HB:=Aside0.mk (below_step (by repeat(first|(with_reducible first|exact HB.out|apply below_alloc|apply pw_below_drewN|apply below_drew1)|exact HB.out)) hb);have q0:w'.cell? ⟨w.heap.size,0,none⟩=some (.int .i64 k):=(blk_cell BK.out 0).trans rfl;have q1:w'.cell? ⟨w.heap.size,1,none⟩=some (.int .i64 r):=(blk_cell BK.out 1).trans rfl;have q2:w'.cell? ⟨w.heap.size,2,none⟩=some (.int .i64 s):=(blk_cell BK.out 2).trans rfl;have q3:w'.cell? ⟨w.heap.size,3,none⟩=some (.int .i64 t):=(blk_cell BK.out 3).trans rfl;have q4:w'.cell? ⟨w.heap.size,4,none⟩=some (.int .i64 vk):=(blk_cell BK.out 4).trans rfl;have q5:w'.cell? ⟨w.heap.size,5,none⟩=some (.int .i64 vn):=(blk_cell BK.out 5).trans rfl;have GS:=Aside0.mk (cell_lt f0);have P0:=Aside0.mk f0;have P1:=Aside0.mk f1;have P2:=Aside0.mk f2;have P3:=Aside0.mk f3;clear hb hg)|(go_at_call 42;refine(hVal _).mono ?_;rintro e w'2 ⟨rfl,hb⟩;have P0:=Aside0.mk ((hb.cell (p:=⟨g,0,none⟩) GS.out).trans P0.out);have P1:=Aside0.mk ((hb.cell (p:=⟨g,1,none⟩) GS.out).trans P1.out);have P2:=Aside0.mk ((hb.cell (p:=⟨g,2,none⟩) GS.out).trans P2.out);have P3:=Aside0.mk ((hb.cell (p:=⟨g,3,none⟩) GS.out).trans P3.out);have BK:=Aside0.mk (blk_below (by(with_reducible repeat(first|refine blk_drewN ?_ _|refine blk_drew ?_|refine blk_alloc ?_ _));exact BK.out) hb);have HB:=Aside0.mk (below_step (by repeat(first|(with_reducible first|exact HB.out|apply below_alloc|apply pw_below_drewN|apply below_drew1)|exact HB.out)) hb);have q0:w'2.cell? ⟨w.heap.size,0,none⟩=some (.int .i64 k):=(blk_cell BK.out 0).trans rfl;have q1:w'2.cell? ⟨w.heap.size,1,none⟩=some (.int .i64 r):=(blk_cell BK.out 1).trans rfl;have q2:w'2.cell? ⟨w.heap.size,2,none⟩=some (.int .i64 s):=(blk_cell BK.out 2).trans rfl;have q3:w'2.cell? ⟨w.heap.size,3,none⟩=some (.int .i64 t):=(blk_cell BK.out 3).trans rfl;have q4:w'2.cell? ⟨w.heap.size,4,none⟩=some (.int .i64 vk):=(blk_cell BK.out 4).trans rfl;have q5:w'2.cell? ⟨w.heap.size,5,none⟩=some (.int .i64 vn):=(blk_cell BK.out 5).trans rfl;have f0:=P0.out;have f1:=P1.out;have f2:=P2.out;have f3:=P3.out;clear hb)|(go_at_call 56;refine(in2_any _ _ _ _).mono ?_;rintro e w' ⟨rfl,rfl⟩)|(go_at_call 71;refine(slot_any _ _).mono ?_;rintro e w' ⟨rfl,rfl⟩)|(go_at_call 72;refine(to_any _ _).mono ?_;rintro e w' ⟨rfl,rfl⟩))
  all_goals go_ret
  all_goals refine⟨?_,HB.out⟩
  all_goals(rw[hg.out];simp[*])
theorem specOp_8 (r s t vn:Int) (w:World) (g0 u0 u1 u2 u3 vb:Bool)
    (hForm: ∀W,Calls Tryd.prog 49 #[.int .i64 8] W fun e w'=> ∃g c,e= .returned (.slice (some ⟨g,0,none⟩) 4 c)∧Below W.heap.size W w'∧W.heap.size≤g∧w'.cell? ⟨g,0,none⟩=some (.bool u0)∧w'.cell? ⟨g,1,none⟩=some (.bool u1)∧w'.cell? ⟨g,2,none⟩=some (.bool u2)∧w'.cell? ⟨g,3,none⟩=some (.bool u3))
    (hVal: ∀W,Calls Tryd.prog 42 #[.agg #[.int .i64 1,.int .i64 vn]] W fun e w'=>e= .returned (.bool vb)∧Below W.heap.size W w') (hvn:1≤vn) (hvb:Aside0 (vb=true)) (hg:Aside0 (g0=(((decide (0≤r∧r≤3)&&u0)||r==0)&&(((decide (0≤s∧s≤3)&&u1)||s==0)&&(((decide (0≤t∧t≤15)&&u2)||t==0)&&(u3||((1:Int)==0&&(vn==0)))))))):
    Calls Tryd.prog 48 #[.agg #[.int .i64 8,.int .i64 r,.int .i64 s,.int .i64 t,.int .i64 1,.int .i64 vn]] w fun e w'=>e= .returned (.bool g0)∧Below w.heap.size w w':=by
  have BK:Aside0 ((w.alloc (.cells #[.int .i64 8,.int .i64 r,.int .i64 s,.int .i64 t,.int .i64 1,.int .i64 vn] 35)).heap[w.heap.size]?=some (.cells #[.int .i64 8,.int .i64 r,.int .i64 s,.int .i64 t,.int .i64 1,.int .i64 vn] 35 (0,0))):=⟨blk_new _ _⟩;have HB:=Aside0.mk (Below.refl w.heap.size w);have hu27:=Tryd.underlying25;have hu29:=Tryd.underlying35;obtain rfl:=hvb.out;clear hvb;go_enter Tryd.func48,Tryd.ntmps48
  go_wp2_with (first|(go_at_call 49;refine(hForm _).mono ?_;rintro e w' ⟨g,c,rfl,hb,hg,f0,f1,f2,f3⟩;have SZ:=Aside0.mk (hb.size);have BK:=Aside0.mk (blk_below (by(with_reducible repeat(first|refine blk_drewN ?_ _|refine blk_drew ?_|refine blk_alloc ?_ _));exact BK.out) hb);have HB:=Aside0.mk (below_step (by repeat(first|(with_reducible first|exact HB.out|apply below_alloc|apply pw_below_drewN|apply below_drew1)|exact HB.out)) hb);have q0:w'.cell? ⟨w.heap.size,0,none⟩=some (.int .i64 8):=(blk_cell BK.out 0).trans rfl;have q1:w'.cell? ⟨w.heap.size,1,none⟩=some (.int .i64 r):=(blk_cell BK.out 1).trans rfl;have q2:w'.cell? ⟨w.heap.size,2,none⟩=some (.int .i64 s):=(blk_cell BK.out 2).trans rfl;have q3:w'.cell? ⟨w.heap.size,3,none⟩=some (.int .i64 t):=(blk_cell BK.out 3).trans rfl;have q4:w'.cell? ⟨w.heap.size,4,none⟩=some (.int .i64 1):=(blk_cell BK.out 4).trans rfl;have q5:w'.cell? ⟨w.heap.size,5,none⟩=some (.int .i64 vn):=(blk_cell BK.out 5).trans rfl;have GS:=Aside0.mk (cell_lt f0);have P0:=Aside0.mk f0;have P1:=Aside0.mk f1;have P2:=Aside0.mk f2;have P3:=Aside0.mk f3;clear hb hg)|(go_at_call 42;refine(hVal _).mono ?_;rintro e w'2 ⟨rfl,hb⟩;have P0:=Aside0.mk ((hb.cell (p:=⟨g,0,none⟩) GS.out).trans P0.out);have P1:=Aside0.mk ((hb.cell (p:=⟨g,1,none⟩) GS.out).trans P1.out);have P2:=Aside0.mk ((hb.cell (p:=⟨g,2,none⟩) GS.out).trans P2.out);have P3:=Aside0.mk ((hb.cell (p:=⟨g,3,none⟩) GS.out).trans P3.out);have BK:=Aside0.mk (blk_below (by(with_reducible repeat(first|refine blk_drewN ?_ _|refine blk_drew ?_|refine blk_alloc ?_ _));exact BK.out) hb);have HB:=Aside0.mk (below_step (by repeat(first|(with_reducible first|exact HB.out|apply below_alloc|apply pw_below_drewN|apply below_drew1)|exact HB.out)) hb);have q0:w'2.cell? ⟨w.heap.size,0,none⟩=some (.int .i64 8):=(blk_cell BK.out 0).trans rfl;have q1:w'2.cell? ⟨w.heap.size,1,none⟩=some (.int .i64 r):=(blk_cell BK.out 1).trans rfl;have q2:w'2.cell? ⟨w.heap.size,2,none⟩=some (.int .i64 s):=(blk_cell BK.out 2).trans rfl;have q3:w'2.cell? ⟨w.heap.size,3,none⟩=some (.int .i64 t):=(blk_cell BK.out 3).trans rfl;have q4:w'2.cell? ⟨w.heap.size,4,none⟩=some (.int .i64 1):=(blk_cell BK.out 4).trans rfl;have q5:w'2.cell? ⟨w.heap.size,5,none⟩=some (.int .i64 vn):=(blk_cell BK.out 5).trans rfl;have f0:=P0.out;have f1:=P1.out;have f2:=P2.out;have f3:=P3.out;clear hb)|(go_at_call 56;refine(in2_any _ _ _ _).mono ?_;rintro e w' ⟨rfl,rfl⟩)|(go_at_call 71;refine(slot_any _ _).mono ?_;rintro e w' ⟨rfl,rfl⟩)|(go_at_call 72;refine(to_any _ _).mono ?_;rintro e w' ⟨rfl,rfl⟩))
  all_goals go_ret
  all_goals refine⟨?_,HB.out⟩
  all_goals(rw[hg.out];simp[*])
theorem specOp_13 (r s t vn:Int) (w:World) (g0 u0 u1 u2 u3 vb:Bool)
    (hForm: ∀W,Calls Tryd.prog 49 #[.int .i64 13] W fun e w'=> ∃g c,e= .returned (.slice (some ⟨g,0,none⟩) 4 c)∧Below W.heap.size W w'∧W.heap.size≤g∧w'.cell? ⟨g,0,none⟩=some (.bool u0)∧w'.cell? ⟨g,1,none⟩=some (.bool u1)∧w'.cell? ⟨g,2,none⟩=some (.bool u2)∧w'.cell? ⟨g,3,none⟩=some (.bool u3))
    (hVal: ∀W,Calls Tryd.prog 42 #[.agg #[.int .i64 1,.int .i64 vn]] W fun e w'=>e= .returned (.bool vb)∧Below W.heap.size W w') (hvn:0≤vn) (hvn':vn≤1) (hvb:Aside0 (vb=true)) (hg:Aside0 (g0=(((decide (0≤r∧r≤3)&&u0)||r==0)&&(((decide (0≤s∧s≤3)&&u1)||s==0)&&(((decide (0≤t∧t≤15)&&u2)||t==0)&&(u3||((1:Int)==0&&(vn==0)))))))):
    Calls Tryd.prog 48 #[.agg #[.int .i64 13,.int .i64 r,.int .i64 s,.int .i64 t,.int .i64 1,.int .i64 vn]] w fun e w'=>e= .returned (.bool g0)∧Below w.heap.size w w':=by
  have BK:Aside0 ((w.alloc (.cells #[.int .i64 13,.int .i64 r,.int .i64 s,.int .i64 t,.int .i64 1,.int .i64 vn] 35)).heap[w.heap.size]?=some (.cells #[.int .i64 13,.int .i64 r,.int .i64 s,.int .i64 t,.int .i64 1,.int .i64 vn] 35 (0,0))):=⟨blk_new _ _⟩;have HB:=Aside0.mk (Below.refl w.heap.size w);have hu27:=Tryd.underlying25;have hu29:=Tryd.underlying35;obtain rfl:=hvb.out;clear hvb;go_enter Tryd.func48,Tryd.ntmps48
  go_wp2_with (first|(go_at_call 49;refine(hForm _).mono ?_;rintro e w' ⟨g,c,rfl,hb,hg,f0,f1,f2,f3⟩;have SZ:=Aside0.mk (hb.size);have BK:=Aside0.mk (blk_below (by(with_reducible repeat(first|refine blk_drewN ?_ _|refine blk_drew ?_|refine blk_alloc ?_ _));exact BK.out) hb);have HB:=Aside0.mk (below_step (by repeat(first|(with_reducible first|exact HB.out|apply below_alloc|apply pw_below_drewN|apply below_drew1)|exact HB.out)) hb);have q0:w'.cell? ⟨w.heap.size,0,none⟩=some (.int .i64 13):=(blk_cell BK.out 0).trans rfl;have q1:w'.cell? ⟨w.heap.size,1,none⟩=some (.int .i64 r):=(blk_cell BK.out 1).trans rfl;have q2:w'.cell? ⟨w.heap.size,2,none⟩=some (.int .i64 s):=(blk_cell BK.out 2).trans rfl;have q3:w'.cell? ⟨w.heap.size,3,none⟩=some (.int .i64 t):=(blk_cell BK.out 3).trans rfl;have q4:w'.cell? ⟨w.heap.size,4,none⟩=some (.int .i64 1):=(blk_cell BK.out 4).trans rfl;have q5:w'.cell? ⟨w.heap.size,5,none⟩=some (.int .i64 vn):=(blk_cell BK.out 5).trans rfl;have GS:=Aside0.mk (cell_lt f0);have P0:=Aside0.mk f0;have P1:=Aside0.mk f1;have P2:=Aside0.mk f2;have P3:=Aside0.mk f3;clear hb hg)|(go_at_call 42;refine(hVal _).mono ?_;rintro e w'2 ⟨rfl,hb⟩;have P0:=Aside0.mk ((hb.cell (p:=⟨g,0,none⟩) GS.out).trans P0.out);have P1:=Aside0.mk ((hb.cell (p:=⟨g,1,none⟩) GS.out).trans P1.out);have P2:=Aside0.mk ((hb.cell (p:=⟨g,2,none⟩) GS.out).trans P2.out);have P3:=Aside0.mk ((hb.cell (p:=⟨g,3,none⟩) GS.out).trans P3.out);have BK:=Aside0.mk (blk_below (by(with_reducible repeat(first|refine blk_drewN ?_ _|refine blk_drew ?_|refine blk_alloc ?_ _));exact BK.out) hb);have HB:=Aside0.mk (below_step (by repeat(first|(with_reducible first|exact HB.out|apply below_alloc|apply pw_below_drewN|apply below_drew1)|exact HB.out)) hb);have q0:w'2.cell? ⟨w.heap.size,0,none⟩=some (.int .i64 13):=(blk_cell BK.out 0).trans rfl;have q1:w'2.cell? ⟨w.heap.size,1,none⟩=some (.int .i64 r):=(blk_cell BK.out 1).trans rfl;have q2:w'2.cell? ⟨w.heap.size,2,none⟩=some (.int .i64 s):=(blk_cell BK.out 2).trans rfl;have q3:w'2.cell? ⟨w.heap.size,3,none⟩=some (.int .i64 t):=(blk_cell BK.out 3).trans rfl;have q4:w'2.cell? ⟨w.heap.size,4,none⟩=some (.int .i64 1):=(blk_cell BK.out 4).trans rfl;have q5:w'2.cell? ⟨w.heap.size,5,none⟩=some (.int .i64 vn):=(blk_cell BK.out 5).trans rfl;have f0:=P0.out;have f1:=P1.out;have f2:=P2.out;have f3:=P3.out;clear hb)|(go_at_call 56;refine(in2_any _ _ _ _).mono ?_;rintro e w' ⟨rfl,rfl⟩)|(go_at_call 71;refine(slot_any _ _).mono ?_;rintro e w' ⟨rfl,rfl⟩)|(go_at_call 72;refine(to_any _ _).mono ?_;rintro e w' ⟨rfl,rfl⟩))
  all_goals go_ret
  all_goals refine⟨?_,HB.out⟩
  all_goals(rw[hg.out];simp[*])
theorem specOp_bad (k r s t vk vn:Int) (w:World) (g0 u0 u1 u2 u3 vb:Bool)
    (hForm: ∀W,Calls Tryd.prog 49 #[.int .i64 k] W fun e w'=> ∃g c,e= .returned (.slice (some ⟨g,0,none⟩) 4 c)∧Below W.heap.size W w'∧W.heap.size≤g∧w'.cell? ⟨g,0,none⟩=some (.bool u0)∧w'.cell? ⟨g,1,none⟩=some (.bool u1)∧w'.cell? ⟨g,2,none⟩=some (.bool u2)∧w'.cell? ⟨g,3,none⟩=some (.bool u3))
    (hVal: ∀W,Calls Tryd.prog 42 #[.agg #[.int .i64 vk,.int .i64 vn]] W fun e w'=>e= .returned (.bool vb)∧Below W.heap.size W w') (hvb:Aside0 (vb=false)) (hg:Aside0 (g0=false)):
    Calls Tryd.prog 48 #[.agg #[.int .i64 k,.int .i64 r,.int .i64 s,.int .i64 t,.int .i64 vk,.int .i64 vn]] w fun e w'=>e= .returned (.bool g0)∧Below w.heap.size w w':=by
  have BK:Aside0 ((w.alloc (.cells #[.int .i64 k,.int .i64 r,.int .i64 s,.int .i64 t,.int .i64 vk,.int .i64 vn] 35)).heap[w.heap.size]?=some (.cells #[.int .i64 k,.int .i64 r,.int .i64 s,.int .i64 t,.int .i64 vk,.int .i64 vn] 35 (0,0))):=⟨blk_new _ _⟩;have HB:=Aside0.mk (Below.refl w.heap.size w);have hu27:=Tryd.underlying25;have hu29:=Tryd.underlying35;obtain rfl:=hvb.out;clear hvb;obtain rfl:=hg.out;clear hg;go_enter Tryd.func48,Tryd.ntmps48
  go_wp2_with (first|(go_at_call 49;refine(hForm _).mono ?_;rintro e w' ⟨g,c,rfl,hb,hg,f0,f1,f2,f3⟩;have SZ:=Aside0.mk (hb.size);have BK:=Aside0.mk (blk_below (by(with_reducible repeat(first|refine blk_drewN ?_ _|refine blk_drew ?_|refine blk_alloc ?_ _));exact BK.out) hb);have HB:=Aside0.mk (below_step (by repeat(first|(with_reducible first|exact HB.out|apply below_alloc|apply pw_below_drewN|apply below_drew1)|exact HB.out)) hb);have q0:w'.cell? ⟨w.heap.size,0,none⟩=some (.int .i64 k):=(blk_cell BK.out 0).trans rfl;have q1:w'.cell? ⟨w.heap.size,1,none⟩=some (.int .i64 r):=(blk_cell BK.out 1).trans rfl;have q2:w'.cell? ⟨w.heap.size,2,none⟩=some (.int .i64 s):=(blk_cell BK.out 2).trans rfl;have q3:w'.cell? ⟨w.heap.size,3,none⟩=some (.int .i64 t):=(blk_cell BK.out 3).trans rfl;have q4:w'.cell? ⟨w.heap.size,4,none⟩=some (.int .i64 vk):=(blk_cell BK.out 4).trans rfl;have q5:w'.cell? ⟨w.heap.size,5,none⟩=some (.int .i64 vn):=(blk_cell BK.out 5).trans rfl;have GS:=Aside0.mk (cell_lt f0);have P0:=Aside0.mk f0;have P1:=Aside0.mk f1;have P2:=Aside0.mk f2;have P3:=Aside0.mk f3;clear hb hg)|(go_at_call 42;refine(hVal _).mono ?_;rintro e w'2 ⟨rfl,hb⟩;have P0:=Aside0.mk ((hb.cell (p:=⟨g,0,none⟩) GS.out).trans P0.out);have P1:=Aside0.mk ((hb.cell (p:=⟨g,1,none⟩) GS.out).trans P1.out);have P2:=Aside0.mk ((hb.cell (p:=⟨g,2,none⟩) GS.out).trans P2.out);have P3:=Aside0.mk ((hb.cell (p:=⟨g,3,none⟩) GS.out).trans P3.out);have BK:=Aside0.mk (blk_below (by(with_reducible repeat(first|refine blk_drewN ?_ _|refine blk_drew ?_|refine blk_alloc ?_ _));exact BK.out) hb);have HB:=Aside0.mk (below_step (by repeat(first|(with_reducible first|exact HB.out|apply below_alloc|apply pw_below_drewN|apply below_drew1)|exact HB.out)) hb);have q0:w'2.cell? ⟨w.heap.size,0,none⟩=some (.int .i64 k):=(blk_cell BK.out 0).trans rfl;have q1:w'2.cell? ⟨w.heap.size,1,none⟩=some (.int .i64 r):=(blk_cell BK.out 1).trans rfl;have q2:w'2.cell? ⟨w.heap.size,2,none⟩=some (.int .i64 s):=(blk_cell BK.out 2).trans rfl;have q3:w'2.cell? ⟨w.heap.size,3,none⟩=some (.int .i64 t):=(blk_cell BK.out 3).trans rfl;have q4:w'2.cell? ⟨w.heap.size,4,none⟩=some (.int .i64 vk):=(blk_cell BK.out 4).trans rfl;have q5:w'2.cell? ⟨w.heap.size,5,none⟩=some (.int .i64 vn):=(blk_cell BK.out 5).trans rfl;have f0:=P0.out;have f1:=P1.out;have f2:=P2.out;have f3:=P3.out;clear hb)|(go_at_call 56;refine(in2_any _ _ _ _).mono ?_;rintro e w' ⟨rfl,rfl⟩)|(go_at_call 71;refine(slot_any _ _).mono ?_;rintro e w' ⟨rfl,rfl⟩)|(go_at_call 72;refine(to_any _ _).mono ?_;rintro e w' ⟨rfl,rfl⟩))
  all_goals go_ret
  all_goals exact⟨rfl,HB.out⟩
theorem specOp_8k (r s t vk vn:Int) (w:World) (g0 u0 u1 u2 u3 vb:Bool)
    (hForm: ∀W,Calls Tryd.prog 49 #[.int .i64 8] W fun e w'=> ∃g c,e= .returned (.slice (some ⟨g,0,none⟩) 4 c)∧Below W.heap.size W w'∧W.heap.size≤g∧w'.cell? ⟨g,0,none⟩=some (.bool u0)∧w'.cell? ⟨g,1,none⟩=some (.bool u1)∧w'.cell? ⟨g,2,none⟩=some (.bool u2)∧w'.cell? ⟨g,3,none⟩=some (.bool u3))
    (hVal: ∀W,Calls Tryd.prog 42 #[.agg #[.int .i64 vk,.int .i64 vn]] W fun e w'=>e= .returned (.bool vb)∧Below W.heap.size W w') (hvk:(vk==1)=false) (hvk2:(vk !=1)=true) (hvb:Aside0 (vb=true)) (hg:Aside0 (g0=false)):
    Calls Tryd.prog 48 #[.agg #[.int .i64 8,.int .i64 r,.int .i64 s,.int .i64 t,.int .i64 vk,.int .i64 vn]] w fun e w'=>e= .returned (.bool g0)∧Below w.heap.size w w':=by
  have BK:Aside0 ((w.alloc (.cells #[.int .i64 8,.int .i64 r,.int .i64 s,.int .i64 t,.int .i64 vk,.int .i64 vn] 35)).heap[w.heap.size]?=some (.cells #[.int .i64 8,.int .i64 r,.int .i64 s,.int .i64 t,.int .i64 vk,.int .i64 vn] 35 (0,0))):=⟨blk_new _ _⟩;have HB:=Aside0.mk (Below.refl w.heap.size w);have hu27:=Tryd.underlying25;have hu29:=Tryd.underlying35;obtain rfl:=hvb.out;clear hvb;obtain rfl:=hg.out;clear hg;go_enter Tryd.func48,Tryd.ntmps48
  go_wp2_with (first|(go_at_call 49;refine(hForm _).mono ?_;rintro e w' ⟨g,c,rfl,hb,hg,f0,f1,f2,f3⟩;have SZ:=Aside0.mk (hb.size);have BK:=Aside0.mk (blk_below (by(with_reducible repeat(first|refine blk_drewN ?_ _|refine blk_drew ?_|refine blk_alloc ?_ _));exact BK.out) hb);have HB:=Aside0.mk (below_step (by repeat(first|(with_reducible first|exact HB.out|apply below_alloc|apply pw_below_drewN|apply below_drew1)|exact HB.out)) hb);have q0:w'.cell? ⟨w.heap.size,0,none⟩=some (.int .i64 8):=(blk_cell BK.out 0).trans rfl;have q1:w'.cell? ⟨w.heap.size,1,none⟩=some (.int .i64 r):=(blk_cell BK.out 1).trans rfl;have q2:w'.cell? ⟨w.heap.size,2,none⟩=some (.int .i64 s):=(blk_cell BK.out 2).trans rfl;have q3:w'.cell? ⟨w.heap.size,3,none⟩=some (.int .i64 t):=(blk_cell BK.out 3).trans rfl;have q4:w'.cell? ⟨w.heap.size,4,none⟩=some (.int .i64 vk):=(blk_cell BK.out 4).trans rfl;have q5:w'.cell? ⟨w.heap.size,5,none⟩=some (.int .i64 vn):=(blk_cell BK.out 5).trans rfl;have GS:=Aside0.mk (cell_lt f0);have P0:=Aside0.mk f0;have P1:=Aside0.mk f1;have P2:=Aside0.mk f2;have P3:=Aside0.mk f3;clear hb hg)|(go_at_call 42;refine(hVal _).mono ?_;rintro e w'2 ⟨rfl,hb⟩;have P0:=Aside0.mk ((hb.cell (p:=⟨g,0,none⟩) GS.out).trans P0.out);have P1:=Aside0.mk ((hb.cell (p:=⟨g,1,none⟩) GS.out).trans P1.out);have P2:=Aside0.mk ((hb.cell (p:=⟨g,2,none⟩) GS.out).trans P2.out);have P3:=Aside0.mk ((hb.cell (p:=⟨g,3,none⟩) GS.out).trans P3.out);have BK:=Aside0.mk (blk_below (by(with_reducible repeat(first|refine blk_drewN ?_ _|refine blk_drew ?_|refine blk_alloc ?_ _));exact BK.out) hb);have HB:=Aside0.mk (below_step (by repeat(first|(with_reducible first|exact HB.out|apply below_alloc|apply pw_below_drewN|apply below_drew1)|exact HB.out)) hb);have q0:w'2.cell? ⟨w.heap.size,0,none⟩=some (.int .i64 8):=(blk_cell BK.out 0).trans rfl;have q1:w'2.cell? ⟨w.heap.size,1,none⟩=some (.int .i64 r):=(blk_cell BK.out 1).trans rfl;have q2:w'2.cell? ⟨w.heap.size,2,none⟩=some (.int .i64 s):=(blk_cell BK.out 2).trans rfl;have q3:w'2.cell? ⟨w.heap.size,3,none⟩=some (.int .i64 t):=(blk_cell BK.out 3).trans rfl;have q4:w'2.cell? ⟨w.heap.size,4,none⟩=some (.int .i64 vk):=(blk_cell BK.out 4).trans rfl;have q5:w'2.cell? ⟨w.heap.size,5,none⟩=some (.int .i64 vn):=(blk_cell BK.out 5).trans rfl;have f0:=P0.out;have f1:=P1.out;have f2:=P2.out;have f3:=P3.out;clear hb)|(go_at_call 56;refine(in2_any _ _ _ _).mono ?_;rintro e w' ⟨rfl,rfl⟩)|(go_at_call 71;refine(slot_any _ _).mono ?_;rintro e w' ⟨rfl,rfl⟩)|(go_at_call 72;refine(to_any _ _).mono ?_;rintro e w' ⟨rfl,rfl⟩))
  all_goals go_ret
  all_goals exact⟨rfl,HB.out⟩
theorem specOp_8n (r s t vn:Int) (w:World) (g0 u0 u1 u2 u3 vb:Bool)
    (hForm: ∀W,Calls Tryd.prog 49 #[.int .i64 8] W fun e w'=> ∃g c,e= .returned (.slice (some ⟨g,0,none⟩) 4 c)∧Below W.heap.size W w'∧W.heap.size≤g∧w'.cell? ⟨g,0,none⟩=some (.bool u0)∧w'.cell? ⟨g,1,none⟩=some (.bool u1)∧w'.cell? ⟨g,2,none⟩=some (.bool u2)∧w'.cell? ⟨g,3,none⟩=some (.bool u3))
    (hVal: ∀W,Calls Tryd.prog 42 #[.agg #[.int .i64 1,.int .i64 vn]] W fun e w'=>e= .returned (.bool vb)∧Below W.heap.size W w') (hvn:vn<1) (hvn2:decide (vn<1)=true) (hvb:Aside0 (vb=true)) (hg:Aside0 (g0=false)):
    Calls Tryd.prog 48 #[.agg #[.int .i64 8,.int .i64 r,.int .i64 s,.int .i64 t,.int .i64 1,.int .i64 vn]] w fun e w'=>e= .returned (.bool g0)∧Below w.heap.size w w':=by
  have BK:Aside0 ((w.alloc (.cells #[.int .i64 8,.int .i64 r,.int .i64 s,.int .i64 t,.int .i64 1,.int .i64 vn] 35)).heap[w.heap.size]?=some (.cells #[.int .i64 8,.int .i64 r,.int .i64 s,.int .i64 t,.int .i64 1,.int .i64 vn] 35 (0,0))):=⟨blk_new _ _⟩;have HB:=Aside0.mk (Below.refl w.heap.size w);have hu27:=Tryd.underlying25;have hu29:=Tryd.underlying35;obtain rfl:=hvb.out;clear hvb;obtain rfl:=hg.out;clear hg;go_enter Tryd.func48,Tryd.ntmps48
  go_wp2_with (first|(go_at_call 49;refine(hForm _).mono ?_;rintro e w' ⟨g,c,rfl,hb,hg,f0,f1,f2,f3⟩;have SZ:=Aside0.mk (hb.size);have BK:=Aside0.mk (blk_below (by(with_reducible repeat(first|refine blk_drewN ?_ _|refine blk_drew ?_|refine blk_alloc ?_ _));exact BK.out) hb);have HB:=Aside0.mk (below_step (by repeat(first|(with_reducible first|exact HB.out|apply below_alloc|apply pw_below_drewN|apply below_drew1)|exact HB.out)) hb);have q0:w'.cell? ⟨w.heap.size,0,none⟩=some (.int .i64 8):=(blk_cell BK.out 0).trans rfl;have q1:w'.cell? ⟨w.heap.size,1,none⟩=some (.int .i64 r):=(blk_cell BK.out 1).trans rfl;have q2:w'.cell? ⟨w.heap.size,2,none⟩=some (.int .i64 s):=(blk_cell BK.out 2).trans rfl;have q3:w'.cell? ⟨w.heap.size,3,none⟩=some (.int .i64 t):=(blk_cell BK.out 3).trans rfl;have q4:w'.cell? ⟨w.heap.size,4,none⟩=some (.int .i64 1):=(blk_cell BK.out 4).trans rfl;have q5:w'.cell? ⟨w.heap.size,5,none⟩=some (.int .i64 vn):=(blk_cell BK.out 5).trans rfl;have GS:=Aside0.mk (cell_lt f0);have P0:=Aside0.mk f0;have P1:=Aside0.mk f1;have P2:=Aside0.mk f2;have P3:=Aside0.mk f3;clear hb hg)|(go_at_call 42;refine(hVal _).mono ?_;rintro e w'2 ⟨rfl,hb⟩;have P0:=Aside0.mk ((hb.cell (p:=⟨g,0,none⟩) GS.out).trans P0.out);have P1:=Aside0.mk ((hb.cell (p:=⟨g,1,none⟩) GS.out).trans P1.out);have P2:=Aside0.mk ((hb.cell (p:=⟨g,2,none⟩) GS.out).trans P2.out);have P3:=Aside0.mk ((hb.cell (p:=⟨g,3,none⟩) GS.out).trans P3.out);have BK:=Aside0.mk (blk_below (by(with_reducible repeat(first|refine blk_drewN ?_ _|refine blk_drew ?_|refine blk_alloc ?_ _));exact BK.out) hb);have HB:=Aside0.mk (below_step (by repeat(first|(with_reducible first|exact HB.out|apply below_alloc|apply pw_below_drewN|apply below_drew1)|exact HB.out)) hb);have q0:w'2.cell? ⟨w.heap.size,0,none⟩=some (.int .i64 8):=(blk_cell BK.out 0).trans rfl;have q1:w'2.cell? ⟨w.heap.size,1,none⟩=some (.int .i64 r):=(blk_cell BK.out 1).trans rfl;have q2:w'2.cell? ⟨w.heap.size,2,none⟩=some (.int .i64 s):=(blk_cell BK.out 2).trans rfl;have q3:w'2.cell? ⟨w.heap.size,3,none⟩=some (.int .i64 t):=(blk_cell BK.out 3).trans rfl;have q4:w'2.cell? ⟨w.heap.size,4,none⟩=some (.int .i64 1):=(blk_cell BK.out 4).trans rfl;have q5:w'2.cell? ⟨w.heap.size,5,none⟩=some (.int .i64 vn):=(blk_cell BK.out 5).trans rfl;have f0:=P0.out;have f1:=P1.out;have f2:=P2.out;have f3:=P3.out;clear hb)|(go_at_call 56;refine(in2_any _ _ _ _).mono ?_;rintro e w' ⟨rfl,rfl⟩)|(go_at_call 71;refine(slot_any _ _).mono ?_;rintro e w' ⟨rfl,rfl⟩)|(go_at_call 72;refine(to_any _ _).mono ?_;rintro e w' ⟨rfl,rfl⟩))
  all_goals go_ret
  all_goals exact⟨rfl,HB.out⟩
theorem specOp_13k (r s t vk vn:Int) (w:World) (g0 u0 u1 u2 u3 vb:Bool)
    (hForm: ∀W,Calls Tryd.prog 49 #[.int .i64 13] W fun e w'=> ∃g c,e= .returned (.slice (some ⟨g,0,none⟩) 4 c)∧Below W.heap.size W w'∧W.heap.size≤g∧w'.cell? ⟨g,0,none⟩=some (.bool u0)∧w'.cell? ⟨g,1,none⟩=some (.bool u1)∧w'.cell? ⟨g,2,none⟩=some (.bool u2)∧w'.cell? ⟨g,3,none⟩=some (.bool u3))
    (hVal: ∀W,Calls Tryd.prog 42 #[.agg #[.int .i64 vk,.int .i64 vn]] W fun e w'=>e= .returned (.bool vb)∧Below W.heap.size W w') (hvk:(vk==1)=false) (hvk2:(vk !=1)=true) (hvb:Aside0 (vb=true)) (hg:Aside0 (g0=false)):
    Calls Tryd.prog 48 #[.agg #[.int .i64 13,.int .i64 r,.int .i64 s,.int .i64 t,.int .i64 vk,.int .i64 vn]] w fun e w'=>e= .returned (.bool g0)∧Below w.heap.size w w':=by
  have BK:Aside0 ((w.alloc (.cells #[.int .i64 13,.int .i64 r,.int .i64 s,.int .i64 t,.int .i64 vk,.int .i64 vn] 35)).heap[w.heap.size]?=some (.cells #[.int .i64 13,.int .i64 r,.int .i64 s,.int .i64 t,.int .i64 vk,.int .i64 vn] 35 (0,0))):=⟨blk_new _ _⟩;have HB:=Aside0.mk (Below.refl w.heap.size w);have hu27:=Tryd.underlying25;have hu29:=Tryd.underlying35;obtain rfl:=hvb.out;clear hvb;obtain rfl:=hg.out;clear hg;go_enter Tryd.func48,Tryd.ntmps48
  go_wp2_with (first|(go_at_call 49;refine(hForm _).mono ?_;rintro e w' ⟨g,c,rfl,hb,hg,f0,f1,f2,f3⟩;have SZ:=Aside0.mk (hb.size);have BK:=Aside0.mk (blk_below (by(with_reducible repeat(first|refine blk_drewN ?_ _|refine blk_drew ?_|refine blk_alloc ?_ _));exact BK.out) hb);have HB:=Aside0.mk (below_step (by repeat(first|(with_reducible first|exact HB.out|apply below_alloc|apply pw_below_drewN|apply below_drew1)|exact HB.out)) hb);have q0:w'.cell? ⟨w.heap.size,0,none⟩=some (.int .i64 13):=(blk_cell BK.out 0).trans rfl;have q1:w'.cell? ⟨w.heap.size,1,none⟩=some (.int .i64 r):=(blk_cell BK.out 1).trans rfl;have q2:w'.cell? ⟨w.heap.size,2,none⟩=some (.int .i64 s):=(blk_cell BK.out 2).trans rfl;have q3:w'.cell? ⟨w.heap.size,3,none⟩=some (.int .i64 t):=(blk_cell BK.out 3).trans rfl;have q4:w'.cell? ⟨w.heap.size,4,none⟩=some (.int .i64 vk):=(blk_cell BK.out 4).trans rfl;have q5:w'.cell? ⟨w.heap.size,5,none⟩=some (.int .i64 vn):=(blk_cell BK.out 5).trans rfl;have GS:=Aside0.mk (cell_lt f0);have P0:=Aside0.mk f0;have P1:=Aside0.mk f1;have P2:=Aside0.mk f2;have P3:=Aside0.mk f3;clear hb hg)|(go_at_call 42;refine(hVal _).mono ?_;rintro e w'2 ⟨rfl,hb⟩;have P0:=Aside0.mk ((hb.cell (p:=⟨g,0,none⟩) GS.out).trans P0.out);have P1:=Aside0.mk ((hb.cell (p:=⟨g,1,none⟩) GS.out).trans P1.out);have P2:=Aside0.mk ((hb.cell (p:=⟨g,2,none⟩) GS.out).trans P2.out);have P3:=Aside0.mk ((hb.cell (p:=⟨g,3,none⟩) GS.out).trans P3.out);have BK:=Aside0.mk (blk_below (by(with_reducible repeat(first|refine blk_drewN ?_ _|refine blk_drew ?_|refine blk_alloc ?_ _));exact BK.out) hb);have HB:=Aside0.mk (below_step (by repeat(first|(with_reducible first|exact HB.out|apply below_alloc|apply pw_below_drewN|apply below_drew1)|exact HB.out)) hb);have q0:w'2.cell? ⟨w.heap.size,0,none⟩=some (.int .i64 13):=(blk_cell BK.out 0).trans rfl;have q1:w'2.cell? ⟨w.heap.size,1,none⟩=some (.int .i64 r):=(blk_cell BK.out 1).trans rfl;have q2:w'2.cell? ⟨w.heap.size,2,none⟩=some (.int .i64 s):=(blk_cell BK.out 2).trans rfl;have q3:w'2.cell? ⟨w.heap.size,3,none⟩=some (.int .i64 t):=(blk_cell BK.out 3).trans rfl;have q4:w'2.cell? ⟨w.heap.size,4,none⟩=some (.int .i64 vk):=(blk_cell BK.out 4).trans rfl;have q5:w'2.cell? ⟨w.heap.size,5,none⟩=some (.int .i64 vn):=(blk_cell BK.out 5).trans rfl;have f0:=P0.out;have f1:=P1.out;have f2:=P2.out;have f3:=P3.out;clear hb)|(go_at_call 56;refine(in2_any _ _ _ _).mono ?_;rintro e w' ⟨rfl,rfl⟩)|(go_at_call 71;refine(slot_any _ _).mono ?_;rintro e w' ⟨rfl,rfl⟩)|(go_at_call 72;refine(to_any _ _).mono ?_;rintro e w' ⟨rfl,rfl⟩))
  all_goals go_ret
  all_goals exact⟨rfl,HB.out⟩
theorem specOp_13n (r s t vn:Int) (w:World) (g0 u0 u1 u2 u3 vb:Bool)
    (hForm: ∀W,Calls Tryd.prog 49 #[.int .i64 13] W fun e w'=> ∃g c,e= .returned (.slice (some ⟨g,0,none⟩) 4 c)∧Below W.heap.size W w'∧W.heap.size≤g∧w'.cell? ⟨g,0,none⟩=some (.bool u0)∧w'.cell? ⟨g,1,none⟩=some (.bool u1)∧w'.cell? ⟨g,2,none⟩=some (.bool u2)∧w'.cell? ⟨g,3,none⟩=some (.bool u3))
    (hVal: ∀W,Calls Tryd.prog 42 #[.agg #[.int .i64 1,.int .i64 vn]] W fun e w'=>e= .returned (.bool vb)∧Below W.heap.size W w') (hvn:Aside0 (decide (0≤vn∧vn≤1)=false)) (hvb:Aside0 (vb=true)) (hg:Aside0 (g0=false)):
    Calls Tryd.prog 48 #[.agg #[.int .i64 13,.int .i64 r,.int .i64 s,.int .i64 t,.int .i64 1,.int .i64 vn]] w fun e w'=>e= .returned (.bool g0)∧Below w.heap.size w w':=by
  have BK:Aside0 ((w.alloc (.cells #[.int .i64 13,.int .i64 r,.int .i64 s,.int .i64 t,.int .i64 1,.int .i64 vn] 35)).heap[w.heap.size]?=some (.cells #[.int .i64 13,.int .i64 r,.int .i64 s,.int .i64 t,.int .i64 1,.int .i64 vn] 35 (0,0))):=⟨blk_new _ _⟩;have HB:=Aside0.mk (Below.refl w.heap.size w);have hu27:=Tryd.underlying25;have hu29:=Tryd.underlying35;obtain rfl:=hvb.out;clear hvb;obtain rfl:=hg.out;clear hg;go_enter Tryd.func48,Tryd.ntmps48
  go_wp2_with (first|(go_at_call 49;refine(hForm _).mono ?_;rintro e w' ⟨g,c,rfl,hb,hg,f0,f1,f2,f3⟩;have SZ:=Aside0.mk (hb.size);have BK:=Aside0.mk (blk_below (by(with_reducible repeat(first|refine blk_drewN ?_ _|refine blk_drew ?_|refine blk_alloc ?_ _));exact BK.out) hb);have HB:=Aside0.mk (below_step (by repeat(first|(with_reducible first|exact HB.out|apply below_alloc|apply pw_below_drewN|apply below_drew1)|exact HB.out)) hb);have q0:w'.cell? ⟨w.heap.size,0,none⟩=some (.int .i64 13):=(blk_cell BK.out 0).trans rfl;have q1:w'.cell? ⟨w.heap.size,1,none⟩=some (.int .i64 r):=(blk_cell BK.out 1).trans rfl;have q2:w'.cell? ⟨w.heap.size,2,none⟩=some (.int .i64 s):=(blk_cell BK.out 2).trans rfl;have q3:w'.cell? ⟨w.heap.size,3,none⟩=some (.int .i64 t):=(blk_cell BK.out 3).trans rfl;have q4:w'.cell? ⟨w.heap.size,4,none⟩=some (.int .i64 1):=(blk_cell BK.out 4).trans rfl;have q5:w'.cell? ⟨w.heap.size,5,none⟩=some (.int .i64 vn):=(blk_cell BK.out 5).trans rfl;have GS:=Aside0.mk (cell_lt f0);have P0:=Aside0.mk f0;have P1:=Aside0.mk f1;have P2:=Aside0.mk f2;have P3:=Aside0.mk f3;clear hb hg)|(go_at_call 42;refine(hVal _).mono ?_;rintro e w'2 ⟨rfl,hb⟩;have P0:=Aside0.mk ((hb.cell (p:=⟨g,0,none⟩) GS.out).trans P0.out);have P1:=Aside0.mk ((hb.cell (p:=⟨g,1,none⟩) GS.out).trans P1.out);have P2:=Aside0.mk ((hb.cell (p:=⟨g,2,none⟩) GS.out).trans P2.out);have P3:=Aside0.mk ((hb.cell (p:=⟨g,3,none⟩) GS.out).trans P3.out);have BK:=Aside0.mk (blk_below (by(with_reducible repeat(first|refine blk_drewN ?_ _|refine blk_drew ?_|refine blk_alloc ?_ _));exact BK.out) hb);have HB:=Aside0.mk (below_step (by repeat(first|(with_reducible first|exact HB.out|apply below_alloc|apply pw_below_drewN|apply below_drew1)|exact HB.out)) hb);have q0:w'2.cell? ⟨w.heap.size,0,none⟩=some (.int .i64 13):=(blk_cell BK.out 0).trans rfl;have q1:w'2.cell? ⟨w.heap.size,1,none⟩=some (.int .i64 r):=(blk_cell BK.out 1).trans rfl;have q2:w'2.cell? ⟨w.heap.size,2,none⟩=some (.int .i64 s):=(blk_cell BK.out 2).trans rfl;have q3:w'2.cell? ⟨w.heap.size,3,none⟩=some (.int .i64 t):=(blk_cell BK.out 3).trans rfl;have q4:w'2.cell? ⟨w.heap.size,4,none⟩=some (.int .i64 1):=(blk_cell BK.out 4).trans rfl;have q5:w'2.cell? ⟨w.heap.size,5,none⟩=some (.int .i64 vn):=(blk_cell BK.out 5).trans rfl;have f0:=P0.out;have f1:=P1.out;have f2:=P2.out;have f3:=P3.out;clear hb)|(go_at_call 56;refine(in2_any _ _ _ _).mono ?_;rintro e w' ⟨rfl,rfl⟩;rw[hvn.out])|(go_at_call 71;refine(slot_any _ _).mono ?_;rintro e w' ⟨rfl,rfl⟩)|(go_at_call 72;refine(to_any _ _).mono ?_;rintro e w' ⟨rfl,rfl⟩))
  all_goals go_ret
  all_goals exact⟨rfl,HB.out⟩
end Go.Proofs.YtmklpbmlgjkbiaaDoor.PS
end
section
namespace Go.Proofs.YtmklpbmlgjkbiaaDoor.PS
open Go.RowKit Go.Proofs.YtmklpbmlgjkbiaaDoorW.PrintWords Go.Proofs.YtmklpbmlgjkbiaaDoorW.PrintLast
theorem form_eq (k:Int):spec_l2Form.f 3 k=some (formL k):=by
  refine kinds (P:=fun k=>spec_l2Form.f 3 k=some (formL k)) (fun k hk=> ?_) (by decide) (by decide) (by decide) (by decide) (by decide) (by decide) (by decide) (by decide) (by decide) (by decide) (by decide) (by decide) (by decide) (by decide) k
  unfold formL;rw[if_neg hk];have h1:k≠1:=by omega
  have h2:k≠2:=by omega
  have h3:k≠3:=by omega
  have h4:k≠4:=by omega
  have h5:k≠5:=by omega
  have h6:k≠6:=by omega
  have h7:k≠7:=by omega
  have h8:k≠8:=by omega
  have h9:k≠9:=by omega
  have h10:k≠10:=by omega
  have h11:k≠11:=by omega
  have h12:k≠12:=by omega
  have h13:k≠13:=by omega
  have h14:k≠14:=by omega
  simp[spec_l2Form.f,spec_l2Form.j0,spec_l2Form.j1,h1,h2,h3,h4,h5,h6,h7,h8,h9,h10,h11,h12,h13,h14]
theorem form_calls {k:Int} (hk:1≤k∧k≤14) (W:World):Calls Tryd.prog 49 #[.int .i64 k] W fun e w'=> ∃g c,e= .returned (.slice (some ⟨g,0,none⟩) 4 c)∧Below W.heap.size W w'∧W.heap.size≤g∧w'.cell? ⟨g,0,none⟩=some (.bool (hasR k))∧w'.cell? ⟨g,1,none⟩=some (.bool (hasS k))∧w'.cell? ⟨g,2,none⟩=some (.bool (hasT k))∧w'.cell? ⟨g,3,none⟩=some (.bool (hasV k)):=by
  refine(spec_l2Form.calls 3 k (formL k) W (form_eq k)).mono ?_
  rintro e w' ⟨v,rfl,hR,hb⟩
  have:formL k=[hasR k,hasS k,hasT k,hasV k]:=if_pos hk;rw[this]at hR
  obtain⟨g,c,rfl,hg,q0,q1,q2,q3⟩:=own4 hR;exact⟨g,c,rfl,hb,hg,q0,q1,q2,q3⟩
theorem sok_eq (k n:Int):spec_ValOk.f k n=some (okB k n):=by
  unfold spec_ValOk.f spec_l6In.f okB okP;by_cases h0:k=0
  · subst h0;by_cases hn:n=0<;>simp[hn]
  rw[if_neg h0];by_cases h1:k=1
  · subst h1;by_cases a:n≥ -99<;>simp[a]<;>omega
  rw[if_neg h1];by_cases h2:k=2
  · subst h2;by_cases a:n≥0<;>simp[a]<;>omega
  rw[if_neg h2];by_cases h3:k=3
  · subst h3;by_cases a:n≥1<;>simp[a]<;>omega
  rw[if_neg h3];simp[h0,h1,h2,h3]
theorem opB_form (k r s t vk vn:Int) (hk:1≤k∧k≤14) (hv:valP k vk vn):opB k r s t vk vn=(((decide (0≤r∧r≤3)&&hasR k)||r==0)&&(((decide (0≤s∧s≤3)&&hasS k)||s==0)&&(((decide (0≤t∧t≤15)&&hasT k)||t==0)&&(hasV k||(vk==0&&(vn==0)))))):=by
  have e: ∀x y:Int,(x==y)=decide (x=y):=fun x y=>by by_cases h:x=y<;>simp[h]
  have sw: ∀ (a b c:Prop),((a∧b)∨c) ↔ (c∨(b∧a)):=fun a b c=>⟨fun h=>h.elim (fun g=>.inr ⟨g.2,g.1⟩) .inl,fun h=>h.elim .inr (fun g=>.inl ⟨g.2,g.1⟩)⟩
  rw[Bool.eq_iff_iff];simp only[opB,decide_eq_true_eq,Bool.and_eq_true,Bool.or_eq_true,e,sw]
  exact⟨fun h=>h.2.2,fun h=>⟨hk,hv,h⟩⟩
theorem opB_bad {k r s t vk vn:Int} (h: ¬(1≤k∧k≤14)∨ ¬valP k vk vn):opB k r s t vk vn=false:=opB_false.2 (fun g=>h.elim (fun a=>a g.1) (fun a=>a g.2.1))
theorem specOp_none (k r s t vk vn:Int) (w:World) (hk: ¬(1≤k∧k≤14)):
    Calls Tryd.prog 48 #[.agg #[.int .i64 k,.int .i64 r,.int .i64 s,.int .i64 t,.int .i64 vk,.int .i64 vn]] w fun e w'=>e= .returned (.bool false)∧Below w.heap.size w w':=by
  have hForm: ∀W:World,Calls Tryd.prog 49 #[.int .i64 k] W fun e w'=> ∃A c,e= .returned (.slice A 0 c)∧Below W.heap.size W w':=fun W=>by
    refine(spec_l2Form.calls 3 k (formL k) W (form_eq k)).mono ?_
    rintro e w' ⟨v,rfl,hR,hb⟩
    have:formL k=[]:=if_neg hk;rw[this]at hR
    obtain⟨A,c,rfl⟩:=Kd.R_slice hR;exact⟨A,c,rfl,hb⟩
  clear hk;have HB:=Aside0.mk (Below.refl w.heap.size w);go_enter Tryd.func48,Tryd.ntmps48
  go_wp2_with (go_at_call 49;refine(hForm _).mono ?_;rintro e w' ⟨A,c,rfl,hb⟩)
  go_ret
  exact⟨rfl,below_step (below_alloc (Below.refl _ _) _) hb⟩
theorem spec_OpOk.calls (k r s t vk vn:Int) (b:Bool) (w:World) (h:opV.f k r s t vk vn=some b):
    Calls Tryd.prog 48 #[.agg #[.int .i64 k,.int .i64 r,.int .i64 s,.int .i64 t,.int .i64 vk,.int .i64 vn]] w fun e w'=>e= .returned (.bool b)∧Below w.heap.size w w':=by
  obtain rfl:=Option.some.inj h;by_cases hk:1≤k∧k≤14
  rotate_left
  · rw[opB_bad (.inl hk)];exact specOp_none k r s t vk vn w hk
  have hForm:=fun W=>form_calls hk W
  have hVal:=fun W=>spec_ValOk.calls vk vn (okB vk vn) W (sok_eq vk vn)
  by_cases hv:okP vk vn
  rotate_left
  · rw[opB_bad (.inr (fun g=>hv g.1))]
    exact specOp_bad k r s t vk vn w false _ _ _ _ (okB vk vn) hForm hVal ⟨okB_false.2 hv⟩ ⟨rfl⟩
  have hvb:Aside0 (okB vk vn=true):=⟨okB_true.2 hv⟩;by_cases h8:k=8
  · by_cases h1:vk=1
    · by_cases hn:1≤vn
      · subst h8;subst h1;exact specOp_8 r s t vn w _ _ _ _ _ _ hForm hVal hn hvb ⟨opB_form 8 r s t 1 vn hk ⟨hv,fun _=>⟨rfl,hn⟩,fun e=>by omega⟩⟩
      · rw[opB_bad (.inr (fun g=>hn (g.2.1 h8).2))]
        subst h8;subst h1;exact specOp_8n r s t vn w false _ _ _ _ _ hForm hVal (by omega) (decide_eq_true (by omega)) hvb ⟨rfl⟩
    · rw[opB_bad (.inr (fun g=>h1 (g.2.1 h8).1))]
      subst h8;exact specOp_8k r s t vk vn w false _ _ _ _ _ hForm hVal (by simpa using h1) (by simpa using h1) hvb ⟨rfl⟩
  by_cases h13:k=13
  · by_cases h1:vk=1
    · by_cases hn:0≤vn∧vn≤1
      · subst h13;subst h1;exact specOp_13 r s t vn w _ _ _ _ _ _ hForm hVal hn.1 hn.2 hvb ⟨opB_form 13 r s t 1 vn hk ⟨hv,fun e=>by omega,fun _=>⟨rfl,hn⟩⟩⟩
      · rw[opB_bad (.inr (fun g=>hn (g.2.2 h13).2))]
        subst h13;subst h1;exact specOp_13n r s t vn w false _ _ _ _ _ hForm hVal ⟨decide_eq_false hn⟩ hvb ⟨rfl⟩
    · rw[opB_bad (.inr (fun g=>h1 (g.2.2 h13).1))]
      subst h13;exact specOp_13k r s t vk vn w false _ _ _ _ _ hForm hVal (by simpa using h1) (by simpa using h1) hvb ⟨rfl⟩
  exact specOp_main k r s t vk vn w _ _ _ _ _ _ hForm hVal (by simpa using h8) (by simpa using h13) hvb ⟨opB_form k r s t vk vn hk ⟨hv,fun e=>absurd e h8,fun e=>absurd e h13⟩⟩
end Go.Proofs.YtmklpbmlgjkbiaaDoor.PS
end
section
namespace Go.Proofs.YtmklpbmlgjkbiaaDoor.PS
open Go.RowKit Go.Proofs.YtmklpbmlgjkbiaaDoorW.PrintWords Go.Proofs.YtmklpbmlgjkbiaaDoorW.PrintLast Go.Proofs.YtmklpbmlgjkbiaaDoorW.PrintMore
attribute [local go_sem] max2_int min2_int max_two min_two max_three min_three max_four min_four   -- for this text's walks alone
def spec_l2Names.f:Option (List ByteArray):=some (([(⟨#[]⟩:ByteArray),(⟨#[115,101,116]⟩:ByteArray),(⟨#[109,111,118,101]⟩:ByteArray),(⟨#[97,100,100]⟩:ByteArray),(⟨#[115,101,108,102]⟩:ByteArray),(⟨#[98,101,103,105,110]⟩:ByteArray),(⟨#[115,101,110,100]⟩:ByteArray),(⟨#[116,97,107,101]⟩:ByteArray),(⟨#[97,102,116,101,114]⟩:ByteArray),(⟨#[103,111]⟩:ByteArray),(⟨#[105,102]⟩:ByteArray),(⟨#[108,105,110,107]⟩:ByteArray),(⟨#[119,97,116,99,104]⟩:ByteArray),(⟨#[116,114,97,112]⟩:ByteArray),(⟨#[101,110,100]⟩:ByteArray)]:List ByteArray))
theorem spec_l2Names.calls (r:List ByteArray) (w:World) (h:spec_l2Names.f=some r):
    Calls Tryd.prog 50 #[] w fun e w'=> ∃v0_:Value,e= .returned (v0_)∧Kd.R Kd.string 9 w' w.heap.size (fun _=>True) v0_ r∧Below w.heap.size w w':=by
  have HB:=Aside0.mk (Below.refl w.heap.size w);have H:(some (([(⟨#[]⟩:ByteArray),(⟨#[115,101,116]⟩:ByteArray),(⟨#[109,111,118,101]⟩:ByteArray),(⟨#[97,100,100]⟩:ByteArray),(⟨#[115,101,108,102]⟩:ByteArray),(⟨#[98,101,103,105,110]⟩:ByteArray),(⟨#[115,101,110,100]⟩:ByteArray),(⟨#[116,97,107,101]⟩:ByteArray),(⟨#[97,102,116,101,114]⟩:ByteArray),(⟨#[103,111]⟩:ByteArray),(⟨#[105,102]⟩:ByteArray),(⟨#[108,105,110,107]⟩:ByteArray),(⟨#[119,97,116,99,104]⟩:ByteArray),(⟨#[116,114,97,112]⟩:ByteArray),(⟨#[101,110,100]⟩:ByteArray)]:List ByteArray)))=some r:=h;clear h;obtain⟨y292,hy292⟩: ∃y_:List ByteArray,y_=(([(⟨#[]⟩:ByteArray),(⟨#[115,101,116]⟩:ByteArray),(⟨#[109,111,118,101]⟩:ByteArray),(⟨#[97,100,100]⟩:ByteArray),(⟨#[115,101,108,102]⟩:ByteArray),(⟨#[98,101,103,105,110]⟩:ByteArray),(⟨#[115,101,110,100]⟩:ByteArray),(⟨#[116,97,107,101]⟩:ByteArray),(⟨#[97,102,116,101,114]⟩:ByteArray),(⟨#[103,111]⟩:ByteArray),(⟨#[105,102]⟩:ByteArray),(⟨#[108,105,110,107]⟩:ByteArray),(⟨#[119,97,116,99,104]⟩:ByteArray),(⟨#[116,114,97,112]⟩:ByteArray),(⟨#[101,110,100]⟩:ByteArray)]:List ByteArray)):=⟨_,rfl⟩;replace H:(some y292)=some r:=by first|(rw[hy292];with_reducible exact H)|(have H2_:=(Option.bind_some _ _).symm.trans H;rw[hy292];with_reducible exact H2_)|(have H2_:=(Option.bind_some _ _).symm.trans H;with_reducible exact H2_)|with_reducible exact H|(rw[hy292];exact H)|exact H
  have Ny292:=Aside0.mk hy292;clear hy292;obtain rfl:=Option.some.inj H;go_enter Tryd.func50,Tryd.ntmps50
  go_wp2_with (first|((with_reducible refine gate_dst (N:=1) rfl ?_);refine Kd.R_lit Kd.string _ 9 ?hg (N:=1) ?hd (xs:=([(⟨#[]⟩:ByteArray),(⟨#[115,101,116]⟩:ByteArray),(⟨#[109,111,118,101]⟩:ByteArray),(⟨#[97,100,100]⟩:ByteArray),(⟨#[115,101,108,102]⟩:ByteArray),(⟨#[98,101,103,105,110]⟩:ByteArray),(⟨#[115,101,110,100]⟩:ByteArray),(⟨#[116,97,107,101]⟩:ByteArray),(⟨#[97,102,116,101,114]⟩:ByteArray),(⟨#[103,111]⟩:ByteArray),(⟨#[105,102]⟩:ByteArray),(⟨#[108,105,110,107]⟩:ByteArray),(⟨#[119,97,116,99,104]⟩:ByteArray),(⟨#[116,114,97,112]⟩:ByteArray),(⟨#[101,110,100]⟩:ByteArray)]:List ByteArray)) (inner:=[.string (⟨#[]⟩:ByteArray),.string (⟨#[115,101,116]⟩:ByteArray),.string (⟨#[109,111,118,101]⟩:ByteArray),.string (⟨#[97,100,100]⟩:ByteArray),.string (⟨#[115,101,108,102]⟩:ByteArray),.string (⟨#[98,101,103,105,110]⟩:ByteArray),.string (⟨#[115,101,110,100]⟩:ByteArray),.string (⟨#[116,97,107,101]⟩:ByteArray),.string (⟨#[97,102,116,101,114]⟩:ByteArray),.string (⟨#[103,111]⟩:ByteArray),.string (⟨#[105,102]⟩:ByteArray),.string (⟨#[108,105,110,107]⟩:ByteArray),.string (⟨#[119,97,116,99,104]⟩:ByteArray),.string (⟨#[116,114,97,112]⟩:ByteArray),.string (⟨#[101,110,100]⟩:ByteArray)]) (ok:=fun _=>True) (okp:=fun _=>True) ?hr ?hp (fun _ hk=>hk) trivial (Below.refl _ _) (Nat.le_refl _) (by simp) ?_;(case hd=>rfl);(case hg=>rfl);(case hr=>first|(go_simp;done)|(go_simp;rfl));(case hp=>exact(Reps.one (show Kd.M Kd.string _ _ _ (⟨#[]⟩:ByteArray) [.string (⟨#[]⟩:ByteArray)]from rfl) (Reps.one (show Kd.M Kd.string _ _ _ (⟨#[115,101,116]⟩:ByteArray) [.string (⟨#[115,101,116]⟩:ByteArray)]from rfl) (Reps.one (show Kd.M Kd.string _ _ _ (⟨#[109,111,118,101]⟩:ByteArray) [.string (⟨#[109,111,118,101]⟩:ByteArray)]from rfl) (Reps.one (show Kd.M Kd.string _ _ _ (⟨#[97,100,100]⟩:ByteArray) [.string (⟨#[97,100,100]⟩:ByteArray)]from rfl) (Reps.one (show Kd.M Kd.string _ _ _ (⟨#[115,101,108,102]⟩:ByteArray) [.string (⟨#[115,101,108,102]⟩:ByteArray)]from rfl) (Reps.one (show Kd.M Kd.string _ _ _ (⟨#[98,101,103,105,110]⟩:ByteArray) [.string (⟨#[98,101,103,105,110]⟩:ByteArray)]from rfl) (Reps.one (show Kd.M Kd.string _ _ _ (⟨#[115,101,110,100]⟩:ByteArray) [.string (⟨#[115,101,110,100]⟩:ByteArray)]from rfl) (Reps.one (show Kd.M Kd.string _ _ _ (⟨#[116,97,107,101]⟩:ByteArray) [.string (⟨#[116,97,107,101]⟩:ByteArray)]from rfl) (Reps.one (show Kd.M Kd.string _ _ _ (⟨#[97,102,116,101,114]⟩:ByteArray) [.string (⟨#[97,102,116,101,114]⟩:ByteArray)]from rfl) (Reps.one (show Kd.M Kd.string _ _ _ (⟨#[103,111]⟩:ByteArray) [.string (⟨#[103,111]⟩:ByteArray)]from rfl) (Reps.one (show Kd.M Kd.string _ _ _ (⟨#[105,102]⟩:ByteArray) [.string (⟨#[105,102]⟩:ByteArray)]from rfl) (Reps.one (show Kd.M Kd.string _ _ _ (⟨#[108,105,110,107]⟩:ByteArray) [.string (⟨#[108,105,110,107]⟩:ByteArray)]from rfl) (Reps.one (show Kd.M Kd.string _ _ _ (⟨#[119,97,116,99,104]⟩:ByteArray) [.string (⟨#[119,97,116,99,104]⟩:ByteArray)]from rfl) (Reps.one (show Kd.M Kd.string _ _ _ (⟨#[116,114,97,112]⟩:ByteArray) [.string (⟨#[116,114,97,112]⟩:ByteArray)]from rfl) (Reps.one (show Kd.M Kd.string _ _ _ (⟨#[101,110,100]⟩:ByteArray) [.string (⟨#[101,110,100]⟩:ByteArray)]from rfl) (Reps.none _ _)))))))))))))))));intro v293 w1 ho2 hb hg_ hnew_;clear hg_ hnew_;(first|rw[←Ny292.out]at ho2|(simp only[Int.reduceToNat]at ho2;rw[←Ny292.out]at ho2));have n0_:=Aside0.mk (Kd.R_lower ho2 (below_size (by repeat(first|(with_reducible first|exact HB.out|apply below_alloc|apply pw_below_drewN|apply below_drew1)|exact HB.out))));have n1_:=Aside0.mk (below_step (by repeat(first|(with_reducible first|exact HB.out|apply below_alloc|apply pw_below_drewN|apply below_drew1)|exact HB.out)) hb);clear HB;have HO294:=n0_;have HB:=n1_;clear n0_ n1_;clear hb ho2))
  go_ret
  exact⟨_,by first|rfl|(simp[errW_none,errW_some]<;>rfl)|(simp[*,errW_none,errW_some]<;>rfl),by(with_reducible repeat(first|apply Kd.R_alloc|apply Kd.R_drewN|apply Kd.R_drew));exact HO294.out,by repeat(first|(with_reducible first|exact HB.out|apply below_alloc|apply pw_below_drewN|apply below_drew1)|exact HB.out)⟩
def spec_l6Dec.f:Nat→Int→Option (ByteArray)
  |0,_=>none
  |k+1,a0=>if a0<(-9223372036854775807)then(some (⟨#[45,57,50,50,51,51,55,50,48,51,54,56,53,52,55,55,53,56,48,56]⟩:ByteArray))else(if a0<0 then((spec_l6Dec.f k (wrap64 (-a0))).bind fun t296=>(if 1+t296.size≤9223372036854775807 then(some ((⟨#[45]⟩:ByteArray)++t296))else(none)))else(if a0<10 then(some (strOfNums (([(wrap64 (48+a0))%256]:List Int))))else((spec_l6Dec.f k (wrap64 (Int.tdiv a0 10))).bind fun t300=>((some (([(wrap64 (48+(Int.tmod a0 10)))%256]:List Int):List Int)).bind fun y301=>(if t300.size+(strOfNums y301).size≤9223372036854775807 then(some (t300++(strOfNums y301)))else(none))))))
def spec_l6Dec.T7:Bool×List (List Nat×List Nat):=(true,[([],[]),([0],[0]),([1],[1]),([],[]),([3],[3]),([4],[4]),([5],[5]),([6],[6]),([7],[7]),([2,8],[2,8]),([9,2,0,1,2,3,4,5,6,7,8,9],[9])])
def spec_l6Dec.B7:List Nat:=[0,1,3,0,8,24,56,120,248,511,1023]
theorem spec_l6Dec.tab7:rtab .any (opsOf Tryd.f43 7)=spec_l6Dec.T7:=by kernel_rfl
theorem spec_l6Dec.bits7:waitsOk spec_l6Dec.T7.2 spec_l6Dec.B7=true:=by kernel_rfl
theorem spec_l6Dec.calls (k:Nat): ∀ (a0:Int) (r:ByteArray) (w:World) (h:spec_l6Dec.f k a0=some r),
    Calls Tryd.prog 43 #[.int .i64 a0] w fun e w'=>e= .returned (.string r)∧Below w.heap.size w w':=by
  induction k using Nat.strongRecOn with
  |_ k ih=>
  intro a0 r w h;cases k with
  |zero=>exact absurd h (by simp[spec_l6Dec.f])
  |succ k=>
  simp only[spec_l6Dec.f]at h
  have HB:=Aside0.mk (Below.refl w.heap.size w);have H:(if a0<(-9223372036854775807)then(some (⟨#[45,57,50,50,51,51,55,50,48,51,54,56,53,52,55,55,53,56,48,56]⟩:ByteArray))else(if a0<0 then((spec_l6Dec.f k (wrap64 (-a0))).bind fun t296=>(if 1+t296.size≤9223372036854775807 then(some ((⟨#[45]⟩:ByteArray)++t296))else(none)))else(if a0<10 then(some (strOfNums (([(wrap64 (48+a0))%256]:List Int))))else((spec_l6Dec.f k (wrap64 (Int.tdiv a0 10))).bind fun t300=>((some (([(wrap64 (48+(Int.tmod a0 10)))%256]:List Int):List Int)).bind fun y301=>(if t300.size+(strOfNums y301).size≤9223372036854775807 then(some (t300++(strOfNums y301)))else(none)))))))=some r:=h
  clear h;by_cases c2:a0<(-9223372036854775807)
  · rw[if_pos c2]at H
    have c2b0:decide (a0<(-9223372036854775807))=true:=decide_eq_true c2;clear c2;obtain rfl:=Option.some.inj H;go_enter Tryd.func43,Tryd.ntmps43
    go_wp2
    go_ret
    exact⟨by first|rfl|(simp[errW_none,errW_some]<;>rfl)|(simp[*,errW_none,errW_some]<;>rfl),by repeat(first|(with_reducible first|exact HB.out|apply below_alloc|apply pw_below_drewN|apply below_drew1)|exact HB.out)⟩
  · rw[if_neg c2]at H
    have c2b0:decide (a0<(-9223372036854775807))=false:=decide_eq_false c2;clear c2;by_cases c3:a0<0
    · rw[if_pos c3]at H
      have c3b0:decide (a0<0)=true:=decide_eq_true c3;clear c3;replace H:=Option.bind_eq_some_iff.mp H;obtain⟨t296,A40,H⟩:=H;replace H:(if 1+t296.size≤9223372036854775807 then(some ((⟨#[45]⟩:ByteArray)++t296))else(none))=some r:=H
      have A4:=Aside0.mk A40;clear A40;by_cases c5:1+t296.size≤9223372036854775807
      · rw[if_pos c5]at H
        have c5b0:=eq_true c5;have c5b1:decide (1+t296.size≤9223372036854775807)=true:=decide_eq_true c5;try have c5b2:(9223372036854775807<1+t296.size)=False:=eq_false (Nat.not_lt.2 c5)
        obtain rfl:=Option.some.inj H;go_enter Tryd.func43,Tryd.ntmps43
        go_wp2_with (first|((with_reducible refine gate_callee (f:=43) rfl ?_);refine goesL_ (some 9) rfl rfl Tryd.func43 (by kernel_rfl) rfl #[.int .i64 (wrap64 (-a0))] rfl (by(try simp only[List.map_toArray,List.map_cons,List.map_nil]);first|done|rfl|(simp only[List.length_drop,List.length_take];rfl)) ?_;(with_reducible refine(ih k (by omega) (wrap64 (-a0)) t296 _ A4.out).mono ?_);rintro e w6 ⟨rfl,hb⟩;refine⟨_,rfl,?_⟩;have n0_:=Aside0.mk (below_step (by repeat(first|(with_reducible first|exact HB.out|apply below_alloc|apply pw_below_drewN|apply below_drew1)|exact HB.out)) hb);clear HB;have HB:=n0_;clear n0_;(try clear hb);(try clear hb2);(try clear hk);(try clear hi)))
        go_ret
        exact⟨by first|rfl|(simp[errW_none,errW_some]<;>rfl)|(simp[*,errW_none,errW_some]<;>rfl),by repeat(first|(with_reducible first|exact HB.out|apply below_alloc|apply pw_below_drewN|apply below_drew1)|exact HB.out)⟩
      · rw[if_neg c5]at H
        exact absurd H (by simp)
    · rw[if_neg c3]at H
      have c3b0:decide (a0<0)=false:=decide_eq_false c3;clear c3;by_cases c7:a0<10
      · rw[if_pos c7]at H
        have c7b0:decide (a0<10)=true:=decide_eq_true c7;clear c7;obtain⟨y297,hy297⟩: ∃y_:List Int,y_=(([(wrap64 (48+a0))%256]:List Int)):=⟨_,rfl⟩;replace H:(some (strOfNums y297))=some r:=by first|(rw[hy297];with_reducible exact H)|(have H2_:=(Option.bind_some _ _).symm.trans H;rw[hy297];with_reducible exact H2_)|(have H2_:=(Option.bind_some _ _).symm.trans H;with_reducible exact H2_)|with_reducible exact H|(rw[hy297];exact H)|exact H
        have Ny297:=Aside0.mk hy297;clear hy297;obtain rfl:=Option.some.inj H;go_enter Tryd.func43,Tryd.ntmps43
        go_wp2_with (first|((with_reducible refine gate_dst (N:=16) rfl ?_);refine Kd.R_lit (Kd.int .u8) _ 5 ?hg (N:=16) ?hd (xs:=([(wrap64 (48+a0))%256]:List Int)) (inner:=[.int .u8 ((wrap64 (48+a0))%256)]) (ok:=fun _=>True) (okp:=fun _=>True) ?hr ?hp (fun _ hk=>hk) trivial (Below.refl _ _) (Nat.le_refl _) (by simp) ?_;(case hd=>rfl);(case hg=>rfl);(case hr=>first|(go_simp;done)|(go_simp;rfl));(case hp=>exact(Reps.one (show Kd.M (Kd.int .u8) _ _ _ ((wrap64 (48+a0))%256) [.int .u8 ((wrap64 (48+a0))%256)]from rfl) (Reps.none _ _)));intro v298 w8 ho9 hb hg_ hnew_;clear hg_ hnew_;(first|rw[←Ny297.out]at ho9|(simp only[Int.reduceToNat]at ho9;rw[←Ny297.out]at ho9));have n0_:=Aside0.mk (Kd.R_lower ho9 (below_size (by repeat(first|(with_reducible first|exact HB.out|apply below_alloc|apply pw_below_drewN|apply below_drew1)|exact HB.out))));have n1_:=Aside0.mk (below_step (by repeat(first|(with_reducible first|exact HB.out|apply below_alloc|apply pw_below_drewN|apply below_drew1)|exact HB.out)) hb);clear HB;have HO299:=n0_;have HB:=n1_;clear n0_ n1_;clear hb ho9;have hcv10:=own_string (P:=Tryd.prog) Tryd.underlying28 Tryd.underlying5 Tryd.underlying9 (Kd.own_of_R HO299.out)))
        go_ret
        exact⟨by first|rfl|(simp[errW_none,errW_some]<;>rfl)|(simp[*,errW_none,errW_some]<;>rfl),by repeat(first|(with_reducible first|exact HB.out|apply below_alloc|apply pw_below_drewN|apply below_drew1)|exact HB.out)⟩
      · rw[if_neg c7]at H
        have c7b0:decide (a0<10)=false:=decide_eq_false c7;clear c7;replace H:=Option.bind_eq_some_iff.mp H;obtain⟨t300,A110,H⟩:=H;replace H:((some (([(wrap64 (48+(Int.tmod a0 10)))%256]:List Int):List Int)).bind fun y301=>(if t300.size+(strOfNums y301).size≤9223372036854775807 then(some (t300++(strOfNums y301)))else(none)))=some r:=H
        have A11:=Aside0.mk A110;clear A110;obtain⟨y301,hy301⟩: ∃y_:List Int,y_=(([(wrap64 (48+(Int.tmod a0 10)))%256]:List Int)):=⟨_,rfl⟩;replace H:(if t300.size+(strOfNums y301).size≤9223372036854775807 then(some (t300++(strOfNums y301)))else(none))=some r:=by first|(rw[hy301];with_reducible exact H)|(have H2_:=(Option.bind_some _ _).symm.trans H;rw[hy301];with_reducible exact H2_)|(have H2_:=(Option.bind_some _ _).symm.trans H;with_reducible exact H2_)|with_reducible exact H|(rw[hy301];exact H)|exact H
        have Ny301:=Aside0.mk hy301;clear hy301;by_cases c12:t300.size+(strOfNums y301).size≤9223372036854775807
        · rw[if_pos c12]at H
          have c12b0:=eq_true c12;have c12b1:decide (t300.size+(strOfNums y301).size≤9223372036854775807)=true:=decide_eq_true c12;try have c12b2:(9223372036854775807<t300.size+(strOfNums y301).size)=False:=eq_false (Nat.not_lt.2 c12)
          obtain rfl:=Option.some.inj H;go_enter Tryd.func43,Tryd.ntmps43
          try go_wp2
          have n0_:=Aside0.mk (below_drew1 HB.out);clear HB;have HB:=n0_;clear n0_;refine start_ (n:=11) (S:=fun w'=>True) (ds:=[]) #[false,false,false,false,false,false,false,false,false,false,false] (by kernel_rfl) rfl rfl trivial (fun hHeld=> ?_);refine with_tabW spec_l6Dec.tab7 spec_l6Dec.bits7 (fun HT_ HW_=> ?_)
          generalize w.drew=w13 at HB hHeld⊢
          refine pure_ (i:=0) (N:=some 18) (v:= ?_) (a':= ?_) #[true,false,false,false,false,false,false,false,false,false,false] rfl rfl (any_of HT_.out (by kernel_rfl)) (fun _ _ _ h=>h) (Or.inl ⟨by rfl,?_⟩) ?_ ?_
          rotate_left
          · intro w'
            go_simp
            with_reducible rfl
          rotate_left
          · simp only[Act.put,List.setIfInBounds_toArray,List.set_cons_zero,List.set_cons_succ,i64_w,i32_w]
            rfl
          refine pure_ (i:=1) (N:=some 19) (v:= ?_) (a':= ?_) #[true,true,false,false,false,false,false,false,false,false,false] rfl rfl (any_of HT_.out (by kernel_rfl)) (fun _ _ _ h=>h) (Or.inl ⟨by rfl,?_⟩) ?_ ?_
          rotate_left
          · intro w'
            go_simp
            with_reducible rfl
          rotate_left
          · simp only[Act.put,List.setIfInBounds_toArray,List.set_cons_zero,List.set_cons_succ,i64_w,i32_w]
            rfl
          refine pure_ (i:=3) (N:=some 21) (v:= ?_) (a':= ?_) #[true,true,false,true,false,false,false,false,false,false,false] rfl rfl (any_of HT_.out (by kernel_rfl)) (fun _ _ _ h=>h) (Or.inl ⟨by rfl,?_⟩) ?_ ?_
          rotate_left
          · intro w'
            go_simp
            with_reducible rfl
          rotate_left
          · simp only[Act.put,List.setIfInBounds_toArray,List.set_cons_zero,List.set_cons_succ,i64_w,i32_w]
            rfl
          refine pure_ (i:=4) (N:=some 22) (v:= ?_) (a':= ?_) #[true,true,false,true,true,false,false,false,false,false,false] rfl rfl (any_of HT_.out (by kernel_rfl)) (fun _ _ _ h=>h) (Or.inl ⟨by rfl,?_⟩) ?_ ?_
          rotate_left
          · intro w'
            go_simp
            with_reducible rfl
          rotate_left
          · simp only[Act.put,List.setIfInBounds_toArray,List.set_cons_zero,List.set_cons_succ,i64_w,i32_w]
            rfl
          refine pure_ (i:=5) (N:=some 23) (v:= ?_) (a':= ?_) #[true,true,false,true,true,true,false,false,false,false,false] rfl rfl (any_of HT_.out (by kernel_rfl)) (fun _ _ _ h=>h) (Or.inl ⟨by rfl,?_⟩) ?_ ?_
          rotate_left
          · intro w'
            go_simp
            with_reducible rfl
          rotate_left
          · simp only[Act.put,List.setIfInBounds_toArray,List.set_cons_zero,List.set_cons_succ,i64_w,i32_w]
            rfl
          refine pure_ (i:=6) (N:=some 24) (v:= ?_) (a':= ?_) #[true,true,false,true,true,true,true,false,false,false,false] rfl rfl (any_of HT_.out (by kernel_rfl)) (fun _ _ _ h=>h) (Or.inl ⟨by rfl,?_⟩) ?_ ?_
          rotate_left
          · intro w'
            go_simp
            with_reducible rfl
          rotate_left
          · simp only[Act.put,List.setIfInBounds_toArray,List.set_cons_zero,List.set_cons_succ,i64_w,i32_w]
            rfl
          refine join_ (σ:=Value) 2 #[true,true,true,true,true,true,true,true,true,false,false] (fun s_=> [(20,.string t300),(25,s_),(26,.string (strOfNums y301))]) (fun s_ w'=>(Kd.R (Kd.int .u8) 5 w' w.heap.size (fun _=>True) s_ y301)∧(Below w.heap.size w w')) ?_ ?_
          rotate_left
          · intro hCont
            refine two_ (i:=2) (j:=7) (Ni:=some 20) (Nj:=some 25) #[true,true,true,true,true,true,true,false,false,false,false] #[true,true,false,true,true,true,true,true,false,false,false] rfl rfl rfl rfl (two_of HT_.out (by kernel_rfl)) (by decide) (by decide) (fun K hK=> ?_) (fun K hK=> ?_)
            · skip
              refine goes_ Tryd.func43 (by kernel_rfl) rfl #[.int .i64 (wrap64 (Int.tdiv a0 10))] (by rfl) rfl rfl (by(try simp only[List.map_toArray,List.map_cons,List.map_nil]);first|done|rfl|(simp only[List.length_drop,List.length_take];rfl)) ?_
              with_reducible refine(ih k (by omega) (wrap64 (Int.tdiv a0 10)) t300 _ A11.out).mono ?_
              rintro e w14 ⟨rfl,hb⟩
              refine⟨_,rfl,?_⟩
              have n0_:=Aside0.mk (below_step (by repeat(first|(with_reducible first|exact HB.out|apply below_alloc|apply pw_below_drewN|apply below_drew1)|exact HB.out)) hb)
              clear HB;have HB:=n0_;clear n0_;(try clear hb)
              (try clear hb2)
              (try clear hk)
              (try clear hi)
              refine hK.out _ _ trivial (fun hHeld=> ?_)
              clear hK K;refine norm_ (a':= ?_) ?_ ?_
              rotate_left
              · show Act.put _ (some 20) _=_
                simp only[Act.put,List.setIfInBounds_toArray,List.set_cons_zero,List.set_cons_succ,i64_w,i32_w]
                rfl
              refine one_ (i:=7) (N:=some 25) #[true,true,true,true,true,true,true,true,false,false,false] rfl rfl (one_of HT_.out (by kernel_rfl)) (by decide) (fun K hK=> ?_)
              refine Kd.R_lit_step (Kd.int .u8) _ 5 ?hg (N:=25) ?hd (xs:=([(wrap64 (48+(Int.tmod a0 10)))%256]:List Int)) (inner:=[.int .u8 ((wrap64 (48+(Int.tmod a0 10)))%256)]) (ok:=fun _=>True) (okp:=fun _=>True) ?hr ?hp (fun _ hk=>hk) trivial (Below.refl _ _) (Nat.le_refl _) (by simp) ?_;(case hd=>rfl);(case hg=>rfl);(case hr=>first|(go_simp;done)|(go_simp;rfl));(case hp=>exact(Reps.one (show Kd.M (Kd.int .u8) _ _ _ ((wrap64 (48+(Int.tmod a0 10)))%256) [.int .u8 ((wrap64 (48+(Int.tmod a0 10)))%256)]from rfl) (Reps.none _ _)))
              intro v302 w15 ho16 hb hg_ hnew_;clear hg_ hnew_;(first|rw[←Ny301.out]at ho16|(simp only[Int.reduceToNat]at ho16;rw[←Ny301.out]at ho16))
              have n0_:=Aside0.mk (Kd.R_lower ho16 (below_size (by repeat(first|(with_reducible first|exact HB.out|apply below_alloc|apply pw_below_drewN|apply below_drew1)|exact HB.out))))
              have n1_:=Aside0.mk (below_step (by repeat(first|(with_reducible first|exact HB.out|apply below_alloc|apply pw_below_drewN|apply below_drew1)|exact HB.out)) hb)
              clear HB;have HO303:=n0_;have HB:=n1_;clear n0_ n1_;clear hb ho16;refine hK.out _ _ trivial (fun hHeld=> ?_)
              clear hK K;refine norm_ (a':= ?_) ?_ ?_
              rotate_left
              · show Act.put _ (some 25) _=_
                simp only[Act.put,List.setIfInBounds_toArray,List.set_cons_zero,List.set_cons_succ,i64_w,i32_w]
                rfl
              refine one_ (i:=8) (N:=some 26) #[true,true,true,true,true,true,true,true,true,false,false] rfl rfl (one_of HT_.out (by kernel_rfl)) (by decide) (fun K hK=> ?_)
              have hcv17:=own_string (P:=Tryd.prog) Tryd.underlying28 Tryd.underlying5 Tryd.underlying9 (Kd.own_of_R HO303.out);refine value_ (w1:= ?_) (v:= ?_) (by rfl) rfl ?_ ?_
              rotate_left 2
              · go_simp
                constructor
                · rfl
                · rfl
              clear hcv17;refine hK.out _ _ trivial (fun hHeld=> ?_)
              clear hK K;refine norm_ (a':= ?_) ?_ ?_
              rotate_left
              · show Act.put _ (some 26) _=_
                simp only[Act.put,List.setIfInBounds_toArray,List.set_cons_zero,List.set_cons_succ,i64_w,i32_w]
                rfl
              exact norm_ (by simp only[putAll,Act.put,List.setIfInBounds_toArray,List.set_cons_zero,List.set_cons_succ]) (hCont (v302) _ ⟨(by(with_reducible repeat(first|apply Kd.R_alloc|apply Kd.R_drewN|apply Kd.R_drew));exact HO303.out),(by repeat(first|(with_reducible first|exact HB.out|apply below_alloc|apply pw_below_drewN|apply below_drew1)|exact HB.out))⟩)
            · skip
              refine Kd.R_lit_step (Kd.int .u8) _ 5 ?hg (N:=25) ?hd (xs:=([(wrap64 (48+(Int.tmod a0 10)))%256]:List Int)) (inner:=[.int .u8 ((wrap64 (48+(Int.tmod a0 10)))%256)]) (ok:=fun _=>True) (okp:=fun _=>True) ?hr ?hp (fun _ hk=>hk) trivial (Below.refl _ _) (Nat.le_refl _) (by simp) ?_;(case hd=>rfl);(case hg=>rfl);(case hr=>first|(go_simp;done)|(go_simp;rfl));(case hp=>exact(Reps.one (show Kd.M (Kd.int .u8) _ _ _ ((wrap64 (48+(Int.tmod a0 10)))%256) [.int .u8 ((wrap64 (48+(Int.tmod a0 10)))%256)]from rfl) (Reps.none _ _)))
              intro v302 w14 ho15 hb hg_ hnew_;clear hg_ hnew_;(first|rw[←Ny301.out]at ho15|(simp only[Int.reduceToNat]at ho15;rw[←Ny301.out]at ho15))
              have n0_:=Aside0.mk (Kd.R_lower ho15 (below_size (by repeat(first|(with_reducible first|exact HB.out|apply below_alloc|apply pw_below_drewN|apply below_drew1)|exact HB.out))))
              have n1_:=Aside0.mk (below_step (by repeat(first|(with_reducible first|exact HB.out|apply below_alloc|apply pw_below_drewN|apply below_drew1)|exact HB.out)) hb)
              clear HB;have HO303:=n0_;have HB:=n1_;clear n0_ n1_;clear hb ho15;refine hK.out _ _ trivial (fun hHeld=> ?_)
              clear hK K;refine norm_ (a':= ?_) ?_ ?_
              rotate_left
              · show Act.put _ (some 25) _=_
                simp only[Act.put,List.setIfInBounds_toArray,List.set_cons_zero,List.set_cons_succ,i64_w,i32_w]
                rfl
              refine two_ (i:=2) (j:=8) (Ni:=some 20) (Nj:=some 26) #[true,true,true,true,true,true,true,true,false,false,false] #[true,true,false,true,true,true,true,true,true,false,false] rfl rfl rfl rfl (two_of HT_.out (by kernel_rfl)) (by decide) (by decide) (fun K hK=> ?_) (fun K hK=> ?_)
              · skip
                refine goes_ Tryd.func43 (by kernel_rfl) rfl #[.int .i64 (wrap64 (Int.tdiv a0 10))] (by rfl) rfl rfl (by(try simp only[List.map_toArray,List.map_cons,List.map_nil]);first|done|rfl|(simp only[List.length_drop,List.length_take];rfl)) ?_
                with_reducible refine(ih k (by omega) (wrap64 (Int.tdiv a0 10)) t300 _ A11.out).mono ?_
                rintro e w16 ⟨rfl,hb⟩
                refine⟨_,rfl,?_⟩
                have n0_:=Aside0.mk (Kd.R_below (by(with_reducible repeat(first|apply Kd.R_alloc|apply Kd.R_drewN|apply Kd.R_drew));exact HO303.out) hb)
                have n1_:=Aside0.mk (below_step (by repeat(first|(with_reducible first|exact HB.out|apply below_alloc|apply pw_below_drewN|apply below_drew1)|exact HB.out)) hb)
                clear HO303;clear HB;have HO303:=n0_;have HB:=n1_;clear n0_ n1_;(try clear hb)
                (try clear hb2)
                (try clear hk)
                (try clear hi)
                refine hK.out _ _ trivial (fun hHeld=> ?_)
                clear hK K;refine norm_ (a':= ?_) ?_ ?_
                rotate_left
                · show Act.put _ (some 20) _=_
                  simp only[Act.put,List.setIfInBounds_toArray,List.set_cons_zero,List.set_cons_succ,i64_w,i32_w]
                  rfl
                refine one_ (i:=8) (N:=some 26) #[true,true,true,true,true,true,true,true,true,false,false] rfl rfl (one_of HT_.out (by kernel_rfl)) (by decide) (fun K hK=> ?_)
                have hcv17:=own_string (P:=Tryd.prog) Tryd.underlying28 Tryd.underlying5 Tryd.underlying9 (Kd.own_of_R HO303.out);refine value_ (w1:= ?_) (v:= ?_) (by rfl) rfl ?_ ?_
                rotate_left 2
                · go_simp
                  constructor
                  · rfl
                  · rfl
                clear hcv17;refine hK.out _ _ trivial (fun hHeld=> ?_)
                clear hK K;refine norm_ (a':= ?_) ?_ ?_
                rotate_left
                · show Act.put _ (some 26) _=_
                  simp only[Act.put,List.setIfInBounds_toArray,List.set_cons_zero,List.set_cons_succ,i64_w,i32_w]
                  rfl
                exact norm_ (by simp only[putAll,Act.put,List.setIfInBounds_toArray,List.set_cons_zero,List.set_cons_succ]) (hCont (v302) _ ⟨(by(with_reducible repeat(first|apply Kd.R_alloc|apply Kd.R_drewN|apply Kd.R_drew));exact HO303.out),(by repeat(first|(with_reducible first|exact HB.out|apply below_alloc|apply pw_below_drewN|apply below_drew1)|exact HB.out))⟩)
              · skip
                have hcv16:=own_string (P:=Tryd.prog) Tryd.underlying28 Tryd.underlying5 Tryd.underlying9 (Kd.own_of_R HO303.out);refine value_ (w1:= ?_) (v:= ?_) (by rfl) rfl ?_ ?_
                rotate_left 2
                · go_simp
                  constructor
                  · rfl
                  · rfl
                clear hcv16;refine hK.out _ _ trivial (fun hHeld=> ?_)
                clear hK K;refine norm_ (a':= ?_) ?_ ?_
                rotate_left
                · show Act.put _ (some 26) _=_
                  simp only[Act.put,List.setIfInBounds_toArray,List.set_cons_zero,List.set_cons_succ,i64_w,i32_w]
                  rfl
                refine one_ (i:=2) (N:=some 20) #[true,true,true,true,true,true,true,true,true,false,false] rfl rfl (one_of HT_.out (by kernel_rfl)) (by decide) (fun K hK=> ?_)
                refine goes_ Tryd.func43 (by kernel_rfl) rfl #[.int .i64 (wrap64 (Int.tdiv a0 10))] (by rfl) rfl rfl (by(try simp only[List.map_toArray,List.map_cons,List.map_nil]);first|done|rfl|(simp only[List.length_drop,List.length_take];rfl)) ?_
                with_reducible refine(ih k (by omega) (wrap64 (Int.tdiv a0 10)) t300 _ A11.out).mono ?_
                rintro e w17 ⟨rfl,hb⟩
                refine⟨_,rfl,?_⟩
                have n0_:=Aside0.mk (Kd.R_below (by(with_reducible repeat(first|apply Kd.R_alloc|apply Kd.R_drewN|apply Kd.R_drew));exact HO303.out) hb)
                have n1_:=Aside0.mk (below_step (by repeat(first|(with_reducible first|exact HB.out|apply below_alloc|apply pw_below_drewN|apply below_drew1)|exact HB.out)) hb)
                clear HO303;clear HB;have HO303:=n0_;have HB:=n1_;clear n0_ n1_;(try clear hb)
                (try clear hb2)
                (try clear hk)
                (try clear hi)
                refine hK.out _ _ trivial (fun hHeld=> ?_)
                clear hK K;refine norm_ (a':= ?_) ?_ ?_
                rotate_left
                · show Act.put _ (some 20) _=_
                  simp only[Act.put,List.setIfInBounds_toArray,List.set_cons_zero,List.set_cons_succ,i64_w,i32_w]
                  rfl
                exact norm_ (by simp only[putAll,Act.put,List.setIfInBounds_toArray,List.set_cons_zero,List.set_cons_succ]) (hCont (v302) _ ⟨(by(with_reducible repeat(first|apply Kd.R_alloc|apply Kd.R_drewN|apply Kd.R_drew));exact HO303.out),(by repeat(first|(with_reducible first|exact HB.out|apply below_alloc|apply pw_below_drewN|apply below_drew1)|exact HB.out))⟩)
          rintro v302 w18 ⟨h0_,h1_⟩
          have n0_:Aside0 (Kd.R (Kd.int .u8) 5 w18 w.heap.size (fun _=>True) v302 y301):=⟨h0_⟩
          have n1_:Aside0 (Below w.heap.size w w18):=⟨h1_⟩;clear HB;clear h0_ h1_;have HO303:=n0_;have HB:=n1_;clear n0_ n1_;have hHeld:=trivial;refine norm_ (a':= ?_) ?_ ?_
          rotate_left
          · simp only[putAll,Act.put,List.setIfInBounds_toArray,List.set_cons_zero,List.set_cons_succ]
            rfl
          refine pure_ (i:=9) (N:=some 27) (v:= ?_) (a':= ?_) #[true,true,true,true,true,true,true,true,true,true,false] rfl rfl (any_of HT_.out (by kernel_rfl)) (fun _ _ _ h=>h) (Or.inl ⟨by rfl,?_⟩) ?_ ?_
          rotate_left
          · intro w'
            go_simp
            with_reducible rfl
          rotate_left
          · simp only[Act.put,List.setIfInBounds_toArray,List.set_cons_zero,List.set_cons_succ,i64_w,i32_w]
            rfl
          refine pure_ (i:=10) (N:=some 2) (v:= ?_) (a':= ?_) #[true,true,true,true,true,true,true,true,true,true,true] rfl rfl (any_of HT_.out (by kernel_rfl)) (fun _ _ _ h=>h) (Or.inl ⟨by rfl,?_⟩) ?_ ?_
          rotate_left
          · intro w'
            go_simp
            with_reducible rfl
          rotate_left
          · simp only[Act.put,List.setIfInBounds_toArray,List.set_cons_zero,List.set_cons_succ,i64_w,i32_w]
            rfl
          refine done_ (done_of HT_.out (by kernel_rfl)) ?_
          try go_wp2
          go_ret
          exact⟨by first|rfl|(simp[errW_none,errW_some]<;>rfl)|(simp[*,errW_none,errW_some]<;>rfl),by repeat(first|(with_reducible first|exact HB.out|apply below_alloc|apply pw_below_drewN|apply below_drew1)|exact HB.out)⟩
        · rw[if_neg c12]at H
          exact absurd H (by simp)
def spec_ValText.f (k:Nat) (a0_0:Int) (a0_1:Int):Option (ByteArray):=(spec_ValOk.f a0_0 a0_1).bind fun t305=>(if t305=true then(if a0_0=0 then(some (⟨#[110,111,110,101]⟩:ByteArray))else((some (([(⟨#[]⟩:ByteArray),(⟨#[110]⟩:ByteArray),(⟨#[97]⟩:ByteArray),(⟨#[114]⟩:ByteArray)]:List ByteArray):List ByteArray)).bind fun y306=>(if 0≤a0_0 then(if a0_0<(y306.length:Int)then((spec_l6Dec.f k a0_1).bind fun t310=>(if(rdOf ByteArray.empty y306 a0_0).size+t310.size≤9223372036854775807 then(some ((rdOf ByteArray.empty y306 a0_0)++t310))else(none)))else(none))else(none))))else(some (⟨#[]⟩:ByteArray)))
def spec_ValText.T5:Bool×List (List Nat×List Nat):=(true,[([],[]),([],[]),([1],[1]),([0,2],[0,2]),([3],[3]),([],[]),([5],[5]),([6],[6]),([4,7],[4,7]),([8,7,0,1,2,3,4,5,6,7,8],[8])])
def spec_ValText.B5:List Nat:=[0,0,2,7,15,0,32,96,255,511]
theorem spec_ValText.tab5:rtab .any (opsOf Tryd.f17 5)=spec_ValText.T5:=by kernel_rfl
theorem spec_ValText.bits5:waitsOk spec_ValText.T5.2 spec_ValText.B5=true:=by kernel_rfl
theorem spec_ValText.calls (k:Nat) (a0_0:Int) (a0_1:Int) (r:ByteArray) (w:World) (h:spec_ValText.f k a0_0 a0_1=some r):
    Calls Tryd.prog 17 #[.agg #[.int .i64 a0_0,.int .i64 a0_1]] w fun e w'=>e= .returned (.string r)∧Below w.heap.size w w':=by
  have hu25:=Tryd.underlying25;have HB:=Aside0.mk (Below.refl w.heap.size w);have H:((spec_ValOk.f a0_0 a0_1).bind fun t305=>(if t305=true then(if a0_0=0 then(some (⟨#[110,111,110,101]⟩:ByteArray))else((some (([(⟨#[]⟩:ByteArray),(⟨#[110]⟩:ByteArray),(⟨#[97]⟩:ByteArray),(⟨#[114]⟩:ByteArray)]:List ByteArray):List ByteArray)).bind fun y306=>(if 0≤a0_0 then(if a0_0<(y306.length:Int)then((spec_l6Dec.f k a0_1).bind fun t310=>(if(rdOf ByteArray.empty y306 a0_0).size+t310.size≤9223372036854775807 then(some ((rdOf ByteArray.empty y306 a0_0)++t310))else(none)))else(none))else(none))))else(some (⟨#[]⟩:ByteArray))))=some r:=h
  clear h;replace H:=Option.bind_eq_some_iff.mp H;obtain⟨t305,A20,H⟩:=H;replace H:(if t305=true then(if a0_0=0 then(some (⟨#[110,111,110,101]⟩:ByteArray))else((some (([(⟨#[]⟩:ByteArray),(⟨#[110]⟩:ByteArray),(⟨#[97]⟩:ByteArray),(⟨#[114]⟩:ByteArray)]:List ByteArray):List ByteArray)).bind fun y306=>(if 0≤a0_0 then(if a0_0<(y306.length:Int)then((spec_l6Dec.f k a0_1).bind fun t310=>(if(rdOf ByteArray.empty y306 a0_0).size+t310.size≤9223372036854775807 then(some ((rdOf ByteArray.empty y306 a0_0)++t310))else(none)))else(none))else(none))))else(some (⟨#[]⟩:ByteArray)))=some r:=H
  have A2:=Aside0.mk A20;clear A20;by_cases c3:t305=true
  · subst c3
    have H1:(if a0_0=0 then(some (⟨#[110,111,110,101]⟩:ByteArray))else((some (([(⟨#[]⟩:ByteArray),(⟨#[110]⟩:ByteArray),(⟨#[97]⟩:ByteArray),(⟨#[114]⟩:ByteArray)]:List ByteArray):List ByteArray)).bind fun y306=>(if 0≤a0_0 then(if a0_0<(y306.length:Int)then((spec_l6Dec.f k a0_1).bind fun t310=>(if(rdOf ByteArray.empty y306 a0_0).size+t310.size≤9223372036854775807 then(some ((rdOf ByteArray.empty y306 a0_0)++t310))else(none)))else(none))else(none))))=some r:=by rw[if_pos rfl]at H;exact H
    clear H;have H:=H1;clear H1;by_cases c4:a0_0=0
    · rw[if_pos c4]at H
      have c4b0:(a0_0==0)=true:=beq_iff_eq.mpr c4;have c4b1:(a0_0 !=0)=false:=bne_eq_false_iff_eq.mpr c4;clear c4;obtain rfl:=Option.some.inj H;go_enter Tryd.func17,Tryd.ntmps17
      go_wp2_with (first|((with_reducible refine gate_dst (N:=1) rfl ?_);refine box_event ?hg (N:=1) ?hd (cs:= #[.int .i64 a0_0,.int .i64 a0_1]) (t:=25) ?hr ?_;(case hd=>rfl);(case hg=>rfl);(case hr=>first|(go_simp;done)|(go_simp;rfl));intro gb304 hg w5 hbox hb;have n0_:=Aside0.mk (below_step (by repeat(first|(with_reducible first|exact HB.out|apply below_alloc|apply pw_below_drewN|apply below_drew1)|exact HB.out)) hb);have n1_:=Aside0.mk (hbox);have n2_:=Aside0.mk ((by rw[hg];exact(below_size (by repeat(first|(with_reducible first|exact HB.out|apply below_alloc|apply pw_below_drewN|apply below_drew1)|exact HB.out))):w.heap.size≤gb304));have n3_:=Aside0.mk ((by rw[hg];exact(below_size (by repeat(first|(with_reducible first|exact HB.out|apply below_alloc|apply pw_below_drewN|apply below_drew1)|exact HB.out))):w.heap.size≤gb304));clear HB;have HB:=n0_;have BK304:=n1_;have GW304:=n2_;have GE304:=n3_;clear n0_ n1_ n2_ n3_;clear hb hbox hg;have hcz6_0:w5.cell? ⟨gb304,0,none⟩=some (.int .i64 a0_0):=(blk_cell BK304.out 0).trans rfl;have hcz6_1:w5.cell? ⟨gb304,1,none⟩=some (.int .i64 a0_1):=(blk_cell BK304.out 1).trans rfl;have hfz6_0:=blk_frozen BK304.out 0;have hfz6_1:=blk_frozen BK304.out 1)|((with_reducible refine gate_callee (f:=42) rfl ?_);refine goesL_ (some 4) rfl rfl Tryd.func42 (by kernel_rfl) rfl #[.agg #[.int .i64 a0_0,.int .i64 a0_1]] rfl (by(try simp only[List.map_toArray,List.map_cons,List.map_nil]);first|done|rfl|(simp only[List.length_drop,List.length_take];rfl)) ?_;(with_reducible refine(spec_ValOk.calls a0_0 a0_1 true _ A2.out).mono ?_);rintro e w7 ⟨rfl,hb⟩;refine⟨_,rfl,?_⟩;have n0_:=Aside0.mk (blk_below (g:=gb304) (o:=.cells #[.int .i64 a0_0,.int .i64 a0_1] 25 (0,0)) (by(with_reducible repeat(first|refine blk_drewN ?_ _|refine blk_drew ?_|refine blk_alloc ?_ _));exact BK304.out) hb);have n1_:=Aside0.mk (below_step (by repeat(first|(with_reducible first|exact HB.out|apply below_alloc|apply pw_below_drewN|apply below_drew1|refine below_set ?_ GE304.out)|exact HB.out)) hb);clear BK304;clear HB;have BK304:=n0_;have HB:=n1_;clear n0_ n1_;(try clear hb);(try clear hb2);(try clear hk);(try clear hi);have hcz8_0:w7.cell? ⟨gb304,0,none⟩=some (.int .i64 a0_0):=(blk_cell BK304.out 0).trans rfl;have hcz8_1:w7.cell? ⟨gb304,1,none⟩=some (.int .i64 a0_1):=(blk_cell BK304.out 1).trans rfl;have hfz8_0:=blk_frozen BK304.out 0;have hfz8_1:=blk_frozen BK304.out 1))
      go_ret
      exact⟨by first|rfl|(simp[errW_none,errW_some]<;>rfl)|(simp[*,errW_none,errW_some]<;>rfl),by repeat(first|(with_reducible first|exact HB.out|apply below_alloc|apply pw_below_drewN|apply below_drew1|refine below_set ?_ GE304.out)|exact HB.out)⟩
    · rw[if_neg c4]at H
      have c4b0:(a0_0==0)=false:=beq_eq_false_iff_ne.mpr c4;have c4b1:(a0_0 !=0)=true:=bne_iff_ne.mpr c4;obtain⟨y306,hy306⟩: ∃y_:List ByteArray,y_=(([(⟨#[]⟩:ByteArray),(⟨#[110]⟩:ByteArray),(⟨#[97]⟩:ByteArray),(⟨#[114]⟩:ByteArray)]:List ByteArray)):=⟨_,rfl⟩;replace H:(if 0≤a0_0 then(if a0_0<(y306.length:Int)then((spec_l6Dec.f k a0_1).bind fun t310=>(if(rdOf ByteArray.empty y306 a0_0).size+t310.size≤9223372036854775807 then(some ((rdOf ByteArray.empty y306 a0_0)++t310))else(none)))else(none))else(none))=some r:=by first|(rw[hy306];with_reducible exact H)|(have H2_:=(Option.bind_some _ _).symm.trans H;rw[hy306];with_reducible exact H2_)|(have H2_:=(Option.bind_some _ _).symm.trans H;with_reducible exact H2_)|with_reducible exact H|(rw[hy306];exact H)|exact H
      have Ny306:=Aside0.mk hy306;clear hy306;by_cases c9:0≤a0_0
      · rw[if_pos c9]at H
        have c9b0:decide (0≤a0_0)=true:=decide_eq_true c9;clear c9;by_cases c10:a0_0<(y306.length:Int)
        · rw[if_pos c10]at H
          have c10b0:decide (a0_0<(y306.length:Int))=true:=decide_eq_true c10;clear c10;replace H:=Option.bind_eq_some_iff.mp H;obtain⟨t310,A110,H⟩:=H;replace H:(if(rdOf ByteArray.empty y306 a0_0).size+t310.size≤9223372036854775807 then(some ((rdOf ByteArray.empty y306 a0_0)++t310))else(none))=some r:=H
          have A11:=Aside0.mk A110;clear A110;by_cases c12:(rdOf ByteArray.empty y306 a0_0).size+t310.size≤9223372036854775807
          · rw[if_pos c12]at H
            have c12b0:=eq_true c12;have c12b1:decide ((rdOf ByteArray.empty y306 a0_0).size+t310.size≤9223372036854775807)=true:=decide_eq_true c12;try have c12b2:(9223372036854775807<(rdOf ByteArray.empty y306 a0_0).size+t310.size)=False:=eq_false (Nat.not_lt.2 c12)
            obtain rfl:=Option.some.inj H;go_enter Tryd.func17,Tryd.ntmps17
            try go_wp2_with (first|((with_reducible refine gate_dst (N:=1) rfl ?_);refine box_event ?hg (N:=1) ?hd (cs:= #[.int .i64 a0_0,.int .i64 a0_1]) (t:=25) ?hr ?_;(case hd=>rfl);(case hg=>rfl);(case hr=>first|(go_simp;done)|(go_simp;rfl));intro gb304 hg w13 hbox hb;have n0_:=Aside0.mk (below_step (by repeat(first|(with_reducible first|exact HB.out|apply below_alloc|apply pw_below_drewN|apply below_drew1)|exact HB.out)) hb);have n1_:=Aside0.mk (hbox);have n2_:=Aside0.mk ((by rw[hg];exact(below_size (by repeat(first|(with_reducible first|exact HB.out|apply below_alloc|apply pw_below_drewN|apply below_drew1)|exact HB.out))):w.heap.size≤gb304));have n3_:=Aside0.mk ((by rw[hg];exact(below_size (by repeat(first|(with_reducible first|exact HB.out|apply below_alloc|apply pw_below_drewN|apply below_drew1)|exact HB.out))):w.heap.size≤gb304));clear HB;have HB:=n0_;have BK304:=n1_;have GW304:=n2_;have GE304:=n3_;clear n0_ n1_ n2_ n3_;clear hb hbox hg;have hcz14_0:w13.cell? ⟨gb304,0,none⟩=some (.int .i64 a0_0):=(blk_cell BK304.out 0).trans rfl;have hcz14_1:w13.cell? ⟨gb304,1,none⟩=some (.int .i64 a0_1):=(blk_cell BK304.out 1).trans rfl;have hfz14_0:=blk_frozen BK304.out 0;have hfz14_1:=blk_frozen BK304.out 1)|((with_reducible refine gate_callee (f:=42) rfl ?_);refine goesL_ (some 4) rfl rfl Tryd.func42 (by kernel_rfl) rfl #[.agg #[.int .i64 a0_0,.int .i64 a0_1]] rfl (by(try simp only[List.map_toArray,List.map_cons,List.map_nil]);first|done|rfl|(simp only[List.length_drop,List.length_take];rfl)) ?_;(with_reducible refine(spec_ValOk.calls a0_0 a0_1 true _ A2.out).mono ?_);rintro e w15 ⟨rfl,hb⟩;refine⟨_,rfl,?_⟩;have n0_:=Aside0.mk (blk_below (g:=gb304) (o:=.cells #[.int .i64 a0_0,.int .i64 a0_1] 25 (0,0)) (by(with_reducible repeat(first|refine blk_drewN ?_ _|refine blk_drew ?_|refine blk_alloc ?_ _));exact BK304.out) hb);have n1_:=Aside0.mk (below_step (by repeat(first|(with_reducible first|exact HB.out|apply below_alloc|apply pw_below_drewN|apply below_drew1|refine below_set ?_ GE304.out)|exact HB.out)) hb);clear BK304;clear HB;have BK304:=n0_;have HB:=n1_;clear n0_ n1_;(try clear hb);(try clear hb2);(try clear hk);(try clear hi);have hcz16_0:w15.cell? ⟨gb304,0,none⟩=some (.int .i64 a0_0):=(blk_cell BK304.out 0).trans rfl;have hcz16_1:w15.cell? ⟨gb304,1,none⟩=some (.int .i64 a0_1):=(blk_cell BK304.out 1).trans rfl;have hfz16_0:=blk_frozen BK304.out 0;have hfz16_1:=blk_frozen BK304.out 1))
            have pi309:(0≤(a0_0:Int))=True:=eq_true (of_decide_eq_true (by first|(with_reducible assumption)|assumption))
            have qi309:(a0_0<(y306.length:Int))=True:=eq_true (of_decide_eq_true (by first|(with_reducible assumption)|assumption))
            have n0_:=Aside0.mk (blk_drew BK304.out);have n1_:=Aside0.mk (below_drew1 HB.out);clear BK304;clear HB;have BK304:=n0_;have HB:=n1_;clear n0_ n1_;refine start_ (n:=10) (S:=fun w'=>True) (ds:=[]) #[false,false,false,false,false,false,false,false,false,false] (by kernel_rfl) rfl rfl trivial (fun hHeld=> ?_);refine with_tabW spec_ValText.tab5 spec_ValText.bits5 (fun HT_ HW_=> ?_)
            generalize w15.drew=w17 at BK304 HB hHeld⊢
            refine pure_ (i:=1) (N:=some 10) (v:= ?_) (a':= ?_) #[false,true,false,false,false,false,false,false,false,false] rfl rfl (any_of HT_.out (by kernel_rfl)) (fun _ _ _ h=>h) (Or.inl ⟨by rfl,?_⟩) ?_ ?_
            rotate_left
            · intro w'
              go_simp
              with_reducible rfl
            rotate_left
            · simp only[Act.put,List.setIfInBounds_toArray,List.set_cons_zero,List.set_cons_succ,i64_w,i32_w]
              rfl
            refine pure_ (i:=5) (N:=some 14) (v:= ?_) (a':= ?_) #[false,true,false,false,false,true,false,false,false,false] rfl rfl (any_of HT_.out (by kernel_rfl)) (fun _ _ _ h=>h) (Or.inl ⟨by rfl,?_⟩) ?_ ?_
            rotate_left
            · intro w'
              go_simp
              with_reducible rfl
            rotate_left
            · simp only[Act.put,List.setIfInBounds_toArray,List.set_cons_zero,List.set_cons_succ,i64_w,i32_w]
              rfl
            refine inv_at [0,2,3,4,6,7,8,9] (fun a0_ b a w'=> ∃ (v307:Value) (adz_v307:Addr) (m3_:Value),a=putSel a0_ b [(0,9,v307),(2,11,.int .i64 a0_0),(3,12,m3_),(4,13,.string (rdOf ByteArray.empty y306 a0_0)),(6,15,.int .i64 a0_1),(7,16,.string t310),(8,17,.string ((rdOf ByteArray.empty y306 a0_0)++t310)),(9,2,.string ((rdOf ByteArray.empty y306 a0_0)++t310))]∧(w'.heap[gb304]?=some (.cells #[.int .i64 a0_0,.int .i64 a0_1] 25 (0,0)))∧(Below w.heap.size w w')∧(b 0=true→Kd.R Kd.string 9 w' w.heap.size (fun _=>True) v307 y306)∧(b 0=true→ ∃c_,(v307:Value)= .slice (some adz_v307) y306.length c_)∧(b 3=true→(m3_:Value)= .pointer (some (adz_v307.add (a0_0).toNat)))) HT_.out HW_.out (by kernel_rfl) (by kernel_rfl) ?_ ?_ ?_
            · exact⟨.bool false,⟨0,0,none⟩,.bool false,by simp only[putSel,Bool.false_eq_true,if_false],BK304.out,HB.out,fun h_=>absurd h_ (by decide),fun h_=>absurd h_ (by decide),fun h_=>absurd h_ (by decide)⟩
            · skip
              clear BK304 HB;refine steps_cons ?_ ?_
              · rintro b a w' ⟨v307,adz_v307,m3_,ha,Q_BK304,Q_HB,Q_HO308,Q_HA_HO308,Q_X3_⟩ hb_ hon hoff
                refine⟨_,rfl,fun K hK=> ?_⟩
                replace ha:=Aside0.mk ha;have BK304:=Aside0.mk Q_BK304;have HB:=Aside0.mk Q_HB;refine Kd.R_lit_step Kd.string _ 9 ?hg (N:=9) ?hd (xs:=([(⟨#[]⟩:ByteArray),(⟨#[110]⟩:ByteArray),(⟨#[97]⟩:ByteArray),(⟨#[114]⟩:ByteArray)]:List ByteArray)) (inner:=[.string (⟨#[]⟩:ByteArray),.string (⟨#[110]⟩:ByteArray),.string (⟨#[97]⟩:ByteArray),.string (⟨#[114]⟩:ByteArray)]) (ok:=fun _=>True) (okp:=fun _=>True) ?hr ?hp (fun _ hk=>hk) trivial (Below.refl _ _) (Nat.le_refl _) (by simp) ?_;(case hd=>rfl);(case hg=>rfl);(case hr=>first|(go_simp;done)|(go_simp;rfl));(case hp=>exact(Reps.one (show Kd.M Kd.string _ _ _ (⟨#[]⟩:ByteArray) [.string (⟨#[]⟩:ByteArray)]from rfl) (Reps.one (show Kd.M Kd.string _ _ _ (⟨#[110]⟩:ByteArray) [.string (⟨#[110]⟩:ByteArray)]from rfl) (Reps.one (show Kd.M Kd.string _ _ _ (⟨#[97]⟩:ByteArray) [.string (⟨#[97]⟩:ByteArray)]from rfl) (Reps.one (show Kd.M Kd.string _ _ _ (⟨#[114]⟩:ByteArray) [.string (⟨#[114]⟩:ByteArray)]from rfl) (Reps.none _ _))))))
                intro v307 w18 ho19 hb hg_ hnew_;clear hg_ hnew_;(first|rw[←Ny306.out]at ho19|(simp only[Int.reduceToNat]at ho19;rw[←Ny306.out]at ho19))
                have n0_:=Aside0.mk (Kd.R_lower ho19 (below_size (by repeat(first|(with_reducible first|exact HB.out|apply below_alloc|apply pw_below_drewN|apply below_drew1|refine below_set ?_ GE304.out)|exact HB.out))))
                have n1_:=Aside0.mk (blk_below (g:=gb304) (o:=.cells #[.int .i64 a0_0,.int .i64 a0_1] 25 (0,0)) (by(with_reducible repeat(first|refine blk_drewN ?_ _|refine blk_drew ?_|refine blk_alloc ?_ _));exact BK304.out) hb)
                have n2_:=Aside0.mk (below_step (by repeat(first|(with_reducible first|exact HB.out|apply below_alloc|apply pw_below_drewN|apply below_drew1|refine below_set ?_ GE304.out)|exact HB.out)) hb)
                clear BK304;clear HB;have HO308:=n0_;have BK304:=n1_;have HB:=n2_;clear n0_ n1_ n2_;clear hb ho19;obtain⟨Ao20,co20,eo20⟩:=Kd.R_slice HO308.out;subst eo20;obtain⟨ado20,fo20,_⟩:=Kd.at_string (Kd.R_reads' HO308.out).2.2 0 (by decide) (by rw[Ny306.out];simp)
                cases fo20
                refine hK.out _ _ ⟨.slice (some ado20) y306.length co20,ado20,m3_,(by rw[ha.out];exact putSel_upk 0 hb_ rfl rfl rfl),(by(with_reducible repeat(first|refine blk_drewN ?_ _|refine blk_drew ?_|refine blk_alloc ?_ _));exact BK304.out),(by repeat(first|(with_reducible first|exact HB.out|apply below_alloc|apply pw_below_drewN|apply below_drew1|refine below_set ?_ GE304.out)|exact HB.out)),fun _=>(by(with_reducible repeat(first|apply Kd.R_alloc|apply Kd.R_drewN|apply Kd.R_drew));exact HO308.out),fun _=>⟨_,rfl⟩,fun h0_=>absurd ((hoff 3 (by kernel_rfl)).symm.trans h0_) (by decide)⟩
              refine steps_cons ?_ ?_
              · rintro b a w' ⟨v307,adz_v307,m3_,ha,Q_BK304,Q_HB,Q_HO308,Q_HA_HO308,Q_X3_⟩ hb_ hon hoff
                refine⟨_,rfl,fun K hK=> ?_⟩
                have e10:a.tmps[10]?=some (.pointer (some ⟨gb304,0,none⟩)):=by rw[ha];exact(putSel_off rfl).trans rfl
                replace ha:=Aside0.mk ha;have BK304:=Aside0.mk Q_BK304;have HB:=Aside0.mk Q_HB;have hc0_:w'.cell? ⟨gb304,0,none⟩=some (.int .i64 a0_0):=(blk_cell BK304.out 0).trans rfl;have hc1_:w'.cell? ⟨gb304,1,none⟩=some (.int .i64 a0_1):=(blk_cell BK304.out 1).trans rfl;refine value_ (w1:=w') (v:=.int .i64 a0_0) (by rfl) rfl ?_ ?_
                · go_simp
                  (try simp only[i64_w])
                  try rfl
                refine hK.out _ _ ⟨v307,adz_v307,m3_,(by rw[ha.out];exact putSel_upk 1 hb_ rfl rfl rfl),Q_BK304,Q_HB,Q_HO308,Q_HA_HO308,fun h0_=>absurd ((hoff 3 (by kernel_rfl)).symm.trans h0_) (by decide)⟩
              refine steps_cons ?_ ?_
              · rintro b a w' ⟨v307,adz_v307,m3_,ha,Q_BK304,Q_HB,Q_HO308,Q_HA_HO308,Q_X3_⟩ hb_ hon hoff
                refine⟨_,rfl,fun K hK=> ?_⟩
                have e9:a.tmps[9]?=some (v307):=by rw[ha];exact putSel_on (e:=(0,9,v307)) 0 rfl rfl (hon 0 (by kernel_rfl)) rfl
                have e11:a.tmps[11]?=some (.int .i64 a0_0):=by rw[ha];exact putSel_on (e:=(2,11,.int .i64 a0_0)) 1 rfl rfl (hon 2 (by kernel_rfl)) rfl
                replace ha:=Aside0.mk ha;have BK304:=Aside0.mk Q_BK304;have HB:=Aside0.mk Q_HB;have HO308:=Aside0.mk (Q_HO308 (hon 0 (by kernel_rfl)))
                have HA_HO308:=Aside0.mk (Q_HA_HO308 (hon 0 (by kernel_rfl)))
                obtain⟨c_,hv_⟩:=HA_HO308.out;rw[hv_]at e9
                refine value_ (w1:=w') (v:=.pointer (some (adz_v307.add (a0_0).toNat))) (by rfl) rfl ?_ ?_
                · go_simp
                  (try simp only[i64_w])
                  try rfl
                refine hK.out _ _ ⟨v307,adz_v307,(.pointer (some (adz_v307.add (a0_0).toNat))),(by rw[ha.out];exact putSel_upk 2 hb_ rfl rfl rfl),Q_BK304,Q_HB,Q_HO308,Q_HA_HO308,fun _=>rfl⟩
              refine steps_cons ?_ ?_
              · rintro b a w' ⟨v307,adz_v307,m3_,ha,Q_BK304,Q_HB,Q_HO308,Q_HA_HO308,Q_X3_⟩ hb_ hon hoff
                refine⟨_,rfl,fun K hK=> ?_⟩
                have e12:a.tmps[12]?=some (m3_):=by rw[ha];exact putSel_on (e:=(3,12,m3_)) 2 rfl rfl (hon 3 (by kernel_rfl)) rfl
                rw[Q_X3_ (hon 3 (by kernel_rfl))]at e12
                replace ha:=Aside0.mk ha;have BK304:=Aside0.mk Q_BK304;have HB:=Aside0.mk Q_HB;have HO308:=Aside0.mk (Q_HO308 (hon 0 (by kernel_rfl)))
                have HA_HO308:=Aside0.mk (Q_HA_HO308 (hon 0 (by kernel_rfl)))
                obtain⟨c_,hv_⟩:=HA_HO308.out;have hF_:=HO308.out;rw[hv_]at hF_
                obtain⟨ad_,ea_,hx_⟩:=Kd.at_string (Kd.R_reads' hF_).2.2 a0_0 (of_eq_true pi309) (of_eq_true qi309);cases ea_
                refine value_ (w1:=w') (v:=.string (rdOf ByteArray.empty y306 a0_0)) (by rfl) rfl ?_ ?_
                · go_simp
                  (try simp only[i64_w])
                  try rfl
                refine hK.out _ _ ⟨v307,adz_v307,m3_,(by rw[ha.out];exact putSel_upk 3 hb_ rfl rfl rfl),Q_BK304,Q_HB,Q_HO308,Q_HA_HO308,Q_X3_⟩
              refine steps_cons ?_ ?_
              · rintro b a w' ⟨v307,adz_v307,m3_,ha,Q_BK304,Q_HB,Q_HO308,Q_HA_HO308,Q_X3_⟩ hb_ hon hoff
                refine⟨_,rfl,fun K hK=> ?_⟩
                have e14:a.tmps[14]?=some (.pointer (some ⟨gb304,1,none⟩)):=by rw[ha];exact(putSel_off rfl).trans rfl
                replace ha:=Aside0.mk ha;have BK304:=Aside0.mk Q_BK304;have HB:=Aside0.mk Q_HB;have hc0_:w'.cell? ⟨gb304,0,none⟩=some (.int .i64 a0_0):=(blk_cell BK304.out 0).trans rfl;have hc1_:w'.cell? ⟨gb304,1,none⟩=some (.int .i64 a0_1):=(blk_cell BK304.out 1).trans rfl;refine value_ (w1:=w') (v:=.int .i64 a0_1) (by rfl) rfl ?_ ?_
                · go_simp
                  (try simp only[i64_w])
                  try rfl
                refine hK.out _ _ ⟨v307,adz_v307,m3_,(by rw[ha.out];exact putSel_upk 4 hb_ rfl rfl rfl),Q_BK304,Q_HB,Q_HO308,Q_HA_HO308,Q_X3_⟩
              refine steps_cons ?_ ?_
              · rintro b a w' ⟨v307,adz_v307,m3_,ha,Q_BK304,Q_HB,Q_HO308,Q_HA_HO308,Q_X3_⟩ hb_ hon hoff
                refine⟨_,rfl,fun K hK=> ?_⟩
                have e15:a.tmps[15]?=some (.int .i64 a0_1):=by rw[ha];exact putSel_on (e:=(6,15,.int .i64 a0_1)) 4 rfl rfl (hon 6 (by kernel_rfl)) rfl
                replace ha:=Aside0.mk ha;have BK304:=Aside0.mk Q_BK304;have HB:=Aside0.mk Q_HB;refine goes_ Tryd.func43 (by kernel_rfl) rfl #[.int .i64 a0_1] (by rfl) rfl rfl (by first|(simp only[List.map_toArray,List.map_cons,List.map_nil,Act.eval,Array.getD_eq_getD_getElem?,Option.getD_some,e15];done)|(simp only[List.map_toArray,List.map_cons,List.map_nil,Act.eval,Array.getD_eq_getD_getElem?,Option.getD_some,e15];rfl)) ?_
                with_reducible refine(spec_l6Dec.calls k a0_1 t310 _ A11.out).mono ?_
                rintro e w18 ⟨rfl,hb⟩
                refine⟨_,rfl,?_⟩
                have n0_:=Aside0.mk (blk_below (g:=gb304) (o:=.cells #[.int .i64 a0_0,.int .i64 a0_1] 25 (0,0)) (by(with_reducible repeat(first|refine blk_drewN ?_ _|refine blk_drew ?_|refine blk_alloc ?_ _));exact BK304.out) hb)
                have n1_:=Aside0.mk (below_step (by repeat(first|(with_reducible first|exact HB.out|apply below_alloc|apply pw_below_drewN|apply below_drew1|refine below_set ?_ GE304.out)|exact HB.out)) hb)
                have z_HO308:=fun (h0_:b 0=true)=>(show Kd.R Kd.string 9 w18 w.heap.size (fun _=>True) v307 y306 from by first|exact(Kd.R_below (by(with_reducible repeat(first|apply Kd.R_alloc|apply Kd.R_drewN|apply Kd.R_drew));exact(Q_HO308 h0_)) hb)|exact Kd.R_mono (Kd.R_below (by(with_reducible repeat(first|apply Kd.R_alloc|apply Kd.R_drewN|apply Kd.R_drew));exact(Q_HO308 h0_)) hb) (fun _ h_=>by first|trivial|exact h_|exact h_.1))
                clear BK304;clear HB;have BK304:=n0_;have HB:=n1_;clear n0_ n1_;(try clear hb)
                (try clear hb2)
                (try clear hk)
                (try clear hi)
                refine hK.out _ _ ⟨v307,adz_v307,m3_,(by rw[ha.out];exact putSel_upk 5 hb_ rfl rfl rfl),(by(with_reducible repeat(first|refine blk_drewN ?_ _|refine blk_drew ?_|refine blk_alloc ?_ _));exact BK304.out),(by repeat(first|(with_reducible first|exact HB.out|apply below_alloc|apply pw_below_drewN|apply below_drew1|refine below_set ?_ GE304.out)|exact HB.out)),z_HO308,Q_HA_HO308,Q_X3_⟩
              refine steps_cons ?_ ?_
              · rintro b a w' ⟨v307,adz_v307,m3_,ha,Q_BK304,Q_HB,Q_HO308,Q_HA_HO308,Q_X3_⟩ hb_ hon hoff
                refine⟨_,rfl,fun K hK=> ?_⟩
                have e13:a.tmps[13]?=some (.string (rdOf ByteArray.empty y306 a0_0)):=by rw[ha];exact putSel_on (e:=(4,13,.string (rdOf ByteArray.empty y306 a0_0))) 3 rfl rfl (hon 4 (by kernel_rfl)) rfl
                have e16:a.tmps[16]?=some (.string t310):=by rw[ha];exact putSel_on (e:=(7,16,.string t310)) 5 rfl rfl (hon 7 (by kernel_rfl)) rfl
                replace ha:=Aside0.mk ha;have BK304:=Aside0.mk Q_BK304;have HB:=Aside0.mk Q_HB;have HO308:=Aside0.mk (Q_HO308 (hon 0 (by kernel_rfl)))
                have HA_HO308:=Aside0.mk (Q_HA_HO308 (hon 0 (by kernel_rfl)))
                refine value_ (w1:=w') (v:=.string ((rdOf ByteArray.empty y306 a0_0)++t310)) (by rfl) rfl ?_ ?_
                · go_simp
                  (try simp only[i64_w])
                  try rfl
                refine hK.out _ _ ⟨v307,adz_v307,m3_,(by rw[ha.out];exact putSel_upk 6 hb_ rfl rfl rfl),Q_BK304,Q_HB,Q_HO308,Q_HA_HO308,Q_X3_⟩
              refine steps_cons ?_ ?_
              · rintro b a w' ⟨v307,adz_v307,m3_,ha,Q_BK304,Q_HB,Q_HO308,Q_HA_HO308,Q_X3_⟩ hb_ hon hoff
                refine⟨_,rfl,fun K hK=> ?_⟩
                have e17:a.tmps[17]?=some (.string ((rdOf ByteArray.empty y306 a0_0)++t310)):=by rw[ha];exact putSel_on (e:=(8,17,.string ((rdOf ByteArray.empty y306 a0_0)++t310))) 6 rfl rfl (hon 8 (by kernel_rfl)) rfl
                replace ha:=Aside0.mk ha;have BK304:=Aside0.mk Q_BK304;have HB:=Aside0.mk Q_HB;have HO308:=Aside0.mk (Q_HO308 (hon 0 (by kernel_rfl)))
                have HA_HO308:=Aside0.mk (Q_HA_HO308 (hon 0 (by kernel_rfl)))
                refine value_ (w1:=w') (v:=.string ((rdOf ByteArray.empty y306 a0_0)++t310)) (by rfl) rfl ?_ ?_
                · go_simp
                  (try simp only[i64_w])
                  try rfl
                refine hK.out _ _ ⟨v307,adz_v307,m3_,(by rw[ha.out];exact putSel_upk 7 hb_ rfl rfl rfl),Q_BK304,Q_HB,Q_HO308,Q_HA_HO308,Q_X3_⟩
              exact steps_nil
            rintro b a w22 hall ⟨v307,adz_v307,m3_,ha,Q_BK304,Q_HB,Q_HO308,Q_HA_HO308,Q_X3_⟩
            clear BK304 HB;have hb0_:=hall 0 (by kernel_rfl)
            have hb2_:=hall 2 (by kernel_rfl)
            have hb3_:=hall 3 (by kernel_rfl)
            have hb4_:=hall 4 (by kernel_rfl)
            have hb6_:=hall 6 (by kernel_rfl)
            have hb7_:=hall 7 (by kernel_rfl)
            have hb8_:=hall 8 (by kernel_rfl)
            have hb9_:=hall 9 (by kernel_rfl)
            subst ha;obtain rfl:=Q_X3_ hb3_;simp only[putSel,hb0_,hb2_,hb3_,hb4_,hb6_,hb7_,hb8_,hb9_,if_true,Act.put,List.setIfInBounds_toArray,List.set_cons_zero,List.set_cons_succ]
            have BK304:=Aside0.mk Q_BK304;clear Q_BK304;have HB:=Aside0.mk Q_HB;clear Q_HB;have HO308:=Aside0.mk (Q_HO308 hb0_);clear Q_HO308;have HA_HO308:=Aside0.mk (Q_HA_HO308 hb0_);clear Q_HA_HO308;clear hall hb0_ hb2_ hb3_ hb4_ hb6_ hb7_ hb8_ hb9_;obtain⟨co23,eo23⟩:=HA_HO308.out;clear HA_HO308;subst eo23;try go_wp2
            go_ret
            exact⟨by first|rfl|(simp[errW_none,errW_some]<;>rfl)|(simp[*,errW_none,errW_some]<;>rfl),by repeat(first|(with_reducible first|exact HB.out|apply below_alloc|apply pw_below_drewN|apply below_drew1|refine below_set ?_ GE304.out)|exact HB.out)⟩
          · rw[if_neg c12]at H
            exact absurd H (by simp)
        · rw[if_neg c10]at H
          exact absurd H (by simp)
      · rw[if_neg c9]at H
        exact absurd H (by simp)
  · replace c3:=Bool.eq_false_iff.mpr c3
    subst c3;have H1:(some (⟨#[]⟩:ByteArray))=some r:=by rw[if_neg (show¬(false=true) by decide)]at H;exact H
    clear H;have H:=H1;clear H1;obtain rfl:=Option.some.inj H;go_enter Tryd.func17,Tryd.ntmps17
    go_wp2_with (first|((with_reducible refine gate_dst (N:=1) rfl ?_);refine box_event ?hg (N:=1) ?hd (cs:= #[.int .i64 a0_0,.int .i64 a0_1]) (t:=25) ?hr ?_;(case hd=>rfl);(case hg=>rfl);(case hr=>first|(go_simp;done)|(go_simp;rfl));intro gb304 hg w24 hbox hb;have n0_:=Aside0.mk (below_step (by repeat(first|(with_reducible first|exact HB.out|apply below_alloc|apply pw_below_drewN|apply below_drew1)|exact HB.out)) hb);have n1_:=Aside0.mk (hbox);have n2_:=Aside0.mk ((by rw[hg];exact(below_size (by repeat(first|(with_reducible first|exact HB.out|apply below_alloc|apply pw_below_drewN|apply below_drew1)|exact HB.out))):w.heap.size≤gb304));have n3_:=Aside0.mk ((by rw[hg];exact(below_size (by repeat(first|(with_reducible first|exact HB.out|apply below_alloc|apply pw_below_drewN|apply below_drew1)|exact HB.out))):w.heap.size≤gb304));clear HB;have HB:=n0_;have BK304:=n1_;have GW304:=n2_;have GE304:=n3_;clear n0_ n1_ n2_ n3_;clear hb hbox hg;have hcz25_0:w24.cell? ⟨gb304,0,none⟩=some (.int .i64 a0_0):=(blk_cell BK304.out 0).trans rfl;have hcz25_1:w24.cell? ⟨gb304,1,none⟩=some (.int .i64 a0_1):=(blk_cell BK304.out 1).trans rfl;have hfz25_0:=blk_frozen BK304.out 0;have hfz25_1:=blk_frozen BK304.out 1)|((with_reducible refine gate_callee (f:=42) rfl ?_);refine goesL_ (some 4) rfl rfl Tryd.func42 (by kernel_rfl) rfl #[.agg #[.int .i64 a0_0,.int .i64 a0_1]] rfl (by(try simp only[List.map_toArray,List.map_cons,List.map_nil]);first|done|rfl|(simp only[List.length_drop,List.length_take];rfl)) ?_;(with_reducible refine(spec_ValOk.calls a0_0 a0_1 false _ A2.out).mono ?_);rintro e w26 ⟨rfl,hb⟩;refine⟨_,rfl,?_⟩;have n0_:=Aside0.mk (blk_below (g:=gb304) (o:=.cells #[.int .i64 a0_0,.int .i64 a0_1] 25 (0,0)) (by(with_reducible repeat(first|refine blk_drewN ?_ _|refine blk_drew ?_|refine blk_alloc ?_ _));exact BK304.out) hb);have n1_:=Aside0.mk (below_step (by repeat(first|(with_reducible first|exact HB.out|apply below_alloc|apply pw_below_drewN|apply below_drew1|refine below_set ?_ GE304.out)|exact HB.out)) hb);clear BK304;clear HB;have BK304:=n0_;have HB:=n1_;clear n0_ n1_;(try clear hb);(try clear hb2);(try clear hk);(try clear hi)))
    go_ret
    exact⟨by first|rfl|(simp[errW_none,errW_some]<;>rfl)|(simp[*,errW_none,errW_some]<;>rfl),by repeat(first|(with_reducible first|exact HB.out|apply below_alloc|apply pw_below_drewN|apply below_drew1|refine below_set ?_ GE304.out)|exact HB.out)⟩
end Go.Proofs.YtmklpbmlgjkbiaaDoor.PS
end
