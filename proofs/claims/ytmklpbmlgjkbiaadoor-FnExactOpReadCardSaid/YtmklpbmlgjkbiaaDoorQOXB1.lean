/- What the rows of OXB rest on, part 2. -/
import Derived.Test.YtmklpbmlgjkbiaaDoorProg
import Derived.Deep.RegionWith
import Derived.Lib.Bytealg
import Derived.Shelf.Strings.Search3
import Derived.WalkSpells
import Derived.Shelf.Strings.Builder1
import Derived.Shelf.Utf8.RuneCount
import Derived.Shelf.Strconv.Atoi
import Derived.Shelf.Strconv.Itoa0
import Derived.Shelf.Strconv.Itoa1
import Derived.Shelf.LaysM
import Derived.Shelf.Strconv.Itoa2
import Derived.Shelf.Strconv.Itoa3
import Derived.Shelf.Strconv.AtoiErrFast
import Derived.Shelf.Strconv.ParseIntEmpty
import Derived.Shelf.Strconv.AtoiFail
import Derived.Shelf.Strconv.Clone
import Derived.Shelf.Strconv.SyntaxError
import Derived.Shelf.LaysC
import Derived.Shelf.Strconv.ToError
import Derived.Shelf.Strconv.Lower
import Derived.Shelf.Strconv.ParseUint10
import Derived.Shelf.Strconv.ParseUint10Empty
import Derived.Shelf.Strconv.ParseUint10Any
import Derived.Shelf.Strconv.ParseInt10
import Derived.Shelf.Strconv.AtoiLong
import Derived.Shelf.Strconv.AtoiInnerAll
import Derived.Shelf.Strconv.RangeError
import Derived.Shelf.Strconv.ToErrorRange
import Derived.Shelf.Strconv.AtoiAll
import Derived.Shelf.Strconv.ErrVarAll
import Derived.Shelf.Strings.Search1
import Derived.Shelf.Strings.Search2
import Derived.Shelf.Strings.Count
import Derived.Shelf.Strings.Shaped
import Derived.Shelf.Strings.Split
import Derived.Shelf.Strings.SplitShaped
import Derived.Shelf.Unicode.Decode
import Derived.Shelf.Strings.RuneCount
import Derived.Shelf.Strings.Explode
import Derived.Shelf.Unicode.DecodeSlow
import Derived.Shelf.Unicode.DecodeAny
import Derived.WalkSmall
import Derived.Lib.AppendIntMem
import Derived.RegionTactic
import Derived.Test.YtmklpbmlgjkbiaaDoorQOXB0
set_option linter.unusedVariables false
set_option linter.unusedSimpArgs false
set_option maxHeartbeats 8000000
set_option maxRecDepth 100000
section
namespace Go.Proofs.YtmklpbmlgjkbiaaDoor.PS
open Go.RowKit Go.Proofs.YtmklpbmlgjkbiaaDoorW.PrintWords Go.Proofs.YtmklpbmlgjkbiaaDoorW.PrintLast Go.Proofs.YtmklpbmlgjkbiaaDoorW.PrintMore
attribute [local go_sem] max2_int min2_int max_two min_two max_three min_three max_four min_four   -- for this text's walks alone
def errW:Option Int→Value
  |none=>.nilIface
  |some c=>.iface 0 (.int .i64 c)
theorem errW_none:errW none= .nilIface:=rfl
theorem errW_some (c:Int):errW (some c)= .iface 0 (.int .i64 c):=rfl
theorem info5:(Tryd.prog.info? 5).map (fun i=>(i.zero,i.size,i.bytes))=some (some (.int .u8 0),1,1):=by kernel_rfl
theorem info9:(Tryd.prog.info? 9).map (fun i=>(i.zero,i.size,i.bytes))=some (some (.string ⟨#[]⟩),1,16):=by kernel_rfl
structure S23 where
  f0:Int
  f1:Int
def z23:S23:=⟨(0:Int),(0:Int)⟩
structure S25 where
  f0:Int
  f1:Int
structure S35 where
  f0:Int
  f1:Int
  f2:Int
  f3:Int
  f4:S25
structure S31 where
  f0:Int
  f1:Int
  f2:Int
  f3:Int
  f4:S23
def z31:S31:=⟨(0:Int),(0:Int),(0:Int),(0:Int),z23⟩
structure S67 where
  f0:ByteArray
  f1:ByteArray
  f2:ByteArray
  f3:Bool
def z67:S67:=⟨(⟨#[]⟩:ByteArray),(⟨#[]⟩:ByteArray),(⟨#[]⟩:ByteArray),false⟩
def k67:Kd S67:=Kd.iso (Kd.pair Kd.string (Kd.pair Kd.string (Kd.pair Kd.string Kd.bool))) (fun x:S67=>(x.f0,x.f1,x.f2,x.f3))
theorem k67_open {w:World} {x:S67} {cs:List Value} (h:k67.K w x cs):cs=[.string x.f0,.string x.f1,.string x.f2,.bool x.f3]:=by
  obtain⟨_,_,rfl,rfl,⟨_,_,rfl,rfl,⟨_,_,rfl,rfl,rfl⟩⟩⟩:=h;exact rfl
theorem k67_mk (w:World) (x:S67):k67.K w x [.string x.f0,.string x.f1,.string x.f2,.bool x.f3]:=⟨[.string x.f0],[.string x.f1,.string x.f2,.bool x.f3],rfl,rfl,⟨[.string x.f1],[.string x.f2,.bool x.f3],rfl,rfl,⟨[.string x.f2],[.bool x.f3],rfl,rfl,rfl⟩⟩⟩
def rd_T67 (xs:List S67) (i:Int):S67:=xs.getD i.toNat z67
theorem at_T67 {w:World} {A:Option Addr} {n:Nat} {xs:List S67} (h:Kd.C k67 w A n xs) (i:Int) (h0:0≤i) (h1:i<n): ∃ad,A=some ad∧w.cell? (ad.add (i.toNat*4))=some (.string (rd_T67 xs i).f0)∧w.cell? ⟨(ad.add (i.toNat*4)).block,(ad.add (i.toNat*4)).off+1,none⟩=some (.string (rd_T67 xs i).f1)∧w.cell? ⟨(ad.add (i.toNat*4)).block,(ad.add (i.toNat*4)).off+2,none⟩=some (.string (rd_T67 xs i).f2)∧w.cell? ⟨(ad.add (i.toNat*4)).block,(ad.add (i.toNat*4)).off+3,none⟩=some (.bool (rd_T67 xs i).f3):=by
  obtain⟨ad,c,e,_,hK,hc0⟩:=Kd.C_get h z67 i h0 h1;have hc: ∀j u,c[j]?=some u→w.cell? (ad.add (i.toNat*4+j))=some u:=hc0;obtain rfl:=k67_open hK;exact⟨ad,e,hc 0 _ rfl,by rw[←add_field _ _ 1 (by omega)];exact hc 1 _ rfl,by rw[←add_field _ _ 2 (by omega)];exact hc 2 _ rfl,by rw[←add_field _ _ 3 (by omega)];exact hc 3 _ rfl⟩
structure S139 where
  f0:ByteArray
def z139:S139:=⟨(⟨#[]⟩:ByteArray)⟩
structure S145 where
  f0:Int
  f1:Int
def z145:S145:=⟨(0:Int),(0:Int)⟩
structure S146 where
  f0:Int
  f1:Int
def z146:S146:=⟨(0:Int),(0:Int)⟩
end Go.Proofs.YtmklpbmlgjkbiaaDoor.PS
end
section
namespace Go.Proofs.YtmklpbmlgjkbiaaDoor.PS
open Go.RowKit Go.Proofs.YtmklpbmlgjkbiaaDoorW.PrintWords Go.Proofs.YtmklpbmlgjkbiaaDoorW.PrintLast
def okP (k n:Int):Prop:=(k=0∧n=0)∨(k=1∧ -99≤n∧n≤99)∨(k=2∧0≤n∧n≤9)∨(k=3∧1≤n∧n≤6)
instance (k n:Int):Decidable (okP k n):=by unfold okP;infer_instance
def okB (k n:Int):Bool:=decide (okP k n)
theorem okB_true {k n:Int} :okB k n=true ↔ okP k n:=by simp[okB]
theorem okB_false {k n:Int} :okB k n=false ↔ ¬okP k n:=by simp[okB]
def hasR (k:Int):Bool:=decide (1≤k∧k≤14∧k≠9∧k≠13)
def hasS (k:Int):Bool:=decide (k=2∨k=3∨k=6∨k=7∨k=8)
def hasT (k:Int):Bool:=decide (k=5∨k=8∨k=9∨k=10)
def hasV (k:Int):Bool:=decide (k=1∨k=8∨k=10∨k=13)
def formL (k:Int):List Bool:=if 1≤k∧k≤14 then [hasR k,hasS k,hasT k,hasV k]else []
def valP (k vk vn:Int):Prop:=okP vk vn∧(k=8→vk=1∧1≤vn)∧(k=13→vk=1∧0≤vn∧vn≤1)
instance (k vk vn:Int):Decidable (valP k vk vn):=by unfold valP;infer_instance
def opP (k r s t vk vn:Int):Prop:=
  (1≤k∧k≤14)∧valP k vk vn∧(r=0∨(hasR k=true∧0≤r∧r≤3))∧(s=0∨(hasS k=true∧0≤s∧s≤3))∧
    (t=0∨(hasT k=true∧0≤t∧t≤15))∧(hasV k=true∨(vk=0∧vn=0))
instance (k r s t vk vn:Int):Decidable (opP k r s t vk vn):=by unfold opP;infer_instance
def opB (k r s t vk vn:Int):Bool:=decide (opP k r s t vk vn)
theorem opB_true {k r s t vk vn:Int} :opB k r s t vk vn=true ↔ opP k r s t vk vn:=by simp[opB]
theorem opB_false {k r s t vk vn:Int} :opB k r s t vk vn=false ↔ ¬opP k r s t vk vn:=by simp[opB]
def opV.f (k r s t vk vn:Int):Option Bool:=some (opB k r s t vk vn)
def mannersL:List S67:=
  [⟨⟨#[]⟩,⟨#[]⟩,⟨#[]⟩,false⟩,
   ⟨⟨#[115,101,116]⟩,⟨#[82,86]⟩,⟨#[]⟩,true⟩,
   ⟨⟨#[109,111,118,101]⟩,⟨#[82,83]⟩,⟨#[83]⟩,true⟩,
   ⟨⟨#[97,100,100]⟩,⟨#[82,83]⟩,⟨#[82,83]⟩,false⟩,
   ⟨⟨#[115,101,108,102]⟩,⟨#[82]⟩,⟨#[]⟩,true⟩,
   ⟨⟨#[98,101,103,105,110]⟩,⟨#[82,84]⟩,⟨#[]⟩,true⟩,
   ⟨⟨#[115,101,110,100]⟩,⟨#[82,83]⟩,⟨#[82,83]⟩,false⟩,
   ⟨⟨#[116,97,107,101]⟩,⟨#[82,83]⟩,⟨#[]⟩,true⟩,
   ⟨⟨#[97,102,116,101,114]⟩,⟨#[82,83,84,86]⟩,⟨#[]⟩,true⟩,
   ⟨⟨#[103,111]⟩,⟨#[84]⟩,⟨#[]⟩,false⟩,
   ⟨⟨#[105,102]⟩,⟨#[82,84,86]⟩,⟨#[82]⟩,false⟩,
   ⟨⟨#[108,105,110,107]⟩,⟨#[82]⟩,⟨#[82]⟩,false⟩,
   ⟨⟨#[119,97,116,99,104]⟩,⟨#[82]⟩,⟨#[82]⟩,false⟩,
   ⟨⟨#[116,114,97,112]⟩,⟨#[86]⟩,⟨#[]⟩,false⟩,
   ⟨⟨#[101,110,100]⟩,⟨#[82]⟩,⟨#[82]⟩,false⟩]
def howR (k:Int):S67:=if 1≤k∧k≤14 then mannersL.getD k.toNat z67 else z67
def howV.f (k _r _s _t _vk _vn:Int):Option (ByteArray×ByteArray×ByteArray×Bool):=some ((howR k).f0,(howR k).f1,(howR k).f2,(howR k).f3)
theorem kinds {P:Int→Prop} (h: ∀k:Int,¬(1≤k∧k≤14)→P k) (h1:P 1) (h2:P 2) (h3:P 3) (h4:P 4) (h5:P 5) (h6:P 6) (h7:P 7) (h8:P 8) (h9:P 9)
    (h10:P 10) (h11:P 11) (h12:P 12) (h13:P 13) (h14:P 14) (k:Int):P k:=by
  by_cases hk:1≤k∧k≤14
  · have:k=1∨k=2∨k=3∨k=4∨k=5∨k=6∨k=7∨k=8∨k=9∨k=10∨k=11∨k=12∨k=13∨k=14:=by omega
    rcases this with rfl|rfl|rfl|rfl|rfl|rfl|rfl|rfl|rfl|rfl|rfl|rfl|rfl|rfl<;>assumption
  · exact h k hk
theorem in_any (a b c:Int) (w:World):Calls Tryd.prog 55 #[.int .i64 a,.int .i64 b,.int .i64 c] w fun e w'=>e= .returned (.bool (decide (b≤a∧a≤c)))∧w=w':=by
  by_cases h1:b≤a<;>by_cases h2:a≤c<;>(go_enter Tryd.func55,Tryd.ntmps55;go_wp2;go_ret;exact⟨by simp[h1,h2],rfl⟩)
def cellsOf:List S67→List Value
  | []=> []
  |x::xs=>.string x.f0:: .string x.f1:: .string x.f2:: .bool x.f3::cellsOf xs
def IsManners (w w':World) (g:Nat):Prop:=Below w.heap.size w w'∧w.heap.size≤g∧ ∀i,w'.cell? ⟨g,i,none⟩=(cellsOf mannersL)[i]?
theorem manners_any (w:World):Calls Tryd.prog 65 #[] w fun e w'=> ∃g,e= .returned (.slice (some ⟨g,0,none⟩) 15 15)∧IsManners w w' g:=by
  go_enter Tryd.func65,Tryd.ntmps65
  go_wp2
  go_ret
  refine⟨_,rfl,(Below.refl _ _).alloc (Nat.le_refl _) _,Nat.le_refl _,fun i=> ?_⟩
  rw[World.cell?_alloc_new];show(cellsOf mannersL).toArray[i]?=_
  exact List.getElem?_toArray
theorem bcell {W w1:World} (hb:Below W.heap.size W w1):(∀b o,b<W.heap.size→w1.cell? ⟨b,o,none⟩=W.cell? ⟨b,o,none⟩)∧(∀b o,b<W.heap.size→w1.frozen? ⟨b,o,none⟩=W.frozen? ⟨b,o,none⟩):=
  ⟨fun b o h=>hb.cell (p:=⟨b,o,none⟩) h,fun b o h=>hb.frozen (p:=⟨b,o,none⟩) h⟩
theorem blk2 (w:World) (A B:Obj):((w.alloc A).alloc B).drew.heap[w.heap.size+1]?=some B:=by
  have:=blk_new (w.alloc A) B;rwa [World.size_alloc]at this
theorem end4 {w W w':World} {g t:Nat} {z0 z1 z2 z3:Value} (hW:Below w.heap.size w W) (hge:w.heap.size≤g) (h0:W.heap[g]?=some (.cells #[z0,z1,z2,z3] t (0,0))) (hb:Below W.heap.size W w') (a b c d:Value):
    Below w.heap.size w ((((w'.setCell ⟨g,0,none⟩ a).setCell ⟨g,1,none⟩ b).setCell ⟨g,2,none⟩ c).setCell ⟨g,3,none⟩ d)∧
    ((((w'.setCell ⟨g,0,none⟩ a).setCell ⟨g,1,none⟩ b).setCell ⟨g,2,none⟩ c).setCell ⟨g,3,none⟩ d).heap[g]?=some (.cells #[a,b,c,d] t (0,0)):=
  ⟨below_set (below_set (below_set (below_set (below_step hW hb) hge) hge) hge) hge,blk_set (blk_set (blk_set (blk_set (blk_below h0 hb) 0 a) 1 b) 2 c) 3 d⟩
theorem how_kind (k:Int) (r s t vk vn:Int) (x:S67) (w:World) (hk:1≤k∧k≤14) (hx:x=mannersL.getD k.toNat z67):
    Calls Tryd.prog 51 #[.agg #[.int .i64 k,.int .i64 r,.int .i64 s,.int .i64 t,.int .i64 vk,.int .i64 vn]] w fun e w'=>e= .returned (.agg #[.string x.f0,.string x.f1,.string x.f2,.bool x.f3])∧Below w.heap.size w w':=by
  have hm: ∀ (W:World) (g:Nat),(∀i,W.cell? ⟨g,i,none⟩=(cellsOf mannersL)[i]?)→W.cell? ⟨g,k.toNat*4,none⟩=some (.string x.f0)∧W.cell? ⟨g,k.toNat*4+1,none⟩=some (.string x.f1)∧W.cell? ⟨g,k.toNat*4+2,none⟩=some (.string x.f2)∧W.cell? ⟨g,k.toNat*4+3,none⟩=some (.bool x.f3):=by
    intro W g h;have:k=1∨k=2∨k=3∨k=4∨k=5∨k=6∨k=7∨k=8∨k=9∨k=10∨k=11∨k=12∨k=13∨k=14:=by omega
    rcases this with rfl|rfl|rfl|rfl|rfl|rfl|rfl|rfl|rfl|rfl|rfl|rfl|rfl|rfl<;>(subst hx;exact⟨h _,h _,h _,h _⟩)
  clear hx;obtain⟨hk1,hk2⟩:=hk;go_enter Tryd.func51,Tryd.ntmps51
  go_wp2_with (go_at_call 55;refine(in_any _ _ _ _).mono ?_;rintro e w' ⟨rfl,rfl⟩)
  go_region_with (go_at_call 65;refine(manners_any _).mono ?_;rintro e w' ⟨g,rfl,hb,hg,hc⟩;obtain⟨m0,m1,m2,m3⟩:=hm _ _ hc;obtain⟨b1,b2⟩:=bcell hb;clear hc;have hgs:=hb.size;have sz:=b1 w.heap.size)
  all_goals go_wp2
  all_goals
    obtain⟨E0,E1⟩:=end4 (w:=w) (g:=w.heap.size+1) (t:=67) (below_drew1 (below_alloc (below_alloc (Below.refl _ _) _) _)) (Nat.le_succ _) (blk2 _ _ _) hb (.string x.f0) (.string x.f1) (.string x.f2) (.bool x.f3);have q0:=blk_cell E1 0;have q1:=blk_cell E1 1;have q2:=blk_cell E1 2;have q3:=blk_cell E1 3;exact bodyPost_ret (v:=.agg #[.string x.f0,.string x.f1,.string x.f2,.bool x.f3]) (by simp[results,Tryd.results51,go_sem,q0,q1,q2,q3]) rfl ⟨rfl,E0⟩
theorem how_none (k:Int) (r s t vk vn:Int) (w:World) (hk:decide (1≤k∧k≤14)=false):
    Calls Tryd.prog 51 #[.agg #[.int .i64 k,.int .i64 r,.int .i64 s,.int .i64 t,.int .i64 vk,.int .i64 vn]] w fun e w'=>e= .returned (.agg #[.string ⟨#[]⟩,.string ⟨#[]⟩,.string ⟨#[]⟩,.bool false])∧Below w.heap.size w w':=by
  go_enter Tryd.func51,Tryd.ntmps51
  go_wp2_with (go_at_call 55;refine(in_any _ _ _ _).mono ?_;rintro e w' ⟨rfl,rfl⟩;rw[hk])
  exact bodyPost_ret (v:=.agg #[.string ⟨#[]⟩,.string ⟨#[]⟩,.string ⟨#[]⟩,.bool false]) (by simp[results,Tryd.results51,go_sem]) rfl ⟨rfl,by repeat(first|exact Below.refl _ _|apply below_alloc|apply below_drew1|refine below_set ?_ (Nat.le_succ _))⟩
theorem impl_Op_how.calls (k r s t vk vn:Int) (r1 r2 r3:ByteArray) (r4:Bool) (w:World) (h:howV.f k r s t vk vn=some (r1,r2,r3,r4)):
    Calls Tryd.prog 51 #[.agg #[.int .i64 k,.int .i64 r,.int .i64 s,.int .i64 t,.int .i64 vk,.int .i64 vn]] w fun e w'=>e= .returned (.agg #[.string r1,.string r2,.string r3,.bool r4])∧Below w.heap.size w w':=by
  unfold howV.f at h;have h:=Option.some.inj h;simp only[Prod.mk.injEq]at h
  obtain⟨rfl,rfl,rfl,rfl⟩:=h;by_cases hk:1≤k∧k≤14
  · have e:howR k=mannersL.getD k.toNat z67:=if_pos hk
    rw[e];exact how_kind k r s t vk vn _ w hk rfl
  · have e:howR k=z67:=if_neg hk
    rw[e];exact how_none k r s t vk vn w (decide_eq_false hk)
end Go.Proofs.YtmklpbmlgjkbiaaDoor.PS
end
section
namespace Go.Proofs.YtmklpbmlgjkbiaaDoor.PS
open Go.RowKit
theorem indexByte_any (s:ByteArray) (c:Int) (w:World):
    Calls Tryd.prog 110 #[.string s,.int .u8 c] w fun e w'=>e= .returned (.int .i64 (Lib.indexByte s.data.toList c.toNat.toUInt8))∧w=w':=by
  go_enter Tryd.func110,Tryd.ntmps110
  go_wp2
  rw[run_callFunc_extern Tryd.func119 (by kernel_rfl) (by kernel_rfl) (by kernel_rfl) (e:=Extern.BytealgIndexByte.indexByte) (by kernel_rfl),Lib.run_indexByteString]
  simp only[Result.andThen]
  rw[Oper.upon_value];go_wp2
  go_ret
  exact⟨rfl,rfl⟩
theorem index_one (s:ByteArray) (c:UInt8) (w:World):
    Calls Tryd.prog 98 #[.string s,.string ⟨#[c]⟩] w fun e w'=>e= .returned (.int .i64 (Lib.indexByte s.data.toList c))∧w=w':=by
  go_enter Tryd.func98,Tryd.ntmps98
  go_wp2_with (go_at_call 110;refine(indexByte_any _ _ _).mono ?_;rintro e w' ⟨rfl,rfl⟩)
  · have h:([c]==s.toList)=true:=by assumption
    go_ret
    refine⟨?_,rfl⟩
    have e:s.data.toList=[c]:=by rw[←Lib.toList_data];exact(beq_iff_eq.1 h).symm
    rw[e];simp[Lib.indexByte]
  · go_ret
    exact⟨rfl,rfl⟩
theorem sindex_one (s:ByteArray) (c:UInt8) (w:World):
    Calls Tryd.prog 83 #[.string s,.string ⟨#[c]⟩] w fun e w'=>e= .returned (.int .i64 (Lib.indexByte s.data.toList c))∧w=w':=by
  go_enter Tryd.func83,Tryd.ntmps83
  go_wp2_with (go_at_call 98;refine(index_one _ _ _).mono ?_;rintro e w' ⟨rfl,rfl⟩)
  go_ret
  exact⟨rfl,rfl⟩
theorem contains_one (s:ByteArray) (c:UInt8) (w:World):
    Calls Tryd.prog 73 #[.string s,.string ⟨#[c]⟩] w fun e w'=>e= .returned (.bool (decide (0≤Lib.indexByte s.data.toList c)))∧w=w':=by
  go_enter Tryd.func73,Tryd.ntmps73
  go_wp2_with (go_at_call 83;refine(sindex_one _ _ _).mono ?_;rintro e w' ⟨rfl,rfl⟩)
  go_ret
  exact⟨rfl,rfl⟩
end Go.Proofs.YtmklpbmlgjkbiaaDoor.PS
end
section
namespace Go.Proofs.YtmklpbmlgjkbiaaDoor.PS
open Go.RowKit Go.Proofs.YtmklpbmlgjkbiaaDoorW.PrintWords Go.Proofs.YtmklpbmlgjkbiaaDoorW.PrintLast
def hasC (k:Int) (c:UInt8):Bool:=decide (0≤Lib.indexByte (howR k).f1.data.toList c)
theorem hasC_R (k:Int):hasC k 82=hasR k:=by
  refine kinds (P:=fun k=>hasC k 82=hasR k) (fun k hk=> ?_) (by decide) (by decide) (by decide) (by decide) (by decide) (by decide) (by decide) (by decide) (by decide) (by decide) (by decide) (by decide) (by decide) (by decide) k
  unfold hasC howR;rw[if_neg hk];have:hasR k=false:=by unfold hasR;exact decide_eq_false (by omega)
  rw[this];decide
theorem hasC_S (k:Int):hasC k 83=hasS k:=by
  refine kinds (P:=fun k=>hasC k 83=hasS k) (fun k hk=> ?_) (by decide) (by decide) (by decide) (by decide) (by decide) (by decide) (by decide) (by decide) (by decide) (by decide) (by decide) (by decide) (by decide) (by decide) k
  unfold hasC howR;rw[if_neg hk];have:hasS k=false:=by unfold hasS;exact decide_eq_false (by omega)
  rw[this];decide
theorem hasC_T (k:Int):hasC k 84=hasT k:=by
  refine kinds (P:=fun k=>hasC k 84=hasT k) (fun k hk=> ?_) (by decide) (by decide) (by decide) (by decide) (by decide) (by decide) (by decide) (by decide) (by decide) (by decide) (by decide) (by decide) (by decide) (by decide) k
  unfold hasC howR;rw[if_neg hk];have:hasT k=false:=by unfold hasT;exact decide_eq_false (by omega)
  rw[this];decide
theorem hasC_V (k:Int):hasC k 86=hasV k:=by
  refine kinds (P:=fun k=>hasC k 86=hasV k) (fun k hk=> ?_) (by decide) (by decide) (by decide) (by decide) (by decide) (by decide) (by decide) (by decide) (by decide) (by decide) (by decide) (by decide) (by decide) (by decide) k
  unfold hasC howR;rw[if_neg hk];have:hasV k=false:=by unfold hasV;exact decide_eq_false (by omega)
  rw[this];decide
theorem has_any (k r s t vk vn:Int) (c:UInt8) (w:World):
    Calls Tryd.prog 52 #[.agg #[.int .i64 k,.int .i64 r,.int .i64 s,.int .i64 t,.int .i64 vk,.int .i64 vn],.string ⟨#[c]⟩] w fun e w'=>e= .returned (.bool (hasC k c))∧Below w.heap.size w w':=by
  have hw:=fun W:World=>impl_Op_how.calls k r s t vk vn (howR k).f0 (howR k).f1 (howR k).f2 (howR k).f3 W rfl
  obtain⟨x,hx⟩: ∃x,x=howR k:=⟨_,rfl⟩;unfold hasC;rw[←hx]at hw⊢
  clear hx;have hu66:=Tryd.underlying67;have hfd: ∀ (a b c d:Value) (W:World),Sem.run Tryd.prog (Instr.field 67 (.agg #[a,b,c,d]) 1) W= .ok b W:=fun _ _ _ _ _=>by kernel_rfl
  go_enter Tryd.func52,Tryd.ntmps52
  go_wp2_with (first|(go_at_call 51;refine(hw _).mono ?_;rintro e w' ⟨rfl,hb⟩)|(go_at_call 73;refine(contains_one _ _ _).mono ?_;rintro e w' ⟨rfl,rfl⟩))
  go_ret
  exact⟨rfl,below_step (below_alloc (Below.refl _ _) _) hb⟩
theorem eqA25 (d:Nat) (w:World) (x0 y0:Int) (x1 y1:Int):
    (Op.equalIn (d+2) 25 (.agg #[.int .i64 x0,.int .i64 x1]) (.agg #[.int .i64 y0,.int .i64 y1])).run Tryd.prog w= .ok (x0==y0&&(x1==y1)) w:=by
  refine eqA_of Tryd.underlying25 (by kernel_rfl) ?_
  refine eqf_cons (by rfl) (by go_simp;rfl) (by go_simp;rfl) (by go_simp) ?_
  exact eqf_last (by rfl) (by go_simp;rfl) (by go_simp;rfl) (by go_simp)
def fieldB (h:Bool) (n m:Int):Bool:=if h=true then decide (0≤n∧n≤m)else decide (n=0)
theorem field_any (B:Nat) (k r s t vk vn:Int) (c:UInt8) (n m:Int) (w:World) (hB:w.heap[B]?=some (.cells #[.int .i64 k,.int .i64 r,.int .i64 s,.int .i64 t,.int .i64 vk,.int .i64 vn] 35 (0,0))):
    Calls Tryd.prog 67 #[.string ⟨#[c]⟩,.int .i64 n,.int .i64 m,.pointer (some ⟨B,0,none⟩)] w fun e w'=>e= .returned (.bool (fieldB (hasC k c) n m))∧Below w.heap.size w w':=by
  have q0:=blk_cell hB 0;have q1:=blk_cell hB 1;have q2:=blk_cell hB 2;have q3:=blk_cell hB 3;have q4:=blk_cell hB 4;have q5:=blk_cell hB 5;simp at q0 q1 q2 q3 q4 q5
  clear hB;have hw:=fun W:World=>has_any k r s t vk vn c W
  obtain⟨h,hh⟩: ∃h,h=hasC k c:=⟨_,rfl⟩;rw[←hh]at hw⊢
  clear hh;unfold fieldB;cases h
  · go_enter Tryd.func67,Tryd.ntmps67
    go_wp2_with (first|(go_at_call 52;refine(hw _).mono ?_;rintro e w' ⟨rfl,hb⟩)|(go_at_call 55;refine(in_any _ _ _ _).mono ?_;rintro e w' ⟨rfl,rfl⟩))
    go_ret
    exact⟨by by_cases hn:n=0<;>simp[hn],hb⟩
  · go_enter Tryd.func67,Tryd.ntmps67
    go_wp2_with (first|(go_at_call 52;refine(hw _).mono ?_;rintro e w' ⟨rfl,hb⟩)|(go_at_call 55;refine(in_any _ _ _ _).mono ?_;rintro e w' ⟨rfl,rfl⟩))
    go_ret
    exact⟨by simp,hb⟩
theorem valok_any (a b:Int) (w:World):Calls Tryd.prog 27 #[.agg #[.int .i64 a,.int .i64 b]] w fun e w'=>e= .returned (.bool (okB a b))∧Below w.heap.size w w':=by
  by_cases h0:a=0
  · subst h0
    have e:okB 0 b=(b==0):=by
      unfold okB okP;by_cases hb:b=0<;>simp[hb]
    rw[e];go_enter Tryd.func27,Tryd.ntmps27
    go_wp2
    go_ret
    exact⟨by first|rfl|simp,below_alloc (Below.refl _ _) _⟩
  by_cases h1:a=1
  · subst h1
    have e:okB 1 b=decide (-99≤b∧b≤99):=by unfold okB okP;simp
    rw[e];go_enter Tryd.func27,Tryd.ntmps27
    go_wp2_with (go_at_call 55;refine(in_any _ _ _ _).mono ?_;rintro e w' ⟨rfl,rfl⟩)
    go_ret
    exact⟨by first|rfl|simp,below_alloc (Below.refl _ _) _⟩
  by_cases h2:a=2
  · subst h2
    have e:okB 2 b=decide (0≤b∧b≤9):=by unfold okB okP;simp
    rw[e];go_enter Tryd.func27,Tryd.ntmps27
    go_wp2_with (go_at_call 55;refine(in_any _ _ _ _).mono ?_;rintro e w' ⟨rfl,rfl⟩)
    go_ret
    exact⟨by first|rfl|simp,below_alloc (Below.refl _ _) _⟩
  by_cases h3:a=3
  · subst h3
    have e:okB 3 b=decide (1≤b∧b≤6):=by unfold okB okP;simp
    rw[e];go_enter Tryd.func27,Tryd.ntmps27
    go_wp2_with (go_at_call 55;refine(in_any _ _ _ _).mono ?_;rintro e w' ⟨rfl,rfl⟩)
    go_ret
    exact⟨by first|rfl|simp,below_alloc (Below.refl _ _) _⟩
  have e:okB a b=false:=by unfold okB okP;simp[h0,h1,h2,h3]
  rw[e];have b0:(a==0)=false:=by simpa using h0
  have b1:(a==1)=false:=by simpa using h1
  have b2:(a==2)=false:=by simpa using h2
  have b3:(a==3)=false:=by simpa using h3
  go_enter Tryd.func27,Tryd.ntmps27
  go_wp2
  go_ret
  exact⟨rfl,below_alloc (Below.refl _ _) _⟩
end Go.Proofs.YtmklpbmlgjkbiaaDoor.PS
end
section
namespace Go.Proofs
open Go.Shelf
def Tryd.laysM171_ren:Go.Shelf.Ren:=⟨fun|171=>44|243=>70|246=>82|283=>94|284=>95|285=>96|286=>97|129=>106|317=>105|318=>107|319=>108|320=>109|337=>117|338=>118|n=>n,fun|3=>3|9=>9|2=>2|4=>4|171=>115|0=>0|53=>116|37=>28|5=>5|173=>119|212=>133|51=>134|20=>20|213=>135|46=>123|232=>148|233=>149|n=>n,fun|17=>2|18=>6|19=>7|n=>n⟩
theorem Tryd.laysM171:Go.Proofs.LaysM.n171 Tryd.prog Tryd.laysM171_ren:= {
  mixed:=by kernel_rfl
  f129:=Tryd.func106.trans (congrArg some (by kernel_rfl))
  f171:=Tryd.func44.trans (congrArg some (by kernel_rfl))
  f243:=Tryd.func70.trans (congrArg some (by kernel_rfl))
  f246:=Tryd.func82.trans (congrArg some (by kernel_rfl))
  f283:=Tryd.func94.trans (congrArg some (by kernel_rfl))
  f284:=Tryd.func95.trans (congrArg some (by kernel_rfl))
  f285:=Tryd.func96.trans (congrArg some (by kernel_rfl))
  f286:=Tryd.func97.trans (congrArg some (by kernel_rfl))
  f317:=Tryd.func105.trans (congrArg some (by kernel_rfl))
  f318:=Tryd.func107.trans (congrArg some (by kernel_rfl))
  f319:=Tryd.func108.trans (congrArg some (by kernel_rfl))
  f320:=Tryd.func109.trans (congrArg some (by kernel_rfl))
  f337:=Tryd.func117.trans (congrArg some (by kernel_rfl))
  f338:=Tryd.func118.trans (congrArg some (by kernel_rfl))
  t0:=Tryd.underlying0
  a0:=Tryd.isAgg0
  z0:=Tryd.sizeOf0
  v0:=Tryd.zeroValue0
  t2:=Tryd.underlying2
  a2:=Tryd.isAgg2
  z2:=Tryd.sizeOf2
  v2:=Tryd.zeroValue2
  t3:=Tryd.underlying3
  a3:=Tryd.isAgg3
  z3:=Tryd.sizeOf3
  v3:=Tryd.zeroValue3
  t4:=Tryd.underlying4
  a4:=Tryd.isAgg4
  z4:=Tryd.sizeOf4
  v4:=Tryd.zeroValue4
  t5:=Tryd.underlying5
  a5:=Tryd.isAgg5
  z5:=Tryd.sizeOf5
  v5:=Tryd.zeroValue5
  t9:=Tryd.underlying9
  a9:=Tryd.isAgg9
  z9:=Tryd.sizeOf9
  v9:=Tryd.zeroValue9
  t20:=Tryd.underlying20
  a20:=Tryd.isAgg20
  z20:=Tryd.sizeOf20
  v20:=Tryd.zeroValue20
  t37:=Tryd.underlying28
  a37:=Tryd.isAgg28
  z37:=Tryd.sizeOf28
  v37:=Tryd.zeroValue28
  t46:=Tryd.underlying123
  a46:=Tryd.isAgg123
  z46:=Tryd.sizeOf123
  v46:=Tryd.zeroValue123
  t51:=Tryd.underlying134
  a51:=Tryd.isAgg134
  z51:=Tryd.sizeOf134
  v51:=Tryd.zeroValue134
  t53:=Tryd.underlying116
  a53:=Tryd.isAgg116
  z53:=Tryd.sizeOf116
  v53:=Tryd.zeroValue116
  t171:=Tryd.underlying115
  a171:=Tryd.isAgg115
  z171:=Tryd.sizeOf115
  v171:=Tryd.zeroValue115
  t173:=Tryd.underlying119
  a173:=Tryd.isAgg119
  z173:=Tryd.sizeOf119
  v173:=Tryd.zeroValue119
  t212:=Tryd.underlying133
  a212:=Tryd.isAgg133
  z212:=Tryd.sizeOf133
  v212:=Tryd.zeroValue133
  t213:=Tryd.underlying135
  a213:=Tryd.isAgg135
  z213:=Tryd.sizeOf135
  t232:=Tryd.underlying148
  a232:=Tryd.isAgg148
  z232:=Tryd.sizeOf148
  v232:=Tryd.zeroValue148
  t233:=Tryd.underlying149
  a233:=Tryd.isAgg149
  z233:=Tryd.sizeOf149
  v233:=Tryd.zeroValue149
  g17:=by kernel_rfl
  g18:=by kernel_rfl
  g19:=by kernel_rfl
  i0:=by kernel_rfl
  i2:=by kernel_rfl
  i3:=by kernel_rfl
  i4:=by kernel_rfl
  i5:=by kernel_rfl
  i9:=by kernel_rfl
  i20:=by kernel_rfl
  i37:=by kernel_rfl
  i46:=by kernel_rfl
  i51:=by kernel_rfl
  i53:=by kernel_rfl
  i171:=by kernel_rfl
  i173:=by kernel_rfl
  i212:=by kernel_rfl
  i232:=by kernel_rfl
  i233:=by kernel_rfl
  m17:=by kernel_rfl
  m18:=by kernel_rfl
  m19:=by kernel_rfl }
open Go.RowKit Go.Sort Go.Lib in
theorem Tryd.strconv_Itoa (n:Int) (h0: -9223372036854775808≤n) (h1:n≤9223372036854775807) (w:World) (htab:Lib.TabIs Tryd.prog w "internal/strconv.uint64pow10" .u64 Lib.pow10Tab):
    Calls Tryd.prog 44 #[.int .i64 n] w fun e w'=>e= .returned (.string ⟨(Lib.itoa n).toArray⟩)∧ ∃k os,w'=grow (w.drewN k) os:=Any.strconv_Itoa Tryd.laysM171 n h0 h1 w htab
def Tryd.laysC172_ren:Go.Shelf.Ren:=⟨fun|172=>54|244=>75|245=>76|247=>85|279=>86|280=>87|281=>88|282=>89|287=>99|316=>100|171=>44|205=>101|321=>114|322=>115|243=>70|246=>82|283=>94|284=>95|285=>96|286=>97|129=>106|317=>105|318=>107|319=>108|320=>109|337=>117|338=>118|n=>n,fun|9=>9|3=>3|75=>72|76=>73|4=>4|5=>5|167=>105|37=>28|0=>0|85=>106|2=>2|168=>108|53=>116|175=>121|46=>123|210=>126|127=>101|145=>140|143=>138|21=>21|171=>115|173=>119|212=>133|51=>134|20=>20|213=>135|232=>148|233=>149|80=>82|n=>n,fun|15=>0|16=>1|17=>2|18=>6|19=>7|n=>n⟩
theorem Tryd.laysC172:Go.Proofs.LaysC.n172 Tryd.prog Tryd.laysC172_ren:= {
  mixed:=by kernel_rfl
  f129:=Tryd.func106.trans (congrArg some (by kernel_rfl))
  f171:=Tryd.func44.trans (congrArg some (by kernel_rfl))
  f172:=Tryd.func54.trans (congrArg some (by kernel_rfl))
  f205:=Tryd.func101.trans (congrArg some (by kernel_rfl))
  f243:=Tryd.func70.trans (congrArg some (by kernel_rfl))
  f244:=Tryd.func75.trans (congrArg some (by kernel_rfl))
  f245:=Tryd.func76.trans (congrArg some (by kernel_rfl))
  f246:=Tryd.func82.trans (congrArg some (by kernel_rfl))
  f247:=Tryd.func85.trans (congrArg some (by kernel_rfl))
  f279:=Tryd.func86.trans (congrArg some (by kernel_rfl))
  f280:=Tryd.func87.trans (congrArg some (by kernel_rfl))
  f281:=Tryd.func88.trans (congrArg some (by kernel_rfl))
  f282:=Tryd.func89.trans (congrArg some (by kernel_rfl))
  f283:=Tryd.func94.trans (congrArg some (by kernel_rfl))
  f284:=Tryd.func95.trans (congrArg some (by kernel_rfl))
  f285:=Tryd.func96.trans (congrArg some (by kernel_rfl))
  f286:=Tryd.func97.trans (congrArg some (by kernel_rfl))
  f287:=Tryd.func99.trans (congrArg some (by kernel_rfl))
  f316:=Tryd.func100.trans (congrArg some (by kernel_rfl))
  f317:=Tryd.func105.trans (congrArg some (by kernel_rfl))
  f318:=Tryd.func107.trans (congrArg some (by kernel_rfl))
  f319:=Tryd.func108.trans (congrArg some (by kernel_rfl))
  f320:=Tryd.func109.trans (congrArg some (by kernel_rfl))
  f321:=Tryd.func114.trans (congrArg some (by kernel_rfl))
  f322:=Tryd.func115.trans (congrArg some (by kernel_rfl))
  f337:=Tryd.func117.trans (congrArg some (by kernel_rfl))
  f338:=Tryd.func118.trans (congrArg some (by kernel_rfl))
  t0:=Tryd.underlying0
  a0:=Tryd.isAgg0
  z0:=Tryd.sizeOf0
  v0:=Tryd.zeroValue0
  t2:=Tryd.underlying2
  a2:=Tryd.isAgg2
  z2:=Tryd.sizeOf2
  v2:=Tryd.zeroValue2
  t3:=Tryd.underlying3
  a3:=Tryd.isAgg3
  z3:=Tryd.sizeOf3
  v3:=Tryd.zeroValue3
  t4:=Tryd.underlying4
  a4:=Tryd.isAgg4
  z4:=Tryd.sizeOf4
  v4:=Tryd.zeroValue4
  t5:=Tryd.underlying5
  a5:=Tryd.isAgg5
  z5:=Tryd.sizeOf5
  v5:=Tryd.zeroValue5
  t9:=Tryd.underlying9
  a9:=Tryd.isAgg9
  z9:=Tryd.sizeOf9
  v9:=Tryd.zeroValue9
  t20:=Tryd.underlying20
  a20:=Tryd.isAgg20
  z20:=Tryd.sizeOf20
  v20:=Tryd.zeroValue20
  t21:=Tryd.underlying21
  a21:=Tryd.isAgg21
  z21:=Tryd.sizeOf21
  v21:=Tryd.zeroValue21
  t37:=Tryd.underlying28
  a37:=Tryd.isAgg28
  z37:=Tryd.sizeOf28
  v37:=Tryd.zeroValue28
  t46:=Tryd.underlying123
  a46:=Tryd.isAgg123
  z46:=Tryd.sizeOf123
  v46:=Tryd.zeroValue123
  t51:=Tryd.underlying134
  a51:=Tryd.isAgg134
  z51:=Tryd.sizeOf134
  v51:=Tryd.zeroValue134
  t53:=Tryd.underlying116
  a53:=Tryd.isAgg116
  z53:=Tryd.sizeOf116
  v53:=Tryd.zeroValue116
  t75:=Tryd.underlying72
  a75:=Tryd.isAgg72
  z75:=Tryd.sizeOf72
  v75:=Tryd.zeroValue72
  t76:=Tryd.underlying73
  a76:=Tryd.isAgg73
  z76:=Tryd.sizeOf73
  v76:=Tryd.zeroValue73
  t85:=Tryd.underlying106
  a85:=Tryd.isAgg106
  z85:=Tryd.sizeOf106
  v85:=Tryd.zeroValue106
  t127:=Tryd.underlying101
  a127:=Tryd.isAgg101
  z127:=Tryd.sizeOf101
  v127:=Tryd.zeroValue101
  t143:=Tryd.underlying138
  a143:=Tryd.isAgg138
  z143:=Tryd.sizeOf138
  v143:=Tryd.zeroValue138
  t145:=Tryd.underlying140
  a145:=Tryd.isAgg140
  z145:=Tryd.sizeOf140
  v145:=Tryd.zeroValue140
  t167:=Tryd.underlying105
  a167:=Tryd.isAgg105
  z167:=Tryd.sizeOf105
  v167:=Tryd.zeroValue105
  t168:=Tryd.underlying108
  a168:=Tryd.isAgg108
  z168:=Tryd.sizeOf108
  v168:=Tryd.zeroValue108
  t171:=Tryd.underlying115
  a171:=Tryd.isAgg115
  z171:=Tryd.sizeOf115
  v171:=Tryd.zeroValue115
  t173:=Tryd.underlying119
  a173:=Tryd.isAgg119
  z173:=Tryd.sizeOf119
  v173:=Tryd.zeroValue119
  t175:=Tryd.underlying121
  a175:=Tryd.isAgg121
  z175:=Tryd.sizeOf121
  v175:=Tryd.zeroValue121
  t210:=Tryd.underlying126
  a210:=Tryd.isAgg126
  z210:=Tryd.sizeOf126
  v210:=Tryd.zeroValue126
  t212:=Tryd.underlying133
  a212:=Tryd.isAgg133
  z212:=Tryd.sizeOf133
  v212:=Tryd.zeroValue133
  t213:=Tryd.underlying135
  a213:=Tryd.isAgg135
  z213:=Tryd.sizeOf135
  t232:=Tryd.underlying148
  a232:=Tryd.isAgg148
  z232:=Tryd.sizeOf148
  v232:=Tryd.zeroValue148
  t233:=Tryd.underlying149
  a233:=Tryd.isAgg149
  z233:=Tryd.sizeOf149
  v233:=Tryd.zeroValue149
  g15:=by kernel_rfl
  g16:=by kernel_rfl
  g17:=by kernel_rfl
  g18:=by kernel_rfl
  g19:=by kernel_rfl
  t80:=Tryd.underlying82
  a80:=Tryd.isAgg82
  z80:=Tryd.sizeOf82
  v80:=Tryd.zeroValue82
  i0:=by kernel_rfl
  i2:=by kernel_rfl
  i3:=by kernel_rfl
  i4:=by kernel_rfl
  i5:=by kernel_rfl
  i9:=by kernel_rfl
  i20:=by kernel_rfl
  i21:=by kernel_rfl
  i37:=by kernel_rfl
  i46:=by kernel_rfl
  i51:=by kernel_rfl
  i53:=by kernel_rfl
  i75:=by kernel_rfl
  i76:=by kernel_rfl
  i80:=by kernel_rfl
  i85:=by kernel_rfl
  i127:=by kernel_rfl
  i143:=by kernel_rfl
  i145:=by kernel_rfl
  i167:=by kernel_rfl
  i168:=by kernel_rfl
  i171:=by kernel_rfl
  i173:=by kernel_rfl
  i175:=by kernel_rfl
  i210:=by kernel_rfl
  i212:=by kernel_rfl
  i232:=by kernel_rfl
  i233:=by kernel_rfl
  m15:=by kernel_rfl
  m16:=by kernel_rfl
  m17:=by kernel_rfl
  m18:=by kernel_rfl
  m19:=by kernel_rfl
  c0:=by kernel_rfl
  c2:=by kernel_rfl
  c3:=by kernel_rfl
  c4:=by kernel_rfl
  c5:=by kernel_rfl
  c9:=by kernel_rfl
  c20:=by kernel_rfl
  c21:=by kernel_rfl
  c37:=by kernel_rfl
  c46:=by kernel_rfl
  c51:=by kernel_rfl
  c53:=by kernel_rfl
  c75:=by kernel_rfl
  c76:=by kernel_rfl
  c80:=by kernel_rfl
  c85:=by kernel_rfl
  c127:=by kernel_rfl
  c143:=by kernel_rfl
  c145:=by kernel_rfl
  c167:=by kernel_rfl
  c168:=by kernel_rfl
  c171:=by kernel_rfl
  c173:=by kernel_rfl
  c175:=by kernel_rfl
  c210:=by kernel_rfl
  c212:=by kernel_rfl
  c213:=by kernel_rfl
  c232:=by kernel_rfl
  c233:=by kernel_rfl }
open Go.RowKit in
theorem Tryd.strconv_Atoi_ok (s:ByteArray) (hmax:s.size≤9223372036854775806) (v:Int) (h:Lib.atoiAll s.data.toList= .ok v) (w:World):
    Calls Tryd.prog 54 #[.string s] w fun e w'=>e= .returned (.tuple #[.int .i64 v,.nilIface])∧(w'=w∨ ∃t,w'=Lib.bytesWorld w 5 t):=Any.strconv_Atoi_ok Tryd.laysC172 s hmax v h w
open Go.RowKit in
theorem Tryd.strconv_Atoi_range (s:ByteArray) (hlim:s.size≤281474976710656) (h:Lib.atoiAll s.data.toList= .range) (ev:Value) (w:World) (hv:w.cell? ⟨1,0,none⟩=some ev) (hev:ev= .nilIface∨ ∃te pe,ev= .iface te pe):
    Calls Tryd.prog 54 #[.string s] w fun e w'=> ∃N,e= .returned (.tuple #[.int .i64 (Lib.atoiSat s.data.toList),.iface 108 (.pointer (some ⟨N,0,none⟩))])∧w.heap.size≤N∧w'.heap[N]?=some (.cells #[.string ⟨#[65,116,111,105]⟩,.string s,ev] 126 (0,0))∧Below w.heap.size w w':=Any.strconv_Atoi_range Tryd.laysC172 s hlim h ev w hv hev
def Tryd.lays146_ren:Go.Shelf.Ren:=⟨fun|146=>63|221=>81|268=>92|138=>93|143=>83|195=>102|197=>103|218=>104|219=>98|260=>116|217=>110|225=>111|224=>112|267=>113|266=>119|314=>120|n=>n,fun|9=>9|31=>57|3=>3|4=>4|0=>0|105=>129|21=>21|5=>5|46=>123|119=>144|139=>147|138=>146|146=>142|51=>134|n=>n,fun|1=>3|3=>4|4=>5|n=>n⟩
theorem Tryd.lays146:Go.Proofs.Lays.n146 Tryd.prog Tryd.lays146_ren:= {
  mixed:=by kernel_rfl
  f138:=Tryd.func93.trans (congrArg some (by kernel_rfl))
  f143:=Tryd.func83.trans (congrArg some (by kernel_rfl))
  f146:=Tryd.func63.trans (congrArg some (by kernel_rfl))
  f195:=Tryd.func102.trans (congrArg some (by kernel_rfl))
  f197:=Tryd.func103.trans (congrArg some (by kernel_rfl))
  f217:=Tryd.func110.trans (congrArg some (by kernel_rfl))
  f218:=Tryd.func104.trans (congrArg some (by kernel_rfl))
  f219:=Tryd.func98.trans (congrArg some (by kernel_rfl))
  f221:=Tryd.func81.trans (congrArg some (by kernel_rfl))
  f224:=Tryd.func112.trans (congrArg some (by kernel_rfl))
  f225:=Tryd.func111.trans (congrArg some (by kernel_rfl))
  f260:=Tryd.func116.trans (congrArg some (by kernel_rfl))
  f266:=Tryd.func119.trans (congrArg some (by kernel_rfl))
  f267:=Tryd.func113.trans (congrArg some (by kernel_rfl))
  f268:=Tryd.func92.trans (congrArg some (by kernel_rfl))
  f314:=Tryd.func120.trans (congrArg some (by kernel_rfl))
  t0:=Tryd.underlying0
  a0:=Tryd.isAgg0
  z0:=Tryd.sizeOf0
  v0:=Tryd.zeroValue0
  t3:=Tryd.underlying3
  a3:=Tryd.isAgg3
  z3:=Tryd.sizeOf3
  v3:=Tryd.zeroValue3
  t4:=Tryd.underlying4
  a4:=Tryd.isAgg4
  z4:=Tryd.sizeOf4
  v4:=Tryd.zeroValue4
  t5:=Tryd.underlying5
  a5:=Tryd.isAgg5
  z5:=Tryd.sizeOf5
  v5:=Tryd.zeroValue5
  t9:=Tryd.underlying9
  a9:=Tryd.isAgg9
  z9:=Tryd.sizeOf9
  v9:=Tryd.zeroValue9
  t21:=Tryd.underlying21
  a21:=Tryd.isAgg21
  z21:=Tryd.sizeOf21
  v21:=Tryd.zeroValue21
  t31:=Tryd.underlying57
  a31:=Tryd.isAgg57
  z31:=Tryd.sizeOf57
  v31:=Tryd.zeroValue57
  t46:=Tryd.underlying123
  a46:=Tryd.isAgg123
  z46:=Tryd.sizeOf123
  v46:=Tryd.zeroValue123
  t51:=Tryd.underlying134
  a51:=Tryd.isAgg134
  z51:=Tryd.sizeOf134
  v51:=Tryd.zeroValue134
  t105:=Tryd.underlying129
  a105:=Tryd.isAgg129
  z105:=Tryd.sizeOf129
  v105:=Tryd.zeroValue129
  t119:=Tryd.underlying144
  a119:=Tryd.isAgg144
  z119:=Tryd.sizeOf144
  t138:=Tryd.underlying146
  a138:=Tryd.isAgg146
  z138:=Tryd.sizeOf146
  v138:=Tryd.zeroValue146
  t139:=Tryd.underlying147
  a139:=Tryd.isAgg147
  z139:=Tryd.sizeOf147
  v139:=Tryd.zeroValue147
  t146:=Tryd.underlying142
  a146:=Tryd.isAgg142
  z146:=Tryd.sizeOf142
  v146:=Tryd.zeroValue142
  g1:=by kernel_rfl
  g3:=by kernel_rfl
  g4:=by kernel_rfl }
open Go.RowKit Go.Lib in
theorem Tryd.strings_Split (s sep:ByteArray) (m:Int) (w:World) (hs:s.size<4294967281) (hm:w.cell? ⟨3,0,none⟩=some (.int .i64 m)) (h1:1≤sep.size):
    Calls Tryd.prog 63 #[.string s,.string sep] w fun e w'=>
      e= .returned (.slice (some ⟨w.heap.size,0,none⟩) (Lib.countB s sep+1) (Lib.countB s sep+1))∧w'=w.alloc (.cells ((Lib.splitB sep 0 (Lib.countB s sep) s).map Value.string).toArray 9):=Any.strings_Split Tryd.lays146 (by kernel_rfl) s sep m w hs hm h1
end Go.Proofs
end
section
namespace Go.Proofs.YtmklpbmlgjkbiaaDoor.PS
open Go.RowKit Go.Proofs.YtmklpbmlgjkbiaaDoorW.PrintWords Go.Proofs.YtmklpbmlgjkbiaaDoorW.PrintLast
def dec2 (n:Nat):List UInt8:=if n<10 then [UInt8.ofNat (48+n)]else [UInt8.ofNat (48+n/10),UInt8.ofNat (48+n%10)]
def itoaS (n:Int):List UInt8:=if n<0 then 45::dec2 n.natAbs else dec2 n.toNat
theorem decDigits_2 (n:Nat) (h:n<100):Lib.decDigits n=dec2 n:=by
  unfold dec2;by_cases h1:n<10
  · rw[if_pos h1,Lib.decDigits];simp[h1]
  · rw[if_neg h1,Lib.decDigits];simp[h1]
    rw[Lib.decDigits];simp[show n/10<10 by omega]
theorem itoa_S (n:Int) (h0: -100<n) (h1:n<100):Lib.itoa n=itoaS n:=by
  unfold Lib.itoa itoaS;split<;>rw[decDigits_2 _ (by omega)]
def letterB (k:Int):UInt8:=if k=1 then 110 else if k=2 then 97 else 114
def vtext (k n:Int):ByteArray:=if okB k n=true then(if k=0 then⟨#[110,111,110,101]⟩else⟨(letterB k::itoaS n).toArray⟩)else⟨#[]⟩
def Tab (w:World):Prop:=Lib.TabIs Tryd.prog w "internal/strconv.uint64pow10" .u64 Lib.pow10Tab∧8≤w.heap.size
theorem Tab.below {w w':World} (h:Tab w) (hb:Below w.heap.size w w'):Tab w':=
  ⟨var?_below hb (show Tryd.prog.globalNamed "internal/strconv.uint64pow10" =some 2 by kernel_rfl) (by have:=h.2;omega) h.1,Nat.le_trans h.2 hb.size⟩
theorem itoa_call (n:Int) (w:World) (h0: -100<n) (h1:n<100) (hT:Tab w):
    Calls Tryd.prog 44 #[.int .i64 n] w fun e w'=>e= .returned (.string ⟨(itoaS n).toArray⟩)∧Below w.heap.size w w':=by
  refine(Tryd.strconv_Itoa n (by omega) (by omega) w hT.1).mono ?_
  rintro e w' ⟨rfl,k,os,rfl⟩
  exact⟨by rw[itoa_S n h0 h1],Lib.below_grow _ _ (Nat.le_refl _) _ _⟩
theorem vtext_bad {k n:Int} (h:okB k n=false):vtext k n=⟨#[]⟩:=by unfold vtext;simp[h]
theorem impl_ValText_any (k n:Int) (w:World) (hT:Tab w):
    Calls Tryd.prog 19 #[.agg #[.int .i64 k,.int .i64 n]] w fun e w'=>e= .returned (.string (vtext k n))∧Below w.heap.size w w':=by
  obtain⟨g,hg⟩: ∃g,g=okB k n:=⟨_,rfl⟩;have hv:=valok_any k n;have hA:Aside0 (∀W,Calls Tryd.prog 27 #[.agg #[.int .i64 k,.int .i64 n]] W fun e w'=>e= .returned (.bool g)∧Below W.heap.size W w'):=⟨by rw[hg];exact hv⟩
  have HG:=Aside0.mk hg;clear hv hg;have HT:=Aside0.mk hT;clear hT;cases g with
  |false=>
    rw[vtext_bad HG.out.symm];go_enter Tryd.func19,Tryd.ntmps19
    go_wp2_with (go_at_call 27;refine(hA.out _).mono ?_;rintro e w' ⟨rfl,hb⟩)
    go_ret
    exact⟨rfl,below_step (below_alloc (Below.refl _ _) _) hb⟩
  |true=>
    have hok:=okB_true.1 HG.out.symm;by_cases h0:k=0
    · subst h0
      have e0:Aside0 (vtext 0 n=⟨#[110,111,110,101]⟩):=⟨by unfold vtext;rw[←HG.out];rfl⟩
      rw[e0.out];clear hok;go_enter Tryd.func19,Tryd.ntmps19
      go_wp2_with (go_at_call 27;refine(hA.out _).mono ?_;rintro e w' ⟨rfl,hb⟩;have hc:=hb.cell (p:=⟨w.heap.size,0,none⟩) (by simp))
      go_ret
      exact⟨rfl,below_step (below_alloc (Below.refl _ _) _) hb⟩
    · have hn: -100<n∧n<100:=by unfold okP at hok;omega
      obtain⟨hn0,hn1⟩:=hn;have hb': ∀ {W W':World},Below W.heap.size W W'→ ∀b o,b<W.heap.size→W'.cell? ⟨b,o,none⟩=W.cell? ⟨b,o,none⟩:=fun hb b o h=>hb.cell (p:=⟨b,o,none⟩) h
      have HB0:=Aside0.mk (below_alloc (Below.refl w.heap.size w) (.cells #[.int .i64 k,.int .i64 n] 25));have hk:k=1∨k=2∨k=3:=by unfold okP at hok;omega
      have e1:Aside0 (vtext k n=⟨#[letterB k]⟩++⟨(itoaS n).toArray⟩):=⟨by unfold vtext;rw[←HG.out];simp[h0];rfl⟩
      rw[e1.out]
      have HI:Aside0 (∀W,Below w.heap.size w W→Calls Tryd.prog 44 #[.int .i64 n] W fun e w'=>e= .returned (.string ⟨(itoaS n).toArray⟩)∧Below W.heap.size W w'):=
        ⟨fun W hW=>itoa_call n W hn0 hn1 (HT.out.below hW)⟩
      obtain⟨X,hX⟩: ∃X,X=itoaS n:=⟨_,rfl⟩;have hXs:X.length≤3:=by rw[hX];unfold itoaS dec2;split<;>split<;>simp
      rw[←hX]at HI⊢
      clear hX hok HG e1;have hw0:IntKind.i64.wrap 0=0:=by kernel_rfl
      have hw1:IntKind.i64.wrap 1=1:=by kernel_rfl
      have hw2:IntKind.i64.wrap 2=2:=by kernel_rfl
      have hs1: ∀W,Sem.run Tryd.prog (Instr.slice 9 (.string ⟨#[110,97,114]⟩) (some (.int .i64 0)) (some (.int .i64 1)) none) W= .ok (.string ⟨#[110]⟩) W:=fun _=>by kernel_rfl
      have hs2: ∀W,Sem.run Tryd.prog (Instr.slice 9 (.string ⟨#[110,97,114]⟩) (some (.int .i64 1)) (some (.int .i64 2)) none) W= .ok (.string ⟨#[97]⟩) W:=fun _=>by kernel_rfl
      have hs3: ∀W,Sem.run Tryd.prog (Instr.slice 9 (.string ⟨#[110,97,114]⟩) (some (.int .i64 2)) (some (.int .i64 3)) none) W= .ok (.string ⟨#[114]⟩) W:=fun _=>by kernel_rfl
      have x1:decide (1+X.length≤9223372036854775807)=true:=decide_eq_true (by omega)
      have x2:(9223372036854775807<1+X.length)=False:=eq_false (by omega)
      have x3:(1+X.length≤9223372036854775807)=True:=eq_true (by omega)
      rcases hk with rfl|rfl|rfl
      all_goals
        go_enter Tryd.func19,Tryd.ntmps19
        go_wp2_with (go_at_call 27;refine(hA.out _).mono ?_;rintro e w1 ⟨rfl,hb⟩;have hc0:=hb.cell (p:=⟨w.heap.size,0,none⟩) (by simp);have hc1:=hb.cell (p:=⟨w.heap.size,1,none⟩) (by simp);have HB1:=Aside0.mk (below_step HB0.out hb);have hsz:w.heap.size<w1.heap.size:=(by have:=hb.size;rw[World.size_alloc]at this;exact this);clear hb)
        go_region_held3 (fun w'=>w'.cell? ⟨w.heap.size,0,none⟩=w1.cell? ⟨w.heap.size,0,none⟩∧w'.cell? ⟨w.heap.size,1,none⟩=w1.cell? ⟨w.heap.size,1,none⟩) (go_keep) ((go_at_call 44;refine(HI.out _ (below_drew1 HB1.out)).mono ?_;rintro e w2 ⟨rfl,hb⟩;have q0:=hb.cell (p:=⟨w.heap.size,0,none⟩) hsz;have q1:=hb.cell (p:=⟨w.heap.size,1,none⟩) hsz;have HB2:=Aside0.mk (below_step (below_drew1 HB1.out) hb);clear hb))
        go_wp2
        go_ret
        exact⟨rfl,HB2.out⟩
def Hold (w W:World) (g:Nat) (o:Obj):Prop:=Below w.heap.size w W∧W.heap[g]?=some o
theorem Hold.new {w W:World} (h:Below w.heap.size w W) (o:Obj):Hold w (W.alloc o) W.heap.size o:=⟨below_alloc h o,blk_new W o⟩
theorem Hold.step {w W W':World} {g:Nat} {o:Obj} (h:Hold w W g o) (hb:Below W.heap.size W W'):Hold w W' g o:=⟨below_step h.1 hb,blk_below h.2 hb⟩
theorem Hold.alloc {w W:World} {g:Nat} {o:Obj} (h:Hold w W g o) (o':Obj):Hold w (W.alloc o') g o:=⟨below_alloc h.1 o',blk_alloc h.2 o'⟩
theorem Hold.drew {w W:World} {g:Nat} {o:Obj} (h:Hold w W g o):Hold w W.drew g o:=⟨below_drew1 h.1,h.2⟩
theorem Hold.drewN {w W:World} {g:Nat} {o:Obj} (h:Hold w W g o) (n:Nat):Hold w (W.drewN n) g o:=⟨pw_below_drewN h.1 n,h.2⟩
theorem Hold.below {w W:World} {g:Nat} {o:Obj} (h:Hold w W g o):Below w.heap.size w W:=h.1
theorem Hold.blk {w W:World} {g:Nat} {o:Obj} (h:Hold w W g o):W.heap[g]?=some o:=h.2
theorem Hold.lt {w W:World} {g:Nat} {o:Obj} (h:Hold w W g o):g<W.heap.size:=blk_lt h.2
theorem box2 {W:World} {g:Nat} {a b:Value} {t:TypeId} (h:W.heap[g]?=some (.cells #[a,b] t (0,0))):W.cell? ⟨g,0,none⟩=some a∧W.cell? ⟨g,1,none⟩=some b:=
  ⟨(blk_cell h 0).trans rfl,(blk_cell h 1).trans rfl⟩
theorem free2 {W:World} {g:Nat} {a b:Value} {t:TypeId} (h:W.heap[g]?=some (.cells #[a,b] t (0,0))):W.frozen? ⟨g,0,none⟩=false∧W.frozen? ⟨g,1,none⟩=false:=⟨blk_frozen h 0,blk_frozen h 1⟩
theorem box6 {W:World} {g:Nat} {a b c d e f:Value} {t:TypeId} (h:W.heap[g]?=some (.cells #[a,b,c,d,e,f] t (0,0))):
    W.cell? ⟨g,0,none⟩=some a∧W.cell? ⟨g,1,none⟩=some b∧W.cell? ⟨g,2,none⟩=some c∧W.cell? ⟨g,3,none⟩=some d∧W.cell? ⟨g,4,none⟩=some e∧W.cell? ⟨g,5,none⟩=some f:=
  ⟨(blk_cell h 0).trans rfl,(blk_cell h 1).trans rfl,(blk_cell h 2).trans rfl,(blk_cell h 3).trans rfl,(blk_cell h 4).trans rfl,(blk_cell h 5).trans rfl⟩
def Hold2 (w W:World) (g:Nat) (o:Obj) (g':Nat) (o':Obj):Prop:=Hold w W g o∧W.heap[g']?=some o'
theorem Hold2.step {w W W':World} {g g':Nat} {o o':Obj} (h:Hold2 w W g o g' o') (hb:Below W.heap.size W W'):Hold2 w W' g o g' o':=⟨h.1.step hb,blk_below h.2 hb⟩
theorem Hold2.alloc {w W:World} {g g':Nat} {o o':Obj} (h:Hold2 w W g o g' o') (q:Obj):Hold2 w (W.alloc q) g o g' o':=⟨h.1.alloc q,blk_alloc h.2 q⟩
theorem Hold2.drew {w W:World} {g g':Nat} {o o':Obj} (h:Hold2 w W g o g' o'):Hold2 w W.drew g o g' o':=⟨h.1.drew,h.2⟩
theorem Hold2.new {w W:World} {g:Nat} {o:Obj} (h:Hold w W g o) (q:Obj):Hold2 w (W.alloc q) g o W.heap.size q:=⟨h.alloc q,blk_new W q⟩
theorem Hold2.below {w W:World} {g g':Nat} {o o':Obj} (h:Hold2 w W g o g' o'):Below w.heap.size w W:=h.1.1
theorem Hold2.blk {w W:World} {g g':Nat} {o o':Obj} (h:Hold2 w W g o g' o'):W.heap[g]?=some o:=h.1.2
theorem Hold2.blk2 {w W:World} {g g':Nat} {o o':Obj} (h:Hold2 w W g o g' o'):W.heap[g']?=some o':=h.2
end Go.Proofs.YtmklpbmlgjkbiaaDoor.PS
end
section
namespace Go.Proofs.YtmklpbmlgjkbiaaDoor.PS
open Go.RowKit Go.Proofs.YtmklpbmlgjkbiaaDoorW.PrintWords Go.Proofs.YtmklpbmlgjkbiaaDoorW.PrintLast
attribute [local go_sem high] eqA25
theorem ends_bool {w w':World} {a b:Bool} (h:Aside0 (b=a)) (hb:Below w.heap.size w w'):Ending.returned (Value.bool a)= .returned (.bool b)∧Below w.heap.size w w':=⟨by rw[h.out],hb⟩
def valB (k vk vn:Int):Bool:=decide (valP k vk vn)
theorem valB_8 (vk vn:Int):valB 8 vk vn=(okB vk vn&&((vk==1)&&decide (1≤vn))):=by
  unfold valB valP okB;by_cases a:vk=1<;>by_cases b:1≤vn<;>by_cases c:okP vk vn<;>simp[a,b,c]
theorem valB_13 (vk vn:Int):valB 13 vk vn=((vk==1)&&decide (0≤vn∧vn≤1)):=by
  unfold valB valP okP;by_cases a:vk=1<;>by_cases b:0≤vn∧vn≤1<;>simp[a,b]<;>omega
theorem valB_other (k vk vn:Int) (h8:k≠8) (h13:k≠13):valB k vk vn=okB vk vn:=by
  unfold valB valP okB;simp[h8,h13]
theorem valOp_any (k r s t vk vn:Int) (w:World):
    Calls Tryd.prog 68 #[.agg #[.int .i64 k,.int .i64 r,.int .i64 s,.int .i64 t,.int .i64 vk,.int .i64 vn]] w fun e w'=>e= .returned (.bool (valB k vk vn))∧Below w.heap.size w w':=by
  by_cases h8:k=8
  · subst h8
    have hw:=fun W:World=>valok_any vk vn W
    obtain⟨g,hg⟩: ∃g,g=valB 8 vk vn:=⟨_,rfl⟩;obtain⟨h,hh⟩: ∃h,h=okB vk vn:=⟨_,rfl⟩;have HH:=Aside0.mk (hg.trans (valB_8 vk vn));rw[←hg];rw[←hh]at hw HH
    clear hg hh;by_cases h1:vk=1
    · subst h1
      simp only[beq_self_eq_true,Bool.true_and]at HH
      cases h
      · go_enter Tryd.func68,Tryd.ntmps68
        go_wp2_with (go_at_call 27;refine(hw _).mono ?_;rintro e w' ⟨rfl,hb⟩;obtain⟨b1,b2⟩:=bcell hb)
        go_ret
        exact ends_bool HH (below_step (below_alloc (Below.refl _ _) _) hb)
      · go_enter Tryd.func68,Tryd.ntmps68
        go_wp2_with (go_at_call 27;refine(hw _).mono ?_;rintro e w' ⟨rfl,hb⟩;obtain⟨b1,b2⟩:=bcell hb)
        go_ret
        exact ends_bool HH (below_step (below_alloc (Below.refl _ _) _) hb)
    · have c1:(vk==1)=false:=by simpa using h1
      rw[c1,Bool.false_and,Bool.and_false]at HH
      cases h
      · go_enter Tryd.func68,Tryd.ntmps68
        go_wp2_with (go_at_call 27;refine(hw _).mono ?_;rintro e w' ⟨rfl,hb⟩;obtain⟨b1,b2⟩:=bcell hb)
        go_ret
        exact ends_bool HH (below_step (below_alloc (Below.refl _ _) _) hb)
      · go_enter Tryd.func68,Tryd.ntmps68
        go_wp2_with (go_at_call 27;refine(hw _).mono ?_;rintro e w' ⟨rfl,hb⟩;obtain⟨b1,b2⟩:=bcell hb)
        go_ret
        exact ends_bool HH (below_step (below_alloc (Below.refl _ _) _) hb)
  by_cases h13:k=13
  · subst h13
    obtain⟨g,hg⟩: ∃g,g=valB 13 vk vn:=⟨_,rfl⟩;have HH:=Aside0.mk (hg.trans (valB_13 vk vn));rw[←hg];clear hg;by_cases h1:vk=1
    · subst h1
      simp only[beq_self_eq_true,Bool.true_and]at HH
      have hw:=fun W:World=>in_any vn 0 1 W
      obtain⟨h,hh⟩: ∃h,h=decide (0≤vn∧vn≤1):=⟨_,rfl⟩;rw[←hh]at hw HH
      clear hh;go_enter Tryd.func68,Tryd.ntmps68
      go_wp2_with (go_at_call 55;refine(hw _).mono ?_;rintro e w' ⟨rfl,rfl⟩)
      go_ret
      exact ends_bool HH (below_alloc (Below.refl _ _) _)
    · have c1:(vk==1)=false:=by simpa using h1
      rw[c1,Bool.false_and]at HH
      go_enter Tryd.func68,Tryd.ntmps68
      go_wp2
      go_ret
      exact ends_bool HH (below_alloc (Below.refl _ _) _)
  have HH:=Aside0.mk (valB_other k vk vn h8 h13);have c8:(k==8)=false:=by simpa using h8
  have c13:(k==13)=false:=by simpa using h13
  have hw:=fun W:World=>valok_any vk vn W
  obtain⟨g,hg⟩: ∃g,g=valB k vk vn:=⟨_,rfl⟩;obtain⟨h,hh⟩: ∃h,h=okB vk vn:=⟨_,rfl⟩;rw[←hg];rw[←hg,←hh]at HH
  rw[←hh]at hw
  clear hg hh;go_enter Tryd.func68,Tryd.ntmps68
  go_wp2_with (go_at_call 27;refine(hw _).mono ?_;rintro e w' ⟨rfl,hb⟩;obtain⟨b1,b2⟩:=bcell hb)
  go_ret
  exact ends_bool HH (below_step (below_alloc (Below.refl _ _) _) hb)
theorem implOp_walk (k r s t vk vn:Int) (w:World) (g hv vb:Bool) (F:UInt8→Int→Int→Bool) (x:S67)
    (hHow: ∀W,Calls Tryd.prog 51 #[.agg #[.int .i64 k,.int .i64 r,.int .i64 s,.int .i64 t,.int .i64 vk,.int .i64 vn]] W fun e w'=>e= .returned (.agg #[.string x.f0,.string x.f1,.string x.f2,.bool x.f3])∧Below W.heap.size W w')
    (hHas: ∀W,Calls Tryd.prog 52 #[.agg #[.int .i64 k,.int .i64 r,.int .i64 s,.int .i64 t,.int .i64 vk,.int .i64 vn],.string ⟨#[86]⟩] W fun e w'=>e= .returned (.bool hv)∧Below W.heap.size W w')
    (hVal: ∀W,Calls Tryd.prog 68 #[.agg #[.int .i64 k,.int .i64 r,.int .i64 s,.int .i64 t,.int .i64 vk,.int .i64 vn]] W fun e w'=>e= .returned (.bool vb)∧Below W.heap.size W w')
    (hF: ∀ (c:UInt8) (n m:Int) (W:World) (hB:W.heap[w.heap.size]?=some (.cells #[.int .i64 k,.int .i64 r,.int .i64 s,.int .i64 t,.int .i64 vk,.int .i64 vn] 35 (0,0))),
      Calls Tryd.prog 67 #[.string ⟨#[c]⟩,.int .i64 n,.int .i64 m,.pointer (some ⟨w.heap.size,0,none⟩)] W fun e w'=>e= .returned (.bool (F c n m))∧Below W.heap.size W w')
    (hg:Aside0 (g=(!x.f0.toList.isEmpty&&(F 82 r 3&&(F 83 s 3&&(F 84 t 15&&if hv=true then vb else(vk==0&&(vn==0)))))))):
    Calls Tryd.prog 38 #[.agg #[.int .i64 k,.int .i64 r,.int .i64 s,.int .i64 t,.int .i64 vk,.int .i64 vn]] w fun e w'=>e= .returned (.bool g)∧Below w.heap.size w w':=by
  have BK:Aside0 ((w.alloc (.cells #[.int .i64 k,.int .i64 r,.int .i64 s,.int .i64 t,.int .i64 vk,.int .i64 vn] 35)).heap[w.heap.size]?=some (.cells #[.int .i64 k,.int .i64 r,.int .i64 s,.int .i64 t,.int .i64 vk,.int .i64 vn] 35 (0,0))):=⟨blk_new _ _⟩;have HB:=Aside0.mk (Below.refl w.heap.size w);have hu27:=Tryd.underlying25;have hu29:=Tryd.underlying35;have hfd: ∀ (a b c d:Value) (W:World),Sem.run Tryd.prog (Instr.field 67 (.agg #[a,b,c,d]) 0) W= .ok a W:=fun _ _ _ _ _=>by kernel_rfl
  cases hv
  · go_enter Tryd.func38,Tryd.ntmps38
    go_wp2_with (first|(go_at_call 52;refine(hHas _).mono ?_;rintro e w' ⟨rfl,hb⟩;have BK:=Aside0.mk (blk_below (by(with_reducible repeat(first|refine blk_drewN ?_ _|refine blk_drew ?_|refine blk_alloc ?_ _));exact BK.out) hb);have HB:=Aside0.mk (below_step (by repeat(first|(with_reducible first|exact HB.out|apply below_alloc|apply pw_below_drewN|apply below_drew1)|exact HB.out)) hb);have q0:w'.cell? ⟨w.heap.size,0,none⟩=some (.int .i64 k):=(blk_cell BK.out 0).trans rfl;have q1:w'.cell? ⟨w.heap.size,1,none⟩=some (.int .i64 r):=(blk_cell BK.out 1).trans rfl;have q2:w'.cell? ⟨w.heap.size,2,none⟩=some (.int .i64 s):=(blk_cell BK.out 2).trans rfl;have q3:w'.cell? ⟨w.heap.size,3,none⟩=some (.int .i64 t):=(blk_cell BK.out 3).trans rfl;have q4:w'.cell? ⟨w.heap.size,4,none⟩=some (.int .i64 vk):=(blk_cell BK.out 4).trans rfl;have q5:w'.cell? ⟨w.heap.size,5,none⟩=some (.int .i64 vn):=(blk_cell BK.out 5).trans rfl;clear hb)|(go_at_call 68;refine(hVal _).mono ?_;rintro e w' ⟨rfl,hb⟩;have BK:=Aside0.mk (blk_below (by(with_reducible repeat(first|refine blk_drewN ?_ _|refine blk_drew ?_|refine blk_alloc ?_ _));exact BK.out) hb);have HB:=Aside0.mk (below_step (by repeat(first|(with_reducible first|exact HB.out|apply below_alloc|apply pw_below_drewN|apply below_drew1)|exact HB.out)) hb);have q0:w'.cell? ⟨w.heap.size,0,none⟩=some (.int .i64 k):=(blk_cell BK.out 0).trans rfl;have q1:w'.cell? ⟨w.heap.size,1,none⟩=some (.int .i64 r):=(blk_cell BK.out 1).trans rfl;have q2:w'.cell? ⟨w.heap.size,2,none⟩=some (.int .i64 s):=(blk_cell BK.out 2).trans rfl;have q3:w'.cell? ⟨w.heap.size,3,none⟩=some (.int .i64 t):=(blk_cell BK.out 3).trans rfl;have q4:w'.cell? ⟨w.heap.size,4,none⟩=some (.int .i64 vk):=(blk_cell BK.out 4).trans rfl;have q5:w'.cell? ⟨w.heap.size,5,none⟩=some (.int .i64 vn):=(blk_cell BK.out 5).trans rfl;clear hb)|(go_at_call 51;refine(hHow _).mono ?_;rintro e w' ⟨rfl,hb⟩;have BK:=Aside0.mk (blk_below (by(with_reducible repeat(first|refine blk_drewN ?_ _|refine blk_drew ?_|refine blk_alloc ?_ _));exact BK.out) hb);have HB:=Aside0.mk (below_step (by repeat(first|(with_reducible first|exact HB.out|apply below_alloc|apply pw_below_drewN|apply below_drew1)|exact HB.out)) hb);have q0:w'.cell? ⟨w.heap.size,0,none⟩=some (.int .i64 k):=(blk_cell BK.out 0).trans rfl;have q1:w'.cell? ⟨w.heap.size,1,none⟩=some (.int .i64 r):=(blk_cell BK.out 1).trans rfl;have q2:w'.cell? ⟨w.heap.size,2,none⟩=some (.int .i64 s):=(blk_cell BK.out 2).trans rfl;have q3:w'.cell? ⟨w.heap.size,3,none⟩=some (.int .i64 t):=(blk_cell BK.out 3).trans rfl;have q4:w'.cell? ⟨w.heap.size,4,none⟩=some (.int .i64 vk):=(blk_cell BK.out 4).trans rfl;have q5:w'.cell? ⟨w.heap.size,5,none⟩=some (.int .i64 vn):=(blk_cell BK.out 5).trans rfl;clear hb)|(go_at_call 67;refine(hF _ _ _ _ (by(with_reducible repeat(first|refine blk_drewN ?_ _|refine blk_drew ?_|refine blk_alloc ?_ _));exact BK.out)).mono ?_;rintro e w' ⟨rfl,hb⟩;have BK:=Aside0.mk (blk_below (by(with_reducible repeat(first|refine blk_drewN ?_ _|refine blk_drew ?_|refine blk_alloc ?_ _));exact BK.out) hb);have HB:=Aside0.mk (below_step (by repeat(first|(with_reducible first|exact HB.out|apply below_alloc|apply pw_below_drewN|apply below_drew1)|exact HB.out)) hb);have q0:w'.cell? ⟨w.heap.size,0,none⟩=some (.int .i64 k):=(blk_cell BK.out 0).trans rfl;have q1:w'.cell? ⟨w.heap.size,1,none⟩=some (.int .i64 r):=(blk_cell BK.out 1).trans rfl;have q2:w'.cell? ⟨w.heap.size,2,none⟩=some (.int .i64 s):=(blk_cell BK.out 2).trans rfl;have q3:w'.cell? ⟨w.heap.size,3,none⟩=some (.int .i64 t):=(blk_cell BK.out 3).trans rfl;have q4:w'.cell? ⟨w.heap.size,4,none⟩=some (.int .i64 vk):=(blk_cell BK.out 4).trans rfl;have q5:w'.cell? ⟨w.heap.size,5,none⟩=some (.int .i64 vn):=(blk_cell BK.out 5).trans rfl;clear hb))
    all_goals go_ret
    all_goals refine⟨?_,HB.out⟩
    all_goals(rw[hg.out];simp[*])
  · go_enter Tryd.func38,Tryd.ntmps38
    go_wp2_with (first|(go_at_call 52;refine(hHas _).mono ?_;rintro e w' ⟨rfl,hb⟩;have BK:=Aside0.mk (blk_below (by(with_reducible repeat(first|refine blk_drewN ?_ _|refine blk_drew ?_|refine blk_alloc ?_ _));exact BK.out) hb);have HB:=Aside0.mk (below_step (by repeat(first|(with_reducible first|exact HB.out|apply below_alloc|apply pw_below_drewN|apply below_drew1)|exact HB.out)) hb);have q0:w'.cell? ⟨w.heap.size,0,none⟩=some (.int .i64 k):=(blk_cell BK.out 0).trans rfl;have q1:w'.cell? ⟨w.heap.size,1,none⟩=some (.int .i64 r):=(blk_cell BK.out 1).trans rfl;have q2:w'.cell? ⟨w.heap.size,2,none⟩=some (.int .i64 s):=(blk_cell BK.out 2).trans rfl;have q3:w'.cell? ⟨w.heap.size,3,none⟩=some (.int .i64 t):=(blk_cell BK.out 3).trans rfl;have q4:w'.cell? ⟨w.heap.size,4,none⟩=some (.int .i64 vk):=(blk_cell BK.out 4).trans rfl;have q5:w'.cell? ⟨w.heap.size,5,none⟩=some (.int .i64 vn):=(blk_cell BK.out 5).trans rfl;clear hb)|(go_at_call 68;refine(hVal _).mono ?_;rintro e w' ⟨rfl,hb⟩;have BK:=Aside0.mk (blk_below (by(with_reducible repeat(first|refine blk_drewN ?_ _|refine blk_drew ?_|refine blk_alloc ?_ _));exact BK.out) hb);have HB:=Aside0.mk (below_step (by repeat(first|(with_reducible first|exact HB.out|apply below_alloc|apply pw_below_drewN|apply below_drew1)|exact HB.out)) hb);have q0:w'.cell? ⟨w.heap.size,0,none⟩=some (.int .i64 k):=(blk_cell BK.out 0).trans rfl;have q1:w'.cell? ⟨w.heap.size,1,none⟩=some (.int .i64 r):=(blk_cell BK.out 1).trans rfl;have q2:w'.cell? ⟨w.heap.size,2,none⟩=some (.int .i64 s):=(blk_cell BK.out 2).trans rfl;have q3:w'.cell? ⟨w.heap.size,3,none⟩=some (.int .i64 t):=(blk_cell BK.out 3).trans rfl;have q4:w'.cell? ⟨w.heap.size,4,none⟩=some (.int .i64 vk):=(blk_cell BK.out 4).trans rfl;have q5:w'.cell? ⟨w.heap.size,5,none⟩=some (.int .i64 vn):=(blk_cell BK.out 5).trans rfl;clear hb)|(go_at_call 51;refine(hHow _).mono ?_;rintro e w' ⟨rfl,hb⟩;have BK:=Aside0.mk (blk_below (by(with_reducible repeat(first|refine blk_drewN ?_ _|refine blk_drew ?_|refine blk_alloc ?_ _));exact BK.out) hb);have HB:=Aside0.mk (below_step (by repeat(first|(with_reducible first|exact HB.out|apply below_alloc|apply pw_below_drewN|apply below_drew1)|exact HB.out)) hb);have q0:w'.cell? ⟨w.heap.size,0,none⟩=some (.int .i64 k):=(blk_cell BK.out 0).trans rfl;have q1:w'.cell? ⟨w.heap.size,1,none⟩=some (.int .i64 r):=(blk_cell BK.out 1).trans rfl;have q2:w'.cell? ⟨w.heap.size,2,none⟩=some (.int .i64 s):=(blk_cell BK.out 2).trans rfl;have q3:w'.cell? ⟨w.heap.size,3,none⟩=some (.int .i64 t):=(blk_cell BK.out 3).trans rfl;have q4:w'.cell? ⟨w.heap.size,4,none⟩=some (.int .i64 vk):=(blk_cell BK.out 4).trans rfl;have q5:w'.cell? ⟨w.heap.size,5,none⟩=some (.int .i64 vn):=(blk_cell BK.out 5).trans rfl;clear hb)|(go_at_call 67;refine(hF _ _ _ _ (by(with_reducible repeat(first|refine blk_drewN ?_ _|refine blk_drew ?_|refine blk_alloc ?_ _));exact BK.out)).mono ?_;rintro e w' ⟨rfl,hb⟩;have BK:=Aside0.mk (blk_below (by(with_reducible repeat(first|refine blk_drewN ?_ _|refine blk_drew ?_|refine blk_alloc ?_ _));exact BK.out) hb);have HB:=Aside0.mk (below_step (by repeat(first|(with_reducible first|exact HB.out|apply below_alloc|apply pw_below_drewN|apply below_drew1)|exact HB.out)) hb);have q0:w'.cell? ⟨w.heap.size,0,none⟩=some (.int .i64 k):=(blk_cell BK.out 0).trans rfl;have q1:w'.cell? ⟨w.heap.size,1,none⟩=some (.int .i64 r):=(blk_cell BK.out 1).trans rfl;have q2:w'.cell? ⟨w.heap.size,2,none⟩=some (.int .i64 s):=(blk_cell BK.out 2).trans rfl;have q3:w'.cell? ⟨w.heap.size,3,none⟩=some (.int .i64 t):=(blk_cell BK.out 3).trans rfl;have q4:w'.cell? ⟨w.heap.size,4,none⟩=some (.int .i64 vk):=(blk_cell BK.out 4).trans rfl;have q5:w'.cell? ⟨w.heap.size,5,none⟩=some (.int .i64 vn):=(blk_cell BK.out 5).trans rfl;clear hb))
    all_goals go_ret
    all_goals refine⟨?_,HB.out⟩
    all_goals(rw[hg.out];simp[*])
end Go.Proofs.YtmklpbmlgjkbiaaDoor.PS
end
section
namespace Go.Proofs.YtmklpbmlgjkbiaaDoor.PS
open Go.RowKit Go.Proofs.YtmklpbmlgjkbiaaDoorW.PrintWords Go.Proofs.YtmklpbmlgjkbiaaDoorW.PrintLast
theorem fieldB_eq (h:Bool) (n m:Int) (hm:0≤m):fieldB h n m=decide (n=0∨(h=true∧0≤n∧n≤m)):=by
  unfold fieldB;cases h
  · simp
  · simp;omega
theorem word_some (k:Int):(!(howR k).f0.toList.isEmpty)=decide (1≤k∧k≤14):=by
  rw[Lib.toList_data];refine kinds (P:=fun k=>(!(howR k).f0.data.toList.isEmpty)=decide (1≤k∧k≤14)) (fun k hk=> ?_) (by decide) (by decide) (by decide) (by decide) (by decide) (by decide) (by decide) (by decide) (by decide) (by decide) (by decide) (by decide) (by decide) (by decide) k
  unfold howR;rw[if_neg hk,decide_eq_false hk];decide
theorem opB_eq (k r s t vk vn:Int):opB k r s t vk vn=(!(howR k).f0.toList.isEmpty&&(fieldB (hasC k 82) r 3&&(fieldB (hasC k 83) s 3&&(fieldB (hasC k 84) t 15&&if hasC k 86=true then valB k vk vn else(vk==0&&(vn==0)))))):=by
  rw[word_some,hasC_R,hasC_S,hasC_T,hasC_V,fieldB_eq _ _ _ (by omega),fieldB_eq _ _ _ (by omega),fieldB_eq _ _ _ (by omega)]
  have hv:(if hasV k=true then valB k vk vn else(vk==0&&(vn==0)))=decide (valP k vk vn∧(hasV k=true∨(vk=0∧vn=0))):=by
    by_cases h:hasV k=true
    · rw[if_pos h];unfold valB;simp[h]
    · rw[if_neg h]
      have h8:k≠8∧k≠13:=by unfold hasV at h;simp at h;omega
      by_cases hz:vk=0∧vn=0
      · obtain⟨rfl,rfl⟩:=hz
        have:valP k 0 0:=⟨Or.inl ⟨rfl,rfl⟩,fun e=>absurd e h8.1,fun e=>absurd e h8.2⟩
        simp[this]
      · have e1 : (vk == 0 && (vn == 0)) = false := by
          by_cases a:vk=0<;>by_cases b:vn=0<;>simp[a,b]<;>simp_all
        rw[e1];exact(decide_eq_false (fun ⟨_,g⟩=>g.elim h hz)).symm
  rw[hv];unfold opB;simp only[←Bool.decide_and]
  apply decide_eq_decide.2
  unfold opP;constructor
  · rintro⟨a,b,c,d,e,f⟩;exact⟨a,c,d,e,b,f⟩
  · rintro⟨a,c,d,e,b,f⟩;exact⟨a,b,c,d,e,f⟩
theorem impl_OpOk.calls (k r s t vk vn:Int) (b:Bool) (w:World) (h:opV.f k r s t vk vn=some b):
    Calls Tryd.prog 38 #[.agg #[.int .i64 k,.int .i64 r,.int .i64 s,.int .i64 t,.int .i64 vk,.int .i64 vn]] w fun e w'=>e= .returned (.bool b)∧Below w.heap.size w w':=by
  refine implOp_walk k r s t vk vn w b (hasC k 86) (valB k vk vn) (fun c n m=>fieldB (hasC k c) n m) (howR k) (fun W=>impl_Op_how.calls k r s t vk vn _ _ _ _ W rfl) (fun W=>has_any k r s t vk vn 86 W)
    (fun W=>valOp_any k r s t vk vn W) (fun c n m W hB=>field_any w.heap.size k r s t vk vn c n m W hB) ⟨?_⟩
  rw[←opB_eq];exact(Option.some.inj h).symm
end Go.Proofs.YtmklpbmlgjkbiaaDoor.PS
end
section
namespace Go.Proofs.YtmklpbmlgjkbiaaDoor.PS
open Go.RowKit Go.Proofs.YtmklpbmlgjkbiaaDoorW.PrintWords Go.Proofs.YtmklpbmlgjkbiaaDoorW.PrintLast Go.Proofs.YtmklpbmlgjkbiaaDoorW.PrintMore
attribute [local go_sem] max2_int min2_int max_two min_two max_three min_three max_four min_four   -- for this text's walks alone
mutual
def spec_l2Form.j0:Nat→Int→Bool→Option (List Bool)
  |0,_,_=>none
  |k+1,x3,x7=>if x7=true then(some (([true,true,false,false]:List Bool)))else(if x3=4 then(spec_l2Form.j1 k x3 (x3==4))else(if x3=11 then(spec_l2Form.j1 k x3 (x3==11))else(if x3=12 then(spec_l2Form.j1 k x3 (x3==12))else(spec_l2Form.j1 k x3 (x3==14)))))
def spec_l2Form.j1:Nat→Int→Bool→Option (List Bool)
  |0,_,_=>none
  |k+1,x3,x13=>if x13=true then(some (([true,false,false,false]:List Bool)))else(if x3=5 then(some (([true,false,true,false]:List Bool)))else(if x3=8 then(some (([true,true,true,true]:List Bool)))else(if x3=9 then(some (([false,false,true,false]:List Bool)))else(if x3=10 then(some (([true,false,true,true]:List Bool)))else(if x3=13 then(some (([false,false,false,true]:List Bool)))else(some (([]:List Bool))))))))
end
def spec_l2Form.f (k:Nat) (a0:Int):Option (List Bool):=if a0=1 then(some (([true,false,false,true]:List Bool)))else(if a0=2 then(spec_l2Form.j0 k a0 (a0==2))else(if a0=3 then(spec_l2Form.j0 k a0 (a0==3))else(if a0=6 then(spec_l2Form.j0 k a0 (a0==6))else(spec_l2Form.j0 k a0 (a0==7)))))
theorem spec_l2Form.mono_l: ∀k,(∀y0 y1,LeO (spec_l2Form.j0 k y0 y1) (spec_l2Form.j0 (k+1) y0 y1))∧(∀y0 y1,LeO (spec_l2Form.j1 k y0 y1) (spec_l2Form.j1 (k+1) y0 y1))
  |0=>⟨fun _ _ r h=>by simp[spec_l2Form.j0]at h,fun _ _ r h=>by simp[spec_l2Form.j1]at h⟩
  |k+1=>by
    obtain⟨ih0,ih1⟩:=spec_l2Form.mono_l k;refine⟨?_,?_⟩
    · intro y0 y1
      unfold spec_l2Form.j0;repeat' first
      |(with_reducible exact ih0 _ _)
      |(with_reducible exact ih1 _ _)
      |(with_reducible exact LeO.refl _)
      |(with_reducible exact LeO.none _)
      |(with_reducible refine LeO.ite ?_ ?_)
      |(with_reducible refine LeO.bind ?_ (fun _=> ?_))
      |exact ih0 _ _
      |exact ih1 _ _
      |exact LeO.none _
      |refine LeO.ite ?_ ?_
      |refine LeO.bind ?_ (fun _=> ?_)
    · intro y0 y1
      unfold spec_l2Form.j1;repeat' first
      |(with_reducible exact ih0 _ _)
      |(with_reducible exact ih1 _ _)
      |(with_reducible exact LeO.refl _)
      |(with_reducible exact LeO.none _)
      |(with_reducible refine LeO.ite ?_ ?_)
      |(with_reducible refine LeO.bind ?_ (fun _=> ?_))
      |exact ih0 _ _
      |exact ih1 _ _
      |exact LeO.none _
      |refine LeO.ite ?_ ?_
      |refine LeO.bind ?_ (fun _=> ?_)
theorem spec_l2Form.mono: ∀a0 k,LeO (spec_l2Form.f k a0) (spec_l2Form.f (k+1) a0):=by
  intro a0 k;obtain⟨ih0,ih1⟩:=spec_l2Form.mono_l k;unfold spec_l2Form.f
  repeat' first
      |(with_reducible exact ih0 _ _)
      |(with_reducible exact ih1 _ _)
      |(with_reducible exact LeO.refl _)
      |(with_reducible exact LeO.none _)
      |(with_reducible refine LeO.ite ?_ ?_)
      |(with_reducible refine LeO.bind ?_ (fun _=> ?_))
      |exact ih0 _ _
      |exact ih1 _ _
      |exact LeO.none _
      |refine LeO.ite ?_ ?_
      |refine LeO.bind ?_ (fun _=> ?_)
theorem spec_l2Form.calls (k:Nat) (a0:Int) (r:List Bool) (w:World) (h:spec_l2Form.f k a0=some r):
    Calls Tryd.prog 49 #[.int .i64 a0] w fun e w'=> ∃v0_:Value,e= .returned (v0_)∧Kd.R Kd.bool 4 w' w.heap.size (fun _=>True) v0_ r∧Below w.heap.size w w':=by
  have HB:=Aside0.mk (Below.refl w.heap.size w);have H:(if a0=1 then(some (([true,false,false,true]:List Bool)))else(if a0=2 then(spec_l2Form.j0 k a0 (a0==2))else(if a0=3 then(spec_l2Form.j0 k a0 (a0==3))else(if a0=6 then(spec_l2Form.j0 k a0 (a0==6))else(spec_l2Form.j0 k a0 (a0==7))))))=some r:=h
  clear h;by_cases c2:a0=1
  · rw[if_pos c2]at H
    have c2b0:(a0==1)=true:=beq_iff_eq.mpr c2;have c2b1:(a0 !=1)=false:=bne_eq_false_iff_eq.mpr c2;clear c2;obtain⟨y128,hy128⟩: ∃y_:List Bool,y_=(([true,false,false,true]:List Bool)):=⟨_,rfl⟩;replace H:(some y128)=some r:=by first|(rw[hy128];with_reducible exact H)|(have H2_:=(Option.bind_some _ _).symm.trans H;rw[hy128];with_reducible exact H2_)|(have H2_:=(Option.bind_some _ _).symm.trans H;with_reducible exact H2_)|with_reducible exact H|(rw[hy128];exact H)|exact H
    have Ny128:=Aside0.mk hy128;clear hy128;obtain rfl:=Option.some.inj H;go_enter Tryd.func49,Tryd.ntmps49
    go_wp2_with (first|((with_reducible refine gate_dst (N:=6) rfl ?_);refine Kd.R_lit Kd.bool _ 4 ?hg (N:=6) ?hd (xs:=([true,false,false,true]:List Bool)) (inner:=[.bool true,.bool false,.bool false,.bool true]) (ok:=fun _=>True) (okp:=fun _=>True) ?hr ?hp (fun _ hk=>hk) trivial (Below.refl _ _) (Nat.le_refl _) (by simp) ?_;(case hd=>rfl);(case hg=>rfl);(case hr=>first|(go_simp;done)|(go_simp;rfl));(case hp=>exact(Reps.one (show Kd.M Kd.bool _ _ _ true [.bool true]from rfl) (Reps.one (show Kd.M Kd.bool _ _ _ false [.bool false]from rfl) (Reps.one (show Kd.M Kd.bool _ _ _ false [.bool false]from rfl) (Reps.one (show Kd.M Kd.bool _ _ _ true [.bool true]from rfl) (Reps.none _ _))))));intro v129 w3 ho4 hb hg_ hnew_;clear hg_ hnew_;(first|rw[←Ny128.out]at ho4|(simp only[Int.reduceToNat]at ho4;rw[←Ny128.out]at ho4));have n0_:=Aside0.mk (Kd.R_lower ho4 (below_size (by repeat(first|(with_reducible first|exact HB.out|apply below_alloc|apply pw_below_drewN|apply below_drew1)|exact HB.out))));have n1_:=Aside0.mk (below_step (by repeat(first|(with_reducible first|exact HB.out|apply below_alloc|apply pw_below_drewN|apply below_drew1)|exact HB.out)) hb);clear HB;have HO130:=n0_;have HB:=n1_;clear n0_ n1_;clear hb ho4))
    go_ret
    exact⟨_,by first|rfl|(simp[errW_none,errW_some]<;>rfl)|(simp[*,errW_none,errW_some]<;>rfl),by(with_reducible repeat(first|apply Kd.R_alloc|apply Kd.R_drewN|apply Kd.R_drew));exact HO130.out,by repeat(first|(with_reducible first|exact HB.out|apply below_alloc|apply pw_below_drewN|apply below_drew1)|exact HB.out)⟩
  · rw[if_neg c2]at H
    have c2b0:(a0==1)=false:=beq_eq_false_iff_ne.mpr c2;have c2b1:(a0 !=1)=true:=bne_iff_ne.mpr c2;have HC5:=Aside0.mk H;clear H;go_enter Tryd.func49,Tryd.ntmps49
    go_upto_if 7 with (fail)
    go_cut [7] (fun v7 wc=> ∃ (kq:Nat) (x7_4:Bool),v7= .bool x7_4∧Aside0 (spec_l2Form.j0 kq a0 x7_4=some r)∧Aside0 (kq≤k)∧Aside0 (Below w.heap.size w wc))
    case first=>
      have H:=HC5.out;clear HC5;by_cases c6:a0=2
      · rw[if_pos c6]at H
        have c6b0:(a0==2)=true:=beq_iff_eq.mpr c6;have c6b1:(a0 !=2)=false:=bne_eq_false_iff_eq.mpr c6;clear c6;(first|rw[c6b0]|(simp only[i64_w,i32_w];rw[c6b0])|skip)
        have H':=Aside0.mk H;clear H;go_wp2
        go_meet
        case rel=>exact⟨_,((a0==2)),(by first|rfl|(simp;done)|(simp[*];done)),H',⟨by first|omega|exact Nat.le_refl _⟩,⟨by repeat(first|(with_reducible first|exact HB.out|apply below_alloc|apply pw_below_drewN|apply below_drew1)|exact HB.out)⟩⟩
      · rw[if_neg c6]at H
        have c6b0:(a0==2)=false:=beq_eq_false_iff_ne.mpr c6;have c6b1:(a0 !=2)=true:=bne_iff_ne.mpr c6;(first|rw[c6b0]|(simp only[i64_w,i32_w];rw[c6b0])|skip)
        by_cases c7:a0=3
        · rw[if_pos c7]at H
          have c7b0:(a0==3)=true:=beq_iff_eq.mpr c7;have c7b1:(a0 !=3)=false:=bne_eq_false_iff_eq.mpr c7;clear c7;have H':=Aside0.mk H;clear H;go_wp2
          go_meet
          case rel=>exact⟨_,((a0==3)),(by first|rfl|(simp;done)|(simp[*];done)),H',⟨by first|omega|exact Nat.le_refl _⟩,⟨by repeat(first|(with_reducible first|exact HB.out|apply below_alloc|apply pw_below_drewN|apply below_drew1)|exact HB.out)⟩⟩
        · rw[if_neg c7]at H
          have c7b0:(a0==3)=false:=beq_eq_false_iff_ne.mpr c7;have c7b1:(a0 !=3)=true:=bne_iff_ne.mpr c7;by_cases c8:a0=6
          · rw[if_pos c8]at H
            have c8b0:(a0==6)=true:=beq_iff_eq.mpr c8;have c8b1:(a0 !=6)=false:=bne_eq_false_iff_eq.mpr c8;clear c8;have H':=Aside0.mk H;clear H;go_wp2
            go_meet
            case rel=>exact⟨_,((a0==6)),(by first|rfl|(simp;done)|(simp[*];done)),H',⟨by first|omega|exact Nat.le_refl _⟩,⟨by repeat(first|(with_reducible first|exact HB.out|apply below_alloc|apply pw_below_drewN|apply below_drew1)|exact HB.out)⟩⟩
          · rw[if_neg c8]at H
            have c8b0:(a0==6)=false:=beq_eq_false_iff_ne.mpr c8;have c8b1:(a0 !=6)=true:=bne_iff_ne.mpr c8;have H':=Aside0.mk H;clear H;go_wp2
            go_meet
            case rel=>exact⟨_,((a0==7)),(by first|rfl|(simp;done)|(simp[*];done)),H',⟨by first|omega|exact Nat.le_refl _⟩,⟨by repeat(first|(with_reducible first|exact HB.out|apply below_alloc|apply pw_below_drewN|apply below_drew1)|exact HB.out)⟩⟩
    case rest=>
      clear HC5;try clear c2
      try clear c2b0
      try clear c2b1
      try clear p2
      try clear c4
      try clear c6
      try clear c6b0
      try clear c6b1
      try clear c7
      try clear c7b0
      try clear c7b1
      try clear c8
      try clear c8b0
      try clear c8b1
      obtain⟨kq,x7_4,rfl,HA,HJ4,HB⟩:=hcut;cases kq with
      |zero=>exact absurd HA.out (by simp[spec_l2Form.j0])
      |succ kj4=>
        have H:=HA.out;clear HA;simp only[spec_l2Form.j0]at H
        by_cases c9:x7_4=true
        · subst c9
          have H1:(some (([true,true,false,false]:List Bool)))=some r:=by rw[if_pos rfl]at H;exact H
          clear H;have H:=H1;clear H1;obtain⟨y131,hy131⟩: ∃y_:List Bool,y_=(([true,true,false,false]:List Bool)):=⟨_,rfl⟩;replace H:(some y131)=some r:=by first|(rw[hy131];with_reducible exact H)|(have H2_:=(Option.bind_some _ _).symm.trans H;rw[hy131];with_reducible exact H2_)|(have H2_:=(Option.bind_some _ _).symm.trans H;with_reducible exact H2_)|with_reducible exact H|(rw[hy131];exact H)|exact H
          have Ny131:=Aside0.mk hy131;clear hy131;obtain rfl:=Option.some.inj H;go_wp2_with (first|((with_reducible refine gate_dst (N:=12) rfl ?_);refine Kd.R_lit Kd.bool _ 4 ?hg (N:=12) ?hd (xs:=([true,true,false,false]:List Bool)) (inner:=[.bool true,.bool true,.bool false,.bool false]) (ok:=fun _=>True) (okp:=fun _=>True) ?hr ?hp (fun _ hk=>hk) trivial (Below.refl _ _) (Nat.le_refl _) (by simp) ?_;(case hd=>rfl);(case hg=>rfl);(case hr=>first|(go_simp;done)|(go_simp;rfl));(case hp=>exact(Reps.one (show Kd.M Kd.bool _ _ _ true [.bool true]from rfl) (Reps.one (show Kd.M Kd.bool _ _ _ true [.bool true]from rfl) (Reps.one (show Kd.M Kd.bool _ _ _ false [.bool false]from rfl) (Reps.one (show Kd.M Kd.bool _ _ _ false [.bool false]from rfl) (Reps.none _ _))))));intro v132 w10 ho11 hb hg_ hnew_;clear hg_ hnew_;(first|rw[←Ny131.out]at ho11|(simp only[Int.reduceToNat]at ho11;rw[←Ny131.out]at ho11));have n0_:=Aside0.mk (Kd.R_lower ho11 (below_size (by repeat(first|(with_reducible first|exact HB.out|apply below_alloc|apply pw_below_drewN|apply below_drew1)|exact HB.out))));have n1_:=Aside0.mk (below_step (by repeat(first|(with_reducible first|exact HB.out|apply below_alloc|apply pw_below_drewN|apply below_drew1)|exact HB.out)) hb);clear HB;have HO133:=n0_;have HB:=n1_;clear n0_ n1_;clear hb ho11))
          go_ret
          exact⟨_,by first|rfl|(simp[errW_none,errW_some]<;>rfl)|(simp[*,errW_none,errW_some]<;>rfl),by(with_reducible repeat(first|apply Kd.R_alloc|apply Kd.R_drewN|apply Kd.R_drew));exact HO133.out,by repeat(first|(with_reducible first|exact HB.out|apply below_alloc|apply pw_below_drewN|apply below_drew1)|exact HB.out)⟩
        · replace c9:=Bool.eq_false_iff.mpr c9
          subst c9;have H1:(if a0=4 then(spec_l2Form.j1 kj4 a0 (a0==4))else(if a0=11 then(spec_l2Form.j1 kj4 a0 (a0==11))else(if a0=12 then(spec_l2Form.j1 kj4 a0 (a0==12))else(spec_l2Form.j1 kj4 a0 (a0==14)))))=some r:=by rw[if_neg (show¬(false=true) by decide)]at H;exact H
          clear H;have H:=H1;clear H1;have HC12:=Aside0.mk H;clear H;go_upto_if 13 with (fail)
          go_cut [13] (fun v13 wc=> ∃ (kq:Nat) (x13_11:Bool),v13= .bool x13_11∧Aside0 (spec_l2Form.j1 kq a0 x13_11=some r)∧Aside0 (kq≤kj4)∧Aside0 (Below w.heap.size w wc))
          case first=>
            have H:=HC12.out;clear HC12;by_cases c13:a0=4
            · rw[if_pos c13]at H
              have c13b0:(a0==4)=true:=beq_iff_eq.mpr c13;have c13b1:(a0 !=4)=false:=bne_eq_false_iff_eq.mpr c13;clear c13;(first|rw[c13b0]|(simp only[i64_w,i32_w];rw[c13b0])|skip)
              have H':=Aside0.mk H;clear H;go_wp2
              go_meet
              case rel=>exact⟨_,((a0==4)),(by first|rfl|(simp;done)|(simp[*];done)),H',⟨by have:=HJ4.out;first|omega|exact Nat.le_refl _⟩,⟨by repeat(first|(with_reducible first|exact HB.out|apply below_alloc|apply pw_below_drewN|apply below_drew1)|exact HB.out)⟩⟩
            · rw[if_neg c13]at H
              have c13b0:(a0==4)=false:=beq_eq_false_iff_ne.mpr c13;have c13b1:(a0 !=4)=true:=bne_iff_ne.mpr c13;(first|rw[c13b0]|(simp only[i64_w,i32_w];rw[c13b0])|skip)
              by_cases c14:a0=11
              · rw[if_pos c14]at H
                have c14b0:(a0==11)=true:=beq_iff_eq.mpr c14;have c14b1:(a0 !=11)=false:=bne_eq_false_iff_eq.mpr c14;clear c14;have H':=Aside0.mk H;clear H;go_wp2
                go_meet
                case rel=>exact⟨_,((a0==11)),(by first|rfl|(simp;done)|(simp[*];done)),H',⟨by have:=HJ4.out;first|omega|exact Nat.le_refl _⟩,⟨by repeat(first|(with_reducible first|exact HB.out|apply below_alloc|apply pw_below_drewN|apply below_drew1)|exact HB.out)⟩⟩
              · rw[if_neg c14]at H
                have c14b0:(a0==11)=false:=beq_eq_false_iff_ne.mpr c14;have c14b1:(a0 !=11)=true:=bne_iff_ne.mpr c14;by_cases c15:a0=12
                · rw[if_pos c15]at H
                  have c15b0:(a0==12)=true:=beq_iff_eq.mpr c15;have c15b1:(a0 !=12)=false:=bne_eq_false_iff_eq.mpr c15;clear c15;have H':=Aside0.mk H;clear H;go_wp2
                  go_meet
                  case rel=>exact⟨_,((a0==12)),(by first|rfl|(simp;done)|(simp[*];done)),H',⟨by have:=HJ4.out;first|omega|exact Nat.le_refl _⟩,⟨by repeat(first|(with_reducible first|exact HB.out|apply below_alloc|apply pw_below_drewN|apply below_drew1)|exact HB.out)⟩⟩
                · rw[if_neg c15]at H
                  have c15b0:(a0==12)=false:=beq_eq_false_iff_ne.mpr c15;have c15b1:(a0 !=12)=true:=bne_iff_ne.mpr c15;have H':=Aside0.mk H;clear H;go_wp2
                  go_meet
                  case rel=>exact⟨_,((a0==14)),(by first|rfl|(simp;done)|(simp[*];done)),H',⟨by have:=HJ4.out;first|omega|exact Nat.le_refl _⟩,⟨by repeat(first|(with_reducible first|exact HB.out|apply below_alloc|apply pw_below_drewN|apply below_drew1)|exact HB.out)⟩⟩
          case rest=>
            clear HC12;try clear c1
            try clear c2
            try clear c2b0
            try clear c2b1
            try clear p2
            try clear c4
            try clear c6
            try clear c6b0
            try clear c6b1
            try clear c7
            try clear c7b0
            try clear c7b1
            try clear c8
            try clear c8b0
            try clear c8b1
            try clear c9
            try clear c13
            try clear c13b0
            try clear c13b1
            try clear c14
            try clear c14b0
            try clear c14b1
            try clear c15
            try clear c15b0
            try clear c15b1
            try clear p2
            obtain⟨kq,x13_11,rfl,HA,HJ11,HB⟩:=hcut;cases kq with
            |zero=>exact absurd HA.out (by simp[spec_l2Form.j1])
            |succ kj11=>
              have H:=HA.out;clear HA;simp only[spec_l2Form.j1]at H
              by_cases c16:x13_11=true
              · subst c16
                have H1:(some (([true,false,false,false]:List Bool)))=some r:=by rw[if_pos rfl]at H;exact H
                clear H;have H:=H1;clear H1;obtain⟨y134,hy134⟩: ∃y_:List Bool,y_=(([true,false,false,false]:List Bool)):=⟨_,rfl⟩;replace H:(some y134)=some r:=by first|(rw[hy134];with_reducible exact H)|(have H2_:=(Option.bind_some _ _).symm.trans H;rw[hy134];with_reducible exact H2_)|(have H2_:=(Option.bind_some _ _).symm.trans H;with_reducible exact H2_)|with_reducible exact H|(rw[hy134];exact H)|exact H
                have Ny134:=Aside0.mk hy134;clear hy134;obtain rfl:=Option.some.inj H;go_wp2_with (first|((with_reducible refine gate_dst (N:=18) rfl ?_);refine Kd.R_lit Kd.bool _ 4 ?hg (N:=18) ?hd (xs:=([true,false,false,false]:List Bool)) (inner:=[.bool true,.bool false,.bool false,.bool false]) (ok:=fun _=>True) (okp:=fun _=>True) ?hr ?hp (fun _ hk=>hk) trivial (Below.refl _ _) (Nat.le_refl _) (by simp) ?_;(case hd=>rfl);(case hg=>rfl);(case hr=>first|(go_simp;done)|(go_simp;rfl));(case hp=>exact(Reps.one (show Kd.M Kd.bool _ _ _ true [.bool true]from rfl) (Reps.one (show Kd.M Kd.bool _ _ _ false [.bool false]from rfl) (Reps.one (show Kd.M Kd.bool _ _ _ false [.bool false]from rfl) (Reps.one (show Kd.M Kd.bool _ _ _ false [.bool false]from rfl) (Reps.none _ _))))));intro v135 w17 ho18 hb hg_ hnew_;clear hg_ hnew_;(first|rw[←Ny134.out]at ho18|(simp only[Int.reduceToNat]at ho18;rw[←Ny134.out]at ho18));have n0_:=Aside0.mk (Kd.R_lower ho18 (below_size (by repeat(first|(with_reducible first|exact HB.out|apply below_alloc|apply pw_below_drewN|apply below_drew1)|exact HB.out))));have n1_:=Aside0.mk (below_step (by repeat(first|(with_reducible first|exact HB.out|apply below_alloc|apply pw_below_drewN|apply below_drew1)|exact HB.out)) hb);clear HB;have HO136:=n0_;have HB:=n1_;clear n0_ n1_;clear hb ho18))
                go_ret
                exact⟨_,by first|rfl|(simp[errW_none,errW_some]<;>rfl)|(simp[*,errW_none,errW_some]<;>rfl),by(with_reducible repeat(first|apply Kd.R_alloc|apply Kd.R_drewN|apply Kd.R_drew));exact HO136.out,by repeat(first|(with_reducible first|exact HB.out|apply below_alloc|apply pw_below_drewN|apply below_drew1)|exact HB.out)⟩
              · replace c16:=Bool.eq_false_iff.mpr c16
                subst c16;have H1:(if a0=5 then(some (([true,false,true,false]:List Bool)))else(if a0=8 then(some (([true,true,true,true]:List Bool)))else(if a0=9 then(some (([false,false,true,false]:List Bool)))else(if a0=10 then(some (([true,false,true,true]:List Bool)))else(if a0=13 then(some (([false,false,false,true]:List Bool)))else(some (([]:List Bool))))))))=some r:=by rw[if_neg (show¬(false=true) by decide)]at H;exact H
                clear H;have H:=H1;clear H1;by_cases c19:a0=5
                · rw[if_pos c19]at H
                  have c19b0:(a0==5)=true:=beq_iff_eq.mpr c19;have c19b1:(a0 !=5)=false:=bne_eq_false_iff_eq.mpr c19;clear c19;obtain⟨y137,hy137⟩: ∃y_:List Bool,y_=(([true,false,true,false]:List Bool)):=⟨_,rfl⟩;replace H:(some y137)=some r:=by first|(rw[hy137];with_reducible exact H)|(have H2_:=(Option.bind_some _ _).symm.trans H;rw[hy137];with_reducible exact H2_)|(have H2_:=(Option.bind_some _ _).symm.trans H;with_reducible exact H2_)|with_reducible exact H|(rw[hy137];exact H)|exact H
                  have Ny137:=Aside0.mk hy137;clear hy137;obtain rfl:=Option.some.inj H;go_wp2_with (first|((with_reducible refine gate_dst (N:=21) rfl ?_);refine Kd.R_lit Kd.bool _ 4 ?hg (N:=21) ?hd (xs:=([true,false,true,false]:List Bool)) (inner:=[.bool true,.bool false,.bool true,.bool false]) (ok:=fun _=>True) (okp:=fun _=>True) ?hr ?hp (fun _ hk=>hk) trivial (Below.refl _ _) (Nat.le_refl _) (by simp) ?_;(case hd=>rfl);(case hg=>rfl);(case hr=>first|(go_simp;done)|(go_simp;rfl));(case hp=>exact(Reps.one (show Kd.M Kd.bool _ _ _ true [.bool true]from rfl) (Reps.one (show Kd.M Kd.bool _ _ _ false [.bool false]from rfl) (Reps.one (show Kd.M Kd.bool _ _ _ true [.bool true]from rfl) (Reps.one (show Kd.M Kd.bool _ _ _ false [.bool false]from rfl) (Reps.none _ _))))));intro v138 w20 ho21 hb hg_ hnew_;clear hg_ hnew_;(first|rw[←Ny137.out]at ho21|(simp only[Int.reduceToNat]at ho21;rw[←Ny137.out]at ho21));have n0_:=Aside0.mk (Kd.R_lower ho21 (below_size (by repeat(first|(with_reducible first|exact HB.out|apply below_alloc|apply pw_below_drewN|apply below_drew1)|exact HB.out))));have n1_:=Aside0.mk (below_step (by repeat(first|(with_reducible first|exact HB.out|apply below_alloc|apply pw_below_drewN|apply below_drew1)|exact HB.out)) hb);clear HB;have HO139:=n0_;have HB:=n1_;clear n0_ n1_;clear hb ho21))
                  go_ret
                  exact⟨_,by first|rfl|(simp[errW_none,errW_some]<;>rfl)|(simp[*,errW_none,errW_some]<;>rfl),by(with_reducible repeat(first|apply Kd.R_alloc|apply Kd.R_drewN|apply Kd.R_drew));exact HO139.out,by repeat(first|(with_reducible first|exact HB.out|apply below_alloc|apply pw_below_drewN|apply below_drew1)|exact HB.out)⟩
                · rw[if_neg c19]at H
                  have c19b0:(a0==5)=false:=beq_eq_false_iff_ne.mpr c19;have c19b1:(a0 !=5)=true:=bne_iff_ne.mpr c19;by_cases c22:a0=8
                  · rw[if_pos c22]at H
                    have c22b0:(a0==8)=true:=beq_iff_eq.mpr c22;have c22b1:(a0 !=8)=false:=bne_eq_false_iff_eq.mpr c22;clear c22;obtain⟨y140,hy140⟩: ∃y_:List Bool,y_=(([true,true,true,true]:List Bool)):=⟨_,rfl⟩;replace H:(some y140)=some r:=by first|(rw[hy140];with_reducible exact H)|(have H2_:=(Option.bind_some _ _).symm.trans H;rw[hy140];with_reducible exact H2_)|(have H2_:=(Option.bind_some _ _).symm.trans H;with_reducible exact H2_)|with_reducible exact H|(rw[hy140];exact H)|exact H
                    have Ny140:=Aside0.mk hy140;clear hy140;obtain rfl:=Option.some.inj H;go_wp2_with (first|((with_reducible refine gate_dst (N:=24) rfl ?_);refine Kd.R_lit Kd.bool _ 4 ?hg (N:=24) ?hd (xs:=([true,true,true,true]:List Bool)) (inner:=[.bool true,.bool true,.bool true,.bool true]) (ok:=fun _=>True) (okp:=fun _=>True) ?hr ?hp (fun _ hk=>hk) trivial (Below.refl _ _) (Nat.le_refl _) (by simp) ?_;(case hd=>rfl);(case hg=>rfl);(case hr=>first|(go_simp;done)|(go_simp;rfl));(case hp=>exact(Reps.one (show Kd.M Kd.bool _ _ _ true [.bool true]from rfl) (Reps.one (show Kd.M Kd.bool _ _ _ true [.bool true]from rfl) (Reps.one (show Kd.M Kd.bool _ _ _ true [.bool true]from rfl) (Reps.one (show Kd.M Kd.bool _ _ _ true [.bool true]from rfl) (Reps.none _ _))))));intro v141 w23 ho24 hb hg_ hnew_;clear hg_ hnew_;(first|rw[←Ny140.out]at ho24|(simp only[Int.reduceToNat]at ho24;rw[←Ny140.out]at ho24));have n0_:=Aside0.mk (Kd.R_lower ho24 (below_size (by repeat(first|(with_reducible first|exact HB.out|apply below_alloc|apply pw_below_drewN|apply below_drew1)|exact HB.out))));have n1_:=Aside0.mk (below_step (by repeat(first|(with_reducible first|exact HB.out|apply below_alloc|apply pw_below_drewN|apply below_drew1)|exact HB.out)) hb);clear HB;have HO142:=n0_;have HB:=n1_;clear n0_ n1_;clear hb ho24))
                    go_ret
                    exact⟨_,by first|rfl|(simp[errW_none,errW_some]<;>rfl)|(simp[*,errW_none,errW_some]<;>rfl),by(with_reducible repeat(first|apply Kd.R_alloc|apply Kd.R_drewN|apply Kd.R_drew));exact HO142.out,by repeat(first|(with_reducible first|exact HB.out|apply below_alloc|apply pw_below_drewN|apply below_drew1)|exact HB.out)⟩
                  · rw[if_neg c22]at H
                    have c22b0:(a0==8)=false:=beq_eq_false_iff_ne.mpr c22;have c22b1:(a0 !=8)=true:=bne_iff_ne.mpr c22;by_cases c25:a0=9
                    · rw[if_pos c25]at H
                      have c25b0:(a0==9)=true:=beq_iff_eq.mpr c25;have c25b1:(a0 !=9)=false:=bne_eq_false_iff_eq.mpr c25;clear c25;obtain⟨y143,hy143⟩: ∃y_:List Bool,y_=(([false,false,true,false]:List Bool)):=⟨_,rfl⟩;replace H:(some y143)=some r:=by first|(rw[hy143];with_reducible exact H)|(have H2_:=(Option.bind_some _ _).symm.trans H;rw[hy143];with_reducible exact H2_)|(have H2_:=(Option.bind_some _ _).symm.trans H;with_reducible exact H2_)|with_reducible exact H|(rw[hy143];exact H)|exact H
                      have Ny143:=Aside0.mk hy143;clear hy143;obtain rfl:=Option.some.inj H;go_wp2_with (first|((with_reducible refine gate_dst (N:=27) rfl ?_);refine Kd.R_lit Kd.bool _ 4 ?hg (N:=27) ?hd (xs:=([false,false,true,false]:List Bool)) (inner:=[.bool false,.bool false,.bool true,.bool false]) (ok:=fun _=>True) (okp:=fun _=>True) ?hr ?hp (fun _ hk=>hk) trivial (Below.refl _ _) (Nat.le_refl _) (by simp) ?_;(case hd=>rfl);(case hg=>rfl);(case hr=>first|(go_simp;done)|(go_simp;rfl));(case hp=>exact(Reps.one (show Kd.M Kd.bool _ _ _ false [.bool false]from rfl) (Reps.one (show Kd.M Kd.bool _ _ _ false [.bool false]from rfl) (Reps.one (show Kd.M Kd.bool _ _ _ true [.bool true]from rfl) (Reps.one (show Kd.M Kd.bool _ _ _ false [.bool false]from rfl) (Reps.none _ _))))));intro v144 w26 ho27 hb hg_ hnew_;clear hg_ hnew_;(first|rw[←Ny143.out]at ho27|(simp only[Int.reduceToNat]at ho27;rw[←Ny143.out]at ho27));have n0_:=Aside0.mk (Kd.R_lower ho27 (below_size (by repeat(first|(with_reducible first|exact HB.out|apply below_alloc|apply pw_below_drewN|apply below_drew1)|exact HB.out))));have n1_:=Aside0.mk (below_step (by repeat(first|(with_reducible first|exact HB.out|apply below_alloc|apply pw_below_drewN|apply below_drew1)|exact HB.out)) hb);clear HB;have HO145:=n0_;have HB:=n1_;clear n0_ n1_;clear hb ho27))
                      go_ret
                      exact⟨_,by first|rfl|(simp[errW_none,errW_some]<;>rfl)|(simp[*,errW_none,errW_some]<;>rfl),by(with_reducible repeat(first|apply Kd.R_alloc|apply Kd.R_drewN|apply Kd.R_drew));exact HO145.out,by repeat(first|(with_reducible first|exact HB.out|apply below_alloc|apply pw_below_drewN|apply below_drew1)|exact HB.out)⟩
                    · rw[if_neg c25]at H
                      have c25b0:(a0==9)=false:=beq_eq_false_iff_ne.mpr c25;have c25b1:(a0 !=9)=true:=bne_iff_ne.mpr c25;by_cases c28:a0=10
                      · rw[if_pos c28]at H
                        have c28b0:(a0==10)=true:=beq_iff_eq.mpr c28;have c28b1:(a0 !=10)=false:=bne_eq_false_iff_eq.mpr c28;clear c28;obtain⟨y146,hy146⟩: ∃y_:List Bool,y_=(([true,false,true,true]:List Bool)):=⟨_,rfl⟩;replace H:(some y146)=some r:=by first|(rw[hy146];with_reducible exact H)|(have H2_:=(Option.bind_some _ _).symm.trans H;rw[hy146];with_reducible exact H2_)|(have H2_:=(Option.bind_some _ _).symm.trans H;with_reducible exact H2_)|with_reducible exact H|(rw[hy146];exact H)|exact H
                        have Ny146:=Aside0.mk hy146;clear hy146;obtain rfl:=Option.some.inj H;go_wp2_with (first|((with_reducible refine gate_dst (N:=30) rfl ?_);refine Kd.R_lit Kd.bool _ 4 ?hg (N:=30) ?hd (xs:=([true,false,true,true]:List Bool)) (inner:=[.bool true,.bool false,.bool true,.bool true]) (ok:=fun _=>True) (okp:=fun _=>True) ?hr ?hp (fun _ hk=>hk) trivial (Below.refl _ _) (Nat.le_refl _) (by simp) ?_;(case hd=>rfl);(case hg=>rfl);(case hr=>first|(go_simp;done)|(go_simp;rfl));(case hp=>exact(Reps.one (show Kd.M Kd.bool _ _ _ true [.bool true]from rfl) (Reps.one (show Kd.M Kd.bool _ _ _ false [.bool false]from rfl) (Reps.one (show Kd.M Kd.bool _ _ _ true [.bool true]from rfl) (Reps.one (show Kd.M Kd.bool _ _ _ true [.bool true]from rfl) (Reps.none _ _))))));intro v147 w29 ho30 hb hg_ hnew_;clear hg_ hnew_;(first|rw[←Ny146.out]at ho30|(simp only[Int.reduceToNat]at ho30;rw[←Ny146.out]at ho30));have n0_:=Aside0.mk (Kd.R_lower ho30 (below_size (by repeat(first|(with_reducible first|exact HB.out|apply below_alloc|apply pw_below_drewN|apply below_drew1)|exact HB.out))));have n1_:=Aside0.mk (below_step (by repeat(first|(with_reducible first|exact HB.out|apply below_alloc|apply pw_below_drewN|apply below_drew1)|exact HB.out)) hb);clear HB;have HO148:=n0_;have HB:=n1_;clear n0_ n1_;clear hb ho30))
                        go_ret
                        exact⟨_,by first|rfl|(simp[errW_none,errW_some]<;>rfl)|(simp[*,errW_none,errW_some]<;>rfl),by(with_reducible repeat(first|apply Kd.R_alloc|apply Kd.R_drewN|apply Kd.R_drew));exact HO148.out,by repeat(first|(with_reducible first|exact HB.out|apply below_alloc|apply pw_below_drewN|apply below_drew1)|exact HB.out)⟩
                      · rw[if_neg c28]at H
                        have c28b0:(a0==10)=false:=beq_eq_false_iff_ne.mpr c28;have c28b1:(a0 !=10)=true:=bne_iff_ne.mpr c28;by_cases c31:a0=13
                        · rw[if_pos c31]at H
                          have c31b0:(a0==13)=true:=beq_iff_eq.mpr c31;have c31b1:(a0 !=13)=false:=bne_eq_false_iff_eq.mpr c31;clear c31;obtain⟨y149,hy149⟩: ∃y_:List Bool,y_=(([false,false,false,true]:List Bool)):=⟨_,rfl⟩;replace H:(some y149)=some r:=by first|(rw[hy149];with_reducible exact H)|(have H2_:=(Option.bind_some _ _).symm.trans H;rw[hy149];with_reducible exact H2_)|(have H2_:=(Option.bind_some _ _).symm.trans H;with_reducible exact H2_)|with_reducible exact H|(rw[hy149];exact H)|exact H
                          have Ny149:=Aside0.mk hy149;clear hy149;obtain rfl:=Option.some.inj H;go_wp2_with (first|((with_reducible refine gate_dst (N:=33) rfl ?_);refine Kd.R_lit Kd.bool _ 4 ?hg (N:=33) ?hd (xs:=([false,false,false,true]:List Bool)) (inner:=[.bool false,.bool false,.bool false,.bool true]) (ok:=fun _=>True) (okp:=fun _=>True) ?hr ?hp (fun _ hk=>hk) trivial (Below.refl _ _) (Nat.le_refl _) (by simp) ?_;(case hd=>rfl);(case hg=>rfl);(case hr=>first|(go_simp;done)|(go_simp;rfl));(case hp=>exact(Reps.one (show Kd.M Kd.bool _ _ _ false [.bool false]from rfl) (Reps.one (show Kd.M Kd.bool _ _ _ false [.bool false]from rfl) (Reps.one (show Kd.M Kd.bool _ _ _ false [.bool false]from rfl) (Reps.one (show Kd.M Kd.bool _ _ _ true [.bool true]from rfl) (Reps.none _ _))))));intro v150 w32 ho33 hb hg_ hnew_;clear hg_ hnew_;(first|rw[←Ny149.out]at ho33|(simp only[Int.reduceToNat]at ho33;rw[←Ny149.out]at ho33));have n0_:=Aside0.mk (Kd.R_lower ho33 (below_size (by repeat(first|(with_reducible first|exact HB.out|apply below_alloc|apply pw_below_drewN|apply below_drew1)|exact HB.out))));have n1_:=Aside0.mk (below_step (by repeat(first|(with_reducible first|exact HB.out|apply below_alloc|apply pw_below_drewN|apply below_drew1)|exact HB.out)) hb);clear HB;have HO151:=n0_;have HB:=n1_;clear n0_ n1_;clear hb ho33))
                          go_ret
                          exact⟨_,by first|rfl|(simp[errW_none,errW_some]<;>rfl)|(simp[*,errW_none,errW_some]<;>rfl),by(with_reducible repeat(first|apply Kd.R_alloc|apply Kd.R_drewN|apply Kd.R_drew));exact HO151.out,by repeat(first|(with_reducible first|exact HB.out|apply below_alloc|apply pw_below_drewN|apply below_drew1)|exact HB.out)⟩
                        · rw[if_neg c31]at H
                          have c31b0:(a0==13)=false:=beq_eq_false_iff_ne.mpr c31;have c31b1:(a0 !=13)=true:=bne_iff_ne.mpr c31;obtain⟨y152,hy152⟩: ∃y_:List Bool,y_=(([]:List Bool)):=⟨_,rfl⟩;replace H:(some y152)=some r:=by first|(rw[hy152];with_reducible exact H)|(have H2_:=(Option.bind_some _ _).symm.trans H;rw[hy152];with_reducible exact H2_)|(have H2_:=(Option.bind_some _ _).symm.trans H;with_reducible exact H2_)|with_reducible exact H|(rw[hy152];exact H)|exact H
                          have Ny152:=Aside0.mk hy152;clear hy152;obtain rfl:=Option.some.inj H;go_wp2_with (first|((with_reducible refine gate_dst (N:=34) rfl ?_);refine Kd.R_lit Kd.bool _ 4 ?hg (N:=34) ?hd (xs:=([]:List Bool)) (inner:=[]) (ok:=fun _=>True) (okp:=fun _=>True) ?hr ?hp (fun _ hk=>hk) trivial (Below.refl _ _) (Nat.le_refl _) (by simp) ?_;(case hd=>rfl);(case hg=>rfl);(case hr=>first|(go_simp;done)|(go_simp;rfl));(case hp=>exact(Reps.none _ _));intro v153 w34 ho35 hb hg_ hnew_;clear hg_ hnew_;(first|rw[←Ny152.out]at ho35|(simp only[Int.reduceToNat]at ho35;rw[←Ny152.out]at ho35));have n0_:=Aside0.mk (Kd.R_lower ho35 (below_size (by repeat(first|(with_reducible first|exact HB.out|apply below_alloc|apply pw_below_drewN|apply below_drew1)|exact HB.out))));have n1_:=Aside0.mk (below_step (by repeat(first|(with_reducible first|exact HB.out|apply below_alloc|apply pw_below_drewN|apply below_drew1)|exact HB.out)) hb);clear HB;have HO154:=n0_;have HB:=n1_;clear n0_ n1_;clear hb ho35))
                          go_ret
                          exact⟨_,by first|rfl|(simp[errW_none,errW_some]<;>rfl)|(simp[*,errW_none,errW_some]<;>rfl),by(with_reducible repeat(first|apply Kd.R_alloc|apply Kd.R_drewN|apply Kd.R_drew));exact HO154.out,by repeat(first|(with_reducible first|exact HB.out|apply below_alloc|apply pw_below_drewN|apply below_drew1)|exact HB.out)⟩
def spec_l6In.f (a0:Int) (a1:Int) (a2:Int):Option (Bool):=if a0≥a1 then(some (decide (a0≤a2)))else(some false)
theorem spec_l6In.calls (a0:Int) (a1:Int) (a2:Int) (r:Bool) (w:World) (h:spec_l6In.f a0 a1 a2=some r):
    Calls Tryd.prog 56 #[.int .i64 a0,.int .i64 a1,.int .i64 a2] w fun e w'=>e= .returned (.bool r)∧Drawn0 w w':=by
  have H:(if a0≥a1 then(some (decide (a0≤a2)))else(some false))=some r:=h
  clear h;by_cases c4:a0≥a1
  · rw[if_pos c4]at H
    have c4b0:decide (a1≤a0)=true:=decide_eq_true c4;clear c4;obtain rfl:=Option.some.inj H;go_enter Tryd.func56,Tryd.ntmps56
    go_wp2
    go_ret
    exact⟨by first|rfl|(simp;done)|(simp[*];done),by repeat(first|exact Drawn0.refl _|apply Drawn0.step)⟩
  · rw[if_neg c4]at H
    have c4b0:decide (a1≤a0)=false:=decide_eq_false c4;clear c4;obtain rfl:=Option.some.inj H;go_enter Tryd.func56,Tryd.ntmps56
    go_wp2
    go_ret
    exact⟨by first|rfl|(simp;done)|(simp[*];done),by repeat(first|exact Drawn0.refl _|apply Drawn0.step)⟩
def spec_ValOk.f (a0_0:Int) (a0_1:Int):Option (Bool):=if a0_0=0 then(some (a0_1==0))else(if a0_0=1 then((spec_l6In.f a0_1 (-99) 99).bind fun t156=>(some t156))else(if a0_0=2 then((spec_l6In.f a0_1 0 9).bind fun t157=>(some t157))else(if a0_0=3 then((spec_l6In.f a0_1 1 6).bind fun t158=>(some t158))else(some false))))
theorem spec_ValOk.calls (a0_0:Int) (a0_1:Int) (r:Bool) (w:World) (h:spec_ValOk.f a0_0 a0_1=some r):
    Calls Tryd.prog 42 #[.agg #[.int .i64 a0_0,.int .i64 a0_1]] w fun e w'=>e= .returned (.bool r)∧Below w.heap.size w w':=by
  have hu25:=Tryd.underlying25;have HB:=Aside0.mk (Below.refl w.heap.size w);have H:(if a0_0=0 then(some (a0_1==0))else(if a0_0=1 then((spec_l6In.f a0_1 (-99) 99).bind fun t156=>(some t156))else(if a0_0=2 then((spec_l6In.f a0_1 0 9).bind fun t157=>(some t157))else(if a0_0=3 then((spec_l6In.f a0_1 1 6).bind fun t158=>(some t158))else(some false)))))=some r:=h
  clear h;by_cases c2:a0_0=0
  · rw[if_pos c2]at H
    have c2b0:(a0_0==0)=true:=beq_iff_eq.mpr c2;have c2b1:(a0_0 !=0)=false:=bne_eq_false_iff_eq.mpr c2;clear c2;obtain rfl:=Option.some.inj H;go_enter Tryd.func42,Tryd.ntmps42
    go_wp2_with (first|((with_reducible refine gate_dst (N:=1) rfl ?_);refine box_event ?hg (N:=1) ?hd (cs:= #[.int .i64 a0_0,.int .i64 a0_1]) (t:=25) ?hr ?_;(case hd=>rfl);(case hg=>rfl);(case hr=>first|(go_simp;done)|(go_simp;rfl));intro gb155 hg w3 hbox hb;have n0_:=Aside0.mk (below_step (by repeat(first|(with_reducible first|exact HB.out|apply below_alloc|apply pw_below_drewN|apply below_drew1)|exact HB.out)) hb);have n1_:=Aside0.mk (hbox);have n2_:=Aside0.mk ((by rw[hg];exact(below_size (by repeat(first|(with_reducible first|exact HB.out|apply below_alloc|apply pw_below_drewN|apply below_drew1)|exact HB.out))):w.heap.size≤gb155));have n3_:=Aside0.mk ((by rw[hg];exact(below_size (by repeat(first|(with_reducible first|exact HB.out|apply below_alloc|apply pw_below_drewN|apply below_drew1)|exact HB.out))):w.heap.size≤gb155));clear HB;have HB:=n0_;have BK155:=n1_;have GW155:=n2_;have GE155:=n3_;clear n0_ n1_ n2_ n3_;clear hb hbox hg;have hcz4_0:w3.cell? ⟨gb155,0,none⟩=some (.int .i64 a0_0):=(blk_cell BK155.out 0).trans rfl;have hcz4_1:w3.cell? ⟨gb155,1,none⟩=some (.int .i64 a0_1):=(blk_cell BK155.out 1).trans rfl;have hfz4_0:=blk_frozen BK155.out 0;have hfz4_1:=blk_frozen BK155.out 1))
    go_ret
    exact⟨by first|rfl|(simp[errW_none,errW_some]<;>rfl)|(simp[*,errW_none,errW_some]<;>rfl),by repeat(first|(with_reducible first|exact HB.out|apply below_alloc|apply pw_below_drewN|apply below_drew1|refine below_set ?_ GE155.out)|exact HB.out)⟩
  · rw[if_neg c2]at H
    have c2b0:(a0_0==0)=false:=beq_eq_false_iff_ne.mpr c2;have c2b1:(a0_0 !=0)=true:=bne_iff_ne.mpr c2;by_cases c5:a0_0=1
    · rw[if_pos c5]at H
      have c5b0:(a0_0==1)=true:=beq_iff_eq.mpr c5;have c5b1:(a0_0 !=1)=false:=bne_eq_false_iff_eq.mpr c5;clear c5;replace H:=Option.bind_eq_some_iff.mp H;obtain⟨t156,A60,H⟩:=H;replace H:(some t156)=some r:=H;have A6:=Aside0.mk A60;clear A60;obtain rfl:=Option.some.inj H;go_enter Tryd.func42,Tryd.ntmps42
      go_wp2_with (first|((with_reducible refine gate_dst (N:=1) rfl ?_);refine box_event ?hg (N:=1) ?hd (cs:= #[.int .i64 a0_0,.int .i64 a0_1]) (t:=25) ?hr ?_;(case hd=>rfl);(case hg=>rfl);(case hr=>first|(go_simp;done)|(go_simp;rfl));intro gb155 hg w7 hbox hb;have n0_:=Aside0.mk (below_step (by repeat(first|(with_reducible first|exact HB.out|apply below_alloc|apply pw_below_drewN|apply below_drew1)|exact HB.out)) hb);have n1_:=Aside0.mk (hbox);have n2_:=Aside0.mk ((by rw[hg];exact(below_size (by repeat(first|(with_reducible first|exact HB.out|apply below_alloc|apply pw_below_drewN|apply below_drew1)|exact HB.out))):w.heap.size≤gb155));have n3_:=Aside0.mk ((by rw[hg];exact(below_size (by repeat(first|(with_reducible first|exact HB.out|apply below_alloc|apply pw_below_drewN|apply below_drew1)|exact HB.out))):w.heap.size≤gb155));clear HB;have HB:=n0_;have BK155:=n1_;have GW155:=n2_;have GE155:=n3_;clear n0_ n1_ n2_ n3_;clear hb hbox hg;have hcz8_0:w7.cell? ⟨gb155,0,none⟩=some (.int .i64 a0_0):=(blk_cell BK155.out 0).trans rfl;have hcz8_1:w7.cell? ⟨gb155,1,none⟩=some (.int .i64 a0_1):=(blk_cell BK155.out 1).trans rfl;have hfz8_0:=blk_frozen BK155.out 0;have hfz8_1:=blk_frozen BK155.out 1)|((with_reducible refine gate_callee (f:=56) rfl ?_);refine goesL_ (some 14) rfl rfl Tryd.func56 (by kernel_rfl) rfl #[.int .i64 a0_1,.int .i64 (-99),.int .i64 99] rfl (by(try simp only[List.map_toArray,List.map_cons,List.map_nil]);first|done|rfl|(simp only[List.length_drop,List.length_take];rfl)) ?_;(with_reducible refine(spec_l6In.calls a0_1 (-99) 99 t156 _ A6.out).mono ?_);rintro e w' ⟨rfl,⟨nd,rfl⟩⟩;refine⟨_,rfl,?_⟩))
      go_ret
      exact⟨by first|rfl|(simp[errW_none,errW_some]<;>rfl)|(simp[*,errW_none,errW_some]<;>rfl),by repeat(first|(with_reducible first|exact HB.out|apply below_alloc|apply pw_below_drewN|apply below_drew1|refine below_set ?_ GE155.out)|exact HB.out)⟩
    · rw[if_neg c5]at H
      have c5b0:(a0_0==1)=false:=beq_eq_false_iff_ne.mpr c5;have c5b1:(a0_0 !=1)=true:=bne_iff_ne.mpr c5;by_cases c9:a0_0=2
      · rw[if_pos c9]at H
        have c9b0:(a0_0==2)=true:=beq_iff_eq.mpr c9;have c9b1:(a0_0 !=2)=false:=bne_eq_false_iff_eq.mpr c9;clear c9;replace H:=Option.bind_eq_some_iff.mp H;obtain⟨t157,A100,H⟩:=H;replace H:(some t157)=some r:=H;have A10:=Aside0.mk A100;clear A100;obtain rfl:=Option.some.inj H;go_enter Tryd.func42,Tryd.ntmps42
        go_wp2_with (first|((with_reducible refine gate_dst (N:=1) rfl ?_);refine box_event ?hg (N:=1) ?hd (cs:= #[.int .i64 a0_0,.int .i64 a0_1]) (t:=25) ?hr ?_;(case hd=>rfl);(case hg=>rfl);(case hr=>first|(go_simp;done)|(go_simp;rfl));intro gb155 hg w11 hbox hb;have n0_:=Aside0.mk (below_step (by repeat(first|(with_reducible first|exact HB.out|apply below_alloc|apply pw_below_drewN|apply below_drew1)|exact HB.out)) hb);have n1_:=Aside0.mk (hbox);have n2_:=Aside0.mk ((by rw[hg];exact(below_size (by repeat(first|(with_reducible first|exact HB.out|apply below_alloc|apply pw_below_drewN|apply below_drew1)|exact HB.out))):w.heap.size≤gb155));have n3_:=Aside0.mk ((by rw[hg];exact(below_size (by repeat(first|(with_reducible first|exact HB.out|apply below_alloc|apply pw_below_drewN|apply below_drew1)|exact HB.out))):w.heap.size≤gb155));clear HB;have HB:=n0_;have BK155:=n1_;have GW155:=n2_;have GE155:=n3_;clear n0_ n1_ n2_ n3_;clear hb hbox hg;have hcz12_0:w11.cell? ⟨gb155,0,none⟩=some (.int .i64 a0_0):=(blk_cell BK155.out 0).trans rfl;have hcz12_1:w11.cell? ⟨gb155,1,none⟩=some (.int .i64 a0_1):=(blk_cell BK155.out 1).trans rfl;have hfz12_0:=blk_frozen BK155.out 0;have hfz12_1:=blk_frozen BK155.out 1)|((with_reducible refine gate_callee (f:=56) rfl ?_);refine goesL_ (some 19) rfl rfl Tryd.func56 (by kernel_rfl) rfl #[.int .i64 a0_1,.int .i64 0,.int .i64 9] rfl (by(try simp only[List.map_toArray,List.map_cons,List.map_nil]);first|done|rfl|(simp only[List.length_drop,List.length_take];rfl)) ?_;(with_reducible refine(spec_l6In.calls a0_1 0 9 t157 _ A10.out).mono ?_);rintro e w' ⟨rfl,⟨nd,rfl⟩⟩;refine⟨_,rfl,?_⟩))
        go_ret
        exact⟨by first|rfl|(simp[errW_none,errW_some]<;>rfl)|(simp[*,errW_none,errW_some]<;>rfl),by repeat(first|(with_reducible first|exact HB.out|apply below_alloc|apply pw_below_drewN|apply below_drew1|refine below_set ?_ GE155.out)|exact HB.out)⟩
      · rw[if_neg c9]at H
        have c9b0:(a0_0==2)=false:=beq_eq_false_iff_ne.mpr c9;have c9b1:(a0_0 !=2)=true:=bne_iff_ne.mpr c9;by_cases c13:a0_0=3
        · rw[if_pos c13]at H
          have c13b0:(a0_0==3)=true:=beq_iff_eq.mpr c13;have c13b1:(a0_0 !=3)=false:=bne_eq_false_iff_eq.mpr c13;clear c13;replace H:=Option.bind_eq_some_iff.mp H;obtain⟨t158,A140,H⟩:=H;replace H:(some t158)=some r:=H;have A14:=Aside0.mk A140;clear A140;obtain rfl:=Option.some.inj H;go_enter Tryd.func42,Tryd.ntmps42
          go_wp2_with (first|((with_reducible refine gate_dst (N:=1) rfl ?_);refine box_event ?hg (N:=1) ?hd (cs:= #[.int .i64 a0_0,.int .i64 a0_1]) (t:=25) ?hr ?_;(case hd=>rfl);(case hg=>rfl);(case hr=>first|(go_simp;done)|(go_simp;rfl));intro gb155 hg w15 hbox hb;have n0_:=Aside0.mk (below_step (by repeat(first|(with_reducible first|exact HB.out|apply below_alloc|apply pw_below_drewN|apply below_drew1)|exact HB.out)) hb);have n1_:=Aside0.mk (hbox);have n2_:=Aside0.mk ((by rw[hg];exact(below_size (by repeat(first|(with_reducible first|exact HB.out|apply below_alloc|apply pw_below_drewN|apply below_drew1)|exact HB.out))):w.heap.size≤gb155));have n3_:=Aside0.mk ((by rw[hg];exact(below_size (by repeat(first|(with_reducible first|exact HB.out|apply below_alloc|apply pw_below_drewN|apply below_drew1)|exact HB.out))):w.heap.size≤gb155));clear HB;have HB:=n0_;have BK155:=n1_;have GW155:=n2_;have GE155:=n3_;clear n0_ n1_ n2_ n3_;clear hb hbox hg;have hcz16_0:w15.cell? ⟨gb155,0,none⟩=some (.int .i64 a0_0):=(blk_cell BK155.out 0).trans rfl;have hcz16_1:w15.cell? ⟨gb155,1,none⟩=some (.int .i64 a0_1):=(blk_cell BK155.out 1).trans rfl;have hfz16_0:=blk_frozen BK155.out 0;have hfz16_1:=blk_frozen BK155.out 1)|((with_reducible refine gate_callee (f:=56) rfl ?_);refine goesL_ (some 24) rfl rfl Tryd.func56 (by kernel_rfl) rfl #[.int .i64 a0_1,.int .i64 1,.int .i64 6] rfl (by(try simp only[List.map_toArray,List.map_cons,List.map_nil]);first|done|rfl|(simp only[List.length_drop,List.length_take];rfl)) ?_;(with_reducible refine(spec_l6In.calls a0_1 1 6 t158 _ A14.out).mono ?_);rintro e w' ⟨rfl,⟨nd,rfl⟩⟩;refine⟨_,rfl,?_⟩))
          go_ret
          exact⟨by first|rfl|(simp[errW_none,errW_some]<;>rfl)|(simp[*,errW_none,errW_some]<;>rfl),by repeat(first|(with_reducible first|exact HB.out|apply below_alloc|apply pw_below_drewN|apply below_drew1|refine below_set ?_ GE155.out)|exact HB.out)⟩
        · rw[if_neg c13]at H
          have c13b0:(a0_0==3)=false:=beq_eq_false_iff_ne.mpr c13;have c13b1:(a0_0 !=3)=true:=bne_iff_ne.mpr c13;obtain rfl:=Option.some.inj H;go_enter Tryd.func42,Tryd.ntmps42
          go_wp2_with (first|((with_reducible refine gate_dst (N:=1) rfl ?_);refine box_event ?hg (N:=1) ?hd (cs:= #[.int .i64 a0_0,.int .i64 a0_1]) (t:=25) ?hr ?_;(case hd=>rfl);(case hg=>rfl);(case hr=>first|(go_simp;done)|(go_simp;rfl));intro gb155 hg w17 hbox hb;have n0_:=Aside0.mk (below_step (by repeat(first|(with_reducible first|exact HB.out|apply below_alloc|apply pw_below_drewN|apply below_drew1)|exact HB.out)) hb);have n1_:=Aside0.mk (hbox);have n2_:=Aside0.mk ((by rw[hg];exact(below_size (by repeat(first|(with_reducible first|exact HB.out|apply below_alloc|apply pw_below_drewN|apply below_drew1)|exact HB.out))):w.heap.size≤gb155));have n3_:=Aside0.mk ((by rw[hg];exact(below_size (by repeat(first|(with_reducible first|exact HB.out|apply below_alloc|apply pw_below_drewN|apply below_drew1)|exact HB.out))):w.heap.size≤gb155));clear HB;have HB:=n0_;have BK155:=n1_;have GW155:=n2_;have GE155:=n3_;clear n0_ n1_ n2_ n3_;clear hb hbox hg;have hcz18_0:w17.cell? ⟨gb155,0,none⟩=some (.int .i64 a0_0):=(blk_cell BK155.out 0).trans rfl;have hcz18_1:w17.cell? ⟨gb155,1,none⟩=some (.int .i64 a0_1):=(blk_cell BK155.out 1).trans rfl;have hfz18_0:=blk_frozen BK155.out 0;have hfz18_1:=blk_frozen BK155.out 1))
          go_ret
          exact⟨by first|rfl|(simp[errW_none,errW_some]<;>rfl)|(simp[*,errW_none,errW_some]<;>rfl),by repeat(first|(with_reducible first|exact HB.out|apply below_alloc|apply pw_below_drewN|apply below_drew1|refine below_set ?_ GE155.out)|exact HB.out)⟩
end Go.Proofs.YtmklpbmlgjkbiaaDoor.PS
end
section
namespace Go.Proofs.YtmklpbmlgjkbiaaDoor.PS
open Go.RowKit Go.Proofs.YtmklpbmlgjkbiaaDoorW.PrintWords Go.Proofs.YtmklpbmlgjkbiaaDoorW.PrintLast Go.Proofs.YtmklpbmlgjkbiaaDoorW.PrintMore
attribute [local go_sem] max2_int min2_int max_two min_two max_three min_three max_four min_four   -- for this text's walks alone
def IsS95 (w0 W:World) (g:Nat) (f0:List Int) (f1:Int):Prop:= ∃A0 c0,W.heap[g]?=some (.cells #[.slice A0 f0.length c0,.int .i64 f1] 95 (0,0))∧w0.heap.size≤g∧Kd.C (Kd.int .u8) w0 A0 f0.length f0
theorem IsS95.grown {w0 W:World} {g:Nat} {f0:List Int} {f1:Int} {W1:World} {row:Option Nat} (h:IsS95 w0 W g f0 f1) (hw:W.grownBy W1 row) (hne:some g≠row):IsS95 w0 W1 g f0 f1:=by
  obtain⟨A0,c0,hb,hg,hr0⟩:=h;exact⟨A0,c0,blk_grown hb hw hne,hg,hr0⟩
theorem IsS95.kept {w0 W:World} {g:Nat} {f0:List Int} {f1:Int} {W1:World} {S:Nat→Prop} (h:IsS95 w0 W g f0 f1) (hk:Kept W W1 S) (hne: ¬S g):IsS95 w0 W1 g f0 f1:=by
  obtain⟨A0,c0,hb,hg,hr0⟩:=h;exact⟨A0,c0,blk_kept hb hk hne,hg,hr0⟩
theorem IsS95.below {w0 W:World} {g:Nat} {f0:List Int} {f1:Int} {W1:World} (h:IsS95 w0 W g f0 f1) (hw:Below W.heap.size W W1):IsS95 w0 W1 g f0 f1:=h.grown (grown_of_below hw none) (by simp)
theorem IsS95.alloc {w0 W:World} {g:Nat} {f0:List Int} {f1:Int} (h:IsS95 w0 W g f0 f1) (o:Obj):IsS95 w0 (W.alloc o) g f0 f1:=h.below (below_alloc (Below.refl _ _) o)
theorem IsS95.drewN {w0 W:World} {g:Nat} {f0:List Int} {f1:Int} (h:IsS95 w0 W g f0 f1) (m:Nat):IsS95 w0 (W.drewN m) g f0 f1:=h
theorem IsS95.drew {w0 W:World} {g:Nat} {f0:List Int} {f1:Int} (h:IsS95 w0 W g f0 f1):IsS95 w0 W.drew g f0 f1:=h
theorem IsS95.apart {w0 W:World} {g:Nat} {f0:List Int} {f1:Int} {α:Type} {d:Kd α} {e:Nat} {base:Nat} {ok:Nat→Prop} {v:Value} {xs:List α} (h:IsS95 w0 W g f0 f1) (ho:d.R e W base ok v xs) (ht: ∀q,q∈e::d.E→q≠95):d.R e W base (fun k=>ok k∧k≠g) v xs:=by
  obtain⟨A0,c0,hb,hg,hr0⟩:=h;exact Kd.R_types ho hb ht
theorem IsS95.lt {w0 W:World} {g:Nat} {f0:List Int} {f1:Int} (h:IsS95 w0 W g f0 f1):g<W.heap.size:=by
  obtain⟨A0,c0,hb,hg,hr0⟩:=h;exact blk_lt hb
theorem IsS95.ge {w0 W:World} {g:Nat} {f0:List Int} {f1:Int} (h:IsS95 w0 W g f0 f1):w0.heap.size≤g:=by
  obtain⟨A0,c0,hb,hg,hr0⟩:=h;exact hg
theorem IsS95.ne_blk {w0 W:World} {g:Nat} {f0:List Int} {f1:Int} {a:Nat} {cs:Array Value} {t:TypeId} {fr:Nat×Nat} (h:IsS95 w0 W g f0 f1) (hb2:W.heap[a]?=some (.cells cs t fr)) (ht:t≠95):g≠a:=by
  obtain⟨A0,c0,hb,hg,hr0⟩:=h;rintro rfl
  rw[hb]at hb2
  injection hb2 with hb2
  injection hb2 with _ ht2
  exact ht ht2.symm
theorem IsS95.far {w0 W:World} {g:Nat} {f0:List Int} {f1:Int} {p:Addr} (h:IsS95 w0 W g f0 f1) (hne:g≠p.block) (u:Value):IsS95 w0 (W.setCell p u) g f0 f1:=by
  obtain⟨A0,c0,hb,hg,hr0⟩:=h;exact⟨A0,c0,blk_far hb hne u,hg,hr0⟩
theorem cellS95_0 {W:World} {g:Nat} {A0:Option Addr} {c0:Nat} {f0:List Int} {f1:Int} (h:W.heap[g]?=some (.cells #[.slice A0 f0.length c0,.int .i64 f1] 95 (0,0))):W.cell? ⟨g,0,none⟩=some (.slice A0 f0.length c0):=(blk_cell h 0).trans rfl
theorem cellS95_1 {W:World} {g:Nat} {A0:Option Addr} {c0:Nat} {f0:List Int} {f1:Int} (h:W.heap[g]?=some (.cells #[.slice A0 f0.length c0,.int .i64 f1] 95 (0,0))):W.cell? ⟨g,1,none⟩=some (.int .i64 f1):=(blk_cell h 1).trans rfl
theorem IsS95.set_1 {w0 W:World} {g:Nat} {f0:List Int} {f1:Int} (h:IsS95 w0 W g f0 f1) (x:Int):IsS95 w0 (W.setCell ⟨g,1,none⟩ (.int .i64 x)) g f0 x:=by
  obtain⟨A0,c0,hb,hg,hr0⟩:=h;exact⟨A0,c0,by simpa using blk_set hb 1 (.int .i64 x),hg,hr0⟩
def spec_l6Open.f (l0:List Int):Option (List Int×Int):=if(l0.length:Int)>2000 then(if 2000≤(l0.length:Int)then(some (l0.take 2000,0))else(none))else(some (l0,0))
theorem spec_l6Open.calls (A0:Option Addr) (c0:Nat) (l0:List Int) (r1:List Int) (r2:Int) (w0 w:World) (hB:Below w0.heap.size w0 w) (hr0:Kd.C (Kd.int .u8) w0 A0 l0.length l0) (hc0:l0.length≤c0) (h:spec_l6Open.f l0=some (r1,r2)):
    Calls Tryd.prog 46 #[.slice A0 l0.length c0] w fun e w'=> ∃g_:Nat,e= .returned (.pointer (some ⟨g_,0,none⟩))∧IsS95 w0 w' g_ r1 r2∧Below w0.heap.size w0 w'∧Below w.heap.size w w':=by
  have hu95:=Tryd.underlying95;have HR0:=Aside0.mk hr0;have HC0:=Aside0.mk hc0;clear hr0 hc0;have HBW:=Aside0.mk (Below.refl w.heap.size w);have HW0:=Aside0.mk hB.size;have HB:=Aside0.mk hB;clear hB;have H:(if(l0.length:Int)>2000 then(if 2000≤(l0.length:Int)then(some (l0.take 2000,0))else(none))else(some (l0,0)))=some (r1,r2):=h
  clear h;by_cases c2:(l0.length:Int)>2000
  · rw[if_pos c2]at H
    have c2b0:decide (2000<(l0.length:Int))=true:=decide_eq_true c2;have c2b1:decide (2000<l0.length)=true:=decide_eq_true (by omega)
    clear c2;by_cases c3:2000≤(l0.length:Int)
    · rw[if_pos c3]at H
      have c3b0:=eq_true c3;have c3b1:decide (2000≤(l0.length:Int))=true:=decide_eq_true c3;clear c3;simp only[Option.some.injEq,Prod.mk.injEq]at H
      obtain⟨rfl,rfl⟩:=H;obtain⟨i04,hi04,_,hsz4,_⟩:=info_parts info5;obtain⟨hcut4,hA4,hC4⟩:=print_take_of (P:=Tryd.prog) (Value.int .u8) 0 28 5 .i64 Tryd.underlying28 hi04 hsz4 A0 c0 l0 2000 (by omega) (of_decide_eq_true (by first|(with_reducible assumption)|assumption)) HC0.out
      have HR159:=Aside0.mk (Kd.C_of_reads (h1:=fun _=>rfl) (hA4 _ (Kd.reads_of_C HR0.out)))
      have HC159:=Aside0.mk hC4;clear hA4 hC4 hi04 hsz4;go_enter Tryd.func46,Tryd.ntmps46
      go_wp2_with (first|((with_reducible refine gate_dst (N:=10) rfl ?_);refine box_event ?hg (N:=10) ?hd (cs:= #[.slice A0 (l0.take 2000).length c0,.int .i64 0]) (t:=95) ?hr ?_;(case hd=>rfl);(case hg=>rfl);(case hr=>first|(go_simp;done)|(go_simp;rfl));intro gb160 hg w5 hbox hb;have n0_:=Aside0.mk (below_step HBW.out hb);have n1_:=Aside0.mk (below_step (by repeat(first|(with_reducible first|exact HB.out|apply below_alloc|apply pw_below_drewN|apply below_drew1)|exact HB.out)) hb);have n2_:=Aside0.mk (hbox);have n3_:=Aside0.mk ((by rw[hg];exact(below_size (by repeat(first|(with_reducible first|exact HBW.out|apply below_alloc|apply pw_below_drewN|apply below_drew1)|exact HBW.out))):w.heap.size≤gb160));have n4_:=Aside0.mk ((Nat.le_trans HW0.out (by rw[hg];exact(below_size (by repeat(first|(with_reducible first|exact HBW.out|apply below_alloc|apply pw_below_drewN|apply below_drew1)|exact HBW.out))):w.heap.size≤gb160):w0.heap.size≤gb160));clear HBW;clear HB;have HBW:=n0_;have HB:=n1_;have BK160:=n2_;have GW160:=n3_;have GE160:=n4_;clear n0_ n1_ n2_ n3_ n4_;clear hb hbox hg))
      go_ret
      exact⟨_,rfl,(show IsS95 w0 _ gb160 (l0.take 2000) 0 from⟨_,_,by(with_reducible repeat(first|refine blk_drewN ?_ _|refine blk_drew ?_|refine blk_alloc ?_ _));exact BK160.out,GE160.out,HR159.out⟩),by repeat(first|(with_reducible first|exact HB.out|apply below_alloc|apply pw_below_drewN|apply below_drew1|refine below_set ?_ GE160.out)|exact HB.out),by repeat(first|(with_reducible first|exact HBW.out|apply below_alloc|apply pw_below_drewN|apply below_drew1|refine below_set ?_ GW160.out)|exact HBW.out)⟩
    · rw[if_neg c3]at H
      exact absurd H (by simp)
  · rw[if_neg c2]at H
    have c2b0:decide (2000<(l0.length:Int))=false:=decide_eq_false c2;have c2b1:decide (2000<l0.length)=false:=decide_eq_false (by omega)
    clear c2;simp only[Option.some.injEq,Prod.mk.injEq]at H
    obtain⟨rfl,rfl⟩:=H;go_enter Tryd.func46,Tryd.ntmps46
    go_wp2_with (first|((with_reducible refine gate_dst (N:=10) rfl ?_);refine box_event ?hg (N:=10) ?hd (cs:= #[.slice A0 l0.length c0,.int .i64 0]) (t:=95) ?hr ?_;(case hd=>rfl);(case hg=>rfl);(case hr=>first|(go_simp;done)|(go_simp;rfl));intro gb161 hg w6 hbox hb;have n0_:=Aside0.mk (below_step HBW.out hb);have n1_:=Aside0.mk (below_step (by repeat(first|(with_reducible first|exact HB.out|apply below_alloc|apply pw_below_drewN|apply below_drew1)|exact HB.out)) hb);have n2_:=Aside0.mk (hbox);have n3_:=Aside0.mk ((by rw[hg];exact(below_size (by repeat(first|(with_reducible first|exact HBW.out|apply below_alloc|apply pw_below_drewN|apply below_drew1)|exact HBW.out))):w.heap.size≤gb161));have n4_:=Aside0.mk ((Nat.le_trans HW0.out (by rw[hg];exact(below_size (by repeat(first|(with_reducible first|exact HBW.out|apply below_alloc|apply pw_below_drewN|apply below_drew1)|exact HBW.out))):w.heap.size≤gb161):w0.heap.size≤gb161));clear HBW;clear HB;have HBW:=n0_;have HB:=n1_;have BK161:=n2_;have GW161:=n3_;have GE161:=n4_;clear n0_ n1_ n2_ n3_ n4_;clear hb hbox hg))
    go_ret
    exact⟨_,rfl,(show IsS95 w0 _ gb161 l0 0 from⟨_,_,by(with_reducible repeat(first|refine blk_drewN ?_ _|refine blk_drew ?_|refine blk_alloc ?_ _));exact BK161.out,GE161.out,HR0.out⟩),by repeat(first|(with_reducible first|exact HB.out|apply below_alloc|apply pw_below_drewN|apply below_drew1|refine below_set ?_ GE161.out)|exact HB.out),by repeat(first|(with_reducible first|exact HBW.out|apply below_alloc|apply pw_below_drewN|apply below_drew1|refine below_set ?_ GW161.out)|exact HBW.out)⟩
def spec_l6Rd_pick.j0:Nat→Int→Bool→List Int→Int→Option (Int×Int)
  |0,_,_,_,_=>none
  |k+1,x1,x24,x1000,x1001=>if x24=true then(some (0,x1001))else(if(wrap64 (x1001-1))<(x1000.length:Int)then(if 0≤(wrap64 (x1001-1))then(if x1=0 then(none)else(some (Int.tmod (wrap64 (rd x1000 (wrap64 (x1001-1)))) x1,x1001)))else(none))else(if(x1000.length:Int)=0 then(none)else(if 0≤(Int.tmod (wrap64 (x1001-1)) (x1000.length:Int))then(if(Int.tmod (wrap64 (x1001-1)) (x1000.length:Int))<(x1000.length:Int)then(if 0≤(Int.tmod (wrap64 ((wrap64 ((wrap64 (x1001-1))*7))+3)) (x1000.length:Int))then(if(Int.tmod (wrap64 ((wrap64 ((wrap64 (x1001-1))*7))+3)) (x1000.length:Int))<(x1000.length:Int)then(if x1=0 then(none)else(some (Int.tmod (Go.bits .xor .i64 (wrap64 ((wrap64 ((wrap64 ((wrap64 ((wrap64 (rd x1000 (Int.tmod (wrap64 (x1001-1)) (x1000.length:Int))))*131))+(wrap64 ((wrap64 (rd x1000 (Int.tmod (wrap64 ((wrap64 ((wrap64 (x1001-1))*7))+3)) (x1000.length:Int))))*1117))))+(wrap64 ((wrap64 (x1001-1))*29))))+(wrap64 ((wrap64 (Int.tdiv (wrap64 (x1001-1)) (x1000.length:Int)))*53)))) (wrap64 (Int.tdiv (wrap64 ((wrap64 ((wrap64 ((wrap64 ((wrap64 (rd x1000 (Int.tmod (wrap64 (x1001-1)) (x1000.length:Int))))*131))+(wrap64 ((wrap64 (rd x1000 (Int.tmod (wrap64 ((wrap64 ((wrap64 (x1001-1))*7))+3)) (x1000.length:Int))))*1117))))+(wrap64 ((wrap64 (x1001-1))*29))))+(wrap64 ((wrap64 (Int.tdiv (wrap64 (x1001-1)) (x1000.length:Int)))*53)))) 64))) x1,x1001)))else(none))else(none))else(none))else(none))))
def spec_l6Rd_pick.f (k:Nat) (s0_0:List Int) (s0_1:Int) (a1:Int):Option (Int×Int):=if a1<1 then(spec_l6Rd_pick.j0 k a1 true s0_0 (wrap64 (s0_1+1)))else(spec_l6Rd_pick.j0 k a1 ((s0_0.length:Int)==0) s0_0 (wrap64 (s0_1+1)))
theorem spec_l6Rd_pick.calls (k:Nat) (g:Nat) (s0_0:List Int) (s0_1:Int) (a1:Int) (r1:Int) (r2:Int) (w0 w:World) (hI:IsS95 w0 w g s0_0 s0_1) (hB:Below w0.heap.size w0 w) (h:spec_l6Rd_pick.f k s0_0 s0_1 a1=some (r1,r2)):
    Calls Tryd.prog 47 #[.pointer (some ⟨g,0,none⟩),.int .i64 a1] w fun e w'=>e= .returned (.int .i64 r1)∧IsS95 w0 w' g s0_0 r2∧Below w0.heap.size w0 w'∧KeepBut w w' g none:=by
  have HI0:=Aside0.mk hI;have HK:=Aside0.mk (KeepBut.refl w g none);have HL:=Aside0.mk hB.size;clear hI;have HW0:=Aside0.mk hB.size;have HB:=Aside0.mk hB;clear hB;have H:(if a1<1 then(spec_l6Rd_pick.j0 k a1 true s0_0 (wrap64 (s0_1+1)))else(spec_l6Rd_pick.j0 k a1 ((s0_0.length:Int)==0) s0_0 (wrap64 (s0_1+1))))=some (r1,r2):=h
  clear h;have HC3:=Aside0.mk H;clear H;obtain⟨ASz4_0,cSz4_0,HGz4,hgz4,HSz4_0⟩:=HI0.out;have hcz4_0:=cellS95_0 HGz4;have hcz4_1:=cellS95_1 HGz4;have hfz4_1:=blk_frozen HGz4 1;clear HGz4 hgz4;go_enter Tryd.func47,Tryd.ntmps47
  go_upto_region 2 with (fail)
  repeat(go_quiet (fail);go_upto_region 2 with (fail))
  go_cut [24] (fun v24 wc=> ∃ (kq:Nat) (x24_2:Bool),v24= .bool x24_2∧Aside0 (spec_l6Rd_pick.j0 kq a1 x24_2 s0_0 (wrap64 (s0_1+1))=some (r1,r2))∧Aside0 (kq≤k)∧Aside0 (IsS95 w0 wc g s0_0 (wrap64 (s0_1+1)))∧Aside0 (KeepBut w wc g none)∧Aside0 (Below w0.heap.size w0 wc))
  case first=>
    have H:=HC3.out;clear HC3;by_cases c5:a1<1
    · rw[if_pos c5]at H
      have c5b0:decide (a1<1)=true:=decide_eq_true c5;clear c5;(first|rw[c5b0]|(simp only[i64_w,i32_w];rw[c5b0])|skip)
      have H':=Aside0.mk H;clear H;go_wp2
      repeat(go_quiet (fail);try go_wp2)
      go_meet
      case rel=>exact⟨_,(true),(by first|rfl|(simp;done)|(simp[*];done)),H',⟨by first|omega|exact Nat.le_refl _⟩,⟨by repeat(first|(with_reducible first|exact HI0.out|apply IsS95.alloc|apply IsS95.drewN|apply IsS95.drew|apply IsS95.set_1)|exact HI0.out)⟩,⟨by repeat(first|(with_reducible first|exact HK.out|apply KeepBut.set_|apply keep_drewN|apply keep_drew|apply keep_alloc)|exact HK.out)⟩,⟨by repeat(first|(with_reducible first|exact HB.out|apply below_alloc|apply pw_below_drewN|apply below_drew1|refine below_set ?_ (IsS95.ge HI0.out))|exact HB.out)⟩⟩
    · rw[if_neg c5]at H
      have c5b0:decide (a1<1)=false:=decide_eq_false c5;clear c5;(first|rw[c5b0]|(simp only[i64_w,i32_w];rw[c5b0])|skip)
      have H':=Aside0.mk H;clear H;obtain⟨ASz6_0,cSz6_0,HGz6,hgz6,HSz6_0⟩:=HI0.out;have hcz6_0:=cellS95_0 HGz6;have hcz6_1:=cellS95_1 HGz6;have hfz6_1:=blk_frozen HGz6 1;clear HGz6 hgz6;go_wp2
      repeat(go_quiet (fail);try go_wp2)
      go_meet
      case rel=>exact⟨_,(((s0_0.length:Int)==0)),(by first|rfl|(simp;done)|(simp[*];done)),H',⟨by first|omega|exact Nat.le_refl _⟩,⟨by repeat(first|(with_reducible first|exact HI0.out|apply IsS95.alloc|apply IsS95.drewN|apply IsS95.drew|apply IsS95.set_1)|exact HI0.out)⟩,⟨by repeat(first|(with_reducible first|exact HK.out|apply KeepBut.set_|apply keep_drewN|apply keep_drew|apply keep_alloc)|exact HK.out)⟩,⟨by repeat(first|(with_reducible first|exact HB.out|apply below_alloc|apply pw_below_drewN|apply below_drew1|refine below_set ?_ (IsS95.ge HI0.out))|exact HB.out)⟩⟩
  case rest=>
    clear HC3;try clear p2
    try clear c4
    try clear c5
    try clear c5b0
    try clear p6
    try clear hcz4_0
    try clear hcz4_1
    try clear hcz6_0
    try clear hcz6_1
    try clear hfz4_1
    try clear hfz6_1
    obtain⟨kq,x24_2,rfl,HA,HJ2,HI0,HK,HB⟩:=hcut;cases kq with
    |zero=>exact absurd HA.out (by simp[spec_l6Rd_pick.j0])
    |succ kj2=>
      have H:=HA.out;clear HA;simp only[spec_l6Rd_pick.j0]at H
      by_cases c7:x24_2=true
      · subst c7
        have H1:(some (0,(wrap64 (s0_1+1))))=some (r1,r2):=by rw[if_pos rfl]at H;exact H
        clear H;have H:=H1;clear H1;simp only[Option.some.injEq,Prod.mk.injEq]at H
        obtain⟨rfl,rfl⟩:=H;go_wp2
        repeat(go_quiet (fail);try go_wp2)
        go_ret
        exact⟨by first|rfl|(simp[errW_none,errW_some]<;>rfl)|(simp[*,errW_none,errW_some]<;>rfl),by repeat(first|(with_reducible first|exact HI0.out|apply IsS95.alloc|apply IsS95.drewN|apply IsS95.drew|apply IsS95.set_1)|exact HI0.out),by repeat(first|(with_reducible first|exact HB.out|apply below_alloc|apply pw_below_drewN|apply below_drew1|refine below_set ?_ (IsS95.ge HI0.out))|exact HB.out),by repeat(first|(with_reducible first|exact HK.out|apply KeepBut.set_|apply keep_drewN|apply keep_drew|apply keep_alloc)|exact HK.out)⟩
      · replace c7:=Bool.eq_false_iff.mpr c7
        subst c7;have H1:(if(wrap64 ((wrap64 (s0_1+1))-1))<(s0_0.length:Int)then(if 0≤(wrap64 ((wrap64 (s0_1+1))-1))then(if a1=0 then(none)else(some (Int.tmod (wrap64 (rd s0_0 (wrap64 ((wrap64 (s0_1+1))-1)))) a1,(wrap64 (s0_1+1)))))else(none))else(if(s0_0.length:Int)=0 then(none)else(if 0≤(Int.tmod (wrap64 ((wrap64 (s0_1+1))-1)) (s0_0.length:Int))then(if(Int.tmod (wrap64 ((wrap64 (s0_1+1))-1)) (s0_0.length:Int))<(s0_0.length:Int)then(if 0≤(Int.tmod (wrap64 ((wrap64 ((wrap64 ((wrap64 (s0_1+1))-1))*7))+3)) (s0_0.length:Int))then(if(Int.tmod (wrap64 ((wrap64 ((wrap64 ((wrap64 (s0_1+1))-1))*7))+3)) (s0_0.length:Int))<(s0_0.length:Int)then(if a1=0 then(none)else(some (Int.tmod (Go.bits .xor .i64 (wrap64 ((wrap64 ((wrap64 ((wrap64 ((wrap64 (rd s0_0 (Int.tmod (wrap64 ((wrap64 (s0_1+1))-1)) (s0_0.length:Int))))*131))+(wrap64 ((wrap64 (rd s0_0 (Int.tmod (wrap64 ((wrap64 ((wrap64 ((wrap64 (s0_1+1))-1))*7))+3)) (s0_0.length:Int))))*1117))))+(wrap64 ((wrap64 ((wrap64 (s0_1+1))-1))*29))))+(wrap64 ((wrap64 (Int.tdiv (wrap64 ((wrap64 (s0_1+1))-1)) (s0_0.length:Int)))*53)))) (wrap64 (Int.tdiv (wrap64 ((wrap64 ((wrap64 ((wrap64 ((wrap64 (rd s0_0 (Int.tmod (wrap64 ((wrap64 (s0_1+1))-1)) (s0_0.length:Int))))*131))+(wrap64 ((wrap64 (rd s0_0 (Int.tmod (wrap64 ((wrap64 ((wrap64 ((wrap64 (s0_1+1))-1))*7))+3)) (s0_0.length:Int))))*1117))))+(wrap64 ((wrap64 ((wrap64 (s0_1+1))-1))*29))))+(wrap64 ((wrap64 (Int.tdiv (wrap64 ((wrap64 (s0_1+1))-1)) (s0_0.length:Int)))*53)))) 64))) a1,(wrap64 (s0_1+1)))))else(none))else(none))else(none))else(none))))=some (r1,r2):=by rw[if_neg (show¬(false=true) by decide)]at H;exact H
        clear H;have H:=H1;clear H1;by_cases c8:(wrap64 ((wrap64 (s0_1+1))-1))<(s0_0.length:Int)
        · rw[if_pos c8]at H
          have c8b0:decide ((wrap64 ((wrap64 (s0_1+1))-1))<(s0_0.length:Int))=true:=decide_eq_true c8;clear c8;obtain⟨ji9,hji9⟩: ∃j_:Int,(wrap64 ((wrap64 (s0_1+1))-1))=j_:=⟨_,rfl⟩;replace H:(if 0≤(ji9)then(if a1=0 then(none)else(some (Int.tmod (wrap64 (rd s0_0 (ji9))) a1,(wrap64 (s0_1+1)))))else(none))=some (r1,r2):=by first|(rw[hji9]at H;exact H)|(simp only[hji9]at H⊢;exact H)
          (try rw[hji9]at c8b0)
          have hji9w:(IntKind.i64.wrap ((wrap64 (s0_1+1))-1))=ji9:=(i64_w _).trans hji9;by_cases c10:0≤(ji9)
          · rw[if_pos c10]at H
            have c10b0:decide (0≤(ji9))=true:=decide_eq_true c10;clear c10;by_cases c11:a1=0
            · rw[if_pos c11]at H
              exact absurd H (by simp)
            · rw[if_neg c11]at H
              have c11b0:(a1==0)=false:=beq_eq_false_iff_ne.mpr c11;have c11b1:(a1 !=0)=true:=bne_iff_ne.mpr c11;simp only[Option.some.injEq,Prod.mk.injEq]at H
              obtain⟨rfl,rfl⟩:=H;obtain⟨ASz12_0,cSz12_0,HGz12,hgz12,HSz12_0⟩:=HI0.out;have hcz12_0:=cellS95_0 HGz12;have hcz12_1:=cellS95_1 HGz12;have hfz12_1:=blk_frozen HGz12 1;clear HGz12 hgz12;have p162:0≤((ji9):Int):=of_decide_eq_true (by first|(with_reducible assumption)|assumption)
              have q162:(ji9)<(s0_0.length:Int):=of_decide_eq_true (by first|(with_reducible assumption)|assumption)
              obtain⟨ad162,e162,hx162_0⟩:=Kd.at_int HSz12_0 (ji9) p162 q162;cases e162
              replace hx162_0:=pw_cell_below HB.out hx162_0;replace p162:=eq_true p162;replace q162:=eq_true q162;go_wp2
              repeat(go_quiet (fail);try go_wp2)
              go_ret
              exact⟨by first|rfl|(simp[errW_none,errW_some]<;>rfl)|(simp only[←hji9];first|rfl|(simp[errW_none,errW_some]<;>rfl))|(simp[*,errW_none,errW_some]<;>rfl),by repeat(first|(with_reducible first|exact HI0.out|apply IsS95.alloc|apply IsS95.drewN|apply IsS95.drew|apply IsS95.set_1)|exact HI0.out),by repeat(first|(with_reducible first|exact HB.out|apply below_alloc|apply pw_below_drewN|apply below_drew1|refine below_set ?_ (IsS95.ge HI0.out))|exact HB.out),by repeat(first|(with_reducible first|exact HK.out|apply KeepBut.set_|apply keep_drewN|apply keep_drew|apply keep_alloc)|exact HK.out)⟩
          · rw[if_neg c10]at H
            exact absurd H (by simp)
        · rw[if_neg c8]at H
          have c8b0:decide ((wrap64 ((wrap64 (s0_1+1))-1))<(s0_0.length:Int))=false:=decide_eq_false c8;clear c8;by_cases c13:(s0_0.length:Int)=0
          · rw[if_pos c13]at H
            exact absurd H (by simp)
          · rw[if_neg c13]at H
            have c13b0:((s0_0.length:Int)==0)=false:=beq_eq_false_iff_ne.mpr c13;have c13b1:((s0_0.length:Int) !=0)=true:=bne_iff_ne.mpr c13;have c13b2: ¬(s0_0=[]):=fun h_=>c13 (by rw[h_];rfl)
            obtain⟨ji14,hji14⟩: ∃j_:Int,(Int.tmod (wrap64 ((wrap64 (s0_1+1))-1)) (s0_0.length:Int))=j_:=⟨_,rfl⟩;replace H:(if 0≤(ji14)then(if(ji14)<(s0_0.length:Int)then(if 0≤(Int.tmod (wrap64 ((wrap64 ((wrap64 ((wrap64 (s0_1+1))-1))*7))+3)) (s0_0.length:Int))then(if(Int.tmod (wrap64 ((wrap64 ((wrap64 ((wrap64 (s0_1+1))-1))*7))+3)) (s0_0.length:Int))<(s0_0.length:Int)then(if a1=0 then(none)else(some (Int.tmod (Go.bits .xor .i64 (wrap64 ((wrap64 ((wrap64 ((wrap64 ((wrap64 (rd s0_0 (ji14)))*131))+(wrap64 ((wrap64 (rd s0_0 (Int.tmod (wrap64 ((wrap64 ((wrap64 ((wrap64 (s0_1+1))-1))*7))+3)) (s0_0.length:Int))))*1117))))+(wrap64 ((wrap64 ((wrap64 (s0_1+1))-1))*29))))+(wrap64 ((wrap64 (Int.tdiv (wrap64 ((wrap64 (s0_1+1))-1)) (s0_0.length:Int)))*53)))) (wrap64 (Int.tdiv (wrap64 ((wrap64 ((wrap64 ((wrap64 ((wrap64 (rd s0_0 (ji14)))*131))+(wrap64 ((wrap64 (rd s0_0 (Int.tmod (wrap64 ((wrap64 ((wrap64 ((wrap64 (s0_1+1))-1))*7))+3)) (s0_0.length:Int))))*1117))))+(wrap64 ((wrap64 ((wrap64 (s0_1+1))-1))*29))))+(wrap64 ((wrap64 (Int.tdiv (wrap64 ((wrap64 (s0_1+1))-1)) (s0_0.length:Int)))*53)))) 64))) a1,(wrap64 (s0_1+1)))))else(none))else(none))else(none))else(none))=some (r1,r2):=by first|(rw[hji14]at H;exact H)|(simp only[hji14]at H⊢;exact H)
            by_cases c15:0≤(ji14)
            · rw[if_pos c15]at H
              have c15b0:decide (0≤(ji14))=true:=decide_eq_true c15;clear c15;by_cases c16:(ji14)<(s0_0.length:Int)
              · rw[if_pos c16]at H
                have c16b0:decide ((ji14)<(s0_0.length:Int))=true:=decide_eq_true c16;clear c16;obtain⟨ji17,hji17⟩: ∃j_:Int,(Int.tmod (wrap64 ((wrap64 ((wrap64 ((wrap64 (s0_1+1))-1))*7))+3)) (s0_0.length:Int))=j_:=⟨_,rfl⟩;replace H:(if 0≤(ji17)then(if(ji17)<(s0_0.length:Int)then(if a1=0 then(none)else(some (Int.tmod (Go.bits .xor .i64 (wrap64 ((wrap64 ((wrap64 ((wrap64 ((wrap64 (rd s0_0 (ji14)))*131))+(wrap64 ((wrap64 (rd s0_0 (ji17)))*1117))))+(wrap64 ((wrap64 ((wrap64 (s0_1+1))-1))*29))))+(wrap64 ((wrap64 (Int.tdiv (wrap64 ((wrap64 (s0_1+1))-1)) (s0_0.length:Int)))*53)))) (wrap64 (Int.tdiv (wrap64 ((wrap64 ((wrap64 ((wrap64 ((wrap64 (rd s0_0 (ji14)))*131))+(wrap64 ((wrap64 (rd s0_0 (ji17)))*1117))))+(wrap64 ((wrap64 ((wrap64 (s0_1+1))-1))*29))))+(wrap64 ((wrap64 (Int.tdiv (wrap64 ((wrap64 (s0_1+1))-1)) (s0_0.length:Int)))*53)))) 64))) a1,(wrap64 (s0_1+1)))))else(none))else(none))=some (r1,r2):=by first|(rw[hji17]at H;exact H)|(simp only[hji17]at H⊢;exact H)
                by_cases c18:0≤(ji17)
                · rw[if_pos c18]at H
                  have c18b0:decide (0≤(ji17))=true:=decide_eq_true c18;clear c18;by_cases c19:(ji17)<(s0_0.length:Int)
                  · rw[if_pos c19]at H
                    have c19b0:decide ((ji17)<(s0_0.length:Int))=true:=decide_eq_true c19;clear c19;by_cases c20:a1=0
                    · rw[if_pos c20]at H
                      exact absurd H (by simp)
                    · rw[if_neg c20]at H
                      have c20b0:(a1==0)=false:=beq_eq_false_iff_ne.mpr c20;have c20b1:(a1 !=0)=true:=bne_iff_ne.mpr c20;simp only[Option.some.injEq,Prod.mk.injEq]at H
                      obtain⟨rfl,rfl⟩:=H;obtain⟨ASz21_0,cSz21_0,HGz21,hgz21,HSz21_0⟩:=HI0.out;have hcz21_0:=cellS95_0 HGz21;have hcz21_1:=cellS95_1 HGz21;have hfz21_1:=blk_frozen HGz21 1;clear HGz21 hgz21;have p163:0≤((ji14):Int):=of_decide_eq_true (by first|(with_reducible assumption)|assumption)
                      have q163:(ji14)<(s0_0.length:Int):=of_decide_eq_true (by first|(with_reducible assumption)|assumption)
                      obtain⟨ad163,e163,hx163_0⟩:=Kd.at_int HSz21_0 (ji14) p163 q163;cases e163
                      replace hx163_0:=pw_cell_below HB.out hx163_0;replace p163:=eq_true p163;replace q163:=eq_true q163;have p164:0≤((ji17):Int):=of_decide_eq_true (by first|(with_reducible assumption)|assumption)
                      have q164:(ji17)<(s0_0.length:Int):=of_decide_eq_true (by first|(with_reducible assumption)|assumption)
                      obtain⟨ad164,e164,hx164_0⟩:=Kd.at_int HSz21_0 (ji17) p164 q164;obtain rfl:ad163=ad164:=(by injection e164)
                      replace hx164_0:=pw_cell_below HB.out hx164_0;replace p164:=eq_true p164;replace q164:=eq_true q164;go_wp2
                      repeat(go_quiet (fail);try go_wp2)
                      go_ret
                      exact⟨by first|rfl|(simp[errW_none,errW_some]<;>rfl)|(simp only[←hji14,←hji17];first|rfl|(simp[errW_none,errW_some]<;>rfl))|(simp[*,errW_none,errW_some]<;>rfl),by repeat(first|(with_reducible first|exact HI0.out|apply IsS95.alloc|apply IsS95.drewN|apply IsS95.drew|apply IsS95.set_1)|exact HI0.out),by repeat(first|(with_reducible first|exact HB.out|apply below_alloc|apply pw_below_drewN|apply below_drew1|refine below_set ?_ (IsS95.ge HI0.out))|exact HB.out),by repeat(first|(with_reducible first|exact HK.out|apply KeepBut.set_|apply keep_drewN|apply keep_drew|apply keep_alloc)|exact HK.out)⟩
                  · rw[if_neg c19]at H
                    exact absurd H (by simp)
                · rw[if_neg c18]at H
                  exact absurd H (by simp)
              · rw[if_neg c16]at H
                exact absurd H (by simp)
            · rw[if_neg c15]at H
              exact absurd H (by simp)
def spec_l71Val.j0:Nat→List Int→Int→Int→Int→Option (Int×Int×Int)
  |0,_,_,_,_=>none
  |k+1,x1000,x1001,x172000,x172001=>(spec_l6Rd_pick.f k x1000 x1001 30).bind fun bt182=>(if bt182.1=0 then((some (([(-100),100,10]:List Int):List Int)).bind fun y184=>((spec_l6Rd_pick.f k x1000 bt182.2 3).bind fun bt187=>(if 0≤bt187.1 then(if bt187.1<(y184.length:Int)then(some (x172000,rd y184 bt187.1,bt187.2))else(none))else(none))))else(if bt182.1=1 then((spec_l6Rd_pick.f k x1000 bt182.2 6).bind fun bt190=>(some (bt190.1,x172001,bt190.2)))else(some (x172000,x172001,bt182.2))))
def spec_l71Val.f (k:Nat) (s0_0:List Int) (s0_1:Int):Option (Int×Int×Int):=(spec_l6Rd_pick.f k s0_0 s0_1 4).bind fun bt169=>(if bt169.1=1 then((some (([0,1,2,3,(-1),7,50,99,(-99)]:List Int):List Int)).bind fun y172=>((spec_l6Rd_pick.f k s0_0 bt169.2 9).bind fun bt175=>(if 0≤bt175.1 then(if bt175.1<(y172.length:Int)then(spec_l71Val.j0 k s0_0 bt175.2 bt169.1 (rd y172 bt175.1))else(none))else(none))))else(if bt169.1=2 then((spec_l6Rd_pick.f k s0_0 bt169.2 5).bind fun bt178=>(spec_l71Val.j0 k s0_0 bt178.2 bt169.1 bt178.1))else(if bt169.1=3 then((spec_l6Rd_pick.f k s0_0 bt169.2 4).bind fun bt180=>(spec_l71Val.j0 k s0_0 bt180.2 bt169.1 (wrap64 (1+bt180.1))))else(spec_l71Val.j0 k s0_0 bt169.2 bt169.1 0))))
theorem spec_l71Val.calls (k:Nat) (g:Nat) (s0_0:List Int) (s0_1:Int) (r1:Int) (r2:Int) (r3:Int) (w0 w:World) (hI:IsS95 w0 w g s0_0 s0_1) (hB:Below w0.heap.size w0 w) (h:spec_l71Val.f k s0_0 s0_1=some (r1,r2,r3)):
    Calls Tryd.prog 45 #[.pointer (some ⟨g,0,none⟩)] w fun e w'=>e= .returned (.agg #[.int .i64 r1,.int .i64 r2])∧IsS95 w0 w' g s0_0 r3∧Below w0.heap.size w0 w'∧KeepBut w w' g none:=by
  have hu25:=Tryd.underlying25;have HI0:=Aside0.mk hI;have HK:=Aside0.mk (KeepBut.refl w g none);have HL:=Aside0.mk hB.size;clear hI;have HW0:=Aside0.mk hB.size;have HB:=Aside0.mk hB;clear hB;have H:((spec_l6Rd_pick.f k s0_0 s0_1 4).bind fun bt169=>(if bt169.1=1 then((some (([0,1,2,3,(-1),7,50,99,(-99)]:List Int):List Int)).bind fun y172=>((spec_l6Rd_pick.f k s0_0 bt169.2 9).bind fun bt175=>(if 0≤bt175.1 then(if bt175.1<(y172.length:Int)then(spec_l71Val.j0 k s0_0 bt175.2 bt169.1 (rd y172 bt175.1))else(none))else(none))))else(if bt169.1=2 then((spec_l6Rd_pick.f k s0_0 bt169.2 5).bind fun bt178=>(spec_l71Val.j0 k s0_0 bt178.2 bt169.1 bt178.1))else(if bt169.1=3 then((spec_l6Rd_pick.f k s0_0 bt169.2 4).bind fun bt180=>(spec_l71Val.j0 k s0_0 bt180.2 bt169.1 (wrap64 (1+bt180.1))))else(spec_l71Val.j0 k s0_0 bt169.2 bt169.1 0)))))=some (r1,r2,r3):=h
  clear h;replace H:=Option.bind_eq_some_iff.mp H;obtain⟨⟨t169,t170⟩,A20,H⟩:=H;replace H:(if t169=1 then((some (([0,1,2,3,(-1),7,50,99,(-99)]:List Int):List Int)).bind fun y172=>((spec_l6Rd_pick.f k s0_0 t170 9).bind fun bt175=>(if 0≤bt175.1 then(if bt175.1<(y172.length:Int)then(spec_l71Val.j0 k s0_0 bt175.2 t169 (rd y172 bt175.1))else(none))else(none))))else(if t169=2 then((spec_l6Rd_pick.f k s0_0 t170 5).bind fun bt178=>(spec_l71Val.j0 k s0_0 bt178.2 t169 bt178.1))else(if t169=3 then((spec_l6Rd_pick.f k s0_0 t170 4).bind fun bt180=>(spec_l71Val.j0 k s0_0 bt180.2 t169 (wrap64 (1+bt180.1))))else(spec_l71Val.j0 k s0_0 t170 t169 0))))=some (r1,r2,r3):=H
  have A2:=Aside0.mk A20;clear A20;have HC3:=Aside0.mk H;clear H;go_enter Tryd.func45,Tryd.ntmps45
  go_upto_block 0 with (first|((with_reducible refine gate_dst (N:=2) rfl ?_);refine box_event ?hg (N:=2) ?hd (cs:= #[.int .i64 0,.int .i64 0]) (t:=25) ?hr ?_;(case hd=>rfl);(case hg=>rfl);(case hr=>first|(go_simp;done)|(go_simp;rfl));intro gb168 hg w4 hbox hb;have n0_:=Aside0.mk (IsS95.below (by repeat(first|(with_reducible first|exact HI0.out|apply IsS95.alloc|apply IsS95.drewN|apply IsS95.drew|apply IsS95.set_1)|exact HI0.out)) hb);have n1_:=Aside0.mk (KeepBut.trans (by repeat(first|(with_reducible first|exact HK.out|apply KeepBut.set_|apply keep_drewN|apply keep_drew|apply keep_alloc)|exact HK.out)) (KeepBut.of_below hb g none) (.inl rfl));have n2_:=Aside0.mk (below_step (by repeat(first|(with_reducible first|exact HB.out|apply below_alloc|apply pw_below_drewN|apply below_drew1|refine below_set ?_ (IsS95.ge HI0.out))|exact HB.out)) hb);have n3_:=Aside0.mk (hbox);have n4_:=Aside0.mk ((by rw[hg];exact(keep_size (w:=w) (g:=g) (row:=none) (by repeat(first|(with_reducible first|exact HK.out|apply KeepBut.set_|apply keep_drewN|apply keep_drew|apply keep_alloc)|exact HK.out))):w.heap.size≤gb168));have n5_:=Aside0.mk ((Nat.le_trans HW0.out (by rw[hg];exact(keep_size (w:=w) (g:=g) (row:=none) (by repeat(first|(with_reducible first|exact HK.out|apply KeepBut.set_|apply keep_drewN|apply keep_drew|apply keep_alloc)|exact HK.out))):w.heap.size≤gb168):w0.heap.size≤gb168));have n6_:=Aside0.mk ((by rw[hg];exact Nat.ne_of_lt (IsS95.lt (show IsS95 w0 _ g s0_0 s0_1 from by repeat(first|(with_reducible first|exact HI0.out|apply IsS95.alloc|apply IsS95.drewN|apply IsS95.drew|apply IsS95.set_1)|exact HI0.out))):g≠gb168));have n7_:=Aside0.mk ((by rw[hg];exact Nat.ne_of_gt (IsS95.lt (show IsS95 w0 _ g s0_0 s0_1 from by repeat(first|(with_reducible first|exact HI0.out|apply IsS95.alloc|apply IsS95.drewN|apply IsS95.drew|apply IsS95.set_1)|exact HI0.out))):gb168≠g));clear HI0;clear HK;clear HB;have HI0:=n0_;have HK:=n1_;have HB:=n2_;have BK168:=n3_;have GW168:=n4_;have GE168:=n5_;have NB0_168:=n6_;have NB168_0:=n7_;clear n0_ n1_ n2_ n3_ n4_ n5_ n6_ n7_;clear hb hbox hg)|((with_reducible refine gate_callee (f:=47) rfl ?_);refine goesL_ (some 5) rfl rfl Tryd.func47 (by kernel_rfl) rfl #[.pointer (some ⟨g,0,none⟩),.int .i64 4] rfl (by(try simp only[List.map_toArray,List.map_cons,List.map_nil]);first|done|rfl|(simp only[List.length_drop,List.length_take];rfl)) ?_;(with_reducible refine(spec_l6Rd_pick.calls k g s0_0 s0_1 4 t169 t170 w0 _ ?side1 ?side2 A2.out).mono ?_);(case side1=>repeat(first|(with_reducible first|exact HI0.out|apply IsS95.alloc|apply IsS95.drewN|apply IsS95.drew|apply IsS95.set_1|refine IsS95.far ?_ NB0_168.out _)|exact HI0.out));(case side2=>repeat(first|(with_reducible first|exact HB.out|apply below_alloc|apply pw_below_drewN|apply below_drew1|refine below_set ?_ (IsS95.ge HI0.out)|refine below_set ?_ GE168.out)|exact HB.out));rintro e w5 ⟨rfl,hi,hb,hk⟩;refine⟨_,rfl,?_⟩;have n0_:=Aside0.mk (KeepBut.blk hk (g':=gb168) (o:=.cells #[.int .i64 0,.int .i64 0] 25 (0,0)) (by(with_reducible repeat(first|refine blk_drewN ?_ _|refine blk_drew ?_|refine blk_alloc ?_ _));exact BK168.out) NB168_0.out (by simp));have n1_:=Aside0.mk (KeepBut.trans (by repeat(first|(with_reducible first|exact HK.out|apply KeepBut.set_|apply keep_drewN|apply keep_drew|apply keep_alloc|refine keep_far ?_ GW168.out _)|exact HK.out)) hk (.inl rfl));have n2_:=Aside0.mk (hb);have n3_:=Aside0.mk (hi);clear BK168;clear HK;clear HB;clear HI0;have BK168:=n0_;have HK:=n1_;have HB:=n2_;have HI0:=n3_;clear n0_ n1_ n2_ n3_;(try clear hb);(try clear hb2);(try clear hk);(try clear hi))|((with_reducible refine gate_dst (N:=3) rfl ?_);refine box_event ?hg (N:=3) ?hd (cs:= #[.int .i64 0,.int .i64 0]) (t:=25) ?hr ?_;(case hd=>rfl);(case hg=>rfl);(case hr=>first|(go_simp;done)|(go_simp;rfl));intro gb171 hg w6 hbox hb;have n0_:=Aside0.mk (IsS95.below (by repeat(first|(with_reducible first|exact HI0.out|apply IsS95.alloc|apply IsS95.drewN|apply IsS95.drew|apply IsS95.set_1|refine IsS95.far ?_ NB0_168.out _)|exact HI0.out)) hb);have n1_:=Aside0.mk (blk_below (g:=gb168) (o:=.cells #[.int .i64 0,.int .i64 0] 25 (0,0)) (by(with_reducible repeat(first|refine blk_drewN ?_ _|refine blk_drew ?_|refine blk_alloc ?_ _));exact BK168.out) hb);have n2_:=Aside0.mk (KeepBut.trans (by repeat(first|(with_reducible first|exact HK.out|apply KeepBut.set_|apply keep_drewN|apply keep_drew|apply keep_alloc|refine keep_far ?_ GW168.out _)|exact HK.out)) (KeepBut.of_below hb g none) (.inl rfl));have n3_:=Aside0.mk (below_step (by repeat(first|(with_reducible first|exact HB.out|apply below_alloc|apply pw_below_drewN|apply below_drew1|refine below_set ?_ (IsS95.ge HI0.out)|refine below_set ?_ GE168.out)|exact HB.out)) hb);have n4_:=Aside0.mk (hbox);have n5_:=Aside0.mk ((by rw[hg];exact(keep_size (w:=w) (g:=g) (row:=none) (by repeat(first|(with_reducible first|exact HK.out|apply KeepBut.set_|apply keep_drewN|apply keep_drew|apply keep_alloc|refine keep_far ?_ GW168.out _)|exact HK.out))):w.heap.size≤gb171));have n6_:=Aside0.mk ((Nat.le_trans HW0.out (by rw[hg];exact(keep_size (w:=w) (g:=g) (row:=none) (by repeat(first|(with_reducible first|exact HK.out|apply KeepBut.set_|apply keep_drewN|apply keep_drew|apply keep_alloc|refine keep_far ?_ GW168.out _)|exact HK.out))):w.heap.size≤gb171):w0.heap.size≤gb171));have n7_:=Aside0.mk ((by rw[hg];exact Nat.ne_of_lt (blk_lt (g:=gb168) (o:=.cells #[.int .i64 0,.int .i64 0] 25 (0,0)) (by(with_reducible repeat(first|refine blk_drewN ?_ _|refine blk_drew ?_|refine blk_alloc ?_ _));exact BK168.out)):gb168≠gb171));have n8_:=Aside0.mk ((by rw[hg];exact Nat.ne_of_gt (blk_lt (g:=gb168) (o:=.cells #[.int .i64 0,.int .i64 0] 25 (0,0)) (by(with_reducible repeat(first|refine blk_drewN ?_ _|refine blk_drew ?_|refine blk_alloc ?_ _));exact BK168.out)):gb171≠gb168));have n9_:=Aside0.mk ((by rw[hg];exact Nat.ne_of_lt (IsS95.lt (show IsS95 w0 _ g s0_0 t170 from by repeat(first|(with_reducible first|exact HI0.out|apply IsS95.alloc|apply IsS95.drewN|apply IsS95.drew|apply IsS95.set_1|refine IsS95.far ?_ NB0_168.out _)|exact HI0.out))):g≠gb171));have n10_:=Aside0.mk ((by rw[hg];exact Nat.ne_of_gt (IsS95.lt (show IsS95 w0 _ g s0_0 t170 from by repeat(first|(with_reducible first|exact HI0.out|apply IsS95.alloc|apply IsS95.drewN|apply IsS95.drew|apply IsS95.set_1|refine IsS95.far ?_ NB0_168.out _)|exact HI0.out))):gb171≠g));clear HI0;clear BK168;clear HK;clear HB;have HI0:=n0_;have BK168:=n1_;have HK:=n2_;have HB:=n3_;have BK171:=n4_;have GW171:=n5_;have GE171:=n6_;have NB168_171:=n7_;have NB171_168:=n8_;have NB0_171:=n9_;have NB171_0:=n10_;clear n0_ n1_ n2_ n3_ n4_ n5_ n6_ n7_ n8_ n9_ n10_;clear hb hbox hg;have hnb7:=NB171_168.out;have hnc7:=NB168_171.out;have hnb8:=NB171_0.out;have hnc8:=NB0_171.out;have hcz9_0:w6.cell? ⟨gb171,0,none⟩=some (.int .i64 0):=(blk_cell BK171.out 0).trans rfl;have hcz9_1:w6.cell? ⟨gb171,1,none⟩=some (.int .i64 0):=(blk_cell BK171.out 1).trans rfl;have hfz9_0:=blk_frozen BK171.out 0;have hfz9_1:=blk_frozen BK171.out 1))
  (try simp only[Act.put,List.setIfInBounds_toArray,List.set_cons_zero,List.set_cons_succ])
  go_cut [] (fun wc=> ∃ (kq:Nat) (x1001_2:Int) (x172001_2:Int),Aside0 (spec_l71Val.j0 kq s0_0 x1001_2 t169 x172001_2=some (r1,r2,r3))∧Aside0 (kq≤k)∧Aside0 (wc.heap[gb168]?=some (.cells #[.int .i64 0,.int .i64 0] 25 (0,0)))∧Aside0 (wc.heap[gb171]?=some (.cells #[.int .i64 t169,.int .i64 x172001_2] 25 (0,0)))∧Aside0 (IsS95 w0 wc g s0_0 x1001_2)∧Aside0 (KeepBut w wc g none)∧Aside0 (Below w0.heap.size w0 wc))
  case first=>
    have H:=HC3.out;clear HC3;by_cases c10:t169=1
    · rw[if_pos c10]at H
      have c10b0:(t169==1)=true:=beq_iff_eq.mpr c10;have c10b1:(t169 !=1)=false:=bne_eq_false_iff_eq.mpr c10;clear c10;(first|rw[c10b0]|(simp only[i64_w,i32_w];rw[c10b0])|skip)
      obtain⟨y172,hy172⟩: ∃y_:List Int,y_=(([0,1,2,3,(-1),7,50,99,(-99)]:List Int)):=⟨_,rfl⟩;replace H:((spec_l6Rd_pick.f k s0_0 t170 9).bind fun bt175=>(if 0≤bt175.1 then(if bt175.1<(y172.length:Int)then(spec_l71Val.j0 k s0_0 bt175.2 t169 (rd y172 bt175.1))else(none))else(none)))=some (r1,r2,r3):=by first|(rw[hy172];with_reducible exact H)|(have H2_:=(Option.bind_some _ _).symm.trans H;rw[hy172];with_reducible exact H2_)|(have H2_:=(Option.bind_some _ _).symm.trans H;with_reducible exact H2_)|with_reducible exact H|(rw[hy172];exact H)|exact H
      have Ny172:=Aside0.mk hy172;clear hy172;replace H:=Option.bind_eq_some_iff.mp H;obtain⟨⟨t175,t176⟩,A110,H⟩:=H;replace H:(if 0≤t175 then(if t175<(y172.length:Int)then(spec_l71Val.j0 k s0_0 t176 t169 (rd y172 t175))else(none))else(none))=some (r1,r2,r3):=H
      have A11:=Aside0.mk A110;clear A110;by_cases c12:0≤t175
      · rw[if_pos c12]at H
        have c12b0:decide (0≤t175)=true:=decide_eq_true c12;clear c12;by_cases c13:t175<(y172.length:Int)
        · rw[if_pos c13]at H
          have c13b0:decide (t175<(y172.length:Int))=true:=decide_eq_true c13;clear c13;have H':=Aside0.mk H;clear H;go_wp2_with (first|((with_reducible refine gate_dst (N:=11) rfl ?_);refine Kd.R_lit (Kd.int .i64) _ 3 ?hg (N:=11) ?hd (xs:=([0,1,2,3,(-1),7,50,99,(-99)]:List Int)) (inner:=[.int .i64 0,.int .i64 1,.int .i64 2,.int .i64 3,.int .i64 (-1),.int .i64 7,.int .i64 50,.int .i64 99,.int .i64 (-99)]) (ok:=fun _=>True) (okp:=fun _=>True) ?hr ?hp (fun _ hk=>hk) trivial (Below.refl _ _) (Nat.le_refl _) (by simp) ?_;(case hd=>rfl);(case hg=>rfl);(case hr=>first|(go_simp;done)|(go_simp;rfl));(case hp=>exact(Reps.one (show Kd.M (Kd.int .i64) _ _ _ 0 [.int .i64 0]from rfl) (Reps.one (show Kd.M (Kd.int .i64) _ _ _ 1 [.int .i64 1]from rfl) (Reps.one (show Kd.M (Kd.int .i64) _ _ _ 2 [.int .i64 2]from rfl) (Reps.one (show Kd.M (Kd.int .i64) _ _ _ 3 [.int .i64 3]from rfl) (Reps.one (show Kd.M (Kd.int .i64) _ _ _ (-1) [.int .i64 (-1)]from rfl) (Reps.one (show Kd.M (Kd.int .i64) _ _ _ 7 [.int .i64 7]from rfl) (Reps.one (show Kd.M (Kd.int .i64) _ _ _ 50 [.int .i64 50]from rfl) (Reps.one (show Kd.M (Kd.int .i64) _ _ _ 99 [.int .i64 99]from rfl) (Reps.one (show Kd.M (Kd.int .i64) _ _ _ (-99) [.int .i64 (-99)]from rfl) (Reps.none _ _)))))))))));intro v173 w14 ho15 hb hg_ hnew_;clear hg_ hnew_;(first|rw[←Ny172.out]at ho15|(simp only[Int.reduceToNat]at ho15;rw[←Ny172.out]at ho15));have n0_:=Aside0.mk (Kd.R_lower ho15 (keep_size (w:=w) (g:=g) (row:=none) (by repeat(first|(with_reducible first|exact HK.out|apply KeepBut.set_|apply keep_drewN|apply keep_drew|apply keep_alloc|refine keep_far ?_ GW168.out _|refine keep_far ?_ GW171.out _)|exact HK.out))));have n1_:=Aside0.mk (IsS95.below (show IsS95 w0 ((w6.setCell ⟨gb171,0,none⟩ (.int .i64 t169)).setCell ⟨gb171,1,none⟩ (.int .i64 0)) g s0_0 t170 from by repeat(first|(with_reducible first|exact HI0.out|apply IsS95.alloc|apply IsS95.drewN|apply IsS95.drew|apply IsS95.set_1|refine IsS95.far ?_ NB0_168.out _|refine IsS95.far ?_ NB0_171.out _)|exact HI0.out)) hb);have n2_:=Aside0.mk (blk_below (g:=gb168) (o:=.cells #[.int .i64 0,.int .i64 0] 25 (0,0)) (by(with_reducible repeat(first|refine blk_drewN ?_ _|refine blk_drew ?_|refine blk_alloc ?_ _));refine blk_far ?_ NB168_171.out _;(with_reducible repeat(first|refine blk_drewN ?_ _|refine blk_drew ?_|refine blk_alloc ?_ _));refine blk_far ?_ NB168_171.out _;(with_reducible repeat(first|refine blk_drewN ?_ _|refine blk_drew ?_|refine blk_alloc ?_ _));exact BK168.out) hb);have n3_:=Aside0.mk (blk_below (g:=gb171) (o:=.cells #[.int .i64 t169,.int .i64 0] 25 (0,0)) (by(with_reducible repeat(first|refine blk_drewN ?_ _|refine blk_drew ?_|refine blk_alloc ?_ _));refine blk_put (cs:= #[.int .i64 t169,.int .i64 0]) ?_ 1 _ rfl;(with_reducible repeat(first|refine blk_drewN ?_ _|refine blk_drew ?_|refine blk_alloc ?_ _));refine blk_put (cs:= #[.int .i64 0,.int .i64 0]) ?_ 0 _ rfl;(with_reducible repeat(first|refine blk_drewN ?_ _|refine blk_drew ?_|refine blk_alloc ?_ _));exact BK171.out) hb);have n4_:=Aside0.mk (KeepBut.trans (by repeat(first|(with_reducible first|exact HK.out|apply KeepBut.set_|apply keep_drewN|apply keep_drew|apply keep_alloc|refine keep_far ?_ GW168.out _|refine keep_far ?_ GW171.out _)|exact HK.out)) (KeepBut.of_below hb g none) (.inl rfl));have n5_:=Aside0.mk (below_step (by repeat(first|(with_reducible first|exact HB.out|apply below_alloc|apply pw_below_drewN|apply below_drew1|refine below_set ?_ (IsS95.ge HI0.out)|refine below_set ?_ GE168.out|refine below_set ?_ GE171.out)|exact HB.out)) hb);clear HI0;clear BK168;clear BK171;clear HK;clear HB;have HO174:=n0_;have HI0:=n1_;have BK168:=n2_;have BK171:=n3_;have HK:=n4_;have HB:=n5_;clear n0_ n1_ n2_ n3_ n4_ n5_;clear hb ho15)|((with_reducible refine gate_callee (f:=47) rfl ?_);refine goesL_ (some 13) rfl rfl Tryd.func47 (by kernel_rfl) rfl #[.pointer (some ⟨g,0,none⟩),.int .i64 9] rfl (by(try simp only[List.map_toArray,List.map_cons,List.map_nil]);first|done|rfl|(simp only[List.length_drop,List.length_take];rfl)) ?_;(with_reducible refine(spec_l6Rd_pick.calls k g s0_0 t170 9 t175 t176 w0 _ ?side1 ?side2 A11.out).mono ?_);(case side1=>repeat(first|(with_reducible first|exact HI0.out|apply IsS95.alloc|apply IsS95.drewN|apply IsS95.drew|apply IsS95.set_1|refine IsS95.far ?_ NB0_168.out _|refine IsS95.far ?_ NB0_171.out _)|exact HI0.out));(case side2=>repeat(first|(with_reducible first|exact HB.out|apply below_alloc|apply pw_below_drewN|apply below_drew1|refine below_set ?_ (IsS95.ge HI0.out)|refine below_set ?_ GE168.out|refine below_set ?_ GE171.out)|exact HB.out));rintro e w16 ⟨rfl,hi,hb,hk⟩;refine⟨_,rfl,?_⟩;have n0_:=Aside0.mk (KeepBut.blk hk (g':=gb168) (o:=.cells #[.int .i64 0,.int .i64 0] 25 (0,0)) (by(with_reducible repeat(first|refine blk_drewN ?_ _|refine blk_drew ?_|refine blk_alloc ?_ _));exact BK168.out) NB168_0.out (by simp));have n1_:=Aside0.mk (KeepBut.blk hk (g':=gb171) (o:=.cells #[.int .i64 t169,.int .i64 0] 25 (0,0)) (by(with_reducible repeat(first|refine blk_drewN ?_ _|refine blk_drew ?_|refine blk_alloc ?_ _));exact BK171.out) NB171_0.out (by simp));have n2_:=Aside0.mk (Kd.R_mono (Kd.R_keep (IsS95.apart (show IsS95 w0 _ g s0_0 t170 from by repeat(first|(with_reducible first|exact HI0.out|apply IsS95.alloc|apply IsS95.drewN|apply IsS95.drew|apply IsS95.set_1|refine IsS95.far ?_ NB0_168.out _|refine IsS95.far ?_ NB0_171.out _)|exact HI0.out)) (by(with_reducible repeat(first|apply Kd.R_alloc|apply Kd.R_drewN|apply Kd.R_drew));exact HO174.out) (by decide)) hk (fun _ h=>h.2)) (fun _ h=>h.1));have n3_:=Aside0.mk (KeepBut.trans (by repeat(first|(with_reducible first|exact HK.out|apply KeepBut.set_|apply keep_drewN|apply keep_drew|apply keep_alloc|refine keep_far ?_ GW168.out _|refine keep_far ?_ GW171.out _)|exact HK.out)) hk (.inl rfl));have n4_:=Aside0.mk (hb);have n5_:=Aside0.mk (hi);clear BK168;clear BK171;clear HO174;clear HK;clear HB;clear HI0;have BK168:=n0_;have BK171:=n1_;have HO174:=n2_;have HK:=n3_;have HB:=n4_;have HI0:=n5_;clear n0_ n1_ n2_ n3_ n4_ n5_;(try clear hb);(try clear hb2);(try clear hk);(try clear hi);obtain⟨Ao17,co17,eo17⟩:=Kd.R_slice HO174.out;subst eo17;have p177:0≤(t175:Int):=of_decide_eq_true (by first|(with_reducible assumption)|assumption);have q177:t175<(y172.length:Int):=of_decide_eq_true (by first|(with_reducible assumption)|assumption);obtain⟨ad177,e177,hx177_0⟩:=Kd.at_int (Kd.R_reads' HO174.out).2.2 t175 p177 q177;cases e177;replace p177:=eq_true p177;replace q177:=eq_true q177;have hnb18:=NB171_168.out;have hnc18:=NB168_171.out;have hnb19:=NB171_0.out;have hnc19:=NB0_171.out;have hcz20_0:w16.cell? ⟨gb171,0,none⟩=some (.int .i64 t169):=(blk_cell BK171.out 0).trans rfl;have hcz20_1:w16.cell? ⟨gb171,1,none⟩=some (.int .i64 0):=(blk_cell BK171.out 1).trans rfl;have hfz20_0:=blk_frozen BK171.out 0;have hfz20_1:=blk_frozen BK171.out 1))
          go_meet
          case rel=>exact⟨_,(t176),(rd y172 t175),H',⟨by first|omega|exact Nat.le_refl _⟩,⟨by(with_reducible repeat(first|refine blk_drewN ?_ _|refine blk_drew ?_|refine blk_alloc ?_ _));refine blk_far ?_ NB168_171.out _;(with_reducible repeat(first|refine blk_drewN ?_ _|refine blk_drew ?_|refine blk_alloc ?_ _));exact BK168.out⟩,⟨by(with_reducible repeat(first|refine blk_drewN ?_ _|refine blk_drew ?_|refine blk_alloc ?_ _));refine blk_put (cs:= #[.int .i64 t169,.int .i64 0]) ?_ 1 _ rfl;(with_reducible repeat(first|refine blk_drewN ?_ _|refine blk_drew ?_|refine blk_alloc ?_ _));exact BK171.out⟩,⟨by repeat(first|(with_reducible first|exact HI0.out|apply IsS95.alloc|apply IsS95.drewN|apply IsS95.drew|apply IsS95.set_1|refine IsS95.far ?_ NB0_168.out _|refine IsS95.far ?_ NB0_171.out _)|exact HI0.out)⟩,⟨by repeat(first|(with_reducible first|exact HK.out|apply KeepBut.set_|apply keep_drewN|apply keep_drew|apply keep_alloc|refine keep_far ?_ GW168.out _|refine keep_far ?_ GW171.out _)|exact HK.out)⟩,⟨by repeat(first|(with_reducible first|exact HB.out|apply below_alloc|apply pw_below_drewN|apply below_drew1|refine below_set ?_ (IsS95.ge HI0.out)|refine below_set ?_ GE168.out|refine below_set ?_ GE171.out)|exact HB.out)⟩⟩
        · rw[if_neg c13]at H
          exact absurd H (by simp)
      · rw[if_neg c12]at H
        exact absurd H (by simp)
    · rw[if_neg c10]at H
      have c10b0:(t169==1)=false:=beq_eq_false_iff_ne.mpr c10;have c10b1:(t169 !=1)=true:=bne_iff_ne.mpr c10;(first|rw[c10b0]|(simp only[i64_w,i32_w];rw[c10b0])|skip)
      by_cases c21:t169=2
      · rw[if_pos c21]at H
        have c21b0:(t169==2)=true:=beq_iff_eq.mpr c21;have c21b1:(t169 !=2)=false:=bne_eq_false_iff_eq.mpr c21;clear c21;replace H:=Option.bind_eq_some_iff.mp H;obtain⟨⟨t178,t179⟩,A220,H⟩:=H;replace H:(spec_l71Val.j0 k s0_0 t179 t169 t178)=some (r1,r2,r3):=H;have A22:=Aside0.mk A220;clear A220;have H':=Aside0.mk H;clear H;go_wp2_with (first|((with_reducible refine gate_callee (f:=47) rfl ?_);refine goesL_ (some 20) rfl rfl Tryd.func47 (by kernel_rfl) rfl #[.pointer (some ⟨g,0,none⟩),.int .i64 5] rfl (by(try simp only[List.map_toArray,List.map_cons,List.map_nil]);first|done|rfl|(simp only[List.length_drop,List.length_take];rfl)) ?_;(with_reducible refine(spec_l6Rd_pick.calls k g s0_0 t170 5 t178 t179 w0 _ ?side1 ?side2 A22.out).mono ?_);(case side1=>repeat(first|(with_reducible first|exact HI0.out|apply IsS95.alloc|apply IsS95.drewN|apply IsS95.drew|apply IsS95.set_1|refine IsS95.far ?_ NB0_168.out _|refine IsS95.far ?_ NB0_171.out _)|exact HI0.out));(case side2=>repeat(first|(with_reducible first|exact HB.out|apply below_alloc|apply pw_below_drewN|apply below_drew1|refine below_set ?_ (IsS95.ge HI0.out)|refine below_set ?_ GE168.out|refine below_set ?_ GE171.out)|exact HB.out));rintro e w23 ⟨rfl,hi,hb,hk⟩;refine⟨_,rfl,?_⟩;have n0_:=Aside0.mk (KeepBut.blk hk (g':=gb168) (o:=.cells #[.int .i64 0,.int .i64 0] 25 (0,0)) (by(with_reducible repeat(first|refine blk_drewN ?_ _|refine blk_drew ?_|refine blk_alloc ?_ _));refine blk_far ?_ NB168_171.out _;(with_reducible repeat(first|refine blk_drewN ?_ _|refine blk_drew ?_|refine blk_alloc ?_ _));refine blk_far ?_ NB168_171.out _;(with_reducible repeat(first|refine blk_drewN ?_ _|refine blk_drew ?_|refine blk_alloc ?_ _));exact BK168.out) NB168_0.out (by simp));have n1_:=Aside0.mk (KeepBut.blk hk (g':=gb171) (o:=.cells #[.int .i64 t169,.int .i64 0] 25 (0,0)) (by(with_reducible repeat(first|refine blk_drewN ?_ _|refine blk_drew ?_|refine blk_alloc ?_ _));refine blk_put (cs:= #[.int .i64 t169,.int .i64 0]) ?_ 1 _ rfl;(with_reducible repeat(first|refine blk_drewN ?_ _|refine blk_drew ?_|refine blk_alloc ?_ _));refine blk_put (cs:= #[.int .i64 0,.int .i64 0]) ?_ 0 _ rfl;(with_reducible repeat(first|refine blk_drewN ?_ _|refine blk_drew ?_|refine blk_alloc ?_ _));exact BK171.out) NB171_0.out (by simp));have n2_:=Aside0.mk (KeepBut.trans (by repeat(first|(with_reducible first|exact HK.out|apply KeepBut.set_|apply keep_drewN|apply keep_drew|apply keep_alloc|refine keep_far ?_ GW168.out _|refine keep_far ?_ GW171.out _)|exact HK.out)) hk (.inl rfl));have n3_:=Aside0.mk (hb);have n4_:=Aside0.mk (hi);clear BK168;clear BK171;clear HK;clear HB;clear HI0;have BK168:=n0_;have BK171:=n1_;have HK:=n2_;have HB:=n3_;have HI0:=n4_;clear n0_ n1_ n2_ n3_ n4_;(try clear hb);(try clear hb2);(try clear hk);(try clear hi);have hnb24:=NB171_168.out;have hnc24:=NB168_171.out;have hnb25:=NB171_0.out;have hnc25:=NB0_171.out;have hcz26_0:w23.cell? ⟨gb171,0,none⟩=some (.int .i64 t169):=(blk_cell BK171.out 0).trans rfl;have hcz26_1:w23.cell? ⟨gb171,1,none⟩=some (.int .i64 0):=(blk_cell BK171.out 1).trans rfl;have hfz26_0:=blk_frozen BK171.out 0;have hfz26_1:=blk_frozen BK171.out 1))
        go_meet
        case rel=>exact⟨_,(t179),(t178),H',⟨by first|omega|exact Nat.le_refl _⟩,⟨by(with_reducible repeat(first|refine blk_drewN ?_ _|refine blk_drew ?_|refine blk_alloc ?_ _));refine blk_far ?_ NB168_171.out _;(with_reducible repeat(first|refine blk_drewN ?_ _|refine blk_drew ?_|refine blk_alloc ?_ _));exact BK168.out⟩,⟨by(with_reducible repeat(first|refine blk_drewN ?_ _|refine blk_drew ?_|refine blk_alloc ?_ _));refine blk_put (cs:= #[.int .i64 t169,.int .i64 0]) ?_ 1 _ rfl;(with_reducible repeat(first|refine blk_drewN ?_ _|refine blk_drew ?_|refine blk_alloc ?_ _));exact BK171.out⟩,⟨by repeat(first|(with_reducible first|exact HI0.out|apply IsS95.alloc|apply IsS95.drewN|apply IsS95.drew|apply IsS95.set_1|refine IsS95.far ?_ NB0_168.out _|refine IsS95.far ?_ NB0_171.out _)|exact HI0.out)⟩,⟨by repeat(first|(with_reducible first|exact HK.out|apply KeepBut.set_|apply keep_drewN|apply keep_drew|apply keep_alloc|refine keep_far ?_ GW168.out _|refine keep_far ?_ GW171.out _)|exact HK.out)⟩,⟨by repeat(first|(with_reducible first|exact HB.out|apply below_alloc|apply pw_below_drewN|apply below_drew1|refine below_set ?_ (IsS95.ge HI0.out)|refine below_set ?_ GE168.out|refine below_set ?_ GE171.out)|exact HB.out)⟩⟩
      · rw[if_neg c21]at H
        have c21b0:(t169==2)=false:=beq_eq_false_iff_ne.mpr c21;have c21b1:(t169 !=2)=true:=bne_iff_ne.mpr c21;by_cases c27:t169=3
        · rw[if_pos c27]at H
          have c27b0:(t169==3)=true:=beq_iff_eq.mpr c27;have c27b1:(t169 !=3)=false:=bne_eq_false_iff_eq.mpr c27;clear c27;replace H:=Option.bind_eq_some_iff.mp H;obtain⟨⟨t180,t181⟩,A280,H⟩:=H;replace H:(spec_l71Val.j0 k s0_0 t181 t169 (wrap64 (1+t180)))=some (r1,r2,r3):=H;have A28:=Aside0.mk A280;clear A280;have H':=Aside0.mk H;clear H;go_wp2_with (first|((with_reducible refine gate_callee (f:=47) rfl ?_);refine goesL_ (some 25) rfl rfl Tryd.func47 (by kernel_rfl) rfl #[.pointer (some ⟨g,0,none⟩),.int .i64 4] rfl (by(try simp only[List.map_toArray,List.map_cons,List.map_nil]);first|done|rfl|(simp only[List.length_drop,List.length_take];rfl)) ?_;(with_reducible refine(spec_l6Rd_pick.calls k g s0_0 t170 4 t180 t181 w0 _ ?side1 ?side2 A28.out).mono ?_);(case side1=>repeat(first|(with_reducible first|exact HI0.out|apply IsS95.alloc|apply IsS95.drewN|apply IsS95.drew|apply IsS95.set_1|refine IsS95.far ?_ NB0_168.out _|refine IsS95.far ?_ NB0_171.out _)|exact HI0.out));(case side2=>repeat(first|(with_reducible first|exact HB.out|apply below_alloc|apply pw_below_drewN|apply below_drew1|refine below_set ?_ (IsS95.ge HI0.out)|refine below_set ?_ GE168.out|refine below_set ?_ GE171.out)|exact HB.out));rintro e w29 ⟨rfl,hi,hb,hk⟩;refine⟨_,rfl,?_⟩;have n0_:=Aside0.mk (KeepBut.blk hk (g':=gb168) (o:=.cells #[.int .i64 0,.int .i64 0] 25 (0,0)) (by(with_reducible repeat(first|refine blk_drewN ?_ _|refine blk_drew ?_|refine blk_alloc ?_ _));refine blk_far ?_ NB168_171.out _;(with_reducible repeat(first|refine blk_drewN ?_ _|refine blk_drew ?_|refine blk_alloc ?_ _));refine blk_far ?_ NB168_171.out _;(with_reducible repeat(first|refine blk_drewN ?_ _|refine blk_drew ?_|refine blk_alloc ?_ _));exact BK168.out) NB168_0.out (by simp));have n1_:=Aside0.mk (KeepBut.blk hk (g':=gb171) (o:=.cells #[.int .i64 t169,.int .i64 0] 25 (0,0)) (by(with_reducible repeat(first|refine blk_drewN ?_ _|refine blk_drew ?_|refine blk_alloc ?_ _));refine blk_put (cs:= #[.int .i64 t169,.int .i64 0]) ?_ 1 _ rfl;(with_reducible repeat(first|refine blk_drewN ?_ _|refine blk_drew ?_|refine blk_alloc ?_ _));refine blk_put (cs:= #[.int .i64 0,.int .i64 0]) ?_ 0 _ rfl;(with_reducible repeat(first|refine blk_drewN ?_ _|refine blk_drew ?_|refine blk_alloc ?_ _));exact BK171.out) NB171_0.out (by simp));have n2_:=Aside0.mk (KeepBut.trans (by repeat(first|(with_reducible first|exact HK.out|apply KeepBut.set_|apply keep_drewN|apply keep_drew|apply keep_alloc|refine keep_far ?_ GW168.out _|refine keep_far ?_ GW171.out _)|exact HK.out)) hk (.inl rfl));have n3_:=Aside0.mk (hb);have n4_:=Aside0.mk (hi);clear BK168;clear BK171;clear HK;clear HB;clear HI0;have BK168:=n0_;have BK171:=n1_;have HK:=n2_;have HB:=n3_;have HI0:=n4_;clear n0_ n1_ n2_ n3_ n4_;(try clear hb);(try clear hb2);(try clear hk);(try clear hi);have hnb30:=NB171_168.out;have hnc30:=NB168_171.out;have hnb31:=NB171_0.out;have hnc31:=NB0_171.out;have hcz32_0:w29.cell? ⟨gb171,0,none⟩=some (.int .i64 t169):=(blk_cell BK171.out 0).trans rfl;have hcz32_1:w29.cell? ⟨gb171,1,none⟩=some (.int .i64 0):=(blk_cell BK171.out 1).trans rfl;have hfz32_0:=blk_frozen BK171.out 0;have hfz32_1:=blk_frozen BK171.out 1))
          go_meet
          case rel=>exact⟨_,(t181),(wrap64 (1+t180)),H',⟨by first|omega|exact Nat.le_refl _⟩,⟨by(with_reducible repeat(first|refine blk_drewN ?_ _|refine blk_drew ?_|refine blk_alloc ?_ _));refine blk_far ?_ NB168_171.out _;(with_reducible repeat(first|refine blk_drewN ?_ _|refine blk_drew ?_|refine blk_alloc ?_ _));exact BK168.out⟩,⟨by(with_reducible repeat(first|refine blk_drewN ?_ _|refine blk_drew ?_|refine blk_alloc ?_ _));refine blk_put (cs:= #[.int .i64 t169,.int .i64 0]) ?_ 1 _ rfl;(with_reducible repeat(first|refine blk_drewN ?_ _|refine blk_drew ?_|refine blk_alloc ?_ _));exact BK171.out⟩,⟨by repeat(first|(with_reducible first|exact HI0.out|apply IsS95.alloc|apply IsS95.drewN|apply IsS95.drew|apply IsS95.set_1|refine IsS95.far ?_ NB0_168.out _|refine IsS95.far ?_ NB0_171.out _)|exact HI0.out)⟩,⟨by repeat(first|(with_reducible first|exact HK.out|apply KeepBut.set_|apply keep_drewN|apply keep_drew|apply keep_alloc|refine keep_far ?_ GW168.out _|refine keep_far ?_ GW171.out _)|exact HK.out)⟩,⟨by repeat(first|(with_reducible first|exact HB.out|apply below_alloc|apply pw_below_drewN|apply below_drew1|refine below_set ?_ (IsS95.ge HI0.out)|refine below_set ?_ GE168.out|refine below_set ?_ GE171.out)|exact HB.out)⟩⟩
        · rw[if_neg c27]at H
          have c27b0:(t169==3)=false:=beq_eq_false_iff_ne.mpr c27;have c27b1:(t169 !=3)=true:=bne_iff_ne.mpr c27;have H':=Aside0.mk H;clear H;go_wp2
          go_meet
          case rel=>exact⟨_,(t170),(0),H',⟨by first|omega|exact Nat.le_refl _⟩,⟨by(with_reducible repeat(first|refine blk_drewN ?_ _|refine blk_drew ?_|refine blk_alloc ?_ _));refine blk_far ?_ NB168_171.out _;(with_reducible repeat(first|refine blk_drewN ?_ _|refine blk_drew ?_|refine blk_alloc ?_ _));refine blk_far ?_ NB168_171.out _;(with_reducible repeat(first|refine blk_drewN ?_ _|refine blk_drew ?_|refine blk_alloc ?_ _));exact BK168.out⟩,⟨by(with_reducible repeat(first|refine blk_drewN ?_ _|refine blk_drew ?_|refine blk_alloc ?_ _));refine blk_put (cs:= #[.int .i64 t169,.int .i64 0]) ?_ 1 _ rfl;(with_reducible repeat(first|refine blk_drewN ?_ _|refine blk_drew ?_|refine blk_alloc ?_ _));refine blk_put (cs:= #[.int .i64 0,.int .i64 0]) ?_ 0 _ rfl;(with_reducible repeat(first|refine blk_drewN ?_ _|refine blk_drew ?_|refine blk_alloc ?_ _));exact BK171.out⟩,⟨by repeat(first|(with_reducible first|exact HI0.out|apply IsS95.alloc|apply IsS95.drewN|apply IsS95.drew|apply IsS95.set_1|refine IsS95.far ?_ NB0_168.out _|refine IsS95.far ?_ NB0_171.out _)|exact HI0.out)⟩,⟨by repeat(first|(with_reducible first|exact HK.out|apply KeepBut.set_|apply keep_drewN|apply keep_drew|apply keep_alloc|refine keep_far ?_ GW168.out _|refine keep_far ?_ GW171.out _)|exact HK.out)⟩,⟨by repeat(first|(with_reducible first|exact HB.out|apply below_alloc|apply pw_below_drewN|apply below_drew1|refine below_set ?_ (IsS95.ge HI0.out)|refine below_set ?_ GE168.out|refine below_set ?_ GE171.out)|exact HB.out)⟩⟩
  case rest=>
    clear HC3;try clear c1
    try clear p1
    try clear q1
    try clear hx1
    try clear c2
    try clear p2
    try clear c3
    try clear c4
    try clear p6
    try clear c7
    try clear c8
    try clear c10
    try clear c10b0
    try clear c10b1
    try clear c12
    try clear c12b0
    try clear c13
    try clear c13b0
    try clear p17
    try clear q17
    try clear hx17
    try clear c18
    try clear c19
    try clear c21
    try clear c21b0
    try clear c21b1
    try clear c24
    try clear c25
    try clear c27
    try clear c27b0
    try clear c27b1
    try clear c30
    try clear c31
    try clear hcz20_0
    try clear hcz20_1
    try clear hcz26_0
    try clear hcz26_1
    try clear hcz32_0
    try clear hcz32_1
    try clear hcz9_0
    try clear hcz9_1
    try clear hfz20_0
    try clear hfz20_1
    try clear hfz26_0
    try clear hfz26_1
    try clear hfz32_0
    try clear hfz32_1
    try clear hfz9_0
    try clear hfz9_1
    try clear hx177_0
    try clear p177
    try clear q177
    obtain⟨kq,x1001_2,x172001_2,HA,HJ2,BK168,BK171,HI0,HK,HB⟩:=hcut;cases kq with
    |zero=>exact absurd HA.out (by simp[spec_l71Val.j0])
    |succ kj2=>
      have H:=HA.out;clear HA;simp only[spec_l71Val.j0]at H
      replace H:=Option.bind_eq_some_iff.mp H;obtain⟨⟨t182,t183⟩,A330,H⟩:=H;replace H:(if t182=0 then((some (([(-100),100,10]:List Int):List Int)).bind fun y184=>((spec_l6Rd_pick.f kj2 s0_0 t183 3).bind fun bt187=>(if 0≤bt187.1 then(if bt187.1<(y184.length:Int)then(some (t169,rd y184 bt187.1,bt187.2))else(none))else(none))))else(if t182=1 then((spec_l6Rd_pick.f kj2 s0_0 t183 6).bind fun bt190=>(some (bt190.1,x172001_2,bt190.2)))else(some (t169,x172001_2,t183))))=some (r1,r2,r3):=H
      have A33:=Aside0.mk A330;clear A330;by_cases c34:t182=0
      · rw[if_pos c34]at H
        have c34b0:(t182==0)=true:=beq_iff_eq.mpr c34;have c34b1:(t182 !=0)=false:=bne_eq_false_iff_eq.mpr c34;clear c34;obtain⟨y184,hy184⟩: ∃y_:List Int,y_=(([(-100),100,10]:List Int)):=⟨_,rfl⟩;replace H:((spec_l6Rd_pick.f kj2 s0_0 t183 3).bind fun bt187=>(if 0≤bt187.1 then(if bt187.1<(y184.length:Int)then(some (t169,rd y184 bt187.1,bt187.2))else(none))else(none)))=some (r1,r2,r3):=by first|(rw[hy184];with_reducible exact H)|(have H2_:=(Option.bind_some _ _).symm.trans H;rw[hy184];with_reducible exact H2_)|(have H2_:=(Option.bind_some _ _).symm.trans H;with_reducible exact H2_)|with_reducible exact H|(rw[hy184];exact H)|exact H
        have Ny184:=Aside0.mk hy184;clear hy184;replace H:=Option.bind_eq_some_iff.mp H;obtain⟨⟨t187,t188⟩,A350,H⟩:=H;replace H:(if 0≤t187 then(if t187<(y184.length:Int)then(some (t169,rd y184 t187,t188))else(none))else(none))=some (r1,r2,r3):=H
        have A35:=Aside0.mk A350;clear A350;by_cases c36:0≤t187
        · rw[if_pos c36]at H
          have c36b0:decide (0≤t187)=true:=decide_eq_true c36;clear c36;by_cases c37:t187<(y184.length:Int)
          · rw[if_pos c37]at H
            have c37b0:decide (t187<(y184.length:Int))=true:=decide_eq_true c37;clear c37;simp only[Option.some.injEq,Prod.mk.injEq]at H
            obtain⟨rfl,rfl,rfl⟩:=H;go_wp2_with (first|((with_reducible refine gate_callee (f:=47) rfl ?_);refine goesL_ (some 29) rfl rfl Tryd.func47 (by kernel_rfl) rfl #[.pointer (some ⟨g,0,none⟩),.int .i64 30] rfl (by(try simp only[List.map_toArray,List.map_cons,List.map_nil]);first|done|rfl|(simp only[List.length_drop,List.length_take];rfl)) ?_;(with_reducible refine(spec_l6Rd_pick.calls kj2 g s0_0 x1001_2 30 t182 t183 w0 _ ?side1 ?side2 A33.out).mono ?_);(case side1=>repeat(first|(with_reducible first|exact HI0.out|apply IsS95.alloc|apply IsS95.drewN|apply IsS95.drew|apply IsS95.set_1|refine IsS95.far ?_ NB0_168.out _|refine IsS95.far ?_ NB0_171.out _)|exact HI0.out));(case side2=>repeat(first|(with_reducible first|exact HB.out|apply below_alloc|apply pw_below_drewN|apply below_drew1|refine below_set ?_ (IsS95.ge HI0.out)|refine below_set ?_ GE168.out|refine below_set ?_ GE171.out)|exact HB.out));rintro e w38 ⟨rfl,hi,hb,hk⟩;refine⟨_,rfl,?_⟩;have n0_:=Aside0.mk (KeepBut.blk hk (g':=gb168) (o:=.cells #[.int .i64 0,.int .i64 0] 25 (0,0)) (by(with_reducible repeat(first|refine blk_drewN ?_ _|refine blk_drew ?_|refine blk_alloc ?_ _));exact BK168.out) NB168_0.out (by simp));have n1_:=Aside0.mk (KeepBut.blk hk (g':=gb171) (o:=.cells #[.int .i64 t169,.int .i64 x172001_2] 25 (0,0)) (by(with_reducible repeat(first|refine blk_drewN ?_ _|refine blk_drew ?_|refine blk_alloc ?_ _));exact BK171.out) NB171_0.out (by simp));have n2_:=Aside0.mk (KeepBut.trans (by repeat(first|(with_reducible first|exact HK.out|apply KeepBut.set_|apply keep_drewN|apply keep_drew|apply keep_alloc|refine keep_far ?_ GW168.out _|refine keep_far ?_ GW171.out _)|exact HK.out)) hk (.inl rfl));have n3_:=Aside0.mk (hb);have n4_:=Aside0.mk (hi);clear BK168;clear BK171;clear HK;clear HB;clear HI0;have BK168:=n0_;have BK171:=n1_;have HK:=n2_;have HB:=n3_;have HI0:=n4_;clear n0_ n1_ n2_ n3_ n4_;(try clear hb);(try clear hb2);(try clear hk);(try clear hi))|((with_reducible refine gate_dst (N:=32) rfl ?_);refine Kd.R_lit (Kd.int .i64) _ 3 ?hg (N:=32) ?hd (xs:=([(-100),100,10]:List Int)) (inner:=[.int .i64 (-100),.int .i64 100,.int .i64 10]) (ok:=fun _=>True) (okp:=fun _=>True) ?hr ?hp (fun _ hk=>hk) trivial (Below.refl _ _) (Nat.le_refl _) (by simp) ?_;(case hd=>rfl);(case hg=>rfl);(case hr=>first|(go_simp;done)|(go_simp;rfl));(case hp=>exact(Reps.one (show Kd.M (Kd.int .i64) _ _ _ (-100) [.int .i64 (-100)]from rfl) (Reps.one (show Kd.M (Kd.int .i64) _ _ _ 100 [.int .i64 100]from rfl) (Reps.one (show Kd.M (Kd.int .i64) _ _ _ 10 [.int .i64 10]from rfl) (Reps.none _ _)))));intro v185 w39 ho40 hb hg_ hnew_;clear hg_ hnew_;(first|rw[←Ny184.out]at ho40|(simp only[Int.reduceToNat]at ho40;rw[←Ny184.out]at ho40));have n0_:=Aside0.mk (Kd.R_lower ho40 (keep_size (w:=w) (g:=g) (row:=none) (by repeat(first|(with_reducible first|exact HK.out|apply KeepBut.set_|apply keep_drewN|apply keep_drew|apply keep_alloc|refine keep_far ?_ GW168.out _|refine keep_far ?_ GW171.out _)|exact HK.out))));have n1_:=Aside0.mk (blk_below (g:=gb168) (o:=.cells #[.int .i64 0,.int .i64 0] 25 (0,0)) (by(with_reducible repeat(first|refine blk_drewN ?_ _|refine blk_drew ?_|refine blk_alloc ?_ _));exact BK168.out) hb);have n2_:=Aside0.mk (blk_below (g:=gb171) (o:=.cells #[.int .i64 t169,.int .i64 x172001_2] 25 (0,0)) (by(with_reducible repeat(first|refine blk_drewN ?_ _|refine blk_drew ?_|refine blk_alloc ?_ _));exact BK171.out) hb);have n3_:=Aside0.mk (IsS95.below (by repeat(first|(with_reducible first|exact HI0.out|apply IsS95.alloc|apply IsS95.drewN|apply IsS95.drew|apply IsS95.set_1|refine IsS95.far ?_ NB0_168.out _|refine IsS95.far ?_ NB0_171.out _)|exact HI0.out)) hb);have n4_:=Aside0.mk (KeepBut.trans (by repeat(first|(with_reducible first|exact HK.out|apply KeepBut.set_|apply keep_drewN|apply keep_drew|apply keep_alloc|refine keep_far ?_ GW168.out _|refine keep_far ?_ GW171.out _)|exact HK.out)) (KeepBut.of_below hb g none) (.inl rfl));have n5_:=Aside0.mk (below_step (by repeat(first|(with_reducible first|exact HB.out|apply below_alloc|apply pw_below_drewN|apply below_drew1|refine below_set ?_ (IsS95.ge HI0.out)|refine below_set ?_ GE168.out|refine below_set ?_ GE171.out)|exact HB.out)) hb);clear BK168;clear BK171;clear HI0;clear HK;clear HB;have HO186:=n0_;have BK168:=n1_;have BK171:=n2_;have HI0:=n3_;have HK:=n4_;have HB:=n5_;clear n0_ n1_ n2_ n3_ n4_ n5_;clear hb ho40)|((with_reducible refine gate_callee (f:=47) rfl ?_);refine goesL_ (some 34) rfl rfl Tryd.func47 (by kernel_rfl) rfl #[.pointer (some ⟨g,0,none⟩),.int .i64 3] rfl (by(try simp only[List.map_toArray,List.map_cons,List.map_nil]);first|done|rfl|(simp only[List.length_drop,List.length_take];rfl)) ?_;(with_reducible refine(spec_l6Rd_pick.calls kj2 g s0_0 t183 3 t187 t188 w0 _ ?side1 ?side2 A35.out).mono ?_);(case side1=>repeat(first|(with_reducible first|exact HI0.out|apply IsS95.alloc|apply IsS95.drewN|apply IsS95.drew|apply IsS95.set_1|refine IsS95.far ?_ NB0_168.out _|refine IsS95.far ?_ NB0_171.out _)|exact HI0.out));(case side2=>repeat(first|(with_reducible first|exact HB.out|apply below_alloc|apply pw_below_drewN|apply below_drew1|refine below_set ?_ (IsS95.ge HI0.out)|refine below_set ?_ GE168.out|refine below_set ?_ GE171.out)|exact HB.out));rintro e w41 ⟨rfl,hi,hb,hk⟩;refine⟨_,rfl,?_⟩;have n0_:=Aside0.mk (KeepBut.blk hk (g':=gb168) (o:=.cells #[.int .i64 0,.int .i64 0] 25 (0,0)) (by(with_reducible repeat(first|refine blk_drewN ?_ _|refine blk_drew ?_|refine blk_alloc ?_ _));exact BK168.out) NB168_0.out (by simp));have n1_:=Aside0.mk (KeepBut.blk hk (g':=gb171) (o:=.cells #[.int .i64 t169,.int .i64 x172001_2] 25 (0,0)) (by(with_reducible repeat(first|refine blk_drewN ?_ _|refine blk_drew ?_|refine blk_alloc ?_ _));exact BK171.out) NB171_0.out (by simp));have n2_:=Aside0.mk (Kd.R_mono (Kd.R_keep (IsS95.apart (show IsS95 w0 _ g s0_0 t183 from by repeat(first|(with_reducible first|exact HI0.out|apply IsS95.alloc|apply IsS95.drewN|apply IsS95.drew|apply IsS95.set_1|refine IsS95.far ?_ NB0_168.out _|refine IsS95.far ?_ NB0_171.out _)|exact HI0.out)) (by(with_reducible repeat(first|apply Kd.R_alloc|apply Kd.R_drewN|apply Kd.R_drew));exact HO186.out) (by decide)) hk (fun _ h=>h.2)) (fun _ h=>h.1));have n3_:=Aside0.mk (KeepBut.trans (by repeat(first|(with_reducible first|exact HK.out|apply KeepBut.set_|apply keep_drewN|apply keep_drew|apply keep_alloc|refine keep_far ?_ GW168.out _|refine keep_far ?_ GW171.out _)|exact HK.out)) hk (.inl rfl));have n4_:=Aside0.mk (hb);have n5_:=Aside0.mk (hi);clear BK168;clear BK171;clear HO186;clear HK;clear HB;clear HI0;have BK168:=n0_;have BK171:=n1_;have HO186:=n2_;have HK:=n3_;have HB:=n4_;have HI0:=n5_;clear n0_ n1_ n2_ n3_ n4_ n5_;(try clear hb);(try clear hb2);(try clear hk);(try clear hi);obtain⟨Ao42,co42,eo42⟩:=Kd.R_slice HO186.out;subst eo42;have p189:0≤(t187:Int):=of_decide_eq_true (by first|(with_reducible assumption)|assumption);have q189:t187<(y184.length:Int):=of_decide_eq_true (by first|(with_reducible assumption)|assumption);obtain⟨ad189,e189,hx189_0⟩:=Kd.at_int (Kd.R_reads' HO186.out).2.2 t187 p189 q189;cases e189;replace p189:=eq_true p189;replace q189:=eq_true q189;have hnb43:=NB171_168.out;have hnc43:=NB168_171.out;have hnb44:=NB171_0.out;have hnc44:=NB0_171.out;have hcz45_0:w41.cell? ⟨gb171,0,none⟩=some (.int .i64 t169):=(blk_cell BK171.out 0).trans rfl;have hcz45_1:w41.cell? ⟨gb171,1,none⟩=some (.int .i64 x172001_2):=(blk_cell BK171.out 1).trans rfl;have hfz45_0:=blk_frozen BK171.out 0;have hfz45_1:=blk_frozen BK171.out 1;have hnb46:=NB168_0.out;have hnc46:=NB0_168.out;have hcz47_0:w41.cell? ⟨gb168,0,none⟩=some (.int .i64 0):=(blk_cell BK168.out 0).trans rfl;have hcz47_1:w41.cell? ⟨gb168,1,none⟩=some (.int .i64 0):=(blk_cell BK168.out 1).trans rfl;have hfz47_0:=blk_frozen BK168.out 0;have hfz47_1:=blk_frozen BK168.out 1))
            refine bodyPost_ret (results_cell_row rfl _ _ gb168 25 #[.int .i64 t169,.int .i64 (rd y184 t187)] (0,0) _ rfl (by(with_reducible repeat(first|refine blk_drewN ?_ _|refine blk_drew ?_|refine blk_alloc ?_ _));refine blk_put (cs:= #[.int .i64 t169,.int .i64 0]) ?_ 1 _ rfl;(with_reducible repeat(first|refine blk_drewN ?_ _|refine blk_drew ?_|refine blk_alloc ?_ _));refine blk_put (cs:= #[.int .i64 0,.int .i64 0]) ?_ 0 _ rfl;(with_reducible repeat(first|refine blk_drewN ?_ _|refine blk_drew ?_|refine blk_alloc ?_ _));refine blk_far ?_ NB168_171.out _;(with_reducible repeat(first|refine blk_drewN ?_ _|refine blk_drew ?_|refine blk_alloc ?_ _));exact BK168.out) Tryd.underlying25 rfl (by kernel_rfl)) rfl ?_
            exact⟨by first|rfl|(simp[errW_none,errW_some]<;>rfl)|(simp[*,errW_none,errW_some]<;>rfl),by repeat(first|(with_reducible first|exact HI0.out|apply IsS95.alloc|apply IsS95.drewN|apply IsS95.drew|apply IsS95.set_1|refine IsS95.far ?_ NB0_168.out _|refine IsS95.far ?_ NB0_171.out _)|exact HI0.out),by repeat(first|(with_reducible first|exact HB.out|apply below_alloc|apply pw_below_drewN|apply below_drew1|refine below_set ?_ (IsS95.ge HI0.out)|refine below_set ?_ GE168.out|refine below_set ?_ GE171.out)|exact HB.out),by repeat(first|(with_reducible first|exact HK.out|apply KeepBut.set_|apply keep_drewN|apply keep_drew|apply keep_alloc|refine keep_far ?_ GW168.out _|refine keep_far ?_ GW171.out _)|exact HK.out)⟩
          · rw[if_neg c37]at H
            exact absurd H (by simp)
        · rw[if_neg c36]at H
          exact absurd H (by simp)
      · rw[if_neg c34]at H
        have c34b0:(t182==0)=false:=beq_eq_false_iff_ne.mpr c34;have c34b1:(t182 !=0)=true:=bne_iff_ne.mpr c34;by_cases c48:t182=1
        · rw[if_pos c48]at H
          have c48b0:(t182==1)=true:=beq_iff_eq.mpr c48;have c48b1:(t182 !=1)=false:=bne_eq_false_iff_eq.mpr c48;clear c48;replace H:=Option.bind_eq_some_iff.mp H;obtain⟨⟨t190,t191⟩,A490,H⟩:=H;replace H:(some (t190,x172001_2,t191))=some (r1,r2,r3):=H;have A49:=Aside0.mk A490;clear A490;simp only[Option.some.injEq,Prod.mk.injEq]at H
          obtain⟨rfl,rfl,rfl⟩:=H;go_wp2_with (first|((with_reducible refine gate_callee (f:=47) rfl ?_);refine goesL_ (some 29) rfl rfl Tryd.func47 (by kernel_rfl) rfl #[.pointer (some ⟨g,0,none⟩),.int .i64 30] rfl (by(try simp only[List.map_toArray,List.map_cons,List.map_nil]);first|done|rfl|(simp only[List.length_drop,List.length_take];rfl)) ?_;(with_reducible refine(spec_l6Rd_pick.calls kj2 g s0_0 x1001_2 30 t182 t183 w0 _ ?side1 ?side2 A33.out).mono ?_);(case side1=>repeat(first|(with_reducible first|exact HI0.out|apply IsS95.alloc|apply IsS95.drewN|apply IsS95.drew|apply IsS95.set_1|refine IsS95.far ?_ NB0_168.out _|refine IsS95.far ?_ NB0_171.out _)|exact HI0.out));(case side2=>repeat(first|(with_reducible first|exact HB.out|apply below_alloc|apply pw_below_drewN|apply below_drew1|refine below_set ?_ (IsS95.ge HI0.out)|refine below_set ?_ GE168.out|refine below_set ?_ GE171.out)|exact HB.out));rintro e w50 ⟨rfl,hi,hb,hk⟩;refine⟨_,rfl,?_⟩;have n0_:=Aside0.mk (KeepBut.blk hk (g':=gb168) (o:=.cells #[.int .i64 0,.int .i64 0] 25 (0,0)) (by(with_reducible repeat(first|refine blk_drewN ?_ _|refine blk_drew ?_|refine blk_alloc ?_ _));exact BK168.out) NB168_0.out (by simp));have n1_:=Aside0.mk (KeepBut.blk hk (g':=gb171) (o:=.cells #[.int .i64 t169,.int .i64 x172001_2] 25 (0,0)) (by(with_reducible repeat(first|refine blk_drewN ?_ _|refine blk_drew ?_|refine blk_alloc ?_ _));exact BK171.out) NB171_0.out (by simp));have n2_:=Aside0.mk (KeepBut.trans (by repeat(first|(with_reducible first|exact HK.out|apply KeepBut.set_|apply keep_drewN|apply keep_drew|apply keep_alloc|refine keep_far ?_ GW168.out _|refine keep_far ?_ GW171.out _)|exact HK.out)) hk (.inl rfl));have n3_:=Aside0.mk (hb);have n4_:=Aside0.mk (hi);clear BK168;clear BK171;clear HK;clear HB;clear HI0;have BK168:=n0_;have BK171:=n1_;have HK:=n2_;have HB:=n3_;have HI0:=n4_;clear n0_ n1_ n2_ n3_ n4_;(try clear hb);(try clear hb2);(try clear hk);(try clear hi))|((with_reducible refine gate_callee (f:=47) rfl ?_);refine goesL_ (some 41) rfl rfl Tryd.func47 (by kernel_rfl) rfl #[.pointer (some ⟨g,0,none⟩),.int .i64 6] rfl (by(try simp only[List.map_toArray,List.map_cons,List.map_nil]);first|done|rfl|(simp only[List.length_drop,List.length_take];rfl)) ?_;(with_reducible refine(spec_l6Rd_pick.calls kj2 g s0_0 t183 6 t190 t191 w0 _ ?side1 ?side2 A49.out).mono ?_);(case side1=>repeat(first|(with_reducible first|exact HI0.out|apply IsS95.alloc|apply IsS95.drewN|apply IsS95.drew|apply IsS95.set_1|refine IsS95.far ?_ NB0_168.out _|refine IsS95.far ?_ NB0_171.out _)|exact HI0.out));(case side2=>repeat(first|(with_reducible first|exact HB.out|apply below_alloc|apply pw_below_drewN|apply below_drew1|refine below_set ?_ (IsS95.ge HI0.out)|refine below_set ?_ GE168.out|refine below_set ?_ GE171.out)|exact HB.out));rintro e w51 ⟨rfl,hi,hb,hk⟩;refine⟨_,rfl,?_⟩;have n0_:=Aside0.mk (KeepBut.blk hk (g':=gb168) (o:=.cells #[.int .i64 0,.int .i64 0] 25 (0,0)) (by(with_reducible repeat(first|refine blk_drewN ?_ _|refine blk_drew ?_|refine blk_alloc ?_ _));exact BK168.out) NB168_0.out (by simp));have n1_:=Aside0.mk (KeepBut.blk hk (g':=gb171) (o:=.cells #[.int .i64 t169,.int .i64 x172001_2] 25 (0,0)) (by(with_reducible repeat(first|refine blk_drewN ?_ _|refine blk_drew ?_|refine blk_alloc ?_ _));exact BK171.out) NB171_0.out (by simp));have n2_:=Aside0.mk (KeepBut.trans (by repeat(first|(with_reducible first|exact HK.out|apply KeepBut.set_|apply keep_drewN|apply keep_drew|apply keep_alloc|refine keep_far ?_ GW168.out _|refine keep_far ?_ GW171.out _)|exact HK.out)) hk (.inl rfl));have n3_:=Aside0.mk (hb);have n4_:=Aside0.mk (hi);clear BK168;clear BK171;clear HK;clear HB;clear HI0;have BK168:=n0_;have BK171:=n1_;have HK:=n2_;have HB:=n3_;have HI0:=n4_;clear n0_ n1_ n2_ n3_ n4_;(try clear hb);(try clear hb2);(try clear hk);(try clear hi);have hnb52:=NB171_168.out;have hnc52:=NB168_171.out;have hnb53:=NB171_0.out;have hnc53:=NB0_171.out;have hcz54_0:w51.cell? ⟨gb171,0,none⟩=some (.int .i64 t169):=(blk_cell BK171.out 0).trans rfl;have hcz54_1:w51.cell? ⟨gb171,1,none⟩=some (.int .i64 x172001_2):=(blk_cell BK171.out 1).trans rfl;have hfz54_0:=blk_frozen BK171.out 0;have hfz54_1:=blk_frozen BK171.out 1;have hnb55:=NB168_0.out;have hnc55:=NB0_168.out;have hcz56_0:w51.cell? ⟨gb168,0,none⟩=some (.int .i64 0):=(blk_cell BK168.out 0).trans rfl;have hcz56_1:w51.cell? ⟨gb168,1,none⟩=some (.int .i64 0):=(blk_cell BK168.out 1).trans rfl;have hfz56_0:=blk_frozen BK168.out 0;have hfz56_1:=blk_frozen BK168.out 1))
          refine bodyPost_ret (results_cell_row rfl _ _ gb168 25 #[.int .i64 t190,.int .i64 x172001_2] (0,0) _ rfl (by(with_reducible repeat(first|refine blk_drewN ?_ _|refine blk_drew ?_|refine blk_alloc ?_ _));refine blk_put (cs:= #[.int .i64 t190,.int .i64 0]) ?_ 1 _ rfl;(with_reducible repeat(first|refine blk_drewN ?_ _|refine blk_drew ?_|refine blk_alloc ?_ _));refine blk_put (cs:= #[.int .i64 0,.int .i64 0]) ?_ 0 _ rfl;(with_reducible repeat(first|refine blk_drewN ?_ _|refine blk_drew ?_|refine blk_alloc ?_ _));refine blk_far ?_ NB168_171.out _;(with_reducible repeat(first|refine blk_drewN ?_ _|refine blk_drew ?_|refine blk_alloc ?_ _));exact BK168.out) Tryd.underlying25 rfl (by kernel_rfl)) rfl ?_
          exact⟨by first|rfl|(simp[errW_none,errW_some]<;>rfl)|(simp[*,errW_none,errW_some]<;>rfl),by repeat(first|(with_reducible first|exact HI0.out|apply IsS95.alloc|apply IsS95.drewN|apply IsS95.drew|apply IsS95.set_1|refine IsS95.far ?_ NB0_168.out _|refine IsS95.far ?_ NB0_171.out _)|exact HI0.out),by repeat(first|(with_reducible first|exact HB.out|apply below_alloc|apply pw_below_drewN|apply below_drew1|refine below_set ?_ (IsS95.ge HI0.out)|refine below_set ?_ GE168.out|refine below_set ?_ GE171.out)|exact HB.out),by repeat(first|(with_reducible first|exact HK.out|apply KeepBut.set_|apply keep_drewN|apply keep_drew|apply keep_alloc|refine keep_far ?_ GW168.out _|refine keep_far ?_ GW171.out _)|exact HK.out)⟩
        · rw[if_neg c48]at H
          have c48b0:(t182==1)=false:=beq_eq_false_iff_ne.mpr c48;have c48b1:(t182 !=1)=true:=bne_iff_ne.mpr c48;simp only[Option.some.injEq,Prod.mk.injEq]at H
          obtain⟨rfl,rfl,rfl⟩:=H;go_wp2_with (first|((with_reducible refine gate_callee (f:=47) rfl ?_);refine goesL_ (some 29) rfl rfl Tryd.func47 (by kernel_rfl) rfl #[.pointer (some ⟨g,0,none⟩),.int .i64 30] rfl (by(try simp only[List.map_toArray,List.map_cons,List.map_nil]);first|done|rfl|(simp only[List.length_drop,List.length_take];rfl)) ?_;(with_reducible refine(spec_l6Rd_pick.calls kj2 g s0_0 x1001_2 30 t182 t183 w0 _ ?side1 ?side2 A33.out).mono ?_);(case side1=>repeat(first|(with_reducible first|exact HI0.out|apply IsS95.alloc|apply IsS95.drewN|apply IsS95.drew|apply IsS95.set_1|refine IsS95.far ?_ NB0_168.out _|refine IsS95.far ?_ NB0_171.out _)|exact HI0.out));(case side2=>repeat(first|(with_reducible first|exact HB.out|apply below_alloc|apply pw_below_drewN|apply below_drew1|refine below_set ?_ (IsS95.ge HI0.out)|refine below_set ?_ GE168.out|refine below_set ?_ GE171.out)|exact HB.out));rintro e w57 ⟨rfl,hi,hb,hk⟩;refine⟨_,rfl,?_⟩;have n0_:=Aside0.mk (KeepBut.blk hk (g':=gb168) (o:=.cells #[.int .i64 0,.int .i64 0] 25 (0,0)) (by(with_reducible repeat(first|refine blk_drewN ?_ _|refine blk_drew ?_|refine blk_alloc ?_ _));exact BK168.out) NB168_0.out (by simp));have n1_:=Aside0.mk (KeepBut.blk hk (g':=gb171) (o:=.cells #[.int .i64 t169,.int .i64 x172001_2] 25 (0,0)) (by(with_reducible repeat(first|refine blk_drewN ?_ _|refine blk_drew ?_|refine blk_alloc ?_ _));exact BK171.out) NB171_0.out (by simp));have n2_:=Aside0.mk (KeepBut.trans (by repeat(first|(with_reducible first|exact HK.out|apply KeepBut.set_|apply keep_drewN|apply keep_drew|apply keep_alloc|refine keep_far ?_ GW168.out _|refine keep_far ?_ GW171.out _)|exact HK.out)) hk (.inl rfl));have n3_:=Aside0.mk (hb);have n4_:=Aside0.mk (hi);clear BK168;clear BK171;clear HK;clear HB;clear HI0;have BK168:=n0_;have BK171:=n1_;have HK:=n2_;have HB:=n3_;have HI0:=n4_;clear n0_ n1_ n2_ n3_ n4_;(try clear hb);(try clear hb2);(try clear hk);(try clear hi);have hnb58:=NB171_168.out;have hnc58:=NB168_171.out;have hnb59:=NB171_0.out;have hnc59:=NB0_171.out;have hcz60_0:w57.cell? ⟨gb171,0,none⟩=some (.int .i64 t169):=(blk_cell BK171.out 0).trans rfl;have hcz60_1:w57.cell? ⟨gb171,1,none⟩=some (.int .i64 x172001_2):=(blk_cell BK171.out 1).trans rfl;have hfz60_0:=blk_frozen BK171.out 0;have hfz60_1:=blk_frozen BK171.out 1;have hnb61:=NB168_0.out;have hnc61:=NB0_168.out;have hcz62_0:w57.cell? ⟨gb168,0,none⟩=some (.int .i64 0):=(blk_cell BK168.out 0).trans rfl;have hcz62_1:w57.cell? ⟨gb168,1,none⟩=some (.int .i64 0):=(blk_cell BK168.out 1).trans rfl;have hfz62_0:=blk_frozen BK168.out 0;have hfz62_1:=blk_frozen BK168.out 1))
          refine bodyPost_ret (results_cell_row rfl _ _ gb168 25 #[.int .i64 t169,.int .i64 x172001_2] (0,0) _ rfl (by(with_reducible repeat(first|refine blk_drewN ?_ _|refine blk_drew ?_|refine blk_alloc ?_ _));refine blk_put (cs:= #[.int .i64 t169,.int .i64 0]) ?_ 1 _ rfl;(with_reducible repeat(first|refine blk_drewN ?_ _|refine blk_drew ?_|refine blk_alloc ?_ _));refine blk_put (cs:= #[.int .i64 0,.int .i64 0]) ?_ 0 _ rfl;(with_reducible repeat(first|refine blk_drewN ?_ _|refine blk_drew ?_|refine blk_alloc ?_ _));exact BK168.out) Tryd.underlying25 rfl (by kernel_rfl)) rfl ?_
          exact⟨by first|rfl|(simp[errW_none,errW_some]<;>rfl)|(simp[*,errW_none,errW_some]<;>rfl),by repeat(first|(with_reducible first|exact HI0.out|apply IsS95.alloc|apply IsS95.drewN|apply IsS95.drew|apply IsS95.set_1|refine IsS95.far ?_ NB0_168.out _|refine IsS95.far ?_ NB0_171.out _)|exact HI0.out),by repeat(first|(with_reducible first|exact HB.out|apply below_alloc|apply pw_below_drewN|apply below_drew1|refine below_set ?_ (IsS95.ge HI0.out)|refine below_set ?_ GE168.out|refine below_set ?_ GE171.out)|exact HB.out),by repeat(first|(with_reducible first|exact HK.out|apply KeepBut.set_|apply keep_drewN|apply keep_drew|apply keep_alloc|refine keep_far ?_ GW168.out _|refine keep_far ?_ GW171.out _)|exact HK.out)⟩
def spec_l71Good.f (k:Nat) (s0_0:List Int) (s0_1:Int):Option (Int×Int×Int):=(spec_l71Val.f k s0_0 s0_1).bind fun bt193=>((spec_ValOk.f bt193.1 bt193.2.1).bind fun t197=>(if t197=true then(some (bt193.1,bt193.2.1,bt193.2.2))else(some (1,1,bt193.2.2))))
theorem spec_l71Good.calls (k:Nat) (g:Nat) (s0_0:List Int) (s0_1:Int) (r1:Int) (r2:Int) (r3:Int) (w0 w:World) (hI:IsS95 w0 w g s0_0 s0_1) (hB:Below w0.heap.size w0 w) (h:spec_l71Good.f k s0_0 s0_1=some (r1,r2,r3)):
    Calls Tryd.prog 84 #[.pointer (some ⟨g,0,none⟩)] w fun e w'=>e= .returned (.agg #[.int .i64 r1,.int .i64 r2])∧IsS95 w0 w' g s0_0 r3∧Below w0.heap.size w0 w'∧KeepBut w w' g none:=by
  have hu25:=Tryd.underlying25;have HI0:=Aside0.mk hI;have HK:=Aside0.mk (KeepBut.refl w g none);have HL:=Aside0.mk hB.size;clear hI;have HW0:=Aside0.mk hB.size;have HB:=Aside0.mk hB;clear hB;have H:((spec_l71Val.f k s0_0 s0_1).bind fun bt193=>((spec_ValOk.f bt193.1 bt193.2.1).bind fun t197=>(if t197=true then(some (bt193.1,bt193.2.1,bt193.2.2))else(some (1,1,bt193.2.2)))))=some (r1,r2,r3):=h
  clear h;replace H:=Option.bind_eq_some_iff.mp H;obtain⟨⟨t193,t194,t195⟩,A20,H⟩:=H;replace H:((spec_ValOk.f t193 t194).bind fun t197=>(if t197=true then(some (t193,t194,t195))else(some (1,1,t195))))=some (r1,r2,r3):=H
  have A2:=Aside0.mk A20;clear A20;replace H:=Option.bind_eq_some_iff.mp H;obtain⟨t197,A30,H⟩:=H;replace H:(if t197=true then(some (t193,t194,t195))else(some (1,1,t195)))=some (r1,r2,r3):=H
  have A3:=Aside0.mk A30;clear A30;by_cases c4:t197=true
  · subst c4
    have H1:(some (t193,t194,t195))=some (r1,r2,r3):=by rw[if_pos rfl]at H;exact H
    clear H;have H:=H1;clear H1;simp only[Option.some.injEq,Prod.mk.injEq]at H
    obtain⟨rfl,rfl,rfl⟩:=H;go_enter Tryd.func84,Tryd.ntmps84
    go_wp2_with (first|((with_reducible refine gate_dst (N:=2) rfl ?_);refine box_event ?hg (N:=2) ?hd (cs:= #[.int .i64 0,.int .i64 0]) (t:=25) ?hr ?_;(case hd=>rfl);(case hg=>rfl);(case hr=>first|(go_simp;done)|(go_simp;rfl));intro gb192 hg w5 hbox hb;have n0_:=Aside0.mk (IsS95.below (by repeat(first|(with_reducible first|exact HI0.out|apply IsS95.alloc|apply IsS95.drewN|apply IsS95.drew|apply IsS95.set_1)|exact HI0.out)) hb);have n1_:=Aside0.mk (KeepBut.trans (by repeat(first|(with_reducible first|exact HK.out|apply KeepBut.set_|apply keep_drewN|apply keep_drew|apply keep_alloc)|exact HK.out)) (KeepBut.of_below hb g none) (.inl rfl));have n2_:=Aside0.mk (below_step (by repeat(first|(with_reducible first|exact HB.out|apply below_alloc|apply pw_below_drewN|apply below_drew1|refine below_set ?_ (IsS95.ge HI0.out))|exact HB.out)) hb);have n3_:=Aside0.mk (hbox);have n4_:=Aside0.mk ((by rw[hg];exact(keep_size (w:=w) (g:=g) (row:=none) (by repeat(first|(with_reducible first|exact HK.out|apply KeepBut.set_|apply keep_drewN|apply keep_drew|apply keep_alloc)|exact HK.out))):w.heap.size≤gb192));have n5_:=Aside0.mk ((Nat.le_trans HW0.out (by rw[hg];exact(keep_size (w:=w) (g:=g) (row:=none) (by repeat(first|(with_reducible first|exact HK.out|apply KeepBut.set_|apply keep_drewN|apply keep_drew|apply keep_alloc)|exact HK.out))):w.heap.size≤gb192):w0.heap.size≤gb192));have n6_:=Aside0.mk ((by rw[hg];exact Nat.ne_of_lt (IsS95.lt (show IsS95 w0 _ g s0_0 s0_1 from by repeat(first|(with_reducible first|exact HI0.out|apply IsS95.alloc|apply IsS95.drewN|apply IsS95.drew|apply IsS95.set_1)|exact HI0.out))):g≠gb192));have n7_:=Aside0.mk ((by rw[hg];exact Nat.ne_of_gt (IsS95.lt (show IsS95 w0 _ g s0_0 s0_1 from by repeat(first|(with_reducible first|exact HI0.out|apply IsS95.alloc|apply IsS95.drewN|apply IsS95.drew|apply IsS95.set_1)|exact HI0.out))):gb192≠g));clear HI0;clear HK;clear HB;have HI0:=n0_;have HK:=n1_;have HB:=n2_;have BK192:=n3_;have GW192:=n4_;have GE192:=n5_;have NB0_192:=n6_;have NB192_0:=n7_;clear n0_ n1_ n2_ n3_ n4_ n5_ n6_ n7_;clear hb hbox hg)|((with_reducible refine gate_callee (f:=45) rfl ?_);refine goesL_ (some 5) rfl rfl Tryd.func45 (by kernel_rfl) rfl #[.pointer (some ⟨g,0,none⟩)] rfl (by(try simp only[List.map_toArray,List.map_cons,List.map_nil]);first|done|rfl|(simp only[List.length_drop,List.length_take];rfl)) ?_;(with_reducible refine(spec_l71Val.calls k g s0_0 s0_1 t193 t194 t195 w0 _ ?side1 ?side2 A2.out).mono ?_);(case side1=>repeat(first|(with_reducible first|exact HI0.out|apply IsS95.alloc|apply IsS95.drewN|apply IsS95.drew|apply IsS95.set_1|refine IsS95.far ?_ NB0_192.out _)|exact HI0.out));(case side2=>repeat(first|(with_reducible first|exact HB.out|apply below_alloc|apply pw_below_drewN|apply below_drew1|refine below_set ?_ (IsS95.ge HI0.out)|refine below_set ?_ GE192.out)|exact HB.out));rintro e w6 ⟨rfl,hi,hb,hk⟩;refine⟨_,rfl,?_⟩;have n0_:=Aside0.mk (KeepBut.blk hk (g':=gb192) (o:=.cells #[.int .i64 0,.int .i64 0] 25 (0,0)) (by(with_reducible repeat(first|refine blk_drewN ?_ _|refine blk_drew ?_|refine blk_alloc ?_ _));exact BK192.out) NB192_0.out (by simp));have n1_:=Aside0.mk (KeepBut.trans (by repeat(first|(with_reducible first|exact HK.out|apply KeepBut.set_|apply keep_drewN|apply keep_drew|apply keep_alloc|refine keep_far ?_ GW192.out _)|exact HK.out)) hk (.inl rfl));have n2_:=Aside0.mk (hb);have n3_:=Aside0.mk (hi);clear BK192;clear HK;clear HB;clear HI0;have BK192:=n0_;have HK:=n1_;have HB:=n2_;have HI0:=n3_;clear n0_ n1_ n2_ n3_;(try clear hb);(try clear hb2);(try clear hk);(try clear hi))|((with_reducible refine gate_dst (N:=3) rfl ?_);refine box_event ?hg (N:=3) ?hd (cs:= #[.int .i64 0,.int .i64 0]) (t:=25) ?hr ?_;(case hd=>rfl);(case hg=>rfl);(case hr=>first|(go_simp;done)|(go_simp;rfl));intro gb196 hg w7 hbox hb;have n0_:=Aside0.mk (IsS95.below (by repeat(first|(with_reducible first|exact HI0.out|apply IsS95.alloc|apply IsS95.drewN|apply IsS95.drew|apply IsS95.set_1|refine IsS95.far ?_ NB0_192.out _)|exact HI0.out)) hb);have n1_:=Aside0.mk (blk_below (g:=gb192) (o:=.cells #[.int .i64 0,.int .i64 0] 25 (0,0)) (by(with_reducible repeat(first|refine blk_drewN ?_ _|refine blk_drew ?_|refine blk_alloc ?_ _));exact BK192.out) hb);have n2_:=Aside0.mk (KeepBut.trans (by repeat(first|(with_reducible first|exact HK.out|apply KeepBut.set_|apply keep_drewN|apply keep_drew|apply keep_alloc|refine keep_far ?_ GW192.out _)|exact HK.out)) (KeepBut.of_below hb g none) (.inl rfl));have n3_:=Aside0.mk (below_step (by repeat(first|(with_reducible first|exact HB.out|apply below_alloc|apply pw_below_drewN|apply below_drew1|refine below_set ?_ (IsS95.ge HI0.out)|refine below_set ?_ GE192.out)|exact HB.out)) hb);have n4_:=Aside0.mk (hbox);have n5_:=Aside0.mk ((by rw[hg];exact(keep_size (w:=w) (g:=g) (row:=none) (by repeat(first|(with_reducible first|exact HK.out|apply KeepBut.set_|apply keep_drewN|apply keep_drew|apply keep_alloc|refine keep_far ?_ GW192.out _)|exact HK.out))):w.heap.size≤gb196));have n6_:=Aside0.mk ((Nat.le_trans HW0.out (by rw[hg];exact(keep_size (w:=w) (g:=g) (row:=none) (by repeat(first|(with_reducible first|exact HK.out|apply KeepBut.set_|apply keep_drewN|apply keep_drew|apply keep_alloc|refine keep_far ?_ GW192.out _)|exact HK.out))):w.heap.size≤gb196):w0.heap.size≤gb196));have n7_:=Aside0.mk ((by rw[hg];exact Nat.ne_of_lt (blk_lt (g:=gb192) (o:=.cells #[.int .i64 0,.int .i64 0] 25 (0,0)) (by(with_reducible repeat(first|refine blk_drewN ?_ _|refine blk_drew ?_|refine blk_alloc ?_ _));exact BK192.out)):gb192≠gb196));have n8_:=Aside0.mk ((by rw[hg];exact Nat.ne_of_gt (blk_lt (g:=gb192) (o:=.cells #[.int .i64 0,.int .i64 0] 25 (0,0)) (by(with_reducible repeat(first|refine blk_drewN ?_ _|refine blk_drew ?_|refine blk_alloc ?_ _));exact BK192.out)):gb196≠gb192));have n9_:=Aside0.mk ((by rw[hg];exact Nat.ne_of_lt (IsS95.lt (show IsS95 w0 _ g s0_0 t195 from by repeat(first|(with_reducible first|exact HI0.out|apply IsS95.alloc|apply IsS95.drewN|apply IsS95.drew|apply IsS95.set_1|refine IsS95.far ?_ NB0_192.out _)|exact HI0.out))):g≠gb196));have n10_:=Aside0.mk ((by rw[hg];exact Nat.ne_of_gt (IsS95.lt (show IsS95 w0 _ g s0_0 t195 from by repeat(first|(with_reducible first|exact HI0.out|apply IsS95.alloc|apply IsS95.drewN|apply IsS95.drew|apply IsS95.set_1|refine IsS95.far ?_ NB0_192.out _)|exact HI0.out))):gb196≠g));clear HI0;clear BK192;clear HK;clear HB;have HI0:=n0_;have BK192:=n1_;have HK:=n2_;have HB:=n3_;have BK196:=n4_;have GW196:=n5_;have GE196:=n6_;have NB192_196:=n7_;have NB196_192:=n8_;have NB0_196:=n9_;have NB196_0:=n10_;clear n0_ n1_ n2_ n3_ n4_ n5_ n6_ n7_ n8_ n9_ n10_;clear hb hbox hg;have hnb8:=NB196_192.out;have hnc8:=NB192_196.out;have hnb9:=NB196_0.out;have hnc9:=NB0_196.out;have hcz10_0:w7.cell? ⟨gb196,0,none⟩=some (.int .i64 0):=(blk_cell BK196.out 0).trans rfl;have hcz10_1:w7.cell? ⟨gb196,1,none⟩=some (.int .i64 0):=(blk_cell BK196.out 1).trans rfl;have hfz10_0:=blk_frozen BK196.out 0;have hfz10_1:=blk_frozen BK196.out 1)|((with_reducible refine gate_callee (f:=42) rfl ?_);refine goesL_ (some 7) rfl rfl Tryd.func42 (by kernel_rfl) rfl #[.agg #[.int .i64 t193,.int .i64 t194]] rfl (by(try simp only[List.map_toArray,List.map_cons,List.map_nil]);first|done|rfl|(simp only[List.length_drop,List.length_take];rfl)) ?_;(with_reducible refine(spec_ValOk.calls t193 t194 true _ A3.out).mono ?_);rintro e w11 ⟨rfl,hb⟩;refine⟨_,rfl,?_⟩;have n0_:=Aside0.mk (IsS95.below (show IsS95 w0 ((w7.setCell ⟨gb196,0,none⟩ (.int .i64 t193)).setCell ⟨gb196,1,none⟩ (.int .i64 t194)) g s0_0 t195 from by repeat(first|(with_reducible first|exact HI0.out|apply IsS95.alloc|apply IsS95.drewN|apply IsS95.drew|apply IsS95.set_1|refine IsS95.far ?_ NB0_192.out _|refine IsS95.far ?_ NB0_196.out _)|exact HI0.out)) hb);have n1_:=Aside0.mk (blk_below (g:=gb192) (o:=.cells #[.int .i64 0,.int .i64 0] 25 (0,0)) (by(with_reducible repeat(first|refine blk_drewN ?_ _|refine blk_drew ?_|refine blk_alloc ?_ _));refine blk_far ?_ NB192_196.out _;(with_reducible repeat(first|refine blk_drewN ?_ _|refine blk_drew ?_|refine blk_alloc ?_ _));refine blk_far ?_ NB192_196.out _;(with_reducible repeat(first|refine blk_drewN ?_ _|refine blk_drew ?_|refine blk_alloc ?_ _));exact BK192.out) hb);have n2_:=Aside0.mk (blk_below (g:=gb196) (o:=.cells #[.int .i64 t193,.int .i64 t194] 25 (0,0)) (by(with_reducible repeat(first|refine blk_drewN ?_ _|refine blk_drew ?_|refine blk_alloc ?_ _));refine blk_put (cs:= #[.int .i64 t193,.int .i64 0]) ?_ 1 _ rfl;(with_reducible repeat(first|refine blk_drewN ?_ _|refine blk_drew ?_|refine blk_alloc ?_ _));refine blk_put (cs:= #[.int .i64 0,.int .i64 0]) ?_ 0 _ rfl;(with_reducible repeat(first|refine blk_drewN ?_ _|refine blk_drew ?_|refine blk_alloc ?_ _));exact BK196.out) hb);have n3_:=Aside0.mk (KeepBut.trans (by repeat(first|(with_reducible first|exact HK.out|apply KeepBut.set_|apply keep_drewN|apply keep_drew|apply keep_alloc|refine keep_far ?_ GW192.out _|refine keep_far ?_ GW196.out _)|exact HK.out)) (KeepBut.of_below hb g none) (.inl rfl));have n4_:=Aside0.mk (below_step (by repeat(first|(with_reducible first|exact HB.out|apply below_alloc|apply pw_below_drewN|apply below_drew1|refine below_set ?_ (IsS95.ge HI0.out)|refine below_set ?_ GE192.out|refine below_set ?_ GE196.out)|exact HB.out)) hb);clear HI0;clear BK192;clear BK196;clear HK;clear HB;have HI0:=n0_;have BK192:=n1_;have BK196:=n2_;have HK:=n3_;have HB:=n4_;clear n0_ n1_ n2_ n3_ n4_;(try clear hb);(try clear hb2);(try clear hk);(try clear hi);have hcz12_0:w11.cell? ⟨gb196,0,none⟩=some (.int .i64 t193):=(blk_cell BK196.out 0).trans rfl;have hcz12_1:w11.cell? ⟨gb196,1,none⟩=some (.int .i64 t194):=(blk_cell BK196.out 1).trans rfl;have hfz12_0:=blk_frozen BK196.out 0;have hfz12_1:=blk_frozen BK196.out 1;have hnb13:=NB192_0.out;have hnc13:=NB0_192.out;have hcz14_0:w11.cell? ⟨gb192,0,none⟩=some (.int .i64 0):=(blk_cell BK192.out 0).trans rfl;have hcz14_1:w11.cell? ⟨gb192,1,none⟩=some (.int .i64 0):=(blk_cell BK192.out 1).trans rfl;have hfz14_0:=blk_frozen BK192.out 0;have hfz14_1:=blk_frozen BK192.out 1))
    refine bodyPost_ret (results_cell_row rfl _ _ gb192 25 #[.int .i64 t193,.int .i64 t194] (0,0) _ rfl (by(with_reducible repeat(first|refine blk_drewN ?_ _|refine blk_drew ?_|refine blk_alloc ?_ _));refine blk_put (cs:= #[.int .i64 t193,.int .i64 0]) ?_ 1 _ rfl;(with_reducible repeat(first|refine blk_drewN ?_ _|refine blk_drew ?_|refine blk_alloc ?_ _));refine blk_put (cs:= #[.int .i64 0,.int .i64 0]) ?_ 0 _ rfl;(with_reducible repeat(first|refine blk_drewN ?_ _|refine blk_drew ?_|refine blk_alloc ?_ _));exact BK192.out) Tryd.underlying25 rfl (by kernel_rfl)) rfl ?_
    exact⟨by first|rfl|(simp[errW_none,errW_some]<;>rfl)|(simp[*,errW_none,errW_some]<;>rfl),by repeat(first|(with_reducible first|exact HI0.out|apply IsS95.alloc|apply IsS95.drewN|apply IsS95.drew|apply IsS95.set_1|refine IsS95.far ?_ NB0_192.out _|refine IsS95.far ?_ NB0_196.out _)|exact HI0.out),by repeat(first|(with_reducible first|exact HB.out|apply below_alloc|apply pw_below_drewN|apply below_drew1|refine below_set ?_ (IsS95.ge HI0.out)|refine below_set ?_ GE192.out|refine below_set ?_ GE196.out)|exact HB.out),by repeat(first|(with_reducible first|exact HK.out|apply KeepBut.set_|apply keep_drewN|apply keep_drew|apply keep_alloc|refine keep_far ?_ GW192.out _|refine keep_far ?_ GW196.out _)|exact HK.out)⟩
  · replace c4:=Bool.eq_false_iff.mpr c4
    subst c4;have H1:(some (1,1,t195))=some (r1,r2,r3):=by rw[if_neg (show¬(false=true) by decide)]at H;exact H
    clear H;have H:=H1;clear H1;simp only[Option.some.injEq,Prod.mk.injEq]at H
    obtain⟨rfl,rfl,rfl⟩:=H;go_enter Tryd.func84,Tryd.ntmps84
    go_wp2_with (first|((with_reducible refine gate_dst (N:=2) rfl ?_);refine box_event ?hg (N:=2) ?hd (cs:= #[.int .i64 0,.int .i64 0]) (t:=25) ?hr ?_;(case hd=>rfl);(case hg=>rfl);(case hr=>first|(go_simp;done)|(go_simp;rfl));intro gb192 hg w15 hbox hb;have n0_:=Aside0.mk (IsS95.below (by repeat(first|(with_reducible first|exact HI0.out|apply IsS95.alloc|apply IsS95.drewN|apply IsS95.drew|apply IsS95.set_1)|exact HI0.out)) hb);have n1_:=Aside0.mk (KeepBut.trans (by repeat(first|(with_reducible first|exact HK.out|apply KeepBut.set_|apply keep_drewN|apply keep_drew|apply keep_alloc)|exact HK.out)) (KeepBut.of_below hb g none) (.inl rfl));have n2_:=Aside0.mk (below_step (by repeat(first|(with_reducible first|exact HB.out|apply below_alloc|apply pw_below_drewN|apply below_drew1|refine below_set ?_ (IsS95.ge HI0.out))|exact HB.out)) hb);have n3_:=Aside0.mk (hbox);have n4_:=Aside0.mk ((by rw[hg];exact(keep_size (w:=w) (g:=g) (row:=none) (by repeat(first|(with_reducible first|exact HK.out|apply KeepBut.set_|apply keep_drewN|apply keep_drew|apply keep_alloc)|exact HK.out))):w.heap.size≤gb192));have n5_:=Aside0.mk ((Nat.le_trans HW0.out (by rw[hg];exact(keep_size (w:=w) (g:=g) (row:=none) (by repeat(first|(with_reducible first|exact HK.out|apply KeepBut.set_|apply keep_drewN|apply keep_drew|apply keep_alloc)|exact HK.out))):w.heap.size≤gb192):w0.heap.size≤gb192));have n6_:=Aside0.mk ((by rw[hg];exact Nat.ne_of_lt (IsS95.lt (show IsS95 w0 _ g s0_0 s0_1 from by repeat(first|(with_reducible first|exact HI0.out|apply IsS95.alloc|apply IsS95.drewN|apply IsS95.drew|apply IsS95.set_1)|exact HI0.out))):g≠gb192));have n7_:=Aside0.mk ((by rw[hg];exact Nat.ne_of_gt (IsS95.lt (show IsS95 w0 _ g s0_0 s0_1 from by repeat(first|(with_reducible first|exact HI0.out|apply IsS95.alloc|apply IsS95.drewN|apply IsS95.drew|apply IsS95.set_1)|exact HI0.out))):gb192≠g));clear HI0;clear HK;clear HB;have HI0:=n0_;have HK:=n1_;have HB:=n2_;have BK192:=n3_;have GW192:=n4_;have GE192:=n5_;have NB0_192:=n6_;have NB192_0:=n7_;clear n0_ n1_ n2_ n3_ n4_ n5_ n6_ n7_;clear hb hbox hg)|((with_reducible refine gate_callee (f:=45) rfl ?_);refine goesL_ (some 5) rfl rfl Tryd.func45 (by kernel_rfl) rfl #[.pointer (some ⟨g,0,none⟩)] rfl (by(try simp only[List.map_toArray,List.map_cons,List.map_nil]);first|done|rfl|(simp only[List.length_drop,List.length_take];rfl)) ?_;(with_reducible refine(spec_l71Val.calls k g s0_0 s0_1 t193 t194 t195 w0 _ ?side1 ?side2 A2.out).mono ?_);(case side1=>repeat(first|(with_reducible first|exact HI0.out|apply IsS95.alloc|apply IsS95.drewN|apply IsS95.drew|apply IsS95.set_1|refine IsS95.far ?_ NB0_192.out _)|exact HI0.out));(case side2=>repeat(first|(with_reducible first|exact HB.out|apply below_alloc|apply pw_below_drewN|apply below_drew1|refine below_set ?_ (IsS95.ge HI0.out)|refine below_set ?_ GE192.out)|exact HB.out));rintro e w16 ⟨rfl,hi,hb,hk⟩;refine⟨_,rfl,?_⟩;have n0_:=Aside0.mk (KeepBut.blk hk (g':=gb192) (o:=.cells #[.int .i64 0,.int .i64 0] 25 (0,0)) (by(with_reducible repeat(first|refine blk_drewN ?_ _|refine blk_drew ?_|refine blk_alloc ?_ _));exact BK192.out) NB192_0.out (by simp));have n1_:=Aside0.mk (KeepBut.trans (by repeat(first|(with_reducible first|exact HK.out|apply KeepBut.set_|apply keep_drewN|apply keep_drew|apply keep_alloc|refine keep_far ?_ GW192.out _)|exact HK.out)) hk (.inl rfl));have n2_:=Aside0.mk (hb);have n3_:=Aside0.mk (hi);clear BK192;clear HK;clear HB;clear HI0;have BK192:=n0_;have HK:=n1_;have HB:=n2_;have HI0:=n3_;clear n0_ n1_ n2_ n3_;(try clear hb);(try clear hb2);(try clear hk);(try clear hi))|((with_reducible refine gate_dst (N:=3) rfl ?_);refine box_event ?hg (N:=3) ?hd (cs:= #[.int .i64 0,.int .i64 0]) (t:=25) ?hr ?_;(case hd=>rfl);(case hg=>rfl);(case hr=>first|(go_simp;done)|(go_simp;rfl));intro gb196 hg w17 hbox hb;have n0_:=Aside0.mk (IsS95.below (by repeat(first|(with_reducible first|exact HI0.out|apply IsS95.alloc|apply IsS95.drewN|apply IsS95.drew|apply IsS95.set_1|refine IsS95.far ?_ NB0_192.out _)|exact HI0.out)) hb);have n1_:=Aside0.mk (blk_below (g:=gb192) (o:=.cells #[.int .i64 0,.int .i64 0] 25 (0,0)) (by(with_reducible repeat(first|refine blk_drewN ?_ _|refine blk_drew ?_|refine blk_alloc ?_ _));exact BK192.out) hb);have n2_:=Aside0.mk (KeepBut.trans (by repeat(first|(with_reducible first|exact HK.out|apply KeepBut.set_|apply keep_drewN|apply keep_drew|apply keep_alloc|refine keep_far ?_ GW192.out _)|exact HK.out)) (KeepBut.of_below hb g none) (.inl rfl));have n3_:=Aside0.mk (below_step (by repeat(first|(with_reducible first|exact HB.out|apply below_alloc|apply pw_below_drewN|apply below_drew1|refine below_set ?_ (IsS95.ge HI0.out)|refine below_set ?_ GE192.out)|exact HB.out)) hb);have n4_:=Aside0.mk (hbox);have n5_:=Aside0.mk ((by rw[hg];exact(keep_size (w:=w) (g:=g) (row:=none) (by repeat(first|(with_reducible first|exact HK.out|apply KeepBut.set_|apply keep_drewN|apply keep_drew|apply keep_alloc|refine keep_far ?_ GW192.out _)|exact HK.out))):w.heap.size≤gb196));have n6_:=Aside0.mk ((Nat.le_trans HW0.out (by rw[hg];exact(keep_size (w:=w) (g:=g) (row:=none) (by repeat(first|(with_reducible first|exact HK.out|apply KeepBut.set_|apply keep_drewN|apply keep_drew|apply keep_alloc|refine keep_far ?_ GW192.out _)|exact HK.out))):w.heap.size≤gb196):w0.heap.size≤gb196));have n7_:=Aside0.mk ((by rw[hg];exact Nat.ne_of_lt (blk_lt (g:=gb192) (o:=.cells #[.int .i64 0,.int .i64 0] 25 (0,0)) (by(with_reducible repeat(first|refine blk_drewN ?_ _|refine blk_drew ?_|refine blk_alloc ?_ _));exact BK192.out)):gb192≠gb196));have n8_:=Aside0.mk ((by rw[hg];exact Nat.ne_of_gt (blk_lt (g:=gb192) (o:=.cells #[.int .i64 0,.int .i64 0] 25 (0,0)) (by(with_reducible repeat(first|refine blk_drewN ?_ _|refine blk_drew ?_|refine blk_alloc ?_ _));exact BK192.out)):gb196≠gb192));have n9_:=Aside0.mk ((by rw[hg];exact Nat.ne_of_lt (IsS95.lt (show IsS95 w0 _ g s0_0 t195 from by repeat(first|(with_reducible first|exact HI0.out|apply IsS95.alloc|apply IsS95.drewN|apply IsS95.drew|apply IsS95.set_1|refine IsS95.far ?_ NB0_192.out _)|exact HI0.out))):g≠gb196));have n10_:=Aside0.mk ((by rw[hg];exact Nat.ne_of_gt (IsS95.lt (show IsS95 w0 _ g s0_0 t195 from by repeat(first|(with_reducible first|exact HI0.out|apply IsS95.alloc|apply IsS95.drewN|apply IsS95.drew|apply IsS95.set_1|refine IsS95.far ?_ NB0_192.out _)|exact HI0.out))):gb196≠g));clear HI0;clear BK192;clear HK;clear HB;have HI0:=n0_;have BK192:=n1_;have HK:=n2_;have HB:=n3_;have BK196:=n4_;have GW196:=n5_;have GE196:=n6_;have NB192_196:=n7_;have NB196_192:=n8_;have NB0_196:=n9_;have NB196_0:=n10_;clear n0_ n1_ n2_ n3_ n4_ n5_ n6_ n7_ n8_ n9_ n10_;clear hb hbox hg;have hnb18:=NB196_192.out;have hnc18:=NB192_196.out;have hnb19:=NB196_0.out;have hnc19:=NB0_196.out;have hcz20_0:w17.cell? ⟨gb196,0,none⟩=some (.int .i64 0):=(blk_cell BK196.out 0).trans rfl;have hcz20_1:w17.cell? ⟨gb196,1,none⟩=some (.int .i64 0):=(blk_cell BK196.out 1).trans rfl;have hfz20_0:=blk_frozen BK196.out 0;have hfz20_1:=blk_frozen BK196.out 1)|((with_reducible refine gate_callee (f:=42) rfl ?_);refine goesL_ (some 7) rfl rfl Tryd.func42 (by kernel_rfl) rfl #[.agg #[.int .i64 t193,.int .i64 t194]] rfl (by(try simp only[List.map_toArray,List.map_cons,List.map_nil]);first|done|rfl|(simp only[List.length_drop,List.length_take];rfl)) ?_;(with_reducible refine(spec_ValOk.calls t193 t194 false _ A3.out).mono ?_);rintro e w21 ⟨rfl,hb⟩;refine⟨_,rfl,?_⟩;have n0_:=Aside0.mk (IsS95.below (show IsS95 w0 ((w17.setCell ⟨gb196,0,none⟩ (.int .i64 t193)).setCell ⟨gb196,1,none⟩ (.int .i64 t194)) g s0_0 t195 from by repeat(first|(with_reducible first|exact HI0.out|apply IsS95.alloc|apply IsS95.drewN|apply IsS95.drew|apply IsS95.set_1|refine IsS95.far ?_ NB0_192.out _|refine IsS95.far ?_ NB0_196.out _)|exact HI0.out)) hb);have n1_:=Aside0.mk (blk_below (g:=gb192) (o:=.cells #[.int .i64 0,.int .i64 0] 25 (0,0)) (by(with_reducible repeat(first|refine blk_drewN ?_ _|refine blk_drew ?_|refine blk_alloc ?_ _));refine blk_far ?_ NB192_196.out _;(with_reducible repeat(first|refine blk_drewN ?_ _|refine blk_drew ?_|refine blk_alloc ?_ _));refine blk_far ?_ NB192_196.out _;(with_reducible repeat(first|refine blk_drewN ?_ _|refine blk_drew ?_|refine blk_alloc ?_ _));exact BK192.out) hb);have n2_:=Aside0.mk (blk_below (g:=gb196) (o:=.cells #[.int .i64 t193,.int .i64 t194] 25 (0,0)) (by(with_reducible repeat(first|refine blk_drewN ?_ _|refine blk_drew ?_|refine blk_alloc ?_ _));refine blk_put (cs:= #[.int .i64 t193,.int .i64 0]) ?_ 1 _ rfl;(with_reducible repeat(first|refine blk_drewN ?_ _|refine blk_drew ?_|refine blk_alloc ?_ _));refine blk_put (cs:= #[.int .i64 0,.int .i64 0]) ?_ 0 _ rfl;(with_reducible repeat(first|refine blk_drewN ?_ _|refine blk_drew ?_|refine blk_alloc ?_ _));exact BK196.out) hb);have n3_:=Aside0.mk (KeepBut.trans (by repeat(first|(with_reducible first|exact HK.out|apply KeepBut.set_|apply keep_drewN|apply keep_drew|apply keep_alloc|refine keep_far ?_ GW192.out _|refine keep_far ?_ GW196.out _)|exact HK.out)) (KeepBut.of_below hb g none) (.inl rfl));have n4_:=Aside0.mk (below_step (by repeat(first|(with_reducible first|exact HB.out|apply below_alloc|apply pw_below_drewN|apply below_drew1|refine below_set ?_ (IsS95.ge HI0.out)|refine below_set ?_ GE192.out|refine below_set ?_ GE196.out)|exact HB.out)) hb);clear HI0;clear BK192;clear BK196;clear HK;clear HB;have HI0:=n0_;have BK192:=n1_;have BK196:=n2_;have HK:=n3_;have HB:=n4_;clear n0_ n1_ n2_ n3_ n4_;(try clear hb);(try clear hb2);(try clear hk);(try clear hi);have hnb22:=NB192_0.out;have hnc22:=NB0_192.out;have hcz23_0:w21.cell? ⟨gb192,0,none⟩=some (.int .i64 0):=(blk_cell BK192.out 0).trans rfl;have hcz23_1:w21.cell? ⟨gb192,1,none⟩=some (.int .i64 0):=(blk_cell BK192.out 1).trans rfl;have hfz23_0:=blk_frozen BK192.out 0;have hfz23_1:=blk_frozen BK192.out 1))
    refine bodyPost_ret (results_cell_row rfl _ _ gb192 25 #[.int .i64 1,.int .i64 1] (0,0) _ rfl (by(with_reducible repeat(first|refine blk_drewN ?_ _|refine blk_drew ?_|refine blk_alloc ?_ _));refine blk_put (cs:= #[.int .i64 1,.int .i64 0]) ?_ 1 _ rfl;(with_reducible repeat(first|refine blk_drewN ?_ _|refine blk_drew ?_|refine blk_alloc ?_ _));refine blk_put (cs:= #[.int .i64 0,.int .i64 0]) ?_ 0 _ rfl;(with_reducible repeat(first|refine blk_drewN ?_ _|refine blk_drew ?_|refine blk_alloc ?_ _));exact BK192.out) Tryd.underlying25 rfl (by kernel_rfl)) rfl ?_
    exact⟨by first|rfl|(simp[errW_none,errW_some]<;>rfl)|(simp[*,errW_none,errW_some]<;>rfl),by repeat(first|(with_reducible first|exact HI0.out|apply IsS95.alloc|apply IsS95.drewN|apply IsS95.drew|apply IsS95.set_1|refine IsS95.far ?_ NB0_192.out _|refine IsS95.far ?_ NB0_196.out _)|exact HI0.out),by repeat(first|(with_reducible first|exact HB.out|apply below_alloc|apply pw_below_drewN|apply below_drew1|refine below_set ?_ (IsS95.ge HI0.out)|refine below_set ?_ GE192.out|refine below_set ?_ GE196.out)|exact HB.out),by repeat(first|(with_reducible first|exact HK.out|apply KeepBut.set_|apply keep_drewN|apply keep_drew|apply keep_alloc|refine keep_far ?_ GW192.out _|refine keep_far ?_ GW196.out _)|exact HK.out)⟩
end Go.Proofs.YtmklpbmlgjkbiaaDoor.PS
end
