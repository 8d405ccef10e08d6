/- What the rows of CRB rest on, part 2. -/
import Derived.Test.YtmklpbmlgjkbiaaGreatDoorProg
import Derived.Deep.RegionWith
import Derived.Lib.Bytealg
import Derived.Shelf.Strings.Search3
import Derived.WalkSpells
import Derived.Test.YtmklpbmlgjkbiaaGreatDoorQCRB0
set_option linter.unusedVariables false
set_option linter.unusedSimpArgs false
set_option maxHeartbeats 8000000
set_option maxRecDepth 100000
section
namespace Go.Proofs.YtmklpbmlgjkbiaaGreatDoor.PS
open Go.RowKit Go.Proofs.YtmklpbmlgjkbiaaGreatDoorW.PrintWords Go.Proofs.YtmklpbmlgjkbiaaGreatDoorW.PrintLast Go.Proofs.YtmklpbmlgjkbiaaGreatDoorW.PrintMore
attribute [local go_sem] max2_int min2_int max_two min_two max_three min_three max_four min_four   -- for this text's walks alone
def errW:Option Int→Value
  |none=>.nilIface
  |some c=>.iface 0 (.int .i64 c)
theorem errW_none:errW none= .nilIface:=rfl
theorem errW_some (c:Int):errW (some c)= .iface 0 (.int .i64 c):=rfl
theorem info9:(Tryz.prog.info? 9).map (fun i=>(i.zero,i.size,i.bytes))=some (some (.string ⟨#[]⟩),1,16):=by kernel_rfl
structure S37 where
  f0:Int
  f1:Int
def z37:S37:=⟨(0:Int),(0:Int)⟩
def k37:Kd S37:=Kd.iso (Kd.pair (Kd.int .i64) (Kd.int .i64)) (fun x:S37=>(x.f0,x.f1))
theorem k37_open {w:World} {x:S37} {cs:List Value} (h:k37.K w x cs):cs=[.int .i64 x.f0,.int .i64 x.f1]:=by
  obtain⟨_,_,rfl,rfl,rfl⟩:=h;exact rfl
theorem k37_mkM (w:World) (base:Nat) (ok:Nat→Prop) (x:S37):k37.M w base ok x [.int .i64 x.f0,.int .i64 x.f1]:=⟨[.int .i64 x.f0],[.int .i64 x.f1],rfl,rfl,rfl⟩
structure S39 where
  f0:Int
  f1:Int
  f2:Int
  f3:Int
  f4:S37
def z39:S39:=⟨(0:Int),(0:Int),(0:Int),(0:Int),z37⟩
def k39:Kd S39:=Kd.iso (Kd.pair (Kd.int .i64) (Kd.pair (Kd.int .i64) (Kd.pair (Kd.int .i64) (Kd.pair (Kd.int .i64) k37)))) (fun x:S39=>(x.f0,x.f1,x.f2,x.f3,x.f4))
theorem k39_open {w:World} {x:S39} {cs:List Value} (h:k39.K w x cs):cs=[.int .i64 x.f0,.int .i64 x.f1,.int .i64 x.f2,.int .i64 x.f3,.int .i64 x.f4.f0,.int .i64 x.f4.f1]:=by
  obtain⟨_,_,rfl,rfl,⟨_,_,rfl,rfl,⟨_,_,rfl,rfl,⟨_,_,rfl,rfl,s4⟩⟩⟩⟩:=h;obtain rfl:=k37_open s4;exact rfl
theorem k39_mkM (w:World) (base:Nat) (ok:Nat→Prop) (x:S39):k39.M w base ok x [.int .i64 x.f0,.int .i64 x.f1,.int .i64 x.f2,.int .i64 x.f3,.int .i64 x.f4.f0,.int .i64 x.f4.f1]:=⟨[.int .i64 x.f0],[.int .i64 x.f1,.int .i64 x.f2,.int .i64 x.f3,.int .i64 x.f4.f0,.int .i64 x.f4.f1],rfl,rfl,⟨[.int .i64 x.f1],[.int .i64 x.f2,.int .i64 x.f3,.int .i64 x.f4.f0,.int .i64 x.f4.f1],rfl,rfl,⟨[.int .i64 x.f2],[.int .i64 x.f3,.int .i64 x.f4.f0,.int .i64 x.f4.f1],rfl,rfl,⟨[.int .i64 x.f3],[.int .i64 x.f4.f0,.int .i64 x.f4.f1],rfl,rfl,(k37_mkM w base ok x.f4)⟩⟩⟩⟩
def rd_T39 (xs:List S39) (i:Int):S39:=xs.getD i.toNat z39
theorem at_T39 {w:World} {A:Option Addr} {n:Nat} {xs:List S39} (h:Kd.C k39 w A n xs) (i:Int) (h0:0≤i) (h1:i<n): ∃ad,A=some ad∧w.cell? (ad.add (i.toNat*6))=some (.int .i64 (rd_T39 xs i).f0)∧w.cell? ⟨(ad.add (i.toNat*6)).block,(ad.add (i.toNat*6)).off+1,none⟩=some (.int .i64 (rd_T39 xs i).f1)∧w.cell? ⟨(ad.add (i.toNat*6)).block,(ad.add (i.toNat*6)).off+2,none⟩=some (.int .i64 (rd_T39 xs i).f2)∧w.cell? ⟨(ad.add (i.toNat*6)).block,(ad.add (i.toNat*6)).off+3,none⟩=some (.int .i64 (rd_T39 xs i).f3)∧w.cell? ⟨(ad.add (i.toNat*6)).block,(ad.add (i.toNat*6)).off+4,none⟩=some (.int .i64 (rd_T39 xs i).f4.f0)∧w.cell? ⟨(ad.add (i.toNat*6)).block,(ad.add (i.toNat*6)).off+5,none⟩=some (.int .i64 (rd_T39 xs i).f4.f1):=by
  obtain⟨ad,c,e,_,hK,hc0⟩:=Kd.C_get h z39 i h0 h1;have hc: ∀j u,c[j]?=some u→w.cell? (ad.add (i.toNat*6+j))=some u:=hc0;obtain rfl:=k39_open hK;exact⟨ad,e,hc 0 _ rfl,by rw[←add_field _ _ 1 (by omega)];exact hc 1 _ rfl,by rw[←add_field _ _ 2 (by omega)];exact hc 2 _ rfl,by rw[←add_field _ _ 3 (by omega)];exact hc 3 _ rfl,by rw[←add_field _ _ 4 (by omega)];exact hc 4 _ rfl,by rw[←add_field _ _ 5 (by omega)];exact hc 5 _ rfl⟩
structure S77 where
  f0:ByteArray
  f1:ByteArray
  f2:ByteArray
  f3:Bool
def z77:S77:=⟨(⟨#[]⟩:ByteArray),(⟨#[]⟩:ByteArray),(⟨#[]⟩:ByteArray),false⟩
def k77:Kd S77:=Kd.iso (Kd.pair Kd.string (Kd.pair Kd.string (Kd.pair Kd.string Kd.bool))) (fun x:S77=>(x.f0,x.f1,x.f2,x.f3))
theorem k77_open {w:World} {x:S77} {cs:List Value} (h:k77.K w x cs):cs=[.string x.f0,.string x.f1,.string x.f2,.bool x.f3]:=by
  obtain⟨_,_,rfl,rfl,⟨_,_,rfl,rfl,⟨_,_,rfl,rfl,rfl⟩⟩⟩:=h;exact rfl
theorem k77_mk (w:World) (x:S77):k77.K w x [.string x.f0,.string x.f1,.string x.f2,.bool x.f3]:=⟨[.string x.f0],[.string x.f1,.string x.f2,.bool x.f3],rfl,rfl,⟨[.string x.f1],[.string x.f2,.bool x.f3],rfl,rfl,⟨[.string x.f2],[.bool x.f3],rfl,rfl,rfl⟩⟩⟩
def rd_T77 (xs:List S77) (i:Int):S77:=xs.getD i.toNat z77
theorem at_T77 {w:World} {A:Option Addr} {n:Nat} {xs:List S77} (h:Kd.C k77 w A n xs) (i:Int) (h0:0≤i) (h1:i<n): ∃ad,A=some ad∧w.cell? (ad.add (i.toNat*4))=some (.string (rd_T77 xs i).f0)∧w.cell? ⟨(ad.add (i.toNat*4)).block,(ad.add (i.toNat*4)).off+1,none⟩=some (.string (rd_T77 xs i).f1)∧w.cell? ⟨(ad.add (i.toNat*4)).block,(ad.add (i.toNat*4)).off+2,none⟩=some (.string (rd_T77 xs i).f2)∧w.cell? ⟨(ad.add (i.toNat*4)).block,(ad.add (i.toNat*4)).off+3,none⟩=some (.bool (rd_T77 xs i).f3):=by
  obtain⟨ad,c,e,_,hK,hc0⟩:=Kd.C_get h z77 i h0 h1;have hc: ∀j u,c[j]?=some u→w.cell? (ad.add (i.toNat*4+j))=some u:=hc0;obtain rfl:=k77_open hK;exact⟨ad,e,hc 0 _ rfl,by rw[←add_field _ _ 1 (by omega)];exact hc 1 _ rfl,by rw[←add_field _ _ 2 (by omega)];exact hc 2 _ rfl,by rw[←add_field _ _ 3 (by omega)];exact hc 3 _ rfl⟩
structure S76 where
  f0:ByteArray
  f1:ByteArray
  f2:ByteArray
  f3:Bool
def z76:S76:=⟨(⟨#[]⟩:ByteArray),(⟨#[]⟩:ByteArray),(⟨#[]⟩:ByteArray),false⟩
structure S85 where
  f0:(List Int)
  f1:Int
def z85:S85:=⟨([]:List Int),(0:Int)⟩
structure S145 where
  f0:Int
  f1:Int
def z145:S145:=⟨(0:Int),(0:Int)⟩
structure S146 where
  f0:Int
  f1:Int
def z146:S146:=⟨(0:Int),(0:Int)⟩
end Go.Proofs.YtmklpbmlgjkbiaaGreatDoor.PS
end
section
namespace Go.Proofs.YtmklpbmlgjkbiaaGreatDoor.PC
open Go.RowKit Go.Proofs.YtmklpbmlgjkbiaaGreatDoorW.PrintWords Go.Proofs.YtmklpbmlgjkbiaaGreatDoorW.PrintLast Go.Proofs.YtmklpbmlgjkbiaaGreatDoorW.PrintMore Go.Proofs.YtmklpbmlgjkbiaaGreatDoor.PS
attribute [local go_sem] max2_int min2_int max_two min_two max_three min_three max_four min_four   -- for this text's walks alone
def errW:Option Int→Value
  |none=>.nilIface
  |some c=>.iface 0 (.int .i64 c)
theorem errW_none:errW none= .nilIface:=rfl
theorem errW_some (c:Int):errW (some c)= .iface 0 (.int .i64 c):=rfl
theorem info39:(Tryz.prog.info? 39).map (fun i=>(i.zero,i.size,i.bytes))=some (some (.agg #[(.int .i64 0),(.int .i64 0),(.int .i64 0),(.int .i64 0),(.int .i64 0),(.int .i64 0)]),6,48):=by kernel_rfl
end Go.Proofs.YtmklpbmlgjkbiaaGreatDoor.PC
end
section
namespace Go.Proofs.YtmklpbmlgjkbiaaGreatDoor.PS
open Go.RowKit Go.Proofs.YtmklpbmlgjkbiaaGreatDoorW.PrintWords Go.Proofs.YtmklpbmlgjkbiaaGreatDoorW.PrintLast
def okP (k n:Int):Prop:=(k=0∧n=0)∨(k=1∧ -99≤n∧n≤99)∨(k=2∧0≤n∧n≤9)∨(k=3∧1≤n∧n≤6)
instance (k n:Int):Decidable (okP k n):=by unfold okP;infer_instance
def okB (k n:Int):Bool:=decide (okP k n)
theorem okB_true {k n:Int} :okB k n=true ↔ okP k n:=by simp[okB]
theorem okB_false {k n:Int} :okB k n=false ↔ ¬okP k n:=by simp[okB]
def hasR (k:Int):Bool:=decide (1≤k∧k≤14∧k≠9∧k≠13)
def hasS (k:Int):Bool:=decide (k=2∨k=3∨k=6∨k=7∨k=8)
def hasT (k:Int):Bool:=decide (k=5∨k=8∨k=9∨k=10)
def hasV (k:Int):Bool:=decide (k=1∨k=8∨k=10∨k=13)
def formL (k:Int):List Bool:=if 1≤k∧k≤14 then [hasR k,hasS k,hasT k,hasV k]else []
def valP (k vk vn:Int):Prop:=okP vk vn∧(k=8→vk=1∧1≤vn)∧(k=13→vk=1∧0≤vn∧vn≤1)
instance (k vk vn:Int):Decidable (valP k vk vn):=by unfold valP;infer_instance
def opP (k r s t vk vn:Int):Prop:=
  (1≤k∧k≤14)∧valP k vk vn∧(r=0∨(hasR k=true∧0≤r∧r≤3))∧(s=0∨(hasS k=true∧0≤s∧s≤3))∧
    (t=0∨(hasT k=true∧0≤t∧t≤15))∧(hasV k=true∨(vk=0∧vn=0))
instance (k r s t vk vn:Int):Decidable (opP k r s t vk vn):=by unfold opP;infer_instance
def opB (k r s t vk vn:Int):Bool:=decide (opP k r s t vk vn)
theorem opB_true {k r s t vk vn:Int} :opB k r s t vk vn=true ↔ opP k r s t vk vn:=by simp[opB]
theorem opB_false {k r s t vk vn:Int} :opB k r s t vk vn=false ↔ ¬opP k r s t vk vn:=by simp[opB]
def opV.f (k r s t vk vn:Int):Option Bool:=some (opB k r s t vk vn)
def mannersL:List S77:=
  [⟨⟨#[]⟩,⟨#[]⟩,⟨#[]⟩,false⟩,
   ⟨⟨#[115,101,116]⟩,⟨#[82,86]⟩,⟨#[]⟩,true⟩,
   ⟨⟨#[109,111,118,101]⟩,⟨#[82,83]⟩,⟨#[83]⟩,true⟩,
   ⟨⟨#[97,100,100]⟩,⟨#[82,83]⟩,⟨#[82,83]⟩,false⟩,
   ⟨⟨#[115,101,108,102]⟩,⟨#[82]⟩,⟨#[]⟩,true⟩,
   ⟨⟨#[98,101,103,105,110]⟩,⟨#[82,84]⟩,⟨#[]⟩,true⟩,
   ⟨⟨#[115,101,110,100]⟩,⟨#[82,83]⟩,⟨#[82,83]⟩,false⟩,
   ⟨⟨#[116,97,107,101]⟩,⟨#[82,83]⟩,⟨#[]⟩,true⟩,
   ⟨⟨#[97,102,116,101,114]⟩,⟨#[82,83,84,86]⟩,⟨#[]⟩,true⟩,
   ⟨⟨#[103,111]⟩,⟨#[84]⟩,⟨#[]⟩,false⟩,
   ⟨⟨#[105,102]⟩,⟨#[82,84,86]⟩,⟨#[82]⟩,false⟩,
   ⟨⟨#[108,105,110,107]⟩,⟨#[82]⟩,⟨#[82]⟩,false⟩,
   ⟨⟨#[119,97,116,99,104]⟩,⟨#[82]⟩,⟨#[82]⟩,false⟩,
   ⟨⟨#[116,114,97,112]⟩,⟨#[86]⟩,⟨#[]⟩,false⟩,
   ⟨⟨#[101,110,100]⟩,⟨#[82]⟩,⟨#[82]⟩,false⟩]
def howR (k:Int):S77:=if 1≤k∧k≤14 then mannersL.getD k.toNat z77 else z77
def howV.f (k _r _s _t _vk _vn:Int):Option (ByteArray×ByteArray×ByteArray×Bool):=some ((howR k).f0,(howR k).f1,(howR k).f2,(howR k).f3)
theorem kinds {P:Int→Prop} (h: ∀k:Int,¬(1≤k∧k≤14)→P k) (h1:P 1) (h2:P 2) (h3:P 3) (h4:P 4) (h5:P 5) (h6:P 6) (h7:P 7) (h8:P 8) (h9:P 9)
    (h10:P 10) (h11:P 11) (h12:P 12) (h13:P 13) (h14:P 14) (k:Int):P k:=by
  by_cases hk:1≤k∧k≤14
  · have:k=1∨k=2∨k=3∨k=4∨k=5∨k=6∨k=7∨k=8∨k=9∨k=10∨k=11∨k=12∨k=13∨k=14:=by omega
    rcases this with rfl|rfl|rfl|rfl|rfl|rfl|rfl|rfl|rfl|rfl|rfl|rfl|rfl|rfl<;>assumption
  · exact h k hk
theorem in_any (a b c:Int) (w:World):Calls Tryz.prog 35 #[.int .i64 a,.int .i64 b,.int .i64 c] w fun e w'=>e= .returned (.bool (decide (b≤a∧a≤c)))∧w=w':=by
  by_cases h1:b≤a<;>by_cases h2:a≤c<;>(go_enter Tryz.func35,Tryz.ntmps35;go_wp2;go_ret;exact⟨by simp[h1,h2],rfl⟩)
def cellsOf:List S77→List Value
  | []=> []
  |x::xs=>.string x.f0:: .string x.f1:: .string x.f2:: .bool x.f3::cellsOf xs
def IsManners (w w':World) (g:Nat):Prop:=Below w.heap.size w w'∧w.heap.size≤g∧ ∀i,w'.cell? ⟨g,i,none⟩=(cellsOf mannersL)[i]?
theorem manners_any (w:World):Calls Tryz.prog 48 #[] w fun e w'=> ∃g,e= .returned (.slice (some ⟨g,0,none⟩) 15 15)∧IsManners w w' g:=by
  go_enter Tryz.func48,Tryz.ntmps48
  go_wp2
  go_ret
  refine⟨_,rfl,(Below.refl _ _).alloc (Nat.le_refl _) _,Nat.le_refl _,fun i=> ?_⟩
  rw[World.cell?_alloc_new];show(cellsOf mannersL).toArray[i]?=_
  exact List.getElem?_toArray
theorem bcell {W w1:World} (hb:Below W.heap.size W w1):(∀b o,b<W.heap.size→w1.cell? ⟨b,o,none⟩=W.cell? ⟨b,o,none⟩)∧(∀b o,b<W.heap.size→w1.frozen? ⟨b,o,none⟩=W.frozen? ⟨b,o,none⟩):=
  ⟨fun b o h=>hb.cell (p:=⟨b,o,none⟩) h,fun b o h=>hb.frozen (p:=⟨b,o,none⟩) h⟩
theorem blk2 (w:World) (A B:Obj):((w.alloc A).alloc B).drew.heap[w.heap.size+1]?=some B:=by
  have:=blk_new (w.alloc A) B;rwa [World.size_alloc]at this
theorem end4 {w W w':World} {g t:Nat} {z0 z1 z2 z3:Value} (hW:Below w.heap.size w W) (hge:w.heap.size≤g) (h0:W.heap[g]?=some (.cells #[z0,z1,z2,z3] t (0,0))) (hb:Below W.heap.size W w') (a b c d:Value):
    Below w.heap.size w ((((w'.setCell ⟨g,0,none⟩ a).setCell ⟨g,1,none⟩ b).setCell ⟨g,2,none⟩ c).setCell ⟨g,3,none⟩ d)∧
    ((((w'.setCell ⟨g,0,none⟩ a).setCell ⟨g,1,none⟩ b).setCell ⟨g,2,none⟩ c).setCell ⟨g,3,none⟩ d).heap[g]?=some (.cells #[a,b,c,d] t (0,0)):=
  ⟨below_set (below_set (below_set (below_set (below_step hW hb) hge) hge) hge) hge,blk_set (blk_set (blk_set (blk_set (blk_below h0 hb) 0 a) 1 b) 2 c) 3 d⟩
theorem how_kind (k:Int) (r s t vk vn:Int) (x:S77) (w:World) (hk:1≤k∧k≤14) (hx:x=mannersL.getD k.toNat z77):
    Calls Tryz.prog 50 #[.agg #[.int .i64 k,.int .i64 r,.int .i64 s,.int .i64 t,.int .i64 vk,.int .i64 vn]] w fun e w'=>e= .returned (.agg #[.string x.f0,.string x.f1,.string x.f2,.bool x.f3])∧Below w.heap.size w w':=by
  have hm: ∀ (W:World) (g:Nat),(∀i,W.cell? ⟨g,i,none⟩=(cellsOf mannersL)[i]?)→W.cell? ⟨g,k.toNat*4,none⟩=some (.string x.f0)∧W.cell? ⟨g,k.toNat*4+1,none⟩=some (.string x.f1)∧W.cell? ⟨g,k.toNat*4+2,none⟩=some (.string x.f2)∧W.cell? ⟨g,k.toNat*4+3,none⟩=some (.bool x.f3):=by
    intro W g h;have:k=1∨k=2∨k=3∨k=4∨k=5∨k=6∨k=7∨k=8∨k=9∨k=10∨k=11∨k=12∨k=13∨k=14:=by omega
    rcases this with rfl|rfl|rfl|rfl|rfl|rfl|rfl|rfl|rfl|rfl|rfl|rfl|rfl|rfl<;>(subst hx;exact⟨h _,h _,h _,h _⟩)
  clear hx;obtain⟨hk1,hk2⟩:=hk;go_enter Tryz.func50,Tryz.ntmps50
  go_wp2_with (go_at_call 35;refine(in_any _ _ _ _).mono ?_;rintro e w' ⟨rfl,rfl⟩)
  go_region_with (go_at_call 48;refine(manners_any _).mono ?_;rintro e w' ⟨g,rfl,hb,hg,hc⟩;obtain⟨m0,m1,m2,m3⟩:=hm _ _ hc;obtain⟨b1,b2⟩:=bcell hb;clear hc;have hgs:=hb.size;have sz:=b1 w.heap.size)
  all_goals go_wp2
  all_goals
    obtain⟨E0,E1⟩:=end4 (w:=w) (g:=w.heap.size+1) (t:=77) (below_drew1 (below_alloc (below_alloc (Below.refl _ _) _) _)) (Nat.le_succ _) (blk2 _ _ _) hb (.string x.f0) (.string x.f1) (.string x.f2) (.bool x.f3);have q0:=blk_cell E1 0;have q1:=blk_cell E1 1;have q2:=blk_cell E1 2;have q3:=blk_cell E1 3;exact bodyPost_ret (v:=.agg #[.string x.f0,.string x.f1,.string x.f2,.bool x.f3]) (by simp[results,Tryz.results50,go_sem,q0,q1,q2,q3]) rfl ⟨rfl,E0⟩
theorem how_none (k:Int) (r s t vk vn:Int) (w:World) (hk:decide (1≤k∧k≤14)=false):
    Calls Tryz.prog 50 #[.agg #[.int .i64 k,.int .i64 r,.int .i64 s,.int .i64 t,.int .i64 vk,.int .i64 vn]] w fun e w'=>e= .returned (.agg #[.string ⟨#[]⟩,.string ⟨#[]⟩,.string ⟨#[]⟩,.bool false])∧Below w.heap.size w w':=by
  go_enter Tryz.func50,Tryz.ntmps50
  go_wp2_with (go_at_call 35;refine(in_any _ _ _ _).mono ?_;rintro e w' ⟨rfl,rfl⟩;rw[hk])
  exact bodyPost_ret (v:=.agg #[.string ⟨#[]⟩,.string ⟨#[]⟩,.string ⟨#[]⟩,.bool false]) (by simp[results,Tryz.results50,go_sem]) rfl ⟨rfl,by repeat(first|exact Below.refl _ _|apply below_alloc|apply below_drew1|refine below_set ?_ (Nat.le_succ _))⟩
theorem impl_Op_how.calls (k r s t vk vn:Int) (r1 r2 r3:ByteArray) (r4:Bool) (w:World) (h:howV.f k r s t vk vn=some (r1,r2,r3,r4)):
    Calls Tryz.prog 50 #[.agg #[.int .i64 k,.int .i64 r,.int .i64 s,.int .i64 t,.int .i64 vk,.int .i64 vn]] w fun e w'=>e= .returned (.agg #[.string r1,.string r2,.string r3,.bool r4])∧Below w.heap.size w w':=by
  unfold howV.f at h;have h:=Option.some.inj h;simp only[Prod.mk.injEq]at h
  obtain⟨rfl,rfl,rfl,rfl⟩:=h;by_cases hk:1≤k∧k≤14
  · have e:howR k=mannersL.getD k.toNat z77:=if_pos hk
    rw[e];exact how_kind k r s t vk vn _ w hk rfl
  · have e:howR k=z77:=if_neg hk
    rw[e];exact how_none k r s t vk vn w (decide_eq_false hk)
end Go.Proofs.YtmklpbmlgjkbiaaGreatDoor.PS
end
section
namespace Go.Proofs.YtmklpbmlgjkbiaaGreatDoor.PS
open Go.RowKit
theorem indexByte_any (s:ByteArray) (c:Int) (w:World):
    Calls Tryz.prog 70 #[.string s,.int .u8 c] w fun e w'=>e= .returned (.int .i64 (Lib.indexByte s.data.toList c.toNat.toUInt8))∧w=w':=by
  go_enter Tryz.func70,Tryz.ntmps70
  go_wp2
  rw[run_callFunc_extern Tryz.func83 (by kernel_rfl) (by kernel_rfl) (by kernel_rfl) (e:=Extern.BytealgIndexByte.indexByte) (by kernel_rfl),Lib.run_indexByteString]
  simp only[Result.andThen]
  rw[Oper.upon_value];go_wp2
  go_ret
  exact⟨rfl,rfl⟩
theorem index_one (s:ByteArray) (c:UInt8) (w:World):
    Calls Tryz.prog 96 #[.string s,.string ⟨#[c]⟩] w fun e w'=>e= .returned (.int .i64 (Lib.indexByte s.data.toList c))∧w=w':=by
  go_enter Tryz.func96,Tryz.ntmps96
  go_wp2_with (go_at_call 70;refine(indexByte_any _ _ _).mono ?_;rintro e w' ⟨rfl,rfl⟩)
  · have h:([c]==s.toList)=true:=by assumption
    go_ret
    refine⟨?_,rfl⟩
    have e:s.data.toList=[c]:=by rw[←Lib.toList_data];exact(beq_iff_eq.1 h).symm
    rw[e];simp[Lib.indexByte]
  · go_ret
    exact⟨rfl,rfl⟩
theorem sindex_one (s:ByteArray) (c:UInt8) (w:World):
    Calls Tryz.prog 82 #[.string s,.string ⟨#[c]⟩] w fun e w'=>e= .returned (.int .i64 (Lib.indexByte s.data.toList c))∧w=w':=by
  go_enter Tryz.func82,Tryz.ntmps82
  go_wp2_with (go_at_call 96;refine(index_one _ _ _).mono ?_;rintro e w' ⟨rfl,rfl⟩)
  go_ret
  exact⟨rfl,rfl⟩
theorem contains_one (s:ByteArray) (c:UInt8) (w:World):
    Calls Tryz.prog 65 #[.string s,.string ⟨#[c]⟩] w fun e w'=>e= .returned (.bool (decide (0≤Lib.indexByte s.data.toList c)))∧w=w':=by
  go_enter Tryz.func65,Tryz.ntmps65
  go_wp2_with (go_at_call 82;refine(sindex_one _ _ _).mono ?_;rintro e w' ⟨rfl,rfl⟩)
  go_ret
  exact⟨rfl,rfl⟩
end Go.Proofs.YtmklpbmlgjkbiaaGreatDoor.PS
end
section
namespace Go.Proofs.YtmklpbmlgjkbiaaGreatDoor.PS
open Go.RowKit Go.Proofs.YtmklpbmlgjkbiaaGreatDoorW.PrintWords Go.Proofs.YtmklpbmlgjkbiaaGreatDoorW.PrintLast
def hasC (k:Int) (c:UInt8):Bool:=decide (0≤Lib.indexByte (howR k).f1.data.toList c)
theorem hasC_R (k:Int):hasC k 82=hasR k:=by
  refine kinds (P:=fun k=>hasC k 82=hasR k) (fun k hk=> ?_) (by decide) (by decide) (by decide) (by decide) (by decide) (by decide) (by decide) (by decide) (by decide) (by decide) (by decide) (by decide) (by decide) (by decide) k
  unfold hasC howR;rw[if_neg hk];have:hasR k=false:=by unfold hasR;exact decide_eq_false (by omega)
  rw[this];decide
theorem hasC_S (k:Int):hasC k 83=hasS k:=by
  refine kinds (P:=fun k=>hasC k 83=hasS k) (fun k hk=> ?_) (by decide) (by decide) (by decide) (by decide) (by decide) (by decide) (by decide) (by decide) (by decide) (by decide) (by decide) (by decide) (by decide) (by decide) k
  unfold hasC howR;rw[if_neg hk];have:hasS k=false:=by unfold hasS;exact decide_eq_false (by omega)
  rw[this];decide
theorem hasC_T (k:Int):hasC k 84=hasT k:=by
  refine kinds (P:=fun k=>hasC k 84=hasT k) (fun k hk=> ?_) (by decide) (by decide) (by decide) (by decide) (by decide) (by decide) (by decide) (by decide) (by decide) (by decide) (by decide) (by decide) (by decide) (by decide) k
  unfold hasC howR;rw[if_neg hk];have:hasT k=false:=by unfold hasT;exact decide_eq_false (by omega)
  rw[this];decide
theorem hasC_V (k:Int):hasC k 86=hasV k:=by
  refine kinds (P:=fun k=>hasC k 86=hasV k) (fun k hk=> ?_) (by decide) (by decide) (by decide) (by decide) (by decide) (by decide) (by decide) (by decide) (by decide) (by decide) (by decide) (by decide) (by decide) (by decide) k
  unfold hasC howR;rw[if_neg hk];have:hasV k=false:=by unfold hasV;exact decide_eq_false (by omega)
  rw[this];decide
theorem has_any (k r s t vk vn:Int) (c:UInt8) (w:World):
    Calls Tryz.prog 34 #[.agg #[.int .i64 k,.int .i64 r,.int .i64 s,.int .i64 t,.int .i64 vk,.int .i64 vn],.string ⟨#[c]⟩] w fun e w'=>e= .returned (.bool (hasC k c))∧Below w.heap.size w w':=by
  have hw:=fun W:World=>impl_Op_how.calls k r s t vk vn (howR k).f0 (howR k).f1 (howR k).f2 (howR k).f3 W rfl
  obtain⟨x,hx⟩: ∃x,x=howR k:=⟨_,rfl⟩;unfold hasC;rw[←hx]at hw⊢
  clear hx;have hu66:=Tryz.underlying77;have hfd: ∀ (a b c d:Value) (W:World),Sem.run Tryz.prog (Instr.field 77 (.agg #[a,b,c,d]) 1) W= .ok b W:=fun _ _ _ _ _=>by kernel_rfl
  go_enter Tryz.func34,Tryz.ntmps34
  go_wp2_with (first|(go_at_call 50;refine(hw _).mono ?_;rintro e w' ⟨rfl,hb⟩)|(go_at_call 65;refine(contains_one _ _ _).mono ?_;rintro e w' ⟨rfl,rfl⟩))
  go_ret
  exact⟨rfl,below_step (below_alloc (Below.refl _ _) _) hb⟩
theorem eqA37 (d:Nat) (w:World) (x0 y0:Int) (x1 y1:Int):
    (Op.equalIn (d+2) 37 (.agg #[.int .i64 x0,.int .i64 x1]) (.agg #[.int .i64 y0,.int .i64 y1])).run Tryz.prog w= .ok (x0==y0&&(x1==y1)) w:=by
  refine eqA_of Tryz.underlying37 (by kernel_rfl) ?_
  refine eqf_cons (by rfl) (by go_simp;rfl) (by go_simp;rfl) (by go_simp) ?_
  exact eqf_last (by rfl) (by go_simp;rfl) (by go_simp;rfl) (by go_simp)
def fieldB (h:Bool) (n m:Int):Bool:=if h=true then decide (0≤n∧n≤m)else decide (n=0)
theorem field_any (B:Nat) (k r s t vk vn:Int) (c:UInt8) (n m:Int) (w:World) (hB:w.heap[B]?=some (.cells #[.int .i64 k,.int .i64 r,.int .i64 s,.int .i64 t,.int .i64 vk,.int .i64 vn] 39 (0,0))):
    Calls Tryz.prog 63 #[.string ⟨#[c]⟩,.int .i64 n,.int .i64 m,.pointer (some ⟨B,0,none⟩)] w fun e w'=>e= .returned (.bool (fieldB (hasC k c) n m))∧Below w.heap.size w w':=by
  have q0:=blk_cell hB 0;have q1:=blk_cell hB 1;have q2:=blk_cell hB 2;have q3:=blk_cell hB 3;have q4:=blk_cell hB 4;have q5:=blk_cell hB 5;simp at q0 q1 q2 q3 q4 q5
  clear hB;have hw:=fun W:World=>has_any k r s t vk vn c W
  obtain⟨h,hh⟩: ∃h,h=hasC k c:=⟨_,rfl⟩;rw[←hh]at hw⊢
  clear hh;unfold fieldB;cases h
  · go_enter Tryz.func63,Tryz.ntmps63
    go_wp2_with (first|(go_at_call 34;refine(hw _).mono ?_;rintro e w' ⟨rfl,hb⟩)|(go_at_call 35;refine(in_any _ _ _ _).mono ?_;rintro e w' ⟨rfl,rfl⟩))
    go_ret
    exact⟨by by_cases hn:n=0<;>simp[hn],hb⟩
  · go_enter Tryz.func63,Tryz.ntmps63
    go_wp2_with (first|(go_at_call 34;refine(hw _).mono ?_;rintro e w' ⟨rfl,hb⟩)|(go_at_call 35;refine(in_any _ _ _ _).mono ?_;rintro e w' ⟨rfl,rfl⟩))
    go_ret
    exact⟨by simp,hb⟩
theorem valok_any (a b:Int) (w:World):Calls Tryz.prog 81 #[.agg #[.int .i64 a,.int .i64 b]] w fun e w'=>e= .returned (.bool (okB a b))∧Below w.heap.size w w':=by
  by_cases h0:a=0
  · subst h0
    have e:okB 0 b=(b==0):=by
      unfold okB okP;by_cases hb:b=0<;>simp[hb]
    rw[e];go_enter Tryz.func81,Tryz.ntmps81
    go_wp2
    go_ret
    exact⟨by first|rfl|simp,below_alloc (Below.refl _ _) _⟩
  by_cases h1:a=1
  · subst h1
    have e:okB 1 b=decide (-99≤b∧b≤99):=by unfold okB okP;simp
    rw[e];go_enter Tryz.func81,Tryz.ntmps81
    go_wp2_with (go_at_call 35;refine(in_any _ _ _ _).mono ?_;rintro e w' ⟨rfl,rfl⟩)
    go_ret
    exact⟨by first|rfl|simp,below_alloc (Below.refl _ _) _⟩
  by_cases h2:a=2
  · subst h2
    have e:okB 2 b=decide (0≤b∧b≤9):=by unfold okB okP;simp
    rw[e];go_enter Tryz.func81,Tryz.ntmps81
    go_wp2_with (go_at_call 35;refine(in_any _ _ _ _).mono ?_;rintro e w' ⟨rfl,rfl⟩)
    go_ret
    exact⟨by first|rfl|simp,below_alloc (Below.refl _ _) _⟩
  by_cases h3:a=3
  · subst h3
    have e:okB 3 b=decide (1≤b∧b≤6):=by unfold okB okP;simp
    rw[e];go_enter Tryz.func81,Tryz.ntmps81
    go_wp2_with (go_at_call 35;refine(in_any _ _ _ _).mono ?_;rintro e w' ⟨rfl,rfl⟩)
    go_ret
    exact⟨by first|rfl|simp,below_alloc (Below.refl _ _) _⟩
  have e:okB a b=false:=by unfold okB okP;simp[h0,h1,h2,h3]
  rw[e];have b0:(a==0)=false:=by simpa using h0
  have b1:(a==1)=false:=by simpa using h1
  have b2:(a==2)=false:=by simpa using h2
  have b3:(a==3)=false:=by simpa using h3
  go_enter Tryz.func81,Tryz.ntmps81
  go_wp2
  go_ret
  exact⟨rfl,below_alloc (Below.refl _ _) _⟩
end Go.Proofs.YtmklpbmlgjkbiaaGreatDoor.PS
end
section
namespace Go.Proofs.YtmklpbmlgjkbiaaGreatDoor.PS
open Go.RowKit Go.Proofs.YtmklpbmlgjkbiaaGreatDoorW.PrintWords Go.Proofs.YtmklpbmlgjkbiaaGreatDoorW.PrintLast
attribute [local go_sem high] eqA37
theorem ends_bool {w w':World} {a b:Bool} (h:Aside0 (b=a)) (hb:Below w.heap.size w w'):Ending.returned (Value.bool a)= .returned (.bool b)∧Below w.heap.size w w':=⟨by rw[h.out],hb⟩
def valB (k vk vn:Int):Bool:=decide (valP k vk vn)
theorem valB_8 (vk vn:Int):valB 8 vk vn=(okB vk vn&&((vk==1)&&decide (1≤vn))):=by
  unfold valB valP okB;by_cases a:vk=1<;>by_cases b:1≤vn<;>by_cases c:okP vk vn<;>simp[a,b,c]
theorem valB_13 (vk vn:Int):valB 13 vk vn=((vk==1)&&decide (0≤vn∧vn≤1)):=by
  unfold valB valP okP;by_cases a:vk=1<;>by_cases b:0≤vn∧vn≤1<;>simp[a,b]<;>omega
theorem valB_other (k vk vn:Int) (h8:k≠8) (h13:k≠13):valB k vk vn=okB vk vn:=by
  unfold valB valP okB;simp[h8,h13]
theorem valOp_any (k r s t vk vn:Int) (w:World):
    Calls Tryz.prog 64 #[.agg #[.int .i64 k,.int .i64 r,.int .i64 s,.int .i64 t,.int .i64 vk,.int .i64 vn]] w fun e w'=>e= .returned (.bool (valB k vk vn))∧Below w.heap.size w w':=by
  by_cases h8:k=8
  · subst h8
    have hw:=fun W:World=>valok_any vk vn W
    obtain⟨g,hg⟩: ∃g,g=valB 8 vk vn:=⟨_,rfl⟩;obtain⟨h,hh⟩: ∃h,h=okB vk vn:=⟨_,rfl⟩;have HH:=Aside0.mk (hg.trans (valB_8 vk vn));rw[←hg];rw[←hh]at hw HH
    clear hg hh;by_cases h1:vk=1
    · subst h1
      simp only[beq_self_eq_true,Bool.true_and]at HH
      cases h
      · go_enter Tryz.func64,Tryz.ntmps64
        go_wp2_with (go_at_call 81;refine(hw _).mono ?_;rintro e w' ⟨rfl,hb⟩;obtain⟨b1,b2⟩:=bcell hb)
        go_ret
        exact ends_bool HH (below_step (below_alloc (Below.refl _ _) _) hb)
      · go_enter Tryz.func64,Tryz.ntmps64
        go_wp2_with (go_at_call 81;refine(hw _).mono ?_;rintro e w' ⟨rfl,hb⟩;obtain⟨b1,b2⟩:=bcell hb)
        go_ret
        exact ends_bool HH (below_step (below_alloc (Below.refl _ _) _) hb)
    · have c1:(vk==1)=false:=by simpa using h1
      rw[c1,Bool.false_and,Bool.and_false]at HH
      cases h
      · go_enter Tryz.func64,Tryz.ntmps64
        go_wp2_with (go_at_call 81;refine(hw _).mono ?_;rintro e w' ⟨rfl,hb⟩;obtain⟨b1,b2⟩:=bcell hb)
        go_ret
        exact ends_bool HH (below_step (below_alloc (Below.refl _ _) _) hb)
      · go_enter Tryz.func64,Tryz.ntmps64
        go_wp2_with (go_at_call 81;refine(hw _).mono ?_;rintro e w' ⟨rfl,hb⟩;obtain⟨b1,b2⟩:=bcell hb)
        go_ret
        exact ends_bool HH (below_step (below_alloc (Below.refl _ _) _) hb)
  by_cases h13:k=13
  · subst h13
    obtain⟨g,hg⟩: ∃g,g=valB 13 vk vn:=⟨_,rfl⟩;have HH:=Aside0.mk (hg.trans (valB_13 vk vn));rw[←hg];clear hg;by_cases h1:vk=1
    · subst h1
      simp only[beq_self_eq_true,Bool.true_and]at HH
      have hw:=fun W:World=>in_any vn 0 1 W
      obtain⟨h,hh⟩: ∃h,h=decide (0≤vn∧vn≤1):=⟨_,rfl⟩;rw[←hh]at hw HH
      clear hh;go_enter Tryz.func64,Tryz.ntmps64
      go_wp2_with (go_at_call 35;refine(hw _).mono ?_;rintro e w' ⟨rfl,rfl⟩)
      go_ret
      exact ends_bool HH (below_alloc (Below.refl _ _) _)
    · have c1:(vk==1)=false:=by simpa using h1
      rw[c1,Bool.false_and]at HH
      go_enter Tryz.func64,Tryz.ntmps64
      go_wp2
      go_ret
      exact ends_bool HH (below_alloc (Below.refl _ _) _)
  have HH:=Aside0.mk (valB_other k vk vn h8 h13);have c8:(k==8)=false:=by simpa using h8
  have c13:(k==13)=false:=by simpa using h13
  have hw:=fun W:World=>valok_any vk vn W
  obtain⟨g,hg⟩: ∃g,g=valB k vk vn:=⟨_,rfl⟩;obtain⟨h,hh⟩: ∃h,h=okB vk vn:=⟨_,rfl⟩;rw[←hg];rw[←hg,←hh]at HH
  rw[←hh]at hw
  clear hg hh;go_enter Tryz.func64,Tryz.ntmps64
  go_wp2_with (go_at_call 81;refine(hw _).mono ?_;rintro e w' ⟨rfl,hb⟩;obtain⟨b1,b2⟩:=bcell hb)
  go_ret
  exact ends_bool HH (below_step (below_alloc (Below.refl _ _) _) hb)
theorem implOp_walk (k r s t vk vn:Int) (w:World) (g hv vb:Bool) (F:UInt8→Int→Int→Bool) (x:S77)
    (hHow: ∀W,Calls Tryz.prog 50 #[.agg #[.int .i64 k,.int .i64 r,.int .i64 s,.int .i64 t,.int .i64 vk,.int .i64 vn]] W fun e w'=>e= .returned (.agg #[.string x.f0,.string x.f1,.string x.f2,.bool x.f3])∧Below W.heap.size W w')
    (hHas: ∀W,Calls Tryz.prog 34 #[.agg #[.int .i64 k,.int .i64 r,.int .i64 s,.int .i64 t,.int .i64 vk,.int .i64 vn],.string ⟨#[86]⟩] W fun e w'=>e= .returned (.bool hv)∧Below W.heap.size W w')
    (hVal: ∀W,Calls Tryz.prog 64 #[.agg #[.int .i64 k,.int .i64 r,.int .i64 s,.int .i64 t,.int .i64 vk,.int .i64 vn]] W fun e w'=>e= .returned (.bool vb)∧Below W.heap.size W w')
    (hF: ∀ (c:UInt8) (n m:Int) (W:World) (hB:W.heap[w.heap.size]?=some (.cells #[.int .i64 k,.int .i64 r,.int .i64 s,.int .i64 t,.int .i64 vk,.int .i64 vn] 39 (0,0))),
      Calls Tryz.prog 63 #[.string ⟨#[c]⟩,.int .i64 n,.int .i64 m,.pointer (some ⟨w.heap.size,0,none⟩)] W fun e w'=>e= .returned (.bool (F c n m))∧Below W.heap.size W w')
    (hg:Aside0 (g=(!x.f0.toList.isEmpty&&(F 82 r 3&&(F 83 s 3&&(F 84 t 15&&if hv=true then vb else(vk==0&&(vn==0)))))))):
    Calls Tryz.prog 33 #[.agg #[.int .i64 k,.int .i64 r,.int .i64 s,.int .i64 t,.int .i64 vk,.int .i64 vn]] w fun e w'=>e= .returned (.bool g)∧Below w.heap.size w w':=by
  have BK:Aside0 ((w.alloc (.cells #[.int .i64 k,.int .i64 r,.int .i64 s,.int .i64 t,.int .i64 vk,.int .i64 vn] 39)).heap[w.heap.size]?=some (.cells #[.int .i64 k,.int .i64 r,.int .i64 s,.int .i64 t,.int .i64 vk,.int .i64 vn] 39 (0,0))):=⟨blk_new _ _⟩;have HB:=Aside0.mk (Below.refl w.heap.size w);have hu27:=Tryz.underlying37;have hu29:=Tryz.underlying39;have hfd: ∀ (a b c d:Value) (W:World),Sem.run Tryz.prog (Instr.field 77 (.agg #[a,b,c,d]) 0) W= .ok a W:=fun _ _ _ _ _=>by kernel_rfl
  cases hv
  · go_enter Tryz.func33,Tryz.ntmps33
    go_wp2_with (first|(go_at_call 34;refine(hHas _).mono ?_;rintro e w' ⟨rfl,hb⟩;have BK:=Aside0.mk (blk_below (by(with_reducible repeat(first|refine blk_drewN ?_ _|refine blk_drew ?_|refine blk_alloc ?_ _));exact BK.out) hb);have HB:=Aside0.mk (below_step (by repeat(first|(with_reducible first|exact HB.out|apply below_alloc|apply pw_below_drewN|apply below_drew1)|exact HB.out)) hb);have q0:w'.cell? ⟨w.heap.size,0,none⟩=some (.int .i64 k):=(blk_cell BK.out 0).trans rfl;have q1:w'.cell? ⟨w.heap.size,1,none⟩=some (.int .i64 r):=(blk_cell BK.out 1).trans rfl;have q2:w'.cell? ⟨w.heap.size,2,none⟩=some (.int .i64 s):=(blk_cell BK.out 2).trans rfl;have q3:w'.cell? ⟨w.heap.size,3,none⟩=some (.int .i64 t):=(blk_cell BK.out 3).trans rfl;have q4:w'.cell? ⟨w.heap.size,4,none⟩=some (.int .i64 vk):=(blk_cell BK.out 4).trans rfl;have q5:w'.cell? ⟨w.heap.size,5,none⟩=some (.int .i64 vn):=(blk_cell BK.out 5).trans rfl;clear hb)|(go_at_call 64;refine(hVal _).mono ?_;rintro e w' ⟨rfl,hb⟩;have BK:=Aside0.mk (blk_below (by(with_reducible repeat(first|refine blk_drewN ?_ _|refine blk_drew ?_|refine blk_alloc ?_ _));exact BK.out) hb);have HB:=Aside0.mk (below_step (by repeat(first|(with_reducible first|exact HB.out|apply below_alloc|apply pw_below_drewN|apply below_drew1)|exact HB.out)) hb);have q0:w'.cell? ⟨w.heap.size,0,none⟩=some (.int .i64 k):=(blk_cell BK.out 0).trans rfl;have q1:w'.cell? ⟨w.heap.size,1,none⟩=some (.int .i64 r):=(blk_cell BK.out 1).trans rfl;have q2:w'.cell? ⟨w.heap.size,2,none⟩=some (.int .i64 s):=(blk_cell BK.out 2).trans rfl;have q3:w'.cell? ⟨w.heap.size,3,none⟩=some (.int .i64 t):=(blk_cell BK.out 3).trans rfl;have q4:w'.cell? ⟨w.heap.size,4,none⟩=some (.int .i64 vk):=(blk_cell BK.out 4).trans rfl;have q5:w'.cell? ⟨w.heap.size,5,none⟩=some (.int .i64 vn):=(blk_cell BK.out 5).trans rfl;clear hb)|(go_at_call 50;refine(hHow _).mono ?_;rintro e w' ⟨rfl,hb⟩;have BK:=Aside0.mk (blk_below (by(with_reducible repeat(first|refine blk_drewN ?_ _|refine blk_drew ?_|refine blk_alloc ?_ _));exact BK.out) hb);have HB:=Aside0.mk (below_step (by repeat(first|(with_reducible first|exact HB.out|apply below_alloc|apply pw_below_drewN|apply below_drew1)|exact HB.out)) hb);have q0:w'.cell? ⟨w.heap.size,0,none⟩=some (.int .i64 k):=(blk_cell BK.out 0).trans rfl;have q1:w'.cell? ⟨w.heap.size,1,none⟩=some (.int .i64 r):=(blk_cell BK.out 1).trans rfl;have q2:w'.cell? ⟨w.heap.size,2,none⟩=some (.int .i64 s):=(blk_cell BK.out 2).trans rfl;have q3:w'.cell? ⟨w.heap.size,3,none⟩=some (.int .i64 t):=(blk_cell BK.out 3).trans rfl;have q4:w'.cell? ⟨w.heap.size,4,none⟩=some (.int .i64 vk):=(blk_cell BK.out 4).trans rfl;have q5:w'.cell? ⟨w.heap.size,5,none⟩=some (.int .i64 vn):=(blk_cell BK.out 5).trans rfl;clear hb)|(go_at_call 63;refine(hF _ _ _ _ (by(with_reducible repeat(first|refine blk_drewN ?_ _|refine blk_drew ?_|refine blk_alloc ?_ _));exact BK.out)).mono ?_;rintro e w' ⟨rfl,hb⟩;have BK:=Aside0.mk (blk_below (by(with_reducible repeat(first|refine blk_drewN ?_ _|refine blk_drew ?_|refine blk_alloc ?_ _));exact BK.out) hb);have HB:=Aside0.mk (below_step (by repeat(first|(with_reducible first|exact HB.out|apply below_alloc|apply pw_below_drewN|apply below_drew1)|exact HB.out)) hb);have q0:w'.cell? ⟨w.heap.size,0,none⟩=some (.int .i64 k):=(blk_cell BK.out 0).trans rfl;have q1:w'.cell? ⟨w.heap.size,1,none⟩=some (.int .i64 r):=(blk_cell BK.out 1).trans rfl;have q2:w'.cell? ⟨w.heap.size,2,none⟩=some (.int .i64 s):=(blk_cell BK.out 2).trans rfl;have q3:w'.cell? ⟨w.heap.size,3,none⟩=some (.int .i64 t):=(blk_cell BK.out 3).trans rfl;have q4:w'.cell? ⟨w.heap.size,4,none⟩=some (.int .i64 vk):=(blk_cell BK.out 4).trans rfl;have q5:w'.cell? ⟨w.heap.size,5,none⟩=some (.int .i64 vn):=(blk_cell BK.out 5).trans rfl;clear hb))
    all_goals go_ret
    all_goals refine⟨?_,HB.out⟩
    all_goals(rw[hg.out];simp[*])
  · go_enter Tryz.func33,Tryz.ntmps33
    go_wp2_with (first|(go_at_call 34;refine(hHas _).mono ?_;rintro e w' ⟨rfl,hb⟩;have BK:=Aside0.mk (blk_below (by(with_reducible repeat(first|refine blk_drewN ?_ _|refine blk_drew ?_|refine blk_alloc ?_ _));exact BK.out) hb);have HB:=Aside0.mk (below_step (by repeat(first|(with_reducible first|exact HB.out|apply below_alloc|apply pw_below_drewN|apply below_drew1)|exact HB.out)) hb);have q0:w'.cell? ⟨w.heap.size,0,none⟩=some (.int .i64 k):=(blk_cell BK.out 0).trans rfl;have q1:w'.cell? ⟨w.heap.size,1,none⟩=some (.int .i64 r):=(blk_cell BK.out 1).trans rfl;have q2:w'.cell? ⟨w.heap.size,2,none⟩=some (.int .i64 s):=(blk_cell BK.out 2).trans rfl;have q3:w'.cell? ⟨w.heap.size,3,none⟩=some (.int .i64 t):=(blk_cell BK.out 3).trans rfl;have q4:w'.cell? ⟨w.heap.size,4,none⟩=some (.int .i64 vk):=(blk_cell BK.out 4).trans rfl;have q5:w'.cell? ⟨w.heap.size,5,none⟩=some (.int .i64 vn):=(blk_cell BK.out 5).trans rfl;clear hb)|(go_at_call 64;refine(hVal _).mono ?_;rintro e w' ⟨rfl,hb⟩;have BK:=Aside0.mk (blk_below (by(with_reducible repeat(first|refine blk_drewN ?_ _|refine blk_drew ?_|refine blk_alloc ?_ _));exact BK.out) hb);have HB:=Aside0.mk (below_step (by repeat(first|(with_reducible first|exact HB.out|apply below_alloc|apply pw_below_drewN|apply below_drew1)|exact HB.out)) hb);have q0:w'.cell? ⟨w.heap.size,0,none⟩=some (.int .i64 k):=(blk_cell BK.out 0).trans rfl;have q1:w'.cell? ⟨w.heap.size,1,none⟩=some (.int .i64 r):=(blk_cell BK.out 1).trans rfl;have q2:w'.cell? ⟨w.heap.size,2,none⟩=some (.int .i64 s):=(blk_cell BK.out 2).trans rfl;have q3:w'.cell? ⟨w.heap.size,3,none⟩=some (.int .i64 t):=(blk_cell BK.out 3).trans rfl;have q4:w'.cell? ⟨w.heap.size,4,none⟩=some (.int .i64 vk):=(blk_cell BK.out 4).trans rfl;have q5:w'.cell? ⟨w.heap.size,5,none⟩=some (.int .i64 vn):=(blk_cell BK.out 5).trans rfl;clear hb)|(go_at_call 50;refine(hHow _).mono ?_;rintro e w' ⟨rfl,hb⟩;have BK:=Aside0.mk (blk_below (by(with_reducible repeat(first|refine blk_drewN ?_ _|refine blk_drew ?_|refine blk_alloc ?_ _));exact BK.out) hb);have HB:=Aside0.mk (below_step (by repeat(first|(with_reducible first|exact HB.out|apply below_alloc|apply pw_below_drewN|apply below_drew1)|exact HB.out)) hb);have q0:w'.cell? ⟨w.heap.size,0,none⟩=some (.int .i64 k):=(blk_cell BK.out 0).trans rfl;have q1:w'.cell? ⟨w.heap.size,1,none⟩=some (.int .i64 r):=(blk_cell BK.out 1).trans rfl;have q2:w'.cell? ⟨w.heap.size,2,none⟩=some (.int .i64 s):=(blk_cell BK.out 2).trans rfl;have q3:w'.cell? ⟨w.heap.size,3,none⟩=some (.int .i64 t):=(blk_cell BK.out 3).trans rfl;have q4:w'.cell? ⟨w.heap.size,4,none⟩=some (.int .i64 vk):=(blk_cell BK.out 4).trans rfl;have q5:w'.cell? ⟨w.heap.size,5,none⟩=some (.int .i64 vn):=(blk_cell BK.out 5).trans rfl;clear hb)|(go_at_call 63;refine(hF _ _ _ _ (by(with_reducible repeat(first|refine blk_drewN ?_ _|refine blk_drew ?_|refine blk_alloc ?_ _));exact BK.out)).mono ?_;rintro e w' ⟨rfl,hb⟩;have BK:=Aside0.mk (blk_below (by(with_reducible repeat(first|refine blk_drewN ?_ _|refine blk_drew ?_|refine blk_alloc ?_ _));exact BK.out) hb);have HB:=Aside0.mk (below_step (by repeat(first|(with_reducible first|exact HB.out|apply below_alloc|apply pw_below_drewN|apply below_drew1)|exact HB.out)) hb);have q0:w'.cell? ⟨w.heap.size,0,none⟩=some (.int .i64 k):=(blk_cell BK.out 0).trans rfl;have q1:w'.cell? ⟨w.heap.size,1,none⟩=some (.int .i64 r):=(blk_cell BK.out 1).trans rfl;have q2:w'.cell? ⟨w.heap.size,2,none⟩=some (.int .i64 s):=(blk_cell BK.out 2).trans rfl;have q3:w'.cell? ⟨w.heap.size,3,none⟩=some (.int .i64 t):=(blk_cell BK.out 3).trans rfl;have q4:w'.cell? ⟨w.heap.size,4,none⟩=some (.int .i64 vk):=(blk_cell BK.out 4).trans rfl;have q5:w'.cell? ⟨w.heap.size,5,none⟩=some (.int .i64 vn):=(blk_cell BK.out 5).trans rfl;clear hb))
    all_goals go_ret
    all_goals refine⟨?_,HB.out⟩
    all_goals(rw[hg.out];simp[*])
end Go.Proofs.YtmklpbmlgjkbiaaGreatDoor.PS
end
section
namespace Go.Proofs.YtmklpbmlgjkbiaaGreatDoor.PS
open Go.RowKit Go.Proofs.YtmklpbmlgjkbiaaGreatDoorW.PrintWords Go.Proofs.YtmklpbmlgjkbiaaGreatDoorW.PrintLast
theorem fieldB_eq (h:Bool) (n m:Int) (hm:0≤m):fieldB h n m=decide (n=0∨(h=true∧0≤n∧n≤m)):=by
  unfold fieldB;cases h
  · simp
  · simp;omega
theorem word_some (k:Int):(!(howR k).f0.toList.isEmpty)=decide (1≤k∧k≤14):=by
  rw[Lib.toList_data];refine kinds (P:=fun k=>(!(howR k).f0.data.toList.isEmpty)=decide (1≤k∧k≤14)) (fun k hk=> ?_) (by decide) (by decide) (by decide) (by decide) (by decide) (by decide) (by decide) (by decide) (by decide) (by decide) (by decide) (by decide) (by decide) (by decide) k
  unfold howR;rw[if_neg hk,decide_eq_false hk];decide
theorem opB_eq (k r s t vk vn:Int):opB k r s t vk vn=(!(howR k).f0.toList.isEmpty&&(fieldB (hasC k 82) r 3&&(fieldB (hasC k 83) s 3&&(fieldB (hasC k 84) t 15&&if hasC k 86=true then valB k vk vn else(vk==0&&(vn==0)))))):=by
  rw[word_some,hasC_R,hasC_S,hasC_T,hasC_V,fieldB_eq _ _ _ (by omega),fieldB_eq _ _ _ (by omega),fieldB_eq _ _ _ (by omega)]
  have hv:(if hasV k=true then valB k vk vn else(vk==0&&(vn==0)))=decide (valP k vk vn∧(hasV k=true∨(vk=0∧vn=0))):=by
    by_cases h:hasV k=true
    · rw[if_pos h];unfold valB;simp[h]
    · rw[if_neg h]
      have h8:k≠8∧k≠13:=by unfold hasV at h;simp at h;omega
      by_cases hz:vk=0∧vn=0
      · obtain⟨rfl,rfl⟩:=hz
        have:valP k 0 0:=⟨Or.inl ⟨rfl,rfl⟩,fun e=>absurd e h8.1,fun e=>absurd e h8.2⟩
        simp[this]
      · have e1 : (vk == 0 && (vn == 0)) = false := by
          by_cases a:vk=0<;>by_cases b:vn=0<;>simp[a,b]<;>simp_all
        rw[e1];exact(decide_eq_false (fun ⟨_,g⟩=>g.elim h hz)).symm
  rw[hv];unfold opB;simp only[←Bool.decide_and]
  apply decide_eq_decide.2
  unfold opP;constructor
  · rintro⟨a,b,c,d,e,f⟩;exact⟨a,c,d,e,b,f⟩
  · rintro⟨a,c,d,e,b,f⟩;exact⟨a,b,c,d,e,f⟩
theorem impl_OpOk.calls (k r s t vk vn:Int) (b:Bool) (w:World) (h:opV.f k r s t vk vn=some b):
    Calls Tryz.prog 33 #[.agg #[.int .i64 k,.int .i64 r,.int .i64 s,.int .i64 t,.int .i64 vk,.int .i64 vn]] w fun e w'=>e= .returned (.bool b)∧Below w.heap.size w w':=by
  refine implOp_walk k r s t vk vn w b (hasC k 86) (valB k vk vn) (fun c n m=>fieldB (hasC k c) n m) (howR k) (fun W=>impl_Op_how.calls k r s t vk vn _ _ _ _ W rfl) (fun W=>has_any k r s t vk vn 86 W)
    (fun W=>valOp_any k r s t vk vn W) (fun c n m W hB=>field_any w.heap.size k r s t vk vn c n m W hB) ⟨?_⟩
  rw[←opB_eq];exact(Option.some.inj h).symm
def opS (x:S39):Bool:=opB x.f0 x.f1 x.f2 x.f3 x.f4.f0 x.f4.f1
def wrongB (n:Nat) (x:S39):Bool:= !(opS x)||(hasT x.f0&&decide ((n:Int)≤x.f3))
def codeB (l:List S39):Bool:=decide (1≤l.length∧l.length≤16)&& !(l.any (wrongB l.length))
def codeV.f (l:List S39):Option Bool:=some (codeB l)
theorem wrong_any (A0:Option Addr) (n c0 B:Nat) (k r s t vk vn:Int) (w:World) (hB:w.heap[B]?=some (.cells #[.slice A0 n c0] 22 (0,0))):
    Calls Tryz.prog 32 #[.agg #[.int .i64 k,.int .i64 r,.int .i64 s,.int .i64 t,.int .i64 vk,.int .i64 vn],.pointer (some ⟨B,0,none⟩)] w fun e w'=>e= .returned (.bool (!(opB k r s t vk vn)||(hasT k&&decide ((n:Int)≤t))))∧Below w.heap.size w w':=by
  have hOk:=fun W:World=>impl_OpOk.calls k r s t vk vn (opB k r s t vk vn) W rfl
  have hHas:=fun W:World=>has_any k r s t vk vn 84 W
  rw[hasC_T]at hHas
  have ltB:=blk_lt hB;obtain⟨g,hg⟩: ∃g,g=opB k r s t vk vn:=⟨_,rfl⟩;obtain⟨h,hh⟩: ∃h,h=hasT k:=⟨_,rfl⟩;rw[←hg]at hOk⊢
  rw[←hh]at hHas⊢
  clear hg hh;have BK:Aside0 ((w.alloc (.cells #[.int .i64 k,.int .i64 r,.int .i64 s,.int .i64 t,.int .i64 vk,.int .i64 vn] 39)).heap[w.heap.size]?=some (.cells #[.int .i64 k,.int .i64 r,.int .i64 s,.int .i64 t,.int .i64 vk,.int .i64 vn] 39 (0,0))):=⟨blk_new _ _⟩;have BB:Aside0 ((w.alloc (.cells #[.int .i64 k,.int .i64 r,.int .i64 s,.int .i64 t,.int .i64 vk,.int .i64 vn] 39)).heap[B]?=some (.cells #[.slice A0 n c0] 22 (0,0))):=⟨blk_alloc hB _⟩;have HB:=Aside0.mk (below_alloc (Below.refl w.heap.size w) (.cells #[.int .i64 k,.int .i64 r,.int .i64 s,.int .i64 t,.int .i64 vk,.int .i64 vn] 39));clear hB ltB;cases g<;>cases h
  all_goals go_enter Tryz.func32,Tryz.ntmps32
  all_goals go_wp2_with (first|(go_at_call 33;refine(hOk _).mono ?_;rintro e w' ⟨rfl,hb⟩;have BK1:=Aside0.mk (blk_below BK.out hb);have BB1:=Aside0.mk (blk_below BB.out hb);have HB1:=Aside0.mk (below_step HB.out hb);clear HB BK BB hb;have HB:=HB1;have BK:=BK1;have BB:=BB1;clear HB1 BK1 BB1;obtain⟨q0,q1,q2,q3,q4,q5⟩:w'.cell? ⟨w.heap.size,0,none⟩=some (.int .i64 k)∧w'.cell? ⟨w.heap.size,1,none⟩=some (.int .i64 r)∧w'.cell? ⟨w.heap.size,2,none⟩=some (.int .i64 s)∧w'.cell? ⟨w.heap.size,3,none⟩=some (.int .i64 t)∧w'.cell? ⟨w.heap.size,4,none⟩=some (.int .i64 vk)∧w'.cell? ⟨w.heap.size,5,none⟩=some (.int .i64 vn):=⟨(blk_cell BK.out 0).trans rfl,(blk_cell BK.out 1).trans rfl,(blk_cell BK.out 2).trans rfl,(blk_cell BK.out 3).trans rfl,(blk_cell BK.out 4).trans rfl,(blk_cell BK.out 5).trans rfl⟩)|(go_at_call 34;refine(hHas _).mono ?_;rintro e w'2 ⟨rfl,hb⟩;have BK1:=Aside0.mk (blk_below BK.out hb);have BB1:=Aside0.mk (blk_below BB.out hb);have HB1:=Aside0.mk (below_step HB.out hb);clear HB BK BB hb;have HB:=HB1;have BK:=BK1;have BB:=BB1;clear HB1 BK1 BB1;have u3:w'2.cell? ⟨w.heap.size,3,none⟩=some (.int .i64 t):=(blk_cell BK.out 3).trans rfl;have u0:w'2.cell? ⟨B,0,none⟩=some (.slice A0 n c0):=(blk_cell BB.out 0).trans rfl))
  all_goals go_ret
  all_goals exact⟨by simp,HB.out⟩
def aggS (x:S39):Value:=.agg #[.int .i64 x.f0,.int .i64 x.f1,.int .i64 x.f2,.int .i64 x.f3,.int .i64 x.f4.f0,.int .i64 x.f4.f1]
def FoundAt (p:S39→Bool) (l:List S39) (i:Int):Prop:=(0≤i∧l.any p=true)∨(i= -1∧l.any p=false)
theorem found_yes {p:S39→Bool} {l:List S39} {kk:Nat} (h:kk<l.length) (hp:p (rd_T39 l kk)=true):FoundAt p l kk:=by
  refine .inl ⟨by omega,List.any_eq_true.2 ⟨rd_T39 l kk,?_,hp⟩⟩
  unfold rd_T39;rw[List.getD_eq_getElem?_getD,Int.toNat_natCast,List.getElem?_eq_getElem h];exact List.getElem_mem h
theorem found_no {p:S39→Bool} {l:List S39} (h: ∀j,j<l.length→p (rd_T39 l (j:Nat))=false):FoundAt p l (-1):=by
  refine .inr ⟨rfl,List.any_eq_false.2 fun x hx=> ?_⟩
  obtain⟨j,hj,rfl⟩:=List.mem_iff_getElem.1 hx;have:=h j hj;unfold rd_T39 at this;rw[List.getD_eq_getElem?_getD,Int.toNat_natCast,List.getElem?_eq_getElem hj]at this
  simpa using this
theorem index_ops (p:S39→Bool) (g:Nat) (lb:Array Value) (eg: ∀args w,(callFunc g args).run Tryz.prog w= .ok (.enter g args) w) (A0:Option Addr) (c0:Nat) (l0:List S39) (w:World)
    (hr0:Kd.C k39 w A0 l0.length l0) (hl:l0.length≤16)
    (hp: ∀ (W:World) (x:S39),Below w.heap.size w W→Calls Tryz.prog g (#[aggS x]++lb) W fun e w'=>e= .returned (.bool (p x))∧Below w.heap.size w w'):
    Calls Tryz.prog 66 #[.slice A0 l0.length c0,.func (.func g) #[] lb] w fun e w'=> ∃i,e= .returned (.int .i64 i)∧FoundAt p l0 i∧Below w.heap.size w w':=by
  have HR0:=Aside0.mk hr0;clear hr0;go_enter Tryz.func66,Tryz.ntmps66
  go_wp2
  go_loopg [5,8] l0.length (fun gg _ s8 wr=> ∃kk:Nat,kk≤l0.length∧l0.length-kk≤gg∧s8= .int .i64 kk∧Aside (Below w.heap.size w wr)∧Aside (∀j,j<kk→p (rd_T39 l0 (j:Nat))=false))
  case atStart=>exact⟨0,Nat.zero_le _,by omega,rfl,Below.refl _ w,fun j hj=>absurd hj (Nat.not_lt_zero _)⟩
  case round=>
    obtain⟨kk,hkk,hgg,rfl,BW,A⟩:=hrel;by_cases hlt:kk<l0.length
    · have hltz:(kk:Int)<(l0.length:Int):=by omega
      have h0z:0≤(kk:Int):=by omega
      obtain⟨ad,e,x0,x1,x2,x3,x4,x5⟩:=at_T39 HR0.out (kk:Int) h0z hltz;subst e;rw[Int.toNat_natCast]at x0 x1 x2 x3 x4 x5
      replace x0:=(BW.out.cell (World.block_lt_of_cell? w _ x0)).trans x0;replace x1:=(BW.out.cell (World.block_lt_of_cell? w _ x1)).trans x1;replace x2:=(BW.out.cell (World.block_lt_of_cell? w _ x2)).trans x2;replace x3:=(BW.out.cell (World.block_lt_of_cell? w _ x3)).trans x3;replace x4:=(BW.out.cell (World.block_lt_of_cell? w _ x4)).trans x4;replace x5:=(BW.out.cell (World.block_lt_of_cell? w _ x5)).trans x5;have hcall:=hp wr (rd_T39 l0 (kk:Int)) BW.out;unfold aggS at hcall;clear hp;obtain⟨y,hy0⟩: ∃y,y=rd_T39 l0 (kk:Int):=⟨_,rfl⟩;rw[←hy0]at hcall x0 x1 x2 x3 x4 x5
      have hy:=Aside0.mk hy0;clear hy0;cases hq:p y with
      |true=>
        rw[hq]at hcall
        go_wp2_with (go_at_fn g;refine hcall.mono ?_;rintro e w' ⟨rfl,hb'⟩)
        go_ret
        exact⟨_,rfl,found_yes hlt (by rw[←hy.out];exact hq),hb'⟩
      |false=>
        rw[hq]at hcall
        go_wp2_with (go_at_fn g;refine hcall.mono ?_;rintro e w' ⟨rfl,hb'⟩)
        go_roundg (l0.length- (kk+1))
        case measure=>omega
        case rel=>
          refine⟨kk+1,by omega,by omega,by go_num,hb',(show Aside _ from fun j hj=> ?_)⟩
          by_cases e:j=kk
          · subst e
            rw[←hy.out];exact hq
          · exact A.out j (by omega)
    · have hltz: ¬(kk:Int)<(l0.length:Int):=by omega
      have:kk=l0.length:=by omega
      subst this;go_wp2
      go_ret
      exact⟨_,rfl,found_no A.out,BW.out⟩
theorem contains_ops (p:S39→Bool) (g:Nat) (lb:Array Value) (eg: ∀args w,(callFunc g args).run Tryz.prog w= .ok (.enter g args) w) (A0:Option Addr) (c0:Nat) (l0:List S39) (w:World)
    (hr0:Kd.C k39 w A0 l0.length l0) (hl:l0.length≤16)
    (hp: ∀ (W:World) (x:S39),Below w.heap.size w W→Calls Tryz.prog g (#[aggS x]++lb) W fun e w'=>e= .returned (.bool (p x))∧Below w.heap.size w w'):
    Calls Tryz.prog 36 #[.slice A0 l0.length c0,.func (.func g) #[] lb] w fun e w'=>e= .returned (.bool (l0.any p))∧Below w.heap.size w w':=by
  have hx:=index_ops p g lb eg A0 c0 l0 w hr0 hl hp;clear hr0 hp;go_enter Tryz.func36,Tryz.ntmps36
  go_wp2_with (go_at_call 66;refine hx.mono ?_;rintro e w' ⟨i,rfl,hi,hb⟩)
  go_ret
  refine⟨?_,hb⟩
  rcases hi with ⟨h0,h1⟩|⟨rfl,h1⟩
  · rw[h1];simp[h0]
  · rw[h1];rfl
theorem impl_CodeOk.calls (A0:Option Addr) (c0:Nat) (l0:List S39) (r:Bool) (w:World) (hr0:Kd.C k39 w A0 l0.length l0) (hc0:l0.length≤c0) (h:codeV.f l0=some r):
    Calls Tryz.prog 16 #[.slice A0 l0.length c0] w fun e w'=>e= .returned (.bool r)∧Below w.heap.size w w':=by
  have h:=Aside0.mk (Option.some.inj h);have HR0:=Aside0.mk hr0;clear hr0;by_cases hl:1≤l0.length∧l0.length≤16
  · have b1:(decide (1≤l0.length∧l0.length≤16))=true:=decide_eq_true hl
    have b2:(decide (1≤(l0.length:Int)∧(l0.length:Int)≤16))=true:=decide_eq_true (by omega)
    obtain⟨w1,hw1⟩: ∃w1,w1=w.alloc (.cells #[.slice A0 l0.length c0] 22):=⟨_,rfl⟩
    have hx:=contains_ops (wrongB l0.length) 32 #[.pointer (some ⟨w.heap.size,0,none⟩)] (fun _ _=>by kernel_rfl) A0 c0 l0 w1 (by rw[hw1];exact Kd.C_alloc HR0.out _) hl.2 (fun W x hb=>by
      have hB:W.heap[w.heap.size]?=some (.cells #[.slice A0 l0.length c0] 22 (0,0)):=by
        have:=blk_new w (.cells #[.slice A0 l0.length c0] 22);rw[←hw1]at this
        exact blk_below this hb
      refine(wrong_any A0 l0.length c0 w.heap.size x.f0 x.f1 x.f2 x.f3 x.f4.f0 x.f4.f1 W hB).mono ?_
      rintro e w' ⟨rfl,hb'⟩
      exact⟨rfl,below_step hb hb'⟩)
    rw[hw1]at hx
    go_enter Tryz.func16,Tryz.ntmps16
    go_wp2_with (first|(go_at_call 35;refine(in_any _ _ _ _).mono ?_;rintro e w' ⟨rfl,rfl⟩)|(go_at_call 36;refine hx.mono ?_;rintro e w' ⟨rfl,hb⟩))
    all_goals go_ret
    all_goals(refine⟨by rw[←h.out];unfold codeB;simp[b1],?_⟩)
    all_goals exact below_step (below_alloc (Below.refl _ _) _) hb
  · have b1:(decide (1≤l0.length∧l0.length≤16))=false:=decide_eq_false hl
    have b2:(decide (1≤(l0.length:Int)∧(l0.length:Int)≤16))=false:=decide_eq_false (by omega)
    go_enter Tryz.func16,Tryz.ntmps16
    go_wp2_with (first|(go_at_call 35;refine(in_any _ _ _ _).mono ?_;rintro e w' ⟨rfl,rfl⟩))
    all_goals go_ret
    all_goals(refine⟨by rw[←h.out];unfold codeB;simp[b1],?_⟩)
    all_goals exact below_alloc (Below.refl _ _) _
end Go.Proofs.YtmklpbmlgjkbiaaGreatDoor.PS
end
section
namespace Go.Proofs.YtmklpbmlgjkbiaaGreatDoor.PS
open Go.RowKit Go.Proofs.YtmklpbmlgjkbiaaGreatDoorW.PrintWords Go.Proofs.YtmklpbmlgjkbiaaGreatDoorW.PrintLast Go.Proofs.YtmklpbmlgjkbiaaGreatDoorW.PrintMore
attribute [local go_sem] max2_int min2_int max_two min_two max_three min_three max_four min_four   -- for this text's walks alone
def laws_eqVal.f (a0_0:Int) (a0_1:Int) (a1_0:Int) (a1_1:Int):Option (Bool):=if a0_0=a1_0 then(if a0_1=a1_1 then(some true)else(some false))else(some false)
theorem laws_eqVal.calls (a0_0:Int) (a0_1:Int) (a1_0:Int) (a1_1:Int) (r:Bool) (w:World) (h:laws_eqVal.f a0_0 a0_1 a1_0 a1_1=some r):
    Calls Tryz.prog 54 #[.agg #[.int .i64 a0_0,.int .i64 a0_1],.agg #[.int .i64 a1_0,.int .i64 a1_1]] w fun e w'=>e= .returned (.bool r)∧Below w.heap.size w w':=by
  have hu37:=Tryz.underlying37;have HB:=Aside0.mk (Below.refl w.heap.size w);have H:(if a0_0=a1_0 then(if a0_1=a1_1 then(some true)else(some false))else(some false))=some r:=h
  clear h;by_cases c3:a0_0=a1_0
  · rw[if_pos c3]at H
    have c3b0:(a0_0==a1_0)=true:=beq_iff_eq.mpr c3;have c3b1:(a0_0 !=a1_0)=false:=bne_eq_false_iff_eq.mpr c3;clear c3;by_cases c4:a0_1=a1_1
    · rw[if_pos c4]at H
      have c4b0:(a0_1==a1_1)=true:=beq_iff_eq.mpr c4;have c4b1:(a0_1 !=a1_1)=false:=bne_eq_false_iff_eq.mpr c4;clear c4;obtain rfl:=Option.some.inj H;go_enter Tryz.func54,Tryz.ntmps54
      go_wp2_with (first|((with_reducible refine gate_dst (N:=2) rfl ?_);refine box_event ?hg (N:=2) ?hd (cs:= #[.int .i64 a0_0,.int .i64 a0_1]) (t:=37) ?hr ?_;(case hd=>rfl);(case hg=>rfl);(case hr=>first|(go_simp;done)|(go_simp;rfl));intro gb101 hg w5 hbox hb;have n0_:=Aside0.mk (below_step (by repeat(first|(with_reducible first|exact HB.out|apply below_alloc|apply pw_below_drewN|apply below_drew1)|exact HB.out)) hb);have n1_:=Aside0.mk (hbox);have n2_:=Aside0.mk ((by rw[hg];exact(below_size (by repeat(first|(with_reducible first|exact HB.out|apply below_alloc|apply pw_below_drewN|apply below_drew1)|exact HB.out))):w.heap.size≤gb101));have n3_:=Aside0.mk ((by rw[hg];exact(below_size (by repeat(first|(with_reducible first|exact HB.out|apply below_alloc|apply pw_below_drewN|apply below_drew1)|exact HB.out))):w.heap.size≤gb101));clear HB;have HB:=n0_;have BK101:=n1_;have GW101:=n2_;have GE101:=n3_;clear n0_ n1_ n2_ n3_;clear hb hbox hg)|((with_reducible refine gate_dst (N:=3) rfl ?_);refine box_event ?hg (N:=3) ?hd (cs:= #[.int .i64 a1_0,.int .i64 a1_1]) (t:=37) ?hr ?_;(case hd=>rfl);(case hg=>rfl);(case hr=>first|(go_simp;done)|(go_simp;rfl));intro gb102 hg w6 hbox hb;have n0_:=Aside0.mk (blk_below (g:=gb101) (o:=.cells #[.int .i64 a0_0,.int .i64 a0_1] 37 (0,0)) (by(with_reducible repeat(first|refine blk_drewN ?_ _|refine blk_drew ?_|refine blk_alloc ?_ _));exact BK101.out) hb);have n1_:=Aside0.mk (below_step (by repeat(first|(with_reducible first|exact HB.out|apply below_alloc|apply pw_below_drewN|apply below_drew1|refine below_set ?_ GE101.out)|exact HB.out)) hb);have n2_:=Aside0.mk (hbox);have n3_:=Aside0.mk ((by rw[hg];exact(below_size (by repeat(first|(with_reducible first|exact HB.out|apply below_alloc|apply pw_below_drewN|apply below_drew1|refine below_set ?_ GE101.out)|exact HB.out))):w.heap.size≤gb102));have n4_:=Aside0.mk ((by rw[hg];exact(below_size (by repeat(first|(with_reducible first|exact HB.out|apply below_alloc|apply pw_below_drewN|apply below_drew1|refine below_set ?_ GE101.out)|exact HB.out))):w.heap.size≤gb102));have n5_:=Aside0.mk ((by rw[hg];exact Nat.ne_of_lt (blk_lt (g:=gb101) (o:=.cells #[.int .i64 a0_0,.int .i64 a0_1] 37 (0,0)) (by(with_reducible repeat(first|refine blk_drewN ?_ _|refine blk_drew ?_|refine blk_alloc ?_ _));exact BK101.out)):gb101≠gb102));have n6_:=Aside0.mk ((by rw[hg];exact Nat.ne_of_gt (blk_lt (g:=gb101) (o:=.cells #[.int .i64 a0_0,.int .i64 a0_1] 37 (0,0)) (by(with_reducible repeat(first|refine blk_drewN ?_ _|refine blk_drew ?_|refine blk_alloc ?_ _));exact BK101.out)):gb102≠gb101));clear BK101;clear HB;have BK101:=n0_;have HB:=n1_;have BK102:=n2_;have GW102:=n3_;have GE102:=n4_;have NB101_102:=n5_;have NB102_101:=n6_;clear n0_ n1_ n2_ n3_ n4_ n5_ n6_;clear hb hbox hg;have hnb7:=NB101_102.out;have hnc7:=NB102_101.out;have hcz8_0:w6.cell? ⟨gb101,0,none⟩=some (.int .i64 a0_0):=(blk_cell BK101.out 0).trans rfl;have hcz8_1:w6.cell? ⟨gb101,1,none⟩=some (.int .i64 a0_1):=(blk_cell BK101.out 1).trans rfl;have hfz8_0:=blk_frozen BK101.out 0;have hfz8_1:=blk_frozen BK101.out 1;have hcz9_0:w6.cell? ⟨gb102,0,none⟩=some (.int .i64 a1_0):=(blk_cell BK102.out 0).trans rfl;have hcz9_1:w6.cell? ⟨gb102,1,none⟩=some (.int .i64 a1_1):=(blk_cell BK102.out 1).trans rfl;have hfz9_0:=blk_frozen BK102.out 0;have hfz9_1:=blk_frozen BK102.out 1))
      go_ret
      exact⟨by first|rfl|(simp[errW_none,errW_some]<;>rfl)|(simp[*,errW_none,errW_some]<;>rfl),by repeat(first|(with_reducible first|exact HB.out|apply below_alloc|apply pw_below_drewN|apply below_drew1|refine below_set ?_ GE101.out|refine below_set ?_ GE102.out)|exact HB.out)⟩
    · rw[if_neg c4]at H
      have c4b0:(a0_1==a1_1)=false:=beq_eq_false_iff_ne.mpr c4;have c4b1:(a0_1 !=a1_1)=true:=bne_iff_ne.mpr c4;obtain rfl:=Option.some.inj H;go_enter Tryz.func54,Tryz.ntmps54
      go_wp2_with (first|((with_reducible refine gate_dst (N:=2) rfl ?_);refine box_event ?hg (N:=2) ?hd (cs:= #[.int .i64 a0_0,.int .i64 a0_1]) (t:=37) ?hr ?_;(case hd=>rfl);(case hg=>rfl);(case hr=>first|(go_simp;done)|(go_simp;rfl));intro gb101 hg w10 hbox hb;have n0_:=Aside0.mk (below_step (by repeat(first|(with_reducible first|exact HB.out|apply below_alloc|apply pw_below_drewN|apply below_drew1)|exact HB.out)) hb);have n1_:=Aside0.mk (hbox);have n2_:=Aside0.mk ((by rw[hg];exact(below_size (by repeat(first|(with_reducible first|exact HB.out|apply below_alloc|apply pw_below_drewN|apply below_drew1)|exact HB.out))):w.heap.size≤gb101));have n3_:=Aside0.mk ((by rw[hg];exact(below_size (by repeat(first|(with_reducible first|exact HB.out|apply below_alloc|apply pw_below_drewN|apply below_drew1)|exact HB.out))):w.heap.size≤gb101));clear HB;have HB:=n0_;have BK101:=n1_;have GW101:=n2_;have GE101:=n3_;clear n0_ n1_ n2_ n3_;clear hb hbox hg)|((with_reducible refine gate_dst (N:=3) rfl ?_);refine box_event ?hg (N:=3) ?hd (cs:= #[.int .i64 a1_0,.int .i64 a1_1]) (t:=37) ?hr ?_;(case hd=>rfl);(case hg=>rfl);(case hr=>first|(go_simp;done)|(go_simp;rfl));intro gb102 hg w11 hbox hb;have n0_:=Aside0.mk (blk_below (g:=gb101) (o:=.cells #[.int .i64 a0_0,.int .i64 a0_1] 37 (0,0)) (by(with_reducible repeat(first|refine blk_drewN ?_ _|refine blk_drew ?_|refine blk_alloc ?_ _));exact BK101.out) hb);have n1_:=Aside0.mk (below_step (by repeat(first|(with_reducible first|exact HB.out|apply below_alloc|apply pw_below_drewN|apply below_drew1|refine below_set ?_ GE101.out)|exact HB.out)) hb);have n2_:=Aside0.mk (hbox);have n3_:=Aside0.mk ((by rw[hg];exact(below_size (by repeat(first|(with_reducible first|exact HB.out|apply below_alloc|apply pw_below_drewN|apply below_drew1|refine below_set ?_ GE101.out)|exact HB.out))):w.heap.size≤gb102));have n4_:=Aside0.mk ((by rw[hg];exact(below_size (by repeat(first|(with_reducible first|exact HB.out|apply below_alloc|apply pw_below_drewN|apply below_drew1|refine below_set ?_ GE101.out)|exact HB.out))):w.heap.size≤gb102));have n5_:=Aside0.mk ((by rw[hg];exact Nat.ne_of_lt (blk_lt (g:=gb101) (o:=.cells #[.int .i64 a0_0,.int .i64 a0_1] 37 (0,0)) (by(with_reducible repeat(first|refine blk_drewN ?_ _|refine blk_drew ?_|refine blk_alloc ?_ _));exact BK101.out)):gb101≠gb102));have n6_:=Aside0.mk ((by rw[hg];exact Nat.ne_of_gt (blk_lt (g:=gb101) (o:=.cells #[.int .i64 a0_0,.int .i64 a0_1] 37 (0,0)) (by(with_reducible repeat(first|refine blk_drewN ?_ _|refine blk_drew ?_|refine blk_alloc ?_ _));exact BK101.out)):gb102≠gb101));clear BK101;clear HB;have BK101:=n0_;have HB:=n1_;have BK102:=n2_;have GW102:=n3_;have GE102:=n4_;have NB101_102:=n5_;have NB102_101:=n6_;clear n0_ n1_ n2_ n3_ n4_ n5_ n6_;clear hb hbox hg;have hnb12:=NB101_102.out;have hnc12:=NB102_101.out;have hcz13_0:w11.cell? ⟨gb101,0,none⟩=some (.int .i64 a0_0):=(blk_cell BK101.out 0).trans rfl;have hcz13_1:w11.cell? ⟨gb101,1,none⟩=some (.int .i64 a0_1):=(blk_cell BK101.out 1).trans rfl;have hfz13_0:=blk_frozen BK101.out 0;have hfz13_1:=blk_frozen BK101.out 1;have hcz14_0:w11.cell? ⟨gb102,0,none⟩=some (.int .i64 a1_0):=(blk_cell BK102.out 0).trans rfl;have hcz14_1:w11.cell? ⟨gb102,1,none⟩=some (.int .i64 a1_1):=(blk_cell BK102.out 1).trans rfl;have hfz14_0:=blk_frozen BK102.out 0;have hfz14_1:=blk_frozen BK102.out 1))
      go_ret
      exact⟨by first|rfl|(simp[errW_none,errW_some]<;>rfl)|(simp[*,errW_none,errW_some]<;>rfl),by repeat(first|(with_reducible first|exact HB.out|apply below_alloc|apply pw_below_drewN|apply below_drew1|refine below_set ?_ GE101.out|refine below_set ?_ GE102.out)|exact HB.out)⟩
  · rw[if_neg c3]at H
    have c3b0:(a0_0==a1_0)=false:=beq_eq_false_iff_ne.mpr c3;have c3b1:(a0_0 !=a1_0)=true:=bne_iff_ne.mpr c3;obtain rfl:=Option.some.inj H;go_enter Tryz.func54,Tryz.ntmps54
    go_wp2_with (first|((with_reducible refine gate_dst (N:=2) rfl ?_);refine box_event ?hg (N:=2) ?hd (cs:= #[.int .i64 a0_0,.int .i64 a0_1]) (t:=37) ?hr ?_;(case hd=>rfl);(case hg=>rfl);(case hr=>first|(go_simp;done)|(go_simp;rfl));intro gb101 hg w15 hbox hb;have n0_:=Aside0.mk (below_step (by repeat(first|(with_reducible first|exact HB.out|apply below_alloc|apply pw_below_drewN|apply below_drew1)|exact HB.out)) hb);have n1_:=Aside0.mk (hbox);have n2_:=Aside0.mk ((by rw[hg];exact(below_size (by repeat(first|(with_reducible first|exact HB.out|apply below_alloc|apply pw_below_drewN|apply below_drew1)|exact HB.out))):w.heap.size≤gb101));have n3_:=Aside0.mk ((by rw[hg];exact(below_size (by repeat(first|(with_reducible first|exact HB.out|apply below_alloc|apply pw_below_drewN|apply below_drew1)|exact HB.out))):w.heap.size≤gb101));clear HB;have HB:=n0_;have BK101:=n1_;have GW101:=n2_;have GE101:=n3_;clear n0_ n1_ n2_ n3_;clear hb hbox hg)|((with_reducible refine gate_dst (N:=3) rfl ?_);refine box_event ?hg (N:=3) ?hd (cs:= #[.int .i64 a1_0,.int .i64 a1_1]) (t:=37) ?hr ?_;(case hd=>rfl);(case hg=>rfl);(case hr=>first|(go_simp;done)|(go_simp;rfl));intro gb102 hg w16 hbox hb;have n0_:=Aside0.mk (blk_below (g:=gb101) (o:=.cells #[.int .i64 a0_0,.int .i64 a0_1] 37 (0,0)) (by(with_reducible repeat(first|refine blk_drewN ?_ _|refine blk_drew ?_|refine blk_alloc ?_ _));exact BK101.out) hb);have n1_:=Aside0.mk (below_step (by repeat(first|(with_reducible first|exact HB.out|apply below_alloc|apply pw_below_drewN|apply below_drew1|refine below_set ?_ GE101.out)|exact HB.out)) hb);have n2_:=Aside0.mk (hbox);have n3_:=Aside0.mk ((by rw[hg];exact(below_size (by repeat(first|(with_reducible first|exact HB.out|apply below_alloc|apply pw_below_drewN|apply below_drew1|refine below_set ?_ GE101.out)|exact HB.out))):w.heap.size≤gb102));have n4_:=Aside0.mk ((by rw[hg];exact(below_size (by repeat(first|(with_reducible first|exact HB.out|apply below_alloc|apply pw_below_drewN|apply below_drew1|refine below_set ?_ GE101.out)|exact HB.out))):w.heap.size≤gb102));have n5_:=Aside0.mk ((by rw[hg];exact Nat.ne_of_lt (blk_lt (g:=gb101) (o:=.cells #[.int .i64 a0_0,.int .i64 a0_1] 37 (0,0)) (by(with_reducible repeat(first|refine blk_drewN ?_ _|refine blk_drew ?_|refine blk_alloc ?_ _));exact BK101.out)):gb101≠gb102));have n6_:=Aside0.mk ((by rw[hg];exact Nat.ne_of_gt (blk_lt (g:=gb101) (o:=.cells #[.int .i64 a0_0,.int .i64 a0_1] 37 (0,0)) (by(with_reducible repeat(first|refine blk_drewN ?_ _|refine blk_drew ?_|refine blk_alloc ?_ _));exact BK101.out)):gb102≠gb101));clear BK101;clear HB;have BK101:=n0_;have HB:=n1_;have BK102:=n2_;have GW102:=n3_;have GE102:=n4_;have NB101_102:=n5_;have NB102_101:=n6_;clear n0_ n1_ n2_ n3_ n4_ n5_ n6_;clear hb hbox hg;have hnb17:=NB101_102.out;have hnc17:=NB102_101.out;have hcz18_0:w16.cell? ⟨gb101,0,none⟩=some (.int .i64 a0_0):=(blk_cell BK101.out 0).trans rfl;have hcz18_1:w16.cell? ⟨gb101,1,none⟩=some (.int .i64 a0_1):=(blk_cell BK101.out 1).trans rfl;have hfz18_0:=blk_frozen BK101.out 0;have hfz18_1:=blk_frozen BK101.out 1;have hcz19_0:w16.cell? ⟨gb102,0,none⟩=some (.int .i64 a1_0):=(blk_cell BK102.out 0).trans rfl;have hcz19_1:w16.cell? ⟨gb102,1,none⟩=some (.int .i64 a1_1):=(blk_cell BK102.out 1).trans rfl;have hfz19_0:=blk_frozen BK102.out 0;have hfz19_1:=blk_frozen BK102.out 1))
    go_ret
    exact⟨by first|rfl|(simp[errW_none,errW_some]<;>rfl)|(simp[*,errW_none,errW_some]<;>rfl),by repeat(first|(with_reducible first|exact HB.out|apply below_alloc|apply pw_below_drewN|apply below_drew1|refine below_set ?_ GE101.out|refine below_set ?_ GE102.out)|exact HB.out)⟩
def laws_eqOp.f (a0_0:Int) (a0_1:Int) (a0_2:Int) (a0_3:Int) (a0_4:Int) (a0_5:Int) (a1_0:Int) (a1_1:Int) (a1_2:Int) (a1_3:Int) (a1_4:Int) (a1_5:Int):Option (Bool):=if a0_0=a1_0 then(if a0_1=a1_1 then(if a0_2=a1_2 then(if a0_3=a1_3 then((laws_eqVal.f a0_4 a0_5 a1_4 a1_5).bind fun t105=>(if t105=true then(some true)else(some false)))else(some false))else(some false))else(some false))else(some false)
theorem laws_eqOp.calls (a0_0:Int) (a0_1:Int) (a0_2:Int) (a0_3:Int) (a0_4:Int) (a0_5:Int) (a1_0:Int) (a1_1:Int) (a1_2:Int) (a1_3:Int) (a1_4:Int) (a1_5:Int) (r:Bool) (w:World) (h:laws_eqOp.f a0_0 a0_1 a0_2 a0_3 a0_4 a0_5 a1_0 a1_1 a1_2 a1_3 a1_4 a1_5=some r):
    Calls Tryz.prog 23 #[.agg #[.int .i64 a0_0,.int .i64 a0_1,.int .i64 a0_2,.int .i64 a0_3,.int .i64 a0_4,.int .i64 a0_5],.agg #[.int .i64 a1_0,.int .i64 a1_1,.int .i64 a1_2,.int .i64 a1_3,.int .i64 a1_4,.int .i64 a1_5]] w fun e w'=>e= .returned (.bool r)∧Below w.heap.size w w':=by
  have hu39:=Tryz.underlying39;have hu37:=Tryz.underlying37;have HB:=Aside0.mk (Below.refl w.heap.size w);have H:(if a0_0=a1_0 then(if a0_1=a1_1 then(if a0_2=a1_2 then(if a0_3=a1_3 then((laws_eqVal.f a0_4 a0_5 a1_4 a1_5).bind fun t105=>(if t105=true then(some true)else(some false)))else(some false))else(some false))else(some false))else(some false))=some r:=h
  clear h;by_cases c3:a0_0=a1_0
  · rw[if_pos c3]at H
    have c3b0:(a0_0==a1_0)=true:=beq_iff_eq.mpr c3;have c3b1:(a0_0 !=a1_0)=false:=bne_eq_false_iff_eq.mpr c3;clear c3;by_cases c4:a0_1=a1_1
    · rw[if_pos c4]at H
      have c4b0:(a0_1==a1_1)=true:=beq_iff_eq.mpr c4;have c4b1:(a0_1 !=a1_1)=false:=bne_eq_false_iff_eq.mpr c4;clear c4;by_cases c5:a0_2=a1_2
      · rw[if_pos c5]at H
        have c5b0:(a0_2==a1_2)=true:=beq_iff_eq.mpr c5;have c5b1:(a0_2 !=a1_2)=false:=bne_eq_false_iff_eq.mpr c5;clear c5;by_cases c6:a0_3=a1_3
        · rw[if_pos c6]at H
          have c6b0:(a0_3==a1_3)=true:=beq_iff_eq.mpr c6;have c6b1:(a0_3 !=a1_3)=false:=bne_eq_false_iff_eq.mpr c6;clear c6;replace H:=Option.bind_eq_some_iff.mp H;obtain⟨t105,A70,H⟩:=H;replace H:(if t105=true then(some true)else(some false))=some r:=H
          have A7:=Aside0.mk A70;clear A70;by_cases c8:t105=true
          · subst c8
            have H1:(some true)=some r:=by rw[if_pos rfl]at H;exact H
            clear H;have H:=H1;clear H1;obtain rfl:=Option.some.inj H;go_enter Tryz.func23,Tryz.ntmps23
            go_wp2_with (first|((with_reducible refine gate_dst (N:=2) rfl ?_);refine box_event ?hg (N:=2) ?hd (cs:= #[.int .i64 a0_0,.int .i64 a0_1,.int .i64 a0_2,.int .i64 a0_3,.int .i64 a0_4,.int .i64 a0_5]) (t:=39) ?hr ?_;(case hd=>rfl);(case hg=>rfl);(case hr=>first|(go_simp;done)|(go_simp;rfl));intro gb103 hg w9 hbox hb;have n0_:=Aside0.mk (below_step (by repeat(first|(with_reducible first|exact HB.out|apply below_alloc|apply pw_below_drewN|apply below_drew1)|exact HB.out)) hb);have n1_:=Aside0.mk (hbox);have n2_:=Aside0.mk ((by rw[hg];exact(below_size (by repeat(first|(with_reducible first|exact HB.out|apply below_alloc|apply pw_below_drewN|apply below_drew1)|exact HB.out))):w.heap.size≤gb103));have n3_:=Aside0.mk ((by rw[hg];exact(below_size (by repeat(first|(with_reducible first|exact HB.out|apply below_alloc|apply pw_below_drewN|apply below_drew1)|exact HB.out))):w.heap.size≤gb103));clear HB;have HB:=n0_;have BK103:=n1_;have GW103:=n2_;have GE103:=n3_;clear n0_ n1_ n2_ n3_;clear hb hbox hg)|((with_reducible refine gate_dst (N:=3) rfl ?_);refine box_event ?hg (N:=3) ?hd (cs:= #[.int .i64 a1_0,.int .i64 a1_1,.int .i64 a1_2,.int .i64 a1_3,.int .i64 a1_4,.int .i64 a1_5]) (t:=39) ?hr ?_;(case hd=>rfl);(case hg=>rfl);(case hr=>first|(go_simp;done)|(go_simp;rfl));intro gb104 hg w10 hbox hb;have n0_:=Aside0.mk (blk_below (g:=gb103) (o:=.cells #[.int .i64 a0_0,.int .i64 a0_1,.int .i64 a0_2,.int .i64 a0_3,.int .i64 a0_4,.int .i64 a0_5] 39 (0,0)) (by(with_reducible repeat(first|refine blk_drewN ?_ _|refine blk_drew ?_|refine blk_alloc ?_ _));exact BK103.out) hb);have n1_:=Aside0.mk (below_step (by repeat(first|(with_reducible first|exact HB.out|apply below_alloc|apply pw_below_drewN|apply below_drew1|refine below_set ?_ GE103.out)|exact HB.out)) hb);have n2_:=Aside0.mk (hbox);have n3_:=Aside0.mk ((by rw[hg];exact(below_size (by repeat(first|(with_reducible first|exact HB.out|apply below_alloc|apply pw_below_drewN|apply below_drew1|refine below_set ?_ GE103.out)|exact HB.out))):w.heap.size≤gb104));have n4_:=Aside0.mk ((by rw[hg];exact(below_size (by repeat(first|(with_reducible first|exact HB.out|apply below_alloc|apply pw_below_drewN|apply below_drew1|refine below_set ?_ GE103.out)|exact HB.out))):w.heap.size≤gb104));have n5_:=Aside0.mk ((by rw[hg];exact Nat.ne_of_lt (blk_lt (g:=gb103) (o:=.cells #[.int .i64 a0_0,.int .i64 a0_1,.int .i64 a0_2,.int .i64 a0_3,.int .i64 a0_4,.int .i64 a0_5] 39 (0,0)) (by(with_reducible repeat(first|refine blk_drewN ?_ _|refine blk_drew ?_|refine blk_alloc ?_ _));exact BK103.out)):gb103≠gb104));have n6_:=Aside0.mk ((by rw[hg];exact Nat.ne_of_gt (blk_lt (g:=gb103) (o:=.cells #[.int .i64 a0_0,.int .i64 a0_1,.int .i64 a0_2,.int .i64 a0_3,.int .i64 a0_4,.int .i64 a0_5] 39 (0,0)) (by(with_reducible repeat(first|refine blk_drewN ?_ _|refine blk_drew ?_|refine blk_alloc ?_ _));exact BK103.out)):gb104≠gb103));clear BK103;clear HB;have BK103:=n0_;have HB:=n1_;have BK104:=n2_;have GW104:=n3_;have GE104:=n4_;have NB103_104:=n5_;have NB104_103:=n6_;clear n0_ n1_ n2_ n3_ n4_ n5_ n6_;clear hb hbox hg;have hnb11:=NB103_104.out;have hnc11:=NB104_103.out;have hcz12_0:w10.cell? ⟨gb103,0,none⟩=some (.int .i64 a0_0):=(blk_cell BK103.out 0).trans rfl;have hcz12_1:w10.cell? ⟨gb103,1,none⟩=some (.int .i64 a0_1):=(blk_cell BK103.out 1).trans rfl;have hcz12_2:w10.cell? ⟨gb103,2,none⟩=some (.int .i64 a0_2):=(blk_cell BK103.out 2).trans rfl;have hcz12_3:w10.cell? ⟨gb103,3,none⟩=some (.int .i64 a0_3):=(blk_cell BK103.out 3).trans rfl;have hcz12_4:w10.cell? ⟨gb103,4,none⟩=some (.int .i64 a0_4):=(blk_cell BK103.out 4).trans rfl;have hcz12_5:w10.cell? ⟨gb103,5,none⟩=some (.int .i64 a0_5):=(blk_cell BK103.out 5).trans rfl;have hfz12_0:=blk_frozen BK103.out 0;have hfz12_1:=blk_frozen BK103.out 1;have hfz12_2:=blk_frozen BK103.out 2;have hfz12_3:=blk_frozen BK103.out 3;have hfz12_4:=blk_frozen BK103.out 4;have hfz12_5:=blk_frozen BK103.out 5;have hcz13_0:w10.cell? ⟨gb104,0,none⟩=some (.int .i64 a1_0):=(blk_cell BK104.out 0).trans rfl;have hcz13_1:w10.cell? ⟨gb104,1,none⟩=some (.int .i64 a1_1):=(blk_cell BK104.out 1).trans rfl;have hcz13_2:w10.cell? ⟨gb104,2,none⟩=some (.int .i64 a1_2):=(blk_cell BK104.out 2).trans rfl;have hcz13_3:w10.cell? ⟨gb104,3,none⟩=some (.int .i64 a1_3):=(blk_cell BK104.out 3).trans rfl;have hcz13_4:w10.cell? ⟨gb104,4,none⟩=some (.int .i64 a1_4):=(blk_cell BK104.out 4).trans rfl;have hcz13_5:w10.cell? ⟨gb104,5,none⟩=some (.int .i64 a1_5):=(blk_cell BK104.out 5).trans rfl;have hfz13_0:=blk_frozen BK104.out 0;have hfz13_1:=blk_frozen BK104.out 1;have hfz13_2:=blk_frozen BK104.out 2;have hfz13_3:=blk_frozen BK104.out 3;have hfz13_4:=blk_frozen BK104.out 4;have hfz13_5:=blk_frozen BK104.out 5)|((with_reducible refine gate_callee (f:=54) rfl ?_);refine goesL_ (some 29) rfl rfl Tryz.func54 (by kernel_rfl) rfl #[.agg #[.int .i64 a0_4,.int .i64 a0_5],.agg #[.int .i64 a1_4,.int .i64 a1_5]] rfl (by(try simp only[List.map_toArray,List.map_cons,List.map_nil]);first|done|rfl|(simp only[List.length_drop,List.length_take];rfl)) ?_;(with_reducible refine(laws_eqVal.calls a0_4 a0_5 a1_4 a1_5 true _ A7.out).mono ?_);rintro e w14 ⟨rfl,hb⟩;refine⟨_,rfl,?_⟩;have n0_:=Aside0.mk (blk_below (g:=gb103) (o:=.cells #[.int .i64 a0_0,.int .i64 a0_1,.int .i64 a0_2,.int .i64 a0_3,.int .i64 a0_4,.int .i64 a0_5] 39 (0,0)) (by(with_reducible repeat(first|refine blk_drewN ?_ _|refine blk_drew ?_|refine blk_alloc ?_ _));exact BK103.out) hb);have n1_:=Aside0.mk (blk_below (g:=gb104) (o:=.cells #[.int .i64 a1_0,.int .i64 a1_1,.int .i64 a1_2,.int .i64 a1_3,.int .i64 a1_4,.int .i64 a1_5] 39 (0,0)) (by(with_reducible repeat(first|refine blk_drewN ?_ _|refine blk_drew ?_|refine blk_alloc ?_ _));exact BK104.out) hb);have n2_:=Aside0.mk (below_step (by repeat(first|(with_reducible first|exact HB.out|apply below_alloc|apply pw_below_drewN|apply below_drew1|refine below_set ?_ GE103.out|refine below_set ?_ GE104.out)|exact HB.out)) hb);clear BK103;clear BK104;clear HB;have BK103:=n0_;have BK104:=n1_;have HB:=n2_;clear n0_ n1_ n2_;(try clear hb);(try clear hb2);(try clear hk);(try clear hi)))
            go_ret
            exact⟨by first|rfl|(simp[errW_none,errW_some]<;>rfl)|(simp[*,errW_none,errW_some]<;>rfl),by repeat(first|(with_reducible first|exact HB.out|apply below_alloc|apply pw_below_drewN|apply below_drew1|refine below_set ?_ GE103.out|refine below_set ?_ GE104.out)|exact HB.out)⟩
          · replace c8:=Bool.eq_false_iff.mpr c8
            subst c8;have H1:(some false)=some r:=by rw[if_neg (show¬(false=true) by decide)]at H;exact H
            clear H;have H:=H1;clear H1;obtain rfl:=Option.some.inj H;go_enter Tryz.func23,Tryz.ntmps23
            go_wp2_with (first|((with_reducible refine gate_dst (N:=2) rfl ?_);refine box_event ?hg (N:=2) ?hd (cs:= #[.int .i64 a0_0,.int .i64 a0_1,.int .i64 a0_2,.int .i64 a0_3,.int .i64 a0_4,.int .i64 a0_5]) (t:=39) ?hr ?_;(case hd=>rfl);(case hg=>rfl);(case hr=>first|(go_simp;done)|(go_simp;rfl));intro gb103 hg w15 hbox hb;have n0_:=Aside0.mk (below_step (by repeat(first|(with_reducible first|exact HB.out|apply below_alloc|apply pw_below_drewN|apply below_drew1)|exact HB.out)) hb);have n1_:=Aside0.mk (hbox);have n2_:=Aside0.mk ((by rw[hg];exact(below_size (by repeat(first|(with_reducible first|exact HB.out|apply below_alloc|apply pw_below_drewN|apply below_drew1)|exact HB.out))):w.heap.size≤gb103));have n3_:=Aside0.mk ((by rw[hg];exact(below_size (by repeat(first|(with_reducible first|exact HB.out|apply below_alloc|apply pw_below_drewN|apply below_drew1)|exact HB.out))):w.heap.size≤gb103));clear HB;have HB:=n0_;have BK103:=n1_;have GW103:=n2_;have GE103:=n3_;clear n0_ n1_ n2_ n3_;clear hb hbox hg)|((with_reducible refine gate_dst (N:=3) rfl ?_);refine box_event ?hg (N:=3) ?hd (cs:= #[.int .i64 a1_0,.int .i64 a1_1,.int .i64 a1_2,.int .i64 a1_3,.int .i64 a1_4,.int .i64 a1_5]) (t:=39) ?hr ?_;(case hd=>rfl);(case hg=>rfl);(case hr=>first|(go_simp;done)|(go_simp;rfl));intro gb104 hg w16 hbox hb;have n0_:=Aside0.mk (blk_below (g:=gb103) (o:=.cells #[.int .i64 a0_0,.int .i64 a0_1,.int .i64 a0_2,.int .i64 a0_3,.int .i64 a0_4,.int .i64 a0_5] 39 (0,0)) (by(with_reducible repeat(first|refine blk_drewN ?_ _|refine blk_drew ?_|refine blk_alloc ?_ _));exact BK103.out) hb);have n1_:=Aside0.mk (below_step (by repeat(first|(with_reducible first|exact HB.out|apply below_alloc|apply pw_below_drewN|apply below_drew1|refine below_set ?_ GE103.out)|exact HB.out)) hb);have n2_:=Aside0.mk (hbox);have n3_:=Aside0.mk ((by rw[hg];exact(below_size (by repeat(first|(with_reducible first|exact HB.out|apply below_alloc|apply pw_below_drewN|apply below_drew1|refine below_set ?_ GE103.out)|exact HB.out))):w.heap.size≤gb104));have n4_:=Aside0.mk ((by rw[hg];exact(below_size (by repeat(first|(with_reducible first|exact HB.out|apply below_alloc|apply pw_below_drewN|apply below_drew1|refine below_set ?_ GE103.out)|exact HB.out))):w.heap.size≤gb104));have n5_:=Aside0.mk ((by rw[hg];exact Nat.ne_of_lt (blk_lt (g:=gb103) (o:=.cells #[.int .i64 a0_0,.int .i64 a0_1,.int .i64 a0_2,.int .i64 a0_3,.int .i64 a0_4,.int .i64 a0_5] 39 (0,0)) (by(with_reducible repeat(first|refine blk_drewN ?_ _|refine blk_drew ?_|refine blk_alloc ?_ _));exact BK103.out)):gb103≠gb104));have n6_:=Aside0.mk ((by rw[hg];exact Nat.ne_of_gt (blk_lt (g:=gb103) (o:=.cells #[.int .i64 a0_0,.int .i64 a0_1,.int .i64 a0_2,.int .i64 a0_3,.int .i64 a0_4,.int .i64 a0_5] 39 (0,0)) (by(with_reducible repeat(first|refine blk_drewN ?_ _|refine blk_drew ?_|refine blk_alloc ?_ _));exact BK103.out)):gb104≠gb103));clear BK103;clear HB;have BK103:=n0_;have HB:=n1_;have BK104:=n2_;have GW104:=n3_;have GE104:=n4_;have NB103_104:=n5_;have NB104_103:=n6_;clear n0_ n1_ n2_ n3_ n4_ n5_ n6_;clear hb hbox hg;have hnb17:=NB103_104.out;have hnc17:=NB104_103.out;have hcz18_0:w16.cell? ⟨gb103,0,none⟩=some (.int .i64 a0_0):=(blk_cell BK103.out 0).trans rfl;have hcz18_1:w16.cell? ⟨gb103,1,none⟩=some (.int .i64 a0_1):=(blk_cell BK103.out 1).trans rfl;have hcz18_2:w16.cell? ⟨gb103,2,none⟩=some (.int .i64 a0_2):=(blk_cell BK103.out 2).trans rfl;have hcz18_3:w16.cell? ⟨gb103,3,none⟩=some (.int .i64 a0_3):=(blk_cell BK103.out 3).trans rfl;have hcz18_4:w16.cell? ⟨gb103,4,none⟩=some (.int .i64 a0_4):=(blk_cell BK103.out 4).trans rfl;have hcz18_5:w16.cell? ⟨gb103,5,none⟩=some (.int .i64 a0_5):=(blk_cell BK103.out 5).trans rfl;have hfz18_0:=blk_frozen BK103.out 0;have hfz18_1:=blk_frozen BK103.out 1;have hfz18_2:=blk_frozen BK103.out 2;have hfz18_3:=blk_frozen BK103.out 3;have hfz18_4:=blk_frozen BK103.out 4;have hfz18_5:=blk_frozen BK103.out 5;have hcz19_0:w16.cell? ⟨gb104,0,none⟩=some (.int .i64 a1_0):=(blk_cell BK104.out 0).trans rfl;have hcz19_1:w16.cell? ⟨gb104,1,none⟩=some (.int .i64 a1_1):=(blk_cell BK104.out 1).trans rfl;have hcz19_2:w16.cell? ⟨gb104,2,none⟩=some (.int .i64 a1_2):=(blk_cell BK104.out 2).trans rfl;have hcz19_3:w16.cell? ⟨gb104,3,none⟩=some (.int .i64 a1_3):=(blk_cell BK104.out 3).trans rfl;have hcz19_4:w16.cell? ⟨gb104,4,none⟩=some (.int .i64 a1_4):=(blk_cell BK104.out 4).trans rfl;have hcz19_5:w16.cell? ⟨gb104,5,none⟩=some (.int .i64 a1_5):=(blk_cell BK104.out 5).trans rfl;have hfz19_0:=blk_frozen BK104.out 0;have hfz19_1:=blk_frozen BK104.out 1;have hfz19_2:=blk_frozen BK104.out 2;have hfz19_3:=blk_frozen BK104.out 3;have hfz19_4:=blk_frozen BK104.out 4;have hfz19_5:=blk_frozen BK104.out 5)|((with_reducible refine gate_callee (f:=54) rfl ?_);refine goesL_ (some 29) rfl rfl Tryz.func54 (by kernel_rfl) rfl #[.agg #[.int .i64 a0_4,.int .i64 a0_5],.agg #[.int .i64 a1_4,.int .i64 a1_5]] rfl (by(try simp only[List.map_toArray,List.map_cons,List.map_nil]);first|done|rfl|(simp only[List.length_drop,List.length_take];rfl)) ?_;(with_reducible refine(laws_eqVal.calls a0_4 a0_5 a1_4 a1_5 false _ A7.out).mono ?_);rintro e w20 ⟨rfl,hb⟩;refine⟨_,rfl,?_⟩;have n0_:=Aside0.mk (blk_below (g:=gb103) (o:=.cells #[.int .i64 a0_0,.int .i64 a0_1,.int .i64 a0_2,.int .i64 a0_3,.int .i64 a0_4,.int .i64 a0_5] 39 (0,0)) (by(with_reducible repeat(first|refine blk_drewN ?_ _|refine blk_drew ?_|refine blk_alloc ?_ _));exact BK103.out) hb);have n1_:=Aside0.mk (blk_below (g:=gb104) (o:=.cells #[.int .i64 a1_0,.int .i64 a1_1,.int .i64 a1_2,.int .i64 a1_3,.int .i64 a1_4,.int .i64 a1_5] 39 (0,0)) (by(with_reducible repeat(first|refine blk_drewN ?_ _|refine blk_drew ?_|refine blk_alloc ?_ _));exact BK104.out) hb);have n2_:=Aside0.mk (below_step (by repeat(first|(with_reducible first|exact HB.out|apply below_alloc|apply pw_below_drewN|apply below_drew1|refine below_set ?_ GE103.out|refine below_set ?_ GE104.out)|exact HB.out)) hb);clear BK103;clear BK104;clear HB;have BK103:=n0_;have BK104:=n1_;have HB:=n2_;clear n0_ n1_ n2_;(try clear hb);(try clear hb2);(try clear hk);(try clear hi)))
            go_ret
            exact⟨by first|rfl|(simp[errW_none,errW_some]<;>rfl)|(simp[*,errW_none,errW_some]<;>rfl),by repeat(first|(with_reducible first|exact HB.out|apply below_alloc|apply pw_below_drewN|apply below_drew1|refine below_set ?_ GE103.out|refine below_set ?_ GE104.out)|exact HB.out)⟩
        · rw[if_neg c6]at H
          have c6b0:(a0_3==a1_3)=false:=beq_eq_false_iff_ne.mpr c6;have c6b1:(a0_3 !=a1_3)=true:=bne_iff_ne.mpr c6;obtain rfl:=Option.some.inj H;go_enter Tryz.func23,Tryz.ntmps23
          go_wp2_with (first|((with_reducible refine gate_dst (N:=2) rfl ?_);refine box_event ?hg (N:=2) ?hd (cs:= #[.int .i64 a0_0,.int .i64 a0_1,.int .i64 a0_2,.int .i64 a0_3,.int .i64 a0_4,.int .i64 a0_5]) (t:=39) ?hr ?_;(case hd=>rfl);(case hg=>rfl);(case hr=>first|(go_simp;done)|(go_simp;rfl));intro gb103 hg w21 hbox hb;have n0_:=Aside0.mk (below_step (by repeat(first|(with_reducible first|exact HB.out|apply below_alloc|apply pw_below_drewN|apply below_drew1)|exact HB.out)) hb);have n1_:=Aside0.mk (hbox);have n2_:=Aside0.mk ((by rw[hg];exact(below_size (by repeat(first|(with_reducible first|exact HB.out|apply below_alloc|apply pw_below_drewN|apply below_drew1)|exact HB.out))):w.heap.size≤gb103));have n3_:=Aside0.mk ((by rw[hg];exact(below_size (by repeat(first|(with_reducible first|exact HB.out|apply below_alloc|apply pw_below_drewN|apply below_drew1)|exact HB.out))):w.heap.size≤gb103));clear HB;have HB:=n0_;have BK103:=n1_;have GW103:=n2_;have GE103:=n3_;clear n0_ n1_ n2_ n3_;clear hb hbox hg)|((with_reducible refine gate_dst (N:=3) rfl ?_);refine box_event ?hg (N:=3) ?hd (cs:= #[.int .i64 a1_0,.int .i64 a1_1,.int .i64 a1_2,.int .i64 a1_3,.int .i64 a1_4,.int .i64 a1_5]) (t:=39) ?hr ?_;(case hd=>rfl);(case hg=>rfl);(case hr=>first|(go_simp;done)|(go_simp;rfl));intro gb104 hg w22 hbox hb;have n0_:=Aside0.mk (blk_below (g:=gb103) (o:=.cells #[.int .i64 a0_0,.int .i64 a0_1,.int .i64 a0_2,.int .i64 a0_3,.int .i64 a0_4,.int .i64 a0_5] 39 (0,0)) (by(with_reducible repeat(first|refine blk_drewN ?_ _|refine blk_drew ?_|refine blk_alloc ?_ _));exact BK103.out) hb);have n1_:=Aside0.mk (below_step (by repeat(first|(with_reducible first|exact HB.out|apply below_alloc|apply pw_below_drewN|apply below_drew1|refine below_set ?_ GE103.out)|exact HB.out)) hb);have n2_:=Aside0.mk (hbox);have n3_:=Aside0.mk ((by rw[hg];exact(below_size (by repeat(first|(with_reducible first|exact HB.out|apply below_alloc|apply pw_below_drewN|apply below_drew1|refine below_set ?_ GE103.out)|exact HB.out))):w.heap.size≤gb104));have n4_:=Aside0.mk ((by rw[hg];exact(below_size (by repeat(first|(with_reducible first|exact HB.out|apply below_alloc|apply pw_below_drewN|apply below_drew1|refine below_set ?_ GE103.out)|exact HB.out))):w.heap.size≤gb104));have n5_:=Aside0.mk ((by rw[hg];exact Nat.ne_of_lt (blk_lt (g:=gb103) (o:=.cells #[.int .i64 a0_0,.int .i64 a0_1,.int .i64 a0_2,.int .i64 a0_3,.int .i64 a0_4,.int .i64 a0_5] 39 (0,0)) (by(with_reducible repeat(first|refine blk_drewN ?_ _|refine blk_drew ?_|refine blk_alloc ?_ _));exact BK103.out)):gb103≠gb104));have n6_:=Aside0.mk ((by rw[hg];exact Nat.ne_of_gt (blk_lt (g:=gb103) (o:=.cells #[.int .i64 a0_0,.int .i64 a0_1,.int .i64 a0_2,.int .i64 a0_3,.int .i64 a0_4,.int .i64 a0_5] 39 (0,0)) (by(with_reducible repeat(first|refine blk_drewN ?_ _|refine blk_drew ?_|refine blk_alloc ?_ _));exact BK103.out)):gb104≠gb103));clear BK103;clear HB;have BK103:=n0_;have HB:=n1_;have BK104:=n2_;have GW104:=n3_;have GE104:=n4_;have NB103_104:=n5_;have NB104_103:=n6_;clear n0_ n1_ n2_ n3_ n4_ n5_ n6_;clear hb hbox hg;have hnb23:=NB103_104.out;have hnc23:=NB104_103.out;have hcz24_0:w22.cell? ⟨gb103,0,none⟩=some (.int .i64 a0_0):=(blk_cell BK103.out 0).trans rfl;have hcz24_1:w22.cell? ⟨gb103,1,none⟩=some (.int .i64 a0_1):=(blk_cell BK103.out 1).trans rfl;have hcz24_2:w22.cell? ⟨gb103,2,none⟩=some (.int .i64 a0_2):=(blk_cell BK103.out 2).trans rfl;have hcz24_3:w22.cell? ⟨gb103,3,none⟩=some (.int .i64 a0_3):=(blk_cell BK103.out 3).trans rfl;have hcz24_4:w22.cell? ⟨gb103,4,none⟩=some (.int .i64 a0_4):=(blk_cell BK103.out 4).trans rfl;have hcz24_5:w22.cell? ⟨gb103,5,none⟩=some (.int .i64 a0_5):=(blk_cell BK103.out 5).trans rfl;have hfz24_0:=blk_frozen BK103.out 0;have hfz24_1:=blk_frozen BK103.out 1;have hfz24_2:=blk_frozen BK103.out 2;have hfz24_3:=blk_frozen BK103.out 3;have hfz24_4:=blk_frozen BK103.out 4;have hfz24_5:=blk_frozen BK103.out 5;have hcz25_0:w22.cell? ⟨gb104,0,none⟩=some (.int .i64 a1_0):=(blk_cell BK104.out 0).trans rfl;have hcz25_1:w22.cell? ⟨gb104,1,none⟩=some (.int .i64 a1_1):=(blk_cell BK104.out 1).trans rfl;have hcz25_2:w22.cell? ⟨gb104,2,none⟩=some (.int .i64 a1_2):=(blk_cell BK104.out 2).trans rfl;have hcz25_3:w22.cell? ⟨gb104,3,none⟩=some (.int .i64 a1_3):=(blk_cell BK104.out 3).trans rfl;have hcz25_4:w22.cell? ⟨gb104,4,none⟩=some (.int .i64 a1_4):=(blk_cell BK104.out 4).trans rfl;have hcz25_5:w22.cell? ⟨gb104,5,none⟩=some (.int .i64 a1_5):=(blk_cell BK104.out 5).trans rfl;have hfz25_0:=blk_frozen BK104.out 0;have hfz25_1:=blk_frozen BK104.out 1;have hfz25_2:=blk_frozen BK104.out 2;have hfz25_3:=blk_frozen BK104.out 3;have hfz25_4:=blk_frozen BK104.out 4;have hfz25_5:=blk_frozen BK104.out 5))
          go_ret
          exact⟨by first|rfl|(simp[errW_none,errW_some]<;>rfl)|(simp[*,errW_none,errW_some]<;>rfl),by repeat(first|(with_reducible first|exact HB.out|apply below_alloc|apply pw_below_drewN|apply below_drew1|refine below_set ?_ GE103.out|refine below_set ?_ GE104.out)|exact HB.out)⟩
      · rw[if_neg c5]at H
        have c5b0:(a0_2==a1_2)=false:=beq_eq_false_iff_ne.mpr c5;have c5b1:(a0_2 !=a1_2)=true:=bne_iff_ne.mpr c5;obtain rfl:=Option.some.inj H;go_enter Tryz.func23,Tryz.ntmps23
        go_wp2_with (first|((with_reducible refine gate_dst (N:=2) rfl ?_);refine box_event ?hg (N:=2) ?hd (cs:= #[.int .i64 a0_0,.int .i64 a0_1,.int .i64 a0_2,.int .i64 a0_3,.int .i64 a0_4,.int .i64 a0_5]) (t:=39) ?hr ?_;(case hd=>rfl);(case hg=>rfl);(case hr=>first|(go_simp;done)|(go_simp;rfl));intro gb103 hg w26 hbox hb;have n0_:=Aside0.mk (below_step (by repeat(first|(with_reducible first|exact HB.out|apply below_alloc|apply pw_below_drewN|apply below_drew1)|exact HB.out)) hb);have n1_:=Aside0.mk (hbox);have n2_:=Aside0.mk ((by rw[hg];exact(below_size (by repeat(first|(with_reducible first|exact HB.out|apply below_alloc|apply pw_below_drewN|apply below_drew1)|exact HB.out))):w.heap.size≤gb103));have n3_:=Aside0.mk ((by rw[hg];exact(below_size (by repeat(first|(with_reducible first|exact HB.out|apply below_alloc|apply pw_below_drewN|apply below_drew1)|exact HB.out))):w.heap.size≤gb103));clear HB;have HB:=n0_;have BK103:=n1_;have GW103:=n2_;have GE103:=n3_;clear n0_ n1_ n2_ n3_;clear hb hbox hg)|((with_reducible refine gate_dst (N:=3) rfl ?_);refine box_event ?hg (N:=3) ?hd (cs:= #[.int .i64 a1_0,.int .i64 a1_1,.int .i64 a1_2,.int .i64 a1_3,.int .i64 a1_4,.int .i64 a1_5]) (t:=39) ?hr ?_;(case hd=>rfl);(case hg=>rfl);(case hr=>first|(go_simp;done)|(go_simp;rfl));intro gb104 hg w27 hbox hb;have n0_:=Aside0.mk (blk_below (g:=gb103) (o:=.cells #[.int .i64 a0_0,.int .i64 a0_1,.int .i64 a0_2,.int .i64 a0_3,.int .i64 a0_4,.int .i64 a0_5] 39 (0,0)) (by(with_reducible repeat(first|refine blk_drewN ?_ _|refine blk_drew ?_|refine blk_alloc ?_ _));exact BK103.out) hb);have n1_:=Aside0.mk (below_step (by repeat(first|(with_reducible first|exact HB.out|apply below_alloc|apply pw_below_drewN|apply below_drew1|refine below_set ?_ GE103.out)|exact HB.out)) hb);have n2_:=Aside0.mk (hbox);have n3_:=Aside0.mk ((by rw[hg];exact(below_size (by repeat(first|(with_reducible first|exact HB.out|apply below_alloc|apply pw_below_drewN|apply below_drew1|refine below_set ?_ GE103.out)|exact HB.out))):w.heap.size≤gb104));have n4_:=Aside0.mk ((by rw[hg];exact(below_size (by repeat(first|(with_reducible first|exact HB.out|apply below_alloc|apply pw_below_drewN|apply below_drew1|refine below_set ?_ GE103.out)|exact HB.out))):w.heap.size≤gb104));have n5_:=Aside0.mk ((by rw[hg];exact Nat.ne_of_lt (blk_lt (g:=gb103) (o:=.cells #[.int .i64 a0_0,.int .i64 a0_1,.int .i64 a0_2,.int .i64 a0_3,.int .i64 a0_4,.int .i64 a0_5] 39 (0,0)) (by(with_reducible repeat(first|refine blk_drewN ?_ _|refine blk_drew ?_|refine blk_alloc ?_ _));exact BK103.out)):gb103≠gb104));have n6_:=Aside0.mk ((by rw[hg];exact Nat.ne_of_gt (blk_lt (g:=gb103) (o:=.cells #[.int .i64 a0_0,.int .i64 a0_1,.int .i64 a0_2,.int .i64 a0_3,.int .i64 a0_4,.int .i64 a0_5] 39 (0,0)) (by(with_reducible repeat(first|refine blk_drewN ?_ _|refine blk_drew ?_|refine blk_alloc ?_ _));exact BK103.out)):gb104≠gb103));clear BK103;clear HB;have BK103:=n0_;have HB:=n1_;have BK104:=n2_;have GW104:=n3_;have GE104:=n4_;have NB103_104:=n5_;have NB104_103:=n6_;clear n0_ n1_ n2_ n3_ n4_ n5_ n6_;clear hb hbox hg;have hnb28:=NB103_104.out;have hnc28:=NB104_103.out;have hcz29_0:w27.cell? ⟨gb103,0,none⟩=some (.int .i64 a0_0):=(blk_cell BK103.out 0).trans rfl;have hcz29_1:w27.cell? ⟨gb103,1,none⟩=some (.int .i64 a0_1):=(blk_cell BK103.out 1).trans rfl;have hcz29_2:w27.cell? ⟨gb103,2,none⟩=some (.int .i64 a0_2):=(blk_cell BK103.out 2).trans rfl;have hcz29_3:w27.cell? ⟨gb103,3,none⟩=some (.int .i64 a0_3):=(blk_cell BK103.out 3).trans rfl;have hcz29_4:w27.cell? ⟨gb103,4,none⟩=some (.int .i64 a0_4):=(blk_cell BK103.out 4).trans rfl;have hcz29_5:w27.cell? ⟨gb103,5,none⟩=some (.int .i64 a0_5):=(blk_cell BK103.out 5).trans rfl;have hfz29_0:=blk_frozen BK103.out 0;have hfz29_1:=blk_frozen BK103.out 1;have hfz29_2:=blk_frozen BK103.out 2;have hfz29_3:=blk_frozen BK103.out 3;have hfz29_4:=blk_frozen BK103.out 4;have hfz29_5:=blk_frozen BK103.out 5;have hcz30_0:w27.cell? ⟨gb104,0,none⟩=some (.int .i64 a1_0):=(blk_cell BK104.out 0).trans rfl;have hcz30_1:w27.cell? ⟨gb104,1,none⟩=some (.int .i64 a1_1):=(blk_cell BK104.out 1).trans rfl;have hcz30_2:w27.cell? ⟨gb104,2,none⟩=some (.int .i64 a1_2):=(blk_cell BK104.out 2).trans rfl;have hcz30_3:w27.cell? ⟨gb104,3,none⟩=some (.int .i64 a1_3):=(blk_cell BK104.out 3).trans rfl;have hcz30_4:w27.cell? ⟨gb104,4,none⟩=some (.int .i64 a1_4):=(blk_cell BK104.out 4).trans rfl;have hcz30_5:w27.cell? ⟨gb104,5,none⟩=some (.int .i64 a1_5):=(blk_cell BK104.out 5).trans rfl;have hfz30_0:=blk_frozen BK104.out 0;have hfz30_1:=blk_frozen BK104.out 1;have hfz30_2:=blk_frozen BK104.out 2;have hfz30_3:=blk_frozen BK104.out 3;have hfz30_4:=blk_frozen BK104.out 4;have hfz30_5:=blk_frozen BK104.out 5))
        go_ret
        exact⟨by first|rfl|(simp[errW_none,errW_some]<;>rfl)|(simp[*,errW_none,errW_some]<;>rfl),by repeat(first|(with_reducible first|exact HB.out|apply below_alloc|apply pw_below_drewN|apply below_drew1|refine below_set ?_ GE103.out|refine below_set ?_ GE104.out)|exact HB.out)⟩
    · rw[if_neg c4]at H
      have c4b0:(a0_1==a1_1)=false:=beq_eq_false_iff_ne.mpr c4;have c4b1:(a0_1 !=a1_1)=true:=bne_iff_ne.mpr c4;obtain rfl:=Option.some.inj H;go_enter Tryz.func23,Tryz.ntmps23
      go_wp2_with (first|((with_reducible refine gate_dst (N:=2) rfl ?_);refine box_event ?hg (N:=2) ?hd (cs:= #[.int .i64 a0_0,.int .i64 a0_1,.int .i64 a0_2,.int .i64 a0_3,.int .i64 a0_4,.int .i64 a0_5]) (t:=39) ?hr ?_;(case hd=>rfl);(case hg=>rfl);(case hr=>first|(go_simp;done)|(go_simp;rfl));intro gb103 hg w31 hbox hb;have n0_:=Aside0.mk (below_step (by repeat(first|(with_reducible first|exact HB.out|apply below_alloc|apply pw_below_drewN|apply below_drew1)|exact HB.out)) hb);have n1_:=Aside0.mk (hbox);have n2_:=Aside0.mk ((by rw[hg];exact(below_size (by repeat(first|(with_reducible first|exact HB.out|apply below_alloc|apply pw_below_drewN|apply below_drew1)|exact HB.out))):w.heap.size≤gb103));have n3_:=Aside0.mk ((by rw[hg];exact(below_size (by repeat(first|(with_reducible first|exact HB.out|apply below_alloc|apply pw_below_drewN|apply below_drew1)|exact HB.out))):w.heap.size≤gb103));clear HB;have HB:=n0_;have BK103:=n1_;have GW103:=n2_;have GE103:=n3_;clear n0_ n1_ n2_ n3_;clear hb hbox hg)|((with_reducible refine gate_dst (N:=3) rfl ?_);refine box_event ?hg (N:=3) ?hd (cs:= #[.int .i64 a1_0,.int .i64 a1_1,.int .i64 a1_2,.int .i64 a1_3,.int .i64 a1_4,.int .i64 a1_5]) (t:=39) ?hr ?_;(case hd=>rfl);(case hg=>rfl);(case hr=>first|(go_simp;done)|(go_simp;rfl));intro gb104 hg w32 hbox hb;have n0_:=Aside0.mk (blk_below (g:=gb103) (o:=.cells #[.int .i64 a0_0,.int .i64 a0_1,.int .i64 a0_2,.int .i64 a0_3,.int .i64 a0_4,.int .i64 a0_5] 39 (0,0)) (by(with_reducible repeat(first|refine blk_drewN ?_ _|refine blk_drew ?_|refine blk_alloc ?_ _));exact BK103.out) hb);have n1_:=Aside0.mk (below_step (by repeat(first|(with_reducible first|exact HB.out|apply below_alloc|apply pw_below_drewN|apply below_drew1|refine below_set ?_ GE103.out)|exact HB.out)) hb);have n2_:=Aside0.mk (hbox);have n3_:=Aside0.mk ((by rw[hg];exact(below_size (by repeat(first|(with_reducible first|exact HB.out|apply below_alloc|apply pw_below_drewN|apply below_drew1|refine below_set ?_ GE103.out)|exact HB.out))):w.heap.size≤gb104));have n4_:=Aside0.mk ((by rw[hg];exact(below_size (by repeat(first|(with_reducible first|exact HB.out|apply below_alloc|apply pw_below_drewN|apply below_drew1|refine below_set ?_ GE103.out)|exact HB.out))):w.heap.size≤gb104));have n5_:=Aside0.mk ((by rw[hg];exact Nat.ne_of_lt (blk_lt (g:=gb103) (o:=.cells #[.int .i64 a0_0,.int .i64 a0_1,.int .i64 a0_2,.int .i64 a0_3,.int .i64 a0_4,.int .i64 a0_5] 39 (0,0)) (by(with_reducible repeat(first|refine blk_drewN ?_ _|refine blk_drew ?_|refine blk_alloc ?_ _));exact BK103.out)):gb103≠gb104));have n6_:=Aside0.mk ((by rw[hg];exact Nat.ne_of_gt (blk_lt (g:=gb103) (o:=.cells #[.int .i64 a0_0,.int .i64 a0_1,.int .i64 a0_2,.int .i64 a0_3,.int .i64 a0_4,.int .i64 a0_5] 39 (0,0)) (by(with_reducible repeat(first|refine blk_drewN ?_ _|refine blk_drew ?_|refine blk_alloc ?_ _));exact BK103.out)):gb104≠gb103));clear BK103;clear HB;have BK103:=n0_;have HB:=n1_;have BK104:=n2_;have GW104:=n3_;have GE104:=n4_;have NB103_104:=n5_;have NB104_103:=n6_;clear n0_ n1_ n2_ n3_ n4_ n5_ n6_;clear hb hbox hg;have hnb33:=NB103_104.out;have hnc33:=NB104_103.out;have hcz34_0:w32.cell? ⟨gb103,0,none⟩=some (.int .i64 a0_0):=(blk_cell BK103.out 0).trans rfl;have hcz34_1:w32.cell? ⟨gb103,1,none⟩=some (.int .i64 a0_1):=(blk_cell BK103.out 1).trans rfl;have hcz34_2:w32.cell? ⟨gb103,2,none⟩=some (.int .i64 a0_2):=(blk_cell BK103.out 2).trans rfl;have hcz34_3:w32.cell? ⟨gb103,3,none⟩=some (.int .i64 a0_3):=(blk_cell BK103.out 3).trans rfl;have hcz34_4:w32.cell? ⟨gb103,4,none⟩=some (.int .i64 a0_4):=(blk_cell BK103.out 4).trans rfl;have hcz34_5:w32.cell? ⟨gb103,5,none⟩=some (.int .i64 a0_5):=(blk_cell BK103.out 5).trans rfl;have hfz34_0:=blk_frozen BK103.out 0;have hfz34_1:=blk_frozen BK103.out 1;have hfz34_2:=blk_frozen BK103.out 2;have hfz34_3:=blk_frozen BK103.out 3;have hfz34_4:=blk_frozen BK103.out 4;have hfz34_5:=blk_frozen BK103.out 5;have hcz35_0:w32.cell? ⟨gb104,0,none⟩=some (.int .i64 a1_0):=(blk_cell BK104.out 0).trans rfl;have hcz35_1:w32.cell? ⟨gb104,1,none⟩=some (.int .i64 a1_1):=(blk_cell BK104.out 1).trans rfl;have hcz35_2:w32.cell? ⟨gb104,2,none⟩=some (.int .i64 a1_2):=(blk_cell BK104.out 2).trans rfl;have hcz35_3:w32.cell? ⟨gb104,3,none⟩=some (.int .i64 a1_3):=(blk_cell BK104.out 3).trans rfl;have hcz35_4:w32.cell? ⟨gb104,4,none⟩=some (.int .i64 a1_4):=(blk_cell BK104.out 4).trans rfl;have hcz35_5:w32.cell? ⟨gb104,5,none⟩=some (.int .i64 a1_5):=(blk_cell BK104.out 5).trans rfl;have hfz35_0:=blk_frozen BK104.out 0;have hfz35_1:=blk_frozen BK104.out 1;have hfz35_2:=blk_frozen BK104.out 2;have hfz35_3:=blk_frozen BK104.out 3;have hfz35_4:=blk_frozen BK104.out 4;have hfz35_5:=blk_frozen BK104.out 5))
      go_ret
      exact⟨by first|rfl|(simp[errW_none,errW_some]<;>rfl)|(simp[*,errW_none,errW_some]<;>rfl),by repeat(first|(with_reducible first|exact HB.out|apply below_alloc|apply pw_below_drewN|apply below_drew1|refine below_set ?_ GE103.out|refine below_set ?_ GE104.out)|exact HB.out)⟩
  · rw[if_neg c3]at H
    have c3b0:(a0_0==a1_0)=false:=beq_eq_false_iff_ne.mpr c3;have c3b1:(a0_0 !=a1_0)=true:=bne_iff_ne.mpr c3;obtain rfl:=Option.some.inj H;go_enter Tryz.func23,Tryz.ntmps23
    go_wp2_with (first|((with_reducible refine gate_dst (N:=2) rfl ?_);refine box_event ?hg (N:=2) ?hd (cs:= #[.int .i64 a0_0,.int .i64 a0_1,.int .i64 a0_2,.int .i64 a0_3,.int .i64 a0_4,.int .i64 a0_5]) (t:=39) ?hr ?_;(case hd=>rfl);(case hg=>rfl);(case hr=>first|(go_simp;done)|(go_simp;rfl));intro gb103 hg w36 hbox hb;have n0_:=Aside0.mk (below_step (by repeat(first|(with_reducible first|exact HB.out|apply below_alloc|apply pw_below_drewN|apply below_drew1)|exact HB.out)) hb);have n1_:=Aside0.mk (hbox);have n2_:=Aside0.mk ((by rw[hg];exact(below_size (by repeat(first|(with_reducible first|exact HB.out|apply below_alloc|apply pw_below_drewN|apply below_drew1)|exact HB.out))):w.heap.size≤gb103));have n3_:=Aside0.mk ((by rw[hg];exact(below_size (by repeat(first|(with_reducible first|exact HB.out|apply below_alloc|apply pw_below_drewN|apply below_drew1)|exact HB.out))):w.heap.size≤gb103));clear HB;have HB:=n0_;have BK103:=n1_;have GW103:=n2_;have GE103:=n3_;clear n0_ n1_ n2_ n3_;clear hb hbox hg)|((with_reducible refine gate_dst (N:=3) rfl ?_);refine box_event ?hg (N:=3) ?hd (cs:= #[.int .i64 a1_0,.int .i64 a1_1,.int .i64 a1_2,.int .i64 a1_3,.int .i64 a1_4,.int .i64 a1_5]) (t:=39) ?hr ?_;(case hd=>rfl);(case hg=>rfl);(case hr=>first|(go_simp;done)|(go_simp;rfl));intro gb104 hg w37 hbox hb;have n0_:=Aside0.mk (blk_below (g:=gb103) (o:=.cells #[.int .i64 a0_0,.int .i64 a0_1,.int .i64 a0_2,.int .i64 a0_3,.int .i64 a0_4,.int .i64 a0_5] 39 (0,0)) (by(with_reducible repeat(first|refine blk_drewN ?_ _|refine blk_drew ?_|refine blk_alloc ?_ _));exact BK103.out) hb);have n1_:=Aside0.mk (below_step (by repeat(first|(with_reducible first|exact HB.out|apply below_alloc|apply pw_below_drewN|apply below_drew1|refine below_set ?_ GE103.out)|exact HB.out)) hb);have n2_:=Aside0.mk (hbox);have n3_:=Aside0.mk ((by rw[hg];exact(below_size (by repeat(first|(with_reducible first|exact HB.out|apply below_alloc|apply pw_below_drewN|apply below_drew1|refine below_set ?_ GE103.out)|exact HB.out))):w.heap.size≤gb104));have n4_:=Aside0.mk ((by rw[hg];exact(below_size (by repeat(first|(with_reducible first|exact HB.out|apply below_alloc|apply pw_below_drewN|apply below_drew1|refine below_set ?_ GE103.out)|exact HB.out))):w.heap.size≤gb104));have n5_:=Aside0.mk ((by rw[hg];exact Nat.ne_of_lt (blk_lt (g:=gb103) (o:=.cells #[.int .i64 a0_0,.int .i64 a0_1,.int .i64 a0_2,.int .i64 a0_3,.int .i64 a0_4,.int .i64 a0_5] 39 (0,0)) (by(with_reducible repeat(first|refine blk_drewN ?_ _|refine blk_drew ?_|refine blk_alloc ?_ _));exact BK103.out)):gb103≠gb104));have n6_:=Aside0.mk ((by rw[hg];exact Nat.ne_of_gt (blk_lt (g:=gb103) (o:=.cells #[.int .i64 a0_0,.int .i64 a0_1,.int .i64 a0_2,.int .i64 a0_3,.int .i64 a0_4,.int .i64 a0_5] 39 (0,0)) (by(with_reducible repeat(first|refine blk_drewN ?_ _|refine blk_drew ?_|refine blk_alloc ?_ _));exact BK103.out)):gb104≠gb103));clear BK103;clear HB;have BK103:=n0_;have HB:=n1_;have BK104:=n2_;have GW104:=n3_;have GE104:=n4_;have NB103_104:=n5_;have NB104_103:=n6_;clear n0_ n1_ n2_ n3_ n4_ n5_ n6_;clear hb hbox hg;have hnb38:=NB103_104.out;have hnc38:=NB104_103.out;have hcz39_0:w37.cell? ⟨gb103,0,none⟩=some (.int .i64 a0_0):=(blk_cell BK103.out 0).trans rfl;have hcz39_1:w37.cell? ⟨gb103,1,none⟩=some (.int .i64 a0_1):=(blk_cell BK103.out 1).trans rfl;have hcz39_2:w37.cell? ⟨gb103,2,none⟩=some (.int .i64 a0_2):=(blk_cell BK103.out 2).trans rfl;have hcz39_3:w37.cell? ⟨gb103,3,none⟩=some (.int .i64 a0_3):=(blk_cell BK103.out 3).trans rfl;have hcz39_4:w37.cell? ⟨gb103,4,none⟩=some (.int .i64 a0_4):=(blk_cell BK103.out 4).trans rfl;have hcz39_5:w37.cell? ⟨gb103,5,none⟩=some (.int .i64 a0_5):=(blk_cell BK103.out 5).trans rfl;have hfz39_0:=blk_frozen BK103.out 0;have hfz39_1:=blk_frozen BK103.out 1;have hfz39_2:=blk_frozen BK103.out 2;have hfz39_3:=blk_frozen BK103.out 3;have hfz39_4:=blk_frozen BK103.out 4;have hfz39_5:=blk_frozen BK103.out 5;have hcz40_0:w37.cell? ⟨gb104,0,none⟩=some (.int .i64 a1_0):=(blk_cell BK104.out 0).trans rfl;have hcz40_1:w37.cell? ⟨gb104,1,none⟩=some (.int .i64 a1_1):=(blk_cell BK104.out 1).trans rfl;have hcz40_2:w37.cell? ⟨gb104,2,none⟩=some (.int .i64 a1_2):=(blk_cell BK104.out 2).trans rfl;have hcz40_3:w37.cell? ⟨gb104,3,none⟩=some (.int .i64 a1_3):=(blk_cell BK104.out 3).trans rfl;have hcz40_4:w37.cell? ⟨gb104,4,none⟩=some (.int .i64 a1_4):=(blk_cell BK104.out 4).trans rfl;have hcz40_5:w37.cell? ⟨gb104,5,none⟩=some (.int .i64 a1_5):=(blk_cell BK104.out 5).trans rfl;have hfz40_0:=blk_frozen BK104.out 0;have hfz40_1:=blk_frozen BK104.out 1;have hfz40_2:=blk_frozen BK104.out 2;have hfz40_3:=blk_frozen BK104.out 3;have hfz40_4:=blk_frozen BK104.out 4;have hfz40_5:=blk_frozen BK104.out 5))
    go_ret
    exact⟨by first|rfl|(simp[errW_none,errW_some]<;>rfl)|(simp[*,errW_none,errW_some]<;>rfl),by repeat(first|(with_reducible first|exact HB.out|apply below_alloc|apply pw_below_drewN|apply below_drew1|refine below_set ?_ GE103.out|refine below_set ?_ GE104.out)|exact HB.out)⟩
def laws_eqOpS.l0:Nat→List (S39)→List (S39)→Int→Option (Bool)
  |0,_,_,_=>none
  |k+1,x0,x1,x5=>if x5<(x0.length:Int)then(if 0≤x5 then(if x5<(x1.length:Int)then((laws_eqOp.f ((rd_T39 x0 x5).f0) ((rd_T39 x0 x5).f1) ((rd_T39 x0 x5).f2) ((rd_T39 x0 x5).f3) ((rd_T39 x0 x5).f4.f0) ((rd_T39 x0 x5).f4.f1) ((rd_T39 x1 x5).f0) ((rd_T39 x1 x5).f1) ((rd_T39 x1 x5).f2) ((rd_T39 x1 x5).f3) ((rd_T39 x1 x5).f4.f0) ((rd_T39 x1 x5).f4.f1)).bind fun t108=>(if t108=true then(laws_eqOpS.l0 k x0 x1 (wrap64 (x5+1)))else(some false)))else(none))else(none))else(some true)
def laws_eqOpS.f (k:Nat) (l0:List (S39)) (l1:List (S39)):Option (Bool):=if(l0.length:Int)=(l1.length:Int)then(laws_eqOpS.l0 k l0 l1 0)else(some false)
def laws_eqOpS.T6:Bool×List (List Nat×List Nat):=(true,[([],[]),([],[]),([0,1],[0,1]),([2],[2]),([],[]),([],[]),([4,5],[4,5]),([6],[6]),([3,7],[3,7]),([8],[8])])
def laws_eqOpS.B6:List Nat:=[0,0,3,7,0,0,48,112,255,511]
theorem laws_eqOpS.tab6:rtab .any (opsOf Tryz.f8 6)=laws_eqOpS.T6:=by kernel_rfl
theorem laws_eqOpS.bits6:waitsOk laws_eqOpS.T6.2 laws_eqOpS.B6=true:=by kernel_rfl
theorem laws_eqOpS.calls (k:Nat) (A0:Option Addr) (c0:Nat) (l0:List (S39)) (A1:Option Addr) (c1:Nat) (l1:List (S39)) (r:Bool) (w:World) (hr0:Kd.C k39 w A0 l0.length l0) (hc0:l0.length≤c0) (hr1:Kd.C k39 w A1 l1.length l1) (hc1:l1.length≤c1) (h:laws_eqOpS.f k l0 l1=some r):
    Calls Tryz.prog 8 #[.slice A0 l0.length c0,.slice A1 l1.length c1] w fun e w'=>e= .returned (.bool r)∧Below w.heap.size w w':=by
  have hu39:=Tryz.underlying39;have HR0:=Aside0.mk hr0;have HC0:=Aside0.mk hc0;clear hr0 hc0;have HR1:=Aside0.mk hr1;have HC1:=Aside0.mk hc1;clear hr1 hc1;have HB:=Aside0.mk (Below.refl w.heap.size w);have H:(if(l0.length:Int)=(l1.length:Int)then(laws_eqOpS.l0 k l0 l1 0)else(some false))=some r:=h
  clear h;by_cases c3:(l0.length:Int)=(l1.length:Int)
  · rw[if_pos c3]at H
    have c3b0:((l0.length:Int)==(l1.length:Int))=true:=beq_iff_eq.mpr c3;have c3b1:((l0.length:Int) !=(l1.length:Int))=false:=bne_eq_false_iff_eq.mpr c3;have c3b2:(l0.length==l1.length)=true:=by first|simpa using c3|(simp at c3⊢;omega)
    clear c3;have H':=Aside0.mk H;clear H;go_enter Tryz.func8,Tryz.ntmps8
    go_wp2
    go_loopg [5] k (fun kq v5 w'=> ∃ (x5_1:Int),v5= .int .i64 x5_1∧Aside0 (laws_eqOpS.l0 kq l0 l1 x5_1=some r)∧Aside0 (kq≤k)∧Aside0 (Below w.heap.size w w'))
    case atStart=>exact⟨(0),(by first|rfl|(simp;done)|(simp[*];done)),H',⟨Nat.le_refl _⟩,⟨by repeat(first|(with_reducible first|exact HB.out|apply below_alloc|apply pw_below_drewN|apply below_drew1)|exact HB.out)⟩⟩
    case round=>
      clear H';try clear c1
      try clear p2
      try clear c3
      try clear c3b0
      try clear c3b1
      try clear c3b2
      obtain⟨x5_1,rfl,HA,HK1,HB⟩:=hrel;cases gk with
      |zero=>exact absurd HA.out (by simp[laws_eqOpS.l0])
      |succ k1=>
        have H:=HA.out;clear HA;simp only[laws_eqOpS.l0]at H
        by_cases c4:x5_1<(l0.length:Int)
        · rw[if_pos c4]at H
          have c4b0:decide (x5_1<(l0.length:Int))=true:=decide_eq_true c4;clear c4;by_cases c5:0≤x5_1
          · rw[if_pos c5]at H
            have c5b0:decide (0≤x5_1)=true:=decide_eq_true c5;clear c5;by_cases c6:x5_1<(l1.length:Int)
            · rw[if_pos c6]at H
              have c6b0:decide (x5_1<(l1.length:Int))=true:=decide_eq_true c6;clear c6;replace H:=Option.bind_eq_some_iff.mp H;obtain⟨t108,A70,H⟩:=H;replace H:(if t108=true then(laws_eqOpS.l0 k1 l0 l1 (wrap64 (x5_1+1)))else(some false))=some r:=H
              have A7:=Aside0.mk A70;clear A70;by_cases c8:t108=true
              · subst c8
                have H1:(laws_eqOpS.l0 k1 l0 l1 (wrap64 (x5_1+1)))=some r:=by rw[if_pos rfl]at H;exact H
                clear H;have H:=H1;clear H1;have H':=Aside0.mk H;clear H;try go_wp2
                have n0_:=Aside0.mk (below_drew1 HB.out);clear HB;have HB:=n0_;clear n0_;have p106:0≤(x5_1:Int):=of_decide_eq_true (by first|(with_reducible assumption)|assumption)
                have q106:x5_1<(l0.length:Int):=of_decide_eq_true (by first|(with_reducible assumption)|assumption)
                obtain⟨ad106,e106,hx106_0,hx106_1,hx106_2,hx106_3,hx106_4,hx106_5⟩:=at_T39 HR0.out x5_1 p106 q106;have hw106_5:=hx106_5;have hw106_4:=hx106_4;have hw106_3:=hx106_3;have hw106_2:=hx106_2;have hw106_1:=hx106_1;have hw106_0:=hx106_0;cases e106
                replace hx106_0:=(HB.out.cell (World.block_lt_of_cell? w _ hx106_0)).trans hx106_0;replace hx106_1:=(HB.out.cell (World.block_lt_of_cell? w _ hx106_1)).trans hx106_1;replace hx106_2:=(HB.out.cell (World.block_lt_of_cell? w _ hx106_2)).trans hx106_2;replace hx106_3:=(HB.out.cell (World.block_lt_of_cell? w _ hx106_3)).trans hx106_3;replace hx106_4:=(HB.out.cell (World.block_lt_of_cell? w _ hx106_4)).trans hx106_4;replace hx106_5:=(HB.out.cell (World.block_lt_of_cell? w _ hx106_5)).trans hx106_5;replace p106:=eq_true p106;replace q106:=eq_true q106;have p107:0≤(x5_1:Int):=of_decide_eq_true (by first|(with_reducible assumption)|assumption)
                have q107:x5_1<(l1.length:Int):=of_decide_eq_true (by first|(with_reducible assumption)|assumption)
                obtain⟨ad107,e107,hx107_0,hx107_1,hx107_2,hx107_3,hx107_4,hx107_5⟩:=at_T39 HR1.out x5_1 p107 q107;have hw107_5:=hx107_5;have hw107_4:=hx107_4;have hw107_3:=hx107_3;have hw107_2:=hx107_2;have hw107_1:=hx107_1;have hw107_0:=hx107_0;cases e107
                replace hx107_0:=(HB.out.cell (World.block_lt_of_cell? w _ hx107_0)).trans hx107_0;replace hx107_1:=(HB.out.cell (World.block_lt_of_cell? w _ hx107_1)).trans hx107_1;replace hx107_2:=(HB.out.cell (World.block_lt_of_cell? w _ hx107_2)).trans hx107_2;replace hx107_3:=(HB.out.cell (World.block_lt_of_cell? w _ hx107_3)).trans hx107_3;replace hx107_4:=(HB.out.cell (World.block_lt_of_cell? w _ hx107_4)).trans hx107_4;replace hx107_5:=(HB.out.cell (World.block_lt_of_cell? w _ hx107_5)).trans hx107_5;replace p107:=eq_true p107;replace q107:=eq_true q107;refine start_ (n:=10) (S:=fun w'=>w'.cell? (ad106.add ((x5_1).toNat*6))=some (.int .i64 ((rd_T39 l0 x5_1).f0))∧w'.cell? ⟨(ad106.add ((x5_1).toNat*6)).block,(ad106.add ((x5_1).toNat*6)).off+1,none⟩=some (.int .i64 ((rd_T39 l0 x5_1).f1))∧w'.cell? ⟨(ad106.add ((x5_1).toNat*6)).block,(ad106.add ((x5_1).toNat*6)).off+2,none⟩=some (.int .i64 ((rd_T39 l0 x5_1).f2))∧w'.cell? ⟨(ad106.add ((x5_1).toNat*6)).block,(ad106.add ((x5_1).toNat*6)).off+3,none⟩=some (.int .i64 ((rd_T39 l0 x5_1).f3))∧w'.cell? ⟨(ad106.add ((x5_1).toNat*6)).block,(ad106.add ((x5_1).toNat*6)).off+4,none⟩=some (.int .i64 ((rd_T39 l0 x5_1).f4.f0))∧w'.cell? ⟨(ad106.add ((x5_1).toNat*6)).block,(ad106.add ((x5_1).toNat*6)).off+5,none⟩=some (.int .i64 ((rd_T39 l0 x5_1).f4.f1))∧w'.cell? (ad107.add ((x5_1).toNat*6))=some (.int .i64 ((rd_T39 l1 x5_1).f0))∧w'.cell? ⟨(ad107.add ((x5_1).toNat*6)).block,(ad107.add ((x5_1).toNat*6)).off+1,none⟩=some (.int .i64 ((rd_T39 l1 x5_1).f1))∧w'.cell? ⟨(ad107.add ((x5_1).toNat*6)).block,(ad107.add ((x5_1).toNat*6)).off+2,none⟩=some (.int .i64 ((rd_T39 l1 x5_1).f2))∧w'.cell? ⟨(ad107.add ((x5_1).toNat*6)).block,(ad107.add ((x5_1).toNat*6)).off+3,none⟩=some (.int .i64 ((rd_T39 l1 x5_1).f3))∧w'.cell? ⟨(ad107.add ((x5_1).toNat*6)).block,(ad107.add ((x5_1).toNat*6)).off+4,none⟩=some (.int .i64 ((rd_T39 l1 x5_1).f4.f0))∧w'.cell? ⟨(ad107.add ((x5_1).toNat*6)).block,(ad107.add ((x5_1).toNat*6)).off+5,none⟩=some (.int .i64 ((rd_T39 l1 x5_1).f4.f1))) (ds:=[]) #[false,false,false,false,false,false,false,false,false,false] (by kernel_rfl) rfl rfl ⟨((HB.out.cell (World.block_lt_of_cell? w _ hw106_0)).trans hw106_0),((HB.out.cell (World.block_lt_of_cell? w _ hw106_1)).trans hw106_1),((HB.out.cell (World.block_lt_of_cell? w _ hw106_2)).trans hw106_2),((HB.out.cell (World.block_lt_of_cell? w _ hw106_3)).trans hw106_3),((HB.out.cell (World.block_lt_of_cell? w _ hw106_4)).trans hw106_4),((HB.out.cell (World.block_lt_of_cell? w _ hw106_5)).trans hw106_5),((HB.out.cell (World.block_lt_of_cell? w _ hw107_0)).trans hw107_0),((HB.out.cell (World.block_lt_of_cell? w _ hw107_1)).trans hw107_1),((HB.out.cell (World.block_lt_of_cell? w _ hw107_2)).trans hw107_2),((HB.out.cell (World.block_lt_of_cell? w _ hw107_3)).trans hw107_3),((HB.out.cell (World.block_lt_of_cell? w _ hw107_4)).trans hw107_4),((HB.out.cell (World.block_lt_of_cell? w _ hw107_5)).trans hw107_5)⟩ (fun hHeld=> ?_);refine with_tabW laws_eqOpS.tab6 laws_eqOpS.bits6 (fun HT_ HW_=> ?_)
                generalize wr.drew=w9 at HB hx106_0 hx106_1 hx106_2 hx106_3 hx106_4 hx106_5 hx107_0 hx107_1 hx107_2 hx107_3 hx107_4 hx107_5 hHeld⊢
                refine pure_ (i:=0) (N:=some 17) (v:= ?_) (a':= ?_) #[true,false,false,false,false,false,false,false,false,false] rfl rfl (any_of HT_.out (by kernel_rfl)) (fun _ _ _ h=>h) (Or.inl ⟨by rfl,?_⟩) ?_ ?_
                rotate_left
                · intro w'
                  go_simp
                  with_reducible rfl
                rotate_left
                · simp only[Act.put,List.setIfInBounds_toArray,List.set_cons_zero,List.set_cons_succ,i64_w,i32_w]
                  rfl
                refine pure_ (i:=1) (N:=some 18) (v:= ?_) (a':= ?_) #[true,true,false,false,false,false,false,false,false,false] rfl rfl (any_of HT_.out (by kernel_rfl)) (fun _ _ _ h=>h) (Or.inl ⟨by rfl,?_⟩) ?_ ?_
                rotate_left
                · intro w'
                  go_simp
                  with_reducible rfl
                rotate_left
                · simp only[Act.put,List.setIfInBounds_toArray,List.set_cons_zero,List.set_cons_succ,i64_w,i32_w]
                  rfl
                refine pure_ (i:=2) (N:=some 19) (v:= ?_) (a':= ?_) #[true,true,true,false,false,false,false,false,false,false] rfl rfl (any_of HT_.out (by kernel_rfl)) (fun _ _ _ h=>h) (Or.inl ⟨by rfl,?_⟩) ?_ ?_
                rotate_left
                · intro w'
                  go_simp
                  with_reducible rfl
                rotate_left
                · simp only[Act.put,List.setIfInBounds_toArray,List.set_cons_zero,List.set_cons_succ,i64_w,i32_w]
                  rfl
                refine pure_ (i:=4) (N:=some 21) (v:= ?_) (a':= ?_) #[true,true,true,false,true,false,false,false,false,false] rfl rfl (any_of HT_.out (by kernel_rfl)) (fun _ _ _ h=>h) (Or.inl ⟨by rfl,?_⟩) ?_ ?_
                rotate_left
                · intro w'
                  go_simp
                  with_reducible rfl
                rotate_left
                · simp only[Act.put,List.setIfInBounds_toArray,List.set_cons_zero,List.set_cons_succ,i64_w,i32_w]
                  rfl
                refine pure_ (i:=5) (N:=some 22) (v:= ?_) (a':= ?_) #[true,true,true,false,true,true,false,false,false,false] rfl rfl (any_of HT_.out (by kernel_rfl)) (fun _ _ _ h=>h) (Or.inl ⟨by rfl,?_⟩) ?_ ?_
                rotate_left
                · intro w'
                  go_simp
                  with_reducible rfl
                rotate_left
                · simp only[Act.put,List.setIfInBounds_toArray,List.set_cons_zero,List.set_cons_succ,i64_w,i32_w]
                  rfl
                refine pure_ (i:=6) (N:=some 23) (v:= ?_) (a':= ?_) #[true,true,true,false,true,true,true,false,false,false] rfl rfl (any_of HT_.out (by kernel_rfl)) (fun _ _ _ h=>h) (Or.inl ⟨by rfl,?_⟩) ?_ ?_
                rotate_left
                · intro w'
                  go_simp
                  with_reducible rfl
                rotate_left
                · simp only[Act.put,List.setIfInBounds_toArray,List.set_cons_zero,List.set_cons_succ,i64_w,i32_w]
                  rfl
                refine take_ (i:=3) (N:=some 20) (v:= ?_) (a':= ?_) #[true,true,true,true,true,true,true,false,false,false] rfl rfl (take_ofW HT_.out HW_.out (by kernel_rfl)) (fun _ _ _ h=>h) (Or.inl ⟨by rfl,?_⟩) hHeld ?_ ?_
                rotate_left
                · rintro w' ⟨s0,s1,s2,s3,s4,s5,s6,s7,s8,s9,s10,s11⟩
                  go_simp
                  with_reducible rfl
                rotate_left
                · simp only[Act.put,List.setIfInBounds_toArray,List.set_cons_zero,List.set_cons_succ,i64_w,i32_w]
                  rfl
                refine take_ (i:=7) (N:=some 24) (v:= ?_) (a':= ?_) #[true,true,true,true,true,true,true,true,false,false] rfl rfl (take_ofW HT_.out HW_.out (by kernel_rfl)) (fun _ _ _ h=>h) (Or.inl ⟨by rfl,?_⟩) hHeld ?_ ?_
                rotate_left
                · rintro w' ⟨s0,s1,s2,s3,s4,s5,s6,s7,s8,s9,s10,s11⟩
                  go_simp
                  with_reducible rfl
                rotate_left
                · simp only[Act.put,List.setIfInBounds_toArray,List.set_cons_zero,List.set_cons_succ,i64_w,i32_w]
                  rfl
                refine one_ (i:=8) (N:=some 25) #[true,true,true,true,true,true,true,true,true,false] rfl rfl (one_of HT_.out (by kernel_rfl)) (by decide) (fun K hK=> ?_)
                refine goes_ Tryz.func23 (by kernel_rfl) rfl #[.agg #[.int .i64 ((rd_T39 l0 x5_1).f0),.int .i64 ((rd_T39 l0 x5_1).f1),.int .i64 ((rd_T39 l0 x5_1).f2),.int .i64 ((rd_T39 l0 x5_1).f3),.int .i64 ((rd_T39 l0 x5_1).f4.f0),.int .i64 ((rd_T39 l0 x5_1).f4.f1)],.agg #[.int .i64 ((rd_T39 l1 x5_1).f0),.int .i64 ((rd_T39 l1 x5_1).f1),.int .i64 ((rd_T39 l1 x5_1).f2),.int .i64 ((rd_T39 l1 x5_1).f3),.int .i64 ((rd_T39 l1 x5_1).f4.f0),.int .i64 ((rd_T39 l1 x5_1).f4.f1)]] (by rfl) rfl rfl (by(try simp only[List.map_toArray,List.map_cons,List.map_nil]);first|done|rfl|(simp only[List.length_drop,List.length_take];rfl)) ?_
                with_reducible refine(laws_eqOp.calls ((rd_T39 l0 x5_1).f0) ((rd_T39 l0 x5_1).f1) ((rd_T39 l0 x5_1).f2) ((rd_T39 l0 x5_1).f3) ((rd_T39 l0 x5_1).f4.f0) ((rd_T39 l0 x5_1).f4.f1) ((rd_T39 l1 x5_1).f0) ((rd_T39 l1 x5_1).f1) ((rd_T39 l1 x5_1).f2) ((rd_T39 l1 x5_1).f3) ((rd_T39 l1 x5_1).f4.f0) ((rd_T39 l1 x5_1).f4.f1) true _ A7.out).mono ?_
                rintro e w10 ⟨rfl,hb⟩
                refine⟨_,rfl,?_⟩
                have n0_:=Aside0.mk (below_step (by repeat(first|(with_reducible first|exact HB.out|apply below_alloc|apply pw_below_drewN|apply below_drew1)|exact HB.out)) hb)
                clear HB;have HB:=n0_;clear n0_;(try clear hb)
                (try clear hb2)
                (try clear hk)
                (try clear hi)
                refine hK.out _ _ ⟨((HB.out.cell (World.block_lt_of_cell? w _ hw106_0)).trans hw106_0),((HB.out.cell (World.block_lt_of_cell? w _ hw106_1)).trans hw106_1),((HB.out.cell (World.block_lt_of_cell? w _ hw106_2)).trans hw106_2),((HB.out.cell (World.block_lt_of_cell? w _ hw106_3)).trans hw106_3),((HB.out.cell (World.block_lt_of_cell? w _ hw106_4)).trans hw106_4),((HB.out.cell (World.block_lt_of_cell? w _ hw106_5)).trans hw106_5),((HB.out.cell (World.block_lt_of_cell? w _ hw107_0)).trans hw107_0),((HB.out.cell (World.block_lt_of_cell? w _ hw107_1)).trans hw107_1),((HB.out.cell (World.block_lt_of_cell? w _ hw107_2)).trans hw107_2),((HB.out.cell (World.block_lt_of_cell? w _ hw107_3)).trans hw107_3),((HB.out.cell (World.block_lt_of_cell? w _ hw107_4)).trans hw107_4),((HB.out.cell (World.block_lt_of_cell? w _ hw107_5)).trans hw107_5)⟩ (fun hHeld=> ?_)
                clear hK K;refine norm_ (a':= ?_) ?_ ?_
                rotate_left
                · show Act.put _ (some 25) _=_
                  simp only[Act.put,List.setIfInBounds_toArray,List.set_cons_zero,List.set_cons_succ,i64_w,i32_w]
                  rfl
                refine pure_ (i:=9) (N:=some 26) (v:= ?_) (a':= ?_) #[true,true,true,true,true,true,true,true,true,true] rfl rfl (any_of HT_.out (by kernel_rfl)) (fun _ _ _ h=>h) (Or.inl ⟨by rfl,?_⟩) ?_ ?_
                rotate_left
                · intro w'
                  go_simp
                  with_reducible rfl
                rotate_left
                · simp only[Act.put,List.setIfInBounds_toArray,List.set_cons_zero,List.set_cons_succ,i64_w,i32_w]
                  rfl
                refine done_ (done_of HT_.out (by kernel_rfl)) ?_
                try go_wp2
                go_roundg k1
                case measure=>have:=HK1.out;omega
                case rel=>exact⟨(wrap64 (x5_1+1)),(by first|rfl|(simp;done)|(simp[*];done)),H',⟨by have:=HK1.out;omega⟩,⟨by repeat(first|(with_reducible first|exact HB.out|apply below_alloc|apply pw_below_drewN|apply below_drew1)|exact HB.out)⟩⟩
              · replace c8:=Bool.eq_false_iff.mpr c8
                subst c8;have H1:(some false)=some r:=by rw[if_neg (show¬(false=true) by decide)]at H;exact H
                clear H;have H:=H1;clear H1;obtain rfl:=Option.some.inj H;try go_wp2
                have n0_:=Aside0.mk (below_drew1 HB.out);clear HB;have HB:=n0_;clear n0_;have p106:0≤(x5_1:Int):=of_decide_eq_true (by first|(with_reducible assumption)|assumption)
                have q106:x5_1<(l0.length:Int):=of_decide_eq_true (by first|(with_reducible assumption)|assumption)
                obtain⟨ad106,e106,hx106_0,hx106_1,hx106_2,hx106_3,hx106_4,hx106_5⟩:=at_T39 HR0.out x5_1 p106 q106;have hw106_5:=hx106_5;have hw106_4:=hx106_4;have hw106_3:=hx106_3;have hw106_2:=hx106_2;have hw106_1:=hx106_1;have hw106_0:=hx106_0;cases e106
                replace hx106_0:=(HB.out.cell (World.block_lt_of_cell? w _ hx106_0)).trans hx106_0;replace hx106_1:=(HB.out.cell (World.block_lt_of_cell? w _ hx106_1)).trans hx106_1;replace hx106_2:=(HB.out.cell (World.block_lt_of_cell? w _ hx106_2)).trans hx106_2;replace hx106_3:=(HB.out.cell (World.block_lt_of_cell? w _ hx106_3)).trans hx106_3;replace hx106_4:=(HB.out.cell (World.block_lt_of_cell? w _ hx106_4)).trans hx106_4;replace hx106_5:=(HB.out.cell (World.block_lt_of_cell? w _ hx106_5)).trans hx106_5;replace p106:=eq_true p106;replace q106:=eq_true q106;have p107:0≤(x5_1:Int):=of_decide_eq_true (by first|(with_reducible assumption)|assumption)
                have q107:x5_1<(l1.length:Int):=of_decide_eq_true (by first|(with_reducible assumption)|assumption)
                obtain⟨ad107,e107,hx107_0,hx107_1,hx107_2,hx107_3,hx107_4,hx107_5⟩:=at_T39 HR1.out x5_1 p107 q107;have hw107_5:=hx107_5;have hw107_4:=hx107_4;have hw107_3:=hx107_3;have hw107_2:=hx107_2;have hw107_1:=hx107_1;have hw107_0:=hx107_0;cases e107
                replace hx107_0:=(HB.out.cell (World.block_lt_of_cell? w _ hx107_0)).trans hx107_0;replace hx107_1:=(HB.out.cell (World.block_lt_of_cell? w _ hx107_1)).trans hx107_1;replace hx107_2:=(HB.out.cell (World.block_lt_of_cell? w _ hx107_2)).trans hx107_2;replace hx107_3:=(HB.out.cell (World.block_lt_of_cell? w _ hx107_3)).trans hx107_3;replace hx107_4:=(HB.out.cell (World.block_lt_of_cell? w _ hx107_4)).trans hx107_4;replace hx107_5:=(HB.out.cell (World.block_lt_of_cell? w _ hx107_5)).trans hx107_5;replace p107:=eq_true p107;replace q107:=eq_true q107;refine start_ (n:=10) (S:=fun w'=>w'.cell? (ad106.add ((x5_1).toNat*6))=some (.int .i64 ((rd_T39 l0 x5_1).f0))∧w'.cell? ⟨(ad106.add ((x5_1).toNat*6)).block,(ad106.add ((x5_1).toNat*6)).off+1,none⟩=some (.int .i64 ((rd_T39 l0 x5_1).f1))∧w'.cell? ⟨(ad106.add ((x5_1).toNat*6)).block,(ad106.add ((x5_1).toNat*6)).off+2,none⟩=some (.int .i64 ((rd_T39 l0 x5_1).f2))∧w'.cell? ⟨(ad106.add ((x5_1).toNat*6)).block,(ad106.add ((x5_1).toNat*6)).off+3,none⟩=some (.int .i64 ((rd_T39 l0 x5_1).f3))∧w'.cell? ⟨(ad106.add ((x5_1).toNat*6)).block,(ad106.add ((x5_1).toNat*6)).off+4,none⟩=some (.int .i64 ((rd_T39 l0 x5_1).f4.f0))∧w'.cell? ⟨(ad106.add ((x5_1).toNat*6)).block,(ad106.add ((x5_1).toNat*6)).off+5,none⟩=some (.int .i64 ((rd_T39 l0 x5_1).f4.f1))∧w'.cell? (ad107.add ((x5_1).toNat*6))=some (.int .i64 ((rd_T39 l1 x5_1).f0))∧w'.cell? ⟨(ad107.add ((x5_1).toNat*6)).block,(ad107.add ((x5_1).toNat*6)).off+1,none⟩=some (.int .i64 ((rd_T39 l1 x5_1).f1))∧w'.cell? ⟨(ad107.add ((x5_1).toNat*6)).block,(ad107.add ((x5_1).toNat*6)).off+2,none⟩=some (.int .i64 ((rd_T39 l1 x5_1).f2))∧w'.cell? ⟨(ad107.add ((x5_1).toNat*6)).block,(ad107.add ((x5_1).toNat*6)).off+3,none⟩=some (.int .i64 ((rd_T39 l1 x5_1).f3))∧w'.cell? ⟨(ad107.add ((x5_1).toNat*6)).block,(ad107.add ((x5_1).toNat*6)).off+4,none⟩=some (.int .i64 ((rd_T39 l1 x5_1).f4.f0))∧w'.cell? ⟨(ad107.add ((x5_1).toNat*6)).block,(ad107.add ((x5_1).toNat*6)).off+5,none⟩=some (.int .i64 ((rd_T39 l1 x5_1).f4.f1))) (ds:=[]) #[false,false,false,false,false,false,false,false,false,false] (by kernel_rfl) rfl rfl ⟨((HB.out.cell (World.block_lt_of_cell? w _ hw106_0)).trans hw106_0),((HB.out.cell (World.block_lt_of_cell? w _ hw106_1)).trans hw106_1),((HB.out.cell (World.block_lt_of_cell? w _ hw106_2)).trans hw106_2),((HB.out.cell (World.block_lt_of_cell? w _ hw106_3)).trans hw106_3),((HB.out.cell (World.block_lt_of_cell? w _ hw106_4)).trans hw106_4),((HB.out.cell (World.block_lt_of_cell? w _ hw106_5)).trans hw106_5),((HB.out.cell (World.block_lt_of_cell? w _ hw107_0)).trans hw107_0),((HB.out.cell (World.block_lt_of_cell? w _ hw107_1)).trans hw107_1),((HB.out.cell (World.block_lt_of_cell? w _ hw107_2)).trans hw107_2),((HB.out.cell (World.block_lt_of_cell? w _ hw107_3)).trans hw107_3),((HB.out.cell (World.block_lt_of_cell? w _ hw107_4)).trans hw107_4),((HB.out.cell (World.block_lt_of_cell? w _ hw107_5)).trans hw107_5)⟩ (fun hHeld=> ?_);refine with_tabW laws_eqOpS.tab6 laws_eqOpS.bits6 (fun HT_ HW_=> ?_)
                generalize wr.drew=w11 at HB hx106_0 hx106_1 hx106_2 hx106_3 hx106_4 hx106_5 hx107_0 hx107_1 hx107_2 hx107_3 hx107_4 hx107_5 hHeld⊢
                refine pure_ (i:=0) (N:=some 17) (v:= ?_) (a':= ?_) #[true,false,false,false,false,false,false,false,false,false] rfl rfl (any_of HT_.out (by kernel_rfl)) (fun _ _ _ h=>h) (Or.inl ⟨by rfl,?_⟩) ?_ ?_
                rotate_left
                · intro w'
                  go_simp
                  with_reducible rfl
                rotate_left
                · simp only[Act.put,List.setIfInBounds_toArray,List.set_cons_zero,List.set_cons_succ,i64_w,i32_w]
                  rfl
                refine pure_ (i:=1) (N:=some 18) (v:= ?_) (a':= ?_) #[true,true,false,false,false,false,false,false,false,false] rfl rfl (any_of HT_.out (by kernel_rfl)) (fun _ _ _ h=>h) (Or.inl ⟨by rfl,?_⟩) ?_ ?_
                rotate_left
                · intro w'
                  go_simp
                  with_reducible rfl
                rotate_left
                · simp only[Act.put,List.setIfInBounds_toArray,List.set_cons_zero,List.set_cons_succ,i64_w,i32_w]
                  rfl
                refine pure_ (i:=2) (N:=some 19) (v:= ?_) (a':= ?_) #[true,true,true,false,false,false,false,false,false,false] rfl rfl (any_of HT_.out (by kernel_rfl)) (fun _ _ _ h=>h) (Or.inl ⟨by rfl,?_⟩) ?_ ?_
                rotate_left
                · intro w'
                  go_simp
                  with_reducible rfl
                rotate_left
                · simp only[Act.put,List.setIfInBounds_toArray,List.set_cons_zero,List.set_cons_succ,i64_w,i32_w]
                  rfl
                refine pure_ (i:=4) (N:=some 21) (v:= ?_) (a':= ?_) #[true,true,true,false,true,false,false,false,false,false] rfl rfl (any_of HT_.out (by kernel_rfl)) (fun _ _ _ h=>h) (Or.inl ⟨by rfl,?_⟩) ?_ ?_
                rotate_left
                · intro w'
                  go_simp
                  with_reducible rfl
                rotate_left
                · simp only[Act.put,List.setIfInBounds_toArray,List.set_cons_zero,List.set_cons_succ,i64_w,i32_w]
                  rfl
                refine pure_ (i:=5) (N:=some 22) (v:= ?_) (a':= ?_) #[true,true,true,false,true,true,false,false,false,false] rfl rfl (any_of HT_.out (by kernel_rfl)) (fun _ _ _ h=>h) (Or.inl ⟨by rfl,?_⟩) ?_ ?_
                rotate_left
                · intro w'
                  go_simp
                  with_reducible rfl
                rotate_left
                · simp only[Act.put,List.setIfInBounds_toArray,List.set_cons_zero,List.set_cons_succ,i64_w,i32_w]
                  rfl
                refine pure_ (i:=6) (N:=some 23) (v:= ?_) (a':= ?_) #[true,true,true,false,true,true,true,false,false,false] rfl rfl (any_of HT_.out (by kernel_rfl)) (fun _ _ _ h=>h) (Or.inl ⟨by rfl,?_⟩) ?_ ?_
                rotate_left
                · intro w'
                  go_simp
                  with_reducible rfl
                rotate_left
                · simp only[Act.put,List.setIfInBounds_toArray,List.set_cons_zero,List.set_cons_succ,i64_w,i32_w]
                  rfl
                refine take_ (i:=3) (N:=some 20) (v:= ?_) (a':= ?_) #[true,true,true,true,true,true,true,false,false,false] rfl rfl (take_ofW HT_.out HW_.out (by kernel_rfl)) (fun _ _ _ h=>h) (Or.inl ⟨by rfl,?_⟩) hHeld ?_ ?_
                rotate_left
                · rintro w' ⟨s0,s1,s2,s3,s4,s5,s6,s7,s8,s9,s10,s11⟩
                  go_simp
                  with_reducible rfl
                rotate_left
                · simp only[Act.put,List.setIfInBounds_toArray,List.set_cons_zero,List.set_cons_succ,i64_w,i32_w]
                  rfl
                refine take_ (i:=7) (N:=some 24) (v:= ?_) (a':= ?_) #[true,true,true,true,true,true,true,true,false,false] rfl rfl (take_ofW HT_.out HW_.out (by kernel_rfl)) (fun _ _ _ h=>h) (Or.inl ⟨by rfl,?_⟩) hHeld ?_ ?_
                rotate_left
                · rintro w' ⟨s0,s1,s2,s3,s4,s5,s6,s7,s8,s9,s10,s11⟩
                  go_simp
                  with_reducible rfl
                rotate_left
                · simp only[Act.put,List.setIfInBounds_toArray,List.set_cons_zero,List.set_cons_succ,i64_w,i32_w]
                  rfl
                refine one_ (i:=8) (N:=some 25) #[true,true,true,true,true,true,true,true,true,false] rfl rfl (one_of HT_.out (by kernel_rfl)) (by decide) (fun K hK=> ?_)
                refine goes_ Tryz.func23 (by kernel_rfl) rfl #[.agg #[.int .i64 ((rd_T39 l0 x5_1).f0),.int .i64 ((rd_T39 l0 x5_1).f1),.int .i64 ((rd_T39 l0 x5_1).f2),.int .i64 ((rd_T39 l0 x5_1).f3),.int .i64 ((rd_T39 l0 x5_1).f4.f0),.int .i64 ((rd_T39 l0 x5_1).f4.f1)],.agg #[.int .i64 ((rd_T39 l1 x5_1).f0),.int .i64 ((rd_T39 l1 x5_1).f1),.int .i64 ((rd_T39 l1 x5_1).f2),.int .i64 ((rd_T39 l1 x5_1).f3),.int .i64 ((rd_T39 l1 x5_1).f4.f0),.int .i64 ((rd_T39 l1 x5_1).f4.f1)]] (by rfl) rfl rfl (by(try simp only[List.map_toArray,List.map_cons,List.map_nil]);first|done|rfl|(simp only[List.length_drop,List.length_take];rfl)) ?_
                with_reducible refine(laws_eqOp.calls ((rd_T39 l0 x5_1).f0) ((rd_T39 l0 x5_1).f1) ((rd_T39 l0 x5_1).f2) ((rd_T39 l0 x5_1).f3) ((rd_T39 l0 x5_1).f4.f0) ((rd_T39 l0 x5_1).f4.f1) ((rd_T39 l1 x5_1).f0) ((rd_T39 l1 x5_1).f1) ((rd_T39 l1 x5_1).f2) ((rd_T39 l1 x5_1).f3) ((rd_T39 l1 x5_1).f4.f0) ((rd_T39 l1 x5_1).f4.f1) false _ A7.out).mono ?_
                rintro e w12 ⟨rfl,hb⟩
                refine⟨_,rfl,?_⟩
                have n0_:=Aside0.mk (below_step (by repeat(first|(with_reducible first|exact HB.out|apply below_alloc|apply pw_below_drewN|apply below_drew1)|exact HB.out)) hb)
                clear HB;have HB:=n0_;clear n0_;(try clear hb)
                (try clear hb2)
                (try clear hk)
                (try clear hi)
                refine hK.out _ _ ⟨((HB.out.cell (World.block_lt_of_cell? w _ hw106_0)).trans hw106_0),((HB.out.cell (World.block_lt_of_cell? w _ hw106_1)).trans hw106_1),((HB.out.cell (World.block_lt_of_cell? w _ hw106_2)).trans hw106_2),((HB.out.cell (World.block_lt_of_cell? w _ hw106_3)).trans hw106_3),((HB.out.cell (World.block_lt_of_cell? w _ hw106_4)).trans hw106_4),((HB.out.cell (World.block_lt_of_cell? w _ hw106_5)).trans hw106_5),((HB.out.cell (World.block_lt_of_cell? w _ hw107_0)).trans hw107_0),((HB.out.cell (World.block_lt_of_cell? w _ hw107_1)).trans hw107_1),((HB.out.cell (World.block_lt_of_cell? w _ hw107_2)).trans hw107_2),((HB.out.cell (World.block_lt_of_cell? w _ hw107_3)).trans hw107_3),((HB.out.cell (World.block_lt_of_cell? w _ hw107_4)).trans hw107_4),((HB.out.cell (World.block_lt_of_cell? w _ hw107_5)).trans hw107_5)⟩ (fun hHeld=> ?_)
                clear hK K;refine norm_ (a':= ?_) ?_ ?_
                rotate_left
                · show Act.put _ (some 25) _=_
                  simp only[Act.put,List.setIfInBounds_toArray,List.set_cons_zero,List.set_cons_succ,i64_w,i32_w]
                  rfl
                refine pure_ (i:=9) (N:=some 26) (v:= ?_) (a':= ?_) #[true,true,true,true,true,true,true,true,true,true] rfl rfl (any_of HT_.out (by kernel_rfl)) (fun _ _ _ h=>h) (Or.inl ⟨by rfl,?_⟩) ?_ ?_
                rotate_left
                · intro w'
                  go_simp
                  with_reducible rfl
                rotate_left
                · simp only[Act.put,List.setIfInBounds_toArray,List.set_cons_zero,List.set_cons_succ,i64_w,i32_w]
                  rfl
                refine done_ (done_of HT_.out (by kernel_rfl)) ?_
                try go_wp2
                go_ret
                exact⟨by first|rfl|(simp[errW_none,errW_some]<;>rfl)|(simp[*,errW_none,errW_some]<;>rfl),by repeat(first|(with_reducible first|exact HB.out|apply below_alloc|apply pw_below_drewN|apply below_drew1)|exact HB.out)⟩
            · rw[if_neg c6]at H
              exact absurd H (by simp)
          · rw[if_neg c5]at H
            exact absurd H (by simp)
        · rw[if_neg c4]at H
          have c4b0:decide (x5_1<(l0.length:Int))=false:=decide_eq_false c4;clear c4;obtain rfl:=Option.some.inj H;go_wp2
          go_ret
          exact⟨by first|rfl|(simp[errW_none,errW_some]<;>rfl)|(simp[*,errW_none,errW_some]<;>rfl),by repeat(first|(with_reducible first|exact HB.out|apply below_alloc|apply pw_below_drewN|apply below_drew1)|exact HB.out)⟩
  · rw[if_neg c3]at H
    have c3b0:((l0.length:Int)==(l1.length:Int))=false:=beq_eq_false_iff_ne.mpr c3;have c3b1:((l0.length:Int) !=(l1.length:Int))=true:=bne_iff_ne.mpr c3;have c3b2:(l0.length==l1.length)=false:=by first|simpa using c3|(simp at c3⊢;omega)
    obtain rfl:=Option.some.inj H;go_enter Tryz.func8,Tryz.ntmps8
    go_wp2
    go_ret
    exact⟨by first|rfl|(simp[errW_none,errW_some]<;>rfl)|(simp[*,errW_none,errW_some]<;>rfl),by repeat(first|(with_reducible first|exact HB.out|apply below_alloc|apply pw_below_drewN|apply below_drew1)|exact HB.out)⟩
def laws_heldOpS.l0:Nat→List (S39)→Int→Int→Option (Int)
  |0,_,_,_=>none
  |k+1,x0,x1,x5=>if x5<(x0.length:Int)then(if 0≤x5 then(if((rd_T39 x0 x5).f0)=x1 then(if((rd_T39 x0 x5).f1)=(wrap64 (x1+1))then(if((rd_T39 x0 x5).f2)=(wrap64 ((wrap64 (x1+1))+1))then(if((rd_T39 x0 x5).f3)=(wrap64 ((wrap64 ((wrap64 (x1+1))+1))+1))then(if((rd_T39 x0 x5).f4.f0)=(wrap64 ((wrap64 ((wrap64 ((wrap64 (x1+1))+1))+1))+1))then(if((rd_T39 x0 x5).f4.f1)=(wrap64 ((wrap64 ((wrap64 ((wrap64 ((wrap64 (x1+1))+1))+1))+1))+1))then(laws_heldOpS.l0 k x0 (wrap64 ((wrap64 ((wrap64 ((wrap64 ((wrap64 ((wrap64 (x1+1))+1))+1))+1))+1))+1)) (wrap64 (x5+1)))else(some (-1)))else(some (-1)))else(some (-1)))else(some (-1)))else(some (-1)))else(some (-1)))else(none))else(some x1)
def laws_heldOpS.f (k:Nat) (l0:List (S39)) (a1:Int):Option (Int):=laws_heldOpS.l0 k l0 a1 0
theorem laws_heldOpS.calls (k:Nat) (A0:Option Addr) (c0:Nat) (l0:List (S39)) (a1:Int) (r:Int) (w:World) (hr0:Kd.C k39 w A0 l0.length l0) (hc0:l0.length≤c0) (h:laws_heldOpS.f k l0 a1=some r):
    Calls Tryz.prog 10 #[.slice A0 l0.length c0,.int .i64 a1] w fun e w'=>e= .returned (.int .i64 r)∧Drawn0 w w':=by
  have HR0:=Aside0.mk hr0;have HC0:=Aside0.mk hc0;clear hr0 hc0;have H:(laws_heldOpS.l0 k l0 a1 0)=some r:=h;clear h;have H':=Aside0.mk H;clear H;go_enter Tryz.func10,Tryz.ntmps10
  go_wp2
  go_loopg [1,5] k (fun kq v1 v5 w'=> ∃ (x1_1:Int) (x5_1:Int),v1= .int .i64 x1_1∧v5= .int .i64 x5_1∧Aside0 (laws_heldOpS.l0 kq l0 x1_1 x5_1=some r)∧Aside0 (kq≤k)∧Drawn0 w w')
  case atStart=>exact⟨(a1),(0),(by first|rfl|(simp;done)|(simp[*];done)),(by first|rfl|(simp;done)|(simp[*];done)),H',⟨Nat.le_refl _⟩,by repeat(first|exact Drawn0.refl _|apply Drawn0.step)⟩
  case round=>
    clear H';try clear c1
    try clear p2
    obtain⟨x1_1,x5_1,rfl,rfl,HA,HK1,⟨m1,rfl⟩⟩:=hrel;cases gk with
    |zero=>exact absurd HA.out (by simp[laws_heldOpS.l0])
    |succ k1=>
      have H:=HA.out;clear HA;simp only[laws_heldOpS.l0]at H
      by_cases c3:x5_1<(l0.length:Int)
      · rw[if_pos c3]at H
        have c3b0:decide (x5_1<(l0.length:Int))=true:=decide_eq_true c3;clear c3;by_cases c4:0≤x5_1
        · rw[if_pos c4]at H
          have c4b0:decide (0≤x5_1)=true:=decide_eq_true c4;clear c4;by_cases c5:((rd_T39 l0 x5_1).f0)=x1_1
          · rw[if_pos c5]at H
            have c5b0:(((rd_T39 l0 x5_1).f0)==x1_1)=true:=beq_iff_eq.mpr c5;have c5b1:(((rd_T39 l0 x5_1).f0) !=x1_1)=false:=bne_eq_false_iff_eq.mpr c5;clear c5;by_cases c6:((rd_T39 l0 x5_1).f1)=(wrap64 (x1_1+1))
            · rw[if_pos c6]at H
              have c6b0:(((rd_T39 l0 x5_1).f1)==(wrap64 (x1_1+1)))=true:=beq_iff_eq.mpr c6;have c6b1:(((rd_T39 l0 x5_1).f1) !=(wrap64 (x1_1+1)))=false:=bne_eq_false_iff_eq.mpr c6;clear c6;by_cases c7:((rd_T39 l0 x5_1).f2)=(wrap64 ((wrap64 (x1_1+1))+1))
              · rw[if_pos c7]at H
                have c7b0:(((rd_T39 l0 x5_1).f2)==(wrap64 ((wrap64 (x1_1+1))+1)))=true:=beq_iff_eq.mpr c7;have c7b1:(((rd_T39 l0 x5_1).f2) !=(wrap64 ((wrap64 (x1_1+1))+1)))=false:=bne_eq_false_iff_eq.mpr c7;clear c7;by_cases c8:((rd_T39 l0 x5_1).f3)=(wrap64 ((wrap64 ((wrap64 (x1_1+1))+1))+1))
                · rw[if_pos c8]at H
                  have c8b0:(((rd_T39 l0 x5_1).f3)==(wrap64 ((wrap64 ((wrap64 (x1_1+1))+1))+1)))=true:=beq_iff_eq.mpr c8;have c8b1:(((rd_T39 l0 x5_1).f3) !=(wrap64 ((wrap64 ((wrap64 (x1_1+1))+1))+1)))=false:=bne_eq_false_iff_eq.mpr c8;clear c8;by_cases c9:((rd_T39 l0 x5_1).f4.f0)=(wrap64 ((wrap64 ((wrap64 ((wrap64 (x1_1+1))+1))+1))+1))
                  · rw[if_pos c9]at H
                    have c9b0:(((rd_T39 l0 x5_1).f4.f0)==(wrap64 ((wrap64 ((wrap64 ((wrap64 (x1_1+1))+1))+1))+1)))=true:=beq_iff_eq.mpr c9;have c9b1:(((rd_T39 l0 x5_1).f4.f0) !=(wrap64 ((wrap64 ((wrap64 ((wrap64 (x1_1+1))+1))+1))+1)))=false:=bne_eq_false_iff_eq.mpr c9;clear c9;by_cases c10:((rd_T39 l0 x5_1).f4.f1)=(wrap64 ((wrap64 ((wrap64 ((wrap64 ((wrap64 (x1_1+1))+1))+1))+1))+1))
                    · rw[if_pos c10]at H
                      have c10b0:(((rd_T39 l0 x5_1).f4.f1)==(wrap64 ((wrap64 ((wrap64 ((wrap64 ((wrap64 (x1_1+1))+1))+1))+1))+1)))=true:=beq_iff_eq.mpr c10;have c10b1:(((rd_T39 l0 x5_1).f4.f1) !=(wrap64 ((wrap64 ((wrap64 ((wrap64 ((wrap64 (x1_1+1))+1))+1))+1))+1)))=false:=bne_eq_false_iff_eq.mpr c10;clear c10;have H':=Aside0.mk H;clear H;have p109:0≤(x5_1:Int):=of_decide_eq_true (by first|(with_reducible assumption)|assumption)
                      have q109:x5_1<(l0.length:Int):=of_decide_eq_true (by first|(with_reducible assumption)|assumption)
                      obtain⟨ad109,e109,hx109_0,hx109_1,hx109_2,hx109_3,hx109_4,hx109_5⟩:=at_T39 HR0.out x5_1 p109 q109;cases e109
                      replace p109:=eq_true p109;replace q109:=eq_true q109;have p110:0≤(x5_1:Int):=of_decide_eq_true (by first|(with_reducible assumption)|assumption)
                      have q110:x5_1<(l0.length:Int):=of_decide_eq_true (by first|(with_reducible assumption)|assumption)
                      obtain⟨ad110,e110,hx110_0,hx110_1,hx110_2,hx110_3,hx110_4,hx110_5⟩:=at_T39 HR0.out x5_1 p110 q110;obtain rfl:ad109=ad110:=(by injection e110)
                      replace p110:=eq_true p110;replace q110:=eq_true q110;have p111:0≤(x5_1:Int):=of_decide_eq_true (by first|(with_reducible assumption)|assumption)
                      have q111:x5_1<(l0.length:Int):=of_decide_eq_true (by first|(with_reducible assumption)|assumption)
                      obtain⟨ad111,e111,hx111_0,hx111_1,hx111_2,hx111_3,hx111_4,hx111_5⟩:=at_T39 HR0.out x5_1 p111 q111;obtain rfl:ad109=ad111:=(by injection e111)
                      replace p111:=eq_true p111;replace q111:=eq_true q111;have p112:0≤(x5_1:Int):=of_decide_eq_true (by first|(with_reducible assumption)|assumption)
                      have q112:x5_1<(l0.length:Int):=of_decide_eq_true (by first|(with_reducible assumption)|assumption)
                      obtain⟨ad112,e112,hx112_0,hx112_1,hx112_2,hx112_3,hx112_4,hx112_5⟩:=at_T39 HR0.out x5_1 p112 q112;obtain rfl:ad109=ad112:=(by injection e112)
                      replace p112:=eq_true p112;replace q112:=eq_true q112;have p113:0≤(x5_1:Int):=of_decide_eq_true (by first|(with_reducible assumption)|assumption)
                      have q113:x5_1<(l0.length:Int):=of_decide_eq_true (by first|(with_reducible assumption)|assumption)
                      obtain⟨ad113,e113,hx113_0,hx113_1,hx113_2,hx113_3,hx113_4,hx113_5⟩:=at_T39 HR0.out x5_1 p113 q113;obtain rfl:ad109=ad113:=(by injection e113)
                      replace p113:=eq_true p113;replace q113:=eq_true q113;have p114:0≤(x5_1:Int):=of_decide_eq_true (by first|(with_reducible assumption)|assumption)
                      have q114:x5_1<(l0.length:Int):=of_decide_eq_true (by first|(with_reducible assumption)|assumption)
                      obtain⟨ad114,e114,hx114_0,hx114_1,hx114_2,hx114_3,hx114_4,hx114_5⟩:=at_T39 HR0.out x5_1 p114 q114;obtain rfl:ad109=ad114:=(by injection e114)
                      replace p114:=eq_true p114;replace q114:=eq_true q114;go_wp2
                      go_roundg k1
                      case measure=>have:=HK1.out;omega
                      case rel=>exact⟨(wrap64 ((wrap64 ((wrap64 ((wrap64 ((wrap64 ((wrap64 (x1_1+1))+1))+1))+1))+1))+1)),(wrap64 (x5_1+1)),(by first|rfl|(simp;done)|(simp[*];done)),(by first|rfl|(simp;done)|(simp[*];done)),H',⟨by have:=HK1.out;omega⟩,by repeat(first|exact Drawn0.refl _|apply Drawn0.step)⟩
                    · rw[if_neg c10]at H
                      have c10b0:(((rd_T39 l0 x5_1).f4.f1)==(wrap64 ((wrap64 ((wrap64 ((wrap64 ((wrap64 (x1_1+1))+1))+1))+1))+1)))=false:=beq_eq_false_iff_ne.mpr c10;have c10b1:(((rd_T39 l0 x5_1).f4.f1) !=(wrap64 ((wrap64 ((wrap64 ((wrap64 ((wrap64 (x1_1+1))+1))+1))+1))+1)))=true:=bne_iff_ne.mpr c10;obtain rfl:=Option.some.inj H;have p109:0≤(x5_1:Int):=of_decide_eq_true (by first|(with_reducible assumption)|assumption)
                      have q109:x5_1<(l0.length:Int):=of_decide_eq_true (by first|(with_reducible assumption)|assumption)
                      obtain⟨ad109,e109,hx109_0,hx109_1,hx109_2,hx109_3,hx109_4,hx109_5⟩:=at_T39 HR0.out x5_1 p109 q109;cases e109
                      replace p109:=eq_true p109;replace q109:=eq_true q109;have p110:0≤(x5_1:Int):=of_decide_eq_true (by first|(with_reducible assumption)|assumption)
                      have q110:x5_1<(l0.length:Int):=of_decide_eq_true (by first|(with_reducible assumption)|assumption)
                      obtain⟨ad110,e110,hx110_0,hx110_1,hx110_2,hx110_3,hx110_4,hx110_5⟩:=at_T39 HR0.out x5_1 p110 q110;obtain rfl:ad109=ad110:=(by injection e110)
                      replace p110:=eq_true p110;replace q110:=eq_true q110;have p111:0≤(x5_1:Int):=of_decide_eq_true (by first|(with_reducible assumption)|assumption)
                      have q111:x5_1<(l0.length:Int):=of_decide_eq_true (by first|(with_reducible assumption)|assumption)
                      obtain⟨ad111,e111,hx111_0,hx111_1,hx111_2,hx111_3,hx111_4,hx111_5⟩:=at_T39 HR0.out x5_1 p111 q111;obtain rfl:ad109=ad111:=(by injection e111)
                      replace p111:=eq_true p111;replace q111:=eq_true q111;have p112:0≤(x5_1:Int):=of_decide_eq_true (by first|(with_reducible assumption)|assumption)
                      have q112:x5_1<(l0.length:Int):=of_decide_eq_true (by first|(with_reducible assumption)|assumption)
                      obtain⟨ad112,e112,hx112_0,hx112_1,hx112_2,hx112_3,hx112_4,hx112_5⟩:=at_T39 HR0.out x5_1 p112 q112;obtain rfl:ad109=ad112:=(by injection e112)
                      replace p112:=eq_true p112;replace q112:=eq_true q112;have p113:0≤(x5_1:Int):=of_decide_eq_true (by first|(with_reducible assumption)|assumption)
                      have q113:x5_1<(l0.length:Int):=of_decide_eq_true (by first|(with_reducible assumption)|assumption)
                      obtain⟨ad113,e113,hx113_0,hx113_1,hx113_2,hx113_3,hx113_4,hx113_5⟩:=at_T39 HR0.out x5_1 p113 q113;obtain rfl:ad109=ad113:=(by injection e113)
                      replace p113:=eq_true p113;replace q113:=eq_true q113;have p114:0≤(x5_1:Int):=of_decide_eq_true (by first|(with_reducible assumption)|assumption)
                      have q114:x5_1<(l0.length:Int):=of_decide_eq_true (by first|(with_reducible assumption)|assumption)
                      obtain⟨ad114,e114,hx114_0,hx114_1,hx114_2,hx114_3,hx114_4,hx114_5⟩:=at_T39 HR0.out x5_1 p114 q114;obtain rfl:ad109=ad114:=(by injection e114)
                      replace p114:=eq_true p114;replace q114:=eq_true q114;go_wp2
                      go_ret
                      exact⟨by first|rfl|(simp;done)|(simp[*];done),by repeat(first|exact Drawn0.refl _|apply Drawn0.step)⟩
                  · rw[if_neg c9]at H
                    have c9b0:(((rd_T39 l0 x5_1).f4.f0)==(wrap64 ((wrap64 ((wrap64 ((wrap64 (x1_1+1))+1))+1))+1)))=false:=beq_eq_false_iff_ne.mpr c9;have c9b1:(((rd_T39 l0 x5_1).f4.f0) !=(wrap64 ((wrap64 ((wrap64 ((wrap64 (x1_1+1))+1))+1))+1)))=true:=bne_iff_ne.mpr c9;obtain rfl:=Option.some.inj H;have p109:0≤(x5_1:Int):=of_decide_eq_true (by first|(with_reducible assumption)|assumption)
                    have q109:x5_1<(l0.length:Int):=of_decide_eq_true (by first|(with_reducible assumption)|assumption)
                    obtain⟨ad109,e109,hx109_0,hx109_1,hx109_2,hx109_3,hx109_4,hx109_5⟩:=at_T39 HR0.out x5_1 p109 q109;cases e109
                    replace p109:=eq_true p109;replace q109:=eq_true q109;have p110:0≤(x5_1:Int):=of_decide_eq_true (by first|(with_reducible assumption)|assumption)
                    have q110:x5_1<(l0.length:Int):=of_decide_eq_true (by first|(with_reducible assumption)|assumption)
                    obtain⟨ad110,e110,hx110_0,hx110_1,hx110_2,hx110_3,hx110_4,hx110_5⟩:=at_T39 HR0.out x5_1 p110 q110;obtain rfl:ad109=ad110:=(by injection e110)
                    replace p110:=eq_true p110;replace q110:=eq_true q110;have p111:0≤(x5_1:Int):=of_decide_eq_true (by first|(with_reducible assumption)|assumption)
                    have q111:x5_1<(l0.length:Int):=of_decide_eq_true (by first|(with_reducible assumption)|assumption)
                    obtain⟨ad111,e111,hx111_0,hx111_1,hx111_2,hx111_3,hx111_4,hx111_5⟩:=at_T39 HR0.out x5_1 p111 q111;obtain rfl:ad109=ad111:=(by injection e111)
                    replace p111:=eq_true p111;replace q111:=eq_true q111;have p112:0≤(x5_1:Int):=of_decide_eq_true (by first|(with_reducible assumption)|assumption)
                    have q112:x5_1<(l0.length:Int):=of_decide_eq_true (by first|(with_reducible assumption)|assumption)
                    obtain⟨ad112,e112,hx112_0,hx112_1,hx112_2,hx112_3,hx112_4,hx112_5⟩:=at_T39 HR0.out x5_1 p112 q112;obtain rfl:ad109=ad112:=(by injection e112)
                    replace p112:=eq_true p112;replace q112:=eq_true q112;have p113:0≤(x5_1:Int):=of_decide_eq_true (by first|(with_reducible assumption)|assumption)
                    have q113:x5_1<(l0.length:Int):=of_decide_eq_true (by first|(with_reducible assumption)|assumption)
                    obtain⟨ad113,e113,hx113_0,hx113_1,hx113_2,hx113_3,hx113_4,hx113_5⟩:=at_T39 HR0.out x5_1 p113 q113;obtain rfl:ad109=ad113:=(by injection e113)
                    replace p113:=eq_true p113;replace q113:=eq_true q113;go_wp2
                    go_ret
                    exact⟨by first|rfl|(simp;done)|(simp[*];done),by repeat(first|exact Drawn0.refl _|apply Drawn0.step)⟩
                · rw[if_neg c8]at H
                  have c8b0:(((rd_T39 l0 x5_1).f3)==(wrap64 ((wrap64 ((wrap64 (x1_1+1))+1))+1)))=false:=beq_eq_false_iff_ne.mpr c8;have c8b1:(((rd_T39 l0 x5_1).f3) !=(wrap64 ((wrap64 ((wrap64 (x1_1+1))+1))+1)))=true:=bne_iff_ne.mpr c8;obtain rfl:=Option.some.inj H;have p109:0≤(x5_1:Int):=of_decide_eq_true (by first|(with_reducible assumption)|assumption)
                  have q109:x5_1<(l0.length:Int):=of_decide_eq_true (by first|(with_reducible assumption)|assumption)
                  obtain⟨ad109,e109,hx109_0,hx109_1,hx109_2,hx109_3,hx109_4,hx109_5⟩:=at_T39 HR0.out x5_1 p109 q109;cases e109
                  replace p109:=eq_true p109;replace q109:=eq_true q109;have p110:0≤(x5_1:Int):=of_decide_eq_true (by first|(with_reducible assumption)|assumption)
                  have q110:x5_1<(l0.length:Int):=of_decide_eq_true (by first|(with_reducible assumption)|assumption)
                  obtain⟨ad110,e110,hx110_0,hx110_1,hx110_2,hx110_3,hx110_4,hx110_5⟩:=at_T39 HR0.out x5_1 p110 q110;obtain rfl:ad109=ad110:=(by injection e110)
                  replace p110:=eq_true p110;replace q110:=eq_true q110;have p111:0≤(x5_1:Int):=of_decide_eq_true (by first|(with_reducible assumption)|assumption)
                  have q111:x5_1<(l0.length:Int):=of_decide_eq_true (by first|(with_reducible assumption)|assumption)
                  obtain⟨ad111,e111,hx111_0,hx111_1,hx111_2,hx111_3,hx111_4,hx111_5⟩:=at_T39 HR0.out x5_1 p111 q111;obtain rfl:ad109=ad111:=(by injection e111)
                  replace p111:=eq_true p111;replace q111:=eq_true q111;have p112:0≤(x5_1:Int):=of_decide_eq_true (by first|(with_reducible assumption)|assumption)
                  have q112:x5_1<(l0.length:Int):=of_decide_eq_true (by first|(with_reducible assumption)|assumption)
                  obtain⟨ad112,e112,hx112_0,hx112_1,hx112_2,hx112_3,hx112_4,hx112_5⟩:=at_T39 HR0.out x5_1 p112 q112;obtain rfl:ad109=ad112:=(by injection e112)
                  replace p112:=eq_true p112;replace q112:=eq_true q112;go_wp2
                  go_ret
                  exact⟨by first|rfl|(simp;done)|(simp[*];done),by repeat(first|exact Drawn0.refl _|apply Drawn0.step)⟩
              · rw[if_neg c7]at H
                have c7b0:(((rd_T39 l0 x5_1).f2)==(wrap64 ((wrap64 (x1_1+1))+1)))=false:=beq_eq_false_iff_ne.mpr c7;have c7b1:(((rd_T39 l0 x5_1).f2) !=(wrap64 ((wrap64 (x1_1+1))+1)))=true:=bne_iff_ne.mpr c7;obtain rfl:=Option.some.inj H;have p109:0≤(x5_1:Int):=of_decide_eq_true (by first|(with_reducible assumption)|assumption)
                have q109:x5_1<(l0.length:Int):=of_decide_eq_true (by first|(with_reducible assumption)|assumption)
                obtain⟨ad109,e109,hx109_0,hx109_1,hx109_2,hx109_3,hx109_4,hx109_5⟩:=at_T39 HR0.out x5_1 p109 q109;cases e109
                replace p109:=eq_true p109;replace q109:=eq_true q109;have p110:0≤(x5_1:Int):=of_decide_eq_true (by first|(with_reducible assumption)|assumption)
                have q110:x5_1<(l0.length:Int):=of_decide_eq_true (by first|(with_reducible assumption)|assumption)
                obtain⟨ad110,e110,hx110_0,hx110_1,hx110_2,hx110_3,hx110_4,hx110_5⟩:=at_T39 HR0.out x5_1 p110 q110;obtain rfl:ad109=ad110:=(by injection e110)
                replace p110:=eq_true p110;replace q110:=eq_true q110;have p111:0≤(x5_1:Int):=of_decide_eq_true (by first|(with_reducible assumption)|assumption)
                have q111:x5_1<(l0.length:Int):=of_decide_eq_true (by first|(with_reducible assumption)|assumption)
                obtain⟨ad111,e111,hx111_0,hx111_1,hx111_2,hx111_3,hx111_4,hx111_5⟩:=at_T39 HR0.out x5_1 p111 q111;obtain rfl:ad109=ad111:=(by injection e111)
                replace p111:=eq_true p111;replace q111:=eq_true q111;go_wp2
                go_ret
                exact⟨by first|rfl|(simp;done)|(simp[*];done),by repeat(first|exact Drawn0.refl _|apply Drawn0.step)⟩
            · rw[if_neg c6]at H
              have c6b0:(((rd_T39 l0 x5_1).f1)==(wrap64 (x1_1+1)))=false:=beq_eq_false_iff_ne.mpr c6;have c6b1:(((rd_T39 l0 x5_1).f1) !=(wrap64 (x1_1+1)))=true:=bne_iff_ne.mpr c6;obtain rfl:=Option.some.inj H;have p109:0≤(x5_1:Int):=of_decide_eq_true (by first|(with_reducible assumption)|assumption)
              have q109:x5_1<(l0.length:Int):=of_decide_eq_true (by first|(with_reducible assumption)|assumption)
              obtain⟨ad109,e109,hx109_0,hx109_1,hx109_2,hx109_3,hx109_4,hx109_5⟩:=at_T39 HR0.out x5_1 p109 q109;cases e109
              replace p109:=eq_true p109;replace q109:=eq_true q109;have p110:0≤(x5_1:Int):=of_decide_eq_true (by first|(with_reducible assumption)|assumption)
              have q110:x5_1<(l0.length:Int):=of_decide_eq_true (by first|(with_reducible assumption)|assumption)
              obtain⟨ad110,e110,hx110_0,hx110_1,hx110_2,hx110_3,hx110_4,hx110_5⟩:=at_T39 HR0.out x5_1 p110 q110;obtain rfl:ad109=ad110:=(by injection e110)
              replace p110:=eq_true p110;replace q110:=eq_true q110;go_wp2
              go_ret
              exact⟨by first|rfl|(simp;done)|(simp[*];done),by repeat(first|exact Drawn0.refl _|apply Drawn0.step)⟩
          · rw[if_neg c5]at H
            have c5b0:(((rd_T39 l0 x5_1).f0)==x1_1)=false:=beq_eq_false_iff_ne.mpr c5;have c5b1:(((rd_T39 l0 x5_1).f0) !=x1_1)=true:=bne_iff_ne.mpr c5;obtain rfl:=Option.some.inj H;have p109:0≤(x5_1:Int):=of_decide_eq_true (by first|(with_reducible assumption)|assumption)
            have q109:x5_1<(l0.length:Int):=of_decide_eq_true (by first|(with_reducible assumption)|assumption)
            obtain⟨ad109,e109,hx109_0,hx109_1,hx109_2,hx109_3,hx109_4,hx109_5⟩:=at_T39 HR0.out x5_1 p109 q109;cases e109
            replace p109:=eq_true p109;replace q109:=eq_true q109;go_wp2
            go_ret
            exact⟨by first|rfl|(simp;done)|(simp[*];done),by repeat(first|exact Drawn0.refl _|apply Drawn0.step)⟩
        · rw[if_neg c4]at H
          exact absurd H (by simp)
      · rw[if_neg c3]at H
        have c3b0:decide (x5_1<(l0.length:Int))=false:=decide_eq_false c3;clear c3;obtain rfl:=Option.some.inj H;go_wp2
        go_ret
        exact⟨by first|rfl|(simp;done)|(simp[*];done),by repeat(first|exact Drawn0.refl _|apply Drawn0.step)⟩
end Go.Proofs.YtmklpbmlgjkbiaaGreatDoor.PS
end
section
namespace Go.Proofs.YtmklpbmlgjkbiaaGreatDoor.PS
open Go.RowKit Go.Proofs.YtmklpbmlgjkbiaaGreatDoorW.PrintWords Go.Proofs.YtmklpbmlgjkbiaaGreatDoorW.PrintLast Go.Proofs.YtmklpbmlgjkbiaaGreatDoorW.PrintMore
attribute [local go_sem] max2_int min2_int max_two min_two max_three min_three max_four min_four   -- for this text's walks alone
mutual
def spec_l2Form.j0:Nat→Int→Bool→Option (List Bool)
  |0,_,_=>none
  |k+1,x3,x7=>if x7=true then(some (([true,true,false,false]:List Bool)))else(if x3=4 then(spec_l2Form.j1 k x3 (x3==4))else(if x3=11 then(spec_l2Form.j1 k x3 (x3==11))else(if x3=12 then(spec_l2Form.j1 k x3 (x3==12))else(spec_l2Form.j1 k x3 (x3==14)))))
def spec_l2Form.j1:Nat→Int→Bool→Option (List Bool)
  |0,_,_=>none
  |k+1,x3,x13=>if x13=true then(some (([true,false,false,false]:List Bool)))else(if x3=5 then(some (([true,false,true,false]:List Bool)))else(if x3=8 then(some (([true,true,true,true]:List Bool)))else(if x3=9 then(some (([false,false,true,false]:List Bool)))else(if x3=10 then(some (([true,false,true,true]:List Bool)))else(if x3=13 then(some (([false,false,false,true]:List Bool)))else(some (([]:List Bool))))))))
end
def spec_l2Form.f (k:Nat) (a0:Int):Option (List Bool):=if a0=1 then(some (([true,false,false,true]:List Bool)))else(if a0=2 then(spec_l2Form.j0 k a0 (a0==2))else(if a0=3 then(spec_l2Form.j0 k a0 (a0==3))else(if a0=6 then(spec_l2Form.j0 k a0 (a0==6))else(spec_l2Form.j0 k a0 (a0==7)))))
theorem spec_l2Form.mono_l: ∀k,(∀y0 y1,LeO (spec_l2Form.j0 k y0 y1) (spec_l2Form.j0 (k+1) y0 y1))∧(∀y0 y1,LeO (spec_l2Form.j1 k y0 y1) (spec_l2Form.j1 (k+1) y0 y1))
  |0=>⟨fun _ _ r h=>by simp[spec_l2Form.j0]at h,fun _ _ r h=>by simp[spec_l2Form.j1]at h⟩
  |k+1=>by
    obtain⟨ih0,ih1⟩:=spec_l2Form.mono_l k;refine⟨?_,?_⟩
    · intro y0 y1
      unfold spec_l2Form.j0;repeat' first
      |(with_reducible exact ih0 _ _)
      |(with_reducible exact ih1 _ _)
      |(with_reducible exact LeO.refl _)
      |(with_reducible exact LeO.none _)
      |(with_reducible refine LeO.ite ?_ ?_)
      |(with_reducible refine LeO.bind ?_ (fun _=> ?_))
      |exact ih0 _ _
      |exact ih1 _ _
      |exact LeO.none _
      |refine LeO.ite ?_ ?_
      |refine LeO.bind ?_ (fun _=> ?_)
    · intro y0 y1
      unfold spec_l2Form.j1;repeat' first
      |(with_reducible exact ih0 _ _)
      |(with_reducible exact ih1 _ _)
      |(with_reducible exact LeO.refl _)
      |(with_reducible exact LeO.none _)
      |(with_reducible refine LeO.ite ?_ ?_)
      |(with_reducible refine LeO.bind ?_ (fun _=> ?_))
      |exact ih0 _ _
      |exact ih1 _ _
      |exact LeO.none _
      |refine LeO.ite ?_ ?_
      |refine LeO.bind ?_ (fun _=> ?_)
theorem spec_l2Form.mono: ∀a0 k,LeO (spec_l2Form.f k a0) (spec_l2Form.f (k+1) a0):=by
  intro a0 k;obtain⟨ih0,ih1⟩:=spec_l2Form.mono_l k;unfold spec_l2Form.f
  repeat' first
      |(with_reducible exact ih0 _ _)
      |(with_reducible exact ih1 _ _)
      |(with_reducible exact LeO.refl _)
      |(with_reducible exact LeO.none _)
      |(with_reducible refine LeO.ite ?_ ?_)
      |(with_reducible refine LeO.bind ?_ (fun _=> ?_))
      |exact ih0 _ _
      |exact ih1 _ _
      |exact LeO.none _
      |refine LeO.ite ?_ ?_
      |refine LeO.bind ?_ (fun _=> ?_)
theorem spec_l2Form.calls (k:Nat) (a0:Int) (r:List Bool) (w:World) (h:spec_l2Form.f k a0=some r):
    Calls Tryz.prog 38 #[.int .i64 a0] w fun e w'=> ∃v0_:Value,e= .returned (v0_)∧Kd.R Kd.bool 4 w' w.heap.size (fun _=>True) v0_ r∧Below w.heap.size w w':=by
  have HB:=Aside0.mk (Below.refl w.heap.size w);have H:(if a0=1 then(some (([true,false,false,true]:List Bool)))else(if a0=2 then(spec_l2Form.j0 k a0 (a0==2))else(if a0=3 then(spec_l2Form.j0 k a0 (a0==3))else(if a0=6 then(spec_l2Form.j0 k a0 (a0==6))else(spec_l2Form.j0 k a0 (a0==7))))))=some r:=h
  clear h;by_cases c2:a0=1
  · rw[if_pos c2]at H
    have c2b0:(a0==1)=true:=beq_iff_eq.mpr c2;have c2b1:(a0 !=1)=false:=bne_eq_false_iff_eq.mpr c2;clear c2;obtain⟨y115,hy115⟩: ∃y_:List Bool,y_=(([true,false,false,true]:List Bool)):=⟨_,rfl⟩;replace H:(some y115)=some r:=by first|(rw[hy115];with_reducible exact H)|(have H2_:=(Option.bind_some _ _).symm.trans H;rw[hy115];with_reducible exact H2_)|(have H2_:=(Option.bind_some _ _).symm.trans H;with_reducible exact H2_)|with_reducible exact H|(rw[hy115];exact H)|exact H
    have Ny115:=Aside0.mk hy115;clear hy115;obtain rfl:=Option.some.inj H;go_enter Tryz.func38,Tryz.ntmps38
    go_wp2_with (first|((with_reducible refine gate_dst (N:=6) rfl ?_);refine Kd.R_lit Kd.bool _ 4 ?hg (N:=6) ?hd (xs:=([true,false,false,true]:List Bool)) (inner:=[.bool true,.bool false,.bool false,.bool true]) (ok:=fun _=>True) (okp:=fun _=>True) ?hr ?hp (fun _ hk=>hk) trivial (Below.refl _ _) (Nat.le_refl _) (by simp) ?_;(case hd=>rfl);(case hg=>rfl);(case hr=>first|(go_simp;done)|(go_simp;rfl));(case hp=>exact(Reps.one (show Kd.M Kd.bool _ _ _ true [.bool true]from rfl) (Reps.one (show Kd.M Kd.bool _ _ _ false [.bool false]from rfl) (Reps.one (show Kd.M Kd.bool _ _ _ false [.bool false]from rfl) (Reps.one (show Kd.M Kd.bool _ _ _ true [.bool true]from rfl) (Reps.none _ _))))));intro v116 w3 ho4 hb hg_ hnew_;clear hg_ hnew_;(first|rw[←Ny115.out]at ho4|(simp only[Int.reduceToNat]at ho4;rw[←Ny115.out]at ho4));have n0_:=Aside0.mk (Kd.R_lower ho4 (below_size (by repeat(first|(with_reducible first|exact HB.out|apply below_alloc|apply pw_below_drewN|apply below_drew1)|exact HB.out))));have n1_:=Aside0.mk (below_step (by repeat(first|(with_reducible first|exact HB.out|apply below_alloc|apply pw_below_drewN|apply below_drew1)|exact HB.out)) hb);clear HB;have HO117:=n0_;have HB:=n1_;clear n0_ n1_;clear hb ho4))
    go_ret
    exact⟨_,by first|rfl|(simp[errW_none,errW_some]<;>rfl)|(simp[*,errW_none,errW_some]<;>rfl),by(with_reducible repeat(first|apply Kd.R_alloc|apply Kd.R_drewN|apply Kd.R_drew));exact HO117.out,by repeat(first|(with_reducible first|exact HB.out|apply below_alloc|apply pw_below_drewN|apply below_drew1)|exact HB.out)⟩
  · rw[if_neg c2]at H
    have c2b0:(a0==1)=false:=beq_eq_false_iff_ne.mpr c2;have c2b1:(a0 !=1)=true:=bne_iff_ne.mpr c2;have HC5:=Aside0.mk H;clear H;go_enter Tryz.func38,Tryz.ntmps38
    go_upto_if 7 with (fail)
    go_cut [7] (fun v7 wc=> ∃ (kq:Nat) (x7_4:Bool),v7= .bool x7_4∧Aside0 (spec_l2Form.j0 kq a0 x7_4=some r)∧Aside0 (kq≤k)∧Aside0 (Below w.heap.size w wc))
    case first=>
      have H:=HC5.out;clear HC5;by_cases c6:a0=2
      · rw[if_pos c6]at H
        have c6b0:(a0==2)=true:=beq_iff_eq.mpr c6;have c6b1:(a0 !=2)=false:=bne_eq_false_iff_eq.mpr c6;clear c6;(first|rw[c6b0]|(simp only[i64_w,i32_w];rw[c6b0])|skip)
        have H':=Aside0.mk H;clear H;go_wp2
        go_meet
        case rel=>exact⟨_,((a0==2)),(by first|rfl|(simp;done)|(simp[*];done)),H',⟨by first|omega|exact Nat.le_refl _⟩,⟨by repeat(first|(with_reducible first|exact HB.out|apply below_alloc|apply pw_below_drewN|apply below_drew1)|exact HB.out)⟩⟩
      · rw[if_neg c6]at H
        have c6b0:(a0==2)=false:=beq_eq_false_iff_ne.mpr c6;have c6b1:(a0 !=2)=true:=bne_iff_ne.mpr c6;(first|rw[c6b0]|(simp only[i64_w,i32_w];rw[c6b0])|skip)
        by_cases c7:a0=3
        · rw[if_pos c7]at H
          have c7b0:(a0==3)=true:=beq_iff_eq.mpr c7;have c7b1:(a0 !=3)=false:=bne_eq_false_iff_eq.mpr c7;clear c7;have H':=Aside0.mk H;clear H;go_wp2
          go_meet
          case rel=>exact⟨_,((a0==3)),(by first|rfl|(simp;done)|(simp[*];done)),H',⟨by first|omega|exact Nat.le_refl _⟩,⟨by repeat(first|(with_reducible first|exact HB.out|apply below_alloc|apply pw_below_drewN|apply below_drew1)|exact HB.out)⟩⟩
        · rw[if_neg c7]at H
          have c7b0:(a0==3)=false:=beq_eq_false_iff_ne.mpr c7;have c7b1:(a0 !=3)=true:=bne_iff_ne.mpr c7;by_cases c8:a0=6
          · rw[if_pos c8]at H
            have c8b0:(a0==6)=true:=beq_iff_eq.mpr c8;have c8b1:(a0 !=6)=false:=bne_eq_false_iff_eq.mpr c8;clear c8;have H':=Aside0.mk H;clear H;go_wp2
            go_meet
            case rel=>exact⟨_,((a0==6)),(by first|rfl|(simp;done)|(simp[*];done)),H',⟨by first|omega|exact Nat.le_refl _⟩,⟨by repeat(first|(with_reducible first|exact HB.out|apply below_alloc|apply pw_below_drewN|apply below_drew1)|exact HB.out)⟩⟩
          · rw[if_neg c8]at H
            have c8b0:(a0==6)=false:=beq_eq_false_iff_ne.mpr c8;have c8b1:(a0 !=6)=true:=bne_iff_ne.mpr c8;have H':=Aside0.mk H;clear H;go_wp2
            go_meet
            case rel=>exact⟨_,((a0==7)),(by first|rfl|(simp;done)|(simp[*];done)),H',⟨by first|omega|exact Nat.le_refl _⟩,⟨by repeat(first|(with_reducible first|exact HB.out|apply below_alloc|apply pw_below_drewN|apply below_drew1)|exact HB.out)⟩⟩
    case rest=>
      clear HC5;try clear c2
      try clear c2b0
      try clear c2b1
      try clear p2
      try clear c3
      try clear c6
      try clear c6b0
      try clear c6b1
      try clear c7
      try clear c7b0
      try clear c7b1
      try clear c8
      try clear c8b0
      try clear c8b1
      obtain⟨kq,x7_4,rfl,HA,HJ4,HB⟩:=hcut;cases kq with
      |zero=>exact absurd HA.out (by simp[spec_l2Form.j0])
      |succ kj4=>
        have H:=HA.out;clear HA;simp only[spec_l2Form.j0]at H
        by_cases c9:x7_4=true
        · subst c9
          have H1:(some (([true,true,false,false]:List Bool)))=some r:=by rw[if_pos rfl]at H;exact H
          clear H;have H:=H1;clear H1;obtain⟨y118,hy118⟩: ∃y_:List Bool,y_=(([true,true,false,false]:List Bool)):=⟨_,rfl⟩;replace H:(some y118)=some r:=by first|(rw[hy118];with_reducible exact H)|(have H2_:=(Option.bind_some _ _).symm.trans H;rw[hy118];with_reducible exact H2_)|(have H2_:=(Option.bind_some _ _).symm.trans H;with_reducible exact H2_)|with_reducible exact H|(rw[hy118];exact H)|exact H
          have Ny118:=Aside0.mk hy118;clear hy118;obtain rfl:=Option.some.inj H;go_wp2_with (first|((with_reducible refine gate_dst (N:=12) rfl ?_);refine Kd.R_lit Kd.bool _ 4 ?hg (N:=12) ?hd (xs:=([true,true,false,false]:List Bool)) (inner:=[.bool true,.bool true,.bool false,.bool false]) (ok:=fun _=>True) (okp:=fun _=>True) ?hr ?hp (fun _ hk=>hk) trivial (Below.refl _ _) (Nat.le_refl _) (by simp) ?_;(case hd=>rfl);(case hg=>rfl);(case hr=>first|(go_simp;done)|(go_simp;rfl));(case hp=>exact(Reps.one (show Kd.M Kd.bool _ _ _ true [.bool true]from rfl) (Reps.one (show Kd.M Kd.bool _ _ _ true [.bool true]from rfl) (Reps.one (show Kd.M Kd.bool _ _ _ false [.bool false]from rfl) (Reps.one (show Kd.M Kd.bool _ _ _ false [.bool false]from rfl) (Reps.none _ _))))));intro v119 w10 ho11 hb hg_ hnew_;clear hg_ hnew_;(first|rw[←Ny118.out]at ho11|(simp only[Int.reduceToNat]at ho11;rw[←Ny118.out]at ho11));have n0_:=Aside0.mk (Kd.R_lower ho11 (below_size (by repeat(first|(with_reducible first|exact HB.out|apply below_alloc|apply pw_below_drewN|apply below_drew1)|exact HB.out))));have n1_:=Aside0.mk (below_step (by repeat(first|(with_reducible first|exact HB.out|apply below_alloc|apply pw_below_drewN|apply below_drew1)|exact HB.out)) hb);clear HB;have HO120:=n0_;have HB:=n1_;clear n0_ n1_;clear hb ho11))
          go_ret
          exact⟨_,by first|rfl|(simp[errW_none,errW_some]<;>rfl)|(simp[*,errW_none,errW_some]<;>rfl),by(with_reducible repeat(first|apply Kd.R_alloc|apply Kd.R_drewN|apply Kd.R_drew));exact HO120.out,by repeat(first|(with_reducible first|exact HB.out|apply below_alloc|apply pw_below_drewN|apply below_drew1)|exact HB.out)⟩
        · replace c9:=Bool.eq_false_iff.mpr c9
          subst c9;have H1:(if a0=4 then(spec_l2Form.j1 kj4 a0 (a0==4))else(if a0=11 then(spec_l2Form.j1 kj4 a0 (a0==11))else(if a0=12 then(spec_l2Form.j1 kj4 a0 (a0==12))else(spec_l2Form.j1 kj4 a0 (a0==14)))))=some r:=by rw[if_neg (show¬(false=true) by decide)]at H;exact H
          clear H;have H:=H1;clear H1;have HC12:=Aside0.mk H;clear H;go_upto_if 13 with (fail)
          go_cut [13] (fun v13 wc=> ∃ (kq:Nat) (x13_11:Bool),v13= .bool x13_11∧Aside0 (spec_l2Form.j1 kq a0 x13_11=some r)∧Aside0 (kq≤kj4)∧Aside0 (Below w.heap.size w wc))
          case first=>
            have H:=HC12.out;clear HC12;by_cases c13:a0=4
            · rw[if_pos c13]at H
              have c13b0:(a0==4)=true:=beq_iff_eq.mpr c13;have c13b1:(a0 !=4)=false:=bne_eq_false_iff_eq.mpr c13;clear c13;(first|rw[c13b0]|(simp only[i64_w,i32_w];rw[c13b0])|skip)
              have H':=Aside0.mk H;clear H;go_wp2
              go_meet
              case rel=>exact⟨_,((a0==4)),(by first|rfl|(simp;done)|(simp[*];done)),H',⟨by have:=HJ4.out;first|omega|exact Nat.le_refl _⟩,⟨by repeat(first|(with_reducible first|exact HB.out|apply below_alloc|apply pw_below_drewN|apply below_drew1)|exact HB.out)⟩⟩
            · rw[if_neg c13]at H
              have c13b0:(a0==4)=false:=beq_eq_false_iff_ne.mpr c13;have c13b1:(a0 !=4)=true:=bne_iff_ne.mpr c13;(first|rw[c13b0]|(simp only[i64_w,i32_w];rw[c13b0])|skip)
              by_cases c14:a0=11
              · rw[if_pos c14]at H
                have c14b0:(a0==11)=true:=beq_iff_eq.mpr c14;have c14b1:(a0 !=11)=false:=bne_eq_false_iff_eq.mpr c14;clear c14;have H':=Aside0.mk H;clear H;go_wp2
                go_meet
                case rel=>exact⟨_,((a0==11)),(by first|rfl|(simp;done)|(simp[*];done)),H',⟨by have:=HJ4.out;first|omega|exact Nat.le_refl _⟩,⟨by repeat(first|(with_reducible first|exact HB.out|apply below_alloc|apply pw_below_drewN|apply below_drew1)|exact HB.out)⟩⟩
              · rw[if_neg c14]at H
                have c14b0:(a0==11)=false:=beq_eq_false_iff_ne.mpr c14;have c14b1:(a0 !=11)=true:=bne_iff_ne.mpr c14;by_cases c15:a0=12
                · rw[if_pos c15]at H
                  have c15b0:(a0==12)=true:=beq_iff_eq.mpr c15;have c15b1:(a0 !=12)=false:=bne_eq_false_iff_eq.mpr c15;clear c15;have H':=Aside0.mk H;clear H;go_wp2
                  go_meet
                  case rel=>exact⟨_,((a0==12)),(by first|rfl|(simp;done)|(simp[*];done)),H',⟨by have:=HJ4.out;first|omega|exact Nat.le_refl _⟩,⟨by repeat(first|(with_reducible first|exact HB.out|apply below_alloc|apply pw_below_drewN|apply below_drew1)|exact HB.out)⟩⟩
                · rw[if_neg c15]at H
                  have c15b0:(a0==12)=false:=beq_eq_false_iff_ne.mpr c15;have c15b1:(a0 !=12)=true:=bne_iff_ne.mpr c15;have H':=Aside0.mk H;clear H;go_wp2
                  go_meet
                  case rel=>exact⟨_,((a0==14)),(by first|rfl|(simp;done)|(simp[*];done)),H',⟨by have:=HJ4.out;first|omega|exact Nat.le_refl _⟩,⟨by repeat(first|(with_reducible first|exact HB.out|apply below_alloc|apply pw_below_drewN|apply below_drew1)|exact HB.out)⟩⟩
          case rest=>
            clear HC12;try clear c1
            try clear c2
            try clear c2b0
            try clear c2b1
            try clear p2
            try clear c3
            try clear c6
            try clear c6b0
            try clear c6b1
            try clear c7
            try clear c7b0
            try clear c7b1
            try clear c8
            try clear c8b0
            try clear c8b1
            try clear c9
            try clear c13
            try clear c13b0
            try clear c13b1
            try clear c14
            try clear c14b0
            try clear c14b1
            try clear c15
            try clear c15b0
            try clear c15b1
            try clear p2
            obtain⟨kq,x13_11,rfl,HA,HJ11,HB⟩:=hcut;cases kq with
            |zero=>exact absurd HA.out (by simp[spec_l2Form.j1])
            |succ kj11=>
              have H:=HA.out;clear HA;simp only[spec_l2Form.j1]at H
              by_cases c16:x13_11=true
              · subst c16
                have H1:(some (([true,false,false,false]:List Bool)))=some r:=by rw[if_pos rfl]at H;exact H
                clear H;have H:=H1;clear H1;obtain⟨y121,hy121⟩: ∃y_:List Bool,y_=(([true,false,false,false]:List Bool)):=⟨_,rfl⟩;replace H:(some y121)=some r:=by first|(rw[hy121];with_reducible exact H)|(have H2_:=(Option.bind_some _ _).symm.trans H;rw[hy121];with_reducible exact H2_)|(have H2_:=(Option.bind_some _ _).symm.trans H;with_reducible exact H2_)|with_reducible exact H|(rw[hy121];exact H)|exact H
                have Ny121:=Aside0.mk hy121;clear hy121;obtain rfl:=Option.some.inj H;go_wp2_with (first|((with_reducible refine gate_dst (N:=18) rfl ?_);refine Kd.R_lit Kd.bool _ 4 ?hg (N:=18) ?hd (xs:=([true,false,false,false]:List Bool)) (inner:=[.bool true,.bool false,.bool false,.bool false]) (ok:=fun _=>True) (okp:=fun _=>True) ?hr ?hp (fun _ hk=>hk) trivial (Below.refl _ _) (Nat.le_refl _) (by simp) ?_;(case hd=>rfl);(case hg=>rfl);(case hr=>first|(go_simp;done)|(go_simp;rfl));(case hp=>exact(Reps.one (show Kd.M Kd.bool _ _ _ true [.bool true]from rfl) (Reps.one (show Kd.M Kd.bool _ _ _ false [.bool false]from rfl) (Reps.one (show Kd.M Kd.bool _ _ _ false [.bool false]from rfl) (Reps.one (show Kd.M Kd.bool _ _ _ false [.bool false]from rfl) (Reps.none _ _))))));intro v122 w17 ho18 hb hg_ hnew_;clear hg_ hnew_;(first|rw[←Ny121.out]at ho18|(simp only[Int.reduceToNat]at ho18;rw[←Ny121.out]at ho18));have n0_:=Aside0.mk (Kd.R_lower ho18 (below_size (by repeat(first|(with_reducible first|exact HB.out|apply below_alloc|apply pw_below_drewN|apply below_drew1)|exact HB.out))));have n1_:=Aside0.mk (below_step (by repeat(first|(with_reducible first|exact HB.out|apply below_alloc|apply pw_below_drewN|apply below_drew1)|exact HB.out)) hb);clear HB;have HO123:=n0_;have HB:=n1_;clear n0_ n1_;clear hb ho18))
                go_ret
                exact⟨_,by first|rfl|(simp[errW_none,errW_some]<;>rfl)|(simp[*,errW_none,errW_some]<;>rfl),by(with_reducible repeat(first|apply Kd.R_alloc|apply Kd.R_drewN|apply Kd.R_drew));exact HO123.out,by repeat(first|(with_reducible first|exact HB.out|apply below_alloc|apply pw_below_drewN|apply below_drew1)|exact HB.out)⟩
              · replace c16:=Bool.eq_false_iff.mpr c16
                subst c16;have H1:(if a0=5 then(some (([true,false,true,false]:List Bool)))else(if a0=8 then(some (([true,true,true,true]:List Bool)))else(if a0=9 then(some (([false,false,true,false]:List Bool)))else(if a0=10 then(some (([true,false,true,true]:List Bool)))else(if a0=13 then(some (([false,false,false,true]:List Bool)))else(some (([]:List Bool))))))))=some r:=by rw[if_neg (show¬(false=true) by decide)]at H;exact H
                clear H;have H:=H1;clear H1;by_cases c19:a0=5
                · rw[if_pos c19]at H
                  have c19b0:(a0==5)=true:=beq_iff_eq.mpr c19;have c19b1:(a0 !=5)=false:=bne_eq_false_iff_eq.mpr c19;clear c19;obtain⟨y124,hy124⟩: ∃y_:List Bool,y_=(([true,false,true,false]:List Bool)):=⟨_,rfl⟩;replace H:(some y124)=some r:=by first|(rw[hy124];with_reducible exact H)|(have H2_:=(Option.bind_some _ _).symm.trans H;rw[hy124];with_reducible exact H2_)|(have H2_:=(Option.bind_some _ _).symm.trans H;with_reducible exact H2_)|with_reducible exact H|(rw[hy124];exact H)|exact H
                  have Ny124:=Aside0.mk hy124;clear hy124;obtain rfl:=Option.some.inj H;go_wp2_with (first|((with_reducible refine gate_dst (N:=21) rfl ?_);refine Kd.R_lit Kd.bool _ 4 ?hg (N:=21) ?hd (xs:=([true,false,true,false]:List Bool)) (inner:=[.bool true,.bool false,.bool true,.bool false]) (ok:=fun _=>True) (okp:=fun _=>True) ?hr ?hp (fun _ hk=>hk) trivial (Below.refl _ _) (Nat.le_refl _) (by simp) ?_;(case hd=>rfl);(case hg=>rfl);(case hr=>first|(go_simp;done)|(go_simp;rfl));(case hp=>exact(Reps.one (show Kd.M Kd.bool _ _ _ true [.bool true]from rfl) (Reps.one (show Kd.M Kd.bool _ _ _ false [.bool false]from rfl) (Reps.one (show Kd.M Kd.bool _ _ _ true [.bool true]from rfl) (Reps.one (show Kd.M Kd.bool _ _ _ false [.bool false]from rfl) (Reps.none _ _))))));intro v125 w20 ho21 hb hg_ hnew_;clear hg_ hnew_;(first|rw[←Ny124.out]at ho21|(simp only[Int.reduceToNat]at ho21;rw[←Ny124.out]at ho21));have n0_:=Aside0.mk (Kd.R_lower ho21 (below_size (by repeat(first|(with_reducible first|exact HB.out|apply below_alloc|apply pw_below_drewN|apply below_drew1)|exact HB.out))));have n1_:=Aside0.mk (below_step (by repeat(first|(with_reducible first|exact HB.out|apply below_alloc|apply pw_below_drewN|apply below_drew1)|exact HB.out)) hb);clear HB;have HO126:=n0_;have HB:=n1_;clear n0_ n1_;clear hb ho21))
                  go_ret
                  exact⟨_,by first|rfl|(simp[errW_none,errW_some]<;>rfl)|(simp[*,errW_none,errW_some]<;>rfl),by(with_reducible repeat(first|apply Kd.R_alloc|apply Kd.R_drewN|apply Kd.R_drew));exact HO126.out,by repeat(first|(with_reducible first|exact HB.out|apply below_alloc|apply pw_below_drewN|apply below_drew1)|exact HB.out)⟩
                · rw[if_neg c19]at H
                  have c19b0:(a0==5)=false:=beq_eq_false_iff_ne.mpr c19;have c19b1:(a0 !=5)=true:=bne_iff_ne.mpr c19;by_cases c22:a0=8
                  · rw[if_pos c22]at H
                    have c22b0:(a0==8)=true:=beq_iff_eq.mpr c22;have c22b1:(a0 !=8)=false:=bne_eq_false_iff_eq.mpr c22;clear c22;obtain⟨y127,hy127⟩: ∃y_:List Bool,y_=(([true,true,true,true]:List Bool)):=⟨_,rfl⟩;replace H:(some y127)=some r:=by first|(rw[hy127];with_reducible exact H)|(have H2_:=(Option.bind_some _ _).symm.trans H;rw[hy127];with_reducible exact H2_)|(have H2_:=(Option.bind_some _ _).symm.trans H;with_reducible exact H2_)|with_reducible exact H|(rw[hy127];exact H)|exact H
                    have Ny127:=Aside0.mk hy127;clear hy127;obtain rfl:=Option.some.inj H;go_wp2_with (first|((with_reducible refine gate_dst (N:=24) rfl ?_);refine Kd.R_lit Kd.bool _ 4 ?hg (N:=24) ?hd (xs:=([true,true,true,true]:List Bool)) (inner:=[.bool true,.bool true,.bool true,.bool true]) (ok:=fun _=>True) (okp:=fun _=>True) ?hr ?hp (fun _ hk=>hk) trivial (Below.refl _ _) (Nat.le_refl _) (by simp) ?_;(case hd=>rfl);(case hg=>rfl);(case hr=>first|(go_simp;done)|(go_simp;rfl));(case hp=>exact(Reps.one (show Kd.M Kd.bool _ _ _ true [.bool true]from rfl) (Reps.one (show Kd.M Kd.bool _ _ _ true [.bool true]from rfl) (Reps.one (show Kd.M Kd.bool _ _ _ true [.bool true]from rfl) (Reps.one (show Kd.M Kd.bool _ _ _ true [.bool true]from rfl) (Reps.none _ _))))));intro v128 w23 ho24 hb hg_ hnew_;clear hg_ hnew_;(first|rw[←Ny127.out]at ho24|(simp only[Int.reduceToNat]at ho24;rw[←Ny127.out]at ho24));have n0_:=Aside0.mk (Kd.R_lower ho24 (below_size (by repeat(first|(with_reducible first|exact HB.out|apply below_alloc|apply pw_below_drewN|apply below_drew1)|exact HB.out))));have n1_:=Aside0.mk (below_step (by repeat(first|(with_reducible first|exact HB.out|apply below_alloc|apply pw_below_drewN|apply below_drew1)|exact HB.out)) hb);clear HB;have HO129:=n0_;have HB:=n1_;clear n0_ n1_;clear hb ho24))
                    go_ret
                    exact⟨_,by first|rfl|(simp[errW_none,errW_some]<;>rfl)|(simp[*,errW_none,errW_some]<;>rfl),by(with_reducible repeat(first|apply Kd.R_alloc|apply Kd.R_drewN|apply Kd.R_drew));exact HO129.out,by repeat(first|(with_reducible first|exact HB.out|apply below_alloc|apply pw_below_drewN|apply below_drew1)|exact HB.out)⟩
                  · rw[if_neg c22]at H
                    have c22b0:(a0==8)=false:=beq_eq_false_iff_ne.mpr c22;have c22b1:(a0 !=8)=true:=bne_iff_ne.mpr c22;by_cases c25:a0=9
                    · rw[if_pos c25]at H
                      have c25b0:(a0==9)=true:=beq_iff_eq.mpr c25;have c25b1:(a0 !=9)=false:=bne_eq_false_iff_eq.mpr c25;clear c25;obtain⟨y130,hy130⟩: ∃y_:List Bool,y_=(([false,false,true,false]:List Bool)):=⟨_,rfl⟩;replace H:(some y130)=some r:=by first|(rw[hy130];with_reducible exact H)|(have H2_:=(Option.bind_some _ _).symm.trans H;rw[hy130];with_reducible exact H2_)|(have H2_:=(Option.bind_some _ _).symm.trans H;with_reducible exact H2_)|with_reducible exact H|(rw[hy130];exact H)|exact H
                      have Ny130:=Aside0.mk hy130;clear hy130;obtain rfl:=Option.some.inj H;go_wp2_with (first|((with_reducible refine gate_dst (N:=27) rfl ?_);refine Kd.R_lit Kd.bool _ 4 ?hg (N:=27) ?hd (xs:=([false,false,true,false]:List Bool)) (inner:=[.bool false,.bool false,.bool true,.bool false]) (ok:=fun _=>True) (okp:=fun _=>True) ?hr ?hp (fun _ hk=>hk) trivial (Below.refl _ _) (Nat.le_refl _) (by simp) ?_;(case hd=>rfl);(case hg=>rfl);(case hr=>first|(go_simp;done)|(go_simp;rfl));(case hp=>exact(Reps.one (show Kd.M Kd.bool _ _ _ false [.bool false]from rfl) (Reps.one (show Kd.M Kd.bool _ _ _ false [.bool false]from rfl) (Reps.one (show Kd.M Kd.bool _ _ _ true [.bool true]from rfl) (Reps.one (show Kd.M Kd.bool _ _ _ false [.bool false]from rfl) (Reps.none _ _))))));intro v131 w26 ho27 hb hg_ hnew_;clear hg_ hnew_;(first|rw[←Ny130.out]at ho27|(simp only[Int.reduceToNat]at ho27;rw[←Ny130.out]at ho27));have n0_:=Aside0.mk (Kd.R_lower ho27 (below_size (by repeat(first|(with_reducible first|exact HB.out|apply below_alloc|apply pw_below_drewN|apply below_drew1)|exact HB.out))));have n1_:=Aside0.mk (below_step (by repeat(first|(with_reducible first|exact HB.out|apply below_alloc|apply pw_below_drewN|apply below_drew1)|exact HB.out)) hb);clear HB;have HO132:=n0_;have HB:=n1_;clear n0_ n1_;clear hb ho27))
                      go_ret
                      exact⟨_,by first|rfl|(simp[errW_none,errW_some]<;>rfl)|(simp[*,errW_none,errW_some]<;>rfl),by(with_reducible repeat(first|apply Kd.R_alloc|apply Kd.R_drewN|apply Kd.R_drew));exact HO132.out,by repeat(first|(with_reducible first|exact HB.out|apply below_alloc|apply pw_below_drewN|apply below_drew1)|exact HB.out)⟩
                    · rw[if_neg c25]at H
                      have c25b0:(a0==9)=false:=beq_eq_false_iff_ne.mpr c25;have c25b1:(a0 !=9)=true:=bne_iff_ne.mpr c25;by_cases c28:a0=10
                      · rw[if_pos c28]at H
                        have c28b0:(a0==10)=true:=beq_iff_eq.mpr c28;have c28b1:(a0 !=10)=false:=bne_eq_false_iff_eq.mpr c28;clear c28;obtain⟨y133,hy133⟩: ∃y_:List Bool,y_=(([true,false,true,true]:List Bool)):=⟨_,rfl⟩;replace H:(some y133)=some r:=by first|(rw[hy133];with_reducible exact H)|(have H2_:=(Option.bind_some _ _).symm.trans H;rw[hy133];with_reducible exact H2_)|(have H2_:=(Option.bind_some _ _).symm.trans H;with_reducible exact H2_)|with_reducible exact H|(rw[hy133];exact H)|exact H
                        have Ny133:=Aside0.mk hy133;clear hy133;obtain rfl:=Option.some.inj H;go_wp2_with (first|((with_reducible refine gate_dst (N:=30) rfl ?_);refine Kd.R_lit Kd.bool _ 4 ?hg (N:=30) ?hd (xs:=([true,false,true,true]:List Bool)) (inner:=[.bool true,.bool false,.bool true,.bool true]) (ok:=fun _=>True) (okp:=fun _=>True) ?hr ?hp (fun _ hk=>hk) trivial (Below.refl _ _) (Nat.le_refl _) (by simp) ?_;(case hd=>rfl);(case hg=>rfl);(case hr=>first|(go_simp;done)|(go_simp;rfl));(case hp=>exact(Reps.one (show Kd.M Kd.bool _ _ _ true [.bool true]from rfl) (Reps.one (show Kd.M Kd.bool _ _ _ false [.bool false]from rfl) (Reps.one (show Kd.M Kd.bool _ _ _ true [.bool true]from rfl) (Reps.one (show Kd.M Kd.bool _ _ _ true [.bool true]from rfl) (Reps.none _ _))))));intro v134 w29 ho30 hb hg_ hnew_;clear hg_ hnew_;(first|rw[←Ny133.out]at ho30|(simp only[Int.reduceToNat]at ho30;rw[←Ny133.out]at ho30));have n0_:=Aside0.mk (Kd.R_lower ho30 (below_size (by repeat(first|(with_reducible first|exact HB.out|apply below_alloc|apply pw_below_drewN|apply below_drew1)|exact HB.out))));have n1_:=Aside0.mk (below_step (by repeat(first|(with_reducible first|exact HB.out|apply below_alloc|apply pw_below_drewN|apply below_drew1)|exact HB.out)) hb);clear HB;have HO135:=n0_;have HB:=n1_;clear n0_ n1_;clear hb ho30))
                        go_ret
                        exact⟨_,by first|rfl|(simp[errW_none,errW_some]<;>rfl)|(simp[*,errW_none,errW_some]<;>rfl),by(with_reducible repeat(first|apply Kd.R_alloc|apply Kd.R_drewN|apply Kd.R_drew));exact HO135.out,by repeat(first|(with_reducible first|exact HB.out|apply below_alloc|apply pw_below_drewN|apply below_drew1)|exact HB.out)⟩
                      · rw[if_neg c28]at H
                        have c28b0:(a0==10)=false:=beq_eq_false_iff_ne.mpr c28;have c28b1:(a0 !=10)=true:=bne_iff_ne.mpr c28;by_cases c31:a0=13
                        · rw[if_pos c31]at H
                          have c31b0:(a0==13)=true:=beq_iff_eq.mpr c31;have c31b1:(a0 !=13)=false:=bne_eq_false_iff_eq.mpr c31;clear c31;obtain⟨y136,hy136⟩: ∃y_:List Bool,y_=(([false,false,false,true]:List Bool)):=⟨_,rfl⟩;replace H:(some y136)=some r:=by first|(rw[hy136];with_reducible exact H)|(have H2_:=(Option.bind_some _ _).symm.trans H;rw[hy136];with_reducible exact H2_)|(have H2_:=(Option.bind_some _ _).symm.trans H;with_reducible exact H2_)|with_reducible exact H|(rw[hy136];exact H)|exact H
                          have Ny136:=Aside0.mk hy136;clear hy136;obtain rfl:=Option.some.inj H;go_wp2_with (first|((with_reducible refine gate_dst (N:=33) rfl ?_);refine Kd.R_lit Kd.bool _ 4 ?hg (N:=33) ?hd (xs:=([false,false,false,true]:List Bool)) (inner:=[.bool false,.bool false,.bool false,.bool true]) (ok:=fun _=>True) (okp:=fun _=>True) ?hr ?hp (fun _ hk=>hk) trivial (Below.refl _ _) (Nat.le_refl _) (by simp) ?_;(case hd=>rfl);(case hg=>rfl);(case hr=>first|(go_simp;done)|(go_simp;rfl));(case hp=>exact(Reps.one (show Kd.M Kd.bool _ _ _ false [.bool false]from rfl) (Reps.one (show Kd.M Kd.bool _ _ _ false [.bool false]from rfl) (Reps.one (show Kd.M Kd.bool _ _ _ false [.bool false]from rfl) (Reps.one (show Kd.M Kd.bool _ _ _ true [.bool true]from rfl) (Reps.none _ _))))));intro v137 w32 ho33 hb hg_ hnew_;clear hg_ hnew_;(first|rw[←Ny136.out]at ho33|(simp only[Int.reduceToNat]at ho33;rw[←Ny136.out]at ho33));have n0_:=Aside0.mk (Kd.R_lower ho33 (below_size (by repeat(first|(with_reducible first|exact HB.out|apply below_alloc|apply pw_below_drewN|apply below_drew1)|exact HB.out))));have n1_:=Aside0.mk (below_step (by repeat(first|(with_reducible first|exact HB.out|apply below_alloc|apply pw_below_drewN|apply below_drew1)|exact HB.out)) hb);clear HB;have HO138:=n0_;have HB:=n1_;clear n0_ n1_;clear hb ho33))
                          go_ret
                          exact⟨_,by first|rfl|(simp[errW_none,errW_some]<;>rfl)|(simp[*,errW_none,errW_some]<;>rfl),by(with_reducible repeat(first|apply Kd.R_alloc|apply Kd.R_drewN|apply Kd.R_drew));exact HO138.out,by repeat(first|(with_reducible first|exact HB.out|apply below_alloc|apply pw_below_drewN|apply below_drew1)|exact HB.out)⟩
                        · rw[if_neg c31]at H
                          have c31b0:(a0==13)=false:=beq_eq_false_iff_ne.mpr c31;have c31b1:(a0 !=13)=true:=bne_iff_ne.mpr c31;obtain⟨y139,hy139⟩: ∃y_:List Bool,y_=(([]:List Bool)):=⟨_,rfl⟩;replace H:(some y139)=some r:=by first|(rw[hy139];with_reducible exact H)|(have H2_:=(Option.bind_some _ _).symm.trans H;rw[hy139];with_reducible exact H2_)|(have H2_:=(Option.bind_some _ _).symm.trans H;with_reducible exact H2_)|with_reducible exact H|(rw[hy139];exact H)|exact H
                          have Ny139:=Aside0.mk hy139;clear hy139;obtain rfl:=Option.some.inj H;go_wp2_with (first|((with_reducible refine gate_dst (N:=34) rfl ?_);refine Kd.R_lit Kd.bool _ 4 ?hg (N:=34) ?hd (xs:=([]:List Bool)) (inner:=[]) (ok:=fun _=>True) (okp:=fun _=>True) ?hr ?hp (fun _ hk=>hk) trivial (Below.refl _ _) (Nat.le_refl _) (by simp) ?_;(case hd=>rfl);(case hg=>rfl);(case hr=>first|(go_simp;done)|(go_simp;rfl));(case hp=>exact(Reps.none _ _));intro v140 w34 ho35 hb hg_ hnew_;clear hg_ hnew_;(first|rw[←Ny139.out]at ho35|(simp only[Int.reduceToNat]at ho35;rw[←Ny139.out]at ho35));have n0_:=Aside0.mk (Kd.R_lower ho35 (below_size (by repeat(first|(with_reducible first|exact HB.out|apply below_alloc|apply pw_below_drewN|apply below_drew1)|exact HB.out))));have n1_:=Aside0.mk (below_step (by repeat(first|(with_reducible first|exact HB.out|apply below_alloc|apply pw_below_drewN|apply below_drew1)|exact HB.out)) hb);clear HB;have HO141:=n0_;have HB:=n1_;clear n0_ n1_;clear hb ho35))
                          go_ret
                          exact⟨_,by first|rfl|(simp[errW_none,errW_some]<;>rfl)|(simp[*,errW_none,errW_some]<;>rfl),by(with_reducible repeat(first|apply Kd.R_alloc|apply Kd.R_drewN|apply Kd.R_drew));exact HO141.out,by repeat(first|(with_reducible first|exact HB.out|apply below_alloc|apply pw_below_drewN|apply below_drew1)|exact HB.out)⟩
def spec_l6In.f (a0:Int) (a1:Int) (a2:Int):Option (Bool):=if a0≥a1 then(some (decide (a0≤a2)))else(some false)
theorem spec_l6In.calls (a0:Int) (a1:Int) (a2:Int) (r:Bool) (w:World) (h:spec_l6In.f a0 a1 a2=some r):
    Calls Tryz.prog 43 #[.int .i64 a0,.int .i64 a1,.int .i64 a2] w fun e w'=>e= .returned (.bool r)∧Drawn0 w w':=by
  have H:(if a0≥a1 then(some (decide (a0≤a2)))else(some false))=some r:=h
  clear h;by_cases c4:a0≥a1
  · rw[if_pos c4]at H
    have c4b0:decide (a1≤a0)=true:=decide_eq_true c4;clear c4;obtain rfl:=Option.some.inj H;go_enter Tryz.func43,Tryz.ntmps43
    go_wp2
    go_ret
    exact⟨by first|rfl|(simp;done)|(simp[*];done),by repeat(first|exact Drawn0.refl _|apply Drawn0.step)⟩
  · rw[if_neg c4]at H
    have c4b0:decide (a1≤a0)=false:=decide_eq_false c4;clear c4;obtain rfl:=Option.some.inj H;go_enter Tryz.func43,Tryz.ntmps43
    go_wp2
    go_ret
    exact⟨by first|rfl|(simp;done)|(simp[*];done),by repeat(first|exact Drawn0.refl _|apply Drawn0.step)⟩
def spec_ValOk.f (a0_0:Int) (a0_1:Int):Option (Bool):=if a0_0=0 then(some (a0_1==0))else(if a0_0=1 then((spec_l6In.f a0_1 (-99) 99).bind fun t143=>(some t143))else(if a0_0=2 then((spec_l6In.f a0_1 0 9).bind fun t144=>(some t144))else(if a0_0=3 then((spec_l6In.f a0_1 1 6).bind fun t145=>(some t145))else(some false))))
theorem spec_ValOk.calls (a0_0:Int) (a0_1:Int) (r:Bool) (w:World) (h:spec_ValOk.f a0_0 a0_1=some r):
    Calls Tryz.prog 67 #[.agg #[.int .i64 a0_0,.int .i64 a0_1]] w fun e w'=>e= .returned (.bool r)∧Below w.heap.size w w':=by
  have hu37:=Tryz.underlying37;have HB:=Aside0.mk (Below.refl w.heap.size w);have H:(if a0_0=0 then(some (a0_1==0))else(if a0_0=1 then((spec_l6In.f a0_1 (-99) 99).bind fun t143=>(some t143))else(if a0_0=2 then((spec_l6In.f a0_1 0 9).bind fun t144=>(some t144))else(if a0_0=3 then((spec_l6In.f a0_1 1 6).bind fun t145=>(some t145))else(some false)))))=some r:=h
  clear h;by_cases c2:a0_0=0
  · rw[if_pos c2]at H
    have c2b0:(a0_0==0)=true:=beq_iff_eq.mpr c2;have c2b1:(a0_0 !=0)=false:=bne_eq_false_iff_eq.mpr c2;clear c2;obtain rfl:=Option.some.inj H;go_enter Tryz.func67,Tryz.ntmps67
    go_wp2_with (first|((with_reducible refine gate_dst (N:=1) rfl ?_);refine box_event ?hg (N:=1) ?hd (cs:= #[.int .i64 a0_0,.int .i64 a0_1]) (t:=37) ?hr ?_;(case hd=>rfl);(case hg=>rfl);(case hr=>first|(go_simp;done)|(go_simp;rfl));intro gb142 hg w3 hbox hb;have n0_:=Aside0.mk (below_step (by repeat(first|(with_reducible first|exact HB.out|apply below_alloc|apply pw_below_drewN|apply below_drew1)|exact HB.out)) hb);have n1_:=Aside0.mk (hbox);have n2_:=Aside0.mk ((by rw[hg];exact(below_size (by repeat(first|(with_reducible first|exact HB.out|apply below_alloc|apply pw_below_drewN|apply below_drew1)|exact HB.out))):w.heap.size≤gb142));have n3_:=Aside0.mk ((by rw[hg];exact(below_size (by repeat(first|(with_reducible first|exact HB.out|apply below_alloc|apply pw_below_drewN|apply below_drew1)|exact HB.out))):w.heap.size≤gb142));clear HB;have HB:=n0_;have BK142:=n1_;have GW142:=n2_;have GE142:=n3_;clear n0_ n1_ n2_ n3_;clear hb hbox hg;have hcz4_0:w3.cell? ⟨gb142,0,none⟩=some (.int .i64 a0_0):=(blk_cell BK142.out 0).trans rfl;have hcz4_1:w3.cell? ⟨gb142,1,none⟩=some (.int .i64 a0_1):=(blk_cell BK142.out 1).trans rfl;have hfz4_0:=blk_frozen BK142.out 0;have hfz4_1:=blk_frozen BK142.out 1))
    go_ret
    exact⟨by first|rfl|(simp[errW_none,errW_some]<;>rfl)|(simp[*,errW_none,errW_some]<;>rfl),by repeat(first|(with_reducible first|exact HB.out|apply below_alloc|apply pw_below_drewN|apply below_drew1|refine below_set ?_ GE142.out)|exact HB.out)⟩
  · rw[if_neg c2]at H
    have c2b0:(a0_0==0)=false:=beq_eq_false_iff_ne.mpr c2;have c2b1:(a0_0 !=0)=true:=bne_iff_ne.mpr c2;by_cases c5:a0_0=1
    · rw[if_pos c5]at H
      have c5b0:(a0_0==1)=true:=beq_iff_eq.mpr c5;have c5b1:(a0_0 !=1)=false:=bne_eq_false_iff_eq.mpr c5;clear c5;replace H:=Option.bind_eq_some_iff.mp H;obtain⟨t143,A60,H⟩:=H;replace H:(some t143)=some r:=H;have A6:=Aside0.mk A60;clear A60;obtain rfl:=Option.some.inj H;go_enter Tryz.func67,Tryz.ntmps67
      go_wp2_with (first|((with_reducible refine gate_dst (N:=1) rfl ?_);refine box_event ?hg (N:=1) ?hd (cs:= #[.int .i64 a0_0,.int .i64 a0_1]) (t:=37) ?hr ?_;(case hd=>rfl);(case hg=>rfl);(case hr=>first|(go_simp;done)|(go_simp;rfl));intro gb142 hg w7 hbox hb;have n0_:=Aside0.mk (below_step (by repeat(first|(with_reducible first|exact HB.out|apply below_alloc|apply pw_below_drewN|apply below_drew1)|exact HB.out)) hb);have n1_:=Aside0.mk (hbox);have n2_:=Aside0.mk ((by rw[hg];exact(below_size (by repeat(first|(with_reducible first|exact HB.out|apply below_alloc|apply pw_below_drewN|apply below_drew1)|exact HB.out))):w.heap.size≤gb142));have n3_:=Aside0.mk ((by rw[hg];exact(below_size (by repeat(first|(with_reducible first|exact HB.out|apply below_alloc|apply pw_below_drewN|apply below_drew1)|exact HB.out))):w.heap.size≤gb142));clear HB;have HB:=n0_;have BK142:=n1_;have GW142:=n2_;have GE142:=n3_;clear n0_ n1_ n2_ n3_;clear hb hbox hg;have hcz8_0:w7.cell? ⟨gb142,0,none⟩=some (.int .i64 a0_0):=(blk_cell BK142.out 0).trans rfl;have hcz8_1:w7.cell? ⟨gb142,1,none⟩=some (.int .i64 a0_1):=(blk_cell BK142.out 1).trans rfl;have hfz8_0:=blk_frozen BK142.out 0;have hfz8_1:=blk_frozen BK142.out 1)|((with_reducible refine gate_callee (f:=43) rfl ?_);refine goesL_ (some 14) rfl rfl Tryz.func43 (by kernel_rfl) rfl #[.int .i64 a0_1,.int .i64 (-99),.int .i64 99] rfl (by(try simp only[List.map_toArray,List.map_cons,List.map_nil]);first|done|rfl|(simp only[List.length_drop,List.length_take];rfl)) ?_;(with_reducible refine(spec_l6In.calls a0_1 (-99) 99 t143 _ A6.out).mono ?_);rintro e w' ⟨rfl,⟨nd,rfl⟩⟩;refine⟨_,rfl,?_⟩))
      go_ret
      exact⟨by first|rfl|(simp[errW_none,errW_some]<;>rfl)|(simp[*,errW_none,errW_some]<;>rfl),by repeat(first|(with_reducible first|exact HB.out|apply below_alloc|apply pw_below_drewN|apply below_drew1|refine below_set ?_ GE142.out)|exact HB.out)⟩
    · rw[if_neg c5]at H
      have c5b0:(a0_0==1)=false:=beq_eq_false_iff_ne.mpr c5;have c5b1:(a0_0 !=1)=true:=bne_iff_ne.mpr c5;by_cases c9:a0_0=2
      · rw[if_pos c9]at H
        have c9b0:(a0_0==2)=true:=beq_iff_eq.mpr c9;have c9b1:(a0_0 !=2)=false:=bne_eq_false_iff_eq.mpr c9;clear c9;replace H:=Option.bind_eq_some_iff.mp H;obtain⟨t144,A100,H⟩:=H;replace H:(some t144)=some r:=H;have A10:=Aside0.mk A100;clear A100;obtain rfl:=Option.some.inj H;go_enter Tryz.func67,Tryz.ntmps67
        go_wp2_with (first|((with_reducible refine gate_dst (N:=1) rfl ?_);refine box_event ?hg (N:=1) ?hd (cs:= #[.int .i64 a0_0,.int .i64 a0_1]) (t:=37) ?hr ?_;(case hd=>rfl);(case hg=>rfl);(case hr=>first|(go_simp;done)|(go_simp;rfl));intro gb142 hg w11 hbox hb;have n0_:=Aside0.mk (below_step (by repeat(first|(with_reducible first|exact HB.out|apply below_alloc|apply pw_below_drewN|apply below_drew1)|exact HB.out)) hb);have n1_:=Aside0.mk (hbox);have n2_:=Aside0.mk ((by rw[hg];exact(below_size (by repeat(first|(with_reducible first|exact HB.out|apply below_alloc|apply pw_below_drewN|apply below_drew1)|exact HB.out))):w.heap.size≤gb142));have n3_:=Aside0.mk ((by rw[hg];exact(below_size (by repeat(first|(with_reducible first|exact HB.out|apply below_alloc|apply pw_below_drewN|apply below_drew1)|exact HB.out))):w.heap.size≤gb142));clear HB;have HB:=n0_;have BK142:=n1_;have GW142:=n2_;have GE142:=n3_;clear n0_ n1_ n2_ n3_;clear hb hbox hg;have hcz12_0:w11.cell? ⟨gb142,0,none⟩=some (.int .i64 a0_0):=(blk_cell BK142.out 0).trans rfl;have hcz12_1:w11.cell? ⟨gb142,1,none⟩=some (.int .i64 a0_1):=(blk_cell BK142.out 1).trans rfl;have hfz12_0:=blk_frozen BK142.out 0;have hfz12_1:=blk_frozen BK142.out 1)|((with_reducible refine gate_callee (f:=43) rfl ?_);refine goesL_ (some 19) rfl rfl Tryz.func43 (by kernel_rfl) rfl #[.int .i64 a0_1,.int .i64 0,.int .i64 9] rfl (by(try simp only[List.map_toArray,List.map_cons,List.map_nil]);first|done|rfl|(simp only[List.length_drop,List.length_take];rfl)) ?_;(with_reducible refine(spec_l6In.calls a0_1 0 9 t144 _ A10.out).mono ?_);rintro e w' ⟨rfl,⟨nd,rfl⟩⟩;refine⟨_,rfl,?_⟩))
        go_ret
        exact⟨by first|rfl|(simp[errW_none,errW_some]<;>rfl)|(simp[*,errW_none,errW_some]<;>rfl),by repeat(first|(with_reducible first|exact HB.out|apply below_alloc|apply pw_below_drewN|apply below_drew1|refine below_set ?_ GE142.out)|exact HB.out)⟩
      · rw[if_neg c9]at H
        have c9b0:(a0_0==2)=false:=beq_eq_false_iff_ne.mpr c9;have c9b1:(a0_0 !=2)=true:=bne_iff_ne.mpr c9;by_cases c13:a0_0=3
        · rw[if_pos c13]at H
          have c13b0:(a0_0==3)=true:=beq_iff_eq.mpr c13;have c13b1:(a0_0 !=3)=false:=bne_eq_false_iff_eq.mpr c13;clear c13;replace H:=Option.bind_eq_some_iff.mp H;obtain⟨t145,A140,H⟩:=H;replace H:(some t145)=some r:=H;have A14:=Aside0.mk A140;clear A140;obtain rfl:=Option.some.inj H;go_enter Tryz.func67,Tryz.ntmps67
          go_wp2_with (first|((with_reducible refine gate_dst (N:=1) rfl ?_);refine box_event ?hg (N:=1) ?hd (cs:= #[.int .i64 a0_0,.int .i64 a0_1]) (t:=37) ?hr ?_;(case hd=>rfl);(case hg=>rfl);(case hr=>first|(go_simp;done)|(go_simp;rfl));intro gb142 hg w15 hbox hb;have n0_:=Aside0.mk (below_step (by repeat(first|(with_reducible first|exact HB.out|apply below_alloc|apply pw_below_drewN|apply below_drew1)|exact HB.out)) hb);have n1_:=Aside0.mk (hbox);have n2_:=Aside0.mk ((by rw[hg];exact(below_size (by repeat(first|(with_reducible first|exact HB.out|apply below_alloc|apply pw_below_drewN|apply below_drew1)|exact HB.out))):w.heap.size≤gb142));have n3_:=Aside0.mk ((by rw[hg];exact(below_size (by repeat(first|(with_reducible first|exact HB.out|apply below_alloc|apply pw_below_drewN|apply below_drew1)|exact HB.out))):w.heap.size≤gb142));clear HB;have HB:=n0_;have BK142:=n1_;have GW142:=n2_;have GE142:=n3_;clear n0_ n1_ n2_ n3_;clear hb hbox hg;have hcz16_0:w15.cell? ⟨gb142,0,none⟩=some (.int .i64 a0_0):=(blk_cell BK142.out 0).trans rfl;have hcz16_1:w15.cell? ⟨gb142,1,none⟩=some (.int .i64 a0_1):=(blk_cell BK142.out 1).trans rfl;have hfz16_0:=blk_frozen BK142.out 0;have hfz16_1:=blk_frozen BK142.out 1)|((with_reducible refine gate_callee (f:=43) rfl ?_);refine goesL_ (some 24) rfl rfl Tryz.func43 (by kernel_rfl) rfl #[.int .i64 a0_1,.int .i64 1,.int .i64 6] rfl (by(try simp only[List.map_toArray,List.map_cons,List.map_nil]);first|done|rfl|(simp only[List.length_drop,List.length_take];rfl)) ?_;(with_reducible refine(spec_l6In.calls a0_1 1 6 t145 _ A14.out).mono ?_);rintro e w' ⟨rfl,⟨nd,rfl⟩⟩;refine⟨_,rfl,?_⟩))
          go_ret
          exact⟨by first|rfl|(simp[errW_none,errW_some]<;>rfl)|(simp[*,errW_none,errW_some]<;>rfl),by repeat(first|(with_reducible first|exact HB.out|apply below_alloc|apply pw_below_drewN|apply below_drew1|refine below_set ?_ GE142.out)|exact HB.out)⟩
        · rw[if_neg c13]at H
          have c13b0:(a0_0==3)=false:=beq_eq_false_iff_ne.mpr c13;have c13b1:(a0_0 !=3)=true:=bne_iff_ne.mpr c13;obtain rfl:=Option.some.inj H;go_enter Tryz.func67,Tryz.ntmps67
          go_wp2_with (first|((with_reducible refine gate_dst (N:=1) rfl ?_);refine box_event ?hg (N:=1) ?hd (cs:= #[.int .i64 a0_0,.int .i64 a0_1]) (t:=37) ?hr ?_;(case hd=>rfl);(case hg=>rfl);(case hr=>first|(go_simp;done)|(go_simp;rfl));intro gb142 hg w17 hbox hb;have n0_:=Aside0.mk (below_step (by repeat(first|(with_reducible first|exact HB.out|apply below_alloc|apply pw_below_drewN|apply below_drew1)|exact HB.out)) hb);have n1_:=Aside0.mk (hbox);have n2_:=Aside0.mk ((by rw[hg];exact(below_size (by repeat(first|(with_reducible first|exact HB.out|apply below_alloc|apply pw_below_drewN|apply below_drew1)|exact HB.out))):w.heap.size≤gb142));have n3_:=Aside0.mk ((by rw[hg];exact(below_size (by repeat(first|(with_reducible first|exact HB.out|apply below_alloc|apply pw_below_drewN|apply below_drew1)|exact HB.out))):w.heap.size≤gb142));clear HB;have HB:=n0_;have BK142:=n1_;have GW142:=n2_;have GE142:=n3_;clear n0_ n1_ n2_ n3_;clear hb hbox hg;have hcz18_0:w17.cell? ⟨gb142,0,none⟩=some (.int .i64 a0_0):=(blk_cell BK142.out 0).trans rfl;have hcz18_1:w17.cell? ⟨gb142,1,none⟩=some (.int .i64 a0_1):=(blk_cell BK142.out 1).trans rfl;have hfz18_0:=blk_frozen BK142.out 0;have hfz18_1:=blk_frozen BK142.out 1))
          go_ret
          exact⟨by first|rfl|(simp[errW_none,errW_some]<;>rfl)|(simp[*,errW_none,errW_some]<;>rfl),by repeat(first|(with_reducible first|exact HB.out|apply below_alloc|apply pw_below_drewN|apply below_drew1|refine below_set ?_ GE142.out)|exact HB.out)⟩
def spec_l2Names.f:Option (List ByteArray):=some (([(⟨#[]⟩:ByteArray),(⟨#[115,101,116]⟩:ByteArray),(⟨#[109,111,118,101]⟩:ByteArray),(⟨#[97,100,100]⟩:ByteArray),(⟨#[115,101,108,102]⟩:ByteArray),(⟨#[98,101,103,105,110]⟩:ByteArray),(⟨#[115,101,110,100]⟩:ByteArray),(⟨#[116,97,107,101]⟩:ByteArray),(⟨#[97,102,116,101,114]⟩:ByteArray),(⟨#[103,111]⟩:ByteArray),(⟨#[105,102]⟩:ByteArray),(⟨#[108,105,110,107]⟩:ByteArray),(⟨#[119,97,116,99,104]⟩:ByteArray),(⟨#[116,114,97,112]⟩:ByteArray),(⟨#[101,110,100]⟩:ByteArray)]:List ByteArray))
theorem spec_l2Names.calls (r:List ByteArray) (w:World) (h:spec_l2Names.f=some r):
    Calls Tryz.prog 37 #[] w fun e w'=> ∃v0_:Value,e= .returned (v0_)∧Kd.R Kd.string 9 w' w.heap.size (fun _=>True) v0_ r∧Below w.heap.size w w':=by
  have HB:=Aside0.mk (Below.refl w.heap.size w);have H:(some (([(⟨#[]⟩:ByteArray),(⟨#[115,101,116]⟩:ByteArray),(⟨#[109,111,118,101]⟩:ByteArray),(⟨#[97,100,100]⟩:ByteArray),(⟨#[115,101,108,102]⟩:ByteArray),(⟨#[98,101,103,105,110]⟩:ByteArray),(⟨#[115,101,110,100]⟩:ByteArray),(⟨#[116,97,107,101]⟩:ByteArray),(⟨#[97,102,116,101,114]⟩:ByteArray),(⟨#[103,111]⟩:ByteArray),(⟨#[105,102]⟩:ByteArray),(⟨#[108,105,110,107]⟩:ByteArray),(⟨#[119,97,116,99,104]⟩:ByteArray),(⟨#[116,114,97,112]⟩:ByteArray),(⟨#[101,110,100]⟩:ByteArray)]:List ByteArray)))=some r:=h;clear h;obtain⟨y146,hy146⟩: ∃y_:List ByteArray,y_=(([(⟨#[]⟩:ByteArray),(⟨#[115,101,116]⟩:ByteArray),(⟨#[109,111,118,101]⟩:ByteArray),(⟨#[97,100,100]⟩:ByteArray),(⟨#[115,101,108,102]⟩:ByteArray),(⟨#[98,101,103,105,110]⟩:ByteArray),(⟨#[115,101,110,100]⟩:ByteArray),(⟨#[116,97,107,101]⟩:ByteArray),(⟨#[97,102,116,101,114]⟩:ByteArray),(⟨#[103,111]⟩:ByteArray),(⟨#[105,102]⟩:ByteArray),(⟨#[108,105,110,107]⟩:ByteArray),(⟨#[119,97,116,99,104]⟩:ByteArray),(⟨#[116,114,97,112]⟩:ByteArray),(⟨#[101,110,100]⟩:ByteArray)]:List ByteArray)):=⟨_,rfl⟩;replace H:(some y146)=some r:=by first|(rw[hy146];with_reducible exact H)|(have H2_:=(Option.bind_some _ _).symm.trans H;rw[hy146];with_reducible exact H2_)|(have H2_:=(Option.bind_some _ _).symm.trans H;with_reducible exact H2_)|with_reducible exact H|(rw[hy146];exact H)|exact H
  have Ny146:=Aside0.mk hy146;clear hy146;obtain rfl:=Option.some.inj H;go_enter Tryz.func37,Tryz.ntmps37
  go_wp2_with (first|((with_reducible refine gate_dst (N:=1) rfl ?_);refine Kd.R_lit Kd.string _ 9 ?hg (N:=1) ?hd (xs:=([(⟨#[]⟩:ByteArray),(⟨#[115,101,116]⟩:ByteArray),(⟨#[109,111,118,101]⟩:ByteArray),(⟨#[97,100,100]⟩:ByteArray),(⟨#[115,101,108,102]⟩:ByteArray),(⟨#[98,101,103,105,110]⟩:ByteArray),(⟨#[115,101,110,100]⟩:ByteArray),(⟨#[116,97,107,101]⟩:ByteArray),(⟨#[97,102,116,101,114]⟩:ByteArray),(⟨#[103,111]⟩:ByteArray),(⟨#[105,102]⟩:ByteArray),(⟨#[108,105,110,107]⟩:ByteArray),(⟨#[119,97,116,99,104]⟩:ByteArray),(⟨#[116,114,97,112]⟩:ByteArray),(⟨#[101,110,100]⟩:ByteArray)]:List ByteArray)) (inner:=[.string (⟨#[]⟩:ByteArray),.string (⟨#[115,101,116]⟩:ByteArray),.string (⟨#[109,111,118,101]⟩:ByteArray),.string (⟨#[97,100,100]⟩:ByteArray),.string (⟨#[115,101,108,102]⟩:ByteArray),.string (⟨#[98,101,103,105,110]⟩:ByteArray),.string (⟨#[115,101,110,100]⟩:ByteArray),.string (⟨#[116,97,107,101]⟩:ByteArray),.string (⟨#[97,102,116,101,114]⟩:ByteArray),.string (⟨#[103,111]⟩:ByteArray),.string (⟨#[105,102]⟩:ByteArray),.string (⟨#[108,105,110,107]⟩:ByteArray),.string (⟨#[119,97,116,99,104]⟩:ByteArray),.string (⟨#[116,114,97,112]⟩:ByteArray),.string (⟨#[101,110,100]⟩:ByteArray)]) (ok:=fun _=>True) (okp:=fun _=>True) ?hr ?hp (fun _ hk=>hk) trivial (Below.refl _ _) (Nat.le_refl _) (by simp) ?_;(case hd=>rfl);(case hg=>rfl);(case hr=>first|(go_simp;done)|(go_simp;rfl));(case hp=>exact(Reps.one (show Kd.M Kd.string _ _ _ (⟨#[]⟩:ByteArray) [.string (⟨#[]⟩:ByteArray)]from rfl) (Reps.one (show Kd.M Kd.string _ _ _ (⟨#[115,101,116]⟩:ByteArray) [.string (⟨#[115,101,116]⟩:ByteArray)]from rfl) (Reps.one (show Kd.M Kd.string _ _ _ (⟨#[109,111,118,101]⟩:ByteArray) [.string (⟨#[109,111,118,101]⟩:ByteArray)]from rfl) (Reps.one (show Kd.M Kd.string _ _ _ (⟨#[97,100,100]⟩:ByteArray) [.string (⟨#[97,100,100]⟩:ByteArray)]from rfl) (Reps.one (show Kd.M Kd.string _ _ _ (⟨#[115,101,108,102]⟩:ByteArray) [.string (⟨#[115,101,108,102]⟩:ByteArray)]from rfl) (Reps.one (show Kd.M Kd.string _ _ _ (⟨#[98,101,103,105,110]⟩:ByteArray) [.string (⟨#[98,101,103,105,110]⟩:ByteArray)]from rfl) (Reps.one (show Kd.M Kd.string _ _ _ (⟨#[115,101,110,100]⟩:ByteArray) [.string (⟨#[115,101,110,100]⟩:ByteArray)]from rfl) (Reps.one (show Kd.M Kd.string _ _ _ (⟨#[116,97,107,101]⟩:ByteArray) [.string (⟨#[116,97,107,101]⟩:ByteArray)]from rfl) (Reps.one (show Kd.M Kd.string _ _ _ (⟨#[97,102,116,101,114]⟩:ByteArray) [.string (⟨#[97,102,116,101,114]⟩:ByteArray)]from rfl) (Reps.one (show Kd.M Kd.string _ _ _ (⟨#[103,111]⟩:ByteArray) [.string (⟨#[103,111]⟩:ByteArray)]from rfl) (Reps.one (show Kd.M Kd.string _ _ _ (⟨#[105,102]⟩:ByteArray) [.string (⟨#[105,102]⟩:ByteArray)]from rfl) (Reps.one (show Kd.M Kd.string _ _ _ (⟨#[108,105,110,107]⟩:ByteArray) [.string (⟨#[108,105,110,107]⟩:ByteArray)]from rfl) (Reps.one (show Kd.M Kd.string _ _ _ (⟨#[119,97,116,99,104]⟩:ByteArray) [.string (⟨#[119,97,116,99,104]⟩:ByteArray)]from rfl) (Reps.one (show Kd.M Kd.string _ _ _ (⟨#[116,114,97,112]⟩:ByteArray) [.string (⟨#[116,114,97,112]⟩:ByteArray)]from rfl) (Reps.one (show Kd.M Kd.string _ _ _ (⟨#[101,110,100]⟩:ByteArray) [.string (⟨#[101,110,100]⟩:ByteArray)]from rfl) (Reps.none _ _)))))))))))))))));intro v147 w1 ho2 hb hg_ hnew_;clear hg_ hnew_;(first|rw[←Ny146.out]at ho2|(simp only[Int.reduceToNat]at ho2;rw[←Ny146.out]at ho2));have n0_:=Aside0.mk (Kd.R_lower ho2 (below_size (by repeat(first|(with_reducible first|exact HB.out|apply below_alloc|apply pw_below_drewN|apply below_drew1)|exact HB.out))));have n1_:=Aside0.mk (below_step (by repeat(first|(with_reducible first|exact HB.out|apply below_alloc|apply pw_below_drewN|apply below_drew1)|exact HB.out)) hb);clear HB;have HO148:=n0_;have HB:=n1_;clear n0_ n1_;clear hb ho2))
  go_ret
  exact⟨_,by first|rfl|(simp[errW_none,errW_some]<;>rfl)|(simp[*,errW_none,errW_some]<;>rfl),by(with_reducible repeat(first|apply Kd.R_alloc|apply Kd.R_drewN|apply Kd.R_drew));exact HO148.out,by repeat(first|(with_reducible first|exact HB.out|apply below_alloc|apply pw_below_drewN|apply below_drew1)|exact HB.out)⟩
end Go.Proofs.YtmklpbmlgjkbiaaGreatDoor.PS
end
section
namespace Go.Proofs.YtmklpbmlgjkbiaaGreatDoor.PS
open Go.RowKit Go.Proofs.YtmklpbmlgjkbiaaGreatDoorW.PrintWords Go.Proofs.YtmklpbmlgjkbiaaGreatDoorW.PrintLast
attribute [local go_sem high] eqA37
theorem in2_any (a b c:Int) (w:World):Calls Tryz.prog 43 #[.int .i64 a,.int .i64 b,.int .i64 c] w fun e w'=>e= .returned (.bool (decide (b≤a∧a≤c)))∧w=w':=by
  by_cases h1:b≤a<;>by_cases h2:a≤c<;>(go_enter Tryz.func43,Tryz.ntmps43;go_wp2;go_ret;exact⟨by simp[h1,h2],rfl⟩)
theorem slot_any (a:Int) (w:World):Calls Tryz.prog 68 #[.int .i64 a] w fun e w'=>e= .returned (.bool (decide (0≤a∧a≤3)))∧w=w':=by
  go_enter Tryz.func68,Tryz.ntmps68
  go_wp2_with (go_at_call 43;refine(in2_any _ _ _ _).mono ?_;rintro e w' ⟨rfl,rfl⟩)
  go_ret
  exact⟨by first|rfl|simp,rfl⟩
theorem to_any (a:Int) (w:World):Calls Tryz.prog 69 #[.int .i64 a] w fun e w'=>e= .returned (.bool (decide (0≤a∧a≤15)))∧w=w':=by
  go_enter Tryz.func69,Tryz.ntmps69
  go_wp2_with (go_at_call 43;refine(in2_any _ _ _ _).mono ?_;rintro e w' ⟨rfl,rfl⟩)
  go_ret
  exact⟨by first|rfl|simp,rfl⟩
theorem cell_lt {w:World} {g i:Nat} {v:Value} (h:w.cell? ⟨g,i,none⟩=some v):g<w.heap.size:=by
  by_cases hg:g<w.heap.size
  · exact hg
  · simp[World.cell?,Array.getElem?_eq_none (Nat.not_lt.1 hg)]at h
theorem own4 {w:World} {base:Nat} {ok:Nat→Prop} {v:Value} {a b c d:Bool} (h:Kd.R Kd.bool 4 w base ok v [a,b,c,d]):
    ∃g cap,v= .slice (some ⟨g,0,none⟩) 4 cap∧base≤g∧w.cell? ⟨g,0,none⟩=some (.bool a)∧w.cell? ⟨g,1,none⟩=some (.bool b)∧w.cell? ⟨g,2,none⟩=some (.bool c)∧w.cell? ⟨g,3,none⟩=some (.bool d):=by
  obtain⟨inner,ho⟩:=Kd.R_own h;rcases ho.2 with ⟨_,h2⟩|⟨g,cap,cur,rfl,hg,_⟩
  · obtain⟨A,c0,e,_,hC⟩:=Kd.R_reads h
    have:=ho.2;simp_all
  · exact⟨g,cap,rfl,hg,(Kd.R_cell (xs:=[a,b,c,d]) false h 0 (by omega) (by simp)).1,(Kd.R_cell (xs:=[a,b,c,d]) false h 1 (by omega) (by simp)).1,(Kd.R_cell (xs:=[a,b,c,d]) false h 2 (by omega) (by simp)).1,(Kd.R_cell (xs:=[a,b,c,d]) false h 3 (by omega) (by simp)).1⟩
theorem specOp_main (k r s t vk vn:Int) (w:World) (g0 u0 u1 u2 u3 vb:Bool)
    (hForm: ∀W,Calls Tryz.prog 38 #[.int .i64 k] W fun e w'=> ∃g c,e= .returned (.slice (some ⟨g,0,none⟩) 4 c)∧Below W.heap.size W w'∧W.heap.size≤g∧w'.cell? ⟨g,0,none⟩=some (.bool u0)∧w'.cell? ⟨g,1,none⟩=some (.bool u1)∧w'.cell? ⟨g,2,none⟩=some (.bool u2)∧w'.cell? ⟨g,3,none⟩=some (.bool u3))
    (hVal: ∀W,Calls Tryz.prog 67 #[.agg #[.int .i64 vk,.int .i64 vn]] W fun e w'=>e= .returned (.bool vb)∧Below W.heap.size W w') (c8:(k==8)=false) (c13:(k==13)=false) (hvb:Aside0 (vb=true)) (hg:Aside0 (g0=(((decide (0≤r∧r≤3)&&u0)||r==0)&&(((decide (0≤s∧s≤3)&&u1)||s==0)&&(((decide (0≤t∧t≤15)&&u2)||t==0)&&(u3||(vk==0&&(vn==0)))))))):
    Calls Tryz.prog 41 #[.agg #[.int .i64 k,.int .i64 r,.int .i64 s,.int .i64 t,.int .i64 vk,.int .i64 vn]] w fun e w'=>e= .returned (.bool g0)∧Below w.heap.size w w':=by
  have BK:Aside0 ((w.alloc (.cells #[.int .i64 k,.int .i64 r,.int .i64 s,.int .i64 t,.int .i64 vk,.int .i64 vn] 39)).heap[w.heap.size]?=some (.cells #[.int .i64 k,.int .i64 r,.int .i64 s,.int .i64 t,.int .i64 vk,.int .i64 vn] 39 (0,0))):=⟨blk_new _ _⟩;have HB:=Aside0.mk (Below.refl w.heap.size w);have hu27:=Tryz.underlying37;have hu29:=Tryz.underlying39;obtain rfl:=hvb.out;clear hvb;go_enter Tryz.func41,Tryz.ntmps41
  go_wp2_with (first|(go_at_call 38;refine(hForm _).mono ?_;rintro e w' ⟨g,c,rfl,hb,hg,f0,f1,f2,f3⟩;have SZ:=Aside0.mk (hb.size);have BK:=Aside0.mk (blk_below (by(with_reducible repeat(first|refine blk_drewN ?_ _|refine blk_drew ?_|refine blk_alloc ?_ _));exact BK.out) hb);have HB:=Aside0.mk (below_step (by repeat(first|(with_reducible first|exact HB.out|apply below_alloc|apply pw_below_drewN|apply below_drew1)|exact HB.out)) hb);have q0:w'.cell? ⟨w.heap.size,0,none⟩=some (.int .i64 k):=(blk_cell BK.out 0).trans rfl;have q1:w'.cell? ⟨w.heap.size,1,none⟩=some (.int .i64 r):=(blk_cell BK.out 1).trans rfl;have q2:w'.cell? ⟨w.heap.size,2,none⟩=some (.int .i64 s):=(blk_cell BK.out 2).trans rfl;have q3:w'.cell? ⟨w.heap.size,3,none⟩=some (.int .i64 t):=(blk_cell BK.out 3).trans rfl;have q4:w'.cell? ⟨w.heap.size,4,none⟩=some (.int .i64 vk):=(blk_cell BK.out 4).trans rfl;have q5:w'.cell? ⟨w.heap.size,5,none⟩=some (.int .i64 vn):=(blk_cell BK.out 5).trans rfl;have GS:=Aside0.mk (cell_lt f0);have P0:=Aside0.mk f0;have P1:=Aside0.mk f1;have P2:=Aside0.mk f2;have P3:=Aside0.mk f3;clear hb hg)|(go_at_call 67;refine(hVal _).mono ?_;rintro e w'2 ⟨rfl,hb⟩;have P0:=Aside0.mk ((hb.cell (p:=⟨g,0,none⟩) GS.out).trans P0.out);have P1:=Aside0.mk ((hb.cell (p:=⟨g,1,none⟩) GS.out).trans P1.out);have P2:=Aside0.mk ((hb.cell (p:=⟨g,2,none⟩) GS.out).trans P2.out);have P3:=Aside0.mk ((hb.cell (p:=⟨g,3,none⟩) GS.out).trans P3.out);have BK:=Aside0.mk (blk_below (by(with_reducible repeat(first|refine blk_drewN ?_ _|refine blk_drew ?_|refine blk_alloc ?_ _));exact BK.out) hb);have HB:=Aside0.mk (below_step (by repeat(first|(with_reducible first|exact HB.out|apply below_alloc|apply pw_below_drewN|apply below_drew1)|exact HB.out)) hb);have q0:w'2.cell? ⟨w.heap.size,0,none⟩=some (.int .i64 k):=(blk_cell BK.out 0).trans rfl;have q1:w'2.cell? ⟨w.heap.size,1,none⟩=some (.int .i64 r):=(blk_cell BK.out 1).trans rfl;have q2:w'2.cell? ⟨w.heap.size,2,none⟩=some (.int .i64 s):=(blk_cell BK.out 2).trans rfl;have q3:w'2.cell? ⟨w.heap.size,3,none⟩=some (.int .i64 t):=(blk_cell BK.out 3).trans rfl;have q4:w'2.cell? ⟨w.heap.size,4,none⟩=some (.int .i64 vk):=(blk_cell BK.out 4).trans rfl;have q5:w'2.cell? ⟨w.heap.size,5,none⟩=some (.int .i64 vn):=(blk_cell BK.out 5).trans rfl;have f0:=P0.out;have f1:=P1.out;have f2:=P2.out;have f3:=P3.out;clear hb)|(go_at_call 43;refine(in2_any _ _ _ _).mono ?_;rintro e w' ⟨rfl,rfl⟩)|(go_at_call 68;refine(slot_any _ _).mono ?_;rintro e w' ⟨rfl,rfl⟩)|(go_at_call 69;refine(to_any _ _).mono ?_;rintro e w' ⟨rfl,rfl⟩))
  all_goals go_ret
  all_goals refine⟨?_,HB.out⟩
  all_goals(rw[hg.out];simp[*])
theorem specOp_8 (r s t vn:Int) (w:World) (g0 u0 u1 u2 u3 vb:Bool)
    (hForm: ∀W,Calls Tryz.prog 38 #[.int .i64 8] W fun e w'=> ∃g c,e= .returned (.slice (some ⟨g,0,none⟩) 4 c)∧Below W.heap.size W w'∧W.heap.size≤g∧w'.cell? ⟨g,0,none⟩=some (.bool u0)∧w'.cell? ⟨g,1,none⟩=some (.bool u1)∧w'.cell? ⟨g,2,none⟩=some (.bool u2)∧w'.cell? ⟨g,3,none⟩=some (.bool u3))
    (hVal: ∀W,Calls Tryz.prog 67 #[.agg #[.int .i64 1,.int .i64 vn]] W fun e w'=>e= .returned (.bool vb)∧Below W.heap.size W w') (hvn:1≤vn) (hvb:Aside0 (vb=true)) (hg:Aside0 (g0=(((decide (0≤r∧r≤3)&&u0)||r==0)&&(((decide (0≤s∧s≤3)&&u1)||s==0)&&(((decide (0≤t∧t≤15)&&u2)||t==0)&&(u3||((1:Int)==0&&(vn==0)))))))):
    Calls Tryz.prog 41 #[.agg #[.int .i64 8,.int .i64 r,.int .i64 s,.int .i64 t,.int .i64 1,.int .i64 vn]] w fun e w'=>e= .returned (.bool g0)∧Below w.heap.size w w':=by
  have BK:Aside0 ((w.alloc (.cells #[.int .i64 8,.int .i64 r,.int .i64 s,.int .i64 t,.int .i64 1,.int .i64 vn] 39)).heap[w.heap.size]?=some (.cells #[.int .i64 8,.int .i64 r,.int .i64 s,.int .i64 t,.int .i64 1,.int .i64 vn] 39 (0,0))):=⟨blk_new _ _⟩;have HB:=Aside0.mk (Below.refl w.heap.size w);have hu27:=Tryz.underlying37;have hu29:=Tryz.underlying39;obtain rfl:=hvb.out;clear hvb;go_enter Tryz.func41,Tryz.ntmps41
  go_wp2_with (first|(go_at_call 38;refine(hForm _).mono ?_;rintro e w' ⟨g,c,rfl,hb,hg,f0,f1,f2,f3⟩;have SZ:=Aside0.mk (hb.size);have BK:=Aside0.mk (blk_below (by(with_reducible repeat(first|refine blk_drewN ?_ _|refine blk_drew ?_|refine blk_alloc ?_ _));exact BK.out) hb);have HB:=Aside0.mk (below_step (by repeat(first|(with_reducible first|exact HB.out|apply below_alloc|apply pw_below_drewN|apply below_drew1)|exact HB.out)) hb);have q0:w'.cell? ⟨w.heap.size,0,none⟩=some (.int .i64 8):=(blk_cell BK.out 0).trans rfl;have q1:w'.cell? ⟨w.heap.size,1,none⟩=some (.int .i64 r):=(blk_cell BK.out 1).trans rfl;have q2:w'.cell? ⟨w.heap.size,2,none⟩=some (.int .i64 s):=(blk_cell BK.out 2).trans rfl;have q3:w'.cell? ⟨w.heap.size,3,none⟩=some (.int .i64 t):=(blk_cell BK.out 3).trans rfl;have q4:w'.cell? ⟨w.heap.size,4,none⟩=some (.int .i64 1):=(blk_cell BK.out 4).trans rfl;have q5:w'.cell? ⟨w.heap.size,5,none⟩=some (.int .i64 vn):=(blk_cell BK.out 5).trans rfl;have GS:=Aside0.mk (cell_lt f0);have P0:=Aside0.mk f0;have P1:=Aside0.mk f1;have P2:=Aside0.mk f2;have P3:=Aside0.mk f3;clear hb hg)|(go_at_call 67;refine(hVal _).mono ?_;rintro e w'2 ⟨rfl,hb⟩;have P0:=Aside0.mk ((hb.cell (p:=⟨g,0,none⟩) GS.out).trans P0.out);have P1:=Aside0.mk ((hb.cell (p:=⟨g,1,none⟩) GS.out).trans P1.out);have P2:=Aside0.mk ((hb.cell (p:=⟨g,2,none⟩) GS.out).trans P2.out);have P3:=Aside0.mk ((hb.cell (p:=⟨g,3,none⟩) GS.out).trans P3.out);have BK:=Aside0.mk (blk_below (by(with_reducible repeat(first|refine blk_drewN ?_ _|refine blk_drew ?_|refine blk_alloc ?_ _));exact BK.out) hb);have HB:=Aside0.mk (below_step (by repeat(first|(with_reducible first|exact HB.out|apply below_alloc|apply pw_below_drewN|apply below_drew1)|exact HB.out)) hb);have q0:w'2.cell? ⟨w.heap.size,0,none⟩=some (.int .i64 8):=(blk_cell BK.out 0).trans rfl;have q1:w'2.cell? ⟨w.heap.size,1,none⟩=some (.int .i64 r):=(blk_cell BK.out 1).trans rfl;have q2:w'2.cell? ⟨w.heap.size,2,none⟩=some (.int .i64 s):=(blk_cell BK.out 2).trans rfl;have q3:w'2.cell? ⟨w.heap.size,3,none⟩=some (.int .i64 t):=(blk_cell BK.out 3).trans rfl;have q4:w'2.cell? ⟨w.heap.size,4,none⟩=some (.int .i64 1):=(blk_cell BK.out 4).trans rfl;have q5:w'2.cell? ⟨w.heap.size,5,none⟩=some (.int .i64 vn):=(blk_cell BK.out 5).trans rfl;have f0:=P0.out;have f1:=P1.out;have f2:=P2.out;have f3:=P3.out;clear hb)|(go_at_call 43;refine(in2_any _ _ _ _).mono ?_;rintro e w' ⟨rfl,rfl⟩)|(go_at_call 68;refine(slot_any _ _).mono ?_;rintro e w' ⟨rfl,rfl⟩)|(go_at_call 69;refine(to_any _ _).mono ?_;rintro e w' ⟨rfl,rfl⟩))
  all_goals go_ret
  all_goals refine⟨?_,HB.out⟩
  all_goals(rw[hg.out];simp[*])
theorem specOp_13 (r s t vn:Int) (w:World) (g0 u0 u1 u2 u3 vb:Bool)
    (hForm: ∀W,Calls Tryz.prog 38 #[.int .i64 13] W fun e w'=> ∃g c,e= .returned (.slice (some ⟨g,0,none⟩) 4 c)∧Below W.heap.size W w'∧W.heap.size≤g∧w'.cell? ⟨g,0,none⟩=some (.bool u0)∧w'.cell? ⟨g,1,none⟩=some (.bool u1)∧w'.cell? ⟨g,2,none⟩=some (.bool u2)∧w'.cell? ⟨g,3,none⟩=some (.bool u3))
    (hVal: ∀W,Calls Tryz.prog 67 #[.agg #[.int .i64 1,.int .i64 vn]] W fun e w'=>e= .returned (.bool vb)∧Below W.heap.size W w') (hvn:0≤vn) (hvn':vn≤1) (hvb:Aside0 (vb=true)) (hg:Aside0 (g0=(((decide (0≤r∧r≤3)&&u0)||r==0)&&(((decide (0≤s∧s≤3)&&u1)||s==0)&&(((decide (0≤t∧t≤15)&&u2)||t==0)&&(u3||((1:Int)==0&&(vn==0)))))))):
    Calls Tryz.prog 41 #[.agg #[.int .i64 13,.int .i64 r,.int .i64 s,.int .i64 t,.int .i64 1,.int .i64 vn]] w fun e w'=>e= .returned (.bool g0)∧Below w.heap.size w w':=by
  have BK:Aside0 ((w.alloc (.cells #[.int .i64 13,.int .i64 r,.int .i64 s,.int .i64 t,.int .i64 1,.int .i64 vn] 39)).heap[w.heap.size]?=some (.cells #[.int .i64 13,.int .i64 r,.int .i64 s,.int .i64 t,.int .i64 1,.int .i64 vn] 39 (0,0))):=⟨blk_new _ _⟩;have HB:=Aside0.mk (Below.refl w.heap.size w);have hu27:=Tryz.underlying37;have hu29:=Tryz.underlying39;obtain rfl:=hvb.out;clear hvb;go_enter Tryz.func41,Tryz.ntmps41
  go_wp2_with (first|(go_at_call 38;refine(hForm _).mono ?_;rintro e w' ⟨g,c,rfl,hb,hg,f0,f1,f2,f3⟩;have SZ:=Aside0.mk (hb.size);have BK:=Aside0.mk (blk_below (by(with_reducible repeat(first|refine blk_drewN ?_ _|refine blk_drew ?_|refine blk_alloc ?_ _));exact BK.out) hb);have HB:=Aside0.mk (below_step (by repeat(first|(with_reducible first|exact HB.out|apply below_alloc|apply pw_below_drewN|apply below_drew1)|exact HB.out)) hb);have q0:w'.cell? ⟨w.heap.size,0,none⟩=some (.int .i64 13):=(blk_cell BK.out 0).trans rfl;have q1:w'.cell? ⟨w.heap.size,1,none⟩=some (.int .i64 r):=(blk_cell BK.out 1).trans rfl;have q2:w'.cell? ⟨w.heap.size,2,none⟩=some (.int .i64 s):=(blk_cell BK.out 2).trans rfl;have q3:w'.cell? ⟨w.heap.size,3,none⟩=some (.int .i64 t):=(blk_cell BK.out 3).trans rfl;have q4:w'.cell? ⟨w.heap.size,4,none⟩=some (.int .i64 1):=(blk_cell BK.out 4).trans rfl;have q5:w'.cell? ⟨w.heap.size,5,none⟩=some (.int .i64 vn):=(blk_cell BK.out 5).trans rfl;have GS:=Aside0.mk (cell_lt f0);have P0:=Aside0.mk f0;have P1:=Aside0.mk f1;have P2:=Aside0.mk f2;have P3:=Aside0.mk f3;clear hb hg)|(go_at_call 67;refine(hVal _).mono ?_;rintro e w'2 ⟨rfl,hb⟩;have P0:=Aside0.mk ((hb.cell (p:=⟨g,0,none⟩) GS.out).trans P0.out);have P1:=Aside0.mk ((hb.cell (p:=⟨g,1,none⟩) GS.out).trans P1.out);have P2:=Aside0.mk ((hb.cell (p:=⟨g,2,none⟩) GS.out).trans P2.out);have P3:=Aside0.mk ((hb.cell (p:=⟨g,3,none⟩) GS.out).trans P3.out);have BK:=Aside0.mk (blk_below (by(with_reducible repeat(first|refine blk_drewN ?_ _|refine blk_drew ?_|refine blk_alloc ?_ _));exact BK.out) hb);have HB:=Aside0.mk (below_step (by repeat(first|(with_reducible first|exact HB.out|apply below_alloc|apply pw_below_drewN|apply below_drew1)|exact HB.out)) hb);have q0:w'2.cell? ⟨w.heap.size,0,none⟩=some (.int .i64 13):=(blk_cell BK.out 0).trans rfl;have q1:w'2.cell? ⟨w.heap.size,1,none⟩=some (.int .i64 r):=(blk_cell BK.out 1).trans rfl;have q2:w'2.cell? ⟨w.heap.size,2,none⟩=some (.int .i64 s):=(blk_cell BK.out 2).trans rfl;have q3:w'2.cell? ⟨w.heap.size,3,none⟩=some (.int .i64 t):=(blk_cell BK.out 3).trans rfl;have q4:w'2.cell? ⟨w.heap.size,4,none⟩=some (.int .i64 1):=(blk_cell BK.out 4).trans rfl;have q5:w'2.cell? ⟨w.heap.size,5,none⟩=some (.int .i64 vn):=(blk_cell BK.out 5).trans rfl;have f0:=P0.out;have f1:=P1.out;have f2:=P2.out;have f3:=P3.out;clear hb)|(go_at_call 43;refine(in2_any _ _ _ _).mono ?_;rintro e w' ⟨rfl,rfl⟩)|(go_at_call 68;refine(slot_any _ _).mono ?_;rintro e w' ⟨rfl,rfl⟩)|(go_at_call 69;refine(to_any _ _).mono ?_;rintro e w' ⟨rfl,rfl⟩))
  all_goals go_ret
  all_goals refine⟨?_,HB.out⟩
  all_goals(rw[hg.out];simp[*])
theorem specOp_bad (k r s t vk vn:Int) (w:World) (g0 u0 u1 u2 u3 vb:Bool)
    (hForm: ∀W,Calls Tryz.prog 38 #[.int .i64 k] W fun e w'=> ∃g c,e= .returned (.slice (some ⟨g,0,none⟩) 4 c)∧Below W.heap.size W w'∧W.heap.size≤g∧w'.cell? ⟨g,0,none⟩=some (.bool u0)∧w'.cell? ⟨g,1,none⟩=some (.bool u1)∧w'.cell? ⟨g,2,none⟩=some (.bool u2)∧w'.cell? ⟨g,3,none⟩=some (.bool u3))
    (hVal: ∀W,Calls Tryz.prog 67 #[.agg #[.int .i64 vk,.int .i64 vn]] W fun e w'=>e= .returned (.bool vb)∧Below W.heap.size W w') (hvb:Aside0 (vb=false)) (hg:Aside0 (g0=false)):
    Calls Tryz.prog 41 #[.agg #[.int .i64 k,.int .i64 r,.int .i64 s,.int .i64 t,.int .i64 vk,.int .i64 vn]] w fun e w'=>e= .returned (.bool g0)∧Below w.heap.size w w':=by
  have BK:Aside0 ((w.alloc (.cells #[.int .i64 k,.int .i64 r,.int .i64 s,.int .i64 t,.int .i64 vk,.int .i64 vn] 39)).heap[w.heap.size]?=some (.cells #[.int .i64 k,.int .i64 r,.int .i64 s,.int .i64 t,.int .i64 vk,.int .i64 vn] 39 (0,0))):=⟨blk_new _ _⟩;have HB:=Aside0.mk (Below.refl w.heap.size w);have hu27:=Tryz.underlying37;have hu29:=Tryz.underlying39;obtain rfl:=hvb.out;clear hvb;obtain rfl:=hg.out;clear hg;go_enter Tryz.func41,Tryz.ntmps41
  go_wp2_with (first|(go_at_call 38;refine(hForm _).mono ?_;rintro e w' ⟨g,c,rfl,hb,hg,f0,f1,f2,f3⟩;have SZ:=Aside0.mk (hb.size);have BK:=Aside0.mk (blk_below (by(with_reducible repeat(first|refine blk_drewN ?_ _|refine blk_drew ?_|refine blk_alloc ?_ _));exact BK.out) hb);have HB:=Aside0.mk (below_step (by repeat(first|(with_reducible first|exact HB.out|apply below_alloc|apply pw_below_drewN|apply below_drew1)|exact HB.out)) hb);have q0:w'.cell? ⟨w.heap.size,0,none⟩=some (.int .i64 k):=(blk_cell BK.out 0).trans rfl;have q1:w'.cell? ⟨w.heap.size,1,none⟩=some (.int .i64 r):=(blk_cell BK.out 1).trans rfl;have q2:w'.cell? ⟨w.heap.size,2,none⟩=some (.int .i64 s):=(blk_cell BK.out 2).trans rfl;have q3:w'.cell? ⟨w.heap.size,3,none⟩=some (.int .i64 t):=(blk_cell BK.out 3).trans rfl;have q4:w'.cell? ⟨w.heap.size,4,none⟩=some (.int .i64 vk):=(blk_cell BK.out 4).trans rfl;have q5:w'.cell? ⟨w.heap.size,5,none⟩=some (.int .i64 vn):=(blk_cell BK.out 5).trans rfl;have GS:=Aside0.mk (cell_lt f0);have P0:=Aside0.mk f0;have P1:=Aside0.mk f1;have P2:=Aside0.mk f2;have P3:=Aside0.mk f3;clear hb hg)|(go_at_call 67;refine(hVal _).mono ?_;rintro e w'2 ⟨rfl,hb⟩;have P0:=Aside0.mk ((hb.cell (p:=⟨g,0,none⟩) GS.out).trans P0.out);have P1:=Aside0.mk ((hb.cell (p:=⟨g,1,none⟩) GS.out).trans P1.out);have P2:=Aside0.mk ((hb.cell (p:=⟨g,2,none⟩) GS.out).trans P2.out);have P3:=Aside0.mk ((hb.cell (p:=⟨g,3,none⟩) GS.out).trans P3.out);have BK:=Aside0.mk (blk_below (by(with_reducible repeat(first|refine blk_drewN ?_ _|refine blk_drew ?_|refine blk_alloc ?_ _));exact BK.out) hb);have HB:=Aside0.mk (below_step (by repeat(first|(with_reducible first|exact HB.out|apply below_alloc|apply pw_below_drewN|apply below_drew1)|exact HB.out)) hb);have q0:w'2.cell? ⟨w.heap.size,0,none⟩=some (.int .i64 k):=(blk_cell BK.out 0).trans rfl;have q1:w'2.cell? ⟨w.heap.size,1,none⟩=some (.int .i64 r):=(blk_cell BK.out 1).trans rfl;have q2:w'2.cell? ⟨w.heap.size,2,none⟩=some (.int .i64 s):=(blk_cell BK.out 2).trans rfl;have q3:w'2.cell? ⟨w.heap.size,3,none⟩=some (.int .i64 t):=(blk_cell BK.out 3).trans rfl;have q4:w'2.cell? ⟨w.heap.size,4,none⟩=some (.int .i64 vk):=(blk_cell BK.out 4).trans rfl;have q5:w'2.cell? ⟨w.heap.size,5,none⟩=some (.int .i64 vn):=(blk_cell BK.out 5).trans rfl;have f0:=P0.out;have f1:=P1.out;have f2:=P2.out;have f3:=P3.out;clear hb)|(go_at_call 43;refine(in2_any _ _ _ _).mono ?_;rintro e w' ⟨rfl,rfl⟩)|(go_at_call 68;refine(slot_any _ _).mono ?_;rintro e w' ⟨rfl,rfl⟩)|(go_at_call 69;refine(to_any _ _).mono ?_;rintro e w' ⟨rfl,rfl⟩))
  all_goals go_ret
  all_goals exact⟨rfl,HB.out⟩
theorem specOp_8k (r s t vk vn:Int) (w:World) (g0 u0 u1 u2 u3 vb:Bool)
    (hForm: ∀W,Calls Tryz.prog 38 #[.int .i64 8] W fun e w'=> ∃g c,e= .returned (.slice (some ⟨g,0,none⟩) 4 c)∧Below W.heap.size W w'∧W.heap.size≤g∧w'.cell? ⟨g,0,none⟩=some (.bool u0)∧w'.cell? ⟨g,1,none⟩=some (.bool u1)∧w'.cell? ⟨g,2,none⟩=some (.bool u2)∧w'.cell? ⟨g,3,none⟩=some (.bool u3))
    (hVal: ∀W,Calls Tryz.prog 67 #[.agg #[.int .i64 vk,.int .i64 vn]] W fun e w'=>e= .returned (.bool vb)∧Below W.heap.size W w') (hvk:(vk==1)=false) (hvk2:(vk !=1)=true) (hvb:Aside0 (vb=true)) (hg:Aside0 (g0=false)):
    Calls Tryz.prog 41 #[.agg #[.int .i64 8,.int .i64 r,.int .i64 s,.int .i64 t,.int .i64 vk,.int .i64 vn]] w fun e w'=>e= .returned (.bool g0)∧Below w.heap.size w w':=by
  have BK:Aside0 ((w.alloc (.cells #[.int .i64 8,.int .i64 r,.int .i64 s,.int .i64 t,.int .i64 vk,.int .i64 vn] 39)).heap[w.heap.size]?=some (.cells #[.int .i64 8,.int .i64 r,.int .i64 s,.int .i64 t,.int .i64 vk,.int .i64 vn] 39 (0,0))):=⟨blk_new _ _⟩;have HB:=Aside0.mk (Below.refl w.heap.size w);have hu27:=Tryz.underlying37;have hu29:=Tryz.underlying39;obtain rfl:=hvb.out;clear hvb;obtain rfl:=hg.out;clear hg;go_enter Tryz.func41,Tryz.ntmps41
  go_wp2_with (first|(go_at_call 38;refine(hForm _).mono ?_;rintro e w' ⟨g,c,rfl,hb,hg,f0,f1,f2,f3⟩;have SZ:=Aside0.mk (hb.size);have BK:=Aside0.mk (blk_below (by(with_reducible repeat(first|refine blk_drewN ?_ _|refine blk_drew ?_|refine blk_alloc ?_ _));exact BK.out) hb);have HB:=Aside0.mk (below_step (by repeat(first|(with_reducible first|exact HB.out|apply below_alloc|apply pw_below_drewN|apply below_drew1)|exact HB.out)) hb);have q0:w'.cell? ⟨w.heap.size,0,none⟩=some (.int .i64 8):=(blk_cell BK.out 0).trans rfl;have q1:w'.cell? ⟨w.heap.size,1,none⟩=some (.int .i64 r):=(blk_cell BK.out 1).trans rfl;have q2:w'.cell? ⟨w.heap.size,2,none⟩=some (.int .i64 s):=(blk_cell BK.out 2).trans rfl;have q3:w'.cell? ⟨w.heap.size,3,none⟩=some (.int .i64 t):=(blk_cell BK.out 3).trans rfl;have q4:w'.cell? ⟨w.heap.size,4,none⟩=some (.int .i64 vk):=(blk_cell BK.out 4).trans rfl;have q5:w'.cell? ⟨w.heap.size,5,none⟩=some (.int .i64 vn):=(blk_cell BK.out 5).trans rfl;have GS:=Aside0.mk (cell_lt f0);have P0:=Aside0.mk f0;have P1:=Aside0.mk f1;have P2:=Aside0.mk f2;have P3:=Aside0.mk f3;clear hb hg)|(go_at_call 67;refine(hVal _).mono ?_;rintro e w'2 ⟨rfl,hb⟩;have P0:=Aside0.mk ((hb.cell (p:=⟨g,0,none⟩) GS.out).trans P0.out);have P1:=Aside0.mk ((hb.cell (p:=⟨g,1,none⟩) GS.out).trans P1.out);have P2:=Aside0.mk ((hb.cell (p:=⟨g,2,none⟩) GS.out).trans P2.out);have P3:=Aside0.mk ((hb.cell (p:=⟨g,3,none⟩) GS.out).trans P3.out);have BK:=Aside0.mk (blk_below (by(with_reducible repeat(first|refine blk_drewN ?_ _|refine blk_drew ?_|refine blk_alloc ?_ _));exact BK.out) hb);have HB:=Aside0.mk (below_step (by repeat(first|(with_reducible first|exact HB.out|apply below_alloc|apply pw_below_drewN|apply below_drew1)|exact HB.out)) hb);have q0:w'2.cell? ⟨w.heap.size,0,none⟩=some (.int .i64 8):=(blk_cell BK.out 0).trans rfl;have q1:w'2.cell? ⟨w.heap.size,1,none⟩=some (.int .i64 r):=(blk_cell BK.out 1).trans rfl;have q2:w'2.cell? ⟨w.heap.size,2,none⟩=some (.int .i64 s):=(blk_cell BK.out 2).trans rfl;have q3:w'2.cell? ⟨w.heap.size,3,none⟩=some (.int .i64 t):=(blk_cell BK.out 3).trans rfl;have q4:w'2.cell? ⟨w.heap.size,4,none⟩=some (.int .i64 vk):=(blk_cell BK.out 4).trans rfl;have q5:w'2.cell? ⟨w.heap.size,5,none⟩=some (.int .i64 vn):=(blk_cell BK.out 5).trans rfl;have f0:=P0.out;have f1:=P1.out;have f2:=P2.out;have f3:=P3.out;clear hb)|(go_at_call 43;refine(in2_any _ _ _ _).mono ?_;rintro e w' ⟨rfl,rfl⟩)|(go_at_call 68;refine(slot_any _ _).mono ?_;rintro e w' ⟨rfl,rfl⟩)|(go_at_call 69;refine(to_any _ _).mono ?_;rintro e w' ⟨rfl,rfl⟩))
  all_goals go_ret
  all_goals exact⟨rfl,HB.out⟩
theorem specOp_8n (r s t vn:Int) (w:World) (g0 u0 u1 u2 u3 vb:Bool)
    (hForm: ∀W,Calls Tryz.prog 38 #[.int .i64 8] W fun e w'=> ∃g c,e= .returned (.slice (some ⟨g,0,none⟩) 4 c)∧Below W.heap.size W w'∧W.heap.size≤g∧w'.cell? ⟨g,0,none⟩=some (.bool u0)∧w'.cell? ⟨g,1,none⟩=some (.bool u1)∧w'.cell? ⟨g,2,none⟩=some (.bool u2)∧w'.cell? ⟨g,3,none⟩=some (.bool u3))
    (hVal: ∀W,Calls Tryz.prog 67 #[.agg #[.int .i64 1,.int .i64 vn]] W fun e w'=>e= .returned (.bool vb)∧Below W.heap.size W w') (hvn:vn<1) (hvn2:decide (vn<1)=true) (hvb:Aside0 (vb=true)) (hg:Aside0 (g0=false)):
    Calls Tryz.prog 41 #[.agg #[.int .i64 8,.int .i64 r,.int .i64 s,.int .i64 t,.int .i64 1,.int .i64 vn]] w fun e w'=>e= .returned (.bool g0)∧Below w.heap.size w w':=by
  have BK:Aside0 ((w.alloc (.cells #[.int .i64 8,.int .i64 r,.int .i64 s,.int .i64 t,.int .i64 1,.int .i64 vn] 39)).heap[w.heap.size]?=some (.cells #[.int .i64 8,.int .i64 r,.int .i64 s,.int .i64 t,.int .i64 1,.int .i64 vn] 39 (0,0))):=⟨blk_new _ _⟩;have HB:=Aside0.mk (Below.refl w.heap.size w);have hu27:=Tryz.underlying37;have hu29:=Tryz.underlying39;obtain rfl:=hvb.out;clear hvb;obtain rfl:=hg.out;clear hg;go_enter Tryz.func41,Tryz.ntmps41
  go_wp2_with (first|(go_at_call 38;refine(hForm _).mono ?_;rintro e w' ⟨g,c,rfl,hb,hg,f0,f1,f2,f3⟩;have SZ:=Aside0.mk (hb.size);have BK:=Aside0.mk (blk_below (by(with_reducible repeat(first|refine blk_drewN ?_ _|refine blk_drew ?_|refine blk_alloc ?_ _));exact BK.out) hb);have HB:=Aside0.mk (below_step (by repeat(first|(with_reducible first|exact HB.out|apply below_alloc|apply pw_below_drewN|apply below_drew1)|exact HB.out)) hb);have q0:w'.cell? ⟨w.heap.size,0,none⟩=some (.int .i64 8):=(blk_cell BK.out 0).trans rfl;have q1:w'.cell? ⟨w.heap.size,1,none⟩=some (.int .i64 r):=(blk_cell BK.out 1).trans rfl;have q2:w'.cell? ⟨w.heap.size,2,none⟩=some (.int .i64 s):=(blk_cell BK.out 2).trans rfl;have q3:w'.cell? ⟨w.heap.size,3,none⟩=some (.int .i64 t):=(blk_cell BK.out 3).trans rfl;have q4:w'.cell? ⟨w.heap.size,4,none⟩=some (.int .i64 1):=(blk_cell BK.out 4).trans rfl;have q5:w'.cell? ⟨w.heap.size,5,none⟩=some (.int .i64 vn):=(blk_cell BK.out 5).trans rfl;have GS:=Aside0.mk (cell_lt f0);have P0:=Aside0.mk f0;have P1:=Aside0.mk f1;have P2:=Aside0.mk f2;have P3:=Aside0.mk f3;clear hb hg)|(go_at_call 67;refine(hVal _).mono ?_;rintro e w'2 ⟨rfl,hb⟩;have P0:=Aside0.mk ((hb.cell (p:=⟨g,0,none⟩) GS.out).trans P0.out);have P1:=Aside0.mk ((hb.cell (p:=⟨g,1,none⟩) GS.out).trans P1.out);have P2:=Aside0.mk ((hb.cell (p:=⟨g,2,none⟩) GS.out).trans P2.out);have P3:=Aside0.mk ((hb.cell (p:=⟨g,3,none⟩) GS.out).trans P3.out);have BK:=Aside0.mk (blk_below (by(with_reducible repeat(first|refine blk_drewN ?_ _|refine blk_drew ?_|refine blk_alloc ?_ _));exact BK.out) hb);have HB:=Aside0.mk (below_step (by repeat(first|(with_reducible first|exact HB.out|apply below_alloc|apply pw_below_drewN|apply below_drew1)|exact HB.out)) hb);have q0:w'2.cell? ⟨w.heap.size,0,none⟩=some (.int .i64 8):=(blk_cell BK.out 0).trans rfl;have q1:w'2.cell? ⟨w.heap.size,1,none⟩=some (.int .i64 r):=(blk_cell BK.out 1).trans rfl;have q2:w'2.cell? ⟨w.heap.size,2,none⟩=some (.int .i64 s):=(blk_cell BK.out 2).trans rfl;have q3:w'2.cell? ⟨w.heap.size,3,none⟩=some (.int .i64 t):=(blk_cell BK.out 3).trans rfl;have q4:w'2.cell? ⟨w.heap.size,4,none⟩=some (.int .i64 1):=(blk_cell BK.out 4).trans rfl;have q5:w'2.cell? ⟨w.heap.size,5,none⟩=some (.int .i64 vn):=(blk_cell BK.out 5).trans rfl;have f0:=P0.out;have f1:=P1.out;have f2:=P2.out;have f3:=P3.out;clear hb)|(go_at_call 43;refine(in2_any _ _ _ _).mono ?_;rintro e w' ⟨rfl,rfl⟩)|(go_at_call 68;refine(slot_any _ _).mono ?_;rintro e w' ⟨rfl,rfl⟩)|(go_at_call 69;refine(to_any _ _).mono ?_;rintro e w' ⟨rfl,rfl⟩))
  all_goals go_ret
  all_goals exact⟨rfl,HB.out⟩
theorem specOp_13k (r s t vk vn:Int) (w:World) (g0 u0 u1 u2 u3 vb:Bool)
    (hForm: ∀W,Calls Tryz.prog 38 #[.int .i64 13] W fun e w'=> ∃g c,e= .returned (.slice (some ⟨g,0,none⟩) 4 c)∧Below W.heap.size W w'∧W.heap.size≤g∧w'.cell? ⟨g,0,none⟩=some (.bool u0)∧w'.cell? ⟨g,1,none⟩=some (.bool u1)∧w'.cell? ⟨g,2,none⟩=some (.bool u2)∧w'.cell? ⟨g,3,none⟩=some (.bool u3))
    (hVal: ∀W,Calls Tryz.prog 67 #[.agg #[.int .i64 vk,.int .i64 vn]] W fun e w'=>e= .returned (.bool vb)∧Below W.heap.size W w') (hvk:(vk==1)=false) (hvk2:(vk !=1)=true) (hvb:Aside0 (vb=true)) (hg:Aside0 (g0=false)):
    Calls Tryz.prog 41 #[.agg #[.int .i64 13,.int .i64 r,.int .i64 s,.int .i64 t,.int .i64 vk,.int .i64 vn]] w fun e w'=>e= .returned (.bool g0)∧Below w.heap.size w w':=by
  have BK:Aside0 ((w.alloc (.cells #[.int .i64 13,.int .i64 r,.int .i64 s,.int .i64 t,.int .i64 vk,.int .i64 vn] 39)).heap[w.heap.size]?=some (.cells #[.int .i64 13,.int .i64 r,.int .i64 s,.int .i64 t,.int .i64 vk,.int .i64 vn] 39 (0,0))):=⟨blk_new _ _⟩;have HB:=Aside0.mk (Below.refl w.heap.size w);have hu27:=Tryz.underlying37;have hu29:=Tryz.underlying39;obtain rfl:=hvb.out;clear hvb;obtain rfl:=hg.out;clear hg;go_enter Tryz.func41,Tryz.ntmps41
  go_wp2_with (first|(go_at_call 38;refine(hForm _).mono ?_;rintro e w' ⟨g,c,rfl,hb,hg,f0,f1,f2,f3⟩;have SZ:=Aside0.mk (hb.size);have BK:=Aside0.mk (blk_below (by(with_reducible repeat(first|refine blk_drewN ?_ _|refine blk_drew ?_|refine blk_alloc ?_ _));exact BK.out) hb);have HB:=Aside0.mk (below_step (by repeat(first|(with_reducible first|exact HB.out|apply below_alloc|apply pw_below_drewN|apply below_drew1)|exact HB.out)) hb);have q0:w'.cell? ⟨w.heap.size,0,none⟩=some (.int .i64 13):=(blk_cell BK.out 0).trans rfl;have q1:w'.cell? ⟨w.heap.size,1,none⟩=some (.int .i64 r):=(blk_cell BK.out 1).trans rfl;have q2:w'.cell? ⟨w.heap.size,2,none⟩=some (.int .i64 s):=(blk_cell BK.out 2).trans rfl;have q3:w'.cell? ⟨w.heap.size,3,none⟩=some (.int .i64 t):=(blk_cell BK.out 3).trans rfl;have q4:w'.cell? ⟨w.heap.size,4,none⟩=some (.int .i64 vk):=(blk_cell BK.out 4).trans rfl;have q5:w'.cell? ⟨w.heap.size,5,none⟩=some (.int .i64 vn):=(blk_cell BK.out 5).trans rfl;have GS:=Aside0.mk (cell_lt f0);have P0:=Aside0.mk f0;have P1:=Aside0.mk f1;have P2:=Aside0.mk f2;have P3:=Aside0.mk f3;clear hb hg)|(go_at_call 67;refine(hVal _).mono ?_;rintro e w'2 ⟨rfl,hb⟩;have P0:=Aside0.mk ((hb.cell (p:=⟨g,0,none⟩) GS.out).trans P0.out);have P1:=Aside0.mk ((hb.cell (p:=⟨g,1,none⟩) GS.out).trans P1.out);have P2:=Aside0.mk ((hb.cell (p:=⟨g,2,none⟩) GS.out).trans P2.out);have P3:=Aside0.mk ((hb.cell (p:=⟨g,3,none⟩) GS.out).trans P3.out);have BK:=Aside0.mk (blk_below (by(with_reducible repeat(first|refine blk_drewN ?_ _|refine blk_drew ?_|refine blk_alloc ?_ _));exact BK.out) hb);have HB:=Aside0.mk (below_step (by repeat(first|(with_reducible first|exact HB.out|apply below_alloc|apply pw_below_drewN|apply below_drew1)|exact HB.out)) hb);have q0:w'2.cell? ⟨w.heap.size,0,none⟩=some (.int .i64 13):=(blk_cell BK.out 0).trans rfl;have q1:w'2.cell? ⟨w.heap.size,1,none⟩=some (.int .i64 r):=(blk_cell BK.out 1).trans rfl;have q2:w'2.cell? ⟨w.heap.size,2,none⟩=some (.int .i64 s):=(blk_cell BK.out 2).trans rfl;have q3:w'2.cell? ⟨w.heap.size,3,none⟩=some (.int .i64 t):=(blk_cell BK.out 3).trans rfl;have q4:w'2.cell? ⟨w.heap.size,4,none⟩=some (.int .i64 vk):=(blk_cell BK.out 4).trans rfl;have q5:w'2.cell? ⟨w.heap.size,5,none⟩=some (.int .i64 vn):=(blk_cell BK.out 5).trans rfl;have f0:=P0.out;have f1:=P1.out;have f2:=P2.out;have f3:=P3.out;clear hb)|(go_at_call 43;refine(in2_any _ _ _ _).mono ?_;rintro e w' ⟨rfl,rfl⟩)|(go_at_call 68;refine(slot_any _ _).mono ?_;rintro e w' ⟨rfl,rfl⟩)|(go_at_call 69;refine(to_any _ _).mono ?_;rintro e w' ⟨rfl,rfl⟩))
  all_goals go_ret
  all_goals exact⟨rfl,HB.out⟩
theorem specOp_13n (r s t vn:Int) (w:World) (g0 u0 u1 u2 u3 vb:Bool)
    (hForm: ∀W,Calls Tryz.prog 38 #[.int .i64 13] W fun e w'=> ∃g c,e= .returned (.slice (some ⟨g,0,none⟩) 4 c)∧Below W.heap.size W w'∧W.heap.size≤g∧w'.cell? ⟨g,0,none⟩=some (.bool u0)∧w'.cell? ⟨g,1,none⟩=some (.bool u1)∧w'.cell? ⟨g,2,none⟩=some (.bool u2)∧w'.cell? ⟨g,3,none⟩=some (.bool u3))
    (hVal: ∀W,Calls Tryz.prog 67 #[.agg #[.int .i64 1,.int .i64 vn]] W fun e w'=>e= .returned (.bool vb)∧Below W.heap.size W w') (hvn:Aside0 (decide (0≤vn∧vn≤1)=false)) (hvb:Aside0 (vb=true)) (hg:Aside0 (g0=false)):
    Calls Tryz.prog 41 #[.agg #[.int .i64 13,.int .i64 r,.int .i64 s,.int .i64 t,.int .i64 1,.int .i64 vn]] w fun e w'=>e= .returned (.bool g0)∧Below w.heap.size w w':=by
  have BK:Aside0 ((w.alloc (.cells #[.int .i64 13,.int .i64 r,.int .i64 s,.int .i64 t,.int .i64 1,.int .i64 vn] 39)).heap[w.heap.size]?=some (.cells #[.int .i64 13,.int .i64 r,.int .i64 s,.int .i64 t,.int .i64 1,.int .i64 vn] 39 (0,0))):=⟨blk_new _ _⟩;have HB:=Aside0.mk (Below.refl w.heap.size w);have hu27:=Tryz.underlying37;have hu29:=Tryz.underlying39;obtain rfl:=hvb.out;clear hvb;obtain rfl:=hg.out;clear hg;go_enter Tryz.func41,Tryz.ntmps41
  go_wp2_with (first|(go_at_call 38;refine(hForm _).mono ?_;rintro e w' ⟨g,c,rfl,hb,hg,f0,f1,f2,f3⟩;have SZ:=Aside0.mk (hb.size);have BK:=Aside0.mk (blk_below (by(with_reducible repeat(first|refine blk_drewN ?_ _|refine blk_drew ?_|refine blk_alloc ?_ _));exact BK.out) hb);have HB:=Aside0.mk (below_step (by repeat(first|(with_reducible first|exact HB.out|apply below_alloc|apply pw_below_drewN|apply below_drew1)|exact HB.out)) hb);have q0:w'.cell? ⟨w.heap.size,0,none⟩=some (.int .i64 13):=(blk_cell BK.out 0).trans rfl;have q1:w'.cell? ⟨w.heap.size,1,none⟩=some (.int .i64 r):=(blk_cell BK.out 1).trans rfl;have q2:w'.cell? ⟨w.heap.size,2,none⟩=some (.int .i64 s):=(blk_cell BK.out 2).trans rfl;have q3:w'.cell? ⟨w.heap.size,3,none⟩=some (.int .i64 t):=(blk_cell BK.out 3).trans rfl;have q4:w'.cell? ⟨w.heap.size,4,none⟩=some (.int .i64 1):=(blk_cell BK.out 4).trans rfl;have q5:w'.cell? ⟨w.heap.size,5,none⟩=some (.int .i64 vn):=(blk_cell BK.out 5).trans rfl;have GS:=Aside0.mk (cell_lt f0);have P0:=Aside0.mk f0;have P1:=Aside0.mk f1;have P2:=Aside0.mk f2;have P3:=Aside0.mk f3;clear hb hg)|(go_at_call 67;refine(hVal _).mono ?_;rintro e w'2 ⟨rfl,hb⟩;have P0:=Aside0.mk ((hb.cell (p:=⟨g,0,none⟩) GS.out).trans P0.out);have P1:=Aside0.mk ((hb.cell (p:=⟨g,1,none⟩) GS.out).trans P1.out);have P2:=Aside0.mk ((hb.cell (p:=⟨g,2,none⟩) GS.out).trans P2.out);have P3:=Aside0.mk ((hb.cell (p:=⟨g,3,none⟩) GS.out).trans P3.out);have BK:=Aside0.mk (blk_below (by(with_reducible repeat(first|refine blk_drewN ?_ _|refine blk_drew ?_|refine blk_alloc ?_ _));exact BK.out) hb);have HB:=Aside0.mk (below_step (by repeat(first|(with_reducible first|exact HB.out|apply below_alloc|apply pw_below_drewN|apply below_drew1)|exact HB.out)) hb);have q0:w'2.cell? ⟨w.heap.size,0,none⟩=some (.int .i64 13):=(blk_cell BK.out 0).trans rfl;have q1:w'2.cell? ⟨w.heap.size,1,none⟩=some (.int .i64 r):=(blk_cell BK.out 1).trans rfl;have q2:w'2.cell? ⟨w.heap.size,2,none⟩=some (.int .i64 s):=(blk_cell BK.out 2).trans rfl;have q3:w'2.cell? ⟨w.heap.size,3,none⟩=some (.int .i64 t):=(blk_cell BK.out 3).trans rfl;have q4:w'2.cell? ⟨w.heap.size,4,none⟩=some (.int .i64 1):=(blk_cell BK.out 4).trans rfl;have q5:w'2.cell? ⟨w.heap.size,5,none⟩=some (.int .i64 vn):=(blk_cell BK.out 5).trans rfl;have f0:=P0.out;have f1:=P1.out;have f2:=P2.out;have f3:=P3.out;clear hb)|(go_at_call 43;refine(in2_any _ _ _ _).mono ?_;rintro e w' ⟨rfl,rfl⟩;rw[hvn.out])|(go_at_call 68;refine(slot_any _ _).mono ?_;rintro e w' ⟨rfl,rfl⟩)|(go_at_call 69;refine(to_any _ _).mono ?_;rintro e w' ⟨rfl,rfl⟩))
  all_goals go_ret
  all_goals exact⟨rfl,HB.out⟩
end Go.Proofs.YtmklpbmlgjkbiaaGreatDoor.PS
end
section
namespace Go.Proofs.YtmklpbmlgjkbiaaGreatDoor.PS
open Go.RowKit Go.Proofs.YtmklpbmlgjkbiaaGreatDoorW.PrintWords Go.Proofs.YtmklpbmlgjkbiaaGreatDoorW.PrintLast
theorem form_eq (k:Int):spec_l2Form.f 3 k=some (formL k):=by
  refine kinds (P:=fun k=>spec_l2Form.f 3 k=some (formL k)) (fun k hk=> ?_) (by decide) (by decide) (by decide) (by decide) (by decide) (by decide) (by decide) (by decide) (by decide) (by decide) (by decide) (by decide) (by decide) (by decide) k
  unfold formL;rw[if_neg hk];have h1:k≠1:=by omega
  have h2:k≠2:=by omega
  have h3:k≠3:=by omega
  have h4:k≠4:=by omega
  have h5:k≠5:=by omega
  have h6:k≠6:=by omega
  have h7:k≠7:=by omega
  have h8:k≠8:=by omega
  have h9:k≠9:=by omega
  have h10:k≠10:=by omega
  have h11:k≠11:=by omega
  have h12:k≠12:=by omega
  have h13:k≠13:=by omega
  have h14:k≠14:=by omega
  simp[spec_l2Form.f,spec_l2Form.j0,spec_l2Form.j1,h1,h2,h3,h4,h5,h6,h7,h8,h9,h10,h11,h12,h13,h14]
theorem form_calls {k:Int} (hk:1≤k∧k≤14) (W:World):Calls Tryz.prog 38 #[.int .i64 k] W fun e w'=> ∃g c,e= .returned (.slice (some ⟨g,0,none⟩) 4 c)∧Below W.heap.size W w'∧W.heap.size≤g∧w'.cell? ⟨g,0,none⟩=some (.bool (hasR k))∧w'.cell? ⟨g,1,none⟩=some (.bool (hasS k))∧w'.cell? ⟨g,2,none⟩=some (.bool (hasT k))∧w'.cell? ⟨g,3,none⟩=some (.bool (hasV k)):=by
  refine(spec_l2Form.calls 3 k (formL k) W (form_eq k)).mono ?_
  rintro e w' ⟨v,rfl,hR,hb⟩
  have:formL k=[hasR k,hasS k,hasT k,hasV k]:=if_pos hk;rw[this]at hR
  obtain⟨g,c,rfl,hg,q0,q1,q2,q3⟩:=own4 hR;exact⟨g,c,rfl,hb,hg,q0,q1,q2,q3⟩
theorem sok_eq (k n:Int):spec_ValOk.f k n=some (okB k n):=by
  unfold spec_ValOk.f spec_l6In.f okB okP;by_cases h0:k=0
  · subst h0;by_cases hn:n=0<;>simp[hn]
  rw[if_neg h0];by_cases h1:k=1
  · subst h1;by_cases a:n≥ -99<;>simp[a]<;>omega
  rw[if_neg h1];by_cases h2:k=2
  · subst h2;by_cases a:n≥0<;>simp[a]<;>omega
  rw[if_neg h2];by_cases h3:k=3
  · subst h3;by_cases a:n≥1<;>simp[a]<;>omega
  rw[if_neg h3];simp[h0,h1,h2,h3]
theorem opB_form (k r s t vk vn:Int) (hk:1≤k∧k≤14) (hv:valP k vk vn):opB k r s t vk vn=(((decide (0≤r∧r≤3)&&hasR k)||r==0)&&(((decide (0≤s∧s≤3)&&hasS k)||s==0)&&(((decide (0≤t∧t≤15)&&hasT k)||t==0)&&(hasV k||(vk==0&&(vn==0)))))):=by
  have e: ∀x y:Int,(x==y)=decide (x=y):=fun x y=>by by_cases h:x=y<;>simp[h]
  have sw: ∀ (a b c:Prop),((a∧b)∨c) ↔ (c∨(b∧a)):=fun a b c=>⟨fun h=>h.elim (fun g=>.inr ⟨g.2,g.1⟩) .inl,fun h=>h.elim .inr (fun g=>.inl ⟨g.2,g.1⟩)⟩
  rw[Bool.eq_iff_iff];simp only[opB,decide_eq_true_eq,Bool.and_eq_true,Bool.or_eq_true,e,sw]
  exact⟨fun h=>h.2.2,fun h=>⟨hk,hv,h⟩⟩
theorem opB_bad {k r s t vk vn:Int} (h: ¬(1≤k∧k≤14)∨ ¬valP k vk vn):opB k r s t vk vn=false:=opB_false.2 (fun g=>h.elim (fun a=>a g.1) (fun a=>a g.2.1))
theorem specOp_none (k r s t vk vn:Int) (w:World) (hk: ¬(1≤k∧k≤14)):
    Calls Tryz.prog 41 #[.agg #[.int .i64 k,.int .i64 r,.int .i64 s,.int .i64 t,.int .i64 vk,.int .i64 vn]] w fun e w'=>e= .returned (.bool false)∧Below w.heap.size w w':=by
  have hForm: ∀W:World,Calls Tryz.prog 38 #[.int .i64 k] W fun e w'=> ∃A c,e= .returned (.slice A 0 c)∧Below W.heap.size W w':=fun W=>by
    refine(spec_l2Form.calls 3 k (formL k) W (form_eq k)).mono ?_
    rintro e w' ⟨v,rfl,hR,hb⟩
    have:formL k=[]:=if_neg hk;rw[this]at hR
    obtain⟨A,c,rfl⟩:=Kd.R_slice hR;exact⟨A,c,rfl,hb⟩
  clear hk;have HB:=Aside0.mk (Below.refl w.heap.size w);go_enter Tryz.func41,Tryz.ntmps41
  go_wp2_with (go_at_call 38;refine(hForm _).mono ?_;rintro e w' ⟨A,c,rfl,hb⟩)
  go_ret
  exact⟨rfl,below_step (below_alloc (Below.refl _ _) _) hb⟩
theorem spec_OpOk.calls (k r s t vk vn:Int) (b:Bool) (w:World) (h:opV.f k r s t vk vn=some b):
    Calls Tryz.prog 41 #[.agg #[.int .i64 k,.int .i64 r,.int .i64 s,.int .i64 t,.int .i64 vk,.int .i64 vn]] w fun e w'=>e= .returned (.bool b)∧Below w.heap.size w w':=by
  obtain rfl:=Option.some.inj h;by_cases hk:1≤k∧k≤14
  rotate_left
  · rw[opB_bad (.inl hk)];exact specOp_none k r s t vk vn w hk
  have hForm:=fun W=>form_calls hk W
  have hVal:=fun W=>spec_ValOk.calls vk vn (okB vk vn) W (sok_eq vk vn)
  by_cases hv:okP vk vn
  rotate_left
  · rw[opB_bad (.inr (fun g=>hv g.1))]
    exact specOp_bad k r s t vk vn w false _ _ _ _ (okB vk vn) hForm hVal ⟨okB_false.2 hv⟩ ⟨rfl⟩
  have hvb:Aside0 (okB vk vn=true):=⟨okB_true.2 hv⟩;by_cases h8:k=8
  · by_cases h1:vk=1
    · by_cases hn:1≤vn
      · subst h8;subst h1;exact specOp_8 r s t vn w _ _ _ _ _ _ hForm hVal hn hvb ⟨opB_form 8 r s t 1 vn hk ⟨hv,fun _=>⟨rfl,hn⟩,fun e=>by omega⟩⟩
      · rw[opB_bad (.inr (fun g=>hn (g.2.1 h8).2))]
        subst h8;subst h1;exact specOp_8n r s t vn w false _ _ _ _ _ hForm hVal (by omega) (decide_eq_true (by omega)) hvb ⟨rfl⟩
    · rw[opB_bad (.inr (fun g=>h1 (g.2.1 h8).1))]
      subst h8;exact specOp_8k r s t vk vn w false _ _ _ _ _ hForm hVal (by simpa using h1) (by simpa using h1) hvb ⟨rfl⟩
  by_cases h13:k=13
  · by_cases h1:vk=1
    · by_cases hn:0≤vn∧vn≤1
      · subst h13;subst h1;exact specOp_13 r s t vn w _ _ _ _ _ _ hForm hVal hn.1 hn.2 hvb ⟨opB_form 13 r s t 1 vn hk ⟨hv,fun e=>by omega,fun _=>⟨rfl,hn⟩⟩⟩
      · rw[opB_bad (.inr (fun g=>hn (g.2.2 h13).2))]
        subst h13;subst h1;exact specOp_13n r s t vn w false _ _ _ _ _ hForm hVal ⟨decide_eq_false hn⟩ hvb ⟨rfl⟩
    · rw[opB_bad (.inr (fun g=>h1 (g.2.2 h13).1))]
      subst h13;exact specOp_13k r s t vk vn w false _ _ _ _ _ hForm hVal (by simpa using h1) (by simpa using h1) hvb ⟨rfl⟩
  exact specOp_main k r s t vk vn w _ _ _ _ _ _ hForm hVal (by simpa using h8) (by simpa using h13) hvb ⟨opB_form k r s t vk vn hk ⟨hv,fun e=>absurd e h8,fun e=>absurd e h13⟩⟩
end Go.Proofs.YtmklpbmlgjkbiaaGreatDoor.PS
end
