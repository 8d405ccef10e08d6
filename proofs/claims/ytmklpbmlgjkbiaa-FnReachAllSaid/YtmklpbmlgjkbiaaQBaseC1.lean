/- What the rows of BaseC rest on, part 2. -/
import Derived.Test.YtmklpbmlgjkbiaaProg
import Derived.Deep.RegionWith
import Derived.Lib.Bytealg
import Derived.Shelf.Strings.Search3
import Derived.WalkSpells
import Derived.Lib.OthersKept
import Derived.Lib.Hide
import Derived.WalkSmall
import Derived.Laws.EntriesVeiled
import Derived.Test.YtmklpbmlgjkbiaaQBaseC0
set_option linter.unusedVariables false
set_option linter.unusedSimpArgs false
set_option maxHeartbeats 8000000
set_option maxRecDepth 100000
section
namespace Go.Proofs.Ytmklpbmlgjkbiaa.PS
open Go.RowKit Go.Proofs.YtmklpbmlgjkbiaaW.PrintWords Go.Proofs.YtmklpbmlgjkbiaaW.PrintLast Go.Proofs.YtmklpbmlgjkbiaaW.PrintMore
attribute [local go_sem] max2_int min2_int max_two min_two max_three min_three max_four min_four   -- for this text's walks alone
def errW:Option Int→Value
  |none=>.nilIface
  |some c=>.iface 0 (.int .i64 c)
theorem errW_none:errW none= .nilIface:=rfl
theorem errW_some (c:Int):errW (some c)= .iface 0 (.int .i64 c):=rfl
theorem info3:(Try.prog.info? 3).map (fun i=>(i.zero,i.size,i.bytes))=some (some (.int .i64 0),1,8):=by kernel_rfl
theorem info5:(Try.prog.info? 5).map (fun i=>(i.zero,i.size,i.bytes))=some (some (.int .u8 0),1,1):=by kernel_rfl
theorem info9:(Try.prog.info? 9).map (fun i=>(i.zero,i.size,i.bytes))=some (some (.string ⟨#[]⟩),1,16):=by kernel_rfl
theorem info29:(Try.prog.info? 29).map (fun i=>(i.zero,i.size,i.bytes))=some (some (.agg #[(.int .i64 0),(.int .i64 0),(.int .i64 0),(.int .i64 0),(.int .i64 0),(.int .i64 0)]),6,48):=by kernel_rfl
structure S27 where
  f0:Int
  f1:Int
def z27:S27:=⟨(0:Int),(0:Int)⟩
def k27:Kd S27:=Kd.iso (Kd.pair (Kd.int .i64) (Kd.int .i64)) (fun x:S27=>(x.f0,x.f1))
theorem k27_heap:Kd.Heap k27:=Kd.heap_iso _ (Kd.heap_pair (Kd.heap_int .i64) (Kd.heap_int .i64))
theorem k27_open {w:World} {x:S27} {cs:List Value} (h:k27.K w x cs):cs=[.int .i64 x.f0,.int .i64 x.f1]:=by
  obtain⟨_,_,rfl,rfl,rfl⟩:=h;exact rfl
theorem k27_openM {w:World} {base:Nat} {ok:Nat→Prop} {x:S27} {cs:List Value} (h:k27.M w base ok x cs):cs=[.int .i64 x.f0,.int .i64 x.f1]:=by
  obtain⟨_,_,rfl,rfl,rfl⟩:=h;exact rfl
theorem k27_mkM (w:World) (base:Nat) (ok:Nat→Prop) (x:S27):k27.M w base ok x [.int .i64 x.f0,.int .i64 x.f1]:=⟨[.int .i64 x.f0],[.int .i64 x.f1],rfl,rfl,rfl⟩
structure S29 where
  f0:Int
  f1:Int
  f2:Int
  f3:Int
  f4:S27
def z29:S29:=⟨(0:Int),(0:Int),(0:Int),(0:Int),z27⟩
def k29:Kd S29:=Kd.iso (Kd.pair (Kd.int .i64) (Kd.pair (Kd.int .i64) (Kd.pair (Kd.int .i64) (Kd.pair (Kd.int .i64) k27)))) (fun x:S29=>(x.f0,x.f1,x.f2,x.f3,x.f4))
theorem k29_heap:Kd.Heap k29:=Kd.heap_iso _ (Kd.heap_pair (Kd.heap_int .i64) (Kd.heap_pair (Kd.heap_int .i64) (Kd.heap_pair (Kd.heap_int .i64) (Kd.heap_pair (Kd.heap_int .i64) k27_heap))))
theorem k29_open {w:World} {x:S29} {cs:List Value} (h:k29.K w x cs):cs=[.int .i64 x.f0,.int .i64 x.f1,.int .i64 x.f2,.int .i64 x.f3,.int .i64 x.f4.f0,.int .i64 x.f4.f1]:=by
  obtain⟨_,_,rfl,rfl,⟨_,_,rfl,rfl,⟨_,_,rfl,rfl,⟨_,_,rfl,rfl,s4⟩⟩⟩⟩:=h;obtain rfl:=k27_open s4;exact rfl
theorem k29_openM {w:World} {base:Nat} {ok:Nat→Prop} {x:S29} {cs:List Value} (h:k29.M w base ok x cs):cs=[.int .i64 x.f0,.int .i64 x.f1,.int .i64 x.f2,.int .i64 x.f3,.int .i64 x.f4.f0,.int .i64 x.f4.f1]:=by
  obtain⟨_,_,rfl,rfl,⟨_,_,rfl,rfl,⟨_,_,rfl,rfl,⟨_,_,rfl,rfl,s4⟩⟩⟩⟩:=h;obtain rfl:=k27_openM s4;exact rfl
theorem k29_mkM (w:World) (base:Nat) (ok:Nat→Prop) (x:S29):k29.M w base ok x [.int .i64 x.f0,.int .i64 x.f1,.int .i64 x.f2,.int .i64 x.f3,.int .i64 x.f4.f0,.int .i64 x.f4.f1]:=⟨[.int .i64 x.f0],[.int .i64 x.f1,.int .i64 x.f2,.int .i64 x.f3,.int .i64 x.f4.f0,.int .i64 x.f4.f1],rfl,rfl,⟨[.int .i64 x.f1],[.int .i64 x.f2,.int .i64 x.f3,.int .i64 x.f4.f0,.int .i64 x.f4.f1],rfl,rfl,⟨[.int .i64 x.f2],[.int .i64 x.f3,.int .i64 x.f4.f0,.int .i64 x.f4.f1],rfl,rfl,⟨[.int .i64 x.f3],[.int .i64 x.f4.f0,.int .i64 x.f4.f1],rfl,rfl,(k27_mkM w base ok x.f4)⟩⟩⟩⟩
def rd_T29 (xs:List S29) (i:Int):S29:=xs.getD i.toNat z29
theorem at_T29 {w:World} {A:Option Addr} {n:Nat} {xs:List S29} (h:Kd.C k29 w A n xs) (i:Int) (h0:0≤i) (h1:i<n): ∃ad,A=some ad∧w.cell? (ad.add (i.toNat*6))=some (.int .i64 (rd_T29 xs i).f0)∧w.cell? ⟨(ad.add (i.toNat*6)).block,(ad.add (i.toNat*6)).off+1,none⟩=some (.int .i64 (rd_T29 xs i).f1)∧w.cell? ⟨(ad.add (i.toNat*6)).block,(ad.add (i.toNat*6)).off+2,none⟩=some (.int .i64 (rd_T29 xs i).f2)∧w.cell? ⟨(ad.add (i.toNat*6)).block,(ad.add (i.toNat*6)).off+3,none⟩=some (.int .i64 (rd_T29 xs i).f3)∧w.cell? ⟨(ad.add (i.toNat*6)).block,(ad.add (i.toNat*6)).off+4,none⟩=some (.int .i64 (rd_T29 xs i).f4.f0)∧w.cell? ⟨(ad.add (i.toNat*6)).block,(ad.add (i.toNat*6)).off+5,none⟩=some (.int .i64 (rd_T29 xs i).f4.f1):=by
  obtain⟨ad,c,e,_,hK,hc0⟩:=Kd.C_get h z29 i h0 h1;have hc: ∀j u,c[j]?=some u→w.cell? (ad.add (i.toNat*6+j))=some u:=hc0;obtain rfl:=k29_open hK;exact⟨ad,e,hc 0 _ rfl,by rw[←add_field _ _ 1 (by omega)];exact hc 1 _ rfl,by rw[←add_field _ _ 2 (by omega)];exact hc 2 _ rfl,by rw[←add_field _ _ 3 (by omega)];exact hc 3 _ rfl,by rw[←add_field _ _ 4 (by omega)];exact hc 4 _ rfl,by rw[←add_field _ _ 5 (by omega)];exact hc 5 _ rfl⟩
structure S66 where
  f0:ByteArray
  f1:ByteArray
  f2:ByteArray
  f3:Bool
def z66:S66:=⟨(⟨#[]⟩:ByteArray),(⟨#[]⟩:ByteArray),(⟨#[]⟩:ByteArray),false⟩
theorem bA {w W:World} (h:Below w.heap.size w W) (o:Obj):Below w.heap.size w (W.alloc o):=below_alloc h o
theorem bN {B:Nat} {w W:World} (h:Below B w W) (n:Nat):Below B w (W.drewN n):=pw_below_drewN h n
theorem b1 {B:Nat} {w W:World} (h:Below B w W):Below B w W.drew:=below_drew1 h
section
variable {α:Type} {d:Kd α} {e:Nat} {w:World} {base:Nat} {ok:Nat→Prop} {v:Value} {xs:List α}
theorem rA (h:Kd.R d e w base ok v xs) (o:Obj):Kd.R d e (w.alloc o) base ok v xs:=Kd.R_alloc h o
theorem rD (h:Kd.R d e w base ok v xs):Kd.R d e w.drew base ok v xs:=Kd.R_drew h
theorem rN (h:Kd.R d e w base ok v xs) (m:Nat):Kd.R d e (w.drewN m) base ok v xs:=Kd.R_drewN h m
end
inductive Up:World→World→Type
  |refl (w:World):Up w w
  |alloc {w W:World} (h:Up w W) (o:Obj):Up w (W.alloc o)
  |drew {w W:World} (h:Up w W):Up w W.drew
  |drewN {w W:World} (h:Up w W) (n:Nat):Up w (W.drewN n)
instance upR (w:World):Nonempty (Up w w):=⟨.refl w⟩
instance upA {w W:World} [h:Nonempty (Up w W)] (o:Obj):Nonempty (Up w (W.alloc o)):=h.elim fun h=>⟨.alloc h o⟩
instance upD {w W:World} [h:Nonempty (Up w W)]:Nonempty (Up w W.drew):=h.elim fun h=>⟨.drew h⟩
instance upN {w W:World} [h:Nonempty (Up w W)] (n:Nat):Nonempty (Up w (W.drewN n)):=h.elim fun h=>⟨.drewN h n⟩
theorem bU {w V W:World} [u:Nonempty (Up V W)] (k:Below w.heap.size w V):Below w.heap.size w W:=by
  obtain⟨u⟩:=u;induction u with
  |refl=>exact k
  |alloc _ o ih=>exact below_alloc ih o
  |drew _ ih=>exact below_drew1 ih
  |drewN _ n ih=>exact pw_below_drewN ih n
theorem blkU {V W:World} {g:Nat} {o:Obj} [u:Nonempty (Up V W)] (k:V.heap[g]?=some o):W.heap[g]?=some o:=by
  obtain⟨u⟩:=u;induction u with
  |refl=>exact k
  |alloc _ o ih=>exact blk_alloc ih o
  |drew _ ih=>exact blk_drew ih
  |drewN _ n ih=>exact blk_drewN ih n
theorem rU {α:Type} {d:Kd α} {e base:Nat} {ok:Nat→Prop} {v:Value} {xs:List α} {V W:World} [u:Nonempty (Up V W)] (k:Kd.R d e V base ok v xs):Kd.R d e W base ok v xs:=by
  obtain⟨u⟩:=u;induction u with
  |refl=>exact k
  |alloc _ o ih=>exact Kd.R_alloc ih o
  |drew _ ih=>exact Kd.R_drew ih
  |drewN _ n ih=>exact Kd.R_drewN ih n
theorem six_cells {w:World} {g:Nat} {t:TypeId} {a b c d e f:Value} (h:w.heap[g]?=some (.cells #[a,b,c,d,e,f] t (0,0))):w.cell? ⟨g,0,none⟩=some a∧w.cell? ⟨g,1,none⟩=some b∧w.cell? ⟨g,2,none⟩=some c∧w.cell? ⟨g,3,none⟩=some d∧w.cell? ⟨g,4,none⟩=some e∧w.cell? ⟨g,5,none⟩=some f:=⟨(blk_cell h 0).trans rfl,(blk_cell h 1).trans rfl,(blk_cell h 2).trans rfl,(blk_cell h 3).trans rfl,(blk_cell h 4).trans rfl,(blk_cell h 5).trans rfl⟩
theorem six_marks {w:World} {g:Nat} {t:TypeId} {cs:Array Value} (h:w.heap[g]?=some (.cells cs t (0,0))):w.frozen? ⟨g,0,none⟩=false∧w.frozen? ⟨g,1,none⟩=false∧w.frozen? ⟨g,2,none⟩=false∧w.frozen? ⟨g,3,none⟩=false∧w.frozen? ⟨g,4,none⟩=false∧w.frozen? ⟨g,5,none⟩=false:=⟨blk_frozen h 0,blk_frozen h 1,blk_frozen h 2,blk_frozen h 3,blk_frozen h 4,blk_frozen h 5⟩
theorem pS {w w1:World} {g:Nat} {row:Option Nat} (h:KeepBut w w1 g row) (j:Nat) (u:Value):KeepBut w (w1.setCell ⟨g,j,none⟩ u) g row:=h.set_ j u
theorem pN {w W:World} {g:Nat} {row:Option Nat} (h:KeepBut w W g row) (m:Nat):KeepBut w (W.drewN m) g row:=keep_drewN h m
theorem pD {w W:World} {g:Nat} {row:Option Nat} (h:KeepBut w W g row):KeepBut w W.drew g row:=keep_drew h
theorem pA {w W:World} {g:Nat} (h:KeepBut w W g none) (o:Obj):KeepBut w (W.alloc o) g none:=keep_alloc h o
class UpTo (W:World) (V:outParam World):Prop where up:Nonempty (Up V W)
instance (priority:=low) upT (W:World):UpTo W W:=⟨⟨.refl W⟩⟩
instance upTA (W V:World) [h:UpTo W V] (o:Obj):UpTo (W.alloc o) V:=⟨h.up.elim fun h=>⟨.alloc h o⟩⟩
instance upTD (W V:World) [h:UpTo W V]:UpTo W.drew V:=⟨h.up.elim fun h=>⟨.drew h⟩⟩
instance upTN (W V:World) [h:UpTo W V] (n:Nat):UpTo (W.drewN n) V:=⟨h.up.elim fun h=>⟨.drewN h n⟩⟩
theorem kU {W V:World} {g:Nat} {o:Obj} [u:UpTo W V] (k:V.heap[g]?=some o):W.heap[g]?=some o:= @blkU V W g o u.up k
theorem CU {α:Type} {d:Kd α} {A:Option Addr} {n:Nat} {xs:List α} {V W:World} [u:Nonempty (Up V W)] (k:Kd.C d V A n xs):Kd.C d W A n xs:=by
  obtain⟨u⟩:=u;induction u with
  |refl=>exact k
  |alloc _ o ih=>exact Kd.C_alloc ih o
  |drew _ ih=>exact Kd.C_drew ih
  |drewN _ n ih=>exact Kd.C_drewN ih n
theorem aS {p:Prop} (h:p):Aside0 p:=⟨h⟩
end Go.Proofs.Ytmklpbmlgjkbiaa.PS
end
section
namespace Go.Proofs.Ytmklpbmlgjkbiaa.PJH
open Go.RowKit Go.Proofs.YtmklpbmlgjkbiaaW.PrintWords Go.Proofs.YtmklpbmlgjkbiaaW.PrintLast Go.Proofs.YtmklpbmlgjkbiaaW.PrintMore Go.Proofs.Ytmklpbmlgjkbiaa.PS
attribute [local go_sem] max2_int min2_int max_two min_two max_three min_three max_four min_four   -- for this text's walks alone
def errW:Option Int→Value
 |none=>.nilIface
 |some c=>.iface 0 (.int .i64 c)
theorem errW_none:errW none= .nilIface:=rfl
theorem errW_some (c:Int):errW (some c)= .iface 0 (.int .i64 c):=rfl
theorem info3:(Try.prog.info? 3).map (fun i=>(i.zero,i.size,i.bytes))=some (some (.int .i64 0),1,8):=by kernel_rfl
theorem info29:(Try.prog.info? 29).map (fun i=>(i.zero,i.size,i.bytes))=some (some (.agg #[(.int .i64 0),(.int .i64 0),(.int .i64 0),(.int .i64 0),(.int .i64 0),(.int .i64 0)]),6,48):=by kernel_rfl
end Go.Proofs.Ytmklpbmlgjkbiaa.PJH
end
section
namespace Go.Proofs.Ytmklpbmlgjkbiaa.PS
open Go.RowKit Go.Proofs.YtmklpbmlgjkbiaaW.PrintWords Go.Proofs.YtmklpbmlgjkbiaaW.PrintLast
def okP (k n:Int):Prop:=(k=0∧n=0)∨(k=1∧ -99≤n∧n≤99)∨(k=2∧0≤n∧n≤9)∨(k=3∧1≤n∧n≤6)
instance (k n:Int):Decidable (okP k n):=by unfold okP;infer_instance
def okB (k n:Int):Bool:=decide (okP k n)
theorem okB_true {k n:Int} :okB k n=true ↔ okP k n:=by simp[okB]
theorem okB_false {k n:Int} :okB k n=false ↔ ¬okP k n:=by simp[okB]
def hasR (k:Int):Bool:=decide (1≤k∧k≤14∧k≠9∧k≠13)
def hasS (k:Int):Bool:=decide (k=2∨k=3∨k=6∨k=7∨k=8)
def hasT (k:Int):Bool:=decide (k=5∨k=8∨k=9∨k=10)
def hasV (k:Int):Bool:=decide (k=1∨k=8∨k=10∨k=13)
def formL (k:Int):List Bool:=if 1≤k∧k≤14 then [hasR k,hasS k,hasT k,hasV k]else []
def valP (k vk vn:Int):Prop:=okP vk vn∧(k=8→vk=1∧1≤vn)∧(k=13→vk=1∧0≤vn∧vn≤1)
instance (k vk vn:Int):Decidable (valP k vk vn):=by unfold valP;infer_instance
def opP (k r s t vk vn:Int):Prop:=
  (1≤k∧k≤14)∧valP k vk vn∧(r=0∨(hasR k=true∧0≤r∧r≤3))∧(s=0∨(hasS k=true∧0≤s∧s≤3))∧
    (t=0∨(hasT k=true∧0≤t∧t≤15))∧(hasV k=true∨(vk=0∧vn=0))
instance (k r s t vk vn:Int):Decidable (opP k r s t vk vn):=by unfold opP;infer_instance
def opB (k r s t vk vn:Int):Bool:=decide (opP k r s t vk vn)
theorem opB_true {k r s t vk vn:Int} :opB k r s t vk vn=true ↔ opP k r s t vk vn:=by simp[opB]
theorem opB_false {k r s t vk vn:Int} :opB k r s t vk vn=false ↔ ¬opP k r s t vk vn:=by simp[opB]
def opV.f (k r s t vk vn:Int):Option Bool:=some (opB k r s t vk vn)
def usesL (k r s:Int):List Int:=
  if k=2 then [s]else if k=3∨k=6 then [r,s]else if k=10∨k=11∨k=12∨k=14 then [r]else []
def mannersL:List S66:=
  [⟨⟨#[]⟩,⟨#[]⟩,⟨#[]⟩,false⟩,
   ⟨⟨#[115,101,116]⟩,⟨#[82,86]⟩,⟨#[]⟩,true⟩,
   ⟨⟨#[109,111,118,101]⟩,⟨#[82,83]⟩,⟨#[83]⟩,true⟩,
   ⟨⟨#[97,100,100]⟩,⟨#[82,83]⟩,⟨#[82,83]⟩,false⟩,
   ⟨⟨#[115,101,108,102]⟩,⟨#[82]⟩,⟨#[]⟩,true⟩,
   ⟨⟨#[98,101,103,105,110]⟩,⟨#[82,84]⟩,⟨#[]⟩,true⟩,
   ⟨⟨#[115,101,110,100]⟩,⟨#[82,83]⟩,⟨#[82,83]⟩,false⟩,
   ⟨⟨#[116,97,107,101]⟩,⟨#[82,83]⟩,⟨#[]⟩,true⟩,
   ⟨⟨#[97,102,116,101,114]⟩,⟨#[82,83,84,86]⟩,⟨#[]⟩,true⟩,
   ⟨⟨#[103,111]⟩,⟨#[84]⟩,⟨#[]⟩,false⟩,
   ⟨⟨#[105,102]⟩,⟨#[82,84,86]⟩,⟨#[82]⟩,false⟩,
   ⟨⟨#[108,105,110,107]⟩,⟨#[82]⟩,⟨#[82]⟩,false⟩,
   ⟨⟨#[119,97,116,99,104]⟩,⟨#[82]⟩,⟨#[82]⟩,false⟩,
   ⟨⟨#[116,114,97,112]⟩,⟨#[86]⟩,⟨#[]⟩,false⟩,
   ⟨⟨#[101,110,100]⟩,⟨#[82]⟩,⟨#[82]⟩,false⟩]
def howR (k:Int):S66:=if 1≤k∧k≤14 then mannersL.getD k.toNat z66 else z66
def howV.f (k _r _s _t _vk _vn:Int):Option (ByteArray×ByteArray×ByteArray×Bool):=some ((howR k).f0,(howR k).f1,(howR k).f2,(howR k).f3)
theorem kinds {P:Int→Prop} (h: ∀k:Int,¬(1≤k∧k≤14)→P k) (h1:P 1) (h2:P 2) (h3:P 3) (h4:P 4) (h5:P 5) (h6:P 6) (h7:P 7) (h8:P 8) (h9:P 9)
    (h10:P 10) (h11:P 11) (h12:P 12) (h13:P 13) (h14:P 14) (k:Int):P k:=by
  by_cases hk:1≤k∧k≤14
  · have:k=1∨k=2∨k=3∨k=4∨k=5∨k=6∨k=7∨k=8∨k=9∨k=10∨k=11∨k=12∨k=13∨k=14:=by omega
    rcases this with rfl|rfl|rfl|rfl|rfl|rfl|rfl|rfl|rfl|rfl|rfl|rfl|rfl|rfl<;>assumption
  · exact h k hk
theorem in_any (a b c:Int) (w:World):Calls Try.prog 65 #[.int .i64 a,.int .i64 b,.int .i64 c] w fun e w'=>e= .returned (.bool (decide (b≤a∧a≤c)))∧w=w':=by
  by_cases h1:b≤a<;>by_cases h2:a≤c<;>(go_enter Try.func65,Try.ntmps65;go_wp2;go_ret;exact⟨by simp[h1,h2],rfl⟩)
def cellsOf:List S66→List Value
  | []=> []
  |x::xs=>.string x.f0:: .string x.f1:: .string x.f2:: .bool x.f3::cellsOf xs
def IsManners (w w':World) (g:Nat):Prop:=Below w.heap.size w w'∧w.heap.size≤g∧ ∀i,w'.cell? ⟨g,i,none⟩=(cellsOf mannersL)[i]?
theorem manners_any (w:World):Calls Try.prog 89 #[] w fun e w'=> ∃g,e= .returned (.slice (some ⟨g,0,none⟩) 15 15)∧IsManners w w' g:=by
  go_enter Try.func89,Try.ntmps89
  go_wp2
  go_ret
  refine⟨_,rfl,(Below.refl _ _).alloc (Nat.le_refl _) _,Nat.le_refl _,fun i=> ?_⟩
  rw[World.cell?_alloc_new];show(cellsOf mannersL).toArray[i]?=_
  exact List.getElem?_toArray
theorem bcell {W w1:World} (hb:Below W.heap.size W w1):(∀b o,b<W.heap.size→w1.cell? ⟨b,o,none⟩=W.cell? ⟨b,o,none⟩)∧(∀b o,b<W.heap.size→w1.frozen? ⟨b,o,none⟩=W.frozen? ⟨b,o,none⟩):=
  ⟨fun b o h=>hb.cell (p:=⟨b,o,none⟩) h,fun b o h=>hb.frozen (p:=⟨b,o,none⟩) h⟩
theorem blk2 (w:World) (A B:Obj):((w.alloc A).alloc B).drew.heap[w.heap.size+1]?=some B:=by
  have:=blk_new (w.alloc A) B;rwa [World.size_alloc]at this
theorem end4 {w W w':World} {g t:Nat} {z0 z1 z2 z3:Value} (hW:Below w.heap.size w W) (hge:w.heap.size≤g) (h0:W.heap[g]?=some (.cells #[z0,z1,z2,z3] t (0,0))) (hb:Below W.heap.size W w') (a b c d:Value):
    Below w.heap.size w ((((w'.setCell ⟨g,0,none⟩ a).setCell ⟨g,1,none⟩ b).setCell ⟨g,2,none⟩ c).setCell ⟨g,3,none⟩ d)∧
    ((((w'.setCell ⟨g,0,none⟩ a).setCell ⟨g,1,none⟩ b).setCell ⟨g,2,none⟩ c).setCell ⟨g,3,none⟩ d).heap[g]?=some (.cells #[a,b,c,d] t (0,0)):=
  ⟨below_set (below_set (below_set (below_set (below_step hW hb) hge) hge) hge) hge,blk_set (blk_set (blk_set (blk_set (blk_below h0 hb) 0 a) 1 b) 2 c) 3 d⟩
theorem how_kind (k:Int) (r s t vk vn:Int) (x:S66) (w:World) (hk:1≤k∧k≤14) (hx:x=mannersL.getD k.toNat z66):
    Calls Try.prog 67 #[.agg #[.int .i64 k,.int .i64 r,.int .i64 s,.int .i64 t,.int .i64 vk,.int .i64 vn]] w fun e w'=>e= .returned (.agg #[.string x.f0,.string x.f1,.string x.f2,.bool x.f3])∧Below w.heap.size w w':=by
  have hm: ∀ (W:World) (g:Nat),(∀i,W.cell? ⟨g,i,none⟩=(cellsOf mannersL)[i]?)→W.cell? ⟨g,k.toNat*4,none⟩=some (.string x.f0)∧W.cell? ⟨g,k.toNat*4+1,none⟩=some (.string x.f1)∧W.cell? ⟨g,k.toNat*4+2,none⟩=some (.string x.f2)∧W.cell? ⟨g,k.toNat*4+3,none⟩=some (.bool x.f3):=by
    intro W g h;have:k=1∨k=2∨k=3∨k=4∨k=5∨k=6∨k=7∨k=8∨k=9∨k=10∨k=11∨k=12∨k=13∨k=14:=by omega
    rcases this with rfl|rfl|rfl|rfl|rfl|rfl|rfl|rfl|rfl|rfl|rfl|rfl|rfl|rfl<;>(subst hx;exact⟨h _,h _,h _,h _⟩)
  clear hx;obtain⟨hk1,hk2⟩:=hk;go_enter Try.func67,Try.ntmps67
  go_wp2_with (go_at_call 65;refine(in_any _ _ _ _).mono ?_;rintro e w' ⟨rfl,rfl⟩)
  go_region_with (go_at_call 89;refine(manners_any _).mono ?_;rintro e w' ⟨g,rfl,hb,hg,hc⟩;obtain⟨m0,m1,m2,m3⟩:=hm _ _ hc;obtain⟨b1,b2⟩:=bcell hb;clear hc;have hgs:=hb.size;have sz:=b1 w.heap.size)
  all_goals go_wp2
  all_goals
    obtain⟨E0,E1⟩:=end4 (w:=w) (g:=w.heap.size+1) (t:=66) (below_drew1 (below_alloc (below_alloc (Below.refl _ _) _) _)) (Nat.le_succ _) (blk2 _ _ _) hb (.string x.f0) (.string x.f1) (.string x.f2) (.bool x.f3);have q0:=blk_cell E1 0;have q1:=blk_cell E1 1;have q2:=blk_cell E1 2;have q3:=blk_cell E1 3;exact bodyPost_ret (v:=.agg #[.string x.f0,.string x.f1,.string x.f2,.bool x.f3]) (by simp[results,Try.results67,go_sem,q0,q1,q2,q3]) rfl ⟨rfl,E0⟩
theorem how_none (k:Int) (r s t vk vn:Int) (w:World) (hk:decide (1≤k∧k≤14)=false):
    Calls Try.prog 67 #[.agg #[.int .i64 k,.int .i64 r,.int .i64 s,.int .i64 t,.int .i64 vk,.int .i64 vn]] w fun e w'=>e= .returned (.agg #[.string ⟨#[]⟩,.string ⟨#[]⟩,.string ⟨#[]⟩,.bool false])∧Below w.heap.size w w':=by
  go_enter Try.func67,Try.ntmps67
  go_wp2_with (go_at_call 65;refine(in_any _ _ _ _).mono ?_;rintro e w' ⟨rfl,rfl⟩;rw[hk])
  exact bodyPost_ret (v:=.agg #[.string ⟨#[]⟩,.string ⟨#[]⟩,.string ⟨#[]⟩,.bool false]) (by simp[results,Try.results67,go_sem]) rfl ⟨rfl,by repeat(first|exact Below.refl _ _|apply below_alloc|apply below_drew1|refine below_set ?_ (Nat.le_succ _))⟩
theorem impl_Op_how.calls (k r s t vk vn:Int) (r1 r2 r3:ByteArray) (r4:Bool) (w:World) (h:howV.f k r s t vk vn=some (r1,r2,r3,r4)):
    Calls Try.prog 67 #[.agg #[.int .i64 k,.int .i64 r,.int .i64 s,.int .i64 t,.int .i64 vk,.int .i64 vn]] w fun e w'=>e= .returned (.agg #[.string r1,.string r2,.string r3,.bool r4])∧Below w.heap.size w w':=by
  unfold howV.f at h;have h:=Option.some.inj h;simp only[Prod.mk.injEq]at h
  obtain⟨rfl,rfl,rfl,rfl⟩:=h;by_cases hk:1≤k∧k≤14
  · have e:howR k=mannersL.getD k.toNat z66:=if_pos hk
    rw[e];exact how_kind k r s t vk vn _ w hk rfl
  · have e:howR k=z66:=if_neg hk
    rw[e];exact how_none k r s t vk vn w (decide_eq_false hk)
end Go.Proofs.Ytmklpbmlgjkbiaa.PS
end
section
namespace Go.Proofs.Ytmklpbmlgjkbiaa.PS
open Go.RowKit
theorem indexByte_any (s:ByteArray) (c:Int) (w:World):
    Calls Try.prog 114 #[.string s,.int .u8 c] w fun e w'=>e= .returned (.int .i64 (Lib.indexByte s.data.toList c.toNat.toUInt8))∧w=w':=by
  go_enter Try.func114,Try.ntmps114
  go_wp2
  rw[run_callFunc_extern Try.func122 (by kernel_rfl) (by kernel_rfl) (by kernel_rfl) (e:=Extern.BytealgIndexByte.indexByte) (by kernel_rfl),Lib.run_indexByteString]
  simp only[Result.andThen]
  rw[Oper.upon_value];go_wp2
  go_ret
  exact⟨rfl,rfl⟩
theorem index_one (s:ByteArray) (c:UInt8) (w:World):
    Calls Try.prog 110 #[.string s,.string ⟨#[c]⟩] w fun e w'=>e= .returned (.int .i64 (Lib.indexByte s.data.toList c))∧w=w':=by
  go_enter Try.func110,Try.ntmps110
  go_wp2_with (go_at_call 114;refine(indexByte_any _ _ _).mono ?_;rintro e w' ⟨rfl,rfl⟩)
  · have h:([c]==s.toList)=true:=by assumption
    go_ret
    refine⟨?_,rfl⟩
    have e:s.data.toList=[c]:=by rw[←Lib.toList_data];exact(beq_iff_eq.1 h).symm
    rw[e];simp[Lib.indexByte]
  · go_ret
    exact⟨rfl,rfl⟩
theorem sindex_one (s:ByteArray) (c:UInt8) (w:World):
    Calls Try.prog 102 #[.string s,.string ⟨#[c]⟩] w fun e w'=>e= .returned (.int .i64 (Lib.indexByte s.data.toList c))∧w=w':=by
  go_enter Try.func102,Try.ntmps102
  go_wp2_with (go_at_call 110;refine(index_one _ _ _).mono ?_;rintro e w' ⟨rfl,rfl⟩)
  go_ret
  exact⟨rfl,rfl⟩
theorem contains_one (s:ByteArray) (c:UInt8) (w:World):
    Calls Try.prog 87 #[.string s,.string ⟨#[c]⟩] w fun e w'=>e= .returned (.bool (decide (0≤Lib.indexByte s.data.toList c)))∧w=w':=by
  go_enter Try.func87,Try.ntmps87
  go_wp2_with (go_at_call 102;refine(sindex_one _ _ _).mono ?_;rintro e w' ⟨rfl,rfl⟩)
  go_ret
  exact⟨rfl,rfl⟩
end Go.Proofs.Ytmklpbmlgjkbiaa.PS
end
section
namespace Go.Proofs.Ytmklpbmlgjkbiaa.PS
open Go.RowKit Go.Proofs.YtmklpbmlgjkbiaaW.PrintWords Go.Proofs.YtmklpbmlgjkbiaaW.PrintLast
def hasC (k:Int) (c:UInt8):Bool:=decide (0≤Lib.indexByte (howR k).f1.data.toList c)
theorem hasC_R (k:Int):hasC k 82=hasR k:=by
  refine kinds (P:=fun k=>hasC k 82=hasR k) (fun k hk=> ?_) (by decide) (by decide) (by decide) (by decide) (by decide) (by decide) (by decide) (by decide) (by decide) (by decide) (by decide) (by decide) (by decide) (by decide) k
  unfold hasC howR;rw[if_neg hk];have:hasR k=false:=by unfold hasR;exact decide_eq_false (by omega)
  rw[this];decide
theorem hasC_S (k:Int):hasC k 83=hasS k:=by
  refine kinds (P:=fun k=>hasC k 83=hasS k) (fun k hk=> ?_) (by decide) (by decide) (by decide) (by decide) (by decide) (by decide) (by decide) (by decide) (by decide) (by decide) (by decide) (by decide) (by decide) (by decide) k
  unfold hasC howR;rw[if_neg hk];have:hasS k=false:=by unfold hasS;exact decide_eq_false (by omega)
  rw[this];decide
theorem hasC_T (k:Int):hasC k 84=hasT k:=by
  refine kinds (P:=fun k=>hasC k 84=hasT k) (fun k hk=> ?_) (by decide) (by decide) (by decide) (by decide) (by decide) (by decide) (by decide) (by decide) (by decide) (by decide) (by decide) (by decide) (by decide) (by decide) k
  unfold hasC howR;rw[if_neg hk];have:hasT k=false:=by unfold hasT;exact decide_eq_false (by omega)
  rw[this];decide
theorem hasC_V (k:Int):hasC k 86=hasV k:=by
  refine kinds (P:=fun k=>hasC k 86=hasV k) (fun k hk=> ?_) (by decide) (by decide) (by decide) (by decide) (by decide) (by decide) (by decide) (by decide) (by decide) (by decide) (by decide) (by decide) (by decide) (by decide) k
  unfold hasC howR;rw[if_neg hk];have:hasV k=false:=by unfold hasV;exact decide_eq_false (by omega)
  rw[this];decide
theorem has_any (k r s t vk vn:Int) (c:UInt8) (w:World):
    Calls Try.prog 64 #[.agg #[.int .i64 k,.int .i64 r,.int .i64 s,.int .i64 t,.int .i64 vk,.int .i64 vn],.string ⟨#[c]⟩] w fun e w'=>e= .returned (.bool (hasC k c))∧Below w.heap.size w w':=by
  have hw:=fun W:World=>impl_Op_how.calls k r s t vk vn (howR k).f0 (howR k).f1 (howR k).f2 (howR k).f3 W rfl
  obtain⟨x,hx⟩: ∃x,x=howR k:=⟨_,rfl⟩;unfold hasC;rw[←hx]at hw⊢
  clear hx;have hu66:=Try.underlying66;have hfd: ∀ (a b c d:Value) (W:World),Sem.run Try.prog (Instr.field 66 (.agg #[a,b,c,d]) 1) W= .ok b W:=fun _ _ _ _ _=>by kernel_rfl
  go_enter Try.func64,Try.ntmps64
  go_wp2_with (first|(go_at_call 67;refine(hw _).mono ?_;rintro e w' ⟨rfl,hb⟩)|(go_at_call 87;refine(contains_one _ _ _).mono ?_;rintro e w' ⟨rfl,rfl⟩))
  go_ret
  exact⟨rfl,below_step (below_alloc (Below.refl _ _) _) hb⟩
theorem eqA27 (d:Nat) (w:World) (x0 y0:Int) (x1 y1:Int):
    (Op.equalIn (d+2) 27 (.agg #[.int .i64 x0,.int .i64 x1]) (.agg #[.int .i64 y0,.int .i64 y1])).run Try.prog w= .ok (x0==y0&&(x1==y1)) w:=by
  refine eqA_of Try.underlying27 (by kernel_rfl) ?_
  refine eqf_cons (by rfl) (by go_simp;rfl) (by go_simp;rfl) (by go_simp) ?_
  exact eqf_last (by rfl) (by go_simp;rfl) (by go_simp;rfl) (by go_simp)
def fieldB (h:Bool) (n m:Int):Bool:=if h=true then decide (0≤n∧n≤m)else decide (n=0)
theorem field_any (B:Nat) (k r s t vk vn:Int) (c:UInt8) (n m:Int) (w:World) (hB:w.heap[B]?=some (.cells #[.int .i64 k,.int .i64 r,.int .i64 s,.int .i64 t,.int .i64 vk,.int .i64 vn] 29 (0,0))):
    Calls Try.prog 63 #[.string ⟨#[c]⟩,.int .i64 n,.int .i64 m,.pointer (some ⟨B,0,none⟩)] w fun e w'=>e= .returned (.bool (fieldB (hasC k c) n m))∧Below w.heap.size w w':=by
  have q0:=blk_cell hB 0;have q1:=blk_cell hB 1;have q2:=blk_cell hB 2;have q3:=blk_cell hB 3;have q4:=blk_cell hB 4;have q5:=blk_cell hB 5;simp at q0 q1 q2 q3 q4 q5
  clear hB;have hw:=fun W:World=>has_any k r s t vk vn c W
  obtain⟨h,hh⟩: ∃h,h=hasC k c:=⟨_,rfl⟩;rw[←hh]at hw⊢
  clear hh;unfold fieldB;cases h
  · go_enter Try.func63,Try.ntmps63
    go_wp2_with (first|(go_at_call 64;refine(hw _).mono ?_;rintro e w' ⟨rfl,hb⟩)|(go_at_call 65;refine(in_any _ _ _ _).mono ?_;rintro e w' ⟨rfl,rfl⟩))
    go_ret
    exact⟨by by_cases hn:n=0<;>simp[hn],hb⟩
  · go_enter Try.func63,Try.ntmps63
    go_wp2_with (first|(go_at_call 64;refine(hw _).mono ?_;rintro e w' ⟨rfl,hb⟩)|(go_at_call 65;refine(in_any _ _ _ _).mono ?_;rintro e w' ⟨rfl,rfl⟩))
    go_ret
    exact⟨by simp,hb⟩
theorem valok_any (a b:Int) (w:World):Calls Try.prog 88 #[.agg #[.int .i64 a,.int .i64 b]] w fun e w'=>e= .returned (.bool (okB a b))∧Below w.heap.size w w':=by
  by_cases h0:a=0
  · subst h0
    have e:okB 0 b=(b==0):=by
      unfold okB okP;by_cases hb:b=0<;>simp[hb]
    rw[e];go_enter Try.func88,Try.ntmps88
    go_wp2
    go_ret
    exact⟨by first|rfl|simp,below_alloc (Below.refl _ _) _⟩
  by_cases h1:a=1
  · subst h1
    have e:okB 1 b=decide (-99≤b∧b≤99):=by unfold okB okP;simp
    rw[e];go_enter Try.func88,Try.ntmps88
    go_wp2_with (go_at_call 65;refine(in_any _ _ _ _).mono ?_;rintro e w' ⟨rfl,rfl⟩)
    go_ret
    exact⟨by first|rfl|simp,below_alloc (Below.refl _ _) _⟩
  by_cases h2:a=2
  · subst h2
    have e:okB 2 b=decide (0≤b∧b≤9):=by unfold okB okP;simp
    rw[e];go_enter Try.func88,Try.ntmps88
    go_wp2_with (go_at_call 65;refine(in_any _ _ _ _).mono ?_;rintro e w' ⟨rfl,rfl⟩)
    go_ret
    exact⟨by first|rfl|simp,below_alloc (Below.refl _ _) _⟩
  by_cases h3:a=3
  · subst h3
    have e:okB 3 b=decide (1≤b∧b≤6):=by unfold okB okP;simp
    rw[e];go_enter Try.func88,Try.ntmps88
    go_wp2_with (go_at_call 65;refine(in_any _ _ _ _).mono ?_;rintro e w' ⟨rfl,rfl⟩)
    go_ret
    exact⟨by first|rfl|simp,below_alloc (Below.refl _ _) _⟩
  have e:okB a b=false:=by unfold okB okP;simp[h0,h1,h2,h3]
  rw[e];have b0:(a==0)=false:=by simpa using h0
  have b1:(a==1)=false:=by simpa using h1
  have b2:(a==2)=false:=by simpa using h2
  have b3:(a==3)=false:=by simpa using h3
  go_enter Try.func88,Try.ntmps88
  go_wp2
  go_ret
  exact⟨rfl,below_alloc (Below.refl _ _) _⟩
end Go.Proofs.Ytmklpbmlgjkbiaa.PS
end
section
namespace Go.Proofs.Ytmklpbmlgjkbiaa.PS
open Go.RowKit Go.Proofs.YtmklpbmlgjkbiaaW.PrintWords Go.Proofs.YtmklpbmlgjkbiaaW.PrintLast
attribute [local go_sem high] eqA27
theorem ends_bool {w w':World} {a b:Bool} (h:Aside0 (b=a)) (hb:Below w.heap.size w w'):Ending.returned (Value.bool a)= .returned (.bool b)∧Below w.heap.size w w':=⟨by rw[h.out],hb⟩
def valB (k vk vn:Int):Bool:=decide (valP k vk vn)
theorem valB_8 (vk vn:Int):valB 8 vk vn=(okB vk vn&&((vk==1)&&decide (1≤vn))):=by
  unfold valB valP okB;by_cases a:vk=1<;>by_cases b:1≤vn<;>by_cases c:okP vk vn<;>simp[a,b,c]
theorem valB_13 (vk vn:Int):valB 13 vk vn=((vk==1)&&decide (0≤vn∧vn≤1)):=by
  unfold valB valP okP;by_cases a:vk=1<;>by_cases b:0≤vn∧vn≤1<;>simp[a,b]<;>omega
theorem valB_other (k vk vn:Int) (h8:k≠8) (h13:k≠13):valB k vk vn=okB vk vn:=by
  unfold valB valP okB;simp[h8,h13]
theorem valOp_any (k r s t vk vn:Int) (w:World):
    Calls Try.prog 66 #[.agg #[.int .i64 k,.int .i64 r,.int .i64 s,.int .i64 t,.int .i64 vk,.int .i64 vn]] w fun e w'=>e= .returned (.bool (valB k vk vn))∧Below w.heap.size w w':=by
  by_cases h8:k=8
  · subst h8
    have hw:=fun W:World=>valok_any vk vn W
    obtain⟨g,hg⟩: ∃g,g=valB 8 vk vn:=⟨_,rfl⟩;obtain⟨h,hh⟩: ∃h,h=okB vk vn:=⟨_,rfl⟩;have HH:=aS (hg.trans (valB_8 vk vn));rw[←hg];rw[←hh]at hw HH
    clear hg hh;by_cases h1:vk=1
    · subst h1
      simp only[beq_self_eq_true,Bool.true_and]at HH
      cases h
      · go_enter Try.func66,Try.ntmps66
        go_wp2_with (go_at_call 88;refine(hw _).mono ?_;rintro e w' ⟨rfl,hb⟩;obtain⟨b1,b2⟩:=bcell hb)
        go_ret
        exact ends_bool HH (below_step (below_alloc (Below.refl _ _) _) hb)
      · go_enter Try.func66,Try.ntmps66
        go_wp2_with (go_at_call 88;refine(hw _).mono ?_;rintro e w' ⟨rfl,hb⟩;obtain⟨b1,b2⟩:=bcell hb)
        go_ret
        exact ends_bool HH (below_step (below_alloc (Below.refl _ _) _) hb)
    · have c1:(vk==1)=false:=by simpa using h1
      rw[c1,Bool.false_and,Bool.and_false]at HH
      cases h
      · go_enter Try.func66,Try.ntmps66
        go_wp2_with (go_at_call 88;refine(hw _).mono ?_;rintro e w' ⟨rfl,hb⟩;obtain⟨b1,b2⟩:=bcell hb)
        go_ret
        exact ends_bool HH (below_step (below_alloc (Below.refl _ _) _) hb)
      · go_enter Try.func66,Try.ntmps66
        go_wp2_with (go_at_call 88;refine(hw _).mono ?_;rintro e w' ⟨rfl,hb⟩;obtain⟨b1,b2⟩:=bcell hb)
        go_ret
        exact ends_bool HH (below_step (below_alloc (Below.refl _ _) _) hb)
  by_cases h13:k=13
  · subst h13
    obtain⟨g,hg⟩: ∃g,g=valB 13 vk vn:=⟨_,rfl⟩;have HH:=aS (hg.trans (valB_13 vk vn));rw[←hg];clear hg;by_cases h1:vk=1
    · subst h1
      simp only[beq_self_eq_true,Bool.true_and]at HH
      have hw:=fun W:World=>in_any vn 0 1 W
      obtain⟨h,hh⟩: ∃h,h=decide (0≤vn∧vn≤1):=⟨_,rfl⟩;rw[←hh]at hw HH
      clear hh;go_enter Try.func66,Try.ntmps66
      go_wp2_with (go_at_call 65;refine(hw _).mono ?_;rintro e w' ⟨rfl,rfl⟩)
      go_ret
      exact ends_bool HH (below_alloc (Below.refl _ _) _)
    · have c1:(vk==1)=false:=by simpa using h1
      rw[c1,Bool.false_and]at HH
      go_enter Try.func66,Try.ntmps66
      go_wp2
      go_ret
      exact ends_bool HH (below_alloc (Below.refl _ _) _)
  have HH:=aS (valB_other k vk vn h8 h13);have c8:(k==8)=false:=by simpa using h8
  have c13:(k==13)=false:=by simpa using h13
  have hw:=fun W:World=>valok_any vk vn W
  obtain⟨g,hg⟩: ∃g,g=valB k vk vn:=⟨_,rfl⟩;obtain⟨h,hh⟩: ∃h,h=okB vk vn:=⟨_,rfl⟩;rw[←hg];rw[←hg,←hh]at HH
  rw[←hh]at hw
  clear hg hh;go_enter Try.func66,Try.ntmps66
  go_wp2_with (go_at_call 88;refine(hw _).mono ?_;rintro e w' ⟨rfl,hb⟩;obtain⟨b1,b2⟩:=bcell hb)
  go_ret
  exact ends_bool HH (below_step (below_alloc (Below.refl _ _) _) hb)
theorem implOp_walk (k r s t vk vn:Int) (w:World) (g hv vb:Bool) (F:UInt8→Int→Int→Bool) (x:S66)
    (hHow: ∀W,Calls Try.prog 67 #[.agg #[.int .i64 k,.int .i64 r,.int .i64 s,.int .i64 t,.int .i64 vk,.int .i64 vn]] W fun e w'=>e= .returned (.agg #[.string x.f0,.string x.f1,.string x.f2,.bool x.f3])∧Below W.heap.size W w')
    (hHas: ∀W,Calls Try.prog 64 #[.agg #[.int .i64 k,.int .i64 r,.int .i64 s,.int .i64 t,.int .i64 vk,.int .i64 vn],.string ⟨#[86]⟩] W fun e w'=>e= .returned (.bool hv)∧Below W.heap.size W w')
    (hVal: ∀W,Calls Try.prog 66 #[.agg #[.int .i64 k,.int .i64 r,.int .i64 s,.int .i64 t,.int .i64 vk,.int .i64 vn]] W fun e w'=>e= .returned (.bool vb)∧Below W.heap.size W w')
    (hF: ∀ (c:UInt8) (n m:Int) (W:World) (hB:W.heap[w.heap.size]?=some (.cells #[.int .i64 k,.int .i64 r,.int .i64 s,.int .i64 t,.int .i64 vk,.int .i64 vn] 29 (0,0))),
      Calls Try.prog 63 #[.string ⟨#[c]⟩,.int .i64 n,.int .i64 m,.pointer (some ⟨w.heap.size,0,none⟩)] W fun e w'=>e= .returned (.bool (F c n m))∧Below W.heap.size W w')
    (hg:Aside0 (g=(!x.f0.toList.isEmpty&&(F 82 r 3&&(F 83 s 3&&(F 84 t 15&&if hv=true then vb else(vk==0&&(vn==0)))))))):
    Calls Try.prog 25 #[.agg #[.int .i64 k,.int .i64 r,.int .i64 s,.int .i64 t,.int .i64 vk,.int .i64 vn]] w fun e w'=>e= .returned (.bool g)∧Below w.heap.size w w':=by
  have BK:Aside0 ((w.alloc (.cells #[.int .i64 k,.int .i64 r,.int .i64 s,.int .i64 t,.int .i64 vk,.int .i64 vn] 29)).heap[w.heap.size]?=some (.cells #[.int .i64 k,.int .i64 r,.int .i64 s,.int .i64 t,.int .i64 vk,.int .i64 vn] 29 (0,0))):=⟨blk_new _ _⟩;have HB:=aS (Below.refl w.heap.size w);have hu27:=Try.underlying27;have hu29:=Try.underlying29;have hfd: ∀ (a b c d:Value) (W:World),Sem.run Try.prog (Instr.field 66 (.agg #[a,b,c,d]) 0) W= .ok a W:=fun _ _ _ _ _=>by kernel_rfl
  cases hv
  · go_enter Try.func25,Try.ntmps25
    go_wp2_with (first|(go_at_call 64;refine(hHas _).mono ?_;rintro e w' ⟨rfl,hb⟩;have BK:=aS (blk_below (by exact blkU BK.out) hb);have HB:=aS (below_step (by exact bU HB.out) hb);have q0:w'.cell? ⟨w.heap.size,0,none⟩=some (.int .i64 k):=(blk_cell BK.out 0).trans rfl;have q1:w'.cell? ⟨w.heap.size,1,none⟩=some (.int .i64 r):=(blk_cell BK.out 1).trans rfl;have q2:w'.cell? ⟨w.heap.size,2,none⟩=some (.int .i64 s):=(blk_cell BK.out 2).trans rfl;have q3:w'.cell? ⟨w.heap.size,3,none⟩=some (.int .i64 t):=(blk_cell BK.out 3).trans rfl;have q4:w'.cell? ⟨w.heap.size,4,none⟩=some (.int .i64 vk):=(blk_cell BK.out 4).trans rfl;have q5:w'.cell? ⟨w.heap.size,5,none⟩=some (.int .i64 vn):=(blk_cell BK.out 5).trans rfl;clear hb)|(go_at_call 66;refine(hVal _).mono ?_;rintro e w' ⟨rfl,hb⟩;have BK:=aS (blk_below (by exact blkU BK.out) hb);have HB:=aS (below_step (by exact bU HB.out) hb);have q0:w'.cell? ⟨w.heap.size,0,none⟩=some (.int .i64 k):=(blk_cell BK.out 0).trans rfl;have q1:w'.cell? ⟨w.heap.size,1,none⟩=some (.int .i64 r):=(blk_cell BK.out 1).trans rfl;have q2:w'.cell? ⟨w.heap.size,2,none⟩=some (.int .i64 s):=(blk_cell BK.out 2).trans rfl;have q3:w'.cell? ⟨w.heap.size,3,none⟩=some (.int .i64 t):=(blk_cell BK.out 3).trans rfl;have q4:w'.cell? ⟨w.heap.size,4,none⟩=some (.int .i64 vk):=(blk_cell BK.out 4).trans rfl;have q5:w'.cell? ⟨w.heap.size,5,none⟩=some (.int .i64 vn):=(blk_cell BK.out 5).trans rfl;clear hb)|(go_at_call 67;refine(hHow _).mono ?_;rintro e w' ⟨rfl,hb⟩;have BK:=aS (blk_below (by exact blkU BK.out) hb);have HB:=aS (below_step (by exact bU HB.out) hb);have q0:w'.cell? ⟨w.heap.size,0,none⟩=some (.int .i64 k):=(blk_cell BK.out 0).trans rfl;have q1:w'.cell? ⟨w.heap.size,1,none⟩=some (.int .i64 r):=(blk_cell BK.out 1).trans rfl;have q2:w'.cell? ⟨w.heap.size,2,none⟩=some (.int .i64 s):=(blk_cell BK.out 2).trans rfl;have q3:w'.cell? ⟨w.heap.size,3,none⟩=some (.int .i64 t):=(blk_cell BK.out 3).trans rfl;have q4:w'.cell? ⟨w.heap.size,4,none⟩=some (.int .i64 vk):=(blk_cell BK.out 4).trans rfl;have q5:w'.cell? ⟨w.heap.size,5,none⟩=some (.int .i64 vn):=(blk_cell BK.out 5).trans rfl;clear hb)|(go_at_call 63;refine(hF _ _ _ _ (by exact blkU BK.out)).mono ?_;rintro e w' ⟨rfl,hb⟩;have BK:=aS (blk_below (by exact blkU BK.out) hb);have HB:=aS (below_step (by exact bU HB.out) hb);have q0:w'.cell? ⟨w.heap.size,0,none⟩=some (.int .i64 k):=(blk_cell BK.out 0).trans rfl;have q1:w'.cell? ⟨w.heap.size,1,none⟩=some (.int .i64 r):=(blk_cell BK.out 1).trans rfl;have q2:w'.cell? ⟨w.heap.size,2,none⟩=some (.int .i64 s):=(blk_cell BK.out 2).trans rfl;have q3:w'.cell? ⟨w.heap.size,3,none⟩=some (.int .i64 t):=(blk_cell BK.out 3).trans rfl;have q4:w'.cell? ⟨w.heap.size,4,none⟩=some (.int .i64 vk):=(blk_cell BK.out 4).trans rfl;have q5:w'.cell? ⟨w.heap.size,5,none⟩=some (.int .i64 vn):=(blk_cell BK.out 5).trans rfl;clear hb))
    all_goals go_ret
    all_goals refine⟨?_,HB.out⟩
    all_goals(rw[hg.out];simp[*])
  · go_enter Try.func25,Try.ntmps25
    go_wp2_with (first|(go_at_call 64;refine(hHas _).mono ?_;rintro e w' ⟨rfl,hb⟩;have BK:=aS (blk_below (by exact blkU BK.out) hb);have HB:=aS (below_step (by exact bU HB.out) hb);have q0:w'.cell? ⟨w.heap.size,0,none⟩=some (.int .i64 k):=(blk_cell BK.out 0).trans rfl;have q1:w'.cell? ⟨w.heap.size,1,none⟩=some (.int .i64 r):=(blk_cell BK.out 1).trans rfl;have q2:w'.cell? ⟨w.heap.size,2,none⟩=some (.int .i64 s):=(blk_cell BK.out 2).trans rfl;have q3:w'.cell? ⟨w.heap.size,3,none⟩=some (.int .i64 t):=(blk_cell BK.out 3).trans rfl;have q4:w'.cell? ⟨w.heap.size,4,none⟩=some (.int .i64 vk):=(blk_cell BK.out 4).trans rfl;have q5:w'.cell? ⟨w.heap.size,5,none⟩=some (.int .i64 vn):=(blk_cell BK.out 5).trans rfl;clear hb)|(go_at_call 66;refine(hVal _).mono ?_;rintro e w' ⟨rfl,hb⟩;have BK:=aS (blk_below (by exact blkU BK.out) hb);have HB:=aS (below_step (by exact bU HB.out) hb);have q0:w'.cell? ⟨w.heap.size,0,none⟩=some (.int .i64 k):=(blk_cell BK.out 0).trans rfl;have q1:w'.cell? ⟨w.heap.size,1,none⟩=some (.int .i64 r):=(blk_cell BK.out 1).trans rfl;have q2:w'.cell? ⟨w.heap.size,2,none⟩=some (.int .i64 s):=(blk_cell BK.out 2).trans rfl;have q3:w'.cell? ⟨w.heap.size,3,none⟩=some (.int .i64 t):=(blk_cell BK.out 3).trans rfl;have q4:w'.cell? ⟨w.heap.size,4,none⟩=some (.int .i64 vk):=(blk_cell BK.out 4).trans rfl;have q5:w'.cell? ⟨w.heap.size,5,none⟩=some (.int .i64 vn):=(blk_cell BK.out 5).trans rfl;clear hb)|(go_at_call 67;refine(hHow _).mono ?_;rintro e w' ⟨rfl,hb⟩;have BK:=aS (blk_below (by exact blkU BK.out) hb);have HB:=aS (below_step (by exact bU HB.out) hb);have q0:w'.cell? ⟨w.heap.size,0,none⟩=some (.int .i64 k):=(blk_cell BK.out 0).trans rfl;have q1:w'.cell? ⟨w.heap.size,1,none⟩=some (.int .i64 r):=(blk_cell BK.out 1).trans rfl;have q2:w'.cell? ⟨w.heap.size,2,none⟩=some (.int .i64 s):=(blk_cell BK.out 2).trans rfl;have q3:w'.cell? ⟨w.heap.size,3,none⟩=some (.int .i64 t):=(blk_cell BK.out 3).trans rfl;have q4:w'.cell? ⟨w.heap.size,4,none⟩=some (.int .i64 vk):=(blk_cell BK.out 4).trans rfl;have q5:w'.cell? ⟨w.heap.size,5,none⟩=some (.int .i64 vn):=(blk_cell BK.out 5).trans rfl;clear hb)|(go_at_call 63;refine(hF _ _ _ _ (by exact blkU BK.out)).mono ?_;rintro e w' ⟨rfl,hb⟩;have BK:=aS (blk_below (by exact blkU BK.out) hb);have HB:=aS (below_step (by exact bU HB.out) hb);have q0:w'.cell? ⟨w.heap.size,0,none⟩=some (.int .i64 k):=(blk_cell BK.out 0).trans rfl;have q1:w'.cell? ⟨w.heap.size,1,none⟩=some (.int .i64 r):=(blk_cell BK.out 1).trans rfl;have q2:w'.cell? ⟨w.heap.size,2,none⟩=some (.int .i64 s):=(blk_cell BK.out 2).trans rfl;have q3:w'.cell? ⟨w.heap.size,3,none⟩=some (.int .i64 t):=(blk_cell BK.out 3).trans rfl;have q4:w'.cell? ⟨w.heap.size,4,none⟩=some (.int .i64 vk):=(blk_cell BK.out 4).trans rfl;have q5:w'.cell? ⟨w.heap.size,5,none⟩=some (.int .i64 vn):=(blk_cell BK.out 5).trans rfl;clear hb))
    all_goals go_ret
    all_goals refine⟨?_,HB.out⟩
    all_goals(rw[hg.out];simp[*])
end Go.Proofs.Ytmklpbmlgjkbiaa.PS
end
section
namespace Go.Proofs.Ytmklpbmlgjkbiaa.PS
open Go.RowKit Go.Proofs.YtmklpbmlgjkbiaaW.PrintWords Go.Proofs.YtmklpbmlgjkbiaaW.PrintLast
theorem fieldB_eq (h:Bool) (n m:Int) (hm:0≤m):fieldB h n m=decide (n=0∨(h=true∧0≤n∧n≤m)):=by
  unfold fieldB;cases h
  · simp
  · simp;omega
theorem word_some (k:Int):(!(howR k).f0.toList.isEmpty)=decide (1≤k∧k≤14):=by
  rw[Lib.toList_data];refine kinds (P:=fun k=>(!(howR k).f0.data.toList.isEmpty)=decide (1≤k∧k≤14)) (fun k hk=> ?_) (by decide) (by decide) (by decide) (by decide) (by decide) (by decide) (by decide) (by decide) (by decide) (by decide) (by decide) (by decide) (by decide) (by decide) k
  unfold howR;rw[if_neg hk,decide_eq_false hk];decide
theorem opB_eq (k r s t vk vn:Int):opB k r s t vk vn=(!(howR k).f0.toList.isEmpty&&(fieldB (hasC k 82) r 3&&(fieldB (hasC k 83) s 3&&(fieldB (hasC k 84) t 15&&if hasC k 86=true then valB k vk vn else(vk==0&&(vn==0)))))):=by
  rw[word_some,hasC_R,hasC_S,hasC_T,hasC_V,fieldB_eq _ _ _ (by omega),fieldB_eq _ _ _ (by omega),fieldB_eq _ _ _ (by omega)]
  have hv:(if hasV k=true then valB k vk vn else(vk==0&&(vn==0)))=decide (valP k vk vn∧(hasV k=true∨(vk=0∧vn=0))):=by
    by_cases h:hasV k=true
    · rw[if_pos h];unfold valB;simp[h]
    · rw[if_neg h]
      have h8:k≠8∧k≠13:=by unfold hasV at h;simp at h;omega
      by_cases hz:vk=0∧vn=0
      · obtain⟨rfl,rfl⟩:=hz
        have:valP k 0 0:=⟨Or.inl ⟨rfl,rfl⟩,fun e=>absurd e h8.1,fun e=>absurd e h8.2⟩
        simp[this]
      · have e1 : (vk == 0 && (vn == 0)) = false := by
          by_cases a:vk=0<;>by_cases b:vn=0<;>simp[a,b]<;>simp_all
        rw[e1];exact(decide_eq_false (fun ⟨_,g⟩=>g.elim h hz)).symm
  rw[hv];unfold opB;simp only[←Bool.decide_and]
  apply decide_eq_decide.2
  unfold opP;constructor
  · rintro⟨a,b,c,d,e,f⟩;exact⟨a,c,d,e,b,f⟩
  · rintro⟨a,c,d,e,b,f⟩;exact⟨a,b,c,d,e,f⟩
theorem impl_OpOk.calls (k r s t vk vn:Int) (b:Bool) (w:World) (h:opV.f k r s t vk vn=some b):
    Calls Try.prog 25 #[.agg #[.int .i64 k,.int .i64 r,.int .i64 s,.int .i64 t,.int .i64 vk,.int .i64 vn]] w fun e w'=>e= .returned (.bool b)∧Below w.heap.size w w':=by
  refine implOp_walk k r s t vk vn w b (hasC k 86) (valB k vk vn) (fun c n m=>fieldB (hasC k c) n m) (howR k) (fun W=>impl_Op_how.calls k r s t vk vn _ _ _ _ W rfl) (fun W=>has_any k r s t vk vn 86 W)
    (fun W=>valOp_any k r s t vk vn W) (fun c n m W hB=>field_any w.heap.size k r s t vk vn c n m W hB) ⟨?_⟩
  rw[←opB_eq];exact(Option.some.inj h).symm
def opS (x:S29):Bool:=opB x.f0 x.f1 x.f2 x.f3 x.f4.f0 x.f4.f1
def wrongB (n:Nat) (x:S29):Bool:= !(opS x)||(hasT x.f0&&decide ((n:Int)≤x.f3))
def codeB (l:List S29):Bool:=decide (1≤l.length∧l.length≤16)&& !(l.any (wrongB l.length))
def codeV.f (l:List S29):Option Bool:=some (codeB l)
theorem wrong_any (A0:Option Addr) (n c0 B:Nat) (k r s t vk vn:Int) (w:World) (hB:w.heap[B]?=some (.cells #[.slice A0 n c0] 42 (0,0))):
    Calls Try.prog 73 #[.agg #[.int .i64 k,.int .i64 r,.int .i64 s,.int .i64 t,.int .i64 vk,.int .i64 vn],.pointer (some ⟨B,0,none⟩)] w fun e w'=>e= .returned (.bool (!(opB k r s t vk vn)||(hasT k&&decide ((n:Int)≤t))))∧Below w.heap.size w w':=by
  have hOk:=fun W:World=>impl_OpOk.calls k r s t vk vn (opB k r s t vk vn) W rfl
  have hHas:=fun W:World=>has_any k r s t vk vn 84 W
  rw[hasC_T]at hHas
  have ltB:=blk_lt hB;obtain⟨g,hg⟩: ∃g,g=opB k r s t vk vn:=⟨_,rfl⟩;obtain⟨h,hh⟩: ∃h,h=hasT k:=⟨_,rfl⟩;rw[←hg]at hOk⊢
  rw[←hh]at hHas⊢
  clear hg hh;have BK:Aside0 ((w.alloc (.cells #[.int .i64 k,.int .i64 r,.int .i64 s,.int .i64 t,.int .i64 vk,.int .i64 vn] 29)).heap[w.heap.size]?=some (.cells #[.int .i64 k,.int .i64 r,.int .i64 s,.int .i64 t,.int .i64 vk,.int .i64 vn] 29 (0,0))):=⟨blk_new _ _⟩;have BB:Aside0 ((w.alloc (.cells #[.int .i64 k,.int .i64 r,.int .i64 s,.int .i64 t,.int .i64 vk,.int .i64 vn] 29)).heap[B]?=some (.cells #[.slice A0 n c0] 42 (0,0))):=⟨blk_alloc hB _⟩;have HB:=aS (below_alloc (Below.refl w.heap.size w) (.cells #[.int .i64 k,.int .i64 r,.int .i64 s,.int .i64 t,.int .i64 vk,.int .i64 vn] 29));clear hB ltB;cases g<;>cases h
  all_goals go_enter Try.func73,Try.ntmps73
  all_goals go_wp2_with (first|(go_at_call 25;refine(hOk _).mono ?_;rintro e w' ⟨rfl,hb⟩;have BK1:=aS (blk_below BK.out hb);have BB1:=aS (blk_below BB.out hb);have HB1:=aS (below_step HB.out hb);clear HB BK BB hb;have HB:=HB1;have BK:=BK1;have BB:=BB1;clear HB1 BK1 BB1;obtain⟨q0,q1,q2,q3,q4,q5⟩:w'.cell? ⟨w.heap.size,0,none⟩=some (.int .i64 k)∧w'.cell? ⟨w.heap.size,1,none⟩=some (.int .i64 r)∧w'.cell? ⟨w.heap.size,2,none⟩=some (.int .i64 s)∧w'.cell? ⟨w.heap.size,3,none⟩=some (.int .i64 t)∧w'.cell? ⟨w.heap.size,4,none⟩=some (.int .i64 vk)∧w'.cell? ⟨w.heap.size,5,none⟩=some (.int .i64 vn):=⟨(blk_cell BK.out 0).trans rfl,(blk_cell BK.out 1).trans rfl,(blk_cell BK.out 2).trans rfl,(blk_cell BK.out 3).trans rfl,(blk_cell BK.out 4).trans rfl,(blk_cell BK.out 5).trans rfl⟩)|(go_at_call 64;refine(hHas _).mono ?_;rintro e w'2 ⟨rfl,hb⟩;have BK1:=aS (blk_below BK.out hb);have BB1:=aS (blk_below BB.out hb);have HB1:=aS (below_step HB.out hb);clear HB BK BB hb;have HB:=HB1;have BK:=BK1;have BB:=BB1;clear HB1 BK1 BB1;have u3:w'2.cell? ⟨w.heap.size,3,none⟩=some (.int .i64 t):=(blk_cell BK.out 3).trans rfl;have u0:w'2.cell? ⟨B,0,none⟩=some (.slice A0 n c0):=(blk_cell BB.out 0).trans rfl))
  all_goals go_ret
  all_goals exact⟨by simp,HB.out⟩
def aggS (x:S29):Value:=.agg #[.int .i64 x.f0,.int .i64 x.f1,.int .i64 x.f2,.int .i64 x.f3,.int .i64 x.f4.f0,.int .i64 x.f4.f1]
def FoundAt (p:S29→Bool) (l:List S29) (i:Int):Prop:=(0≤i∧l.any p=true)∨(i= -1∧l.any p=false)
theorem found_yes {p:S29→Bool} {l:List S29} {kk:Nat} (h:kk<l.length) (hp:p (rd_T29 l kk)=true):FoundAt p l kk:=by
  refine .inl ⟨by omega,List.any_eq_true.2 ⟨rd_T29 l kk,?_,hp⟩⟩
  unfold rd_T29;rw[List.getD_eq_getElem?_getD,Int.toNat_natCast,List.getElem?_eq_getElem h];exact List.getElem_mem h
theorem found_no {p:S29→Bool} {l:List S29} (h: ∀j,j<l.length→p (rd_T29 l (j:Nat))=false):FoundAt p l (-1):=by
  refine .inr ⟨rfl,List.any_eq_false.2 fun x hx=> ?_⟩
  obtain⟨j,hj,rfl⟩:=List.mem_iff_getElem.1 hx;have:=h j hj;unfold rd_T29 at this;rw[List.getD_eq_getElem?_getD,Int.toNat_natCast,List.getElem?_eq_getElem hj]at this
  simpa using this
theorem index_ops (p:S29→Bool) (g:Nat) (lb:Array Value) (eg: ∀args w,(callFunc g args).run Try.prog w= .ok (.enter g args) w) (A0:Option Addr) (c0:Nat) (l0:List S29) (w:World)
    (hr0:Kd.C k29 w A0 l0.length l0) (hl:l0.length≤16)
    (hp: ∀ (W:World) (x:S29),Below w.heap.size w W→Calls Try.prog g (#[aggS x]++lb) W fun e w'=>e= .returned (.bool (p x))∧Below w.heap.size w w'):
    Calls Try.prog 92 #[.slice A0 l0.length c0,.func (.func g) #[] lb] w fun e w'=> ∃i,e= .returned (.int .i64 i)∧FoundAt p l0 i∧Below w.heap.size w w':=by
  have HR0:=aS hr0;clear hr0;go_enter Try.func92,Try.ntmps92
  go_wp2
  go_loopg [5,8] l0.length (fun gg _ s8 wr=> ∃kk:Nat,kk≤l0.length∧l0.length-kk≤gg∧s8= .int .i64 kk∧Aside (Below w.heap.size w wr)∧Aside (∀j,j<kk→p (rd_T29 l0 (j:Nat))=false))
  case atStart=>exact⟨0,Nat.zero_le _,by omega,rfl,Below.refl _ w,fun j hj=>absurd hj (Nat.not_lt_zero _)⟩
  case round=>
    obtain⟨kk,hkk,hgg,rfl,BW,A⟩:=hrel;by_cases hlt:kk<l0.length
    · have hltz:(kk:Int)<(l0.length:Int):=by omega
      have h0z:0≤(kk:Int):=by omega
      obtain⟨ad,e,x0,x1,x2,x3,x4,x5⟩:=at_T29 HR0.out (kk:Int) h0z hltz;subst e;rw[Int.toNat_natCast]at x0 x1 x2 x3 x4 x5
      replace x0:=(BW.out.cell (World.block_lt_of_cell? w _ x0)).trans x0;replace x1:=(BW.out.cell (World.block_lt_of_cell? w _ x1)).trans x1;replace x2:=(BW.out.cell (World.block_lt_of_cell? w _ x2)).trans x2;replace x3:=(BW.out.cell (World.block_lt_of_cell? w _ x3)).trans x3;replace x4:=(BW.out.cell (World.block_lt_of_cell? w _ x4)).trans x4;replace x5:=(BW.out.cell (World.block_lt_of_cell? w _ x5)).trans x5;have hcall:=hp wr (rd_T29 l0 (kk:Int)) BW.out;unfold aggS at hcall;clear hp;obtain⟨y,hy0⟩: ∃y,y=rd_T29 l0 (kk:Int):=⟨_,rfl⟩;rw[←hy0]at hcall x0 x1 x2 x3 x4 x5
      have hy:=aS hy0;clear hy0;cases hq:p y with
      |true=>
        rw[hq]at hcall
        go_wp2_with (go_at_fn g;refine hcall.mono ?_;rintro e w' ⟨rfl,hb'⟩)
        go_ret
        exact⟨_,rfl,found_yes hlt (by rw[←hy.out];exact hq),hb'⟩
      |false=>
        rw[hq]at hcall
        go_wp2_with (go_at_fn g;refine hcall.mono ?_;rintro e w' ⟨rfl,hb'⟩)
        go_roundg (l0.length- (kk+1))
        case measure=>omega
        case rel=>
          refine⟨kk+1,by omega,by omega,by go_num,hb',(show Aside _ from fun j hj=> ?_)⟩
          by_cases e:j=kk
          · subst e
            rw[←hy.out];exact hq
          · exact A.out j (by omega)
    · have hltz: ¬(kk:Int)<(l0.length:Int):=by omega
      have:kk=l0.length:=by omega
      subst this;go_wp2
      go_ret
      exact⟨_,rfl,found_no A.out,BW.out⟩
theorem contains_ops (p:S29→Bool) (g:Nat) (lb:Array Value) (eg: ∀args w,(callFunc g args).run Try.prog w= .ok (.enter g args) w) (A0:Option Addr) (c0:Nat) (l0:List S29) (w:World)
    (hr0:Kd.C k29 w A0 l0.length l0) (hl:l0.length≤16)
    (hp: ∀ (W:World) (x:S29),Below w.heap.size w W→Calls Try.prog g (#[aggS x]++lb) W fun e w'=>e= .returned (.bool (p x))∧Below w.heap.size w w'):
    Calls Try.prog 74 #[.slice A0 l0.length c0,.func (.func g) #[] lb] w fun e w'=>e= .returned (.bool (l0.any p))∧Below w.heap.size w w':=by
  have hx:=index_ops p g lb eg A0 c0 l0 w hr0 hl hp;clear hr0 hp;go_enter Try.func74,Try.ntmps74
  go_wp2_with (go_at_call 92;refine hx.mono ?_;rintro e w' ⟨i,rfl,hi,hb⟩)
  go_ret
  refine⟨?_,hb⟩
  rcases hi with ⟨h0,h1⟩|⟨rfl,h1⟩
  · rw[h1];simp[h0]
  · rw[h1];rfl
theorem impl_CodeOk.calls (A0:Option Addr) (c0:Nat) (l0:List S29) (r:Bool) (w:World) (hr0:Kd.C k29 w A0 l0.length l0) (hc0:l0.length≤c0) (h:codeV.f l0=some r):
    Calls Try.prog 35 #[.slice A0 l0.length c0] w fun e w'=>e= .returned (.bool r)∧Below w.heap.size w w':=by
  have h:=aS (Option.some.inj h);have HR0:=aS hr0;clear hr0;by_cases hl:1≤l0.length∧l0.length≤16
  · have b1:(decide (1≤l0.length∧l0.length≤16))=true:=decide_eq_true hl
    have b2:(decide (1≤(l0.length:Int)∧(l0.length:Int)≤16))=true:=decide_eq_true (by omega)
    obtain⟨w1,hw1⟩: ∃w1,w1=w.alloc (.cells #[.slice A0 l0.length c0] 42):=⟨_,rfl⟩
    have hx:=contains_ops (wrongB l0.length) 73 #[.pointer (some ⟨w.heap.size,0,none⟩)] (fun _ _=>by kernel_rfl) A0 c0 l0 w1 (by rw[hw1];exact Kd.C_alloc HR0.out _) hl.2 (fun W x hb=>by
      have hB:W.heap[w.heap.size]?=some (.cells #[.slice A0 l0.length c0] 42 (0,0)):=by
        have:=blk_new w (.cells #[.slice A0 l0.length c0] 42);rw[←hw1]at this
        exact blk_below this hb
      refine(wrong_any A0 l0.length c0 w.heap.size x.f0 x.f1 x.f2 x.f3 x.f4.f0 x.f4.f1 W hB).mono ?_
      rintro e w' ⟨rfl,hb'⟩
      exact⟨rfl,below_step hb hb'⟩)
    rw[hw1]at hx
    go_enter Try.func35,Try.ntmps35
    go_wp2_with (first|(go_at_call 65;refine(in_any _ _ _ _).mono ?_;rintro e w' ⟨rfl,rfl⟩)|(go_at_call 74;refine hx.mono ?_;rintro e w' ⟨rfl,hb⟩))
    all_goals go_ret
    all_goals(refine⟨by rw[←h.out];unfold codeB;simp[b1],?_⟩)
    all_goals exact below_step (below_alloc (Below.refl _ _) _) hb
  · have b1:(decide (1≤l0.length∧l0.length≤16))=false:=decide_eq_false hl
    have b2:(decide (1≤(l0.length:Int)∧(l0.length:Int)≤16))=false:=decide_eq_false (by omega)
    go_enter Try.func35,Try.ntmps35
    go_wp2_with (first|(go_at_call 65;refine(in_any _ _ _ _).mono ?_;rintro e w' ⟨rfl,rfl⟩))
    all_goals go_ret
    all_goals(refine⟨by rw[←h.out];unfold codeB;simp[b1],?_⟩)
    all_goals exact below_alloc (Below.refl _ _) _
inductive Fl where
  |same|fill|one
def Fl.val (B:Nat):Fl→Value
  | .same=>.func (.func 94) #[] #[]
  | .fill=>.func (.func 95) #[] #[.pointer (some ⟨B,0,none⟩)]
  | .one=>.func (.func 96) #[] #[]
def arrowsL (n:Nat) (i k t:Int):List (Int×Fl):=
  (if k=9∨k=14 then []else if i+1<n then [(i+1,if(howR k).f3=true then .fill else .same)]else [])++
  (if k=5 then [(t,.one)]else if hasT k=true then [(t,.same)]else [])
def arrowCells (B:Nat) (l:List (Int×Fl)):List Value:=l.flatMap fun a=> [.int .i64 a.1,a.2.val B]
theorem info77:(Try.prog.info? 77).map (fun i=>(i.zero,i.size,i.bytes))=some (some (.agg #[.int .i64 0,.nilFunc]),2,16):=by kernel_rfl
theorem cell_two_new (w:World) (x y:Value) (t:TypeId): ∀j u,[x,y][j]?=some u→(w.alloc (.cells #[x,y] t)).cell? ((⟨w.heap.size,0,none⟩:Addr).add j)=some u:=by
  intro j u h;have h1:=blk_new w (.cells #[x,y] t);match j,h with
  |0,h=>exact(blk_cell h1 0).trans (by simpa using h)
  |1,h=>exact(blk_cell h1 1).trans (by simpa using h)
theorem cell_two_at (w:World) (b:Nat) (x y:Value) (t:TypeId) (hb:b=w.heap.size): ∀j u,[x,y][j]?=some u→(w.alloc (.cells #[x,y] t)).cell? ((⟨b,0,none⟩:Addr).add j)=some u:=by
  subst hb;exact cell_two_new w x y t
theorem own_below {w W:World} {base:Nat} {e:TypeId} {size n:Nat} {v:Value} {xs:List Value} (h:w.ownsRow base e size v n xs) (hb:Below w.heap.size w W):W.ownsRow base e size v n xs:=
  own_move h fun k hk=>by obtain⟨c,hc⟩:=own_typed h k hk;exact hb.block k (blk_lt hc)
theorem arr_step {w W w1:World} {C o:Obj} {v:Value} {n:Nat} {xs:List Value} (BK:W.heap[w.heap.size]?=some C) (HB:Below w.heap.size w W) (hown:W.ownsRow (w.heap.size+1) 77 2 v n xs)
    (hgrow:(W.alloc o).grownBy w1 v.ownBlock):w1.heap[w.heap.size]?=some C∧Below w.heap.size w w1:=
  ⟨blk_grown (blk_alloc BK _) hgrow (fun e=>by have:=own_base hown w.heap.size e.symm;omega),
   (below_alloc HB _).grown hgrow (below_alloc HB _).size (fun b hb=>by have:=own_base hown b hb;omega)⟩
theorem arrows_walk (A0:Option Addr) (c0 n:Nat) (ad:Addr) (i:Nat) (hi:i<n) (hn:n≤16) (hA:A0=some ad) (k r s t vk vn:Int) (w:World) (bf bt:Bool) (x:S66) (hx:Aside0 (x=howR k)) (hbt:Aside0 (bt=hasT k))
    (x0:w.cell? (ad.add (i*6))=some (.int .i64 k)) (x1:w.cell? ⟨(ad.add (i*6)).block,(ad.add (i*6)).off+1,none⟩=some (.int .i64 r)) (x2:w.cell? ⟨(ad.add (i*6)).block,(ad.add (i*6)).off+2,none⟩=some (.int .i64 s))
    (x3:w.cell? ⟨(ad.add (i*6)).block,(ad.add (i*6)).off+3,none⟩=some (.int .i64 t)) (x4:w.cell? ⟨(ad.add (i*6)).block,(ad.add (i*6)).off+4,none⟩=some (.int .i64 vk)) (x5:w.cell? ⟨(ad.add (i*6)).block,(ad.add (i*6)).off+5,none⟩=some (.int .i64 vn))
    (hN:(k=9∧bt=true)∨(k=14∧bt=false)∨((k==9)=false∧(k==14)=false)) (hf:x.f3=bf) (L:List (Int×Fl)) (hL:Aside0 (L=arrowsL n i k t)):
    Calls Try.prog 77 #[.slice A0 n c0,.int .i64 i] w fun e w'=> ∃v,e= .returned v∧w'.ownsRow (w.heap.size+1) 77 2 v L.length (arrowCells w.heap.size L)∧w'.heap[w.heap.size]?=some (.cells #[.int .i64 k,.int .i64 r,.int .i64 s,.int .i64 t,.int .i64 vk,.int .i64 vn] 29 (0,0))∧Below w.heap.size w w':=by
  subst hA;have hi0:(0:Int)≤(i:Int):=by omega
  have hi1:(i:Int)<(n:Int):=by omega
  have hHow:=fun W:World=>impl_Op_how.calls k r s t vk vn x.f0 x.f1 x.f2 bf W (by rw[←hf,hx.out];rfl)
  have hHas:=fun W:World=>has_any k r s t vk vn 84 W
  rw[hasC_T,←hbt.out]at hHas
  have hfd: ∀ (a b c d:Value) (W:World),Sem.run Try.prog (Instr.field 66 (.agg #[a,b,c,d]) 3) W= .ok d W:=fun _ _ _ _ _=>by kernel_rfl
  obtain⟨i0,hi_,hz0,hz1,hz2⟩:=info_parts info77;have BK:Aside0 ((w.alloc (.cells #[.int .i64 k,.int .i64 r,.int .i64 s,.int .i64 t,.int .i64 vk,.int .i64 vn] 29)).heap[w.heap.size]?=some (.cells #[.int .i64 k,.int .i64 r,.int .i64 s,.int .i64 t,.int .i64 vk,.int .i64 vn] 29 (0,0))):=⟨blk_new _ _⟩;have HB:=aS (below_alloc (Below.refl w.heap.size w) (.cells #[.int .i64 k,.int .i64 r,.int .i64 s,.int .i64 t,.int .i64 vk,.int .i64 vn] 29));rcases hN with ⟨rfl,rfl⟩|⟨rfl,rfl⟩|⟨h9,h14⟩
  · have eL:L=[(t,.same)]:=by rw[hL.out];unfold arrowsL;rw[if_pos (.inl rfl),if_neg (by decide),if_pos hbt.out.symm];rfl
    subst eL;go_enter Try.func77,Try.ntmps77
    go_wp2_with (first|(go_at_call 64;refine(hHas _).mono ?_;rintro e w'2 ⟨rfl,hb⟩;have BK1:=aS (blk_below BK.out hb);have HB1:=aS (below_step HB.out hb);clear BK HB hb;have BK:=BK1;have HB:=HB1;clear BK1 HB1;obtain⟨q0,q1,q2,q3,q4,q5⟩:w'2.cell? ⟨w.heap.size,0,none⟩=some (.int .i64 9)∧w'2.cell? ⟨w.heap.size,1,none⟩=some (.int .i64 r)∧w'2.cell? ⟨w.heap.size,2,none⟩=some (.int .i64 s)∧w'2.cell? ⟨w.heap.size,3,none⟩=some (.int .i64 t)∧w'2.cell? ⟨w.heap.size,4,none⟩=some (.int .i64 vk)∧w'2.cell? ⟨w.heap.size,5,none⟩=some (.int .i64 vn):=⟨(blk_cell BK.out 0).trans rfl,(blk_cell BK.out 1).trans rfl,(blk_cell BK.out 2).trans rfl,(blk_cell BK.out 3).trans rfl,(blk_cell BK.out 4).trans rfl,(blk_cell BK.out 5).trans rfl⟩)|(at_builtin;refine wpList_append_own _ rfl _ _ 74 rfl (w.heap.size+1) 77 i0 (.agg #[.int .i64 0,.nilFunc]) 2 16 Try.underlying74 hi_ hz0 hz1 hz2 rfl (by decide) _ _ _ rfl (World.ownsRow_nil _ _ _ _) ⟨_,0,none⟩ 1 1 [.int .i64 t,.func (.func 94) #[] #[]] rfl rfl (cell_two_at _ _ _ _ _ (by simp)) (by simp[Value.oneCell']) (by unfold maxLen;omega) (by omega) ?hb ?_;(case hb=>have:=blk_lt BK.out;first|(simp;omega)|simp);intro v' w1 hown' hgrow _;obtain⟨BK1,HB1⟩:=arr_step BK.out HB.out (World.ownsRow_nil _ _ _ _) hgrow;have HO:=aS hown';clear BK HB hown' hgrow;have BK:=aS BK1;have HB:=aS HB1;clear BK1 HB1;obtain⟨q0,q1,q2,q3,q4,q5⟩:w1.cell? ⟨w.heap.size,0,none⟩=some (.int .i64 9)∧w1.cell? ⟨w.heap.size,1,none⟩=some (.int .i64 r)∧w1.cell? ⟨w.heap.size,2,none⟩=some (.int .i64 s)∧w1.cell? ⟨w.heap.size,3,none⟩=some (.int .i64 t)∧w1.cell? ⟨w.heap.size,4,none⟩=some (.int .i64 vk)∧w1.cell? ⟨w.heap.size,5,none⟩=some (.int .i64 vn):=⟨(blk_cell BK.out 0).trans rfl,(blk_cell BK.out 1).trans rfl,(blk_cell BK.out 2).trans rfl,(blk_cell BK.out 3).trans rfl,(blk_cell BK.out 4).trans rfl,(blk_cell BK.out 5).trans rfl⟩))
    all_goals go_ret
    all_goals exact⟨_,rfl,HO.out,BK.out,HB.out⟩
  · have eL:L=[]:=by rw[hL.out];unfold arrowsL;rw[if_pos (.inr rfl),if_neg (by decide),if_neg (by rw[←hbt.out];decide)];rfl
    subst eL;go_enter Try.func77,Try.ntmps77
    go_wp2_with (first|(go_at_call 64;refine(hHas _).mono ?_;rintro e w'2 ⟨rfl,hb⟩;have BK1:=aS (blk_below BK.out hb);have HB1:=aS (below_step HB.out hb);clear BK HB hb;have BK:=BK1;have HB:=HB1;clear BK1 HB1;obtain⟨q0,q1,q2,q3,q4,q5⟩:w'2.cell? ⟨w.heap.size,0,none⟩=some (.int .i64 14)∧w'2.cell? ⟨w.heap.size,1,none⟩=some (.int .i64 r)∧w'2.cell? ⟨w.heap.size,2,none⟩=some (.int .i64 s)∧w'2.cell? ⟨w.heap.size,3,none⟩=some (.int .i64 t)∧w'2.cell? ⟨w.heap.size,4,none⟩=some (.int .i64 vk)∧w'2.cell? ⟨w.heap.size,5,none⟩=some (.int .i64 vn):=⟨(blk_cell BK.out 0).trans rfl,(blk_cell BK.out 1).trans rfl,(blk_cell BK.out 2).trans rfl,(blk_cell BK.out 3).trans rfl,(blk_cell BK.out 4).trans rfl,(blk_cell BK.out 5).trans rfl⟩))
    all_goals go_ret
    all_goals exact⟨_,rfl,World.ownsRow_nil _ _ _ _,BK.out,HB.out⟩
  · have n9: ¬(k=9∨k=14):=by simp at h9 h14;omega
    have m9:(k !=9)=true:=by simp[bne,h9]
    have m14:(k !=14)=true:=by simp[bne,h14]
    by_cases nx:(i:Int)+1<n
    · have dx:decide ((i:Int)+1<(n:Int))=true:=decide_eq_true nx
      cases bf
      · by_cases h5:k=5
        · subst h5
          have eL:L=[((i:Int)+1,.same)]++ [(t,.one)]:=by rw[hL.out];unfold arrowsL;rw[if_neg n9,if_pos nx,if_neg (by rw[←hx.out,hf];decide),if_pos rfl]<;>rfl
          subst eL;go_enter Try.func77,Try.ntmps77
          go_wp2_with (first|(go_at_call 67;refine(hHow _).mono ?_;rintro e w'4 ⟨rfl,hb⟩;have BK1:=aS (blk_below BK.out hb);have HB1:=aS (below_step HB.out hb);clear BK HB hb;have BK:=BK1;have HB:=HB1;clear BK1 HB1;obtain⟨q0,q1,q2,q3,q4,q5⟩:w'4.cell? ⟨w.heap.size,0,none⟩=some (.int .i64 5)∧w'4.cell? ⟨w.heap.size,1,none⟩=some (.int .i64 r)∧w'4.cell? ⟨w.heap.size,2,none⟩=some (.int .i64 s)∧w'4.cell? ⟨w.heap.size,3,none⟩=some (.int .i64 t)∧w'4.cell? ⟨w.heap.size,4,none⟩=some (.int .i64 vk)∧w'4.cell? ⟨w.heap.size,5,none⟩=some (.int .i64 vn):=⟨(blk_cell BK.out 0).trans rfl,(blk_cell BK.out 1).trans rfl,(blk_cell BK.out 2).trans rfl,(blk_cell BK.out 3).trans rfl,(blk_cell BK.out 4).trans rfl,(blk_cell BK.out 5).trans rfl⟩)|(at_builtin;refine wpList_append_own _ rfl _ _ 74 rfl (w.heap.size+1) 77 i0 (.agg #[.int .i64 0,.nilFunc]) 2 16 Try.underlying74 hi_ hz0 hz1 hz2 rfl (by decide) _ _ _ rfl (World.ownsRow_nil _ _ _ _) ⟨_,0,none⟩ 1 1 [.int .i64 ((i:Int)+1),.func (.func 94) #[] #[]] rfl rfl (cell_two_at _ _ _ _ _ (by simp)) (by simp[Value.oneCell']) (by unfold maxLen;omega) (by omega) ?hb ?_;(case hb=>have:=blk_lt BK.out;first|(simp;omega)|simp);intro v'w1 w1 hown' hgrow _;obtain⟨BK1,HB1⟩:=arr_step BK.out HB.out (World.ownsRow_nil _ _ _ _) hgrow;have HO:=aS hown';clear BK HB hown' hgrow;have BK:=aS BK1;have HB:=aS HB1;clear BK1 HB1;obtain⟨q0,q1,q2,q3,q4,q5⟩:w1.cell? ⟨w.heap.size,0,none⟩=some (.int .i64 5)∧w1.cell? ⟨w.heap.size,1,none⟩=some (.int .i64 r)∧w1.cell? ⟨w.heap.size,2,none⟩=some (.int .i64 s)∧w1.cell? ⟨w.heap.size,3,none⟩=some (.int .i64 t)∧w1.cell? ⟨w.heap.size,4,none⟩=some (.int .i64 vk)∧w1.cell? ⟨w.heap.size,5,none⟩=some (.int .i64 vn):=⟨(blk_cell BK.out 0).trans rfl,(blk_cell BK.out 1).trans rfl,(blk_cell BK.out 2).trans rfl,(blk_cell BK.out 3).trans rfl,(blk_cell BK.out 4).trans rfl,(blk_cell BK.out 5).trans rfl⟩)|(at_builtin;refine wpList_append_own _ rfl _ _ 74 rfl (w.heap.size+1) 77 i0 (.agg #[.int .i64 0,.nilFunc]) 2 16 Try.underlying74 hi_ hz0 hz1 hz2 rfl (by decide) _ _ _ rfl (HO.out.alloc _) ⟨_,0,none⟩ 1 1 [.int .i64 t,.func (.func 96) #[] #[]] rfl rfl (cell_two_at _ _ _ _ _ (by simp)) (by simp[Value.oneCell']) (by unfold maxLen;omega) (by omega) ?hb ?_;(case hb=>have:=blk_lt BK.out;first|(simp;omega)|simp);intro v'w2 w2 hown' hgrow _;obtain⟨BK1,HB1⟩:=arr_step BK.out HB.out HO.out hgrow;clear HO;have HO:=aS hown';clear BK HB hown' hgrow;have BK:=aS BK1;have HB:=aS HB1;clear BK1 HB1;obtain⟨q0,q1,q2,q3,q4,q5⟩:w2.cell? ⟨w.heap.size,0,none⟩=some (.int .i64 5)∧w2.cell? ⟨w.heap.size,1,none⟩=some (.int .i64 r)∧w2.cell? ⟨w.heap.size,2,none⟩=some (.int .i64 s)∧w2.cell? ⟨w.heap.size,3,none⟩=some (.int .i64 t)∧w2.cell? ⟨w.heap.size,4,none⟩=some (.int .i64 vk)∧w2.cell? ⟨w.heap.size,5,none⟩=some (.int .i64 vn):=⟨(blk_cell BK.out 0).trans rfl,(blk_cell BK.out 1).trans rfl,(blk_cell BK.out 2).trans rfl,(blk_cell BK.out 3).trans rfl,(blk_cell BK.out 4).trans rfl,(blk_cell BK.out 5).trans rfl⟩))
          all_goals go_ret
          all_goals exact⟨_,rfl,HO.out,BK.out,HB.out⟩
        · have b5:(k==5)=false:=by simpa using h5
          cases bt
          · have eL:L=[((i:Int)+1,.same)]++ []:=by rw[hL.out];unfold arrowsL;rw[if_neg n9,if_pos nx,if_neg (by rw[←hx.out,hf];decide),if_neg h5,if_neg (by rw[←hbt.out];decide)]<;>rfl
            subst eL;go_enter Try.func77,Try.ntmps77
            go_wp2_with (first|(go_at_call 67;refine(hHow _).mono ?_;rintro e w'4 ⟨rfl,hb⟩;have BK1:=aS (blk_below BK.out hb);have HB1:=aS (below_step HB.out hb);clear BK HB hb;have BK:=BK1;have HB:=HB1;clear BK1 HB1;obtain⟨q0,q1,q2,q3,q4,q5⟩:w'4.cell? ⟨w.heap.size,0,none⟩=some (.int .i64 k)∧w'4.cell? ⟨w.heap.size,1,none⟩=some (.int .i64 r)∧w'4.cell? ⟨w.heap.size,2,none⟩=some (.int .i64 s)∧w'4.cell? ⟨w.heap.size,3,none⟩=some (.int .i64 t)∧w'4.cell? ⟨w.heap.size,4,none⟩=some (.int .i64 vk)∧w'4.cell? ⟨w.heap.size,5,none⟩=some (.int .i64 vn):=⟨(blk_cell BK.out 0).trans rfl,(blk_cell BK.out 1).trans rfl,(blk_cell BK.out 2).trans rfl,(blk_cell BK.out 3).trans rfl,(blk_cell BK.out 4).trans rfl,(blk_cell BK.out 5).trans rfl⟩)|(at_builtin;refine wpList_append_own _ rfl _ _ 74 rfl (w.heap.size+1) 77 i0 (.agg #[.int .i64 0,.nilFunc]) 2 16 Try.underlying74 hi_ hz0 hz1 hz2 rfl (by decide) _ _ _ rfl (World.ownsRow_nil _ _ _ _) ⟨_,0,none⟩ 1 1 [.int .i64 ((i:Int)+1),.func (.func 94) #[] #[]] rfl rfl (cell_two_at _ _ _ _ _ (by simp)) (by simp[Value.oneCell']) (by unfold maxLen;omega) (by omega) ?hb ?_;(case hb=>have:=blk_lt BK.out;first|(simp;omega)|simp);intro v'w1 w1 hown' hgrow _;obtain⟨BK1,HB1⟩:=arr_step BK.out HB.out (World.ownsRow_nil _ _ _ _) hgrow;have HO:=aS hown';clear BK HB hown' hgrow;have BK:=aS BK1;have HB:=aS HB1;clear BK1 HB1;obtain⟨q0,q1,q2,q3,q4,q5⟩:w1.cell? ⟨w.heap.size,0,none⟩=some (.int .i64 k)∧w1.cell? ⟨w.heap.size,1,none⟩=some (.int .i64 r)∧w1.cell? ⟨w.heap.size,2,none⟩=some (.int .i64 s)∧w1.cell? ⟨w.heap.size,3,none⟩=some (.int .i64 t)∧w1.cell? ⟨w.heap.size,4,none⟩=some (.int .i64 vk)∧w1.cell? ⟨w.heap.size,5,none⟩=some (.int .i64 vn):=⟨(blk_cell BK.out 0).trans rfl,(blk_cell BK.out 1).trans rfl,(blk_cell BK.out 2).trans rfl,(blk_cell BK.out 3).trans rfl,(blk_cell BK.out 4).trans rfl,(blk_cell BK.out 5).trans rfl⟩)|(go_at_call 64;refine(hHas _).mono ?_;rintro e w'2 ⟨rfl,hb⟩;have BK1:=aS (blk_below BK.out hb);have HB1:=aS (below_step HB.out hb);have HO1:=aS (own_below HO.out hb);clear HO;have HO:=HO1;clear HO1;clear BK HB hb;have BK:=BK1;have HB:=HB1;clear BK1 HB1;obtain⟨q0,q1,q2,q3,q4,q5⟩:w'2.cell? ⟨w.heap.size,0,none⟩=some (.int .i64 k)∧w'2.cell? ⟨w.heap.size,1,none⟩=some (.int .i64 r)∧w'2.cell? ⟨w.heap.size,2,none⟩=some (.int .i64 s)∧w'2.cell? ⟨w.heap.size,3,none⟩=some (.int .i64 t)∧w'2.cell? ⟨w.heap.size,4,none⟩=some (.int .i64 vk)∧w'2.cell? ⟨w.heap.size,5,none⟩=some (.int .i64 vn):=⟨(blk_cell BK.out 0).trans rfl,(blk_cell BK.out 1).trans rfl,(blk_cell BK.out 2).trans rfl,(blk_cell BK.out 3).trans rfl,(blk_cell BK.out 4).trans rfl,(blk_cell BK.out 5).trans rfl⟩))
            all_goals go_ret
            all_goals exact⟨_,rfl,HO.out,BK.out,HB.out⟩
          · have eL:L=[((i:Int)+1,.same)]++ [(t,.same)]:=by rw[hL.out];unfold arrowsL;rw[if_neg n9,if_pos nx,if_neg (by rw[←hx.out,hf];decide),if_neg h5,if_pos hbt.out.symm]<;>rfl
            subst eL;go_enter Try.func77,Try.ntmps77
            go_wp2_with (first|(go_at_call 67;refine(hHow _).mono ?_;rintro e w'4 ⟨rfl,hb⟩;have BK1:=aS (blk_below BK.out hb);have HB1:=aS (below_step HB.out hb);clear BK HB hb;have BK:=BK1;have HB:=HB1;clear BK1 HB1;obtain⟨q0,q1,q2,q3,q4,q5⟩:w'4.cell? ⟨w.heap.size,0,none⟩=some (.int .i64 k)∧w'4.cell? ⟨w.heap.size,1,none⟩=some (.int .i64 r)∧w'4.cell? ⟨w.heap.size,2,none⟩=some (.int .i64 s)∧w'4.cell? ⟨w.heap.size,3,none⟩=some (.int .i64 t)∧w'4.cell? ⟨w.heap.size,4,none⟩=some (.int .i64 vk)∧w'4.cell? ⟨w.heap.size,5,none⟩=some (.int .i64 vn):=⟨(blk_cell BK.out 0).trans rfl,(blk_cell BK.out 1).trans rfl,(blk_cell BK.out 2).trans rfl,(blk_cell BK.out 3).trans rfl,(blk_cell BK.out 4).trans rfl,(blk_cell BK.out 5).trans rfl⟩)|(at_builtin;refine wpList_append_own _ rfl _ _ 74 rfl (w.heap.size+1) 77 i0 (.agg #[.int .i64 0,.nilFunc]) 2 16 Try.underlying74 hi_ hz0 hz1 hz2 rfl (by decide) _ _ _ rfl (World.ownsRow_nil _ _ _ _) ⟨_,0,none⟩ 1 1 [.int .i64 ((i:Int)+1),.func (.func 94) #[] #[]] rfl rfl (cell_two_at _ _ _ _ _ (by simp)) (by simp[Value.oneCell']) (by unfold maxLen;omega) (by omega) ?hb ?_;(case hb=>have:=blk_lt BK.out;first|(simp;omega)|simp);intro v'w1 w1 hown' hgrow _;obtain⟨BK1,HB1⟩:=arr_step BK.out HB.out (World.ownsRow_nil _ _ _ _) hgrow;have HO:=aS hown';clear BK HB hown' hgrow;have BK:=aS BK1;have HB:=aS HB1;clear BK1 HB1;obtain⟨q0,q1,q2,q3,q4,q5⟩:w1.cell? ⟨w.heap.size,0,none⟩=some (.int .i64 k)∧w1.cell? ⟨w.heap.size,1,none⟩=some (.int .i64 r)∧w1.cell? ⟨w.heap.size,2,none⟩=some (.int .i64 s)∧w1.cell? ⟨w.heap.size,3,none⟩=some (.int .i64 t)∧w1.cell? ⟨w.heap.size,4,none⟩=some (.int .i64 vk)∧w1.cell? ⟨w.heap.size,5,none⟩=some (.int .i64 vn):=⟨(blk_cell BK.out 0).trans rfl,(blk_cell BK.out 1).trans rfl,(blk_cell BK.out 2).trans rfl,(blk_cell BK.out 3).trans rfl,(blk_cell BK.out 4).trans rfl,(blk_cell BK.out 5).trans rfl⟩)|(go_at_call 64;refine(hHas _).mono ?_;rintro e w'2 ⟨rfl,hb⟩;have BK1:=aS (blk_below BK.out hb);have HB1:=aS (below_step HB.out hb);have HO1:=aS (own_below HO.out hb);clear HO;have HO:=HO1;clear HO1;clear BK HB hb;have BK:=BK1;have HB:=HB1;clear BK1 HB1;obtain⟨q0,q1,q2,q3,q4,q5⟩:w'2.cell? ⟨w.heap.size,0,none⟩=some (.int .i64 k)∧w'2.cell? ⟨w.heap.size,1,none⟩=some (.int .i64 r)∧w'2.cell? ⟨w.heap.size,2,none⟩=some (.int .i64 s)∧w'2.cell? ⟨w.heap.size,3,none⟩=some (.int .i64 t)∧w'2.cell? ⟨w.heap.size,4,none⟩=some (.int .i64 vk)∧w'2.cell? ⟨w.heap.size,5,none⟩=some (.int .i64 vn):=⟨(blk_cell BK.out 0).trans rfl,(blk_cell BK.out 1).trans rfl,(blk_cell BK.out 2).trans rfl,(blk_cell BK.out 3).trans rfl,(blk_cell BK.out 4).trans rfl,(blk_cell BK.out 5).trans rfl⟩)|(at_builtin;refine wpList_append_own _ rfl _ _ 74 rfl (w.heap.size+1) 77 i0 (.agg #[.int .i64 0,.nilFunc]) 2 16 Try.underlying74 hi_ hz0 hz1 hz2 rfl (by decide) _ _ _ rfl (HO.out.alloc _) ⟨_,0,none⟩ 1 1 [.int .i64 t,.func (.func 94) #[] #[]] rfl rfl (cell_two_at _ _ _ _ _ (by simp)) (by simp[Value.oneCell']) (by unfold maxLen;omega) (by omega) ?hb ?_;(case hb=>have:=blk_lt BK.out;first|(simp;omega)|simp);intro v'w2 w2 hown' hgrow _;obtain⟨BK1,HB1⟩:=arr_step BK.out HB.out HO.out hgrow;clear HO;have HO:=aS hown';clear BK HB hown' hgrow;have BK:=aS BK1;have HB:=aS HB1;clear BK1 HB1;obtain⟨q0,q1,q2,q3,q4,q5⟩:w2.cell? ⟨w.heap.size,0,none⟩=some (.int .i64 k)∧w2.cell? ⟨w.heap.size,1,none⟩=some (.int .i64 r)∧w2.cell? ⟨w.heap.size,2,none⟩=some (.int .i64 s)∧w2.cell? ⟨w.heap.size,3,none⟩=some (.int .i64 t)∧w2.cell? ⟨w.heap.size,4,none⟩=some (.int .i64 vk)∧w2.cell? ⟨w.heap.size,5,none⟩=some (.int .i64 vn):=⟨(blk_cell BK.out 0).trans rfl,(blk_cell BK.out 1).trans rfl,(blk_cell BK.out 2).trans rfl,(blk_cell BK.out 3).trans rfl,(blk_cell BK.out 4).trans rfl,(blk_cell BK.out 5).trans rfl⟩))
            all_goals go_ret
            all_goals exact⟨_,rfl,HO.out,BK.out,HB.out⟩
      · by_cases h5:k=5
        · subst h5
          have eL:L=[((i:Int)+1,.fill)]++ [(t,.one)]:=by rw[hL.out];unfold arrowsL;rw[if_neg n9,if_pos nx,if_pos (by rw[←hx.out,hf]),if_pos rfl]<;>rfl
          subst eL;go_enter Try.func77,Try.ntmps77
          go_wp2_with (first|(go_at_call 67;refine(hHow _).mono ?_;rintro e w'4 ⟨rfl,hb⟩;have BK1:=aS (blk_below BK.out hb);have HB1:=aS (below_step HB.out hb);clear BK HB hb;have BK:=BK1;have HB:=HB1;clear BK1 HB1;obtain⟨q0,q1,q2,q3,q4,q5⟩:w'4.cell? ⟨w.heap.size,0,none⟩=some (.int .i64 5)∧w'4.cell? ⟨w.heap.size,1,none⟩=some (.int .i64 r)∧w'4.cell? ⟨w.heap.size,2,none⟩=some (.int .i64 s)∧w'4.cell? ⟨w.heap.size,3,none⟩=some (.int .i64 t)∧w'4.cell? ⟨w.heap.size,4,none⟩=some (.int .i64 vk)∧w'4.cell? ⟨w.heap.size,5,none⟩=some (.int .i64 vn):=⟨(blk_cell BK.out 0).trans rfl,(blk_cell BK.out 1).trans rfl,(blk_cell BK.out 2).trans rfl,(blk_cell BK.out 3).trans rfl,(blk_cell BK.out 4).trans rfl,(blk_cell BK.out 5).trans rfl⟩)|(at_builtin;refine wpList_append_own _ rfl _ _ 74 rfl (w.heap.size+1) 77 i0 (.agg #[.int .i64 0,.nilFunc]) 2 16 Try.underlying74 hi_ hz0 hz1 hz2 rfl (by decide) _ _ _ rfl (World.ownsRow_nil _ _ _ _) ⟨_,0,none⟩ 1 1 [.int .i64 ((i:Int)+1),.func (.func 95) #[] #[.pointer (some ⟨w.heap.size,0,none⟩)]] rfl rfl (cell_two_at _ _ _ _ _ (by simp)) (by simp[Value.oneCell']) (by unfold maxLen;omega) (by omega) ?hb ?_;(case hb=>have:=blk_lt BK.out;first|(simp;omega)|simp);intro v'w1 w1 hown' hgrow _;obtain⟨BK1,HB1⟩:=arr_step BK.out HB.out (World.ownsRow_nil _ _ _ _) hgrow;have HO:=aS hown';clear BK HB hown' hgrow;have BK:=aS BK1;have HB:=aS HB1;clear BK1 HB1;obtain⟨q0,q1,q2,q3,q4,q5⟩:w1.cell? ⟨w.heap.size,0,none⟩=some (.int .i64 5)∧w1.cell? ⟨w.heap.size,1,none⟩=some (.int .i64 r)∧w1.cell? ⟨w.heap.size,2,none⟩=some (.int .i64 s)∧w1.cell? ⟨w.heap.size,3,none⟩=some (.int .i64 t)∧w1.cell? ⟨w.heap.size,4,none⟩=some (.int .i64 vk)∧w1.cell? ⟨w.heap.size,5,none⟩=some (.int .i64 vn):=⟨(blk_cell BK.out 0).trans rfl,(blk_cell BK.out 1).trans rfl,(blk_cell BK.out 2).trans rfl,(blk_cell BK.out 3).trans rfl,(blk_cell BK.out 4).trans rfl,(blk_cell BK.out 5).trans rfl⟩)|(at_builtin;refine wpList_append_own _ rfl _ _ 74 rfl (w.heap.size+1) 77 i0 (.agg #[.int .i64 0,.nilFunc]) 2 16 Try.underlying74 hi_ hz0 hz1 hz2 rfl (by decide) _ _ _ rfl (HO.out.alloc _) ⟨_,0,none⟩ 1 1 [.int .i64 t,.func (.func 96) #[] #[]] rfl rfl (cell_two_at _ _ _ _ _ (by simp)) (by simp[Value.oneCell']) (by unfold maxLen;omega) (by omega) ?hb ?_;(case hb=>have:=blk_lt BK.out;first|(simp;omega)|simp);intro v'w2 w2 hown' hgrow _;obtain⟨BK1,HB1⟩:=arr_step BK.out HB.out HO.out hgrow;clear HO;have HO:=aS hown';clear BK HB hown' hgrow;have BK:=aS BK1;have HB:=aS HB1;clear BK1 HB1;obtain⟨q0,q1,q2,q3,q4,q5⟩:w2.cell? ⟨w.heap.size,0,none⟩=some (.int .i64 5)∧w2.cell? ⟨w.heap.size,1,none⟩=some (.int .i64 r)∧w2.cell? ⟨w.heap.size,2,none⟩=some (.int .i64 s)∧w2.cell? ⟨w.heap.size,3,none⟩=some (.int .i64 t)∧w2.cell? ⟨w.heap.size,4,none⟩=some (.int .i64 vk)∧w2.cell? ⟨w.heap.size,5,none⟩=some (.int .i64 vn):=⟨(blk_cell BK.out 0).trans rfl,(blk_cell BK.out 1).trans rfl,(blk_cell BK.out 2).trans rfl,(blk_cell BK.out 3).trans rfl,(blk_cell BK.out 4).trans rfl,(blk_cell BK.out 5).trans rfl⟩))
          all_goals go_ret
          all_goals exact⟨_,rfl,HO.out,BK.out,HB.out⟩
        · have b5:(k==5)=false:=by simpa using h5
          cases bt
          · have eL:L=[((i:Int)+1,.fill)]++ []:=by rw[hL.out];unfold arrowsL;rw[if_neg n9,if_pos nx,if_pos (by rw[←hx.out,hf]),if_neg h5,if_neg (by rw[←hbt.out];decide)]<;>rfl
            subst eL;go_enter Try.func77,Try.ntmps77
            go_wp2_with (first|(go_at_call 67;refine(hHow _).mono ?_;rintro e w'4 ⟨rfl,hb⟩;have BK1:=aS (blk_below BK.out hb);have HB1:=aS (below_step HB.out hb);clear BK HB hb;have BK:=BK1;have HB:=HB1;clear BK1 HB1;obtain⟨q0,q1,q2,q3,q4,q5⟩:w'4.cell? ⟨w.heap.size,0,none⟩=some (.int .i64 k)∧w'4.cell? ⟨w.heap.size,1,none⟩=some (.int .i64 r)∧w'4.cell? ⟨w.heap.size,2,none⟩=some (.int .i64 s)∧w'4.cell? ⟨w.heap.size,3,none⟩=some (.int .i64 t)∧w'4.cell? ⟨w.heap.size,4,none⟩=some (.int .i64 vk)∧w'4.cell? ⟨w.heap.size,5,none⟩=some (.int .i64 vn):=⟨(blk_cell BK.out 0).trans rfl,(blk_cell BK.out 1).trans rfl,(blk_cell BK.out 2).trans rfl,(blk_cell BK.out 3).trans rfl,(blk_cell BK.out 4).trans rfl,(blk_cell BK.out 5).trans rfl⟩)|(at_builtin;refine wpList_append_own _ rfl _ _ 74 rfl (w.heap.size+1) 77 i0 (.agg #[.int .i64 0,.nilFunc]) 2 16 Try.underlying74 hi_ hz0 hz1 hz2 rfl (by decide) _ _ _ rfl (World.ownsRow_nil _ _ _ _) ⟨_,0,none⟩ 1 1 [.int .i64 ((i:Int)+1),.func (.func 95) #[] #[.pointer (some ⟨w.heap.size,0,none⟩)]] rfl rfl (cell_two_at _ _ _ _ _ (by simp)) (by simp[Value.oneCell']) (by unfold maxLen;omega) (by omega) ?hb ?_;(case hb=>have:=blk_lt BK.out;first|(simp;omega)|simp);intro v'w1 w1 hown' hgrow _;obtain⟨BK1,HB1⟩:=arr_step BK.out HB.out (World.ownsRow_nil _ _ _ _) hgrow;have HO:=aS hown';clear BK HB hown' hgrow;have BK:=aS BK1;have HB:=aS HB1;clear BK1 HB1;obtain⟨q0,q1,q2,q3,q4,q5⟩:w1.cell? ⟨w.heap.size,0,none⟩=some (.int .i64 k)∧w1.cell? ⟨w.heap.size,1,none⟩=some (.int .i64 r)∧w1.cell? ⟨w.heap.size,2,none⟩=some (.int .i64 s)∧w1.cell? ⟨w.heap.size,3,none⟩=some (.int .i64 t)∧w1.cell? ⟨w.heap.size,4,none⟩=some (.int .i64 vk)∧w1.cell? ⟨w.heap.size,5,none⟩=some (.int .i64 vn):=⟨(blk_cell BK.out 0).trans rfl,(blk_cell BK.out 1).trans rfl,(blk_cell BK.out 2).trans rfl,(blk_cell BK.out 3).trans rfl,(blk_cell BK.out 4).trans rfl,(blk_cell BK.out 5).trans rfl⟩)|(go_at_call 64;refine(hHas _).mono ?_;rintro e w'2 ⟨rfl,hb⟩;have BK1:=aS (blk_below BK.out hb);have HB1:=aS (below_step HB.out hb);have HO1:=aS (own_below HO.out hb);clear HO;have HO:=HO1;clear HO1;clear BK HB hb;have BK:=BK1;have HB:=HB1;clear BK1 HB1;obtain⟨q0,q1,q2,q3,q4,q5⟩:w'2.cell? ⟨w.heap.size,0,none⟩=some (.int .i64 k)∧w'2.cell? ⟨w.heap.size,1,none⟩=some (.int .i64 r)∧w'2.cell? ⟨w.heap.size,2,none⟩=some (.int .i64 s)∧w'2.cell? ⟨w.heap.size,3,none⟩=some (.int .i64 t)∧w'2.cell? ⟨w.heap.size,4,none⟩=some (.int .i64 vk)∧w'2.cell? ⟨w.heap.size,5,none⟩=some (.int .i64 vn):=⟨(blk_cell BK.out 0).trans rfl,(blk_cell BK.out 1).trans rfl,(blk_cell BK.out 2).trans rfl,(blk_cell BK.out 3).trans rfl,(blk_cell BK.out 4).trans rfl,(blk_cell BK.out 5).trans rfl⟩))
            all_goals go_ret
            all_goals exact⟨_,rfl,HO.out,BK.out,HB.out⟩
          · have eL:L=[((i:Int)+1,.fill)]++ [(t,.same)]:=by rw[hL.out];unfold arrowsL;rw[if_neg n9,if_pos nx,if_pos (by rw[←hx.out,hf]),if_neg h5,if_pos hbt.out.symm]<;>rfl
            subst eL;go_enter Try.func77,Try.ntmps77
            go_wp2_with (first|(go_at_call 67;refine(hHow _).mono ?_;rintro e w'4 ⟨rfl,hb⟩;have BK1:=aS (blk_below BK.out hb);have HB1:=aS (below_step HB.out hb);clear BK HB hb;have BK:=BK1;have HB:=HB1;clear BK1 HB1;obtain⟨q0,q1,q2,q3,q4,q5⟩:w'4.cell? ⟨w.heap.size,0,none⟩=some (.int .i64 k)∧w'4.cell? ⟨w.heap.size,1,none⟩=some (.int .i64 r)∧w'4.cell? ⟨w.heap.size,2,none⟩=some (.int .i64 s)∧w'4.cell? ⟨w.heap.size,3,none⟩=some (.int .i64 t)∧w'4.cell? ⟨w.heap.size,4,none⟩=some (.int .i64 vk)∧w'4.cell? ⟨w.heap.size,5,none⟩=some (.int .i64 vn):=⟨(blk_cell BK.out 0).trans rfl,(blk_cell BK.out 1).trans rfl,(blk_cell BK.out 2).trans rfl,(blk_cell BK.out 3).trans rfl,(blk_cell BK.out 4).trans rfl,(blk_cell BK.out 5).trans rfl⟩)|(at_builtin;refine wpList_append_own _ rfl _ _ 74 rfl (w.heap.size+1) 77 i0 (.agg #[.int .i64 0,.nilFunc]) 2 16 Try.underlying74 hi_ hz0 hz1 hz2 rfl (by decide) _ _ _ rfl (World.ownsRow_nil _ _ _ _) ⟨_,0,none⟩ 1 1 [.int .i64 ((i:Int)+1),.func (.func 95) #[] #[.pointer (some ⟨w.heap.size,0,none⟩)]] rfl rfl (cell_two_at _ _ _ _ _ (by simp)) (by simp[Value.oneCell']) (by unfold maxLen;omega) (by omega) ?hb ?_;(case hb=>have:=blk_lt BK.out;first|(simp;omega)|simp);intro v'w1 w1 hown' hgrow _;obtain⟨BK1,HB1⟩:=arr_step BK.out HB.out (World.ownsRow_nil _ _ _ _) hgrow;have HO:=aS hown';clear BK HB hown' hgrow;have BK:=aS BK1;have HB:=aS HB1;clear BK1 HB1;obtain⟨q0,q1,q2,q3,q4,q5⟩:w1.cell? ⟨w.heap.size,0,none⟩=some (.int .i64 k)∧w1.cell? ⟨w.heap.size,1,none⟩=some (.int .i64 r)∧w1.cell? ⟨w.heap.size,2,none⟩=some (.int .i64 s)∧w1.cell? ⟨w.heap.size,3,none⟩=some (.int .i64 t)∧w1.cell? ⟨w.heap.size,4,none⟩=some (.int .i64 vk)∧w1.cell? ⟨w.heap.size,5,none⟩=some (.int .i64 vn):=⟨(blk_cell BK.out 0).trans rfl,(blk_cell BK.out 1).trans rfl,(blk_cell BK.out 2).trans rfl,(blk_cell BK.out 3).trans rfl,(blk_cell BK.out 4).trans rfl,(blk_cell BK.out 5).trans rfl⟩)|(go_at_call 64;refine(hHas _).mono ?_;rintro e w'2 ⟨rfl,hb⟩;have BK1:=aS (blk_below BK.out hb);have HB1:=aS (below_step HB.out hb);have HO1:=aS (own_below HO.out hb);clear HO;have HO:=HO1;clear HO1;clear BK HB hb;have BK:=BK1;have HB:=HB1;clear BK1 HB1;obtain⟨q0,q1,q2,q3,q4,q5⟩:w'2.cell? ⟨w.heap.size,0,none⟩=some (.int .i64 k)∧w'2.cell? ⟨w.heap.size,1,none⟩=some (.int .i64 r)∧w'2.cell? ⟨w.heap.size,2,none⟩=some (.int .i64 s)∧w'2.cell? ⟨w.heap.size,3,none⟩=some (.int .i64 t)∧w'2.cell? ⟨w.heap.size,4,none⟩=some (.int .i64 vk)∧w'2.cell? ⟨w.heap.size,5,none⟩=some (.int .i64 vn):=⟨(blk_cell BK.out 0).trans rfl,(blk_cell BK.out 1).trans rfl,(blk_cell BK.out 2).trans rfl,(blk_cell BK.out 3).trans rfl,(blk_cell BK.out 4).trans rfl,(blk_cell BK.out 5).trans rfl⟩)|(at_builtin;refine wpList_append_own _ rfl _ _ 74 rfl (w.heap.size+1) 77 i0 (.agg #[.int .i64 0,.nilFunc]) 2 16 Try.underlying74 hi_ hz0 hz1 hz2 rfl (by decide) _ _ _ rfl (HO.out.alloc _) ⟨_,0,none⟩ 1 1 [.int .i64 t,.func (.func 94) #[] #[]] rfl rfl (cell_two_at _ _ _ _ _ (by simp)) (by simp[Value.oneCell']) (by unfold maxLen;omega) (by omega) ?hb ?_;(case hb=>have:=blk_lt BK.out;first|(simp;omega)|simp);intro v'w2 w2 hown' hgrow _;obtain⟨BK1,HB1⟩:=arr_step BK.out HB.out HO.out hgrow;clear HO;have HO:=aS hown';clear BK HB hown' hgrow;have BK:=aS BK1;have HB:=aS HB1;clear BK1 HB1;obtain⟨q0,q1,q2,q3,q4,q5⟩:w2.cell? ⟨w.heap.size,0,none⟩=some (.int .i64 k)∧w2.cell? ⟨w.heap.size,1,none⟩=some (.int .i64 r)∧w2.cell? ⟨w.heap.size,2,none⟩=some (.int .i64 s)∧w2.cell? ⟨w.heap.size,3,none⟩=some (.int .i64 t)∧w2.cell? ⟨w.heap.size,4,none⟩=some (.int .i64 vk)∧w2.cell? ⟨w.heap.size,5,none⟩=some (.int .i64 vn):=⟨(blk_cell BK.out 0).trans rfl,(blk_cell BK.out 1).trans rfl,(blk_cell BK.out 2).trans rfl,(blk_cell BK.out 3).trans rfl,(blk_cell BK.out 4).trans rfl,(blk_cell BK.out 5).trans rfl⟩))
            all_goals go_ret
            all_goals exact⟨_,rfl,HO.out,BK.out,HB.out⟩
    · have dx:decide ((i:Int)+1<(n:Int))=false:=decide_eq_false nx
      by_cases h5:k=5
      · subst h5
        have eL:L=[]++ [(t,.one)]:=by rw[hL.out];unfold arrowsL;rw[if_neg n9,if_neg nx,if_pos rfl]<;>rfl
        subst eL;go_enter Try.func77,Try.ntmps77
        go_wp2_with (first|(at_builtin;refine wpList_append_own _ rfl _ _ 74 rfl (w.heap.size+1) 77 i0 (.agg #[.int .i64 0,.nilFunc]) 2 16 Try.underlying74 hi_ hz0 hz1 hz2 rfl (by decide) _ _ _ rfl (World.ownsRow_nil _ _ _ _) ⟨_,0,none⟩ 1 1 [.int .i64 t,.func (.func 96) #[] #[]] rfl rfl (cell_two_at _ _ _ _ _ (by simp)) (by simp[Value.oneCell']) (by unfold maxLen;omega) (by omega) ?hb ?_;(case hb=>have:=blk_lt BK.out;first|(simp;omega)|simp);intro v'w2 w2 hown' hgrow _;obtain⟨BK1,HB1⟩:=arr_step BK.out HB.out (World.ownsRow_nil _ _ _ _) hgrow;have HO:=aS hown';clear BK HB hown' hgrow;have BK:=aS BK1;have HB:=aS HB1;clear BK1 HB1;obtain⟨q0,q1,q2,q3,q4,q5⟩:w2.cell? ⟨w.heap.size,0,none⟩=some (.int .i64 5)∧w2.cell? ⟨w.heap.size,1,none⟩=some (.int .i64 r)∧w2.cell? ⟨w.heap.size,2,none⟩=some (.int .i64 s)∧w2.cell? ⟨w.heap.size,3,none⟩=some (.int .i64 t)∧w2.cell? ⟨w.heap.size,4,none⟩=some (.int .i64 vk)∧w2.cell? ⟨w.heap.size,5,none⟩=some (.int .i64 vn):=⟨(blk_cell BK.out 0).trans rfl,(blk_cell BK.out 1).trans rfl,(blk_cell BK.out 2).trans rfl,(blk_cell BK.out 3).trans rfl,(blk_cell BK.out 4).trans rfl,(blk_cell BK.out 5).trans rfl⟩))
        all_goals go_ret
        all_goals exact⟨_,rfl,HO.out,BK.out,HB.out⟩
      · have b5:(k==5)=false:=by simpa using h5
        cases bt
        · have eL:L=[]++ []:=by rw[hL.out];unfold arrowsL;rw[if_neg n9,if_neg nx,if_neg h5,if_neg (by rw[←hbt.out];decide)]<;>rfl
          subst eL;go_enter Try.func77,Try.ntmps77
          go_wp2_with (first|(go_at_call 64;refine(hHas _).mono ?_;rintro e w'2 ⟨rfl,hb⟩;have BK1:=aS (blk_below BK.out hb);have HB1:=aS (below_step HB.out hb);clear BK HB hb;have BK:=BK1;have HB:=HB1;clear BK1 HB1;obtain⟨q0,q1,q2,q3,q4,q5⟩:w'2.cell? ⟨w.heap.size,0,none⟩=some (.int .i64 k)∧w'2.cell? ⟨w.heap.size,1,none⟩=some (.int .i64 r)∧w'2.cell? ⟨w.heap.size,2,none⟩=some (.int .i64 s)∧w'2.cell? ⟨w.heap.size,3,none⟩=some (.int .i64 t)∧w'2.cell? ⟨w.heap.size,4,none⟩=some (.int .i64 vk)∧w'2.cell? ⟨w.heap.size,5,none⟩=some (.int .i64 vn):=⟨(blk_cell BK.out 0).trans rfl,(blk_cell BK.out 1).trans rfl,(blk_cell BK.out 2).trans rfl,(blk_cell BK.out 3).trans rfl,(blk_cell BK.out 4).trans rfl,(blk_cell BK.out 5).trans rfl⟩))
          all_goals go_ret
          all_goals exact⟨_,rfl,World.ownsRow_nil _ _ _ _,BK.out,HB.out⟩
        · have eL:L=[]++ [(t,.same)]:=by rw[hL.out];unfold arrowsL;rw[if_neg n9,if_neg nx,if_neg h5,if_pos hbt.out.symm]<;>rfl
          subst eL;go_enter Try.func77,Try.ntmps77
          go_wp2_with (first|(go_at_call 64;refine(hHas _).mono ?_;rintro e w'2 ⟨rfl,hb⟩;have BK1:=aS (blk_below BK.out hb);have HB1:=aS (below_step HB.out hb);clear BK HB hb;have BK:=BK1;have HB:=HB1;clear BK1 HB1;obtain⟨q0,q1,q2,q3,q4,q5⟩:w'2.cell? ⟨w.heap.size,0,none⟩=some (.int .i64 k)∧w'2.cell? ⟨w.heap.size,1,none⟩=some (.int .i64 r)∧w'2.cell? ⟨w.heap.size,2,none⟩=some (.int .i64 s)∧w'2.cell? ⟨w.heap.size,3,none⟩=some (.int .i64 t)∧w'2.cell? ⟨w.heap.size,4,none⟩=some (.int .i64 vk)∧w'2.cell? ⟨w.heap.size,5,none⟩=some (.int .i64 vn):=⟨(blk_cell BK.out 0).trans rfl,(blk_cell BK.out 1).trans rfl,(blk_cell BK.out 2).trans rfl,(blk_cell BK.out 3).trans rfl,(blk_cell BK.out 4).trans rfl,(blk_cell BK.out 5).trans rfl⟩)|(at_builtin;refine wpList_append_own _ rfl _ _ 74 rfl (w.heap.size+1) 77 i0 (.agg #[.int .i64 0,.nilFunc]) 2 16 Try.underlying74 hi_ hz0 hz1 hz2 rfl (by decide) _ _ _ rfl (World.ownsRow_nil _ _ _ _) ⟨_,0,none⟩ 1 1 [.int .i64 t,.func (.func 94) #[] #[]] rfl rfl (cell_two_at _ _ _ _ _ (by simp)) (by simp[Value.oneCell']) (by unfold maxLen;omega) (by omega) ?hb ?_;(case hb=>have:=blk_lt BK.out;first|(simp;omega)|simp);intro v'w2 w2 hown' hgrow _;obtain⟨BK1,HB1⟩:=arr_step BK.out HB.out (World.ownsRow_nil _ _ _ _) hgrow;have HO:=aS hown';clear BK HB hown' hgrow;have BK:=aS BK1;have HB:=aS HB1;clear BK1 HB1;obtain⟨q0,q1,q2,q3,q4,q5⟩:w2.cell? ⟨w.heap.size,0,none⟩=some (.int .i64 k)∧w2.cell? ⟨w.heap.size,1,none⟩=some (.int .i64 r)∧w2.cell? ⟨w.heap.size,2,none⟩=some (.int .i64 s)∧w2.cell? ⟨w.heap.size,3,none⟩=some (.int .i64 t)∧w2.cell? ⟨w.heap.size,4,none⟩=some (.int .i64 vk)∧w2.cell? ⟨w.heap.size,5,none⟩=some (.int .i64 vn):=⟨(blk_cell BK.out 0).trans rfl,(blk_cell BK.out 1).trans rfl,(blk_cell BK.out 2).trans rfl,(blk_cell BK.out 3).trans rfl,(blk_cell BK.out 4).trans rfl,(blk_cell BK.out 5).trans rfl⟩))
          all_goals go_ret
          all_goals exact⟨_,rfl,HO.out,BK.out,HB.out⟩
def waysL (l:List S29) (i:Nat):List (Int×Fl):=arrowsL l.length i (rd_T29 l i).f0 (rd_T29 l i).f3
def opCells (x:S29):Array Value:= #[.int .i64 x.f0,.int .i64 x.f1,.int .i64 x.f2,.int .i64 x.f3,.int .i64 x.f4.f0,.int .i64 x.f4.f1]
theorem impl_arrows (A0:Option Addr) (c0:Nat) (l0:List S29) (i:Nat) (w:World) (hr0:Kd.C k29 w A0 l0.length l0) (hi:i<l0.length) (hl:l0.length≤16):
    Calls Try.prog 77 #[.slice A0 l0.length c0,.int .i64 i] w fun e w'=> ∃v,e= .returned v∧w'.ownsRow (w.heap.size+1) 77 2 v (waysL l0 i).length (arrowCells w.heap.size (waysL l0 i))∧w'.heap[w.heap.size]?=some (.cells (opCells (rd_T29 l0 i)) 29 (0,0))∧Below w.heap.size w w':=by
  obtain⟨ad,e,x0,x1,x2,x3,x4,x5⟩:=at_T29 hr0 (i:Int) (by omega) (by omega)
  rw[Int.toNat_natCast]at x0 x1 x2 x3 x4 x5
  refine arrows_walk A0 c0 l0.length ad i hi hl e _ _ _ _ _ _ w (howR (rd_T29 l0 i).f0).f3 (hasT (rd_T29 l0 i).f0) (howR (rd_T29 l0 i).f0) ⟨rfl⟩ ⟨rfl⟩ x0 x1 x2 x3 x4 x5 ?_ rfl _ ⟨rfl⟩
  by_cases h9:(rd_T29 l0 i).f0=9
  · exact .inl ⟨h9,by rw[h9];rfl⟩
  by_cases h14:(rd_T29 l0 i).f0=14
  · exact .inr (.inl ⟨h14,by rw[h14];rfl⟩)
  exact .inr (.inr ⟨by simpa using h9,by simpa using h14⟩)
theorem ways_two (l:List S29) (i:Nat):(waysL l i).length≤2:=by
  unfold waysL arrowsL;rw[List.length_append];have h1: ∀ (a b c:Prop) [Decidable a] [Decidable b] (x:Int×Fl),(if a then []else if b then [x]else([]:List (Int×Fl))).length≤1:=fun a b c _ _ x=>by split<;>(try split)<;>simp
  have h2: ∀ (a b:Prop) [Decidable a] [Decidable b] (x y:Int×Fl),(if a then [x]else if b then [y]else([]:List (Int×Fl))).length≤1:=fun a b _ _ x y=>by split<;>(try split)<;>simp
  exact Nat.add_le_add (h1 _ _ True _) (h2 _ _ _ _)
theorem way_at {w:World} {base B:Nat} {v:Value} {L:List (Int×Fl)} (h:w.ownsRow base 77 2 v L.length (arrowCells B L)): ∃A c,v= .slice A L.length c∧(∀b,v.ownBlock=some b→base≤b∧b<w.heap.size)∧ ∀ (j:Nat) (hj:j<L.length),∃g,A=some ⟨g,0,none⟩∧base≤g∧g<w.heap.size∧w.cell? ⟨g,j*2,none⟩=some (.int .i64 L[j].1)∧w.cell? ⟨g,j*2+1,none⟩=some (L[j].2.val B):=by
  obtain⟨hlen,h⟩:=h;rcases h with ⟨rfl,h0⟩|⟨g,cap,cur,rfl,hg,hh,hc,hm,hs,ht⟩
  · exact⟨none,0,by rw[h0],fun b hb=>by simp[Value.ownBlock]at hb,fun j hj=>absurd hj (by omega)⟩
  · refine⟨_,cap,rfl,fun b hb=> ?_,fun j hj=>⟨g,rfl,hg,blk_lt hh,?_⟩⟩
    · have:g=b:=by simpa[Value.ownBlock]using hb
      subst this;exact⟨hg,blk_lt hh⟩
    have key: ∀q,q<2→(arrowCells B L)[j*2+q]?=some (if q=0 then .int .i64 L[j].1 else L[j].2.val B):=by
      intro q hq;clear ht hlen hs hc hh;unfold arrowCells;induction L generalizing j with
      |nil=>simp at hj
      |cons a L ih=>
        rw[List.flatMap_cons];cases j with
        |zero=>
          match q,hq with
          |0,_=>rfl
          |1,_=>rfl
        |succ j=>
          have:=ih j (by simpa using hj)
          rw[show(j+1)*2+q=(j*2+q)+2 by omega,List.getElem?_append_right (by simp)]
          simpa using this
    have cell: ∀q,q<2→w.cell? ⟨g,j*2+q,none⟩=(arrowCells B L)[j*2+q]?:=by
      intro q hq;rw[blk_cell hh,←ht,List.getElem?_take_of_lt (by omega),Array.getElem?_toList]
    refine⟨?_,?_⟩
    · have:=(cell 0 (by omega)).trans (key 0 (by omega));simpa using this
    · have:=(cell 1 (by omega)).trans (key 1 (by omega));simpa using this
def onceL (L:List (Int×Fl)):List Int:=L.foldl (fun out a=>if a.1∈out then out else out++ [a.1]) []
theorem once_snoc (L:List (Int×Fl)) (j:Nat) (hj:j<L.length):onceL (L.take (j+1))=if L[j].1∈onceL (L.take j)then onceL (L.take j)else onceL (L.take j)++ [L[j].1]:=by
  unfold onceL;rw[List.take_succ_eq_append_getElem hj,List.foldl_append];rfl
theorem val_func (B:Nat) (f:Fl): ∃ff lb,f.val B= .func (.func ff) #[] lb:=by cases f<;>exact⟨_,_,rfl⟩
theorem once_len (L:List (Int×Fl)) (j:Nat):(onceL (L.take j)).length≤j:=by
  induction j with
  |zero=>simp[onceL]
  |succ j ih=>
    by_cases h:j<L.length
    · rw[once_snoc L j h];split
      · omega
      · simp;omega
    · rw[List.take_of_length_le (by omega)];rw[List.take_of_length_le (by omega)]at ih;omega
end Go.Proofs.Ytmklpbmlgjkbiaa.PS
end
section
namespace Go.Proofs.Ytmklpbmlgjkbiaa.PS
def both (a x:Int):Int:=if a<0 then x else((a.toNat&&&x.toNat:Nat):Int)
def mu1 (a:Int):Nat:=if a<0 then 5 else a.toNat%2+a.toNat/2%2+a.toNat/4%2+a.toNat/8%2
def fours (P:Int→Bool):Bool:=(List.range 16).all fun i=>P i
theorem fours_all {P:Int→Bool} (h:fours P=true) {x:Int} (h0:0≤x) (h1:x≤15):P x=true:=by
  unfold fours at h;rw[List.all_eq_true]at h
  have:=h x.toNat (by simp;omega)
  rwa [Int.toNat_of_nonneg h0]at this
theorem both_range {a x:Int} (h0:0≤x) (h1:x≤15):0≤both a x∧both a x≤15:=by
  unfold both;split
  · exact⟨h0,h1⟩
  · have:a.toNat&&&x.toNat≤x.toNat:=Nat.and_le_right
    omega
theorem both_mu {a x:Int} (ha: -1≤a) (ha':a≤15) (h0:0≤x) (h1:x≤15):both a x=a∨mu1 (both a x)<mu1 a:=by
  by_cases h:a= -1
  · subst h
    right
    have:fours (fun x=>decide (mu1 (both (-1) x)<mu1 (-1)))=true:=by decide+kernel
    exact of_decide_eq_true (fours_all this h0 h1)
  · have:fours (fun a=>fours fun x=>decide (both a x=a∨mu1 (both a x)<mu1 a))=true:=by decide+kernel
    exact of_decide_eq_true (fours_all (fours_all this (by omega) ha') h0 h1)
abbrev Way:=Int×(Int→Int)
def at_ (o:List Int) (i:Int):Int:=o.getD i.toNat 0
def mergeW (i:Nat) (o:List Int) (a:Way):List Int:=o.set a.1.toNat (both (at_ o a.1) (a.2 (at_ o i)))
def stepW (W:Nat→List Way) (o:List Int) (i:Nat):List Int:=if at_ o i<0 then o else(W i).foldl (mergeW i) o
def passW (W:Nat→List Way) (n:Nat) (o:List Int):List Int:=(List.range n).foldl (stepW W) o
def mu (o:List Int):Nat:=(o.map mu1).sum
def GoodW (W:Nat→List Way) (n:Nat):Prop:= ∀i,i<n→ ∀a∈W i,0≤a.1∧a.1<n∧ ∀x,0≤x→x≤15→0≤a.2 x∧a.2 x≤15
def GoodO (n:Nat) (o:List Int):Prop:=o.length=n∧ ∀x∈o, -1≤x∧x≤15
theorem at_good {n:Nat} {o:List Int} (h:GoodO n o) (i:Int): -1≤at_ o i∧at_ o i≤15:=by
  unfold at_;rw[List.getD_eq_getElem?_getD];cases e:o[i.toNat]? with
  |none=>simp
  |some x=>exact h.2 x (List.mem_of_getElem? e)
theorem at_set_self {o:List Int} {i:Int} {x:Int} (h:i.toNat<o.length):at_ (o.set i.toNat x) i=x:=by
  unfold at_;simp[List.getD_eq_getElem?_getD,h]
theorem at_set_ne {o:List Int} {i j:Nat} {x:Int} (h:i≠j):at_ (o.set i x) j=at_ o j:=by
  unfold at_;simp[List.getD_eq_getElem?_getD,h]
theorem set_at {o:List Int} {i:Nat} :o.set i (at_ o i)=o:=by
  unfold at_;by_cases h:i<o.length
  · refine List.ext_getElem (by simp) fun j h1 h2=> ?_
    by_cases e:i=j
    · subst e;simp[List.getD_eq_getElem?_getD,h]
    · simp[e]
  · simp[List.set_eq_of_length_le (by omega:o.length≤i)]
theorem mu_set {o:List Int} {i:Nat} {x:Int} (h:i<o.length):mu (o.set i x)+mu1 (at_ o i)=mu o+mu1 x:=by
  induction o generalizing i with
  |nil=>simp at h
  |cons y o ih=>
    cases i with
    |zero=>simp[mu,at_];omega
    |succ i=>
      have:=ih (i:=i) (by simpa using h)
      simp[mu,at_]at this⊢;omega
def Down (o p:List Int):Prop:=p=o∨mu p<mu o
theorem Down.refl (o:List Int):Down o o:=.inl rfl
theorem Down.trans {o p q:List Int} (h:Down o p) (g:Down p q):Down o q:=by
  rcases h with rfl|h
  · exact g
  · rcases g with rfl|g
    · exact .inr h
    · exact .inr (by omega)
theorem Down.stay {o p q:List Int} (h:Down o p) (g:Down p q) (e:q=o):p=o∧q=p:=by
  rcases h with rfl|h
  · exact⟨rfl,e⟩
  · rcases g with rfl|g
    · subst e;omega
    · subst e;omega
theorem merge_good {W:Nat→List Way} {n i:Nat} {o:List Int} {a:Way} (hW:GoodW W n) (ho:GoodO n o) (hi:i<n) (ha:a∈W i) (h0:0≤at_ o i):
    GoodO n (mergeW i o a)∧Down o (mergeW i o a)∧0≤at_ (mergeW i o a) i:=by
  obtain⟨t0,t1,hf⟩:=hW i hi a ha;have hx:=hf _ h0 (at_good ho i).2;have hb:=both_range (a:=at_ o a.1) hx.1 hx.2;have hm:=both_mu (at_good ho a.1).1 (at_good ho a.1).2 hx.1 hx.2;refine⟨⟨by simp[mergeW,ho.1],fun x hx'=> ?_⟩,?_,?_⟩
  · rcases List.mem_or_eq_of_mem_set hx' with h|h
    · exact ho.2 x h
    · omega
  · have hs:=mu_set (o:=o) (i:=a.1.toNat) (x:=both (at_ o a.1) (a.2 (at_ o i))) (by rw[ho.1];omega)
    have e:at_ o (a.1.toNat:Int)=at_ o a.1:=by rw[Int.toNat_of_nonneg t0]
    rcases hm with hm|hm
    · left;unfold mergeW;rw[hm,←e];exact set_at
    · right;unfold mergeW;rw[e]at hs;omega
  · by_cases e:a.1.toNat=i
    · have:a.1=i:=by omega
      unfold mergeW;rw[←this,at_set_self (by rw[ho.1];omega)]
      rw[this]at hb⊢;omega
    · unfold mergeW;rw[at_set_ne e];exact h0
theorem merges_good {W:Nat→List Way} {n i:Nat} (hW:GoodW W n) (hi:i<n): ∀ (L:List Way),(∀a∈L,a∈W i)→ ∀o,GoodO n o→0≤at_ o i→
    GoodO n (L.foldl (mergeW i) o)∧Down o (L.foldl (mergeW i) o)∧0≤at_ (L.foldl (mergeW i) o) i
  | [],_,o,ho,h0=>⟨ho,.refl _,h0⟩
  |a::L,hL,o,ho,h0=>by
    obtain⟨g,d,z⟩:=merge_good hW ho hi (hL a (by simp)) h0
    obtain⟨g',d',z'⟩:=merges_good hW hi L (fun b hb=>hL b (by simp[hb])) _ g z
    exact⟨g',d.trans d',z'⟩
theorem step_good {W:Nat→List Way} {n i:Nat} {o:List Int} (hW:GoodW W n) (hi:i<n) (ho:GoodO n o):GoodO n (stepW W o i)∧Down o (stepW W o i):=by
  unfold stepW;split
  · exact⟨ho,.refl _⟩
  · obtain⟨g,d,_⟩:=merges_good hW hi (W i) (fun _ h=>h) o ho (by omega)
    exact⟨g,d⟩
theorem passes_good {W:Nat→List Way} {n:Nat} (hW:GoodW W n) {o:List Int} (ho:GoodO n o): ∀m,m≤n→GoodO n (passW W m o)∧Down o (passW W m o)
  |0,_=>⟨ho,.refl _⟩
  |m+1,hm=>by
    obtain⟨g,d⟩:=passes_good hW ho m (by omega)
    obtain⟨g',d'⟩:=step_good hW (i:=m) (by omega) g
    unfold passW;rw[List.range_succ,List.foldl_append];exact⟨g',d.trans d'⟩
theorem pass_succ (W:Nat→List Way) (m:Nat) (o:List Int):passW W (m+1) o=stepW W (passW W m o) m:=by
  unfold passW;rw[List.range_succ,List.foldl_append];rfl
def iterW (W:Nat→List Way) (n:Nat):Nat→List Int→List Int
  |0,o=>o
  |k+1,o=>iterW W n k (passW W n o)
def finW (W:Nat→List Way) (n:Nat) (o:List Int):List Int:=iterW W n (mu o) o
theorem iter_fix {W:Nat→List Way} {n:Nat} {o:List Int} (h:passW W n o=o): ∀k,iterW W n k o=o
  |0=>rfl
  |k+1=>by unfold iterW;rw[h];exact iter_fix h k
theorem iter_more {W:Nat→List Way} {n:Nat} (hW:GoodW W n): ∀ (m:Nat) (o:List Int),mu o≤m→GoodO n o→iterW W n m o=finW W n o∧passW W n (iterW W n m o)=iterW W n m o∧GoodO n (iterW W n m o)
  |0,o,hm,ho=>by
    have e:mu o=0:=by omega
    refine⟨by unfold finW;rw[e],?_,ho⟩
    rcases(passes_good hW ho n (Nat.le_refl n)).2 with h|h
    · exact h
    · omega
  |m+1,o,hm,ho=>by
    obtain⟨g,d⟩:=passes_good hW ho n (Nat.le_refl n);rcases d with h|h
    · exact⟨by unfold finW;rw[iter_fix h,iter_fix h],by rw[iter_fix h];exact h,by rw[iter_fix h];exact ho⟩
    · obtain⟨a,b,c⟩:=iter_more hW m (passW W n o) (by omega) g
      refine⟨?_,b,c⟩
      obtain⟨q,hq⟩: ∃q,mu o=q+1:=⟨mu o-1,by omega⟩
      have:=(iter_more hW q (passW W n o) (by omega) g).1
      show iterW W n m (passW W n o)=_
      unfold finW;rw[hq];show _=iterW W n q (passW W n o)
      rw[a,this]
  termination_by m=>m
theorem fin_pass {W:Nat→List Way} {n:Nat} (hW:GoodW W n) {o:List Int} (ho:GoodO n o):finW W n (passW W n o)=finW W n o:=by
  obtain⟨g,d⟩:=passes_good hW ho n (Nat.le_refl n);rcases d with h|h
  · rw[h]
  · obtain⟨a, -, -⟩:=iter_more hW (mu o-1) (passW W n o) (by omega) g
    obtain⟨b, -, -⟩:=iter_more hW (mu o) o (by omega) ho
    rw[←a,←b];obtain⟨q,hq⟩: ∃q,mu o=q+1:=⟨mu o-1,by omega⟩
    rw[hq];rfl
theorem fin_fix {W:Nat→List Way} {n:Nat} {o:List Int} (h:passW W n o=o):finW W n o=o:=iter_fix h _
theorem fin_good {W:Nat→List Way} {n:Nat} (hW:GoodW W n) {o:List Int} (ho:GoodO n o):passW W n (finW W n o)=finW W n o∧GoodO n (finW W n o):=
  (iter_more hW (mu o) o (Nat.le_refl _) ho).2
inductive Reach (W:Nat→List Way) (n:Nat):Int→Prop
  |first:Reach W n 0
  |next {i:Nat} {a:Way} :Reach W n i→i<n→a∈W i→Reach W n a.1
theorem fix_step {W:Nat→List Way} {n:Nat} (hW:GoodW W n) {o:List Int} (ho:GoodO n o) (h:passW W n o=o): ∀i,i<n→stepW W o i=o:=by
  have key: ∀m,m≤n→passW W m o=o:=by
    intro m hm
    have: ∀d,d≤n-m→Down (passW W m o) (passW W (m+d) o):=by
      intro d;induction d with
      |zero=>intro _;exact .refl _
      |succ d ih=>
        intro hd;refine(ih (by omega)).trans ?_
        rw[show m+(d+1)=(m+d)+1 by omega,pass_succ]
        exact(step_good hW (by omega) (passes_good hW ho (m+d) (by omega)).1).2
    have h2:=this (n-m) (Nat.le_refl _);rw[show m+(n-m)=n by omega]at h2
    exact((passes_good hW ho m hm).2.stay h2 h).1
  intro i hi;have h1:=key i (by omega)
  have h2:=key (i+1) (by omega)
  rw[pass_succ,h1]at h2
  exact h2
theorem fix_merge {W:Nat→List Way} {n i:Nat} (hW:GoodW W n) (hi:i<n): ∀ (L:List Way),(∀a∈L,a∈W i)→ ∀o,GoodO n o→0≤at_ o i→L.foldl (mergeW i) o=o→ ∀a∈L,mergeW i o a=o
  | [],_,o,_,_,_=>fun a h=>by simp at h
  |b::L,hL,o,ho,h0,h=>by
    obtain⟨g,d,z⟩:=merge_good hW ho hi (hL b (by simp)) h0
    obtain⟨g',d',z'⟩:=merges_good hW hi L (fun c hc=>hL c (by simp[hc])) _ g z
    have e:=d.stay d' h;intro a ha;rcases List.mem_cons.1 ha with rfl|ha
    · exact e.1
    · rw[List.foldl_cons,e.1]at h
      exact fix_merge hW hi L (fun c hc=>hL c (by simp[hc])) o ho h0 h a ha
theorem fix_way {W:Nat→List Way} {n i:Nat} (hW:GoodW W n) {o:List Int} (ho:GoodO n o) (h:passW W n o=o) (hi:i<n) (h0:0≤at_ o i) {a:Way} (ha:a∈W i):
    both (at_ o a.1) (a.2 (at_ o i))=at_ o a.1:=by
  have hs:=fix_step hW ho h i hi;unfold stepW at hs;rw[if_neg (by omega)]at hs
  have hm:=fix_merge hW hi (W i) (fun _ h=>h) o ho h0 hs a ha
  obtain⟨t0,t1,hf⟩:=hW i hi a ha;have:at_ (mergeW i o a) a.1=at_ o a.1:=by rw[hm]
  unfold mergeW at this;rwa [at_set_self (by rw[ho.1];omega)]at this
theorem fix_goes {W:Nat→List Way} {n i:Nat} (hW:GoodW W n) {o:List Int} (ho:GoodO n o) (h:passW W n o=o) (hi:i<n) (h0:0≤at_ o i) {a:Way} (ha:a∈W i):0≤at_ o a.1:=by
  have:=fix_way hW ho h hi h0 ha;obtain⟨t0,t1,hf⟩:=hW i hi a ha;have hx:=hf _ h0 (at_good ho i).2;have hb:=both_range (a:=at_ o a.1) hx.1 hx.2;omega
def Come (W:Nat→List Way) (n:Nat) (o:List Int):Prop:= ∀i:Nat,i<n→0≤at_ o i→Reach W n i
theorem merge_come {W:Nat→List Way} {n i:Nat} {o:List Int} {a:Way} (hW:GoodW W n) (ho:GoodO n o) (hi:i<n) (ha:a∈W i) (h0:0≤at_ o i) (hc:Come W n o):Come W n (mergeW i o a):=by
  obtain⟨t0,t1,hf⟩:=hW i hi a ha;intro j hj h;by_cases e:a.1.toNat=j
  · have:(j:Int)=a.1:=by omega
    rw[this];exact .next (hc i hi h0) hi ha
  · unfold mergeW at h;rw[at_set_ne e]at h;exact hc j hj h
theorem merges_come {W:Nat→List Way} {n i:Nat} (hW:GoodW W n) (hi:i<n): ∀ (L:List Way),(∀a∈L,a∈W i)→ ∀o,GoodO n o→0≤at_ o i→Come W n o→Come W n (L.foldl (mergeW i) o)
  | [],_,o,_,_,hc=>hc
  |a::L,hL,o,ho,h0,hc=>by
    obtain⟨g,d,z⟩:=merge_good hW ho hi (hL a (by simp)) h0
    exact merges_come hW hi L (fun b hb=>hL b (by simp[hb])) _ g z (merge_come hW ho hi (hL a (by simp)) h0 hc)
theorem pass_come {W:Nat→List Way} {n:Nat} (hW:GoodW W n) {o:List Int} (ho:GoodO n o) (hc:Come W n o): ∀m,m≤n→Come W n (passW W m o)
  |0,_=>hc
  |m+1,hm=>by
    have ih:=pass_come hW ho hc m (by omega)
    have g:=(passes_good hW ho m (by omega)).1
    rw[pass_succ];unfold stepW;split
    · exact ih
    · exact merges_come hW (by omega) _ (fun _ h=>h) _ g (by omega) ih
theorem iter_come {W:Nat→List Way} {n:Nat} (hW:GoodW W n): ∀k (o:List Int),GoodO n o→Come W n o→Come W n (iterW W n k o)
  |0,o,_,hc=>hc
  |k+1,o,ho,hc=>iter_come hW k _ (passes_good hW ho n (Nat.le_refl n)).1 (pass_come hW ho hc n (Nat.le_refl n))
def startO (n:Nat):List Int:=(List.replicate n (-1)).set 0 1
theorem start_good (n:Nat):GoodO n (startO n):=by
  refine⟨by simp[startO],fun x hx=> ?_⟩
  rcases List.mem_or_eq_of_mem_set hx with h|h
  · have:=(List.mem_replicate.1 h).2;omega
  · omega
theorem start_come (W:Nat→List Way) (n:Nat):Come W n (startO n):=by
  intro i hi h;by_cases e:0=i
  · subst e;exact .first
  · unfold startO at h;rw[at_set_ne e]at h
    simp[at_,List.getD_eq_getElem?_getD,hi]at h
def fullW (W:Nat→List Way) (n:Nat):List Int:=finW W n (startO n)
theorem full_good {W:Nat→List Way} {n:Nat} (hW:GoodW W n):GoodO n (fullW W n):=(fin_good hW (start_good n)).2
theorem full_fix {W:Nat→List Way} {n:Nat} (hW:GoodW W n):passW W n (fullW W n)=fullW W n:=(fin_good hW (start_good n)).1
theorem merge_first {W:Nat→List Way} {n i:Nat} {o:List Int} {a:Way} (hW:GoodW W n) (ho:GoodO n o) (hi:i<n) (ha:a∈W i) (h0:0≤at_ o i) (hc:0≤at_ o 0∧at_ o 0≤1):0≤at_ (mergeW i o a) 0∧at_ (mergeW i o a) 0≤1:=by
  obtain⟨t0,t1,hf⟩:=hW i hi a ha;by_cases e:a.1.toNat=0
  · have e':a.1=0:=by omega
    unfold mergeW;rw[e',at_set_self (by rw[ho.1];omega)]
    unfold both;rw[if_neg (by omega)]
    have:(at_ o 0).toNat&&&(a.2 (at_ o i)).toNat≤(at_ o 0).toNat:=Nat.and_le_left;omega
  · unfold mergeW
    have:=at_set_ne (o:=o) (j:=0) (x:=both (at_ o a.1) (a.2 (at_ o i))) e;rw[show((0:Nat):Int)=0 from rfl]at this
    rw[this];exact hc
theorem full_first {W:Nat→List Way} {n:Nat} (hW:GoodW W n) (hn:0<n):0≤at_ (fullW W n) 0∧at_ (fullW W n) 0≤1:=by
  have merges: ∀i,i<n→ ∀ (L:List Way),(∀a∈L,a∈W i)→ ∀o,GoodO n o→0≤at_ o i→(0≤at_ o 0∧at_ o 0≤1)→0≤at_ (L.foldl (mergeW i) o) 0∧at_ (L.foldl (mergeW i) o) 0≤1:=by
    intro i hi L;induction L with
    |nil=>intro _ o _ _ hc;exact hc
    |cons a L ih=>
      intro hL o ho h0 hc;obtain⟨g,d,z⟩:=merge_good hW ho hi (hL a (by simp)) h0
      exact ih (fun b hb=>hL b (by simp[hb])) _ g z (merge_first hW ho hi (hL a (by simp)) h0 hc)
  have pass: ∀o,GoodO n o→(0≤at_ o 0∧at_ o 0≤1)→ ∀m,m≤n→0≤at_ (passW W m o) 0∧at_ (passW W m o) 0≤1:=by
    intro o ho hc m;induction m with
    |zero=>intro _;exact hc
    |succ m ih=>
      intro hm;have g:=(passes_good hW ho m (by omega)).1
      rw[pass_succ];unfold stepW;split
      · exact ih (by omega)
      · exact merges m (by omega) _ (fun _ h=>h) _ g (by omega) (ih (by omega))
  have iter: ∀k o,GoodO n o→(0≤at_ o 0∧at_ o 0≤1)→0≤at_ (iterW W n k o) 0∧at_ (iterW W n k o) 0≤1:=by
    intro k;induction k with
    |zero=>intro o _ hc;exact hc
    |succ k ih=>intro o ho hc;exact ih _ (passes_good hW ho n (Nat.le_refl n)).1 (pass o ho hc n (Nat.le_refl n))
  refine iter _ _ (start_good n) ?_
  unfold startO;rw[show at_ ((List.replicate n (-1)).set 0 1) 0=1 from at_set_self (i:=0) (by simpa using hn)];omega
theorem full_reach {W:Nat→List Way} {n:Nat} (hW:GoodW W n) (hn:0<n) {i:Int} :(0≤i∧i<n∧0≤at_ (fullW W n) i) ↔ Reach W n i:=by
  constructor
  · rintro⟨h0,h1,h2⟩
    have:=iter_come hW (mu (startO n)) _ (start_good n) (start_come W n) i.toNat (by omega)
    rw[Int.toNat_of_nonneg h0]at this
    exact this h2
  · intro h
    induction h with
    |first=>exact⟨by omega,by omega,(full_first hW hn).1⟩
    |next _ hi ha ih=>
      obtain⟨t0,t1,hf⟩:=hW _ hi _ ha;exact⟨t0,t1,fix_goes hW (full_good hW) (full_fix hW) hi ih.2.2 ha⟩
end Go.Proofs.Ytmklpbmlgjkbiaa.PS
end
section
namespace Go.Proofs.Ytmklpbmlgjkbiaa.PS
open Go.RowKit Go.Proofs.YtmklpbmlgjkbiaaW.PrintWords Go.Proofs.YtmklpbmlgjkbiaaW.PrintLast
theorem flow_same (x:Int) (w:World):Calls Try.prog 94 #[.int .i64 x] w fun e w'=>e= .returned (.int .i64 x)∧w=w':=by
  go_enter Try.func94,Try.ntmps94
  go_wp2
  go_ret
  exact⟨rfl,rfl⟩
theorem flow_one (x:Int) (w:World):Calls Try.prog 96 #[.int .i64 x] w fun e w'=>e= .returned (.int .i64 1)∧w=w':=by
  go_enter Try.func96,Try.ntmps96
  go_wp2
  go_ret
  exact⟨rfl,rfl⟩
def orBit (x r:Int):Int:=bits BinOp.or IntKind.i64 x (wrap64 (2^r.toNat))
theorem orBit_range {x r:Int} (hx:0≤x) (hx2:x≤15) (hr:0≤r) (hr2:r≤3):0≤orBit x r∧orBit x r≤15:=by
  have:fours (fun x=>fours fun r=>decide (r≤3→0≤orBit x r∧orBit x r≤15))=true:=by decide+kernel
  exact of_decide_eq_true (fours_all (fours_all this hx hx2) hr (by omega)) hr2
theorem flow_fill (x r:Int) (hr:0≤r) (hr2:r≤3) (B:Nat) (w:World) (hB:w.cell? ⟨B,1,none⟩=some (.int .i64 r)):Calls Try.prog 95 #[.int .i64 x,.pointer (some ⟨B,0,none⟩)] w fun e w'=>e= .returned (.int .i64 (orBit x r))∧w=w':=by
  go_enter Try.func95,Try.ntmps95
  go_wp2
  go_ret
  exact⟨rfl,rfl⟩
def flF (f:Fl) (r x:Int):Int:=
  match f with
  | .same=>x
  | .fill=>orBit x r
  | .one=>1
theorem flow_any (f:Fl) (r x:Int) (hf:f= .fill→0≤r∧r≤3) (B:Nat) (w:World) (hB:w.cell? ⟨B,1,none⟩=some (.int .i64 r)) (ff:Nat) (lb:Array Value) (he:f.val B= .func (.func ff) #[] lb):
    Calls Try.prog ff (#[.int .i64 x]++lb) w fun e w'=>e= .returned (.int .i64 (flF f r x))∧w=w':=by
  cases f<;>(simp[Fl.val]at he;obtain⟨rfl,rfl⟩:=he)
  · exact flow_same x w
  · exact flow_fill x r (hf rfl).1 (hf rfl).2 B w hB
  · exact flow_one x w
theorem flow_enter (f:Fl) (B:Nat) (ff:Nat) (lb:Array Value) (he:f.val B= .func (.func ff) #[] lb): ∀args w,(callFunc ff args).run Try.prog w= .ok (.enter ff args) w:=by
  cases f<;>(simp[Fl.val]at he;obtain⟨rfl,rfl⟩:=he)
  · exact fun _ _=>by kernel_rfl
  · exact fun _ _=>by kernel_rfl
  · exact fun _ _=>by kernel_rfl
theorem and_both {a x:Int} (ha: -1≤a) (ha':a≤15) (h0:0≤x) (h1:x≤15):bits BinOp.and IntKind.i64 a x=both a x:=by
  by_cases h:a= -1
  · subst h
    have:fours (fun x=>decide (bits BinOp.and IntKind.i64 (-1) x=both (-1) x))=true:=by decide+kernel
    exact of_decide_eq_true (fours_all this h0 h1)
  · have:fours (fun a=>fours fun x=>decide (bits BinOp.and IntKind.i64 a x=both a x))=true:=by decide+kernel
    exact of_decide_eq_true (fours_all (fours_all this (by omega) ha') h0 h1)
def wayW (l:List S29) (i:Nat):List Way:=(waysL l i).map fun a=>(a.1,flF a.2 (rd_T29 l i).f1)
def fullL (l:List S29):List Int:=fullW (wayW l) l.length
def fullV.f (l:List S29):Option (List Int):=if codeB l=true then some (fullL l)else none
theorem code_len {l:List S29} (h:codeB l=true):1≤l.length∧l.length≤16:=by
  unfold codeB at h;simp at h;omega
theorem code_op {l:List S29} (h:codeB l=true) {i:Nat} (hi:i<l.length):opP l[i].f0 l[i].f1 l[i].f2 l[i].f3 l[i].f4.f0 l[i].f4.f1∧(hasT l[i].f0=true→l[i].f3<l.length):=by
  have h2:l.any (wrongB l.length)=false:=by unfold codeB at h;simp only[Bool.and_eq_true,Bool.not_eq_true']at h;exact h.2
  have:=List.any_eq_false.1 h2 l[i] (List.getElem_mem hi);unfold wrongB opS at this;simp only[Bool.or_eq_true,Bool.not_eq_true',Bool.and_eq_true,decide_eq_true_eq,not_or]at this
  refine⟨opB_true.1 (by simpa using this.1),fun ht=> ?_⟩
  have:=this.2;simp[ht]at this;omega
theorem fills_has {k:Int} :(howR k).f3=true→hasR k=true:=
  kinds (P:=fun k=>(howR k).f3=true→hasR k=true) (fun k hk=>by unfold howR;rw[if_neg hk];intro h;cases h) (by decide) (by decide) (by decide) (by decide) (by decide) (by decide) (by decide) (by decide) (by decide) (by decide) (by decide) (by decide) (by decide) (by decide) k
theorem rd29_get {l:List S29} {i:Nat} (h:i<l.length):rd_T29 l (i:Int)=l[i]:=by
  unfold rd_T29;simp[List.getD_eq_getElem?_getD,List.getElem?_eq_getElem h]
theorem code_way {l:List S29} (h:codeB l=true) {i:Nat} (hi:i<l.length) {a:Int×Fl} (ha:a∈waysL l i):0≤a.1∧a.1<l.length∧(a.2= .fill→0≤(rd_T29 l i).f1∧(rd_T29 l i).f1≤3):=by
  obtain⟨⟨h1,h2,h3,h4,h5,h6⟩,ht⟩:=code_op h hi;unfold waysL arrowsL at ha;rw[rd29_get hi]at ha⊢
  rcases List.mem_append.1 ha with ha|ha
  · split at ha
    · cases ha
    · split at ha
      · obtain rfl:=List.mem_singleton.1 ha
        refine⟨by simp;omega,by simp;omega,fun hf=> ?_⟩
        have hh:(howR l[i].f0).f3=true:=by
          by_cases e:(howR l[i].f0).f3=true
          · exact e
          · simp[e]at hf
        rcases h3 with h3|h3
        · omega
        · exact h3.2
      · cases ha
  · have tt:hasT l[i].f0=true→0≤l[i].f3:=fun h=>by omega
    split at ha
    · rename_i h5'
      obtain rfl:=List.mem_singleton.1 ha;have h6:hasT l[i].f0=true:=by rw[h5'];rfl
      exact⟨tt h6,ht h6,fun hf=>by cases hf⟩
    · split at ha
      · rename_i h6
        obtain rfl:=List.mem_singleton.1 ha;exact⟨tt h6,ht h6,fun hf=>by cases hf⟩
      · cases ha
theorem wayW_good {l:List S29} (h:codeB l=true):GoodW (wayW l) l.length:=by
  intro i hi a ha;obtain⟨b,hb,rfl⟩:=List.mem_map.1 ha;obtain⟨h0,h1,h2⟩:=code_way h hi hb;refine⟨h0,h1,fun x hx hx2=> ?_⟩
  obtain⟨t,f⟩:=b;cases f with
  |same=>exact⟨hx,hx2⟩
  |fill=>exact orBit_range hx hx2 (h2 rfl).1 (h2 rfl).2
  |one=>exact⟨by show(0:Int)≤1;decide,by show(1:Int)≤15;decide⟩
def RI (w:World) (g n c:Nat) (out:List Int) (wr:World):Prop:=Kd.R (Kd.int .i64) 3 wr w.heap.size (fun _=>True) (.slice (some ⟨g,0,none⟩) n c) out∧Below w.heap.size w wr
theorem ri_len {w:World} {g n c:Nat} {out:List Int} {wr:World} (h:RI w g n c out wr):out.length=n:=(Kd.R_reads' h.1).1.symm
theorem ri_cell {w:World} {g n c:Nat} {out:List Int} {wr:World} (h:RI w g n c out wr) (i:Int) (h0:0≤i) (h1:i<n):wr.cell? ⟨g,i.toNat,none⟩=some (.int .i64 (at_ out i))∧wr.frozen? ⟨g,i.toNat,none⟩=false:=Kd.R_celln 0 h.1 i h0 h1
theorem ri_set {w:World} {g n c:Nat} {out:List Int} {wr:World} (h:RI w g n c out wr) (i:Int) (x:Int):RI w g n c (out.set i.toNat x) (wr.setCell ⟨g,i.toNat,none⟩ (.int .i64 x)):=by
  have hg:w.heap.size≤g:=Kd.R_base h.1 g (by simp[Value.ownBlock])
  exact⟨(Kd.R_putg h.1 i x).1,below_set h.2 hg⟩
theorem ri_below {w:World} {g n c:Nat} {out:List Int} {wr w2:World} (h:RI w g n c out wr) (hb:Below wr.heap.size wr w2):RI w g n c out w2:=⟨Kd.R_below h.1 hb,below_step h.2 hb⟩
theorem ri_lt {w:World} {g n c:Nat} {out:List Int} {wr:World} (h:RI w g n c out wr):w.heap.size≤g∧g<wr.heap.size:=⟨Kd.R_base h.1 g (by simp[Value.ownBlock]),Kd.R_lt h.1 g (by simp[Value.ownBlock])⟩
theorem ri_store {ops:Array Oper} {rest:List Oper} {o:Oper} {a:Act} {Q:Exit→Act→World→Prop} {w W:World} {g n c:Nat} {out:List Int} (hN:o.dst=none) (hgd:o.guard=none) (p v:Operand) (ho:o.op= .store 3 p v) (i x:Int) {o':Nat}
    (haddr:a.eval p= .pointer (some ⟨g,o',none⟩)) (hoff:o'=i.toNat) (hx:a.eval v= .int .i64 x) (HR:RI w g n c out W) (h0:0≤i) (h1:i<n)
    (h: ∀w1,RI w g n c (out.set i.toNat x) w1→W.grownBy w1 (some g)→wpList Try.prog ops Q rest a w1):wpList Try.prog ops Q (o::rest) a W:=by
  have hc:=(ri_cell HR i h0 h1).1;refine Kd.R_store (Kd.int .i64) w.heap.size hN hgd 3 p v ho 3 i 0 out x (.int .i64 x) [.int .i64 x] [.int .i64 (at_ out i)] (fun _=>True) (fun _=>False) haddr (by rw[hoff];show i.toNat=i.toNat*1+0;omega) hx rfl (by kernel_rfl) (by simp[Value.oneCell']) HR.1 h0 h1 rfl ?_ (by show 0+1≤1;omega) rfl (fun k hk=>hk.elim) HR.2 ?_
  · intro j u hu
    cases j with
    |zero=>
      have e:u= .int .i64 (at_ out i):=by simpa using hu.symm
      rw[e];show W.cell? ⟨g,i.toNat*1+0,none⟩=_
      rw[show i.toNat*1+0=i.toNat by omega]
      exact hc
    |succ j=>simp at hu
  · intro w1 k1 k2 k3
    exact h w1 ⟨k1,k2⟩ k3
def But (w1 wr:World) (g:Nat):Prop:=w1.heap.size≤wr.heap.size∧ ∀b,b<w1.heap.size→b≠g→wr.heap[b]?=w1.heap[b]?
theorem but_below {w1 wr w2:World} {g:Nat} (h:But w1 wr g) (hb:Below wr.heap.size wr w2):But w1 w2 g:=⟨Nat.le_trans h.1 hb.size,fun b h1 h2=>(hb.block b (Nat.lt_of_lt_of_le h1 h.1)).trans (h.2 b h1 h2)⟩
theorem but_grown {w1 wr w2:World} {g:Nat} (h:But w1 wr g) (hg:wr.grownBy w2 (some g)):But w1 w2 g:=⟨Nat.le_trans h.1 hg.size,fun b h1 h2=>(hg.block b (Nat.lt_of_lt_of_le h1 h.1) (fun e=>h2 (by injection e))).trans (h.2 b h1 h2)⟩
def PB (l:List S29) (w:World) (g c0:Nat) (o:List Int) (c:Bool) (wr:World):Prop:=
  GoodO l.length o∧finW (wayW l) l.length o=fullL l∧(c=false→passW (wayW l) l.length o=o)∧RI w g l.length c0 o wr
def PC (l:List S29) (w:World) (g c0:Nat) (o:List Int) (j:Nat) (c:Bool) (wr:World):Prop:=
  c=decide (mu (passW (wayW l) j o)<mu o)∧RI w g l.length c0 (passW (wayW l) j o) wr
def PD (l:List S29) (w:World) (g c0:Nat) (o:List Int) (j m:Nat) (c:Bool) (w1 wr:World):Prop:=
  c=decide (mu (((wayW l j).take m).foldl (mergeW j) (passW (wayW l) j o))<mu o)∧RI w g l.length c0 (((wayW l j).take m).foldl (mergeW j) (passW (wayW l) j o)) wr∧But w1 wr g
theorem full_walk (A0:Option Addr) (c0:Nat) (l0:List S29) (w:World) (hr0:Kd.C k29 w A0 l0.length l0) (hg:codeB l0=true):
    Calls Try.prog 80 #[.slice A0 l0.length c0] w fun e w'=> ∃v,e= .returned v∧Kd.R (Kd.int .i64) 3 w' w.heap.size (fun _=>True) v (fullL l0)∧Below w.heap.size w w':=by
  obtain⟨hl1,hl2⟩:=code_len hg;have HG:=aS hg;have HR0:=aS hr0;clear hg hr0;obtain⟨n,hn0⟩: ∃n,n=l0.length:=⟨_,rfl⟩;rw[←hn0]at hl1 hl2⊢
  have hn:=aS hn0;clear hn0;have hn0:(0:Int)<(n:Int):=by omega
  have hnn:0<n:=by omega
  go_enter Try.func80,Try.ntmps80
  go_wp2_with (first|((with_reducible refine gate_dst (N:=12) rfl ?_);refine Kd.R_make (Kd.int .i64) _ 3 rfl (N:=12) rfl 32 _ _ rfl (n:Int) rfl rfl Try.underlying32 (.int .i64 0) 8 info3 rfl (by decide) (by omega) 0 (ok:=fun _=>True) (okp:=fun _=>True) rfl (fun _ hk=>hk) trivial (by omega) (by omega) (Below.refl _ _) (Nat.le_refl _) ?_;intro v1 w1 ho5 hb hg_ hnew_;clear hg_ hnew_;rw[Int.toNat_natCast]at ho5;obtain⟨g,c,eg,gb,gl,hh⟩:=Kd.R_form ho5 (by rw[List.length_replicate];exact hnn);rw[List.length_replicate]at eg;subst eg;have H1:Aside0 (RI w g n c (List.replicate n 0) w1):=⟨ho5,hb⟩;clear ho5 hb gb gl hh))
  go_loopg [15] n (fun gg s15 wr=> ∃k:Nat,k≤n∧n-k≤gg∧s15= .int .i64 (k:Int)∧Aside0 (RI w g n c (List.replicate k (-1)++List.replicate (n-k) 0) wr))
  case atStart=>exact⟨0,Nat.zero_le _,by omega,rfl,by simpa using H1⟩
  case round=>
    clear H1;obtain⟨k,hk,hgg,rfl,H1⟩:=hrel;by_cases hlt:k<n
    · have hltz:(k:Int)<(n:Int):=by omega
      have h0z:(0:Int)≤(k:Int):=by omega
      obtain⟨x0,x1⟩:=ri_cell H1.out (k:Int) h0z hltz;rw[Int.toNat_natCast]at x0 x1
      have H2:Aside0 (RI w g n c (List.replicate (k+1) (-1)++List.replicate (n- (k+1)) 0) (wr.setCell ⟨g,k,none⟩ (.int .i64 (-1)))):=⟨by
        have:=ri_set H1.out (k:Int) (-1);rw[Int.toNat_natCast]at this
        have e:(List.replicate k (-1)++List.replicate (n-k) (0:Int)).set k (-1)=List.replicate (k+1) (-1)++List.replicate (n- (k+1)) 0:=by
          rw[List.set_append_right _ _ (by simp),List.length_replicate,Nat.sub_self,show n-k=(n- (k+1))+1 by omega,List.replicate_succ,List.set_cons_zero,List.replicate_succ',List.append_assoc]
          rfl
        rw[←e];exact this⟩
      go_wp2
      go_roundg (n- (k+1))
      case measure=>omega
      case rel=>exact⟨k+1,by omega,by omega,by go_num,H2⟩
    · have hltz: ¬(k:Int)<(n:Int):=by omega
      obtain rfl:k=n:=by omega
      go_wp2_with (first|((with_reducible refine gate_store (t:=3) (p:=23) rfl ?_);refine ri_store rfl rfl (.tmp 23) _ rfl 0 1 rfl rfl rfl H1.out (by omega) (by omega) ?_;intro w2 h2 _;have H2:Aside0 (RI w g k c (startO k) w2):=(by have e:(List.replicate k (-1)++List.replicate (k-k) (0:Int)).set (Int.toNat 0) 1=startO k:=(by simp[startO]);rw[←e];exact⟨h2⟩);clear h2 H1))
      have hl0:=hn.out;subst hl0;obtain⟨n,hn⟩: ∃n,n=l0.length:=⟨_,rfl⟩;have HS:Aside0 (PB l0 w g c (startO l0.length) true w2):=⟨start_good _,rfl,(fun h=>by cases h),H2.out⟩
      have hM:=Nat.le_refl (mu (startO l0.length)+1);obtain⟨M,hM0⟩: ∃M,M=mu (startO l0.length)+1:=⟨_,rfl⟩;rw[←hM0]at hM
      go_loopg [5] M (fun gg s5 wr=> ∃ (o:List Int) (c5:Bool),s5= .bool c5∧mu o+c5.toNat≤gg∧Aside0 (PB l0 w g c o c5 wr))
      case atStart=>exact⟨startO l0.length,true,rfl,by rw[hM0];exact Nat.le_refl _,HS⟩
      case round=>
        clear HS hM0 hM H2;obtain⟨o,c5,rfl,hgg,HS⟩:=hrel;cases c5 with
        |false=>
          go_wp2
          go_ret
          obtain⟨k1,k2,k3,k4⟩:=HS.out;have e:o=fullL l0:=by rw[←k2,fin_fix (k3 rfl)]
          rw[←e];exact⟨_,rfl,k4.1,k4.2⟩
        |true=>
          obtain⟨wo,hwo⟩: ∃wo:World,wo=wr:=⟨_,rfl⟩;subst hwo;obtain⟨gB,hgB⟩: ∃gB:Nat,gB=gk:=⟨_,rfl⟩;subst hgB;go_wp2
          have HC0:Aside0 (PC l0 w g c o 0 false wo):=⟨by obtain⟨k1,k2,k3,k4⟩:=HS.out;exact⟨by simp[passW],k4⟩⟩
          go_loopg [5,27] l0.length (fun gg s5 s27 wr=> ∃ (j:Nat) (c5:Bool),j≤l0.length∧l0.length-j≤gg∧s27= .int .i64 (j:Int)∧s5= .bool c5∧Aside0 (PC l0 w g c o j c5 wr))
          case atStart=>exact⟨0,false,Nat.zero_le _,Nat.sub_le _ _,rfl,rfl,HC0⟩
          case round=>
            clear HC0;obtain⟨j,c5,hj,hgg2,rfl,rfl,HC⟩:=hrel;by_cases hlt:j<l0.length
            · have hltz:(j:Int)<(l0.length:Int):=by omega
              have h0z:(0:Int)≤(j:Int):=by omega
              obtain⟨x0, -⟩:=ri_cell HC.out.2 (j:Int) h0z hltz;rw[Int.toNat_natCast]at x0
              obtain⟨x,hx⟩: ∃x,x=at_ (passW (wayW l0) j o) j:=⟨_,rfl⟩;rw[←hx]at x0
              by_cases hneg:x<0
              · have HC2 : Aside0 (PC l0 w g c o (j + 1) c5 wr) := ⟨by
                  have e:passW (wayW l0) (j+1) o=passW (wayW l0) j o:=by rw[pass_succ];unfold stepW;rw[if_pos (by rw[←hx];exact hneg)]
                  unfold PC;rw[e];exact HC.out⟩
                clear hx HC;go_wp2
                go_roundg (l0.length- (j+1))
                case measure=>omega
                case rel=>exact⟨j+1,c5,by omega,by omega,by go_num,rfl,HC2⟩
              · have hx1:=aS hx
                have hng:=aS hneg;have hneg0:decide (x<0)=false:=decide_eq_false hneg;have hAr:=impl_arrows A0 c0 l0 j wr (Kd.C_below HR0.out HC.out.2.2) hlt hl2;clear hx hneg;obtain⟨wc,hwc⟩: ∃wc:World,wc=wr:=⟨_,rfl⟩;subst hwc;obtain⟨gC,hgC⟩: ∃gC:Nat,gC=gk:=⟨_,rfl⟩;subst hgC;go_wp2_with (go_at_call 77;refine hAr.mono ?_;rintro e w3 ⟨v,rfl,hown,hbox,hb1⟩;obtain⟨A,ca,rfl,hA,hcells⟩:=way_at hown)
                have HD0:Aside0 (PD l0 w g c o j 0 c5 w3 w3):=⟨⟨HC.out.1,ri_below HC.out.2 hb1,Nat.le_refl _,fun _ _ _=>rfl⟩⟩
                have hBox:=blk_cell hbox 1;have hgl:=(ri_lt HC.out.2).2;have HF:=aS (fun (m:Nat) (hm:m<(waysL l0 j).length)=>code_way HG.out hlt (List.getElem_mem hm))
                have h3:=aS hb1.size;have hlb:=aS (blk_lt hbox);have h2w:=ways_two l0 j;clear hAr hown hbox hb1 hA;have HCells:=aS hcells;have HBox:=aS hBox;clear hcells hBox x0;go_loopg [5,39] (waysL l0 j).length (fun gg s5 s39 wr=> ∃ (m:Nat) (c5:Bool),m≤(waysL l0 j).length∧(waysL l0 j).length-m≤gg∧s39= .int .i64 (m:Int)∧s5= .bool c5∧Aside0 (PD l0 w g c o j m c5 w3 wr))
                case atStart=>exact⟨0,c5,Nat.zero_le _,Nat.sub_le _ _,rfl,rfl,HD0⟩
                case round=>
                  clear HD0;obtain⟨m,d5,hm,hgg3,rfl,rfl,HD⟩:=hrel;by_cases hmt:m<(waysL l0 j).length
                  · have hmtz:(m:Int)<((waysL l0 j).length:Int):=by omega
                    have h0m:(0:Int)≤(m:Int):=by omega
                    obtain⟨g2,rfl,hg1,hg2,y0,y1⟩:=HCells.out m hmt;obtain⟨ht0,ht1,hfl⟩:=HF.out m hmt;obtain⟨D1,D2,D3,D4⟩:=HD.out
                    have tr: ∀ (b k:Nat) (u:Value),b<w3.heap.size→b≠g→w3.cell? ⟨b,k,none⟩=some u→wr.cell? ⟨b,k,none⟩=some u:=fun b k u h1 h2 h3=>by
                      rw[←h3];simp only[World.cell?,D4 b h1 h2]
                    replace y0:=tr _ _ _ hg2 (by omega) y0
                    replace y1:=tr _ _ _ hg2 (by omega) y1
                    have yB:=tr _ _ _ hlb.out (by omega) (show w3.cell? ⟨wc.heap.size,1,none⟩=some (.int .i64 (rd_T29 l0 j).f1)from HBox.out)
                    obtain⟨q,hq0⟩: ∃q,q=((wayW l0 j).take m).foldl (mergeW j) (passW (wayW l0) j o):=⟨_,rfl⟩;rw[←hq0]at D1 D2
                    have hwm:m<(wayW l0 j).length:=by simp[wayW];exact hmt
                    have hway:(wayW l0 j)[m]=((waysL l0 j)[m].1,flF (waysL l0 j)[m].2 (rd_T29 l0 j).f1):=by simp[wayW]
                    have hq1:((wayW l0 j).take (m+1)).foldl (mergeW j) (passW (wayW l0) j o)=mergeW j q (wayW l0 j)[m]:=by
                      rw[List.take_succ_eq_append_getElem hwm,List.foldl_append,←hq0];rfl
                    obtain⟨gp,dp⟩:=passes_good (wayW_good HG.out) HS.out.1 j (by omega)
                    obtain⟨gq,dq,zq⟩:=merges_good (wayW_good HG.out) hlt ((wayW l0 j).take m) (fun _ h=>List.mem_of_mem_take h) _ gp (by rw[←hx1.out];have:=hng.out;omega)
                    rw[←hq0]at gq dq zq
                    obtain⟨gq2,dq2, -⟩:=merge_good (wayW_good HG.out) gq hlt (List.getElem_mem hwm) zq;have hmu1:=(dp.trans dq);rw[hway]at gq2 dq2 hq1
                    obtain⟨to_,hto⟩: ∃x,x=(waysL l0 j)[m].1:=⟨_,rfl⟩;obtain⟨f,hf⟩: ∃x,x=(waysL l0 j)[m].2:=⟨_,rfl⟩;obtain⟨rr,hrr⟩: ∃x,x=(rd_T29 l0 j).f1:=⟨_,rfl⟩;rw[←hto]at y0 ht0 ht1 gq2 dq2 hq1
                    rw[←hf]at y1 hfl gq2 dq2 hq1
                    rw[←hrr]at yB hfl gq2 dq2 hq1
                    obtain⟨ff,lb,hfn⟩:=val_func wc.heap.size f;rw[hfn]at y1
                    obtain⟨u,hu⟩: ∃u,u=at_ q j:=⟨_,rfl⟩;obtain⟨z,hz⟩: ∃z,z=at_ q to_:=⟨_,rfl⟩;obtain⟨v0, -⟩:=ri_cell D2 (j:Int) h0z hltz;obtain⟨v1,v2⟩:=ri_cell D2 to_ ht0 ht1;rw[Int.toNat_natCast,←hu]at v0
                    rw[←hz]at v1
                    have hu15:=(at_good gq j).2;have hz15:=at_good gq to_;rw[←hu]at zq hu15
                    rw[←hz]at hz15
                    have hfr:0≤flF f rr u∧flF f rr u≤15:=by
                      have:=(wayW_good HG.out j hlt _ (List.getElem_mem hwm)).2.2 u zq hu15;rw[hway,←hf,←hrr]at this
                      exact this
                    have hand:=and_both hz15.1 hz15.2 hfr.1 hfr.2;have hcall:=fun (W:World) (hB:W.cell? ⟨wc.heap.size,1,none⟩=some (.int .i64 rr))=>flow_any f rr u hfl wc.heap.size W hB ff lb hfn
                    have eg:=flow_enter f wc.heap.size ff lb hfn;obtain⟨fx,hfx⟩: ∃fx,fx=flF f rr u:=⟨_,rfl⟩;rw[←hfx]at hcall hand hfr
                    obtain⟨nw,hnw⟩: ∃nw,nw=both z fx:=⟨_,rfl⟩;rw[←hnw]at hand
                    have hmg:mergeW j q (to_,flF f rr)=q.set to_.toNat nw:=by
                      show q.set to_.toNat (both (at_ q to_) (flF f rr (at_ q j)))=_
                      rw[←hu,←hz,←hfx,←hnw]
                    rw[hmg]at gq2 dq2 hq1
                    have HQ:=aS hq1;have HM:=aS hmu1;have DQ:=aS dq2;have HD1:=aS D1;have HR1:=aS D2;have HBt:Aside0 (But w3 wr g):=⟨D3,D4⟩;have HZ:=aS hz;clear hq1 hmu1 dq2 D1 D2 D3 D4 hmg hq0 hway dp dq gp gq gq2 hto hf hrr hu hz hfn hfx hnw tr HD hfr hfl hz15 hwm;have hbl:=below_alloc (Below.refl wr.heap.size wr) (.cells #[.int .i64 to_,.func (.func ff) #[] lb] 77);have nb:=blk_new wr (.cells #[.int .i64 to_,.func (.func ff) #[] lb] 77);have HA5:=aS hbl;have tr2: ∀ (b k:Nat) (u:Value),wr.cell? ⟨b,k,none⟩=some u→(wr.alloc (.cells #[.int .i64 to_,.func (.func ff) #[] lb] 77)).cell? ⟨b,k,none⟩=some u:=fun b k u h=>(hbl.cell (World.block_lt_of_cell? wr _ h)).trans h
                    have hfz:(wr.alloc (.cells #[.int .i64 to_,.func (.func ff) #[] lb] 77)).frozen? ⟨g,to_.toNat,none⟩=false:=(hbl.frozen (World.block_lt_of_cell? wr _ v1)).trans v2;have p0:=tr2 _ _ _ v0;have p1:=tr2 _ _ _ v1;have pB:=tr2 _ _ _ yB;have n0:=(blk_cell nb 0).trans (show _=some (Value.int .i64 to_)from rfl)
                    have n1:=(blk_cell nb 1).trans (show _=some (Value.func (.func ff) #[] lb)from rfl)
                    have hcl:=fun nn=>hcall ((wr.alloc (.cells #[.int .i64 to_,.func (.func ff) #[] lb] 77)).drewN nn) pB
                    clear hbl nb tr2 v0 v1 v2 yB hcall pB;go_wp2
                    obtain⟨w5,hw5⟩: ∃w5,w5=wr.alloc (.cells #[.int .i64 to_,.func (.func ff) #[] lb] 77):=⟨_,rfl⟩;rw[←hw5]at HA5 hfz p0 p1 n0 n1 hcl⊢
                    clear hw5;go_quiet ((go_at_fn ff;exact Calls.quiet_of_same ((hcl _).mono fun e w' h=>⟨h.1,h.2.symm⟩)))
                    have HB6:=aS (below_step HA5.out (pw_below_drewN (Below.refl w5.heap.size w5) nq));have HT:=aS hfz;by_cases hqz:nw=z
                    · have hqb:(nw !=z)=false:=by simp[hqz]
                      have hqe:(nw==z)=true:=by simp[hqz]
                      have HE:Aside0 (q.set to_.toNat nw=q):=⟨by
                        rw[hqz,HZ.out];have:=set_at (o:=q) (i:=to_.toNat);rwa [Int.toNat_of_nonneg ht0]at this⟩
                      have HD2:Aside0 (PD l0 w g c o j (m+1) d5 w3 (w5.drewN nq)):=⟨by
                        unfold PD;rw[HQ.out,HE.out];exact⟨HD1.out,ri_below HR1.out HB6.out,but_below HBt.out HB6.out⟩⟩
                      clear hqz;go_wp2
                      go_roundg ((waysL l0 j).length- (m+1))
                      case measure=>omega
                      case rel=>exact⟨m+1,d5,by omega,by omega,by go_num,rfl,HD2⟩
                    · have hqb:(nw !=z)=true:=by simp[hqz]
                      have hqe:(nw==z)=false:=by simp[hqz]
                      have HE:Aside0 (mu (q.set to_.toNat nw)<mu o):=⟨by
                        have hne:q.set to_.toNat nw≠q:=fun e=>hqz (by
                          have:=at_set_self (o:=q) (i:=to_) (x:=nw) (by rw[ri_len HR1.out];omega)
                          rw[e]at this;rw[HZ.out,this])
                        have h1:mu (q.set to_.toNat nw)<mu q:=by
                          rcases DQ.out with h|h
                          · exact absurd h hne
                          · exact h
                        rcases HM.out with h|h
                        · have:=congrArg mu h;omega
                        · omega⟩
                      clear hqz;go_wp2_with (first|((with_reducible refine gate_store (t:=3) (p:=67) rfl ?_);refine ri_store rfl rfl (.tmp 67) _ rfl to_ nw rfl rfl rfl (ri_below HR1.out HB6.out) (by omega) (by omega) ?_;intro w6 h6 g6;have HD2:Aside0 (PD l0 w g c o j (m+1) true w3 w6):=⟨(by unfold PD;rw[HQ.out];exact⟨(decide_eq_true HE.out).symm,h6,but_grown (but_below HBt.out HB6.out) g6⟩)⟩;clear h6 g6))
                      go_roundg ((waysL l0 j).length- (m+1))
                      case measure=>omega
                      case rel=>exact⟨m+1,true,by omega,by omega,by go_num,rfl,HD2⟩
                  · have hmtz: ¬(m:Int)<((waysL l0 j).length:Int):=by omega
                    obtain rfl:m=(waysL l0 j).length:=by omega
                    have HC2:Aside0 (PC l0 w g c o (j+1) d5 wr):=⟨by
                      obtain⟨D1,D2,D3⟩:=HD.out
                      have e:passW (wayW l0) (j+1) o=((wayW l0 j).take (waysL l0 j).length).foldl (mergeW j) (passW (wayW l0) j o):=by
                        rw[pass_succ];unfold stepW;rw[if_neg (by rw[←hx1.out];have:=hng.out;omega),List.take_of_length_le (by simp[wayW])]
                      unfold PC;rw[e];exact⟨D1,D2⟩⟩
                    go_wp2
                    go_roundg (l0.length- (j+1))
                    case measure=>omega
                    case rel=>exact⟨j+1,d5,by omega,by omega,by go_num,rfl,HC2⟩
            · have hltz: ¬(j:Int)<(l0.length:Int):=by omega
              obtain rfl:j=l0.length:=by omega
              obtain⟨k1,k2,k3,k4⟩:=HS.out;obtain⟨g1,d1⟩:=passes_good (wayW_good HG.out) k1 l0.length (Nat.le_refl _);obtain⟨e1,r1⟩:=HC.out
              have hmu:mu (passW (wayW l0) l0.length o)+c5.toNat<mu o+1:=by
                rcases d1 with d1|d1
                · rw[d1]at e1⊢;rw[e1];simp
                · have:c5=true:=by rw[e1];exact decide_eq_true d1
                  rw[this];simpa using d1
              have HS2:Aside0 (PB l0 w g c (passW (wayW l0) l0.length o) c5 wr):=⟨g1,by rw[fin_pass (wayW_good HG.out) k1];exact k2,fun hc=>by
                rcases d1 with d1|d1
                · rw[d1,d1]
                · rw[hc]at e1;have:=of_decide_eq_false e1.symm;omega,r1⟩
              clear k1 k2 k3 k4 g1 d1 e1 r1 HS HC;have hgg:mu o+1≤gB:=hgg;go_wp2
              go_roundg (mu (passW (wayW l0) l0.length o)+c5.toNat)
              case measure=>omega
              case rel=>exact⟨_,c5,rfl,Nat.le_refl _,HS2⟩
theorem impl_full.calls (A0:Option Addr) (c0:Nat) (l0:List (S29)) (r:List Int) (w:World) (hr0:Kd.C k29 w A0 l0.length l0) (hc0:l0.length≤c0) (h:fullV.f l0=some r):
    Calls Try.prog 80 #[.slice A0 l0.length c0] w fun e w'=> ∃v0_:Value,e= .returned (v0_)∧Kd.R (Kd.int .i64) 3 w' w.heap.size (fun _=>True) v0_ r∧Below w.heap.size w w':=by
  unfold fullV.f at h;split at h
  · rename_i hc
    obtain rfl:=Option.some.inj h;exact full_walk A0 c0 l0 w hr0 hc
  · cases h
end Go.Proofs.Ytmklpbmlgjkbiaa.PS
end
section
namespace Go.Proofs.Ytmklpbmlgjkbiaa.PS
open Go.RowKit Go.Proofs.YtmklpbmlgjkbiaaW.PrintWords Go.Proofs.YtmklpbmlgjkbiaaW.PrintLast Go.Proofs.YtmklpbmlgjkbiaaW.PrintMore
attribute [local go_sem] max2_int min2_int max_two min_two max_three min_three max_four min_four   -- for this text's walks alone
def IsS84 (w0 W:World) (g:Nat) (f0:List Int) (f1:Int):Prop:= ∃A0 c0,W.heap[g]?=some (.cells #[.slice A0 f0.length c0,.int .i64 f1] 84 (0,0))∧w0.heap.size≤g∧Kd.C (Kd.int .u8) w0 A0 f0.length f0
theorem IsS84.grown {w0 W:World} {g:Nat} {f0:List Int} {f1:Int} {W1:World} {row:Option Nat} (h:IsS84 w0 W g f0 f1) (hw:W.grownBy W1 row) (hne:some g≠row):IsS84 w0 W1 g f0 f1:=by
 obtain⟨A0,c0,hb,hg,hr0⟩:=h;exact⟨A0,c0,blk_grown hb hw hne,hg,hr0⟩
theorem IsS84.kept {w0 W:World} {g:Nat} {f0:List Int} {f1:Int} {W1:World} {S:Nat→Prop} (h:IsS84 w0 W g f0 f1) (hk:Kept W W1 S) (hne: ¬S g):IsS84 w0 W1 g f0 f1:=by
 obtain⟨A0,c0,hb,hg,hr0⟩:=h;exact⟨A0,c0,blk_kept hb hk hne,hg,hr0⟩
theorem IsS84.below {w0 W:World} {g:Nat} {f0:List Int} {f1:Int} {W1:World} (h:IsS84 w0 W g f0 f1) (hw:Below W.heap.size W W1):IsS84 w0 W1 g f0 f1:=h.grown (grown_of_below hw none) (by simp)
theorem IsS84.alloc {w0 W:World} {g:Nat} {f0:List Int} {f1:Int} (h:IsS84 w0 W g f0 f1) (o:Obj):IsS84 w0 (W.alloc o) g f0 f1:=h.below (below_alloc (Below.refl _ _) o)
theorem IsS84.drewN {w0 W:World} {g:Nat} {f0:List Int} {f1:Int} (h:IsS84 w0 W g f0 f1) (m:Nat):IsS84 w0 (W.drewN m) g f0 f1:=h
theorem IsS84.drew {w0 W:World} {g:Nat} {f0:List Int} {f1:Int} (h:IsS84 w0 W g f0 f1):IsS84 w0 W.drew g f0 f1:=h
theorem IsS84.apart {w0 W:World} {g:Nat} {f0:List Int} {f1:Int} {α:Type} {d:Kd α} {e:Nat} {base:Nat} {ok:Nat→Prop} {v:Value} {xs:List α} (h:IsS84 w0 W g f0 f1) (ho:d.R e W base ok v xs) (ht: ∀q,q∈e::d.E→q≠84):d.R e W base (fun k=>ok k∧k≠g) v xs:=by
 obtain⟨A0,c0,hb,hg,hr0⟩:=h;exact Kd.R_types ho hb ht
theorem IsS84.own_ne {w0 W:World} {g:Nat} {f0:List Int} {f1:Int} {α:Type} {d:Kd α} {e:Nat} {base:Nat} {ok:Nat→Prop} {v:Value} {xs:List α} (h:IsS84 w0 W g f0 f1) (ho:d.R e W base ok v xs) (ht:e≠84):some g≠v.ownBlock:=by
 obtain⟨A0,c0,hb,hg,hr0⟩:=h;exact Kd.R_ne ho hb ht
theorem IsS84.lt {w0 W:World} {g:Nat} {f0:List Int} {f1:Int} (h:IsS84 w0 W g f0 f1):g<W.heap.size:=by
 obtain⟨A0,c0,hb,hg,hr0⟩:=h;exact blk_lt hb
theorem IsS84.ge {w0 W:World} {g:Nat} {f0:List Int} {f1:Int} (h:IsS84 w0 W g f0 f1):w0.heap.size≤g:=by
 obtain⟨A0,c0,hb,hg,hr0⟩:=h;exact hg
theorem IsS84.far {w0 W:World} {g:Nat} {f0:List Int} {f1:Int} {p:Addr} (h:IsS84 w0 W g f0 f1) (hne:g≠p.block) (u:Value):IsS84 w0 (W.setCell p u) g f0 f1:=by
 obtain⟨A0,c0,hb,hg,hr0⟩:=h;exact⟨A0,c0,blk_far hb hne u,hg,hr0⟩
theorem cellS84_0 {W:World} {g:Nat} {A0:Option Addr} {c0:Nat} {f0:List Int} {f1:Int} (h:W.heap[g]?=some (.cells #[.slice A0 f0.length c0,.int .i64 f1] 84 (0,0))):W.cell? ⟨g,0,none⟩=some (.slice A0 f0.length c0):=(blk_cell h 0).trans rfl
theorem cellS84_1 {W:World} {g:Nat} {A0:Option Addr} {c0:Nat} {f0:List Int} {f1:Int} (h:W.heap[g]?=some (.cells #[.slice A0 f0.length c0,.int .i64 f1] 84 (0,0))):W.cell? ⟨g,1,none⟩=some (.int .i64 f1):=(blk_cell h 1).trans rfl
theorem IsS84.set_1 {w0 W:World} {g:Nat} {f0:List Int} {f1:Int} (h:IsS84 w0 W g f0 f1) (x:Int):IsS84 w0 (W.setCell ⟨g,1,none⟩ (.int .i64 x)) g f0 x:=by
 obtain⟨A0,c0,hb,hg,hr0⟩:=h;exact⟨A0,c0,by simpa using blk_set hb 1 (.int .i64 x),hg,hr0⟩
theorem sA {w0 W:World} {g:Nat} {f0:List Int} {f1:Int} (h:IsS84 w0 W g f0 f1) (o:Obj):IsS84 w0 (W.alloc o) g f0 f1:=IsS84.alloc h o
theorem sN {w0 W:World} {g:Nat} {f0:List Int} {f1:Int} (h:IsS84 w0 W g f0 f1) (m:Nat):IsS84 w0 (W.drewN m) g f0 f1:=h
theorem sD {w0 W:World} {g:Nat} {f0:List Int} {f1:Int} (h:IsS84 w0 W g f0 f1):IsS84 w0 W.drew g f0 f1:=h
theorem sS {w0 W:World} {g:Nat} {f0:List Int} {f1:Int} (h:IsS84 w0 W g f0 f1) (x:Int):IsS84 w0 (W.setCell ⟨g,1,none⟩ (.int .i64 x)) g f0 x:=IsS84.set_1 h x
def spec_l6Open.f (l0:List Int):Option (List Int×Int):=if(l0.length:Int)>2000 then(if 2000≤(l0.length:Int)then(some (l0.take 2000,0))else(none))else(some (l0,0))
theorem spec_l6Open.calls (A0:Option Addr) (c0:Nat) (l0:List Int) (r1:List Int) (r2:Int) (w0 w:World) (hB:Below w0.heap.size w0 w) (hr0:Kd.C (Kd.int .u8) w0 A0 l0.length l0) (hc0:l0.length≤c0) (h:spec_l6Open.f l0=some (r1,r2)):
  Calls Try.prog 69 #[.slice A0 l0.length c0] w fun e w'=> ∃g_:Nat,e= .returned (.pointer (some ⟨g_,0,none⟩))∧IsS84 w0 w' g_ r1 r2∧Below w0.heap.size w0 w'∧Below w.heap.size w w':=by
 have hu84:=Try.underlying84;have HR0:=aS hr0;have HC0:=aS hc0;clear hr0 hc0;have HBW:=aS (Below.refl w.heap.size w);have HW0:=aS hB.size;have HB:=aS hB;clear hB;have H:(if(l0.length:Int)>2000 then(if 2000≤(l0.length:Int)then(some (l0.take 2000,0))else(none))else(some (l0,0)))=some (r1,r2):=h
 clear h;by_cases c2:(l0.length:Int)>2000
 ·rw[if_pos c2]at H
  have c2b0:decide (2000<(l0.length:Int))=true:=decide_eq_true c2;have c2b1:decide (2000<l0.length)=true:=decide_eq_true (by omega)
  clear c2;by_cases c3:2000≤(l0.length:Int)
  ·rw[if_pos c3]at H
   have c3b0:=eq_true c3;have c3b1:decide (2000≤(l0.length:Int))=true:=decide_eq_true c3;clear c3;simp only[Option.some.injEq,Prod.mk.injEq]at H
   obtain⟨rfl,rfl⟩:=H;obtain⟨i04,hi04,_,hsz4,_⟩:=info_parts info5;obtain⟨hcut4,hA4,hC4⟩:=print_take_of (P:=Try.prog) (Value.int .u8) 0 36 5 .i64 Try.underlying36 hi04 hsz4 A0 c0 l0 2000 (by omega) (of_decide_eq_true (by assumption)) HC0.out
   have HR134:=aS (Kd.C_of_reads (h1:=fun _=>rfl) (hA4 _ (Kd.reads_of_C HR0.out)))
   have HC134:=aS hC4;clear hA4 hC4 hi04 hsz4;go_enter Try.func69,Try.ntmps69
   go_wp2_with (first|((with_reducible refine gate_dst (N:=10) rfl ?_);refine box_event ?hg (N:=10) ?hd (cs:= #[.slice A0 (l0.take 2000).length c0,.int .i64 0]) (t:=84) ?hr ?_;(case hd=>rfl);(case hg=>rfl);(case hr=>go_simp<;>rfl);intro gb135 hg w5 hbox hb;have n0_:=aS (below_step HBW.out hb);have n1_:=aS (below_step (by exact bU HB.out) hb);have n2_:=aS (hbox);have n3_:=aS ((by rw[hg];exact(below_size (by repeat(with_reducible first|exact HBW.out|apply bA|apply bN|apply b1))):w.heap.size≤gb135));have n4_:=aS ((Nat.le_trans HW0.out (by rw[hg];exact(below_size (by repeat(with_reducible first|exact HBW.out|apply bA|apply bN|apply b1))):w.heap.size≤gb135):w0.heap.size≤gb135));clear HBW;clear HB;have HBW:=n0_;have HB:=n1_;have BK135:=n2_;have GW135:=n3_;have GE135:=n4_;clear n0_ n1_ n2_ n3_ n4_;clear hb hbox hg))
   go_ret
   exact⟨_,rfl,(show IsS84 w0 _ gb135 (l0.take 2000) 0 from⟨_,_,by exact blkU BK135.out,GE135.out,HR134.out⟩),by repeat(with_reducible first|exact HB.out|apply bA|apply bN|apply b1|refine below_set ?_ GE135.out),by repeat(with_reducible first|exact HBW.out|apply bA|apply bN|apply b1|refine below_set ?_ GW135.out)⟩
  ·rw[if_neg c3]at H
   exact absurd H (by simp)
 ·rw[if_neg c2]at H
  have c2b0:decide (2000<(l0.length:Int))=false:=decide_eq_false c2;have c2b1:decide (2000<l0.length)=false:=decide_eq_false (by omega)
  clear c2;simp only[Option.some.injEq,Prod.mk.injEq]at H
  obtain⟨rfl,rfl⟩:=H;go_enter Try.func69,Try.ntmps69
  go_wp2_with (first|((with_reducible refine gate_dst (N:=10) rfl ?_);refine box_event ?hg (N:=10) ?hd (cs:= #[.slice A0 l0.length c0,.int .i64 0]) (t:=84) ?hr ?_;(case hd=>rfl);(case hg=>rfl);(case hr=>go_simp<;>rfl);intro gb136 hg w6 hbox hb;have n0_:=aS (below_step HBW.out hb);have n1_:=aS (below_step (by exact bU HB.out) hb);have n2_:=aS (hbox);have n3_:=aS ((by rw[hg];exact(below_size (by repeat(with_reducible first|exact HBW.out|apply bA|apply bN|apply b1))):w.heap.size≤gb136));have n4_:=aS ((Nat.le_trans HW0.out (by rw[hg];exact(below_size (by repeat(with_reducible first|exact HBW.out|apply bA|apply bN|apply b1))):w.heap.size≤gb136):w0.heap.size≤gb136));clear HBW;clear HB;have HBW:=n0_;have HB:=n1_;have BK136:=n2_;have GW136:=n3_;have GE136:=n4_;clear n0_ n1_ n2_ n3_ n4_;clear hb hbox hg))
  go_ret
  exact⟨_,rfl,(show IsS84 w0 _ gb136 l0 0 from⟨_,_,by exact blkU BK136.out,GE136.out,HR0.out⟩),by repeat(with_reducible first|exact HB.out|apply bA|apply bN|apply b1|refine below_set ?_ GE136.out),by repeat(with_reducible first|exact HBW.out|apply bA|apply bN|apply b1|refine below_set ?_ GW136.out)⟩
def spec_l6Rd_pick.j0:Nat→Int→Bool→List Int→Int→Option (Int×Int)
 |0,_,_,_,_=>none
 |k+1,x1,x24,x1000,x1001=>if x24=true then(some (0,x1001))else(if(wrap64 (x1001-1))<(x1000.length:Int)then(if 0≤(wrap64 (x1001-1))then(if x1=0 then(none)else(some (Int.tmod (wrap64 (rd x1000 (wrap64 (x1001-1)))) x1,x1001)))else(none))else(if(x1000.length:Int)=0 then(none)else(if 0≤(Int.tmod (wrap64 (x1001-1)) (x1000.length:Int))then(if(Int.tmod (wrap64 (x1001-1)) (x1000.length:Int))<(x1000.length:Int)then(if 0≤(Int.tmod (wrap64 ((wrap64 ((wrap64 (x1001-1))*7))+3)) (x1000.length:Int))then(if(Int.tmod (wrap64 ((wrap64 ((wrap64 (x1001-1))*7))+3)) (x1000.length:Int))<(x1000.length:Int)then(if x1=0 then(none)else(some (Int.tmod (Go.bits .xor .i64 (wrap64 ((wrap64 ((wrap64 ((wrap64 ((wrap64 (rd x1000 (Int.tmod (wrap64 (x1001-1)) (x1000.length:Int))))*131))+(wrap64 ((wrap64 (rd x1000 (Int.tmod (wrap64 ((wrap64 ((wrap64 (x1001-1))*7))+3)) (x1000.length:Int))))*1117))))+(wrap64 ((wrap64 (x1001-1))*29))))+(wrap64 ((wrap64 (Int.tdiv (wrap64 (x1001-1)) (x1000.length:Int)))*53)))) (wrap64 (Int.tdiv (wrap64 ((wrap64 ((wrap64 ((wrap64 ((wrap64 (rd x1000 (Int.tmod (wrap64 (x1001-1)) (x1000.length:Int))))*131))+(wrap64 ((wrap64 (rd x1000 (Int.tmod (wrap64 ((wrap64 ((wrap64 (x1001-1))*7))+3)) (x1000.length:Int))))*1117))))+(wrap64 ((wrap64 (x1001-1))*29))))+(wrap64 ((wrap64 (Int.tdiv (wrap64 (x1001-1)) (x1000.length:Int)))*53)))) 64))) x1,x1001)))else(none))else(none))else(none))else(none))))
def spec_l6Rd_pick.f (k:Nat) (s0_0:List Int) (s0_1:Int) (a1:Int):Option (Int×Int):=if a1<1 then(spec_l6Rd_pick.j0 k a1 true s0_0 (wrap64 (s0_1+1)))else(spec_l6Rd_pick.j0 k a1 ((s0_0.length:Int)==0) s0_0 (wrap64 (s0_1+1)))
theorem spec_l6Rd_pick.mono_l: ∀k,(∀y0 y1 y2 y3,LeO (spec_l6Rd_pick.j0 k y0 y1 y2 y3) (spec_l6Rd_pick.j0 (k+1) y0 y1 y2 y3))
 |0=>fun _ _ _ _ r h=>by simp[spec_l6Rd_pick.j0]at h
 |k+1=>by
  have ih0:=spec_l6Rd_pick.mono_l k
  ·intro y0 y1 y2 y3
   unfold spec_l6Rd_pick.j0;repeat' first
   |(with_reducible exact ih0 _ _ _ _)
   |(with_reducible exact LeO.refl _)
   |(with_reducible exact LeO.none _)
   |(with_reducible refine LeO.ite ?_ ?_)
   |(with_reducible refine LeO.bind ?_ (fun _=> ?_))
   |exact ih0 _ _ _ _
   |exact LeO.none _
   |refine LeO.ite ?_ ?_
   |refine LeO.bind ?_ (fun _=> ?_)
theorem spec_l6Rd_pick.mono: ∀a0 a1 a2 k,LeO (spec_l6Rd_pick.f k a0 a1 a2) (spec_l6Rd_pick.f (k+1) a0 a1 a2):=by
 intro a0 a1 a2 k;have ih0:=spec_l6Rd_pick.mono_l k;unfold spec_l6Rd_pick.f
 repeat' first
   |(with_reducible exact ih0 _ _ _ _)
   |(with_reducible exact LeO.refl _)
   |(with_reducible exact LeO.none _)
   |(with_reducible refine LeO.ite ?_ ?_)
   |(with_reducible refine LeO.bind ?_ (fun _=> ?_))
   |exact ih0 _ _ _ _
   |exact LeO.none _
   |refine LeO.ite ?_ ?_
   |refine LeO.bind ?_ (fun _=> ?_)
theorem spec_l6Rd_pick.calls (k:Nat) (g:Nat) (s0_0:List Int) (s0_1:Int) (a1:Int) (r1:Int) (r2:Int) (w0 w:World) (hI:IsS84 w0 w g s0_0 s0_1) (hB:Below w0.heap.size w0 w) (h:spec_l6Rd_pick.f k s0_0 s0_1 a1=some (r1,r2)):
  Calls Try.prog 71 #[.pointer (some ⟨g,0,none⟩),.int .i64 a1] w fun e w'=>e= .returned (.int .i64 r1)∧IsS84 w0 w' g s0_0 r2∧Below w0.heap.size w0 w'∧KeepBut w w' g none:=by
 have HI0:=aS hI;have HK:=aS (KeepBut.refl w g none);have HL:=aS hB.size;clear hI;have HW0:=aS hB.size;have HB:=aS hB;clear hB;have H:(if a1<1 then(spec_l6Rd_pick.j0 k a1 true s0_0 (wrap64 (s0_1+1)))else(spec_l6Rd_pick.j0 k a1 ((s0_0.length:Int)==0) s0_0 (wrap64 (s0_1+1))))=some (r1,r2):=h
 clear h;have HC3:=aS H;clear H;obtain⟨ASz4_0,cSz4_0,HGz4,hgz4,HSz4_0⟩:=HI0.out;have hcz4_0:=cellS84_0 HGz4;have hcz4_1:=cellS84_1 HGz4;have hfz4_1:=blk_frozen HGz4 1;clear HGz4 hgz4;go_enter Try.func71,Try.ntmps71
 go_upto_region 2 with (fail)
 go_cut [24] (fun v24 wc=> ∃ (kq:Nat) (x24_2:Bool),v24= .bool x24_2∧Aside0 (spec_l6Rd_pick.j0 kq a1 x24_2 s0_0 (wrap64 (s0_1+1))=some (r1,r2))∧Aside0 (kq≤k)∧Aside0 (IsS84 w0 wc g s0_0 (wrap64 (s0_1+1)))∧Aside0 (KeepBut w wc g none)∧Aside0 (Below w0.heap.size w0 wc))
 case first=>
  have H:=HC3.out;clear HC3;by_cases c5:a1<1
  ·rw[if_pos c5]at H
   have c5b0:decide (a1<1)=true:=decide_eq_true c5;clear c5;(first|rw[c5b0]|(simp only[i64_w,i32_w];rw[c5b0])|skip)
   have H':=aS H;clear H;go_wp2
   go_meet
   case rel=>exact⟨_,(true),(by first|rfl|(simp;done)|(simp[*];done)),H',⟨by first|omega|exact Nat.le_refl _⟩,⟨by repeat(with_reducible first|exact HI0.out|apply sA|apply sN|apply sD|apply sS)⟩,⟨by repeat(with_reducible first|exact HK.out|apply pS|apply pN|apply pD|apply pA)⟩,⟨by repeat(with_reducible first|exact HB.out|apply bA|apply bN|apply b1|refine below_set ?_ (IsS84.ge HI0.out))⟩⟩
  ·rw[if_neg c5]at H
   have c5b0:decide (a1<1)=false:=decide_eq_false c5;clear c5;(first|rw[c5b0]|(simp only[i64_w,i32_w];rw[c5b0])|skip)
   have H':=aS H;clear H;obtain⟨ASz6_0,cSz6_0,HGz6,hgz6,HSz6_0⟩:=HI0.out;have hcz6_0:=cellS84_0 HGz6;have hcz6_1:=cellS84_1 HGz6;have hfz6_1:=blk_frozen HGz6 1;clear HGz6 hgz6;go_wp2
   go_meet
   case rel=>exact⟨_,(((s0_0.length:Int)==0)),(by first|rfl|(simp;done)|(simp[*];done)),H',⟨by first|omega|exact Nat.le_refl _⟩,⟨by repeat(with_reducible first|exact HI0.out|apply sA|apply sN|apply sD|apply sS)⟩,⟨by repeat(with_reducible first|exact HK.out|apply pS|apply pN|apply pD|apply pA)⟩,⟨by repeat(with_reducible first|exact HB.out|apply bA|apply bN|apply b1|refine below_set ?_ (IsS84.ge HI0.out))⟩⟩
 case rest=>
  clear HC3;(try clear p2);(try clear c5);(try clear c5b0);(try clear p6);(try clear hcz4_0);(try clear hcz4_1);(try clear hcz6_0);(try clear hcz6_1);(try clear hfz4_1);(try clear hfz6_1)
  obtain⟨kq,x24_2,rfl,HA,HJ2,HI0,HK,HB⟩:=hcut;cases kq with
  |zero=>exact absurd HA.out (by simp[spec_l6Rd_pick.j0])
  |succ kj2=>
   have H:=HA.out;clear HA;simp only[spec_l6Rd_pick.j0]at H
   by_cases c7:x24_2=true
   ·subst c7
    have H1:(some (0,(wrap64 (s0_1+1))))=some (r1,r2):=by rw[if_pos rfl]at H;exact H
    clear H;have H:=H1;clear H1;simp only[Option.some.injEq,Prod.mk.injEq]at H
    obtain⟨rfl,rfl⟩:=H;go_wp2
    go_ret
    exact⟨by first|rfl|(simp[*]<;>rfl),by repeat(with_reducible first|exact HI0.out|apply sA|apply sN|apply sD|apply sS),by repeat(with_reducible first|exact HB.out|apply bA|apply bN|apply b1|refine below_set ?_ (IsS84.ge HI0.out)),by repeat(with_reducible first|exact HK.out|apply pS|apply pN|apply pD|apply pA)⟩
   ·replace c7:=Bool.eq_false_iff.mpr c7
    subst c7;have H1:(if(wrap64 ((wrap64 (s0_1+1))-1))<(s0_0.length:Int)then(if 0≤(wrap64 ((wrap64 (s0_1+1))-1))then(if a1=0 then(none)else(some (Int.tmod (wrap64 (rd s0_0 (wrap64 ((wrap64 (s0_1+1))-1)))) a1,(wrap64 (s0_1+1)))))else(none))else(if(s0_0.length:Int)=0 then(none)else(if 0≤(Int.tmod (wrap64 ((wrap64 (s0_1+1))-1)) (s0_0.length:Int))then(if(Int.tmod (wrap64 ((wrap64 (s0_1+1))-1)) (s0_0.length:Int))<(s0_0.length:Int)then(if 0≤(Int.tmod (wrap64 ((wrap64 ((wrap64 ((wrap64 (s0_1+1))-1))*7))+3)) (s0_0.length:Int))then(if(Int.tmod (wrap64 ((wrap64 ((wrap64 ((wrap64 (s0_1+1))-1))*7))+3)) (s0_0.length:Int))<(s0_0.length:Int)then(if a1=0 then(none)else(some (Int.tmod (Go.bits .xor .i64 (wrap64 ((wrap64 ((wrap64 ((wrap64 ((wrap64 (rd s0_0 (Int.tmod (wrap64 ((wrap64 (s0_1+1))-1)) (s0_0.length:Int))))*131))+(wrap64 ((wrap64 (rd s0_0 (Int.tmod (wrap64 ((wrap64 ((wrap64 ((wrap64 (s0_1+1))-1))*7))+3)) (s0_0.length:Int))))*1117))))+(wrap64 ((wrap64 ((wrap64 (s0_1+1))-1))*29))))+(wrap64 ((wrap64 (Int.tdiv (wrap64 ((wrap64 (s0_1+1))-1)) (s0_0.length:Int)))*53)))) (wrap64 (Int.tdiv (wrap64 ((wrap64 ((wrap64 ((wrap64 ((wrap64 (rd s0_0 (Int.tmod (wrap64 ((wrap64 (s0_1+1))-1)) (s0_0.length:Int))))*131))+(wrap64 ((wrap64 (rd s0_0 (Int.tmod (wrap64 ((wrap64 ((wrap64 ((wrap64 (s0_1+1))-1))*7))+3)) (s0_0.length:Int))))*1117))))+(wrap64 ((wrap64 ((wrap64 (s0_1+1))-1))*29))))+(wrap64 ((wrap64 (Int.tdiv (wrap64 ((wrap64 (s0_1+1))-1)) (s0_0.length:Int)))*53)))) 64))) a1,(wrap64 (s0_1+1)))))else(none))else(none))else(none))else(none))))=some (r1,r2):=by rw[if_neg (show¬(false=true) by decide)]at H;exact H
    clear H;have H:=H1;clear H1;by_cases c8:(wrap64 ((wrap64 (s0_1+1))-1))<(s0_0.length:Int)
    ·rw[if_pos c8]at H
     have c8b0:decide ((wrap64 ((wrap64 (s0_1+1))-1))<(s0_0.length:Int))=true:=decide_eq_true c8;clear c8;obtain⟨ji9,hji9⟩: ∃j_:Int,(wrap64 ((wrap64 (s0_1+1))-1))=j_:=⟨_,rfl⟩;replace H:(if 0≤(ji9)then(if a1=0 then(none)else(some (Int.tmod (wrap64 (rd s0_0 (ji9))) a1,(wrap64 (s0_1+1)))))else(none))=some (r1,r2):=by first|(rw[hji9]at H;exact H)|(simp only[hji9]at H⊢;exact H)
     (try rw[hji9]at c8b0)
     have hji9w:(IntKind.i64.wrap ((wrap64 (s0_1+1))-1))=ji9:=(i64_w _).trans hji9;by_cases c10:0≤(ji9)
     ·rw[if_pos c10]at H
      have c10b0:decide (0≤(ji9))=true:=decide_eq_true c10;clear c10;by_cases c11:a1=0
      ·rw[if_pos c11]at H
       exact absurd H (by simp)
      ·rw[if_neg c11]at H
       have c11b0:(a1==0)=false:=beq_eq_false_iff_ne.mpr c11;have c11b1:(a1 !=0)=true:=bne_iff_ne.mpr c11;simp only[Option.some.injEq,Prod.mk.injEq]at H
       obtain⟨rfl,rfl⟩:=H;obtain⟨ASz12_0,cSz12_0,HGz12,hgz12,HSz12_0⟩:=HI0.out;have hcz12_0:=cellS84_0 HGz12;have hcz12_1:=cellS84_1 HGz12;have hfz12_1:=blk_frozen HGz12 1;clear HGz12 hgz12;have p137:0≤((ji9):Int):=of_decide_eq_true (by assumption)
       have q137:(ji9)<(s0_0.length:Int):=of_decide_eq_true (by assumption)
       obtain⟨ad137,e137,hx137_0⟩:=Kd.at_int HSz12_0 (ji9) p137 q137;cases e137
       replace hx137_0:=pw_cell_below HB.out hx137_0;replace p137:=eq_true p137;replace q137:=eq_true q137;go_wp2
       go_ret
       exact⟨by first|rfl|(simp[errW_none,errW_some]<;>rfl)|(simp only[←hji9];first|rfl|(simp[errW_none,errW_some]<;>rfl))|(simp[*,errW_none,errW_some]<;>rfl),by repeat(with_reducible first|exact HI0.out|apply sA|apply sN|apply sD|apply sS),by repeat(with_reducible first|exact HB.out|apply bA|apply bN|apply b1|refine below_set ?_ (IsS84.ge HI0.out)),by repeat(with_reducible first|exact HK.out|apply pS|apply pN|apply pD|apply pA)⟩
     ·rw[if_neg c10]at H
      exact absurd H (by simp)
    ·rw[if_neg c8]at H
     have c8b0:decide ((wrap64 ((wrap64 (s0_1+1))-1))<(s0_0.length:Int))=false:=decide_eq_false c8;clear c8;by_cases c13:(s0_0.length:Int)=0
     ·rw[if_pos c13]at H
      exact absurd H (by simp)
     ·rw[if_neg c13]at H
      have c13b0:((s0_0.length:Int)==0)=false:=beq_eq_false_iff_ne.mpr c13;have c13b1:((s0_0.length:Int) !=0)=true:=bne_iff_ne.mpr c13;have c13b2: ¬(s0_0=[]):=fun h_=>c13 (by rw[h_];rfl)
      obtain⟨ji14,hji14⟩: ∃j_:Int,(Int.tmod (wrap64 ((wrap64 (s0_1+1))-1)) (s0_0.length:Int))=j_:=⟨_,rfl⟩;replace H:(if 0≤(ji14)then(if(ji14)<(s0_0.length:Int)then(if 0≤(Int.tmod (wrap64 ((wrap64 ((wrap64 ((wrap64 (s0_1+1))-1))*7))+3)) (s0_0.length:Int))then(if(Int.tmod (wrap64 ((wrap64 ((wrap64 ((wrap64 (s0_1+1))-1))*7))+3)) (s0_0.length:Int))<(s0_0.length:Int)then(if a1=0 then(none)else(some (Int.tmod (Go.bits .xor .i64 (wrap64 ((wrap64 ((wrap64 ((wrap64 ((wrap64 (rd s0_0 (ji14)))*131))+(wrap64 ((wrap64 (rd s0_0 (Int.tmod (wrap64 ((wrap64 ((wrap64 ((wrap64 (s0_1+1))-1))*7))+3)) (s0_0.length:Int))))*1117))))+(wrap64 ((wrap64 ((wrap64 (s0_1+1))-1))*29))))+(wrap64 ((wrap64 (Int.tdiv (wrap64 ((wrap64 (s0_1+1))-1)) (s0_0.length:Int)))*53)))) (wrap64 (Int.tdiv (wrap64 ((wrap64 ((wrap64 ((wrap64 ((wrap64 (rd s0_0 (ji14)))*131))+(wrap64 ((wrap64 (rd s0_0 (Int.tmod (wrap64 ((wrap64 ((wrap64 ((wrap64 (s0_1+1))-1))*7))+3)) (s0_0.length:Int))))*1117))))+(wrap64 ((wrap64 ((wrap64 (s0_1+1))-1))*29))))+(wrap64 ((wrap64 (Int.tdiv (wrap64 ((wrap64 (s0_1+1))-1)) (s0_0.length:Int)))*53)))) 64))) a1,(wrap64 (s0_1+1)))))else(none))else(none))else(none))else(none))=some (r1,r2):=by first|(rw[hji14]at H;exact H)|(simp only[hji14]at H⊢;exact H)
      by_cases c15:0≤(ji14)
      ·rw[if_pos c15]at H
       have c15b0:decide (0≤(ji14))=true:=decide_eq_true c15;clear c15;by_cases c16:(ji14)<(s0_0.length:Int)
       ·rw[if_pos c16]at H
        have c16b0:decide ((ji14)<(s0_0.length:Int))=true:=decide_eq_true c16;clear c16;obtain⟨ji17,hji17⟩: ∃j_:Int,(Int.tmod (wrap64 ((wrap64 ((wrap64 ((wrap64 (s0_1+1))-1))*7))+3)) (s0_0.length:Int))=j_:=⟨_,rfl⟩;replace H:(if 0≤(ji17)then(if(ji17)<(s0_0.length:Int)then(if a1=0 then(none)else(some (Int.tmod (Go.bits .xor .i64 (wrap64 ((wrap64 ((wrap64 ((wrap64 ((wrap64 (rd s0_0 (ji14)))*131))+(wrap64 ((wrap64 (rd s0_0 (ji17)))*1117))))+(wrap64 ((wrap64 ((wrap64 (s0_1+1))-1))*29))))+(wrap64 ((wrap64 (Int.tdiv (wrap64 ((wrap64 (s0_1+1))-1)) (s0_0.length:Int)))*53)))) (wrap64 (Int.tdiv (wrap64 ((wrap64 ((wrap64 ((wrap64 ((wrap64 (rd s0_0 (ji14)))*131))+(wrap64 ((wrap64 (rd s0_0 (ji17)))*1117))))+(wrap64 ((wrap64 ((wrap64 (s0_1+1))-1))*29))))+(wrap64 ((wrap64 (Int.tdiv (wrap64 ((wrap64 (s0_1+1))-1)) (s0_0.length:Int)))*53)))) 64))) a1,(wrap64 (s0_1+1)))))else(none))else(none))=some (r1,r2):=by first|(rw[hji17]at H;exact H)|(simp only[hji17]at H⊢;exact H)
        by_cases c18:0≤(ji17)
        ·rw[if_pos c18]at H
         have c18b0:decide (0≤(ji17))=true:=decide_eq_true c18;clear c18;by_cases c19:(ji17)<(s0_0.length:Int)
         ·rw[if_pos c19]at H
          have c19b0:decide ((ji17)<(s0_0.length:Int))=true:=decide_eq_true c19;clear c19;by_cases c20:a1=0
          ·rw[if_pos c20]at H
           exact absurd H (by simp)
          ·rw[if_neg c20]at H
           have c20b0:(a1==0)=false:=beq_eq_false_iff_ne.mpr c20;have c20b1:(a1 !=0)=true:=bne_iff_ne.mpr c20;simp only[Option.some.injEq,Prod.mk.injEq]at H
           obtain⟨rfl,rfl⟩:=H;obtain⟨ASz21_0,cSz21_0,HGz21,hgz21,HSz21_0⟩:=HI0.out;have hcz21_0:=cellS84_0 HGz21;have hcz21_1:=cellS84_1 HGz21;have hfz21_1:=blk_frozen HGz21 1;clear HGz21 hgz21;have p138:0≤((ji14):Int):=of_decide_eq_true (by assumption)
           have q138:(ji14)<(s0_0.length:Int):=of_decide_eq_true (by assumption)
           obtain⟨ad138,e138,hx138_0⟩:=Kd.at_int HSz21_0 (ji14) p138 q138;cases e138
           replace hx138_0:=pw_cell_below HB.out hx138_0;replace p138:=eq_true p138;replace q138:=eq_true q138;have p139:0≤((ji17):Int):=of_decide_eq_true (by assumption)
           have q139:(ji17)<(s0_0.length:Int):=of_decide_eq_true (by assumption)
           obtain⟨ad139,e139,hx139_0⟩:=Kd.at_int HSz21_0 (ji17) p139 q139;obtain rfl:ad138=ad139:=(by injection e139)
           replace hx139_0:=pw_cell_below HB.out hx139_0;replace p139:=eq_true p139;replace q139:=eq_true q139;go_wp2
           repeat(go_quiet (fail);try go_wp2)
           go_ret
           exact⟨by first|rfl|(simp[errW_none,errW_some]<;>rfl)|(simp only[←hji14,←hji17];first|rfl|(simp[errW_none,errW_some]<;>rfl))|(simp[*,errW_none,errW_some]<;>rfl),by repeat(with_reducible first|exact HI0.out|apply sA|apply sN|apply sD|apply sS),by repeat(with_reducible first|exact HB.out|apply bA|apply bN|apply b1|refine below_set ?_ (IsS84.ge HI0.out)),by repeat(with_reducible first|exact HK.out|apply pS|apply pN|apply pD|apply pA)⟩
         ·rw[if_neg c19]at H
          exact absurd H (by simp)
        ·rw[if_neg c18]at H
         exact absurd H (by simp)
       ·rw[if_neg c16]at H
        exact absurd H (by simp)
      ·rw[if_neg c15]at H
       exact absurd H (by simp)
mutual
def spec_l2Form.j0:Nat→Int→Bool→Option (List Bool)
 |0,_,_=>none
 |k+1,x3,x7=>if x7=true then(some (([true,true,false,false]:List Bool)))else(if x3=4 then(spec_l2Form.j1 k x3 (x3==4))else(if x3=11 then(spec_l2Form.j1 k x3 (x3==11))else(if x3=12 then(spec_l2Form.j1 k x3 (x3==12))else(spec_l2Form.j1 k x3 (x3==14)))))
def spec_l2Form.j1:Nat→Int→Bool→Option (List Bool)
 |0,_,_=>none
 |k+1,x3,x13=>if x13=true then(some (([true,false,false,false]:List Bool)))else(if x3=5 then(some (([true,false,true,false]:List Bool)))else(if x3=8 then(some (([true,true,true,true]:List Bool)))else(if x3=9 then(some (([false,false,true,false]:List Bool)))else(if x3=10 then(some (([true,false,true,true]:List Bool)))else(if x3=13 then(some (([false,false,false,true]:List Bool)))else(some (([]:List Bool))))))))
end
def spec_l2Form.f (k:Nat) (a0:Int):Option (List Bool):=if a0=1 then(some (([true,false,false,true]:List Bool)))else(if a0=2 then(spec_l2Form.j0 k a0 (a0==2))else(if a0=3 then(spec_l2Form.j0 k a0 (a0==3))else(if a0=6 then(spec_l2Form.j0 k a0 (a0==6))else(spec_l2Form.j0 k a0 (a0==7)))))
theorem spec_l2Form.mono_l: ∀k,(∀y0 y1,LeO (spec_l2Form.j0 k y0 y1) (spec_l2Form.j0 (k+1) y0 y1))∧(∀y0 y1,LeO (spec_l2Form.j1 k y0 y1) (spec_l2Form.j1 (k+1) y0 y1))
 |0=>⟨fun _ _ r h=>by simp[spec_l2Form.j0]at h,fun _ _ r h=>by simp[spec_l2Form.j1]at h⟩
 |k+1=>by
  obtain⟨ih0,ih1⟩:=spec_l2Form.mono_l k;refine⟨?_,?_⟩
  ·intro y0 y1
   unfold spec_l2Form.j0;repeat' first
   |(with_reducible exact ih0 _ _)
   |(with_reducible exact ih1 _ _)
   |(with_reducible exact LeO.refl _)
   |(with_reducible exact LeO.none _)
   |(with_reducible refine LeO.ite ?_ ?_)
   |(with_reducible refine LeO.bind ?_ (fun _=> ?_))
   |exact ih0 _ _
   |exact ih1 _ _
   |exact LeO.none _
   |refine LeO.ite ?_ ?_
   |refine LeO.bind ?_ (fun _=> ?_)
  ·intro y0 y1
   unfold spec_l2Form.j1;repeat' first
   |(with_reducible exact ih0 _ _)
   |(with_reducible exact ih1 _ _)
   |(with_reducible exact LeO.refl _)
   |(with_reducible exact LeO.none _)
   |(with_reducible refine LeO.ite ?_ ?_)
   |(with_reducible refine LeO.bind ?_ (fun _=> ?_))
   |exact ih0 _ _
   |exact ih1 _ _
   |exact LeO.none _
   |refine LeO.ite ?_ ?_
   |refine LeO.bind ?_ (fun _=> ?_)
theorem spec_l2Form.mono: ∀a0 k,LeO (spec_l2Form.f k a0) (spec_l2Form.f (k+1) a0):=by
 intro a0 k;obtain⟨ih0,ih1⟩:=spec_l2Form.mono_l k;unfold spec_l2Form.f
 repeat' first
   |(with_reducible exact ih0 _ _)
   |(with_reducible exact ih1 _ _)
   |(with_reducible exact LeO.refl _)
   |(with_reducible exact LeO.none _)
   |(with_reducible refine LeO.ite ?_ ?_)
   |(with_reducible refine LeO.bind ?_ (fun _=> ?_))
   |exact ih0 _ _
   |exact ih1 _ _
   |exact LeO.none _
   |refine LeO.ite ?_ ?_
   |refine LeO.bind ?_ (fun _=> ?_)
theorem spec_l2Form.calls (k:Nat) (a0:Int) (r:List Bool) (w:World) (h:spec_l2Form.f k a0=some r):
  Calls Try.prog 57 #[.int .i64 a0] w fun e w'=> ∃v0_:Value,e= .returned (v0_)∧Kd.R Kd.bool 4 w' w.heap.size (fun _=>True) v0_ r∧Below w.heap.size w w':=by
 have HB:=aS (Below.refl w.heap.size w);have H:(if a0=1 then(some (([true,false,false,true]:List Bool)))else(if a0=2 then(spec_l2Form.j0 k a0 (a0==2))else(if a0=3 then(spec_l2Form.j0 k a0 (a0==3))else(if a0=6 then(spec_l2Form.j0 k a0 (a0==6))else(spec_l2Form.j0 k a0 (a0==7))))))=some r:=h
 clear h;by_cases c2:a0=1
 ·rw[if_pos c2]at H
  have c2b0:(a0==1)=true:=beq_iff_eq.mpr c2;have c2b1:(a0 !=1)=false:=bne_eq_false_iff_eq.mpr c2;clear c2;obtain⟨y140,hy140⟩: ∃y_:List Bool,y_=(([true,false,false,true]:List Bool)):=⟨_,rfl⟩;replace H:(some y140)=some r:=by first|(rw[hy140];with_reducible exact H)|(have H2_:=(Option.bind_some _ _).symm.trans H;rw[hy140];with_reducible exact H2_)|(have H2_:=(Option.bind_some _ _).symm.trans H;with_reducible exact H2_)|with_reducible exact H|(rw[hy140];exact H)|exact H
  have Ny140:=aS hy140;clear hy140;obtain rfl:=Option.some.inj H;go_enter Try.func57,Try.ntmps57
  go_wp2_with (first|((with_reducible refine gate_dst (N:=6) rfl ?_);refine Kd.R_lit Kd.bool _ 4 ?hg (N:=6) ?hd (xs:=([true,false,false,true]:List Bool)) (inner:=[.bool true,.bool false,.bool false,.bool true]) (ok:=fun _=>True) (okp:=fun _=>True) ?hr ?hp (fun _ hk=>hk) trivial (Below.refl _ _) (Nat.le_refl _) (by simp) ?_;(case hd=>rfl);(case hg=>rfl);(case hr=>go_simp<;>rfl);(case hp=>exact(Reps.one (show Kd.M Kd.bool _ _ _ true [.bool true]from rfl) (Reps.one (show Kd.M Kd.bool _ _ _ false [.bool false]from rfl) (Reps.one (show Kd.M Kd.bool _ _ _ false [.bool false]from rfl) (Reps.one (show Kd.M Kd.bool _ _ _ true [.bool true]from rfl) (Reps.none _ _))))));intro v141 w3 ho4 hb hg_ hnew_;clear hg_ hnew_;(first|rw[←Ny140.out]at ho4|(simp only[Int.reduceToNat]at ho4;rw[←Ny140.out]at ho4));have HO142:=aS (Kd.R_lower ho4 (below_size (by exact bU HB.out)));replace HB:=aS (below_step (by exact bU HB.out) hb);clear hb ho4))
  go_ret
  exact⟨_,by first|rfl|(simp[*]<;>rfl),by exact rU HO142.out,by exact bU HB.out⟩
 ·rw[if_neg c2]at H
  have c2b0:(a0==1)=false:=beq_eq_false_iff_ne.mpr c2;have c2b1:(a0 !=1)=true:=bne_iff_ne.mpr c2;have HC5:=aS H;clear H;go_enter Try.func57,Try.ntmps57
  go_upto_if 7 with (fail)
  go_cut [7] (fun v7 wc=> ∃ (kq:Nat) (x7_4:Bool),v7= .bool x7_4∧Aside0 (spec_l2Form.j0 kq a0 x7_4=some r)∧Aside0 (kq≤k)∧Aside0 (Below w.heap.size w wc))
  case first=>
   have H:=HC5.out;clear HC5;by_cases c6:a0=2
   ·rw[if_pos c6]at H
    have c6b0:(a0==2)=true:=beq_iff_eq.mpr c6;have c6b1:(a0 !=2)=false:=bne_eq_false_iff_eq.mpr c6;clear c6;(first|rw[c6b0]|(simp only[i64_w,i32_w];rw[c6b0])|skip)
    have H':=aS H;clear H;go_wp2
    go_meet
    case rel=>exact⟨_,((a0==2)),(by first|rfl|(simp;done)|(simp[*];done)),H',⟨by first|omega|exact Nat.le_refl _⟩,⟨by exact bU HB.out⟩⟩
   ·rw[if_neg c6]at H
    have c6b0:(a0==2)=false:=beq_eq_false_iff_ne.mpr c6;have c6b1:(a0 !=2)=true:=bne_iff_ne.mpr c6;(first|rw[c6b0]|(simp only[i64_w,i32_w];rw[c6b0])|skip)
    by_cases c7:a0=3
    ·rw[if_pos c7]at H
     have c7b0:(a0==3)=true:=beq_iff_eq.mpr c7;have c7b1:(a0 !=3)=false:=bne_eq_false_iff_eq.mpr c7;clear c7;have H':=aS H;clear H;go_wp2
     go_meet
     case rel=>exact⟨_,((a0==3)),(by first|rfl|(simp;done)|(simp[*];done)),H',⟨by first|omega|exact Nat.le_refl _⟩,⟨by exact bU HB.out⟩⟩
    ·rw[if_neg c7]at H
     have c7b0:(a0==3)=false:=beq_eq_false_iff_ne.mpr c7;have c7b1:(a0 !=3)=true:=bne_iff_ne.mpr c7;by_cases c8:a0=6
     ·rw[if_pos c8]at H
      have c8b0:(a0==6)=true:=beq_iff_eq.mpr c8;have c8b1:(a0 !=6)=false:=bne_eq_false_iff_eq.mpr c8;clear c8;have H':=aS H;clear H;go_wp2
      go_meet
      case rel=>exact⟨_,((a0==6)),(by first|rfl|(simp;done)|(simp[*];done)),H',⟨by first|omega|exact Nat.le_refl _⟩,⟨by exact bU HB.out⟩⟩
     ·rw[if_neg c8]at H
      have c8b0:(a0==6)=false:=beq_eq_false_iff_ne.mpr c8;have c8b1:(a0 !=6)=true:=bne_iff_ne.mpr c8;have H':=aS H;clear H;go_wp2
      go_meet
      case rel=>exact⟨_,((a0==7)),(by first|rfl|(simp;done)|(simp[*];done)),H',⟨by first|omega|exact Nat.le_refl _⟩,⟨by exact bU HB.out⟩⟩
  case rest=>
   clear HC5;(try clear c2);(try clear c2b0);(try clear c2b1);(try clear p2);(try clear c5);(try clear c6);(try clear c6b0);(try clear c6b1);(try clear c7);(try clear c7b0);(try clear c7b1);(try clear c8);(try clear c8b0);(try clear c8b1)
   obtain⟨kq,x7_4,rfl,HA,HJ4,HB⟩:=hcut;cases kq with
   |zero=>exact absurd HA.out (by simp[spec_l2Form.j0])
   |succ kj4=>
    have H:=HA.out;clear HA;simp only[spec_l2Form.j0]at H
    by_cases c9:x7_4=true
    ·subst c9
     have H1:(some (([true,true,false,false]:List Bool)))=some r:=by rw[if_pos rfl]at H;exact H
     clear H;have H:=H1;clear H1;obtain⟨y143,hy143⟩: ∃y_:List Bool,y_=(([true,true,false,false]:List Bool)):=⟨_,rfl⟩;replace H:(some y143)=some r:=by first|(rw[hy143];with_reducible exact H)|(have H2_:=(Option.bind_some _ _).symm.trans H;rw[hy143];with_reducible exact H2_)|(have H2_:=(Option.bind_some _ _).symm.trans H;with_reducible exact H2_)|with_reducible exact H|(rw[hy143];exact H)|exact H
     have Ny143:=aS hy143;clear hy143;obtain rfl:=Option.some.inj H;go_wp2_with (first|((with_reducible refine gate_dst (N:=12) rfl ?_);refine Kd.R_lit Kd.bool _ 4 ?hg (N:=12) ?hd (xs:=([true,true,false,false]:List Bool)) (inner:=[.bool true,.bool true,.bool false,.bool false]) (ok:=fun _=>True) (okp:=fun _=>True) ?hr ?hp (fun _ hk=>hk) trivial (Below.refl _ _) (Nat.le_refl _) (by simp) ?_;(case hd=>rfl);(case hg=>rfl);(case hr=>go_simp<;>rfl);(case hp=>exact(Reps.one (show Kd.M Kd.bool _ _ _ true [.bool true]from rfl) (Reps.one (show Kd.M Kd.bool _ _ _ true [.bool true]from rfl) (Reps.one (show Kd.M Kd.bool _ _ _ false [.bool false]from rfl) (Reps.one (show Kd.M Kd.bool _ _ _ false [.bool false]from rfl) (Reps.none _ _))))));intro v144 w10 ho11 hb hg_ hnew_;clear hg_ hnew_;(first|rw[←Ny143.out]at ho11|(simp only[Int.reduceToNat]at ho11;rw[←Ny143.out]at ho11));have HO145:=aS (Kd.R_lower ho11 (below_size (by exact bU HB.out)));replace HB:=aS (below_step (by exact bU HB.out) hb);clear hb ho11))
     go_ret
     exact⟨_,by first|rfl|(simp[*]<;>rfl),by exact rU HO145.out,by exact bU HB.out⟩
    ·replace c9:=Bool.eq_false_iff.mpr c9
     subst c9;have H1:(if a0=4 then(spec_l2Form.j1 kj4 a0 (a0==4))else(if a0=11 then(spec_l2Form.j1 kj4 a0 (a0==11))else(if a0=12 then(spec_l2Form.j1 kj4 a0 (a0==12))else(spec_l2Form.j1 kj4 a0 (a0==14)))))=some r:=by rw[if_neg (show¬(false=true) by decide)]at H;exact H
     clear H;have H:=H1;clear H1;have HC12:=aS H;clear H;go_upto_if 13 with (fail)
     go_cut [13] (fun v13 wc=> ∃ (kq:Nat) (x13_11:Bool),v13= .bool x13_11∧Aside0 (spec_l2Form.j1 kq a0 x13_11=some r)∧Aside0 (kq≤kj4)∧Aside0 (Below w.heap.size w wc))
     case first=>
      have H:=HC12.out;clear HC12;by_cases c13:a0=4
      ·rw[if_pos c13]at H
       have c13b0:(a0==4)=true:=beq_iff_eq.mpr c13;have c13b1:(a0 !=4)=false:=bne_eq_false_iff_eq.mpr c13;clear c13;(first|rw[c13b0]|(simp only[i64_w,i32_w];rw[c13b0])|skip)
       have H':=aS H;clear H;go_wp2
       go_meet
       case rel=>exact⟨_,((a0==4)),(by first|rfl|(simp;done)|(simp[*];done)),H',⟨by have:=HJ4.out;first|omega|exact Nat.le_refl _⟩,⟨by exact bU HB.out⟩⟩
      ·rw[if_neg c13]at H
       have c13b0:(a0==4)=false:=beq_eq_false_iff_ne.mpr c13;have c13b1:(a0 !=4)=true:=bne_iff_ne.mpr c13;(first|rw[c13b0]|(simp only[i64_w,i32_w];rw[c13b0])|skip)
       by_cases c14:a0=11
       ·rw[if_pos c14]at H
        have c14b0:(a0==11)=true:=beq_iff_eq.mpr c14;have c14b1:(a0 !=11)=false:=bne_eq_false_iff_eq.mpr c14;clear c14;have H':=aS H;clear H;go_wp2
        go_meet
        case rel=>exact⟨_,((a0==11)),(by first|rfl|(simp;done)|(simp[*];done)),H',⟨by have:=HJ4.out;first|omega|exact Nat.le_refl _⟩,⟨by exact bU HB.out⟩⟩
       ·rw[if_neg c14]at H
        have c14b0:(a0==11)=false:=beq_eq_false_iff_ne.mpr c14;have c14b1:(a0 !=11)=true:=bne_iff_ne.mpr c14;by_cases c15:a0=12
        ·rw[if_pos c15]at H
         have c15b0:(a0==12)=true:=beq_iff_eq.mpr c15;have c15b1:(a0 !=12)=false:=bne_eq_false_iff_eq.mpr c15;clear c15;have H':=aS H;clear H;go_wp2
         go_meet
         case rel=>exact⟨_,((a0==12)),(by first|rfl|(simp;done)|(simp[*];done)),H',⟨by have:=HJ4.out;first|omega|exact Nat.le_refl _⟩,⟨by exact bU HB.out⟩⟩
        ·rw[if_neg c15]at H
         have c15b0:(a0==12)=false:=beq_eq_false_iff_ne.mpr c15;have c15b1:(a0 !=12)=true:=bne_iff_ne.mpr c15;have H':=aS H;clear H;go_wp2
         go_meet
         case rel=>exact⟨_,((a0==14)),(by first|rfl|(simp;done)|(simp[*];done)),H',⟨by have:=HJ4.out;first|omega|exact Nat.le_refl _⟩,⟨by exact bU HB.out⟩⟩
     case rest=>
      clear HC12;(try clear c1);(try clear c2);(try clear c2b0);(try clear c2b1);(try clear p2);(try clear c5);(try clear c6);(try clear c6b0);(try clear c6b1);(try clear c7);(try clear c7b0);(try clear c7b1);(try clear c8);(try clear c8b0);(try clear c8b1);(try clear c9);(try clear c13);(try clear c13b0);(try clear c13b1);(try clear c14);(try clear c14b0);(try clear c14b1);(try clear c15);(try clear c15b0);(try clear c15b1);(try clear p2)
      obtain⟨kq,x13_11,rfl,HA,HJ11,HB⟩:=hcut;cases kq with
      |zero=>exact absurd HA.out (by simp[spec_l2Form.j1])
      |succ kj11=>
       have H:=HA.out;clear HA;simp only[spec_l2Form.j1]at H
       by_cases c16:x13_11=true
       ·subst c16
        have H1:(some (([true,false,false,false]:List Bool)))=some r:=by rw[if_pos rfl]at H;exact H
        clear H;have H:=H1;clear H1;obtain⟨y146,hy146⟩: ∃y_:List Bool,y_=(([true,false,false,false]:List Bool)):=⟨_,rfl⟩;replace H:(some y146)=some r:=by first|(rw[hy146];with_reducible exact H)|(have H2_:=(Option.bind_some _ _).symm.trans H;rw[hy146];with_reducible exact H2_)|(have H2_:=(Option.bind_some _ _).symm.trans H;with_reducible exact H2_)|with_reducible exact H|(rw[hy146];exact H)|exact H
        have Ny146:=aS hy146;clear hy146;obtain rfl:=Option.some.inj H;go_wp2_with (first|((with_reducible refine gate_dst (N:=18) rfl ?_);refine Kd.R_lit Kd.bool _ 4 ?hg (N:=18) ?hd (xs:=([true,false,false,false]:List Bool)) (inner:=[.bool true,.bool false,.bool false,.bool false]) (ok:=fun _=>True) (okp:=fun _=>True) ?hr ?hp (fun _ hk=>hk) trivial (Below.refl _ _) (Nat.le_refl _) (by simp) ?_;(case hd=>rfl);(case hg=>rfl);(case hr=>go_simp<;>rfl);(case hp=>exact(Reps.one (show Kd.M Kd.bool _ _ _ true [.bool true]from rfl) (Reps.one (show Kd.M Kd.bool _ _ _ false [.bool false]from rfl) (Reps.one (show Kd.M Kd.bool _ _ _ false [.bool false]from rfl) (Reps.one (show Kd.M Kd.bool _ _ _ false [.bool false]from rfl) (Reps.none _ _))))));intro v147 w17 ho18 hb hg_ hnew_;clear hg_ hnew_;(first|rw[←Ny146.out]at ho18|(simp only[Int.reduceToNat]at ho18;rw[←Ny146.out]at ho18));have HO148:=aS (Kd.R_lower ho18 (below_size (by exact bU HB.out)));replace HB:=aS (below_step (by exact bU HB.out) hb);clear hb ho18))
        go_ret
        exact⟨_,by first|rfl|(simp[*]<;>rfl),by exact rU HO148.out,by exact bU HB.out⟩
       ·replace c16:=Bool.eq_false_iff.mpr c16
        subst c16;have H1:(if a0=5 then(some (([true,false,true,false]:List Bool)))else(if a0=8 then(some (([true,true,true,true]:List Bool)))else(if a0=9 then(some (([false,false,true,false]:List Bool)))else(if a0=10 then(some (([true,false,true,true]:List Bool)))else(if a0=13 then(some (([false,false,false,true]:List Bool)))else(some (([]:List Bool))))))))=some r:=by rw[if_neg (show¬(false=true) by decide)]at H;exact H
        clear H;have H:=H1;clear H1;by_cases c19:a0=5
        ·rw[if_pos c19]at H
         have c19b0:(a0==5)=true:=beq_iff_eq.mpr c19;have c19b1:(a0 !=5)=false:=bne_eq_false_iff_eq.mpr c19;clear c19;obtain⟨y149,hy149⟩: ∃y_:List Bool,y_=(([true,false,true,false]:List Bool)):=⟨_,rfl⟩;replace H:(some y149)=some r:=by first|(rw[hy149];with_reducible exact H)|(have H2_:=(Option.bind_some _ _).symm.trans H;rw[hy149];with_reducible exact H2_)|(have H2_:=(Option.bind_some _ _).symm.trans H;with_reducible exact H2_)|with_reducible exact H|(rw[hy149];exact H)|exact H
         have Ny149:=aS hy149;clear hy149;obtain rfl:=Option.some.inj H;go_wp2_with (first|((with_reducible refine gate_dst (N:=21) rfl ?_);refine Kd.R_lit Kd.bool _ 4 ?hg (N:=21) ?hd (xs:=([true,false,true,false]:List Bool)) (inner:=[.bool true,.bool false,.bool true,.bool false]) (ok:=fun _=>True) (okp:=fun _=>True) ?hr ?hp (fun _ hk=>hk) trivial (Below.refl _ _) (Nat.le_refl _) (by simp) ?_;(case hd=>rfl);(case hg=>rfl);(case hr=>go_simp<;>rfl);(case hp=>exact(Reps.one (show Kd.M Kd.bool _ _ _ true [.bool true]from rfl) (Reps.one (show Kd.M Kd.bool _ _ _ false [.bool false]from rfl) (Reps.one (show Kd.M Kd.bool _ _ _ true [.bool true]from rfl) (Reps.one (show Kd.M Kd.bool _ _ _ false [.bool false]from rfl) (Reps.none _ _))))));intro v150 w20 ho21 hb hg_ hnew_;clear hg_ hnew_;(first|rw[←Ny149.out]at ho21|(simp only[Int.reduceToNat]at ho21;rw[←Ny149.out]at ho21));have HO151:=aS (Kd.R_lower ho21 (below_size (by exact bU HB.out)));replace HB:=aS (below_step (by exact bU HB.out) hb);clear hb ho21))
         go_ret
         exact⟨_,by first|rfl|(simp[*]<;>rfl),by exact rU HO151.out,by exact bU HB.out⟩
        ·rw[if_neg c19]at H
         have c19b0:(a0==5)=false:=beq_eq_false_iff_ne.mpr c19;have c19b1:(a0 !=5)=true:=bne_iff_ne.mpr c19;by_cases c22:a0=8
         ·rw[if_pos c22]at H
          have c22b0:(a0==8)=true:=beq_iff_eq.mpr c22;have c22b1:(a0 !=8)=false:=bne_eq_false_iff_eq.mpr c22;clear c22;obtain⟨y152,hy152⟩: ∃y_:List Bool,y_=(([true,true,true,true]:List Bool)):=⟨_,rfl⟩;replace H:(some y152)=some r:=by first|(rw[hy152];with_reducible exact H)|(have H2_:=(Option.bind_some _ _).symm.trans H;rw[hy152];with_reducible exact H2_)|(have H2_:=(Option.bind_some _ _).symm.trans H;with_reducible exact H2_)|with_reducible exact H|(rw[hy152];exact H)|exact H
          have Ny152:=aS hy152;clear hy152;obtain rfl:=Option.some.inj H;go_wp2_with (first|((with_reducible refine gate_dst (N:=24) rfl ?_);refine Kd.R_lit Kd.bool _ 4 ?hg (N:=24) ?hd (xs:=([true,true,true,true]:List Bool)) (inner:=[.bool true,.bool true,.bool true,.bool true]) (ok:=fun _=>True) (okp:=fun _=>True) ?hr ?hp (fun _ hk=>hk) trivial (Below.refl _ _) (Nat.le_refl _) (by simp) ?_;(case hd=>rfl);(case hg=>rfl);(case hr=>go_simp<;>rfl);(case hp=>exact(Reps.one (show Kd.M Kd.bool _ _ _ true [.bool true]from rfl) (Reps.one (show Kd.M Kd.bool _ _ _ true [.bool true]from rfl) (Reps.one (show Kd.M Kd.bool _ _ _ true [.bool true]from rfl) (Reps.one (show Kd.M Kd.bool _ _ _ true [.bool true]from rfl) (Reps.none _ _))))));intro v153 w23 ho24 hb hg_ hnew_;clear hg_ hnew_;(first|rw[←Ny152.out]at ho24|(simp only[Int.reduceToNat]at ho24;rw[←Ny152.out]at ho24));have HO154:=aS (Kd.R_lower ho24 (below_size (by exact bU HB.out)));replace HB:=aS (below_step (by exact bU HB.out) hb);clear hb ho24))
          go_ret
          exact⟨_,by first|rfl|(simp[*]<;>rfl),by exact rU HO154.out,by exact bU HB.out⟩
         ·rw[if_neg c22]at H
          have c22b0:(a0==8)=false:=beq_eq_false_iff_ne.mpr c22;have c22b1:(a0 !=8)=true:=bne_iff_ne.mpr c22;by_cases c25:a0=9
          ·rw[if_pos c25]at H
           have c25b0:(a0==9)=true:=beq_iff_eq.mpr c25;have c25b1:(a0 !=9)=false:=bne_eq_false_iff_eq.mpr c25;clear c25;obtain⟨y155,hy155⟩: ∃y_:List Bool,y_=(([false,false,true,false]:List Bool)):=⟨_,rfl⟩;replace H:(some y155)=some r:=by first|(rw[hy155];with_reducible exact H)|(have H2_:=(Option.bind_some _ _).symm.trans H;rw[hy155];with_reducible exact H2_)|(have H2_:=(Option.bind_some _ _).symm.trans H;with_reducible exact H2_)|with_reducible exact H|(rw[hy155];exact H)|exact H
           have Ny155:=aS hy155;clear hy155;obtain rfl:=Option.some.inj H;go_wp2_with (first|((with_reducible refine gate_dst (N:=27) rfl ?_);refine Kd.R_lit Kd.bool _ 4 ?hg (N:=27) ?hd (xs:=([false,false,true,false]:List Bool)) (inner:=[.bool false,.bool false,.bool true,.bool false]) (ok:=fun _=>True) (okp:=fun _=>True) ?hr ?hp (fun _ hk=>hk) trivial (Below.refl _ _) (Nat.le_refl _) (by simp) ?_;(case hd=>rfl);(case hg=>rfl);(case hr=>go_simp<;>rfl);(case hp=>exact(Reps.one (show Kd.M Kd.bool _ _ _ false [.bool false]from rfl) (Reps.one (show Kd.M Kd.bool _ _ _ false [.bool false]from rfl) (Reps.one (show Kd.M Kd.bool _ _ _ true [.bool true]from rfl) (Reps.one (show Kd.M Kd.bool _ _ _ false [.bool false]from rfl) (Reps.none _ _))))));intro v156 w26 ho27 hb hg_ hnew_;clear hg_ hnew_;(first|rw[←Ny155.out]at ho27|(simp only[Int.reduceToNat]at ho27;rw[←Ny155.out]at ho27));have HO157:=aS (Kd.R_lower ho27 (below_size (by exact bU HB.out)));replace HB:=aS (below_step (by exact bU HB.out) hb);clear hb ho27))
           go_ret
           exact⟨_,by first|rfl|(simp[*]<;>rfl),by exact rU HO157.out,by exact bU HB.out⟩
          ·rw[if_neg c25]at H
           have c25b0:(a0==9)=false:=beq_eq_false_iff_ne.mpr c25;have c25b1:(a0 !=9)=true:=bne_iff_ne.mpr c25;by_cases c28:a0=10
           ·rw[if_pos c28]at H
            have c28b0:(a0==10)=true:=beq_iff_eq.mpr c28;have c28b1:(a0 !=10)=false:=bne_eq_false_iff_eq.mpr c28;clear c28;obtain⟨y158,hy158⟩: ∃y_:List Bool,y_=(([true,false,true,true]:List Bool)):=⟨_,rfl⟩;replace H:(some y158)=some r:=by first|(rw[hy158];with_reducible exact H)|(have H2_:=(Option.bind_some _ _).symm.trans H;rw[hy158];with_reducible exact H2_)|(have H2_:=(Option.bind_some _ _).symm.trans H;with_reducible exact H2_)|with_reducible exact H|(rw[hy158];exact H)|exact H
            have Ny158:=aS hy158;clear hy158;obtain rfl:=Option.some.inj H;go_wp2_with (first|((with_reducible refine gate_dst (N:=30) rfl ?_);refine Kd.R_lit Kd.bool _ 4 ?hg (N:=30) ?hd (xs:=([true,false,true,true]:List Bool)) (inner:=[.bool true,.bool false,.bool true,.bool true]) (ok:=fun _=>True) (okp:=fun _=>True) ?hr ?hp (fun _ hk=>hk) trivial (Below.refl _ _) (Nat.le_refl _) (by simp) ?_;(case hd=>rfl);(case hg=>rfl);(case hr=>go_simp<;>rfl);(case hp=>exact(Reps.one (show Kd.M Kd.bool _ _ _ true [.bool true]from rfl) (Reps.one (show Kd.M Kd.bool _ _ _ false [.bool false]from rfl) (Reps.one (show Kd.M Kd.bool _ _ _ true [.bool true]from rfl) (Reps.one (show Kd.M Kd.bool _ _ _ true [.bool true]from rfl) (Reps.none _ _))))));intro v159 w29 ho30 hb hg_ hnew_;clear hg_ hnew_;(first|rw[←Ny158.out]at ho30|(simp only[Int.reduceToNat]at ho30;rw[←Ny158.out]at ho30));have HO160:=aS (Kd.R_lower ho30 (below_size (by exact bU HB.out)));replace HB:=aS (below_step (by exact bU HB.out) hb);clear hb ho30))
            go_ret
            exact⟨_,by first|rfl|(simp[*]<;>rfl),by exact rU HO160.out,by exact bU HB.out⟩
           ·rw[if_neg c28]at H
            have c28b0:(a0==10)=false:=beq_eq_false_iff_ne.mpr c28;have c28b1:(a0 !=10)=true:=bne_iff_ne.mpr c28;by_cases c31:a0=13
            ·rw[if_pos c31]at H
             have c31b0:(a0==13)=true:=beq_iff_eq.mpr c31;have c31b1:(a0 !=13)=false:=bne_eq_false_iff_eq.mpr c31;clear c31;obtain⟨y161,hy161⟩: ∃y_:List Bool,y_=(([false,false,false,true]:List Bool)):=⟨_,rfl⟩;replace H:(some y161)=some r:=by first|(rw[hy161];with_reducible exact H)|(have H2_:=(Option.bind_some _ _).symm.trans H;rw[hy161];with_reducible exact H2_)|(have H2_:=(Option.bind_some _ _).symm.trans H;with_reducible exact H2_)|with_reducible exact H|(rw[hy161];exact H)|exact H
             have Ny161:=aS hy161;clear hy161;obtain rfl:=Option.some.inj H;go_wp2_with (first|((with_reducible refine gate_dst (N:=33) rfl ?_);refine Kd.R_lit Kd.bool _ 4 ?hg (N:=33) ?hd (xs:=([false,false,false,true]:List Bool)) (inner:=[.bool false,.bool false,.bool false,.bool true]) (ok:=fun _=>True) (okp:=fun _=>True) ?hr ?hp (fun _ hk=>hk) trivial (Below.refl _ _) (Nat.le_refl _) (by simp) ?_;(case hd=>rfl);(case hg=>rfl);(case hr=>go_simp<;>rfl);(case hp=>exact(Reps.one (show Kd.M Kd.bool _ _ _ false [.bool false]from rfl) (Reps.one (show Kd.M Kd.bool _ _ _ false [.bool false]from rfl) (Reps.one (show Kd.M Kd.bool _ _ _ false [.bool false]from rfl) (Reps.one (show Kd.M Kd.bool _ _ _ true [.bool true]from rfl) (Reps.none _ _))))));intro v162 w32 ho33 hb hg_ hnew_;clear hg_ hnew_;(first|rw[←Ny161.out]at ho33|(simp only[Int.reduceToNat]at ho33;rw[←Ny161.out]at ho33));have HO163:=aS (Kd.R_lower ho33 (below_size (by exact bU HB.out)));replace HB:=aS (below_step (by exact bU HB.out) hb);clear hb ho33))
             go_ret
             exact⟨_,by first|rfl|(simp[*]<;>rfl),by exact rU HO163.out,by exact bU HB.out⟩
            ·rw[if_neg c31]at H
             have c31b0:(a0==13)=false:=beq_eq_false_iff_ne.mpr c31;have c31b1:(a0 !=13)=true:=bne_iff_ne.mpr c31;obtain⟨y164,hy164⟩: ∃y_:List Bool,y_=(([]:List Bool)):=⟨_,rfl⟩;replace H:(some y164)=some r:=by first|(rw[hy164];with_reducible exact H)|(have H2_:=(Option.bind_some _ _).symm.trans H;rw[hy164];with_reducible exact H2_)|(have H2_:=(Option.bind_some _ _).symm.trans H;with_reducible exact H2_)|with_reducible exact H|(rw[hy164];exact H)|exact H
             have Ny164:=aS hy164;clear hy164;obtain rfl:=Option.some.inj H;go_wp2_with (first|((with_reducible refine gate_dst (N:=34) rfl ?_);refine Kd.R_lit Kd.bool _ 4 ?hg (N:=34) ?hd (xs:=([]:List Bool)) (inner:=[]) (ok:=fun _=>True) (okp:=fun _=>True) ?hr ?hp (fun _ hk=>hk) trivial (Below.refl _ _) (Nat.le_refl _) (by simp) ?_;(case hd=>rfl);(case hg=>rfl);(case hr=>go_simp<;>rfl);(case hp=>exact(Reps.none _ _));intro v165 w34 ho35 hb hg_ hnew_;clear hg_ hnew_;(first|rw[←Ny164.out]at ho35|(simp only[Int.reduceToNat]at ho35;rw[←Ny164.out]at ho35));have HO166:=aS (Kd.R_lower ho35 (below_size (by exact bU HB.out)));replace HB:=aS (below_step (by exact bU HB.out) hb);clear hb ho35))
             go_ret
             exact⟨_,by first|rfl|(simp[*]<;>rfl),by exact rU HO166.out,by exact bU HB.out⟩
def spec_l6In.f (a0:Int) (a1:Int) (a2:Int):Option (Bool):=if a0≥a1 then(some (decide (a0≤a2)))else(some false)
theorem spec_l6In.calls (a0:Int) (a1:Int) (a2:Int) (r:Bool) (w:World) (h:spec_l6In.f a0 a1 a2=some r):
  Calls Try.prog 59 #[.int .i64 a0,.int .i64 a1,.int .i64 a2] w fun e w'=>e= .returned (.bool r)∧Drawn0 w w':=by
 have H:(if a0≥a1 then(some (decide (a0≤a2)))else(some false))=some r:=h
 clear h;by_cases c4:a0≥a1
 ·rw[if_pos c4]at H
  have c4b0:decide (a1≤a0)=true:=decide_eq_true c4;clear c4;obtain rfl:=Option.some.inj H;go_enter Try.func59,Try.ntmps59
  go_wp2
  go_ret
  exact⟨by first|rfl|(simp;done)|(simp[*];done),by repeat(first|exact Drawn0.refl _|apply Drawn0.step)⟩
 ·rw[if_neg c4]at H
  have c4b0:decide (a1≤a0)=false:=decide_eq_false c4;clear c4;obtain rfl:=Option.some.inj H;go_enter Try.func59,Try.ntmps59
  go_wp2
  go_ret
  exact⟨by first|rfl|(simp;done)|(simp[*];done),by repeat(first|exact Drawn0.refl _|apply Drawn0.step)⟩
def spec_ValOk.f (a0_0:Int) (a0_1:Int):Option (Bool):=if a0_0=0 then(some (a0_1==0))else(if a0_0=1 then((spec_l6In.f a0_1 (-99) 99).bind fun t168=>(some t168))else(if a0_0=2 then((spec_l6In.f a0_1 0 9).bind fun t169=>(some t169))else(if a0_0=3 then((spec_l6In.f a0_1 1 6).bind fun t170=>(some t170))else(some false))))
theorem spec_ValOk.calls (a0_0:Int) (a0_1:Int) (r:Bool) (w:World) (h:spec_ValOk.f a0_0 a0_1=some r):
  Calls Try.prog 58 #[.agg #[.int .i64 a0_0,.int .i64 a0_1]] w fun e w'=>e= .returned (.bool r)∧Below w.heap.size w w':=by
 have hu27:=Try.underlying27;have HB:=aS (Below.refl w.heap.size w);have H:(if a0_0=0 then(some (a0_1==0))else(if a0_0=1 then((spec_l6In.f a0_1 (-99) 99).bind fun t168=>(some t168))else(if a0_0=2 then((spec_l6In.f a0_1 0 9).bind fun t169=>(some t169))else(if a0_0=3 then((spec_l6In.f a0_1 1 6).bind fun t170=>(some t170))else(some false)))))=some r:=h
 clear h;by_cases c2:a0_0=0
 ·rw[if_pos c2]at H
  have c2b0:(a0_0==0)=true:=beq_iff_eq.mpr c2;have c2b1:(a0_0 !=0)=false:=bne_eq_false_iff_eq.mpr c2;clear c2;obtain rfl:=Option.some.inj H;go_enter Try.func58,Try.ntmps58
  go_wp2_with (first|((with_reducible refine gate_dst (N:=1) rfl ?_);refine box_event ?hg (N:=1) ?hd (cs:= #[.int .i64 a0_0,.int .i64 a0_1]) (t:=27) ?hr ?_;(case hd=>rfl);(case hg=>rfl);(case hr=>go_simp<;>rfl);intro gb167 hg w3 hbox hb;have n0_:=aS (below_step (by exact bU HB.out) hb);have n1_:=aS (hbox);have n2_:=aS ((by rw[hg];exact(below_size (by exact bU HB.out)):w.heap.size≤gb167));have n3_:=aS ((by rw[hg];exact(below_size (by exact bU HB.out)):w.heap.size≤gb167));clear HB;have HB:=n0_;have BK167:=n1_;have GW167:=n2_;have GE167:=n3_;clear n0_ n1_ n2_ n3_;clear hb hbox hg;have hcz4_0:w3.cell? ⟨gb167,0,none⟩=some (.int .i64 a0_0):=(blk_cell BK167.out 0).trans rfl;have hcz4_1:w3.cell? ⟨gb167,1,none⟩=some (.int .i64 a0_1):=(blk_cell BK167.out 1).trans rfl;have hfz4_0:=blk_frozen BK167.out 0;have hfz4_1:=blk_frozen BK167.out 1))
  go_ret
  exact⟨by first|rfl|(simp[*]<;>rfl),by repeat(with_reducible first|exact HB.out|apply bA|apply bN|apply b1|refine below_set ?_ GE167.out)⟩
 ·rw[if_neg c2]at H
  have c2b0:(a0_0==0)=false:=beq_eq_false_iff_ne.mpr c2;have c2b1:(a0_0 !=0)=true:=bne_iff_ne.mpr c2;by_cases c5:a0_0=1
  ·rw[if_pos c5]at H
   have c5b0:(a0_0==1)=true:=beq_iff_eq.mpr c5;have c5b1:(a0_0 !=1)=false:=bne_eq_false_iff_eq.mpr c5;clear c5;replace H:=Option.bind_eq_some_iff.mp H;obtain⟨t168,A60,H⟩:=H;replace H:(some t168)=some r:=H;have A6:=aS A60;clear A60;obtain rfl:=Option.some.inj H;go_enter Try.func58,Try.ntmps58
   go_wp2_with (first|((with_reducible refine gate_dst (N:=1) rfl ?_);refine box_event ?hg (N:=1) ?hd (cs:= #[.int .i64 a0_0,.int .i64 a0_1]) (t:=27) ?hr ?_;(case hd=>rfl);(case hg=>rfl);(case hr=>go_simp<;>rfl);intro gb167 hg w7 hbox hb;have n0_:=aS (below_step (by exact bU HB.out) hb);have n1_:=aS (hbox);have n2_:=aS ((by rw[hg];exact(below_size (by exact bU HB.out)):w.heap.size≤gb167));have n3_:=aS ((by rw[hg];exact(below_size (by exact bU HB.out)):w.heap.size≤gb167));clear HB;have HB:=n0_;have BK167:=n1_;have GW167:=n2_;have GE167:=n3_;clear n0_ n1_ n2_ n3_;clear hb hbox hg;have hcz8_0:w7.cell? ⟨gb167,0,none⟩=some (.int .i64 a0_0):=(blk_cell BK167.out 0).trans rfl;have hcz8_1:w7.cell? ⟨gb167,1,none⟩=some (.int .i64 a0_1):=(blk_cell BK167.out 1).trans rfl;have hfz8_0:=blk_frozen BK167.out 0;have hfz8_1:=blk_frozen BK167.out 1)|((with_reducible refine gate_callee (f:=59) rfl ?_);refine goesL_ (some 14) rfl rfl Try.func59 (by kernel_rfl) rfl #[.int .i64 a0_1,.int .i64 (-99),.int .i64 99] rfl (by(try simp only[List.map_toArray,List.map_cons,List.map_nil]);first|done|rfl|(simp only[List.length_drop,List.length_take];rfl)) ?_;(with_reducible refine(spec_l6In.calls a0_1 (-99) 99 t168 _ A6.out).mono ?_);rintro e w' ⟨rfl,⟨nd,rfl⟩⟩;refine⟨_,rfl,?_⟩))
   go_ret
   exact⟨by first|rfl|(simp[*]<;>rfl),by repeat(with_reducible first|exact HB.out|apply bA|apply bN|apply b1|refine below_set ?_ GE167.out)⟩
  ·rw[if_neg c5]at H
   have c5b0:(a0_0==1)=false:=beq_eq_false_iff_ne.mpr c5;have c5b1:(a0_0 !=1)=true:=bne_iff_ne.mpr c5;by_cases c9:a0_0=2
   ·rw[if_pos c9]at H
    have c9b0:(a0_0==2)=true:=beq_iff_eq.mpr c9;have c9b1:(a0_0 !=2)=false:=bne_eq_false_iff_eq.mpr c9;clear c9;replace H:=Option.bind_eq_some_iff.mp H;obtain⟨t169,A100,H⟩:=H;replace H:(some t169)=some r:=H;have A10:=aS A100;clear A100;obtain rfl:=Option.some.inj H;go_enter Try.func58,Try.ntmps58
    go_wp2_with (first|((with_reducible refine gate_dst (N:=1) rfl ?_);refine box_event ?hg (N:=1) ?hd (cs:= #[.int .i64 a0_0,.int .i64 a0_1]) (t:=27) ?hr ?_;(case hd=>rfl);(case hg=>rfl);(case hr=>go_simp<;>rfl);intro gb167 hg w11 hbox hb;have n0_:=aS (below_step (by exact bU HB.out) hb);have n1_:=aS (hbox);have n2_:=aS ((by rw[hg];exact(below_size (by exact bU HB.out)):w.heap.size≤gb167));have n3_:=aS ((by rw[hg];exact(below_size (by exact bU HB.out)):w.heap.size≤gb167));clear HB;have HB:=n0_;have BK167:=n1_;have GW167:=n2_;have GE167:=n3_;clear n0_ n1_ n2_ n3_;clear hb hbox hg;have hcz12_0:w11.cell? ⟨gb167,0,none⟩=some (.int .i64 a0_0):=(blk_cell BK167.out 0).trans rfl;have hcz12_1:w11.cell? ⟨gb167,1,none⟩=some (.int .i64 a0_1):=(blk_cell BK167.out 1).trans rfl;have hfz12_0:=blk_frozen BK167.out 0;have hfz12_1:=blk_frozen BK167.out 1)|((with_reducible refine gate_callee (f:=59) rfl ?_);refine goesL_ (some 19) rfl rfl Try.func59 (by kernel_rfl) rfl #[.int .i64 a0_1,.int .i64 0,.int .i64 9] rfl (by(try simp only[List.map_toArray,List.map_cons,List.map_nil]);first|done|rfl|(simp only[List.length_drop,List.length_take];rfl)) ?_;(with_reducible refine(spec_l6In.calls a0_1 0 9 t169 _ A10.out).mono ?_);rintro e w' ⟨rfl,⟨nd,rfl⟩⟩;refine⟨_,rfl,?_⟩))
    go_ret
    exact⟨by first|rfl|(simp[*]<;>rfl),by repeat(with_reducible first|exact HB.out|apply bA|apply bN|apply b1|refine below_set ?_ GE167.out)⟩
   ·rw[if_neg c9]at H
    have c9b0:(a0_0==2)=false:=beq_eq_false_iff_ne.mpr c9;have c9b1:(a0_0 !=2)=true:=bne_iff_ne.mpr c9;by_cases c13:a0_0=3
    ·rw[if_pos c13]at H
     have c13b0:(a0_0==3)=true:=beq_iff_eq.mpr c13;have c13b1:(a0_0 !=3)=false:=bne_eq_false_iff_eq.mpr c13;clear c13;replace H:=Option.bind_eq_some_iff.mp H;obtain⟨t170,A140,H⟩:=H;replace H:(some t170)=some r:=H;have A14:=aS A140;clear A140;obtain rfl:=Option.some.inj H;go_enter Try.func58,Try.ntmps58
     go_wp2_with (first|((with_reducible refine gate_dst (N:=1) rfl ?_);refine box_event ?hg (N:=1) ?hd (cs:= #[.int .i64 a0_0,.int .i64 a0_1]) (t:=27) ?hr ?_;(case hd=>rfl);(case hg=>rfl);(case hr=>go_simp<;>rfl);intro gb167 hg w15 hbox hb;have n0_:=aS (below_step (by exact bU HB.out) hb);have n1_:=aS (hbox);have n2_:=aS ((by rw[hg];exact(below_size (by exact bU HB.out)):w.heap.size≤gb167));have n3_:=aS ((by rw[hg];exact(below_size (by exact bU HB.out)):w.heap.size≤gb167));clear HB;have HB:=n0_;have BK167:=n1_;have GW167:=n2_;have GE167:=n3_;clear n0_ n1_ n2_ n3_;clear hb hbox hg;have hcz16_0:w15.cell? ⟨gb167,0,none⟩=some (.int .i64 a0_0):=(blk_cell BK167.out 0).trans rfl;have hcz16_1:w15.cell? ⟨gb167,1,none⟩=some (.int .i64 a0_1):=(blk_cell BK167.out 1).trans rfl;have hfz16_0:=blk_frozen BK167.out 0;have hfz16_1:=blk_frozen BK167.out 1)|((with_reducible refine gate_callee (f:=59) rfl ?_);refine goesL_ (some 24) rfl rfl Try.func59 (by kernel_rfl) rfl #[.int .i64 a0_1,.int .i64 1,.int .i64 6] rfl (by(try simp only[List.map_toArray,List.map_cons,List.map_nil]);first|done|rfl|(simp only[List.length_drop,List.length_take];rfl)) ?_;(with_reducible refine(spec_l6In.calls a0_1 1 6 t170 _ A14.out).mono ?_);rintro e w' ⟨rfl,⟨nd,rfl⟩⟩;refine⟨_,rfl,?_⟩))
     go_ret
     exact⟨by first|rfl|(simp[*]<;>rfl),by repeat(with_reducible first|exact HB.out|apply bA|apply bN|apply b1|refine below_set ?_ GE167.out)⟩
    ·rw[if_neg c13]at H
     have c13b0:(a0_0==3)=false:=beq_eq_false_iff_ne.mpr c13;have c13b1:(a0_0 !=3)=true:=bne_iff_ne.mpr c13;obtain rfl:=Option.some.inj H;go_enter Try.func58,Try.ntmps58
     go_wp2_with (first|((with_reducible refine gate_dst (N:=1) rfl ?_);refine box_event ?hg (N:=1) ?hd (cs:= #[.int .i64 a0_0,.int .i64 a0_1]) (t:=27) ?hr ?_;(case hd=>rfl);(case hg=>rfl);(case hr=>go_simp<;>rfl);intro gb167 hg w17 hbox hb;have n0_:=aS (below_step (by exact bU HB.out) hb);have n1_:=aS (hbox);have n2_:=aS ((by rw[hg];exact(below_size (by exact bU HB.out)):w.heap.size≤gb167));have n3_:=aS ((by rw[hg];exact(below_size (by exact bU HB.out)):w.heap.size≤gb167));clear HB;have HB:=n0_;have BK167:=n1_;have GW167:=n2_;have GE167:=n3_;clear n0_ n1_ n2_ n3_;clear hb hbox hg;have hcz18_0:w17.cell? ⟨gb167,0,none⟩=some (.int .i64 a0_0):=(blk_cell BK167.out 0).trans rfl;have hcz18_1:w17.cell? ⟨gb167,1,none⟩=some (.int .i64 a0_1):=(blk_cell BK167.out 1).trans rfl;have hfz18_0:=blk_frozen BK167.out 0;have hfz18_1:=blk_frozen BK167.out 1))
     go_ret
     exact⟨by first|rfl|(simp[*]<;>rfl),by repeat(with_reducible first|exact HB.out|apply bA|apply bN|apply b1|refine below_set ?_ GE167.out)⟩
end Go.Proofs.Ytmklpbmlgjkbiaa.PS
end
section
namespace Go.Proofs.Ytmklpbmlgjkbiaa.PS
open Go.RowKit Go.Proofs.YtmklpbmlgjkbiaaW.PrintWords Go.Proofs.YtmklpbmlgjkbiaaW.PrintLast
attribute [local go_sem high] eqA27
theorem in2_any (a b c:Int) (w:World):Calls Try.prog 59 #[.int .i64 a,.int .i64 b,.int .i64 c] w fun e w'=>e= .returned (.bool (decide (b≤a∧a≤c)))∧w=w':=by
  by_cases h1:b≤a<;>by_cases h2:a≤c<;>(go_enter Try.func59,Try.ntmps59;go_wp2;go_ret;exact⟨by simp[h1,h2],rfl⟩)
theorem slot_any (a:Int) (w:World):Calls Try.prog 60 #[.int .i64 a] w fun e w'=>e= .returned (.bool (decide (0≤a∧a≤3)))∧w=w':=by
  go_enter Try.func60,Try.ntmps60
  go_wp2_with (go_at_call 59;refine(in2_any _ _ _ _).mono ?_;rintro e w' ⟨rfl,rfl⟩)
  go_ret
  exact⟨by first|rfl|simp,rfl⟩
theorem to_any (a:Int) (w:World):Calls Try.prog 61 #[.int .i64 a] w fun e w'=>e= .returned (.bool (decide (0≤a∧a≤15)))∧w=w':=by
  go_enter Try.func61,Try.ntmps61
  go_wp2_with (go_at_call 59;refine(in2_any _ _ _ _).mono ?_;rintro e w' ⟨rfl,rfl⟩)
  go_ret
  exact⟨by first|rfl|simp,rfl⟩
theorem cell_lt {w:World} {g i:Nat} {v:Value} (h:w.cell? ⟨g,i,none⟩=some v):g<w.heap.size:=by
  by_cases hg:g<w.heap.size
  · exact hg
  · simp[World.cell?,Array.getElem?_eq_none (Nat.not_lt.1 hg)]at h
theorem own4 {w:World} {base:Nat} {ok:Nat→Prop} {v:Value} {a b c d:Bool} (h:Kd.R Kd.bool 4 w base ok v [a,b,c,d]):
    ∃g cap,v= .slice (some ⟨g,0,none⟩) 4 cap∧base≤g∧w.cell? ⟨g,0,none⟩=some (.bool a)∧w.cell? ⟨g,1,none⟩=some (.bool b)∧w.cell? ⟨g,2,none⟩=some (.bool c)∧w.cell? ⟨g,3,none⟩=some (.bool d):=by
  obtain⟨inner,ho⟩:=Kd.R_own h;rcases ho.2 with ⟨_,h2⟩|⟨g,cap,cur,rfl,hg,_⟩
  · obtain⟨A,c0,e,_,hC⟩:=Kd.R_reads h
    have:=ho.2;simp_all
  · exact⟨g,cap,rfl,hg,(Kd.R_cell (xs:=[a,b,c,d]) false h 0 (by omega) (by simp)).1,(Kd.R_cell (xs:=[a,b,c,d]) false h 1 (by omega) (by simp)).1,(Kd.R_cell (xs:=[a,b,c,d]) false h 2 (by omega) (by simp)).1,(Kd.R_cell (xs:=[a,b,c,d]) false h 3 (by omega) (by simp)).1⟩
theorem specOp_main (k r s t vk vn:Int) (w:World) (g0 u0 u1 u2 u3 vb:Bool)
    (hForm: ∀W,Calls Try.prog 57 #[.int .i64 k] W fun e w'=> ∃g c,e= .returned (.slice (some ⟨g,0,none⟩) 4 c)∧Below W.heap.size W w'∧W.heap.size≤g∧w'.cell? ⟨g,0,none⟩=some (.bool u0)∧w'.cell? ⟨g,1,none⟩=some (.bool u1)∧w'.cell? ⟨g,2,none⟩=some (.bool u2)∧w'.cell? ⟨g,3,none⟩=some (.bool u3))
    (hVal: ∀W,Calls Try.prog 58 #[.agg #[.int .i64 vk,.int .i64 vn]] W fun e w'=>e= .returned (.bool vb)∧Below W.heap.size W w') (c8:(k==8)=false) (c13:(k==13)=false) (hvb:Aside0 (vb=true)) (hg:Aside0 (g0=(((decide (0≤r∧r≤3)&&u0)||r==0)&&(((decide (0≤s∧s≤3)&&u1)||s==0)&&(((decide (0≤t∧t≤15)&&u2)||t==0)&&(u3||(vk==0&&(vn==0)))))))):
    Calls Try.prog 23 #[.agg #[.int .i64 k,.int .i64 r,.int .i64 s,.int .i64 t,.int .i64 vk,.int .i64 vn]] w fun e w'=>e= .returned (.bool g0)∧Below w.heap.size w w':=by
  have BK:Aside0 ((w.alloc (.cells #[.int .i64 k,.int .i64 r,.int .i64 s,.int .i64 t,.int .i64 vk,.int .i64 vn] 29)).heap[w.heap.size]?=some (.cells #[.int .i64 k,.int .i64 r,.int .i64 s,.int .i64 t,.int .i64 vk,.int .i64 vn] 29 (0,0))):=⟨blk_new _ _⟩;have HB:=aS (Below.refl w.heap.size w);have hu27:=Try.underlying27;have hu29:=Try.underlying29;obtain rfl:=hvb.out;clear hvb;go_enter Try.func23,Try.ntmps23
  go_wp2_with (first|(go_at_call 57;refine(hForm _).mono ?_;rintro e w' ⟨g,c,rfl,hb,hg,f0,f1,f2,f3⟩;have SZ:=aS (hb.size);have BK:=aS (blk_below (by exact blkU BK.out) hb);have HB:=aS (below_step (by exact bU HB.out) hb);have q0:w'.cell? ⟨w.heap.size,0,none⟩=some (.int .i64 k):=(blk_cell BK.out 0).trans rfl;have q1:w'.cell? ⟨w.heap.size,1,none⟩=some (.int .i64 r):=(blk_cell BK.out 1).trans rfl;have q2:w'.cell? ⟨w.heap.size,2,none⟩=some (.int .i64 s):=(blk_cell BK.out 2).trans rfl;have q3:w'.cell? ⟨w.heap.size,3,none⟩=some (.int .i64 t):=(blk_cell BK.out 3).trans rfl;have q4:w'.cell? ⟨w.heap.size,4,none⟩=some (.int .i64 vk):=(blk_cell BK.out 4).trans rfl;have q5:w'.cell? ⟨w.heap.size,5,none⟩=some (.int .i64 vn):=(blk_cell BK.out 5).trans rfl;have GS:=aS (cell_lt f0);have P0:=aS f0;have P1:=aS f1;have P2:=aS f2;have P3:=aS f3;clear hb hg)|(go_at_call 58;refine(hVal _).mono ?_;rintro e w'2 ⟨rfl,hb⟩;have P0:=aS ((hb.cell (p:=⟨g,0,none⟩) GS.out).trans P0.out);have P1:=aS ((hb.cell (p:=⟨g,1,none⟩) GS.out).trans P1.out);have P2:=aS ((hb.cell (p:=⟨g,2,none⟩) GS.out).trans P2.out);have P3:=aS ((hb.cell (p:=⟨g,3,none⟩) GS.out).trans P3.out);have BK:=aS (blk_below (by exact blkU BK.out) hb);have HB:=aS (below_step (by exact bU HB.out) hb);have q0:w'2.cell? ⟨w.heap.size,0,none⟩=some (.int .i64 k):=(blk_cell BK.out 0).trans rfl;have q1:w'2.cell? ⟨w.heap.size,1,none⟩=some (.int .i64 r):=(blk_cell BK.out 1).trans rfl;have q2:w'2.cell? ⟨w.heap.size,2,none⟩=some (.int .i64 s):=(blk_cell BK.out 2).trans rfl;have q3:w'2.cell? ⟨w.heap.size,3,none⟩=some (.int .i64 t):=(blk_cell BK.out 3).trans rfl;have q4:w'2.cell? ⟨w.heap.size,4,none⟩=some (.int .i64 vk):=(blk_cell BK.out 4).trans rfl;have q5:w'2.cell? ⟨w.heap.size,5,none⟩=some (.int .i64 vn):=(blk_cell BK.out 5).trans rfl;have f0:=P0.out;have f1:=P1.out;have f2:=P2.out;have f3:=P3.out;clear hb)|(go_at_call 59;refine(in2_any _ _ _ _).mono ?_;rintro e w' ⟨rfl,rfl⟩)|(go_at_call 60;refine(slot_any _ _).mono ?_;rintro e w' ⟨rfl,rfl⟩)|(go_at_call 61;refine(to_any _ _).mono ?_;rintro e w' ⟨rfl,rfl⟩))
  all_goals go_ret
  all_goals refine⟨?_,HB.out⟩
  all_goals(rw[hg.out];simp[*])
theorem specOp_8 (r s t vn:Int) (w:World) (g0 u0 u1 u2 u3 vb:Bool)
    (hForm: ∀W,Calls Try.prog 57 #[.int .i64 8] W fun e w'=> ∃g c,e= .returned (.slice (some ⟨g,0,none⟩) 4 c)∧Below W.heap.size W w'∧W.heap.size≤g∧w'.cell? ⟨g,0,none⟩=some (.bool u0)∧w'.cell? ⟨g,1,none⟩=some (.bool u1)∧w'.cell? ⟨g,2,none⟩=some (.bool u2)∧w'.cell? ⟨g,3,none⟩=some (.bool u3))
    (hVal: ∀W,Calls Try.prog 58 #[.agg #[.int .i64 1,.int .i64 vn]] W fun e w'=>e= .returned (.bool vb)∧Below W.heap.size W w') (hvn:1≤vn) (hvb:Aside0 (vb=true)) (hg:Aside0 (g0=(((decide (0≤r∧r≤3)&&u0)||r==0)&&(((decide (0≤s∧s≤3)&&u1)||s==0)&&(((decide (0≤t∧t≤15)&&u2)||t==0)&&(u3||((1:Int)==0&&(vn==0)))))))):
    Calls Try.prog 23 #[.agg #[.int .i64 8,.int .i64 r,.int .i64 s,.int .i64 t,.int .i64 1,.int .i64 vn]] w fun e w'=>e= .returned (.bool g0)∧Below w.heap.size w w':=by
  have BK:Aside0 ((w.alloc (.cells #[.int .i64 8,.int .i64 r,.int .i64 s,.int .i64 t,.int .i64 1,.int .i64 vn] 29)).heap[w.heap.size]?=some (.cells #[.int .i64 8,.int .i64 r,.int .i64 s,.int .i64 t,.int .i64 1,.int .i64 vn] 29 (0,0))):=⟨blk_new _ _⟩;have HB:=aS (Below.refl w.heap.size w);have hu27:=Try.underlying27;have hu29:=Try.underlying29;obtain rfl:=hvb.out;clear hvb;go_enter Try.func23,Try.ntmps23
  go_wp2_with (first|(go_at_call 57;refine(hForm _).mono ?_;rintro e w' ⟨g,c,rfl,hb,hg,f0,f1,f2,f3⟩;have SZ:=aS (hb.size);have BK:=aS (blk_below (by exact blkU BK.out) hb);have HB:=aS (below_step (by exact bU HB.out) hb);have q0:w'.cell? ⟨w.heap.size,0,none⟩=some (.int .i64 8):=(blk_cell BK.out 0).trans rfl;have q1:w'.cell? ⟨w.heap.size,1,none⟩=some (.int .i64 r):=(blk_cell BK.out 1).trans rfl;have q2:w'.cell? ⟨w.heap.size,2,none⟩=some (.int .i64 s):=(blk_cell BK.out 2).trans rfl;have q3:w'.cell? ⟨w.heap.size,3,none⟩=some (.int .i64 t):=(blk_cell BK.out 3).trans rfl;have q4:w'.cell? ⟨w.heap.size,4,none⟩=some (.int .i64 1):=(blk_cell BK.out 4).trans rfl;have q5:w'.cell? ⟨w.heap.size,5,none⟩=some (.int .i64 vn):=(blk_cell BK.out 5).trans rfl;have GS:=aS (cell_lt f0);have P0:=aS f0;have P1:=aS f1;have P2:=aS f2;have P3:=aS f3;clear hb hg)|(go_at_call 58;refine(hVal _).mono ?_;rintro e w'2 ⟨rfl,hb⟩;have P0:=aS ((hb.cell (p:=⟨g,0,none⟩) GS.out).trans P0.out);have P1:=aS ((hb.cell (p:=⟨g,1,none⟩) GS.out).trans P1.out);have P2:=aS ((hb.cell (p:=⟨g,2,none⟩) GS.out).trans P2.out);have P3:=aS ((hb.cell (p:=⟨g,3,none⟩) GS.out).trans P3.out);have BK:=aS (blk_below (by exact blkU BK.out) hb);have HB:=aS (below_step (by exact bU HB.out) hb);have q0:w'2.cell? ⟨w.heap.size,0,none⟩=some (.int .i64 8):=(blk_cell BK.out 0).trans rfl;have q1:w'2.cell? ⟨w.heap.size,1,none⟩=some (.int .i64 r):=(blk_cell BK.out 1).trans rfl;have q2:w'2.cell? ⟨w.heap.size,2,none⟩=some (.int .i64 s):=(blk_cell BK.out 2).trans rfl;have q3:w'2.cell? ⟨w.heap.size,3,none⟩=some (.int .i64 t):=(blk_cell BK.out 3).trans rfl;have q4:w'2.cell? ⟨w.heap.size,4,none⟩=some (.int .i64 1):=(blk_cell BK.out 4).trans rfl;have q5:w'2.cell? ⟨w.heap.size,5,none⟩=some (.int .i64 vn):=(blk_cell BK.out 5).trans rfl;have f0:=P0.out;have f1:=P1.out;have f2:=P2.out;have f3:=P3.out;clear hb)|(go_at_call 59;refine(in2_any _ _ _ _).mono ?_;rintro e w' ⟨rfl,rfl⟩)|(go_at_call 60;refine(slot_any _ _).mono ?_;rintro e w' ⟨rfl,rfl⟩)|(go_at_call 61;refine(to_any _ _).mono ?_;rintro e w' ⟨rfl,rfl⟩))
  all_goals go_ret
  all_goals refine⟨?_,HB.out⟩
  all_goals(rw[hg.out];simp[*])
theorem specOp_13 (r s t vn:Int) (w:World) (g0 u0 u1 u2 u3 vb:Bool)
    (hForm: ∀W,Calls Try.prog 57 #[.int .i64 13] W fun e w'=> ∃g c,e= .returned (.slice (some ⟨g,0,none⟩) 4 c)∧Below W.heap.size W w'∧W.heap.size≤g∧w'.cell? ⟨g,0,none⟩=some (.bool u0)∧w'.cell? ⟨g,1,none⟩=some (.bool u1)∧w'.cell? ⟨g,2,none⟩=some (.bool u2)∧w'.cell? ⟨g,3,none⟩=some (.bool u3))
    (hVal: ∀W,Calls Try.prog 58 #[.agg #[.int .i64 1,.int .i64 vn]] W fun e w'=>e= .returned (.bool vb)∧Below W.heap.size W w') (hvn:0≤vn) (hvn':vn≤1) (hvb:Aside0 (vb=true)) (hg:Aside0 (g0=(((decide (0≤r∧r≤3)&&u0)||r==0)&&(((decide (0≤s∧s≤3)&&u1)||s==0)&&(((decide (0≤t∧t≤15)&&u2)||t==0)&&(u3||((1:Int)==0&&(vn==0)))))))):
    Calls Try.prog 23 #[.agg #[.int .i64 13,.int .i64 r,.int .i64 s,.int .i64 t,.int .i64 1,.int .i64 vn]] w fun e w'=>e= .returned (.bool g0)∧Below w.heap.size w w':=by
  have BK:Aside0 ((w.alloc (.cells #[.int .i64 13,.int .i64 r,.int .i64 s,.int .i64 t,.int .i64 1,.int .i64 vn] 29)).heap[w.heap.size]?=some (.cells #[.int .i64 13,.int .i64 r,.int .i64 s,.int .i64 t,.int .i64 1,.int .i64 vn] 29 (0,0))):=⟨blk_new _ _⟩;have HB:=aS (Below.refl w.heap.size w);have hu27:=Try.underlying27;have hu29:=Try.underlying29;obtain rfl:=hvb.out;clear hvb;go_enter Try.func23,Try.ntmps23
  go_wp2_with (first|(go_at_call 57;refine(hForm _).mono ?_;rintro e w' ⟨g,c,rfl,hb,hg,f0,f1,f2,f3⟩;have SZ:=aS (hb.size);have BK:=aS (blk_below (by exact blkU BK.out) hb);have HB:=aS (below_step (by exact bU HB.out) hb);have q0:w'.cell? ⟨w.heap.size,0,none⟩=some (.int .i64 13):=(blk_cell BK.out 0).trans rfl;have q1:w'.cell? ⟨w.heap.size,1,none⟩=some (.int .i64 r):=(blk_cell BK.out 1).trans rfl;have q2:w'.cell? ⟨w.heap.size,2,none⟩=some (.int .i64 s):=(blk_cell BK.out 2).trans rfl;have q3:w'.cell? ⟨w.heap.size,3,none⟩=some (.int .i64 t):=(blk_cell BK.out 3).trans rfl;have q4:w'.cell? ⟨w.heap.size,4,none⟩=some (.int .i64 1):=(blk_cell BK.out 4).trans rfl;have q5:w'.cell? ⟨w.heap.size,5,none⟩=some (.int .i64 vn):=(blk_cell BK.out 5).trans rfl;have GS:=aS (cell_lt f0);have P0:=aS f0;have P1:=aS f1;have P2:=aS f2;have P3:=aS f3;clear hb hg)|(go_at_call 58;refine(hVal _).mono ?_;rintro e w'2 ⟨rfl,hb⟩;have P0:=aS ((hb.cell (p:=⟨g,0,none⟩) GS.out).trans P0.out);have P1:=aS ((hb.cell (p:=⟨g,1,none⟩) GS.out).trans P1.out);have P2:=aS ((hb.cell (p:=⟨g,2,none⟩) GS.out).trans P2.out);have P3:=aS ((hb.cell (p:=⟨g,3,none⟩) GS.out).trans P3.out);have BK:=aS (blk_below (by exact blkU BK.out) hb);have HB:=aS (below_step (by exact bU HB.out) hb);have q0:w'2.cell? ⟨w.heap.size,0,none⟩=some (.int .i64 13):=(blk_cell BK.out 0).trans rfl;have q1:w'2.cell? ⟨w.heap.size,1,none⟩=some (.int .i64 r):=(blk_cell BK.out 1).trans rfl;have q2:w'2.cell? ⟨w.heap.size,2,none⟩=some (.int .i64 s):=(blk_cell BK.out 2).trans rfl;have q3:w'2.cell? ⟨w.heap.size,3,none⟩=some (.int .i64 t):=(blk_cell BK.out 3).trans rfl;have q4:w'2.cell? ⟨w.heap.size,4,none⟩=some (.int .i64 1):=(blk_cell BK.out 4).trans rfl;have q5:w'2.cell? ⟨w.heap.size,5,none⟩=some (.int .i64 vn):=(blk_cell BK.out 5).trans rfl;have f0:=P0.out;have f1:=P1.out;have f2:=P2.out;have f3:=P3.out;clear hb)|(go_at_call 59;refine(in2_any _ _ _ _).mono ?_;rintro e w' ⟨rfl,rfl⟩)|(go_at_call 60;refine(slot_any _ _).mono ?_;rintro e w' ⟨rfl,rfl⟩)|(go_at_call 61;refine(to_any _ _).mono ?_;rintro e w' ⟨rfl,rfl⟩))
  all_goals go_ret
  all_goals refine⟨?_,HB.out⟩
  all_goals(rw[hg.out];simp[*])
theorem specOp_bad (k r s t vk vn:Int) (w:World) (g0 u0 u1 u2 u3 vb:Bool)
    (hForm: ∀W,Calls Try.prog 57 #[.int .i64 k] W fun e w'=> ∃g c,e= .returned (.slice (some ⟨g,0,none⟩) 4 c)∧Below W.heap.size W w'∧W.heap.size≤g∧w'.cell? ⟨g,0,none⟩=some (.bool u0)∧w'.cell? ⟨g,1,none⟩=some (.bool u1)∧w'.cell? ⟨g,2,none⟩=some (.bool u2)∧w'.cell? ⟨g,3,none⟩=some (.bool u3))
    (hVal: ∀W,Calls Try.prog 58 #[.agg #[.int .i64 vk,.int .i64 vn]] W fun e w'=>e= .returned (.bool vb)∧Below W.heap.size W w') (hvb:Aside0 (vb=false)) (hg:Aside0 (g0=false)):
    Calls Try.prog 23 #[.agg #[.int .i64 k,.int .i64 r,.int .i64 s,.int .i64 t,.int .i64 vk,.int .i64 vn]] w fun e w'=>e= .returned (.bool g0)∧Below w.heap.size w w':=by
  have BK:Aside0 ((w.alloc (.cells #[.int .i64 k,.int .i64 r,.int .i64 s,.int .i64 t,.int .i64 vk,.int .i64 vn] 29)).heap[w.heap.size]?=some (.cells #[.int .i64 k,.int .i64 r,.int .i64 s,.int .i64 t,.int .i64 vk,.int .i64 vn] 29 (0,0))):=⟨blk_new _ _⟩;have HB:=aS (Below.refl w.heap.size w);have hu27:=Try.underlying27;have hu29:=Try.underlying29;obtain rfl:=hvb.out;clear hvb;obtain rfl:=hg.out;clear hg;go_enter Try.func23,Try.ntmps23
  go_wp2_with (first|(go_at_call 57;refine(hForm _).mono ?_;rintro e w' ⟨g,c,rfl,hb,hg,f0,f1,f2,f3⟩;have SZ:=aS (hb.size);have BK:=aS (blk_below (by exact blkU BK.out) hb);have HB:=aS (below_step (by exact bU HB.out) hb);have q0:w'.cell? ⟨w.heap.size,0,none⟩=some (.int .i64 k):=(blk_cell BK.out 0).trans rfl;have q1:w'.cell? ⟨w.heap.size,1,none⟩=some (.int .i64 r):=(blk_cell BK.out 1).trans rfl;have q2:w'.cell? ⟨w.heap.size,2,none⟩=some (.int .i64 s):=(blk_cell BK.out 2).trans rfl;have q3:w'.cell? ⟨w.heap.size,3,none⟩=some (.int .i64 t):=(blk_cell BK.out 3).trans rfl;have q4:w'.cell? ⟨w.heap.size,4,none⟩=some (.int .i64 vk):=(blk_cell BK.out 4).trans rfl;have q5:w'.cell? ⟨w.heap.size,5,none⟩=some (.int .i64 vn):=(blk_cell BK.out 5).trans rfl;have GS:=aS (cell_lt f0);have P0:=aS f0;have P1:=aS f1;have P2:=aS f2;have P3:=aS f3;clear hb hg)|(go_at_call 58;refine(hVal _).mono ?_;rintro e w'2 ⟨rfl,hb⟩;have P0:=aS ((hb.cell (p:=⟨g,0,none⟩) GS.out).trans P0.out);have P1:=aS ((hb.cell (p:=⟨g,1,none⟩) GS.out).trans P1.out);have P2:=aS ((hb.cell (p:=⟨g,2,none⟩) GS.out).trans P2.out);have P3:=aS ((hb.cell (p:=⟨g,3,none⟩) GS.out).trans P3.out);have BK:=aS (blk_below (by exact blkU BK.out) hb);have HB:=aS (below_step (by exact bU HB.out) hb);have q0:w'2.cell? ⟨w.heap.size,0,none⟩=some (.int .i64 k):=(blk_cell BK.out 0).trans rfl;have q1:w'2.cell? ⟨w.heap.size,1,none⟩=some (.int .i64 r):=(blk_cell BK.out 1).trans rfl;have q2:w'2.cell? ⟨w.heap.size,2,none⟩=some (.int .i64 s):=(blk_cell BK.out 2).trans rfl;have q3:w'2.cell? ⟨w.heap.size,3,none⟩=some (.int .i64 t):=(blk_cell BK.out 3).trans rfl;have q4:w'2.cell? ⟨w.heap.size,4,none⟩=some (.int .i64 vk):=(blk_cell BK.out 4).trans rfl;have q5:w'2.cell? ⟨w.heap.size,5,none⟩=some (.int .i64 vn):=(blk_cell BK.out 5).trans rfl;have f0:=P0.out;have f1:=P1.out;have f2:=P2.out;have f3:=P3.out;clear hb)|(go_at_call 59;refine(in2_any _ _ _ _).mono ?_;rintro e w' ⟨rfl,rfl⟩)|(go_at_call 60;refine(slot_any _ _).mono ?_;rintro e w' ⟨rfl,rfl⟩)|(go_at_call 61;refine(to_any _ _).mono ?_;rintro e w' ⟨rfl,rfl⟩))
  all_goals go_ret
  all_goals exact⟨rfl,HB.out⟩
theorem specOp_8k (r s t vk vn:Int) (w:World) (g0 u0 u1 u2 u3 vb:Bool)
    (hForm: ∀W,Calls Try.prog 57 #[.int .i64 8] W fun e w'=> ∃g c,e= .returned (.slice (some ⟨g,0,none⟩) 4 c)∧Below W.heap.size W w'∧W.heap.size≤g∧w'.cell? ⟨g,0,none⟩=some (.bool u0)∧w'.cell? ⟨g,1,none⟩=some (.bool u1)∧w'.cell? ⟨g,2,none⟩=some (.bool u2)∧w'.cell? ⟨g,3,none⟩=some (.bool u3))
    (hVal: ∀W,Calls Try.prog 58 #[.agg #[.int .i64 vk,.int .i64 vn]] W fun e w'=>e= .returned (.bool vb)∧Below W.heap.size W w') (hvk:(vk==1)=false) (hvk2:(vk !=1)=true) (hvb:Aside0 (vb=true)) (hg:Aside0 (g0=false)):
    Calls Try.prog 23 #[.agg #[.int .i64 8,.int .i64 r,.int .i64 s,.int .i64 t,.int .i64 vk,.int .i64 vn]] w fun e w'=>e= .returned (.bool g0)∧Below w.heap.size w w':=by
  have BK:Aside0 ((w.alloc (.cells #[.int .i64 8,.int .i64 r,.int .i64 s,.int .i64 t,.int .i64 vk,.int .i64 vn] 29)).heap[w.heap.size]?=some (.cells #[.int .i64 8,.int .i64 r,.int .i64 s,.int .i64 t,.int .i64 vk,.int .i64 vn] 29 (0,0))):=⟨blk_new _ _⟩;have HB:=aS (Below.refl w.heap.size w);have hu27:=Try.underlying27;have hu29:=Try.underlying29;obtain rfl:=hvb.out;clear hvb;obtain rfl:=hg.out;clear hg;go_enter Try.func23,Try.ntmps23
  go_wp2_with (first|(go_at_call 57;refine(hForm _).mono ?_;rintro e w' ⟨g,c,rfl,hb,hg,f0,f1,f2,f3⟩;have SZ:=aS (hb.size);have BK:=aS (blk_below (by exact blkU BK.out) hb);have HB:=aS (below_step (by exact bU HB.out) hb);have q0:w'.cell? ⟨w.heap.size,0,none⟩=some (.int .i64 8):=(blk_cell BK.out 0).trans rfl;have q1:w'.cell? ⟨w.heap.size,1,none⟩=some (.int .i64 r):=(blk_cell BK.out 1).trans rfl;have q2:w'.cell? ⟨w.heap.size,2,none⟩=some (.int .i64 s):=(blk_cell BK.out 2).trans rfl;have q3:w'.cell? ⟨w.heap.size,3,none⟩=some (.int .i64 t):=(blk_cell BK.out 3).trans rfl;have q4:w'.cell? ⟨w.heap.size,4,none⟩=some (.int .i64 vk):=(blk_cell BK.out 4).trans rfl;have q5:w'.cell? ⟨w.heap.size,5,none⟩=some (.int .i64 vn):=(blk_cell BK.out 5).trans rfl;have GS:=aS (cell_lt f0);have P0:=aS f0;have P1:=aS f1;have P2:=aS f2;have P3:=aS f3;clear hb hg)|(go_at_call 58;refine(hVal _).mono ?_;rintro e w'2 ⟨rfl,hb⟩;have P0:=aS ((hb.cell (p:=⟨g,0,none⟩) GS.out).trans P0.out);have P1:=aS ((hb.cell (p:=⟨g,1,none⟩) GS.out).trans P1.out);have P2:=aS ((hb.cell (p:=⟨g,2,none⟩) GS.out).trans P2.out);have P3:=aS ((hb.cell (p:=⟨g,3,none⟩) GS.out).trans P3.out);have BK:=aS (blk_below (by exact blkU BK.out) hb);have HB:=aS (below_step (by exact bU HB.out) hb);have q0:w'2.cell? ⟨w.heap.size,0,none⟩=some (.int .i64 8):=(blk_cell BK.out 0).trans rfl;have q1:w'2.cell? ⟨w.heap.size,1,none⟩=some (.int .i64 r):=(blk_cell BK.out 1).trans rfl;have q2:w'2.cell? ⟨w.heap.size,2,none⟩=some (.int .i64 s):=(blk_cell BK.out 2).trans rfl;have q3:w'2.cell? ⟨w.heap.size,3,none⟩=some (.int .i64 t):=(blk_cell BK.out 3).trans rfl;have q4:w'2.cell? ⟨w.heap.size,4,none⟩=some (.int .i64 vk):=(blk_cell BK.out 4).trans rfl;have q5:w'2.cell? ⟨w.heap.size,5,none⟩=some (.int .i64 vn):=(blk_cell BK.out 5).trans rfl;have f0:=P0.out;have f1:=P1.out;have f2:=P2.out;have f3:=P3.out;clear hb)|(go_at_call 59;refine(in2_any _ _ _ _).mono ?_;rintro e w' ⟨rfl,rfl⟩)|(go_at_call 60;refine(slot_any _ _).mono ?_;rintro e w' ⟨rfl,rfl⟩)|(go_at_call 61;refine(to_any _ _).mono ?_;rintro e w' ⟨rfl,rfl⟩))
  all_goals go_ret
  all_goals exact⟨rfl,HB.out⟩
theorem specOp_8n (r s t vn:Int) (w:World) (g0 u0 u1 u2 u3 vb:Bool)
    (hForm: ∀W,Calls Try.prog 57 #[.int .i64 8] W fun e w'=> ∃g c,e= .returned (.slice (some ⟨g,0,none⟩) 4 c)∧Below W.heap.size W w'∧W.heap.size≤g∧w'.cell? ⟨g,0,none⟩=some (.bool u0)∧w'.cell? ⟨g,1,none⟩=some (.bool u1)∧w'.cell? ⟨g,2,none⟩=some (.bool u2)∧w'.cell? ⟨g,3,none⟩=some (.bool u3))
    (hVal: ∀W,Calls Try.prog 58 #[.agg #[.int .i64 1,.int .i64 vn]] W fun e w'=>e= .returned (.bool vb)∧Below W.heap.size W w') (hvn:vn<1) (hvn2:decide (vn<1)=true) (hvb:Aside0 (vb=true)) (hg:Aside0 (g0=false)):
    Calls Try.prog 23 #[.agg #[.int .i64 8,.int .i64 r,.int .i64 s,.int .i64 t,.int .i64 1,.int .i64 vn]] w fun e w'=>e= .returned (.bool g0)∧Below w.heap.size w w':=by
  have BK:Aside0 ((w.alloc (.cells #[.int .i64 8,.int .i64 r,.int .i64 s,.int .i64 t,.int .i64 1,.int .i64 vn] 29)).heap[w.heap.size]?=some (.cells #[.int .i64 8,.int .i64 r,.int .i64 s,.int .i64 t,.int .i64 1,.int .i64 vn] 29 (0,0))):=⟨blk_new _ _⟩;have HB:=aS (Below.refl w.heap.size w);have hu27:=Try.underlying27;have hu29:=Try.underlying29;obtain rfl:=hvb.out;clear hvb;obtain rfl:=hg.out;clear hg;go_enter Try.func23,Try.ntmps23
  go_wp2_with (first|(go_at_call 57;refine(hForm _).mono ?_;rintro e w' ⟨g,c,rfl,hb,hg,f0,f1,f2,f3⟩;have SZ:=aS (hb.size);have BK:=aS (blk_below (by exact blkU BK.out) hb);have HB:=aS (below_step (by exact bU HB.out) hb);have q0:w'.cell? ⟨w.heap.size,0,none⟩=some (.int .i64 8):=(blk_cell BK.out 0).trans rfl;have q1:w'.cell? ⟨w.heap.size,1,none⟩=some (.int .i64 r):=(blk_cell BK.out 1).trans rfl;have q2:w'.cell? ⟨w.heap.size,2,none⟩=some (.int .i64 s):=(blk_cell BK.out 2).trans rfl;have q3:w'.cell? ⟨w.heap.size,3,none⟩=some (.int .i64 t):=(blk_cell BK.out 3).trans rfl;have q4:w'.cell? ⟨w.heap.size,4,none⟩=some (.int .i64 1):=(blk_cell BK.out 4).trans rfl;have q5:w'.cell? ⟨w.heap.size,5,none⟩=some (.int .i64 vn):=(blk_cell BK.out 5).trans rfl;have GS:=aS (cell_lt f0);have P0:=aS f0;have P1:=aS f1;have P2:=aS f2;have P3:=aS f3;clear hb hg)|(go_at_call 58;refine(hVal _).mono ?_;rintro e w'2 ⟨rfl,hb⟩;have P0:=aS ((hb.cell (p:=⟨g,0,none⟩) GS.out).trans P0.out);have P1:=aS ((hb.cell (p:=⟨g,1,none⟩) GS.out).trans P1.out);have P2:=aS ((hb.cell (p:=⟨g,2,none⟩) GS.out).trans P2.out);have P3:=aS ((hb.cell (p:=⟨g,3,none⟩) GS.out).trans P3.out);have BK:=aS (blk_below (by exact blkU BK.out) hb);have HB:=aS (below_step (by exact bU HB.out) hb);have q0:w'2.cell? ⟨w.heap.size,0,none⟩=some (.int .i64 8):=(blk_cell BK.out 0).trans rfl;have q1:w'2.cell? ⟨w.heap.size,1,none⟩=some (.int .i64 r):=(blk_cell BK.out 1).trans rfl;have q2:w'2.cell? ⟨w.heap.size,2,none⟩=some (.int .i64 s):=(blk_cell BK.out 2).trans rfl;have q3:w'2.cell? ⟨w.heap.size,3,none⟩=some (.int .i64 t):=(blk_cell BK.out 3).trans rfl;have q4:w'2.cell? ⟨w.heap.size,4,none⟩=some (.int .i64 1):=(blk_cell BK.out 4).trans rfl;have q5:w'2.cell? ⟨w.heap.size,5,none⟩=some (.int .i64 vn):=(blk_cell BK.out 5).trans rfl;have f0:=P0.out;have f1:=P1.out;have f2:=P2.out;have f3:=P3.out;clear hb)|(go_at_call 59;refine(in2_any _ _ _ _).mono ?_;rintro e w' ⟨rfl,rfl⟩)|(go_at_call 60;refine(slot_any _ _).mono ?_;rintro e w' ⟨rfl,rfl⟩)|(go_at_call 61;refine(to_any _ _).mono ?_;rintro e w' ⟨rfl,rfl⟩))
  all_goals go_ret
  all_goals exact⟨rfl,HB.out⟩
theorem specOp_13k (r s t vk vn:Int) (w:World) (g0 u0 u1 u2 u3 vb:Bool)
    (hForm: ∀W,Calls Try.prog 57 #[.int .i64 13] W fun e w'=> ∃g c,e= .returned (.slice (some ⟨g,0,none⟩) 4 c)∧Below W.heap.size W w'∧W.heap.size≤g∧w'.cell? ⟨g,0,none⟩=some (.bool u0)∧w'.cell? ⟨g,1,none⟩=some (.bool u1)∧w'.cell? ⟨g,2,none⟩=some (.bool u2)∧w'.cell? ⟨g,3,none⟩=some (.bool u3))
    (hVal: ∀W,Calls Try.prog 58 #[.agg #[.int .i64 vk,.int .i64 vn]] W fun e w'=>e= .returned (.bool vb)∧Below W.heap.size W w') (hvk:(vk==1)=false) (hvk2:(vk !=1)=true) (hvb:Aside0 (vb=true)) (hg:Aside0 (g0=false)):
    Calls Try.prog 23 #[.agg #[.int .i64 13,.int .i64 r,.int .i64 s,.int .i64 t,.int .i64 vk,.int .i64 vn]] w fun e w'=>e= .returned (.bool g0)∧Below w.heap.size w w':=by
  have BK:Aside0 ((w.alloc (.cells #[.int .i64 13,.int .i64 r,.int .i64 s,.int .i64 t,.int .i64 vk,.int .i64 vn] 29)).heap[w.heap.size]?=some (.cells #[.int .i64 13,.int .i64 r,.int .i64 s,.int .i64 t,.int .i64 vk,.int .i64 vn] 29 (0,0))):=⟨blk_new _ _⟩;have HB:=aS (Below.refl w.heap.size w);have hu27:=Try.underlying27;have hu29:=Try.underlying29;obtain rfl:=hvb.out;clear hvb;obtain rfl:=hg.out;clear hg;go_enter Try.func23,Try.ntmps23
  go_wp2_with (first|(go_at_call 57;refine(hForm _).mono ?_;rintro e w' ⟨g,c,rfl,hb,hg,f0,f1,f2,f3⟩;have SZ:=aS (hb.size);have BK:=aS (blk_below (by exact blkU BK.out) hb);have HB:=aS (below_step (by exact bU HB.out) hb);have q0:w'.cell? ⟨w.heap.size,0,none⟩=some (.int .i64 13):=(blk_cell BK.out 0).trans rfl;have q1:w'.cell? ⟨w.heap.size,1,none⟩=some (.int .i64 r):=(blk_cell BK.out 1).trans rfl;have q2:w'.cell? ⟨w.heap.size,2,none⟩=some (.int .i64 s):=(blk_cell BK.out 2).trans rfl;have q3:w'.cell? ⟨w.heap.size,3,none⟩=some (.int .i64 t):=(blk_cell BK.out 3).trans rfl;have q4:w'.cell? ⟨w.heap.size,4,none⟩=some (.int .i64 vk):=(blk_cell BK.out 4).trans rfl;have q5:w'.cell? ⟨w.heap.size,5,none⟩=some (.int .i64 vn):=(blk_cell BK.out 5).trans rfl;have GS:=aS (cell_lt f0);have P0:=aS f0;have P1:=aS f1;have P2:=aS f2;have P3:=aS f3;clear hb hg)|(go_at_call 58;refine(hVal _).mono ?_;rintro e w'2 ⟨rfl,hb⟩;have P0:=aS ((hb.cell (p:=⟨g,0,none⟩) GS.out).trans P0.out);have P1:=aS ((hb.cell (p:=⟨g,1,none⟩) GS.out).trans P1.out);have P2:=aS ((hb.cell (p:=⟨g,2,none⟩) GS.out).trans P2.out);have P3:=aS ((hb.cell (p:=⟨g,3,none⟩) GS.out).trans P3.out);have BK:=aS (blk_below (by exact blkU BK.out) hb);have HB:=aS (below_step (by exact bU HB.out) hb);have q0:w'2.cell? ⟨w.heap.size,0,none⟩=some (.int .i64 13):=(blk_cell BK.out 0).trans rfl;have q1:w'2.cell? ⟨w.heap.size,1,none⟩=some (.int .i64 r):=(blk_cell BK.out 1).trans rfl;have q2:w'2.cell? ⟨w.heap.size,2,none⟩=some (.int .i64 s):=(blk_cell BK.out 2).trans rfl;have q3:w'2.cell? ⟨w.heap.size,3,none⟩=some (.int .i64 t):=(blk_cell BK.out 3).trans rfl;have q4:w'2.cell? ⟨w.heap.size,4,none⟩=some (.int .i64 vk):=(blk_cell BK.out 4).trans rfl;have q5:w'2.cell? ⟨w.heap.size,5,none⟩=some (.int .i64 vn):=(blk_cell BK.out 5).trans rfl;have f0:=P0.out;have f1:=P1.out;have f2:=P2.out;have f3:=P3.out;clear hb)|(go_at_call 59;refine(in2_any _ _ _ _).mono ?_;rintro e w' ⟨rfl,rfl⟩)|(go_at_call 60;refine(slot_any _ _).mono ?_;rintro e w' ⟨rfl,rfl⟩)|(go_at_call 61;refine(to_any _ _).mono ?_;rintro e w' ⟨rfl,rfl⟩))
  all_goals go_ret
  all_goals exact⟨rfl,HB.out⟩
theorem specOp_13n (r s t vn:Int) (w:World) (g0 u0 u1 u2 u3 vb:Bool)
    (hForm: ∀W,Calls Try.prog 57 #[.int .i64 13] W fun e w'=> ∃g c,e= .returned (.slice (some ⟨g,0,none⟩) 4 c)∧Below W.heap.size W w'∧W.heap.size≤g∧w'.cell? ⟨g,0,none⟩=some (.bool u0)∧w'.cell? ⟨g,1,none⟩=some (.bool u1)∧w'.cell? ⟨g,2,none⟩=some (.bool u2)∧w'.cell? ⟨g,3,none⟩=some (.bool u3))
    (hVal: ∀W,Calls Try.prog 58 #[.agg #[.int .i64 1,.int .i64 vn]] W fun e w'=>e= .returned (.bool vb)∧Below W.heap.size W w') (hvn:Aside0 (decide (0≤vn∧vn≤1)=false)) (hvb:Aside0 (vb=true)) (hg:Aside0 (g0=false)):
    Calls Try.prog 23 #[.agg #[.int .i64 13,.int .i64 r,.int .i64 s,.int .i64 t,.int .i64 1,.int .i64 vn]] w fun e w'=>e= .returned (.bool g0)∧Below w.heap.size w w':=by
  have BK:Aside0 ((w.alloc (.cells #[.int .i64 13,.int .i64 r,.int .i64 s,.int .i64 t,.int .i64 1,.int .i64 vn] 29)).heap[w.heap.size]?=some (.cells #[.int .i64 13,.int .i64 r,.int .i64 s,.int .i64 t,.int .i64 1,.int .i64 vn] 29 (0,0))):=⟨blk_new _ _⟩;have HB:=aS (Below.refl w.heap.size w);have hu27:=Try.underlying27;have hu29:=Try.underlying29;obtain rfl:=hvb.out;clear hvb;obtain rfl:=hg.out;clear hg;go_enter Try.func23,Try.ntmps23
  go_wp2_with (first|(go_at_call 57;refine(hForm _).mono ?_;rintro e w' ⟨g,c,rfl,hb,hg,f0,f1,f2,f3⟩;have SZ:=aS (hb.size);have BK:=aS (blk_below (by exact blkU BK.out) hb);have HB:=aS (below_step (by exact bU HB.out) hb);have q0:w'.cell? ⟨w.heap.size,0,none⟩=some (.int .i64 13):=(blk_cell BK.out 0).trans rfl;have q1:w'.cell? ⟨w.heap.size,1,none⟩=some (.int .i64 r):=(blk_cell BK.out 1).trans rfl;have q2:w'.cell? ⟨w.heap.size,2,none⟩=some (.int .i64 s):=(blk_cell BK.out 2).trans rfl;have q3:w'.cell? ⟨w.heap.size,3,none⟩=some (.int .i64 t):=(blk_cell BK.out 3).trans rfl;have q4:w'.cell? ⟨w.heap.size,4,none⟩=some (.int .i64 1):=(blk_cell BK.out 4).trans rfl;have q5:w'.cell? ⟨w.heap.size,5,none⟩=some (.int .i64 vn):=(blk_cell BK.out 5).trans rfl;have GS:=aS (cell_lt f0);have P0:=aS f0;have P1:=aS f1;have P2:=aS f2;have P3:=aS f3;clear hb hg)|(go_at_call 58;refine(hVal _).mono ?_;rintro e w'2 ⟨rfl,hb⟩;have P0:=aS ((hb.cell (p:=⟨g,0,none⟩) GS.out).trans P0.out);have P1:=aS ((hb.cell (p:=⟨g,1,none⟩) GS.out).trans P1.out);have P2:=aS ((hb.cell (p:=⟨g,2,none⟩) GS.out).trans P2.out);have P3:=aS ((hb.cell (p:=⟨g,3,none⟩) GS.out).trans P3.out);have BK:=aS (blk_below (by exact blkU BK.out) hb);have HB:=aS (below_step (by exact bU HB.out) hb);have q0:w'2.cell? ⟨w.heap.size,0,none⟩=some (.int .i64 13):=(blk_cell BK.out 0).trans rfl;have q1:w'2.cell? ⟨w.heap.size,1,none⟩=some (.int .i64 r):=(blk_cell BK.out 1).trans rfl;have q2:w'2.cell? ⟨w.heap.size,2,none⟩=some (.int .i64 s):=(blk_cell BK.out 2).trans rfl;have q3:w'2.cell? ⟨w.heap.size,3,none⟩=some (.int .i64 t):=(blk_cell BK.out 3).trans rfl;have q4:w'2.cell? ⟨w.heap.size,4,none⟩=some (.int .i64 1):=(blk_cell BK.out 4).trans rfl;have q5:w'2.cell? ⟨w.heap.size,5,none⟩=some (.int .i64 vn):=(blk_cell BK.out 5).trans rfl;have f0:=P0.out;have f1:=P1.out;have f2:=P2.out;have f3:=P3.out;clear hb)|(go_at_call 59;refine(in2_any _ _ _ _).mono ?_;rintro e w' ⟨rfl,rfl⟩;rw[hvn.out])|(go_at_call 60;refine(slot_any _ _).mono ?_;rintro e w' ⟨rfl,rfl⟩)|(go_at_call 61;refine(to_any _ _).mono ?_;rintro e w' ⟨rfl,rfl⟩))
  all_goals go_ret
  all_goals exact⟨rfl,HB.out⟩
end Go.Proofs.Ytmklpbmlgjkbiaa.PS
end
section
namespace Go.Proofs.Ytmklpbmlgjkbiaa.PS
open Go.RowKit Go.Proofs.YtmklpbmlgjkbiaaW.PrintWords Go.Proofs.YtmklpbmlgjkbiaaW.PrintLast
theorem form_eq (k:Int):spec_l2Form.f 3 k=some (formL k):=by
  refine kinds (P:=fun k=>spec_l2Form.f 3 k=some (formL k)) (fun k hk=> ?_) (by decide) (by decide) (by decide) (by decide) (by decide) (by decide) (by decide) (by decide) (by decide) (by decide) (by decide) (by decide) (by decide) (by decide) k
  unfold formL;rw[if_neg hk];have h1:k≠1:=by omega
  have h2:k≠2:=by omega
  have h3:k≠3:=by omega
  have h4:k≠4:=by omega
  have h5:k≠5:=by omega
  have h6:k≠6:=by omega
  have h7:k≠7:=by omega
  have h8:k≠8:=by omega
  have h9:k≠9:=by omega
  have h10:k≠10:=by omega
  have h11:k≠11:=by omega
  have h12:k≠12:=by omega
  have h13:k≠13:=by omega
  have h14:k≠14:=by omega
  simp[spec_l2Form.f,spec_l2Form.j0,spec_l2Form.j1,h1,h2,h3,h4,h5,h6,h7,h8,h9,h10,h11,h12,h13,h14]
theorem form_calls {k:Int} (hk:1≤k∧k≤14) (W:World):Calls Try.prog 57 #[.int .i64 k] W fun e w'=> ∃g c,e= .returned (.slice (some ⟨g,0,none⟩) 4 c)∧Below W.heap.size W w'∧W.heap.size≤g∧w'.cell? ⟨g,0,none⟩=some (.bool (hasR k))∧w'.cell? ⟨g,1,none⟩=some (.bool (hasS k))∧w'.cell? ⟨g,2,none⟩=some (.bool (hasT k))∧w'.cell? ⟨g,3,none⟩=some (.bool (hasV k)):=by
  refine(spec_l2Form.calls 3 k (formL k) W (form_eq k)).mono ?_
  rintro e w' ⟨v,rfl,hR,hb⟩
  have:formL k=[hasR k,hasS k,hasT k,hasV k]:=if_pos hk;rw[this]at hR
  obtain⟨g,c,rfl,hg,q0,q1,q2,q3⟩:=own4 hR;exact⟨g,c,rfl,hb,hg,q0,q1,q2,q3⟩
theorem sok_eq (k n:Int):spec_ValOk.f k n=some (okB k n):=by
  unfold spec_ValOk.f spec_l6In.f okB okP;by_cases h0:k=0
  · subst h0;by_cases hn:n=0<;>simp[hn]
  rw[if_neg h0];by_cases h1:k=1
  · subst h1;by_cases a:n≥ -99<;>simp[a]<;>omega
  rw[if_neg h1];by_cases h2:k=2
  · subst h2;by_cases a:n≥0<;>simp[a]<;>omega
  rw[if_neg h2];by_cases h3:k=3
  · subst h3;by_cases a:n≥1<;>simp[a]<;>omega
  rw[if_neg h3];simp[h0,h1,h2,h3]
theorem opB_form (k r s t vk vn:Int) (hk:1≤k∧k≤14) (hv:valP k vk vn):opB k r s t vk vn=(((decide (0≤r∧r≤3)&&hasR k)||r==0)&&(((decide (0≤s∧s≤3)&&hasS k)||s==0)&&(((decide (0≤t∧t≤15)&&hasT k)||t==0)&&(hasV k||(vk==0&&(vn==0)))))):=by
  have e: ∀x y:Int,(x==y)=decide (x=y):=fun x y=>by by_cases h:x=y<;>simp[h]
  have sw: ∀ (a b c:Prop),((a∧b)∨c) ↔ (c∨(b∧a)):=fun a b c=>⟨fun h=>h.elim (fun g=>.inr ⟨g.2,g.1⟩) .inl,fun h=>h.elim .inr (fun g=>.inl ⟨g.2,g.1⟩)⟩
  rw[Bool.eq_iff_iff];simp only[opB,decide_eq_true_eq,Bool.and_eq_true,Bool.or_eq_true,e,sw]
  exact⟨fun h=>h.2.2,fun h=>⟨hk,hv,h⟩⟩
theorem opB_bad {k r s t vk vn:Int} (h: ¬(1≤k∧k≤14)∨ ¬valP k vk vn):opB k r s t vk vn=false:=opB_false.2 (fun g=>h.elim (fun a=>a g.1) (fun a=>a g.2.1))
theorem specOp_none (k r s t vk vn:Int) (w:World) (hk: ¬(1≤k∧k≤14)):
    Calls Try.prog 23 #[.agg #[.int .i64 k,.int .i64 r,.int .i64 s,.int .i64 t,.int .i64 vk,.int .i64 vn]] w fun e w'=>e= .returned (.bool false)∧Below w.heap.size w w':=by
  have hForm: ∀W:World,Calls Try.prog 57 #[.int .i64 k] W fun e w'=> ∃A c,e= .returned (.slice A 0 c)∧Below W.heap.size W w':=fun W=>by
    refine(spec_l2Form.calls 3 k (formL k) W (form_eq k)).mono ?_
    rintro e w' ⟨v,rfl,hR,hb⟩
    have:formL k=[]:=if_neg hk;rw[this]at hR
    obtain⟨A,c,rfl⟩:=Kd.R_slice hR;exact⟨A,c,rfl,hb⟩
  clear hk;have HB:=aS (Below.refl w.heap.size w);go_enter Try.func23,Try.ntmps23
  go_wp2_with (go_at_call 57;refine(hForm _).mono ?_;rintro e w' ⟨A,c,rfl,hb⟩)
  go_ret
  exact⟨rfl,below_step (below_alloc (Below.refl _ _) _) hb⟩
theorem spec_OpOk.calls (k r s t vk vn:Int) (b:Bool) (w:World) (h:opV.f k r s t vk vn=some b):
    Calls Try.prog 23 #[.agg #[.int .i64 k,.int .i64 r,.int .i64 s,.int .i64 t,.int .i64 vk,.int .i64 vn]] w fun e w'=>e= .returned (.bool b)∧Below w.heap.size w w':=by
  obtain rfl:=Option.some.inj h;by_cases hk:1≤k∧k≤14
  rotate_left
  · rw[opB_bad (.inl hk)];exact specOp_none k r s t vk vn w hk
  have hForm:=fun W=>form_calls hk W
  have hVal:=fun W=>spec_ValOk.calls vk vn (okB vk vn) W (sok_eq vk vn)
  by_cases hv:okP vk vn
  rotate_left
  · rw[opB_bad (.inr (fun g=>hv g.1))]
    exact specOp_bad k r s t vk vn w false _ _ _ _ (okB vk vn) hForm hVal ⟨okB_false.2 hv⟩ ⟨rfl⟩
  have hvb:Aside0 (okB vk vn=true):=⟨okB_true.2 hv⟩;by_cases h8:k=8
  · by_cases h1:vk=1
    · by_cases hn:1≤vn
      · subst h8;subst h1;exact specOp_8 r s t vn w _ _ _ _ _ _ hForm hVal hn hvb ⟨opB_form 8 r s t 1 vn hk ⟨hv,fun _=>⟨rfl,hn⟩,fun e=>by omega⟩⟩
      · rw[opB_bad (.inr (fun g=>hn (g.2.1 h8).2))]
        subst h8;subst h1;exact specOp_8n r s t vn w false _ _ _ _ _ hForm hVal (by omega) (decide_eq_true (by omega)) hvb ⟨rfl⟩
    · rw[opB_bad (.inr (fun g=>h1 (g.2.1 h8).1))]
      subst h8;exact specOp_8k r s t vk vn w false _ _ _ _ _ hForm hVal (by simpa using h1) (by simpa using h1) hvb ⟨rfl⟩
  by_cases h13:k=13
  · by_cases h1:vk=1
    · by_cases hn:0≤vn∧vn≤1
      · subst h13;subst h1;exact specOp_13 r s t vn w _ _ _ _ _ _ hForm hVal hn.1 hn.2 hvb ⟨opB_form 13 r s t 1 vn hk ⟨hv,fun e=>by omega,fun _=>⟨rfl,hn⟩⟩⟩
      · rw[opB_bad (.inr (fun g=>hn (g.2.2 h13).2))]
        subst h13;subst h1;exact specOp_13n r s t vn w false _ _ _ _ _ hForm hVal ⟨decide_eq_false hn⟩ hvb ⟨rfl⟩
    · rw[opB_bad (.inr (fun g=>h1 (g.2.2 h13).1))]
      subst h13;exact specOp_13k r s t vk vn w false _ _ _ _ _ hForm hVal (by simpa using h1) (by simpa using h1) hvb ⟨rfl⟩
  exact specOp_main k r s t vk vn w _ _ _ _ _ _ hForm hVal (by simpa using h8) (by simpa using h13) hvb ⟨opB_form k r s t vk vn hk ⟨hv,fun e=>absurd e h8,fun e=>absurd e h13⟩⟩
end Go.Proofs.Ytmklpbmlgjkbiaa.PS
end
section
namespace Go.Proofs.Ytmklpbmlgjkbiaa.PS
open Go.RowKit Go.Proofs.YtmklpbmlgjkbiaaW.PrintWords Go.Proofs.YtmklpbmlgjkbiaaW.PrintLast Go.Proofs.YtmklpbmlgjkbiaaW.PrintMore
attribute [local go_sem] max2_int min2_int max_two min_two max_three min_three max_four min_four   -- for this text's walks alone
mutual
def spec_l2Uses.j0:Nat→Int→Bool→Int→Int→Int→Int→Int→Int→Option (List Int)
 |0,_,_,_,_,_,_,_,_=>none
 |k+1,x4,x10,x110000,x110001,x110002,x110003,x110004,x110005=>if x10=true then(some (([x110001,x110002]:List Int)))else(if x4=10 then(spec_l2Uses.j1 k (x4==10) x110000 x110001 x110002 x110003 x110004 x110005)else(if x4=11 then(spec_l2Uses.j1 k (x4==11) x110000 x110001 x110002 x110003 x110004 x110005)else(if x4=12 then(spec_l2Uses.j1 k (x4==12) x110000 x110001 x110002 x110003 x110004 x110005)else(spec_l2Uses.j1 k (x4==14) x110000 x110001 x110002 x110003 x110004 x110005))))
def spec_l2Uses.j1:Nat→Bool→Int→Int→Int→Int→Int→Int→Option (List Int)
 |0,_,_,_,_,_,_,_=>none
 |k+1,x18,x110000,x110001,x110002,x110003,x110004,x110005=>if x18=true then(some (([x110001]:List Int)))else(some (([]:List Int)))
end
def spec_l2Uses.f (k:Nat) (a0_0:Int) (a0_1:Int) (a0_2:Int) (a0_3:Int) (a0_4:Int) (a0_5:Int):Option (List Int):=if a0_0=2 then(some (([a0_2]:List Int)))else(if a0_0=3 then(spec_l2Uses.j0 k a0_0 (a0_0==3) a0_0 a0_1 a0_2 a0_3 a0_4 a0_5)else(spec_l2Uses.j0 k a0_0 (a0_0==6) a0_0 a0_1 a0_2 a0_3 a0_4 a0_5))
theorem spec_l2Uses.mono_l: ∀k,(∀y0 y1 y2 y3 y4 y5 y6 y7,LeO (spec_l2Uses.j0 k y0 y1 y2 y3 y4 y5 y6 y7) (spec_l2Uses.j0 (k+1) y0 y1 y2 y3 y4 y5 y6 y7))∧(∀y0 y1 y2 y3 y4 y5 y6,LeO (spec_l2Uses.j1 k y0 y1 y2 y3 y4 y5 y6) (spec_l2Uses.j1 (k+1) y0 y1 y2 y3 y4 y5 y6))
 |0=>⟨fun _ _ _ _ _ _ _ _ r h=>by simp[spec_l2Uses.j0]at h,fun _ _ _ _ _ _ _ r h=>by simp[spec_l2Uses.j1]at h⟩
 |k+1=>by
  obtain⟨ih0,ih1⟩:=spec_l2Uses.mono_l k;refine⟨?_,?_⟩
  ·intro y0 y1 y2 y3 y4 y5 y6 y7
   unfold spec_l2Uses.j0;repeat' first
   |(with_reducible exact ih0 _ _ _ _ _ _ _ _)
   |(with_reducible exact ih1 _ _ _ _ _ _ _)
   |(with_reducible exact LeO.refl _)
   |(with_reducible exact LeO.none _)
   |(with_reducible refine LeO.ite ?_ ?_)
   |(with_reducible refine LeO.bind ?_ (fun _=> ?_))
   |exact ih0 _ _ _ _ _ _ _ _
   |exact ih1 _ _ _ _ _ _ _
   |exact LeO.none _
   |refine LeO.ite ?_ ?_
   |refine LeO.bind ?_ (fun _=> ?_)
  ·intro y0 y1 y2 y3 y4 y5 y6
   unfold spec_l2Uses.j1;repeat' first
   |(with_reducible exact ih0 _ _ _ _ _ _ _ _)
   |(with_reducible exact ih1 _ _ _ _ _ _ _)
   |(with_reducible exact LeO.refl _)
   |(with_reducible exact LeO.none _)
   |(with_reducible refine LeO.ite ?_ ?_)
   |(with_reducible refine LeO.bind ?_ (fun _=> ?_))
   |exact ih0 _ _ _ _ _ _ _ _
   |exact ih1 _ _ _ _ _ _ _
   |exact LeO.none _
   |refine LeO.ite ?_ ?_
   |refine LeO.bind ?_ (fun _=> ?_)
theorem spec_l2Uses.mono: ∀a0 a1 a2 a3 a4 a5 k,LeO (spec_l2Uses.f k a0 a1 a2 a3 a4 a5) (spec_l2Uses.f (k+1) a0 a1 a2 a3 a4 a5):=by
 intro a0 a1 a2 a3 a4 a5 k;obtain⟨ih0,ih1⟩:=spec_l2Uses.mono_l k;unfold spec_l2Uses.f
 repeat' first
   |(with_reducible exact ih0 _ _ _ _ _ _ _ _)
   |(with_reducible exact ih1 _ _ _ _ _ _ _)
   |(with_reducible exact LeO.refl _)
   |(with_reducible exact LeO.none _)
   |(with_reducible refine LeO.ite ?_ ?_)
   |(with_reducible refine LeO.bind ?_ (fun _=> ?_))
   |exact ih0 _ _ _ _ _ _ _ _
   |exact ih1 _ _ _ _ _ _ _
   |exact LeO.none _
   |refine LeO.ite ?_ ?_
   |refine LeO.bind ?_ (fun _=> ?_)
theorem spec_l2Uses.calls (k:Nat) (a0_0:Int) (a0_1:Int) (a0_2:Int) (a0_3:Int) (a0_4:Int) (a0_5:Int) (r:List Int) (w:World) (h:spec_l2Uses.f k a0_0 a0_1 a0_2 a0_3 a0_4 a0_5=some r):
  Calls Try.prog 68 #[.agg #[.int .i64 a0_0,.int .i64 a0_1,.int .i64 a0_2,.int .i64 a0_3,.int .i64 a0_4,.int .i64 a0_5]] w fun e w'=> ∃v0_:Value,e= .returned (v0_)∧Kd.R (Kd.int .i64) 3 w' w.heap.size (fun _=>True) v0_ r∧Below w.heap.size w w':=by
 have hu29:=Try.underlying29;have HB:=aS (Below.refl w.heap.size w);have H:(if a0_0=2 then(some (([a0_2]:List Int)))else(if a0_0=3 then(spec_l2Uses.j0 k a0_0 (a0_0==3) a0_0 a0_1 a0_2 a0_3 a0_4 a0_5)else(spec_l2Uses.j0 k a0_0 (a0_0==6) a0_0 a0_1 a0_2 a0_3 a0_4 a0_5)))=some r:=h
 clear h;by_cases c2:a0_0=2
 ·rw[if_pos c2]at H
  have c2b0:(a0_0==2)=true:=beq_iff_eq.mpr c2;have c2b1:(a0_0 !=2)=false:=bne_eq_false_iff_eq.mpr c2;clear c2;obtain⟨y110,hy110⟩: ∃y_:List Int,y_=(([a0_2]:List Int)):=⟨_,rfl⟩;replace H:(some y110)=some r:=by first|(rw[hy110];with_reducible exact H)|(have H2_:=(Option.bind_some _ _).symm.trans H;rw[hy110];with_reducible exact H2_)|(have H2_:=(Option.bind_some _ _).symm.trans H;with_reducible exact H2_)|with_reducible exact H|(rw[hy110];exact H)|exact H
  have Ny110:=aS hy110;clear hy110;obtain rfl:=Option.some.inj H;go_enter Try.func68,Try.ntmps68
  go_wp2_with (first|((with_reducible refine gate_dst (N:=1) rfl ?_);refine box_event ?hg (N:=1) ?hd (cs:= #[.int .i64 a0_0,.int .i64 a0_1,.int .i64 a0_2,.int .i64 a0_3,.int .i64 a0_4,.int .i64 a0_5]) (t:=29) ?hr ?_;(case hd=>rfl);(case hg=>rfl);(case hr=>go_simp<;>rfl);intro gb109 hg w3 hbox hb;have n0_:=aS (below_step (by exact bU HB.out) hb);have n1_:=aS (hbox);have n2_:=aS ((by rw[hg];exact(below_size (by exact bU HB.out)):w.heap.size≤gb109));have n3_:=aS ((by rw[hg];exact(below_size (by exact bU HB.out)):w.heap.size≤gb109));clear HB;have HB:=n0_;have BK109:=n1_;have GW109:=n2_;have GE109:=n3_;clear n0_ n1_ n2_ n3_;clear hb hbox hg;obtain⟨hcz4_0,hcz4_1,hcz4_2,hcz4_3,hcz4_4,hcz4_5⟩:=six_cells BK109.out;obtain⟨hfz4_0,hfz4_1,hfz4_2,hfz4_3,hfz4_4,hfz4_5⟩:=six_marks BK109.out)|((with_reducible refine gate_dst (N:=9) rfl ?_);refine Kd.R_lit (Kd.int .i64) _ 3 ?hg (N:=9) ?hd (xs:=([a0_2]:List Int)) (inner:=[.int .i64 a0_2]) (ok:=fun _=>True) (okp:=fun _=>True) ?hr ?hp (fun _ hk=>hk) trivial (Below.refl _ _) (Nat.le_refl _) (by simp) ?_;(case hd=>rfl);(case hg=>rfl);(case hr=>go_simp<;>rfl);(case hp=>exact(Reps.one (show Kd.M (Kd.int .i64) _ _ _ a0_2 [.int .i64 a0_2]from rfl) (Reps.none _ _)));intro v111 w5 ho6 hb hg_ hnew_;clear hg_ hnew_;(first|rw[←Ny110.out]at ho6|(simp only[Int.reduceToNat]at ho6;rw[←Ny110.out]at ho6));have HO112:=aS (Kd.R_lower ho6 (below_size (by repeat(with_reducible first|exact HB.out|apply bA|apply bN|apply b1|refine below_set ?_ GE109.out))));replace BK109:=aS (blk_below (g:=gb109) (o:=.cells #[.int .i64 a0_0,.int .i64 a0_1,.int .i64 a0_2,.int .i64 a0_3,.int .i64 a0_4,.int .i64 a0_5] 29 (0,0)) (by exact blkU BK109.out) hb);replace HB:=aS (below_step (by repeat(with_reducible first|exact HB.out|apply bA|apply bN|apply b1|refine below_set ?_ GE109.out)) hb);clear hb ho6))
  go_ret
  exact⟨_,by first|rfl|(simp[*]<;>rfl),by exact rU HO112.out,by repeat(with_reducible first|exact HB.out|apply bA|apply bN|apply b1|refine below_set ?_ GE109.out)⟩
 ·rw[if_neg c2]at H
  have c2b0:(a0_0==2)=false:=beq_eq_false_iff_ne.mpr c2;have c2b1:(a0_0 !=2)=true:=bne_iff_ne.mpr c2;have HC7:=aS H;clear H;go_enter Try.func68,Try.ntmps68
  go_upto_if 10 with (first|((with_reducible refine gate_dst (N:=1) rfl ?_);refine box_event ?hg (N:=1) ?hd (cs:= #[.int .i64 a0_0,.int .i64 a0_1,.int .i64 a0_2,.int .i64 a0_3,.int .i64 a0_4,.int .i64 a0_5]) (t:=29) ?hr ?_;(case hd=>rfl);(case hg=>rfl);(case hr=>go_simp<;>rfl);intro gb109 hg w8 hbox hb;have n0_:=aS (below_step (by exact bU HB.out) hb);have n1_:=aS (hbox);have n2_:=aS ((by rw[hg];exact(below_size (by exact bU HB.out)):w.heap.size≤gb109));have n3_:=aS ((by rw[hg];exact(below_size (by exact bU HB.out)):w.heap.size≤gb109));clear HB;have HB:=n0_;have BK109:=n1_;have GW109:=n2_;have GE109:=n3_;clear n0_ n1_ n2_ n3_;clear hb hbox hg;obtain⟨hcz9_0,hcz9_1,hcz9_2,hcz9_3,hcz9_4,hcz9_5⟩:=six_cells BK109.out;obtain⟨hfz9_0,hfz9_1,hfz9_2,hfz9_3,hfz9_4,hfz9_5⟩:=six_marks BK109.out))
  (try simp only[Act.put,List.setIfInBounds_toArray,List.set_cons_zero,List.set_cons_succ])
  go_cut [10] (fun v10 wc=> ∃ (kq:Nat) (x10_6:Bool),v10= .bool x10_6∧Aside0 (spec_l2Uses.j0 kq a0_0 x10_6 a0_0 a0_1 a0_2 a0_3 a0_4 a0_5=some r)∧Aside0 (kq≤k)∧Aside0 (wc.heap[gb109]?=some (.cells #[.int .i64 a0_0,.int .i64 a0_1,.int .i64 a0_2,.int .i64 a0_3,.int .i64 a0_4,.int .i64 a0_5] 29 (0,0)))∧Aside0 (Below w.heap.size w wc))
  case first=>
   have H:=HC7.out;clear HC7;by_cases c10:a0_0=3
   ·rw[if_pos c10]at H
    have c10b0:(a0_0==3)=true:=beq_iff_eq.mpr c10;have c10b1:(a0_0 !=3)=false:=bne_eq_false_iff_eq.mpr c10;clear c10;(first|rw[c10b0]|(simp only[i64_w,i32_w];rw[c10b0])|skip)
    have H':=aS H;clear H;go_wp2
    go_meet
    case rel=>exact⟨_,((a0_0==3)),(by first|rfl|(simp;done)|(simp[*];done)),H',⟨by first|omega|exact Nat.le_refl _⟩,⟨by exact blkU BK109.out⟩,⟨by repeat(with_reducible first|exact HB.out|apply bA|apply bN|apply b1|refine below_set ?_ GE109.out)⟩⟩
   ·rw[if_neg c10]at H
    have c10b0:(a0_0==3)=false:=beq_eq_false_iff_ne.mpr c10;have c10b1:(a0_0 !=3)=true:=bne_iff_ne.mpr c10;(first|rw[c10b0]|(simp only[i64_w,i32_w];rw[c10b0])|skip)
    have H':=aS H;clear H;go_wp2
    go_meet
    case rel=>exact⟨_,((a0_0==6)),(by first|rfl|(simp;done)|(simp[*];done)),H',⟨by first|omega|exact Nat.le_refl _⟩,⟨by exact blkU BK109.out⟩,⟨by repeat(with_reducible first|exact HB.out|apply bA|apply bN|apply b1|refine below_set ?_ GE109.out)⟩⟩
  case rest=>
   clear HC7;(try clear c1);(try clear c2);(try clear c2b0);(try clear c2b1);(try clear p2);(try clear c6);(try clear c10);(try clear c10b0);(try clear c10b1);(try clear hcz4_0);(try clear hcz4_1);(try clear hcz4_2);(try clear hcz4_3);(try clear hcz4_4);(try clear hcz4_5);(try clear hcz9_0);(try clear hcz9_1);(try clear hcz9_2);(try clear hcz9_3);(try clear hcz9_4);(try clear hcz9_5);(try clear hfz4_0);(try clear hfz4_1);(try clear hfz4_2);(try clear hfz4_3);(try clear hfz4_4);(try clear hfz4_5);(try clear hfz9_0);(try clear hfz9_1);(try clear hfz9_2);(try clear hfz9_3);(try clear hfz9_4);(try clear hfz9_5)
   obtain⟨kq,x10_6,rfl,HA,HJ6,BK109,HB⟩:=hcut;cases kq with
   |zero=>exact absurd HA.out (by simp[spec_l2Uses.j0])
   |succ kj6=>
    have H:=HA.out;clear HA;simp only[spec_l2Uses.j0]at H
    by_cases c11:x10_6=true
    ·subst c11
     have H1:(some (([a0_1,a0_2]:List Int)))=some r:=by rw[if_pos rfl]at H;exact H
     clear H;have H:=H1;clear H1;obtain⟨y113,hy113⟩: ∃y_:List Int,y_=(([a0_1,a0_2]:List Int)):=⟨_,rfl⟩;replace H:(some y113)=some r:=by first|(rw[hy113];with_reducible exact H)|(have H2_:=(Option.bind_some _ _).symm.trans H;rw[hy113];with_reducible exact H2_)|(have H2_:=(Option.bind_some _ _).symm.trans H;with_reducible exact H2_)|with_reducible exact H|(rw[hy113];exact H)|exact H
     have Ny113:=aS hy113;clear hy113;obtain rfl:=Option.some.inj H;have hcz12_0:wc.cell? ⟨gb109,0,none⟩=some (.int .i64 a0_0):=(blk_cell BK109.out 0).trans rfl;have hcz12_1:wc.cell? ⟨gb109,1,none⟩=some (.int .i64 a0_1):=(blk_cell BK109.out 1).trans rfl;have hcz12_2:wc.cell? ⟨gb109,2,none⟩=some (.int .i64 a0_2):=(blk_cell BK109.out 2).trans rfl;have hcz12_3:wc.cell? ⟨gb109,3,none⟩=some (.int .i64 a0_3):=(blk_cell BK109.out 3).trans rfl;have hcz12_4:wc.cell? ⟨gb109,4,none⟩=some (.int .i64 a0_4):=(blk_cell BK109.out 4).trans rfl;have hcz12_5:wc.cell? ⟨gb109,5,none⟩=some (.int .i64 a0_5):=(blk_cell BK109.out 5).trans rfl;have hfz12_0:=blk_frozen BK109.out 0;have hfz12_1:=blk_frozen BK109.out 1;have hfz12_2:=blk_frozen BK109.out 2;have hfz12_3:=blk_frozen BK109.out 3;have hfz12_4:=blk_frozen BK109.out 4;have hfz12_5:=blk_frozen BK109.out 5;go_wp2_with (first|((with_reducible refine gate_dst (N:=17) rfl ?_);refine Kd.R_lit (Kd.int .i64) _ 3 ?hg (N:=17) ?hd (xs:=([a0_1,a0_2]:List Int)) (inner:=[.int .i64 a0_1,.int .i64 a0_2]) (ok:=fun _=>True) (okp:=fun _=>True) ?hr ?hp (fun _ hk=>hk) trivial (Below.refl _ _) (Nat.le_refl _) (by simp) ?_;(case hd=>rfl);(case hg=>rfl);(case hr=>go_simp<;>rfl);(case hp=>exact(Reps.one (show Kd.M (Kd.int .i64) _ _ _ a0_1 [.int .i64 a0_1]from rfl) (Reps.one (show Kd.M (Kd.int .i64) _ _ _ a0_2 [.int .i64 a0_2]from rfl) (Reps.none _ _))));intro v114 w13 ho14 hb hg_ hnew_;clear hg_ hnew_;(first|rw[←Ny113.out]at ho14|(simp only[Int.reduceToNat]at ho14;rw[←Ny113.out]at ho14));have HO115:=aS (Kd.R_lower ho14 (below_size (by repeat(with_reducible first|exact HB.out|apply bA|apply bN|apply b1|refine below_set ?_ GE109.out))));replace BK109:=aS (blk_below (g:=gb109) (o:=.cells #[.int .i64 a0_0,.int .i64 a0_1,.int .i64 a0_2,.int .i64 a0_3,.int .i64 a0_4,.int .i64 a0_5] 29 (0,0)) (by exact blkU BK109.out) hb);replace HB:=aS (below_step (by repeat(with_reducible first|exact HB.out|apply bA|apply bN|apply b1|refine below_set ?_ GE109.out)) hb);clear hb ho14))
     go_ret
     exact⟨_,by first|rfl|(simp[*]<;>rfl),by exact rU HO115.out,by repeat(with_reducible first|exact HB.out|apply bA|apply bN|apply b1|refine below_set ?_ GE109.out)⟩
    ·replace c11:=Bool.eq_false_iff.mpr c11
     subst c11;have H1:(if a0_0=10 then(spec_l2Uses.j1 kj6 (a0_0==10) a0_0 a0_1 a0_2 a0_3 a0_4 a0_5)else(if a0_0=11 then(spec_l2Uses.j1 kj6 (a0_0==11) a0_0 a0_1 a0_2 a0_3 a0_4 a0_5)else(if a0_0=12 then(spec_l2Uses.j1 kj6 (a0_0==12) a0_0 a0_1 a0_2 a0_3 a0_4 a0_5)else(spec_l2Uses.j1 kj6 (a0_0==14) a0_0 a0_1 a0_2 a0_3 a0_4 a0_5))))=some r:=by rw[if_neg (show¬(false=true) by decide)]at H;exact H
     clear H;have H:=H1;clear H1;have HC15:=aS H;clear H;go_upto_if 18 with (fail)
     go_cut [18] (fun v18 wc=> ∃ (kq:Nat) (x18_14:Bool),v18= .bool x18_14∧Aside0 (spec_l2Uses.j1 kq x18_14 a0_0 a0_1 a0_2 a0_3 a0_4 a0_5=some r)∧Aside0 (kq≤kj6)∧Aside0 (wc.heap[gb109]?=some (.cells #[.int .i64 a0_0,.int .i64 a0_1,.int .i64 a0_2,.int .i64 a0_3,.int .i64 a0_4,.int .i64 a0_5] 29 (0,0)))∧Aside0 (Below w.heap.size w wc))
     case first=>
      have H:=HC15.out;clear HC15;by_cases c16:a0_0=10
      ·rw[if_pos c16]at H
       have c16b0:(a0_0==10)=true:=beq_iff_eq.mpr c16;have c16b1:(a0_0 !=10)=false:=bne_eq_false_iff_eq.mpr c16;clear c16;(first|rw[c16b0]|(simp only[i64_w,i32_w];rw[c16b0])|skip)
       have H':=aS H;clear H;go_wp2
       go_meet
       case rel=>exact⟨_,((a0_0==10)),(by first|rfl|(simp;done)|(simp[*];done)),H',⟨by have:=HJ6.out;first|omega|exact Nat.le_refl _⟩,⟨by exact blkU BK109.out⟩,⟨by repeat(with_reducible first|exact HB.out|apply bA|apply bN|apply b1|refine below_set ?_ GE109.out)⟩⟩
      ·rw[if_neg c16]at H
       have c16b0:(a0_0==10)=false:=beq_eq_false_iff_ne.mpr c16;have c16b1:(a0_0 !=10)=true:=bne_iff_ne.mpr c16;(first|rw[c16b0]|(simp only[i64_w,i32_w];rw[c16b0])|skip)
       by_cases c17:a0_0=11
       ·rw[if_pos c17]at H
        have c17b0:(a0_0==11)=true:=beq_iff_eq.mpr c17;have c17b1:(a0_0 !=11)=false:=bne_eq_false_iff_eq.mpr c17;clear c17;have H':=aS H;clear H;go_wp2
        go_meet
        case rel=>exact⟨_,((a0_0==11)),(by first|rfl|(simp;done)|(simp[*];done)),H',⟨by have:=HJ6.out;first|omega|exact Nat.le_refl _⟩,⟨by exact blkU BK109.out⟩,⟨by repeat(with_reducible first|exact HB.out|apply bA|apply bN|apply b1|refine below_set ?_ GE109.out)⟩⟩
       ·rw[if_neg c17]at H
        have c17b0:(a0_0==11)=false:=beq_eq_false_iff_ne.mpr c17;have c17b1:(a0_0 !=11)=true:=bne_iff_ne.mpr c17;by_cases c18:a0_0=12
        ·rw[if_pos c18]at H
         have c18b0:(a0_0==12)=true:=beq_iff_eq.mpr c18;have c18b1:(a0_0 !=12)=false:=bne_eq_false_iff_eq.mpr c18;clear c18;have H':=aS H;clear H;go_wp2
         go_meet
         case rel=>exact⟨_,((a0_0==12)),(by first|rfl|(simp;done)|(simp[*];done)),H',⟨by have:=HJ6.out;first|omega|exact Nat.le_refl _⟩,⟨by exact blkU BK109.out⟩,⟨by repeat(with_reducible first|exact HB.out|apply bA|apply bN|apply b1|refine below_set ?_ GE109.out)⟩⟩
        ·rw[if_neg c18]at H
         have c18b0:(a0_0==12)=false:=beq_eq_false_iff_ne.mpr c18;have c18b1:(a0_0 !=12)=true:=bne_iff_ne.mpr c18;have H':=aS H;clear H;go_wp2
         go_meet
         case rel=>exact⟨_,((a0_0==14)),(by first|rfl|(simp;done)|(simp[*];done)),H',⟨by have:=HJ6.out;first|omega|exact Nat.le_refl _⟩,⟨by exact blkU BK109.out⟩,⟨by repeat(with_reducible first|exact HB.out|apply bA|apply bN|apply b1|refine below_set ?_ GE109.out)⟩⟩
     case rest=>
      clear HC15;(try clear c1);(try clear c2);(try clear c2b0);(try clear c2b1);(try clear p2);(try clear c6);(try clear c10);(try clear c10b0);(try clear c10b1);(try clear c11);(try clear c16);(try clear c16b0);(try clear c16b1);(try clear c17);(try clear c17b0);(try clear c17b1);(try clear c18);(try clear c18b0);(try clear c18b1);(try clear hcz12_0);(try clear hcz12_1);(try clear hcz12_2);(try clear hcz12_3);(try clear hcz12_4);(try clear hcz12_5);(try clear hcz4_0);(try clear hcz4_1);(try clear hcz4_2);(try clear hcz4_3);(try clear hcz4_4);(try clear hcz4_5);(try clear hcz9_0);(try clear hcz9_1);(try clear hcz9_2);(try clear hcz9_3);(try clear hcz9_4);(try clear hcz9_5);(try clear hfz12_0);(try clear hfz12_1);(try clear hfz12_2);(try clear hfz12_3);(try clear hfz12_4);(try clear hfz12_5);(try clear hfz4_0);(try clear hfz4_1);(try clear hfz4_2);(try clear hfz4_3);(try clear hfz4_4);(try clear hfz4_5);(try clear hfz9_0);(try clear hfz9_1);(try clear hfz9_2);(try clear hfz9_3);(try clear hfz9_4);(try clear hfz9_5);(try clear p2)
      obtain⟨kq,x18_14,rfl,HA,HJ14,BK109,HB⟩:=hcut;cases kq with
      |zero=>exact absurd HA.out (by simp[spec_l2Uses.j1])
      |succ kj14=>
       have H:=HA.out;clear HA;simp only[spec_l2Uses.j1]at H
       by_cases c19:x18_14=true
       ·subst c19
        have H1:(some (([a0_1]:List Int)))=some r:=by rw[if_pos rfl]at H;exact H
        clear H;have H:=H1;clear H1;obtain⟨y116,hy116⟩: ∃y_:List Int,y_=(([a0_1]:List Int)):=⟨_,rfl⟩;replace H:(some y116)=some r:=by first|(rw[hy116];with_reducible exact H)|(have H2_:=(Option.bind_some _ _).symm.trans H;rw[hy116];with_reducible exact H2_)|(have H2_:=(Option.bind_some _ _).symm.trans H;with_reducible exact H2_)|with_reducible exact H|(rw[hy116];exact H)|exact H
        have Ny116:=aS hy116;clear hy116;obtain rfl:=Option.some.inj H;have hcz20_0:wc.cell? ⟨gb109,0,none⟩=some (.int .i64 a0_0):=(blk_cell BK109.out 0).trans rfl;have hcz20_1:wc.cell? ⟨gb109,1,none⟩=some (.int .i64 a0_1):=(blk_cell BK109.out 1).trans rfl;have hcz20_2:wc.cell? ⟨gb109,2,none⟩=some (.int .i64 a0_2):=(blk_cell BK109.out 2).trans rfl;have hcz20_3:wc.cell? ⟨gb109,3,none⟩=some (.int .i64 a0_3):=(blk_cell BK109.out 3).trans rfl;have hcz20_4:wc.cell? ⟨gb109,4,none⟩=some (.int .i64 a0_4):=(blk_cell BK109.out 4).trans rfl;have hcz20_5:wc.cell? ⟨gb109,5,none⟩=some (.int .i64 a0_5):=(blk_cell BK109.out 5).trans rfl;have hfz20_0:=blk_frozen BK109.out 0;have hfz20_1:=blk_frozen BK109.out 1;have hfz20_2:=blk_frozen BK109.out 2;have hfz20_3:=blk_frozen BK109.out 3;have hfz20_4:=blk_frozen BK109.out 4;have hfz20_5:=blk_frozen BK109.out 5;go_wp2_with (first|((with_reducible refine gate_dst (N:=25) rfl ?_);refine Kd.R_lit (Kd.int .i64) _ 3 ?hg (N:=25) ?hd (xs:=([a0_1]:List Int)) (inner:=[.int .i64 a0_1]) (ok:=fun _=>True) (okp:=fun _=>True) ?hr ?hp (fun _ hk=>hk) trivial (Below.refl _ _) (Nat.le_refl _) (by simp) ?_;(case hd=>rfl);(case hg=>rfl);(case hr=>go_simp<;>rfl);(case hp=>exact(Reps.one (show Kd.M (Kd.int .i64) _ _ _ a0_1 [.int .i64 a0_1]from rfl) (Reps.none _ _)));intro v117 w21 ho22 hb hg_ hnew_;clear hg_ hnew_;(first|rw[←Ny116.out]at ho22|(simp only[Int.reduceToNat]at ho22;rw[←Ny116.out]at ho22));have HO118:=aS (Kd.R_lower ho22 (below_size (by repeat(with_reducible first|exact HB.out|apply bA|apply bN|apply b1|refine below_set ?_ GE109.out))));replace BK109:=aS (blk_below (g:=gb109) (o:=.cells #[.int .i64 a0_0,.int .i64 a0_1,.int .i64 a0_2,.int .i64 a0_3,.int .i64 a0_4,.int .i64 a0_5] 29 (0,0)) (by exact blkU BK109.out) hb);replace HB:=aS (below_step (by repeat(with_reducible first|exact HB.out|apply bA|apply bN|apply b1|refine below_set ?_ GE109.out)) hb);clear hb ho22))
        go_ret
        exact⟨_,by first|rfl|(simp[*]<;>rfl),by exact rU HO118.out,by repeat(with_reducible first|exact HB.out|apply bA|apply bN|apply b1|refine below_set ?_ GE109.out)⟩
       ·replace c19:=Bool.eq_false_iff.mpr c19
        subst c19;have H1:(some (([]:List Int)))=some r:=by rw[if_neg (show¬(false=true) by decide)]at H;exact H
        clear H;have H:=H1;clear H1;obtain⟨y119,hy119⟩: ∃y_:List Int,y_=(([]:List Int)):=⟨_,rfl⟩;replace H:(some y119)=some r:=by first|(rw[hy119];with_reducible exact H)|(have H2_:=(Option.bind_some _ _).symm.trans H;rw[hy119];with_reducible exact H2_)|(have H2_:=(Option.bind_some _ _).symm.trans H;with_reducible exact H2_)|with_reducible exact H|(rw[hy119];exact H)|exact H
        have Ny119:=aS hy119;clear hy119;obtain rfl:=Option.some.inj H;go_wp2_with (first|((with_reducible refine gate_dst (N:=26) rfl ?_);refine Kd.R_lit (Kd.int .i64) _ 3 ?hg (N:=26) ?hd (xs:=([]:List Int)) (inner:=[]) (ok:=fun _=>True) (okp:=fun _=>True) ?hr ?hp (fun _ hk=>hk) trivial (Below.refl _ _) (Nat.le_refl _) (by simp) ?_;(case hd=>rfl);(case hg=>rfl);(case hr=>go_simp<;>rfl);(case hp=>exact(Reps.none _ _));intro v120 w23 ho24 hb hg_ hnew_;clear hg_ hnew_;(first|rw[←Ny119.out]at ho24|(simp only[Int.reduceToNat]at ho24;rw[←Ny119.out]at ho24));have HO121:=aS (Kd.R_lower ho24 (below_size (by repeat(with_reducible first|exact HB.out|apply bA|apply bN|apply b1|refine below_set ?_ GE109.out))));replace BK109:=aS (blk_below (g:=gb109) (o:=.cells #[.int .i64 a0_0,.int .i64 a0_1,.int .i64 a0_2,.int .i64 a0_3,.int .i64 a0_4,.int .i64 a0_5] 29 (0,0)) (by exact blkU BK109.out) hb);replace HB:=aS (below_step (by repeat(with_reducible first|exact HB.out|apply bA|apply bN|apply b1|refine below_set ?_ GE109.out)) hb);clear hb ho24))
        go_ret
        exact⟨_,by first|rfl|(simp[*]<;>rfl),by exact rU HO121.out,by repeat(with_reducible first|exact HB.out|apply bA|apply bN|apply b1|refine below_set ?_ GE109.out)⟩
end Go.Proofs.Ytmklpbmlgjkbiaa.PS
end
section
namespace Go.Proofs.Ytmklpbmlgjkbiaa.PS
open Go.RowKit Go.Proofs.YtmklpbmlgjkbiaaW.PrintWords Go.Proofs.YtmklpbmlgjkbiaaW.PrintLast
theorem w64 {x:Int} (h0: -9223372036854775808≤x) (h1:x≤9223372036854775807):wrap64 x=x:=by
  unfold wrap64;omega
theorem rd_at (l:List Int) (i:Nat) (h:i<l.length):rd l (i:Int)=l[i]:=by
  unfold rd;simp[List.getD_eq_getElem?_getD,List.getElem?_eq_getElem h]
end Go.Proofs.Ytmklpbmlgjkbiaa.PS
end
