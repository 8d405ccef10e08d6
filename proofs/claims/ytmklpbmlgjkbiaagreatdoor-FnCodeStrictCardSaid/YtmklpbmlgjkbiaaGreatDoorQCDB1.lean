/- What the rows of CDB rest on, part 2. -/
import Derived.Test.YtmklpbmlgjkbiaaGreatDoorProg
import Derived.Deep.RegionWith
import Derived.Lib.Bytealg
import Derived.Shelf.Strings.Search3
import Derived.WalkSpells
import Derived.Test.YtmklpbmlgjkbiaaGreatDoorQCDB0
set_option linter.unusedVariables false
set_option linter.unusedSimpArgs false
set_option maxHeartbeats 8000000
set_option maxRecDepth 100000
section
namespace Go.Proofs.YtmklpbmlgjkbiaaGreatDoor.PS
open Go.RowKit Go.Proofs.YtmklpbmlgjkbiaaGreatDoorW.PrintWords Go.Proofs.YtmklpbmlgjkbiaaGreatDoorW.PrintLast Go.Proofs.YtmklpbmlgjkbiaaGreatDoorW.PrintMore
attribute [local go_sem] max2_int min2_int max_two min_two max_three min_three max_four min_four   -- for this text's walks alone
def errW:Option Int→Value
  |none=>.nilIface
  |some c=>.iface 0 (.int .i64 c)
theorem errW_none:errW none= .nilIface:=rfl
theorem errW_some (c:Int):errW (some c)= .iface 0 (.int .i64 c):=rfl
theorem info5:(Tryz.prog.info? 5).map (fun i=>(i.zero,i.size,i.bytes))=some (some (.int .u8 0),1,1):=by kernel_rfl
theorem info9:(Tryz.prog.info? 9).map (fun i=>(i.zero,i.size,i.bytes))=some (some (.string ⟨#[]⟩),1,16):=by kernel_rfl
structure S37 where
  f0:Int
  f1:Int
def z37:S37:=⟨(0:Int),(0:Int)⟩
def k37:Kd S37:=Kd.iso (Kd.pair (Kd.int .i64) (Kd.int .i64)) (fun x:S37=>(x.f0,x.f1))
theorem k37_open {w:World} {x:S37} {cs:List Value} (h:k37.K w x cs):cs=[.int .i64 x.f0,.int .i64 x.f1]:=by
  obtain⟨_,_,rfl,rfl,rfl⟩:=h;exact rfl
theorem k37_openM {w:World} {base:Nat} {ok:Nat→Prop} {x:S37} {cs:List Value} (h:k37.M w base ok x cs):cs=[.int .i64 x.f0,.int .i64 x.f1]:=by
  obtain⟨_,_,rfl,rfl,rfl⟩:=h;exact rfl
theorem k37_mkM (w:World) (base:Nat) (ok:Nat→Prop) (x:S37):k37.M w base ok x [.int .i64 x.f0,.int .i64 x.f1]:=⟨[.int .i64 x.f0],[.int .i64 x.f1],rfl,rfl,rfl⟩
structure S39 where
  f0:Int
  f1:Int
  f2:Int
  f3:Int
  f4:S37
def z39:S39:=⟨(0:Int),(0:Int),(0:Int),(0:Int),z37⟩
def k39:Kd S39:=Kd.iso (Kd.pair (Kd.int .i64) (Kd.pair (Kd.int .i64) (Kd.pair (Kd.int .i64) (Kd.pair (Kd.int .i64) k37)))) (fun x:S39=>(x.f0,x.f1,x.f2,x.f3,x.f4))
theorem k39_open {w:World} {x:S39} {cs:List Value} (h:k39.K w x cs):cs=[.int .i64 x.f0,.int .i64 x.f1,.int .i64 x.f2,.int .i64 x.f3,.int .i64 x.f4.f0,.int .i64 x.f4.f1]:=by
  obtain⟨_,_,rfl,rfl,⟨_,_,rfl,rfl,⟨_,_,rfl,rfl,⟨_,_,rfl,rfl,s4⟩⟩⟩⟩:=h;obtain rfl:=k37_open s4;exact rfl
theorem k39_openM {w:World} {base:Nat} {ok:Nat→Prop} {x:S39} {cs:List Value} (h:k39.M w base ok x cs):cs=[.int .i64 x.f0,.int .i64 x.f1,.int .i64 x.f2,.int .i64 x.f3,.int .i64 x.f4.f0,.int .i64 x.f4.f1]:=by
  obtain⟨_,_,rfl,rfl,⟨_,_,rfl,rfl,⟨_,_,rfl,rfl,⟨_,_,rfl,rfl,s4⟩⟩⟩⟩:=h;obtain rfl:=k37_openM s4;exact rfl
theorem k39_mkM (w:World) (base:Nat) (ok:Nat→Prop) (x:S39):k39.M w base ok x [.int .i64 x.f0,.int .i64 x.f1,.int .i64 x.f2,.int .i64 x.f3,.int .i64 x.f4.f0,.int .i64 x.f4.f1]:=⟨[.int .i64 x.f0],[.int .i64 x.f1,.int .i64 x.f2,.int .i64 x.f3,.int .i64 x.f4.f0,.int .i64 x.f4.f1],rfl,rfl,⟨[.int .i64 x.f1],[.int .i64 x.f2,.int .i64 x.f3,.int .i64 x.f4.f0,.int .i64 x.f4.f1],rfl,rfl,⟨[.int .i64 x.f2],[.int .i64 x.f3,.int .i64 x.f4.f0,.int .i64 x.f4.f1],rfl,rfl,⟨[.int .i64 x.f3],[.int .i64 x.f4.f0,.int .i64 x.f4.f1],rfl,rfl,(k37_mkM w base ok x.f4)⟩⟩⟩⟩
def rd_T39 (xs:List S39) (i:Int):S39:=xs.getD i.toNat z39
theorem at_T39 {w:World} {A:Option Addr} {n:Nat} {xs:List S39} (h:Kd.C k39 w A n xs) (i:Int) (h0:0≤i) (h1:i<n): ∃ad,A=some ad∧w.cell? (ad.add (i.toNat*6))=some (.int .i64 (rd_T39 xs i).f0)∧w.cell? ⟨(ad.add (i.toNat*6)).block,(ad.add (i.toNat*6)).off+1,none⟩=some (.int .i64 (rd_T39 xs i).f1)∧w.cell? ⟨(ad.add (i.toNat*6)).block,(ad.add (i.toNat*6)).off+2,none⟩=some (.int .i64 (rd_T39 xs i).f2)∧w.cell? ⟨(ad.add (i.toNat*6)).block,(ad.add (i.toNat*6)).off+3,none⟩=some (.int .i64 (rd_T39 xs i).f3)∧w.cell? ⟨(ad.add (i.toNat*6)).block,(ad.add (i.toNat*6)).off+4,none⟩=some (.int .i64 (rd_T39 xs i).f4.f0)∧w.cell? ⟨(ad.add (i.toNat*6)).block,(ad.add (i.toNat*6)).off+5,none⟩=some (.int .i64 (rd_T39 xs i).f4.f1):=by
  obtain⟨ad,c,e,_,hK,hc0⟩:=Kd.C_get h z39 i h0 h1;have hc: ∀j u,c[j]?=some u→w.cell? (ad.add (i.toNat*6+j))=some u:=hc0;obtain rfl:=k39_open hK;exact⟨ad,e,hc 0 _ rfl,by rw[←add_field _ _ 1 (by omega)];exact hc 1 _ rfl,by rw[←add_field _ _ 2 (by omega)];exact hc 2 _ rfl,by rw[←add_field _ _ 3 (by omega)];exact hc 3 _ rfl,by rw[←add_field _ _ 4 (by omega)];exact hc 4 _ rfl,by rw[←add_field _ _ 5 (by omega)];exact hc 5 _ rfl⟩
structure S77 where
  f0:ByteArray
  f1:ByteArray
  f2:ByteArray
  f3:Bool
def z77:S77:=⟨(⟨#[]⟩:ByteArray),(⟨#[]⟩:ByteArray),(⟨#[]⟩:ByteArray),false⟩
def k77:Kd S77:=Kd.iso (Kd.pair Kd.string (Kd.pair Kd.string (Kd.pair Kd.string Kd.bool))) (fun x:S77=>(x.f0,x.f1,x.f2,x.f3))
theorem k77_open {w:World} {x:S77} {cs:List Value} (h:k77.K w x cs):cs=[.string x.f0,.string x.f1,.string x.f2,.bool x.f3]:=by
  obtain⟨_,_,rfl,rfl,⟨_,_,rfl,rfl,⟨_,_,rfl,rfl,rfl⟩⟩⟩:=h;exact rfl
theorem k77_mk (w:World) (x:S77):k77.K w x [.string x.f0,.string x.f1,.string x.f2,.bool x.f3]:=⟨[.string x.f0],[.string x.f1,.string x.f2,.bool x.f3],rfl,rfl,⟨[.string x.f1],[.string x.f2,.bool x.f3],rfl,rfl,⟨[.string x.f2],[.bool x.f3],rfl,rfl,rfl⟩⟩⟩
def rd_T77 (xs:List S77) (i:Int):S77:=xs.getD i.toNat z77
theorem at_T77 {w:World} {A:Option Addr} {n:Nat} {xs:List S77} (h:Kd.C k77 w A n xs) (i:Int) (h0:0≤i) (h1:i<n): ∃ad,A=some ad∧w.cell? (ad.add (i.toNat*4))=some (.string (rd_T77 xs i).f0)∧w.cell? ⟨(ad.add (i.toNat*4)).block,(ad.add (i.toNat*4)).off+1,none⟩=some (.string (rd_T77 xs i).f1)∧w.cell? ⟨(ad.add (i.toNat*4)).block,(ad.add (i.toNat*4)).off+2,none⟩=some (.string (rd_T77 xs i).f2)∧w.cell? ⟨(ad.add (i.toNat*4)).block,(ad.add (i.toNat*4)).off+3,none⟩=some (.bool (rd_T77 xs i).f3):=by
  obtain⟨ad,c,e,_,hK,hc0⟩:=Kd.C_get h z77 i h0 h1;have hc: ∀j u,c[j]?=some u→w.cell? (ad.add (i.toNat*4+j))=some u:=hc0;obtain rfl:=k77_open hK;exact⟨ad,e,hc 0 _ rfl,by rw[←add_field _ _ 1 (by omega)];exact hc 1 _ rfl,by rw[←add_field _ _ 2 (by omega)];exact hc 2 _ rfl,by rw[←add_field _ _ 3 (by omega)];exact hc 3 _ rfl⟩
structure S76 where
  f0:ByteArray
  f1:ByteArray
  f2:ByteArray
  f3:Bool
def z76:S76:=⟨(⟨#[]⟩:ByteArray),(⟨#[]⟩:ByteArray),(⟨#[]⟩:ByteArray),false⟩
structure S85 where
  f0:(List Int)
  f1:Int
def z85:S85:=⟨([]:List Int),(0:Int)⟩
structure S145 where
  f0:Int
  f1:Int
def z145:S145:=⟨(0:Int),(0:Int)⟩
structure S146 where
  f0:Int
  f1:Int
def z146:S146:=⟨(0:Int),(0:Int)⟩
theorem six_cells {w:World} {g:Nat} {t:TypeId} {a b c d e f:Value} (h:w.heap[g]?=some (.cells #[a,b,c,d,e,f] t (0,0))):w.cell? ⟨g,0,none⟩=some a∧w.cell? ⟨g,1,none⟩=some b∧w.cell? ⟨g,2,none⟩=some c∧w.cell? ⟨g,3,none⟩=some d∧w.cell? ⟨g,4,none⟩=some e∧w.cell? ⟨g,5,none⟩=some f:=⟨(blk_cell h 0).trans rfl,(blk_cell h 1).trans rfl,(blk_cell h 2).trans rfl,(blk_cell h 3).trans rfl,(blk_cell h 4).trans rfl,(blk_cell h 5).trans rfl⟩
theorem six_marks {w:World} {g:Nat} {t:TypeId} {cs:Array Value} (h:w.heap[g]?=some (.cells cs t (0,0))):w.frozen? ⟨g,0,none⟩=false∧w.frozen? ⟨g,1,none⟩=false∧w.frozen? ⟨g,2,none⟩=false∧w.frozen? ⟨g,3,none⟩=false∧w.frozen? ⟨g,4,none⟩=false∧w.frozen? ⟨g,5,none⟩=false:=⟨blk_frozen h 0,blk_frozen h 1,blk_frozen h 2,blk_frozen h 3,blk_frozen h 4,blk_frozen h 5⟩
theorem pS {w w1:World} {g:Nat} {row:Option Nat} (h:KeepBut w w1 g row) (j:Nat) (u:Value):KeepBut w (w1.setCell ⟨g,j,none⟩ u) g row:=h.set_ j u
theorem pN {w W:World} {g:Nat} {row:Option Nat} (h:KeepBut w W g row) (m:Nat):KeepBut w (W.drewN m) g row:=keep_drewN h m
theorem pD {w W:World} {g:Nat} {row:Option Nat} (h:KeepBut w W g row):KeepBut w W.drew g row:=keep_drew h
theorem pA {w W:World} {g:Nat} (h:KeepBut w W g none) (o:Obj):KeepBut w (W.alloc o) g none:=keep_alloc h o
theorem bA {w W:World} (h:Below w.heap.size w W) (o:Obj):Below w.heap.size w (W.alloc o):=below_alloc h o
theorem bN {B:Nat} {w W:World} (h:Below B w W) (n:Nat):Below B w (W.drewN n):=pw_below_drewN h n
theorem b1 {B:Nat} {w W:World} (h:Below B w W):Below B w W.drew:=below_drew1 h
theorem kA {w:World} {g:Nat} {o:Obj} (h:w.heap[g]?=some o) (o':Obj):(w.alloc o').heap[g]?=some o:=blk_alloc h o'
theorem kD {w:World} {g:Nat} {o:Obj} (h:w.heap[g]?=some o):w.drew.heap[g]?=some o:=h
theorem kN {w:World} {g:Nat} {o:Obj} (h:w.heap[g]?=some o) (n:Nat):(w.drewN n).heap[g]?=some o:=h
section
variable {α:Type} {d:Kd α} {e:Nat} {w:World} {base:Nat} {ok:Nat→Prop} {v:Value} {xs:List α}
theorem rA (h:Kd.R d e w base ok v xs) (o:Obj):Kd.R d e (w.alloc o) base ok v xs:=Kd.R_alloc h o
theorem rD (h:Kd.R d e w base ok v xs):Kd.R d e w.drew base ok v xs:=Kd.R_drew h
theorem rN (h:Kd.R d e w base ok v xs) (m:Nat):Kd.R d e (w.drewN m) base ok v xs:=Kd.R_drewN h m
end
inductive Up:World→World→Type
  |refl (w:World):Up w w
  |alloc {w W:World} (h:Up w W) (o:Obj):Up w (W.alloc o)
  |drew {w W:World} (h:Up w W):Up w W.drew
  |drewN {w W:World} (h:Up w W) (n:Nat):Up w (W.drewN n)
instance upR (w:World):Nonempty (Up w w):=⟨.refl w⟩
instance upA {w W:World} [h:Nonempty (Up w W)] (o:Obj):Nonempty (Up w (W.alloc o)):=h.elim fun h=>⟨.alloc h o⟩
instance upD {w W:World} [h:Nonempty (Up w W)]:Nonempty (Up w W.drew):=h.elim fun h=>⟨.drew h⟩
instance upN {w W:World} [h:Nonempty (Up w W)] (n:Nat):Nonempty (Up w (W.drewN n)):=h.elim fun h=>⟨.drewN h n⟩
theorem bU {w V W:World} [u:Nonempty (Up V W)] (k:Below w.heap.size w V):Below w.heap.size w W:=by
  obtain⟨u⟩:=u;induction u with
  |refl=>exact k
  |alloc _ o ih=>exact below_alloc ih o
  |drew _ ih=>exact below_drew1 ih
  |drewN _ n ih=>exact pw_below_drewN ih n
theorem blkU {V W:World} {g:Nat} {o:Obj} [u:Nonempty (Up V W)] (k:V.heap[g]?=some o):W.heap[g]?=some o:=by
  obtain⟨u⟩:=u;induction u with
  |refl=>exact k
  |alloc _ o ih=>exact blk_alloc ih o
  |drew _ ih=>exact blk_drew ih
  |drewN _ n ih=>exact blk_drewN ih n
theorem rU {α:Type} {d:Kd α} {e base:Nat} {ok:Nat→Prop} {v:Value} {xs:List α} {V W:World} [u:Nonempty (Up V W)] (k:Kd.R d e V base ok v xs):Kd.R d e W base ok v xs:=by
  obtain⟨u⟩:=u;induction u with
  |refl=>exact k
  |alloc _ o ih=>exact Kd.R_alloc ih o
  |drew _ ih=>exact Kd.R_drew ih
  |drewN _ n ih=>exact Kd.R_drewN ih n
class UpTo (W:World) (V:outParam World):Prop where up:Nonempty (Up V W)
instance (priority:=low) upT (W:World):UpTo W W:=⟨⟨.refl W⟩⟩
instance upTA (W V:World) [h:UpTo W V] (o:Obj):UpTo (W.alloc o) V:=⟨h.up.elim fun h=>⟨.alloc h o⟩⟩
instance upTD (W V:World) [h:UpTo W V]:UpTo W.drew V:=⟨h.up.elim fun h=>⟨.drew h⟩⟩
instance upTN (W V:World) [h:UpTo W V] (n:Nat):UpTo (W.drewN n) V:=⟨h.up.elim fun h=>⟨.drewN h n⟩⟩
theorem kU {W V:World} {g:Nat} {o:Obj} [u:UpTo W V] (k:V.heap[g]?=some o):W.heap[g]?=some o:= @blkU V W g o u.up k
theorem CU {α:Type} {d:Kd α} {A:Option Addr} {n:Nat} {xs:List α} {V W:World} [u:Nonempty (Up V W)] (k:Kd.C d V A n xs):Kd.C d W A n xs:=by
  obtain⟨u⟩:=u;induction u with
  |refl=>exact k
  |alloc _ o ih=>exact Kd.C_alloc ih o
  |drew _ ih=>exact Kd.C_drew ih
  |drewN _ n ih=>exact Kd.C_drewN ih n
theorem aS {p:Prop} (h:p):Aside0 p:=⟨h⟩
end Go.Proofs.YtmklpbmlgjkbiaaGreatDoor.PS
end
section
namespace Go.Proofs.YtmklpbmlgjkbiaaGreatDoor.PC
open Go.RowKit Go.Proofs.YtmklpbmlgjkbiaaGreatDoorW.PrintWords Go.Proofs.YtmklpbmlgjkbiaaGreatDoorW.PrintLast Go.Proofs.YtmklpbmlgjkbiaaGreatDoorW.PrintMore Go.Proofs.YtmklpbmlgjkbiaaGreatDoor.PS
attribute [local go_sem] max2_int min2_int max_two min_two max_three min_three max_four min_four   -- for this text's walks alone
def errW:Option Int→Value
  |none=>.nilIface
  |some c=>.iface 0 (.int .i64 c)
theorem errW_none:errW none= .nilIface:=rfl
theorem errW_some (c:Int):errW (some c)= .iface 0 (.int .i64 c):=rfl
theorem info39:(Tryz.prog.info? 39).map (fun i=>(i.zero,i.size,i.bytes))=some (some (.agg #[(.int .i64 0),(.int .i64 0),(.int .i64 0),(.int .i64 0),(.int .i64 0),(.int .i64 0)]),6,48):=by kernel_rfl
end Go.Proofs.YtmklpbmlgjkbiaaGreatDoor.PC
end
section
namespace Go.Proofs.YtmklpbmlgjkbiaaGreatDoor.PD
open Go.RowKit Go.Proofs.YtmklpbmlgjkbiaaGreatDoorW.PrintWords Go.Proofs.YtmklpbmlgjkbiaaGreatDoorW.PrintLast Go.Proofs.YtmklpbmlgjkbiaaGreatDoorW.PrintMore Go.Proofs.YtmklpbmlgjkbiaaGreatDoor.PS Go.Proofs.YtmklpbmlgjkbiaaGreatDoor.PC
attribute [local go_sem] max2_int min2_int max_two min_two max_three min_three max_four min_four   -- for this text's walks alone
def errW:Option Int→Value
  |none=>.nilIface
  |some c=>.iface 0 (.int .i64 c)
theorem errW_none:errW none= .nilIface:=rfl
theorem errW_some (c:Int):errW (some c)= .iface 0 (.int .i64 c):=rfl
theorem info3:(Tryz.prog.info? 3).map (fun i=>(i.zero,i.size,i.bytes))=some (some (.int .i64 0),1,8):=by kernel_rfl
theorem info5:(Tryz.prog.info? 5).map (fun i=>(i.zero,i.size,i.bytes))=some (some (.int .u8 0),1,1):=by kernel_rfl
theorem info9:(Tryz.prog.info? 9).map (fun i=>(i.zero,i.size,i.bytes))=some (some (.string ⟨#[]⟩),1,16):=by kernel_rfl
theorem info39:(Tryz.prog.info? 39).map (fun i=>(i.zero,i.size,i.bytes))=some (some (.agg #[(.int .i64 0),(.int .i64 0),(.int .i64 0),(.int .i64 0),(.int .i64 0),(.int .i64 0)]),6,48):=by kernel_rfl
end Go.Proofs.YtmklpbmlgjkbiaaGreatDoor.PD
end
section
namespace Go.Proofs.YtmklpbmlgjkbiaaGreatDoor.PS
open Go.RowKit Go.Proofs.YtmklpbmlgjkbiaaGreatDoorW.PrintWords Go.Proofs.YtmklpbmlgjkbiaaGreatDoorW.PrintLast
def okP (k n:Int):Prop:=(k=0∧n=0)∨(k=1∧ -99≤n∧n≤99)∨(k=2∧0≤n∧n≤9)∨(k=3∧1≤n∧n≤6)
instance (k n:Int):Decidable (okP k n):=by unfold okP;infer_instance
def okB (k n:Int):Bool:=decide (okP k n)
theorem okB_true {k n:Int} :okB k n=true ↔ okP k n:=by simp[okB]
theorem okB_false {k n:Int} :okB k n=false ↔ ¬okP k n:=by simp[okB]
def hasR (k:Int):Bool:=decide (1≤k∧k≤14∧k≠9∧k≠13)
def hasS (k:Int):Bool:=decide (k=2∨k=3∨k=6∨k=7∨k=8)
def hasT (k:Int):Bool:=decide (k=5∨k=8∨k=9∨k=10)
def hasV (k:Int):Bool:=decide (k=1∨k=8∨k=10∨k=13)
def formL (k:Int):List Bool:=if 1≤k∧k≤14 then [hasR k,hasS k,hasT k,hasV k]else []
def valP (k vk vn:Int):Prop:=okP vk vn∧(k=8→vk=1∧1≤vn)∧(k=13→vk=1∧0≤vn∧vn≤1)
instance (k vk vn:Int):Decidable (valP k vk vn):=by unfold valP;infer_instance
def opP (k r s t vk vn:Int):Prop:=
  (1≤k∧k≤14)∧valP k vk vn∧(r=0∨(hasR k=true∧0≤r∧r≤3))∧(s=0∨(hasS k=true∧0≤s∧s≤3))∧
    (t=0∨(hasT k=true∧0≤t∧t≤15))∧(hasV k=true∨(vk=0∧vn=0))
instance (k r s t vk vn:Int):Decidable (opP k r s t vk vn):=by unfold opP;infer_instance
def opB (k r s t vk vn:Int):Bool:=decide (opP k r s t vk vn)
theorem opB_true {k r s t vk vn:Int} :opB k r s t vk vn=true ↔ opP k r s t vk vn:=by simp[opB]
theorem opB_false {k r s t vk vn:Int} :opB k r s t vk vn=false ↔ ¬opP k r s t vk vn:=by simp[opB]
def opV.f (k r s t vk vn:Int):Option Bool:=some (opB k r s t vk vn)
def usesL (k r s:Int):List Int:=
  if k=2 then [s]else if k=3∨k=6 then [r,s]else if k=10∨k=11∨k=12∨k=14 then [r]else []
def mannersL:List S77:=
  [⟨⟨#[]⟩,⟨#[]⟩,⟨#[]⟩,false⟩,
   ⟨⟨#[115,101,116]⟩,⟨#[82,86]⟩,⟨#[]⟩,true⟩,
   ⟨⟨#[109,111,118,101]⟩,⟨#[82,83]⟩,⟨#[83]⟩,true⟩,
   ⟨⟨#[97,100,100]⟩,⟨#[82,83]⟩,⟨#[82,83]⟩,false⟩,
   ⟨⟨#[115,101,108,102]⟩,⟨#[82]⟩,⟨#[]⟩,true⟩,
   ⟨⟨#[98,101,103,105,110]⟩,⟨#[82,84]⟩,⟨#[]⟩,true⟩,
   ⟨⟨#[115,101,110,100]⟩,⟨#[82,83]⟩,⟨#[82,83]⟩,false⟩,
   ⟨⟨#[116,97,107,101]⟩,⟨#[82,83]⟩,⟨#[]⟩,true⟩,
   ⟨⟨#[97,102,116,101,114]⟩,⟨#[82,83,84,86]⟩,⟨#[]⟩,true⟩,
   ⟨⟨#[103,111]⟩,⟨#[84]⟩,⟨#[]⟩,false⟩,
   ⟨⟨#[105,102]⟩,⟨#[82,84,86]⟩,⟨#[82]⟩,false⟩,
   ⟨⟨#[108,105,110,107]⟩,⟨#[82]⟩,⟨#[82]⟩,false⟩,
   ⟨⟨#[119,97,116,99,104]⟩,⟨#[82]⟩,⟨#[82]⟩,false⟩,
   ⟨⟨#[116,114,97,112]⟩,⟨#[86]⟩,⟨#[]⟩,false⟩,
   ⟨⟨#[101,110,100]⟩,⟨#[82]⟩,⟨#[82]⟩,false⟩]
def howR (k:Int):S77:=if 1≤k∧k≤14 then mannersL.getD k.toNat z77 else z77
def howV.f (k _r _s _t _vk _vn:Int):Option (ByteArray×ByteArray×ByteArray×Bool):=some ((howR k).f0,(howR k).f1,(howR k).f2,(howR k).f3)
theorem kinds {P:Int→Prop} (h: ∀k:Int,¬(1≤k∧k≤14)→P k) (h1:P 1) (h2:P 2) (h3:P 3) (h4:P 4) (h5:P 5) (h6:P 6) (h7:P 7) (h8:P 8) (h9:P 9)
    (h10:P 10) (h11:P 11) (h12:P 12) (h13:P 13) (h14:P 14) (k:Int):P k:=by
  by_cases hk:1≤k∧k≤14
  · have:k=1∨k=2∨k=3∨k=4∨k=5∨k=6∨k=7∨k=8∨k=9∨k=10∨k=11∨k=12∨k=13∨k=14:=by omega
    rcases this with rfl|rfl|rfl|rfl|rfl|rfl|rfl|rfl|rfl|rfl|rfl|rfl|rfl|rfl<;>assumption
  · exact h k hk
theorem in_any (a b c:Int) (w:World):Calls Tryz.prog 35 #[.int .i64 a,.int .i64 b,.int .i64 c] w fun e w'=>e= .returned (.bool (decide (b≤a∧a≤c)))∧w=w':=by
  by_cases h1:b≤a<;>by_cases h2:a≤c<;>(go_enter Tryz.func35,Tryz.ntmps35;go_wp2;go_ret;exact⟨by simp[h1,h2],rfl⟩)
def cellsOf:List S77→List Value
  | []=> []
  |x::xs=>.string x.f0:: .string x.f1:: .string x.f2:: .bool x.f3::cellsOf xs
def IsManners (w w':World) (g:Nat):Prop:=Below w.heap.size w w'∧w.heap.size≤g∧ ∀i,w'.cell? ⟨g,i,none⟩=(cellsOf mannersL)[i]?
theorem manners_any (w:World):Calls Tryz.prog 48 #[] w fun e w'=> ∃g,e= .returned (.slice (some ⟨g,0,none⟩) 15 15)∧IsManners w w' g:=by
  go_enter Tryz.func48,Tryz.ntmps48
  go_wp2
  go_ret
  refine⟨_,rfl,(Below.refl _ _).alloc (Nat.le_refl _) _,Nat.le_refl _,fun i=> ?_⟩
  rw[World.cell?_alloc_new];show(cellsOf mannersL).toArray[i]?=_
  exact List.getElem?_toArray
theorem bcell {W w1:World} (hb:Below W.heap.size W w1):(∀b o,b<W.heap.size→w1.cell? ⟨b,o,none⟩=W.cell? ⟨b,o,none⟩)∧(∀b o,b<W.heap.size→w1.frozen? ⟨b,o,none⟩=W.frozen? ⟨b,o,none⟩):=
  ⟨fun b o h=>hb.cell (p:=⟨b,o,none⟩) h,fun b o h=>hb.frozen (p:=⟨b,o,none⟩) h⟩
theorem blk2 (w:World) (A B:Obj):((w.alloc A).alloc B).drew.heap[w.heap.size+1]?=some B:=by
  have:=blk_new (w.alloc A) B;rwa [World.size_alloc]at this
theorem end4 {w W w':World} {g t:Nat} {z0 z1 z2 z3:Value} (hW:Below w.heap.size w W) (hge:w.heap.size≤g) (h0:W.heap[g]?=some (.cells #[z0,z1,z2,z3] t (0,0))) (hb:Below W.heap.size W w') (a b c d:Value):
    Below w.heap.size w ((((w'.setCell ⟨g,0,none⟩ a).setCell ⟨g,1,none⟩ b).setCell ⟨g,2,none⟩ c).setCell ⟨g,3,none⟩ d)∧
    ((((w'.setCell ⟨g,0,none⟩ a).setCell ⟨g,1,none⟩ b).setCell ⟨g,2,none⟩ c).setCell ⟨g,3,none⟩ d).heap[g]?=some (.cells #[a,b,c,d] t (0,0)):=
  ⟨below_set (below_set (below_set (below_set (below_step hW hb) hge) hge) hge) hge,blk_set (blk_set (blk_set (blk_set (blk_below h0 hb) 0 a) 1 b) 2 c) 3 d⟩
theorem how_kind (k:Int) (r s t vk vn:Int) (x:S77) (w:World) (hk:1≤k∧k≤14) (hx:x=mannersL.getD k.toNat z77):
    Calls Tryz.prog 50 #[.agg #[.int .i64 k,.int .i64 r,.int .i64 s,.int .i64 t,.int .i64 vk,.int .i64 vn]] w fun e w'=>e= .returned (.agg #[.string x.f0,.string x.f1,.string x.f2,.bool x.f3])∧Below w.heap.size w w':=by
  have hm: ∀ (W:World) (g:Nat),(∀i,W.cell? ⟨g,i,none⟩=(cellsOf mannersL)[i]?)→W.cell? ⟨g,k.toNat*4,none⟩=some (.string x.f0)∧W.cell? ⟨g,k.toNat*4+1,none⟩=some (.string x.f1)∧W.cell? ⟨g,k.toNat*4+2,none⟩=some (.string x.f2)∧W.cell? ⟨g,k.toNat*4+3,none⟩=some (.bool x.f3):=by
    intro W g h;have:k=1∨k=2∨k=3∨k=4∨k=5∨k=6∨k=7∨k=8∨k=9∨k=10∨k=11∨k=12∨k=13∨k=14:=by omega
    rcases this with rfl|rfl|rfl|rfl|rfl|rfl|rfl|rfl|rfl|rfl|rfl|rfl|rfl|rfl<;>(subst hx;exact⟨h _,h _,h _,h _⟩)
  clear hx;obtain⟨hk1,hk2⟩:=hk;go_enter Tryz.func50,Tryz.ntmps50
  go_wp2_with (go_at_call 35;refine(in_any _ _ _ _).mono ?_;rintro e w' ⟨rfl,rfl⟩)
  go_region_with (go_at_call 48;refine(manners_any _).mono ?_;rintro e w' ⟨g,rfl,hb,hg,hc⟩;obtain⟨m0,m1,m2,m3⟩:=hm _ _ hc;obtain⟨b1,b2⟩:=bcell hb;clear hc;have hgs:=hb.size;have sz:=b1 w.heap.size)
  all_goals go_wp2
  all_goals
    obtain⟨E0,E1⟩:=end4 (w:=w) (g:=w.heap.size+1) (t:=77) (below_drew1 (below_alloc (below_alloc (Below.refl _ _) _) _)) (Nat.le_succ _) (blk2 _ _ _) hb (.string x.f0) (.string x.f1) (.string x.f2) (.bool x.f3);have q0:=blk_cell E1 0;have q1:=blk_cell E1 1;have q2:=blk_cell E1 2;have q3:=blk_cell E1 3;exact bodyPost_ret (v:=.agg #[.string x.f0,.string x.f1,.string x.f2,.bool x.f3]) (by simp[results,Tryz.results50,go_sem,q0,q1,q2,q3]) rfl ⟨rfl,E0⟩
theorem how_none (k:Int) (r s t vk vn:Int) (w:World) (hk:decide (1≤k∧k≤14)=false):
    Calls Tryz.prog 50 #[.agg #[.int .i64 k,.int .i64 r,.int .i64 s,.int .i64 t,.int .i64 vk,.int .i64 vn]] w fun e w'=>e= .returned (.agg #[.string ⟨#[]⟩,.string ⟨#[]⟩,.string ⟨#[]⟩,.bool false])∧Below w.heap.size w w':=by
  go_enter Tryz.func50,Tryz.ntmps50
  go_wp2_with (go_at_call 35;refine(in_any _ _ _ _).mono ?_;rintro e w' ⟨rfl,rfl⟩;rw[hk])
  exact bodyPost_ret (v:=.agg #[.string ⟨#[]⟩,.string ⟨#[]⟩,.string ⟨#[]⟩,.bool false]) (by simp[results,Tryz.results50,go_sem]) rfl ⟨rfl,by repeat(first|exact Below.refl _ _|apply below_alloc|apply below_drew1|refine below_set ?_ (Nat.le_succ _))⟩
theorem impl_Op_how.calls (k r s t vk vn:Int) (r1 r2 r3:ByteArray) (r4:Bool) (w:World) (h:howV.f k r s t vk vn=some (r1,r2,r3,r4)):
    Calls Tryz.prog 50 #[.agg #[.int .i64 k,.int .i64 r,.int .i64 s,.int .i64 t,.int .i64 vk,.int .i64 vn]] w fun e w'=>e= .returned (.agg #[.string r1,.string r2,.string r3,.bool r4])∧Below w.heap.size w w':=by
  unfold howV.f at h;have h:=Option.some.inj h;simp only[Prod.mk.injEq]at h
  obtain⟨rfl,rfl,rfl,rfl⟩:=h;by_cases hk:1≤k∧k≤14
  · have e:howR k=mannersL.getD k.toNat z77:=if_pos hk
    rw[e];exact how_kind k r s t vk vn _ w hk rfl
  · have e:howR k=z77:=if_neg hk
    rw[e];exact how_none k r s t vk vn w (decide_eq_false hk)
end Go.Proofs.YtmklpbmlgjkbiaaGreatDoor.PS
end
section
namespace Go.Proofs.YtmklpbmlgjkbiaaGreatDoor.PS
open Go.RowKit
theorem indexByte_any (s:ByteArray) (c:Int) (w:World):
    Calls Tryz.prog 70 #[.string s,.int .u8 c] w fun e w'=>e= .returned (.int .i64 (Lib.indexByte s.data.toList c.toNat.toUInt8))∧w=w':=by
  go_enter Tryz.func70,Tryz.ntmps70
  go_wp2
  rw[run_callFunc_extern Tryz.func83 (by kernel_rfl) (by kernel_rfl) (by kernel_rfl) (e:=Extern.BytealgIndexByte.indexByte) (by kernel_rfl),Lib.run_indexByteString]
  simp only[Result.andThen]
  rw[Oper.upon_value];go_wp2
  go_ret
  exact⟨rfl,rfl⟩
theorem index_one (s:ByteArray) (c:UInt8) (w:World):
    Calls Tryz.prog 96 #[.string s,.string ⟨#[c]⟩] w fun e w'=>e= .returned (.int .i64 (Lib.indexByte s.data.toList c))∧w=w':=by
  go_enter Tryz.func96,Tryz.ntmps96
  go_wp2_with (go_at_call 70;refine(indexByte_any _ _ _).mono ?_;rintro e w' ⟨rfl,rfl⟩)
  · have h:([c]==s.toList)=true:=by assumption
    go_ret
    refine⟨?_,rfl⟩
    have e:s.data.toList=[c]:=by rw[←Lib.toList_data];exact(beq_iff_eq.1 h).symm
    rw[e];simp[Lib.indexByte]
  · go_ret
    exact⟨rfl,rfl⟩
theorem sindex_one (s:ByteArray) (c:UInt8) (w:World):
    Calls Tryz.prog 82 #[.string s,.string ⟨#[c]⟩] w fun e w'=>e= .returned (.int .i64 (Lib.indexByte s.data.toList c))∧w=w':=by
  go_enter Tryz.func82,Tryz.ntmps82
  go_wp2_with (go_at_call 96;refine(index_one _ _ _).mono ?_;rintro e w' ⟨rfl,rfl⟩)
  go_ret
  exact⟨rfl,rfl⟩
theorem contains_one (s:ByteArray) (c:UInt8) (w:World):
    Calls Tryz.prog 65 #[.string s,.string ⟨#[c]⟩] w fun e w'=>e= .returned (.bool (decide (0≤Lib.indexByte s.data.toList c)))∧w=w':=by
  go_enter Tryz.func65,Tryz.ntmps65
  go_wp2_with (go_at_call 82;refine(sindex_one _ _ _).mono ?_;rintro e w' ⟨rfl,rfl⟩)
  go_ret
  exact⟨rfl,rfl⟩
end Go.Proofs.YtmklpbmlgjkbiaaGreatDoor.PS
end
section
namespace Go.Proofs.YtmklpbmlgjkbiaaGreatDoor.PS
open Go.RowKit Go.Proofs.YtmklpbmlgjkbiaaGreatDoorW.PrintWords Go.Proofs.YtmklpbmlgjkbiaaGreatDoorW.PrintLast
def hasC (k:Int) (c:UInt8):Bool:=decide (0≤Lib.indexByte (howR k).f1.data.toList c)
theorem hasC_R (k:Int):hasC k 82=hasR k:=by
  refine kinds (P:=fun k=>hasC k 82=hasR k) (fun k hk=> ?_) (by decide) (by decide) (by decide) (by decide) (by decide) (by decide) (by decide) (by decide) (by decide) (by decide) (by decide) (by decide) (by decide) (by decide) k
  unfold hasC howR;rw[if_neg hk];have:hasR k=false:=by unfold hasR;exact decide_eq_false (by omega)
  rw[this];decide
theorem hasC_S (k:Int):hasC k 83=hasS k:=by
  refine kinds (P:=fun k=>hasC k 83=hasS k) (fun k hk=> ?_) (by decide) (by decide) (by decide) (by decide) (by decide) (by decide) (by decide) (by decide) (by decide) (by decide) (by decide) (by decide) (by decide) (by decide) k
  unfold hasC howR;rw[if_neg hk];have:hasS k=false:=by unfold hasS;exact decide_eq_false (by omega)
  rw[this];decide
theorem hasC_T (k:Int):hasC k 84=hasT k:=by
  refine kinds (P:=fun k=>hasC k 84=hasT k) (fun k hk=> ?_) (by decide) (by decide) (by decide) (by decide) (by decide) (by decide) (by decide) (by decide) (by decide) (by decide) (by decide) (by decide) (by decide) (by decide) k
  unfold hasC howR;rw[if_neg hk];have:hasT k=false:=by unfold hasT;exact decide_eq_false (by omega)
  rw[this];decide
theorem hasC_V (k:Int):hasC k 86=hasV k:=by
  refine kinds (P:=fun k=>hasC k 86=hasV k) (fun k hk=> ?_) (by decide) (by decide) (by decide) (by decide) (by decide) (by decide) (by decide) (by decide) (by decide) (by decide) (by decide) (by decide) (by decide) (by decide) k
  unfold hasC howR;rw[if_neg hk];have:hasV k=false:=by unfold hasV;exact decide_eq_false (by omega)
  rw[this];decide
theorem has_any (k r s t vk vn:Int) (c:UInt8) (w:World):
    Calls Tryz.prog 34 #[.agg #[.int .i64 k,.int .i64 r,.int .i64 s,.int .i64 t,.int .i64 vk,.int .i64 vn],.string ⟨#[c]⟩] w fun e w'=>e= .returned (.bool (hasC k c))∧Below w.heap.size w w':=by
  have hw:=fun W:World=>impl_Op_how.calls k r s t vk vn (howR k).f0 (howR k).f1 (howR k).f2 (howR k).f3 W rfl
  obtain⟨x,hx⟩: ∃x,x=howR k:=⟨_,rfl⟩;unfold hasC;rw[←hx]at hw⊢
  clear hx;have hu66:=Tryz.underlying77;have hfd: ∀ (a b c d:Value) (W:World),Sem.run Tryz.prog (Instr.field 77 (.agg #[a,b,c,d]) 1) W= .ok b W:=fun _ _ _ _ _=>by kernel_rfl
  go_enter Tryz.func34,Tryz.ntmps34
  go_wp2_with (first|(go_at_call 50;refine(hw _).mono ?_;rintro e w' ⟨rfl,hb⟩)|(go_at_call 65;refine(contains_one _ _ _).mono ?_;rintro e w' ⟨rfl,rfl⟩))
  go_ret
  exact⟨rfl,below_step (below_alloc (Below.refl _ _) _) hb⟩
theorem eqA37 (d:Nat) (w:World) (x0 y0:Int) (x1 y1:Int):
    (Op.equalIn (d+2) 37 (.agg #[.int .i64 x0,.int .i64 x1]) (.agg #[.int .i64 y0,.int .i64 y1])).run Tryz.prog w= .ok (x0==y0&&(x1==y1)) w:=by
  refine eqA_of Tryz.underlying37 (by kernel_rfl) ?_
  refine eqf_cons (by rfl) (by go_simp;rfl) (by go_simp;rfl) (by go_simp) ?_
  exact eqf_last (by rfl) (by go_simp;rfl) (by go_simp;rfl) (by go_simp)
def fieldB (h:Bool) (n m:Int):Bool:=if h=true then decide (0≤n∧n≤m)else decide (n=0)
theorem field_any (B:Nat) (k r s t vk vn:Int) (c:UInt8) (n m:Int) (w:World) (hB:w.heap[B]?=some (.cells #[.int .i64 k,.int .i64 r,.int .i64 s,.int .i64 t,.int .i64 vk,.int .i64 vn] 39 (0,0))):
    Calls Tryz.prog 63 #[.string ⟨#[c]⟩,.int .i64 n,.int .i64 m,.pointer (some ⟨B,0,none⟩)] w fun e w'=>e= .returned (.bool (fieldB (hasC k c) n m))∧Below w.heap.size w w':=by
  have q0:=blk_cell hB 0;have q1:=blk_cell hB 1;have q2:=blk_cell hB 2;have q3:=blk_cell hB 3;have q4:=blk_cell hB 4;have q5:=blk_cell hB 5;simp at q0 q1 q2 q3 q4 q5
  clear hB;have hw:=fun W:World=>has_any k r s t vk vn c W
  obtain⟨h,hh⟩: ∃h,h=hasC k c:=⟨_,rfl⟩;rw[←hh]at hw⊢
  clear hh;unfold fieldB;cases h
  · go_enter Tryz.func63,Tryz.ntmps63
    go_wp2_with (first|(go_at_call 34;refine(hw _).mono ?_;rintro e w' ⟨rfl,hb⟩)|(go_at_call 35;refine(in_any _ _ _ _).mono ?_;rintro e w' ⟨rfl,rfl⟩))
    go_ret
    exact⟨by by_cases hn:n=0<;>simp[hn],hb⟩
  · go_enter Tryz.func63,Tryz.ntmps63
    go_wp2_with (first|(go_at_call 34;refine(hw _).mono ?_;rintro e w' ⟨rfl,hb⟩)|(go_at_call 35;refine(in_any _ _ _ _).mono ?_;rintro e w' ⟨rfl,rfl⟩))
    go_ret
    exact⟨by simp,hb⟩
theorem valok_any (a b:Int) (w:World):Calls Tryz.prog 81 #[.agg #[.int .i64 a,.int .i64 b]] w fun e w'=>e= .returned (.bool (okB a b))∧Below w.heap.size w w':=by
  by_cases h0:a=0
  · subst h0
    have e:okB 0 b=(b==0):=by
      unfold okB okP;by_cases hb:b=0<;>simp[hb]
    rw[e];go_enter Tryz.func81,Tryz.ntmps81
    go_wp2
    go_ret
    exact⟨by first|rfl|simp,below_alloc (Below.refl _ _) _⟩
  by_cases h1:a=1
  · subst h1
    have e:okB 1 b=decide (-99≤b∧b≤99):=by unfold okB okP;simp
    rw[e];go_enter Tryz.func81,Tryz.ntmps81
    go_wp2_with (go_at_call 35;refine(in_any _ _ _ _).mono ?_;rintro e w' ⟨rfl,rfl⟩)
    go_ret
    exact⟨by first|rfl|simp,below_alloc (Below.refl _ _) _⟩
  by_cases h2:a=2
  · subst h2
    have e:okB 2 b=decide (0≤b∧b≤9):=by unfold okB okP;simp
    rw[e];go_enter Tryz.func81,Tryz.ntmps81
    go_wp2_with (go_at_call 35;refine(in_any _ _ _ _).mono ?_;rintro e w' ⟨rfl,rfl⟩)
    go_ret
    exact⟨by first|rfl|simp,below_alloc (Below.refl _ _) _⟩
  by_cases h3:a=3
  · subst h3
    have e:okB 3 b=decide (1≤b∧b≤6):=by unfold okB okP;simp
    rw[e];go_enter Tryz.func81,Tryz.ntmps81
    go_wp2_with (go_at_call 35;refine(in_any _ _ _ _).mono ?_;rintro e w' ⟨rfl,rfl⟩)
    go_ret
    exact⟨by first|rfl|simp,below_alloc (Below.refl _ _) _⟩
  have e:okB a b=false:=by unfold okB okP;simp[h0,h1,h2,h3]
  rw[e];have b0:(a==0)=false:=by simpa using h0
  have b1:(a==1)=false:=by simpa using h1
  have b2:(a==2)=false:=by simpa using h2
  have b3:(a==3)=false:=by simpa using h3
  go_enter Tryz.func81,Tryz.ntmps81
  go_wp2
  go_ret
  exact⟨rfl,below_alloc (Below.refl _ _) _⟩
end Go.Proofs.YtmklpbmlgjkbiaaGreatDoor.PS
end
section
namespace Go.Proofs.YtmklpbmlgjkbiaaGreatDoor.PD
open Go.RowKit Go.Proofs.YtmklpbmlgjkbiaaGreatDoorW.PrintWords Go.Proofs.YtmklpbmlgjkbiaaGreatDoorW.PrintLast Go.Proofs.YtmklpbmlgjkbiaaGreatDoorW.PrintMore Go.Proofs.YtmklpbmlgjkbiaaGreatDoor.PS Go.Proofs.YtmklpbmlgjkbiaaGreatDoor.PC
attribute [local go_sem] max2_int min2_int max_two min_two max_three min_three max_four min_four   -- for this text's walks alone
theorem eqA37 (d:Nat) (w:World) (x0 y0:Int) (x1 y1:Int):
    (Op.equalIn (d+2) 37 (.agg #[.int .i64 x0,.int .i64 x1]) (.agg #[.int .i64 y0,.int .i64 y1])).run Tryz.prog w= .ok (x0==y0&&(x1==y1)) w:=by
  refine eqA_of Tryz.underlying37 (by kernel_rfl) ?_
  refine eqf_cons (by rfl) (by go_simp;rfl) (by go_simp;rfl) (by go_simp) ?_
  exact eqf_last (by rfl) (by go_simp;rfl) (by go_simp;rfl) (by go_simp)
theorem eqA39 (d:Nat) (w:World) (x0 y0:Int) (x1 y1:Int) (x2 y2:Int) (x3 y3:Int) (x4 y4:Int) (x5 y5:Int):
    (Op.equalIn (d+3) 39 (.agg #[.int .i64 x0,.int .i64 x1,.int .i64 x2,.int .i64 x3,.int .i64 x4,.int .i64 x5]) (.agg #[.int .i64 y0,.int .i64 y1,.int .i64 y2,.int .i64 y3,.int .i64 y4,.int .i64 y5])).run Tryz.prog w= .ok (x0==y0&&(x1==y1&&(x2==y2&&(x3==y3&&((x4==y4&&(x5==y5))))))) w:=by
  refine eqA_of Tryz.underlying39 (by kernel_rfl) ?_
  refine eqf_cons (by rfl) (by go_simp;rfl) (by go_simp;rfl) (by go_simp) ?_
  refine eqf_cons (by rfl) (by go_simp;rfl) (by go_simp;rfl) (by go_simp) ?_
  refine eqf_cons (by rfl) (by go_simp;rfl) (by go_simp;rfl) (by go_simp) ?_
  refine eqf_cons (by rfl) (by go_simp;rfl) (by go_simp;rfl) (by go_simp) ?_
  exact eqf_last (by rfl) (by go_simp) (by go_simp) (eqA37 (d+0) w _ _ _ _)
def IsS86 (w0 W:World) (g:Nat) (f0:List Int) (f1:Int):Prop:= ∃A0 c0,W.heap[g]?=some (.cells #[.slice A0 f0.length c0,.int .i64 f1] 86 (0,0))∧w0.heap.size≤g∧Kd.C (Kd.int .u8) w0 A0 f0.length f0
theorem IsS86.grown {w0 W:World} {g:Nat} {f0:List Int} {f1:Int} {W1:World} {row:Option Nat} (h:IsS86 w0 W g f0 f1) (hw:W.grownBy W1 row) (hne:some g≠row):IsS86 w0 W1 g f0 f1:=by
 obtain⟨A0,c0,hb,hg,hr0⟩:=h;exact⟨A0,c0,blk_grown hb hw hne,hg,hr0⟩
theorem IsS86.kept {w0 W:World} {g:Nat} {f0:List Int} {f1:Int} {W1:World} {S:Nat→Prop} (h:IsS86 w0 W g f0 f1) (hk:Kept W W1 S) (hne: ¬S g):IsS86 w0 W1 g f0 f1:=by
 obtain⟨A0,c0,hb,hg,hr0⟩:=h;exact⟨A0,c0,blk_kept hb hk hne,hg,hr0⟩
theorem IsS86.below {w0 W:World} {g:Nat} {f0:List Int} {f1:Int} {W1:World} (h:IsS86 w0 W g f0 f1) (hw:Below W.heap.size W W1):IsS86 w0 W1 g f0 f1:=h.grown (grown_of_below hw none) (by simp)
theorem IsS86.alloc {w0 W:World} {g:Nat} {f0:List Int} {f1:Int} (h:IsS86 w0 W g f0 f1) (o:Obj):IsS86 w0 (W.alloc o) g f0 f1:=h.below (below_alloc (Below.refl _ _) o)
theorem IsS86.drewN {w0 W:World} {g:Nat} {f0:List Int} {f1:Int} (h:IsS86 w0 W g f0 f1) (m:Nat):IsS86 w0 (W.drewN m) g f0 f1:=h
theorem IsS86.drew {w0 W:World} {g:Nat} {f0:List Int} {f1:Int} (h:IsS86 w0 W g f0 f1):IsS86 w0 W.drew g f0 f1:=h
theorem IsS86.apart {w0 W:World} {g:Nat} {f0:List Int} {f1:Int} {α:Type} {d:Kd α} {e:Nat} {base:Nat} {ok:Nat→Prop} {v:Value} {xs:List α} (h:IsS86 w0 W g f0 f1) (ho:d.R e W base ok v xs) (ht: ∀q,q∈e::d.E→q≠86):d.R e W base (fun k=>ok k∧k≠g) v xs:=by
 obtain⟨A0,c0,hb,hg,hr0⟩:=h;exact Kd.R_types ho hb ht
theorem IsS86.own_ne {w0 W:World} {g:Nat} {f0:List Int} {f1:Int} {α:Type} {d:Kd α} {e:Nat} {base:Nat} {ok:Nat→Prop} {v:Value} {xs:List α} (h:IsS86 w0 W g f0 f1) (ho:d.R e W base ok v xs) (ht:e≠86):some g≠v.ownBlock:=by
 obtain⟨A0,c0,hb,hg,hr0⟩:=h;exact Kd.R_ne ho hb ht
theorem IsS86.lt {w0 W:World} {g:Nat} {f0:List Int} {f1:Int} (h:IsS86 w0 W g f0 f1):g<W.heap.size:=by
 obtain⟨A0,c0,hb,hg,hr0⟩:=h;exact blk_lt hb
theorem IsS86.ge {w0 W:World} {g:Nat} {f0:List Int} {f1:Int} (h:IsS86 w0 W g f0 f1):w0.heap.size≤g:=by
 obtain⟨A0,c0,hb,hg,hr0⟩:=h;exact hg
theorem IsS86.far {w0 W:World} {g:Nat} {f0:List Int} {f1:Int} {p:Addr} (h:IsS86 w0 W g f0 f1) (hne:g≠p.block) (u:Value):IsS86 w0 (W.setCell p u) g f0 f1:=by
 obtain⟨A0,c0,hb,hg,hr0⟩:=h;exact⟨A0,c0,blk_far hb hne u,hg,hr0⟩
theorem cellS86_0 {W:World} {g:Nat} {A0:Option Addr} {c0:Nat} {f0:List Int} {f1:Int} (h:W.heap[g]?=some (.cells #[.slice A0 f0.length c0,.int .i64 f1] 86 (0,0))):W.cell? ⟨g,0,none⟩=some (.slice A0 f0.length c0):=(blk_cell h 0).trans rfl
theorem cellS86_1 {W:World} {g:Nat} {A0:Option Addr} {c0:Nat} {f0:List Int} {f1:Int} (h:W.heap[g]?=some (.cells #[.slice A0 f0.length c0,.int .i64 f1] 86 (0,0))):W.cell? ⟨g,1,none⟩=some (.int .i64 f1):=(blk_cell h 1).trans rfl
theorem IsS86.set_1 {w0 W:World} {g:Nat} {f0:List Int} {f1:Int} (h:IsS86 w0 W g f0 f1) (x:Int):IsS86 w0 (W.setCell ⟨g,1,none⟩ (.int .i64 x)) g f0 x:=by
 obtain⟨A0,c0,hb,hg,hr0⟩:=h;exact⟨A0,c0,by simpa using blk_set hb 1 (.int .i64 x),hg,hr0⟩
theorem sA {w0 W:World} {g:Nat} {f0:List Int} {f1:Int} (h:IsS86 w0 W g f0 f1) (o:Obj):IsS86 w0 (W.alloc o) g f0 f1:=IsS86.alloc h o
theorem sN {w0 W:World} {g:Nat} {f0:List Int} {f1:Int} (h:IsS86 w0 W g f0 f1) (m:Nat):IsS86 w0 (W.drewN m) g f0 f1:=h
theorem sD {w0 W:World} {g:Nat} {f0:List Int} {f1:Int} (h:IsS86 w0 W g f0 f1):IsS86 w0 W.drew g f0 f1:=h
theorem sS {w0 W:World} {g:Nat} {f0:List Int} {f1:Int} (h:IsS86 w0 W g f0 f1) (x:Int):IsS86 w0 (W.setCell ⟨g,1,none⟩ (.int .i64 x)) g f0 x:=IsS86.set_1 h x
def spec_l6Open.f (l0:List Int):Option (List Int×Int):=if(l0.length:Int)>2000 then(if 2000≤(l0.length:Int)then(some (l0.take 2000,0))else(none))else(some (l0,0))
theorem spec_l6Open.calls (A0:Option Addr) (c0:Nat) (l0:List Int) (r1:List Int) (r2:Int) (w0 w:World) (hB:Below w0.heap.size w0 w) (hr0:Kd.C (Kd.int .u8) w0 A0 l0.length l0) (hc0:l0.length≤c0) (h:spec_l6Open.f l0=some (r1,r2)):
  Calls Tryz.prog 25 #[.slice A0 l0.length c0] w fun e w'=> ∃g_:Nat,e= .returned (.pointer (some ⟨g_,0,none⟩))∧IsS86 w0 w' g_ r1 r2∧Below w0.heap.size w0 w'∧Below w.heap.size w w':=by
 have hu86:=Tryz.underlying86;have HR0:=aS hr0;have HC0:=aS hc0;clear hr0 hc0;have HBW:=aS (Below.refl w.heap.size w);have HW0:=aS hB.size;have HB:=aS hB;clear hB;have H:(if(l0.length:Int)>2000 then(if 2000≤(l0.length:Int)then(some (l0.take 2000,0))else(none))else(some (l0,0)))=some (r1,r2):=h
 clear h;by_cases c2:(l0.length:Int)>2000
 ·rw[if_pos c2]at H
  have c2b0:decide (2000<(l0.length:Int))=true:=decide_eq_true c2;have c2b1:decide (2000<l0.length)=true:=decide_eq_true (by omega)
  clear c2;by_cases c3:2000≤(l0.length:Int)
  ·rw[if_pos c3]at H
   have c3b0:=eq_true c3;have c3b1:decide (2000≤(l0.length:Int))=true:=decide_eq_true c3;clear c3;simp only[Option.some.injEq,Prod.mk.injEq]at H
   obtain⟨rfl,rfl⟩:=H;obtain⟨i04,hi04,_,hsz4,_⟩:=info_parts info5;obtain⟨hcut4,hA4,hC4⟩:=print_take_of (P:=Tryz.prog) (Value.int .u8) 0 28 5 .i64 Tryz.underlying28 hi04 hsz4 A0 c0 l0 2000 (by omega) (of_decide_eq_true (by assumption)) HC0.out
   have HR101:=aS (Kd.C_of_reads (h1:=fun _=>rfl) (hA4 _ (Kd.reads_of_C HR0.out)))
   have HC101:=aS hC4;clear hA4 hC4 hi04 hsz4;go_enter Tryz.func25,Tryz.ntmps25
   go_wp2_with (first|((with_reducible refine gate_dst (N:=10) rfl ?_);refine box_event ?hg (N:=10) ?hd (cs:= #[.slice A0 (l0.take 2000).length c0,.int .i64 0]) (t:=86) ?hr ?_;(case hd=>rfl);(case hg=>rfl);(case hr=>go_simp<;>rfl);intro gb102 hg w5 hbox hb;have n0_:=aS (below_step HBW.out hb);have n1_:=aS (below_step (by exact bU HB.out) hb);have n2_:=aS (hbox);have n3_:=aS ((by rw[hg];exact(below_size (by repeat(with_reducible first|exact HBW.out|apply bA|apply bN|apply b1))):w.heap.size≤gb102));have n4_:=aS ((Nat.le_trans HW0.out (by rw[hg];exact(below_size (by repeat(with_reducible first|exact HBW.out|apply bA|apply bN|apply b1))):w.heap.size≤gb102):w0.heap.size≤gb102));clear HBW;clear HB;have HBW:=n0_;have HB:=n1_;have BK102:=n2_;have GW102:=n3_;have GE102:=n4_;clear n0_ n1_ n2_ n3_ n4_;clear hb hbox hg))
   go_ret
   exact⟨_,rfl,(show IsS86 w0 _ gb102 (l0.take 2000) 0 from⟨_,_,by exact blkU BK102.out,GE102.out,HR101.out⟩),by repeat(with_reducible first|exact HB.out|apply bA|apply bN|apply b1|refine below_set ?_ GE102.out),by repeat(with_reducible first|exact HBW.out|apply bA|apply bN|apply b1|refine below_set ?_ GW102.out)⟩
  ·rw[if_neg c3]at H
   exact absurd H (by simp)
 ·rw[if_neg c2]at H
  have c2b0:decide (2000<(l0.length:Int))=false:=decide_eq_false c2;have c2b1:decide (2000<l0.length)=false:=decide_eq_false (by omega)
  clear c2;simp only[Option.some.injEq,Prod.mk.injEq]at H
  obtain⟨rfl,rfl⟩:=H;go_enter Tryz.func25,Tryz.ntmps25
  go_wp2_with (first|((with_reducible refine gate_dst (N:=10) rfl ?_);refine box_event ?hg (N:=10) ?hd (cs:= #[.slice A0 l0.length c0,.int .i64 0]) (t:=86) ?hr ?_;(case hd=>rfl);(case hg=>rfl);(case hr=>go_simp<;>rfl);intro gb103 hg w6 hbox hb;have n0_:=aS (below_step HBW.out hb);have n1_:=aS (below_step (by exact bU HB.out) hb);have n2_:=aS (hbox);have n3_:=aS ((by rw[hg];exact(below_size (by repeat(with_reducible first|exact HBW.out|apply bA|apply bN|apply b1))):w.heap.size≤gb103));have n4_:=aS ((Nat.le_trans HW0.out (by rw[hg];exact(below_size (by repeat(with_reducible first|exact HBW.out|apply bA|apply bN|apply b1))):w.heap.size≤gb103):w0.heap.size≤gb103));clear HBW;clear HB;have HBW:=n0_;have HB:=n1_;have BK103:=n2_;have GW103:=n3_;have GE103:=n4_;clear n0_ n1_ n2_ n3_ n4_;clear hb hbox hg))
  go_ret
  exact⟨_,rfl,(show IsS86 w0 _ gb103 l0 0 from⟨_,_,by exact blkU BK103.out,GE103.out,HR0.out⟩),by repeat(with_reducible first|exact HB.out|apply bA|apply bN|apply b1|refine below_set ?_ GE103.out),by repeat(with_reducible first|exact HBW.out|apply bA|apply bN|apply b1|refine below_set ?_ GW103.out)⟩
def spec_l6Rd_pick.j0:Nat→Int→Bool→List Int→Int→Option (Int×Int)
 |0,_,_,_,_=>none
 |k+1,x1,x24,x1000,x1001=>if x24=true then(some (0,x1001))else(if(wrap64 (x1001-1))<(x1000.length:Int)then(if 0≤(wrap64 (x1001-1))then(if x1=0 then(none)else(some (Int.tmod (wrap64 (rd x1000 (wrap64 (x1001-1)))) x1,x1001)))else(none))else(if(x1000.length:Int)=0 then(none)else(if 0≤(Int.tmod (wrap64 (x1001-1)) (x1000.length:Int))then(if(Int.tmod (wrap64 (x1001-1)) (x1000.length:Int))<(x1000.length:Int)then(if 0≤(Int.tmod (wrap64 ((wrap64 ((wrap64 (x1001-1))*7))+3)) (x1000.length:Int))then(if(Int.tmod (wrap64 ((wrap64 ((wrap64 (x1001-1))*7))+3)) (x1000.length:Int))<(x1000.length:Int)then(if x1=0 then(none)else(some (Int.tmod (Go.bits .xor .i64 (wrap64 ((wrap64 ((wrap64 ((wrap64 ((wrap64 (rd x1000 (Int.tmod (wrap64 (x1001-1)) (x1000.length:Int))))*131))+(wrap64 ((wrap64 (rd x1000 (Int.tmod (wrap64 ((wrap64 ((wrap64 (x1001-1))*7))+3)) (x1000.length:Int))))*1117))))+(wrap64 ((wrap64 (x1001-1))*29))))+(wrap64 ((wrap64 (Int.tdiv (wrap64 (x1001-1)) (x1000.length:Int)))*53)))) (wrap64 (Int.tdiv (wrap64 ((wrap64 ((wrap64 ((wrap64 ((wrap64 (rd x1000 (Int.tmod (wrap64 (x1001-1)) (x1000.length:Int))))*131))+(wrap64 ((wrap64 (rd x1000 (Int.tmod (wrap64 ((wrap64 ((wrap64 (x1001-1))*7))+3)) (x1000.length:Int))))*1117))))+(wrap64 ((wrap64 (x1001-1))*29))))+(wrap64 ((wrap64 (Int.tdiv (wrap64 (x1001-1)) (x1000.length:Int)))*53)))) 64))) x1,x1001)))else(none))else(none))else(none))else(none))))
def spec_l6Rd_pick.f (k:Nat) (s0_0:List Int) (s0_1:Int) (a1:Int):Option (Int×Int):=if a1<1 then(spec_l6Rd_pick.j0 k a1 true s0_0 (wrap64 (s0_1+1)))else(spec_l6Rd_pick.j0 k a1 ((s0_0.length:Int)==0) s0_0 (wrap64 (s0_1+1)))
theorem spec_l6Rd_pick.mono_l: ∀k,(∀y0 y1 y2 y3,LeO (spec_l6Rd_pick.j0 k y0 y1 y2 y3) (spec_l6Rd_pick.j0 (k+1) y0 y1 y2 y3))
 |0=>fun _ _ _ _ r h=>by simp[spec_l6Rd_pick.j0]at h
 |k+1=>by
  have ih0:=spec_l6Rd_pick.mono_l k
  ·intro y0 y1 y2 y3
   unfold spec_l6Rd_pick.j0;repeat' first
   |(with_reducible exact ih0 _ _ _ _)
   |(with_reducible exact LeO.refl _)
   |(with_reducible exact LeO.none _)
   |(with_reducible refine LeO.ite ?_ ?_)
   |(with_reducible refine LeO.bind ?_ (fun _=> ?_))
   |exact ih0 _ _ _ _
   |exact LeO.none _
   |refine LeO.ite ?_ ?_
   |refine LeO.bind ?_ (fun _=> ?_)
theorem spec_l6Rd_pick.mono: ∀a0 a1 a2 k,LeO (spec_l6Rd_pick.f k a0 a1 a2) (spec_l6Rd_pick.f (k+1) a0 a1 a2):=by
 intro a0 a1 a2 k;have ih0:=spec_l6Rd_pick.mono_l k;unfold spec_l6Rd_pick.f
 repeat' first
   |(with_reducible exact ih0 _ _ _ _)
   |(with_reducible exact LeO.refl _)
   |(with_reducible exact LeO.none _)
   |(with_reducible refine LeO.ite ?_ ?_)
   |(with_reducible refine LeO.bind ?_ (fun _=> ?_))
   |exact ih0 _ _ _ _
   |exact LeO.none _
   |refine LeO.ite ?_ ?_
   |refine LeO.bind ?_ (fun _=> ?_)
theorem spec_l6Rd_pick.calls (k:Nat) (g:Nat) (s0_0:List Int) (s0_1:Int) (a1:Int) (r1:Int) (r2:Int) (w0 w:World) (hI:IsS86 w0 w g s0_0 s0_1) (hB:Below w0.heap.size w0 w) (h:spec_l6Rd_pick.f k s0_0 s0_1 a1=some (r1,r2)):
  Calls Tryz.prog 30 #[.pointer (some ⟨g,0,none⟩),.int .i64 a1] w fun e w'=>e= .returned (.int .i64 r1)∧IsS86 w0 w' g s0_0 r2∧Below w0.heap.size w0 w'∧KeepBut w w' g none:=by
 have HI0:=aS hI;have HK:=aS (KeepBut.refl w g none);have HL:=aS hB.size;clear hI;have HW0:=aS hB.size;have HB:=aS hB;clear hB;have H:(if a1<1 then(spec_l6Rd_pick.j0 k a1 true s0_0 (wrap64 (s0_1+1)))else(spec_l6Rd_pick.j0 k a1 ((s0_0.length:Int)==0) s0_0 (wrap64 (s0_1+1))))=some (r1,r2):=h
 clear h;have HC3:=aS H;clear H;obtain⟨ASz4_0,cSz4_0,HGz4,hgz4,HSz4_0⟩:=HI0.out;have hcz4_0:=cellS86_0 HGz4;have hcz4_1:=cellS86_1 HGz4;have hfz4_1:=blk_frozen HGz4 1;clear HGz4 hgz4;go_enter Tryz.func30,Tryz.ntmps30
 go_upto_region 2 with (fail)
 repeat(go_quiet (fail);go_upto_region 2 with (fail))
 go_cut [24] (fun v24 wc=> ∃ (kq:Nat) (x24_2:Bool),v24= .bool x24_2∧Aside0 (spec_l6Rd_pick.j0 kq a1 x24_2 s0_0 (wrap64 (s0_1+1))=some (r1,r2))∧Aside0 (kq≤k)∧Aside0 (IsS86 w0 wc g s0_0 (wrap64 (s0_1+1)))∧Aside0 (KeepBut w wc g none)∧Aside0 (Below w0.heap.size w0 wc))
 case first=>
  have H:=HC3.out;clear HC3;by_cases c5:a1<1
  ·rw[if_pos c5]at H
   have c5b0:decide (a1<1)=true:=decide_eq_true c5;clear c5;(first|rw[c5b0]|(simp only[i64_w,i32_w];rw[c5b0])|skip)
   have H':=aS H;clear H;go_wp2
   repeat(go_quiet (fail);try go_wp2)
   go_meet
   case rel=>exact⟨_,(true),(by first|rfl|(simp;done)|(simp[*];done)),H',⟨by first|omega|exact Nat.le_refl _⟩,⟨by repeat(with_reducible first|exact HI0.out|apply sA|apply sN|apply sD|apply sS)⟩,⟨by repeat(with_reducible first|exact HK.out|apply pS|apply pN|apply pD|apply pA)⟩,⟨by repeat(with_reducible first|exact HB.out|apply bA|apply bN|apply b1|refine below_set ?_ (IsS86.ge HI0.out))⟩⟩
  ·rw[if_neg c5]at H
   have c5b0:decide (a1<1)=false:=decide_eq_false c5;clear c5;(first|rw[c5b0]|(simp only[i64_w,i32_w];rw[c5b0])|skip)
   have H':=aS H;clear H;obtain⟨ASz6_0,cSz6_0,HGz6,hgz6,HSz6_0⟩:=HI0.out;have hcz6_0:=cellS86_0 HGz6;have hcz6_1:=cellS86_1 HGz6;have hfz6_1:=blk_frozen HGz6 1;clear HGz6 hgz6;go_wp2
   repeat(go_quiet (fail);try go_wp2)
   go_meet
   case rel=>exact⟨_,(((s0_0.length:Int)==0)),(by first|rfl|(simp;done)|(simp[*];done)),H',⟨by first|omega|exact Nat.le_refl _⟩,⟨by repeat(with_reducible first|exact HI0.out|apply sA|apply sN|apply sD|apply sS)⟩,⟨by repeat(with_reducible first|exact HK.out|apply pS|apply pN|apply pD|apply pA)⟩,⟨by repeat(with_reducible first|exact HB.out|apply bA|apply bN|apply b1|refine below_set ?_ (IsS86.ge HI0.out))⟩⟩
 case rest=>
  clear HC3;(try clear p2);(try clear c3);(try clear c5);(try clear c5b0);(try clear p6);(try clear hcz4_0);(try clear hcz4_1);(try clear hcz6_0);(try clear hcz6_1);(try clear hfz4_1);(try clear hfz6_1)
  obtain⟨kq,x24_2,rfl,HA,HJ2,HI0,HK,HB⟩:=hcut;cases kq with
  |zero=>exact absurd HA.out (by simp[spec_l6Rd_pick.j0])
  |succ kj2=>
   have H:=HA.out;clear HA;simp only[spec_l6Rd_pick.j0]at H
   by_cases c7:x24_2=true
   ·subst c7
    have H1:(some (0,(wrap64 (s0_1+1))))=some (r1,r2):=by rw[if_pos rfl]at H;exact H
    clear H;have H:=H1;clear H1;simp only[Option.some.injEq,Prod.mk.injEq]at H
    obtain⟨rfl,rfl⟩:=H;go_wp2
    repeat(go_quiet (fail);try go_wp2)
    go_ret
    exact⟨by first|rfl|(simp[*]<;>rfl),by repeat(with_reducible first|exact HI0.out|apply sA|apply sN|apply sD|apply sS),by repeat(with_reducible first|exact HB.out|apply bA|apply bN|apply b1|refine below_set ?_ (IsS86.ge HI0.out)),by repeat(with_reducible first|exact HK.out|apply pS|apply pN|apply pD|apply pA)⟩
   ·replace c7:=Bool.eq_false_iff.mpr c7
    subst c7;have H1:(if(wrap64 ((wrap64 (s0_1+1))-1))<(s0_0.length:Int)then(if 0≤(wrap64 ((wrap64 (s0_1+1))-1))then(if a1=0 then(none)else(some (Int.tmod (wrap64 (rd s0_0 (wrap64 ((wrap64 (s0_1+1))-1)))) a1,(wrap64 (s0_1+1)))))else(none))else(if(s0_0.length:Int)=0 then(none)else(if 0≤(Int.tmod (wrap64 ((wrap64 (s0_1+1))-1)) (s0_0.length:Int))then(if(Int.tmod (wrap64 ((wrap64 (s0_1+1))-1)) (s0_0.length:Int))<(s0_0.length:Int)then(if 0≤(Int.tmod (wrap64 ((wrap64 ((wrap64 ((wrap64 (s0_1+1))-1))*7))+3)) (s0_0.length:Int))then(if(Int.tmod (wrap64 ((wrap64 ((wrap64 ((wrap64 (s0_1+1))-1))*7))+3)) (s0_0.length:Int))<(s0_0.length:Int)then(if a1=0 then(none)else(some (Int.tmod (Go.bits .xor .i64 (wrap64 ((wrap64 ((wrap64 ((wrap64 ((wrap64 (rd s0_0 (Int.tmod (wrap64 ((wrap64 (s0_1+1))-1)) (s0_0.length:Int))))*131))+(wrap64 ((wrap64 (rd s0_0 (Int.tmod (wrap64 ((wrap64 ((wrap64 ((wrap64 (s0_1+1))-1))*7))+3)) (s0_0.length:Int))))*1117))))+(wrap64 ((wrap64 ((wrap64 (s0_1+1))-1))*29))))+(wrap64 ((wrap64 (Int.tdiv (wrap64 ((wrap64 (s0_1+1))-1)) (s0_0.length:Int)))*53)))) (wrap64 (Int.tdiv (wrap64 ((wrap64 ((wrap64 ((wrap64 ((wrap64 (rd s0_0 (Int.tmod (wrap64 ((wrap64 (s0_1+1))-1)) (s0_0.length:Int))))*131))+(wrap64 ((wrap64 (rd s0_0 (Int.tmod (wrap64 ((wrap64 ((wrap64 ((wrap64 (s0_1+1))-1))*7))+3)) (s0_0.length:Int))))*1117))))+(wrap64 ((wrap64 ((wrap64 (s0_1+1))-1))*29))))+(wrap64 ((wrap64 (Int.tdiv (wrap64 ((wrap64 (s0_1+1))-1)) (s0_0.length:Int)))*53)))) 64))) a1,(wrap64 (s0_1+1)))))else(none))else(none))else(none))else(none))))=some (r1,r2):=by rw[if_neg (show¬(false=true) by decide)]at H;exact H
    clear H;have H:=H1;clear H1;by_cases c8:(wrap64 ((wrap64 (s0_1+1))-1))<(s0_0.length:Int)
    ·rw[if_pos c8]at H
     have c8b0:decide ((wrap64 ((wrap64 (s0_1+1))-1))<(s0_0.length:Int))=true:=decide_eq_true c8;clear c8;obtain⟨ji9,hji9⟩: ∃j_:Int,(wrap64 ((wrap64 (s0_1+1))-1))=j_:=⟨_,rfl⟩;replace H:(if 0≤(ji9)then(if a1=0 then(none)else(some (Int.tmod (wrap64 (rd s0_0 (ji9))) a1,(wrap64 (s0_1+1)))))else(none))=some (r1,r2):=by first|(rw[hji9]at H;exact H)|(simp only[hji9]at H⊢;exact H)
     (try rw[hji9]at c8b0)
     have hji9w:(IntKind.i64.wrap ((wrap64 (s0_1+1))-1))=ji9:=(i64_w _).trans hji9;by_cases c10:0≤(ji9)
     ·rw[if_pos c10]at H
      have c10b0:decide (0≤(ji9))=true:=decide_eq_true c10;clear c10;by_cases c11:a1=0
      ·rw[if_pos c11]at H
       exact absurd H (by simp)
      ·rw[if_neg c11]at H
       have c11b0:(a1==0)=false:=beq_eq_false_iff_ne.mpr c11;have c11b1:(a1 !=0)=true:=bne_iff_ne.mpr c11;simp only[Option.some.injEq,Prod.mk.injEq]at H
       obtain⟨rfl,rfl⟩:=H;obtain⟨ASz12_0,cSz12_0,HGz12,hgz12,HSz12_0⟩:=HI0.out;have hcz12_0:=cellS86_0 HGz12;have hcz12_1:=cellS86_1 HGz12;have hfz12_1:=blk_frozen HGz12 1;clear HGz12 hgz12;have p104:0≤((ji9):Int):=of_decide_eq_true (by assumption)
       have q104:(ji9)<(s0_0.length:Int):=of_decide_eq_true (by assumption)
       obtain⟨ad104,e104,hx104_0⟩:=Kd.at_int HSz12_0 (ji9) p104 q104;cases e104
       replace hx104_0:=pw_cell_below HB.out hx104_0;replace p104:=eq_true p104;replace q104:=eq_true q104;go_wp2
       repeat(go_quiet (fail);try go_wp2)
       go_ret
       exact⟨by first|rfl|(simp[errW_none,errW_some]<;>rfl)|(simp only[←hji9];first|rfl|(simp[errW_none,errW_some]<;>rfl))|(simp[*,errW_none,errW_some]<;>rfl),by repeat(with_reducible first|exact HI0.out|apply sA|apply sN|apply sD|apply sS),by repeat(with_reducible first|exact HB.out|apply bA|apply bN|apply b1|refine below_set ?_ (IsS86.ge HI0.out)),by repeat(with_reducible first|exact HK.out|apply pS|apply pN|apply pD|apply pA)⟩
     ·rw[if_neg c10]at H
      exact absurd H (by simp)
    ·rw[if_neg c8]at H
     have c8b0:decide ((wrap64 ((wrap64 (s0_1+1))-1))<(s0_0.length:Int))=false:=decide_eq_false c8;clear c8;by_cases c13:(s0_0.length:Int)=0
     ·rw[if_pos c13]at H
      exact absurd H (by simp)
     ·rw[if_neg c13]at H
      have c13b0:((s0_0.length:Int)==0)=false:=beq_eq_false_iff_ne.mpr c13;have c13b1:((s0_0.length:Int) !=0)=true:=bne_iff_ne.mpr c13;have c13b2: ¬(s0_0=[]):=fun h_=>c13 (by rw[h_];rfl)
      obtain⟨ji14,hji14⟩: ∃j_:Int,(Int.tmod (wrap64 ((wrap64 (s0_1+1))-1)) (s0_0.length:Int))=j_:=⟨_,rfl⟩;replace H:(if 0≤(ji14)then(if(ji14)<(s0_0.length:Int)then(if 0≤(Int.tmod (wrap64 ((wrap64 ((wrap64 ((wrap64 (s0_1+1))-1))*7))+3)) (s0_0.length:Int))then(if(Int.tmod (wrap64 ((wrap64 ((wrap64 ((wrap64 (s0_1+1))-1))*7))+3)) (s0_0.length:Int))<(s0_0.length:Int)then(if a1=0 then(none)else(some (Int.tmod (Go.bits .xor .i64 (wrap64 ((wrap64 ((wrap64 ((wrap64 ((wrap64 (rd s0_0 (ji14)))*131))+(wrap64 ((wrap64 (rd s0_0 (Int.tmod (wrap64 ((wrap64 ((wrap64 ((wrap64 (s0_1+1))-1))*7))+3)) (s0_0.length:Int))))*1117))))+(wrap64 ((wrap64 ((wrap64 (s0_1+1))-1))*29))))+(wrap64 ((wrap64 (Int.tdiv (wrap64 ((wrap64 (s0_1+1))-1)) (s0_0.length:Int)))*53)))) (wrap64 (Int.tdiv (wrap64 ((wrap64 ((wrap64 ((wrap64 ((wrap64 (rd s0_0 (ji14)))*131))+(wrap64 ((wrap64 (rd s0_0 (Int.tmod (wrap64 ((wrap64 ((wrap64 ((wrap64 (s0_1+1))-1))*7))+3)) (s0_0.length:Int))))*1117))))+(wrap64 ((wrap64 ((wrap64 (s0_1+1))-1))*29))))+(wrap64 ((wrap64 (Int.tdiv (wrap64 ((wrap64 (s0_1+1))-1)) (s0_0.length:Int)))*53)))) 64))) a1,(wrap64 (s0_1+1)))))else(none))else(none))else(none))else(none))=some (r1,r2):=by first|(rw[hji14]at H;exact H)|(simp only[hji14]at H⊢;exact H)
      by_cases c15:0≤(ji14)
      ·rw[if_pos c15]at H
       have c15b0:decide (0≤(ji14))=true:=decide_eq_true c15;clear c15;by_cases c16:(ji14)<(s0_0.length:Int)
       ·rw[if_pos c16]at H
        have c16b0:decide ((ji14)<(s0_0.length:Int))=true:=decide_eq_true c16;clear c16;obtain⟨ji17,hji17⟩: ∃j_:Int,(Int.tmod (wrap64 ((wrap64 ((wrap64 ((wrap64 (s0_1+1))-1))*7))+3)) (s0_0.length:Int))=j_:=⟨_,rfl⟩;replace H:(if 0≤(ji17)then(if(ji17)<(s0_0.length:Int)then(if a1=0 then(none)else(some (Int.tmod (Go.bits .xor .i64 (wrap64 ((wrap64 ((wrap64 ((wrap64 ((wrap64 (rd s0_0 (ji14)))*131))+(wrap64 ((wrap64 (rd s0_0 (ji17)))*1117))))+(wrap64 ((wrap64 ((wrap64 (s0_1+1))-1))*29))))+(wrap64 ((wrap64 (Int.tdiv (wrap64 ((wrap64 (s0_1+1))-1)) (s0_0.length:Int)))*53)))) (wrap64 (Int.tdiv (wrap64 ((wrap64 ((wrap64 ((wrap64 ((wrap64 (rd s0_0 (ji14)))*131))+(wrap64 ((wrap64 (rd s0_0 (ji17)))*1117))))+(wrap64 ((wrap64 ((wrap64 (s0_1+1))-1))*29))))+(wrap64 ((wrap64 (Int.tdiv (wrap64 ((wrap64 (s0_1+1))-1)) (s0_0.length:Int)))*53)))) 64))) a1,(wrap64 (s0_1+1)))))else(none))else(none))=some (r1,r2):=by first|(rw[hji17]at H;exact H)|(simp only[hji17]at H⊢;exact H)
        by_cases c18:0≤(ji17)
        ·rw[if_pos c18]at H
         have c18b0:decide (0≤(ji17))=true:=decide_eq_true c18;clear c18;by_cases c19:(ji17)<(s0_0.length:Int)
         ·rw[if_pos c19]at H
          have c19b0:decide ((ji17)<(s0_0.length:Int))=true:=decide_eq_true c19;clear c19;by_cases c20:a1=0
          ·rw[if_pos c20]at H
           exact absurd H (by simp)
          ·rw[if_neg c20]at H
           have c20b0:(a1==0)=false:=beq_eq_false_iff_ne.mpr c20;have c20b1:(a1 !=0)=true:=bne_iff_ne.mpr c20;simp only[Option.some.injEq,Prod.mk.injEq]at H
           obtain⟨rfl,rfl⟩:=H;obtain⟨ASz21_0,cSz21_0,HGz21,hgz21,HSz21_0⟩:=HI0.out;have hcz21_0:=cellS86_0 HGz21;have hcz21_1:=cellS86_1 HGz21;have hfz21_1:=blk_frozen HGz21 1;clear HGz21 hgz21;have p105:0≤((ji14):Int):=of_decide_eq_true (by assumption)
           have q105:(ji14)<(s0_0.length:Int):=of_decide_eq_true (by assumption)
           obtain⟨ad105,e105,hx105_0⟩:=Kd.at_int HSz21_0 (ji14) p105 q105;cases e105
           replace hx105_0:=pw_cell_below HB.out hx105_0;replace p105:=eq_true p105;replace q105:=eq_true q105;have p106:0≤((ji17):Int):=of_decide_eq_true (by assumption)
           have q106:(ji17)<(s0_0.length:Int):=of_decide_eq_true (by assumption)
           obtain⟨ad106,e106,hx106_0⟩:=Kd.at_int HSz21_0 (ji17) p106 q106;obtain rfl:ad105=ad106:=(by injection e106)
           replace hx106_0:=pw_cell_below HB.out hx106_0;replace p106:=eq_true p106;replace q106:=eq_true q106;go_wp2
           repeat(go_quiet (fail);try go_wp2)
           go_ret
           exact⟨by first|rfl|(simp[errW_none,errW_some]<;>rfl)|(simp only[←hji14,←hji17];first|rfl|(simp[errW_none,errW_some]<;>rfl))|(simp[*,errW_none,errW_some]<;>rfl),by repeat(with_reducible first|exact HI0.out|apply sA|apply sN|apply sD|apply sS),by repeat(with_reducible first|exact HB.out|apply bA|apply bN|apply b1|refine below_set ?_ (IsS86.ge HI0.out)),by repeat(with_reducible first|exact HK.out|apply pS|apply pN|apply pD|apply pA)⟩
         ·rw[if_neg c19]at H
          exact absurd H (by simp)
        ·rw[if_neg c18]at H
         exact absurd H (by simp)
       ·rw[if_neg c16]at H
        exact absurd H (by simp)
      ·rw[if_neg c15]at H
       exact absurd H (by simp)
def spec_l71Val.j0:Nat→List Int→Int→Int→Int→Option (Int×Int×Int)
 |0,_,_,_,_=>none
 |k+1,x1000,x1001,x111000,x111001=>(spec_l6Rd_pick.f k x1000 x1001 30).bind fun bt121=>(if bt121.1=0 then((some (([(-100),100,10]:List Int):List Int)).bind fun y123=>((spec_l6Rd_pick.f k x1000 bt121.2 3).bind fun bt126=>(if 0≤bt126.1 then(if bt126.1<(y123.length:Int)then(some (x111000,rd y123 bt126.1,bt126.2))else(none))else(none))))else(if bt121.1=1 then((spec_l6Rd_pick.f k x1000 bt121.2 6).bind fun bt129=>(some (bt129.1,x111001,bt129.2)))else(some (x111000,x111001,bt121.2))))
def spec_l71Val.f (k:Nat) (s0_0:List Int) (s0_1:Int):Option (Int×Int×Int):=(spec_l6Rd_pick.f k s0_0 s0_1 4).bind fun bt108=>(if bt108.1=1 then((some (([0,1,2,3,(-1),7,50,99,(-99)]:List Int):List Int)).bind fun y111=>((spec_l6Rd_pick.f k s0_0 bt108.2 9).bind fun bt114=>(if 0≤bt114.1 then(if bt114.1<(y111.length:Int)then(spec_l71Val.j0 k s0_0 bt114.2 bt108.1 (rd y111 bt114.1))else(none))else(none))))else(if bt108.1=2 then((spec_l6Rd_pick.f k s0_0 bt108.2 5).bind fun bt117=>(spec_l71Val.j0 k s0_0 bt117.2 bt108.1 bt117.1))else(if bt108.1=3 then((spec_l6Rd_pick.f k s0_0 bt108.2 4).bind fun bt119=>(spec_l71Val.j0 k s0_0 bt119.2 bt108.1 (wrap64 (1+bt119.1))))else(spec_l71Val.j0 k s0_0 bt108.2 bt108.1 0))))
theorem spec_l71Val.mono_l: ∀k,(∀y0 y1 y2 y3,LeO (spec_l71Val.j0 k y0 y1 y2 y3) (spec_l71Val.j0 (k+1) y0 y1 y2 y3))
 |0=>fun _ _ _ _ r h=>by simp[spec_l71Val.j0]at h
 |k+1=>by
  have ih0:=spec_l71Val.mono_l k
  ·intro y0 y1 y2 y3
   unfold spec_l71Val.j0;repeat' first
   |(with_reducible exact ih0 _ _ _ _)
   |(with_reducible exact spec_l6Rd_pick.mono _ _ _ _)
   |(with_reducible exact LeO.refl _)
   |(with_reducible exact LeO.none _)
   |(with_reducible refine LeO.ite ?_ ?_)
   |(with_reducible refine LeO.bind ?_ (fun _=> ?_))
   |exact ih0 _ _ _ _
   |exact spec_l6Rd_pick.mono _ _ _ _
   |exact LeO.none _
   |refine LeO.ite ?_ ?_
   |refine LeO.bind ?_ (fun _=> ?_)
theorem spec_l71Val.mono: ∀a0 a1 k,LeO (spec_l71Val.f k a0 a1) (spec_l71Val.f (k+1) a0 a1):=by
 intro a0 a1 k;have ih0:=spec_l71Val.mono_l k;unfold spec_l71Val.f
 repeat' first
   |(with_reducible exact ih0 _ _ _ _)
   |(with_reducible exact spec_l6Rd_pick.mono _ _ _ _)
   |(with_reducible exact LeO.refl _)
   |(with_reducible exact LeO.none _)
   |(with_reducible refine LeO.ite ?_ ?_)
   |(with_reducible refine LeO.bind ?_ (fun _=> ?_))
   |exact ih0 _ _ _ _
   |exact spec_l6Rd_pick.mono _ _ _ _
   |exact LeO.none _
   |refine LeO.ite ?_ ?_
   |refine LeO.bind ?_ (fun _=> ?_)
theorem spec_l71Val.calls (k:Nat) (g:Nat) (s0_0:List Int) (s0_1:Int) (r1:Int) (r2:Int) (r3:Int) (w0 w:World) (hI:IsS86 w0 w g s0_0 s0_1) (hB:Below w0.heap.size w0 w) (h:spec_l71Val.f k s0_0 s0_1=some (r1,r2,r3)):
  Calls Tryz.prog 78 #[.pointer (some ⟨g,0,none⟩)] w fun e w'=>e= .returned (.agg #[.int .i64 r1,.int .i64 r2])∧IsS86 w0 w' g s0_0 r3∧Below w0.heap.size w0 w'∧KeepBut w w' g none:=by
 have hu37:=Tryz.underlying37;have HI0:=aS hI;have HK:=aS (KeepBut.refl w g none);have HL:=aS hB.size;clear hI;have HW0:=aS hB.size;have HB:=aS hB;clear hB;have H:((spec_l6Rd_pick.f k s0_0 s0_1 4).bind fun bt108=>(if bt108.1=1 then((some (([0,1,2,3,(-1),7,50,99,(-99)]:List Int):List Int)).bind fun y111=>((spec_l6Rd_pick.f k s0_0 bt108.2 9).bind fun bt114=>(if 0≤bt114.1 then(if bt114.1<(y111.length:Int)then(spec_l71Val.j0 k s0_0 bt114.2 bt108.1 (rd y111 bt114.1))else(none))else(none))))else(if bt108.1=2 then((spec_l6Rd_pick.f k s0_0 bt108.2 5).bind fun bt117=>(spec_l71Val.j0 k s0_0 bt117.2 bt108.1 bt117.1))else(if bt108.1=3 then((spec_l6Rd_pick.f k s0_0 bt108.2 4).bind fun bt119=>(spec_l71Val.j0 k s0_0 bt119.2 bt108.1 (wrap64 (1+bt119.1))))else(spec_l71Val.j0 k s0_0 bt108.2 bt108.1 0)))))=some (r1,r2,r3):=h
 clear h;replace H:=Option.bind_eq_some_iff.mp H;obtain⟨⟨t108,t109⟩,A20,H⟩:=H;replace H:(if t108=1 then((some (([0,1,2,3,(-1),7,50,99,(-99)]:List Int):List Int)).bind fun y111=>((spec_l6Rd_pick.f k s0_0 t109 9).bind fun bt114=>(if 0≤bt114.1 then(if bt114.1<(y111.length:Int)then(spec_l71Val.j0 k s0_0 bt114.2 t108 (rd y111 bt114.1))else(none))else(none))))else(if t108=2 then((spec_l6Rd_pick.f k s0_0 t109 5).bind fun bt117=>(spec_l71Val.j0 k s0_0 bt117.2 t108 bt117.1))else(if t108=3 then((spec_l6Rd_pick.f k s0_0 t109 4).bind fun bt119=>(spec_l71Val.j0 k s0_0 bt119.2 t108 (wrap64 (1+bt119.1))))else(spec_l71Val.j0 k s0_0 t109 t108 0))))=some (r1,r2,r3):=H
 have A2:=aS A20;clear A20;have HC3:=aS H;clear H;go_enter Tryz.func78,Tryz.ntmps78
 go_upto_block 0 with (first|((with_reducible refine gate_dst (N:=2) rfl ?_);refine box_event ?hg (N:=2) ?hd (cs:= #[.int .i64 0,.int .i64 0]) (t:=37) ?hr ?_;(case hd=>rfl);(case hg=>rfl);(case hr=>go_simp<;>rfl);intro gb107 hg w4 hbox hb;have n0_:=aS (IsS86.below (by repeat(with_reducible first|exact HI0.out|apply sA|apply sN|apply sD|apply sS)) hb);have n1_:=aS (KeepBut.trans (by repeat(with_reducible first|exact HK.out|apply pS|apply pN|apply pD|apply pA)) (KeepBut.of_below hb g none) (.inl rfl));have n2_:=aS (below_step (by repeat(with_reducible first|exact HB.out|apply bA|apply bN|apply b1|refine below_set ?_ (IsS86.ge HI0.out))) hb);have n3_:=aS (hbox);have n4_:=aS ((by rw[hg];exact(keep_size (w:=w) (g:=g) (row:=none) (by repeat(with_reducible first|exact HK.out|apply pS|apply pN|apply pD|apply pA))):w.heap.size≤gb107));have n5_:=aS ((Nat.le_trans HW0.out (by rw[hg];exact(keep_size (w:=w) (g:=g) (row:=none) (by repeat(with_reducible first|exact HK.out|apply pS|apply pN|apply pD|apply pA))):w.heap.size≤gb107):w0.heap.size≤gb107));have n6_:=aS ((by rw[hg];exact Nat.ne_of_lt (IsS86.lt (show IsS86 w0 _ g s0_0 s0_1 from by repeat(with_reducible first|exact HI0.out|apply sA|apply sN|apply sD|apply sS))):g≠gb107));have n7_:=aS ((by rw[hg];exact Nat.ne_of_gt (IsS86.lt (show IsS86 w0 _ g s0_0 s0_1 from by repeat(with_reducible first|exact HI0.out|apply sA|apply sN|apply sD|apply sS))):gb107≠g));clear HI0;clear HK;clear HB;have HI0:=n0_;have HK:=n1_;have HB:=n2_;have BK107:=n3_;have GW107:=n4_;have GE107:=n5_;have NB0_107:=n6_;have NB107_0:=n7_;clear n0_ n1_ n2_ n3_ n4_ n5_ n6_ n7_;clear hb hbox hg)|((with_reducible refine gate_callee (f:=30) rfl ?_);refine goesL_ (some 5) rfl rfl Tryz.func30 (by kernel_rfl) rfl #[.pointer (some ⟨g,0,none⟩),.int .i64 4] rfl (by(try simp only[List.map_toArray,List.map_cons,List.map_nil])<;>rfl) ?_;(with_reducible refine(spec_l6Rd_pick.calls k g s0_0 s0_1 4 t108 t109 w0 _ ?side1 ?side2 A2.out).mono ?_);(case side1=>repeat(with_reducible first|exact HI0.out|apply sA|apply sN|apply sD|apply sS|refine IsS86.far ?_ NB0_107.out _));(case side2=>repeat(with_reducible first|exact HB.out|apply bA|apply bN|apply b1|refine below_set ?_ (IsS86.ge HI0.out)|refine below_set ?_ GE107.out));rintro e w5 ⟨rfl,hi,hb,hk⟩;refine⟨_,rfl,?_⟩;replace BK107:=aS (KeepBut.blk hk (g':=gb107) (o:=.cells #[.int .i64 0,.int .i64 0] 37 (0,0)) (by exact blkU BK107.out) NB107_0.out (by simp));replace HK:=aS (KeepBut.trans (by repeat(with_reducible first|exact HK.out|apply pS|apply pN|apply pD|apply pA|refine keep_far ?_ GW107.out _)) hk (.inl rfl));replace HB:=aS (hb);replace HI0:=aS (hi);(try clear hb);(try clear hk);(try clear hi))|((with_reducible refine gate_dst (N:=3) rfl ?_);refine box_event ?hg (N:=3) ?hd (cs:= #[.int .i64 0,.int .i64 0]) (t:=37) ?hr ?_;(case hd=>rfl);(case hg=>rfl);(case hr=>go_simp<;>rfl);intro gb110 hg w6 hbox hb;have n0_:=aS (IsS86.below (by repeat(with_reducible first|exact HI0.out|apply sA|apply sN|apply sD|apply sS|refine IsS86.far ?_ NB0_107.out _)) hb);have n1_:=aS (blk_below (g:=gb107) (o:=.cells #[.int .i64 0,.int .i64 0] 37 (0,0)) (by exact blkU BK107.out) hb);have n2_:=aS (KeepBut.trans (by repeat(with_reducible first|exact HK.out|apply pS|apply pN|apply pD|apply pA|refine keep_far ?_ GW107.out _)) (KeepBut.of_below hb g none) (.inl rfl));have n3_:=aS (below_step (by repeat(with_reducible first|exact HB.out|apply bA|apply bN|apply b1|refine below_set ?_ (IsS86.ge HI0.out)|refine below_set ?_ GE107.out)) hb);have n4_:=aS (hbox);have n5_:=aS ((by rw[hg];exact(keep_size (w:=w) (g:=g) (row:=none) (by repeat(with_reducible first|exact HK.out|apply pS|apply pN|apply pD|apply pA|refine keep_far ?_ GW107.out _))):w.heap.size≤gb110));have n6_:=aS ((Nat.le_trans HW0.out (by rw[hg];exact(keep_size (w:=w) (g:=g) (row:=none) (by repeat(with_reducible first|exact HK.out|apply pS|apply pN|apply pD|apply pA|refine keep_far ?_ GW107.out _))):w.heap.size≤gb110):w0.heap.size≤gb110));have n7_:=aS ((by rw[hg];exact Nat.ne_of_lt (blk_lt (g:=gb107) (o:=.cells #[.int .i64 0,.int .i64 0] 37 (0,0)) (by exact blkU BK107.out)):gb107≠gb110));have n8_:=aS ((by rw[hg];exact Nat.ne_of_gt (blk_lt (g:=gb107) (o:=.cells #[.int .i64 0,.int .i64 0] 37 (0,0)) (by exact blkU BK107.out)):gb110≠gb107));have n9_:=aS ((by rw[hg];exact Nat.ne_of_lt (IsS86.lt (show IsS86 w0 _ g s0_0 t109 from by repeat(with_reducible first|exact HI0.out|apply sA|apply sN|apply sD|apply sS|refine IsS86.far ?_ NB0_107.out _))):g≠gb110));have n10_:=aS ((by rw[hg];exact Nat.ne_of_gt (IsS86.lt (show IsS86 w0 _ g s0_0 t109 from by repeat(with_reducible first|exact HI0.out|apply sA|apply sN|apply sD|apply sS|refine IsS86.far ?_ NB0_107.out _))):gb110≠g));clear HI0;clear BK107;clear HK;clear HB;have HI0:=n0_;have BK107:=n1_;have HK:=n2_;have HB:=n3_;have BK110:=n4_;have GW110:=n5_;have GE110:=n6_;have NB107_110:=n7_;have NB110_107:=n8_;have NB0_110:=n9_;have NB110_0:=n10_;clear n0_ n1_ n2_ n3_ n4_ n5_ n6_ n7_ n8_ n9_ n10_;clear hb hbox hg;have hnb7:=NB110_107.out;have hnc7:=NB107_110.out;have hnb8:=NB110_0.out;have hnc8:=NB0_110.out;have hcz9_0:w6.cell? ⟨gb110,0,none⟩=some (.int .i64 0):=(blk_cell BK110.out 0).trans rfl;have hcz9_1:w6.cell? ⟨gb110,1,none⟩=some (.int .i64 0):=(blk_cell BK110.out 1).trans rfl;have hfz9_0:=blk_frozen BK110.out 0;have hfz9_1:=blk_frozen BK110.out 1))
 (try simp only[Act.put,List.setIfInBounds_toArray,List.set_cons_zero,List.set_cons_succ])
 go_cut [] (fun wc=> ∃ (kq:Nat) (x1001_2:Int) (x111001_2:Int),Aside0 (spec_l71Val.j0 kq s0_0 x1001_2 t108 x111001_2=some (r1,r2,r3))∧Aside0 (kq≤k)∧Aside0 (wc.heap[gb107]?=some (.cells #[.int .i64 0,.int .i64 0] 37 (0,0)))∧Aside0 (wc.heap[gb110]?=some (.cells #[.int .i64 t108,.int .i64 x111001_2] 37 (0,0)))∧Aside0 (IsS86 w0 wc g s0_0 x1001_2)∧Aside0 (KeepBut w wc g none)∧Aside0 (Below w0.heap.size w0 wc))
 case first=>
  have H:=HC3.out;clear HC3;by_cases c10:t108=1
  ·rw[if_pos c10]at H
   have c10b0:(t108==1)=true:=beq_iff_eq.mpr c10;have c10b1:(t108 !=1)=false:=bne_eq_false_iff_eq.mpr c10;clear c10;(first|rw[c10b0]|(simp only[i64_w,i32_w];rw[c10b0])|skip)
   obtain⟨y111,hy111⟩: ∃y_:List Int,y_=(([0,1,2,3,(-1),7,50,99,(-99)]:List Int)):=⟨_,rfl⟩;replace H:((spec_l6Rd_pick.f k s0_0 t109 9).bind fun bt114=>(if 0≤bt114.1 then(if bt114.1<(y111.length:Int)then(spec_l71Val.j0 k s0_0 bt114.2 t108 (rd y111 bt114.1))else(none))else(none)))=some (r1,r2,r3):=by first|(rw[hy111];with_reducible exact H)|(have H2_:=(Option.bind_some _ _).symm.trans H;rw[hy111];with_reducible exact H2_)|(have H2_:=(Option.bind_some _ _).symm.trans H;with_reducible exact H2_)|with_reducible exact H|(rw[hy111];exact H)|exact H
   have Ny111:=aS hy111;clear hy111;replace H:=Option.bind_eq_some_iff.mp H;obtain⟨⟨t114,t115⟩,A110,H⟩:=H;replace H:(if 0≤t114 then(if t114<(y111.length:Int)then(spec_l71Val.j0 k s0_0 t115 t108 (rd y111 t114))else(none))else(none))=some (r1,r2,r3):=H
   have A11:=aS A110;clear A110;by_cases c12:0≤t114
   ·rw[if_pos c12]at H
    have c12b0:decide (0≤t114)=true:=decide_eq_true c12;clear c12;by_cases c13:t114<(y111.length:Int)
    ·rw[if_pos c13]at H
     have c13b0:decide (t114<(y111.length:Int))=true:=decide_eq_true c13;clear c13;have H':=aS H;clear H;go_wp2_with (first|((with_reducible refine gate_dst (N:=11) rfl ?_);refine Kd.R_lit (Kd.int .i64) _ 3 ?hg (N:=11) ?hd (xs:=([0,1,2,3,(-1),7,50,99,(-99)]:List Int)) (inner:=[.int .i64 0,.int .i64 1,.int .i64 2,.int .i64 3,.int .i64 (-1),.int .i64 7,.int .i64 50,.int .i64 99,.int .i64 (-99)]) (ok:=fun _=>True) (okp:=fun _=>True) ?hr ?hp (fun _ hk=>hk) trivial (Below.refl _ _) (Nat.le_refl _) (by simp) ?_;(case hd=>rfl);(case hg=>rfl);(case hr=>go_simp<;>rfl);(case hp=>exact(Reps.one (show Kd.M (Kd.int .i64) _ _ _ 0 [.int .i64 0]from rfl) (Reps.one (show Kd.M (Kd.int .i64) _ _ _ 1 [.int .i64 1]from rfl) (Reps.one (show Kd.M (Kd.int .i64) _ _ _ 2 [.int .i64 2]from rfl) (Reps.one (show Kd.M (Kd.int .i64) _ _ _ 3 [.int .i64 3]from rfl) (Reps.one (show Kd.M (Kd.int .i64) _ _ _ (-1) [.int .i64 (-1)]from rfl) (Reps.one (show Kd.M (Kd.int .i64) _ _ _ 7 [.int .i64 7]from rfl) (Reps.one (show Kd.M (Kd.int .i64) _ _ _ 50 [.int .i64 50]from rfl) (Reps.one (show Kd.M (Kd.int .i64) _ _ _ 99 [.int .i64 99]from rfl) (Reps.one (show Kd.M (Kd.int .i64) _ _ _ (-99) [.int .i64 (-99)]from rfl) (Reps.none _ _)))))))))));intro v112 w14 ho15 hb hg_ hnew_;clear hg_ hnew_;(first|rw[←Ny111.out]at ho15|(simp only[Int.reduceToNat]at ho15;rw[←Ny111.out]at ho15));have n0_:=aS (Kd.R_lower ho15 (keep_size (w:=w) (g:=g) (row:=none) (by repeat(with_reducible first|exact HK.out|apply pS|apply pN|apply pD|apply pA|refine keep_far ?_ GW107.out _|refine keep_far ?_ GW110.out _))));have n1_:=aS (IsS86.below (show IsS86 w0 ((w6.setCell ⟨gb110,0,none⟩ (.int .i64 t108)).setCell ⟨gb110,1,none⟩ (.int .i64 0)) g s0_0 t109 from by repeat(with_reducible first|exact HI0.out|apply sA|apply sN|apply sD|apply sS|refine IsS86.far ?_ NB0_107.out _|refine IsS86.far ?_ NB0_110.out _)) hb);have n2_:=aS (blk_below (g:=gb107) (o:=.cells #[.int .i64 0,.int .i64 0] 37 (0,0)) (by refine kU ?_;refine blk_far ?_ NB107_110.out _;refine kU ?_;refine blk_far ?_ NB107_110.out _;exact blkU BK107.out) hb);have n3_:=aS (blk_below (g:=gb110) (o:=.cells #[.int .i64 t108,.int .i64 0] 37 (0,0)) (by refine kU ?_;refine blk_put (cs:= #[.int .i64 t108,.int .i64 0]) ?_ 1 _ rfl;refine kU ?_;refine blk_put (cs:= #[.int .i64 0,.int .i64 0]) ?_ 0 _ rfl;exact blkU BK110.out) hb);have n4_:=aS (KeepBut.trans (by repeat(with_reducible first|exact HK.out|apply pS|apply pN|apply pD|apply pA|refine keep_far ?_ GW107.out _|refine keep_far ?_ GW110.out _)) (KeepBut.of_below hb g none) (.inl rfl));have n5_:=aS (below_step (by repeat(with_reducible first|exact HB.out|apply bA|apply bN|apply b1|refine below_set ?_ (IsS86.ge HI0.out)|refine below_set ?_ GE107.out|refine below_set ?_ GE110.out)) hb);clear HI0;clear BK107;clear BK110;clear HK;clear HB;have HO113:=n0_;have HI0:=n1_;have BK107:=n2_;have BK110:=n3_;have HK:=n4_;have HB:=n5_;clear n0_ n1_ n2_ n3_ n4_ n5_;clear hb ho15)|((with_reducible refine gate_callee (f:=30) rfl ?_);refine goesL_ (some 13) rfl rfl Tryz.func30 (by kernel_rfl) rfl #[.pointer (some ⟨g,0,none⟩),.int .i64 9] rfl (by(try simp only[List.map_toArray,List.map_cons,List.map_nil])<;>rfl) ?_;(with_reducible refine(spec_l6Rd_pick.calls k g s0_0 t109 9 t114 t115 w0 _ ?side1 ?side2 A11.out).mono ?_);(case side1=>repeat(with_reducible first|exact HI0.out|apply sA|apply sN|apply sD|apply sS|refine IsS86.far ?_ NB0_107.out _|refine IsS86.far ?_ NB0_110.out _));(case side2=>repeat(with_reducible first|exact HB.out|apply bA|apply bN|apply b1|refine below_set ?_ (IsS86.ge HI0.out)|refine below_set ?_ GE107.out|refine below_set ?_ GE110.out));rintro e w16 ⟨rfl,hi,hb,hk⟩;refine⟨_,rfl,?_⟩;replace BK107:=aS (KeepBut.blk hk (g':=gb107) (o:=.cells #[.int .i64 0,.int .i64 0] 37 (0,0)) (by exact blkU BK107.out) NB107_0.out (by simp));replace BK110:=aS (KeepBut.blk hk (g':=gb110) (o:=.cells #[.int .i64 t108,.int .i64 0] 37 (0,0)) (by exact blkU BK110.out) NB110_0.out (by simp));replace HO113:=aS (Kd.R_mono (Kd.R_keep (IsS86.apart (show IsS86 w0 _ g s0_0 t109 from by repeat(with_reducible first|exact HI0.out|apply sA|apply sN|apply sD|apply sS|refine IsS86.far ?_ NB0_107.out _|refine IsS86.far ?_ NB0_110.out _)) (by exact rU HO113.out) (by decide)) hk (fun _ h=>h.2)) (fun _ h=>h.1));replace HK:=aS (KeepBut.trans (by repeat(with_reducible first|exact HK.out|apply pS|apply pN|apply pD|apply pA|refine keep_far ?_ GW107.out _|refine keep_far ?_ GW110.out _)) hk (.inl rfl));replace HB:=aS (hb);replace HI0:=aS (hi);(try clear hb);(try clear hk);(try clear hi);obtain⟨Ao17,co17,eo17⟩:=Kd.R_slice HO113.out;subst eo17;have p116:0≤(t114:Int):=of_decide_eq_true (by assumption);have q116:t114<(y111.length:Int):=of_decide_eq_true (by assumption);obtain⟨ad116,e116,hx116_0⟩:=Kd.at_int (Kd.R_reads' HO113.out).2.2 t114 p116 q116;cases e116;replace p116:=eq_true p116;replace q116:=eq_true q116;have hnb18:=NB110_107.out;have hnc18:=NB107_110.out;have hnb19:=NB110_0.out;have hnc19:=NB0_110.out;have hcz20_0:w16.cell? ⟨gb110,0,none⟩=some (.int .i64 t108):=(blk_cell BK110.out 0).trans rfl;have hcz20_1:w16.cell? ⟨gb110,1,none⟩=some (.int .i64 0):=(blk_cell BK110.out 1).trans rfl;have hfz20_0:=blk_frozen BK110.out 0;have hfz20_1:=blk_frozen BK110.out 1))
     go_meet
     case rel=>exact⟨_,(t115),(rd y111 t114),H',⟨by first|omega|exact Nat.le_refl _⟩,⟨by refine kU ?_;refine blk_far ?_ NB107_110.out _;exact blkU BK107.out⟩,⟨by refine kU ?_;refine blk_put (cs:= #[.int .i64 t108,.int .i64 0]) ?_ 1 _ rfl;exact blkU BK110.out⟩,⟨by repeat(with_reducible first|exact HI0.out|apply sA|apply sN|apply sD|apply sS|refine IsS86.far ?_ NB0_107.out _|refine IsS86.far ?_ NB0_110.out _)⟩,⟨by repeat(with_reducible first|exact HK.out|apply pS|apply pN|apply pD|apply pA|refine keep_far ?_ GW107.out _|refine keep_far ?_ GW110.out _)⟩,⟨by repeat(with_reducible first|exact HB.out|apply bA|apply bN|apply b1|refine below_set ?_ (IsS86.ge HI0.out)|refine below_set ?_ GE107.out|refine below_set ?_ GE110.out)⟩⟩
    ·rw[if_neg c13]at H
     exact absurd H (by simp)
   ·rw[if_neg c12]at H
    exact absurd H (by simp)
  ·rw[if_neg c10]at H
   have c10b0:(t108==1)=false:=beq_eq_false_iff_ne.mpr c10;have c10b1:(t108 !=1)=true:=bne_iff_ne.mpr c10;(first|rw[c10b0]|(simp only[i64_w,i32_w];rw[c10b0])|skip)
   by_cases c21:t108=2
   ·rw[if_pos c21]at H
    have c21b0:(t108==2)=true:=beq_iff_eq.mpr c21;have c21b1:(t108 !=2)=false:=bne_eq_false_iff_eq.mpr c21;clear c21;replace H:=Option.bind_eq_some_iff.mp H;obtain⟨⟨t117,t118⟩,A220,H⟩:=H;replace H:(spec_l71Val.j0 k s0_0 t118 t108 t117)=some (r1,r2,r3):=H;have A22:=aS A220;clear A220;have H':=aS H;clear H;go_wp2_with (first|((with_reducible refine gate_callee (f:=30) rfl ?_);refine goesL_ (some 20) rfl rfl Tryz.func30 (by kernel_rfl) rfl #[.pointer (some ⟨g,0,none⟩),.int .i64 5] rfl (by(try simp only[List.map_toArray,List.map_cons,List.map_nil])<;>rfl) ?_;(with_reducible refine(spec_l6Rd_pick.calls k g s0_0 t109 5 t117 t118 w0 _ ?side1 ?side2 A22.out).mono ?_);(case side1=>repeat(with_reducible first|exact HI0.out|apply sA|apply sN|apply sD|apply sS|refine IsS86.far ?_ NB0_107.out _|refine IsS86.far ?_ NB0_110.out _));(case side2=>repeat(with_reducible first|exact HB.out|apply bA|apply bN|apply b1|refine below_set ?_ (IsS86.ge HI0.out)|refine below_set ?_ GE107.out|refine below_set ?_ GE110.out));rintro e w23 ⟨rfl,hi,hb,hk⟩;refine⟨_,rfl,?_⟩;replace BK107:=aS (KeepBut.blk hk (g':=gb107) (o:=.cells #[.int .i64 0,.int .i64 0] 37 (0,0)) (by refine kU ?_;refine blk_far ?_ NB107_110.out _;refine kU ?_;refine blk_far ?_ NB107_110.out _;exact blkU BK107.out) NB107_0.out (by simp));replace BK110:=aS (KeepBut.blk hk (g':=gb110) (o:=.cells #[.int .i64 t108,.int .i64 0] 37 (0,0)) (by refine kU ?_;refine blk_put (cs:= #[.int .i64 t108,.int .i64 0]) ?_ 1 _ rfl;refine kU ?_;refine blk_put (cs:= #[.int .i64 0,.int .i64 0]) ?_ 0 _ rfl;exact blkU BK110.out) NB110_0.out (by simp));replace HK:=aS (KeepBut.trans (by repeat(with_reducible first|exact HK.out|apply pS|apply pN|apply pD|apply pA|refine keep_far ?_ GW107.out _|refine keep_far ?_ GW110.out _)) hk (.inl rfl));replace HB:=aS (hb);replace HI0:=aS (hi);(try clear hb);(try clear hk);(try clear hi);have hnb24:=NB110_107.out;have hnc24:=NB107_110.out;have hnb25:=NB110_0.out;have hnc25:=NB0_110.out;have hcz26_0:w23.cell? ⟨gb110,0,none⟩=some (.int .i64 t108):=(blk_cell BK110.out 0).trans rfl;have hcz26_1:w23.cell? ⟨gb110,1,none⟩=some (.int .i64 0):=(blk_cell BK110.out 1).trans rfl;have hfz26_0:=blk_frozen BK110.out 0;have hfz26_1:=blk_frozen BK110.out 1))
    go_meet
    case rel=>exact⟨_,(t118),(t117),H',⟨by first|omega|exact Nat.le_refl _⟩,⟨by refine kU ?_;refine blk_far ?_ NB107_110.out _;exact blkU BK107.out⟩,⟨by refine kU ?_;refine blk_put (cs:= #[.int .i64 t108,.int .i64 0]) ?_ 1 _ rfl;exact blkU BK110.out⟩,⟨by repeat(with_reducible first|exact HI0.out|apply sA|apply sN|apply sD|apply sS|refine IsS86.far ?_ NB0_107.out _|refine IsS86.far ?_ NB0_110.out _)⟩,⟨by repeat(with_reducible first|exact HK.out|apply pS|apply pN|apply pD|apply pA|refine keep_far ?_ GW107.out _|refine keep_far ?_ GW110.out _)⟩,⟨by repeat(with_reducible first|exact HB.out|apply bA|apply bN|apply b1|refine below_set ?_ (IsS86.ge HI0.out)|refine below_set ?_ GE107.out|refine below_set ?_ GE110.out)⟩⟩
   ·rw[if_neg c21]at H
    have c21b0:(t108==2)=false:=beq_eq_false_iff_ne.mpr c21;have c21b1:(t108 !=2)=true:=bne_iff_ne.mpr c21;by_cases c27:t108=3
    ·rw[if_pos c27]at H
     have c27b0:(t108==3)=true:=beq_iff_eq.mpr c27;have c27b1:(t108 !=3)=false:=bne_eq_false_iff_eq.mpr c27;clear c27;replace H:=Option.bind_eq_some_iff.mp H;obtain⟨⟨t119,t120⟩,A280,H⟩:=H;replace H:(spec_l71Val.j0 k s0_0 t120 t108 (wrap64 (1+t119)))=some (r1,r2,r3):=H;have A28:=aS A280;clear A280;have H':=aS H;clear H;go_wp2_with (first|((with_reducible refine gate_callee (f:=30) rfl ?_);refine goesL_ (some 25) rfl rfl Tryz.func30 (by kernel_rfl) rfl #[.pointer (some ⟨g,0,none⟩),.int .i64 4] rfl (by(try simp only[List.map_toArray,List.map_cons,List.map_nil])<;>rfl) ?_;(with_reducible refine(spec_l6Rd_pick.calls k g s0_0 t109 4 t119 t120 w0 _ ?side1 ?side2 A28.out).mono ?_);(case side1=>repeat(with_reducible first|exact HI0.out|apply sA|apply sN|apply sD|apply sS|refine IsS86.far ?_ NB0_107.out _|refine IsS86.far ?_ NB0_110.out _));(case side2=>repeat(with_reducible first|exact HB.out|apply bA|apply bN|apply b1|refine below_set ?_ (IsS86.ge HI0.out)|refine below_set ?_ GE107.out|refine below_set ?_ GE110.out));rintro e w29 ⟨rfl,hi,hb,hk⟩;refine⟨_,rfl,?_⟩;replace BK107:=aS (KeepBut.blk hk (g':=gb107) (o:=.cells #[.int .i64 0,.int .i64 0] 37 (0,0)) (by refine kU ?_;refine blk_far ?_ NB107_110.out _;refine kU ?_;refine blk_far ?_ NB107_110.out _;exact blkU BK107.out) NB107_0.out (by simp));replace BK110:=aS (KeepBut.blk hk (g':=gb110) (o:=.cells #[.int .i64 t108,.int .i64 0] 37 (0,0)) (by refine kU ?_;refine blk_put (cs:= #[.int .i64 t108,.int .i64 0]) ?_ 1 _ rfl;refine kU ?_;refine blk_put (cs:= #[.int .i64 0,.int .i64 0]) ?_ 0 _ rfl;exact blkU BK110.out) NB110_0.out (by simp));replace HK:=aS (KeepBut.trans (by repeat(with_reducible first|exact HK.out|apply pS|apply pN|apply pD|apply pA|refine keep_far ?_ GW107.out _|refine keep_far ?_ GW110.out _)) hk (.inl rfl));replace HB:=aS (hb);replace HI0:=aS (hi);(try clear hb);(try clear hk);(try clear hi);have hnb30:=NB110_107.out;have hnc30:=NB107_110.out;have hnb31:=NB110_0.out;have hnc31:=NB0_110.out;have hcz32_0:w29.cell? ⟨gb110,0,none⟩=some (.int .i64 t108):=(blk_cell BK110.out 0).trans rfl;have hcz32_1:w29.cell? ⟨gb110,1,none⟩=some (.int .i64 0):=(blk_cell BK110.out 1).trans rfl;have hfz32_0:=blk_frozen BK110.out 0;have hfz32_1:=blk_frozen BK110.out 1))
     go_meet
     case rel=>exact⟨_,(t120),(wrap64 (1+t119)),H',⟨by first|omega|exact Nat.le_refl _⟩,⟨by refine kU ?_;refine blk_far ?_ NB107_110.out _;exact blkU BK107.out⟩,⟨by refine kU ?_;refine blk_put (cs:= #[.int .i64 t108,.int .i64 0]) ?_ 1 _ rfl;exact blkU BK110.out⟩,⟨by repeat(with_reducible first|exact HI0.out|apply sA|apply sN|apply sD|apply sS|refine IsS86.far ?_ NB0_107.out _|refine IsS86.far ?_ NB0_110.out _)⟩,⟨by repeat(with_reducible first|exact HK.out|apply pS|apply pN|apply pD|apply pA|refine keep_far ?_ GW107.out _|refine keep_far ?_ GW110.out _)⟩,⟨by repeat(with_reducible first|exact HB.out|apply bA|apply bN|apply b1|refine below_set ?_ (IsS86.ge HI0.out)|refine below_set ?_ GE107.out|refine below_set ?_ GE110.out)⟩⟩
    ·rw[if_neg c27]at H
     have c27b0:(t108==3)=false:=beq_eq_false_iff_ne.mpr c27;have c27b1:(t108 !=3)=true:=bne_iff_ne.mpr c27;have H':=aS H;clear H;go_wp2
     go_meet
     case rel=>exact⟨_,(t109),(0),H',⟨by first|omega|exact Nat.le_refl _⟩,⟨by refine kU ?_;refine blk_far ?_ NB107_110.out _;refine kU ?_;refine blk_far ?_ NB107_110.out _;exact blkU BK107.out⟩,⟨by refine kU ?_;refine blk_put (cs:= #[.int .i64 t108,.int .i64 0]) ?_ 1 _ rfl;refine kU ?_;refine blk_put (cs:= #[.int .i64 0,.int .i64 0]) ?_ 0 _ rfl;exact blkU BK110.out⟩,⟨by repeat(with_reducible first|exact HI0.out|apply sA|apply sN|apply sD|apply sS|refine IsS86.far ?_ NB0_107.out _|refine IsS86.far ?_ NB0_110.out _)⟩,⟨by repeat(with_reducible first|exact HK.out|apply pS|apply pN|apply pD|apply pA|refine keep_far ?_ GW107.out _|refine keep_far ?_ GW110.out _)⟩,⟨by repeat(with_reducible first|exact HB.out|apply bA|apply bN|apply b1|refine below_set ?_ (IsS86.ge HI0.out)|refine below_set ?_ GE107.out|refine below_set ?_ GE110.out)⟩⟩
 case rest=>
  clear HC3;(try clear c1);(try clear p1);(try clear q1);(try clear hx1);(try clear c2);(try clear p2);(try clear c3);(try clear p6);(try clear c7);(try clear c8);(try clear c10);(try clear c10b0);(try clear c10b1);(try clear p11);(try clear q11);(try clear hx11);(try clear c12);(try clear c12b0);(try clear c13);(try clear c13b0);(try clear c18);(try clear c19);(try clear c21);(try clear c21b0);(try clear c21b1);(try clear c24);(try clear c25);(try clear c27);(try clear c27b0);(try clear c27b1);(try clear c30);(try clear c31);(try clear hcz20_0);(try clear hcz20_1);(try clear hcz26_0);(try clear hcz26_1);(try clear hcz32_0);(try clear hcz32_1);(try clear hcz9_0);(try clear hcz9_1);(try clear hfz20_0);(try clear hfz20_1);(try clear hfz26_0);(try clear hfz26_1);(try clear hfz32_0);(try clear hfz32_1);(try clear hfz9_0);(try clear hfz9_1);(try clear hx116_0);(try clear p116);(try clear q116)
  obtain⟨kq,x1001_2,x111001_2,HA,HJ2,BK107,BK110,HI0,HK,HB⟩:=hcut;cases kq with
  |zero=>exact absurd HA.out (by simp[spec_l71Val.j0])
  |succ kj2=>
   have H:=HA.out;clear HA;simp only[spec_l71Val.j0]at H
   replace H:=Option.bind_eq_some_iff.mp H;obtain⟨⟨t121,t122⟩,A330,H⟩:=H;replace H:(if t121=0 then((some (([(-100),100,10]:List Int):List Int)).bind fun y123=>((spec_l6Rd_pick.f kj2 s0_0 t122 3).bind fun bt126=>(if 0≤bt126.1 then(if bt126.1<(y123.length:Int)then(some (t108,rd y123 bt126.1,bt126.2))else(none))else(none))))else(if t121=1 then((spec_l6Rd_pick.f kj2 s0_0 t122 6).bind fun bt129=>(some (bt129.1,x111001_2,bt129.2)))else(some (t108,x111001_2,t122))))=some (r1,r2,r3):=H
   have A33:=aS A330;clear A330;by_cases c34:t121=0
   ·rw[if_pos c34]at H
    have c34b0:(t121==0)=true:=beq_iff_eq.mpr c34;have c34b1:(t121 !=0)=false:=bne_eq_false_iff_eq.mpr c34;clear c34;obtain⟨y123,hy123⟩: ∃y_:List Int,y_=(([(-100),100,10]:List Int)):=⟨_,rfl⟩;replace H:((spec_l6Rd_pick.f kj2 s0_0 t122 3).bind fun bt126=>(if 0≤bt126.1 then(if bt126.1<(y123.length:Int)then(some (t108,rd y123 bt126.1,bt126.2))else(none))else(none)))=some (r1,r2,r3):=by first|(rw[hy123];with_reducible exact H)|(have H2_:=(Option.bind_some _ _).symm.trans H;rw[hy123];with_reducible exact H2_)|(have H2_:=(Option.bind_some _ _).symm.trans H;with_reducible exact H2_)|with_reducible exact H|(rw[hy123];exact H)|exact H
    have Ny123:=aS hy123;clear hy123;replace H:=Option.bind_eq_some_iff.mp H;obtain⟨⟨t126,t127⟩,A350,H⟩:=H;replace H:(if 0≤t126 then(if t126<(y123.length:Int)then(some (t108,rd y123 t126,t127))else(none))else(none))=some (r1,r2,r3):=H
    have A35:=aS A350;clear A350;by_cases c36:0≤t126
    ·rw[if_pos c36]at H
     have c36b0:decide (0≤t126)=true:=decide_eq_true c36;clear c36;by_cases c37:t126<(y123.length:Int)
     ·rw[if_pos c37]at H
      have c37b0:decide (t126<(y123.length:Int))=true:=decide_eq_true c37;clear c37;simp only[Option.some.injEq,Prod.mk.injEq]at H
      obtain⟨rfl,rfl,rfl⟩:=H;go_wp2_with (first|((with_reducible refine gate_callee (f:=30) rfl ?_);refine goesL_ (some 29) rfl rfl Tryz.func30 (by kernel_rfl) rfl #[.pointer (some ⟨g,0,none⟩),.int .i64 30] rfl (by(try simp only[List.map_toArray,List.map_cons,List.map_nil])<;>rfl) ?_;(with_reducible refine(spec_l6Rd_pick.calls kj2 g s0_0 x1001_2 30 t121 t122 w0 _ ?side1 ?side2 A33.out).mono ?_);(case side1=>repeat(with_reducible first|exact HI0.out|apply sA|apply sN|apply sD|apply sS|refine IsS86.far ?_ NB0_107.out _|refine IsS86.far ?_ NB0_110.out _));(case side2=>repeat(with_reducible first|exact HB.out|apply bA|apply bN|apply b1|refine below_set ?_ (IsS86.ge HI0.out)|refine below_set ?_ GE107.out|refine below_set ?_ GE110.out));rintro e w38 ⟨rfl,hi,hb,hk⟩;refine⟨_,rfl,?_⟩;replace BK107:=aS (KeepBut.blk hk (g':=gb107) (o:=.cells #[.int .i64 0,.int .i64 0] 37 (0,0)) (by exact blkU BK107.out) NB107_0.out (by simp));replace BK110:=aS (KeepBut.blk hk (g':=gb110) (o:=.cells #[.int .i64 t108,.int .i64 x111001_2] 37 (0,0)) (by exact blkU BK110.out) NB110_0.out (by simp));replace HK:=aS (KeepBut.trans (by repeat(with_reducible first|exact HK.out|apply pS|apply pN|apply pD|apply pA|refine keep_far ?_ GW107.out _|refine keep_far ?_ GW110.out _)) hk (.inl rfl));replace HB:=aS (hb);replace HI0:=aS (hi);(try clear hb);(try clear hk);(try clear hi))|((with_reducible refine gate_dst (N:=32) rfl ?_);refine Kd.R_lit (Kd.int .i64) _ 3 ?hg (N:=32) ?hd (xs:=([(-100),100,10]:List Int)) (inner:=[.int .i64 (-100),.int .i64 100,.int .i64 10]) (ok:=fun _=>True) (okp:=fun _=>True) ?hr ?hp (fun _ hk=>hk) trivial (Below.refl _ _) (Nat.le_refl _) (by simp) ?_;(case hd=>rfl);(case hg=>rfl);(case hr=>go_simp<;>rfl);(case hp=>exact(Reps.one (show Kd.M (Kd.int .i64) _ _ _ (-100) [.int .i64 (-100)]from rfl) (Reps.one (show Kd.M (Kd.int .i64) _ _ _ 100 [.int .i64 100]from rfl) (Reps.one (show Kd.M (Kd.int .i64) _ _ _ 10 [.int .i64 10]from rfl) (Reps.none _ _)))));intro v124 w39 ho40 hb hg_ hnew_;clear hg_ hnew_;(first|rw[←Ny123.out]at ho40|(simp only[Int.reduceToNat]at ho40;rw[←Ny123.out]at ho40));have n0_:=aS (Kd.R_lower ho40 (keep_size (w:=w) (g:=g) (row:=none) (by repeat(with_reducible first|exact HK.out|apply pS|apply pN|apply pD|apply pA|refine keep_far ?_ GW107.out _|refine keep_far ?_ GW110.out _))));have n1_:=aS (blk_below (g:=gb107) (o:=.cells #[.int .i64 0,.int .i64 0] 37 (0,0)) (by exact blkU BK107.out) hb);have n2_:=aS (blk_below (g:=gb110) (o:=.cells #[.int .i64 t108,.int .i64 x111001_2] 37 (0,0)) (by exact blkU BK110.out) hb);have n3_:=aS (IsS86.below (by repeat(with_reducible first|exact HI0.out|apply sA|apply sN|apply sD|apply sS|refine IsS86.far ?_ NB0_107.out _|refine IsS86.far ?_ NB0_110.out _)) hb);have n4_:=aS (KeepBut.trans (by repeat(with_reducible first|exact HK.out|apply pS|apply pN|apply pD|apply pA|refine keep_far ?_ GW107.out _|refine keep_far ?_ GW110.out _)) (KeepBut.of_below hb g none) (.inl rfl));have n5_:=aS (below_step (by repeat(with_reducible first|exact HB.out|apply bA|apply bN|apply b1|refine below_set ?_ (IsS86.ge HI0.out)|refine below_set ?_ GE107.out|refine below_set ?_ GE110.out)) hb);clear BK107;clear BK110;clear HI0;clear HK;clear HB;have HO125:=n0_;have BK107:=n1_;have BK110:=n2_;have HI0:=n3_;have HK:=n4_;have HB:=n5_;clear n0_ n1_ n2_ n3_ n4_ n5_;clear hb ho40)|((with_reducible refine gate_callee (f:=30) rfl ?_);refine goesL_ (some 34) rfl rfl Tryz.func30 (by kernel_rfl) rfl #[.pointer (some ⟨g,0,none⟩),.int .i64 3] rfl (by(try simp only[List.map_toArray,List.map_cons,List.map_nil])<;>rfl) ?_;(with_reducible refine(spec_l6Rd_pick.calls kj2 g s0_0 t122 3 t126 t127 w0 _ ?side1 ?side2 A35.out).mono ?_);(case side1=>repeat(with_reducible first|exact HI0.out|apply sA|apply sN|apply sD|apply sS|refine IsS86.far ?_ NB0_107.out _|refine IsS86.far ?_ NB0_110.out _));(case side2=>repeat(with_reducible first|exact HB.out|apply bA|apply bN|apply b1|refine below_set ?_ (IsS86.ge HI0.out)|refine below_set ?_ GE107.out|refine below_set ?_ GE110.out));rintro e w41 ⟨rfl,hi,hb,hk⟩;refine⟨_,rfl,?_⟩;replace BK107:=aS (KeepBut.blk hk (g':=gb107) (o:=.cells #[.int .i64 0,.int .i64 0] 37 (0,0)) (by exact blkU BK107.out) NB107_0.out (by simp));replace BK110:=aS (KeepBut.blk hk (g':=gb110) (o:=.cells #[.int .i64 t108,.int .i64 x111001_2] 37 (0,0)) (by exact blkU BK110.out) NB110_0.out (by simp));replace HO125:=aS (Kd.R_mono (Kd.R_keep (IsS86.apart (show IsS86 w0 _ g s0_0 t122 from by repeat(with_reducible first|exact HI0.out|apply sA|apply sN|apply sD|apply sS|refine IsS86.far ?_ NB0_107.out _|refine IsS86.far ?_ NB0_110.out _)) (by exact rU HO125.out) (by decide)) hk (fun _ h=>h.2)) (fun _ h=>h.1));replace HK:=aS (KeepBut.trans (by repeat(with_reducible first|exact HK.out|apply pS|apply pN|apply pD|apply pA|refine keep_far ?_ GW107.out _|refine keep_far ?_ GW110.out _)) hk (.inl rfl));replace HB:=aS (hb);replace HI0:=aS (hi);(try clear hb);(try clear hk);(try clear hi);obtain⟨Ao42,co42,eo42⟩:=Kd.R_slice HO125.out;subst eo42;have p128:0≤(t126:Int):=of_decide_eq_true (by assumption);have q128:t126<(y123.length:Int):=of_decide_eq_true (by assumption);obtain⟨ad128,e128,hx128_0⟩:=Kd.at_int (Kd.R_reads' HO125.out).2.2 t126 p128 q128;cases e128;replace p128:=eq_true p128;replace q128:=eq_true q128;have hnb43:=NB110_107.out;have hnc43:=NB107_110.out;have hnb44:=NB110_0.out;have hnc44:=NB0_110.out;have hcz45_0:w41.cell? ⟨gb110,0,none⟩=some (.int .i64 t108):=(blk_cell BK110.out 0).trans rfl;have hcz45_1:w41.cell? ⟨gb110,1,none⟩=some (.int .i64 x111001_2):=(blk_cell BK110.out 1).trans rfl;have hfz45_0:=blk_frozen BK110.out 0;have hfz45_1:=blk_frozen BK110.out 1;have hnb46:=NB107_0.out;have hnc46:=NB0_107.out;have hcz47_0:w41.cell? ⟨gb107,0,none⟩=some (.int .i64 0):=(blk_cell BK107.out 0).trans rfl;have hcz47_1:w41.cell? ⟨gb107,1,none⟩=some (.int .i64 0):=(blk_cell BK107.out 1).trans rfl;have hfz47_0:=blk_frozen BK107.out 0;have hfz47_1:=blk_frozen BK107.out 1))
      refine bodyPost_ret (results_cell_row rfl _ _ gb107 37 #[.int .i64 t108,.int .i64 (rd y123 t126)] (0,0) _ rfl (by refine kU ?_;refine blk_put (cs:= #[.int .i64 t108,.int .i64 0]) ?_ 1 _ rfl;refine kU ?_;refine blk_put (cs:= #[.int .i64 0,.int .i64 0]) ?_ 0 _ rfl;refine kU ?_;refine blk_far ?_ NB107_110.out _;exact blkU BK107.out) Tryz.underlying37 rfl (by kernel_rfl)) rfl ?_
      exact⟨by first|rfl|(simp[*]<;>rfl),by repeat(with_reducible first|exact HI0.out|apply sA|apply sN|apply sD|apply sS|refine IsS86.far ?_ NB0_107.out _|refine IsS86.far ?_ NB0_110.out _),by repeat(with_reducible first|exact HB.out|apply bA|apply bN|apply b1|refine below_set ?_ (IsS86.ge HI0.out)|refine below_set ?_ GE107.out|refine below_set ?_ GE110.out),by repeat(with_reducible first|exact HK.out|apply pS|apply pN|apply pD|apply pA|refine keep_far ?_ GW107.out _|refine keep_far ?_ GW110.out _)⟩
     ·rw[if_neg c37]at H
      exact absurd H (by simp)
    ·rw[if_neg c36]at H
     exact absurd H (by simp)
   ·rw[if_neg c34]at H
    have c34b0:(t121==0)=false:=beq_eq_false_iff_ne.mpr c34;have c34b1:(t121 !=0)=true:=bne_iff_ne.mpr c34;by_cases c48:t121=1
    ·rw[if_pos c48]at H
     have c48b0:(t121==1)=true:=beq_iff_eq.mpr c48;have c48b1:(t121 !=1)=false:=bne_eq_false_iff_eq.mpr c48;clear c48;replace H:=Option.bind_eq_some_iff.mp H;obtain⟨⟨t129,t130⟩,A490,H⟩:=H;replace H:(some (t129,x111001_2,t130))=some (r1,r2,r3):=H;have A49:=aS A490;clear A490;simp only[Option.some.injEq,Prod.mk.injEq]at H
     obtain⟨rfl,rfl,rfl⟩:=H;go_wp2_with (first|((with_reducible refine gate_callee (f:=30) rfl ?_);refine goesL_ (some 29) rfl rfl Tryz.func30 (by kernel_rfl) rfl #[.pointer (some ⟨g,0,none⟩),.int .i64 30] rfl (by(try simp only[List.map_toArray,List.map_cons,List.map_nil])<;>rfl) ?_;(with_reducible refine(spec_l6Rd_pick.calls kj2 g s0_0 x1001_2 30 t121 t122 w0 _ ?side1 ?side2 A33.out).mono ?_);(case side1=>repeat(with_reducible first|exact HI0.out|apply sA|apply sN|apply sD|apply sS|refine IsS86.far ?_ NB0_107.out _|refine IsS86.far ?_ NB0_110.out _));(case side2=>repeat(with_reducible first|exact HB.out|apply bA|apply bN|apply b1|refine below_set ?_ (IsS86.ge HI0.out)|refine below_set ?_ GE107.out|refine below_set ?_ GE110.out));rintro e w50 ⟨rfl,hi,hb,hk⟩;refine⟨_,rfl,?_⟩;replace BK107:=aS (KeepBut.blk hk (g':=gb107) (o:=.cells #[.int .i64 0,.int .i64 0] 37 (0,0)) (by exact blkU BK107.out) NB107_0.out (by simp));replace BK110:=aS (KeepBut.blk hk (g':=gb110) (o:=.cells #[.int .i64 t108,.int .i64 x111001_2] 37 (0,0)) (by exact blkU BK110.out) NB110_0.out (by simp));replace HK:=aS (KeepBut.trans (by repeat(with_reducible first|exact HK.out|apply pS|apply pN|apply pD|apply pA|refine keep_far ?_ GW107.out _|refine keep_far ?_ GW110.out _)) hk (.inl rfl));replace HB:=aS (hb);replace HI0:=aS (hi);(try clear hb);(try clear hk);(try clear hi))|((with_reducible refine gate_callee (f:=30) rfl ?_);refine goesL_ (some 41) rfl rfl Tryz.func30 (by kernel_rfl) rfl #[.pointer (some ⟨g,0,none⟩),.int .i64 6] rfl (by(try simp only[List.map_toArray,List.map_cons,List.map_nil])<;>rfl) ?_;(with_reducible refine(spec_l6Rd_pick.calls kj2 g s0_0 t122 6 t129 t130 w0 _ ?side1 ?side2 A49.out).mono ?_);(case side1=>repeat(with_reducible first|exact HI0.out|apply sA|apply sN|apply sD|apply sS|refine IsS86.far ?_ NB0_107.out _|refine IsS86.far ?_ NB0_110.out _));(case side2=>repeat(with_reducible first|exact HB.out|apply bA|apply bN|apply b1|refine below_set ?_ (IsS86.ge HI0.out)|refine below_set ?_ GE107.out|refine below_set ?_ GE110.out));rintro e w51 ⟨rfl,hi,hb,hk⟩;refine⟨_,rfl,?_⟩;replace BK107:=aS (KeepBut.blk hk (g':=gb107) (o:=.cells #[.int .i64 0,.int .i64 0] 37 (0,0)) (by exact blkU BK107.out) NB107_0.out (by simp));replace BK110:=aS (KeepBut.blk hk (g':=gb110) (o:=.cells #[.int .i64 t108,.int .i64 x111001_2] 37 (0,0)) (by exact blkU BK110.out) NB110_0.out (by simp));replace HK:=aS (KeepBut.trans (by repeat(with_reducible first|exact HK.out|apply pS|apply pN|apply pD|apply pA|refine keep_far ?_ GW107.out _|refine keep_far ?_ GW110.out _)) hk (.inl rfl));replace HB:=aS (hb);replace HI0:=aS (hi);(try clear hb);(try clear hk);(try clear hi);have hnb52:=NB110_107.out;have hnc52:=NB107_110.out;have hnb53:=NB110_0.out;have hnc53:=NB0_110.out;have hcz54_0:w51.cell? ⟨gb110,0,none⟩=some (.int .i64 t108):=(blk_cell BK110.out 0).trans rfl;have hcz54_1:w51.cell? ⟨gb110,1,none⟩=some (.int .i64 x111001_2):=(blk_cell BK110.out 1).trans rfl;have hfz54_0:=blk_frozen BK110.out 0;have hfz54_1:=blk_frozen BK110.out 1;have hnb55:=NB107_0.out;have hnc55:=NB0_107.out;have hcz56_0:w51.cell? ⟨gb107,0,none⟩=some (.int .i64 0):=(blk_cell BK107.out 0).trans rfl;have hcz56_1:w51.cell? ⟨gb107,1,none⟩=some (.int .i64 0):=(blk_cell BK107.out 1).trans rfl;have hfz56_0:=blk_frozen BK107.out 0;have hfz56_1:=blk_frozen BK107.out 1))
     refine bodyPost_ret (results_cell_row rfl _ _ gb107 37 #[.int .i64 t129,.int .i64 x111001_2] (0,0) _ rfl (by refine kU ?_;refine blk_put (cs:= #[.int .i64 t129,.int .i64 0]) ?_ 1 _ rfl;refine kU ?_;refine blk_put (cs:= #[.int .i64 0,.int .i64 0]) ?_ 0 _ rfl;refine kU ?_;refine blk_far ?_ NB107_110.out _;exact blkU BK107.out) Tryz.underlying37 rfl (by kernel_rfl)) rfl ?_
     exact⟨by first|rfl|(simp[*]<;>rfl),by repeat(with_reducible first|exact HI0.out|apply sA|apply sN|apply sD|apply sS|refine IsS86.far ?_ NB0_107.out _|refine IsS86.far ?_ NB0_110.out _),by repeat(with_reducible first|exact HB.out|apply bA|apply bN|apply b1|refine below_set ?_ (IsS86.ge HI0.out)|refine below_set ?_ GE107.out|refine below_set ?_ GE110.out),by repeat(with_reducible first|exact HK.out|apply pS|apply pN|apply pD|apply pA|refine keep_far ?_ GW107.out _|refine keep_far ?_ GW110.out _)⟩
    ·rw[if_neg c48]at H
     have c48b0:(t121==1)=false:=beq_eq_false_iff_ne.mpr c48;have c48b1:(t121 !=1)=true:=bne_iff_ne.mpr c48;simp only[Option.some.injEq,Prod.mk.injEq]at H
     obtain⟨rfl,rfl,rfl⟩:=H;go_wp2_with (first|((with_reducible refine gate_callee (f:=30) rfl ?_);refine goesL_ (some 29) rfl rfl Tryz.func30 (by kernel_rfl) rfl #[.pointer (some ⟨g,0,none⟩),.int .i64 30] rfl (by(try simp only[List.map_toArray,List.map_cons,List.map_nil])<;>rfl) ?_;(with_reducible refine(spec_l6Rd_pick.calls kj2 g s0_0 x1001_2 30 t121 t122 w0 _ ?side1 ?side2 A33.out).mono ?_);(case side1=>repeat(with_reducible first|exact HI0.out|apply sA|apply sN|apply sD|apply sS|refine IsS86.far ?_ NB0_107.out _|refine IsS86.far ?_ NB0_110.out _));(case side2=>repeat(with_reducible first|exact HB.out|apply bA|apply bN|apply b1|refine below_set ?_ (IsS86.ge HI0.out)|refine below_set ?_ GE107.out|refine below_set ?_ GE110.out));rintro e w57 ⟨rfl,hi,hb,hk⟩;refine⟨_,rfl,?_⟩;replace BK107:=aS (KeepBut.blk hk (g':=gb107) (o:=.cells #[.int .i64 0,.int .i64 0] 37 (0,0)) (by exact blkU BK107.out) NB107_0.out (by simp));replace BK110:=aS (KeepBut.blk hk (g':=gb110) (o:=.cells #[.int .i64 t108,.int .i64 x111001_2] 37 (0,0)) (by exact blkU BK110.out) NB110_0.out (by simp));replace HK:=aS (KeepBut.trans (by repeat(with_reducible first|exact HK.out|apply pS|apply pN|apply pD|apply pA|refine keep_far ?_ GW107.out _|refine keep_far ?_ GW110.out _)) hk (.inl rfl));replace HB:=aS (hb);replace HI0:=aS (hi);(try clear hb);(try clear hk);(try clear hi);have hnb58:=NB110_107.out;have hnc58:=NB107_110.out;have hnb59:=NB110_0.out;have hnc59:=NB0_110.out;have hcz60_0:w57.cell? ⟨gb110,0,none⟩=some (.int .i64 t108):=(blk_cell BK110.out 0).trans rfl;have hcz60_1:w57.cell? ⟨gb110,1,none⟩=some (.int .i64 x111001_2):=(blk_cell BK110.out 1).trans rfl;have hfz60_0:=blk_frozen BK110.out 0;have hfz60_1:=blk_frozen BK110.out 1;have hnb61:=NB107_0.out;have hnc61:=NB0_107.out;have hcz62_0:w57.cell? ⟨gb107,0,none⟩=some (.int .i64 0):=(blk_cell BK107.out 0).trans rfl;have hcz62_1:w57.cell? ⟨gb107,1,none⟩=some (.int .i64 0):=(blk_cell BK107.out 1).trans rfl;have hfz62_0:=blk_frozen BK107.out 0;have hfz62_1:=blk_frozen BK107.out 1))
     refine bodyPost_ret (results_cell_row rfl _ _ gb107 37 #[.int .i64 t108,.int .i64 x111001_2] (0,0) _ rfl (by refine kU ?_;refine blk_put (cs:= #[.int .i64 t108,.int .i64 0]) ?_ 1 _ rfl;refine kU ?_;refine blk_put (cs:= #[.int .i64 0,.int .i64 0]) ?_ 0 _ rfl;exact blkU BK107.out) Tryz.underlying37 rfl (by kernel_rfl)) rfl ?_
     exact⟨by first|rfl|(simp[*]<;>rfl),by repeat(with_reducible first|exact HI0.out|apply sA|apply sN|apply sD|apply sS|refine IsS86.far ?_ NB0_107.out _|refine IsS86.far ?_ NB0_110.out _),by repeat(with_reducible first|exact HB.out|apply bA|apply bN|apply b1|refine below_set ?_ (IsS86.ge HI0.out)|refine below_set ?_ GE107.out|refine below_set ?_ GE110.out),by repeat(with_reducible first|exact HK.out|apply pS|apply pN|apply pD|apply pA|refine keep_far ?_ GW107.out _|refine keep_far ?_ GW110.out _)⟩
end Go.Proofs.YtmklpbmlgjkbiaaGreatDoor.PD
end
section
namespace Go.Proofs.YtmklpbmlgjkbiaaGreatDoor.PS
open Go.RowKit Go.Proofs.YtmklpbmlgjkbiaaGreatDoorW.PrintWords Go.Proofs.YtmklpbmlgjkbiaaGreatDoorW.PrintLast Go.Proofs.YtmklpbmlgjkbiaaGreatDoorW.PrintMore
attribute [local go_sem] max2_int min2_int max_two min_two max_three min_three max_four min_four   -- for this text's walks alone
mutual
def spec_l2Form.j0:Nat→Int→Bool→Option (List Bool)
 |0,_,_=>none
 |k+1,x3,x7=>if x7=true then(some (([true,true,false,false]:List Bool)))else(if x3=4 then(spec_l2Form.j1 k x3 (x3==4))else(if x3=11 then(spec_l2Form.j1 k x3 (x3==11))else(if x3=12 then(spec_l2Form.j1 k x3 (x3==12))else(spec_l2Form.j1 k x3 (x3==14)))))
def spec_l2Form.j1:Nat→Int→Bool→Option (List Bool)
 |0,_,_=>none
 |k+1,x3,x13=>if x13=true then(some (([true,false,false,false]:List Bool)))else(if x3=5 then(some (([true,false,true,false]:List Bool)))else(if x3=8 then(some (([true,true,true,true]:List Bool)))else(if x3=9 then(some (([false,false,true,false]:List Bool)))else(if x3=10 then(some (([true,false,true,true]:List Bool)))else(if x3=13 then(some (([false,false,false,true]:List Bool)))else(some (([]:List Bool))))))))
end
def spec_l2Form.f (k:Nat) (a0:Int):Option (List Bool):=if a0=1 then(some (([true,false,false,true]:List Bool)))else(if a0=2 then(spec_l2Form.j0 k a0 (a0==2))else(if a0=3 then(spec_l2Form.j0 k a0 (a0==3))else(if a0=6 then(spec_l2Form.j0 k a0 (a0==6))else(spec_l2Form.j0 k a0 (a0==7)))))
theorem spec_l2Form.mono_l: ∀k,(∀y0 y1,LeO (spec_l2Form.j0 k y0 y1) (spec_l2Form.j0 (k+1) y0 y1))∧(∀y0 y1,LeO (spec_l2Form.j1 k y0 y1) (spec_l2Form.j1 (k+1) y0 y1))
 |0=>⟨fun _ _ r h=>by simp[spec_l2Form.j0]at h,fun _ _ r h=>by simp[spec_l2Form.j1]at h⟩
 |k+1=>by
  obtain⟨ih0,ih1⟩:=spec_l2Form.mono_l k;refine⟨?_,?_⟩
  ·intro y0 y1
   unfold spec_l2Form.j0;repeat' first
   |(with_reducible exact ih0 _ _)
   |(with_reducible exact ih1 _ _)
   |(with_reducible exact LeO.refl _)
   |(with_reducible exact LeO.none _)
   |(with_reducible refine LeO.ite ?_ ?_)
   |(with_reducible refine LeO.bind ?_ (fun _=> ?_))
   |exact ih0 _ _
   |exact ih1 _ _
   |exact LeO.none _
   |refine LeO.ite ?_ ?_
   |refine LeO.bind ?_ (fun _=> ?_)
  ·intro y0 y1
   unfold spec_l2Form.j1;repeat' first
   |(with_reducible exact ih0 _ _)
   |(with_reducible exact ih1 _ _)
   |(with_reducible exact LeO.refl _)
   |(with_reducible exact LeO.none _)
   |(with_reducible refine LeO.ite ?_ ?_)
   |(with_reducible refine LeO.bind ?_ (fun _=> ?_))
   |exact ih0 _ _
   |exact ih1 _ _
   |exact LeO.none _
   |refine LeO.ite ?_ ?_
   |refine LeO.bind ?_ (fun _=> ?_)
theorem spec_l2Form.mono: ∀a0 k,LeO (spec_l2Form.f k a0) (spec_l2Form.f (k+1) a0):=by
 intro a0 k;obtain⟨ih0,ih1⟩:=spec_l2Form.mono_l k;unfold spec_l2Form.f
 repeat' first
   |(with_reducible exact ih0 _ _)
   |(with_reducible exact ih1 _ _)
   |(with_reducible exact LeO.refl _)
   |(with_reducible exact LeO.none _)
   |(with_reducible refine LeO.ite ?_ ?_)
   |(with_reducible refine LeO.bind ?_ (fun _=> ?_))
   |exact ih0 _ _
   |exact ih1 _ _
   |exact LeO.none _
   |refine LeO.ite ?_ ?_
   |refine LeO.bind ?_ (fun _=> ?_)
theorem spec_l2Form.calls (k:Nat) (a0:Int) (r:List Bool) (w:World) (h:spec_l2Form.f k a0=some r):
  Calls Tryz.prog 38 #[.int .i64 a0] w fun e w'=> ∃v0_:Value,e= .returned (v0_)∧Kd.R Kd.bool 4 w' w.heap.size (fun _=>True) v0_ r∧Below w.heap.size w w':=by
 have HB:=aS (Below.refl w.heap.size w);have H:(if a0=1 then(some (([true,false,false,true]:List Bool)))else(if a0=2 then(spec_l2Form.j0 k a0 (a0==2))else(if a0=3 then(spec_l2Form.j0 k a0 (a0==3))else(if a0=6 then(spec_l2Form.j0 k a0 (a0==6))else(spec_l2Form.j0 k a0 (a0==7))))))=some r:=h
 clear h;by_cases c2:a0=1
 ·rw[if_pos c2]at H
  have c2b0:(a0==1)=true:=beq_iff_eq.mpr c2;have c2b1:(a0 !=1)=false:=bne_eq_false_iff_eq.mpr c2;clear c2;obtain⟨y115,hy115⟩: ∃y_:List Bool,y_=(([true,false,false,true]:List Bool)):=⟨_,rfl⟩;replace H:(some y115)=some r:=by first|(rw[hy115];with_reducible exact H)|(have H2_:=(Option.bind_some _ _).symm.trans H;rw[hy115];with_reducible exact H2_)|(have H2_:=(Option.bind_some _ _).symm.trans H;with_reducible exact H2_)|with_reducible exact H|(rw[hy115];exact H)|exact H
  have Ny115:=aS hy115;clear hy115;obtain rfl:=Option.some.inj H;go_enter Tryz.func38,Tryz.ntmps38
  go_wp2_with (first|((with_reducible refine gate_dst (N:=6) rfl ?_);refine Kd.R_lit Kd.bool _ 4 ?hg (N:=6) ?hd (xs:=([true,false,false,true]:List Bool)) (inner:=[.bool true,.bool false,.bool false,.bool true]) (ok:=fun _=>True) (okp:=fun _=>True) ?hr ?hp (fun _ hk=>hk) trivial (Below.refl _ _) (Nat.le_refl _) (by simp) ?_;(case hd=>rfl);(case hg=>rfl);(case hr=>go_simp<;>rfl);(case hp=>exact(Reps.one (show Kd.M Kd.bool _ _ _ true [.bool true]from rfl) (Reps.one (show Kd.M Kd.bool _ _ _ false [.bool false]from rfl) (Reps.one (show Kd.M Kd.bool _ _ _ false [.bool false]from rfl) (Reps.one (show Kd.M Kd.bool _ _ _ true [.bool true]from rfl) (Reps.none _ _))))));intro v116 w3 ho4 hb hg_ hnew_;clear hg_ hnew_;(first|rw[←Ny115.out]at ho4|(simp only[Int.reduceToNat]at ho4;rw[←Ny115.out]at ho4));have HO117:=aS (Kd.R_lower ho4 (below_size (by exact bU HB.out)));replace HB:=aS (below_step (by exact bU HB.out) hb);clear hb ho4))
  go_ret
  exact⟨_,by first|rfl|(simp[*]<;>rfl),by exact rU HO117.out,by exact bU HB.out⟩
 ·rw[if_neg c2]at H
  have c2b0:(a0==1)=false:=beq_eq_false_iff_ne.mpr c2;have c2b1:(a0 !=1)=true:=bne_iff_ne.mpr c2;have HC5:=aS H;clear H;go_enter Tryz.func38,Tryz.ntmps38
  go_upto_if 7 with (fail)
  go_cut [7] (fun v7 wc=> ∃ (kq:Nat) (x7_4:Bool),v7= .bool x7_4∧Aside0 (spec_l2Form.j0 kq a0 x7_4=some r)∧Aside0 (kq≤k)∧Aside0 (Below w.heap.size w wc))
  case first=>
   have H:=HC5.out;clear HC5;by_cases c6:a0=2
   ·rw[if_pos c6]at H
    have c6b0:(a0==2)=true:=beq_iff_eq.mpr c6;have c6b1:(a0 !=2)=false:=bne_eq_false_iff_eq.mpr c6;clear c6;(first|rw[c6b0]|(simp only[i64_w,i32_w];rw[c6b0])|skip)
    have H':=aS H;clear H;go_wp2
    go_meet
    case rel=>exact⟨_,((a0==2)),(by first|rfl|(simp;done)|(simp[*];done)),H',⟨by first|omega|exact Nat.le_refl _⟩,⟨by exact bU HB.out⟩⟩
   ·rw[if_neg c6]at H
    have c6b0:(a0==2)=false:=beq_eq_false_iff_ne.mpr c6;have c6b1:(a0 !=2)=true:=bne_iff_ne.mpr c6;(first|rw[c6b0]|(simp only[i64_w,i32_w];rw[c6b0])|skip)
    by_cases c7:a0=3
    ·rw[if_pos c7]at H
     have c7b0:(a0==3)=true:=beq_iff_eq.mpr c7;have c7b1:(a0 !=3)=false:=bne_eq_false_iff_eq.mpr c7;clear c7;have H':=aS H;clear H;go_wp2
     go_meet
     case rel=>exact⟨_,((a0==3)),(by first|rfl|(simp;done)|(simp[*];done)),H',⟨by first|omega|exact Nat.le_refl _⟩,⟨by exact bU HB.out⟩⟩
    ·rw[if_neg c7]at H
     have c7b0:(a0==3)=false:=beq_eq_false_iff_ne.mpr c7;have c7b1:(a0 !=3)=true:=bne_iff_ne.mpr c7;by_cases c8:a0=6
     ·rw[if_pos c8]at H
      have c8b0:(a0==6)=true:=beq_iff_eq.mpr c8;have c8b1:(a0 !=6)=false:=bne_eq_false_iff_eq.mpr c8;clear c8;have H':=aS H;clear H;go_wp2
      go_meet
      case rel=>exact⟨_,((a0==6)),(by first|rfl|(simp;done)|(simp[*];done)),H',⟨by first|omega|exact Nat.le_refl _⟩,⟨by exact bU HB.out⟩⟩
     ·rw[if_neg c8]at H
      have c8b0:(a0==6)=false:=beq_eq_false_iff_ne.mpr c8;have c8b1:(a0 !=6)=true:=bne_iff_ne.mpr c8;have H':=aS H;clear H;go_wp2
      go_meet
      case rel=>exact⟨_,((a0==7)),(by first|rfl|(simp;done)|(simp[*];done)),H',⟨by first|omega|exact Nat.le_refl _⟩,⟨by exact bU HB.out⟩⟩
  case rest=>
   clear HC5;(try clear c2);(try clear c2b0);(try clear c2b1);(try clear p2);(try clear c3);(try clear c6);(try clear c6b0);(try clear c6b1);(try clear c7);(try clear c7b0);(try clear c7b1);(try clear c8);(try clear c8b0);(try clear c8b1)
   obtain⟨kq,x7_4,rfl,HA,HJ4,HB⟩:=hcut;cases kq with
   |zero=>exact absurd HA.out (by simp[spec_l2Form.j0])
   |succ kj4=>
    have H:=HA.out;clear HA;simp only[spec_l2Form.j0]at H
    by_cases c9:x7_4=true
    ·subst c9
     have H1:(some (([true,true,false,false]:List Bool)))=some r:=by rw[if_pos rfl]at H;exact H
     clear H;have H:=H1;clear H1;obtain⟨y118,hy118⟩: ∃y_:List Bool,y_=(([true,true,false,false]:List Bool)):=⟨_,rfl⟩;replace H:(some y118)=some r:=by first|(rw[hy118];with_reducible exact H)|(have H2_:=(Option.bind_some _ _).symm.trans H;rw[hy118];with_reducible exact H2_)|(have H2_:=(Option.bind_some _ _).symm.trans H;with_reducible exact H2_)|with_reducible exact H|(rw[hy118];exact H)|exact H
     have Ny118:=aS hy118;clear hy118;obtain rfl:=Option.some.inj H;go_wp2_with (first|((with_reducible refine gate_dst (N:=12) rfl ?_);refine Kd.R_lit Kd.bool _ 4 ?hg (N:=12) ?hd (xs:=([true,true,false,false]:List Bool)) (inner:=[.bool true,.bool true,.bool false,.bool false]) (ok:=fun _=>True) (okp:=fun _=>True) ?hr ?hp (fun _ hk=>hk) trivial (Below.refl _ _) (Nat.le_refl _) (by simp) ?_;(case hd=>rfl);(case hg=>rfl);(case hr=>go_simp<;>rfl);(case hp=>exact(Reps.one (show Kd.M Kd.bool _ _ _ true [.bool true]from rfl) (Reps.one (show Kd.M Kd.bool _ _ _ true [.bool true]from rfl) (Reps.one (show Kd.M Kd.bool _ _ _ false [.bool false]from rfl) (Reps.one (show Kd.M Kd.bool _ _ _ false [.bool false]from rfl) (Reps.none _ _))))));intro v119 w10 ho11 hb hg_ hnew_;clear hg_ hnew_;(first|rw[←Ny118.out]at ho11|(simp only[Int.reduceToNat]at ho11;rw[←Ny118.out]at ho11));have HO120:=aS (Kd.R_lower ho11 (below_size (by exact bU HB.out)));replace HB:=aS (below_step (by exact bU HB.out) hb);clear hb ho11))
     go_ret
     exact⟨_,by first|rfl|(simp[*]<;>rfl),by exact rU HO120.out,by exact bU HB.out⟩
    ·replace c9:=Bool.eq_false_iff.mpr c9
     subst c9;have H1:(if a0=4 then(spec_l2Form.j1 kj4 a0 (a0==4))else(if a0=11 then(spec_l2Form.j1 kj4 a0 (a0==11))else(if a0=12 then(spec_l2Form.j1 kj4 a0 (a0==12))else(spec_l2Form.j1 kj4 a0 (a0==14)))))=some r:=by rw[if_neg (show¬(false=true) by decide)]at H;exact H
     clear H;have H:=H1;clear H1;have HC12:=aS H;clear H;go_upto_if 13 with (fail)
     go_cut [13] (fun v13 wc=> ∃ (kq:Nat) (x13_11:Bool),v13= .bool x13_11∧Aside0 (spec_l2Form.j1 kq a0 x13_11=some r)∧Aside0 (kq≤kj4)∧Aside0 (Below w.heap.size w wc))
     case first=>
      have H:=HC12.out;clear HC12;by_cases c13:a0=4
      ·rw[if_pos c13]at H
       have c13b0:(a0==4)=true:=beq_iff_eq.mpr c13;have c13b1:(a0 !=4)=false:=bne_eq_false_iff_eq.mpr c13;clear c13;(first|rw[c13b0]|(simp only[i64_w,i32_w];rw[c13b0])|skip)
       have H':=aS H;clear H;go_wp2
       go_meet
       case rel=>exact⟨_,((a0==4)),(by first|rfl|(simp;done)|(simp[*];done)),H',⟨by have:=HJ4.out;first|omega|exact Nat.le_refl _⟩,⟨by exact bU HB.out⟩⟩
      ·rw[if_neg c13]at H
       have c13b0:(a0==4)=false:=beq_eq_false_iff_ne.mpr c13;have c13b1:(a0 !=4)=true:=bne_iff_ne.mpr c13;(first|rw[c13b0]|(simp only[i64_w,i32_w];rw[c13b0])|skip)
       by_cases c14:a0=11
       ·rw[if_pos c14]at H
        have c14b0:(a0==11)=true:=beq_iff_eq.mpr c14;have c14b1:(a0 !=11)=false:=bne_eq_false_iff_eq.mpr c14;clear c14;have H':=aS H;clear H;go_wp2
        go_meet
        case rel=>exact⟨_,((a0==11)),(by first|rfl|(simp;done)|(simp[*];done)),H',⟨by have:=HJ4.out;first|omega|exact Nat.le_refl _⟩,⟨by exact bU HB.out⟩⟩
       ·rw[if_neg c14]at H
        have c14b0:(a0==11)=false:=beq_eq_false_iff_ne.mpr c14;have c14b1:(a0 !=11)=true:=bne_iff_ne.mpr c14;by_cases c15:a0=12
        ·rw[if_pos c15]at H
         have c15b0:(a0==12)=true:=beq_iff_eq.mpr c15;have c15b1:(a0 !=12)=false:=bne_eq_false_iff_eq.mpr c15;clear c15;have H':=aS H;clear H;go_wp2
         go_meet
         case rel=>exact⟨_,((a0==12)),(by first|rfl|(simp;done)|(simp[*];done)),H',⟨by have:=HJ4.out;first|omega|exact Nat.le_refl _⟩,⟨by exact bU HB.out⟩⟩
        ·rw[if_neg c15]at H
         have c15b0:(a0==12)=false:=beq_eq_false_iff_ne.mpr c15;have c15b1:(a0 !=12)=true:=bne_iff_ne.mpr c15;have H':=aS H;clear H;go_wp2
         go_meet
         case rel=>exact⟨_,((a0==14)),(by first|rfl|(simp;done)|(simp[*];done)),H',⟨by have:=HJ4.out;first|omega|exact Nat.le_refl _⟩,⟨by exact bU HB.out⟩⟩
     case rest=>
      clear HC12;(try clear c1);(try clear c2);(try clear c2b0);(try clear c2b1);(try clear p2);(try clear c3);(try clear c6);(try clear c6b0);(try clear c6b1);(try clear c7);(try clear c7b0);(try clear c7b1);(try clear c8);(try clear c8b0);(try clear c8b1);(try clear c9);(try clear c13);(try clear c13b0);(try clear c13b1);(try clear c14);(try clear c14b0);(try clear c14b1);(try clear c15);(try clear c15b0);(try clear c15b1);(try clear p2)
      obtain⟨kq,x13_11,rfl,HA,HJ11,HB⟩:=hcut;cases kq with
      |zero=>exact absurd HA.out (by simp[spec_l2Form.j1])
      |succ kj11=>
       have H:=HA.out;clear HA;simp only[spec_l2Form.j1]at H
       by_cases c16:x13_11=true
       ·subst c16
        have H1:(some (([true,false,false,false]:List Bool)))=some r:=by rw[if_pos rfl]at H;exact H
        clear H;have H:=H1;clear H1;obtain⟨y121,hy121⟩: ∃y_:List Bool,y_=(([true,false,false,false]:List Bool)):=⟨_,rfl⟩;replace H:(some y121)=some r:=by first|(rw[hy121];with_reducible exact H)|(have H2_:=(Option.bind_some _ _).symm.trans H;rw[hy121];with_reducible exact H2_)|(have H2_:=(Option.bind_some _ _).symm.trans H;with_reducible exact H2_)|with_reducible exact H|(rw[hy121];exact H)|exact H
        have Ny121:=aS hy121;clear hy121;obtain rfl:=Option.some.inj H;go_wp2_with (first|((with_reducible refine gate_dst (N:=18) rfl ?_);refine Kd.R_lit Kd.bool _ 4 ?hg (N:=18) ?hd (xs:=([true,false,false,false]:List Bool)) (inner:=[.bool true,.bool false,.bool false,.bool false]) (ok:=fun _=>True) (okp:=fun _=>True) ?hr ?hp (fun _ hk=>hk) trivial (Below.refl _ _) (Nat.le_refl _) (by simp) ?_;(case hd=>rfl);(case hg=>rfl);(case hr=>go_simp<;>rfl);(case hp=>exact(Reps.one (show Kd.M Kd.bool _ _ _ true [.bool true]from rfl) (Reps.one (show Kd.M Kd.bool _ _ _ false [.bool false]from rfl) (Reps.one (show Kd.M Kd.bool _ _ _ false [.bool false]from rfl) (Reps.one (show Kd.M Kd.bool _ _ _ false [.bool false]from rfl) (Reps.none _ _))))));intro v122 w17 ho18 hb hg_ hnew_;clear hg_ hnew_;(first|rw[←Ny121.out]at ho18|(simp only[Int.reduceToNat]at ho18;rw[←Ny121.out]at ho18));have HO123:=aS (Kd.R_lower ho18 (below_size (by exact bU HB.out)));replace HB:=aS (below_step (by exact bU HB.out) hb);clear hb ho18))
        go_ret
        exact⟨_,by first|rfl|(simp[*]<;>rfl),by exact rU HO123.out,by exact bU HB.out⟩
       ·replace c16:=Bool.eq_false_iff.mpr c16
        subst c16;have H1:(if a0=5 then(some (([true,false,true,false]:List Bool)))else(if a0=8 then(some (([true,true,true,true]:List Bool)))else(if a0=9 then(some (([false,false,true,false]:List Bool)))else(if a0=10 then(some (([true,false,true,true]:List Bool)))else(if a0=13 then(some (([false,false,false,true]:List Bool)))else(some (([]:List Bool))))))))=some r:=by rw[if_neg (show¬(false=true) by decide)]at H;exact H
        clear H;have H:=H1;clear H1;by_cases c19:a0=5
        ·rw[if_pos c19]at H
         have c19b0:(a0==5)=true:=beq_iff_eq.mpr c19;have c19b1:(a0 !=5)=false:=bne_eq_false_iff_eq.mpr c19;clear c19;obtain⟨y124,hy124⟩: ∃y_:List Bool,y_=(([true,false,true,false]:List Bool)):=⟨_,rfl⟩;replace H:(some y124)=some r:=by first|(rw[hy124];with_reducible exact H)|(have H2_:=(Option.bind_some _ _).symm.trans H;rw[hy124];with_reducible exact H2_)|(have H2_:=(Option.bind_some _ _).symm.trans H;with_reducible exact H2_)|with_reducible exact H|(rw[hy124];exact H)|exact H
         have Ny124:=aS hy124;clear hy124;obtain rfl:=Option.some.inj H;go_wp2_with (first|((with_reducible refine gate_dst (N:=21) rfl ?_);refine Kd.R_lit Kd.bool _ 4 ?hg (N:=21) ?hd (xs:=([true,false,true,false]:List Bool)) (inner:=[.bool true,.bool false,.bool true,.bool false]) (ok:=fun _=>True) (okp:=fun _=>True) ?hr ?hp (fun _ hk=>hk) trivial (Below.refl _ _) (Nat.le_refl _) (by simp) ?_;(case hd=>rfl);(case hg=>rfl);(case hr=>go_simp<;>rfl);(case hp=>exact(Reps.one (show Kd.M Kd.bool _ _ _ true [.bool true]from rfl) (Reps.one (show Kd.M Kd.bool _ _ _ false [.bool false]from rfl) (Reps.one (show Kd.M Kd.bool _ _ _ true [.bool true]from rfl) (Reps.one (show Kd.M Kd.bool _ _ _ false [.bool false]from rfl) (Reps.none _ _))))));intro v125 w20 ho21 hb hg_ hnew_;clear hg_ hnew_;(first|rw[←Ny124.out]at ho21|(simp only[Int.reduceToNat]at ho21;rw[←Ny124.out]at ho21));have HO126:=aS (Kd.R_lower ho21 (below_size (by exact bU HB.out)));replace HB:=aS (below_step (by exact bU HB.out) hb);clear hb ho21))
         go_ret
         exact⟨_,by first|rfl|(simp[*]<;>rfl),by exact rU HO126.out,by exact bU HB.out⟩
        ·rw[if_neg c19]at H
         have c19b0:(a0==5)=false:=beq_eq_false_iff_ne.mpr c19;have c19b1:(a0 !=5)=true:=bne_iff_ne.mpr c19;by_cases c22:a0=8
         ·rw[if_pos c22]at H
          have c22b0:(a0==8)=true:=beq_iff_eq.mpr c22;have c22b1:(a0 !=8)=false:=bne_eq_false_iff_eq.mpr c22;clear c22;obtain⟨y127,hy127⟩: ∃y_:List Bool,y_=(([true,true,true,true]:List Bool)):=⟨_,rfl⟩;replace H:(some y127)=some r:=by first|(rw[hy127];with_reducible exact H)|(have H2_:=(Option.bind_some _ _).symm.trans H;rw[hy127];with_reducible exact H2_)|(have H2_:=(Option.bind_some _ _).symm.trans H;with_reducible exact H2_)|with_reducible exact H|(rw[hy127];exact H)|exact H
          have Ny127:=aS hy127;clear hy127;obtain rfl:=Option.some.inj H;go_wp2_with (first|((with_reducible refine gate_dst (N:=24) rfl ?_);refine Kd.R_lit Kd.bool _ 4 ?hg (N:=24) ?hd (xs:=([true,true,true,true]:List Bool)) (inner:=[.bool true,.bool true,.bool true,.bool true]) (ok:=fun _=>True) (okp:=fun _=>True) ?hr ?hp (fun _ hk=>hk) trivial (Below.refl _ _) (Nat.le_refl _) (by simp) ?_;(case hd=>rfl);(case hg=>rfl);(case hr=>go_simp<;>rfl);(case hp=>exact(Reps.one (show Kd.M Kd.bool _ _ _ true [.bool true]from rfl) (Reps.one (show Kd.M Kd.bool _ _ _ true [.bool true]from rfl) (Reps.one (show Kd.M Kd.bool _ _ _ true [.bool true]from rfl) (Reps.one (show Kd.M Kd.bool _ _ _ true [.bool true]from rfl) (Reps.none _ _))))));intro v128 w23 ho24 hb hg_ hnew_;clear hg_ hnew_;(first|rw[←Ny127.out]at ho24|(simp only[Int.reduceToNat]at ho24;rw[←Ny127.out]at ho24));have HO129:=aS (Kd.R_lower ho24 (below_size (by exact bU HB.out)));replace HB:=aS (below_step (by exact bU HB.out) hb);clear hb ho24))
          go_ret
          exact⟨_,by first|rfl|(simp[*]<;>rfl),by exact rU HO129.out,by exact bU HB.out⟩
         ·rw[if_neg c22]at H
          have c22b0:(a0==8)=false:=beq_eq_false_iff_ne.mpr c22;have c22b1:(a0 !=8)=true:=bne_iff_ne.mpr c22;by_cases c25:a0=9
          ·rw[if_pos c25]at H
           have c25b0:(a0==9)=true:=beq_iff_eq.mpr c25;have c25b1:(a0 !=9)=false:=bne_eq_false_iff_eq.mpr c25;clear c25;obtain⟨y130,hy130⟩: ∃y_:List Bool,y_=(([false,false,true,false]:List Bool)):=⟨_,rfl⟩;replace H:(some y130)=some r:=by first|(rw[hy130];with_reducible exact H)|(have H2_:=(Option.bind_some _ _).symm.trans H;rw[hy130];with_reducible exact H2_)|(have H2_:=(Option.bind_some _ _).symm.trans H;with_reducible exact H2_)|with_reducible exact H|(rw[hy130];exact H)|exact H
           have Ny130:=aS hy130;clear hy130;obtain rfl:=Option.some.inj H;go_wp2_with (first|((with_reducible refine gate_dst (N:=27) rfl ?_);refine Kd.R_lit Kd.bool _ 4 ?hg (N:=27) ?hd (xs:=([false,false,true,false]:List Bool)) (inner:=[.bool false,.bool false,.bool true,.bool false]) (ok:=fun _=>True) (okp:=fun _=>True) ?hr ?hp (fun _ hk=>hk) trivial (Below.refl _ _) (Nat.le_refl _) (by simp) ?_;(case hd=>rfl);(case hg=>rfl);(case hr=>go_simp<;>rfl);(case hp=>exact(Reps.one (show Kd.M Kd.bool _ _ _ false [.bool false]from rfl) (Reps.one (show Kd.M Kd.bool _ _ _ false [.bool false]from rfl) (Reps.one (show Kd.M Kd.bool _ _ _ true [.bool true]from rfl) (Reps.one (show Kd.M Kd.bool _ _ _ false [.bool false]from rfl) (Reps.none _ _))))));intro v131 w26 ho27 hb hg_ hnew_;clear hg_ hnew_;(first|rw[←Ny130.out]at ho27|(simp only[Int.reduceToNat]at ho27;rw[←Ny130.out]at ho27));have HO132:=aS (Kd.R_lower ho27 (below_size (by exact bU HB.out)));replace HB:=aS (below_step (by exact bU HB.out) hb);clear hb ho27))
           go_ret
           exact⟨_,by first|rfl|(simp[*]<;>rfl),by exact rU HO132.out,by exact bU HB.out⟩
          ·rw[if_neg c25]at H
           have c25b0:(a0==9)=false:=beq_eq_false_iff_ne.mpr c25;have c25b1:(a0 !=9)=true:=bne_iff_ne.mpr c25;by_cases c28:a0=10
           ·rw[if_pos c28]at H
            have c28b0:(a0==10)=true:=beq_iff_eq.mpr c28;have c28b1:(a0 !=10)=false:=bne_eq_false_iff_eq.mpr c28;clear c28;obtain⟨y133,hy133⟩: ∃y_:List Bool,y_=(([true,false,true,true]:List Bool)):=⟨_,rfl⟩;replace H:(some y133)=some r:=by first|(rw[hy133];with_reducible exact H)|(have H2_:=(Option.bind_some _ _).symm.trans H;rw[hy133];with_reducible exact H2_)|(have H2_:=(Option.bind_some _ _).symm.trans H;with_reducible exact H2_)|with_reducible exact H|(rw[hy133];exact H)|exact H
            have Ny133:=aS hy133;clear hy133;obtain rfl:=Option.some.inj H;go_wp2_with (first|((with_reducible refine gate_dst (N:=30) rfl ?_);refine Kd.R_lit Kd.bool _ 4 ?hg (N:=30) ?hd (xs:=([true,false,true,true]:List Bool)) (inner:=[.bool true,.bool false,.bool true,.bool true]) (ok:=fun _=>True) (okp:=fun _=>True) ?hr ?hp (fun _ hk=>hk) trivial (Below.refl _ _) (Nat.le_refl _) (by simp) ?_;(case hd=>rfl);(case hg=>rfl);(case hr=>go_simp<;>rfl);(case hp=>exact(Reps.one (show Kd.M Kd.bool _ _ _ true [.bool true]from rfl) (Reps.one (show Kd.M Kd.bool _ _ _ false [.bool false]from rfl) (Reps.one (show Kd.M Kd.bool _ _ _ true [.bool true]from rfl) (Reps.one (show Kd.M Kd.bool _ _ _ true [.bool true]from rfl) (Reps.none _ _))))));intro v134 w29 ho30 hb hg_ hnew_;clear hg_ hnew_;(first|rw[←Ny133.out]at ho30|(simp only[Int.reduceToNat]at ho30;rw[←Ny133.out]at ho30));have HO135:=aS (Kd.R_lower ho30 (below_size (by exact bU HB.out)));replace HB:=aS (below_step (by exact bU HB.out) hb);clear hb ho30))
            go_ret
            exact⟨_,by first|rfl|(simp[*]<;>rfl),by exact rU HO135.out,by exact bU HB.out⟩
           ·rw[if_neg c28]at H
            have c28b0:(a0==10)=false:=beq_eq_false_iff_ne.mpr c28;have c28b1:(a0 !=10)=true:=bne_iff_ne.mpr c28;by_cases c31:a0=13
            ·rw[if_pos c31]at H
             have c31b0:(a0==13)=true:=beq_iff_eq.mpr c31;have c31b1:(a0 !=13)=false:=bne_eq_false_iff_eq.mpr c31;clear c31;obtain⟨y136,hy136⟩: ∃y_:List Bool,y_=(([false,false,false,true]:List Bool)):=⟨_,rfl⟩;replace H:(some y136)=some r:=by first|(rw[hy136];with_reducible exact H)|(have H2_:=(Option.bind_some _ _).symm.trans H;rw[hy136];with_reducible exact H2_)|(have H2_:=(Option.bind_some _ _).symm.trans H;with_reducible exact H2_)|with_reducible exact H|(rw[hy136];exact H)|exact H
             have Ny136:=aS hy136;clear hy136;obtain rfl:=Option.some.inj H;go_wp2_with (first|((with_reducible refine gate_dst (N:=33) rfl ?_);refine Kd.R_lit Kd.bool _ 4 ?hg (N:=33) ?hd (xs:=([false,false,false,true]:List Bool)) (inner:=[.bool false,.bool false,.bool false,.bool true]) (ok:=fun _=>True) (okp:=fun _=>True) ?hr ?hp (fun _ hk=>hk) trivial (Below.refl _ _) (Nat.le_refl _) (by simp) ?_;(case hd=>rfl);(case hg=>rfl);(case hr=>go_simp<;>rfl);(case hp=>exact(Reps.one (show Kd.M Kd.bool _ _ _ false [.bool false]from rfl) (Reps.one (show Kd.M Kd.bool _ _ _ false [.bool false]from rfl) (Reps.one (show Kd.M Kd.bool _ _ _ false [.bool false]from rfl) (Reps.one (show Kd.M Kd.bool _ _ _ true [.bool true]from rfl) (Reps.none _ _))))));intro v137 w32 ho33 hb hg_ hnew_;clear hg_ hnew_;(first|rw[←Ny136.out]at ho33|(simp only[Int.reduceToNat]at ho33;rw[←Ny136.out]at ho33));have HO138:=aS (Kd.R_lower ho33 (below_size (by exact bU HB.out)));replace HB:=aS (below_step (by exact bU HB.out) hb);clear hb ho33))
             go_ret
             exact⟨_,by first|rfl|(simp[*]<;>rfl),by exact rU HO138.out,by exact bU HB.out⟩
            ·rw[if_neg c31]at H
             have c31b0:(a0==13)=false:=beq_eq_false_iff_ne.mpr c31;have c31b1:(a0 !=13)=true:=bne_iff_ne.mpr c31;obtain⟨y139,hy139⟩: ∃y_:List Bool,y_=(([]:List Bool)):=⟨_,rfl⟩;replace H:(some y139)=some r:=by first|(rw[hy139];with_reducible exact H)|(have H2_:=(Option.bind_some _ _).symm.trans H;rw[hy139];with_reducible exact H2_)|(have H2_:=(Option.bind_some _ _).symm.trans H;with_reducible exact H2_)|with_reducible exact H|(rw[hy139];exact H)|exact H
             have Ny139:=aS hy139;clear hy139;obtain rfl:=Option.some.inj H;go_wp2_with (first|((with_reducible refine gate_dst (N:=34) rfl ?_);refine Kd.R_lit Kd.bool _ 4 ?hg (N:=34) ?hd (xs:=([]:List Bool)) (inner:=[]) (ok:=fun _=>True) (okp:=fun _=>True) ?hr ?hp (fun _ hk=>hk) trivial (Below.refl _ _) (Nat.le_refl _) (by simp) ?_;(case hd=>rfl);(case hg=>rfl);(case hr=>go_simp<;>rfl);(case hp=>exact(Reps.none _ _));intro v140 w34 ho35 hb hg_ hnew_;clear hg_ hnew_;(first|rw[←Ny139.out]at ho35|(simp only[Int.reduceToNat]at ho35;rw[←Ny139.out]at ho35));have HO141:=aS (Kd.R_lower ho35 (below_size (by exact bU HB.out)));replace HB:=aS (below_step (by exact bU HB.out) hb);clear hb ho35))
             go_ret
             exact⟨_,by first|rfl|(simp[*]<;>rfl),by exact rU HO141.out,by exact bU HB.out⟩
def spec_l6In.f (a0:Int) (a1:Int) (a2:Int):Option (Bool):=if a0≥a1 then(some (decide (a0≤a2)))else(some false)
theorem spec_l6In.calls (a0:Int) (a1:Int) (a2:Int) (r:Bool) (w:World) (h:spec_l6In.f a0 a1 a2=some r):
  Calls Tryz.prog 43 #[.int .i64 a0,.int .i64 a1,.int .i64 a2] w fun e w'=>e= .returned (.bool r)∧Drawn0 w w':=by
 have H:(if a0≥a1 then(some (decide (a0≤a2)))else(some false))=some r:=h
 clear h;by_cases c4:a0≥a1
 ·rw[if_pos c4]at H
  have c4b0:decide (a1≤a0)=true:=decide_eq_true c4;clear c4;obtain rfl:=Option.some.inj H;go_enter Tryz.func43,Tryz.ntmps43
  go_wp2
  go_ret
  exact⟨by first|rfl|(simp;done)|(simp[*];done),by repeat(first|exact Drawn0.refl _|apply Drawn0.step)⟩
 ·rw[if_neg c4]at H
  have c4b0:decide (a1≤a0)=false:=decide_eq_false c4;clear c4;obtain rfl:=Option.some.inj H;go_enter Tryz.func43,Tryz.ntmps43
  go_wp2
  go_ret
  exact⟨by first|rfl|(simp;done)|(simp[*];done),by repeat(first|exact Drawn0.refl _|apply Drawn0.step)⟩
def spec_ValOk.f (a0_0:Int) (a0_1:Int):Option (Bool):=if a0_0=0 then(some (a0_1==0))else(if a0_0=1 then((spec_l6In.f a0_1 (-99) 99).bind fun t143=>(some t143))else(if a0_0=2 then((spec_l6In.f a0_1 0 9).bind fun t144=>(some t144))else(if a0_0=3 then((spec_l6In.f a0_1 1 6).bind fun t145=>(some t145))else(some false))))
theorem spec_ValOk.calls (a0_0:Int) (a0_1:Int) (r:Bool) (w:World) (h:spec_ValOk.f a0_0 a0_1=some r):
  Calls Tryz.prog 67 #[.agg #[.int .i64 a0_0,.int .i64 a0_1]] w fun e w'=>e= .returned (.bool r)∧Below w.heap.size w w':=by
 have hu37:=Tryz.underlying37;have HB:=aS (Below.refl w.heap.size w);have H:(if a0_0=0 then(some (a0_1==0))else(if a0_0=1 then((spec_l6In.f a0_1 (-99) 99).bind fun t143=>(some t143))else(if a0_0=2 then((spec_l6In.f a0_1 0 9).bind fun t144=>(some t144))else(if a0_0=3 then((spec_l6In.f a0_1 1 6).bind fun t145=>(some t145))else(some false)))))=some r:=h
 clear h;by_cases c2:a0_0=0
 ·rw[if_pos c2]at H
  have c2b0:(a0_0==0)=true:=beq_iff_eq.mpr c2;have c2b1:(a0_0 !=0)=false:=bne_eq_false_iff_eq.mpr c2;clear c2;obtain rfl:=Option.some.inj H;go_enter Tryz.func67,Tryz.ntmps67
  go_wp2_with (first|((with_reducible refine gate_dst (N:=1) rfl ?_);refine box_event ?hg (N:=1) ?hd (cs:= #[.int .i64 a0_0,.int .i64 a0_1]) (t:=37) ?hr ?_;(case hd=>rfl);(case hg=>rfl);(case hr=>go_simp<;>rfl);intro gb142 hg w3 hbox hb;have n0_:=aS (below_step (by exact bU HB.out) hb);have n1_:=aS (hbox);have n2_:=aS ((by rw[hg];exact(below_size (by exact bU HB.out)):w.heap.size≤gb142));have n3_:=aS ((by rw[hg];exact(below_size (by exact bU HB.out)):w.heap.size≤gb142));clear HB;have HB:=n0_;have BK142:=n1_;have GW142:=n2_;have GE142:=n3_;clear n0_ n1_ n2_ n3_;clear hb hbox hg;have hcz4_0:w3.cell? ⟨gb142,0,none⟩=some (.int .i64 a0_0):=(blk_cell BK142.out 0).trans rfl;have hcz4_1:w3.cell? ⟨gb142,1,none⟩=some (.int .i64 a0_1):=(blk_cell BK142.out 1).trans rfl;have hfz4_0:=blk_frozen BK142.out 0;have hfz4_1:=blk_frozen BK142.out 1))
  go_ret
  exact⟨by first|rfl|(simp[*]<;>rfl),by repeat(with_reducible first|exact HB.out|apply bA|apply bN|apply b1|refine below_set ?_ GE142.out)⟩
 ·rw[if_neg c2]at H
  have c2b0:(a0_0==0)=false:=beq_eq_false_iff_ne.mpr c2;have c2b1:(a0_0 !=0)=true:=bne_iff_ne.mpr c2;by_cases c5:a0_0=1
  ·rw[if_pos c5]at H
   have c5b0:(a0_0==1)=true:=beq_iff_eq.mpr c5;have c5b1:(a0_0 !=1)=false:=bne_eq_false_iff_eq.mpr c5;clear c5;replace H:=Option.bind_eq_some_iff.mp H;obtain⟨t143,A60,H⟩:=H;replace H:(some t143)=some r:=H;have A6:=aS A60;clear A60;obtain rfl:=Option.some.inj H;go_enter Tryz.func67,Tryz.ntmps67
   go_wp2_with (first|((with_reducible refine gate_dst (N:=1) rfl ?_);refine box_event ?hg (N:=1) ?hd (cs:= #[.int .i64 a0_0,.int .i64 a0_1]) (t:=37) ?hr ?_;(case hd=>rfl);(case hg=>rfl);(case hr=>go_simp<;>rfl);intro gb142 hg w7 hbox hb;have n0_:=aS (below_step (by exact bU HB.out) hb);have n1_:=aS (hbox);have n2_:=aS ((by rw[hg];exact(below_size (by exact bU HB.out)):w.heap.size≤gb142));have n3_:=aS ((by rw[hg];exact(below_size (by exact bU HB.out)):w.heap.size≤gb142));clear HB;have HB:=n0_;have BK142:=n1_;have GW142:=n2_;have GE142:=n3_;clear n0_ n1_ n2_ n3_;clear hb hbox hg;have hcz8_0:w7.cell? ⟨gb142,0,none⟩=some (.int .i64 a0_0):=(blk_cell BK142.out 0).trans rfl;have hcz8_1:w7.cell? ⟨gb142,1,none⟩=some (.int .i64 a0_1):=(blk_cell BK142.out 1).trans rfl;have hfz8_0:=blk_frozen BK142.out 0;have hfz8_1:=blk_frozen BK142.out 1)|((with_reducible refine gate_callee (f:=43) rfl ?_);refine goesL_ (some 14) rfl rfl Tryz.func43 (by kernel_rfl) rfl #[.int .i64 a0_1,.int .i64 (-99),.int .i64 99] rfl (by(try simp only[List.map_toArray,List.map_cons,List.map_nil])<;>rfl) ?_;(with_reducible refine(spec_l6In.calls a0_1 (-99) 99 t143 _ A6.out).mono ?_);rintro e w' ⟨rfl,⟨nd,rfl⟩⟩;refine⟨_,rfl,?_⟩))
   go_ret
   exact⟨by first|rfl|(simp[*]<;>rfl),by repeat(with_reducible first|exact HB.out|apply bA|apply bN|apply b1|refine below_set ?_ GE142.out)⟩
  ·rw[if_neg c5]at H
   have c5b0:(a0_0==1)=false:=beq_eq_false_iff_ne.mpr c5;have c5b1:(a0_0 !=1)=true:=bne_iff_ne.mpr c5;by_cases c9:a0_0=2
   ·rw[if_pos c9]at H
    have c9b0:(a0_0==2)=true:=beq_iff_eq.mpr c9;have c9b1:(a0_0 !=2)=false:=bne_eq_false_iff_eq.mpr c9;clear c9;replace H:=Option.bind_eq_some_iff.mp H;obtain⟨t144,A100,H⟩:=H;replace H:(some t144)=some r:=H;have A10:=aS A100;clear A100;obtain rfl:=Option.some.inj H;go_enter Tryz.func67,Tryz.ntmps67
    go_wp2_with (first|((with_reducible refine gate_dst (N:=1) rfl ?_);refine box_event ?hg (N:=1) ?hd (cs:= #[.int .i64 a0_0,.int .i64 a0_1]) (t:=37) ?hr ?_;(case hd=>rfl);(case hg=>rfl);(case hr=>go_simp<;>rfl);intro gb142 hg w11 hbox hb;have n0_:=aS (below_step (by exact bU HB.out) hb);have n1_:=aS (hbox);have n2_:=aS ((by rw[hg];exact(below_size (by exact bU HB.out)):w.heap.size≤gb142));have n3_:=aS ((by rw[hg];exact(below_size (by exact bU HB.out)):w.heap.size≤gb142));clear HB;have HB:=n0_;have BK142:=n1_;have GW142:=n2_;have GE142:=n3_;clear n0_ n1_ n2_ n3_;clear hb hbox hg;have hcz12_0:w11.cell? ⟨gb142,0,none⟩=some (.int .i64 a0_0):=(blk_cell BK142.out 0).trans rfl;have hcz12_1:w11.cell? ⟨gb142,1,none⟩=some (.int .i64 a0_1):=(blk_cell BK142.out 1).trans rfl;have hfz12_0:=blk_frozen BK142.out 0;have hfz12_1:=blk_frozen BK142.out 1)|((with_reducible refine gate_callee (f:=43) rfl ?_);refine goesL_ (some 19) rfl rfl Tryz.func43 (by kernel_rfl) rfl #[.int .i64 a0_1,.int .i64 0,.int .i64 9] rfl (by(try simp only[List.map_toArray,List.map_cons,List.map_nil])<;>rfl) ?_;(with_reducible refine(spec_l6In.calls a0_1 0 9 t144 _ A10.out).mono ?_);rintro e w' ⟨rfl,⟨nd,rfl⟩⟩;refine⟨_,rfl,?_⟩))
    go_ret
    exact⟨by first|rfl|(simp[*]<;>rfl),by repeat(with_reducible first|exact HB.out|apply bA|apply bN|apply b1|refine below_set ?_ GE142.out)⟩
   ·rw[if_neg c9]at H
    have c9b0:(a0_0==2)=false:=beq_eq_false_iff_ne.mpr c9;have c9b1:(a0_0 !=2)=true:=bne_iff_ne.mpr c9;by_cases c13:a0_0=3
    ·rw[if_pos c13]at H
     have c13b0:(a0_0==3)=true:=beq_iff_eq.mpr c13;have c13b1:(a0_0 !=3)=false:=bne_eq_false_iff_eq.mpr c13;clear c13;replace H:=Option.bind_eq_some_iff.mp H;obtain⟨t145,A140,H⟩:=H;replace H:(some t145)=some r:=H;have A14:=aS A140;clear A140;obtain rfl:=Option.some.inj H;go_enter Tryz.func67,Tryz.ntmps67
     go_wp2_with (first|((with_reducible refine gate_dst (N:=1) rfl ?_);refine box_event ?hg (N:=1) ?hd (cs:= #[.int .i64 a0_0,.int .i64 a0_1]) (t:=37) ?hr ?_;(case hd=>rfl);(case hg=>rfl);(case hr=>go_simp<;>rfl);intro gb142 hg w15 hbox hb;have n0_:=aS (below_step (by exact bU HB.out) hb);have n1_:=aS (hbox);have n2_:=aS ((by rw[hg];exact(below_size (by exact bU HB.out)):w.heap.size≤gb142));have n3_:=aS ((by rw[hg];exact(below_size (by exact bU HB.out)):w.heap.size≤gb142));clear HB;have HB:=n0_;have BK142:=n1_;have GW142:=n2_;have GE142:=n3_;clear n0_ n1_ n2_ n3_;clear hb hbox hg;have hcz16_0:w15.cell? ⟨gb142,0,none⟩=some (.int .i64 a0_0):=(blk_cell BK142.out 0).trans rfl;have hcz16_1:w15.cell? ⟨gb142,1,none⟩=some (.int .i64 a0_1):=(blk_cell BK142.out 1).trans rfl;have hfz16_0:=blk_frozen BK142.out 0;have hfz16_1:=blk_frozen BK142.out 1)|((with_reducible refine gate_callee (f:=43) rfl ?_);refine goesL_ (some 24) rfl rfl Tryz.func43 (by kernel_rfl) rfl #[.int .i64 a0_1,.int .i64 1,.int .i64 6] rfl (by(try simp only[List.map_toArray,List.map_cons,List.map_nil])<;>rfl) ?_;(with_reducible refine(spec_l6In.calls a0_1 1 6 t145 _ A14.out).mono ?_);rintro e w' ⟨rfl,⟨nd,rfl⟩⟩;refine⟨_,rfl,?_⟩))
     go_ret
     exact⟨by first|rfl|(simp[*]<;>rfl),by repeat(with_reducible first|exact HB.out|apply bA|apply bN|apply b1|refine below_set ?_ GE142.out)⟩
    ·rw[if_neg c13]at H
     have c13b0:(a0_0==3)=false:=beq_eq_false_iff_ne.mpr c13;have c13b1:(a0_0 !=3)=true:=bne_iff_ne.mpr c13;obtain rfl:=Option.some.inj H;go_enter Tryz.func67,Tryz.ntmps67
     go_wp2_with (first|((with_reducible refine gate_dst (N:=1) rfl ?_);refine box_event ?hg (N:=1) ?hd (cs:= #[.int .i64 a0_0,.int .i64 a0_1]) (t:=37) ?hr ?_;(case hd=>rfl);(case hg=>rfl);(case hr=>go_simp<;>rfl);intro gb142 hg w17 hbox hb;have n0_:=aS (below_step (by exact bU HB.out) hb);have n1_:=aS (hbox);have n2_:=aS ((by rw[hg];exact(below_size (by exact bU HB.out)):w.heap.size≤gb142));have n3_:=aS ((by rw[hg];exact(below_size (by exact bU HB.out)):w.heap.size≤gb142));clear HB;have HB:=n0_;have BK142:=n1_;have GW142:=n2_;have GE142:=n3_;clear n0_ n1_ n2_ n3_;clear hb hbox hg;have hcz18_0:w17.cell? ⟨gb142,0,none⟩=some (.int .i64 a0_0):=(blk_cell BK142.out 0).trans rfl;have hcz18_1:w17.cell? ⟨gb142,1,none⟩=some (.int .i64 a0_1):=(blk_cell BK142.out 1).trans rfl;have hfz18_0:=blk_frozen BK142.out 0;have hfz18_1:=blk_frozen BK142.out 1))
     go_ret
     exact⟨by first|rfl|(simp[*]<;>rfl),by repeat(with_reducible first|exact HB.out|apply bA|apply bN|apply b1|refine below_set ?_ GE142.out)⟩
def spec_l2Names.f:Option (List ByteArray):=some (([(⟨#[]⟩:ByteArray),(⟨#[115,101,116]⟩:ByteArray),(⟨#[109,111,118,101]⟩:ByteArray),(⟨#[97,100,100]⟩:ByteArray),(⟨#[115,101,108,102]⟩:ByteArray),(⟨#[98,101,103,105,110]⟩:ByteArray),(⟨#[115,101,110,100]⟩:ByteArray),(⟨#[116,97,107,101]⟩:ByteArray),(⟨#[97,102,116,101,114]⟩:ByteArray),(⟨#[103,111]⟩:ByteArray),(⟨#[105,102]⟩:ByteArray),(⟨#[108,105,110,107]⟩:ByteArray),(⟨#[119,97,116,99,104]⟩:ByteArray),(⟨#[116,114,97,112]⟩:ByteArray),(⟨#[101,110,100]⟩:ByteArray)]:List ByteArray))
theorem spec_l2Names.calls (r:List ByteArray) (w:World) (h:spec_l2Names.f=some r):
  Calls Tryz.prog 37 #[] w fun e w'=> ∃v0_:Value,e= .returned (v0_)∧Kd.R Kd.string 9 w' w.heap.size (fun _=>True) v0_ r∧Below w.heap.size w w':=by
 have HB:=aS (Below.refl w.heap.size w);have H:(some (([(⟨#[]⟩:ByteArray),(⟨#[115,101,116]⟩:ByteArray),(⟨#[109,111,118,101]⟩:ByteArray),(⟨#[97,100,100]⟩:ByteArray),(⟨#[115,101,108,102]⟩:ByteArray),(⟨#[98,101,103,105,110]⟩:ByteArray),(⟨#[115,101,110,100]⟩:ByteArray),(⟨#[116,97,107,101]⟩:ByteArray),(⟨#[97,102,116,101,114]⟩:ByteArray),(⟨#[103,111]⟩:ByteArray),(⟨#[105,102]⟩:ByteArray),(⟨#[108,105,110,107]⟩:ByteArray),(⟨#[119,97,116,99,104]⟩:ByteArray),(⟨#[116,114,97,112]⟩:ByteArray),(⟨#[101,110,100]⟩:ByteArray)]:List ByteArray)))=some r:=h;clear h;obtain⟨y146,hy146⟩: ∃y_:List ByteArray,y_=(([(⟨#[]⟩:ByteArray),(⟨#[115,101,116]⟩:ByteArray),(⟨#[109,111,118,101]⟩:ByteArray),(⟨#[97,100,100]⟩:ByteArray),(⟨#[115,101,108,102]⟩:ByteArray),(⟨#[98,101,103,105,110]⟩:ByteArray),(⟨#[115,101,110,100]⟩:ByteArray),(⟨#[116,97,107,101]⟩:ByteArray),(⟨#[97,102,116,101,114]⟩:ByteArray),(⟨#[103,111]⟩:ByteArray),(⟨#[105,102]⟩:ByteArray),(⟨#[108,105,110,107]⟩:ByteArray),(⟨#[119,97,116,99,104]⟩:ByteArray),(⟨#[116,114,97,112]⟩:ByteArray),(⟨#[101,110,100]⟩:ByteArray)]:List ByteArray)):=⟨_,rfl⟩;replace H:(some y146)=some r:=by first|(rw[hy146];with_reducible exact H)|(have H2_:=(Option.bind_some _ _).symm.trans H;rw[hy146];with_reducible exact H2_)|(have H2_:=(Option.bind_some _ _).symm.trans H;with_reducible exact H2_)|with_reducible exact H|(rw[hy146];exact H)|exact H
 have Ny146:=aS hy146;clear hy146;obtain rfl:=Option.some.inj H;go_enter Tryz.func37,Tryz.ntmps37
 go_wp2_with (first|((with_reducible refine gate_dst (N:=1) rfl ?_);refine Kd.R_lit Kd.string _ 9 ?hg (N:=1) ?hd (xs:=([(⟨#[]⟩:ByteArray),(⟨#[115,101,116]⟩:ByteArray),(⟨#[109,111,118,101]⟩:ByteArray),(⟨#[97,100,100]⟩:ByteArray),(⟨#[115,101,108,102]⟩:ByteArray),(⟨#[98,101,103,105,110]⟩:ByteArray),(⟨#[115,101,110,100]⟩:ByteArray),(⟨#[116,97,107,101]⟩:ByteArray),(⟨#[97,102,116,101,114]⟩:ByteArray),(⟨#[103,111]⟩:ByteArray),(⟨#[105,102]⟩:ByteArray),(⟨#[108,105,110,107]⟩:ByteArray),(⟨#[119,97,116,99,104]⟩:ByteArray),(⟨#[116,114,97,112]⟩:ByteArray),(⟨#[101,110,100]⟩:ByteArray)]:List ByteArray)) (inner:=[.string (⟨#[]⟩:ByteArray),.string (⟨#[115,101,116]⟩:ByteArray),.string (⟨#[109,111,118,101]⟩:ByteArray),.string (⟨#[97,100,100]⟩:ByteArray),.string (⟨#[115,101,108,102]⟩:ByteArray),.string (⟨#[98,101,103,105,110]⟩:ByteArray),.string (⟨#[115,101,110,100]⟩:ByteArray),.string (⟨#[116,97,107,101]⟩:ByteArray),.string (⟨#[97,102,116,101,114]⟩:ByteArray),.string (⟨#[103,111]⟩:ByteArray),.string (⟨#[105,102]⟩:ByteArray),.string (⟨#[108,105,110,107]⟩:ByteArray),.string (⟨#[119,97,116,99,104]⟩:ByteArray),.string (⟨#[116,114,97,112]⟩:ByteArray),.string (⟨#[101,110,100]⟩:ByteArray)]) (ok:=fun _=>True) (okp:=fun _=>True) ?hr ?hp (fun _ hk=>hk) trivial (Below.refl _ _) (Nat.le_refl _) (by simp) ?_;(case hd=>rfl);(case hg=>rfl);(case hr=>go_simp<;>rfl);(case hp=>exact(Reps.one (show Kd.M Kd.string _ _ _ (⟨#[]⟩:ByteArray) [.string (⟨#[]⟩:ByteArray)]from rfl) (Reps.one (show Kd.M Kd.string _ _ _ (⟨#[115,101,116]⟩:ByteArray) [.string (⟨#[115,101,116]⟩:ByteArray)]from rfl) (Reps.one (show Kd.M Kd.string _ _ _ (⟨#[109,111,118,101]⟩:ByteArray) [.string (⟨#[109,111,118,101]⟩:ByteArray)]from rfl) (Reps.one (show Kd.M Kd.string _ _ _ (⟨#[97,100,100]⟩:ByteArray) [.string (⟨#[97,100,100]⟩:ByteArray)]from rfl) (Reps.one (show Kd.M Kd.string _ _ _ (⟨#[115,101,108,102]⟩:ByteArray) [.string (⟨#[115,101,108,102]⟩:ByteArray)]from rfl) (Reps.one (show Kd.M Kd.string _ _ _ (⟨#[98,101,103,105,110]⟩:ByteArray) [.string (⟨#[98,101,103,105,110]⟩:ByteArray)]from rfl) (Reps.one (show Kd.M Kd.string _ _ _ (⟨#[115,101,110,100]⟩:ByteArray) [.string (⟨#[115,101,110,100]⟩:ByteArray)]from rfl) (Reps.one (show Kd.M Kd.string _ _ _ (⟨#[116,97,107,101]⟩:ByteArray) [.string (⟨#[116,97,107,101]⟩:ByteArray)]from rfl) (Reps.one (show Kd.M Kd.string _ _ _ (⟨#[97,102,116,101,114]⟩:ByteArray) [.string (⟨#[97,102,116,101,114]⟩:ByteArray)]from rfl) (Reps.one (show Kd.M Kd.string _ _ _ (⟨#[103,111]⟩:ByteArray) [.string (⟨#[103,111]⟩:ByteArray)]from rfl) (Reps.one (show Kd.M Kd.string _ _ _ (⟨#[105,102]⟩:ByteArray) [.string (⟨#[105,102]⟩:ByteArray)]from rfl) (Reps.one (show Kd.M Kd.string _ _ _ (⟨#[108,105,110,107]⟩:ByteArray) [.string (⟨#[108,105,110,107]⟩:ByteArray)]from rfl) (Reps.one (show Kd.M Kd.string _ _ _ (⟨#[119,97,116,99,104]⟩:ByteArray) [.string (⟨#[119,97,116,99,104]⟩:ByteArray)]from rfl) (Reps.one (show Kd.M Kd.string _ _ _ (⟨#[116,114,97,112]⟩:ByteArray) [.string (⟨#[116,114,97,112]⟩:ByteArray)]from rfl) (Reps.one (show Kd.M Kd.string _ _ _ (⟨#[101,110,100]⟩:ByteArray) [.string (⟨#[101,110,100]⟩:ByteArray)]from rfl) (Reps.none _ _)))))))))))))))));intro v147 w1 ho2 hb hg_ hnew_;clear hg_ hnew_;(first|rw[←Ny146.out]at ho2|(simp only[Int.reduceToNat]at ho2;rw[←Ny146.out]at ho2));have HO148:=aS (Kd.R_lower ho2 (below_size (by exact bU HB.out)));replace HB:=aS (below_step (by exact bU HB.out) hb);clear hb ho2))
 go_ret
 exact⟨_,by first|rfl|(simp[*]<;>rfl),by exact rU HO148.out,by exact bU HB.out⟩
end Go.Proofs.YtmklpbmlgjkbiaaGreatDoor.PS
end
section
namespace Go.Proofs.YtmklpbmlgjkbiaaGreatDoor.PD
open Go.RowKit Go.Proofs.YtmklpbmlgjkbiaaGreatDoorW.PrintWords Go.Proofs.YtmklpbmlgjkbiaaGreatDoorW.PrintLast Go.Proofs.YtmklpbmlgjkbiaaGreatDoorW.PrintMore Go.Proofs.YtmklpbmlgjkbiaaGreatDoor.PS Go.Proofs.YtmklpbmlgjkbiaaGreatDoor.PC
attribute [local go_sem] max2_int min2_int max_two min_two max_three min_three max_four min_four   -- for this text's walks alone
def spec_l71Good.f (k:Nat) (s0_0:List Int) (s0_1:Int):Option (Int×Int×Int):=(spec_l71Val.f k s0_0 s0_1).bind fun bt132=>((spec_ValOk.f bt132.1 bt132.2.1).bind fun t136=>(if t136=true then(some (bt132.1,bt132.2.1,bt132.2.2))else(some (1,1,bt132.2.2))))
theorem spec_l71Good.mono: ∀a0 a1 k,LeO (spec_l71Good.f k a0 a1) (spec_l71Good.f (k+1) a0 a1):=by
 intro a0 a1 k;unfold spec_l71Good.f
 repeat' first
   |(with_reducible exact spec_l71Val.mono _ _ _)
   |(with_reducible exact LeO.refl _)
   |(with_reducible exact LeO.none _)
   |(with_reducible refine LeO.ite ?_ ?_)
   |(with_reducible refine LeO.bind ?_ (fun _=> ?_))
   |exact spec_l71Val.mono _ _ _
   |exact LeO.none _
   |refine LeO.ite ?_ ?_
   |refine LeO.bind ?_ (fun _=> ?_)
theorem spec_l71Good.calls (k:Nat) (g:Nat) (s0_0:List Int) (s0_1:Int) (r1:Int) (r2:Int) (r3:Int) (w0 w:World) (hI:IsS86 w0 w g s0_0 s0_1) (hB:Below w0.heap.size w0 w) (h:spec_l71Good.f k s0_0 s0_1=some (r1,r2,r3)):
  Calls Tryz.prog 94 #[.pointer (some ⟨g,0,none⟩)] w fun e w'=>e= .returned (.agg #[.int .i64 r1,.int .i64 r2])∧IsS86 w0 w' g s0_0 r3∧Below w0.heap.size w0 w'∧KeepBut w w' g none:=by
 have hu37:=Tryz.underlying37;have HI0:=aS hI;have HK:=aS (KeepBut.refl w g none);have HL:=aS hB.size;clear hI;have HW0:=aS hB.size;have HB:=aS hB;clear hB;have H:((spec_l71Val.f k s0_0 s0_1).bind fun bt132=>((spec_ValOk.f bt132.1 bt132.2.1).bind fun t136=>(if t136=true then(some (bt132.1,bt132.2.1,bt132.2.2))else(some (1,1,bt132.2.2)))))=some (r1,r2,r3):=h
 clear h;replace H:=Option.bind_eq_some_iff.mp H;obtain⟨⟨t132,t133,t134⟩,A20,H⟩:=H;replace H:((spec_ValOk.f t132 t133).bind fun t136=>(if t136=true then(some (t132,t133,t134))else(some (1,1,t134))))=some (r1,r2,r3):=H
 have A2:=aS A20;clear A20;replace H:=Option.bind_eq_some_iff.mp H;obtain⟨t136,A30,H⟩:=H;replace H:(if t136=true then(some (t132,t133,t134))else(some (1,1,t134)))=some (r1,r2,r3):=H
 have A3:=aS A30;clear A30;by_cases c4:t136=true
 ·subst c4
  have H1:(some (t132,t133,t134))=some (r1,r2,r3):=by rw[if_pos rfl]at H;exact H
  clear H;have H:=H1;clear H1;simp only[Option.some.injEq,Prod.mk.injEq]at H
  obtain⟨rfl,rfl,rfl⟩:=H;go_enter Tryz.func94,Tryz.ntmps94
  go_wp2_with (first|((with_reducible refine gate_dst (N:=2) rfl ?_);refine box_event ?hg (N:=2) ?hd (cs:= #[.int .i64 0,.int .i64 0]) (t:=37) ?hr ?_;(case hd=>rfl);(case hg=>rfl);(case hr=>go_simp<;>rfl);intro gb131 hg w5 hbox hb;have n0_:=aS (IsS86.below (by repeat(with_reducible first|exact HI0.out|apply sA|apply sN|apply sD|apply sS)) hb);have n1_:=aS (KeepBut.trans (by repeat(with_reducible first|exact HK.out|apply pS|apply pN|apply pD|apply pA)) (KeepBut.of_below hb g none) (.inl rfl));have n2_:=aS (below_step (by repeat(with_reducible first|exact HB.out|apply bA|apply bN|apply b1|refine below_set ?_ (IsS86.ge HI0.out))) hb);have n3_:=aS (hbox);have n4_:=aS ((by rw[hg];exact(keep_size (w:=w) (g:=g) (row:=none) (by repeat(with_reducible first|exact HK.out|apply pS|apply pN|apply pD|apply pA))):w.heap.size≤gb131));have n5_:=aS ((Nat.le_trans HW0.out (by rw[hg];exact(keep_size (w:=w) (g:=g) (row:=none) (by repeat(with_reducible first|exact HK.out|apply pS|apply pN|apply pD|apply pA))):w.heap.size≤gb131):w0.heap.size≤gb131));have n6_:=aS ((by rw[hg];exact Nat.ne_of_lt (IsS86.lt (show IsS86 w0 _ g s0_0 s0_1 from by repeat(with_reducible first|exact HI0.out|apply sA|apply sN|apply sD|apply sS))):g≠gb131));have n7_:=aS ((by rw[hg];exact Nat.ne_of_gt (IsS86.lt (show IsS86 w0 _ g s0_0 s0_1 from by repeat(with_reducible first|exact HI0.out|apply sA|apply sN|apply sD|apply sS))):gb131≠g));clear HI0;clear HK;clear HB;have HI0:=n0_;have HK:=n1_;have HB:=n2_;have BK131:=n3_;have GW131:=n4_;have GE131:=n5_;have NB0_131:=n6_;have NB131_0:=n7_;clear n0_ n1_ n2_ n3_ n4_ n5_ n6_ n7_;clear hb hbox hg)|((with_reducible refine gate_callee (f:=78) rfl ?_);refine goesL_ (some 5) rfl rfl Tryz.func78 (by kernel_rfl) rfl #[.pointer (some ⟨g,0,none⟩)] rfl (by(try simp only[List.map_toArray,List.map_cons,List.map_nil])<;>rfl) ?_;(with_reducible refine(spec_l71Val.calls k g s0_0 s0_1 t132 t133 t134 w0 _ ?side1 ?side2 A2.out).mono ?_);(case side1=>repeat(with_reducible first|exact HI0.out|apply sA|apply sN|apply sD|apply sS|refine IsS86.far ?_ NB0_131.out _));(case side2=>repeat(with_reducible first|exact HB.out|apply bA|apply bN|apply b1|refine below_set ?_ (IsS86.ge HI0.out)|refine below_set ?_ GE131.out));rintro e w6 ⟨rfl,hi,hb,hk⟩;refine⟨_,rfl,?_⟩;replace BK131:=aS (KeepBut.blk hk (g':=gb131) (o:=.cells #[.int .i64 0,.int .i64 0] 37 (0,0)) (by exact blkU BK131.out) NB131_0.out (by simp));replace HK:=aS (KeepBut.trans (by repeat(with_reducible first|exact HK.out|apply pS|apply pN|apply pD|apply pA|refine keep_far ?_ GW131.out _)) hk (.inl rfl));replace HB:=aS (hb);replace HI0:=aS (hi);(try clear hb);(try clear hk);(try clear hi))|((with_reducible refine gate_dst (N:=3) rfl ?_);refine box_event ?hg (N:=3) ?hd (cs:= #[.int .i64 0,.int .i64 0]) (t:=37) ?hr ?_;(case hd=>rfl);(case hg=>rfl);(case hr=>go_simp<;>rfl);intro gb135 hg w7 hbox hb;have n0_:=aS (IsS86.below (by repeat(with_reducible first|exact HI0.out|apply sA|apply sN|apply sD|apply sS|refine IsS86.far ?_ NB0_131.out _)) hb);have n1_:=aS (blk_below (g:=gb131) (o:=.cells #[.int .i64 0,.int .i64 0] 37 (0,0)) (by exact blkU BK131.out) hb);have n2_:=aS (KeepBut.trans (by repeat(with_reducible first|exact HK.out|apply pS|apply pN|apply pD|apply pA|refine keep_far ?_ GW131.out _)) (KeepBut.of_below hb g none) (.inl rfl));have n3_:=aS (below_step (by repeat(with_reducible first|exact HB.out|apply bA|apply bN|apply b1|refine below_set ?_ (IsS86.ge HI0.out)|refine below_set ?_ GE131.out)) hb);have n4_:=aS (hbox);have n5_:=aS ((by rw[hg];exact(keep_size (w:=w) (g:=g) (row:=none) (by repeat(with_reducible first|exact HK.out|apply pS|apply pN|apply pD|apply pA|refine keep_far ?_ GW131.out _))):w.heap.size≤gb135));have n6_:=aS ((Nat.le_trans HW0.out (by rw[hg];exact(keep_size (w:=w) (g:=g) (row:=none) (by repeat(with_reducible first|exact HK.out|apply pS|apply pN|apply pD|apply pA|refine keep_far ?_ GW131.out _))):w.heap.size≤gb135):w0.heap.size≤gb135));have n7_:=aS ((by rw[hg];exact Nat.ne_of_lt (blk_lt (g:=gb131) (o:=.cells #[.int .i64 0,.int .i64 0] 37 (0,0)) (by exact blkU BK131.out)):gb131≠gb135));have n8_:=aS ((by rw[hg];exact Nat.ne_of_gt (blk_lt (g:=gb131) (o:=.cells #[.int .i64 0,.int .i64 0] 37 (0,0)) (by exact blkU BK131.out)):gb135≠gb131));have n9_:=aS ((by rw[hg];exact Nat.ne_of_lt (IsS86.lt (show IsS86 w0 _ g s0_0 t134 from by repeat(with_reducible first|exact HI0.out|apply sA|apply sN|apply sD|apply sS|refine IsS86.far ?_ NB0_131.out _))):g≠gb135));have n10_:=aS ((by rw[hg];exact Nat.ne_of_gt (IsS86.lt (show IsS86 w0 _ g s0_0 t134 from by repeat(with_reducible first|exact HI0.out|apply sA|apply sN|apply sD|apply sS|refine IsS86.far ?_ NB0_131.out _))):gb135≠g));clear HI0;clear BK131;clear HK;clear HB;have HI0:=n0_;have BK131:=n1_;have HK:=n2_;have HB:=n3_;have BK135:=n4_;have GW135:=n5_;have GE135:=n6_;have NB131_135:=n7_;have NB135_131:=n8_;have NB0_135:=n9_;have NB135_0:=n10_;clear n0_ n1_ n2_ n3_ n4_ n5_ n6_ n7_ n8_ n9_ n10_;clear hb hbox hg;have hnb8:=NB135_131.out;have hnc8:=NB131_135.out;have hnb9:=NB135_0.out;have hnc9:=NB0_135.out;have hcz10_0:w7.cell? ⟨gb135,0,none⟩=some (.int .i64 0):=(blk_cell BK135.out 0).trans rfl;have hcz10_1:w7.cell? ⟨gb135,1,none⟩=some (.int .i64 0):=(blk_cell BK135.out 1).trans rfl;have hfz10_0:=blk_frozen BK135.out 0;have hfz10_1:=blk_frozen BK135.out 1)|((with_reducible refine gate_callee (f:=67) rfl ?_);refine goesL_ (some 7) rfl rfl Tryz.func67 (by kernel_rfl) rfl #[.agg #[.int .i64 t132,.int .i64 t133]] rfl (by(try simp only[List.map_toArray,List.map_cons,List.map_nil])<;>rfl) ?_;(with_reducible refine(spec_ValOk.calls t132 t133 true _ A3.out).mono ?_);rintro e w11 ⟨rfl,hb⟩;refine⟨_,rfl,?_⟩;have n0_:=aS (IsS86.below (show IsS86 w0 ((w7.setCell ⟨gb135,0,none⟩ (.int .i64 t132)).setCell ⟨gb135,1,none⟩ (.int .i64 t133)) g s0_0 t134 from by repeat(with_reducible first|exact HI0.out|apply sA|apply sN|apply sD|apply sS|refine IsS86.far ?_ NB0_131.out _|refine IsS86.far ?_ NB0_135.out _)) hb);have n1_:=aS (blk_below (g:=gb131) (o:=.cells #[.int .i64 0,.int .i64 0] 37 (0,0)) (by refine kU ?_;refine blk_far ?_ NB131_135.out _;refine kU ?_;refine blk_far ?_ NB131_135.out _;exact blkU BK131.out) hb);have n2_:=aS (blk_below (g:=gb135) (o:=.cells #[.int .i64 t132,.int .i64 t133] 37 (0,0)) (by refine kU ?_;refine blk_put (cs:= #[.int .i64 t132,.int .i64 0]) ?_ 1 _ rfl;refine kU ?_;refine blk_put (cs:= #[.int .i64 0,.int .i64 0]) ?_ 0 _ rfl;exact blkU BK135.out) hb);have n3_:=aS (KeepBut.trans (by repeat(with_reducible first|exact HK.out|apply pS|apply pN|apply pD|apply pA|refine keep_far ?_ GW131.out _|refine keep_far ?_ GW135.out _)) (KeepBut.of_below hb g none) (.inl rfl));have n4_:=aS (below_step (by repeat(with_reducible first|exact HB.out|apply bA|apply bN|apply b1|refine below_set ?_ (IsS86.ge HI0.out)|refine below_set ?_ GE131.out|refine below_set ?_ GE135.out)) hb);clear HI0;clear BK131;clear BK135;clear HK;clear HB;have HI0:=n0_;have BK131:=n1_;have BK135:=n2_;have HK:=n3_;have HB:=n4_;clear n0_ n1_ n2_ n3_ n4_;(try clear hb);have hcz12_0:w11.cell? ⟨gb135,0,none⟩=some (.int .i64 t132):=(blk_cell BK135.out 0).trans rfl;have hcz12_1:w11.cell? ⟨gb135,1,none⟩=some (.int .i64 t133):=(blk_cell BK135.out 1).trans rfl;have hfz12_0:=blk_frozen BK135.out 0;have hfz12_1:=blk_frozen BK135.out 1;have hnb13:=NB131_0.out;have hnc13:=NB0_131.out;have hcz14_0:w11.cell? ⟨gb131,0,none⟩=some (.int .i64 0):=(blk_cell BK131.out 0).trans rfl;have hcz14_1:w11.cell? ⟨gb131,1,none⟩=some (.int .i64 0):=(blk_cell BK131.out 1).trans rfl;have hfz14_0:=blk_frozen BK131.out 0;have hfz14_1:=blk_frozen BK131.out 1))
  refine bodyPost_ret (results_cell_row rfl _ _ gb131 37 #[.int .i64 t132,.int .i64 t133] (0,0) _ rfl (by refine kU ?_;refine blk_put (cs:= #[.int .i64 t132,.int .i64 0]) ?_ 1 _ rfl;refine kU ?_;refine blk_put (cs:= #[.int .i64 0,.int .i64 0]) ?_ 0 _ rfl;exact blkU BK131.out) Tryz.underlying37 rfl (by kernel_rfl)) rfl ?_
  exact⟨by first|rfl|(simp[*]<;>rfl),by repeat(with_reducible first|exact HI0.out|apply sA|apply sN|apply sD|apply sS|refine IsS86.far ?_ NB0_131.out _|refine IsS86.far ?_ NB0_135.out _),by repeat(with_reducible first|exact HB.out|apply bA|apply bN|apply b1|refine below_set ?_ (IsS86.ge HI0.out)|refine below_set ?_ GE131.out|refine below_set ?_ GE135.out),by repeat(with_reducible first|exact HK.out|apply pS|apply pN|apply pD|apply pA|refine keep_far ?_ GW131.out _|refine keep_far ?_ GW135.out _)⟩
 ·replace c4:=Bool.eq_false_iff.mpr c4
  subst c4;have H1:(some (1,1,t134))=some (r1,r2,r3):=by rw[if_neg (show¬(false=true) by decide)]at H;exact H
  clear H;have H:=H1;clear H1;simp only[Option.some.injEq,Prod.mk.injEq]at H
  obtain⟨rfl,rfl,rfl⟩:=H;go_enter Tryz.func94,Tryz.ntmps94
  go_wp2_with (first|((with_reducible refine gate_dst (N:=2) rfl ?_);refine box_event ?hg (N:=2) ?hd (cs:= #[.int .i64 0,.int .i64 0]) (t:=37) ?hr ?_;(case hd=>rfl);(case hg=>rfl);(case hr=>go_simp<;>rfl);intro gb131 hg w15 hbox hb;have n0_:=aS (IsS86.below (by repeat(with_reducible first|exact HI0.out|apply sA|apply sN|apply sD|apply sS)) hb);have n1_:=aS (KeepBut.trans (by repeat(with_reducible first|exact HK.out|apply pS|apply pN|apply pD|apply pA)) (KeepBut.of_below hb g none) (.inl rfl));have n2_:=aS (below_step (by repeat(with_reducible first|exact HB.out|apply bA|apply bN|apply b1|refine below_set ?_ (IsS86.ge HI0.out))) hb);have n3_:=aS (hbox);have n4_:=aS ((by rw[hg];exact(keep_size (w:=w) (g:=g) (row:=none) (by repeat(with_reducible first|exact HK.out|apply pS|apply pN|apply pD|apply pA))):w.heap.size≤gb131));have n5_:=aS ((Nat.le_trans HW0.out (by rw[hg];exact(keep_size (w:=w) (g:=g) (row:=none) (by repeat(with_reducible first|exact HK.out|apply pS|apply pN|apply pD|apply pA))):w.heap.size≤gb131):w0.heap.size≤gb131));have n6_:=aS ((by rw[hg];exact Nat.ne_of_lt (IsS86.lt (show IsS86 w0 _ g s0_0 s0_1 from by repeat(with_reducible first|exact HI0.out|apply sA|apply sN|apply sD|apply sS))):g≠gb131));have n7_:=aS ((by rw[hg];exact Nat.ne_of_gt (IsS86.lt (show IsS86 w0 _ g s0_0 s0_1 from by repeat(with_reducible first|exact HI0.out|apply sA|apply sN|apply sD|apply sS))):gb131≠g));clear HI0;clear HK;clear HB;have HI0:=n0_;have HK:=n1_;have HB:=n2_;have BK131:=n3_;have GW131:=n4_;have GE131:=n5_;have NB0_131:=n6_;have NB131_0:=n7_;clear n0_ n1_ n2_ n3_ n4_ n5_ n6_ n7_;clear hb hbox hg)|((with_reducible refine gate_callee (f:=78) rfl ?_);refine goesL_ (some 5) rfl rfl Tryz.func78 (by kernel_rfl) rfl #[.pointer (some ⟨g,0,none⟩)] rfl (by(try simp only[List.map_toArray,List.map_cons,List.map_nil])<;>rfl) ?_;(with_reducible refine(spec_l71Val.calls k g s0_0 s0_1 t132 t133 t134 w0 _ ?side1 ?side2 A2.out).mono ?_);(case side1=>repeat(with_reducible first|exact HI0.out|apply sA|apply sN|apply sD|apply sS|refine IsS86.far ?_ NB0_131.out _));(case side2=>repeat(with_reducible first|exact HB.out|apply bA|apply bN|apply b1|refine below_set ?_ (IsS86.ge HI0.out)|refine below_set ?_ GE131.out));rintro e w16 ⟨rfl,hi,hb,hk⟩;refine⟨_,rfl,?_⟩;replace BK131:=aS (KeepBut.blk hk (g':=gb131) (o:=.cells #[.int .i64 0,.int .i64 0] 37 (0,0)) (by exact blkU BK131.out) NB131_0.out (by simp));replace HK:=aS (KeepBut.trans (by repeat(with_reducible first|exact HK.out|apply pS|apply pN|apply pD|apply pA|refine keep_far ?_ GW131.out _)) hk (.inl rfl));replace HB:=aS (hb);replace HI0:=aS (hi);(try clear hb);(try clear hk);(try clear hi))|((with_reducible refine gate_dst (N:=3) rfl ?_);refine box_event ?hg (N:=3) ?hd (cs:= #[.int .i64 0,.int .i64 0]) (t:=37) ?hr ?_;(case hd=>rfl);(case hg=>rfl);(case hr=>go_simp<;>rfl);intro gb135 hg w17 hbox hb;have n0_:=aS (IsS86.below (by repeat(with_reducible first|exact HI0.out|apply sA|apply sN|apply sD|apply sS|refine IsS86.far ?_ NB0_131.out _)) hb);have n1_:=aS (blk_below (g:=gb131) (o:=.cells #[.int .i64 0,.int .i64 0] 37 (0,0)) (by exact blkU BK131.out) hb);have n2_:=aS (KeepBut.trans (by repeat(with_reducible first|exact HK.out|apply pS|apply pN|apply pD|apply pA|refine keep_far ?_ GW131.out _)) (KeepBut.of_below hb g none) (.inl rfl));have n3_:=aS (below_step (by repeat(with_reducible first|exact HB.out|apply bA|apply bN|apply b1|refine below_set ?_ (IsS86.ge HI0.out)|refine below_set ?_ GE131.out)) hb);have n4_:=aS (hbox);have n5_:=aS ((by rw[hg];exact(keep_size (w:=w) (g:=g) (row:=none) (by repeat(with_reducible first|exact HK.out|apply pS|apply pN|apply pD|apply pA|refine keep_far ?_ GW131.out _))):w.heap.size≤gb135));have n6_:=aS ((Nat.le_trans HW0.out (by rw[hg];exact(keep_size (w:=w) (g:=g) (row:=none) (by repeat(with_reducible first|exact HK.out|apply pS|apply pN|apply pD|apply pA|refine keep_far ?_ GW131.out _))):w.heap.size≤gb135):w0.heap.size≤gb135));have n7_:=aS ((by rw[hg];exact Nat.ne_of_lt (blk_lt (g:=gb131) (o:=.cells #[.int .i64 0,.int .i64 0] 37 (0,0)) (by exact blkU BK131.out)):gb131≠gb135));have n8_:=aS ((by rw[hg];exact Nat.ne_of_gt (blk_lt (g:=gb131) (o:=.cells #[.int .i64 0,.int .i64 0] 37 (0,0)) (by exact blkU BK131.out)):gb135≠gb131));have n9_:=aS ((by rw[hg];exact Nat.ne_of_lt (IsS86.lt (show IsS86 w0 _ g s0_0 t134 from by repeat(with_reducible first|exact HI0.out|apply sA|apply sN|apply sD|apply sS|refine IsS86.far ?_ NB0_131.out _))):g≠gb135));have n10_:=aS ((by rw[hg];exact Nat.ne_of_gt (IsS86.lt (show IsS86 w0 _ g s0_0 t134 from by repeat(with_reducible first|exact HI0.out|apply sA|apply sN|apply sD|apply sS|refine IsS86.far ?_ NB0_131.out _))):gb135≠g));clear HI0;clear BK131;clear HK;clear HB;have HI0:=n0_;have BK131:=n1_;have HK:=n2_;have HB:=n3_;have BK135:=n4_;have GW135:=n5_;have GE135:=n6_;have NB131_135:=n7_;have NB135_131:=n8_;have NB0_135:=n9_;have NB135_0:=n10_;clear n0_ n1_ n2_ n3_ n4_ n5_ n6_ n7_ n8_ n9_ n10_;clear hb hbox hg;have hnb18:=NB135_131.out;have hnc18:=NB131_135.out;have hnb19:=NB135_0.out;have hnc19:=NB0_135.out;have hcz20_0:w17.cell? ⟨gb135,0,none⟩=some (.int .i64 0):=(blk_cell BK135.out 0).trans rfl;have hcz20_1:w17.cell? ⟨gb135,1,none⟩=some (.int .i64 0):=(blk_cell BK135.out 1).trans rfl;have hfz20_0:=blk_frozen BK135.out 0;have hfz20_1:=blk_frozen BK135.out 1)|((with_reducible refine gate_callee (f:=67) rfl ?_);refine goesL_ (some 7) rfl rfl Tryz.func67 (by kernel_rfl) rfl #[.agg #[.int .i64 t132,.int .i64 t133]] rfl (by(try simp only[List.map_toArray,List.map_cons,List.map_nil])<;>rfl) ?_;(with_reducible refine(spec_ValOk.calls t132 t133 false _ A3.out).mono ?_);rintro e w21 ⟨rfl,hb⟩;refine⟨_,rfl,?_⟩;have n0_:=aS (IsS86.below (show IsS86 w0 ((w17.setCell ⟨gb135,0,none⟩ (.int .i64 t132)).setCell ⟨gb135,1,none⟩ (.int .i64 t133)) g s0_0 t134 from by repeat(with_reducible first|exact HI0.out|apply sA|apply sN|apply sD|apply sS|refine IsS86.far ?_ NB0_131.out _|refine IsS86.far ?_ NB0_135.out _)) hb);have n1_:=aS (blk_below (g:=gb131) (o:=.cells #[.int .i64 0,.int .i64 0] 37 (0,0)) (by refine kU ?_;refine blk_far ?_ NB131_135.out _;refine kU ?_;refine blk_far ?_ NB131_135.out _;exact blkU BK131.out) hb);have n2_:=aS (blk_below (g:=gb135) (o:=.cells #[.int .i64 t132,.int .i64 t133] 37 (0,0)) (by refine kU ?_;refine blk_put (cs:= #[.int .i64 t132,.int .i64 0]) ?_ 1 _ rfl;refine kU ?_;refine blk_put (cs:= #[.int .i64 0,.int .i64 0]) ?_ 0 _ rfl;exact blkU BK135.out) hb);have n3_:=aS (KeepBut.trans (by repeat(with_reducible first|exact HK.out|apply pS|apply pN|apply pD|apply pA|refine keep_far ?_ GW131.out _|refine keep_far ?_ GW135.out _)) (KeepBut.of_below hb g none) (.inl rfl));have n4_:=aS (below_step (by repeat(with_reducible first|exact HB.out|apply bA|apply bN|apply b1|refine below_set ?_ (IsS86.ge HI0.out)|refine below_set ?_ GE131.out|refine below_set ?_ GE135.out)) hb);clear HI0;clear BK131;clear BK135;clear HK;clear HB;have HI0:=n0_;have BK131:=n1_;have BK135:=n2_;have HK:=n3_;have HB:=n4_;clear n0_ n1_ n2_ n3_ n4_;(try clear hb);have hnb22:=NB131_0.out;have hnc22:=NB0_131.out;have hcz23_0:w21.cell? ⟨gb131,0,none⟩=some (.int .i64 0):=(blk_cell BK131.out 0).trans rfl;have hcz23_1:w21.cell? ⟨gb131,1,none⟩=some (.int .i64 0):=(blk_cell BK131.out 1).trans rfl;have hfz23_0:=blk_frozen BK131.out 0;have hfz23_1:=blk_frozen BK131.out 1))
  refine bodyPost_ret (results_cell_row rfl _ _ gb131 37 #[.int .i64 1,.int .i64 1] (0,0) _ rfl (by refine kU ?_;refine blk_put (cs:= #[.int .i64 1,.int .i64 0]) ?_ 1 _ rfl;refine kU ?_;refine blk_put (cs:= #[.int .i64 0,.int .i64 0]) ?_ 0 _ rfl;exact blkU BK131.out) Tryz.underlying37 rfl (by kernel_rfl)) rfl ?_
  exact⟨by first|rfl|(simp[*]<;>rfl),by repeat(with_reducible first|exact HI0.out|apply sA|apply sN|apply sD|apply sS|refine IsS86.far ?_ NB0_131.out _|refine IsS86.far ?_ NB0_135.out _),by repeat(with_reducible first|exact HB.out|apply bA|apply bN|apply b1|refine below_set ?_ (IsS86.ge HI0.out)|refine below_set ?_ GE131.out|refine below_set ?_ GE135.out),by repeat(with_reducible first|exact HK.out|apply pS|apply pN|apply pD|apply pA|refine keep_far ?_ GW131.out _|refine keep_far ?_ GW135.out _)⟩
end Go.Proofs.YtmklpbmlgjkbiaaGreatDoor.PD
end
section
namespace Go.Proofs.YtmklpbmlgjkbiaaGreatDoor.PD
open Go.RowKit Go.Proofs.YtmklpbmlgjkbiaaGreatDoorW.PrintWords Go.Proofs.YtmklpbmlgjkbiaaGreatDoorW.PrintLast Go.Proofs.YtmklpbmlgjkbiaaGreatDoorW.PrintMore Go.Proofs.YtmklpbmlgjkbiaaGreatDoor.PS Go.Proofs.YtmklpbmlgjkbiaaGreatDoor.PC
attribute [local go_sem] max2_int min2_int max_two min_two max_three min_three max_four min_four   -- for this text's walks alone
mutual
def spec_l71Op.j0:Nat→Int→List Bool→List Int→Int→Int→Int→Int→Int→Int→Int→Option (Int×Int×Int×Int×Int×Int×Int)
 |0,_,_,_,_,_,_,_,_,_,_=>none
 |k+1,x1,x6,x1000,x1001,x141000,x141001,x141002,x141003,x141004,x141005=>if 1<(x6.length:Int)then(if rdOf false x6 1=true then((spec_l6Rd_pick.f k x1000 x1001 4).bind fun bt148=>(spec_l71Op.j1 k x1 x6 x1000 bt148.2 x141000 x141001 bt148.1 x141003 x141004 x141005))else(spec_l71Op.j1 k x1 x6 x1000 x1001 x141000 x141001 x141002 x141003 x141004 x141005))else(none)
def spec_l71Op.j1:Nat→Int→List Bool→List Int→Int→Int→Int→Int→Int→Int→Int→Option (Int×Int×Int×Int×Int×Int×Int)
 |0,_,_,_,_,_,_,_,_,_,_=>none
 |k+1,x1,x6,x1000,x1001,x141000,x141001,x141002,x141003,x141004,x141005=>if 2<(x6.length:Int)then(if rdOf false x6 2=true then((spec_l6Rd_pick.f k x1000 x1001 x1).bind fun bt151=>(spec_l71Op.j2 k x6 x1000 bt151.2 x141000 x141001 x141002 bt151.1 x141004 x141005))else(spec_l71Op.j2 k x6 x1000 x1001 x141000 x141001 x141002 x141003 x141004 x141005))else(none)
def spec_l71Op.j2:Nat→List Bool→List Int→Int→Int→Int→Int→Int→Int→Int→Option (Int×Int×Int×Int×Int×Int×Int)
 |0,_,_,_,_,_,_,_,_,_=>none
 |k+1,x6,x1000,x1001,x141000,x141001,x141002,x141003,x141004,x141005=>if 3<(x6.length:Int)then(if rdOf false x6 3=true then((spec_l71Good.f k x1000 x1001).bind fun bt154=>(spec_l71Op.j3 k x1000 bt154.2.2 x141000 x141001 x141002 x141003 bt154.1 bt154.2.1))else(spec_l71Op.j3 k x1000 x1001 x141000 x141001 x141002 x141003 x141004 x141005))else(none)
def spec_l71Op.j3:Nat→List Int→Int→Int→Int→Int→Int→Int→Int→Option (Int×Int×Int×Int×Int×Int×Int)
 |0,_,_,_,_,_,_,_,_=>none
 |k+1,x1000,x1001,x141000,x141001,x141002,x141003,x141004,x141005=>if x141000=8 then((spec_l6Rd_pick.f k x1000 x1001 3).bind fun bt157=>(some (x141000,x141001,x141002,x141003,1,wrap64 (1+bt157.1),bt157.2)))else(if x141000=13 then((spec_l6Rd_pick.f k x1000 x1001 2).bind fun bt159=>(some (x141000,x141001,x141002,x141003,1,bt159.1,bt159.2)))else(some (x141000,x141001,x141002,x141003,x141004,x141005,x1001)))
end
def spec_l71Op.f (k:Nat) (s0_0:List Int) (s0_1:Int) (a1:Int):Option (Int×Int×Int×Int×Int×Int×Int):=(spec_l6Rd_pick.f k s0_0 s0_1 14).bind fun bt138=>((spec_l2Form.f k (wrap64 (1+bt138.1))).bind fun t141=>(if 0<(t141.length:Int)then(if rdOf false t141 0=true then((spec_l6Rd_pick.f k s0_0 bt138.2 4).bind fun bt145=>(spec_l71Op.j0 k a1 t141 s0_0 bt145.2 (wrap64 (1+bt138.1)) bt145.1 0 0 0 0))else(spec_l71Op.j0 k a1 t141 s0_0 bt138.2 (wrap64 (1+bt138.1)) 0 0 0 0 0))else(none)))
theorem spec_l71Op.mono_l: ∀k,(∀y0 y1 y2 y3 y4 y5 y6 y7 y8 y9,LeO (spec_l71Op.j0 k y0 y1 y2 y3 y4 y5 y6 y7 y8 y9) (spec_l71Op.j0 (k+1) y0 y1 y2 y3 y4 y5 y6 y7 y8 y9))∧(∀y0 y1 y2 y3 y4 y5 y6 y7 y8 y9,LeO (spec_l71Op.j1 k y0 y1 y2 y3 y4 y5 y6 y7 y8 y9) (spec_l71Op.j1 (k+1) y0 y1 y2 y3 y4 y5 y6 y7 y8 y9))∧(∀y0 y1 y2 y3 y4 y5 y6 y7 y8,LeO (spec_l71Op.j2 k y0 y1 y2 y3 y4 y5 y6 y7 y8) (spec_l71Op.j2 (k+1) y0 y1 y2 y3 y4 y5 y6 y7 y8))∧(∀y0 y1 y2 y3 y4 y5 y6 y7,LeO (spec_l71Op.j3 k y0 y1 y2 y3 y4 y5 y6 y7) (spec_l71Op.j3 (k+1) y0 y1 y2 y3 y4 y5 y6 y7))
 |0=>⟨fun _ _ _ _ _ _ _ _ _ _ r h=>by simp[spec_l71Op.j0]at h,fun _ _ _ _ _ _ _ _ _ _ r h=>by simp[spec_l71Op.j1]at h,fun _ _ _ _ _ _ _ _ _ r h=>by simp[spec_l71Op.j2]at h,fun _ _ _ _ _ _ _ _ r h=>by simp[spec_l71Op.j3]at h⟩
 |k+1=>by
  obtain⟨ih0,ih1,ih2,ih3⟩:=spec_l71Op.mono_l k;refine⟨?_,?_,?_,?_⟩
  ·intro y0 y1 y2 y3 y4 y5 y6 y7 y8 y9
   unfold spec_l71Op.j0;repeat' first
   |(with_reducible exact ih0 _ _ _ _ _ _ _ _ _ _)
   |(with_reducible exact ih1 _ _ _ _ _ _ _ _ _ _)
   |(with_reducible exact ih2 _ _ _ _ _ _ _ _ _)
   |(with_reducible exact ih3 _ _ _ _ _ _ _ _)
   |(with_reducible exact spec_l2Form.mono _ _)
   |(with_reducible exact spec_l6Rd_pick.mono _ _ _ _)
   |(with_reducible exact spec_l71Good.mono _ _ _)
   |(with_reducible exact LeO.refl _)
   |(with_reducible exact LeO.none _)
   |(with_reducible refine LeO.ite ?_ ?_)
   |(with_reducible refine LeO.bind ?_ (fun _=> ?_))
   |exact ih0 _ _ _ _ _ _ _ _ _ _
   |exact ih1 _ _ _ _ _ _ _ _ _ _
   |exact ih2 _ _ _ _ _ _ _ _ _
   |exact ih3 _ _ _ _ _ _ _ _
   |exact spec_l2Form.mono _ _
   |exact spec_l6Rd_pick.mono _ _ _ _
   |exact spec_l71Good.mono _ _ _
   |exact LeO.none _
   |refine LeO.ite ?_ ?_
   |refine LeO.bind ?_ (fun _=> ?_)
  ·intro y0 y1 y2 y3 y4 y5 y6 y7 y8 y9
   unfold spec_l71Op.j1;repeat' first
   |(with_reducible exact ih0 _ _ _ _ _ _ _ _ _ _)
   |(with_reducible exact ih1 _ _ _ _ _ _ _ _ _ _)
   |(with_reducible exact ih2 _ _ _ _ _ _ _ _ _)
   |(with_reducible exact ih3 _ _ _ _ _ _ _ _)
   |(with_reducible exact spec_l2Form.mono _ _)
   |(with_reducible exact spec_l6Rd_pick.mono _ _ _ _)
   |(with_reducible exact spec_l71Good.mono _ _ _)
   |(with_reducible exact LeO.refl _)
   |(with_reducible exact LeO.none _)
   |(with_reducible refine LeO.ite ?_ ?_)
   |(with_reducible refine LeO.bind ?_ (fun _=> ?_))
   |exact ih0 _ _ _ _ _ _ _ _ _ _
   |exact ih1 _ _ _ _ _ _ _ _ _ _
   |exact ih2 _ _ _ _ _ _ _ _ _
   |exact ih3 _ _ _ _ _ _ _ _
   |exact spec_l2Form.mono _ _
   |exact spec_l6Rd_pick.mono _ _ _ _
   |exact spec_l71Good.mono _ _ _
   |exact LeO.none _
   |refine LeO.ite ?_ ?_
   |refine LeO.bind ?_ (fun _=> ?_)
  ·intro y0 y1 y2 y3 y4 y5 y6 y7 y8
   unfold spec_l71Op.j2;repeat' first
   |(with_reducible exact ih0 _ _ _ _ _ _ _ _ _ _)
   |(with_reducible exact ih1 _ _ _ _ _ _ _ _ _ _)
   |(with_reducible exact ih2 _ _ _ _ _ _ _ _ _)
   |(with_reducible exact ih3 _ _ _ _ _ _ _ _)
   |(with_reducible exact spec_l2Form.mono _ _)
   |(with_reducible exact spec_l6Rd_pick.mono _ _ _ _)
   |(with_reducible exact spec_l71Good.mono _ _ _)
   |(with_reducible exact LeO.refl _)
   |(with_reducible exact LeO.none _)
   |(with_reducible refine LeO.ite ?_ ?_)
   |(with_reducible refine LeO.bind ?_ (fun _=> ?_))
   |exact ih0 _ _ _ _ _ _ _ _ _ _
   |exact ih1 _ _ _ _ _ _ _ _ _ _
   |exact ih2 _ _ _ _ _ _ _ _ _
   |exact ih3 _ _ _ _ _ _ _ _
   |exact spec_l2Form.mono _ _
   |exact spec_l6Rd_pick.mono _ _ _ _
   |exact spec_l71Good.mono _ _ _
   |exact LeO.none _
   |refine LeO.ite ?_ ?_
   |refine LeO.bind ?_ (fun _=> ?_)
  ·intro y0 y1 y2 y3 y4 y5 y6 y7
   unfold spec_l71Op.j3;repeat' first
   |(with_reducible exact ih0 _ _ _ _ _ _ _ _ _ _)
   |(with_reducible exact ih1 _ _ _ _ _ _ _ _ _ _)
   |(with_reducible exact ih2 _ _ _ _ _ _ _ _ _)
   |(with_reducible exact ih3 _ _ _ _ _ _ _ _)
   |(with_reducible exact spec_l2Form.mono _ _)
   |(with_reducible exact spec_l6Rd_pick.mono _ _ _ _)
   |(with_reducible exact spec_l71Good.mono _ _ _)
   |(with_reducible exact LeO.refl _)
   |(with_reducible exact LeO.none _)
   |(with_reducible refine LeO.ite ?_ ?_)
   |(with_reducible refine LeO.bind ?_ (fun _=> ?_))
   |exact ih0 _ _ _ _ _ _ _ _ _ _
   |exact ih1 _ _ _ _ _ _ _ _ _ _
   |exact ih2 _ _ _ _ _ _ _ _ _
   |exact ih3 _ _ _ _ _ _ _ _
   |exact spec_l2Form.mono _ _
   |exact spec_l6Rd_pick.mono _ _ _ _
   |exact spec_l71Good.mono _ _ _
   |exact LeO.none _
   |refine LeO.ite ?_ ?_
   |refine LeO.bind ?_ (fun _=> ?_)
theorem spec_l71Op.mono: ∀a0 a1 a2 k,LeO (spec_l71Op.f k a0 a1 a2) (spec_l71Op.f (k+1) a0 a1 a2):=by
 intro a0 a1 a2 k;obtain⟨ih0,ih1,ih2,ih3⟩:=spec_l71Op.mono_l k;unfold spec_l71Op.f
 repeat' first
   |(with_reducible exact ih0 _ _ _ _ _ _ _ _ _ _)
   |(with_reducible exact ih1 _ _ _ _ _ _ _ _ _ _)
   |(with_reducible exact ih2 _ _ _ _ _ _ _ _ _)
   |(with_reducible exact ih3 _ _ _ _ _ _ _ _)
   |(with_reducible exact spec_l2Form.mono _ _)
   |(with_reducible exact spec_l6Rd_pick.mono _ _ _ _)
   |(with_reducible exact spec_l71Good.mono _ _ _)
   |(with_reducible exact LeO.refl _)
   |(with_reducible exact LeO.none _)
   |(with_reducible refine LeO.ite ?_ ?_)
   |(with_reducible refine LeO.bind ?_ (fun _=> ?_))
   |exact ih0 _ _ _ _ _ _ _ _ _ _
   |exact ih1 _ _ _ _ _ _ _ _ _ _
   |exact ih2 _ _ _ _ _ _ _ _ _
   |exact ih3 _ _ _ _ _ _ _ _
   |exact spec_l2Form.mono _ _
   |exact spec_l6Rd_pick.mono _ _ _ _
   |exact spec_l71Good.mono _ _ _
   |exact LeO.none _
   |refine LeO.ite ?_ ?_
   |refine LeO.bind ?_ (fun _=> ?_)
theorem spec_l71Op.calls (k:Nat) (g:Nat) (s0_0:List Int) (s0_1:Int) (a1:Int) (r1:Int) (r2:Int) (r3:Int) (r4:Int) (r5:Int) (r6:Int) (r7:Int) (w0 w:World) (hI:IsS86 w0 w g s0_0 s0_1) (hB:Below w0.heap.size w0 w) (h:spec_l71Op.f k s0_0 s0_1 a1=some (r1,r2,r3,r4,r5,r6,r7)):
  Calls Tryz.prog 77 #[.pointer (some ⟨g,0,none⟩),.int .i64 a1] w fun e w'=>e= .returned (.agg #[.int .i64 r1,.int .i64 r2,.int .i64 r3,.int .i64 r4,.int .i64 r5,.int .i64 r6])∧IsS86 w0 w' g s0_0 r7∧Below w0.heap.size w0 w'∧KeepBut w w' g none:=by
 have hu39:=Tryz.underlying39;have hu37:=Tryz.underlying37;have HI0:=aS hI;have HK:=aS (KeepBut.refl w g none);have HL:=aS hB.size;clear hI;have HW0:=aS hB.size;have HB:=aS hB;clear hB;have H:((spec_l6Rd_pick.f k s0_0 s0_1 14).bind fun bt138=>((spec_l2Form.f k (wrap64 (1+bt138.1))).bind fun t141=>(if 0<(t141.length:Int)then(if rdOf false t141 0=true then((spec_l6Rd_pick.f k s0_0 bt138.2 4).bind fun bt145=>(spec_l71Op.j0 k a1 t141 s0_0 bt145.2 (wrap64 (1+bt138.1)) bt145.1 0 0 0 0))else(spec_l71Op.j0 k a1 t141 s0_0 bt138.2 (wrap64 (1+bt138.1)) 0 0 0 0 0))else(none))))=some (r1,r2,r3,r4,r5,r6,r7):=h
 clear h;replace H:=Option.bind_eq_some_iff.mp H;obtain⟨⟨t138,t139⟩,A30,H⟩:=H;replace H:((spec_l2Form.f k (wrap64 (1+t138))).bind fun t141=>(if 0<(t141.length:Int)then(if rdOf false t141 0=true then((spec_l6Rd_pick.f k s0_0 t139 4).bind fun bt145=>(spec_l71Op.j0 k a1 t141 s0_0 bt145.2 (wrap64 (1+t138)) bt145.1 0 0 0 0))else(spec_l71Op.j0 k a1 t141 s0_0 t139 (wrap64 (1+t138)) 0 0 0 0 0))else(none)))=some (r1,r2,r3,r4,r5,r6,r7):=H
 have A3:=aS A30;clear A30;replace H:=Option.bind_eq_some_iff.mp H;obtain⟨t141,A40,H⟩:=H;replace H:(if 0<(t141.length:Int)then(if rdOf false t141 0=true then((spec_l6Rd_pick.f k s0_0 t139 4).bind fun bt145=>(spec_l71Op.j0 k a1 t141 s0_0 bt145.2 (wrap64 (1+t138)) bt145.1 0 0 0 0))else(spec_l71Op.j0 k a1 t141 s0_0 t139 (wrap64 (1+t138)) 0 0 0 0 0))else(none))=some (r1,r2,r3,r4,r5,r6,r7):=H
 have A4:=aS A40;clear A40;by_cases c5:0<(t141.length:Int)
 ·rw[if_pos c5]at H
  have c5b0:decide (0<(t141.length:Int))=true:=decide_eq_true c5;have c5b1:decide (0<t141.length)=true:=decide_eq_true (by omega)
  clear c5;have HC6:=aS H;clear H;go_enter Tryz.func77,Tryz.ntmps77
  go_upto_if 16 with (first|((with_reducible refine gate_dst (N:=4) rfl ?_);refine box_event ?hg (N:=4) ?hd (cs:= #[.int .i64 0,.int .i64 0,.int .i64 0,.int .i64 0,.int .i64 0,.int .i64 0]) (t:=39) ?hr ?_;(case hd=>rfl);(case hg=>rfl);(case hr=>go_simp<;>rfl);intro gb137 hg w7 hbox hb;have n0_:=aS (IsS86.below (by repeat(with_reducible first|exact HI0.out|apply sA|apply sN|apply sD|apply sS)) hb);have n1_:=aS (KeepBut.trans (by repeat(with_reducible first|exact HK.out|apply pS|apply pN|apply pD|apply pA)) (KeepBut.of_below hb g none) (.inl rfl));have n2_:=aS (below_step (by repeat(with_reducible first|exact HB.out|apply bA|apply bN|apply b1|refine below_set ?_ (IsS86.ge HI0.out))) hb);have n3_:=aS (hbox);have n4_:=aS ((by rw[hg];exact(keep_size (w:=w) (g:=g) (row:=none) (by repeat(with_reducible first|exact HK.out|apply pS|apply pN|apply pD|apply pA))):w.heap.size≤gb137));have n5_:=aS ((Nat.le_trans HW0.out (by rw[hg];exact(keep_size (w:=w) (g:=g) (row:=none) (by repeat(with_reducible first|exact HK.out|apply pS|apply pN|apply pD|apply pA))):w.heap.size≤gb137):w0.heap.size≤gb137));have n6_:=aS ((by rw[hg];exact Nat.ne_of_lt (IsS86.lt (show IsS86 w0 _ g s0_0 s0_1 from by repeat(with_reducible first|exact HI0.out|apply sA|apply sN|apply sD|apply sS))):g≠gb137));have n7_:=aS ((by rw[hg];exact Nat.ne_of_gt (IsS86.lt (show IsS86 w0 _ g s0_0 s0_1 from by repeat(with_reducible first|exact HI0.out|apply sA|apply sN|apply sD|apply sS))):gb137≠g));clear HI0;clear HK;clear HB;have HI0:=n0_;have HK:=n1_;have HB:=n2_;have BK137:=n3_;have GW137:=n4_;have GE137:=n5_;have NB0_137:=n6_;have NB137_0:=n7_;clear n0_ n1_ n2_ n3_ n4_ n5_ n6_ n7_;clear hb hbox hg)|((with_reducible refine gate_callee (f:=30) rfl ?_);refine goesL_ (some 8) rfl rfl Tryz.func30 (by kernel_rfl) rfl #[.pointer (some ⟨g,0,none⟩),.int .i64 14] rfl (by(try simp only[List.map_toArray,List.map_cons,List.map_nil])<;>rfl) ?_;(with_reducible refine(spec_l6Rd_pick.calls k g s0_0 s0_1 14 t138 t139 w0 _ ?side1 ?side2 A3.out).mono ?_);(case side1=>repeat(with_reducible first|exact HI0.out|apply sA|apply sN|apply sD|apply sS|refine IsS86.far ?_ NB0_137.out _));(case side2=>repeat(with_reducible first|exact HB.out|apply bA|apply bN|apply b1|refine below_set ?_ (IsS86.ge HI0.out)|refine below_set ?_ GE137.out));rintro e w8 ⟨rfl,hi,hb,hk⟩;refine⟨_,rfl,?_⟩;replace BK137:=aS (KeepBut.blk hk (g':=gb137) (o:=.cells #[.int .i64 0,.int .i64 0,.int .i64 0,.int .i64 0,.int .i64 0,.int .i64 0] 39 (0,0)) (by exact blkU BK137.out) NB137_0.out (by simp));replace HK:=aS (KeepBut.trans (by repeat(with_reducible first|exact HK.out|apply pS|apply pN|apply pD|apply pA|refine keep_far ?_ GW137.out _)) hk (.inl rfl));replace HB:=aS (hb);replace HI0:=aS (hi);(try clear hb);(try clear hk);(try clear hi))|((with_reducible refine gate_dst (N:=5) rfl ?_);refine box_event ?hg (N:=5) ?hd (cs:= #[.int .i64 0,.int .i64 0,.int .i64 0,.int .i64 0,.int .i64 0,.int .i64 0]) (t:=39) ?hr ?_;(case hd=>rfl);(case hg=>rfl);(case hr=>go_simp<;>rfl);intro gb140 hg w9 hbox hb;have n0_:=aS (IsS86.below (by repeat(with_reducible first|exact HI0.out|apply sA|apply sN|apply sD|apply sS|refine IsS86.far ?_ NB0_137.out _)) hb);have n1_:=aS (blk_below (g:=gb137) (o:=.cells #[.int .i64 0,.int .i64 0,.int .i64 0,.int .i64 0,.int .i64 0,.int .i64 0] 39 (0,0)) (by exact blkU BK137.out) hb);have n2_:=aS (KeepBut.trans (by repeat(with_reducible first|exact HK.out|apply pS|apply pN|apply pD|apply pA|refine keep_far ?_ GW137.out _)) (KeepBut.of_below hb g none) (.inl rfl));have n3_:=aS (below_step (by repeat(with_reducible first|exact HB.out|apply bA|apply bN|apply b1|refine below_set ?_ (IsS86.ge HI0.out)|refine below_set ?_ GE137.out)) hb);have n4_:=aS (hbox);have n5_:=aS ((by rw[hg];exact(keep_size (w:=w) (g:=g) (row:=none) (by repeat(with_reducible first|exact HK.out|apply pS|apply pN|apply pD|apply pA|refine keep_far ?_ GW137.out _))):w.heap.size≤gb140));have n6_:=aS ((Nat.le_trans HW0.out (by rw[hg];exact(keep_size (w:=w) (g:=g) (row:=none) (by repeat(with_reducible first|exact HK.out|apply pS|apply pN|apply pD|apply pA|refine keep_far ?_ GW137.out _))):w.heap.size≤gb140):w0.heap.size≤gb140));have n7_:=aS ((by rw[hg];exact Nat.ne_of_lt (blk_lt (g:=gb137) (o:=.cells #[.int .i64 0,.int .i64 0,.int .i64 0,.int .i64 0,.int .i64 0,.int .i64 0] 39 (0,0)) (by exact blkU BK137.out)):gb137≠gb140));have n8_:=aS ((by rw[hg];exact Nat.ne_of_gt (blk_lt (g:=gb137) (o:=.cells #[.int .i64 0,.int .i64 0,.int .i64 0,.int .i64 0,.int .i64 0,.int .i64 0] 39 (0,0)) (by exact blkU BK137.out)):gb140≠gb137));have n9_:=aS ((by rw[hg];exact Nat.ne_of_lt (IsS86.lt (show IsS86 w0 _ g s0_0 t139 from by repeat(with_reducible first|exact HI0.out|apply sA|apply sN|apply sD|apply sS|refine IsS86.far ?_ NB0_137.out _))):g≠gb140));have n10_:=aS ((by rw[hg];exact Nat.ne_of_gt (IsS86.lt (show IsS86 w0 _ g s0_0 t139 from by repeat(with_reducible first|exact HI0.out|apply sA|apply sN|apply sD|apply sS|refine IsS86.far ?_ NB0_137.out _))):gb140≠g));clear HI0;clear BK137;clear HK;clear HB;have HI0:=n0_;have BK137:=n1_;have HK:=n2_;have HB:=n3_;have BK140:=n4_;have GW140:=n5_;have GE140:=n6_;have NB137_140:=n7_;have NB140_137:=n8_;have NB0_140:=n9_;have NB140_0:=n10_;clear n0_ n1_ n2_ n3_ n4_ n5_ n6_ n7_ n8_ n9_ n10_;clear hb hbox hg;have hnb10:=NB140_137.out;have hnc10:=NB137_140.out;have hnb11:=NB140_0.out;have hnc11:=NB0_140.out;obtain⟨hcz12_0,hcz12_1,hcz12_2,hcz12_3,hcz12_4,hcz12_5⟩:=six_cells BK140.out;obtain⟨hfz12_0,hfz12_1,hfz12_2,hfz12_3,hfz12_4,hfz12_5⟩:=six_marks BK140.out)|((with_reducible refine gate_callee (f:=38) rfl ?_);refine goesL_ (some 13) rfl rfl Tryz.func38 (by kernel_rfl) rfl #[.int .i64 (wrap64 (1+t138))] rfl (by(try simp only[List.map_toArray,List.map_cons,List.map_nil])<;>rfl) ?_;(with_reducible refine(spec_l2Form.calls k (wrap64 (1+t138)) t141 _ A4.out).mono ?_);rintro e w13 ⟨v142,rfl,ho0,hb⟩;refine⟨_,rfl,?_⟩;have n0_:=aS (Kd.R_lower ho0 (keep_size (w:=w) (g:=g) (row:=none) (by repeat(with_reducible first|exact HK.out|apply pS|apply pN|apply pD|apply pA|refine keep_far ?_ GW137.out _|refine keep_far ?_ GW140.out _))));have n1_:=aS (IsS86.below (show IsS86 w0 ((((((w9.setCell ⟨gb140,0,none⟩ (.int .i64 (wrap64 (1+t138)))).setCell ⟨gb140,1,none⟩ (.int .i64 0)).setCell ⟨gb140,2,none⟩ (.int .i64 0)).setCell ⟨gb140,3,none⟩ (.int .i64 0)).setCell ⟨gb140,4,none⟩ (.int .i64 0)).setCell ⟨gb140,5,none⟩ (.int .i64 0)) g s0_0 t139 from by repeat(with_reducible first|exact HI0.out|apply sA|apply sN|apply sD|apply sS|refine IsS86.far ?_ NB0_137.out _|refine IsS86.far ?_ NB0_140.out _)) hb);have n2_:=aS (blk_below (g:=gb137) (o:=.cells #[.int .i64 0,.int .i64 0,.int .i64 0,.int .i64 0,.int .i64 0,.int .i64 0] 39 (0,0)) (by refine kU ?_;refine blk_far ?_ NB137_140.out _;refine kU ?_;refine blk_far ?_ NB137_140.out _;refine kU ?_;refine blk_far ?_ NB137_140.out _;refine kU ?_;refine blk_far ?_ NB137_140.out _;refine kU ?_;refine blk_far ?_ NB137_140.out _;refine kU ?_;refine blk_far ?_ NB137_140.out _;exact blkU BK137.out) hb);have n3_:=aS (blk_below (g:=gb140) (o:=.cells #[.int .i64 (wrap64 (1+t138)),.int .i64 0,.int .i64 0,.int .i64 0,.int .i64 0,.int .i64 0] 39 (0,0)) (by refine kU ?_;refine blk_put (cs:= #[.int .i64 (wrap64 (1+t138)),.int .i64 0,.int .i64 0,.int .i64 0,.int .i64 0,.int .i64 0]) ?_ 5 _ rfl;refine kU ?_;refine blk_put (cs:= #[.int .i64 (wrap64 (1+t138)),.int .i64 0,.int .i64 0,.int .i64 0,.int .i64 0,.int .i64 0]) ?_ 4 _ rfl;refine kU ?_;refine blk_put (cs:= #[.int .i64 (wrap64 (1+t138)),.int .i64 0,.int .i64 0,.int .i64 0,.int .i64 0,.int .i64 0]) ?_ 3 _ rfl;refine kU ?_;refine blk_put (cs:= #[.int .i64 (wrap64 (1+t138)),.int .i64 0,.int .i64 0,.int .i64 0,.int .i64 0,.int .i64 0]) ?_ 2 _ rfl;refine kU ?_;refine blk_put (cs:= #[.int .i64 (wrap64 (1+t138)),.int .i64 0,.int .i64 0,.int .i64 0,.int .i64 0,.int .i64 0]) ?_ 1 _ rfl;refine kU ?_;refine blk_put (cs:= #[.int .i64 0,.int .i64 0,.int .i64 0,.int .i64 0,.int .i64 0,.int .i64 0]) ?_ 0 _ rfl;exact blkU BK140.out) hb);have n4_:=aS (KeepBut.trans (by repeat(with_reducible first|exact HK.out|apply pS|apply pN|apply pD|apply pA|refine keep_far ?_ GW137.out _|refine keep_far ?_ GW140.out _)) (KeepBut.of_below hb g none) (.inl rfl));have n5_:=aS (below_step (by repeat(with_reducible first|exact HB.out|apply bA|apply bN|apply b1|refine below_set ?_ (IsS86.ge HI0.out)|refine below_set ?_ GE137.out|refine below_set ?_ GE140.out)) hb);clear HI0;clear BK137;clear BK140;clear HK;clear HB;have HO143:=n0_;have HI0:=n1_;have BK137:=n2_;have BK140:=n3_;have HK:=n4_;have HB:=n5_;clear n0_ n1_ n2_ n3_ n4_ n5_;(try clear hb);(try clear ho0);obtain⟨Ao14,co14,eo14⟩:=Kd.R_slice HO143.out;subst eo14;have p144:0≤(0:Int):=(by omega);have q144:0<(t141.length:Int):=of_decide_eq_true (by assumption);obtain⟨ad144,e144,hx144_0⟩:=Kd.at_bool (Kd.R_reads' HO143.out).2.2 0 p144 q144;cases e144;have qi144:(0<t141.length)=True:=eq_true (by omega);(try rw[show((0:Int)).toNat=0 from rfl]at hx144_0);(try rw[Addr.add_zero']at hx144_0);replace p144:=eq_true p144;replace q144:=eq_true q144))
  (try simp only[Act.put,List.setIfInBounds_toArray,List.set_cons_zero,List.set_cons_succ])
  go_cut [] (fun wc=> ∃ (kq:Nat) (x1001_5:Int) (x141001_5:Int),Aside0 (spec_l71Op.j0 kq a1 t141 s0_0 x1001_5 (wrap64 (1+t138)) x141001_5 0 0 0 0=some (r1,r2,r3,r4,r5,r6,r7))∧Aside0 (kq≤k)∧Aside0 (Kd.R Kd.bool 4 wc w.heap.size (fun _=>True) (.slice (some ad144) t141.length co14) t141)∧Aside0 (wc.heap[gb137]?=some (.cells #[.int .i64 0,.int .i64 0,.int .i64 0,.int .i64 0,.int .i64 0,.int .i64 0] 39 (0,0)))∧Aside0 (wc.heap[gb140]?=some (.cells #[.int .i64 (wrap64 (1+t138)),.int .i64 x141001_5,.int .i64 0,.int .i64 0,.int .i64 0,.int .i64 0] 39 (0,0)))∧Aside0 (IsS86 w0 wc g s0_0 x1001_5)∧Aside0 (KeepBut w wc g none)∧Aside0 (Below w0.heap.size w0 wc))
  case first=>
   have H:=HC6.out;clear HC6;obtain⟨bq15,hbq15⟩: ∃b_:Bool,b_=(rdOf false t141 0):=⟨_,rfl⟩;replace H:(if bq15=true then((spec_l6Rd_pick.f k s0_0 t139 4).bind fun bt145=>(spec_l71Op.j0 k a1 t141 s0_0 bt145.2 (wrap64 (1+t138)) bt145.1 0 0 0 0))else(spec_l71Op.j0 k a1 t141 s0_0 t139 (wrap64 (1+t138)) 0 0 0 0 0))=some (r1,r2,r3,r4,r5,r6,r7):=by rw[←hbq15]at H;exact H
   have Nbq15:=aS hbq15;clear hbq15;(try rw[←Nbq15.out])
   by_cases c16:bq15=true
   ·subst c16
    have H1:((spec_l6Rd_pick.f k s0_0 t139 4).bind fun bt145=>(spec_l71Op.j0 k a1 t141 s0_0 bt145.2 (wrap64 (1+t138)) bt145.1 0 0 0 0))=some (r1,r2,r3,r4,r5,r6,r7):=by rw[if_pos rfl]at H;exact H
    clear H;have H:=H1;clear H1;replace H:=Option.bind_eq_some_iff.mp H;obtain⟨⟨t145,t146⟩,A170,H⟩:=H;replace H:(spec_l71Op.j0 k a1 t141 s0_0 t146 (wrap64 (1+t138)) t145 0 0 0 0)=some (r1,r2,r3,r4,r5,r6,r7):=H;have A17:=aS A170;clear A170;have H':=aS H;clear H;go_wp2_with (first|((with_reducible refine gate_callee (f:=30) rfl ?_);refine goesL_ (some 18) rfl rfl Tryz.func30 (by kernel_rfl) rfl #[.pointer (some ⟨g,0,none⟩),.int .i64 4] rfl (by(try simp only[List.map_toArray,List.map_cons,List.map_nil])<;>rfl) ?_;(with_reducible refine(spec_l6Rd_pick.calls k g s0_0 t139 4 t145 t146 w0 _ ?side1 ?side2 A17.out).mono ?_);(case side1=>repeat(with_reducible first|exact HI0.out|apply sA|apply sN|apply sD|apply sS|refine IsS86.far ?_ NB0_137.out _|refine IsS86.far ?_ NB0_140.out _));(case side2=>repeat(with_reducible first|exact HB.out|apply bA|apply bN|apply b1|refine below_set ?_ (IsS86.ge HI0.out)|refine below_set ?_ GE137.out|refine below_set ?_ GE140.out));rintro e w18 ⟨rfl,hi,hb,hk⟩;refine⟨_,rfl,?_⟩;replace BK137:=aS (KeepBut.blk hk (g':=gb137) (o:=.cells #[.int .i64 0,.int .i64 0,.int .i64 0,.int .i64 0,.int .i64 0,.int .i64 0] 39 (0,0)) (by exact blkU BK137.out) NB137_0.out (by simp));replace BK140:=aS (KeepBut.blk hk (g':=gb140) (o:=.cells #[.int .i64 (wrap64 (1+t138)),.int .i64 0,.int .i64 0,.int .i64 0,.int .i64 0,.int .i64 0] 39 (0,0)) (by exact blkU BK140.out) NB140_0.out (by simp));replace HO143:=aS (Kd.R_mono (Kd.R_keep (IsS86.apart (show IsS86 w0 _ g s0_0 t139 from by repeat(with_reducible first|exact HI0.out|apply sA|apply sN|apply sD|apply sS|refine IsS86.far ?_ NB0_137.out _|refine IsS86.far ?_ NB0_140.out _)) (by exact rU HO143.out) (by decide)) hk (fun _ h=>h.2)) (fun _ h=>h.1));replace HK:=aS (KeepBut.trans (by repeat(with_reducible first|exact HK.out|apply pS|apply pN|apply pD|apply pA|refine keep_far ?_ GW137.out _|refine keep_far ?_ GW140.out _)) hk (.inl rfl));replace HB:=aS (hb);replace HI0:=aS (hi);(try clear hb);(try clear hk);(try clear hi);have hnb19:=NB140_137.out;have hnc19:=NB137_140.out;have hnb20:=NB140_0.out;have hnc20:=NB0_140.out;obtain⟨hcz21_0,hcz21_1,hcz21_2,hcz21_3,hcz21_4,hcz21_5⟩:=six_cells BK140.out;obtain⟨hfz21_0,hfz21_1,hfz21_2,hfz21_3,hfz21_4,hfz21_5⟩:=six_marks BK140.out))
    go_meet
    case rel=>exact⟨_,(t146),(t145),H',⟨by first|omega|exact Nat.le_refl _⟩,⟨by(with_reducible repeat(first|apply rA|apply rN|apply rD));exact Kd.R_mono (Kd.R_far (p:=⟨gb140,1,none⟩) (Kd.R_types HO143.out BK140.out (by decide)) (fun _ hk=>hk.2) (.int .i64 t145)) (fun _ hk=>trivial)⟩,⟨by refine kU ?_;refine blk_far ?_ NB137_140.out _;exact blkU BK137.out⟩,⟨by refine kU ?_;refine blk_put (cs:= #[.int .i64 (wrap64 (1+t138)),.int .i64 0,.int .i64 0,.int .i64 0,.int .i64 0,.int .i64 0]) ?_ 1 _ rfl;exact blkU BK140.out⟩,⟨by repeat(with_reducible first|exact HI0.out|apply sA|apply sN|apply sD|apply sS|refine IsS86.far ?_ NB0_137.out _|refine IsS86.far ?_ NB0_140.out _)⟩,⟨by repeat(with_reducible first|exact HK.out|apply pS|apply pN|apply pD|apply pA|refine keep_far ?_ GW137.out _|refine keep_far ?_ GW140.out _)⟩,⟨by repeat(with_reducible first|exact HB.out|apply bA|apply bN|apply b1|refine below_set ?_ (IsS86.ge HI0.out)|refine below_set ?_ GE137.out|refine below_set ?_ GE140.out)⟩⟩
   ·replace c16:=Bool.eq_false_iff.mpr c16
    subst c16;have H1:(spec_l71Op.j0 k a1 t141 s0_0 t139 (wrap64 (1+t138)) 0 0 0 0 0)=some (r1,r2,r3,r4,r5,r6,r7):=by rw[if_neg (show¬(false=true) by decide)]at H;exact H
    clear H;have H:=H1;clear H1;have H':=aS H;clear H;go_wp2
    go_meet
    case rel=>exact⟨_,(t139),(0),H',⟨by first|omega|exact Nat.le_refl _⟩,⟨by exact rU HO143.out⟩,⟨by exact blkU BK137.out⟩,⟨by exact blkU BK140.out⟩,⟨by repeat(with_reducible first|exact HI0.out|apply sA|apply sN|apply sD|apply sS|refine IsS86.far ?_ NB0_137.out _|refine IsS86.far ?_ NB0_140.out _)⟩,⟨by repeat(with_reducible first|exact HK.out|apply pS|apply pN|apply pD|apply pA|refine keep_far ?_ GW137.out _|refine keep_far ?_ GW140.out _)⟩,⟨by repeat(with_reducible first|exact HB.out|apply bA|apply bN|apply b1|refine below_set ?_ (IsS86.ge HI0.out)|refine below_set ?_ GE137.out|refine below_set ?_ GE140.out)⟩⟩
  case rest=>
   clear HC6;(try clear c1);(try clear p1);(try clear q1);(try clear hx1);(try clear qi1);(try clear c2);(try clear p2);(try clear c3);(try clear c5);(try clear c5b0);(try clear c5b1);(try clear p6);(try clear c7);(try clear c10);(try clear c11);(try clear p14);(try clear q14);(try clear hx14);(try clear qi14);(try clear q15);(try clear c16);(try clear c19);(try clear c20);(try clear hcz12_0);(try clear hcz12_1);(try clear hcz12_2);(try clear hcz12_3);(try clear hcz12_4);(try clear hcz12_5);(try clear hcz21_0);(try clear hcz21_1);(try clear hcz21_2);(try clear hcz21_3);(try clear hcz21_4);(try clear hcz21_5);(try clear hfz12_0);(try clear hfz12_1);(try clear hfz12_2);(try clear hfz12_3);(try clear hfz12_4);(try clear hfz12_5);(try clear hfz21_0);(try clear hfz21_1);(try clear hfz21_2);(try clear hfz21_3);(try clear hfz21_4);(try clear hfz21_5);(try clear hx144_0);(try clear p144);(try clear q144)
   obtain⟨kq,x1001_5,x141001_5,HA,HJ5,HO_6,BK137,BK140,HI0,HK,HB⟩:=hcut;cases kq with
   |zero=>exact absurd HA.out (by simp[spec_l71Op.j0])
   |succ kj5=>
    have H:=HA.out;clear HA;simp only[spec_l71Op.j0]at H
    by_cases c22:1<(t141.length:Int)
    ·rw[if_pos c22]at H
     have c22b0:decide (1<(t141.length:Int))=true:=decide_eq_true c22;have c22b1:decide (1<t141.length)=true:=decide_eq_true (by omega)
     clear c22;have HC23:=aS H;clear H;have p147:0≤(1:Int):=(by omega)
     have q147:1<(t141.length:Int):=of_decide_eq_true (by assumption)
     obtain⟨ad147,e147,hx147_0⟩:=Kd.at_bool (Kd.R_reads' HO_6.out).2.2 1 p147 q147;obtain rfl:ad144=ad147:=(by injection e147)
     (try simp only[show(1:Int).toNat=1 from rfl,Nat.reduceMul,Nat.reduceEqDiff,Go.Addr.add, ↓reduceIte]at hx147_0)
     have qi147:(1<t141.length)=True:=eq_true (by omega)
     (try rw[show((1:Int)).toNat=1 from rfl]at hx147_0)
     replace p147:=eq_true p147;replace q147:=eq_true q147;go_upto_if 22 with (fail)
     go_cut [] (fun wc=> ∃ (kq:Nat) (x1001_22:Int) (x141002_22:Int),Aside0 (spec_l71Op.j1 kq a1 t141 s0_0 x1001_22 (wrap64 (1+t138)) x141001_5 x141002_22 0 0 0=some (r1,r2,r3,r4,r5,r6,r7))∧Aside0 (kq≤kj5)∧Aside0 (Kd.R Kd.bool 4 wc w.heap.size (fun _=>True) (.slice (some ad144) t141.length co14) t141)∧Aside0 (wc.heap[gb137]?=some (.cells #[.int .i64 0,.int .i64 0,.int .i64 0,.int .i64 0,.int .i64 0,.int .i64 0] 39 (0,0)))∧Aside0 (wc.heap[gb140]?=some (.cells #[.int .i64 (wrap64 (1+t138)),.int .i64 x141001_5,.int .i64 x141002_22,.int .i64 0,.int .i64 0,.int .i64 0] 39 (0,0)))∧Aside0 (IsS86 w0 wc g s0_0 x1001_22)∧Aside0 (KeepBut w wc g none)∧Aside0 (Below w0.heap.size w0 wc))
     case first=>
      have H:=HC23.out;clear HC23;obtain⟨bq24,hbq24⟩: ∃b_:Bool,b_=(rdOf false t141 1):=⟨_,rfl⟩;replace H:(if bq24=true then((spec_l6Rd_pick.f kj5 s0_0 x1001_5 4).bind fun bt148=>(spec_l71Op.j1 kj5 a1 t141 s0_0 bt148.2 (wrap64 (1+t138)) x141001_5 bt148.1 0 0 0))else(spec_l71Op.j1 kj5 a1 t141 s0_0 x1001_5 (wrap64 (1+t138)) x141001_5 0 0 0 0))=some (r1,r2,r3,r4,r5,r6,r7):=by rw[←hbq24]at H;exact H
      have Nbq24:=aS hbq24;clear hbq24;(try rw[←Nbq24.out])
      by_cases c25:bq24=true
      ·subst c25
       have H1:((spec_l6Rd_pick.f kj5 s0_0 x1001_5 4).bind fun bt148=>(spec_l71Op.j1 kj5 a1 t141 s0_0 bt148.2 (wrap64 (1+t138)) x141001_5 bt148.1 0 0 0))=some (r1,r2,r3,r4,r5,r6,r7):=by rw[if_pos rfl]at H;exact H
       clear H;have H:=H1;clear H1;replace H:=Option.bind_eq_some_iff.mp H;obtain⟨⟨t148,t149⟩,A260,H⟩:=H;replace H:(spec_l71Op.j1 kj5 a1 t141 s0_0 t149 (wrap64 (1+t138)) x141001_5 t148 0 0 0)=some (r1,r2,r3,r4,r5,r6,r7):=H;have A26:=aS A260;clear A260;have H':=aS H;clear H;go_wp2_with (first|((with_reducible refine gate_callee (f:=30) rfl ?_);refine goesL_ (some 24) rfl rfl Tryz.func30 (by kernel_rfl) rfl #[.pointer (some ⟨g,0,none⟩),.int .i64 4] rfl (by(try simp only[List.map_toArray,List.map_cons,List.map_nil])<;>rfl) ?_;(with_reducible refine(spec_l6Rd_pick.calls kj5 g s0_0 x1001_5 4 t148 t149 w0 _ ?side1 ?side2 A26.out).mono ?_);(case side1=>repeat(with_reducible first|exact HI0.out|apply sA|apply sN|apply sD|apply sS|refine IsS86.far ?_ NB0_137.out _|refine IsS86.far ?_ NB0_140.out _));(case side2=>repeat(with_reducible first|exact HB.out|apply bA|apply bN|apply b1|refine below_set ?_ (IsS86.ge HI0.out)|refine below_set ?_ GE137.out|refine below_set ?_ GE140.out));rintro e w27 ⟨rfl,hi,hb,hk⟩;refine⟨_,rfl,?_⟩;replace HO_6:=aS (Kd.R_mono (Kd.R_keep (IsS86.apart (show IsS86 w0 _ g s0_0 x1001_5 from by repeat(with_reducible first|exact HI0.out|apply sA|apply sN|apply sD|apply sS|refine IsS86.far ?_ NB0_137.out _|refine IsS86.far ?_ NB0_140.out _)) (by exact rU HO_6.out) (by decide)) hk (fun _ h=>h.2)) (fun _ h=>h.1));replace BK137:=aS (KeepBut.blk hk (g':=gb137) (o:=.cells #[.int .i64 0,.int .i64 0,.int .i64 0,.int .i64 0,.int .i64 0,.int .i64 0] 39 (0,0)) (by exact blkU BK137.out) NB137_0.out (by simp));replace BK140:=aS (KeepBut.blk hk (g':=gb140) (o:=.cells #[.int .i64 (wrap64 (1+t138)),.int .i64 x141001_5,.int .i64 0,.int .i64 0,.int .i64 0,.int .i64 0] 39 (0,0)) (by exact blkU BK140.out) NB140_0.out (by simp));replace HK:=aS (KeepBut.trans (by repeat(with_reducible first|exact HK.out|apply pS|apply pN|apply pD|apply pA|refine keep_far ?_ GW137.out _|refine keep_far ?_ GW140.out _)) hk (.inl rfl));replace HB:=aS (hb);replace HI0:=aS (hi);(try clear hb);(try clear hk);(try clear hi);have hnb28:=NB140_137.out;have hnc28:=NB137_140.out;have hnb29:=NB140_0.out;have hnc29:=NB0_140.out;obtain⟨hcz30_0,hcz30_1,hcz30_2,hcz30_3,hcz30_4,hcz30_5⟩:=six_cells BK140.out;obtain⟨hfz30_0,hfz30_1,hfz30_2,hfz30_3,hfz30_4,hfz30_5⟩:=six_marks BK140.out))
       go_meet
       case rel=>exact⟨_,(t149),(t148),H',⟨by have:=HJ5.out;first|omega|exact Nat.le_refl _⟩,⟨by(with_reducible repeat(first|apply rA|apply rN|apply rD));exact Kd.R_mono (Kd.R_far (p:=⟨gb140,2,none⟩) (Kd.R_types HO_6.out BK140.out (by decide)) (fun _ hk=>hk.2) (.int .i64 t148)) (fun _ hk=>trivial)⟩,⟨by refine kU ?_;refine blk_far ?_ NB137_140.out _;exact blkU BK137.out⟩,⟨by refine kU ?_;refine blk_put (cs:= #[.int .i64 (wrap64 (1+t138)),.int .i64 x141001_5,.int .i64 0,.int .i64 0,.int .i64 0,.int .i64 0]) ?_ 2 _ rfl;exact blkU BK140.out⟩,⟨by repeat(with_reducible first|exact HI0.out|apply sA|apply sN|apply sD|apply sS|refine IsS86.far ?_ NB0_137.out _|refine IsS86.far ?_ NB0_140.out _)⟩,⟨by repeat(with_reducible first|exact HK.out|apply pS|apply pN|apply pD|apply pA|refine keep_far ?_ GW137.out _|refine keep_far ?_ GW140.out _)⟩,⟨by repeat(with_reducible first|exact HB.out|apply bA|apply bN|apply b1|refine below_set ?_ (IsS86.ge HI0.out)|refine below_set ?_ GE137.out|refine below_set ?_ GE140.out)⟩⟩
      ·replace c25:=Bool.eq_false_iff.mpr c25
       subst c25;have H1:(spec_l71Op.j1 kj5 a1 t141 s0_0 x1001_5 (wrap64 (1+t138)) x141001_5 0 0 0 0)=some (r1,r2,r3,r4,r5,r6,r7):=by rw[if_neg (show¬(false=true) by decide)]at H;exact H
       clear H;have H:=H1;clear H1;have H':=aS H;clear H;go_wp2
       go_meet
       case rel=>exact⟨_,(x1001_5),(0),H',⟨by have:=HJ5.out;first|omega|exact Nat.le_refl _⟩,⟨by exact rU HO_6.out⟩,⟨by exact blkU BK137.out⟩,⟨by exact blkU BK140.out⟩,⟨by repeat(with_reducible first|exact HI0.out|apply sA|apply sN|apply sD|apply sS|refine IsS86.far ?_ NB0_137.out _|refine IsS86.far ?_ NB0_140.out _)⟩,⟨by repeat(with_reducible first|exact HK.out|apply pS|apply pN|apply pD|apply pA|refine keep_far ?_ GW137.out _|refine keep_far ?_ GW140.out _)⟩,⟨by repeat(with_reducible first|exact HB.out|apply bA|apply bN|apply b1|refine below_set ?_ (IsS86.ge HI0.out)|refine below_set ?_ GE137.out|refine below_set ?_ GE140.out)⟩⟩
     case rest=>
      clear HC23;(try clear c1);(try clear p1);(try clear q1);(try clear hx1);(try clear qi1);(try clear c2);(try clear p2);(try clear q2);(try clear c3);(try clear c5);(try clear c5b0);(try clear c5b1);(try clear p6);(try clear c7);(try clear c10);(try clear c11);(try clear p14);(try clear q14);(try clear hx14);(try clear qi14);(try clear q15);(try clear c16);(try clear c19);(try clear c20);(try clear c22);(try clear c22b0);(try clear c22b1);(try clear q24);(try clear c25);(try clear c28);(try clear c29);(try clear c30);(try clear hcz12_0);(try clear hcz12_1);(try clear hcz12_2);(try clear hcz12_3);(try clear hcz12_4);(try clear hcz12_5);(try clear hcz21_0);(try clear hcz21_1);(try clear hcz21_2);(try clear hcz21_3);(try clear hcz21_4);(try clear hcz21_5);(try clear hcz30_0);(try clear hcz30_1);(try clear hcz30_2);(try clear hcz30_3);(try clear hcz30_4);(try clear hcz30_5);(try clear hfz12_0);(try clear hfz12_1);(try clear hfz12_2);(try clear hfz12_3);(try clear hfz12_4);(try clear hfz12_5);(try clear hfz21_0);(try clear hfz21_1);(try clear hfz21_2);(try clear hfz21_3);(try clear hfz21_4);(try clear hfz21_5);(try clear hfz30_0);(try clear hfz30_1);(try clear hfz30_2);(try clear hfz30_3);(try clear hfz30_4);(try clear hfz30_5);(try clear hx144_0);(try clear hx147_0);(try clear p1);(try clear p14);(try clear p144);(try clear p147);(try clear p2);(try clear p6);(try clear q1);(try clear q14);(try clear q144);(try clear q147);(try clear q15)
      obtain⟨kq,x1001_22,x141002_22,HA,HJ22,HO_6,BK137,BK140,HI0,HK,HB⟩:=hcut;cases kq with
      |zero=>exact absurd HA.out (by simp[spec_l71Op.j1])
      |succ kj22=>
       have H:=HA.out;clear HA;simp only[spec_l71Op.j1]at H
       by_cases c31:2<(t141.length:Int)
       ·rw[if_pos c31]at H
        have c31b0:decide (2<(t141.length:Int))=true:=decide_eq_true c31;have c31b1:decide (2<t141.length)=true:=decide_eq_true (by omega)
        clear c31;have HC32:=aS H;clear H;have p150:0≤(2:Int):=(by omega)
        have q150:2<(t141.length:Int):=of_decide_eq_true (by assumption)
        obtain⟨ad150,e150,hx150_0⟩:=Kd.at_bool (Kd.R_reads' HO_6.out).2.2 2 p150 q150;obtain rfl:ad144=ad150:=(by injection e150)
        (try simp only[show(2:Int).toNat=2 from rfl,Nat.reduceMul,Nat.reduceEqDiff,Go.Addr.add, ↓reduceIte]at hx150_0)
        have qi150:(2<t141.length)=True:=eq_true (by omega)
        (try rw[show((2:Int)).toNat=2 from rfl]at hx150_0)
        replace p150:=eq_true p150;replace q150:=eq_true q150;go_upto_if 28 with (fail)
        go_cut [] (fun wc=> ∃ (kq:Nat) (x1001_31:Int) (x141003_31:Int),Aside0 (spec_l71Op.j2 kq t141 s0_0 x1001_31 (wrap64 (1+t138)) x141001_5 x141002_22 x141003_31 0 0=some (r1,r2,r3,r4,r5,r6,r7))∧Aside0 (kq≤kj22)∧Aside0 (Kd.R Kd.bool 4 wc w.heap.size (fun _=>True) (.slice (some ad144) t141.length co14) t141)∧Aside0 (wc.heap[gb137]?=some (.cells #[.int .i64 0,.int .i64 0,.int .i64 0,.int .i64 0,.int .i64 0,.int .i64 0] 39 (0,0)))∧Aside0 (wc.heap[gb140]?=some (.cells #[.int .i64 (wrap64 (1+t138)),.int .i64 x141001_5,.int .i64 x141002_22,.int .i64 x141003_31,.int .i64 0,.int .i64 0] 39 (0,0)))∧Aside0 (IsS86 w0 wc g s0_0 x1001_31)∧Aside0 (KeepBut w wc g none)∧Aside0 (Below w0.heap.size w0 wc))
        case first=>
         have H:=HC32.out;clear HC32;obtain⟨bq33,hbq33⟩: ∃b_:Bool,b_=(rdOf false t141 2):=⟨_,rfl⟩;replace H:(if bq33=true then((spec_l6Rd_pick.f kj22 s0_0 x1001_22 a1).bind fun bt151=>(spec_l71Op.j2 kj22 t141 s0_0 bt151.2 (wrap64 (1+t138)) x141001_5 x141002_22 bt151.1 0 0))else(spec_l71Op.j2 kj22 t141 s0_0 x1001_22 (wrap64 (1+t138)) x141001_5 x141002_22 0 0 0))=some (r1,r2,r3,r4,r5,r6,r7):=by rw[←hbq33]at H;exact H
         have Nbq33:=aS hbq33;clear hbq33;(try rw[←Nbq33.out])
         by_cases c34:bq33=true
         ·subst c34
          have H1:((spec_l6Rd_pick.f kj22 s0_0 x1001_22 a1).bind fun bt151=>(spec_l71Op.j2 kj22 t141 s0_0 bt151.2 (wrap64 (1+t138)) x141001_5 x141002_22 bt151.1 0 0))=some (r1,r2,r3,r4,r5,r6,r7):=by rw[if_pos rfl]at H;exact H
          clear H;have H:=H1;clear H1;replace H:=Option.bind_eq_some_iff.mp H;obtain⟨⟨t151,t152⟩,A350,H⟩:=H;replace H:(spec_l71Op.j2 kj22 t141 s0_0 t152 (wrap64 (1+t138)) x141001_5 x141002_22 t151 0 0)=some (r1,r2,r3,r4,r5,r6,r7):=H;have A35:=aS A350;clear A350;have H':=aS H;clear H;go_wp2_with (first|((with_reducible refine gate_callee (f:=30) rfl ?_);refine goesL_ (some 31) rfl rfl Tryz.func30 (by kernel_rfl) rfl #[.pointer (some ⟨g,0,none⟩),.int .i64 a1] rfl (by(try simp only[List.map_toArray,List.map_cons,List.map_nil])<;>rfl) ?_;(with_reducible refine(spec_l6Rd_pick.calls kj22 g s0_0 x1001_22 a1 t151 t152 w0 _ ?side1 ?side2 A35.out).mono ?_);(case side1=>repeat(with_reducible first|exact HI0.out|apply sA|apply sN|apply sD|apply sS|refine IsS86.far ?_ NB0_137.out _|refine IsS86.far ?_ NB0_140.out _));(case side2=>repeat(with_reducible first|exact HB.out|apply bA|apply bN|apply b1|refine below_set ?_ (IsS86.ge HI0.out)|refine below_set ?_ GE137.out|refine below_set ?_ GE140.out));rintro e w36 ⟨rfl,hi,hb,hk⟩;refine⟨_,rfl,?_⟩;replace HO_6:=aS (Kd.R_mono (Kd.R_keep (IsS86.apart (show IsS86 w0 _ g s0_0 x1001_22 from by repeat(with_reducible first|exact HI0.out|apply sA|apply sN|apply sD|apply sS|refine IsS86.far ?_ NB0_137.out _|refine IsS86.far ?_ NB0_140.out _)) (by exact rU HO_6.out) (by decide)) hk (fun _ h=>h.2)) (fun _ h=>h.1));replace BK137:=aS (KeepBut.blk hk (g':=gb137) (o:=.cells #[.int .i64 0,.int .i64 0,.int .i64 0,.int .i64 0,.int .i64 0,.int .i64 0] 39 (0,0)) (by exact blkU BK137.out) NB137_0.out (by simp));replace BK140:=aS (KeepBut.blk hk (g':=gb140) (o:=.cells #[.int .i64 (wrap64 (1+t138)),.int .i64 x141001_5,.int .i64 x141002_22,.int .i64 0,.int .i64 0,.int .i64 0] 39 (0,0)) (by exact blkU BK140.out) NB140_0.out (by simp));replace HK:=aS (KeepBut.trans (by repeat(with_reducible first|exact HK.out|apply pS|apply pN|apply pD|apply pA|refine keep_far ?_ GW137.out _|refine keep_far ?_ GW140.out _)) hk (.inl rfl));replace HB:=aS (hb);replace HI0:=aS (hi);(try clear hb);(try clear hk);(try clear hi);have hnb37:=NB140_137.out;have hnc37:=NB137_140.out;have hnb38:=NB140_0.out;have hnc38:=NB0_140.out;obtain⟨hcz39_0,hcz39_1,hcz39_2,hcz39_3,hcz39_4,hcz39_5⟩:=six_cells BK140.out;obtain⟨hfz39_0,hfz39_1,hfz39_2,hfz39_3,hfz39_4,hfz39_5⟩:=six_marks BK140.out))
          go_meet
          case rel=>exact⟨_,(t152),(t151),H',⟨by have:=HJ5.out;have:=HJ22.out;first|omega|exact Nat.le_refl _⟩,⟨by(with_reducible repeat(first|apply rA|apply rN|apply rD));exact Kd.R_mono (Kd.R_far (p:=⟨gb140,3,none⟩) (Kd.R_types HO_6.out BK140.out (by decide)) (fun _ hk=>hk.2) (.int .i64 t151)) (fun _ hk=>trivial)⟩,⟨by refine kU ?_;refine blk_far ?_ NB137_140.out _;exact blkU BK137.out⟩,⟨by refine kU ?_;refine blk_put (cs:= #[.int .i64 (wrap64 (1+t138)),.int .i64 x141001_5,.int .i64 x141002_22,.int .i64 0,.int .i64 0,.int .i64 0]) ?_ 3 _ rfl;exact blkU BK140.out⟩,⟨by repeat(with_reducible first|exact HI0.out|apply sA|apply sN|apply sD|apply sS|refine IsS86.far ?_ NB0_137.out _|refine IsS86.far ?_ NB0_140.out _)⟩,⟨by repeat(with_reducible first|exact HK.out|apply pS|apply pN|apply pD|apply pA|refine keep_far ?_ GW137.out _|refine keep_far ?_ GW140.out _)⟩,⟨by repeat(with_reducible first|exact HB.out|apply bA|apply bN|apply b1|refine below_set ?_ (IsS86.ge HI0.out)|refine below_set ?_ GE137.out|refine below_set ?_ GE140.out)⟩⟩
         ·replace c34:=Bool.eq_false_iff.mpr c34
          subst c34;have H1:(spec_l71Op.j2 kj22 t141 s0_0 x1001_22 (wrap64 (1+t138)) x141001_5 x141002_22 0 0 0)=some (r1,r2,r3,r4,r5,r6,r7):=by rw[if_neg (show¬(false=true) by decide)]at H;exact H
          clear H;have H:=H1;clear H1;have H':=aS H;clear H;go_wp2
          go_meet
          case rel=>exact⟨_,(x1001_22),(0),H',⟨by have:=HJ5.out;have:=HJ22.out;first|omega|exact Nat.le_refl _⟩,⟨by exact rU HO_6.out⟩,⟨by exact blkU BK137.out⟩,⟨by exact blkU BK140.out⟩,⟨by repeat(with_reducible first|exact HI0.out|apply sA|apply sN|apply sD|apply sS|refine IsS86.far ?_ NB0_137.out _|refine IsS86.far ?_ NB0_140.out _)⟩,⟨by repeat(with_reducible first|exact HK.out|apply pS|apply pN|apply pD|apply pA|refine keep_far ?_ GW137.out _|refine keep_far ?_ GW140.out _)⟩,⟨by repeat(with_reducible first|exact HB.out|apply bA|apply bN|apply b1|refine below_set ?_ (IsS86.ge HI0.out)|refine below_set ?_ GE137.out|refine below_set ?_ GE140.out)⟩⟩
        case rest=>
         clear HC32;(try clear c1);(try clear p1);(try clear q1);(try clear hx1);(try clear qi1);(try clear c2);(try clear p2);(try clear q2);(try clear c3);(try clear q3);(try clear c5);(try clear c5b0);(try clear c5b1);(try clear p6);(try clear c7);(try clear c10);(try clear c11);(try clear p14);(try clear q14);(try clear hx14);(try clear qi14);(try clear p15);(try clear q15);(try clear hx15);(try clear qi15);(try clear c16);(try clear c19);(try clear c20);(try clear c22);(try clear c22b0);(try clear c22b1);(try clear q24);(try clear c25);(try clear c28);(try clear c29);(try clear c30);(try clear c31);(try clear c31b0);(try clear c31b1);(try clear q33);(try clear c34);(try clear c37);(try clear c38);(try clear hcz12_0);(try clear hcz12_1);(try clear hcz12_2);(try clear hcz12_3);(try clear hcz12_4);(try clear hcz12_5);(try clear hcz21_0);(try clear hcz21_1);(try clear hcz21_2);(try clear hcz21_3);(try clear hcz21_4);(try clear hcz21_5);(try clear hcz30_0);(try clear hcz30_1);(try clear hcz30_2);(try clear hcz30_3);(try clear hcz30_4);(try clear hcz30_5);(try clear hcz39_0);(try clear hcz39_1);(try clear hcz39_2);(try clear hcz39_3);(try clear hcz39_4);(try clear hcz39_5);(try clear hfz12_0);(try clear hfz12_1);(try clear hfz12_2);(try clear hfz12_3);(try clear hfz12_4);(try clear hfz12_5);(try clear hfz21_0);(try clear hfz21_1);(try clear hfz21_2);(try clear hfz21_3);(try clear hfz21_4);(try clear hfz21_5);(try clear hfz30_0);(try clear hfz30_1);(try clear hfz30_2);(try clear hfz30_3);(try clear hfz30_4);(try clear hfz30_5);(try clear hfz39_0);(try clear hfz39_1);(try clear hfz39_2);(try clear hfz39_3);(try clear hfz39_4);(try clear hfz39_5);(try clear hx144_0);(try clear hx147_0);(try clear hx150_0);(try clear p1);(try clear p14);(try clear p144);(try clear p147);(try clear p150);(try clear p2);(try clear p6);(try clear q1);(try clear q14);(try clear q144);(try clear q147);(try clear q15);(try clear q150);(try clear q2);(try clear q24)
         obtain⟨kq,x1001_31,x141003_31,HA,HJ31,HO_6,BK137,BK140,HI0,HK,HB⟩:=hcut;cases kq with
         |zero=>exact absurd HA.out (by simp[spec_l71Op.j2])
         |succ kj31=>
          have H:=HA.out;clear HA;simp only[spec_l71Op.j2]at H
          by_cases c40:3<(t141.length:Int)
          ·rw[if_pos c40]at H
           have c40b0:decide (3<(t141.length:Int))=true:=decide_eq_true c40;have c40b1:decide (3<t141.length)=true:=decide_eq_true (by omega)
           clear c40;have HC41:=aS H;clear H;have p153:0≤(3:Int):=(by omega)
           have q153:3<(t141.length:Int):=of_decide_eq_true (by assumption)
           obtain⟨ad153,e153,hx153_0⟩:=Kd.at_bool (Kd.R_reads' HO_6.out).2.2 3 p153 q153;obtain rfl:ad144=ad153:=(by injection e153)
           (try simp only[show(3:Int).toNat=3 from rfl,Nat.reduceMul,Nat.reduceEqDiff,Go.Addr.add, ↓reduceIte]at hx153_0)
           have qi153:(3<t141.length)=True:=eq_true (by omega)
           (try rw[show((3:Int)).toNat=3 from rfl]at hx153_0)
           replace p153:=eq_true p153;replace q153:=eq_true q153;go_upto_if 35 with (fail)
           go_cut [] (fun wc=> ∃ (kq:Nat) (x1001_40:Int) (x141004_40:Int) (x141005_40:Int),Aside0 (spec_l71Op.j3 kq s0_0 x1001_40 (wrap64 (1+t138)) x141001_5 x141002_22 x141003_31 x141004_40 x141005_40=some (r1,r2,r3,r4,r5,r6,r7))∧Aside0 (kq≤kj31)∧Aside0 (wc.heap[gb137]?=some (.cells #[.int .i64 0,.int .i64 0,.int .i64 0,.int .i64 0,.int .i64 0,.int .i64 0] 39 (0,0)))∧Aside0 (wc.heap[gb140]?=some (.cells #[.int .i64 (wrap64 (1+t138)),.int .i64 x141001_5,.int .i64 x141002_22,.int .i64 x141003_31,.int .i64 x141004_40,.int .i64 x141005_40] 39 (0,0)))∧Aside0 (IsS86 w0 wc g s0_0 x1001_40)∧Aside0 (KeepBut w wc g none)∧Aside0 (Below w0.heap.size w0 wc))
           case first=>
            have H:=HC41.out;clear HC41;obtain⟨bq42,hbq42⟩: ∃b_:Bool,b_=(rdOf false t141 3):=⟨_,rfl⟩;replace H:(if bq42=true then((spec_l71Good.f kj31 s0_0 x1001_31).bind fun bt154=>(spec_l71Op.j3 kj31 s0_0 bt154.2.2 (wrap64 (1+t138)) x141001_5 x141002_22 x141003_31 bt154.1 bt154.2.1))else(spec_l71Op.j3 kj31 s0_0 x1001_31 (wrap64 (1+t138)) x141001_5 x141002_22 x141003_31 0 0))=some (r1,r2,r3,r4,r5,r6,r7):=by rw[←hbq42]at H;exact H
            have Nbq42:=aS hbq42;clear hbq42;(try rw[←Nbq42.out])
            by_cases c43:bq42=true
            ·subst c43
             have H1:((spec_l71Good.f kj31 s0_0 x1001_31).bind fun bt154=>(spec_l71Op.j3 kj31 s0_0 bt154.2.2 (wrap64 (1+t138)) x141001_5 x141002_22 x141003_31 bt154.1 bt154.2.1))=some (r1,r2,r3,r4,r5,r6,r7):=by rw[if_pos rfl]at H;exact H
             clear H;have H:=H1;clear H1;replace H:=Option.bind_eq_some_iff.mp H;obtain⟨⟨t154,t155,t156⟩,A440,H⟩:=H;replace H:(spec_l71Op.j3 kj31 s0_0 t156 (wrap64 (1+t138)) x141001_5 x141002_22 x141003_31 t154 t155)=some (r1,r2,r3,r4,r5,r6,r7):=H;have A44:=aS A440;clear A440;have H':=aS H;clear H;go_wp2_with (first|((with_reducible refine gate_callee (f:=94) rfl ?_);refine goesL_ (some 37) rfl rfl Tryz.func94 (by kernel_rfl) rfl #[.pointer (some ⟨g,0,none⟩)] rfl (by(try simp only[List.map_toArray,List.map_cons,List.map_nil])<;>rfl) ?_;(with_reducible refine(spec_l71Good.calls kj31 g s0_0 x1001_31 t154 t155 t156 w0 _ ?side1 ?side2 A44.out).mono ?_);(case side1=>repeat(with_reducible first|exact HI0.out|apply sA|apply sN|apply sD|apply sS|refine IsS86.far ?_ NB0_137.out _|refine IsS86.far ?_ NB0_140.out _));(case side2=>repeat(with_reducible first|exact HB.out|apply bA|apply bN|apply b1|refine below_set ?_ (IsS86.ge HI0.out)|refine below_set ?_ GE137.out|refine below_set ?_ GE140.out));rintro e w45 ⟨rfl,hi,hb,hk⟩;refine⟨_,rfl,?_⟩;replace HO_6:=aS (Kd.R_mono (Kd.R_keep (IsS86.apart (show IsS86 w0 _ g s0_0 x1001_31 from by repeat(with_reducible first|exact HI0.out|apply sA|apply sN|apply sD|apply sS|refine IsS86.far ?_ NB0_137.out _|refine IsS86.far ?_ NB0_140.out _)) (by exact rU HO_6.out) (by decide)) hk (fun _ h=>h.2)) (fun _ h=>h.1));replace BK137:=aS (KeepBut.blk hk (g':=gb137) (o:=.cells #[.int .i64 0,.int .i64 0,.int .i64 0,.int .i64 0,.int .i64 0,.int .i64 0] 39 (0,0)) (by exact blkU BK137.out) NB137_0.out (by simp));replace BK140:=aS (KeepBut.blk hk (g':=gb140) (o:=.cells #[.int .i64 (wrap64 (1+t138)),.int .i64 x141001_5,.int .i64 x141002_22,.int .i64 x141003_31,.int .i64 0,.int .i64 0] 39 (0,0)) (by exact blkU BK140.out) NB140_0.out (by simp));replace HK:=aS (KeepBut.trans (by repeat(with_reducible first|exact HK.out|apply pS|apply pN|apply pD|apply pA|refine keep_far ?_ GW137.out _|refine keep_far ?_ GW140.out _)) hk (.inl rfl));replace HB:=aS (hb);replace HI0:=aS (hi);(try clear hb);(try clear hk);(try clear hi);have hnb46:=NB140_137.out;have hnc46:=NB137_140.out;have hnb47:=NB140_0.out;have hnc47:=NB0_140.out;obtain⟨hcz48_0,hcz48_1,hcz48_2,hcz48_3,hcz48_4,hcz48_5⟩:=six_cells BK140.out;obtain⟨hfz48_0,hfz48_1,hfz48_2,hfz48_3,hfz48_4,hfz48_5⟩:=six_marks BK140.out))
             go_meet
             case rel=>exact⟨_,(t156),(t154),(t155),H',⟨by have:=HJ5.out;have:=HJ22.out;have:=HJ31.out;first|omega|exact Nat.le_refl _⟩,⟨by refine kU ?_;refine blk_far ?_ NB137_140.out _;refine kU ?_;refine blk_far ?_ NB137_140.out _;exact blkU BK137.out⟩,⟨by refine kU ?_;refine blk_put (cs:= #[.int .i64 (wrap64 (1+t138)),.int .i64 x141001_5,.int .i64 x141002_22,.int .i64 x141003_31,.int .i64 t154,.int .i64 0]) ?_ 5 _ rfl;refine kU ?_;refine blk_put (cs:= #[.int .i64 (wrap64 (1+t138)),.int .i64 x141001_5,.int .i64 x141002_22,.int .i64 x141003_31,.int .i64 0,.int .i64 0]) ?_ 4 _ rfl;exact blkU BK140.out⟩,⟨by repeat(with_reducible first|exact HI0.out|apply sA|apply sN|apply sD|apply sS|refine IsS86.far ?_ NB0_137.out _|refine IsS86.far ?_ NB0_140.out _)⟩,⟨by repeat(with_reducible first|exact HK.out|apply pS|apply pN|apply pD|apply pA|refine keep_far ?_ GW137.out _|refine keep_far ?_ GW140.out _)⟩,⟨by repeat(with_reducible first|exact HB.out|apply bA|apply bN|apply b1|refine below_set ?_ (IsS86.ge HI0.out)|refine below_set ?_ GE137.out|refine below_set ?_ GE140.out)⟩⟩
            ·replace c43:=Bool.eq_false_iff.mpr c43
             subst c43;have H1:(spec_l71Op.j3 kj31 s0_0 x1001_31 (wrap64 (1+t138)) x141001_5 x141002_22 x141003_31 0 0)=some (r1,r2,r3,r4,r5,r6,r7):=by rw[if_neg (show¬(false=true) by decide)]at H;exact H
             clear H;have H:=H1;clear H1;have H':=aS H;clear H;go_wp2
             go_meet
             case rel=>exact⟨_,(x1001_31),(0),(0),H',⟨by have:=HJ5.out;have:=HJ22.out;have:=HJ31.out;first|omega|exact Nat.le_refl _⟩,⟨by exact blkU BK137.out⟩,⟨by exact blkU BK140.out⟩,⟨by repeat(with_reducible first|exact HI0.out|apply sA|apply sN|apply sD|apply sS|refine IsS86.far ?_ NB0_137.out _|refine IsS86.far ?_ NB0_140.out _)⟩,⟨by repeat(with_reducible first|exact HK.out|apply pS|apply pN|apply pD|apply pA|refine keep_far ?_ GW137.out _|refine keep_far ?_ GW140.out _)⟩,⟨by repeat(with_reducible first|exact HB.out|apply bA|apply bN|apply b1|refine below_set ?_ (IsS86.ge HI0.out)|refine below_set ?_ GE137.out|refine below_set ?_ GE140.out)⟩⟩
           case rest=>
            clear HC41;(try clear c1);(try clear p1);(try clear q1);(try clear hx1);(try clear qi1);(try clear c2);(try clear p2);(try clear q2);(try clear c3);(try clear q3);(try clear c4);(try clear q4);(try clear c5);(try clear c5b0);(try clear c5b1);(try clear p6);(try clear c7);(try clear c9);(try clear c10);(try clear c11);(try clear p14);(try clear q14);(try clear hx14);(try clear qi14);(try clear p15);(try clear q15);(try clear hx15);(try clear qi15);(try clear c16);(try clear c19);(try clear c20);(try clear c22);(try clear c22b0);(try clear c22b1);(try clear q24);(try clear c25);(try clear c28);(try clear c29);(try clear c30);(try clear c31);(try clear c31b0);(try clear c31b1);(try clear q33);(try clear c34);(try clear c37);(try clear c38);(try clear c40);(try clear c40b0);(try clear c40b1);(try clear q42);(try clear c43);(try clear c46);(try clear c47);(try clear hcz12_0);(try clear hcz12_1);(try clear hcz12_2);(try clear hcz12_3);(try clear hcz12_4);(try clear hcz12_5);(try clear hcz21_0);(try clear hcz21_1);(try clear hcz21_2);(try clear hcz21_3);(try clear hcz21_4);(try clear hcz21_5);(try clear hcz30_0);(try clear hcz30_1);(try clear hcz30_2);(try clear hcz30_3);(try clear hcz30_4);(try clear hcz30_5);(try clear hcz39_0);(try clear hcz39_1);(try clear hcz39_2);(try clear hcz39_3);(try clear hcz39_4);(try clear hcz39_5);(try clear hcz48_0);(try clear hcz48_1);(try clear hcz48_2);(try clear hcz48_3);(try clear hcz48_4);(try clear hcz48_5);(try clear hfz12_0);(try clear hfz12_1);(try clear hfz12_2);(try clear hfz12_3);(try clear hfz12_4);(try clear hfz12_5);(try clear hfz21_0);(try clear hfz21_1);(try clear hfz21_2);(try clear hfz21_3);(try clear hfz21_4);(try clear hfz21_5);(try clear hfz30_0);(try clear hfz30_1);(try clear hfz30_2);(try clear hfz30_3);(try clear hfz30_4);(try clear hfz30_5);(try clear hfz39_0);(try clear hfz39_1);(try clear hfz39_2);(try clear hfz39_3);(try clear hfz39_4);(try clear hfz39_5);(try clear hfz48_0);(try clear hfz48_1);(try clear hfz48_2);(try clear hfz48_3);(try clear hfz48_4);(try clear hfz48_5);(try clear hx144_0);(try clear hx147_0);(try clear hx150_0);(try clear hx153_0);(try clear p1);(try clear p14);(try clear p144);(try clear p147);(try clear p15);(try clear p150);(try clear p153);(try clear p2);(try clear p6);(try clear q1);(try clear q14);(try clear q144);(try clear q147);(try clear q15);(try clear q150);(try clear q153);(try clear q2);(try clear q24);(try clear q3);(try clear q33)
            obtain⟨kq,x1001_40,x141004_40,x141005_40,HA,HJ40,BK137,BK140,HI0,HK,HB⟩:=hcut;cases kq with
            |zero=>exact absurd HA.out (by simp[spec_l71Op.j3])
            |succ kj40=>
             have H:=HA.out;clear HA;simp only[spec_l71Op.j3]at H
             by_cases c49:(wrap64 (1+t138))=8
             ·rw[if_pos c49]at H
              have c49b0:((wrap64 (1+t138))==8)=true:=beq_iff_eq.mpr c49;have c49b1:((wrap64 (1+t138)) !=8)=false:=bne_eq_false_iff_eq.mpr c49;clear c49;replace H:=Option.bind_eq_some_iff.mp H;obtain⟨⟨t157,t158⟩,A500,H⟩:=H;replace H:(some ((wrap64 (1+t138)),x141001_5,x141002_22,x141003_31,1,wrap64 (1+t157),t158))=some (r1,r2,r3,r4,r5,r6,r7):=H;have A50:=aS A500;clear A500;simp only[Option.some.injEq,Prod.mk.injEq]at H
              obtain⟨rfl,rfl,rfl,rfl,rfl,rfl,rfl⟩:=H;have hnb51:=NB140_137.out;have hnc51:=NB137_140.out;have hnb52:=NB140_0.out;have hnc52:=NB0_140.out;have hcz53_0:wc.cell? ⟨gb140,0,none⟩=some (.int .i64 (wrap64 (1+t138))):=(blk_cell BK140.out 0).trans rfl;have hcz53_1:wc.cell? ⟨gb140,1,none⟩=some (.int .i64 x141001_5):=(blk_cell BK140.out 1).trans rfl;have hcz53_2:wc.cell? ⟨gb140,2,none⟩=some (.int .i64 x141002_22):=(blk_cell BK140.out 2).trans rfl;have hcz53_3:wc.cell? ⟨gb140,3,none⟩=some (.int .i64 x141003_31):=(blk_cell BK140.out 3).trans rfl;have hcz53_4:wc.cell? ⟨gb140,4,none⟩=some (.int .i64 x141004_40):=(blk_cell BK140.out 4).trans rfl;have hcz53_5:wc.cell? ⟨gb140,5,none⟩=some (.int .i64 x141005_40):=(blk_cell BK140.out 5).trans rfl;have hfz53_0:=blk_frozen BK140.out 0;have hfz53_1:=blk_frozen BK140.out 1;have hfz53_2:=blk_frozen BK140.out 2;have hfz53_3:=blk_frozen BK140.out 3;have hfz53_4:=blk_frozen BK140.out 4;have hfz53_5:=blk_frozen BK140.out 5;go_wp2_with (first|((with_reducible refine gate_callee (f:=30) rfl ?_);refine goesL_ (some 44) rfl rfl Tryz.func30 (by kernel_rfl) rfl #[.pointer (some ⟨g,0,none⟩),.int .i64 3] rfl (by(try simp only[List.map_toArray,List.map_cons,List.map_nil])<;>rfl) ?_;(with_reducible refine(spec_l6Rd_pick.calls kj40 g s0_0 x1001_40 3 t157 t158 w0 _ ?side1 ?side2 A50.out).mono ?_);(case side1=>repeat(with_reducible first|exact HI0.out|apply sA|apply sN|apply sD|apply sS|refine IsS86.far ?_ NB0_137.out _|refine IsS86.far ?_ NB0_140.out _));(case side2=>repeat(with_reducible first|exact HB.out|apply bA|apply bN|apply b1|refine below_set ?_ (IsS86.ge HI0.out)|refine below_set ?_ GE137.out|refine below_set ?_ GE140.out));rintro e w54 ⟨rfl,hi,hb,hk⟩;refine⟨_,rfl,?_⟩;replace BK137:=aS (KeepBut.blk hk (g':=gb137) (o:=.cells #[.int .i64 0,.int .i64 0,.int .i64 0,.int .i64 0,.int .i64 0,.int .i64 0] 39 (0,0)) (by exact blkU BK137.out) NB137_0.out (by simp));replace BK140:=aS (KeepBut.blk hk (g':=gb140) (o:=.cells #[.int .i64 (wrap64 (1+t138)),.int .i64 x141001_5,.int .i64 x141002_22,.int .i64 x141003_31,.int .i64 x141004_40,.int .i64 x141005_40] 39 (0,0)) (by exact blkU BK140.out) NB140_0.out (by simp));replace HK:=aS (KeepBut.trans (by repeat(with_reducible first|exact HK.out|apply pS|apply pN|apply pD|apply pA|refine keep_far ?_ GW137.out _|refine keep_far ?_ GW140.out _)) hk (.inl rfl));replace HB:=aS (hb);replace HI0:=aS (hi);(try clear hb);(try clear hk);(try clear hi);obtain⟨hcz55_0,hcz55_1,hcz55_2,hcz55_3,hcz55_4,hcz55_5⟩:=six_cells BK140.out;obtain⟨hfz55_0,hfz55_1,hfz55_2,hfz55_3,hfz55_4,hfz55_5⟩:=six_marks BK140.out;have hnb56:=NB137_0.out;have hnc56:=NB0_137.out;obtain⟨hcz57_0,hcz57_1,hcz57_2,hcz57_3,hcz57_4,hcz57_5⟩:=six_cells BK137.out;obtain⟨hfz57_0,hfz57_1,hfz57_2,hfz57_3,hfz57_4,hfz57_5⟩:=six_marks BK137.out))
              refine bodyPost_ret (results_cell_row rfl _ _ gb137 39 #[.int .i64 (wrap64 (1+t138)),.int .i64 x141001_5,.int .i64 x141002_22,.int .i64 x141003_31,.int .i64 1,.int .i64 (wrap64 (1+t157))] (0,0) _ rfl (by refine kU ?_;refine blk_put (cs:= #[.int .i64 (wrap64 (1+t138)),.int .i64 x141001_5,.int .i64 x141002_22,.int .i64 x141003_31,.int .i64 1,.int .i64 0]) ?_ 5 _ rfl;refine kU ?_;refine blk_put (cs:= #[.int .i64 (wrap64 (1+t138)),.int .i64 x141001_5,.int .i64 x141002_22,.int .i64 x141003_31,.int .i64 0,.int .i64 0]) ?_ 4 _ rfl;refine kU ?_;refine blk_put (cs:= #[.int .i64 (wrap64 (1+t138)),.int .i64 x141001_5,.int .i64 x141002_22,.int .i64 0,.int .i64 0,.int .i64 0]) ?_ 3 _ rfl;refine kU ?_;refine blk_put (cs:= #[.int .i64 (wrap64 (1+t138)),.int .i64 x141001_5,.int .i64 0,.int .i64 0,.int .i64 0,.int .i64 0]) ?_ 2 _ rfl;refine kU ?_;refine blk_put (cs:= #[.int .i64 (wrap64 (1+t138)),.int .i64 0,.int .i64 0,.int .i64 0,.int .i64 0,.int .i64 0]) ?_ 1 _ rfl;refine kU ?_;refine blk_put (cs:= #[.int .i64 0,.int .i64 0,.int .i64 0,.int .i64 0,.int .i64 0,.int .i64 0]) ?_ 0 _ rfl;refine kU ?_;refine blk_far ?_ NB137_140.out _;refine kU ?_;refine blk_far ?_ NB137_140.out _;exact blkU BK137.out) Tryz.underlying39 rfl (by kernel_rfl)) rfl ?_
              exact⟨by first|rfl|(simp[*]<;>rfl),by repeat(with_reducible first|exact HI0.out|apply sA|apply sN|apply sD|apply sS|refine IsS86.far ?_ NB0_137.out _|refine IsS86.far ?_ NB0_140.out _),by repeat(with_reducible first|exact HB.out|apply bA|apply bN|apply b1|refine below_set ?_ (IsS86.ge HI0.out)|refine below_set ?_ GE137.out|refine below_set ?_ GE140.out),by repeat(with_reducible first|exact HK.out|apply pS|apply pN|apply pD|apply pA|refine keep_far ?_ GW137.out _|refine keep_far ?_ GW140.out _)⟩
             ·rw[if_neg c49]at H
              have c49b0:((wrap64 (1+t138))==8)=false:=beq_eq_false_iff_ne.mpr c49;have c49b1:((wrap64 (1+t138)) !=8)=true:=bne_iff_ne.mpr c49;by_cases c58:(wrap64 (1+t138))=13
              ·rw[if_pos c58]at H
               have c58b0:((wrap64 (1+t138))==13)=true:=beq_iff_eq.mpr c58;have c58b1:((wrap64 (1+t138)) !=13)=false:=bne_eq_false_iff_eq.mpr c58;clear c58;replace H:=Option.bind_eq_some_iff.mp H;obtain⟨⟨t159,t160⟩,A590,H⟩:=H;replace H:(some ((wrap64 (1+t138)),x141001_5,x141002_22,x141003_31,1,t159,t160))=some (r1,r2,r3,r4,r5,r6,r7):=H;have A59:=aS A590;clear A590;simp only[Option.some.injEq,Prod.mk.injEq]at H
               obtain⟨rfl,rfl,rfl,rfl,rfl,rfl,rfl⟩:=H;have hnb60:=NB140_137.out;have hnc60:=NB137_140.out;have hnb61:=NB140_0.out;have hnc61:=NB0_140.out;have hcz62_0:wc.cell? ⟨gb140,0,none⟩=some (.int .i64 (wrap64 (1+t138))):=(blk_cell BK140.out 0).trans rfl;have hcz62_1:wc.cell? ⟨gb140,1,none⟩=some (.int .i64 x141001_5):=(blk_cell BK140.out 1).trans rfl;have hcz62_2:wc.cell? ⟨gb140,2,none⟩=some (.int .i64 x141002_22):=(blk_cell BK140.out 2).trans rfl;have hcz62_3:wc.cell? ⟨gb140,3,none⟩=some (.int .i64 x141003_31):=(blk_cell BK140.out 3).trans rfl;have hcz62_4:wc.cell? ⟨gb140,4,none⟩=some (.int .i64 x141004_40):=(blk_cell BK140.out 4).trans rfl;have hcz62_5:wc.cell? ⟨gb140,5,none⟩=some (.int .i64 x141005_40):=(blk_cell BK140.out 5).trans rfl;have hfz62_0:=blk_frozen BK140.out 0;have hfz62_1:=blk_frozen BK140.out 1;have hfz62_2:=blk_frozen BK140.out 2;have hfz62_3:=blk_frozen BK140.out 3;have hfz62_4:=blk_frozen BK140.out 4;have hfz62_5:=blk_frozen BK140.out 5;go_wp2_with (first|((with_reducible refine gate_callee (f:=30) rfl ?_);refine goesL_ (some 51) rfl rfl Tryz.func30 (by kernel_rfl) rfl #[.pointer (some ⟨g,0,none⟩),.int .i64 2] rfl (by(try simp only[List.map_toArray,List.map_cons,List.map_nil])<;>rfl) ?_;(with_reducible refine(spec_l6Rd_pick.calls kj40 g s0_0 x1001_40 2 t159 t160 w0 _ ?side1 ?side2 A59.out).mono ?_);(case side1=>repeat(with_reducible first|exact HI0.out|apply sA|apply sN|apply sD|apply sS|refine IsS86.far ?_ NB0_137.out _|refine IsS86.far ?_ NB0_140.out _));(case side2=>repeat(with_reducible first|exact HB.out|apply bA|apply bN|apply b1|refine below_set ?_ (IsS86.ge HI0.out)|refine below_set ?_ GE137.out|refine below_set ?_ GE140.out));rintro e w63 ⟨rfl,hi,hb,hk⟩;refine⟨_,rfl,?_⟩;replace BK137:=aS (KeepBut.blk hk (g':=gb137) (o:=.cells #[.int .i64 0,.int .i64 0,.int .i64 0,.int .i64 0,.int .i64 0,.int .i64 0] 39 (0,0)) (by exact blkU BK137.out) NB137_0.out (by simp));replace BK140:=aS (KeepBut.blk hk (g':=gb140) (o:=.cells #[.int .i64 (wrap64 (1+t138)),.int .i64 x141001_5,.int .i64 x141002_22,.int .i64 x141003_31,.int .i64 x141004_40,.int .i64 x141005_40] 39 (0,0)) (by exact blkU BK140.out) NB140_0.out (by simp));replace HK:=aS (KeepBut.trans (by repeat(with_reducible first|exact HK.out|apply pS|apply pN|apply pD|apply pA|refine keep_far ?_ GW137.out _|refine keep_far ?_ GW140.out _)) hk (.inl rfl));replace HB:=aS (hb);replace HI0:=aS (hi);(try clear hb);(try clear hk);(try clear hi);obtain⟨hcz64_0,hcz64_1,hcz64_2,hcz64_3,hcz64_4,hcz64_5⟩:=six_cells BK140.out;obtain⟨hfz64_0,hfz64_1,hfz64_2,hfz64_3,hfz64_4,hfz64_5⟩:=six_marks BK140.out;have hnb65:=NB137_0.out;have hnc65:=NB0_137.out;obtain⟨hcz66_0,hcz66_1,hcz66_2,hcz66_3,hcz66_4,hcz66_5⟩:=six_cells BK137.out;obtain⟨hfz66_0,hfz66_1,hfz66_2,hfz66_3,hfz66_4,hfz66_5⟩:=six_marks BK137.out))
               refine bodyPost_ret (results_cell_row rfl _ _ gb137 39 #[.int .i64 (wrap64 (1+t138)),.int .i64 x141001_5,.int .i64 x141002_22,.int .i64 x141003_31,.int .i64 1,.int .i64 t159] (0,0) _ rfl (by refine kU ?_;refine blk_put (cs:= #[.int .i64 (wrap64 (1+t138)),.int .i64 x141001_5,.int .i64 x141002_22,.int .i64 x141003_31,.int .i64 1,.int .i64 0]) ?_ 5 _ rfl;refine kU ?_;refine blk_put (cs:= #[.int .i64 (wrap64 (1+t138)),.int .i64 x141001_5,.int .i64 x141002_22,.int .i64 x141003_31,.int .i64 0,.int .i64 0]) ?_ 4 _ rfl;refine kU ?_;refine blk_put (cs:= #[.int .i64 (wrap64 (1+t138)),.int .i64 x141001_5,.int .i64 x141002_22,.int .i64 0,.int .i64 0,.int .i64 0]) ?_ 3 _ rfl;refine kU ?_;refine blk_put (cs:= #[.int .i64 (wrap64 (1+t138)),.int .i64 x141001_5,.int .i64 0,.int .i64 0,.int .i64 0,.int .i64 0]) ?_ 2 _ rfl;refine kU ?_;refine blk_put (cs:= #[.int .i64 (wrap64 (1+t138)),.int .i64 0,.int .i64 0,.int .i64 0,.int .i64 0,.int .i64 0]) ?_ 1 _ rfl;refine kU ?_;refine blk_put (cs:= #[.int .i64 0,.int .i64 0,.int .i64 0,.int .i64 0,.int .i64 0,.int .i64 0]) ?_ 0 _ rfl;refine kU ?_;refine blk_far ?_ NB137_140.out _;refine kU ?_;refine blk_far ?_ NB137_140.out _;exact blkU BK137.out) Tryz.underlying39 rfl (by kernel_rfl)) rfl ?_
               exact⟨by first|rfl|(simp[*]<;>rfl),by repeat(with_reducible first|exact HI0.out|apply sA|apply sN|apply sD|apply sS|refine IsS86.far ?_ NB0_137.out _|refine IsS86.far ?_ NB0_140.out _),by repeat(with_reducible first|exact HB.out|apply bA|apply bN|apply b1|refine below_set ?_ (IsS86.ge HI0.out)|refine below_set ?_ GE137.out|refine below_set ?_ GE140.out),by repeat(with_reducible first|exact HK.out|apply pS|apply pN|apply pD|apply pA|refine keep_far ?_ GW137.out _|refine keep_far ?_ GW140.out _)⟩
              ·rw[if_neg c58]at H
               have c58b0:((wrap64 (1+t138))==13)=false:=beq_eq_false_iff_ne.mpr c58;have c58b1:((wrap64 (1+t138)) !=13)=true:=bne_iff_ne.mpr c58;simp only[Option.some.injEq,Prod.mk.injEq]at H
               obtain⟨rfl,rfl,rfl,rfl,rfl,rfl,rfl⟩:=H;have hnb67:=NB140_137.out;have hnc67:=NB137_140.out;have hnb68:=NB140_0.out;have hnc68:=NB0_140.out;have hcz69_0:wc.cell? ⟨gb140,0,none⟩=some (.int .i64 (wrap64 (1+t138))):=(blk_cell BK140.out 0).trans rfl;have hcz69_1:wc.cell? ⟨gb140,1,none⟩=some (.int .i64 x141001_5):=(blk_cell BK140.out 1).trans rfl;have hcz69_2:wc.cell? ⟨gb140,2,none⟩=some (.int .i64 x141002_22):=(blk_cell BK140.out 2).trans rfl;have hcz69_3:wc.cell? ⟨gb140,3,none⟩=some (.int .i64 x141003_31):=(blk_cell BK140.out 3).trans rfl;have hcz69_4:wc.cell? ⟨gb140,4,none⟩=some (.int .i64 x141004_40):=(blk_cell BK140.out 4).trans rfl;have hcz69_5:wc.cell? ⟨gb140,5,none⟩=some (.int .i64 x141005_40):=(blk_cell BK140.out 5).trans rfl;have hfz69_0:=blk_frozen BK140.out 0;have hfz69_1:=blk_frozen BK140.out 1;have hfz69_2:=blk_frozen BK140.out 2;have hfz69_3:=blk_frozen BK140.out 3;have hfz69_4:=blk_frozen BK140.out 4;have hfz69_5:=blk_frozen BK140.out 5;have hnb70:=NB137_0.out;have hnc70:=NB0_137.out;have hcz71_0:wc.cell? ⟨gb137,0,none⟩=some (.int .i64 0):=(blk_cell BK137.out 0).trans rfl;have hcz71_1:wc.cell? ⟨gb137,1,none⟩=some (.int .i64 0):=(blk_cell BK137.out 1).trans rfl;have hcz71_2:wc.cell? ⟨gb137,2,none⟩=some (.int .i64 0):=(blk_cell BK137.out 2).trans rfl;have hcz71_3:wc.cell? ⟨gb137,3,none⟩=some (.int .i64 0):=(blk_cell BK137.out 3).trans rfl;have hcz71_4:wc.cell? ⟨gb137,4,none⟩=some (.int .i64 0):=(blk_cell BK137.out 4).trans rfl;have hcz71_5:wc.cell? ⟨gb137,5,none⟩=some (.int .i64 0):=(blk_cell BK137.out 5).trans rfl;have hfz71_0:=blk_frozen BK137.out 0;have hfz71_1:=blk_frozen BK137.out 1;have hfz71_2:=blk_frozen BK137.out 2;have hfz71_3:=blk_frozen BK137.out 3;have hfz71_4:=blk_frozen BK137.out 4;have hfz71_5:=blk_frozen BK137.out 5;go_wp2
               refine bodyPost_ret (results_cell_row rfl _ _ gb137 39 #[.int .i64 (wrap64 (1+t138)),.int .i64 x141001_5,.int .i64 x141002_22,.int .i64 x141003_31,.int .i64 x141004_40,.int .i64 x141005_40] (0,0) _ rfl (by refine kU ?_;refine blk_put (cs:= #[.int .i64 (wrap64 (1+t138)),.int .i64 x141001_5,.int .i64 x141002_22,.int .i64 x141003_31,.int .i64 x141004_40,.int .i64 0]) ?_ 5 _ rfl;refine kU ?_;refine blk_put (cs:= #[.int .i64 (wrap64 (1+t138)),.int .i64 x141001_5,.int .i64 x141002_22,.int .i64 x141003_31,.int .i64 0,.int .i64 0]) ?_ 4 _ rfl;refine kU ?_;refine blk_put (cs:= #[.int .i64 (wrap64 (1+t138)),.int .i64 x141001_5,.int .i64 x141002_22,.int .i64 0,.int .i64 0,.int .i64 0]) ?_ 3 _ rfl;refine kU ?_;refine blk_put (cs:= #[.int .i64 (wrap64 (1+t138)),.int .i64 x141001_5,.int .i64 0,.int .i64 0,.int .i64 0,.int .i64 0]) ?_ 2 _ rfl;refine kU ?_;refine blk_put (cs:= #[.int .i64 (wrap64 (1+t138)),.int .i64 0,.int .i64 0,.int .i64 0,.int .i64 0,.int .i64 0]) ?_ 1 _ rfl;refine kU ?_;refine blk_put (cs:= #[.int .i64 0,.int .i64 0,.int .i64 0,.int .i64 0,.int .i64 0,.int .i64 0]) ?_ 0 _ rfl;exact blkU BK137.out) Tryz.underlying39 rfl (by kernel_rfl)) rfl ?_
               exact⟨by first|rfl|(simp[*]<;>rfl),by repeat(with_reducible first|exact HI0.out|apply sA|apply sN|apply sD|apply sS|refine IsS86.far ?_ NB0_137.out _|refine IsS86.far ?_ NB0_140.out _),by repeat(with_reducible first|exact HB.out|apply bA|apply bN|apply b1|refine below_set ?_ (IsS86.ge HI0.out)|refine below_set ?_ GE137.out|refine below_set ?_ GE140.out),by repeat(with_reducible first|exact HK.out|apply pS|apply pN|apply pD|apply pA|refine keep_far ?_ GW137.out _|refine keep_far ?_ GW140.out _)⟩
          ·rw[if_neg c40]at H
           exact absurd H (by simp)
       ·rw[if_neg c31]at H
        exact absurd H (by simp)
    ·rw[if_neg c22]at H
     exact absurd H (by simp)
 ·rw[if_neg c5]at H
  exact absurd H (by simp)
end Go.Proofs.YtmklpbmlgjkbiaaGreatDoor.PD
end
