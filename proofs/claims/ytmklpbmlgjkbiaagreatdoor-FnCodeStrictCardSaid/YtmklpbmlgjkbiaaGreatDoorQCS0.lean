/- What the rows of CS rest on, part 1. -/
import Derived.Test.YtmklpbmlgjkbiaaGreatDoorProg
import Derived.Below
import Derived.Deep.Draws
import Derived.Deep.AppendLies
import Derived.Maps.AppendAt
import Derived.OwnWalk
import Derived.Laws.BytesArg
import Derived.Laws.MakeOwn
import Derived.Laws.OwnMore
import Derived.Deep.OwnRows
import Derived.Tactics
import Derived.Lib.ConvBytes
import Derived.Laws.Slices
import Derived.WalkKit
import Derived.KernelRfl
import Derived.RowKit3
import Derived.Deep.LoopGhost
import Derived.Deep.QuietTactic
import Derived.BigQuiet
import Derived.WideLaws
import Derived.Deep.DeepCutAuto
import Derived.Deep.CutBlock
import Derived.Deep.RegionHeld3
import Derived.Laws.Rows
import Derived.Lib.AppendStr
import Derived.ArgAppend
import Derived.Laws.IdiomCopy
import Derived.OrdersHeld
import Derived.Laws.BitsLemmas
import Derived.RowKit
import Derived.Laws.StructEq
import Derived.Deep.RegionWith
import Derived.Lib.Bytealg
import Derived.Shelf.Strings.Search3
import Derived.WalkSpells
import Derived.RegionTactic
import Derived.Lib.OthersKept
import Derived.Lib.Hide
import Derived.WalkSmall
import Derived.Shelf.Strings.Builder1
import Derived.Shelf.Small.Strs
import Derived.Shelf.Utf8.RuneCount
import Derived.Shelf.Strconv.Atoi
import Derived.Shelf.Strconv.Itoa0
import Derived.Shelf.Strconv.Itoa1
import Derived.Shelf.LaysM
import Derived.Shelf.Strconv.Itoa2
import Derived.Shelf.Strconv.Itoa3
import Derived.Shelf.Strconv.AtoiErrFast
import Derived.Shelf.Strconv.ParseIntEmpty
import Derived.Shelf.Strconv.AtoiFail
import Derived.Shelf.Strconv.Clone
import Derived.Shelf.Strconv.SyntaxError
import Derived.Shelf.LaysC
import Derived.Shelf.Strconv.ToError
import Derived.Shelf.Strconv.Lower
import Derived.Shelf.Strconv.ParseUint10
import Derived.Shelf.Strconv.ParseUint10Empty
import Derived.Shelf.Strconv.ParseUint10Any
import Derived.Shelf.Strconv.ParseInt10
import Derived.Shelf.Strconv.AtoiLong
import Derived.Shelf.Strconv.AtoiInnerAll
import Derived.Shelf.Strconv.RangeError
import Derived.Shelf.Strconv.ToErrorRange
import Derived.Shelf.Strconv.AtoiAll
import Derived.Shelf.Strconv.ErrVarAll
import Derived.Shelf.Strings.Search1
import Derived.Shelf.Strings.Search2
import Derived.Shelf.Strings.Count
import Derived.Shelf.Strings.Shaped
import Derived.Shelf.Strings.Prefix
import Derived.Shelf.Strings.Split
import Derived.Shelf.Strings.SplitShaped
import Derived.Shelf.Unicode.Decode
import Derived.Shelf.Strings.RuneCount
import Derived.Shelf.Strings.Explode
import Derived.Shelf.Unicode.DecodeSlow
import Derived.Shelf.Unicode.DecodeAny
import Derived.Lib.UnsafeStr
import Derived.Lib.Builder
import Derived.Laws.Externs
import Derived.Lib.AppendIntMem
import Derived.Outline
import Derived.Lib.AtoiErrMem
import Derived.Lib.Split
import Derived.Lib.SplitLaws
import Derived.Lib.CountLaws
import Derived.Lib.Strings
import Derived.RangeFuncNested
import Derived.RangeFuncBound
import Derived.RangeFuncCalls
import Derived.RangeFuncLeaves
import Derived.RangeFuncRecord
import Derived.Shelf.Abstract
import Derived.Shelf.RegionOpen
import Derived.OwnWalkIn
import Derived.TacticsInMore
import Derived.LoopNIn
import Derived.LoopIn
import Derived.RegionIn
import Derived.RangeFuncBox
import Derived.RangeFuncWrites
import Derived.Maps.OwnSet
import Derived.Maps.Views
import Derived.Test.YtmklpbmlgjkbiaaGreatDoorQCDB7
set_option linter.unusedVariables false
set_option linter.unusedSimpArgs false
set_option maxHeartbeats 8000000
set_option maxRecDepth 100000
section
namespace Go.Proofs.YtmklpbmlgjkbiaaGreatDoor.PS
open Go.RowKit Go.Proofs.YtmklpbmlgjkbiaaGreatDoorW.PrintWords Go.Proofs.YtmklpbmlgjkbiaaGreatDoorW.PrintLast Go.Proofs.YtmklpbmlgjkbiaaGreatDoorW.PrintMore
attribute [local go_sem] max2_int min2_int max_two min_two max_three min_three max_four min_four   -- for this text's walks alone
theorem spec_l1Dec.mono_l: ∀k,(∀y0 y1 y2,LeO (spec_l1Dec.j0 k y0 y1 y2) (spec_l1Dec.j0 (k+1) y0 y1 y2))∧(∀y0 y1,LeO (spec_l1Dec.j1 k y0 y1) (spec_l1Dec.j1 (k+1) y0 y1))∧(∀y0 y1 y2 y3,LeO (spec_l1Dec.l0 k y0 y1 y2 y3) (spec_l1Dec.l0 (k+1) y0 y1 y2 y3))∧(∀y0 y1 y2 y3 y4,LeO (spec_l1Dec.j3 k y0 y1 y2 y3 y4) (spec_l1Dec.j3 (k+1) y0 y1 y2 y3 y4))
 |0=>⟨fun _ _ _ r h=>by simp[spec_l1Dec.j0]at h,fun _ _ r h=>by simp[spec_l1Dec.j1]at h,fun _ _ _ _ r h=>by simp[spec_l1Dec.l0]at h,fun _ _ _ _ _ r h=>by simp[spec_l1Dec.j3]at h⟩
 |k+1=>by
  obtain⟨ih0,ih1,ih2,ih3⟩:=spec_l1Dec.mono_l k;refine⟨?_,?_,?_,?_⟩
  ·intro y0 y1 y2
   unfold spec_l1Dec.j0;repeat' first
   |(with_reducible exact ih0 _ _ _)
   |(with_reducible exact ih1 _ _)
   |(with_reducible exact ih2 _ _ _ _)
   |(with_reducible exact ih3 _ _ _ _ _)
   |(with_reducible exact LeO.refl _)
   |(with_reducible exact LeO.none _)
   |(with_reducible refine LeO.ite ?_ ?_)
   |(with_reducible refine LeO.bind ?_ (fun _=> ?_))
   |exact ih0 _ _ _
   |exact ih1 _ _
   |exact ih2 _ _ _ _
   |exact ih3 _ _ _ _ _
   |exact LeO.none _
   |refine LeO.ite ?_ ?_
   |refine LeO.bind ?_ (fun _=> ?_)
  ·intro y0 y1
   unfold spec_l1Dec.j1;repeat' first
   |(with_reducible exact ih0 _ _ _)
   |(with_reducible exact ih1 _ _)
   |(with_reducible exact ih2 _ _ _ _)
   |(with_reducible exact ih3 _ _ _ _ _)
   |(with_reducible exact LeO.refl _)
   |(with_reducible exact LeO.none _)
   |(with_reducible refine LeO.ite ?_ ?_)
   |(with_reducible refine LeO.bind ?_ (fun _=> ?_))
   |exact ih0 _ _ _
   |exact ih1 _ _
   |exact ih2 _ _ _ _
   |exact ih3 _ _ _ _ _
   |exact LeO.none _
   |refine LeO.ite ?_ ?_
   |refine LeO.bind ?_ (fun _=> ?_)
  ·intro y0 y1 y2 y3
   unfold spec_l1Dec.l0;repeat' first
   |(with_reducible exact ih0 _ _ _)
   |(with_reducible exact ih1 _ _)
   |(with_reducible exact ih2 _ _ _ _)
   |(with_reducible exact ih3 _ _ _ _ _)
   |(with_reducible exact LeO.refl _)
   |(with_reducible exact LeO.none _)
   |(with_reducible refine LeO.ite ?_ ?_)
   |(with_reducible refine LeO.bind ?_ (fun _=> ?_))
   |exact ih0 _ _ _
   |exact ih1 _ _
   |exact ih2 _ _ _ _
   |exact ih3 _ _ _ _ _
   |exact LeO.none _
   |refine LeO.ite ?_ ?_
   |refine LeO.bind ?_ (fun _=> ?_)
  ·intro y0 y1 y2 y3 y4
   unfold spec_l1Dec.j3;repeat' first
   |(with_reducible exact ih0 _ _ _)
   |(with_reducible exact ih1 _ _)
   |(with_reducible exact ih2 _ _ _ _)
   |(with_reducible exact ih3 _ _ _ _ _)
   |(with_reducible exact LeO.refl _)
   |(with_reducible exact LeO.none _)
   |(with_reducible refine LeO.ite ?_ ?_)
   |(with_reducible refine LeO.bind ?_ (fun _=> ?_))
   |exact ih0 _ _ _
   |exact ih1 _ _
   |exact ih2 _ _ _ _
   |exact ih3 _ _ _ _ _
   |exact LeO.none _
   |refine LeO.ite ?_ ?_
   |refine LeO.bind ?_ (fun _=> ?_)
theorem spec_l1Dec.mono: ∀a0 k,LeO (spec_l1Dec.f k a0) (spec_l1Dec.f (k+1) a0):=by
 intro a0 k;obtain⟨ih0,ih1,ih2,ih3⟩:=spec_l1Dec.mono_l k;unfold spec_l1Dec.f
 repeat' first
   |(with_reducible exact ih0 _ _ _)
   |(with_reducible exact ih1 _ _)
   |(with_reducible exact ih2 _ _ _ _)
   |(with_reducible exact ih3 _ _ _ _ _)
   |(with_reducible exact LeO.refl _)
   |(with_reducible exact LeO.none _)
   |(with_reducible refine LeO.ite ?_ ?_)
   |(with_reducible refine LeO.bind ?_ (fun _=> ?_))
   |exact ih0 _ _ _
   |exact ih1 _ _
   |exact ih2 _ _ _ _
   |exact ih3 _ _ _ _ _
   |exact LeO.none _
   |refine LeO.ite ?_ ?_
   |refine LeO.bind ?_ (fun _=> ?_)
theorem spec_l6Dec.mono_l: ∀k,(∀y0,LeO (spec_l6Dec.f k y0) (spec_l6Dec.f (k+1) y0))
 |0=>fun _ r h=>by simp[spec_l6Dec.f]at h
 |k+1=>by
  have ih0:=spec_l6Dec.mono_l k
  ·intro y0
   unfold spec_l6Dec.f;repeat' first
   |(with_reducible exact ih0 _)
   |(with_reducible exact LeO.refl _)
   |(with_reducible exact LeO.none _)
   |(with_reducible refine LeO.ite ?_ ?_)
   |(with_reducible refine LeO.bind ?_ (fun _=> ?_))
   |exact ih0 _
   |exact LeO.none _
   |refine LeO.ite ?_ ?_
   |refine LeO.bind ?_ (fun _=> ?_)
theorem spec_l6Dec.mono: ∀a0 k,LeO (spec_l6Dec.f k a0) (spec_l6Dec.f (k+1) a0):=by
 intro a0 k;have ih0:=spec_l6Dec.mono_l k;exact ih0 a0
theorem spec_ValText.mono: ∀a0 a1 k,LeO (spec_ValText.f k a0 a1) (spec_ValText.f (k+1) a0 a1):=by
 intro a0 a1 k;unfold spec_ValText.f
 repeat' first
   |(with_reducible exact spec_l6Dec.mono _ _)
   |(with_reducible exact LeO.refl _)
   |(with_reducible exact LeO.none _)
   |(with_reducible refine LeO.ite ?_ ?_)
   |(with_reducible refine LeO.bind ?_ (fun _=> ?_))
   |exact spec_l6Dec.mono _ _
   |exact LeO.none _
   |refine LeO.ite ?_ ?_
   |refine LeO.bind ?_ (fun _=> ?_)
theorem spec_ValRead.mono_l: ∀k,(∀y0 y1 y2 y3,LeO (spec_ValRead.j0 k y0 y1 y2 y3) (spec_ValRead.j0 (k+1) y0 y1 y2 y3))∧(∀y0 y1 y2,LeO (spec_ValRead.j1 k y0 y1 y2) (spec_ValRead.j1 (k+1) y0 y1 y2))
 |0=>⟨fun _ _ _ _ r h=>by simp[spec_ValRead.j0]at h,fun _ _ _ r h=>by simp[spec_ValRead.j1]at h⟩
 |k+1=>by
  obtain⟨ih0,ih1⟩:=spec_ValRead.mono_l k;refine⟨?_,?_⟩
  ·intro y0 y1 y2 y3
   unfold spec_ValRead.j0;repeat' first
   |(with_reducible exact ih0 _ _ _ _)
   |(with_reducible exact ih1 _ _ _)
   |(with_reducible exact spec_ValText.mono _ _ _)
   |(with_reducible exact spec_l1Dec.mono _ _)
   |(with_reducible exact LeO.refl _)
   |(with_reducible exact LeO.none _)
   |(with_reducible refine LeO.ite ?_ ?_)
   |(with_reducible refine LeO.bind ?_ (fun _=> ?_))
   |exact ih0 _ _ _ _
   |exact ih1 _ _ _
   |exact spec_ValText.mono _ _ _
   |exact spec_l1Dec.mono _ _
   |exact LeO.none _
   |refine LeO.ite ?_ ?_
   |refine LeO.bind ?_ (fun _=> ?_)
  ·intro y0 y1 y2
   unfold spec_ValRead.j1;repeat' first
   |(with_reducible exact ih0 _ _ _ _)
   |(with_reducible exact ih1 _ _ _)
   |(with_reducible exact spec_ValText.mono _ _ _)
   |(with_reducible exact spec_l1Dec.mono _ _)
   |(with_reducible exact LeO.refl _)
   |(with_reducible exact LeO.none _)
   |(with_reducible refine LeO.ite ?_ ?_)
   |(with_reducible refine LeO.bind ?_ (fun _=> ?_))
   |exact ih0 _ _ _ _
   |exact ih1 _ _ _
   |exact spec_ValText.mono _ _ _
   |exact spec_l1Dec.mono _ _
   |exact LeO.none _
   |refine LeO.ite ?_ ?_
   |refine LeO.bind ?_ (fun _=> ?_)
theorem spec_ValRead.mono: ∀a0 k,LeO (spec_ValRead.f k a0) (spec_ValRead.f (k+1) a0):=by
 intro a0 k;obtain⟨ih0,ih1⟩:=spec_ValRead.mono_l k;unfold spec_ValRead.f
 repeat' first
   |(with_reducible exact ih0 _ _ _ _)
   |(with_reducible exact ih1 _ _ _)
   |(with_reducible exact spec_ValText.mono _ _ _)
   |(with_reducible exact spec_l1Dec.mono _ _)
   |(with_reducible exact LeO.refl _)
   |(with_reducible exact LeO.none _)
   |(with_reducible refine LeO.ite ?_ ?_)
   |(with_reducible refine LeO.bind ?_ (fun _=> ?_))
   |exact ih0 _ _ _ _
   |exact ih1 _ _ _
   |exact spec_ValText.mono _ _ _
   |exact spec_l1Dec.mono _ _
   |exact LeO.none _
   |refine LeO.ite ?_ ?_
   |refine LeO.bind ?_ (fun _=> ?_)
end Go.Proofs.YtmklpbmlgjkbiaaGreatDoor.PS
end
section
namespace Go.Proofs.YtmklpbmlgjkbiaaGreatDoor.PS
open Go.Proofs.YtmklpbmlgjkbiaaGreatDoor.PC Go.Proofs.YtmklpbmlgjkbiaaGreatDoor.PD Go.RowKit Go.Proofs.YtmklpbmlgjkbiaaGreatDoorW.PrintWords Go.Proofs.YtmklpbmlgjkbiaaGreatDoorW.PrintLast
def Opened (w:World) (e:Ending) (w':World):Prop:= ∃g:Nat,e= .returned (.pointer (some ⟨g,0,none⟩))∧RD w w' g 0
theorem open_w (A0:Option Addr) (c0:Nat) (l0:List Int) (w:World) (hr0:Kd.C (Kd.int .u8) w A0 l0.length l0) (hc0:l0.length≤c0) (hw: ∀x∈l0,(Lit.int .u8 x).wf=true):
    Calls Tryz.prog 25 #[.slice A0 l0.length c0] w (Opened w):=by
  obtain⟨b,hb,hB⟩:=open_ok hw;exact(spec_l6Open.calls A0 c0 l0 b 0 w w (Below.refl _ _) hr0 hc0 hb).mono fun e w' ⟨g,h1,h2,h3,h4⟩=>⟨g,h1,b,0,hB,h2,by omega,by omega,h3⟩
def DrewN (w0 w:World) (g N:Nat) (n:Int) (e:Ending) (w':World):Prop:= ∃x:Int,e= .returned (.int .i64 x)∧0≤x∧x<n∧RD w0 w' g N∧KeepBut w w' g none
theorem pick_w {w0 w:World} {g N:Nat} (h:RD w0 w g N) (hN:N<600000) (n:Int) (hn:1≤n) (hn':n<1000000):
    Calls Tryz.prog 30 #[.pointer (some ⟨g,0,none⟩),.int .i64 n] w (DrewN w0 w g (N+1) n):=by
  obtain⟨b,p,h1,h2,h3,h4,h5⟩:=h;obtain⟨x,hx,x0,x1, -⟩:=pick_ok h1 0 p n h3 (by omega) hn'
  exact(spec_l6Rd_pick.calls 1 g b p n x (p+1) w0 w h2 h5 hx).mono fun e w' ⟨e1,e2,e3,e4⟩=>⟨x,e1,x0,x1 hn,⟨b,p+1,h1,e2,by omega,by omega,e3⟩,e4⟩
def DrewStr (w0 w:World) (g N:Nat) (e:Ending) (w':World):Prop:= ∃s:ByteArray,e= .returned (.string s)∧s.size≤10∧RD w0 w' g N∧KeepBut w w' g none
theorem of_w {w0 w:World} {g N:Nat} (h:RD w0 w g N) (hN:N<500000) (A1:Option Addr) (c1:Nat) (l1:List ByteArray) (hr1:Kd.C Kd.string w A1 l1.length l1) (hc1:l1.length≤c1) (hf1: ∀ad,A1=some ad→0<l1.length→ad.block≠g)
    (hl:1≤l1.length) (hl':l1.length<1000) (hs: ∀x∈l1,x.size≤10):Calls Tryz.prog 31 #[.pointer (some ⟨g,0,none⟩),.slice A1 l1.length c1] w (DrewStr w0 w g (N+1)):=by
  obtain⟨b,p,h1,h2,h3,h4,h5⟩:=h;obtain⟨x,hx,x0,x1, -⟩:=pick_ok h1 0 p (l1.length:Int) h3 (by omega) (by omega)
  have x1:=x1 (by omega)
  have:spec_l6Rd_of.f 1 b p l1=some (rdOf ByteArray.empty l1 x,p+1):=by
    unfold spec_l6Rd_of.f;rw[hx];simp only[Option.bind_some];rw[if_pos x0,if_pos x1]
  refine(spec_l6Rd_of.calls 1 g b p A1 c1 l1 _ (p+1) w0 w h2 h5 hr1 hc1 hf1 this).mono fun e w' ⟨e1,e2,e3,e4⟩=>⟨_,e1,hs _ ?_,⟨b,p+1,h1,e2,by omega,by omega,e3⟩,e4⟩
  unfold rdOf;rw[List.getD_eq_getElem?_getD,List.getElem?_eq_getElem (by omega)]
  exact List.getElem_mem _
theorem C_lit (W:World) (l:List ByteArray) (hl:l.length≤1000):Kd.C Kd.string (W.alloc (.cells (l.map Value.string).toArray 9)).drew (some ⟨W.heap.size,0,none⟩) l.length l:=by
  refine Kd.C_of_reads (d:=ByteArray.empty) (h1:=fun _=>rfl) ⟨rfl,by omega,fun _=>⟨_,rfl,fun j hj=> ?_⟩⟩
  have hb:(W.alloc (.cells (l.map Value.string).toArray 9)).drew.heap[W.heap.size]?=some (.cells (l.map Value.string).toArray 9 (0,0)):=blk_new W _;have:=blk_cell hb j;rw[show(⟨W.heap.size,0,none⟩:Addr).add j=⟨W.heap.size,j,none⟩ by(simp[Addr.add];try exact fun h=>h.symm),this]
  simp[List.getD_eq_getElem?_getD,List.getElem?_eq_getElem hj]
theorem of_lit {w0 W:World} {g N:Nat} (h:RD w0 W g N) (hN:N<500000) (l:List ByteArray) (hl:1≤l.length) (hl':l.length<1000) (hs: ∀x∈l,x.size≤10):
    Calls Tryz.prog 31 #[.pointer (some ⟨g,0,none⟩),.slice (some ⟨W.heap.size,0,none⟩) l.length l.length] (W.alloc (.cells (l.map Value.string).toArray 9)).drew (DrewStr w0 (W.alloc (.cells (l.map Value.string).toArray 9)).drew g (N+1)):=
  of_w (h.alloc _).drew hN _ _ l (C_lit W l (by omega)) (Nat.le_refl _) (fun ad e h0=>by cases e;have:=h.lt;show W.heap.size≠g;omega) hl hl' hs
def DrewCode (w0 w:World) (g N:Nat) (e:Ending) (w':World):Prop:= ∃ (v:Value) (c:List S39),e= .returned v∧Kd.R k39 39 w' w.heap.size (fun _=>True) v c∧c.length≤17∧RD w0 w' g N
theorem code_w {w0 w:World} {g N:Nat} (h:RD w0 w g N) (hN:N<90000):Calls Tryz.prog 24 #[.pointer (some ⟨g,0,none⟩)] w (DrewCode w0 w g (N+1500)):=by
  obtain⟨b,p,h1,h2,h3,h4,h5⟩:=h;obtain⟨c,p',⟨K,hc⟩,hl,q0,q1⟩:=code_ev h1 p h3 (by omega)
  exact(spec_l71Code.calls K g b p c p' w0 w h2 h5 (hc K (Nat.le_refl _))).mono fun e w' ⟨v,e1,e2,e3,e4,_⟩=>⟨v,c,e1,e2,hl,b,p',h1,e3,by omega,by omega,e4⟩
end Go.Proofs.YtmklpbmlgjkbiaaGreatDoor.PS
end
section
namespace Go.Proofs.YtmklpbmlgjkbiaaGreatDoor.PS
open Go.RowKit Go.Proofs.YtmklpbmlgjkbiaaGreatDoorW.PrintWords Go.Proofs.YtmklpbmlgjkbiaaGreatDoorW.PrintLast
theorem opText_ne {k r s t vk vn:Int} (h:opB k r s t vk vn=true):((opText k r s t vk vn).toList=[]→False)∧(opText k r s t vk vn).toList.isEmpty=false:=by
  rw[toListD,opText_list h];have:=(name_facts k (opB_true.1 h).1).1.2;unfold optL;cases hl:nameS k with
  |nil=>exact absurd hl this
  |cons c l=>exact⟨by simp,by simp⟩
theorem l1_l0 (x:ByteArray) (s n i:Int) (k:Nat) (hx:x.size≤4) (hi:0≤i) (hk:2*((x.size:Int)-i).toNat+1≤k): ∃r,spec_l1Dec.l0 k x s n i=some r:=by
  induction k using Nat.strongRecOn generalizing n i with
  |_ k ih=>
    obtain⟨k,rfl⟩: ∃m,k=m+1:=⟨k-1,by omega⟩
    simp only[spec_l1Dec.l0]
    by_cases h:i<(x.size:Int)
    · rw[if_pos h,if_pos hi]
      obtain⟨k,rfl⟩: ∃m,k=m+1:=⟨k-1,by omega⟩
      have hw:wrap64 (i+1)=i+1:=by unfold wrap64;omega
      have go: ∀b,∃r,spec_l1Dec.j3 (k+1) x s n i b=some r:=fun b=>by
        simp only[spec_l1Dec.j3]
        cases b with
        |true=>exact⟨_,rfl⟩
        |false=>
          rw[if_neg (by simp),if_pos hi,if_pos h,hw]
          exact ih k (by omega) _ (i+1) (by omega) (by omega)
      by_cases hb:bt x i<48
      · rw[if_pos hb];exact go _
      · rw[if_neg hb];exact go _
    · rw[if_neg h];exact⟨_,rfl⟩
theorem in_f (a b c:Int):spec_l6In.f a b c=some (decide (b≤a∧a≤c)):=by
  unfold spec_l6In.f;by_cases h:b≤a<;>simp[h]
theorem l1_j1 (x:ByteArray) (s:Int) (hx:x.size≤4): ∃r,spec_l1Dec.j1 10 x s=some r:=by
  simp only[spec_l1Dec.j1]
  rw[in_f];simp only[Option.bind_some]
  cases decide (1≤(x.size:Int)∧(x.size:Int)≤2)with
  |true=>rw[if_pos rfl];exact l1_l0 x s 0 0 9 hx (by omega) (by omega)
  |false=>exact⟨_,rfl⟩
theorem l1_all (x:ByteArray) (hx:x.size≤4): ∃r,spec_l1Dec.f 11 x=some r:=by
  have go: ∀b s,(b=true→1≤x.size)→ ∃r,spec_l1Dec.j0 11 x s b=some r:=fun b s hb=>by
    simp only[spec_l1Dec.j0]
    cases b with
    |true=>
      rw[if_pos rfl,if_pos (by have:=hb rfl;omega)]
      exact l1_j1 _ _ (by rw[ByteArray.size_extract];omega)
    |false=>rw[if_neg (by simp)];exact l1_j1 _ _ hx
  unfold spec_l1Dec.f;by_cases h:(x.size:Int)>1
  · rw[if_pos h,if_pos (by omega)];exact go _ _ (fun _=>by omega)
  · rw[if_neg h];exact go _ _ (fun h=>by cases h)
theorem l1_back (n:Int) (h0: -100<n) (h1:n<100):spec_l1Dec.f 11 ⟨(itoaS n).toArray⟩=some (n,true):=by
  have h: ∀i∈List.range 199,spec_l1Dec.f 11 ⟨(itoaS ((i:Int)-99)).toArray⟩=some ((i:Int)-99,true):=by decide+kernel
  have:=h (n+99).toNat (by simp;omega)
  rwa [show(((n+99).toNat:Nat):Int)-99=n by omega]at this
theorem leO_up {k n:Int} {r:ByteArray} (h:spec_ValText.f 5 k n=some r): ∀m,spec_ValText.f (5+m) k n=some r
  |0=>h
  |m+1=>spec_ValText.mono _ _ _ _ (leO_up h m)
theorem specRead_f (s:ByteArray):spec_ValRead.f 12 s=some (readV s):=by
  unfold spec_ValRead.f;by_cases h:s.toList=[110,111,110,101]
  · rw[if_pos h]
    have:s=⟨#[110,111,110,101]⟩:=ofList s (by rw[←toListD];exact h)
    subst this;rw[show readV ⟨#[110,111,110,101]⟩=(0,0,true)from readV_text 0 0 (.inl ⟨rfl,rfl⟩)]
  · rw[if_neg h,in_f]
    have hn:s≠⟨#[110,111,110,101]⟩:=fun e=>h (by rw[e,toListD])
    simp only[Option.bind_some]
    by_cases hz:2≤(s.size:Int)∧(s.size:Int)≤4
    · rw[decide_eq_true hz,if_pos rfl,if_pos (by omega)]
      obtain⟨⟨n,ok⟩,hl⟩:=l1_all (s.extract 1 s.size) (by rw[ByteArray.size_extract];omega)
      have hl':spec_l1Dec.f 12 (s.extract 1 s.size)=some (n,ok):=spec_l1Dec.mono _ _ _ hl;rw[hl'];simp only[Option.bind_some]
      rw[if_pos (by omega)]
      have h0:0<s.size:=by omega
      have hb:bt s 0=(s[0].toNat:Int):=by unfold bt;rw[dif_pos (by simpa using h0)];rfl
      rw[hb]
      have tl: ∀k' n',1≤k'→okP k' n'→vtext k' n'=s→s[0]=letterB k'∧n=n'∧ok=true:=fun k' n' h1 h2 h3=>by
        obtain⟨_,_,a,b,c,d⟩:=tail_of h1 h2 h3;have:=ofList _ b;rw[this,l1_back n' c d]at hl
        injection hl with hl
        injection hl with e1 e2
        exact⟨a,e1.symm,e2.symm⟩
      have none0: ∀ {k' n':Int},okP k' n'→vtext k' n'=s→1≤k':=fun {k' n'} hk e=>by
        by_cases h0:k'=0
        · subst h0
          have:n'=0:=by unfold okP at hk;omega
          subst this;exact absurd e.symm hn
        · unfold okP at hk;omega
      have fin: ∀K:Int,1≤K→(∀k',1≤k'→okP k' n→s[0]=letterB k'→k'=K)→spec_ValRead.j0 12 s ok K n=some (readV s):=fun K hK hu=>by
        simp only[spec_ValRead.j0]
        cases ok with
        |false=>
          rw[if_neg (by simp)]
          simp only[spec_ValRead.j1]
          rw[if_pos trivial,readV_no];intro k' n' hk e;have:=(tl k' n' (none0 hk e) hk e).2.2;cases this
        |true=>
          rw[if_pos rfl,if_neg (by omega)]
          have e5:spec_ValText.f 11 K n=some (vtext K n):=leO_up (specText_f K n) 6;rw[e5];simp only[Option.bind_some,spec_ValRead.j1]
          by_cases hv:vtext K n=s
          · rw[if_neg (by simp[hv]),readV_of hv h0]
          · rw [if_pos (by
              simp only[bne_iff_ne,ne_eq];intro h;rw[toListD,toListD]at h;exact hv (Go.WideShapes.bytes_inj h)),readV_no]
            intro k' n' hk e;obtain⟨a,b,_⟩:=tl k' n' (none0 hk e) hk e;subst b;exact hv (by rw[←hu k' (none0 hk e) hk a];exact e)
      have c110: ∀c:UInt8,((s[0].toNat:Int)=(c.toNat:Int)) ↔ s[0]=c:=fun c=>⟨fun h=>UInt8.toNat_inj.1 (Int.ofNat_inj.1 h),fun h=>by rw[h]⟩
      have r1:((s[0].toNat:Int)=110) ↔ s[0]=110:=c110 110;have r2:((s[0].toNat:Int)=97) ↔ s[0]=97:=c110 97;have r3:((s[0].toNat:Int)=114) ↔ s[0]=114:=c110 114;by_cases q1:s[0]=110
      · rw[if_pos (r1.2 q1)]
        exact fin 1 (by omega) fun k' h1 h2 h3=>by
          have:k'=1∨k'=2∨k'=3:=by unfold okP at h2;omega
          rcases this with rfl|rfl|rfl
          · rfl
          · rw[q1]at h3;exact absurd h3 (by decide)
          · rw[q1]at h3;exact absurd h3 (by decide)
      rw[if_neg (fun h=>q1 (r1.1 h))]
      by_cases q2:s[0]=97
      · rw[if_pos (r2.2 q2)]
        exact fin 2 (by omega) fun k' h1 h2 h3=>by
          have:k'=1∨k'=2∨k'=3:=by unfold okP at h2;omega
          rcases this with rfl|rfl|rfl
          · rw[q2]at h3;exact absurd h3 (by decide)
          · rfl
          · rw[q2]at h3;exact absurd h3 (by decide)
      rw[if_neg (fun h=>q2 (r2.1 h))]
      by_cases q3:s[0]=114
      · rw[if_pos (r3.2 q3)]
        exact fin 3 (by omega) fun k' h1 h2 h3=>by
          have:k'=1∨k'=2∨k'=3:=by unfold okP at h2;omega
          rcases this with rfl|rfl|rfl
          · rw[q3]at h3;exact absurd h3 (by decide)
          · rw[q3]at h3;exact absurd h3 (by decide)
          · rfl
      rw[if_neg (fun h=>q3 (r3.1 h))]
      rw[readV_no (fun k' n' hk e=>by
        obtain⟨a,b,_⟩:=tl k' n' (none0 hk e) hk e;have:k'=1∨k'=2∨k'=3:=by have:=none0 hk e;unfold okP at hk;omega
        rcases this with rfl|rfl|rfl
        · exact q1 a
        · exact q2 a
        · exact q3 a)]
      simp only[spec_ValRead.j0,spec_ValRead.j1]
      cases ok<;>simp
    · rw[decide_eq_false hz,if_neg (by simp)]
      rw[readV_no];intro k n hk e;have:=vtext_size k n hk;rw[e]at this
      have e2:s.data.toList.length=s.size:=by rw[Array.length_toList];rfl
      omega
theorem strOf1 (c:UInt8):strOfNums [(c.toNat:Int)]=byL [c]:=by
  have h: ∀c:Fin 256,strOfNums [((UInt8.ofNat c.val).toNat:Int)]=byL [UInt8.ofNat c.val]:=by decide+kernel
  have:=h ⟨c.toNat,c.toNat_lt⟩;simpa using this
def cutsL:List UInt8→List UInt8→List (List UInt8)
  |cur,[]=> [cur]
  |cur,c::l=>if c=32 then cur::cutsL [] l else cutsL (cur++ [c]) l
theorem cuts_pieces: ∀ (l cur:List UInt8),32∉cur→piecesB (byL (cur++l))=(cutsL cur l).map byL
  | [],cur,h=>by rw[List.append_nil];exact pieces_last cur h
  |c::l,cur,h=>by
    unfold cutsL;split
    · rename_i e
      subst e;rw[pieces_cons cur l h,List.map_cons];have:=cuts_pieces l [] (by simp)
      rw[List.nil_append]at this
      rw[this]
    · rename_i e
      have:=cuts_pieces l (cur++ [c]) (by simp only[List.mem_append,List.mem_singleton,not_or];exact⟨h,fun e'=>e e'.symm⟩)
      rwa [List.append_assoc]at this
theorem cut_rest (s:ByteArray): ∀ (n i:Nat) (pre:List ByteArray) (cur:List UInt8),i+n=s.size→(List.range' i n).foldl (cutStep s 32) (pre++ [byL cur])=pre++(cutsL cur (s.data.toList.drop i)).map byL
  |0,i,pre,cur,h=>by
    have:s.data.toList.drop i=[]:=List.drop_eq_nil_of_le (by rw[Array.length_toList];show s.size≤i;omega)
    rw[this];rfl
  |n+1,i,pre,cur,h=>by
    have hi:i<s.size:=by omega
    have hd:s.data.toList.drop i=s[i]::s.data.toList.drop (i+1):=by
      have hl:i<s.data.toList.length:=by rw[Array.length_toList];exact hi
      rw[List.drop_eq_getElem_cons hl];rfl
    have hb:bt s (i:Int)=(s[i].toNat:Int):=by unfold bt;rw[dif_pos (by simpa using hi)];rfl
    rw[List.range'_succ,List.foldl_cons,hd];unfold cutsL;by_cases hc:s[i]=32
    · rw[if_pos hc]
      have:cutStep s 32 (pre++ [byL cur]) i=(pre++ [byL cur])++ [byL []]:=by
        unfold cutStep;rw[if_pos (by rw[hb,hc];rfl)]
        rfl
      rw[this,cut_rest s n (i+1) (pre++ [byL cur]) [] (by omega),List.map_cons,List.append_assoc]
      rfl
    · rw[if_neg hc]
      have:cutStep s 32 (pre++ [byL cur]) i=pre++ [byL (cur++ [s[i]])]:=by
        unfold cutStep;rw[if_neg (by rw[hb];intro e;exact hc (UInt8.toNat_inj.1 (Int.ofNat_inj.1 e))),hb,strOf1]
        have e1:(pre++ [byL cur]).length-1=pre.length:=by simp
        have e2:rdOf ByteArray.empty (pre++ [byL cur]) (((pre++ [byL cur]).length:Int)-1)=byL cur:=by
          unfold rdOf;rw[show(((pre++ [byL cur]).length:Int)-1).toNat=pre.length by simp]
          simp
        rw[e1,e2]
        have e3:byL cur++byL [s[i]]=byL (cur++ [s[i]]):=by
          refine Go.WideShapes.bytes_inj ?_
          simp[byL]
        rw[e3];simp
      rw[this,cut_rest s n (i+1) pre (cur++ [s[i]]) (by omega)]
theorem cut_pieces (x:ByteArray):cutTo x 32 x.size=piecesB x:=by
  have h:=cut_rest x x.size 0 [] [] (by omega)
  have h2:=cuts_pieces x.data.toList [] (by simp)
  rw[List.nil_append,byL_data]at h2
  rw[List.nil_append,List.nil_append,List.drop_zero,←h2]at h
  rw[←h];unfold cutTo;rw[List.range_eq_range'];rfl
theorem l1_any (x:ByteArray): ∃r,spec_l1Dec.f 11 x=some r:=by
  have j1: ∀ (x:ByteArray) (s:Int),∃r,spec_l1Dec.j1 10 x s=some r:=fun x s=>by
    simp only[spec_l1Dec.j1]
    rw[in_f];simp only[Option.bind_some]
    by_cases h:1≤(x.size:Int)∧(x.size:Int)≤2
    · rw[decide_eq_true h,if_pos rfl];exact l1_l0 x s 0 0 9 (by omega) (by omega) (by omega)
    · rw[decide_eq_false h];exact⟨_,rfl⟩
  have go: ∀b s,(b=true→1≤x.size)→ ∃r,spec_l1Dec.j0 11 x s b=some r:=fun b s hb=>by
    simp only[spec_l1Dec.j0]
    cases b with
    |true=>
      rw[if_pos rfl,if_pos (by have:=hb rfl;omega)]
      exact j1 _ _
    |false=>rw[if_neg (by simp)];exact j1 _ _
  unfold spec_l1Dec.f;by_cases h:(x.size:Int)>1
  · rw[if_pos h,if_pos (by omega)];exact go _ _ (fun _=>by omega)
  · rw[if_neg h];exact go _ _ (fun h=>by cases h)
theorem l1_up {x:ByteArray} {r:Int×Bool} (h:spec_l1Dec.f 11 x=some r): ∀m,spec_l1Dec.f (11+m) x=some r
  |0=>h
  |m+1=>spec_l1Dec.mono _ _ _ (l1_up h m)
theorem read_up (x:ByteArray): ∀m,spec_ValRead.f (12+m) x=some (readV x)
  |0=>specRead_f x
  |m+1=>spec_ValRead.mono _ _ _ (read_up x m)
theorem form_up (k:Int): ∀m,spec_l2Form.f (3+m) k=some (formL k)
  |0=>form_eq k
  |m+1=>spec_l2Form.mono _ _ _ (form_up k m)
def KindIs (x:ByteArray) (i k:Int):Prop:=(k=0∨(1≤k∧k<i))∧ ∀k0:Int,1≤k0→k0<i→nameB k0=word x 0→k=k0
theorem name_inj {a b:Int} (ha:1≤a∧a≤14) (hb:1≤b∧b≤14) (h:nameB a=nameB b):a=b:=by
  have h1:=(name_facts a ha).2;have h2:=(name_facts b hb).2;unfold nameS at h1 h2;rw[←h1,←h2,h]
theorem inv_kind {x:ByteArray} {k:Int} (h:KindIs x 15 k):Inv x 0 k 0 0 0 0 0:=by
  intro k0 r0 s0 t0 a0 b0 h1 h2;have hp:=opB_true.1 h1;refine⟨h.2 k0 hp.1.1 (by have:=hp.1.2;omega) ?_,by simp,by simp,by simp,by simp,by simp⟩
  have e:=pieces_text h1;rw[h2]at e
  unfold word;rw[e];rfl
theorem loop_names (x:ByteArray) (hp:1≤(piecesB x).length): ∀ (m:Nat) (i K:Int),i=15- (m:Int)→1≤i→KindIs x i K→ ∃K',KindIs x 15 K'∧ ∀j,PT.spec_OpRead.l0 (j+m+1) x (piecesB x) namesL i K 0 0 0 0 0=(spec_l2Form.f j K').bind fun t=>PT.spec_OpRead.l1 j x (piecesB x) t 1 0 K' 0 0 0 0 0
  |0,i,K,hi,h1,hK=>by
    obtain rfl:i=15:=by omega
    refine⟨K,hK,fun j=> ?_⟩
    simp only[PT.spec_OpRead.l0]
    rw[if_neg (by show¬(15:Int)<((15:Nat):Int);omega)]
  |m+1,i,K,hi,h1,hK=>by
    have hw:wrap64 (i+1)=i+1:=by unfold wrap64;omega
    have key: ∀K1:Int,(∀j,PT.spec_OpRead.l0 (j+(m+1)+1) x (piecesB x) namesL i K 0 0 0 0 0=PT.spec_OpRead.l0 (j+m+1) x (piecesB x) namesL (i+1) K1 0 0 0 0 0)→KindIs x (i+1) K1→ ∃K',KindIs x 15 K'∧ ∀j,PT.spec_OpRead.l0 (j+(m+1)+1) x (piecesB x) namesL i K 0 0 0 0 0=(spec_l2Form.f j K').bind fun t=>PT.spec_OpRead.l1 j x (piecesB x) t 1 0 K' 0 0 0 0 0:=fun K1 he hK1=>by
      obtain⟨K',h2,h3⟩:=loop_names x hp m (i+1) K1 (by omega) (by omega) hK1
      exact⟨K',h2,fun j=>by rw[he,h3]⟩
    have hlt:i<(namesL.length:Int):=by show i<((15:Nat):Int);omega
    by_cases hc:nameB i=word x 0
    · refine key i (fun j=> ?_) ⟨.inr ⟨h1,by omega⟩,fun k0 a b c=>name_inj ⟨h1,by omega⟩ ⟨a,by omega⟩ (hc.trans c.symm)⟩
      rw[show j+(m+1)+1=(j+m+1)+1 by omega]
      simp only[PT.spec_OpRead.l0]
      rw[if_pos hlt,if_pos (by omega),if_pos (by omega),if_pos (by
        show(nameB i).toList=_
        rw[hc];rfl),hw]
    · refine key K (fun j=> ?_) ⟨?_,fun k0 a b c=> ?_⟩
      · rw[show j+(m+1)+1=(j+m+1)+1 by omega]
        simp only[PT.spec_OpRead.l0]
        rw[if_pos hlt,if_pos (by omega),if_pos (by omega),if_neg (by
          intro e;rw[toListD,toListD]at e
          exact hc (Go.WideShapes.bytes_inj e)),hw]
      · rcases hK.1 with h|h
        · exact .inl h
        · exact .inr ⟨h.1,by omega⟩
      · by_cases hk:k0=i
        · subst hk;exact absurd c hc
        · exact hK.2 k0 a (by omega) c
def endV (x:ByteArray) (k r s t vk vn:Int):Int×Int×Int×Int×Int×Int×Bool:=if opText k r s t vk vn=x∧opB k r s t vk vn=true then(k,r,s,t,vk,vn,true)else(0,0,0,0,0,0,false)
theorem loop_end (x:ByteArray) (P:List ByteArray) (fs:List Bool) (a i:Int) (k r s t vk vn:Int) (hi: ¬i<(fs.length:Int)) (m:Nat):PT.spec_OpRead.l1 (m+2) x P fs a i k r s t vk vn=some (endV x k r s t vk vn):=by
  simp only[PT.spec_OpRead.l1]
  rw[if_neg hi];unfold endV;by_cases h0:x.toList=[]
  · rw[if_pos h0]
    simp only[PT.spec_OpRead.j2]
    rw[if_pos trivial,if_neg];rintro⟨h1,h2⟩
    rw[←h1]at h0
    exact(opText_ne h2).1 h0
  · rw[if_neg h0,otext_f]
    simp only[Option.bind_some,PT.spec_OpRead.j2]
    by_cases hv:opText k r s t vk vn=x
    · have hb : opB k r s t vk vn = true := by
        cases hb:opB k r s t vk vn with
        |true=>rfl
        |false=>rw[opText_no hb]at hv;exact absurd (by rw[←hv,toListD]) h0
      rw[if_neg (by simp[hv]),if_pos ⟨hv,hb⟩]
    · rw [if_pos (by
        simp only[bne_iff_ne,ne_eq];intro h;rw[toListD,toListD]at h;exact hv (Go.WideShapes.bytes_inj h)),if_neg (fun h=>hv h.1)]
def num (x:ByteArray) (n:Nat):Int:=((spec_l1Dec.f 11 (word x (n+1))).getD (0,false)).1
theorem num_back {x:ByteArray} {n:Nat} {z:Int} (h0: -100<z) (h1:z<100) (h:word x (n+1)=decB z):num x n=z:=by
  unfold num;rw[h];rw[show spec_l1Dec.f 11 (decB z)=some (z,true)from l1_back z h0 h1]
  rfl
theorem loop_skip {x:ByteArray} {K:Int} {n:Nat} {i r s t vk vn:Int} (hf:rdOf false (formL K) i=false) (h0:0≤i) (h4:i<4) (hK:1≤K∧K≤14) (m:Nat):
    PT.spec_OpRead.l1 (m+1) x (piecesB x) (formL K) ((n:Int)+1) i K r s t vk vn=PT.spec_OpRead.l1 m x (piecesB x) (formL K) ((n:Int)+1) (i+1) K r s t vk vn:=by
  have hw:wrap64 (i+1)=i+1:=by unfold wrap64;omega
  have hl:i<((formL K).length:Int):=by unfold formL;rw[if_pos hK];show i<((4:Nat):Int);omega
  simp only[PT.spec_OpRead.l1]
  rw[if_pos hl,if_pos h0,if_neg (by rw[hf];simp),hw]
theorem loop_short {x:ByteArray} {K:Int} {n:Nat} {i r s t vk vn:Int} (hf:rdOf false (formL K) i=true) (h0:0≤i) (h4:i<4) (hK:1≤K∧K≤14) (hs:(piecesB x).length≤n+1) (m:Nat):
    PT.spec_OpRead.l1 (m+1) x (piecesB x) (formL K) ((n:Int)+1) i K r s t vk vn=some (0,0,0,0,0,0,false):=by
  have hl:i<((formL K).length:Int):=by unfold formL;rw[if_pos hK];show i<((4:Nat):Int);omega
  simp only[PT.spec_OpRead.l1]
  rw[if_pos hl,if_pos h0,if_pos hf,if_pos (by omega)]
theorem loop_take {x:ByteArray} {K:Int} {n:Nat} {i r s t vk vn:Int} (hx:(piecesB x).length≤1000) (hf:rdOf false (formL K) i=true) (h0:0≤i) (h4:i<4) (hK:1≤K∧K≤14) (hs: ¬(piecesB x).length≤n+1) (m:Nat):
    PT.spec_OpRead.l1 (m+13) x (piecesB x) (formL K) ((n:Int)+1) i K r s t vk vn=PT.spec_OpRead.l1 (m+12) x (piecesB x) (formL K) (((n+1:Nat):Int)+1) (i+1) K (if i=0 then num x n else r) (if i=1 then num x n else s) (if i=2 then num x n else t) (if i=3 then(readV (word x (n+1))).1 else vk) (if i=3 then(readV (word x (n+1))).2.1 else vn):=by
  have hw:wrap64 (i+1)=i+1:=by unfold wrap64;omega
  have hw2:wrap64 ((n:Int)+1+1)=((n+1:Nat):Int)+1:=by unfold wrap64;omega
  have hl:i<((formL K).length:Int):=by unfold formL;rw[if_pos hK];show i<((4:Nat):Int);omega
  obtain⟨⟨q,ok⟩,hq⟩:=l1_any (word x (n+1))
  have hq1:spec_l1Dec.f (m+12) (word x (n+1))=some (q,ok):=by
    have:=l1_up hq (m+1);rwa [show 11+(m+1)=m+12 by omega]at this
  have hv1:spec_ValRead.f (m+12) (word x (n+1))=some (readV (word x (n+1))):=by
    have:=read_up (word x (n+1)) m;rwa [Nat.add_comm]at this
  have hn:num x n=q:=by unfold num;rw[hq];rfl
  have hr:rdOf ByteArray.empty (piecesB x) ((n:Int)+1)=word x (n+1):=by
    unfold rdOf;rw[show((n:Int)+1).toNat=n+1 by omega]
    rfl
  obtain⟨M,hM⟩: ∃M,M=m+12:=⟨_,rfl⟩;rw[show m+13=(m+12)+1 by omega]
  rw[←hM]at hq1 hv1⊢
  clear hM;simp only[PT.spec_OpRead.l1]
  rw[if_pos hl,if_pos h0,if_pos hf,if_neg (by omega),if_pos (by omega),if_pos (by omega),hr,hq1]
  simp only[Option.bind_some]
  rw[hv1];simp only[Option.bind_some]
  rw[hn,hw,hw2];have h:i=0∨i=1∨i=2∨i=3:=by omega
  rcases h with rfl|rfl|rfl|rfl<;>simp
theorem letter_at {K:Int} (hK:1≤K∧K≤14) {n:Nat} {c:UInt8} {l:List UInt8} (h:(formC K).drop n=c::l): ∃hn:n<(howR K).f1.size,(howR K).f1[n]=c∧(formC K).drop (n+1)=l:=by
  have e:=form_how K;rw[if_pos hK]at e
  have hn:n<(formC K).length:=by
    rcases Nat.lt_or_ge n (formC K).length with h'|h'
    · exact h'
    · rw[List.drop_eq_nil_of_le h']at h;cases h
  have hn':n<(howR K).f1.size:=by
    have:(howR K).f1.data.toList.length=(howR K).f1.size:=by rw[Array.length_toList];rfl
    rw[e]at this;omega
  rw[List.drop_eq_getElem_cons hn]at h
  injection h with h1 h2
  refine⟨hn',?_,h2⟩
  obtain⟨q,hq⟩:=form_at (F:=(howR K).f1) rfl hn' hK;rw[←hq];exact h1
theorem no_letter {K:Int} (hK:1≤K∧K≤14) {n:Nat} (h:(formC K).drop n=[]): ¬n<(howR K).f1.size:=by
  intro hn;obtain⟨q,hq⟩:=form_at (F:=(howR K).f1) rfl hn hK;rw[List.drop_eq_getElem_cons q]at h
  cases h
theorem inv_numS {x:ByteArray} {n:Nat} {k r s t vk vn:Int} (h:Inv x n k r s t vk vn) {c:UInt8} {l:List UInt8} (hK:1≤k∧k≤14) (hc:(formC k).drop n=c::l):
    (c=82→Inv x (n+1) k (num x n) s t vk vn)∧(c=83→Inv x (n+1) k r (num x n) t vk vn)∧(c=84→Inv x (n+1) k r s (num x n) vk vn):=by
  obtain⟨hn,hF, -⟩:=letter_at hK hc;refine⟨fun hc=> ?_,fun hc=> ?_,fun hc=> ?_⟩
  all_goals
    intro k0 r0 s0 t0 a0 b0 h1 h2;obtain⟨rfl,er,es,et,ea,eb⟩:=h _ _ _ _ _ _ h1 h2;have hp:=opB_true.1 h1;obtain⟨hl,hl2⟩:=form_at (F:=(howR k).f1) rfl hn hp.1;obtain⟨-,hw⟩:=word_at h1 h2 hl;rw[hF]at hl2
    rw[hl2,hc]at hw
    rw[hc]at hl2
    have hz: -100<r0∧r0<100∧ -100<s0∧s0<100∧ -100<t0∧t0<100:=by
      obtain⟨_,_,a,b,c,_⟩:=hp;omega
    simp only[take_mem hl,hl2]
    refine⟨by trivial,?_,?_,?_,?_,?_⟩
  · simp only[or_true,if_true]
    exact num_back hz.1 hz.2.1 hw
  · simpa using es
  · simpa using et
  · simpa using ea
  · simpa using eb
  · simpa using er
  · simp only[or_true,if_true]
    exact num_back hz.2.2.1 hz.2.2.2.1 hw
  · simpa using et
  · simpa using ea
  · simpa using eb
  · simpa using er
  · simpa using es
  · simp only[or_true,if_true]
    exact num_back hz.2.2.2.2.1 hz.2.2.2.2.2 hw
  · simpa using ea
  · simpa using eb
def Told (x:ByteArray) (o:Option (Int×Int×Int×Int×Int×Int×Bool)):Prop:= ∃k r s t vk vn ok,o=some (k,r,s,t,vk,vn,ok)∧Reads x k r s t vk vn ok
theorem told_end {x:ByteArray} {P:List ByteArray} {fs:List Bool} {a i k r s t vk vn:Int} (hi: ¬i<(fs.length:Int)) {n:Nat} (h:Inv x n k r s t vk vn) (hn: ¬n<(howR k).f1.size) (m:Nat):Told x (PT.spec_OpRead.l1 (m+2) x P fs a i k r s t vk vn):=by
  rw[loop_end x P fs a i k r s t vk vn hi];unfold endV;split
  · rename_i hc
    exact⟨_,_,_,_,_,_,_,rfl,reads_yes (F:=⟨#[]⟩) (n:=0) hc.2 hc.1⟩
  · rename_i hc
    exact⟨_,_,_,_,_,_,_,rfl,reads_no h rfl hn (fun q=>hc ⟨q.2,q.1⟩)⟩
theorem sg_drop {K:Int} {n:Nat} {b:Bool} {c:UInt8} {l:List UInt8} (h:(formC K).drop n=sg b c++l):(b=false∧(formC K).drop n=l)∨(b=true∧(formC K).drop n=c::l):=by
  cases b with
  |false=>exact .inl ⟨rfl,by simpa[sg]using h⟩
  |true=>exact .inr ⟨rfl,by simpa[sg]using h⟩
theorem field_of {K:Int} (hK:1≤K∧K≤14):rdOf false (formL K) 0=hasR K∧rdOf false (formL K) 1=hasS K∧rdOf false (formL K) 2=hasT K∧rdOf false (formL K) 3=hasV K∧(formL K).length=4:=by
  unfold formL;rw[if_pos hK];exact⟨rfl,rfl,rfl,rfl,rfl⟩
theorem told_short {x:ByteArray} {K:Int} {n:Nat} {i r s t vk vn:Int} {c:UInt8} {l:List UInt8} (h:Inv x n K r s t vk vn) (hf:rdOf false (formL K) i=true) (h0:0≤i) (h4:i<4) (hK:1≤K∧K≤14) (hc:(formC K).drop n=c::l) (hs:(piecesB x).length≤n+1) (m:Nat):
    Told x (PT.spec_OpRead.l1 (m+1) x (piecesB x) (formL K) ((n:Int)+1) i K r s t vk vn):=by
  rw[loop_short hf h0 h4 hK hs];obtain⟨hn, -, -⟩:=letter_at hK hc;exact⟨_,_,_,_,_,_,_,rfl,inv_short h rfl hn hs⟩
theorem told4 {x:ByteArray} {K:Int} (hK:1≤K∧K≤14) {n:Nat} {r s t vk vn:Int} (h:Inv x n K r s t vk vn) (hd:(formC K).drop n=[]) (m:Nat):Told x (PT.spec_OpRead.l1 (m+2) x (piecesB x) (formL K) ((n:Int)+1) 4 K r s t vk vn):=
  told_end (by rw[(field_of hK).2.2.2.2];omega) h (no_letter hK hd) m
theorem told3 {x:ByteArray} (hx:(piecesB x).length≤1000) {K:Int} (hK:1≤K∧K≤14) {n:Nat} {r s t vk vn:Int} (h:Inv x n K r s t vk vn) (hd:(formC K).drop n=sg (hasV K) 86) (m:Nat):Told x (PT.spec_OpRead.l1 (m+13) x (piecesB x) (formL K) ((n:Int)+1) 3 K r s t vk vn):=by
  have hf:=(field_of hK).2.2.2.1;rcases sg_drop (l:=[]) (by rw[List.append_nil];exact hd)with ⟨hb,hd⟩|⟨hb,hd⟩
  · rw[loop_skip (m:=m+12) (by rw[hf];exact hb) (by omega) (by omega) hK]
    exact told4 hK h hd (m+10)
  · by_cases hs:(piecesB x).length≤n+1
    · exact told_short h (by rw[hf];exact hb) (by omega) (by omega) hK hd hs (m+12)
    · rw[loop_take hx (by rw[hf];exact hb) (by omega) (by omega) hK hs]
      obtain⟨hn,hF,hd1⟩:=letter_at hK hd;exact told4 hK (inv_val (ok:=(readV (word x (n+1))).2.2) h rfl hn rfl hF) hd1 (m+10)
theorem told2 {x:ByteArray} (hx:(piecesB x).length≤1000) {K:Int} (hK:1≤K∧K≤14) {n:Nat} {r s t vk vn:Int} (h:Inv x n K r s t vk vn) (hd:(formC K).drop n=sg (hasT K) 84++sg (hasV K) 86) (m:Nat):Told x (PT.spec_OpRead.l1 (m+14) x (piecesB x) (formL K) ((n:Int)+1) 2 K r s t vk vn):=by
  have hf:=(field_of hK).2.2.1;rcases sg_drop hd with ⟨hb,hd⟩|⟨hb,hd⟩
  · rw[loop_skip (m:=m+13) (by rw[hf];exact hb) (by omega) (by omega) hK]
    exact told3 hx hK h hd m
  · by_cases hs:(piecesB x).length≤n+1
    · exact told_short h (by rw[hf];exact hb) (by omega) (by omega) hK hd hs (m+13)
    · rw[loop_take (m:=m+1) hx (by rw[hf];exact hb) (by omega) (by omega) hK hs]
      obtain⟨hn,hF,hd1⟩:=letter_at hK hd;exact told3 hx hK ((inv_numS h hK hd).2.2 rfl) hd1 m
theorem told1 {x:ByteArray} (hx:(piecesB x).length≤1000) {K:Int} (hK:1≤K∧K≤14) {n:Nat} {r s t vk vn:Int} (h:Inv x n K r s t vk vn) (hd:(formC K).drop n=sg (hasS K) 83++(sg (hasT K) 84++sg (hasV K) 86)) (m:Nat):Told x (PT.spec_OpRead.l1 (m+15) x (piecesB x) (formL K) ((n:Int)+1) 1 K r s t vk vn):=by
  have hf:=(field_of hK).2.1;rcases sg_drop hd with ⟨hb,hd⟩|⟨hb,hd⟩
  · rw[loop_skip (m:=m+14) (by rw[hf];exact hb) (by omega) (by omega) hK]
    exact told2 hx hK h hd m
  · by_cases hs:(piecesB x).length≤n+1
    · exact told_short h (by rw[hf];exact hb) (by omega) (by omega) hK hd hs (m+14)
    · rw[loop_take (m:=m+2) hx (by rw[hf];exact hb) (by omega) (by omega) hK hs]
      obtain⟨hn,hF,hd1⟩:=letter_at hK hd;exact told2 hx hK ((inv_numS h hK hd).2.1 rfl) hd1 m
theorem told0 {x:ByteArray} (hx:(piecesB x).length≤1000) {K:Int} (hK:1≤K∧K≤14) {r s t vk vn:Int} (h:Inv x 0 K r s t vk vn) (m:Nat):Told x (PT.spec_OpRead.l1 (m+16) x (piecesB x) (formL K) 1 0 K r s t vk vn):=by
  have hf:=(field_of hK).1;have hd:(formC K).drop 0=sg (hasR K) 82++(sg (hasS K) 83++(sg (hasT K) 84++sg (hasV K) 86)):=rfl;rcases sg_drop hd with ⟨hb,hd⟩|⟨hb,hd⟩
  · have:=loop_skip (x:=x) (n:=0) (r:=r) (s:=s) (t:=t) (vk:=vk) (vn:=vn) (m:=m+15) (i:=0) (by rw[hf];exact hb) (by omega) (by omega) hK
    have e:PT.spec_OpRead.l1 (m+16) x (piecesB x) (formL K) 1 0 K r s t vk vn=PT.spec_OpRead.l1 (m+15) x (piecesB x) (formL K) (((0:Nat):Int)+1) 1 K r s t vk vn:=this;rw[e];exact told1 hx hK h hd m
  · by_cases hs:(piecesB x).length≤0+1
    · exact told_short (n:=0) (i:=0) h (by rw[hf];exact hb) (by omega) (by omega) hK hd hs (m+15)
    · have:=loop_take (n:=0) (r:=r) (s:=s) (t:=t) (vk:=vk) (vn:=vn) (m:=m+3) (i:=0) hx (by rw[hf];exact hb) (by omega) (by omega) hK hs
      obtain⟨hn,hF,hd1⟩:=letter_at hK hd;have h2:=told1 hx hK ((inv_numS h hK hd).1 rfl) hd1 m;have e:PT.spec_OpRead.l1 (m+16) x (piecesB x) (formL K) 1 0 K r s t vk vn=_:=this;rw[e];exact h2
theorem pieces_len (x:ByteArray) (hx:x.size≤24):1≤(piecesB x).length∧(piecesB x).length≤1000:=by
  rw[←cut_pieces];have:=cut_len x 32 x.size;omega
theorem specRead_told (x:ByteArray):Told x (PT.spec_OpRead.f 40 x):=by
  unfold PT.spec_OpRead.f;by_cases h:(x.size:Int)>24
  · rw[if_pos h]
    refine⟨_,_,_,_,_,_,_,rfl,.inr ⟨rfl,⟨rfl,rfl,rfl,rfl,rfl,rfl⟩,fun a b c d f g _ e=> ?_⟩⟩
    have:=opText_le (k:=a) (r:=b) (s:=c) (t:=d) (vk:=f) (vn:=g);rw[e]at this;omega
  · rw[if_neg h]
    obtain⟨h1,h2⟩:=pieces_len x (by omega)
    have e1:cutV.f x 32=some (piecesB x):=by unfold cutV.f;rw[if_pos (by omega),cut_pieces]
    rw[e1];simp only[Option.bind_some]
    rw[show spec_l2Names.f=some namesL from rfl]
    simp only[Option.bind_some]
    obtain⟨K,hK,hl⟩:=loop_names x h1 14 1 0 (by omega) (by omega) ⟨.inl rfl,fun k0 a b=>by omega⟩
    have:=hl 25;rw[show(40:Nat)=25+14+1 from rfl,this]
    have e2:spec_l2Form.f 25 K=some (formL K):=form_up K 22;rw[e2];simp only[Option.bind_some]
    have hI:=inv_kind hK;by_cases h0:1≤K∧K≤14
    · exact told0 h2 h0 hI 9
    · have hK0:K=0:=by rcases hK.1 with h|h<;>omega
      subst hK0;exact told_end (n:=0) (m:=23) (by decide) hI (by decide)
theorem byL_inj {a b:List UInt8} (h:byL a=byL b):a=b:=by
  have:=congrArg (fun x:ByteArray=>x.data.toList) h
  simpa[byL]using this
theorem cutsN_join: ∀ (l cur:List UInt8),∃ls last,cutsN cur l=ls++ [last]∧(ls.map (· ++ [10])).flatten++last=cur++l
  | [],cur=>⟨[],cur,rfl,by simp⟩
  |c::l,cur=>by
    unfold cutsN;split
    · rename_i e
      obtain⟨ls,last,h1,h2⟩:=cutsN_join l [];refine⟨cur::ls,last,by rw[h1];rfl,?_⟩
      simp only[List.nil_append]at h2
      simp[h2,e]
    · obtain⟨ls,last,h1,h2⟩:=cutsN_join l (cur++ [c])
      exact⟨ls,last,h1,by rw[h2];simp⟩
theorem cutN_rest (s:ByteArray): ∀ (n i:Nat) (pre:List ByteArray) (cur:List UInt8),i+n=s.size→(List.range' i n).foldl (cutStep s 10) (pre++ [byL cur])=pre++(cutsN cur (s.data.toList.drop i)).map byL
  |0,i,pre,cur,h=>by
    have:s.data.toList.drop i=[]:=List.drop_eq_nil_of_le (by rw[Array.length_toList];show s.size≤i;omega)
    rw[this];rfl
  |n+1,i,pre,cur,h=>by
    have hi:i<s.size:=by omega
    have hd:s.data.toList.drop i=s[i]::s.data.toList.drop (i+1):=by
      have hl:i<s.data.toList.length:=by rw[Array.length_toList];exact hi
      rw[List.drop_eq_getElem_cons hl];rfl
    have hb:bt s (i:Int)=(s[i].toNat:Int):=by unfold bt;rw[dif_pos (by simpa using hi)];rfl
    rw[List.range'_succ,List.foldl_cons,hd];unfold cutsN;by_cases hc:s[i]=10
    · rw[if_pos hc]
      have:cutStep s 10 (pre++ [byL cur]) i=(pre++ [byL cur])++ [byL []]:=by
        unfold cutStep;rw[if_pos (by rw[hb,hc];rfl)]
        rfl
      rw[this,cutN_rest s n (i+1) (pre++ [byL cur]) [] (by omega),List.map_cons,List.append_assoc]
      rfl
    · rw[if_neg hc]
      have:cutStep s 10 (pre++ [byL cur]) i=pre++ [byL (cur++ [s[i]])]:=by
        unfold cutStep;rw[if_neg (by rw[hb];intro e;exact hc (UInt8.toNat_inj.1 (Int.ofNat_inj.1 e))),hb,strOf1]
        have e1:(pre++ [byL cur]).length-1=pre.length:=by simp
        have e2:rdOf ByteArray.empty (pre++ [byL cur]) (((pre++ [byL cur]).length:Int)-1)=byL cur:=by
          unfold rdOf;rw[show(((pre++ [byL cur]).length:Int)-1).toNat=pre.length by simp]
          simp
        rw[e1,e2]
        have e3:byL cur++byL [s[i]]=byL (cur++ [s[i]]):=by
          refine Go.WideShapes.bytes_inj ?_
          simp[byL]
        rw[e3];simp
      rw[this,cutN_rest s n (i+1) pre (cur++ [s[i]]) (by omega)]
theorem cut_lines (x:ByteArray):cutTo x 10 x.size=(linesL x).map byL:=by
  have h:=cutN_rest x x.size 0 [] [] (by omega)
  rw[List.nil_append,List.nil_append,List.drop_zero]at h
  unfold linesL;rw[←h];unfold cutTo;rw[List.range_eq_range'];rfl
def InvS (x:ByteArray) (i:Nat) (os:List S39):Prop:=os.length=i∧os.map tx=(linesL x).take i∧(∀c,codeB c=true→codeText c=x→os=c.take i)
def ToldC (x:ByteArray) (o:Option (List S39×Bool)):Prop:= ∃l ok,o=some (l,ok)∧ReadsC x l ok
theorem toldC_no {x:ByteArray} (h: ∀c,codeB c=true→codeText c≠x):ToldC x (some ([],false)):=⟨_,_,rfl,.inr ⟨rfl,rfl,h⟩⟩
theorem loop_lines (x:ByteArray) (n:Nat) (hn:(linesL x).length=n+1) (hl:(linesL x)[n]?=some []) (h4:n≤400): ∀ (m i:Nat) (os:List S39),i+m=n→InvS x i os→ ∀j,ToldC x (PC.spec_CodeRead.l0 (j+m+1) ((linesL x).map byL) (n:Int) os (i:Int))
  |0,i,os,hi,⟨h1,h2,h3⟩,j=>by
    obtain rfl:i=n:=by omega
    simp only[PC.spec_CodeRead.l0]
    rw[if_neg (by omega)]
    show ToldC x ((codeV.f os).bind _)
    unfold codeV.f;simp only[Option.bind_some]
    have hc: ∀c,codeB c=true→codeText c=x→os=c:=fun c a b=>by
      have e:=lines_code a b;have:c.length=i:=by rw[e]at hn;simp at hn;exact hn
      rw[h3 c a b,←this,List.take_length]
    cases hb:codeB os with
    |false=>
      rw[if_neg (by simp)]
      exact toldC_no fun c a b=>by rw[hc c a b,a]at hb;cases hb
    |true=>
      rw[if_pos rfl];refine⟨_,_,rfl,.inl ⟨rfl,hb,?_⟩⟩
      rw[codeText_of hb];obtain⟨ls,last,e1,e2⟩:=cutsN_join x.data.toList [];have e1':linesL x=ls++ [last]:=e1;have hll:ls.length=i:=by rw[e1']at hn;simp at hn;exact hn
      have:last=[]:=by rw[e1',←hll]at hl;simpa using hl
      subst this
      have e3:textL os=x.data.toList:=by
        rw[List.append_nil,List.nil_append]at e2
        rw[←e2];have:ls=os.map tx:=by rw[h2,e1',←hll];simp
        rw[this];unfold textL;rw[List.map_map];rfl
      rw[e3]
  |m+1,i,os,hi,⟨h1,h2,h3⟩,j=>by
    have hw:wrap64 ((i:Int)+1)=((i+1:Nat):Int):=by unfold wrap64;omega
    have hlt:i<(linesL x).length:=by omega
    obtain⟨k,r,s,t,vk,vn,ok,hr,hR⟩:=specRead_told (byL (linesL x)[i])
    have hrd:rdOf ByteArray.empty ((linesL x).map byL) (i:Int)=byL (linesL x)[i]:=by
      unfold rdOf;rw[List.getD_eq_getElem?_getD,List.getElem?_eq_getElem (by simpa using hlt)]
      simp
    rw[show j+(m+1)+1=(j+m+1)+1 by omega]
    simp only[PC.spec_CodeRead.l0]
    rw[if_pos (by omega),if_pos (by omega),if_pos (by simp;omega),hrd]
    show ToldC x ((oreadV.f (byL (linesL x)[i])).bind _)
    unfold oreadV.f;rw[hr];simp only[Option.bind_some]
    have hat: ∀c,codeB c=true→codeText c=x→ ∃h:i<c.length,opTextS c[i]=byL (linesL x)[i]∧opS c[i]=true:=fun c a b=>by
      have e:=lines_code a b;have hl2:i<c.length:=by rw[e]at hn;simp at hn;omega
      refine⟨hl2,?_,(code_ops a).2 _ (List.getElem_mem _)⟩
      rw[←byL_tx];congr 1
      have:(linesL x)[i]?=some (tx c[i]):=by rw[e,List.getElem?_append_left (by simpa using hl2)];simp[List.getElem?_eq_getElem hl2]
      rw[List.getElem?_eq_getElem hlt]at this
      exact(Option.some.inj this).symm
    rcases hR with ⟨rfl,hB,hX⟩|⟨rfl, -,hN⟩
    · rw[if_pos rfl,if_pos (by omega),hw]
      refine loop_lines x n hn hl h4 m (i+1) _ (by omega) ⟨by simp;omega,?_,fun c a b=> ?_⟩ j
      · rw[List.map_append,h2,List.take_succ_eq_append_getElem hlt]
        congr 1
        have:byL (tx ⟨k,r,s,t,⟨vk,vn⟩⟩)=byL (linesL x)[i]:=by rw[byL_tx];exact hX
        rw[List.map_cons,List.map_nil,byL_inj this]
      · obtain⟨hl2,e1,e2⟩:=hat c a b
        rw[List.take_succ_eq_append_getElem hl2,←h3 c a b];congr 1
        obtain⟨g1,g2,g3,g4,g5,g6, -⟩:=reads_one (x:=byL (linesL x)[i]) (.inl ⟨rfl,hB,hX⟩) (.inl ⟨rfl,e2,e1⟩);rw[g1,g2,g3,g4,g5,g6]
    · rw[if_neg (by simp)]
      exact toldC_no fun c a b=>by
        obtain⟨hl2,e1,e2⟩:=hat c a b;exact hN _ _ _ _ _ _ e2 e1
theorem specCode_told (x:ByteArray):ToldC x (PC.spec_CodeRead.f 403 x):=by
  unfold PC.spec_CodeRead.f;by_cases h:(x.size:Int)>400
  · rw[if_pos h]
    exact toldC_no fun c a b=>by have:=codeText_le a;rw[b]at this;omega
  · rw[if_neg h]
    have e1:cutV.f x 10=some ((linesL x).map byL):=by unfold cutV.f;rw[if_pos (by omega),cut_lines]
    rw[e1];simp only[Option.bind_some]
    obtain⟨n,hn⟩: ∃n,(linesL x).length=n+1:=by
      obtain⟨ls,last,e, -⟩:=cutsN_join x.data.toList [];exact⟨ls.length,by show(cutsN [] x.data.toList).length=_;rw[e];simp⟩
    have h4:n≤400:=by
      have:=(cut_len x 10 x.size).2;rw[cut_lines,List.length_map,hn]at this
      omega
    have hw:wrap64 (((linesL x).map byL).length-1:Int)=(n:Int):=by rw[List.length_map,hn];unfold wrap64;omega
    rw[hw]
    have nol:(∀c,codeB c=true→codeText c=x→1≤n∧(linesL x)[n]?=some []):=fun c a b=>by
      have e:=lines_code a b;have hc:=(code_ops a).1;have:c.length=n:=by rw[e]at hn;simp at hn;exact hn
      refine⟨by omega,?_⟩
      rw[e,←this,List.getElem?_append_right (by simp)]
      simp
    by_cases h1:(n:Int)<1
    · rw[if_pos h1]
      simp only[PC.spec_CodeRead.j0]
      rw[if_pos trivial];exact toldC_no fun c a b=>by have:=(nol c a b).1;omega
    · rw[if_neg h1,if_pos (by omega),if_pos (by rw[List.length_map,hn];omega)]
      have hrd:rdOf ByteArray.empty ((linesL x).map byL) (n:Int)=byL ((linesL x)[n]'(by omega)):=by
        unfold rdOf;rw[List.getD_eq_getElem?_getD,List.getElem?_eq_getElem (by simp;omega)]
        simp
      rw[hrd];simp only[PC.spec_CodeRead.j0]
      by_cases hl:(linesL x)[n]'(by omega)=[]
      · rw[if_neg (by rw[hl,toListD];simp[byL])]
        have:=loop_lines x n hn (by rw[List.getElem?_eq_getElem (by omega),hl]) h4 n 0 [] (by omega) ⟨rfl,rfl,fun _ _ _=>rfl⟩ (401-n)
        rw[show 401-n+n+1=402 by omega]at this
        exact this
      · rw[if_pos (by rw[toListD];simp[byL];exact hl)]
        exact toldC_no fun c a b=>by
          have:=(nol c a b).2;rw[List.getElem?_eq_getElem (by omega)]at this
          exact hl (Option.some.inj this)
theorem codeText_small (c:List S39):(codeText c).size≤400:=by
  by_cases h:codeB c=true
  · exact codeText_le h
  · unfold codeText
    rw[if_neg h];exact Nat.zero_le _
def SomeStr (w:World) (e:Ending) (w':World):Prop:= ∃s:ByteArray,e= .returned (.string s)∧s.size≤1000∧Below w.heap.size w w'
theorem cat2 (a b:ByteArray) (ha:a.size≤1000000) (hb:b.size≤1000000):decide (a.size+b.size≤9223372036854775807)=true∧(9223372036854775807<a.size+b.size)=False∧(a.size+b.size≤9223372036854775807)=True:=
  ⟨decide_eq_true (by omega),eq_false (by omega),eq_true (by omega)⟩
theorem cat3 (a b c:ByteArray) (ha:a.size≤1000000) (hb:b.size≤1000000) (hc:c.size≤1000000):decide (a.size+b.size+c.size≤9223372036854775807)=true∧(9223372036854775807<a.size+b.size+c.size)=False∧(a.size+b.size+c.size≤9223372036854775807)=True:=
  ⟨decide_eq_true (by omega),eq_false (by omega),eq_true (by omega)⟩
theorem drawCodeRead_w (A0:Option Addr) (c0:Nat) (l0:List Int) (w:World) (hr0:Kd.C (Kd.int .u8) w A0 l0.length l0) (hc0:l0.length≤c0) (hw: ∀x∈l0,(Lit.int .u8 x).wf=true):
    Calls Tryz.prog 15 #[.slice A0 l0.length c0] w (SomeStr w):=by
  have H0:Aside0 (Calls Tryz.prog 25 #[.slice A0 l0.length c0] w (Opened w)):=⟨open_w A0 c0 l0 w hr0 hc0 hw⟩;clear hr0 hc0 hw;go_enter Tryz.func15,Tryz.ntmps15
  go_upto_region 3 with (first
    |(go_at_call 25;(with_reducible refine H0.out.mono ?_);rintro e w1 ⟨g,rfl,hR⟩;have HR:=Aside0.mk hR;clear hR)
    |(go_at_call 24;(with_reducible refine(code_w HR.out (by omega)).mono ?_);rintro e w2 ⟨v,c,rfl,hK,hl,hR⟩;obtain⟨A,cc,rfl,hcl,hC⟩:=Kd.R_reads hK;replace HR:=Aside0.mk hR;have HC:=Aside0.mk (show _∧_ from⟨hC,hcl⟩);clear hR hK hl hC hcl)
    |(go_at_call 13;(with_reducible refine(spec_CodeText_any A cc c _ HC.out.1 HC.out.2).mono ?_);rintro e w3 ⟨rfl,hb⟩;replace HR:=Aside0.mk (HR.out.step hb);clear hb))
  have hs:(codeText c).size≤400:=codeText_small c;obtain⟨X,hX⟩: ∃X,X=codeText c:=⟨_,rfl⟩;rw[←hX]at hs⊢
  clear hX;have y1:(0:Int)≤(X.size:Int)+1:=by omega
  go_upto_block 0 with (first
    |(go_at_call 30;(with_reducible refine(pick_w HR.out (by omega) 8 (by omega) (by omega)).mono ?_);rintro e w5 ⟨y,rfl,hy0,hy1,hR, -⟩;replace HR:=Aside0.mk hR;clear hR)
    |(go_at_call 30;(with_reducible refine(pick_w HR.out (by omega) ((X.size:Int)+1) (by omega) (by omega)).mono ?_);rintro e w4 ⟨x,rfl,hx0,hx1,hR, -⟩;replace HR:=Aside0.mk hR;clear hR))
  have hx2:x≤(X.size:Int):=by omega
  clear hx1 y1;by_cases q0:y=0
  · have e0:(y==0)=true:=by simp[q0]
    clear q0 hy0 hy1;go_wp2
    go_ret
    exact⟨_,rfl,by rw[ByteArray.size_extract];omega,HR.out.below⟩
  have e0:(y==0)=false:=by simp[q0]
  by_cases q1:y=1
  · have e1:(y==1)=true:=by simp[q1]
    clear q0 q1 hy0 hy1;obtain⟨P,hP⟩: ∃P,P=X.extract 0 x.toNat:=⟨_,rfl⟩;obtain⟨Q,hQ⟩: ∃Q,Q=X.extract x.toNat X.size:=⟨_,rfl⟩;have hPs:P.size≤400:=by rw[hP,ByteArray.size_extract];omega
    have hQs:Q.size≤400:=by rw[hQ,ByteArray.size_extract];omega
    have r1: ∀W,Sem.run Tryz.prog (Instr.slice 9 (.string X) none (some (.int .i64 x)) none) W= .ok (.string P) W:=fun W=>by
      rw[hP];go_simp
    have r2: ∀W,Sem.run Tryz.prog (Instr.slice 9 (.string X) (some (.int .i64 x)) none none) W= .ok (.string Q) W:=fun W=>by
      rw[hQ];go_simp
    clear hP hQ
    have HO:Aside0 (Calls Tryz.prog 31 #[.pointer (some ⟨g,0,none⟩),.slice (some ⟨w5.heap.size,0,none⟩) 5 5] (w5.alloc (.cells #[.string ⟨#[48]⟩,.string ⟨#[32]⟩,.string ⟨#[49]⟩,.string ⟨#[10]⟩,.string ⟨#[103,111,32,48,10]⟩] 9)).drew (DrewStr w (w5.alloc (.cells #[.string ⟨#[48]⟩,.string ⟨#[32]⟩,.string ⟨#[49]⟩,.string ⟨#[10]⟩,.string ⟨#[103,111,32,48,10]⟩] 9)).drew g (0+1500+1+1+1))):=
      ⟨of_lit HR.out (by omega) [⟨#[48]⟩,⟨#[32]⟩,⟨#[49]⟩,⟨#[10]⟩,⟨#[103,111,32,48,10]⟩] (by decide) (by decide) (by decide)⟩
    go_upto_region 8 with (fail)
    go_region_held3 (fun w'=>True) (trivial) ((go_at_call 31;refine(HO.out).mono ?_;rintro e w6 ⟨z,rfl,hz,hR, -⟩;obtain⟨t1,t2,t3⟩:=cat2 P z (by omega) (by omega);obtain⟨t4,t5,t6⟩:=cat3 P z Q (by omega) (by omega) (by omega);have HZ:=Aside0.mk hz;replace HR:=Aside0.mk hR;clear hR hz))
    go_wp2
    go_ret
    refine⟨_,rfl,?_,HR.out.below⟩
    have:=HZ.out;rw[ByteArray.size_append,ByteArray.size_append];omega
  have e1:(y==1)=false:=by simp[q1]
  clear q0 q1 hy0 hy1;go_wp2
  go_ret
  exact⟨_,rfl,by omega,HR.out.below⟩
theorem spec_CodeRead_any (x:ByteArray) (w:World):Calls Tryz.prog 6 #[.string x] w (CodeAns x w):=by
  obtain⟨l,ok,h1,h2⟩:=specCode_told x;exact(PC.spec_CodeRead.calls 403 x l ok w h1).mono fun e w' ⟨v,e1,e2,e3⟩=>⟨v,l,ok,e1,h2,e2,e3⟩
theorem reads_len {x:ByteArray} {l:List S39} {ok:Bool} (h:ReadsC x l ok):l.length≤16:=by
  rcases h with ⟨-,h1, -⟩|⟨-,rfl, -⟩
  · exact(code_ops h1).1.2
  · exact Nat.zero_le _
theorem codeStrict (A0:Option Addr) (c0:Nat) (l0:List Int) (w:World) (hr0:Kd.C (Kd.int .u8) w A0 l0.length l0) (hc0:l0.length≤c0) (hw0: ∀x∈l0,(Lit.int .u8 x).wf=true) (hT:Env w):
    Calls Tryz.prog 5 #[.slice A0 l0.length c0] w fun e w'=>e= .returned (.bool true)∧Below w.heap.size w w':=by
  have HE:=aS hT;clear hT;have H0:Aside0 (Calls Tryz.prog 15 #[.slice A0 l0.length c0] w (SomeStr w)):=⟨drawCodeRead_w A0 c0 l0 w hr0 hc0 hw0⟩;clear hr0 hw0 hc0;by_cases m0:l0.length>1048576
  · have e0:decide ((1048576:Int)<(l0.length:Int))=true:=decide_eq_true (by omega)
    clear m0;go_enter Tryz.func5,Tryz.ntmps5
    go_wp2
    go_ret
    exact⟨rfl,Below.refl _ _⟩
  have e0:decide ((1048576:Int)<(l0.length:Int))=false:=decide_eq_false (by omega)
  clear m0;go_enter Tryz.func5,Tryz.ntmps5
  go_upto_region 4 with (go_at_call 15;(with_reducible refine H0.out.mono ?_);rintro e w1 ⟨s,rfl,hs,hb⟩;have HB:=aS hb;clear hb hs)
  have H1:Aside0 (∀W,Calls Tryz.prog 6 #[.string s] W (CodeAns s W)):=⟨fun W=>spec_CodeRead_any s W⟩
  have H2:Aside0 (∀W,Below w.heap.size w W→Calls Tryz.prog 7 #[.string s] W (CodeAns s W)):=⟨fun W hW=>impl_CodeRead_any s W (HE.out.below hW)⟩
  go_upto_region 6 with (first
    |(go_at_call 6;(with_reducible refine(H1.out _).mono ?_);rintro e w2 ⟨v0,l,ok,rfl,hQ,hR,hb⟩;have HQ:=aS hQ;have HR:=aS hR;replace HB:=aS (below_step HB.out hb);clear hQ hR hb)
    |(go_at_call 7;(with_reducible refine(H2.out _ HB.out).mono ?_);rintro e w3 ⟨v1,l',ok',rfl,hQ,hR,hb⟩;obtain⟨rfl,rfl⟩:=readsC_one HQ.out hQ;have HV:Aside0 (TwoC w w3 v0 v1 l):=⟨⟨_,Kd.R_below HR.out hb⟩,⟨_,hR⟩,below_step HB.out hb⟩;clear hQ hR hb HR HB))
  have HN:Aside0 (l.length≤17):=⟨Nat.le_trans (reads_len HQ.out) (by omega)⟩
  clear H1 H2 H0;cases ok with
  |false=>
    clear HQ;go_wp2_with (go_at_call 14;(with_reducible refine(TwoC.lv HN.out HV.out).mono ?_);rintro e w4 ⟨rfl,hb⟩;replace HV:=aS (HV.out.step hb);clear hb)
    go_ret
    exact⟨by simp,HV.out.below⟩
  |true=>
    have hq:codeB l=true∧codeText l=s:=by
      rcases HQ.out with ⟨-,h1,h2⟩|⟨h, -⟩
      · exact⟨h1,h2⟩
      · cases h
    obtain⟨hp,hv⟩:=hq
    have HO:Aside0 (∀W,TwoC w W v0 v1 l→Calls Tryz.prog 16 #[v1] W fun e w'=>e= .returned (.bool true)∧Below W.heap.size W w'):=⟨fun W h=>by
      obtain⟨b,h2⟩:=h.2.1;obtain⟨A,cc,rfl,hcl,hC⟩:=Kd.R_reads h2;exact impl_CodeOk.calls A cc l true W hC hcl (by unfold codeV.f;rw[hp])⟩
    have HX:Aside0 (∀W,TwoC w W v0 v1 l→Calls Tryz.prog 12 #[v1] W fun e w'=>e= .returned (.string s)∧Below W.heap.size W w'):=⟨fun W h=>by
      have hE:=(HE.out.below h.2.2).1.1;obtain⟨b,h2⟩:=h.2.1;obtain⟨A,cc,rfl,hcl,hC⟩:=Kd.R_reads h2;have:=impl_CodeText_any A cc l W hC hcl hE;rwa [hv]at this⟩
    clear hp hv HQ
    go_wp2_with (first
      |(go_at_call 14;(with_reducible refine(TwoC.lv HN.out HV.out).mono ?_);rintro e w4 ⟨rfl,hb⟩;replace HV:=aS (HV.out.step hb);clear hb)
      |(go_at_call 16;(with_reducible refine(HO.out _ HV.out).mono ?_);rintro e w5 ⟨rfl,hb⟩;replace HV:=aS (HV.out.step hb);clear hb)
      |(go_at_call 12;(with_reducible refine(HX.out _ HV.out).mono ?_);rintro e w6 ⟨rfl,hb⟩;replace HV:=aS (HV.out.step hb);clear hb))
    go_ret
    exact⟨by simp,HV.out.below⟩
end Go.Proofs.YtmklpbmlgjkbiaaGreatDoor.PS
end
