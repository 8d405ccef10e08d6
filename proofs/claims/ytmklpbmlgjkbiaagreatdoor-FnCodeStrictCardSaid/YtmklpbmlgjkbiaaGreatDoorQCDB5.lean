/- What the rows of CDB rest on, part 6. -/
import Derived.Lib.OthersKept
import Derived.Lib.Hide
import Derived.WalkSmall
import Derived.Shelf.Strings.Builder1
import Derived.Shelf.Small.Strs
import Derived.Shelf.Utf8.RuneCount
import Derived.Shelf.Strconv.Atoi
import Derived.Shelf.Strconv.Itoa0
import Derived.Shelf.Strconv.Itoa1
import Derived.Shelf.LaysM
import Derived.Shelf.Strconv.Itoa2
import Derived.Shelf.Strconv.Itoa3
import Derived.Shelf.Strconv.AtoiErrFast
import Derived.Shelf.Strconv.ParseIntEmpty
import Derived.Shelf.Strconv.AtoiFail
import Derived.Shelf.Strconv.Clone
import Derived.Shelf.Strconv.SyntaxError
import Derived.Shelf.LaysC
import Derived.Shelf.Strconv.ToError
import Derived.Shelf.Strconv.Lower
import Derived.Shelf.Strconv.ParseUint10
import Derived.Shelf.Strconv.ParseUint10Empty
import Derived.Shelf.Strconv.ParseUint10Any
import Derived.Shelf.Strconv.ParseInt10
import Derived.Shelf.Strconv.AtoiLong
import Derived.Shelf.Strconv.AtoiInnerAll
import Derived.Shelf.Strconv.RangeError
import Derived.Shelf.Strconv.ToErrorRange
import Derived.Shelf.Strconv.AtoiAll
import Derived.Shelf.Strconv.ErrVarAll
import Derived.Shelf.Strings.Search1
import Derived.Shelf.Strings.Search2
import Derived.Shelf.Strings.Count
import Derived.Shelf.Strings.Shaped
import Derived.Shelf.Strings.Prefix
import Derived.Shelf.Strings.Split
import Derived.Shelf.Strings.SplitShaped
import Derived.Shelf.Unicode.Decode
import Derived.Shelf.Strings.RuneCount
import Derived.Shelf.Strings.Explode
import Derived.Shelf.Unicode.DecodeSlow
import Derived.Shelf.Unicode.DecodeAny
import Derived.Lib.UnsafeStr
import Derived.Lib.Builder
import Derived.Laws.Externs
import Derived.Lib.AppendIntMem
import Derived.Outline
import Derived.Lib.Split
import Derived.Lib.SplitLaws
import Derived.Lib.CountLaws
import Derived.Lib.AtoiErrMem
import Derived.Lib.Strings
import Derived.RangeFuncNested
import Derived.RangeFuncBound
import Derived.RangeFuncCalls
import Derived.RangeFuncLeaves
import Derived.RangeFuncRecord
import Derived.Shelf.Abstract
import Derived.Shelf.RegionOpen
import Derived.OwnWalkIn
import Derived.TacticsInMore
import Derived.LoopNIn
import Derived.LoopIn
import Derived.RegionIn
import Derived.RangeFuncBox
import Derived.RangeFuncWrites
import Derived.Maps.OwnSet
import Derived.Maps.Views
import Derived.Test.YtmklpbmlgjkbiaaGreatDoorQCDB4
set_option linter.unusedVariables false
set_option linter.unusedSimpArgs false
set_option maxHeartbeats 8000000
set_option maxRecDepth 100000
section
section
namespace Go.Proofs.YtmklpbmlgjkbiaaGreatDoor.PS
open Go.Proofs.YtmklpbmlgjkbiaaGreatDoor.PC Go.Proofs.YtmklpbmlgjkbiaaGreatDoor.PD Go.RowKit Go.Proofs.YtmklpbmlgjkbiaaGreatDoorW.PrintWords Go.Proofs.YtmklpbmlgjkbiaaGreatDoorW.PrintLast
inductive Fl where
  |same|fill|one
def arrowsL (n:Nat) (i k t:Int):List (Int×Fl):=
  (if k=9∨k=14 then []else if i+1<n then [(i+1,if(howR k).f3=true then .fill else .same)]else [])++
  (if k=5 then [(t,.one)]else if hasT k=true then [(t,.same)]else [])
end Go.Proofs.YtmklpbmlgjkbiaaGreatDoor.PS
end
section
namespace Go.Proofs.YtmklpbmlgjkbiaaGreatDoor.PS
open Go.Proofs.YtmklpbmlgjkbiaaGreatDoor.PC Go.Proofs.YtmklpbmlgjkbiaaGreatDoor.PD Go.RowKit Go.Proofs.YtmklpbmlgjkbiaaGreatDoorW.PrintWords Go.Proofs.YtmklpbmlgjkbiaaGreatDoorW.PrintLast
def waysL (l:List S39) (i:Nat):List (Int×Fl):=arrowsL l.length i (rd_T39 l i).f0 (rd_T39 l i).f3
end Go.Proofs.YtmklpbmlgjkbiaaGreatDoor.PS
end
section
namespace Go.Proofs.YtmklpbmlgjkbiaaGreatDoor.PS
def both (a x:Int):Int:=if a<0 then x else((a.toNat&&&x.toNat:Nat):Int)
def mu1 (a:Int):Nat:=if a<0 then 5 else a.toNat%2+a.toNat/2%2+a.toNat/4%2+a.toNat/8%2
def fours (P:Int→Bool):Bool:=(List.range 16).all fun i=>P i
theorem fours_all {P:Int→Bool} (h:fours P=true) {x:Int} (h0:0≤x) (h1:x≤15):P x=true:=by
  unfold fours at h;rw[List.all_eq_true]at h
  have:=h x.toNat (by simp;omega)
  rwa [Int.toNat_of_nonneg h0]at this
theorem both_range {a x:Int} (h0:0≤x) (h1:x≤15):0≤both a x∧both a x≤15:=by
  unfold both;split
  · exact⟨h0,h1⟩
  · have:a.toNat&&&x.toNat≤x.toNat:=Nat.and_le_right
    omega
theorem both_mu {a x:Int} (ha: -1≤a) (ha':a≤15) (h0:0≤x) (h1:x≤15):both a x=a∨mu1 (both a x)<mu1 a:=by
  by_cases h:a= -1
  · subst h
    right
    have:fours (fun x=>decide (mu1 (both (-1) x)<mu1 (-1)))=true:=by decide+kernel
    exact of_decide_eq_true (fours_all this h0 h1)
  · have:fours (fun a=>fours fun x=>decide (both a x=a∨mu1 (both a x)<mu1 a))=true:=by decide+kernel
    exact of_decide_eq_true (fours_all (fours_all this (by omega) ha') h0 h1)
abbrev Way:=Int×(Int→Int)
def at_ (o:List Int) (i:Int):Int:=o.getD i.toNat 0
def mergeW (i:Nat) (o:List Int) (a:Way):List Int:=o.set a.1.toNat (both (at_ o a.1) (a.2 (at_ o i)))
def stepW (W:Nat→List Way) (o:List Int) (i:Nat):List Int:=if at_ o i<0 then o else(W i).foldl (mergeW i) o
def passW (W:Nat→List Way) (n:Nat) (o:List Int):List Int:=(List.range n).foldl (stepW W) o
def mu (o:List Int):Nat:=(o.map mu1).sum
def GoodW (W:Nat→List Way) (n:Nat):Prop:= ∀i,i<n→ ∀a∈W i,0≤a.1∧a.1<n∧ ∀x,0≤x→x≤15→0≤a.2 x∧a.2 x≤15
def GoodO (n:Nat) (o:List Int):Prop:=o.length=n∧ ∀x∈o, -1≤x∧x≤15
theorem at_good {n:Nat} {o:List Int} (h:GoodO n o) (i:Int): -1≤at_ o i∧at_ o i≤15:=by
  unfold at_;rw[List.getD_eq_getElem?_getD];cases e:o[i.toNat]? with
  |none=>simp
  |some x=>exact h.2 x (List.mem_of_getElem? e)
theorem at_set_self {o:List Int} {i:Int} {x:Int} (h:i.toNat<o.length):at_ (o.set i.toNat x) i=x:=by
  unfold at_;simp[List.getD_eq_getElem?_getD,h]
theorem at_set_ne {o:List Int} {i j:Nat} {x:Int} (h:i≠j):at_ (o.set i x) j=at_ o j:=by
  unfold at_;simp[List.getD_eq_getElem?_getD,h]
theorem set_at {o:List Int} {i:Nat} :o.set i (at_ o i)=o:=by
  unfold at_;by_cases h:i<o.length
  · refine List.ext_getElem (by simp) fun j h1 h2=> ?_
    by_cases e:i=j
    · subst e;simp[List.getD_eq_getElem?_getD,h]
    · simp[e]
  · simp[List.set_eq_of_length_le (by omega:o.length≤i)]
theorem mu_set {o:List Int} {i:Nat} {x:Int} (h:i<o.length):mu (o.set i x)+mu1 (at_ o i)=mu o+mu1 x:=by
  induction o generalizing i with
  |nil=>simp at h
  |cons y o ih=>
    cases i with
    |zero=>simp[mu,at_];omega
    |succ i=>
      have:=ih (i:=i) (by simpa using h)
      simp[mu,at_]at this⊢;omega
def Down (o p:List Int):Prop:=p=o∨mu p<mu o
theorem Down.refl (o:List Int):Down o o:=.inl rfl
theorem Down.trans {o p q:List Int} (h:Down o p) (g:Down p q):Down o q:=by
  rcases h with rfl|h
  · exact g
  · rcases g with rfl|g
    · exact .inr h
    · exact .inr (by omega)
theorem merge_good {W:Nat→List Way} {n i:Nat} {o:List Int} {a:Way} (hW:GoodW W n) (ho:GoodO n o) (hi:i<n) (ha:a∈W i) (h0:0≤at_ o i):
    GoodO n (mergeW i o a)∧Down o (mergeW i o a)∧0≤at_ (mergeW i o a) i:=by
  obtain⟨t0,t1,hf⟩:=hW i hi a ha;have hx:=hf _ h0 (at_good ho i).2;have hb:=both_range (a:=at_ o a.1) hx.1 hx.2;have hm:=both_mu (at_good ho a.1).1 (at_good ho a.1).2 hx.1 hx.2;refine⟨⟨by simp[mergeW,ho.1],fun x hx'=> ?_⟩,?_,?_⟩
  · rcases List.mem_or_eq_of_mem_set hx' with h|h
    · exact ho.2 x h
    · omega
  · have hs:=mu_set (o:=o) (i:=a.1.toNat) (x:=both (at_ o a.1) (a.2 (at_ o i))) (by rw[ho.1];omega)
    have e:at_ o (a.1.toNat:Int)=at_ o a.1:=by rw[Int.toNat_of_nonneg t0]
    rcases hm with hm|hm
    · left;unfold mergeW;rw[hm,←e];exact set_at
    · right;unfold mergeW;rw[e]at hs;omega
  · by_cases e:a.1.toNat=i
    · have:a.1=i:=by omega
      unfold mergeW;rw[←this,at_set_self (by rw[ho.1];omega)]
      rw[this]at hb⊢;omega
    · unfold mergeW;rw[at_set_ne e];exact h0
theorem merges_good {W:Nat→List Way} {n i:Nat} (hW:GoodW W n) (hi:i<n): ∀ (L:List Way),(∀a∈L,a∈W i)→ ∀o,GoodO n o→0≤at_ o i→
    GoodO n (L.foldl (mergeW i) o)∧Down o (L.foldl (mergeW i) o)∧0≤at_ (L.foldl (mergeW i) o) i
  | [],_,o,ho,h0=>⟨ho,.refl _,h0⟩
  |a::L,hL,o,ho,h0=>by
    obtain⟨g,d,z⟩:=merge_good hW ho hi (hL a (by simp)) h0
    obtain⟨g',d',z'⟩:=merges_good hW hi L (fun b hb=>hL b (by simp[hb])) _ g z
    exact⟨g',d.trans d',z'⟩
theorem step_good {W:Nat→List Way} {n i:Nat} {o:List Int} (hW:GoodW W n) (hi:i<n) (ho:GoodO n o):GoodO n (stepW W o i)∧Down o (stepW W o i):=by
  unfold stepW;split
  · exact⟨ho,.refl _⟩
  · obtain⟨g,d,_⟩:=merges_good hW hi (W i) (fun _ h=>h) o ho (by omega)
    exact⟨g,d⟩
theorem passes_good {W:Nat→List Way} {n:Nat} (hW:GoodW W n) {o:List Int} (ho:GoodO n o): ∀m,m≤n→GoodO n (passW W m o)∧Down o (passW W m o)
  |0,_=>⟨ho,.refl _⟩
  |m+1,hm=>by
    obtain⟨g,d⟩:=passes_good hW ho m (by omega)
    obtain⟨g',d'⟩:=step_good hW (i:=m) (by omega) g
    unfold passW;rw[List.range_succ,List.foldl_append];exact⟨g',d.trans d'⟩
theorem pass_succ (W:Nat→List Way) (m:Nat) (o:List Int):passW W (m+1) o=stepW W (passW W m o) m:=by
  unfold passW;rw[List.range_succ,List.foldl_append];rfl
def iterW (W:Nat→List Way) (n:Nat):Nat→List Int→List Int
  |0,o=>o
  |k+1,o=>iterW W n k (passW W n o)
def finW (W:Nat→List Way) (n:Nat) (o:List Int):List Int:=iterW W n (mu o) o
theorem iter_fix {W:Nat→List Way} {n:Nat} {o:List Int} (h:passW W n o=o): ∀k,iterW W n k o=o
  |0=>rfl
  |k+1=>by unfold iterW;rw[h];exact iter_fix h k
theorem iter_more {W:Nat→List Way} {n:Nat} (hW:GoodW W n): ∀ (m:Nat) (o:List Int),mu o≤m→GoodO n o→iterW W n m o=finW W n o∧passW W n (iterW W n m o)=iterW W n m o∧GoodO n (iterW W n m o)
  |0,o,hm,ho=>by
    have e:mu o=0:=by omega
    refine⟨by unfold finW;rw[e],?_,ho⟩
    rcases(passes_good hW ho n (Nat.le_refl n)).2 with h|h
    · exact h
    · omega
  |m+1,o,hm,ho=>by
    obtain⟨g,d⟩:=passes_good hW ho n (Nat.le_refl n);rcases d with h|h
    · exact⟨by unfold finW;rw[iter_fix h,iter_fix h],by rw[iter_fix h];exact h,by rw[iter_fix h];exact ho⟩
    · obtain⟨a,b,c⟩:=iter_more hW m (passW W n o) (by omega) g
      refine⟨?_,b,c⟩
      obtain⟨q,hq⟩: ∃q,mu o=q+1:=⟨mu o-1,by omega⟩
      have:=(iter_more hW q (passW W n o) (by omega) g).1
      show iterW W n m (passW W n o)=_
      unfold finW;rw[hq];show _=iterW W n q (passW W n o)
      rw[a,this]
  termination_by m=>m
theorem fin_pass {W:Nat→List Way} {n:Nat} (hW:GoodW W n) {o:List Int} (ho:GoodO n o):finW W n (passW W n o)=finW W n o:=by
  obtain⟨g,d⟩:=passes_good hW ho n (Nat.le_refl n);rcases d with h|h
  · rw[h]
  · obtain⟨a, -, -⟩:=iter_more hW (mu o-1) (passW W n o) (by omega) g
    obtain⟨b, -, -⟩:=iter_more hW (mu o) o (by omega) ho
    rw[←a,←b];obtain⟨q,hq⟩: ∃q,mu o=q+1:=⟨mu o-1,by omega⟩
    rw[hq];rfl
theorem fin_fix {W:Nat→List Way} {n:Nat} {o:List Int} (h:passW W n o=o):finW W n o=o:=iter_fix h _
theorem fin_good {W:Nat→List Way} {n:Nat} (hW:GoodW W n) {o:List Int} (ho:GoodO n o):passW W n (finW W n o)=finW W n o∧GoodO n (finW W n o):=
  (iter_more hW (mu o) o (Nat.le_refl _) ho).2
def startO (n:Nat):List Int:=(List.replicate n (-1)).set 0 1
theorem start_good (n:Nat):GoodO n (startO n):=by
  refine⟨by simp[startO],fun x hx=> ?_⟩
  rcases List.mem_or_eq_of_mem_set hx with h|h
  · have:=(List.mem_replicate.1 h).2;omega
  · omega
def fullW (W:Nat→List Way) (n:Nat):List Int:=finW W n (startO n)
theorem full_good {W:Nat→List Way} {n:Nat} (hW:GoodW W n):GoodO n (fullW W n):=(fin_good hW (start_good n)).2
end Go.Proofs.YtmklpbmlgjkbiaaGreatDoor.PS
end
section
namespace Go.Proofs.YtmklpbmlgjkbiaaGreatDoor.PS
open Go.Proofs.YtmklpbmlgjkbiaaGreatDoor.PC Go.Proofs.YtmklpbmlgjkbiaaGreatDoor.PD Go.RowKit Go.Proofs.YtmklpbmlgjkbiaaGreatDoorW.PrintWords Go.Proofs.YtmklpbmlgjkbiaaGreatDoorW.PrintLast
def orBit (x r:Int):Int:=bits BinOp.or IntKind.i64 x (wrap64 (2^r.toNat))
theorem orBit_range {x r:Int} (hx:0≤x) (hx2:x≤15) (hr:0≤r) (hr2:r≤3):0≤orBit x r∧orBit x r≤15:=by
  have:fours (fun x=>fours fun r=>decide (r≤3→0≤orBit x r∧orBit x r≤15))=true:=by decide+kernel
  exact of_decide_eq_true (fours_all (fours_all this hx hx2) hr (by omega)) hr2
def flF (f:Fl) (r x:Int):Int:=
  match f with
  | .same=>x
  | .fill=>orBit x r
  | .one=>1
def wayW (l:List S39) (i:Nat):List Way:=(waysL l i).map fun a=>(a.1,flF a.2 (rd_T39 l i).f1)
def fullL (l:List S39):List Int:=fullW (wayW l) l.length
theorem code_len {l:List S39} (h:codeB l=true):1≤l.length∧l.length≤16:=by
  unfold codeB at h;simp at h;omega
theorem code_op {l:List S39} (h:codeB l=true) {i:Nat} (hi:i<l.length):opP l[i].f0 l[i].f1 l[i].f2 l[i].f3 l[i].f4.f0 l[i].f4.f1∧(hasT l[i].f0=true→l[i].f3<l.length):=by
  have h2:l.any (wrongB l.length)=false:=by unfold codeB at h;simp only[Bool.and_eq_true,Bool.not_eq_true']at h;exact h.2
  have:=List.any_eq_false.1 h2 l[i] (List.getElem_mem hi);unfold wrongB opS at this;simp only[Bool.or_eq_true,Bool.not_eq_true',Bool.and_eq_true,decide_eq_true_eq,not_or]at this
  refine⟨opB_true.1 (by simpa using this.1),fun ht=> ?_⟩
  have:=this.2;simp[ht]at this;omega
theorem fills_has {k:Int} :(howR k).f3=true→hasR k=true:=
  kinds (P:=fun k=>(howR k).f3=true→hasR k=true) (fun k hk=>by unfold howR;rw[if_neg hk];intro h;cases h) (by decide) (by decide) (by decide) (by decide) (by decide) (by decide) (by decide) (by decide) (by decide) (by decide) (by decide) (by decide) (by decide) (by decide) k
theorem rd29_get {l:List S39} {i:Nat} (h:i<l.length):rd_T39 l (i:Int)=l[i]:=by
  unfold rd_T39;simp[List.getD_eq_getElem?_getD,List.getElem?_eq_getElem h]
theorem code_way {l:List S39} (h:codeB l=true) {i:Nat} (hi:i<l.length) {a:Int×Fl} (ha:a∈waysL l i):0≤a.1∧a.1<l.length∧(a.2= .fill→0≤(rd_T39 l i).f1∧(rd_T39 l i).f1≤3):=by
  obtain⟨⟨h1,h2,h3,h4,h5,h6⟩,ht⟩:=code_op h hi;unfold waysL arrowsL at ha;rw[rd29_get hi]at ha⊢
  rcases List.mem_append.1 ha with ha|ha
  · split at ha
    · cases ha
    · split at ha
      · obtain rfl:=List.mem_singleton.1 ha
        refine⟨by simp;omega,by simp;omega,fun hf=> ?_⟩
        have hh:(howR l[i].f0).f3=true:=by
          by_cases e:(howR l[i].f0).f3=true
          · exact e
          · simp[e]at hf
        rcases h3 with h3|h3
        · omega
        · exact h3.2
      · cases ha
  · have tt:hasT l[i].f0=true→0≤l[i].f3:=fun h=>by omega
    split at ha
    · rename_i h5'
      obtain rfl:=List.mem_singleton.1 ha;have h6:hasT l[i].f0=true:=by rw[h5'];rfl
      exact⟨tt h6,ht h6,fun hf=>by cases hf⟩
    · split at ha
      · rename_i h6
        obtain rfl:=List.mem_singleton.1 ha;exact⟨tt h6,ht h6,fun hf=>by cases hf⟩
      · cases ha
theorem wayW_good {l:List S39} (h:codeB l=true):GoodW (wayW l) l.length:=by
  intro i hi a ha;obtain⟨b,hb,rfl⟩:=List.mem_map.1 ha;obtain⟨h0,h1,h2⟩:=code_way h hi hb;refine⟨h0,h1,fun x hx hx2=> ?_⟩
  obtain⟨t,f⟩:=b;cases f with
  |same=>exact⟨hx,hx2⟩
  |fill=>exact orBit_range hx hx2 (h2 rfl).1 (h2 rfl).2
  |one=>exact⟨by show(0:Int)≤1;decide,by show(1:Int)≤15;decide⟩
end Go.Proofs.YtmklpbmlgjkbiaaGreatDoor.PS
end
section
namespace Go.Proofs.YtmklpbmlgjkbiaaGreatDoor.PS
open Go.Proofs.YtmklpbmlgjkbiaaGreatDoor.PC Go.Proofs.YtmklpbmlgjkbiaaGreatDoor.PD Go.RowKit Go.Proofs.YtmklpbmlgjkbiaaGreatDoorW.PrintWords Go.Proofs.YtmklpbmlgjkbiaaGreatDoorW.PrintLast
theorem rd_at (l:List Int) (i:Nat) (h:i<l.length):rd l (i:Int)=l[i]:=by
  unfold rd;simp[List.getD_eq_getElem?_getD,List.getElem?_eq_getElem h]
end Go.Proofs.YtmklpbmlgjkbiaaGreatDoor.PS
end
section
namespace Go.Proofs.YtmklpbmlgjkbiaaGreatDoor.PS
open Go.Proofs.YtmklpbmlgjkbiaaGreatDoor.PC Go.Proofs.YtmklpbmlgjkbiaaGreatDoor.PD Go.RowKit Go.Proofs.YtmklpbmlgjkbiaaGreatDoorW.PrintWords Go.Proofs.YtmklpbmlgjkbiaaGreatDoorW.PrintLast
theorem wr64 {x:Int} (h0: -9223372036854775808≤x) (h1:x≤9223372036854775807):wrap64 x=x:=by
  unfold wrap64;omega
theorem xor_nonneg (a b:Int) (ha:0≤a) (ha':a<4611686018427387904) (hb:0≤b) (hb':b<4611686018427387904):0≤Go.bits .xor .i64 a b:=by
  obtain⟨m,rfl⟩:=Int.eq_ofNat_of_zero_le ha;obtain⟨n,rfl⟩:=Int.eq_ofNat_of_zero_le hb;have hm:m<2^62:=by omega
  have hn:n<2^62:=by omega
  have hx:m^^^n<2^62:=Nat.xor_lt_two_pow hm hn;have e1:m%2^IntKind.i64.bits=m:=Nat.mod_eq_of_lt (by show m<2^64;omega)
  have e2:n%2^IntKind.i64.bits=n:=Nat.mod_eq_of_lt (by show n<2^64;omega)
  simp only[bits,BitVec.ofInt_natCast,BitVec.toNat_xor,BitVec.toNat_ofNat,e1,e2]
  rw[IntKind.wrap_i64];omega
def Bytes (b:List Int):Prop:=b.length≤2000∧ ∀x∈b,0≤x∧x≤255
theorem rd_byte {b:List Int} (hb:Bytes b) {i:Int} (h:i.toNat<b.length):0≤rd b i∧rd b i≤255:=by
  unfold rd;rw[List.getD_eq_getElem?_getD,List.getElem?_eq_getElem h];exact hb.2 _ (List.getElem_mem h)
theorem pick_ok {b:List Int} (hb:Bytes b) (k:Nat) (p n:Int) (hp:0≤p) (hp':p<1000000) (hn':n<1000000):
    ∃x,spec_l6Rd_pick.f (k+1) b p n=some (x,p+1)∧0≤x∧(1≤n→x<n)∧(n<1→x=0):=by
  have e1:wrap64 (p+1)=p+1:=wr64 (by omega) (by omega)
  have e2:wrap64 (p+1-1)=p:=by rw[wr64]<;>omega
  unfold spec_l6Rd_pick.f;rw[e1];by_cases hn:n<1
  · rw[if_pos hn]
    exact⟨0,by simp[spec_l6Rd_pick.j0],by omega,by omega,fun _=>rfl⟩
  rw[if_neg hn];by_cases hl:b.length=0
  · refine⟨0,?_,by omega,by omega,fun _=>rfl⟩
    simp[spec_l6Rd_pick.j0,hl]
  have hlb:=hb.1;have c0:(((b.length:Nat):Int)==0)=false:=by simp;intro h;simp[h]at hl
  rw[c0];simp only[spec_l6Rd_pick.j0]
  rw[if_neg (by simp),e2]
  have tm: ∀X:Int,0≤X→0≤Int.tmod X n∧Int.tmod X n<n:=fun X hX=>by
    rw[Int.tmod_eq_emod_of_nonneg hX];exact⟨Int.emod_nonneg _ (by omega),Int.emod_lt_of_pos _ (by omega)⟩
  by_cases hlt:p<(b.length:Int)
  · rw[if_pos hlt,if_pos hp,if_neg (by omega)]
    have hr:=rd_byte hb (i:=p) (by omega)
    rw[wr64 (x:=rd b p) (by omega) (by omega)]
    have:=tm _ hr.1;exact⟨_,rfl,this.1,fun _=>this.2,fun h=>absurd h hn⟩
  rw[if_neg hlt,if_neg (by omega)]
  have hL:(0:Int)<(b.length:Int):=by omega
  have ti: ∀X:Int,0≤X→0≤Int.tmod X (b.length:Int)∧Int.tmod X (b.length:Int)<(b.length:Int):=fun X hX=>by
    rw[Int.tmod_eq_emod_of_nonneg hX];exact⟨Int.emod_nonneg _ (by omega),Int.emod_lt_of_pos _ hL⟩
  have e3:wrap64 (wrap64 (p*7)+3)=p*7+3:=by rw[wr64 (x:=p*7) (by omega) (by omega)];exact wr64 (by omega) (by omega)
  rw[e3];obtain⟨i,hi⟩: ∃i,Int.tmod p (b.length:Int)=i:=⟨_,rfl⟩;obtain⟨j,hj⟩: ∃j,Int.tmod (p*7+3) (b.length:Int)=j:=⟨_,rfl⟩;have bi:=ti p hp;have bj:=ti (p*7+3) (by omega)
  rw[hi]at bi⊢;rw[hj]at bj⊢
  rw[if_pos bi.1,if_pos bi.2,if_pos bj.1,if_pos bj.2,if_neg (by omega)]
  have r1:=rd_byte hb (i:=i) (by omega)
  have r2:=rd_byte hb (i:=j) (by omega)
  obtain⟨u,hu⟩: ∃u,rd b i=u:=⟨_,rfl⟩;obtain⟨v,hv⟩: ∃v,rd b j=v:=⟨_,rfl⟩;rw[hu]at r1⊢;rw[hv]at r2⊢
  obtain⟨q,hq⟩: ∃q,Int.tdiv p (b.length:Int)=q:=⟨_,rfl⟩
  have bq:0≤q∧q≤p:=by
    rw[←hq,Int.tdiv_eq_ediv_of_nonneg hp];exact⟨Int.ediv_nonneg hp (by omega),Int.ediv_le_self _ hp⟩
  rw[hq,wr64 (x:=u) (by omega) (by omega),wr64 (x:=v) (by omega) (by omega),wr64 (x:=u*131) (by omega) (by omega),wr64 (x:=v*1117) (by omega) (by omega),wr64 (x:=u*131+v*1117) (by omega) (by omega),wr64 (x:=p*29) (by omega) (by omega),wr64 (x:=q) (by omega) (by omega),wr64 (x:=q*53) (by omega) (by omega),wr64 (x:=u*131+v*1117+p*29) (by omega) (by omega),wr64 (x:=u*131+v*1117+p*29+q*53) (by omega) (by omega)]
  obtain⟨X,hX⟩: ∃X,u*131+v*1117+p*29+q*53=X:=⟨_,rfl⟩;have bX:0≤X∧X<100000000:=by omega
  rw[hX]
  have bY:0≤Int.tdiv X 64∧Int.tdiv X 64<100000000:=by
    rw[Int.tdiv_eq_ediv_of_nonneg bX.1];omega
  rw[wr64 (x:=Int.tdiv X 64) (by omega) (by omega)]
  have:=tm _ (xor_nonneg X (Int.tdiv X 64) bX.1 (by omega) bY.1 (by omega))
  exact⟨_,rfl,this.1,fun _=>this.2,fun h=>absurd h hn⟩
theorem rd_all {P:Int→Prop} {l:List Int} (h: ∀x∈l,P x) {i:Int} (hi:i.toNat<l.length):P (rd l i):=by
  unfold rd;rw[List.getD_eq_getElem?_getD,List.getElem?_eq_getElem hi];exact h _ (List.getElem_mem hi)
def Drawn (kd n:Int):Prop:=0≤kd∧kd≤5∧ -100≤n∧n≤100
theorem val_tail {b:List Int} (hb:Bytes b) (k:Nat) (p kd n:Int) (hp:0≤p) (hp':p<900000) (h:Drawn kd n):
    ∃kd' n' p',spec_l71Val.j0 (k+2) b p kd n=some (kd',n',p')∧Drawn kd' n'∧p≤p'∧p'≤p+2:=by
  obtain⟨h1,h2,h3,h4⟩:=h;simp only[spec_l71Val.j0]
  obtain⟨x,hx,x0,x1, -⟩:=pick_ok hb k p 30 hp (by omega) (by omega)
  rw[hx];simp only[Option.bind_some]
  by_cases c0:x=0
  · rw[if_pos c0]
    obtain⟨y,hy,y0,y1, -⟩:=pick_ok hb k (p+1) 3 (by omega) (by omega) (by omega)
    have y1:=y1 (by omega)
    rw[hy];simp only[Option.bind_some]
    rw[if_pos y0,if_pos (by simp;omega)]
    have:=rd_all (P:=fun x=> -100≤x∧x≤100) (l:=[-100,100,10]) (by simp) (i:=y) (by simp;omega)
    exact⟨_,_,_,rfl,⟨h1,h2,this.1,this.2⟩,by omega,by omega⟩
  rw[if_neg c0];by_cases c1:x=1
  · rw[if_pos c1]
    obtain⟨y,hy,y0,y1, -⟩:=pick_ok hb k (p+1) 6 (by omega) (by omega) (by omega)
    have y1:=y1 (by omega)
    rw[hy];simp only[Option.bind_some]
    exact⟨_,_,_,rfl,⟨y0,by omega,h3,h4⟩,by omega,by omega⟩
  rw[if_neg c1];exact⟨_,_,_,rfl,⟨h1,h2,h3,h4⟩,by omega,by omega⟩
theorem val_ok {b:List Int} (hb:Bytes b) (k:Nat) (p:Int) (hp:0≤p) (hp':p<800000):
    ∃kd n p',spec_l71Val.f (k+2) b p=some (kd,n,p')∧Drawn kd n∧p≤p'∧p'≤p+4:=by
  unfold spec_l71Val.f;obtain⟨x,hx,x0,x1, -⟩:=pick_ok hb (k+1) p 4 hp (by omega) (by omega)
  have x1:=x1 (by omega)
  rw[hx];simp only[Option.bind_some]
  by_cases c1:x=1
  · rw[if_pos c1]
    obtain⟨y,hy,y0,y1, -⟩:=pick_ok hb (k+1) (p+1) 9 (by omega) (by omega) (by omega)
    have y1:=y1 (by omega)
    rw[hy];simp only[Option.bind_some]
    rw[if_pos y0,if_pos (by simp;omega)]
    have:=rd_all (P:=fun x=> -100≤x∧x≤100) (l:=[0,1,2,3, -1,7,50,99, -99]) (by simp) (i:=y) (by simp;omega)
    obtain⟨kd,n,p',h,hd,l1,l2⟩:=val_tail hb k (p+1+1) x _ (by omega) (by omega) ⟨x0,by omega,this.1,this.2⟩
    exact⟨kd,n,p',h,hd,by omega,by omega⟩
  rw[if_neg c1];by_cases c2:x=2
  · rw[if_pos c2]
    obtain⟨y,hy,y0,y1, -⟩:=pick_ok hb (k+1) (p+1) 5 (by omega) (by omega) (by omega)
    have y1:=y1 (by omega)
    rw[hy];simp only[Option.bind_some]
    obtain⟨kd,n,p',h,hd,l1,l2⟩:=val_tail hb k (p+1+1) x y (by omega) (by omega) ⟨x0,by omega,by omega,by omega⟩
    exact⟨kd,n,p',h,hd,by omega,by omega⟩
  rw[if_neg c2];by_cases c3:x=3
  · rw[if_pos c3]
    obtain⟨y,hy,y0,y1, -⟩:=pick_ok hb (k+1) (p+1) 4 (by omega) (by omega) (by omega)
    have y1:=y1 (by omega)
    rw[hy];simp only[Option.bind_some]
    rw[wr64 (x:=1+y) (by omega) (by omega)]
    obtain⟨kd,n,p',h,hd,l1,l2⟩:=val_tail hb k (p+1+1) x (1+y) (by omega) (by omega) ⟨x0,by omega,by omega,by omega⟩
    exact⟨kd,n,p',h,hd,by omega,by omega⟩
  rw[if_neg c3];obtain⟨kd,n,p',h,hd,l1,l2⟩:=val_tail hb k (p+1) x 0 (by omega) (by omega) ⟨x0,by omega,by omega,by omega⟩
  exact⟨kd,n,p',h,hd,by omega,by omega⟩
theorem good_ok {b:List Int} (hb:Bytes b) (k:Nat) (p:Int) (hp:0≤p) (hp':p<800000):
    ∃kd n p',spec_l71Good.f (k+2) b p=some (kd,n,p')∧Drawn kd n∧okP kd n∧p≤p'∧p'≤p+4:=by
  unfold spec_l71Good.f;obtain⟨kd,n,p',h,hd,p0,p1⟩:=val_ok hb k p hp hp';rw[h];simp only[Option.bind_some]
  rw[sok_eq];simp only[Option.bind_some]
  by_cases c:okB kd n=true
  · rw[if_pos c];exact⟨_,_,_,rfl,hd,okB_true.1 c,p0,p1⟩
  · rw[if_neg c];exact⟨1,1,_,rfl,⟨by omega,by omega,by omega,by omega⟩,by unfold okP;omega,p0,p1⟩
theorem leO_add {α:Type} {f:Nat→Option α} (h: ∀k,LeO (f k) (f (k+1))) {a:α} {m:Nat} (e:f m=some a): ∀k,f (k+m)=some a
  |0=>by rw[Nat.zero_add];exact e
  |k+1=>by rw[Nat.add_right_comm];exact h _ _ (leO_add h e k)
theorem form_ge (k:Nat) (x:Int):spec_l2Form.f (k+3) x=some (formL x):=leO_add (f:=fun k=>spec_l2Form.f k x) (fun k=>spec_l2Form.mono x k) (form_eq x) k
def DrawnOp (k r s t vk vn:Int):Prop:=0≤k∧k≤17∧ -1≤r∧r≤6∧ -1≤s∧s≤6∧0≤t∧t≤16∧Drawn vk vn
def GoodOp (places k r s t vk vn:Int):Prop:=(1≤k∧k≤14)∧valP k vk vn∧(r=0∨(hasR k=true∧0≤r∧r≤3))∧(s=0∨(hasS k=true∧0≤s∧s≤3))∧
    (t=0∨(hasT k=true∧0≤t∧t<places))∧(hasV k=true∨(vk=0∧vn=0))∧Drawn vk vn
theorem op_ok {b:List Int} (hb:Bytes b) (k:Nat) (p n:Int) (hp:0≤p) (hp':p<700000) (hn:1≤n) (hn':n≤16):
    ∃x r s t vk vn p',spec_l71Op.f (k+7) b p n=some (x,r,s,t,vk,vn,p')∧GoodOp n x r s t vk vn∧p≤p'∧p'≤p+12:=by
  unfold spec_l71Op.f;obtain⟨x0,hx,x00,x01, -⟩:=pick_ok hb (k+6) p 14 hp (by omega) (by omega)
  have x01:=x01 (by omega)
  rw[hx];simp only[Option.bind_some]
  rw[wr64 (x:=1+x0) (by omega) (by omega),show k+7=(k+4)+3 from rfl,form_ge];simp only[Option.bind_some]
  obtain⟨x,hxx⟩: ∃x,1+x0=x:=⟨_,rfl⟩;rw[hxx];have hk:1≤x∧x≤14:=by omega
  have hF:formL x=[hasR x,hasS x,hasT x,hasV x]:=if_pos hk;rw[hF,if_pos (by simp)]
  have hR: ∃r p1,(if rdOf false [hasR x,hasS x,hasT x,hasV x] 0=true then(spec_l6Rd_pick.f (k+7) b (p+1) 4).bind fun bt209=>spec_l71Op.j0 (k+7) n [hasR x,hasS x,hasT x,hasV x] b bt209.2 x bt209.1 0 0 0 0 else spec_l71Op.j0 (k+7) n [hasR x,hasS x,hasT x,hasV x] b (p+1) x 0 0 0 0 0)=spec_l71Op.j0 (k+7) n [hasR x,hasS x,hasT x,hasV x] b p1 x r 0 0 0 0∧(r=0∨(hasR x=true∧0≤r∧r≤3))∧p+1≤p1∧p1≤p+2:=by
    have e:rdOf false [hasR x,hasS x,hasT x,hasV x] 0=hasR x:=rfl;rw[e];by_cases c:hasR x=true
    · rw[if_pos c]
      obtain⟨y,hy,y0,y1, -⟩:=pick_ok hb (k+6) (p+1) 4 (by omega) (by omega) (by omega)
      have y1:=y1 (by omega)
      rw[hy];simp only[Option.bind_some]
      exact⟨y,p+1+1,rfl,.inr ⟨c,y0,by omega⟩,by omega,by omega⟩
    · rw[if_neg c];exact⟨0,p+1,rfl,.inl rfl,by omega,by omega⟩
  obtain⟨r,p1,e1,hr,b10,b11⟩:=hR;rw[show k+4+3=k+7 from rfl,e1]
  rw[show k+7=(k+6)+1 from rfl,spec_l71Op.j0]
  rw[if_pos (by simp)]
  have hS: ∃s p2,(if rdOf false [hasR x,hasS x,hasT x,hasV x] 1=true then(spec_l6Rd_pick.f (k+6) b p1 4).bind fun bt209=>spec_l71Op.j1 (k+6) n [hasR x,hasS x,hasT x,hasV x] b bt209.2 x r bt209.1 0 0 0 else spec_l71Op.j1 (k+6) n [hasR x,hasS x,hasT x,hasV x] b p1 x r 0 0 0 0)=spec_l71Op.j1 (k+6) n [hasR x,hasS x,hasT x,hasV x] b p2 x r s 0 0 0∧(s=0∨(hasS x=true∧0≤s∧s≤3))∧p1≤p2∧p2≤p1+1:=by
    have e:rdOf false [hasR x,hasS x,hasT x,hasV x] 1=hasS x:=rfl;rw[e];by_cases c:hasS x=true
    · rw[if_pos c]
      obtain⟨y,hy,y0,y1, -⟩:=pick_ok hb (k+5) p1 4 (by omega) (by omega) (by omega)
      have y1:=y1 (by omega)
      rw[hy];simp only[Option.bind_some]
      exact⟨y,p1+1,rfl,.inr ⟨c,y0,by omega⟩,by omega,by omega⟩
    · rw[if_neg c];exact⟨0,p1,rfl,.inl rfl,by omega,by omega⟩
  obtain⟨s,p2,e2,hs,b20,b21⟩:=hS;rw[e2,show k+6=(k+5)+1 from rfl,spec_l71Op.j1,if_pos (by simp)]
  have hT: ∃t p3,(if rdOf false [hasR x,hasS x,hasT x,hasV x] 2=true then(spec_l6Rd_pick.f (k+5) b p2 n).bind fun bt209=>spec_l71Op.j2 (k+5) [hasR x,hasS x,hasT x,hasV x] b bt209.2 x r s bt209.1 0 0 else spec_l71Op.j2 (k+5) [hasR x,hasS x,hasT x,hasV x] b p2 x r s 0 0 0)=spec_l71Op.j2 (k+5) [hasR x,hasS x,hasT x,hasV x] b p3 x r s t 0 0∧(t=0∨(hasT x=true∧0≤t∧t<n))∧p2≤p3∧p3≤p2+1:=by
    have e:rdOf false [hasR x,hasS x,hasT x,hasV x] 2=hasT x:=rfl;rw[e];by_cases c:hasT x=true
    · rw[if_pos c]
      obtain⟨y,hy,y0,y1, -⟩:=pick_ok hb (k+4) p2 n (by omega) (by omega) (by omega)
      have y1:=y1 (by omega)
      rw[hy];simp only[Option.bind_some]
      exact⟨y,p2+1,rfl,.inr ⟨c,y0,by omega⟩,by omega,by omega⟩
    · rw[if_neg c];exact⟨0,p2,rfl,.inl rfl,by omega,by omega⟩
  obtain⟨t,p3,e3,ht,b30,b31⟩:=hT;rw[e3,show k+5=(k+4)+1 from rfl,spec_l71Op.j2,if_pos (by simp)]
  have hV: ∃vk vn p4,(if rdOf false [hasR x,hasS x,hasT x,hasV x] 3=true then(spec_l71Good.f (k+4) b p3).bind fun bt218=>spec_l71Op.j3 (k+4) b bt218.2.2 x r s t bt218.1 bt218.2.1 else spec_l71Op.j3 (k+4) b p3 x r s t 0 0)=spec_l71Op.j3 (k+4) b p4 x r s t vk vn∧okP vk vn∧Drawn vk vn∧(hasV x=true∨(vk=0∧vn=0))∧p3≤p4∧p4≤p3+4:=by
    have e:rdOf false [hasR x,hasS x,hasT x,hasV x] 3=hasV x:=rfl;rw[e];by_cases c:hasV x=true
    · rw[if_pos c]
      obtain⟨kd,v,p',h,hd,ho,q0,q1⟩:=good_ok hb (k+2) p3 (by omega) (by omega)
      rw[h];simp only[Option.bind_some]
      exact⟨kd,v,p',rfl,ho,hd,.inl c,q0,q1⟩
    · rw[if_neg c];exact⟨0,0,p3,rfl,by unfold okP;omega,⟨by omega,by omega,by omega,by omega⟩,.inr ⟨rfl,rfl⟩,by omega,by omega⟩
  obtain⟨vk,vn,p4,e4,ho,hd,hv,b40,b41⟩:=hV;rw[e4,show k+4=(k+3)+1 from rfl,spec_l71Op.j3]
  by_cases c8:x=8
  · rw[if_pos c8]
    obtain⟨y,hy,y0,y1, -⟩:=pick_ok hb (k+2) p4 3 (by omega) (by omega) (by omega)
    have y1:=y1 (by omega)
    rw[hy];simp only[Option.bind_some]
    rw[wr64 (x:=1+y) (by omega) (by omega)]
    exact⟨x,r,s,t,1,1+y,p4+1,rfl,⟨hk,⟨by unfold okP;omega,by omega,by omega⟩,hr,hs,ht,.inl (by subst c8;rfl),by omega,by omega,by omega,by omega⟩,by omega,by omega⟩
  rw[if_neg c8];by_cases c13:x=13
  · rw[if_pos c13]
    obtain⟨y,hy,y0,y1, -⟩:=pick_ok hb (k+2) p4 2 (by omega) (by omega) (by omega)
    have y1:=y1 (by omega)
    rw[hy];simp only[Option.bind_some]
    exact⟨x,r,s,t,1,y,p4+1,rfl,⟨hk,⟨by unfold okP;omega,by omega,by omega⟩,hr,hs,ht,.inl (by subst c13;rfl),by omega,by omega,by omega,by omega⟩,by omega,by omega⟩
  rw[if_neg c13];exact⟨x,r,s,t,vk,vn,p4,rfl,⟨hk,⟨ho,by omega,by omega⟩,hr,hs,ht,hv,hd⟩,by omega,by omega⟩
theorem GoodOp.drawn {n k r s t vk vn:Int} (hn:n≤16) (h:GoodOp n k r s t vk vn):DrawnOp k r s t vk vn:=by
  obtain⟨a,b,c,d,e,f,g⟩:=h;exact⟨by omega,by omega,by omega,by omega,by omega,by omega,by omega,by omega,g⟩
theorem any_ok {b:List Int} (hb:Bytes b) (k:Nat) (p:Int) (hp:0≤p) (hp':p<600000):
    ∃x r s t vk vn p',spec_l71AnyOp.f (k+7) b p=some (x,r,s,t,vk,vn,p')∧DrawnOp x r s t vk vn∧p≤p'∧p'≤p+20:=by
  unfold spec_l71AnyOp.f;obtain⟨x,r,s,t,vk,vn,p1,h,hg,q0,q1⟩:=op_ok hb k p 16 hp (by omega) (by omega) (by omega)
  obtain⟨d1,d2,d3,d4,d5,d6,d7,d8,hd⟩:=hg.drawn (by omega)
  rw[h];simp only[Option.bind_some]
  obtain⟨y,hy,y0,y1, -⟩:=pick_ok hb (k+6) p1 20 (by omega) (by omega) (by omega)
  rw[hy];simp only[Option.bind_some]
  by_cases c0:y=0
  · rw[if_pos c0]
    obtain⟨z,hz,z0,z1, -⟩:=pick_ok hb (k+6) (p1+1) 17 (by omega) (by omega) (by omega)
    have z1:=z1 (by omega)
    rw[hz];simp only[Option.bind_some]
    exact⟨_,_,_,_,_,_,_,rfl,⟨z0,by omega,d3,d4,d5,d6,d7,d8,hd⟩,by omega,by omega⟩
  rw[if_neg c0];by_cases c1:y=1
  · rw[if_pos c1]
    obtain⟨z,hz,z0,z1, -⟩:=pick_ok hb (k+6) (p1+1) 6 (by omega) (by omega) (by omega)
    have z1:=z1 (by omega)
    rw[hz];simp only[Option.bind_some]
    rw[wr64 (x:=z-1) (by omega) (by omega)]
    exact⟨_,_,_,_,_,_,_,rfl,⟨d1,d2,by omega,by omega,d5,d6,d7,d8,hd⟩,by omega,by omega⟩
  rw[if_neg c1];by_cases c2:y=2
  · rw[if_pos c2]
    obtain⟨kd,v,p',h,hd,q0,q1⟩:=val_ok hb (k+5) (p1+1) (by omega) (by omega)
    rw[h];simp only[Option.bind_some]
    exact⟨_,_,_,_,_,_,_,rfl,⟨d1,d2,d3,d4,d5,d6,d7,d8,hd⟩,by omega,by omega⟩
  rw[if_neg c2];exact⟨_,_,_,_,_,_,_,rfl,⟨d1,d2,d3,d4,d5,d6,d7,d8,hd⟩,by omega,by omega⟩
end Go.Proofs.YtmklpbmlgjkbiaaGreatDoor.PS
end
section
namespace Go.Proofs.YtmklpbmlgjkbiaaGreatDoor.PS
open Go.Proofs.YtmklpbmlgjkbiaaGreatDoor.PC Go.Proofs.YtmklpbmlgjkbiaaGreatDoor.PD Go.RowKit Go.Proofs.YtmklpbmlgjkbiaaGreatDoorW.PrintWords Go.Proofs.YtmklpbmlgjkbiaaGreatDoorW.PrintLast
def freeB (x s:Int):Bool:=bits BinOp.and IntKind.i64 (x/2^s.toNat) 1==0
def endsB (x:S39):Bool:=decide (x.f0=9∨x.f0=14)
def safeAt (l:List S39) (i:Nat):Bool:=decide (at_ (fullL l) i<0)||((decide (i+1<l.length)||endsB (rd_T39 l i))&& !((usesL (rd_T39 l i).f0 (rd_T39 l i).f1 (rd_T39 l i).f2).any (freeB (at_ (fullL l) i))))
def safeB (l:List S39):Bool:=codeB l&&(List.range l.length).all (safeAt l)
theorem uses_slots {l:List S39} (h:codeB l=true) {i:Nat} (hi:i<l.length): ∀s∈usesL (rd_T39 l i).f0 (rd_T39 l i).f1 (rd_T39 l i).f2,0≤s∧s≤3:=by
  obtain⟨⟨h1,h2,h3,h4,h5,h6⟩,ht⟩:=code_op h hi;rw[rd29_get hi];have hR:0≤l[i].f1∧l[i].f1≤3:=by omega
  have hS:0≤l[i].f2∧l[i].f2≤3:=by omega
  intro s hs;unfold usesL at hs;split at hs
  · simp at hs;omega
  · split at hs
    · simp at hs;rcases hs with hs|hs<;>omega
    · split at hs
      · simp at hs;omega
      · cases hs
end Go.Proofs.YtmklpbmlgjkbiaaGreatDoor.PS
end
section
namespace Go.Proofs.YtmklpbmlgjkbiaaGreatDoor.PS
open Go.Proofs.YtmklpbmlgjkbiaaGreatDoor.PC Go.Proofs.YtmklpbmlgjkbiaaGreatDoor.PD Go.RowKit Go.Proofs.YtmklpbmlgjkbiaaGreatDoorW.PrintWords Go.Proofs.YtmklpbmlgjkbiaaGreatDoorW.PrintLast
theorem both_eq {a x:Int} (ha: -1≤a) (ha':a≤15) (h0:0≤x) (h1:x≤15):spec_l3Both.f 12 a x=some (both a x):=by
  by_cases h:a= -1
  · subst h;unfold spec_l3Both.f;rfl
  · have:fours (fun a=>fours fun x=>decide (spec_l3Both.f 12 a x=some (both a x)))=true:=by decide+kernel
    exact of_decide_eq_true (fours_all (fours_all this (by omega) ha') h0 h1)
theorem both_ev {a x:Int} (ha: -1≤a) (ha':a≤15) (h0:0≤x) (h1:x≤15):Ev (fun k=>spec_l3Both.f k a x) (both a x):=
  Ev.of (fun k=>spec_l3Both.mono a x k) (both_eq ha ha' h0 h1)
theorem with_eq {x r:Int} (hx:0≤x) (hx2:x≤15) (hr:0≤r) (hr2:r≤3):spec_l3With.f x r=some (orBit x r):=by
  have:fours (fun x=>fours fun r=>decide (r≤3→spec_l3With.f x r=some (orBit x r)))=true:=by decide+kernel
  exact of_decide_eq_true (fours_all (fours_all this hx hx2) hr (by omega)) hr2
theorem fills_eq {k:Int} (h:1≤k∧k≤14):spec_l3Fills.f k=some (howR k).f3:=by
  have:k=1∨k=2∨k=3∨k=4∨k=5∨k=6∨k=7∨k=8∨k=9∨k=10∨k=11∨k=12∨k=13∨k=14:=by omega
  rcases this with rfl|rfl|rfl|rfl|rfl|rfl|rfl|rfl|rfl|rfl|rfl|rfl|rfl|rfl<;>rfl
def msetL (o:List Int) (t:Int) (v:Int):List Int:=o.set t.toNat (both (at_ o t) v)
theorem merge_ev {n:Nat} {o:List Int} (ho:GoodO n o) {t v:Int} (h0:0≤t) (ht:t<n) (hv:0≤v) (hv2:v≤15):Ev (fun k=>spec_l3Merge.f k o t v) (decide (mu (msetL o t v)<mu o),msetL o t v):=by
  have hb:=both_ev (at_good ho t).1 (at_good ho t).2 hv hv2;obtain⟨K,hK⟩:=hb;refine⟨K,fun k hk=> ?_⟩
  have hK:spec_l3Both.f k (at_ o t) v=some (both (at_ o t) v):=hK k hk;show spec_l3Merge.f k o t v=_
  unfold spec_l3Merge.f;rw[if_neg (by rw[ho.1];omega),if_pos h0,if_pos (by rw[ho.1];omega)]
  have e:rd o t=at_ o t:=rfl;rw[e,hK];simp only[Option.bind_some]
  have hm:=mu_set (o:=o) (i:=t.toNat) (x:=both (at_ o t) v) (by rw[ho.1];omega)
  rw[Int.toNat_of_nonneg h0]at hm
  by_cases he:both (at_ o t) v=at_ o t
  · rw[if_pos he]
    have e2:msetL o t v=o:=by
      unfold msetL;rw[he];have:=set_at (o:=o) (i:=t.toNat);rwa [Int.toNat_of_nonneg h0]at this
    rw[e2];simp
  · rw[if_neg he]
    have:=both_mu (at_good ho t).1 (at_good ho t).2 hv hv2
    have h2:mu1 (both (at_ o t) v)<mu1 (at_ o t):=by
      rcases this with h|h
      · exact absurd h he
      · exact h
    have h3:mu (msetL o t v)<mu o:=by unfold msetL;omega
    rw[decide_eq_true h3];rfl
theorem merge_out (k:Nat) {o:List Int} {t v:Int} (ht:(o.length:Int)≤t):spec_l3Merge.f k o t v=some (false,o):=by
  unfold spec_l3Merge.f;rw[if_pos (by omega)]
theorem mset_good {n:Nat} {o:List Int} (ho:GoodO n o) {t v:Int} (h0:0≤t) (ht:t<n) (hv:0≤v) (hv2:v≤15):GoodO n (msetL o t v)∧Down o (msetL o t v)∧ ∀i,0≤i→0≤at_ o i→0≤at_ (msetL o t v) i:=by
  have hb:=both_range (a:=at_ o t) hv hv2;refine⟨⟨by simp[msetL,ho.1],fun x hx=> ?_⟩,?_,fun i hi h=> ?_⟩
  · rcases List.mem_or_eq_of_mem_set hx with h|h
    · exact ho.2 x h
    · omega
  · have hm:=mu_set (o:=o) (i:=t.toNat) (x:=both (at_ o t) v) (by rw[ho.1];omega)
    rw[Int.toNat_of_nonneg h0]at hm
    rcases both_mu (at_good ho t).1 (at_good ho t).2 hv hv2 with he|he
    · left;unfold msetL;rw[he]
      have:=set_at (o:=o) (i:=t.toNat);rwa [Int.toNat_of_nonneg h0]at this
    · right;unfold msetL;omega
  · by_cases e:t=i
    · subst e;unfold msetL;rw[at_set_self (by rw[ho.1];omega)];exact hb.1
    · have:=at_set_ne (o:=o) (i:=t.toNat) (j:=i.toNat) (x:=both (at_ o t) v) (by omega)
      rw[Int.toNat_of_nonneg hi]at this
      unfold msetL;rw[this];exact h
theorem both_comm {z a b:Int} (ha:0≤a) (hb:0≤b):both (both z a) b=both (both z b) a:=by
  unfold both;by_cases hz:z<0
  · rw[if_pos hz,if_pos hz,if_neg (by omega),if_neg (by omega),Nat.and_comm]
  · rw[if_neg hz,if_neg hz,if_neg (by omega),if_neg (by omega)]
    simp only[Int.toNat_natCast]
    rw[Nat.and_assoc,Nat.and_comm a.toNat,←Nat.and_assoc]
theorem mset_comm {n:Nat} {o:List Int} (ho:GoodO n o) {s t a b:Int} (hs:0≤s) (hs2:s<n) (ht:0≤t) (ht2:t<n) (ha:0≤a) (hb:0≤b):msetL (msetL o s a) t b=msetL (msetL o t b) s a:=by
  by_cases e:s=t
  · subst e
    unfold msetL;rw[at_set_self (by rw[ho.1];omega),at_set_self (by rw[ho.1];omega),List.set_set,List.set_set,both_comm ha hb]
  · have h1:=at_set_ne (o:=o) (i:=s.toNat) (j:=t.toNat) (x:=both (at_ o s) a) (by omega)
    have h2:=at_set_ne (o:=o) (i:=t.toNat) (j:=s.toNat) (x:=both (at_ o t) b) (by omega)
    rw[Int.toNat_of_nonneg ht]at h1
    rw[Int.toNat_of_nonneg hs]at h2
    unfold msetL;rw[h1,h2,List.set_comm _ _ (by omega)]
theorem ev_eq {α:Type} {g:Nat→Option α} {a b:α} (h:Ev g a) (e:a=b):Ev g b:=e▸h
theorem from_ev {l:List S39} (hc:codeB l=true) {o:List Int} (ho:GoodO l.length o) {i:Nat} (hi:i<l.length) (h0:0≤at_ o i):
    Ev (fun k=>spec_l3From.f k l o i) (decide (mu (stepW (wayW l) o i)<mu o),stepW (wayW l) o i):=by
  obtain⟨⟨k1,k2,k3,k4,k5,k6⟩,kt⟩:=code_op hc hi;have hlen:=code_len hc;obtain⟨x,hx⟩: ∃x,x=l[i]:=⟨_,rfl⟩;rw[←hx]at k1 k2 k3 k4 k5 k6 kt
  have hrd:rd_T39 l (i:Int)=x:=by rw[rd29_get hi,hx]
  obtain⟨u,hu⟩: ∃u,u=at_ o i:=⟨_,rfl⟩;have hu15:=(at_good ho i).2;rw[←hu]at h0 hu15
  obtain⟨on,hon⟩: ∃on,on=flF (if(howR x.f0).f3=true then .fill else .same) x.f1 u:=⟨_,rfl⟩
  have hon15:0≤on∧on≤15∧(spec_l3Fills.f x.f0).bind (fun t=>if t=true then spec_l3With.f u x.f1 else some u)=some on:=by
    rw[fills_eq k1];simp only[Option.bind_some]
    by_cases hf:(howR x.f0).f3=true
    · have hr : 0 ≤ x.f1 ∧ x.f1 ≤ 3 := by
        have:=fills_has hf;rcases k3 with k3|k3
        · omega
        · exact k3.2
      rw[if_pos hf]at hon⊢
      rw[hon];exact⟨(orBit_range h0 hu15 hr.1 hr.2).1,(orBit_range h0 hu15 hr.1 hr.2).2,with_eq h0 hu15 hr.1 hr.2⟩
    · rw[if_neg hf]at hon⊢
      rw[hon];exact⟨h0,hu15,rfl⟩
  obtain⟨on0,on1,honf⟩:=hon15;have wn:wrap64 ((i:Int)+1)=(i:Int)+1:=w64 (by omega) (by omega)
  have next: ∀o':List Int,GoodO l.length o'→Ev (fun k=>spec_l3Merge.f k o' (wrap64 ((i:Int)+1)) on) (if(i:Int)+1<l.length then(decide (mu (msetL o' ((i:Int)+1) on)<mu o'),msetL o' ((i:Int)+1) on)else(false,o')):=fun o' ho'=>by
    rw[wn];by_cases hn:(i:Int)+1<l.length
    · rw[if_pos hn];exact merge_ev ho' (by omega) hn on0 on1
    · rw[if_neg hn];exact⟨0,fun k _=>merge_out k (by rw[ho'.1];omega)⟩
  have j2 : ∀ (o' : List Int) (b : Bool), GoodO l.length o' → Down o o' → b = decide (mu o' < mu o) → Ev (fun k => spec_l3From.j2 k o' i on b)
      (decide (mu (if(i:Int)+1<l.length then msetL o' ((i:Int)+1) on else o')<mu o),if(i:Int)+1<l.length then msetL o' ((i:Int)+1) on else o'):=fun o' b ho' hd hb=>by
    refine Ev.step (f:=fun k=>(spec_l3Merge.f k o' (wrap64 ((i:Int)+1)) on).bind fun bt371=>(if bt371.1=true then(some (true,bt371.2))else(some (b,bt371.2)))) (fun k=>by simp only[spec_l3From.j2]) ?_
    refine Ev.bind (next o' ho') ?_
    by_cases hn:(i:Int)+1<l.length
    · simp only[if_pos hn]
      have hd2:=(mset_good ho' (t:=(i:Int)+1) (by omega) hn on0 on1).2.1
      obtain⟨nw,hnw⟩: ∃nw,nw=msetL o' ((i:Int)+1) on:=⟨_,rfl⟩;rw[←hnw]at hd2⊢
      by_cases hm:mu nw<mu o'
      · have h3 : mu nw < mu o := by
          rcases hd with hd|hd
          · rw[hd]at hm;exact hm
          · omega
        rw[decide_eq_true hm,decide_eq_true h3];exact Ev.now _
      · have e : nw = o' := by
          rcases hd2 with h|h
          · exact h
          · exact absurd h hm
        rw[decide_eq_false hm,hb,e];exact Ev.now _
    · simp only[if_neg hn]
      rw[hb];exact Ev.now _
  have goK: ∀ {g:Nat→Option (Bool×List Int)} {fin:List Int},Ev g (decide (mu fin<mu o),fin)→fin=stepW (wayW l) o i→Ev g (decide (mu (stepW (wayW l) o i)<mu o),stepW (wayW l) o i):=fun h e=>e▸h
  have hstep:stepW (wayW l) o i=(wayW l i).foldl (mergeW i) o:=by unfold stepW;rw[if_neg (by rw[←hu];omega)]
  have hways:wayW l i=((if x.f0=9∨x.f0=14 then []else if(i:Int)+1<l.length then [((i:Int)+1,if(howR x.f0).f3=true then Fl.fill else .same)]else [])++(if x.f0=5 then [(x.f3,Fl.one)]else if hasT x.f0=true then [(x.f3,.same)]else [])).map fun a=>(a.1,flF a.2 x.f1):=by
    unfold wayW waysL arrowsL;rw[hrd]
  have nxt: ∀o':List Int,at_ o' i=u→mergeW i o' ((i:Int)+1,flF (if(howR x.f0).f3=true then .fill else .same) x.f1)=msetL o' ((i:Int)+1) on:=fun o' h=>by
    unfold mergeW msetL;simp only[];rw[h,hon]
  have stay:at_ (msetL o ((i:Int)+1) on) i=u:=by
    have:=at_set_ne (o:=o) (i:=((i:Int)+1).toNat) (j:=i) (x:=both (at_ o ((i:Int)+1)) on) (by omega)
    unfold msetL;rw[this,hu]
  have hf: ∀k,spec_l3From.f k l o i=spec_l3From.j0 k o i u on x.f0 x.f1 x.f2 x.f3 x.f4.f0 x.f4.f1:=fun k=>by
    unfold spec_l3From.f;rw[if_pos (by omega),if_pos (by omega),if_pos (by rw[ho.1];omega),hrd]
    have e:rd o (i:Int)=u:=hu.symm;rw[e];rw[fills_eq k1]at honf⊢
    simp only[Option.bind_some]at honf⊢
    by_cases hff:(howR x.f0).f3=true
    · rw[if_pos hff]at honf⊢
      rw[honf];rfl
    · rw[if_neg hff]at honf⊢
      obtain rfl:=Option.some.inj honf;rfl
  refine Ev.congr hf ?_
  have tT:hasT x.f0=true→0≤x.f3∧x.f3<l.length:=fun h=>⟨by omega,kt h⟩
  have h1:(0:Int)≤1∧(1:Int)≤15:=by omega
  by_cases e5:x.f0=5
  · have ht:=tT (by rw[e5];rfl)
    refine Ev.step (f:=fun k=>(spec_l3Merge.f k o x.f3 1).bind fun bt365=>(spec_l3From.j2 k bt365.2 i on bt365.1)) (fun k=>by simp only[spec_l3From.j0];rw[if_pos e5]) ?_
    refine Ev.bind (merge_ev ho ht.1 ht.2 h1.1 h1.2) ?_
    obtain⟨g1,d1, -⟩:=mset_good ho ht.1 ht.2 h1.1 h1.2;refine goK (j2 _ _ g1 d1 rfl) ?_
    rw[hstep,hways,if_neg (c:=x.f0=9∨x.f0=14) (by omega),if_pos (c:=x.f0=5) e5]
    by_cases hn:(i:Int)+1<l.length
    · simp only[if_pos hn,List.singleton_append,List.map_cons,List.map_nil,List.foldl_cons,List.foldl_nil]
      rw[nxt o hu.symm,mset_comm ho ht.1 ht.2 (by omega) hn h1.1 on0]
      rfl
    · simp only[if_neg hn,List.nil_append,List.map_cons,List.map_nil,List.foldl_cons,List.foldl_nil]
      rfl
  by_cases e9:x.f0=9
  · have ht:=tT (by rw[e9];rfl)
    refine Ev.step (f:=fun k=>(spec_l3Merge.f k o x.f3 u).bind fun bt367=>(some (bt367.1,bt367.2))) (fun k=>by simp only[spec_l3From.j0];rw[if_neg e5,if_pos e9]) ?_
    refine Ev.bind (merge_ev ho ht.1 ht.2 h0 hu15) ?_
    refine goK (Ev.now _) ?_
    rw[hstep,hways,if_pos (c:=x.f0=9∨x.f0=14) (.inl e9),if_neg (c:=x.f0=5) e5,if_pos (c:=hasT x.f0=true) (by rw[e9];rfl)]
    simp only[List.nil_append,List.map_cons,List.map_nil,List.foldl_cons,List.foldl_nil]
    unfold mergeW msetL;simp only[flF];rw[hu]
  have j1:Ev (fun k=>spec_l3From.j1 k o i u on false x.f0 (x.f0==8||x.f0==10) x.f0 x.f1 x.f2 x.f3 x.f4.f0 x.f4.f1) (decide (mu (stepW (wayW l) o i)<mu o),stepW (wayW l) o i):=by
    by_cases e810:x.f0=8∨x.f0=10
    · have hb:(x.f0==8||x.f0==10)=true:=by simpa using e810
      have hT:hasT x.f0=true:=by rcases e810 with e|e<;>(rw[e];rfl)
      have ht:=tT hT;refine Ev.step (f:=fun k=>(spec_l3Merge.f k o x.f3 u).bind fun bt369=>(spec_l3From.j2 k bt369.2 i on bt369.1)) (fun k=>by simp only[spec_l3From.j1];rw[if_pos hb]) ?_
      refine Ev.bind (merge_ev ho ht.1 ht.2 h0 hu15) ?_
      obtain⟨g1,d1, -⟩:=mset_good ho ht.1 ht.2 h0 hu15;refine goK (j2 _ _ g1 d1 rfl) ?_
      rw[hstep,hways,if_neg (c:=x.f0=9∨x.f0=14) (by omega),if_neg (c:=x.f0=5) e5,if_pos (c:=hasT x.f0=true) hT]
      by_cases hn:(i:Int)+1<l.length
      · simp only[if_pos hn,List.singleton_append,List.map_cons,List.map_nil,List.foldl_cons,List.foldl_nil]
        rw[nxt o hu.symm,mset_comm ho ht.1 ht.2 (by omega) hn h0 on0]
        show _=msetL _ x.f3 (at_ _ i)
        rw[stay]
      · simp only[if_neg hn,List.nil_append,List.map_cons,List.map_nil,List.foldl_cons,List.foldl_nil]
        show _=msetL _ x.f3 (at_ _ i)
        rw[←hu]
    · have hb: ¬(x.f0==8||x.f0==10)=true:=by simpa using e810
      have hT:hasT x.f0=false:=by
        unfold hasT;exact decide_eq_false (by omega)
      by_cases e14:x.f0=14
      · refine Ev.step (f:=fun k=>some (false,o)) (fun k=>by simp only[spec_l3From.j1];rw[if_neg hb,if_pos e14]) ?_
        have e:o=stepW (wayW l) o i:=by
          rw[hstep,hways,if_pos (c:=x.f0=9∨x.f0=14) (.inr e14),if_neg (c:=x.f0=5) e5,if_neg (c:=hasT x.f0=true) (by rw[hT];decide)];rfl
        rw[←e];refine ev_eq (Ev.now _) ?_
        simp
      · refine Ev.step (f:=fun k=>spec_l3From.j2 k o i on false) (fun k=>by simp only[spec_l3From.j1];rw[if_neg hb,if_neg e14]) ?_
        refine goK (j2 o false ho (.refl _) (by simp)) ?_
        rw[hstep,hways,if_neg (c:=x.f0=9∨x.f0=14) (by omega),if_neg (c:=x.f0=5) e5,if_neg (c:=hasT x.f0=true) (by rw[hT];decide)]
        by_cases hn:(i:Int)+1<l.length
        · simp only[if_pos hn,List.append_nil,List.map_cons,List.map_nil,List.foldl_cons,List.foldl_nil]
          rw[nxt o hu.symm]
        · simp only[if_neg hn,List.append_nil,List.map_nil,List.foldl_nil]
  refine Ev.step (f:=fun k=>spec_l3From.j1 k o i u on false x.f0 (x.f0==8||x.f0==10) x.f0 x.f1 x.f2 x.f3 x.f4.f0 x.f4.f1) (fun k=> ?_) j1
  simp only[spec_l3From.j0]
  rw[if_neg e5,if_neg e9];by_cases e8:x.f0=8
  · rw[if_pos e8];simp[e8]
  · rw[if_neg e8]
    have:(x.f0==8)=false:=by simpa using e8
    rw[this];rfl
theorem l2_ev {l:List S39} (hc:codeB l=true) {o:List Int} (ho:GoodO l.length o) {r:List Int} (h:Ev (fun k=>spec_l3Full.l1 k l (passW (wayW l) l.length o) (decide (mu (passW (wayW l) l.length o)<mu o))) r) (d:Nat):
    ∀j,l.length-j=d→j≤l.length→Ev (fun k=>spec_l3Full.l2 k l (passW (wayW l) j o) (decide (mu (passW (wayW l) j o)<mu o)) j) r:=by
  have hlen:=code_len hc;induction d with
  |zero=>
    intro j hj hj2;obtain rfl:j=l.length:=by omega
    refine Ev.step (fun k=> ?_) h
    simp only[spec_l3Full.l2]
    rw[if_neg (by omega)]
  |succ d ih=>
    intro j hj hj2;obtain⟨gp,dp⟩:=passes_good (wayW_good hc) ho j (by omega)
    have ih1:=ih (j+1) (by omega) (by omega)
    have ew:wrap64 ((j:Int)+1)=((j+1:Nat):Int):=by rw[w64 (by omega) (by omega)];omega
    obtain⟨p,hp⟩: ∃p,p=passW (wayW l) j o:=⟨_,rfl⟩;rw[pass_succ,←hp]at ih1
    rw[←hp]at gp dp⊢
    have e:rd p (j:Int)=at_ p j:=rfl;by_cases hn:0≤at_ p j
    · have hfr:=from_ev hc gp (i:=j) (by omega) hn
      refine Ev.step (f:=fun k=>(spec_l3From.f k l p j).bind fun bt379=>(spec_l3Full.j3 k l bt379.2 (decide (mu p<mu o)) j bt379.1)) (fun k=> ?_) ?_
      · simp only[spec_l3Full.l2]
        rw[if_pos (by omega),if_pos (by omega),if_pos (by rw[gp.1];omega),e,if_pos hn]
      · refine Ev.bind hfr ?_
        obtain⟨g2,d2⟩:=step_good (wayW_good hc) (i:=j) (by omega) gp
        obtain⟨s,hs⟩: ∃s,s=stepW (wayW l) p j:=⟨_,rfl⟩;rw[←hs]at ih1 g2 d2⊢
        by_cases hm:mu s<mu p
        · refine Ev.step (fun k=> ?_) ih1
          have:mu s<mu o:=by
            rcases dp with h|h
            · rw[h]at hm;exact hm
            · omega
          simp only[spec_l3Full.j3,decide_eq_true hm,decide_eq_true this,ew,if_true]
        · have es : s = p := by
            rcases d2 with h|h
            · exact h
            · exact absurd h hm
          rw[es]at ih1⊢
          refine Ev.step (fun k=> ?_) ih1
          simp only[spec_l3Full.j3,ew]
          rw[if_neg (by simp)]
    · have hst:stepW (wayW l) p j=p:=by unfold stepW;rw[if_pos (by omega)]
      rw[hst]at ih1
      refine Ev.step (f:=fun k=>spec_l3Full.j3 k l p (decide (mu p<mu o)) j false) (fun k=> ?_) ?_
      · simp only[spec_l3Full.l2]
        rw[if_pos (by omega),if_pos (by omega),if_pos (by rw[gp.1];omega),e,if_neg (by omega)]
      · refine Ev.step (fun k=> ?_) ih1
        simp only[spec_l3Full.j3,ew]
        rw[if_neg (by decide)]
theorem l1_ev {l:List S39} (hc:codeB l=true) (m:Nat): ∀ (o:List Int) (c:Bool),GoodO l.length o→mu o+c.toNat≤m→(c=false→passW (wayW l) l.length o=o)→Ev (fun k=>spec_l3Full.l1 k l o c) (finW (wayW l) l.length o):=by
  have one: ∀ (o:List Int),passW (wayW l) l.length o=o→Ev (fun k=>spec_l3Full.l1 k l o false) (finW (wayW l) l.length o):=fun o ho=>by
    refine Ev.step (f:=fun k=>some o) (fun k=> ?_) (ev_eq (Ev.now _) (fin_fix ho).symm)
    simp only[spec_l3Full.l1];rw[if_neg (by decide)]
  induction m with
  |zero=>
    intro o c ho hm hf;cases c with
    |false=>exact one o (hf rfl)
    |true=>simp at hm
  |succ m ih=>
    intro o c ho hm hf;cases c with
    |false=>exact one o (hf rfl)
    |true=>
      obtain⟨g,d⟩:=passes_good (wayW_good hc) ho l.length (Nat.le_refl _)
      have hrec:Ev (fun k=>spec_l3Full.l1 k l (passW (wayW l) l.length o) (decide (mu (passW (wayW l) l.length o)<mu o))) (finW (wayW l) l.length o):=by
        rw[←fin_pass (wayW_good hc) ho];rcases d with d|d
        · have hd:decide (mu (passW (wayW l) l.length o)<mu o)=false:=by rw[d];simp
          rw[hd];exact one _ (by rw[d,d])
        · rw[decide_eq_true d]
          exact ih _ true g (by simp at hm⊢;omega) (fun h=>by cases h)
      have:=l2_ev hc ho hrec l.length 0 (by omega) (by omega)
      refine Ev.step (fun k=> ?_) this
      simp only[spec_l3Full.l1,if_true]
      have e0:decide (mu (passW (wayW l) 0 o)<mu o)=false:=by simp[passW]
      rw[e0];rfl
theorem l0_ev {l:List S39} {r:List Int} (h1:1≤l.length) (h2:l.length≤16) (h:Ev (fun k=>spec_l3Full.l1 k l (startO l.length) true) r) (d:Nat):
    ∀j,l.length-1-j=d→j+1≤l.length→Ev (fun k=>spec_l3Full.l0 k l (0::(List.replicate j (-1)++List.replicate (l.length-1-j) 0)) ((j+1:Nat):Int)) r:=by
  induction d with
  |zero=>
    intro j hj hj2;refine Ev.step (fun k=> ?_) h
    have hl:(0::(List.replicate j (-1)++List.replicate (l.length-1-j) (0:Int))).length=l.length:=by simp;omega
    simp only[spec_l3Full.l0]
    rw[hl,if_neg (by omega),if_pos (by omega),hj]
    have:startO l.length=(0::(List.replicate j (-1)++List.replicate 0 (0:Int))).set (Int.toNat 0) 1:=by
      unfold startO;rw[show l.length=j+1 by omega,List.replicate_succ];simp
    rw[this]
  |succ d ih=>
    intro j hj hj2;have ih1:=ih (j+1) (by omega) (by omega)
    refine Ev.step (fun k=> ?_) ih1
    have hl:(0::(List.replicate j (-1)++List.replicate (l.length-1-j) (0:Int))).length=l.length:=by simp;omega
    simp only[spec_l3Full.l0]
    rw[hl,if_pos (by omega),if_pos (by omega),w64 (by omega) (by omega),Int.toNat_natCast]
    have:(0::(List.replicate j (-1)++List.replicate (l.length-1-j) (0:Int))).set (j+1) (-1)=0::(List.replicate (j+1) (-1)++List.replicate (l.length-1- (j+1)) 0):=by
      rw[List.set_cons_succ,List.set_append_right _ _ (by simp),List.length_replicate,Nat.sub_self,show l.length-1-j=(l.length-1- (j+1))+1 by omega,List.replicate_succ,List.set_cons_zero,List.replicate_succ',List.append_assoc]
      rfl
    rw[this];rfl
theorem sfull_ev {l:List S39} (hc:codeB l=true):Ev (fun k=>spec_l3Full.f k l) (fullL l):=by
  obtain⟨h1,h2⟩:=code_len hc;have:=l0_ev h1 h2 (l1_ev hc _ (startO l.length) true (start_good _) (Nat.le_refl _) (fun h=>by cases h)) (l.length-1) 0 (by omega) (by omega)
  refine Ev.congr (fun k=> ?_) this
  unfold spec_l3Full.f;rw[if_pos (by omega),if_pos (by omega),Int.toNat_natCast]
  obtain⟨n,hn⟩: ∃n,l.length=n+1:=⟨l.length-1,by omega⟩
  rw[hn,List.replicate_succ];simp
end Go.Proofs.YtmklpbmlgjkbiaaGreatDoor.PS
end
section
namespace Go.Proofs.YtmklpbmlgjkbiaaGreatDoor.PS
open Go.Proofs.YtmklpbmlgjkbiaaGreatDoor.PC Go.Proofs.YtmklpbmlgjkbiaaGreatDoor.PD Go.RowKit Go.Proofs.YtmklpbmlgjkbiaaGreatDoorW.PrintWords Go.Proofs.YtmklpbmlgjkbiaaGreatDoorW.PrintLast
theorem has_free {x s:Int} (hx:0≤x) (hx2:x≤15) (hs:0≤s) (hs2:s≤3):spec_l3Has.f x s=some (!freeB x s):=by
  have:fours (fun x=>fours fun s=>decide (s≤3→spec_l3Has.f x s=some (!freeB x s)))=true:=by decide+kernel
  exact of_decide_eq_true (fours_all (fours_all this hx hx2) hs (by omega)) hs2
theorem l2uses_eq (k r s t vk vn:Int):spec_l2Uses.f 3 k r s t vk vn=some (usesL k r s):=by
  unfold spec_l2Uses.f usesL;by_cases h2:k=2
  · simp[h2]
  by_cases h3:k=3
  · simp[h3,spec_l2Uses.j0]
  by_cases h6:k=6
  · simp[h6,spec_l2Uses.j0]
  by_cases h10:k=10
  · simp[h10,spec_l2Uses.j0,spec_l2Uses.j1]
  by_cases h11:k=11
  · simp[h11,spec_l2Uses.j0,spec_l2Uses.j1]
  by_cases h12:k=12
  · simp[h12,spec_l2Uses.j0,spec_l2Uses.j1]
  by_cases h14:k=14
  · simp[h14,spec_l2Uses.j0,spec_l2Uses.j1]
  simp[h2,h3,h6,h10,h11,h12,h14,spec_l2Uses.j0,spec_l2Uses.j1]
theorem l2uses_ev (k r s t vk vn:Int):Ev (fun n=>spec_l2Uses.f n k r s t vk vn) (usesL k r s):=Ev.of (fun n=>spec_l2Uses.mono k r s t vk vn n) (l2uses_eq k r s t vk vn)
theorem uses_len (k r s:Int):(usesL k r s).length≤2:=by unfold usesL;split<;>(try split)<;>(try split)<;>simp
def restB (l:List S39) (i:Nat):Bool:=(List.range' i (l.length-i)).all (safeAt l)
theorem rest_succ (l:List S39) (i:Nat) (h:i<l.length):restB l i=(safeAt l i&&restB l (i+1)):=by
  unfold restB;rw[show l.length-i=(l.length- (i+1))+1 by omega,List.range'_succ];rfl
theorem ssafe_uses {l:List S39} {j:Nat} (hj:j<l.length) {x:Int} (hx0:0≤x) (hx1:x≤15) (hxe:x=at_ (fullL l) j) (hl:l.length≤16) (hfl:(fullL l).length=l.length) {U:List Int} (hU: ∀s∈U,0≤s∧s≤3) (hU2:U.length≤2) {r:Bool}
    (h:Ev (fun k=>spec_CodeSafe.j2 k l (fullL l) j (!(decide (j+1<l.length)||endsB (rd_T39 l j)))) r) (d:Nat): ∀m,U.length-m=d→m≤U.length→Ev (fun k=>spec_CodeSafe.l1 k l (fullL l) j U (m:Int)) (if(U.drop m).any (freeB x)=true then false else r):=by
  have ex:rd (fullL l) (j:Int)=x:=hxe.symm;induction d with
  |zero=>
    intro m hm hm2;rw[List.drop_of_length_le (by omega)]
    refine Ev.step (fun k=> ?_) h
    simp only[spec_CodeSafe.l1]
    rw[if_neg (by omega),w64 (by omega) (by omega)]
    by_cases hn:j+1<l.length
    · rw[if_neg (by omega),decide_eq_true hn];rfl
    · rw[if_pos (by omega),if_pos (by omega),if_pos (by omega),decide_eq_false hn]
      unfold endsB;by_cases h9:(rd_T39 l (j:Int)).f0=9
      · rw[if_pos h9,decide_eq_true (.inl h9)];rfl
      · rw[if_neg h9]
        by_cases h14:(rd_T39 l (j:Int)).f0=14
        · rw[decide_eq_true (.inr h14)]
          have:((rd_T39 l (j:Int)).f0 !=14)=false:=by simp[h14]
          rw[this];rfl
        · rw[decide_eq_false (by omega)]
          have:((rd_T39 l (j:Int)).f0 !=14)=true:=by simp[h14]
          rw[this];rfl
  |succ d ih=>
    intro m hm hm2;have ih1:=ih (m+1) (by omega) (by omega)
    have d0:U.drop m=U[m]'(by omega)::U.drop (m+1):=List.drop_eq_getElem_cons (by omega)
    have hs:=hU U[m] (List.getElem_mem (by omega))
    have hh:=has_free hx0 hx1 hs.1 hs.2;rw[d0,List.any_cons];cases hf:freeB x (U[m]'(by omega))with
    |true=>
      rw[hf]at hh
      refine ev_eq (Ev.step (f:=fun k=>some false) (fun k=> ?_) (Ev.now _)) rfl
      simp only[spec_CodeSafe.l1]
      rw[if_pos (by omega),if_pos (by omega),if_pos (by rw[hfl];omega),if_pos (by omega),rd_at U m (by omega),ex,hh];rfl
    |false=>
      rw[hf]at hh
      rw[Bool.false_or];refine Ev.step (fun k=> ?_) ih1
      simp only[spec_CodeSafe.l1]
      rw[if_pos (by omega),if_pos (by omega),if_pos (by rw[hfl];omega),if_pos (by omega),rd_at U m (by omega),ex,hh,w64 (by omega) (by omega)];rfl
theorem ssafe_ev {l:List S39} (hc:codeB l=true) (d:Nat): ∀j,l.length-j=d→j≤l.length→Ev (fun k=>spec_CodeSafe.l0 k l (fullL l) (j:Int)) (restB l j):=by
  obtain⟨h1,h2⟩:=code_len hc;have hg:=full_good (wayW_good hc);have hl:(fullL l).length=l.length:=hg.1;induction d with
  |zero=>
    intro j hj hj2;obtain rfl:j=l.length:=by omega
    refine ev_eq (Ev.step (f:=fun k=>some true) (fun k=> ?_) (Ev.now _)) ?_
    · simp only[spec_CodeSafe.l0];rw[if_neg (by omega)]
    · unfold restB;rw[Nat.sub_self];rfl
  |succ d ih=>
    intro j hj hj2;have ih1:=ih (j+1) (by omega) (by omega)
    have hw:wrap64 ((j:Int)+1)=((j+1:Nat):Int):=by rw[w64 (by omega) (by omega)];rfl
    rw[rest_succ l j (by omega)]
    obtain⟨x,hx⟩: ∃x,x=at_ (fullL l) (j:Int):=⟨_,rfl⟩;have ex:rd (fullL l) (j:Int)=x:=hx.symm;have hx15:x≤15:=by rw[hx];exact(at_good hg (j:Int)).2
    by_cases hneg:x<0
    · have hs:safeAt l j=true:=by unfold safeAt;rw[←hx,decide_eq_true hneg];rfl
      rw[hs,Bool.true_and];refine Ev.step (fun k=> ?_) ih1
      simp only[spec_CodeSafe.l0]
      rw[if_pos (by omega),if_pos (by omega),if_pos (by rw[hl];omega),ex,if_pos hneg,hw]
    · obtain⟨y,hy⟩: ∃y,y=rd_T39 l (j:Int):=⟨_,rfl⟩
      have hus:=uses_slots hc (i:=j) (by omega)
      have hS:safeAt l j=((decide (j+1<l.length)||endsB y)&& !((usesL y.f0 y.f1 y.f2).any (freeB x))):=by
        unfold safeAt;rw[←hx,decide_eq_false hneg,Bool.false_or,hy]
      rw[←hy]at hus
      refine Ev.step (f:=fun k=>(spec_l2Uses.f k y.f0 y.f1 y.f2 y.f3 y.f4.f0 y.f4.f1).bind fun t398=>(spec_CodeSafe.l1 k l (fullL l) j t398 0)) (fun k=> ?_) ?_
      · simp only[spec_CodeSafe.l0]
        rw[if_pos (by omega),if_pos (by omega),if_pos (by rw[hl];omega),ex,if_neg hneg,←hy]
      · refine Ev.bind (l2uses_ev _ _ _ _ _ _) ?_
        have hj2':Ev (fun k=>spec_CodeSafe.j2 k l (fullL l) j (!(decide (j+1<l.length)||endsB (rd_T39 l j)))) (if(!(decide (j+1<l.length)||endsB y))=true then false else restB l (j+1)):=by
          rw[←hy];by_cases hb:(!(decide (j+1<l.length)||endsB y))=true
          · rw[if_pos hb]
            refine Ev.step (f:=fun k=>some false) (fun k=> ?_) (Ev.now _)
            simp only[spec_CodeSafe.j2];rw[if_pos hb]
          · rw[if_neg hb]
            refine Ev.step (fun k=> ?_) ih1
            simp only[spec_CodeSafe.j2];rw[if_neg hb,hw]
        have:=ssafe_uses (l:=l) (j:=j) (by omega) (x:=x) (by omega) hx15 hx h2 hl hus (uses_len _ _ _) hj2' _ 0 rfl (by omega)
        refine ev_eq this ?_
        rw[List.drop_zero,hS];cases (usesL y.f0 y.f1 y.f2).any (freeB x)<;>cases (decide (j+1<l.length)||endsB y)<;>simp
theorem scodesafe_ev (l:List S39) (hm:l.length≤9223372036854775807):Ev (fun k=>spec_CodeSafe.f k l) (safeB l):=by
  unfold spec_CodeSafe.f;refine Ev.bind (show Ev (fun _=>codeV.f l) (codeB l)from Ev.now _) ?_
  by_cases h:codeB l=true
  · simp only[if_pos h]
    refine Ev.bind (sfull_ev h) ?_
    have:=ssafe_ev h l.length 0 (by omega) (by omega)
    refine ev_eq this ?_
    unfold restB safeB;rw[h,Bool.true_and,Nat.sub_zero,List.range_eq_range']
  · simp only[if_neg h]
    refine ev_eq (Ev.now _) ?_
    unfold safeB;have:codeB l=false:=by simpa using h
    rw[this];rfl
end Go.Proofs.YtmklpbmlgjkbiaaGreatDoor.PS
end
section
namespace Go.Proofs.YtmklpbmlgjkbiaaGreatDoor.PS
open Go.Proofs.YtmklpbmlgjkbiaaGreatDoor.PC Go.Proofs.YtmklpbmlgjkbiaaGreatDoor.PD Go.RowKit Go.Proofs.YtmklpbmlgjkbiaaGreatDoorW.PrintWords Go.Proofs.YtmklpbmlgjkbiaaGreatDoorW.PrintLast
theorem pick_ev {b:List Int} (hb:Bytes b) (p n:Int) (hp:0≤p) (hp':p<1000000) (hn':n<1000000):
    ∃x,Ev (fun k=>spec_l6Rd_pick.f k b p n) (x,p+1)∧0≤x∧(1≤n→x<n)∧(n<1→x=0):=by
  obtain⟨x,h,r⟩:=pick_ok hb 0 p n hp hp' hn';exact⟨x,Ev.of (fun k=>spec_l6Rd_pick.mono b p n k) h,r⟩
theorem op_ev {b:List Int} (hb:Bytes b) (p n:Int) (hp:0≤p) (hp':p<700000) (hn:1≤n) (hn':n≤16):
    ∃x r s t vk vn p',Ev (fun k=>spec_l71Op.f k b p n) (x,r,s,t,vk,vn,p')∧p≤p'∧p'≤p+12:=by
  obtain⟨x,r,s,t,vk,vn,p',h, -,h1,h2⟩:=op_ok hb 0 p n hp hp' hn hn';exact⟨x,r,s,t,vk,vn,p',Ev.of (fun k=>spec_l71Op.mono b p n k) h,h1,h2⟩
theorem any_ev {b:List Int} (hb:Bytes b) (p:Int) (hp:0≤p) (hp':p<600000):
    ∃x r s t vk vn p',Ev (fun k=>spec_l71AnyOp.f k b p) (x,r,s,t,vk,vn,p')∧p≤p'∧p'≤p+20:=by
  obtain⟨x,r,s,t,vk,vn,p',h, -,h1,h2⟩:=any_ok hb 0 p hp hp';exact⟨x,r,s,t,vk,vn,p',Ev.of (fun k=>spec_l71AnyOp.mono b p k) h,h1,h2⟩
theorem random_loop {b:List Int} (hb:Bytes b) (n:Nat) (hn:3≤n) (hn2:n≤10) (d:Nat): ∀ (i:Nat) (L:List S39) (p:Int),n-i=d→i≤n→L.length=i→0≤p→p+12*d<500000→
    ∃c p',Ev (fun k=>spec_l71Random.l0 k (n:Int) L (i:Int) b p) (c,p')∧c.length=n∧p≤p'∧p'≤p+12*d+2:=by
  induction d with
  |zero=>
    intro i L p hd hi hL hp hp';obtain rfl:i=n:=by omega
    obtain⟨x,hx,x0,x1, -⟩:=pick_ev hb p (i:Int) hp (by omega) (by omega)
    obtain⟨y,hy,y0,y1, -⟩:=pick_ev hb (p+1) 3 (by omega) (by omega) (by omega)
    have e1:wrap64 ((i:Int)-1)=((i-1:Nat):Int):=by rw[w64 (by omega) (by omega)];omega
    by_cases hy3:y=0
    · refine⟨L.set (i-1) ⟨14,0,0,0,⟨0,0⟩⟩,p+1+1,?_,by simpa using hL,by omega,by omega⟩
      refine Ev.step (f:=fun k=>(spec_l6Rd_pick.f k b p (i:Int)).bind fun bt421=>((spec_l6Rd_pick.f k b bt421.2 3).bind fun bt424=>(if bt424.1=0 then(if 0≤(wrap64 ((i:Int)-1))then(if(wrap64 ((i:Int)-1))<(L.length:Int)then(some ((L.set ((wrap64 ((i:Int)-1)):Int).toNat (⟨14,0,0,0,(⟨0,0⟩:S37)⟩:S39)),bt424.2))else(none))else(none))else(if 0≤(wrap64 ((i:Int)-1))then(if(wrap64 ((i:Int)-1))<(L.length:Int)then(some ((L.set ((wrap64 ((i:Int)-1)):Int).toNat (⟨9,0,0,bt421.1,(⟨0,0⟩:S37)⟩:S39)),bt424.2))else(none))else(none))))) (fun k=> ?_) ?_
      · simp only[spec_l71Random.l0];rw[if_neg (by omega)]
      · refine Ev.bind hx (Ev.bind hy ?_)
        simp only[if_pos hy3,e1]
        simp only[if_pos (show(0:Int)≤((i-1:Nat):Int) by omega),if_pos (show((i-1:Nat):Int)<(L.length:Int) by omega),Int.toNat_natCast]
        exact Ev.now _
    · refine⟨L.set (i-1) ⟨9,0,0,x,⟨0,0⟩⟩,p+1+1,?_,by simpa using hL,by omega,by omega⟩
      refine Ev.step (f:=fun k=>(spec_l6Rd_pick.f k b p (i:Int)).bind fun bt421=>((spec_l6Rd_pick.f k b bt421.2 3).bind fun bt424=>(if bt424.1=0 then(if 0≤(wrap64 ((i:Int)-1))then(if(wrap64 ((i:Int)-1))<(L.length:Int)then(some ((L.set ((wrap64 ((i:Int)-1)):Int).toNat (⟨14,0,0,0,(⟨0,0⟩:S37)⟩:S39)),bt424.2))else(none))else(none))else(if 0≤(wrap64 ((i:Int)-1))then(if(wrap64 ((i:Int)-1))<(L.length:Int)then(some ((L.set ((wrap64 ((i:Int)-1)):Int).toNat (⟨9,0,0,bt421.1,(⟨0,0⟩:S37)⟩:S39)),bt424.2))else(none))else(none))))) (fun k=> ?_) ?_
      · simp only[spec_l71Random.l0];rw[if_neg (by omega)]
      · refine Ev.bind hx (Ev.bind hy ?_)
        simp only[if_neg hy3,e1]
        simp only[if_pos (show(0:Int)≤((i-1:Nat):Int) by omega),if_pos (show((i-1:Nat):Int)<(L.length:Int) by omega),Int.toNat_natCast]
        exact Ev.now _
  |succ d ih=>
    intro i L p hd hi hL hp hp';obtain⟨x,r,s,t,vk,vn,p1,ho,h1,h2⟩:=op_ev hb p (n:Int) hp (by omega) (by omega) (by omega)
    obtain⟨c,p',hc,hl,h3,h4⟩:=ih (i+1) (L++ [⟨x,r,s,t,⟨vk,vn⟩⟩]) p1 (by omega) (by omega) (by simp[hL]) (by omega) (by omega)
    refine⟨c,p',?_,hl,by omega,by omega⟩
    refine Ev.step (f:=fun k=>(spec_l71Op.f k b p (n:Int)).bind fun bt411=>(if L.length<2932031007402 then(spec_l71Random.l0 k (n:Int) (L++ [(⟨bt411.1,bt411.2.1,bt411.2.2.1,bt411.2.2.2.1,(⟨bt411.2.2.2.2.1,bt411.2.2.2.2.2.1⟩:S37)⟩:S39)]) ((i+1:Nat):Int) b bt411.2.2.2.2.2.2)else(none))) (fun k=> ?_) ?_
    · simp only[spec_l71Random.l0];rw[if_pos (by omega),w64 (by omega) (by omega)];rfl
    · refine Ev.bind ho ?_
      simp only[if_pos (show L.length<2932031007402 by omega)]
      exact hc
theorem random_ev {b:List Int} (hb:Bytes b) (p:Int) (hp:0≤p) (hp':p<400000): ∃c p',Ev (fun k=>spec_l71Random.f k b p) (c,p')∧1≤c.length∧c.length≤10∧p≤p'∧p'≤p+200:=by
  obtain⟨x,hx,x0,x1, -⟩:=pick_ev hb p 8 hp (by omega) (by omega)
  have x1:=x1 (by omega)
  obtain⟨m,rfl⟩:=Int.eq_ofNat_of_zero_le x0;obtain⟨c,p',hc,hl,h3,h4⟩:=random_loop hb (3+m) (by omega) (by omega) (3+m) 0 [] (p+1) (by omega) (by omega) rfl (by omega) (by omega)
  refine⟨c,p',?_,by omega,by omega,by omega,by omega⟩
  unfold spec_l71Random.f;refine Ev.bind hx ?_
  have e:wrap64 (3+(m:Int))=((3+m:Nat):Int):=by rw[w64 (by omega) (by omega)];omega
  simp only[e]
  exact hc
def textsL:List ByteArray:=(spec_l71Texts.f).getD []
theorem texts_eq:spec_l71Texts.f=some textsL:=rfl
theorem texts_all:(textsL.all fun t=>(spec_CodeRead.f 80 t).map (fun p=>decide (1≤p.1.length∧p.1.length≤16))==some true)=true:=by decide+kernel
theorem texts_len:textsL.length=5:=by decide+kernel
theorem read_ev {t:ByteArray} (h:t∈textsL): ∃c ok,Ev (fun k=>spec_CodeRead.f k t) (c,ok)∧1≤c.length∧c.length≤16:=by
  have h1:=List.all_eq_true.1 texts_all t h;have h2:=eq_of_beq h1;obtain⟨⟨c,ok⟩,h3,h4⟩:=Option.map_eq_some_iff.1 h2;have h5:=of_decide_eq_true h4;exact⟨c,ok,Ev.of (fun k=>spec_CodeRead.mono t k) h3,h5.1,h5.2⟩
theorem of_ev {b:List Int} (hb:Bytes b) (p:Int) (hp:0≤p) (hp':p<900000): ∃t,Ev (fun k=>spec_l6Rd_of.f k b p textsL) (t,p+1)∧t∈textsL:=by
  have hl:=texts_len;obtain⟨x,hx,x0,x1, -⟩:=pick_ev hb p (textsL.length:Int) hp (by omega) (by omega)
  have x1:=x1 (by omega)
  refine⟨rdOf ByteArray.empty textsL x,?_,?_⟩
  · unfold spec_l6Rd_of.f
    refine Ev.bind hx ?_
    simp only[if_pos x0,if_pos x1]
    exact Ev.now _
  · unfold rdOf
    rw[List.getD_eq_getElem?_getD,List.getElem?_eq_getElem (by omega)]
    exact List.getElem_mem _
theorem safe_loop {b:List Int} (hb:Bytes b) (d:Nat): ∀ (i:Nat) (c:List S39) (p:Int),4-i=d→i≤4→1≤c.length→c.length≤16→0≤p→p+20*d<600000→
    ∃c' p',Ev (fun k=>spec_l71Safe.l1 k c (i:Int) b p) (c',p')∧1≤c'.length∧c'.length≤16∧p≤p'∧p'≤p+20*d:=by
  induction d with
  |zero=>
    intro i c p hd hi h1 h2 hp hp';refine⟨c,p,Ev.step (f:=fun k=>some (c,p)) (fun k=> ?_) (Ev.now _),h1,h2,by omega,by omega⟩
    simp only[spec_l71Safe.l1];rw[if_neg (by omega)]
  |succ d ih=>
    intro i c p hd hi h1 h2 hp hp';obtain⟨x,hx,x0,x1, -⟩:=pick_ev hb p (c.length:Int) hp (by omega) (by omega)
    have x1:=x1 (by omega)
    obtain⟨a,r,s,t,vk,vn,p1,ho,q0,q1⟩:=op_ev hb (p+1) (c.length:Int) (by omega) (by omega) (by omega) (by omega)
    obtain⟨y,hy⟩: ∃y,y=c.set x.toNat ⟨a,r,s,t,⟨vk,vn⟩⟩:=⟨_,rfl⟩;have hyl:y.length=c.length:=by rw[hy];simp
    have hs:=scodesafe_ev y (by omega)
    have ew:wrap64 ((i:Int)+1)=((i+1:Nat):Int):=by rw[w64 (by omega) (by omega)];rfl
    have top: ∀ {res:List S39×Int},Ev (fun k=>if safeB y=true then((spec_l6Rd_pick.f k b p1 2).bind fun bt497=>(spec_l71Safe.j2 k c (i:Int) y (bt497.1==0) b bt497.2))else(spec_l71Safe.j2 k c (i:Int) y false b p1)) res→Ev (fun k=>spec_l71Safe.l1 k c (i:Int) b p) res:=fun {res} h=>by
      refine Ev.step (f:=fun k=>(spec_l6Rd_pick.f k b p (c.length:Int)).bind fun bt486=>((spec_l71Op.f k b bt486.2 (c.length:Int)).bind fun bt488=>(if 0≤bt486.1 then(if bt486.1<(c.length:Int)then((some (c.set (bt486.1:Int).toNat (⟨bt488.1,bt488.2.1,bt488.2.2.1,bt488.2.2.2.1,(⟨bt488.2.2.2.2.1,bt488.2.2.2.2.2.1⟩:S37)⟩:S39):List (S39))).bind fun y495=>((spec_CodeSafe.f k y495).bind fun t496=>(if t496=true then((spec_l6Rd_pick.f k b bt488.2.2.2.2.2.2 2).bind fun bt497=>(spec_l71Safe.j2 k c (i:Int) y495 (bt497.1==0) b bt497.2))else(spec_l71Safe.j2 k c (i:Int) y495 false b bt488.2.2.2.2.2.2))))else(none))else(none)))) (fun k=> ?_) ?_
      · simp only[spec_l71Safe.l1,List.nil_append,Option.bind_some,List.length_nil,Nat.zero_add]
        rw[if_pos (by omega),if_pos (by omega)]
      · refine Ev.bind hx (Ev.bind ho ?_)
        simp only[if_pos x0,if_pos x1,Option.bind_some,←hy]
        exact Ev.bind hs h
    have goOn: ∀ (z:List S39) (p2:Int),1≤z.length→z.length≤16→p≤p2→p2≤p+20→ ∃c' p',Ev (fun k=>spec_l71Safe.l1 k z ((i+1:Nat):Int) b p2) (c',p')∧1≤c'.length∧c'.length≤16∧p≤p'∧p'≤p+20*(d+1:Nat):=fun z p2 z1 z2 g1 g2=>by
      obtain⟨c',p',h,l1,l2,l3,l4⟩:=ih (i+1) z p2 (by omega) (by omega) z1 z2 (by omega) (by omega)
      exact⟨c',p',h,l1,l2,by omega,by omega⟩
    by_cases hsf:safeB y=true
    · obtain⟨u,hu,u0,u1, -⟩:=pick_ev hb p1 2 (by omega) (by omega) (by omega)
      by_cases hu0:u=0
      · obtain⟨c',p',h,l⟩:=goOn y (p1+1) (by omega) (by omega) (by omega) (by omega)
        refine⟨c',p',top ?_,l⟩
        simp only[if_pos hsf]
        refine Ev.bind hu ?_
        refine Ev.step (fun k=> ?_) h
        simp only[spec_l71Safe.j2,ew]
        rw[if_pos (by simp[hu0])]
      · obtain⟨c',p',h,l⟩:=goOn c (p1+1) (by omega) (by omega) (by omega) (by omega)
        refine⟨c',p',top ?_,l⟩
        simp only[if_pos hsf]
        refine Ev.bind hu ?_
        refine Ev.step (fun k=> ?_) h
        simp only[spec_l71Safe.j2,ew]
        rw[if_neg (by simp[hu0])]
    · obtain⟨c',p',h,l⟩:=goOn c p1 (by omega) (by omega) (by omega) (by omega)
      refine⟨c',p',top ?_,l⟩
      simp only[if_neg hsf]
      refine Ev.step (fun k=> ?_) h
      simp only[spec_l71Safe.j2,ew]
      rw[if_neg (by decide)]
theorem safe_tries {b:List Int} (hb:Bytes b) (d:Nat): ∀ (i:Nat) (p:Int),3-i=d→i≤3→0≤p→p+300*d<300000→
    ∃c' p',Ev (fun k=>spec_l71Safe.l0 k (i:Int) b p) (c',p')∧1≤c'.length∧c'.length≤16∧p≤p'∧p'≤p+300*d+100:=by
  induction d with
  |zero=>
    intro i p hd hi hp hp';obtain⟨t,ht,hm⟩:=of_ev hb p hp (by omega)
    obtain⟨c,ok,hc,c1,c2⟩:=read_ev hm;obtain⟨c',p',h,l1,l2,l3,l4⟩:=safe_loop hb 4 0 c (p+1) rfl (by omega) c1 c2 (by omega) (by omega)
    refine⟨c',p',?_,l1,l2,by omega,by omega⟩
    refine Ev.step (f:=fun k=>(spec_l71Texts.f).bind fun t471=>((spec_l6Rd_of.f k b p t471).bind fun bt474=>((spec_CodeRead.f k bt474.1).bind fun bt476=>(spec_l71Safe.l1 k bt476.1 0 b bt474.2)))) (fun k=> ?_) ?_
    · simp only[spec_l71Safe.l0];rw[if_neg (by omega)]
    · rw[texts_eq]
      simp only[Option.bind_some]
      exact Ev.bind ht (Ev.bind hc h)
  |succ d ih=>
    intro i p hd hi hp hp';obtain⟨c,p1,hc,c1,c2,c3,c4⟩:=random_ev hb p hp (by omega)
    have hs:=scodesafe_ev c (by omega)
    have ew:wrap64 ((i:Int)+1)=((i+1:Nat):Int):=by rw[w64 (by omega) (by omega)];rfl
    have top: ∀ {res:List S39×Int},Ev (fun k=>if safeB c=true then(some (c,p1))else(spec_l71Safe.l0 k ((i+1:Nat):Int) b p1)) res→Ev (fun k=>spec_l71Safe.l0 k (i:Int) b p) res:=fun {res} h=>by
      refine Ev.step (f:=fun k=>(spec_l71Random.f k b p).bind fun bt466=>((spec_CodeSafe.f k bt466.1).bind fun t470=>(if t470=true then(some (bt466.1,bt466.2))else(spec_l71Safe.l0 k ((i+1:Nat):Int) b bt466.2)))) (fun k=> ?_) ?_
      · simp only[spec_l71Safe.l0,ew];rw[if_pos (by omega)]
      · exact Ev.bind hc (Ev.bind hs h)
    by_cases hsf:safeB c=true
    · refine⟨c,p1,top ?_,c1,by omega,by omega,by omega⟩
      simp only[if_pos hsf];exact Ev.now _
    · obtain⟨c',p',h,l1,l2,l3,l4⟩:=ih (i+1) p1 (by omega) (by omega) (by omega) (by omega)
      refine⟨c',p',top ?_,l1,l2,by omega,by omega⟩
      simp only[if_neg hsf];exact h
theorem safe_ev {b:List Int} (hb:Bytes b) (p:Int) (hp:0≤p) (hp':p<200000): ∃c p',Ev (fun k=>spec_l71Safe.f k b p) (c,p')∧1≤c.length∧c.length≤16∧p≤p'∧p'≤p+1000:=by
  obtain⟨c',p',h,l1,l2,l3,l4⟩:=safe_tries hb 3 0 p rfl (by omega) hp (by omega)
  exact⟨c',p',h,l1,l2,by omega,by omega⟩
theorem fill_loop {b:List Int} (hb:Bytes b) (d:Nat): ∀ (c:List S39) (p:Int),17-c.length=d→c.length≤17→0≤p→p+d<300000→
    ∃c' p',Ev (fun k=>spec_l71Code.l0 k c b p) (c',p')∧c'.length≤17∧p≤p'∧p'≤p+d+1:=by
  induction d with
  |zero=>
    intro c p hd hl hp hp';obtain⟨x,hx,x0,x1, -⟩:=pick_ev hb p 2 hp (by omega) (by omega)
    have x1:=x1 (by omega)
    have e:wrap64 (16+x)=16+x:=w64 (by omega) (by omega)
    refine⟨c,p+1,?_,hl,by omega,by omega⟩
    refine Ev.step (f:=fun k=>(spec_l6Rd_pick.f k b p 2).bind fun bt524=>(if(c.length:Int)<(wrap64 (16+bt524.1))then(if c.length<2932031007402 then(spec_l71Code.l0 k (c++ [(⟨14,0,0,0,(⟨0,0⟩:S37)⟩:S39)]) b bt524.2)else(none))else(some (c,bt524.2)))) (fun k=>by simp only[spec_l71Code.l0]) ?_
    refine Ev.bind hx ?_
    simp only[e,if_neg (show¬(c.length:Int)<16+x by omega)]
    exact Ev.now _
  |succ d ih=>
    intro c p hd hl hp hp';obtain⟨x,hx,x0,x1, -⟩:=pick_ev hb p 2 hp (by omega) (by omega)
    have x1:=x1 (by omega)
    have e:wrap64 (16+x)=16+x:=w64 (by omega) (by omega)
    have top: ∀ {res:List S39×Int},Ev (fun k=>if(c.length:Int)<16+x then(if c.length<2932031007402 then(spec_l71Code.l0 k (c++ [(⟨14,0,0,0,(⟨0,0⟩:S37)⟩:S39)]) b (p+1))else(none))else(some (c,p+1))) res→Ev (fun k=>spec_l71Code.l0 k c b p) res:=fun {res} h=>by
      refine Ev.step (f:=fun k=>(spec_l6Rd_pick.f k b p 2).bind fun bt524=>(if(c.length:Int)<(wrap64 (16+bt524.1))then(if c.length<2932031007402 then(spec_l71Code.l0 k (c++ [(⟨14,0,0,0,(⟨0,0⟩:S37)⟩:S39)]) b bt524.2)else(none))else(some (c,bt524.2)))) (fun k=>by simp only[spec_l71Code.l0]) ?_
      refine Ev.bind hx ?_
      simp only[e];exact h
    by_cases hlt:(c.length:Int)<16+x
    · obtain⟨c',p',h,l1,l2,l3⟩:=ih (c++ [⟨14,0,0,0,⟨0,0⟩⟩]) (p+1) (by simp;omega) (by simp;omega) (by omega) (by omega)
      refine⟨c',p',top ?_,l1,by omega,by omega⟩
      simp only[if_pos hlt,if_pos (show c.length<2932031007402 by omega)]
      exact h
    · refine⟨c,p+1,top ?_,hl,by omega,by omega⟩
      simp only[if_neg hlt];exact Ev.now _
theorem code_ev {b:List Int} (hb:Bytes b) (p:Int) (hp:0≤p) (hp':p<100000): ∃c p',Ev (fun k=>spec_l71Code.f k b p) (c,p')∧c.length≤17∧p≤p'∧p'≤p+1500:=by
  obtain⟨c,p1,hc,c1,c2,c3,c4⟩:=safe_ev hb p hp (by omega)
  obtain⟨x,hx,x0,x1, -⟩:=pick_ev hb p1 12 (by omega) (by omega) (by omega)
  have top: ∀ {res:List S39×Int},Ev (fun k=>if x=0 then((spec_l71Random.f k b (p1+1)).bind fun bt505=>(some (bt505.1,bt505.2)))else(if x=1 then((spec_l6Rd_pick.f k b (p1+1) (c.length:Int)).bind fun bt509=>((spec_l71AnyOp.f k b bt509.2).bind fun bt511=>(if 0≤bt509.1 then(if bt509.1<(c.length:Int)then(some ((c.set (bt509.1:Int).toNat (⟨bt511.1,bt511.2.1,bt511.2.2.1,bt511.2.2.2.1,(⟨bt511.2.2.2.2.1,bt511.2.2.2.2.2.1⟩:S37)⟩:S39)),bt511.2.2.2.2.2.2))else(none))else(none))))else(if x=2 then((spec_l6Rd_pick.f k b (p1+1) (wrap64 ((c.length:Int)+1))).bind fun bt519=>(if 0≤bt519.1 then(if bt519.1≤(c.length:Int)then(some ((c.take (bt519.1:Int).toNat),bt519.2))else(none))else(none)))else(if x=3 then(spec_l71Code.l0 k c b (p1+1))else(some (c,p1+1)))))) res→Ev (fun k=>spec_l71Code.f k b p) res:=fun {res} h=>by
    unfold spec_l71Code.f;exact Ev.bind hc (Ev.bind hx h)
  by_cases h0:x=0
  · obtain⟨c',p',h,l1,l2,l3,l4⟩:=random_ev hb (p1+1) (by omega) (by omega)
    refine⟨c',p',top ?_,by omega,by omega,by omega⟩
    simp only[if_pos h0]
    exact Ev.bind h (Ev.now _)
  by_cases h1:x=1
  · obtain⟨y,hy,y0,y1, -⟩:=pick_ev hb (p1+1) (c.length:Int) (by omega) (by omega) (by omega)
    have y1:=y1 (by omega)
    obtain⟨a,r,s,t,vk,vn,p2,ho,q0,q1⟩:=any_ev hb (p1+1+1) (by omega) (by omega)
    refine⟨c.set y.toNat ⟨a,r,s,t,⟨vk,vn⟩⟩,p2,top ?_,by simp;omega,by omega,by omega⟩
    simp only[if_neg h0,if_pos h1]
    refine Ev.bind hy (Ev.bind ho ?_)
    simp only[if_pos y0,if_pos y1]
    exact Ev.now _
  by_cases h2:x=2
  · have e:wrap64 ((c.length:Int)+1)=(c.length:Int)+1:=w64 (by omega) (by omega)
    obtain⟨y,hy,y0,y1, -⟩:=pick_ev hb (p1+1) ((c.length:Int)+1) (by omega) (by omega) (by omega)
    have y1:=y1 (by omega)
    refine⟨c.take y.toNat,p1+1+1,top ?_,by simp;omega,by omega,by omega⟩
    simp only[if_neg h0,if_neg h1,if_pos h2,e]
    refine Ev.bind hy ?_
    simp only[if_pos y0,if_pos (show y≤(c.length:Int) by omega)]
    exact Ev.now _
  by_cases h3:x=3
  · obtain⟨c',p',h,l1,l2,l3⟩:=fill_loop hb (17-c.length) c (p1+1) rfl (by omega) (by omega) (by omega)
    refine⟨c',p',top ?_,l1,by omega,by omega⟩
    simp only[if_neg h0,if_neg h1,if_neg h2,if_pos h3]
    exact h
  · refine⟨c,p1+1,top ?_,by omega,by omega,by omega⟩
    simp only[if_neg h0,if_neg h1,if_neg h2,if_neg h3]
    exact Ev.now _
end Go.Proofs.YtmklpbmlgjkbiaaGreatDoor.PS
end
end
section
namespace Go.Proofs
open Go.Shelf
def Tryz.lays169_ren:Go.Shelf.Ren:=⟨fun|169=>28|n=>n,fun|70=>50|9=>9|0=>0|72=>52|37=>28|127=>90|3=>3|5=>5|n=>n,fun|n=>n⟩
theorem Tryz.lays169:Go.Proofs.Lays.n169 Tryz.prog Tryz.lays169_ren:= {
  mixed:=by kernel_rfl
  f169:=Tryz.func28.trans (congrArg some (by kernel_rfl))
  t0:=Tryz.underlying0
  a0:=Tryz.isAgg0
  z0:=Tryz.sizeOf0
  v0:=Tryz.zeroValue0
  t3:=Tryz.underlying3
  a3:=Tryz.isAgg3
  z3:=Tryz.sizeOf3
  v3:=Tryz.zeroValue3
  t9:=Tryz.underlying9
  a9:=Tryz.isAgg9
  z9:=Tryz.sizeOf9
  v9:=Tryz.zeroValue9
  t37:=Tryz.underlying28
  a37:=Tryz.isAgg28
  z37:=Tryz.sizeOf28
  v37:=Tryz.zeroValue28
  t70:=Tryz.underlying50
  a70:=Tryz.isAgg50
  z70:=Tryz.sizeOf50
  v70:=Tryz.zeroValue50
  t72:=Tryz.underlying52
  a72:=Tryz.isAgg52
  z72:=Tryz.sizeOf52
  v72:=Tryz.zeroValue52
  t127:=Tryz.underlying90
  a127:=Tryz.isAgg90
  z127:=Tryz.sizeOf90
  v127:=Tryz.zeroValue90 }
theorem Tryz.Builder_Extra_169:Builder.Extra Tryz.prog Tryz.lays169_ren:= {
  sizeBuilder:=by kernel_rfl
  liesBuilder:=by kernel_rfl
  t5:=Tryz.underlying5
  a5:=Tryz.isAgg5
  z5:=Tryz.sizeOf5
  v5:=Tryz.zeroValue5
  infoByte:=by kernel_rfl
  cellsByte:=by kernel_rfl
  sizeByte:=by kernel_rfl
  neB5:=by decide }
open Go.RowKit in
theorem Tryz.Builder_String_any (B b:Nat) (l:List UInt8) (w:World) (h:Lib.IsBuilder 52 5 B b (Lib.byteCells l) w) (hBw:B≤w.heap.size):
    Calls Tryz.prog 28 #[.pointer (some ⟨b,0,none⟩)] w fun e w'=>e= .returned (.string ⟨l.toArray⟩)∧Below B w w':=Any.Builder_String_any Tryz.lays169 Tryz.Builder_Extra_169 B b l w h hBw
def Tryz.lays137_ren:Go.Shelf.Ren:=⟨fun|137=>45|217=>70|266=>83|n=>n,fun|9=>9|5=>5|3=>3|n=>n,fun|n=>n⟩
theorem Tryz.lays137:Go.Proofs.Lays.n137 Tryz.prog Tryz.lays137_ren:= {
  mixed:=by kernel_rfl
  f137:=Tryz.func45.trans (congrArg some (by kernel_rfl))
  f217:=Tryz.func70.trans (congrArg some (by kernel_rfl))
  f266:=Tryz.func83.trans (congrArg some (by kernel_rfl))
  t3:=Tryz.underlying3
  a3:=Tryz.isAgg3
  z3:=Tryz.sizeOf3
  v3:=Tryz.zeroValue3
  t5:=Tryz.underlying5
  a5:=Tryz.isAgg5
  z5:=Tryz.sizeOf5
  v5:=Tryz.zeroValue5
  t9:=Tryz.underlying9
  a9:=Tryz.isAgg9
  z9:=Tryz.sizeOf9
  v9:=Tryz.zeroValue9 }
open Go.RowKit in
theorem Tryz.strings_IndexByte (s:ByteArray) (c:Int) (w:World):
    Calls Tryz.prog 45 #[.string s,.int .u8 c] w fun e w'=>e= .returned (.int .i64 (Lib.indexByte s.data.toList c.toNat.toUInt8))∧w'=w:=Any.strings_IndexByte Tryz.lays137 s c w
def Tryz.laysM171_ren:Go.Shelf.Ren:=⟨fun|171=>59|243=>80|246=>95|283=>105|284=>106|285=>107|286=>108|129=>119|317=>118|318=>120|319=>121|320=>122|337=>125|338=>126|n=>n,fun|3=>3|9=>9|2=>2|4=>4|171=>126|0=>0|53=>117|37=>28|5=>5|173=>129|212=>138|51=>139|20=>20|213=>140|46=>120|232=>149|233=>150|n=>n,fun|17=>3|18=>6|19=>7|n=>n⟩
theorem Tryz.laysM171:Go.Proofs.LaysM.n171 Tryz.prog Tryz.laysM171_ren:= {
  mixed:=by kernel_rfl
  f129:=Tryz.func119.trans (congrArg some (by kernel_rfl))
  f171:=Tryz.func59.trans (congrArg some (by kernel_rfl))
  f243:=Tryz.func80.trans (congrArg some (by kernel_rfl))
  f246:=Tryz.func95.trans (congrArg some (by kernel_rfl))
  f283:=Tryz.func105.trans (congrArg some (by kernel_rfl))
  f284:=Tryz.func106.trans (congrArg some (by kernel_rfl))
  f285:=Tryz.func107.trans (congrArg some (by kernel_rfl))
  f286:=Tryz.func108.trans (congrArg some (by kernel_rfl))
  f317:=Tryz.func118.trans (congrArg some (by kernel_rfl))
  f318:=Tryz.func120.trans (congrArg some (by kernel_rfl))
  f319:=Tryz.func121.trans (congrArg some (by kernel_rfl))
  f320:=Tryz.func122.trans (congrArg some (by kernel_rfl))
  f337:=Tryz.func125.trans (congrArg some (by kernel_rfl))
  f338:=Tryz.func126.trans (congrArg some (by kernel_rfl))
  t0:=Tryz.underlying0
  a0:=Tryz.isAgg0
  z0:=Tryz.sizeOf0
  v0:=Tryz.zeroValue0
  t2:=Tryz.underlying2
  a2:=Tryz.isAgg2
  z2:=Tryz.sizeOf2
  v2:=Tryz.zeroValue2
  t3:=Tryz.underlying3
  a3:=Tryz.isAgg3
  z3:=Tryz.sizeOf3
  v3:=Tryz.zeroValue3
  t4:=Tryz.underlying4
  a4:=Tryz.isAgg4
  z4:=Tryz.sizeOf4
  v4:=Tryz.zeroValue4
  t5:=Tryz.underlying5
  a5:=Tryz.isAgg5
  z5:=Tryz.sizeOf5
  v5:=Tryz.zeroValue5
  t9:=Tryz.underlying9
  a9:=Tryz.isAgg9
  z9:=Tryz.sizeOf9
  v9:=Tryz.zeroValue9
  t20:=Tryz.underlying20
  a20:=Tryz.isAgg20
  z20:=Tryz.sizeOf20
  v20:=Tryz.zeroValue20
  t37:=Tryz.underlying28
  a37:=Tryz.isAgg28
  z37:=Tryz.sizeOf28
  v37:=Tryz.zeroValue28
  t46:=Tryz.underlying120
  a46:=Tryz.isAgg120
  z46:=Tryz.sizeOf120
  v46:=Tryz.zeroValue120
  t51:=Tryz.underlying139
  a51:=Tryz.isAgg139
  z51:=Tryz.sizeOf139
  v51:=Tryz.zeroValue139
  t53:=Tryz.underlying117
  a53:=Tryz.isAgg117
  z53:=Tryz.sizeOf117
  v53:=Tryz.zeroValue117
  t171:=Tryz.underlying126
  a171:=Tryz.isAgg126
  z171:=Tryz.sizeOf126
  v171:=Tryz.zeroValue126
  t173:=Tryz.underlying129
  a173:=Tryz.isAgg129
  z173:=Tryz.sizeOf129
  v173:=Tryz.zeroValue129
  t212:=Tryz.underlying138
  a212:=Tryz.isAgg138
  z212:=Tryz.sizeOf138
  v212:=Tryz.zeroValue138
  t213:=Tryz.underlying140
  a213:=Tryz.isAgg140
  z213:=Tryz.sizeOf140
  t232:=Tryz.underlying149
  a232:=Tryz.isAgg149
  z232:=Tryz.sizeOf149
  v232:=Tryz.zeroValue149
  t233:=Tryz.underlying150
  a233:=Tryz.isAgg150
  z233:=Tryz.sizeOf150
  v233:=Tryz.zeroValue150
  g17:=by kernel_rfl
  g18:=by kernel_rfl
  g19:=by kernel_rfl
  i0:=by kernel_rfl
  i2:=by kernel_rfl
  i3:=by kernel_rfl
  i4:=by kernel_rfl
  i5:=by kernel_rfl
  i9:=by kernel_rfl
  i20:=by kernel_rfl
  i37:=by kernel_rfl
  i46:=by kernel_rfl
  i51:=by kernel_rfl
  i53:=by kernel_rfl
  i171:=by kernel_rfl
  i173:=by kernel_rfl
  i212:=by kernel_rfl
  i232:=by kernel_rfl
  i233:=by kernel_rfl
  m17:=by kernel_rfl
  m18:=by kernel_rfl
  m19:=by kernel_rfl }
open Go.RowKit Go.Sort Go.Lib in
theorem Tryz.strconv_Itoa (n:Int) (h0: -9223372036854775808≤n) (h1:n≤9223372036854775807) (w:World) (htab:Lib.TabIs Tryz.prog w "internal/strconv.uint64pow10" .u64 Lib.pow10Tab):
    Calls Tryz.prog 59 #[.int .i64 n] w fun e w'=>e= .returned (.string ⟨(Lib.itoa n).toArray⟩)∧ ∃k os,w'=grow (w.drewN k) os:=Any.strconv_Itoa Tryz.laysM171 n h0 h1 w htab
def Tryz.laysC172_ren:Go.Shelf.Ren:=⟨fun|172=>52|244=>72|245=>73|247=>86|279=>87|280=>88|281=>89|282=>90|287=>100|316=>101|171=>59|205=>102|321=>113|322=>114|243=>80|246=>95|283=>105|284=>106|285=>107|286=>108|129=>119|317=>118|318=>120|319=>121|320=>122|337=>125|338=>126|n=>n,fun|9=>9|3=>3|75=>54|76=>55|4=>4|5=>5|167=>104|37=>28|0=>0|85=>105|2=>2|168=>107|53=>117|175=>118|46=>120|210=>123|127=>90|145=>134|143=>132|21=>21|171=>126|173=>129|212=>138|51=>139|20=>20|213=>140|232=>149|233=>150|80=>58|n=>n,fun|15=>1|16=>2|17=>3|18=>6|19=>7|n=>n⟩
theorem Tryz.laysC172:Go.Proofs.LaysC.n172 Tryz.prog Tryz.laysC172_ren:= {
  mixed:=by kernel_rfl
  f129:=Tryz.func119.trans (congrArg some (by kernel_rfl))
  f171:=Tryz.func59.trans (congrArg some (by kernel_rfl))
  f172:=Tryz.func52.trans (congrArg some (by kernel_rfl))
  f205:=Tryz.func102.trans (congrArg some (by kernel_rfl))
  f243:=Tryz.func80.trans (congrArg some (by kernel_rfl))
  f244:=Tryz.func72.trans (congrArg some (by kernel_rfl))
  f245:=Tryz.func73.trans (congrArg some (by kernel_rfl))
  f246:=Tryz.func95.trans (congrArg some (by kernel_rfl))
  f247:=Tryz.func86.trans (congrArg some (by kernel_rfl))
  f279:=Tryz.func87.trans (congrArg some (by kernel_rfl))
  f280:=Tryz.func88.trans (congrArg some (by kernel_rfl))
  f281:=Tryz.func89.trans (congrArg some (by kernel_rfl))
  f282:=Tryz.func90.trans (congrArg some (by kernel_rfl))
  f283:=Tryz.func105.trans (congrArg some (by kernel_rfl))
  f284:=Tryz.func106.trans (congrArg some (by kernel_rfl))
  f285:=Tryz.func107.trans (congrArg some (by kernel_rfl))
  f286:=Tryz.func108.trans (congrArg some (by kernel_rfl))
  f287:=Tryz.func100.trans (congrArg some (by kernel_rfl))
  f316:=Tryz.func101.trans (congrArg some (by kernel_rfl))
  f317:=Tryz.func118.trans (congrArg some (by kernel_rfl))
  f318:=Tryz.func120.trans (congrArg some (by kernel_rfl))
  f319:=Tryz.func121.trans (congrArg some (by kernel_rfl))
  f320:=Tryz.func122.trans (congrArg some (by kernel_rfl))
  f321:=Tryz.func113.trans (congrArg some (by kernel_rfl))
  f322:=Tryz.func114.trans (congrArg some (by kernel_rfl))
  f337:=Tryz.func125.trans (congrArg some (by kernel_rfl))
  f338:=Tryz.func126.trans (congrArg some (by kernel_rfl))
  t0:=Tryz.underlying0
  a0:=Tryz.isAgg0
  z0:=Tryz.sizeOf0
  v0:=Tryz.zeroValue0
  t2:=Tryz.underlying2
  a2:=Tryz.isAgg2
  z2:=Tryz.sizeOf2
  v2:=Tryz.zeroValue2
  t3:=Tryz.underlying3
  a3:=Tryz.isAgg3
  z3:=Tryz.sizeOf3
  v3:=Tryz.zeroValue3
  t4:=Tryz.underlying4
  a4:=Tryz.isAgg4
  z4:=Tryz.sizeOf4
  v4:=Tryz.zeroValue4
  t5:=Tryz.underlying5
  a5:=Tryz.isAgg5
  z5:=Tryz.sizeOf5
  v5:=Tryz.zeroValue5
  t9:=Tryz.underlying9
  a9:=Tryz.isAgg9
  z9:=Tryz.sizeOf9
  v9:=Tryz.zeroValue9
  t20:=Tryz.underlying20
  a20:=Tryz.isAgg20
  z20:=Tryz.sizeOf20
  v20:=Tryz.zeroValue20
  t21:=Tryz.underlying21
  a21:=Tryz.isAgg21
  z21:=Tryz.sizeOf21
  v21:=Tryz.zeroValue21
  t37:=Tryz.underlying28
  a37:=Tryz.isAgg28
  z37:=Tryz.sizeOf28
  v37:=Tryz.zeroValue28
  t46:=Tryz.underlying120
  a46:=Tryz.isAgg120
  z46:=Tryz.sizeOf120
  v46:=Tryz.zeroValue120
  t51:=Tryz.underlying139
  a51:=Tryz.isAgg139
  z51:=Tryz.sizeOf139
  v51:=Tryz.zeroValue139
  t53:=Tryz.underlying117
  a53:=Tryz.isAgg117
  z53:=Tryz.sizeOf117
  v53:=Tryz.zeroValue117
  t75:=Tryz.underlying54
  a75:=Tryz.isAgg54
  z75:=Tryz.sizeOf54
  v75:=Tryz.zeroValue54
  t76:=Tryz.underlying55
  a76:=Tryz.isAgg55
  z76:=Tryz.sizeOf55
  v76:=Tryz.zeroValue55
  t85:=Tryz.underlying105
  a85:=Tryz.isAgg105
  z85:=Tryz.sizeOf105
  v85:=Tryz.zeroValue105
  t127:=Tryz.underlying90
  a127:=Tryz.isAgg90
  z127:=Tryz.sizeOf90
  v127:=Tryz.zeroValue90
  t143:=Tryz.underlying132
  a143:=Tryz.isAgg132
  z143:=Tryz.sizeOf132
  v143:=Tryz.zeroValue132
  t145:=Tryz.underlying134
  a145:=Tryz.isAgg134
  z145:=Tryz.sizeOf134
  v145:=Tryz.zeroValue134
  t167:=Tryz.underlying104
  a167:=Tryz.isAgg104
  z167:=Tryz.sizeOf104
  v167:=Tryz.zeroValue104
  t168:=Tryz.underlying107
  a168:=Tryz.isAgg107
  z168:=Tryz.sizeOf107
  v168:=Tryz.zeroValue107
  t171:=Tryz.underlying126
  a171:=Tryz.isAgg126
  z171:=Tryz.sizeOf126
  v171:=Tryz.zeroValue126
  t173:=Tryz.underlying129
  a173:=Tryz.isAgg129
  z173:=Tryz.sizeOf129
  v173:=Tryz.zeroValue129
  t175:=Tryz.underlying118
  a175:=Tryz.isAgg118
  z175:=Tryz.sizeOf118
  v175:=Tryz.zeroValue118
  t210:=Tryz.underlying123
  a210:=Tryz.isAgg123
  z210:=Tryz.sizeOf123
  v210:=Tryz.zeroValue123
  t212:=Tryz.underlying138
  a212:=Tryz.isAgg138
  z212:=Tryz.sizeOf138
  v212:=Tryz.zeroValue138
  t213:=Tryz.underlying140
  a213:=Tryz.isAgg140
  z213:=Tryz.sizeOf140
  t232:=Tryz.underlying149
  a232:=Tryz.isAgg149
  z232:=Tryz.sizeOf149
  v232:=Tryz.zeroValue149
  t233:=Tryz.underlying150
  a233:=Tryz.isAgg150
  z233:=Tryz.sizeOf150
  v233:=Tryz.zeroValue150
  g15:=by kernel_rfl
  g16:=by kernel_rfl
  g17:=by kernel_rfl
  g18:=by kernel_rfl
  g19:=by kernel_rfl
  t80:=Tryz.underlying58
  a80:=Tryz.isAgg58
  z80:=Tryz.sizeOf58
  v80:=Tryz.zeroValue58
  i0:=by kernel_rfl
  i2:=by kernel_rfl
  i3:=by kernel_rfl
  i4:=by kernel_rfl
  i5:=by kernel_rfl
  i9:=by kernel_rfl
  i20:=by kernel_rfl
  i21:=by kernel_rfl
  i37:=by kernel_rfl
  i46:=by kernel_rfl
  i51:=by kernel_rfl
  i53:=by kernel_rfl
  i75:=by kernel_rfl
  i76:=by kernel_rfl
  i80:=by kernel_rfl
  i85:=by kernel_rfl
  i127:=by kernel_rfl
  i143:=by kernel_rfl
  i145:=by kernel_rfl
  i167:=by kernel_rfl
  i168:=by kernel_rfl
  i171:=by kernel_rfl
  i173:=by kernel_rfl
  i175:=by kernel_rfl
  i210:=by kernel_rfl
  i212:=by kernel_rfl
  i232:=by kernel_rfl
  i233:=by kernel_rfl
  m15:=by kernel_rfl
  m16:=by kernel_rfl
  m17:=by kernel_rfl
  m18:=by kernel_rfl
  m19:=by kernel_rfl
  c0:=by kernel_rfl
  c2:=by kernel_rfl
  c3:=by kernel_rfl
  c4:=by kernel_rfl
  c5:=by kernel_rfl
  c9:=by kernel_rfl
  c20:=by kernel_rfl
  c21:=by kernel_rfl
  c37:=by kernel_rfl
  c46:=by kernel_rfl
  c51:=by kernel_rfl
  c53:=by kernel_rfl
  c75:=by kernel_rfl
  c76:=by kernel_rfl
  c80:=by kernel_rfl
  c85:=by kernel_rfl
  c127:=by kernel_rfl
  c143:=by kernel_rfl
  c145:=by kernel_rfl
  c167:=by kernel_rfl
  c168:=by kernel_rfl
  c171:=by kernel_rfl
  c173:=by kernel_rfl
  c175:=by kernel_rfl
  c210:=by kernel_rfl
  c212:=by kernel_rfl
  c213:=by kernel_rfl
  c232:=by kernel_rfl
  c233:=by kernel_rfl }
open Go.RowKit in
theorem Tryz.strconv_Atoi_ok (s:ByteArray) (hmax:s.size≤9223372036854775806) (v:Int) (h:Lib.atoiAll s.data.toList= .ok v) (w:World):
    Calls Tryz.prog 52 #[.string s] w fun e w'=>e= .returned (.tuple #[.int .i64 v,.nilIface])∧(w'=w∨ ∃t,w'=Lib.bytesWorld w 5 t):=Any.strconv_Atoi_ok Tryz.laysC172 s hmax v h w
open Go.RowKit in
theorem Tryz.strconv_Atoi_range (s:ByteArray) (hlim:s.size≤281474976710656) (h:Lib.atoiAll s.data.toList= .range) (ev:Value) (w:World) (hv:w.cell? ⟨2,0,none⟩=some ev) (hev:ev= .nilIface∨ ∃te pe,ev= .iface te pe):
    Calls Tryz.prog 52 #[.string s] w fun e w'=> ∃N,e= .returned (.tuple #[.int .i64 (Lib.atoiSat s.data.toList),.iface 107 (.pointer (some ⟨N,0,none⟩))])∧w.heap.size≤N∧w'.heap[N]?=some (.cells #[.string ⟨#[65,116,111,105]⟩,.string s,ev] 123 (0,0))∧Below w.heap.size w w':=Any.strconv_Atoi_range Tryz.laysC172 s hlim h ev w hv hev
def Tryz.lays102_ren:Go.Shelf.Ren:=⟨fun|102=>22|209=>53|207=>74|n=>n,fun|9=>9|4=>4|3=>3|n=>n,fun|n=>n⟩
theorem Tryz.lays102:Go.Proofs.Lays.n102 Tryz.prog Tryz.lays102_ren:= {
  mixed:=by kernel_rfl
  f102:=Tryz.func22.trans (congrArg some (by kernel_rfl))
  f207:=Tryz.func74.trans (congrArg some (by kernel_rfl))
  f209:=Tryz.func53.trans (congrArg some (by kernel_rfl))
  t3:=Tryz.underlying3
  a3:=Tryz.isAgg3
  z3:=Tryz.sizeOf3
  v3:=Tryz.zeroValue3
  t4:=Tryz.underlying4
  a4:=Tryz.isAgg4
  z4:=Tryz.sizeOf4
  v4:=Tryz.zeroValue4
  t9:=Tryz.underlying9
  a9:=Tryz.isAgg9
  z9:=Tryz.sizeOf9
  v9:=Tryz.zeroValue9 }
open Go.RowKit Go.Lib in
theorem Tryz.strings_TrimSuffix (s p:ByteArray) (w:World) (hs:s.size≤9223372036854775807):
    Calls Tryz.prog 22 #[.string s,.string p] w fun e w'=>e= .returned (.string ⟨(Lib.trimSuffix s.data.toList p.data.toList).toArray⟩)∧w'=w:=Any.strings_TrimSuffix Tryz.lays102 s p w hs
def Tryz.lays146_ren:Go.Shelf.Ren:=⟨fun|146=>46|221=>71|268=>84|138=>85|143=>82|195=>97|197=>98|218=>99|219=>96|260=>112|217=>70|225=>109|224=>110|267=>111|266=>83|314=>123|n=>n,fun|9=>9|31=>34|3=>3|4=>4|0=>0|105=>115|21=>21|5=>5|46=>120|119=>144|139=>147|138=>146|146=>142|51=>139|n=>n,fun|1=>0|3=>4|4=>5|n=>n⟩
theorem Tryz.lays146:Go.Proofs.Lays.n146 Tryz.prog Tryz.lays146_ren:= {
  mixed:=by kernel_rfl
  f138:=Tryz.func85.trans (congrArg some (by kernel_rfl))
  f143:=Tryz.func82.trans (congrArg some (by kernel_rfl))
  f146:=Tryz.func46.trans (congrArg some (by kernel_rfl))
  f195:=Tryz.func97.trans (congrArg some (by kernel_rfl))
  f197:=Tryz.func98.trans (congrArg some (by kernel_rfl))
  f217:=Tryz.func70.trans (congrArg some (by kernel_rfl))
  f218:=Tryz.func99.trans (congrArg some (by kernel_rfl))
  f219:=Tryz.func96.trans (congrArg some (by kernel_rfl))
  f221:=Tryz.func71.trans (congrArg some (by kernel_rfl))
  f224:=Tryz.func110.trans (congrArg some (by kernel_rfl))
  f225:=Tryz.func109.trans (congrArg some (by kernel_rfl))
  f260:=Tryz.func112.trans (congrArg some (by kernel_rfl))
  f266:=Tryz.func83.trans (congrArg some (by kernel_rfl))
  f267:=Tryz.func111.trans (congrArg some (by kernel_rfl))
  f268:=Tryz.func84.trans (congrArg some (by kernel_rfl))
  f314:=Tryz.func123.trans (congrArg some (by kernel_rfl))
  t0:=Tryz.underlying0
  a0:=Tryz.isAgg0
  z0:=Tryz.sizeOf0
  v0:=Tryz.zeroValue0
  t3:=Tryz.underlying3
  a3:=Tryz.isAgg3
  z3:=Tryz.sizeOf3
  v3:=Tryz.zeroValue3
  t4:=Tryz.underlying4
  a4:=Tryz.isAgg4
  z4:=Tryz.sizeOf4
  v4:=Tryz.zeroValue4
  t5:=Tryz.underlying5
  a5:=Tryz.isAgg5
  z5:=Tryz.sizeOf5
  v5:=Tryz.zeroValue5
  t9:=Tryz.underlying9
  a9:=Tryz.isAgg9
  z9:=Tryz.sizeOf9
  v9:=Tryz.zeroValue9
  t21:=Tryz.underlying21
  a21:=Tryz.isAgg21
  z21:=Tryz.sizeOf21
  v21:=Tryz.zeroValue21
  t31:=Tryz.underlying34
  a31:=Tryz.isAgg34
  z31:=Tryz.sizeOf34
  v31:=Tryz.zeroValue34
  t46:=Tryz.underlying120
  a46:=Tryz.isAgg120
  z46:=Tryz.sizeOf120
  v46:=Tryz.zeroValue120
  t51:=Tryz.underlying139
  a51:=Tryz.isAgg139
  z51:=Tryz.sizeOf139
  v51:=Tryz.zeroValue139
  t105:=Tryz.underlying115
  a105:=Tryz.isAgg115
  z105:=Tryz.sizeOf115
  v105:=Tryz.zeroValue115
  t119:=Tryz.underlying144
  a119:=Tryz.isAgg144
  z119:=Tryz.sizeOf144
  t138:=Tryz.underlying146
  a138:=Tryz.isAgg146
  z138:=Tryz.sizeOf146
  v138:=Tryz.zeroValue146
  t139:=Tryz.underlying147
  a139:=Tryz.isAgg147
  z139:=Tryz.sizeOf147
  v139:=Tryz.zeroValue147
  t146:=Tryz.underlying142
  a146:=Tryz.isAgg142
  z146:=Tryz.sizeOf142
  v146:=Tryz.zeroValue142
  g1:=by kernel_rfl
  g3:=by kernel_rfl
  g4:=by kernel_rfl }
open Go.RowKit Go.Lib in
theorem Tryz.strings_Split (s sep:ByteArray) (m:Int) (w:World) (hs:s.size<4294967281) (hm:w.cell? ⟨0,0,none⟩=some (.int .i64 m)) (h1:1≤sep.size):
    Calls Tryz.prog 46 #[.string s,.string sep] w fun e w'=>
      e= .returned (.slice (some ⟨w.heap.size,0,none⟩) (Lib.countB s sep+1) (Lib.countB s sep+1))∧w'=w.alloc (.cells ((Lib.splitB sep 0 (Lib.countB s sep) s).map Value.string).toArray 9):=Any.strings_Split Tryz.lays146 (by kernel_rfl) s sep m w hs hm h1
end Go.Proofs
end
section
namespace Go.Proofs.YtmklpbmlgjkbiaaGreatDoor.PS
open Go.RowKit Go.Proofs.YtmklpbmlgjkbiaaGreatDoorW.PrintWords Go.Proofs.YtmklpbmlgjkbiaaGreatDoorW.PrintLast
theorem size81:(Tryz.prog.info? 52).map (·.size)=some 2:=by kernel_rfl
theorem lies81:liesAt Tryz.prog Tryz.prog.depth 52 (2/Tryz.prog.cellsOf 52) 0 52 1=true:=by kernel_rfl
theorem info5b:(Tryz.prog.info? 5).map (fun i=>(i.zero,i.size,i.bytes))=some (some (.int .u8 0),1,1):=by kernel_rfl
theorem check_used (b:Nat) (w:World) (h0:w.cell? ⟨b,0,none⟩=some (.pointer (some ⟨b,0,none⟩))):
    Calls Tryz.prog 58 #[.pointer (some ⟨b,0,none⟩)] w fun e w'=>e= .returned (.tuple #[])∧w'=w:=by
  obtain⟨j,hj,_⟩:=Option.map_eq_some_iff.1 size81;go_enter Tryz.func58,Tryz.ntmps58
  go_wp2
  rw[Lib.run_neq_ptr_same w _ Tryz.underlying50 hj];go_wp2
  go_end0
  exact⟨rfl,rfl⟩
theorem check_fresh (b:Nat) (w:World) (h0:w.cell? ⟨b,0,none⟩=some (.pointer none)) (hsh:w.shape? b=some (52,2)) (hfz:w.frozen? ⟨b,0,none⟩=false):
    Calls Tryz.prog 58 #[.pointer (some ⟨b,0,none⟩)] w fun e w'=>e= .returned (.tuple #[])∧w'=w.setCell ⟨b,0,none⟩ (.pointer (some ⟨b,0,none⟩)):=by
  obtain⟨j,hj,hjs⟩:=Option.map_eq_some_iff.1 size81;go_enter Tryz.func58,Tryz.ntmps58
  go_wp2
  rw[Lib.run_to_unsafe w ⟨b,0,none⟩ Tryz.underlying50 Tryz.underlying100 hj (by rw[hjs];decide) hsh (Nat.zero_lt_succ 1)]
  simp only[Result.andThen]
  rw[Oper.upon_value];go_wp2
  rw[run_callFunc_extern Tryz.func79 (by kernel_rfl) (by kernel_rfl) (by kernel_rfl) (e:=Extern.AbiNoEscape.same) (by kernel_rfl)]
  rw[Lib.run_noEscape];simp only[Result.andThen]
  rw[Oper.upon_value];go_wp2
  rw[Lib.run_from_unsafe w ⟨b,0,none⟩ Tryz.underlying100 Tryz.underlying50 hj hsh lies81];simp only[Result.andThen]
  rw[Oper.upon_value];go_wp2
  go_end0
  exact⟨rfl,rfl⟩
theorem copy_check (B b:Nat) (bs:List Value) (w:World) (h:Lib.IsBuilder 52 5 B b bs w):
    Calls Tryz.prog 58 #[.pointer (some ⟨b,0,none⟩)] w fun e w'=>e= .returned (.tuple #[])∧(Lib.BuilderAt 52 5 B b (.pointer (some ⟨b,0,none⟩)) bs w'∧Below B w w'):=by
  rcases h with h|h
  · refine(check_fresh b w h.cell0 h.shape h.frozen0).mono ?_
    rintro e w' ⟨rfl,rfl⟩
    exact⟨rfl,h.used _,(Below.refl B w).setCell (p:=⟨b,0,none⟩) h.1 _⟩
  · refine(check_used b w h.cell0).mono ?_
    rintro e w' ⟨rfl,rfl⟩
    exact⟨rfl,h,Below.refl B _⟩
theorem write_string (B b:Nat) (bs:List Value) (s:ByteArray) (w:World) (h:Lib.IsBuilder 52 5 B b bs w) (hlen:bs.length+s.size≤140737488355328) (hBw:B≤w.heap.size):
    Calls Tryz.prog 26 #[.pointer (some ⟨b,0,none⟩),.string s] w fun e w'=>e= .returned (.tuple #[.int .i64 s.size,.nilIface])∧(Lib.BuilderAt 52 5 B b (.pointer (some ⟨b,0,none⟩)) (bs++Lib.strCells s) w'∧Below B w w'):=by
  obtain⟨i0,hi,hz0,hz1,hz2⟩:=info_parts info5b;go_enter Tryz.func26,Tryz.ntmps26
  go_wp2_with (go_at_call 58;refine(copy_check B b bs _ h).mono ?_)
  rintro e w1 ⟨rfl,h1,hb1⟩
  obtain⟨hB,v,hbk,hown,hne⟩:=h1;have c0:w1.cell? ⟨b,0,none⟩=some (.pointer (some ⟨b,0,none⟩)):=by rw[Lib.cell_of_heap hbk];rfl
  have c1:w1.cell? ⟨b,1,none⟩=some v:=by rw[Lib.cell_of_heap hbk];rfl
  go_wp2_with (at_builtin;refine Lib.wpList_append_own_string _ rfl _ _ 28 9 rfl B 5 i0 Tryz.underlying28 Tryz.underlying9 hi hz0 hz1 hz2 _ _ _ rfl hown s rfl ?c3 ?c4 ?c5 ?_)
  case c3=>unfold maxLen;omega
  case c4=>omega
  case c5=>have:=hb1.size;omega
  intro v' w2 hown' hgrow _
  have hlt:b<w1.heap.size:=by
    rcases Nat.lt_or_ge b w1.heap.size with h'|h'
    · exact h'
    · simp[Array.getElem?_eq_none h']at hbk
  have hb2:w2.heap[b]?=some (.cells #[.pointer (some ⟨b,0,none⟩),v] 52 (0,0)):=by
    rw[hgrow.block b hlt (fun e=>hne e.symm)]
    exact hbk
  have d0:w2.cell? ⟨b,0,none⟩=some (.pointer (some ⟨b,0,none⟩)):=by rw[Lib.cell_of_heap hb2];rfl
  have d1:w2.cell? ⟨b,1,none⟩=some v:=by rw[Lib.cell_of_heap hb2];rfl
  have f1:w2.frozen? ⟨b,1,none⟩=false:=Lib.frozen_of_heap hb2 1
  obtain⟨ao,n',cap,rfl⟩: ∃ao n' cap,v'= .slice ao n' cap:=by
    rcases hown'.2 with ⟨hv,_⟩|⟨g,cap,cur,hv,_⟩
    · exact⟨_,_,_,hv⟩
    · exact⟨_,_,_,hv⟩
  go_wp2
  go_ret2
  refine⟨rfl,?_,?_⟩
  · exact Lib.BuilderAt.put (T:=52) (e:=5) hB hb2 (bs':=bs++Lib.strCells s) (by simpa[Lib.strCells_length]using hown') (by decide)
  · exact(hb1.grown hgrow (by have:=hb1.size;omega) (fun k hk=>(hown.lt k hk).1)).setCell (p:=⟨b,1,none⟩) hB _
def dec2 (n:Nat):List UInt8:=if n<10 then [UInt8.ofNat (48+n)]else [UInt8.ofNat (48+n/10),UInt8.ofNat (48+n%10)]
def itoaS (n:Int):List UInt8:=if n<0 then 45::dec2 n.natAbs else dec2 n.toNat
theorem decDigits_2 (n:Nat) (h:n<100):Lib.decDigits n=dec2 n:=by
  unfold dec2;by_cases h1:n<10
  · rw[if_pos h1,Lib.decDigits];simp[h1]
  · rw[if_neg h1,Lib.decDigits];simp[h1]
    rw[Lib.decDigits];simp[show n/10<10 by omega]
theorem itoa_S (n:Int) (h0: -100<n) (h1:n<100):Lib.itoa n=itoaS n:=by
  unfold Lib.itoa itoaS;split<;>rw[decDigits_2 _ (by omega)]
def letterB (k:Int):UInt8:=if k=1 then 110 else if k=2 then 97 else 114
def vtext (k n:Int):ByteArray:=if okB k n=true then(if k=0 then⟨#[110,111,110,101]⟩else⟨(letterB k::itoaS n).toArray⟩)else⟨#[]⟩
def Tab (w:World):Prop:=Lib.TabIs Tryz.prog w "internal/strconv.uint64pow10" .u64 Lib.pow10Tab∧8≤w.heap.size
theorem Tab.below {w w':World} (h:Tab w) (hb:Below w.heap.size w w'):Tab w':=
  ⟨var?_below hb (show Tryz.prog.globalNamed "internal/strconv.uint64pow10" =some 3 by kernel_rfl) (by have:=h.2;omega) h.1,Nat.le_trans h.2 hb.size⟩
theorem itoa_call (n:Int) (w:World) (h0: -100<n) (h1:n<100) (hT:Tab w):
    Calls Tryz.prog 59 #[.int .i64 n] w fun e w'=>e= .returned (.string ⟨(itoaS n).toArray⟩)∧Below w.heap.size w w':=by
  refine(Tryz.strconv_Itoa n (by omega) (by omega) w hT.1).mono ?_
  rintro e w' ⟨rfl,k,os,rfl⟩
  exact⟨by rw[itoa_S n h0 h1],Lib.below_grow _ _ (Nat.le_refl _) _ _⟩
theorem vtext_bad {k n:Int} (h:okB k n=false):vtext k n=⟨#[]⟩:=by unfold vtext;simp[h]
theorem impl_ValText_any (k n:Int) (w:World) (hT:Tab w):
    Calls Tryz.prog 60 #[.agg #[.int .i64 k,.int .i64 n]] w fun e w'=>e= .returned (.string (vtext k n))∧Below w.heap.size w w':=by
  obtain⟨g,hg⟩: ∃g,g=okB k n:=⟨_,rfl⟩;have hv:=valok_any k n;have hA:Aside0 (∀W,Calls Tryz.prog 81 #[.agg #[.int .i64 k,.int .i64 n]] W fun e w'=>e= .returned (.bool g)∧Below W.heap.size W w'):=⟨by rw[hg];exact hv⟩
  have HG:=Aside0.mk hg;clear hv hg;have HT:=Aside0.mk hT;clear hT;cases g with
  |false=>
    rw[vtext_bad HG.out.symm];go_enter Tryz.func60,Tryz.ntmps60
    go_wp2_with (go_at_call 81;refine(hA.out _).mono ?_;rintro e w' ⟨rfl,hb⟩)
    go_ret
    exact⟨rfl,below_step (below_alloc (Below.refl _ _) _) hb⟩
  |true=>
    have hok:=okB_true.1 HG.out.symm;by_cases h0:k=0
    · subst h0
      have e0:Aside0 (vtext 0 n=⟨#[110,111,110,101]⟩):=⟨by unfold vtext;rw[←HG.out];rfl⟩
      rw[e0.out];clear hok;go_enter Tryz.func60,Tryz.ntmps60
      go_wp2_with (go_at_call 81;refine(hA.out _).mono ?_;rintro e w' ⟨rfl,hb⟩;have hc:=hb.cell (p:=⟨w.heap.size,0,none⟩) (by simp))
      go_ret
      exact⟨rfl,below_step (below_alloc (Below.refl _ _) _) hb⟩
    · have hn: -100<n∧n<100:=by unfold okP at hok;omega
      obtain⟨hn0,hn1⟩:=hn;have hb': ∀ {W W':World},Below W.heap.size W W'→ ∀b o,b<W.heap.size→W'.cell? ⟨b,o,none⟩=W.cell? ⟨b,o,none⟩:=fun hb b o h=>hb.cell (p:=⟨b,o,none⟩) h
      have HB0:=Aside0.mk (below_alloc (Below.refl w.heap.size w) (.cells #[.int .i64 k,.int .i64 n] 37));have hk:k=1∨k=2∨k=3:=by unfold okP at hok;omega
      have e1:Aside0 (vtext k n=⟨#[letterB k]⟩++⟨(itoaS n).toArray⟩):=⟨by unfold vtext;rw[←HG.out];simp[h0];rfl⟩
      rw[e1.out]
      have HI:Aside0 (∀W,Below w.heap.size w W→Calls Tryz.prog 59 #[.int .i64 n] W fun e w'=>e= .returned (.string ⟨(itoaS n).toArray⟩)∧Below W.heap.size W w'):=
        ⟨fun W hW=>itoa_call n W hn0 hn1 (HT.out.below hW)⟩
      obtain⟨X,hX⟩: ∃X,X=itoaS n:=⟨_,rfl⟩;have hXs:X.length≤3:=by rw[hX];unfold itoaS dec2;split<;>split<;>simp
      rw[←hX]at HI⊢
      clear hX hok HG e1;have hw0:IntKind.i64.wrap 0=0:=by kernel_rfl
      have hw1:IntKind.i64.wrap 1=1:=by kernel_rfl
      have hw2:IntKind.i64.wrap 2=2:=by kernel_rfl
      have hs1: ∀W,Sem.run Tryz.prog (Instr.slice 9 (.string ⟨#[110,97,114]⟩) (some (.int .i64 0)) (some (.int .i64 1)) none) W= .ok (.string ⟨#[110]⟩) W:=fun _=>by kernel_rfl
      have hs2: ∀W,Sem.run Tryz.prog (Instr.slice 9 (.string ⟨#[110,97,114]⟩) (some (.int .i64 1)) (some (.int .i64 2)) none) W= .ok (.string ⟨#[97]⟩) W:=fun _=>by kernel_rfl
      have hs3: ∀W,Sem.run Tryz.prog (Instr.slice 9 (.string ⟨#[110,97,114]⟩) (some (.int .i64 2)) (some (.int .i64 3)) none) W= .ok (.string ⟨#[114]⟩) W:=fun _=>by kernel_rfl
      have x1:decide (1+X.length≤9223372036854775807)=true:=decide_eq_true (by omega)
      have x2:(9223372036854775807<1+X.length)=False:=eq_false (by omega)
      have x3:(1+X.length≤9223372036854775807)=True:=eq_true (by omega)
      rcases hk with rfl|rfl|rfl
      all_goals
        go_enter Tryz.func60,Tryz.ntmps60
        go_wp2_with (go_at_call 81;refine(hA.out _).mono ?_;rintro e w1 ⟨rfl,hb⟩;have hc0:=hb.cell (p:=⟨w.heap.size,0,none⟩) (by simp);have hc1:=hb.cell (p:=⟨w.heap.size,1,none⟩) (by simp);have HB1:=Aside0.mk (below_step HB0.out hb);have hsz:w.heap.size<w1.heap.size:=(by have:=hb.size;rw[World.size_alloc]at this;exact this);clear hb)
        go_region_held3 (fun w'=>w'.cell? ⟨w.heap.size,0,none⟩=w1.cell? ⟨w.heap.size,0,none⟩∧w'.cell? ⟨w.heap.size,1,none⟩=w1.cell? ⟨w.heap.size,1,none⟩) (go_keep) ((go_at_call 59;refine(HI.out _ (below_drew1 HB1.out)).mono ?_;rintro e w2 ⟨rfl,hb⟩;have q0:=hb.cell (p:=⟨w.heap.size,0,none⟩) hsz;have q1:=hb.cell (p:=⟨w.heap.size,1,none⟩) hsz;have HB2:=Aside0.mk (below_step (below_drew1 HB1.out) hb);clear hb))
        go_wp2
        go_ret
        exact⟨rfl,HB2.out⟩
def Hold (w W:World) (g:Nat) (o:Obj):Prop:=Below w.heap.size w W∧W.heap[g]?=some o
theorem Hold.new {w W:World} (h:Below w.heap.size w W) (o:Obj):Hold w (W.alloc o) W.heap.size o:=⟨below_alloc h o,blk_new W o⟩
theorem Hold.step {w W W':World} {g:Nat} {o:Obj} (h:Hold w W g o) (hb:Below W.heap.size W W'):Hold w W' g o:=⟨below_step h.1 hb,blk_below h.2 hb⟩
theorem Hold.alloc {w W:World} {g:Nat} {o:Obj} (h:Hold w W g o) (o':Obj):Hold w (W.alloc o') g o:=⟨below_alloc h.1 o',blk_alloc h.2 o'⟩
theorem Hold.drew {w W:World} {g:Nat} {o:Obj} (h:Hold w W g o):Hold w W.drew g o:=⟨below_drew1 h.1,h.2⟩
theorem Hold.drewN {w W:World} {g:Nat} {o:Obj} (h:Hold w W g o) (n:Nat):Hold w (W.drewN n) g o:=⟨pw_below_drewN h.1 n,h.2⟩
theorem Hold.below {w W:World} {g:Nat} {o:Obj} (h:Hold w W g o):Below w.heap.size w W:=h.1
theorem Hold.blk {w W:World} {g:Nat} {o:Obj} (h:Hold w W g o):W.heap[g]?=some o:=h.2
theorem Hold.lt {w W:World} {g:Nat} {o:Obj} (h:Hold w W g o):g<W.heap.size:=blk_lt h.2
theorem box2 {W:World} {g:Nat} {a b:Value} {t:TypeId} (h:W.heap[g]?=some (.cells #[a,b] t (0,0))):W.cell? ⟨g,0,none⟩=some a∧W.cell? ⟨g,1,none⟩=some b:=
  ⟨(blk_cell h 0).trans rfl,(blk_cell h 1).trans rfl⟩
theorem free2 {W:World} {g:Nat} {a b:Value} {t:TypeId} (h:W.heap[g]?=some (.cells #[a,b] t (0,0))):W.frozen? ⟨g,0,none⟩=false∧W.frozen? ⟨g,1,none⟩=false:=⟨blk_frozen h 0,blk_frozen h 1⟩
theorem box6 {W:World} {g:Nat} {a b c d e f:Value} {t:TypeId} (h:W.heap[g]?=some (.cells #[a,b,c,d,e,f] t (0,0))):
    W.cell? ⟨g,0,none⟩=some a∧W.cell? ⟨g,1,none⟩=some b∧W.cell? ⟨g,2,none⟩=some c∧W.cell? ⟨g,3,none⟩=some d∧W.cell? ⟨g,4,none⟩=some e∧W.cell? ⟨g,5,none⟩=some f:=
  ⟨(blk_cell h 0).trans rfl,(blk_cell h 1).trans rfl,(blk_cell h 2).trans rfl,(blk_cell h 3).trans rfl,(blk_cell h 4).trans rfl,(blk_cell h 5).trans rfl⟩
def Hold2 (w W:World) (g:Nat) (o:Obj) (g':Nat) (o':Obj):Prop:=Hold w W g o∧W.heap[g']?=some o'
theorem Hold2.step {w W W':World} {g g':Nat} {o o':Obj} (h:Hold2 w W g o g' o') (hb:Below W.heap.size W W'):Hold2 w W' g o g' o':=⟨h.1.step hb,blk_below h.2 hb⟩
theorem Hold2.alloc {w W:World} {g g':Nat} {o o':Obj} (h:Hold2 w W g o g' o') (q:Obj):Hold2 w (W.alloc q) g o g' o':=⟨h.1.alloc q,blk_alloc h.2 q⟩
theorem Hold2.drew {w W:World} {g g':Nat} {o o':Obj} (h:Hold2 w W g o g' o'):Hold2 w W.drew g o g' o':=⟨h.1.drew,h.2⟩
theorem Hold2.new {w W:World} {g:Nat} {o:Obj} (h:Hold w W g o) (q:Obj):Hold2 w (W.alloc q) g o W.heap.size q:=⟨h.alloc q,blk_new W q⟩
theorem Hold2.below {w W:World} {g g':Nat} {o o':Obj} (h:Hold2 w W g o g' o'):Below w.heap.size w W:=h.1.1
theorem Hold2.blk {w W:World} {g g':Nat} {o o':Obj} (h:Hold2 w W g o g' o'):W.heap[g]?=some o:=h.1.2
theorem Hold2.blk2 {w W:World} {g g':Nat} {o o':Obj} (h:Hold2 w W g o g' o'):W.heap[g']?=some o':=h.2
def decB (n:Int):ByteArray:=⟨(itoaS n).toArray⟩
def addS (b:Bool) (out x:ByteArray):ByteArray:=if b=true then(out++⟨#[32]⟩)++x else out
def outR (k r:Int):ByteArray:=addS (hasR k) (nameB k) (decB r)
def outS (k r s:Int):ByteArray:=addS (hasS k) (outR k r) (decB s)
def outT (k r s t:Int):ByteArray:=addS (hasT k) (outS k r s) (decB t)
def opText (k r s t vk vn:Int):ByteArray:=if opB k r s t vk vn=true then addS (hasV k) (outT k r s t) (vtext vk vn)else⟨#[]⟩
theorem dec_size (n:Int):(decB n).size≤3:=by
  unfold decB itoaS dec2;split<;>split<;>simp[ByteArray.size]
theorem add_size (b:Bool) (out x:ByteArray):(addS b out x).size≤out.size+1+x.size:=by
  unfold addS;split
  · rw[ByteArray.size_append,ByteArray.size_append];exact Nat.le_refl _
  · omega
theorem name_le (k:Int) (h:1≤k∧k≤14):(nameB k).size≤5:=by
  revert k;refine fun k=>kinds (P:=fun k=>1≤k∧k≤14→(nameB k).size≤5) (fun k hk h=>absurd h hk) ?_ ?_ ?_ ?_ ?_ ?_ ?_ ?_ ?_ ?_ ?_ ?_ ?_ ?_ k<;>exact fun _=>by decide
theorem how_name (k:Int) (h:1≤k∧k≤14):(howR k).f0=nameB k:=by
  revert k;refine fun k=>kinds (P:=fun k=>1≤k∧k≤14→(howR k).f0=nameB k) (fun k hk h=>absurd h hk) ?_ ?_ ?_ ?_ ?_ ?_ ?_ ?_ ?_ ?_ ?_ ?_ ?_ ?_ k<;>exact fun _=>by decide
theorem vtext_le4 (a b:Int):(vtext a b).size≤4:=by
  by_cases h:okB a b=true
  · have hp:=okB_true.1 h
    unfold vtext;rw[if_pos h];split
    · decide
    · have:(itoaS b).length≤3:=by unfold itoaS dec2;split<;>split<;>simp
      simp[ByteArray.size];omega
  · simp only[Bool.not_eq_true]at h
    rw[vtext_bad h];exact Nat.zero_le _
theorem cat1 (x:ByteArray) (hx:x.size≤1000):decide (1+x.size≤9223372036854775807)=true∧(9223372036854775807<1+x.size)=False∧(1+x.size≤9223372036854775807)=True:=
  ⟨decide_eq_true (by omega),eq_false (by omega),eq_true (by omega)⟩
theorem catB (o x:ByteArray) (ho:o.size≤1000) (hx:x.size≤1000):decide (o.size+(1+x.size)≤9223372036854775807)=true∧(9223372036854775807<o.size+(1+x.size))=False∧(o.size+(1+x.size)≤9223372036854775807)=True:=
  ⟨decide_eq_true (by omega),eq_false (by omega),eq_true (by omega)⟩
def outI (k r s t:Int) (i:Int):ByteArray:=if i=0 then nameB k else if i=1 then outR k r else if i=2 then outS k r s else outT k r s t
def OI (k r s t:Int) (i:Int) (v:Value):Prop:= ∃o:ByteArray,v= .string o∧o=outI k r s t i∧(o.size:Int)≤5+4*i
theorem oi_step {k r s t i:Int} {o x:ByteArray} (ho:o=outI k r s t i) {h:Bool} (e:outI k r s t (i+1)=addS h (outI k r s t i) x):(h=true→outI k r s t (i+1)=o++(⟨#[32]⟩++x))∧(h=false→outI k r s t (i+1)=o):=by
  subst ho;constructor
  · rintro rfl;rw[e];unfold addS;rw[if_pos rfl,ByteArray.append_assoc]
  · rintro rfl;rw[e];unfold addS;rw[if_neg (by simp)]
theorem box3 {W:World} {g:Nat} {a b c:Value} {t:TypeId} (h:W.heap[g]?=some (.cells #[a,b,c] t (0,0))):
    W.cell? ⟨g,0,none⟩=some a∧W.cell? ⟨g,1,none⟩=some b∧W.cell? ⟨g,2,none⟩=some c:=
  ⟨(blk_cell h 0).trans rfl,(blk_cell h 1).trans rfl,(blk_cell h 2).trans rfl⟩
def cells6 (k r s t vk vn:Int):Obj:=.cells #[.int .i64 k,.int .i64 r,.int .i64 s,.int .i64 t,.int .i64 vk,.int .i64 vn] 39
theorem opText_no {k r s t vk vn:Int} (h:opB k r s t vk vn=false):opText k r s t vk vn=⟨#[]⟩:=by unfold opText;simp[h]
theorem impl_OpText_any (k r s t vk vn:Int) (w:World) (hT:Tab w):
    Calls Tryz.prog 27 #[.agg #[.int .i64 k,.int .i64 r,.int .i64 s,.int .i64 t,.int .i64 vk,.int .i64 vn]] w fun e w'=>e= .returned (.string (opText k r s t vk vn))∧Below w.heap.size w w':=by
  have HT:=Aside0.mk hT;clear hT;have HO:Aside0 (∀W,Calls Tryz.prog 33 #[.agg #[.int .i64 k,.int .i64 r,.int .i64 s,.int .i64 t,.int .i64 vk,.int .i64 vn]] W fun e w'=>e= .returned (.bool (opB k r s t vk vn))∧Below W.heap.size W w'):=⟨fun W=>impl_OpOk.calls k r s t vk vn _ W rfl⟩
  obtain⟨b,hop⟩: ∃b,opB k r s t vk vn=b:=⟨_,rfl⟩;cases b with
  |false=>
    rw[opText_no hop];rw[hop]at HO
    clear hop;go_enter Tryz.func27,Tryz.ntmps27
    go_wp2_with (go_at_call 33;(with_reducible refine(HO.out _).mono ?_);rintro e w1 ⟨rfl,hb⟩)
    go_ret
    exact⟨rfl,below_step (below_alloc (Below.refl _ _) _) hb⟩
  |true=>
    rw[hop]at HO
    have hp:=opB_true.1 hop;have hk:=hp.1;have HH:Aside0 (∀ (c:UInt8) W,Calls Tryz.prog 34 #[.agg #[.int .i64 k,.int .i64 r,.int .i64 s,.int .i64 t,.int .i64 vk,.int .i64 vn],.string ⟨#[c]⟩] W fun e w'=>e= .returned (.bool (hasC k c))∧Below W.heap.size W w'):=⟨fun c W=>has_any k r s t vk vn c W⟩
    have HW:Aside0 (∀W,Calls Tryz.prog 50 #[.agg #[.int .i64 k,.int .i64 r,.int .i64 s,.int .i64 t,.int .i64 vk,.int .i64 vn]] W fun e w'=>e= .returned (.agg #[.string (nameB k),.string (howR k).f1,.string (howR k).f2,.bool (howR k).f3])∧Below W.heap.size W w'):=⟨fun W=>by
      rw[←how_name k hk];exact impl_Op_how.calls k r s t vk vn (howR k).f0 (howR k).f1 (howR k).f2 (howR k).f3 W rfl⟩
    have HI:Aside0 (∀n W, -100<n→n<100→Below w.heap.size w W→Calls Tryz.prog 59 #[.int .i64 n] W fun e w'=>e= .returned (.string (decB n))∧Below W.heap.size W w'):=⟨fun n W h0 h1 hW=>itoa_call n W h0 h1 (HT.out.below hW)⟩
    have HV:Aside0 (∀W,Below w.heap.size w W→Calls Tryz.prog 60 #[.agg #[.int .i64 vk,.int .i64 vn]] W fun e w'=>e= .returned (.string (vtext vk vn))∧Below W.heap.size W w'):=⟨fun W hW=>impl_ValText_any vk vn W (HT.out.below hW)⟩
    have hr: -100<r∧r<100∧ -100<s∧s<100∧ -100<t∧t<100:=by
      obtain⟨_,_,a,b,c,_⟩:=hp;omega
    have HRR:=Aside0.mk hr;have HN:=Aside0.mk (name_le k hk);have HEND:Aside0 (opText k r s t vk vn=addS (hasV k) (outI k r s t 3) (vtext vk vn)):=⟨by unfold opText;rw[if_pos hop];rfl⟩
    obtain⟨x1,x2,x3⟩: ∃a b c,a=(howR k).f1∧b=(howR k).f2∧c=(howR k).f3:=⟨_,_,_,rfl,rfl,rfl⟩;clear hop hp hr hk;rw[HEND.out];have hs0: ∀W,Sem.run Tryz.prog (Instr.slice 9 (.string ⟨#[82,83,84]⟩) (some (.int .i64 0)) (some (.int .i64 1)) none) W= .ok (.string ⟨#[82]⟩) W:=fun _=>by kernel_rfl
    have hs1: ∀W,Sem.run Tryz.prog (Instr.slice 9 (.string ⟨#[82,83,84]⟩) (some (.int .i64 1)) (some (.int .i64 2)) none) W= .ok (.string ⟨#[83]⟩) W:=fun _=>by kernel_rfl
    have hs2: ∀W,Sem.run Tryz.prog (Instr.slice 9 (.string ⟨#[82,83,84]⟩) (some (.int .i64 2)) (some (.int .i64 3)) none) W= .ok (.string ⟨#[84]⟩) W:=fun _=>by kernel_rfl
    have hfd: ∀ (a b c d:Value) (W:World),Sem.run Tryz.prog (Instr.field 77 (.agg #[a,b,c,d]) 0) W= .ok a W:=fun _ _ _ _ _=>by kernel_rfl
    have HB:=Aside0.mk (Hold.new (Below.refl w.heap.size w) (cells6 k r s t vk vn));go_enter Tryz.func27,Tryz.ntmps27
    go_upto_block 0 with (first
      |(go_at_call 33;(with_reducible refine(HO.out _).mono ?_);rintro e w1 ⟨rfl,hb⟩;replace HB:=Aside0.mk (HB.out.step hb);clear hb;obtain⟨c0,c1,c2,c3,c4,c5⟩:=box6 HB.out.blk)
      |(go_at_call 50;(with_reducible refine(HW.out _).mono ?_);rintro e w2 ⟨rfl,hb⟩;replace HB:=Aside0.mk (HB.out.step hb);clear hb c0 c1 c2 c3 c4 c5;obtain⟨c0,c1,c2,c3,c4,c5⟩:=box6 HB.out.blk))
    replace HB:=Aside0.mk (Hold2.new HB.out (.cells #[.int .i64 r,.int .i64 s,.int .i64 t] 3 (0,0)));have HO0:Aside0 (OI k r s t 0 (.string (nameB k))):=⟨⟨_,rfl,rfl,by have:=HN.out;omega⟩⟩
    clear c0 c1 c2 c3 c4 c5 HO HW HN HEND;revert HB
    generalize w2.alloc (.cells #[.int .i64 r,.int .i64 s,.int .i64 t] 3)=w3;generalize w2.heap.size=gs;intro HB;go_wp2
    go_loopg [3,20] 3 (fun gg s3 s20 wr=> ∃i:Int,0≤i∧i≤3∧3-i≤gg∧s20= .int .i64 i∧Aside0 (OI k r s t i s3)∧Aside0 (Hold2 w wr w.heap.size (cells6 k r s t vk vn) gs (.cells #[.int .i64 r,.int .i64 s,.int .i64 t] 3)))
    case atStart=>exact⟨0,by omega,by omega,by omega,rfl,HO0,HB⟩
    case round=>
      clear HB HO0;obtain⟨i,hi0,hi3,hgg,rfl,HOI,HB⟩:=hrel;have hi:i=0∨i=1∨i=2∨i=3:=by omega
      clear hi0 hi3;obtain⟨o,rfl,ho,hoz⟩:=HOI.out;clear HOI;obtain⟨c0,c1,c2,c3,c4,c5⟩:=box6 HB.out.blk;obtain⟨d0,d1,d2⟩:=box3 HB.out.blk2;have hw1:IntKind.i64.wrap 1=1:=by decide
      have hw2:IntKind.i64.wrap 2=2:=by decide
      have hw3:IntKind.i64.wrap 3=3:=by decide
      rcases hi with rfl|rfl|rfl|rfl
      · have ES:=Aside0.mk (oi_step (k:=k) (r:=r) (s:=s) (t:=t) (i:=0) (h:=hasR k) (x:=decB r) ho rfl)
        obtain⟨b,hbq⟩: ∃b,hasC k 82=b:=⟨_,rfl⟩;rw[show hasR k=hasC k 82 from(hasC_R k).symm,hbq]at ES
        have HX:Aside0 (∀W,Calls Tryz.prog 34 #[.agg #[.int .i64 k,.int .i64 r,.int .i64 s,.int .i64 t,.int .i64 vk,.int .i64 vn],.string ⟨#[82]⟩] W fun e w'=>e= .returned (.bool b)∧Below W.heap.size W w'):=⟨fun W=>by rw[←hbq];exact HH.out 82 W⟩
        clear ho hbq;go_upto_region 7 with (fail)
        go_region_held3 (fun w'=>w'.cell? ⟨w.heap.size,0,none⟩=some (.int .i64 k)∧w'.cell? ⟨w.heap.size,1,none⟩=some (.int .i64 r)∧w'.cell? ⟨w.heap.size,2,none⟩=some (.int .i64 s)∧w'.cell? ⟨w.heap.size,3,none⟩=some (.int .i64 t)∧w'.cell? ⟨w.heap.size,4,none⟩=some (.int .i64 vk)∧w'.cell? ⟨w.heap.size,5,none⟩=some (.int .i64 vn)) (go_keep) ((go_at_call 34;(with_reducible refine(HX.out _).mono ?_);rintro e w4 ⟨rfl,hb⟩;have HB4:=Aside0.mk (HB.out.drew.step hb);clear hb;obtain⟨z0,z1,z2,z3,z4,z5⟩:=box6 HB4.out.blk))
        all_goals
          replace HB:=HB4;clear HB4 z0 z1 z2 z3 z4 z5;cases b with
          |false=>
            have hx:=ES.out.2 rfl;clear ES HX;go_wp2
            go_roundg (gk-1)
            case measure=>omega
            case rel=>exact⟨_,by omega,by omega,by omega,rfl,⟨⟨o,rfl,hx.symm,by omega⟩⟩,HB⟩
          |true=>
            have hx:=ES.out.1 rfl;clear ES HX;obtain⟨X,hX⟩: ∃X,X=decB r:=⟨_,rfl⟩;have hX3:X.size≤3:=by rw[hX];exact dec_size _
            have HIX:Aside0 (∀W,Below w.heap.size w W→Calls Tryz.prog 59 #[.int .i64 r] W fun e w'=>e= .returned (.string X)∧Below W.heap.size W w'):=⟨fun W hW=>by rw[hX];exact HI.out r W (by have:=HRR.out;omega) (by have:=HRR.out;omega) hW⟩
            rw[←hX]at hx
            obtain⟨q1,q2,q3⟩:=cat1 X (by omega)
            obtain⟨q4,q5,q6⟩:=catB o X (by omega) (by omega)
            have HX4:=Aside0.mk (show _∧_∧_ from⟨hx,hX3,hX⟩)
            clear hx hX3 hX;go_wp2_with (go_at_call 59;(with_reducible refine(HIX.out _ HB.out.below).mono ?_);rintro e w5 ⟨rfl,hb⟩;replace HB:=Aside0.mk (HB.out.step hb);clear hb)
            go_roundg (gk-1)
            case measure=>omega
            case rel=>exact⟨_,by omega,by omega,by omega,rfl,⟨⟨_,rfl,HX4.out.1.symm,by have:=HX4.out.2.1;rw[ByteArray.size_append,ByteArray.size_append,show(⟨#[32]⟩:ByteArray).size=1 from rfl];omega⟩⟩,HB⟩
      · have ES:=Aside0.mk (oi_step (k:=k) (r:=r) (s:=s) (t:=t) (i:=1) (h:=hasS k) (x:=decB s) ho rfl)
        obtain⟨b,hbq⟩: ∃b,hasC k 83=b:=⟨_,rfl⟩;rw[show hasS k=hasC k 83 from(hasC_S k).symm,hbq]at ES
        have HX:Aside0 (∀W,Calls Tryz.prog 34 #[.agg #[.int .i64 k,.int .i64 r,.int .i64 s,.int .i64 t,.int .i64 vk,.int .i64 vn],.string ⟨#[83]⟩] W fun e w'=>e= .returned (.bool b)∧Below W.heap.size W w'):=⟨fun W=>by rw[←hbq];exact HH.out 83 W⟩
        clear ho hbq;go_upto_region 7 with (fail)
        go_region_held3 (fun w'=>w'.cell? ⟨w.heap.size,0,none⟩=some (.int .i64 k)∧w'.cell? ⟨w.heap.size,1,none⟩=some (.int .i64 r)∧w'.cell? ⟨w.heap.size,2,none⟩=some (.int .i64 s)∧w'.cell? ⟨w.heap.size,3,none⟩=some (.int .i64 t)∧w'.cell? ⟨w.heap.size,4,none⟩=some (.int .i64 vk)∧w'.cell? ⟨w.heap.size,5,none⟩=some (.int .i64 vn)) (go_keep) ((go_at_call 34;(with_reducible refine(HX.out _).mono ?_);rintro e w4 ⟨rfl,hb⟩;have HB4:=Aside0.mk (HB.out.drew.step hb);clear hb;obtain⟨z0,z1,z2,z3,z4,z5⟩:=box6 HB4.out.blk))
        all_goals
          replace HB:=HB4;clear HB4 z0 z1 z2 z3 z4 z5;cases b with
          |false=>
            have hx:=ES.out.2 rfl;clear ES HX;go_wp2
            go_roundg (gk-1)
            case measure=>omega
            case rel=>exact⟨_,by omega,by omega,by omega,rfl,⟨⟨o,rfl,hx.symm,by omega⟩⟩,HB⟩
          |true=>
            have hx:=ES.out.1 rfl;clear ES HX;obtain⟨X,hX⟩: ∃X,X=decB s:=⟨_,rfl⟩;have hX3:X.size≤3:=by rw[hX];exact dec_size _
            have HIX:Aside0 (∀W,Below w.heap.size w W→Calls Tryz.prog 59 #[.int .i64 s] W fun e w'=>e= .returned (.string X)∧Below W.heap.size W w'):=⟨fun W hW=>by rw[hX];exact HI.out s W (by have:=HRR.out;omega) (by have:=HRR.out;omega) hW⟩
            rw[←hX]at hx
            obtain⟨q1,q2,q3⟩:=cat1 X (by omega)
            obtain⟨q4,q5,q6⟩:=catB o X (by omega) (by omega)
            have HX4:=Aside0.mk (show _∧_∧_ from⟨hx,hX3,hX⟩)
            clear hx hX3 hX;go_wp2_with (go_at_call 59;(with_reducible refine(HIX.out _ HB.out.below).mono ?_);rintro e w5 ⟨rfl,hb⟩;replace HB:=Aside0.mk (HB.out.step hb);clear hb)
            go_roundg (gk-1)
            case measure=>omega
            case rel=>exact⟨_,by omega,by omega,by omega,rfl,⟨⟨_,rfl,HX4.out.1.symm,by have:=HX4.out.2.1;rw[ByteArray.size_append,ByteArray.size_append,show(⟨#[32]⟩:ByteArray).size=1 from rfl];omega⟩⟩,HB⟩
      · have ES:=Aside0.mk (oi_step (k:=k) (r:=r) (s:=s) (t:=t) (i:=2) (h:=hasT k) (x:=decB t) ho rfl)
        obtain⟨b,hbq⟩: ∃b,hasC k 84=b:=⟨_,rfl⟩;rw[show hasT k=hasC k 84 from(hasC_T k).symm,hbq]at ES
        have HX:Aside0 (∀W,Calls Tryz.prog 34 #[.agg #[.int .i64 k,.int .i64 r,.int .i64 s,.int .i64 t,.int .i64 vk,.int .i64 vn],.string ⟨#[84]⟩] W fun e w'=>e= .returned (.bool b)∧Below W.heap.size W w'):=⟨fun W=>by rw[←hbq];exact HH.out 84 W⟩
        clear ho hbq;go_upto_region 7 with (fail)
        go_region_held3 (fun w'=>w'.cell? ⟨w.heap.size,0,none⟩=some (.int .i64 k)∧w'.cell? ⟨w.heap.size,1,none⟩=some (.int .i64 r)∧w'.cell? ⟨w.heap.size,2,none⟩=some (.int .i64 s)∧w'.cell? ⟨w.heap.size,3,none⟩=some (.int .i64 t)∧w'.cell? ⟨w.heap.size,4,none⟩=some (.int .i64 vk)∧w'.cell? ⟨w.heap.size,5,none⟩=some (.int .i64 vn)) (go_keep) ((go_at_call 34;(with_reducible refine(HX.out _).mono ?_);rintro e w4 ⟨rfl,hb⟩;have HB4:=Aside0.mk (HB.out.drew.step hb);clear hb;obtain⟨z0,z1,z2,z3,z4,z5⟩:=box6 HB4.out.blk))
        all_goals
          replace HB:=HB4;clear HB4 z0 z1 z2 z3 z4 z5;cases b with
          |false=>
            have hx:=ES.out.2 rfl;clear ES HX;go_wp2
            go_roundg (gk-1)
            case measure=>omega
            case rel=>exact⟨_,by omega,by omega,by omega,rfl,⟨⟨o,rfl,hx.symm,by omega⟩⟩,HB⟩
          |true=>
            have hx:=ES.out.1 rfl;clear ES HX;obtain⟨X,hX⟩: ∃X,X=decB t:=⟨_,rfl⟩;have hX3:X.size≤3:=by rw[hX];exact dec_size _
            have HIX:Aside0 (∀W,Below w.heap.size w W→Calls Tryz.prog 59 #[.int .i64 t] W fun e w'=>e= .returned (.string X)∧Below W.heap.size W w'):=⟨fun W hW=>by rw[hX];exact HI.out t W (by have:=HRR.out;omega) (by have:=HRR.out;omega) hW⟩
            rw[←hX]at hx
            obtain⟨q1,q2,q3⟩:=cat1 X (by omega)
            obtain⟨q4,q5,q6⟩:=catB o X (by omega) (by omega)
            have HX4:=Aside0.mk (show _∧_∧_ from⟨hx,hX3,hX⟩)
            clear hx hX3 hX;go_wp2_with (go_at_call 59;(with_reducible refine(HIX.out _ HB.out.below).mono ?_);rintro e w5 ⟨rfl,hb⟩;replace HB:=Aside0.mk (HB.out.step hb);clear hb)
            go_roundg (gk-1)
            case measure=>omega
            case rel=>exact⟨_,by omega,by omega,by omega,rfl,⟨⟨_,rfl,HX4.out.1.symm,by have:=HX4.out.2.1;rw[ByteArray.size_append,ByteArray.size_append,show(⟨#[32]⟩:ByteArray).size=1 from rfl];omega⟩⟩,HB⟩
      · have hcat:=hoz
        have HEE:=Aside0.mk (show _∧_ from⟨ho,hoz⟩)
        obtain⟨q4,q5,q6⟩:True∧True∧True:=⟨trivial,trivial,trivial⟩;clear ho;have HX:Aside0 (∀W,Calls Tryz.prog 34 #[.agg #[.int .i64 k,.int .i64 r,.int .i64 s,.int .i64 t,.int .i64 vk,.int .i64 vn],.string ⟨#[86]⟩] W fun e w'=>e= .returned (.bool (hasV k))∧Below W.heap.size W w'):=⟨fun W=>by rw[←hasC_V];exact HH.out 86 W⟩
        obtain⟨b,hbq⟩: ∃b,hasV k=b:=⟨_,rfl⟩;rw[hbq]at HX
        obtain⟨X,hX⟩: ∃X,X=vtext vk vn:=⟨_,rfl⟩;have hX3:X.size≤4:=by rw[hX];exact vtext_le4 _ _
        rw[←hX]at HV
        have HXV:=Aside0.mk (show _∧_ from⟨hX,hbq⟩)
        obtain⟨q1,q2,q3⟩:=cat1 X (by omega)
        obtain⟨q4,q5,q6⟩:=catB o X (by omega) (by omega)
        clear hX hX3 hoz hcat hbq;cases b with
        |false=>
          go_wp2_with (go_at_call 34;(with_reducible refine(HX.out _).mono ?_);rintro e w4 ⟨rfl,hb⟩;replace HB:=Aside0.mk (HB.out.step hb);clear hb)
          go_ret
          exact⟨by rw[HEE.out.1,HXV.out.2];rfl,HB.out.below⟩
        |true=>
          go_wp2_with (first
            |(go_at_call 34;(with_reducible refine(HX.out _).mono ?_);rintro e w4 ⟨rfl,hb⟩;replace HB:=Aside0.mk (HB.out.step hb);clear hb c0 c1 c2 c3 c4 c5;obtain⟨c0,c1,c2,c3,c4,c5⟩:=box6 HB.out.blk)
            |(go_at_call 60;(with_reducible refine(HV.out _ HB.out.below).mono ?_);rintro e w5 ⟨rfl,hb⟩;replace HB:=Aside0.mk (HB.out.step hb);clear hb))
          go_ret
          exact⟨by rw[HEE.out.1,HXV.out.2,←HXV.out.1];unfold addS;rw[if_pos rfl,ByteArray.append_assoc];rfl,HB.out.below⟩
theorem l6_ok (n:Int) (h0: -100<n) (h1:n<100):spec_l6Dec.f 5 n=some ⟨(itoaS n).toArray⟩:=by
  have h: ∀i∈List.range 199,spec_l6Dec.f 5 ((i:Int)-99)=some ⟨(itoaS ((i:Int)-99)).toArray⟩:=by decide+kernel
  have:=h (n+99).toNat (by simp;omega)
  rwa [show(((n+99).toNat:Nat):Int)-99=n by omega]at this
theorem specOk_f (k n:Int):spec_ValOk.f k n=some (okB k n):=by
  unfold spec_ValOk.f okB okP spec_l6In.f;by_cases h0:k=0
  · subst h0;simp;by_cases n=0<;>simp[*]
  by_cases h1:k=1
  · subst h1;simp;by_cases h: -99≤n<;>by_cases h':n≤99<;>simp[*]
  by_cases h2:k=2
  · subst h2;simp;by_cases h:0≤n<;>by_cases h':n≤9<;>simp[*]
  by_cases h3:k=3
  · subst h3;simp;by_cases h:1≤n<;>by_cases h':n≤6<;>simp[*]
  simp[h0,h1,h2,h3]
theorem specText_f (k n:Int):spec_ValText.f 5 k n=some (vtext k n):=by
  unfold spec_ValText.f vtext;rw[specOk_f];by_cases h:okB k n=true
  · rw[h]
    simp only[Option.bind_some,if_true]
    by_cases h0:k=0
    · rw[if_pos h0,if_pos h0]
    · rw[if_neg h0,if_neg h0]
      have hp:=okB_true.1 h;have hk:k=1∨k=2∨k=3:=by unfold okP at hp;omega
      rw[l6_ok n (by unfold okP at hp;omega) (by unfold okP at hp;omega)]
      have hs:(itoaS n).length≤3:=by unfold itoaS dec2;split<;>split<;>simp
      obtain⟨X,hX⟩: ∃X,X=itoaS n:=⟨_,rfl⟩;rw[←hX]at hs⊢
      clear hX hp h h0;simp only[Option.bind_some]
      have hsz: ∀c:UInt8,(ByteArray.mk #[c]).size+(ByteArray.mk X.toArray).size≤9223372036854775807:=fun c=>by
        have:(ByteArray.mk X.toArray).size=X.length:=by simp[ByteArray.size]
        rw[this];show 1+X.length≤_;omega
      rcases hk with rfl|rfl|rfl
      · rw[if_pos (by decide),if_pos (by decide)];exact(if_pos (hsz 110)).trans rfl
      · rw[if_pos (by decide),if_pos (by decide)];exact(if_pos (hsz 97)).trans rfl
      · rw[if_pos (by decide),if_pos (by decide)];exact(if_pos (hsz 114)).trans rfl
  · simp only[Bool.not_eq_true]at h
    rw[h];simp
theorem l6_ok8 (n:Int) (h0: -100<n) (h1:n<100):spec_l6Dec.f 8 n=some (decB n):=by
  have h: ∀i∈List.range 199,spec_l6Dec.f 8 ((i:Int)-99)=some (decB ((i:Int)-99)):=by decide+kernel
  have:=h (n+99).toNat (by simp;omega)
  rwa [show(((n+99).toNat:Nat):Int)-99=n by omega]at this
theorem l6_up (n:Int) (h0: -100<n) (h1:n<100):spec_l6Dec.f 5 n=spec_l6Dec.f 8 n:=by
  rw[l6_ok8 n h0 h1,l6_ok n h0 h1];rfl
theorem specText_f8 (k n:Int):spec_ValText.f 8 k n=some (vtext k n):=by
  rw[←specText_f k n];unfold spec_ValText.f;rw[specOk_f];by_cases h:okB k n=true
  · have hp:=okB_true.1 h
    by_cases h0:k=0
    · subst h0;rfl
    · rw[l6_up n (by unfold okP at hp;omega) (by unfold okP at hp;omega)]
  · simp only[Bool.not_eq_true]at h
    rw[h];simp
theorem addN_f (b:Bool) (out:ByteArray) (n:Int) (h0: -100<n) (h1:n<100):addN b out n=some (addS b out (decB n)):=by
  unfold addN addS;cases b with
  |false=>simp
  |true=>rw[if_pos rfl,if_pos rfl,l6_ok8 n h0 h1,Option.bind_some,if_pos (by have:=dec_size n;omega)]
theorem addV_f (b:Bool) (out:ByteArray) (k n:Int):addV b out k n=some (addS b out (vtext k n)):=by
  unfold addV addS;cases b with
  |false=>simp
  |true=>rw[if_pos rfl,if_pos rfl,specText_f8 k n,Option.bind_some,if_pos (by have:=vtext_le4 k n;omega)]
theorem otext_f (k r s t vk vn:Int):otextV.f k r s t vk vn=some (opText k r s t vk vn):=by
  unfold otextV.f opText;by_cases h:opB k r s t vk vn=true
  · have hp:=opB_true.1 h
    have hr: -100<r∧r<100∧ -100<s∧s<100∧ -100<t∧t<100:=by
      obtain⟨_,_,a,b,c,_⟩:=hp;omega
    rw[if_pos h,if_pos h,addN_f _ _ _ (by omega) (by omega),Option.bind_some,addN_f _ _ _ (by omega) (by omega),Option.bind_some,addN_f _ _ _ (by omega) (by omega),Option.bind_some,addV_f]
    rfl
  · rw[if_neg h,if_neg h]
theorem spec_OpText_any (k r s t vk vn:Int) (w:World):
    Calls Tryz.prog 29 #[.agg #[.int .i64 k,.int .i64 r,.int .i64 s,.int .i64 t,.int .i64 vk,.int .i64 vn]] w fun e w'=>e= .returned (.string (opText k r s t vk vn))∧Below w.heap.size w w':=
  spec_OpText.calls k r s t vk vn _ w (otext_f k r s t vk vn)
def opTextS (x:S39):ByteArray:=opText x.f0 x.f1 x.f2 x.f3 x.f4.f0 x.f4.f1
def lineL (x:S39):List UInt8:=(opTextS x).data.toList++ [10]
def textL (l:List S39):List UInt8:=(l.map lineL).flatten
def codeText (l:List S39):ByteArray:=if codeB l=true then⟨(textL l).toArray⟩else⟨#[]⟩
theorem opText_size (k r s t vk vn:Int):(opText k r s t vk vn).size≤30:=by
  unfold opText;split
  · rename_i h
    have h1:=add_size (hasV k) (outT k r s t) (vtext vk vn);have h2:=add_size (hasT k) (outS k r s) (decB t);have h3:=add_size (hasS k) (outR k r) (decB s);have h4:=add_size (hasR k) (nameB k) (decB r);have:=name_le k (opB_true.1 h).1;have:=dec_size r;have:=dec_size s;have:=dec_size t;have:=vtext_le4 vk vn;unfold outT outS outR at*;omega
  · exact Nat.zero_le _
theorem line_len (x:S39):(lineL x).length≤31:=by
  have:=opText_size x.f0 x.f1 x.f2 x.f3 x.f4.f0 x.f4.f1;unfold lineL opTextS;rw[List.length_append];have:(opText x.f0 x.f1 x.f2 x.f3 x.f4.f0 x.f4.f1).data.toList.length=(opText x.f0 x.f1 x.f2 x.f3 x.f4.f0 x.f4.f1).size:=by rw[Array.length_toList];rfl
  simp;omega
theorem text_len: ∀l:List S39,(textL l).length≤31*l.length
  | []=>Nat.le_refl _
  |x::l=>by
    have:=text_len l;have:=line_len x;unfold textL at*;simp only[List.map_cons,List.flatten_cons,List.length_append,List.length_cons]
    omega
theorem text_snoc (l:List S39) (i:Nat) (h:i<l.length):textL (l.take (i+1))=textL (l.take i)++lineL l[i]:=by
  unfold textL;have e:l.take (i+1)=l.take i++ [l[i]]:=by rw[List.take_succ_eq_append_getElem h]
  rw[e,List.map_append,List.flatten_append];rw[List.map_cons,List.map_nil,List.flatten_cons,List.flatten_nil,List.append_nil]
theorem builder_below {T e:TypeId} {B b:Nat} {bs:List Value} {W W':World} (h:Lib.IsBuilder T e B b bs W) (hb:Below W.heap.size W W'):Lib.IsBuilder T e B b bs W':=by
  have step: ∀p,Lib.BuilderAt T e B b p bs W→Lib.BuilderAt T e B b p bs W':=by
    rintro p ⟨h0,v,h1,⟨h2,h3⟩,h4⟩
    refine⟨h0,v,blk_below h1 hb,⟨h2,?_⟩,h4⟩
    rcases h3 with h3|⟨g,cap,cur,a1,a2,a3,a4⟩
    · exact .inl h3
    · exact .inr ⟨g,cap,cur,a1,a2,blk_below a3 hb,a4⟩
  rcases h with h|h
  · exact .inl (step _ h)
  · exact .inr (step _ h)
def BS (w W:World) (g:Nat) (l:List UInt8):Prop:=Lib.IsBuilder 52 5 w.heap.size g (Lib.byteCells l) W∧Below w.heap.size w W
theorem BS.below {w W:World} {g:Nat} {l:List UInt8} (h:BS w W g l):Below w.heap.size w W:=h.2
theorem BS.step {w W W':World} {g:Nat} {l:List UInt8} (h:BS w W g l) (hb:Below W.heap.size W W'):BS w W' g l:=⟨builder_below h.1 hb,below_step h.2 hb⟩
theorem BS.new {w W:World} (h:Below w.heap.size w W):BS w (W.alloc (.cells #[.pointer none,.slice none 0 0] 52)) W.heap.size []:=
  ⟨.inl ⟨h.size,.slice none 0 0,blk_new _ _,World.ownsRow_nil _ _ _ _,by simp[Value.ownBlock]⟩,below_alloc h _⟩
theorem BS.write {w W:World} {g:Nat} {l:List UInt8} (h:BS w W g l) (s:ByteArray) (hs:l.length+s.size≤1000000):
    Calls Tryz.prog 26 #[.pointer (some ⟨g,0,none⟩),.string s] W fun e w'=>e= .returned (.tuple #[.int .i64 s.size,.nilIface])∧BS w w' g (l++s.data.toList):=by
  refine(write_string w.heap.size g (Lib.byteCells l) s W h.1 (by rw[Lib.byteCells_length];omega) h.2.size).mono ?_
  rintro e w' ⟨rfl,h1,h2⟩
  refine⟨rfl,.inr ?_,h.2.trans h2⟩
  rwa [Lib.strCells_eq,←Lib.byteCells_append]at h1
theorem BS.say {w W:World} {g:Nat} {l:List UInt8} (h:BS w W g l):
    Calls Tryz.prog 28 #[.pointer (some ⟨g,0,none⟩)] W fun e w'=>e= .returned (.string ⟨l.toArray⟩)∧Below w.heap.size w w':=by
  refine(Tryz.Builder_String_any w.heap.size g l W h.1 h.2.size).mono ?_
  rintro e w' ⟨rfl,h2⟩
  exact⟨rfl,h.2.trans h2⟩
theorem cat10 (x:ByteArray) (hx:x.size≤1000):decide (x.size+1≤9223372036854775807)=true∧(9223372036854775807<x.size+1)=False∧(x.size+1≤9223372036854775807)=True:=
  ⟨decide_eq_true (by omega),eq_false (by omega),eq_true (by omega)⟩
theorem impl_CodeText_any (A0:Option Addr) (c0:Nat) (l0:List S39) (w:World) (hr0:Kd.C k39 w A0 l0.length l0) (hc0:l0.length≤c0) (hT:Tab w):
    Calls Tryz.prog 12 #[.slice A0 l0.length c0] w fun e w'=>e= .returned (.string (codeText l0))∧Below w.heap.size w w':=by
  have HT:=Aside0.mk hT;have HR0:=Aside0.mk hr0;clear hT;have HO:Aside0 (∀W,Below w.heap.size w W→Calls Tryz.prog 16 #[.slice A0 l0.length c0] W fun e w'=>e= .returned (.bool (codeB l0))∧Below W.heap.size W w'):=⟨fun W hW=>impl_CodeOk.calls A0 c0 l0 (codeB l0) W (Kd.C_below HR0.out hW) hc0 rfl⟩
  have HI:Aside0 (∀k r s t vk vn W,Below w.heap.size w W→Calls Tryz.prog 27 #[.agg #[.int .i64 k,.int .i64 r,.int .i64 s,.int .i64 t,.int .i64 vk,.int .i64 vn]] W fun e w'=>e= .returned (.string (opText k r s t vk vn))∧Below W.heap.size W w'):=⟨fun k r s t vk vn W hW=>impl_OpText_any k r s t vk vn W (HT.out.below hW)⟩
  have HB:=Aside0.mk (Below.refl w.heap.size w);unfold codeText;clear hr0 hc0;cases hc:codeB l0 with
  |false=>
    rw[hc]at HO
    clear hc;go_enter Tryz.func12,Tryz.ntmps12
    go_wp2_with (go_at_call 16;(with_reducible refine(HO.out _ HB.out).mono ?_);rintro e w1 ⟨rfl,hb⟩)
    go_ret
    exact⟨rfl,hb⟩
  |true=>
    have hl:l0.length≤16:=by
      unfold codeB at hc;simp only[Bool.and_eq_true,decide_eq_true_eq]at hc
      exact hc.1.2
    rw[hc]at HO
    rw[if_pos rfl];clear hc;go_enter Tryz.func12,Tryz.ntmps12
    go_upto_block 0 with (go_at_call 16;(with_reducible refine(HO.out _ HB.out).mono ?_);rintro e w1 ⟨rfl,hb⟩;replace HB:=Aside0.mk (below_step HB.out hb);clear hb)
    have HS:Aside0 (BS w (w1.alloc (.cells #[.pointer none,.slice none 0 0] 52)) w1.heap.size []):=⟨BS.new HB.out⟩;clear HO HB;revert HS
    generalize w1.alloc (.cells #[.pointer none,.slice none 0 0] 52)=w2;generalize w1.heap.size=g;intro HS;go_wp2
    go_loopg [5,11] l0.length (fun gg _ s11 wr=> ∃kk:Nat,kk≤l0.length∧l0.length-kk≤gg∧s11= .int .i64 kk∧Aside0 (BS w wr g (textL (l0.take kk))))
    case atStart=>exact⟨0,Nat.zero_le _,by omega,rfl,HS⟩
    case round=>
      clear HS;obtain⟨kk,hkk,hgg,rfl,HS⟩:=hrel;by_cases hlt:kk<l0.length
      · have hltz:(kk:Int)<(l0.length:Int):=by omega
        have h0z:0≤(kk:Int):=by omega
        obtain⟨ad,e,x0,x1,x2,x3,x4,x5⟩:=at_T39 HR0.out (kk:Int) h0z hltz;subst e;rw[Int.toNat_natCast]at x0 x1 x2 x3 x4 x5
        have BW:=Aside0.mk HS.out.below;replace x0:=(BW.out.cell (World.block_lt_of_cell? w _ x0)).trans x0;replace x1:=(BW.out.cell (World.block_lt_of_cell? w _ x1)).trans x1;replace x2:=(BW.out.cell (World.block_lt_of_cell? w _ x2)).trans x2;replace x3:=(BW.out.cell (World.block_lt_of_cell? w _ x3)).trans x3;replace x4:=(BW.out.cell (World.block_lt_of_cell? w _ x4)).trans x4;replace x5:=(BW.out.cell (World.block_lt_of_cell? w _ x5)).trans x5;have hsn:=text_snoc l0 kk hlt;rw[←rd29_at l0 kk hlt]at hsn
        have htl:(textL (l0.take kk)).length≤31*16:=Nat.le_trans (text_len _) (by rw[List.length_take];omega)
        obtain⟨y,hy0⟩: ∃y,y=rd_T39 l0 (kk:Int):=⟨_,rfl⟩;rw[←hy0]at hsn x0 x1 x2 x3 x4 x5
        clear hy0;obtain⟨P,hP⟩: ∃P,P=textL (l0.take kk):=⟨_,rfl⟩;rw[←hP]at hsn HS htl
        have HX:Aside0 (∀W,Below w.heap.size w W→Calls Tryz.prog 27 #[.agg #[.int .i64 y.f0,.int .i64 y.f1,.int .i64 y.f2,.int .i64 y.f3,.int .i64 y.f4.f0,.int .i64 y.f4.f1]] W fun e w'=>e= .returned (.string (opTextS y))∧Below W.heap.size W w'):=⟨fun W hW=>HI.out _ _ _ _ _ _ W hW⟩
        have hz:(opTextS y).size≤30:=opText_size _ _ _ _ _ _;have hln:lineL y=(opTextS y++(⟨#[10]⟩:ByteArray)).data.toList:=by unfold lineL;simp
        rw[hln]at hsn
        obtain⟨X,hX⟩: ∃X,X=opTextS y:=⟨_,rfl⟩;rw[←hX]at HX hz hsn
        obtain⟨q1,q2,q3⟩:=cat10 X (by omega)
        have HN:=Aside0.mk (show _∧_∧_ from⟨hsn,hz,htl⟩)
        have HW:Aside0 (P.length+(X++(⟨#[10]⟩:ByteArray)).size≤1000000):=⟨by rw[ByteArray.size_append,show(⟨#[10]⟩:ByteArray).size=1 from rfl];omega⟩
        clear hX hP hsn hz htl hln BW
        go_wp2_with (first
          |(go_at_call 27;(with_reducible refine(HX.out _ (below_alloc HS.out.below _)).mono ?_);rintro e w3 ⟨rfl,hb⟩;replace HS:=Aside0.mk ((HS.out.step (below_alloc (Below.refl _ _) _)).step hb);clear hb)
          |(go_at_call 26;(with_reducible refine(HS.out.write (X++⟨#[10]⟩) HW.out).mono ?_);rintro e w4 ⟨rfl,hb⟩;rw[←HN.out.1]at hb;replace HS:=Aside0.mk hb;clear hb))
        go_roundg (l0.length- (kk+1))
        case measure=>omega
        case rel=>exact⟨kk+1,by omega,by omega,by go_num,HS⟩
      · have hltz: ¬(kk:Int)<(l0.length:Int):=by omega
        have:kk=l0.length:=by omega
        subst this;rw[List.take_length]at HS
        go_wp2_with (go_at_call 28;(with_reducible refine(HS.out.say).mono ?_);rintro e w4 ⟨rfl,hb⟩)
        go_ret
        exact⟨rfl,hb⟩
def byt (l:List UInt8):ByteArray:=⟨l.toArray⟩
theorem byt_size (l:List UInt8):(byt l).size=l.length:=by unfold byt;simp[ByteArray.size]
theorem byt_app (l:List UInt8) (x y:ByteArray):(byt l++x)++y=byt (l++(x++y).data.toList):=by
  refine Go.WideShapes.bytes_inj ?_
  unfold byt;simp
theorem cat2c (o x:ByteArray) (ho:o.size≤1000) (hx:x.size≤1000):decide (o.size+x.size≤9223372036854775807)=true∧(9223372036854775807<o.size+x.size)=False∧(o.size+x.size≤9223372036854775807)=True:=
  ⟨decide_eq_true (by omega),eq_false (by omega),eq_true (by omega)⟩
theorem cat3c (o x:ByteArray) (ho:o.size≤1000) (hx:x.size≤1000):decide (o.size+x.size+1≤9223372036854775807)=true∧(9223372036854775807<o.size+x.size+1)=False∧(o.size+x.size+1≤9223372036854775807)=True:=
  ⟨decide_eq_true (by omega),eq_false (by omega),eq_true (by omega)⟩
theorem spec_CodeText_any (A0:Option Addr) (c0:Nat) (l0:List S39) (w:World) (hr0:Kd.C k39 w A0 l0.length l0) (hc0:l0.length≤c0):
    Calls Tryz.prog 13 #[.slice A0 l0.length c0] w fun e w'=>e= .returned (.string (codeText l0))∧Below w.heap.size w w':=by
  have HR0:=Aside0.mk hr0;have HO:Aside0 (∀W,Below w.heap.size w W→Calls Tryz.prog 19 #[.slice A0 l0.length c0] W fun e w'=>e= .returned (.bool (codeB l0))∧Below W.heap.size W w'):=⟨fun W hW=>spec_CodeOk_as.calls A0 c0 l0 (codeB l0) W (Kd.C_below HR0.out hW) hc0 rfl⟩
  have HB:=Aside0.mk (Below.refl w.heap.size w);unfold codeText;clear hr0 hc0;cases hc:codeB l0 with
  |false=>
    rw[hc]at HO
    clear hc;go_enter Tryz.func13,Tryz.ntmps13
    go_wp2_with (go_at_call 19;(with_reducible refine(HO.out _ HB.out).mono ?_);rintro e w1 ⟨rfl,hb⟩)
    go_ret
    exact⟨rfl,hb⟩
  |true=>
    have hl:l0.length≤16:=by
      unfold codeB at hc;simp only[Bool.and_eq_true,decide_eq_true_eq]at hc
      exact hc.1.2
    rw[hc]at HO
    rw[if_pos rfl];clear hc;go_enter Tryz.func13,Tryz.ntmps13
    go_wp2_with (go_at_call 19;(with_reducible refine(HO.out _ HB.out).mono ?_);rintro e w1 ⟨rfl,hb⟩;replace HB:=Aside0.mk (below_step HB.out hb);clear hb)
    clear HO;go_loopg [3,4] l0.length (fun gg s3 s4 wr=> ∃kk:Nat,kk≤l0.length∧l0.length-kk≤gg∧s4= .int .i64 kk∧s3= .string (byt (textL (l0.take kk)))∧Aside0 (Below w.heap.size w wr))
    case atStart=>exact⟨0,Nat.zero_le _,by omega,rfl,rfl,HB⟩
    case round=>
      clear HB;obtain⟨kk,hkk,hgg,rfl,rfl,HS⟩:=hrel;by_cases hlt:kk<l0.length
      · have hltz:(kk:Int)<(l0.length:Int):=by omega
        have h0z:0≤(kk:Int):=by omega
        obtain⟨ad,e,x0,x1,x2,x3,x4,x5⟩:=at_T39 HR0.out (kk:Int) h0z hltz;subst e;rw[Int.toNat_natCast]at x0 x1 x2 x3 x4 x5
        replace x0:=(HS.out.cell (World.block_lt_of_cell? w _ x0)).trans x0;replace x1:=(HS.out.cell (World.block_lt_of_cell? w _ x1)).trans x1;replace x2:=(HS.out.cell (World.block_lt_of_cell? w _ x2)).trans x2;replace x3:=(HS.out.cell (World.block_lt_of_cell? w _ x3)).trans x3;replace x4:=(HS.out.cell (World.block_lt_of_cell? w _ x4)).trans x4;replace x5:=(HS.out.cell (World.block_lt_of_cell? w _ x5)).trans x5;have hsn:=text_snoc l0 kk hlt;rw[←rd29_at l0 kk hlt]at hsn
        have htl:(textL (l0.take kk)).length≤31*16:=Nat.le_trans (text_len _) (by rw[List.length_take];omega)
        obtain⟨y,hy0⟩: ∃y,y=rd_T39 l0 (kk:Int):=⟨_,rfl⟩;rw[←hy0]at hsn x0 x1 x2 x3 x4 x5
        clear hy0;obtain⟨P,hP⟩: ∃P,P=textL (l0.take kk):=⟨_,rfl⟩;rw[←hP]at hsn htl⊢
        have HX:Aside0 (∀W,Calls Tryz.prog 29 #[.agg #[.int .i64 y.f0,.int .i64 y.f1,.int .i64 y.f2,.int .i64 y.f3,.int .i64 y.f4.f0,.int .i64 y.f4.f1]] W fun e w'=>e= .returned (.string (opTextS y))∧Below W.heap.size W w'):=⟨fun W=>spec_OpText_any _ _ _ _ _ _ W⟩
        have hz:(opTextS y).size≤30:=opText_size _ _ _ _ _ _;have hln:lineL y=(opTextS y++(⟨#[10]⟩:ByteArray)).data.toList:=by unfold lineL;simp
        rw[hln]at hsn
        obtain⟨X,hX⟩: ∃X,X=opTextS y:=⟨_,rfl⟩;rw[←hX]at HX hz hsn
        have hZs:(byt P).size=P.length:=byt_size P;have hZ:byt (textL (l0.take (kk+1)))=(byt P++X)++⟨#[10]⟩:=by rw[hsn,byt_app]
        obtain⟨Z,hZZ⟩: ∃Z,Z=byt P:=⟨_,rfl⟩;rw[←hZZ]at hZ hZs⊢
        obtain⟨q1,q2,q3⟩:=cat2c Z X (by omega) (by omega)
        obtain⟨q4,q5,q6⟩:=cat3c Z X (by omega) (by omega)
        have hsa:(Z++X).size=Z.size+X.size:=ByteArray.size_append;have HN:=Aside0.mk hZ;clear hX hP hsn hz htl hln hZs hZZ hZ
        go_wp2_with (first
          |(go_at_call 29;(with_reducible refine(HX.out _).mono ?_);rintro e w3 ⟨rfl,hb⟩;replace HS:=Aside0.mk (below_step HS.out hb);clear hb))
        go_roundg (l0.length- (kk+1))
        case measure=>omega
        case rel=>exact⟨kk+1,by omega,by omega,by go_num,by rw[HN.out],HS⟩
      · have hltz: ¬(kk:Int)<(l0.length:Int):=by omega
        have:kk=l0.length:=by omega
        subst this;rw[List.take_length];go_wp2
        go_ret
        exact⟨rfl,HS.out⟩
end Go.Proofs.YtmklpbmlgjkbiaaGreatDoor.PS
end
section
namespace Go.Proofs.YtmklpbmlgjkbiaaGreatDoor.PS
open Go.Proofs.YtmklpbmlgjkbiaaGreatDoor.PC Go.Proofs.YtmklpbmlgjkbiaaGreatDoor.PD Go.RowKit Go.Proofs.YtmklpbmlgjkbiaaGreatDoorW.PrintWords Go.Proofs.YtmklpbmlgjkbiaaGreatDoorW.PrintLast
def RD (w0 w:World) (g N:Nat):Prop:= ∃b p,Bytes b∧IsS86 w0 w g b p∧0≤p∧p≤(N:Int)∧Below w0.heap.size w0 w
theorem RD.step {w0 w w':World} {g N:Nat} (h:RD w0 w g N) (hb:Below w.heap.size w w'):RD w0 w' g N:=by
  obtain⟨b,p,h1,h2,h3,h4,h5⟩:=h;exact⟨b,p,h1,h2.below hb,h3,h4,below_step h5 hb⟩
theorem RD.below {w0 w:World} {g N:Nat} (h:RD w0 w g N):Below w0.heap.size w0 w:=by
  obtain⟨b,p,h1,h2,h3,h4,h5⟩:=h;exact h5
theorem RD.alloc {w0 w:World} {g N:Nat} (h:RD w0 w g N) (o:Obj):RD w0 (w.alloc o) g N:=h.step (below_alloc (Below.refl _ _) o)
theorem RD.drew {w0 w:World} {g N:Nat} (h:RD w0 w g N):RD w0 w.drew g N:=h.step (below_drew1 (Below.refl _ _))
theorem RD.drewN {w0 w:World} {g N:Nat} (h:RD w0 w g N) (n:Nat):RD w0 (w.drewN n) g N:=h.step (pw_below_drewN (Below.refl _ _) n)
theorem RD.lt {w0 w:World} {g N:Nat} (h:RD w0 w g N):g<w.heap.size:=by
  obtain⟨b,p,h1,h2,h3,h4,h5⟩:=h;exact h2.lt
theorem open_ok {l:List Int} (hw: ∀x∈l,(Lit.int .u8 x).wf=true): ∃b,spec_l6Open.f l=some (b,0)∧Bytes b:=by
  have hb: ∀x∈l,0≤x∧x≤255:=fun x hx=>by
    have:=hw x hx;simp[Lit.wf,IntKind.min,IntKind.max,IntKind.signed,IntKind.bits]at this
    omega
  unfold spec_l6Open.f;by_cases h:(l.length:Int)>2000
  · rw[if_pos h,if_pos (by omega)]
    exact⟨_,rfl,by simp;omega,fun x hx=>hb x (List.mem_of_mem_take hx)⟩
  · rw[if_neg h]
    exact⟨_,rfl,by omega,hb⟩
end Go.Proofs.YtmklpbmlgjkbiaaGreatDoor.PS
end
section
namespace Go.Proofs.YtmklpbmlgjkbiaaGreatDoor.PS
open Go.RowKit Go.Proofs.YtmklpbmlgjkbiaaGreatDoorW.PrintWords Go.Proofs.YtmklpbmlgjkbiaaGreatDoorW.PrintLast
theorem okAll {P:Int→Int→Prop} (h0:P 0 0) (h1: ∀i∈List.range 199,P 1 ((i:Int)-99)) (h2: ∀i∈List.range 10,P 2 (i:Int)) (h3: ∀i∈List.range 6,P 3 ((i:Int)+1)) (k n:Int) (h:okP k n):P k n:=by
  rcases h with ⟨rfl,rfl⟩|⟨rfl,a,b⟩|⟨rfl,a,b⟩|⟨rfl,a,b⟩
  · exact h0
  · have:=h1 (n+99).toNat (by simp;omega)
    rwa [show(((n+99).toNat:Nat):Int)-99=n by omega]at this
  · have:=h2 n.toNat (by simp;omega)
    rwa [show((n.toNat:Nat):Int)=n by omega]at this
  · have:=h3 (n-1).toNat (by simp;omega)
    rwa [show(((n-1).toNat:Nat):Int)+1=n by omega]at this
def decL:List UInt8→Int
  | [45,a]=> -((a.toNat:Int)-48)
  | [45,a,b]=> -(((a.toNat:Int)-48)*10+((b.toNat:Int)-48))
  | [a]=>(a.toNat:Int)-48
  | [a,b]=>((a.toNat:Int)-48)*10+((b.toNat:Int)-48)
  |_=>0
def backL:List UInt8→Int×Int
  | [110,111,110,101]=>(0,0)
  |110::r=>(1,decL r)
  |97::r=>(2,decL r)
  |114::r=>(3,decL r)
  |_=>(4,0)
theorem back_ok (k n:Int) (h:okP k n):backL (vtext k n).data.toList=(k,n):=
  okAll (P:=fun k n=>backL (vtext k n).data.toList=(k,n)) (by decide+kernel) (by decide+kernel) (by decide+kernel) (by decide+kernel) k n h
theorem vtext_size (k n:Int) (h:okP k n):2≤(vtext k n).data.toList.length∧(vtext k n).data.toList.length≤4:=
  okAll (P:=fun k n=>2≤(vtext k n).data.toList.length∧(vtext k n).data.toList.length≤4) (by decide+kernel) (by decide+kernel) (by decide+kernel) (by decide+kernel) k n h
theorem toListD (b:ByteArray):b.toList=b.data.toList:=ByteArray.toList_eq b
def segL (b:Bool) (l:List UInt8):List UInt8:=if b=true then 32::l else []
def nameS (k:Int):List UInt8:=(nameB k).data.toList
def vtextS (k n:Int):List UInt8:=(vtext k n).data.toList
def optL (k r s t vk vn:Int):List UInt8:=nameS k++(segL (hasR k) (itoaS r)++(segL (hasS k) (itoaS s)++(segL (hasT k) (itoaS t)++segL (hasV k) (vtextS vk vn))))
theorem addS_list (b:Bool) (o x:ByteArray):(addS b o x).data.toList=o.data.toList++segL b x.data.toList:=by
  unfold addS segL;cases b with
  |false=>simp
  |true=>simp
theorem opText_list {k r s t vk vn:Int} (h:opB k r s t vk vn=true):(opText k r s t vk vn).data.toList=optL k r s t vk vn:=by
  unfold opText optL;rw[if_pos h,addS_list];unfold outT outS outR decB nameS vtextS;rw[addS_list,addS_list,addS_list];simp[List.append_assoc]
theorem itoa_facts (n:Int) (h0: -100<n) (h1:n<100):32∉itoaS n∧decL (itoaS n)=n:=by
  have h: ∀i∈List.range 199,32∉itoaS ((i:Int)-99)∧decL (itoaS ((i:Int)-99))=((i:Int)-99):=by decide+kernel
  have:=h (n+99).toNat (by simp;omega)
  rwa [show(((n+99).toNat:Nat):Int)-99=n by omega]at this
def kindL:List UInt8→Int
  | [115,101,116]=>1
  | [109,111,118,101]=>2
  | [97,100,100]=>3
  | [115,101,108,102]=>4
  | [98,101,103,105,110]=>5
  | [115,101,110,100]=>6
  | [116,97,107,101]=>7
  | [97,102,116,101,114]=>8
  | [103,111]=>9
  | [105,102]=>10
  | [108,105,110,107]=>11
  | [119,97,116,99,104]=>12
  | [116,114,97,112]=>13
  |_=>14
theorem name_facts (k:Int) (h:1≤k∧k≤14):(32∉nameS k∧nameS k≠ [])∧kindL (nameS k)=k:=by
  revert k;refine fun k=>kinds (P:=fun k=>1≤k∧k≤14→(32∉nameS k∧nameS k≠ [])∧kindL (nameS k)=k) (fun k hk h=>absurd h hk) ?_ ?_ ?_ ?_ ?_ ?_ ?_ ?_ ?_ ?_ ?_ ?_ ?_ ?_ k<;>exact fun _=>by decide
def Hd (x:List UInt8):Prop:=x=[]∨ ∃z,x=32::z
theorem hd_seg (b:Bool) (l x:List UInt8) (h:Hd x):Hd (segL b l++x):=by
  unfold segL;cases b with
  |false=>simpa using h
  |true=>exact .inr ⟨l++x,by simp⟩
theorem hd_seg0 (b:Bool) (l:List UInt8):Hd (segL b l):=by
  unfold segL;cases b with
  |false=>exact .inl (by simp)
  |true=>exact .inr ⟨l,by simp⟩
theorem cut_word: ∀ {a b x y:List UInt8},32∉a→32∉b→Hd x→Hd y→a++x=b++y→a=b∧x=y
  | [],[],_,_,_,_,_,_,h=>⟨rfl,h⟩
  | [],c::b,x,y,_,hb,hx,_,h=>by
    rcases hx with rfl|⟨z,rfl⟩
    · simp at h
    · simp at h;exact absurd (List.mem_cons.2 (.inl h.1)) hb
  |c::a,[],x,y,ha,_,_,hy,h=>by
    rcases hy with rfl|⟨z,rfl⟩
    · simp at h
    · simp at h;exact absurd (List.mem_cons.2 (.inl h.1.symm)) ha
  |c::a,d::b,x,y,ha,hb,hx,hy,h=>by
    simp only[List.cons_append,List.cons.injEq]at h
    obtain⟨e1,e2⟩:=cut_word (fun m=>ha (List.mem_cons_of_mem _ m)) (fun m=>hb (List.mem_cons_of_mem _ m)) hx hy h.2
    exact⟨by rw[h.1,e1],e2⟩
theorem seg_cut {b:Bool} {n m:Int} {x y:List UInt8} (hn: -100<n∧n<100) (hm: -100<m∧m<100) (h0:b=false→n=0∧m=0) (hx:Hd x) (hy:Hd y) (h:segL b (itoaS n)++x=segL b (itoaS m)++y):n=m∧x=y:=by
  cases b with
  |false=>exact⟨(h0 rfl).1.trans (h0 rfl).2.symm,by simpa[segL]using h⟩
  |true=>
    simp only[segL,if_true,List.cons_append,List.cons.injEq,true_and]at h
    obtain⟨e1,e2⟩:=cut_word (itoa_facts n hn.1 hn.2).1 (itoa_facts m hm.1 hm.2).1 hx hy h;have:=congrArg decL e1;rw[(itoa_facts n hn.1 hn.2).2,(itoa_facts m hm.1 hm.2).2]at this
    exact⟨this,e2⟩
theorem optL_one {k r s t vk vn k' r' s' t' vk' vn':Int} (h:opP k r s t vk vn) (h':opP k' r' s' t' vk' vn') (e:optL k r s t vk vn=optL k' r' s' t' vk' vn'):
    k=k'∧r=r'∧s=s'∧t=t'∧vk=vk'∧vn=vn':=by
  obtain⟨hk,hv,hr,hs,ht,hvv⟩:=h;obtain⟨hk',hv',hr',hs',ht',hvv'⟩:=h';unfold optL at e;obtain⟨e0,e1⟩:=cut_word (name_facts k hk).1.1 (name_facts k' hk').1.1 (hd_seg _ _ _ (hd_seg _ _ _ (hd_seg _ _ _ (hd_seg0 _ _)))) (hd_seg _ _ _ (hd_seg _ _ _ (hd_seg _ _ _ (hd_seg0 _ _)))) e;have ek:=congrArg kindL e0;rw[(name_facts k hk).2,(name_facts k' hk').2]at ek
  subst ek;obtain⟨f1,e2⟩:=seg_cut (by omega) (by omega) (fun hb=>by simp only[hb,Bool.false_eq_true,false_and,or_false]at hr hr';exact⟨hr,hr'⟩) (hd_seg _ _ _ (hd_seg _ _ _ (hd_seg0 _ _))) (hd_seg _ _ _ (hd_seg _ _ _ (hd_seg0 _ _))) e1
  obtain⟨f2,e3⟩:=seg_cut (by omega) (by omega) (fun hb=>by simp only[hb,Bool.false_eq_true,false_and,or_false]at hs hs';exact⟨hs,hs'⟩) (hd_seg _ _ _ (hd_seg0 _ _)) (hd_seg _ _ _ (hd_seg0 _ _)) e2
  obtain⟨f3,e4⟩:=seg_cut (by omega) (by omega) (fun hb=>by simp only[hb,Bool.false_eq_true,false_and,or_false]at ht ht';exact⟨ht,ht'⟩) (hd_seg0 _ _) (hd_seg0 _ _) e3
  refine⟨rfl,f1,f2,f3,?_⟩
  cases hb:hasV k with
  |false=>
    simp only[hb,Bool.false_eq_true,false_or]at hvv hvv'
    exact⟨hvv.1.trans hvv'.1.symm,hvv.2.trans hvv'.2.symm⟩
  |true=>
    rw[hb]at e4
    simp only[segL,if_true,List.cons.injEq,true_and]at e4
    have:=congrArg backL e4;unfold vtextS at this;rw[back_ok _ _ hv.1,back_ok _ _ hv'.1]at this
    injection this with g1 g2
    exact⟨g1,g2⟩
def byL (l:List UInt8):ByteArray:=⟨l.toArray⟩
theorem byL_data (b:ByteArray):byL b.data.toList=b:=by refine Go.WideShapes.bytes_inj ?_;unfold byL;simp
theorem idx_miss: ∀a:List UInt8,32∉a→Lib.index a [32]= -1
  | [],_=>by simp[Lib.index]
  |b::l,h=>by
    have h1: ¬(32=b):=fun e=>h (by rw[e];exact List.mem_cons_self)
    have h2:=idx_miss l (fun m=>h (List.mem_cons_of_mem _ m))
    unfold Lib.index;simp[h1,h2]
theorem idx_hit: ∀ (a z:List UInt8),32∉a→Lib.index (a++32::z) [32]=a.length
  | [],z,_=>by simp[Lib.index]
  |b::l,z,h=>by
    have h1: ¬(32=b):=fun e=>h (by rw[e];exact List.mem_cons_self)
    have h2:=idx_hit l z (fun m=>h (List.mem_cons_of_mem _ m))
    have h3:((l.length:Int)== -1)=false:=by rw[beq_eq_false_iff_ne];omega
    rw[List.cons_append];unfold Lib.index;rw[h2,h3];simp[h1]
def piecesB (t:ByteArray):List ByteArray:=Lib.splitB ⟨#[32]⟩ 0 (Lib.countB t ⟨#[32]⟩) t
theorem pieces_last (l:List UInt8) (h:32∉l):piecesB (byL l)=[byL l]:=by
  unfold piecesB;exact Lib.splitB_miss _ _ _ _ (by show Lib.index (byL l).data.toList [32]= -1;exact idx_miss _ (by simpa[byL]using h))
theorem pieces_cons (a z:List UInt8) (ha:32∉a):piecesB (byL (a++32::z))=byL a::piecesB (byL z):=by
  have hi:Lib.index (byL (a++32::z)).data.toList (⟨#[32]⟩:ByteArray).data.toList=((a.length:Nat):Int):=by
    show Lib.index (a++32::z) [32]=_
    exact idx_hit a z ha
  have e1:(byL (a++32::z)).extract (a.length+(⟨#[32]⟩:ByteArray).size) (byL (a++32::z)).size=byL z:=by
    refine Go.WideShapes.bytes_inj ?_
    rw[show(⟨#[32]⟩:ByteArray).size=1 from rfl]
    simp[byL,ByteArray.data_extract,ByteArray.size]
    exact List.take_of_length_le (by omega)
  have e2:(byL (a++32::z)).extract 0 (a.length+0)=byL a:=by
    refine Go.WideShapes.bytes_inj ?_
    simp[byL,ByteArray.data_extract]
  unfold piecesB;rw[Lib.countB_hit _ _ a.length (by decide) hi,Nat.add_comm 1,Lib.splitB_hit _ _ _ _ a.length hi,e1,e2]
def joinL:List UInt8→List (List UInt8)→List UInt8
  |w,[]=>w
  |w,v::ws=>w++32::joinL v ws
theorem pieces_join: ∀ (ws:List (List UInt8)) (w:List UInt8),32∉w→(∀v∈ws,32∉v)→piecesB (byL (joinL w ws))=byL w::ws.map byL
  | [],w,h,_=>pieces_last w h
  |v::ws,w,h,hs=>by
    show piecesB (byL (w++32::joinL v ws))=_
    rw[pieces_cons _ _ h,pieces_join ws v (hs v List.mem_cons_self) (fun x hx=>hs x (List.mem_cons_of_mem _ hx))]
    rfl
def sg {α:Type} (b:Bool) (x:α):List α:=if b=true then [x]else []
def wordsL (k r s t vk vn:Int):List (List UInt8):=sg (hasR k) (itoaS r)++(sg (hasS k) (itoaS s)++(sg (hasT k) (itoaS t)++sg (hasV k) (vtextS vk vn)))
theorem optL_join (k r s t vk vn:Int):optL k r s t vk vn=joinL (nameS k) (wordsL k r s t vk vn):=by
  unfold optL wordsL;cases hasR k<;>cases hasS k<;>cases hasT k<;>cases hasV k<;>simp[sg,segL,joinL]
theorem vtext_blank (vk vn:Int) (h:okP vk vn):32∉vtextS vk vn:=
  okAll (P:=fun k n=>32∉vtextS k n) (by decide+kernel) (by decide+kernel) (by decide+kernel) (by decide+kernel) vk vn h
theorem words_blank {k r s t vk vn:Int} (h:opP k r s t vk vn): ∀v∈wordsL k r s t vk vn,32∉v:=by
  obtain⟨hk,hv,hr,hs,ht,hvv⟩:=h;intro v hm;unfold wordsL at hm;simp only[List.mem_append]at hm
  have one: ∀ {b:Bool} {x:List UInt8},32∉x→v∈sg b x→32∉v:=by
    intro b x hx hv;unfold sg at hv;split at hv
    · rw[List.mem_singleton]at hv;rwa [hv]
    · cases hv
  rcases hm with hm|hm|hm|hm
  · exact one (itoa_facts r (by omega) (by omega)).1 hm
  · exact one (itoa_facts s (by omega) (by omega)).1 hm
  · exact one (itoa_facts t (by omega) (by omega)).1 hm
  · exact one (vtext_blank vk vn hv.1) hm
def wordsB (k r s t vk vn:Int):List ByteArray:=nameB k::(sg (hasR k) (decB r)++(sg (hasS k) (decB s)++(sg (hasT k) (decB t)++sg (hasV k) (vtext vk vn))))
theorem pieces_text {k r s t vk vn:Int} (h:opB k r s t vk vn=true):piecesB (opText k r s t vk vn)=wordsB k r s t vk vn:=by
  have hp:=opB_true.1 h
  have e:opText k r s t vk vn=byL (joinL (nameS k) (wordsL k r s t vk vn)):=by
    rw[←optL_join,←opText_list h,byL_data]
  rw[e,pieces_join _ _ (name_facts k hp.1).1.1 (words_blank hp)];unfold wordsB wordsL
  have hs: ∀ {b:Bool} {x:List UInt8} {y:ByteArray},byL x=y→(sg b x).map byL=sg b y:=by
    intro b x y e;subst e;cases b<;>simp[sg]
  have e1:byL (nameS k)=nameB k:=byL_data _;have e2:byL (vtextS vk vn)=vtext vk vn:=byL_data _;rw[List.map_append,List.map_append,List.map_append,hs (y:=decB r) rfl,hs (y:=decB s) rfl,hs (y:=decB t) rfl,hs e2,e1]
theorem opText_le {k r s t vk vn:Int} :(opText k r s t vk vn).size≤24:=by
  unfold opText;split
  · rename_i h
    have h1:=add_size (hasV k) (outT k r s t) (vtext vk vn);have h2:=add_size (hasT k) (outS k r s) (decB t);have h3:=add_size (hasS k) (outR k r) (decB s);have h4:=add_size (hasR k) (nameB k) (decB r);have:=name_le k (opB_true.1 h).1;have:=dec_size r;have:=dec_size s;have:=dec_size t;have:=vtext_le4 vk vn;unfold outT outS outR at*;have hp:=opB_true.1 h
    have one: ∀n:Int,0≤n→n≤15→(decB n).size≤2:=fun n a b=>by
      have h: ∀i∈List.range 16,(decB (i:Int)).size≤2:=by decide+kernel
      have:=h n.toNat (by simp;omega)
      rwa [show((n.toNat:Nat):Int)=n by omega]at this
    have:=one r (by have:=hp.2.2.1;omega) (by have:=hp.2.2.1;omega)
    have:=one s (by have:=hp.2.2.2.1;omega) (by have:=hp.2.2.2.1;omega)
    have:=one t (by have:=hp.2.2.2.2.1;omega) (by have:=hp.2.2.2.2.1;omega)
    omega
  · exact Nat.zero_le _
def Reads (x:ByteArray) (k r s t vk vn:Int) (ok:Bool):Prop:=
  (ok=true∧opB k r s t vk vn=true∧opText k r s t vk vn=x)∨(ok=false∧(k=0∧r=0∧s=0∧t=0∧vk=0∧vn=0)∧ ∀a b c d f g:Int,opB a b c d f g=true→opText a b c d f g≠x)
theorem reads_one {x:ByteArray} {k r s t vk vn k' r' s' t' vk' vn':Int} {ok ok':Bool} (h:Reads x k r s t vk vn ok) (h':Reads x k' r' s' t' vk' vn' ok'):
    k=k'∧r=r'∧s=s'∧t=t'∧vk=vk'∧vn=vn'∧ok=ok':=by
  rcases h with ⟨rfl,h1,h2⟩|⟨rfl,⟨rfl,rfl,rfl,rfl,rfl,rfl⟩,h2⟩<;>rcases h' with ⟨rfl,g1,g2⟩|⟨rfl,⟨rfl,rfl,rfl,rfl,rfl,rfl⟩,g2⟩
  · have e:optL k r s t vk vn=optL k' r' s' t' vk' vn':=by rw[←opText_list h1,←opText_list g1,h2,g2]
    obtain⟨a,b,c,d,f,g⟩:=optL_one (opB_true.1 h1) (opB_true.1 g1) e;exact⟨a,b,c,d,f,g,rfl⟩
  · exact absurd h2 (g2 _ _ _ _ _ _ h1)
  · exact absurd g2 (h2 _ _ _ _ _ _ g1)
  · exact⟨rfl,rfl,rfl,rfl,rfl,rfl,rfl⟩
def aggM (x:S77):Value:=.agg #[.string x.f0,.string x.f1,.string x.f2,.bool x.f3]
theorem match_any (x0 x1 x2:ByteArray) (x3:Bool) (B g:Nat) (n c:Nat) (p:ByteArray) (w:World) (hB:w.heap[B]?=some (.cells #[.slice (some ⟨g,0,none⟩) n c] 34 (0,0))) (hp:w.cell? ⟨g,0,none⟩=some (.string p)) (hn:1≤n):
    Calls Tryz.prog 49 #[.agg #[.string x0,.string x1,.string x2,.bool x3],.pointer (some ⟨B,0,none⟩)] w fun e w'=>e= .returned (.bool (x0.toList==p.toList))∧Below w.heap.size w w':=by
  have lB:=blk_lt hB;have hb0:(w.alloc (.cells #[.string x0,.string x1,.string x2,.bool x3] 77)).cell? ⟨B,0,none⟩=some (.slice (some ⟨g,0,none⟩) n c):=(blk_cell (blk_alloc hB _) 0).trans rfl;have hp0:(w.alloc (.cells #[.string x0,.string x1,.string x2,.bool x3] 77)).cell? ⟨g,0,none⟩=some (.string p):=((below_alloc (Below.refl _ _) _).cell (World.block_lt_of_cell? w _ hp)).trans hp;have HB:=Aside0.mk (below_alloc (Below.refl w.heap.size w) (.cells #[.string x0,.string x1,.string x2,.bool x3] 77));have hnz:(0:Int)<(n:Int):=by omega
  clear hB hp;go_enter Tryz.func49,Tryz.ntmps49
  go_upto_region 1 with (fail)
  go_quiet (fail)
  go_wp2
  go_ret
  exact⟨rfl,pw_below_drewN HB.out _⟩
def FirstAt (p:S77→Bool) (l:List S77) (i:Int):Prop:=(∃kk:Nat,kk<l.length∧i=kk∧p (rd_T77 l (kk:Nat))=true)∨(i= -1∧ ∀kk:Nat,kk<l.length→p (rd_T77 l (kk:Nat))=false)
theorem index_man (p:S77→Bool) (g:Nat) (lb:Array Value) (eg: ∀args w,(callFunc g args).run Tryz.prog w= .ok (.enter g args) w) (A0:Option Addr) (c0:Nat) (l0:List S77) (w:World)
    (hr0:Kd.C k77 w A0 l0.length l0) (hl:l0.length≤16)
    (hp: ∀ (W:World) (x:S77),Below w.heap.size w W→Calls Tryz.prog g (#[aggM x]++lb) W fun e w'=>e= .returned (.bool (p x))∧Below w.heap.size w w'):
    Calls Tryz.prog 47 #[.slice A0 l0.length c0,.func (.func g) #[] lb] w fun e w'=> ∃i,e= .returned (.int .i64 i)∧FirstAt p l0 i∧Below w.heap.size w w':=by
  have HR0:=Aside0.mk hr0;clear hr0;go_enter Tryz.func47,Tryz.ntmps47
  go_wp2
  go_loopg [5,8] l0.length (fun gg _ s8 wr=> ∃kk:Nat,kk≤l0.length∧l0.length-kk≤gg∧s8= .int .i64 kk∧Aside (Below w.heap.size w wr)∧Aside (∀j,j<kk→p (rd_T77 l0 (j:Nat))=false))
  case atStart=>exact⟨0,Nat.zero_le _,by omega,rfl,Below.refl _ w,fun j hj=>absurd hj (Nat.not_lt_zero _)⟩
  case round=>
    obtain⟨kk,hkk,hgg,rfl,BW,A⟩:=hrel;by_cases hlt:kk<l0.length
    · have hltz:(kk:Int)<(l0.length:Int):=by omega
      have h0z:0≤(kk:Int):=by omega
      obtain⟨ad,e,x0,x1,x2,x3⟩:=at_T77 HR0.out (kk:Int) h0z hltz;subst e;rw[Int.toNat_natCast]at x0 x1 x2 x3
      replace x0:=(BW.out.cell (World.block_lt_of_cell? w _ x0)).trans x0;replace x1:=(BW.out.cell (World.block_lt_of_cell? w _ x1)).trans x1;replace x2:=(BW.out.cell (World.block_lt_of_cell? w _ x2)).trans x2;replace x3:=(BW.out.cell (World.block_lt_of_cell? w _ x3)).trans x3;have hcall:=hp wr (rd_T77 l0 (kk:Int)) BW.out;unfold aggM at hcall;clear hp;obtain⟨y,hy0⟩: ∃y,y=rd_T77 l0 (kk:Int):=⟨_,rfl⟩;rw[←hy0]at hcall x0 x1 x2 x3
      have hy:=Aside0.mk hy0;clear hy0;cases hq:p y with
      |true=>
        rw[hq]at hcall
        go_wp2_with (go_at_fn g;refine hcall.mono ?_;rintro e w' ⟨rfl,hb'⟩)
        go_ret
        exact⟨_,rfl,.inl ⟨kk,hlt,rfl,by rw[←hy.out];exact hq⟩,hb'⟩
      |false=>
        rw[hq]at hcall
        go_wp2_with (go_at_fn g;refine hcall.mono ?_;rintro e w' ⟨rfl,hb'⟩)
        go_roundg (l0.length- (kk+1))
        case measure=>omega
        case rel=>
          refine⟨kk+1,by omega,by omega,by go_num,hb',(show Aside _ from fun j hj=> ?_)⟩
          by_cases e:j=kk
          · subst e
            rw[←hy.out];exact hq
          · exact A.out j (by omega)
    · have hltz: ¬(kk:Int)<(l0.length:Int):=by omega
      have:kk=l0.length:=by omega
      subst this;go_wp2
      go_ret
      exact⟨_,rfl,.inr ⟨rfl,A.out⟩,BW.out⟩
theorem manners_C {w w':World} {g:Nat} (h:IsManners w w' g):Kd.C k77 w' (some ⟨g,0,none⟩) mannersL.length mannersL:=by
  refine⟨rfl,by decide,fun _=>⟨_,rfl,fun j y hy=> ?_⟩⟩
  have hj:j<15:=by
    have:=(List.getElem?_eq_some_iff.1 hy).1;exact this
  have hc:=h.2.2
  have one: ∀ (o:Nat) (a b c d:Value),(∀i:Nat,i<4→(cellsOf mannersL)[o+i]?= #[a,b,c,d][i]?)→ ∀ (i:Nat) (u:Value),[a,b,c,d][i]?=some u→w'.cell? ((⟨g,0,none⟩:Addr).add (o+i))=some u:=by
    intro o a b c d h i u hi
    have h4:i<4:=by
      have:=(List.getElem?_eq_some_iff.1 hi).1;exact this
    have e:(⟨g,0,none⟩:Addr).add (o+i)=⟨g,o+i,none⟩:=by simp[Addr.add];intro h1 h2;omega
    rw[e,hc,h i h4,←hi];exact List.getElem?_toArray
  have hj':j=0∨j=1∨j=2∨j=3∨j=4∨j=5∨j=6∨j=7∨j=8∨j=9∨j=10∨j=11∨j=12∨j=13∨j=14:=by omega
  have lt4: ∀ {P:Nat→Prop},P 0→P 1→P 2→P 3→ ∀i:Nat,i<4→P i:=by
    intro P h0 h1 h2 h3 i hi;have:i=0∨i=1∨i=2∨i=3:=by omega
    rcases this with rfl|rfl|rfl|rfl<;>assumption
  rcases hj' with rfl|rfl|rfl|rfl|rfl|rfl|rfl|rfl|rfl|rfl|rfl|rfl|rfl|rfl|rfl<;>
    (obtain rfl:=Option.some.inj hy
     exact⟨_,rfl,k77_mk w' _,one _ _ _ _ _ (lt4 rfl rfl rfl rfl)⟩)
theorem first_name {p:ByteArray} {i:Int} (h:FirstAt (fun x=>x.f0.toList==p.toList) mannersL i):(-1≤i∧i≤14)∧ ∀k,1≤k∧k≤14→(mannersL.getD k.toNat z77).f0=p→i=k:=by
  rcases h with ⟨kk,hk,rfl,hp⟩|⟨rfl,hn⟩
  · have hk:kk<15:=hk
    refine⟨by omega,fun k hk1 e=> ?_⟩
    have e2:(rd_T77 mannersL (kk:Nat)).f0=p:=by
      simp only[beq_iff_eq]at hp
      rw[toListD,toListD]at hp
      exact Go.WideShapes.bytes_inj hp
    have h: ∀a∈List.range 15,∀b∈List.range 15,(mannersL.getD a z77).f0=(mannersL.getD b z77).f0→a=b:=by decide+kernel
    have:=h kk (by simp;omega) k.toNat (by simp;omega) (by rw[e,←e2];unfold rd_T77;rw[Int.toNat_natCast])
    omega
  · refine⟨by omega,fun k hk1 e=> ?_⟩
    have:=hn k.toNat (by show _<15;omega)
    have:((mannersL.getD k.toNat z77).f0.toList==p.toList)=false:=this;rw[e]at this
    simp at this
def readV (s:ByteArray):Int×Int×Bool:=
  if okB (backL s.data.toList).1 (backL s.data.toList).2=true∧vtext (backL s.data.toList).1 (backL s.data.toList).2=s then((backL s.data.toList).1,(backL s.data.toList).2,true)else(0,0,false)
theorem readV_text (k n:Int) (h:okP k n):readV (vtext k n)=(k,n,true):=by
  unfold readV;rw[back_ok k n h,if_pos ⟨okB_true.2 h,rfl⟩]
theorem readV_no {s:ByteArray} (h: ∀k n,okP k n→vtext k n≠s):readV s=(0,0,false):=by
  unfold readV;rw[if_neg];rintro⟨h1,h2⟩
  exact h _ _ (okB_true.1 h1) h2
theorem atoi_back (n:Int) (h0: -100<n) (h1:n<100):Lib.atoiAll (itoaS n)= .ok n:=by
  have h: ∀i∈List.range 199,Lib.atoiAll (itoaS ((i:Int)-99))= .ok ((i:Int)-99):=by decide+kernel
  have:=h (n+99).toNat (by simp;omega)
  rwa [show(((n+99).toNat:Nat):Int)-99=n by omega]at this
def Errs (w:World):Prop:=(∃te pe,w.cell? ⟨1,0,none⟩=some (.iface te pe))∧(∃te pe,w.cell? ⟨2,0,none⟩=some (.iface te pe))∧8≤w.heap.size
theorem Errs.below {w w':World} (h:Errs w) (hb:Below w.heap.size w w'):Errs w':=by
  obtain⟨⟨a,b,h0⟩,⟨c,d,h1⟩,h2⟩:=h;exact⟨⟨a,b,(hb.cell (p:=⟨1,0,none⟩) (by show 1<_;omega)).trans h0⟩,⟨c,d,(hb.cell (p:=⟨2,0,none⟩) (by show 2<_;omega)).trans h1⟩,Nat.le_trans h2 hb.size⟩
theorem atoi_yes (t:ByteArray) (v:Int) (w:World) (ht:t.size≤1048576) (h:Lib.atoiAll t.data.toList= .ok v):
    Calls Tryz.prog 52 #[.string t] w fun e w'=>e= .returned (.tuple #[.int .i64 v,.nilIface])∧Below w.heap.size w w':=by
  refine(Tryz.strconv_Atoi_ok t (by omega) v h w).mono ?_
  rintro e w' ⟨rfl,rfl|⟨t',rfl⟩⟩
  · exact⟨rfl,Below.refl _ _⟩
  · exact⟨rfl,Lib.bytesWorld_below _ _ _⟩
def NoNum (w:World) (e:Ending) (w':World):Prop:= ∃ (v:Int) (N:Nat),e= .returned (.tuple #[.int .i64 v,.iface 107 (.pointer (some ⟨N,0,none⟩))])∧Below w.heap.size w w'
theorem atoi_no (t:ByteArray) (w:World) (ht:t.size≤1048576) (hE:Errs w) (h: ∀v,Lib.atoiAll t.data.toList≠ .ok v):Calls Tryz.prog 52 #[.string t] w (NoNum w):=by
  obtain⟨⟨a,b,h0⟩,⟨c,d,h1⟩,h2⟩:=hE;cases hq:Lib.atoiAll t.data.toList
  · exact absurd hq (h _)
  · refine(Any.strconv_Atoi_syntax Tryz.laysC172 t (by omega) hq _ w h0 (.inr ⟨a,b,rfl⟩)).mono ?_
    rintro e w' ⟨N,rfl, -, -,hb⟩
    exact⟨_,N,rfl,hb⟩
  · refine(Any.strconv_Atoi_range Tryz.laysC172 t (by omega) hq _ w h1 (.inr ⟨c,d,rfl⟩)).mono ?_
    rintro e w' ⟨N,rfl, -, -,hb⟩
    exact⟨_,N,rfl,hb⟩
def formC (k:Int):List UInt8:=sg (hasR k) 82++(sg (hasS k) 83++(sg (hasT k) 84++sg (hasV k) 86))
def fieldW (r s t vk vn:Int) (c:UInt8):ByteArray:=if c=82 then decB r else if c=83 then decB s else if c=84 then decB t else vtext vk vn
theorem words_form (k r s t vk vn:Int):wordsB k r s t vk vn=nameB k::(formC k).map (fieldW r s t vk vn):=by
  unfold wordsB formC;cases hasR k<;>cases hasS k<;>cases hasT k<;>cases hasV k<;>simp[sg,fieldW]
theorem form_how (k:Int):(howR k).f1.data.toList=if 1≤k∧k≤14 then formC k else []:=by
  revert k;refine fun k=>kinds (P:=fun k=>(howR k).f1.data.toList=if 1≤k∧k≤14 then formC k else []) (fun k hk=>by unfold howR;rw[if_neg hk,if_neg hk];decide) ?_ ?_ ?_ ?_ ?_ ?_ ?_ ?_ ?_ ?_ ?_ ?_ ?_ ?_ k<;>decide
theorem form_mem {k:Int} {c:UInt8} (h:c∈formC k):c=82∨c=83∨c=84∨c=86:=by
  unfold formC at h;simp only[List.mem_append]at h
  have one: ∀ {b:Bool} {d:UInt8},c∈sg b d→c=d:=by
    intro b d h;unfold sg at h;split at h
    · exact List.mem_singleton.1 h
    · cases h
  rcases h with h|h|h|h
  · exact .inl (one h)
  · exact .inr (.inl (one h))
  · exact .inr (.inr (.inl (one h)))
  · exact .inr (.inr (.inr (one h)))
theorem how_mem {k:Int} {c:UInt8} (h:c∈(howR k).f1.data.toList):c=82∨c=83∨c=84∨c=86:=by
  rw[form_how]at h
  split at h
  · exact form_mem h
  · cases h
theorem form_has (k:Int):(82∈formC k ↔ hasR k=true)∧(83∈formC k ↔ hasS k=true)∧(84∈formC k ↔ hasT k=true)∧(86∈formC k ↔ hasV k=true):=by
  unfold formC;cases hasR k<;>cases hasS k<;>cases hasT k<;>cases hasV k<;>simp[sg]
def Inv (x:ByteArray) (n:Nat) (k r s t vk vn:Int):Prop:=
  ∀k0 r0 s0 t0 a0 b0:Int,opB k0 r0 s0 t0 a0 b0=true→opText k0 r0 s0 t0 a0 b0=x→
    k=k0∧(r=if 82∈(formC k0).take n then r0 else 0)∧(s=if 83∈(formC k0).take n then s0 else 0)∧(t=if 84∈(formC k0).take n then t0 else 0)∧(vk=if 86∈(formC k0).take n then a0 else 0)∧(vn=if 86∈(formC k0).take n then b0 else 0)
def word (x:ByteArray) (i:Nat):ByteArray:=(piecesB x).getD i ⟨#[]⟩
theorem inv_zero {x:ByteArray} {k:Int} (h:FirstAt (fun m=>m.f0.toList==(word x 0).toList) mannersL k):Inv x 0 k 0 0 0 0 0:=by
  intro k0 r0 s0 t0 a0 b0 h1 h2;have hp:=opB_true.1 h1;refine⟨(first_name h).2 k0 hp.1 ?_,by simp,by simp,by simp,by simp,by simp⟩
  have e:=pieces_text h1;rw[h2]at e
  unfold word;rw[e];show _=nameB k0
  rw[←how_name k0 hp.1];unfold howR;rw[if_pos hp.1]
theorem word_at {x:ByteArray} {n:Nat} {k r s t vk vn:Int} (h1:opB k r s t vk vn=true) (h2:opText k r s t vk vn=x) (hn:n<(formC k).length):n+1<(piecesB x).length∧word x (n+1)=fieldW r s t vk vn (formC k)[n]:=by
  have e:=pieces_text h1;rw[h2,words_form]at e
  unfold word;rw[e];constructor
  · simp;exact hn
  · simp[hn]
theorem take_mem {l:List UInt8} {n:Nat} (hn:n<l.length) (c:UInt8):c∈l.take (n+1) ↔ c∈l.take n∨c=l[n]:=by
  rw[List.take_succ_eq_append_getElem hn,List.mem_append,List.mem_singleton]
theorem form_at {F:ByteArray} {k:Int} (hF:F=(howR k).f1) {n:Nat} (hn:n<F.size) (hk:1≤k∧k≤14): ∃h:n<(formC k).length,(formC k)[n]=F[n]:=by
  have e:=form_how k;rw[if_pos hk,←hF]at e
  have hl:n<(formC k).length:=by rw[←e];simpa using hn
  refine⟨hl,?_⟩
  have:(formC k)[n]?=F.data.toList[n]?:=by rw[e]
  rw[List.getElem?_eq_getElem hl,List.getElem?_eq_getElem (by simpa using hn)]at this
  exact Option.some.inj this
theorem inv_short {x F:ByteArray} {n:Nat} {k r s t vk vn:Int} (h:Inv x n k r s t vk vn) (hF:F=(howR k).f1) (hn:n<F.size) (hs:(piecesB x).length≤n+1):Reads x 0 0 0 0 0 0 false:=by
  refine .inr ⟨rfl,⟨rfl,rfl,rfl,rfl,rfl,rfl⟩,fun a b c d f g h1 h2=> ?_⟩
  obtain⟨rfl, -⟩:=h _ _ _ _ _ _ h1 h2;obtain⟨hl, -⟩:=form_at hF hn (opB_true.1 h1).1;have:=(word_at h1 h2 hl).1;omega
theorem inv_num {x F:ByteArray} {n:Nat} {k r s t vk vn v:Int} (h:Inv x n k r s t vk vn) (hF:F=(howR k).f1) (hn:n<F.size) (hv: ∀m,Lib.atoiAll (word x (n+1)).data.toList= .ok m→v=m):
    (F[n]=82→Inv x (n+1) k v s t vk vn)∧(F[n]=83→Inv x (n+1) k r v t vk vn)∧(F[n]=84→Inv x (n+1) k r s v vk vn):=by
  refine⟨fun hc=> ?_,fun hc=> ?_,fun hc=> ?_⟩
  all_goals
    intro k0 r0 s0 t0 a0 b0 h1 h2;obtain⟨rfl,er,es,et,ea,eb⟩:=h _ _ _ _ _ _ h1 h2;have hp:=opB_true.1 h1;obtain⟨hl,hl2⟩:=form_at hF hn hp.1;obtain⟨-,hw⟩:=word_at h1 h2 hl;rw[hl2,hc]at hw
    rw[hc]at hl2
    have hz: -100<r0∧r0<100∧ -100<s0∧s0<100∧ -100<t0∧t0<100:=by
      obtain⟨_,_,a,b,c,_⟩:=hp;omega
    simp only[take_mem hl,hl2]
    refine⟨by trivial,?_,?_,?_,?_,?_⟩
  · simp only[or_true,if_true]
    exact hv _ (by rw[hw];exact atoi_back r0 hz.1 hz.2.1)
  · simpa using es
  · simpa using et
  · simpa using ea
  · simpa using eb
  · simpa using er
  · simp only[or_true,if_true]
    exact hv _ (by rw[hw];exact atoi_back s0 hz.2.2.1 hz.2.2.2.1)
  · simpa using et
  · simpa using ea
  · simpa using eb
  · simpa using er
  · simpa using es
  · simp only[or_true,if_true]
    exact hv _ (by rw[hw];exact atoi_back t0 hz.2.2.2.2.1 hz.2.2.2.2.2)
  · simpa using ea
  · simpa using eb
theorem inv_val {x F:ByteArray} {n:Nat} {k r s t vk vn a b:Int} {ok:Bool} (h:Inv x n k r s t vk vn) (hF:F=(howR k).f1) (hn:n<F.size) (hv:readV (word x (n+1))=(a,b,ok)) (hc:F[n]=86):Inv x (n+1) k r s t a b:=by
  intro k0 r0 s0 t0 a0 b0 h1 h2;obtain⟨rfl,er,es,et,ea,eb⟩:=h _ _ _ _ _ _ h1 h2;have hp:=opB_true.1 h1;obtain⟨hl,hl2⟩:=form_at hF hn hp.1;obtain⟨-,hw⟩:=word_at h1 h2 hl;rw[hl2,hc]at hw
  rw[hc]at hl2
  simp only[take_mem hl,hl2]
  rw[hw,show fieldW r0 s0 t0 a0 b0 86=vtext a0 b0 from rfl,readV_text a0 b0 hp.2.1.1]at hv
  injection hv with e1 e2
  injection e2 with e2 e3
  exact⟨by trivial,by simpa using er,by simpa using es,by simpa using et,by simp[e1],by simp[e2]⟩
theorem inv_end {x F:ByteArray} {n:Nat} {k r s t vk vn:Int} (h:Inv x n k r s t vk vn) (hF:F=(howR k).f1) (hn: ¬n<F.size):
    ∀k0 r0 s0 t0 a0 b0:Int,opB k0 r0 s0 t0 a0 b0=true→opText k0 r0 s0 t0 a0 b0=x→k=k0∧r=r0∧s=s0∧t=t0∧vk=a0∧vn=b0:=by
  intro k0 r0 s0 t0 a0 b0 h1 h2;obtain⟨rfl,er,es,et,ea,eb⟩:=h _ _ _ _ _ _ h1 h2;have hp:=opB_true.1 h1;have e:=form_how k;rw[if_pos hp.1,←hF]at e
  have hl:(formC k).length≤n:=by
    rw[←e];have:F.data.toList.length=F.size:=by rw[Array.length_toList];rfl
    omega
  rw[List.take_of_length_le hl]at er es et ea eb
  obtain⟨f1,f2,f3,f4⟩:=form_has k;simp only[f1,f2,f3,f4]at er es et ea eb
  obtain⟨_,_,gr,gs,gt,gv⟩:=hp;refine⟨rfl,?_,?_,?_,?_,?_⟩
  · rw[er];split
    · rfl
    · rename_i hh;rcases gr with g|⟨g, -⟩
      · exact g.symm
      · exact absurd g hh
  · rw[es];split
    · rfl
    · rename_i hh;rcases gs with g|⟨g, -⟩
      · exact g.symm
      · exact absurd g hh
  · rw[et];split
    · rfl
    · rename_i hh;rcases gt with g|⟨g, -⟩
      · exact g.symm
      · exact absurd g hh
  · rw[ea];split
    · rfl
    · rename_i hh;rcases gv with g|g
      · exact absurd g hh
      · exact g.1.symm
  · rw[eb];split
    · rfl
    · rename_i hh;rcases gv with g|g
      · exact absurd g hh
      · exact g.2.symm
theorem reads_yes {x F:ByteArray} {n:Nat} {k r s t vk vn:Int} (hB:opB k r s t vk vn=true) (hX:opText k r s t vk vn=x):Reads x k r s t vk vn true:=.inl ⟨rfl,hB,hX⟩
theorem reads_no {x F:ByteArray} {n:Nat} {k r s t vk vn:Int} (h:Inv x n k r s t vk vn) (hF:F=(howR k).f1) (hn: ¬n<F.size) (hB: ¬(opB k r s t vk vn=true∧opText k r s t vk vn=x)):Reads x 0 0 0 0 0 0 false:=by
  refine .inr ⟨rfl,⟨rfl,rfl,rfl,rfl,rfl,rfl⟩,fun a b c d f g h1 h2=> ?_⟩
  obtain⟨rfl,rfl,rfl,rfl,rfl,rfl⟩:=inv_end h hF hn _ _ _ _ _ _ h1 h2;exact hB ⟨h1,h2⟩
theorem below_set0 {w W:World} (h:Below w.heap.size w W) (j:Nat) (v:Value):Below w.heap.size w (W.setCell ⟨w.heap.size,j,none⟩ v):=below_set h (Nat.le_refl _)
def NoneBelow (s:ByteArray) (k:Int):Prop:= ∀j:Int,1≤j→j<k→ ∀n,okP j n→vtext j n≠s
theorem tail_of {k n:Int} {s:ByteArray} (hk:1≤k) (h:okP k n) (e:vtext k n=s): ∃h2:0<s.size,2≤s.size∧s[0]=letterB k∧(s.extract 1 s.size).data.toList=itoaS n∧ -100<n∧n<100:=by
  have h0: ¬k=0:=by omega
  have e2:s=⟨(letterB k::itoaS n).toArray⟩:=by
    rw[←e];unfold vtext;rw[if_pos (okB_true.2 h),if_neg h0]
  have hsz:=(vtext_size k n h).1;rw[e,e2]at hsz
  subst e2;refine⟨by simp[ByteArray.size],by simp[ByteArray.size]at*;omega,rfl,?_,by unfold okP at h;omega,by unfold okP at h;omega⟩
  simp[ByteArray.data_extract,ByteArray.size]
theorem none_step {s:ByteArray} {k:Int} (h:NoneBelow s k) (hk: ∀n,okP k n→vtext k n≠s):NoneBelow s (k+1):=by
  intro j h1 h2 n hn;by_cases hj:j<k
  · exact h j h1 hj n hn
  · obtain rfl:j=k:=by omega
    exact hk n hn
theorem none_all {s:ByteArray} (h:NoneBelow s 4) (hn:s≠⟨#[110,111,110,101]⟩):readV s=(0,0,false):=by
  refine readV_no fun k n hk e=> ?_
  by_cases h0:k=0
  · subst h0
    have:n=0:=by unfold okP at hk;omega
    subst this;exact hn e.symm
  · exact h k (by unfold okP at hk;omega) (by unfold okP at hk;omega) n hk e
theorem readV_of {k n:Int} {s:ByteArray} (e:vtext k n=s) (h0:0<s.size):readV s=(k,n,true):=by
  by_cases h:okB k n=true
  · rw[←e];exact readV_text k n (okB_true.1 h)
  · simp only[Bool.not_eq_true]at h
    rw[vtext_bad h]at e
    rw[←e]at h0
    simp[ByteArray.size]at h0
theorem impl_ValRead_any (s:ByteArray) (w:World) (hs:s.size≤1048576) (hT:Tab w) (hE:Errs w):
    Calls Tryz.prog 51 #[.string s] w fun e w'=>e= .returned (.tuple #[.agg #[.int .i64 (readV s).1,.int .i64 (readV s).2.1],.bool (readV s).2.2])∧Below w.heap.size w w':=by
  have HT:=Aside0.mk hT;have HE:=Aside0.mk hE;clear hT hE;have HB:=Aside0.mk (Hold.new (Below.refl w.heap.size w) (.cells #[.int .i64 0,.int .i64 0] 37));by_cases hn:s=⟨#[110,111,110,101]⟩
  · subst hn
    rw[show readV ⟨#[110,111,110,101]⟩=(0,0,true)from readV_text 0 0 (.inl ⟨rfl,rfl⟩)]
    clear hs;go_enter Tryz.func51,Tryz.ntmps51
    go_wp2
    exact bodyPost_ret (v:=.tuple #[.agg #[.int .i64 0,.int .i64 0],.bool true]) (by simp[results,Tryz.results51,go_sem]) rfl ⟨rfl,by repeat(first|exact Below.refl _ _|apply below_alloc|apply below_set0)⟩
  · have e0 : (s.toList == [110, 111, 110, 101]) = false := by
      rw[toListD,beq_eq_false_iff_ne];intro h;exact hn (Go.WideShapes.bytes_inj h)
    have HN:=Aside0.mk hn;clear hn;go_enter Tryz.func51,Tryz.ntmps51
    go_wp2
    go_loopg [4] 4 (fun gg s4 wr=> ∃k:Int,1≤k∧k≤4∧4-k≤gg∧s4= .int .i64 k∧Aside0 (NoneBelow s k)∧Aside0 (Hold w wr w.heap.size (.cells #[.int .i64 0,.int .i64 0] 37)))
    case atStart=>exact⟨1,by omega,by omega,by omega,rfl,⟨fun j h1 h2=>by omega⟩,HB⟩
    case round=>
      clear HB;obtain⟨k,hk1,hk4,hgg,rfl,HP,HB⟩:=hrel;have hk:(k=1∨k=2∨k=3)∨k=4:=by omega
      clear hk1 hk4;rcases hk with hk|rfl
      · rcases hk with rfl|rfl|rfl
        · go_upto_region 6 with (fail)
          by_cases hl:s.size<2
          · have l1:decide ((s.size:Int)<2)=true:=decide_eq_true (by omega)
            have HL:=Aside0.mk hl;clear hl;go_quiet (fail)
            go_wp2
            go_roundg (gk-1)
            case measure=>omega
            case rel=>
              exact⟨_,by omega,by omega,by omega,rfl,⟨none_step HP.out fun n hn e=>by obtain⟨_,h2,_⟩:=tail_of (by omega) hn e;have:=HL.out;omega⟩,⟨HB.out.drewN _⟩⟩
          · have l1:decide ((s.size:Int)<2)=false:=decide_eq_false (by omega)
            have h0:0<s.size:=by omega
            have h0z:(0:Int)<(s.size:Int):=by omega
            clear hl;by_cases hb:s[0]=110
            · have e1:((s[0].toNat:Int) !=(((⟨#[110,97,114]⟩:ByteArray)[0]'(by decide)).toNat:Int))=false:=by rw[hb];rfl
              clear hb;go_quiet (fail)
              go_wp2_with fail
              have ht:(s.extract 1 s.size).size≤1048576:=by rw[ByteArray.size_extract];omega
              by_cases ho: ∃v,Lib.atoiAll (s.extract 1 s.size).data.toList= .ok v
              · obtain⟨v,ho⟩:=ho
                refine(atoi_yes (s.extract 1 s.size) v _ ht ho).mono ?_
                rintro e w1 ⟨rfl,hb⟩
                have HO:=Aside0.mk ho;replace HB:=Aside0.mk (Hold2.new ((HB.out.drewN _).step hb) (.cells #[.int .i64 1,.int .i64 v] 37));clear hb ho ht e1;have HX: ∀W,Below w.heap.size w W→Calls Tryz.prog 60 #[.agg #[.int .i64 1,.int .i64 v]] W fun e w'=>e= .returned (.string (vtext 1 v))∧Below W.heap.size W w':=fun W hW=>impl_ValText_any 1 v W (HT.out.below hW)
                obtain⟨X,hX⟩: ∃X,X=vtext 1 v:=⟨_,rfl⟩;rw[←hX]at HX
                have HXX:=Aside0.mk hX;have HX':=Aside0.mk HX;clear HX hX;by_cases hv:X=s
                · have e2:(X.toList==s.toList)=true:=by rw[hv];simp
                  have HV:=Aside0.mk hv;clear hv;go_wp2_with (go_at_call 60;(with_reducible refine(HX'.out _ HB.out.below).mono ?_);rintro e w2 ⟨rfl,hb⟩;replace HB:=Aside0.mk (HB.out.step hb);clear hb;obtain⟨c0,c1⟩:=box2 HB.out.blk;obtain⟨f0,f1⟩:=free2 HB.out.blk;obtain⟨d0,d1⟩:=box2 HB.out.blk2)
                  exact bodyPost_ret (v:=.tuple #[.agg #[.int .i64 1,.int .i64 v],.bool true]) (by simp[results,Tryz.results51,go_sem,c0,c1]) rfl ⟨by rw[readV_of (HXX.out.symm.trans HV.out) h0],by repeat(first|exact HB.out.below|apply below_set0)⟩
                · have e2 : (X.toList == s.toList) = false := by
                    rw[toListD,toListD,beq_eq_false_iff_ne];intro h;exact hv (Go.WideShapes.bytes_inj h)
                  have HV:=Aside0.mk hv;clear hv;go_wp2_with (go_at_call 60;(with_reducible refine(HX'.out _ HB.out.below).mono ?_);rintro e w2 ⟨rfl,hb⟩;replace HB:=Aside0.mk (HB.out.step hb);clear hb)
                  go_roundg (gk-1)
                  case measure=>omega
                  case rel=>
                    refine⟨_,by omega,by omega,by omega,rfl,⟨none_step HP.out fun n hn e=> ?_⟩,⟨HB.out.1⟩⟩
                    obtain⟨_,_,_,h3,h4,h5⟩:=tail_of (by omega) hn e
                    have:=HO.out;rw[h3,atoi_back n h4 h5]at this
                    injection this with this
                    subst this;exact HV.out (HXX.out.trans e)
              · have hno: ∀v,Lib.atoiAll (s.extract 1 s.size).data.toList≠ .ok v:=fun v h=>ho ⟨v,h⟩
                refine(atoi_no (s.extract 1 s.size) _ ht (HE.out.below (HB.out.drewN _).below) hno).mono ?_
                rintro e w1 ⟨v,N,rfl,hb⟩
                replace HB:=Aside0.mk ((HB.out.drewN _).step hb);have HO:=Aside0.mk hno;clear hb ho hno ht e1;go_wp2
                go_roundg (gk-1)
                case measure=>omega
                case rel=>
                  refine⟨_,by omega,by omega,by omega,rfl,⟨none_step HP.out fun n hn e=> ?_⟩,⟨HB.out.alloc _⟩⟩
                  obtain⟨_,_,_,h3,h4,h5⟩:=tail_of (by omega) hn e
                  exact HO.out n (by rw[h3,atoi_back n h4 h5])
            · have e1 : ((s[0].toNat : Int) != (((⟨#[110, 97, 114]⟩ : ByteArray)[0]'(by decide)).toNat : Int)) = true := by
                simp only[bne_iff_ne,ne_eq];intro h;exact hb (UInt8.toNat_inj.1 (Int.ofNat_inj.1 h))
              have HQ:=Aside0.mk hb;clear hb;go_quiet (fail)
              go_wp2
              go_roundg (gk-1)
              case measure=>omega
              case rel=>
                exact⟨_,by omega,by omega,by omega,rfl,⟨none_step HP.out fun n hn e=>by obtain⟨_,_,h2,_⟩:=tail_of (by omega) hn e;exact HQ.out h2⟩,⟨HB.out.drewN _⟩⟩
        · go_upto_region 6 with (fail)
          by_cases hl:s.size<2
          · have l1:decide ((s.size:Int)<2)=true:=decide_eq_true (by omega)
            have HL:=Aside0.mk hl;clear hl;go_quiet (fail)
            go_wp2
            go_roundg (gk-1)
            case measure=>omega
            case rel=>
              exact⟨_,by omega,by omega,by omega,rfl,⟨none_step HP.out fun n hn e=>by obtain⟨_,h2,_⟩:=tail_of (by omega) hn e;have:=HL.out;omega⟩,⟨HB.out.drewN _⟩⟩
          · have l1:decide ((s.size:Int)<2)=false:=decide_eq_false (by omega)
            have h0:0<s.size:=by omega
            have h0z:(0:Int)<(s.size:Int):=by omega
            clear hl;by_cases hb:s[0]=97
            · have e1:((s[0].toNat:Int) !=(((⟨#[110,97,114]⟩:ByteArray)[1]'(by decide)).toNat:Int))=false:=by rw[hb];rfl
              clear hb;go_quiet (fail)
              go_wp2_with fail
              have ht:(s.extract 1 s.size).size≤1048576:=by rw[ByteArray.size_extract];omega
              by_cases ho: ∃v,Lib.atoiAll (s.extract 1 s.size).data.toList= .ok v
              · obtain⟨v,ho⟩:=ho
                refine(atoi_yes (s.extract 1 s.size) v _ ht ho).mono ?_
                rintro e w1 ⟨rfl,hb⟩
                have HO:=Aside0.mk ho;replace HB:=Aside0.mk (Hold2.new ((HB.out.drewN _).step hb) (.cells #[.int .i64 2,.int .i64 v] 37));clear hb ho ht e1;have HX: ∀W,Below w.heap.size w W→Calls Tryz.prog 60 #[.agg #[.int .i64 2,.int .i64 v]] W fun e w'=>e= .returned (.string (vtext 2 v))∧Below W.heap.size W w':=fun W hW=>impl_ValText_any 2 v W (HT.out.below hW)
                obtain⟨X,hX⟩: ∃X,X=vtext 2 v:=⟨_,rfl⟩;rw[←hX]at HX
                have HXX:=Aside0.mk hX;have HX':=Aside0.mk HX;clear HX hX;by_cases hv:X=s
                · have e2:(X.toList==s.toList)=true:=by rw[hv];simp
                  have HV:=Aside0.mk hv;clear hv;go_wp2_with (go_at_call 60;(with_reducible refine(HX'.out _ HB.out.below).mono ?_);rintro e w2 ⟨rfl,hb⟩;replace HB:=Aside0.mk (HB.out.step hb);clear hb;obtain⟨c0,c1⟩:=box2 HB.out.blk;obtain⟨f0,f1⟩:=free2 HB.out.blk;obtain⟨d0,d1⟩:=box2 HB.out.blk2)
                  exact bodyPost_ret (v:=.tuple #[.agg #[.int .i64 2,.int .i64 v],.bool true]) (by simp[results,Tryz.results51,go_sem,c0,c1]) rfl ⟨by rw[readV_of (HXX.out.symm.trans HV.out) h0],by repeat(first|exact HB.out.below|apply below_set0)⟩
                · have e2 : (X.toList == s.toList) = false := by
                    rw[toListD,toListD,beq_eq_false_iff_ne];intro h;exact hv (Go.WideShapes.bytes_inj h)
                  have HV:=Aside0.mk hv;clear hv;go_wp2_with (go_at_call 60;(with_reducible refine(HX'.out _ HB.out.below).mono ?_);rintro e w2 ⟨rfl,hb⟩;replace HB:=Aside0.mk (HB.out.step hb);clear hb)
                  go_roundg (gk-1)
                  case measure=>omega
                  case rel=>
                    refine⟨_,by omega,by omega,by omega,rfl,⟨none_step HP.out fun n hn e=> ?_⟩,⟨HB.out.1⟩⟩
                    obtain⟨_,_,_,h3,h4,h5⟩:=tail_of (by omega) hn e
                    have:=HO.out;rw[h3,atoi_back n h4 h5]at this
                    injection this with this
                    subst this;exact HV.out (HXX.out.trans e)
              · have hno: ∀v,Lib.atoiAll (s.extract 1 s.size).data.toList≠ .ok v:=fun v h=>ho ⟨v,h⟩
                refine(atoi_no (s.extract 1 s.size) _ ht (HE.out.below (HB.out.drewN _).below) hno).mono ?_
                rintro e w1 ⟨v,N,rfl,hb⟩
                replace HB:=Aside0.mk ((HB.out.drewN _).step hb);have HO:=Aside0.mk hno;clear hb ho hno ht e1;go_wp2
                go_roundg (gk-1)
                case measure=>omega
                case rel=>
                  refine⟨_,by omega,by omega,by omega,rfl,⟨none_step HP.out fun n hn e=> ?_⟩,⟨HB.out.alloc _⟩⟩
                  obtain⟨_,_,_,h3,h4,h5⟩:=tail_of (by omega) hn e
                  exact HO.out n (by rw[h3,atoi_back n h4 h5])
            · have e1 : ((s[0].toNat : Int) != (((⟨#[110, 97, 114]⟩ : ByteArray)[1]'(by decide)).toNat : Int)) = true := by
                simp only[bne_iff_ne,ne_eq];intro h;exact hb (UInt8.toNat_inj.1 (Int.ofNat_inj.1 h))
              have HQ:=Aside0.mk hb;clear hb;go_quiet (fail)
              go_wp2
              go_roundg (gk-1)
              case measure=>omega
              case rel=>
                exact⟨_,by omega,by omega,by omega,rfl,⟨none_step HP.out fun n hn e=>by obtain⟨_,_,h2,_⟩:=tail_of (by omega) hn e;exact HQ.out h2⟩,⟨HB.out.drewN _⟩⟩
        · go_upto_region 6 with (fail)
          by_cases hl:s.size<2
          · have l1:decide ((s.size:Int)<2)=true:=decide_eq_true (by omega)
            have HL:=Aside0.mk hl;clear hl;go_quiet (fail)
            go_wp2
            go_roundg (gk-1)
            case measure=>omega
            case rel=>
              exact⟨_,by omega,by omega,by omega,rfl,⟨none_step HP.out fun n hn e=>by obtain⟨_,h2,_⟩:=tail_of (by omega) hn e;have:=HL.out;omega⟩,⟨HB.out.drewN _⟩⟩
          · have l1:decide ((s.size:Int)<2)=false:=decide_eq_false (by omega)
            have h0:0<s.size:=by omega
            have h0z:(0:Int)<(s.size:Int):=by omega
            clear hl;by_cases hb:s[0]=114
            · have e1:((s[0].toNat:Int) !=(((⟨#[110,97,114]⟩:ByteArray)[2]'(by decide)).toNat:Int))=false:=by rw[hb];rfl
              clear hb;go_quiet (fail)
              go_wp2_with fail
              have ht:(s.extract 1 s.size).size≤1048576:=by rw[ByteArray.size_extract];omega
              by_cases ho: ∃v,Lib.atoiAll (s.extract 1 s.size).data.toList= .ok v
              · obtain⟨v,ho⟩:=ho
                refine(atoi_yes (s.extract 1 s.size) v _ ht ho).mono ?_
                rintro e w1 ⟨rfl,hb⟩
                have HO:=Aside0.mk ho;replace HB:=Aside0.mk (Hold2.new ((HB.out.drewN _).step hb) (.cells #[.int .i64 3,.int .i64 v] 37));clear hb ho ht e1;have HX: ∀W,Below w.heap.size w W→Calls Tryz.prog 60 #[.agg #[.int .i64 3,.int .i64 v]] W fun e w'=>e= .returned (.string (vtext 3 v))∧Below W.heap.size W w':=fun W hW=>impl_ValText_any 3 v W (HT.out.below hW)
                obtain⟨X,hX⟩: ∃X,X=vtext 3 v:=⟨_,rfl⟩;rw[←hX]at HX
                have HXX:=Aside0.mk hX;have HX':=Aside0.mk HX;clear HX hX;by_cases hv:X=s
                · have e2:(X.toList==s.toList)=true:=by rw[hv];simp
                  have HV:=Aside0.mk hv;clear hv;go_wp2_with (go_at_call 60;(with_reducible refine(HX'.out _ HB.out.below).mono ?_);rintro e w2 ⟨rfl,hb⟩;replace HB:=Aside0.mk (HB.out.step hb);clear hb;obtain⟨c0,c1⟩:=box2 HB.out.blk;obtain⟨f0,f1⟩:=free2 HB.out.blk;obtain⟨d0,d1⟩:=box2 HB.out.blk2)
                  exact bodyPost_ret (v:=.tuple #[.agg #[.int .i64 3,.int .i64 v],.bool true]) (by simp[results,Tryz.results51,go_sem,c0,c1]) rfl ⟨by rw[readV_of (HXX.out.symm.trans HV.out) h0],by repeat(first|exact HB.out.below|apply below_set0)⟩
                · have e2 : (X.toList == s.toList) = false := by
                    rw[toListD,toListD,beq_eq_false_iff_ne];intro h;exact hv (Go.WideShapes.bytes_inj h)
                  have HV:=Aside0.mk hv;clear hv;go_wp2_with (go_at_call 60;(with_reducible refine(HX'.out _ HB.out.below).mono ?_);rintro e w2 ⟨rfl,hb⟩;replace HB:=Aside0.mk (HB.out.step hb);clear hb)
                  go_roundg (gk-1)
                  case measure=>omega
                  case rel=>
                    refine⟨_,by omega,by omega,by omega,rfl,⟨none_step HP.out fun n hn e=> ?_⟩,⟨HB.out.1⟩⟩
                    obtain⟨_,_,_,h3,h4,h5⟩:=tail_of (by omega) hn e
                    have:=HO.out;rw[h3,atoi_back n h4 h5]at this
                    injection this with this
                    subst this;exact HV.out (HXX.out.trans e)
              · have hno: ∀v,Lib.atoiAll (s.extract 1 s.size).data.toList≠ .ok v:=fun v h=>ho ⟨v,h⟩
                refine(atoi_no (s.extract 1 s.size) _ ht (HE.out.below (HB.out.drewN _).below) hno).mono ?_
                rintro e w1 ⟨v,N,rfl,hb⟩
                replace HB:=Aside0.mk ((HB.out.drewN _).step hb);have HO:=Aside0.mk hno;clear hb ho hno ht e1;go_wp2
                go_roundg (gk-1)
                case measure=>omega
                case rel=>
                  refine⟨_,by omega,by omega,by omega,rfl,⟨none_step HP.out fun n hn e=> ?_⟩,⟨HB.out.alloc _⟩⟩
                  obtain⟨_,_,_,h3,h4,h5⟩:=tail_of (by omega) hn e
                  exact HO.out n (by rw[h3,atoi_back n h4 h5])
            · have e1 : ((s[0].toNat : Int) != (((⟨#[110, 97, 114]⟩ : ByteArray)[2]'(by decide)).toNat : Int)) = true := by
                simp only[bne_iff_ne,ne_eq];intro h;exact hb (UInt8.toNat_inj.1 (Int.ofNat_inj.1 h))
              have HQ:=Aside0.mk hb;clear hb;go_quiet (fail)
              go_wp2
              go_roundg (gk-1)
              case measure=>omega
              case rel=>
                exact⟨_,by omega,by omega,by omega,rfl,⟨none_step HP.out fun n hn e=>by obtain⟨_,_,h2,_⟩:=tail_of (by omega) hn e;exact HQ.out h2⟩,⟨HB.out.drewN _⟩⟩
      · obtain⟨c0,c1⟩:=box2 HB.out.blk
        obtain⟨f0,f1⟩:=free2 HB.out.blk;go_wp2
        exact bodyPost_ret (v:=.tuple #[.agg #[.int .i64 0,.int .i64 0],.bool false]) (by simp[results,Tryz.results51,go_sem,c0,c1]) rfl ⟨by rw[none_all HP.out HN.out],by repeat(first|exact HB.out.below|apply below_set0)⟩
theorem ofList (b:ByteArray) {l:List UInt8} (h:b.data.toList=l):b=⟨l.toArray⟩:=by
  cases b with|mk d=>subst h;simp
def TabErrs (w:World):Prop:=Tab w∧Errs w
theorem name_nl (k:Int) (h:1≤k∧k≤14):10∉nameS k:=by
  revert k;refine fun k=>kinds (P:=fun k=>1≤k∧k≤14→10∉nameS k) (fun k hk h=>absurd h hk) ?_ ?_ ?_ ?_ ?_ ?_ ?_ ?_ ?_ ?_ ?_ ?_ ?_ ?_ k<;>exact fun _=>by decide
theorem itoa_nl (n:Int) (h0: -100<n) (h1:n<100):10∉itoaS n:=by
  have h: ∀i∈List.range 199,10∉itoaS ((i:Int)-99):=by decide+kernel
  have:=h (n+99).toNat (by simp;omega)
  rwa [show(((n+99).toNat:Nat):Int)-99=n by omega]at this
theorem vtext_nl (vk vn:Int) (h:okP vk vn):10∉vtextS vk vn:=
  okAll (P:=fun k n=>10∉vtextS k n) (by decide+kernel) (by decide+kernel) (by decide+kernel) (by decide+kernel) vk vn h
theorem seg_nl {b:Bool} {l:List UInt8} (h:10∉l):10∉segL b l:=by
  unfold segL;cases b with
  |false=>simp
  |true=>simpa using h
theorem opText_nl {k r s t vk vn:Int} (h:opB k r s t vk vn=true):10∉ (opText k r s t vk vn).data.toList:=by
  rw[opText_list h];obtain⟨hk,hv,hr,hs,ht,hvv⟩:=opB_true.1 h;unfold optL;simp only[List.mem_append,not_or]
  exact⟨name_nl k hk,seg_nl (itoa_nl r (by omega) (by omega)),seg_nl (itoa_nl s (by omega) (by omega)),seg_nl (itoa_nl t (by omega) (by omega)),seg_nl (vtext_nl vk vn hv.1)⟩
def tx (x:S39):List UInt8:=(opTextS x).data.toList
theorem tx_nl {x:S39} (h:opS x=true):10∉tx x:=opText_nl h
theorem code_ops {c:List S39} (h:codeB c=true):(1≤c.length∧c.length≤16)∧ ∀y∈c,opS y=true:=by
  unfold codeB at h;simp only[Bool.and_eq_true,decide_eq_true_eq,Bool.not_eq_true']at h
  refine⟨h.1,fun y hy=> ?_⟩
  have:=List.any_eq_false.1 h.2 y hy;unfold wrongB at this;simp only[Bool.or_eq_true,not_or,Bool.not_eq_true',Bool.not_eq_false]at this
  exact this.1
theorem line_le (x:S39):(lineL x).length≤25:=by
  unfold lineL;have:(opTextS x).data.toList.length=(opTextS x).size:=by rw[Array.length_toList];rfl
  have h2:(opTextS x).size≤24:=opText_le;simp;omega
theorem text_le: ∀l:List S39,(textL l).length≤25*l.length
  | []=>Nat.le_refl _
  |x::l=>by
    have:=line_le x;have:=text_le l;unfold textL at*;simp at*;omega
theorem codeText_of {c:List S39} (h:codeB c=true):codeText c=⟨(textL c).toArray⟩:=if_pos h
theorem codeText_le {c:List S39} (h:codeB c=true):(codeText c).size≤400:=by
  rw[codeText_of h];have:=text_le c;have:=(code_ops h).1;simp[ByteArray.size];omega
def ReadsC (x:ByteArray) (l:List S39) (ok:Bool):Prop:=(ok=true∧codeB l=true∧codeText l=x)∨(ok=false∧l=[]∧ ∀c,codeB c=true→codeText c≠x)
def cutsN:List UInt8→List UInt8→List (List UInt8)
  |cur,[]=> [cur]
  |cur,c::l=>if c=10 then cur::cutsN [] l else cutsN (cur++ [c]) l
theorem cutsN_text: ∀ (t r cur:List UInt8),10∉t→cutsN cur (t++10::r)=(cur++t)::cutsN [] r
  | [],r,cur,_=>by simp[cutsN]
  |c::t,r,cur,h=>by
    have h1: ¬c=10:=fun e=>h (by rw[e];exact List.mem_cons_self)
    rw[List.cons_append,cutsN,if_neg h1,cutsN_text t r (cur++ [c]) (fun m=>h (List.mem_cons_of_mem _ m)),List.append_assoc]
    rfl
theorem textL_cons (y:S39) (l:List S39):textL (y::l)=tx y++10::textL l:=by
  unfold textL tx;simp[lineL]
theorem cutsN_lines: ∀l:List S39,(∀y∈l,opS y=true)→cutsN [] (textL l)=l.map tx++ [[]]
  | [],_=>rfl
  |y::l,h=>by
    rw[textL_cons,cutsN_text _ _ _ (tx_nl (h y List.mem_cons_self)),cutsN_lines l (fun z hz=>h z (List.mem_cons_of_mem _ hz))]
    rfl
def linesL (x:ByteArray):List (List UInt8):=cutsN [] x.data.toList
theorem lines_code {c:List S39} {x:ByteArray} (h:codeB c=true) (hx:codeText c=x):linesL x=c.map tx++ [[]]:=by
  unfold linesL;rw[←hx,codeText_of h];exact cutsN_lines c (code_ops h).2
theorem byL_tx (y:S39):byL (tx y)=opTextS y:=byL_data _
def InvC (x:ByteArray) (os:List S39) (r:ByteArray):Prop:= ∀c,codeB c=true→codeText c=x→ ∃c',c=os++c'∧r=byL (textL c')
theorem invC_first (x:ByteArray):InvC x [] x:=fun c a b=>⟨c,rfl,by rw[←b,codeText_of a];rfl⟩
theorem idx_nl: ∀ (t r:List UInt8),10∉t→Lib.indexByte (t++10::r) 10=(t.length:Int)
  | [],r,_=>by simp[Lib.indexByte]
  |c::t,r,h=>by
    have h1: ¬c=10:=fun e=>h (by rw[e];exact List.mem_cons_self)
    have h2:=idx_nl t r (fun m=>h (List.mem_cons_of_mem _ m))
    have h3:((t.length:Int)== -1)=false:=by rw[beq_eq_false_iff_ne];omega
    have h4:(c==10)=false:=by simpa using h1
    rw[List.cons_append];unfold Lib.indexByte;rw[h2,h3,h4];simp
def lineOf (r:ByteArray):ByteArray:=if 0≤Lib.indexByte r.data.toList 10 then r.extract 0 (Lib.indexByte r.data.toList 10+1).toNat else r
def restOf (r:ByteArray):ByteArray:=if 0≤Lib.indexByte r.data.toList 10 then r.extract (Lib.indexByte r.data.toList 10+1).toNat r.size else⟨#[]⟩
def trimB (l:ByteArray):ByteArray:=⟨(Lib.trimSuffix l.data.toList [10]).toArray⟩
theorem line_at (t r:List UInt8) (h:10∉t):lineOf (byL (t++10::r))=byL (t++ [10])∧restOf (byL (t++10::r))=byL r:=by
  have hi:Lib.indexByte (byL (t++10::r)).data.toList 10=(t.length:Int):=by
    show Lib.indexByte (t++10::r) 10=_
    exact idx_nl t r h
  unfold lineOf restOf;rw[hi,if_pos (by omega),if_pos (by omega),show((t.length:Int)+1).toNat=t.length+1 by omega]
  constructor
  · refine Go.WideShapes.bytes_inj ?_
    simp[byL,ByteArray.data_extract]
    rw[show t++10::r=(t++ [10])++r by simp,List.take_append_of_le_length (by simp),List.take_of_length_le (by simp)]
  · refine Go.WideShapes.bytes_inj ?_
    simp[byL,ByteArray.data_extract,ByteArray.size]
    exact List.take_of_length_le (by omega)
theorem trim_line (t:List UInt8):trimB (byL (t++ [10]))=byL t:=by
  unfold trimB Lib.trimSuffix Lib.hasSuffix
  have:([10]:List UInt8).isSuffixOf (byL (t++ [10])).data.toList=true:=by
    rw[List.isSuffixOf_iff_suffix];exact⟨t,by simp[byL]⟩
  rw[if_pos this];unfold byL;simp
theorem invC_step {x r:ByteArray} {os:List S39} (h:InvC x os r) (h0:r.size≠0) {k rr s t vk vn:Int} {ok:Bool} (hR:Reads (trimB (lineOf r)) k rr s t vk vn ok):
    (ok=true→InvC x (os++ [⟨k,rr,s,t,⟨vk,vn⟩⟩]) (restOf r))∧(ok=false→ReadsC x [] false):=by
  have key: ∀c,codeB c=true→codeText c=x→ ∃y c',c=os++y::c'∧opS y=true∧opTextS y=trimB (lineOf r)∧restOf r=byL (textL c'):=fun c a b=>by
    obtain⟨c',e1,e2⟩:=h c a b;cases c' with
    |nil=>rw[e2]at h0;exact absurd rfl h0
    |cons y c'=>
      have hy:opS y=true:=(code_ops a).2 y (by rw[e1];simp)
      rw[textL_cons]at e2
      obtain⟨l1,l2⟩:=line_at (tx y) (textL c') (tx_nl hy);exact⟨y,c',e1,hy,by rw[e2,l1,trim_line,byL_tx],by rw[e2,l2]⟩
  refine⟨fun hok c a b=> ?_,fun hok=>.inr ⟨rfl,rfl,fun c a b=> ?_⟩⟩
  · obtain⟨y,c',e1,e2,e3,e4⟩:=key c a b
    obtain⟨g1,g2,g3,g4,g5,g6, -⟩:=reads_one hR (.inl ⟨rfl,e2,e3⟩);exact⟨c',by rw[e1,g1,g2,g3,g4,g5,g6];simp,e4⟩
  · obtain⟨y,c',e1,e2,e3,e4⟩:=key c a b
    have:=(reads_one hR (.inl ⟨rfl,e2,e3⟩)).2.2.2.2.2.2;rw[hok]at this;cases this
theorem invC_end {x r:ByteArray} {os:List S39} (h:InvC x os r) (h0:r.size=0): ∀c,codeB c=true→codeText c=x→c=os:=fun c a b=>by
  obtain⟨c',e1,e2⟩:=h c a b;cases c' with
  |nil=>rw[e1];simp
  |cons y c'=>rw[e2,textL_cons]at h0;simp[byL,ByteArray.size]at h0
theorem invC_no {x r:ByteArray} {os:List S39} (h:InvC x os r) (h0:r.size=0) (hn: ¬(codeB os=true∧codeText os=x)):ReadsC x [] false:=
  .inr ⟨rfl,rfl,fun c a b=>by have e:=invC_end h h0 c a b;subst e;exact hn ⟨a,b⟩⟩
theorem rest_lt {r:ByteArray} (h0:r.size≠0):(restOf r).size<r.size:=by
  unfold restOf;split
  · rw[ByteArray.size_extract];omega
  · show 0<r.size;omega
theorem line_size (r:ByteArray):(lineOf r).size≤r.size:=by
  unfold lineOf;split
  · rw[ByteArray.size_extract];omega
  · exact Nat.le_refl _
theorem readsC_one {x:ByteArray} {l l':List S39} {ok ok':Bool} (h:ReadsC x l ok) (h':ReadsC x l' ok'):l=l'∧ok=ok':=by
  rcases h with ⟨rfl,h1,h2⟩|⟨rfl,rfl,h2⟩<;>rcases h' with ⟨rfl,g1,g2⟩|⟨rfl,rfl,g2⟩
  · refine⟨?_,rfl⟩
    have e:l.map tx++ [[]]=l'.map tx++ [[]]:=by rw[←lines_code h1 h2,←lines_code g1 g2]
    have e:=List.append_cancel_right e
    have: ∀ (l l':List S39),(∀y∈l,opS y=true)→(∀y∈l',opS y=true)→l.map tx=l'.map tx→l=l':=by
      intro l;induction l with
      |nil=>intro l' _ _ e;cases l' with|nil=>rfl|cons a b=>cases e
      |cons y l ih=>
        intro l' p q e;cases l' with
        |nil=>cases e
        |cons z l'=>
          rw[List.map_cons,List.map_cons]at e
          injection e with e1 e2
          have e3:opTextS y=opTextS z:=by rw[←byL_tx,←byL_tx,e1]
          obtain⟨g1,g2,g3,g4,g5,g6, -⟩:=reads_one (x:=opTextS z) (.inl ⟨rfl,p y List.mem_cons_self,e3⟩) (.inl ⟨rfl,q z List.mem_cons_self,rfl⟩);rw[ih l' (fun a ha=>p a (List.mem_cons_of_mem _ ha)) (fun a ha=>q a (List.mem_cons_of_mem _ ha)) e2]
          obtain⟨y0,y1,y2,y3,⟨y4,y5⟩⟩:=y;obtain⟨z0,z1,z2,z3,⟨z4,z5⟩⟩:=z;simp only at g1 g2 g3 g4 g5 g6
          rw[g1,g2,g3,g4,g5,g6]
    exact this l l' (code_ops h1).2 (code_ops g1).2 e
  · exact absurd h2 (g2 _ h1)
  · exact absurd g2 (h2 _ g1)
  · exact⟨rfl,rfl⟩
end Go.Proofs.YtmklpbmlgjkbiaaGreatDoor.PS
end
section
namespace Go.Proofs.YtmklpbmlgjkbiaaGreatDoor.PS
open Go.RowKit Go.Shelf Go.Proofs.YtmklpbmlgjkbiaaGreatDoorW.PrintWords Go.Proofs.YtmklpbmlgjkbiaaGreatDoorW.PrintLast
attribute [local go_sem] Oper.semAt_some
def restIs (W:World) (Bs:Nat) (r:ByteArray):Prop:=W.heap[Bs]?=some (.cells #[.string r] 9 (0,0))
def leftAt (Bs:Nat) (W:World):Nat:=match W.cell? ⟨Bs,0,none⟩with|some (.string r)=>r.size|_=>0
theorem restIs.cell {W:World} {Bs:Nat} {r:ByteArray} (h:restIs W Bs r):W.cell? ⟨Bs,0,none⟩=some (.string r):=(blk_cell h 0).trans rfl
theorem restIs.free {W:World} {Bs:Nat} {r:ByteArray} (h:restIs W Bs r):W.frozen? ⟨Bs,0,none⟩=false:=blk_frozen h 0
theorem restIs.left {W:World} {Bs:Nat} {r:ByteArray} (h:restIs W Bs r):leftAt Bs W=r.size:=by unfold leftAt;rw[h.cell]
theorem restIs.put {W:World} {Bs:Nat} {r:ByteArray} (h:restIs W Bs r) (q:ByteArray):restIs (W.setCell ⟨Bs,0,none⟩ (.string q)) Bs q:=blk_set h 0 (.string q)
theorem indexByte_lt: ∀ (l:List UInt8) (c:UInt8),Lib.indexByte l c<(l.length:Int)∨l=[]
  | [],_=>.inr rfl
  |b::l,c=>by
    left
    have:=indexByte_lt l c;unfold Lib.indexByte;rw[List.length_cons];split
    · omega
    · split
      · omega
      · rcases this with h|h
        · omega
        · subst h;simp[Lib.indexByte]at*
theorem idx_lt (r:ByteArray) (h:r.size≠0):Lib.indexByte r.data.toList 10<(r.size:Int):=by
  have e:r.data.toList.length=r.size:=by rw[Array.length_toList];rfl
  rcases indexByte_lt r.data.toList 10 with h'|h'
  · omega
  · rw[h']at e;exact absurd e.symm h
theorem lines_in (n:Nat) (hn:1≤n) (l Bs:Nat) (J:ByteArray→World→Prop) (Jx:World→Prop)
    (hset: ∀r W v,J r W→J r (W.setCell ⟨Bs,0,none⟩ v)) (hdr: ∀r W,J r W→J r W.drew) (hsz: ∀r W,J r W→r.size≤1000)
    (hY: ∀r W,J r W→r.size≠0→restIs W Bs (restOf r)→YieldAt Fence.wide (n-1) Tryz.prog l #[.string (lineOf r)] W fun e W'=>(e= .returned (.bool true)∧J (restOf r) W'∧restIs W' Bs (restOf r))∨(e= .returned (.bool false)∧Jx W'))
    (x:ByteArray) (W:World) (h0:J x W) (hB:restIs W Bs x):
    CallsIn Fence.wide n Tryz.prog 44 #[.func (.yield l) #[] #[],.pointer (some ⟨Bs,0,none⟩)] W fun e W'=>(∃v,e= .returned v)∧((∃r,r.size=0∧J r W')∨Jx W'):=by
  refine callsIn_of_wp Tryz.func44 rfl trivial ?_ rfl
  simp only[Tryz.ntmps44,List.size_toArray,List.length_cons,List.length_nil,Nat.reduceAdd,Nat.reduceSub,Array.replicate_succ,Array.replicate_zero,List.push_toArray,List.append_toArray,List.nil_append,List.cons_append]
  gi_wp2
  gi_loopw [3,4] (fun p q wr=> ∃r,J r wr∧restIs wr Bs r) (fun p q wr=>leftAt Bs wr)
  case atStart=>exact⟨x,h0,hB⟩
  case round=>
    obtain⟨r,hJ,hR⟩:=hrel;have hc:=hR.cell;have hf:=hR.free;by_cases hz:r.size=0
    · have e0:decide ((0:Int)<(r.size:Int))=false:=decide_eq_false (by omega)
      gi_wp2
      go_end0
      exact⟨⟨_,rfl⟩,.inl ⟨r,hz,hJ⟩⟩
    · have e0:decide ((0:Int)<(r.size:Int))=true:=decide_eq_true (by omega)
      have hmx:Tryz.prog.follows .mixedOrders=true:=by kernel_rfl
      obtain⟨i,hidx⟩: ∃i,i=Lib.indexByte r.data.toList 10:=⟨_,rfl⟩;have hI:Aside0 (∀W,Calls Tryz.prog 45 #[.string r,.int .u8 10] W fun e w'=>e= .returned (.int .i64 i)∧w'=W):=⟨fun W=>by rw[hidx];exact Tryz.strings_IndexByte r 10 W⟩
      by_cases hi:0≤i
      · have e1:decide ((0:Int)≤i)=true:=decide_eq_true hi
        have hlt:i<(r.size:Int):=by rw[hidx];exact idx_lt r hz
        have hw:IntKind.i64.wrap (i+1)=i+1:=by rw[IntKind.wrap_i64];have:=hsz r _ hJ;omega
        have g1:(0:Int)≤i+1:=by omega
        have g2:i+1≤(r.size:Int):=by omega
        have eL:lineOf r=r.extract 0 (i+1).toNat:=by unfold lineOf;rw[←hidx,if_pos hi]
        have eR:restOf r=r.extract (i+1).toNat r.size:=by unfold restOf;rw[←hidx,if_pos hi]
        clear hidx
        have r1: ∀W,Sem.run Tryz.prog (Instr.slice 9 (.string r) none (some (.int .i64 (i+1))) none) W= .ok (.string (lineOf r)) W:=fun W=>by
          rw[eL];go_simp
        have r2: ∀W,Sem.run Tryz.prog (Instr.slice 9 (.string r) (some (.int .i64 (i+1))) none none) W= .ok (.string (restOf r)) W:=fun W=>by
          rw[eR];go_simp
        clear eL eR;obtain⟨fn,tmps,assign,body,hy,hR2⟩:=hY r _ (hdr _ _ (hset r _ (.string (restOf r)) hJ)) hz (hR.put (restOf r));gi_wp2_with (refine⟨trivial,?_⟩;gi_at_call 45;refine(callsIn_wide.2 (hI.out _)).mono ?_;rintro e w' ⟨rfl,rfl⟩)
        gi_region
        gi_wp2
        refine hR2.mono ?_
        rintro e W3 (⟨rfl,hJ3,hB3⟩|⟨rfl,hx3⟩)
        · gi_wp2
          go_roundw
          case rel=>exact⟨_,hJ3,hB3⟩
          case measure=>rw[hB3.left,hR.left];exact rest_lt hz
        · gi_wp2
          refine bodyPost_ret (results_none rfl _ _ _) rfl ?_
          exact⟨⟨_,rfl⟩,.inr hx3⟩
      · have e1:decide ((0:Int)≤i)=false:=decide_eq_false hi
        have q1:lineOf r=r:=by unfold lineOf;rw[←hidx,if_neg hi]
        have q2:restOf r=⟨#[]⟩:=by unfold restOf;rw[←hidx,if_neg hi]
        clear hidx;obtain⟨fn,tmps,assign,body,hy,hR2⟩:=hY r _ (hset r _ (.string (restOf r)) hJ) hz (hR.put (restOf r));have hm:=rest_lt hz;rw[q1,q2]at hy
        rw[q2]at hR2
        rw[q2]at hm
        gi_wp2_with (refine⟨trivial,?_⟩;gi_at_call 45;refine(callsIn_wide.2 (hI.out _)).mono ?_;rintro e w' ⟨rfl,rfl⟩)
        refine hR2.mono ?_
        rintro e W3 (⟨rfl,hJ3,hB3⟩|⟨rfl,hx3⟩)
        · gi_wp2
          go_roundw
          case rel=>exact⟨_,hJ3,hB3⟩
          case measure=>rw[hB3.left,hR.left];exact hm
        · gi_wp2
          refine bodyPost_ret (results_none rfl _ _ _) rfl ?_
          exact⟨⟨_,rfl⟩,.inr hx3⟩
end Go.Proofs.YtmklpbmlgjkbiaaGreatDoor.PS
end
section
namespace Go.Proofs.YtmklpbmlgjkbiaaGreatDoor.PS
open Go.RowKit Go.Shelf Go.Proofs.YtmklpbmlgjkbiaaGreatDoorW.PrintWords Go.Proofs.YtmklpbmlgjkbiaaGreatDoorW.PrintLast
structure Sim (n0 Bs:Nat) (W W':World):Prop where
  os:W'.os=W.os
  tape:W'.tape=W.tape
  output:W'.output=W.output
  size:W.heap.size≤W'.heap.size
  same: ∀ (k:Nat) (o:Obj),W.heap[k]?=some o→k≠Bs→(n0≤k→o.isCells=true)→W'.heap[k]?=some o
theorem Sim.set (n0 Bs j:Nat) (W:World) (v:Value):Sim n0 Bs W (W.setCell ⟨Bs,j,none⟩ v):=by
  have h:=(Below.refl Bs W).setCell (p:=⟨Bs,j,none⟩) (Nat.le_refl _) v;exact⟨h.os,h.tape,h.output,h.size,fun k o hk hn _=>(Below.heap_setCell W ⟨Bs,j,none⟩ v k hn).trans hk⟩
theorem Sim.drew (n0 Bs:Nat) (W:World):Sim n0 Bs W W.drew:=by
  have h:=below_drew1 (Below.refl Bs W);exact⟨h.os,h.tape,h.output,h.size,fun k o hk _ _=>hk⟩
theorem Sim.alloc (n0 Bs:Nat) (W:World) (o:Obj):Sim n0 Bs W (W.alloc o):=by
  have h:=below_alloc (Below.refl W.heap.size W) o;exact⟨h.os,h.tape,h.output,h.size,fun k q hk _ _=>(h.block k (Array.getElem?_eq_some_iff.1 hk).1).trans hk⟩
theorem Sim.put (n0 Bs:Nat) (W:World) (l:Nat) (o o':Obj) (hn:n0≤l) (hl:W.heap[l]?=some o) (ho:o.isCells=false):Sim n0 Bs W (W.putObj l o'):=by
  have h:=(Below.refl l W).grown (grownBy_putObj' W l o') (by have:=(Array.getElem?_eq_some_iff.1 hl).1;omega) (fun k e=>by cases e;exact Nat.le_refl _)
  refine⟨h.os,h.tape,h.output,h.size,fun k q hk _ hc=> ?_⟩
  have hne:k≠l:=by
    rintro rfl
    rw[hl]at hk
    cases hk
    rw[hc hn]at ho
    cases ho
  exact(World.putObj_heap_other hne).trans hk
theorem Sim.box {n0 Bs B:Nat} {t:TypeId} {v:Value} {W W':World} (h:Sim n0 Bs W W') (hB:W.heap[B]?=some (.cells #[v] t (0,0))) (hne:B≠Bs):W'.heap[B]?=some (.cells #[v] t (0,0)):=h.same B _ hB hne (fun _=>rfl)
theorem Sim.below {n0 Bs n:Nat} {w W W':World} (h:Sim n0 Bs W W') (hb:Below n w W) (hn:n≤w.heap.size) (h0:n≤n0) (hs:n≤Bs):Below n w W':=by
  refine⟨h.os.trans hb.os,h.tape.trans hb.tape,h.output.trans hb.output,Nat.le_trans hb.size h.size,fun k hk=> ?_⟩
  have hlt:k<w.heap.size:=by omega
  have e:=hb.block k hk;rw[Array.getElem?_eq_getElem hlt]at e⊢
  exact h.same k _ e (by omega) (fun h'=>by omega)
def roundEnd (n0 Bs:Nat) (r:ByteArray) (I:ByteArray→World→Prop) (Ix:World→Prop) (W:World):Exit→Act→World→Prop
  | .normal,_,W'=>KeepsFrom n0 W W'∧I r W'∧restIs W' Bs r
  | .ret,_,W'=>KeepsFrom n0 W W'∧Ix W'
  |_,_,_=>False
theorem range_lines {g:Operand} {ps:Array Tmp} {assign body:Code} {Q:Exit→Act→World→Prop} {a:Act} {w:World} (n:Nat) (hn:3≤n) (Bs:Nat) (x:ByteArray)
    (hg:a.eval g= .func (.func 44) #[] #[.pointer (some ⟨Bs,0,none⟩)]) (hps:ps.size=1) (hB:restIs w Bs x)
    (I:ByteArray→World→Prop) (Ix:World→Prop) (hI: ∀r W W',Sim w.heap.size Bs W W'→I r W→I r W') (hIx: ∀W W',Sim w.heap.size Bs W W'→Ix W→Ix W') (hsz: ∀r W,I r W→r.size≤1000) (h0:I x w) (a₁:ByteArray→Act)
    (hassign: ∀ (l:Nat) (r:ByteArray) (W:World) (K:Act→World→Prop),K (a₁ (lineOf r)) W→
      assign.wpIn (Fence.wide.inRound l) (n-1-1) Tryz.prog (Exit.then K (fun _ _ _=>False)) { tmps:=(ps.zip #[.string (lineOf r)]).foldl (fun t (p,v)=>t.setIfInBounds p v) a.tmps,defers:=[] } W)
    (hbody: ∀ (l:Nat) (r:ByteArray) (W:World),I r W→r.size≠0→restIs W Bs (restOf r)→body.wpIn (Fence.wide.inRound l) (n-1-1) Tryz.prog (roundEnd w.heap.size Bs (restOf r) I Ix W) (a₁ (lineOf r)) W)
    (hdone: ∀ (D:Nat) (r:ByteArray) (W:World),w.heap.size≤D→r.size=0→I r W→W.heap[D]?=some (.deferred (some []))→Q .normal { a with defers:= { target:=.collected D,args:= #[] } ::a.defers } W)
    (hstop: ∀ (D:Nat) (W:World),w.heap.size≤D→Ix W→W.heap[D]?=some (.deferred (some []))→Code.ret.wpIn Fence.wide n Tryz.prog Q { a with defers:= { target:=.collected D,args:= #[] } ::a.defers } W):
    (Code.rangeFunc g ps assign body).wpIn Fence.wide n Tryz.prog Q a w:=by
  have hBs:Bs<w.heap.size:=blk_lt hB;refine wpIn_rangeFunc ?_
  intro fn hfn;obtain⟨rec,hrec⟩: ∃rec:LoopState→Option Code→Loop,rec=fun st pe=> { state:=st,pending:=pe,fn,tmps:=a.tmps,params:=ps,assign,body,defers:=w.heap.size } :=⟨_,rfl⟩
  obtain⟨D,hD⟩: ∃D,D=w.heap.size:=⟨_,rfl⟩;obtain⟨W1,hW1⟩: ∃W1,(w.alloc (.deferred (some []))).alloc (.loop (rec .ready none))=W1:=⟨_,rfl⟩
  have hS:Sim D Bs w W1:=by
    have h1:=Sim.alloc D Bs w (.deferred (some []));have h2:=Sim.alloc D Bs (w.alloc (.deferred (some []))) (.loop (rec .ready none));rw[←hW1];refine⟨h2.os.trans h1.os,h2.tape.trans h1.tape,h2.output.trans h1.output,Nat.le_trans h1.size h2.size,fun k o hk hne hc=>h2.same k o (h1.same k o hk hne hc) hne hc⟩
  have hL1:W1.heap[D+1]?=some (.loop (rec .ready none)):=by
    rw[←hW1,hD];have:=World.alloc_heap_new (w.alloc (.deferred (some []))) (.loop (rec .ready none));rwa [World.size_alloc]at this
  have hK1:W1.heap[D]?=some (.deferred (some [])):=by
    rw[←hW1,hD];exact(Below.heap_alloc _ _ _ (by simp)).trans (World.alloc_heap_new w _)
  rw[←hD]at hI hIx hbody hdone hstop
  have hen:=run_enterLoop_outer (P:=Tryz.prog) (w:=w) fn a.tmps ps assign body
  refine⟨D+1,[{ target:=.collected D,args:= #[] }],W1, { target:=.fn (.func 44) #[.pointer (some ⟨Bs,0,none⟩)],args:= #[.func (.yield (D+1)) #[] #[]] },W1,44,
    #[.func (.yield (D+1)) #[] #[]]++ #[.pointer (some ⟨Bs,0,none⟩)],W1,?_,?_,?_,?_,fun h=>by omega,?_⟩
  · rw[←hW1,hrec,hD];exact hen
  · simp only[resolve,hg]
    simp[go_sem]
  · intro f' hf';trivial
  · have e44: ∀args W,(callFunc 44 args).run Tryz.prog W= .ok (.enter 44 args) W:=enters_of Tryz.func44 (by kernel_rfl) rfl
    simp[invoke,go_sem,e44]
  refine(lines_in (n-1) (by omega) (D+1) Bs
    (fun r W=>I r W∧W.heap[D+1]?=some (.loop (rec .ready none))∧W.heap[D]?=some (.deferred (some [])))
    (fun W=>Ix W∧W.heap[D+1]?=some (.loop (rec .done (some .ret)))∧W.heap[D]?=some (.deferred (some [])))
    ?_ ?_ (fun r W h=>hsz r W h.1) ?_ x W1 ⟨hI x _ _ hS h0,hL1,hK1⟩ (hS.same Bs _ hB|>fun _=> ?_)).mono ?_
  · rintro r W v ⟨h1,h2,h3⟩
    exact⟨hI r _ _ (Sim.set D Bs 0 W v) h1,(Below.heap_setCell W ⟨Bs,0,none⟩ v _ (by show D+1≠Bs;omega)).trans h2,(Below.heap_setCell W ⟨Bs,0,none⟩ v _ (by show D≠Bs;omega)).trans h3⟩
  · rintro r W ⟨h1,h2,h3⟩
    exact⟨hI r _ _ (Sim.drew D Bs W) h1,h2,h3⟩
  · -- one round
    rintro r W ⟨h1,h2,h3⟩ hr hR
    have hlt:D+1<W.heap.size:=blk_lt h2;have hy:=run_yield (P:=Tryz.prog) (args:= #[.string (lineOf r)]) h2 (by rw[hrec];exact hps.symm)
    rw[hrec]at hy
    refine⟨fn,_,assign,body,hy,roundIn_of_wpIn hfn (hassign _ r W _ ⟨_,run_beginRound h2 (by rw[hrec]),?_⟩)⟩
    obtain⟨busy,hbusy⟩: ∃o:Obj,o= .loop { rec .ready none with state:=.busy } :=⟨_,rfl⟩
    have b1:(W.putObj (D+1) busy).heap[D+1]?=some busy:=World.putObj_heap_same hlt;have b2:(W.putObj (D+1) busy).heap[D]?=some (.deferred (some [])):=(World.putObj_heap_other (by omega)).trans h3
    have b3:restIs (W.putObj (D+1) busy) Bs (restOf r):=(World.putObj_heap_other (by omega)).trans hR
    rw[←hbusy];refine wpIn_mono (hbody _ r _ (hI r _ _ (Sim.put D Bs W (D+1) _ busy (by omega) h2 rfl) h1) hr b3) ?_
    have nc:busy.isCells=false:=by rw[hbusy];rfl
    rintro e a3 W3 hp
    cases e with
    |normal=>
      obtain⟨hk,hi,hs⟩:=hp;have c1:=hk.same _ _ (by omega) b1 nc
      have c2:=hk.same _ _ (Nat.le_refl _) b2 rfl;have c3:W3.heap[D+1]?=some (.loop { rec .ready none with state:=.busy }):=by rw[c1,hbusy]
      have hr3:=run_endRound (P:=Tryz.prog) none c3;refine⟨_,_,hr3,.inl ⟨rfl,⟨hI _ _ _ (Sim.put D Bs W3 (D+1) _ _ (by omega) c3 rfl) hi,?_,(World.putObj_heap_other (by omega)).trans c2⟩,(World.putObj_heap_other (by omega)).trans hs⟩⟩
      rw[World.putObj_heap_same (blk_lt c3),hrec];rfl
    |ret=>
      obtain⟨hk,hi⟩:=hp;have c1:=hk.same _ _ (by omega) b1 nc
      have c2:=hk.same _ _ (Nat.le_refl _) b2 rfl;have c3:W3.heap[D+1]?=some (.loop { rec .ready none with state:=.busy }):=by rw[c1,hbusy]
      have hr3:=run_endRound (P:=Tryz.prog) (some .ret) c3;refine⟨_,_,hr3,.inr ⟨rfl,hIx _ _ (Sim.put D Bs W3 (D+1) _ _ (by omega) c3 rfl) hi,?_,(World.putObj_heap_other (by omega)).trans c2⟩⟩
      rw[World.putObj_heap_same (blk_lt c3),hrec];rfl
    |exit id=>exact hp.elim
    |goto t=>exact hp.elim
    |panic ch=>exact hp.elim
    |outgrown=>exact hp.elim
  · -- the text that is left, where the rounds begin
    rw[←hW1];have h1:=(Below.heap_alloc w (.deferred (some [])) Bs hBs).trans hB;exact(Below.heap_alloc (w.alloc (.deferred (some []))) (.loop (rec .ready none)) Bs (by rw[World.size_alloc];omega)).trans h1
  · -- behind the iterator
    rintro e W2 ⟨⟨v,rfl⟩,(⟨r,hr,h1,h2,h3⟩|⟨h1,h2,h3⟩)⟩
    · have he:=run_endLoop (P:=Tryz.prog) h2 (by rw[hrec];simp)
      rw[hrec]at he
      exact⟨none,_,he,hdone D r _ (Nat.le_refl _) hr (hI _ _ _ (Sim.put D Bs W2 (D+1) _ _ (by omega) h2 rfl) h1) ((World.putObj_heap_other (by omega)).trans h3)⟩
    · have he:=run_endLoop (P:=Tryz.prog) h2 (by rw[hrec];simp)
      rw[hrec]at he
      exact⟨some .ret,_,he,hstop D _ (Nat.le_refl _) (hIx _ _ (Sim.put D Bs W2 (D+1) _ _ (by omega) h2 rfl) h1) ((World.putObj_heap_other (by omega)).trans h3)⟩
end Go.Proofs.YtmklpbmlgjkbiaaGreatDoor.PS
end
section
namespace Go.Proofs.YtmklpbmlgjkbiaaGreatDoor.PS
open Go.RowKit Go.Proofs.YtmklpbmlgjkbiaaGreatDoorW.PrintWords Go.Proofs.YtmklpbmlgjkbiaaGreatDoorW.PrintLast
def Env (w:World):Prop:=TabErrs w∧ ∃m,w.cell? ⟨0,0,none⟩=some (.int .i64 m)
theorem Env.below {w w':World} (h:Env w) (hb:Below w.heap.size w w'):Env w':=by
  obtain⟨h1,m,h2⟩:=h;exact⟨⟨h1.1.below hb,h1.2.below hb⟩,m,(hb.cell (World.block_lt_of_cell? w _ h2)).trans h2⟩
def Words (x:ByteArray) (W:World) (e:Ending) (w':World):Prop:= ∃g N:Nat,e= .returned (.slice (some ⟨g,0,none⟩) N N)∧N=(piecesB x).length∧1≤N∧Below W.heap.size W w'∧w'.heap[g]?=some (.cells ((piecesB x).map Value.string).toArray 9 (0,0))∧W.heap.size≤g
theorem split_any (x:ByteArray) (w:World) (hs:x.size≤24) (hE:Env w):Calls Tryz.prog 46 #[.string x,.string ⟨#[32]⟩] w (Words x w):=by
  obtain⟨-,m,hm⟩:=hE;have hl:(piecesB x).length=Lib.countB x ⟨#[32]⟩+1:=Lib.splitB_all _ (by decide) 0 _ x rfl
  refine(Tryz.strings_Split x ⟨#[32]⟩ m w (by omega) hm (by decide)).mono ?_
  rintro e w' ⟨rfl,rfl⟩
  exact⟨w.heap.size,_,rfl,hl.symm,by omega,below_alloc (Below.refl _ _) _,blk_new _ _,Nat.le_refl _⟩
theorem reads_long {x:ByteArray} (h:24<x.size):Reads x 0 0 0 0 0 0 false:=.inr ⟨rfl,⟨rfl,rfl,rfl,rfl,rfl,rfl⟩,fun a b c d f g _ e=>by have:=opText_le (k:=a) (r:=b) (s:=c) (t:=d) (vk:=f) (vn:=g);rw[e]at this;omega⟩
def zero6:Obj:=.cells #[.int .i64 0,.int .i64 0,.int .i64 0,.int .i64 0,.int .i64 0,.int .i64 0] 39 (0,0)
def OR (x:ByteArray) (w W:World) (g N B:Nat):Prop:=Hold w W w.heap.size zero6∧W.heap[g]?=some (.cells ((piecesB x).map Value.string).toArray 9 (0,0))∧W.heap[B]?=some (.cells #[.slice (some ⟨g,0,none⟩) N N] 34 (0,0))
theorem OR.step {x:ByteArray} {w W W':World} {g N B:Nat} (h:OR x w W g N B) (hb:Below W.heap.size W W'):OR x w W' g N B:=⟨h.1.step hb,blk_below h.2.1 hb,blk_below h.2.2 hb⟩
theorem OR.below {x:ByteArray} {w W:World} {g N B:Nat} (h:OR x w W g N B):Below w.heap.size w W:=h.1.below
theorem OR.alloc {x:ByteArray} {w W:World} {g N B:Nat} (h:OR x w W g N B) (o:Obj):OR x w (W.alloc o) g N B:=h.step (below_alloc (Below.refl _ _) o)
theorem OR.word {x:ByteArray} {w W:World} {g N B:Nat} (h:OR x w W g N B) (i:Nat) (hi:i<(piecesB x).length):W.cell? ⟨g,i,none⟩=some (.string (word x i)):=by
  refine(blk_cell h.2.1 i).trans ?_
  rw[List.getElem?_toArray,List.getElem?_map,List.getElem?_eq_getElem hi];unfold PS.word;simp[List.getElem?_eq_getElem hi]
theorem OR.box {x:ByteArray} {w W:World} {g N B:Nat} (h:OR x w W g N B):W.cell? ⟨B,0,none⟩=some (.slice (some ⟨g,0,none⟩) N N):=(blk_cell h.2.2 0).trans rfl
def KindOf (x:ByteArray) (W:World) (e:Ending) (w':World):Prop:= ∃i:Int,e= .returned (.int .i64 i)∧FirstAt (fun m=>m.f0.toList==(word x 0).toList) mannersL i∧Below W.heap.size W w'
theorem kind_any {x:ByteArray} {w W:World} {g N B gm:Nat} (h:OR x w W g N B) (h1:1≤(piecesB x).length) (hN:1≤N) {V:World} (hm:IsManners V W gm):
    Calls Tryz.prog 47 #[.slice (some ⟨gm,0,none⟩) 15 15,.func (.func 49) #[] #[.pointer (some ⟨B,0,none⟩)]] W (KindOf x W):=
  index_man (fun m=>m.f0.toList==(word x 0).toList) 49 #[.pointer (some ⟨B,0,none⟩)] (fun _ _=>by kernel_rfl) (some ⟨gm,0,none⟩) 15 mannersL W (manners_C hm) (by decide) fun W' y hb=>by
    have hh:=h.step hb;refine(match_any y.f0 y.f1 y.f2 y.f3 B g N N (word x 0) W' hh.2.2 (hh.word 0 h1) hN).mono ?_
    rintro e w' ⟨rfl,hb'⟩
    exact⟨rfl,below_step hb hb'⟩
def ptrR (O:Nat):Value→Option (DataW Unit×List MemPlace)
  | .pointer none=>some (.lit (.int .i64 (-1)),[])
  | .pointer (some ⟨b,j,none⟩)=>if b=O then some (.lit (.int .i64 j),[])else none
  |_=>none
theorem ptrR_mk (O j:Nat):ptrR O (.pointer (some ⟨O,j,none⟩))=some (.lit (.int .i64 j),[]):=by simp[ptrR]
theorem ptrR_inv {O j:Nat} {v:Value} {ps:List MemPlace} (h:ptrR O v=some (.lit (.int .i64 j),ps)):v= .pointer (some ⟨O,j,none⟩):=by
  unfold ptrR at h;split at h
  · simp at h
  · split at h
    · rename_i b j' e
      simp at h
      obtain⟨h, -⟩:=h;obtain rfl:j'=j:=by omega
      rw[e]
    · cases h
  · cases h
def D3:DataW Unit:=(((DataW.map []).put (.int .i32 82) (.lit (.int .i64 1))).put (.int .i32 83) (.lit (.int .i64 2))).put (.int .i32 84) (.lit (.int .i64 3))
def OM (W:World) (O M:Nat):Prop:=W.ownsMap Tryz.prog 21 (ptrR O) M 3 D3
theorem OM.step {W W':World} {O M:Nat} (h:OM W O M) (hb:Below W.heap.size W W'):OM W' O M:=by
  obtain⟨es,clock,h1,h2⟩:=h;exact⟨es,clock,blk_below h1 hb,h2⟩
theorem law21:Maps.Keyed Tryz.prog 21:=Maps.int_keyed Tryz.underlying21
theorem made3 (W:World) (O:Nat): ∃wa wb wc,Sem.run Tryz.prog (Instr.mapUpdate 81 (.map (some W.heap.size)) (.int .i32 82) (.pointer (some ⟨O,1,none⟩))) (W.alloc (.map #[] 0))= .ok () wa∧
    Sem.run Tryz.prog (Instr.mapUpdate 81 (.map (some W.heap.size)) (.int .i32 83) (.pointer (some ⟨O,2,none⟩))) wa= .ok () wb∧
    Sem.run Tryz.prog (Instr.mapUpdate 81 (.map (some W.heap.size)) (.int .i32 84) (.pointer (some ⟨O,3,none⟩))) wb= .ok () wc∧OM wc O W.heap.size∧Below W.heap.size W wc:=by
  have o0:=World.ownsMap_made W Tryz.prog 21 (ptrR O);obtain⟨wa,ra,oa,ga⟩:=o0.update law21 Tryz.underlying81 (by decide) (key:=.int .i32 82) (val:=.pointer (some ⟨O,1,none⟩)) (Maps.keyOf_int_mk Tryz.underlying21 (by decide)) (ptrR_mk O 1)
  obtain⟨wb,rb,ob,gb⟩:=oa.update law21 Tryz.underlying81 (by decide) (key:=.int .i32 83) (val:=.pointer (some ⟨O,2,none⟩)) (Maps.keyOf_int_mk Tryz.underlying21 (by decide)) (ptrR_mk O 2)
  obtain⟨wc,rc,oc,gc⟩:=ob.update law21 Tryz.underlying81 (by decide) (key:=.int .i32 84) (val:=.pointer (some ⟨O,3,none⟩)) (Maps.keyOf_int_mk Tryz.underlying21 (by decide)) (ptrR_mk O 3)
  refine⟨wa,wb,wc,ra,rb,rc,oc,?_⟩
  have b0:=below_alloc (Below.refl W.heap.size W) (.map #[] 0);have b1:=b0.grown ga b0.size (fun k hk=>by cases hk;exact Nat.le_refl _)
  have b2:=b1.grown gb b1.size (fun k hk=>by cases hk;exact Nat.le_refl _)
  exact b2.grown gc b2.size (fun k hk=>by cases hk;exact Nat.le_refl _)
theorem zero89 (w:World):(zeroValue 80).run Tryz.prog w= .ok (.pointer none) w:=by kernel_rfl
theorem look3 {W:World} {O M:Nat} (h:OM W O M):
    Sem.run Tryz.prog (Instr.lookup 81 (.map (some M)) (.int .i32 82) false) W= .ok (.pointer (some ⟨O,1,none⟩)) W∧
    Sem.run Tryz.prog (Instr.lookup 81 (.map (some M)) (.int .i32 83) false) W= .ok (.pointer (some ⟨O,2,none⟩)) W∧
    Sem.run Tryz.prog (Instr.lookup 81 (.map (some M)) (.int .i32 84) false) W= .ok (.pointer (some ⟨O,3,none⟩)) W:=by
  refine⟨?_,?_,?_⟩
  · obtain⟨v,ps,h1,h2⟩:=World.ownsMap.lookup h law21 Tryz.underlying81 (zero89 W) (zd:=.lit (.int .i64 (-1))) (zp:=[]) rfl (key:=.int .i32 82) (Maps.keyOf_int_mk Tryz.underlying21 (by decide))
    have e:=ptrR_inv (O:=O) (j:=1) (v:=v) (ps:=ps) (h2.trans rfl);rw[e]at h1
    exact h1
  · obtain⟨v,ps,h1,h2⟩:=World.ownsMap.lookup h law21 Tryz.underlying81 (zero89 W) (zd:=.lit (.int .i64 (-1))) (zp:=[]) rfl (key:=.int .i32 83) (Maps.keyOf_int_mk Tryz.underlying21 (by decide))
    have e:=ptrR_inv (O:=O) (j:=2) (v:=v) (ps:=ps) (h2.trans rfl);rw[e]at h1
    exact h1
  · obtain⟨v,ps,h1,h2⟩:=World.ownsMap.lookup h law21 Tryz.underlying81 (zero89 W) (zd:=.lit (.int .i64 (-1))) (zp:=[]) rfl (key:=.int .i32 84) (Maps.keyOf_int_mk Tryz.underlying21 (by decide))
    have e:=ptrR_inv (O:=O) (j:=3) (v:=v) (ps:=ps) (h2.trans rfl);rw[e]at h1
    exact h1
theorem OR.far {x:ByteArray} {w W W':World} {g N B k:Nat} (h:OR x w W g N B) (hb:Below w.heap.size w W') (hf: ∀j,j≠k→W'.heap[j]?=W.heap[j]?) (h0:w.heap.size≠k) (hg:g≠k) (hB:B≠k):OR x w W' g N B:=
  ⟨⟨hb,(hf _ h0).trans h.1.blk⟩,(hf _ hg).trans h.2.1,(hf _ hB).trans h.2.2⟩
theorem OR.zero {x:ByteArray} {w W:World} {g N B:Nat} (h:OR x w W g N B):W.heap[w.heap.size]?=some zero6:=h.1.blk
theorem free6 {W:World} {g:Nat} {a b c d e f:Value} {t:TypeId} (h:W.heap[g]?=some (.cells #[a,b,c,d,e,f] t (0,0))):W.frozen? ⟨g,0,none⟩=false∧W.frozen? ⟨g,1,none⟩=false∧W.frozen? ⟨g,2,none⟩=false∧W.frozen? ⟨g,3,none⟩=false∧W.frozen? ⟨g,4,none⟩=false∧W.frozen? ⟨g,5,none⟩=false:=⟨blk_frozen h 0,blk_frozen h 1,blk_frozen h 2,blk_frozen h 3,blk_frozen h 4,blk_frozen h 5⟩
theorem piece_size (sep:ByteArray): ∀ (k:Nat) (s:ByteArray),∀p∈Lib.splitB sep 0 k s,p.size≤s.size
  |0,s,p,h=>by
    unfold Lib.splitB at h;rw[List.mem_singleton]at h
    rw[h];exact Nat.le_refl _
  |k+1,s,p,h=>by
    unfold Lib.splitB at h;split at h
    · rw[List.mem_singleton]at h
      rw[h];exact Nat.le_refl _
    · rcases List.mem_cons.1 h with h|h
      · rw[h,ByteArray.size_extract];omega
      · have:=piece_size sep k _ p h
        rw[ByteArray.size_extract]at this;omega
theorem word_size {x X:ByteArray} {i:Nat} (hz:x.size≤24) (h:X=PS.word x i):X.size≤1048576:=by
  rw[h];unfold PS.word;rw[List.getD_eq_getElem?_getD];rcases Nat.lt_or_ge i (piecesB x).length with hi|hi
  · rw[List.getElem?_eq_getElem hi]
    have:=piece_size _ _ x _ (List.getElem_mem hi:(piecesB x)[i]∈Lib.splitB _ 0 _ x);show((piecesB x)[i]).size≤_
    omega
  · rw[List.getElem?_eq_none hi]
    exact Nat.zero_le _
theorem below6 {w W:World} (h:Below w.heap.size w W) (a b c d e f:Value):Below w.heap.size w ((((((W.setCell ⟨w.heap.size,0,none⟩ a).setCell ⟨w.heap.size,1,none⟩ b).setCell ⟨w.heap.size,2,none⟩ c).setCell ⟨w.heap.size,3,none⟩ d).setCell ⟨w.heap.size,4,none⟩ e).setCell ⟨w.heap.size,5,none⟩ f):=
  below_set0 (below_set0 (below_set0 (below_set0 (below_set0 (below_set0 h _ _) _ _) _ _) _ _) _ _) _ _
def SomeNum (X:ByteArray) (W:World) (e:Ending) (w':World):Prop:= ∃ (v:Int) (er:Value),e= .returned (.tuple #[.int .i64 v,er])∧(∀m,Lib.atoiAll X.data.toList= .ok m→v=m)∧Below W.heap.size W w'
theorem some_num (X:ByteArray) (W:World) (hz:X.size≤1048576) (hE:Errs W):Calls Tryz.prog 52 #[.string X] W (SomeNum X W):=by
  by_cases h: ∃v,Lib.atoiAll X.data.toList= .ok v
  · obtain⟨v,h⟩:=h
    refine(atoi_yes X v W hz h).mono ?_
    rintro e w' ⟨rfl,hb⟩
    exact⟨v,_,rfl,fun m hm=>by rw[h]at hm;injection hm,hb⟩
  · refine(atoi_no X W hz hE fun v hv=>h ⟨v,hv⟩).mono ?_
    rintro e w' ⟨v,N,rfl,hb⟩
    exact⟨v,_,rfl,fun m hm=>absurd ⟨m,hm⟩ h,hb⟩
theorem how_size (k:Int):(howR k).f1.size≤4:=by
  revert k;refine fun k=>kinds (P:=fun k=>(howR k).f1.size≤4) (fun k hk=>by unfold howR;rw[if_neg hk];decide) ?_ ?_ ?_ ?_ ?_ ?_ ?_ ?_ ?_ ?_ ?_ ?_ ?_ ?_ k<;>decide
def LO (x:ByteArray) (w W:World) (g N B O M I:Nat) (F:ByteArray) (n:Nat) (cs:Array Value):Prop:=
  OR x w W g N B∧W.heap[O]?=some (.cells cs 39 (0,0))∧OM W O M∧W.heap[I]?=some (.stringIter F n)∧w.heap.size<O∧w.heap.size<I
theorem LO.below {x:ByteArray} {w W:World} {g N B O M I n:Nat} {F:ByteArray} {cs:Array Value} (h:LO x w W g N B O M I F n cs):Below w.heap.size w W:=h.1.below
theorem LO.orr {x:ByteArray} {w W:World} {g N B O M I n:Nat} {F:ByteArray} {cs:Array Value} (h:LO x w W g N B O M I F n cs):OR x w W g N B:=h.1
theorem LO.blk {x:ByteArray} {w W:World} {g N B O M I n:Nat} {F:ByteArray} {cs:Array Value} (h:LO x w W g N B O M I F n cs):W.heap[O]?=some (.cells cs 39 (0,0)):=h.2.1
theorem LO.map {x:ByteArray} {w W:World} {g N B O M I n:Nat} {F:ByteArray} {cs:Array Value} (h:LO x w W g N B O M I F n cs):OM W O M:=h.2.2.1
theorem LO.it {x:ByteArray} {w W:World} {g N B O M I n:Nat} {F:ByteArray} {cs:Array Value} (h:LO x w W g N B O M I F n cs):W.heap[I]?=some (.stringIter F n):=h.2.2.2.1
theorem LO.step {x:ByteArray} {w W W':World} {g N B O M I n:Nat} {F:ByteArray} {cs:Array Value} (h:LO x w W g N B O M I F n cs) (hb:Below W.heap.size W W'):LO x w W' g N B O M I F n cs:=
  ⟨h.1.step hb,blk_below h.2.1 hb,h.2.2.1.step hb,blk_below h.2.2.2.1 hb,h.2.2.2.2⟩
theorem LO.iter {x:ByteArray} {w W:World} {g N B O M I n:Nat} {F:ByteArray} {cs:Array Value} (h:LO x w W g N B O M I F n cs) (m:Nat):LO x w (W.iterAt I F m) g N B O M I F m cs:=by
  obtain⟨h1,h2,h3,h4,h5,h6⟩:=h;have hf: ∀j,j≠I→(W.iterAt I F m).heap[j]?=W.heap[j]?:=fun j hj=>Lib.iterAt_other W I j F m hj
  obtain⟨es,clock,h7,h8⟩:=h3;refine⟨h1.far (Lib.below_iterAt h1.below (by omega) F m) hf (by omega) ?_ ?_,(hf _ ?_).trans h2,⟨es,clock,(hf _ ?_).trans h7,h8⟩,Lib.iterAt_heap W I F n m h4,h5,h6⟩
  · rintro rfl;rw[h1.2.1]at h4;cases h4
  · rintro rfl;rw[h1.2.2]at h4;cases h4
  · rintro rfl;rw[h2]at h4;cases h4
  · rintro rfl;rw[h7]at h4;cases h4
theorem LO.put {x:ByteArray} {w W:World} {g N B O M I n:Nat} {F:ByteArray} {cs:Array Value} (h:LO x w W g N B O M I F n cs) (j:Nat) (u:Value):LO x w (W.setCell ⟨O,j,none⟩ u) g N B O M I F n (cs.setIfInBounds j u):=by
  obtain⟨h1,h2,h3,h4,h5,h6⟩:=h;have hf: ∀i,i≠O→(W.setCell ⟨O,j,none⟩ u).heap[i]?=W.heap[i]?:=fun i hi=>Below.heap_setCell W ⟨O,j,none⟩ u i hi
  obtain⟨es,clock,h7,h8⟩:=h3;refine⟨h1.far (below_set h1.below (by omega)) hf (by omega) ?_ ?_,blk_set h2 j u,⟨es,clock,(hf _ ?_).trans h7,h8⟩,(hf _ ?_).trans h4,h5,h6⟩
  · rintro rfl;rw[h1.2.1]at h2;cases h2
  · rintro rfl;rw[h1.2.2]at h2;cases h2
  · rintro rfl;rw[h7]at h2;cases h2
  · rintro rfl;rw[h4]at h2;cases h2
def OpAns (x:ByteArray) (w:World) (e:Ending) (w':World):Prop:= ∃ (k r s t vk vn:Int) (ok:Bool),e= .returned (.tuple #[.agg #[.int .i64 k,.int .i64 r,.int .i64 s,.int .i64 t,.int .i64 vk,.int .i64 vn],.bool ok])∧Reads x k r s t vk vn ok∧Below w.heap.size w w'
theorem impl_OpRead_any (x:ByteArray) (w:World) (hE:Env w):Calls Tryz.prog 21 #[.string x] w (OpAns x w):=by
  have HE:=Aside0.mk hE;clear hE;by_cases hz:24<x.size
  · have e0:decide ((24:Int)<(x.size:Int))=true:=decide_eq_true (by omega)
    have HZ:=Aside0.mk hz;have HB:=Aside0.mk (Hold.new (Below.refl w.heap.size w) (.cells #[.int .i64 0,.int .i64 0,.int .i64 0,.int .i64 0,.int .i64 0,.int .i64 0] 39));clear hz;go_enter Tryz.func21,Tryz.ntmps21
    go_wp2
    obtain⟨c0,c1,c2,c3,c4,c5⟩:=box6 HB.out.blk;exact bodyPost_ret (v:=.tuple #[.agg #[.int .i64 0,.int .i64 0,.int .i64 0,.int .i64 0,.int .i64 0,.int .i64 0],.bool false]) (by simp[results,Tryz.results21,go_sem,c0,c1,c2,c3,c4,c5]) rfl ⟨0,0,0,0,0,0,false,rfl,reads_long HZ.out,HB.out.below⟩
  have e0:decide ((24:Int)<(x.size:Int))=false:=decide_eq_false (by omega)
  have HS:Aside0 (∀W,Below w.heap.size w W→Calls Tryz.prog 46 #[.string x,.string ⟨#[32]⟩] W (Words x W)):=⟨fun W hW=>split_any x W (by omega) (HE.out.below hW)⟩
  have HM:Aside0 (∀W,Calls Tryz.prog 48 #[] W fun e w'=> ∃g,e= .returned (.slice (some ⟨g,0,none⟩) 15 15)∧IsManners W w' g):=⟨fun W=>manners_any W⟩
  have HB:=Aside0.mk (Hold.new (Below.refl w.heap.size w) (.cells #[.int .i64 0,.int .i64 0,.int .i64 0,.int .i64 0,.int .i64 0,.int .i64 0] 39));have HZ:=Aside0.mk hz;clear hz;go_enter Tryz.func21,Tryz.ntmps21
  go_upto_region 4 with (go_at_call 46;(with_reducible refine(HS.out _ HB.out.below).mono ?_);rintro e w1 ⟨g,N,rfl,hN,hN1,hb,hw,hg⟩;replace HB:=Aside0.mk (HB.out.step hb);clear hb;have HW:=Aside0.mk hw;have HN:=Aside0.mk (show _∧_∧_ from⟨hN,hN1,hg⟩);clear hw hN hN1 hg)
  have HR:Aside0 (OR x w (w1.alloc (.cells #[.slice (some ⟨g,0,none⟩) N N] 34)) g N w1.heap.size):=⟨⟨HB.out.alloc _,blk_alloc HW.out _,blk_new _ _⟩⟩;clear HB HW HS;obtain⟨B,hB⟩: ∃B,B=w1.heap.size:=⟨_,rfl⟩;rw[←hB]at HR⊢
  clear hB
  go_upto_region 5 with (first
    |(go_at_call 48;(with_reducible refine(HM.out _).mono ?_);rintro e w2 ⟨gm,rfl,hm⟩;replace HR:=Aside0.mk (HR.out.step hm.1);have HI:=Aside0.mk (kind_any HR.out (by have:=HN.out;omega) HN.out.2.1 hm);clear hm)
    |(go_at_call 47;(with_reducible refine(HI.out).mono ?_);rintro e w3 ⟨k,rfl,hk,hb⟩;replace HR:=Aside0.mk (HR.out.step hb);have HK:=Aside0.mk hk;clear hk hb HI HM))
  have HO:Aside0 (OR x w (w3.alloc (.cells #[.int .i64 k,.int .i64 0,.int .i64 0,.int .i64 0,.int .i64 0,.int .i64 0] 39)) g N B∧(w3.alloc (.cells #[.int .i64 k,.int .i64 0,.int .i64 0,.int .i64 0,.int .i64 0,.int .i64 0] 39)).heap[w3.heap.size]?=some (cells6 k 0 0 0 0 0)):=⟨HR.out.alloc _,blk_new _ _⟩;have HOL:=Aside0.mk HR.out.1.lt;clear HR;obtain⟨O,hO⟩: ∃O,O=w3.heap.size:=⟨_,rfl⟩;rw[←hO]at HO HOL⊢
  clear hO;revert HO
  generalize w3.alloc (.cells #[.int .i64 k,.int .i64 0,.int .i64 0,.int .i64 0,.int .i64 0,.int .i64 0] 39)=w4;intro HO;obtain⟨wa,wb,wc,ra,rb,rc,oc,bc⟩:=made3 w4 O;have rm:= @run_makeMap Tryz.prog;have HO2:Aside0 (OR x w wc g N B∧wc.heap[O]?=some (cells6 k 0 0 0 0 0)∧OM wc O w4.heap.size):=⟨HO.out.1.step bc,blk_below HO.out.2 bc,oc⟩;clear oc bc HO;have HW:Aside0 (∀k r s t vk vn W,Calls Tryz.prog 50 #[.agg #[.int .i64 k,.int .i64 r,.int .i64 s,.int .i64 t,.int .i64 vk,.int .i64 vn]] W fun e w'=>e= .returned (.agg #[.string (howR k).f0,.string (howR k).f1,.string (howR k).f2,.bool (howR k).f3])∧Below W.heap.size W w'):=⟨fun k r s t vk vn W=>impl_Op_how.calls k r s t vk vn (howR k).f0 (howR k).f1 (howR k).f2 (howR k).f3 W rfl⟩
  obtain⟨M,hM⟩: ∃M,M=w4.heap.size:=⟨_,rfl⟩;rw[←hM]at ra rb rc HO2
  have rm4:Sem.run Tryz.prog (Instr.makeMap 81 none) w4= .ok (.map (some M)) (w4.alloc (.map #[] 0)):=by rw[hM];exact rm 81 w4
  clear hM rm;have hfd: ∀ (a b c d:Value) (W:World),Sem.run Tryz.prog (Instr.field 77 (.agg #[a,b,c,d]) 1) W= .ok b W:=fun _ _ _ _ _=>by kernel_rfl
  go_upto_region 6 with (fail)
  clear ra rb rc rm4;obtain⟨c0,c1,c2,c3,c4,c5⟩:=box6 HO2.out.2.1;go_upto_block 0 with (go_at_call 50;(with_reducible refine(HW.out _ _ _ _ _ _ _).mono ?_);rintro e w5 ⟨rfl,hb⟩;have HO3:Aside0 (OR x w w5 g N B∧w5.heap[O]?=some (cells6 k 0 0 0 0 0)∧OM w5 O M):=⟨HO2.out.1.step hb,blk_below HO2.out.2.1 hb,HO2.out.2.2.step hb⟩;clear hb HO2 c0 c1 c2 c3 c4 c5)
  obtain⟨F,hF⟩: ∃F,F=(howR k).f1:=⟨_,rfl⟩;rw[←hF];have HF:=Aside0.mk hF;have HL:Aside0 (LO x w (w5.iter F 0) g N B O M w5.heap.size F 0 #[.int .i64 k,.int .i64 0,.int .i64 0,.int .i64 0,.int .i64 0,.int .i64 0]):=⟨⟨HO3.out.1.alloc _,blk_alloc HO3.out.2.1 _,HO3.out.2.2.step (below_alloc (Below.refl _ _) _),blk_new _ _,HOL.out,HO3.out.1.1.lt⟩⟩;clear HO3 hF;obtain⟨I,hI⟩: ∃I,I=w5.heap.size:=⟨_,rfl⟩;rw[←hI]at HL⊢
  clear hI;have HI:Aside0 (Inv x 0 k 0 0 0 0 0):=⟨inv_zero HK.out⟩;go_wp2
  go_loopg [7,8] F.size (fun gg _ _ wr=> ∃ (n:Nat) (r s t vk vn:Int),n≤F.size∧F.size-n≤gg∧Aside0 (LO x w wr g N B O M I F n #[.int .i64 k,.int .i64 r,.int .i64 s,.int .i64 t,.int .i64 vk,.int .i64 vn])∧Aside0 (Inv x n k r s t vk vn))
  case atStart=>exact⟨0,0,0,0,0,0,Nat.zero_le _,Nat.sub_le _ _,HL,HI⟩
  case round=>
    clear HL HI HK;obtain⟨n,r,s,t,vk,vn,hn,hgg,HL,HI⟩:=hrel;by_cases hlt:n<F.size
    · have hcm:F[n]=82∨F[n]=83∨F[n]=84∨F[n]=86:=how_mem (k:=k) (by rw[←HF.out];exact Array.getElem_mem_toList hlt)
      have hnext: ∀ty,(Instr.next (.pointer (some ⟨I,0,none⟩)) true ty).run Tryz.prog wr= .ok (.tuple #[.bool true,.int .i64 n,.int .i32 (F[n]'hlt).toNat]) (wr.iterAt I F (n+1)):=fun ty=>Lib.run_next_ascii_at wr I F n ty HL.out.it hlt (by rcases hcm with h|h|h|h<;>rw[h]<;>decide)
      have HL1:=Aside0.mk (HL.out.iter (n+1));clear HL;have hF4:F.size≤4:=by rw[HF.out];exact how_size k
      have hwr:IntKind.i64.wrap ((n:Int)+1)=(n:Int)+1:=by rw[IntKind.wrap_i64];omega
      have HLT:=Aside0.mk hlt;revert HL1
      generalize wr.iterAt I F (n+1)=W1 at hnext⊢
      intro HL1;have cb:=HL1.out.orr.box;by_cases hs:N≤n+1
      · have e1:decide ((N:Int)≤(n:Int)+1)=true:=decide_eq_true (by omega)
        have HS:=Aside0.mk hs;obtain⟨z0,z1,z2,z3,z4,z5⟩:=box6 HL1.out.orr.zero;obtain⟨f0,f1,f2,f3,f4,f5⟩:=free6 HL1.out.orr.zero;clear hs hcm;go_wp2
        exact bodyPost_ret (v:=.tuple #[.agg #[.int .i64 0,.int .i64 0,.int .i64 0,.int .i64 0,.int .i64 0,.int .i64 0],.bool false]) (by simp[results,Tryz.results21,go_sem,z0,z1,z2,z3,z4,z5]) rfl ⟨0,0,0,0,0,0,false,rfl,inv_short HI.out HF.out HLT.out (by have:=HN.out.1;have:=HS.out;omega),below6 HL1.out.below _ _ _ _ _ _⟩
      · have e1:decide ((N:Int)≤(n:Int)+1)=false:=decide_eq_false (by omega)
        have hnz:(0:Int)≤(n:Int)+1:=by omega
        have hnN:(n:Int)+1<(N:Int):=by omega
        have htn:((n:Int)+1).toNat=n+1:=by omega
        have cw:=HL1.out.orr.word (n+1) (by have:=HN.out.1;omega)
        obtain⟨X,hX⟩: ∃X,X=PS.word x (n+1):=⟨_,rfl⟩;rw[←hX]at cw
        have HX:=Aside0.mk hX;clear hX;rcases hcm with hc|hc|hc|hc
        · have hc0:(F[n]'hlt).toNat=82:=by rw[hc];rfl
          rw[hc0]at hnext
          have HC:=Aside0.mk hc;clear hc hc0;have HLD:=Aside0.mk (HL1.out.step (below_drew (Below.refl W1.heap.size W1)));have l1:=(look3 HLD.out.map).1;have HAT:Aside0 (∀W,Below w.heap.size w W→Calls Tryz.prog 52 #[.string X] W (SomeNum X W)):=⟨fun W hW=>some_num X W (word_size (by have:=HZ.out;omega) HX.out) (HE.out.below hW).1.2⟩
          go_upto_region 9 with (fail)
          go_region_held3 (fun W'=>W'.cell? ⟨B,0,none⟩=some (.slice (some ⟨g,0,none⟩) N N)∧W'.cell? ⟨g,n+1,none⟩=some (.string X)∧Sem.run Tryz.prog (Instr.lookup 81 (.map (some M)) (.int .i32 82) false) W'= .ok (.pointer (some ⟨O,1,none⟩)) W') (go_keep) ((go_at_call 52;(with_reducible refine(HAT.out _ HLD.out.below).mono ?_);rintro e W2 ⟨v,er,rfl,hv,hb⟩;have HL2:=Aside0.mk (HLD.out.step hb);have HVV:=Aside0.mk hv;clear hv hb;have cb2:=HL2.out.orr.box;have cw2:=HL2.out.orr.word (n+1) (by have:=HN.out.1;omega);rw[←HX.out]at cw2;have l12:=(look3 HL2.out.map).1;obtain⟨d0,d1,d2,d3,d4,d5⟩:=box6 HL2.out.blk;obtain⟨g0,g1,g2,g3,g4,g5⟩:=free6 HL2.out.blk;have HL3:=Aside0.mk (HL2.out.put 1 (.int .i64 v));have cb3:=HL3.out.orr.box;have cw3:=HL3.out.orr.word (n+1) (by have:=HN.out.1;omega);rw[←HX.out]at cw3;have l13:=(look3 HL3.out.map).1))
          all_goals
            have HV:=Aside0.mk ((inv_num HI.out HF.out hlt (fun m hm=>HVV.out m (by rw[HX.out];exact hm))).1 HC.out)
            go_wp2
            go_roundg (gk-1)
            case measure=>omega
            case rel=>exact⟨n+1,v,s,t,vk,vn,by omega,by omega,HL3,HV⟩
        · have hc0:(F[n]'hlt).toNat=83:=by rw[hc];rfl
          rw[hc0]at hnext
          have HC:=Aside0.mk hc;clear hc hc0;have HLD:=Aside0.mk (HL1.out.step (below_drew (Below.refl W1.heap.size W1)));have l1:=(look3 HLD.out.map).2.1;have HAT:Aside0 (∀W,Below w.heap.size w W→Calls Tryz.prog 52 #[.string X] W (SomeNum X W)):=⟨fun W hW=>some_num X W (word_size (by have:=HZ.out;omega) HX.out) (HE.out.below hW).1.2⟩
          go_upto_region 9 with (fail)
          go_region_held3 (fun W'=>W'.cell? ⟨B,0,none⟩=some (.slice (some ⟨g,0,none⟩) N N)∧W'.cell? ⟨g,n+1,none⟩=some (.string X)∧Sem.run Tryz.prog (Instr.lookup 81 (.map (some M)) (.int .i32 83) false) W'= .ok (.pointer (some ⟨O,2,none⟩)) W') (go_keep) ((go_at_call 52;(with_reducible refine(HAT.out _ HLD.out.below).mono ?_);rintro e W2 ⟨v,er,rfl,hv,hb⟩;have HL2:=Aside0.mk (HLD.out.step hb);have HVV:=Aside0.mk hv;clear hv hb;have cb2:=HL2.out.orr.box;have cw2:=HL2.out.orr.word (n+1) (by have:=HN.out.1;omega);rw[←HX.out]at cw2;have l12:=(look3 HL2.out.map).2.1;obtain⟨d0,d1,d2,d3,d4,d5⟩:=box6 HL2.out.blk;obtain⟨g0,g1,g2,g3,g4,g5⟩:=free6 HL2.out.blk;have HL3:=Aside0.mk (HL2.out.put 2 (.int .i64 v));have cb3:=HL3.out.orr.box;have cw3:=HL3.out.orr.word (n+1) (by have:=HN.out.1;omega);rw[←HX.out]at cw3;have l13:=(look3 HL3.out.map).2.1))
          all_goals
            have HV:=Aside0.mk ((inv_num HI.out HF.out hlt (fun m hm=>HVV.out m (by rw[HX.out];exact hm))).2.1 HC.out)
            go_wp2
            go_roundg (gk-1)
            case measure=>omega
            case rel=>exact⟨n+1,r,v,t,vk,vn,by omega,by omega,HL3,HV⟩
        · have hc0:(F[n]'hlt).toNat=84:=by rw[hc];rfl
          rw[hc0]at hnext
          have HC:=Aside0.mk hc;clear hc hc0;have HLD:=Aside0.mk (HL1.out.step (below_drew (Below.refl W1.heap.size W1)));have l1:=(look3 HLD.out.map).2.2;have HAT:Aside0 (∀W,Below w.heap.size w W→Calls Tryz.prog 52 #[.string X] W (SomeNum X W)):=⟨fun W hW=>some_num X W (word_size (by have:=HZ.out;omega) HX.out) (HE.out.below hW).1.2⟩
          go_upto_region 9 with (fail)
          go_region_held3 (fun W'=>W'.cell? ⟨B,0,none⟩=some (.slice (some ⟨g,0,none⟩) N N)∧W'.cell? ⟨g,n+1,none⟩=some (.string X)∧Sem.run Tryz.prog (Instr.lookup 81 (.map (some M)) (.int .i32 84) false) W'= .ok (.pointer (some ⟨O,3,none⟩)) W') (go_keep) ((go_at_call 52;(with_reducible refine(HAT.out _ HLD.out.below).mono ?_);rintro e W2 ⟨v,er,rfl,hv,hb⟩;have HL2:=Aside0.mk (HLD.out.step hb);have HVV:=Aside0.mk hv;clear hv hb;have cb2:=HL2.out.orr.box;have cw2:=HL2.out.orr.word (n+1) (by have:=HN.out.1;omega);rw[←HX.out]at cw2;have l12:=(look3 HL2.out.map).2.2;obtain⟨d0,d1,d2,d3,d4,d5⟩:=box6 HL2.out.blk;obtain⟨g0,g1,g2,g3,g4,g5⟩:=free6 HL2.out.blk;have HL3:=Aside0.mk (HL2.out.put 3 (.int .i64 v));have cb3:=HL3.out.orr.box;have cw3:=HL3.out.orr.word (n+1) (by have:=HN.out.1;omega);rw[←HX.out]at cw3;have l13:=(look3 HL3.out.map).2.2))
          all_goals
            have HV:=Aside0.mk ((inv_num HI.out HF.out hlt (fun m hm=>HVV.out m (by rw[HX.out];exact hm))).2.2 HC.out)
            go_wp2
            go_roundg (gk-1)
            case measure=>omega
            case rel=>exact⟨n+1,r,s,v,vk,vn,by omega,by omega,HL3,HV⟩
        · have hc86:(F[n]'hlt).toNat=86:=by rw[hc];rfl
          rw[hc86]at hnext
          have HC:=Aside0.mk hc;clear hc hc86;obtain⟨va,vb,vok,hrv⟩: ∃a b c,readV X=(a,b,c):=⟨_,_,_,rfl⟩;have HR:Aside0 (∀W,Below w.heap.size w W→Calls Tryz.prog 51 #[.string X] W fun e w'=>e= .returned (.tuple #[.agg #[.int .i64 va,.int .i64 vb],.bool vok])∧Below W.heap.size W w'):=⟨fun W hW=>(impl_ValRead_any X W (word_size (by have:=HZ.out;omega) HX.out) (HE.out.below hW).1.1 (HE.out.below hW).1.2).mono fun e w' ⟨h1,h2⟩=>⟨by rw[h1,hrv],h2⟩⟩
          have HV:Aside0 (Inv x (n+1) k r s t va vb):=⟨inv_val HI.out HF.out hlt (by rw[←HX.out];exact hrv) HC.out⟩
          clear hrv;go_wp2_with (go_at_call 51;(with_reducible refine(HR.out _ HL1.out.below).mono ?_);rintro e W2 ⟨rfl,hb⟩;replace HL1:=Aside0.mk (HL1.out.step hb);clear hb;obtain⟨d0,d1,d2,d3,d4,d5⟩:=box6 HL1.out.blk;obtain⟨g0,g1,g2,g3,g4,g5⟩:=free6 HL1.out.blk)
          go_roundg (gk-1)
          case measure=>omega
          case rel=>exact⟨n+1,r,s,t,va,vb,by omega,by omega,⟨(HL1.out.put 4 (.int .i64 va)).put 5 (.int .i64 vb)⟩,HV⟩
    · have hnext: ∀ty,(Instr.next (.pointer (some ⟨I,0,none⟩)) true ty).run Tryz.prog wr= .ok (.tuple #[.bool false]) wr:=fun ty=>Lib.run_next_end_at wr I F n ty HL.out.it hlt
      have HLT:=Aside0.mk hlt;have HOK:Aside0 (∀W,Calls Tryz.prog 33 #[.agg #[.int .i64 k,.int .i64 r,.int .i64 s,.int .i64 t,.int .i64 vk,.int .i64 vn]] W fun e w'=>e= .returned (.bool (opB k r s t vk vn))∧Below W.heap.size W w'):=⟨fun W=>impl_OpOk.calls k r s t vk vn _ W rfl⟩
      have HTX:Aside0 (∀W,Below w.heap.size w W→Calls Tryz.prog 27 #[.agg #[.int .i64 k,.int .i64 r,.int .i64 s,.int .i64 t,.int .i64 vk,.int .i64 vn]] W fun e w'=>e= .returned (.string (opText k r s t vk vn))∧Below W.heap.size W w'):=⟨fun W hW=>impl_OpText_any k r s t vk vn W (HE.out.below hW).1.1⟩
      have HNO:Aside0 (¬(opB k r s t vk vn=true∧opText k r s t vk vn=x)→Reads x 0 0 0 0 0 0 false):=⟨reads_no HI.out HF.out hlt⟩;have HYES:Aside0 (opB k r s t vk vn=true→opText k r s t vk vn=x→Reads x k r s t vk vn true):=⟨fun h1 h2=>reads_yes (F:=F) (n:=n) h1 h2⟩
      obtain⟨b,hb⟩: ∃b,opB k r s t vk vn=b:=⟨_,rfl⟩;obtain⟨X,hX⟩: ∃X,opText k r s t vk vn=X:=⟨_,rfl⟩;rw[hb]at HOK HNO HYES
      rw[hX]at HTX HNO HYES
      clear hlt hn hb hX;obtain⟨d0,d1,d2,d3,d4,d5⟩:=box6 HL.out.blk;obtain⟨z0,z1,z2,z3,z4,z5⟩:=box6 HL.out.orr.zero;obtain⟨f0,f1,f2,f3,f4,f5⟩:=free6 HL.out.orr.zero;cases b with
      |false=>
        go_wp2_with (go_at_call 33;(with_reducible refine(HOK.out _).mono ?_);rintro e W2 ⟨rfl,hb⟩;replace HL:=Aside0.mk (HL.out.step hb);clear hb z0 z1 z2 z3 z4 z5 f0 f1 f2 f3 f4 f5;obtain⟨z0,z1,z2,z3,z4,z5⟩:=box6 HL.out.orr.zero;obtain⟨f0,f1,f2,f3,f4,f5⟩:=free6 HL.out.orr.zero)
        exact bodyPost_ret (v:=.tuple #[.agg #[.int .i64 0,.int .i64 0,.int .i64 0,.int .i64 0,.int .i64 0,.int .i64 0],.bool false]) (by simp[results,Tryz.results21,go_sem,z0,z1,z2,z3,z4,z5]) rfl ⟨0,0,0,0,0,0,false,rfl,HNO.out (by simp),below6 HL.out.below _ _ _ _ _ _⟩
      |true=>
        by_cases hv:X=x
        · have e2:(X.toList==x.toList)=true:=by rw[hv];simp
          have HV:=Aside0.mk hv;clear hv
          go_wp2_with (first
            |(go_at_call 33;(with_reducible refine(HOK.out _).mono ?_);rintro e W2 ⟨rfl,hb⟩;replace HL:=Aside0.mk (HL.out.step hb);clear hb z0 z1 z2 z3 z4 z5 f0 f1 f2 f3 f4 f5 d0 d1 d2 d3 d4 d5;obtain⟨d0,d1,d2,d3,d4,d5⟩:=box6 HL.out.blk;obtain⟨z0,z1,z2,z3,z4,z5⟩:=box6 HL.out.orr.zero;obtain⟨f0,f1,f2,f3,f4,f5⟩:=free6 HL.out.orr.zero)
            |(go_at_call 27;(with_reducible refine(HTX.out _ HL.out.below).mono ?_);rintro e W3 ⟨rfl,hb⟩;replace HL:=Aside0.mk (HL.out.step hb);clear hb z0 z1 z2 z3 z4 z5 f0 f1 f2 f3 f4 f5 d0 d1 d2 d3 d4 d5;obtain⟨d0,d1,d2,d3,d4,d5⟩:=box6 HL.out.blk;obtain⟨z0,z1,z2,z3,z4,z5⟩:=box6 HL.out.orr.zero;obtain⟨f0,f1,f2,f3,f4,f5⟩:=free6 HL.out.orr.zero))
          exact bodyPost_ret (v:=.tuple #[.agg #[.int .i64 k,.int .i64 r,.int .i64 s,.int .i64 t,.int .i64 vk,.int .i64 vn],.bool true]) (by simp[results,Tryz.results21,go_sem,z0,z1,z2,z3,z4,z5]) rfl ⟨k,r,s,t,vk,vn,true,rfl,HYES.out (by trivial) HV.out,below6 HL.out.below _ _ _ _ _ _⟩
        · have e2 : (X.toList == x.toList) = false := by
            rw[toListD,toListD,beq_eq_false_iff_ne];intro h;exact hv (Go.WideShapes.bytes_inj h)
          have HV:=Aside0.mk hv;clear hv
          go_wp2_with (first
            |(go_at_call 33;(with_reducible refine(HOK.out _).mono ?_);rintro e W2 ⟨rfl,hb⟩;replace HL:=Aside0.mk (HL.out.step hb);clear hb z0 z1 z2 z3 z4 z5 f0 f1 f2 f3 f4 f5 d0 d1 d2 d3 d4 d5;obtain⟨d0,d1,d2,d3,d4,d5⟩:=box6 HL.out.blk;obtain⟨z0,z1,z2,z3,z4,z5⟩:=box6 HL.out.orr.zero;obtain⟨f0,f1,f2,f3,f4,f5⟩:=free6 HL.out.orr.zero)
            |(go_at_call 27;(with_reducible refine(HTX.out _ HL.out.below).mono ?_);rintro e W3 ⟨rfl,hb⟩;replace HL:=Aside0.mk (HL.out.step hb);clear hb z0 z1 z2 z3 z4 z5 f0 f1 f2 f3 f4 f5 d0 d1 d2 d3 d4 d5;obtain⟨d0,d1,d2,d3,d4,d5⟩:=box6 HL.out.blk;obtain⟨z0,z1,z2,z3,z4,z5⟩:=box6 HL.out.orr.zero;obtain⟨f0,f1,f2,f3,f4,f5⟩:=free6 HL.out.orr.zero))
          exact bodyPost_ret (v:=.tuple #[.agg #[.int .i64 0,.int .i64 0,.int .i64 0,.int .i64 0,.int .i64 0,.int .i64 0],.bool false]) (by simp[results,Tryz.results21,go_sem,z0,z1,z2,z3,z4,z5]) rfl ⟨0,0,0,0,0,0,false,rfl,HNO.out (fun h=>HV.out h.2),below6 HL.out.below _ _ _ _ _ _⟩
def cells39 (x:S39):List Value:=[.int .i64 x.f0,.int .i64 x.f1,.int .i64 x.f2,.int .i64 x.f3,.int .i64 x.f4.f0,.int .i64 x.f4.f1]
end Go.Proofs.YtmklpbmlgjkbiaaGreatDoor.PS
end
