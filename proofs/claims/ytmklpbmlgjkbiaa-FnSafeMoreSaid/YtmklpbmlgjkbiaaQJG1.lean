/- What the rows of JG rest on, part 2. -/
import Derived.Test.YtmklpbmlgjkbiaaProg
import Derived.Laws.StructEq
import Derived.Deep.RegionWith
import Derived.Lib.Bytealg
import Derived.Shelf.Strings.Search3
import Derived.WalkSpells
import Derived.Lib.OthersKept
import Derived.Lib.Hide
import Derived.WalkSmall
import Derived.Laws.EntriesVeiled
import Derived.RegionTactic
import Derived.Test.YtmklpbmlgjkbiaaQJG0
set_option linter.unusedVariables false
set_option linter.unusedSimpArgs false
set_option maxHeartbeats 8000000
set_option maxRecDepth 100000
section
namespace Go.Proofs.Ytmklpbmlgjkbiaa.PS
open Go.RowKit Go.Proofs.YtmklpbmlgjkbiaaW.PrintWords Go.Proofs.YtmklpbmlgjkbiaaW.PrintLast Go.Proofs.YtmklpbmlgjkbiaaW.PrintMore
attribute [local go_sem] max2_int min2_int max_two min_two max_three min_three max_four min_four   -- for this text's walks alone
structure S8 where
  f0:Int
  f1:Int
  f2:Bool
  f3:Int
def z8:S8:=⟨(0:Int),(0:Int),false,(0:Int)⟩
section
variable {α:Type} {d:Kd α} {e:Nat} {w:World} {base:Nat} {ok:Nat→Prop} {v:Value} {xs:List α}
end
end Go.Proofs.Ytmklpbmlgjkbiaa.PS
end
section
namespace Go.Proofs.Ytmklpbmlgjkbiaa.PS
open Go.RowKit Go.Proofs.YtmklpbmlgjkbiaaW.PrintWords Go.Proofs.YtmklpbmlgjkbiaaW.PrintLast
def usesV.f (k r s t vk vn:Int):Option (List Int):=some (if opB k r s t vk vn=true then usesL k r s else [])
end Go.Proofs.Ytmklpbmlgjkbiaa.PS
end
section
namespace Go.Proofs.Ytmklpbmlgjkbiaa.PS
inductive Reach (W:Nat→List Way) (n:Nat):Int→Prop
  |first:Reach W n 0
  |next {i:Nat} {a:Way} :Reach W n i→i<n→a∈W i→Reach W n a.1
def Come (W:Nat→List Way) (n:Nat) (o:List Int):Prop:= ∀i:Nat,i<n→0≤at_ o i→Reach W n i
theorem merge_come {W:Nat→List Way} {n i:Nat} {o:List Int} {a:Way} (hW:GoodW W n) (ho:GoodO n o) (hi:i<n) (ha:a∈W i) (h0:0≤at_ o i) (hc:Come W n o):Come W n (mergeW i o a):=by
  obtain⟨t0,t1,hf⟩:=hW i hi a ha;intro j hj h;by_cases e:a.1.toNat=j
  · have:(j:Int)=a.1:=by omega
    rw[this];exact .next (hc i hi h0) hi ha
  · unfold mergeW at h;rw[at_set_ne e]at h;exact hc j hj h
theorem merges_come {W:Nat→List Way} {n i:Nat} (hW:GoodW W n) (hi:i<n): ∀ (L:List Way),(∀a∈L,a∈W i)→ ∀o,GoodO n o→0≤at_ o i→Come W n o→Come W n (L.foldl (mergeW i) o)
  | [],_,o,_,_,hc=>hc
  |a::L,hL,o,ho,h0,hc=>by
    obtain⟨g,d,z⟩:=merge_good hW ho hi (hL a (by simp)) h0
    exact merges_come hW hi L (fun b hb=>hL b (by simp[hb])) _ g z (merge_come hW ho hi (hL a (by simp)) h0 hc)
theorem pass_come {W:Nat→List Way} {n:Nat} (hW:GoodW W n) {o:List Int} (ho:GoodO n o) (hc:Come W n o): ∀m,m≤n→Come W n (passW W m o)
  |0,_=>hc
  |m+1,hm=>by
    have ih:=pass_come hW ho hc m (by omega)
    have g:=(passes_good hW ho m (by omega)).1
    rw[pass_succ];unfold stepW;split
    · exact ih
    · exact merges_come hW (by omega) _ (fun _ h=>h) _ g (by omega) ih
theorem iter_come {W:Nat→List Way} {n:Nat} (hW:GoodW W n): ∀k (o:List Int),GoodO n o→Come W n o→Come W n (iterW W n k o)
  |0,o,_,hc=>hc
  |k+1,o,ho,hc=>iter_come hW k _ (passes_good hW ho n (Nat.le_refl n)).1 (pass_come hW ho hc n (Nat.le_refl n))
theorem start_come (W:Nat→List Way) (n:Nat):Come W n (startO n):=by
  intro i hi h;by_cases e:0=i
  · subst e;exact .first
  · unfold startO at h;rw[at_set_ne e]at h
    simp[at_,List.getD_eq_getElem?_getD,hi]at h
theorem full_reach {W:Nat→List Way} {n:Nat} (hW:GoodW W n) (hn:0<n) {i:Int} :(0≤i∧i<n∧0≤at_ (fullW W n) i) ↔ Reach W n i:=by
  constructor
  · rintro⟨h0,h1,h2⟩
    have:=iter_come hW (mu (startO n)) _ (start_good n) (start_come W n) i.toNat (by omega)
    rw[Int.toNat_of_nonneg h0]at this
    exact this h2
  · intro h
    induction h with
    |first=>exact⟨by omega,by omega,(full_first hW hn).1⟩
    |next _ hi ha ih=>
      obtain⟨t0,t1,hf⟩:=hW _ hi _ ha;exact⟨t0,t1,fix_goes hW (full_good hW) (full_fix hW) hi ih.2.2 ha⟩
theorem step_agree {W W':Nat→List Way} {n:Nat} (ha: ∀i:Nat,i<n→Reach W n i→W' i=W i) {o:List Int} (hc:Come W n o) {i:Nat} (hi:i<n):stepW W' o i=stepW W o i:=by
  unfold stepW;split
  · rfl
  · rw[ha i hi (hc i hi (by omega))]
theorem pass_agree {W W':Nat→List Way} {n:Nat} (hW:GoodW W n) (ha: ∀i:Nat,i<n→Reach W n i→W' i=W i) {o:List Int} (ho:GoodO n o) (hc:Come W n o): ∀m,m≤n→passW W' m o=passW W m o
  |0,_=>rfl
  |m+1,hm=>by
    rw[pass_succ,pass_succ,pass_agree hW ha ho hc m (by omega)]
    exact step_agree ha (pass_come hW ho hc m (by omega)) (by omega)
theorem iter_agree {W W':Nat→List Way} {n:Nat} (hW:GoodW W n) (ha: ∀i:Nat,i<n→Reach W n i→W' i=W i): ∀k (o:List Int),GoodO n o→Come W n o→iterW W' n k o=iterW W n k o
  |0,_,_,_=>rfl
  |k+1,o,ho,hc=>by
    unfold iterW;rw[pass_agree hW ha ho hc n (Nat.le_refl n)];exact iter_agree hW ha k _ (passes_good hW ho n (Nat.le_refl n)).1 (pass_come hW ho hc n (Nat.le_refl n))
theorem full_agree {W W':Nat→List Way} {n:Nat} (hW:GoodW W n) (ha: ∀i:Nat,i<n→Reach W n i→W' i=W i):fullW W' n=fullW W n:=
  iter_agree hW ha _ _ (start_good n) (start_come W n)
theorem at_app {o:List Int} {x:Int} {i:Int} (h0:0≤i) (h:i<o.length):at_ (o++ [x]) i=at_ o i:=by
  unfold at_;rw[List.getD_eq_getElem?_getD,List.getD_eq_getElem?_getD,List.getElem?_append_left (by omega)]
theorem merge_app {i:Nat} {o:List Int} {x:Int} {a:Way} (hi:i<o.length) (h0:0≤a.1) (h1:a.1<o.length):mergeW i (o++ [x]) a=mergeW i o a++ [x]:=by
  unfold mergeW;rw[at_app h0 h1,at_app (by omega) (by omega),List.set_append_left _ _ (by omega)]
theorem merges_app {i:Nat} {x:Int} : ∀ (L:List Way) (o:List Int),i<o.length→(∀a∈L,0≤a.1∧a.1<o.length)→L.foldl (mergeW i) (o++ [x])=L.foldl (mergeW i) o++ [x]
  | [],_,_,_=>rfl
  |a::L,o,hi,h=>by
    have:=h a (by simp)
    rw[List.foldl_cons,List.foldl_cons,merge_app hi this.1 this.2];exact merges_app L _ (by simpa[mergeW]using hi) (fun b hb=>by simpa[mergeW]using h b (by simp[hb]))
theorem step_app {W W':Nat→List Way} {n:Nat} (hW:GoodW W n) (ha: ∀i:Nat,i<n→Reach W n i→W' i=W i) {o:List Int} (ho:GoodO n o) (hc:Come W n o) {i:Nat} (hi:i<n):stepW W' (o++ [-1]) i=stepW W o i++ [-1]:=by
  unfold stepW;rw[at_app (by omega) (by rw[ho.1];omega)]
  split
  · rfl
  · rw[ha i hi (hc i hi (by omega))]
    exact merges_app _ _ (by rw[ho.1];exact hi) (fun a h=>by rw[ho.1];exact⟨(hW i hi a h).1,(hW i hi a h).2.1⟩)
theorem pass_app {W W':Nat→List Way} {n:Nat} (hW:GoodW W n) (ha: ∀i:Nat,i<n→Reach W n i→W' i=W i) {o:List Int} (ho:GoodO n o) (hc:Come W n o): ∀m,m≤n→passW W' m (o++ [-1])=passW W m o++ [-1]
  |0,_=>rfl
  |m+1,hm=>by
    rw[pass_succ,pass_succ,pass_app hW ha ho hc m (by omega)]
    exact step_app hW ha (passes_good hW ho m (by omega)).1 (pass_come hW ho hc m (by omega)) (by omega)
theorem pass_app1 {W W':Nat→List Way} {n:Nat} (hW:GoodW W n) (ha: ∀i:Nat,i<n→Reach W n i→W' i=W i) {o:List Int} (ho:GoodO n o) (hc:Come W n o):passW W' (n+1) (o++ [-1])=passW W n o++ [-1]:=by
  rw[pass_succ,pass_app hW ha ho hc n (Nat.le_refl n)];unfold stepW;rw[if_pos];have hl:=(passes_good hW ho n (Nat.le_refl n)).1.1;unfold at_;rw[List.getD_eq_getElem?_getD,List.getElem?_append_right (by simp[hl])]
  simp[hl]
theorem iter_app {W W':Nat→List Way} {n:Nat} (hW:GoodW W n) (ha: ∀i:Nat,i<n→Reach W n i→W' i=W i): ∀k (o:List Int),GoodO n o→Come W n o→iterW W' (n+1) k (o++ [-1])=iterW W n k o++ [-1]
  |0,_,_,_=>rfl
  |k+1,o,ho,hc=>by
    unfold iterW;rw[pass_app1 hW ha ho hc];exact iter_app hW ha k _ (passes_good hW ho n (Nat.le_refl n)).1 (pass_come hW ho hc n (Nat.le_refl n))
theorem start_app (n:Nat) (hn:0<n):startO (n+1)=startO n++ [-1]:=by
  unfold startO;rw[show List.replicate (n+1) (-1:Int)=List.replicate n (-1)++ [-1]from List.replicate_succ',List.set_append_left _ _ (by simpa using hn)]
theorem full_app {W W':Nat→List Way} {n:Nat} (hW:GoodW W n) (hn:0<n) (ha: ∀i:Nat,i<n→Reach W n i→W' i=W i):fullW W' (n+1)=fullW W n++ [-1]:=by
  have h1:mu (startO (n+1))=mu (startO n)+5:=by rw[start_app n hn];simp[mu,mu1]
  unfold fullW finW;rw[h1,start_app n hn,iter_app hW ha _ _ (start_good n) (start_come W n)];rw[(iter_more hW (mu (startO n)+5) (startO n) (by omega) (start_good n)).1]
  rfl
end Go.Proofs.Ytmklpbmlgjkbiaa.PS
end
section
namespace Go.Proofs.Ytmklpbmlgjkbiaa.PS
open Go.RowKit Go.Proofs.YtmklpbmlgjkbiaaW.PrintWords Go.Proofs.YtmklpbmlgjkbiaaW.PrintLast Go.Proofs.YtmklpbmlgjkbiaaW.PrintMore
attribute [local go_sem] max2_int min2_int max_two min_two max_three min_three max_four min_four   -- for this text's walks alone
def impl_CodeReach.l0:Nat→List Int→List Int→Int→Int→Option (List Int)
 |0,_,_,_,_=>none
 |k+1,x3,x10,x11,x12=>if x12<x11 then(if 0≤x12 then(if x12<(x10.length:Int)then(if(rd x10 x12)≥0 then(if x3.length<17592186044416 then(impl_CodeReach.l0 k (x3++ [x12]) x10 x11 (wrap64 (x12+1)))else(none))else(impl_CodeReach.l0 k x3 x10 x11 (wrap64 (x12+1))))else(none))else(none))else(some x3)
def impl_CodeReach.f (k:Nat) (l0:List (S29)):Option (List Int):=(codeV.f l0).bind fun t338=>(if t338=true then((fullV.f l0).bind fun t339=>(impl_CodeReach.l0 k ([]:List Int) t339 (t339.length:Int) 0))else(some ([]:List Int)))
theorem impl_CodeReach.calls (k:Nat) (A0:Option Addr) (c0:Nat) (l0:List (S29)) (r:List Int) (w:World) (hr0:Kd.C k29 w A0 l0.length l0) (hc0:l0.length≤c0) (h:impl_CodeReach.f k l0=some r):
  Calls Try.prog 42 #[.slice A0 l0.length c0] w fun e w'=> ∃v0_:Value,e= .returned (v0_)∧Kd.R (Kd.int .i64) 3 w' w.heap.size (fun _=>True) v0_ r∧Below w.heap.size w w':=by
 have HR0:=Aside0.mk hr0;have HC0:=Aside0.mk hc0;clear hr0 hc0;have HB:=Aside0.mk (Below.refl w.heap.size w);have H:((codeV.f l0).bind fun t338=>(if t338=true then((fullV.f l0).bind fun t339=>(impl_CodeReach.l0 k ([]:List Int) t339 (t339.length:Int) 0))else(some ([]:List Int))))=some r:=h
 clear h;replace H:=Option.bind_eq_some_iff.mp H;obtain⟨t338,A20,H⟩:=H;replace H:(if t338=true then((fullV.f l0).bind fun t339=>(impl_CodeReach.l0 k ([]:List Int) t339 (t339.length:Int) 0))else(some ([]:List Int)))=some r:=H
 have A2:=Aside0.mk A20;clear A20;by_cases c3:t338=true
 ·subst c3
  have H1:((fullV.f l0).bind fun t339=>(impl_CodeReach.l0 k ([]:List Int) t339 (t339.length:Int) 0))=some r:=by rw[if_pos rfl]at H;exact H
  clear H;have H:=H1;clear H1;replace H:=Option.bind_eq_some_iff.mp H;obtain⟨t339,A40,H⟩:=H;replace H:(impl_CodeReach.l0 k ([]:List Int) t339 (t339.length:Int) 0)=some r:=H;have A4:=Aside0.mk A40;clear A40;have H':=Aside0.mk H;clear H;go_enter Try.func42,Try.ntmps42
  go_wp2_with (first|((with_reducible refine gate_callee (f:=35) rfl ?_);refine goesL_ (some 7) rfl rfl Try.func35 (by kernel_rfl) rfl #[.slice A0 l0.length c0] rfl (by(try simp only[List.map_toArray,List.map_cons,List.map_nil])<;>rfl) ?_;(with_reducible refine(impl_CodeOk.calls _ _ l0 true _ ?side1 ?side2 A2.out).mono ?_);(case side1=>repeat(first|exact HR0.out|(with_reducible refine Kd.C_alloc ?_ _)|(with_reducible refine Kd.C_drewN ?_ _)|(with_reducible refine Kd.C_drew ?_)));(case side2=>exact HC0.out);rintro e w5 ⟨rfl,hb⟩;refine⟨_,rfl,?_⟩;replace HB:=Aside0.mk (below_step (by exact bU HB.out) hb);(try clear hb);(try clear hb2);(try clear hk);(try clear hi))|((with_reducible refine gate_callee (f:=80) rfl ?_);refine goesL_ (some 10) rfl rfl Try.func80 (by kernel_rfl) rfl #[.slice A0 l0.length c0] rfl (by(try simp only[List.map_toArray,List.map_cons,List.map_nil])<;>rfl) ?_;(with_reducible refine(impl_full.calls _ _ l0 t339 _ ?side1 ?side2 A4.out).mono ?_);(case side1=>repeat(first|exact(Kd.C_below HR0.out HB.out)|(with_reducible refine Kd.C_alloc ?_ _)|(with_reducible refine Kd.C_drewN ?_ _)|(with_reducible refine Kd.C_drew ?_)));(case side2=>exact HC0.out);rintro e w6 ⟨v340,rfl,ho0,hb⟩;refine⟨_,rfl,?_⟩;have HO341:=Aside0.mk (Kd.R_lower ho0 (below_size (by exact bU HB.out)));replace HB:=Aside0.mk (below_step (by exact bU HB.out) hb);(try clear hb);(try clear hb2);(try clear hk);(try clear hi);(try clear ho0);obtain⟨Ao7,co7,eo7⟩:=Kd.R_slice HO341.out;subst eo7))
  go_loopg [3,12] k (fun kq v3 v12 w'=> ∃ (x3_1:List Int) (x12_1:Int),v12= .int .i64 x12_1∧Aside0 (impl_CodeReach.l0 kq x3_1 t339 (t339.length:Int) x12_1=some r)∧Aside0 (kq≤k)∧Aside0 (Kd.R (Kd.int .i64) 3 w' w.heap.size (fun k_=>some k_≠((.slice Ao7 t339.length co7):Value).ownBlock) v3 x3_1)∧Aside0 (Kd.R (Kd.int .i64) 3 w' w.heap.size (fun k_=>some k_≠(v3:Value).ownBlock) (.slice Ao7 t339.length co7) t339)∧Aside0 (Below w.heap.size w w'))
  case atStart=>exact⟨(([]:List Int)),(0),(by first|rfl|(simp;done)|(simp[*];done)),H',⟨Nat.le_refl _⟩,⟨by first|exact Kd.R_nil _ _ _ _ _|exact Kd.N_nil _ _ _ _ _|exact Kd.V_nil _ _ _ _ _|exact Kd.Q_nil _ _ _ _ _|exact Kd.S_nil _ _ _ _ _⟩,⟨by(with_reducible repeat(first|apply rA|apply rN|apply rD));exact Kd.R_mono HO341.out (fun _ hk=>(by simp[Value.ownBlock]))⟩,⟨by exact bU HB.out⟩⟩
  case round=>
   clear H';(try clear p2);(try clear c3);(try clear c4)
   obtain⟨x3_1,x12_1,rfl,HA,HK1,HO_3,HO_10,HB⟩:=hrel;cases gk with
   |zero=>exact absurd HA.out (by simp[impl_CodeReach.l0])
   |succ k1=>
    have H:=HA.out;clear HA;simp only[impl_CodeReach.l0]at H
    by_cases c8:x12_1<(t339.length:Int)
    ·rw[if_pos c8]at H
     have c8b0:decide (x12_1<(t339.length:Int))=true:=decide_eq_true c8;clear c8;by_cases c9:0≤x12_1
     ·rw[if_pos c9]at H
      have c9b0:decide (0≤x12_1)=true:=decide_eq_true c9;clear c9;by_cases c10:x12_1<(t339.length:Int)
      ·rw[if_pos c10]at H
       have c10b0:decide (x12_1<(t339.length:Int))=true:=decide_eq_true c10;clear c10;by_cases c11:(rd t339 x12_1)≥0
       ·rw[if_pos c11]at H
        have c11b0:decide (0≤(rd t339 x12_1))=true:=decide_eq_true c11;clear c11;by_cases c12:x3_1.length<17592186044416
        ·rw[if_pos c12]at H
         have LMc12:=Aside0.mk c12;clear c12;obtain⟨y343,hy343⟩: ∃y_:List Int,y_=(x3_1++ [x12_1]):=⟨_,rfl⟩;replace H:(impl_CodeReach.l0 k1 y343 t339 (t339.length:Int) (wrap64 (x12_1+1)))=some r:=by first|(rw[hy343];with_reducible exact H)|(have H2_:=(Option.bind_some _ _).symm.trans H;rw[hy343];with_reducible exact H2_)|(have H2_:=(Option.bind_some _ _).symm.trans H;with_reducible exact H2_)|with_reducible exact H|(rw[hy343];exact H)|exact H
         have Ny343:=Aside0.mk hy343;clear hy343;have H':=Aside0.mk H;clear H;have p342:0≤(x12_1:Int):=of_decide_eq_true (by assumption)
         have q342:x12_1<(t339.length:Int):=of_decide_eq_true (by assumption)
         obtain⟨ad342,e342,hx342_0⟩:=Kd.at_int (Kd.R_reads' HO_10.out).2.2 x12_1 p342 q342;cases e342
         replace p342:=eq_true p342;replace q342:=eq_true q342;go_wp2_with (first|((with_reducible refine gate_builtin (b:=.append) (xs:= #[.tmp 19,.tmp 21]) rfl ?_);at_builtin;refine Kd.R_append (Kd.int .i64) (w0:=w) w.heap.size rfl (.tmp 19) (.tmp 21) 32 3 (.int .i64 0) 8 rfl Try.underlying32 info3 rfl (by decide) (by omega) u3 x3_1 x12_1 [.int .i64 x12_1] (fun k_=>some k_≠(.slice (some ad342) t339.length co7:Value).ownBlock) (fun _=>False) rfl rfl ?aP (fun _ hk=>hk.elim) ?aF ?aO ?aB ?aS ?aL ?_;(case aP=>exact rfl);(case aB=>exact(by exact bU HB.out));(case aF=>exact(fun k_ hk=>Kd.fresh' (Kd.R_lt (by exact rU HO_10.out)) k_ hk));(case aO=>exact(by exact rU HO_3.out));(case aS=>exact(below_size (by exact bU HB.out)));(case aL=>have:=LMc12.out;omega);intro v344 w13 ho hb hg hat;rw[←Ny343.out]at ho;replace HO_10:=Aside0.mk (Kd.R_after (ok:=(fun _=>True)) (by(with_reducible repeat(first|apply rA|apply rN|apply rD));exact Kd.R_mono HO_10.out (fun _ hk=>⟨trivial,hk⟩)) hg hat);replace HB:=Aside0.mk (hb);have HO345:=Aside0.mk (ho);clear HO_3;clear ho hb hg hat))
         go_roundg k1
         case measure=>have:=HK1.out;omega
         case rel=>exact⟨(y343),(wrap64 (x12_1+1)),(by first|rfl|(simp;done)|(simp[*];done)),H',⟨by have:=HK1.out;omega⟩,⟨by exact rU HO345.out⟩,⟨by(with_reducible repeat(first|apply rA|apply rN|apply rD));exact Kd.R_mono HO_10.out (fun _ hk=>hk.2)⟩,⟨by exact bU HB.out⟩⟩
        ·rw[if_neg c12]at H
         exact absurd H (by simp)
       ·rw[if_neg c11]at H
        have c11b0:decide (0≤(rd t339 x12_1))=false:=decide_eq_false c11;clear c11;have H':=Aside0.mk H;clear H;have p342:0≤(x12_1:Int):=of_decide_eq_true (by assumption)
        have q342:x12_1<(t339.length:Int):=of_decide_eq_true (by assumption)
        obtain⟨ad342,e342,hx342_0⟩:=Kd.at_int (Kd.R_reads' HO_10.out).2.2 x12_1 p342 q342;cases e342
        replace p342:=eq_true p342;replace q342:=eq_true q342;go_wp2
        go_roundg k1
        case measure=>have:=HK1.out;omega
        case rel=>exact⟨(x3_1),(wrap64 (x12_1+1)),(by first|rfl|(simp;done)|(simp[*];done)),H',⟨by have:=HK1.out;omega⟩,⟨by exact rU HO_3.out⟩,⟨by exact rU HO_10.out⟩,⟨by exact bU HB.out⟩⟩
      ·rw[if_neg c10]at H
       exact absurd H (by simp)
     ·rw[if_neg c9]at H
      exact absurd H (by simp)
    ·rw[if_neg c8]at H
     have c8b0:decide (x12_1<(t339.length:Int))=false:=decide_eq_false c8;clear c8;obtain rfl:=Option.some.inj H;go_wp2
     go_ret
     exact⟨_,by first|rfl|(simp[errW_none,errW_some]<;>rfl)|(simp[*,errW_none,errW_some]<;>rfl),by(with_reducible repeat(first|apply rA|apply rN|apply rD));exact Kd.R_mono HO_3.out (fun _ hk=>trivial),by exact bU HB.out⟩
 ·replace c3:=Bool.eq_false_iff.mpr c3
  subst c3;have H1:(some ([]:List Int))=some r:=by rw[if_neg (show¬(false=true) by decide)]at H;exact H
  clear H;have H:=H1;clear H1;obtain rfl:=Option.some.inj H;go_enter Try.func42,Try.ntmps42
  go_wp2_with (first|((with_reducible refine gate_callee (f:=35) rfl ?_);refine goesL_ (some 7) rfl rfl Try.func35 (by kernel_rfl) rfl #[.slice A0 l0.length c0] rfl (by(try simp only[List.map_toArray,List.map_cons,List.map_nil])<;>rfl) ?_;(with_reducible refine(impl_CodeOk.calls _ _ l0 false _ ?side1 ?side2 A2.out).mono ?_);(case side1=>repeat(first|exact HR0.out|(with_reducible refine Kd.C_alloc ?_ _)|(with_reducible refine Kd.C_drewN ?_ _)|(with_reducible refine Kd.C_drew ?_)));(case side2=>exact HC0.out);rintro e w14 ⟨rfl,hb⟩;refine⟨_,rfl,?_⟩;replace HB:=Aside0.mk (below_step (by exact bU HB.out) hb);(try clear hb);(try clear hb2);(try clear hk);(try clear hi)))
  go_ret
  exact⟨_,by first|rfl|(simp[errW_none,errW_some]<;>rfl)|(simp[*,errW_none,errW_some]<;>rfl),by first|exact Kd.R_nil _ _ _ _ _|exact Kd.N_nil _ _ _ _ _|exact Kd.V_nil _ _ _ _ _|exact Kd.Q_nil _ _ _ _ _|exact Kd.S_nil _ _ _ _ _,by exact bU HB.out⟩
def laws_lvAmong.l0:Nat→List Int→Int→Int→Option (Bool)
 |0,_,_,_=>none
 |k+1,x0,x1,x5=>if x5<(x0.length:Int)then(if 0≤x5 then(if(rd x0 x5)=x1 then(some true)else(laws_lvAmong.l0 k x0 x1 (wrap64 (x5+1))))else(none))else(some false)
def laws_lvAmong.f (k:Nat) (l0:List Int) (a1:Int):Option (Bool):=laws_lvAmong.l0 k l0 a1 0
theorem laws_lvAmong.calls (k:Nat) (A0:Option Addr) (c0:Nat) (l0:List Int) (a1:Int) (r:Bool) (w:World) (hr0:Kd.C (Kd.int .i64) w A0 l0.length l0) (hc0:l0.length≤c0) (h:laws_lvAmong.f k l0 a1=some r):
  Calls Try.prog 55 #[.slice A0 l0.length c0,.int .i64 a1] w fun e w'=>e= .returned (.bool r)∧Drawn0 w w':=by
 have HR0:=Aside0.mk hr0;have HC0:=Aside0.mk hc0;clear hr0 hc0;have H:(laws_lvAmong.l0 k l0 a1 0)=some r:=h;clear h;have H':=Aside0.mk H;clear H;go_enter Try.func55,Try.ntmps55
 go_wp2
 go_loopg [5] k (fun kq v5 w'=> ∃ (x5_1:Int),v5= .int .i64 x5_1∧Aside0 (laws_lvAmong.l0 kq l0 a1 x5_1=some r)∧Aside0 (kq≤k)∧Drawn0 w w')
 case atStart=>exact⟨(0),(by first|rfl|(simp;done)|(simp[*];done)),H',⟨Nat.le_refl _⟩,by repeat(first|exact Drawn0.refl _|apply Drawn0.step)⟩
 case round=>
  clear H';try clear p2
  obtain⟨x5_1,rfl,HA,HK1,⟨m1,rfl⟩⟩:=hrel;cases gk with
  |zero=>exact absurd HA.out (by simp[laws_lvAmong.l0])
  |succ k1=>
   have H:=HA.out;clear HA;simp only[laws_lvAmong.l0]at H
   by_cases c3:x5_1<(l0.length:Int)
   ·rw[if_pos c3]at H
    have c3b0:decide (x5_1<(l0.length:Int))=true:=decide_eq_true c3;clear c3;by_cases c4:0≤x5_1
    ·rw[if_pos c4]at H
     have c4b0:decide (0≤x5_1)=true:=decide_eq_true c4;clear c4;by_cases c5:(rd l0 x5_1)=a1
     ·rw[if_pos c5]at H
      have c5b0:((rd l0 x5_1)==a1)=true:=beq_iff_eq.mpr c5;have c5b1:((rd l0 x5_1) !=a1)=false:=bne_eq_false_iff_eq.mpr c5;clear c5;obtain rfl:=Option.some.inj H;have p583:0≤(x5_1:Int):=of_decide_eq_true (by assumption)
      have q583:x5_1<(l0.length:Int):=of_decide_eq_true (by assumption)
      obtain⟨ad583,e583,hx583_0⟩:=Kd.at_int HR0.out x5_1 p583 q583;cases e583
      replace p583:=eq_true p583;replace q583:=eq_true q583;go_wp2
      go_ret
      exact⟨by first|rfl|(simp;done)|(simp[*];done),by repeat(first|exact Drawn0.refl _|apply Drawn0.step)⟩
     ·rw[if_neg c5]at H
      have c5b0:((rd l0 x5_1)==a1)=false:=beq_eq_false_iff_ne.mpr c5;have c5b1:((rd l0 x5_1) !=a1)=true:=bne_iff_ne.mpr c5;have H':=Aside0.mk H;clear H;have p583:0≤(x5_1:Int):=of_decide_eq_true (by assumption)
      have q583:x5_1<(l0.length:Int):=of_decide_eq_true (by assumption)
      obtain⟨ad583,e583,hx583_0⟩:=Kd.at_int HR0.out x5_1 p583 q583;cases e583
      replace p583:=eq_true p583;replace q583:=eq_true q583;go_wp2
      go_roundg k1
      case measure=>have:=HK1.out;omega
      case rel=>exact⟨(wrap64 (x5_1+1)),(by first|rfl|(simp;done)|(simp[*];done)),H',⟨by have:=HK1.out;omega⟩,by repeat(first|exact Drawn0.refl _|apply Drawn0.step)⟩
    ·rw[if_neg c4]at H
     exact absurd H (by simp)
   ·rw[if_neg c3]at H
    have c3b0:decide (x5_1<(l0.length:Int))=false:=decide_eq_false c3;clear c3;obtain rfl:=Option.some.inj H;go_wp2
    go_ret
    exact⟨by first|rfl|(simp;done)|(simp[*];done),by repeat(first|exact Drawn0.refl _|apply Drawn0.step)⟩
end Go.Proofs.Ytmklpbmlgjkbiaa.PS
end
section
namespace Go.Proofs.Ytmklpbmlgjkbiaa.PS
open Go.RowKit Go.Proofs.YtmklpbmlgjkbiaaW.PrintWords Go.Proofs.YtmklpbmlgjkbiaaW.PrintLast
theorem uses_no (k r s t vk vn:Int) (w:World) (hn:Aside0 (opB k r s t vk vn=false)):
    Calls Try.prog 27 #[.agg #[.int .i64 k,.int .i64 r,.int .i64 s,.int .i64 t,.int .i64 vk,.int .i64 vn]] w fun e w'=>e= .returned (.slice none 0 0)∧Below w.heap.size w w':=by
  have hOk:=fun W:World=>impl_OpOk.calls k r s t vk vn false W (by rw[←hn.out];rfl)
  go_enter Try.func27,Try.ntmps27
  go_wp2_with (go_at_call 25;refine(hOk _).mono ?_;rintro e w' ⟨rfl,hb⟩)
  go_ret
  exact⟨rfl,below_step (below_alloc (Below.refl _ _) _) hb⟩
def pickL (r s:Int) (l:List UInt8):List Int:=l.map fun c=>if c=82 then r else s
theorem pickL_snoc (r s:Int) (l:List UInt8) (c:UInt8):pickL r s (l++ [c])=pickL r s l++ [if c=82 then r else s]:=by simp[pickL]
theorem take_snoc (s:ByteArray) (k:Nat) (h:k<s.size):s.data.toList.take (k+1)=s.data.toList.take k++ [s[k]]:=by
  rw[List.take_succ_eq_append_getElem (by simpa using h)];rfl
def UsesRel (w:World) (it:Nat) (rd:ByteArray) (k r s t vk vn:Int) (v:Value) (wr:World):Prop:=
  ∃pos,pos≤rd.size∧wr.heap[it]?=some (.stringIter rd pos)∧wr.heap[w.heap.size]?=some (.cells #[.int .i64 k,.int .i64 r,.int .i64 s,.int .i64 t,.int .i64 vk,.int .i64 vn] 29 (0,0))∧
    wr.ownsRow (it+1) 3 1 v pos ((pickL r s (rd.data.toList.take pos)).map (Value.int .i64))∧Below w.heap.size w wr
theorem uses_step {w wq w1:World} {it pos:Nat} {rd:ByteArray} {k r s t vk vn:Int} {v v':Value} {xs:List Value} (X:Int) (hw2:w.heap.size<it) (hqi:wq.heap[it]?=some (.stringIter rd (pos+1)))
    (hqb:wq.heap[w.heap.size]?=some (.cells #[.int .i64 k,.int .i64 r,.int .i64 s,.int .i64 t,.int .i64 vk,.int .i64 vn] 29 (0,0))) (hqbl:Below w.heap.size w wq)
    (hl:(pickL r s (rd.data.toList.take (pos+1))).map (Value.int .i64)=xs++ [.int .i64 X]) (hlt:pos<rd.size) (hown:(wq.alloc (.cells #[.int .i64 X] 3)).ownsRow (it+1) 3 1 v pos xs) (hown':w1.ownsRow (it+1) 3 1 v' (pos+1) (xs++ [.int .i64 X])) (hgrow:(wq.alloc (.cells #[.int .i64 X] 3)).grownBy w1 v.ownBlock):
    UsesRel w it rd k r s t vk vn v' w1:=by
  have hne: ∀g,g≤it→some g≠v.ownBlock:=fun g hg e=>by have:=own_base hown g e.symm;omega
  refine⟨pos+1,hlt,blk_grown (blk_alloc hqi _) hgrow (hne _ (Nat.le_refl _)),blk_grown (blk_alloc hqb _) hgrow (hne _ (Nat.le_of_lt hw2)),by rw[hl];exact hown',?_⟩
  exact(below_alloc hqbl _).grown hgrow (below_alloc hqbl _).size (fun b hb=>by have:=own_base hown b hb;omega)
theorem uses_measure {wr wq w1:World} {it pos:Nat} {rd:ByteArray} {v:Value} {X:Int} {xs:List Value} (hqi:wq.heap[it]?=some (.stringIter rd (pos+1))) (hown:(wq.alloc (.cells #[.int .i64 X] 3)).ownsRow (it+1) 3 1 v pos xs) (hgrow:(wq.alloc (.cells #[.int .i64 X] 3)).grownBy w1 v.ownBlock) (hit:wr.heap[it]?=some (.stringIter rd pos)) (hlt:pos<rd.size):
    rd.size-w1.iterPos it<rd.size-wr.iterPos it:=by
  have hne:some it≠v.ownBlock:=fun e=>by have:=own_base hown it e.symm;omega
  rw[iterPos_of hit,iterPos_of (blk_grown (blk_alloc hqi _) hgrow hne)];omega
theorem uses_yes (k r s t vk vn:Int) (x:S66) (rd:ByteArray) (w:World) (hx:Aside0 (x=howR k)) (hy:Aside0 (opB k r s t vk vn=true)) (hr:Aside0 (x.f2=rd)) (hsz:rd.size≤2) (ha:Aside0 (∀i (h:i<rd.size),rd[i]=82∨rd[i]=83)):
    Calls Try.prog 27 #[.agg #[.int .i64 k,.int .i64 r,.int .i64 s,.int .i64 t,.int .i64 vk,.int .i64 vn]] w fun e w'=> ∃v0_:Value,e= .returned v0_∧w'.ownsRow w.heap.size 3 1 v0_ rd.size ((pickL r s rd.data.toList).map (Value.int .i64))∧Below w.heap.size w w':=by
  have hOk:=fun W:World=>impl_OpOk.calls k r s t vk vn true W (by rw[←hy.out];rfl)
  have hHow:=fun W:World=>impl_Op_how.calls k r s t vk vn x.f0 x.f1 rd x.f3 W (by rw[←hr.out,hx.out];rfl)
  have hfd: ∀ (a b c d:Value) (W:World),Sem.run Try.prog (Instr.field 66 (.agg #[a,b,c,d]) 2) W= .ok c W:=fun _ _ _ _ _=>by kernel_rfl
  obtain⟨i0,hi,hz0,hz1,hz2⟩:=info_parts info3;have BK:Aside0 ((w.alloc (.cells #[.int .i64 k,.int .i64 r,.int .i64 s,.int .i64 t,.int .i64 vk,.int .i64 vn] 29)).heap[w.heap.size]?=some (.cells #[.int .i64 k,.int .i64 r,.int .i64 s,.int .i64 t,.int .i64 vk,.int .i64 vn] 29 (0,0))):=⟨blk_new _ _⟩;have HB:=Aside0.mk (Below.refl w.heap.size w);go_enter Try.func27,Try.ntmps27
  go_wp2_with (first|(go_at_call 25;refine(hOk _).mono ?_;rintro e w' ⟨rfl,hb⟩;obtain⟨b1,b2⟩:=bcell hb;have hz:=hb.size;have HB:=Aside0.mk (below_step (below_alloc HB.out _) hb);have BK:=Aside0.mk (blk_below BK.out hb))|(go_at_call 67;refine(hHow _).mono ?_;rintro e w'2 ⟨rfl,hb2⟩;have HB:=Aside0.mk (below_step HB.out hb2);have BK:=Aside0.mk (blk_below BK.out hb2);clear b1 b2 hz hb hb2))
  go_loopw [3] (fun v wr=>UsesRel w w'2.heap.size rd k r s t vk vn v wr) (fun _ wr=>rd.size-wr.iterPos w'2.heap.size)
  case atStart=>
    exact⟨0,Nat.zero_le _,World.iter_heap _ _ _,blk_alloc BK.out _,World.ownsRow_nil _ _ _ _,below_alloc HB.out _⟩
  case round=>
    obtain⟨pos,hp,hit0,hbk0,hown0,hbl0⟩:=hrel;have hit:=Aside0.mk hit0;have hbk:=Aside0.mk hbk0;have hbl:=Aside0.mk hbl0;have hownA:=Aside0.mk hown0;have hw2:w.heap.size<w'2.heap.size:=by have:=blk_lt BK.out;exact this
    clear hit0 hbk0 hbl0 hown0;by_cases hlt:pos<rd.size
    · have hnx:=fun ty=>Lib.run_next_ascii_at (P:=Try.prog) wr w'2.heap.size rd pos ty hit.out hlt (by rcases ha.out pos hlt with h|h<;>rw[h]<;>decide)
      have hqi:Aside0 ((wr.iterAt w'2.heap.size rd (pos+1)).heap[w'2.heap.size]?=some (.stringIter rd (pos+1))):=⟨Lib.iterAt_heap _ _ _ _ _ hit.out⟩;have hqb:Aside0 ((wr.iterAt w'2.heap.size rd (pos+1)).heap[w.heap.size]?=some (.cells #[.int .i64 k,.int .i64 r,.int .i64 s,.int .i64 t,.int .i64 vk,.int .i64 vn] 29 (0,0))):=⟨(Lib.iterAt_other _ _ _ _ _ (Nat.ne_of_lt hw2)).trans hbk.out⟩;have hqbl:Aside0 (Below w.heap.size w (wr.iterAt w'2.heap.size rd (pos+1))):=⟨Lib.below_iterAt hbl.out (Nat.le_of_lt hw2) _ _⟩;have hown:=ownsRow_iterAt hownA.out (Nat.lt_succ_self w'2.heap.size) rd (pos+1);have hsize:w'2.heap.size<(wr.iterAt w'2.heap.size rd (pos+1)).heap.size:=blk_lt hqi.out;generalize wr.iterAt w'2.heap.size rd (pos+1)=wq at hnx hqi hqb hqbl hown hsize
      rcases ha.out pos hlt with hc|hc
      all_goals rw[hc]at hnx
      · have hcv:Aside0 ((if rd[pos]=82 then r else s)=r):=⟨by rw[hc];rfl⟩
        clear hc;obtain⟨hq1,hq2⟩:wq.cell? ⟨w.heap.size,1,none⟩=some (.int .i64 r)∧wq.cell? ⟨w.heap.size,2,none⟩=some (.int .i64 s):=⟨(blk_cell hqb.out 1).trans rfl,(blk_cell hqb.out 2).trans rfl⟩;go_wp2_with (first|(at_builtin;refine wpList_append_own _ rfl _ _ 32 rfl (w'2.heap.size+1) 3 i0 (.int .i64 0) 1 8 Try.underlying32 hi hz0 hz1 hz2 rfl (by decide) _ _ _ rfl (hown.alloc _) ⟨wq.heap.size,0,none⟩ 1 1 [.int .i64 r] rfl rfl (cell_one_new _ _ _) (by simp[Value.oneCell']) (by unfold maxLen;omega) (by omega) (by simp;omega) ?_;intro v' w1 hown' hgrow _))
        go_roundw
        case rel=>exact uses_step r hw2 hqi.out hqb.out hqbl.out (by rw[take_snoc rd pos hlt,pickL_snoc,hcv.out];simp) hlt (hown.alloc _) hown' hgrow
        case measure=>exact uses_measure hqi.out (hown.alloc _) hgrow hit.out hlt
      · have hcv:Aside0 ((if rd[pos]=82 then r else s)=s):=⟨by rw[hc];rfl⟩
        clear hc;obtain⟨hq1,hq2⟩:wq.cell? ⟨w.heap.size,1,none⟩=some (.int .i64 r)∧wq.cell? ⟨w.heap.size,2,none⟩=some (.int .i64 s):=⟨(blk_cell hqb.out 1).trans rfl,(blk_cell hqb.out 2).trans rfl⟩;go_wp2_with (first|(at_builtin;refine wpList_append_own _ rfl _ _ 32 rfl (w'2.heap.size+1) 3 i0 (.int .i64 0) 1 8 Try.underlying32 hi hz0 hz1 hz2 rfl (by decide) _ _ _ rfl (hown.alloc _) ⟨wq.heap.size,0,none⟩ 1 1 [.int .i64 s] rfl rfl (cell_one_new _ _ _) (by simp[Value.oneCell']) (by unfold maxLen;omega) (by omega) (by simp;omega) ?_;intro v' w1 hown' hgrow _))
        go_roundw
        case rel=>exact uses_step s hw2 hqi.out hqb.out hqbl.out (by rw[take_snoc rd pos hlt,pickL_snoc,hcv.out];simp) hlt (hown.alloc _) hown' hgrow
        case measure=>exact uses_measure hqi.out (hown.alloc _) hgrow hit.out hlt
    · have hnx:=fun ty=>Lib.run_next_end_at (P:=Try.prog) wr w'2.heap.size rd pos ty hit.out hlt
      obtain rfl:pos=rd.size:=by omega
      go_wp2
      go_ret
      refine⟨_,rfl,?_,hbl.out⟩
      have:=hownA.out;rw[List.take_of_length_le (by simp)]at this
      exact own_weaken this (by omega)
def readsB (k:Int):ByteArray:=(howR k).f2
theorem reads_ok (k:Int):(readsB k).size≤2∧(∀i (h:i<(readsB k).size),(readsB k)[i]=82∨(readsB k)[i]=83):=by
  refine kinds (P:=fun k=>(readsB k).size≤2∧(∀i (h:i<(readsB k).size),(readsB k)[i]=82∨(readsB k)[i]=83)) (fun k hk=> ?_) (by decide) (by decide) (by decide) (by decide) (by decide) (by decide) (by decide) (by decide) (by decide) (by decide) (by decide) (by decide) (by decide) (by decide) k
  unfold readsB howR;rw[if_neg hk];exact⟨by decide,by decide⟩
theorem reads_eq (k r s:Int):pickL r s (readsB k).data.toList=usesL k r s:=by
  refine kinds (P:=fun k=>pickL r s (readsB k).data.toList=usesL k r s) (fun k hk=> ?_) rfl rfl rfl rfl rfl rfl rfl rfl rfl rfl rfl rfl rfl rfl k
  unfold readsB howR usesL;rw[if_neg hk,if_neg (by omega),if_neg (by omega),if_neg (by omega)];rfl
theorem impl_OpUses.calls (k r s t vk vn:Int) (l:List Int) (w:World) (h:usesV.f k r s t vk vn=some l):
    Calls Try.prog 27 #[.agg #[.int .i64 k,.int .i64 r,.int .i64 s,.int .i64 t,.int .i64 vk,.int .i64 vn]] w fun e w'=> ∃v0_:Value,e= .returned (v0_)∧Kd.R (Kd.int .i64) 3 w' w.heap.size (fun _=>True) v0_ l∧Below w.heap.size w w':=by
  have h:=Option.some.inj h;by_cases ho:opB k r s t vk vn=true
  · rw[if_pos ho]at h
    obtain⟨h1,h2⟩:=reads_ok k;refine(uses_yes k r s t vk vn (howR k) (readsB k) w ⟨rfl⟩ ⟨ho⟩ ⟨rfl⟩ h1 ⟨h2⟩).mono ?_
    rintro e w' ⟨v,rfl,hown,hb⟩
    refine⟨v,rfl,?_,hb⟩
    rw[reads_eq,h]at hown
    have hl:(readsB k).size=l.length:=by rw[←h,←reads_eq k r s];simp[pickL]
    rw[hl]at hown
    exact Kd.R_of_own hown (fun _ _=>trivial)
  · rw[if_neg ho]at h
    subst h;refine(uses_no k r s t vk vn w ⟨by simpa using ho⟩).mono ?_
    rintro e w' ⟨rfl,hb⟩
    exact⟨_,rfl,Kd.R_nil _ _ _ _ _,hb⟩
theorem slot_walk (x:Int) (s:Int) (hs:0≤s) (hs2:s≤3) (B:Nat) (w:World) (hB:w.cell? ⟨B,0,none⟩=some (.int .i64 x)):Calls Try.prog 84 #[.int .i64 s,.pointer (some ⟨B,0,none⟩)] w fun e w'=>e= .returned (.bool (freeB x s))∧w=w':=by
  go_enter Try.func84,Try.ntmps84
  go_wp2
  go_ret
  exact⟨rfl,rfl⟩
def FoundIn (p:Int→Bool) (l:List Int) (i:Int):Prop:=(0≤i∧l.any p=true)∨(i= -1∧l.any p=false)
theorem foundn_yes {p:Int→Bool} {l:List Int} {kk:Nat} (h:kk<l.length) (hp:p (rd l kk)=true):FoundIn p l kk:=by
  refine .inl ⟨by omega,List.any_eq_true.2 ⟨rd l kk,?_,hp⟩⟩
  rw[rdn_at l kk h];exact List.getElem_mem h
theorem foundn_no {p:Int→Bool} {l:List Int} (h: ∀j,j<l.length→p (rd l (j:Nat))=false):FoundIn p l (-1):=by
  refine .inr ⟨rfl,List.any_eq_false.2 fun x hx=> ?_⟩
  obtain⟨j,hj,rfl⟩:=List.mem_iff_getElem.1 hx;have:=h j hj;rw[rdn_at l j hj]at this
  simpa using this
theorem index_fn (p:Int→Bool) (g:Nat) (lb:Array Value) (eg: ∀args w,(callFunc g args).run Try.prog w= .ok (.enter g args) w) (A0:Option Addr) (c0:Nat) (l0:List Int) (w:World)
    (hr0:Kd.C (Kd.int .i64) w A0 l0.length l0)
    (hp: ∀ (W:World) (x:Int),x∈l0→Below w.heap.size w W→Calls Try.prog g (#[.int .i64 x]++lb) W fun e w'=>e= .returned (.bool (p x))∧Below w.heap.size w w'):
    Calls Try.prog 100 #[.slice A0 l0.length c0,.func (.func g) #[] lb] w fun e w'=> ∃i,e= .returned (.int .i64 i)∧FoundIn p l0 i∧Below w.heap.size w w':=by
  have hm:=Kd.C_max hr0;have HR0:=Aside0.mk hr0;clear hr0;go_enter Try.func100,Try.ntmps100
  go_wp2
  go_loopg [5,8] l0.length (fun gg _ s8 wr=> ∃kk:Nat,kk≤l0.length∧l0.length-kk≤gg∧s8= .int .i64 kk∧Aside (Below w.heap.size w wr)∧Aside (∀j,j<kk→p (rd l0 (j:Nat))=false))
  case atStart=>exact⟨0,Nat.zero_le _,by omega,rfl,Below.refl _ w,fun j hj=>absurd hj (Nat.not_lt_zero _)⟩
  case round=>
    obtain⟨kk,hkk,hgg,rfl,BW,A⟩:=hrel;by_cases hlt:kk<l0.length
    · have hltz:(kk:Int)<(l0.length:Int):=by omega
      have h0z:0≤(kk:Int):=by omega
      obtain⟨ad,e,x0⟩:=Kd.at_int HR0.out (kk:Int) h0z hltz;subst e;rw[Int.toNat_natCast]at x0
      replace x0:=(BW.out.cell (World.block_lt_of_cell? w _ x0)).trans x0;have hcall:=hp wr (rd l0 (kk:Int)) (by rw[rdn_at l0 kk hlt];exact List.getElem_mem hlt) BW.out
      clear hp;obtain⟨y,hy0⟩: ∃y,y=rd l0 (kk:Int):=⟨_,rfl⟩;rw[←hy0]at hcall x0
      have hy:=Aside0.mk hy0;clear hy0;cases hq:p y with
      |true=>
        rw[hq]at hcall
        go_wp2_with (go_at_fn g;refine hcall.mono ?_;rintro e w' ⟨rfl,hb'⟩)
        go_ret
        exact⟨_,rfl,foundn_yes hlt (by rw[←hy.out];exact hq),hb'⟩
      |false=>
        rw[hq]at hcall
        go_wp2_with (go_at_fn g;refine hcall.mono ?_;rintro e w' ⟨rfl,hb'⟩)
        go_roundg (l0.length- (kk+1))
        case measure=>omega
        case rel=>
          refine⟨kk+1,by omega,by omega,by go_num,hb',(show Aside _ from fun j hj=> ?_)⟩
          by_cases e:j=kk
          · subst e
            rw[←hy.out];exact hq
          · exact A.out j (by omega)
    · have hltz: ¬(kk:Int)<(l0.length:Int):=by omega
      have:kk=l0.length:=by omega
      subst this;go_wp2
      go_ret
      exact⟨_,rfl,foundn_no A.out,BW.out⟩
theorem contains_fn (p:Int→Bool) (g:Nat) (lb:Array Value) (eg: ∀args w,(callFunc g args).run Try.prog w= .ok (.enter g args) w) (A0:Option Addr) (c0:Nat) (l0:List Int) (w:World)
    (hr0:Kd.C (Kd.int .i64) w A0 l0.length l0)
    (hp: ∀ (W:World) (x:Int),x∈l0→Below w.heap.size w W→Calls Try.prog g (#[.int .i64 x]++lb) W fun e w'=>e= .returned (.bool (p x))∧Below w.heap.size w w'):
    Calls Try.prog 83 #[.slice A0 l0.length c0,.func (.func g) #[] lb] w fun e w'=>e= .returned (.bool (l0.any p))∧Below w.heap.size w w':=by
  have hx:=index_fn p g lb eg A0 c0 l0 w hr0 hp;clear hr0 hp;go_enter Try.func83,Try.ntmps83
  go_wp2_with (go_at_call 100;refine hx.mono ?_;rintro e w' ⟨i,rfl,hi,hb⟩)
  go_ret
  refine⟨?_,hb⟩
  rcases hi with ⟨h0,h1⟩|⟨rfl,h1⟩
  · rw[h1];simp[h0]
  · rw[h1];rfl
def safeV.f (l:List S29):Option Bool:=some (safeB l)
theorem safe_no (A0:Option Addr) (c0:Nat) (l0:List S29) (w:World) (hr0:Kd.C k29 w A0 l0.length l0) (hc0:l0.length≤c0) (h:codeB l0=false):
    Calls Try.prog 46 #[.slice A0 l0.length c0] w fun e w'=>e= .returned (.bool false)∧Below w.heap.size w w':=by
  have hOk:=impl_CodeOk.calls A0 c0 l0 false w hr0 hc0 (by rw[←h];rfl)
  clear hr0 h;go_enter Try.func46,Try.ntmps46
  go_wp2_with (first|(go_at_call 35;refine hOk.mono ?_;rintro e w' ⟨rfl,hb⟩))
  go_ret
  exact⟨rfl,hb⟩
theorem safe_all {l:List S29} (hc:codeB l=true) (h: ∀i,i<l.length→safeAt l i=true):safeB l=true:=by
  unfold safeB;rw[hc,Bool.true_and,List.all_eq_true];intro i hi;exact h i (by simpa using hi)
theorem safe_not {l:List S29} {i:Nat} (hi:i<l.length) (h:safeAt l i=false):safeB l=false:=by
  unfold safeB
  have:(List.range l.length).all (safeAt l)=false:=by
    rw[List.all_eq_false];exact⟨i,by simpa using hi,by rw[h];decide⟩
  rw[this,Bool.and_false]
theorem safe_yes (A0:Option Addr) (c0:Nat) (l0:List S29) (w:World) (hr0:Kd.C k29 w A0 l0.length l0) (hc0:l0.length≤c0) (hc:codeB l0=true):
    Calls Try.prog 46 #[.slice A0 l0.length c0] w fun e w'=>e= .returned (.bool (safeB l0))∧Below w.heap.size w w':=by
  obtain⟨hl1,hl2⟩:=code_len hc;have hOk:=impl_CodeOk.calls A0 c0 l0 true w hr0 hc0 (by rw[←hc];rfl)
  have hFu:=fun (W:World) (hb:Below w.heap.size w W)=>full_walk A0 c0 l0 W (Kd.C_below hr0 hb) hc
  have HC:=Aside0.mk hc;have HR0:=Aside0.mk hr0;have hfl:(fullL l0).length=l0.length:=(full_good (wayW_good hc)).1;have HFL:=Aside0.mk hfl;clear hr0 hc hfl;go_enter Try.func46,Try.ntmps46
  go_wp2_with (first|(go_at_call 35;refine hOk.mono ?_;rintro e w' ⟨rfl,hb⟩;have HB:=Aside0.mk hb;clear hb)|(go_at_call 80;refine(hFu _ HB.out).mono ?_;rintro e w1 ⟨v,rfl,hR,hb1⟩;have hR2:=hR;obtain⟨A,c,rfl⟩:=Kd.R_slice hR2;have HF:=Aside0.mk (Kd.R_reads' hR).2.2;have HB1:=Aside0.mk (below_step HB.out hb1);rw[HFL.out];clear hR hR2 hb1))
  go_loopg [12] l0.length (fun gg s12 wr=> ∃j:Nat,j≤l0.length∧l0.length-j≤gg∧s12= .int .i64 (j:Int)∧Aside (Below w.heap.size w wr)∧Aside (Below w1.heap.size w1 wr)∧Aside (∀i,i<j→safeAt l0 i=true))
  case atStart=>exact⟨0,Nat.zero_le _,Nat.sub_le _ _,rfl,HB1.out,Below.refl _ _,fun i hi=>absurd hi (Nat.not_lt_zero _)⟩
  case round=>
    obtain⟨j,hj,hgg,rfl,BW,B1,A⟩:=hrel;by_cases hlt:j<l0.length
    · have hltz:(j:Int)<(l0.length:Int):=by omega
      have h0z:(0:Int)≤(j:Int):=by omega
      obtain⟨ad,e,x0⟩:=Kd.at_int HF.out (j:Int) h0z (by rw[HFL.out];exact hltz)
      subst e;rw[Int.toNat_natCast]at x0
      replace x0:=(B1.out.cell (World.block_lt_of_cell? w1 _ x0)).trans x0;obtain⟨x,hx⟩: ∃x,x=at_ (fullL l0) (j:Int):=⟨_,rfl⟩;rw[show rd (fullL l0) (j:Int)=x from hx.symm]at x0
      have hx15:x≤15:=by rw[hx];exact(at_good (full_good (wayW_good HC.out)) (j:Int)).2
      by_cases hneg:x<0
      · have HS:Aside0 (safeAt l0 j=true):=⟨by unfold safeAt;rw[←hx,decide_eq_true hneg];rfl⟩
        clear hx;go_wp2
        go_roundg (l0.length- (j+1))
        case measure=>omega
        case rel=>
          refine⟨j+1,by omega,by omega,by go_num,(show Aside _ from ?_),(show Aside _ from ?_),(show Aside _ from fun i hi=> ?_)⟩
          · exact below_alloc BW.out _
          · exact below_alloc B1.out _
          · by_cases e:i=j
            · rw[e];exact HS.out
            · exact A.out i (by omega)
      · have hneg0:decide (x<0)=false:=decide_eq_false hneg
        obtain⟨ad2,e,y0,y1,y2,y3,y4,y5⟩:=at_T29 HR0.out (j:Int) h0z hltz;subst e;rw[Int.toNat_natCast]at y0 y1 y2 y3 y4 y5
        replace y0:=(BW.out.cell (World.block_lt_of_cell? w _ y0)).trans y0;replace y1:=(BW.out.cell (World.block_lt_of_cell? w _ y1)).trans y1;replace y2:=(BW.out.cell (World.block_lt_of_cell? w _ y2)).trans y2;replace y3:=(BW.out.cell (World.block_lt_of_cell? w _ y3)).trans y3;replace y4:=(BW.out.cell (World.block_lt_of_cell? w _ y4)).trans y4;replace y5:=(BW.out.cell (World.block_lt_of_cell? w _ y5)).trans y5
        have hS:safeAt l0 j=((decide (j+1<l0.length)||endsB (rd_T29 l0 j))&& !((usesL (rd_T29 l0 j).f0 (rd_T29 l0 j).f1 (rd_T29 l0 j).f2).any (freeB x))):=by
          unfold safeAt;rw[←hx,decide_eq_false hneg,Bool.false_or]
        have hus:=uses_slots HC.out hlt;have hop:=(code_op HC.out hlt).1;rw[←rd29_get hlt]at hop
        obtain⟨y,hy⟩: ∃y,y=rd_T29 l0 (j:Int):=⟨_,rfl⟩;rw[←hy]at y0 y1 y2 y3 y4 y5 hS hus hop
        have hUs:=fun W:World=>impl_OpUses.calls y.f0 y.f1 y.f2 y.f3 y.f4.f0 y.f4.f1 (usesL y.f0 y.f1 y.f2) W (by unfold usesV.f;rw[if_pos (opB_true.2 hop)])
        obtain⟨U,hU⟩: ∃U,U=usesL y.f0 y.f1 y.f2:=⟨_,rfl⟩;rw[←hU]at hUs hS hus
        have hCn:=fun (W:World) (A:Option Addr) (c:Nat) (hC:Kd.C (Kd.int .i64) W A U.length U) (hB:W.cell? ⟨wr.heap.size,0,none⟩=some (.int .i64 x))=>contains_fn (freeB x) 84 #[.pointer (some ⟨wr.heap.size,0,none⟩)] (fun _ _=>by kernel_rfl) A c U W hC (fun W2 s hs hb=>(slot_walk x s (hus s hs).1 (hus s hs).2 wr.heap.size W2 ((hb.cell (World.block_lt_of_cell? W _ hB)).trans hB)).mono (fun e w' h=>⟨h.1,by rw[←h.2];exact hb⟩))
        have HS:=Aside0.mk hS;clear hx hy hU hus hS hneg hop;obtain⟨kk,hkk0⟩: ∃kk,kk=y.f0:=⟨_,rfl⟩;rw[←hkk0]at y0 hUs
        have hkk:=Aside0.mk hkk0;clear hkk0;have hbl:=below_alloc (Below.refl wr.heap.size wr) (.cells #[.int .i64 x] 3);have tr: ∀ (a:Addr) (u:Value),wr.cell? a=some u→(wr.alloc (.cells #[.int .i64 x] 3)).cell? a=some u:=fun a u h=>(hbl.cell (World.block_lt_of_cell? wr _ h)).trans h
        have p0:=tr _ _ y0;have p1:=tr _ _ y1;have p2:=tr _ _ y2;have p3:=tr _ _ y3;have p4:=tr _ _ y4;have p5:=tr _ _ y5;have n0:=blk_new wr (.cells #[.int .i64 x] 3);have N0:=Aside0.mk n0;have HBL:=Aside0.mk hbl;have hsz:(wr.alloc (.cells #[.int .i64 x] 3)).heap.size=wr.heap.size+1:=by simp
        have HSZ:=Aside0.mk hsz;clear y0 y1 y2 y3 y4 y5 n0 hbl tr hsz;go_upto_region 7 with (fail)
        obtain⟨w2,hw2⟩: ∃w2,w2=wr.alloc (.cells #[.int .i64 x] 3):=⟨_,rfl⟩;rw[←hw2]at p0 p1 p2 p3 p4 p5 N0 HBL HSZ⊢
        clear hw2 x0;have B2:=Aside0.mk (below_step BW.out HBL.out);have B12:=Aside0.mk (below_step B1.out HBL.out);obtain⟨bx,hbx⟩: ∃b,b=wr.heap.size:=⟨_,rfl⟩;rw[←hbx]at hCn N0⊢
        clear hbx HBL HSZ;by_cases hnx:j+1<l0.length
        · have e1:((j:Int)==(l0.length:Int)-1)=false:=by simp;omega
          cases hany:U.any (freeB x)with
          |true=>
            rw[hany]at hCn
            have HSF:Aside0 (safeB l0=false):=⟨safe_not hlt (by rw[HS.out,hany];simp)⟩
            clear hany;go_wp2_with (first|(go_at_call 27;refine(hUs _).mono ?_;rintro e w3 ⟨v2,rfl,hR,hb⟩;obtain⟨A2,c2,rfl⟩:=Kd.R_slice hR;have HC2:=Aside0.mk (Kd.R_reads' hR).2.2;have HB3:=Aside0.mk (below_step (below_alloc (Below.refl w2.heap.size w2) _) hb);clear hR hb)|(go_at_call 83;refine(hCn _ _ _ HC2.out ?hc).mono ?_;(case hc=>exact(blk_cell (blk_below N0.out HB3.out) 0).trans rfl);rintro e w4 ⟨rfl,hb⟩;have HB4:=Aside0.mk (below_step HB3.out hb);clear hb))
            go_ret
            exact⟨by rw[HSF.out];rfl,below_step B2.out HB4.out⟩
          |false=>
            rw[hany]at hCn
            have HST:Aside0 (safeAt l0 j=true):=⟨by rw[HS.out,hany,decide_eq_true hnx];rfl⟩
            clear hany;go_wp2_with (first|(go_at_call 27;refine(hUs _).mono ?_;rintro e w3 ⟨v2,rfl,hR,hb⟩;obtain⟨A2,c2,rfl⟩:=Kd.R_slice hR;have HC2:=Aside0.mk (Kd.R_reads' hR).2.2;have HB3:=Aside0.mk (below_step (below_alloc (Below.refl w2.heap.size w2) _) hb);clear hR hb)|(go_at_call 83;refine(hCn _ _ _ HC2.out ?hc).mono ?_;(case hc=>exact(blk_cell (blk_below N0.out HB3.out) 0).trans rfl);rintro e w4 ⟨rfl,hb⟩;have HB4:=Aside0.mk (below_step HB3.out hb);clear hb))
            go_roundg (l0.length- (j+1))
            case measure=>omega
            case rel=>
              refine⟨j+1,by omega,by omega,by go_num,(show Aside _ from ?_),(show Aside _ from ?_),(show Aside _ from fun i hi=> ?_)⟩
              · exact below_step B2.out HB4.out
              · exact below_step B12.out HB4.out
              · by_cases e:i=j
                · rw[e];exact HST.out
                · exact A.out i (by omega)
        · have e1:((j:Int)==(l0.length:Int)-1)=true:=by simp;omega
          have hdn:=decide_eq_false hnx;by_cases h9:kk=9
          · have e9:(kk !=9)=false:=by simp[h9]
            have hen:endsB y=true:=by unfold endsB;rw[←hkk.out];exact decide_eq_true (.inl h9)
            have HEN:=Aside0.mk hen;have HDN:=Aside0.mk hdn;clear h9 hen hdn;cases hany:U.any (freeB x)with
            |true=>
              rw[hany]at hCn
              have HSF:Aside0 (safeB l0=false):=⟨safe_not hlt (by rw[HS.out,hany];simp)⟩
              clear hany;go_wp2_with (first|(go_at_call 27;refine(hUs _).mono ?_;rintro e w3 ⟨v2,rfl,hR,hb⟩;obtain⟨A2,c2,rfl⟩:=Kd.R_slice hR;have HC2:=Aside0.mk (Kd.R_reads' hR).2.2;have HB3:=Aside0.mk (below_step (below_alloc (Below.refl w2.heap.size w2) _) hb);clear hR hb)|(go_at_call 83;refine(hCn _ _ _ HC2.out ?hc).mono ?_;(case hc=>exact(blk_cell (blk_below N0.out HB3.out) 0).trans rfl);rintro e w4 ⟨rfl,hb⟩;have HB4:=Aside0.mk (below_step HB3.out hb);clear hb))
              go_ret
              exact⟨by rw[HSF.out];rfl,below_step B2.out HB4.out⟩
            |false=>
              rw[hany]at hCn
              have HST:Aside0 (safeAt l0 j=true):=⟨by rw[HS.out,hany,HDN.out,HEN.out];rfl⟩
              clear hany;go_wp2_with (first|(go_at_call 27;refine(hUs _).mono ?_;rintro e w3 ⟨v2,rfl,hR,hb⟩;obtain⟨A2,c2,rfl⟩:=Kd.R_slice hR;have HC2:=Aside0.mk (Kd.R_reads' hR).2.2;have HB3:=Aside0.mk (below_step (below_alloc (Below.refl w2.heap.size w2) _) hb);clear hR hb)|(go_at_call 83;refine(hCn _ _ _ HC2.out ?hc).mono ?_;(case hc=>exact(blk_cell (blk_below N0.out HB3.out) 0).trans rfl);rintro e w4 ⟨rfl,hb⟩;have HB4:=Aside0.mk (below_step HB3.out hb);clear hb))
              go_roundg (l0.length- (j+1))
              case measure=>omega
              case rel=>
                refine⟨j+1,by omega,by omega,by go_num,(show Aside _ from ?_),(show Aside _ from ?_),(show Aside _ from fun i hi=> ?_)⟩
                · exact below_step B2.out HB4.out
                · exact below_step B12.out HB4.out
                · by_cases e:i=j
                  · rw[e];exact HST.out
                  · exact A.out i (by omega)
          · have e9:(kk !=9)=true:=by simp[h9]
            by_cases h14:kk=14
            · have e14:(kk !=14)=false:=by simp[h14]
              have hen:endsB y=true:=by unfold endsB;rw[←hkk.out];exact decide_eq_true (.inr h14)
              have HEN:=Aside0.mk hen;have HDN:=Aside0.mk hdn;clear h9 h14 hen hdn;cases hany:U.any (freeB x)with
              |true=>
                rw[hany]at hCn
                have HSF:Aside0 (safeB l0=false):=⟨safe_not hlt (by rw[HS.out,hany];simp)⟩
                clear hany;go_wp2_with (first|(go_at_call 27;refine(hUs _).mono ?_;rintro e w3 ⟨v2,rfl,hR,hb⟩;obtain⟨A2,c2,rfl⟩:=Kd.R_slice hR;have HC2:=Aside0.mk (Kd.R_reads' hR).2.2;have HB3:=Aside0.mk (below_step (below_alloc (Below.refl w2.heap.size w2) _) hb);clear hR hb)|(go_at_call 83;refine(hCn _ _ _ HC2.out ?hc).mono ?_;(case hc=>exact(blk_cell (blk_below N0.out HB3.out) 0).trans rfl);rintro e w4 ⟨rfl,hb⟩;have HB4:=Aside0.mk (below_step HB3.out hb);clear hb))
                go_ret
                exact⟨by rw[HSF.out];rfl,below_step B2.out HB4.out⟩
              |false=>
                rw[hany]at hCn
                have HST:Aside0 (safeAt l0 j=true):=⟨by rw[HS.out,hany,HDN.out,HEN.out];rfl⟩
                clear hany;go_wp2_with (first|(go_at_call 27;refine(hUs _).mono ?_;rintro e w3 ⟨v2,rfl,hR,hb⟩;obtain⟨A2,c2,rfl⟩:=Kd.R_slice hR;have HC2:=Aside0.mk (Kd.R_reads' hR).2.2;have HB3:=Aside0.mk (below_step (below_alloc (Below.refl w2.heap.size w2) _) hb);clear hR hb)|(go_at_call 83;refine(hCn _ _ _ HC2.out ?hc).mono ?_;(case hc=>exact(blk_cell (blk_below N0.out HB3.out) 0).trans rfl);rintro e w4 ⟨rfl,hb⟩;have HB4:=Aside0.mk (below_step HB3.out hb);clear hb))
                go_roundg (l0.length- (j+1))
                case measure=>omega
                case rel=>
                  refine⟨j+1,by omega,by omega,by go_num,(show Aside _ from ?_),(show Aside _ from ?_),(show Aside _ from fun i hi=> ?_)⟩
                  · exact below_step B2.out HB4.out
                  · exact below_step B12.out HB4.out
                  · by_cases e:i=j
                    · rw[e];exact HST.out
                    · exact A.out i (by omega)
            · have e14:(kk !=14)=true:=by simp[h14]
              have hen:endsB y=false:=by unfold endsB;rw[←hkk.out];exact decide_eq_false (by omega)
              have HSF:Aside0 (safeB l0=false):=⟨safe_not hlt (by rw[HS.out,hdn,hen];simp)⟩
              clear h9 h14 hen hdn;go_wp2
              go_ret
              exact⟨by rw[HSF.out];rfl,below_step B2.out (below_alloc (Below.refl _ _) _)⟩
    · have hltz: ¬(j:Int)<(l0.length:Int):=by omega
      obtain rfl:j=l0.length:=by omega
      go_wp2
      go_ret
      exact⟨by rw[safe_all HC.out A.out];rfl,BW.out⟩
theorem impl_CodeSafe.calls (A0:Option Addr) (c0:Nat) (l0:List (S29)) (r:Bool) (w:World) (hr0:Kd.C k29 w A0 l0.length l0) (hc0:l0.length≤c0) (h:safeV.f l0=some r):
    Calls Try.prog 46 #[.slice A0 l0.length c0] w fun e w'=>e= .returned (.bool r)∧Below w.heap.size w w':=by
  obtain rfl:=Option.some.inj h;cases hc:codeB l0 with
  |true=>exact safe_yes A0 c0 l0 w hr0 hc0 hc
  |false=>
    have e:safeB l0=false:=by unfold safeB;rw[hc];rfl
    rw[e];exact safe_no A0 c0 l0 w hr0 hc0 hc
theorem spec_CodeSafe_as.calls (A0:Option Addr) (c0:Nat) (l0:List (S29)) (r:Bool) (w:World) (hr0:Kd.C k29 w A0 l0.length l0) (hc0:l0.length≤c0) (h:safeV.f l0=some r):
    Calls Try.prog 45 #[.slice A0 l0.length c0] w fun e w'=>e= .returned (.bool r)∧Below w.heap.size w w':=by
  obtain⟨k,hk⟩:=(scodesafe_ev l0 (Kd.C_max hr0)).rounds;exact spec_CodeSafe.calls k A0 c0 l0 r w hr0 hc0 (hk.trans h)
def reachTo (l:List S29) (j:Nat):List Int:=((List.range j).filter fun (i:Nat)=>decide (0≤at_ (fullL l) (i:Int))).map (fun (i:Nat)=>(i:Int))
def reachL (l:List S29):List Int:=reachTo l l.length
def reachV.f (l:List S29):Option (List Int):=some (if codeB l=true then reachL l else [])
theorem reach_succ (l:List S29) (j:Nat):reachTo l (j+1)=if 0≤at_ (fullL l) (j:Int)then reachTo l j++ [(j:Int)]else reachTo l j:=by
  unfold reachTo;rw[List.range_succ,List.filter_append,List.map_append];by_cases h:0≤at_ (fullL l) (j:Int)<;>simp[h]
theorem reach_len (l:List S29) (j:Nat):(reachTo l j).length≤j:=by
  unfold reachTo;rw[List.length_map];exact Nat.le_trans (List.length_filter_le _ _) (by simp)
theorem ireach_ev {l:List S29} (hc:codeB l=true) (d:Nat): ∀j,l.length-j=d→j≤l.length→Ev (fun k=>impl_CodeReach.l0 k (reachTo l j) (fullL l) (l.length:Int) (j:Int)) (reachL l):=by
  obtain⟨h1,h2⟩:=code_len hc;have hg:=full_good (wayW_good hc);have hl:(fullL l).length=l.length:=hg.1;induction d with
  |zero=>
    intro j hj hj2;obtain rfl:j=l.length:=by omega
    refine Ev.step (f:=fun k=>some (reachL l)) (fun k=> ?_) (Ev.now _)
    simp only[impl_CodeReach.l0]
    rw[if_neg (by omega)];rfl
  |succ d ih=>
    intro j hj hj2;have ih1:=ih (j+1) (by omega) (by omega)
    refine Ev.step (fun k=> ?_) ih1
    have hr:=reach_len l j;simp only[impl_CodeReach.l0]
    rw[if_pos (by omega),if_pos (by omega),if_pos (by rw[hl];omega),w64 (by omega) (by omega),reach_succ]
    have e:rd (fullL l) (j:Int)=at_ (fullL l) j:=rfl;rw[e];by_cases hn:0≤at_ (fullL l) j
    · rw[if_pos hn,if_pos (by omega),if_pos hn];rfl
    · rw[if_neg (by omega),if_neg hn];rfl
theorem impl_CodeReach_as.calls (A0:Option Addr) (c0:Nat) (l0:List (S29)) (r:List Int) (w:World) (hr0:Kd.C k29 w A0 l0.length l0) (hc0:l0.length≤c0) (h:reachV.f l0=some r):
    Calls Try.prog 42 #[.slice A0 l0.length c0] w fun e w'=> ∃v0_:Value,e= .returned (v0_)∧Kd.R (Kd.int .i64) 3 w' w.heap.size (fun _=>True) v0_ r∧Below w.heap.size w w':=by
  have hE:Ev (fun k=>impl_CodeReach.f k l0) (if codeB l0=true then reachL l0 else []):=by
    unfold impl_CodeReach.f codeV.f fullV.f;simp only[Option.bind_some]
    by_cases hc:codeB l0=true
    · simp only[if_pos hc,Option.bind_some]
      have hl:(fullL l0).length=l0.length:=(full_good (wayW_good hc)).1;rw[hl];have:=ireach_ev hc l0.length 0 (by omega) (by omega)
      rw[show reachTo l0 0=[]from rfl]at this
      exact this
    · simp only[if_neg hc]
      exact Ev.now _
  obtain⟨k,hk⟩:=hE.rounds;exact impl_CodeReach.calls k A0 c0 l0 r w hr0 hc0 (hk.trans h)
theorem lvAmong_ev (L:List Int) (x:Int) (hm:L.length≤9223372036854775807):Ev (fun k=>laws_lvAmong.f k L x) (decide (x∈L)):=by
  have key: ∀d i,L.length-i=d→i≤L.length→Ev (fun k=>laws_lvAmong.l0 k L x (i:Int)) (decide (x∈L.drop i)):=by
    intro d;induction d with
    |zero=>
      intro i hi hi2;refine Ev.step (f:=fun k=>some false) (fun k=> ?_) (ev_eq (Ev.now _) ?_)
      · simp only[laws_lvAmong.l0];rw[if_neg (by omega)]
      · rw[List.drop_of_length_le (by omega)];simp
    |succ d ih=>
      intro i hi hi2;have ih1:=ih (i+1) (by omega) (by omega)
      have d0:L.drop i=L[i]'(by omega)::L.drop (i+1):=List.drop_eq_getElem_cons (by omega)
      rw[d0];by_cases he:L[i]'(by omega)=x
      · refine Ev.step (f:=fun k=>some true) (fun k=> ?_) (ev_eq (Ev.now _) ?_)
        · simp only[laws_lvAmong.l0];rw[if_pos (by omega),if_pos (by omega),rd_at L i (by omega),if_pos he]
        · rw[he];simp
      · refine ev_eq (Ev.step (fun k=> ?_) ih1) ?_
        · simp only[laws_lvAmong.l0];rw[if_pos (by omega),if_pos (by omega),rd_at L i (by omega),if_neg he,w64 (by omega) (by omega)];rfl
        · have he': ¬x=L[i]'(by omega):=fun h=>he h.symm
          exact decide_eq_decide.2 ⟨fun h=>List.mem_cons_of_mem _ h,fun h=>(List.mem_cons.1 h).resolve_left he'⟩
  have:=key L.length 0 (by omega) (by omega)
  show Ev (fun k=>laws_lvAmong.l0 k L x 0) _
  simpa using this
theorem code_set {l:List S29} (hc:codeB l=true) {i:Nat} (hi:i<l.length) {x:S29} (hx:opP x.f0 x.f1 x.f2 x.f3 x.f4.f0 x.f4.f1) (ht:hasT x.f0=true→x.f3<l.length):codeB (l.set i x)=true:=by
  have hlen:=code_len hc;have h2:l.any (wrongB l.length)=false:=by unfold codeB at hc;simp only[Bool.and_eq_true,Bool.not_eq_true']at hc;exact hc.2
  unfold codeB;rw[List.length_set,decide_eq_true (show 1≤l.length∧l.length≤16 from hlen),Bool.true_and]
  have:(l.set i x).any (wrongB l.length)=false:=by
    rw[List.any_eq_false];intro y hy;rcases List.mem_or_eq_of_mem_set hy with hy|hy
    · exact List.any_eq_false.1 h2 y hy
    · subst hy
      unfold wrongB opS;rw[opB_true.2 hx];by_cases hT:hasT y.f0=true
      · have:=ht hT
        rw[hT,decide_eq_false (by omega)];decide
      · have hT':hasT y.f0=false:=by simpa using hT
        rw[hT'];simp
  rw[this];rfl
theorem end_op (r:Int) (h:0≤r∧r≤3):opP 14 r 0 0 0 0:=by
  refine⟨by omega,⟨by unfold okP;omega,by omega,by omega⟩,.inr ⟨rfl,h.1,h.2⟩,.inl rfl,.inl rfl,.inr ⟨rfl,rfl⟩⟩
theorem mem_reach {l:List S29} {i:Nat} (hi:i<l.length):(i:Int)∈reachL l ↔ 0≤at_ (fullL l) (i:Int):=by
  unfold reachL reachTo;constructor
  · intro h
    obtain⟨a,ha,hb⟩:=List.mem_map.1 h;obtain⟨h1,h2⟩:=List.mem_filter.1 ha;have:a=i:=by omega
    subst this;exact of_decide_eq_true h2
  · intro h
    exact List.mem_map.2 ⟨i,List.mem_filter.2 ⟨by simpa using hi,decide_eq_true h⟩,rfl⟩
theorem move_op (s:Int) (h:0≤s∧s≤3):opP 2 1 s 0 0 0:=by
  refine⟨by omega,⟨by unfold okP;omega,by omega,by omega⟩,.inr ⟨rfl,by omega,by omega⟩,.inr ⟨rfl,h.1,h.2⟩,.inl rfl,.inr ⟨rfl,rfl⟩⟩
end Go.Proofs.Ytmklpbmlgjkbiaa.PS
end
section
namespace Go.Proofs.Ytmklpbmlgjkbiaa.PJG
open Go.RowKit Go.Proofs.YtmklpbmlgjkbiaaW.PrintWords Go.Proofs.YtmklpbmlgjkbiaaW.PrintLast Go.Proofs.YtmklpbmlgjkbiaaW.PrintMore Go.Proofs.Ytmklpbmlgjkbiaa.PS
attribute [local go_sem] max2_int min2_int max_two min_two max_three min_three max_four min_four   -- for this text's walks alone
mutual
def laws_FnSafeMore.j0:Nat→List Int→List Int→Bool→Option (Bool)
 |0,_,_,_=>none
 |k+1,x0,x1,x17=>if x17=true then(some true)else((spec_DrawCodeSafe.f k x0).bind fun t101=>((safeV.f t101).bind fun t104=>(if t104=true then(if(t101.length:Int)<16 then((some (([]:List (S29)):List (S29))).bind fun y105=>(if y105.length+t101.length<2932031007402 then((some (y105++t101:List (S29))).bind fun y108=>(if y108.length<2932031007402 then((safeV.f (y108++ [(⟨14,(x1.length:Int)%4,0,0,(⟨0,0⟩:S27)⟩:S29)])).bind fun t114=>(laws_FnSafeMore.j1 k x1 t101 (!t114)))else(none)))else(none)))else(laws_FnSafeMore.j1 k x1 t101 false))else(some true))))
def laws_FnSafeMore.j1:Nat→List Int→List (S29)→Bool→Option (Bool)
 |0,_,_,_=>none
 |k+1,x1,x5,x49=>if x49=true then(some false)else((reachV.f x5).bind fun t115=>(laws_FnSafeMore.l0 k x1 x5 t115 0))
def laws_FnSafeMore.l0:Nat→List Int→List (S29)→List Int→Int→Option (Bool)
 |0,_,_,_,_=>none
 |k+1,x1,x5,x7,x8=>if x8<(x5.length:Int)then((some (([]:List (S29)):List (S29))).bind fun y118=>(if y118.length+x5.length<2932031007402 then((some (y118++x5:List (S29))).bind fun y121=>(if 0≤x8 then(if x8<(y121.length:Int)then((laws_lvAmong.f k x7 x8).bind fun t125=>(if t125=true then(laws_FnSafeMore.j3 k x1 x5 x7 x8 false)else(if(wrap64 (x8+1))<(x5.length:Int)then((safeV.f (y121.set (x8:Int).toNat (⟨2,1,(x1.length:Int)%4,0,(⟨0,0⟩:S27)⟩:S29))).bind fun t126=>(laws_FnSafeMore.j3 k x1 x5 x7 x8 (!t126)))else(laws_FnSafeMore.j3 k x1 x5 x7 x8 false))))else(none))else(none)))else(none)))else(some true)
def laws_FnSafeMore.j3:Nat→List Int→List (S29)→List Int→Int→Bool→Option (Bool)
 |0,_,_,_,_,_=>none
 |k+1,x1,x5,x7,x8,x83=>if x83=true then(some false)else(laws_FnSafeMore.l0 k x1 x5 x7 (wrap64 (x8+1)))
end
def laws_FnSafeMore.f (k:Nat) (l0:List Int) (l1:List Int):Option (Bool):=if(l0.length:Int)>1048576 then(laws_FnSafeMore.j0 k l0 l1 true)else(laws_FnSafeMore.j0 k l0 l1 (decide ((l1.length:Int)>1048576)))
theorem laws_FnSafeMore.calls (k:Nat) (A0:Option Addr) (c0:Nat) (l0:List Int) (A1:Option Addr) (c1:Nat) (l1:List Int) (r:Bool) (w:World) (hr0:Kd.C (Kd.int .u8) w A0 l0.length l0) (hc0:l0.length≤c0) (hr1:Kd.C (Kd.int .u8) w A1 l1.length l1) (hc1:l1.length≤c1) (h:laws_FnSafeMore.f k l0 l1=some r):
  Calls Try.prog 19 #[.slice A0 l0.length c0,.slice A1 l1.length c1] w fun e w'=>e= .returned (.bool r)∧Below w.heap.size w w':=by
 have hu29:=Try.underlying29;have HR0:=Aside0.mk hr0;have HC0:=Aside0.mk hc0;clear hr0 hc0;have HR1:=Aside0.mk hr1;have HC1:=Aside0.mk hc1;clear hr1 hc1;have HB:=Aside0.mk (Below.refl w.heap.size w);have H:(if(l0.length:Int)>1048576 then(laws_FnSafeMore.j0 k l0 l1 true)else(laws_FnSafeMore.j0 k l0 l1 (decide ((l1.length:Int)>1048576))))=some r:=h
 clear h;have HC3:=Aside0.mk H;clear H;go_enter Try.func19,Try.ntmps19
 go_upto_region 1 with (fail)
 go_cut [17] (fun v17 wc=> ∃ (kq:Nat) (x17_2:Bool),v17= .bool x17_2∧Aside0 (laws_FnSafeMore.j0 kq l0 l1 x17_2=some r)∧Aside0 (kq≤k)∧Aside0 (Below w.heap.size w wc))
 case first=>
  have H:=HC3.out;clear HC3;by_cases c4:(l0.length:Int)>1048576
  ·rw[if_pos c4]at H
   have c4b0:decide (1048576<(l0.length:Int))=true:=decide_eq_true c4;have c4b1:decide (1048576<l0.length)=true:=decide_eq_true (by omega)
   clear c4;(first|rw[c4b0]|(simp only[i64_w,i32_w];rw[c4b0])|skip)
   have H':=Aside0.mk H;clear H;go_wp2
   go_meet
   case rel=>exact⟨_,(true),(by first|rfl|(simp;done)|(simp[*];done)),H',⟨by first|omega|exact Nat.le_refl _⟩,⟨by exact bU HB.out⟩⟩
  ·rw[if_neg c4]at H
   have c4b0:decide (1048576<(l0.length:Int))=false:=decide_eq_false c4;have c4b1:decide (1048576<l0.length)=false:=decide_eq_false (by omega)
   clear c4;(first|rw[c4b0]|(simp only[i64_w,i32_w];rw[c4b0])|skip)
   have H':=Aside0.mk H;clear H;go_wp2
   go_meet
   case rel=>exact⟨_,(decide ((l1.length:Int)>1048576)),(by first|rfl|(simp;done)|(simp[*];done)),H',⟨by first|omega|exact Nat.le_refl _⟩,⟨by exact bU HB.out⟩⟩
 case rest=>
  clear HC3;(try clear c1);(try clear p2);(try clear c4);(try clear c4b0);(try clear c4b1)
  obtain⟨kq,x17_2,rfl,HA,HJ2,HB⟩:=hcut;cases kq with
  |zero=>exact absurd HA.out (by simp[laws_FnSafeMore.j0])
  |succ kj2=>
   have H:=HA.out;clear HA;simp only[laws_FnSafeMore.j0]at H
   by_cases c5:x17_2=true
   ·subst c5
    have H1:(some true)=some r:=by rw[if_pos rfl]at H;exact H
    clear H;have H:=H1;clear H1;obtain rfl:=Option.some.inj H;go_wp2
    go_ret
    exact⟨by first|rfl|(simp[errW_none,errW_some]<;>rfl)|(simp[*,errW_none,errW_some]<;>rfl),by exact bU HB.out⟩
   ·replace c5:=Bool.eq_false_iff.mpr c5
    subst c5;have H1:((spec_DrawCodeSafe.f kj2 l0).bind fun t101=>((safeV.f t101).bind fun t104=>(if t104=true then(if(t101.length:Int)<16 then((some (([]:List (S29)):List (S29))).bind fun y105=>(if y105.length+t101.length<2932031007402 then((some (y105++t101:List (S29))).bind fun y108=>(if y108.length<2932031007402 then((safeV.f (y108++ [(⟨14,(l1.length:Int)%4,0,0,(⟨0,0⟩:S27)⟩:S29)])).bind fun t114=>(laws_FnSafeMore.j1 kj2 l1 t101 (!t114)))else(none)))else(none)))else(laws_FnSafeMore.j1 kj2 l1 t101 false))else(some true))))=some r:=by rw[if_neg (show¬(false=true) by decide)]at H;exact H
    clear H;have H:=H1;clear H1;replace H:=Option.bind_eq_some_iff.mp H;obtain⟨t101,A60,H⟩:=H;replace H:((safeV.f t101).bind fun t104=>(if t104=true then(if(t101.length:Int)<16 then((some (([]:List (S29)):List (S29))).bind fun y105=>(if y105.length+t101.length<2932031007402 then((some (y105++t101:List (S29))).bind fun y108=>(if y108.length<2932031007402 then((safeV.f (y108++ [(⟨14,(l1.length:Int)%4,0,0,(⟨0,0⟩:S27)⟩:S29)])).bind fun t114=>(laws_FnSafeMore.j1 kj2 l1 t101 (!t114)))else(none)))else(none)))else(laws_FnSafeMore.j1 kj2 l1 t101 false))else(some true)))=some r:=H
    have A6:=Aside0.mk A60;clear A60;replace H:=Option.bind_eq_some_iff.mp H;obtain⟨t104,A70,H⟩:=H;replace H:(if t104=true then(if(t101.length:Int)<16 then((some (([]:List (S29)):List (S29))).bind fun y105=>(if y105.length+t101.length<2932031007402 then((some (y105++t101:List (S29))).bind fun y108=>(if y108.length<2932031007402 then((safeV.f (y108++ [(⟨14,(l1.length:Int)%4,0,0,(⟨0,0⟩:S27)⟩:S29)])).bind fun t114=>(laws_FnSafeMore.j1 kj2 l1 t101 (!t114)))else(none)))else(none)))else(laws_FnSafeMore.j1 kj2 l1 t101 false))else(some true))=some r:=H
    have A7:=Aside0.mk A70;clear A70;have z8:(t104==t104)=true:=by simp
    have z9:(t104 !=t104)=false:=by simp
    by_cases c10:t104=true
    ·subst c10
     have H1:(if(t101.length:Int)<16 then((some (([]:List (S29)):List (S29))).bind fun y105=>(if y105.length+t101.length<2932031007402 then((some (y105++t101:List (S29))).bind fun y108=>(if y108.length<2932031007402 then((safeV.f (y108++ [(⟨14,(l1.length:Int)%4,0,0,(⟨0,0⟩:S27)⟩:S29)])).bind fun t114=>(laws_FnSafeMore.j1 kj2 l1 t101 (!t114)))else(none)))else(none)))else(laws_FnSafeMore.j1 kj2 l1 t101 false))=some r:=by rw[if_pos rfl]at H;exact H
     clear H;have H:=H1;clear H1;have HC11:=Aside0.mk H;clear H;go_upto_region 7 with (first|((with_reducible refine gate_callee (f:=52) rfl ?_);refine goesL_ (some 19) rfl rfl Try.func52 (by kernel_rfl) rfl #[.slice A0 l0.length c0] rfl (by(try simp only[List.map_toArray,List.map_cons,List.map_nil]);first|done|rfl|(simp only[List.length_drop,List.length_take];rfl)) ?_;(with_reducible refine(spec_DrawCodeSafe.calls kj2 _ _ l0 t101 _ ?side1 ?side2 A6.out).mono ?_);(case side1=>repeat(first|exact(Kd.C_below HR0.out HB.out)|(with_reducible refine Kd.C_alloc ?_ _)|(with_reducible refine Kd.C_drewN ?_ _)|(with_reducible refine Kd.C_drew ?_)));(case side2=>exact HC0.out);rintro e w12 ⟨v102,rfl,ho0,hb⟩;refine⟨_,rfl,?_⟩;have HO103:=Aside0.mk (Kd.R_lower ho0 (below_size (by exact bU HB.out)));replace HB:=Aside0.mk (below_step (by exact bU HB.out) hb);(try clear hb);(try clear hb2);(try clear hk);(try clear hi);(try clear ho0);obtain⟨Ao13,co13,eo13⟩:=Kd.R_slice HO103.out;subst eo13)|((with_reducible refine gate_callee (f:=46) rfl ?_);refine goesL_ (some 21) rfl rfl Try.func46 (by kernel_rfl) rfl #[.slice Ao13 t101.length co13] rfl (by(try simp only[List.map_toArray,List.map_cons,List.map_nil]);first|done|rfl|(simp only[List.length_drop,List.length_take];rfl)) ?_;(with_reducible refine(impl_CodeSafe.calls _ _ t101 true _ ?side1 ?side2 A7.out).mono ?_);(case side1=>repeat(first|exact(Kd.R_reads' HO103.out).2.2|(with_reducible refine Kd.C_alloc ?_ _)|(with_reducible refine Kd.C_drewN ?_ _)|(with_reducible refine Kd.C_drew ?_)));(case side2=>exact(Kd.R_reads' HO103.out).2.1);rintro e w14 ⟨rfl,hb⟩;refine⟨_,rfl,?_⟩;replace HO103:=Aside0.mk (Kd.R_below (by exact rU HO103.out) hb);replace HB:=Aside0.mk (below_step (by exact bU HB.out) hb);(try clear hb);(try clear hb2);(try clear hk);(try clear hi))|((with_reducible refine gate_callee (f:=45) rfl ?_);refine goesL_ (some 24) rfl rfl Try.func45 (by kernel_rfl) rfl #[.slice Ao13 t101.length co13] rfl (by(try simp only[List.map_toArray,List.map_cons,List.map_nil]);first|done|rfl|(simp only[List.length_drop,List.length_take];rfl)) ?_;(with_reducible refine(spec_CodeSafe_as.calls _ _ t101 true _ ?side1 ?side2 A7.out).mono ?_);(case side1=>repeat(first|exact(Kd.R_reads' HO103.out).2.2|(with_reducible refine Kd.C_alloc ?_ _)|(with_reducible refine Kd.C_drewN ?_ _)|(with_reducible refine Kd.C_drew ?_)));(case side2=>exact(Kd.R_reads' HO103.out).2.1);rintro e w15 ⟨rfl,hb⟩;refine⟨_,rfl,?_⟩;replace HO103:=Aside0.mk (Kd.R_below (by exact rU HO103.out) hb);replace HB:=Aside0.mk (below_step (by exact bU HB.out) hb);(try clear hb);(try clear hb2);(try clear hk);(try clear hi)))
     (try simp only[Act.put,List.setIfInBounds_toArray,List.set_cons_zero,List.set_cons_succ])
     go_cut [49] (fun v49 wc=> ∃ (kq:Nat) (x49_10:Bool),v49= .bool x49_10∧Aside0 (laws_FnSafeMore.j1 kq l1 t101 x49_10=some r)∧Aside0 (kq≤kj2)∧Aside0 (Kd.R k29 29 wc w.heap.size (fun _=>True) (.slice Ao13 t101.length co13) t101)∧Aside0 (Below w.heap.size w wc))
     case first=>
      have H:=HC11.out;clear HC11;by_cases c16:(t101.length:Int)<16
      ·rw[if_pos c16]at H
       have c16b0:decide ((t101.length:Int)<16)=true:=decide_eq_true c16;have c16b1:decide (t101.length<16)=true:=decide_eq_true (by omega)
       clear c16;(first|rw[c16b0]|(simp only[i64_w,i32_w];rw[c16b0])|skip)
       obtain⟨y105,hy105⟩: ∃y_:List (S29),y_=(([]:List (S29))):=⟨_,rfl⟩;replace H:(if y105.length+t101.length<2932031007402 then((some (y105++t101:List (S29))).bind fun y108=>(if y108.length<2932031007402 then((safeV.f (y108++ [(⟨14,(l1.length:Int)%4,0,0,(⟨0,0⟩:S27)⟩:S29)])).bind fun t114=>(laws_FnSafeMore.j1 kj2 l1 t101 (!t114)))else(none)))else(none))=some r:=by first|(rw[hy105];with_reducible exact H)|(have H2_:=(Option.bind_some _ _).symm.trans H;rw[hy105];with_reducible exact H2_)|(have H2_:=(Option.bind_some _ _).symm.trans H;with_reducible exact H2_)|with_reducible exact H|(rw[hy105];exact H)|exact H
       have Ny105:=Aside0.mk hy105;clear hy105;by_cases c17:y105.length+t101.length<2932031007402
       ·rw[if_pos c17]at H
        have LMc17:=Aside0.mk c17;clear c17;obtain⟨y108,hy108⟩: ∃y_:List (S29),y_=(y105++t101):=⟨_,rfl⟩;replace H:(if y108.length<2932031007402 then((safeV.f (y108++ [(⟨14,(l1.length:Int)%4,0,0,(⟨0,0⟩:S27)⟩:S29)])).bind fun t114=>(laws_FnSafeMore.j1 kj2 l1 t101 (!t114)))else(none))=some r:=by first|(rw[hy108];with_reducible exact H)|(have H2_:=(Option.bind_some _ _).symm.trans H;rw[hy108];with_reducible exact H2_)|(have H2_:=(Option.bind_some _ _).symm.trans H;with_reducible exact H2_)|with_reducible exact H|(rw[hy108];exact H)|exact H
        have Ny108:=Aside0.mk hy108;clear hy108;by_cases c18:y108.length<2932031007402
        ·rw[if_pos c18]at H
         have LMc18:=Aside0.mk c18;clear c18;obtain⟨y111,hy111⟩: ∃y_:List (S29),y_=(y108++ [(⟨14,(l1.length:Int)%4,0,0,(⟨0,0⟩:S27)⟩:S29)]):=⟨_,rfl⟩;replace H:((safeV.f y111).bind fun t114=>(laws_FnSafeMore.j1 kj2 l1 t101 (!t114)))=some r:=by first|(rw[hy111];with_reducible exact H)|(have H2_:=(Option.bind_some _ _).symm.trans H;rw[hy111];with_reducible exact H2_)|(have H2_:=(Option.bind_some _ _).symm.trans H;with_reducible exact H2_)|with_reducible exact H|(rw[hy111];exact H)|exact H
         have Ny111:=Aside0.mk hy111;clear hy111;replace H:=Option.bind_eq_some_iff.mp H;obtain⟨t114,A190,H⟩:=H;replace H:(laws_FnSafeMore.j1 kj2 l1 t101 (!t114))=some r:=H;have A19:=Aside0.mk A190;clear A190;have H':=Aside0.mk H;clear H;go_wp2_with (first|((with_reducible refine gate_dst (N:=38) rfl ?_);(try(refine gate_guard (by rfl) ?_;dsimp only));refine Kd.R_lit k29 _ 29 ?hg (N:=38) ?hd (xs:=([]:List (S29))) (inner:=[]) (ok:=fun _=>True) (okp:=fun _=>True) ?hr ?hp (fun _ hk=>hk) trivial (Below.refl _ _) (Nat.le_refl _) (by simp) ?_;(case hd=>rfl);(case hg=>rfl);(case hr=>first|(go_simp;done)|(go_simp;rfl));(case hp=>exact(Reps.none _ _));intro v106 w20 ho21 hb hg_ hnew_;clear hg_ hnew_;(first|rw[←Ny105.out]at ho21|(simp only[Int.reduceToNat]at ho21;rw[←Ny105.out]at ho21));have n0_:=Aside0.mk (Kd.R_elder' (by exact rU HO103.out) (Kd.R_base ho21) hb);have n1_:=Aside0.mk (Kd.R_lower (Kd.R_new' ho21 (Kd.R_lt (by exact rU HO103.out))) (below_size (by exact bU HB.out)));have n2_:=Aside0.mk (below_step (by exact bU HB.out) hb);clear HO103;clear HB;have HO103:=n0_;have HO107:=n1_;have HB:=n2_;clear n0_ n1_ n2_;clear hb ho21)|((with_reducible refine gate_builtin (b:=.append) (xs:= #[.tmp 38,.tmp 39]) rfl ?_);(try(refine gate_guard (by rfl) ?_;dsimp only));at_builtin;refine Kd.R_append_rows k29 (w0:=w) w.heap.size rfl (.tmp 38) (.tmp 39) 42 29 (.agg #[(.int .i64 0),(.int .i64 0),(.int .i64 0),(.int .i64 0),(.int .i64 0),(.int .i64 0)]) 48 rfl Try.underlying42 info29 rfl (by decide) (by omega) v106 y105 t101 _ _ _ (fun k_=>some k_≠(.slice Ao13 t101.length co13:Value).ownBlock) (fun _=>False) rfl rfl ?aO ?aR (fun _ _ h=>h) (fun _ h=>h.elim) ?aF ?aB ?aS ?aL ?_;(case aR=>repeat(first|exact(Kd.R_reads' HO103.out).2.2|(with_reducible refine Kd.C_alloc ?_ _)|(with_reducible refine Kd.C_drewN ?_ _)|(with_reducible refine Kd.C_drew ?_)));(case aB=>exact(by exact bU HB.out));(case aF=>exact(fun k_ hk=>Kd.fresh' (Kd.R_lt (by exact rU HO103.out)) k_ hk));(case aO=>exact(by(with_reducible repeat(first|apply rA|apply rN|apply rD));exact Kd.R_mono HO107.out (fun _ hk=>hk.2)));(case aS=>exact(below_size (by exact bU HB.out)));(case aL=>have:=LMc17.out;omega);intro v109 w22 ho hb hg hat;rw[←Ny108.out]at ho;replace HO103:=Aside0.mk (Kd.R_after (ok:=(fun _=>True)) (by exact rU HO103.out) hg hat);replace HB:=Aside0.mk (hb);have HO110:=Aside0.mk (ho);clear HO107;clear ho hb hg hat)|((with_reducible refine gate_builtin (b:=.append) (xs:= #[.tmp 40,.tmp 45]) rfl ?_);(try(refine gate_guard (by rfl) ?_;dsimp only));at_builtin;refine Kd.R_append k29 (w0:=w) w.heap.size rfl (.tmp 40) (.tmp 45) 42 29 (.agg #[(.int .i64 0),(.int .i64 0),(.int .i64 0),(.int .i64 0),(.int .i64 0),(.int .i64 0)]) 48 rfl Try.underlying42 info29 rfl (by decide) (by omega) v109 y108 (⟨14,(l1.length:Int)%4,0,0,(⟨0,0⟩:S27)⟩:S29) [.int .i64 14,.int .i64 ((l1.length:Int)%4),.int .i64 0,.int .i64 0,.int .i64 0,.int .i64 0] (fun k_=>some k_≠(.slice Ao13 t101.length co13:Value).ownBlock) (fun _=>False) rfl rfl ?aP (fun _ hk=>hk.elim) ?aF ?aO ?aB ?aS ?aL ?_;(case aP=>exact k29_mkM _ _ _ (⟨14,(l1.length:Int)%4,0,0,(⟨0,0⟩:S27)⟩:S29));(case aB=>exact(by exact bU HB.out));(case aF=>exact(fun k_ hk=>Kd.fresh' (Kd.R_lt (by exact rU HO103.out)) k_ hk));(case aO=>exact(by exact rU HO110.out));(case aS=>exact(below_size (by exact bU HB.out)));(case aL=>have:=LMc18.out;omega);intro v112 w23 ho hb hg hat;rw[←Ny111.out]at ho;replace HO103:=Aside0.mk (Kd.R_after (ok:=(fun _=>True)) (by exact rU HO103.out) hg hat);replace HB:=Aside0.mk (hb);have HO113:=Aside0.mk (ho);clear HO110;clear ho hb hg hat;obtain⟨Ao24,co24,eo24⟩:=Kd.R_slice HO113.out;subst eo24)|(go_at_call 46;(with_reducible refine(impl_CodeSafe.calls _ _ y111 t114 _ ?side1 ?side2 A19.out).mono ?_);(case side1=>repeat(first|exact(Kd.R_reads' HO113.out).2.2|(with_reducible refine Kd.C_alloc ?_ _)|(with_reducible refine Kd.C_drewN ?_ _)|(with_reducible refine Kd.C_drew ?_)));(case side2=>exact(Kd.R_reads' HO113.out).2.1);rintro e w25 ⟨rfl,hb⟩;replace HO103:=Aside0.mk (Kd.R_below (by exact rU HO103.out) hb);replace HO113:=Aside0.mk (Kd.R_below (by exact rU HO113.out) hb);replace HB:=Aside0.mk (below_step (by exact bU HB.out) hb);(try clear hb);(try clear hb2);(try clear hk);(try clear hi)))
         go_meet
         case rel=>exact⟨_,(!t114),(by first|rfl|(simp;done)|(simp[*];done)),H',⟨by have:=HJ2.out;first|omega|exact Nat.le_refl _⟩,⟨by(with_reducible repeat(first|apply rA|apply rN|apply rD));exact Kd.R_mono HO103.out (fun _ hk=>trivial)⟩,⟨by exact bU HB.out⟩⟩
        ·rw[if_neg c18]at H
         exact absurd H (by simp)
       ·rw[if_neg c17]at H
        exact absurd H (by simp)
      ·rw[if_neg c16]at H
       have c16b0:decide ((t101.length:Int)<16)=false:=decide_eq_false c16;have c16b1:decide (t101.length<16)=false:=decide_eq_false (by omega)
       clear c16;(first|rw[c16b0]|(simp only[i64_w,i32_w];rw[c16b0])|skip)
       have H':=Aside0.mk H;clear H;go_wp2
       go_meet
       case rel=>exact⟨_,(false),(by first|rfl|(simp;done)|(simp[*];done)),H',⟨by have:=HJ2.out;first|omega|exact Nat.le_refl _⟩,⟨by exact rU HO103.out⟩,⟨by exact bU HB.out⟩⟩
     case rest=>
      clear HC11;(try clear c1);(try clear p2);(try clear c4);(try clear c4b0);(try clear c4b1);(try clear c5);(try clear c10);(try clear c16);(try clear c16b0);(try clear c16b1);(try clear c17);(try clear c18);(try clear c19);(try clear p2)
      obtain⟨kq,x49_10,rfl,HA,HJ10,HO_5,HB⟩:=hcut;cases kq with
      |zero=>exact absurd HA.out (by simp[laws_FnSafeMore.j1])
      |succ kj10=>
       have H:=HA.out;clear HA;simp only[laws_FnSafeMore.j1]at H
       by_cases c26:x49_10=true
       ·subst c26
        have H1:(some false)=some r:=by rw[if_pos rfl]at H;exact H
        clear H;have H:=H1;clear H1;obtain rfl:=Option.some.inj H;go_wp2
        go_ret
        exact⟨by first|rfl|(simp[errW_none,errW_some]<;>rfl)|(simp[*,errW_none,errW_some]<;>rfl),by exact bU HB.out⟩
       ·replace c26:=Bool.eq_false_iff.mpr c26
        subst c26;have H1:((reachV.f t101).bind fun t115=>(laws_FnSafeMore.l0 kj10 l1 t101 t115 0))=some r:=by rw[if_neg (show¬(false=true) by decide)]at H;exact H
        clear H;have H:=H1;clear H1;replace H:=Option.bind_eq_some_iff.mp H;obtain⟨t115,A270,H⟩:=H;replace H:(laws_FnSafeMore.l0 kj10 l1 t101 t115 0)=some r:=H;have A27:=Aside0.mk A270;clear A270;have H':=Aside0.mk H;clear H;go_wp2_with (first|((with_reducible refine gate_callee (f:=42) rfl ?_);refine goesL_ (some 51) rfl rfl Try.func42 (by kernel_rfl) rfl #[.slice Ao13 t101.length co13] rfl (by(try simp only[List.map_toArray,List.map_cons,List.map_nil]);first|done|rfl|(simp only[List.length_drop,List.length_take];rfl)) ?_;(with_reducible refine(impl_CodeReach_as.calls _ _ t101 t115 _ ?side1 ?side2 A27.out).mono ?_);(case side1=>repeat(first|exact(Kd.R_reads' HO_5.out).2.2|(with_reducible refine Kd.C_alloc ?_ _)|(with_reducible refine Kd.C_drewN ?_ _)|(with_reducible refine Kd.C_drew ?_)));(case side2=>exact(Kd.R_reads' HO_5.out).2.1);rintro e w28 ⟨v116,rfl,ho0,hb⟩;refine⟨_,rfl,?_⟩;replace HO_5:=Aside0.mk (Kd.R_below (by exact rU HO_5.out) hb);have HO117:=Aside0.mk (Kd.R_lower ho0 (below_size (by exact bU HB.out)));replace HB:=Aside0.mk (below_step (by exact bU HB.out) hb);(try clear hb);(try clear hb2);(try clear hk);(try clear hi);(try clear ho0)))
        go_loopg [8] kj10 (fun kq v8 w'=> ∃ (x5_3:List (S29)) (x8_3:Int),v8= .int .i64 x8_3∧Aside0 (laws_FnSafeMore.l0 kq l1 x5_3 t115 x8_3=some r)∧Aside0 (kq≤kj10)∧Aside0 (Kd.R k29 29 w' w.heap.size (fun _=>True) (.slice Ao13 t101.length co13) x5_3)∧Aside0 (Kd.R (Kd.int .i64) 3 w' w.heap.size (fun _=>True) v116 t115)∧Aside0 (Below w.heap.size w w'))
        case atStart=>exact⟨(t101),(0),(by first|rfl|(simp;done)|(simp[*];done)),H',⟨Nat.le_refl _⟩,⟨by exact rU HO_5.out⟩,⟨by exact rU HO117.out⟩,⟨by exact bU HB.out⟩⟩
        case round=>
         clear H';(try clear c1);(try clear c2);(try clear p2);(try clear c4);(try clear c4b0);(try clear c4b1);(try clear c5);(try clear c10);(try clear c16);(try clear c16b0);(try clear c16b1);(try clear c17);(try clear c18);(try clear c19);(try clear c26);(try clear p2)
         obtain⟨x5_3,x8_3,rfl,HA,HK3,HO_5,HO_7,HB⟩:=hrel;have hl5_3:=(Kd.R_reads' HO_5.out).1;rw[hl5_3]at HO_5
         (try simp only[hl5_3])
         (try simp only[hl5_3]at HO_7)
         cases gk with
         |zero=>exact absurd HA.out (by simp[laws_FnSafeMore.l0])
         |succ k3=>
          have H:=HA.out;clear HA;simp only[laws_FnSafeMore.l0]at H
          by_cases c29:x8_3<(x5_3.length:Int)
          ·rw[if_pos c29]at H
           have c29b0:decide (x8_3<(x5_3.length:Int))=true:=decide_eq_true c29;clear c29;obtain⟨y118,hy118⟩: ∃y_:List (S29),y_=(([]:List (S29))):=⟨_,rfl⟩;replace H:(if y118.length+x5_3.length<2932031007402 then((some (y118++x5_3:List (S29))).bind fun y121=>(if 0≤x8_3 then(if x8_3<(y121.length:Int)then((laws_lvAmong.f k3 t115 x8_3).bind fun t125=>(if t125=true then(laws_FnSafeMore.j3 k3 l1 x5_3 t115 x8_3 false)else(if(wrap64 (x8_3+1))<(x5_3.length:Int)then((safeV.f (y121.set (x8_3:Int).toNat (⟨2,1,(l1.length:Int)%4,0,(⟨0,0⟩:S27)⟩:S29))).bind fun t126=>(laws_FnSafeMore.j3 k3 l1 x5_3 t115 x8_3 (!t126)))else(laws_FnSafeMore.j3 k3 l1 x5_3 t115 x8_3 false))))else(none))else(none)))else(none))=some r:=by first|(rw[hy118];with_reducible exact H)|(have H2_:=(Option.bind_some _ _).symm.trans H;rw[hy118];with_reducible exact H2_)|(have H2_:=(Option.bind_some _ _).symm.trans H;with_reducible exact H2_)|with_reducible exact H|(rw[hy118];exact H)|exact H
           have Ny118:=Aside0.mk hy118;clear hy118;by_cases c30:y118.length+x5_3.length<2932031007402
           ·rw[if_pos c30]at H
            have LMc30:=Aside0.mk c30;clear c30;obtain⟨y121,hy121⟩: ∃y_:List (S29),y_=(y118++x5_3):=⟨_,rfl⟩;replace H:(if 0≤x8_3 then(if x8_3<(y121.length:Int)then((laws_lvAmong.f k3 t115 x8_3).bind fun t125=>(if t125=true then(laws_FnSafeMore.j3 k3 l1 x5_3 t115 x8_3 false)else(if(wrap64 (x8_3+1))<(x5_3.length:Int)then((safeV.f (y121.set (x8_3:Int).toNat (⟨2,1,(l1.length:Int)%4,0,(⟨0,0⟩:S27)⟩:S29))).bind fun t126=>(laws_FnSafeMore.j3 k3 l1 x5_3 t115 x8_3 (!t126)))else(laws_FnSafeMore.j3 k3 l1 x5_3 t115 x8_3 false))))else(none))else(none))=some r:=by first|(rw[hy121];with_reducible exact H)|(have H2_:=(Option.bind_some _ _).symm.trans H;rw[hy121];with_reducible exact H2_)|(have H2_:=(Option.bind_some _ _).symm.trans H;with_reducible exact H2_)|with_reducible exact H|(rw[hy121];exact H)|exact H
            have Ny121:=Aside0.mk hy121;clear hy121;by_cases c31:0≤x8_3
            ·rw[if_pos c31]at H
             have c31b0:decide (0≤x8_3)=true:=decide_eq_true c31;clear c31;by_cases c32:x8_3<(y121.length:Int)
             ·rw[if_pos c32]at H
              have c32b0:decide (x8_3<(y121.length:Int))=true:=decide_eq_true c32;clear c32;obtain⟨y124,hy124⟩: ∃y_:List (S29),y_=(y121.set (x8_3:Int).toNat (⟨2,1,(l1.length:Int)%4,0,(⟨0,0⟩:S27)⟩:S29)):=⟨_,rfl⟩;replace H:((laws_lvAmong.f k3 t115 x8_3).bind fun t125=>(if t125=true then(laws_FnSafeMore.j3 k3 l1 x5_3 t115 x8_3 false)else(if(wrap64 (x8_3+1))<(x5_3.length:Int)then((safeV.f y124).bind fun t126=>(laws_FnSafeMore.j3 k3 l1 x5_3 t115 x8_3 (!t126)))else(laws_FnSafeMore.j3 k3 l1 x5_3 t115 x8_3 false))))=some r:=by first|(rw[hy124];with_reducible exact H)|(have H2_:=(Option.bind_some _ _).symm.trans H;rw[hy124];with_reducible exact H2_)|(have H2_:=(Option.bind_some _ _).symm.trans H;with_reducible exact H2_)|with_reducible exact H|(rw[hy124];exact H)|exact H
              have Ny124:=Aside0.mk hy124;clear hy124;have HC34:=Aside0.mk H;clear H;go_upto_region 15 with (first|((with_reducible refine gate_dst (N:=58) rfl ?_);(try(refine gate_guard (by rfl) ?_;dsimp only));refine Kd.R_lit k29 _ 29 ?hg (N:=58) ?hd (xs:=([]:List (S29))) (inner:=[]) (ok:=fun _=>True) (okp:=fun _=>True) ?hr ?hp (fun _ hk=>hk) trivial (Below.refl _ _) (Nat.le_refl _) (by simp) ?_;(case hd=>rfl);(case hg=>rfl);(case hr=>first|(go_simp;done)|(go_simp;rfl));(case hp=>exact(Reps.none _ _));intro v119 w35 ho36 hb hg_ hnew_;clear hg_ hnew_;(first|rw[←Ny118.out]at ho36|(simp only[Int.reduceToNat]at ho36;rw[←Ny118.out]at ho36));have n0_:=Aside0.mk (Kd.R_elder' (by exact rU HO_5.out) (Kd.R_base ho36) hb);have n1_:=Aside0.mk (Kd.R_below (by exact rU HO_7.out) hb);have n2_:=Aside0.mk (Kd.R_lower (Kd.R_new' ho36 (Kd.R_lt (by exact rU HO_5.out))) (below_size (by exact bU HB.out)));have n3_:=Aside0.mk (below_step (by exact bU HB.out) hb);clear HO_5;clear HO_7;clear HB;have HO_5:=n0_;have HO_7:=n1_;have HO120:=n2_;have HB:=n3_;clear n0_ n1_ n2_ n3_;clear hb ho36)|((with_reducible refine gate_builtin (b:=.append) (xs:= #[.tmp 58,.tmp 59]) rfl ?_);(try(refine gate_guard (by rfl) ?_;dsimp only));at_builtin;refine Kd.R_append_rows k29 (w0:=w) w.heap.size rfl (.tmp 58) (.tmp 59) 42 29 (.agg #[(.int .i64 0),(.int .i64 0),(.int .i64 0),(.int .i64 0),(.int .i64 0),(.int .i64 0)]) 48 rfl Try.underlying42 info29 rfl (by decide) (by omega) v119 y118 x5_3 _ _ _ (fun k_=>some k_≠(.slice Ao13 x5_3.length co13:Value).ownBlock) (fun _=>False) rfl rfl ?aO ?aR (fun _ _ h=>h) (fun _ h=>h.elim) ?aF ?aB ?aS ?aL ?_;(case aR=>repeat(first|exact(Kd.R_reads' HO_5.out).2.2|(with_reducible refine Kd.C_alloc ?_ _)|(with_reducible refine Kd.C_drewN ?_ _)|(with_reducible refine Kd.C_drew ?_)));(case aB=>exact(by exact bU HB.out));(case aF=>exact(fun k_ hk=>Kd.fresh' (Kd.R_lt (by exact rU HO_5.out)) k_ hk));(case aO=>exact(by(with_reducible repeat(first|apply rA|apply rN|apply rD));exact Kd.R_mono HO120.out (fun _ hk=>hk.2)));(case aS=>exact(below_size (by exact bU HB.out)));(case aL=>have:=LMc30.out;omega);intro v122 w37 ho hb hg hat;rw[←Ny121.out]at ho;replace HO_5:=Aside0.mk (Kd.R_after (ok:=(fun _=>True)) (by exact rU HO_5.out) hg hat);replace HO_7:=Aside0.mk (Kd.R_over' (by exact rU HO_7.out) (Kd.R_typed (by exact rU HO120.out)) (by decide) hg);replace HB:=Aside0.mk (hb);have HO123:=Aside0.mk (ho);clear HO120;clear ho hb hg hat;have p33:0≤(x8_3:Int):=of_decide_eq_true (by assumption);have q33:(x8_3:Int)<((y121.length:Int):Int):=of_decide_eq_true (by assumption);obtain⟨go33,co33,eo33,gb33,gl33,cl33,HG33⟩:=Kd.R_form HO123.out (by omega);(first|cases eo33|(injection eo33 with ea_ en_ ec_;(first|subst ea_|(injection ea_ with ea_;subst ea_));subst ec_;clear en_));have GB33:=Aside0.mk gb33;have GG33:=Aside0.mk HG33;clear gb33 gl33 HG33;obtain⟨ce33,hcl33,hM33,hcc33,hfr33⟩:=Kd.R_elem HO123.out z29 (x8_3:Int) p33 q33;obtain rfl:=k29_openM hM33;have hx33_0:w37.cell? ⟨go33,(x8_3:Int).toNat*6,none⟩=some (.int .i64 ((rd_T29 y121 x8_3).f0)):=hcc33 0 _ rfl;have hx33_1:w37.cell? ⟨go33,(x8_3:Int).toNat*6+1,none⟩=some (.int .i64 ((rd_T29 y121 x8_3).f1)):=hcc33 1 _ rfl;have hx33_2:w37.cell? ⟨go33,(x8_3:Int).toNat*6+2,none⟩=some (.int .i64 ((rd_T29 y121 x8_3).f2)):=hcc33 2 _ rfl;have hx33_3:w37.cell? ⟨go33,(x8_3:Int).toNat*6+3,none⟩=some (.int .i64 ((rd_T29 y121 x8_3).f3)):=hcc33 3 _ rfl;have hx33_4:w37.cell? ⟨go33,(x8_3:Int).toNat*6+4,none⟩=some (.int .i64 ((rd_T29 y121 x8_3).f4.f0)):=hcc33 4 _ rfl;have hx33_5:w37.cell? ⟨go33,(x8_3:Int).toNat*6+5,none⟩=some (.int .i64 ((rd_T29 y121 x8_3).f4.f1)):=hcc33 5 _ rfl;have hf33_0:w37.frozen? ⟨go33,(x8_3:Int).toNat*6,none⟩=false:=hfr33 0;have hf33_1:w37.frozen? ⟨go33,(x8_3:Int).toNat*6+1,none⟩=false:=hfr33 1;have hf33_2:w37.frozen? ⟨go33,(x8_3:Int).toNat*6+2,none⟩=false:=hfr33 2;have hf33_3:w37.frozen? ⟨go33,(x8_3:Int).toNat*6+3,none⟩=false:=hfr33 3;have hf33_4:w37.frozen? ⟨go33,(x8_3:Int).toNat*6+4,none⟩=false:=hfr33 4;have hf33_5:w37.frozen? ⟨go33,(x8_3:Int).toNat*6+5,none⟩=false:=hfr33 5;clear hcl33 hcc33 hfr33 hM33;replace p33:=eq_true p33;replace q33:=eq_true q33;have HX38:=Aside0.mk (show Kd.R k29 29 w37 w.heap.size (fun k_=>some k_≠(.slice Ao13 x5_3.length co13:Value).ownBlock) (.slice (some ⟨go33,0,none⟩) y121.length co33) y121 from(by exact rU HO123.out));obtain⟨ce38,hcl38,hM38,hcc38,hfr38⟩:=Kd.R_elem HX38.out z29 (x8_3:Int) (of_decide_eq_true (by assumption)) (by have h_:(x8_3:Int)<((y121.length:Int):Int):=of_decide_eq_true (by assumption);first|exact h_|(have e_:=(Kd.R_reads' HO123.out).1;omega)|simpa using h_);obtain rfl:=k29_openM hM38;have HP38:=Kd.R_seg HX38.out (x8_3:Int) (of_decide_eq_true (by assumption)) (by have h_:(x8_3:Int)<((y121.length:Int):Int):=of_decide_eq_true (by assumption);first|exact h_|(have e_:=(Kd.R_reads' HO123.out).1;omega)|simpa using h_) (seg:=[.int .i64 2,.int .i64 1,.int .i64 ((l1.length:Int)%4),.int .i64 0,.int .i64 0,.int .i64 0]) (j:=0) hcl38 hcc38 (show 6≤6 from by decide) (x':=(⟨2,1,(l1.length:Int)%4,0,(⟨0,0⟩:S27)⟩:S29)) (k29_mkM _ _ _ (⟨2,1,(l1.length:Int)%4,0,(⟨0,0⟩:S27)⟩:S29)) (fun _ hk=>hk);have hx38_0:=hcc38 0 _ rfl;(try simp only[show(k29).sz=6 from rfl,Nat.mul_one,Nat.add_zero]at hx38_0);have hf38_0:=hfr38 0;(try simp only[show(k29).sz=6 from rfl,Nat.mul_one,Nat.add_zero]at hf38_0);have hx38_1:=hcc38 1 _ rfl;(try simp only[show(k29).sz=6 from rfl,Nat.mul_one,Nat.add_zero]at hx38_1);have hf38_1:=hfr38 1;(try simp only[show(k29).sz=6 from rfl,Nat.mul_one,Nat.add_zero]at hf38_1);have hx38_2:=hcc38 2 _ rfl;(try simp only[show(k29).sz=6 from rfl,Nat.mul_one,Nat.add_zero]at hx38_2);have hf38_2:=hfr38 2;(try simp only[show(k29).sz=6 from rfl,Nat.mul_one,Nat.add_zero]at hf38_2);have hx38_3:=hcc38 3 _ rfl;(try simp only[show(k29).sz=6 from rfl,Nat.mul_one,Nat.add_zero]at hx38_3);have hf38_3:=hfr38 3;(try simp only[show(k29).sz=6 from rfl,Nat.mul_one,Nat.add_zero]at hf38_3);have hx38_4:=hcc38 4 _ rfl;(try simp only[show(k29).sz=6 from rfl,Nat.mul_one,Nat.add_zero]at hx38_4);have hf38_4:=hfr38 4;(try simp only[show(k29).sz=6 from rfl,Nat.mul_one,Nat.add_zero]at hf38_4);have hx38_5:=hcc38 5 _ rfl;(try simp only[show(k29).sz=6 from rfl,Nat.mul_one,Nat.add_zero]at hx38_5);have hf38_5:=hfr38 5;(try simp only[show(k29).sz=6 from rfl,Nat.mul_one,Nat.add_zero]at hf38_5);clear hcl38 hcc38 hfr38 hM38)|((with_reducible refine gate_store (t:=29) (p:=67) rfl ?_);refine store_event (t:=29) (p:=67) (v:= ?vo_w39) (w1:=((((((w37.setCell ⟨go33,(x8_3:Int).toNat*6,none⟩ (.int .i64 2)).setCell ⟨go33,(x8_3:Int).toNat*6+1,none⟩ (.int .i64 1)).setCell ⟨go33,(x8_3:Int).toNat*6+2,none⟩ (.int .i64 ((l1.length:Int)%4))).setCell ⟨go33,(x8_3:Int).toNat*6+3,none⟩ (.int .i64 0)).setCell ⟨go33,(x8_3:Int).toNat*6+4,none⟩ (.int .i64 0)).setCell ⟨go33,(x8_3:Int).toNat*6+5,none⟩ (.int .i64 0))) ?hg ?ho ?hn ?hr ?_;(case ho=>rfl);(case hg=>rfl);(case hn=>rfl);(case hr=>first|(go_simp;done)|(go_simp;rfl));intro w39 hw;have hg:w37.grownBy w39 (some go33):=(by rw[hw];exact HP38.2);have hp_:Kd.R k29 29 w39 w.heap.size (fun k_=>some k_≠(.slice Ao13 x5_3.length co13:Value).ownBlock) (.slice (some ⟨go33,0,none⟩) y121.length co33) y124:=(by rw[hw,Ny124.out];exact HP38.1);clear HP38;replace HO_5:=Aside0.mk (Kd.R_after (v:=(.slice (some ⟨go33,0,none⟩) y121.length co33)) (v1:=(.slice (some ⟨go33,0,none⟩) y121.length co33)) (ok:=(fun _=>True)) (by exact rU HO_5.out) hg (.inl rfl));replace HO_7:=Aside0.mk (Kd.R_over' (v:=(.slice (some ⟨go33,0,none⟩) y121.length co33)) (by exact rU HO_7.out) (Kd.R_typed HO123.out) (by decide) hg);replace HO123:=Aside0.mk (hp_);replace HB:=Aside0.mk ((by rw[hw];exact below_set (below_set (below_set (below_set (below_set (below_set (HB.out) GB33.out) GB33.out) GB33.out) GB33.out) GB33.out) GB33.out:Below w.heap.size w w39));clear hg hw hp_))
              (try simp only[Act.put,List.setIfInBounds_toArray,List.set_cons_zero,List.set_cons_succ])
              go_cut [83] (fun v83 wc=> ∃ (kq:Nat) (x83_33:Bool),v83= .bool x83_33∧Aside0 (laws_FnSafeMore.j3 kq l1 x5_3 t115 x8_3 x83_33=some r)∧Aside0 (kq≤k3)∧Aside0 (Kd.R k29 29 wc w.heap.size (fun _=>True) (.slice Ao13 x5_3.length co13) x5_3)∧Aside0 (Kd.R (Kd.int .i64) 3 wc w.heap.size (fun _=>True) v116 t115)∧Aside0 (Below w.heap.size w wc))
              case first=>
               have H:=HC34.out;clear HC34;replace H:=Option.bind_eq_some_iff.mp H;obtain⟨t125,A400,H⟩:=H;replace H:(if t125=true then(laws_FnSafeMore.j3 k3 l1 x5_3 t115 x8_3 false)else(if(wrap64 (x8_3+1))<(x5_3.length:Int)then((safeV.f y124).bind fun t126=>(laws_FnSafeMore.j3 k3 l1 x5_3 t115 x8_3 (!t126)))else(laws_FnSafeMore.j3 k3 l1 x5_3 t115 x8_3 false)))=some r:=H
               have A40:=Aside0.mk A400;clear A400;by_cases c41:t125=true
               ·subst c41
                have H1:(laws_FnSafeMore.j3 k3 l1 x5_3 t115 x8_3 false)=some r:=by rw[if_pos rfl]at H;exact H
                clear H;have H:=H1;clear H1;have H':=Aside0.mk H;clear H;obtain⟨Ao42,co42,eo42⟩:=Kd.R_slice HO_7.out;subst eo42;go_wp2_with (first|((with_reducible refine gate_callee (f:=55) rfl ?_);refine goesL_ (some 70) rfl rfl Try.func55 (by kernel_rfl) rfl #[.slice Ao42 t115.length co42,.int .i64 x8_3] rfl (by(try simp only[List.map_toArray,List.map_cons,List.map_nil]);first|done|rfl|(simp only[List.length_drop,List.length_take];rfl)) ?_;(with_reducible refine(laws_lvAmong.calls k3 _ _ t115 x8_3 true _ ?side1 ?side2 A40.out).mono ?_);(case side1=>repeat(first|exact(Kd.R_reads' HO_7.out).2.2|(with_reducible refine Kd.C_alloc ?_ _)|(with_reducible refine Kd.C_drewN ?_ _)|(with_reducible refine Kd.C_drew ?_)));(case side2=>exact(Kd.R_reads' HO_7.out).2.1);rintro e w' ⟨rfl,⟨nd,rfl⟩⟩;refine⟨_,rfl,?_⟩))
                go_meet
                case rel=>exact⟨_,(false),(by first|rfl|(simp;done)|(simp[*];done)),H',⟨by have:=HJ2.out;have:=HJ10.out;have:=HK3.out;first|omega|exact Nat.le_refl _⟩,⟨by(try simp only[hl5_3]);(with_reducible repeat(first|apply rA|apply rN|apply rD));exact Kd.R_mono HO_5.out (fun _ hk=>trivial)⟩,⟨by(try simp only[hl5_3]);exact rU HO_7.out⟩,⟨by exact bU HB.out⟩⟩
               ·replace c41:=Bool.eq_false_iff.mpr c41
                subst c41;have H1:(if(wrap64 (x8_3+1))<(x5_3.length:Int)then((safeV.f y124).bind fun t126=>(laws_FnSafeMore.j3 k3 l1 x5_3 t115 x8_3 (!t126)))else(laws_FnSafeMore.j3 k3 l1 x5_3 t115 x8_3 false))=some r:=by rw[if_neg (show¬(false=true) by decide)]at H;exact H
                clear H;have H:=H1;clear H1;by_cases c43:(wrap64 (x8_3+1))<(x5_3.length:Int)
                ·rw[if_pos c43]at H
                 have c43b0:decide ((wrap64 (x8_3+1))<(x5_3.length:Int))=true:=decide_eq_true c43;clear c43;(first|rw[c43b0]|(simp only[i64_w,i32_w];rw[c43b0])|skip)
                 replace H:=Option.bind_eq_some_iff.mp H;obtain⟨t126,A440,H⟩:=H;replace H:(laws_FnSafeMore.j3 k3 l1 x5_3 t115 x8_3 (!t126))=some r:=H;have A44:=Aside0.mk A440;clear A440;have H':=Aside0.mk H;clear H;obtain⟨Ao45,co45,eo45⟩:=Kd.R_slice HO_7.out;subst eo45;go_wp2_with (first|((with_reducible refine gate_callee (f:=55) rfl ?_);refine goesL_ (some 70) rfl rfl Try.func55 (by kernel_rfl) rfl #[.slice Ao45 t115.length co45,.int .i64 x8_3] rfl (by(try simp only[List.map_toArray,List.map_cons,List.map_nil]);first|done|rfl|(simp only[List.length_drop,List.length_take];rfl)) ?_;(with_reducible refine(laws_lvAmong.calls k3 _ _ t115 x8_3 false _ ?side1 ?side2 A40.out).mono ?_);(case side1=>repeat(first|exact(Kd.R_reads' HO_7.out).2.2|(with_reducible refine Kd.C_alloc ?_ _)|(with_reducible refine Kd.C_drewN ?_ _)|(with_reducible refine Kd.C_drew ?_)));(case side2=>exact(Kd.R_reads' HO_7.out).2.1);rintro e w' ⟨rfl,⟨nd,rfl⟩⟩;refine⟨_,rfl,?_⟩)|(go_at_call 46;refine calls_of_args (args':= #[.slice (some ⟨go33,0,none⟩) y124.length co33]) (by first|(rw[show y124.length=y121.length from(Kd.R_reads' HO123.out).1.symm]<;>rfl)|rfl) ?_;(with_reducible refine(impl_CodeSafe.calls _ _ y124 t126 _ ?side1 ?side2 A44.out).mono ?_);(case side1=>repeat(first|exact(Kd.R_reads' HO123.out).2.2|(with_reducible refine Kd.C_alloc ?_ _)|(with_reducible refine Kd.C_drewN ?_ _)|(with_reducible refine Kd.C_drew ?_)));(case side2=>rw[show y124.length=y121.length from(Kd.R_reads' HO123.out).1.symm];exact(Kd.R_reads' HO123.out).2.1);rintro e w46 ⟨rfl,hb⟩;replace HO_5:=Aside0.mk (Kd.R_below (by exact rU HO_5.out) hb);replace HO_7:=Aside0.mk (Kd.R_below (by exact rU HO_7.out) hb);replace HO123:=Aside0.mk (Kd.R_below (by exact rU HO123.out) hb);replace HB:=Aside0.mk (below_step (by exact bU HB.out) hb);(try clear hb);(try clear hb2);(try clear hk);(try clear hi)))
                 go_meet
                 case rel=>exact⟨_,(!t126),(by first|rfl|(simp;done)|(simp[*];done)),H',⟨by have:=HJ2.out;have:=HJ10.out;have:=HK3.out;first|omega|exact Nat.le_refl _⟩,⟨by(try simp only[hl5_3]);(with_reducible repeat(first|apply rA|apply rN|apply rD));exact Kd.R_mono HO_5.out (fun _ hk=>trivial)⟩,⟨by(try simp only[hl5_3]);exact rU HO_7.out⟩,⟨by exact bU HB.out⟩⟩
                ·rw[if_neg c43]at H
                 have c43b0:decide ((wrap64 (x8_3+1))<(x5_3.length:Int))=false:=decide_eq_false c43;clear c43;(first|rw[c43b0]|(simp only[i64_w,i32_w];rw[c43b0])|skip)
                 have H':=Aside0.mk H;clear H;obtain⟨Ao47,co47,eo47⟩:=Kd.R_slice HO_7.out;subst eo47;go_wp2_with (first|((with_reducible refine gate_callee (f:=55) rfl ?_);refine goesL_ (some 70) rfl rfl Try.func55 (by kernel_rfl) rfl #[.slice Ao47 t115.length co47,.int .i64 x8_3] rfl (by(try simp only[List.map_toArray,List.map_cons,List.map_nil]);first|done|rfl|(simp only[List.length_drop,List.length_take];rfl)) ?_;(with_reducible refine(laws_lvAmong.calls k3 _ _ t115 x8_3 false _ ?side1 ?side2 A40.out).mono ?_);(case side1=>repeat(first|exact(Kd.R_reads' HO_7.out).2.2|(with_reducible refine Kd.C_alloc ?_ _)|(with_reducible refine Kd.C_drewN ?_ _)|(with_reducible refine Kd.C_drew ?_)));(case side2=>exact(Kd.R_reads' HO_7.out).2.1);rintro e w' ⟨rfl,⟨nd,rfl⟩⟩;refine⟨_,rfl,?_⟩))
                 go_meet
                 case rel=>exact⟨_,(false),(by first|rfl|(simp;done)|(simp[*];done)),H',⟨by have:=HJ2.out;have:=HJ10.out;have:=HK3.out;first|omega|exact Nat.le_refl _⟩,⟨by(try simp only[hl5_3]);(with_reducible repeat(first|apply rA|apply rN|apply rD));exact Kd.R_mono HO_5.out (fun _ hk=>trivial)⟩,⟨by(try simp only[hl5_3]);exact rU HO_7.out⟩,⟨by exact bU HB.out⟩⟩
              case rest=>
               clear HC34;(try clear c1);(try clear c2);(try clear p2);(try clear c3);(try clear p3);(try clear q3);(try clear hx3);(try clear hf3);(try clear c4);(try clear c4b0);(try clear c4b1);(try clear c5);(try clear p6);(try clear c10);(try clear c16);(try clear c16b0);(try clear c16b1);(try clear c17);(try clear c18);(try clear c19);(try clear c26);(try clear c29);(try clear c29b0);(try clear c30);(try clear c31);(try clear c31b0);(try clear c32);(try clear c32b0);(try clear c33);(try clear p33);(try clear q33);(try clear hx33);(try clear hf33);(try clear c38);(try clear hx38);(try clear hf38);(try clear c41);(try clear c42);(try clear c43);(try clear c43b0);(try clear c45);(try clear c46);(try clear hx33_0);(try clear hx33_1);(try clear hx33_2);(try clear hx33_3);(try clear hx33_4);(try clear hx33_5);(try clear hx38_0);(try clear hx38_1);(try clear hx38_2);(try clear hx38_3);(try clear hx38_4);(try clear hx38_5);(try clear p2);(try clear p33);(try clear q33)
               obtain⟨kq,x83_33,rfl,HA,HJ33,HO_5,HO_7,HB⟩:=hcut;cases kq with
               |zero=>exact absurd HA.out (by simp[laws_FnSafeMore.j3])
               |succ kj33=>
                have H:=HA.out;clear HA;simp only[laws_FnSafeMore.j3]at H
                by_cases c48:x83_33=true
                ·subst c48
                 have H1:(some false)=some r:=by rw[if_pos rfl]at H;exact H
                 clear H;have H:=H1;clear H1;obtain rfl:=Option.some.inj H;go_wp2
                 go_ret
                 exact⟨by first|rfl|(simp[errW_none,errW_some]<;>rfl)|(simp[*,errW_none,errW_some]<;>rfl),by exact bU HB.out⟩
                ·replace c48:=Bool.eq_false_iff.mpr c48
                 subst c48;have H1:(laws_FnSafeMore.l0 kj33 l1 x5_3 t115 (wrap64 (x8_3+1)))=some r:=by rw[if_neg (show¬(false=true) by decide)]at H;exact H
                 clear H;have H:=H1;clear H1;have H':=Aside0.mk H;clear H;go_wp2
                 (try simp only[←hl5_3])
                 go_roundg kj33
                 case measure=>have:=HJ2.out;have:=HJ10.out;have:=HK3.out;have:=HJ33.out;omega
                 case rel=>exact⟨(x5_3),(wrap64 (x8_3+1)),(by first|rfl|(simp;done)|(simp[*];done)),H',⟨by have:=HJ2.out;have:=HJ10.out;have:=HK3.out;have:=HJ33.out;omega⟩,⟨by(try simp only[hl5_3]);exact rU HO_5.out⟩,⟨by(try simp only[hl5_3]);exact rU HO_7.out⟩,⟨by exact bU HB.out⟩⟩
             ·rw[if_neg c32]at H
              exact absurd H (by simp)
            ·rw[if_neg c31]at H
             exact absurd H (by simp)
           ·rw[if_neg c30]at H
            exact absurd H (by simp)
          ·rw[if_neg c29]at H
           have c29b0:decide (x8_3<(x5_3.length:Int))=false:=decide_eq_false c29;clear c29;obtain rfl:=Option.some.inj H;go_wp2
           go_ret
           exact⟨by first|rfl|(simp[errW_none,errW_some]<;>rfl)|(simp[*,errW_none,errW_some]<;>rfl),by exact bU HB.out⟩
    ·replace c10:=Bool.eq_false_iff.mpr c10
     subst c10;have H1:(some true)=some r:=by rw[if_neg (show¬(false=true) by decide)]at H;exact H
     clear H;have H:=H1;clear H1;have z49:(false==false)=true:=by simp
     have z50:(false !=false)=false:=by simp
     obtain rfl:=Option.some.inj H;go_wp2_with (first|((with_reducible refine gate_callee (f:=52) rfl ?_);refine goesL_ (some 19) rfl rfl Try.func52 (by kernel_rfl) rfl #[.slice A0 l0.length c0] rfl (by(try simp only[List.map_toArray,List.map_cons,List.map_nil]);first|done|rfl|(simp only[List.length_drop,List.length_take];rfl)) ?_;(with_reducible refine(spec_DrawCodeSafe.calls kj2 _ _ l0 t101 _ ?side1 ?side2 A6.out).mono ?_);(case side1=>repeat(first|exact(Kd.C_below HR0.out HB.out)|(with_reducible refine Kd.C_alloc ?_ _)|(with_reducible refine Kd.C_drewN ?_ _)|(with_reducible refine Kd.C_drew ?_)));(case side2=>exact HC0.out);rintro e w51 ⟨v102,rfl,ho0,hb⟩;refine⟨_,rfl,?_⟩;have HO103:=Aside0.mk (Kd.R_lower ho0 (below_size (by exact bU HB.out)));replace HB:=Aside0.mk (below_step (by exact bU HB.out) hb);(try clear hb);(try clear hb2);(try clear hk);(try clear hi);(try clear ho0);obtain⟨Ao52,co52,eo52⟩:=Kd.R_slice HO103.out;subst eo52)|((with_reducible refine gate_callee (f:=46) rfl ?_);refine goesL_ (some 21) rfl rfl Try.func46 (by kernel_rfl) rfl #[.slice Ao52 t101.length co52] rfl (by(try simp only[List.map_toArray,List.map_cons,List.map_nil]);first|done|rfl|(simp only[List.length_drop,List.length_take];rfl)) ?_;(with_reducible refine(impl_CodeSafe.calls _ _ t101 false _ ?side1 ?side2 A7.out).mono ?_);(case side1=>repeat(first|exact(Kd.R_reads' HO103.out).2.2|(with_reducible refine Kd.C_alloc ?_ _)|(with_reducible refine Kd.C_drewN ?_ _)|(with_reducible refine Kd.C_drew ?_)));(case side2=>exact(Kd.R_reads' HO103.out).2.1);rintro e w53 ⟨rfl,hb⟩;refine⟨_,rfl,?_⟩;replace HO103:=Aside0.mk (Kd.R_below (by exact rU HO103.out) hb);replace HB:=Aside0.mk (below_step (by exact bU HB.out) hb);(try clear hb);(try clear hb2);(try clear hk);(try clear hi))|((with_reducible refine gate_callee (f:=45) rfl ?_);refine goesL_ (some 24) rfl rfl Try.func45 (by kernel_rfl) rfl #[.slice Ao52 t101.length co52] rfl (by(try simp only[List.map_toArray,List.map_cons,List.map_nil]);first|done|rfl|(simp only[List.length_drop,List.length_take];rfl)) ?_;(with_reducible refine(spec_CodeSafe_as.calls _ _ t101 false _ ?side1 ?side2 A7.out).mono ?_);(case side1=>repeat(first|exact(Kd.R_reads' HO103.out).2.2|(with_reducible refine Kd.C_alloc ?_ _)|(with_reducible refine Kd.C_drewN ?_ _)|(with_reducible refine Kd.C_drew ?_)));(case side2=>exact(Kd.R_reads' HO103.out).2.1);rintro e w54 ⟨rfl,hb⟩;refine⟨_,rfl,?_⟩;replace HO103:=Aside0.mk (Kd.R_below (by exact rU HO103.out) hb);replace HB:=Aside0.mk (below_step (by exact bU HB.out) hb);(try clear hb);(try clear hb2);(try clear hk);(try clear hi))|((with_reducible refine gate_callee (f:=45) rfl ?_);refine goesL_ (some 32) rfl rfl Try.func45 (by kernel_rfl) rfl #[.slice Ao52 t101.length co52] rfl (by(try simp only[List.map_toArray,List.map_cons,List.map_nil]);first|done|rfl|(simp only[List.length_drop,List.length_take];rfl)) ?_;(with_reducible refine(spec_CodeSafe_as.calls _ _ t101 false _ ?side1 ?side2 A7.out).mono ?_);(case side1=>repeat(first|exact(Kd.R_reads' HO103.out).2.2|(with_reducible refine Kd.C_alloc ?_ _)|(with_reducible refine Kd.C_drewN ?_ _)|(with_reducible refine Kd.C_drew ?_)));(case side2=>exact(Kd.R_reads' HO103.out).2.1);rintro e w55 ⟨rfl,hb⟩;refine⟨_,rfl,?_⟩;replace HO103:=Aside0.mk (Kd.R_below (by exact rU HO103.out) hb);replace HB:=Aside0.mk (below_step (by exact bU HB.out) hb);(try clear hb);(try clear hb2);(try clear hk);(try clear hi)))
     go_ret
     exact⟨by first|rfl|(simp[errW_none,errW_some]<;>rfl)|(simp[*,errW_none,errW_some]<;>rfl),by exact bU HB.out⟩
def laws_FnSafeMore.Pure:Prop:= ∀ (l0:List Int) (l1:List Int),l0.length≤maxLen→l0.length*1≤140737488351232→(∀x∈l0,(Lit.int .u8 x).wf=true)→l1.length≤maxLen→l1.length*1≤140737488351232→(∀x∈l1,(Lit.int .u8 x).wf=true)→ ∃k,laws_FnSafeMore.f k l0 l1=some true
theorem laws_FnSafeMore.walk (P:laws_FnSafeMore.Pure) (a0:Option Addr) (len0 cap0:Nat) (z0:List Int) (a1:Option Addr) (len1 cap1:Nat) (z1:List Int) (w:World) (w0:(a0=none∧len0=0∧cap0=0∧z0=[])∨ ∃x,a0=some x∧len0≤cap0∧cap0≤maxLen∧z0.length=cap0∧(∀i,i<z0.length→w.cell? (x.add i)=some (.int .u8 (z0.getD i 0)))∧ ∀n∈z0,(Lit.int .u8 n).wf=true) (y0:len0*1≤140737488351232) (w1:(a1=none∧len1=0∧cap1=0∧z1=[])∨ ∃x,a1=some x∧len1≤cap1∧cap1≤maxLen∧z1.length=cap1∧(∀i,i<z1.length→w.cell? (x.add i)=some (.int .u8 (z1.getD i 0)))∧ ∀n∈z1,(Lit.int .u8 n).wf=true) (y1:len1*1≤140737488351232):
  Calls Try.prog 19 #[.slice a0 len0 cap0,.slice a1 len1 cap1] w fun e w'=>e= .returned (.bool true)∧Below w.heap.size w w':=by
 obtain⟨l0,rfl,hr0,hm0,hw0,hc0⟩:=ReadsInt.ofRowC w0;obtain⟨l1,rfl,hr1,hm1,hw1,hc1⟩:=ReadsInt.ofRowC w1;obtain⟨k,h⟩:=P l0 l1 hm0 y0 hw0 hm1 y1 hw1;refine(laws_FnSafeMore.calls k _ _ l0 _ _ l1 true w (Kd.C_of_reads (d:=(0:Int)) (h1:=fun _=>rfl) hr0) hc0 (Kd.C_of_reads (d:=(0:Int)) (h1:=fun _=>rfl) hr1) hc1 h).mono ?_
 rintro e w' ⟨rfl,hd⟩
 exact⟨rfl,hd⟩
end Go.Proofs.Ytmklpbmlgjkbiaa.PJG
end
section
namespace Go.Proofs.Ytmklpbmlgjkbiaa.Pure
open Go.RowKit Go.Proofs.Ytmklpbmlgjkbiaa.PJG Go.Proofs.Ytmklpbmlgjkbiaa.PS Go.Proofs.YtmklpbmlgjkbiaaW.PrintWords Go.Proofs.YtmklpbmlgjkbiaaW.PrintLast
theorem safe_code {c:List S29} (hs:safeB c=true):codeB c=true∧ ∀i,i<c.length→safeAt c i=true:=by
  unfold safeB at hs;simp only[Bool.and_eq_true,List.all_eq_true]at hs
  exact⟨hs.1,fun i hi=>hs.2 i (by simpa using hi)⟩
theorem come_full {c:List S29} (hc:codeB c=true) {j:Nat} (h:PS.Reach (wayW c) c.length (j:Int)):0≤at_ (fullL c) (j:Int):=((full_reach (wayW_good hc) (by have:=code_len hc;omega)).2 h).2.2
theorem rd_set_ne {c:List S29} {i j:Nat} (x:S29) (h:i≠j):rd_T29 (c.set i x) (j:Int)=rd_T29 c (j:Int):=by
  unfold rd_T29;simp[List.getD_eq_getElem?_getD,h]
theorem safe_set {c:List S29} (hs:safeB c=true) {i:Nat} (hi:i<c.length) (hf: ¬0≤at_ (fullL c) (i:Int)) {x:S29} (hx:opP x.f0 x.f1 x.f2 x.f3 x.f4.f0 x.f4.f1) (ht:hasT x.f0=true→x.f3<c.length):safeB (c.set i x)=true:=by
  obtain⟨hc,ha⟩:=safe_code hs;have hk:=code_set hc hi hx ht
  have hfull:fullL (c.set i x)=fullL c:=by
    unfold fullL;rw[List.length_set];refine full_agree (wayW_good hc) fun j hj hR=> ?_
    have hne:i≠j:=fun e=>hf (e▸come_full hc hR)
    unfold wayW waysL;rw[rd_set_ne x hne,List.length_set]
  refine safe_all hk fun j hj=> ?_
  rw[List.length_set]at hj
  by_cases e:i=j
  · subst e
    unfold safeAt;rw[hfull,decide_eq_true (by omega)];rfl
  · have:=ha j hj
    unfold safeAt at this⊢;rw[hfull,rd_set_ne x e,List.length_set];exact this
theorem rd_app {c:List S29} {j:Nat} (x:S29) (h:j<c.length):rd_T29 (c++ [x]) (j:Int)=rd_T29 c (j:Int):=by
  unfold rd_T29;rw[List.getD_eq_getElem?_getD,List.getD_eq_getElem?_getD,Int.toNat_natCast,List.getElem?_append_left h]
theorem safe_more {c:List S29} (hs:safeB c=true) (hn:c.length<16) {r:Int} (hr:0≤r∧r≤3):safeB (c++ [⟨14,r,0,0,⟨0,0⟩⟩])=true:=by
  obtain⟨hc,ha⟩:=safe_code hs;have hlen:=code_len hc;have hll:(c++ [(⟨14,r,0,0,⟨0,0⟩⟩:S29)]).length=c.length+1:=by simp
  have hk:codeB (c++ [⟨14,r,0,0,⟨0,0⟩⟩])=true:=by
    unfold codeB;rw[hll,decide_eq_true (by omega),Bool.true_and]
    have:(c++ [(⟨14,r,0,0,⟨0,0⟩⟩:S29)]).any (wrongB (c.length+1))=false:=by
      rw[List.any_eq_false];intro y hy;rcases List.mem_append.1 hy with hy|hy
      · obtain⟨i,hi,rfl⟩:=List.mem_iff_getElem.1 hy
        obtain⟨hop,hT⟩:=code_op hc hi;unfold wrongB opS;rw[opB_true.2 hop];by_cases h:hasT c[i].f0=true
        · have:=hT h
          rw[h,decide_eq_false (by omega)];decide
        · have h':hasT c[i].f0=false:=by simpa using h
          rw[h'];simp
      · have:y=⟨14,r,0,0,⟨0,0⟩⟩:=by simpa using hy
        subst this;unfold wrongB opS;rw[opB_true.2 (end_op r hr)];have:hasT 14=false:=rfl;rw[this];simp
    rw[this];rfl
  have hW:=wayW_good hc;have hfl:=full_len hc
  have hfull:fullL (c++ [⟨14,r,0,0,⟨0,0⟩⟩])=fullL c++ [-1]:=by
    unfold fullL;rw[hll];refine full_app hW (by omega) fun j hj hR=> ?_
    have h0:=come_full hc hR;unfold wayW waysL;rw[rd_app _ hj,hll];by_cases hj2:j+1<c.length
    · unfold arrowsL
      rw[if_pos (c:=(j:Int)+1<((c.length+1:Nat):Int)) (by omega),if_pos (c:=(j:Int)+1<(c.length:Int)) (by omega)]
    · have hsj:=ha j hj
      unfold safeAt at hsj;rw[decide_eq_false (by omega),Bool.false_or,decide_eq_false hj2,Bool.false_or]at hsj
      have hE:endsB (rd_T29 c (j:Int))=true:=by
        cases h:endsB (rd_T29 c (j:Int))with
        |true=>rfl
        |false=>rw[h]at hsj;cases hsj
      have hE:=of_decide_eq_true hE;unfold arrowsL;rw[if_pos (c:=(rd_T29 c (j:Int)).f0=9∨(rd_T29 c (j:Int)).f0=14) hE,if_pos (c:=(rd_T29 c (j:Int)).f0=9∨(rd_T29 c (j:Int)).f0=14) hE]
  refine safe_all hk fun j hj=> ?_
  rw[hll]at hj
  by_cases hj2:j<c.length
  · have:=ha j hj2
    unfold safeAt at this⊢;rw[hfull,at_app (by omega) (by omega),rd_app _ hj2,hll,decide_eq_true (show j+1<c.length+1 by omega),Bool.true_or,Bool.true_and]
    cases h:decide (at_ (fullL c) (j:Int)<0)with
    |true=>rfl
    |false=>
      rw[h,Bool.false_or,Bool.and_eq_true]at this
      rw[this.2];rfl
  · obtain rfl:j=c.length:=by omega
    have:at_ (fullL c++ [-1]) (c.length:Int)= -1:=by
      unfold at_;rw[List.getD_eq_getElem?_getD,Int.toNat_natCast,List.getElem?_append_right (by omega),hfl,Nat.sub_self];rfl
    unfold safeAt;rw[hfull,this];rfl
theorem sm_loop {c:List S29} (hs:safeB c=true) (l1:List Int) (d:Nat): ∀i,c.length-i=d→i≤c.length→Ev (fun k=>laws_FnSafeMore.l0 k l1 c (reachL c) (i:Int)) true:=by
  obtain⟨hc,ha⟩:=safe_code hs;obtain⟨g1,g2⟩:=code_len hc;have hrl:(reachL c).length≤c.length:=reach_len c c.length;induction d with
  |zero=>
    intro i hd hi;refine Ev.step (f:=fun k=>some true) (fun k=> ?_) (Ev.now _)
    simp only[laws_FnSafeMore.l0]
    rw[if_neg (by omega)]
  |succ d ih=>
    intro i hd hi;have ih1:=ih (i+1) (by omega) (by omega)
    have hw:wrap64 ((i:Int)+1)=((i+1:Nat):Int):=by rw[w64 (by omega) (by omega)];rfl
    have j3:Ev (fun k=>laws_FnSafeMore.j3 k l1 c (reachL c) (i:Int) false) true:=by
      refine Ev.step (fun k=> ?_) ih1
      simp only[laws_FnSafeMore.j3,Bool.false_eq_true,if_false,hw]
    refine Ev.step (f:=fun k=>(laws_lvAmong.f k (reachL c) (i:Int)).bind fun t125=>(if t125=true then(laws_FnSafeMore.j3 k l1 c (reachL c) (i:Int) false)else(if(wrap64 ((i:Int)+1))<(c.length:Int)then((safeV.f (c.set i (⟨2,1,(l1.length:Int)%4,0,(⟨0,0⟩:S27)⟩:S29))).bind fun t126=>(laws_FnSafeMore.j3 k l1 c (reachL c) (i:Int) (!t126)))else(laws_FnSafeMore.j3 k l1 c (reachL c) (i:Int) false)))) (fun k=> ?_) ?_
    · simp only[laws_FnSafeMore.l0,Option.bind_some,List.nil_append,List.length_nil,Nat.zero_add]
      rw[if_pos (by omega),if_pos (by omega),if_pos (by omega),if_pos (by omega),Int.toNat_natCast]
    · refine Ev.bind (lvAmong_ev _ _ (by omega)) ?_
      by_cases hin:(i:Int)∈reachL c
      · rw[decide_eq_true hin];simp only[if_true];exact j3
      · rw[decide_eq_false hin]
        simp only[Bool.false_eq_true,if_false,hw]
        by_cases hn:i+1<c.length
        · have:=safe_set hs (i:=i) (by omega) (fun h=>hin ((mem_reach (by omega)).2 h)) (x:=⟨2,1,(l1.length:Int)%4,0,⟨0,0⟩⟩) (move_op ((l1.length:Int)%4) (by omega)) (by intro hh;cases hh)
          simp only[if_pos (show((i+1:Nat):Int)<(c.length:Int) by omega),safeV.f,this,Option.bind_some,Bool.not_true]
          exact j3
        · simp only[if_neg (show¬((i+1:Nat):Int)<(c.length:Int) by omega)]
          exact j3
theorem FnSafeMore:laws_FnSafeMore.Pure:=by
  intro l0 l1 hm hr hw hm1 hr1 hw1;refine Ev.rounds ?_
  have no:Ev (fun k=>laws_FnSafeMore.j0 k l0 l1 true) true:=by
    refine Ev.step (f:=fun k=>some true) (fun k=> ?_) (Ev.now _)
    simp only[laws_FnSafeMore.j0,if_true]
  unfold laws_FnSafeMore.f;by_cases hl:(l0.length:Int)>1048576
  · simp only[if_pos hl];exact no
  simp only[if_neg hl]
  by_cases hl1:(l1.length:Int)>1048576
  · rw[decide_eq_true hl1];exact no
  rw[decide_eq_false hl1];obtain⟨c,hc,hcl⟩:=drawSafe_ev hw;refine Ev.step (f:=fun k=>(spec_DrawCodeSafe.f k l0).bind fun t101=>((safeV.f t101).bind fun t104=>(if t104=true then(if(t101.length:Int)<16 then((some (([]:List (S29)):List (S29))).bind fun y105=>(if y105.length+t101.length<2932031007402 then((some (y105++t101:List (S29))).bind fun y108=>(if y108.length<2932031007402 then((safeV.f (y108++ [(⟨14,(l1.length:Int)%4,0,0,(⟨0,0⟩:S27)⟩:S29)])).bind fun t114=>(laws_FnSafeMore.j1 k l1 t101 (!t114)))else(none)))else(none)))else(laws_FnSafeMore.j1 k l1 t101 false))else(some true)))) (fun k=> ?_) ?_
  · simp only[laws_FnSafeMore.j0,Bool.false_eq_true,if_false]
  refine Ev.bind hc ?_
  simp only[safeV.f,Option.bind_some,List.nil_append,List.length_nil,Nat.zero_add]
  by_cases hs:safeB c=true
  · have hk:=(safe_code hs).1
    have j1:Ev (fun k=>laws_FnSafeMore.j1 k l1 c false) true:=by
      refine Ev.step (fun k=> ?_) (sm_loop hs l1 c.length 0 (by omega) (by omega))
      simp only[laws_FnSafeMore.j1,Bool.false_eq_true,if_false,reachV.f,if_pos hk,Option.bind_some];rfl
    simp only[if_pos hs]
    by_cases h16:(c.length:Int)<16
    · have:=safe_more hs (by omega) (r:=(l1.length:Int)%4) (by omega)
      simp only[if_pos h16,if_pos (show c.length<2932031007402 by omega),this,Bool.not_true]
      exact j1
    · simp only[if_neg h16];exact j1
  · simp only[if_neg hs];exact Ev.now _
end Go.Proofs.Ytmklpbmlgjkbiaa.Pure
end
