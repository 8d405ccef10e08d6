/- What the rows of OTB rest on, part 3. -/
import Derived.Outline
import Derived.Test.YtmklpbmlgjkbiaaDoorRows
import Derived.Stop.LaidErr
import Derived.Lib.LaidTab
import Derived.LaidMore
import Derived.MakeChecks
import Derived.ProofKit
import Derived.Lib.SmallJoins
import Derived.Test.YtmklpbmlgjkbiaaDoorQOTB1
set_option linter.unusedVariables false
set_option linter.unusedSimpArgs false
set_option maxHeartbeats 8000000
set_option maxRecDepth 100000
section
namespace Go.Proofs.YtmklpbmlgjkbiaaDoor.PS
open Go.RowKit Go.Proofs.YtmklpbmlgjkbiaaDoorW.PrintWords Go.Proofs.YtmklpbmlgjkbiaaDoorW.PrintLast
def namesL:List ByteArray:=[⟨#[]⟩,⟨#[115,101,116]⟩,⟨#[109,111,118,101]⟩,⟨#[97,100,100]⟩,⟨#[115,101,108,102]⟩,⟨#[98,101,103,105,110]⟩,⟨#[115,101,110,100]⟩,⟨#[116,97,107,101]⟩,⟨#[97,102,116,101,114]⟩,⟨#[103,111]⟩,⟨#[105,102]⟩,⟨#[108,105,110,107]⟩,⟨#[119,97,116,99,104]⟩,⟨#[116,114,97,112]⟩,⟨#[101,110,100]⟩]
def nameB (k:Int):ByteArray:=rdOf ByteArray.empty namesL k
theorem names_calls (k:Int) (hk:0≤k) (hk2:k<15) (W:World):Calls Tryd.prog 50 #[] W fun e w'=> ∃g c,e= .returned (.slice (some ⟨g,0,none⟩) 15 c)∧Below W.heap.size W w'∧w'.cell? ⟨g,k.toNat,none⟩=some (.string (nameB k)):=by
  refine(spec_l2Names.calls namesL W rfl).mono ?_
  rintro e w' ⟨v,rfl,hR,hb⟩
  obtain⟨g,cap,e,_⟩:=Kd.R_form hR (by decide)
  rw[e]at hR⊢
  exact⟨g,cap,rfl,hb,(Kd.R_celln ByteArray.empty hR k hk hk2).1⟩
def addN (b:Bool) (out:ByteArray) (n:Int):Option ByteArray:=if b=true then(spec_l6Dec.f 8 n).bind fun x=>if x.size≤100 then some ((out++⟨#[32]⟩)++x)else none else some out
def addV (b:Bool) (out:ByteArray) (vk vn:Int):Option ByteArray:=if b=true then(spec_ValText.f 8 vk vn).bind fun x=>if x.size≤100 then some ((out++⟨#[32]⟩)++x)else none else some out
def otextV.f (k r s t vk vn:Int):Option ByteArray:=
  if opB k r s t vk vn=true then(addN (hasR k) (nameB k) r).bind fun o1=>(addN (hasS k) o1 s).bind fun o2=>(addN (hasT k) o2 t).bind fun o3=>addV (hasV k) o3 vk vn else some ⟨#[]⟩
theorem addN_some {b:Bool} {out o1:ByteArray} {n:Int} (h:addN b out n=some o1):(b=false∧o1=out)∨(b=true∧ ∃x,spec_l6Dec.f 8 n=some x∧x.size≤100∧o1=(out++⟨#[32]⟩)++x):=by
  unfold addN at h;cases b with
  |false=>exact .inl ⟨rfl,by simpa using h.symm⟩
  |true=>
    right
    rw[if_pos rfl]at h
    obtain⟨x,hx,h⟩:=Option.bind_eq_some_iff.1 h;split at h
    · exact⟨rfl,x,hx,by assumption,(Option.some.inj h).symm⟩
    · cases h
theorem addV_some {b:Bool} {out o1:ByteArray} {k n:Int} (h:addV b out k n=some o1):(b=false∧o1=out)∨(b=true∧ ∃x,spec_ValText.f 8 k n=some x∧x.size≤100∧o1=(out++⟨#[32]⟩)++x):=by
  unfold addV at h;cases b with
  |false=>exact .inl ⟨rfl,by simpa using h.symm⟩
  |true=>
    right
    rw[if_pos rfl]at h
    obtain⟨x,hx,h⟩:=Option.bind_eq_some_iff.1 h;split at h
    · exact⟨rfl,x,hx,by assumption,(Option.some.inj h).symm⟩
    · cases h
theorem text_no (k r s t vk vn:Int) (w:World) (h:opB k r s t vk vn=false):
    Calls Tryd.prog 22 #[.agg #[.int .i64 k,.int .i64 r,.int .i64 s,.int .i64 t,.int .i64 vk,.int .i64 vn]] w fun e w'=>e= .returned (.string ⟨#[]⟩)∧Below w.heap.size w w':=by
  have hOk:=fun W:World=>spec_OpOk.calls k r s t vk vn false W (by unfold opV.f;rw[h])
  clear h;go_enter Tryd.func22,Tryd.ntmps22
  go_wp2_with (go_at_call 48;refine(hOk _).mono ?_;rintro e w' ⟨rfl,hb⟩)
  go_ret
  exact⟨rfl,below_step (below_alloc (Below.refl _ _) _) hb⟩
theorem text_walk (k r s t vk vn:Int) (w:World) (hop:opB k r s t vk vn=true) (nm xR xS xT xV:ByteArray) (hk:1≤k∧k≤14) (hnm:nm=nameB k) (hsz:nm.size≤100∧xR.size≤100∧xS.size≤100∧xT.size≤100∧xV.size≤100)
    (bR bS bT bV:Bool) (eR:bR=hasR k) (eS:bS=hasS k) (eT:bT=hasT k) (eV:bV=hasV k)
    (hR:bR=true→spec_l6Dec.f 8 r=some xR) (hS:bS=true→spec_l6Dec.f 8 s=some xS) (hT:bT=true→spec_l6Dec.f 8 t=some xT) (hV:bV=true→spec_ValText.f 8 vk vn=some xV)
    (o1 o2 o3 o4:ByteArray) (h1:o1=if bR=true then(nm++⟨#[32]⟩)++xR else nm) (h2:o2=if bS=true then(o1++⟨#[32]⟩)++xS else o1) (h3:o3=if bT=true then(o2++⟨#[32]⟩)++xT else o2) (h4:o4=if bV=true then(o3++⟨#[32]⟩)++xV else o3):
    Calls Tryd.prog 22 #[.agg #[.int .i64 k,.int .i64 r,.int .i64 s,.int .i64 t,.int .i64 vk,.int .i64 vn]] w fun e w'=>e= .returned (.string o4)∧Below w.heap.size w w':=by
  have hOk:=fun W:World=>spec_OpOk.calls k r s t vk vn true W (by unfold opV.f;rw[hop])
  have hFo:=fun W:World=>form_calls hk W
  rw[←eR,←eS,←eT,←eV]at hFo
  have hNa:=fun W:World=>names_calls k (by omega) (by omega) W
  rw[←hnm]at hNa
  obtain⟨hk1,hk2⟩:=hk;have hk0:0≤k:=by omega
  have hk15:k<15:=by omega
  have BK:Aside0 ((w.alloc (.cells #[.int .i64 k,.int .i64 r,.int .i64 s,.int .i64 t,.int .i64 vk,.int .i64 vn] 35)).heap[w.heap.size]?=some (.cells #[.int .i64 k,.int .i64 r,.int .i64 s,.int .i64 t,.int .i64 vk,.int .i64 vn] 35 (0,0))):=⟨blk_new _ _⟩;have HB:=Aside0.mk (below_alloc (Below.refl w.heap.size w) (.cells #[.int .i64 k,.int .i64 r,.int .i64 s,.int .i64 t,.int .i64 vk,.int .i64 vn] 35));have H:=Aside0.mk (show _∧_∧_∧_∧_∧_∧_∧_∧_ from⟨h1,h2,h3,h4,hR,hS,hT,hV,hsz⟩)
  clear hop hnm eR eS eT eV hR hS hT hV h1 h2 h3 h4 hsz;go_enter Tryd.func22,Tryd.ntmps22
  go_wp2_with (first|(go_at_call 48;refine(hOk _).mono ?_;rintro e w1 ⟨rfl,hb⟩;have BK1:=Aside0.mk (blk_below BK.out hb);have HB1:=Aside0.mk (below_step HB.out hb);clear hb;have q0:w1.cell? ⟨w.heap.size,0,none⟩=some (.int .i64 k):=(blk_cell BK1.out 0).trans rfl)|(go_at_call 49;refine(hFo _).mono ?_;rintro e w2 ⟨gf,cf,rfl,hb,gl,f0,f1,f2,f3⟩;have BK2:=Aside0.mk (blk_below BK1.out hb);have HB2:=Aside0.mk (below_step HB1.out hb);clear hb))
  have q2:w2.cell? ⟨w.heap.size,0,none⟩=some (.int .i64 k):=(blk_cell BK2.out 0).trans rfl;have hbl:Below w2.heap.size w2 w2.drew:=below_drew (Below.refl _ _);have q3:w2.drew.cell? ⟨w.heap.size,0,none⟩=some (.int .i64 k):=q2;go_region_with (first|(go_at_call 50;refine(hNa _).mono ?_;rintro e w3 ⟨gn,cn,rfl,hb,n0⟩;have q9:w3.cell? ⟨w.heap.size,0,none⟩=some (.int .i64 k):=(hb.cell (World.block_lt_of_cell? _ _ (by first|exact q2|exact q3))).trans (by first|exact q2|exact q3)))
  all_goals
    have hH2:Below w2.heap.size w2 w3:=below_step hbl hb;have BK3:=Aside0.mk (blk_below BK2.out hH2);have HB3:=Aside0.mk (below_step HB2.out hH2);have g0:=(hH2.cell (World.block_lt_of_cell? _ _ f0)).trans f0;have g1:=(hH2.cell (World.block_lt_of_cell? _ _ f1)).trans f1;have g2:=(hH2.cell (World.block_lt_of_cell? _ _ f2)).trans f2;have g3:=(hH2.cell (World.block_lt_of_cell? _ _ f3)).trans f3;clear f0 f1 f2 f3 q0 q2 q3 q9 hbl hOk hFo hNa n0 hH2 hb;obtain⟨h1,h2,h3,h4,hR,hS,hT,hV,z0,zR,zS,zT,zV⟩:=H.out;clear H;cases bR with
    |false=>
      have k0:o1=nm:=by simpa using h1
      clear h1 hR;subst k0;go_upto_region 7 with (fail)
      cases bS with
      |false=>
        have k1:o2=o1:=by simpa using h2
        clear h2 hS;subst k1;go_upto_region 9 with (fail)
        cases bT with
        |false=>
          have k2:o3=o2:=by simpa using h3
          clear h3 hT;subst k2;go_upto_region 11 with (fail)
          cases bV with
          |false=>
            have k3:o4=o3:=by simpa using h4
            clear h4 hV;subst k3;go_wp2
            go_ret
            exact⟨rfl,HB3.out⟩
          |true=>
            have k3:o4=(o3++⟨#[32]⟩)++xV:=by simpa using h4
            have K3:=Aside0.mk k3;have dc:=fun W:World=>spec_ValText.calls 8 vk vn xV W (hV rfl)
            have zs:(o3++(⟨#[32]⟩:ByteArray)).size=o3.size+1:=by rw[ByteArray.size_append];rfl
            have zo:o4.size≤201:=by rw[k3,ByteArray.size_append,zs];omega
            have da1:decide (o3.size+1≤9223372036854775807)=true:=decide_eq_true (by omega)
            have da2:(9223372036854775807<o3.size+1)=False:=eq_false (by omega)
            have da3:(o3.size+1≤9223372036854775807)=True:=eq_true (by omega)
            have db1:decide ((o3++(⟨#[32]⟩:ByteArray)).size+xV.size≤9223372036854775807)=true:=decide_eq_true (by rw[zs];omega)
            have db2:(9223372036854775807<(o3++(⟨#[32]⟩:ByteArray)).size+xV.size)=False:=eq_false (by rw[zs];omega)
            have db3:((o3++(⟨#[32]⟩:ByteArray)).size+xV.size≤9223372036854775807)=True:=eq_true (by rw[zs];omega)
            have dc1:decide (o3.size+1+xV.size≤9223372036854775807)=true:=decide_eq_true (by omega)
            have dc2:(9223372036854775807<o3.size+1+xV.size)=False:=eq_false (by omega)
            have dc3:(o3.size+1+xV.size≤9223372036854775807)=True:=eq_true (by omega)
            have c0:w3.cell? ⟨w.heap.size,4,none⟩=some (.int .i64 vk):=(blk_cell BK3.out 4).trans rfl;have c1:w3.cell? ⟨w.heap.size,5,none⟩=some (.int .i64 vn):=(blk_cell BK3.out 5).trans rfl;clear h4 hV k3 zs;go_wp2_with (go_at_call 17;refine(dc _).mono ?_;rintro e w4 ⟨rfl,hb⟩;have BK4:=Aside0.mk (blk_below BK3.out hb);have HB4:=Aside0.mk (below_step HB3.out hb);clear hb BK3 HB3)
            go_ret
            exact⟨by rw[K3.out];rfl,HB4.out⟩
        |true=>
          have k2:o3=(o2++⟨#[32]⟩)++xT:=by simpa using h3
          have K2:=Aside0.mk k2;have dc:=fun W:World=>spec_l6Dec.calls 8 t xT W (hT rfl)
          have zs:(o2++(⟨#[32]⟩:ByteArray)).size=o2.size+1:=by rw[ByteArray.size_append];rfl
          have zo:o3.size≤201:=by rw[k2,ByteArray.size_append,zs];omega
          have da1:decide (o2.size+1≤9223372036854775807)=true:=decide_eq_true (by omega)
          have da2:(9223372036854775807<o2.size+1)=False:=eq_false (by omega)
          have da3:(o2.size+1≤9223372036854775807)=True:=eq_true (by omega)
          have db1:decide ((o2++(⟨#[32]⟩:ByteArray)).size+xT.size≤9223372036854775807)=true:=decide_eq_true (by rw[zs];omega)
          have db2:(9223372036854775807<(o2++(⟨#[32]⟩:ByteArray)).size+xT.size)=False:=eq_false (by rw[zs];omega)
          have db3:((o2++(⟨#[32]⟩:ByteArray)).size+xT.size≤9223372036854775807)=True:=eq_true (by rw[zs];omega)
          have dc1:decide (o2.size+1+xT.size≤9223372036854775807)=true:=decide_eq_true (by omega)
          have dc2:(9223372036854775807<o2.size+1+xT.size)=False:=eq_false (by omega)
          have dc3:(o2.size+1+xT.size≤9223372036854775807)=True:=eq_true (by omega)
          have c0:w3.cell? ⟨w.heap.size,3,none⟩=some (.int .i64 t):=(blk_cell BK3.out 3).trans rfl;clear h3 hT k2 zs;go_upto_region 11 with (go_at_call 43;refine(dc _).mono ?_;rintro e w4 ⟨rfl,hb⟩;have BK4:=Aside0.mk (blk_below BK3.out hb);have HB4:=Aside0.mk (below_step HB3.out hb);have g3_:=(hb.cell (World.block_lt_of_cell? _ _ g3)).trans g3;clear g3;have g3:=g3_;clear g3_;clear hb BK3 HB3)
          rw[←K2.out];clear dc da1 da2 da3 db1 db2 db3 dc1 dc2 dc3 c0;cases bV with
          |false=>
            have k3:o4=o3:=by simpa using h4
            clear h4 hV;subst k3;go_wp2
            go_ret
            exact⟨rfl,HB4.out⟩
          |true=>
            have k3:o4=(o3++⟨#[32]⟩)++xV:=by simpa using h4
            have K3:=Aside0.mk k3;have dc:=fun W:World=>spec_ValText.calls 8 vk vn xV W (hV rfl)
            have zs:(o3++(⟨#[32]⟩:ByteArray)).size=o3.size+1:=by rw[ByteArray.size_append];rfl
            have zo:o4.size≤302:=by rw[k3,ByteArray.size_append,zs];omega
            have da1:decide (o3.size+1≤9223372036854775807)=true:=decide_eq_true (by omega)
            have da2:(9223372036854775807<o3.size+1)=False:=eq_false (by omega)
            have da3:(o3.size+1≤9223372036854775807)=True:=eq_true (by omega)
            have db1:decide ((o3++(⟨#[32]⟩:ByteArray)).size+xV.size≤9223372036854775807)=true:=decide_eq_true (by rw[zs];omega)
            have db2:(9223372036854775807<(o3++(⟨#[32]⟩:ByteArray)).size+xV.size)=False:=eq_false (by rw[zs];omega)
            have db3:((o3++(⟨#[32]⟩:ByteArray)).size+xV.size≤9223372036854775807)=True:=eq_true (by rw[zs];omega)
            have dc1:decide (o3.size+1+xV.size≤9223372036854775807)=true:=decide_eq_true (by omega)
            have dc2:(9223372036854775807<o3.size+1+xV.size)=False:=eq_false (by omega)
            have dc3:(o3.size+1+xV.size≤9223372036854775807)=True:=eq_true (by omega)
            have c0:w4.cell? ⟨w.heap.size,4,none⟩=some (.int .i64 vk):=(blk_cell BK4.out 4).trans rfl;have c1:w4.cell? ⟨w.heap.size,5,none⟩=some (.int .i64 vn):=(blk_cell BK4.out 5).trans rfl;clear h4 hV k3 zs;go_wp2_with (go_at_call 17;refine(dc _).mono ?_;rintro e w5 ⟨rfl,hb⟩;have BK5:=Aside0.mk (blk_below BK4.out hb);have HB5:=Aside0.mk (below_step HB4.out hb);clear hb BK4 HB4)
            go_ret
            exact⟨by rw[K3.out];rfl,HB5.out⟩
      |true=>
        have k1:o2=(o1++⟨#[32]⟩)++xS:=by simpa using h2
        have K1:=Aside0.mk k1;have dc:=fun W:World=>spec_l6Dec.calls 8 s xS W (hS rfl)
        have zs:(o1++(⟨#[32]⟩:ByteArray)).size=o1.size+1:=by rw[ByteArray.size_append];rfl
        have zo:o2.size≤201:=by rw[k1,ByteArray.size_append,zs];omega
        have da1:decide (o1.size+1≤9223372036854775807)=true:=decide_eq_true (by omega)
        have da2:(9223372036854775807<o1.size+1)=False:=eq_false (by omega)
        have da3:(o1.size+1≤9223372036854775807)=True:=eq_true (by omega)
        have db1:decide ((o1++(⟨#[32]⟩:ByteArray)).size+xS.size≤9223372036854775807)=true:=decide_eq_true (by rw[zs];omega)
        have db2:(9223372036854775807<(o1++(⟨#[32]⟩:ByteArray)).size+xS.size)=False:=eq_false (by rw[zs];omega)
        have db3:((o1++(⟨#[32]⟩:ByteArray)).size+xS.size≤9223372036854775807)=True:=eq_true (by rw[zs];omega)
        have dc1:decide (o1.size+1+xS.size≤9223372036854775807)=true:=decide_eq_true (by omega)
        have dc2:(9223372036854775807<o1.size+1+xS.size)=False:=eq_false (by omega)
        have dc3:(o1.size+1+xS.size≤9223372036854775807)=True:=eq_true (by omega)
        have c0:w3.cell? ⟨w.heap.size,2,none⟩=some (.int .i64 s):=(blk_cell BK3.out 2).trans rfl;clear h2 hS k1 zs;go_upto_region 9 with (go_at_call 43;refine(dc _).mono ?_;rintro e w4 ⟨rfl,hb⟩;have BK4:=Aside0.mk (blk_below BK3.out hb);have HB4:=Aside0.mk (below_step HB3.out hb);have g2_:=(hb.cell (World.block_lt_of_cell? _ _ g2)).trans g2;clear g2;have g2:=g2_;clear g2_;have g3_:=(hb.cell (World.block_lt_of_cell? _ _ g3)).trans g3;clear g3;have g3:=g3_;clear g3_;clear hb BK3 HB3)
        rw[←K1.out];clear dc da1 da2 da3 db1 db2 db3 dc1 dc2 dc3 c0;cases bT with
        |false=>
          have k2:o3=o2:=by simpa using h3
          clear h3 hT;subst k2;go_upto_region 11 with (fail)
          cases bV with
          |false=>
            have k3:o4=o3:=by simpa using h4
            clear h4 hV;subst k3;go_wp2
            go_ret
            exact⟨rfl,HB4.out⟩
          |true=>
            have k3:o4=(o3++⟨#[32]⟩)++xV:=by simpa using h4
            have K3:=Aside0.mk k3;have dc:=fun W:World=>spec_ValText.calls 8 vk vn xV W (hV rfl)
            have zs:(o3++(⟨#[32]⟩:ByteArray)).size=o3.size+1:=by rw[ByteArray.size_append];rfl
            have zo:o4.size≤302:=by rw[k3,ByteArray.size_append,zs];omega
            have da1:decide (o3.size+1≤9223372036854775807)=true:=decide_eq_true (by omega)
            have da2:(9223372036854775807<o3.size+1)=False:=eq_false (by omega)
            have da3:(o3.size+1≤9223372036854775807)=True:=eq_true (by omega)
            have db1:decide ((o3++(⟨#[32]⟩:ByteArray)).size+xV.size≤9223372036854775807)=true:=decide_eq_true (by rw[zs];omega)
            have db2:(9223372036854775807<(o3++(⟨#[32]⟩:ByteArray)).size+xV.size)=False:=eq_false (by rw[zs];omega)
            have db3:((o3++(⟨#[32]⟩:ByteArray)).size+xV.size≤9223372036854775807)=True:=eq_true (by rw[zs];omega)
            have dc1:decide (o3.size+1+xV.size≤9223372036854775807)=true:=decide_eq_true (by omega)
            have dc2:(9223372036854775807<o3.size+1+xV.size)=False:=eq_false (by omega)
            have dc3:(o3.size+1+xV.size≤9223372036854775807)=True:=eq_true (by omega)
            have c0:w4.cell? ⟨w.heap.size,4,none⟩=some (.int .i64 vk):=(blk_cell BK4.out 4).trans rfl;have c1:w4.cell? ⟨w.heap.size,5,none⟩=some (.int .i64 vn):=(blk_cell BK4.out 5).trans rfl;clear h4 hV k3 zs;go_wp2_with (go_at_call 17;refine(dc _).mono ?_;rintro e w5 ⟨rfl,hb⟩;have BK5:=Aside0.mk (blk_below BK4.out hb);have HB5:=Aside0.mk (below_step HB4.out hb);clear hb BK4 HB4)
            go_ret
            exact⟨by rw[K3.out];rfl,HB5.out⟩
        |true=>
          have k2:o3=(o2++⟨#[32]⟩)++xT:=by simpa using h3
          have K2:=Aside0.mk k2;have dc:=fun W:World=>spec_l6Dec.calls 8 t xT W (hT rfl)
          have zs:(o2++(⟨#[32]⟩:ByteArray)).size=o2.size+1:=by rw[ByteArray.size_append];rfl
          have zo:o3.size≤302:=by rw[k2,ByteArray.size_append,zs];omega
          have da1:decide (o2.size+1≤9223372036854775807)=true:=decide_eq_true (by omega)
          have da2:(9223372036854775807<o2.size+1)=False:=eq_false (by omega)
          have da3:(o2.size+1≤9223372036854775807)=True:=eq_true (by omega)
          have db1:decide ((o2++(⟨#[32]⟩:ByteArray)).size+xT.size≤9223372036854775807)=true:=decide_eq_true (by rw[zs];omega)
          have db2:(9223372036854775807<(o2++(⟨#[32]⟩:ByteArray)).size+xT.size)=False:=eq_false (by rw[zs];omega)
          have db3:((o2++(⟨#[32]⟩:ByteArray)).size+xT.size≤9223372036854775807)=True:=eq_true (by rw[zs];omega)
          have dc1:decide (o2.size+1+xT.size≤9223372036854775807)=true:=decide_eq_true (by omega)
          have dc2:(9223372036854775807<o2.size+1+xT.size)=False:=eq_false (by omega)
          have dc3:(o2.size+1+xT.size≤9223372036854775807)=True:=eq_true (by omega)
          have c0:w4.cell? ⟨w.heap.size,3,none⟩=some (.int .i64 t):=(blk_cell BK4.out 3).trans rfl;clear h3 hT k2 zs;go_upto_region 11 with (go_at_call 43;refine(dc _).mono ?_;rintro e w5 ⟨rfl,hb⟩;have BK5:=Aside0.mk (blk_below BK4.out hb);have HB5:=Aside0.mk (below_step HB4.out hb);have g3_:=(hb.cell (World.block_lt_of_cell? _ _ g3)).trans g3;clear g3;have g3:=g3_;clear g3_;clear hb BK4 HB4)
          rw[←K2.out];clear dc da1 da2 da3 db1 db2 db3 dc1 dc2 dc3 c0;cases bV with
          |false=>
            have k3:o4=o3:=by simpa using h4
            clear h4 hV;subst k3;go_wp2
            go_ret
            exact⟨rfl,HB5.out⟩
          |true=>
            have k3:o4=(o3++⟨#[32]⟩)++xV:=by simpa using h4
            have K3:=Aside0.mk k3;have dc:=fun W:World=>spec_ValText.calls 8 vk vn xV W (hV rfl)
            have zs:(o3++(⟨#[32]⟩:ByteArray)).size=o3.size+1:=by rw[ByteArray.size_append];rfl
            have zo:o4.size≤403:=by rw[k3,ByteArray.size_append,zs];omega
            have da1:decide (o3.size+1≤9223372036854775807)=true:=decide_eq_true (by omega)
            have da2:(9223372036854775807<o3.size+1)=False:=eq_false (by omega)
            have da3:(o3.size+1≤9223372036854775807)=True:=eq_true (by omega)
            have db1:decide ((o3++(⟨#[32]⟩:ByteArray)).size+xV.size≤9223372036854775807)=true:=decide_eq_true (by rw[zs];omega)
            have db2:(9223372036854775807<(o3++(⟨#[32]⟩:ByteArray)).size+xV.size)=False:=eq_false (by rw[zs];omega)
            have db3:((o3++(⟨#[32]⟩:ByteArray)).size+xV.size≤9223372036854775807)=True:=eq_true (by rw[zs];omega)
            have dc1:decide (o3.size+1+xV.size≤9223372036854775807)=true:=decide_eq_true (by omega)
            have dc2:(9223372036854775807<o3.size+1+xV.size)=False:=eq_false (by omega)
            have dc3:(o3.size+1+xV.size≤9223372036854775807)=True:=eq_true (by omega)
            have c0:w5.cell? ⟨w.heap.size,4,none⟩=some (.int .i64 vk):=(blk_cell BK5.out 4).trans rfl;have c1:w5.cell? ⟨w.heap.size,5,none⟩=some (.int .i64 vn):=(blk_cell BK5.out 5).trans rfl;clear h4 hV k3 zs;go_wp2_with (go_at_call 17;refine(dc _).mono ?_;rintro e w6 ⟨rfl,hb⟩;have BK6:=Aside0.mk (blk_below BK5.out hb);have HB6:=Aside0.mk (below_step HB5.out hb);clear hb BK5 HB5)
            go_ret
            exact⟨by rw[K3.out];rfl,HB6.out⟩
    |true=>
      have k0:o1=(nm++⟨#[32]⟩)++xR:=by simpa using h1
      have K0:=Aside0.mk k0;have dc:=fun W:World=>spec_l6Dec.calls 8 r xR W (hR rfl)
      have zs:(nm++(⟨#[32]⟩:ByteArray)).size=nm.size+1:=by rw[ByteArray.size_append];rfl
      have zo:o1.size≤201:=by rw[k0,ByteArray.size_append,zs];omega
      have da1:decide (nm.size+1≤9223372036854775807)=true:=decide_eq_true (by omega)
      have da2:(9223372036854775807<nm.size+1)=False:=eq_false (by omega)
      have da3:(nm.size+1≤9223372036854775807)=True:=eq_true (by omega)
      have db1:decide ((nm++(⟨#[32]⟩:ByteArray)).size+xR.size≤9223372036854775807)=true:=decide_eq_true (by rw[zs];omega)
      have db2:(9223372036854775807<(nm++(⟨#[32]⟩:ByteArray)).size+xR.size)=False:=eq_false (by rw[zs];omega)
      have db3:((nm++(⟨#[32]⟩:ByteArray)).size+xR.size≤9223372036854775807)=True:=eq_true (by rw[zs];omega)
      have dc1:decide (nm.size+1+xR.size≤9223372036854775807)=true:=decide_eq_true (by omega)
      have dc2:(9223372036854775807<nm.size+1+xR.size)=False:=eq_false (by omega)
      have dc3:(nm.size+1+xR.size≤9223372036854775807)=True:=eq_true (by omega)
      have c0:w3.cell? ⟨w.heap.size,1,none⟩=some (.int .i64 r):=(blk_cell BK3.out 1).trans rfl;clear h1 hR k0 zs;go_upto_region 7 with (go_at_call 43;refine(dc _).mono ?_;rintro e w4 ⟨rfl,hb⟩;have BK4:=Aside0.mk (blk_below BK3.out hb);have HB4:=Aside0.mk (below_step HB3.out hb);have g1_:=(hb.cell (World.block_lt_of_cell? _ _ g1)).trans g1;clear g1;have g1:=g1_;clear g1_;have g2_:=(hb.cell (World.block_lt_of_cell? _ _ g2)).trans g2;clear g2;have g2:=g2_;clear g2_;have g3_:=(hb.cell (World.block_lt_of_cell? _ _ g3)).trans g3;clear g3;have g3:=g3_;clear g3_;clear hb BK3 HB3)
      rw[←K0.out];clear dc da1 da2 da3 db1 db2 db3 dc1 dc2 dc3 c0;cases bS with
      |false=>
        have k1:o2=o1:=by simpa using h2
        clear h2 hS;subst k1;go_upto_region 9 with (fail)
        cases bT with
        |false=>
          have k2:o3=o2:=by simpa using h3
          clear h3 hT;subst k2;go_upto_region 11 with (fail)
          cases bV with
          |false=>
            have k3:o4=o3:=by simpa using h4
            clear h4 hV;subst k3;go_wp2
            go_ret
            exact⟨rfl,HB4.out⟩
          |true=>
            have k3:o4=(o3++⟨#[32]⟩)++xV:=by simpa using h4
            have K3:=Aside0.mk k3;have dc:=fun W:World=>spec_ValText.calls 8 vk vn xV W (hV rfl)
            have zs:(o3++(⟨#[32]⟩:ByteArray)).size=o3.size+1:=by rw[ByteArray.size_append];rfl
            have zo:o4.size≤302:=by rw[k3,ByteArray.size_append,zs];omega
            have da1:decide (o3.size+1≤9223372036854775807)=true:=decide_eq_true (by omega)
            have da2:(9223372036854775807<o3.size+1)=False:=eq_false (by omega)
            have da3:(o3.size+1≤9223372036854775807)=True:=eq_true (by omega)
            have db1:decide ((o3++(⟨#[32]⟩:ByteArray)).size+xV.size≤9223372036854775807)=true:=decide_eq_true (by rw[zs];omega)
            have db2:(9223372036854775807<(o3++(⟨#[32]⟩:ByteArray)).size+xV.size)=False:=eq_false (by rw[zs];omega)
            have db3:((o3++(⟨#[32]⟩:ByteArray)).size+xV.size≤9223372036854775807)=True:=eq_true (by rw[zs];omega)
            have dc1:decide (o3.size+1+xV.size≤9223372036854775807)=true:=decide_eq_true (by omega)
            have dc2:(9223372036854775807<o3.size+1+xV.size)=False:=eq_false (by omega)
            have dc3:(o3.size+1+xV.size≤9223372036854775807)=True:=eq_true (by omega)
            have c0:w4.cell? ⟨w.heap.size,4,none⟩=some (.int .i64 vk):=(blk_cell BK4.out 4).trans rfl;have c1:w4.cell? ⟨w.heap.size,5,none⟩=some (.int .i64 vn):=(blk_cell BK4.out 5).trans rfl;clear h4 hV k3 zs;go_wp2_with (go_at_call 17;refine(dc _).mono ?_;rintro e w5 ⟨rfl,hb⟩;have BK5:=Aside0.mk (blk_below BK4.out hb);have HB5:=Aside0.mk (below_step HB4.out hb);clear hb BK4 HB4)
            go_ret
            exact⟨by rw[K3.out];rfl,HB5.out⟩
        |true=>
          have k2:o3=(o2++⟨#[32]⟩)++xT:=by simpa using h3
          have K2:=Aside0.mk k2;have dc:=fun W:World=>spec_l6Dec.calls 8 t xT W (hT rfl)
          have zs:(o2++(⟨#[32]⟩:ByteArray)).size=o2.size+1:=by rw[ByteArray.size_append];rfl
          have zo:o3.size≤302:=by rw[k2,ByteArray.size_append,zs];omega
          have da1:decide (o2.size+1≤9223372036854775807)=true:=decide_eq_true (by omega)
          have da2:(9223372036854775807<o2.size+1)=False:=eq_false (by omega)
          have da3:(o2.size+1≤9223372036854775807)=True:=eq_true (by omega)
          have db1:decide ((o2++(⟨#[32]⟩:ByteArray)).size+xT.size≤9223372036854775807)=true:=decide_eq_true (by rw[zs];omega)
          have db2:(9223372036854775807<(o2++(⟨#[32]⟩:ByteArray)).size+xT.size)=False:=eq_false (by rw[zs];omega)
          have db3:((o2++(⟨#[32]⟩:ByteArray)).size+xT.size≤9223372036854775807)=True:=eq_true (by rw[zs];omega)
          have dc1:decide (o2.size+1+xT.size≤9223372036854775807)=true:=decide_eq_true (by omega)
          have dc2:(9223372036854775807<o2.size+1+xT.size)=False:=eq_false (by omega)
          have dc3:(o2.size+1+xT.size≤9223372036854775807)=True:=eq_true (by omega)
          have c0:w4.cell? ⟨w.heap.size,3,none⟩=some (.int .i64 t):=(blk_cell BK4.out 3).trans rfl;clear h3 hT k2 zs;go_upto_region 11 with (go_at_call 43;refine(dc _).mono ?_;rintro e w5 ⟨rfl,hb⟩;have BK5:=Aside0.mk (blk_below BK4.out hb);have HB5:=Aside0.mk (below_step HB4.out hb);have g3_:=(hb.cell (World.block_lt_of_cell? _ _ g3)).trans g3;clear g3;have g3:=g3_;clear g3_;clear hb BK4 HB4)
          rw[←K2.out];clear dc da1 da2 da3 db1 db2 db3 dc1 dc2 dc3 c0;cases bV with
          |false=>
            have k3:o4=o3:=by simpa using h4
            clear h4 hV;subst k3;go_wp2
            go_ret
            exact⟨rfl,HB5.out⟩
          |true=>
            have k3:o4=(o3++⟨#[32]⟩)++xV:=by simpa using h4
            have K3:=Aside0.mk k3;have dc:=fun W:World=>spec_ValText.calls 8 vk vn xV W (hV rfl)
            have zs:(o3++(⟨#[32]⟩:ByteArray)).size=o3.size+1:=by rw[ByteArray.size_append];rfl
            have zo:o4.size≤403:=by rw[k3,ByteArray.size_append,zs];omega
            have da1:decide (o3.size+1≤9223372036854775807)=true:=decide_eq_true (by omega)
            have da2:(9223372036854775807<o3.size+1)=False:=eq_false (by omega)
            have da3:(o3.size+1≤9223372036854775807)=True:=eq_true (by omega)
            have db1:decide ((o3++(⟨#[32]⟩:ByteArray)).size+xV.size≤9223372036854775807)=true:=decide_eq_true (by rw[zs];omega)
            have db2:(9223372036854775807<(o3++(⟨#[32]⟩:ByteArray)).size+xV.size)=False:=eq_false (by rw[zs];omega)
            have db3:((o3++(⟨#[32]⟩:ByteArray)).size+xV.size≤9223372036854775807)=True:=eq_true (by rw[zs];omega)
            have dc1:decide (o3.size+1+xV.size≤9223372036854775807)=true:=decide_eq_true (by omega)
            have dc2:(9223372036854775807<o3.size+1+xV.size)=False:=eq_false (by omega)
            have dc3:(o3.size+1+xV.size≤9223372036854775807)=True:=eq_true (by omega)
            have c0:w5.cell? ⟨w.heap.size,4,none⟩=some (.int .i64 vk):=(blk_cell BK5.out 4).trans rfl;have c1:w5.cell? ⟨w.heap.size,5,none⟩=some (.int .i64 vn):=(blk_cell BK5.out 5).trans rfl;clear h4 hV k3 zs;go_wp2_with (go_at_call 17;refine(dc _).mono ?_;rintro e w6 ⟨rfl,hb⟩;have BK6:=Aside0.mk (blk_below BK5.out hb);have HB6:=Aside0.mk (below_step HB5.out hb);clear hb BK5 HB5)
            go_ret
            exact⟨by rw[K3.out];rfl,HB6.out⟩
      |true=>
        have k1:o2=(o1++⟨#[32]⟩)++xS:=by simpa using h2
        have K1:=Aside0.mk k1;have dc:=fun W:World=>spec_l6Dec.calls 8 s xS W (hS rfl)
        have zs:(o1++(⟨#[32]⟩:ByteArray)).size=o1.size+1:=by rw[ByteArray.size_append];rfl
        have zo:o2.size≤302:=by rw[k1,ByteArray.size_append,zs];omega
        have da1:decide (o1.size+1≤9223372036854775807)=true:=decide_eq_true (by omega)
        have da2:(9223372036854775807<o1.size+1)=False:=eq_false (by omega)
        have da3:(o1.size+1≤9223372036854775807)=True:=eq_true (by omega)
        have db1:decide ((o1++(⟨#[32]⟩:ByteArray)).size+xS.size≤9223372036854775807)=true:=decide_eq_true (by rw[zs];omega)
        have db2:(9223372036854775807<(o1++(⟨#[32]⟩:ByteArray)).size+xS.size)=False:=eq_false (by rw[zs];omega)
        have db3:((o1++(⟨#[32]⟩:ByteArray)).size+xS.size≤9223372036854775807)=True:=eq_true (by rw[zs];omega)
        have dc1:decide (o1.size+1+xS.size≤9223372036854775807)=true:=decide_eq_true (by omega)
        have dc2:(9223372036854775807<o1.size+1+xS.size)=False:=eq_false (by omega)
        have dc3:(o1.size+1+xS.size≤9223372036854775807)=True:=eq_true (by omega)
        have c0:w4.cell? ⟨w.heap.size,2,none⟩=some (.int .i64 s):=(blk_cell BK4.out 2).trans rfl;clear h2 hS k1 zs;go_upto_region 9 with (go_at_call 43;refine(dc _).mono ?_;rintro e w5 ⟨rfl,hb⟩;have BK5:=Aside0.mk (blk_below BK4.out hb);have HB5:=Aside0.mk (below_step HB4.out hb);have g2_:=(hb.cell (World.block_lt_of_cell? _ _ g2)).trans g2;clear g2;have g2:=g2_;clear g2_;have g3_:=(hb.cell (World.block_lt_of_cell? _ _ g3)).trans g3;clear g3;have g3:=g3_;clear g3_;clear hb BK4 HB4)
        rw[←K1.out];clear dc da1 da2 da3 db1 db2 db3 dc1 dc2 dc3 c0;cases bT with
        |false=>
          have k2:o3=o2:=by simpa using h3
          clear h3 hT;subst k2;go_upto_region 11 with (fail)
          cases bV with
          |false=>
            have k3:o4=o3:=by simpa using h4
            clear h4 hV;subst k3;go_wp2
            go_ret
            exact⟨rfl,HB5.out⟩
          |true=>
            have k3:o4=(o3++⟨#[32]⟩)++xV:=by simpa using h4
            have K3:=Aside0.mk k3;have dc:=fun W:World=>spec_ValText.calls 8 vk vn xV W (hV rfl)
            have zs:(o3++(⟨#[32]⟩:ByteArray)).size=o3.size+1:=by rw[ByteArray.size_append];rfl
            have zo:o4.size≤403:=by rw[k3,ByteArray.size_append,zs];omega
            have da1:decide (o3.size+1≤9223372036854775807)=true:=decide_eq_true (by omega)
            have da2:(9223372036854775807<o3.size+1)=False:=eq_false (by omega)
            have da3:(o3.size+1≤9223372036854775807)=True:=eq_true (by omega)
            have db1:decide ((o3++(⟨#[32]⟩:ByteArray)).size+xV.size≤9223372036854775807)=true:=decide_eq_true (by rw[zs];omega)
            have db2:(9223372036854775807<(o3++(⟨#[32]⟩:ByteArray)).size+xV.size)=False:=eq_false (by rw[zs];omega)
            have db3:((o3++(⟨#[32]⟩:ByteArray)).size+xV.size≤9223372036854775807)=True:=eq_true (by rw[zs];omega)
            have dc1:decide (o3.size+1+xV.size≤9223372036854775807)=true:=decide_eq_true (by omega)
            have dc2:(9223372036854775807<o3.size+1+xV.size)=False:=eq_false (by omega)
            have dc3:(o3.size+1+xV.size≤9223372036854775807)=True:=eq_true (by omega)
            have c0:w5.cell? ⟨w.heap.size,4,none⟩=some (.int .i64 vk):=(blk_cell BK5.out 4).trans rfl;have c1:w5.cell? ⟨w.heap.size,5,none⟩=some (.int .i64 vn):=(blk_cell BK5.out 5).trans rfl;clear h4 hV k3 zs;go_wp2_with (go_at_call 17;refine(dc _).mono ?_;rintro e w6 ⟨rfl,hb⟩;have BK6:=Aside0.mk (blk_below BK5.out hb);have HB6:=Aside0.mk (below_step HB5.out hb);clear hb BK5 HB5)
            go_ret
            exact⟨by rw[K3.out];rfl,HB6.out⟩
        |true=>
          have k2:o3=(o2++⟨#[32]⟩)++xT:=by simpa using h3
          have K2:=Aside0.mk k2;have dc:=fun W:World=>spec_l6Dec.calls 8 t xT W (hT rfl)
          have zs:(o2++(⟨#[32]⟩:ByteArray)).size=o2.size+1:=by rw[ByteArray.size_append];rfl
          have zo:o3.size≤403:=by rw[k2,ByteArray.size_append,zs];omega
          have da1:decide (o2.size+1≤9223372036854775807)=true:=decide_eq_true (by omega)
          have da2:(9223372036854775807<o2.size+1)=False:=eq_false (by omega)
          have da3:(o2.size+1≤9223372036854775807)=True:=eq_true (by omega)
          have db1:decide ((o2++(⟨#[32]⟩:ByteArray)).size+xT.size≤9223372036854775807)=true:=decide_eq_true (by rw[zs];omega)
          have db2:(9223372036854775807<(o2++(⟨#[32]⟩:ByteArray)).size+xT.size)=False:=eq_false (by rw[zs];omega)
          have db3:((o2++(⟨#[32]⟩:ByteArray)).size+xT.size≤9223372036854775807)=True:=eq_true (by rw[zs];omega)
          have dc1:decide (o2.size+1+xT.size≤9223372036854775807)=true:=decide_eq_true (by omega)
          have dc2:(9223372036854775807<o2.size+1+xT.size)=False:=eq_false (by omega)
          have dc3:(o2.size+1+xT.size≤9223372036854775807)=True:=eq_true (by omega)
          have c0:w5.cell? ⟨w.heap.size,3,none⟩=some (.int .i64 t):=(blk_cell BK5.out 3).trans rfl;clear h3 hT k2 zs;go_upto_region 11 with (go_at_call 43;refine(dc _).mono ?_;rintro e w6 ⟨rfl,hb⟩;have BK6:=Aside0.mk (blk_below BK5.out hb);have HB6:=Aside0.mk (below_step HB5.out hb);have g3_:=(hb.cell (World.block_lt_of_cell? _ _ g3)).trans g3;clear g3;have g3:=g3_;clear g3_;clear hb BK5 HB5)
          rw[←K2.out];clear dc da1 da2 da3 db1 db2 db3 dc1 dc2 dc3 c0;cases bV with
          |false=>
            have k3:o4=o3:=by simpa using h4
            clear h4 hV;subst k3;go_wp2
            go_ret
            exact⟨rfl,HB6.out⟩
          |true=>
            have k3:o4=(o3++⟨#[32]⟩)++xV:=by simpa using h4
            have K3:=Aside0.mk k3;have dc:=fun W:World=>spec_ValText.calls 8 vk vn xV W (hV rfl)
            have zs:(o3++(⟨#[32]⟩:ByteArray)).size=o3.size+1:=by rw[ByteArray.size_append];rfl
            have zo:o4.size≤504:=by rw[k3,ByteArray.size_append,zs];omega
            have da1:decide (o3.size+1≤9223372036854775807)=true:=decide_eq_true (by omega)
            have da2:(9223372036854775807<o3.size+1)=False:=eq_false (by omega)
            have da3:(o3.size+1≤9223372036854775807)=True:=eq_true (by omega)
            have db1:decide ((o3++(⟨#[32]⟩:ByteArray)).size+xV.size≤9223372036854775807)=true:=decide_eq_true (by rw[zs];omega)
            have db2:(9223372036854775807<(o3++(⟨#[32]⟩:ByteArray)).size+xV.size)=False:=eq_false (by rw[zs];omega)
            have db3:((o3++(⟨#[32]⟩:ByteArray)).size+xV.size≤9223372036854775807)=True:=eq_true (by rw[zs];omega)
            have dc1:decide (o3.size+1+xV.size≤9223372036854775807)=true:=decide_eq_true (by omega)
            have dc2:(9223372036854775807<o3.size+1+xV.size)=False:=eq_false (by omega)
            have dc3:(o3.size+1+xV.size≤9223372036854775807)=True:=eq_true (by omega)
            have c0:w6.cell? ⟨w.heap.size,4,none⟩=some (.int .i64 vk):=(blk_cell BK6.out 4).trans rfl;have c1:w6.cell? ⟨w.heap.size,5,none⟩=some (.int .i64 vn):=(blk_cell BK6.out 5).trans rfl;clear h4 hV k3 zs;go_wp2_with (go_at_call 17;refine(dc _).mono ?_;rintro e w7 ⟨rfl,hb⟩;have BK7:=Aside0.mk (blk_below BK6.out hb);have HB7:=Aside0.mk (below_step HB6.out hb);clear hb BK6 HB6)
            go_ret
            exact⟨by rw[K3.out];rfl,HB7.out⟩
theorem addN_mk {b:Bool} {out o1:ByteArray} {n:Int} (h:addN b out n=some o1): ∃x:ByteArray,x.size≤100∧(b=true→spec_l6Dec.f 8 n=some x)∧o1=if b=true then(out++⟨#[32]⟩)++x else out:=by
  rcases addN_some h with ⟨rfl,rfl⟩|⟨rfl,x,h1,h2,rfl⟩
  · exact⟨⟨#[]⟩,Nat.zero_le _,fun h=>(by cases h),by simp⟩
  · exact⟨x,h2,fun _=>h1,by simp⟩
theorem addV_mk {b:Bool} {out o1:ByteArray} {k n:Int} (h:addV b out k n=some o1): ∃x:ByteArray,x.size≤100∧(b=true→spec_ValText.f 8 k n=some x)∧o1=if b=true then(out++⟨#[32]⟩)++x else out:=by
  rcases addV_some h with ⟨rfl,rfl⟩|⟨rfl,x,h1,h2,rfl⟩
  · exact⟨⟨#[]⟩,Nat.zero_le _,fun h=>(by cases h),by simp⟩
  · exact⟨x,h2,fun _=>h1,by simp⟩
theorem name_size {k:Int} (h:1≤k∧k≤14):(nameB k).size≤100:=by
  have:k=1∨k=2∨k=3∨k=4∨k=5∨k=6∨k=7∨k=8∨k=9∨k=10∨k=11∨k=12∨k=13∨k=14:=by omega
  rcases this with rfl|rfl|rfl|rfl|rfl|rfl|rfl|rfl|rfl|rfl|rfl|rfl|rfl|rfl<;>decide
theorem spec_OpText.calls (k r s t vk vn:Int) (x:ByteArray) (w:World) (h:otextV.f k r s t vk vn=some x):
    Calls Tryd.prog 22 #[.agg #[.int .i64 k,.int .i64 r,.int .i64 s,.int .i64 t,.int .i64 vk,.int .i64 vn]] w fun e w'=>e= .returned (.string x)∧Below w.heap.size w w':=by
  unfold otextV.f at h;split at h
  · rename_i hop
    obtain⟨o1,h1,h⟩:=Option.bind_eq_some_iff.1 h;obtain⟨o2,h2,h⟩:=Option.bind_eq_some_iff.1 h;obtain⟨o3,h3,h⟩:=Option.bind_eq_some_iff.1 h;obtain⟨xR,zR,hR,e1⟩:=addN_mk h1;obtain⟨xS,zS,hS,e2⟩:=addN_mk h2;obtain⟨xT,zT,hT,e3⟩:=addN_mk h3;obtain⟨xV,zV,hV,e4⟩:=addV_mk h;have hk:=(opB_true.1 hop).1;exact text_walk k r s t vk vn w hop (nameB k) xR xS xT xV hk rfl ⟨name_size hk,zR,zS,zT,zV⟩ _ _ _ _ rfl rfl rfl rfl hR hS hT hV o1 o2 o3 x e1 e2 e3 e4
  · rename_i hop
    obtain rfl:=Option.some.inj h;exact text_no k r s t vk vn w (by simpa using hop)
def decB (n:Int):ByteArray:=⟨(itoaS n).toArray⟩
def addS (b:Bool) (out x:ByteArray):ByteArray:=if b=true then(out++⟨#[32]⟩)++x else out
def outR (k r:Int):ByteArray:=addS (hasR k) (nameB k) (decB r)
def outS (k r s:Int):ByteArray:=addS (hasS k) (outR k r) (decB s)
def outT (k r s t:Int):ByteArray:=addS (hasT k) (outS k r s) (decB t)
def opText (k r s t vk vn:Int):ByteArray:=if opB k r s t vk vn=true then addS (hasV k) (outT k r s t) (vtext vk vn)else⟨#[]⟩
theorem dec_size (n:Int):(decB n).size≤3:=by
  unfold decB itoaS dec2;split<;>split<;>simp[ByteArray.size]
theorem name_le (k:Int) (h:1≤k∧k≤14):(nameB k).size≤5:=by
  revert k;refine fun k=>kinds (P:=fun k=>1≤k∧k≤14→(nameB k).size≤5) (fun k hk h=>absurd h hk) ?_ ?_ ?_ ?_ ?_ ?_ ?_ ?_ ?_ ?_ ?_ ?_ ?_ ?_ k<;>exact fun _=>by decide
theorem how_name (k:Int) (h:1≤k∧k≤14):(howR k).f0=nameB k:=by
  revert k;refine fun k=>kinds (P:=fun k=>1≤k∧k≤14→(howR k).f0=nameB k) (fun k hk h=>absurd h hk) ?_ ?_ ?_ ?_ ?_ ?_ ?_ ?_ ?_ ?_ ?_ ?_ ?_ ?_ k<;>exact fun _=>by decide
theorem vtext_le4 (a b:Int):(vtext a b).size≤4:=by
  by_cases h:okB a b=true
  · have hp:=okB_true.1 h
    unfold vtext;rw[if_pos h];split
    · decide
    · have:(itoaS b).length≤3:=by unfold itoaS dec2;split<;>split<;>simp
      simp[ByteArray.size];omega
  · simp only[Bool.not_eq_true]at h
    rw[vtext_bad h];exact Nat.zero_le _
theorem cat1 (x:ByteArray) (hx:x.size≤1000):decide (1+x.size≤9223372036854775807)=true∧(9223372036854775807<1+x.size)=False∧(1+x.size≤9223372036854775807)=True:=
  ⟨decide_eq_true (by omega),eq_false (by omega),eq_true (by omega)⟩
theorem catB (o x:ByteArray) (ho:o.size≤1000) (hx:x.size≤1000):decide (o.size+(1+x.size)≤9223372036854775807)=true∧(9223372036854775807<o.size+(1+x.size))=False∧(o.size+(1+x.size)≤9223372036854775807)=True:=
  ⟨decide_eq_true (by omega),eq_false (by omega),eq_true (by omega)⟩
def outI (k r s t:Int) (i:Int):ByteArray:=if i=0 then nameB k else if i=1 then outR k r else if i=2 then outS k r s else outT k r s t
def OI (k r s t:Int) (i:Int) (v:Value):Prop:= ∃o:ByteArray,v= .string o∧o=outI k r s t i∧(o.size:Int)≤5+4*i
theorem oi_step {k r s t i:Int} {o x:ByteArray} (ho:o=outI k r s t i) {h:Bool} (e:outI k r s t (i+1)=addS h (outI k r s t i) x):(h=true→outI k r s t (i+1)=o++(⟨#[32]⟩++x))∧(h=false→outI k r s t (i+1)=o):=by
  subst ho;constructor
  · rintro rfl;rw[e];unfold addS;rw[if_pos rfl,ByteArray.append_assoc]
  · rintro rfl;rw[e];unfold addS;rw[if_neg (by simp)]
theorem box3 {W:World} {g:Nat} {a b c:Value} {t:TypeId} (h:W.heap[g]?=some (.cells #[a,b,c] t (0,0))):
    W.cell? ⟨g,0,none⟩=some a∧W.cell? ⟨g,1,none⟩=some b∧W.cell? ⟨g,2,none⟩=some c:=
  ⟨(blk_cell h 0).trans rfl,(blk_cell h 1).trans rfl,(blk_cell h 2).trans rfl⟩
def cells6 (k r s t vk vn:Int):Obj:=.cells #[.int .i64 k,.int .i64 r,.int .i64 s,.int .i64 t,.int .i64 vk,.int .i64 vn] 35
theorem opText_no {k r s t vk vn:Int} (h:opB k r s t vk vn=false):opText k r s t vk vn=⟨#[]⟩:=by unfold opText;simp[h]
theorem impl_OpText_any (k r s t vk vn:Int) (w:World) (hT:Tab w):
    Calls Tryd.prog 24 #[.agg #[.int .i64 k,.int .i64 r,.int .i64 s,.int .i64 t,.int .i64 vk,.int .i64 vn]] w fun e w'=>e= .returned (.string (opText k r s t vk vn))∧Below w.heap.size w w':=by
  have HT:=Aside0.mk hT;clear hT;have HO:Aside0 (∀W,Calls Tryd.prog 38 #[.agg #[.int .i64 k,.int .i64 r,.int .i64 s,.int .i64 t,.int .i64 vk,.int .i64 vn]] W fun e w'=>e= .returned (.bool (opB k r s t vk vn))∧Below W.heap.size W w'):=⟨fun W=>impl_OpOk.calls k r s t vk vn _ W rfl⟩
  obtain⟨b,hop⟩: ∃b,opB k r s t vk vn=b:=⟨_,rfl⟩;cases b with
  |false=>
    rw[opText_no hop];rw[hop]at HO
    clear hop;go_enter Tryd.func24,Tryd.ntmps24
    go_wp2_with (go_at_call 38;(with_reducible refine(HO.out _).mono ?_);rintro e w1 ⟨rfl,hb⟩)
    go_ret
    exact⟨rfl,below_step (below_alloc (Below.refl _ _) _) hb⟩
  |true=>
    rw[hop]at HO
    have hp:=opB_true.1 hop;have hk:=hp.1;have HH:Aside0 (∀ (c:UInt8) W,Calls Tryd.prog 52 #[.agg #[.int .i64 k,.int .i64 r,.int .i64 s,.int .i64 t,.int .i64 vk,.int .i64 vn],.string ⟨#[c]⟩] W fun e w'=>e= .returned (.bool (hasC k c))∧Below W.heap.size W w'):=⟨fun c W=>has_any k r s t vk vn c W⟩
    have HW:Aside0 (∀W,Calls Tryd.prog 51 #[.agg #[.int .i64 k,.int .i64 r,.int .i64 s,.int .i64 t,.int .i64 vk,.int .i64 vn]] W fun e w'=>e= .returned (.agg #[.string (nameB k),.string (howR k).f1,.string (howR k).f2,.bool (howR k).f3])∧Below W.heap.size W w'):=⟨fun W=>by
      rw[←how_name k hk];exact impl_Op_how.calls k r s t vk vn (howR k).f0 (howR k).f1 (howR k).f2 (howR k).f3 W rfl⟩
    have HI:Aside0 (∀n W, -100<n→n<100→Below w.heap.size w W→Calls Tryd.prog 44 #[.int .i64 n] W fun e w'=>e= .returned (.string (decB n))∧Below W.heap.size W w'):=⟨fun n W h0 h1 hW=>itoa_call n W h0 h1 (HT.out.below hW)⟩
    have HV:Aside0 (∀W,Below w.heap.size w W→Calls Tryd.prog 19 #[.agg #[.int .i64 vk,.int .i64 vn]] W fun e w'=>e= .returned (.string (vtext vk vn))∧Below W.heap.size W w'):=⟨fun W hW=>impl_ValText_any vk vn W (HT.out.below hW)⟩
    have hr: -100<r∧r<100∧ -100<s∧s<100∧ -100<t∧t<100:=by
      obtain⟨_,_,a,b,c,_⟩:=hp;omega
    have HRR:=Aside0.mk hr;have HN:=Aside0.mk (name_le k hk);have HEND:Aside0 (opText k r s t vk vn=addS (hasV k) (outI k r s t 3) (vtext vk vn)):=⟨by unfold opText;rw[if_pos hop];rfl⟩
    obtain⟨x1,x2,x3⟩: ∃a b c,a=(howR k).f1∧b=(howR k).f2∧c=(howR k).f3:=⟨_,_,_,rfl,rfl,rfl⟩;clear hop hp hr hk;rw[HEND.out];have hs0: ∀W,Sem.run Tryd.prog (Instr.slice 9 (.string ⟨#[82,83,84]⟩) (some (.int .i64 0)) (some (.int .i64 1)) none) W= .ok (.string ⟨#[82]⟩) W:=fun _=>by kernel_rfl
    have hs1: ∀W,Sem.run Tryd.prog (Instr.slice 9 (.string ⟨#[82,83,84]⟩) (some (.int .i64 1)) (some (.int .i64 2)) none) W= .ok (.string ⟨#[83]⟩) W:=fun _=>by kernel_rfl
    have hs2: ∀W,Sem.run Tryd.prog (Instr.slice 9 (.string ⟨#[82,83,84]⟩) (some (.int .i64 2)) (some (.int .i64 3)) none) W= .ok (.string ⟨#[84]⟩) W:=fun _=>by kernel_rfl
    have hfd: ∀ (a b c d:Value) (W:World),Sem.run Tryd.prog (Instr.field 67 (.agg #[a,b,c,d]) 0) W= .ok a W:=fun _ _ _ _ _=>by kernel_rfl
    have HB:=Aside0.mk (Hold.new (Below.refl w.heap.size w) (cells6 k r s t vk vn));go_enter Tryd.func24,Tryd.ntmps24
    go_upto_block 0 with (first
      |(go_at_call 38;(with_reducible refine(HO.out _).mono ?_);rintro e w1 ⟨rfl,hb⟩;replace HB:=Aside0.mk (HB.out.step hb);clear hb;obtain⟨c0,c1,c2,c3,c4,c5⟩:=box6 HB.out.blk)
      |(go_at_call 51;(with_reducible refine(HW.out _).mono ?_);rintro e w2 ⟨rfl,hb⟩;replace HB:=Aside0.mk (HB.out.step hb);clear hb c0 c1 c2 c3 c4 c5;obtain⟨c0,c1,c2,c3,c4,c5⟩:=box6 HB.out.blk))
    replace HB:=Aside0.mk (Hold2.new HB.out (.cells #[.int .i64 r,.int .i64 s,.int .i64 t] 3 (0,0)));have HO0:Aside0 (OI k r s t 0 (.string (nameB k))):=⟨⟨_,rfl,rfl,by have:=HN.out;omega⟩⟩
    clear c0 c1 c2 c3 c4 c5 HO HW HN HEND;revert HB
    generalize w2.alloc (.cells #[.int .i64 r,.int .i64 s,.int .i64 t] 3)=w3;generalize w2.heap.size=gs;intro HB;go_wp2
    go_loopg [3,20] 3 (fun gg s3 s20 wr=> ∃i:Int,0≤i∧i≤3∧3-i≤gg∧s20= .int .i64 i∧Aside0 (OI k r s t i s3)∧Aside0 (Hold2 w wr w.heap.size (cells6 k r s t vk vn) gs (.cells #[.int .i64 r,.int .i64 s,.int .i64 t] 3)))
    case atStart=>exact⟨0,by omega,by omega,by omega,rfl,HO0,HB⟩
    case round=>
      clear HB HO0;obtain⟨i,hi0,hi3,hgg,rfl,HOI,HB⟩:=hrel;have hi:i=0∨i=1∨i=2∨i=3:=by omega
      clear hi0 hi3;obtain⟨o,rfl,ho,hoz⟩:=HOI.out;clear HOI;obtain⟨c0,c1,c2,c3,c4,c5⟩:=box6 HB.out.blk;obtain⟨d0,d1,d2⟩:=box3 HB.out.blk2;have hw1:IntKind.i64.wrap 1=1:=by decide
      have hw2:IntKind.i64.wrap 2=2:=by decide
      have hw3:IntKind.i64.wrap 3=3:=by decide
      rcases hi with rfl|rfl|rfl|rfl
      · have ES:=Aside0.mk (oi_step (k:=k) (r:=r) (s:=s) (t:=t) (i:=0) (h:=hasR k) (x:=decB r) ho rfl)
        obtain⟨b,hbq⟩: ∃b,hasC k 82=b:=⟨_,rfl⟩;rw[show hasR k=hasC k 82 from(hasC_R k).symm,hbq]at ES
        have HX:Aside0 (∀W,Calls Tryd.prog 52 #[.agg #[.int .i64 k,.int .i64 r,.int .i64 s,.int .i64 t,.int .i64 vk,.int .i64 vn],.string ⟨#[82]⟩] W fun e w'=>e= .returned (.bool b)∧Below W.heap.size W w'):=⟨fun W=>by rw[←hbq];exact HH.out 82 W⟩
        clear ho hbq;go_upto_region 7 with (fail)
        go_region_held3 (fun w'=>w'.cell? ⟨w.heap.size,0,none⟩=some (.int .i64 k)∧w'.cell? ⟨w.heap.size,1,none⟩=some (.int .i64 r)∧w'.cell? ⟨w.heap.size,2,none⟩=some (.int .i64 s)∧w'.cell? ⟨w.heap.size,3,none⟩=some (.int .i64 t)∧w'.cell? ⟨w.heap.size,4,none⟩=some (.int .i64 vk)∧w'.cell? ⟨w.heap.size,5,none⟩=some (.int .i64 vn)) (go_keep) ((go_at_call 52;(with_reducible refine(HX.out _).mono ?_);rintro e w4 ⟨rfl,hb⟩;have HB4:=Aside0.mk (HB.out.drew.step hb);clear hb;obtain⟨z0,z1,z2,z3,z4,z5⟩:=box6 HB4.out.blk))
        all_goals
          replace HB:=HB4;clear HB4 z0 z1 z2 z3 z4 z5;cases b with
          |false=>
            have hx:=ES.out.2 rfl;clear ES HX;go_wp2
            go_roundg (gk-1)
            case measure=>omega
            case rel=>exact⟨_,by omega,by omega,by omega,rfl,⟨⟨o,rfl,hx.symm,by omega⟩⟩,HB⟩
          |true=>
            have hx:=ES.out.1 rfl;clear ES HX;obtain⟨X,hX⟩: ∃X,X=decB r:=⟨_,rfl⟩;have hX3:X.size≤3:=by rw[hX];exact dec_size _
            have HIX:Aside0 (∀W,Below w.heap.size w W→Calls Tryd.prog 44 #[.int .i64 r] W fun e w'=>e= .returned (.string X)∧Below W.heap.size W w'):=⟨fun W hW=>by rw[hX];exact HI.out r W (by have:=HRR.out;omega) (by have:=HRR.out;omega) hW⟩
            rw[←hX]at hx
            obtain⟨q1,q2,q3⟩:=cat1 X (by omega)
            obtain⟨q4,q5,q6⟩:=catB o X (by omega) (by omega)
            have HX4:=Aside0.mk (show _∧_∧_ from⟨hx,hX3,hX⟩)
            clear hx hX3 hX;go_wp2_with (go_at_call 44;(with_reducible refine(HIX.out _ HB.out.below).mono ?_);rintro e w5 ⟨rfl,hb⟩;replace HB:=Aside0.mk (HB.out.step hb);clear hb)
            go_roundg (gk-1)
            case measure=>omega
            case rel=>exact⟨_,by omega,by omega,by omega,rfl,⟨⟨_,rfl,HX4.out.1.symm,by have:=HX4.out.2.1;rw[ByteArray.size_append,ByteArray.size_append,show(⟨#[32]⟩:ByteArray).size=1 from rfl];omega⟩⟩,HB⟩
      · have ES:=Aside0.mk (oi_step (k:=k) (r:=r) (s:=s) (t:=t) (i:=1) (h:=hasS k) (x:=decB s) ho rfl)
        obtain⟨b,hbq⟩: ∃b,hasC k 83=b:=⟨_,rfl⟩;rw[show hasS k=hasC k 83 from(hasC_S k).symm,hbq]at ES
        have HX:Aside0 (∀W,Calls Tryd.prog 52 #[.agg #[.int .i64 k,.int .i64 r,.int .i64 s,.int .i64 t,.int .i64 vk,.int .i64 vn],.string ⟨#[83]⟩] W fun e w'=>e= .returned (.bool b)∧Below W.heap.size W w'):=⟨fun W=>by rw[←hbq];exact HH.out 83 W⟩
        clear ho hbq;go_upto_region 7 with (fail)
        go_region_held3 (fun w'=>w'.cell? ⟨w.heap.size,0,none⟩=some (.int .i64 k)∧w'.cell? ⟨w.heap.size,1,none⟩=some (.int .i64 r)∧w'.cell? ⟨w.heap.size,2,none⟩=some (.int .i64 s)∧w'.cell? ⟨w.heap.size,3,none⟩=some (.int .i64 t)∧w'.cell? ⟨w.heap.size,4,none⟩=some (.int .i64 vk)∧w'.cell? ⟨w.heap.size,5,none⟩=some (.int .i64 vn)) (go_keep) ((go_at_call 52;(with_reducible refine(HX.out _).mono ?_);rintro e w4 ⟨rfl,hb⟩;have HB4:=Aside0.mk (HB.out.drew.step hb);clear hb;obtain⟨z0,z1,z2,z3,z4,z5⟩:=box6 HB4.out.blk))
        all_goals
          replace HB:=HB4;clear HB4 z0 z1 z2 z3 z4 z5;cases b with
          |false=>
            have hx:=ES.out.2 rfl;clear ES HX;go_wp2
            go_roundg (gk-1)
            case measure=>omega
            case rel=>exact⟨_,by omega,by omega,by omega,rfl,⟨⟨o,rfl,hx.symm,by omega⟩⟩,HB⟩
          |true=>
            have hx:=ES.out.1 rfl;clear ES HX;obtain⟨X,hX⟩: ∃X,X=decB s:=⟨_,rfl⟩;have hX3:X.size≤3:=by rw[hX];exact dec_size _
            have HIX:Aside0 (∀W,Below w.heap.size w W→Calls Tryd.prog 44 #[.int .i64 s] W fun e w'=>e= .returned (.string X)∧Below W.heap.size W w'):=⟨fun W hW=>by rw[hX];exact HI.out s W (by have:=HRR.out;omega) (by have:=HRR.out;omega) hW⟩
            rw[←hX]at hx
            obtain⟨q1,q2,q3⟩:=cat1 X (by omega)
            obtain⟨q4,q5,q6⟩:=catB o X (by omega) (by omega)
            have HX4:=Aside0.mk (show _∧_∧_ from⟨hx,hX3,hX⟩)
            clear hx hX3 hX;go_wp2_with (go_at_call 44;(with_reducible refine(HIX.out _ HB.out.below).mono ?_);rintro e w5 ⟨rfl,hb⟩;replace HB:=Aside0.mk (HB.out.step hb);clear hb)
            go_roundg (gk-1)
            case measure=>omega
            case rel=>exact⟨_,by omega,by omega,by omega,rfl,⟨⟨_,rfl,HX4.out.1.symm,by have:=HX4.out.2.1;rw[ByteArray.size_append,ByteArray.size_append,show(⟨#[32]⟩:ByteArray).size=1 from rfl];omega⟩⟩,HB⟩
      · have ES:=Aside0.mk (oi_step (k:=k) (r:=r) (s:=s) (t:=t) (i:=2) (h:=hasT k) (x:=decB t) ho rfl)
        obtain⟨b,hbq⟩: ∃b,hasC k 84=b:=⟨_,rfl⟩;rw[show hasT k=hasC k 84 from(hasC_T k).symm,hbq]at ES
        have HX:Aside0 (∀W,Calls Tryd.prog 52 #[.agg #[.int .i64 k,.int .i64 r,.int .i64 s,.int .i64 t,.int .i64 vk,.int .i64 vn],.string ⟨#[84]⟩] W fun e w'=>e= .returned (.bool b)∧Below W.heap.size W w'):=⟨fun W=>by rw[←hbq];exact HH.out 84 W⟩
        clear ho hbq;go_upto_region 7 with (fail)
        go_region_held3 (fun w'=>w'.cell? ⟨w.heap.size,0,none⟩=some (.int .i64 k)∧w'.cell? ⟨w.heap.size,1,none⟩=some (.int .i64 r)∧w'.cell? ⟨w.heap.size,2,none⟩=some (.int .i64 s)∧w'.cell? ⟨w.heap.size,3,none⟩=some (.int .i64 t)∧w'.cell? ⟨w.heap.size,4,none⟩=some (.int .i64 vk)∧w'.cell? ⟨w.heap.size,5,none⟩=some (.int .i64 vn)) (go_keep) ((go_at_call 52;(with_reducible refine(HX.out _).mono ?_);rintro e w4 ⟨rfl,hb⟩;have HB4:=Aside0.mk (HB.out.drew.step hb);clear hb;obtain⟨z0,z1,z2,z3,z4,z5⟩:=box6 HB4.out.blk))
        all_goals
          replace HB:=HB4;clear HB4 z0 z1 z2 z3 z4 z5;cases b with
          |false=>
            have hx:=ES.out.2 rfl;clear ES HX;go_wp2
            go_roundg (gk-1)
            case measure=>omega
            case rel=>exact⟨_,by omega,by omega,by omega,rfl,⟨⟨o,rfl,hx.symm,by omega⟩⟩,HB⟩
          |true=>
            have hx:=ES.out.1 rfl;clear ES HX;obtain⟨X,hX⟩: ∃X,X=decB t:=⟨_,rfl⟩;have hX3:X.size≤3:=by rw[hX];exact dec_size _
            have HIX:Aside0 (∀W,Below w.heap.size w W→Calls Tryd.prog 44 #[.int .i64 t] W fun e w'=>e= .returned (.string X)∧Below W.heap.size W w'):=⟨fun W hW=>by rw[hX];exact HI.out t W (by have:=HRR.out;omega) (by have:=HRR.out;omega) hW⟩
            rw[←hX]at hx
            obtain⟨q1,q2,q3⟩:=cat1 X (by omega)
            obtain⟨q4,q5,q6⟩:=catB o X (by omega) (by omega)
            have HX4:=Aside0.mk (show _∧_∧_ from⟨hx,hX3,hX⟩)
            clear hx hX3 hX;go_wp2_with (go_at_call 44;(with_reducible refine(HIX.out _ HB.out.below).mono ?_);rintro e w5 ⟨rfl,hb⟩;replace HB:=Aside0.mk (HB.out.step hb);clear hb)
            go_roundg (gk-1)
            case measure=>omega
            case rel=>exact⟨_,by omega,by omega,by omega,rfl,⟨⟨_,rfl,HX4.out.1.symm,by have:=HX4.out.2.1;rw[ByteArray.size_append,ByteArray.size_append,show(⟨#[32]⟩:ByteArray).size=1 from rfl];omega⟩⟩,HB⟩
      · have hcat:=hoz
        have HEE:=Aside0.mk (show _∧_ from⟨ho,hoz⟩)
        obtain⟨q4,q5,q6⟩:True∧True∧True:=⟨trivial,trivial,trivial⟩;clear ho;have HX:Aside0 (∀W,Calls Tryd.prog 52 #[.agg #[.int .i64 k,.int .i64 r,.int .i64 s,.int .i64 t,.int .i64 vk,.int .i64 vn],.string ⟨#[86]⟩] W fun e w'=>e= .returned (.bool (hasV k))∧Below W.heap.size W w'):=⟨fun W=>by rw[←hasC_V];exact HH.out 86 W⟩
        obtain⟨b,hbq⟩: ∃b,hasV k=b:=⟨_,rfl⟩;rw[hbq]at HX
        obtain⟨X,hX⟩: ∃X,X=vtext vk vn:=⟨_,rfl⟩;have hX3:X.size≤4:=by rw[hX];exact vtext_le4 _ _
        rw[←hX]at HV
        have HXV:=Aside0.mk (show _∧_ from⟨hX,hbq⟩)
        obtain⟨q1,q2,q3⟩:=cat1 X (by omega)
        obtain⟨q4,q5,q6⟩:=catB o X (by omega) (by omega)
        clear hX hX3 hoz hcat hbq;cases b with
        |false=>
          go_wp2_with (go_at_call 52;(with_reducible refine(HX.out _).mono ?_);rintro e w4 ⟨rfl,hb⟩;replace HB:=Aside0.mk (HB.out.step hb);clear hb)
          go_ret
          exact⟨by rw[HEE.out.1,HXV.out.2];rfl,HB.out.below⟩
        |true=>
          go_wp2_with (first
            |(go_at_call 52;(with_reducible refine(HX.out _).mono ?_);rintro e w4 ⟨rfl,hb⟩;replace HB:=Aside0.mk (HB.out.step hb);clear hb c0 c1 c2 c3 c4 c5;obtain⟨c0,c1,c2,c3,c4,c5⟩:=box6 HB.out.blk)
            |(go_at_call 19;(with_reducible refine(HV.out _ HB.out.below).mono ?_);rintro e w5 ⟨rfl,hb⟩;replace HB:=Aside0.mk (HB.out.step hb);clear hb))
          go_ret
          exact⟨by rw[HEE.out.1,HXV.out.2,←HXV.out.1];unfold addS;rw[if_pos rfl,ByteArray.append_assoc];rfl,HB.out.below⟩
theorem l6_ok (n:Int) (h0: -100<n) (h1:n<100):spec_l6Dec.f 5 n=some ⟨(itoaS n).toArray⟩:=by
  have h: ∀i∈List.range 199,spec_l6Dec.f 5 ((i:Int)-99)=some ⟨(itoaS ((i:Int)-99)).toArray⟩:=by decide+kernel
  have:=h (n+99).toNat (by simp;omega)
  rwa [show(((n+99).toNat:Nat):Int)-99=n by omega]at this
theorem specOk_f (k n:Int):spec_ValOk.f k n=some (okB k n):=by
  unfold spec_ValOk.f okB okP spec_l6In.f;by_cases h0:k=0
  · subst h0;simp;by_cases n=0<;>simp[*]
  by_cases h1:k=1
  · subst h1;simp;by_cases h: -99≤n<;>by_cases h':n≤99<;>simp[*]
  by_cases h2:k=2
  · subst h2;simp;by_cases h:0≤n<;>by_cases h':n≤9<;>simp[*]
  by_cases h3:k=3
  · subst h3;simp;by_cases h:1≤n<;>by_cases h':n≤6<;>simp[*]
  simp[h0,h1,h2,h3]
theorem specText_f (k n:Int):spec_ValText.f 5 k n=some (vtext k n):=by
  unfold spec_ValText.f vtext;rw[specOk_f];by_cases h:okB k n=true
  · rw[h]
    simp only[Option.bind_some,if_true]
    by_cases h0:k=0
    · rw[if_pos h0,if_pos h0]
    · rw[if_neg h0,if_neg h0]
      have hp:=okB_true.1 h;have hk:k=1∨k=2∨k=3:=by unfold okP at hp;omega
      rw[l6_ok n (by unfold okP at hp;omega) (by unfold okP at hp;omega)]
      have hs:(itoaS n).length≤3:=by unfold itoaS dec2;split<;>split<;>simp
      obtain⟨X,hX⟩: ∃X,X=itoaS n:=⟨_,rfl⟩;rw[←hX]at hs⊢
      clear hX hp h h0;simp only[Option.bind_some]
      have hsz: ∀c:UInt8,(ByteArray.mk #[c]).size+(ByteArray.mk X.toArray).size≤9223372036854775807:=fun c=>by
        have:(ByteArray.mk X.toArray).size=X.length:=by simp[ByteArray.size]
        rw[this];show 1+X.length≤_;omega
      rcases hk with rfl|rfl|rfl
      · rw[if_pos (by decide),if_pos (by decide)];exact(if_pos (hsz 110)).trans rfl
      · rw[if_pos (by decide),if_pos (by decide)];exact(if_pos (hsz 97)).trans rfl
      · rw[if_pos (by decide),if_pos (by decide)];exact(if_pos (hsz 114)).trans rfl
  · simp only[Bool.not_eq_true]at h
    rw[h];simp
theorem l6_ok8 (n:Int) (h0: -100<n) (h1:n<100):spec_l6Dec.f 8 n=some (decB n):=by
  have h: ∀i∈List.range 199,spec_l6Dec.f 8 ((i:Int)-99)=some (decB ((i:Int)-99)):=by decide+kernel
  have:=h (n+99).toNat (by simp;omega)
  rwa [show(((n+99).toNat:Nat):Int)-99=n by omega]at this
theorem l6_up (n:Int) (h0: -100<n) (h1:n<100):spec_l6Dec.f 5 n=spec_l6Dec.f 8 n:=by
  rw[l6_ok8 n h0 h1,l6_ok n h0 h1];rfl
theorem specText_f8 (k n:Int):spec_ValText.f 8 k n=some (vtext k n):=by
  rw[←specText_f k n];unfold spec_ValText.f;rw[specOk_f];by_cases h:okB k n=true
  · have hp:=okB_true.1 h
    by_cases h0:k=0
    · subst h0;rfl
    · rw[l6_up n (by unfold okP at hp;omega) (by unfold okP at hp;omega)]
  · simp only[Bool.not_eq_true]at h
    rw[h];simp
theorem addN_f (b:Bool) (out:ByteArray) (n:Int) (h0: -100<n) (h1:n<100):addN b out n=some (addS b out (decB n)):=by
  unfold addN addS;cases b with
  |false=>simp
  |true=>rw[if_pos rfl,if_pos rfl,l6_ok8 n h0 h1,Option.bind_some,if_pos (by have:=dec_size n;omega)]
theorem addV_f (b:Bool) (out:ByteArray) (k n:Int):addV b out k n=some (addS b out (vtext k n)):=by
  unfold addV addS;cases b with
  |false=>simp
  |true=>rw[if_pos rfl,if_pos rfl,specText_f8 k n,Option.bind_some,if_pos (by have:=vtext_le4 k n;omega)]
theorem otext_f (k r s t vk vn:Int):otextV.f k r s t vk vn=some (opText k r s t vk vn):=by
  unfold otextV.f opText;by_cases h:opB k r s t vk vn=true
  · have hp:=opB_true.1 h
    have hr: -100<r∧r<100∧ -100<s∧s<100∧ -100<t∧t<100:=by
      obtain⟨_,_,a,b,c,_⟩:=hp;omega
    rw[if_pos h,if_pos h,addN_f _ _ _ (by omega) (by omega),Option.bind_some,addN_f _ _ _ (by omega) (by omega),Option.bind_some,addN_f _ _ _ (by omega) (by omega),Option.bind_some,addV_f]
    rfl
  · rw[if_neg h,if_neg h]
theorem spec_OpText_any (k r s t vk vn:Int) (w:World):
    Calls Tryd.prog 22 #[.agg #[.int .i64 k,.int .i64 r,.int .i64 s,.int .i64 t,.int .i64 vk,.int .i64 vn]] w fun e w'=>e= .returned (.string (opText k r s t vk vn))∧Below w.heap.size w w':=
  spec_OpText.calls k r s t vk vn _ w (otext_f k r s t vk vn)
theorem exactOpText (k r s t vk vn:Int) (w:World) (hT:Tab w):
    Calls Tryd.prog 5 #[.agg #[.int .i64 k,.int .i64 r,.int .i64 s,.int .i64 t,.int .i64 vk,.int .i64 vn]] w fun e w'=>e= .returned (.bool true)∧Below w.heap.size w w':=by
  have HT:=Aside0.mk hT;have hs:=Aside0.mk fun W=>spec_OpText_any k r s t vk vn W
  have hi:Aside0 (∀W,Below w.heap.size w W→Calls Tryd.prog 24 #[.agg #[.int .i64 k,.int .i64 r,.int .i64 s,.int .i64 t,.int .i64 vk,.int .i64 vn]] W fun e w'=>e= .returned (.string (opText k r s t vk vn))∧Below W.heap.size W w'):=⟨fun W hW=>impl_OpText_any k r s t vk vn W (HT.out.below hW)⟩
  have ht:=Aside0.mk fun W=>laws_toOp.calls k r s t vk vn k r s t vk vn W rfl
  obtain⟨X,hX⟩: ∃X,X=opText k r s t vk vn:=⟨_,rfl⟩;rw[←hX]at hs hi
  clear hX hT;have HB:=Aside0.mk (Hold.new (Below.refl w.heap.size w) (.cells #[.int .i64 k,.int .i64 r,.int .i64 s,.int .i64 t,.int .i64 vk,.int .i64 vn] 32));go_enter Tryd.func5,Tryd.ntmps5
  go_wp2_with (first
    |(go_at_call 23;(with_reducible refine(ht.out _).mono ?_);rintro e w1 ⟨rfl,hb⟩;replace HB:=Aside0.mk (HB.out.step hb);clear hb;obtain⟨c0,c1,c2,c3,c4,c5⟩:=box6 HB.out.blk)
    |(go_at_call 22;(with_reducible refine(hs.out _).mono ?_);rintro e w1 ⟨rfl,hb⟩;replace HB:=Aside0.mk (HB.out.step hb);clear hb;obtain⟨c0,c1,c2,c3,c4,c5⟩:=box6 HB.out.blk)
    |(go_at_call 24;(with_reducible refine(hi.out _ HB.out.below).mono ?_);rintro e w1 ⟨rfl,hb⟩;replace HB:=Aside0.mk (HB.out.step hb);clear hb;obtain⟨c0,c1,c2,c3,c4,c5⟩:=box6 HB.out.blk))
  go_ret
  exact⟨rfl,HB.out.1⟩
abbrev l32:String×DataW Unit:=("math/bits.deBruijn32tab",Rows.laid_math_bits_deBruijn32tab)
abbrev l64:String×DataW Unit:=("math/bits.deBruijn64tab",Rows.laid_math_bits_deBruijn64tab)
abbrev lpow:String×DataW Unit:=("internal/strconv.uint64pow10",Rows.laid_internal_strconv_uint64pow10)
abbrev laid3:List (String×DataW Unit):=[l32,l64,lpow]
theorem tab_of {r:List (String×DataW Unit)} {W:World} (h:laidMet Tryd.prog (l32::l64::lpow::r) W):Tab W:=by
  have h2:=laidMet.tail h;have h3:=laidMet.tail h2;have e:(Rows.laid_internal_strconv_uint64pow10:DataW Unit)=Lib.tabData .u64 Lib.pow10Tab:=by kernel_rfl
  unfold lpow at h3;rw[e]at h3
  refine⟨Lib.tabIs_of_head (g:=2) (t:=133) (e:=116) (n:=20) (by kernel_rfl) (by kernel_rfl) (by kernel_rfl) (by kernel_rfl) (by kernel_rfl) (by kernel_rfl) h3,?_⟩
  obtain⟨ps,⟨g,t,cs,fuel,p,q,hg,ht,hv,_⟩,_⟩:=h2;have hg7:Tryd.prog.globalNamed "math/bits.deBruijn64tab" =some 7:=by kernel_rfl
  obtain rfl:=Option.some.inj (hg7.symm.trans hg);unfold World.var? at hv;rw[hg7]at hv
  simp only[Option.bind_some]at hv
  rcases Nat.lt_or_ge 7 W.heap.size with h'|h'
  · exact h'
  · simp[Array.getElem?_eq_none h']at hv
theorem door_met3 (os:Os) (args:Array Value):laidMetH Tryd.prog laid3 ((World.doorLaid Tryd.prog 400 os).forCall (fun _ _=>0) ⟨#[],args,[]⟩).memory:=
  laidMetH_of_parts3 (fuel:=8) (laidMet_of_run' 8 (by kernel_rfl) (by kernel_rfl)) (by kernel_rfl) (by kernel_rfl)
theorem plain3 (W:World):laidMetH Tryd.prog laid3 W→laidMet Tryd.prog laid3 W:=fun h=>by
  rwa [MakeChecks.laidMetH_plain _ _ _ (by kernel_rfl)]at h
theorem facts3 {W:World} (h:laidMetH Tryd.prog laid3 W):Tab W:=tab_of (plain3 W h)
end Go.Proofs.YtmklpbmlgjkbiaaDoor.PS
end
section
namespace Go.Proofs.YtmklpbmlgjkbiaaDoor.PS
open Go.ChangeShapes Go.WideShapes Go.ChangeAt Go.RowKit Go.Joins
theorem cells3:Tryd.prog.cellsOf 3=1:=by kernel_rfl
theorem cells23:Tryd.prog.cellsOf 23=2:=by kernel_rfl
theorem cells32:Tryd.prog.cellsOf 32=6:=by kernel_rfl
section
variable {H:Type} {enc:TypeId×Value→H} {w:World} {base:Nat} {spare:Nat→Bool} {held:Bool} {fuel:Nat} {cs:List Value} {x:DataW H×List MemPlace}
theorem val_cells (h:DataW.trod enc Tryd.prog w base spare held fuel 23 cs=some x): ∃a b:Int,cs=[.int .i64 a,.int .i64 b]∧(Lit.int .i64 a).wf=true∧(Lit.int .i64 b).wf=true:=by
  obtain⟨xs,n,_,_,hl,hlen,hf⟩:=DataW.trod_struct Tryd.underlying23 h;rw[cells23]at hl
  match cs,hl with
  | [c0,c1],_=>
    match xs,hlen with
    | [y0,y1],_=>
      have h0:=hf 0 _ rfl;have h1:=hf 1 _ rfl;obtain⟨a,e0,_,w0⟩:=DataW.trod_int Tryd.underlying3 h0;obtain⟨b,e1,_,w1⟩:=DataW.trod_int Tryd.underlying3 h1;simp[cells3]at e0 e1
      exact⟨a,b,by rw[e0,e1],w0,w1⟩
theorem op_cells (h:DataW.trod enc Tryd.prog w base spare held fuel 32 cs=some x): ∃a b c d e f:Int,cs=[.int .i64 a,.int .i64 b,.int .i64 c,.int .i64 d,.int .i64 e,.int .i64 f]∧((Lit.int .i64 a).wf=true∧(Lit.int .i64 b).wf=true∧(Lit.int .i64 c).wf=true∧(Lit.int .i64 d).wf=true∧(Lit.int .i64 e).wf=true∧(Lit.int .i64 f).wf=true):=by
  obtain⟨xs,n,_,_,hl,hlen,hf⟩:=DataW.trod_struct Tryd.underlying32 h;rw[cells32]at hl
  match cs,hl with
  | [c0,c1,c2,c3,c4,c5],_=>
    match xs,hlen with
    | [y0,y1,y2,y3,y4],_=>
      have h0:=hf 0 _ rfl;have h1:=hf 1 _ rfl;have h2:=hf 2 _ rfl;have h3:=hf 3 _ rfl;have h4:=hf 4 _ rfl;obtain⟨a,e0,_,w0⟩:=DataW.trod_int Tryd.underlying3 h0;obtain⟨b,e1,_,w1⟩:=DataW.trod_int Tryd.underlying3 h1;obtain⟨c,e2,_,w2⟩:=DataW.trod_int Tryd.underlying3 h2;obtain⟨d,e3,_,w3⟩:=DataW.trod_int Tryd.underlying3 h3;obtain⟨e,f,e4,w4,w5⟩:=val_cells h4;simp[cells3,cells23]at e0 e1 e2 e3 e4
      exact⟨a,b,c,d,e,f,by rw[e0,e1,e2,e3,e4.1,e4.2],w0,w1,w2,w3,w4,w5⟩
theorem op_open {r:Reach} {b0:Nat} {v:Value} {d:DataW H} {p:List MemPlace} (hv:Value.okWide Tryd.prog w r b0 32 v) (h:DataW.Trod enc Tryd.prog w base spare held 32 v d p):
    ∃a b c d e f:Int,v= .agg #[.int .i64 a,.int .i64 b,.int .i64 c,.int .i64 d,.int .i64 e,.int .i64 f]:=by
  obtain⟨cs,rfl,hsz⟩:=okWide_struct Tryd.underlying32 hv;obtain⟨fuel,hf⟩:=h;obtain⟨a,b,c,d,e,f,he,_⟩:=op_cells hf;refine⟨a,b,c,d,e,f,?_⟩
  have:cs.toList=[.int .i64 a,.int .i64 b,.int .i64 c,.int .i64 d,.int .i64 e,.int .i64 f]:=by simpa[Value.cells]using he
  obtain⟨l⟩:=cs;exact congrArg (fun l:List Value=>Value.agg l.toArray) this
end
end Go.Proofs.YtmklpbmlgjkbiaaDoor.PS
end
