import Derived.Test.YtakhechhnnjbcaaGreatBN18
import Derived.Test.YtakhechhnnjbcaaGreatBN15
import Derived.Test.YtakhechhnnjbcaaGreatBN14
import Derived.Test.YtakhechhnnjbcaaGreatBN04
import Derived.Test.YtakhechhnnjbcaaGreatTy
set_option maxRecDepth 100000
set_option maxHeartbeats 8000000
set_option linter.unusedVariables false
set_option linter.unusedSimpArgs false
namespace Go.Proofs.Far
open Go Go.RowKit Go.Proofs.E Go.Proofs.Cus Go.Proofs.Rid
def fVal (o:Option Bil) (z:Nat×Option Addr×Nat):Value:=match o with|some _=> .tuple #[.pointer (some ⟨z.1,0,none⟩), .int .i64 0]|none=> .tuple #[.pointer none, .int .i64 2]
def fItems (o:Option Bil) (z:Nat×Option Addr×Nat):List E.Item:=match o with|some b=>[box z.1 204 (b.cells z.2.1 z.2.2),itRow z.2.1 z.2.2 b.items]|none=>[]
theorem money_ok {n:Int} (h: ¬1000000000000<n):money n=(n,0):=by unfold money;rw [if_neg h]
theorem money_no {n:Int} (h:1000000000000<n):money n=(0,2):=by unfold money;rw [if_pos h]
attribute [local irreducible] ridP pauP ridS pauS money placeP atR partP
theorem first_w (f:Fl) (p:Pr) (a:PrA) (x:RX) (by_:Int) (w:World) (hp:PrAt w p a) (hx:RdAt w x) (he:prErr f p=0) (hc:checkR x.r=0) (ho:x.r.open_=false) (hpl:x.r.pl≤9223372036854775807) (hby: -1≤by_∧by_<p.passes.length):
  Calls Tryz.prog 111 #[.agg (p.cells a).toArray, .agg x.cells.toArray, .int .i64 by_] w fun e w'=> ∃z:Nat×Option Addr×Nat,e= .returned (fVal (firstP p x.r by_) z)∧Mem w (fItems (firstP p x.r by_) z) w':=by
 obtain ⟨_,htf,hpe,_,_,_,_,_,_⟩:=prErr_parts he
 have hs:=spOk_iff.1 (checkR_parts hc).1
 have hat:atR p.tariffs x.r.start.lo=(((verO p x.r:Nat):Int),0):=by unfold atR;rw [if_neg (by omega),if_neg (by omega)];rfl
 obtain ⟨hvk,hvt⟩:=ver_ok (r:=x.r) htf
 have hvi:=tfOk_iff.1 hvt
 have hrs:=ridS_range hc
 have hps:=pauS_range hc
 have hrn:=ridP_nn hvt (s:=ridS x.r) hrs.2
 have hpn:=pauP_nn hvt (s:=pauS x.r) hps.2
 have hfee:=place_fee he x.r
 have hbt:=base_total p x.r
 have hplt:=plc_total p x.r
 have hpat:=pass_total p x.r by_
 have hvn:verO p x.r<a.t.n:=by
  have:=(List.getElem?_eq_some_iff.1 hvk).1
  have:=hp.tf.1
  omega
 obtain ⟨tb,toff,t0,htA,htbl,ht0,hrt⟩:=hp.tf.at_ hvn
 rw [hvk] at ht0
 cases ht0
 have hfst:firstP p x.r by_=if 1000000000000<ridP (verT p x.r) (ridS x.r) then none else if 1000000000000<pauP (verT p x.r) (pauS x.r) then none else if 0≤by_∧1000000000000<partP p x.r by_ then none else if 1000000000000<(passB p x.r by_).total then none else some (passB p x.r by_):=rfl
 refine H_enter Tryz.func111 rfl Tryz.ntmps111 rfl ?_
 iterate 2 refine G ?_
 refine X_box (v:= .agg _) rfl rfl fun b3=>?_
 refine X_box (v:= .agg _) rfl rfl fun b4=>?_
 iterate 10 refine G ?_
 refine xV (e_build Tryz.underlying81 fl81 Tryz.zeroValue81 (pt (v:= .int _ _) rfl (pt (v:= .int _ _) rfl E.p0)) rfl) rfl rfl ?_
 refine xV (e_build Tryz.underlying204 fl204 Tryz.zeroValue204 (pt (v:= .agg _) rfl E.p0) rfl) rfl rfl ?_
 refine X_box (v:= .agg _) rfl rfl fun b27=>?_
 iterate 4 refine G ?_
 refine H_mem (L':=[box b27 204 ((⟨x.r.id,x.r.rider,[],0⟩:Bil).cells none 0),itRow none 0 [],box b4 191 x.cells,box b3 28 (p.cells a)]) (fun w hw=>(hw.nilRow 272 3 Itm.cells rfl).pick [1,0,2,3] (by decide)) rfl ?_
 iterate 6 refine G ?_
 refine xC (en Tryz.call165 (ha2 (q0 rfl) (q0 rfl))) (fun _ w hw=>tat_w a.t.A a.t.n a.t.c p.tariffs x.r.start.lo w (hp.tf.mem hw)) rfl rfl ?_
 rw [hat]
 iterate 14 refine G ?_
 refine H_cond rfl ?_ ?_<;>intro h1
 ·exfalso;simp at h1
 ·have _ht:True:=trivial
  iterate 5 refine G ?_
  refine xV (e_ld (v:= .slice (some ⟨tb,toff,none⟩) a.t.n a.t.c) Tryz.isAgg25 (q0 rfl) (by rw [←htA];exact bx 3 rfl rfl)) rfl rfl ?_
  refine G ?_
  refine xV (e_idx (verO p x.r) Tryz.underlying25 Tryz.sizeOf144 (q0 rfl) (q0 rfl) (fun _=>⟨rfl,hvn⟩)) rfl rfl ?_
  refine xV (e_lds (vs:=(verT p x.r).cells) Tryz.isAgg144 Tryz.sizeOf144 (q0 rfl) (rcs hrt htbl) rfl) rfl rfl ?_
  refine X_alloc Tryz.zeroValue144 rfl fun b11=>?_
  refine X_st (v:= .agg _) rfl rfl Tryz.sizeOf144 ?_
  iterate 5 refine G ?_
  refine xC (en Tryz.call166 (ha1 (q0 rfl))) (fun _ w hw=>seconds_w x w (hx.mem hw) hc ho) rfl rfl ?_
  iterate 16 refine G ?_
  refine H_cond rfl ?_ ?_<;>intro h2
  ·exfalso;simp at h2
  ·iterate 6 refine G ?_
   refine xC (en Tryz.call167 (ha2 (q0 rfl) (q0 rfl))) (fun _ w hw=>time_w (verT p x.r) hvt (ridS x.r) hrs w) rfl rfl ?_
   iterate 14 refine G ?_
   refine H_cond rfl ?_ ?_<;>intro h3
   ·have h3':1000000000000<ridP (verT p x.r) (ridS x.r):=by
     apply Classical.byContradiction
     intro hn
     have h:(!decide ((money (ridP (verT p x.r) (ridS x.r))).2=0))=true:=h3
     rw [money_ok hn] at h
     simp at h
    rw [hfst,if_pos h3',money_no h3']
    iterate 9 refine G ?_
    exact ret2 (v:= .pointer _) (x:= .int _ _) rfl rfl rfl rfl fun w' hw=>⟨(0,none,0),rfl,mem_nil.2 hw.1⟩
   ·have h3': ¬1000000000000<ridP (verT p x.r) (ridS x.r):=fun hn=>by
     have h:(!decide ((money (ridP (verT p x.r) (ridS x.r))).2=0))=false:=h3
     rw [money_no hn] at h
     simp at h
    rw [if_neg h3'] at hfst
    rw [money_ok h3']
    iterate 6 refine G ?_
    refine xC (en Tryz.call168 (ha2 (q0 rfl) (q0 rfl))) (fun _ w hw=>pauses_w (verT p x.r) hvt (pauS x.r) hps w) rfl rfl ?_
    iterate 14 refine G ?_
    refine H_cond rfl ?_ ?_<;>intro h4
    ·have h4':1000000000000<pauP (verT p x.r) (pauS x.r):=by
      apply Classical.byContradiction
      intro hn
      have h:(!decide ((money (pauP (verT p x.r) (pauS x.r))).2=0))=true:=h4
      rw [money_ok hn] at h
      simp at h
     rw [hfst,if_pos h4',money_no h4']
     iterate 9 refine G ?_
     exact ret2 (v:= .pointer _) (x:= .int _ _) rfl rfl rfl rfl fun w' hw=>⟨(0,none,0),rfl,mem_nil.2 hw.1⟩
    ·have h4': ¬1000000000000<pauP (verT p x.r) (pauS x.r):=fun hn=>by
      have h:(!decide ((money (pauP (verT p x.r) (pauS x.r))).2=0))=false:=h4
      rw [money_no hn] at h
      simp at h
     rw [if_neg h4'] at hfst
     rw [money_ok h4']
     obtain ⟨B1,hB1⟩: ∃B1,B1=addB ⟨x.r.id,x.r.rider,[],0⟩ 1 (verO p x.r) (verT p x.r).unlock:=⟨_,rfl⟩
     obtain ⟨B2,hB2⟩: ∃B2,B2=addB B1 2 (verO p x.r) (ridP (verT p x.r) (ridS x.r)):=⟨_,rfl⟩
     obtain ⟨B3,hB3⟩: ∃B3,B3=baseB p x.r:=⟨_,rfl⟩
     obtain ⟨B4,hB4⟩: ∃B4,B4=plcB p x.r:=⟨_,rfl⟩
     have hB3e:B3=addB B2 3 (verO p x.r) (pauP (verT p x.r) (pauS x.r)):=by rw [hB3,hB2,hB1];rfl
     have hB4e:B4=addB B3 4 (placeP p x.r).2 (max (placeP p x.r).1 (-B3.total)):=by rw [hB4,hB3];rfl
     have t1:B1.total=(verT p x.r).unlock:=by rw [hB1,addB_total];simp
     have t2:B2.total=(verT p x.r).unlock+ridP (verT p x.r) (ridS x.r):=by rw [hB2,addB_total,t1]
     have l1:B1.items.length≤1:=by rw [hB1];exact addB_len _ _ _ _
     have l2:B2.items.length≤2:=by have:=addB_len B1 2 (verO p x.r) (ridP (verT p x.r) (ridS x.r));rw [hB2];omega
     have l3:B3.items.length≤3:=by have:=addB_len B2 3 (verO p x.r) (pauP (verT p x.r) (pauS x.r));rw [hB3e];omega
     have l4:B4.items.length≤4:=by have:=addB_len B3 4 (placeP p x.r).2 (max (placeP p x.r).1 (-B3.total));rw [hB4e];omega
     rw [←hB3] at hbt hplt
     rw [←hB4] at hplt hpat
     iterate 8 refine G ?_
     refine X_eff (f_callM (en Tryz.call118 (ha4 (q0 rfl) (q0 rfl) (q0 rfl) (q0 rfl))) (fun w hw=>add_w 1 (verO p x.r) (verT p x.r).unlock (hw.pick [1,2,0,3,4] (by decide)) rfl (by simp) (by simp;omega)) rfl (fun _=>rfl) fun z1=>?_)
     rw [←hB1]
     iterate 7 refine G ?_
     refine X_eff (f_callM (en Tryz.call118 (ha4 (q0 rfl) (q0 rfl) (q0 rfl) (q0 rfl))) (fun w hw=>add_w 2 (verO p x.r) (ridP (verT p x.r) (ridS x.r)) hw rfl (by omega) (by omega)) rfl (fun _=>rfl) fun z2=>?_)
     rw [←hB2]
     iterate 7 refine G ?_
     refine X_eff (f_callM (en Tryz.call118 (ha4 (q0 rfl) (q0 rfl) (q0 rfl) (q0 rfl))) (fun w hw=>add_w 3 (verO p x.r) (pauP (verT p x.r) (pauS x.r)) hw rfl (by omega) (by omega)) rfl (fun _=>rfl) fun z3=>?_)
     rw [←hB3e]
     iterate 16 refine G ?_
     refine xC (en Tryz.call169 (ha2 (q0 rfl) (q0 rfl))) (fun _ w hw=>place_w p a x w (hp.mem hw) hpl) rfl rfl ?_
     iterate 13 refine G ?_
     refine xV (e_neg (r:= -B3.total) (q0 rfl) (fun _=>⟨rfl,by omega,by omega⟩)) rfl rfl ?_
     refine xV (e_maxM (q0 rfl) (q0 rfl)) rfl rfl ?_
     refine X_eff (f_callM (en Tryz.call118 (ha4 (q0 rfl) (q0 rfl) (q0 rfl) (q0 rfl))) (fun w hw=>add_w 4 (placeP p x.r).2 (max (placeP p x.r).1 (-B3.total)) hw rfl (by omega) (by omega)) rfl (fun _=>rfl) fun z4=>?_)
     rw [←hB4e]
     iterate 9 refine G ?_
     refine H_cond rfl ?_ ?_<;>intro h5
     ·have h5':0≤by_:=of_decide_eq_true h5
      obtain ⟨k,hk⟩: ∃k:Nat,by_=(k:Int):=⟨by_.toNat,by omega⟩
      subst hk
      have hkl:k<a.p.n:=by have:=hp.ps.1;omega
      obtain ⟨pb,poff,q,hpA,hpbl,hq,hrq⟩:=hp.ps.at_ hkl
      have hqd:p.passes.getD ((k:Int)).toNat default=q:=by rw [Int.toNat_natCast,List.getD_eq_getElem?_getD,hq];rfl
      have hqs:0≤q.secs∧q.secs≤86400:=by
       have h7:pasErr p.passes=0:=hpe
       unfold pasErr at h7
       split at h7
       ·cases h7
       ·split at h7
        ·cases h7
        ·rename_i h8
         have h9:p.passes.any pasBad=false:=by simpa using h8
         rw [List.any_eq_false] at h9
         have h10:=h9 q (List.mem_of_getElem? hq)
         unfold pasBad pasBad1 at h10
         simp only [Bool.or_eq_true,not_or,Bool.not_eq_true,Bool.not_eq_true',Bool.not_eq_false,inI_iff] at h10
         exact h10.1.2
      have hpart:partP p x.r (k:Int)=ridP (verT p x.r) (min (ridS x.r) q.secs):=by unfold partP;rw [hqd]
      have hmin:0≤min (ridS x.r) q.secs∧min (ridS x.r) q.secs≤4294944000:=by omega
      have hpnn:=ridP_nn hvt (s:=min (ridS x.r) q.secs) hmin.2
      rw [←hpart] at hpnn
      refine G ?_
      refine R1 rfl (by decide+kernel) ?_
      iterate 3 refine G ?_
      refine xV (e_ld (v:= .slice (some ⟨pb,poff,none⟩) a.p.n a.p.c) Tryz.isAgg26 (q0 rfl) (by rw [←hpA];exact bx 4 rfl rfl)) rfl rfl ?_
      refine G ?_
      refine xV (e_idx k Tryz.underlying26 Tryz.sizeOf155 (q0 rfl) (q0 rfl) (fun _=>⟨rfl,hkl⟩)) rfl rfl ?_
      refine G ?_
      refine xV (e_ld (v:= .int .i64 q.secs) Tryz.isAgg3 (q0 rfl) (by exact rc (j:=5) hrq hpbl rfl)) rfl rfl ?_
      refine xV (e_minM (q0 rfl) (q0 rfl)) rfl rfl ?_
      refine xC (en Tryz.call167 (ha2 (q0 rfl) (q0 rfl))) (fun _ w _=>time_w (verT p x.r) hvt (min (ridS x.r) q.secs) hmin w) rfl rfl ?_
      rw [←hpart]
      iterate 14 refine G ?_
      refine H_cond rfl ?_ ?_<;>intro h7
      ·have h7':1000000000000<partP p x.r (k:Int):=by
        apply Classical.byContradiction
        intro hn
        have h:(!decide ((money (partP p x.r (k:Int))).2=0))=true:=h7
        rw [money_ok hn] at h
        simp at h
       rw [if_pos ⟨h5',h7'⟩] at hfst
       rw [hfst,money_no h7']
       iterate 10 refine G ?_
       exact ret2 (v:= .pointer _) (x:= .int _ _) rfl rfl rfl rfl fun w' hw=>⟨(0,none,0),rfl,mem_nil.2 hw.1⟩
      ·have h7': ¬1000000000000<partP p x.r (k:Int):=fun hn=>by
        have h:(!decide ((money (partP p x.r (k:Int))).2=0))=false:=h7
        rw [money_no hn] at h
        simp at h
       rw [if_neg (fun h=>h7' h.2)] at hfst
       rw [money_ok h7']
       obtain ⟨B5,hB5⟩: ∃B5,B5=passB p x.r (k:Int):=⟨_,rfl⟩
       have hB5e:B5=addB B4 5 (k:Int) (-(min B4.total ((verT p x.r).unlock+partP p x.r (k:Int)))):=by rw [hB5];unfold passB;rw [if_pos h5',←hB4]
       rw [←hB5] at hfst hpat
       rw [if_pos h5'] at hpat
       iterate 2 refine G ?_
       refine RAd 2 rfl (by decide+kernel) ?_
       refine aW 0 ?_
       refine aW 1 ?_
       refine aW 2 ?_
       refine aW 3 ?_
       refine aW 4 ?_
       refine aW 5 ?_
       refine aW 7 ?_
       refine aW 8 ?_
       refine aW 9 ?_
       refine aV 10 (by decide+kernel) rfl (e_add (r:=(verT p x.r).unlock+partP p x.r (k:Int)) (q0 rfl) (q0 rfl) (fun _=>⟨rfl,by omega,by omega⟩)) rfl ?_
       refine r1 6 2 ?_
       refine aL rfl (f_ev (e_ld (v:= .int .i64 B4.total) Tryz.isAgg3 (q0 rfl) (bx 0 rfl rfl)) rfl rfl ?_)
       refine aV 11 (by decide+kernel) rfl (e_minM (q0 rfl) (q0 rfl)) rfl ?_
       refine aV 12 (by decide+kernel) rfl (e_neg (r:= -(min B4.total ((verT p x.r).unlock+partP p x.r (k:Int)))) (q0 rfl) (fun _=>⟨rfl,by omega,by omega⟩)) rfl ?_
       refine r1 13 2 ?_
       refine aL rfl (f_callM (en Tryz.call118 (ha4 (q0 rfl) (q0 rfl) (q0 rfl) (q0 rfl))) (fun w hw=>add_w 5 (k:Int) (-(min B4.total ((verT p x.r).unlock+partP p x.r (k:Int)))) hw rfl (by omega) (by omega)) rfl (fun _=>rfl) fun z5=>?_)
       refine aZ (by decide+kernel) (sub_drop 2) ?_
       iterate 12 refine G ?_
       refine H_cond rfl ?_ ?_<;>intro h8
       ·have h8':1000000000000<B5.total:=by rw [hB5e];exact of_decide_eq_true h8
        rw [hfst,if_pos h8']
        iterate 8 refine G ?_
        exact ret2 (v:= .pointer _) (x:= .int _ _) rfl rfl rfl rfl fun w' hw=>⟨(0,none,0),rfl,mem_nil.2 hw.1⟩
       ·have h8': ¬1000000000000<B5.total:=by rw [hB5e];exact of_decide_eq_false h8
        rw [hfst,if_neg h8']
        iterate 10 refine G ?_
        exact ret2 (v:= .pointer _) (x:= .int _ _) rfl rfl rfl rfl fun w' hw=>⟨(b27,z5.1,z5.2),rfl,by rw [hB5e];exact hw.pick [0,1] (by decide)⟩
     ·have h5': ¬0≤by_:=of_decide_eq_false h5
      have hpB:passB p x.r by_=B4:=by unfold passB;rw [if_neg h5',hB4]
      rw [if_neg (fun h=>h5' h.1),hpB] at hfst
      iterate 13 refine G ?_
      refine H_cond rfl ?_ ?_<;>intro h6
      ·have h6':1000000000000<B4.total:=of_decide_eq_true h6
       rw [hfst,if_pos h6']
       iterate 8 refine G ?_
       exact ret2 (v:= .pointer _) (x:= .int _ _) rfl rfl rfl rfl fun w' hw=>⟨(0,none,0),rfl,mem_nil.2 hw.1⟩
      ·have h6': ¬1000000000000<B4.total:=of_decide_eq_false h6
       rw [hfst,if_neg h6']
       iterate 10 refine G ?_
       exact ret2 (v:= .pointer _) (x:= .int _ _) rfl rfl rfl rfl fun w' hw=>⟨(b27,z4.1,z4.2),rfl,hw.pick [0,1] (by decide)⟩
end Go.Proofs.Far
namespace Go.Proofs.Far
open Go Go.RowKit Go.Proofs.E Go.Proofs.Cus Go.Proofs.Rid
theorem all1_w (x y:RX) (w:World):Calls Tryz.prog 108 #[.agg x.cells.toArray, .agg y.cells.toArray] w fun e w'=>e= .returned (.int .i64 (rideCmp x.r y.r))∧Bel w w':=by
 refine H_enter Tryz.func108 rfl Tryz.ntmps108 rfl ?_
 iterate 2 refine G ?_
 refine X_box (v:= .agg _) rfl rfl fun b2=>?_
 refine X_box (v:= .agg _) rfl rfl fun b3=>?_
 iterate 4 refine G ?_
 refine RA rfl (by decide+kernel) ?_
 refine aW 0 ?_
 refine aW 1 ?_
 refine aW 2 ?_
 refine aW 3 ?_
 refine aW 4 ?_
 refine aW 5 ?_
 refine aW 7 ?_
 refine aW 8 ?_
 refine aW 9 ?_
 refine aW 10 ?_
 refine aW 11 ?_
 refine aW 12 ?_
 refine aW 14 ?_
 refine aW 15 ?_
 refine aW 16 ?_
 refine aW 17 ?_
 refine aC 6 (by decide+kernel) rfl (en Tryz.call104 (ha2 (q0 rfl) (q0 rfl))) (fun _ w _=>compare_w x.r.start.lo y.r.start.lo w) rfl ?_
 refine aC 13 (by decide+kernel) rfl (en Tryz.call104 (ha2 (q0 rfl) (q0 rfl))) (fun _ w _=>compare_w x.r.end_.lo y.r.end_.lo w) rfl ?_
 refine aC 18 (by decide+kernel) rfl (en Tryz.call104 (ha2 (q0 rfl) (q0 rfl))) (fun _ w _=>compare_w x.r.id y.r.id w) rfl ?_
 refine r1 19 0 ?_
 refine aL rfl (f_slit [(.int .i64 0),(.int .i64 0),(.int .i64 0)] Tryz.underlying22 Tryz.sizeOf3 Tryz.zeroValue3 rfl (by kernel_rfl) (pt (v:= .int _ _) rfl (pt (v:= .int _ _) rfl (pt (v:= .int _ _) rfl E.p0))) rfl rfl fun b24=>?_)
 refine aRL (sub_drop 1) ?_
 refine aC 20 (by decide+kernel) rfl (en Tryz.call109 (ha1 (q0 rfl))) (fun _ w hm=>or_w _ 3 3 [cmpI x.r.start.lo y.r.start.lo,cmpI x.r.end_.lo y.r.end_.lo,cmpI x.r.id y.r.id] w (slAt_box (enc:=encInt) hm (j:=0) rfl (fun _=>rfl) (by simp))) rfl ?_
 refine aW 21 ?_
 refine aZ (by decide+kernel) (sub_drop 0) ?_
 iterate 2 refine G ?_
 exact ret1 (v:= .int _ _) rfl rfl rfl fun w' hw=>⟨rfl,hw.1⟩
def sortRd_ren:Go.Shelf.Ren:=⟨fun|6=>107|15=>162|14=>161|28=>219|29=>220|20=>207|21=>212|22=>213|23=>214|24=>215|25=>216|26=>217|27=>218|46=>279|47=>280|48=>281|49=>282|50=>283|57=>313|n=>n,fun|22=>135|24=>191|25=>192|3=>3|39=>257|0=>0|53=>305|55=>307|4=>4|46=>299|45=>298|50=>229|5=>5|9=>9|66=>359|70=>363|76=>388|77=>77|n=>n,fun|n=>n⟩
theorem sortRd:Go.Proofs.SlLaysF0.n6 Tryz.prog sortRd_ren:={
 mixed:=by kernel_rfl,
 f6:=⟨Tryz.f107.name,by decide,Tryz.func107.trans (congrArg some (by kernel_rfl))⟩,
 f14:=⟨Tryz.f161.name,by decide,Tryz.func161.trans (congrArg some (by kernel_rfl))⟩,
 f15:=Tryz.func162.trans (congrArg some (by kernel_rfl)),
 f20:=⟨Tryz.f207.name,by decide,Tryz.func207.trans (congrArg some (by kernel_rfl))⟩,
 f21:=⟨Tryz.f212.name,by decide,Tryz.func212.trans (congrArg some (by kernel_rfl))⟩,
 f22:=⟨Tryz.f213.name,by decide,Tryz.func213.trans (congrArg some (by kernel_rfl))⟩,
 f23:=⟨Tryz.f214.name,by decide,Tryz.func214.trans (congrArg some (by kernel_rfl))⟩,
 f24:=⟨Tryz.f215.name,by decide,Tryz.func215.trans (congrArg some (by kernel_rfl))⟩,
 f25:=⟨Tryz.f216.name,by decide,Tryz.func216.trans (congrArg some (by kernel_rfl))⟩,
 f26:=⟨Tryz.f217.name,by decide,Tryz.func217.trans (congrArg some (by kernel_rfl))⟩,
 f27:=⟨Tryz.f218.name,by decide,Tryz.func218.trans (congrArg some (by kernel_rfl))⟩,
 f28:=Tryz.func219.trans (congrArg some (by kernel_rfl)),
 f29:=Tryz.func220.trans (congrArg some (by kernel_rfl)),
 f46:=⟨Tryz.f279.name,by decide,Tryz.func279.trans (congrArg some (by kernel_rfl))⟩,
 f47:=Tryz.func280.trans (congrArg some (by kernel_rfl)),
 f48:=Tryz.func281.trans (congrArg some (by kernel_rfl)),
 f49:=⟨Tryz.f282.name,by decide,Tryz.func282.trans (congrArg some (by kernel_rfl))⟩,
 f50:=⟨Tryz.f283.name,by decide,Tryz.func283.trans (congrArg some (by kernel_rfl))⟩,
 f57:=⟨Tryz.f313.name,by decide,Tryz.func313.trans (congrArg some (by kernel_rfl))⟩,
 t0:=Tryz.underlying0,
 a0:=Tryz.isAgg0,
 z0:=Tryz.sizeOf0,
 v0:=Tryz.zeroValue0,
 t3:=Tryz.underlying3,
 a3:=Tryz.isAgg3,
 z3:=Tryz.sizeOf3,
 v3:=Tryz.zeroValue3,
 t4:=Tryz.underlying4,
 a4:=Tryz.isAgg4,
 z4:=Tryz.sizeOf4,
 v4:=Tryz.zeroValue4,
 t5:=Tryz.underlying5,
 a5:=Tryz.isAgg5,
 z5:=Tryz.sizeOf5,
 v5:=Tryz.zeroValue5,
 t9:=Tryz.underlying9,
 a9:=Tryz.isAgg9,
 z9:=Tryz.sizeOf9,
 v9:=Tryz.zeroValue9,
 t22:=Tryz.underlying135,
 a22:=Tryz.isAgg135,
 z22:=Tryz.sizeOf135,
 v22:=Tryz.zeroValue135,
 t25:=Tryz.underlying192,
 a25:=Tryz.isAgg192,
 z25:=Tryz.sizeOf192,
 v25:=Tryz.zeroValue192,
 t39:=Tryz.underlying257,
 a39:=Tryz.isAgg257,
 z39:=Tryz.sizeOf257,
 v39:=Tryz.zeroValue257,
 t45:=Tryz.underlying298,
 a45:=Tryz.isAgg298,
 z45:=Tryz.sizeOf298,
 v45:=Tryz.zeroValue298,
 t46:=Tryz.underlying299,
 a46:=Tryz.isAgg299,
 z46:=Tryz.sizeOf299,
 v46:=Tryz.zeroValue299,
 t50:=Tryz.underlying229,
 a50:=Tryz.isAgg229,
 z50:=Tryz.sizeOf229,
 v50:=Tryz.zeroValue229,
 t53:=Tryz.underlying305,
 a53:=Tryz.isAgg305,
 z53:=Tryz.sizeOf305,
 v53:=Tryz.zeroValue305,
 t55:=Tryz.underlying307,
 a55:=Tryz.isAgg307,
 z55:=Tryz.sizeOf307,
 v55:=Tryz.zeroValue307,
 t66:=Tryz.underlying359,
 a66:=Tryz.isAgg359,
 z66:=Tryz.sizeOf359,
 v66:=Tryz.zeroValue359,
 t70:=Tryz.underlying363,
 a70:=Tryz.isAgg363,
 z70:=Tryz.sizeOf363,
 v70:=Tryz.zeroValue363,
 t76:=Tryz.underlying388,
 a76:=Tryz.isAgg388,
 z76:=Tryz.sizeOf388,
 v76:=Tryz.zeroValue388,
 t77:=Tryz.underlying77,
 a77:=Tryz.isAgg77,
 z77:=Tryz.sizeOf77,
 v77:=Tryz.zeroValue77}
structure FX where
 b:Bil
 A:Option Addr
 c:Nat
deriving Inhabited
def FX.cells (x:FX):List Value:=x.b.cells x.A x.c
abbrev faRow (A:Option Addr) (c:Nat) (xs:List FX):E.Item:=rowT 81 4 FX.cells A c xs
def faParts (x:FX):List E.Item:=[itRow x.A x.c x.b.items]
theorem all3_w (x y:FX) (w:World):Calls Tryz.prog 120 #[.agg x.cells.toArray, .agg y.cells.toArray] w fun e w'=>e= .returned (.int .i64 (cmpI x.b.ride y.b.ride))∧Bel w w':=by
 refine H_enter Tryz.func120 rfl Tryz.ntmps120 rfl ?_
 iterate 2 refine G ?_
 refine X_box (v:= .agg _) rfl rfl fun b2=>?_
 refine X_box (v:= .agg _) rfl rfl fun b3=>?_
 iterate 9 refine G ?_
 refine xC (en Tryz.call104 (ha2 (q0 rfl) (q0 rfl))) (fun _ w _=>compare_w x.b.ride y.b.ride w) rfl rfl ?_
 iterate 4 refine G ?_
 exact ret1 (v:= .int _ _) rfl rfl rfl fun w' hw=>⟨rfl,hw.1⟩
def sortFa_ren:Go.Shelf.Ren:=⟨fun|6=>119|15=>162|14=>175|28=>219|29=>220|20=>236|21=>237|22=>238|23=>239|24=>240|25=>241|26=>242|27=>243|46=>294|47=>280|48=>281|49=>295|50=>296|57=>329|n=>n,fun|22=>74|24=>81|25=>214|3=>3|39=>257|0=>0|53=>305|55=>307|4=>4|46=>299|45=>298|50=>229|5=>5|9=>9|66=>359|70=>363|76=>388|77=>77|n=>n,fun|n=>n⟩
theorem sortFa:Go.Proofs.SlLaysF0.n6 Tryz.prog sortFa_ren:={
 mixed:=by kernel_rfl,
 f6:=⟨Tryz.f119.name,by decide,Tryz.func119.trans (congrArg some (by kernel_rfl))⟩,
 f14:=⟨Tryz.f175.name,by decide,Tryz.func175.trans (congrArg some (by kernel_rfl))⟩,
 f15:=Tryz.func162.trans (congrArg some (by kernel_rfl)),
 f20:=⟨Tryz.f236.name,by decide,Tryz.func236.trans (congrArg some (by kernel_rfl))⟩,
 f21:=⟨Tryz.f237.name,by decide,Tryz.func237.trans (congrArg some (by kernel_rfl))⟩,
 f22:=⟨Tryz.f238.name,by decide,Tryz.func238.trans (congrArg some (by kernel_rfl))⟩,
 f23:=⟨Tryz.f239.name,by decide,Tryz.func239.trans (congrArg some (by kernel_rfl))⟩,
 f24:=⟨Tryz.f240.name,by decide,Tryz.func240.trans (congrArg some (by kernel_rfl))⟩,
 f25:=⟨Tryz.f241.name,by decide,Tryz.func241.trans (congrArg some (by kernel_rfl))⟩,
 f26:=⟨Tryz.f242.name,by decide,Tryz.func242.trans (congrArg some (by kernel_rfl))⟩,
 f27:=⟨Tryz.f243.name,by decide,Tryz.func243.trans (congrArg some (by kernel_rfl))⟩,
 f28:=Tryz.func219.trans (congrArg some (by kernel_rfl)),
 f29:=Tryz.func220.trans (congrArg some (by kernel_rfl)),
 f46:=⟨Tryz.f294.name,by decide,Tryz.func294.trans (congrArg some (by kernel_rfl))⟩,
 f47:=Tryz.func280.trans (congrArg some (by kernel_rfl)),
 f48:=Tryz.func281.trans (congrArg some (by kernel_rfl)),
 f49:=⟨Tryz.f295.name,by decide,Tryz.func295.trans (congrArg some (by kernel_rfl))⟩,
 f50:=⟨Tryz.f296.name,by decide,Tryz.func296.trans (congrArg some (by kernel_rfl))⟩,
 f57:=⟨Tryz.f329.name,by decide,Tryz.func329.trans (congrArg some (by kernel_rfl))⟩,
 t0:=Tryz.underlying0,
 a0:=Tryz.isAgg0,
 z0:=Tryz.sizeOf0,
 v0:=Tryz.zeroValue0,
 t3:=Tryz.underlying3,
 a3:=Tryz.isAgg3,
 z3:=Tryz.sizeOf3,
 v3:=Tryz.zeroValue3,
 t4:=Tryz.underlying4,
 a4:=Tryz.isAgg4,
 z4:=Tryz.sizeOf4,
 v4:=Tryz.zeroValue4,
 t5:=Tryz.underlying5,
 a5:=Tryz.isAgg5,
 z5:=Tryz.sizeOf5,
 v5:=Tryz.zeroValue5,
 t9:=Tryz.underlying9,
 a9:=Tryz.isAgg9,
 z9:=Tryz.sizeOf9,
 v9:=Tryz.zeroValue9,
 t22:=Tryz.underlying74,
 a22:=Tryz.isAgg74,
 z22:=Tryz.sizeOf74,
 v22:=Tryz.zeroValue74,
 t25:=Tryz.underlying214,
 a25:=Tryz.isAgg214,
 z25:=Tryz.sizeOf214,
 v25:=Tryz.zeroValue214,
 t39:=Tryz.underlying257,
 a39:=Tryz.isAgg257,
 z39:=Tryz.sizeOf257,
 v39:=Tryz.zeroValue257,
 t45:=Tryz.underlying298,
 a45:=Tryz.isAgg298,
 z45:=Tryz.sizeOf298,
 v45:=Tryz.zeroValue298,
 t46:=Tryz.underlying299,
 a46:=Tryz.isAgg299,
 z46:=Tryz.sizeOf299,
 v46:=Tryz.zeroValue299,
 t50:=Tryz.underlying229,
 a50:=Tryz.isAgg229,
 z50:=Tryz.sizeOf229,
 v50:=Tryz.zeroValue229,
 t53:=Tryz.underlying305,
 a53:=Tryz.isAgg305,
 z53:=Tryz.sizeOf305,
 v53:=Tryz.zeroValue305,
 t55:=Tryz.underlying307,
 a55:=Tryz.isAgg307,
 z55:=Tryz.sizeOf307,
 v55:=Tryz.zeroValue307,
 t66:=Tryz.underlying359,
 a66:=Tryz.isAgg359,
 z66:=Tryz.sizeOf359,
 v66:=Tryz.zeroValue359,
 t70:=Tryz.underlying363,
 a70:=Tryz.isAgg363,
 z70:=Tryz.sizeOf363,
 v70:=Tryz.zeroValue363,
 t76:=Tryz.underlying388,
 a76:=Tryz.isAgg388,
 z76:=Tryz.sizeOf388,
 v76:=Tryz.zeroValue388,
 t77:=Tryz.underlying77,
 a77:=Tryz.isAgg77,
 z77:=Tryz.sizeOf77,
 v77:=Tryz.zeroValue77}
section
open Go.Shelf Go.Lib Go.Sort
theorem rsort_w {w0 w:World} {L:List E.Item} (hw:Mem w0 L w) {j c n:Nat} {A:Option Addr} {xs:List RX} (hl:xs.length=n) (hkj:L[j]?=some (rdRow A c xs)) (hn:n≤1000000):
  Calls Tryz.prog 107 #[.slice A n c, .func (.func 108) #[] #[]] w fun r w'=> ∃ys:{ys:List RX//ys.Perm xs∧ys.Pairwise fun x y=>rideLt y.r x.r=false},r= .returned (.tuple #[])∧Mem w0 (L.set j (rdRow A c ys.1)) w':=by
 subst hl
 refine (sortNT sortRd 13 Tryz.isAgg191 Tryz.sizeOf191 RX.cells (fun _=>rfl) (fun x v hv=>by simp [RX.cells,Rd.cellsAt] at hv;rcases hv with rfl|rfl|rfl|rfl|rfl|rfl|rfl|rfl|rfl|rfl|rfl|rfl|rfl<;>rfl) (fun x y:RX=>rideCmp x.r y.r) 108 (swo_ride (·.r) _ (fun x y=>by unfold ltOf;exact rideCmp_lt _ _)) Tryz.call108 all1_w hw hkj hn).mono ?_
 rintro r w' ⟨⟨ys,h1,h2⟩,he,hm⟩
 exact ⟨⟨ys,h1,h2.imp fun {a b} hab=>by unfold ltOf at hab;rw [rideCmp_lt] at hab;exact hab⟩,he,hm⟩
theorem fsort_w {w0 w:World} {L:List E.Item} (hw:Mem w0 L w) {j c n:Nat} {A:Option Addr} {xs:List FX} (hl:xs.length=n) (hkj:L[j]?=some (faRow A c xs)) (hn:n≤1000000):
  Calls Tryz.prog 119 #[.slice A n c, .func (.func 120) #[] #[]] w fun r w'=> ∃ys:{ys:List FX//ys.Perm xs∧ys.Pairwise fun x y=>x.b.ride≤y.b.ride},r= .returned (.tuple #[])∧Mem w0 (L.set j (faRow A c ys.1)) w':=by
 subst hl
 refine (sortNT sortFa 4 Tryz.isAgg81 Tryz.sizeOf81 FX.cells (fun _=>rfl) (fun x v hv=>by simp [FX.cells,Bil.cells] at hv;rcases hv with rfl|rfl|rfl|rfl<;>rfl) (fun x y:FX=>cmpI x.b.ride y.b.ride) 120 (swo_by (·.b.ride) _ (fun x y=>by unfold ltOf;exact cmpI_ltOf _ _)) Tryz.call120 all3_w hw hkj hn).mono ?_
 rintro r w' ⟨⟨ys,h1,h2⟩,he,hm⟩
 exact ⟨⟨ys,h1,h2.imp fun {a b} hab=>by unfold ltOf at hab;rw [cmpI_ltOf] at hab;simpa using hab⟩,he,hm⟩
end
theorem fined1_w (v:Pen.V) (b3 q:Nat) (b:Bil) (A:Option Addr) (c:Nat) (w:World) (hb3:RowAt w b3 0 [.pointer (some ⟨q,0,none⟩)]) (hl3:b3<w.heap.size) (hq:RowAt w q 0 (b.cells A c)) (hlq:q<w.heap.size):Calls Tryz.prog 115 #[.agg v.cells.toArray, .pointer (some ⟨b3,0,none⟩)] w fun e w'=>e= .returned (.bool (decide (v.ride=b.ride)))∧Bel w w':=by
 refine H_enter Tryz.func115 rfl Tryz.ntmps115 rfl ?_
 iterate 2 refine G ?_
 refine X_box (v:= .agg _) rfl rfl fun b2=>?_
 iterate 4 refine G ?_
 refine R1 rfl (by decide+kernel) ?_
 iterate 2 refine G ?_
 refine xV (e_ld (v:= .pointer (some ⟨q,0,none⟩)) Tryz.isAgg200 (q0 rfl) (rc0 hb3 hl3 rfl)) rfl rfl ?_
 iterate 3 refine G ?_
 refine xV (e_ld (v:= .int .i64 b.ride) Tryz.isAgg3 (q0 rfl) (rc0 hq hlq rfl)) rfl rfl ?_
 iterate 5 refine G ?_
 exact ret1 (v:= .bool _) rfl rfl rfl fun w' hw=>⟨rfl,hw.1⟩
theorem vindex_w (A:Option Addr) (n c:Nat) (vs:List Pen.V) (b3 q:Nat) (b:Bil) (B:Option Addr) (d:Nat) (w:World) (hx:Pen.VsAt w A n vs) (hb3:RowAt w b3 0 [.pointer (some ⟨q,0,none⟩)]) (hl3:b3<w.heap.size) (hq:RowAt w q 0 (b.cells B d)) (hlq:q<w.heap.size):Calls Tryz.prog 114 #[.slice A n c, .func (.func 115) #[] #[.pointer (some ⟨b3,0,none⟩)]] w fun e w'=>e= .returned (.int .i64 (vIdx vs b.ride))∧Bel w w':=by
 have hl:=hx.1
 have hn:=hx.2.1
 refine H_enter Tryz.func114 rfl Tryz.ntmps114 rfl ?_
 iterate 14 refine G ?_
 refine H_loop [4,5,8,9,10,11,12,13,14,15,16,17,18] (fun k:Nat=>[(8, .int .i64 k)]) (fun _=>[]) (fun k=>k≤n∧(List.range k).find? (fun k=>(vs.getD k Pen.V.zero).ride==b.ride)=none) (fun k=>n -k) 0 ⟨rfl,trivial⟩ (fun w hw=>hw) rfl ⟨Nat.zero_le _,rfl⟩ ?_
 rintro k g ⟨hk,hall⟩
 iterate 6 refine G ?_
 refine H_cond rfl ?_ ?_<;>intro hlt
 ·have hlt':k<n:=by simpa using hlt
  obtain ⟨pb,off,v,rfl,hpbl,hpk,hrp⟩:=hx.at_ hlt'
  have hpd:vs.getD k Pen.V.zero=v:=by rw [List.getD_eq_getElem?_getD,hpk];rfl
  iterate 15 refine G ?_
  refine xV (e_idx _ Tryz.underlying193 Tryz.sizeOf208 (q0 rfl) (q0 rfl) (fun _=>⟨rfl,by omega⟩)) rfl rfl ?_
  refine G ?_
  refine xC (enV (cap:=[.pointer (some ⟨b3,0,none⟩)]) (al:=[.agg v.cells.toArray, .pointer (some ⟨b3,0,none⟩)]) Tryz.call115 (q0 rfl) (fun hg=>by rw [ha1 (q0 (v:= .agg _) rfl) hg];rfl)) (fun _ w hw=>fined1_w v b3 q b B d w (fun j u hu=>rcs hb3 hl3 rfl w hw j u hu) (Nat.lt_of_lt_of_le hl3 hw.1.size) (fun j u hu=>rcs hq hlq rfl w hw j u hu) (Nat.lt_of_lt_of_le hlq hw.1.size)) rfl rfl ?_
  iterate 2 refine G ?_
  refine H_cond rfl ?_ ?_<;>intro hv
  ·have hv':v.ride=b.ride:=of_decide_eq_true hv
   have hf:(List.range n).find? (fun k=>(vs.getD k Pen.V.zero).ride==b.ride)=some k:=by
    obtain ⟨j,rfl⟩: ∃j,n=k+1+j:=⟨n -(k+1),by omega⟩
    rw [List.range_add,List.range_succ,List.find?_append,List.find?_append,hall]
    simp [hpk,hv']
   rw [show vIdx vs b.ride=(k:Int) by unfold vIdx;rw [hl,hf]]
   iterate 12 refine G ?_
   exact ret1 (v:= .int _ _) rfl rfl rfl fun w' hw=>⟨rfl,hw.1⟩
  ·have hv': ¬v.ride=b.ride:=of_decide_eq_false hv
   iterate 7 refine G ?_
   exact loopJ_normal (k+1) agr ⟨rfl,trivial⟩ (fun w hw=>hw) rfl ⟨by omega,by rw [List.range_succ,List.find?_append,hall];simp [hpk,hv']⟩ (by show n -(k+1)<n -k;omega)
 ·have hend:k=n:=by simp at hlt;omega
  subst hend
  rw [show vIdx vs b.ride= -1 by unfold vIdx;rw [hl,hall]]
  iterate 11 refine G ?_
  exact ret1 (v:= .int _ _) rfl rfl rfl fun w' hw=>⟨rfl,hw.1⟩
def finB2 (p:Pr) (vs:List Pen.V) (b:Bil) (ride:Int):Bil:=
 if vIdx vs ride<0 then b else addB b 7 (Pen.numR p.fines p.days vs (vIdx vs ride)).1 (Pen.fineR p.fines p.days vs (vIdx vs ride)).1
attribute [local irreducible] Pen.numR Pen.fineR vIdx
theorem fined_w {w0 w:World} {L:List E.Item} {q:Nat} {b:Bil} {A:Option Addr} {c:Nat} (hw:Mem w0 (box q 204 (b.cells A c)::itRow A c b.items::L) w) (hmk:marks L=[]) (i7 i5 b7 b5:Nat) (vA:Option Addr) (vn vc:Nat) (vs:List Pen.V) (p:Pr) (a:PrA) (h7:L[i7]?=some (box b7 193 [.slice vA vn vc])) (h5:L[i5]?=some (box b5 28 (p.cells a)))
  (hv:Pen.VsAt w0 vA vn vs) (hp:PrAt w0 p a) (hpe:Pen.pErr p.fines p.days=0) (hlen:b.items.length≤100) (hb: -9000000000000000≤b.total∧b.total≤9000000000000000):
  Calls Tryz.prog 113 #[.pointer (some ⟨q,0,none⟩), .pointer (some ⟨b7,0,none⟩), .pointer (some ⟨b5,0,none⟩)] w fun e w'=> ∃z:Option Addr×Nat,e= .returned (.tuple #[])∧Mem w0 (box q 204 ((finB2 p vs b b.ride).cells z.1 z.2)::itRow z.1 z.2 (finB2 p vs b b.ride).items::L) w':=by
 have hfr:=fineR_range (vs:=vs) (i:=vIdx vs b.ride) hpe
 refine H_enterM hw hmk Tryz.func113 rfl Tryz.ntmps113 rfl ?_
 iterate 2 refine G ?_
 refine X_box (v:= .pointer _) rfl rfl fun b3=>?_
 iterate 4 refine G ?_
 refine xV (e_ld (v:= .slice vA vn vc) Tryz.isAgg193 (q0 rfl) (bx (i7+3) h7 rfl)) rfl rfl ?_
 refine xV e_fn rfl rfl ?_
 refine xC (v:= .int .i64 (vIdx vs b.ride)) (en (al:=[.slice vA vn vc, .func (.func 115) #[] #[.pointer (some ⟨b3,0,none⟩)]]) Tryz.call114 (ha2 (q0 (v:= .slice _ _ _) rfl) (q0 rfl))) (fun _ w hw=>vindex_w vA vn vc vs b3 q b A c w (hv.mem hw) (fun j u hu=>by rw [Nat.zero_add];exact box_cell hw (k:=0) rfl hu) (hw.itemLt (k:=0) rfl rfl).2 (fun j u hu=>by rw [Nat.zero_add];exact box_cell hw (k:=1) rfl hu) (hw.itemLt (k:=1) rfl rfl).2) rfl rfl ?_
 iterate 10 refine G ?_
 refine H_cond rfl ?_ ?_<;>intro h1
 ·have h1':vIdx vs b.ride<0:=of_decide_eq_true h1
  rw [show finB2 p vs b b.ride=b by unfold finB2;rw [if_pos h1']]
  iterate 2 refine G ?_
  exact end0 rfl hmk fun w' hw=>⟨(A,c),rfl,hw.tail⟩
 ·have h1': ¬vIdx vs b.ride<0:=of_decide_eq_false h1
  rw [show finB2 p vs b b.ride=addB b 7 (Pen.numR p.fines p.days vs (vIdx vs b.ride)).1 (Pen.fineR p.fines p.days vs (vIdx vs b.ride)).1 by unfold finB2;rw [if_neg h1']]
  iterate 4 refine G ?_
  refine xV (e_lds (vs:=p.cells a) Tryz.isAgg28 Tryz.sizeOf28 (q0 rfl) (bxs (i5+3) h5) rfl) rfl rfl ?_
  refine xV (e_ld (v:= .slice vA vn vc) Tryz.isAgg193 (q0 rfl) (bx (i7+3) h7 rfl)) rfl rfl ?_
  refine G ?_
  refine xC (en Tryz.call116 (ha3 (q0 rfl) (q0 rfl) (q0 rfl))) (fun _ w hw=>Pen.Number_w _ _ _ _ _ a.f.A a.f.n a.f.c p.fines p.days vA vn vc vs (vIdx vs b.ride) w (hp.fi.mem hw) (hv.mem hw)) rfl rfl ?_
  iterate 9 refine G ?_
  refine xV (e_lds (vs:=p.cells a) Tryz.isAgg28 Tryz.sizeOf28 (q0 rfl) (bxs (i5+3) h5) rfl) rfl rfl ?_
  refine xV (e_ld (v:= .slice vA vn vc) Tryz.isAgg193 (q0 rfl) (bx (i7+3) h7 rfl)) rfl rfl ?_
  refine G ?_
  refine xC (en Tryz.call117 (ha3 (q0 rfl) (q0 rfl) (q0 rfl))) (fun _ w hw=>Pen.Fine_w _ _ _ _ _ a.f.A a.f.n a.f.c p.fines p.days vA vn vc vs (vIdx vs b.ride) w (hp.fi.mem hw) (hv.mem hw)) rfl rfl ?_
  iterate 11 refine G ?_
  refine X_eff (f_callM (en Tryz.call118 (ha4 (q0 rfl) (q0 rfl) (q0 rfl) (q0 rfl))) (fun w hw=>add_w 7 (Pen.numR p.fines p.days vs (vIdx vs b.ride)).1 (Pen.fineR p.fines p.days vs (vIdx vs b.ride)).1 (hw.mv2) hmk hlen (by omega)) rfl (fun _=>rfl) fun z=>?_)
  refine G ?_
  exact end0 rfl hmk fun w' hw=>⟨z,rfl,hw.pickN 3 [0,1] (by decide) (by decide)⟩
end Go.Proofs.Far
