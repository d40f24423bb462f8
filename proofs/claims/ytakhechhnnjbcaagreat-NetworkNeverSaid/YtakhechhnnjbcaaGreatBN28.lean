import Derived.Test.YtakhechhnnjbcaaGreatBN27
import Derived.Test.YtakhechhnnjbcaaGreatBN04
import Derived.Test.YtakhechhnnjbcaaGreatTy
set_option maxRecDepth 100000
set_option maxHeartbeats 8000000
set_option linter.unusedVariables false
set_option linter.unusedSimpArgs false
namespace Go.Proofs.Net
open Go Go.RowKit Go.Proofs.E Go.Proofs.Cus Go.Proofs.Rid Go.Proofs.Far Go.Proofs.Hom
def apR (ap:List (List Bool)) (i j:Nat):Bool:=(ap.getD i default).getD j false
def setR (ap:List (List Bool)) (i j:Nat) (v:Bool):List (List Bool):=ap.set i ((ap.getD i default).set j v)
def conR (ap:List (List Bool)) (i j:Nat) (v:Bool):List (List Bool):=setR (setR ap i j v) j i v
def putS (s:NS) (i:Nat) (x:SS):NS:=⟨s.srv.set i x,s.apart,s.bank⟩
def evN (f:Fl) (s:NS) (i:Nat) (x:SS) (e:Ev):NS×Int×Int:=
 if evErr f e≠0 then (s,0,evErr f e)
 else (putS s i {x with evs:=(addR f.devices x.evs e).1},if (addR f.devices x.evs e).2.2≠0 then 0 else if (addR f.devices x.evs e).2.1=true then 1 else 0,(addR f.devices x.evs e).2.2)
def chN (f:Fl) (p:Pr) (s:NS) (i:Nat) (x:SS):NS×Int×Int:=
 (⟨s.srv.set i (chR f p s.srv.length i s.bank x).2.1,s.apart,(chR f p s.srv.length i s.bank x).1⟩,(chR f p s.srv.length i s.bank x).2.2)
def doN2 (f:Fl) (s:NS) (k:Int) (i j:Nat):NS×Int×Int:=
 if k=2 then (⟨s.srv,conR s.apart i j true,s.bank⟩,if (apR s.apart i j !=true)=true then 1 else 0,0)
 else if k=3 then (⟨s.srv,conR s.apart i j false,s.bank⟩,if (apR s.apart i j !=false)=true then 1 else 0,0)
 else if apR s.apart i j=true then (s,0,15)
 else (putS s i {s.srv.getD i default with evs:=(learnL f.devices (s.srv.getD i default).evs (evsR (s.srv.getD j default).evs)).1},(learnL f.devices (s.srv.getD i default).evs (evsR (s.srv.getD j default).evs)).2,0)
def doK (f:Fl) (p:Pr) (s:NS) (x:Stp) (i:Nat):NS×Int×Int:=
 if x.kind=1 then evN f s i (s.srv.getD i default) x.ev
 else if x.kind=5 then chN f p s i (s.srv.getD i default)
 else if x.kind=6 then if x.b<0∨512<x.b then (s,0,1) else (putS s i {s.srv.getD i default with lose:=x.b},0,0)
 else if twoB s.srv.length x≠0 then (s,0,twoB s.srv.length x)
 else doN2 f s x.kind i x.b.toNat
def doN (f:Fl) (p:Pr) (s:NS) (x:Stp):NS×Int×Int:=
 if x.kind<1∨6<x.kind then (s,0,14)
 else if hasB s.srv.length x.a=false then (s,0,7)
 else doK f p s x x.a.toNat
structure SK (f:Fl) (T:Int) (x:SS):Prop where
 ev: ∀e∈x.evs,0≤e.device∧1≤e.seq
 pl:PlOk (evsR x.evs)
 n:x.evs.length≤40
 sh: ∀r∈allOf f (evsR x.evs),(r.legs.length≤100000∧r.pauses.length≤100000)∧r.pl≤9223372036854775807
 d:x.desk.length≤256
 t: ∀e∈x.desk,0≤e.tries∧e.tries≤T
 l:x.lose≤1000000
abbrev NB:=(Option Addr×Nat)×List (SA×SS)×List ((Nat×Nat)×List Bool)
abbrev stN (sv:List (SA×SS)) (ap:List ((Nat×Nat)×List Bool)) (bank:List Py):NS:=⟨sv.map (·.2),ap.map (·.2),bank⟩
structure NQ (sv:List (SA×SS)) (ap:List ((Nat×Nat)×List Bool)) (s:NS) (y:NB):Prop where
 hs:y.2.1.map (·.2)=s.srv
 hss:y.2.1.map (·.1.s)=sv.map (·.1.s)
 ha:y.2.2.map (·.2)=s.apart
 hb:y.2.2.map (·.1)=ap.map (·.1)
theorem NQ.same {sv:List (SA×SS)} {ap:List ((Nat×Nat)×List Bool)} {bank:List Py} (k:Option Addr×Nat):NQ sv ap (stN sv ap bank) (k,sv,ap):=⟨rfl,rfl,rfl,rfl⟩
theorem NQ.put {sv:List (SA×SS)} {ap:List ((Nat×Nat)×List Bool)} {bank:List Py} (k:Option Addr×Nat) {i:Nat} {x:SA×SS} (hx:sv[i]?=some x) (a:SA) (ha:a.s=x.1.s) (z:SS):NQ sv ap (putS (stN sv ap bank) i z) (k,sv.set i (a,z),ap):=
 ⟨by show (sv.set i (a,z)).map _=(sv.map _).set i z;rw [List.map_set],by
  show (sv.set i (a,z)).map _=_
  rw [List.map_set,ha,←show sv.map (·.1.s)=(sv.map (·.1.s)).set i x.1.s from (List.ext_getElem? fun q=>by
   by_cases hq:i=q
   ·subst hq
    rw [List.getElem?_set_self (by rw [List.length_map];exact (List.getElem?_eq_some_iff.1 hx).1),List.getElem?_map,hx];rfl
   ·rw [List.getElem?_set_ne hq])],rfl,rfl⟩
theorem setP_snd (ap:List ((Nat×Nat)×List Bool)) (i j:Nat) (v:Bool):(setP ap i j v).map (·.2)=setR (ap.map (·.2)) i j v:=by
 unfold setP setR
 rw [List.map_set]
 congr 1
 show (ap.getD i default).2.set j v=_
 congr 1
 rw [List.getD_eq_getElem?_getD,List.getD_eq_getElem?_getD,List.getElem?_map]
 cases ap[i]?<;>rfl
theorem setP_fst (ap:List ((Nat×Nat)×List Bool)) (i j:Nat) (v:Bool):(setP ap i j v).map (·.1)=ap.map (·.1):=by
 unfold setP
 rw [List.map_set]
 apply List.ext_getElem?
 intro q
 by_cases hq:i=q
 ·subst hq
  by_cases hl:i<ap.length
  ·rw [List.getElem?_set_self (by rw [List.length_map];exact hl),List.getElem?_map,List.getD_eq_getElem?_getD,List.getElem?_eq_getElem hl];rfl
  ·rw [List.getElem?_eq_none (by rw [List.length_set,List.length_map];omega),List.getElem?_eq_none (by rw [List.length_map];omega)]
 ·rw [List.getElem?_set_ne hq]
theorem apP_eq (ap:List ((Nat×Nat)×List Bool)) (i j:Nat):apP ap i j=apR (ap.map (·.2)) i j:=by
 unfold apP apR
 congr 1
 rw [List.getD_eq_getElem?_getD,List.getD_eq_getElem?_getD,List.getElem?_map]
 cases ap[i]?<;>rfl
theorem NQ.con {sv:List (SA×SS)} {ap:List ((Nat×Nat)×List Bool)} {bank:List Py} (k:Option Addr×Nat) (i j:Nat) (v:Bool):NQ sv ap ⟨sv.map (·.2),conR (ap.map (·.2)) i j v,bank⟩ (k,sv,conP ap i j v):=
 ⟨rfl,rfl,by show (conP ap i j v).map _=_;unfold conP conR;rw [setP_snd,setP_snd],by show (conP ap i j v).map _=_;unfold conP;rw [setP_fst,setP_fst]⟩
theorem nth_has {n:Nat} {k:Int} (h:hasB n k=true): ∃i:Nat,k=i∧i<n:=by
 simp [hasB] at h
 exact ⟨k.toNat,by omega,by omega⟩
attribute [local irreducible] addR learnL evErr chR conP conR apR apP
theorem do_w {f:Fl} {p:Pr} (M:NM) {bank:List Py} {sv:List (SA×SS)} {ap:List ((Nat×Nat)×List Bool)} (x:Stp) (T:Int) {w0 w:World} {L:List E.Item} (hL:marks L=[]) (hw:Mem w0 (netI f p M bank sv ap L) w)
  (hFP: ∀w,Mem w0 L w→FlAt w f (faM M)∧PrAt w p M.p) (hss:M.ss=sv.map (·.1.s)) (hbs:M.bs=ap.map (·.1)) (hap:ap.length=sv.length) (h8:sv.length≤8) (hr: ∀y∈ap,y.2.length=ap.length) (hok:flErr f=0) (hdv:1≤f.devices∧f.devices≤256)
  (hk: ∀y∈sv,SK f T y.2) (hbk:bank.length≤256) (hT:0≤T∧T≤900000) (hpl: -9223372036854775808≤x.ev.place∧x.ev.place≤9223372036854775807):
  Calls Tryz.prog 18 #[.pointer (some ⟨M.nb,0,none⟩), .agg x.cells.toArray] w fun q w'=> ∃y:{y:NB//NQ sv ap (doN f p (stN sv ap bank) x).1 y},q= .returned (.tuple #[.int .i64 (doN f p (stN sv ap bank) x).2.1, .int .i64 (doN f p (stN sv ap bank) x).2.2])∧
   Mem w0 (netI f p {M with kA:=y.1.1.1,kc:=y.1.1.2} (doN f p (stN sv ap bank) x).1.bank y.1.2.1 y.1.2.2 L) w':=by
 obtain ⟨nb,md,mt,mp,sA,sc,ss,bA,bc,bs,kA,kc⟩:=M
 simp only at hss hbs hFP⊢
 have hsl:ss.length=sv.length:=by rw [hss,List.length_map]
 have hln:(stN sv ap bank).srv.length=ss.length:=by rw [hsl];exact List.length_map ..
 obtain ⟨kind,xa,xb,ev⟩:=x
 simp only at hpl
 refine H_enterM hw hL Tryz.func18 rfl Tryz.ntmps18 rfl ?_
 iterate 2 refine G ?_
 refine X_box (v:= .agg _) rfl rfl fun b3=>?_
 iterate 9 refine G ?_
 refine xV (e_eqNilP Tryz.underlying33 (q0 rfl)) rfl rfl ?_
 iterate 3 refine G ?_
 refine H_cond rfl ?_ ?_<;>intro hnil
 ·cases hnil
 ·iterate 13 refine G ?_
  refine H_cond rfl ?_ ?_<;>intro h1
  ·have h1':kind<1∨6<kind:=by simpa using h1
   have hd:doN f p (stN sv ap bank) ⟨kind,xa,xb,ev⟩=(stN sv ap bank,0,14):=by unfold doN;rw [if_pos h1']
   rw [hd]
   iterate 9 refine G ?_
   exact ret2 (v:= .int _ _) (x:= .int _ _) rfl rfl rfl hL fun w' hw=>⟨⟨((kA,kc),sv,ap),NQ.same _⟩,rfl,hw.tail⟩
  ·have h1': ¬(kind<1∨6<kind):=by simpa using h1
   iterate 5 refine G ?_
   refine xC (en Tryz.call40 (ha2 (q0 rfl) (q0 rfl))) (fun _ w hw=>nhas_w (f:=f) (pr:=p) (M:=⟨nb,md,mt,mp,sA,sc,ss,bA,bc,bs,kA,kc⟩) (m:=bank.length) xa w (hw.item (k:=1) rfl)) rfl rfl ?_
   iterate 4 refine G ?_
   refine H_cond rfl ?_ ?_<;>intro h2
   ·have h2':hasB ss.length xa=false:=by simpa using h2
    have hd:doN f p (stN sv ap bank) ⟨kind,xa,xb,ev⟩=(stN sv ap bank,0,7):=by unfold doN;rw [if_neg h1',hln,if_pos h2']
    rw [hd]
    iterate 9 refine G ?_
    exact ret2 (v:= .int _ _) (x:= .int _ _) rfl rfl rfl hL fun w' hw=>⟨⟨((kA,kc),sv,ap),NQ.same _⟩,rfl,hw.tail⟩
   ·have h2': ¬hasB ss.length xa=false:=by simpa using h2
    obtain ⟨i,rfl,hi⟩:=nth_has (by simpa using h2')
    have hd0:doN f p (stN sv ap bank) ⟨kind,i,xb,ev⟩=doK f p (stN sv ap bank) ⟨kind,i,xb,ev⟩ i:=by unfold doN;rw [if_neg h1',hln,if_neg h2'];rfl
    rw [hd0]
    obtain ⟨⟨a,z⟩,hx⟩: ∃y,sv[i]?=some y:=⟨_,List.getElem?_eq_getElem (by omega)⟩
    have hgz:(stN sv ap bank).srv.getD i default=z:=by
     show (sv.map _).getD i default=z
     rw [List.getD_eq_getElem?_getD,List.getElem?_map,hx];rfl
    have hsi:ss[i]?=some a.s:=by rw [hss,List.getElem?_map,hx];rfl
    have hkz:SK f T z:=hk _ (List.mem_of_getElem? hx)
    have hop: ∀{S X:List E.Item} {w:World},Mem w0 (bag (sv.flatMap (svF f.devices))::X) w→Mem w0 (svF f.devices (a,z)++(bag ((sv.eraseIdx i).flatMap (svF f.devices))::X)) w:=fun h=>h.apart hx
    have hcl: ∀{y:SA×SS} {X:List E.Item} {w:World},Mem w0 (svF f.devices y++(bag ((sv.eraseIdx i).flatMap (svF f.devices))::X)) w→Mem w0 (bag ((sv.set i y).flatMap (svF f.devices))::X) w:=fun h=>h.joined (by omega)
    obtain ⟨sv1,ar,am,ad,ae,aA,ac⟩:=a
    obtain ⟨ex,dx,lx⟩:=z
    iterate 17 refine G ?_
    refine H_cond rfl ?_ ?_<;>intro hk1
    ·have hk1':kind=1:=by simpa using hk1
     have hd1:doK f p (stN sv ap bank) ⟨kind,i,xb,ev⟩ i=evN f (stN sv ap bank) i ⟨ex,dx,lx⟩ ev:=by unfold doK;rw [if_pos hk1',hgz]
     rw [hd1]
     iterate 2 refine G ?_
     refine RA rfl (by decide+kernel) ?_
     refine aW 0 ?_
     refine aW 1 ?_
     refine aW 2 ?_
     refine aV 3 (by decide+kernel) rfl (eP Tryz.isAgg24 Tryz.sizeOf24 (q0 rfl)) rfl ?_
     refine aW 4 ?_
     refine aV 5 (by decide+kernel) rfl (eP Tryz.isAgg58 Tryz.sizeOf58 (q0 rfl)) rfl ?_
     refine aC 6 (by decide+kernel) rfl (en Tryz.call25 (ha2 (q0 rfl) (q0 rfl))) (fun _ w hw=>check_w f ⟨md.A,md.n,md.c,mt.A,mt.n,mt.c⟩ ev w (hFP w (hw.tail.tail.tail.tail.tail.tail.tail)).1 hpl) rfl ?_
     refine aW 7 ?_
     refine aZ (by decide+kernel) (sub_drop 0) ?_
     iterate 7 refine G ?_
     refine H_cond rfl ?_ ?_<;>intro he
     ·have he':evErr f ev≠0:=by simpa using he
      have hd:evN f (stN sv ap bank) i ⟨ex,dx,lx⟩ ev=(stN sv ap bank,0,evErr f ev):=by unfold evN;rw [if_pos he']
      rw [hd]
      iterate 11 refine G ?_
      exact ret2 (v:= .int _ _) (x:= .int _ _) rfl rfl rfl hL fun w' hw=>⟨⟨((kA,kc),sv,ap),NQ.same _⟩,rfl,hw.tail⟩
     ·have he': ¬evErr f ev≠0:=by simpa using he
      have hd:evN f (stN sv ap bank) i ⟨ex,dx,lx⟩ ev=(putS (stN sv ap bank) i ⟨(addR f.devices ex ev).1,dx,lx⟩,if (addR f.devices ex ev).2.2≠0 then 0 else if (addR f.devices ex ev).2.1=true then 1 else 0,(addR f.devices ex ev).2.2):=by unfold evN;rw [if_neg he']
      rw [hd]
      iterate 3 refine G ?_
      refine H_know (fun w hw=>rowT_at (j:=2) hw rfl (by simp only;omega)) fun ⟨sb,hsb⟩=>?_
      subst hsb
      refine H_mem (L':=rpL ar am f.devices ex++(box b3 60 (Stp.cells ⟨kind,i,xb,ev⟩)::svB ⟨sv1,ar,am,ad,ae,aA,ac⟩ lx::(deskL ad ae aA ac dx++(bag ((sv.eraseIdx i).flatMap (svF f.devices))::(netH f p ⟨nb,md,mt,mp,some ⟨sb,0,none⟩,sc,ss,bA,bc,bs,kA,kc⟩ bank++(bag (ap.flatMap apF)::L)))))) (fun w hw=>(hop (S:=[]) (hw.pickN 7 [5,0,1,2,3,4,6] (by decide) (by decide))).pickN 12 [1,2,7,0,3,4,5,6,8,9,10,11] (by decide) (by decide)) rfl ?_
      refine RAd 2 rfl (by decide+kernel) ?_
      refine aW 0 ?_
      refine aW 1 ?_
      refine aW 2 ?_
      refine aW 3 ?_
      refine aW 4 ?_
      refine aW 5 ?_
      refine aV 6 (by decide+kernel) rfl (e_idx i Tryz.underlying94 Tryz.sizeOf98 (q0 rfl) (q0 rfl) (fun _=>⟨rfl,by simp only;omega⟩)) rfl ?_
      refine aV 7 (by decide+kernel) rfl (eL Tryz.isAgg98 (q0 rfl) (rr0 7 rfl hsi rfl)) rfl ?_
      refine aW 8 ?_
      refine aW 9 ?_
      refine aW 10 ?_
      refine aW 11 ?_
      refine aV 12 (by decide+kernel) rfl (eP Tryz.isAgg58 Tryz.sizeOf58 (q0 rfl)) rfl ?_
      refine r1 13 2 ?_
      refine aL rfl (f_callM (en Tryz.call26 (ha2 (q0 rfl) (q0 rfl))) (fun w hw=>add_w ev (by exact hL) hw) rfl (fun _=>rfl) fun u=>?_)
      refine aW 14 ?_
      refine aW 15 ?_
      refine aW 16 ?_
      refine aW 17 ?_
      refine aW 18 ?_
      refine aZ (by decide+kernel) (sub_drop 2) ?_
      iterate 8 refine G ?_
      have hfin: ∀{w':World},Mem w0 (rpL ar am f.devices (addR f.devices ex ev).1++(box b3 60 (Stp.cells ⟨kind,i,xb,ev⟩)::svB ⟨sv1,ar,am,ad,ae,aA,ac⟩ lx::(deskL ad ae aA ac dx++(bag ((sv.eraseIdx i).flatMap (svF f.devices))::(netH f p ⟨nb,md,mt,mp,some ⟨sb,0,none⟩,sc,ss,bA,bc,bs,kA,kc⟩ bank++(bag (ap.flatMap apF)::L)))))) w'→Mem w0 (netI f p ⟨nb,md,mt,mp,some ⟨sb,0,none⟩,sc,ss,bA,bc,bs,kA,kc⟩ bank (sv.set i (⟨sv1,ar,am,ad,ae,aA,ac⟩,⟨(addR f.devices ex ev).1,dx,lx⟩)) ap L) w':=fun hw=>(hcl (y:=(⟨sv1,ar,am,ad,ae,aA,ac⟩,⟨(addR f.devices ex ev).1,dx,lx⟩)) (hw.pickN 13 [3,0,1,4,5,6,7,8,9,10,11,12] (by decide) (by decide))).pickN 6 [1,2,3,4,0,5] (by decide) (by decide)
      refine H_cond rfl ?_ ?_<;>intro h3
      ·have h3':(addR f.devices ex ev).2.2≠0:=by simpa using h3
       rw [if_pos h3']
       iterate 11 refine G ?_
       exact ret2 (v:= .int _ _) (x:= .int _ _) rfl rfl rfl hL fun w' hw=>⟨⟨((kA,kc),sv.set i (_,_),ap),NQ.put _ hx _ rfl _⟩,rfl,hfin hw⟩
      ·have h3': ¬(addR f.devices ex ev).2.2≠0:=by simpa using h3
       have h30:(addR f.devices ex ev).2.2=0:=by simpa using h3'
       rw [if_neg h3']
       iterate 5 refine G ?_
       refine xC (en Tryz.call43 (ha1 (q0 rfl))) (fun _ w _=>one_w _ w) rfl rfl ?_
       iterate 7 refine G ?_
       exact ret2 (v:= .int _ _) (x:= .int _ _) rfl rfl rfl hL fun w' hw=>⟨⟨((kA,kc),sv.set i (_,_),ap),NQ.put _ hx _ rfl _⟩,by rw [h30],hfin hw⟩
    ·have hk1': ¬kind=1:=by simpa using hk1
     iterate 6 refine G ?_
     refine H_cond rfl ?_ ?_<;>intro hk5
     ·have hk5':kind=5:=by simpa using hk5
      have hd1:doK f p (stN sv ap bank) ⟨kind,i,xb,ev⟩ i=chN f p (stN sv ap bank) i ⟨ex,dx,lx⟩:=by unfold doK;rw [if_neg hk1',if_pos hk5',hgz]
      rw [hd1]
      unfold chN
      rw [hln]
      refine H_mem (L':=netH f p ⟨nb,md,mt,mp,sA,sc,ss,bA,bc,bs,kA,kc⟩ bank++(svL f.devices ⟨sv1,ar,am,ad,ae,aA,ac⟩ ⟨ex,dx,lx⟩++(box b3 60 (Stp.cells ⟨kind,i,xb,ev⟩)::bag ((sv.eraseIdx i).flatMap (svF f.devices))::bag (ap.flatMap apF)::L))) (fun w hw=>(hop (S:=[]) (hw.pickN 7 [5,0,1,2,3,4,6] (by decide) (by decide))).pickN 13 [8,9,10,11,0,1,2,3,4,5,7,6,12] (by decide) (by decide)) rfl ?_
      iterate 5 refine G ?_
      refine X_eff (f_callM (en Tryz.call44 (ha2 (q0 rfl) (q0 rfl))) (fun w hw=>ncharge_w (f:=f) (p:=p) ⟨nb,md,mt,mp,sA,sc,ss,bA,bc,bs,kA,kc⟩ (bank:=bank) ⟨sv1,ar,am,ad,ae,aA,ac⟩ (x:=⟨ex,dx,lx⟩) i T (by exact hL) hw (fun w hw=>hFP w hw.tail.tail.tail) hsi (by simp only;omega) hok hdv hkz.ev hkz.pl hkz.n hkz.sh hbk hkz.d hT hkz.t hkz.l) rfl (fun _=>rfl) fun y=>?_)
      iterate 9 refine G ?_
      obtain ⟨⟨k1,k2⟩,a1,a2⟩:=y
      exact ret2 (v:= .int _ _) (x:= .int _ _) rfl rfl rfl hL fun w' hw=>⟨⟨((k1,k2),sv.set i (⟨sv1,ar,am,ad,ae,a1,a2⟩,_),ap),NQ.put (ap:=ap) (bank:=(chR f p ss.length i bank ⟨ex,dx,lx⟩).1) (k1,k2) hx ⟨sv1,ar,am,ad,ae,a1,a2⟩ rfl (chR f p ss.length i bank ⟨ex,dx,lx⟩).2.1⟩,rfl,(hcl (y:=(⟨sv1,ar,am,ad,ae,a1,a2⟩,_)) (hw.pickN 13 [4,5,6,7,8,9,11,0,1,2,3,12] (by decide) (by decide))).pickN 6 [1,2,3,4,0,5] (by decide) (by decide)⟩
     ·have hk5': ¬kind=5:=by simpa using hk5
      iterate 6 refine G ?_
      refine H_cond rfl ?_ ?_<;>intro hk6
      ·have hk6':kind=6:=by simpa using hk6
       have hd1:doK f p (stN sv ap bank) ⟨kind,i,xb,ev⟩ i=if xb<0∨512<xb then (stN sv ap bank,0,1) else (putS (stN sv ap bank) i ⟨ex,dx,xb⟩,0,0):=by unfold doK;rw [if_neg hk1',if_neg hk5',if_pos hk6',hgz]
       rw [hd1]
       iterate 13 refine G ?_
       refine H_cond rfl ?_ ?_<;>intro h3
       ·have h3':xb<0∨512<xb:=by simpa using h3
        rw [if_pos h3']
        iterate 10 refine G ?_
        exact ret2 (v:= .int _ _) (x:= .int _ _) rfl rfl rfl hL fun w' hw=>⟨⟨((kA,kc),sv,ap),NQ.same _⟩,rfl,hw.tail⟩
       ·have h3': ¬(xb<0∨512<xb):=by simpa using h3
        rw [if_neg h3']
        iterate 3 refine G ?_
        refine H_know (fun w hw=>rowT_at (j:=2) hw rfl (by simp only;omega)) fun ⟨sb,hsb⟩=>?_
        subst hsb
        refine H_mem (L':=svL f.devices ⟨sv1,ar,am,ad,ae,aA,ac⟩ ⟨ex,dx,lx⟩++(box b3 60 (Stp.cells ⟨kind,i,xb,ev⟩)::bag ((sv.eraseIdx i).flatMap (svF f.devices))::(netH f p ⟨nb,md,mt,mp,some ⟨sb,0,none⟩,sc,ss,bA,bc,bs,kA,kc⟩ bank++(bag (ap.flatMap apF)::L)))) (fun w hw=>(hop (S:=[]) (hw.pickN 7 [5,0,1,2,3,4,6] (by decide) (by decide))).pickN 13 [0,1,2,3,4,5,7,6,8,9,10,11,12] (by decide) (by decide)) rfl ?_
        refine RAd 1 rfl (by decide+kernel) ?_
        refine aW 0 ?_
        refine aW 1 ?_
        refine aW 2 ?_
        refine aW 3 ?_
        refine aW 4 ?_
        refine aW 5 ?_
        refine aV 6 (by decide+kernel) rfl (e_idx i Tryz.underlying94 Tryz.sizeOf98 (q0 rfl) (q0 rfl) (fun _=>⟨rfl,by simp only;omega⟩)) rfl ?_
        refine aV 7 (by decide+kernel) rfl (eL Tryz.isAgg98 (q0 rfl) (rr0 8 rfl hsi rfl)) rfl ?_
        refine aW 8 ?_
        refine aW 9 ?_
        refine aW 10 ?_
        refine aW 11 ?_
        refine r1 12 1 ?_
        refine aL rfl (f_store 0 (v:= .int .i64 xb) rfl rfl Tryz.sizeOf3 rfl rfl rfl rfl ?_)
        refine aZ (by decide+kernel) (sub_drop 1) ?_
        iterate 10 refine G ?_
        exact ret2 (v:= .int _ _) (x:= .int _ _) rfl rfl rfl hL fun w' hw=>⟨⟨((kA,kc),sv.set i (⟨sv1,ar,am,ad,ae,aA,ac⟩,⟨ex,dx,xb⟩),ap),NQ.put (kA,kc) hx ⟨sv1,ar,am,ad,ae,aA,ac⟩ rfl _⟩,rfl,(hcl (y:=(⟨sv1,ar,am,ad,ae,aA,ac⟩,⟨ex,dx,xb⟩)) (hw.pickN 13 [0,1,2,3,4,5,7,8,9,10,11,12] (by decide) (by decide))).pickN 6 [1,2,3,4,0,5] (by decide) (by decide)⟩
      ·have hk6': ¬kind=6:=by simpa using hk6
       iterate 8 refine G ?_
       refine xC (en Tryz.call45 (ha2 (q0 rfl) (q0 rfl))) (fun _ w hw=>two_w (f:=f) (pr:=p) (M:=⟨nb,md,mt,mp,sA,sc,ss,bA,bc,bs,kA,kc⟩) (m:=bank.length) ⟨kind,i,xb,ev⟩ w (hw.item (k:=1) rfl)) rfl rfl ?_
       iterate 9 refine G ?_
       refine H_cond rfl ?_ ?_<;>intro h3
       ·have h3':twoB ss.length ⟨kind,i,xb,ev⟩≠0:=by simpa using h3
        have hd1:doK f p (stN sv ap bank) ⟨kind,i,xb,ev⟩ i=(stN sv ap bank,0,twoB ss.length ⟨kind,i,xb,ev⟩):=by unfold doK;rw [if_neg hk1',if_neg hk5',if_neg hk6',hln,if_pos h3']
        rw [hd1]
        iterate 9 refine G ?_
        exact ret2 (v:= .int _ _) (x:= .int _ _) rfl rfl rfl hL fun w' hw=>⟨⟨((kA,kc),sv,ap),NQ.same _⟩,rfl,hw.tail⟩
       ·have h3': ¬twoB ss.length ⟨kind,i,xb,ev⟩≠0:=by simpa using h3
        obtain ⟨j,rfl,hj,hij⟩: ∃j:Nat,xb=j∧j<ss.length∧i≠j:=by
         have h30:twoB ss.length ⟨kind,i,xb,ev⟩=0:=by simpa using h3'
         unfold twoB at h30
         split at h30
         ·cases h30
         ·rename_i hb
          split at h30
          ·cases h30
          ·rename_i hn
           obtain ⟨j,hj1,hj2⟩:=nth_has (n:=ss.length) (k:=xb) (by simpa using hb)
           subst hj1
           exact ⟨j,rfl,hj2,fun h=>hn (by subst h;rfl)⟩
        have hd1:doK f p (stN sv ap bank) ⟨kind,i,j,ev⟩ i=doN2 f (stN sv ap bank) kind i j:=by unfold doK;rw [if_neg hk1',if_neg hk5',if_neg hk6',hln,if_neg h3'];rfl
        rw [hd1]
        iterate 16 refine G ?_
        refine H_cond rfl ?_ ?_<;>intro hk2
        ·have hk2':kind=2:=by simpa using hk2
         have hd2:doN2 f (stN sv ap bank) kind i j=(⟨sv.map (·.2),conR (ap.map (·.2)) i j true,bank⟩,if (apP ap i j !=true)=true then 1 else 0,0):=by unfold doN2;rw [if_pos hk2',apP_eq]
         rw [hd2]
         refine H_mem (L':=netH f p ⟨nb,md,mt,mp,sA,sc,ss,bA,bc,bs,kA,kc⟩ bank++(bag (ap.flatMap apF)::box b3 60 (Stp.cells ⟨kind,i,j,ev⟩)::bag (sv.flatMap (svF f.devices))::L)) (fun w hw=>hw.pickN 7 [1,2,3,4,6,0,5] (by decide) (by decide)) rfl ?_
         iterate 7 refine G ?_
         refine X_eff (f_callM (en Tryz.call46 (ha4 (q0 rfl) (q0 rfl) (q0 rfl) (q0 rfl))) (fun w hw=>connect_w (f:=f) (p:=p) (M:=⟨nb,md,mt,mp,sA,sc,ss,bA,bc,bs,kA,kc⟩) (bank:=bank) (ap:=ap) i j true (by exact hL) hw hbs (by simp only;omega) (by omega) hr (by omega) (by omega) hij) rfl (fun _=>rfl) fun u=>?_)
         iterate 7 refine G ?_
         exact ret2 (v:= .int _ _) (x:= .int _ _) rfl rfl rfl hL fun w' hw=>⟨⟨((kA,kc),sv,conP ap i j true),NQ.con _ i j true⟩,rfl,hw.pickN 7 [0,1,2,3,6,4] (by decide) (by decide)⟩
        ·have hk2': ¬kind=2:=by simpa using hk2
         iterate 6 refine G ?_
         refine H_cond rfl ?_ ?_<;>intro hk3
         ·have hk3':kind=3:=by simpa using hk3
          have hd2:doN2 f (stN sv ap bank) kind i j=(⟨sv.map (·.2),conR (ap.map (·.2)) i j false,bank⟩,if (apP ap i j !=false)=true then 1 else 0,0):=by unfold doN2;rw [if_neg hk2',if_pos hk3',apP_eq]
          rw [hd2]
          refine H_mem (L':=netH f p ⟨nb,md,mt,mp,sA,sc,ss,bA,bc,bs,kA,kc⟩ bank++(bag (ap.flatMap apF)::box b3 60 (Stp.cells ⟨kind,i,j,ev⟩)::bag (sv.flatMap (svF f.devices))::L)) (fun w hw=>hw.pickN 7 [1,2,3,4,6,0,5] (by decide) (by decide)) rfl ?_
          iterate 7 refine G ?_
          refine X_eff (f_callM (en Tryz.call46 (ha4 (q0 rfl) (q0 rfl) (q0 rfl) (q0 rfl))) (fun w hw=>connect_w (f:=f) (p:=p) (M:=⟨nb,md,mt,mp,sA,sc,ss,bA,bc,bs,kA,kc⟩) (bank:=bank) (ap:=ap) i j false (by exact hL) hw hbs (by simp only;omega) (by omega) hr (by omega) (by omega) hij) rfl (fun _=>rfl) fun u=>?_)
          iterate 7 refine G ?_
          exact ret2 (v:= .int _ _) (x:= .int _ _) rfl rfl rfl hL fun w' hw=>⟨⟨((kA,kc),sv,conP ap i j false),NQ.con _ i j false⟩,rfl,hw.pickN 7 [0,1,2,3,6,4] (by decide) (by decide)⟩
         ·have hk3': ¬kind=3:=by simpa using hk3
          have hai:ap[i]?=some (ap.getD i default):=at_get (by omega)
          have hbi:bs[i]?=some (ap.getD i default).1:=by rw [hbs,List.getElem?_map,hai];rfl
          have hal:(ap.getD i default).2.length=ap.length:=hr _ (List.mem_of_getElem? hai)
          have hblen:bs.length=ap.length:=by rw [hbs,List.length_map]
          have haj:=at_get (l:=(ap.getD i default).2) (i:=j) (by omega)
          iterate 5 refine G ?_
          refine H_know (fun w hw=>rowT_at (j:=3) hw rfl (by simp only;omega)) fun ⟨sb,hsb⟩=>?_
          subst hsb
          refine H_mem (L':=apF (ap.getD i default)++(bag ((ap.eraseIdx i).flatMap apF)::box b3 60 (Stp.cells ⟨kind,i,j,ev⟩)::(netH f p ⟨nb,md,mt,mp,sA,sc,ss,some ⟨sb,0,none⟩,bc,bs,kA,kc⟩ bank++(bag (sv.flatMap (svF f.devices))::L)))) (fun w hw=>(hw.pickN 7 [6,0,1,2,3,4,5] (by decide) (by decide)).apart hai) rfl ?_
          refine R1 rfl (by decide+kernel) ?_
          iterate 6 refine G ?_
          refine xV (e_idx i Tryz.underlying95 Tryz.sizeOf103 (q0 rfl) (q0 rfl) (fun _=>⟨rfl,by simp only;omega⟩)) rfl rfl ?_
          refine xV (eL Tryz.isAgg103 (q0 rfl) (rr0 5 rfl hbi rfl)) rfl rfl ?_
          iterate 2 refine G ?_
          refine xV (e_idx j Tryz.underlying103 Tryz.sizeOf4 (q0 rfl) (q0 rfl) (fun _=>⟨rfl,by simp only;omega⟩)) rfl rfl ?_
          refine xV (eL Tryz.isAgg4 (q0 rfl) (rr0 0 rfl haj rfl)) rfl rfl ?_
          iterate 2 refine G ?_
          have hapx:(ap.getD i default).2.getD j default=apR (ap.map (·.2)) i j:=by rw [←apP_eq];unfold apP;rfl
          have hback: ∀{w:World},Mem w0 (apF (ap.getD i default)++(bag ((ap.eraseIdx i).flatMap apF)::box b3 60 (Stp.cells ⟨kind,i,j,ev⟩)::(netH f p ⟨nb,md,mt,mp,sA,sc,ss,some ⟨sb,0,none⟩,bc,bs,kA,kc⟩ bank++(bag (sv.flatMap (svF f.devices))::L)))) w→Mem w0 (netI f p ⟨nb,md,mt,mp,sA,sc,ss,some ⟨sb,0,none⟩,bc,bs,kA,kc⟩ bank sv ap (box b3 60 (Stp.cells ⟨kind,i,j,ev⟩)::L)) w:=fun hw=>by
           have h:=hw.joined (by omega)
           rw [show ap.set i (ap.getD i default)=ap from List.ext_getElem? fun q=>by
            by_cases hq:i=q
            ·subst hq
             rw [List.getElem?_set_self (by omega),hai]
            ·rw [List.getElem?_set_ne hq]] at h
           exact h.pickN 7 [2,3,4,5,6,0,1] (by decide) (by decide)
          refine H_cond rfl ?_ ?_<;>intro h4
          ·have h4':apR (ap.map (·.2)) i j=true:=by rw [←hapx];simpa using h4
           have hd2:doN2 f (stN sv ap bank) kind i j=(stN sv ap bank,0,15):=by unfold doN2;rw [if_neg hk2',if_neg hk3',if_pos h4']
           rw [hd2]
           iterate 8 refine G ?_
           exact ret2 (v:= .int _ _) (x:= .int _ _) rfl rfl rfl hL fun w' hw=>⟨⟨((kA,kc),sv,ap),NQ.same _⟩,rfl,(hback hw).pickN 7 [0,1,2,3,4,5] (by decide) (by decide)⟩
          ·have h4': ¬apR (ap.map (·.2)) i j=true:=by rw [←hapx];simpa using h4
           obtain ⟨⟨a2,z2⟩,hy⟩: ∃y,sv[j]?=some y:=⟨_,List.getElem?_eq_getElem (by omega)⟩
           have hgy:(stN sv ap bank).srv.getD j default=z2:=by
            show (sv.map _).getD j default=z2
            rw [List.getD_eq_getElem?_getD,List.getElem?_map,hy];rfl
           have hkz2:SK f T z2:=hk _ (List.mem_of_getElem? hy)
           have hd2:doN2 f (stN sv ap bank) kind i j=(putS (stN sv ap bank) i ⟨(learnL f.devices ex (evsR z2.evs)).1,dx,lx⟩,(learnL f.devices ex (evsR z2.evs)).2,0):=by unfold doN2;rw [if_neg hk2',if_neg hk3',if_neg h4',hgz,hgy]
           rw [hd2]
           refine H_mem (L':=netI f p ⟨nb,md,mt,mp,sA,sc,ss,some ⟨sb,0,none⟩,bc,bs,kA,kc⟩ bank sv ap (box b3 60 (Stp.cells ⟨kind,i,j,ev⟩)::L)) (fun w hw=>hback hw) rfl ?_
           iterate 9 refine G ?_
           refine X_eff (f_callM (en Tryz.call47 (ha3 (q0 rfl) (q0 rfl) (q0 rfl))) (fun w hw=>learn_w (f:=f) (p:=p) (M:=⟨nb,md,mt,mp,sA,sc,ss,some ⟨sb,0,none⟩,bc,bs,kA,kc⟩) (bank:=bank) (sv:=sv) (ap:=ap) i j (by exact hL) hw hss h8 hx hy hij hkz2.ev (by have:=hkz2.n;show z2.evs.length≤10000;omega)) rfl (fun _=>rfl) fun u=>?_)
           iterate 5 refine G ?_
           exact ret2 (v:= .int _ _) (x:= .int _ _) rfl rfl rfl hL fun w' hw=>⟨⟨((kA,kc),sv.set i (⟨sv1,ar,am,ad,ae,aA,ac⟩,_),ap),NQ.put (kA,kc) hx ⟨sv1,ar,am,ad,ae,aA,ac⟩ rfl _⟩,rfl,hw.pickN 7 [0,1,2,3,4,5] (by decide) (by decide)⟩
end Go.Proofs.Net
namespace Go.Proofs.Net
open Go.Proofs.Cus Go.Proofs.Rid Go.Proofs.Far
theorem getD_pl {M:Int} (h0:0≤M) {l:List Rd} (h: ∀r∈l,r.pl≤M) (k:Nat):(l.getD k default).pl≤M:=by
 rw [List.getD_eq_getElem?_getD]
 cases hk:l[k]? with
 |none=>exact h0
 |some r=>exact h r (List.mem_of_getElem? hk)
theorem set_pl {M:Int} {l:List Rd} (h: ∀r∈l,r.pl≤M) {k:Nat} {q:Rd} (hq:q.pl≤M): ∀r∈l.set k q,r.pl≤M:=fun r hr=>by
 rcases List.mem_or_eq_of_mem_set hr with hr|rfl
 ·exact h r hr
 ·exact hq
theorem resumeR_pl (p:Bool) (w:Spn) (r:Rd):(resumeR p w r).pl=r.pl:=by unfold resumeR;split<;>rfl
theorem leaveY_pl {M:Int} (h0:0≤M) {s:SY} (h: ∀r∈s.rides,r.pl≤M) (b:Nat) (at_:Sp) (ha:at_.place≤M) (w:Spn): ∀r∈(leaveY s b at_ w).rides,r.pl≤M:=by
 unfold leaveY
 split
 ·exact h
 ·exact set_pl (set_pl h (by rw [resumeR_pl];exact getD_pl h0 h _)) ha
theorem tellY_pl {M:Int} (h0:0≤M) {s:SY} {e:Ev} (h: ∀r∈s.rides,r.pl≤M) (he:e.place≤M): ∀r∈(tellY s e).rides,r.pl≤M:=by
 unfold tellY
 simp only
 split
 ·intro r hr
  unfold beginY at hr
  rcases List.mem_append.1 hr with hr|hr
  ·exact h r hr
  ·rw [List.mem_singleton.1 hr];exact h0
 split
 ·unfold changeY
  split
  ·exact h
  ·exact set_pl h (getD_pl h0 h _)
 split
 ·split
  ·exact set_pl h (getD_pl h0 h _)
  ·exact h
 split
 ·split
  ·unfold resumeY;exact set_pl h (by rw [resumeR_pl];exact getD_pl h0 h _)
  ·exact h
 split
 ·exact leaveY_pl h0 h _ _ he _
 split
 ·exact leaveY_pl h0 h _ _ he _
 split
 ·exact leaveY_pl h0 h _ _ h0 _
 ·exact h
theorem tells_pl {M:Int} (h0:0≤M): ∀(l:List Ev) {s:SY},(∀r∈s.rides,r.pl≤M)→(∀e∈l,e.place≤M)→ ∀r∈(l.foldl tellY s).rides,r.pl≤M
 |[],_,h,_=>h
 |e::l,_,h,he=>by
  rw [List.foldl_cons]
  exact tells_pl h0 l (tellY_pl h0 h (he e (by simp))) fun x hx=>he x (by simp [hx])
theorem ev_pl {f:Fl} {e:Ev} (h:evErr f e=0):0≤e.place∧e.place≤100000:=by
 have hok:=(evErr_ok h).1
 have hd:f.docks.length≤32∧f.trucks.length≤8:=by
  unfold flErr at hok
  split at hok
  ·cases hok
  split at hok
  ·cases hok
  ·omega
 unfold evErr at h
 split at h
 ·rename_i h1;exact absurd h h1
 split at h
 ·cases h
 split at h
 ·cases h
 split at h
 ·cases h
 split at h
 ·cases h
 rename_i _ _ _ _ hp
 have hp:placed f e=true:=by simpa using hp
 unfold placed at hp
 split at hp
 ·simp at hp
  have:=Int.tdiv_eq_ediv_of_nonneg (b:=32) hp.1.1
  omega
 split at hp
 ·simp [within] at hp;omega
 split at hp
 ·simp [within] at hp;omega
 ·simp at hp;omega
theorem all_short {f:Fl} (hok:flErr f=0) {xs:List Ev} (hn:xs.length≤100000): ∀r∈allOf f xs,(r.legs.length≤100000∧r.pauses.length≤100000)∧r.pl≤9223372036854775807:=fun r hr=>by
 unfold allOf at hr
 rw [if_pos hok] at hr
 have hr:r∈(storyOf f xs).rides:=(byId_perm _).mem_iff.1 hr
 have h1:=(joint_of hok xs).wf.legs r hr
 have h2:=accOf_len f xs
 have h3:=tells_pl (M:=9223372036854775807) (by decide) (accOf f xs) (s:=beginSY (nbOf f)) (fun r hr=>by simp [beginSY] at hr) (fun e he=>by
  obtain ⟨hrp,_⟩:=replay_of hok xs (fun _=>())
  obtain ⟨k,hk⟩:=List.mem_iff_getElem?.1 he
  have:=ev_pl (hrp.at_ (g:=fun _=>()) hk).1
  omega) r hr
 exact ⟨by omega,h3⟩
structure SV (f:Fl) (E:List Ev) (T:Int) (x:SS):Prop where
 nd:x.evs.Nodup
 ev: ∀e∈x.evs,e∈E∧evErr f e=0
 d:x.desk.length≤256
 t: ∀e∈x.desk,0≤e.tries∧e.tries≤T
 l:x.lose≤1000000
structure NV (f:Fl) (E:List Ev) (T:Int) (s:NS):Prop where
 sv: ∀x∈s.srv,SV f E T x
 bk:s.bank.length≤256
 ap:s.apart.length=s.srv.length
 rw: ∀y∈s.apart,y.length=s.apart.length
 rd:(s.bank.map (·.ride)).Nodup
theorem SV.mono {f:Fl} {E:List Ev} {T T':Int} {x:SS} (h:SV f E T x) (hT:T≤T'):SV f E T' x:=⟨h.nd,h.ev,h.d,fun e he=>by have:=h.t e he;omega,h.l⟩
theorem NV.mono {f:Fl} {E:List Ev} {T T':Int} {s:NS} (h:NV f E T s) (hT:T≤T'):NV f E T' s:=⟨fun x hx=>(h.sv x hx).mono hT,h.bk,h.ap,h.rw,h.rd⟩
theorem ev_dev {f:Fl} {e:Ev} (h:evErr f e=0):0≤e.device∧1≤e.seq:=by
 unfold evErr at h
 split at h
 ·rename_i h1;exact absurd h h1
 ·split at h
  ·cases h
  ·rename_i h1
   simp [within] at h1
   omega
theorem SV.sk {f:Fl} (hok:flErr f=0) {E:List Ev} (hE40:E.length≤40) {T:Int} {x:SS} (h:SV f E T x):SK f T x:=by
 have hn:x.evs.length≤40:=Nat.le_trans (h.nd.length_le_of_subset fun e he=>(h.ev e he).1) hE40
 have hp:(evsR x.evs).Perm x.evs:=List.mergeSort_perm _ _
 have hpl:PlOk (evsR x.evs):=fun e he=>by have:=ev_pl (h.ev e (hp.mem_iff.1 he)).2;omega
 exact ⟨fun e he=>ev_dev (h.ev e he).2,hpl,hn,all_short hok (by rw [hp.length_eq];omega),h.d,h.t,h.l⟩
theorem addR_mem {n:Int} {l:List Ev} {e x:Ev} (h:x∈(addR n l e).1):x∈l∨x=e:=by
 unfold addR at h
 split at h
 ·exact .inl h
 split at h
 ·exact .inl h
 split at h
 ·split at h<;>exact .inl h
 split at h
 ·exact .inl h
 split at h
 ·exact .inl h
 ·simpa using h
theorem addR_nd {n:Int} {l:List Ev} {e:Ev} (h:l.Nodup):(addR n l e).1.Nodup:=by
 unfold addR
 split
 ·exact h
 split
 ·exact h
 split
 ·split<;>exact h
 rename_i hf
 split
 ·exact h
 split
 ·exact h
 ·refine List.nodup_append.2 ⟨h,by simp,fun a ha b hb hab=>?_⟩
  rw [List.mem_singleton.1 hb] at hab
  subst hab
  have:=List.find?_eq_none.1 hf a ha
  simp at this
theorem SV.add {f:Fl} {E:List Ev} {T:Int} {x:SS} (h:SV f E T x) {n:Int} {e:Ev} (he:e∈E∧evErr f e=0):SV f E T {x with evs:=(addR n x.evs e).1}:=
 ⟨addR_nd h.nd,fun y hy=>(addR_mem hy).elim (h.ev y) fun hy=>hy▸he,h.d,h.t,h.l⟩
theorem SV.learn {f:Fl} {E:List Ev} {T:Int} {n:Int}: ∀(l:List Ev) {x:SS},SV f E T x→(∀e∈l,e∈E∧evErr f e=0)→SV f E T {x with evs:=(learnL n x.evs l).1}
 |[],_,h,_=>h
 |e::l,x,h,he=>by
  have h2:=SV.learn (n:=n) l (h.add (n:=n) (he e (by simp))) fun y hy=>he y (by simp [hy])
  rw [learnL]
  exact h2
structure BG (b b':List Py):Prop where
 pre:b<+:b'
 nd:(b.map (·.ride)).Nodup→(b'.map (·.ride)).Nodup
 len:b.length≤256→b'.length≤256
theorem BG.refl (b:List Py):BG b b:=⟨List.prefix_rfl,id,id⟩
theorem BG.trans {a b c:List Py} (h:BG a b) (h2:BG b c):BG a c:=⟨h.pre.trans h2.pre,fun x=>h2.nd (h.nd x),fun x=>h2.len (h.len x)⟩
theorem BG.pay (b:List Py) (p:Py):BG b (payB b p):=by
 unfold payB
 split
 case isFalse=>exact BG.refl b
 case isTrue h0=>
  rw [payR_eq] at h0⊢
  split
  ·rename_i h;rw [if_pos h] at h0;cases h0
  ·rename_i h;rw [if_neg h] at h0
   split
   ·rename_i h1;rw [if_pos h1] at h0;cases h0
   ·rename_i h1;rw [if_neg h1] at h0
    split
    ·exact BG.refl b
    ·rename_i h2
     split
     ·rename_i h3;rw [if_neg h2,if_pos h3] at h0;cases h0
     ·rename_i h3
      refine ⟨List.prefix_append ..,fun hn=>?_,fun _=>by rw [List.length_append];simp;omega⟩
      rw [List.map_append]
      refine List.nodup_append.2 ⟨hn,by simp,fun a ha c hc hac=>?_⟩
      simp at hc
      subst hc
      obtain ⟨y,hy,hy2⟩:=List.mem_map.1 ha
      have g1:confP p y=false:=by
       cases hb:confP p y with
       |false=>rfl
       |true=>exact absurd (List.any_eq_true.2 ⟨y,hy,hb⟩) h1
      have g2:sameP p y=false:=by
       cases hb:sameP p y with
       |false=>rfl
       |true=>exact absurd (List.any_eq_true.2 ⟨y,hy,hb⟩) h2
      unfold confP at g1
      unfold sameP at g2
      simp at g1 g2
      exact g2 (g1 (by rw [hy2,hac]))
structure QV (T:Int) (q q':QS):Prop where
 b:BG q.1 q'.1
 d:q.2.1.length≤256→q'.2.1.length≤256
 t:(∀e∈q.2.1,0≤e.tries∧e.tries≤T)→ ∀e∈q'.2.1,0≤e.tries∧e.tries≤T+1
 l:q.2.2≤1000000→q'.2.2≤1000000
theorem try_QV (T:Int) (q:QS) (p:Py):QV T q (tryR q p):=by
 rw [try_bank]
 exact ⟨BG.pay ..,fun h=>by show (answR ..).1.length≤_;rw [answ_len];exact h,fun h=>answ_tries h,fun h=>by show (if 0<q.2.2 then q.2.2 -1 else q.2.2)≤_;have h:q.2.2≤1000000:=h;split<;>omega⟩
theorem tries_QV: ∀(k:Nat) (T:Int) (q:QS),BG q.1 (triesR k q).1∧(q.2.1.length≤256→(triesR k q).2.1.length≤256)∧((∀e∈q.2.1,0≤e.tries∧e.tries≤T)→ ∀e∈(triesR k q).2.1,0≤e.tries∧e.tries≤T+k)∧(q.2.2≤1000000→(triesR k q).2.2≤1000000)
 |0,T,q=>⟨BG.refl _,id,fun h e he=>by have:=h e he;omega,id⟩
 |k+1,T,q=>by
  unfold triesR
  split
  ·exact ⟨BG.refl _,id,fun h e he=>by have:=h e he;omega,id⟩
  ·rename_i i hi
   have h1:=try_QV T q (q.2.1.getD i default).pay
   obtain ⟨a1,a2,a3,a4⟩:=tries_QV k (T+1) (tryR q (q.2.1.getD i default).pay)
   exact ⟨h1.b.trans a1,fun h=>a2 (h1.d h),fun h e he=>by have:=a3 (h1.t h) e he;omega,fun h=>a4 (h1.l h)⟩
theorem asks_ok {T:Int} (hT:0≤T) (n:Nat) (i:Int): ∀(l:List Bil) {d:List En},d.length≤256→(∀e∈d,0≤e.tries∧e.tries≤T)→(asksD n i d l).length≤256∧ ∀e∈asksD n i d l,0≤e.tries∧e.tries≤T
 |[],_,h1,h2=>⟨h1,h2⟩
 |c::l,d,h1,h2=>by
  unfold asksD
  split
  ·exact asks_ok hT n i l (ask_len _ _ h1) (ask_tries hT h2)
  ·exact asks_ok hT n i l h1 h2
theorem chR_ok {f:Fl} {p:Pr} {E:List Ev} {T:Int} (hT:0≤T) (n:Nat) (i:Int) (b:List Py) {x:SS} (h:SV f E T x):BG b (chR f p n i b x).1∧SV f E (T+256) (chR f p n i b x).2.1:=by
 unfold chR
 split
 ·exact ⟨BG.refl b,h.mono (by omega)⟩
 ·unfold chD
  simp only
  obtain ⟨h1,h2⟩:=asks_ok hT n i (allR f p (finR f x.evs) []) h.d h.t
  generalize asksD n i x.desk (allR f p (finR f x.evs) [])=d at h1 h2
  have hl:(openR d).length≤256:=by unfold openR thoseR;rw [List.length_map];exact Nat.le_trans (List.length_filter_le _ _) h1
  obtain ⟨a1,a2,a3,a4⟩:=tries_QV (openR d).length T (b,d,x.lose)
  exact ⟨a1,⟨h.nd,h.ev,a2 h1,fun e he=>by have:=a3 h2 e he;omega,a4 h.l⟩⟩
theorem mem_set' {α:Type} {l:List α} {i:Nat} {y x:α} (h:x∈l.set i y):x∈l∨x=y:=List.mem_or_eq_of_mem_set h
theorem SV.zero {f:Fl} {E:List Ev} {T:Int}:SV f E T default:=⟨List.nodup_nil,fun e he=>(by cases he),Nat.zero_le _,fun e he=>(by cases he),by decide⟩
theorem NV.get {f:Fl} {E:List Ev} {T:Int} {s:NS} (h:NV f E T s) (i:Nat):SV f E T (s.srv.getD i default):=by
 rw [List.getD_eq_getElem?_getD]
 cases hk:s.srv[i]? with
 |none=>exact SV.zero
 |some r=>exact h.sv r (List.mem_of_getElem? hk)
theorem NV.put {f:Fl} {E:List Ev} {T:Int} {s:NS} (h:NV f E T s) (i:Nat) {x:SS} (hx:SV f E T x) {b:List Py} (hb:BG s.bank b):NV f E T ⟨s.srv.set i x,s.apart,b⟩:=
 ⟨fun y hy=>(mem_set' hy).elim (h.sv y) fun e=>e▸hx,hb.len h.bk,by rw [List.length_set];exact h.ap,h.rw,hb.nd h.rd⟩
theorem setR_ok {ap:List (List Bool)} (h: ∀y∈ap,y.length=ap.length) (i j:Nat) (v:Bool):(setR ap i j v).length=ap.length∧ ∀y∈setR ap i j v,y.length=ap.length:=by
 unfold setR
 refine ⟨List.length_set ..,fun y hy=>?_⟩
 by_cases hi:i<ap.length
 ·rcases mem_set' hy with hy|hy
  ·exact h y hy
  ·rw [hy,List.length_set,List.getD_eq_getElem?_getD,List.getElem?_eq_getElem hi]
   exact h _ (List.getElem_mem hi)
 ·rw [List.set_eq_of_length_le (by omega)] at hy
  exact h y hy
theorem NV.con {f:Fl} {E:List Ev} {T:Int} {s:NS} (h:NV f E T s) (i j:Nat) (v:Bool):NV f E T ⟨s.srv,conR s.apart i j v,s.bank⟩:=by
 obtain ⟨h1,h2⟩:=setR_ok h.rw i j v
 obtain ⟨h3,h4⟩:=setR_ok (ap:=setR s.apart i j v) (fun y hy=>by rw [h1];exact h2 y hy) j i v
 exact ⟨h.sv,h.bk,by show (conR ..).length=_;unfold conR;rw [h3,h1];exact h.ap,fun y hy=>by show _=(conR ..).length;unfold conR at hy⊢;rw [h3];exact h4 y hy,h.rd⟩
theorem do_ok {f:Fl} {p:Pr} {E:List Ev} {T:Int} (hT:0≤T) {s:NS} {x:Stp} (h:NV f E T s) (hx:x.kind=1→x.ev∈E):NV f E (T+256) (doN f p s x).1∧BG s.bank (doN f p s x).1.bank∧(doN f p s x).1.srv.length=s.srv.length:=by
 have h':NV f E (T+256) s:=h.mono (by omega)
 have hs:NV f E (T+256) s∧BG s.bank s.bank∧s.srv.length=s.srv.length:=⟨h',BG.refl _,rfl⟩
 have hput: ∀(i:Nat) {y:SS},SV f E T y→NV f E (T+256) (putS s i y)∧BG s.bank (putS s i y).bank∧(putS s i y).srv.length=s.srv.length:=fun i y hy=>⟨h'.put i (hy.mono (by omega)) (BG.refl _),BG.refl _,List.length_set ..⟩
 unfold doN
 split
 ·exact hs
 split
 ·exact hs
 unfold doK
 split
 ·rename_i hk
  unfold evN
  split
  ·exact hs
  ·rename_i he
   exact hput _ ((h.get _).add ⟨hx hk,by simpa using he⟩)
 split
 ·obtain ⟨h1,h2⟩:=chR_ok (p:=p) hT s.srv.length (x.a.toNat:Int) s.bank (h.get x.a.toNat)
  exact ⟨h'.put _ h2 h1,h1,List.length_set ..⟩
 split
 ·split
  ·exact hs
  ·rename_i hb
   exact hput _ ⟨(h.get _).nd,(h.get _).ev,(h.get _).d,(h.get _).t,by show x.b≤_;omega⟩
 split
 ·exact hs
 unfold doN2
 split
 ·exact ⟨h'.con ..,BG.refl _,rfl⟩
 split
 ·exact ⟨h'.con ..,BG.refl _,rfl⟩
 split
 ·exact hs
 ·exact hput _ (SV.learn _ (h.get _) fun e he=>(h.get _).ev e ((List.mergeSort_perm _ _).mem_iff.1 he))
def runN (f:Fl) (p:Pr) (s:NS) (l:List Stp):NS:=l.foldl (fun s x=>(doN f p s x).1) s
theorem run_snoc (f:Fl) (p:Pr) (s:NS) (l:List Stp) (x:Stp):runN f p s (l++[x])=(doN f p (runN f p s l) x).1:=by unfold runN;rw [List.foldl_append];rfl
theorem run_ok {f:Fl} {p:Pr} {E:List Ev}: ∀(l:List Stp) {T:Int} (_:0≤T) {s:NS},NV f E T s→(∀x∈l,x.kind=1→x.ev∈E)→NV f E (T+256*l.length) (runN f p s l)∧BG s.bank (runN f p s l).bank∧(runN f p s l).srv.length=s.srv.length
 |[],T,_,s,h,_=>⟨h.mono (by simp),BG.refl _,rfl⟩
 |x::l,T,hT,s,h,hx=>by
  obtain ⟨a1,a2,a3⟩:=do_ok (p:=p) hT h (hx x (by simp))
  obtain ⟨b1,b2,b3⟩:=run_ok l (by omega) a1 fun y hy=>hx y (by simp [hy])
  exact ⟨b1.mono (by simp;omega),a2.trans b2,b3.trans a3⟩
end Go.Proofs.Net
namespace Go.Proofs.Net
open Go Go.RowKit Go.Proofs.E Go.Proofs.Cus Go.Proofs.Rid Go.Proofs.Far Go.Proofs.Hom
abbrev netS (f:Fl) (p:Pr) (M:NM) (s:NS) (y:NB) (L:List E.Item):List E.Item:=netI f p {M with kA:=y.1.1,kc:=y.1.2} s.bank y.2.1 y.2.2 L
theorem NQ.trans {sv:List (SA×SS)} {ap:List ((Nat×Nat)×List Bool)} {s s':NS} {y y':NB} (h:NQ sv ap s y) (h2:NQ y.2.1 y.2.2 s' y'):NQ sv ap s' y':=⟨h2.hs,h2.hss.trans h.hss,h2.ha,h2.hb.trans h.hb⟩
structure NC (f:Fl) (p:Pr) (M:NM) (sv:List (SA×SS)) (ap:List ((Nat×Nat)×List Bool)) (U:List Ev):Prop where
 ok:flErr f=0
 dv:1≤f.devices∧f.devices≤256
 ss:M.ss=sv.map (·.1.s)
 bs:M.bs=ap.map (·.1)
 n8:sv.length≤8
 n1:1≤sv.length
 e40:U.length≤40
theorem dos_w {f:Fl} {p:Pr} (M:NM) {sv:List (SA×SS)} {ap:List ((Nat×Nat)×List Bool)} {U:List Ev} (hc:NC f p M sv ap U) {s:NS} {y:NB} (x:Stp) (T:Int) {w0 w:World} {L:List E.Item} (hL:marks L=[]) (hw:Mem w0 (netS f p M s y L) w)
  (hFP: ∀w,Mem w0 L w→FlAt w f (faM M)∧PrAt w p M.p) (hy:NQ sv ap s y) (hv:NV f U T s) (hT:0≤T∧T≤900000) (hpl: -9223372036854775808≤x.ev.place∧x.ev.place≤9223372036854775807):
  Calls Tryz.prog 18 #[.pointer (some ⟨M.nb,0,none⟩), .agg x.cells.toArray] w fun q w'=> ∃z:{z:NB//NQ sv ap (doN f p s x).1 z},q= .returned (.tuple #[.int .i64 (doN f p s x).2.1, .int .i64 (doN f p s x).2.2])∧
   Mem w0 (netS f p M (doN f p s x).1 z.1 L) w':=by
 obtain ⟨⟨k1,k2⟩,sv1,ap1⟩:=y
 have hst:stN sv1 ap1 s.bank=s:=by
  have h1:=hy.hs
  have h2:=hy.ha
  simp only at h1 h2
  unfold stN
  rw [h1,h2]
 have hl1:sv1.length=s.srv.length:=by rw [←hy.hs,List.length_map]
 have hl2:ap1.length=s.apart.length:=by rw [←hy.ha,List.length_map]
 have hl0:sv1.length=sv.length:=by have:=congrArg List.length hy.hss;simpa using this
 refine (do_w {M with kA:=k1,kc:=k2} (sv:=sv1) (ap:=ap1) (bank:=s.bank) x T hL hw hFP (hc.ss.trans hy.hss.symm) (hc.bs.trans hy.hb.symm) (by rw [hl2,hl1];exact hv.ap) (by have:=hc.n8;omega) (fun z hz=>?_) hc.ok hc.dv (fun z hz=>?_) hv.bk hT hpl).mono ?_
 ·rw [hl2]
  exact hv.rw z.2 (by rw [←hy.ha];exact List.mem_map_of_mem hz)
 ·exact (hv.sv z.2 (by rw [←hy.hs];exact List.mem_map_of_mem hz)).sk hc.ok hc.e40
 ·rintro q w' ⟨z,hq,hm⟩
  rw [hst] at hq
  obtain ⟨z,hz⟩:=z
  rw [hst] at hz
  refine ⟨⟨z,hy.trans hz⟩,hq,?_⟩
  simp only at hm
  rw [hst] at hm
  exact hm
theorem bank_w {f:Fl} {p:Pr} {M:NM} {b:List Py} (w:World) (h:(box M.nb 97 (ntC f p M b.length)).A w) (hx:PysAt w M.kA b.length b) (hn:b.length≤256):
  Calls Tryz.prog 17 #[.pointer (some ⟨M.nb,0,none⟩)] w fun q w'=> ∃x:Option Addr×Nat,q= .returned (.agg #[.slice x.1 b.length x.2])∧Mem w [pyRow x.1 x.2 b] w':=by
 have hb:=box_lt h
 have hr:=row_at h
 obtain ⟨nb,md,mt,mp,sA,sc,ss,bA,bc,bs,kA,kc⟩:=M
 refine H_enter Tryz.func17 rfl Tryz.ntmps17 rfl ?_
 iterate 2 refine G ?_
 refine X_alloc Tryz.zeroValue42 rfl fun b2=>?_
 iterate 6 refine G ?_
 refine xV (e_eqNilP Tryz.underlying33 (q0 rfl)) rfl rfl ?_
 iterate 2 refine G ?_
 refine H_cond rfl ?_ ?_<;>intro hn
 ·cases hn
 ·have _ht:True:=trivial
  iterate 8 refine G ?_
  refine xV (e_ld (v:= .slice kA b.length kc) Tryz.isAgg40 (q0 rfl) (by exact rc (j:=14) hr hb rfl)) rfl rfl ?_
  refine xCX (en Tryz.call42 (ha1 (q0 rfl))) (fun w hw=>cloneY_w kA b.length kc b w (hx.mem hw) (by omega)) rfl (fun _=>rfl) fun y=>?_
  refine xV (e_build Tryz.underlying42 fl42 Tryz.zeroValue42 (pt (v:= .slice _ _ _) rfl E.p0) rfl) rfl rfl ?_
  refine X_st (v:= .agg _) rfl rfl Tryz.sizeOf42 ?_
  iterate 3 refine G ?_
  exact ret_of rfl (resC rfl rfl Tryz.isAgg42 Tryz.sizeOf42) fun w' hw=>⟨y,rfl,hw.pick [0] (by decide)⟩
def zEv:Ev:=⟨0,0,0,0,0,0,0,0,0⟩
def stp (k:Int) (a b:Nat):Stp:=⟨k,a,b,zEv⟩
theorem sdo_w {f:Fl} {p:Pr} (M:NM) {sv:List (SA×SS)} {ap:List ((Nat×Nat)×List Bool)} {U:List Ev} (hc:NC f p M sv ap U) {s:NS} {y:NB} (x:Stp) (T:Int) {c1 c2:Nat} {k:Nat} {w0 w:World} {L:List E.Item} (hL:marks L=[]) (hw:Mem w0 (netS f p M s y (box c1 33 [.pointer (some ⟨M.nb,0,none⟩)]::box c2 3 [.int .i64 k]::L)) w)
  (hFP: ∀w,Mem w0 L w→FlAt w f (faM M)∧PrAt w p M.p) (hy:NQ sv ap s y) (hv:NV f U T s) (hT:0≤T∧T≤900000) (hpl: -9223372036854775808≤x.ev.place∧x.ev.place≤9223372036854775807) (hk:k≤1000000):
  Calls Tryz.prog 48 #[.agg x.cells.toArray, .pointer (some ⟨c1,0,none⟩), .pointer (some ⟨c2,0,none⟩)] w fun q w'=> ∃z:{z:NB//NQ sv ap (doN f p s x).1 z},q= .returned (.tuple #[])∧
   Mem w0 (netS f p M (doN f p s x).1 z.1 (box c1 33 [.pointer (some ⟨M.nb,0,none⟩)]::box c2 3 [.int .i64 ((k+1:Nat):Int)]::L)) w':=by
 have hw:=hw.pickN 8 [6,7,0,1,2,3,4,5] (by decide) (by decide)
 refine H_enterM hw hL Tryz.func48 rfl Tryz.ntmps48 rfl ?_
 iterate 2 refine G ?_
 refine X_box (v:= .agg _) rfl rfl fun b3=>?_
 iterate 3 refine G ?_
 refine H_mem (L':=netS f p M s y (box b3 60 x.cells::box c1 33 [.pointer (some ⟨M.nb,0,none⟩)]::box c2 3 [.int .i64 k]::L)) (fun w hw=>hw.pickN 9 [3,4,5,6,7,8,0,1,2] (by decide) (by decide)) rfl ?_
 iterate 3 refine G ?_
 refine X_eff (f_callM (en Tryz.call18 (ha2 (q0 rfl) (q0 rfl))) (fun w hw=>dos_w M hc x T (by exact hL) hw (fun w hw=>hFP w hw.tail.tail.tail) hy hv hT hpl) rfl (fun _=>rfl) fun z=>?_)
 iterate 5 refine G ?_
 refine X_st (v:= .int _ _) rfl rfl Tryz.sizeOf3 ?_
 refine G ?_
 exact end0 rfl hL fun w' hw=>⟨z,rfl,hw.pickN 9 [0,1,2,3,4,5,7,8] (by decide) (by decide)⟩
end Go.Proofs.Net
