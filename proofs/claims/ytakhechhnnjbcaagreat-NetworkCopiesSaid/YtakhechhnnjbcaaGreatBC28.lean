import Derived.Test.YtakhechhnnjbcaaGreatBC27
import Derived.Test.YtakhechhnnjbcaaGreatBC04
import Derived.Test.YtakhechhnnjbcaaGreatTc
set_option maxRecDepth 100000
set_option maxHeartbeats 8000000
set_option linter.unusedVariables false
set_option linter.unusedSimpArgs false
namespace Go.Proofs.Net
open Go Go.RowKit Go.Proofs.E Go.Proofs.Cus Go.Proofs.Rid Go.Proofs.Far Go.Proofs.Hom
def AP (ap:List (List Bool)) (i j:Nat):Bool:=(ap.getD i default).getD j false
def wQ (ap:List (List Bool)) (i j:Nat) (v:Bool):List (List Bool):=ap.set i ((ap.getD i default).set j v)
def uy (ap:List (List Bool)) (i j:Nat) (v:Bool):List (List Bool):=wQ (wQ ap i j v) j i v
def v8 (s:NS) (i:Nat) (x:SS):NS:=⟨s.gh.set i x,s.apart,s.bank⟩
def N8 (f:Fl) (s:NS) (i:Nat) (x:SS) (e:Ev):NS×Int×Int:=
 if fF f e≠0 then (s,0,fF f e)
 else (v8 s i {x with eO:=(fX f.aH x.eO e).1},if (fX f.aH x.eO e).2.2≠0 then 0 else if (fX f.aH x.eO e).2.1=true then 1 else 0,(fX f.aH x.eO e).2.2)
def OH (f:Fl) (p:Pr) (s:NS) (i:Nat) (x:SS):NS×Int×Int:=
 (⟨s.gh.set i (tN f p s.gh.length i s.bank x).2.1,s.apart,(tN f p s.gh.length i s.bank x).1⟩,(tN f p s.gh.length i s.bank x).2.2)
def wb (f:Fl) (s:NS) (k:Int) (i j:Nat):NS×Int×Int:=
 if k=2 then (⟨s.gh,uy s.apart i j true,s.bank⟩,if (AP s.apart i j !=true)=true then 1 else 0,0)
 else if k=3 then (⟨s.gh,uy s.apart i j false,s.bank⟩,if (AP s.apart i j !=false)=true then 1 else 0,0)
 else if AP s.apart i j=true then (s,0,15)
 else (v8 s i {s.gh.getD i default with eO:=(fq f.aH (s.gh.getD i default).eO (fH (s.gh.getD j default).eO)).1},(fq f.aH (s.gh.getD i default).eO (fH (s.gh.getD j default).eO)).2,0)
def Da (f:Fl) (p:Pr) (s:NS) (x:k7) (i:Nat):NS×Int×Int:=
 if x.kind=1 then N8 f s i (s.gh.getD i default) x.ev
 else if x.kind=5 then OH f p s i (s.gh.getD i default)
 else if x.kind=6 then if x.b<0∨512<x.b then (s,0,1) else (v8 s i {s.gh.getD i default with lose:=x.b},0,0)
 else if zg s.gh.length x≠0 then (s,0,zg s.gh.length x)
 else wb f s x.kind i x.b.toNat
def mP (f:Fl) (p:Pr) (s:NS) (x:k7):NS×Int×Int:=
 if x.kind<1∨6<x.kind then (s,0,14)
 else if hasB s.gh.length x.a=false then (s,0,7)
 else Da f p s x x.a.toNat
structure SK (f:Fl) (T:Int) (x:SS):Prop where
 ev: ∀e∈x.eO,0≤e.device∧1≤e.seq
 pl:IY (fH x.eO)
 n:x.eO.length≤40
 sh: ∀r∈iw f (fH x.eO),(r.cw.length≤100000∧r.bz.length≤100000)∧r.pl≤9223372036854775807
 d:x.gm.length≤256
 t: ∀e∈x.gm,0≤e.tries∧e.tries≤T
 l:x.lose≤1000000
abbrev NB:=(Option Addr×Nat)×List (SA×SS)×List ((Nat×Nat)×List Bool)
abbrev tV (sv:List (SA×SS)) (ap:List ((Nat×Nat)×List Bool)) (bank:List Py):NS:=⟨sv.map (·.2),ap.map (·.2),bank⟩
structure NQ (sv:List (SA×SS)) (ap:List ((Nat×Nat)×List Bool)) (s:NS) (y:NB):Prop where
 hs:y.2.1.map (·.2)=s.gh
 pw:y.2.1.map (·.1.s)=sv.map (·.1.s)
 ha:y.2.2.map (·.2)=s.apart
 hb:y.2.2.map (·.1)=ap.map (·.1)
theorem NQ.same {sv:List (SA×SS)} {ap:List ((Nat×Nat)×List Bool)} {bank:List Py} (k:Option Addr×Nat):NQ sv ap (tV sv ap bank) (k,sv,ap):=⟨rfl,rfl,rfl,rfl⟩
theorem NQ.put {sv:List (SA×SS)} {ap:List ((Nat×Nat)×List Bool)} {bank:List Py} (k:Option Addr×Nat) {i:Nat} {x:SA×SS} (hx:sv[i]?=some x) (a:SA) (ha:a.s=x.1.s) (z:SS):NQ sv ap (v8 (tV sv ap bank) i z) (k,sv.set i (a,z),ap):=
 ⟨by show (sv.set i (a,z)).map _=(sv.map _).set i z;rw [k8],by
  show (sv.set i (a,z)).map _=_;rw [k8,ha,←show sv.map (·.1.s)=(sv.map (·.1.s)).set i x.1.s from (cU fun q=>by
   by_cases hq:i=q
   ·subst hq;rw [de (by rw [aD];exact (aa.1 hx).1),bf,hx];rfl
   rw [cj hq])],rfl,rfl⟩
theorem F6 (ap:List ((Nat×Nat)×List Bool)) (i j:Nat) (v:Bool):(H6 ap i j v).map (·.2)=wQ (ap.map (·.2)) i j v:=by
 unfold H6 wQ;rw [k8];congr 1;show (ap.getD i default).2.set j v=_;congr 1;rw [aq,aq,bf];cases ap[i]?<;>rfl
theorem F7 (ap:List ((Nat×Nat)×List Bool)) (i j:Nat) (v:Bool):(H6 ap i j v).map (·.1)=ap.map (·.1):=by
 unfold H6;rw [k8];apply cU;intro q;by_cases hq:i=q
 ·subst hq;by_cases hl:i<ap.length
  ·rw [de (by rw [aD];exact hl),bf,aq,aj hl];rfl
  rw [dC (by rw [dU,aD];omega),dC (by rw [aD];omega)]
 rw [cj hq]
theorem IQ (ap:List ((Nat×Nat)×List Bool)) (i j:Nat):Ro ap i j=AP (ap.map (·.2)) i j:=by
 unfold Ro AP;congr 1;rw [aq,aq,bf];cases ap[i]?<;>rfl
theorem NQ.VM {sv:List (SA×SS)} {ap:List ((Nat×Nat)×List Bool)} {bank:List Py} (k:Option Addr×Nat) (i j:Nat) (v:Bool):NQ sv ap ⟨sv.map (·.2),uy (ap.map (·.2)) i j v,bank⟩ (k,sv,AM ap i j v):=
 ⟨rfl,rfl,by show (AM ap i j v).map _=_;unfold AM uy;rw [F6,F6],by show (AM ap i j v).map _=_;unfold AM;rw [F7,F7]⟩
theorem Jt {n:Nat} {k:Int} (h:hasB n k=true): ∃i:Nat,k=i∧i<n:=by
 simp [hasB] at h;exact ⟨k.toNat,by omega,by omega⟩
attribute [local irreducible] fX fq fF tN AM uy AP Ro
theorem T4 {f:Fl} {p:Pr} (M:NM) {bank:List Py} {sv:List (SA×SS)} {ap:List ((Nat×Nat)×List Bool)} (x:k7) (T:Int) {w0 w:World} {L:List E.Item} (hL:marks L=[]) (hw:Mem w0 (q8 f p M bank sv ap L) w)
  (hFP: ∀w,Mem w0 L w→kp w f (FB M)∧lK w p M.p) (pw:M.ss=sv.map (·.1.s)) (hbs:M.bs=ap.map (·.1)) (hap:ap.length=sv.length) (h8:sv.length≤8) (hr: ∀y∈ap,y.2.length=ap.length) (hok:fR f=0) (hdv:1≤f.aH∧f.aH≤256)
  (hk: ∀y∈sv,SK f T y.2) (hbk:bank.length≤256) (hT:0≤T∧T≤900000) (hpl: -9223372036854775808≤x.ev.place∧x.ev.place≤9223372036854775807):
  Calls Tryz.prog 18 #[.pointer (some ⟨M.nb,0,none⟩), .agg x.cells.toArray] w fun q w'=> ∃y:{y:NB//NQ sv ap (mP f p (tV sv ap bank) x).1 y},q= .returned (.tuple #[.int .i64 (mP f p (tV sv ap bank) x).2.1, .int .i64 (mP f p (tV sv ap bank) x).2.2])∧
   Mem w0 (q8 f p {M with kA:=y.1.1.1,kc:=y.1.1.2} (mP f p (tV sv ap bank) x).1.bank y.1.2.1 y.1.2.2 L) w':=by
 obtain ⟨nb,md,mt,mp,sA,sc,ss,bA,bc,bs,kA,kc⟩:=M;simp only at pw hbs hFP⊢;have hsl:ss.length=sv.length:=by rw [pw,aD]
 have hln:(tV sv ap bank).gh.length=ss.length:=by rw [hsl];exact aD ..
 obtain ⟨kind,xa,xb,ev⟩:=x;simp only at hpl;refine eu hw hL Tryz.func18 rfl Tryz.ntmps18 rfl ?_;iterate 2 refine G ?_
 refine cd (v:= .agg _) rfl rfl fun b3=>?_;iterate 9 refine G ?_
 refine bO (gj e9 (q0 rfl)) ?_;iterate 3 refine G ?_
 refine au rfl ?_ ?_<;>intro hnil
 ·cases hnil
 iterate 13 refine G ?_
 refine au rfl ?_ ?_<;>intro h1
 ·have h1':kind<1∨6<kind:=by simpa using h1
  have hd:mP f p (tV sv ap bank) ⟨kind,xa,xb,ev⟩=(tV sv ap bank,0,14):=by unfold mP;rw [av h1']
  rw [hd];iterate 9 refine G ?_
  exact fV (v:= .int _ _) (x:= .int _ _) rfl rfl rfl hL fun w' hw=>⟨⟨((kA,kc),sv,ap),NQ.same _⟩,rfl,hw.tail⟩
 have h1': ¬(kind<1∨6<kind):=by simpa using h1
 iterate 5 refine G ?_
 refine gV (en Mb (gr (q0 rfl) (q0 rfl))) (fun _ w hw=>E0 (f:=f) (pr:=p) (M:=⟨nb,md,mt,mp,sA,sc,ss,bA,bc,bs,kA,kc⟩) (m:=bank.length) xa w (hw.item (k:=1) rfl)) ?_;iterate 4 refine G ?_
 refine au rfl ?_ ?_<;>intro h2
 ·have h2':hasB ss.length xa=false:=by simpa using h2
  have hd:mP f p (tV sv ap bank) ⟨kind,xa,xb,ev⟩=(tV sv ap bank,0,7):=by unfold mP;rw [ah h1',hln,av h2']
  rw [hd];iterate 9 refine G ?_
  exact fV (v:= .int _ _) (x:= .int _ _) rfl rfl rfl hL fun w' hw=>⟨⟨((kA,kc),sv,ap),NQ.same _⟩,rfl,hw.tail⟩
 have h2': ¬hasB ss.length xa=false:=by simpa using h2
 obtain ⟨i,rfl,hi⟩:=Jt (by simpa using h2');have hd0:mP f p (tV sv ap bank) ⟨kind,i,xb,ev⟩=Da f p (tV sv ap bank) ⟨kind,i,xb,ev⟩ i:=by unfold mP;rw [ah h1',hln,ah h2'];rfl
 rw [hd0];obtain ⟨⟨a,z⟩,hx⟩: ∃y,sv[i]?=some y:=⟨_,aj (by omega)⟩;have hgz:(tV sv ap bank).gh.getD i default=z:=by
  show (sv.map _).getD i default=z;rw [aq,bf,hx];rfl
 have hsi:ss[i]?=some a.s:=by rw [pw,bf,hx];rfl
 have hkz:SK f T z:=hk _ (an hx);have hop: ∀{S X:List E.Item} {w:World},Mem w0 (dD (sv.flatMap (p5 f.aH))::X) w→Mem w0 (p5 f.aH (a,z)++(dD ((sv.eraseIdx i).flatMap (p5 f.aH))::X)) w:=fun h=>h.apart hx;have hcl: ∀{y:SA×SS} {X:List E.Item} {w:World},Mem w0 (p5 f.aH y++(dD ((sv.eraseIdx i).flatMap (p5 f.aH))::X)) w→Mem w0 (dD ((sv.set i y).flatMap (p5 f.aH))::X) w:=fun h=>h.E7 (by omega);obtain ⟨sv1,ar,am,ad,ae,aA,ac⟩:=a;obtain ⟨ex,dx,lx⟩:=z;iterate 17 refine G ?_
 refine au rfl ?_ ?_<;>intro hk1
 ·have hk1':kind=1:=by simpa using hk1
  have hd1:Da f p (tV sv ap bank) ⟨kind,i,xb,ev⟩ i=N8 f (tV sv ap bank) i ⟨ex,dx,lx⟩ ev:=by unfold Da;rw [av hk1',hgz]
  rw [hd1];iterate 2 refine G ?_
  refine AQ ?_;refine aW 0 ?_;refine aW 1 ?_;refine aW 2 ?_;refine iQ 3 rfl (eP iv fG (q0 rfl)) ?_;refine aW 4 ?_;refine iQ 5 rfl (eP jr bT (q0 rfl)) ?_;refine aC 6 (by decide+kernel) rfl (en Wf (gr (q0 rfl) (q0 rfl))) (fun _ w hw=>vS f ⟨md.A,md.n,md.c,mt.A,mt.n,mt.c⟩ ev w (hFP w (hw.tail.tail.tail.tail.tail.tail.tail)).1 hpl) rfl ?_;refine aW 7 ?_;refine jz 0 ?_;iterate 7 refine G ?_
  refine au rfl ?_ ?_<;>intro he
  ·have he':fF f ev≠0:=by simpa using he
   have hd:N8 f (tV sv ap bank) i ⟨ex,dx,lx⟩ ev=(tV sv ap bank,0,fF f ev):=by unfold N8;rw [av he']
   rw [hd];iterate 11 refine G ?_
   exact fV (v:= .int _ _) (x:= .int _ _) rfl rfl rfl hL fun w' hw=>⟨⟨((kA,kc),sv,ap),NQ.same _⟩,rfl,hw.tail⟩
  have he': ¬fF f ev≠0:=by simpa using he
  have hd:N8 f (tV sv ap bank) i ⟨ex,dx,lx⟩ ev=(v8 (tV sv ap bank) i ⟨(fX f.aH ex ev).1,dx,lx⟩,if (fX f.aH ex ev).2.2≠0 then 0 else if (fX f.aH ex ev).2.1=true then 1 else 0,(fX f.aH ex ev).2.2):=by unfold N8;rw [ah he']
  rw [hd];iterate 3 refine G ?_
  refine fN (fun w hw=>dP (j:=2) hw rfl (by simp only;omega)) fun ⟨sb,hsb⟩=>?_;subst hsb;refine fY (L':=DI ar am f.aH ex++(box b3 60 (k7.cells ⟨kind,i,xb,ev⟩)::C' ⟨sv1,ar,am,ad,ae,aA,ac⟩ lx::(jv ad ae aA ac dx++(dD ((sv.eraseIdx i).flatMap (p5 f.aH))::(kZ f p ⟨nb,md,mt,mp,some ⟨sb,0,none⟩,sc,ss,bA,bc,bs,kA,kc⟩ bank++(dD (ap.flatMap rG)::L)))))) (fun w hw=>(hop (S:=[]) (hw.dh 7 [5,0,1,2,3,4,6] (by decide) (by decide))).dh 12 [1,2,7,0,3,4,5,6,8,9,10,11] (by decide) (by decide)) rfl ?_;refine zd 2 ?_;refine aW 0 ?_;refine aW 1 ?_;refine aW 2 ?_;refine aW 3 ?_;refine aW 4 ?_;refine aW 5 ?_;refine iQ 6 rfl (bt i cv fZ (q0 rfl) (q0 rfl) (fun _=>⟨rfl,by simp only;omega⟩)) ?_;refine iQ 7 rfl (eL wo (q0 rfl) (oR 7 rfl hsi rfl)) ?_;refine aW 8 ?_;refine aW 9 ?_;refine aW 10 ?_;refine aW 11 ?_;refine iQ 12 rfl (eP jr bT (q0 rfl)) ?_;refine r1 13 2 ?_;refine aL rfl (bR (en We (gr (q0 rfl) (q0 rfl))) (fun w hw=>vq ev (by exact hL) hw) rfl (fun _=>rfl) fun u=>?_);refine aW 14 ?_;refine aW 15 ?_;refine aW 16 ?_;refine aW 17 ?_;refine aW 18 ?_;refine jz 2 ?_;iterate 8 refine G ?_
  have hfin: ∀{w':World},Mem w0 (DI ar am f.aH (fX f.aH ex ev).1++(box b3 60 (k7.cells ⟨kind,i,xb,ev⟩)::C' ⟨sv1,ar,am,ad,ae,aA,ac⟩ lx::(jv ad ae aA ac dx++(dD ((sv.eraseIdx i).flatMap (p5 f.aH))::(kZ f p ⟨nb,md,mt,mp,some ⟨sb,0,none⟩,sc,ss,bA,bc,bs,kA,kc⟩ bank++(dD (ap.flatMap rG)::L)))))) w'→Mem w0 (q8 f p ⟨nb,md,mt,mp,some ⟨sb,0,none⟩,sc,ss,bA,bc,bs,kA,kc⟩ bank (sv.set i (⟨sv1,ar,am,ad,ae,aA,ac⟩,⟨(fX f.aH ex ev).1,dx,lx⟩)) ap L) w':=fun hw=>(hcl (y:=(⟨sv1,ar,am,ad,ae,aA,ac⟩,⟨(fX f.aH ex ev).1,dx,lx⟩)) (hw.dh 13 [3,0,1,4,5,6,7,8,9,10,11,12] (by decide) (by decide))).dh 6 [1,2,3,4,0,5] (by decide) (by decide);refine au rfl ?_ ?_<;>intro h3
  ·have h3':(fX f.aH ex ev).2.2≠0:=by simpa using h3
   rw [av h3'];iterate 11 refine G ?_
   exact fV (v:= .int _ _) (x:= .int _ _) rfl rfl rfl hL fun w' hw=>⟨⟨((kA,kc),sv.set i (_,_),ap),NQ.put _ hx _ rfl _⟩,rfl,hfin hw⟩
  have h3': ¬(fX f.aH ex ev).2.2≠0:=by simpa using h3
  have h30:(fX f.aH ex ev).2.2=0:=by simpa using h3'
  rw [ah h3'];iterate 5 refine G ?_
  refine gV (en Tryz.call43 (il (q0 rfl))) (fun _ w _=>R4 _ w) ?_;iterate 7 refine G ?_
  exact fV (v:= .int _ _) (x:= .int _ _) rfl rfl rfl hL fun w' hw=>⟨⟨((kA,kc),sv.set i (_,_),ap),NQ.put _ hx _ rfl _⟩,by rw [h30],hfin hw⟩
 have hk1': ¬kind=1:=by simpa using hk1
 iterate 6 refine G ?_
 refine au rfl ?_ ?_<;>intro hk5
 ·have hk5':kind=5:=by simpa using hk5
  have hd1:Da f p (tV sv ap bank) ⟨kind,i,xb,ev⟩ i=OH f p (tV sv ap bank) i ⟨ex,dx,lx⟩:=by unfold Da;rw [ah hk1',av hk5',hgz]
  rw [hd1];unfold OH;rw [hln];refine fY (L':=kZ f p ⟨nb,md,mt,mp,sA,sc,ss,bA,bc,bs,kA,kc⟩ bank++(UZ f.aH ⟨sv1,ar,am,ad,ae,aA,ac⟩ ⟨ex,dx,lx⟩++(box b3 60 (k7.cells ⟨kind,i,xb,ev⟩)::dD ((sv.eraseIdx i).flatMap (p5 f.aH))::dD (ap.flatMap rG)::L))) (fun w hw=>(hop (S:=[]) (hw.dh 7 [5,0,1,2,3,4,6] (by decide) (by decide))).dh 13 [8,9,10,11,0,1,2,3,4,5,7,6,12] (by decide) (by decide)) rfl ?_;iterate 5 refine G ?_
  refine bZ (bR (en Tryz.call44 (gr (q0 rfl) (q0 rfl))) (fun w hw=>K8 (f:=f) (p:=p) ⟨nb,md,mt,mp,sA,sc,ss,bA,bc,bs,kA,kc⟩ (bank:=bank) ⟨sv1,ar,am,ad,ae,aA,ac⟩ (x:=⟨ex,dx,lx⟩) i T (by exact hL) hw (fun w hw=>hFP w hw.tail.tail.tail) hsi (by simp only;omega) hok hdv hkz.ev hkz.pl hkz.n hkz.sh hbk hkz.d hT hkz.t hkz.l) rfl (fun _=>rfl) fun y=>?_);iterate 9 refine G ?_
  obtain ⟨⟨k1,k2⟩,a1,a2⟩:=y;exact fV (v:= .int _ _) (x:= .int _ _) rfl rfl rfl hL fun w' hw=>⟨⟨((k1,k2),sv.set i (⟨sv1,ar,am,ad,ae,a1,a2⟩,_),ap),NQ.put (ap:=ap) (bank:=(tN f p ss.length i bank ⟨ex,dx,lx⟩).1) (k1,k2) hx ⟨sv1,ar,am,ad,ae,a1,a2⟩ rfl (tN f p ss.length i bank ⟨ex,dx,lx⟩).2.1⟩,rfl,(hcl (y:=(⟨sv1,ar,am,ad,ae,a1,a2⟩,_)) (hw.dh 13 [4,5,6,7,8,9,11,0,1,2,3,12] (by decide) (by decide))).dh 6 [1,2,3,4,0,5] (by decide) (by decide)⟩
 have hk5': ¬kind=5:=by simpa using hk5
 iterate 6 refine G ?_
 refine au rfl ?_ ?_<;>intro hk6
 ·have hk6':kind=6:=by simpa using hk6
  have hd1:Da f p (tV sv ap bank) ⟨kind,i,xb,ev⟩ i=if xb<0∨512<xb then (tV sv ap bank,0,1) else (v8 (tV sv ap bank) i ⟨ex,dx,xb⟩,0,0):=by unfold Da;rw [ah hk1',ah hk5',av hk6',hgz]
  rw [hd1];iterate 13 refine G ?_
  refine au rfl ?_ ?_<;>intro h3
  ·have h3':xb<0∨512<xb:=by simpa using h3
   rw [av h3'];iterate 10 refine G ?_
   exact fV (v:= .int _ _) (x:= .int _ _) rfl rfl rfl hL fun w' hw=>⟨⟨((kA,kc),sv,ap),NQ.same _⟩,rfl,hw.tail⟩
  have h3': ¬(xb<0∨512<xb):=by simpa using h3
  rw [ah h3'];iterate 3 refine G ?_
  refine fN (fun w hw=>dP (j:=2) hw rfl (by simp only;omega)) fun ⟨sb,hsb⟩=>?_;subst hsb;refine fY (L':=UZ f.aH ⟨sv1,ar,am,ad,ae,aA,ac⟩ ⟨ex,dx,lx⟩++(box b3 60 (k7.cells ⟨kind,i,xb,ev⟩)::dD ((sv.eraseIdx i).flatMap (p5 f.aH))::(kZ f p ⟨nb,md,mt,mp,some ⟨sb,0,none⟩,sc,ss,bA,bc,bs,kA,kc⟩ bank++(dD (ap.flatMap rG)::L)))) (fun w hw=>(hop (S:=[]) (hw.dh 7 [5,0,1,2,3,4,6] (by decide) (by decide))).dh 13 [0,1,2,3,4,5,7,6,8,9,10,11,12] (by decide) (by decide)) rfl ?_;refine zd 1 ?_;refine aW 0 ?_;refine aW 1 ?_;refine aW 2 ?_;refine aW 3 ?_;refine aW 4 ?_;refine aW 5 ?_;refine iQ 6 rfl (bt i cv fZ (q0 rfl) (q0 rfl) (fun _=>⟨rfl,by simp only;omega⟩)) ?_;refine iQ 7 rfl (eL wo (q0 rfl) (oR 8 rfl hsi rfl)) ?_;refine aW 8 ?_;refine aW 9 ?_;refine aW 10 ?_;refine aW 11 ?_;refine r1 12 1 ?_;refine aL rfl (qz 0 (v:= .int .i64 xb) rfl rfl ax rfl rfl rfl rfl ?_);refine jz 1 ?_;iterate 10 refine G ?_
  exact fV (v:= .int _ _) (x:= .int _ _) rfl rfl rfl hL fun w' hw=>⟨⟨((kA,kc),sv.set i (⟨sv1,ar,am,ad,ae,aA,ac⟩,⟨ex,dx,xb⟩),ap),NQ.put (kA,kc) hx ⟨sv1,ar,am,ad,ae,aA,ac⟩ rfl _⟩,rfl,(hcl (y:=(⟨sv1,ar,am,ad,ae,aA,ac⟩,⟨ex,dx,xb⟩)) (hw.dh 13 [0,1,2,3,4,5,7,8,9,10,11,12] (by decide) (by decide))).dh 6 [1,2,3,4,0,5] (by decide) (by decide)⟩
 have hk6': ¬kind=6:=by simpa using hk6
 iterate 8 refine G ?_
 refine gV (en Tryz.call45 (gr (q0 rfl) (q0 rfl))) (fun _ w hw=>UU (f:=f) (pr:=p) (M:=⟨nb,md,mt,mp,sA,sc,ss,bA,bc,bs,kA,kc⟩) (m:=bank.length) ⟨kind,i,xb,ev⟩ w (hw.item (k:=1) rfl)) ?_;iterate 9 refine G ?_
 refine au rfl ?_ ?_<;>intro h3
 ·have h3':zg ss.length ⟨kind,i,xb,ev⟩≠0:=by simpa using h3
  have hd1:Da f p (tV sv ap bank) ⟨kind,i,xb,ev⟩ i=(tV sv ap bank,0,zg ss.length ⟨kind,i,xb,ev⟩):=by unfold Da;rw [ah hk1',ah hk5',ah hk6',hln,av h3']
  rw [hd1];iterate 9 refine G ?_
  exact fV (v:= .int _ _) (x:= .int _ _) rfl rfl rfl hL fun w' hw=>⟨⟨((kA,kc),sv,ap),NQ.same _⟩,rfl,hw.tail⟩
 have h3': ¬zg ss.length ⟨kind,i,xb,ev⟩≠0:=by simpa using h3
 obtain ⟨j,rfl,hj,hij⟩: ∃j:Nat,xb=j∧j<ss.length∧i≠j:=by
  have h30:zg ss.length ⟨kind,i,xb,ev⟩=0:=by simpa using h3'
  unfold zg at h30;split at h30
  ·cases h30
  rename_i hb;split at h30
  ·cases h30
  rename_i hn;obtain ⟨j,hj1,hj2⟩:=Jt (n:=ss.length) (k:=xb) (by simpa using hb);subst hj1;exact ⟨j,rfl,hj2,fun h=>hn (by subst h;rfl)⟩
 have hd1:Da f p (tV sv ap bank) ⟨kind,i,j,ev⟩ i=wb f (tV sv ap bank) kind i j:=by unfold Da;rw [ah hk1',ah hk5',ah hk6',hln,ah h3'];rfl
 rw [hd1];iterate 16 refine G ?_
 refine au rfl ?_ ?_<;>intro hk2
 ·have hk2':kind=2:=by simpa using hk2
  have hd2:wb f (tV sv ap bank) kind i j=(⟨sv.map (·.2),uy (ap.map (·.2)) i j true,bank⟩,if (Ro ap i j !=true)=true then 1 else 0,0):=by unfold wb;rw [av hk2',IQ]
  rw [hd2];refine fY (L':=kZ f p ⟨nb,md,mt,mp,sA,sc,ss,bA,bc,bs,kA,kc⟩ bank++(dD (ap.flatMap rG)::box b3 60 (k7.cells ⟨kind,i,j,ev⟩)::dD (sv.flatMap (p5 f.aH))::L)) (fun w hw=>hw.dh 7 [1,2,3,4,6,0,5] (by decide) (by decide)) rfl ?_;iterate 7 refine G ?_
  refine bZ (bR (en Tryz.call46 (Fb (q0 rfl) (q0 rfl) (q0 rfl) (q0 rfl))) (fun w hw=>Eg (f:=f) (p:=p) (M:=⟨nb,md,mt,mp,sA,sc,ss,bA,bc,bs,kA,kc⟩) (bank:=bank) (ap:=ap) i j true (by exact hL) hw hbs (by simp only;omega) (by omega) hr (by omega) (by omega) hij) rfl (fun _=>rfl) fun u=>?_);iterate 7 refine G ?_
  exact fV (v:= .int _ _) (x:= .int _ _) rfl rfl rfl hL fun w' hw=>⟨⟨((kA,kc),sv,AM ap i j true),NQ.VM _ i j true⟩,rfl,hw.dh 7 [0,1,2,3,6,4] (by decide) (by decide)⟩
 have hk2': ¬kind=2:=by simpa using hk2
 iterate 6 refine G ?_
 refine au rfl ?_ ?_<;>intro hk3
 ·have hk3':kind=3:=by simpa using hk3
  have hd2:wb f (tV sv ap bank) kind i j=(⟨sv.map (·.2),uy (ap.map (·.2)) i j false,bank⟩,if (Ro ap i j !=false)=true then 1 else 0,0):=by unfold wb;rw [ah hk2',av hk3',IQ]
  rw [hd2];refine fY (L':=kZ f p ⟨nb,md,mt,mp,sA,sc,ss,bA,bc,bs,kA,kc⟩ bank++(dD (ap.flatMap rG)::box b3 60 (k7.cells ⟨kind,i,j,ev⟩)::dD (sv.flatMap (p5 f.aH))::L)) (fun w hw=>hw.dh 7 [1,2,3,4,6,0,5] (by decide) (by decide)) rfl ?_;iterate 7 refine G ?_
  refine bZ (bR (en Tryz.call46 (Fb (q0 rfl) (q0 rfl) (q0 rfl) (q0 rfl))) (fun w hw=>Eg (f:=f) (p:=p) (M:=⟨nb,md,mt,mp,sA,sc,ss,bA,bc,bs,kA,kc⟩) (bank:=bank) (ap:=ap) i j false (by exact hL) hw hbs (by simp only;omega) (by omega) hr (by omega) (by omega) hij) rfl (fun _=>rfl) fun u=>?_);iterate 7 refine G ?_
  exact fV (v:= .int _ _) (x:= .int _ _) rfl rfl rfl hL fun w' hw=>⟨⟨((kA,kc),sv,AM ap i j false),NQ.VM _ i j false⟩,rfl,hw.dh 7 [0,1,2,3,6,4] (by decide) (by decide)⟩
 have hk3': ¬kind=3:=by simpa using hk3
 have hai:ap[i]?=some (ap.getD i default):=np (by omega);have hbi:bs[i]?=some (ap.getD i default).1:=by rw [hbs,bf,hai];rfl
 have hal:(ap.getD i default).2.length=ap.length:=hr _ (an hai);have hblen:bs.length=ap.length:=by rw [hbs,aD]
 have haj:=np (l:=(ap.getD i default).2) (i:=j) (by omega);iterate 5 refine G ?_
 refine fN (fun w hw=>dP (j:=3) hw rfl (by simp only;omega)) fun ⟨sb,hsb⟩=>?_;subst hsb;refine fY (L':=rG (ap.getD i default)++(dD ((ap.eraseIdx i).flatMap rG)::box b3 60 (k7.cells ⟨kind,i,j,ev⟩)::(kZ f p ⟨nb,md,mt,mp,sA,sc,ss,some ⟨sb,0,none⟩,bc,bs,kA,kc⟩ bank++(dD (sv.flatMap (p5 f.aH))::L)))) (fun w hw=>(hw.dh 7 [6,0,1,2,3,4,5] (by decide) (by decide)).apart hai) rfl ?_;refine tB ?_;iterate 6 refine G ?_
 refine bO (bt i dQ iX (q0 rfl) (q0 rfl) (fun _=>⟨rfl,by simp only;omega⟩)) ?_;refine bO (eL FF (q0 rfl) (oR 5 rfl hbi rfl)) ?_;iterate 2 refine G ?_
 refine bO (bt j eN dG (q0 rfl) (q0 rfl) (fun _=>⟨rfl,by simp only;omega⟩)) ?_;refine bO (eL kK (q0 rfl) (oR 0 rfl haj rfl)) ?_;iterate 2 refine G ?_
 have hapx:(ap.getD i default).2.getD j default=AP (ap.map (·.2)) i j:=by rw [←IQ];unfold Ro;rfl
 have hback: ∀{w:World},Mem w0 (rG (ap.getD i default)++(dD ((ap.eraseIdx i).flatMap rG)::box b3 60 (k7.cells ⟨kind,i,j,ev⟩)::(kZ f p ⟨nb,md,mt,mp,sA,sc,ss,some ⟨sb,0,none⟩,bc,bs,kA,kc⟩ bank++(dD (sv.flatMap (p5 f.aH))::L)))) w→Mem w0 (q8 f p ⟨nb,md,mt,mp,sA,sc,ss,some ⟨sb,0,none⟩,bc,bs,kA,kc⟩ bank sv ap (box b3 60 (k7.cells ⟨kind,i,j,ev⟩)::L)) w:=fun hw=>by
  have h:=hw.E7 (by omega);rw [show ap.set i (ap.getD i default)=ap from cU fun q=>by
   by_cases hq:i=q
   ·subst hq;rw [de (by omega),hai]
   rw [cj hq]] at h
  exact h.dh 7 [2,3,4,5,6,0,1] (by decide) (by decide)
 refine au rfl ?_ ?_<;>intro h4
 ·have h4':AP (ap.map (·.2)) i j=true:=by rw [←hapx];simpa using h4
  have hd2:wb f (tV sv ap bank) kind i j=(tV sv ap bank,0,15):=by unfold wb;rw [ah hk2',ah hk3',av h4']
  rw [hd2];iterate 8 refine G ?_
  exact fV (v:= .int _ _) (x:= .int _ _) rfl rfl rfl hL fun w' hw=>⟨⟨((kA,kc),sv,ap),NQ.same _⟩,rfl,(hback hw).dh 7 [0,1,2,3,4,5] (by decide) (by decide)⟩
 have h4': ¬AP (ap.map (·.2)) i j=true:=by rw [←hapx];simpa using h4
 obtain ⟨⟨a2,z2⟩,hy⟩: ∃y,sv[j]?=some y:=⟨_,aj (by omega)⟩;have hgy:(tV sv ap bank).gh.getD j default=z2:=by
  show (sv.map _).getD j default=z2;rw [aq,bf,hy];rfl
 have hkz2:SK f T z2:=hk _ (an hy);have hd2:wb f (tV sv ap bank) kind i j=(v8 (tV sv ap bank) i ⟨(fq f.aH ex (fH z2.eO)).1,dx,lx⟩,(fq f.aH ex (fH z2.eO)).2,0):=by unfold wb;rw [ah hk2',ah hk3',ah h4',hgz,hgy]
 rw [hd2];refine fY (L':=q8 f p ⟨nb,md,mt,mp,sA,sc,ss,some ⟨sb,0,none⟩,bc,bs,kA,kc⟩ bank sv ap (box b3 60 (k7.cells ⟨kind,i,j,ev⟩)::L)) (fun w hw=>hback hw) rfl ?_;iterate 9 refine G ?_
 refine bZ (bR (en Tryz.call47 (nj (q0 rfl) (q0 rfl) (q0 rfl))) (fun w hw=>QB (f:=f) (p:=p) (M:=⟨nb,md,mt,mp,sA,sc,ss,some ⟨sb,0,none⟩,bc,bs,kA,kc⟩) (bank:=bank) (sv:=sv) (ap:=ap) i j (by exact hL) hw pw h8 hx hy hij hkz2.ev (by have:=hkz2.n;show z2.eO.length≤10000;omega)) rfl (fun _=>rfl) fun u=>?_);iterate 5 refine G ?_
 exact fV (v:= .int _ _) (x:= .int _ _) rfl rfl rfl hL fun w' hw=>⟨⟨((kA,kc),sv.set i (⟨sv1,ar,am,ad,ae,aA,ac⟩,_),ap),NQ.put (kA,kc) hx ⟨sv1,ar,am,ad,ae,aA,ac⟩ rfl _⟩,rfl,hw.dh 7 [0,1,2,3,4,5] (by decide) (by decide)⟩
end Go.Proofs.Net
namespace Go.Proofs.Net
open Go.Proofs.Cus Go.Proofs.Rid Go.Proofs.Far
theorem A8 {M:Int} (h0:0≤M) {l:List Rd} (h: ∀r∈l,r.pl≤M) (k:Nat):(l.getD k default).pl≤M:=by
 rw [aq];cases hk:l[k]? with
 |none=>exact h0
 |some r=>exact h r (an hk)
theorem BC {M:Int} {l:List Rd} (h: ∀r∈l,r.pl≤M) {k:Nat} {q:Rd} (hq:q.pl≤M): ∀r∈l.set k q,r.pl≤M:=fun r hr=>by
 rcases cK hr with hr|rfl
 ·exact h r hr
 exact hq
theorem BN (p:Bool) (w:pG) (r:Rd):(dB p w r).pl=r.pl:=by unfold dB;split<;>rfl
theorem zJ {M:Int} (h0:0≤M) {s:SY} (h: ∀r∈s.cg,r.pl≤M) (b:Nat) (at_:Sp) (ha:at_.place≤M) (w:pG): ∀r∈(gX s b at_ w).cg,r.pl≤M:=by
 unfold gX;split
 ·exact h
 exact BC (BC h (by rw [BN];exact A8 h0 h _)) ha
theorem MB {M:Int} (h0:0≤M) {s:SY} {e:Ev} (h: ∀r∈s.cg,r.pl≤M) (he:e.place≤M): ∀r∈(dV s e).cg,r.pl≤M:=by
 unfold dV;simp only;split
 ·intro r hr;unfold qh at hr;rcases aQ.1 hr with hr|hr
  ·exact h r hr
  rw [bu.1 hr];exact h0
 split
 ·unfold ko;split
  ·exact h
  exact BC h (A8 h0 h _)
 split
 ·split
  ·exact BC h (A8 h0 h _)
  exact h
 split
 ·split
  ·unfold kh;exact BC h (by rw [BN];exact A8 h0 h _)
  exact h
 split
 ·exact zJ h0 h _ _ he _
 split
 ·exact zJ h0 h _ _ he _
 split
 ·exact zJ h0 h _ _ h0 _
 exact h
theorem F0 {M:Int} (h0:0≤M): ∀(l:List Ev) {s:SY},(∀r∈s.cg,r.pl≤M)→(∀e∈l,e.place≤M)→ ∀r∈(l.foldl dV s).cg,r.pl≤M
 |[],_,h,_=>h
 |e::l,_,h,he=>by
  rw [cO];exact F0 h0 l (MB h0 h (he e (by simp))) fun x hx=>he x (by simp [hx])
theorem N6 {f:Fl} {e:Ev} (h:fF f e=0):0≤e.place∧e.place≤100000:=by
 have hok:=(kV h).1;have hd:f.gk.length≤32∧f.eJ.length≤8:=by
  unfold fR at hok;split at hok
  ·cases hok
  split at hok
  ·cases hok
  omega
 unfold fF at h;split at h
 ·rename_i h1;exact absurd h h1
 split at h
 ·cases h
 split at h
 ·cases h
 split at h
 ·cases h
 split at h
 ·cases h
 rename_i _ _ _ _ hp;have hp:qa f e=true:=by simpa using hp
 unfold qa at hp;split at hp
 ·simp at hp;have:=VZ (b:=32) hp.1.1;omega
 split at hp
 ·simp [within] at hp;omega
 split at hp
 ·simp [within] at hp;omega
 simp at hp;omega
theorem Es {f:Fl} (hok:fR f=0) {xs:List Ev} (hn:xs.length≤100000): ∀r∈iw f xs,(r.cw.length≤100000∧r.bz.length≤100000)∧r.pl≤9223372036854775807:=fun r hr=>by
 unfold iw at hr;rw [av hok] at hr;have hr:r∈(kf f xs).cg:=(mC _).mem_iff.1 hr;have h1:=(tg hok xs).wf.cw r hr;have h2:=tu f xs;have h3:=F0 (M:=9223372036854775807) (by decide) (gS f xs) (s:=gG (lH f)) (fun r hr=>by simp [gG] at hr) (fun e he=>by
  obtain ⟨hrp,_⟩:=qF hok xs (fun _=>());obtain ⟨k,hk⟩:=bC.1 he;have:=N6 (hrp.at_ (g:=fun _=>()) hk).1;omega) r hr
 exact ⟨by omega,h3⟩
structure SV (f:Fl) (E:List Ev) (T:Int) (x:SS):Prop where
 nd:x.eO.Nodup
 ev: ∀e∈x.eO,e∈E∧fF f e=0
 d:x.gm.length≤256
 t: ∀e∈x.gm,0≤e.tries∧e.tries≤T
 l:x.lose≤1000000
structure NV (f:Fl) (E:List Ev) (T:Int) (s:NS):Prop where
 sv: ∀x∈s.gh,SV f E T x
 bk:s.bank.length≤256
 ap:s.apart.length=s.gh.length
 rw: ∀y∈s.apart,y.length=s.apart.length
 rd:(s.bank.map (·.aP)).Nodup
theorem SV.mono {f:Fl} {E:List Ev} {T T':Int} {x:SS} (h:SV f E T x) (hT:T≤T'):SV f E T' x:=⟨h.nd,h.ev,h.d,fun e he=>by have:=h.t e he;omega,h.l⟩
theorem NV.mono {f:Fl} {E:List Ev} {T T':Int} {s:NS} (h:NV f E T s) (hT:T≤T'):NV f E T' s:=⟨fun x hx=>(h.sv x hx).mono hT,h.bk,h.ap,h.rw,h.rd⟩
theorem N7 {f:Fl} {e:Ev} (h:fF f e=0):0≤e.device∧1≤e.seq:=by
 unfold fF at h;split at h
 ·rename_i h1;exact absurd h h1
 split at h
 ·cases h
 rename_i h1;simp [within] at h1;omega
theorem SV.sk {f:Fl} (hok:fR f=0) {E:List Ev} (hE40:E.length≤40) {T:Int} {x:SS} (h:SV f E T x):SK f T x:=by
 have hn:x.eO.length≤40:=jd (h.nd.length_le_of_subset fun e he=>(h.ev e he).1) hE40;have hp:(fH x.eO).Perm x.eO:=eT _ _;have hpl:IY (fH x.eO):=fun e he=>by have:=N6 (h.ev e (hp.mem_iff.1 he)).2;omega
 exact ⟨fun e he=>N7 (h.ev e he).2,hpl,hn,Es hok (by rw [hp.length_eq];omega),h.d,h.t,h.l⟩
theorem O5 {n:Int} {l:List Ev} {e x:Ev} (h:x∈(fX n l e).1):x∈l∨x=e:=by
 unfold fX at h;split at h
 ·exact .inl h
 split at h
 ·exact .inl h
 split at h
 ·split at h<;>exact .inl h
 split at h
 ·exact .inl h
 split at h
 ·exact .inl h
 simpa using h
theorem yR {n:Int} {l:List Ev} {e:Ev} (h:l.Nodup):(fX n l e).1.Nodup:=by
 unfold fX;split
 ·exact h
 split
 ·exact h
 split
 ·split<;>exact h
 rename_i hf;split
 ·exact h
 split
 ·exact h
 refine jR.2 ⟨h,by simp,fun a ha b hb hab=>?_⟩;rw [bu.1 hb] at hab;subst hab;have:=kD.1 hf a ha;simp at this
theorem SV.add {f:Fl} {E:List Ev} {T:Int} {x:SS} (h:SV f E T x) {n:Int} {e:Ev} (he:e∈E∧fF f e=0):SV f E T {x with eO:=(fX n x.eO e).1}:=
 ⟨yR h.nd,fun y hy=>(O5 hy).elim (h.ev y) fun hy=>hy▸he,h.d,h.t,h.l⟩
theorem SV.R7 {f:Fl} {E:List Ev} {T:Int} {n:Int}: ∀(l:List Ev) {x:SS},SV f E T x→(∀e∈l,e∈E∧fF f e=0)→SV f E T {x with eO:=(fq n x.eO l).1}
 |[],_,h,_=>h
 |e::l,x,h,he=>by
  have h2:=SV.R7 (n:=n) l (h.add (n:=n) (he e (by simp))) fun y hy=>he y (by simp [hy]);rw [fq];exact h2
structure BG (b b':List Py):Prop where
 pre:b<+:b'
 nd:(b.map (·.aP)).Nodup→(b'.map (·.aP)).Nodup
 len:b.length≤256→b'.length≤256
theorem BG.refl (b:List Py):BG b b:=⟨List.prefix_rfl,id,id⟩
theorem BG.trans {a b c:List Py} (h:BG a b) (h2:BG b c):BG a c:=⟨h.pre.trans h2.pre,fun x=>h2.nd (h.nd x),fun x=>h2.len (h.len x)⟩
theorem BG.jF (b:List Py) (p:Py):BG b (sg b p):=by
 unfold sg;split
 case isFalse=>exact BG.refl b
 case isTrue h0=>
  rw [AW] at h0⊢;split
  ·rename_i h;rw [av h] at h0;cases h0
  rename_i h;rw [ah h] at h0;split
  ·rename_i h1;rw [av h1] at h0;cases h0
  rename_i h1;rw [ah h1] at h0;split
  ·exact BG.refl b
  rename_i h2;split
  ·rename_i h3;rw [ah h2,av h3] at h0;cases h0
  rename_i h3;refine ⟨List.prefix_append ..,fun hn=>?_,fun _=>by rw [bV];simp;omega⟩;rw [bX];refine jR.2 ⟨hn,by simp,fun a ha c hc hac=>?_⟩;simp at hc;subst hc;obtain ⟨y,hy,hy2⟩:=bJ.1 ha;have g1:vf p y=false:=by
   cases hb:vf p y with
   |false=>rfl
   |true=>exact absurd (cY.2 ⟨y,hy,hb⟩) h1
  have g2:uJ p y=false:=by
   cases hb:uJ p y with
   |false=>rfl
   |true=>exact absurd (cY.2 ⟨y,hy,hb⟩) h2
  unfold vf at g1;unfold uJ at g2;simp at g1 g2;exact g2 (g1 (by rw [hy2,hac]))
structure QV (T:Int) (q q':QS):Prop where
 b:BG q.1 q'.1
 d:q.2.1.length≤256→q'.2.1.length≤256
 t:(∀e∈q.2.1,0≤e.tries∧e.tries≤T)→ ∀e∈q'.2.1,0≤e.tries∧e.tries≤T+1
 l:q.2.2≤1000000→q'.2.2≤1000000
theorem Mw (T:Int) (q:QS) (p:Py):QV T q (AD q p):=by
 rw [uH];exact ⟨BG.jF ..,fun h=>by show (r4 ..).1.length≤_;rw [Hy];exact h,fun h=>C1 h,fun h=>by show (if 0<q.2.2 then q.2.2 -1 else q.2.2)≤_;have h:q.2.2≤1000000:=h;split<;>omega⟩
theorem uI: ∀(k:Nat) (T:Int) (q:QS),BG q.1 (jB k q).1∧(q.2.1.length≤256→(jB k q).2.1.length≤256)∧((∀e∈q.2.1,0≤e.tries∧e.tries≤T)→ ∀e∈(jB k q).2.1,0≤e.tries∧e.tries≤T+k)∧(q.2.2≤1000000→(jB k q).2.2≤1000000)
 |0,T,q=>⟨BG.refl _,id,fun h e he=>by have:=h e he;omega,id⟩
 |k+1,T,q=>by
  unfold jB;split
  ·exact ⟨BG.refl _,id,fun h e he=>by have:=h e he;omega,id⟩
  rename_i i hi;have h1:=Mw T q (q.2.1.getD i default).jF;obtain ⟨a1,a2,a3,a4⟩:=uI k (T+1) (AD q (q.2.1.getD i default).jF);exact ⟨h1.b.trans a1,fun h=>a2 (h1.d h),fun h e he=>by have:=a3 (h1.t h) e he;omega,fun h=>a4 (h1.l h)⟩
theorem Ft {T:Int} (hT:0≤T) (n:Nat) (i:Int): ∀(l:List iY) {d:List En},d.length≤256→(∀e∈d,0≤e.tries∧e.tries≤T)→(iR n i d l).length≤256∧ ∀e∈iR n i d l,0≤e.tries∧e.tries≤T
 |[],_,h1,h2=>⟨h1,h2⟩
 |c::l,d,h1,h2=>by
  unfold iR;split
  ·exact Ft hT n i l (J' _ _ h1) (Eo hT h2)
  exact Ft hT n i l h1 h2
theorem T7 {f:Fl} {p:Pr} {E:List Ev} {T:Int} (hT:0≤T) (n:Nat) (i:Int) (b:List Py) {x:SS} (h:SV f E T x):BG b (tN f p n i b x).1∧SV f E (T+256) (tN f p n i b x).2.1:=by
 unfold tN;split
 ·exact ⟨BG.refl b,h.mono (by omega)⟩
 unfold Ra;simp only;obtain ⟨h1,h2⟩:=Ft hT n i (iW f p (gO f x.eO) []) h.d h.t;generalize iR n i x.gm (iW f p (gO f x.eO) [])=d at h1 h2;have hl:(jl d).length≤256:=by unfold jl jC;rw [aD];exact jd (da _ _) h1
 obtain ⟨a1,a2,a3,a4⟩:=uI (jl d).length T (b,d,x.lose);exact ⟨a1,⟨h.nd,h.ev,a2 h1,fun e he=>by have:=a3 h2 e he;omega,a4 h.l⟩⟩
theorem q9 {α:Type} {l:List α} {i:Nat} {y x:α} (h:x∈l.set i y):x∈l∨x=y:=cK h
theorem SV.zero {f:Fl} {E:List Ev} {T:Int}:SV f E T default:=⟨jY,fun e he=>(by cases he),aU _,fun e he=>(by cases he),by decide⟩
theorem NV.get {f:Fl} {E:List Ev} {T:Int} {s:NS} (h:NV f E T s) (i:Nat):SV f E T (s.gh.getD i default):=by
 rw [aq];cases hk:s.gh[i]? with
 |none=>exact SV.zero
 |some r=>exact h.sv r (an hk)
theorem NV.put {f:Fl} {E:List Ev} {T:Int} {s:NS} (h:NV f E T s) (i:Nat) {x:SS} (hx:SV f E T x) {b:List Py} (hb:BG s.bank b):NV f E T ⟨s.gh.set i x,s.apart,b⟩:=
 ⟨fun y hy=>(q9 hy).elim (h.sv y) fun e=>e▸hx,hb.len h.bk,by rw [dU];exact h.ap,h.rw,hb.nd h.rd⟩
theorem Jb {ap:List (List Bool)} (h: ∀y∈ap,y.length=ap.length) (i j:Nat) (v:Bool):(wQ ap i j v).length=ap.length∧ ∀y∈wQ ap i j v,y.length=ap.length:=by
 unfold wQ;refine ⟨dU ..,fun y hy=>?_⟩;by_cases hi:i<ap.length
 ·rcases q9 hy with hy|hy
  ·exact h y hy
  rw [hy,dU,aq,aj hi];exact h _ (SP hi)
 rw [WS (by omega)] at hy;exact h y hy
theorem NV.VM {f:Fl} {E:List Ev} {T:Int} {s:NS} (h:NV f E T s) (i j:Nat) (v:Bool):NV f E T ⟨s.gh,uy s.apart i j v,s.bank⟩:=by
 obtain ⟨h1,h2⟩:=Jb h.rw i j v;obtain ⟨h3,h4⟩:=Jb (ap:=wQ s.apart i j v) (fun y hy=>by rw [h1];exact h2 y hy) j i v;exact ⟨h.sv,h.bk,by show (uy ..).length=_;unfold uy;rw [h3,h1];exact h.ap,fun y hy=>by show _=(uy ..).length;unfold uy at hy⊢;rw [h3];exact h4 y hy,h.rd⟩
theorem Oq {f:Fl} {p:Pr} {E:List Ev} {T:Int} (hT:0≤T) {s:NS} {x:k7} (h:NV f E T s) (hx:x.kind=1→x.ev∈E):NV f E (T+256) (mP f p s x).1∧BG s.bank (mP f p s x).1.bank∧(mP f p s x).1.gh.length=s.gh.length:=by
 have h':NV f E (T+256) s:=h.mono (by omega);have hs:NV f E (T+256) s∧BG s.bank s.bank∧s.gh.length=s.gh.length:=⟨h',BG.refl _,rfl⟩;have hput: ∀(i:Nat) {y:SS},SV f E T y→NV f E (T+256) (v8 s i y)∧BG s.bank (v8 s i y).bank∧(v8 s i y).gh.length=s.gh.length:=fun i y hy=>⟨h'.put i (hy.mono (by omega)) (BG.refl _),BG.refl _,dU ..⟩;unfold mP;split
 ·exact hs
 split
 ·exact hs
 unfold Da;split
 ·rename_i hk;unfold N8;split
  ·exact hs
  rename_i he;exact hput _ ((h.get _).add ⟨hx hk,by simpa using he⟩)
 split
 ·obtain ⟨h1,h2⟩:=T7 (p:=p) hT s.gh.length (x.a.toNat:Int) s.bank (h.get x.a.toNat);exact ⟨h'.put _ h2 h1,h1,dU ..⟩
 split
 ·split
  ·exact hs
  rename_i hb;exact hput _ ⟨(h.get _).nd,(h.get _).ev,(h.get _).d,(h.get _).t,by show x.b≤_;omega⟩
 split
 ·exact hs
 unfold wb;split
 ·exact ⟨h'.VM ..,BG.refl _,rfl⟩
 split
 ·exact ⟨h'.VM ..,BG.refl _,rfl⟩
 split
 ·exact hs
 exact hput _ (SV.R7 _ (h.get _) fun e he=>(h.get _).ev e ((eT _ _).mem_iff.1 he))
def runN (f:Fl) (p:Pr) (s:NS) (l:List k7):NS:=l.foldl (fun s x=>(mP f p s x).1) s
theorem s4 (f:Fl) (p:Pr) (s:NS) (l:List k7) (x:k7):runN f p s (l++[x])=(mP f p (runN f p s l) x).1:=by unfold runN;rw [df];rfl
theorem BH {f:Fl} {p:Pr} {E:List Ev}: ∀(l:List k7) {T:Int} (_:0≤T) {s:NS},NV f E T s→(∀x∈l,x.kind=1→x.ev∈E)→NV f E (T+256*l.length) (runN f p s l)∧BG s.bank (runN f p s l).bank∧(runN f p s l).gh.length=s.gh.length
 |[],T,_,s,h,_=>⟨h.mono (by simp),BG.refl _,rfl⟩
 |x::l,T,hT,s,h,hx=>by
  obtain ⟨a1,a2,a3⟩:=Oq (p:=p) hT h (hx x (by simp));obtain ⟨b1,b2,b3⟩:=BH l (by omega) a1 fun y hy=>hx y (by simp [hy]);exact ⟨b1.mono (by simp;omega),a2.trans b2,b3.trans a3⟩
open Go Go.RowKit Go.Proofs.E Go.Proofs.Cus Go.Proofs.Rid Go.Proofs.Far Go.Proofs.Hom
abbrev nf (f:Fl) (p:Pr) (M:NM) (s:NS) (y:NB) (L:List E.Item):List E.Item:=q8 f p {M with kA:=y.1.1,kc:=y.1.2} s.bank y.2.1 y.2.2 L
theorem NQ.trans {sv:List (SA×SS)} {ap:List ((Nat×Nat)×List Bool)} {s s':NS} {y y':NB} (h:NQ sv ap s y) (h2:NQ y.2.1 y.2.2 s' y'):NQ sv ap s' y':=⟨h2.hs,h2.pw.trans h.pw,h2.ha,h2.hb.trans h.hb⟩
structure NC (f:Fl) (p:Pr) (M:NM) (sv:List (SA×SS)) (ap:List ((Nat×Nat)×List Bool)) (U:List Ev):Prop where
 ok:fR f=0
 dv:1≤f.aH∧f.aH≤256
 ss:M.ss=sv.map (·.1.s)
 bs:M.bs=ap.map (·.1)
 n8:sv.length≤8
 n1:1≤sv.length
 WH:U.length≤40
theorem Ed {f:Fl} {p:Pr} (M:NM) {sv:List (SA×SS)} {ap:List ((Nat×Nat)×List Bool)} {U:List Ev} (hc:NC f p M sv ap U) {s:NS} {y:NB} (x:k7) (T:Int) {w0 w:World} {L:List E.Item} (hL:marks L=[]) (hw:Mem w0 (nf f p M s y L) w)
  (hFP: ∀w,Mem w0 L w→kp w f (FB M)∧lK w p M.p) (hy:NQ sv ap s y) (hv:NV f U T s) (hT:0≤T∧T≤900000) (hpl: -9223372036854775808≤x.ev.place∧x.ev.place≤9223372036854775807):
  Calls Tryz.prog 18 #[.pointer (some ⟨M.nb,0,none⟩), .agg x.cells.toArray] w fun q w'=> ∃z:{z:NB//NQ sv ap (mP f p s x).1 z},q= .returned (.tuple #[.int .i64 (mP f p s x).2.1, .int .i64 (mP f p s x).2.2])∧
   Mem w0 (nf f p M (mP f p s x).1 z.1 L) w':=by
 obtain ⟨⟨k1,k2⟩,sv1,ap1⟩:=y;have hst:tV sv1 ap1 s.bank=s:=by
  have h1:=hy.hs;have h2:=hy.ha;simp only at h1 h2;unfold tV;rw [h1,h2]
 have hl1:sv1.length=s.gh.length:=by rw [←hy.hs,aD]
 have hl2:ap1.length=s.apart.length:=by rw [←hy.ha,aD]
 have hl0:sv1.length=sv.length:=by have:=aT List.length hy.pw;simpa using this
 refine (T4 {M with kA:=k1,kc:=k2} (sv:=sv1) (ap:=ap1) (bank:=s.bank) x T hL hw hFP (hc.ss.trans hy.pw.symm) (hc.bs.trans hy.hb.symm) (by rw [hl2,hl1];exact hv.ap) (by have:=hc.n8;omega) (fun z hz=>?_) hc.ok hc.dv (fun z hz=>?_) hv.bk hT hpl).mono ?_
 ·rw [hl2];exact hv.rw z.2 (by rw [←hy.ha];exact cM hz)
 ·exact (hv.sv z.2 (by rw [←hy.hs];exact cM hz)).sk hc.ok hc.WH
 rintro q w' ⟨z,hq,hm⟩;rw [hst] at hq;obtain ⟨z,hz⟩:=z;rw [hst] at hz;refine ⟨⟨z,hy.trans hz⟩,hq,?_⟩;simp only at hm;rw [hst] at hm;exact hm
theorem tP {f:Fl} {p:Pr} {M:NM} {b:List Py} (w:World) (h:(box M.nb 97 (Gw f p M b.length)).A w) (hx:C7 w M.kA b.length b) (hn:b.length≤256):
  Calls Tryz.prog 17 #[.pointer (some ⟨M.nb,0,none⟩)] w fun q w'=> ∃x:Option Addr×Nat,q= .returned (.agg #[.slice x.1 b.length x.2])∧Mem w [mM x.1 x.2 b] w':=by
 have hb:=pz h;have hr:=p9 h;obtain ⟨nb,md,mt,mp,sA,sc,ss,bA,bc,bs,kA,kc⟩:=M;refine aS Tryz.func17 rfl Tryz.ntmps17 rfl ?_;iterate 2 refine G ?_
 refine cx jq rfl fun b2=>?_;iterate 6 refine G ?_
 refine bO (gj e9 (q0 rfl)) ?_;iterate 2 refine G ?_
 refine au rfl ?_ ?_<;>intro hn
 ·cases hn
 iterate 8 refine G ?_
 refine bO (ea (v:= .slice kA b.length kc) nU (q0 rfl) (by exact rc (j:=14) hr hb rfl)) ?_;refine qW (en Tryz.call42 (il (q0 rfl))) (fun w hw=>Hi kA b.length kc b w (hx.mem hw) (by omega)) rfl (fun _=>rfl) fun y=>?_;refine bO (bS eI NR jq (pt (v:= .slice _ _ _) rfl E.p0) rfl) ?_;refine fI (v:= .agg _) rfl rfl ga ?_;iterate 3 refine G ?_
 exact mh rfl (P6 rfl rfl sK ga) fun w' hw=>⟨y,rfl,hw.pick [0] (by decide)⟩
def zEv:Ev:=⟨0,0,0,0,0,0,0,0,0⟩
def pC (k:Int) (a b:Nat):k7:=⟨k,a,b,zEv⟩
theorem U4 {f:Fl} {p:Pr} (M:NM) {sv:List (SA×SS)} {ap:List ((Nat×Nat)×List Bool)} {U:List Ev} (hc:NC f p M sv ap U) {s:NS} {y:NB} (x:k7) (T:Int) {c1 c2:Nat} {k:Nat} {w0 w:World} {L:List E.Item} (hL:marks L=[]) (hw:Mem w0 (nf f p M s y (box c1 33 [.pointer (some ⟨M.nb,0,none⟩)]::box c2 3 [.int .i64 k]::L)) w)
  (hFP: ∀w,Mem w0 L w→kp w f (FB M)∧lK w p M.p) (hy:NQ sv ap s y) (hv:NV f U T s) (hT:0≤T∧T≤900000) (hpl: -9223372036854775808≤x.ev.place∧x.ev.place≤9223372036854775807) (hk:k≤1000000):
  Calls Tryz.prog 48 #[.agg x.cells.toArray, .pointer (some ⟨c1,0,none⟩), .pointer (some ⟨c2,0,none⟩)] w fun q w'=> ∃z:{z:NB//NQ sv ap (mP f p s x).1 z},q= .returned (.tuple #[])∧
   Mem w0 (nf f p M (mP f p s x).1 z.1 (box c1 33 [.pointer (some ⟨M.nb,0,none⟩)]::box c2 3 [.int .i64 ((k+1:Nat):Int)]::L)) w':=by
 have hw:=hw.dh 8 [6,7,0,1,2,3,4,5] (by decide) (by decide);refine eu hw hL Tryz.func48 rfl Tryz.ntmps48 rfl ?_;iterate 2 refine G ?_
 refine cd (v:= .agg _) rfl rfl fun b3=>?_;iterate 3 refine G ?_
 refine fY (L':=nf f p M s y (box b3 60 x.cells::box c1 33 [.pointer (some ⟨M.nb,0,none⟩)]::box c2 3 [.int .i64 k]::L)) (fun w hw=>hw.dh 9 [3,4,5,6,7,8,0,1,2] (by decide) (by decide)) rfl ?_;iterate 3 refine G ?_
 refine bZ (bR (en lP (gr (q0 rfl) (q0 rfl))) (fun w hw=>Ed M hc x T (by exact hL) hw (fun w hw=>hFP w hw.tail.tail.tail) hy hv hT hpl) rfl (fun _=>rfl) fun z=>?_);iterate 5 refine G ?_
 refine fI (v:= .int _ _) rfl rfl ax ?_;refine G ?_;exact lj rfl hL fun w' hw=>⟨z,rfl,hw.dh 9 [0,1,2,3,4,5,7,8] (by decide) (by decide)⟩
end Go.Proofs.Net
