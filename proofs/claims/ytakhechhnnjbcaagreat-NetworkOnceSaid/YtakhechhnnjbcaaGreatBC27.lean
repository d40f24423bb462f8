import Derived.Test.YtakhechhnnjbcaaGreatBC24
import Derived.Test.YtakhechhnnjbcaaGreatBC26
import Derived.Test.YtakhechhnnjbcaaGreatBC22
import Derived.Test.YtakhechhnnjbcaaGreatBC18
import Derived.Test.YtakhechhnnjbcaaGreatBC19
import Derived.Test.YtakhechhnnjbcaaGreatBC04
import Derived.Test.YtakhechhnnjbcaaGreatTc
set_option maxRecDepth 100000
set_option maxHeartbeats 8000000
set_option linter.unusedVariables false
set_option linter.unusedSimpArgs false
namespace Go.Proofs.Net
open Go Go.RowKit Go.Proofs.E Go.Proofs.Cus Go.Proofs.Rid Go.Proofs.Far Go.Proofs.Hom
def rh (n:Nat) (rider:Int):Int:=if rider<0∨128≤rider then 0 else rider%n
theorem Jw {f:Fl} {pr:Pr} {M:NM} {k:Nat} (rider:Int) (w:World) (h:(box M.nb 97 (Gw f pr M k)).A w) (h1:1≤M.ss.length) (h8:M.ss.length≤8):Calls Tryz.prog 13 #[.pointer (some ⟨M.nb,0,none⟩), .int .i64 rider] w fun q w'=>q= .returned (.int .i64 (rh M.ss.length rider))∧gz w w':=by
 have hb:=pz h;have hr:=p9 h;refine aS Tryz.func13 rfl Tryz.ntmps13 rfl ?_;iterate 9 refine G ?_
 refine bO (gj e9 (q0 rfl)) ?_;iterate 10 refine G ?_
 refine au rfl ?_ ?_<;>intro h2
 ·have h2':rider<0∨128≤rider:=by simpa using h2
  iterate 7 refine G ?_
  exact bH (v:= .int _ _) rfl rfl rfl fun w' hw=>⟨by unfold rh;rw [av h2'],hw.1⟩
 have h2': ¬(rider<0∨128≤rider):=by simpa using h2
 iterate 10 refine G ?_
 refine bO (Sf (q0 rfl) (q0 rfl) (fun _=>by omega)) ?_;iterate 4 refine G ?_
 exact bH (v:= .int _ _) rfl rfl rfl fun w' hw=>⟨by unfold rh;rw [ah h2'],hw.1⟩
theorem Ju {f:Fl} {pr:Pr} {M:NM} {bank:List Py} {a:SA} {lose:Int} {d m:Nat} {A:Option Addr} {c:Nat} {l:List En} (p:Py) {w0 w:World} {L:List E.Item} (hL:marks L=[]) (hw:Mem w0 (jv d m A c l++(kZ f pr M bank++C' a lose::L)) w) (hn:bank.length≤256) (hls:lose≤1000000):
  Calls Tryz.prog 87 #[.pointer (some ⟨M.nb,0,none⟩), .pointer (some ⟨a.s,0,none⟩), .agg p.cells.toArray] w fun q w'=> ∃x:Option Addr×Nat,q= .returned (.int .i64 (if 0<lose then 33 else (nc bank p).2))∧Mem w0 (jv d m A c l++(kZ f pr {M with kA:=x.1,kc:=x.2} (sg bank p)++C' a (if 0<lose then lose -1 else lose)::L)) w':=by
 have h:Mem w0 (kZ f pr M bank++C' a lose::(jv d m A c l++L)) w:=hw.dh 8 [3,4,5,6,7,0,1,2] (by decide) (by decide);refine (TH p (L:=jv d m A c l++L) hL h hn hls).mono ?_;rintro q w' ⟨x,hq,hm⟩;exact ⟨x,hq,hm.dh 8 [5,6,7,0,1,2,3,4] (by decide) (by decide)⟩
def iR (n:Nat) (i:Int) (d:List En):List iY→List En
 |[]=>d
 |c::cs=>iR n i (if rh n c.rider=i then (AO d ⟨c.aP,c.rider,c.total⟩).1 else d) cs
def Ra (n:Nat) (i:Int) (bank:List Py) (x:SS) (bils:List iY):List Py×SS×Int×Int:=
 let d:=iR n i x.gm bils
 let q:=jB (jl d).length (bank,d,x.lose)
 (q.1,⟨x.eO,q.2.1,q.2.2⟩,(jl d).length -(jl q.2.1).length,0)
def tN (f:Fl) (p:Pr) (n:Nat) (i:Int) (bank:List Py) (x:SS):List Py×SS×Int×Int:=
 if dS f p (gO f x.eO) []≠0 then (bank,x,0,dS f p (gO f x.eO) []) else Ra n i bank x (iW f p (gO f x.eO) [])
theorem C0 (n:Nat) (i:Int): ∀(l:List iY) (d:List En) (b:iY),iR n i d (l++[b])=if rh n b.rider=i then (AO (iR n i d l) ⟨b.aP,b.rider,b.total⟩).1 else iR n i d l
 |[],d,b=>rfl
 |c::l,d,b=>by rw [gx,iR,C0 n i l _ b];rfl
theorem J' (l:List En) (p:Py) (h:l.length≤256):(AO l p).1.length≤256:=by
 rw [vV];split
 ·exact h
 split
 ·split<;>exact h
 split
 ·exact h
 simp;omega
theorem Eo {l:List En} {p:Py} {T:Int} (hT:0≤T) (h: ∀x∈l,0≤x.tries∧x.tries≤T): ∀x∈(AO l p).1,0≤x.tries∧x.tries≤T:=by
 rw [vV];split
 ·exact h
 split
 ·split<;>exact h
 split
 ·exact h
 intro x hx;rcases aQ.1 hx with hx|hx
 ·exact h x hx
 rw [bu.1 hx];exact ⟨gI _,hT⟩
theorem Hy (l:List En) (r e:Int):(r4 l r e).1.length=l.length:=by
 rw [vo];split
 ·rfl
 split
 ·rfl
 simp
theorem C1 {l:List En} {r e:Int} {T:Int} (h: ∀x∈l,0≤x.tries∧x.tries≤T): ∀x∈(r4 l r e).1,0≤x.tries∧x.tries≤T+1:=by
 have h': ∀x∈l,0≤x.tries∧x.tries≤T+1:=fun x hx=>by have:=h x hx;omega
 rw [vo];split
 ·exact h'
 rename_i i hi;split
 ·exact h'
 intro x hx;rcases cK hx with hx|hx
 ·exact h' x hx
 have:=h _ (an (zT hi).1);rw [hx];show 0≤_+1∧_+1≤T+1;omega
abbrev QS:=List Py×List En×Int
theorem uH (q:QS) (p:Py):AD q p=(sg q.1 p,(r4 q.2.1 p.aP (if 0<q.2.2 then 33 else (nc q.1 p).2)).1,if 0<q.2.2 then q.2.2 -1 else q.2.2):=by
 unfold AD sg;simp only;split<;>rfl
theorem M7 (b:List Py) (p:Py) (h:b.length≤256):(sg b p).length≤256:=by
 unfold sg;split
 ·exact M5 b p h
 exact h
theorem Nh {r m:Nat} {dv:Int} {l:List Ev} (w:World) (h1:(box r 127 [.int .i64 dv, .map (some m)]).A w) (h2:pU w m (AJ l)) (hd:1≤dv∧dv≤256) (hl:l.length≤10000):
  Calls Tryz.prog 66 #[.pointer (some ⟨r,0,none⟩)] w fun q w'=>q= .returned (.int .i64 (l5 dv l))∧gz w w':=by
 obtain ⟨n,rfl⟩:=sQ (show 0≤dv by omega);exact Vj w h1 h2 (by omega) hl
theorem AU {w0 w:World} {L:List E.Item} {l:List Rd} (y:O9 l) (hw:Mem w0 L w) (j k:Nat) (hj:L[j]?=some (jt y.1.1 y.1.2.1 y.1.2.2)) (hk:L[k]?=some (yn y.1.2.2)) (hn:l.length≤100000) (hl: ∀r∈l,r.cw.length≤100000∧r.bz.length≤100000):rE w y.1.1 y.1.2.2.length y.1.2.2:=by
 obtain ⟨⟨A,c,xs⟩,hy⟩:=y;simp only at hj hk;have hyl:xs.length=l.length:=by rw [←hy];simp
 exact KV hw hj hk (by simp only;omega) fun x hx=>hl x.r (by rw [←hy];exact cM hx)
theorem Vh (w:World):Pen.C4 w none 0 []:=⟨rfl,by omega,fun h=>absurd h (by omega)⟩
def FB (M:NM):FA:=⟨M.d.A,M.d.n,M.d.c,M.t.A,M.t.n,M.t.c⟩
abbrev Ah (dv:Int) (r m:Nat) (eO:List Ev) (L:List E.Item):List E.Item:=box r 127 [.int .i64 dv, .map (some m)]::oT m (AJ eO)::L
theorem K8 {f:Fl} {p:Pr} (M:NM) {bank:List Py} (a:SA) {x:SS} (i:Nat) (T:Int) {w0 w:World} {L:List E.Item} (hL:marks L=[]) (hw:Mem w0 (kZ f p M bank++(UZ f.aH a x++L)) w)
  (hFP: ∀w,Mem w0 L w→kp w f (FB M)∧lK w p M.p) (pw:M.ss[i]?=some a.s) (h8:M.ss.length≤8) (hok:fR f=0) (hdv:1≤f.aH∧f.aH≤256)
  (hp: ∀e∈x.eO,0≤e.device∧1≤e.seq) (hpl:IY (fH x.eO)) (hn:x.eO.length≤40) (hsh: ∀r∈iw f (fH x.eO),(r.cw.length≤100000∧r.bz.length≤100000)∧r.pl≤9223372036854775807)
  (hbk:bank.length≤256) (hd:x.gm.length≤256) (hT:0≤T∧T≤900000) (ht: ∀e∈x.gm,0≤e.tries∧e.tries≤T) (hl:x.lose≤1000000):
  Calls Tryz.prog 44 #[.pointer (some ⟨M.nb,0,none⟩), .int .i64 i] w fun q w'=> ∃y:(Option Addr×Nat)×(Option Addr×Nat),q= .returned (.tuple #[.int .i64 (tN f p M.ss.length i bank x).2.2.1, .int .i64 (tN f p M.ss.length i bank x).2.2.2])∧
   Mem w0 (kZ f p {M with kA:=y.1.1,kc:=y.1.2} (tN f p M.ss.length i bank x).1++(UZ f.aH {a with A:=y.2.1,c:=y.2.2} (tN f p M.ss.length i bank x).2.1++L)) w':=by
 obtain ⟨nb,md,mt,mp,sA,sc,ss,bA,bc,bs,kA,kc⟩:=M;obtain ⟨sv,ar,am,ad,ae,aA,ac⟩:=a;obtain ⟨eO,gm,lose⟩:=x;simp only at hFP pw h8 hp hpl hn hsh hbk hd ht hl⊢;have hi:i<ss.length:=(aa.1 pw).1;have hel:(fH eO).length=eO.length:=kb eO;have hacc:=tu f (fH eO);have hr20:=zk hok (fH eO);have hall:=Fu (f:=f) (fH eO);have hpl': ∀r∈iw f (fH eO),r.cw.length≤100000∧r.bz.length≤100000:=fun r hr=>(hsh r hr).1;refine eu hw hL Tryz.func44 rfl Tryz.ntmps44 rfl ?_;iterate 7 refine G ?_
 refine fN (fun w hw=>dP (j:=1) hw rfl (by show 0<ss.length;omega)) fun ⟨sb,hsb⟩=>?_;subst hsb;iterate 6 refine G ?_
 refine bO (bt i cv fZ (q0 rfl) (q0 rfl) (fun _=>⟨rfl,hi⟩)) ?_;refine bO (eL wo (q0 rfl) (oR 1 rfl pw rfl)) ?_;iterate 4 refine G ?_
 refine AQ ?_;refine aW 0 ?_;refine aW 1 ?_;refine aW 2 ?_;refine iQ 3 rfl (eP iv fG (q0 rfl)) ?_;refine aW 4 ?_;refine aW 5 ?_;refine aW 6 ?_;refine aW 7 ?_;refine r1 8 0 ?_;refine aL rfl (di (en Ew (il (q0 rfl))) (fun w hw=>u7 (l:=eO) w (hw.item (k:=5) rfl) (hw.item (k:=6) rfl) hp (by omega)) rfl (fun _=>rfl) fun ev=>?_);refine r1 9 1 ?_;refine aL rfl (di (en Tryz.call63 (gr (q0 rfl) (q0 rfl))) (fun w hw=>Rid.Ay f ⟨md.A,md.n,md.c,mt.A,mt.n,mt.c⟩ ev.1 (fH eO).length ev.2 (fH eO) w (hFP w (hw.dh 11 [] (by decide) (by decide))).1 (cW hw (j:=0) rfl (fun _=>rfl) (by omega)) (by omega) hpl (by omega)) rfl (fun _=>rfl) fun rd=>?_);refine xw (bK 3) ?_;refine aW 10 ?_;refine aW 11 ?_;refine aW 12 ?_;refine aW 13 ?_;refine aW 14 ?_;refine jz 0 ?_;iterate 8 refine G ?_
 refine au rfl ?_ ?_<;>intro h1
 ·exfalso;simp [hok] at h1
 have hrm:rd.1.2.2.map (·.r)=iw f (fH eO):=rd.2;have hsub: ∀r∈((rd.1.2.2.map (·.r)).filter (kT (l5 f.aH eO))),r∈iw f (fH eO):=fun r hr=>by rw [hrm] at hr;exact (dT.1 hr).1
 have hfs: ∀r∈((rd.1.2.2.map (·.r)).filter (kT (l5 f.aH eO))),r.cw.length≤100000∧r.bz.length≤100000:=fun r hr=>(hsh r (hsub r hr)).1;have hfp: ∀r∈((rd.1.2.2.map (·.r)).filter (kT (l5 f.aH eO))),r.pl≤9223372036854775807:=fun r hr=>(hsh r (hsub r hr)).2;have hfl:((rd.1.2.2.map (·.r)).filter (kT (l5 f.aH eO))).length≤100000:=by
  have:=da (kT (l5 f.aH eO)) (rd.1.2.2.map (·.r));rw [hrm] at this⊢;omega
 iterate 3 refine G ?_
 refine AQ ?_;refine aW 0 ?_;refine aW 1 ?_;refine aW 2 ?_;refine iQ 3 rfl (eP iv fG (q0 rfl)) ?_;refine aW 4 ?_;refine aW 5 ?_;refine aW 6 ?_;refine iQ 7 rfl (eP kz iM (q0 rfl)) ?_;refine aW 8 ?_;refine aW 9 ?_;refine aW 10 ?_;refine aW 11 ?_;refine aW 12 ?_;refine aC 13 (by decide+kernel) rfl (en Tryz.call66 (il (q0 rfl))) (fun _ w hw=>Nh (l:=eO) w (hw.item (k:=8) rfl) (hw.item (k:=9) rfl) hdv (by omega)) rfl ?_;refine r1 14 0 ?_;refine aL rfl (di (en Tryz.call65 (gr (q0 rfl) (q0 rfl))) (fun w hw=>Ba rd.1.1 rd.1.2.2.length rd.1.2.1 rd.1.2.2 (l5 f.aH eO) w (AU rd hw 0 1 rfl rfl (by omega) hpl') (fun y hy=>hpl' y.r (by rw [←rd.2];exact cM hy)) (by have:=aT List.length rd.2;rw [aD] at this;omega)) rfl (fun _=>rfl) fun fn=>?_);refine r1 15 2 ?_;refine aL rfl (di (en Tryz.call64 (Fb (q0 rfl) (q0 rfl) (q0 rfl) (q0 rfl))) (fun w hw=>Far.Ay f ⟨md.A,md.n,md.c,mt.A,mt.n,mt.c⟩ p mp fn.1.1 fn.1.2.2.length fn.1.2.1 fn.1.2.2 none 0 0 [] w (hFP w (hw.dh 15 [] (by decide) (by decide))).1 (hFP w (hw.dh 15 [] (by decide) (by decide))).2 (AU fn hw 0 1 rfl rfl hfl hfs) (fun y hy=>hfs y.r (by rw [←fn.2];exact cM hy)) (Vh w) (fun y hy=>hfp y.r (by rw [←fn.2];exact cM hy))) rfl (fun _=>rfl) fun fr=>?_);refine xw (bK 4) ?_;refine aW 16 ?_;refine aW 17 ?_;refine aW 18 ?_;refine aW 19 ?_;refine aW 20 ?_;refine jz 0 ?_;iterate 8 refine G ?_
 have hfin:fn.1.2.2.map (·.r)=gO f eO:=by rw [fn.2,hrm];rfl
 refine au rfl ?_ ?_<;>intro h2
 ·have h2':dS f p (gO f eO) []≠0:=by rw [←hfin];simpa using h2
  have hc:tN f p ss.length i bank ⟨eO,gm,lose⟩=(bank,⟨eO,gm,lose⟩,0,dS f p (gO f eO) []):=by unfold tN;rw [av h2']
  rw [hc];iterate 9 refine G ?_
  exact fV (v:= .int _ _) (x:= .int _ _) rfl rfl rfl hL fun w' hw=>⟨((kA,kc),(aA,ac)),by rw [←hfin],hw.dh 17 [7,8,9,10,11,12,13,14,15,16] (by decide) (by decide)⟩
 have h2': ¬dS f p (gO f eO) []≠0:=by rw [←hfin];simpa using h2
 obtain ⟨⟨zs,zA,zc⟩,hz⟩:=fr;have hz:zs.map (·.b)=iW f p (gO f eO) []:=by rw [←hfin];exact hz
 generalize hbl:iW f p (gO f eO) []=bils at hz;have hc:tN f p ss.length i bank ⟨eO,gm,lose⟩=Ra ss.length i bank ⟨eO,gm,lose⟩ bils:=by unfold tN;rw [ah h2',hbl]
 rw [hc];clear hc;have hzl:zs.length=bils.length:=by rw [←hz,aD]
 have hb40:bils.length≤40:=by
  have h0:dS f p (gO f eO) []=0:=by simpa using h2'
  have h1:=(tq h0).length_eq;rw [aD,aD,hbl] at h1;have h3:=da (fun r:Rd=>!r.open_) (gO f eO);have h4:=da (kT (l5 f.aH eO)) (iw f (fH eO));have h5:(gO f eO).length=((iw f (fH eO)).filter (kT (l5 f.aH eO))).length:=rfl;omega
 iterate 11 refine G ?_
 refine ct [11,62,63,64,65,66,67,68,69,70,71,72,73,74,75,76,77,78,79,80,81,82,83,84] (fun s:Nat×Option Addr×Nat=>[(62, .int .i64 s.1)]) (fun s=>jv ad ae s.2.1 s.2.2 (iR ss.length i gm (bils.take s.1))++(kZ f p ⟨nb,md,mt,mp,some ⟨sb,0,none⟩,sc,ss,bA,bc,bs,kA,kc⟩ bank++C' ⟨sv,ar,am,ad,ae,aA,ac⟩ lose::Ah f.aH ar am eO (ua zA zc zs::L))) (fun s=>s.1≤zs.length∧(iR ss.length i gm (bils.take s.1)).length≤256∧ ∀e∈iR ss.length i gm (bils.take s.1),0≤e.tries∧e.tries≤T) (fun s=>zs.length -s.1) (0,aA,ac) ⟨rfl,trivial⟩ (fun w hw=>hw.dh 17 [14,15,16,7,8,9,10,11,12,13,0] (by decide) (by decide)) rfl ⟨aU _,hd,ht⟩ ?_;rintro ⟨k,A1,c1⟩ g ⟨hk,hk1,hk2⟩;have hk:k≤zs.length:=hk;have hk1:(iR ss.length i gm (bils.take k)).length≤256:=hk1;have hk2: ∀e∈iR ss.length i gm (bils.take k),0≤e.tries∧e.tries≤T:=hk2;iterate 6 refine G ?_
 refine au rfl ?_ ?_<;>intro hlt
 ·have hlt':k<zs.length:=by simpa using hlt
  have hzk:=np hlt';generalize zs.getD k default=z at hzk;have hbk2:bils[k]?=some z.b:=by rw [←hz,bf,hzk];rfl
  have hst:iR ss.length i gm (bils.take (k+1))=if rh ss.length z.b.rider=i then (AO (iR ss.length i gm (bils.take k)) ⟨z.b.aP,z.b.rider,z.b.total⟩).1 else iR ss.length i gm (bils.take k):=by rw [wB bils k z.b hbk2,C0]
  refine fN (fun w hw=>dP (j:=10) hw rfl (by omega)) fun ⟨zb,hzb⟩=>?_;subst hzb;iterate 6 refine G ?_
  refine bO (bt k r9 oP (q0 rfl) (q0 rfl) (fun _=>⟨rfl,hlt'⟩)) ?_;refine bO (eS I1 oP (q0 rfl) (sf 10 rfl hzk)) ?_;refine cx Kg rfl fun b11=>?_;refine fI (v:= .agg _) rfl rfl oP ?_;iterate 7 refine G ?_
  refine gV (en Wi (gr (q0 rfl) (q0 rfl))) (fun _ w hw=>Jw (M:=⟨nb,md,mt,mp,some ⟨sb,0,none⟩,sc,ss,bA,bc,bs,kA,kc⟩) z.b.rider w (hw.item (k:=4) rfl) (by show 1≤ss.length;omega) h8) ?_;iterate 4 refine G ?_
  refine au rfl ?_ ?_<;>intro h3
  ·have h3':rh ss.length z.b.rider=i:=by simpa using h3
   rw [av h3'] at hst;refine fY (L':=jv ad ae A1 c1 (iR ss.length i gm (bils.take k))++box b11 81 z.cells::(kZ f p ⟨nb,md,mt,mp,some ⟨sb,0,none⟩,sc,ss,bA,bc,bs,kA,kc⟩ bank++C' ⟨sv,ar,am,ad,ae,aA,ac⟩ lose::Ah f.aH ar am eO (ua (some ⟨zb,0,none⟩) zc zs::L))) (fun w hw=>hw.dh 4 [1,2,3,0] (by decide) (by decide)) rfl ?_;refine zd 3 ?_;refine aW 0 ?_;refine aW 1 ?_;refine aW 2 ?_;refine aW 3 ?_;refine aW 4 ?_;refine aW 5 ?_;refine aW 6 ?_;refine aW 7 ?_;refine aW 8 ?_;refine aW 9 ?_;refine iQ 10 rfl (bS l8 QO jo (pt (v:= .int _ _) rfl (pt (v:= .int _ _) rfl (pt (v:= .int _ _) rfl E.p0))) rfl) ?_;refine r1 11 3 ?_;refine aL rfl (bR (en Tryz.call84 (gr (q0 rfl) (q0 rfl))) (fun w hw=>VR ⟨z.b.aP,z.b.rider,z.b.total⟩ (by exact hL) hw hk1) rfl (fun _=>rfl) fun y=>?_);refine jz 3 ?_;iterate 6 refine G ?_
   exact ay (k+1,y.1,y.2) eE ⟨rfl,trivial⟩ (fun w hw=>by show Mem _ (jv ad ae y.1 y.2 (iR ss.length i gm (bils.take (k+1)))++_) w;rw [hst];exact hw.dh 4 [0,1,2] (by decide) (by decide)) rfl ⟨by show k+1≤zs.length;omega,by show (iR ss.length i gm (bils.take (k+1))).length≤256;rw [hst];exact J' _ _ hk1,by show ∀e∈iR ss.length i gm (bils.take (k+1)),_;rw [hst];exact Eo hT.1 hk2⟩ (by show zs.length -(k+1)<zs.length -k;omega)
  have h3': ¬rh ss.length z.b.rider=i:=by simpa using h3
  rw [ah h3'] at hst;iterate 7 refine G ?_
  exact ay (k+1,A1,c1) eE ⟨rfl,trivial⟩ (fun w hw=>by show Mem _ (jv ad ae A1 c1 (iR ss.length i gm (bils.take (k+1)))++_) w;rw [hst];exact hw.tail) rfl ⟨by show k+1≤zs.length;omega,by show (iR ss.length i gm (bils.take (k+1))).length≤256;rw [hst];exact hk1,by show ∀e∈iR ss.length i gm (bils.take (k+1)),_;rw [hst];exact hk2⟩ (by show zs.length -(k+1)<zs.length -k;omega)
 have hke:k=zs.length:=by simp at hlt;omega
 subst hke;rw [hzl,dp] at hk1 hk2;refine fY (L':=jv ad ae A1 c1 (iR ss.length i gm bils)++(kZ f p ⟨nb,md,mt,mp,some ⟨sb,0,none⟩,sc,ss,bA,bc,bs,kA,kc⟩ bank++C' ⟨sv,ar,am,ad,ae,aA,ac⟩ lose::Ah f.aH ar am eO L)) (fun w hw=>by rw [hzl,dp] at hw;exact hw.dh 11 [0,1,2,3,4,5,6,7,8,9] (by decide) (by decide)) rfl ?_;unfold Ra;simp only;generalize iR ss.length i gm bils=d0 at hk1 hk2⊢;iterate 11 refine G ?_
 refine bZ (bR (en Ma (il (q0 rfl))) (fun w hw=>EY (by exact hL) hw hk1) rfl (fun _=>rfl) fun y=>?_);obtain ⟨oA,oc⟩:=y;iterate 12 refine G ?_
 have hol:(jl d0).length≤d0.length:=by unfold jl jC;rw [aD];exact da _ _
 generalize hto:(jl d0).length=t0 at hol⊢;refine ct [13,14,92,93,94,95,96,97,98,99,100,101,102,103,104,105,106,107,108,109,110,111,112,113,114,115] (fun s:Nat×QS×Option Addr×Nat=>[(92, .int .i64 s.1)]) (fun s=>jv ad ae A1 c1 s.2.1.2.1++(kZ f p ⟨nb,md,mt,mp,some ⟨sb,0,none⟩,sc,ss,bA,bc,bs,s.2.2.1,s.2.2.2⟩ s.2.1.1++C' ⟨sv,ar,am,ad,ae,aA,ac⟩ s.2.1.2.2::Ah f.aH ar am eO L)) (fun s=>s.1≤t0∧jB t0 (bank,d0,lose)=jB (t0 -s.1) s.2.1∧s.2.1.1.length≤256∧s.2.1.2.1.length≤256∧(∀e∈s.2.1.2.1,0≤e.tries∧e.tries≤T+s.1)∧s.2.1.2.2≤1000000) (fun s=>t0 -s.1) (0,(bank,d0,lose),kA,kc) ⟨rfl,trivial⟩ (fun w hw=>hw.tail) rfl ⟨aU _,rfl,hbk,hk1,by simpa using hk2,hl⟩ ?_;rintro ⟨k,⟨bk,dk,lk⟩,kA2,kc2⟩ g2 ⟨hq0,hq1,hq2,hq3,hq4,hq5⟩;have hq0:k≤t0:=hq0;have hq1:jB t0 (bank,d0,lose)=jB (t0 -k) (bk,dk,lk):=hq1;have hq2:bk.length≤256:=hq2;have hq3:dk.length≤256:=hq3;have hq4: ∀e∈dk,0≤e.tries∧e.tries≤T+k:=hq4;have hq5:lk≤1000000:=hq5;have hok2:(jl dk).length≤dk.length:=by unfold jl jC;rw [aD];exact da _ _
 iterate 6 refine G ?_
 refine au rfl ?_ ?_<;>intro hlt2
 ·have hlt3:k<t0:=by simpa using hlt2
  rw [show t0 -k=(t0 -(k+1))+1 by omega,jB] at hq1;iterate 10 refine G ?_
  refine bZ (bR (en Tryz.call85 (il (q0 rfl))) (fun w hw=>TI (by exact hL) hw hq3) rfl (fun _=>rfl) fun u=>?_);iterate 3 refine G ?_
  refine cx jo rfl fun b13=>?_;refine fI (v:= .agg _) rfl rfl fj ?_;iterate 10 refine G ?_
  refine au rfl ?_ ?_<;>intro h4
  ·have hnn:tY dk=none:=by
    cases hne:tY dk with
    |none=>rfl
    |some j=>simp [uT,hne] at h4
   rw [hnn] at hq1;rw [hq1];iterate 14 refine G ?_
   refine bZ (bR (en Ma (il (q0 rfl))) (fun w hw=>EY (by exact hL) hw.tail hq3) rfl (fun _=>rfl) fun y=>?_);refine G ?_;refine bO (ou (r:=(t0:Int) -((jl dk).length:Int)) (q0 rfl) (q0 rfl) (fun _=>⟨rfl,by omega,by omega⟩)) ?_;iterate 5 refine G ?_
   exact fV (v:= .int _ _) (x:= .int _ _) rfl rfl rfl hL fun w' hw=>⟨((kA2,kc2),(A1,c1)),rfl,hw.dh 11 [4,5,6,7,8,9,10,1,2,3] (by decide) (by decide)⟩
  obtain ⟨j,hj⟩: ∃j,tY dk=some j:=by
   cases hne:tY dk with
   |none=>simp [uT,hne] at h4
   |some j=>exact ⟨j,rfl⟩
  have hpj:(uT dk).1=(dk.getD j default).jF:=by unfold uT;rw [hj]
  rw [hj] at hq1;simp only at hq1;rw [←hpj,uH] at hq1;simp only at hq1;generalize (uT dk).1=py at hq1⊢;iterate 2 refine G ?_
  refine fY (L':=jv ad ae A1 c1 dk++(kZ f p ⟨nb,md,mt,mp,some ⟨sb,0,none⟩,sc,ss,bA,bc,bs,kA2,kc2⟩ bk++C' ⟨sv,ar,am,ad,ae,aA,ac⟩ lk::box b13 90 py.cells::Ah f.aH ar am eO L)) (fun w hw=>hw.dh 9 [1,2,3,4,5,6,7,8,0] (by decide) (by decide)) rfl ?_;refine jK [104,105,106,107,108,109,110,111,112,113,114] (fun x:Option Addr×Nat=>[]) (fun x=>jv ad ae A1 c1 (r4 dk py.aP (if 0<lk then 33 else (nc bk py).2)).1++(kZ f p ⟨nb,md,mt,mp,some ⟨sb,0,none⟩,sc,ss,bA,bc,bs,x.1,x.2⟩ (sg bk py)++C' ⟨sv,ar,am,ad,ae,aA,ac⟩ (if 0<lk then lk -1 else lk)::box b13 90 py.cells::Ah f.aH ar am eO L)) (fun _=>True) ?_ ?_
  ·refine zd 8 ?_;refine aW 0 ?_;refine aW 1 ?_;refine aW 2 ?_;refine aW 4 ?_;refine aW 5 ?_;refine aW 6 ?_;refine aW 7 ?_;refine aW 8 ?_;refine kY (i:=3) (j:=9) (by decide+kernel) (bK 8) ?_ ?_
   ·refine aL rfl (gY (ea (v:= .pointer (some ⟨ad,0,none⟩)) Tryz.isAgg99 (q0 rfl) cb) rfl rfl ?_);refine r1 9 8 ?_;refine aL rfl (bR (en Tryz.call87 (nj (q0 rfl) (q0 rfl) (q0 rfl))) (fun w hw=>Ju (f:=f) (pr:=p) (M:=⟨nb,md,mt,mp,some ⟨sb,0,none⟩,sc,ss,bA,bc,bs,kA2,kc2⟩) (bank:=bk) (a:=⟨sv,ar,am,ad,ae,aA,ac⟩) (lose:=lk) (d:=ad) (m:=ae) (A:=A1) (c:=c1) (l:=dk) (L:=box b13 90 py.cells::Ah f.aH ar am eO L) py hL hw hq2 hq5) rfl (fun _=>rfl) fun y=>?_);refine r1 10 8 ?_;refine aL rfl (bR (en Tryz.call86 (nj (q0 rfl) (q0 rfl) (q0 rfl))) (fun w hw=>Hx (d:=ad) (m:=ae) (A:=A1) (c:=c1) (l:=dk) py.aP (if 0<lk then 33 else (nc bk py).2) (by exact hL) hw (fun e he=>by have:=hq4 e he;omega)) rfl (fun _=>rfl) fun u=>?_);refine jz 8 ?_;exact aO (y:Option Addr×Nat) eE trivial (fun w hw=>hw) rfl trivial
   refine aL rfl (bR (en Tryz.call87 (nj (q0 rfl) (q0 rfl) (q0 rfl))) (fun w hw=>Ju (f:=f) (pr:=p) (M:=⟨nb,md,mt,mp,some ⟨sb,0,none⟩,sc,ss,bA,bc,bs,kA2,kc2⟩) (bank:=bk) (a:=⟨sv,ar,am,ad,ae,aA,ac⟩) (lose:=lk) (d:=ad) (m:=ae) (A:=A1) (c:=c1) (l:=dk) (L:=box b13 90 py.cells::Ah f.aH ar am eO L) py hL hw hq2 hq5) rfl (fun _=>rfl) fun y=>?_);refine r1 3 8 ?_;refine aL rfl (gY (ea (v:= .pointer (some ⟨ad,0,none⟩)) Tryz.isAgg99 (q0 rfl) cb) rfl rfl ?_);refine r1 10 8 ?_;refine aL rfl (bR (en Tryz.call86 (nj (q0 rfl) (q0 rfl) (q0 rfl))) (fun w hw=>Hx (d:=ad) (m:=ae) (A:=A1) (c:=c1) (l:=dk) py.aP (if 0<lk then 33 else (nc bk py).2) (by exact hL) hw (fun e he=>by have:=hq4 e he;omega)) rfl (fun _=>rfl) fun u=>?_);refine jz 8 ?_;exact aO (y:Option Addr×Nat) eE trivial (fun w hw=>hw) rfl trivial
  rintro x g3 _;iterate 6 refine G ?_
  exact ay (k+1,(sg bk py,(r4 dk py.aP (if 0<lk then 33 else (nc bk py).2)).1,if 0<lk then lk -1 else lk),x.1,x.2) eE ⟨rfl,trivial⟩ (fun w hw=>hw.dh 9 [0,1,2,3,4,5,6,7] (by decide) (by decide)) rfl ⟨by show k+1≤t0;omega,hq1,M7 _ _ hq2,by show (r4 dk py.aP _).1.length≤256;rw [Hy];exact hq3,fun e he=>by have:=C1 hq4 e he;show 0≤e.tries∧e.tries≤T+((k+1:Nat):Int);omega,by show (if 0<lk then lk -1 else lk)≤1000000;split<;>omega⟩ (by show t0 -(k+1)<t0 -k;omega)
 have hkt:k=t0:=by simp at hlt2;omega
 subst hkt;rw [fy,jB] at hq1;rw [hq1];iterate 12 refine G ?_
 refine bZ (bR (en Ma (il (q0 rfl))) (fun w hw=>EY (by exact hL) hw hq3) rfl (fun _=>rfl) fun y=>?_);refine G ?_;refine bO (ou (r:=(k:Int) -((jl dk).length:Int)) (q0 rfl) (q0 rfl) (fun _=>⟨rfl,by omega,by omega⟩)) ?_;iterate 5 refine G ?_
 exact fV (v:= .int _ _) (x:= .int _ _) rfl rfl rfl hL fun w' hw=>⟨((kA2,kc2),(A1,c1)),rfl,hw.dh 11 [4,5,6,7,8,9,10,1,2,3] (by decide) (by decide)⟩
def p5 (dv:Int) (y:SA×SS):List E.Item:=UZ dv y.1 y.2
def rG (y:(Nat×Nat)×List Bool):List E.Item:=[E.dR 4 1 Ht (some ⟨y.1.1,0,none⟩) y.1.2 y.2]
abbrev q8 (f:Fl) (p:Pr) (M:NM) (bank:List Py) (sv:List (SA×SS)) (ap:List ((Nat×Nat)×List Bool)) (L:List E.Item):List E.Item:=kZ f p M bank++(dD (sv.flatMap (p5 f.aH))::dD (ap.flatMap rG)::L)
theorem Bq {α:Type}: ∀{xs:List α} {i j:Nat} {x y:α},xs[i]?=some x→xs[j]?=some y→i≠j→ ∃R,xs.Perm (x::y::R)∧ ∀x' y',((xs.set i x').set j y').Perm (x'::y'::R)
 |[],i,j,x,y,h,_,_=>by simp at h
 |a::l,0,0,x,y,_,_,hn=>absurd rfl hn
 |a::l,0,j+1,x,y,h1,h2,_=>by
  simp only [Dd,eQ,De] at h1 h2;subst h1;refine ⟨l.eraseIdx j,(rv l j y h2).symm.cons a,fun x' y'=>?_⟩;exact (set_perm l j y' (aa.1 h2).1).cons x'
 |a::l,i+1,0,x,y,h1,h2,_=>by
  simp only [Dd,eQ,De] at h1 h2;subst h2;refine ⟨l.eraseIdx i,((rv l i x h1).symm.cons a).trans (List.Perm.swap ..),fun x' y'=>?_⟩;exact ((set_perm l i x' (aa.1 h1).1).cons y').trans (List.Perm.swap ..)
 |a::l,i+1,j+1,x,y,h1,h2,hn=>by
  simp only [De] at h1 h2;obtain ⟨R,h3,h4⟩:=Bq h1 h2 (fun h=>hn (by rw [h]));refine ⟨a::R,?_,fun x' y'=>?_⟩
  ·exact (h3.cons a).trans ((fx (l₁:=[x,y])).symm)
  exact ((h4 x' y').cons a).trans ((fx (l₁:=[x',y'])).symm)
theorem yP {w0 w:World} {S T L:List E.Item} (h:Mem w0 (dD S::L) w) (hp:S.Perm T):Mem w0 (dD T::L) w:=(h.uG.perm (tS L hp.symm)).dD
theorem FU {α:Type} {g:α→List E.Item} {xs:List α} {x y:α} {R:List α} {w0 w:World} {L:List E.Item} (h:Mem w0 (dD (xs.flatMap g)::L) w) (hp:xs.Perm (x::y::R)):Mem w0 (g x++(g y++(dD (R.flatMap g)::L))) w:=by
 have h1:=(yP h (hp.flatMap_right g)).uG;rw [gD,gD,cP,cP] at h1;have h2:=h1.perm (L':=R.flatMap g++(g x++(g y++L))) (by
  refine (ic ..).trans (pJ _ (ic ..)))
 have h3:=h2.dD;exact h3.perm ((pJ (g x) fx).trans fx)
theorem Dx {α:Type} {g:α→List E.Item} {xs:List α} {x y:α} {R:List α} {w0 w:World} {L:List E.Item} (h:Mem w0 (g x++(g y++(dD (R.flatMap g)::L))) w) (hp:xs.Perm (x::y::R)):Mem w0 (dD (xs.flatMap g)::L) w:=by
 have h3:=h.perm (L':=dD (R.flatMap g)::(g x++(g y++L))) ((pJ (g x) fx).trans fx).symm;have h2:=h3.uG.perm (L':=g x++(g y++(R.flatMap g++L))) (by
  refine ((ic ..).trans (pJ _ (ic ..))).symm)
 rw [←cP,←cP,cP (g x),←gD,←gD] at h2;exact yP h2.dD (hp.symm.flatMap_right g)
theorem R4 (b:Bool) (w:World):Calls Tryz.prog 43 #[.bool b] w fun q w'=>q= .returned (.int .i64 (if b=true then 1 else 0))∧gz w w':=by
 refine aS Tryz.func43 rfl Tryz.ntmps43 rfl ?_;iterate 11 refine G ?_
 refine au rfl ?_ ?_<;>intro h
 ·have h':b=true:=by simpa using h
  rw [av h'];iterate 7 refine G ?_
  exact bH (v:= .int _ _) rfl rfl rfl fun w' hw=>⟨rfl,hw.1⟩
 have h': ¬b=true:=by simpa using h
 rw [ah h'];iterate 8 refine G ?_
 exact bH (v:= .int _ _) rfl rfl rfl fun w' hw=>⟨rfl,hw.1⟩
def hasB (n:Nat) (k:Int):Bool:=decide (0≤k)&&decide (k<n)
theorem E0 {f:Fl} {pr:Pr} {M:NM} {m:Nat} (k:Int) (w:World) (h:(box M.nb 97 (Gw f pr M m)).A w):Calls Tryz.prog 40 #[.pointer (some ⟨M.nb,0,none⟩), .int .i64 k] w fun q w'=>q= .returned (.bool (hasB M.ss.length k))∧gz w w':=by
 have hb:=pz h;have hr:=p9 h;refine aS Tryz.func40 rfl Tryz.ntmps40 rfl ?_;iterate 8 refine G ?_
 refine bO (CN e9 (q0 rfl)) ?_;iterate 17 refine G ?_
 exact bH (v:= .bool _) rfl rfl rfl fun w' hw=>⟨rfl,hw.1⟩
def k7.cells (x:k7):List Value:= .int .i64 x.kind:: .int .i64 x.a:: .int .i64 x.b::x.ev.cells
def zg (n:Nat) (x:k7):Int:=if hasB n x.b=false then 7 else if x.a=x.b then 1 else 0
theorem Dk {fs:Array Field} (h:Tryz.prog.underlying 60=some (.struct fs):=by exact ee):dN Tryz.prog fs [(0,1),(1,1),(2,1),(3,9)]:=by
 rw [ee] at h;cases h;intro w;kernel_rfl
theorem UU {f:Fl} {pr:Pr} {M:NM} {m:Nat} (x:k7) (w:World) (h:(box M.nb 97 (Gw f pr M m)).A w):Calls Tryz.prog 45 #[.pointer (some ⟨M.nb,0,none⟩), .agg x.cells.toArray] w fun q w'=>q= .returned (.int .i64 (zg M.ss.length x))∧gz w w':=by
 have hb:=pz h;refine aS Tryz.func45 rfl Tryz.ntmps45 rfl ?_;iterate 2 refine G ?_
 refine cd (v:= .agg _) rfl rfl fun b3=>?_;iterate 10 refine G ?_
 refine gV (en Mb (gr (q0 rfl) (q0 rfl))) (fun _ w hw=>E0 (f:=f) (pr:=pr) (M:=M) (m:=m) x.b w ((box M.nb 97 (Gw f pr M m)).st _ _ (fun b hb'=>by have:b=M.nb:=hb';subst this;exact hw.1.block _ hb) h)) ?_;iterate 4 refine G ?_
 refine au rfl ?_ ?_<;>intro h1
 ·have h1':hasB M.ss.length x.b=false:=by simpa using h1
  iterate 8 refine G ?_
  exact bH (v:= .int _ _) rfl rfl rfl fun w' hw=>⟨by unfold zg;rw [av h1'],hw.1⟩
 have h1': ¬hasB M.ss.length x.b=false:=by simpa using h1
 iterate 10 refine G ?_
 refine au rfl ?_ ?_<;>intro h2
 ·have h2':x.a=x.b:=by simpa using h2
  iterate 8 refine G ?_
  exact bH (v:= .int _ _) rfl rfl rfl fun w' hw=>⟨by unfold zg;rw [ah h1',av h2'],hw.1⟩
 have h2': ¬x.a=x.b:=by simpa using h2
 iterate 9 refine G ?_
 exact bH (v:= .int _ _) rfl rfl rfl fun w' hw=>⟨by unfold zg;rw [ah h1',ah h2'],hw.1⟩
def H6 (ap:List ((Nat×Nat)×List Bool)) (i j:Nat) (v:Bool):List ((Nat×Nat)×List Bool):=ap.set i ((ap.getD i default).1,(ap.getD i default).2.set j v)
def AM (ap:List ((Nat×Nat)×List Bool)) (i j:Nat) (v:Bool):List ((Nat×Nat)×List Bool):=H6 (H6 ap i j v) j i v
def Ro (ap:List ((Nat×Nat)×List Bool)) (i j:Nat):Bool:=(ap.getD i default).2.getD j false
theorem getD_at {α:Type} {xs:List α} {i:Nat} {x d:α} (h:xs[i]?=some x):xs.getD i d=x:=by simp [h]
theorem Eg {f:Fl} {p:Pr} {M:NM} {bank:List Py} {ap:List ((Nat×Nat)×List Bool)} (i j:Nat) (v:Bool) {w0 w:World} {L:List E.Item} (hL:marks L=[]) (hw:Mem w0 (kZ f p M bank++(dD (ap.flatMap rG)::L)) w)
  (hbs:M.bs=ap.map (·.1)) (hn:M.ss.length=ap.length) (h8:ap.length≤8) (hr: ∀y∈ap,y.2.length=ap.length) (hi:i<ap.length) (hj:j<ap.length) (hij:i≠j):
  Calls Tryz.prog 46 #[.pointer (some ⟨M.nb,0,none⟩), .int .i64 i, .int .i64 j, .bool v] w fun q w'=> ∃_x:Unit,q= .returned (.int .i64 (if (Ro ap i j !=v)=true then 1 else 0))∧Mem w0 (kZ f p M bank++(dD ((AM ap i j v).flatMap rG)::L)) w':=by
 obtain ⟨nb,md,mt,mp,sA,sc,ss,bA,bc,bs,kA,kc⟩:=M;simp only at hbs hn;have hx:=np hi;have hy:=np hj;obtain ⟨R,hR,hR2⟩:=Bq hx hy hij;generalize hxe:ap.getD i default=x at hx hR;generalize hye:ap.getD j default=y at hy hR;obtain ⟨⟨xb,xc⟩,xl⟩:=x;obtain ⟨⟨yb,yc⟩,yl⟩:=y;have hxl:xl.length=ap.length:=hr _ (an hx);have hyl:yl.length=ap.length:=hr _ (an hy);have hc:AM ap i j v=(ap.set i ((xb,xc),xl.set j v)).set j ((yb,yc),yl.set i v):=by
  unfold AM H6;rw [hxe];have:(ap.set i ((xb,xc),xl.set j v)).getD j default=((yb,yc),yl):=by
   rw [aq,cj hij,hy];rfl
  simp only [this]
 have hbi:bs[i]?=some (xb,xc):=by rw [hbs,bf,hx];rfl
 have hbj:bs[j]?=some (yb,yc):=by rw [hbs,bf,hy];rfl
 have hbl:bs.length=ap.length:=by rw [hbs,aD]
 have hap:Ro ap i j=xl.getD j false:=by unfold Ro;rw [hxe]
 have hxj:=np (l:=xl) (i:=j) (by omega);have hyi:=np (l:=yl) (i:=i) (by omega);rw [hap];have hw:Mem w0 (rG ((xb,xc),xl)++(rG ((yb,yc),yl)++(dD (R.flatMap rG)::(kZ f p ⟨nb,md,mt,mp,sA,sc,ss,bA,bc,bs,kA,kc⟩ bank++L)))) w:=FU (hw.dh 5 [4,0,1,2,3] (by decide) (by decide)) hR;refine eu hw hL Tryz.func46 rfl Tryz.ntmps46 rfl ?_;iterate 6 refine G ?_
 refine fN (fun w hw=>dP (j:=5) hw rfl (by simp only;omega)) fun ⟨sb,hsb⟩=>?_;subst hsb;iterate 6 refine G ?_
 refine bO (bt i dQ iX (q0 rfl) (q0 rfl) (fun _=>⟨rfl,by simp only;omega⟩)) ?_;refine bO (eL FF (q0 rfl) (oR 5 rfl hbi rfl)) ?_;refine G ?_;refine bO (bt j eN dG (q0 rfl) (q0 rfl) (fun _=>⟨rfl,by simp only;omega⟩)) ?_;refine bO (eL kK (q0 rfl) (oR 0 rfl hxj rfl)) ?_;refine G ?_;refine bO (Sh iL (q0 rfl) (q0 rfl)) ?_;iterate 4 refine G ?_
 refine jK [22,23,24,25,26,27,28,29,30,31,32,33,34,35,36,37,38,39,40,41] (fun _:Unit=>[]) (fun _=>E.dR 4 1 Ht (some ⟨xb,0,none⟩) xc (xl.set j v)::E.dR 4 1 Ht (some ⟨yb,0,none⟩) yc (yl.set i v)::dD (R.flatMap rG)::(kZ f p ⟨nb,md,mt,mp,sA,sc,ss,some ⟨sb,0,none⟩,bc,bs,kA,kc⟩ bank++L)) (fun _=>True) ?_ ?_
 ·refine zd 2 ?_;refine aW 0 ?_;refine aW 1 ?_;refine aW 2 ?_;refine aW 3 ?_;refine aW 4 ?_;refine iQ 5 rfl (bt i dQ iX (q0 rfl) (q0 rfl) (fun _=>⟨rfl,by simp only;omega⟩)) ?_;refine iQ 6 rfl (eL FF (q0 rfl) (oR 3 rfl hbi rfl)) ?_;refine aW 7 ?_;refine aW 8 ?_;refine aW 9 ?_;refine aW 10 ?_;refine aW 11 ?_;refine aW 12 ?_;refine iQ 13 rfl (bt j dQ iX (q0 rfl) (q0 rfl) (fun _=>⟨rfl,by simp only;omega⟩)) ?_;refine iQ 14 rfl (eL FF (q0 rfl) (oR 3 rfl hbj rfl)) ?_;refine aW 15 ?_;refine aW 16 ?_;refine aW 17 ?_;refine iQ 18 rfl (bt j eN dG (q0 rfl) (q0 rfl) (fun _=>⟨rfl,by simp only;omega⟩)) ?_;refine r1 19 2 ?_;refine aL rfl (ew 0 (k:=1) (enc:=Ht) v rfl rfl dG rfl rfl rfl hxj rfl rfl ?_);refine iQ 20 rfl (bt i eN dG (q0 rfl) (q0 rfl) (fun _=>⟨rfl,by simp only;omega⟩)) ?_;refine r1 21 2 ?_;refine aL rfl (ew 1 (k:=1) (enc:=Ht) v rfl rfl dG rfl rfl rfl hyi rfl rfl ?_);refine jz 2 ?_;exact aO () eE trivial (fun w hw=>hw) rfl trivial
 rintro _ g _;iterate 4 refine G ?_
 refine gV (en Tryz.call43 (il (q0 rfl))) (fun _ w _=>R4 _ w) ?_;iterate 4 refine G ?_
 have hfin: ∀w',Mem w0 (E.dR 4 1 Ht (some ⟨xb,0,none⟩) xc (xl.set j v)::E.dR 4 1 Ht (some ⟨yb,0,none⟩) yc (yl.set i v)::dD (R.flatMap rG)::(kZ f p ⟨nb,md,mt,mp,sA,sc,ss,some ⟨sb,0,none⟩,bc,bs,kA,kc⟩ bank++L)) w'→Mem w0 (kZ f p ⟨nb,md,mt,mp,sA,sc,ss,some ⟨sb,0,none⟩,bc,bs,kA,kc⟩ bank++(dD ((AM ap i j v).flatMap rG)::L)) w':=fun w' hw=>by
  rw [hc];have h:Mem w0 (rG ((xb,xc),xl.set j v)++(rG ((yb,yc),yl.set i v)++(dD (R.flatMap rG)::(kZ f p ⟨nb,md,mt,mp,sA,sc,ss,some ⟨sb,0,none⟩,bc,bs,kA,kc⟩ bank++L)))) w':=by
   unfold rG;exact hw
  exact (Dx h (hR2 _ _)).dh 5 [1,2,3,4,0] (by decide) (by decide)
 exact bH (v:= .int _ _) rfl rfl hL fun w' hw=>⟨(),rfl,hfin _ hw⟩
theorem Aq (n:Int): ∀(xs:List Ev) (l:List Ev) (e:Ev),fq n l (xs++[e])=((fX n (fq n l xs).1 e).1,(fq n l xs).2+(if (fX n (fq n l xs).1 e).2.1=true∧(fX n (fq n l xs).1 e).2.2=0 then 1 else 0))
 |[],l,e=>by simp only [ka,fq,Int.zero_add,Int.add_zero];rfl
 |x::xs,l,e=>by
  rw [gx,fq,fq];simp only [Aq n xs];rw [Int.add_assoc]
theorem Cr (n:Int): ∀(xs:List Ev) (l:List Ev),0≤(fq n l xs).2∧(fq n l xs).2≤xs.length
 |[],l=>by simp [fq]
 |x::xs,l=>by
  have h:=Cr n xs (fX n l x).1;rw [fq];simp only [bB];split<;>omega
attribute [local irreducible] fX
theorem QB {f:Fl} {p:Pr} {M:NM} {bank:List Py} {sv:List (SA×SS)} {ap:List ((Nat×Nat)×List Bool)} (i j:Nat) {x y:SA×SS} {w0 w:World} {L:List E.Item} (hL:marks L=[]) (hw:Mem w0 (q8 f p M bank sv ap L) w)
  (pw:M.ss=sv.map (·.1.s)) (h8:sv.length≤8) (hx:sv[i]?=some x) (hy:sv[j]?=some y) (hij:i≠j) (hp: ∀e∈y.2.eO,0≤e.device∧1≤e.seq) (hn:y.2.eO.length≤10000):
  Calls Tryz.prog 47 #[.pointer (some ⟨M.nb,0,none⟩), .int .i64 i, .int .i64 j] w fun q w'=> ∃_x:Unit,q= .returned (.int .i64 (fq f.aH x.2.eO (fH y.2.eO)).2)∧
   Mem w0 (q8 f p M bank (sv.set i (x.1,{x.2 with eO:=(fq f.aH x.2.eO (fH y.2.eO)).1})) ap L) w':=by
 obtain ⟨nb,md,mt,mp,sA,sc,ss,bA,bc,bs,kA,kc⟩:=M;simp only at pw;obtain ⟨R,hR,hR2⟩:=Bq hx hy hij;have hsi:ss[i]?=some x.1.s:=by rw [pw,bf,hx];rfl
 have hsj:ss[j]?=some y.1.s:=by rw [pw,bf,hy];rfl
 have hil:=(aa.1 hsi).1;have hjl:=(aa.1 hsj).1;have hsl:ss.length=sv.length:=by rw [pw,aD]
 have hset:(sv.set i (x.1,{x.2 with eO:=(fq f.aH x.2.eO (fH y.2.eO)).1})).Perm ((x.1,{x.2 with eO:=(fq f.aH x.2.eO (fH y.2.eO)).1})::y::R):=by
  have h:=hR2 (x.1,{x.2 with eO:=(fq f.aH x.2.eO (fH y.2.eO)).1}) y;have hs:(sv.set i (x.1,{x.2 with eO:=(fq f.aH x.2.eO (fH y.2.eO)).1})).set j y=sv.set i (x.1,{x.2 with eO:=(fq f.aH x.2.eO (fH y.2.eO)).1}):=by
   apply cU;intro q;by_cases hq:j=q
   ·subst hq;rw [de (by rw [dU];omega),cj hij,hy]
   rw [cj hq]
  rwa [hs] at h
 have hw:Mem w0 (p5 f.aH x++(p5 f.aH y++(dD (R.flatMap (p5 f.aH))::(kZ f p ⟨nb,md,mt,mp,sA,sc,ss,bA,bc,bs,kA,kc⟩ bank++(dD (ap.flatMap rG)::L))))) w:=FU (hw.dh 6 [4,0,1,2,3,5] (by decide) (by decide)) hR;have hfin: ∀{w':World} {sB:Option Addr},Mem w0 (p5 f.aH (x.1,{x.2 with eO:=(fq f.aH x.2.eO (fH y.2.eO)).1})++(p5 f.aH y++(dD (R.flatMap (p5 f.aH))::(kZ f p ⟨nb,md,mt,mp,sB,sc,ss,bA,bc,bs,kA,kc⟩ bank++(dD (ap.flatMap rG)::L))))) w'→Mem w0 (q8 f p ⟨nb,md,mt,mp,sB,sc,ss,bA,bc,bs,kA,kc⟩ bank (sv.set i (x.1,{x.2 with eO:=(fq f.aH x.2.eO (fH y.2.eO)).1})) ap L) w':=fun hw=>(Dx hw hset).dh 6 [1,2,3,4,0,5] (by decide) (by decide);obtain ⟨⟨sv1,ar,am,ad,ae,aA,ac⟩,ex,dx,lx⟩:=x;obtain ⟨⟨sv2,br,bm,bd,be,bA2,bc2⟩,ey,dy,ly⟩:=y;simp only at hsi hsj hp hn hfin⊢;have hel:(fH ey).length=ey.length:=kb ey;refine eu hw hL Tryz.func47 rfl Tryz.ntmps47 rfl ?_;iterate 12 refine G ?_
 refine fN (fun w hw=>dP (j:=14) hw rfl (by simp only;omega)) fun ⟨sb,hsb⟩=>?_;subst hsb;iterate 6 refine G ?_
 refine bO (bt j cv fZ (q0 rfl) (q0 rfl) (fun _=>⟨rfl,by simp only;omega⟩)) ?_;refine bO (eL wo (q0 rfl) (oR 14 rfl hsj rfl)) ?_;iterate 3 refine G ?_
 refine qW (en Ew (il (q0 rfl))) (fun w hw=>u7 (l:=ey) w (hw.item (k:=7) rfl) (hw.item (k:=8) rfl) hp hn) rfl (fun _=>rfl) fun ev=>?_;iterate 5 refine G ?_
 generalize hes:fH ey=es at*;obtain ⟨eA,ec⟩:=ev;refine ct [7,9,10,11,24,25,26,27,28,29,30,31,32,33,34,35,36,37,38,39,40,41,42,43,44,45,46,47,48,49,50] (fun s:Nat=>[(7, .int .i64 (fq f.aH ex (es.take s)).2),(24, .int .i64 s)]) (fun s=>DI ar am f.aH (fq f.aH ex (es.take s)).1++(ig eA ec es::C' ⟨sv1,ar,am,ad,ae,aA,ac⟩ lx::(jv ad ae aA ac dx++(p5 f.aH (⟨sv2,br,bm,bd,be,bA2,bc2⟩,⟨ey,dy,ly⟩)++(dD (R.flatMap (p5 f.aH))::(kZ f p ⟨nb,md,mt,mp,some ⟨sb,0,none⟩,sc,ss,bA,bc,bs,kA,kc⟩ bank++(dD (ap.flatMap rG)::L))))))) (fun s=>s≤es.length) (fun s=>es.length -s) 0 ⟨rfl,rfl,trivial⟩ (fun w hw=>hw.dh 7 [2,3,0,1,4,5,6] (by decide) (by decide)) rfl (aU _) ?_;intro k g hk;have hk:k≤es.length:=hk;iterate 6 refine G ?_
 refine au rfl ?_ ?_<;>intro hlt
 ·have hlt':k<es.length:=by simpa using hlt
  have hek:es[k]?=some es[k]:=aj hlt';generalize es[k]=e at hek;have hst:=Aq f.aH (es.take k) ex e;rw [←wB es k e hek] at hst;have hnum:=Cr f.aH (es.take k) ex;have htl:(es.take k).length≤k:=by rw [cH];omega
  refine fN (fun w hw=>dP (j:=2) hw rfl (by omega)) fun ⟨eb,heb⟩=>?_;subst heb;iterate 6 refine G ?_
  refine bO (bt k cE bT (q0 rfl) (q0 rfl) (fun _=>⟨rfl,hlt'⟩)) ?_;refine bO (eS jr bT (q0 rfl) (sf 2 rfl hek)) ?_;refine cx cV rfl fun b9=>?_;refine fI (v:= .agg _) rfl rfl bT ?_;iterate 3 refine G ?_
  refine fY (L':=DI ar am f.aH (fq f.aH ex (es.take k)).1++(box b9 58 e.cells::ig (some ⟨eb,0,none⟩) ec es::C' ⟨sv1,ar,am,ad,ae,aA,ac⟩ lx::(jv ad ae aA ac dx++(p5 f.aH (⟨sv2,br,bm,bd,be,bA2,bc2⟩,⟨ey,dy,ly⟩)++(dD (R.flatMap (p5 f.aH))::(kZ f p ⟨nb,md,mt,mp,some ⟨sb,0,none⟩,sc,ss,bA,bc,bs,kA,kc⟩ bank++(dD (ap.flatMap rG)::L))))))) (fun w hw=>hw.dh 3 [1,2,0] (by decide) (by decide)) rfl ?_;refine zd 2 ?_;refine aW 0 ?_;refine aW 1 ?_;refine aW 2 ?_;refine aW 3 ?_;refine aW 4 ?_;refine iQ 5 rfl (bt i cv fZ (q0 rfl) (q0 rfl) (fun _=>⟨rfl,by simp only;omega⟩)) ?_;refine iQ 6 rfl (eL wo (q0 rfl) (oR 14 rfl hsi rfl)) ?_;refine aW 7 ?_;refine aW 8 ?_;refine aW 9 ?_;refine aW 10 ?_;refine r1 11 2 ?_;refine aL rfl (bR (en We (gr (q0 rfl) (q0 rfl))) (fun w hw=>vq e (by exact hL) hw) rfl (fun _=>rfl) fun u=>?_);refine aW 12 ?_;refine aW 13 ?_;refine aW 14 ?_;refine aW 15 ?_;refine aW 16 ?_;refine jz 2 ?_;iterate 10 refine G ?_
  generalize hq:fq f.aH ex (es.take k)=q at*;generalize hr:fX f.aH q.1 e=r at*;refine au rfl ?_ ?_<;>intro h1
  ·have h1':r.2.2=0∧r.2.1=true:=by simpa using h1
   rw [av ⟨h1'.2,h1'.1⟩] at hst;iterate 11 refine G ?_
   exact ay (k+1) eE ⟨by rw [hst];rfl,rfl,trivial⟩ (fun w hw=>by rw [hst];exact hw.dh 3 [0,1] (by decide) (by decide)) rfl (by show k+1≤es.length;omega) (by show es.length -(k+1)<es.length -k;omega)
  have h1': ¬(r.2.1=true∧r.2.2=0):=fun h=>by simp [h.1,h.2] at h1
  rw [ah h1'] at hst;iterate 7 refine G ?_
  exact ay (k+1) eE ⟨by rw [hst];show _=Value.int .i64 (q.2+0);rw [Int.add_zero];rfl,rfl,trivial⟩ (fun w hw=>by rw [hst];exact hw.dh 3 [0,1] (by decide) (by decide)) rfl (by show k+1≤es.length;omega) (by show es.length -(k+1)<es.length -k;omega)
 have hke:k=es.length:=by simp at hlt;omega
 subst hke;rw [dp];iterate 12 refine G ?_
 exact bH (v:= .int _ _) rfl rfl hL fun w' hw=>⟨(),rfl,hfin (by exact hw.dh 7 [3,0,1,4,5,6] (by decide) (by decide))⟩
end Go.Proofs.Net
