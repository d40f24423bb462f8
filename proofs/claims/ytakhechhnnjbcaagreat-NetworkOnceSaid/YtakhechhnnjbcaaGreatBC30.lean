import Derived.Test.YtakhechhnnjbcaaGreatBC29
import Derived.Test.YtakhechhnnjbcaaGreatRows
import Derived.ProofKit
import Derived.Carry
import Derived.Below
import Derived.ChangeSame
import Derived.Deep.Slices
import Derived.Test.YtakhechhnnjbcaaGreatBC01
import Derived.Test.YtakhechhnnjbcaaGreatBC07
import Derived.OpenShut
import Derived.Test.YtakhechhnnjbcaaGreatBC04
import Derived.Test.YtakhechhnnjbcaaGreatTc
set_option maxRecDepth 100000
set_option maxHeartbeats 8000000
set_option linter.unusedVariables false
set_option linter.unusedSimpArgs false
namespace Go.Proofs.Net
open Go Go.RowKit Go.Proofs.E Go.Proofs.Cus Go.Proofs.Rid Go.Proofs.Far Go.Proofs.Hom
theorem sU {f:Fl} {p:Pr} {M:NM} {bank:List Py} {sv:List (SA×SS)} {ap:List ((Nat×Nat)×List Bool)} (i:Nat) {x:SA×SS} {w0 w:World} {L:List E.Item} (hL:marks L=[]) (hw:Mem w0 (q8 f p M bank sv ap L) w)
  (pw:M.ss=sv.map (·.1.s)) (h8:sv.length≤8) (hx:sv[i]?=some x) (hn:x.2.gm.length≤256):
  Calls Tryz.prog 16 #[.pointer (some ⟨M.nb,0,none⟩), .int .i64 i] w fun q w'=> ∃y:Option Addr×Nat,q= .returned (.slice y.1 (jl x.2.gm).length y.2)∧
   Mem w0 (mM y.1 y.2 (jl x.2.gm)::q8 f p M bank sv ap L) w':=by
 obtain ⟨nb,md,mt,mp,sA,sc,ss,bA,bc,bs,kA,kc⟩:=M;simp only at pw;have hsi:ss[i]?=some x.1.s:=by rw [pw,bf,hx];rfl
 have hil:=(aa.1 hsi).1;have hxl:=(aa.1 hx).1;have hsl:ss.length=sv.length:=by rw [pw,aD]
 have hse:sv.set i x=sv:=cU fun q=>by
  by_cases hq:i=q
  ·subst hq;rw [de hxl,hx]
  rw [cj hq]
 have hw:Mem w0 (p5 f.aH x++(dD ((sv.eraseIdx i).flatMap (p5 f.aH))::(kZ f p ⟨nb,md,mt,mp,sA,sc,ss,bA,bc,bs,kA,kc⟩ bank++(dD (ap.flatMap rG)::L)))) w:=(hw.dh 6 [4,0,1,2,3,5] (by decide) (by decide)).apart hx;have hfin: ∀{w':World} {sB:Option Addr} {it:E.Item},Mem w0 (it::(p5 f.aH x++(dD ((sv.eraseIdx i).flatMap (p5 f.aH))::(kZ f p ⟨nb,md,mt,mp,sB,sc,ss,bA,bc,bs,kA,kc⟩ bank++(dD (ap.flatMap rG)::L))))) w'→Mem w0 (it::q8 f p ⟨nb,md,mt,mp,sB,sc,ss,bA,bc,bs,kA,kc⟩ bank sv ap L) w':=fun {_ _ it} hw=>by
  have h:=(hw.perm (L':=p5 f.aH x++(dD ((sv.eraseIdx i).flatMap (p5 f.aH))::it::(kZ f p _ bank++(dD (ap.flatMap rG)::L)))) (by
   exact (pJ _ (List.Perm.swap ..)).trans fx)).E7 (by omega)
  rw [hse] at h;exact h.dh 7 [1,2,3,4,5,0,6] (by decide) (by decide)
 obtain ⟨⟨sv1,ar,am,ad,ae,aA,ac⟩,ex,dx,lx⟩:=x;refine eu hw hL Tryz.func16 rfl Tryz.ntmps16 rfl ?_;iterate 10 refine G ?_
 refine gV (en Mb (gr (q0 rfl) (q0 rfl))) (fun _ w hw=>E0 (f:=f) (pr:=p) (M:=⟨nb,md,mt,mp,sA,sc,ss,bA,bc,bs,kA,kc⟩) (m:=bank.length) i w (hw.item (k:=7) rfl)) ?_;iterate 3 refine G ?_
 refine au rfl ?_ ?_<;>intro h1
 ·exfalso;simp [hasB] at h1;omega
 refine fN (fun w hw=>dP (j:=8) hw rfl (by simp only;omega)) fun ⟨sb,hsb⟩=>?_;subst hsb;refine fY (L':=jv ad ae aA ac dx++(C' ⟨sv1,ar,am,ad,ae,aA,ac⟩ lx::(DI ar am f.aH ex++(dD ((sv.eraseIdx i).flatMap (p5 f.aH))::(kZ f p ⟨nb,md,mt,mp,some ⟨sb,0,none⟩,sc,ss,bA,bc,bs,kA,kc⟩ bank++(dD (ap.flatMap rG)::L)))))) (fun w hw=>hw.dh 6 [3,4,5,0,1,2] (by decide) (by decide)) rfl ?_;iterate 9 refine G ?_
 refine bO (bt i cv fZ (q0 rfl) (q0 rfl) (fun _=>⟨rfl,by simp only;omega⟩)) ?_;refine bO (eL wo (q0 rfl) (oR 8 rfl hsi rfl)) ?_;iterate 3 refine G ?_
 refine bZ (bR (en Ma (il (q0 rfl))) (fun w hw=>EY (by exact hL) hw hn) rfl (fun _=>rfl) fun y=>?_);iterate 4 refine G ?_
 exact bH (v:= .slice _ _ _) rfl rfl hL fun w' hw=>⟨y,rfl,hfin (by exact hw.dh 7 [0,4,5,6,1,2,3] (by decide) (by decide))⟩
def kF (f:Fl) (fa:FA) (p:Pr) (a:xz) (k:Int):List Value:=[.int .i64 f.eV, .int .i64 f.na, .int .i64 f.aH, .slice fa.dA fa.dn fa.dc, .slice fa.tA fa.tn fa.tc, .slice a.t.A a.t.n a.t.c, .slice a.p.A a.p.n a.p.c, .slice a.pl.A a.pl.n a.pl.c, .slice a.d.A a.d.n a.d.c, .int .i64 p.cap, .slice a.f.A a.f.n a.f.c, .int .i64 p.days, .int .i64 k]
def CC (n:Nat) (fa:FA) (a:xz):Bool:=decide ((n:Int)≤40)&&decide ((a.p.n:Int)≤20)&&decide ((a.t.n:Int)≤20)&&decide ((a.pl.n:Int)≤80)&&decide ((a.d.n:Int)≤40)&&decide ((a.f.n:Int)≤600)&&decide ((fa.dn:Int)≤40)&&decide ((fa.tn:Int)≤20)
theorem WB {fs:Array Field} (h:Tryz.prog.underlying 30=some (.struct fs):=by exact l9):dN Tryz.prog fs [(0,5),(5,7),(12,1)]:=by
 rw [l9] at h;cases h;intro w;kernel_rfl
theorem WD {fs:Array Field} (h:Tryz.prog.underlying 24=some (.struct fs):=by exact fe):dN Tryz.prog fs [(0,1),(1,1),(2,1),(3,1),(4,1)]:=by
 rw [fe] at h;cases h;intro w;kernel_rfl
theorem QP {fs:Array Field} (h:Tryz.prog.underlying 58=some (.struct fs):=by exact bE):dN Tryz.prog fs [(0,1),(1,1),(2,1),(3,1),(4,1),(5,1),(6,1),(7,1),(8,1)]:=by
 rw [bE] at h;cases h;intro w;kernel_rfl
theorem Eb (f:Fl) (fa:FA) (p:Pr) (a:xz) (k:Int) (A:Option Addr) (n c:Nat) (w:World):Calls Tryz.prog 9 #[.agg (kF f fa p a k).toArray, .slice A n c] w fun e w'=>e= .returned (.bool (CC n fa a))∧gz w w':=by
 refine aS Tryz.func9 rfl Tryz.ntmps9 rfl ?_;iterate 2 refine G ?_
 refine cd (v:= .agg _) rfl rfl fun b2=>?_;iterate 6 refine G ?_
 refine bO (eP kz iM (q0 rfl)) ?_;refine cx Kj rfl fun b5=>?_;refine fI (v:= .agg _) rfl rfl iM ?_;iterate 55 refine G ?_
 exact bH (v:= .bool _) rfl rfl rfl fun w' hw=>⟨rfl,hw.1⟩
def Ij:FA:=⟨none,0,0,none,0,0⟩
def Ab (b:Nat):xz:=⟨⟨some ⟨b,0,none⟩,1,1⟩,⟨none,0,0⟩,⟨none,0,0⟩,⟨none,0,0⟩,⟨none,0,0⟩⟩
theorem S5 (w:World):Calls Tryz.prog 33 #[] w fun e w'=> ∃b:Nat,e= .returned (.agg (kF xF Ij xP (Ab b) 2).toArray)∧Mem w [box b 144 (xP.ik.flatMap Tf.cells)] w':=by
 refine aS Tryz.func33 rfl Tryz.ntmps33 rfl ?_;iterate 2 refine G ?_
 refine cx Ki rfl fun b0=>?_;iterate 4 refine G ?_
 refine bO (bS fe WD Kk (pt (v:= .int _ _) rfl (pt (v:= .int _ _) rfl (pt (v:= .int _ _) rfl E.p0))) rfl) ?_;refine cx Kk rfl fun b1=>?_;refine fI (v:= .agg _) rfl rfl fG ?_;iterate 5 refine G ?_
 refine bO (bS fh Vu oL (pt (v:= .int _ _) rfl (pt (v:= .int _ _) rfl (pt (v:= .int _ _) rfl (pt (v:= .int _ _) rfl E.p0)))) rfl) ?_;refine Fv [(.int .i64 0),(.int .i64 0),(.int .i64 0),(.int .i64 0),(.int .i64 0),(.int .i64 0)] fJ iD oL rfl (by kernel_rfl) (pt (v:= .agg _) rfl E.p0) rfl rfl fun b5=>?_;refine bO (bS cZ WC Kj (pt (v:= .slice _ _ _) rfl E.p0) rfl) ?_;refine bO (bS l9 WB Ki (pt (v:= .agg _) rfl (pt (v:= .agg _) rfl (pt (v:= .int _ _) rfl E.p0))) rfl) ?_;refine fI (v:= .agg _) rfl rfl SC ?_;iterate 3 refine G ?_
 exact mh rfl (P6 rfl rfl Tryz.isAgg30 SC) fun w' hw=>⟨b5,rfl,hw.pick [0] (by decide)⟩
abbrev Ae (A:Option Addr) (c:Nat) (l:List k7):E.Item:=dR 60 12 k7.cells A c l
def HD (e:Ev):k7:=⟨1,0,0,e⟩
theorem S4 (w:World):Calls Tryz.prog 34 #[] w fun e w'=> ∃x:Option Addr×Nat,e= .returned (.slice x.1 (xL.map HD).length x.2)∧Mem w [Ae x.1 x.2 (xL.map HD)] w':=by
 refine aS Tryz.func34 rfl Tryz.ntmps34 rfl ?_;iterate 7 refine G ?_
 refine bO (bS bE QP cV (pt (v:= .int _ _) rfl (pt (v:= .int _ _) rfl (pt (v:= .int _ _) rfl (pt (v:= .int _ _) rfl E.p0)))) rfl) ?_;refine bO (bS bE QP cV (pt (v:= .int _ _) rfl (pt (v:= .int _ _) rfl (pt (v:= .int _ _) rfl (pt (v:= .int _ _) rfl (pt (v:= .int _ _) rfl (pt (v:= .int _ _) rfl E.p0)))))) rfl) ?_;refine bO (bS bE QP cV (pt (v:= .int _ _) rfl (pt (v:= .int _ _) rfl (pt (v:= .int _ _) rfl (pt (v:= .int _ _) rfl E.p0)))) rfl) ?_;refine bO (bS bE QP cV (pt (v:= .int _ _) rfl (pt (v:= .int _ _) rfl (pt (v:= .int _ _) rfl (pt (v:= .int _ _) rfl E.p0)))) rfl) ?_;refine Fv [(.int .i64 0),(.int .i64 0),(.int .i64 0),(.int .i64 0),(.int .i64 0),(.int .i64 0),(.int .i64 0),(.int .i64 0),(.int .i64 0),(.int .i64 0),(.int .i64 0),(.int .i64 0),(.int .i64 0),(.int .i64 0),(.int .i64 0),(.int .i64 0),(.int .i64 0),(.int .i64 0),(.int .i64 0),(.int .i64 0),(.int .i64 0),(.int .i64 0),(.int .i64 0),(.int .i64 0),(.int .i64 0),(.int .i64 0),(.int .i64 0),(.int .i64 0),(.int .i64 0),(.int .i64 0),(.int .i64 0),(.int .i64 0),(.int .i64 0),(.int .i64 0),(.int .i64 0),(.int .i64 0)] cE bT cV rfl (by kernel_rfl) (pt (v:= .agg _) rfl (pt (v:= .agg _) rfl (pt (v:= .agg _) rfl (pt (v:= .agg _) rfl E.p0)))) rfl rfl fun b8=>?_;iterate 15 refine G ?_
 refine fY (L':=[Ae none 0 [],ig (some ⟨b8,0,none⟩) xL.length xL]) (fun w hw=>(hw.Fq (j:=0) (e:=58) (n:=9) (enc:=Ev.cells) (xs:=xL) rfl (fun _=>rfl) (by decide)).eX 60 12 k7.cells rfl) rfl ?_;refine ct [2,3,9,10,11,12,13,14,15,16,17,18,19,20,21,22] (fun s:Nat×Option Addr×Nat=>[(2, .slice s.2.1 ((xL.take s.1).map HD).length s.2.2),(3, .int .i64 s.1)]) (fun s=>[Ae s.2.1 s.2.2 ((xL.take s.1).map HD),ig (some ⟨b8,0,none⟩) xL.length xL]) (fun s=>s.1≤4) (fun s=>4 -s.1) (0,none,0) ⟨rfl,rfl,trivial⟩ (fun w hw=>hw) rfl (aU _) ?_;rintro ⟨k,A,c⟩ g hk;have hk:k≤4:=hk;iterate 9 refine G ?_
 refine au rfl ?_ ?_<;>intro hlt
 ·have hlt':k<4:=by simp at hlt;omega
  have hek:xL[k]?=some (xL.getD k default):=np hlt';have hst:(xL.take (k+1)).map HD=(xL.take k).map HD++[HD (xL.getD k default)]:=by rw [wB xL k _ hek,bX];rfl
  have hln:((xL.take k).map HD).length=k:=by rw [aD,cH];show min k 4=k;omega
  generalize xL.getD k default=e at hek hst;iterate 8 refine G ?_
  refine bO (bt k cE bT (q0 rfl) (q0 rfl) (fun _=>⟨rfl,hlt'⟩)) ?_;refine bO (eS jr bT (q0 rfl) (sf 1 rfl hek)) ?_;refine bO (bS ee Dk iK (pt (v:= .int _ _) rfl (pt (v:= .agg _) rfl E.p0)) rfl) ?_;refine lq (k:=12) (i:=Tryz.t60) 0 ((HD e)) eZ (by kernel_rfl) rfl rfl rfl rfl jb iK rfl rfl rfl rfl rfl rfl ⟨by simp only;omega,by decide⟩ rfl rfl fun B A2 c2=>?_;iterate 9 refine G ?_
  exact ay (k+1,A2,c2) eE ⟨by show _=Value.slice A2 ((xL.take (k+1)).map HD).length c2;rw [hst];rfl,rfl,trivial⟩ (fun w hw=>by show Mem _ [Ae A2 c2 ((xL.take (k+1)).map HD),_] w;rw [hst];exact hw) rfl (by show k+1≤4;omega) (by show 4 -(k+1)<4 -k;omega)
 have hke:k=4:=by simp at hlt;omega
 subst hke;iterate 12 refine G ?_
 exact bH (v:= .slice _ _ _) rfl rfl rfl fun w' hw=>⟨(A,c),rfl,hw.pick [0] (by decide)⟩
theorem zO {f:Fl} {p:Pr} (M:NM) {sv:List (SA×SS)} {ap:List ((Nat×Nat)×List Bool)} {U:List Ev} (hc:NC f p M sv ap U) {s s':NS} {y:NB} {x:k7} {k e:Int} (hE:mP f p s x=(s',k,e)) (T:Int) {w0 w:World} {L:List E.Item} (hL:marks L=[]) (hw:Mem w0 (nf f p M s y L) w)
  (hFP: ∀w,Mem w0 L w→kp w f (FB M)∧lK w p M.p) (hy:NQ sv ap s y) (hv:NV f U T s) (hT:0≤T∧T≤900000) (hpl: -9223372036854775808≤x.ev.place∧x.ev.place≤9223372036854775807):
  Calls Tryz.prog 18 #[.pointer (some ⟨M.nb,0,none⟩), .agg x.cells.toArray] w fun q w'=> ∃z:{z:NB//NQ sv ap s' z},q= .returned (.tuple #[.int .i64 k, .int .i64 e])∧Mem w0 (nf f p M s' z.1 L) w':=by
 have h:=Ed M hc x T hL hw hFP hy hv hT hpl;rw [hE] at h;exact h
theorem Vg {f:Fl} {p:Pr} {U:List Ev} {s s':NS} {x:k7} {k e T T':Int} (hE:mP f p s x=(s',k,e)) (hT:0≤T) (hv:NV f U T s) (hx:x.kind=1→x.ev∈U) (hT':T+256≤T'):NV f U T' s':=by
 have h:=(Oq (p:=p) hT hv hx).1;rw [hE] at h;exact h.mono hT'
theorem zy {α:Type} {w:World} {k:Nat} {enc:α→List Value}:gJ w k enc none 0 ([]:List α):=⟨rfl,by decide,fun h=>absurd h (by decide)⟩
theorem I9 {w0 w:World} {L:List E.Item} {b j:Nat} (hw:Mem w0 L w) (hj:L[j]?=some (box b 144 (xP.ik.flatMap Tf.cells))):kp w xF Ij∧lK w xP (Ab b):=
 ⟨⟨zy,zy⟩,bg (enc:=Tf.cells) (xs:=xP.ik) hw hj (fun _=>rfl) (by decide),zy,zy,zy,zy⟩
theorem S6 (b:Nat):Own.Sx (Ab b):=⟨(by decide:1≤100000),aU _,aU _,aU _,aU _⟩
theorem Gx {sv l:List (SA×SS)} {ap:List ((Nat×Nat)×List Bool)} {s:NS} {y:NB} (h:NQ sv ap s y) {i:Nat} {x:SS} (hi:s.gh[i]?=some x): ∃a,y.2.1[i]?=some (a,x):=by
 rw [←h.hs,bf] at hi;cases hq:y.2.1[i]? with
 |none=>rw [hq] at hi;cases hi
 |some q=>rw [hq] at hi;cases hi;exact ⟨q.1,rfl⟩
theorem vF {A B:Option Addr} {n m c d:Nat} {xs ys:List Py} (e:xs=ys) {w:World} (hx:C7 w A n xs) (hy:C7 w B m ys):Calls Tryz.prog 32 #[.slice A n c, .slice B m d] w fun e w'=>e= .returned (.bool true)∧gz w w':=
 (To A B n m c d xs ys w hx hy).mono fun q w' h=>⟨by rw [h.1,Wj e],h.2⟩
theorem JG {f:Fl} {pr:Pr} {M:NM} {k:Nat} (h2:M.ss.length=2) (rider:Int) (w:World) (h:(box M.nb 97 (Gw f pr M k)).A w):Calls Tryz.prog 13 #[.pointer (some ⟨M.nb,0,none⟩), .int .i64 rider] w fun q w'=>q= .returned (.int .i64 (rh 2 rider))∧gz w w':=by
 have h3:=Jw rider w h (by omega) (by omega);rw [h2] at h3;exact h3
theorem Ii {f:Fl} {U:List Ev} {n:Nat}:NV f U 0 ⟨List.replicate n ⟨[],[],0⟩,List.replicate n (List.replicate n false),[]⟩:=
 ⟨fun x hx=>by rw [rN hx];exact SV.zero,aU _,by simp,fun y hy=>by rw [rN hy];simp,jY⟩
attribute [local irreducible] mP
theorem tQ (w:World):Calls Tryz.prog 10 #[] w fun e w'=>e= .returned (.bool true)∧gz w w':=by
 refine aS Tryz.func10 rfl Tryz.ntmps10 rfl ?_;iterate 7 refine G ?_
 refine qW (en Tryz.call33 (Iw)) (fun w hw=>S5 w) rfl (fun _=>rfl) fun tb=>?_;refine cx Ki rfl fun b1=>?_;refine fI (v:= .agg _) rfl rfl SC ?_;iterate 5 refine G ?_
 refine bO (eP iv fG (q0 rfl)) ?_;refine G ?_;refine bO (eP kz iM (q0 rfl)) ?_;iterate 2 refine G ?_
 refine qW (en Ey (nj (q0 rfl) (q0 rfl) (q0 rfl))) (fun w hw=>E1 xF Ij xP (Ab tb) 2 w (I9 hw (j:=1) rfl).1 (I9 hw (j:=1) rfl).2 (by decide) (by decide) (S6 tb) (by decide) (by decide) (by decide)) rfl (fun _=>rfl) fun x=>?_;obtain ⟨⟨M,sv,ap,R⟩,hx⟩:=x;have hsl:sv.length=2:=by have:=aT List.length hx.sv;simpa using this
 have hc:NC xF xP M sv ap xL:=⟨by decide,by decide,hx.ss,hx.bs,by omega,by omega,by decide⟩;iterate 11 refine G ?_
 refine bO (gj e9 (q0 rfl)) ?_;iterate 6 refine G ?_
 refine au rfl ?_ ?_<;>intro h1
 ·simp at h1
 iterate 4 refine G ?_
 refine qW (en Tryz.call34 (Iw)) (fun w hw=>S4 w) rfl (fun _=>rfl) fun tr=>?_;obtain ⟨tA,tc⟩:=tr;iterate 5 refine G ?_
 refine fY (L':=nf xF xP M (xS ⟨[],[],0⟩ xZ []) ((M.kA,M.kc),sv,ap) [dD R,Ae tA tc (xL.map HD),box b1 30 (kF xF Ij xP (Ab tb) 2),box tb 144 (xP.ik.flatMap Tf.cells)]) (fun w hw=>hw.pick [1,2,3,4,5,6,7,0,8,9] (by decide)) rfl ?_;iterate 5 refine G ?_
 have hFP: ∀(X:List E.Item) (w0:World),∀w,Mem w0 (dD R::X) w→kp w xF (FB M)∧lK w xP M.p:=fun X w0 w hw=>hx.k.ok w (hw.item (k:=0) rfl);refine ct [0,5,6,7,38,39,40,41,42,43,44,45,46,47,48,49,50,51,52,53,54,55,56,57,58] (fun s:Nat×NB=>[(5, .int .i64 s.1)]) (fun s=>nf xF xP M (xS ⟨xL.take s.1,[],0⟩ xZ []) s.2 [dD R,Ae tA tc (xL.map HD),box b1 30 (kF xF Ij xP (Ab tb) 2),box tb 144 (xP.ik.flatMap Tf.cells)]) (fun s=>s.1≤4∧NQ sv ap (xS ⟨xL.take s.1,[],0⟩ xZ []) s.2∧NV xF xL (256*s.1) (xS ⟨xL.take s.1,[],0⟩ xZ [])) (fun s=>4 -s.1) (0,(M.kA,M.kc),sv,ap) ⟨rfl,trivial⟩ (fun w hw=>hw) rfl ⟨aU _,⟨hx.sv,rfl,hx.ap,rfl⟩,Ii (n:=2)⟩ ?_;rintro ⟨k,y⟩ g ⟨hk,hy,hv⟩;have hx4:xL.length=4:=rfl;have hk:k≤4:=hk;iterate 9 refine G ?_
 refine au rfl ?_ ?_<;>intro hlt
 ·have hlt':k<4:=by simp at hlt;omega
  have hek:(xL.map HD)[k]?=some (xE k):=by rw [bf,np hlt'];rfl
  refine fN (fun w hw=>dP (j:=7) hw rfl (by decide)) fun ⟨sb,hsb⟩=>?_;subst hsb;iterate 9 refine G ?_
  refine bO (bt k eZ jb (q0 rfl) (q0 rfl) (fun _=>⟨rfl,hlt'⟩)) ?_;refine bO (eS Tryz.isAgg60 jb (q0 rfl) (sf 7 rfl hek)) ?_;refine bZ (bR (en lP (gr (q0 rfl) (q0 rfl))) (fun w hw=>zO M hc (WX k hlt') (256*k) rfl hw (hFP _ _) hy hv (by omega) (by have: ∀i,i<4→ -9223372036854775808≤(xE i).ev.place∧(xE i).ev.place≤9223372036854775807:=(by decide);exact this k hlt')) rfl (fun _=>rfl) fun z=>?_);iterate 17 refine G ?_
  refine au rfl ?_ ?_<;>intro h2
  ·simp at h2
  iterate 8 refine G ?_
  exact ay (k+1,z.1) eE ⟨rfl,trivial⟩ (fun w hw=>hw) rfl ⟨by show k+1≤4;omega,z.2,Vg (WX k hlt') (by omega) hv (fun _=>by have: ∀i,i<4→(xE i).ev∈xL:=(by decide);exact this k hlt') (by show _≤256*((k+1:Nat):Int);omega)⟩ (by show 4 -(k+1)<4 -k;omega)
 have hke:k=4:=by simp at hlt;omega
 subst hke;have hv4:NV xF xL 1024 (xS ⟨xL,[],0⟩ xZ []):=hv;have hv5:=Vg (T':=1280) W3 (by decide) hv4 (fun h=>by cases h) (by decide);have hv6:=Vg (T':=1536) W0 (by decide) hv5 (fun h=>by cases h) (by decide);have hv7:=Vg (T':=1792) WZ (by decide) hv6 (fun h=>by cases h) (by decide);have hv8:=Vg (T':=2048) WY (by decide) hv7 (fun h=>by cases h) (by decide);iterate 8 refine G ?_
 refine bO (bS ee Dk iK (pt (v:= .int _ _) rfl (pt (v:= .int _ _) rfl E.p0)) rfl) ?_;refine bZ (bR (en lP (gr (q0 rfl) (q0 rfl))) (fun w hw=>zO M hc W3 1024 rfl hw (hFP _ _) hy hv4 (by decide) (by decide)) rfl (fun _=>rfl) fun z5=>?_);iterate 10 refine G ?_
 refine bO (bS ee Dk iK (pt (v:= .int _ _) rfl (pt (v:= .int _ _) rfl (pt (v:= .int _ _) rfl E.p0))) rfl) ?_;refine bZ (bR (en lP (gr (q0 rfl) (q0 rfl))) (fun w hw=>zO M hc W0 1280 rfl hw (hFP _ _) z5.2 hv5 (by decide) (by decide)) rfl (fun _=>rfl) fun z6=>?_);iterate 10 refine G ?_
 refine bO (bS ee Dk iK (pt (v:= .int _ _) rfl (pt (v:= .int _ _) rfl (pt (v:= .int _ _) rfl E.p0))) rfl) ?_;refine bZ (bR (en lP (gr (q0 rfl) (q0 rfl))) (fun w hw=>zO M hc WZ 1536 rfl hw (hFP _ _) z6.2 hv6 (by decide) (by decide)) rfl (fun _=>rfl) fun z7=>?_);iterate 10 refine G ?_
 refine bO (bS ee Dk iK (pt (v:= .int _ _) rfl (pt (v:= .int _ _) rfl E.p0)) rfl) ?_;refine bZ (bR (en lP (gr (q0 rfl) (q0 rfl))) (fun w hw=>zO M hc WY 1792 rfl hw (hFP _ _) z7.2 hv7 (by decide) (by decide)) rfl (fun _=>rfl) fun z8=>?_);iterate 9 refine G ?_
 refine bO (bS l8 QO jo (pt (v:= .int _ _) rfl (pt (v:= .int _ _) rfl (pt (v:= .int _ _) rfl E.p0))) rfl) ?_;refine Fv [(.int .i64 0),(.int .i64 0),(.int .i64 0)] gT fj jo rfl (by kernel_rfl) (pt (v:= .agg _) rfl E.p0) rfl rfl fun b84=>?_;iterate 4 refine G ?_
 refine fY (L':=nf xF xP M (xS ⟨xL,[],0⟩ ⟨xL,[⟨pK,0,1⟩],0⟩ [pK]) z8.1 [dD R,box b84 90 ([pK].flatMap Py.cells),Ae tA tc (xL.map HD),box b1 30 (kF xF Ij xP (Ab tb) 2),box tb 144 (xP.ik.flatMap Tf.cells)]) (fun w hw=>hw.pick [1,2,3,4,5,6,7,0,8,9,10] (by decide)) rfl ?_;obtain ⟨a8,h8⟩:=Gx (l:=[]) z8.2 (i:=1) (x:=⟨xL,[⟨pK,0,1⟩],0⟩) rfl;have hl8:z8.1.2.1.length=2:=by have:=aT List.length z8.2.pw;rw [aD,aD,hsl] at this;exact this
 iterate 2 refine G ?_
 refine bZ (bR (en Ex (gr (q0 rfl) (q0 rfl))) (fun w hw=>sU (M:={M with kA:=z8.1.1.1,kc:=z8.1.1.2}) 1 rfl hw (hx.ss.trans z8.2.pw.symm) (by omega) h8 (show 1≤256 by decide)) rfl (fun _=>rfl) fun y9=>?_);refine G ?_;refine gV (en yX (gr (q0 rfl) (q0 rfl))) (fun _ w hw=>vF (xs:=jl [⟨pK,0,1⟩]) (ys:=[pK]) (by decide) (cW hw (j:=0) rfl (fun _=>rfl) (show 1≤9223372036854775807 by decide)) (bg (enc:=Py.cells) (xs:=[pK]) hw (j:=8) rfl (fun _=>rfl) (by decide))) ?_;iterate 4 refine G ?_
 refine fY (L':=nf xF xP M (xS ⟨xL,[],0⟩ ⟨xL,[⟨pK,0,1⟩],0⟩ [pK]) z8.1 [dD R,box b84 90 ([pK].flatMap Py.cells),Ae tA tc (xL.map HD),box b1 30 (kF xF Ij xP (Ab tb) 2),box tb 144 (xP.ik.flatMap Tf.cells)]) (fun w hw=>hw.tail) rfl ?_;iterate 2 refine G ?_
 refine bO (bS ee Dk iK (pt (v:= .int _ _) rfl (pt (v:= .int _ _) rfl E.p0)) rfl) ?_;refine bZ (bR (en lP (gr (q0 rfl) (q0 rfl))) (fun w hw=>zO M hc x_9 2048 rfl hw (hFP _ _) z8.2 hv8 (by decide) (by decide)) rfl (fun _=>rfl) fun z9=>?_);obtain ⟨a9,h9⟩:=Gx (l:=[]) z9.2 (i:=1) (x:=⟨xL,[⟨pK,1,2⟩],0⟩) rfl;have hl9:z9.1.2.1.length=2:=by have:=aT List.length z9.2.pw;rw [aD,aD,hsl] at this;exact this
 have hM2:M.ss.length=2:=by rw [hx.ss,aD,hsl]
 iterate 48 refine G ?_
 refine xx (r5 rfl rfl) (by first|rfl|decide|simp) (di (en pZ (il (qk (v:= .pointer _) rfl (by first|rfl|decide|simp)))) (fun w hw=>tP (f:=xF) (p:=xP) (M:={M with kA:=z9.1.1.1,kc:=z9.1.1.2}) (b:=[pK]) w (hw.item (k:=0) rfl) (cW hw (j:=3) rfl (fun _=>rfl) (by decide)) (by decide)) rfl (fun _=>rfl) fun y10=>?_);refine qV (Fj eI rfl nU (q0 rfl) rfl) rfl rfl ?_;refine G ?_;refine EB (en yX (gr (q1 (v:= .slice _ _ _) rfl) (q1 (v:= .slice _ _ _) rfl))) (fun _ w hw=>vF (xs:=[pK]) (ys:=[pK]) rfl (cW hw (j:=0) rfl (fun _=>rfl) (by decide)) (bg (enc:=Py.cells) (xs:=[pK]) hw (j:=8) rfl (fun _=>rfl) (by decide))) rfl rfl rfl rfl ?_;iterate 3 refine G ?_
 refine xx (r5 rfl rfl) (by first|rfl|decide|simp) (bR (en Ex (gr (qk (v:= .pointer _) rfl (by first|rfl|decide|simp)) (q0 rfl))) (fun w hw=>sU (M:={M with kA:=z9.1.1.1,kc:=z9.1.1.2}) 1 rfl hw.tail (hx.ss.trans z9.2.pw.symm) (by omega) h9 (show 1≤256 by decide)) rfl (fun _=>rfl) fun y11=>?_);iterate 5 refine G ?_
 refine EB (en Wi (gr (q1 (v:= .pointer _) rfl) (q0 rfl))) (fun _ w hw=>JG (f:=xF) (pr:=xP) (M:={M with kA:=z9.1.1.1,kc:=z9.1.1.2}) (k:=1) hM2 1 w (hw.item (k:=1) rfl)) rfl rfl rfl rfl ?_;iterate 4 refine G ?_
 refine EB (en Wi (gr (q1 (v:= .pointer _) rfl) (q0 rfl))) (fun _ w hw=>JG (f:=xF) (pr:=xP) (M:={M with kA:=z9.1.1.1,kc:=z9.1.1.2}) (k:=1) hM2 0 w (hw.item (k:=1) rfl)) rfl rfl rfl rfl ?_;iterate 6 refine G ?_
 exact bH (v:= .bool _) rfl rfl rfl fun w' hw=>⟨rfl,hw.1⟩
end Go.Proofs.Net
namespace Go.Proofs.Net
open Go Go.RowKit Go.Proofs.E Go.Proofs.Cus Go.Proofs.Rid Go.Proofs.Far Go.Proofs.Hom
theorem JT {n:Nat} {fa:FA} {a:xz} (h:CC n fa a=true):n≤40∧fa.dn≤100000∧fa.tn≤100000∧Own.Sx a:=by
 simp only [CC,bQ,dd] at h;exact ⟨by omega,by omega,by omega,⟨by omega,by omega,by omega,by omega,by omega⟩⟩
theorem U6 (f:Fl) (p:Pr) (s:NS) (xs:List k7):runN f p s (xs.take 0)=s:=rfl
attribute [local irreducible] mP runN vY
end Go.Proofs.Net
namespace Go.Proofs.E
open Go Go.RowKit Go.ChangeShapes Go.WideShapes Go.ChangeAt
section
variable {H:Type} {enc:TypeId×Value→H} {P:Program}
theorem Bt {W:World} {sp:Nat→Bool}: ∀{ts:List TypeId} {vs:List Value} {ds:List (DataW H)} {ps:List MemPlace} {W':World},laidOutB P=true→(ts.all fun t=>P.readableRec t&&decide (t<P.types.size))=true→
  DataW.TrodAll enc P W 0 (fun _=>true) true ts vs ds ps→(∀p∈ps,W.sameAt W' p)→(∀p∈ps,sp p.block=true)→DataW.TrodAll enc P W' 0 sp true ts vs ds ps
 |[],[],[],_,_,_,_,h,_,_=>h
 |t::ts,v::vs,d::ds,ps,W',hl,hr,⟨p,q,h1,h2,e⟩,hs,hp=>by
  subst e;simp only [nQ,bQ,dd] at hr;exact ⟨p,q,WideElems.Trod_stays hl hr.1.1 hr.1.2 h1 (fun x hx=>hs x (List.mem_append_left _ hx)) (fun x hx=>hp x (List.mem_append_left _ hx)),Bt hl (by simpa using hr.2) h2 (fun x hx=>hs x (List.mem_append_right _ hx)) (fun x hx=>hp x (List.mem_append_right _ hx)),rfl⟩
 |[],_::_,_,_,_,_,_,h,_,_=>by simp [DataW.TrodAll] at h
 |[],[],_::_,_,_,_,_,h,_,_=>by simp [DataW.TrodAll] at h
 |_::_,[],_,_,_,_,_,h,_,_=>by simp [DataW.TrodAll] at h
 |_::_,_::_,[],_,_,_,_,h,_,_=>by simp [DataW.TrodAll] at h
theorem Aa {W:World} {b:Nat} {sp:Nat→Bool} {hd:Bool}: ∀{ts:List TypeId} {vs:List Value} {ds:List (DataW H)} {ps:List MemPlace},DataW.TrodAll enc P W b sp hd ts vs ds ps→ds.length=ts.length∧vs.length=ts.length
 |[],[],[],_,_=>⟨rfl,rfl⟩
 |_::_,_::_,_::_,_,⟨_,_,_,h2,_⟩=>by have:=Aa h2;simp;omega
 |[],_::_,_,_,h=>by simp [DataW.TrodAll] at h
 |[],[],_::_,_,h=>by simp [DataW.TrodAll] at h
 |_::_,[],_,_,h=>by simp [DataW.TrodAll] at h
 |_::_,_::_,[],_,h=>by simp [DataW.TrodAll] at h
theorem KS {f:Func} {s:ChangeSpec} {tb:TypeId} {apart fresh handsOn again:Bool} {W W':World} {args:Array Value} {ds gs:List (DataW H)} {before:List MemPlace} (hl:laidOutB P=true) (hr:(f.params.toList.all fun t=>P.readableRec t&&decide (t<P.types.size))=true)
  (hrt:f.resultTypes= #[tb]) (htb:P.underlying tb=some .bool) (hv:s.vars=[]) (hs: ∀ds:List (DataW H),ds.length=f.params.toList.length→s.fn H ds={results:=[.lit (.bool true)],args:=ds})
  (hW:DataW.Whole enc P f.params.toList s.vars apart W args.toList ds gs before) (hb:Below W.heap.size W W'):s.post enc P f apart fresh handsOn again W args (.bool true) W':=by
 have hlt: ∀p∈before,p.block<W.heap.size:=fun p hp=>hW.lt p hp;have hold: ∀p∈before,(fun b=>decide (b<W.heap.size)) p.block=true:=fun p hp=>by simpa using hlt p hp
 have hW2:=hW;obtain ⟨p,q,hA,hV,rfl,hz,hn⟩:=hW;rw [hv] at hV;obtain ⟨rfl,rfl⟩:=trodVars_none hV;have hsd:=hs ds (Aa hA).1;have hres: ∀(b:Nat) (sp:Nat→Bool) (hd:Bool),DataW.TrodAll enc P W' b sp hd f.resultTypes.toList ((Value.bool true).resultList f.resultTypes.size) (s.fn H (ds++[])).results []:=fun b sp hd=>by
  rw [cz,hsd,hrt];exact trodAll_mk1 (shut_bool htb _)
 have hargs: ∀sp:Nat→Bool,(∀x∈p,sp x.block=true)→DataW.TrodAll enc P W' 0 sp true f.params.toList args.toList (s.fn H (ds++[])).args p:=fun sp hsp=>by
  rw [cz,hsd];exact Bt hl hr hA (fun x hx=>hb.same (hlt x (by simpa using hx))) hsp
 have hvars: ∀sp:Nat→Bool,DataW.TrodVars enc P W' sp s.vars (s.fn H (ds++[])).vars []:=fun sp=>by
  rw [cz,hsd,hv];rfl
 refine ⟨ds,[],p++[],[],p,[],hW2,hres _ _ _,hargs _ (fun x hx=>hold x (by simpa using hx)),hvars _,World.keptBut_mono (fun x hx=>⟨hx,Or.inr (by simpa using hx)⟩) (hb.frame (· ∈p++[])),fun _=>?_⟩;refine ⟨?_,_,_,([]++p)++[],⟨[]++p,[],trodAll_append (hargs _ (fun _ _=>rfl)) (hres _ _ _),hvars _,rfl,?_,?_⟩,?_⟩
 ·intro j t r h1 h2;rw [hrt] at h1 h2
  match j with
  |0=>
   simp at h1;subst h1;simp [Value.resultList] at h2;subst h2;exact okWide_bool_mk htb _
  |j+1=>simp at h1
 ·intro b off hp;have hin:MemPlace.cell b off∈p++[]:=by simpa using hp
  rw [hb.frozen (hlt _ hin)];exact hz b off hin
 ·intro ha;have:=hn ha;simpa using this
 intro x hx _;simpa using hx
theorem Gb {f:Func} {s:ChangeSpec} {tb:TypeId} {apart fresh handsOn again:Bool} {W W':World} {args:Array Value} {ds gs:List (DataW H)} {before:List MemPlace} (hl:laidOutB P=true) (hr:(f.params.toList.all fun t=>P.readableRec t&&decide (t<P.types.size))=true)
  (hrt:f.resultTypes= #[tb]) (htb:P.underlying tb=some .bool) (hv:s.vars=[]) (hs: ∀ds:List (DataW H),ds.length=f.params.toList.length→s.fn H ds={results:=[.lit (.bool true)],args:=ds})
  (hW:DataW.Whole enc P f.params.toList s.vars apart W args.toList ds gs before) (hb:gz W W'):s.post enc P f apart fresh handsOn again W args (.bool true) W':=KS hl hr hrt htb hv hs hW hb.toBelow
theorem LR {w:World} {a:Addr} {v:Value} (h:w.cell? a=some v):a.spot=none∧a.block<w.heap.size:=by
 unfold World.cell? at h;constructor
 ·split at h
  ·split at h
   ·cases h
   rename_i h2;cases ha:a.spot with
   |none=>rfl
   |some x=>simp [ha] at h2
  cases h
 split at h
 ·rename_i h2;exact (cm.1 h2).1
 cases h
theorem AV {W:World} {t e:TypeId} {k fuel:Nat} {sp:Nat→Bool} {held:Bool} {cs:List Value} {x:DataW H×List MemPlace} (ht:P.underlying t=some (.slice e)) (hC:P.cellsOf e=k) (hk:0<k)
  (h:DataW.trod enc P W 0 sp held fuel t cs=some x):
  ∃(A:Option Addr) (n c:Nat) (xs:List (List Value)),cs=[.slice A n c]∧gJ W k id A n xs∧n≤c∧c≤maxLen∧ ∀x∈xs,x.length=k∧ ∃(fuel:Nat) (y:DataW H×List MemPlace),DataW.trod enc P W 0 sp held fuel e x=some y:=by
 rcases Deep.open_slice ht h with ⟨rfl,_⟩|⟨a,len,cap,m,n,D,Pl,rfl,hb,hl,hm,hmm,hx,hi⟩
 ·exact ⟨none,0,0,[],rfl,⟨rfl,by decide,fun h=>absurd h (by omega)⟩,by omega,by unfold maxLen;omega,fun x hx=>by simp at hx⟩
 rw [hC] at hi;have hlm:len≤m:=by rw [hmm];split<;>omega
 refine ⟨some a,len,cap,(List.range len).map fun i=>((W.cells? 0 (a.add (i*k)) k).getD []),rfl,⟨by simp,by unfold maxLen at hm;omega,fun hn=>?_⟩,hl,hm,fun x hx=>?_⟩
 ·obtain ⟨cs0,hc0,_⟩:=hi 0 (by omega);obtain ⟨_,hl0,hat0⟩:=World.cells?_some hc0;have h0:=hat0 0 hk;rw [aj (by omega)] at h0;obtain ⟨hs,hblk⟩:=LR h0;refine ⟨a.block,a.off,by cases a;simp [Addr.add] at hs;simp [hs],by simpa [Addr.add] using hblk,fun i x hx=>?_⟩;simp only [bf] at hx;cases hr:(List.range len)[i]? with
  |none=>rw [hr] at hx;cases hx
  |some y=>
   rw [hr] at hx;obtain ⟨hlt,hyi⟩:=aa.1 hr;simp at hyi hlt;subst hyi;obtain ⟨cs',hc,_⟩:=hi i (by omega);simp only [fU,eQ] at hx;rw [hc] at hx;simp only [l6] at hx;subst hx;obtain ⟨_,hcl,hat⟩:=World.cells?_some hc;intro j u hu;have hj:j<k:=by have:=(aa.1 hu).1;simp at this;omega
   have h2:=hat j hj;simp only [id] at hu;rw [hu] at h2;have e1:(a.add (i*k)).add j=⟨a.block,a.off+i*k+j,none⟩:=by
    have hs:a.spot=none:=by cases a;simpa [Addr.add] using hs
    rw [tt hs,tt rfl]
   rw [e1] at h2;exact h2
 simp only [bJ,dL] at hx;obtain ⟨i,hil,rfl⟩:=hx;obtain ⟨cs',hc,ht'⟩:=hi i (by omega);rw [hc];exact ⟨(World.cells?_some hc).2.1,n,_,ht'⟩
theorem db {W:World} {t:TypeId} {fs:Array Field} {fuel:Nat} {sp:Nat→Bool} {held:Bool} {cs:List Value} {x:DataW H×List MemPlace} (ht:P.underlying t=some (.struct fs)) (h:DataW.trod enc P W 0 sp held fuel t cs=some x) (j:Nat) {u:TypeId} {o k:Nat} (hf:fs[j]?.map (fun f=>(f.type,f.offset))=some (u,o)) (hk:P.cellsOf u=k):
  ∃(n:Nat) (y:DataW H×List MemPlace),DataW.trod enc P W 0 sp held n u ((cs.drop o).take k)=some y:=by
 obtain ⟨ys,n',hn',hy,hlen,hyl,hg⟩:=DataW.trod_struct ht h;cases hf':fs[j]? with
 |none=>rw [hf'] at hf;cases hf
 |some f=>
  rw [hf'] at hf;simp only [fU,eQ,nO] at hf;obtain ⟨rfl,rfl⟩:=hf;have hj:j<fs.size:=(cm.1 hf').1;have h2:=hg j f hf';rw [aj (by omega),hk] at h2;exact ⟨n',_,h2⟩
theorem gN {W:World} {t:TypeId} {k:IntKind} {fuel:Nat} {sp:Nat→Bool} {held:Bool} {cs:List Value} {x:DataW H×List MemPlace} (ht:P.underlying t=some (.int k)) (h:DataW.trod enc P W 0 sp held fuel t cs=some x): ∃n,cs=[.int k n]∧(Lit.int k n).wf=true:=by
 obtain ⟨n,h,_,hw⟩:=DataW.trod_int ht h;exact ⟨n,h,hw⟩
theorem Wp {n:Int} (h:(Lit.int .i64 n).wf=true): -9223372036854775808≤n∧n≤9223372036854775807:=by
 simp [Lit.wf,IntKind.min,IntKind.max,IntKind.signed,IntKind.bits] at h;omega
end
theorem gJ.ET {α:Type} {W:World} {k:Nat} {enc:α→List Value} {A:Option Addr} {n:Nat} {Q:α→Prop} {xs:List (List Value)} (h:gJ W k id A n xs) (hx: ∀x∈xs,∃a,enc a=x∧Q a): ∃ys:List α,gJ W k enc A n ys∧ ∀a∈ys,Q a:=by
 have: ∀xs:List (List Value),(∀x∈xs,∃a,enc a=x∧Q a)→ ∃ys:List α,ys.map enc=xs∧ ∀a∈ys,Q a:=by
  intro xs
  induction xs with
  |nil=>exact fun _=>⟨[],rfl,by simp⟩
  |cons x xs ih=>
   intro h;obtain ⟨a,ha,hq⟩:=h x (by simp);obtain ⟨ys,has,hqs⟩:=ih fun x hx=>h x (by simp [hx]);exact ⟨a::ys,by simp [ha,has],by simpa using ⟨hq,hqs⟩⟩
 obtain ⟨ys,has,hq⟩:=this xs hx;subst has;refine ⟨ys,⟨by simpa using h.1,h.2.1,fun hn=>?_⟩,hq⟩;obtain ⟨b,off,hA,hlt,hc⟩:=h.2.2 hn;exact ⟨b,off,hA,hlt,fun i x hx=>hc i (enc x) (by simp [hx])⟩
end Go.Proofs.E
namespace Go.Proofs.Net
open Go Go.RowKit Go.Proofs.E Go.Proofs.Cus Go.Proofs.Far Go.ChangeShapes Go.WideShapes Go.ChangeAt
theorem eD:Tryz.prog.cellsOf 3=1:=by kernel_rfl
theorem tm:Tryz.prog.cellsOf 22=1:=by kernel_rfl
theorem Rk:Tryz.prog.cellsOf 30=13:=by kernel_rfl
structure Wn where
 lo:Int
 hi:Int
def Wn.cells (x:Wn):List Value:=[.int .i64 x.lo, .int .i64 x.hi]
section
variable {H:Type} {enc:TypeId×Value→H} {W:World} {sp:Nat→Bool} {held:Bool} {base:Nat} {v:Value} {d:DataW H} {ps:List MemPlace}
theorem yk {fuel:Nat} {cs:List Value} {x:DataW H×List MemPlace} (h:DataW.trod enc Tryz.prog W 0 sp held fuel 22 cs=some x): ∃A n c xs,cs=[.slice A n c]∧ia W A n xs:=by
 obtain ⟨A,n,c,xs,rfl,hs,_,_,hx⟩:=AV ak eD (by decide) h;obtain ⟨ys,hy,_⟩:=hs.ET (enc:=aN) (Q:=fun _=>True) fun x hx'=>by
  obtain ⟨_,f,y,ht⟩:=hx x hx';obtain ⟨m,rfl,_⟩:=gN aG ht;exact ⟨m,rfl,trivial⟩
 exact ⟨A,n,c,ys,rfl,hy⟩
theorem Vb {fuel:Nat} {cs:List Value} {x:DataW H×List MemPlace} (hl:cs.length=6) (h:DataW.trod enc Tryz.prog W 0 sp held fuel 144 cs=some x): ∃g:Tf,Tf.cells g=cs:=by
 match cs,hl with
 |[c0,c1,c2,c3,c4,c5],_=>
  obtain ⟨_,_,h0⟩:=db fh h 0 rfl eD;obtain ⟨_,_,h1⟩:=db fh h 1 rfl eD;obtain ⟨_,_,h2⟩:=db fh h 2 rfl eD;obtain ⟨_,_,h3⟩:=db fh h 3 rfl eD;obtain ⟨_,_,h4⟩:=db fh h 4 rfl eD;obtain ⟨_,_,h5⟩:=db fh h 5 rfl eD;obtain ⟨m0,e0,_⟩:=gN aG h0;obtain ⟨m1,e1,_⟩:=gN aG h1;obtain ⟨m2,e2,_⟩:=gN aG h2;obtain ⟨m3,e3,_⟩:=gN aG h3;obtain ⟨m4,e4,_⟩:=gN aG h4;obtain ⟨m5,e5,_⟩:=gN aG h5;simp at e0 e1 e2 e3 e4 e5;subst e0 e1 e2 e3 e4 e5;exact ⟨⟨m0,m1,m2,m3,m4,m5⟩,rfl⟩
theorem OK:Tryz.prog.cellsOf 144=6:=by kernel_rfl
theorem Tw {fuel:Nat} {cs:List Value} {x:DataW H×List MemPlace} (h:DataW.trod enc Tryz.prog W 0 sp held fuel 25 cs=some x): ∃A n c xs,cs=[.slice A n c]∧gJ W 6 Tf.cells A n xs:=by
 obtain ⟨A,n,c,xs,rfl,hs,_,_,hx⟩:=AV fJ OK (by decide) h;obtain ⟨ys,hy,_⟩:=hs.ET (enc:=Tf.cells) (Q:=fun _=>True) fun x hx'=>by
  obtain ⟨hl,f,y,ht⟩:=hx x hx';obtain ⟨g,hg⟩:=Vb hl ht;exact ⟨g,hg,trivial⟩
 exact ⟨A,n,c,ys,rfl,hy⟩
theorem Va {fuel:Nat} {cs:List Value} {x:DataW H×List MemPlace} (hl:cs.length=2) (h:DataW.trod enc Tryz.prog W 0 sp held fuel 153 cs=some x): ∃g:Wn,Wn.cells g=cs:=by
 match cs,hl with
 |[c0,c1],_=>
  obtain ⟨_,_,h0⟩:=db ir h 0 rfl eD;obtain ⟨_,_,h1⟩:=db ir h 1 rfl eD;obtain ⟨m0,e0,_⟩:=gN aG h0;obtain ⟨m1,e1,_⟩:=gN aG h1;simp at e0 e1;subst e0 e1;exact ⟨⟨m0,m1⟩,rfl⟩
theorem Re:Tryz.prog.cellsOf 153=2:=by kernel_rfl
theorem Tx {fuel:Nat} {cs:List Value} {x:DataW H×List MemPlace} (hl:cs.length=6) (h:DataW.trod enc Tryz.prog W 0 sp held fuel 155 cs=some x): ∃g:o0,o0.cells g=cs:=by
 match cs,hl with
 |[c0,c1,c2,c3,c4,c5],_=>
  obtain ⟨_,_,h0⟩:=db qQ h 0 rfl eD;obtain ⟨_,_,h1⟩:=db qQ h 1 rfl eD;obtain ⟨_,_,h2⟩:=db qQ h 2 rfl Re;obtain ⟨_,_,h3⟩:=db qQ h 3 rfl eD;obtain ⟨_,_,h4⟩:=db qQ h 4 rfl eD;obtain ⟨m0,e0,_⟩:=gN aG h0;obtain ⟨m1,e1,_⟩:=gN aG h1;obtain ⟨m3,e3,_⟩:=gN aG h3;obtain ⟨m4,e4,_⟩:=gN aG h4;obtain ⟨s2,e2⟩:=Va (cs:=[c2,c3]) rfl h2;simp at e0 e1 e3 e4;simp [Wn.cells] at e2;obtain ⟨e2,e2'⟩:=e2;subst e0 e1 e2 e2' e3 e4;exact ⟨⟨m0,m1,s2.lo,s2.hi,m3,m4⟩,rfl⟩
theorem LP:Tryz.prog.cellsOf 155=6:=by kernel_rfl
theorem P8 {fuel:Nat} {cs:List Value} {x:DataW H×List MemPlace} (h:DataW.trod enc Tryz.prog W 0 sp held fuel 26 cs=some x): ∃A n c xs,cs=[.slice A n c]∧gJ W 6 o0.cells A n xs:=by
 obtain ⟨A,n,c,xs,rfl,hs,_,_,hx⟩:=AV gU LP (by decide) h;obtain ⟨ys,hy,_⟩:=hs.ET (enc:=o0.cells) (Q:=fun _=>True) fun x hx'=>by
  obtain ⟨hl,f,y,ht⟩:=hx x hx';obtain ⟨g,hg⟩:=Tx hl ht;exact ⟨g,hg,trivial⟩
 exact ⟨A,n,c,ys,rfl,hy⟩
theorem OL:Tryz.prog.cellsOf 25=1:=by kernel_rfl
theorem OM:Tryz.prog.cellsOf 26=1:=by kernel_rfl
theorem Rh:Tryz.prog.cellsOf 24=5:=by kernel_rfl
theorem Rg:Tryz.prog.cellsOf 28=7:=by kernel_rfl
theorem Ve {fuel:Nat} {cs:List Value} {x:DataW H×List MemPlace} (hl:cs.length=5) (h:DataW.trod enc Tryz.prog W 0 sp held fuel 24 cs=some x): ∃(f:Fl) (a:FA),f.cells a=cs∧kp W f a:=by
 match cs,hl with
 |[c0,c1,c2,c3,c4],_=>
  obtain ⟨_,_,h0⟩:=db fe h 0 rfl eD;obtain ⟨_,_,h1⟩:=db fe h 1 rfl eD;obtain ⟨_,_,h2⟩:=db fe h 2 rfl eD;obtain ⟨_,_,h3⟩:=db fe h 3 rfl tm;obtain ⟨_,_,h4⟩:=db fe h 4 rfl tm;obtain ⟨m0,e0,_⟩:=gN aG h0;obtain ⟨m1,e1,_⟩:=gN aG h1;obtain ⟨m2,e2,_⟩:=gN aG h2;obtain ⟨A3,n3,k3,x3,e3,hx3⟩:=yk h3;obtain ⟨A4,n4,k4,x4,e4,hx4⟩:=yk h4;simp at e0 e1 e2 e3 e4;subst e0 e1 e2 e3 e4;exact ⟨⟨m0,m1,m2,x3,x4⟩,⟨A3,n3,k3,A4,n4,k4⟩,rfl,hx3,hx4⟩
theorem Vd {fuel:Nat} {cs:List Value} {x:DataW H×List MemPlace} (hl:cs.length=7) (h:DataW.trod enc Tryz.prog W 0 sp held fuel 28 cs=some x): ∃(p:Pr) (a:xz),p.cells a=cs∧lK W p a:=by
 match cs,hl with
 |[c0,c1,c2,c3,c4,c5,c6],_=>
  obtain ⟨_,_,h0⟩:=db cZ h 0 rfl OL;obtain ⟨_,_,h1⟩:=db cZ h 1 rfl OM;obtain ⟨_,_,h2⟩:=db cZ h 2 rfl tm;obtain ⟨_,_,h3⟩:=db cZ h 3 rfl tm;obtain ⟨_,_,h4⟩:=db cZ h 4 rfl eD;obtain ⟨_,_,h5⟩:=db cZ h 5 rfl tm;obtain ⟨_,_,h6⟩:=db cZ h 6 rfl eD;obtain ⟨A0,n0,k0,x0,e0,hx0⟩:=Tw h0;obtain ⟨A1,n1,k1,x1,e1,hx1⟩:=P8 h1;obtain ⟨A2,n2,k2,x2,e2,hx2⟩:=yk h2;obtain ⟨A3,n3,k3,x3,e3,hx3⟩:=yk h3;obtain ⟨A5,n5,k5,x5,e5,hx5⟩:=yk h5;obtain ⟨m4,e4,_⟩:=gN aG h4;obtain ⟨m6,e6,_⟩:=gN aG h6;simp at e0 e1 e2 e3 e4 e5 e6;subst e0 e1 e2 e3 e4 e5 e6;exact ⟨⟨x0,x1,x2,x3,m4,x5,m6⟩,⟨⟨A0,n0,k0⟩,⟨A1,n1,k1⟩,⟨A2,n2,k2⟩,⟨A3,n3,k3⟩,⟨A5,n5,k5⟩⟩,rfl,hx0,hx1,hx2,hx3,hx5⟩
theorem DV (hv:Value.okWide Tryz.prog W .any base 30 v) (h:DataW.Trod enc Tryz.prog W 0 sp held 30 v d ps): ∃(f:Fl) (a:FA) (p:Pr) (q:xz) (k:Int),v= .agg (kF f a p q k).toArray∧kp W f a∧lK W p q:=by
 obtain ⟨cs,rfl,hsz⟩:=okWide_struct l9 hv;rw [Rk] at hsz;obtain ⟨l⟩:=cs
 match l,hsz with
 |[c0,c1,c2,c3,c4,c5,c6,c7,c8,c9,c10,c11,c12],_=>
  obtain ⟨_,hf⟩:=h;obtain ⟨_,_,h0⟩:=db l9 hf 0 rfl Rh;obtain ⟨_,_,h1⟩:=db l9 hf 1 rfl Rg;obtain ⟨_,_,h2⟩:=db l9 hf 2 rfl eD;obtain ⟨f,a,e0,hf0⟩:=Ve (cs:=[c0,c1,c2,c3,c4]) rfl h0;obtain ⟨p,q,e1,hp0⟩:=Vd (cs:=[c5,c6,c7,c8,c9,c10,c11]) rfl h1;obtain ⟨m2,e2,_⟩:=gN aG h2;refine ⟨f,a,p,q,m2,?_,hf0,hp0⟩;have e3:kF f a p q m2=f.cells a++p.cells q++[.int .i64 m2]:=rfl;rw [e3,e0,e1,←e2];rfl
theorem Ri:Tryz.prog.cellsOf 58=9:=by kernel_rfl
theorem Rf:Tryz.prog.cellsOf 60=12:=by kernel_rfl
theorem Ty {fuel:Nat} {cs:List Value} {x:DataW H×List MemPlace} (hl:cs.length=9) (h:DataW.trod enc Tryz.prog W 0 sp held fuel 58 cs=some x): ∃e:Ev,e.cells=cs∧(-9223372036854775808≤e.place∧e.place≤9223372036854775807):=by
 match cs,hl with
 |[c0,c1,c2,c3,c4,c5,c6,c7,c8],_=>
  obtain ⟨_,_,h0⟩:=db bE h 0 rfl eD;obtain ⟨_,_,h1⟩:=db bE h 1 rfl eD;obtain ⟨_,_,h2⟩:=db bE h 2 rfl eD;obtain ⟨_,_,h3⟩:=db bE h 3 rfl eD;obtain ⟨_,_,h4⟩:=db bE h 4 rfl eD;obtain ⟨_,_,h5⟩:=db bE h 5 rfl eD;obtain ⟨_,_,h6⟩:=db bE h 6 rfl eD;obtain ⟨_,_,h7⟩:=db bE h 7 rfl eD;obtain ⟨_,_,h8⟩:=db bE h 8 rfl eD;obtain ⟨m0,e0,w0⟩:=gN aG h0;obtain ⟨m1,e1,w1⟩:=gN aG h1;obtain ⟨m2,e2,w2⟩:=gN aG h2;obtain ⟨m3,e3,w3⟩:=gN aG h3;obtain ⟨m4,e4,w4⟩:=gN aG h4;obtain ⟨m5,e5,w5⟩:=gN aG h5;obtain ⟨m6,e6,w6⟩:=gN aG h6;obtain ⟨m7,e7,w7⟩:=gN aG h7;obtain ⟨m8,e8,w8⟩:=gN aG h8;simp at e0 e1 e2 e3 e4 e5 e6 e7 e8;subst e0 e1 e2 e3 e4 e5 e6 e7 e8;exact ⟨⟨m0,m1,m2,m3,m4,m5,m6,m7,m8⟩,rfl,Wp w6⟩
theorem Vc {fuel:Nat} {cs:List Value} {x:DataW H×List MemPlace} (hl:cs.length=12) (h:DataW.trod enc Tryz.prog W 0 sp held fuel 60 cs=some x): ∃s:k7,s.cells=cs∧(-9223372036854775808≤s.ev.place∧s.ev.place≤9223372036854775807):=by
 match cs,hl with
 |[c0,c1,c2,c3,c4,c5,c6,c7,c8,c9,c10,c11],_=>
  obtain ⟨_,_,h0⟩:=db ee h 0 rfl eD;obtain ⟨_,_,h1⟩:=db ee h 1 rfl eD;obtain ⟨_,_,h2⟩:=db ee h 2 rfl eD;obtain ⟨_,_,h3⟩:=db ee h 3 rfl Ri;obtain ⟨m0,e0,_⟩:=gN aG h0;obtain ⟨m1,e1,_⟩:=gN aG h1;obtain ⟨m2,e2,_⟩:=gN aG h2;obtain ⟨e,he,hp⟩:=Ty (cs:=[c3,c4,c5,c6,c7,c8,c9,c10,c11]) rfl h3;simp at e0 e1 e2;subst e0 e1 e2;refine ⟨⟨m0,m1,m2,e⟩,?_,hp⟩;show _::_::_::e.cells=_;rw [he]
theorem Gu (hv:Value.okWide Tryz.prog W .any base 54 v) (h:DataW.Trod enc Tryz.prog W 0 sp held 54 v d ps): ∃A n c xs,v= .slice A n c∧gJ W 12 k7.cells A n xs∧ ∀x∈xs,-9223372036854775808≤x.ev.place∧x.ev.place≤9223372036854775807:=by
 obtain ⟨a,l,c,rfl⟩:=okWide_slice eZ hv;obtain ⟨_,hf⟩:=h;obtain ⟨A,n,c',xs,e,hs,_,_,hx⟩:=AV eZ Rf (by decide) hf;obtain ⟨ys,hy,hq⟩:=hs.ET (enc:=k7.cells) (Q:=fun x=> -9223372036854775808≤x.ev.place∧x.ev.place≤9223372036854775807) fun x hx'=>by
  obtain ⟨hl,f,y,ht⟩:=hx x hx';exact Vc hl ht
 simp [Value.cells] at e;obtain ⟨rfl,rfl,rfl⟩:=e;exact ⟨_,_,_,ys,rfl,hy,hq⟩
end
def RI:Value:= .agg #[.int .i64 0, .int .i64 0, .int .i64 0, .slice none 0 0, .slice none 0 0, .slice none 0 0, .slice none 0 0, .slice none 0 0, .slice none 0 0, .int .i64 0, .slice none 0 0, .int .i64 0, .int .i64 0]
end Go.Proofs.Net
