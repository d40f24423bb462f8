import Derived.Test.YtakhechhnnjbcaaGreatBC30
import Derived.Shelf.SlMaps.Clone
import Derived.Test.YtakhechhnnjbcaaGreatBC28
import Derived.Test.YtakhechhnnjbcaaGreatBC04
import Derived.Test.YtakhechhnnjbcaaGreatTc
set_option maxRecDepth 100000
set_option maxHeartbeats 8000000
set_option linter.unusedVariables false
set_option linter.unusedSimpArgs false
namespace Go.Proofs.Net
open Go Go.RowKit Go.Proofs.E Go.Proofs.Cus Go.Proofs.Rid Go.Proofs.Far Go.Proofs.Hom
def Hj:Go.Shelf.Ren:=⟨fun|5=>125|7=>180|n=>n,fun|23=>125|25=>132|3=>58|4=>4|20=>20|n=>n,fun|n=>n⟩
theorem Q7:Go.Proofs.SlLaysW.n5 Tryz.prog Hj:={
 mixed:=by kernel_rfl,
 f5:=⟨Tryz.f125.name,by decide,Tryz.func125.trans (aT some (by kernel_rfl))⟩,
 f7:=Tryz.func180.trans (aT some (by kernel_rfl)),
 t4:=iL,
 a4:=kK,
 z4:=dG,
 v4:=gK,
 t20:=Tryz.underlying20,
 a20:=Tryz.isAgg20,
 z20:=Tryz.sizeOf20,
 v20:=Tryz.zeroValue20,
 t23:=iu,
 a23:=Tryz.isAgg125,
 z23:=Tryz.sizeOf125,
 v23:=Tryz.zeroValue125}
theorem OD {m:Nat} {ps:List ((Int×Int)×Value)} (w:World) (h:pU w m ps):Calls Tryz.prog 125 #[.map (some m)] w fun e w'=> ∃b:Nat,e= .returned (.map (some b))∧Mem w [oT b ps] w':=by
 obtain ⟨es,ck,h1,h2,h3⟩:=h;refine (AnyW.maps_Clone Q7 m es ck w h1).mono ?_;rintro e w' ⟨he,rfl⟩;exact ⟨w.heap.size,he,(Mem.start w).new _ (oT w.heap.size ps) (fun _ h=>h) ⟨es,ck,(MapKept.heap_alloc w _).1,h2,h3⟩⟩
theorem P' {r m:Nat} {dv:Int} {l:List Ev} (w:World) (h1:(box r 127 [.int .i64 dv, .map (some m)]).A w) (h2:pU w m (AJ l)):
  Calls Tryz.prog 68 #[.pointer (some ⟨r,0,none⟩)] w fun e w'=> ∃x:Nat×Nat,e= .returned (.pointer (some ⟨x.1,0,none⟩))∧Mem w (DI x.1 x.2 dv l) w':=by
 have hb:=pz h1;have hr:=p9 h1;obtain ⟨es,ck,g1,g2,g3⟩:=h2;have hmb:=(cm.1 g1).1;refine aS Tryz.func68 rfl Tryz.ntmps68 rfl ?_;iterate 9 refine G ?_
 refine bO (gj oO (q0 rfl)) ?_;iterate 2 refine G ?_
 refine au rfl ?_ ?_<;>intro hn
 ·cases hn
 iterate 3 refine G ?_
 refine jK [2,5,6,7,8,9,10,11,12,13,14,15] (fun x:Nat×Nat=>[(2, .pointer (some ⟨x.1,0,none⟩))]) (fun x=>DI x.1 x.2 dv l) (fun _=>True) ?_ ?_
 ·refine AQ ?_;refine aW 0 ?_;refine aW 1 ?_;refine aW 2 ?_;refine aW 3 ?_;refine aW 4 ?_;refine aW 5 ?_;refine aW 6 ?_;refine aW 7 ?_;refine r1 8 0 ?_;refine aL rfl (di (en Tryz.call125 (il (q0 rfl))) (fun w hw=>OD (ps:=AJ l) w ⟨es,ck,(hw.1.block m hmb).trans g1,g2,g3⟩) rfl (fun _=>rfl) fun y=>?_);refine iQ 9 rfl (bS qR Se Tryz.zeroValue127 (pt (v:= .int _ _) rfl (pt (v:= .map _) rfl E.p0)) rfl) ?_;refine r1 10 1 ?_;refine aL rfl (mo (v:= .agg _) rfl rfl fun b15=>?_);refine aI 1 ?_;refine xw (bK 2) ?_;refine aW 11 ?_;refine jz 0 ?_;exact aO ((b15,y):Nat×Nat) eE ⟨rfl,trivial⟩ (fun w hw=>hw.pick [1,0] (by decide)) rfl trivial
 rintro x g _;iterate 2 refine G ?_
 exact bH (v:= .pointer _) rfl rfl rfl fun w' hw=>⟨x,rfl,hw⟩
theorem Ng {α:Type} {w:World} {k n:Nat} {enc:α→List Value} {A:Option Addr} {xs:List α} (hx:gJ w k enc A n xs) (hA:A=none):n=0∧xs=[]:=by
 have hn0:n=0:=by
  rcases du n with h|h
  ·exact h
  obtain ⟨b,off,hb,_⟩:=hx.2.2 h;rw [hA] at hb;cases hb
 exact ⟨hn0,bW (hx.1.trans hn0)⟩
theorem OE (A:Option Addr) (n c:Nat) (xs:List En) (w:World) (hx:gJ w 5 En.cells A n xs) (hn:n≤10000):
  Calls Tryz.prog 126 #[.slice A n c] w fun e w'=> ∃x:Option Addr×Nat,e= .returned (.slice x.1 n x.2)∧Mem w [ry x.1 x.2 xs] w':=by
 have hl:=hx.1;refine aS Tryz.func126 rfl Tryz.ntmps126 rfl ?_;iterate 9 refine G ?_
 refine bO (ov dJ (q0 rfl)) ?_;iterate 2 refine G ?_
 refine au rfl ?_ ?_<;>intro h1
 ·obtain ⟨rfl,rfl⟩:=Ng hx (by simpa using h1);iterate 7 refine G ?_
  exact bH (v:= .slice _ _ _) rfl rfl rfl fun w' hw=>⟨(none,0),rfl,hw.eX _ _ _ rfl⟩
 iterate 4 refine G ?_
 refine bZ (qB En.cells dJ gQ rfl fun A1 c1=>?_);refine G ?_;refine lJ (ba (k:=5) (i:=Tryz.t222) (enc:=En.cells) 0 dJ (by kernel_rfl) rfl rfl rfl rfl (fun _=>rfl) (fun _=>rfl) rfl rfl rfl (fun w hw=>hx.mem hw) ⟨by simp;omega,by decide⟩ rfl fun A2 c2=>?_);iterate 4 refine G ?_
 exact bH (v:= .slice _ _ _) rfl rfl rfl fun w' hw=>⟨(A2,c2),by rw [←hl];rfl,hw⟩
theorem OF (A:Option Addr) (n c:Nat) (xs:List Bool) (w:World) (hx:gJ w 1 Ht A n xs) (hn:n≤10000):
  Calls Tryz.prog 70 #[.slice A n c] w fun e w'=> ∃x:Option Addr×Nat,e= .returned (.slice x.1 n x.2)∧Mem w [E.dR 4 1 Ht x.1 x.2 xs] w':=by
 have hl:=hx.1;refine aS Tryz.func70 rfl Tryz.ntmps70 rfl ?_;iterate 9 refine G ?_
 refine bO (ov eN (q0 rfl)) ?_;iterate 2 refine G ?_
 refine au rfl ?_ ?_<;>intro h1
 ·obtain ⟨rfl,rfl⟩:=Ng hx (by simpa using h1);iterate 7 refine G ?_
  exact bH (v:= .slice _ _ _) rfl rfl rfl fun w' hw=>⟨(none,0),rfl,hw.eX _ _ _ rfl⟩
 iterate 4 refine G ?_
 refine bZ (qB Ht eN dG rfl fun A1 c1=>?_);refine G ?_;refine lJ (ba (k:=1) (i:=Tryz.t4) (enc:=Ht) 0 eN (by kernel_rfl) rfl rfl rfl rfl (fun _=>rfl) (fun _=>rfl) rfl rfl rfl (fun w hw=>hx.mem hw) ⟨by simp;omega,by decide⟩ rfl fun A2 c2=>?_);iterate 4 refine G ?_
 exact bH (v:= .slice _ _ _) rfl rfl rfl fun w' hw=>⟨(A2,c2),by rw [←hl];rfl,hw⟩
theorem NG {l:List En} (h:(l.map (·.jF.aP)).Nodup) {k:Nat} {e:En} (he:l[k]?=some e):(l.take k).findIdx? (AY e.jF.aP)=none:=by
 rw [qU];intro x hx;unfold AY;rw [dm];intro hr;obtain ⟨j,hj⟩:=bC.1 hx;have hjk:j<k:=by
  have:=(aa.1 hj).1;rw [cH] at this;omega
 rw [WT hjk] at hj;have a1:=bf (f:=fun x:En=>x.jF.aP) (l:=l) (i:=j);have a2:=bf (f:=fun x:En=>x.jF.aP) (l:=l) (i:=k);rw [hj] at a1;rw [he] at a2;simp only [fU] at a1 a2;rw [hr] at a1;obtain ⟨g1,g2⟩:=aa.1 a1;obtain ⟨g3,g4⟩:=aa.1 a2;have:=(List.getElem_inj h).1 (g2.trans g4.symm);omega
theorem Q1 {d m:Nat} {A:Option Addr} {c:Nat} {l:List En} (w:World) (h1:(box d 159 [.slice A l.length c, .map (some m)]).A w) (hx:gJ w 5 En.cells A l.length l) (hn:l.length≤256) (hnd:(l.map (·.jF.aP)).Nodup):
  Calls Tryz.prog 69 #[.pointer (some ⟨d,0,none⟩)] w fun e w'=> ∃x:(Nat×Nat)×(Option Addr×Nat),e= .returned (.pointer (some ⟨x.1.1,0,none⟩))∧Mem w (jv x.1.1 x.1.2 x.2.1 x.2.2 l) w':=by
 have hb:=pz h1;have hr:=p9 h1;refine aS Tryz.func69 rfl Tryz.ntmps69 rfl ?_;iterate 9 refine G ?_
 refine bO (gj r8 (q0 rfl)) ?_;iterate 2 refine G ?_
 refine au rfl ?_ ?_<;>intro hnil
 ·cases hnil
 iterate 8 refine G ?_
 refine qW (en Tryz.call126 (il (q0 rfl))) (fun w hw=>OE A l.length c l w (hx.mem hw) (by omega)) rfl (fun _=>rfl) fun y=>?_;obtain ⟨A1,c1⟩:=y;refine qK rfl fun bm=>?_;refine bO (bS iZ Sd Tryz.zeroValue159 (pt (v:= .slice _ _ _) rfl (pt (v:= .map _) rfl E.p0)) rfl) ?_;refine cd (v:= .agg _) rfl rfl fun b15=>?_;iterate 15 refine G ?_
 refine ct [4,5,21,22,23,24,25,26,27,28,29,30,31,32,33,34] (fun k:Nat=>[(21, .int .i64 k)]) (fun k=>[box b15 159 [.slice A1 l.length c1, .map (some bm)],kS bm (DL (l.take k)),ry A1 c1 l]) (fun k=>k≤l.length) (fun k=>l.length -k) 0 ⟨rfl,trivial⟩ (fun w hw=>hw) rfl (aU _) ?_;intro k g hk;have hk:k≤l.length:=hk;iterate 6 refine G ?_
 refine au rfl ?_ ?_<;>intro hlt
 ·have hlt':k<l.length:=by simpa using hlt
  have hek:=np hlt';generalize l.getD k default=e at hek;have hst:DL (l.take (k+1))=ml (DL (l.take k)) e.jF.aP (.int .i64 k):=by
   have hl:(l.take k).length=k:=by rw [cH];omega
   have:=GD e (NG hnd hek);rw [hl] at this;rw [this,wB l k e hek]
  refine fN (fun w hw=>dP (j:=2) hw rfl (by omega)) fun ⟨eb,heb⟩=>?_;subst heb;iterate 7 refine G ?_
  refine bO (bt k dJ gQ (q0 rfl) (q0 rfl) (fun _=>⟨rfl,hlt'⟩)) ?_;refine bO (eS Tryz.isAgg222 gQ (q0 rfl) (sf 2 rfl hek)) ?_;refine cx xI rfl fun b5=>?_;refine G ?_;refine fI (v:= .agg _) rfl rfl gQ ?_;iterate 2 refine G ?_
  refine fY (L':=[kS bm (DL (l.take k)),box b5 222 e.cells,box b15 159 [.slice (some ⟨eb,0,none⟩) l.length c1, .map (some bm)],ry (some ⟨eb,0,none⟩) c1 l]) (fun w hw=>hw.pick [2,0,1,3] (by decide)) rfl ?_;refine jK [26,27,28,29,30,31,32,33] (fun _:Unit=>[]) (fun _=>[kS bm (ml (DL (l.take k)) e.jF.aP (.int .i64 k)),box b5 222 e.cells,box b15 159 [.slice (some ⟨eb,0,none⟩) l.length c1, .map (some bm)],ry (some ⟨eb,0,none⟩) c1 l]) (fun _=>True) ?_ ?_
  ·refine zd 1 ?_;refine aW 0 ?_;refine aW 1 ?_;refine aW 2 ?_;refine aW 3 ?_;refine aW 4 ?_;refine aW 5 ?_;refine aW 6 ?_;refine aW 7 ?_;refine r1 8 1 ?_;refine aL rfl (G6 0 (key:=e.jF.aP) (v:= .int .i64 k) ja aG rfl rfl rfl rfl ?_);refine jz 1 ?_;exact aO () eE trivial (fun w hw=>hw) rfl trivial
  rintro _ g2 _;iterate 6 refine G ?_
  exact ay (k+1) eE ⟨rfl,trivial⟩ (fun w hw=>by rw [hst];exact hw.pick [2,0,3] (by decide)) rfl (by show k+1≤l.length;omega) (by show l.length -(k+1)<l.length -k;omega)
 have hke:k=l.length:=by simp at hlt;omega
 subst hke;iterate 12 refine G ?_
 exact bH (v:= .pointer _) rfl rfl rfl fun w' hw=>⟨((b15,bm),(A1,c1)),rfl,by rw [dp] at hw;exact hw.pick [0,2,1] (by decide)⟩
def Old (w:World) (it:E.Item):Prop:=it.A w∧ ∀b,it.fp b→b<w.heap.size
theorem Old.now {w w':World} {it:E.Item} {L:List E.Item} (h:Old w it) (hw:Mem w L w'):it.A w':=it.st _ _ (fun b hb=>hw.1.1.block b (h.2 b hb)) h.1
theorem zw {w0 w:World} {it:E.Item} {L:List E.Item} (h:Mem w0 L w) (hi:it∈L):Old w it:=⟨h.2.1 it hi,fun b hb=>(h.2.2.1 it hi b hb).2⟩
theorem Old.dD {w:World} {it:E.Item} {T:List E.Item} (h:Old w (E.dD T)) (hi:it∈T):Old w it:=⟨h.1.1 it hi,fun b hb=>h.2 b ⟨it,hi,hb⟩⟩
theorem Old.row {α:Type} {w:World} {e:TypeId} {k:Nat} {enc:α→List Value} {A:Option Addr} {c:Nat} {xs:List α} (h:Old w (E.dR e k enc A c xs)) (he: ∀x,(enc x).length=k) (hl:xs.length≤9223372036854775807):gJ w k enc A xs.length xs:=(lZ.row he hl).ok w h.1
theorem xW {w0 w:World} {dv:Int} {a:SA} {x:SS} {sv:List (SA×SS)} {L:List E.Item} (h:Mem w0 (dD (DI a.r a.m dv x.eO)::dD (jv a.d a.e a.A a.c x.gm)::C' a x.lose::dD (sv.flatMap (p5 dv))::L) w):Mem w0 (dD ((sv++[(a,x)]).flatMap (p5 dv))::L) w:=by
 have h1:=h.uG.dh 5 [2,0,1,3,4] (by decide) (by decide);have h2:=h1.uG.dh 7 [5,3,4,0,1,2,6] (by decide) (by decide);exact Mem.ph (f:=p5 dv) (y:=(a,x)) h2
theorem Gj {r m:Nat} {dv:Int} {l:List Ev} (w:World) (h1:(box r 127 [.int .i64 dv, .map (some m)]).A w) (h2:pU w m (AJ l)):
  Calls Tryz.prog 68 #[.pointer (some ⟨r,0,none⟩)] w fun e w'=> ∃x:Nat×Nat,e= .returned (.pointer (some ⟨x.1,0,none⟩))∧Mem w [dD (DI x.1 x.2 dv l)] w':=
 (P' w h1 h2).mono fun _ _ ⟨x,he,hm⟩=>⟨x,he,Mem.dD (L:=[]) hm⟩
theorem CT {d m:Nat} {A:Option Addr} {c:Nat} {l:List En} (w:World) (h1:(box d 159 [.slice A l.length c, .map (some m)]).A w) (hx:gJ w 5 En.cells A l.length l) (hn:l.length≤256) (hnd:(l.map (·.jF.aP)).Nodup):
  Calls Tryz.prog 69 #[.pointer (some ⟨d,0,none⟩)] w fun e w'=> ∃x:(Nat×Nat)×(Option Addr×Nat),e= .returned (.pointer (some ⟨x.1.1,0,none⟩))∧Mem w [dD (jv x.1.1 x.1.2 x.2.1 x.2.2 l)] w':=
 (Q1 w h1 hx hn hnd).mono fun _ _ ⟨x,he,hm⟩=>⟨x,he,Mem.dD (L:=[]) hm⟩
theorem Ei (A:Option Addr) (n c:Nat) (xs:List Bool) (w:World) (hx:gJ w 1 Ht A n xs) (hn:n≤10000) (h0:0<n):
  Calls Tryz.prog 70 #[.slice A n c] w fun e w'=> ∃x:Nat×Nat,e= .returned (.slice (some ⟨x.1,0,none⟩) n x.2)∧Mem w [E.dR 4 1 Ht (some ⟨x.1,0,none⟩) x.2 xs] w':=
 (OF A n c xs w hx hn).mono fun e w' ⟨⟨B,d⟩,he,hm⟩=>by
  obtain ⟨b,rfl⟩:=dP (j:=0) hm rfl (by rw [hx.1];exact h0);exact ⟨(b,d),he,hm⟩
structure Xf (f:Fl) (p:Pr) (sv:List (SA×SS)) (ap:List ((Nat×Nat)×List Bool)) (x:NX):Prop where
 ss:x.1.ss=x.2.1.map (·.1.s)
 bs:x.1.bs=x.2.2.1.map (·.1)
 sv:x.2.1.map (·.2)=sv.map (·.2)
 ap:x.2.2.1.map (·.2)=ap.map (·.2)
 k:lZ (dD x.2.2.2) fun w=>kp w f (FB x.1)∧lK w p x.1.p
theorem wF {α β:Type} {g:α→β} {xs:List α} {k:Nat} {x:α} (h:xs[k]?=some x):(xs.map g).take (k+1)=(xs.map g).take k++[g x]:=wB _ _ _ (by rw [bf,h];rfl)
theorem Qn {f:Fl} {p:Pr} {M:NM} {bank:List Py} {sv:List (SA×SS)} {ap:List ((Nat×Nat)×List Bool)} (w:World) (ho: ∀it∈q8 f p M bank sv ap [],Old w it) (hf:kp w f (FB M)) (hp:lK w p M.p)
  (pw:M.ss=sv.map (·.1.s)) (hbs:M.bs=ap.map (·.1)) (hap:ap.length=sv.length) (h8:sv.length≤8) (h1:1≤sv.length) (hr: ∀y∈ap,y.2.length=ap.length) (hd:(FB M).dn≤100000) (ht:(FB M).tn≤100000) (hn:Own.Sx M.p)
  (hk: ∀y∈sv,y.2.gm.length≤256∧(y.2.gm.map (·.jF.aP)).Nodup) (hbk:bank.length≤256):
  Calls Tryz.prog 31 #[.pointer (some ⟨M.nb,0,none⟩)] w fun e w'=> ∃x:{x:NX//Xf f p sv ap x},e= .returned (.pointer (some ⟨x.1.1.nb,0,none⟩))∧Mem w (q8 f p x.1.1 bank x.1.2.1 x.1.2.2.1 [dD x.1.2.2.2]) w':=by
 have hob:=ho _ (bF ..);have hos:=ho _ (aB _ (bF ..));have hor:=ho _ (aB _ (aB _ (bF ..)));have hok:=ho _ (aB _ (aB _ (aB _ (bF ..))));have hov:=ho _ (aB _ (aB _ (aB _ (aB _ (bF ..)))));have hoa:=ho _ (aB _ (aB _ (aB _ (aB _ (aB _ (bF ..))))));obtain ⟨nb0,md,mt,mp,sA,sc,ss,bA,bc,bs,kA,kc⟩:=M;simp only at pw hbs hob hos hor hok hf hp hd ht hn;have hsl:ss.length=sv.length:=by rw [pw,aD]
 have hbl0:bs.length=ap.length:=by rw [hbs,aD]
 have hss2:ss.length≤9223372036854775807:=by omega
 have hxs:gJ w 1 Jk sA ss.length ss:=hos.row (fun _=>rfl) (by omega);have hxb:gJ w 1 (Po ss.length) bA bs.length bs:=hor.row (fun _=>rfl) (by omega);have hxk:=hok.row (fun _=>rfl) (by omega);have hb:=pz hob.1;have hrow:=p9 hob.1;refine aS Tryz.func31 rfl Tryz.ntmps31 rfl ?_;iterate 9 refine G ?_
 refine bO (gj e9 (q0 rfl)) ?_;iterate 2 refine G ?_
 refine au rfl ?_ ?_<;>intro hnil
 ·cases hnil
 iterate 3 refine G ?_
 refine jK [3,8,9,10,11,12,13,14,15,16,17,18,19,20,21] (fun x:Own.Uv f×Own.VT p×(Option Addr×Nat)×Nat=>[(3, .pointer (some ⟨x.2.2.2,0,none⟩))]) (fun x=>[dD x.1.1.2,dD x.2.1.1.2,mM x.2.2.1.1 x.2.2.1.2 bank,box x.2.2.2 97 (Gw f p ⟨x.2.2.2,x.1.1.1.1,x.1.1.1.2,x.2.1.1.1,none,0,[],none,0,[],x.2.2.1.1,x.2.2.1.2⟩ bank.length)]) (fun _=>True) ?_ ?_
 ·refine AQ ?_;refine aW 0 ?_;refine aW 1 ?_;refine aW 2 ?_;refine iQ 3 rfl (eP iv fG (q0 rfl)) ?_;refine aW 5 ?_;refine aW 6 ?_;refine aW 7 ?_;refine iQ 8 rfl (eP kz iM (q0 rfl)) ?_;refine aW 10 ?_;refine r1 4 0 ?_;refine aL rfl (di (en Tryz.call36 (il (q0 rfl))) (fun w hw=>Own.B9 f ⟨md.A,md.n,md.c,mt.A,mt.n,mt.c⟩ w (hf.mem hw) hd ht) rfl (fun _=>rfl) fun y=>?_);refine r1 9 1 ?_;refine aL rfl (di (en Tryz.call37 (il (q0 rfl))) (fun w hw=>Own.Al p mp w (hp.mem hw) hn) rfl (fun _=>rfl) fun z=>?_);refine aI 1 ?_;refine r1 11 2 ?_;refine aL rfl (di (en pZ (il (q0 rfl))) (fun w hw=>tP (f:=f) (p:=p) (M:=⟨nb0,md,mt,mp,sA,sc,ss,bA,bc,bs,kA,kc⟩) (b:=bank) w (hob.now hw) (hxk.mem hw) hbk) rfl (fun _=>rfl) fun u=>?_);refine aI 2 ?_;refine iQ 12 rfl (bS xK Vm Tryz.zeroValue97 (pt (v:= .agg _) rfl (pt (v:= .agg _) rfl (pt (v:= .agg _) rfl E.p0))) rfl) ?_;refine r1 13 3 ?_;refine aL rfl (mo (v:= .agg _) rfl rfl fun b21=>?_);refine aI 3 ?_;refine xw (bK 4) ?_;refine aW 14 ?_;refine jz 0 ?_;exact aO ((y,z,u,b21):Own.Uv f×Own.VT p×(Option Addr×Nat)×Nat) eE ⟨rfl,trivial⟩ (fun w hw=>hw) rfl trivial
 rintro ⟨⟨⟨⟨d0,t0⟩,V0⟩,hv0⟩,⟨⟨p0',V1⟩,hv1⟩,⟨uA,uc⟩,nb⟩ g _;iterate 13 refine G ?_
 refine ct [4,5,27,28,29,30,31,32,33,34,35,36,37,38,39,40,41,42,43,44,45,46,47,48,49,50,51,52,53,54,55,56,57,58,59,60,61,62,63,64,65,66,67,68,69,70,71,72,73,74] (fun s:Nat×List (SA×SS)×List ((Nat×Nat)×List Bool)×(Option Addr×Nat)×Option Addr×Nat=>[(27, .int .i64 s.1)]) (fun s=>[dD (s.2.1.flatMap (p5 f.aH)),box nb 97 (Gw f p ⟨nb,d0,t0,p0',s.2.2.2.1.1,s.2.2.2.1.2,s.2.1.map (·.1.s),s.2.2.2.2.1,s.2.2.2.2.2,s.2.2.1.map (·.1),uA,uc⟩ bank.length),xX s.2.2.2.1.1 s.2.2.2.1.2 (s.2.1.map (·.1.s)),dD (s.2.2.1.flatMap rG),yN ss.length s.2.2.2.2.1 s.2.2.2.2.2 (s.2.2.1.map (·.1)),dD V1,dD V0,mM uA uc bank]) (fun s=>s.1≤ss.length∧s.2.1.map (·.2)=(sv.map (·.2)).take s.1∧s.2.2.1.map (·.2)=(ap.map (·.2)).take s.1) (fun s=>ss.length -s.1) (0,[],[],(none,0),none,0) ⟨rfl,trivial⟩ (fun w hw=>(((hw.pick [3,1,0,2] (by decide)).eX 103 1 (Po ss.length) rfl).wE (f:=rG).eX 98 1 Jk rfl).wE (f:=p5 f.aH)|>.pick [0,4,1,2,3,5,6,7] (by decide)) rfl ⟨aU _,rfl,rfl⟩ ?_;rintro ⟨k,sv',ap',⟨oA,oc⟩,qA,qc⟩ g2 ⟨hk',hsv,hap'⟩;have hk':k≤ss.length:=hk';have hsv:sv'.map (·.2)=(sv.map (·.2)).take k:=hsv;have hap':ap'.map (·.2)=(ap.map (·.2)).take k:=hap';have hsl':(sv'.map (·.1.s)).length=k:=by have:=aT List.length hsv;simp at this⊢;omega
 have hbl':(ap'.map (·.1)).length=k:=by have:=aT List.length hap';simp at this⊢;omega
 generalize hss':sv'.map (·.1.s)=os at*;generalize hbs':ap'.map (·.1)=ob at*;iterate 6 refine G ?_
 refine au rfl ?_ ?_<;>intro hlt
 ·have hlt':k<ss.length:=by simpa using hlt
  obtain ⟨b0,off0,s0,hA0,hbl1,hsk,hrs⟩:=hxs.at_ hlt';subst hA0;obtain ⟨⟨a,x⟩,hx⟩: ∃y,sv[k]?=some y:=⟨_,aj (by omega)⟩;obtain rfl:a.s=s0:=by rw [pw,bf,hx] at hsk;simpa using hsk
  have hmx:=an hx;have hin: ∀it∈p5 f.aH (a,x),Old w it:=fun it hi=>hov.dD (dO.2 ⟨_,hmx,hi⟩);have o1:Old w (C' a x.lose):=hin _ (bF ..);have o2:Old w (box a.r 127 [.int .i64 f.aH, .map (some a.m)]):=hin _ (aB _ (bF ..));have o3:Old w (oT a.m (AJ x.eO)):=hin _ (aB _ (aB _ (bF ..)));have o4:Old w (box a.d 159 [.slice a.A x.gm.length a.c, .map (some a.e)]):=hin _ (aB _ (aB _ (aB _ (bF ..))));have o5:Old w (ry a.A a.c x.gm):=hin _ (aB _ (aB _ (aB _ (aB _ (bF ..)))));obtain ⟨hk1,hk2⟩:=hk _ hmx;have q5:=o5.row (fun _=>rfl) (by simp only at hk1;omega);have hbs0:=pz o1.1;have hrs0:=p9 o1.1;iterate 7 refine G ?_
  refine bO (bt _ cv fZ (q0 rfl) (q0 rfl) (fun _=>⟨rfl,by omega⟩)) ?_;iterate 6 refine G ?_
  refine jK [32,33,34,35,36,37,38,39,40,41,42,43,44,45,46,47,48,49,50,51,52,53,54,55,56] (fun q:(Nat×Nat)×((Nat×Nat)×(Option Addr×Nat))×Nat×Option Addr×Nat=>[]) (fun q=>[dD ((sv'++[((⟨q.2.2.1,q.1.1,q.1.2,q.2.1.1.1,q.2.1.1.2,q.2.1.2.1,q.2.1.2.2⟩:SA),x)]).flatMap (p5 f.aH)),box nb 97 (Gw f p ⟨nb,d0,t0,p0',q.2.2.2.1,q.2.2.2.2,os++[q.2.2.1],qA,qc,ob,uA,uc⟩ bank.length),xX q.2.2.2.1 q.2.2.2.2 (os++[q.2.2.1]),dD (ap'.flatMap rG),yN ss.length qA qc ob,dD V1,dD V0,mM uA uc bank]) (fun _=>True) ?_ ?_
  ·refine zd 3 ?_;refine aW 0 ?_;refine aW 1 ?_;refine aW 2 ?_;refine aW 3 ?_;refine aW 5 ?_;refine aW 6 ?_;refine aW 7 ?_;refine aW 8 ?_;refine aW 10 ?_;refine aW 11 ?_;refine aW 12 ?_;refine aW 13 ?_;refine aW 15 ?_;refine aW 16 ?_;refine aW 17 ?_;refine aW 18 ?_;refine kY (i:=4) (j:=9) (by decide+kernel) (bK 3) ?_ ?_
   ·refine aL rfl (gY (ea (v:= .slice oA os.length oc) nT (q0 rfl) cb) rfl rfl ?_);refine r1 9 3 ?_;refine aL rfl (di (en Tryz.call68 (il (q0 rfl))) (fun w hw=>Gj (r:=a.r) (m:=a.m) (dv:=f.aH) (l:=x.eO) w (o2.now hw) (o3.now hw)) rfl (fun _=>rfl) fun y=>?_);refine r1 14 4 ?_;refine aL rfl (di (en Wc (il (q0 rfl))) (fun w hw=>CT (d:=a.d) (m:=a.e) (A:=a.A) (c:=a.c) (l:=x.gm) w (o4.now hw) (q5.mem hw) hk1 hk2) rfl (fun _=>rfl) fun z=>?_);refine aI 1 ?_;refine iQ 19 rfl (bS lB G0 r7 (pt (v:= .pointer _) rfl (pt (v:= .pointer _) rfl (pt (v:= .int _ _) rfl E.p0))) rfl) ?_;refine r1 20 5 ?_;refine aL rfl (mo (v:= .agg _) rfl rfl fun b52=>?_);refine aI 2 ?_;refine r1 21 6 ?_;refine aL rfl (dE [(.pointer none)] cv fZ jW rfl (by kernel_rfl) (pt (v:= .pointer _) rfl E.p0) rfl rfl fun b53=>?_);refine aI 3 ?_;refine r1 22 7 ?_;refine aL rfl (ba (k:=1) (i:=Tryz.t98) (enc:=Jk) 6 cv (by kernel_rfl) rfl rfl rfl rfl (fun _=>rfl) (fun _=>rfl) rfl rfl rfl (fun w hw=>bg (xs:=[b52]) hw (j:=3) rfl (fun _=>rfl) (by simp)) ⟨by simp;omega,by decide⟩ rfl fun A2 c2=>?_);refine aW 23 ?_;refine aW 24 ?_;refine r1 25 7 ?_;refine aL rfl (kU (v:= .slice _ _ _) rfl rfl mD ?_);refine jz 7 ?_;exact aO ((y,z,b52,A2,c2):(Nat×Nat)×((Nat×Nat)×(Option Addr×Nat))×Nat×Option Addr×Nat) eE trivial (fun w hw=>xW (a:=⟨b52,y.1,y.2,z.1.1,z.1.2,z.2.1,z.2.2⟩) (x:=x) (hw.pick [0,1,2,4,5,6,7,8,9,10,11] (by decide))) rfl trivial
   refine aL rfl (di (en Tryz.call68 (il (q0 rfl))) (fun w hw=>Gj (r:=a.r) (m:=a.m) (dv:=f.aH) (l:=x.eO) w (o2.now hw) (o3.now hw)) rfl (fun _=>rfl) fun y=>?_);refine kY (i:=4) (j:=14) (by decide+kernel) (bK 4) ?_ ?_
   ·refine aL rfl (gY (ea (v:= .slice oA os.length oc) nT (q0 rfl) cb) rfl rfl ?_);refine r1 14 4 ?_;refine aL rfl (di (en Wc (il (q0 rfl))) (fun w hw=>CT (d:=a.d) (m:=a.e) (A:=a.A) (c:=a.c) (l:=x.gm) w (o4.now hw) (q5.mem hw) hk1 hk2) rfl (fun _=>rfl) fun z=>?_);refine aI 1 ?_;refine iQ 19 rfl (bS lB G0 r7 (pt (v:= .pointer _) rfl (pt (v:= .pointer _) rfl (pt (v:= .int _ _) rfl E.p0))) rfl) ?_;refine r1 20 5 ?_;refine aL rfl (mo (v:= .agg _) rfl rfl fun b52=>?_);refine aI 2 ?_;refine r1 21 6 ?_;refine aL rfl (dE [(.pointer none)] cv fZ jW rfl (by kernel_rfl) (pt (v:= .pointer _) rfl E.p0) rfl rfl fun b53=>?_);refine aI 3 ?_;refine r1 22 7 ?_;refine aL rfl (ba (k:=1) (i:=Tryz.t98) (enc:=Jk) 6 cv (by kernel_rfl) rfl rfl rfl rfl (fun _=>rfl) (fun _=>rfl) rfl rfl rfl (fun w hw=>bg (xs:=[b52]) hw (j:=3) rfl (fun _=>rfl) (by simp)) ⟨by simp;omega,by decide⟩ rfl fun A2 c2=>?_);refine aW 23 ?_;refine aW 24 ?_;refine r1 25 7 ?_;refine aL rfl (kU (v:= .slice _ _ _) rfl rfl mD ?_);refine jz 7 ?_;exact aO ((y,z,b52,A2,c2):(Nat×Nat)×((Nat×Nat)×(Option Addr×Nat))×Nat×Option Addr×Nat) eE trivial (fun w hw=>xW (a:=⟨b52,y.1,y.2,z.1.1,z.1.2,z.2.1,z.2.2⟩) (x:=x) (hw.pick [0,1,2,4,5,6,7,8,9,10,11] (by decide))) rfl trivial
   refine aL rfl (di (en Wc (il (q0 rfl))) (fun w hw=>CT (d:=a.d) (m:=a.e) (A:=a.A) (c:=a.c) (l:=x.gm) w (o4.now hw) (q5.mem hw) hk1 hk2) rfl (fun _=>rfl) fun z=>?_);refine aI 1 ?_;refine iQ 19 rfl (bS lB G0 r7 (pt (v:= .pointer _) rfl (pt (v:= .pointer _) rfl (pt (v:= .int _ _) rfl E.p0))) rfl) ?_;refine kY (i:=4) (j:=20) (by decide+kernel) (bK 5) ?_ ?_
   ·refine aL rfl (gY (ea (v:= .slice oA os.length oc) nT (q0 rfl) cb) rfl rfl ?_);refine r1 20 5 ?_;refine aL rfl (mo (v:= .agg _) rfl rfl fun b52=>?_);refine aI 2 ?_;refine r1 21 6 ?_;refine aL rfl (dE [(.pointer none)] cv fZ jW rfl (by kernel_rfl) (pt (v:= .pointer _) rfl E.p0) rfl rfl fun b53=>?_);refine aI 3 ?_;refine r1 22 7 ?_;refine aL rfl (ba (k:=1) (i:=Tryz.t98) (enc:=Jk) 6 cv (by kernel_rfl) rfl rfl rfl rfl (fun _=>rfl) (fun _=>rfl) rfl rfl rfl (fun w hw=>bg (xs:=[b52]) hw (j:=3) rfl (fun _=>rfl) (by simp)) ⟨by simp;omega,by decide⟩ rfl fun A2 c2=>?_);refine aW 23 ?_;refine aW 24 ?_;refine r1 25 7 ?_;refine aL rfl (kU (v:= .slice _ _ _) rfl rfl mD ?_);refine jz 7 ?_;exact aO ((y,z,b52,A2,c2):(Nat×Nat)×((Nat×Nat)×(Option Addr×Nat))×Nat×Option Addr×Nat) eE trivial (fun w hw=>xW (a:=⟨b52,y.1,y.2,z.1.1,z.1.2,z.2.1,z.2.2⟩) (x:=x) (hw.pick [0,1,2,4,5,6,7,8,9,10,11] (by decide))) rfl trivial
   refine aL rfl (mo (v:= .agg _) rfl rfl fun b52=>?_);refine aI 2 ?_;refine kY (i:=4) (j:=21) (by decide+kernel) (bK 6) ?_ ?_
   ·refine aL rfl (gY (ea (v:= .slice oA os.length oc) nT (q0 rfl) cb) rfl rfl ?_);refine r1 21 6 ?_;refine aL rfl (dE [(.pointer none)] cv fZ jW rfl (by kernel_rfl) (pt (v:= .pointer _) rfl E.p0) rfl rfl fun b53=>?_);refine aI 3 ?_;refine r1 22 7 ?_;refine aL rfl (ba (k:=1) (i:=Tryz.t98) (enc:=Jk) 6 cv (by kernel_rfl) rfl rfl rfl rfl (fun _=>rfl) (fun _=>rfl) rfl rfl rfl (fun w hw=>bg (xs:=[b52]) hw (j:=3) rfl (fun _=>rfl) (by simp)) ⟨by simp;omega,by decide⟩ rfl fun A2 c2=>?_);refine aW 23 ?_;refine aW 24 ?_;refine r1 25 7 ?_;refine aL rfl (kU (v:= .slice _ _ _) rfl rfl mD ?_);refine jz 7 ?_;exact aO ((y,z,b52,A2,c2):(Nat×Nat)×((Nat×Nat)×(Option Addr×Nat))×Nat×Option Addr×Nat) eE trivial (fun w hw=>xW (a:=⟨b52,y.1,y.2,z.1.1,z.1.2,z.2.1,z.2.2⟩) (x:=x) (hw.pick [0,1,2,4,5,6,7,8,9,10,11] (by decide))) rfl trivial
   refine aL rfl (dE [(.pointer none)] cv fZ jW rfl (by kernel_rfl) (pt (v:= .pointer _) rfl E.p0) rfl rfl fun b53=>?_);refine aI 3 ?_;refine r1 4 7 ?_;refine aL rfl (gY (ea (v:= .slice oA os.length oc) nT (q0 rfl) cb) rfl rfl ?_);refine r1 22 7 ?_;refine aL rfl (ba (k:=1) (i:=Tryz.t98) (enc:=Jk) 6 cv (by kernel_rfl) rfl rfl rfl rfl (fun _=>rfl) (fun _=>rfl) rfl rfl rfl (fun w hw=>bg (xs:=[b52]) hw (j:=3) rfl (fun _=>rfl) (by simp)) ⟨by simp;omega,by decide⟩ rfl fun A2 c2=>?_);refine aW 23 ?_;refine aW 24 ?_;refine r1 25 7 ?_;refine aL rfl (kU (v:= .slice _ _ _) rfl rfl mD ?_);refine jz 7 ?_;exact aO ((y,z,b52,A2,c2):(Nat×Nat)×((Nat×Nat)×(Option Addr×Nat))×Nat×Option Addr×Nat) eE trivial (fun w hw=>xW (a:=⟨b52,y.1,y.2,z.1.1,z.1.2,z.2.1,z.2.2⟩) (x:=x) (hw.pick [0,1,2,4,5,6,7,8,9,10,11] (by decide))) rfl trivial
  rintro ⟨⟨y1,y2⟩,⟨⟨z1,z2⟩,z3,z4⟩,sb,A2,c2⟩ g3 _;obtain ⟨b1,off1,y0,hA1,hbl2,hbk2,hrb⟩:=hxb.at_ (show k<bs.length by omega);subst hA1;obtain ⟨⟨yb,yl⟩,hy⟩: ∃y,ap[k]?=some y:=⟨_,aj (by omega)⟩;obtain rfl:yb=y0:=by rw [hbs,bf,hy] at hbk2;simpa using hbk2
  have hmy:=an hy;have hyl:yl.length=ap.length:=hr _ hmy;have o6:Old w (E.dR 4 1 Ht (some ⟨yb.1,0,none⟩) yb.2 yl):=hoa.dD (dO.2 ⟨_,hmy,bF ..⟩);have q6:=o6.row (fun _=>rfl) (by omega);rw [show yl.length=ss.length by omega] at q6;refine G ?_;refine jK [57,58,59,60,61,62,63,64,65,66,67,68,69,70,71,72,73] (fun q:(Nat×Nat)×Option Addr×Nat=>[]) (fun q=>[dD ((sv'++[((⟨sb,y1,y2,z1,z2,z3,z4⟩:SA),x)]).flatMap (p5 f.aH)),box nb 97 (Gw f p ⟨nb,d0,t0,p0',A2,c2,os++[sb],q.2.1,q.2.2,ob++[q.1],uA,uc⟩ bank.length),xX A2 c2 (os++[sb]),dD ((ap'++[(q.1,yl)]).flatMap rG),yN ss.length q.2.1 q.2.2 (ob++[q.1]),dD V1,dD V0,mM uA uc bank]) (fun _=>True) ?_ ?_
  ·refine zd 5 ?_;refine aW 0 ?_;refine aW 1 ?_;refine aW 2 ?_;refine aW 3 ?_;refine aW 5 ?_;refine aW 6 ?_;refine aW 7 ?_;refine aW 8 ?_;refine aW 9 ?_;refine iQ 10 rfl (bt k dQ iX (q0 rfl) (q0 rfl) (fun _=>⟨rfl,by simp only;omega⟩)) ?_;refine aW 11 ?_;refine kY (i:=4) (j:=12) (by decide+kernel) (bK 5) ?_ ?_
   ·refine aL rfl (gY (ea (v:= .slice qA ob.length qc) wq (q0 rfl) cb) rfl rfl ?_);refine r1 12 5 ?_;refine aL rfl (di (en Tryz.call70 (il (q0 rfl))) (fun w hw=>Ei (some ⟨yb.1,0,none⟩) ss.length yb.2 yl w (q6.mem hw) (by omega) (by omega)) rfl (fun _=>rfl) fun y=>?_);refine r1 13 6 ?_;refine aL rfl (dE [(.slice none 0 0)] dQ iX oM rfl (by kernel_rfl) (pt (v:= .slice _ _ _) rfl E.p0) rfl rfl fun b70=>?_);refine aI 1 ?_;refine r1 14 7 ?_;refine aL rfl (ba (k:=1) (i:=Tryz.t103) (enc:=Po ss.length) 6 dQ (by kernel_rfl) rfl rfl rfl rfl (fun _=>rfl) (fun _=>rfl) rfl rfl rfl (fun w hw=>bg (xs:=[y]) hw (j:=1) rfl (fun _=>rfl) (by simp)) ⟨by simp;omega,by decide⟩ rfl fun A3 c3=>?_);refine aW 15 ?_;refine aW 16 ?_;refine r1 17 7 ?_;refine aL rfl (kU (v:= .slice _ _ _) rfl rfl ud ?_);refine jz 7 ?_;exact aO ((y,A3,c3):(Nat×Nat)×Option Addr×Nat) eE trivial (fun w hw=>(Mem.ph (f:=rG) (y:=(y,yl)) (hw.pick [0,5,2,3,4,6,7,8,9] (by decide))).pick [1,2,3,0,4,5,6,7] (by decide)) rfl trivial
   refine aL rfl (di (en Tryz.call70 (il (q0 rfl))) (fun w hw=>Ei (some ⟨yb.1,0,none⟩) ss.length yb.2 yl w (q6.mem hw) (by omega) (by omega)) rfl (fun _=>rfl) fun y=>?_);refine kY (i:=4) (j:=13) (by decide+kernel) (bK 6) ?_ ?_
   ·refine aL rfl (gY (ea (v:= .slice qA ob.length qc) wq (q0 rfl) cb) rfl rfl ?_);refine r1 13 6 ?_;refine aL rfl (dE [(.slice none 0 0)] dQ iX oM rfl (by kernel_rfl) (pt (v:= .slice _ _ _) rfl E.p0) rfl rfl fun b70=>?_);refine aI 1 ?_;refine r1 14 7 ?_;refine aL rfl (ba (k:=1) (i:=Tryz.t103) (enc:=Po ss.length) 6 dQ (by kernel_rfl) rfl rfl rfl rfl (fun _=>rfl) (fun _=>rfl) rfl rfl rfl (fun w hw=>bg (xs:=[y]) hw (j:=1) rfl (fun _=>rfl) (by simp)) ⟨by simp;omega,by decide⟩ rfl fun A3 c3=>?_);refine aW 15 ?_;refine aW 16 ?_;refine r1 17 7 ?_;refine aL rfl (kU (v:= .slice _ _ _) rfl rfl ud ?_);refine jz 7 ?_;exact aO ((y,A3,c3):(Nat×Nat)×Option Addr×Nat) eE trivial (fun w hw=>(Mem.ph (f:=rG) (y:=(y,yl)) (hw.pick [0,5,2,3,4,6,7,8,9] (by decide))).pick [1,2,3,0,4,5,6,7] (by decide)) rfl trivial
   refine aL rfl (dE [(.slice none 0 0)] dQ iX oM rfl (by kernel_rfl) (pt (v:= .slice _ _ _) rfl E.p0) rfl rfl fun b70=>?_);refine aI 1 ?_;refine r1 4 7 ?_;refine aL rfl (gY (ea (v:= .slice qA ob.length qc) wq (q0 rfl) cb) rfl rfl ?_);refine r1 14 7 ?_;refine aL rfl (ba (k:=1) (i:=Tryz.t103) (enc:=Po ss.length) 6 dQ (by kernel_rfl) rfl rfl rfl rfl (fun _=>rfl) (fun _=>rfl) rfl rfl rfl (fun w hw=>bg (xs:=[y]) hw (j:=1) rfl (fun _=>rfl) (by simp)) ⟨by simp;omega,by decide⟩ rfl fun A3 c3=>?_);refine aW 15 ?_;refine aW 16 ?_;refine r1 17 7 ?_;refine aL rfl (kU (v:= .slice _ _ _) rfl rfl ud ?_);refine jz 7 ?_;exact aO ((y,A3,c3):(Nat×Nat)×Option Addr×Nat) eE trivial (fun w hw=>(Mem.ph (f:=rG) (y:=(y,yl)) (hw.pick [0,5,2,3,4,6,7,8,9] (by decide))).pick [1,2,3,0,4,5,6,7] (by decide)) rfl trivial
  rintro ⟨y6,A3,c3⟩ g4 _;iterate 6 refine G ?_
  have e1:(sv'++[((⟨sb,y1,y2,z1,z2,z3,z4⟩:SA),x)]).map (·.1.s)=os++[sb]:=by rw [bX,hss'];rfl
  have e2:(ap'++[(y6,yl)]).map (·.1)=ob++[y6]:=by rw [bX,hbs'];rfl
  exact ay (k+1,sv'++[((⟨sb,y1,y2,z1,z2,z3,z4⟩:SA),x)],ap'++[(y6,yl)],(A2,c2),A3,c3) eE ⟨rfl,trivial⟩ (fun w hw=>by simp only [e1,e2];exact hw) rfl ⟨hlt',by show List.map _ (_++_)=_;rw [bX,hsv,wF hx];rfl,by show List.map _ (_++_)=_;rw [bX,hap',wF hy];rfl⟩ (by show ss.length -(k+1)<ss.length -k;omega)
 have hend:k=ss.length:=by simp at hlt;omega
 subst hend;rw [bN (by rw [aD];omega)] at hsv hap';have hos:os.length=ss.length:=hsl';have hob2:ob.length=ss.length:=hbl';iterate 12 refine G ?_
 exact bH (v:= .pointer _) rfl rfl rfl fun w' hw=>⟨⟨(⟨nb,d0,t0,p0',oA,oc,os,qA,qc,ob,uA,uc⟩,sv',ap',[dD V1,dD V0]),hss'.symm,hbs'.symm,hsv,hap',rfl,fun w hA=>⟨by
   obtain ⟨a1,a2⟩:=hv0.ok w (hA.1 (dD V0) (by simp));exact ⟨a1,a2⟩,hv1.ok w (hA.1 (dD V1) (by simp))⟩⟩,rfl,by
   have h:=(Mem.dD (T:=[dD V1,dD V0]) (hw.pick [5,6,0,1,2,3,4,7] (by decide)));have h2:=h.pick [2,3,5,6,1,4,0] (by decide);rw [←hos] at h2;exact h2⟩
theorem yv {f:Fl} {p:Pr} {M:NM} {bank:List Py} {sv:List (SA×SS)} {ap:List ((Nat×Nat)×List Bool)} {L:List E.Item} {it:E.Item} (h:it∈q8 f p M bank sv ap []):it∈q8 f p M bank sv ap L:=by
 simp only [q8,kZ,gx,ka,bU,SL,or_false] at h⊢;rcases h with h|h|h|h|h|h
 ·exact .inl h
 ·exact .inr (.inl h)
 ·exact .inr (.inr (.inl h))
 ·exact .inr (.inr (.inr (.inl h)))
 ·exact .inr (.inr (.inr (.inr (.inl h))))
 exact .inr (.inr (.inr (.inr (.inr (.inl h)))))
theorem zz {f:Fl} {p:Pr} {M:NM} {bank:List Py} {sv:List (SA×SS)} {ap:List ((Nat×Nat)×List Bool)} (i:Nat) {x:SA×SS} (w:World) (ho: ∀it∈q8 f p M bank sv ap [],Old w it)
  (pw:M.ss=sv.map (·.1.s)) (h8:sv.length≤8) (hx:sv[i]?=some x) (hp: ∀e∈x.2.eO,0≤e.device∧1≤e.seq) (hn:x.2.eO.length≤10000):
  Calls Tryz.prog 15 #[.pointer (some ⟨M.nb,0,none⟩), .int .i64 i] w fun q w'=> ∃y:Option Addr×Nat,q= .returned (.slice y.1 (fH x.2.eO).length y.2)∧Mem w [ig y.1 y.2 (fH x.2.eO)] w':=by
 have hob:=ho _ (bF ..);have hos:=ho _ (aB _ (bF ..));have hov:=ho _ (aB _ (aB _ (aB _ (aB _ (bF ..)))));obtain ⟨nb0,md,mt,mp,sA,sc,ss,bA,bc,bs,kA,kc⟩:=M;simp only at pw hob hos;have hsl:ss.length=sv.length:=by rw [pw,aD]
 have hil:=(aa.1 hx).1;have hxs:gJ w 1 Jk sA ss.length ss:=hos.row (fun _=>rfl) (by omega);have hb:=pz hob.1;have hrow:=p9 hob.1;obtain ⟨a,x⟩:=x;obtain ⟨b0,off0,s0,hA0,hbl1,hsk,hrs⟩:=hxs.at_ (show i<ss.length by omega);subst hA0;obtain rfl:a.s=s0:=by rw [pw,bf,hx] at hsk;simpa using hsk
 have hin: ∀it∈p5 f.aH (a,x),Old w it:=fun it hi=>hov.dD (dO.2 ⟨_,an hx,hi⟩);have o1:Old w (C' a x.lose):=hin _ (bF ..);have o2:Old w (box a.r 127 [.int .i64 f.aH, .map (some a.m)]):=hin _ (aB _ (bF ..));have o3:Old w (oT a.m (AJ x.eO)):=hin _ (aB _ (aB _ (bF ..)));have hbs0:=pz o1.1;have hrs0:=p9 o1.1;refine aS Tryz.func15 rfl Tryz.ntmps15 rfl ?_;iterate 10 refine G ?_
 refine gV (en Mb (gr (q0 rfl) (q0 rfl))) (fun _ w hw=>E0 (f:=f) (pr:=p) (M:=⟨nb0,md,mt,mp,some ⟨b0,off0,none⟩,sc,ss,bA,bc,bs,kA,kc⟩) (m:=bank.length) i w (hob.now hw)) ?_;iterate 3 refine G ?_
 refine au rfl ?_ ?_<;>intro h1
 ·exfalso;simp [hasB] at h1;omega
 iterate 9 refine G ?_
 refine bO (bt i cv fZ (q0 rfl) (q0 rfl) (fun _=>⟨rfl,by simp only;omega⟩)) ?_;iterate 4 refine G ?_
 refine qW (en Ew (il (q0 rfl))) (fun w hw=>u7 (r:=a.r) (m:=a.m) (dv:=f.aH) (l:=x.eO) w (o2.now hw) (o3.now hw) hp hn) rfl (fun _=>rfl) fun y=>?_;iterate 4 refine G ?_
 exact bH (v:= .slice _ _ _) rfl rfl rfl fun w' hw=>⟨y,rfl,hw.pick [0] (by decide)⟩
theorem Jd (A B:Option Addr) (n c d:Nat) (xs:List Ev) (w:World) (hx:gJ w 9 Ev.cells A n xs) (hy:gJ w 9 Ev.cells B n xs):
  Calls Tryz.prog 29 #[.slice A n c, .slice B n d] w fun e w'=>e= .returned (.bool true)∧gz w w':=by
 have hl:=hx.1;have hn:=hx.2.1;refine aS Tryz.func29 rfl Tryz.ntmps29 rfl ?_;iterate 15 refine G ?_
 refine au rfl ?_ ?_<;>intro h1
 ·exfalso;simp at h1
 iterate 9 refine G ?_
 refine ct [4,5,11,12,13,14,15,16,17,18,19,20,21,22,23,24,25] (fun k:Nat=>[(5, .int .i64 k)]) (fun _=>[]) (fun k=>k≤n) (fun k=>n -k) 0 ⟨rfl,trivial⟩ (fun _ h=>h) rfl (aU _) ?_;intro k g hk;have hk:k≤n:=hk;iterate 9 refine G ?_
 refine au rfl ?_ ?_<;>intro hlt
 ·simp at hlt;obtain ⟨b,off,x,rfl,hbl,hxk,hrx⟩:=hx.at_ hlt;obtain ⟨b2,off2,y,rfl,hbl2,hyk,hry⟩:=hy.at_ hlt;obtain rfl:x=y:=by rw [hxk] at hyk;cases hyk;rfl
  iterate 5 refine G ?_
  refine tB ?_;iterate 2 refine G ?_
  refine bO (bt _ cE bT (q0 rfl) (q0 rfl) (fun _=>⟨rfl,by omega⟩)) ?_;iterate 3 refine G ?_
  refine bO (bt _ cE bT (q0 rfl) (q0 rfl) (fun _=>⟨rfl,by omega⟩)) ?_;refine G ?_;refine bO (CM (Vy x x) (by kernel_rfl) (q0 rfl) (q0 rfl)) ?_;iterate 2 refine G ?_
  refine au rfl ?_ ?_<;>intro hb
  ·simp at hb
  iterate 8 refine G ?_
  exact ay (k+1) eE ⟨rfl,trivial⟩ (fun w hw=>iT.2 hw.1) rfl (by show k+1≤n;omega) (by show n -(k+1)<n -k;omega)
 iterate 11 refine G ?_
 exact bH (v:= .bool _) rfl rfl rfl fun w' hw=>⟨rfl,hw.1⟩
open Go.Proofs.Cus Go.Proofs.Rid Go.Proofs.Far
abbrev uL (d:List En):List Int:=d.map (·.jF.aP)
def ND (s:NS):Prop:= ∀x∈s.gh,(uL x.gm).Nodup
theorem OY {d:List En} (p:Py) (h:(uL d).Nodup):(uL (AO d p).1).Nodup:=by
 rw [vV];split
 ·exact h
 split
 ·split<;>exact h
 rename_i hn;split
 ·exact h
 rw [qU] at hn;show (List.map _ (d++[_])).Nodup;rw [bX];refine jR.2 ⟨h,List.pairwise_singleton ..,fun a ha b hb=>?_⟩;obtain ⟨x,hx,rfl⟩:=bJ.1 ha;have h1:=hn x hx;simp only [AY,dm] at h1;simp only [cI,zY,bu] at hb;rw [hb];exact h1
theorem J9 (n:Nat) (i:Int): ∀(l:List iY) {d:List En},(uL d).Nodup→(uL (iR n i d l)).Nodup
 |[],_,h=>h
 |c::l,d,h=>by
  rw [iR];refine J9 n i l ?_;split
  ·exact OY _ h
  exact h
theorem O2 (l:List En) (r e:Int):(r4 l r e).1.map (·.jF)=l.map (·.jF):=by
 rw [vo];split
 ·rfl
 rename_i i hi;split
 ·rfl
 have h1:=(zT hi).1;rw [k8];refine cU fun q=>?_;by_cases hq:i=q
 ·subst hq;rw [de (by rw [aD];exact (aa.1 h1).1),bf,h1];rfl
 rw [cj hq]
theorem PK (q:QS) (p:Py):(AD q p).2.1.map (·.jF)=q.2.1.map (·.jF):=by rw [uH];exact O2 ..
theorem zh: ∀(k:Nat) (q:QS),(jB k q).2.1.map (·.jF)=q.2.1.map (·.jF)
 |0,_=>rfl
 |k+1,q=>by
  rw [jB];split
  ·rfl
  rw [zh k,PK]
theorem Jj {a b:List En} (h:a.map (·.jF)=b.map (·.jF)):uL a=uL b:=by
 have:=aT (List.map Py.aP) h;rw [fO,fO] at this;exact this
theorem VO {f:Fl} {p:Pr} {n:Nat} {i:Int} {bank:List Py} {x:SS} (h:(uL x.gm).Nodup):(uL (tN f p n i bank x).2.1.gm).Nodup:=by
 unfold tN;split
 ·exact h
 unfold Ra;show (uL (jB _ _).2.1).Nodup;rw [Jj (zh _ _)];exact J9 n i _ h
theorem ND.set {s:NS} (h:ND s) {i:Nat} {y:SS} {a:List (List Bool)} {b:List Py} (hy:(uL y.gm).Nodup):ND ⟨s.gh.set i y,a,b⟩:=fun x hx=>by
 rcases q9 hx with hx|rfl
 ·exact h x hx
 exact hy
theorem ND.at_ {s:NS} (h:ND s) (i:Nat):(uL (s.gh.getD i default).gm).Nodup:=by
 rw [aq];cases hk:s.gh[i]? with
 |none=>exact jY
 |some x=>exact h x (an hk)
theorem VD {f:Fl} {p:Pr} {s:NS} (x:k7) (h:ND s):ND (mP f p s x).1:=by
 unfold mP;split
 ·exact h
 split
 ·exact h
 unfold Da;split
 ·unfold N8;split
  ·exact h
  exact h.set (h.at_ _)
 split
 ·exact h.set (VO (h.at_ _))
 split
 ·split
  ·exact h
  exact h.set (h.at_ _)
 split
 ·exact h
 unfold wb;split
 ·exact h
 split
 ·exact h
 split
 ·exact h
 exact h.set (h.at_ _)
theorem MQ {f:Fl} {p:Pr}: ∀(l:List k7) {s:NS},ND s→ND (runN f p s l)
 |[],_,h=>h
 |x::l,_,h=>MQ l (VD x h)
open Go Go.RowKit Go.Proofs.E Go.Proofs.Cus Go.Proofs.Rid Go.Proofs.Far Go.Proofs.Hom
theorem Fo (f:Fl) (fa:FA) (p:Pr) (a:xz) (k:Int) (A:Option Addr) (n c:Nat) (q:Int) (w:World) (hb:CC n fa a=false):Calls Tryz.prog 7 #[.agg (kF f fa p a k).toArray, .slice A n c, .int .u8 q] w fun e w'=>e= .returned (.bool true)∧gz w w':=by
 refine aS Tryz.func7 rfl V9 rfl ?_;iterate 2 refine G ?_
 refine cd (v:= .agg _) rfl rfl fun b3=>?_;iterate 8 refine G ?_
 refine gV (en C9 (gr (q0 rfl) (q0 rfl))) (fun _ w _=>Eb f fa p a k A n c w) ?_;iterate 3 refine G ?_
 refine au rfl ?_ ?_<;>intro hq
 ·iterate 2 refine G ?_
  refine gV (en uC (Iw)) (fun _ w _=>tQ w) ?_;iterate 5 refine G ?_
  exact bH (v:= .bool _) rfl rfl rfl fun w' hw=>⟨rfl,hw.1⟩
 exfalso;rw [hb] at hq;cases hq
theorem Hb (f:Fl) (fa:FA) (p:Pr) (a:xz) (k:Int) (A:Option Addr) (n c:Nat) (q:Int) (w:World) (hf:kp w f fa) (hp:lK w p a) (hb:CC n fa a=true) (hz:pq f p k≠0):Calls Tryz.prog 7 #[.agg (kF f fa p a k).toArray, .slice A n c, .int .u8 q] w fun e w'=>e= .returned (.bool true)∧gz w w':=by
 refine aS Tryz.func7 rfl V9 rfl ?_;iterate 2 refine G ?_
 refine cd (v:= .agg _) rfl rfl fun b3=>?_;iterate 8 refine G ?_
 refine gV (en C9 (gr (q0 rfl) (q0 rfl))) (fun _ w _=>Eb f fa p a k A n c w) ?_;iterate 3 refine G ?_
 refine au rfl ?_ ?_<;>intro hq
 ·exfalso;rw [hb] at hq;cases hq
 iterate 5 refine G ?_
 refine bO (eP iv fG (q0 rfl)) ?_;refine G ?_;refine bO (eP kz iM (q0 rfl)) ?_;iterate 2 refine G ?_
 refine gV (en Ey (nj (q0 rfl) (q0 rfl) (q0 rfl))) (fun _ w hw=>GA f fa p a k w (hf.mem hw) (hp.mem hw) hz) ?_;iterate 11 refine G ?_
 refine bO (gj e9 (q0 rfl)) ?_;iterate 6 refine G ?_
 refine au rfl ?_ ?_<;>intro hh
 ·iterate 3 refine G ?_
  refine bO (gj e9 (q0 rfl)) ?_;iterate 5 refine G ?_
  refine EB (en uC (Iw)) (fun _ w _=>tQ w) rfl rfl rfl rfl ?_;iterate 6 refine G ?_
  exact bH (v:= .bool _) rfl rfl rfl fun w' hw=>⟨by simp [hz],hw.1⟩
 simp at hh
theorem TA {w w':World} {p:Pr} {a a':xz} (h:lK w p a) (hN:Own.Sx a) (h':lK w' p a'):Own.Sx a':=
 ⟨by have h1:=h.tf.1;have h2:=h'.tf.1;have:=hN.t;omega,by have h1:=h.ps.1;have h2:=h'.ps.1;have:=hN.p;omega,by have h1:=h.pl.1;have h2:=h'.pl.1;have:=hN.pl;omega,by have h1:=h.dk.1;have h2:=h'.dk.1;have:=hN.d;omega,by have h1:=h.fi.1;have h2:=h'.fi.1;have:=hN.f;omega⟩
theorem TR {w w':World} {f:Fl} {a a':FA} (h:kp w f a) (hd:a.dn≤100000) (ht:a.tn≤100000) (h':kp w' f a'):a'.dn≤100000∧a'.tn≤100000:=
 ⟨by have h1:=h.gk.1;have h2:=h'.gk.1;omega,by have h1:=h.eJ.1;have h2:=h'.eJ.1;omega⟩
theorem TJ {n:Nat}:ND ⟨List.replicate n ⟨[],[],0⟩,List.replicate n (List.replicate n false),[]⟩:=fun x hx=>by
 rw [rN hx];exact jY
theorem B' {sv:List (SA×SS)} {ap:List ((Nat×Nat)×List Bool)} {s:NS} {y:NB} (h:NQ sv ap s y):y.2.1.length=sv.length∧s.gh.length=sv.length:=by
 have h1:=aT List.length h.pw;have h2:=aT List.length h.hs;simp only [aD] at h1 h2;omega
theorem Gy {sv:List (SA×SS)} {ap:List ((Nat×Nat)×List Bool)} {s:NS} {y:NB} (h:NQ sv ap s y):y.2.2.length=s.apart.length:=by
 have h2:=aT List.length h.ha;simp only [aD] at h2;omega
theorem Ni {f:Fl} {p:Pr} {M:NM} {sv:List (SA×SS)} {ap:List ((Nat×Nat)×List Bool)} {U:List Ev} {s:NS} {y:NB} {T:Int} (hc:NC f p M sv ap U) (hy:NQ sv ap s y) (hv:NV f U T s) (hnd:ND s) {w0 w:World} {L:List E.Item} (hw:Mem w0 (nf f p M s y L) w) (hFP:kp w f (FB M)∧lK w p M.p) (hd:(FB M).dn≤100000∧(FB M).tn≤100000) (hN:Own.Sx M.p):
  Calls Tryz.prog 31 #[.pointer (some ⟨M.nb,0,none⟩)] w fun e w'=> ∃x:{x:NX//Xf f p y.2.1 y.2.2 x},e= .returned (.pointer (some ⟨x.1.1.nb,0,none⟩))∧Mem w (q8 f p x.1.1 s.bank x.1.2.1 x.1.2.2.1 [dD x.1.2.2.2]) w':=by
 have hl:=B' hy;have ha:=Gy hy;have h8:=hc.n8;have h1:=hc.n1;refine Qn (f:=f) (p:=p) (M:={M with kA:=y.1.1,kc:=y.1.2}) (bank:=s.bank) (sv:=y.2.1) (ap:=y.2.2) w (fun it hi=>zw hw (yv hi)) hFP.1 hFP.2 (hc.ss.trans hy.pw.symm) (hc.bs.trans hy.hb.symm) (by rw [ha,hv.ap];omega) (by omega) (by omega) (fun z hz=>?_) hd.1 hd.2 hN (fun z hz=>?_) hv.bk
 ·rw [ha];exact hv.rw _ (by rw [←hy.ha];exact cM hz)
 have hm:z.2∈s.gh:=by rw [←hy.hs];exact cM hz
 exact ⟨(hv.sv _ hm).d,hnd _ hm⟩
theorem zn {f:Fl} {p:Pr} (M:NM) {k:Nat} (hk:M.ss.length=k) {sv:List (SA×SS)} {ap:List ((Nat×Nat)×List Bool)} {U:List Ev} (hc:NC f p M sv ap U) {s:NS} {y:NB} (T:Int) {w0 w:World} {L:List E.Item} (hL:marks L=[]) (hw:Mem w0 (nf f p M s y L) w)
  (hFP: ∀w,Mem w0 L w→kp w f (FB M)∧lK w p M.p) (hy:NQ sv ap s y) (hv:NV f U T s) (hT:0≤T∧T≤100000):
  Calls Tryz.prog 20 #[.pointer (some ⟨M.nb,0,none⟩)] w fun q w'=> ∃z:{z:NB//NQ sv ap (runN f p s (vY k)) z},q= .returned (.int .i64 (vY k).length)∧
   Mem w0 (nf f p M (runN f p s (vY k)) z.1 L) w':=by
 subst hk;exact MK M hc T hL hw hFP hy hv hT
attribute [local irreducible] mP runN vY
theorem IH (f:Fl) (fa:FA) (p:Pr) (a:xz) (k:Nat) (A:Option Addr) (n c:Nat) (q:Int) (xs:List k7) (w:World) (hf:kp w f fa) (hp:lK w p a) (hx:gJ w 12 k7.cells A n xs) (hpl: ∀x∈xs,-9223372036854775808≤x.ev.place∧x.ev.place≤9223372036854775807) (hb:CC n fa a=true) (h0:jk f p=0) (hk1:1≤k) (hk8:k≤8) (hq0:0≤q∧q≤255):Calls Tryz.prog 7 #[.agg (kF f fa p a k).toArray, .slice A n c, .int .u8 q] w fun e w'=>e= .returned (.bool true)∧gz w w':=by
 obtain ⟨hn,hd,ht,hN⟩:=JT hb;have hxl:=hx.1;have hdv:1≤f.aH∧f.aH≤256:=by have:=rl (pP h0);omega
 obtain ⟨K,hK⟩: ∃K:Nat,q%((n:Int)+1)=K:=sQ (Int.emod_nonneg _ (by omega));have hKn:K≤n:=by have:=Int.emod_lt_of_pos q (show (0:Int)<(n:Int)+1 by omega);omega
 refine aS Tryz.func7 rfl V9 rfl ?_;iterate 2 refine G ?_
 refine cd (v:= .agg _) rfl rfl fun b3=>?_;iterate 8 refine G ?_
 refine gV (en C9 (gr (q0 rfl) (q0 rfl))) (fun _ w _=>Eb f fa p a k A n c w) ?_;iterate 3 refine G ?_
 refine au rfl ?_ ?_<;>intro hq
 ·exfalso;rw [hb] at hq;cases hq
 iterate 5 refine G ?_
 refine bO (eP iv fG (q0 rfl)) ?_;refine G ?_;refine bO (eP kz iM (q0 rfl)) ?_;iterate 2 refine G ?_
 refine qW (en Ey (nj (q0 rfl) (q0 rfl) (q0 rfl))) (fun w hw=>E1 f fa p a k w (hf.mem hw) (hp.mem hw) hd ht hN h0 hk1 hk8) rfl (fun _=>rfl) fun x=>?_;obtain ⟨⟨M,sv,ap,R⟩,hX⟩:=x;have hsl:sv.length=k:=by have:=aT List.length hX.sv;simpa using this
 have hc:NC f p M sv ap (xs.map (·.ev)):=⟨pP h0,hdv,hX.ss,hX.bs,by omega,by omega,by rw [aD];omega⟩;have hFP: ∀(X:List E.Item) (w0:World),∀w,Mem w0 (dD R::X) w→kp w f (FB M)∧lK w p M.p:=fun X w0 w hw=>hX.k.ok w (hw.item (k:=0) rfl);iterate 11 refine G ?_
 refine bO (gj e9 (q0 rfl)) ?_;iterate 6 refine G ?_
 refine au rfl ?_ ?_<;>intro hh
 ·simp at hh
 iterate 5 refine G ?_
 refine bO (VB jX aG (q0 rfl) (fun _=>by omega)) ?_;iterate 3 refine G ?_
 refine bO (v:= .int .i64 K) (by rw [←hK];exact Sf (q0 rfl) (q0 rfl) (fun _=>by omega)) ?_;iterate 10 refine G ?_
 have hv0:NV f (xs.map (·.ev)) 0 ⟨List.replicate k ⟨[],[],0⟩,List.replicate k (List.replicate k false),[]⟩:=Ii;have hn0:ND ⟨List.replicate k ⟨[],[],0⟩,List.replicate k (List.replicate k false),[]⟩:=TJ;generalize hs0:(⟨List.replicate k ⟨[],[],0⟩,List.replicate k (List.replicate k false),[]⟩:NS)=s0 at hv0 hn0;have hy0:NQ sv ap s0 ((M.kA,M.kc),sv,ap):=by rw [←hs0];exact ⟨hX.sv,rfl,hX.ap,rfl⟩
 have hev: ∀i,∀x∈xs.take i,x.kind=1→x.ev∈xs.map (·.ev):=fun i x hx _=>cM (HK hx);have hr0:runN f p s0 (xs.take 0)=s0:=U6 ..;have hstep: ∀{i:Nat} {s:k7},xs[i]?=some s→runN f p s0 (xs.take (i+1))=(mP f p (runN f p s0 (xs.take i)) s).1:=fun h=>by rw [wB xs _ _ h,s4]
 have hrun: ∀i,i≤n→NV f (xs.map (·.ev)) (256*i) (runN f p s0 (xs.take i)):=fun i hi=>by
  have h:=(BH (p:=p) (xs.take i) (by decide) hv0 (hev i)).1;have hti:(xs.take i).length=i:=by rw [cH];omega
  rw [hti] at h;exact h.mono (by omega)
 refine ct [10,52,53,54,55,56,57,58,59,60,61,62] (fun s:Nat×NB=>[(10, .int .i64 s.1)]) (fun s=>nf f p M (runN f p s0 (xs.take s.1)) s.2 [dD R,box b3 30 (kF f fa p a k)]) (fun s=>s.1≤K∧NQ sv ap (runN f p s0 (xs.take s.1)) s.2) (fun s=>K -s.1) (0,((M.kA,M.kc),sv,ap)) ⟨rfl,trivial⟩ (fun w hw=>by
  simp only [hr0];subst hs0;exact hw.pick [0,1,2,3,4,5,6,7] (by decide)) rfl ⟨aU _,by rw [hr0];exact hy0⟩ ?_
 rintro ⟨i,y⟩ g ⟨hi,hy⟩;have hi:i≤K:=hi;have hy:NQ sv ap (runN f p s0 (xs.take i)) y:=hy;have hvi:=hrun i (by omega);iterate 8 refine G ?_
 refine au rfl ?_ ?_<;>intro hlt
 ·have hlt':i<K:=by simpa using hlt
  obtain ⟨bb,off,s,hA,hbl,hix,hrx⟩:=hx.at_ (show i<n by omega);subst hA;iterate 8 refine G ?_
  refine bO (bt _ eZ jb (q0 rfl) (q0 rfl) (fun _=>⟨rfl,by omega⟩)) ?_;refine G ?_;refine bZ (bR (en lP (gr (q0 rfl) (q0 rfl))) (fun w hw=>Ed M hc s (256*i) rfl hw (hFP _ _) hy hvi (by omega) (hpl s (an hix))) rfl (fun _=>rfl) fun z=>?_);iterate 8 refine G ?_
  exact ay (i+1,z.1) eE ⟨rfl,trivial⟩ (fun w hw=>by
   simp only [hstep hix];exact hw) rfl ⟨hlt',by rw [hstep hix];exact z.2⟩ (by show K -(i+1)<K -i;omega)
 obtain rfl:i=K:=by simp at hlt;omega
 have hnk:ND (runN f p s0 (xs.take i)):=MQ _ hn0;have hvk:=hrun i (by omega);have hyl:=B' hy;have hal:=Gy hy;iterate 8 refine G ?_
 refine qW (en Tryz.call31 (il (q0 rfl))) (fun w hw=>Ni hc hy hvk hnk hw (hX.k.ok w (hw.item (k:=6) rfl)) (TR hf hd ht (hX.k.ok w (hw.item (k:=6) rfl)).1) (TA hp hN (hX.k.ok w (hw.item (k:=6) rfl)).2)) rfl (fun _=>rfl) fun C=>?_;obtain ⟨⟨M2,sv2,ap2,R2⟩,hC⟩:=C;have hs2':sv2.length=k:=by have:=aT List.length hC.sv;simp only [aD] at this;omega
 have hc2:NC f p M2 sv2 ap2 (xs.map (·.ev)):=⟨pP h0,hdv,hC.ss,hC.bs,by omega,by omega,by rw [aD];omega⟩;have hy2:NQ sv2 ap2 (runN f p s0 (xs.take i)) ((M2.kA,M2.kc),sv2,ap2):=⟨hC.sv.trans hy.hs,rfl,hC.ap.trans hy.ha,rfl⟩;iterate 6 refine G ?_
 refine qW (en pZ (il (q0 rfl))) (fun w hw=>tP (f:=f) (p:=p) (M:={M with kA:=y.1.1,kc:=y.1.2}) (b:=(runN f p s0 (xs.take i)).bank) w (hw.item (k:=7) rfl) (cW hw (j:=10) rfl (fun _=>rfl) (by have:=hvk.bk;omega)) hvk.bk) rfl (fun _=>rfl) fun b0=>?_;obtain ⟨bA,bc⟩:=b0;refine bO (Fj eI rfl nU (q0 rfl) rfl) ?_;iterate 7 refine G ?_
 refine bO (gj e9 (q0 rfl)) ?_;iterate 2 refine G ?_
 refine au rfl ?_ ?_<;>intro hz
 ·cases hz
 iterate 10 refine G ?_
 have hbk:=hvk.bk;refine ct [13,71,72,73,74,75,76,77,78,79,80,81,82] (fun s:Nat×NB=>[(13, .int .i64 s.1)]) (fun s=>nf f p M2 (runN f p s0 (xs.take s.1)) s.2 (nf f p M (runN f p s0 (xs.take i)) y [dD R,dD R2,mM bA bc (runN f p s0 (xs.take i)).bank,box b3 30 (kF f fa p a k)])) (fun s=>(i≤s.1∧s.1≤n)∧NQ sv2 ap2 (runN f p s0 (xs.take s.1)) s.2) (fun s=>n -s.1) (i,((M2.kA,M2.kc),sv2,ap2)) ⟨rfl,trivial⟩ (fun w hw=>hw.pick [1,2,3,4,5,6,8,9,10,11,12,13,14,7,0,15] (by decide)) rfl ⟨⟨bq _,hKn⟩,hy2⟩ ?_;rintro ⟨j,y2⟩ g2 ⟨⟨hj1,hj⟩,hy2⟩;have hj:j≤n:=hj;have hj1:i≤j:=hj1;have hy2:NQ sv2 ap2 (runN f p s0 (xs.take j)) y2:=hy2;have hvj:=hrun j hj;iterate 9 refine G ?_
 refine au rfl ?_ ?_<;>intro hlt2
 ·have hlt':j<n:=by simp at hlt2;omega
  obtain ⟨bb,off,s,hA,hbl,hix,hrx⟩:=hx.at_ hlt';subst hA;iterate 8 refine G ?_
  refine bO (bt _ eZ jb (q0 rfl) (q0 rfl) (fun _=>⟨rfl,by omega⟩)) ?_;refine G ?_;refine bZ (bR (en lP (gr (q0 rfl) (q0 rfl))) (fun w hw=>Ed M2 hc2 s (256*j) rfl hw (fun w hw=>hC.k.ok w (hw.item (k:=7) rfl)) hy2 hvj (by omega) (hpl s (an hix))) rfl (fun _=>rfl) fun z=>?_);iterate 8 refine G ?_
  exact ay (j+1,z.1) eE ⟨rfl,trivial⟩ (fun w hw=>by
   simp only [hstep hix];exact hw) rfl ⟨⟨by show i≤j+1;omega,hlt'⟩,by rw [hstep hix];exact z.2⟩ (by show n -(j+1)<n -j;omega)
 obtain rfl:j=n:=by simp at hlt2;omega
 iterate 9 refine G ?_
 refine qW (en pZ (il (q0 rfl))) (fun w hw=>tP (f:=f) (p:=p) (M:={M with kA:=y.1.1,kc:=y.1.2}) (b:=(runN f p s0 (xs.take i)).bank) w (hw.item (k:=6) rfl) (cW hw (j:=9) rfl (fun _=>rfl) (by omega)) hbk) rfl (fun _=>rfl) fun b1=>?_;obtain ⟨dA,dc⟩:=b1;refine bO (Fj eI rfl nU (q0 rfl) rfl) ?_;refine G ?_;refine gV (en yX (gr (q0 rfl) (q0 rfl))) (fun _ w hw=>vF (xs:=(runN f p s0 (xs.take i)).bank) rfl (cW hw (j:=0) rfl (fun _=>rfl) (by omega)) (cW hw (j:=15) rfl (fun _=>rfl) (by omega))) ?_;iterate 3 refine G ?_
 refine au rfl ?_ ?_<;>intro hs
 ·cases hs
 iterate 10 refine G ?_
 refine ct [14,90,91,92,93,94,95,96,97,98,99,100,101] (fun s:Nat×NB=>[(14, .int .i64 s.1)]) (fun s=>nf f p M (runN f p s0 (xs.take s.1)) s.2 (nf f p M2 (runN f p s0 (xs.take j)) y2 [dD R,dD R2,mM bA bc (runN f p s0 (xs.take i)).bank,box b3 30 (kF f fa p a k)])) (fun s=>s.1≤j∧NQ sv ap (runN f p s0 (xs.take s.1)) s.2) (fun s=>j -s.1) (i,y) ⟨rfl,trivial⟩ (fun w hw=>hw.pick [7,8,9,10,11,12,1,2,3,4,5,6,13,14,15,16] (by decide)) rfl ⟨hKn,hy⟩ ?_;rintro ⟨u,y3⟩ g3 ⟨hu,hy3⟩;have hu:u≤j:=hu;have hy3:NQ sv ap (runN f p s0 (xs.take u)) y3:=hy3;have hvu:=hrun u hu;iterate 9 refine G ?_
 refine au rfl ?_ ?_<;>intro hlt3
 ·have hlt':u<j:=by simp at hlt3;omega
  obtain ⟨bb,off,s,hA,hbl,hix,hrx⟩:=hx.at_ hlt';subst hA;iterate 8 refine G ?_
  refine bO (bt _ eZ jb (q0 rfl) (q0 rfl) (fun _=>⟨rfl,by omega⟩)) ?_;refine G ?_;refine bZ (bR (en lP (gr (q0 rfl) (q0 rfl))) (fun w hw=>Ed M hc s (256*u) rfl hw (fun w hw=>hX.k.ok w (hw.item (k:=6) rfl)) hy3 hvu (by omega) (hpl s (an hix))) rfl (fun _=>rfl) fun z=>?_);iterate 8 refine G ?_
  exact ay (u+1,z.1) eE ⟨rfl,trivial⟩ (fun w hw=>by
   simp only [hstep hix];exact hw) rfl ⟨hlt',by rw [hstep hix];exact z.2⟩ (by show j -(u+1)<j -u;omega)
 obtain rfl:u=j:=by simp at hlt3;omega
 have hbj:=hvj.bk;have hl3:=B' hy3;have hl2:=B' hy2;generalize runN f p s0 (xs.take u)=SN at hvj hvu hbj hy2 hy3 hl3 hl2;iterate 9 refine G ?_
 refine qW (en pZ (il (q0 rfl))) (fun w hw=>tP (f:=f) (p:=p) (M:={M with kA:=y3.1.1,kc:=y3.1.2}) (b:=SN.bank) w (hw.item (k:=0) rfl) (cW hw (j:=3) rfl (fun _=>rfl) (by omega)) hbj) rfl (fun _=>rfl) fun b2=>?_;obtain ⟨eA,ec⟩:=b2;refine bO (Fj eI rfl nU (q0 rfl) rfl) ?_;refine G ?_;refine qW (en pZ (il (q0 rfl))) (fun w hw=>tP (f:=f) (p:=p) (M:={M2 with kA:=y2.1.1,kc:=y2.1.2}) (b:=SN.bank) w (hw.item (k:=7) rfl) (cW hw (j:=10) rfl (fun _=>rfl) (by omega)) hbj) rfl (fun _=>rfl) fun b4=>?_;obtain ⟨fA,fc⟩:=b4;refine bO (Fj eI rfl nU (q0 rfl) rfl) ?_;refine gV (en yX (gr (q0 rfl) (q0 rfl))) (fun _ w hw=>vF (xs:=SN.bank) rfl (cW hw (j:=1) rfl (fun _=>rfl) (by omega)) (cW hw (j:=0) rfl (fun _=>rfl) (by omega))) ?_;iterate 3 refine G ?_
 refine au rfl ?_ ?_<;>intro hs2
 ·cases hs2
 iterate 9 refine G ?_
 refine ct [6,15,110,111,112,113,114,115,116,117,118,119,120,121,122,123,124,125,126,127,128,129,130,131,132,133] (fun t:Nat=>[(15, .int .i64 t)]) (fun _=>nf f p M SN y3 (nf f p M2 SN y2 [dD R,dD R2,mM bA bc (runN f p s0 (xs.take i)).bank,box b3 30 (kF f fa p a k)])) (fun t=>t≤k) (fun t=>k -t) 0 ⟨rfl,trivial⟩ (fun w hw=>hw.pick [2,3,4,5,6,7,8,9,10,11,12,13,14,15,16,17] (by decide)) rfl (aU _) ?_;intro t g4 ht4;have ht4:t≤k:=ht4;iterate 5 refine G ?_
 refine bO (ea (v:= .int .i64 k) aJ (q0 rfl) (bx 15 rfl rfl)) ?_;iterate 3 refine G ?_
 refine au rfl ?_ ?_<;>intro hlt4
 ·have hlt':t<k:=by simpa using hlt4
  obtain ⟨x,hxt⟩: ∃x,SN.gh[t]?=some x:=⟨_,aj (by omega)⟩;obtain ⟨a3,h3⟩:=Gx (l:=[]) hy3 hxt;obtain ⟨a2,h2⟩:=Gx (l:=[]) hy2 hxt;have hsk:=(hvj.sv x (an hxt)).sk hc.ok hc.WH;have hel:(fH x.eO).length=x.eO.length:=kb _;have h40:=hsk.n;have h256:=hsk.d;have hol:(jl x.gm).length≤256:=by unfold jl jC;rw [aD];exact jd (da ..) h256
  iterate 8 refine G ?_
  refine qW (en Wh (gr (q0 rfl) (q0 rfl))) (fun w hw=>zz (f:=f) (p:=p) (M:={M with kA:=y3.1.1,kc:=y3.1.2}) (bank:=SN.bank) (sv:=y3.2.1) (ap:=y3.2.2) t w (fun it hi=>zw hw (yv hi)) (hX.ss.trans hy3.pw.symm) (by omega) h3 hsk.ev (by simp only;omega)) rfl (fun _=>rfl) fun e1=>?_;obtain ⟨e1A,e1c⟩:=e1;iterate 2 refine G ?_
  refine qW (en Wh (gr (q0 rfl) (q0 rfl))) (fun w hw=>zz (f:=f) (p:=p) (M:={M2 with kA:=y2.1.1,kc:=y2.1.2}) (bank:=SN.bank) (sv:=y2.2.1) (ap:=y2.2.2) t w (fun it hi=>zw (hw.dh 13 [7,8,9,10,11,12] (by decide) (by decide)) (yv hi)) (hC.ss.trans hy2.pw.symm) (by omega) h2 hsk.ev (by simp only;omega)) rfl (fun _=>rfl) fun e2=>?_;obtain ⟨e2A,e2c⟩:=e2;refine gV (en Tryz.call29 (gr (q0 rfl) (q0 rfl))) (fun _ w hw=>Jd e1A e2A _ e1c e2c (fH x.eO) w (cW hw (j:=1) rfl (fun _=>rfl) (by simp only;omega)) (cW hw (j:=0) rfl (fun _=>rfl) (by simp only;omega))) ?_;iterate 4 refine G ?_
  refine xx (tz rfl rfl) (by first|rfl|decide|simp) (bR (en Ex (gr (qk (v:= .pointer _) rfl (by first|rfl|decide|simp)) (qk (v:= .int _ _) rfl (by first|rfl|decide|simp)))) (fun w hw=>sU (M:={M with kA:=y3.1.1,kc:=y3.1.2}) t rfl hw.tail.tail (hX.ss.trans hy3.pw.symm) (by omega) h3 h256) rfl (fun _=>rfl) fun w1=>?_);obtain ⟨w1A,w1c⟩:=w1;iterate 2 refine G ?_
  refine xx (tz rfl rfl) (by first|rfl|decide|simp) (bR (en Ex (gr (qk (v:= .pointer _) rfl (by first|rfl|decide|simp)) (qk (v:= .int _ _) rfl (by first|rfl|decide|simp)))) (fun w hw=>sU (M:={M2 with kA:=y2.1.1,kc:=y2.1.2}) t rfl (hw.dh 13 [7,8,9,10,11,12,0,1,2,3,4,5,6] (by decide) (by decide)) (hC.ss.trans hy2.pw.symm) (by omega) h2 h256) rfl (fun _=>rfl) fun w2=>?_);obtain ⟨w2A,w2c⟩:=w2;refine I7 (en yX (gr (q0 (v:= .slice _ _ _) rfl) (q0 (v:= .slice _ _ _) rfl))) (fun _ w hw=>vF (xs:=jl x.gm) rfl (cW hw (j:=7) rfl (fun _=>rfl) (by simp only;omega)) (cW hw (j:=0) rfl (fun _=>rfl) (by simp only;omega))) rfl rfl rfl rfl ?_;iterate 4 refine G ?_
  refine au rfl ?_ ?_<;>intro hr4
  ·simp at hr4
  iterate 8 refine G ?_
  exact ay (t+1) eE ⟨rfl,trivial⟩ (fun w hw=>hw.pick [8,9,10,11,12,13,1,2,3,4,5,6,14,15,16,17] (by decide)) rfl hlt' (by show k -(t+1)<k -t;omega)
 have hM:M.ss.length=k:=by rw [hX.ss,aD];exact hsl
 have hM2:M2.ss.length=k:=by rw [hC.ss,aD];exact hs2'
 iterate 8 refine G ?_
 refine bZ (bR (en Wg (il (q0 rfl))) (fun w hw=>zn M hM hc (256*u) rfl hw (fun w hw=>hX.k.ok w (hw.item (k:=6) rfl)) hy3 hvu (by omega)) rfl (fun _=>rfl) fun u1=>?_);refine G ?_;refine bZ (bR (en Wg (il (q0 rfl))) (fun w hw=>zn M2 hM2 hc2 (256*u) rfl (hw.dh 12 [6,7,8,9,10,11,0,1,2,3,4,5] (by decide) (by decide)) (fun w hw=>hC.k.ok w (hw.item (k:=7) rfl)) hy2 hvu (by omega)) rfl (fun _=>rfl) fun u2=>?_);obtain ⟨u1,hu1⟩:=u1;obtain ⟨u2,hu2⟩:=u2;have hb5:=(BH (p:=p) (vY k) (by omega) hvu (fun x hx h=>absurd h (MM _ x hx))).1.bk;generalize runN f p SN (vY k)=SZ at hu1 hu2 hb5;iterate 3 refine G ?_
 refine xx (r5 rfl rfl) (by first|rfl|decide|simp) (di (en pZ (il (qk (v:= .pointer _) rfl (by first|rfl|decide|simp)))) (fun w hw=>tP (f:=f) (p:=p) (M:={M with kA:=u1.1.1,kc:=u1.1.2}) (b:=SZ.bank) w (hw.item (k:=6) rfl) (cW hw (j:=9) rfl (fun _=>rfl) (by omega)) hb5) rfl (fun _=>rfl) fun v1=>?_);obtain ⟨v1A,v1c⟩:=v1;refine qV (Fj eI rfl nU (q0 rfl) rfl) rfl rfl ?_;refine G ?_;refine xx (r5 rfl rfl) (by first|rfl|decide|simp) (di (en pZ (il (qk (v:= .pointer _) rfl (by first|rfl|decide|simp)))) (fun w hw=>tP (f:=f) (p:=p) (M:={M2 with kA:=u2.1.1,kc:=u2.1.2}) (b:=SZ.bank) w (hw.item (k:=1) rfl) (cW hw (j:=4) rfl (fun _=>rfl) (by omega)) hb5) rfl (fun _=>rfl) fun v2=>?_);obtain ⟨v2A,v2c⟩:=v2;refine qV (Fj eI rfl nU (q0 rfl) rfl) rfl rfl ?_;refine EB (en yX (gr (q1 (v:= .slice _ _ _) rfl) (q1 (v:= .slice _ _ _) rfl))) (fun _ w hw=>vF (xs:=SZ.bank) rfl (cW hw (j:=1) rfl (fun _=>rfl) (by omega)) (cW hw (j:=0) rfl (fun _=>rfl) (by omega))) rfl rfl rfl rfl ?_;iterate 2 refine G ?_
 refine EB (en uC (Iw)) (fun _ w _=>tQ w) rfl rfl rfl rfl ?_;iterate 5 refine G ?_
 exact bH (v:= .bool _) rfl rfl rfl fun w' hw=>⟨by simp,hw.1⟩
theorem Ha (f:Fl) (fa:FA) (p:Pr) (a:xz) (k:Int) (A:Option Addr) (n c:Nat) (xs:List k7) (q:Int) (w:World) (hf:kp w f fa) (hp:lK w p a) (hx:gJ w 12 k7.cells A n xs) (hpl: ∀x∈xs,-9223372036854775808≤x.ev.place∧x.ev.place≤9223372036854775807) (hq:0≤q∧q≤255):Calls Tryz.prog 7 #[.agg (kF f fa p a k).toArray, .slice A n c, .int .u8 q] w fun e w'=>e= .returned (.bool true)∧gz w w':=by
 cases hb:CC n fa a with
 |false=>exact Fo f fa p a k A n c q w hb
 |true=>
  by_cases hz:pq f p k=0
  ·have h0:jk f p=0:=by
    refine dZ fun hn=>?_;unfold pq at hz;rw [av hn] at hz;exact hn hz
   have hk: ¬(k<1∨8<k):=fun hn=>by
    unfold pq at hz;rw [ah (fun h=>h h0),av hn] at hz;cases hz
   obtain ⟨m,rfl⟩: ∃m:Nat,k=m:=⟨k.toNat,by omega⟩;exact IH f fa p a m A n c q xs w hf hp hx hpl hb h0 (by omega) (by omega) hq
  exact Hb f fa p a k A n c q w hf hp hb hz
end Go.Proofs.Net
