import Derived.Test.YtakhechhnnjbcaaGreatBC18
import Derived.Test.YtakhechhnnjbcaaGreatBC15
import Derived.Test.YtakhechhnnjbcaaGreatBC14
import Derived.Test.YtakhechhnnjbcaaGreatBC04
import Derived.Test.YtakhechhnnjbcaaGreatTc
set_option maxRecDepth 100000
set_option maxHeartbeats 8000000
set_option linter.unusedVariables false
set_option linter.unusedSimpArgs false
namespace Go.Proofs.Far
open Go Go.RowKit Go.Proofs.E Go.Proofs.Cus Go.Proofs.Rid
def WE (o:Option iY) (z:Nat×Option Addr×Nat):Value:=match o with|some _=> .tuple #[.pointer (some ⟨z.1,0,none⟩), .int .i64 0]|none=> .tuple #[.pointer none, .int .i64 2]
def TX (o:Option iY) (z:Nat×Option Addr×Nat):List E.Item:=match o with|some b=>[box z.1 204 (b.cells z.2.1 z.2.2),u0 z.2.1 z.2.2 b.items]|none=>[]
theorem s8 {n:Int} (h: ¬1000000000000<n):mN n=(n,0):=by unfold mN;rw [ah h]
theorem s9 {n:Int} (h:1000000000000<n):mN n=(0,2):=by unfold mN;rw [av h]
attribute [local irreducible] nS qd nR rK mN jE atR ql
theorem JR (f:Fl) (p:Pr) (a:xz) (x:RX) (by_:Int) (w:World) (hp:lK w p a) (hx:vu w x) (he:jk f p=0) (hc:dW x.r=0) (ho:x.r.open_=false) (hpl:x.r.pl≤9223372036854775807) (hby: -1≤by_∧by_<p.iE.length):
  Calls Tryz.prog 111 #[.agg (p.cells a).toArray, .agg x.cells.toArray, .int .i64 by_] w fun e w'=> ∃z:Nat×Option Addr×Nat,e= .returned (WE (nk p x.r by_) z)∧Mem w (TX (nk p x.r by_) z) w':=by
 obtain ⟨_,htf,hpe,_,_,_,_,_,_⟩:=nI he;have hs:=sZ.1 (gR hc).1;have hat:atR p.ik x.r.start.lo=(((o8 p x.r:Nat):Int),0):=by unfold atR;rw [ah (by omega),ah (by omega)];rfl
 obtain ⟨hvk,hvt⟩:=Mq (r:=x.r) htf;have hvi:=pL.1 hvt;have hrs:=BM hc;have hps:=BY hc;have hrn:=EP hvt (s:=nR x.r) hrs.2;have hpn:=Jp hvt (s:=rK x.r) hps.2;have hfee:=KY he x.r;have hbt:=CX p x.r;have hplt:=DM p x.r;have hpat:=BZ p x.r by_;have hvn:o8 p x.r<a.t.n:=by
  have:=(aa.1 hvk).1;have:=hp.tf.1;omega
 obtain ⟨tb,toff,t0,htA,htbl,ht0,hrt⟩:=hp.tf.at_ hvn;rw [hvk] at ht0;cases ht0;have hfst:nk p x.r by_=if 1000000000000<nS (jh p x.r) (nR x.r) then none else if 1000000000000<qd (jh p x.r) (rK x.r) then none else if 0≤by_∧1000000000000<ql p x.r by_ then none else if 1000000000000<(s6 p x.r by_).total then none else some (s6 p x.r by_):=rfl
 refine aS Tryz.func111 rfl Tryz.ntmps111 rfl ?_;iterate 2 refine G ?_
 refine cd (v:= .agg _) rfl rfl fun b3=>?_;refine cd (v:= .agg _) rfl rfl fun b4=>?_;iterate 10 refine G ?_
 refine bO (bS HH WA Kg (pt (v:= .int _ _) rfl (pt (v:= .int _ _) rfl E.p0)) rfl) ?_;refine bO (bS FE Vt Tryz.zeroValue204 (pt (v:= .agg _) rfl E.p0) rfl) ?_;refine cd (v:= .agg _) rfl rfl fun b27=>?_;iterate 4 refine G ?_
 refine fY (L':=[box b27 204 ((⟨x.r.id,x.r.rider,[],0⟩:iY).cells none 0),u0 none 0 [],box b4 191 x.cells,box b3 28 (p.cells a)]) (fun w hw=>(hw.eX 272 3 Uq.cells rfl).pick [1,0,2,3] (by decide)) rfl ?_;iterate 6 refine G ?_
 refine gV (en Tryz.call165 (gr (q0 rfl) (q0 rfl))) (fun _ w hw=>UX a.t.A a.t.n a.t.c p.ik x.r.start.lo w (hp.tf.mem hw)) ?_;rw [hat];iterate 14 refine G ?_
 refine au rfl ?_ ?_<;>intro h1
 ·exfalso;simp at h1
 iterate 5 refine G ?_
 refine bO (ea (v:= .slice (some ⟨tb,toff,none⟩) a.t.n a.t.c) Tryz.isAgg25 (q0 rfl) (by rw [←htA];exact bx 3 rfl rfl)) ?_;refine G ?_;refine bO (bt (o8 p x.r) fJ iD (q0 rfl) (q0 rfl) (fun _=>⟨rfl,hvn⟩)) ?_;refine bO (km (vs:=(jh p x.r).cells) SH iD (q0 rfl) (MY hrt htbl) rfl) ?_;refine cx oL rfl fun b11=>?_;refine fI (v:= .agg _) rfl rfl iD ?_;iterate 5 refine G ?_
 refine gV (en Tryz.call166 (il (q0 rfl))) (fun _ w hw=>KN x w (hx.mem hw) hc ho) ?_;iterate 16 refine G ?_
 refine au rfl ?_ ?_<;>intro h2
 ·exfalso;simp at h2
 iterate 6 refine G ?_
 refine gV (en Tryz.call167 (gr (q0 rfl) (q0 rfl))) (fun _ w hw=>My (jh p x.r) hvt (nR x.r) hrs w) ?_;iterate 14 refine G ?_
 refine au rfl ?_ ?_<;>intro h3
 ·have h3':1000000000000<nS (jh p x.r) (nR x.r):=by
   apply dZ;intro hn;have h:(!decide ((mN (nS (jh p x.r) (nR x.r))).2=0))=true:=h3;rw [s8 hn] at h;simp at h
  rw [hfst,av h3',s9 h3'];iterate 9 refine G ?_
  exact fV (v:= .pointer _) (x:= .int _ _) rfl rfl rfl rfl fun w' hw=>⟨(0,none,0),rfl,iT.2 hw.1⟩
 have h3': ¬1000000000000<nS (jh p x.r) (nR x.r):=fun hn=>by
  have h:(!decide ((mN (nS (jh p x.r) (nR x.r))).2=0))=false:=h3;rw [s9 hn] at h;simp at h
 rw [ah h3'] at hfst;rw [s8 h3'];iterate 6 refine G ?_
 refine gV (en Tryz.call168 (gr (q0 rfl) (q0 rfl))) (fun _ w hw=>M8 (jh p x.r) hvt (rK x.r) hps w) ?_;iterate 14 refine G ?_
 refine au rfl ?_ ?_<;>intro h4
 ·have h4':1000000000000<qd (jh p x.r) (rK x.r):=by
   apply dZ;intro hn;have h:(!decide ((mN (qd (jh p x.r) (rK x.r))).2=0))=true:=h4;rw [s8 hn] at h;simp at h
  rw [hfst,av h4',s9 h4'];iterate 9 refine G ?_
  exact fV (v:= .pointer _) (x:= .int _ _) rfl rfl rfl rfl fun w' hw=>⟨(0,none,0),rfl,iT.2 hw.1⟩
 have h4': ¬1000000000000<qd (jh p x.r) (rK x.r):=fun hn=>by
  have h:(!decide ((mN (qd (jh p x.r) (rK x.r))).2=0))=false:=h4;rw [s9 hn] at h;simp at h
 rw [ah h4'] at hfst;rw [s8 h4'];obtain ⟨B1,hB1⟩: ∃B1,B1=k6 ⟨x.r.id,x.r.rider,[],0⟩ 1 (o8 p x.r) (jh p x.r).unlock:=⟨_,rfl⟩;obtain ⟨B2,hB2⟩: ∃B2,B2=k6 B1 2 (o8 p x.r) (nS (jh p x.r) (nR x.r)):=⟨_,rfl⟩;obtain ⟨B3,hB3⟩: ∃B3,B3=tp p x.r:=⟨_,rfl⟩;obtain ⟨B4,hB4⟩: ∃B4,B4=wW p x.r:=⟨_,rfl⟩;have hB3e:B3=k6 B2 3 (o8 p x.r) (qd (jh p x.r) (rK x.r)):=by rw [hB3,hB2,hB1];rfl
 have hB4e:B4=k6 B3 4 (jE p x.r).2 (max (jE p x.r).1 (-B3.total)):=by rw [hB4,hB3];rfl
 have t1:B1.total=(jh p x.r).unlock:=by rw [hB1,lp];simp
 have t2:B2.total=(jh p x.r).unlock+nS (jh p x.r) (nR x.r):=by rw [hB2,lp,t1]
 have l1:B1.items.length≤1:=by rw [hB1];exact mQ _ _ _ _
 have l2:B2.items.length≤2:=by have:=mQ B1 2 (o8 p x.r) (nS (jh p x.r) (nR x.r));rw [hB2];omega
 have l3:B3.items.length≤3:=by have:=mQ B2 3 (o8 p x.r) (qd (jh p x.r) (rK x.r));rw [hB3e];omega
 have l4:B4.items.length≤4:=by have:=mQ B3 4 (jE p x.r).2 (max (jE p x.r).1 (-B3.total));rw [hB4e];omega
 rw [←hB3] at hbt hplt;rw [←hB4] at hplt hpat;iterate 8 refine G ?_
 refine bZ (bR (en sL (Fb (q0 rfl) (q0 rfl) (q0 rfl) (q0 rfl))) (fun w hw=>vq 1 (o8 p x.r) (jh p x.r).unlock (hw.pick [1,2,0,3,4] (by decide)) rfl (by simp) (by simp;omega)) rfl (fun _=>rfl) fun z1=>?_);rw [←hB1];iterate 7 refine G ?_
 refine bZ (bR (en sL (Fb (q0 rfl) (q0 rfl) (q0 rfl) (q0 rfl))) (fun w hw=>vq 2 (o8 p x.r) (nS (jh p x.r) (nR x.r)) hw rfl (by omega) (by omega)) rfl (fun _=>rfl) fun z2=>?_);rw [←hB2];iterate 7 refine G ?_
 refine bZ (bR (en sL (Fb (q0 rfl) (q0 rfl) (q0 rfl) (q0 rfl))) (fun w hw=>vq 3 (o8 p x.r) (qd (jh p x.r) (rK x.r)) hw rfl (by omega) (by omega)) rfl (fun _=>rfl) fun z3=>?_);rw [←hB3e];iterate 16 refine G ?_
 refine gV (en Tryz.call169 (gr (q0 rfl) (q0 rfl))) (fun _ w hw=>Qd p a x w (hp.mem hw) hpl) ?_;iterate 13 refine G ?_
 refine bO (Sg (r:= -B3.total) (q0 rfl) (fun _=>⟨rfl,by omega,by omega⟩)) ?_;refine bO (vb (q0 rfl) (q0 rfl)) ?_;refine bZ (bR (en sL (Fb (q0 rfl) (q0 rfl) (q0 rfl) (q0 rfl))) (fun w hw=>vq 4 (jE p x.r).2 (max (jE p x.r).1 (-B3.total)) hw rfl (by omega) (by omega)) rfl (fun _=>rfl) fun z4=>?_);rw [←hB4e];iterate 9 refine G ?_
 refine au rfl ?_ ?_<;>intro h5
 ·have h5':0≤by_:=cJ h5;obtain ⟨k,hk⟩: ∃k:Nat,by_=(k:Int):=⟨by_.toNat,by omega⟩;subst hk;have hkl:k<a.p.n:=by have:=hp.ps.1;omega
  obtain ⟨pb,poff,q,hpA,hpbl,hq,hrq⟩:=hp.ps.at_ hkl;have hqd:p.iE.getD ((k:Int)).toNat default=q:=by rw [aM,aq,hq];rfl
  have hqs:0≤q.fS∧q.fS≤86400:=by
   have h7:lg p.iE=0:=hpe;unfold lg at h7;split at h7
   ·cases h7
   split at h7
   ·cases h7
   rename_i h8;have h9:p.iE.any qe=false:=by simpa using h8
   rw [jf] at h9;have h10:=h9 q (an hq);unfold qe AX at h10;simp only [FK,not_or,Bool.not_eq_true,jg,Bool.not_eq_false,mX] at h10;exact h10.1.2
  have hpart:ql p x.r (k:Int)=nS (jh p x.r) (min (nR x.r) q.fS):=by unfold ql;rw [hqd]
  have hmin:0≤min (nR x.r) q.fS∧min (nR x.r) q.fS≤4294944000:=by omega
  have hpnn:=EP hvt (s:=min (nR x.r) q.fS) hmin.2;rw [←hpart] at hpnn;refine G ?_;refine tB ?_;iterate 3 refine G ?_
  refine bO (ea (v:= .slice (some ⟨pb,poff,none⟩) a.p.n a.p.c) Tryz.isAgg26 (q0 rfl) (by rw [←hpA];exact bx 4 rfl rfl)) ?_;refine G ?_;refine bO (bt k gU jL (q0 rfl) (q0 rfl) (fun _=>⟨rfl,hkl⟩)) ?_;refine G ?_;refine bO (ea (v:= .int .i64 q.fS) aJ (q0 rfl) (by exact rc (j:=5) hrq hpbl rfl)) ?_;refine bO (Fh (q0 rfl) (q0 rfl)) ?_;refine gV (en Tryz.call167 (gr (q0 rfl) (q0 rfl))) (fun _ w _=>My (jh p x.r) hvt (min (nR x.r) q.fS) hmin w) ?_;rw [←hpart];iterate 14 refine G ?_
  refine au rfl ?_ ?_<;>intro h7
  ·have h7':1000000000000<ql p x.r (k:Int):=by
    apply dZ;intro hn;have h:(!decide ((mN (ql p x.r (k:Int))).2=0))=true:=h7;rw [s8 hn] at h;simp at h
   rw [av ⟨h5',h7'⟩] at hfst;rw [hfst,s9 h7'];iterate 10 refine G ?_
   exact fV (v:= .pointer _) (x:= .int _ _) rfl rfl rfl rfl fun w' hw=>⟨(0,none,0),rfl,iT.2 hw.1⟩
  have h7': ¬1000000000000<ql p x.r (k:Int):=fun hn=>by
   have h:(!decide ((mN (ql p x.r (k:Int))).2=0))=false:=h7;rw [s9 hn] at h;simp at h
  rw [ah (fun h=>h7' h.2)] at hfst;rw [s8 h7'];obtain ⟨B5,hB5⟩: ∃B5,B5=s6 p x.r (k:Int):=⟨_,rfl⟩;have hB5e:B5=k6 B4 5 (k:Int) (-(min B4.total ((jh p x.r).unlock+ql p x.r (k:Int)))):=by rw [hB5];unfold s6;rw [av h5',←hB4]
  rw [←hB5] at hfst hpat;rw [av h5'] at hpat;iterate 2 refine G ?_
  refine zd 2 ?_;refine aW 0 ?_;refine aW 1 ?_;refine aW 2 ?_;refine aW 3 ?_;refine aW 4 ?_;refine aW 5 ?_;refine aW 7 ?_;refine aW 8 ?_;refine aW 9 ?_;refine iQ 10 rfl (rB (r:=(jh p x.r).unlock+ql p x.r (k:Int)) (q0 rfl) (q0 rfl) (fun _=>⟨rfl,by omega,by omega⟩)) ?_;refine r1 6 2 ?_;refine aL rfl (gY (ea (v:= .int .i64 B4.total) aJ (q0 rfl) (bx 0 rfl rfl)) rfl rfl ?_);refine iQ 11 rfl (Fh (q0 rfl) (q0 rfl)) ?_;refine iQ 12 rfl (Sg (r:= -(min B4.total ((jh p x.r).unlock+ql p x.r (k:Int)))) (q0 rfl) (fun _=>⟨rfl,by omega,by omega⟩)) ?_;refine r1 13 2 ?_;refine aL rfl (bR (en sL (Fb (q0 rfl) (q0 rfl) (q0 rfl) (q0 rfl))) (fun w hw=>vq 5 (k:Int) (-(min B4.total ((jh p x.r).unlock+ql p x.r (k:Int)))) hw rfl (by omega) (by omega)) rfl (fun _=>rfl) fun z5=>?_);refine jz 2 ?_;iterate 12 refine G ?_
  refine au rfl ?_ ?_<;>intro h8
  ·have h8':1000000000000<B5.total:=by rw [hB5e];exact cJ h8
   rw [hfst,av h8'];iterate 8 refine G ?_
   exact fV (v:= .pointer _) (x:= .int _ _) rfl rfl rfl rfl fun w' hw=>⟨(0,none,0),rfl,iT.2 hw.1⟩
  have h8': ¬1000000000000<B5.total:=by rw [hB5e];exact cS h8
  rw [hfst,ah h8'];iterate 10 refine G ?_
  exact fV (v:= .pointer _) (x:= .int _ _) rfl rfl rfl rfl fun w' hw=>⟨(b27,z5.1,z5.2),rfl,by rw [hB5e];exact hw.pick [0,1] (by decide)⟩
 have h5': ¬0≤by_:=cS h5;have hpB:s6 p x.r by_=B4:=by unfold s6;rw [ah h5',hB4]
 rw [ah (fun h=>h5' h.1),hpB] at hfst;iterate 13 refine G ?_
 refine au rfl ?_ ?_<;>intro h6
 ·have h6':1000000000000<B4.total:=cJ h6;rw [hfst,av h6'];iterate 8 refine G ?_
  exact fV (v:= .pointer _) (x:= .int _ _) rfl rfl rfl rfl fun w' hw=>⟨(0,none,0),rfl,iT.2 hw.1⟩
 have h6': ¬1000000000000<B4.total:=cS h6;rw [hfst,ah h6'];iterate 10 refine G ?_
 exact fV (v:= .pointer _) (x:= .int _ _) rfl rfl rfl rfl fun w' hw=>⟨(b27,z4.1,z4.2),rfl,hw.pick [0,1] (by decide)⟩
end Go.Proofs.Far
namespace Go.Proofs.Far
open Go Go.RowKit Go.Proofs.E Go.Proofs.Cus Go.Proofs.Rid
theorem Ug (x y:RX) (w:World):Calls Tryz.prog 108 #[.agg x.cells.toArray, .agg y.cells.toArray] w fun e w'=>e= .returned (.int .i64 (vH x.r y.r))∧gz w w':=by
 refine aS Tryz.func108 rfl Tryz.ntmps108 rfl ?_;iterate 2 refine G ?_
 refine cd (v:= .agg _) rfl rfl fun b2=>?_;refine cd (v:= .agg _) rfl rfl fun b3=>?_;iterate 4 refine G ?_
 refine AQ ?_;refine aW 0 ?_;refine aW 1 ?_;refine aW 2 ?_;refine aW 3 ?_;refine aW 4 ?_;refine aW 5 ?_;refine aW 7 ?_;refine aW 8 ?_;refine aW 9 ?_;refine aW 10 ?_;refine aW 11 ?_;refine aW 12 ?_;refine aW 14 ?_;refine aW 15 ?_;refine aW 16 ?_;refine aW 17 ?_;refine aC 6 (by decide+kernel) rfl (en kB (gr (q0 rfl) (q0 rfl))) (fun _ w _=>jM x.r.start.lo y.r.start.lo w) rfl ?_;refine aC 13 (by decide+kernel) rfl (en kB (gr (q0 rfl) (q0 rfl))) (fun _ w _=>jM x.r.end_.lo y.r.end_.lo w) rfl ?_;refine aC 18 (by decide+kernel) rfl (en kB (gr (q0 rfl) (q0 rfl))) (fun _ w _=>jM x.r.id y.r.id w) rfl ?_;refine r1 19 0 ?_;refine aL rfl (dE [(.int .i64 0),(.int .i64 0),(.int .i64 0)] ak ax bh rfl (by kernel_rfl) (pt (v:= .int _ _) rfl (pt (v:= .int _ _) rfl (pt (v:= .int _ _) rfl E.p0))) rfl rfl fun b24=>?_);refine xw (bK 1) ?_;refine aC 20 (by decide+kernel) rfl (en UH (il (q0 rfl))) (fun _ w hm=>Qi _ 3 3 [j0 x.r.start.lo y.r.start.lo,j0 x.r.end_.lo y.r.end_.lo,j0 x.r.id y.r.id] w (bg (enc:=aN) hm (j:=0) rfl (fun _=>rfl) (by simp))) rfl ?_;refine aW 21 ?_;refine jz 0 ?_;iterate 2 refine G ?_
 exact bH (v:= .int _ _) rfl rfl rfl fun w' hw=>⟨rfl,hw.1⟩
def HZ:Go.Shelf.Ren:=⟨fun|6=>107|15=>162|14=>161|28=>219|29=>220|20=>207|21=>212|22=>213|23=>214|24=>215|25=>216|26=>217|27=>218|46=>279|47=>280|48=>281|49=>282|50=>283|57=>313|n=>n,fun|22=>135|24=>191|25=>192|3=>3|39=>257|0=>0|53=>305|55=>307|4=>4|46=>299|45=>298|50=>229|5=>5|9=>9|66=>359|70=>363|76=>388|77=>77|n=>n,fun|n=>n⟩
theorem Ta:Go.Proofs.SlLaysF0.n6 Tryz.prog HZ:={
 mixed:=by kernel_rfl,
 f6:=⟨Tryz.f107.name,by decide,Tryz.func107.trans (aT some (by kernel_rfl))⟩,
 f14:=⟨Tryz.f161.name,by decide,Tryz.func161.trans (aT some (by kernel_rfl))⟩,
 f15:=Tryz.func162.trans (aT some (by kernel_rfl)),
 f20:=⟨Tryz.f207.name,by decide,Tryz.func207.trans (aT some (by kernel_rfl))⟩,
 f21:=⟨Tryz.f212.name,by decide,Tryz.func212.trans (aT some (by kernel_rfl))⟩,
 f22:=⟨Tryz.f213.name,by decide,Tryz.func213.trans (aT some (by kernel_rfl))⟩,
 f23:=⟨Tryz.f214.name,by decide,Tryz.func214.trans (aT some (by kernel_rfl))⟩,
 f24:=⟨Tryz.f215.name,by decide,Tryz.func215.trans (aT some (by kernel_rfl))⟩,
 f25:=⟨Tryz.f216.name,by decide,Tryz.func216.trans (aT some (by kernel_rfl))⟩,
 f26:=⟨Tryz.f217.name,by decide,Tryz.func217.trans (aT some (by kernel_rfl))⟩,
 f27:=⟨Tryz.f218.name,by decide,Tryz.func218.trans (aT some (by kernel_rfl))⟩,
 f28:=Tryz.func219.trans (aT some (by kernel_rfl)),
 f29:=Tryz.func220.trans (aT some (by kernel_rfl)),
 f46:=⟨Tryz.f279.name,by decide,Tryz.func279.trans (aT some (by kernel_rfl))⟩,
 f47:=Tryz.func280.trans (aT some (by kernel_rfl)),
 f48:=Tryz.func281.trans (aT some (by kernel_rfl)),
 f49:=⟨Tryz.f282.name,by decide,Tryz.func282.trans (aT some (by kernel_rfl))⟩,
 f50:=⟨Tryz.f283.name,by decide,Tryz.func283.trans (aT some (by kernel_rfl))⟩,
 f57:=⟨Tryz.f313.name,by decide,Tryz.func313.trans (aT some (by kernel_rfl))⟩,
 t0:=pX,
 a0:=yW,
 z0:=wm,
 v0:=qN,
 t3:=aG,
 a3:=aJ,
 z3:=ax,
 v3:=bh,
 t4:=iL,
 a4:=kK,
 z4:=dG,
 v4:=gK,
 t5:=jX,
 a5:=yU,
 z5:=wk,
 v5:=qM,
 t9:=pW,
 a9:=yT,
 z9:=wj,
 v9:=qL,
 t22:=bI,
 a22:=uu,
 z22:=Ds,
 v22:=Tryz.zeroValue135,
 t25:=Tryz.underlying192,
 a25:=Tryz.isAgg192,
 z25:=Tryz.sizeOf192,
 v25:=Tryz.zeroValue192,
 t39:=nA,
 a39:=uo,
 z39:=sG,
 v39:=oI,
 t45:=ny,
 a45:=um,
 z45:=sF,
 v45:=oH,
 t46:=nx,
 a46:=uk,
 z46:=sE,
 v46:=oG,
 t50:=nC,
 a50:=uq,
 z50:=sH,
 v50:=oJ,
 t53:=nw,
 a53:=uj,
 z53:=sD,
 v53:=oF,
 t55:=nu,
 a55:=ui,
 z55:=sC,
 v55:=oE,
 t66:=ns,
 a66:=uh,
 z66:=sy,
 v66:=oC,
 t70:=nr,
 a70:=ug,
 z70:=sx,
 v70:=oB,
 t76:=nq,
 a76:=uf,
 z76:=sw,
 v76:=oz,
 t77:=oN,
 a77:=wu,
 z77:=ue,
 v77:=pV}
structure FX where
 b:iY
 A:Option Addr
 c:Nat
deriving Inhabited
def FX.cells (x:FX):List Value:=x.b.cells x.A x.c
abbrev ua (A:Option Addr) (c:Nat) (xs:List FX):E.Item:=dR 81 4 FX.cells A c xs
def pF (x:FX):List E.Item:=[u0 x.A x.c x.b.items]
theorem Uf (x y:FX) (w:World):Calls Tryz.prog 120 #[.agg x.cells.toArray, .agg y.cells.toArray] w fun e w'=>e= .returned (.int .i64 (j0 x.b.aP y.b.aP))∧gz w w':=by
 refine aS Tryz.func120 rfl Tryz.ntmps120 rfl ?_;iterate 2 refine G ?_
 refine cd (v:= .agg _) rfl rfl fun b2=>?_;refine cd (v:= .agg _) rfl rfl fun b3=>?_;iterate 9 refine G ?_
 refine gV (en kB (gr (q0 rfl) (q0 rfl))) (fun _ w _=>jM x.b.aP y.b.aP w) ?_;iterate 4 refine G ?_
 exact bH (v:= .int _ _) rfl rfl rfl fun w' hw=>⟨rfl,hw.1⟩
def H3:Go.Shelf.Ren:=⟨fun|6=>119|15=>162|14=>175|28=>219|29=>220|20=>236|21=>237|22=>238|23=>239|24=>240|25=>241|26=>242|27=>243|46=>294|47=>280|48=>281|49=>295|50=>296|57=>329|n=>n,fun|22=>74|24=>81|25=>214|3=>3|39=>257|0=>0|53=>305|55=>307|4=>4|46=>299|45=>298|50=>229|5=>5|9=>9|66=>359|70=>363|76=>388|77=>77|n=>n,fun|n=>n⟩
theorem Tc:Go.Proofs.SlLaysF0.n6 Tryz.prog H3:={
 mixed:=by kernel_rfl,
 f6:=⟨Tryz.f119.name,by decide,Tryz.func119.trans (aT some (by kernel_rfl))⟩,
 f14:=⟨Tryz.f175.name,by decide,Tryz.func175.trans (aT some (by kernel_rfl))⟩,
 f15:=Tryz.func162.trans (aT some (by kernel_rfl)),
 f20:=⟨Tryz.f236.name,by decide,Tryz.func236.trans (aT some (by kernel_rfl))⟩,
 f21:=⟨Tryz.f237.name,by decide,Tryz.func237.trans (aT some (by kernel_rfl))⟩,
 f22:=⟨Tryz.f238.name,by decide,Tryz.func238.trans (aT some (by kernel_rfl))⟩,
 f23:=⟨Tryz.f239.name,by decide,Tryz.func239.trans (aT some (by kernel_rfl))⟩,
 f24:=⟨Tryz.f240.name,by decide,Tryz.func240.trans (aT some (by kernel_rfl))⟩,
 f25:=⟨Tryz.f241.name,by decide,Tryz.func241.trans (aT some (by kernel_rfl))⟩,
 f26:=⟨Tryz.f242.name,by decide,Tryz.func242.trans (aT some (by kernel_rfl))⟩,
 f27:=⟨Tryz.f243.name,by decide,Tryz.func243.trans (aT some (by kernel_rfl))⟩,
 f28:=Tryz.func219.trans (aT some (by kernel_rfl)),
 f29:=Tryz.func220.trans (aT some (by kernel_rfl)),
 f46:=⟨Tryz.f294.name,by decide,Tryz.func294.trans (aT some (by kernel_rfl))⟩,
 f47:=Tryz.func280.trans (aT some (by kernel_rfl)),
 f48:=Tryz.func281.trans (aT some (by kernel_rfl)),
 f49:=⟨Tryz.f295.name,by decide,Tryz.func295.trans (aT some (by kernel_rfl))⟩,
 f50:=⟨Tryz.f296.name,by decide,Tryz.func296.trans (aT some (by kernel_rfl))⟩,
 f57:=⟨Tryz.f329.name,by decide,Tryz.func329.trans (aT some (by kernel_rfl))⟩,
 t0:=pX,
 a0:=yW,
 z0:=wm,
 v0:=qN,
 t3:=aG,
 a3:=aJ,
 z3:=ax,
 v3:=bh,
 t4:=iL,
 a4:=kK,
 z4:=dG,
 v4:=gK,
 t5:=jX,
 a5:=yU,
 z5:=wk,
 v5:=qM,
 t9:=pW,
 a9:=yT,
 z9:=wj,
 v9:=qL,
 t22:=r9,
 a22:=Tryz.isAgg74,
 z22:=Tryz.sizeOf74,
 v22:=Tryz.zeroValue74,
 t25:=Tryz.underlying214,
 a25:=Tryz.isAgg214,
 z25:=Tryz.sizeOf214,
 v25:=Tryz.zeroValue214,
 t39:=nA,
 a39:=uo,
 z39:=sG,
 v39:=oI,
 t45:=ny,
 a45:=um,
 z45:=sF,
 v45:=oH,
 t46:=nx,
 a46:=uk,
 z46:=sE,
 v46:=oG,
 t50:=nC,
 a50:=uq,
 z50:=sH,
 v50:=oJ,
 t53:=nw,
 a53:=uj,
 z53:=sD,
 v53:=oF,
 t55:=nu,
 a55:=ui,
 z55:=sC,
 v55:=oE,
 t66:=ns,
 a66:=uh,
 z66:=sy,
 v66:=oC,
 t70:=nr,
 a70:=ug,
 z70:=sx,
 v70:=oB,
 t76:=nq,
 a76:=uf,
 z76:=sw,
 v76:=oz,
 t77:=oN,
 a77:=wu,
 z77:=ue,
 v77:=pV}
section
open Go.Shelf Go.Lib Go.Sort
theorem P2 {w0 w:World} {L:List E.Item} (hw:Mem w0 L w) {j c n:Nat} {A:Option Addr} {xs:List RX} (hl:xs.length=n) (hkj:L[j]?=some (jt A c xs)) (hn:n≤1000000):
  Calls Tryz.prog 107 #[.slice A n c, .func (.func 108) #[] #[]] w fun r w'=> ∃ys:{ys:List RX//ys.Perm xs∧ys.Pairwise fun x y=>eB y.r x.r=false},r= .returned (.tuple #[])∧Mem w0 (L.set j (jt A c ys.1)) w':=by
 subst hl;refine (H0 Ta 13 jc bo RX.cells (fun _=>rfl) (fun x v hv=>by simp [RX.cells,Rd.Bc] at hv;rcases hv with rfl|rfl|rfl|rfl|rfl|rfl|rfl|rfl|rfl|rfl|rfl|rfl|rfl<;>rfl) (fun x y:RX=>vH x.r y.r) 108 (F1 (·.r) _ (fun x y=>by unfold ltOf;exact wU _ _)) Tryz.call108 Ug hw hkj hn).mono ?_;rintro r w' ⟨⟨ys,h1,h2⟩,he,hm⟩;exact ⟨⟨ys,h1,h2.imp fun {a b} hab=>by unfold ltOf at hab;rw [wU] at hab;exact hab⟩,he,hm⟩
theorem QK {w0 w:World} {L:List E.Item} (hw:Mem w0 L w) {j c n:Nat} {A:Option Addr} {xs:List FX} (hl:xs.length=n) (hkj:L[j]?=some (ua A c xs)) (hn:n≤1000000):
  Calls Tryz.prog 119 #[.slice A n c, .func (.func 120) #[] #[]] w fun r w'=> ∃ys:{ys:List FX//ys.Perm xs∧ys.Pairwise fun x y=>x.b.aP≤y.b.aP},r= .returned (.tuple #[])∧Mem w0 (L.set j (ua A c ys.1)) w':=by
 subst hl;refine (H0 Tc 4 I1 oP FX.cells (fun _=>rfl) (fun x v hv=>by simp [FX.cells,iY.cells] at hv;rcases hv with rfl|rfl|rfl|rfl<;>rfl) (fun x y:FX=>j0 x.b.aP y.b.aP) 120 (MC (·.b.aP) _ (fun x y=>by unfold ltOf;exact vR _ _)) Tryz.call120 Uf hw hkj hn).mono ?_;rintro r w' ⟨⟨ys,h1,h2⟩,he,hm⟩;exact ⟨⟨ys,h1,h2.imp fun {a b} hab=>by unfold ltOf at hab;rw [vR] at hab;simpa using hab⟩,he,hm⟩
end
theorem NY (v:Pen.V) (b3 q:Nat) (b:iY) (A:Option Addr) (c:Nat) (w:World) (hb3:mq w b3 0 [.pointer (some ⟨q,0,none⟩)]) (hl3:b3<w.heap.size) (hq:mq w q 0 (b.cells A c)) (hlq:q<w.heap.size):Calls Tryz.prog 115 #[.agg v.cells.toArray, .pointer (some ⟨b3,0,none⟩)] w fun e w'=>e= .returned (.bool (decide (v.aP=b.aP)))∧gz w w':=by
 refine aS Tryz.func115 rfl Tryz.ntmps115 rfl ?_;iterate 2 refine G ?_
 refine cd (v:= .agg _) rfl rfl fun b2=>?_;iterate 4 refine G ?_
 refine tB ?_;iterate 2 refine G ?_
 refine bO (ea (v:= .pointer (some ⟨q,0,none⟩)) Tryz.isAgg200 (q0 rfl) (BR hb3 hl3 rfl)) ?_;iterate 3 refine G ?_
 refine bO (ea (v:= .int .i64 b.aP) aJ (q0 rfl) (BR hq hlq rfl)) ?_;iterate 5 refine G ?_
 exact bH (v:= .bool _) rfl rfl rfl fun w' hw=>⟨rfl,hw.1⟩
theorem Mn (A:Option Addr) (n c:Nat) (vs:List Pen.V) (b3 q:Nat) (b:iY) (B:Option Addr) (d:Nat) (w:World) (hx:Pen.C4 w A n vs) (hb3:mq w b3 0 [.pointer (some ⟨q,0,none⟩)]) (hl3:b3<w.heap.size) (hq:mq w q 0 (b.cells B d)) (hlq:q<w.heap.size):Calls Tryz.prog 114 #[.slice A n c, .func (.func 115) #[] #[.pointer (some ⟨b3,0,none⟩)]] w fun e w'=>e= .returned (.int .i64 (qp vs b.aP))∧gz w w':=by
 have hl:=hx.1;have hn:=hx.2.1;refine aS Tryz.func114 rfl Tryz.ntmps114 rfl ?_;iterate 14 refine G ?_
 refine ct [4,5,8,9,10,11,12,13,14,15,16,17,18] (fun k:Nat=>[(8, .int .i64 k)]) (fun _=>[]) (fun k=>k≤n∧(List.range k).find? (fun k=>(vs.getD k Pen.V.zero).aP==b.aP)=none) (fun k=>n -k) 0 ⟨rfl,trivial⟩ (fun w hw=>hw) rfl ⟨aU _,rfl⟩ ?_;rintro k g ⟨hk,hall⟩;iterate 6 refine G ?_
 refine au rfl ?_ ?_<;>intro hlt
 ·have hlt':k<n:=by simpa using hlt
  obtain ⟨pb,off,v,rfl,hpbl,hpk,hrp⟩:=hx.at_ hlt';have hpd:vs.getD k Pen.V.zero=v:=by rw [aq,hpk];rfl
  iterate 15 refine G ?_
  refine bO (bt _ qP mT (q0 rfl) (q0 rfl) (fun _=>⟨rfl,by omega⟩)) ?_;refine G ?_;refine gV (wK (cap:=[.pointer (some ⟨b3,0,none⟩)]) (al:=[.agg v.cells.toArray, .pointer (some ⟨b3,0,none⟩)]) Tryz.call115 (q0 rfl) (fun hg=>by rw [il (q0 (v:= .agg _) rfl) hg];rfl)) (fun _ w hw=>NY v b3 q b B d w (fun j u hu=>MY hb3 hl3 rfl w hw j u hu) (gL hl3 hw.1.size) (fun j u hu=>MY hq hlq rfl w hw j u hu) (gL hlq hw.1.size)) ?_;iterate 2 refine G ?_
  refine au rfl ?_ ?_<;>intro hv
  ·have hv':v.aP=b.aP:=cJ hv;have hf:(List.range n).find? (fun k=>(vs.getD k Pen.V.zero).aP==b.aP)=some k:=by
    obtain ⟨j,rfl⟩: ∃j,n=k+1+j:=⟨n -(k+1),by omega⟩;rw [List.range_add,mH,je,je,hall];simp [hpk,hv']
   rw [show qp vs b.aP=(k:Int) by unfold qp;rw [hl,hf]];iterate 12 refine G ?_
   exact bH (v:= .int _ _) rfl rfl rfl fun w' hw=>⟨rfl,hw.1⟩
  have hv': ¬v.aP=b.aP:=cS hv;iterate 7 refine G ?_
  exact ay (k+1) eE ⟨rfl,trivial⟩ (fun w hw=>hw) rfl ⟨by omega,by rw [mH,je,hall];simp [hpk,hv']⟩ (by show n -(k+1)<n -k;omega)
 have hend:k=n:=by simp at hlt;omega
 subst hend;rw [show qp vs b.aP= -1 by unfold qp;rw [hl,hall]];iterate 11 refine G ?_
 exact bH (v:= .int _ _) rfl rfl rfl fun w' hw=>⟨rfl,hw.1⟩
def wJ (p:Pr) (vs:List Pen.V) (b:iY) (aP:Int):iY:=
 if qp vs aP<0 then b else k6 b 7 (Pen.Di p.cX p.days vs (qp vs aP)).1 (Pen.ti p.cX p.days vs (qp vs aP)).1
attribute [local irreducible] Pen.Di Pen.ti qp
theorem QQ {w0 w:World} {L:List E.Item} {q:Nat} {b:iY} {A:Option Addr} {c:Nat} (hw:Mem w0 (box q 204 (b.cells A c)::u0 A c b.items::L) w) (hmk:marks L=[]) (i7 i5 b7 b5:Nat) (vA:Option Addr) (vn vc:Nat) (vs:List Pen.V) (p:Pr) (a:xz) (h7:L[i7]?=some (box b7 193 [.slice vA vn vc])) (h5:L[i5]?=some (box b5 28 (p.cells a)))
  (hv:Pen.C4 w0 vA vn vs) (hp:lK w0 p a) (hpe:Pen.rL p.cX p.days=0) (hlen:b.items.length≤100) (hb: -9000000000000000≤b.total∧b.total≤9000000000000000):
  Calls Tryz.prog 113 #[.pointer (some ⟨q,0,none⟩), .pointer (some ⟨b7,0,none⟩), .pointer (some ⟨b5,0,none⟩)] w fun e w'=> ∃z:Option Addr×Nat,e= .returned (.tuple #[])∧Mem w0 (box q 204 ((wJ p vs b b.aP).cells z.1 z.2)::u0 z.1 z.2 (wJ p vs b b.aP).items::L) w':=by
 have hfr:=G2 (vs:=vs) (i:=qp vs b.aP) hpe;refine eu hw hmk Tryz.func113 rfl Tryz.ntmps113 rfl ?_;iterate 2 refine G ?_
 refine cd (v:= .pointer _) rfl rfl fun b3=>?_;iterate 4 refine G ?_
 refine bO (ea (v:= .slice vA vn vc) SF (q0 rfl) (bx (i7+3) h7 rfl)) ?_;refine xV G8 rfl rfl ?_;refine gV (v:= .int .i64 (qp vs b.aP)) (en (al:=[.slice vA vn vc, .func (.func 115) #[] #[.pointer (some ⟨b3,0,none⟩)]]) Tryz.call114 (gr (q0 (v:= .slice _ _ _) rfl) (q0 rfl))) (fun _ w hw=>Mn vA vn vc vs b3 q b A c w (hv.mem hw) (fun j u hu=>by rw [dj];exact gy hw (k:=0) rfl hu) (hw.ni (k:=0) rfl rfl).2 (fun j u hu=>by rw [dj];exact gy hw (k:=1) rfl hu) (hw.ni (k:=1) rfl rfl).2) ?_;iterate 10 refine G ?_
 refine au rfl ?_ ?_<;>intro h1
 ·have h1':qp vs b.aP<0:=cJ h1;rw [show wJ p vs b b.aP=b by unfold wJ;rw [av h1']];iterate 2 refine G ?_
  exact lj rfl hmk fun w' hw=>⟨(A,c),rfl,hw.tail⟩
 have h1': ¬qp vs b.aP<0:=cS h1;rw [show wJ p vs b b.aP=k6 b 7 (Pen.Di p.cX p.days vs (qp vs b.aP)).1 (Pen.ti p.cX p.days vs (qp vs b.aP)).1 by unfold wJ;rw [ah h1']];iterate 4 refine G ?_
 refine bO (km (vs:=p.cells a) kz iM (q0 rfl) (r2 (i5+3) h5) rfl) ?_;refine bO (ea (v:= .slice vA vn vc) SF (q0 rfl) (bx (i7+3) h7 rfl)) ?_;refine G ?_;refine gV (en Tryz.call116 (nj (q0 rfl) (q0 rfl) (q0 rfl))) (fun _ w hw=>Pen.Pa _ _ _ _ _ a.f.A a.f.n a.f.c p.cX p.days vA vn vc vs (qp vs b.aP) w (hp.fi.mem hw) (hv.mem hw)) ?_;iterate 9 refine G ?_
 refine bO (km (vs:=p.cells a) kz iM (q0 rfl) (r2 (i5+3) h5) rfl) ?_;refine bO (ea (v:= .slice vA vn vc) SF (q0 rfl) (bx (i7+3) h7 rfl)) ?_;refine G ?_;refine gV (en Tryz.call117 (nj (q0 rfl) (q0 rfl) (q0 rfl))) (fun _ w hw=>Pen.Uw _ _ _ _ _ a.f.A a.f.n a.f.c p.cX p.days vA vn vc vs (qp vs b.aP) w (hp.fi.mem hw) (hv.mem hw)) ?_;iterate 11 refine G ?_
 refine bZ (bR (en sL (Fb (q0 rfl) (q0 rfl) (q0 rfl) (q0 rfl))) (fun w hw=>vq 7 (Pen.Di p.cX p.days vs (qp vs b.aP)).1 (Pen.ti p.cX p.days vs (qp vs b.aP)).1 (hw.mv2) hmk hlen (by omega)) rfl (fun _=>rfl) fun z=>?_);refine G ?_;exact lj rfl hmk fun w' hw=>⟨z,rfl,hw.dh 3 [0,1] (by decide) (by decide)⟩
end Go.Proofs.Far
