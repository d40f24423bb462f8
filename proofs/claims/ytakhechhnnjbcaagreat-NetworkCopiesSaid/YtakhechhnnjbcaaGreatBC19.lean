import Derived.Test.YtakhechhnnjbcaaGreatBC18
import Derived.Test.YtakhechhnnjbcaaGreatBC10
import Derived.Test.YtakhechhnnjbcaaGreatBC03
import Derived.Test.YtakhechhnnjbcaaGreatBC04
import Derived.Test.YtakhechhnnjbcaaGreatBC02
import Derived.Test.YtakhechhnnjbcaaGreatBC15
import Derived.Test.YtakhechhnnjbcaaGreatTc
set_option maxRecDepth 100000
set_option maxHeartbeats 8000000
set_option linter.unusedVariables false
set_option linter.unusedSimpArgs false
namespace Go.Proofs.Far
open Go.Proofs.Cus Go.Proofs.Rid
theorem FR (l:List o0): ∀(qs:List Rq) (s:List Int×List (Int×Int)),(∀u∈s.1,-1≤u∧u<l.length)→ ∀u∈(qs.foldl (ke l) s).1,-1≤u∧u<l.length
 |[],_,h=>h
 |q::qs,s,h=>by
  rw [cO];refine FR l qs _ fun u hu=>?_;have hu2:u∈s.1++[pR l s.2 q]:=hu;rcases aQ.1 hu2 with hu|hu
  ·exact h u hu
  simp at hu;subst hu;exact Ic l s.2 q
theorem FT {p:Pr} {l:List Rd} {u:Int} (h:u∈nG p l): -1≤u∧u<p.iE.length:=FR p.iE (l.map my) ([],[]) (fun u hu=>by cases hu) u h
theorem sV (p:Pr) (l:List Rd):(nG p l).length=l.length:=by
 unfold nG vX;have h:((l.map my).foldl (ke p.iE) ([],[])).1.length=0+(l.map my).length:=Bp p.iE (l.map my) ([],[]);rw [h,aD,dj]
theorem vz {p:Pr} {l:List (Rd×Int)}: ∀{k:Nat} {B:List iY},k≤l.length→FS p l k=some B→B.length=k∧ ∀(i:Nat) (b:iY) (x:Rd×Int),B[i]?=some b→l[i]?=some x→nk p x.1 x.2=some b
 |0,B,_,h=>by
  have:B=[]:=by
   have h2:some ([]:List iY)=some B:=h;exact (j8 h2).symm
  subst this;exact ⟨rfl,fun i b x hb=>by simp at hb⟩
 |k+1,B,hk,h=>by
  obtain ⟨y,hy⟩: ∃y,l[k]?=some y:=⟨_,aj (by omega)⟩;rw [Kf hy] at h;unfold ri at h;split at h
  ·cases h
  rename_i bs hbs;split at h
  ·cases h
  rename_i b hb;cases h;obtain ⟨h1,h2⟩:=vz (k:=k) (by omega) hbs;refine ⟨by rw [bV,h1];rfl,fun i c x hc hx=>?_⟩;by_cases hi:i<k
  ·rw [dM (by omega)] at hc;exact h2 i c x hc hx
  have hik:i=k:=by
   have:=(aa.1 hc).1;rw [bV,h1] at this;simp at this;omega
  subst hik;rw [hy] at hx;cases hx;rw [cy (by omega),h1,fy] at hc;simp at hc;rw [←hc];exact hb
theorem rP {α β:Type} {l:List α} {m:List β} {k:Nat} {a:α} {b:β} (ha:l[k]?=some a) (hb:m[k]?=some b):(l.zip m)[k]?=some (a,b):=by
 rw [AB];exact ⟨ha,hb⟩
theorem Oj {l:List Rd} {B:List iY} (h:l.length=B.length):((l.zip B).map px).map (·.rider)=l.map (·.rider):=by
 rw [fO];have:((fun x:Dy=>x.rider)∘px)=(fun r:Rd=>r.rider)∘Prod.fst:=rfl;rw [this,←fO,SM (by omega)]
theorem T3 {l:List Rd} {B:List iY} (h:l.length=B.length):((l.zip B).map px).map (·.day)=l.map fun r=>r.start.lo/86400:=by
 rw [fO];have:((fun x:Dy=>x.day)∘px)=(fun r:Rd=>r.start.lo/86400)∘Prod.fst:=rfl;rw [this,←fO,SM (by omega)]
theorem LI {l:List Rd} {B:List iY} (h:l.length=B.length):((l.zip B).map px).map (·.fM)=B.map (·.total):=by
 rw [fO];have:((fun x:Dy=>x.fM)∘px)=(fun b:iY=>b.total)∘Prod.snd:=rfl;rw [this,←fO,List.map_snd_zip (by omega)]
theorem G9 (limit:Int) (xs:List Dy):(Dm limit xs).map (·.1)=xs:=by
 have key: ∀(xs:List Dy) (l:List (Dy×Int)),(xs.foldl (fun l x=>l++[(x,pS limit l x)]) l).map (·.1)=l.map (·.1)++xs:=by
  intro xs
  induction xs with
  |nil=>intro l;simp
  |cons x xs ih=>intro l;rw [cO,ih];simp
 exact key xs []
theorem wX {p:Pr} {l:List Rd} {B:List iY} (h:l.length=B.length):(kQ p l B).length=B.length:=by
 unfold kQ;have:=aT List.length (G9 p.cap ((l.zip B).map px));rw [aD] at this⊢;rw [this,aD,lC];omega
structure IX (l:List Rd) (B:List iY):Prop where
 len:l.length=B.length
 aP: ∀(i:Nat) (b:iY) (r:Rd),B[i]?=some b→l[i]?=some r→0≤b.total∧b.total≤1000000000000∧b.items.length≤5∧b.aP=r.id∧b.rider=r.rider
theorem Ji {f:Fl} {p:Pr} {l:List Rd} {us:List Int} {B:List iY} (he:jk f p=0) (hg:Good l) (hu:us.length=l.length) (h:FS p (l.zip us) l.length=some B):IX l B:=by
 have hzl:(l.zip us).length=l.length:=by rw [lC];omega
 obtain ⟨h1,h2⟩:=vz (by omega) h;refine ⟨h1.symm,fun i b r hb hr=>?_⟩;have hi:i<us.length:=by have:=(aa.1 hr).1;omega
 have:=h2 i b (r,us[i]) hb (rP hr (aj hi));exact G1 he (hg.ok r (an hr)) this
theorem QH {r:Rd} (h:dW r=0):1≤r.id∧r.id≤1000000∧0≤r.rider∧r.rider<128:=by
 unfold dW at h;have h1:fW r=true:=by
  cases hr:fW r with
  |true=>rfl
  |false=>rw [hr] at h;simp at h
 unfold fW vN at h1;simp only [bQ,jg,kN,dm] at h1;omega
theorem Ol {f:Fl} {p:Pr} {l:List Rd} {B:List iY} (he:jk f p=0) (hg:Good l) (hR:IX l B):CQ p.cap ((l.zip B).map px)=0:=by
 obtain ⟨_,_,_,_,_,_,hc1,hc2,_⟩:=nI he;unfold CQ;rw [ah (by rw [mX.2 ⟨hc1,hc2⟩];decide),ah (by rw [aD,lC];have:=hg.N2;omega),ah];intro hany;obtain ⟨y,hy,hb⟩:=cY.1 hany;obtain ⟨⟨r,b⟩,hz,rfl⟩:=bJ.1 hy;obtain ⟨i,hi⟩:=kL hz;rw [AB] at hi;have h1:=hR.aP i b r hi.2 hi.1;have h2:=QH (hg.ok r (an hi.1));have h3:=sZ.1 (gR (hg.ok r (an hi.1))).1;unfold Ec px at hb;simp only at hb;have i1:yB r.rider 0 127=true:=mX.2 (by omega);have i2:yB (r.start.lo/86400) 0 49709=true:=mX.2 (by omega);have i3:yB b.total 0 1000000000000=true:=mX.2 (by omega);rw [i1,i2,i3] at hb;cases hb
theorem B8 {f:Fl} {p:Pr} {l:List Rd} {B:List iY} (he:jk f p=0) (hR:IX l B) {v:Int} (hv:v∈kQ p l B):0≤v∧v≤1000000000000:=by
 obtain ⟨_,_,_,_,_,_,hc1,hc2,_⟩:=nI he;have ham: ∀y∈(l.zip B).map px,0≤y.fM∧y.fM≤1000000000000:=fun y hy=>by
  obtain ⟨⟨r,b⟩,hz,rfl⟩:=bJ.1 hy;obtain ⟨i,hi⟩:=kL hz;rw [AB] at hi;have h1:=hR.aP i b r hi.2 hi.1;exact ⟨h1.1,h1.2.1⟩
 have hok:=Ph hc1 ham ((l.zip B).map px).length (bq _);have hds:DS p.cap ((l.zip B).map px) ((l.zip B).map px).length=Dm p.cap ((l.zip B).map px):=by unfold DS;rw [dp];rfl
 rw [hds] at hok;unfold kQ at hv;obtain ⟨y,hy,rfl⟩:=bJ.1 hv;have h1:=hok.jF y hy;have h2:y.1∈(l.zip B).map px:=by rw [←G9 p.cap ((l.zip B).map px)];exact bJ.2 ⟨y,hy,rfl⟩
 have h3:=ham y.1 h2;omega
theorem Ea (p:Pr) (vs:List Pen.V) (b:iY) (d:Int):(qf p vs b d).aP=b.aP∧(qf p vs b d).rider=b.rider:=by
 unfold qf;split
 ·exact nN _ _ _ _
 exact ⟨(nN _ _ _ _).1.trans (nN _ _ _ _).1,(nN _ _ _ _).2.trans (nN _ _ _ _).2⟩
theorem yS {p:Pr} {vs:List Pen.V} {l:List (iY×Int)}: ∀{k:Nat} {C:List iY},k≤l.length→FN p vs l k=some C→C=(l.take k).map fun x=>qf p vs x.1 (x.2 -x.1.total)
 |0,C,_,h=>by
  have h2:some ([]:List iY)=some C:=h;rw [←j8 h2];rfl
 |k+1,C,hk,h=>by
  obtain ⟨y,hy⟩: ∃y,l[k]?=some y:=⟨_,aj (by omega)⟩;rw [Fy hy] at h;unfold rj at h;split at h
  ·cases h
  rename_i bs hbs;split at h
  ·cases h
  cases h;rw [yS (k:=k) (by omega) hbs,iy,hy,bX];rfl
theorem Sz {p:Pr} {vs:List Pen.V} {l:List (iY×Int)}: ∀{k:Nat} {C:List iY},k≤l.length→FN p vs l k=some C→ ∀c∈C,c.total≤1000000000000
 |0,C,_,h=>by
  have h2:some ([]:List iY)=some C:=h;rw [←j8 h2];intro c hc;cases hc
 |k+1,C,hk,h=>by
  obtain ⟨y,hy⟩: ∃y,l[k]?=some y:=⟨_,aj (by omega)⟩;rw [Fy hy] at h;unfold rj at h;split at h
  ·cases h
  rename_i bs hbs;split at h
  ·cases h
  rename_i hle;cases h;intro c hc;rcases aQ.1 hc with hc|hc
  ·exact Sz (k:=k) (by omega) hbs c hc
  simp at hc;subst hc;omega
theorem wL {C l:List iY} (hp:l.Perm C) (hn:(C.map (·.aP)).Nodup) (hs:l.Pairwise fun a b=>a.aP≤b.aP):l=sq C:=by
 have hb:(sq C).Perm C:=eT _ _;have hs2:(sq C).Pairwise fun a b=>a.aP≤b.aP:=by
  have:=iz (le:=fun a b:iY=>decide (a.aP≤b.aP)) (fun a b c h1 h2=>by simp at*;omega) (fun a b=>by simp;omega) C;exact this.imp fun h=>by simpa using h
 have strict: ∀{m:List iY},m.Perm C→m.Pairwise (fun a b=>a.aP≤b.aP)→m.Pairwise fun a b=>a.aP<b.aP:=fun {m} h1 h2=>by
  have h3:m.Pairwise fun a b=>a.aP≠b.aP:=gA.1 ((h1.map _).nodup_iff.2 hn);exact (h2.and h3).imp fun h=>by omega
 refine Bk (le:=fun a b=>a.aP<b.aP) (fun a b _ _ h1 h2=>?_) (strict hp hs) (strict hb hs2) (hp.trans hb.symm);omega
theorem Gg {l:List Rd} {B:List iY} (hR:IX l B):B.map (·.aP)=l.map (·.id):=by
 apply cU;intro i;rw [bf,bf];by_cases hi:i<B.length
 ·have hi2:i<l.length:=by have:=hR.len;omega
  rw [aj hi,aj hi2];have:=hR.aP i _ _ (aj hi) (aj hi2);simp [this.2.2.2.1]
 rw [dC (by omega),dC (by have:=hR.len;omega)];rfl
theorem D' {p:Pr} {vs:List Pen.V} {B:List iY} {ps:List Int} (h:B.length≤ps.length):((B.zip ps).map fun x=>qf p vs x.1 (x.2 -x.1.total)).map (·.aP)=B.map (·.aP):=by
 rw [fO];have:((fun b:iY=>b.aP)∘fun x:iY×Int=>qf p vs x.1 (x.2 -x.1.total))=(fun b:iY=>b.aP)∘Prod.fst:=by
  funext x;simp [Ea]
 rw [this,←fO,SM h]
theorem C2 {f:Fl} {p:Pr} {rs:List Rd} {vs:List Pen.V} (h:dS f p rs vs=0):jk f p=0∧lR rs=0∧Pen.sd vs=0∧ ∃B:List iY,FS p ((iG rs).zip (nG p (iG rs))) (iG rs).length=some B∧IX (iG rs) B∧
  (∀c∈(B.zip (kQ p (iG rs) B)).map (fun x=>qf p vs x.1 (x.2 -x.1.total)),c.total≤1000000000000)∧iW f p rs vs=sq ((B.zip (kQ p (iG rs) B)).map fun x=>qf p vs x.1 (x.2 -x.1.total)):=by
 have h1:jk f p=0:=by
  apply dZ;intro hn;unfold dS at h;rw [av hn] at h;exact hn h
 have h2:lR rs=0:=by
  apply dZ;intro hn;unfold dS at h;rw [ah (by omega),av hn] at h;exact hn h
 have h3:Pen.sd vs=0:=by
  apply dZ;intro hn;unfold dS at h;rw [ah (by omega),ah (by omega),av hn] at h;exact hn h
 have h4:vp p rs vs≠none:=by
  intro hn;unfold dS at h;rw [ah (by omega),ah (by omega),ah (by omega),av hn] at h;cases h
 have hg:=Eh (nH h2);refine ⟨h1,h2,h3,?_⟩;have hR:iW f p rs vs=(vp p rs vs).getD []:=by unfold iW;rw [ah (by omega)]
 rw [hR];unfold vp at h4⊢;have hzl:((iG rs).zip (nG p (iG rs))).length=(iG rs).length:=by rw [lC,sV];omega
 cases hfs:th p ((iG rs).zip (nG p (iG rs))) with
 |none=>rw [hfs] at h4;exact absurd rfl h4
 |some B=>
  rw [hfs] at h4;simp only at h4⊢;cases hfn:tZ p vs (B.zip (kQ p (iG rs) B)) with
  |none=>rw [hfn] at h4;exact absurd rfl h4
  |some C=>
   have hFS:FS p ((iG rs).zip (nG p (iG rs))) (iG rs).length=some B:=by rw [Pf (by omega)];exact hfs
   have hrich:=Ji h1 hg (sV p _) hFS;have hFN:FN p vs (B.zip (kQ p (iG rs) B)) (B.zip (kQ p (iG rs) B)).length=some C:=by rw [Pg (bq _)];exact hfn
   have hC:=yS (bq _) hFN;rw [dp] at hC;have hle:=Sz (bq _) hFN;refine ⟨B,hFS,hrich,?_,?_⟩
   ·rw [←hC];exact hle
   rw [←hC];rfl
theorem vi (C:List iY):(sq C).Perm C:=eT _ _
theorem tq {f:Fl} {p:Pr} {rs:List Rd} {vs:List Pen.V} (h:dS f p rs vs=0):((iW f p rs vs).map (·.aP)).Perm ((rs.filter fun r=>!r.open_).map (·.id)):=by
 obtain ⟨h1,h2,h3,B,hFS,hrich,_,hall⟩:=C2 h;rw [hall];refine ((vi _).map _).trans ?_;rw [D' (by rw [wX hrich.len];exact bq _),Gg hrich];exact (mB rs).map _
theorem C3 {f:Fl} {p:Pr} {rs:List Rd} {vs:List Pen.V} (h:dS f p rs vs=0):((iW f p rs vs).map (·.aP)).Nodup:=by
 obtain ⟨h1,h2,_⟩:=C2 h;exact (tq h).nodup_iff.2 (u5 (nH h2))
theorem O4 {f:Fl} {p:Pr} {rs:List Rd} {vs:List Pen.V} (h:dS f p rs vs=0) {r:Rd} (hr:r∈rs) (ho:r.open_=false):
  ∃(B:List iY) (i:Nat) (u:Int) (b:iY) (v:Int) (c:iY),FS p ((iG rs).zip (nG p (iG rs))) (iG rs).length=some B∧IX (iG rs) B∧(iG rs)[i]?=some r∧(nG p (iG rs))[i]?=some u∧B[i]?=some b∧nk p r u=some b∧(kQ p (iG rs) B)[i]?=some v∧c=qf p vs b (v -b.total)∧c∈iW f p rs vs∧c.aP=r.id∧c.rider=r.rider∧c.total≤1000000000000∧0≤v∧v≤1000000000000:=by
 obtain ⟨h1,h2,h3,B,hFS,hrich,hle,hall⟩:=C2 h;have hm:r∈iG rs:=(mB rs).mem_iff.2 (dT.2 ⟨hr,by rw [ho];rfl⟩);obtain ⟨i,hi⟩:=kL hm;have hil:=(aa.1 hi).1;have hlen:=hrich.len;have hul:=sV p (iG rs);have hpl:=wX (p:=p) hrich.len;obtain ⟨u,hu⟩: ∃u,(nG p (iG rs))[i]?=some u:=⟨_,aj (by omega)⟩;obtain ⟨b,hb⟩: ∃b,B[i]?=some b:=⟨_,aj (by omega)⟩;obtain ⟨v,hv⟩: ∃v,(kQ p (iG rs) B)[i]?=some v:=⟨_,aj (by omega)⟩;have hzl:(iG rs).length≤((iG rs).zip (nG p (iG rs))).length:=by rw [lC];omega
 have hfp:=(vz hzl hFS).2 i b (r,u) hb (rP hi hu);have hrr:=hrich.aP i b r hb hi;have hcm:qf p vs b (v -b.total)∈(B.zip (kQ p (iG rs) B)).map fun x=>qf p vs x.1 (x.2 -x.1.total):=bJ.2 ⟨(b,v),an (rP hb hv),rfl⟩;have hfr:=Ea p vs b (v -b.total);have hpr:=B8 h1 hrich (an hv);exact ⟨B,i,u,b,v,_,hFS,hrich,hi,hu,hb,hfp,hv,rfl,by rw [hall];exact (vi _).mem_iff.2 hcm,hfr.1.trans hrr.2.2.2.1,hfr.2.trans hrr.2.2.2.2,hle _ hcm,hpr.1,hpr.2⟩
end Go.Proofs.Far
namespace Go.Proofs.Gos
open Go Go.RowKit Go.Proofs.E Go.Proofs.Cus
theorem NT {fs:Array Field} (h:Tryz.prog.underlying 132=some (.struct fs):=by exact nE):dN Tryz.prog fs [(0,1),(1,1)]:=by
 rw [nE] at h;cases h;intro w;kernel_rfl
def lU (x e:Ev):Bool:=decide (x.device=e.device)&&((decide (x.seq<e.seq)&&decide (e.at_<x.at_))||(decide (e.seq<x.seq)&&decide (x.at_<e.at_)))
def Lr (x:Ev):List Value:=[.int .i64 x.device, .int .i64 x.seq]
structure Dp (w:World) (b o:Nat) (v:Value) (m:Nat) (es:Array MapEntry) (clock:Nat) (l:List Ev):Prop where
 lt:b<w.heap.size
 row:mq w b o [v, .map (some m)]
 map:w.heap[m]?=some (.map es clock)
 born:lV es.toList clock
 eO:es.toList.map (fun e=>(e.key,e.val))=l.map fun x=>(.agg (Lr x).toArray, .agg x.cells.toArray)
theorem Dp.one {w:World} {b o m clock:Nat} {v:Value} {es:Array MapEntry} {l:List Ev} (h:Dp w b o v m es clock l) {e:MapEntry} (he:e∈es.toList): ∃x∈l,e.key= .agg (Lr x).toArray∧e.val= .agg x.cells.toArray:=by
 have h1:(e.key,e.val)∈es.toList.map (fun e=>(e.key,e.val)):=bJ.2 ⟨e,he,rfl⟩;rw [h.eO] at h1;obtain ⟨x,hx,h2⟩:=bJ.1 h1;injection h2 with h2 h3;exact ⟨x,hx,h2.symm,h3.symm⟩
theorem Dp.two {w:World} {b o m clock:Nat} {v:Value} {es:Array MapEntry} {l:List Ev} (h:Dp w b o v m es clock l) {x:Ev} (hx:x∈l): ∃e∈es.toList,e.key= .agg (Lr x).toArray∧e.val= .agg x.cells.toArray:=by
 have h1:((.agg (Lr x).toArray, .agg x.cells.toArray):Value×Value)∈l.map fun x=>(Value.agg (Lr x).toArray,Value.agg x.cells.toArray):=bJ.2 ⟨x,hx,rfl⟩;rw [←h.eO] at h1;obtain ⟨e,he,h2⟩:=bJ.1 h1;injection h2 with h2 h3;exact ⟨e,he,h2,h3⟩
theorem LQ {x y:Ev} (h:(Value.agg x.cells.toArray)= .agg y.cells.toArray):x=y:=by
 obtain ⟨x1,x2,x3,x4,x5,x6,x7,x8,x9⟩:=x;obtain ⟨y1,y2,y3,y4,y5,y6,y7,y8,y9⟩:=y;simp only [Ev.cells,Value.agg.injEq] at h;have h2:=aT Array.toList h;simp only [UN,Value.int.injEq,true_and,Mc] at h2;obtain ⟨rfl,rfl,rfl,rfl,rfl,rfl,rfl,rfl,rfl⟩:=h2;rfl
theorem JB (es:List MapEntry) (seen:Array Nat) (e:MapEntry) (he:e∈es) (hs:seen.contains e.born=false):(es.filter fun x=>!(seen.push e.born).contains x.born).length<(es.filter fun x=>!seen.contains x.born).length:=by
 have hsub: ∀x:MapEntry,(!(seen.push e.born).contains x.born)=true→(!seen.contains x.born)=true:=fun x hx=>by
  simp at hx⊢;exact hx.1
 have key: ∀l:List MapEntry,e∈l→(l.filter fun x=>!(seen.push e.born).contains x.born).length<(l.filter fun x=>!seen.contains x.born).length:=by
  intro l
  induction l with
  |nil=>intro h;cases h
  |cons y l ih=>
   intro hm;have hle: ∀l:List MapEntry,(l.filter fun x=>!(seen.push e.born).contains x.born).length≤(l.filter fun x=>!seen.contains x.born).length:=by
    intro l
    induction l with
    |nil=>simp
    |cons z l ih2=>
     simp only [jI];split
     ·rename_i h;rw [av (hsub z h)];simp only [bB];omega
     split
     ·simp only [bB];omega
     exact ih2
   rcases bU.1 hm with rfl|hm
   ·simp only [jI];rw [ah (by simp),av (by simpa using hs)];have:=hle l;simp only [bB];omega
   have:=ih hm;simp only [jI];split
   ·rename_i h;rw [av (hsub y h)];simp only [bB];omega
   split
   ·simp only [bB];omega
   exact this
 exact key es he
theorem J6 {es:List MapEntry} {clock:Nat} (h:lV es clock) {x y:MapEntry} (hx:x∈es) (hy:y∈es) (he:x.born=y.born):x=y:=by
 obtain ⟨i,hi,rfl⟩:=nP hx;obtain ⟨j,hj,rfl⟩:=nP hy;have:=bj.1 h.Ka;rcases jQ i j with h1|h1|h1
 ·have:=this i j hi hj h1;omega
 ·subst h1;rfl
 have:=this j i hj hi h1;omega
theorem TT {b o m clock:Nat} {v:Value} {es:Array MapEntry} {l:List Ev} (e:Ev) (w:World) (h:Dp w b o v m es clock l):
  Calls Tryz.prog 62 #[.pointer (some ⟨b,o,none⟩), .agg e.cells.toArray] w fun r w'=>r= .returned (.bool (!l.any fun x=>lU x e))∧gz w w':=by
 have hlt:=h.lt
 have hrow:=h.row
 have hmap:=h.map
 have hB:=h.born
 have hmlt:m<w.heap.size:=(cm.1 hmap).1
 have hmm: ∀(L:List E.Item) w',Mem w L w'→w'.heap[m]?=some (.map es clock):=fun L w' hw=>(hw.1.block m hmlt).trans hmap
 refine aS Tryz.func62 rfl Tryz.ntmps62 rfl ?_
 refine cr ?_
 refine R0 ?_
 refine cd (v:= .agg _) rfl rfl fun b3=>?_
 refine xV (gZ (v:= .bool _) (q0 rfl)) rfl rfl ?_
 refine XN ?_
 refine az ?_
 refine cr ?_
 refine cr ?_
 refine R0 ?_
 refine xV (ez (v:= .pointer _) (q0 rfl)) rfl rfl ?_
 refine xV (xk (q0 rfl)) rfl rfl ?_
 refine xV (cR qR rfl Tryz.sizeOf125 rfl (q0 rfl)) rfl rfl ?_
 refine xV (eL Tryz.isAgg125 (q0 rfl)) rfl rfl ?_
 refine bZ (Fe iu (hmm _) rfl rfl fun r=>?_)
 refine XN ?_
 refine az ?_
 refine l0 ?_
 refine ct [4,6,12,13,14,15,16,17,18,19,20,21,22,23,24,25,26,27,28,29,30,31,32,33,34,35,36,37,38,39,40,41,42,43,44,45,46,47,48] (fun _:Array Nat=>[]) (fun seen=>[Nl r m clock seen clock,box b3 58 e.cells]) (fun seen=> ∀x∈es.toList,seen.contains x.born=true→ ∀y,x.val= .agg y.cells.toArray→lU y e=false) (fun seen=>(es.toList.filter fun x=>!seen.contains x.born).length) #[] trivial (fun _ h=>h) rfl (fun e _ hc=>by simp at hc) ?_
 rintro seen g hinv
 refine cr ?_
 refine R0 ?_
 refine bZ (IB 0 (hmm _) hB rfl rfl (bq _) rfl (fun hall=>?_) (fun x he hs=>?_))
 ·refine xV (JV (q0 rfl) rfl) rfl rfl ?_
  refine XN ?_
  refine az ?_
  refine cr ?_
  refine au rfl (fun hb=>?_) (fun hb=>?_)
  ·cases hb
  refine xD ?_
  refine mZ ?_
  refine ng ?_
  refine nn ?_
  refine az ?_
  refine cr ?_
  refine R0 ?_
  refine xV (gZ (v:= .bool _) (q0 rfl)) rfl rfl ?_
  refine XN ?_
  refine az ?_
  refine jV ?_
  exact bH (v:= .bool _) rfl rfl rfl fun w' hw=>⟨fK (by
   symm
   rw [jg,jf]
   intro y hy
   obtain ⟨x,hx,_,hv⟩:=h.two hy
   simpa using hinv x hx (hall x hx) y hv),hw.1⟩
 obtain ⟨y,hy,hk,hv⟩:=h.one he
 obtain ⟨ek,ev',eb⟩:=x
 simp only at hk hv
 subst hk
 subst hv
 refine xV (JV (q0 rfl) rfl) rfl rfl ?_
 refine XN ?_
 refine az ?_
 refine cr ?_
 refine au rfl (fun hb=>?_) (fun hb=>?_)
 ·refine iS ?_
  refine az ?_
  refine l0 ?_
  refine cr ?_
  refine R0 ?_
  refine xV (Fk 0 (hmm _) hB he (q0 rfl) rfl) rfl rfl ?_
  refine xV (JV (q0 rfl) rfl) rfl rfl ?_
  refine cx cV rfl fun b6=>?_
  refine fI (v:= .agg _) rfl rfl bT ?_
  refine XN ?_
  refine az ?_
  refine cr ?_
  refine R0 ?_
  refine xV (cR bE rfl ax rfl (q0 rfl)) rfl rfl ?_
  refine xV (eL aJ (q0 rfl)) rfl rfl ?_
  refine xV (cR bE rfl ax rfl (q0 rfl)) rfl rfl ?_
  refine xV (eL aJ (q0 rfl)) rfl rfl ?_
  refine xV (AL (q0 rfl) (q0 rfl)) rfl rfl ?_
  refine xV (ez (v:= .bool _) (q0 rfl)) rfl rfl ?_
  refine rF (cR bE rfl ax rfl (q0 rfl)) rfl rfl rfl rfl ?_
  refine rF (eL aJ (q1 rfl)) rfl rfl rfl rfl ?_
  refine rF (cR bE rfl ax rfl (q0 rfl)) rfl rfl rfl rfl ?_
  refine rF (eL aJ (q1 rfl)) rfl rfl rfl rfl ?_
  refine rF (vd (q1 rfl) (q1 rfl)) rfl rfl rfl rfl ?_
  refine rF (ez (v:= .bool _) (q1 rfl)) rfl rfl rfl rfl ?_
  refine kr (cR bE rfl ax rfl (q0 rfl)) rfl rfl rfl rfl ?_
  refine kr (eL aJ (q1 rfl)) rfl rfl rfl rfl ?_
  refine kr (cR bE rfl ax rfl (q0 rfl)) rfl rfl rfl rfl ?_
  refine kr (eL aJ (q1 rfl)) rfl rfl rfl rfl ?_
  refine kr (Dl (q1 rfl) (q1 rfl)) rfl rfl rfl rfl ?_
  refine rF (pT (q1 rfl) rfl (fun h=>by first|rfl|(rw [h];rfl))) rfl rfl rfl rfl ?_
  refine rF (ez (v:= .bool _) (q1 rfl)) rfl rfl rfl rfl ?_
  refine p4 (cR bE rfl ax rfl (q0 rfl)) rfl rfl rfl rfl ?_
  refine p4 (eL aJ (q1 rfl)) rfl rfl rfl rfl ?_
  refine p4 (cR bE rfl ax rfl (q0 rfl)) rfl rfl rfl rfl ?_
  refine p4 (eL aJ (q1 rfl)) rfl rfl rfl rfl ?_
  refine p4 (Dl (q1 rfl) (q1 rfl)) rfl rfl rfl rfl ?_
  refine p4 (ez (v:= .bool _) (q1 rfl)) rfl rfl rfl rfl ?_
  refine kr (cR bE rfl ax rfl (q0 rfl)) rfl rfl rfl rfl ?_
  refine kr (eL aJ (q1 rfl)) rfl rfl rfl rfl ?_
  refine kr (cR bE rfl ax rfl (q0 rfl)) rfl rfl rfl rfl ?_
  refine kr (eL aJ (q1 rfl)) rfl rfl rfl rfl ?_
  refine kr (vd (q1 rfl) (q1 rfl)) rfl rfl rfl rfl ?_
  refine p4 (pT (q1 rfl) rfl (fun h=>by first|rfl|(rw [h];rfl))) rfl rfl rfl rfl ?_
  refine rF (u9 (q1 rfl) rfl (fun h=>by first|rfl|(rw [h];rfl))) rfl rfl rfl rfl ?_
  refine xV (pT (q0 rfl) rfl (fun h=>by first|rfl|(rw [h];rfl))) rfl rfl ?_
  refine XN ?_
  refine az ?_
  refine au rfl (fun hcl=>?_) (fun hcl=>?_)
  ·refine cr ?_
   refine R0 ?_
   refine xV (gZ (v:= .bool _) (q0 rfl)) rfl rfl ?_
   refine XN ?_
   refine az ?_
   refine jV ?_
   refine fD ?_
   refine mA ?_
   refine fD ?_
   refine dH ?_
   exact bH (v:= .bool _) rfl rfl rfl fun w' hw=>⟨fK (by
    have hc:lU y e=true:=by
     unfold lU
     exact hcl
    symm
    rw [Me,cY]
    exact ⟨y,hy,hc⟩),hw.1⟩
  refine iS ?_
  refine iV ?_
  exact ay (seen.push eb) (by repeat (first|exact jw|exact ku|refine j7 rfl ?_|refine jO rfl ?_|refine jJ rfl ?_)) trivial (fun _ h=>h.tail) rfl (fun e' he' hc z hz=>by
   by_cases hs':seen.contains e'.born=true
   ·exact hinv e' he' hs' z hz
   have hbe:e'.born=eb:=by simp at hc hs';exact hc.resolve_left hs'
   have:=J6 hB he' he hbe
   subst this
   have:=LQ hz
   subst this
   unfold lU
   exact hcl) (JB es.toList seen ⟨_,_,eb⟩ he hs)
 cases hb
def Gt (a b:Ev):Int:=if fL a b=true then -1 else if fL b a=true then 1 else 0
open Go.Shelf Go.Lib Go.Sort in
theorem Qh (a b:Ev):ltOf Gt a b=fL a b:=by
 unfold ltOf Gt;cases h:fL a b with
 |true=>simp
 |false=>
  simp only [jy,lM];split<;>simp
attribute [local irreducible] fL
theorem JA (a b:Ev) (w:World):Calls Tryz.prog 179 #[.agg a.cells.toArray, .agg b.cells.toArray] w fun r w'=>r= .returned (.bool (fL a b))∧gz w w':=by
 have hlt:decide (yH a b<0)=fL a b:=by unfold fL;exact vL a.keys b.keys
 refine aS Tryz.func179 rfl Tryz.ntmps179 rfl ?_;iterate 2 refine G ?_
 refine cd (v:= .agg _) rfl rfl fun b2=>?_;refine cd (v:= .agg _) rfl rfl fun b3=>?_;iterate 7 refine G ?_
 refine gV (en UB (gr (q0 rfl) (q0 rfl))) (fun _ w _=>Fg a b w) ?_;iterate 5 refine G ?_
 exact bH (v:= .bool _) rfl rfl rfl fun w' hw=>⟨fK hlt,hw.1⟩
theorem Qg (a b:Ev) (w:World):Calls Tryz.prog 124 #[.agg a.cells.toArray, .agg b.cells.toArray] w fun r w'=>r= .returned (.int .i64 (Gt a b))∧gz w w':=by
 refine aS Tryz.func124 rfl Tryz.ntmps124 rfl ?_;iterate 2 refine G ?_
 refine cd (v:= .agg _) rfl rfl fun b2=>?_;refine cd (v:= .agg _) rfl rfl fun b3=>?_;iterate 9 refine G ?_
 refine gV (en Tryz.call179 (gr (q0 rfl) (q0 rfl))) (fun _ w _=>JA a b w) ?_;iterate 3 refine G ?_
 refine au rfl ?_ ?_<;>intro h1
 ·iterate 8 refine G ?_
  exact bH (v:= .int _ _) rfl rfl rfl fun w' hw=>⟨bP (by unfold Gt;rw [av h1]),hw.1⟩
 iterate 4 refine G ?_
 refine gV (en Tryz.call179 (gr (q0 rfl) (q0 rfl))) (fun _ w _=>JA b a w) ?_;iterate 3 refine G ?_
 refine au rfl ?_ ?_<;>intro h2
 ·iterate 8 refine G ?_
  exact bH (v:= .int _ _) rfl rfl rfl fun w' hw=>⟨bP (by unfold Gt;rw [ah (by rw [h1];decide),av h2]),hw.1⟩
 iterate 9 refine G ?_
 exact bH (v:= .int _ _) rfl rfl rfl fun w' hw=>⟨bP (by unfold Gt;rw [ah (by rw [h1];decide),ah (by rw [h2];decide)]),hw.1⟩
open Go.Shelf Go.Lib Go.Sort in
theorem PU {w0 w:World} {L:List E.Item} (hw:Mem w0 L w) {j c:Nat} {A:Option Addr} {xs:List Ev} (hk:L[j]?=some (ig A c xs)) (hn:xs.length≤1000000):
  Calls Tryz.prog 123 #[.slice A xs.length c, .func (.func 124) #[] #[]] w fun e w'=> ∃_:Unit,e= .returned (.tuple #[])∧Mem w0 (L.set j (ig A c (xs.mergeSort HE))) w':=by
 have hlt:(ltOf Gt)=fun x y=>lexLt x.keys y.keys:=by funext x y;rw [Qh];unfold fL;rfl
 have:=BA Gt 124 (by rw [hlt];exact xU Ev.keys 9 (fun _=>rfl)) (fun x y h1 h2=>by rw [hlt] at h1 h2;exact uX (mm rfl h1 h2)) Tryz.call124 Qg hw hk hn;rw [hlt] at this;exact this
theorem KI {xs l:List Ev} (h:xs.Perm l):xs.mergeSort HE=l.mergeSort HE:=by
 have hp: ∀l:List Ev,(l.mergeSort HE).Pairwise (fun a b=>HE a b=true):=fun l=>iz (rW (key:=Ev.keys) (n:=9) (fun _=>rfl)) (rX (key:=Ev.keys) (n:=9) (fun _=>rfl)) _;refine Bk (le:=fun a b=>HE a b=true) (fun a b _ _ h1 h2=>?_) (hp xs) (hp l) (((eT _ _).trans h).trans (eT _ _).symm);unfold HE at h1 h2;exact uX (mm rfl (by simpa using h2) (by simpa using h1))
def ai (cs:Array Value) (i:Nat):Int:=match cs[i]? with|some (.int _ n)=>n|_=>0
def dec (v:Value):Ev:=match v with| .agg cs=>⟨ai cs 0,ai cs 1,ai cs 2,ai cs 3,ai cs 4,ai cs 5,ai cs 6,ai cs 7,ai cs 8⟩|_=>default
theorem Ef (x:Ev):dec (.agg x.cells.toArray)=x:=rfl
def CF (e:MapEntry):Ev:=dec e.val
def wM (vs:List MapEntry):Array Nat:=(vs.map (·.born)).toArray
theorem CW (vs:List MapEntry) (e:MapEntry):(wM vs).push e.born=wM (vs++[e]):=by unfold wM;simp
theorem Ek {vs:List MapEntry} {n:Nat}:(wM vs).contains n=true↔ ∃e∈vs,e.born=n:=by unfold wM;simp
theorem O3 {w:World} {b o m clock:Nat} {v:Value} {es:Array MapEntry} {l:List Ev} (h:Dp w b o v m es clock l) {vs:List MapEntry} (hm: ∀e∈vs,e∈es.toList) (hn:vs.Nodup) (hall: ∀e∈es.toList,(wM vs).contains e.born=true):(vs.map CF).Perm l:=by
 have hne:es.toList.Nodup:=h.born.Ka.imp fun {a b} hab e=>by subst e;omega
 have hp:vs.Perm es.toList:=(VY hn hne).2 fun e=>⟨hm e,fun he=>by
  obtain ⟨x,hx,hb⟩:=Ek.1 (hall e he);have:=J6 h.born (hm x hx) he hb;subst this;exact hx⟩
 have h2:=hp.map CF;have h3:es.toList.map CF=l:=by
  have h4:=aT (List.map fun p:Value×Value=>dec p.2) h.eO;rw [fO,fO] at h4;have h5:((fun p:Value×Value=>dec p.2)∘fun x:Ev=>(Value.agg (Lr x).toArray,Value.agg x.cells.toArray))=id:=by funext x;exact Ef x
  rw [h5,List.map_id] at h4;exact h4
 rw [h3] at h2;exact h2
theorem DW {α:Type}: ∀{xs ys:List α},xs.Nodup→(∀x∈xs,x∈ys)→xs.length≤ys.length
 |[],ys,_,_=>aU _
 |x::xs,ys,hn,hs=>by
  obtain ⟨h1,h2⟩:=xM.1 hn;obtain ⟨a,b,rfl⟩:=List.append_of_mem (hs x (bF ..));have:=DW (xs:=xs) (ys:=a++b) h2 fun y hy=>by
   have h3:=hs y (aB _ hy);rcases aQ.1 h3 with h3|h3
   ·exact aQ.2 (.inl h3)
   rcases bU.1 h3 with rfl|h3
   ·exact absurd hy h1
   exact aQ.2 (.inr h3)
  simp only [bV,bB] at this⊢;omega
theorem P0 {b o m clock:Nat} {v:Value} {es:Array MapEntry} {l:List Ev} (w:World) (h:Dp w b o v m es clock l) (hp: ∀x∈l,0≤x.device∧1≤x.seq) (hn:l.length≤10000):
  Calls Tryz.prog 67 #[.pointer (some ⟨b,o,none⟩), .slice none 0 0] w fun r w'=> ∃x:{x:Option Addr×Nat//l=[]→x=(none,0)},r= .returned (.slice x.1.1 l.length x.1.2)∧Mem w [ig x.1.1 x.1.2 (l.mergeSort HE)] w':=by
 have hlt:=h.lt;have hrow:=h.row;have hmap:=h.map;have hB:=h.born;have hmlt:m<w.heap.size:=(cm.1 hmap).1;have hmm: ∀(L:List E.Item) w',Mem w L w'→w'.heap[m]?=some (.map es clock):=fun L w' hw=>(hw.1.block m hmlt).trans hmap;have hel:es.toList.length=l.length:=by have:=aT List.length h.eO;simpa using this
 refine aS Tryz.func67 rfl Tryz.ntmps67 rfl ?_;iterate 9 refine G ?_
 refine bO (gj oO (q0 rfl)) ?_;iterate 2 refine G ?_
 refine au rfl ?_ ?_<;>intro hnil
 ·cases hnil
 iterate 14 refine G ?_
 refine bZ (Fe iu (hmm _) rfl rfl fun r=>?_);iterate 3 refine G ?_
 refine ct [5,6,7,8,16,17,18,19,20,21,22,23,24,25,26,27,28,29,30,31,32,33,34,35,36,37,38] (fun q:List MapEntry×Option Addr×Nat=>[(5, .slice q.2.1 (q.1.map CF).length q.2.2)]) (fun q=>[ig q.2.1 q.2.2 (q.1.map CF),Nl r m clock (wM q.1) clock]) (fun q=>(∀e∈q.1,e∈es.toList)∧q.1.Nodup∧(q.1=[]→q.2=(none,0))) (fun q=>(es.toList.filter fun x=>!(wM q.1).contains x.born).length) ([],none,0) ⟨rfl,trivial⟩ (fun _ h=>h.eX _ _ _ rfl) rfl ⟨fun _ h=>(by cases h),jY,fun _=>rfl⟩ ?_;rintro ⟨vs,A,cp⟩ g ⟨hin,hnd,hnil0⟩;simp only at hin hnd hnil0;iterate 2 refine G ?_
 refine bZ (IB 1 (hmm _) hB rfl rfl (bq _) rfl (fun hall=>?_) (fun x he hs=>?_))
 ·iterate 4 refine G ?_
  refine au rfl ?_ ?_<;>intro hb
  ·cases hb
  have hperm:=O3 h hin hnd hall;have hxl:(vs.map CF).length=l.length:=hperm.length_eq;iterate 8 refine G ?_
  refine bZ (bR (en UG (gr (q0 rfl) (q0 rfl))) (fun w hw=>PU hw (j:=0) rfl (by rw [hxl];omega)) rfl (fun _=>rfl) fun u=>?_);iterate 9 refine G ?_
  exact bH (v:= .slice _ _ _) rfl rfl rfl fun w' hw=>⟨⟨(A,cp),fun hl=>hnil0 (by have h0:=hxl;rw [hl,aD] at h0;exact bW h0)⟩,aT (fun n=>Ending.returned (.slice A n cp)) hxl,by rw [←KI hperm];exact hw.pick [0] (by decide)⟩
 obtain ⟨y,hy,hk,hv⟩:=h.one he;obtain ⟨hd0,hs0⟩:=hp y hy;have hmx:(vs++[x]).map CF=vs.map CF++[y]:=by simp [CF,hv,Ef]
 have hnew:x∉vs:=fun hx=>by
  have:=Ek.2 ⟨x,hx,rfl⟩;rw [hs] at this;cases this
 have hnd2:(vs++[x]).Nodup:=jR.2 ⟨hnd,(by simp),fun a ha b hb e=>hnew (by rw [←bu.1 hb,←e];exact ha)⟩;have hvl:vs.length≤10000:=by
  have:=DW hnd hin;omega
 iterate 4 refine G ?_
 refine au rfl ?_ ?_<;>intro hb
 ·iterate 5 refine G ?_
  refine bO (Fk 1 (hmm _) hB he (q0 rfl) rfl) ?_;rw [hk,hv];iterate 2 refine G ?_
  refine cx r6 rfl fun b6=>?_;refine cx cV rfl fun b7=>?_;refine fI (v:= .agg _) rfl rfl Tryz.sizeOf132 ?_;refine fI (v:= .agg _) rfl rfl bT ?_;iterate 17 refine G ?_
  refine au rfl ?_ ?_<;>intro hd
  ·exact absurd hd (by simp;omega)
  iterate 10 refine G ?_
  refine au rfl ?_ ?_<;>intro hq
  ·iterate 3 refine G ?_
   refine lq (k:=9) (i:=Tryz.t58) 2 (y) cE (by kernel_rfl) rfl rfl rfl rfl bT cV rfl rfl rfl rfl rfl rfl ⟨by simp only [bV,aD,bB,eU];omega,by decide⟩ rfl rfl fun B A2 c2=>?_;iterate 3 refine G ?_
   exact ay (vs++[x],A2,c2) eE ⟨by show _=Value.slice A2 ((vs++[x]).map CF).length c2;rw [hmx];rfl,trivial⟩ (fun w hw=>by show Mem _ [ig A2 c2 ((vs++[x]).map CF),Nl r m clock (wM (vs++[x])) clock] _;rw [hmx,←CW];exact hw.tail.tail) rfl ⟨fun e h=>by
    rcases aQ.1 h with h|h
    ·exact hin e h
    rw [bu.1 h];exact he,hnd2,fun h0=>by simp at h0⟩ (by rw [←CW];exact JB es.toList (wM vs) x he hs)
  exact absurd hq (by simp;omega)
 cases hb
end Go.Proofs.Gos
namespace Go.Proofs.E
open Go Go.RowKit
section
variable {c:Cx} {w0:World} {L:List Item} {f:Fr} {ty t el:TypeId} {g:Bool} {x:Operand}
theorem CN {A:Option Addr} {t2:TypeId} (ht:c.P.underlying t=some (.pointer el)) (hx:gw g f x (.pointer A)):iO g c w0 L f (.binOp .neq t x (.const (.pointer none)) t2) ty (.bool (!A.isNone)):=fun e _ _ _ _ w _=>by
 have hq: ∀d,(Op.equalIn (d+1) t (.pointer A) (.pointer none)).run c.P w= .ok A.isNone w:=fun d=>by
  cases A<;>simp [Op.equalIn,run_underlying ht]
 have hq:(Op.equal t (.pointer A) (.pointer none)).run c.P w= .ok A.isNone w:=hq 9999;simp [execOp,hx e,ru,eqGuard,binOp,hq,Result.andThen]
theorem Fj {i:Nat} {fs:Array Field} {fl:Field} {cs:Array Value} {v:Value} (ht:c.P.underlying t=some (.struct fs)) (hf:fs[i]?=some fl) (ha: ∀w,(isAgg fl.type).run c.P w= .ok false w) (hx:gw g f x (.agg cs)) (hv:cs[fl.offset]?=some v):
  iO g c w0 L f (.field t x i) ty v:=fun e _ _ _ _ w _=>by
 simp [execOp,hx e,Instr.field,run_underlying ht,hf,asAgg,part,ha,hv,Result.andThen]
theorem P6 {fn:Func} {a b o n:Nat} {vs:List Value} (hr:fn.results= #[.cell a t]) (hv:f a= .pointer (some ⟨b,o,none⟩)) (ht: ∀w,(isAgg t).run c.P w= .ok true w) (hs: ∀w,(sizeOf t).run c.P w= .ok n w)
  (hc:true=true→ ∀w,Mem w0 L w→ ∀j u,vs[j]?=some u→w.cell? ⟨b,o+j,none⟩=some u:=by first|exact r2 0 rfl|exact r2 1 rfl|exact r2 2 rfl|exact r2 3 rfl|exact r2 4 rfl|exact r2 5 rfl|exact r2 6 rfl|exact r2 7 rfl|exact r2 8 rfl|exact r2 9 rfl|exact r2 10 rfl|exact r2 11 rfl|exact r2 12 rfl|exact r2 13 rfl) (hl:vs.length=n:=by rfl):vt c.P c.N fn w0 L f (.agg vs.toArray):=fun w ds ac hw ha=>by
 have h1:=ha.get a;have h2:=km (c:=c) (f:=f) (x:= .tmp a) (ty:=0) (g:=true) (L:=L) (w0:=w0) ht hs (fun _=>hv) hc hl rfl none "" #[] none w hw;simp only [execOp,show ev f (.tmp a)= .pointer (some ⟨b,o,none⟩) from hv,Instr.loadAt,Instr.sureAddr,Sem.run_bind,Sem.run_pure,Result.andThen_ok] at h2;have hlv:(loadVar t ⟨b,o,none⟩).run c.P w= .ok (.agg vs.toArray) w:=by
  cases hx:(loadVar t ⟨b,o,none⟩).run c.P w with
  |ok a' w'=>
   rw [hx] at h2;simp only [Result.andThen] at h2;injection h2 with h4 h5;injection h4 with h4;rw [h4,h5]
  |halt a' w'=>rw [hx] at h2;cases h2
 rw [cu,hv] at h1;simp [results,hr,h1,asAddr,hlv,Result.andThen]
end
end Go.Proofs.E
namespace Go.Proofs.E
open Go Go.RowKit
def Pb (l:Array Bool) (j:Nat):Prop:=l.getD j false=true
theorem Qy {l:Array Bool} {i:Nat} (h:i<l.size):Pb (l.setIfInBounds i true)=fun j=>Pb l j∨j=i:=by
 funext j;apply propext;unfold Pb;rw [cu,cu,Array.getElem?_setIfInBounds];by_cases e:i=j
 ·subst e;simp [h]
 rw [ah e];exact ⟨.inl,fun h=>h.resolve_right fun e2=>e e2.symm⟩
theorem Ck {l:Array Bool} {i:Nat} (h:i<l.size):l.getD i true=false↔ ¬Pb l i:=by
 unfold Pb;rw [cu,cu,mu h];simp
theorem Lk {l:Array Bool} {i:Nat} (h:i<l.size) (hn: ¬Pb l i) {n:Nat} (hc:l.toList.count false≤n+1):(l.setIfInBounds i true).toList.count false≤n:=by
 have h1:l[i]=false:=by
  have:=(Ck h).2 hn
  rwa [cu,mu h] at this
 rw [Array.toList_setIfInBounds,List.count_set (by simpa using h),av (by rw [HP,h1];rfl),ah (by decide)];omega
theorem Qz {l:Array Bool} (hc:l.toList.count false≤0) {i:Nat} (h:i<l.size):Pb l i:=by
 refine dZ fun hn=>?_;have h1:l[i]=false:=by
  have:=(Ck h).2 hn
  rwa [cu,mu h] at this
 have:=List.count_eq_zero.1 (Nat.le_zero.1 hc);exact this (by rw [←h1];exact HO.2 (Array.getElem_mem h))
theorem Nu {n j:Nat}: ¬Pb (Array.replicate n false) j:=fun h=>by
 unfold Pb at h;rw [cu,rO] at h;split at h<;>cases h
def vO (ops:List Oper):Bool:=(List.range ops.length).all fun i=>match ops[i]? with
 |some o=>o.after.toList.all fun e=>!Region.binds .any e||decide (e.on<i)
 |none=>true
theorem CJ {ops:List Oper} (h:vO ops=true) {i:Nat} {o:Oper} (ho:ops[i]?=some o) {e:Edge} (he:e∈o.after) (hb:Region.binds .any e=true):e.on<i:=by
 have hi:i<ops.length:=(aa.1 ho).1;have h1:=eF.1 h i (dL.2 hi);rw [ho] at h1;have h2:=eF.1 h1 e (HO.2 he);rw [hb] at h2;simpa using h2
section
variable {c:Cx} {PQ:PJ} {w0:World} {L:List Item} {f:Fr} {ops:List Oper}
theorem uz.V3 {i:Nat} {o:Oper} {K:List Item→Fr→Prop} (hi:ops[i]?=some o) (h:uz c w0 L f o K) {a:Act} (ha:mr c.N (marks L) a f):Dq c ops w0 i (fun L' a'=> ∃f',mr c.N (marks L') a' f'∧K L' f') L a:=by
 unfold Dq;rw [show ops.toArray[i]?=some o by simpa using hi];intro w hw;rw [av (by simp [Region.wanted,h.guard]),ha.eval];have h2:=h.run w hw;generalize (execOp (ev f) o).run c.P w=r at h2;cases r with
 |halt x w'=>exact False.elim h2
 |ok x w'=>
  cases x with
  |value v=>obtain ⟨L',hm,hk,hn⟩:=h2;exact ⟨L',hm,_,hk▸ha.s5 rfl h.dst v,hn⟩
  |skip=>obtain ⟨L',hm,hk,hn⟩:=h2;exact ⟨L',hm,_,hk▸ha.s5 rfl h.dst undef,hn⟩
  |enter k args=>
   obtain ⟨e,hc⟩:=h2;refine ⟨e,hc.mono ?_⟩;rintro e w'' ⟨v,L',rfl,hm,hk,hn⟩;exact ⟨v,L',rfl,hm,_,hk▸ha.s5 rfl h.dst v,hn⟩
  |_=>exact False.elim h2
theorem JE (J:(Nat→Prop)→List Item→Fr→Prop) {Q:Exit→Act→World→Prop} (hE:vO ops=true) (hnd: ∀(j:Nat) (o:Oper),ops.toArray[j]?=some o→ ∀x,o.op≠ .defer x)
  (hs: ∀S L f i o,J S L f→ops[i]?=some o→ ¬S i→(∀e∈o.after,Region.binds .any e=true→S e.on)→uz c w0 L f o fun L' f'=>J (fun j=>S j∨j=i) L' f')
  (hq: ∀S L f a w,(∀j,j<ops.length→S j)→J S L f→mr c.N (marks L) a f→Mem w0 L w→Q .normal a w):
  ∀(fuel:Nat) (l:Array Bool) (L:List Item) (f:Fr) (a:Act) (w:World),l.size=ops.length→l.toList.count false≤fuel→J (Pb l) L f→mr c.N (marks L) a f→Mem w0 L w→wpAnyIn (FW c.ro) 0 c.P .any ops.toArray Q fuel l a w
 |0,l,L,f,a,w,hl,hc,hJ,ha,hw=>by
  have hall: ∀j,j<ops.length→Pb l j:=fun j hj=>Qz hc (by rw [hl];exact hj);refine ⟨List.eq_nil_iff_forall_not_mem.2 fun i hi=>?_,hq _ L f a w hall hJ ha hw⟩;obtain ⟨hu,o,ho,_⟩:=mem_ready.1 hi;have hil:i<ops.length:=by
   have ho:ops[i]?=some o:=by simpa using ho
   exact (aa.1 ho).1
  exact (Ck (by rw [hl];exact hil)).1 hu (hall i hil)
 |fuel+1,l,L,f,a,w,hl,hc,hJ,ha,hw=>by
  refine ⟨fun hr=>hq _ L f a w (fun j=>?_) hJ ha hw,fun i hi=>?_⟩
  ·induction j using Nat.strongRecOn with
   |_ j ih=>
    intro hj;refine dZ fun hn=>?_;have ho:ops[j]?=some ops[j]:=aj hj;have:j∈Region.ready .any ops.toArray l:=mem_ready.2 ⟨(Ck (by rw [hl];exact hj)).2 hn,ops[j],by simp [hj],fun e he hb=>by
     have hlt:=CJ hE ho he hb;exact ih e.on hlt (by omega)⟩
    rw [hr] at this;cases this
  obtain ⟨hu,o,ho,he⟩:=mem_ready.1 hi;have ho:ops[i]?=some o:=by simpa using ho
  have hil:i<ops.length:=(aa.1 ho).1;have hils:i<l.size:=by rw [hl];exact hil
  have hns:=(Ck hils).1 hu;refine Dq.wpOpIn hnd hw (fun L' a' w' hw' h3=>?_) ((hs _ L f i o hJ ho hns he).V3 ho ha);obtain ⟨f',ha',hJ'⟩:=h3;exact JE J hE hnd hs hq fuel (l.setIfInBounds i true) L' f' a' w' (by simpa using hl) (Lk hils hns hc) (by rw [Qy hils];exact hJ') ha' hw'
theorem VU (J:(Nat→Prop)→List Item→Fr→Prop) {id:Nat} (hm:c.P.follows .mixedOrders=true) (hB:(vO ops&&ops.all (fun o=>!dI o.op))=true) (h0: ∀S:Nat→Prop,(∀j,¬S j)→J S L f)
  (hs: ∀S L f i o,J S L f→ops[i]?=some o→ ¬S i→(∀e∈o.after,Region.binds .any e=true→S e.on)→uz c w0 L f o fun L' f'=>J (fun j=>S j∨j=i) L' f')
  (hq: ∀S L f,(∀j,j<ops.length→S j)→J S L f→PQ .normal w0 L f):H c (.region id ops.toArray true) PQ w0 L f:=by
 intro a w ha hw;rw [bQ] at hB;have hnd: ∀(j:Nat) (o:Oper),ops.toArray[j]?=some o→ ∀x,o.op≠ .defer x:=fun j o hj=>kR (by
  have hmem:o∈ops:=an (by simpa using hj);simpa using eF.1 hB.2 o hmem)
 refine wpIn_region_any hm ?_;exact JE J hB.1 hnd hs (fun S L f a w hS hJ ha hw=>⟨w0,L,f,ha,hw,hq S L f hS hJ⟩) _ _ L f a _ (by simp) (by simp) (h0 _ fun j=>Nu) ha hw.drew
def xu (ops:List Oper) (j k:Nat):Bool:=match ops[j]? with
 |some o=>o.after.toList.any fun e=>Region.binds .any e&&Nat.beq e.on k
 |none=>false
theorem Hv {j k:Nat} {o:Oper} (h:xu ops j k=true) (ho:ops[j]?=some o): ∃e∈o.after,Region.binds .any e=true∧e.on=k:=by
 unfold xu at h;rw [ho] at h;obtain ⟨e,he,h1⟩:=cY.1 h;rw [bQ] at h1;exact ⟨e,HO.1 he,h1.1,j9 h1.2⟩
def CR (ops:List Oper) (W:List Nat):Bool:=(ops.filterMap (·.dst)).all (fun d=>W.elem d)&&(List.range ops.length).all fun i=>(List.range ops.length).all fun j=>match (ops.map (·.dst))[i]?,(ops.map (·.dst))[j]? with
 |some (some d),some (some e)=>Nat.beq i j||!Nat.beq d e
 |_,_=>true
theorem LK {W:List Nat} (h:CR ops W=true) {i d:Nat} {o:Oper} (ho:ops[i]?=some o) (hd:o.dst=some d):W.elem d=true:=by
 unfold CR at h;rw [bQ] at h;exact eF.1 h.1 d (List.mem_filterMap.2 ⟨o,an ho,hd⟩)
theorem LJ {W:List Nat} (h:CR ops W=true) {i j d e:Nat} {o o':Oper} (ho:ops[i]?=some o) (ho':ops[j]?=some o') (hd:o.dst=some d) (he:o'.dst=some e) (hij:i≠j):d≠e:=by
 unfold CR at h;rw [bQ] at h;have h1:=eF.1 (eF.1 h.2 i (dL.2 (aa.1 ho).1)) j (dL.2 (aa.1 ho').1);rw [bf,bf,ho,ho'] at h1;simp only [fU,hd,he] at h1;intro e2;subst e2;simp [hij] at h1
end
end Go.Proofs.E
namespace Go.Proofs.E
open Go Go.RowKit
theorem I0 {c:Cx} {PQ:PJ} {w0:World} {L:List Item} {ops:List Oper} {f0:Fr} (W:List Nat) (P:Nat→Value→Prop) (M:(Nat→Prop)→List Item→Fr→Prop) {id:Nat} (hm:c.P.follows .mixedOrders=true) (hB:(CR ops W&&(vO ops&&ops.all (fun o=>!dI o.op)))=true)
  (h0: ∀S:Nat→Prop,(∀j,¬S j)→M S L f0)
  (hs: ∀(S:Nat→Prop) L f i o,oy W f f0→(∀j o' d,ops[j]?=some o'→S j→o'.dst=some d→P d (f d))→M S L f→ops[i]?=some o→ ¬S i→(∀k,xu ops i k=true→S k)→(∀j k,xu ops j k=true→S j→S k)→
   uz c w0 L f o fun L' f'=>M (fun j=>S j∨j=i) L' f'∧ ∃v,f'=s5 f o.dst v∧ ∀d,o.dst=some d→P d v)
  (hq: ∀(S:Nat→Prop) L f,(∀j,j<ops.length→S j)→oy W f f0→M S L f→PQ .normal w0 L f):H c (.region id ops.toArray true) PQ w0 L f0:=by
 rw [bQ] at hB;refine VU (fun S L f=>oy W f f0∧(∀j o' d,ops[j]?=some o'→S j→o'.dst=some d→P d (f d))∧M S L f∧(∀j k,xu ops j k=true→S j→S k)) hm hB.2 (fun S h=>⟨jw,fun j _ _ _ hj=>absurd hj (h j),h0 S h,fun j _ _ hj=>absurd hj (h j)⟩) ?_ (fun S L f hS h=>hq S L f hS h.1 h.2.2.1);intro S L f i o h ho hns hdep;obtain ⟨hA,hF,hM,hC⟩:=h;have hw: ∀k,xu ops i k=true→S k:=fun k hk=>by
  obtain ⟨e,he,hb,rfl⟩:=Hv hk ho;exact hdep e he hb
 obtain ⟨h1,h2,h3,h4⟩:=hs S L f i o hA hF hM ho hns hw hC;refine ⟨h1,h2,h3,fun w hw2=>?_⟩;have h5:=h4 w hw2;have key: ∀L' f',(M (fun j=>S j∨j=i) L' f'∧ ∃v,f'=s5 f o.dst v∧ ∀d,o.dst=some d→P d v)→(oy W f' f0∧(∀j o' d,ops[j]?=some o'→(S j∨j=i)→o'.dst=some d→P d (f' d))∧M (fun j=>S j∨j=i) L' f'∧(∀j k,xu ops j k=true→(S j∨j=i)→(S k∨k=i))):=by
  rintro L' f' ⟨hM',v,rfl,hP⟩;refine ⟨?_,?_,hM',?_⟩
  ·cases hd:o.dst with
   |none=>exact hA
   |some d=>exact j7 (LK hB.1 ho hd) hA
  ·intro j o' d' hj hS hd';by_cases hji:j=i
   ·subst hji;rw [ho] at hj;cases hj;rw [hd'];show P d' (kX f d' v d');rw [show kX f d' v d'=v by simp [kX]];exact hP d' hd'
   have h6:=hF j o' d' hj (hS.resolve_right hji) hd';cases hd:o.dst with
   |none=>exact h6
   |some d=>
    have hne:=LJ hB.1 hj ho hd' hd hji;show P d' (kX f d v d');rw [show kX f d v d'=f d' by
     have:Nat.beq d' d=false:=by cases hb:Nat.beq d' d with
      |false=>rfl
      |true=>exact absurd (j9 hb) hne
     simp [kX,this]]
    exact h6
  intro j k hjk hS;rcases hS with hS|rfl
  ·exact .inl (hC j k hjk hS)
  exact .inl (hw k hjk)
 unfold VV at h5⊢;split at h5
 ·obtain ⟨L',a1,a2,a3⟩:=h5;exact ⟨L',a1,a2,key _ _ a3⟩
 ·obtain ⟨L',a1,a2,a3⟩:=h5;exact ⟨L',a1,a2,key _ _ a3⟩
 ·exact ⟨h5.1,h5.2.mono fun e w'' ⟨v,L',b1,b2,b3,b4⟩=>⟨v,L',b1,b2,b3,key _ _ b4⟩⟩
 exact h5.elim
theorem ox {α:Type} (R:List α) {X:List α} {j:Nat} {x:α} (h:X[j]?=some x):(R++X)[R.length+j]?=some x:=by rw [cy (by omega),Nat.add_sub_cancel_left];exact h
theorem tF {α:Type} (R X:List α) (j:Nat) (y:α):(R++X).set (R.length+j) y=R++X.set j y:=by rw [ib _ _ (by omega),Nat.add_sub_cancel_left]
structure lZ (it:Item) (φ:World→Prop):Prop where
 due:it.due=[]
 ok: ∀w,it.A w→φ w
theorem lZ.dD {R:List Item} {it:Item} {φ:World→Prop} (h:lZ it φ) (hR:it∈R):lZ (dD R) φ:=⟨rfl,fun w hA=>h.ok w (hA.1 it hR)⟩
theorem lZ.two {it:Item} {φ ψ:World→Prop} (h:lZ it φ) (h2:lZ it ψ):lZ it fun w=>φ w∧ψ w:=⟨h.due,fun w hA=>⟨h.ok w hA,h2.ok w hA⟩⟩
theorem lZ.row {α:Type} {e:TypeId} {k:Nat} {enc:α→List Value} {A:Option Addr} {c:Nat} {xs:List α} (he: ∀x,(enc x).length=k) (hl:xs.length≤9223372036854775807):lZ (dR e k enc A c xs) fun w=>gJ w k enc A xs.length xs:=
 ⟨rfl,fun w hA=>by
  have hA:w.ownsRow 0 e k (.slice A xs.length c) xs.length (xs.flatMap enc):=hA;refine ⟨rfl,hl,fun hn=>?_⟩;rcases hA.2 with ⟨_,h0⟩|⟨g,cap,cur,hv,h1,h2,h3,h4,h5,h6⟩
  ·omega
  simp only [Value.slice.injEq] at hv;obtain ⟨rfl,_,rfl⟩:=hv;refine ⟨g,0,rfl,(cm.1 h2).1,fun i x hx r u hu=>?_⟩;have:=hA.cells (g:=g) rfl (i*k+r) u (rk he xs i x hx r u hu);rw [tt rfl] at this;simpa using this⟩
def KR {α:Type} (R:List Item) (φ:α→World→Prop) (s:α):Prop:= ∃it∈R,lZ it (φ s)
theorem KR.more {α:Type} {R:List Item} {φ:α→World→Prop} {s:α} (h:KR R φ s) (it:Item):KR (it::R) φ s:=by
 obtain ⟨x,hx,hk⟩:=h;exact ⟨x,aB _ hx,hk⟩
structure CH {α:Type} (S:Nat→Prop) (ca st:Nat) (val:α→Value) (v:Value) (R:List Item) (φ:α→World→Prop) (start s:α):Prop where
 a: ¬S st→s=start
 b:S ca→ ∃z:α,v=val z∧KR R φ z
 c:S st→KR R φ s
section
variable {α:Type} {S:Nat→Prop} {ca st i:Nat} {val:α→Value} {v:Value} {R:List Item} {φ:α→World→Prop} {start s z:α}
theorem CH.begin (h: ∀j,¬S j):CH S ca st val v R φ start start:=⟨fun _=>rfl,fun h2=>absurd h2 (h ca),fun h2=>absurd h2 (h st)⟩
theorem CH.fC (h:CH S ca st val v R φ start s) (h1:ca≠i) (h2:st≠i):CH (fun j=>S j∨j=i) ca st val v R φ start s:=
 ⟨fun hn=>h.a fun hs=>hn (.inl hs),fun hs=>h.b (hs.resolve_right h1),fun hs=>h.c (hs.resolve_right h2)⟩
theorem CH.more (h:CH S ca st val v R φ start s) (it:Item):CH S ca st val v (it::R) φ start s:=
 ⟨h.a,fun hs=>by obtain ⟨z,hz,hk⟩:=h.b hs;exact ⟨z,hz,hk.more it⟩,fun hs=>(h.c hs).more it⟩
theorem CH.call (h:CH S ca st val v R φ start s) (h2:st≠ca) {it:Item} (hk:lZ it (φ z)):CH (fun j=>S j∨j=ca) ca st val (val z) (it::R) φ start s:=
 ⟨fun hn=>h.a fun hs=>hn (.inl hs),fun _=>⟨z,rfl,it,bF ..,hk⟩,fun hs=>(h.c (hs.resolve_right h2)).more it⟩
theorem CH.store (h:CH S ca st val v R φ start s) (hc:S ca): ∃z,v=val z∧CH (fun j=>S j∨j=st) ca st val v R φ start z:=by
 obtain ⟨z,hz,hk⟩:=h.b hc;exact ⟨z,hz,fun hn=>absurd (.inr rfl) hn,fun _=>⟨z,hz,hk⟩,fun _=>hk⟩
end
end Go.Proofs.E
