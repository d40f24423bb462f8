import Derived.Test.YtakhechhnnjbcaaGreatBC33
import Derived.Test.YtakhechhnnjbcaaGreatBC31
import Derived.Test.YtakhechhnnjbcaaGreatBC30
import Derived.Test.YtakhechhnnjbcaaGreatBC04
import Derived.Test.YtakhechhnnjbcaaGreatTc
set_option maxRecDepth 100000
set_option maxHeartbeats 8000000
set_option linter.unusedVariables false
set_option linter.unusedSimpArgs false
namespace Go.Proofs.Net
open Go.Proofs.Cus Go.Proofs.Rid Go.Proofs.Far
section
variable {f:Fl} {p:Pr} {E:List Ev}
theorem N3 (h:dS f p (gO f E) []=0) {c:iY} (hc:c∈iW f p (gO f E) []):Net.fW (oS c)=true:=by
 obtain ⟨r,hr,hrc⟩:=bJ.1 ((tq h).mem_iff.1 (cM (f:=(·.aP)) hc));obtain ⟨hr,ho⟩:=dT.1 hr;obtain ⟨B,i,u,b,v,c2,_,hrich,_,_,hb,_,hv,hc2,hcm,hcr,hcd,hct,hv0,hv1⟩:=O4 h hr (by simpa using ho);have:=yO h hc hcm (hrc.symm.trans hcr.symm);subst this;have hck:=(nH (C2 h).2.1).ok r hr;have htot:c.total=v:=by
  rw [hc2];unfold qf;rw [av (show qp [] b.aP<0 by unfold qp;simp),lp];omega
 have hrg:Rid.fW r=true:=by
  unfold dW at hck;split at hck
  ·cases hck
  rename_i h1;simpa using h1
 unfold Rid.fW vN at hrg;simp at hrg;unfold Net.fW oS;simp [hcr,hcd,htot];omega
theorem LA (h:dS f p (gO f E) []=0) (h40:E.length≤40):(iW f p (gO f E) []).length≤20:=by
 have h1:=(tq h).length_eq;simp only [aD] at h1;have h2:=da (fun r:Rd=>!r.open_) (gO f E);have h3:(gO f E).length≤(iw f (fH E)).length:=da ..;have h4:=Fu (f:=f) (fH E);have h5:(fH E).length=E.length:=kb _;omega
theorem xT (hc:Cons f.aH E) (h:dS f p (gO f E) []=0) {P:Py} (hP:zU f p E P): ∃c∈iW f p (gO f E) [],P=oS c:=by
 obtain ⟨l,h1,h2,c,h3,h4⟩:=hP;exact ⟨c,K1 hc h1 h h2 h3,h4⟩
theorem Bs (hc:Cons f.aH E) (h:dS f p (gO f E) []=0) {P Q:Py} (hP:zU f p E P) (hQ:zU f p E Q) (e:P.aP=Q.aP):P=Q:=by
 obtain ⟨c,h1,rfl⟩:=xT hc h hP;obtain ⟨d,h2,rfl⟩:=xT hc h hQ;rw [yO h h1 h2 e]
theorem Hu (hc:Cons f.aH E) (h:dS f p (gO f E) []=0) (h40:E.length≤40) {b:List Py} (hb: ∀x∈b,zU f p E x) (hn:(b.map (·.aP)).Nodup):b.length≤20:=by
 have h1: ∀r∈b.map (·.aP),r∈(iW f p (gO f E) []).map (·.aP):=fun r hr=>by
  obtain ⟨x,hx,rfl⟩:=bJ.1 hr;obtain ⟨c,hcm,rfl⟩:=xT hc h (hb x hx);exact bJ.2 ⟨c,hcm,rfl⟩
 have h2:=uD hn h1;have h3:=LA h h40;simp only [aD] at h2;omega
theorem Ot (hc:Cons f.aH E) (h:dS f p (gO f E) []=0) (h40:E.length≤40) {b:List Py} {d:List En} (hd:QD (zU f p E) b d):d.length≤20:=by
 have:=Hu hc h h40 (b:=d.map (·.jF)) (fun x hx=>by
  obtain ⟨q,hq,rfl⟩:=bJ.1 hx;exact hd.PL q hq) (by rw [fO];exact hd.nd)
 simpa using this
theorem DA (hc:Cons f.aH E) (h:dS f p (gO f E) []=0) (h40:E.length≤40): ∀(k:Nat) {q:QS},QD (zU f p E) q.1 q.2.1→(∀x∈q.1,zU f p E x)→(q.1.map (·.aP)).Nodup→q.2.2≤0→(jl q.2.1).length=k→jl (jB k q).2.1=[]∧(jB k q).2.2≤0
 |0,q,_,_,_,hl,hk=>⟨bW hk,hl⟩
 |k+1,q,hd,hb,hn,hl,hk=>by
  unfold jB;split
  ·rename_i hx;rw [K7 hx] at hk;cases hk
  rename_i i hi;obtain ⟨e,he,h0⟩:=DX hi;rw [getD_at he];obtain ⟨a1,a2⟩:=Mx hd he h0;have hme:=an he;have hte:=hd.PL e hme;have hbt: ∀x∈(AD q e.jF).1,zU f p E x:=fun x hx=>(a2 x hx).elim (hb x) fun hx=>hx▸hte;have hbn:((AD q e.jF).1.map (·.aP)).Nodup:=(Mw 0 q e.jF).b.nd hn;have hbl:=Hu hc h h40 hb hn;have hans:(nc q.1 e.jF).2=0:=by
   rcases DO q.1 e.jF with ⟨c1,_⟩|⟨_,_,x,hx,hxr,hxn⟩|⟨_,_,_,h4⟩
   ·exact c1
   ·exact absurd (Bs hc h (hb x hx) hte hxr) hxn
   rcases h4 with h4|h4
   ·rw [hd.U7 e hme] at h4;cases h4
   omega
  have htr:(AD q e.jF).2=(q.2.1.set i ⟨e.jF,1,e.tries+1⟩,q.2.2):=by
   rw [uH];simp only;rw [ah (by omega),ah (by omega),hans,Ep hd.nd he h0 0];rfl
  refine DA hc h h40 k a1 hbt hbn (by rw [htr];exact hl) ?_;rw [htr];show (jl (q.2.1.set i _)).length=k;have hcnt: ∀l:List En,(jl l).length=l.countP fun x=>decide (x.state=0):=fun l=>by unfold jl jC;rw [aD,List.countP_eq_length_filter]
  rw [hcnt] at hk⊢;have:=countP_set (fun x:En=>decide (x.state=0)) (⟨e.jF,1,e.tries+1⟩:En) he;simp [h0] at this;omega
theorem Rn (hc:Cons f.aH E) (h:dS f p (gO f E) []=0) (h40:E.length≤40) {b:List Py} {d:List En} (hd:QD (zU f p E) b d) {c:iY} (hcm:c∈iW f p (gO f E) []) (hT:zU f p E (oS c)):(∃q∈(AO d (oS c)).1,q.jF=oS c)∧ ∀q∈d,q∈(AO d (oS c)).1:=by
 have hl:=Ot hc h h40 hd;rw [vV,ah (by rw [N3 h hcm];decide)];cases hf:d.findIdx? (AY (oS c).aP) with
 |some i=>
  obtain ⟨g1,g2⟩:=zT hf;have hmi:=an g1;have hr:(d.getD i default).jF.aP=(oS c).aP:=by
   obtain ⟨hi,hb,_⟩:=mf.1 hf;rw [aq,aj hi];simpa [AY] using hb
  have he:=Bs hc h (hd.PL _ hmi) hT hr;simp only;rw [av he];exact ⟨⟨_,hmi,he⟩,fun _ h=>h⟩
 |none=>
  simp only;rw [ah (by omega)];exact ⟨⟨_,aQ.2 (.inr (bu.2 rfl)),rfl⟩,fun q hq=>aQ.2 (.inl hq)⟩
theorem CZ (hc:Cons f.aH E) (h:dS f p (gO f E) []=0) (h40:E.length≤40) (n:Nat) (i:Int) {b:List Py}: ∀(l:List iY) {d:List En},QD (zU f p E) b d→(∀c∈l,c∈iW f p (gO f E) []∧zU f p E (oS c))→
  (∀c∈l,rh n c.rider=i→ ∃q∈iR n i d l,q.jF=oS c)∧ ∀q∈d,q∈iR n i d l
 |[],_,_,_=>⟨fun c hc=>(by cases hc),fun _ h=>h⟩
 |c::l,d,hd,hl=>by
  obtain ⟨k1,k2⟩:=hl c (by simp);obtain ⟨a1,a2⟩:=Rn hc h h40 hd k1 k2;rw [iR];by_cases hi:rh n c.rider=i
  ·rw [av hi];obtain ⟨b1,b2⟩:=CZ hc h h40 n i l (OZ hd k2) fun x hx=>hl x (by simp [hx]);refine ⟨fun x hx hxi=>?_,fun q hq=>b2 q (a2 q hq)⟩;rcases bU.1 hx with rfl|hx
   ·obtain ⟨q,hq,hqp⟩:=a1;exact ⟨q,b2 q hq,hqp⟩
   exact b1 x hx hxi
  rw [ah hi];obtain ⟨b1,b2⟩:=CZ hc h h40 n i l hd fun x hx=>hl x (by simp [hx]);refine ⟨fun x hx hxi=>?_,b2⟩;rcases bU.1 hx with rfl|hx
  ·exact absurd hxi hi
  exact b1 x hx hxi
theorem T6 (hc:Cons f.aH E) (h:dS f p (gO f E) []=0) (h40:E.length≤40) {n:Nat} {i:Int} {bank:List Py} {x:SS} (hx1:x.eO.Nodup) (hx2: ∀e,e∈x.eO↔e∈E) (hl:x.lose≤0) (hd:QD (zU f p E) bank x.gm) (hb: ∀b∈bank,zU f p E b) (hn:(bank.map (·.aP)).Nodup):
  jl (tN f p n i bank x).2.1.gm=[]∧(tN f p n i bank x).2.1.lose≤0∧(tN f p n i bank x).2.1.eO=x.eO∧ ∀c∈iW f p (gO f E) [],rh n c.rider=i→ ∃q∈(tN f p n i bank x).2.1.gm,q.jF=oS c:=by
 have hfin:=N0 hc hx1 hx2;unfold tN;rw [hfin,ah (by rw [h];decide)];have hT: ∀c∈iW f p (gO f E) [],c∈iW f p (gO f E) []∧zU f p E (oS c):=fun c hcm=>⟨hcm,E,fun _ h=>h,h,c,hcm,rfl⟩;obtain ⟨a1,_⟩:=CZ hc h h40 n i _ hd hT;have hq:=Bd n i _ hd fun c hcm=>(hT c hcm).2;unfold Ra;simp only;obtain ⟨b1,b2⟩:=DA hc h h40 _ (q:=(bank,iR n i x.gm (iW f p (gO f E) []),x.lose)) hq hb hn hl rfl;refine ⟨b1,b2,trivial,fun c hcm hci=>?_⟩;obtain ⟨q,hqm,hqp⟩:=a1 c hcm hci;have hm:q.jF∈(jB (jl (iR n i x.gm (iW f p (gO f E) []))).length (bank,iR n i x.gm (iW f p (gO f E) []),x.lose)).2.1.map (·.jF):=by
  rw [zh];exact cM hqm
 obtain ⟨q2,hq2,he⟩:=bJ.1 hm;exact ⟨q2,hq2,he.trans hqp⟩
end
end Go.Proofs.Net
namespace Go.Proofs.Net
open Go.Proofs.Cus Go.Proofs.Rid Go.Proofs.Far
section
variable {f:Fl} {p:Pr} {E:List Ev} {s:NS}
theorem wT: ∀(d:List k7) {s:NS},NE d→OI f p E s→E.length<512→OI f p E (runN f p s d)∧(Pk s E→Pk (runN f p s d) E)
 |[],_,_,h,_=>⟨h,id⟩
 |x::d,s,hn,h,h5=>by
  obtain ⟨a1,a2⟩:=St (p:=p) h h5 (x:=x) fun hg=>hn x (by simp) hg.1;obtain ⟨b1,b2⟩:=wT d (s:=(mP f p s x).1) (fun y hy=>hn y (by simp [hy])) a1 h5;exact ⟨b1,fun hc=>b2 (a2 hc)⟩
theorem VJ {t:NS} (x:k7) (h:(t.bank.map (·.aP)).Nodup):((mP f p t x).1.bank.map (·.aP)).Nodup:=by
 unfold mP;split
 ·exact h
 split
 ·exact h
 unfold Da;split
 ·unfold N8;split<;>exact h
 split
 ·show ((tN f p _ _ t.bank _).1.map (·.aP)).Nodup;unfold tN;split
  ·exact h
  exact (uI _ 0 (t.bank,_,_)).1.nd h
 split
 ·split<;>exact h
 split
 ·exact h
 unfold wb;split
 ·exact h
 split
 ·exact h
 split<;>exact h
theorem EL (f:Fl) (p:Pr) (s:NS) (a b:List k7):runN f p s (a++b)=runN f p (runN f p s a) b:=by unfold runN;rw [df]
theorem JH {n a:Nat} (h:a<n):hasB n (a:Int)=true:=by simp [hasB,h]
theorem Mv {n a b:Nat} {k:Int} (hb:b<n) (hab:a≠b):zg n (pC k a b)=0:=by
 have h1: ¬((pC k a b).a=(pC k a b).b):=by show ¬((a:Int)=b);omega
 unfold zg;rw [ah (by show ¬hasB n (b:Int)=false;rw [JH hb];decide),ah h1]
theorem JX (s:NS) {a b:Nat} {k:Int} (hk:1≤k∧k≤6) (ha:a<s.gh.length):mP f p s (pC k a b)=Da f p s (pC k a b) a:=by
 unfold mP;rw [ah (by show ¬(k<1∨6<k);omega),ah (by show ¬hasB s.gh.length (a:Int)=false;rw [JH ha];decide)];rfl
theorem VE {a b:Nat} (ha:a<s.gh.length) (hb:b<s.gh.length) (hab:a≠b):(mP f p s (pC 3 a b)).1=⟨s.gh,uy s.apart a b false,s.bank⟩:=by
 rw [JX s (by decide) ha];unfold Da;rw [ah (by show ¬(3:Int)=1;decide),ah (by show ¬(3:Int)=5;decide),ah (by show ¬(3:Int)=6;decide),Mv hb hab,ah (by decide)];rfl
theorem VF {a b:Nat} (ha:a<s.gh.length) (hb:b<s.gh.length) (hab:a≠b) (h:AP s.apart a b=false):(mP f p s (pC 4 a b)).1=v8 s a {s.gh.getD a default with eO:=(fq f.aH (s.gh.getD a default).eO (fH (s.gh.getD b default).eO)).1}:=by
 rw [JX s (by decide) ha];unfold Da;rw [ah (by show ¬(4:Int)=1;decide),ah (by show ¬(4:Int)=5;decide),ah (by show ¬(4:Int)=6;decide),Mv hb hab,ah (by decide)];show (wb f s 4 a b).1=_;unfold wb;rw [ah (by decide),ah (by decide),ah (by rw [h];decide)]
theorem VG {a:Nat} (ha:a<s.gh.length):(mP f p s (pC 6 a 0)).1=v8 s a {s.gh.getD a default with lose:=0}:=by
 rw [JX s (by decide) ha];unfold Da;rw [ah (by show ¬(6:Int)=1;decide),ah (by show ¬(6:Int)=5;decide),av (by rfl),ah (by show ¬((0:Int)<0∨512<(0:Int));decide)];rfl
theorem VH {a:Nat} (ha:a<s.gh.length):(mP f p s (pC 5 a 0)).1=(OH f p s a (s.gh.getD a default)).1:=by
 rw [JX s (by decide) ha];unfold Da;rw [ah (by show ¬(5:Int)=1;decide),av (by rfl)]
theorem P4 (l:List Bool) (j j':Nat):((l.set j false).getD j' false=true→l.getD j' false=true)∧(j=j'→(l.set j false).getD j' false=false):=by
 have e:(l.set j false).getD j' false=if j=j' then false else l.getD j' false:=by
  rw [aq,bw,aq];split
  ·split<;>rfl
  rfl
 rw [e];by_cases h:j=j'
 ·rw [av h];exact ⟨fun hc=>(by cases hc),fun _=>rfl⟩
 rw [ah h];exact ⟨id,fun hc=>absurd hc h⟩
theorem O0 (ap:List (List Bool)) (i j i' j':Nat):(AP (wQ ap i j false) i' j'=true→AP ap i' j'=true)∧(i=i'→j=j'→AP (wQ ap i j false) i' j'=false):=by
 have e:(wQ ap i j false).getD i' default=if i=i' then (ap.getD i default).set j false else ap.getD i' default:=by
  unfold wQ;rw [aq,bw];by_cases h:i=i'
  ·subst h;rw [av rfl,av rfl];split
   ·rfl
   rename_i hl;rw [aq,dC (by omega)];rfl
  rw [ah h,ah h,aq]
 unfold AP;rw [e];by_cases h:i=i'
 ·subst h;rw [av rfl];have:=P4 (ap.getD i default) j j';exact ⟨this.1,fun _=>this.2⟩
 rw [ah h];exact ⟨id,fun hc=>absurd hc h⟩
theorem IP (ap:List (List Bool)) (i j i' j':Nat):(AP (uy ap i j false) i' j'=true→AP ap i' j'=true)∧((i=i'∧j=j')∨(i=j'∧j=i')→AP (uy ap i j false) i' j'=false):=by
 have h1:=O0 ap i j i' j';have h2:=O0 (wQ ap i j false) j i i' j';unfold uy;refine ⟨fun h=>h1.1 (h2.1 h),fun h=>?_⟩;rcases h with ⟨a,b⟩|⟨a,b⟩
 ·have:=h1.2 a b;cases hc:AP (wQ (wQ ap i j false) j i false) i' j' with
  |false=>rfl
  |true=>rw [h2.1 hc] at this;cases this
 exact h2.2 b a
theorem Tp {k:Nat} (hk:s.gh.length=k) (d:List k7) (hd: ∀x∈d,∃a b,x=pC 3 a b∧a<k∧b<k∧a≠b):
  (runN f p s d).gh=s.gh∧(runN f p s d).bank=s.bank∧ ∀a b,pC 3 a b∈d→AP (runN f p s d).apart a b=false∧AP (runN f p s d).apart b a=false:=by
 induction d using oa with
 |h0=>exact ⟨rfl,rfl,fun a b h=>by cases h⟩
 |hs l x ih=>
  obtain ⟨h1,h2,h3⟩:=ih fun y hy=>hd y (by simp [hy]);obtain ⟨a,b,rfl,ha,hb,hab⟩:=hd x (by simp);rw [s4,VE (by rw [h1];omega) (by rw [h1];omega) hab];refine ⟨h1,h2,fun a' b' hm=>?_⟩;have c1:=IP (runN f p s l).apart a b a' b';have c2:=IP (runN f p s l).apart a b b' a';have hno: ∀{i j:Nat},AP (runN f p s l).apart i j=false→AP (uy (runN f p s l).apart a b false) i j=false:=fun {i j} h=>by
   cases hc:AP (uy (runN f p s l).apart a b false) i j with
   |false=>rfl
   |true=>rw [(IP _ a b i j).1 hc] at h;cases h
  rcases aQ.1 hm with hm|hm
  ·exact ⟨hno (h3 a' b' hm).1,hno (h3 a' b' hm).2⟩
  have he:=bu.1 hm;injection he with _ e1 e2;have e1:a=a':=by omega
  have e2:b=b':=by omega
  exact ⟨c1.2 (.inl ⟨e1,e2⟩),c2.2 (.inr ⟨e1,e2⟩)⟩
theorem A7 (s:NS) {i:Nat} (y:SS) (j:Nat) (hi:i<s.gh.length):(v8 s i y).gh.getD j default=if i=j then y else s.gh.getD j default:=by
 show (s.gh.set i y).getD j default=_;rw [GX];by_cases h:i=j
 ·rw [av ⟨h,hi⟩,av h]
 rw [ah (fun hc=>h hc.1),ah h]
theorem Tq {k:Nat} (hk:s.gh.length=k) (h:OI f p E s) (h5:E.length<512) (hap: ∀a b,a<k→b<k→a≠b→AP s.apart a b=false) (d:List k7) (hd: ∀x∈d,∃a b,x=pC 4 a b∧a<k∧b<k∧a≠b):
  (runN f p s d).apart=s.apart∧(runN f p s d).gh.length=k∧(∀a,∀e∈(s.gh.getD a default).eO,e∈((runN f p s d).gh.getD a default).eO)∧ ∀a b,pC 4 a b∈d→ ∀e∈(s.gh.getD b default).eO,e∈((runN f p s d).gh.getD a default).eO:=by
 induction d using oa with
 |h0=>exact ⟨rfl,hk,fun a e he=>he,fun a b h=>by cases h⟩
 |hs l x ih=>
  obtain ⟨h1,h2,h3,h4⟩:=ih fun y hy=>hd y (by simp [hy]);have hl:NE l:=fun y hy=>by
   obtain ⟨_,_,rfl,_⟩:=hd y (by simp [hy]);show (4:Int)≠1;decide
  obtain ⟨a,b,rfl,ha,hb,hab⟩:=hd x (by simp);have hO:=(wT (p:=p) l hl h h5).1;obtain ⟨a1,a2,_⟩:=hO.at_ a;obtain ⟨_,b2,_⟩:=hO.at_ b;obtain ⟨_,l2⟩:=Cq hO.cons h5 (fH ((runN f p s l).gh.getD b default).eO) a1 a2 fun e he=>b2 e (qC.1 he);rw [s4,VF (by omega) (by omega) hab (by rw [h1];exact hap a b ha hb hab)];have hgrow: ∀i,∀e∈((runN f p s l).gh.getD i default).eO,e∈((v8 (runN f p s l) a {(runN f p s l).gh.getD a default with eO:=(fq f.aH ((runN f p s l).gh.getD a default).eO (fH ((runN f p s l).gh.getD b default).eO)).1}).gh.getD i default).eO:=fun i e he=>by
   rw [A7 _ _ _ (by omega)];split
   ·rename_i hi;subst hi;exact (l2 e).2 (.inl he)
   exact he
  refine ⟨h1,by show (List.set _ _ _).length=k;rw [dU];exact h2,fun i e he=>hgrow i e (h3 i e he),fun a' b' hm e he=>?_⟩;rcases aQ.1 hm with hm|hm
  ·exact hgrow a' e (h4 a' b' hm e he)
  have hx:=bu.1 hm;injection hx with _ e1 e2;obtain rfl:a'=a:=by omega
  obtain rfl:b'=b:=by omega
  rw [A7 _ _ _ (by omega),av rfl];exact (l2 e).2 (.inr (qC.2 (h3 b' e he)))
theorem Tr {k:Nat} (hk:s.gh.length=k) (d:List k7) (hd: ∀x∈d,∃a,x=pC 6 a 0∧a<k):
  (runN f p s d).gh.length=k∧(runN f p s d).bank=s.bank∧(∀a,((runN f p s d).gh.getD a default).eO=(s.gh.getD a default).eO)∧ ∀a,pC 6 a 0∈d→((runN f p s d).gh.getD a default).lose=0:=by
 induction d using oa with
 |h0=>exact ⟨hk,rfl,fun a=>rfl,fun a h=>by cases h⟩
 |hs l x ih=>
  obtain ⟨h1,h2,h3,h4⟩:=ih fun y hy=>hd y (by simp [hy]);obtain ⟨a,rfl,ha⟩:=hd x (by simp);rw [s4,VG (by omega)];refine ⟨by show (List.set _ _ _).length=k;rw [dU];exact h1,h2,fun i=>?_,fun i hm=>?_⟩
  ·rw [A7 _ _ _ (by omega)];split
   ·rename_i hi;subst hi;exact h3 a
   exact h3 i
  rw [A7 _ _ _ (by omega)];split
  ·rfl
  rename_i hne;rcases aQ.1 hm with hm|hm
  ·exact h4 i hm
  have hx:=bu.1 hm;injection hx with _ e1;omega
theorem Ts {k:Nat} (hk:s.gh.length=k) (h:OI f p E s) (h40:E.length≤40) (h0:dS f p (gO f E) []=0) (hbn:(s.bank.map (·.aP)).Nodup) (hev: ∀a,a<k→ ∀e,e∈(s.gh.getD a default).eO↔e∈E) (hl: ∀a,a<k→(s.gh.getD a default).lose≤0) (d:List k7) (hd: ∀x∈d,∃a,x=pC 5 a 0∧a<k):
  (runN f p s d).gh.length=k∧((runN f p s d).bank.map (·.aP)).Nodup∧(∀a,((runN f p s d).gh.getD a default).eO=(s.gh.getD a default).eO∧(a<k→((runN f p s d).gh.getD a default).lose≤0))∧
   ∀a,pC 5 a 0∈d→jl ((runN f p s d).gh.getD a default).gm=[]∧ ∀c∈iW f p (gO f E) [],rh k c.rider=a→ ∃q∈((runN f p s d).gh.getD a default).gm,q.jF=oS c:=by
 induction d using oa with
 |h0=>exact ⟨hk,hbn,fun a=>⟨rfl,hl a⟩,fun a h=>by cases h⟩
 |hs l x ih=>
  obtain ⟨h1,h2,h3,h4⟩:=ih fun y hy=>hd y (by simp [hy]);have hne:NE l:=fun y hy=>by
   obtain ⟨_,rfl,_⟩:=hd y (by simp [hy]);show (5:Int)≠1;decide
  obtain ⟨a,rfl,ha⟩:=hd x (by simp);have hO:=(wT (p:=p) l hne h (by omega)).1;obtain ⟨a1,a2,a3⟩:=hO.at_ a;rw [s4,VH (by omega)];generalize runN f p s l=t at*;obtain ⟨c1,c2,c3,c4⟩:=T6 (n:=t.gh.length) (i:=(a:Int)) (bank:=t.bank) (x:=t.gh.getD a default) hO.cons h0 h40 a1 (fun e=>by rw [(h3 a).1];exact hev a ha e) ((h3 a).2 ha) a3 hO.bank h2;have hget: ∀i,((OH f p t a (t.gh.getD a default)).1.gh.getD i default)=if a=i then (tN f p t.gh.length a t.bank (t.gh.getD a default)).2.1 else t.gh.getD i default:=fun i=>by
   show (t.gh.set a _).getD i default=_;rw [GX];by_cases hi:a=i
   ·rw [av ⟨hi,by omega⟩,av hi]
   rw [ah (fun hc=>hi hc.1),ah hi]
  refine ⟨by show (List.set _ _ _).length=k;rw [dU];exact h1,?_,fun i=>?_,fun i hm=>?_⟩
  ·show ((tN f p t.gh.length a t.bank (t.gh.getD a default)).1.map (·.aP)).Nodup;unfold tN;split
   ·exact h2
   exact (uI _ 0 (t.bank,_,_)).1.nd h2
  ·rw [hget];split
   ·rename_i hi;subst hi;exact ⟨c3.trans (h3 a).1,fun _=>c2⟩
   exact h3 i
  rw [hget];split
  ·rename_i hi;subst hi;exact ⟨c1,fun c hc hh=>c4 c hc (by rw [h1];exact hh)⟩
  rename_i hi;rcases aQ.1 hm with hm|hm
  ·exact h4 i hm
  have hx:=bu.1 hm;injection hx with _ e1;omega
theorem Qw (n:Nat): ∀x∈qm n n,∃a b,x=pC 3 a b∧a<n∧b<n∧a≠b:=fun x hx=>by
 obtain ⟨a,ha,hx⟩:=dO.1 hx;obtain ⟨b,hb,rfl⟩:=bJ.1 hx;have ha:=dL.1 ha;have hb:=Pu.1 hb;exact ⟨a,b,rfl,ha,by omega,by omega⟩
theorem Nr {n a b:Nat} (h:a<b) (hb:b<n):pC 3 a b∈qm n n:=
 dO.2 ⟨a,dL.2 (by omega),bJ.2 ⟨b,Pu.2 (by omega),rfl⟩⟩
theorem QI (n:Nat): ∀x∈tC n n,∃a b,x=pC 4 a b∧a<n∧b<n∧a≠b:=fun x hx=>by
 obtain ⟨a,ha,hx⟩:=dO.1 hx;obtain ⟨b,hb,hx⟩:=dO.1 hx;split at hx
 ·rename_i hab;exact ⟨a,b,bu.1 hx,dL.1 ha,dL.1 hb,hab⟩
 cases hx
theorem TM {n a b:Nat} (h:a≠b) (ha:a<n) (hb:b<n):pC 4 a b∈tC n n:=
 dO.2 ⟨a,dL.2 ha,dO.2 ⟨b,dL.2 hb,by rw [av h];exact bu.2 rfl⟩⟩
theorem QZ (n:Nat): ∀x∈zN n,∃a,x=pC 6 a 0∧a<n:=fun x hx=>by
 obtain ⟨a,ha,hx⟩:=dO.1 hx;exact ⟨a,bu.1 hx,dL.1 ha⟩
theorem Rb (n:Nat): ∀x∈Hl n,∃a,x=pC 5 a 0∧a<n:=fun x hx=>by
 obtain ⟨a,ha,hx⟩:=dO.1 hx;exact ⟨a,bu.1 hx,dL.1 ha⟩
theorem vI {n a:Nat} {g:Nat→k7} (ha:a<n):g a∈(List.range n).flatMap fun a=>[g a]:=dO.2 ⟨a,dL.2 ha,bu.2 rfl⟩
theorem QG {k:Nat} (hk:1≤k) (r:Int): ∃a:Nat,rh k r=a∧a<k:=by
 unfold rh;split
 ·exact ⟨0,rfl,by omega⟩
 have h1:=Int.emod_nonneg r (show (k:Int)≠0 by omega);have h2:=Int.emod_lt_of_pos r (show (0:Int)<k by omega);exact ⟨(r%k).toNat,by omega,by omega⟩
structure Ux (f:Fl) (p:Pr) (E:List Ev) (k:Nat) (z:NS):Prop where
 len:z.gh.length=k
 eO: ∀a,a<k→fH (z.gh.getD a default).eO=fH E∧jl (z.gh.getD a default).gm=[]
 Vf: ∀c∈iW f p (gO f E) [],oS c∈z.bank
 only: ∀b∈z.bank,∃c∈iW f p (gO f E) [],b=oS c
 nd:(z.bank.map (·.aP)).Nodup
theorem F5 {k:Nat} (hk:s.gh.length=k) (hk1:1≤k) (h:OI f p E s) (hc:Pk s E) (h40:E.length≤40) (hbn:(s.bank.map (·.aP)).Nodup) (h0:dS f p (gO f E) []=0):Ux f p E k (runN f p s (vY k)):=by
 have h5:E.length<512:=by omega
 unfold vY;rw [EL,EL,EL];obtain ⟨a1,a2,a3⟩:=Tp (f:=f) (p:=p) hk (qm k k) (Qw k);obtain ⟨o1,v1⟩:=wT (qm k k) (zI k k) h h5;have v1:=v1 hc;have hap: ∀a b,a<k→b<k→a≠b→AP (runN f p s (qm k k)).apart a b=false:=fun a b ha hb hab=>by
  rcases oV hab with hlt|hgt
  ·exact (a3 a b (Nr hlt hb)).1
  exact (a3 b a (Nr hgt ha)).2
 have b0:(runN f p s (qm k k)).gh.length=k:=by rw [a1];exact hk
 have bn1:((runN f p s (qm k k)).bank.map (·.aP)).Nodup:=by rw [a2];exact hbn
 clear a1 a2 a3 hc hbn;generalize runN f p s (qm k k)=s1 at*;obtain ⟨c1,c2,c3,c4⟩:=Tq b0 o1 h5 hap (tC k k) (QI k);obtain ⟨o2,_⟩:=wT (tC k k) (Cv k k) o1 h5;have hall: ∀a,a<k→ ∀e,e∈((runN f p s1 (tC k k)).gh.getD a default).eO↔e∈E:=fun a ha e=>⟨(o2.at_ a).2.1 e,fun he=>by
  obtain ⟨x,hx,hxe⟩:=v1 e he;obtain ⟨b,hb⟩:=bC.1 hx;have hbl:=(aa.1 hb).1;have hxb:e∈(s1.gh.getD b default).eO:=by rw [getD_at hb];exact hxe
  by_cases hab:a=b
  ·subst hab;exact c3 a e hxb
  exact c4 a b (TM hab ha (by omega)) e hxb⟩
 have bn2:((runN f p s1 (tC k k)).bank.map (·.aP)).Nodup:=by
  have: ∀(d:List k7) (t:NS),(t.bank.map (·.aP)).Nodup→((runN f p t d).bank.map (·.aP)).Nodup:=fun d=>by
   induction d with
   |nil=>exact fun _ h=>h
   |cons x d ih=>exact fun t ht=>ih _ (VJ x ht)
  exact this _ _ bn1
 generalize runN f p s1 (tC k k)=s2 at*;obtain ⟨d1,d2,d3,d4⟩:=Tr (f:=f) (p:=p) c2 (zN k) (QZ k);obtain ⟨o3,_⟩:=wT (zN k) (Fm k) o2 h5;have hall3: ∀a,a<k→ ∀e,e∈((runN f p s2 (zN k)).gh.getD a default).eO↔e∈E:=fun a ha e=>by rw [d3 a];exact hall a ha e
 have hl3: ∀a,a<k→((runN f p s2 (zN k)).gh.getD a default).lose≤0:=fun a ha=>by rw [d4 a (vI (g:=fun a=>pC 6 a 0) ha)];exact gI _
 have bn3:((runN f p s2 (zN k)).bank.map (·.aP)).Nodup:=by rw [d2];exact bn2
 clear d3 d4 d2;generalize runN f p s2 (zN k)=s3 at*;obtain ⟨e1,e2,e3,e4⟩:=Ts d1 o3 h40 h0 bn3 hall3 hl3 (Hl k) (Rb k);obtain ⟨o4,_⟩:=wT (Hl k) (IM k) o3 h5;refine ⟨e1,fun a ha=>⟨N5 (o4.at_ a).1 h.cons.nd fun e=>by rw [(e3 a).1];exact hall3 a ha e,(e4 a (vI (g:=fun a=>pC 5 a 0) ha)).1⟩,fun c hcm=>?_,fun b hb=>xT o4.cons h0 (o4.bank b hb),e2⟩;obtain ⟨a,ha,hak⟩:=QG hk1 c.rider;obtain ⟨f1,f2⟩:=e4 a (vI (g:=fun a=>pC 5 a 0) hak);obtain ⟨q,hq,hqp⟩:=f2 c hcm ha;have hD:=(o4.at_ a).2.2;rw [←hqp];rcases hD.V4 q hq with h1|⟨_,h1⟩|⟨_,b,hb,hbr,hbn⟩
 ·exfalso;have:q.jF∈jl ((runN f p s3 (Hl k)).gh.getD a default).gm:=by
   unfold jl jC;exact cM (dT.2 ⟨hq,by simp [h1]⟩)
  rw [f1] at this;cases this
 ·exact h1
 exact absurd (Bs o4.cons h0 (o4.bank b hb) (hD.PL q hq) hbr) hbn
end
end Go.Proofs.Net
namespace Go.Proofs.Net
open Go.Proofs.Cus Go.Proofs.Rid Go.Proofs.Far
def Cw (f:Fl) (k:Int) (x:k7):Bool:=((decide (x.kind=1)&&decide (0≤x.a))&&decide (x.a<k))&&decide (fF f x.ev=0)
abbrev OS:=List Ev×NS
def tU (f:Fl) (p:Pr) (k:Nat) (q:OS) (x:k7):OS:=
 if Cw f k x=true then (if (fX f.aH q.1 x.ev).2.2≠0 then q else ((fX f.aH q.1 x.ev).1,(mP f p q.2 x).1)) else (q.1,(mP f p q.2 x).1)
def vZ (f:Fl) (p:Pr) (k:Nat) (q:OS) (l:List k7):OS:=l.foldl (tU f p k) q
theorem KQ (f:Fl) (p:Pr) (k:Nat) (q:OS) (l:List k7) (x:k7):vZ f p k q (l++[x])=tU f p k (vZ f p k q l) x:=by unfold vZ;rw [df];rfl
structure OV (f:Fl) (p:Pr) (U:List Ev) (T:Int) (k:Nat) (q:OS):Prop where
 oi:OI f p q.1 q.2
 VL:Pk q.2 q.1
 nv:NV f U T q.2
 len:q.2.gh.length=k
 sub: ∀e∈q.1,e∈U∧fF f e=0
theorem OV.N2 {f:Fl} {p:Pr} {U:List Ev} {T:Int} {k:Nat} {q:OS} (h:OV f p U T k q) (hU:U.length≤40):q.1.length≤40:=jd (AR h.oi.cons.nd fun e he=>(h.sub e he).1) hU
theorem GW {f:Fl} {k:Nat} {s:NS} (hs:s.gh.length=k) {x:k7}:Cw f k x=true↔JK f s x:=by
 unfold Cw JK hasB;rw [hs];simp [and_assoc]
theorem MG {f:Fl} {p:Pr} {U:List Ev} {T:Int} {k:Nat} {q:OS} (h:OV f p U T k q) (hU:U.length≤40) (hT:0≤T) {x:k7} (hx:x.kind=1→x.ev∈U):OV f p U (T+256) k (tU f p k q x):=by
 obtain ⟨n1,_,n3⟩:=Oq (p:=p) hT h.nv hx;have hl:=h.N2 hU;unfold tU;by_cases hg:Cw f k x=true
 ·rw [av hg];have hgx:=(GW h.len).1 hg;by_cases h0:(fX f.aH q.1 x.ev).2.2≠0
  ·rw [av h0];exact ⟨h.oi,h.VL,h.nv.mono (by omega),h.len,h.sub⟩
  rw [ah h0];have h0:(fX f.aH q.1 x.ev).2.2=0:=by simpa using h0
  have hm:=Kb h0;have hnd:=yR (n:=f.aH) (e:=x.ev) h.oi.cons.nd;have hsub: ∀e∈(fX f.aH q.1 x.ev).1,e∈U∧fF f e=0:=fun e he=>((hm e).1 he).elim (h.sub e) fun he=>he▸⟨hx hgx.1,hgx.2.2⟩;have hl2:=AR hnd fun e he=>(hsub e he).1;obtain ⟨o1,o2⟩:=Vw h.oi h.VL hgx h0 (by omega);exact ⟨o1,o2,n1,n3.trans h.len,hsub⟩
 rw [ah hg];obtain ⟨o1,o2⟩:=St (p:=p) h.oi (by omega) (x:=x) fun hc=>hg ((GW h.len).2 hc);exact ⟨o1,o2 h.VL,n1,n3.trans h.len,h.sub⟩
theorem OV.mono {f:Fl} {p:Pr} {U:List Ev} {T T':Int} {k:Nat} {q:OS} (h:OV f p U T k q) (hT:T≤T'):OV f p U T' k q:=⟨h.oi,h.VL,h.nv.mono hT,h.len,h.sub⟩
theorem Jf {f:Fl} {p:Pr} {U:List Ev} {k:Nat} (hU:U.length≤40): ∀(l:List k7) {T:Int} {q:OS},0≤T→OV f p U T k q→(∀x∈l,x.kind=1→x.ev∈U)→OV f p U (T+256*l.length) k (vZ f p k q l)
 |[],_,_,_,h,_=>h.mono (by simp)
 |x::l,T,q,hT,h,hx=>by
  have h1:=MG h hU hT (hx x (by simp));exact (Jf hU l (by omega) h1 fun y hy=>hx y (by simp [hy])).mono (by simp;omega)
theorem TD {f:Fl} {p:Pr} {U:List Ev} {k:Nat} (hv:NV f U 0 ⟨List.replicate k ⟨[],[],0⟩,List.replicate k (List.replicate k false),[]⟩):OV f p U 0 k ([],⟨List.replicate k ⟨[],[],0⟩,List.replicate k (List.replicate k false),[]⟩):=by
 have hm: ∀x∈List.replicate k (⟨[],[],0⟩:SS),x=⟨[],[],0⟩:=fun x hx=>rN hx;refine ⟨⟨Cons.nil _,fun x hx=>?_,fun x hx e he=>?_,fun b hb=>(by cases hb),fun x hx=>?_⟩,fun e he=>(by cases he),hv,by simp,fun e he=>(by cases he)⟩
 ·rw [hm x hx];exact jY
 ·rw [hm x hx] at he;cases he
 rw [hm x hx];exact QD.nil
def AN (l:List Py) (P:Py):Nat:=l.countP fun x=>decide (x=P)
def zP (l:List Py) (r:Int):Nat:=l.countP fun x=>decide (x.aP=r)
theorem LO (l:List Py) (x P:Py):AN (l++[x]) P=AN l P+if x=P then 1 else 0:=by
 unfold AN;rw [zZ];simp [nX]
theorem LN (l:List Py) (x:Py) (r:Int):zP (l++[x]) r=zP l r+if x.aP=r then 1 else 0:=by
 unfold zP;rw [zZ];simp [nX]
theorem Hh: ∀{l:List Py} {P:Py},(l.map (·.aP)).Nodup→P∈l→zP l P.aP=1∧AN l P=1
 |[],_,_,h=>by cases h
 |x::l,P,hn,hm=>by
  rw [cI,xM] at hn;obtain ⟨h1,h2⟩:=hn;unfold zP AN;rw [nX,nX];rcases bU.1 hm with rfl|hm
  ·have hz: ∀y∈l,y.aP≠P.aP:=fun y hy he=>h1 (he▸cM hy);rw [Kr.2 (fun y hy=>by simpa using hz y hy),Kr.2 (fun y hy=>by simpa using fun he:y=P=>hz y hy (by rw [he]))];simp
  obtain ⟨a1,a2⟩:=Hh h2 hm;unfold zP at a1;unfold AN at a2;have hne:x.aP≠P.aP:=fun he=>h1 (he▸cM hm);rw [a1,a2,ah (by simpa using hne),ah (by simpa using fun he:x=P=>hne (by rw [he]))];exact ⟨rfl,rfl⟩
theorem Ux.count {f:Fl} {p:Pr} {E:List Ev} {k:Nat} {z:NS} (h:Ux f p E k z) (h0:dS f p (gO f E) []=0):z.bank.length=(iW f p (gO f E) []).length:=by
 have h1:(z.bank.map (·.aP)).Perm ((iW f p (gO f E) []).map (·.aP)):=by
  refine (VY h.nd (C3 h0)).2 fun r=>?_;constructor
  ·intro hr;obtain ⟨b,hb,rfl⟩:=bJ.1 hr;obtain ⟨c,hc,rfl⟩:=h.only b hb;exact bJ.2 ⟨c,hc,rfl⟩
  intro hr;obtain ⟨c,hc,rfl⟩:=bJ.1 hr;exact bJ.2 ⟨_,h.Vf c hc,rfl⟩
 have:=h1.length_eq;simpa using this
open Go Go.RowKit Go.Proofs.E Go.Proofs.Cus Go.Proofs.Rid Go.Proofs.Far Go.Proofs.Hom
theorem Q4 (l:List Py) (P:Py):AN l P≤l.length:=FH
theorem Q3 (l:List Py) (r:Int):zP l r≤l.length:=FH
theorem TB (A:Option Addr) (n c:Nat) (xs:List Py) (z:FX) (w:World) (hx:C7 w A n xs) (hn:n≤10000):Calls Tryz.prog 28 #[.slice A n c, .agg z.cells.toArray] w fun e w'=>e= .returned (.tuple #[.int .i64 (AN xs (oS z.b)), .int .i64 (zP xs z.b.aP)])∧gz w w':=by
 have hl:=hx.1;refine aS Tryz.func28 rfl Tryz.ntmps28 rfl ?_;iterate 2 refine G ?_
 refine cd (v:= .agg _) rfl rfl fun b3=>?_;iterate 17 refine G ?_
 refine ct [6,7,8,9,10,11,12,13,14,15,16,17,18,19,20,21,22,23,24,25,26,27,28,29,30,31,32,33,34,35,36,37,38] (fun k:Nat=>[(6, .int .i64 (AN (xs.take k) (oS z.b))),(7, .int .i64 (zP (xs.take k) z.b.aP)),(8, .int .i64 k)]) (fun _=>[box b3 81 z.cells]) (fun k=>k≤n) (fun k=>n -k) 0 ⟨rfl,rfl,rfl,trivial⟩ (fun w hw=>hw) rfl (aU _) ?_;intro k g hk;have hk:k≤n:=hk;have htl:(xs.take k).length=k:=by rw [cH];omega
 have hc1:=Q4 (xs.take k) (oS z.b);have hc2:=Q3 (xs.take k) z.b.aP;iterate 9 refine G ?_
 refine au rfl ?_ ?_<;>intro hlt
 ·have hlt':k<n:=by simpa using hlt
  obtain ⟨b,off,x,rfl,hbl,hxk,hrx⟩:=hx.at_ hlt';have hst:=iJ _ _ _ hxk;have hR:zP (xs.take (k+1)) z.b.aP=zP (xs.take k) z.b.aP+if x.aP=z.b.aP then 1 else 0:=by rw [hst,LN]
  have hP:AN (xs.take (k+1)) (oS z.b)=AN (xs.take k) (oS z.b)+if x=oS z.b then 1 else 0:=by rw [hst,LO]
  iterate 6 refine G ?_
  refine tB ?_;iterate 2 refine G ?_
  refine bO (bt _ gT fj (q0 rfl) (q0 rfl) (fun _=>⟨rfl,by omega⟩)) ?_;iterate 7 refine G ?_
  refine jK [7,23,24] (fun _:Unit=>[(7, .int .i64 (zP (xs.take (k+1)) z.b.aP))]) (fun _=>[box b3 81 z.cells]) (fun _=>True) ?_ ?_
  ·refine au rfl ?_ ?_<;>intro h1
   ·have h1':x.aP=z.b.aP:=by simpa using h1
    rw [av h1'] at hR;iterate 5 refine G ?_
    exact aO () eE ⟨by rw [hR];rfl,trivial⟩ (fun w hw=>hw) rfl trivial
   have h1': ¬x.aP=z.b.aP:=by simpa using h1
   rw [ah h1'] at hR;refine G ?_;exact aO () eE ⟨by rw [hR];rfl,trivial⟩ (fun w hw=>hw) rfl trivial
  rintro _ g2 _;iterate 2 refine G ?_
  refine tB ?_;iterate 2 refine G ?_
  refine bO (bt _ gT fj (q0 rfl) (q0 rfl) (fun _=>⟨rfl,by omega⟩)) ?_;iterate 7 refine G ?_
  refine bO (bS l8 QO jo (pt (v:= .int _ _) rfl (pt (v:= .int _ _) rfl (pt (v:= .int _ _) rfl E.p0))) rfl) ?_;refine bO (JW (Oa x (oS z.b)) (by kernel_rfl) (q0 rfl) (q0 rfl)) ?_;iterate 2 refine G ?_
  refine au rfl ?_ ?_<;>intro h2
  ·have h2':x=oS z.b:=by simpa using h2
   rw [av h2'] at hP;iterate 12 refine G ?_
   exact ay (k+1) eE ⟨by rw [hP];rfl,rfl,rfl,trivial⟩ (fun w hw=>hw) rfl hlt' (by show n -(k+1)<n -k;omega)
  have h2': ¬x=oS z.b:=by simpa using h2
  rw [ah h2'] at hP;iterate 8 refine G ?_
  exact ay (k+1) eE ⟨by rw [hP];rfl,rfl,rfl,trivial⟩ (fun w hw=>hw) rfl hlt' (by show n -(k+1)<n -k;omega)
 have hke:k=n:=by simp at hlt;omega
 subst hke;have hall:xs.take k=xs:=bN (by omega);rw [hall];iterate 14 refine G ?_
 exact fV (v:= .int _ _) (x:= .int _ _) rfl rfl rfl rfl fun w' hw=>⟨rfl,hw.1⟩
abbrev WK (l:List iY):={z:List FX×(Option Addr×Nat)//z.1.map (·.b)=l}
theorem Ba (f:Fl) (fa:FA) (p:Pr) (a:xz) (k:Int) (r m:Nat) (E:List Ev) (w:World) (hf:kp w f fa) (hp:lK w p a) (h1:Old w (box r 127 [.int .i64 f.aH, .map (some m)])) (h2:Old w (oT m (AJ E)))
  (hok:fR f=0) (hdv:1≤f.aH∧f.aH≤256) (hpe: ∀e∈E,0≤e.device∧1≤e.seq) (hpl:IY (fH E)) (hn:E.length≤40) (hsh: ∀r∈iw f (fH E),(r.cw.length≤100000∧r.bz.length≤100000)∧r.pl≤9223372036854775807):
  Calls Tryz.prog 27 #[.agg (kF f fa p a k).toArray, .pointer (some ⟨r,0,none⟩)] w fun e w'=> ∃z:WK (iW f p (gO f E) []),e= .returned (.tuple #[.slice z.1.2.1 z.1.1.length z.1.2.2, .int .i64 (dS f p (gO f E) [])])∧Mem w [ua z.1.2.1 z.1.2.2 z.1.1] w':=by
 have hel:(fH E).length=E.length:=kb E;have hacc:=tu f (fH E);have hr20:=zk hok (fH E);have hall:=Fu (f:=f) (fH E);have hpl': ∀r∈iw f (fH E),r.cw.length≤100000∧r.bz.length≤100000:=fun r hr=>(hsh r hr).1;refine aS Tryz.func27 rfl Tryz.ntmps27 rfl ?_;iterate 2 refine G ?_
 refine cd (v:= .agg _) rfl rfl fun b2=>?_;iterate 5 refine G ?_
 refine AQ ?_;refine aW 0 ?_;refine iQ 1 rfl (eP iv fG (q0 rfl)) ?_;refine aW 2 ?_;refine r1 3 0 ?_;refine aL rfl (di (en Ew (il (q0 rfl))) (fun w hw=>u7 (l:=E) w (h1.now hw) (h2.now hw) hpe (by omega)) rfl (fun _=>rfl) fun ev=>?_);refine r1 4 1 ?_;refine aL rfl (di (en Tryz.call63 (gr (q0 rfl) (q0 rfl))) (fun w hw=>Rid.Ay f fa ev.1 (fH E).length ev.2 (fH E) w (hf.mem hw) (cW hw (j:=0) rfl (fun _=>rfl) (by omega)) (by omega) hpl (by omega)) rfl (fun _=>rfl) fun rd=>?_);refine xw (bK 3) ?_;refine aW 5 ?_;refine aW 6 ?_;refine aW 7 ?_;refine aW 8 ?_;refine aW 9 ?_;refine jz 0 ?_;iterate 8 refine G ?_
 refine au rfl ?_ ?_<;>intro hq
 ·exfalso;simp [hok] at hq
 have hrm:rd.1.2.2.map (·.r)=iw f (fH E):=rd.2;have hsub: ∀r∈((rd.1.2.2.map (·.r)).filter (kT (l5 f.aH E))),r∈iw f (fH E):=fun r hr=>by rw [hrm] at hr;exact (dT.1 hr).1
 have hfs: ∀r∈((rd.1.2.2.map (·.r)).filter (kT (l5 f.aH E))),r.cw.length≤100000∧r.bz.length≤100000:=fun r hr=>(hsh r (hsub r hr)).1;have hfp: ∀r∈((rd.1.2.2.map (·.r)).filter (kT (l5 f.aH E))),r.pl≤9223372036854775807:=fun r hr=>(hsh r (hsub r hr)).2;have hfl:((rd.1.2.2.map (·.r)).filter (kT (l5 f.aH E))).length≤100000:=by
  have:=da (kT (l5 f.aH E)) (rd.1.2.2.map (·.r));rw [hrm] at this⊢;omega
 iterate 3 refine G ?_
 refine AQ ?_;refine aW 0 ?_;refine iQ 1 rfl (eP iv fG (q0 rfl)) ?_;refine aW 2 ?_;refine iQ 3 rfl (eP kz iM (q0 rfl)) ?_;refine aW 4 ?_;refine aW 5 ?_;refine aC 6 (by decide+kernel) rfl (en Tryz.call66 (il (q0 rfl))) (fun _ w hw=>Nh (l:=E) w (h1.now hw) (h2.now hw) hdv (by omega)) rfl ?_;refine r1 7 0 ?_;refine aL rfl (di (en Tryz.call65 (gr (q0 rfl) (q0 rfl))) (fun w hw=>Rid.Ba rd.1.1 rd.1.2.2.length rd.1.2.1 rd.1.2.2 (l5 f.aH E) w (AU rd hw 0 1 rfl rfl (by omega) hpl') (fun y hy=>hpl' y.r (by rw [←rd.2];exact cM hy)) (by have:=aT List.length rd.2;simp only [aD] at this;omega)) rfl (fun _=>rfl) fun fn=>?_);refine r1 8 2 ?_;refine aL rfl (di (en Tryz.call64 (Fb (q0 rfl) (q0 rfl) (q0 rfl) (q0 rfl))) (fun w hw=>Far.Ay f fa p a fn.1.1 fn.1.2.2.length fn.1.2.1 fn.1.2.2 none 0 0 [] w (hf.mem hw) (hp.mem hw) (AU fn hw 0 1 rfl rfl hfl hfs) (fun y hy=>hfs y.r (by rw [←fn.2];exact cM hy)) (Vh w) (fun y hy=>hfp y.r (by rw [←fn.2];exact cM hy))) rfl (fun _=>rfl) fun fr=>?_);refine xw (bK 4) ?_;refine aW 9 ?_;refine aW 10 ?_;refine aW 11 ?_;refine aW 12 ?_;refine jz 0 ?_;iterate 2 refine G ?_
 have hfin:fn.1.2.2.map (·.r)=gO f E:=by rw [fn.2,hrm];rfl
 have hfe:dS f p (fn.1.2.2.map (·.r)) []=dS f p (gO f E) []:=by rw [hfin]
 obtain ⟨z,hz⟩:=fr;rw [hfin] at hz;exact fV (v:= .slice _ _ _) (x:= .int _ _) rfl rfl rfl rfl fun w' hw=>⟨⟨z,hz⟩,by rw [hfe],hw.pick [0] (by decide)⟩
theorem Ih (f:Fl) (fa:FA) (p:Pr) (a:xz) (k:Int) (A:Option Addr) (n c:Nat) (w:World) (hb:CC n fa a=false):Calls Tryz.prog 6 #[.agg (kF f fa p a k).toArray, .slice A n c] w fun e w'=>e= .returned (.bool true)∧gz w w':=by
 refine aS Tryz.func6 rfl V' rfl ?_;iterate 2 refine G ?_
 refine cd (v:= .agg _) rfl rfl fun b2=>?_;iterate 8 refine G ?_
 refine gV (en C9 (gr (q0 rfl) (q0 rfl))) (fun _ w _=>Eb f fa p a k A n c w) ?_;iterate 3 refine G ?_
 refine au rfl ?_ ?_<;>intro hq
 ·iterate 2 refine G ?_
  refine gV (en uC (Iw)) (fun _ w _=>tQ w) ?_;iterate 5 refine G ?_
  exact bH (v:= .bool _) rfl rfl rfl fun w' hw=>⟨rfl,hw.1⟩
 exfalso;rw [hb] at hq;cases hq
theorem K6 (f:Fl) (fa:FA) (p:Pr) (a:xz) (k:Int) (A:Option Addr) (n c:Nat) (w:World) (hf:kp w f fa) (hp:lK w p a) (hb:CC n fa a=true) (hz:pq f p k≠0):Calls Tryz.prog 6 #[.agg (kF f fa p a k).toArray, .slice A n c] w fun e w'=>e= .returned (.bool true)∧gz w w':=by
 refine aS Tryz.func6 rfl V' rfl ?_;iterate 2 refine G ?_
 refine cd (v:= .agg _) rfl rfl fun b2=>?_;iterate 8 refine G ?_
 refine gV (en C9 (gr (q0 rfl) (q0 rfl))) (fun _ w _=>Eb f fa p a k A n c w) ?_;iterate 3 refine G ?_
 refine au rfl ?_ ?_<;>intro hq
 ·exfalso;rw [hb] at hq;cases hq
 iterate 5 refine G ?_
 refine bO (eP iv fG (q0 rfl)) ?_;refine G ?_;refine bO (eP kz iM (q0 rfl)) ?_;iterate 2 refine G ?_
 refine gV (en Ey (nj (q0 rfl) (q0 rfl) (q0 rfl))) (fun _ w hw=>GA f fa p a k w (hf.mem hw) (hp.mem hw) hz) ?_;iterate 11 refine G ?_
 refine bO (gj e9 (q0 rfl)) ?_;iterate 6 refine G ?_
 refine au rfl ?_ ?_<;>intro hh
 ·iterate 3 refine G ?_
  refine bO (gj e9 (q0 rfl)) ?_;iterate 5 refine G ?_
  refine EB (en uC (Iw)) (fun _ w _=>tQ w) rfl rfl rfl rfl ?_;iterate 6 refine G ?_
  exact bH (v:= .bool _) rfl rfl rfl fun w' hw=>⟨by simp [hz],hw.1⟩
 simp at hh
theorem O6 {dv:Int} {E:List Ev} {e:Ev} (h:(fX dv E e).2.2≠0):(fX dv E e).1=E:=by
 unfold fX at h⊢;split
 ·rfl
 rename_i h1;rw [ah h1] at h;split
 ·rfl
 rename_i h2;rw [ah h2] at h;cases hf:E.find? fun x=>decide (ki x=ki e) with
 |some y=>simp only;split<;>rfl
 |none=>
  rw [hf] at h;simp only at h⊢;split
  ·rfl
  rename_i h3;rw [ah h3] at h;split
  ·rfl
  rename_i h4;rw [ah h4] at h;exact absurd rfl h
theorem Qf (A:Option Addr) (n c:Nat) (xs:List Py) (z:FX) (w:World) (hx:C7 w A n xs) (hn:n≤10000) (h:zP xs z.b.aP=1∧AN xs (oS z.b)=1):Calls Tryz.prog 28 #[.slice A n c, .agg z.cells.toArray] w fun e w'=>e= .returned (.tuple #[.int .i64 1, .int .i64 1])∧gz w w':=by
 have h2:=TB A n c xs z w hx hn;rw [h.1,h.2] at h2;exact h2
theorem Ik {f:Fl} {p:Pr} {M:NM} {bank:List Py} {sv:List (SA×SS)} {ap:List ((Nat×Nat)×List Bool)} (i:Nat) {x:SA×SS} {l:List Ev} (hl:fH x.2.eO=l) (w:World) (ho: ∀it∈q8 f p M bank sv ap [],Old w it)
  (pw:M.ss=sv.map (·.1.s)) (h8:sv.length≤8) (hx:sv[i]?=some x) (hp: ∀e∈x.2.eO,0≤e.device∧1≤e.seq) (hn:x.2.eO.length≤10000):
  Calls Tryz.prog 15 #[.pointer (some ⟨M.nb,0,none⟩), .int .i64 i] w fun q w'=> ∃y:Option Addr×Nat,q= .returned (.slice y.1 l.length y.2)∧Mem w [ig y.1 y.2 l] w':=by
 subst hl;exact zz i w ho pw h8 hx hp hn
theorem HR {f:Fl} {p:Pr} {M:NM} {bank:List Py} {sv:List (SA×SS)} {ap:List ((Nat×Nat)×List Bool)} (i:Nat) {x:SA×SS} {w0 w:World} {L:List E.Item} (hL:marks L=[]) (hw:Mem w0 (q8 f p M bank sv ap L) w)
  (pw:M.ss=sv.map (·.1.s)) (h8:sv.length≤8) (hx:sv[i]?=some x) (hn:x.2.gm.length≤256) (h0:jl x.2.gm=[]):
  Calls Tryz.prog 16 #[.pointer (some ⟨M.nb,0,none⟩), .int .i64 i] w fun q w'=> ∃y:Option Addr×Nat,q= .returned (.slice y.1 0 y.2)∧Mem w0 (mM y.1 y.2 []::q8 f p M bank sv ap L) w':=by
 have h:=sU i hL hw pw h8 hx hn;rw [h0] at h;exact h
attribute [local irreducible] mP runN vY fX fF tU vZ
theorem Nc (f:Fl) (fa:FA) (p:Pr) (a:xz) (k:Nat) (A:Option Addr) (n c:Nat) (xs:List k7) (w:World) (hf:kp w f fa) (hp:lK w p a) (hx:gJ w 12 k7.cells A n xs) (hpl: ∀x∈xs,-9223372036854775808≤x.ev.place∧x.ev.place≤9223372036854775807) (hb:CC n fa a=true) (h0:jk f p=0) (hk1:1≤k) (hk8:k≤8):Calls Tryz.prog 6 #[.agg (kF f fa p a k).toArray, .slice A n c] w fun e w'=>e= .returned (.bool true)∧gz w w':=by
 obtain ⟨hn,hd,ht,hN⟩:=JT hb;have hxl:=hx.1;have hdv:1≤f.aH∧f.aH≤256:=by have:=rl (pP h0);omega
 have hU:(xs.map (·.ev)).length≤40:=by rw [aD];omega
 refine aS Tryz.func6 rfl V' rfl ?_;iterate 2 refine G ?_
 refine cd (v:= .agg _) rfl rfl fun b2=>?_;iterate 8 refine G ?_
 refine gV (en C9 (gr (q0 rfl) (q0 rfl))) (fun _ w _=>Eb f fa p a k A n c w) ?_;iterate 3 refine G ?_
 refine au rfl ?_ ?_<;>intro hq
 ·exfalso;rw [hb] at hq;cases hq
 iterate 5 refine G ?_
 refine bO (eP iv fG (q0 rfl)) ?_;refine G ?_;refine bO (eP kz iM (q0 rfl)) ?_;iterate 2 refine G ?_
 refine qW (en Ey (nj (q0 rfl) (q0 rfl) (q0 rfl))) (fun w hw=>E1 f fa p a k w (hf.mem hw) (hp.mem hw) hd ht hN h0 hk1 hk8) rfl (fun _=>rfl) fun x=>?_;obtain ⟨⟨M,sv,ap,R⟩,hX⟩:=x;have hsl:sv.length=k:=by have:=aT List.length hX.sv;simpa using this
 have hc:NC f p M sv ap (xs.map (·.ev)):=⟨pP h0,hdv,hX.ss,hX.bs,by omega,by omega,hU⟩;iterate 11 refine G ?_
 refine bO (gj e9 (q0 rfl)) ?_;iterate 6 refine G ?_
 refine au rfl ?_ ?_<;>intro hh
 ·simp at hh
 iterate 7 refine G ?_
 refine qW (en Tryz.call24 (il (q0 rfl))) (fun w _=>JM f.aH hdv.1 hdv.2 w) rfl (fun _=>rfl) fun r=>?_;obtain ⟨r,m⟩:=r;iterate 11 refine G ?_
 refine bO (gj oO (q0 rfl)) ?_;iterate 6 refine G ?_
 refine au rfl ?_ ?_<;>intro hr
 ·simp at hr
 iterate 9 refine G ?_
 have hv0:=TD (f:=f) (p:=p) (k:=k) (Ii (f:=f) (U:=xs.map (·.ev)) (n:=k));generalize hs0:(([],⟨List.replicate k ⟨[],[],0⟩,List.replicate k (List.replicate k false),[]⟩):OS)=s0 at hv0;have hy0:NQ sv ap s0.2 ((M.kA,M.kc),sv,ap):=by rw [←hs0];exact ⟨hX.sv,rfl,hX.ap,rfl⟩
 have hr0:vZ f p k s0 (xs.take 0)=s0:=by unfold vZ;rfl
 have hstep: ∀{i:Nat} {s:k7},xs[i]?=some s→vZ f p k s0 (xs.take (i+1))=tU f p k (vZ f p k s0 (xs.take i)) s:=fun h=>by rw [wB xs _ _ h,KQ]
 have hrun: ∀i,i≤n→OV f p (xs.map (·.ev)) (256*i) k (vZ f p k s0 (xs.take i)):=fun i hi=>by
  have h:=Jf (p:=p) hU (xs.take i) (by decide) hv0 fun x hx _=>cM (HK hx);have hti:(xs.take i).length=i:=by rw [cH];omega
  rw [hti] at h;exact h.mono (by omega)
 refine ct [9,10,11,62,63,64,65,66,67,68,69,70,71,72,73,74,75,76,77,78,79,80,81,82,83,84,85,86,87,88,89,90,91,92,93,94,95,96,97,98,99,100,101,102,103,104,105,106,107,108,109,110,111,112,113,114,115,116,117,118,119,120] (fun s:Nat×NB=>[(9, .int .i64 s.1)]) (fun s=>nf f p M (vZ f p k s0 (xs.take s.1)).2 s.2 (box b2 30 (kF f fa p a k)::DI r m f.aH (vZ f p k s0 (xs.take s.1)).1++[dD R])) (fun s=>s.1≤n∧NQ sv ap (vZ f p k s0 (xs.take s.1)).2 s.2) (fun s=>n -s.1) (0,((M.kA,M.kc),sv,ap)) ⟨rfl,trivial⟩ (fun w hw=>by
  simp only [hr0];subst hs0;exact hw.pick [2,3,4,5,6,7,9,0,1,8] (by decide)) rfl ⟨aU _,by rw [hr0];exact hy0⟩ ?_
 rintro ⟨i,y⟩ g ⟨hi,hy⟩;have hi:i≤n:=hi;have hy:NQ sv ap (vZ f p k s0 (xs.take i)).2 y:=hy;have hvi:=hrun i hi;iterate 9 refine G ?_
 refine au rfl ?_ ?_<;>intro hlt
 ·have hlt':i<n:=by simpa using hlt
  obtain ⟨bb,off,s,hA,hbl,hix,hrx⟩:=hx.at_ hlt';subst hA;have hps:=hpl s (an hix);have hst:=hstep hix;have hei:=hvi.N2 hU;generalize hq:vZ f p k s0 (xs.take i)=q at hy hvi hst hei;iterate 6 refine G ?_
  refine tB ?_;iterate 2 refine G ?_
  refine bO (bt _ eZ jb (q0 rfl) (q0 rfl) (fun _=>⟨rfl,by omega⟩)) ?_;iterate 6 refine G ?_
  refine qV (bt _ eZ jb (q1 rfl) (q1 rfl) (fun _=>⟨rfl,by omega⟩)) rfl rfl ?_;iterate 7 refine G ?_
  refine qV (bt _ eZ jb (q1 rfl) (q1 rfl) (fun _=>⟨rfl,by omega⟩)) rfl rfl ?_;iterate 8 refine G ?_
  refine qV (eP iv fG (q1 rfl)) rfl rfl ?_;iterate 2 refine G ?_
  refine qV (bt _ eZ jb (q1 rfl) (q1 rfl) (fun _=>⟨rfl,by omega⟩)) rfl rfl ?_;refine G ?_;refine qV (eP jr bT (q1 rfl)) rfl rfl ?_;refine EB (en Wf (gr (q1 (v:= .agg _) rfl) (q1 (v:= .agg _) rfl))) (fun _ w hw=>vS f fa s.ev w (hf.mem hw) hps) rfl rfl rfl rfl ?_;iterate 4 refine G ?_
  have hdo: ∀{E':List Ev} {L:List E.Item} {w0 w:World},Mem w0 (nf f p M q.2 y (box b2 30 (kF f fa p a k)::DI r m f.aH E'++[dD R])) w→Calls Tryz.prog 18 #[.pointer (some ⟨M.nb,0,none⟩), .agg s.cells.toArray] w fun q2 w'=> ∃z:{z:NB//NQ sv ap (mP f p q.2 s).1 z},q2= .returned (.tuple #[.int .i64 (mP f p q.2 s).2.1, .int .i64 (mP f p q.2 s).2.2])∧Mem w0 (nf f p M (mP f p q.2 s).1 z.1 (box b2 30 (kF f fa p a k)::DI r m f.aH E'++[dD R])) w':=fun hw=>Ed M hc s (256*i) rfl hw (fun w hw=>hX.k.ok w (hw.item (k:=3) rfl)) hy hvi.nv (by omega) hps;refine au rfl ?_ ?_<;>intro hg
  ·have hg':Cw f k s=true:=hg;refine fY (L':=DI r m f.aH q.1++nf f p M q.2 y [box b2 30 (kF f fa p a k),dD R]) (fun w hw=>hw.pick [7,8,0,1,2,3,4,5,6,9] (by decide)) rfl ?_;iterate 5 refine G ?_
   refine bO (bt _ eZ jb (q0 rfl) (q0 rfl) (fun _=>⟨rfl,by omega⟩)) ?_;refine G ?_;refine bO (eP jr bT (q0 rfl)) ?_;refine bZ (bR (en We (gr (q0 rfl) (q0 rfl))) (fun w hw=>vq s.ev rfl hw) rfl (fun _=>rfl) fun u=>?_);iterate 13 refine G ?_
   refine fY (L':=nf f p M q.2 y (box b2 30 (kF f fa p a k)::DI r m f.aH (fX f.aH q.1 s.ev).1++[dD R])) (fun w hw=>hw.pick [2,3,4,5,6,7,8,0,1,9] (by decide)) rfl ?_;refine au rfl ?_ ?_<;>intro he
   ·have he':(fX f.aH q.1 s.ev).2.2≠0:=by simpa using he
    have hst2:tU f p k q s=q:=by unfold tU;rw [av hg',av he']
    rw [hst2] at hst;iterate 9 refine G ?_
    exact ay (i+1,y) eE ⟨rfl,trivial⟩ (fun w hw=>by
     simp only [hst];rw [O6 he'] at hw;exact hw) rfl ⟨hlt',by rw [hst];exact hy⟩ (by show n -(i+1)<n -i;omega)
   have he': ¬(fX f.aH q.1 s.ev).2.2≠0:=by simpa using he
   have hst2:tU f p k q s=((fX f.aH q.1 s.ev).1,(mP f p q.2 s).1):=by unfold tU;rw [av hg',ah he']
   rw [hst2] at hst;iterate 6 refine G ?_
   refine bO (bt _ eZ jb (q0 rfl) (q0 rfl) (fun _=>⟨rfl,by omega⟩)) ?_;refine G ?_;refine bZ (bR (en lP (gr (q0 rfl) (q0 rfl))) (fun w hw=>hdo (L:=[]) hw) rfl (fun _=>rfl) fun z=>?_);iterate 8 refine G ?_
   exact ay (i+1,z.1) eE ⟨rfl,trivial⟩ (fun w hw=>by
    simp only [hst];exact hw) rfl ⟨hlt',by rw [hst];exact z.2⟩ (by show n -(i+1)<n -i;omega)
  have hg': ¬Cw f k s=true:=fun h=>by
   have h2:Cw f k s=false:=hg;rw [h2] at h;cases h
  have hst2:tU f p k q s=(q.1,(mP f p q.2 s).1):=by unfold tU;rw [ah hg']
  rw [hst2] at hst;iterate 6 refine G ?_
  refine bO (bt _ eZ jb (q0 rfl) (q0 rfl) (fun _=>⟨rfl,by omega⟩)) ?_;refine G ?_;refine bZ (bR (en lP (gr (q0 rfl) (q0 rfl))) (fun w hw=>hdo (L:=[]) hw) rfl (fun _=>rfl) fun z=>?_);iterate 8 refine G ?_
  exact ay (i+1,z.1) eE ⟨rfl,trivial⟩ (fun w hw=>by
   simp only [hst];exact hw) rfl ⟨hlt',by rw [hst];exact z.2⟩ (by show n -(i+1)<n -i;omega)
 obtain rfl:i=n:=by simp at hlt;omega
 have hei:=hvi.N2 hU;generalize vZ f p k s0 (xs.take i)=q at hy hvi hei;have hpe: ∀e∈q.1,0≤e.device∧1≤e.seq:=fun e he=>N7 (hvi.sub e he).2;have hpl2:IY (fH q.1):=fun e he=>by have:=N6 (hvi.sub e (qC.1 he)).2;omega
 have hel:(fH q.1).length=q.1.length:=kb _;have hsh:=Es (f:=f) (pP h0) (xs:=fH q.1) (by omega);iterate 9 refine G ?_
 refine qW (en Tryz.call27 (gr (q0 rfl) (q0 rfl))) (fun w hw=>Ba f fa p a k r m q.1 w (hf.mem hw) (hp.mem hw) (zw hw (an (i:=7) rfl)) (zw hw (an (i:=8) rfl)) (pP h0) hdv hpe hpl2 hei hsh) rfl (fun _=>rfl) fun z=>?_;obtain ⟨⟨zs,zA,zc⟩,hz⟩:=z;have hz:zs.map (·.b)=iW f p (gO f q.1) []:=hz;iterate 14 refine G ?_
 refine au rfl ?_ ?_<;>intro hge
 ·iterate 2 refine G ?_
  refine gV (en uC (Iw)) (fun _ w _=>tQ w) ?_;iterate 5 refine G ?_
  exact bH (v:= .bool _) rfl rfl rfl fun w' hw=>⟨rfl,hw.1⟩
 have hge':dS f p (gO f q.1) []=0:=by simpa using hge
 have hM:M.ss.length=k:=by rw [hX.ss,aD];exact hsl
 have hD:=F5 hvi.len hk1 hvi.oi hvi.VL hei hvi.nv.rd hge';have hrk:=(BH (p:=p) (vY k) (by omega) hvi.nv (fun x hx h=>absurd h (MM _ x hx))).1;iterate 5 refine G ?_
 refine bZ (bR (en Wg (il (q0 rfl))) (fun w hw=>zn M hM hc (256*i) rfl (hw.dh 7 [1,2,3,4,5,6,0] (by decide) (by decide)) (fun w hw=>hX.k.ok w (hw.item (k:=4) rfl)) hy hvi.nv (by omega)) rfl (fun _=>rfl) fun u=>?_);obtain ⟨u,hu⟩:=u;generalize runN f p q.2 (vY k)=Z at hu hD hrk;have hzb:=hrk.bk;have hcnt:=hD.count hge';have hzl:zs.length=(iW f p (gO f q.1) []).length:=by rw [←hz,aD]
 iterate 5 refine G ?_
 refine qW (en pZ (il (q0 rfl))) (fun w hw=>tP (f:=f) (p:=p) (M:={M with kA:=u.1.1,kc:=u.1.2}) (b:=Z.bank) w (hw.item (k:=0) rfl) (cW hw (j:=3) rfl (fun _=>rfl) (by omega)) hzb) rfl (fun _=>rfl) fun b0=>?_;obtain ⟨bA,bc⟩:=b0;refine bO (Fj eI rfl nU (q0 rfl) rfl) ?_;iterate 10 refine G ?_
 refine ct [4,15,16,17,135,136,137,138,139,140,141,142,143,144,145,146,147,148,149,150,151,152,153,154,155] (fun t:Nat=>[(15, .int .i64 t)]) (fun _=>mM bA bc Z.bank::nf f p M Z u (ua zA zc zs::box b2 30 (kF f fa p a k)::DI r m f.aH q.1++[dD R])) (fun t=>t≤zs.length) (fun t=>zs.length -t) 0 ⟨rfl,trivial⟩ (fun w hw=>hw) rfl (aU _) ?_;intro t g2 htl;have htl:t≤zs.length:=htl;iterate 9 refine G ?_
 refine au rfl ?_ ?_<;>intro hlt2
 ·have hlt3:t<zs.length:=by simpa using hlt2
  have hzk:=np hlt3;generalize zs.getD t default=z at hzk;have hzm:z.b∈iW f p (gO f q.1) []:=by rw [←hz];exact cM (an hzk)
  refine fN (fun w hw=>dP (j:=7) hw rfl (by omega)) fun ⟨zb,hzb⟩=>?_;subst hzb;iterate 9 refine G ?_
  refine bO (bt t r9 oP (q0 rfl) (q0 rfl) (fun _=>⟨rfl,hlt3⟩)) ?_;refine bO (eS I1 oP (q0 rfl) (sf 7 rfl hzk)) ?_;refine gV (en Tryz.call28 (gr (q0 rfl) (q0 rfl))) (fun _ w hw=>Qf bA Z.bank.length bc Z.bank z w (cW hw (j:=0) rfl (fun _=>rfl) (by omega)) (by omega) (Hh hD.nd (hD.Vf z.b hzm))) ?_;iterate 17 refine G ?_
  refine au rfl ?_ ?_<;>intro hp1
  ·simp at hp1
  iterate 8 refine G ?_
  exact ay (t+1) eE ⟨rfl,trivial⟩ (fun w hw=>hw) rfl hlt3 (by show zs.length -(t+1)<zs.length -t;omega)
 iterate 12 refine G ?_
 refine ct [4,18,156,157,158,159,160,161,162,163,164,165,166,167,168,169,170,171,172,173,174,175] (fun t:Nat=>[(18, .int .i64 t)]) (fun _=>mM bA bc Z.bank::nf f p M Z u (ua zA zc zs::box b2 30 (kF f fa p a k)::DI r m f.aH q.1++[dD R])) (fun t=>t≤k) (fun t=>k -t) 0 ⟨rfl,trivial⟩ (fun w hw=>hw) rfl (aU _) ?_;intro t2 g3 ht2;have ht2:t2≤k:=ht2;iterate 5 refine G ?_
 refine bO (ea (v:= .int .i64 k) aJ (q0 rfl) (bx 8 rfl rfl)) ?_;iterate 3 refine G ?_
 refine au rfl ?_ ?_<;>intro hlt4
 ·have hlt5:t2<k:=by simpa using hlt4
  obtain ⟨x,hxt⟩: ∃x,Z.gh[t2]?=some x:=⟨_,aj (by rw [hD.len];exact hlt5)⟩;obtain ⟨a3,h3⟩:=Gx (l:=[]) hu hxt;have hl3:=B' hu;obtain ⟨hev,hop⟩:=hD.eO t2 hlt5;rw [getD_at hxt] at hev hop;have hsk:=(hrk.sv x (an hxt)).sk hc.ok hc.WH;have h40:=hsk.n;have h256:=hsk.d;iterate 8 refine G ?_
  refine qW (en Wh (gr (q0 rfl) (q0 rfl))) (fun w hw=>Ik (f:=f) (p:=p) (M:={M with kA:=u.1.1,kc:=u.1.2}) (bank:=Z.bank) (sv:=u.2.1) (ap:=u.2.2) t2 hev w (fun it hi=>zw (hw.dh 7 [1,2,3,4,5,6] (by decide) (by decide)) (yv hi)) (hX.ss.trans hu.pw.symm) (by omega) h3 hsk.ev (by simp only;omega)) rfl (fun _=>rfl) fun e1=>?_;obtain ⟨e1A,e1c⟩:=e1;refine G ?_;refine qW (en Ew (il (q0 rfl))) (fun w hw=>u7 (r:=r) (m:=m) (dv:=f.aH) (l:=q.1) w (hw.item (k:=10) rfl) (hw.item (k:=11) rfl) hpe (by omega)) rfl (fun _=>rfl) fun e2=>?_;obtain ⟨e2A,e2c⟩:=e2;refine gV (en Tryz.call29 (gr (q0 rfl) (q0 rfl))) (fun _ w hw=>Jd e1A e2A _ e1c e2c (fH q.1) w (cW hw (j:=1) rfl (fun _=>rfl) (by omega)) (cW hw (j:=0) rfl (fun _=>rfl) (by omega))) ?_;iterate 4 refine G ?_
  refine xx (tz rfl rfl) (by first|rfl|decide|simp) (bR (en Ex (gr (qk (v:= .pointer _) rfl (by first|rfl|decide|simp)) (qk (v:= .int _ _) rfl (by first|rfl|decide|simp)))) (fun w hw=>HR (M:={M with kA:=u.1.1,kc:=u.1.2}) t2 rfl (hw.dh 9 [3,4,5,6,7,8,0,1,2] (by decide) (by decide)) (hX.ss.trans hu.pw.symm) (by omega) h3 h256 hop) rfl (fun _=>rfl) fun w1=>?_);obtain ⟨w1A,w1c⟩:=w1;iterate 5 refine G ?_
  refine au rfl ?_ ?_<;>intro hr4
  ·simp at hr4
  iterate 8 refine G ?_
  exact ay (t2+1) eE ⟨rfl,trivial⟩ (fun w hw=>hw.pick [9,1,2,3,4,5,6,10,11,12,13,14] (by decide)) rfl hlt5 (by show k -(t2+1)<k -t2;omega)
 have hlen:((Z.bank.length:Nat):Int)=(zs.length:Int):=by rw [hcnt,hzl]
 iterate 13 refine G ?_
 refine EB (en uC (Iw)) (fun _ w _=>tQ w) rfl rfl rfl rfl ?_;iterate 5 refine G ?_
 exact bH (v:= .bool _) rfl rfl rfl fun w' hw=>⟨by simp [hcnt,hzl],hw.1⟩
theorem K5 (f:Fl) (fa:FA) (p:Pr) (a:xz) (k:Int) (A:Option Addr) (n c:Nat) (xs:List k7) (w:World) (hf:kp w f fa) (hp:lK w p a) (hx:gJ w 12 k7.cells A n xs) (hpl: ∀x∈xs,-9223372036854775808≤x.ev.place∧x.ev.place≤9223372036854775807):Calls Tryz.prog 6 #[.agg (kF f fa p a k).toArray, .slice A n c] w fun e w'=>e= .returned (.bool true)∧gz w w':=by
 cases hb:CC n fa a with
 |false=>exact Ih f fa p a k A n c w hb
 |true=>
  by_cases hz:pq f p k=0
  ·have h0:jk f p=0:=by
    refine dZ fun hn=>?_;unfold pq at hz;rw [av hn] at hz;exact hn hz
   have hk: ¬(k<1∨8<k):=fun hn=>by
    unfold pq at hz;rw [ah (fun h=>h h0),av hn] at hz;cases hz
   obtain ⟨m,rfl⟩: ∃m:Nat,k=m:=⟨k.toNat,by omega⟩;exact Nc f fa p a m A n c xs w hf hp hx hpl hb h0 (by omega) (by omega)
  exact K6 f fa p a k A n c w hf hp hb hz
end Go.Proofs.Net
namespace Go.Proofs.Net
open Go Go.RowKit Go.Proofs.E Go.Proofs.Cus Go.Proofs.Far Go.ChangeShapes Go.WideShapes Go.ChangeAt
theorem Qj {H:Type} {enc:TypeId×Value→H} {W:World} {sp:Nat→Bool} {held:Bool} {base:Nat} {v:Value} {d:DataW H} {ps:List MemPlace} (hv:Value.okWide Tryz.prog W .any base 5 v) (h:DataW.Trod enc Tryz.prog W 0 sp held 5 v d ps): ∃m,v= .int .u8 m∧0≤m∧m≤255:=by
 obtain ⟨n,rfl⟩:=okWide_int jX hv;obtain ⟨_,hf⟩:=h;obtain ⟨m,e,hw⟩:=gN jX hf;simp [Value.cells] at e;refine ⟨m,by rw [e],?_⟩;simp [Lit.wf,IntKind.min,IntKind.max,IntKind.signed,IntKind.bits] at hw;omega
end Go.Proofs.Net
