import Derived.Test.YtakhechhnnjbcaaGreatBC21
import Derived.Test.YtakhechhnnjbcaaGreatBC13
import Derived.Test.YtakhechhnnjbcaaGreatBC12
import Derived.Test.YtakhechhnnjbcaaGreatBC19
import Derived.Test.YtakhechhnnjbcaaGreatBC04
import Derived.Test.YtakhechhnnjbcaaGreatTc
set_option maxRecDepth 100000
set_option maxHeartbeats 8000000
set_option linter.unusedVariables false
set_option linter.unusedSimpArgs false
namespace Go.Proofs.Rid
open Go.Proofs.Cus
inductive xy (e:Ev) (p:Bool) (r:Rd):Bool→Rd→Prop
 |swap:e.kind=4→p=false→xy e p r p (rT e.bD (dX e) r)
 |oZ:e.kind=5→p=false→xy e p r true (po (dX e) r)
 |resume:e.kind=6→xy e p r false (dB p (dX e) r)
 |finish (to:Sp):e.kind≠3→(to.cn=1∨to.cn=2∨to.cn=6)→xy e p r false (kl to (dX e) (dB p (dX e) r))
inductive vr (e:Ev) (y:SY):SY→Prop
 |same (z:SY):e.kind≠3→z.cg=y.cg→z.bn=y.bn→vr e y z
 |new (z:SY) (from_:Sp):e.kind=3→z.cg=y.cg++[qv e from_ (dX e)]→z.bn=y.bn++[false]→vr e y z
 |one (z:SY) (k:Nat) (r q:Rd) (p p':Bool):e.kind≠3→y.cg[k]?=some r→r.open_=true→y.bn[k]?=some p→xy e p r p' q→z.cg=y.cg.set k q→z.bn=y.bn.set k p'→vr e y z
section
variable {n N:Nat} {s:PS} {y:SY}
theorem ML {α:Type} {l:List α} {k:Nat} {x:α} (h:l[k]?=some x):l.set k x=l:=by
 obtain ⟨h1,h2⟩:=aa.1 h;rw [←h2,mc]
theorem xi (h:JI n s y) (hI:jP n s) {e:Ev} {b:Nat} {x:Sp} (hx:s.aK[b]?=some x) (to:Sp) (h3:e.kind≠3) (hto:to.cn=1∨to.cn=2∨to.cn=6):vr e y (gX y b to (dX e)):=by
 by_cases hx3:x.cn=3
 ·obtain ⟨t,ht,htb⟩:=hI.spot b x hx hx3;obtain ⟨k,r,a1,a2,a3,a4,a5,a6,a7⟩:=h.open_ _ _ ht;rw [htb,aM] at a7;have hvg:y.cG.getD b 0=(k:Int):=by rw [aq,a7];rfl
  have hkl:=(aa.1 a1).1;have hrg:y.cg.getD k default=r:=by rw [aq,a1];rfl
  have hpg:y.bn.getD k false=t.bn:=by rw [aq,a6];rfl
  have hleave:gX y b to (dX e)={cg:=y.cg.set k (kl to (dX e) (dB t.bn (dX e) r)),mF:=y.mF,cG:=y.cG.set b (-1),bn:=y.bn.set k false,aK:=y.aK.set b to}:=by
   unfold gX;rw [hvg,ah (by omega)];simp only [aM];unfold kh;simp only;rw [hrg,hpg,fB];congr 1;rw [aq,bw,av rfl,av hkl];rfl
  rw [hleave];exact .one _ k r _ t.bn false h3 a1 a3 a6 (.finish to h3 hto) rfl rfl
 rw [Ap (h.free b x hx hx3)];exact .same _ h3 rfl rfl
theorem vD (h:JI n s y) (hI:jP n s) {e:Ev} {tr:List Int} (hb:0≤e.bD∧e.bD<n) (hc:dF tr s e=0):vr e y (dV y e):=by
 obtain ⟨b,hbk⟩: ∃b:Nat,e.bD=b:=⟨e.bD.toNat,by omega⟩;have hbn:b<n:=by omega
 obtain ⟨x,hx⟩: ∃x,s.aK[b]?=some x:=⟨_,aj (by rw [hI.len];exact hbn)⟩;have hg:s.aK.getD b default=x:=by rw [aq,hx];rfl
 by_cases h3:e.kind=3
 ·have ht:dV y e=qh y e (dX e):=by unfold dV;simp only;rw [av h3]
  rw [ht];exact .new _ _ h3 rfl rfl
 by_cases h4:e.kind=4
 ·have ht:dV y e=ko y e (dX e):=by unfold dV;simp only;rw [ah h3,av h4]
  rw [ht];obtain ⟨t,htl,hpz⟩: ∃t,k9 s.open_ e.aP=some t∧t.bn=false:=by
   unfold dF at hc;simp only at hc;rw [ah (by omega),ah (by omega),ah (by omega),av h4,hbk,aM,hg] at hc;cases hl:k9 s.open_ e.aP with
   |none=>rw [hl] at hc;cases hc
   |some t=>
    rw [hl] at hc;simp only at hc;split at hc
    ·cases hc
    exact ⟨t,rfl,qG (by decide) hc⟩
  obtain ⟨k,r,c1,c2,c3,c4,c5,c6,c7⟩:=h.open_ _ _ (nh htl);have hrg:y.cg.getD k default=r:=by rw [aq,c1];rfl
  have hby:=h.CV k r c1;rw [c2] at hby;have hr:(ko y e (dX e)).cg=y.cg.set k (rT e.bD (dX e) r)∧(ko y e (dX e)).bn=y.bn:=by
   unfold ko;rw [hby];simp only [aM];rw [hrg];exact ⟨rfl,trivial⟩
  exact .one _ k r _ t.bn t.bn h3 c1 c3 c6 (.swap h4 hpz) hr.1 (by rw [hr.2,ML c6])
 by_cases h56:e.kind=5∨e.kind=6
 ·obtain ⟨hx3,hxp⟩:x.cn=3∧(x.bn==decide (e.kind=5))=false:=by
   unfold dF at hc;simp only at hc;rw [ah (by omega),ah (by omega),ah (by omega),ah (by omega),av h56,hbk,aM,hg] at hc;split at hc
   ·cases hc
   rename_i h1;exact ⟨kM h1,qG (by decide) hc⟩
  obtain ⟨t,ht,htb⟩:=hI.spot b x hx hx3;obtain ⟨z,hz,_,_,hzp⟩:=h.at_ hI ht htb;have hzx:z=x:=by rw [hx] at hz;cases hz;rfl
  subst hzx;obtain ⟨k,r,a1,a2,a3,a4,a5,a6,a7⟩:=h.open_ _ _ ht;rw [htb,aM] at a7;have hvg:y.cG.getD b 0=(k:Int):=by rw [aq,a7];rfl
  have hrg:y.cg.getD k default=r:=by rw [aq,a1];rfl
  have hpg:y.bn.getD k false=t.bn:=by rw [aq,a6];rfl
  by_cases h5:e.kind=5
  ·have hp0:t.bn=false:=by rw [←hzp];simpa [h5] using hxp
   have ht5:dV y e={y with cg:=y.cg.set k (po (dX e) r),bn:=y.bn.set k true}:=by
    unfold dV;simp only;rw [ah h3,ah h4,av h5,hbk,aM,hvg,av (by omega),aM,hrg]
   rw [ht5];exact .one _ k r _ t.bn true h3 a1 a3 a6 (.oZ h5 hp0) rfl rfl
  have h6:e.kind=6:=by omega
  have ht6:dV y e={y with cg:=y.cg.set k (dB t.bn (dX e) r),bn:=y.bn.set k false}:=by
   unfold dV;simp only;rw [ah h3,ah h4,ah h5,av h6,hbk,aM,hvg,av (by omega),aM];unfold kh;rw [hrg,hpg]
  rw [ht6];exact .one _ k r _ t.bn false h3 a1 a3 a6 (.resume h6) rfl rfl
 have h5: ¬e.kind=5:=fun h=>h56 (.inl h);have h6: ¬e.kind=6:=fun h=>h56 (.inr h);by_cases h1:e.kind=1
 ·have ht:dV y e=gX y b ⟨1,e.place,0,false⟩ (dX e):=by unfold dV;simp only;rw [ah h3,ah h4,ah h5,ah h6,av h1,hbk,aM]
  rw [ht];exact xi h hI hx _ h3 (.inl rfl)
 by_cases h2:e.kind=2
 ·have ht:dV y e=gX y b ⟨2,e.place,0,false⟩ (dX e):=by unfold dV;simp only;rw [ah h3,ah h4,ah h5,ah h6,ah h1,av h2,hbk,aM]
  rw [ht];exact xi h hI hx _ h3 (.inr (.inl rfl))
 by_cases h9:e.kind=9
 ·have ht:dV y e=gX y b ⟨6,0,0,false⟩ (dX e):=by unfold dV;simp only;rw [ah h3,ah h4,ah h5,ah h6,ah h1,ah h2,av h9,hbk,aM]
  rw [ht];exact xi h hI hx _ h3 (.inr (.inr rfl))
 have ht:dV y e=y:=by unfold dV;simp only;rw [ah h3,ah h4,ah h5,ah h6,ah h1,ah h2,ah h9]
 rw [ht];exact .same _ h3 rfl rfl
end
end Go.Proofs.Rid
namespace Go.Proofs.Rid
open Go.Proofs.Cus
def wD:Int→List Pz→Option Int
 |last,[]=>some last
 |last,p::l=>if last≤p.from_.lo∧p.from_.lo≤p.mK.lo then wD p.mK.lo l else none
theorem BU: ∀(l:List Pz) (last m:Int) (p:Pz),wD last l=some m→m≤p.from_.lo→p.from_.lo≤p.mK.lo→wD last (l++[p])=some p.mK.lo
 |[],last,m,p,h,h1,h2=>by
  unfold wD at h;cases h;simp [wD,h1,h2]
 |q::l,last,m,p,h,h1,h2=>by
  unfold wD at h;split at h
  ·rename_i hc;show (if last≤q.from_.lo∧q.from_.lo≤q.mK.lo then wD q.mK.lo (l++[p]) else none)=_;rw [av hc];exact BU l q.mK.lo m p h h1 h2
  cases h
structure RV (T:Int) (p:Bool) (r:Rd):Prop where
 id:1≤r.id∧r.id≤1000000
 rider:0≤r.rider∧r.rider<128
 start:n9 r.start=true
 end_:n9 r.end_=true
 cw:r.cw.all te=true
 bz:r.bz.all ux=true
 wh:r.open_=decide (r.wh=3)
 zero:r.open_=true→r.end_=nY
 chain:ll r.start r.cw r.end_=true
 Nq:kJ r.open_ r.cw=true
 last:r.open_=true→ ∃l g,r.cw=l++[g]∧g.mK=nY∧g.from_.lo≤T
 shut:r.open_=false→ ∃m,wD r.start.lo r.bz=some m∧m≤r.end_.lo
 ended:r.open_=true→p=false→ ∃m,wD r.start.lo r.bz=some m∧m≤T
 goes:r.open_=true→p=true→ ∃l w m,r.bz=l++[⟨w,nY⟩]∧wD r.start.lo l=some m∧m≤w.lo∧w.lo≤T
theorem RV.late {T T':Int} {p:Bool} {r:Rd} (h:RV T p r) (ht:T≤T'):RV T' p r:=by
 refine ⟨h.id,h.rider,h.start,h.end_,h.cw,h.bz,h.wh,h.zero,h.chain,h.Nq,fun ho=>?_,h.shut,fun ho hp=>?_,fun ho hp=>?_⟩
 ·obtain ⟨l,g,h1,h2,h3⟩:=h.last ho;exact ⟨l,g,h1,h2,by omega⟩
 ·obtain ⟨m,h1,h2⟩:=h.ended ho hp;exact ⟨m,h1,by omega⟩
 obtain ⟨l,w,m,h1,h2,h3,h4⟩:=h.goes ho hp;exact ⟨l,w,m,h1,h2,h3,by omega⟩
theorem RV.any {T:Int} {p p':Bool} {r:Rd} (h:RV T p r) (ho:r.open_=false):RV T p' r:=
 ⟨h.id,h.rider,h.start,h.end_,h.cw,h.bz,h.wh,h.zero,h.chain,h.Nq,h.last,h.shut,fun h1=>(by rw [ho] at h1;cases h1),fun h1=>(by rw [ho] at h1;cases h1)⟩
theorem rD: ∀(l:List Lg) (a e:pG) (g:Lg),ll a (l++[g]) e=(ll a l g.from_&&decide (g.mK=e))
 |[],a,e,g=>by
  simp only [ka,ll];congr 1;rw [mJ];simp only [dd];exact UI
 |h::l,a,e,g=>by
  show (decide (h.from_=a)&&ll h.mK (l++[g]) e)=((decide (h.from_=a)&&ll h.mK l g.from_)&&decide (g.mK=e));rw [rD l,Bool.and_assoc]
def Cl (g:Lg):Bool:=!decide (g.mK.lo<g.from_.lo)
theorem vK: ∀(l:List Lg) (g:Lg),kJ true (l++[g])=l.all Cl
 |[],g=>by simp [kJ]
 |h::l,g=>by
  show (!(decide (h.mK.lo<h.from_.lo)&&!(true&&(l++[g]).isEmpty))&&kJ true (l++[g]))=_;rw [vK l g,show (l++[g]).isEmpty=false by cases l<;>rfl,nQ];unfold Cl;simp
theorem D0: ∀l:List Lg,kJ false l=l.all Cl
 |[]=>rfl
 |h::l=>by
  show (!(decide (h.mK.lo<h.from_.lo)&&!(false&&l.isEmpty))&&kJ false l)=_;rw [D0 l,nQ];unfold Cl;simp
theorem nM (w:pG) (l:List Lg) (g:Lg):lh w (l++[g])=l++[{g with mK:=w}]:=by
 unfold lh;rw [show (l++[g]).length -1=l.length by simp,aq,cy (bq _),fy,ib _ _ (bq _),fy];rfl
theorem IE (w:pG) (l:List Pz) (g:Pz):CG w (l++[g])=l++[{g with mK:=w}]:=by
 unfold CG;rw [show (l++[g]).length -1=l.length by simp,aq,cy (bq _),fy,ib _ _ (bq _),fy];rfl
theorem V2:n9 nY=true:=by decide
theorem RV.resume {T:Int} {p:Bool} {r:Rd} {w:pG} (h:RV T p r) (ho:r.open_=true) (hw:n9 w=true) (hT:T≤w.lo):RV w.lo false (dB p w r)∧(dB p w r).open_=true∧(dB p w r).cw=r.cw∧(dB p w r).id=r.id∧(dB p w r).rider=r.rider∧(dB p w r).start=r.start:=by
 cases p with
 |false=>
  have:dB false w r=r:=by unfold dB;rw [ah (by simp)]
  rw [this];exact ⟨h.late hT,ho,rfl,rfl,rfl,rfl⟩
 |true=>
  obtain ⟨l,w0,m,h1,h2,h3,h4⟩:=h.goes ho rfl;have hq:dB true w r={r with bz:=l++[⟨w0,w⟩]}:=by
   unfold dB;rw [av ⟨rfl,by rw [h1];simp⟩,h1,IE]
  rw [hq];have hpz:l.all ux=true∧n9 w0=true:=by
   have:=h.bz;rw [h1,lF] at this;simp [ux] at this;exact ⟨by simpa [ux] using this.1,this.2.1⟩
  have hl:=h.late hT;refine ⟨⟨h.id,h.rider,h.start,h.end_,h.cw,?_,h.wh,h.zero,h.chain,h.Nq,hl.last,fun h0=>?_,fun _ _=>?_,fun _ h0=>(by cases h0)⟩,ho,rfl,rfl,rfl,rfl⟩
  ·show (l++[(⟨w0,w⟩:Pz)]).all ux=true;rw [lF,hpz.1];simp [ux,hpz.2,hw]
  ·rw [show r.open_=false from h0] at ho;cases ho
  exact ⟨w.lo,BU l _ m ⟨w0,w⟩ h2 h3 (by show w0.lo≤w.lo;omega),gI _⟩
theorem RV.step {T:Int} {p p':Bool} {r q:Rd} {e:Ev} (h:RV T p r) (ho:r.open_=true) (hs:xy e p r p' q) (hw:n9 (dX e)=true) (hT:T≤e.at_):RV e.at_ p' q:=by
 have hl:=h.late hT;obtain ⟨l,g,hlg,hgz,hgT⟩:=h.last ho;have hgo:l.all te=true∧n9 g.from_=true:=by
  have:=h.cw;rw [hlg,lF] at this;simp [te] at this;exact ⟨by simpa [te] using this.1,this.2.1⟩
 have hlo:l.all Cl=true:=by have:=h.Nq;rw [ho,hlg,vK] at this;exact this
 have hch:ll r.start l g.from_=true:=by
  have:=h.chain;rw [hlg,rD] at this;simp at this;exact this.1
 have hgl:Cl {g with mK:=dX e}=true:=by
  unfold Cl;have: ¬(dX e).lo<g.from_.lo:=by show ¬e.at_<g.from_.lo;omega
  simp [this]
 have hle:l.all te=true→(l++[({g with mK:=dX e}:Lg)]).all te=true:=fun h1=>by
  rw [lF,h1];simp [te,hgo.2,hw]
 cases hs with
 |swap h4 hp=>
  refine ⟨h.id,h.rider,h.start,h.end_,?_,h.bz,h.wh,h.zero,?_,?_,fun _=>?_,fun h0=>?_,fun _ _=>?_,fun _ h0=>?_⟩
  ·show (lh (dX e) r.cw++[(⟨e.bD,dX e,nY⟩:Lg)]).all te=true;rw [hlg,nM,lF,hle hgo.1];simp [te,hw,V2]
  ·show ll r.start (lh (dX e) r.cw++[(⟨e.bD,dX e,nY⟩:Lg)]) r.end_=true;rw [hlg,nM,rD,rD,h.zero ho];simp [hch]
  ·show kJ r.open_ (lh (dX e) r.cw++[(⟨e.bD,dX e,nY⟩:Lg)])=true;rw [ho,vK,hlg,nM,lF,hlo];simp [hgl]
  ·exact ⟨_,_,rfl,rfl,gI _⟩
  ·rw [show r.open_=false from h0] at ho;cases ho
  ·exact hl.ended ho hp
  rw [hp] at h0;cases h0
 |oZ h5 hp=>
  refine ⟨h.id,h.rider,h.start,h.end_,h.cw,?_,h.wh,h.zero,h.chain,h.Nq,hl.last,fun h0=>?_,fun _ h0=>(by cases h0),fun _ _=>?_⟩
  ·show (r.bz++[(⟨dX e,nY⟩:Pz)]).all ux=true;rw [lF,h.bz];simp [ux,hw,V2]
  ·rw [show r.open_=false from h0] at ho;cases ho
  obtain ⟨m,h1,h2⟩:=h.ended ho hp;exact ⟨r.bz,dX e,m,rfl,h1,by show m≤e.at_;omega,gI _⟩
 |resume h6=>exact (h.resume ho hw hT).1
 |finish to h3 hto=>
  obtain ⟨h1,h2,h3',h4,h5,h6⟩:=h.resume (w:=dX e) ho hw hT;obtain ⟨m,hm1,hm2⟩:=h1.ended h2 rfl;refine ⟨h1.id,h1.rider,h1.start,hw,?_,h1.bz,?_,fun h0=>(by cases h0),?_,?_,fun h0=>(by cases h0),fun _=>⟨m,hm1,hm2⟩,fun h0=>(by cases h0),fun h0=>(by cases h0)⟩
  ·show (lh (dX e) (dB p (dX e) r).cw).all te=true;rw [h3',hlg,nM];exact hle hgo.1
  ·show false=decide (to.cn=3);rcases hto with h0|h0|h0<;>rw [h0]<;>rfl
  ·show ll (dB p (dX e) r).start (lh (dX e) (dB p (dX e) r).cw) (dX e)=true;rw [h6,h3',hlg,nM,rD];simp [hch]
  show kJ false (lh (dX e) (dB p (dX e) r).cw)=true;rw [D0,h3',hlg,nM,lF,hlo];simp [hgl]
theorem JU {f:Fl} {e:Ev} (h:fF f e=0):n9 (dX e)=true∧(e.kind=3→(1≤e.aP∧e.aP≤1000000)∧0≤e.rider∧e.rider<128):=by
 have hfl:=(kV h).1;have hrd:f.na≤128:=by
  unfold fR at hfl;split at hfl
  ·cases hfl
  rename_i h1;simp [within] at h1;omega
 unfold fF at h;rw [ah (fun h0=>h0 hfl)] at h;split at h
 ·cases h
 rename_i h1;split at h
 ·cases h
 split at h
 ·cases h
 split at h
 ·cases h
 split at h
 ·cases h
 rename_i h5;simp at h1;refine ⟨?_,fun h3=>?_⟩
 ·unfold n9 dX;simp;omega
 unfold named at h5;simp [h3,within] at h5;omega
theorem Be {f:Fl}: ∀(l:List Ev) (s:PS) (za:List Ev),∃t,(jD f iI l (s,za)).2=za++t∧t.Sublist l
 |[],s,za=>⟨[],by simp [jD],List.Sublist.slnil⟩
 |e::l,s,za=>by
  show ∃t,(jD f iI l (oY iI za e (kg f s e))).2=za++t∧_;by_cases h0:rM f s e=0
  ·by_cases hk:e.kind=10
   ·rw [zl h0 hk];obtain ⟨t,a1,a2⟩:=Be l s za;exact ⟨t,a1,a2.cons e⟩
   obtain ⟨h1,_,_⟩:=EH h0 hk;rw [h1];obtain ⟨t,a1,a2⟩:=Be l (kW s e) (za++[e]);refine ⟨e::t,?_,a2.cons_cons e⟩;show (jD f iI l (kW s e,iI za (kW s e) e 0)).2=_;rw [show iI za (kW s e) e 0=za++[e] from rfl,a1];simp
  rw [Bz h0];show ∃t,(jD f iI l (s,iI za s e (rM f s e))).2=za++t∧_;rw [show iI za s e (rM f s e)=za by unfold iI;rw [ah h0]];obtain ⟨t,a1,a2⟩:=Be l s za;exact ⟨t,a1,a2.cons e⟩
def VI (T:Int) (y:SY):Prop:= ∀(k:Nat) r p,y.cg[k]?=some r→y.bn[k]?=some p→RV T p r
theorem VI.step {n N:Nat} {T:Int} {y z:SY} {e:Ev} (h:VI T y) (hW:WF n N y) (hf:vr e y z) (hw:n9 (dX e)=true) (hid:e.kind=3→(1≤e.aP∧e.aP≤1000000)∧0≤e.rider∧e.rider<128) (hT:T≤e.at_):VI e.at_ z:=by
 cases hf with
 |same h3 h1 h2=>intro k r p hr hp;rw [h1] at hr;rw [h2] at hp;exact (h k r p hr hp).late hT
 |new from_ h3 h1 h2=>
  intro k r p hr hp;rw [h1] at hr;rw [h2] at hp;rw [List.getElem?_append] at hr hp;split at hr
  ·rename_i hk;rw [av (by rw [hW.bn];exact hk)] at hp;exact (h k r p hr hp).late hT
  rename_i hk;rw [ah (by rw [hW.bn];exact hk)] at hp;have hk0:k -y.cg.length=0:=by
   rcases du (k -y.cg.length) with h0|h0
   ·exact h0
   rw [dC (by simp;omega)] at hr;cases hr
  rw [hk0] at hr;rw [hW.bn,hk0] at hp;simp at hr hp;subst hr hp;obtain ⟨hi1,hi2⟩:=hid h3;refine ⟨hi1,hi2,hw,V2,?_,rfl,rfl,fun _=>rfl,?_,?_,fun _=>⟨[],_,rfl,rfl,gI _⟩,fun h0=>(by cases h0),fun _ _=>⟨e.at_,rfl,gI _⟩,fun _ h0=>(by cases h0)⟩
  ·show [(⟨e.bD,dX e,nY⟩:Lg)].all te=true;simp [te,hw,V2]
  ·show (decide (dX e=dX e)&&decide (nY=nY))=true;simp
  show kJ true ([]++[(⟨e.bD,dX e,nY⟩:Lg)])=true;rw [vK];rfl
 |one j r q p p' h3 hr ho hp hs h1 h2=>
  have hq:=(h j r p hr hp).step ho hs hw hT;intro k u v hu hv;rw [h1,gM q hr] at hu;rw [h2,gM p' hp] at hv;split at hu
  ·rename_i e1;rw [av e1] at hv;cases hu;cases hv;exact hq
  rename_i e1;rw [ah e1] at hv;exact (h k u v hu hv).late hT
theorem VI.run {f:Fl} {n:Nat} (hn:f.eV=n): ∀(l:List Ev) {N:Nat} {T:Int} {s:PS} {y:SY},VI T y→vw n N s y→Replay f s l→(∀e∈l,T≤e.at_)→l.Pairwise (fun a b=>a.at_≤b.at_)→ ∃T',VI T' (l.foldl dV y)
 |[],N,T,s,y,h,_,_,_,_=>⟨T,h⟩
 |e::l,N,T,s,y,h,hJ,⟨h1,h2,h3,h4⟩,hT,hs=>by
  have hb:=(kV h1).2.1;rw [hn] at hb;obtain ⟨hw,hid⟩:=JU h1;have hJ2:vw n (N+1) (kW s e) (dV y e):=⟨hJ.ji.step hJ.inv hJ.wf hb h3,hJ.inv.step hb h3,hJ.wf.tell hb⟩;obtain ⟨hs1,hs2⟩:=bL.1 hs;exact VI.run hn l (h.step hJ.wf (vD hJ.ji hJ.inv hb h3) hw hid (hT e (by simp))) hJ2 h4 (fun a ha=>hs1 a ha) hs2
theorem IT {f:Fl} (hok:fR f=0) (xs:List Ev):(gS f xs).Pairwise fun a b=>a.at_≤b.at_:=by
 obtain ⟨t,h1,h2⟩:=Be (f:=f) (setOf xs) (fu (lH f)) [];have ha:gS f xs=t:=by unfold gS;rw [av hok,h1];simp
 rw [ha];exact ((mx xs).sorted.sublist h2).imp fun h=>CY h
def EI (T:Int) (y:SY):Prop:= ∀r∈y.cg,r.open_=false→r.end_.lo≤T
theorem EI.step {T:Int} {y z:SY} {e:Ev} (h:EI T y) (hf:vr e y z) (hT:T≤e.at_):EI e.at_ z:=by
 cases hf with
 |same h3 h1 h2=>intro r hr ho;rw [h1] at hr;have:=h r hr ho;omega
 |new from_ h3 h1 h2=>
  intro r hr ho;rw [h1] at hr;rcases aQ.1 hr with hr|hr
  ·have:=h r hr ho;omega
  rw [bu] at hr;subst hr;cases ho
 |one j r q p p' h3 hr ho hp hs h1 h2=>
  intro u hu huo;rw [h1] at hu;rcases cK hu with hu|rfl
  ·have:=h u hu huo;omega
  have hro: ∀p,(dB p (dX e) r).open_=r.open_:=fun p=>by unfold dB;split<;>rfl
  cases hs with
  |swap h4 hp0=>rw [show r.open_=false from huo] at ho;cases ho
  |oZ h5 hp0=>rw [show r.open_=false from huo] at ho;cases ho
  |resume h6=>rw [hro,ho] at huo;cases huo
  |finish to h3' hto=>exact gI _
theorem EI.run {f:Fl} {n:Nat} (hn:f.eV=n): ∀(l:List Ev) {N:Nat} {T:Int} {s:PS} {y:SY},EI T y→VI T y→vw n N s y→Replay f s l→(∀e∈l,T≤e.at_)→l.Pairwise (fun a b=>a.at_≤b.at_)→ ∀t,T≤t→(∀e∈l,e.at_≤t)→ ∃T',T'≤t∧EI T' (l.foldl dV y)∧VI T' (l.foldl dV y)
 |[],N,T,s,y,h,hV,_,_,_,_,t,ht,_=>⟨T,ht,h,hV⟩
 |e::l,N,T,s,y,h,hV,hJ,⟨h1,h2,h3,h4⟩,hT,hs,t,ht,hl=>by
  have hb:=(kV h1).2.1;rw [hn] at hb;obtain ⟨hw,hid⟩:=JU h1;have hform:=vD hJ.ji hJ.inv hb h3;have hJ2:vw n (N+1) (kW s e) (dV y e):=⟨hJ.ji.step hJ.inv hJ.wf hb h3,hJ.inv.step hb h3,hJ.wf.tell hb⟩;obtain ⟨hs1,hs2⟩:=bL.1 hs;have hTe:=hT e (by simp);exact EI.run hn l (h.step hform hTe) (hV.step hJ.wf hform hw hid hTe) hJ2 h4 (fun a ha=>hs1 a ha) hs2 t (hl e (by simp)) (fun a ha=>hl a (by simp [ha]))
def Vv (f:Fl) (xs:List Ev):PS:=(gS f xs).foldl kW (fu (lH f))
def JL (b:Int) (o:Bool) (e:Ev):Bool:=if (decide (e.bD=b)&&!decide (e.kind=10))=true then decide (e.kind=5) else o
def wG (b:Int) (l:List Ev):Bool:=l.foldl (JL b) false
def GI (l:List Ev) (s:PS):Prop:= ∀(b:Nat) x,s.aK[b]?=some x→x.cn=3→x.bn=wG b l
theorem D3 (b:Int) (l:List Ev) (e:Ev):wG b (l++[e])=JL b (wG b l) e:=by unfold wG;rw [df];rfl
theorem Iy {b:Int} {l:List Ev} {e:Ev} (h:e.bD≠b):wG b (l++[e])=wG b l:=by
 rw [D3];unfold JL;simp [h]
theorem NL {l:List Ev} {e:Ev} (h:e.kind≠10):wG e.bD (l++[e])=decide (e.kind=5):=by
 rw [D3];unfold JL;simp [h]
theorem GI.put {l:List Ev} {e:Ev} {k:Nat} {ss:List Sp} {z:Sp} (hbk:e.bD=k) (hk10:e.kind≠10) (hz:z.cn=3→z.bn=decide (e.kind=5))
  (pw: ∀(b:Nat) x,b≠k→ss[b]?=some x→x.cn=3→x.bn=wG b l): ∀(b:Nat) x,(ss.set k z)[b]?=some x→x.cn=3→x.bn=wG b (l++[e]):=by
 intro b x hx h3;by_cases hb:b=k
 ·subst hb;rw [bw,av rfl] at hx;split at hx
  ·cases hx;rw [hz h3,←hbk,NL hk10]
  cases hx
 rw [cj (fun e=>hb e.symm)] at hx;rw [Iy (by rw [hbk];omega)];exact pw b x hb hx h3
theorem GI.step {f:Fl} {n:Nat} {tr:List Int} {s:PS} {l:List Ev} {e:Ev} (he:fF f e=0) (hk10:e.kind≠10) (hc:dF tr s e=0) (h:GI l s):GI (l++[e]) (kW s e):=by
 obtain ⟨_,hb,_,hkd,_⟩:=kV he;obtain ⟨k,hbk⟩: ∃k:Nat,e.bD=k:=⟨e.bD.toNat,by omega⟩;have hkn:e.bD.toNat=k:=by omega
 have pw: ∀(b:Nat) x,b≠k→s.aK[b]?=some x→x.cn=3→x.bn=wG b l:=fun b x _=>h b x;have hlv: ∀to:Sp,to.cn≠3→GI (l++[e]) (fT s k to):=fun to ht=>GI.put (z:=to) (ss:=s.aK) hbk hk10 (fun h3=>absurd h3 ht) pw;unfold dF at hc;unfold kW;simp only [hkn] at hc⊢;by_cases h1:e.kind=1
 ·rw [av h1];exact hlv _ (by simp)
 rw [ah h1] at hc⊢;by_cases h2:e.kind=2
 ·rw [av h2];exact hlv _ (by simp)
 rw [ah h2] at hc⊢;by_cases h3:e.kind=3
 ·rw [av h3];exact GI.put (ss:=s.aK) hbk hk10 (fun _=>by rw [h3];rfl) pw
 rw [ah h3] at hc⊢;by_cases h4:e.kind=4
 ·rw [av h4] at hc⊢;cases hl:k9 s.open_ e.aP with
  |none=>rw [hl] at hc;simp at hc
  |some t=>
   rw [hl] at hc;simp only at hc⊢;split at hc
   ·cases hc
   rename_i hp;have hn3:=mi (show dK (s.aK.getD k default)=true by simpa using hp);refine GI.put hbk hk10 (fun _=>by rw [h4];rfl) fun b x hbk' hx hx3=>?_;rw [bw] at hx;split at hx
   ·split at hx
    ·cases hx;exact absurd hx3 hn3
    cases hx
   exact h b x hx hx3
 rw [ah h4] at hc⊢;by_cases h5:e.kind=5∨e.kind=6
 ·rw [av h5];exact GI.put (ss:=s.aK) hbk hk10 (fun _=>rfl) pw
 rw [ah h5] at hc⊢;by_cases h7:e.kind=7
 ·rw [av h7];exact hlv _ (by simp)
 rw [ah h7] at hc⊢;by_cases h8:e.kind=8
 ·rw [av h8];exact hlv _ (by simp)
 rw [ah h8] at hc⊢;by_cases h9:e.kind=9
 ·rw [av h9];exact hlv _ (by simp)
 omega
theorem GI.run {f:Fl}: ∀(l:List Ev) {s:PS} {pre:List Ev},Replay f s l→GI pre s→GI (pre++l) (l.foldl kW s)
 |[],s,pre,_,h=>by rw [cz];exact h
 |e::l,s,pre,⟨h1,h2,h3,h4⟩,h=>by
  have:=GI.run l h4 (GI.step (n:=0) h1 h2 h3 h);rw [cP] at this;exact this
theorem uK {f:Fl}: ∀(l:List Ev) (s:PS) (za:List Ev),∃t,jD f iI l (s,za)=(t.foldl kW s,za++t)∧Replay f s t∧t.Sublist l
 |[],s,za=>⟨[],by simp [jD],trivial,List.Sublist.refl _⟩
 |e::l,s,za=>by
  show ∃t,jD f iI l (oY iI za e (kg f s e))=(t.foldl kW s,za++t)∧_;by_cases h0:rM f s e=0
  ·by_cases hk:e.kind=10
   ·rw [zl h0 hk];obtain ⟨t,h1,h2,h3⟩:=uK l s za;exact ⟨t,h1,h2,h3.cons _⟩
   obtain ⟨h1,h2,h3⟩:=EH h0 hk;rw [h1];obtain ⟨t,a1,a2,a3⟩:=uK l (kW s e) (za++[e]);refine ⟨e::t,?_,⟨h2,hk,h3,a2⟩,a3.cons_cons _⟩;show jD f iI l (kW s e,iI za (kW s e) e 0)=_;rw [show iI za (kW s e) e 0=za++[e] from rfl,a1];simp
  rw [Bz h0];show ∃t,jD f iI l (s,iI za s e (rM f s e))=_∧_;rw [show iI za s e (rM f s e)=za by unfold iI;rw [ah h0]];obtain ⟨t,h1,h2,h3⟩:=uK l s za;exact ⟨t,h1,h2,h3.cons _⟩
theorem LW {f:Fl} (hok:fR f=0) (xs:List Ev) (t:Int): ∃rest,gS f xs=gS f (lQ t xs)++rest∧Replay f (Vv f (lQ t xs)) rest∧(∀e∈gS f (lQ t xs),e.at_≤t)∧(∀e∈rest,t<e.at_):=by
 have hs:=(mx xs).sorted;obtain ⟨k,hk,hf,hd⟩:=CK (l:=setOf xs) (fun x=>!decide (t<x.at_)) hs (fun a b hab hb=>by simp at hb⊢;omega);have hu:lQ t xs=(setOf xs).take k:=hf;obtain ⟨t1,a1,a2,a3⟩:=uK (f:=f) ((setOf xs).take k) (fu (lH f)) [];obtain ⟨t2,b1,b2,b3⟩:=uK (f:=f) ((setOf xs).drop k) (t1.foldl kW (fu (lH f))) ([]++t1);have hacc:gS f xs=t1++t2:=by
  unfold gS;rw [av hok]
  conv=>lhs;rw [←fz k (setOf xs)]
  rw [Ga,a1,b1];simp
 have hpre:gS f (lQ t xs)=t1:=by
  unfold gS;rw [av hok,KC,hu,a1];simp
 refine ⟨t2,by rw [hacc,hpre],by unfold Vv;rw [hpre];exact b2,fun e he=>?_,fun e he=>?_⟩
 ·rw [hpre] at he;have h2:=a3.subset he;rw [←hf] at h2;have:=(dT.1 h2).2;simp at this;simpa using this
 have:=hd e (b3.subset he);simp at this;simpa using this
def kj (hz:Int) (r:Rd):Bool:=!r.open_&&decide (r.end_.lo<hz)
theorem IA {α:Type} {p:α→Bool} {l:List α} {k:Nat} {x y:α} (hk:l[k]?=some x) (hx:p x=false) (hy:p y=false):(l.set k y).filter p=l.filter p:=by
 obtain ⟨h1,h2⟩:=aa.1 hk;have e1:l=l.take k++x::l.drop (k+1):=by
  rw [←h2,List.getElem_cons_drop,fz]
 have e2:l.set k y=l.take k++y::l.drop (k+1):=by
  rw [List.set_eq_take_append_cons_drop,av h1]
 rw [e2]
 conv=>rhs;rw [e1]
 rw [dw,dw,jI,jI,ah (by rw [hy];decide),ah (by rw [hx];decide)]
theorem NZ {hz:Int} {e:Ev} {y z:SY} (h:vr e y z) (he:hz≤e.at_):z.cg.filter (kj hz)=y.cg.filter (kj hz):=by
 cases h with
 |same _ h2=>rw [h2]
 |new fr _ h2=>
  rw [h2,dw];have:kj hz (qv e fr (dX e))=false:=rfl;simp [this]
 |one k r q p p' _ hk ho _ hs h2=>
  rw [h2];refine IA hk (by unfold kj;rw [ho];rfl) ?_;cases hs with
  |swap=>unfold kj rT;simp [ho]
  |oZ=>unfold kj po;simp [ho]
  |resume=>unfold kj dB;split<;>simp [ho]
  |finish to=>unfold kj kl dX;simp;omega
theorem JS {f:Fl} {n:Nat} (hn:f.eV=n) {hz:Int}: ∀(l:List Ev) {N:Nat} {s:PS} {y:SY},vw n N s y→Replay f s l→(∀e∈l,hz≤e.at_)→(l.foldl dV y).cg.filter (kj hz)=y.cg.filter (kj hz)
 |[],_,_,_,_,_,_=>rfl
 |e::l,N,s,y,h,⟨h1,h2,h3,h4⟩,hz=>by
  have hb:=(kV h1).2.1;rw [hn] at hb;rw [cO,JS hn l (N:=N+1) ⟨h.ji.step h.inv h.wf hb h3,h.inv.step hb h3,h.wf.tell hb⟩ h4 fun e' he'=>hz e' (aB _ he')];exact NZ (vD h.ji h.inv hb h3) (hz e (by simp))
theorem D9 {f:Fl} (hok:fR f=0) (xs:List Ev) (hz:Int):(kf f xs).cg.filter (kj hz)=(kf f (lQ (hz -1) xs)).cg.filter (kj hz):=by
 obtain ⟨rest,hacc,hrr,hpre,hpost⟩:=LW hok xs (hz -1);have hJ:=tg hok (lQ (hz -1) xs);have:kf f xs=rest.foldl dV (kf f (lQ (hz -1) xs)):=by unfold kf;rw [hacc,df]
 rw [this];exact JS (Cd hok) rest hJ hrr fun e he=>by have:=hpost e he;omega
theorem G5 {l m:List Rd} {p:Rd→Bool} (hl:(l.map (·.id)).Nodup) (hm:(m.map (·.id)).Nodup) (h:l.filter p=m.filter p):(Dn l).filter p=(Dn m).filter p:=by
 refine se ?_ ((vl hl).filter p) ((vl hm).filter p);have h1:=(mC l).filter p;have h2:=(mC m).filter p;rw [h] at h1;exact h1.trans h2.symm
theorem Rs {f:Fl} {xs ys:List Ev} {hz:Int} (h:lQ (hz -1) ys=lQ (hz -1) xs):(iw f ys).filter (kj hz)=(iw f xs).filter (kj hz):=by
 by_cases hok:fR f=0
 ·unfold iw;rw [av hok,av hok];refine G5 (tg hok ys).ji.ids (tg hok xs).ji.ids ?_;rw [D9 hok ys hz,D9 hok xs hz,h]
 unfold iw;rw [ah hok,ah hok]
end Go.Proofs.Rid
namespace Go.Proofs.Far
open Go.Proofs.Cus Go.Proofs.Rid
theorem yO {f:Fl} {p:Pr} {rs:List Rd} {vs:List Pen.V} (h:dS f p rs vs=0) {x y:iY} (hx:x∈iW f p rs vs) (hy:y∈iW f p rs vs) (he:x.aP=y.aP):x=y:=by
 have hn2:=gA.1 (C3 h);obtain ⟨i1,hi1⟩:=kL hx;obtain ⟨i2,hi2⟩:=kL hy;obtain ⟨j1,j2⟩:=aa.1 hi1;obtain ⟨k1,k2⟩:=aa.1 hi2;have:i1=i2:=by
  rcases jQ i1 i2 with hlt|heq|hlt
  ·exact absurd (by rw [j2,k2];omega) (bj.1 hn2 i1 i2 j1 k1 hlt)
  ·exact heq
  exact absurd (by rw [j2,k2];omega) (bj.1 hn2 i2 i1 k1 j1 hlt)
 subst this;rw [hi1] at hi2;cases hi2;rfl
section
variable {α β:Type}
def kE (step:List (α×β)→α→β) (l:List α):List (α×β):=l.foldl (fun acc x=>acc++[(x,step acc x)]) []
theorem pf (step:List (α×β)→α→β) (l:List α) (x:α):kE step (l++[x])=kE step l++[(x,step (kE step l) x)]:=by
 unfold kE;rw [df];rfl
theorem oa {P:List α→Prop} (h0:P []) (hs: ∀l x,P l→P (l++[x])) (l:List α):P l:=by
 have: ∀m:List α,P m.reverse:=fun m=>by
  induction m with
  |nil=>exact h0
  |cons x m ih=>rw [List.reverse_cons];exact hs _ _ ih
 have h:=this l.reverse
 rwa [List.reverse_reverse] at h
theorem BE (step:List (α×β)→α→β) (l:List α):(kE step l).map (·.1)=l:=by
 refine oa (P:=fun l=>(kE step l).map (·.1)=l) rfl (fun l x ih=>?_) l;rw [pf,bX,ih];rfl
theorem yh (step:List (α×β)→α→β) (l:List α):(kE step l).length=l.length:=by
 have:=aT List.length (BE step l)
 rwa [aD] at this
theorem DH (step:List (α×β)→α→β) (l:List α): ∀k,kE step (l.take k)=(kE step l).take k:=by
 refine oa (P:=fun l=> ∀k,kE step (l.take k)=(kE step l).take k) (fun k=>by simp [kE]) (fun l x ih k=>?_) l;rw [pf];by_cases hk:k≤l.length
 ·rw [SJ hk,SJ (by rw [yh];exact hk)];exact ih k
 rw [bN (by simp;omega),bN (by simp [yh];omega),pf]
theorem MO {step:List (α×β)→α→β} {inv:α×β→Prop} (h: ∀acc x,inv (x,step acc x)) (l:List α): ∀t∈kE step l,inv t:=by
 refine oa (P:=fun l=> ∀t∈kE step l,inv t) (fun t ht=>by cases ht) (fun l x ih t ht=>?_) l;rw [pf] at ht;rcases aQ.1 ht with ht|ht
 ·exact ih t ht
 simp at ht;subst ht;exact h _ _
theorem F8 {step:List (α×β)→α→β} {inv:α×β→Prop} {key:α→Int} (h: ∀acc x,inv (x,step acc x)) (hl: ∀acc x,(∀t∈acc,inv t)→step acc x=step (acc.filter fun t=>decide (key t.1=key x)) x) (ρ:Int) (l:List α):
  (kE step l).filter (fun t=>decide (key t.1=ρ))=kE step (l.filter fun x=>decide (key x=ρ)):=by
 refine oa (P:=fun l=>(kE step l).filter (fun t=>decide (key t.1=ρ))=kE step (l.filter fun x=>decide (key x=ρ))) rfl (fun l x ih=>?_) l;rw [pf,dw,dw,ih];by_cases hx:key x=ρ
 ·rw [iA (by simpa using hx),iA (by simpa using hx),mI,mI,pf,hl _ _ (MO h l),hx,ih]
 rw [iB (by simpa using hx),iB (by simpa using hx),mI,mI,cz,cz]
theorem U3 {X:List α} {g:α→Bool} {G:Nat→Bool} (d:α): ∀{k:Nat},k≤X.length→(∀j x,X[j]?=some x→j<k→g x=G j)→(X.take k).filter g=((List.range k).filter G).map fun j=>X.getD j d
 |0,_,_=>rfl
 |k+1,hk,h=>by
  obtain ⟨x,hx⟩: ∃x,X[k]?=some x:=⟨_,aj (by omega)⟩;rw [od _ _ _ hx,mH,dw,dw,bX,U3 d (k:=k) (by omega) fun j y hy hj=>h j y hy (by omega)];have hg:=h k x hx (by omega);congr 1;have hd:X.getD k d=x:=by rw [aq,hx];rfl
  by_cases hb:g x=true
  ·rw [iA hb,iA (by rw [←hg];exact hb),mI,mI,cI,hd];rfl
  rw [iB hb,iB (by rw [←hg];exact hb),mI,mI];rfl
end
def uE (acc:List (Rq×Int)):List (Int×Int):=(acc.filter fun t=>decide (0≤t.2)).map fun t=>(t.2,t.1.day)
def rR (P:List o0) (acc:List (Rq×Int)) (q:Rq):Int:=pR P (uE acc) q
theorem KB (P:List o0) (qs:List Rq):vX P qs=((kE (rR P) qs).map (·.2),uE (kE (rR P) qs)):=by
 refine oa (P:=fun qs=>vX P qs=((kE (rR P) qs).map (·.2),uE (kE (rR P) qs))) rfl (fun l x ih=>?_) qs;have h1:vX P (l++[x])=ke P (vX P l) x:=by unfold vX;rw [df];rfl
 rw [h1,ih,pf];unfold ke;rw [bX];simp only;unfold uE;rw [dw,bX];have h2:rR P (kE (rR P) l) x=pR P (((kE (rR P) l).filter fun t=>decide (0≤t.2)).map fun t=>(t.2,t.1.day)) x:=rfl;rw [h2];congr 1;split
 ·rename_i hp;rw [iA (by simpa using hp)];rfl
 rename_i hp;rw [iB (by simpa using hp)];simp
def QE (P:List o0) (t:Rq×Int):Prop:=0≤t.2→(P.getD t.2.toNat default).rider=t.1.rider
theorem PF (P:List o0) (acc:List (Rq×Int)) (x:Rq):QE P (x,rR P acc x):=fun h=>by
 simp only at h⊢;unfold rR pR at h⊢;cases hf:(List.range P.length).find? fun k=>ks (P.getD k default) x&&decide ((mj (uE acc) k x.day:Int)<(P.getD k default).pj) with
 |none=>rw [hf] at h;exact absurd h (by decide)
 |some k=>
  simp only;have:=sO hf;simp only [bQ] at this;have hv:=this.1;unfold ks at hv;simp only [bQ,dd] at hv;rw [aM];exact hv.1
theorem Ak (acc:List (Rq×Int)) (k d:Int):mj (uE acc) k d=acc.countP fun t=>(t.2==k&&t.1.day==d)&&decide (0≤t.2):=by
 unfold mj uE;rw [List.countP_map,List.countP_filter];rfl
theorem KA (P:List o0) (acc:List (Rq×Int)) (x:Rq) (h: ∀t∈acc,QE P t):rR P acc x=rR P (acc.filter fun t=>decide (t.1.rider=x.rider)) x:=by
 unfold rR pR;have hk:(fun k:Nat=>ks (P.getD k default) x&&decide ((mj (uE acc) k x.day:Int)<(P.getD k default).pj))=fun k:Nat=>ks (P.getD k default) x&&decide ((mj (uE (acc.filter fun t=>decide (t.1.rider=x.rider))) k x.day:Int)<(P.getD k default).pj):=by
  funext k;cases hv:ks (P.getD k default) x with
  |false=>rfl
  |true=>
   have hr:(P.getD k default).rider=x.rider:=by
    unfold ks at hv;simp only [bQ,dd] at hv;exact hv.1
   have hc:mj (uE acc) k x.day=mj (uE (acc.filter fun t=>decide (t.1.rider=x.rider))) k x.day:=by
    rw [Ak,Ak,List.countP_filter];refine List.countP_congr fun t ht=>?_;have hi:=h t ht;unfold QE at hi;constructor
    ·intro hp;simp only [bQ,xG,dd] at hp⊢;refine ⟨hp,?_⟩;rw [←hi hp.2,hp.1.1,aM];exact hr
    intro hp;simp only [bQ] at hp⊢;exact hp.1
   rw [hc]
 rw [hk]
theorem KZ (limit:Int) (acc:List (Dy×Int)) (x:Dy):pS limit acc x=pS limit (acc.filter fun t=>decide (t.1.rider=x.rider)) x:=by
 unfold pS;have:rJ acc x.rider x.day=rJ (acc.filter fun t=>decide (t.1.rider=x.rider)) x.rider x.day:=by
  unfold rJ;rw [oW];congr 2;refine uw fun t _=>?_;by_cases h1:t.1.rider=x.rider
  ·simp [h1]
  simp [h1]
 rw [this]
theorem D4 {p:Pr} {a:Nat→Rd×Int} {b:Nat→iY}: ∀(J:List Nat) (acc:List iY),(∀j∈J,nk p (a j).1 (a j).2=some (b j))→(J.map a).foldl (ri p) (some acc)=some (acc++J.map b)
 |[],acc,_=>by simp
 |j::J,acc,h=>by
  rw [cI,cO,show ri p (some acc) (a j)=some (acc++[b j]) by unfold ri;simp only;rw [h j (bF ..)],D4 J _ fun k hk=>h k (aB _ hk)];simp
theorem D5 {p:Pr} {vs:List Pen.V} {a:Nat→iY×Int}: ∀(J:List Nat) (acc:List iY),(∀j∈J,¬1000000000000<(qf p vs (a j).1 ((a j).2 -(a j).1.total)).total)→(J.map a).foldl (rj p vs) (some acc)=some (acc++J.map fun j=>qf p vs (a j).1 ((a j).2 -(a j).1.total))
 |[],acc,_=>by simp
 |j::J,acc,h=>by
  rw [cI,cO,show rj p vs (some acc) (a j)=some (acc++[qf p vs (a j).1 ((a j).2 -(a j).1.total)]) by unfold rj;simp only;rw [ah (h j (bF ..))],D5 J _ fun k hk=>h k (aB _ hk)];simp
def Nx (a b:Rd):Bool:=
 if a.rider≠b.rider∨a.start.lo≠b.start.lo then decide (a.rider≠b.rider)||decide (b.start.lo<a.start.lo)
 else if a.end_.lo≠b.end_.lo then decide (b.end_.lo<a.end_.lo) else decide (b.id<a.id)
theorem E6 (a b:Rd):Nx a b=(decide (a.rider≠b.rider)||eB b a):=by
 unfold Nx eB;by_cases h1:a.rider=b.rider
 ·by_cases h2:a.start.lo=b.start.lo
  ·rw [ah (by omega)];by_cases h3:a.end_.lo=b.end_.lo
   ·rw [ah (by omega)];simp [h1,h2,h3]
   rw [av (by omega)];have:b.end_.lo=a.end_.lo↔False:=⟨fun h=>h3 h.symm,fun h=>h.elim⟩;simp [h1,h2,this]
  rw [av (by omega)];have:b.start.lo=a.start.lo↔False:=⟨fun h=>h2 h.symm,fun h=>h.elim⟩;simp [h1,this]
 rw [av (.inl h1)];simp [h1]
def nL (r x:Rd):Bool:=decide (x.id=r.id)||!Nx x r
theorem KW {rs:List Rd} (h:Good rs):lR rs=0:=by
 have hl: ∀l:List Rd,(∀r∈l,dW r=0)→lW l=0:=fun l=>by
  induction l with
  |nil=>intro _;rfl
  |cons x l ih=>
   intro hx;unfold lW;rw [ah (by rw [hx x (bF ..)];omega),ih fun r hr=>hx r (aB _ hr)]
 have:=h.N2;unfold lR;rw [ah (by omega),ah (by rw [hl rs h.ok];omega),h.ids,ah (by decide)]
theorem As {rs:List Rd} (h:Good rs) (q:Rd→Bool):Good (rs.filter q):=
 ⟨fun r hr=>h.ok r (dT.1 hr).1,uS _ _ ((rS _ _ h.ids).1.sublist (Kq.map _)) (fun x _=>by simp),jd (da _ _) h.N2⟩
theorem Hg {rs:List Rd} (h:Good rs) (q:Rd→Bool):iG (rs.filter q)=(iG rs).filter q:=by
 refine (vg (As h q) ?_ ?_).symm
 ·refine ((mB rs).filter q).trans ?_;rw [oW,oW];refine List.Perm.of_eq (uw fun r _=>Bool.and_comm _ _)
 have:=(rZ h).sublist (Kq (p:=q));refine this.imp fun h1=>?_;unfold eB at*;simp at*;omega
theorem H8 (r:Rd):eB r r=false:=by unfold eB;simp
theorem LM {rs:List Rd} (h:Good rs) {r:Rd} {i:Nat} (hi:(iG rs)[i]?=some r):iG (rs.filter (nL r))=((iG rs).take (i+1)).filter fun x=>decide (x.rider=r.rider):=by
 rw [Hg h];have hs:=rZ h;have hn:((iG rs).map (·.id)).Nodup:=((mB rs).map _).nodup_iff.2 (u5 h);have hne:=gA.1 hn;obtain ⟨i1,i2⟩:=aa.1 hi
 conv=>lhs;rw [←fz (i+1) (iG rs),dw]
 have h2:((iG rs).drop (i+1)).filter (nL r)=[]:=by
  rw [Ez];intro x hx;obtain ⟨j,hj⟩:=kL hx;rw [kC] at hj;obtain ⟨j1,j2⟩:=aa.1 hj;have h3:=bj.1 hs i (i+1+j) i1 j1 (by omega);have h4:=bj.1 hne i (i+1+j) i1 j1 (by omega);rw [i2,j2] at h3 h4;unfold nL;rw [E6,h3];simp;exact fun h=>h4 h.symm
 rw [h2,cz];refine uw fun x hx=>?_;obtain ⟨j,hj⟩:=kL hx;have hji:j<i+1:=by
  have:=(aa.1 hj).1;rw [cH] at this;omega
 rw [WT hji] at hj;obtain ⟨j1,j2⟩:=aa.1 hj;by_cases he:j=i
 ·subst he;rw [hi] at hj;cases hj;unfold nL;simp
 have h3:=bj.1 hs j i j1 i1 (by omega);have h4:=bj.1 hne j i j1 i1 (by omega);rw [j2,i2] at h3 h4;have h5:eB r x=false:=by
  cases hb:eB r x with
  |false=>rfl
  |true=>have:=yj hb h3;rw [H8] at this;cases this
 unfold nL;rw [E6,h5];simp [h4]
end Go.Proofs.Far
namespace Go.Proofs.Far
open Go.Proofs.Cus Go.Proofs.Rid
theorem im {α:Type} {l:List α} {k:Nat} {x d:α} (h:l[k]?=some x):l.getD k d=x:=by rw [aq,h];rfl
theorem xN {α β:Type} {a:Nat→α} {b:Nat→β}: ∀J:List Nat,(J.map a).zip (J.map b)=J.map fun j=>(a j,b j)
 |[]=>rfl
 |j::J=>by rw [cI,cI,List.zip_cons_cons,xN J];rfl
theorem Er {f:Fl} {p:Pr} {rs:List Rd} (h:dS f p rs []=0) {r:Rd} (hr:r∈rs) (ho:r.open_=false): ∃c:iY,c.aP=r.id∧c∈iW f p rs []∧dS f p (rs.filter (nL r)) []=0∧c∈iW f p (rs.filter (nL r)) []:=by
 obtain ⟨h1,h2,h3,B0,hFS0,hrich0,hle,hall⟩:=C2 h;obtain ⟨B,i,u,b,v,c,hFS,hrich,hi,hu,hb,hfp,hv,hc,hcm,hcr,_,_,_⟩:=O4 h hr ho;rw [hFS0] at hFS;cases hFS;have hg:=nH h2;refine ⟨c,hcr,hcm,?_⟩;have hlen:=hrich.len;obtain ⟨L,hL⟩: ∃L,L=iG rs:=⟨_,rfl⟩;obtain ⟨U,hU⟩: ∃U,U=kE (rR p.iE) (L.map my):=⟨_,rfl⟩;obtain ⟨D,hD⟩: ∃D,D=kE (pS p.cap) ((L.zip B0).map px):=⟨_,rfl⟩;have hUo: ∀l:List Rd,nG p l=(kE (rR p.iE) (l.map my)).map (·.2):=fun l=>by unfold nG;rw [KB]
 have hDo: ∀(l:List Rd) (bs:List iY),kQ p l bs=(kE (pS p.cap) ((l.zip bs).map px)).map (·.2):=fun l bs=>rfl;have hkeep:=LM hg hi;rw [←hL] at hi hlen hFS0 hu hv hkeep hle;have hil:=(aa.1 hi).1;have hUl:U.length=L.length:=by rw [hU,yh,aD]
 have hDl:D.length=L.length:=by rw [hD,yh,aD,lC];omega
 have hUf:U.map (·.1)=L.map my:=by rw [hU];exact BE _ _
 have hDf:D.map (·.1)=(L.zip B0).map px:=by rw [hD];exact BE _ _
 obtain ⟨G,hG⟩: ∃G:Nat→Bool,∀j,G j=decide ((L.getD j default).rider=r.rider):=⟨_,fun _=>rfl⟩;obtain ⟨J,hJ⟩: ∃J,J=(List.range (i+1)).filter G:=⟨_,rfl⟩;have hJm: ∀j∈J,j<L.length:=fun j hj=>by
  rw [hJ] at hj;have:=dL.1 (dT.1 hj).1;omega
 have hiJ:i∈J:=by
  rw [hJ];refine dT.2 ⟨dL.2 (by omega),?_⟩;rw [hG,im hi];simp
 have hat: ∀j,j<L.length→ ∃(x:Rd) (y:iY) (t:Rq×Int) (s:Dy×Int),L[j]?=some x∧B0[j]?=some y∧U[j]?=some t∧D[j]?=some s∧t.1=my x∧s.1=px (x,y):=fun j hj=>by
  obtain ⟨x,hx⟩: ∃x,L[j]?=some x:=⟨_,aj hj⟩;obtain ⟨y,hy⟩: ∃y,B0[j]?=some y:=⟨_,aj (by omega)⟩;obtain ⟨t,ht⟩: ∃t,U[j]?=some t:=⟨_,aj (by omega)⟩;obtain ⟨s,hs⟩: ∃s,D[j]?=some s:=⟨_,aj (by omega)⟩;refine ⟨x,y,t,s,hx,hy,ht,hs,?_,?_⟩
  ·have:=aT (fun l=>l[j]?) hUf;simp only [bf,ht,hx,fU] at this;exact j8 this
  have:=aT (fun l=>l[j]?) hDf;simp only [bf,hs,rP hx hy,fU] at this;exact j8 this
 have hfirst: ∀(j:Nat) (x:Rd) (y:iY) (t:Rq×Int),L[j]?=some x→B0[j]?=some y→U[j]?=some t→nk p x t.2=some y:=fun j x y t hx hy ht=>by
  have hul:=sV p L;have hzl:L.length≤(L.zip (nG p L)).length:=by rw [lC];omega
  refine (vz hzl hFS0).2 j y (x,t.2) hy (rP hx ?_);rw [hUo,←hU,bf,ht];rfl
 have hL':iG (rs.filter (nL r))=J.map fun j=>L.getD j default:=by
  rw [hkeep,hJ];exact U3 default (by omega) fun j x hx _=>by rw [hG,im hx]
 have hU':nG p (iG (rs.filter (nL r)))=J.map fun j=>(U.getD j default).2:=by
  rw [hUo,hkeep];have hm:(((L.take (i+1)).filter fun x=>decide (x.rider=r.rider)).map my)=((L.map my).take (i+1)).filter fun q=>decide (q.rider=r.rider):=by
   rw [←List.map_take,List.filter_map];rfl
  rw [hm,←F8 (inv:=QE p.iE) (key:=fun q:Rq=>q.rider) (PF p.iE) (KA p.iE),DH,←hU];rw [U3 (G:=G) default (by omega) fun j t ht hj=>by
   obtain ⟨x,y,t2,s,hx,hy,ht2,hs,e1,e2⟩:=hat j (by omega);rw [ht] at ht2;cases ht2;rw [hG,im hx,e1];rfl]
  rw [←hJ,fO];rfl
 have hB':((iG (rs.filter (nL r))).zip (J.map fun j=>B0.getD j default)).map px=(((L.zip B0).map px).take (i+1)).filter fun x=>decide (x.rider=r.rider):=by
  rw [hL',xN,fO,←hDf];rw [U3 (G:=G) default (by rw [aD];omega) fun j t ht hj=>by
   obtain ⟨x,y,t2,s,hx,hy,ht2,hs,e1,e2⟩:=hat j (by omega);rw [bf,hs] at ht;cases ht;rw [hG,im hx,show (fun x:Dy×Int=>x.1) s=s.1 from rfl,e2];rfl]
  rw [←hJ];refine Kp fun j hj=>?_;obtain ⟨x,y,t2,s,hx,hy,ht2,hs,e1,e2⟩:=hat j (hJm j hj);have h5:(D.map (·.1))[j]?=some s.1:=by rw [bf,hs];rfl
  rw [im h5,e2];show px (L.getD j default,B0.getD j default)=px (x,y);rw [im hx,im hy]
 have hP':kQ p (iG (rs.filter (nL r))) (J.map fun j=>B0.getD j default)=J.map fun j=>(D.getD j default).2:=by
  rw [hDo,hB',←F8 (inv:=fun _=>True) (key:=fun q:Dy=>q.rider) (fun _ _=>trivial) (fun acc x _=>KZ p.cap acc x),DH,←hD];rw [U3 (G:=G) default (by omega) fun j t ht hj=>by
   obtain ⟨x,y,t2,s,hx,hy,ht2,hs,e1,e2⟩:=hat j (by omega);rw [ht] at hs;cases hs;rw [hG,im hx,e2];rfl]
  rw [←hJ,fO];rfl
 have hfs:th p ((iG (rs.filter (nL r))).zip (nG p (iG (rs.filter (nL r)))))=some (J.map fun j=>B0.getD j default):=by
  rw [hU',hL',xN];unfold th;rw [D4 (b:=fun j=>B0.getD j default) J [] fun j hj=>by
   obtain ⟨x,y,t,s,hx,hy,ht,hs,e1,e2⟩:=hat j (hJm j hj);simp only;rw [im hx,im hy,im ht];exact hfirst j x y t hx hy ht]
  rfl
 have hfn:tZ p [] ((J.map fun j=>B0.getD j default).zip (kQ p (iG (rs.filter (nL r))) (J.map fun j=>B0.getD j default)))=some (J.map fun j=>qf p [] (B0.getD j default) ((D.getD j default).2 -(B0.getD j default).total)):=by
  rw [hP',xN];unfold tZ;rw [D5 J [] fun j hj=>by
   obtain ⟨x,y,t,s,hx,hy,ht,hs,e1,e2⟩:=hat j (hJm j hj);simp only;rw [im hy,im hs];have h6:(kQ p L B0)[j]?=some s.2:=by rw [hDo,←hD,bf,hs];rfl
   have:=hle (qf p [] y (s.2 -y.total)) (bJ.2 ⟨(y,s.2),an (rP hy h6),rfl⟩);omega]
  rfl
 have hap:vp p (rs.filter (nL r)) []=some (sq (J.map fun j=>qf p [] (B0.getD j default) ((D.getD j default).2 -(B0.getD j default).total))):=by
  unfold vp;rw [hfs];simp only;rw [hfn]
 have hr2:lR (rs.filter (nL r))=0:=KW (As hg _);constructor
 ·unfold dS;rw [ah (by omega),ah (by omega),ah (by omega),hap,ah (by simp)]
 unfold iW;rw [ah (by omega),hap];refine (vi _).mem_iff.2 (bJ.2 ⟨i,hiJ,?_⟩);obtain ⟨x,y,t,s,hx,hy,ht,hs,e1,e2⟩:=hat i hil;rw [hb] at hy;cases hy;have h6:(kQ p L B0)[i]?=some s.2:=by rw [hDo,←hD,bf,hs];rfl
 rw [hv] at h6;cases h6;rw [im hb,im hs,hc]
end Go.Proofs.Far
