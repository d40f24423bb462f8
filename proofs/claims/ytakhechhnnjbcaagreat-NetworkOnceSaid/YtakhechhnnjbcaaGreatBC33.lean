import Derived.Test.YtakhechhnnjbcaaGreatBC32
import Derived.Test.YtakhechhnnjbcaaGreatBC23
import Derived.Test.YtakhechhnnjbcaaGreatBC28
import Derived.Test.YtakhechhnnjbcaaGreatBC31
import Derived.Test.YtakhechhnnjbcaaGreatBC29
import Derived.Test.YtakhechhnnjbcaaGreatBC04
import Derived.Test.YtakhechhnnjbcaaGreatTc
set_option maxRecDepth 100000
set_option maxHeartbeats 8000000
set_option linter.unusedVariables false
set_option linter.unusedSimpArgs false
namespace Go.Proofs.Net
open Go.Proofs.Cus Go.Proofs.Rid Go.Proofs.Far
structure Sq (T:Int) (y:SY):Prop where
 seq: ∀(i j:Nat) r q,i<j→y.cg[i]?=some r→y.cg[j]?=some q→r.rider=q.rider→r.open_=false∧r.end_.lo≤q.start.lo
 st: ∀r∈y.cg,r.start.lo≤T
 en: ∀r∈y.cg,r.open_=false→r.start.lo≤r.end_.lo∧r.end_.lo≤T
theorem P9 {e:Ev} {p p':Bool} {r q:Rd} (h:xy e p r p' q) (ho:r.open_=true):q.rider=r.rider∧q.start=r.start∧(q.open_=false→q.end_.lo=e.at_):=by
 cases h with
 |swap=>exact ⟨rfl,rfl,fun h=>by simp [rT,ho] at h⟩
 |oZ=>exact ⟨rfl,rfl,fun h=>by simp [po,ho] at h⟩
 |resume=>unfold dB;split<;>exact ⟨rfl,rfl,fun h=>by simp [ho] at h⟩
 |finish to=>unfold kl dB;split<;>exact ⟨rfl,rfl,fun _=>rfl⟩
theorem Sq.step {n:Nat} {s:PS} {y:SY} {T:Int} (h:Sq T y) (hJ:JI n s y) (hI:jP n s) {e:Ev} {tr:List Int} (hb:0≤e.bD∧e.bD<n) (hc:dF tr s e=0) (hT:T≤e.at_):Sq e.at_ (dV y e):=by
 cases vD hJ hI hb hc with
 |same _ h2 _=>
  refine ⟨by rw [h2];exact h.seq,by rw [h2];exact fun r hr=>FJ (h.st r hr) hT,by rw [h2];exact fun r hr ho=>⟨(h.en r hr ho).1,FJ (h.en r hr ho).2 hT⟩⟩
 |new fr h3 h2 _=>
  have hbusy:mW s.open_ e.rider=false:=by
   unfold dF at hc;simp only at hc;rw [ah (by omega),ah (by omega),av h3] at hc;split at hc
   ·cases hc
   split at hc
   ·cases hc
   exact qG (by decide) hc
  have hcl: ∀(i:Nat) r,y.cg[i]?=some r→r.rider=e.rider→r.open_=false:=fun i r hi he=>by
   cases ho:r.open_ with
   |false=>rfl
   |true=>
    exfalso;obtain ⟨t,ht⟩:=hJ.RO i r hi ho;obtain ⟨k,r',a1,a2,_,_,a5,_⟩:=hJ.open_ _ _ ht;have:=AZ hJ.ids hi a1 a2.symm;subst this;rw [hi] at a1;cases a1;have hr:mW s.open_ e.rider=true:=by
     unfold mW;exact cY.2 ⟨_,ht,by simp [←a5,he]⟩
    rw [hr] at hbusy;cases hbusy
  rw [show (qv e fr (dX e))=qv e fr (dX e) from rfl] at h2;refine ⟨fun i j r q hij hi hj hrq=>?_,fun r hr=>?_,fun r hr ho=>?_⟩
  ·rw [h2] at hi hj;have hjl:=(aa.1 hj).1;simp only [bV,bB,eU] at hjl;rw [dM (by omega)] at hi;rcases l' j y.cg.length with hlt|hge
   ·rw [dM hlt] at hj;exact h.seq i j r q hij hi hj hrq
   rw [cy hge,show j -y.cg.length=0 by omega] at hj;simp only [Dd,eQ] at hj;subst hj;have ho:=hcl i r hi hrq;have:=h.en r (an hi) ho;exact ⟨ho,by show r.end_.lo≤e.at_;omega⟩
  ·rw [h2] at hr;rcases aQ.1 hr with hr|hr
   ·have:=h.st r hr;omega
   rw [bu.1 hr];exact gI _
  rw [h2] at hr;rcases aQ.1 hr with hr|hr
  ·have:=h.en r hr ho;omega
  rw [bu.1 hr] at ho;cases ho
 |one k r q p p' h3 hk ho hp hs h2 _=>
  obtain ⟨q1,q2,q3⟩:=P9 hs ho;have hget: ∀{i:Nat} {x:Rd},(y.cg.set k q)[i]?=some x→(i=k∧x=q)∨(i≠k∧y.cg[i]?=some x):=fun {i x} hi=>by
   by_cases hik:i=k
   ·subst hik;rw [de (aa.1 hk).1] at hi;cases hi;exact .inl ⟨rfl,rfl⟩
   rw [cj (fun h=>hik h.symm)] at hi;exact .inr ⟨hik,hi⟩
  refine ⟨fun i j a b hij hi hj hab=>?_,fun a ha=>?_,fun a ha hao=>?_⟩
  ·rw [h2] at hi hj;rcases hget hi with ⟨rfl,rfl⟩|⟨_,hi2⟩
   ·rcases hget hj with ⟨rfl,_⟩|⟨_,hj⟩
    ·omega
    have:=(h.seq i j r b hij hk hj (by rw [←q1];exact hab)).1;rw [this] at ho;cases ho
   rcases hget hj with ⟨rfl,rfl⟩|⟨_,hj⟩
   ·rw [q2];exact h.seq i j a r hij hi2 hk (by rw [←q1];exact hab)
   exact h.seq i j a b hij hi2 hj hab
  ·rw [h2] at ha;rcases cK ha with ha|rfl
   ·have:=h.st a ha;omega
   rw [q2];have:=h.st r (an hk);omega
  rw [h2] at ha;rcases cK ha with ha|rfl
  ·have:=h.en a ha hao;omega
  have:=h.st r (an hk);rw [q2,q3 hao];omega
theorem Sq.run {f:Fl} {n:Nat} (hn:f.eV=n): ∀(l:List Ev) {N:Nat} {T:Int} {s:PS} {y:SY},Sq T y→vw n N s y→Replay f s l→(∀e∈l,T≤e.at_)→l.Pairwise (fun a b=>a.at_≤b.at_)→ ∃T',Sq T' (l.foldl dV y)
 |[],_,T,_,_,h,_,_,_,_=>⟨T,h⟩
 |e::l,N,T,s,y,h,hJ,⟨h1,h2,h3,h4⟩,hT,hs=>by
  have hb:=(kV h1).2.1;rw [hn] at hb;obtain ⟨hs1,hs2⟩:=bL.1 hs;exact Sq.run hn l (N:=N+1) (h.step hJ.ji hJ.inv hb h3 (hT e (by simp))) ⟨hJ.ji.step hJ.inv hJ.wf hb h3,hJ.inv.step hb h3,hJ.wf.tell hb⟩ h4 (fun a ha=>hs1 a ha) hs2
theorem U0 {f:Fl} (hok:fR f=0) (xs:List Ev): ∃T,Sq T (kf f xs):=by
 obtain ⟨hr,_⟩:=qF hok xs (fun _=>());refine Sq.run (Cd hok) (gS f xs) (N:=0) (T:=(gS f xs).foldr (fun e t=>min e.at_ t) 0) ⟨fun i j r q _ hi=>by simp [gG] at hi,fun r hr=>by simp [gG] at hr,fun r hr=>by simp [gG] at hr⟩ (uZ _) hr ?_ (IT hok xs);generalize gS f xs=l
 induction l with
 |nil=>intro e he;cases he
 |cons x l ih=>
  intro e he;rw [List.foldr_cons];rcases bU.1 he with rfl|he
  ·exact Int.min_le_left _ _
  exact FJ (Int.min_le_right _ _) (ih e he)
theorem KT {f:Fl} {xs:List Ev} {r x:Rd} (hr:r∈iw f xs) (hx:x∈iw f xs) (hrx:x.rider=r.rider) (ho:r.open_=false) (hxo:x.open_=false) (hl:eB r x=false):x.end_.lo≤r.end_.lo:=by
 unfold iw at hr hx;split at hr
 ·rename_i hok;rw [av hok] at hx;have hr:=(mC _).mem_iff.1 hr;have hx:=(mC _).mem_iff.1 hx;obtain ⟨T,hS⟩:=U0 hok xs;obtain ⟨i,hi⟩:=bC.1 hr;obtain ⟨j,hj⟩:=bC.1 hx;have he:=hS.en r hr ho;have hxe:=hS.en x hx hxo;rcases jQ i j with h|h|h
  ·have h1:=(hS.seq i j r x h hi hj hrx.symm).2;unfold eB at hl;simp at hl;omega
  ·subst h;rw [hi] at hj;cases hj;exact gI _
  have h1:=hS.seq j i x r h hj hi hrx;omega
 cases hr
theorem Rr (f:Fl) (xs:List Ev):((iw f xs).map (·.id)).Nodup:=by
 unfold iw;split
 ·rename_i hok;exact ((mC _).map _).nodup_iff.2 (tg hok xs).ji.ids
 exact jY
theorem id_eq {l:List Rd} (h:(l.map (·.id)).Nodup) {a b:Rd} (ha:a∈l) (hb:b∈l) (e:a.id=b.id):a=b:=by
 obtain ⟨i,hi⟩:=bC.1 ha;obtain ⟨j,hj⟩:=bC.1 hb;have:=AZ h hi hj e;subst this;rw [hi] at hj;cases hj;rfl
theorem LB {f:Fl} {p:Pr} {xs ys:List Ev} {h h':Int} (hu:lQ (h' -1) ys=lQ (h' -1) xs) (hh:h'≤h) (e1:dS f p ((iw f xs).filter (kj h)) []=0) (e2:dS f p ((iw f ys).filter (kj h')) []=0) {c:iY} (hc:c∈iW f p ((iw f ys).filter (kj h')) []):c∈iW f p ((iw f xs).filter (kj h)) []:=by
 have hF:=Rs (f:=f) hu;rw [hF] at e2 hc;have hsub: ∀{r:Rd},kj h' r=true→kj h r=true:=fun {r} hr=>by
  unfold kj at hr⊢;simp at hr⊢;exact ⟨hr.1,by omega⟩
 obtain ⟨r,hr,hrc⟩:=bJ.1 ((tq e2).mem_iff.1 (cM (f:=(·.aP)) hc));obtain ⟨hr,ho⟩:=dT.1 hr;obtain ⟨hra,hrf⟩:=dT.1 hr;have ho:r.open_=false:=by simpa using ho
 obtain ⟨c2,a1,a2,a3,a4⟩:=Er e2 hr ho;obtain ⟨c1,b1,b2,b3,b4⟩:=Er e1 (dT.2 ⟨hra,hsub hrf⟩) ho;have hG:((iw f xs).filter (kj h')).filter (nL r)=((iw f xs).filter (kj h)).filter (nL r):=by
  rw [oW,oW];refine uw fun x hx=>?_;cases hk:nL r x with
  |false=>simp
  |true=>
   simp only [sR];cases hf:kj h x with
   |false=>
    cases hf':kj h' x with
    |false=>rfl
    |true=>rw [hsub hf'] at hf;cases hf
   |true=>
    have hxo:x.open_=false∧x.end_.lo<h:=by unfold kj at hf;simpa using hf
    have hrx:r.open_=false∧r.end_.lo<h':=by unfold kj at hrf;simpa using hrf
    unfold nL at hk;rw [FK,dd] at hk;have hle:x.end_.lo≤r.end_.lo:=by
     rcases hk with hk|hk
     ·rw [id_eq (Rr f xs) hx hra hk];exact gI _
     rw [E6] at hk;simp at hk;exact KT hra hx hk.1 hrx.1 hxo.1 hk.2
    unfold kj;simp;exact ⟨hxo.1,by omega⟩
 rw [hG] at a4;have h1:=yO b3 a4 b4 (a1.trans b1.symm);have h2:=yO e2 hc a2 (hrc.symm.trans a1.symm);rw [h2,h1];exact b2
structure Cons (dv:Int) (E:List Ev):Prop where
 nd:E.Nodup
 key: ∀a∈E,∀b∈E,ki a=ki b→a=b
 dev: ∀e∈E,0≤e.device∧e.device<dv
 seq: ∀e∈E,1≤e.seq
 at_: ∀e∈E,0≤e.at_
 fit: ∀a∈E,∀b∈E,Gos.lU a b=false
 num: ∀e∈E,e.seq≤1048576∧e.at_≤e.late∧e.late≤4294943999
theorem IL (a b:Ev):Gos.lU a b=Gos.lU b a:=by
 unfold Gos.lU;by_cases h:a.device=b.device
 ·simp [h,Bool.or_comm,Bool.and_comm]
 have h2: ¬b.device=a.device:=fun e=>h e.symm;simp [h,h2]
theorem IK (a:Ev):Gos.lU a a=false:=by unfold Gos.lU;simp
theorem Cons.nil (dv:Int):Cons dv []:=⟨jY,fun a h=>(by cases h),fun a h=>(by cases h),fun a h=>(by cases h),fun a h=>(by cases h),fun a h=>(by cases h),fun a h=>(by cases h)⟩
theorem LV {dv:Int} {E:List Ev} (h:Cons dv E) (e:Ev):Cons dv (fX dv E e).1:=by
 have hnd:=yR (n:=dv) (e:=e) h.nd;unfold fX at hnd⊢;split
 ·exact h
 rename_i h1;split
 ·exact h
 rename_i h2;split
 ·split<;>exact h
 rename_i hf;split
 ·exact h
 rename_i h3;split
 ·exact h
 rename_i h4;rw [ah h1,ah h2,hf] at hnd;simp only at hnd;rw [ah h3,ah h4] at hnd;have hk: ∀a∈E,ki a≠ki e:=fun a ha=>by simpa using kD.1 hf a ha
 have hc: ∀a∈E,Gos.lU a e=false:=fun a ha=>by
  cases hb:Gos.lU a e with
  |false=>rfl
  |true=>exact absurd (cY.2 ⟨a,ha,hb⟩) h3
 have hm: ∀a∈E++[e],a∈E∨a=e:=fun a ha=>by simpa using ha
 refine ⟨hnd,fun a ha b hb he=>?_,fun a ha=>?_,fun a ha=>?_,fun a ha=>?_,fun a ha b hb=>?_,fun a ha=>?_⟩
 ·rcases hm a ha with gr|rfl<;>rcases hm b hb with hb2|rfl
  ·exact h.key a gr b hb2 he
  ·exact absurd he (hk a gr)
  ·exact absurd he.symm (hk b hb2)
  rfl
 ·rcases hm a ha with gr|rfl
  ·exact h.dev a gr
  omega
 ·rcases hm a ha with gr|rfl
  ·exact h.seq a gr
  omega
 ·rcases hm a ha with gr|rfl
  ·exact h.at_ a gr
  omega
 ·rcases hm a ha with gr|rfl<;>rcases hm b hb with hb2|rfl
  ·exact h.fit a gr b hb2
  ·exact hc a gr
  ·rw [IL];exact hc b hb2
  exact IK _
 rcases hm a ha with gr|rfl
 ·exact h.num a gr
 omega
theorem Kc {dv:Int} {E l:List Ev} (h:Cons dv E) (hl: ∀x∈l,x∈E) (hn:l.length<512) {e:Ev} (he:e∈E):(fX dv l e).2.2=0∧ ∀x,x∈(fX dv l e).1↔x∈l∨x=e:=by
 have h1:=h.dev e he;have h2:=h.seq e he;have h3:=h.at_ e he;have h4:=h.num e he;unfold fX;rw [ah (by omega),ah (by omega)];split
 ·rename_i x hx;have hxl:=gB hx;have hk:ki x=ki e:=by simpa using sO hx
  have:=h.key x (hl x hxl) e he hk;subst this;rw [av rfl];exact ⟨rfl,fun y=>⟨.inl,fun hy=>hy.elim id fun hy=>hy▸hxl⟩⟩
 rw [ah (fun hc=>by
  obtain ⟨x,hx,hb⟩:=cY.1 hc;rw [h.fit x (hl x hx) e he] at hb;cases hb),ah (by omega)]
 exact ⟨rfl,fun y=>by simp⟩
theorem AR {E l:List Ev} (hn:l.Nodup) (hs: ∀x∈l,x∈E):l.length≤E.length:=uD hn hs
theorem Cq {dv:Int} {E:List Ev} (h:Cons dv E) (h5:E.length<512): ∀(es:List Ev) {l:List Ev},l.Nodup→(∀x∈l,x∈E)→(∀x∈es,x∈E)→(fq dv l es).1.Nodup∧ ∀x,x∈(fq dv l es).1↔x∈l∨x∈es
 |[],l,hn,_,_=>⟨hn,fun x=>by simp [fq]⟩
 |e::es,l,hn,hl,he=>by
  have h1:=Kc h hl (by have:=AR hn hl;omega) (he e (by simp));have h2:=Cq h h5 es (yR (n:=dv) (e:=e) hn) (fun x hx=>((h1.2 x).1 hx).elim (hl x) fun hx=>hx▸he e (by simp)) fun x hx=>he x (by simp [hx]);rw [fq];refine ⟨h2.1,fun x=>?_⟩;simp only;rw [h2.2,h1.2];simp [or_assoc]
theorem CE {l:List Ev} (h:l.Nodup):(fH l).Pairwise fun a b=>fL a b=true:=by
 have hp:(fH l).Perm l:=eT _ _;have hs:(fH l).Pairwise fun a b=>HE a b=true:=iz (fun a b c=>rW (key:=Ev.keys) (n:=9) (fun _=>rfl) a b c) (fun a b=>rX (key:=Ev.keys) (n:=9) (fun _=>rfl) a b) l;refine (hs.and (hp.nodup_iff.2 h)).imp fun {a b} hab=>?_;have h1:fL b a=false:=by have:=hab.1;unfold HE at this;simpa [fL] using this
 cases h2:fL a b with
 |true=>rfl
 |false=>exact absurd (tI h2 h1) hab.2
theorem qC {l:List Ev} {e:Ev}:e∈fH l↔e∈l:=(eT l HE).mem_iff
theorem N5 {l m:List Ev} (hl:l.Nodup) (hm:m.Nodup) (h: ∀x,x∈l↔x∈m):fH l=fH m:=
 pB (CE hl) (CE hm) fun e=>by rw [qC,qC];exact h e
theorem vE (l:List Ev) (d:Int):(∀j,j<fE l d→sl l d ((j:Int)+1)=true)∧sl l d ((fE l d:Int)+1)=false:=by
 have go: ∀(k m:Nat),l.length+1 -m=k→(∀j,j<m→sl l d ((j:Int)+1)=true)→Ag l d (l.length+1 -m) m=fE l d→(∀j,j<fE l d→sl l d ((j:Int)+1)=true)∧sl l d ((fE l d:Int)+1)=false:=by
  intro k
  induction k with
  |zero=>intro m hm h _;have:=EJ h;omega
  |succ k ih=>
   intro m hm h hs;obtain ⟨g1,g2⟩:=Jc h hs;cases hb:sl l d ((m:Int)+1) with
   |true=>
    obtain ⟨a1,a2,a3⟩:=g1 hb;exact ih (m+1) (by omega) a1 a2
   |false=>
    have:=g2 hb;rw [this];exact ⟨h,hb⟩
 exact go (l.length+1) 0 rfl (fun j hj=>absurd hj (UJ _)) rfl
theorem A6 {l:List Ev} {d s:Int}:sl l d s=true↔ ∃x∈l,ki x=(d,s):=by
 unfold sl;rw [cY];simp
theorem KM {l m:List Ev} (h: ∀x∈l,x∈m) (d:Int):fE l d≤fE m d:=by
 rcases l' (fE m d) (fE l d) with hlt|hge
 ·have h1:=(vE l d).1 _ hlt;have h2:=(vE m d).2;obtain ⟨x,hx,hk⟩:=A6.1 h1;have:=A6.2 ⟨x,h x hx,hk⟩;rw [h2] at this;cases this
 exact hge
theorem VQ {dv:Int} {E l:List Ev} (h:Cons dv E) (hl: ∀x∈l,x∈E) {x:Ev} (hx:x∈l) {d s:Int} (hk:ki x=(d,s)):OX l d s=x.at_:=by
 unfold OX;cases hf:l.find? fun x=>decide (ki x=(d,s)) with
 |none=>exact absurd (kD.1 hf x hx) (by simp [hk])
 |some y=>
  have hy:ki y=(d,s):=by simpa using sO hf
  have:=h.key y (hl y (gB hf)) x (hl x hx) (hy.trans hk.symm);rw [this]
theorem AT {dv:Int} {E l:List Ev} (h:Cons dv E) (hl: ∀x∈l,x∈E) {d:Int} (h0:fE l d≠0): ∃x∈l,ki x=(d,(fE l d:Int))∧OX l d (fE l d)=x.at_:=by
 obtain ⟨m,hm⟩: ∃m,fE l d=m+1:=⟨fE l d -1,by omega⟩;obtain ⟨x,hx,hk⟩:=A6.1 ((vE l d).1 m (by omega));rw [hm];have hk2:ki x=(d,((m+1:Nat):Int)):=by rw [hk];simp
 exact ⟨x,hx,hk2,VQ h hl hx hk2⟩
theorem NU {dv:Int} {E:List Ev} (h:Cons dv E) {a b:Ev} (ha:a∈E) (hb:b∈E) (hd:a.device=b.device) (hs:a.seq<b.seq):a.at_≤b.at_:=by
 have:=h.fit a ha b hb;unfold Gos.lU at this;simp [hd] at this;omega
theorem yD {l:List Ev} {X:Int} (hX:0≤X): ∀(ds:List Nat) (t:Int),(t≤X∨ ∃d∈ds,fE l (d:Int)=0∨OX l d (fE l (d:Int))≤X)→xf l ds t≤X
 |[],t,h=>by
  rcases h with h|⟨d,hd,_⟩
  ·exact h
  cases hd
 |a::ds,t,h=>by
  unfold xf;split
  ·exact hX
  rename_i h0;refine yD hX ds _ ?_;rcases h with h|⟨d,hd,h⟩
  ·exact .inl (by omega)
  rcases bU.1 hd with rfl|hd
  ·exact .inl (by have:=h.resolve_left h0;omega)
  exact .inr ⟨d,hd,h⟩
theorem JF {l:List Ev} {X:Int}: ∀(ds:List Nat) (t:Int),X≤t→(∀d∈ds,fE l (d:Int)≠0∧X≤OX l d (fE l (d:Int)))→X≤xf l ds t
 |[],t,h,_=>h
 |a::ds,t,h,hd=>by
  unfold xf;obtain ⟨h0,h1⟩:=hd a (by simp);rw [ah h0];exact JF ds _ (by omega) fun d hd'=>hd d (by simp [hd'])
theorem TL {dv:Int} {E l:List Ev} (h:Cons dv E) (hl: ∀x∈l,x∈E) (n:Int):0≤l5 n l:=by
 unfold l5;generalize List.range n.toNat=ds;have go: ∀(ds:List Nat) (t:Int),0≤t→0≤xf l ds t:=by
  intro ds
  induction ds with
  |nil=>intro t ht;exact ht
  |cons a ds ih=>
   intro t ht;unfold xf;split
   ·exact gI _
   rename_i h0;obtain ⟨x,hx,_,ha⟩:=AT h hl h0;have:=h.at_ x (hl x hx);exact ih _ (by omega)
 exact go ds _ (by decide)
theorem NJ {dv:Int} {E l:List Ev} (h:Cons dv E) (hl: ∀x∈l,x∈E) {e:Ev} (he:e∈E) (hn:e∉l):l5 dv l≤e.at_:=by
 have hd:=h.dev e he;have hs:=h.seq e he;unfold l5;refine yD (h.at_ e he) _ _ (.inr ⟨e.device.toNat,dL.2 (by omega),?_⟩);rw [Int.toNat_of_nonneg hd.1];by_cases h0:fE l e.device=0
 ·exact .inl h0
 right;obtain ⟨x,hx,hk,ha⟩:=AT h hl h0;rw [ha];have hk1:x.device=e.device:=aT Prod.fst hk;have hk2:x.seq=(fE l e.device:Int):=aT Prod.snd hk;refine NU h (hl x hx) he hk1 ?_;by_cases hge:x.seq<e.seq
 ·exact hge
 exfalso;obtain ⟨j,hj⟩: ∃j:Nat,e.seq=(j:Int)+1:=⟨(e.seq -1).toNat,by omega⟩;obtain ⟨y,hy,hyk⟩:=A6.1 ((vE l e.device).1 j (by omega));have:y=e:=h.key y (hl y hy) e he (by rw [hyk,←hj];rfl);exact hn (this▸hy)
theorem Cu {dv:Int} {E l m:List Ev} (h:Cons dv E) (hm: ∀x∈m,x∈E) (hl: ∀x∈l,x∈m):l5 dv l≤l5 dv m:=by
 have hlE: ∀x∈l,x∈E:=fun x hx=>hm x (hl x hx);by_cases hpos:0<l5 dv l
 ·have hnz: ∀d∈List.range dv.toNat,fE l (d:Int)≠0:=fun d hd h0=>by
   have:l5 dv l≤0:=by unfold l5;exact yD (gI _) _ _ (.inr ⟨d,hd, .inl h0⟩)
   omega
  have hX:0≤l5 dv l:=by omega
  show _≤xf m (List.range dv.toNat) 4294943999;refine JF _ _ ?_ fun d hd=>?_
  ·unfold l5;exact yD (by decide) _ _ (.inl (gI _))
  have hs:=KM hl (d:Int);have h0:fE m (d:Int)≠0:=by have:=hnz d hd;omega
  refine ⟨h0,?_⟩;obtain ⟨x,hx,hk,ha⟩:=AT h hlE (hnz d hd);obtain ⟨y,hy,hyk,hya⟩:=AT h hm h0;rw [hya];have hle:x.at_≤y.at_:=by
   have k1:x.device=d:=aT Prod.fst hk;have k2:x.seq=(fE l (d:Int):Int):=aT Prod.snd hk;have k3:y.device=d:=aT Prod.fst hyk;have k4:y.seq=(fE m (d:Int):Int):=aT Prod.snd hyk;rcases l' (fE l (d:Int)) (fE m (d:Int)) with hlt|hge
   ·exact NU h (hlE x hx) (hm y hy) (k1.trans k3.symm) (by omega)
   have:x=y:=h.key x (hlE x hx) y (hm y hy) (by rw [hk,hyk,show fE l (d:Int)=fE m (d:Int) by omega]);rw [this];exact gI _
  refine FJ ?_ hle;rw [←ha];unfold l5;exact yD (by rw [ha];exact h.at_ x (hlE x hx)) _ _ (.inr ⟨d,hd, .inr (gI _)⟩)
 exact FJ (by omega) (TL h hm dv)
theorem HU {dv:Int} {E l:List Ev} (h:Cons dv E) (hl: ∀x∈l,x∈E):lQ (l5 dv l -1) (fH l)=lQ (l5 dv l -1) (fH E):=by
 have hs:=fun l:List Ev=>(mx l).sorted;have key: ∀m:List Ev,(∀x∈m,x∈E)→ ∀e,e∈setOf (fH m)↔e∈m:=fun m hm e=>by
  rw [(mx _).mem,qC];refine ⟨fun h1=>h1.1,fun h1=>⟨h1,fun e' he' hsn=>?_⟩⟩;have he':=qC.1 he';have hk:ki e=ki e':=by
   have:=qX.1 hsn;unfold ki;rw [this.1,this.2]
  have:e=e':=h.key e (hm e h1) e' (hm e' he') hk;subst this;exact nK e
 unfold lQ;refine pB ((hs _).filter _) ((hs _).filter _) fun e=>?_;rw [dT,dT,key l hl,key E fun x hx=>hx];constructor
 ·rintro ⟨h1,h2⟩;exact ⟨hl e h1,h2⟩
 rintro ⟨h1,h2⟩;refine ⟨?_,h2⟩;by_cases hm:e∈l
 ·exact hm
 have:=NJ h hl h1 hm;simp at h2;omega
theorem N1 (f:Fl) (l:List Ev):gO f l=(iw f (fH l)).filter (kj (l5 f.aH l)):=rfl
theorem K1 {f:Fl} {p:Pr} {E l:List Ev} (h:Cons f.aH E) (hl: ∀x∈l,x∈E) (e1:dS f p (gO f E) []=0) (e2:dS f p (gO f l) []=0) {c:iY} (hc:c∈iW f p (gO f l) []):c∈iW f p (gO f E) []:=
 LB (HU h hl) (Cu h (fun x hx=>hx) hl) e1 e2 hc
theorem N0 {f:Fl} {E l:List Ev} (h:Cons f.aH E) (hn:l.Nodup) (hl: ∀x,x∈l↔x∈E):gO f l=gO f E:=by
 rw [N1,N1,N5 hn h.nd hl,Int.le_antisymm (Cu h (fun x hx=>hx) fun x hx=>(hl x).1 hx) (Cu h (fun x hx=>(hl x).1 hx) fun x hx=>(hl x).2 hx)]
abbrev oS (c:iY):Py:=⟨c.aP,c.rider,c.total⟩
def zU (f:Fl) (p:Pr) (E:List Ev) (P:Py):Prop:= ∃l:List Ev,(∀x∈l,x∈E)∧dS f p (gO f l) []=0∧ ∃c∈iW f p (gO f l) [],P=oS c
theorem zU.mono {f:Fl} {p:Pr} {E E':List Ev} {P:Py} (h:zU f p E P) (he: ∀x∈E,x∈E'):zU f p E' P:=by
 obtain ⟨l,h1,h2⟩:=h;exact ⟨l,fun x hx=>he x (h1 x hx),h2⟩
def RE (bank:List Py) (q:En):Prop:=q.state=0∨(q.state=1∧q.jF∈bank)∨(q.state=2∧ ∃b∈bank,b.aP=q.jF.aP∧b≠q.jF)
theorem RE.mono {b b':List Py} {q:En} (h:RE b q) (hb: ∀x∈b,x∈b'):RE b' q:=by
 rcases h with h|⟨h1,h2⟩|⟨h1,x,h2,h3⟩
 ·exact .inl h
 ·exact .inr (.inl ⟨h1,hb _ h2⟩)
 exact .inr (.inr ⟨h1,x,hb _ h2,h3⟩)
structure QD (T:Py→Prop) (bank:List Py) (d:List En):Prop where
 nd:(uL d).Nodup
 PL: ∀q∈d,T q.jF
 V4: ∀q∈d,RE bank q
 U7: ∀q∈d,fW q.jF=true
theorem DO (b:List Py) (p:Py):((nc b p).2=0∧p∈sg b p∧ ∀x,x∈sg b p→x∈b∨x=p)∨((nc b p).2=21∧sg b p=b∧ ∃x∈b,x.aP=p.aP∧x≠p)∨((nc b p).2≠0∧(nc b p).2≠21∧sg b p=b∧(fW p=false∨256≤b.length)):=by
 have hB:sg b p=if (nc b p).2=0 then (nc b p).1 else b:=rfl
 rw [AW] at hB⊢;by_cases h1:fW p=false
 ·rw [av h1] at hB⊢;exact .inr (.inr ⟨by decide,by decide,hB, .inl h1⟩)
 rw [ah h1] at hB⊢;by_cases h2:b.any (vf p)=true
 ·rw [av h2] at hB⊢;obtain ⟨x,hx,hc⟩:=cY.1 h2;unfold vf at hc;simp at hc;exact .inr (.inl ⟨rfl,hB,x,hx,hc.1,hc.2⟩)
 rw [ah h2] at hB⊢;by_cases h3:b.any (uJ p)=true
 ·rw [av h3] at hB⊢;obtain ⟨x,hx,hc⟩:=cY.1 h3;unfold uJ at hc;have hc:x=p:=by simpa using hc
  rw [hB];exact .inl ⟨rfl,by rw [av rfl,←hc];exact hx,fun y hy=> .inl hy⟩
 rw [ah h3] at hB⊢;by_cases h4:256≤b.length
 ·rw [av h4] at hB⊢;exact .inr (.inr ⟨by decide,by decide,hB, .inr h4⟩)
 rw [ah h4] at hB⊢;rw [hB];exact .inl ⟨rfl,by simp,fun x hx=>by simpa using hx⟩
theorem M6 (b:List Py) (p:Py): ∀x∈b,x∈sg b p:=fun _ hx=>(BG.jF b p).pre.subset hx
abbrev RL (ans:Int):Int:=if ans=0 then 1 else if ans=21 then 2 else 0
theorem Qm {d:List En} (h:(uL d).Nodup) {j:Nat} {q:En} (hj:d[j]?=some q):d.findIdx? (AY q.jF.aP)=some j:=by
 cases hf:d.findIdx? (AY q.jF.aP) with
 |none=>
  rw [qU] at hf;have:=hf q (an hj);simp [AY] at this
 |some i=>
  have h1:=zT hf;have a1:=bf (f:=fun x:En=>x.jF.aP) (l:=d) (i:=i);have a2:=bf (f:=fun x:En=>x.jF.aP) (l:=d) (i:=j);rw [h1.1] at a1;rw [hj] at a2;simp only [fU] at a1 a2;have h2:(d.getD i default).jF.aP=q.jF.aP:=by
   obtain ⟨hi,hb,_⟩:=mf.1 hf;rw [aq,aj hi];simpa [AY] using hb
  rw [h2] at a1;obtain ⟨g1,g2⟩:=aa.1 a1;obtain ⟨g3,g4⟩:=aa.1 a2;have:=(List.getElem_inj h).1 (g2.trans g4.symm);rw [this]
theorem Ep {d:List En} (h:(uL d).Nodup) {j:Nat} {q:En} (hj:d[j]?=some q) (h0:q.state=0) (e:Int):(r4 d q.jF.aP e).1=d.set j ⟨q.jF,RL e,q.tries+1⟩:=by
 rw [vo,Qm h hj];have hg:d.getD j default=q:=getD_at hj;simp only [hg];rw [ah (by rw [h0];decide)]
theorem xq {l:List En}: ∀k,0≤iH l k→ ∃q,l[(iH l k).toNat]?=some q∧q.state=0
 |0,h=>by simp [iH] at h
 |k+1,h=>by
  cases hk:l[k]? with
  |none=>
   have e:iH l (k+1)=iH l k:=by rw [iH,hk]
   rw [e] at h⊢;exact xq k h
  |some x=>
   have e:=J7 hk;by_cases hc:x.state=0∧(iH l k<0∨x.tries<(l.getD (iH l k).toNat default).tries)
   ·rw [av hc] at e;rw [e,aM];exact ⟨x,hk,hc.1⟩
   rw [ah hc] at e;rw [e] at h⊢;exact xq k h
theorem zS {l:List En}: ∀k,iH l k<0→ ∀j,j<k→ ∀q,l[j]?=some q→q.state≠0
 |0,_,j,hj,_,_=>absurd hj (UJ _)
 |k+1,h,j,hj,q,hq=>by
  unfold iH at h;split at h
  ·rename_i hk;rcases l' j k with h1|h1
   ·exact zS k h j h1 q hq
   rw [show j=k by omega,hk] at hq;cases hq
  rename_i x hk;split at h
  ·omega
  rename_i hc;rcases l' j k with h1|h1
  ·exact zS k h j h1 q hq
  rw [show j=k by omega,hk] at hq;cases hq;exact fun h0=>hc ⟨h0, .inl h⟩
theorem DX {l:List En} {j:Nat} (h:tY l=some j): ∃q,l[j]?=some q∧q.state=0:=by
 unfold tY at h;split at h
 ·cases h
 cases h;exact xq _ (by omega)
theorem K7 {l:List En} (h:tY l=none):jl l=[]:=by
 unfold tY at h;split at h
 ·rename_i hb;unfold jl jC;rw [List.map_eq_nil_iff,Ez];intro q hq;obtain ⟨j,hj⟩:=bC.1 hq;have:=zS _ hb j (aa.1 hj).1 q hj;simpa using this
 cases h
theorem Mx {T:Py→Prop} {q:QS} (h:QD T q.1 q.2.1) {j:Nat} {e:En} (hj:q.2.1[j]?=some e) (h0:e.state=0):QD T (AD q e.jF).1 (AD q e.jF).2.1∧ ∀x∈(AD q e.jF).1,x∈q.1∨x=e.jF:=by
 rw [uH];simp only;generalize hans:(if 0<q.2.2 then 33 else (nc q.1 e.jF).2)=ans;rw [Ep h.nd hj h0 ans];have hme:=an hj;have hmem: ∀{x:En},x∈q.2.1.set j ⟨e.jF,RL ans,e.tries+1⟩→x∈q.2.1∨x=⟨e.jF,RL ans,e.tries+1⟩:=fun hx=>q9 hx;have hc:=DO q.1 e.jF;refine ⟨⟨?_,fun x hx=>?_,fun x hx=>?_,fun x hx=>?_⟩,fun x hx=>?_⟩
 ·have hp:uL (q.2.1.set j ⟨e.jF,RL ans,e.tries+1⟩)=uL q.2.1:=by
   refine Jj ?_;rw [k8];refine cU fun i=>?_;by_cases hi:j=i
   ·subst hi;rw [de (by rw [aD];exact (aa.1 hj).1),bf,hj];rfl
   rw [cj hi]
  rw [hp];exact h.nd
 ·rcases hmem hx with hx|rfl
  ·exact h.PL x hx
  exact h.PL e hme
 ·rcases hmem hx with hx|rfl
  ·exact (h.V4 x hx).mono (M6 _ _)
  have h33: ∀{c:Int},c≠0→c≠21→RL c=0:=fun h1 h2=>by unfold RL;rw [ah h1,ah h2]
  by_cases hl:0<q.2.2
  ·rw [av hl] at hans;subst hans;exact .inl rfl
  rw [ah hl] at hans;subst hans;rcases hc with ⟨c1,c2,_⟩|⟨c1,c2,x,hx,hxr⟩|⟨c1,c2,_⟩
  ·exact .inr (.inl ⟨by show RL _=1;rw [c1];rfl,c2⟩)
  ·exact .inr (.inr ⟨by show RL _=2;rw [c1];rfl,x,by rw [c2];exact hx,hxr⟩)
  exact .inl (h33 c1 c2)
 ·rcases hmem hx with hx|rfl
  ·exact h.U7 x hx
  exact h.U7 e hme
 rcases hc with ⟨_,_,c3⟩|⟨_,c2,_⟩|⟨_,_,c2,_⟩
 ·exact c3 x hx
 ·rw [c2] at hx;exact .inl hx
 rw [c2] at hx;exact .inl hx
theorem FV {T:Py→Prop}: ∀(k:Nat) {q:QS},QD T q.1 q.2.1→(∀x∈q.1,T x)→QD T (jB k q).1 (jB k q).2.1∧ ∀x∈(jB k q).1,T x
 |0,q,h,hb=>⟨h,hb⟩
 |k+1,q,h,hb=>by
  unfold jB;split
  ·exact ⟨h,hb⟩
  rename_i i hi;obtain ⟨e,he,h0⟩:=DX hi;have hg:q.2.1.getD i default=e:=getD_at he;rw [hg];obtain ⟨a1,a2⟩:=Mx h he h0;exact FV k a1 fun x hx=>(a2 x hx).elim (hb x) fun hx=>hx▸h.PL e (an he)
theorem OZ {T:Py→Prop} {bank:List Py} {d:List En} (h:QD T bank d) {p:Py} (hp:T p):QD T bank (AO d p).1:=by
 have hnd:=OY p h.nd;rw [vV] at hnd⊢;split
 ·exact h
 rename_i hr;rw [ah hr] at hnd;split
 ·split<;>exact h
 rename_i hf;rw [hf] at hnd;simp only at hnd;split
 ·exact h
 rename_i hn;rw [ah hn] at hnd;have hm: ∀{x:En},x∈d++[⟨p,0,0⟩]→x∈d∨x=⟨p,0,0⟩:=fun hx=>by simpa using hx
 refine ⟨hnd,fun x hx=>?_,fun x hx=>?_,fun x hx=>?_⟩
 ·rcases hm hx with hx|rfl
  ·exact h.PL x hx
  exact hp
 ·rcases hm hx with hx|rfl
  ·exact h.V4 x hx
  exact .inl rfl
 rcases hm hx with hx|rfl
 ·exact h.U7 x hx
 simpa using hr
theorem Bd {T:Py→Prop} {bank:List Py} (n:Nat) (i:Int): ∀(l:List iY) {d:List En},QD T bank d→(∀c∈l,T (oS c))→QD T bank (iR n i d l)
 |[],_,h,_=>h
 |c::l,d,h,hc=>by
  rw [iR];split
  ·exact Bd n i l (OZ h (hc c (by simp))) fun x hx=>hc x (by simp [hx])
  exact Bd n i l h fun x hx=>hc x (by simp [hx])
theorem VP {f:Fl} {p:Pr} {E:List Ev} {n:Nat} {i:Int} {bank:List Py} {x:SS} (hx: ∀e∈x.eO,e∈E) (h:QD (zU f p E) bank x.gm) (hb: ∀b∈bank,zU f p E b):QD (zU f p E) (tN f p n i bank x).1 (tN f p n i bank x).2.1.gm∧ ∀b∈(tN f p n i bank x).1,zU f p E b:=by
 unfold tN;split
 ·exact ⟨h,hb⟩
 rename_i he;unfold Ra;simp only;exact FV _ (Bd n i _ h fun c hc=>⟨x.eO,hx,by simpa using he,c,hc,rfl⟩) hb
structure OI (f:Fl) (p:Pr) (E:List Ev) (s:NS):Prop where
 cons:Cons f.aH E
 nd: ∀x∈s.gh,x.eO.Nodup
 sub: ∀x∈s.gh,∀e∈x.eO,e∈E
 bank: ∀b∈s.bank,zU f p E b
 gm: ∀x∈s.gh,QD (zU f p E) s.bank x.gm
def Pk (s:NS) (E:List Ev):Prop:= ∀e∈E,∃x∈s.gh,e∈x.eO
theorem QD.mono {T T':Py→Prop} {b b':List Py} {d:List En} (h:QD T b d) (hT: ∀q,T q→T' q) (hb: ∀x∈b,x∈b'):QD T' b' d:=⟨h.nd,fun q hq=>hT _ (h.PL q hq),fun q hq=>(h.V4 q hq).mono hb,h.U7⟩
theorem QD.nil {T:Py→Prop} {b:List Py}:QD T b []:=⟨jY,fun q h=>(by cases h),fun q h=>(by cases h),fun q h=>(by cases h)⟩
section
variable {f:Fl} {p:Pr} {E E':List Ev} {s:NS}
theorem OI.at_ (h:OI f p E s) (i:Nat):(s.gh.getD i default).eO.Nodup∧(∀e∈(s.gh.getD i default).eO,e∈E)∧QD (zU f p E) s.bank (s.gh.getD i default).gm:=by
 rw [aq];cases hk:s.gh[i]? with
 |none=>exact ⟨jY,fun e he=>(by cases he),QD.nil⟩
 |some x=>
  have hm:=an hk;exact ⟨h.nd x hm,h.sub x hm,h.gm x hm⟩
theorem OI.put (h:OI f p E s) {i:Nat} {y:SS} {ap:List (List Bool)} {b:List Py} (h1:y.eO.Nodup) (h2: ∀e∈y.eO,e∈E) (hb: ∀z∈s.bank,z∈b) (hT: ∀z∈b,zU f p E z) (hd:QD (zU f p E) b y.gm):OI f p E ⟨s.gh.set i y,ap,b⟩:=
 ⟨h.cons,fun x hx=>(q9 hx).elim (h.nd x) fun e=>e▸h1,fun x hx=>(q9 hx).elim (h.sub x) fun e=>e▸h2,hT,fun x hx=>(q9 hx).elim (fun hx=>(h.gm x hx).mono (fun _ h=>h) hb) fun e=>e▸hd⟩
theorem OI.ap (h:OI f p E s) (ap:List (List Bool)):OI f p E ⟨s.gh,ap,s.bank⟩:=⟨h.cons,h.nd,h.sub,h.bank,h.gm⟩
theorem OI.more (h:OI f p E s) (hc:Cons f.aH E') (he: ∀x∈E,x∈E'):OI f p E' s:=
 ⟨hc,h.nd,fun x hx e hxe=>he e (h.sub x hx e hxe),fun b hb=>(h.bank b hb).mono he,fun x hx=>(h.gm x hx).mono (fun _ hq=>hq.mono he) fun _ h=>h⟩
theorem GX (l:List SS) (i j:Nat) (y:SS):(l.set i y).getD j default=if i=j∧i<l.length then y else l.getD j default:=by
 rw [aq,aq,bw];by_cases h:i=j
 ·subst h;by_cases hl:i<l.length
  ·simp [hl]
  simp [hl]
 simp [h]
theorem Pk.put (h:Pk s E) {i:Nat} {y:SS} {ap:List (List Bool)} {b:List Py} (h3: ∀e∈(s.gh.getD i default).eO,e∈y.eO):Pk ⟨s.gh.set i y,ap,b⟩ E:=fun e he=>by
 obtain ⟨x,hx,hxe⟩:=h e he;obtain ⟨j,hj⟩:=bC.1 hx;have hjl:=(aa.1 hj).1;by_cases hij:i=j
 ·subst hij;rw [getD_at hj] at h3;exact ⟨y,an (de hjl),h3 e hxe⟩
 exact ⟨x,an (by show (s.gh.set i y)[j]?=some x;rw [cj hij,hj]),hxe⟩
def JK (f:Fl) (s:NS) (x:k7):Prop:=x.kind=1∧hasB s.gh.length x.a=true∧fF f x.ev=0
theorem St (h:OI f p E s) (h5:E.length<512) {x:k7} (hx: ¬JK f s x):OI f p E (mP f p s x).1∧(Pk s E→Pk (mP f p s x).1 E):=by
 unfold mP;split
 ·exact ⟨h,id⟩
 split
 ·exact ⟨h,id⟩
 rename_i _ hh;have hh:hasB s.gh.length x.a=true:=by simpa using hh
 obtain ⟨a1,a2,a3⟩:=h.at_ x.a.toNat;unfold Da;split
 ·rename_i hk;unfold N8;split
  ·exact ⟨h,id⟩
  rename_i he;exact absurd ⟨hk,hh,by simpa using he⟩ hx
 split
 ·obtain ⟨b1,b2⟩:=VP (f:=f) (p:=p) (n:=s.gh.length) (i:=(x.a.toNat:Int)) a2 a3 h.bank;have hev:(tN f p s.gh.length (x.a.toNat:Int) s.bank (s.gh.getD x.a.toNat default)).2.1.eO=(s.gh.getD x.a.toNat default).eO:=by unfold tN;split<;>rfl
  have hbk: ∀z∈s.bank,z∈(tN f p s.gh.length (x.a.toNat:Int) s.bank (s.gh.getD x.a.toNat default)).1:=by
   unfold tN;split
   ·exact fun _ h=>h
   unfold Ra;exact fun z hz=>(uI _ 0 (s.bank,_,_)).1.pre.subset hz
  exact ⟨h.put (by rw [hev];exact a1) (by rw [hev];exact a2) hbk b2 b1,fun hc=>hc.put (by rw [hev];exact fun _ h=>h)⟩
 split
 ·split
  ·exact ⟨h,id⟩
  exact ⟨h.put a1 a2 (fun _ h=>h) h.bank a3,fun hc=>hc.put fun _ h=>h⟩
 split
 ·exact ⟨h,id⟩
 unfold wb;split
 ·exact ⟨h.ap _,id⟩
 split
 ·exact ⟨h.ap _,id⟩
 split
 ·exact ⟨h,id⟩
 obtain ⟨_,c2,_⟩:=h.at_ x.b.toNat;obtain ⟨l1,l2⟩:=Cq h.cons h5 (fH (s.gh.getD x.b.toNat default).eO) a1 a2 fun e he=>c2 e (qC.1 he);exact ⟨h.put l1 (fun e he=>((l2 e).1 he).elim (a2 e) fun he=>c2 e (qC.1 he)) (fun _ h=>h) h.bank a3,fun hc=>hc.put fun e he=>(l2 e).2 (.inl he)⟩
theorem Kb {dv:Int} {E:List Ev} {e:Ev} (h:(fX dv E e).2.2=0): ∀x,x∈(fX dv E e).1↔x∈E∨x=e:=by
 unfold fX at h⊢;by_cases h1:e.device<0∨dv≤e.device
 ·rw [av h1] at h;cases h
 rw [ah h1] at h⊢;by_cases h2:e.seq<1∨1048576<e.seq∨e.at_<0∨e.late<e.at_∨4294943999<e.late
 ·rw [av h2] at h;cases h
 rw [ah h2] at h⊢;cases hf:E.find? fun x=>decide (ki x=ki e) with
 |some y=>
  rw [hf] at h;simp only at h⊢;by_cases hy:y=e
  ·rw [av hy];exact fun x=>⟨.inl,fun hx=>hx.elim id fun hx=>by rw [hx,←hy];exact gB hf⟩
  rw [ah hy] at h;cases h
 |none=>
  rw [hf] at h;simp only at h⊢;by_cases h3:(E.any fun x=>Gos.lU x e)=true
  ·rw [av h3] at h;cases h
  rw [ah h3] at h⊢;by_cases h4:512≤E.length
  ·rw [av h4] at h;cases h
  rw [ah h4];exact fun x=>by simp
theorem Vw (h:OI f p E s) (hc:Pk s E) {x:k7} (hx:JK f s x) (h0:(fX f.aH E x.ev).2.2=0) (h5:(fX f.aH E x.ev).1.length<512):OI f p (fX f.aH E x.ev).1 (mP f p s x).1∧Pk (mP f p s x).1 (fX f.aH E x.ev).1:=by
 obtain ⟨k1,k2,k3⟩:=hx;have hm:=Kb h0;have hcons:=LV h.cons x.ev;generalize (fX f.aH E x.ev).1=E' at hm hcons h5;have h':=h.more hcons fun y hy=>(hm y).2 (.inl hy);obtain ⟨a1,a2,a3⟩:=h'.at_ x.a.toNat;obtain ⟨b1,b2⟩:=Kc hcons a2 (by have:=AR a1 a2;omega) ((hm x.ev).2 (.inr rfl));have hd:mP f p s x=(v8 s x.a.toNat {s.gh.getD x.a.toNat default with eO:=(fX f.aH (s.gh.getD x.a.toNat default).eO x.ev).1},if (fX f.aH (s.gh.getD x.a.toNat default).eO x.ev).2.2≠0 then 0 else if (fX f.aH (s.gh.getD x.a.toNat default).eO x.ev).2.1=true then 1 else 0,(fX f.aH (s.gh.getD x.a.toNat default).eO x.ev).2.2):=by
  unfold mP Da N8;rw [ah (by omega),ah (by rw [k2];decide),av k1,ah (fun hn=>hn k3)]
 rw [hd];have hlt:x.a.toNat<s.gh.length:=by simp [hasB] at k2;omega
 refine ⟨h'.put (yR a1) (fun e he=>((b2 e).1 he).elim (a2 e) fun he=>he▸(hm x.ev).2 (.inr rfl)) (fun _ h=>h) h'.bank a3,fun e he=>?_⟩;rcases (hm e).1 he with he|rfl
 ·exact hc.put (fun e he=>(b2 e).2 (.inl he)) e he
 exact ⟨_,an (de hlt),(b2 _).2 (.inr rfl)⟩
end
end Go.Proofs.Net
