import Derived.Test.YtakhechhnnjbcaaGreatBC08
import Derived.Test.YtakhechhnnjbcaaGreatBC12
import Derived.Test.YtakhechhnnjbcaaGreatBC09
import Derived.Test.YtakhechhnnjbcaaGreatBC03
import Derived.Test.YtakhechhnnjbcaaGreatBC02
import Derived.WideKeyRuns
import Derived.ChangeKeysEq
import Derived.Test.YtakhechhnnjbcaaGreatBC04
import Derived.Test.YtakhechhnnjbcaaGreatTc
set_option maxRecDepth 100000
set_option maxHeartbeats 8000000
set_option linter.unusedVariables false
set_option linter.unusedSimpArgs false
namespace Go.Proofs.Cus
structure RT where
 id:Int
 rider:Int
 bD:Int
 open_:Bool
deriving DecidableEq,Inhabited
structure RS where
 aK:List Sp
 fQ:List RT
deriving DecidableEq,Inhabited
def rn (l:List RT) (id:Int):Option Nat:=l.findIdx? fun t=>t.id==id
def MV (l:List RT) (rider:Int):Bool:=l.any fun t=>t.open_&&decide (t.rider=rider)
theorem CB {l:List RT} {id:Int} {k:Nat} (h:rn l id=some k): ∃t,l[k]?=some t∧t.id=id:=by
 obtain ⟨hk,hp,_⟩:=mf.1 h;exact ⟨l[k],aj hk,by simpa using hp⟩
theorem Iz {l:List RT} {id:Int}:rn l id=none↔ ∀t∈l,t.id≠id:=by
 unfold rn;rw [qU];constructor
 ·intro h t ht;simpa using h t ht
 intro h t ht;simpa using h t ht
theorem rm {l:List RT} (hn:(l.map (·.id)).Nodup) {k:Nat} {t:RT} (h:l[k]?=some t):rn l t.id=some k:=by
 cases hf:rn l t.id with
 |none=>exact absurd rfl (Iz.1 hf t (an h))
 |some j=>
  obtain ⟨u,hu,hid⟩:=CB hf;obtain ⟨hj,hju⟩:=aa.1 hu;obtain ⟨hk,hkt⟩:=aa.1 h;have:=bj.1 hn;rcases jQ j k with h1|h1|h1
  ·exact absurd (by rw [ij,ij,hju,hkt,hid]) (this j k (by simpa using hj) (by simpa using hk) h1)
  ·rw [h1]
  exact absurd (by rw [ij,ij,hju,hkt,hid]) (this k j (by simpa using hk) (by simpa using hj) h1)
def xo (l:List RT) (i:Nat):List RT:=match l[i]? with|some t=>l.set i {t with open_:=false}|none=>l
def Ia (r:RS) (k:Nat) (x:Sp):RS:=
 {aK:=r.aK.set k x,fQ:=if (r.aK.getD k default).cn=3 then xo r.fQ ((rn r.fQ (r.aK.getD k default).aP).getD 0) else r.fQ}
def vm (r:RS) (e:Ev):RS:=
 let k:=e.bD.toNat
 if e.kind=1 then Ia r k ⟨1,e.place,0,false⟩
 else if e.kind=2 then Ia r k ⟨2,e.place,0,false⟩
 else if e.kind=7 then Ia r k ⟨4,e.place,0,false⟩
 else if e.kind=8 then Ia r k ⟨5,0,0,false⟩
 else if e.kind=9 then Ia r k ⟨6,0,0,false⟩
 else if e.kind=3 then {aK:=r.aK.set k ⟨3,0,e.aP,false⟩,fQ:=r.fQ++[⟨e.aP,e.rider,e.bD,true⟩]}
 else if e.kind=4 then
  let i:=(rn r.fQ e.aP).getD 0
  let t:=r.fQ.getD i default
  {aK:=(r.aK.set t.bD.toNat (r.aK.getD k default)).set k ⟨3,0,e.aP,false⟩,fQ:=r.fQ.set i {t with bD:=e.bD}}
 else if e.kind=5 then {r with aK:=r.aK.set k {(r.aK.getD k default) with bn:=true}}
 else if e.kind=6 then {r with aK:=r.aK.set k {(r.aK.getD k default) with bn:=false}}
 else r
def rM (f:Fl) (s:PS) (e:Ev):Int:=if fF f e≠0 then fF f e else if e.kind=10 then 0 else dF f.eJ s e
structure Rel (n:Nat) (s:PS) (r:RS):Prop where
 inv:jP n s
 aK:r.aK=s.aK
 ids:(r.fQ.map (·.id)).Nodup
 used: ∀id,oX s.used id=true↔ ∃t∈r.fQ,t.id=id
 TE: ∀t∈r.fQ,t.open_=true→ ∃pa,(t.id,(⟨t.rider,t.bD,pa⟩:PT))∈s.open_
 R3: ∀p∈s.open_,(⟨p.1,p.2.rider,p.2.bD,true⟩:RT)∈r.fQ
section
variable {n:Nat} {s:PS} {r:RS}
theorem KD (h:(r.fQ.map (·.id)).Nodup) {t u:RT} (ht:t∈r.fQ) (hu:u∈r.fQ) (he:t.id=u.id):t=u:=by
 obtain ⟨i,hi⟩:=bC.1 ht;obtain ⟨j,hj⟩:=bC.1 hu;have h1:=rm h hi;have h2:=rm h hj;rw [he,h2] at h1;cases h1;rw [hi] at hj;exact (j8 hj)
theorem Rel.cG (h:Rel n s r) (rider:Int):mW s.open_ rider=MV r.fQ rider:=by
 unfold mW MV;rw [mJ,cY,cY];constructor
 ·rintro ⟨p,hp,h1⟩;exact ⟨_,h.R3 p hp,by simpa using h1⟩
 rintro ⟨t,ht,h1⟩;simp at h1;obtain ⟨pa,hpa⟩:=h.TE t ht h1.1;exact ⟨_,hpa,by simpa using h1.2⟩
theorem Rel.look (h:Rel n s r) (id:Int):(k9 s.open_ id=none∧(rn r.fQ id=none∨ ∃k t,rn r.fQ id=some k∧r.fQ[k]?=some t∧t.open_=false))∨
  ∃k p,k9 s.open_ id=some p∧(id,p)∈s.open_∧rn r.fQ id=some k∧r.fQ[k]?=some ⟨id,p.rider,p.bD,true⟩∧0≤p.bD∧p.bD<n∧(s.aK.getD p.bD.toNat default).bn=p.bn:=by
 cases hl:k9 s.open_ id with
 |none=>
  left;refine ⟨rfl,?_⟩;cases hf:rn r.fQ id with
  |none=>exact .inl rfl
  |some k=>
   obtain ⟨t,ht,hid⟩:=CB hf;refine .inr ⟨k,t,rfl,ht,?_⟩;cases ho:t.open_ with
   |false=>rfl
   |true=>
    obtain ⟨pa,hpa⟩:=h.TE t (an ht) ho;rw [hid] at hpa;rw [uW h.inv.keys hpa] at hl;cases hl
 |some p=>
  right;have hp:=nh hl;obtain ⟨k,hk⟩:=bC.1 (h.R3 _ hp);obtain ⟨hb,x,hx,_,_,hpa⟩:=h.inv.bD _ hp;simp only at hb hx hpa;have hlt:=(aa.1 hx).1;rw [h.inv.len] at hlt;refine ⟨k,p,rfl,hp,rm h.ids hk,hk,hb,by omega,?_⟩;rw [aq,hx];exact hpa
theorem Rel.aP (h:Rel n s r) {k:Nat} {x:Sp} (hx:s.aK[k]?=some x) (h3:x.cn=3): ∃i p,rn r.fQ x.aP=some i∧(x.aP,p)∈s.open_∧r.fQ[i]?=some ⟨x.aP,p.rider,p.bD,true⟩∧p.bD=(k:Int):=by
 obtain ⟨t,ht,hb⟩:=h.inv.spot k x hx h3;obtain ⟨i,hi⟩:=bC.1 (h.R3 _ ht);exact ⟨i,t,rm h.ids hi,ht,hi,hb⟩
theorem Ch {l:List RT} (hn:(l.map (·.id)).Nodup) {i:Nat} {t u:RT} (hi:l[i]?=some t):u∈xo l i↔(u={t with open_:=false})∨(u∈l∧u.id≠t.id):=by
 unfold xo;rw [hi];obtain ⟨hil,_⟩:=aa.1 hi;constructor
 ·intro hu;obtain ⟨j,hj⟩:=bC.1 hu;rw [bw] at hj;split at hj
  ·cases hj;exact .inl rfl
  rename_i hne;refine .inr ⟨an hj,fun e=>hne ?_⟩;have h1:=rm hn hi;have h2:=rm hn hj;rw [e,h1] at h2;exact j8 h2
 rintro (rfl|⟨hu,hne⟩)
 ·exact an (i:=i) (by rw [bw];simp [hil])
 obtain ⟨j,hj⟩:=bC.1 hu;refine an (i:=j) ?_;rw [bw,ah (fun e=>?_)]
 ·exact hj
 subst e;rw [hi] at hj;exact hne (by rw [j8 hj])
theorem xn (l:List RT) (i:Nat):(xo l i).map (·.id)=l.map (·.id):=by
 unfold xo;cases h:l[i]? with
 |none=>rfl
 |some t=>
  simp only;refine cU fun j=>?_;simp only [bf,bw];split
  ·rename_i e;subst e;rw [h];have:=(aa.1 h).1;simp [this]
  rfl
theorem Rel.put (h:Rel n s r) (k:Nat) (hk:k<n) (to:Sp) (hto:to.cn≠3):Rel n (fT s k to) (Ia r k to):=by
 have hinv:=h.inv.leave k hk to hto;obtain ⟨x,hx⟩: ∃x,s.aK[k]?=some x:=⟨_,aj (by rw [h.inv.len];exact hk)⟩;have hg:s.aK.getD k default=x:=by rw [aq,hx];rfl
 unfold Ia;rw [h.aK,hg];by_cases h3:x.cn=3
 ·rw [av h3];obtain ⟨i,p,hf,hp,hi,hb⟩:=h.aP hx h3;rw [hf];simp only [l6];have hop:(fT s k to).open_=s.open_.eraseP (fun q=>q.1==x.aP):=by unfold fT;simp only [hg];rw [av h3]
  refine ⟨hinv,rfl,by simp only [xn];exact h.ids,fun id=>?_,fun t ht ho=>?_,fun q hq=>?_⟩
  ·show oX s.used id=true↔_;rw [h.used];constructor
   ·rintro ⟨t,ht,e⟩;have:id∈(xo r.fQ i).map (·.id):=by rw [xn,←e];exact bJ.2 ⟨t,ht,rfl⟩
    obtain ⟨u,hu,e2⟩:=bJ.1 this;exact ⟨u,hu,e2⟩
   rintro ⟨t,ht,e⟩;have:id∈(xo r.fQ i).map (·.id):=bJ.2 ⟨t,ht,e⟩;rw [xn] at this;obtain ⟨u,hu,e2⟩:=bJ.1 this;exact ⟨u,hu,e2⟩
  ·rcases (Ch h.ids hi).1 ht with rfl|⟨ht2,hne⟩
   ·simp at ho
   obtain ⟨pa,hpa⟩:=h.TE t ht2 ho;exact ⟨pa,by rw [hop];exact (om h.inv.keys).2 ⟨hpa,hne⟩⟩
  rw [hop] at hq;obtain ⟨hq1,hq2⟩:=(om h.inv.keys).1 hq;exact (Ch h.ids hi).2 (.inr ⟨h.R3 q hq1,hq2⟩)
 rw [ah h3];have hop:(fT s k to).open_=s.open_:=by unfold fT;simp only [hg];rw [ah h3]
 refine ⟨hinv,rfl,h.ids,h.used,fun t ht ho=>?_,fun q hq=>?_⟩
 ·rw [hop];exact h.TE t ht ho
 rw [hop] at hq;exact h.R3 q hq
theorem Rel.apply (h:Rel n s r) {f:Fl} {e:Ev} (hb:0≤e.bD∧e.bD<n) (hc:dF f.eJ s e=0):Rel n (kW s e) (vm r e):=by
 have hinv:=h.inv.step hb hc;have hk:e.bD.toNat<n:=by omega
 obtain ⟨x,hx⟩: ∃x,s.aK[e.bD.toNat]?=some x:=⟨_,aj (by rw [h.inv.len];exact hk)⟩;have hg:s.aK.getD e.bD.toNat default=x:=by rw [aq,hx];rfl
 by_cases h1:e.kind=1
 ·unfold kW vm;simp only;rw [av h1,av h1];exact h.put _ hk _ (by simp)
 by_cases h2:e.kind=2
 ·unfold kW vm;simp only;rw [ah h1,ah h1,av h2,av h2];exact h.put _ hk _ (by simp)
 by_cases h7:e.kind=7
 ·unfold kW vm;simp only;rw [ah h1,ah h2,ah (by omega),ah (by omega),ah (by omega),av h7,ah h1,ah h2,av h7];exact h.put _ hk _ (by simp)
 by_cases h8:e.kind=8
 ·unfold kW vm;simp only;rw [ah h1,ah h2,ah (by omega),ah (by omega),ah (by omega),ah h7,av h8,ah h1,ah h2,ah h7,av h8];exact h.put _ hk _ (by simp)
 by_cases h9:e.kind=9
 ·unfold kW vm;simp only;rw [ah h1,ah h2,ah (by omega),ah (by omega),ah (by omega),ah h7,ah h8,av h9,ah h1,ah h2,ah h7,ah h8,av h9];exact h.put _ hk _ (by simp)
 have hA:vm r e=if e.kind=3 then {aK:=r.aK.set e.bD.toNat ⟨3,0,e.aP,false⟩,fQ:=r.fQ++[⟨e.aP,e.rider,e.bD,true⟩]}
   else if e.kind=4 then {aK:=(r.aK.set (r.fQ.getD ((rn r.fQ e.aP).getD 0) default).bD.toNat (r.aK.getD e.bD.toNat default)).set e.bD.toNat ⟨3,0,e.aP,false⟩,fQ:=r.fQ.set ((rn r.fQ e.aP).getD 0) {(r.fQ.getD ((rn r.fQ e.aP).getD 0) default) with bD:=e.bD}}
   else if e.kind=5 then {r with aK:=r.aK.set e.bD.toNat {(r.aK.getD e.bD.toNat default) with bn:=true}}
   else if e.kind=6 then {r with aK:=r.aK.set e.bD.toNat {(r.aK.getD e.bD.toNat default) with bn:=false}}
   else r:=by
  unfold vm;simp only;rw [ah h1,ah h2,ah h7,ah h8,ah h9]
 rw [hA];clear hA;unfold kW at*;simp only at hinv⊢;rw [ah h1,ah h2] at hinv⊢;unfold dF at hc;simp only at hc;rw [ah h1,ah h2] at hc;by_cases h3:e.kind=3
 ·rw [av h3] at hinv hc⊢;rw [av h3];have hu:oX s.used e.aP=false:=by
   split at hc
   ·cases hc
   split at hc
   ·cases hc
   rename_i hu;simpa using hu
  have hno: ∀t∈r.fQ,t.id≠e.aP:=fun t ht he=>by
   have:=(h.used e.aP).2 ⟨t,ht,he⟩;rw [hu] at this;cases this
  refine ⟨hinv,by simp only [h.aK],?_,fun id=>?_,fun t ht ho=>?_,fun p hp=>?_⟩
  ·simp only [bX,cI,zY];refine jR.2 ⟨h.ids,by simp,fun a ha b hb=>?_⟩;simp only [bu] at hb;obtain ⟨t,ht,rfl⟩:=bJ.1 ha;rw [hb];exact hno t ht
  ·rw [mv,wP];have:=h.used id;rw [mv] at this;rw [this];constructor
   ·rintro (⟨t,ht,e1⟩|e1)
    ·exact ⟨t,aQ.2 (.inl ht),e1⟩
    exact ⟨_,aQ.2 (.inr (bu.2 rfl)),e1.symm⟩
   rintro ⟨t,ht,e1⟩;rcases aQ.1 ht with ht|ht
   ·exact .inl ⟨t,ht,e1⟩
   rw [bu.1 ht] at e1;exact .inr e1.symm
  ·rcases aQ.1 ht with ht|ht
   ·obtain ⟨pa,hpa⟩:=h.TE t ht ho;exact ⟨pa,aQ.2 (.inl hpa)⟩
   rw [bu.1 ht];exact ⟨false,aQ.2 (.inr (bu.2 rfl))⟩
  rcases aQ.1 hp with hp|hp
  ·exact aQ.2 (.inl (h.R3 p hp))
  rw [bu.1 hp];exact aQ.2 (.inr (bu.2 rfl))
 rw [ah h3] at hinv hc⊢;rw [ah h3];by_cases h4:e.kind=4
 ·rw [av h4] at hinv hc⊢;rw [av h4];rcases h.look e.aP with ⟨hl,_⟩|⟨k,p,hl,hp,hf,htk,hb0,hb1,hpa⟩
  ·rw [hl] at hc;cases hc
  rw [hl] at hinv⊢;simp only at hinv⊢;rw [hf];have hgt:r.fQ.getD k default=⟨e.aP,p.rider,p.bD,true⟩:=by rw [aq,htk];rfl
  simp only [l6,hgt];have hkl:=(aa.1 htk).1;have hmap:(r.fQ.set k ⟨e.aP,p.rider,e.bD,true⟩).map (·.id)=r.fQ.map (·.id):=by
   refine cU fun j=>?_;simp only [bf,bw];split
   ·rename_i e1;subst e1;rw [htk];simp [hkl]
   rfl
  have hms: ∀u,u∈r.fQ.set k ⟨e.aP,p.rider,e.bD,true⟩↔u=⟨e.aP,p.rider,e.bD,true⟩∨(u∈r.fQ∧u.id≠e.aP):=fun u=>by
   constructor
   ·intro hu;obtain ⟨j,hj⟩:=bC.1 hu;rw [bw] at hj;split at hj
    ·first|(split at hj<;>first|(cases hj;exact .inl rfl)|cases hj)|(cases hj;exact .inl rfl)
    rename_i hne;refine .inr ⟨an hj,fun e1=>hne ?_⟩;have h2:=rm h.ids hj;rw [e1,hf] at h2;exact j8 h2
   rintro (rfl|⟨hu,hne⟩)
   ·exact an (i:=k) (by rw [bw];simp [hkl])
   obtain ⟨j,hj⟩:=bC.1 hu;refine an (i:=j) ?_;rw [bw,ah (fun e1=>?_)]
   ·exact hj
   subst e1;rw [htk] at hj;exact hne (by rw [←j8 hj])
  refine ⟨hinv,by simp only [h.aK],by simp only [hmap];exact h.ids,fun id=>?_,fun t ht ho=>?_,fun q hq=>?_⟩
  ·rw [h.used id];have hm: ∀l:List RT,(∃t∈l,t.id=id)↔id∈l.map (·.id):=fun l=>by simp
   rw [hm,hm,hmap]
  ·rcases (hms t).1 ht with rfl|⟨ht2,hne⟩
   ·exact ⟨p.bn,eG.2 (.inl ⟨_,hp,rfl,rfl⟩)⟩
   obtain ⟨pa,hpa⟩:=h.TE t ht2 ho;exact ⟨pa,eG.2 (.inr ⟨hpa,hne⟩)⟩
  rcases eG.1 hq with ⟨q2,_,_,rfl⟩|⟨hq2,hne⟩
  ·exact (hms _).2 (.inl rfl)
  exact (hms _).2 (.inr ⟨h.R3 q hq2,hne⟩)
 rw [ah h4] at hinv hc⊢;rw [ah h4];by_cases h56:e.kind=5∨e.kind=6
 ·rw [av h56] at hinv hc⊢;have hx3:x.cn=3:=by
   split at hc
   ·cases hc
   rename_i hw;rw [hg] at hw;exact kM hw
  obtain ⟨i,p,hf,hp,hi,hb⟩:=h.aP hx hx3;rw [hg,uW h.inv.keys hp] at hinv⊢;simp only at hinv⊢;have hR:(if e.kind=5 then ({r with aK:=r.aK.set e.bD.toNat {(r.aK.getD e.bD.toNat default) with bn:=true}}:RS) else if e.kind=6 then {r with aK:=r.aK.set e.bD.toNat {(r.aK.getD e.bD.toNat default) with bn:=false}} else r)={r with aK:=s.aK.set e.bD.toNat {x with bn:=decide (e.kind=5)}}:=by
   rw [h.aK,hg];rcases h56 with h5|h6
   ·rw [av h5,Wj h5]
   rw [ah (by omega),av h6,decide_eq_false (by omega)]
  rw [hR];refine ⟨hinv,rfl,h.ids,h.used,fun t ht ho=>?_,fun q hq=>?_⟩
  ·obtain ⟨pa,hpa⟩:=h.TE t ht ho;by_cases he:t.id=x.aP
   ·have:t=⟨x.aP,p.rider,p.bD,true⟩:=KD h.ids ht (an hi) he;subst this;exact ⟨_,eG.2 (.inl ⟨_,hp,rfl,rfl⟩)⟩
   exact ⟨pa,eG.2 (.inr ⟨hpa,he⟩)⟩
  rcases eG.1 hq with ⟨q2,_,_,rfl⟩|⟨hq2,hne⟩
  ·exact an hi
  exact h.R3 q hq2
 rw [ah h56,ah h7,ah h8,ah h9,ah (show ¬e.kind=5 by omega),ah (show ¬e.kind=6 by omega)];exact h
end
end Go.Proofs.Cus
namespace Go.Proofs.Cus
open Go Go.RowKit Go.Proofs.E
theorem Bz {f:Fl} {s:PS} {e:Ev} (h:rM f s e≠0):kg f s e=(s,some (rM f s e)):=by
 by_cases h0:fF f e=0
 ·by_cases h1:e.kind=10
  ·exact absurd (by unfold rM;rw [ah (fun h=>h h0),av h1]) h
  have he:rM f s e=dF f.eJ s e:=by unfold rM;rw [ah (fun h=>h h0),ah h1]
  rw [he] at h⊢;unfold kg;rw [ah (fun ⟨_,h⟩=>h1 h)];simp only;rw [av h0,ah h]
 have he:rM f s e=fF f e:=by unfold rM;rw [av h0]
 rw [he];unfold kg;rw [ah (fun ⟨h,_⟩=>h0 h)];simp only;rw [ah h0,ah h0]
theorem EH {f:Fl} {s:PS} {e:Ev} (h:rM f s e=0) (hk:e.kind≠10):kg f s e=(kW s e,some 0)∧fF f e=0∧dF f.eJ s e=0:=by
 unfold rM at h;by_cases h0:fF f e=0
 ·rw [ah (by rw [h0];decide),ah hk] at h;refine ⟨?_,h0,h⟩;unfold kg;rw [ah (fun ⟨_,h⟩=>hk h)];simp only;rw [av h0,h,av rfl]
 rw [av h0] at h;exact absurd h h0
theorem zl {f:Fl} {s:PS} {e:Ev} (h:rM f s e=0) (hk:e.kind=10):kg f s e=(s,none):=by
 unfold rM at h;by_cases h0:fF f e=0
 ·unfold kg;rw [av ⟨h0,hk⟩]
 rw [av h0] at h;exact absurd h h0
theorem BJ {σ τ:Type} {f:Fl} {cb:σ→PS→Ev→Int→σ} {cb2:τ→PS→Ev→Int→τ}: ∀(l:List Ev) (s:PS) (z:σ) (y:τ),(jD f cb l (s,z)).1=(jD f cb2 l (s,y)).1
 |[],_,_,_=>rfl
 |e::l,s,z,y=>by
  show (jD f cb l (oY cb z e (kg f s e))).1=(jD f cb2 l (oY cb2 y e (kg f s e))).1;have h1: ∀p:PS×σ,p=(p.1,p.2):=fun _=>rfl;have h2: ∀p:PS×τ,p=(p.1,p.2):=fun _=>rfl;rw [h1 (oY cb z e (kg f s e)),h2 (oY cb2 y e (kg f s e)),zi,zi];exact BJ l _ _ _
structure Steps (f:Fl) (ys:List Ev) (S:Nat→PS) (Ac:Nat→List Ev) (Rj_:Nat→List Rj):Prop where
 s0:S 0=fu (lH f)
 a0:Ac 0=[]
 r0:Rj_ 0=[]
 st: ∀k e,ys[k]?=some e→S (k+1)=(kg f (S k) e).1∧Ac (k+1)=(match (kg f (S k) e).2 with|some er=>if er=0 then Ac k++[e] else Ac k|none=>Ac k)∧Rj_ (k+1)=(match (kg f (S k) e).2 with|some er=>if er≠0 then Rj_ k++[⟨e.device,e.seq,er⟩] else Rj_ k|none=>Rj_ k)
theorem MF (f:Fl) (ys:List Ev): ∃S Ac Rj_,Steps f ys S Ac Rj_∧(∀k,S k=(jD f Gz (ys.take k) (fu (lH f),())).1)∧Ac ys.length=(jD f iI ys (fu (lH f),[])).2∧Rj_ ys.length=(jD f RR ys (fu (lH f),[])).2:=by
 refine ⟨fun k=>(jD f Gz (ys.take k) (fu (lH f),())).1,fun k=>(jD f iI (ys.take k) (fu (lH f),[])).2,fun k=>(jD f RR (ys.take k) (fu (lH f),[])).2,⟨rfl,rfl,rfl,fun k e he=>?_⟩,fun _=>rfl,by simp only [dp],by simp only [dp]⟩;rw [vG ys _ k e he,vG ys _ k e he,vG ys _ k e he];rw [BJ (cb2:=Gz) (y:=()) (ys.take k) (fu (lH f)) ([]:List Ev),BJ (cb2:=Gz) (y:=()) (ys.take k) (fu (lH f)) ([]:List Rj)];generalize kg f (jD f Gz (ys.take k) (fu (lH f),())).1 e=q;obtain ⟨q1,q2⟩:=q;cases q2 with
 |none=>exact ⟨rfl,rfl,rfl⟩
 |some er=>exact ⟨rfl,rfl,rfl⟩
theorem Steps.len {f:Fl} {ys:List Ev} {S:Nat→PS} {Ac:Nat→List Ev} {Rj_:Nat→List Rj} (h:Steps f ys S Ac Rj_): ∀k,k≤ys.length→(Ac k).length≤k∧(Rj_ k).length≤k
 |0,_=>by rw [h.a0,h.r0];simp
 |k+1,hk=>by
  obtain ⟨e,he⟩: ∃e,ys[k]?=some e:=⟨_,aj (by omega)⟩;obtain ⟨h1,h2⟩:=h.len k (by omega);obtain ⟨_,h3,h4⟩:=h.st k e he;rw [h3,h4];constructor
  ·split
   ·split
    ·simp;omega
    omega
   omega
  split
  ·split
   ·simp;omega
   omega
  omega
def Replay (f:Fl):PS→List Ev→Prop
 |_,[]=>True
 |s,e::l=>fF f e=0∧e.kind≠10∧dF f.eJ s e=0∧Replay f (kW s e) l
section
variable {β:Type} {f:Fl} {g:PS→β}
def FY (g:PS→β):PS→List Ev→List (Int×β)
 |_,[]=>[]
 |s,e::l=>(e.at_,g (kW s e))::FY g (kW s e) l
theorem tG: ∀(l:List Ev) (s:PS) (za:List Ev) (zt:List (Int×β)),∃t,(jD f iI l (s,za)).2=za++t∧(jD f (Bu g) l (s,zt)).2=zt++FY g s t∧Replay f s t
 |[],_,za,zt=>⟨[],by simp [jD],by simp [jD,FY],trivial⟩
 |e::l,s,za,zt=>by
  show ∃t,(jD f iI l (oY iI za e (kg f s e))).2=za++t∧(jD f (Bu g) l (oY (Bu g) zt e (kg f s e))).2=zt++FY g s t∧_;by_cases h0:rM f s e=0
  ·by_cases hk:e.kind=10
   ·rw [zl h0 hk];exact tG l s za zt
   obtain ⟨h1,h2,h3⟩:=EH h0 hk;rw [h1];obtain ⟨t,a1,a2,a3⟩:=tG l (kW s e) (za++[e]) (zt++[(e.at_,g (kW s e))]);refine ⟨e::t,?_,?_,h2,hk,h3,a3⟩
   ·show (jD f iI l (kW s e,iI za (kW s e) e 0)).2=_;rw [show iI za (kW s e) e 0=za++[e] from rfl,a1];simp
   show (jD f (Bu g) l (kW s e,Bu g zt (kW s e) e 0)).2=_;rw [show Bu g zt (kW s e) e 0=zt++[(e.at_,g (kW s e))] from rfl,a2];simp [FY]
  rw [Bz h0];show ∃t,(jD f iI l (s,iI za s e (rM f s e))).2=za++t∧(jD f (Bu g) l (s,Bu g zt s e (rM f s e))).2=zt++FY g s t∧_;rw [show iI za s e (rM f s e)=za by unfold iI;rw [ah h0],show Bu g zt s e (rM f s e)=zt by unfold Bu;rw [ah h0]];exact tG l s za zt
def RJ (s:PS) (l:List Ev) (k:Nat):PS:=(l.take k).foldl kW s
theorem Replay.at_: ∀{l:List Ev} {s:PS},Replay f s l→ ∀{k:Nat} {e:Ev},l[k]?=some e→fF f e=0∧e.kind≠10∧dF f.eJ (RJ s l k) e=0∧RJ s l (k+1)=kW (RJ s l k) e∧(FY g s l)[k]?=some (e.at_,g (RJ s l (k+1)))
 |[],_,_,k,e,he=>by simp at he
 |x::l,s,⟨h1,h2,h3,h4⟩,0,e,he=>by
  simp at he;subst he;exact ⟨h1,h2,h3,rfl,rfl⟩
 |x::l,s,⟨h1,h2,h3,h4⟩,k+1,e,he=>by
  have:=Replay.at_ h4 (k:=k) (e:=e) (by simpa using he);exact this
end
theorem qF {β:Type} {f:Fl} (hok:fR f=0) (xs:List Ev) (g:PS→β):Replay f (fu (lH f)) (gS f xs)∧(jD f (Bu g) (setOf xs) (fu (lH f),[])).2=FY g (fu (lH f)) (gS f xs):=by
 obtain ⟨t,h1,h2,h3⟩:=tG (f:=f) (g:=g) (setOf xs) (fu (lH f)) [] [];have ha:gS f xs=t:=by unfold gS;rw [av hok,h1];simp
 rw [ha,h2];exact ⟨h3,by simp⟩
theorem tu (f:Fl) (xs:List Ev):(gS f xs).length≤xs.length:=by
 unfold gS;split
 ·obtain ⟨S,Ac,Rj_,hst,hS,hA,hRj⟩:=MF f (setOf xs);rw [←hA];have h1:=(hst.len _ (bq _)).1;have h2:=DF xs;omega
 simp
end Go.Proofs.Cus
namespace Go.Proofs.Cus
theorem KC (t:Int) (xs:List Ev):setOf (lQ t xs)=lQ t xs:=by
 unfold lQ;rw [KK (setOf xs) (fun x=>!decide (t<x.at_)) (fun a b hab hb=>by simp at hb⊢;omega),H5]
end Go.Proofs.Cus
namespace Go.Proofs.Rid
open Go.Proofs.Cus
structure pG where
 lo:Int
 hi:Int
deriving DecidableEq,Inhabited
structure Lg where
 bD:Int
 from_:pG
 mK:pG
deriving DecidableEq,Inhabited
structure Pz where
 from_:pG
 mK:pG
deriving DecidableEq,Inhabited
structure Rd where
 id:Int
 rider:Int
 start:pG
 end_:pG
 open_:Bool
 cw:List Lg
 bz:List Pz
 fw:Int
 fp:Int
 wh:Int
 pl:Int
deriving DecidableEq,Inhabited
abbrev RM:=List (Int×Int)
def zv (m:RM) (r:Int):Option Int:=(m.find? fun p=>p.1==r).map (·.2)
def EM:RM→Int→Int→RM
 |[],r,b=>[(r,b)]
 |p::m,r,b=>if (p.1==r)=true then (r,b)::m else p::EM m r b
theorem BK: ∀(m:RM) (r b r':Int),zv (EM m r b) r'=if r'=r then some b else zv m r'
 |[],r,b,r'=>by
  unfold EM zv;by_cases h:r'=r
  ·subst h;simp
  rw [ah h,gH (by simp;omega)]
 |p::m,r,b,r'=>by
  have ih:=BK m r b r';unfold zv at ih⊢;unfold EM;by_cases hp:(p.1==r)=true
  ·rw [av hp];have hpr:p.1=r:=by simpa using hp
   by_cases h:r'=r
   ·subst h;simp
   rw [ah h,gH (by simp;omega),gH (by simp;omega)]
  rw [ah hp];have hpr: ¬p.1=r:=by simpa using hp
  by_cases h2:(p.1==r')=true
  ·have h2':p.1=r':=by simpa using h2
   simp only [lE,h2];rw [ah (by omega)]
  simp only [lE,h2];exact ih
structure SY where
 cg:List Rd
 mF:RM
 cG:List Int
 bn:List Bool
 aK:List Sp
def dX (e:Ev):pG:=⟨e.at_,e.late⟩
def nY:pG:=⟨0,0⟩
def lh (w:pG) (l:List Lg):List Lg:=l.set (l.length -1) {l.getD (l.length -1) default with mK:=w}
def CG (w:pG) (l:List Pz):List Pz:=l.set (l.length -1) {l.getD (l.length -1) default with mK:=w}
def mO (l:List Lg):Int:=(l.getD (l.length -1) default).bD
def dB (p:Bool) (w:pG) (r:Rd):Rd:=if p=true∧0<r.bz.length then {r with bz:=CG w r.bz} else r
def kh (s:SY) (k:Nat) (w:pG):SY:={s with cg:=s.cg.set k (dB (s.bn.getD k false) w (s.cg.getD k default)),bn:=s.bn.set k false}
def kl (at_:Sp) (w:pG) (r:Rd):Rd:={r with cw:=lh w r.cw,end_:=w,open_:=false,wh:=at_.cn,pl:=at_.place}
def gX (s:SY) (b:Nat) (at_:Sp) (w:pG):SY:=
 if s.cG.getD b 0<0 then {s with aK:=s.aK.set b at_}
 else
  let k:=(s.cG.getD b 0).toNat
  let t:=kh {s with aK:=s.aK.set b at_} k w
  {t with cg:=t.cg.set k (kl at_ w (t.cg.getD k default)),cG:=t.cG.set b (-1)}
def qv (e:Ev) (from_:Sp) (w:pG):Rd:=⟨e.aP,e.rider,w,nY,true,[⟨e.bD,w,nY⟩],[],from_.cn,from_.place,3,0⟩
def qh (s:SY) (e:Ev) (w:pG):SY:=
 {cg:=s.cg++[qv e (s.aK.getD e.bD.toNat default) w],mF:=EM s.mF e.aP s.cg.length,cG:=s.cG.set e.bD.toNat s.cg.length,bn:=s.bn++[false],aK:=s.aK}
def rT (b:Int) (w:pG) (r:Rd):Rd:={r with cw:=lh w r.cw++[⟨b,w,nY⟩]}
def ko (s:SY) (e:Ev) (w:pG):SY:=
 match zv s.mF e.aP with
 |none=>s
 |some k=>
  let r:=s.cg.getD k.toNat default
  let former:=(mO r.cw).toNat
  {s with cg:=s.cg.set k.toNat (rT e.bD w r),cG:=(s.cG.set former (-1)).set e.bD.toNat k,aK:=s.aK.set former (s.aK.getD e.bD.toNat default)}
def po (w:pG) (r:Rd):Rd:={r with bz:=r.bz++[⟨w,nY⟩]}
def dV (s:SY) (e:Ev):SY:=
 let w:=dX e
 let k:=s.cG.getD e.bD.toNat 0
 if e.kind=3 then qh s e w
 else if e.kind=4 then ko s e w
 else if e.kind=5 then (if 0≤k then {s with cg:=s.cg.set k.toNat (po w (s.cg.getD k.toNat default)),bn:=s.bn.set k.toNat true} else s)
 else if e.kind=6 then (if 0≤k then kh s k.toNat w else s)
 else if e.kind=1 then gX s e.bD.toNat ⟨1,e.place,0,false⟩ w
 else if e.kind=2 then gX s e.bD.toNat ⟨2,e.place,0,false⟩ w
 else if e.kind=9 then gX s e.bD.toNat ⟨6,0,0,false⟩ w
 else s
def gG (n:Nat):SY:=⟨[],[],List.replicate n (-1),[],List.replicate n ⟨0,0,0,false⟩⟩
structure WF (n N:Nat) (s:SY):Prop where
 cG:s.cG.length=n
 aK:s.aK.length=n
 bn:s.bn.length=s.cg.length
 num:s.cg.length≤N
 aP: ∀b∈s.cG,-1≤b∧b<s.cg.length
 cw: ∀r∈s.cg,0<r.cw.length∧r.cw.length≤N∧r.bz.length≤N∧(∀g∈r.cw,0≤g.bD∧g.bD<n)
 ids: ∀id k,zv s.mF id=some k→0≤k∧k<s.cg.length
theorem WF.begin (n:Nat):WF n 0 (gG n):=
 ⟨by simp [gG],by simp [gG],rfl,bq _,fun b hb=>by simp [gG] at hb;simp [hb.2,gG],fun r hr=>by simp [gG] at hr,fun id k h=>by simp [gG,zv] at h⟩
theorem xj (w:pG) (l:List Lg):(lh w l).length=l.length:=by simp [lh]
theorem LF (w:pG) (l:List Pz):(CG w l).length=l.length:=by simp [CG]
theorem u6 {α:Type} [Inhabited α] {l:List α} {k:Nat} (h:k<l.length):l.getD k default∈l∧l[k]?=some (l.getD k default):=by
 have e:l[k]?=some (l.getD k default):=by rw [aq,aj h];rfl
 exact ⟨an e,e⟩
theorem yI {n:Nat} {w:pG} {l:List Lg} (h: ∀g∈l,0≤g.bD∧g.bD<(n:Int)) (hl:0<l.length): ∀g∈lh w l,0≤g.bD∧g.bD<(n:Int):=fun g hg=>by
 unfold lh at hg;rcases cK hg with hg|rfl
 ·exact h g hg
 exact h (l.getD (l.length -1) default) (u6 (by omega)).1
theorem WF.set {n N:Nat} {s:SY} (h:WF n N s) {k:Nat} {r:Rd} (hr:0<r.cw.length∧r.cw.length≤N∧r.bz.length≤N∧(∀g∈r.cw,0≤g.bD∧g.bD<(n:Int))) (p:List Bool) (hp:p.length=s.bn.length):WF n N {s with cg:=s.cg.set k r,bn:=p}:=
 ⟨h.cG,h.aK,by simp [hp,h.bn],by simpa using h.num,fun b hb=>by simpa using h.aP b hb,fun x hx=>by
  rcases cK hx with hx|rfl
  ·exact h.cw x hx
  exact hr,fun id k hk=>by simpa using h.ids id k hk⟩
theorem WF.mono {n N M:Nat} {s:SY} (h:WF n N s) (hN:N≤M):WF n M s:=
 ⟨h.cG,h.aK,h.bn,jd h.num hN,h.aP,fun r hr=>⟨(h.cw r hr).1,by have:=(h.cw r hr).2.1;omega,by have:=(h.cw r hr).2.2.1;omega,(h.cw r hr).2.2.2⟩,h.ids⟩
theorem BO {n N:Nat} {p:Bool} {w:pG} {r:Rd} (h:0<r.cw.length∧r.cw.length≤N∧r.bz.length≤N∧(∀g∈r.cw,0≤g.bD∧g.bD<(n:Int))):0<(dB p w r).cw.length∧(dB p w r).cw.length≤N∧(dB p w r).bz.length≤N∧(∀g∈(dB p w r).cw,0≤g.bD∧g.bD<(n:Int)):=by
 unfold dB;split
 ·exact ⟨h.1,h.2.1,by simp only [LF];exact h.2.2.1,h.2.2.2⟩
 exact h
theorem WF.resume {n N:Nat} {s:SY} (h:WF n N s) {k:Nat} (hk:k<s.cg.length) (w:pG):WF n N (kh s k w):=by
 unfold kh;exact h.set (BO (h.cw _ (u6 hk).1)) _ (by simp)
theorem qY {n N:Nat} {s:SY} (h:WF n N s) {b:Nat} (hb:b<n): ∃v,s.cG[b]?=some v∧s.cG.getD b 0=v∧ -1≤v∧v<s.cg.length:=by
 have hl:=h.cG;obtain ⟨v,hv⟩: ∃v,s.cG[b]?=some v:=⟨_,aj (by omega)⟩;have:=h.aP v (an hv);exact ⟨v,hv,by rw [aq,hv];rfl,this.1,this.2⟩
theorem WF.leave {n N:Nat} {s:SY} (h:WF n N s) {b:Nat} (hb:b<n) (at_:Sp) (w:pG):WF n N (gX s b at_ w):=by
 obtain ⟨v,hv,hg,hv0,hv1⟩:=qY h hb;have h1:WF n N {s with aK:=s.aK.set b at_}:=⟨h.cG,by simp [h.aK],h.bn,h.num,h.aP,h.cw,h.ids⟩;unfold gX;rw [hg];split
 ·exact h1
 rename_i hn;have hk:v.toNat<s.cg.length:=by omega
 have h2:=h1.resume (k:=v.toNat) hk w;simp only;generalize kh {s with aK:=s.aK.set b at_} v.toNat w=t at h2⊢;have hl2:v.toNat<t.cg.length∨ ¬v.toNat<t.cg.length:=by omega
 have h3:WF n N {t with cg:=t.cg.set v.toNat (kl at_ w (t.cg.getD v.toNat default)),bn:=t.bn}:=by
  rcases hl2 with hl2|hl2
  ·refine h2.set ?_ _ rfl;have:=h2.cw _ (u6 hl2).1;unfold kl;refine ⟨?_,?_,this.2.2.1,?_⟩
   ·simp only [xj];exact this.1
   ·simp only [xj];exact this.2.1
   exact yI this.2.2.2 this.1
  rw [WS (by omega)];exact h2
 exact ⟨by simp [h3.cG],h3.aK,h3.bn,h3.num,fun b' hb'=>by
  rcases cK hb' with hb'|rfl
  ·exact h3.aP b' hb'
  simp only;omega,h3.cw,h3.ids⟩
theorem WF.T9 {n N:Nat} {s:SY} (h:WF n N s) {e:Ev} (hb:0≤e.bD∧e.bD<n) (w:pG):WF n (N+1) (qh s e w):=by
 have h':=h.mono (Db N);unfold qh;refine ⟨by simp [h.cG],h.aK,by simp [h.bn],by simp;exact h.num,fun b hb'=>?_,fun r hr=>?_,fun id k hk=>?_⟩
 ·simp only [bV,bB,eU];rcases cK hb' with hb'|rfl
  ·have:=h.aP b hb';omega
  omega
 ·rcases aQ.1 hr with hr|hr
  ·exact h'.cw r hr
  simp only [bu] at hr;subst hr;refine ⟨by simp [qv],by simp [qv],by simp [qv],fun g hg=>?_⟩;simp [qv] at hg;subst hg;exact hb
 simp only at hk;rw [BK] at hk;simp only [bV,bB,eU];split at hk
 ·cases hk;omega
 have:=h.ids id k hk;omega
theorem WF.Q9 {n N:Nat} {s:SY} (h:WF n N s) {e:Ev} (hb:0≤e.bD∧e.bD<n) (w:pG):WF n (N+1) (ko s e w):=by
 have h':=h.mono (Db N);unfold ko;split
 ·exact h'
 rename_i k hk;obtain ⟨h0,h1⟩:=h.ids _ _ hk;have hkl:k.toNat<s.cg.length:=by omega
 have hr:=h.cw _ (u6 hkl).1;simp only;have h3:WF n (N+1) {s with cg:=s.cg.set k.toNat (rT e.bD w (s.cg.getD k.toNat default)),bn:=s.bn}:=by
  refine h'.set ?_ _ rfl;unfold rT;refine ⟨by simp,by simp [xj];exact hr.2.1,by simp only;omega,fun g hg=>?_⟩;rcases aQ.1 hg with hg|hg
  ·exact yI hr.2.2.2 hr.1 g hg
  simp at hg;subst hg;exact hb
 exact ⟨by simp [h3.cG],by simp [h3.aK],h3.bn,h3.num,fun b' hb'=>by
  rcases cK hb' with hb'|rfl
  ·rcases cK hb' with hb'|rfl
   ·exact h3.aP b' hb'
   simp only;omega
  simp only [dU];omega,h3.cw,h3.ids⟩
theorem WF.tell {n N:Nat} {s:SY} (h:WF n N s) {e:Ev} (hb:0≤e.bD∧e.bD<n):WF n (N+1) (dV s e):=by
 have h':=h.mono (Db N);obtain ⟨v,hv,hg,hv0,hv1⟩:=qY h (b:=e.bD.toNat) (by omega);unfold dV;simp only;rw [hg];split
 ·exact h.T9 hb _
 split
 ·exact h.Q9 hb _
 split
 ·split
  ·refine h'.set ?_ _ (by simp);have:=h.cw _ (u6 (k:=v.toNat) (by omega)).1;exact ⟨this.1,by show _≤N+1;have:=this.2.1;simp only [po];omega,by simp [po];exact this.2.2.1,this.2.2.2⟩
  exact h'
 split
 ·split
  ·exact h'.resume (k:=v.toNat) (by omega) _
  exact h'
 split
 ·exact h'.leave (by omega) _ _
 split
 ·exact h'.leave (by omega) _ _
 split
 ·exact h'.leave (by omega) _ _
 exact h'
theorem WF.run {n:Nat}: ∀(l:List Ev) {N:Nat} {s:SY},WF n N s→(∀e∈l,0≤e.bD∧e.bD<(n:Int))→WF n (N+l.length) (l.foldl dV s)
 |[],_,_,h,_=>h
 |e::l,N,s,h,hb=>by
  have:=WF.run l (h.tell (hb e (by simp))) fun e he=>hb e (aB _ he);rw [cO,bB,show N+(l.length+1)=N+1+l.length by omega];exact this
section
variable {α:Type} {lt:α→α→Bool} {xs0 xs:List α} {a b i j:Nat}
def C6 (lt:α→α→Bool) (xs:List α) (a b:Nat):Prop:= ∀p q x y,a≤p→p<q→q<b→xs[p]?=some x→xs[q]?=some y→lt y x=false
structure IZ (lt:α→α→Bool) (xs0 xs:List α) (a i j:Nat):Prop where
 perm:xs.Perm xs0
 out: ∀p,p<a∨i<p→xs[p]?=xs0[p]?
 ok: ∀p q x y,a≤p→p<q→q≤i→q≠j→xs[p]?=some x→xs[q]?=some y→lt y x=false
structure HA (lt:α→α→Bool) (xs0 xs:List α) (a i:Nat):Prop where
 perm:xs.Perm xs0
 out: ∀p,p<a∨i≤p→xs[p]?=xs0[p]?
 ok:C6 lt xs a i
theorem HA.start (xs:List α) (a:Nat):HA lt xs xs a (a+1):=⟨uB _,fun _ _=>rfl,fun p q x y h1 h2 h3=>by omega⟩
theorem HA.inner (h:HA lt xs0 xs a i):IZ lt xs0 xs a i i:=⟨h.perm,fun p hp=>h.out p (by omega),fun p q x y h1 h2 h3 h4=>h.ok p q x y h1 h2 (by omega)⟩
theorem swap_perm {x y:α} (hj:0<j) (hx:xs[j]?=some x) (hy:xs[j -1]?=some y):((xs.set j y).set (j -1) x).Perm xs:=by
 obtain ⟨h1,e1⟩:=aa.1 hx;obtain ⟨h2,e2⟩:=aa.1 hy;have:=List.set_set_perm h1 h2;rw [e1,e2] at this;exact this
theorem MD {x y:α} (hj:0<j) (hx:xs[j]?=some x) (hy:xs[j -1]?=some y) (p:Nat):((xs.set j y).set (j -1) x)[p]?=if p=j -1 then some x else if p=j then some y else xs[p]?:=by
 have h1:=(aa.1 hx).1;rw [bw];by_cases e:j -1=p
 ·rw [av e,av (by simp;omega),av e.symm]
 rw [ah e,ah (fun h=>e h.symm),bw];by_cases e2:j=p
 ·rw [av e2,av (by omega),av e2.symm]
 rw [ah e2,ah (fun h=>e2 h.symm)]
theorem IZ.step {x y:α} (hS: ∀u v:α,lt u v=true→lt v u=false) (h:IZ lt xs0 xs a i j) (hj:a<j) (hji:j≤i) (hx:xs[j]?=some x) (hy:xs[j -1]?=some y) (hl:lt x y=true):IZ lt xs0 ((xs.set j y).set (j -1) x) a i (j -1):=by
 have hg:=MD (by omega) hx hy;refine ⟨(swap_perm (by omega) hx hy).trans h.perm,fun p hp=>?_,fun p q u v h1 h2 h3 h4 hu hv=>?_⟩
 ·rw [hg,ah (by omega),ah (by omega)];exact h.out p hp
 rw [hg] at hu hv;rw [ah h4] at hv;by_cases hq:q=j
 ·rw [av hq] at hv;cases hv;by_cases hp:p=j -1
  ·rw [av hp] at hu;cases hu;exact hS _ _ hl
  rw [ah hp,ah (by omega)] at hu;exact h.ok p (j -1) u y h1 (by omega) (by omega) (by omega) hu hy
 rw [ah hq] at hv;by_cases hp:p=j -1
 ·rw [av hp] at hu;cases hu;exact h.ok j q _ v (by omega) (by omega) h3 hq hx hv
 rw [ah hp] at hu;by_cases hp2:p=j
 ·rw [av hp2] at hu;cases hu;exact h.ok (j -1) q _ v (by omega) (by omega) h3 hq hy hv
 rw [ah hp2] at hu;exact h.ok p q u v h1 h2 h3 hq hu hv
theorem IZ.stop (hN: ∀u v w:α,lt u v=false→lt v w=false→lt u w=false) (h:IZ lt xs0 xs a i j) (hj:a≤j) (hji:j≤i) (he:j=a∨ ∃x y,xs[j]?=some x∧xs[j -1]?=some y∧lt x y=false):HA lt xs0 xs a (i+1):=by
 refine ⟨h.perm,fun p hp=>h.out p (by omega),fun p q u v h1 h2 h3 hu hv=>?_⟩;by_cases hq:q=j
 ·rcases he with he|⟨x,y,hx,hy,hl⟩
  ·omega
  rw [hq,hx] at hv;cases hv;by_cases hp:p=j -1
  ·rw [hp,hy] at hu;cases hu;exact hl
  exact hN _ _ _ hl (h.ok p (j -1) u y h1 (by omega) (by omega) (by omega) hu hy)
 exact h.ok p q u v h1 h2 (by omega) hq hu hv
end
def Lv (x y:Rd):Bool:=decide (x.id<y.id)
def Dn (l:List Rd):List Rd:=l.mergeSort fun x y=>decide (x.id≤y.id)
theorem mC (l:List Rd):(Dn l).Perm l:=eT _ _
theorem Hq (l:List Rd):(Dn l).Pairwise fun x y=>x.id≤y.id:=by
 have:=iz (le:=fun x y:Rd=>decide (x.id≤y.id)) (fun a b c h1 h2=>by simp at*;omega) (fun a b=>by simp;omega) l;exact this.imp fun h=>by simpa using h
theorem se: ∀{l m:List Rd},l.Perm m→l.Pairwise (fun x y=>x.id<y.id)→m.Pairwise (fun x y=>x.id<y.id)→l=m
 |[],m,hp,_,_=>(List.Perm.nil_eq hp)
 |x::l,[],hp,_,_=>by have:=hp.length_eq;simp at this
 |x::l,y::m,hp,h1,h2=>by
  have h1':=bL.1 h1;have h2':=bL.1 h2;have hxy:x=y:=by
   have hx:x∈y::m:=hp.subset (by simp);have hy:y∈x::l:=hp.symm.subset (by simp);rcases bU.1 hx with e|hx
   ·exact e
   rcases bU.1 hy with e|hy
   ·exact e.symm
   have a1:=h2'.1 x hx;have a2:=h1'.1 y hy;omega
  subst hxy;rw [se ((List.perm_cons x).1 hp) h1'.2 h2'.2]
theorem sY {l:List Rd} (h:l.Pairwise fun x y=>x.id≤y.id) (hn:(l.map (·.id)).Nodup):l.Pairwise fun x y=>x.id<y.id:=by
 have h2:l.Pairwise fun x y=>x.id≠y.id:=gA.1 hn;exact (List.Pairwise.and h h2).imp fun ⟨a,b⟩=>by omega
theorem vl {l:List Rd} (hn:(l.map (·.id)).Nodup):(Dn l).Pairwise fun x y=>x.id<y.id:=
 sY (Hq l) (((mC l).map _).nodup_iff.2 hn)
theorem Hp {l m:List Rd} (hp:m.Perm l) (hs:m.Pairwise fun x y=>x.id≤y.id) (hn:(l.map (·.id)).Nodup):m=Dn l:=
 se (hp.trans (mC l).symm) (sY hs ((hp.map _).nodup_iff.2 hn)) (vl hn)
end Go.Proofs.Rid
namespace Go.Proofs.Rid
open Go.Proofs.Cus
def n9 (s:pG):Bool:=(decide (0≤s.lo)&&decide (s.lo≤s.hi))&&decide (s.hi≤4294943999)
def te (g:Lg):Bool:=n9 g.from_&&n9 g.mK
def ux (p:Pz):Bool:=n9 p.from_&&n9 p.mK
def vN (r:Rd):Bool:=((((decide (r.id<1)||decide (1000000<r.id))||decide (r.rider<0))||decide (128≤r.rider))||!n9 r.start)||!n9 r.end_
def fW (r:Rd):Bool:=!vN r&&(r.cw.all te&&r.bz.all ux)
def EZ (r:Rd):Bool:=(decide ((r.cw.length:Int)<1)||decide ((512:Int)<r.cw.length))||decide ((512:Int)<r.bz.length)
def ll:pG→List Lg→pG→Bool
 |a,[],e=>decide (a=e)
 |a,g::l,e=>decide (g.from_=a)&&ll g.mK l e
def qy (r:Rd):Bool:=!EZ r&&ll r.start r.cw r.end_
def kJ (o:Bool):List Lg→Bool
 |[]=>true
 |g::l=>!(decide (g.mK.lo<g.from_.lo)&&!(o&&l.isEmpty))&&kJ o l
def BT (o:Bool) (n:Nat) (e:Int):Int→List Pz→Bool
 |last,[]=>(o||decide ((n:Int)=0))||decide (last≤e)
 |last,p::l=>if p.from_.lo<last then false else if ((o&&l.isEmpty)&&decide (p.mK.lo=0))=true then true else if p.mK.lo<p.from_.lo then false else BT o n e p.mK.lo l
def q7 (r:Rd):Bool:=kJ r.open_ r.cw&&BT r.open_ r.bz.length r.end_.lo r.start.lo r.bz
def dW (r:Rd):Int:=
 if (!fW r)=true then 1 else if (!qy r)=true then 3 else if (!q7 r)=true then 9
 else if (r.open_&&!decide (r.end_=nY))=true then 12 else if (!(r.open_==decide (r.wh=3)))=true then 12 else 0
theorem tL {α:Type} {l:List α} {k:Nat} {x:α} (h:l[k]?=some x):l.drop k=x::l.drop (k+1):=by
 obtain ⟨h1,h2⟩:=aa.1 h;rw [cL h1,h2]
theorem CS {α:Type} {l:List α} {k:Nat} (h:k<l.length):(l.drop (k+1)).isEmpty=decide ((k:Int)=(l.length:Int) -1):=by
 rw [mJ,SO,dd,List.drop_eq_nil_iff];omega
end Go.Proofs.Rid
namespace Go.Proofs.Far
open Go.Proofs.Cus Go.Proofs.Rid
def pO (r:Rd):Wn:=⟨r.start.hi,max r.start.hi r.end_.lo⟩
def pN (p:Pz):Wn:=⟨p.from_.hi,max p.from_.hi p.mK.lo⟩
def pQ (p:Pz):Wn:=⟨p.from_.lo,max p.from_.lo p.mK.hi⟩
def AI (r:Rd):List Wn:=lS (pO r) (gE (r.bz.map pQ))
def AK (r:Rd):List Wn:=lY (pO r) (gE (r.bz.map pN))
def nR (r:Rd):Int:=Co (AI r)
def rK (r:Rd):Int:=Co (AK r)
theorem gR {r:Rd} (h:dW r=0):n9 r.start=true∧n9 r.end_=true∧(∀p∈r.bz,ux p=true)∧r.cw.length≤512∧r.bz.length≤512:=by
 unfold dW at h;have h1:fW r=true:=by
  cases hr:fW r with
  |true=>rfl
  |false=>rw [hr] at h;simp at h
 rw [h1] at h;have h2:qy r=true:=by
  cases hr:qy r with
  |true=>rfl
  |false=>rw [hr] at h;simp at h
 unfold fW vN at h1;unfold qy EZ at h2;simp only [bQ,jg,kN,dm,Me,eF] at h1 h2;exact ⟨h1.1.1.2,h1.1.2,h1.2.2,by omega,by omega⟩
theorem sZ {s:pG}:n9 s=true↔0≤s.lo∧s.lo≤s.hi∧s.hi≤4294943999:=by
 unfold n9;simp only [bQ,dd,and_assoc]
theorem xY {r:Rd} (h:dW r=0):0≤(pO r).lo∧(pO r).lo≤(pO r).hi∧(pO r).hi≤4294944000:=by
 obtain ⟨h1,h2,_⟩:=gR h;rw [sZ] at h1 h2;unfold pO;simp only;omega
theorem RU {r:Rd} (h:dW r=0) {p:Pz} (hp:p∈r.bz):(0≤p.from_.lo∧p.from_.lo≤p.from_.hi∧p.from_.hi≤4294943999)∧(0≤p.mK.lo∧p.mK.lo≤p.mK.hi∧p.mK.hi≤4294943999):=by
 have:=(gR h).2.2.1 p hp;unfold ux at this;simp only [bQ,sZ] at this;exact this
theorem F2 {r:Rd} (h:dW r=0):oU (r.bz.map pN):=fun x hx=>by
 obtain ⟨p,hp,rfl⟩:=bJ.1 hx;have:=RU h hp;unfold pN;simp only;omega
theorem Gm {r:Rd} (h:dW r=0):oU (r.bz.map pQ):=fun x hx=>by
 obtain ⟨p,hp,rfl⟩:=bJ.1 hx;have:=RU h hp;unfold pQ;simp only;omega
theorem Jh {r:Rd} (h:dW r=0):oU (AI r):=Le (xY h) (qD (Gm h))
theorem Jo {r:Rd} (h:dW r=0):oU (AK r):=IJ (xY h) (qD (F2 h))
theorem Im (x:Wn) (Y:List Wn):(lS x Y).length≤Y.length+1:=by
 unfold lS one;split
 ·simp
 simp only [gD,SQ,cz];unfold zF GH;have:=zG (w:=x) Y ([],x.lo);simp only [eU,dj] at this;split
 ·rw [bV];simp only [bB,eU];omega
 omega
theorem JQ (x:Wn): ∀l:List Wn,(l.flatMap (tM x)).length≤l.length
 |[]=>by simp
 |a::l=>by
  rw [gD,bV,bB];have:(tM x a).length≤1:=by unfold tM;split<;>simp
  have:=JQ x l;omega
theorem Hf (x:Wn) (Y:List Wn):(lY x Y).length≤Y.length:=by
 unfold lY one;split
 ·simp
 simp only [gD,SQ,cz];exact JQ x Y
theorem MW {r:Rd} (h:dW r=0):(AI r).length≤513:=by
 have h1:=Im (pO r) (gE (r.bz.map pQ));have h2:=sW (r.bz.map pQ);have h3:=(gR h).2.2.2.2;rw [aD] at h2;unfold AI;omega
theorem M9 {r:Rd} (h:dW r=0):(AK r).length≤512:=by
 have h1:=Hf (pO r) (gE (r.bz.map pN));have h2:=sW (r.bz.map pN);have h3:=(gR h).2.2.2.2;rw [aD] at h2;unfold AK;omega
theorem ME: ∀{l:List Wn},Nf l→oU l→ ∀a:Int,0≤a→a≤4294944000→(∀w∈l,a≤w.lo)→0≤AE l∧AE l≤4294944000 -a
 |[],_,_,a,_,h2,_=>by unfold AE;simp;omega
 |x::l,hn,hw,a,h1,h2,h3=>by
  have hx:=hw x (by simp);have hp:=hn.pos x (by simp);have hq:=h3 x (by simp);have ih:=ME hn.tail (fun w hw'=>hw w (aB _ hw')) x.hi (by omega) (by omega) (fun w hw'=>by have:=(bL.1 hn.apart).1 w hw';omega);have:AE (x::l)=(x.hi -x.lo)+AE l:=by unfold AE;simp
  omega
theorem Cn {l:List Wn} (h:oU l):0≤Co l∧Co l≤4294944000:=by
 have:=ME (xQ h.le).1 (qD h) 0 (by omega) (by omega) (fun w hw=>(qD h w hw).1);unfold Co;omega
theorem BM {r:Rd} (h:dW r=0):0≤nR r∧nR r≤4294944000:=Cn (Jh h)
theorem BY {r:Rd} (h:dW r=0):0≤rK r∧rK r≤4294944000:=Cn (Jo h)
end Go.Proofs.Far
namespace Go.Proofs.E
open Go Go.RowKit
def kv (a:Int×Int):Value:= .agg #[.int .i64 a.1, .int .i64 a.2]
structure su (P:Program) (kt:TypeId):Prop where
 eq: ∀(a b:Int×Int) (w:World),(Op.equal kt (kv a) (kv b)).run P w= .ok (a==b) w
 Q8: ∀(em:Bool) (a:Int×Int) (w:World),(Instr.checkKey em 10000 kt (kv a)).run P w= .ok () w
 fk: ∀(a:Int×Int) (es:List MapEntry) (w:World),(Instr.findKey kt (kv a) es).run P w=(Instr.findAsking kt (kv a) es).run P w
theorem OP (a b:Int×Int):([a.1,a.2]==[b.1,b.2])=(a==b):=by
 obtain ⟨a1,a2⟩:=a;obtain ⟨b1,b2⟩:=b;rw [mJ];simp
theorem Ej {P:Program} {t:TypeId} {q:IntKind} (h:P.underlying t=some (.int q)) (em:Bool) (x:Int) (n:Nat) (w:World):(Instr.checkKey em (n+1) t (.int .i64 x)).run P w= .ok () w:=by
 rw [Instr.checkKey];simp [run_underlying h]
theorem su.struct {P:Program} {t:TypeId} {fs:Array Field} (ht:P.underlying t=some (.struct fs)) (hp:P.stoodInHeld t=false) (hf:vM P 0 fs.toList) (hn:fs.toList.length=2):su P t where
 eq a b w:=by
  rw [←OP];exact og w [a.1,a.2] [b.1,b.2] rfl ht hp hf hn
 Q8 em a w:=by
  rw [show (10000:Nat)=9999+1 from rfl,Instr.checkKey];simp only [Sem.run_bind,run_underlying ht,Result.andThen_ok,kv];rw [←Array.forIn_toList];have hn':0+fs.toList.length=2:=by omega
  revert hf hn'
  generalize fs.toList=l;generalize 0=k;intro hf hn'
  induction l generalizing k with
  |nil=>simp
  |cons f l ih=>
   obtain ⟨h1,h2,h3,⟨q,h4⟩,h5⟩:=hf;simp only [bB] at hn';obtain ⟨x,hx⟩: ∃x,[a.1,a.2][k]?=some x:=⟨_,aj (by show k<2;omega)⟩;have hpt:(part f.type #[.int .i64 a.1, .int .i64 a.2] k).run P w= .ok (.int .i64 x) w:=lf (l:=[a.1,a.2]) w h3 hx;simp only [List.forIn_cons,Sem.run_bind,h1,Km,ix,qo,Result.andThen_ok,h2,hpt,Ej h4 em x 9998 w,Sem.run_pure];exact ih (k+1) h5 (by omega)
 fk a es w:=run_findKey_eq w (by rw [ht]) (kv a) es
theorem su.array {P:Program} {t e:TypeId} {i:TypeInfo} {q:IntKind} (ht:P.underlying t=some (.array 2 e)) (he:P.underlying e=some (.int q)) (ha: ∀w,(isAgg e).run P w= .ok false w) (hi:P.info? e=some i) (h1:i.size=1):su P t where
 eq a b w:=by
  have hc:P.cellsOf e=1:=by unfold Program.cellsOf;rw [hi];exact h1
  have e1:(a==b)=((a.1==b.1)&&(a.2==b.2)):=rfl;show (Op.equalIn 10000 t _ _).run P w=_;rw [show (10000:Nat)=9998+1+1 from rfl,kv,kv,run_equalIn_array w (9998+1) _ _ ht hi,e1,hc];rw [show List.range 2=[0,1] from rfl];have pa: ∀(z:Int×Int),(part e #[.int .i64 z.1, .int .i64 z.2] 0).run P w= .ok (.int .i64 z.1) w:=fun z=>lf (l:=[z.1,z.2]) (k:=0) w ha rfl;have pb: ∀(z:Int×Int),(part e #[.int .i64 z.1, .int .i64 z.2] 1).run P w= .ok (.int .i64 z.2) w:=fun z=>lf (l:=[z.1,z.2]) (k:=1) w ha rfl;simp only [Op.eqItems,RF,Nat.mul_one,Sem.run_bind,pa,pb,Result.andThen_ok,run_equalIn_int w 9998 e .i64 q _ _ he,Sem.run_ite];cases (a.1==b.1)<;>cases (a.2==b.2)<;>rfl
 Q8 em a w:=by
  rw [show (10000:Nat)=9999+1 from rfl,Instr.checkKey];simp only [Sem.run_bind,run_underlying ht,Result.andThen_ok,kv];simp only [Std.Legacy.Range.forIn_eq_forIn_range',Std.Legacy.Range.size,Nat.sub_zero,Nat.add_one_sub_one,Nat.div_one];rw [show List.range' 0 2=[0,1] from rfl];have pa:(part e #[.int .i64 a.1, .int .i64 a.2] 0).run P w= .ok (.int .i64 a.1) w:=lf (l:=[a.1,a.2]) (k:=0) w ha rfl;have pb:(part e #[.int .i64 a.1, .int .i64 a.2] 1).run P w= .ok (.int .i64 a.2) w:=lf (l:=[a.1,a.2]) (k:=1) w ha rfl;have hc:P.cellsOf e=1:=by unfold Program.cellsOf;rw [hi];exact h1
  simp only [List.forIn_cons,List.forIn_nil,Sem.run_bind,run_sizeOf w hi,hc,Nat.mul_one,RF,Nat.one_mul,Result.andThen_ok,pa,pb,Ej he em _ 9998 w,Sem.run_pure]
 fk a es w:=run_findKey_eq w (by rw [ht]) (kv a) es
def RZ (e:MapEntry) (p:(Int×Int)×Value):Prop:=e.key=kv p.1∧e.val=p.2
inductive qi:List MapEntry→List ((Int×Int)×Value)→Prop
 |nil:qi [] []
 |cons {e p es ps}:RZ e p→qi es ps→qi (e::es) (p::ps)
def gq (ps:List ((Int×Int)×Value)) (k:Int×Int):Option Value:=(ps.find? (fun p=>p.1==k)).map (·.2)
def lT (ps:List ((Int×Int)×Value)) (k:Int×Int) (v:Value):List ((Int×Int)×Value):=
 match ps with
 |[]=>[(k,v)]
 |p::r=>if p.1==k then (k,v)::r else p::lT r k v
def pU (w:World) (b:Nat) (ps:List ((Int×Int)×Value)):Prop:= ∃es clock,w.heap[b]?=some (.map es clock)∧qi es.toList ps∧lV es.toList clock
def Hz (w:World) (b:Nat) (ps:List ((Int×Int)×Value)) (k:Int×Int) (born:Int):Prop:= ∃es clock,w.heap[b]?=some (.map es clock)∧qi es.toList ps∧lV es.toList clock∧
 ∃(j:Nat) (e:MapEntry),es.toList[j]?=some e∧(e.born:Int)=born∧ ∀v,qi (es.toList.modify j fun e=>{e with val:=v}) (lT ps k v)
def oT (b:Nat) (ps:List ((Int×Int)×Value)):Item where
 fp:=fun x=>x=b
 A:=fun w=>pU w b ps
 st:=fun _ _ h hA=>by
  obtain ⟨es,c,h1,h2⟩:=hA
  exact ⟨es,c,(h b rfl).trans h1,h2⟩
def JD (b:Nat) (ps:List ((Int×Int)×Value)) (k:Int×Int) (born:Int):Item where
 fp:=fun x=>x=b
 A:=fun w=>Hz w b ps k born
 st:=fun _ _ h hA=>by
  obtain ⟨es,c,h1,h2⟩:=hA
  exact ⟨es,c,(h b rfl).trans h1,h2⟩
section
variable {P:Program} {t kt et:TypeId}
theorem vU (K:su P kt) (k:Int×Int) (w:World): ∀(es:List MapEntry) (ps:List ((Int×Int)×Value)) (i:Nat),qi es ps→
  (gq ps k=none∧(Instr.findAsking kt (kv k) es i).run P w= .ok none w∧(∀v,lT ps k v=ps++[(k,v)]))∨
  (∃j v e,gq ps k=some v∧(Instr.findAsking kt (kv k) es i).run P w= .ok (some (i+j,v)) w∧es[j]?=some e∧e.key=kv k∧(∀v,qi (es.modify j fun e=>{e with val:=v}) (lT ps k v))∧ ∀v,lT ps k v=ps∨True):=by
 intro es
 induction es with
 |nil=>intro ps i h;cases h;exact .inl ⟨rfl,rfl,fun _=>rfl⟩
 |cons e es ih=>
  intro ps i h;cases h with
  |cons hp hr=>
   rename_i p ps;obtain ⟨hk,hv⟩:=hp;by_cases hkk:p.1=k
   ·refine .inr ⟨0,p.2,e,by simp [gq,hkk],?_,rfl,by rw [hk,hkk],fun v=>?_,fun _=> .inr trivial⟩
    ·have:(k==p.1)=true:=by rw [hkk];exact SI k
     simp [Instr.findAsking,hk,K.eq,this,hv,Result.andThen]
    simp only [lT,hkk,SI,qo];exact .cons ⟨by show e.key=_;rw [hk,hkk],rfl⟩ hr
   have hne:(k==p.1)=false:=dt.2 fun e=>hkk e.symm;have hne2:(p.1==k)=false:=dt.2 hkk;rcases ih ps (i+1) hr with ⟨h1,h2,h3⟩|⟨j,v,e',h1,h2,h3,h4,h5,_⟩
   ·refine .inl ⟨by simpa [gq,hne2] using h1,?_,fun v=>by simp [lT,hne2,h3]⟩;simp [Instr.findAsking,hk,K.eq,hne,h2,Result.andThen]
   refine .inr ⟨j+1,v,e',by simpa [gq,hne2] using h1,?_,by simpa using h3,h4,fun v=>?_,fun _=> .inr trivial⟩
   ·simp [Instr.findAsking,hk,K.eq,hne,h2,Result.andThen];omega
   simp only [lT,hne2,jy,lM,List.modify_succ_cons];exact .cons ⟨hk,hv⟩ (h5 v)
theorem p8 {w:World} {b:Nat} {ps:List ((Int×Int)×Value)} {z:Value} (K:su P kt) (ht:P.underlying t=some (.map kt et)) (hz: ∀w,(zeroValue et).run P w= .ok z w) (h:pU w b ps) (k:Int×Int):
  (Instr.lookup t (.map (some b)) (kv k) false).run P w= .ok ((gq ps k).getD z) w:=by
 obtain ⟨es,c,h1,h2,_⟩:=h;rcases vU K k w es.toList ps 0 h2 with ⟨ha,hb,_⟩|⟨j,v,e,ha,hb,_⟩
 ·simp [Instr.lookup,run_underlying ht,MapKept.run_getObj_map h1,K.Q8,K.fk,hb,ha,hz,Result.andThen]
 simp [Instr.lookup,run_underlying ht,MapKept.run_getObj_map h1,K.Q8,K.fk,hb,ha,Result.andThen]
theorem uP {es:List MapEntry} {ps:List ((Int×Int)×Value)} (h:qi es ps) {e:MapEntry} {p:(Int×Int)×Value} (he:RZ e p):qi (es++[e]) (ps++[p]):=by
 induction h with
 |nil=>exact .cons he .nil
 |cons h1 _ ih=>exact .cons h1 ih
theorem KP (a:Int×Int):Instr.sameBits 10000 (kv a) (kv a)=true:=by
 rw [show (10000:Nat)=9999+1 from rfl,kv,Instr.sameBits];simp [Instr.sameBits]
theorem modify_id {es:List MapEntry} {j:Nat} {e:MapEntry} {k:Value} (h:es[j]?=some e) (hk:e.key=k):(es.modify j fun e=>{e with key:=k})=es:=by
 apply cU;intro i;rw [HN];by_cases hi:j=i
 ·subst hi;rw [h];obtain ⟨a,b,c⟩:=e;simp only at hk;subst hk;simp
 cases es[i]?<;>simp [hi]
theorem BI {w:World} {b:Nat} {ps:List ((Int×Int)×Value)} {z:Value} (K:su P kt) (ht:P.underlying t=some (.map kt et)) (hz: ∀w,(zeroValue et).run P w= .ok z w) (h:pU w b ps) (k:Int×Int):
  ∃(born:Int) (ps':List ((Int×Int)×Value)) (w':World),(Instr.mapEntry t (.map (some b)) (kv k)).run P w= .ok (.tuple #[(gq ps k).getD z, .int .i64 born]) w'∧Hz w' b ps' k born∧(∀v,lT ps' k v=lT ps k v)∧(gq ps' k).getD z=(gq ps k).getD z∧w.grownBy w' (some b)∧w'.heap.size=w.heap.size∧w.drawn≤w'.drawn:=by
 obtain ⟨es,c,h1,h2,h3⟩:=h;have hlt:b<w.heap.size:=(cm.1 h1).1;have hg: ∀o:Obj,w.grownBy {w with heap:=w.heap.setIfInBounds b o} (some b):=fun o=>⟨rfl,rfl,rfl,by simp,fun i _ hi=>by
  have hne:b≠i:=fun e=>hi (by rw [e]);exact eR hne⟩
 rcases vU K k w es.toList ps 0 h2 with ⟨ha,hb,hput⟩|⟨j,v,e,ha,hb,he,hek,hm,_⟩
 ·refine ⟨c,ps++[(k,z)],{w with heap:=w.heap.setIfInBounds b (.map (es.push {key:=kv k,val:=z,born:=c}) (c+1))},?_,⟨_,_,cC hlt,?_,by simpa using h3.push rfl,es.size,{key:=kv k,val:=z,born:=c},by simp,rfl,fun v=>?_⟩,fun v=>?_,?_,hg _,by simp,bq _⟩
  ·simp [Instr.mapEntry,run_underlying ht,MapKept.run_getObj_map h1,K.Q8,K.fk,hb,ha,hz,Result.andThen,MapKept.run_setObj_map _ h1,goInt]
  ·simpa using uP h2 (e:={key:=kv k,val:=z,born:=c}) (p:=(k,z)) ⟨rfl,rfl⟩
  ·have hkp:lT (ps++[(k,z)]) k v=ps++[(k,v)]:=by
    have: ∀ps:List ((Int×Int)×Value),gq ps k=none→lT (ps++[(k,z)]) k v=ps++[(k,v)]:=by
     intro ps
     induction ps with
     |nil=>intro _;simp [lT]
     |cons p ps ih=>
      intro h;by_cases hp:p.1=k
      ·simp [gq,hp] at h
      have hne:(p.1==k)=false:=dt.2 hp;simp only [gq,lE,hne] at h;simp only [gx,lT,hne,jy,lM];rw [ih h]
    exact this ps ha
   rw [hkp];have hl:es.size=es.toList.length:=by simp
   simp only [Array.toList_push];rw [hl];have:(es.toList++[({key:=kv k,val:=z,born:=c}:MapEntry)]).modify es.toList.length (fun e=>{e with val:=v})=es.toList++[{key:=kv k,val:=v,born:=c}]:=by
    apply cU;intro q;rw [HN];by_cases hq:es.toList.length=q
    ·subst hq;simp
    by_cases hq2:q<es.toList.length
    ·rw [dM hq2,dM hq2];have hq3: ¬es.size=q:=fun h=>hq (by simpa using h);cases es.toList[q]?<;>simp [hq3]
    rw [cy (by omega),cy (by omega),dC (by simp;omega),dC (by simp;omega)];rfl
   rw [this];exact uP h2 ⟨rfl,rfl⟩
  ·have: ∀ps:List ((Int×Int)×Value),gq ps k=none→lT (ps++[(k,z)]) k v=lT ps k v:=by
    intro ps
    induction ps with
    |nil=>intro _;simp [lT]
    |cons p ps ih=>
     intro h;by_cases hp:p.1=k
     ·simp [gq,hp] at h
     have hne:(p.1==k)=false:=dt.2 hp;simp only [gq,lE,hne] at h;simp only [gx,lT,hne,jy,lM];rw [ih h]
   exact this ps ha
  rw [ha];have: ∀ps:List ((Int×Int)×Value),gq ps k=none→gq (ps++[(k,z)]) k=some z:=by
   intro ps
   induction ps with
   |nil=>intro _;simp [gq]
   |cons p ps ih=>
    intro h;by_cases hp:p.1=k
    ·simp [gq,hp] at h
    have hne:(p.1==k)=false:=dt.2 hp;simp only [gq,gx,lE,hne] at h ih⊢;exact ih h
  rw [this ps ha];rfl
 rw [dj] at hb;have hej:es[j]?=some e:=by simpa using he
 have hmid:(es.modify j fun e=>{e with key:=kv k})=es:=by
  apply WW;simpa using modify_id he hek
 have hsame:w.heap.setIfInBounds b (.map es c)=w.heap:=by
  apply Array.ext_getElem?;intro q;by_cases hq:b=q
  ·subst hq;rw [cC hlt,h1]
  rw [eR hq]
 refine ⟨e.born,ps,{w with heap:=w.heap.setIfInBounds b (.map es c)},?_,⟨es,c,cC hlt,h2,h3,j,e,he,rfl,hm⟩,fun _=>rfl,rfl,hg _,by simp,bq _⟩;simp [Instr.mapEntry,run_underlying ht,MapKept.run_getObj_map h1,K.Q8,K.fk,hb,ha,Result.andThen,hej,hek,Instr.keyThatStays,KP,MapKept.run_setObj_map _ h1,hmid,goInt]
theorem AG {w:World} {b:Nat} {ps:List ((Int×Int)×Value)} {k:Int×Int} {born:Int} (h:Hz w b ps k born) (v:Value):
  ∃w',(Instr.entryStore t (.map (some b)) (.int .i64 born) v).run P w= .ok () w'∧pU w' b (lT ps k v)∧w.grownBy w' (some b)∧w'.heap.size=w.heap.size∧w.drawn≤w'.drawn:=by
 obtain ⟨es,c,h1,h2,h3,j,e,he,hb,hm⟩:=h;have hlt:b<w.heap.size:=(cm.1 h1).1;have hg: ∀o:Obj,w.grownBy {w with heap:=w.heap.setIfInBounds b o} (some b):=fun o=>⟨rfl,rfl,rfl,by simp,fun i _ hi=>by
  have hne:b≠i:=fun e=>hi (by rw [e]);exact eR hne⟩
 have hj:j<es.size:=by
  have:=(aa.1 he).1;simpa using this
 have hje:es[j]=e:=by
  have:=(aa.1 he).2;simpa using this
 have hfind:es.findIdx? (fun x=>(x.born:Int)==born)=some j:=by
  rw [Array.findIdx?_eq_some_iff_getElem];refine ⟨hj,by rw [hje,hb];simp,fun i hi=>?_⟩;have hij:i<es.size:=by omega
  have:=bj.1 h3.Ka i j (by simpa using hij) (by simpa using hj) hi;simp only [HP] at this;rw [hje] at this;have hne:(es[i].born:Int)≠born:=by rw [←hb];omega
  simp [hne]
 refine ⟨{w with heap:=w.heap.setIfInBounds b (.map (es.modify j fun e=>{e with val:=v}) c)},?_,⟨_,_,cC hlt,by simpa using hm v,by simpa using h3.modify (j:=j) (g:=fun e=>{e with val:=v}) (fun _=>rfl)⟩,hg _,by simp,bq _⟩;simp [Instr.entryStore,MapKept.run_getObj_map h1,asInt,asIntOf,hfind,MapKept.run_setObj_map _ h1,Result.andThen]
end
section
variable {c:Cx} {w0:World} {L:List Item} {f:Fr} {K:List Item→Fr→Prop} {d:Nat} {ty:TypeId} {pos:String} {af:Array Edge} {g:Bool} {x y z:Operand} {t kt et:TypeId}
theorem Ff (hd:Nat.blt d c.N=true) (next: ∀b,K (oT b []::L) (kX f d (.map (some b)))):uz c w0 L f ⟨some d, .makeMap t none,ty,pos,af,none⟩ K:=
 ⟨rfl,rfl,hd,fun w hw=>by
  have:(execOp (ev f) ⟨some d, .makeMap t none,ty,pos,af,none⟩).run c.P w= .ok (.value (.map (some w.heap.size))) (w.alloc (.map #[] 0)):=by simp [execOp,run_makeMap,Result.andThen]
  rw [this];exact ⟨_,hw.new _ (oT w.heap.size []) (fun _ h=>h) ⟨#[],0,(MapKept.heap_alloc w _).1, .nil,⟨by simp,by simp⟩⟩,rfl,next _⟩⟩
theorem vQ (k:Nat) {b:Nat} {ps:List ((Int×Int)×Value)} {key:Int×Int} {v u:Value} (hK:su c.P kt) (ht:c.P.underlying t=some (.map kt et)) (hz: ∀w,(zeroValue et).run c.P w= .ok v w) (hx:gw g f x (.map (some b))) (hy:gw g f y (kv key))
  (hk:L[k]?=some (oT b ps)) (hu:g=true→(gq ps key).getD v=u):iO g c w0 L f (.lookup t x y false) ty u:=fun e _ _ _ _ w hw=>by
 have hA:pU w b ps:=hw.item hk;simp [execOp,hx e,hy e,p8 hK ht hz hA key,Result.andThen,hu e]
theorem yK (k:Nat) {b:Nat} {ps:List ((Int×Int)×Value)} {key kk:Int×Int} {born:Int} {v u:Value} (hK:su c.P kt) (ht:c.P.underlying t=some (.map kt et)) (hz: ∀w,(zeroValue et).run c.P w= .ok v w) (hx:gw g f x (.map (some b))) (hy:gw g f y (kv key))
  (hk:L[k]?=some (JD b ps kk born)) (hu:g=true→(gq ps key).getD v=u):iO g c w0 L f (.lookup t x y false) ty u:=fun e _ _ _ _ w hw=>by
 obtain ⟨es,cl,h1,h2,h3,_⟩:Hz w b ps kk born:=hw.item hk;simp [execOp,hx e,hy e,p8 hK ht hz ⟨es,cl,h1,h2,h3⟩ key,Result.andThen,hu e]
theorem yG (k:Nat) {b:Nat} {ps:List ((Int×Int)×Value)} {key:Int×Int} {v:Value} (hK:su c.P kt) (ht:c.P.underlying t=some (.map kt et)) (hz: ∀w,(zeroValue et).run c.P w= .ok v w) (hx:ev f x= .map (some b)) (hy:ev f y=kv key)
  (hk:L[k]?=some (oT b ps)) (hd:Nat.blt d c.N=true) (next: ∀(born:Int) (ps':List ((Int×Int)×Value)),(∀v,lT ps' key v=lT ps key v)→(gq ps' key).getD v=(gq ps key).getD v→K (L.set k (JD b ps' key born)) (kX f d (.tuple #[(gq ps key).getD v, .int .i64 born]))):
  uz c w0 L f ⟨some d, .mapEntry t x y,ty,pos,af,none⟩ K:=
 ⟨rfl,rfl,hd,fun w hw=>by
  have hA:pU w b ps:=hw.item hk;obtain ⟨born,ps',w',hrun,h1,hps,hpz,h2,h3,h4⟩:=BI hK ht hz hA key;have:(execOp (ev f) ⟨some d, .mapEntry t x y,ty,pos,af,none⟩).run c.P w= .ok (.value (.tuple #[(gq ps key).getD v, .int .i64 born])) w':=by simp [execOp,hx,hy,hrun,Result.andThen]
  rw [this];refine ⟨_,hw.set (it':=JD b ps' key born) hk (fun _ h=>h) h1 ⟨h2.os,h2.tape,h2.output,h3,h4⟩ (fun b' hb'=>?_),ie hk rfl,next born ps' hps hpz⟩;by_cases hlt:b'<w.heap.size
  ·exact h2.block b' hlt (fun e=>hb' (by injection e))
  rw [cD (by omega),cD (by omega)]⟩
theorem yF (k:Nat) {b:Nat} {ps ps0:List ((Int×Int)×Value)} {key:Int×Int} {born:Int} {v:Value} (hx:ev f x= .map (some b)) (hy:ev f y= .int .i64 born) (hz:ev f z=v)
  (hk:L[k]?=some (JD b ps key born)) (hps: ∀v,lT ps key v=lT ps0 key v) (next:K (L.set k (oT b (lT ps0 key v))) f):
  uz c w0 L f ⟨none, .entryStore t x y z,ty,pos,af,none⟩ K:=
 ⟨rfl,rfl,rfl,fun w hw=>by
  have hA:Hz w b ps key born:=hw.item hk;obtain ⟨w',hrun,h1,h2,h3,h4⟩:=AG (P:=c.P) (t:=t) hA v;have:(execOp (ev f) ⟨none, .entryStore t x y z,ty,pos,af,none⟩).run c.P w= .ok .skip w':=by simp [execOp,hx,hy,hz,hrun,Result.andThen]
  rw [this];rw [hps] at h1;refine ⟨_,hw.set (it':=oT b (lT ps0 key v)) hk (fun _ h=>h) h1 ⟨h2.os,h2.tape,h2.output,h3,h4⟩ (fun b' hb'=>?_),ie hk rfl,next⟩;by_cases hlt:b'<w.heap.size
  ·exact h2.block b' hlt (fun e=>hb' (by injection e))
  rw [cD (by omega),cD (by omega)]⟩
end
end Go.Proofs.E
namespace Go.Proofs.Far
open Go Go.Proofs.E
def rC (l:List o0) (used:List (Int×Int)) (q:Rq) (k:Nat):Bool:=ks (l.getD k default) q&&decide ((mj used k q.day:Int)<(l.getD k default).pj)
theorem DN {l:List o0} {used:List (Int×Int)} {q:Rq} (h: ∀k,k<l.length→rC l used q k=false):pR l used q= -1:=by
 unfold pR;have:(List.range l.length).find? (fun k=>ks (l.getD k default) q&&decide ((mj used k q.day:Int)<(l.getD k default).pj))=none:=by
  rw [kD];intro k hk;have:=h k (dL.1 hk);unfold rC at this;rw [this];decide
 rw [this]
theorem Qe {l:List o0} {used:List (Int×Int)} {q:Rq} {j:Nat} (hj:j<l.length) (h:rC l used q j=true) (hb: ∀k,k<j→rC l used q k=false):pR l used q=j:=by
 unfold pR;have:(List.range l.length).find? (fun k=>ks (l.getD k default) q&&decide ((mj used k q.day:Int)<(l.getD k default).pj))=some j:=by
  rw [WU];refine ⟨h,dL.2 hj,fun i hi=>?_⟩;have:=hb i hi;unfold rC at this;rw [this];rfl
 rw [this]
def tJ (l:List o0) (q:Rq):Int:=match (List.range l.length).find? fun k=>ks (l.getD k default) q with|some k=>(k:Int)|none=> -1
theorem Fc (l:List o0) (q:Rq):(tJ l q= -1∧ ∀k,k<l.length→ks (l.getD k default) q=false)∨ ∃j,j<l.length∧tJ l q=(j:Int)∧ ∀k,k<j→ks (l.getD k default) q=false:=by
 unfold tJ;cases h:(List.range l.length).find? fun k=>ks (l.getD k default) q with
 |none=>
  left;refine ⟨rfl,fun k hk=>?_⟩;rw [kD] at h;simpa using h k (dL.2 hk)
 |some j=>
  right;rw [WU] at h;refine ⟨j,dL.1 h.2.1,rfl,fun k hk=>?_⟩;simpa using h.2.2 k hk
theorem yM {l:List o0} {used:List (Int×Int)} {q:Rq} {k:Nat} (h:ks (l.getD k default) q=false):rC l used q k=false:=by
 unfold rC;rw [h];rfl
theorem D1 (ps:List ((Int×Int)×Value)) (k k':Int×Int) (v:Value):gq (lT ps k v) k'=if k=k' then some v else gq ps k':=by
 induction ps with
 |nil=>
  by_cases h:k=k'
  ·simp [lT,gq,h]
  have:(k==k')=false:=dt.2 h;simp [lT,gq,this,h]
 |cons p ps ih=>
  by_cases hp:p.1=k
  ·by_cases h:k=k'
   ·simp [lT,gq,hp,h]
   have h1:(k==k')=false:=dt.2 h;have h2:(p.1==k')=false:=by rw [hp];exact h1
   simp [lT,gq,hp,h1,h]
  have h0:(p.1==k)=false:=dt.2 hp;simp only [lT,h0,jy,lM];by_cases h3:p.1=k'
  ·have h4: ¬k=k':=fun h=>hp (by rw [h3,h]);simp [gq,h3,h4]
  have h5:(p.1==k')=false:=dt.2 h3;simp only [gq,lE,h5] at ih⊢;exact ih
def MP (ps:List ((Int×Int)×Value)) (used:List (Int×Int)):Prop:= ∀k d:Int,(gq ps (k,d)).getD (.int .i64 0)= .int .i64 (mj used k d:Nat)
theorem MP.nil:MP [] []:=fun _ _=>rfl
theorem MP.put {ps:List ((Int×Int)×Value)} {used:List (Int×Int)} (h:MP ps used) (k d:Int):MP (lT ps (k,d) (.int .i64 ((mj used k d:Nat)+1))) (used++[(k,d)]):=fun a b=>by
 rw [D1];unfold mj;rw [zZ];by_cases he:(k,d)=(a,b)
 ·rw [av he];cases he;simp [mj]
 rw [ah he,h a b];have:(k==a&&d==b)=false:=by
  cases h1:(k==a&&d==b) with
  |false=>rfl
  |true=>
   simp only [bQ,xG] at h1;exact absurd (by rw [h1.1,h1.2]) he
 simp [mj,this]
theorem Na (used:List (Int×Int)) (k d:Int):mj used k d≤used.length:=FH
theorem FQ: ∀(l:List o0) (qs:List Rq) (s:List Int×List (Int×Int)),(qs.foldl (ke l) s).2.length≤s.2.length+qs.length
 |_,[],s=>by simp
 |l,q::qs,s=>by
  rw [cO];have h1:=FQ l qs (ke l s q);have h2:(ke l s q).2.length≤s.2.length+1:=by
   unfold ke;simp only;split
   ·simp
   omega
  rw [bB];omega
def US (l:List o0) (qs:List Rq) (k:Nat):List Int×List (Int×Int):=vX l (qs.take k)
theorem Kd {l:List o0} {qs:List Rq} {k:Nat} {q:Rq} (h:qs[k]?=some q):US l qs (k+1)=ke l (US l qs k) q:=by
 unfold US vX;rw [iy,h,df];rfl
theorem C5 {l:List o0} {qs:List Rq} {k:Nat} (h:k≤qs.length):(US l qs k).1.length=k:=by
 unfold US vX;have h2:((qs.take k).foldl (ke l) ([],[])).1.length=0+(qs.take k).length:=Bp l (qs.take k) ([],[]);rw [cH] at h2;omega
theorem Uj (l:List o0) (qs:List Rq) (k:Nat):(US l qs k).2.length≤k:=by
 unfold US vX;have h:((qs.take k).foldl (ke l) ([],[])).2.length≤0+(qs.take k).length:=FQ l (qs.take k) ([],[]);rw [cH] at h;omega
def OU (l:List o0) (qs:List Rq) (k:Nat):List Int:=(US l qs k).1++List.replicate (qs.length -k) 0
theorem Uo {l:List o0} {qs:List Rq} {k:Nat} (h:k≤qs.length):(OU l qs k).length=qs.length:=by
 unfold OU;rw [bV,C5 h,me];omega
theorem Up {l:List o0} {qs:List Rq} {k:Nat} (h:k<qs.length):(OU l qs k)[k]?=some 0:=by
 unfold OU;rw [cy (by rw [C5 (by omega)];exact bq _),C5 (by omega),fy,gp,av (by omega)]
theorem Un {l:List o0} {qs:List Rq} {k:Nat} {q:Rq} (h:k<qs.length) (hq:qs[k]?=some q):(OU l qs k).set k (pR l (US l qs k).2 q)=OU l qs (k+1):=by
 unfold OU;rw [Kd hq,ib _ _ (by rw [C5 (by omega)];exact bq _),C5 (by omega),fy];obtain ⟨m,hm⟩: ∃m,qs.length -k=m+1:=⟨qs.length -k -1,by omega⟩;rw [hm,rI,sM,show qs.length -(k+1)=m by omega];unfold ke;simp
theorem yd {l:List Int} {k:Nat} (a b:Int):(l.set k a).set k b=l.set k b:=by rw [fB]
def Q2 (limit:Int) (l:List (Dy×Int)) (x:Dy):List (Dy×Int):=l++[(x,pS limit l x)]
def DS (limit:Int) (xs:List Dy) (k:Nat):List (Dy×Int):=(xs.take k).foldl (Q2 limit) []
theorem Fz {limit:Int} {xs:List Dy} {k:Nat} {x:Dy} (h:xs[k]?=some x):DS limit xs (k+1)=DS limit xs k++[(x,pS limit (DS limit xs k) x)]:=by
 unfold DS;rw [iy,h,df];rfl
theorem Pj (limit:Int) (xs:List Dy): ∀k,k≤xs.length→(DS limit xs k).length=k
 |0,_=>rfl
 |k+1,h=>by
  obtain ⟨x,hx⟩: ∃x,xs[k]?=some x:=⟨_,aj (by omega)⟩;rw [Fz hx,bV,Pj limit xs k (by omega)];rfl
theorem zj (l:List (Dy×Int)) (x:Dy) (p r d:Int):rJ (l++[(x,p)]) r d=rJ l r d+if x.rider=r∧x.day=d then p else 0:=by
 unfold rJ;rw [dw,bX,List.sum_append];by_cases h:x.rider=r∧x.day=d
 ·rw [av h];have:(x.rider==r&&x.day==d)=true:=by simp [h]
  simp [this]
 rw [ah h];have:(x.rider==r&&x.day==d)=false:=by
  cases hb:(x.rider==r&&x.day==d) with
  |false=>rfl
  |true=>simp at hb;exact absurd hb h
 simp [this]
structure SB (limit:Int) (l:List (Dy×Int)):Prop where
 jF: ∀y∈l,0≤y.2∧y.2≤y.1.fM
 E2:0<limit→ ∀r d,rJ l r d≤limit
 sum: ∀r d,0≤rJ l r d∧rJ l r d≤1000000000000*(l.length:Int)
theorem SB.nil {limit:Int} (h:0≤limit):SB limit []:=⟨fun y hy=>(by cases hy),fun _ r d=>by unfold rJ;simpa using h,fun r d=>by unfold rJ;simp⟩
theorem BW {limit:Int} {l:List (Dy×Int)} (h:SB limit l) {x:Dy} (hx:0≤x.fM∧x.fM≤1000000000000):0≤pS limit l x∧pS limit l x≤x.fM∧(0<limit→pS limit l x≤limit -rJ l x.rider x.day):=by
 unfold pS;by_cases hl:0<limit
 ·rw [av hl];have:=h.E2 hl x.rider x.day;omega
 rw [ah hl];omega
theorem SB.step {limit:Int} {l:List (Dy×Int)} (h:SB limit l) {x:Dy} (hx:0≤x.fM∧x.fM≤1000000000000):SB limit (l++[(x,pS limit l x)]):=by
 obtain ⟨h1,h2,h3⟩:=BW h hx;refine ⟨fun y hy=>?_,fun hl r d=>?_,fun r d=>?_⟩
 ·rcases aQ.1 hy with hy|hy
  ·exact h.jF y hy
  simp at hy;subst hy;exact ⟨h1,h2⟩
 ·rw [zj];split
  ·rename_i hb;obtain ⟨rfl,rfl⟩:=hb;have:=h3 hl;omega
  have:=h.E2 hl r d;omega
 rw [zj,bV];have:=h.sum r d;simp only [bB,eU];split<;>omega
theorem Ph {limit:Int} {xs:List Dy} (hl:0≤limit) (hx: ∀x∈xs,0≤x.fM∧x.fM≤1000000000000): ∀k,k≤xs.length→SB limit (DS limit xs k)
 |0,_=>SB.nil hl
 |k+1,h=>by
  obtain ⟨x,hxk⟩: ∃x,xs[k]?=some x:=⟨_,aj (by omega)⟩;rw [Fz hxk];exact (Ph hl hx k (by omega)).step (hx x (an hxk))
def DP (ps:List ((Int×Int)×Value)) (l:List (Dy×Int)):Prop:= ∀r d:Int,(gq ps (r,d)).getD (.int .i64 0)= .int .i64 (rJ l r d)
theorem DP.nil:DP [] []:=fun _ _=>rfl
theorem DP.put {ps:List ((Int×Int)×Value)} {l:List (Dy×Int)} (h:DP ps l) (x:Dy) (p:Int):DP (lT ps (x.rider,x.day) (.int .i64 (rJ l x.rider x.day+p))) (l++[(x,p)]):=fun r d=>by
 rw [D1,zj];by_cases he:(x.rider,x.day)=(r,d)
 ·rw [av he];cases he;simp
 rw [ah he,h r d,ah (fun hh=>he (by rw [hh.1,hh.2])),Int.add_zero]
end Go.Proofs.Far
