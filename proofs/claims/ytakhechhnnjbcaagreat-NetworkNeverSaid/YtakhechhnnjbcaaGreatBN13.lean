import Derived.Test.YtakhechhnnjbcaaGreatBN08
import Derived.Test.YtakhechhnnjbcaaGreatBN12
import Derived.Test.YtakhechhnnjbcaaGreatBN09
import Derived.Test.YtakhechhnnjbcaaGreatBN03
import Derived.Test.YtakhechhnnjbcaaGreatBN02
import Derived.WideKeyRuns
import Derived.ChangeKeysEq
import Derived.Test.YtakhechhnnjbcaaGreatBN04
import Derived.Test.YtakhechhnnjbcaaGreatTy
set_option maxRecDepth 100000
set_option maxHeartbeats 8000000
set_option linter.unusedVariables false
set_option linter.unusedSimpArgs false
namespace Go.Proofs.Cus
structure RT where
 id:Int
 rider:Int
 bike:Int
 open_:Bool
deriving DecidableEq,Inhabited
structure RS where
 spots:List Sp
 trips:List RT
deriving DecidableEq,Inhabited
def findT (l:List RT) (id:Int):Option Nat:=l.findIdx? fun t=>t.id==id
def ridesR (l:List RT) (rider:Int):Bool:=l.any fun t=>t.open_&&decide (t.rider=rider)
theorem findT_some {l:List RT} {id:Int} {k:Nat} (h:findT l id=some k): ∃t,l[k]?=some t∧t.id=id:=by
 obtain ⟨hk,hp,_⟩:=List.findIdx?_eq_some_iff_getElem.1 h
 exact ⟨l[k],List.getElem?_eq_getElem hk,by simpa using hp⟩
theorem findT_none {l:List RT} {id:Int}:findT l id=none↔ ∀t∈l,t.id≠id:=by
 unfold findT
 rw [List.findIdx?_eq_none_iff]
 constructor
 ·intro h t ht;simpa using h t ht
 ·intro h t ht;simpa using h t ht
theorem findT_of {l:List RT} (hn:(l.map (·.id)).Nodup) {k:Nat} {t:RT} (h:l[k]?=some t):findT l t.id=some k:=by
 cases hf:findT l t.id with
 |none=>exact absurd rfl (findT_none.1 hf t (List.mem_of_getElem? h))
 |some j=>
  obtain ⟨u,hu,hid⟩:=findT_some hf
  obtain ⟨hj,hju⟩:=List.getElem?_eq_some_iff.1 hu
  obtain ⟨hk,hkt⟩:=List.getElem?_eq_some_iff.1 h
  have:=List.pairwise_iff_getElem.1 hn
  rcases Nat.lt_trichotomy j k with h1|h1|h1
  ·exact absurd (by rw [List.getElem_map,List.getElem_map,hju,hkt,hid]) (this j k (by simpa using hj) (by simpa using hk) h1)
  ·rw [h1]
  ·exact absurd (by rw [List.getElem_map,List.getElem_map,hju,hkt,hid]) (this k j (by simpa using hk) (by simpa using hj) h1)
def closeT (l:List RT) (i:Nat):List RT:=match l[i]? with|some t=>l.set i {t with open_:=false}|none=>l
def putR (r:RS) (k:Nat) (x:Sp):RS:=
 {spots:=r.spots.set k x,trips:=if (r.spots.getD k default).where_=3 then closeT r.trips ((findT r.trips (r.spots.getD k default).ride).getD 0) else r.trips}
def applyR (r:RS) (e:Ev):RS:=
 let k:=e.bike.toNat
 if e.kind=1 then putR r k ⟨1,e.place,0,false⟩
 else if e.kind=2 then putR r k ⟨2,e.place,0,false⟩
 else if e.kind=7 then putR r k ⟨4,e.place,0,false⟩
 else if e.kind=8 then putR r k ⟨5,0,0,false⟩
 else if e.kind=9 then putR r k ⟨6,0,0,false⟩
 else if e.kind=3 then {spots:=r.spots.set k ⟨3,0,e.ride,false⟩,trips:=r.trips++[⟨e.ride,e.rider,e.bike,true⟩]}
 else if e.kind=4 then
  let i:=(findT r.trips e.ride).getD 0
  let t:=r.trips.getD i default
  {spots:=(r.spots.set t.bike.toNat (r.spots.getD k default)).set k ⟨3,0,e.ride,false⟩,trips:=r.trips.set i {t with bike:=e.bike}}
 else if e.kind=5 then {r with spots:=r.spots.set k {(r.spots.getD k default) with paused:=true}}
 else if e.kind=6 then {r with spots:=r.spots.set k {(r.spots.getD k default) with paused:=false}}
 else r
def beginR (n:Nat):RS:=⟨List.replicate n ⟨5,0,0,false⟩,[]⟩
def errR (f:Fl) (s:PS) (e:Ev):Int:=if evErr f e≠0 then evErr f e else if e.kind=10 then 0 else checkP f.trucks s e
structure Rel (n:Nat) (s:PS) (r:RS):Prop where
 inv:PInv n s
 spots:r.spots=s.spots
 ids:(r.trips.map (·.id)).Nodup
 used: ∀id,usedP s.used id=true↔ ∃t∈r.trips,t.id=id
 op1: ∀t∈r.trips,t.open_=true→ ∃pa,(t.id,(⟨t.rider,t.bike,pa⟩:PT))∈s.open_
 op2: ∀p∈s.open_,(⟨p.1,p.2.rider,p.2.bike,true⟩:RT)∈r.trips
theorem Rel.begin (n:Nat):Rel n (beginP n) (beginR n):=
 ⟨PInv.begin n,rfl,by simp [beginR],fun id=>by simp [beginP,beginR,usedP],fun t ht=>by simp [beginR] at ht,fun p hp=>by simp [beginP] at hp⟩
section
variable {n:Nat} {s:PS} {r:RS}
theorem trip_uniq (h:(r.trips.map (·.id)).Nodup) {t u:RT} (ht:t∈r.trips) (hu:u∈r.trips) (he:t.id=u.id):t=u:=by
 obtain ⟨i,hi⟩:=List.mem_iff_getElem?.1 ht
 obtain ⟨j,hj⟩:=List.mem_iff_getElem?.1 hu
 have h1:=findT_of h hi
 have h2:=findT_of h hj
 rw [he,h2] at h1
 cases h1
 rw [hi] at hj
 exact (Option.some.inj hj)
theorem Rel.riding (h:Rel n s r) (rider:Int):ridingP s.open_ rider=ridesR r.trips rider:=by
 unfold ridingP ridesR
 rw [Bool.eq_iff_iff,List.any_eq_true,List.any_eq_true]
 constructor
 ·rintro ⟨p,hp,h1⟩
  exact ⟨_,h.op2 p hp,by simpa using h1⟩
 ·rintro ⟨t,ht,h1⟩
  simp at h1
  obtain ⟨pa,hpa⟩:=h.op1 t ht h1.1
  exact ⟨_,hpa,by simpa using h1.2⟩
theorem Rel.look (h:Rel n s r) (id:Int):(lookP s.open_ id=none∧(findT r.trips id=none∨ ∃k t,findT r.trips id=some k∧r.trips[k]?=some t∧t.open_=false))∨
  ∃k p,lookP s.open_ id=some p∧(id,p)∈s.open_∧findT r.trips id=some k∧r.trips[k]?=some ⟨id,p.rider,p.bike,true⟩∧0≤p.bike∧p.bike<n∧(s.spots.getD p.bike.toNat default).paused=p.paused:=by
 cases hl:lookP s.open_ id with
 |none=>
  left
  refine ⟨rfl,?_⟩
  cases hf:findT r.trips id with
  |none=>exact .inl rfl
  |some k=>
   obtain ⟨t,ht,hid⟩:=findT_some hf
   refine .inr ⟨k,t,rfl,ht,?_⟩
   cases ho:t.open_ with
   |false=>rfl
   |true=>
    obtain ⟨pa,hpa⟩:=h.op1 t (List.mem_of_getElem? ht) ho
    rw [hid] at hpa
    rw [lookP_of h.inv.keys hpa] at hl
    cases hl
 |some p=>
  right
  have hp:=lookP_some hl
  obtain ⟨k,hk⟩:=List.mem_iff_getElem?.1 (h.op2 _ hp)
  obtain ⟨hb,x,hx,_,_,hpa⟩:=h.inv.bike _ hp
  simp only at hb hx hpa
  have hlt:=(List.getElem?_eq_some_iff.1 hx).1
  rw [h.inv.len] at hlt
  refine ⟨k,p,rfl,hp,findT_of h.ids hk,hk,hb,by omega,?_⟩
  rw [List.getD_eq_getElem?_getD,hx]
  exact hpa
theorem Rel.ride (h:Rel n s r) {k:Nat} {x:Sp} (hx:s.spots[k]?=some x) (h3:x.where_=3): ∃i p,findT r.trips x.ride=some i∧(x.ride,p)∈s.open_∧r.trips[i]?=some ⟨x.ride,p.rider,p.bike,true⟩∧p.bike=(k:Int):=by
 obtain ⟨t,ht,hb⟩:=h.inv.spot k x hx h3
 obtain ⟨i,hi⟩:=List.mem_iff_getElem?.1 (h.op2 _ ht)
 exact ⟨i,t,findT_of h.ids hi,ht,hi,hb⟩
theorem mem_closeT {l:List RT} (hn:(l.map (·.id)).Nodup) {i:Nat} {t u:RT} (hi:l[i]?=some t):u∈closeT l i↔(u={t with open_:=false})∨(u∈l∧u.id≠t.id):=by
 unfold closeT
 rw [hi]
 obtain ⟨hil,_⟩:=List.getElem?_eq_some_iff.1 hi
 constructor
 ·intro hu
  obtain ⟨j,hj⟩:=List.mem_iff_getElem?.1 hu
  rw [List.getElem?_set] at hj
  split at hj
  ·cases hj;exact .inl rfl
  ·rename_i hne
   refine .inr ⟨List.mem_of_getElem? hj,fun e=>hne ?_⟩
   have h1:=findT_of hn hi
   have h2:=findT_of hn hj
   rw [e,h1] at h2
   exact Option.some.inj h2
 ·rintro (rfl|⟨hu,hne⟩)
  ·exact List.mem_of_getElem? (i:=i) (by rw [List.getElem?_set];simp [hil])
  ·obtain ⟨j,hj⟩:=List.mem_iff_getElem?.1 hu
   refine List.mem_of_getElem? (i:=j) ?_
   rw [List.getElem?_set,if_neg (fun e=>?_)]
   ·exact hj
   ·subst e;rw [hi] at hj;exact hne (by rw [Option.some.inj hj])
theorem closeT_ids (l:List RT) (i:Nat):(closeT l i).map (·.id)=l.map (·.id):=by
 unfold closeT
 cases h:l[i]? with
 |none=>rfl
 |some t=>
  simp only
  refine List.ext_getElem? fun j=>?_
  simp only [List.getElem?_map,List.getElem?_set]
  split
  ·rename_i e;subst e
   rw [h]
   have:=(List.getElem?_eq_some_iff.1 h).1
   simp [this]
  ·rfl
theorem Rel.put (h:Rel n s r) (k:Nat) (hk:k<n) (to:Sp) (hto:to.where_≠3):Rel n (leaveP s k to) (putR r k to):=by
 have hinv:=h.inv.leave k hk to hto
 obtain ⟨x,hx⟩: ∃x,s.spots[k]?=some x:=⟨_,List.getElem?_eq_getElem (by rw [h.inv.len];exact hk)⟩
 have hg:s.spots.getD k default=x:=by rw [List.getD_eq_getElem?_getD,hx];rfl
 unfold putR
 rw [h.spots,hg]
 by_cases h3:x.where_=3
 ·rw [if_pos h3]
  obtain ⟨i,p,hf,hp,hi,hb⟩:=h.ride hx h3
  rw [hf]
  simp only [Option.getD_some]
  have hop:(leaveP s k to).open_=s.open_.eraseP (fun q=>q.1==x.ride):=by unfold leaveP;simp only [hg];rw [if_pos h3]
  refine ⟨hinv,rfl,by simp only [closeT_ids];exact h.ids,fun id=>?_,fun t ht ho=>?_,fun q hq=>?_⟩
  ·show usedP s.used id=true↔_
   rw [h.used]
   constructor
   ·rintro ⟨t,ht,e⟩
    have:id∈(closeT r.trips i).map (·.id):=by rw [closeT_ids,←e];exact List.mem_map.2 ⟨t,ht,rfl⟩
    obtain ⟨u,hu,e2⟩:=List.mem_map.1 this
    exact ⟨u,hu,e2⟩
   ·rintro ⟨t,ht,e⟩
    have:id∈(closeT r.trips i).map (·.id):=List.mem_map.2 ⟨t,ht,e⟩
    rw [closeT_ids] at this
    obtain ⟨u,hu,e2⟩:=List.mem_map.1 this
    exact ⟨u,hu,e2⟩
  ·rcases (mem_closeT h.ids hi).1 ht with rfl|⟨ht2,hne⟩
   ·simp at ho
   ·obtain ⟨pa,hpa⟩:=h.op1 t ht2 ho
    exact ⟨pa,by rw [hop];exact (mem_eraseKey h.inv.keys).2 ⟨hpa,hne⟩⟩
  ·rw [hop] at hq
   obtain ⟨hq1,hq2⟩:=(mem_eraseKey h.inv.keys).1 hq
   exact (mem_closeT h.ids hi).2 (.inr ⟨h.op2 q hq1,hq2⟩)
 ·rw [if_neg h3]
  have hop:(leaveP s k to).open_=s.open_:=by unfold leaveP;simp only [hg];rw [if_neg h3]
  refine ⟨hinv,rfl,h.ids,h.used,fun t ht ho=>?_,fun q hq=>?_⟩
  ·rw [hop];exact h.op1 t ht ho
  ·rw [hop] at hq;exact h.op2 q hq
theorem Rel.apply (h:Rel n s r) {f:Fl} {e:Ev} (hb:0≤e.bike∧e.bike<n) (hc:checkP f.trucks s e=0):Rel n (doP s e) (applyR r e):=by
 have hinv:=h.inv.step hb hc
 have hk:e.bike.toNat<n:=by omega
 obtain ⟨x,hx⟩: ∃x,s.spots[e.bike.toNat]?=some x:=⟨_,List.getElem?_eq_getElem (by rw [h.inv.len];exact hk)⟩
 have hg:s.spots.getD e.bike.toNat default=x:=by rw [List.getD_eq_getElem?_getD,hx];rfl
 by_cases h1:e.kind=1
 ·unfold doP applyR;simp only;rw [if_pos h1,if_pos h1];exact h.put _ hk _ (by simp)
 by_cases h2:e.kind=2
 ·unfold doP applyR;simp only;rw [if_neg h1,if_neg h1,if_pos h2,if_pos h2];exact h.put _ hk _ (by simp)
 by_cases h7:e.kind=7
 ·unfold doP applyR;simp only;rw [if_neg h1,if_neg h2,if_neg (by omega),if_neg (by omega),if_neg (by omega),if_pos h7,if_neg h1,if_neg h2,if_pos h7];exact h.put _ hk _ (by simp)
 by_cases h8:e.kind=8
 ·unfold doP applyR;simp only;rw [if_neg h1,if_neg h2,if_neg (by omega),if_neg (by omega),if_neg (by omega),if_neg h7,if_pos h8,if_neg h1,if_neg h2,if_neg h7,if_pos h8];exact h.put _ hk _ (by simp)
 by_cases h9:e.kind=9
 ·unfold doP applyR;simp only;rw [if_neg h1,if_neg h2,if_neg (by omega),if_neg (by omega),if_neg (by omega),if_neg h7,if_neg h8,if_pos h9,if_neg h1,if_neg h2,if_neg h7,if_neg h8,if_pos h9];exact h.put _ hk _ (by simp)
 have hA:applyR r e=if e.kind=3 then {spots:=r.spots.set e.bike.toNat ⟨3,0,e.ride,false⟩,trips:=r.trips++[⟨e.ride,e.rider,e.bike,true⟩]}
   else if e.kind=4 then {spots:=(r.spots.set (r.trips.getD ((findT r.trips e.ride).getD 0) default).bike.toNat (r.spots.getD e.bike.toNat default)).set e.bike.toNat ⟨3,0,e.ride,false⟩,trips:=r.trips.set ((findT r.trips e.ride).getD 0) {(r.trips.getD ((findT r.trips e.ride).getD 0) default) with bike:=e.bike}}
   else if e.kind=5 then {r with spots:=r.spots.set e.bike.toNat {(r.spots.getD e.bike.toNat default) with paused:=true}}
   else if e.kind=6 then {r with spots:=r.spots.set e.bike.toNat {(r.spots.getD e.bike.toNat default) with paused:=false}}
   else r:=by
  unfold applyR
  simp only
  rw [if_neg h1,if_neg h2,if_neg h7,if_neg h8,if_neg h9]
 rw [hA]
 clear hA
 unfold doP at*
 simp only at hinv⊢
 rw [if_neg h1,if_neg h2] at hinv⊢
 unfold checkP at hc
 simp only at hc
 rw [if_neg h1,if_neg h2] at hc
 by_cases h3:e.kind=3
 ·rw [if_pos h3] at hinv hc⊢
  rw [if_pos h3]
  have hu:usedP s.used e.ride=false:=by
   split at hc
   ·cases hc
   ·split at hc
    ·cases hc
    ·rename_i hu;simpa using hu
  have hno: ∀t∈r.trips,t.id≠e.ride:=fun t ht he=>by
   have:=(h.used e.ride).2 ⟨t,ht,he⟩
   rw [hu] at this;cases this
  refine ⟨hinv,by simp only [h.spots],?_,fun id=>?_,fun t ht ho=>?_,fun p hp=>?_⟩
  ·simp only [List.map_append,List.map_cons,List.map_nil]
   refine List.nodup_append.2 ⟨h.ids,by simp,fun a ha b hb=>?_⟩
   simp only [List.mem_singleton] at hb
   obtain ⟨t,ht,rfl⟩:=List.mem_map.1 ha
   rw [hb];exact hno t ht
  ·rw [usedP_mem,usePut_mem]
   have:=h.used id
   rw [usedP_mem] at this
   rw [this]
   constructor
   ·rintro (⟨t,ht,e1⟩|e1)
    ·exact ⟨t,List.mem_append.2 (.inl ht),e1⟩
    ·exact ⟨_,List.mem_append.2 (.inr (List.mem_singleton.2 rfl)),e1.symm⟩
   ·rintro ⟨t,ht,e1⟩
    rcases List.mem_append.1 ht with ht|ht
    ·exact .inl ⟨t,ht,e1⟩
    ·rw [List.mem_singleton.1 ht] at e1;exact .inr e1.symm
  ·rcases List.mem_append.1 ht with ht|ht
   ·obtain ⟨pa,hpa⟩:=h.op1 t ht ho
    exact ⟨pa,List.mem_append.2 (.inl hpa)⟩
   ·rw [List.mem_singleton.1 ht]
    exact ⟨false,List.mem_append.2 (.inr (List.mem_singleton.2 rfl))⟩
  ·rcases List.mem_append.1 hp with hp|hp
   ·exact List.mem_append.2 (.inl (h.op2 p hp))
   ·rw [List.mem_singleton.1 hp]
    exact List.mem_append.2 (.inr (List.mem_singleton.2 rfl))
 rw [if_neg h3] at hinv hc⊢
 rw [if_neg h3]
 by_cases h4:e.kind=4
 ·rw [if_pos h4] at hinv hc⊢
  rw [if_pos h4]
  rcases h.look e.ride with ⟨hl,_⟩|⟨k,p,hl,hp,hf,htk,hb0,hb1,hpa⟩
  ·rw [hl] at hc;cases hc
  ·rw [hl] at hinv⊢
   simp only at hinv⊢
   rw [hf]
   have hgt:r.trips.getD k default=⟨e.ride,p.rider,p.bike,true⟩:=by rw [List.getD_eq_getElem?_getD,htk];rfl
   simp only [Option.getD_some,hgt]
   have hkl:=(List.getElem?_eq_some_iff.1 htk).1
   have hmap:(r.trips.set k ⟨e.ride,p.rider,e.bike,true⟩).map (·.id)=r.trips.map (·.id):=by
    refine List.ext_getElem? fun j=>?_
    simp only [List.getElem?_map,List.getElem?_set]
    split
    ·rename_i e1;subst e1;rw [htk];simp [hkl]
    ·rfl
   have hms: ∀u,u∈r.trips.set k ⟨e.ride,p.rider,e.bike,true⟩↔u=⟨e.ride,p.rider,e.bike,true⟩∨(u∈r.trips∧u.id≠e.ride):=fun u=>by
    constructor
    ·intro hu
     obtain ⟨j,hj⟩:=List.mem_iff_getElem?.1 hu
     rw [List.getElem?_set] at hj
     split at hj
     ·first|(split at hj<;>first|(cases hj;exact .inl rfl)|cases hj)|(cases hj;exact .inl rfl)
     ·rename_i hne
      refine .inr ⟨List.mem_of_getElem? hj,fun e1=>hne ?_⟩
      have h2:=findT_of h.ids hj
      rw [e1,hf] at h2
      exact Option.some.inj h2
    ·rintro (rfl|⟨hu,hne⟩)
     ·exact List.mem_of_getElem? (i:=k) (by rw [List.getElem?_set];simp [hkl])
     ·obtain ⟨j,hj⟩:=List.mem_iff_getElem?.1 hu
      refine List.mem_of_getElem? (i:=j) ?_
      rw [List.getElem?_set,if_neg (fun e1=>?_)]
      ·exact hj
      ·subst e1;rw [htk] at hj;exact hne (by rw [←Option.some.inj hj])
   refine ⟨hinv,by simp only [h.spots],by simp only [hmap];exact h.ids,fun id=>?_,fun t ht ho=>?_,fun q hq=>?_⟩
   ·rw [h.used id]
    have hm: ∀l:List RT,(∃t∈l,t.id=id)↔id∈l.map (·.id):=fun l=>by simp
    rw [hm,hm,hmap]
   ·rcases (hms t).1 ht with rfl|⟨ht2,hne⟩
    ·exact ⟨p.paused,mem_setTrip.2 (.inl ⟨_,hp,rfl,rfl⟩)⟩
    ·obtain ⟨pa,hpa⟩:=h.op1 t ht2 ho
     exact ⟨pa,mem_setTrip.2 (.inr ⟨hpa,hne⟩)⟩
   ·rcases mem_setTrip.1 hq with ⟨q2,_,_,rfl⟩|⟨hq2,hne⟩
    ·exact (hms _).2 (.inl rfl)
    ·exact (hms _).2 (.inr ⟨h.op2 q hq2,hne⟩)
 rw [if_neg h4] at hinv hc⊢
 rw [if_neg h4]
 by_cases h56:e.kind=5∨e.kind=6
 ·rw [if_pos h56] at hinv hc⊢
  have hx3:x.where_=3:=by
   split at hc
   ·cases hc
   ·rename_i hw;rw [hg] at hw;exact Decidable.of_not_not hw
  obtain ⟨i,p,hf,hp,hi,hb⟩:=h.ride hx hx3
  rw [hg,lookP_of h.inv.keys hp] at hinv⊢
  simp only at hinv⊢
  have hR:(if e.kind=5 then ({r with spots:=r.spots.set e.bike.toNat {(r.spots.getD e.bike.toNat default) with paused:=true}}:RS) else if e.kind=6 then {r with spots:=r.spots.set e.bike.toNat {(r.spots.getD e.bike.toNat default) with paused:=false}} else r)={r with spots:=s.spots.set e.bike.toNat {x with paused:=decide (e.kind=5)}}:=by
   rw [h.spots,hg]
   rcases h56 with h5|h6
   ·rw [if_pos h5,decide_eq_true h5]
   ·rw [if_neg (by omega),if_pos h6,decide_eq_false (by omega)]
  rw [hR]
  refine ⟨hinv,rfl,h.ids,h.used,fun t ht ho=>?_,fun q hq=>?_⟩
  ·obtain ⟨pa,hpa⟩:=h.op1 t ht ho
   by_cases he:t.id=x.ride
   ·have:t=⟨x.ride,p.rider,p.bike,true⟩:=trip_uniq h.ids ht (List.mem_of_getElem? hi) he
    subst this
    exact ⟨_,mem_setTrip.2 (.inl ⟨_,hp,rfl,rfl⟩)⟩
   ·exact ⟨pa,mem_setTrip.2 (.inr ⟨hpa,he⟩)⟩
  ·rcases mem_setTrip.1 hq with ⟨q2,_,_,rfl⟩|⟨hq2,hne⟩
   ·exact List.mem_of_getElem? hi
   ·exact h.op2 q hq2
 rw [if_neg h56,if_neg h7,if_neg h8,if_neg h9,if_neg (show ¬e.kind=5 by omega),if_neg (show ¬e.kind=6 by omega)]
 exact h
end
end Go.Proofs.Cus
namespace Go.Proofs.Cus
open Go Go.RowKit Go.Proofs.E
theorem step_err {f:Fl} {s:PS} {e:Ev} (h:errR f s e≠0):stepR f s e=(s,some (errR f s e)):=by
 by_cases h0:evErr f e=0
 ·by_cases h1:e.kind=10
  ·exact absurd (by unfold errR;rw [if_neg (fun h=>h h0),if_pos h1]) h
  ·have he:errR f s e=checkP f.trucks s e:=by unfold errR;rw [if_neg (fun h=>h h0),if_neg h1]
   rw [he] at h⊢
   unfold stepR
   rw [if_neg (fun ⟨_,h⟩=>h1 h)]
   simp only
   rw [if_pos h0,if_neg h]
 ·have he:errR f s e=evErr f e:=by unfold errR;rw [if_pos h0]
  rw [he]
  unfold stepR
  rw [if_neg (fun ⟨h,_⟩=>h0 h)]
  simp only
  rw [if_neg h0,if_neg h0]
theorem step_do {f:Fl} {s:PS} {e:Ev} (h:errR f s e=0) (hk:e.kind≠10):stepR f s e=(doP s e,some 0)∧evErr f e=0∧checkP f.trucks s e=0:=by
 unfold errR at h
 by_cases h0:evErr f e=0
 ·rw [if_neg (by rw [h0];decide),if_neg hk] at h
  refine ⟨?_,h0,h⟩
  unfold stepR
  rw [if_neg (fun ⟨_,h⟩=>hk h)]
  simp only
  rw [if_pos h0,h,if_pos rfl]
 ·rw [if_pos h0] at h;exact absurd h h0
theorem step_beat {f:Fl} {s:PS} {e:Ev} (h:errR f s e=0) (hk:e.kind=10):stepR f s e=(s,none):=by
 unfold errR at h
 by_cases h0:evErr f e=0
 ·unfold stepR;rw [if_pos ⟨h0,hk⟩]
 ·rw [if_pos h0] at h;exact absurd h h0
theorem runR_fst {σ τ:Type} {f:Fl} {cb:σ→PS→Ev→Int→σ} {cb2:τ→PS→Ev→Int→τ}: ∀(l:List Ev) (s:PS) (z:σ) (y:τ),(runR f cb l (s,z)).1=(runR f cb2 l (s,y)).1
 |[],_,_,_=>rfl
 |e::l,s,z,y=>by
  show (runR f cb l (tellR cb z e (stepR f s e))).1=(runR f cb2 l (tellR cb2 y e (stepR f s e))).1
  have h1: ∀p:PS×σ,p=(p.1,p.2):=fun _=>rfl
  have h2: ∀p:PS×τ,p=(p.1,p.2):=fun _=>rfl
  rw [h1 (tellR cb z e (stepR f s e)),h2 (tellR cb2 y e (stepR f s e)),tellR_fst,tellR_fst]
  exact runR_fst l _ _ _
structure Steps (f:Fl) (ys:List Ev) (S:Nat→PS) (Ac:Nat→List Ev) (Rj_:Nat→List Rj):Prop where
 s0:S 0=beginP (nbOf f)
 a0:Ac 0=[]
 r0:Rj_ 0=[]
 st: ∀k e,ys[k]?=some e→S (k+1)=(stepR f (S k) e).1∧Ac (k+1)=(match (stepR f (S k) e).2 with|some er=>if er=0 then Ac k++[e] else Ac k|none=>Ac k)∧Rj_ (k+1)=(match (stepR f (S k) e).2 with|some er=>if er≠0 then Rj_ k++[⟨e.device,e.seq,er⟩] else Rj_ k|none=>Rj_ k)
theorem steps_of (f:Fl) (ys:List Ev): ∃S Ac Rj_,Steps f ys S Ac Rj_∧(∀k,S k=(runR f nobCb (ys.take k) (beginP (nbOf f),())).1)∧Ac ys.length=(runR f accCb ys (beginP (nbOf f),[])).2∧Rj_ ys.length=(runR f rejCb ys (beginP (nbOf f),[])).2:=by
 refine ⟨fun k=>(runR f nobCb (ys.take k) (beginP (nbOf f),())).1,fun k=>(runR f accCb (ys.take k) (beginP (nbOf f),[])).2,fun k=>(runR f rejCb (ys.take k) (beginP (nbOf f),[])).2,⟨rfl,rfl,rfl,fun k e he=>?_⟩,fun _=>rfl,by simp only [List.take_length],by simp only [List.take_length]⟩
 rw [runR_snoc ys _ k e he,runR_snoc ys _ k e he,runR_snoc ys _ k e he]
 rw [runR_fst (cb2:=nobCb) (y:=()) (ys.take k) (beginP (nbOf f)) ([]:List Ev),runR_fst (cb2:=nobCb) (y:=()) (ys.take k) (beginP (nbOf f)) ([]:List Rj)]
 generalize stepR f (runR f nobCb (ys.take k) (beginP (nbOf f),())).1 e=q
 obtain ⟨q1,q2⟩:=q
 cases q2 with
 |none=>exact ⟨rfl,rfl,rfl⟩
 |some er=>exact ⟨rfl,rfl,rfl⟩
theorem Steps.len {f:Fl} {ys:List Ev} {S:Nat→PS} {Ac:Nat→List Ev} {Rj_:Nat→List Rj} (h:Steps f ys S Ac Rj_): ∀k,k≤ys.length→(Ac k).length≤k∧(Rj_ k).length≤k
 |0,_=>by rw [h.a0,h.r0];simp
 |k+1,hk=>by
  obtain ⟨e,he⟩: ∃e,ys[k]?=some e:=⟨_,List.getElem?_eq_getElem (by omega)⟩
  obtain ⟨h1,h2⟩:=h.len k (by omega)
  obtain ⟨_,h3,h4⟩:=h.st k e he
  rw [h3,h4]
  constructor
  ·split
   ·split
    ·simp;omega
    ·omega
   ·omega
  ·split
   ·split
    ·simp;omega
    ·omega
   ·omega
end Go.Proofs.Cus
namespace Go.Proofs.Cus
def Replay (f:Fl):PS→List Ev→Prop
 |_,[]=>True
 |s,e::l=>evErr f e=0∧e.kind≠10∧checkP f.trucks s e=0∧Replay f (doP s e) l
section
variable {β:Type} {f:Fl} {g:PS→β}
def trOf (g:PS→β):PS→List Ev→List (Int×β)
 |_,[]=>[]
 |s,e::l=>(e.at_,g (doP s e))::trOf g (doP s e) l
theorem run_replay: ∀(l:List Ev) (s:PS) (za:List Ev) (zt:List (Int×β)),∃t,(runR f accCb l (s,za)).2=za++t∧(runR f (trCb g) l (s,zt)).2=zt++trOf g s t∧Replay f s t
 |[],_,za,zt=>⟨[],by simp [runR],by simp [runR,trOf],trivial⟩
 |e::l,s,za,zt=>by
  show ∃t,(runR f accCb l (tellR accCb za e (stepR f s e))).2=za++t∧(runR f (trCb g) l (tellR (trCb g) zt e (stepR f s e))).2=zt++trOf g s t∧_
  by_cases h0:errR f s e=0
  ·by_cases hk:e.kind=10
   ·rw [step_beat h0 hk]
    exact run_replay l s za zt
   ·obtain ⟨h1,h2,h3⟩:=step_do h0 hk
    rw [h1]
    obtain ⟨t,a1,a2,a3⟩:=run_replay l (doP s e) (za++[e]) (zt++[(e.at_,g (doP s e))])
    refine ⟨e::t,?_,?_,h2,hk,h3,a3⟩
    ·show (runR f accCb l (doP s e,accCb za (doP s e) e 0)).2=_
     rw [show accCb za (doP s e) e 0=za++[e] from rfl,a1];simp
    ·show (runR f (trCb g) l (doP s e,trCb g zt (doP s e) e 0)).2=_
     rw [show trCb g zt (doP s e) e 0=zt++[(e.at_,g (doP s e))] from rfl,a2];simp [trOf]
  ·rw [step_err h0]
   show ∃t,(runR f accCb l (s,accCb za s e (errR f s e))).2=za++t∧(runR f (trCb g) l (s,trCb g zt s e (errR f s e))).2=zt++trOf g s t∧_
   rw [show accCb za s e (errR f s e)=za by unfold accCb;rw [if_neg h0],show trCb g zt s e (errR f s e)=zt by unfold trCb;rw [if_neg h0]]
   exact run_replay l s za zt
def stK (s:PS) (l:List Ev) (k:Nat):PS:=(l.take k).foldl doP s
theorem Replay.at_: ∀{l:List Ev} {s:PS},Replay f s l→ ∀{k:Nat} {e:Ev},l[k]?=some e→evErr f e=0∧e.kind≠10∧checkP f.trucks (stK s l k) e=0∧stK s l (k+1)=doP (stK s l k) e∧(trOf g s l)[k]?=some (e.at_,g (stK s l (k+1)))
 |[],_,_,k,e,he=>by simp at he
 |x::l,s,⟨h1,h2,h3,h4⟩,0,e,he=>by
  simp at he
  subst he
  exact ⟨h1,h2,h3,rfl,rfl⟩
 |x::l,s,⟨h1,h2,h3,h4⟩,k+1,e,he=>by
  have:=Replay.at_ h4 (k:=k) (e:=e) (by simpa using he)
  exact this
end
theorem replay_of {β:Type} {f:Fl} (hok:flErr f=0) (xs:List Ev) (g:PS→β):Replay f (beginP (nbOf f)) (accOf f xs)∧(runR f (trCb g) (setOf xs) (beginP (nbOf f),[])).2=trOf g (beginP (nbOf f)) (accOf f xs):=by
 obtain ⟨t,h1,h2,h3⟩:=run_replay (f:=f) (g:=g) (setOf xs) (beginP (nbOf f)) [] []
 have ha:accOf f xs=t:=by unfold accOf;rw [if_pos hok,h1];simp
 rw [ha,h2]
 exact ⟨h3,by simp⟩
theorem accOf_len (f:Fl) (xs:List Ev):(accOf f xs).length≤xs.length:=by
 unfold accOf
 split
 ·obtain ⟨S,Ac,Rj_,hst,hS,hA,hRj⟩:=steps_of f (setOf xs)
  rw [←hA]
  have h1:=(hst.len _ (Nat.le_refl _)).1
  have h2:=setOf_len xs
  omega
 ·simp
end Go.Proofs.Cus
namespace Go.Proofs.Rid
open Go.Proofs.Cus
structure Spn where
 lo:Int
 hi:Int
deriving DecidableEq,Inhabited
structure Lg where
 bike:Int
 from_:Spn
 to_:Spn
deriving DecidableEq,Inhabited
structure Pz where
 from_:Spn
 to_:Spn
deriving DecidableEq,Inhabited
structure Rd where
 id:Int
 rider:Int
 start:Spn
 end_:Spn
 open_:Bool
 legs:List Lg
 pauses:List Pz
 fw:Int
 fp:Int
 wh:Int
 pl:Int
deriving DecidableEq,Inhabited
abbrev RM:=List (Int×Int)
def rget (m:RM) (r:Int):Option Int:=(m.find? fun p=>p.1==r).map (·.2)
def rput:RM→Int→Int→RM
 |[],r,b=>[(r,b)]
 |p::m,r,b=>if (p.1==r)=true then (r,b)::m else p::rput m r b
theorem rput_get: ∀(m:RM) (r b r':Int),rget (rput m r b) r'=if r'=r then some b else rget m r'
 |[],r,b,r'=>by
  unfold rput rget
  by_cases h:r'=r
  ·subst h;simp
  ·rw [if_neg h,List.find?_cons_of_neg (by simp;omega)]
 |p::m,r,b,r'=>by
  have ih:=rput_get m r b r'
  unfold rget at ih⊢
  unfold rput
  by_cases hp:(p.1==r)=true
  ·rw [if_pos hp]
   have hpr:p.1=r:=by simpa using hp
   by_cases h:r'=r
   ·subst h;simp
   ·rw [if_neg h,List.find?_cons_of_neg (by simp;omega),List.find?_cons_of_neg (by simp;omega)]
  ·rw [if_neg hp]
   have hpr: ¬p.1=r:=by simpa using hp
   by_cases h2:(p.1==r')=true
   ·have h2':p.1=r':=by simpa using h2
    simp only [List.find?_cons,h2]
    rw [if_neg (by omega)]
   ·simp only [List.find?_cons,h2]
    exact ih
structure SY where
 rides:List Rd
 byID:RM
 riding:List Int
 paused:List Bool
 spots:List Sp
def spanE (e:Ev):Spn:=⟨e.at_,e.late⟩
def zSpn:Spn:=⟨0,0⟩
def endLeg (w:Spn) (l:List Lg):List Lg:=l.set (l.length -1) {l.getD (l.length -1) default with to_:=w}
def endPz (w:Spn) (l:List Pz):List Pz:=l.set (l.length -1) {l.getD (l.length -1) default with to_:=w}
def lastBike (l:List Lg):Int:=(l.getD (l.length -1) default).bike
def resumeR (p:Bool) (w:Spn) (r:Rd):Rd:=if p=true∧0<r.pauses.length then {r with pauses:=endPz w r.pauses} else r
def resumeY (s:SY) (k:Nat) (w:Spn):SY:={s with rides:=s.rides.set k (resumeR (s.paused.getD k false) w (s.rides.getD k default)),paused:=s.paused.set k false}
def finishR (at_:Sp) (w:Spn) (r:Rd):Rd:={r with legs:=endLeg w r.legs,end_:=w,open_:=false,wh:=at_.where_,pl:=at_.place}
def leaveY (s:SY) (b:Nat) (at_:Sp) (w:Spn):SY:=
 if s.riding.getD b 0<0 then {s with spots:=s.spots.set b at_}
 else
  let k:=(s.riding.getD b 0).toNat
  let t:=resumeY {s with spots:=s.spots.set b at_} k w
  {t with rides:=t.rides.set k (finishR at_ w (t.rides.getD k default)),riding:=t.riding.set b (-1)}
def newR (e:Ev) (from_:Sp) (w:Spn):Rd:=⟨e.ride,e.rider,w,zSpn,true,[⟨e.bike,w,zSpn⟩],[],from_.where_,from_.place,3,0⟩
def beginY (s:SY) (e:Ev) (w:Spn):SY:=
 {rides:=s.rides++[newR e (s.spots.getD e.bike.toNat default) w],byID:=rput s.byID e.ride s.rides.length,riding:=s.riding.set e.bike.toNat s.rides.length,paused:=s.paused++[false],spots:=s.spots}
def swapR (b:Int) (w:Spn) (r:Rd):Rd:={r with legs:=endLeg w r.legs++[⟨b,w,zSpn⟩]}
def changeY (s:SY) (e:Ev) (w:Spn):SY:=
 match rget s.byID e.ride with
 |none=>s
 |some k=>
  let r:=s.rides.getD k.toNat default
  let former:=(lastBike r.legs).toNat
  {s with rides:=s.rides.set k.toNat (swapR e.bike w r),riding:=(s.riding.set former (-1)).set e.bike.toNat k,spots:=s.spots.set former (s.spots.getD e.bike.toNat default)}
def pauseR (w:Spn) (r:Rd):Rd:={r with pauses:=r.pauses++[⟨w,zSpn⟩]}
def tellY (s:SY) (e:Ev):SY:=
 let w:=spanE e
 let k:=s.riding.getD e.bike.toNat 0
 if e.kind=3 then beginY s e w
 else if e.kind=4 then changeY s e w
 else if e.kind=5 then (if 0≤k then {s with rides:=s.rides.set k.toNat (pauseR w (s.rides.getD k.toNat default)),paused:=s.paused.set k.toNat true} else s)
 else if e.kind=6 then (if 0≤k then resumeY s k.toNat w else s)
 else if e.kind=1 then leaveY s e.bike.toNat ⟨1,e.place,0,false⟩ w
 else if e.kind=2 then leaveY s e.bike.toNat ⟨2,e.place,0,false⟩ w
 else if e.kind=9 then leaveY s e.bike.toNat ⟨6,0,0,false⟩ w
 else s
def beginSY (n:Nat):SY:=⟨[],[],List.replicate n (-1),[],List.replicate n ⟨0,0,0,false⟩⟩
structure WF (n N:Nat) (s:SY):Prop where
 riding:s.riding.length=n
 spots:s.spots.length=n
 paused:s.paused.length=s.rides.length
 num:s.rides.length≤N
 ride: ∀b∈s.riding,-1≤b∧b<s.rides.length
 legs: ∀r∈s.rides,0<r.legs.length∧r.legs.length≤N∧r.pauses.length≤N∧(∀g∈r.legs,0≤g.bike∧g.bike<n)
 ids: ∀id k,rget s.byID id=some k→0≤k∧k<s.rides.length
theorem WF.begin (n:Nat):WF n 0 (beginSY n):=
 ⟨by simp [beginSY],by simp [beginSY],rfl,Nat.le_refl _,fun b hb=>by simp [beginSY] at hb;simp [hb.2,beginSY],fun r hr=>by simp [beginSY] at hr,fun id k h=>by simp [beginSY,rget] at h⟩
theorem endLeg_len (w:Spn) (l:List Lg):(endLeg w l).length=l.length:=by simp [endLeg]
theorem endPz_len (w:Spn) (l:List Pz):(endPz w l).length=l.length:=by simp [endPz]
theorem getD_mem {α:Type} [Inhabited α] {l:List α} {k:Nat} (h:k<l.length):l.getD k default∈l∧l[k]?=some (l.getD k default):=by
 have e:l[k]?=some (l.getD k default):=by rw [List.getD_eq_getElem?_getD,List.getElem?_eq_getElem h];rfl
 exact ⟨List.mem_of_getElem? e,e⟩
theorem endLeg_bikes {n:Nat} {w:Spn} {l:List Lg} (h: ∀g∈l,0≤g.bike∧g.bike<(n:Int)) (hl:0<l.length): ∀g∈endLeg w l,0≤g.bike∧g.bike<(n:Int):=fun g hg=>by
 unfold endLeg at hg
 rcases List.mem_or_eq_of_mem_set hg with hg|rfl
 ·exact h g hg
 ·exact h (l.getD (l.length -1) default) (getD_mem (by omega)).1
theorem WF.set {n N:Nat} {s:SY} (h:WF n N s) {k:Nat} {r:Rd} (hr:0<r.legs.length∧r.legs.length≤N∧r.pauses.length≤N∧(∀g∈r.legs,0≤g.bike∧g.bike<(n:Int))) (p:List Bool) (hp:p.length=s.paused.length):WF n N {s with rides:=s.rides.set k r,paused:=p}:=
 ⟨h.riding,h.spots,by simp [hp,h.paused],by simpa using h.num,fun b hb=>by simpa using h.ride b hb,fun x hx=>by
  rcases List.mem_or_eq_of_mem_set hx with hx|rfl
  ·exact h.legs x hx
  ·exact hr,fun id k hk=>by simpa using h.ids id k hk⟩
theorem WF.mono {n N M:Nat} {s:SY} (h:WF n N s) (hN:N≤M):WF n M s:=
 ⟨h.riding,h.spots,h.paused,Nat.le_trans h.num hN,h.ride,fun r hr=>⟨(h.legs r hr).1,by have:=(h.legs r hr).2.1;omega,by have:=(h.legs r hr).2.2.1;omega,(h.legs r hr).2.2.2⟩,h.ids⟩
theorem resumeR_ok {n N:Nat} {p:Bool} {w:Spn} {r:Rd} (h:0<r.legs.length∧r.legs.length≤N∧r.pauses.length≤N∧(∀g∈r.legs,0≤g.bike∧g.bike<(n:Int))):0<(resumeR p w r).legs.length∧(resumeR p w r).legs.length≤N∧(resumeR p w r).pauses.length≤N∧(∀g∈(resumeR p w r).legs,0≤g.bike∧g.bike<(n:Int)):=by
 unfold resumeR
 split
 ·exact ⟨h.1,h.2.1,by simp only [endPz_len];exact h.2.2.1,h.2.2.2⟩
 ·exact h
theorem WF.resume {n N:Nat} {s:SY} (h:WF n N s) {k:Nat} (hk:k<s.rides.length) (w:Spn):WF n N (resumeY s k w):=by
 unfold resumeY
 exact h.set (resumeR_ok (h.legs _ (getD_mem hk).1)) _ (by simp)
theorem riding_get {n N:Nat} {s:SY} (h:WF n N s) {b:Nat} (hb:b<n): ∃v,s.riding[b]?=some v∧s.riding.getD b 0=v∧ -1≤v∧v<s.rides.length:=by
 have hl:=h.riding
 obtain ⟨v,hv⟩: ∃v,s.riding[b]?=some v:=⟨_,List.getElem?_eq_getElem (by omega)⟩
 have:=h.ride v (List.mem_of_getElem? hv)
 exact ⟨v,hv,by rw [List.getD_eq_getElem?_getD,hv];rfl,this.1,this.2⟩
theorem WF.leave {n N:Nat} {s:SY} (h:WF n N s) {b:Nat} (hb:b<n) (at_:Sp) (w:Spn):WF n N (leaveY s b at_ w):=by
 obtain ⟨v,hv,hg,hv0,hv1⟩:=riding_get h hb
 have h1:WF n N {s with spots:=s.spots.set b at_}:=⟨h.riding,by simp [h.spots],h.paused,h.num,h.ride,h.legs,h.ids⟩
 unfold leaveY
 rw [hg]
 split
 ·exact h1
 ·rename_i hn
  have hk:v.toNat<s.rides.length:=by omega
  have h2:=h1.resume (k:=v.toNat) hk w
  simp only
  generalize resumeY {s with spots:=s.spots.set b at_} v.toNat w=t at h2⊢
  have hl2:v.toNat<t.rides.length∨ ¬v.toNat<t.rides.length:=by omega
  have h3:WF n N {t with rides:=t.rides.set v.toNat (finishR at_ w (t.rides.getD v.toNat default)),paused:=t.paused}:=by
   rcases hl2 with hl2|hl2
   ·refine h2.set ?_ _ rfl
    have:=h2.legs _ (getD_mem hl2).1
    unfold finishR
    refine ⟨?_,?_,this.2.2.1,?_⟩
    ·simp only [endLeg_len];exact this.1
    ·simp only [endLeg_len];exact this.2.1
    ·exact endLeg_bikes this.2.2.2 this.1
   ·rw [List.set_eq_of_length_le (by omega)];exact h2
  exact ⟨by simp [h3.riding],h3.spots,h3.paused,h3.num,fun b' hb'=>by
   rcases List.mem_or_eq_of_mem_set hb' with hb'|rfl
   ·exact h3.ride b' hb'
   ·simp only;omega,h3.legs,h3.ids⟩
theorem WF.beginE {n N:Nat} {s:SY} (h:WF n N s) {e:Ev} (hb:0≤e.bike∧e.bike<n) (w:Spn):WF n (N+1) (beginY s e w):=by
 have h':=h.mono (Nat.le_succ N)
 unfold beginY
 refine ⟨by simp [h.riding],h.spots,by simp [h.paused],by simp;exact h.num,fun b hb'=>?_,fun r hr=>?_,fun id k hk=>?_⟩
 ·simp only [List.length_append,List.length_cons,List.length_nil]
  rcases List.mem_or_eq_of_mem_set hb' with hb'|rfl
  ·have:=h.ride b hb';omega
  ·omega
 ·rcases List.mem_append.1 hr with hr|hr
  ·exact h'.legs r hr
  ·simp only [List.mem_singleton] at hr
   subst hr
   refine ⟨by simp [newR],by simp [newR],by simp [newR],fun g hg=>?_⟩
   simp [newR] at hg
   subst hg
   exact hb
 ·simp only at hk
  rw [rput_get] at hk
  simp only [List.length_append,List.length_cons,List.length_nil]
  split at hk
  ·cases hk;omega
  ·have:=h.ids id k hk;omega
theorem WF.changeE {n N:Nat} {s:SY} (h:WF n N s) {e:Ev} (hb:0≤e.bike∧e.bike<n) (w:Spn):WF n (N+1) (changeY s e w):=by
 have h':=h.mono (Nat.le_succ N)
 unfold changeY
 split
 ·exact h'
 ·rename_i k hk
  obtain ⟨h0,h1⟩:=h.ids _ _ hk
  have hkl:k.toNat<s.rides.length:=by omega
  have hr:=h.legs _ (getD_mem hkl).1
  simp only
  have h3:WF n (N+1) {s with rides:=s.rides.set k.toNat (swapR e.bike w (s.rides.getD k.toNat default)),paused:=s.paused}:=by
   refine h'.set ?_ _ rfl
   unfold swapR
   refine ⟨by simp,by simp [endLeg_len];exact hr.2.1,by simp only;omega,fun g hg=>?_⟩
   rcases List.mem_append.1 hg with hg|hg
   ·exact endLeg_bikes hr.2.2.2 hr.1 g hg
   ·simp at hg;subst hg;exact hb
  exact ⟨by simp [h3.riding],by simp [h3.spots],h3.paused,h3.num,fun b' hb'=>by
   rcases List.mem_or_eq_of_mem_set hb' with hb'|rfl
   ·rcases List.mem_or_eq_of_mem_set hb' with hb'|rfl
    ·exact h3.ride b' hb'
    ·simp only;omega
   ·simp only [List.length_set];omega,h3.legs,h3.ids⟩
theorem WF.tell {n N:Nat} {s:SY} (h:WF n N s) {e:Ev} (hb:0≤e.bike∧e.bike<n):WF n (N+1) (tellY s e):=by
 have h':=h.mono (Nat.le_succ N)
 obtain ⟨v,hv,hg,hv0,hv1⟩:=riding_get h (b:=e.bike.toNat) (by omega)
 unfold tellY
 simp only
 rw [hg]
 split
 ·exact h.beginE hb _
 split
 ·exact h.changeE hb _
 split
 ·split
  ·refine h'.set ?_ _ (by simp)
   have:=h.legs _ (getD_mem (k:=v.toNat) (by omega)).1
   exact ⟨this.1,by show _≤N+1;have:=this.2.1;simp only [pauseR];omega,by simp [pauseR];exact this.2.2.1,this.2.2.2⟩
  ·exact h'
 split
 ·split
  ·exact h'.resume (k:=v.toNat) (by omega) _
  ·exact h'
 split
 ·exact h'.leave (by omega) _ _
 split
 ·exact h'.leave (by omega) _ _
 split
 ·exact h'.leave (by omega) _ _
 ·exact h'
theorem WF.run {n:Nat}: ∀(l:List Ev) {N:Nat} {s:SY},WF n N s→(∀e∈l,0≤e.bike∧e.bike<(n:Int))→WF n (N+l.length) (l.foldl tellY s)
 |[],_,_,h,_=>h
 |e::l,N,s,h,hb=>by
  have:=WF.run l (h.tell (hb e (by simp))) fun e he=>hb e (List.mem_cons_of_mem _ he)
  rw [List.foldl_cons,List.length_cons,show N+(l.length+1)=N+1+l.length by omega]
  exact this
end Go.Proofs.Rid
namespace Go.Proofs.Rid
open Go.Proofs.Cus
section
variable {α:Type} {lt:α→α→Bool} {xs0 xs:List α} {a b i j:Nat}
def SortedOn (lt:α→α→Bool) (xs:List α) (a b:Nat):Prop:= ∀p q x y,a≤p→p<q→q<b→xs[p]?=some x→xs[q]?=some y→lt y x=false
structure InsI (lt:α→α→Bool) (xs0 xs:List α) (a i j:Nat):Prop where
 perm:xs.Perm xs0
 out: ∀p,p<a∨i<p→xs[p]?=xs0[p]?
 ok: ∀p q x y,a≤p→p<q→q≤i→q≠j→xs[p]?=some x→xs[q]?=some y→lt y x=false
structure InsO (lt:α→α→Bool) (xs0 xs:List α) (a i:Nat):Prop where
 perm:xs.Perm xs0
 out: ∀p,p<a∨i≤p→xs[p]?=xs0[p]?
 ok:SortedOn lt xs a i
theorem InsO.start (xs:List α) (a:Nat):InsO lt xs xs a (a+1):=⟨List.Perm.refl _,fun _ _=>rfl,fun p q x y h1 h2 h3=>by omega⟩
theorem InsO.inner (h:InsO lt xs0 xs a i):InsI lt xs0 xs a i i:=⟨h.perm,fun p hp=>h.out p (by omega),fun p q x y h1 h2 h3 h4=>h.ok p q x y h1 h2 (by omega)⟩
theorem swap_perm {x y:α} (hj:0<j) (hx:xs[j]?=some x) (hy:xs[j -1]?=some y):((xs.set j y).set (j -1) x).Perm xs:=by
 obtain ⟨h1,e1⟩:=List.getElem?_eq_some_iff.1 hx
 obtain ⟨h2,e2⟩:=List.getElem?_eq_some_iff.1 hy
 have:=List.set_set_perm h1 h2
 rw [e1,e2] at this
 exact this
theorem swap_get {x y:α} (hj:0<j) (hx:xs[j]?=some x) (hy:xs[j -1]?=some y) (p:Nat):((xs.set j y).set (j -1) x)[p]?=if p=j -1 then some x else if p=j then some y else xs[p]?:=by
 have h1:=(List.getElem?_eq_some_iff.1 hx).1
 rw [List.getElem?_set]
 by_cases e:j -1=p
 ·rw [if_pos e,if_pos (by simp;omega),if_pos e.symm]
 ·rw [if_neg e,if_neg (fun h=>e h.symm),List.getElem?_set]
  by_cases e2:j=p
  ·rw [if_pos e2,if_pos (by omega),if_pos e2.symm]
  ·rw [if_neg e2,if_neg (fun h=>e2 h.symm)]
theorem InsI.step {x y:α} (hS: ∀u v:α,lt u v=true→lt v u=false) (h:InsI lt xs0 xs a i j) (hj:a<j) (hji:j≤i) (hx:xs[j]?=some x) (hy:xs[j -1]?=some y) (hl:lt x y=true):InsI lt xs0 ((xs.set j y).set (j -1) x) a i (j -1):=by
 have hg:=swap_get (by omega) hx hy
 refine ⟨(swap_perm (by omega) hx hy).trans h.perm,fun p hp=>?_,fun p q u v h1 h2 h3 h4 hu hv=>?_⟩
 ·rw [hg,if_neg (by omega),if_neg (by omega)];exact h.out p hp
 ·rw [hg] at hu hv
  rw [if_neg h4] at hv
  by_cases hq:q=j
  ·rw [if_pos hq] at hv
   cases hv
   by_cases hp:p=j -1
   ·rw [if_pos hp] at hu;cases hu;exact hS _ _ hl
   ·rw [if_neg hp,if_neg (by omega)] at hu
    exact h.ok p (j -1) u y h1 (by omega) (by omega) (by omega) hu hy
  ·rw [if_neg hq] at hv
   by_cases hp:p=j -1
   ·rw [if_pos hp] at hu;cases hu
    exact h.ok j q _ v (by omega) (by omega) h3 hq hx hv
   ·rw [if_neg hp] at hu
    by_cases hp2:p=j
    ·rw [if_pos hp2] at hu;cases hu
     exact h.ok (j -1) q _ v (by omega) (by omega) h3 hq hy hv
    ·rw [if_neg hp2] at hu
     exact h.ok p q u v h1 h2 h3 hq hu hv
theorem InsI.stop (hN: ∀u v w:α,lt u v=false→lt v w=false→lt u w=false) (h:InsI lt xs0 xs a i j) (hj:a≤j) (hji:j≤i) (he:j=a∨ ∃x y,xs[j]?=some x∧xs[j -1]?=some y∧lt x y=false):InsO lt xs0 xs a (i+1):=by
 refine ⟨h.perm,fun p hp=>h.out p (by omega),fun p q u v h1 h2 h3 hu hv=>?_⟩
 by_cases hq:q=j
 ·rcases he with he|⟨x,y,hx,hy,hl⟩
  ·omega
  ·rw [hq,hx] at hv
   cases hv
   by_cases hp:p=j -1
   ·rw [hp,hy] at hu;cases hu;exact hl
   ·exact hN _ _ _ hl (h.ok p (j -1) u y h1 (by omega) (by omega) (by omega) hu hy)
 ·exact h.ok p q u v h1 h2 (by omega) hq hu hv
end
def idLt (x y:Rd):Bool:=decide (x.id<y.id)
def byId (l:List Rd):List Rd:=l.mergeSort fun x y=>decide (x.id≤y.id)
theorem byId_perm (l:List Rd):(byId l).Perm l:=List.mergeSort_perm _ _
theorem byId_sorted (l:List Rd):(byId l).Pairwise fun x y=>x.id≤y.id:=by
 have:=List.pairwise_mergeSort (le:=fun x y:Rd=>decide (x.id≤y.id)) (fun a b c h1 h2=>by simp at*;omega) (fun a b=>by simp;omega) l
 exact this.imp fun h=>by simpa using h
theorem sorted_unique: ∀{l m:List Rd},l.Perm m→l.Pairwise (fun x y=>x.id<y.id)→m.Pairwise (fun x y=>x.id<y.id)→l=m
 |[],m,hp,_,_=>(List.Perm.nil_eq hp)
 |x::l,[],hp,_,_=>by have:=hp.length_eq;simp at this
 |x::l,y::m,hp,h1,h2=>by
  have h1':=List.pairwise_cons.1 h1
  have h2':=List.pairwise_cons.1 h2
  have hxy:x=y:=by
   have hx:x∈y::m:=hp.subset (by simp)
   have hy:y∈x::l:=hp.symm.subset (by simp)
   rcases List.mem_cons.1 hx with e|hx
   ·exact e
   ·rcases List.mem_cons.1 hy with e|hy
    ·exact e.symm
    ·have a1:=h2'.1 x hx
     have a2:=h1'.1 y hy
     omega
  subst hxy
  rw [sorted_unique ((List.perm_cons x).1 hp) h1'.2 h2'.2]
theorem strict_of {l:List Rd} (h:l.Pairwise fun x y=>x.id≤y.id) (hn:(l.map (·.id)).Nodup):l.Pairwise fun x y=>x.id<y.id:=by
 have h2:l.Pairwise fun x y=>x.id≠y.id:=List.pairwise_map.1 hn
 exact (List.Pairwise.and h h2).imp fun ⟨a,b⟩=>by omega
theorem byId_strict {l:List Rd} (hn:(l.map (·.id)).Nodup):(byId l).Pairwise fun x y=>x.id<y.id:=
 strict_of (byId_sorted l) (((byId_perm l).map _).nodup_iff.2 hn)
theorem byId_unique {l m:List Rd} (hp:m.Perm l) (hs:m.Pairwise fun x y=>x.id≤y.id) (hn:(l.map (·.id)).Nodup):m=byId l:=
 sorted_unique (hp.trans (byId_perm l).symm) (strict_of hs ((hp.map _).nodup_iff.2 hn)) (byId_strict hn)
end Go.Proofs.Rid
namespace Go.Proofs.Rid
open Go.Proofs.Cus
def spOk (s:Spn):Bool:=(decide (0≤s.lo)&&decide (s.lo≤s.hi))&&decide (s.hi≤4294943999)
def lgOk (g:Lg):Bool:=spOk g.from_&&spOk g.to_
def pzOk (p:Pz):Bool:=spOk p.from_&&spOk p.to_
def headBad (r:Rd):Bool:=((((decide (r.id<1)||decide (1000000<r.id))||decide (r.rider<0))||decide (128≤r.rider))||!spOk r.start)||!spOk r.end_
def rangedP (r:Rd):Bool:=!headBad r&&(r.legs.all lgOk&&r.pauses.all pzOk)
def numBad (r:Rd):Bool:=(decide ((r.legs.length:Int)<1)||decide ((512:Int)<r.legs.length))||decide ((512:Int)<r.pauses.length)
def chainP:Spn→List Lg→Spn→Bool
 |a,[],e=>decide (a=e)
 |a,g::l,e=>decide (g.from_=a)&&chainP g.to_ l e
def joinedP (r:Rd):Bool:=!numBad r&&chainP r.start r.legs r.end_
def legsOrd (o:Bool):List Lg→Bool
 |[]=>true
 |g::l=>!(decide (g.to_.lo<g.from_.lo)&&!(o&&l.isEmpty))&&legsOrd o l
def pzOrd (o:Bool) (n:Nat) (e:Int):Int→List Pz→Bool
 |last,[]=>(o||decide ((n:Int)=0))||decide (last≤e)
 |last,p::l=>if p.from_.lo<last then false else if ((o&&l.isEmpty)&&decide (p.to_.lo=0))=true then true else if p.to_.lo<p.from_.lo then false else pzOrd o n e p.to_.lo l
def orderedP (r:Rd):Bool:=legsOrd r.open_ r.legs&&pzOrd r.open_ r.pauses.length r.end_.lo r.start.lo r.pauses
def checkR (r:Rd):Int:=
 if (!rangedP r)=true then 1 else if (!joinedP r)=true then 3 else if (!orderedP r)=true then 9
 else if (r.open_&&!decide (r.end_=zSpn))=true then 12 else if (!(r.open_==decide (r.wh=3)))=true then 12 else 0
theorem drop_of {α:Type} {l:List α} {k:Nat} {x:α} (h:l[k]?=some x):l.drop k=x::l.drop (k+1):=by
 obtain ⟨h1,h2⟩:=List.getElem?_eq_some_iff.1 h
 rw [List.drop_eq_getElem_cons h1,h2]
theorem drop_empty {α:Type} {l:List α} {k:Nat} (h:k<l.length):(l.drop (k+1)).isEmpty=decide ((k:Int)=(l.length:Int) -1):=by
 rw [Bool.eq_iff_iff,List.isEmpty_iff,decide_eq_true_eq,List.drop_eq_nil_iff]
 omega
end Go.Proofs.Rid
namespace Go.Proofs.Far
open Go.Proofs.Cus Go.Proofs.Rid
def sureW (r:Rd):Wn:=⟨r.start.hi,max r.start.hi r.end_.lo⟩
def sureZ (p:Pz):Wn:=⟨p.from_.hi,max p.from_.hi p.to_.lo⟩
def possZ (p:Pz):Wn:=⟨p.from_.lo,max p.from_.lo p.to_.hi⟩
def ridW (r:Rd):List Wn:=minusP (sureW r) (unionP (r.pauses.map possZ))
def pauW (r:Rd):List Wn:=commonP (sureW r) (unionP (r.pauses.map sureZ))
def ridS (r:Rd):Int:=lenP (ridW r)
def pauS (r:Rd):Int:=lenP (pauW r)
theorem checkR_parts {r:Rd} (h:checkR r=0):spOk r.start=true∧spOk r.end_=true∧(∀p∈r.pauses,pzOk p=true)∧r.legs.length≤512∧r.pauses.length≤512:=by
 unfold checkR at h
 have h1:rangedP r=true:=by
  cases hr:rangedP r with
  |true=>rfl
  |false=>rw [hr] at h;simp at h
 rw [h1] at h
 have h2:joinedP r=true:=by
  cases hr:joinedP r with
  |true=>rfl
  |false=>rw [hr] at h;simp at h
 unfold rangedP headBad at h1
 unfold joinedP numBad at h2
 simp only [Bool.and_eq_true,Bool.not_eq_true',Bool.or_eq_false_iff,decide_eq_false_iff_not,Bool.not_eq_false',List.all_eq_true] at h1 h2
 exact ⟨h1.1.1.2,h1.1.2,h1.2.2,by omega,by omega⟩
theorem spOk_iff {s:Spn}:spOk s=true↔0≤s.lo∧s.lo≤s.hi∧s.hi≤4294943999:=by
 unfold spOk
 simp only [Bool.and_eq_true,decide_eq_true_eq,and_assoc]
theorem sureW_ok {r:Rd} (h:checkR r=0):0≤(sureW r).lo∧(sureW r).lo≤(sureW r).hi∧(sureW r).hi≤4294944000:=by
 obtain ⟨h1,h2,_⟩:=checkR_parts h
 rw [spOk_iff] at h1 h2
 unfold sureW
 simp only
 omega
theorem pz_ok {r:Rd} (h:checkR r=0) {p:Pz} (hp:p∈r.pauses):(0≤p.from_.lo∧p.from_.lo≤p.from_.hi∧p.from_.hi≤4294943999)∧(0≤p.to_.lo∧p.to_.lo≤p.to_.hi∧p.to_.hi≤4294943999):=by
 have:=(checkR_parts h).2.2.1 p hp
 unfold pzOk at this
 simp only [Bool.and_eq_true,spOk_iff] at this
 exact this
theorem sureZ_ok {r:Rd} (h:checkR r=0):WOk (r.pauses.map sureZ):=fun x hx=>by
 obtain ⟨p,hp,rfl⟩:=List.mem_map.1 hx
 have:=pz_ok h hp
 unfold sureZ
 simp only
 omega
theorem possZ_ok {r:Rd} (h:checkR r=0):WOk (r.pauses.map possZ):=fun x hx=>by
 obtain ⟨p,hp,rfl⟩:=List.mem_map.1 hx
 have:=pz_ok h hp
 unfold possZ
 simp only
 omega
theorem ridW_ok {r:Rd} (h:checkR r=0):WOk (ridW r):=minus_WOk (sureW_ok h) (union_WOk (possZ_ok h))
theorem pauW_ok {r:Rd} (h:checkR r=0):WOk (pauW r):=common_WOk (sureW_ok h) (union_WOk (sureZ_ok h))
theorem minusP_len (x:Wn) (Y:List Wn):(minusP x Y).length≤Y.length+1:=by
 unfold minusP one
 split
 ·simp
 ·simp only [List.flatMap_cons,List.flatMap_nil,List.append_nil]
  unfold minus1 mend
  have:=mfold_len (w:=x) Y ([],x.lo)
  simp only [List.length_nil,Nat.zero_add] at this
  split
  ·rw [List.length_append];simp only [List.length_cons,List.length_nil];omega
  ·omega
theorem flat_le (x:Wn): ∀l:List Wn,(l.flatMap (cut1 x)).length≤l.length
 |[]=>by simp
 |a::l=>by
  rw [List.flatMap_cons,List.length_append,List.length_cons]
  have:(cut1 x a).length≤1:=by unfold cut1;split<;>simp
  have:=flat_le x l
  omega
theorem commonP_len (x:Wn) (Y:List Wn):(commonP x Y).length≤Y.length:=by
 unfold commonP one
 split
 ·simp
 ·simp only [List.flatMap_cons,List.flatMap_nil,List.append_nil]
  exact flat_le x Y
theorem ridW_len {r:Rd} (h:checkR r=0):(ridW r).length≤513:=by
 have h1:=minusP_len (sureW r) (unionP (r.pauses.map possZ))
 have h2:=union_len (r.pauses.map possZ)
 have h3:=(checkR_parts h).2.2.2.2
 rw [List.length_map] at h2
 unfold ridW
 omega
theorem pauW_len {r:Rd} (h:checkR r=0):(pauW r).length≤512:=by
 have h1:=commonP_len (sureW r) (unionP (r.pauses.map sureZ))
 have h2:=union_len (r.pauses.map sureZ)
 have h3:=(checkR_parts h).2.2.2.2
 rw [List.length_map] at h2
 unfold pauW
 omega
theorem sum_nf: ∀{l:List Wn},Nf l→WOk l→ ∀a:Int,0≤a→a≤4294944000→(∀w∈l,a≤w.lo)→0≤sumW l∧sumW l≤4294944000 -a
 |[],_,_,a,_,h2,_=>by unfold sumW;simp;omega
 |x::l,hn,hw,a,h1,h2,h3=>by
  have hx:=hw x (by simp)
  have hp:=hn.pos x (by simp)
  have hq:=h3 x (by simp)
  have ih:=sum_nf hn.tail (fun w hw'=>hw w (List.mem_cons_of_mem _ hw')) x.hi (by omega) (by omega) (fun w hw'=>by have:=(List.pairwise_cons.1 hn.apart).1 w hw';omega)
  have:sumW (x::l)=(x.hi -x.lo)+sumW l:=by unfold sumW;simp
  omega
theorem lenP_range {l:List Wn} (h:WOk l):0≤lenP l∧lenP l≤4294944000:=by
 have:=sum_nf (union_nf h.le).1 (union_WOk h) 0 (by omega) (by omega) (fun w hw=>(union_WOk h w hw).1)
 unfold lenP
 omega
theorem ridS_range {r:Rd} (h:checkR r=0):0≤ridS r∧ridS r≤4294944000:=lenP_range (ridW_ok h)
theorem pauS_range {r:Rd} (h:checkR r=0):0≤pauS r∧pauS r≤4294944000:=lenP_range (pauW_ok h)
end Go.Proofs.Far
namespace Go.Proofs.E
open Go Go.RowKit
def kv (a:Int×Int):Value:= .agg #[.int .i64 a.1, .int .i64 a.2]
structure KeyK (P:Program) (kt:TypeId):Prop where
 eq: ∀(a b:Int×Int) (w:World),(Op.equal kt (kv a) (kv b)).run P w= .ok (a==b) w
 chk: ∀(em:Bool) (a:Int×Int) (w:World),(Instr.checkKey em 10000 kt (kv a)).run P w= .ok () w
 fk: ∀(a:Int×Int) (es:List MapEntry) (w:World),(Instr.findKey kt (kv a) es).run P w=(Instr.findAsking kt (kv a) es).run P w
theorem beq_pair (a b:Int×Int):([a.1,a.2]==[b.1,b.2])=(a==b):=by
 obtain ⟨a1,a2⟩:=a
 obtain ⟨b1,b2⟩:=b
 rw [Bool.eq_iff_iff]
 simp
theorem check_int {P:Program} {t:TypeId} {q:IntKind} (h:P.underlying t=some (.int q)) (em:Bool) (x:Int) (n:Nat) (w:World):(Instr.checkKey em (n+1) t (.int .i64 x)).run P w= .ok () w:=by
 rw [Instr.checkKey]
 simp [run_underlying h]
theorem KeyK.struct {P:Program} {t:TypeId} {fs:Array Field} (ht:P.underlying t=some (.struct fs)) (hp:P.stoodInHeld t=false) (hf:intFields P 0 fs.toList) (hn:fs.toList.length=2):KeyK P t where
 eq a b w:=by
  rw [←beq_pair]
  exact run_equal_ints w [a.1,a.2] [b.1,b.2] rfl ht hp hf hn
 chk em a w:=by
  rw [show (10000:Nat)=9999+1 from rfl,Instr.checkKey]
  simp only [Sem.run_bind,run_underlying ht,Result.andThen_ok,kv]
  rw [←Array.forIn_toList]
  have hn':0+fs.toList.length=2:=by omega
  revert hf hn'
  generalize fs.toList=l
  generalize 0=k
  intro hf hn'
  induction l generalizing k with
  |nil=>simp
  |cons f l ih=>
   obtain ⟨h1,h2,h3,⟨q,h4⟩,h5⟩:=hf
   simp only [List.length_cons] at hn'
   obtain ⟨x,hx⟩: ∃x,[a.1,a.2][k]?=some x:=⟨_,List.getElem?_eq_getElem (by show k<2;omega)⟩
   have hpt:(part f.type #[.int .i64 a.1, .int .i64 a.2] k).run P w= .ok (.int .i64 x) w:=run_part_int (l:=[a.1,a.2]) w h3 hx
   simp only [List.forIn_cons,Sem.run_bind,h1,ne_eq,not_false_eq_true,if_true,Result.andThen_ok,h2,hpt,check_int h4 em x 9998 w,Sem.run_pure]
   exact ih (k+1) h5 (by omega)
 fk a es w:=run_findKey_eq w (by rw [ht]) (kv a) es
theorem KeyK.array {P:Program} {t e:TypeId} {i:TypeInfo} {q:IntKind} (ht:P.underlying t=some (.array 2 e)) (he:P.underlying e=some (.int q)) (ha: ∀w,(isAgg e).run P w= .ok false w) (hi:P.info? e=some i) (h1:i.size=1):KeyK P t where
 eq a b w:=by
  have hc:P.cellsOf e=1:=by unfold Program.cellsOf;rw [hi];exact h1
  have e1:(a==b)=((a.1==b.1)&&(a.2==b.2)):=rfl
  show (Op.equalIn 10000 t _ _).run P w=_
  rw [show (10000:Nat)=9998+1+1 from rfl,kv,kv,run_equalIn_array w (9998+1) _ _ ht hi,e1,hc]
  rw [show List.range 2=[0,1] from rfl]
  have pa: ∀(z:Int×Int),(part e #[.int .i64 z.1, .int .i64 z.2] 0).run P w= .ok (.int .i64 z.1) w:=fun z=>run_part_int (l:=[z.1,z.2]) (k:=0) w ha rfl
  have pb: ∀(z:Int×Int),(part e #[.int .i64 z.1, .int .i64 z.2] 1).run P w= .ok (.int .i64 z.2) w:=fun z=>run_part_int (l:=[z.1,z.2]) (k:=1) w ha rfl
  simp only [Op.eqItems,Nat.zero_mul,Nat.mul_one,Sem.run_bind,pa,pb,Result.andThen_ok,run_equalIn_int w 9998 e .i64 q _ _ he,Sem.run_ite]
  cases (a.1==b.1)<;>cases (a.2==b.2)<;>rfl
 chk em a w:=by
  rw [show (10000:Nat)=9999+1 from rfl,Instr.checkKey]
  simp only [Sem.run_bind,run_underlying ht,Result.andThen_ok,kv]
  simp only [Std.Legacy.Range.forIn_eq_forIn_range',Std.Legacy.Range.size,Nat.sub_zero,Nat.add_one_sub_one,Nat.div_one]
  rw [show List.range' 0 2=[0,1] from rfl]
  have pa:(part e #[.int .i64 a.1, .int .i64 a.2] 0).run P w= .ok (.int .i64 a.1) w:=run_part_int (l:=[a.1,a.2]) (k:=0) w ha rfl
  have pb:(part e #[.int .i64 a.1, .int .i64 a.2] 1).run P w= .ok (.int .i64 a.2) w:=run_part_int (l:=[a.1,a.2]) (k:=1) w ha rfl
  have hc:P.cellsOf e=1:=by unfold Program.cellsOf;rw [hi];exact h1
  simp only [List.forIn_cons,List.forIn_nil,Sem.run_bind,run_sizeOf w hi,hc,Nat.mul_one,Nat.zero_mul,Nat.one_mul,Result.andThen_ok,pa,pb,check_int he em _ 9998 w,Sem.run_pure]
 fk a es w:=run_findKey_eq w (by rw [ht]) (kv a) es
def pairK (e:MapEntry) (p:(Int×Int)×Value):Prop:=e.key=kv p.1∧e.val=p.2
inductive PairsK:List MapEntry→List ((Int×Int)×Value)→Prop
 |nil:PairsK [] []
 |cons {e p es ps}:pairK e p→PairsK es ps→PairsK (e::es) (p::ps)
def klook (ps:List ((Int×Int)×Value)) (k:Int×Int):Option Value:=(ps.find? (fun p=>p.1==k)).map (·.2)
def kput (ps:List ((Int×Int)×Value)) (k:Int×Int) (v:Value):List ((Int×Int)×Value):=
 match ps with
 |[]=>[(k,v)]
 |p::r=>if p.1==k then (k,v)::r else p::kput r k v
def KMap (w:World) (b:Nat) (ps:List ((Int×Int)×Value)):Prop:= ∃es clock,w.heap[b]?=some (.map es clock)∧PairsK es.toList ps∧BornOk es.toList clock
def KPend (w:World) (b:Nat) (ps:List ((Int×Int)×Value)) (k:Int×Int) (born:Int):Prop:= ∃es clock,w.heap[b]?=some (.map es clock)∧PairsK es.toList ps∧BornOk es.toList clock∧
 ∃(j:Nat) (e:MapEntry),es.toList[j]?=some e∧(e.born:Int)=born∧ ∀v,PairsK (es.toList.modify j fun e=>{e with val:=v}) (kput ps k v)
def kmap (b:Nat) (ps:List ((Int×Int)×Value)):Item where
 fp:=fun x=>x=b
 A:=fun w=>KMap w b ps
 st:=fun _ _ h hA=>by
  obtain ⟨es,c,h1,h2⟩:=hA
  exact ⟨es,c,(h b rfl).trans h1,h2⟩
def kpend (b:Nat) (ps:List ((Int×Int)×Value)) (k:Int×Int) (born:Int):Item where
 fp:=fun x=>x=b
 A:=fun w=>KPend w b ps k born
 st:=fun _ _ h hA=>by
  obtain ⟨es,c,h1,h2⟩:=hA
  exact ⟨es,c,(h b rfl).trans h1,h2⟩
section
variable {P:Program} {t kt et:TypeId}
theorem ask_pairs (K:KeyK P kt) (k:Int×Int) (w:World): ∀(es:List MapEntry) (ps:List ((Int×Int)×Value)) (i:Nat),PairsK es ps→
  (klook ps k=none∧(Instr.findAsking kt (kv k) es i).run P w= .ok none w∧(∀v,kput ps k v=ps++[(k,v)]))∨
  (∃j v e,klook ps k=some v∧(Instr.findAsking kt (kv k) es i).run P w= .ok (some (i+j,v)) w∧es[j]?=some e∧e.key=kv k∧(∀v,PairsK (es.modify j fun e=>{e with val:=v}) (kput ps k v))∧ ∀v,kput ps k v=ps∨True):=by
 intro es
 induction es with
 |nil=>intro ps i h;cases h;exact .inl ⟨rfl,rfl,fun _=>rfl⟩
 |cons e es ih=>
  intro ps i h
  cases h with
  |cons hp hr=>
   rename_i p ps
   obtain ⟨hk,hv⟩:=hp
   by_cases hkk:p.1=k
   ·refine .inr ⟨0,p.2,e,by simp [klook,hkk],?_,rfl,by rw [hk,hkk],fun v=>?_,fun _=> .inr trivial⟩
    ·have:(k==p.1)=true:=by rw [hkk];exact beq_self_eq_true k
     simp [Instr.findAsking,hk,K.eq,this,hv,Result.andThen]
    ·simp only [kput,hkk,beq_self_eq_true,if_true]
     exact .cons ⟨by show e.key=_;rw [hk,hkk],rfl⟩ hr
   ·have hne:(k==p.1)=false:=beq_eq_false_iff_ne.2 fun e=>hkk e.symm
    have hne2:(p.1==k)=false:=beq_eq_false_iff_ne.2 hkk
    rcases ih ps (i+1) hr with ⟨h1,h2,h3⟩|⟨j,v,e',h1,h2,h3,h4,h5,_⟩
    ·refine .inl ⟨by simpa [klook,hne2] using h1,?_,fun v=>by simp [kput,hne2,h3]⟩
     simp [Instr.findAsking,hk,K.eq,hne,h2,Result.andThen]
    ·refine .inr ⟨j+1,v,e',by simpa [klook,hne2] using h1,?_,by simpa using h3,h4,fun v=>?_,fun _=> .inr trivial⟩
     ·simp [Instr.findAsking,hk,K.eq,hne,h2,Result.andThen]
      omega
     ·simp only [kput,hne2,Bool.false_eq_true,if_false,List.modify_succ_cons]
      exact .cons ⟨hk,hv⟩ (h5 v)
theorem run_lookup_kmap {w:World} {b:Nat} {ps:List ((Int×Int)×Value)} {z:Value} (K:KeyK P kt) (ht:P.underlying t=some (.map kt et)) (hz: ∀w,(zeroValue et).run P w= .ok z w) (h:KMap w b ps) (k:Int×Int):
  (Instr.lookup t (.map (some b)) (kv k) false).run P w= .ok ((klook ps k).getD z) w:=by
 obtain ⟨es,c,h1,h2,_⟩:=h
 rcases ask_pairs K k w es.toList ps 0 h2 with ⟨ha,hb,_⟩|⟨j,v,e,ha,hb,_⟩
 ·simp [Instr.lookup,run_underlying ht,MapKept.run_getObj_map h1,K.chk,K.fk,hb,ha,hz,Result.andThen]
 ·simp [Instr.lookup,run_underlying ht,MapKept.run_getObj_map h1,K.chk,K.fk,hb,ha,Result.andThen]
theorem pairsK_push {es:List MapEntry} {ps:List ((Int×Int)×Value)} (h:PairsK es ps) {e:MapEntry} {p:(Int×Int)×Value} (he:pairK e p):PairsK (es++[e]) (ps++[p]):=by
 induction h with
 |nil=>exact .cons he .nil
 |cons h1 _ ih=>exact .cons h1 ih
theorem same_pair (a:Int×Int):Instr.sameBits 10000 (kv a) (kv a)=true:=by
 rw [show (10000:Nat)=9999+1 from rfl,kv,Instr.sameBits]
 simp [Instr.sameBits]
theorem modify_id {es:List MapEntry} {j:Nat} {e:MapEntry} {k:Value} (h:es[j]?=some e) (hk:e.key=k):(es.modify j fun e=>{e with key:=k})=es:=by
 apply List.ext_getElem?
 intro i
 rw [List.getElem?_modify]
 by_cases hi:j=i
 ·subst hi
  rw [h]
  obtain ⟨a,b,c⟩:=e
  simp only at hk
  subst hk
  simp
 ·cases es[i]?<;>simp [hi]
theorem run_entry_kmap {w:World} {b:Nat} {ps:List ((Int×Int)×Value)} {z:Value} (K:KeyK P kt) (ht:P.underlying t=some (.map kt et)) (hz: ∀w,(zeroValue et).run P w= .ok z w) (h:KMap w b ps) (k:Int×Int):
  ∃(born:Int) (ps':List ((Int×Int)×Value)) (w':World),(Instr.mapEntry t (.map (some b)) (kv k)).run P w= .ok (.tuple #[(klook ps k).getD z, .int .i64 born]) w'∧KPend w' b ps' k born∧(∀v,kput ps' k v=kput ps k v)∧(klook ps' k).getD z=(klook ps k).getD z∧w.grownBy w' (some b)∧w'.heap.size=w.heap.size∧w.drawn≤w'.drawn:=by
 obtain ⟨es,c,h1,h2,h3⟩:=h
 have hlt:b<w.heap.size:=(Array.getElem?_eq_some_iff.1 h1).1
 have hg: ∀o:Obj,w.grownBy {w with heap:=w.heap.setIfInBounds b o} (some b):=fun o=>⟨rfl,rfl,rfl,by simp,fun i _ hi=>by
  have hne:b≠i:=fun e=>hi (by rw [e])
  exact Array.getElem?_setIfInBounds_ne hne⟩
 rcases ask_pairs K k w es.toList ps 0 h2 with ⟨ha,hb,hput⟩|⟨j,v,e,ha,hb,he,hek,hm,_⟩
 ·refine ⟨c,ps++[(k,z)],{w with heap:=w.heap.setIfInBounds b (.map (es.push {key:=kv k,val:=z,born:=c}) (c+1))},?_,⟨_,_,Array.getElem?_setIfInBounds_self_of_lt hlt,?_,by simpa using h3.push rfl,es.size,{key:=kv k,val:=z,born:=c},by simp,rfl,fun v=>?_⟩,fun v=>?_,?_,hg _,by simp,Nat.le_refl _⟩
  ·simp [Instr.mapEntry,run_underlying ht,MapKept.run_getObj_map h1,K.chk,K.fk,hb,ha,hz,Result.andThen,MapKept.run_setObj_map _ h1,goInt]
  ·simpa using pairsK_push h2 (e:={key:=kv k,val:=z,born:=c}) (p:=(k,z)) ⟨rfl,rfl⟩
  ·have hkp:kput (ps++[(k,z)]) k v=ps++[(k,v)]:=by
    have: ∀ps:List ((Int×Int)×Value),klook ps k=none→kput (ps++[(k,z)]) k v=ps++[(k,v)]:=by
     intro ps
     induction ps with
     |nil=>intro _;simp [kput]
     |cons p ps ih=>
      intro h
      by_cases hp:p.1=k
      ·simp [klook,hp] at h
      ·have hne:(p.1==k)=false:=beq_eq_false_iff_ne.2 hp
       simp only [klook,List.find?_cons,hne] at h
       simp only [List.cons_append,kput,hne,Bool.false_eq_true,if_false]
       rw [ih h]
    exact this ps ha
   rw [hkp]
   have hl:es.size=es.toList.length:=by simp
   simp only [Array.toList_push]
   rw [hl]
   have:(es.toList++[({key:=kv k,val:=z,born:=c}:MapEntry)]).modify es.toList.length (fun e=>{e with val:=v})=es.toList++[{key:=kv k,val:=v,born:=c}]:=by
    apply List.ext_getElem?
    intro q
    rw [List.getElem?_modify]
    by_cases hq:es.toList.length=q
    ·subst hq;simp
    ·by_cases hq2:q<es.toList.length
     ·rw [List.getElem?_append_left hq2,List.getElem?_append_left hq2]
      have hq3: ¬es.size=q:=fun h=>hq (by simpa using h)
      cases es.toList[q]?<;>simp [hq3]
     ·rw [List.getElem?_append_right (by omega),List.getElem?_append_right (by omega),List.getElem?_eq_none (by simp;omega),List.getElem?_eq_none (by simp;omega)];rfl
   rw [this]
   exact pairsK_push h2 ⟨rfl,rfl⟩
  ·have: ∀ps:List ((Int×Int)×Value),klook ps k=none→kput (ps++[(k,z)]) k v=kput ps k v:=by
    intro ps
    induction ps with
    |nil=>intro _;simp [kput]
    |cons p ps ih=>
     intro h
     by_cases hp:p.1=k
     ·simp [klook,hp] at h
     ·have hne:(p.1==k)=false:=beq_eq_false_iff_ne.2 hp
      simp only [klook,List.find?_cons,hne] at h
      simp only [List.cons_append,kput,hne,Bool.false_eq_true,if_false]
      rw [ih h]
   exact this ps ha
  ·rw [ha]
   have: ∀ps:List ((Int×Int)×Value),klook ps k=none→klook (ps++[(k,z)]) k=some z:=by
    intro ps
    induction ps with
    |nil=>intro _;simp [klook]
    |cons p ps ih=>
     intro h
     by_cases hp:p.1=k
     ·simp [klook,hp] at h
     ·have hne:(p.1==k)=false:=beq_eq_false_iff_ne.2 hp
      simp only [klook,List.cons_append,List.find?_cons,hne] at h ih⊢
      exact ih h
   rw [this ps ha];rfl
 ·rw [Nat.zero_add] at hb
  have hej:es[j]?=some e:=by simpa using he
  have hmid:(es.modify j fun e=>{e with key:=kv k})=es:=by
   apply Array.ext'
   simpa using modify_id he hek
  have hsame:w.heap.setIfInBounds b (.map es c)=w.heap:=by
   apply Array.ext_getElem?
   intro q
   by_cases hq:b=q
   ·subst hq;rw [Array.getElem?_setIfInBounds_self_of_lt hlt,h1]
   ·rw [Array.getElem?_setIfInBounds_ne hq]
  refine ⟨e.born,ps,{w with heap:=w.heap.setIfInBounds b (.map es c)},?_,⟨es,c,Array.getElem?_setIfInBounds_self_of_lt hlt,h2,h3,j,e,he,rfl,hm⟩,fun _=>rfl,rfl,hg _,by simp,Nat.le_refl _⟩
  simp [Instr.mapEntry,run_underlying ht,MapKept.run_getObj_map h1,K.chk,K.fk,hb,ha,Result.andThen,hej,hek,Instr.keyThatStays,same_pair,MapKept.run_setObj_map _ h1,hmid,goInt]
theorem run_store_kpend {w:World} {b:Nat} {ps:List ((Int×Int)×Value)} {k:Int×Int} {born:Int} (h:KPend w b ps k born) (v:Value):
  ∃w',(Instr.entryStore t (.map (some b)) (.int .i64 born) v).run P w= .ok () w'∧KMap w' b (kput ps k v)∧w.grownBy w' (some b)∧w'.heap.size=w.heap.size∧w.drawn≤w'.drawn:=by
 obtain ⟨es,c,h1,h2,h3,j,e,he,hb,hm⟩:=h
 have hlt:b<w.heap.size:=(Array.getElem?_eq_some_iff.1 h1).1
 have hg: ∀o:Obj,w.grownBy {w with heap:=w.heap.setIfInBounds b o} (some b):=fun o=>⟨rfl,rfl,rfl,by simp,fun i _ hi=>by
  have hne:b≠i:=fun e=>hi (by rw [e])
  exact Array.getElem?_setIfInBounds_ne hne⟩
 have hj:j<es.size:=by
  have:=(List.getElem?_eq_some_iff.1 he).1
  simpa using this
 have hje:es[j]=e:=by
  have:=(List.getElem?_eq_some_iff.1 he).2
  simpa using this
 have hfind:es.findIdx? (fun x=>(x.born:Int)==born)=some j:=by
  rw [Array.findIdx?_eq_some_iff_getElem]
  refine ⟨hj,by rw [hje,hb];simp,fun i hi=>?_⟩
  have hij:i<es.size:=by omega
  have:=List.pairwise_iff_getElem.1 h3.asc i j (by simpa using hij) (by simpa using hj) hi
  simp only [Array.getElem_toList] at this
  rw [hje] at this
  have hne:(es[i].born:Int)≠born:=by rw [←hb];omega
  simp [hne]
 refine ⟨{w with heap:=w.heap.setIfInBounds b (.map (es.modify j fun e=>{e with val:=v}) c)},?_,⟨_,_,Array.getElem?_setIfInBounds_self_of_lt hlt,by simpa using hm v,by simpa using h3.modify (j:=j) (g:=fun e=>{e with val:=v}) (fun _=>rfl)⟩,hg _,by simp,Nat.le_refl _⟩
 simp [Instr.entryStore,MapKept.run_getObj_map h1,asInt,asIntOf,hfind,MapKept.run_setObj_map _ h1,Result.andThen]
end
section
variable {c:Cx} {w0:World} {L:List Item} {f:Fr} {K:List Item→Fr→Prop} {d:Nat} {ty:TypeId} {pos:String} {af:Array Edge} {g:Bool} {x y z:Operand} {t kt et:TypeId}
theorem f_makeK (hd:Nat.blt d c.N=true) (next: ∀b,K (kmap b []::L) (upd f d (.map (some b)))):Eff c w0 L f ⟨some d, .makeMap t none,ty,pos,af,none⟩ K:=
 ⟨rfl,rfl,hd,fun w hw=>by
  have:(execOp (ev f) ⟨some d, .makeMap t none,ty,pos,af,none⟩).run c.P w= .ok (.value (.map (some w.heap.size))) (w.alloc (.map #[] 0)):=by simp [execOp,run_makeMap,Result.andThen]
  rw [this]
  exact ⟨_,hw.new _ (kmap w.heap.size []) (fun _ h=>h) ⟨#[],0,(MapKept.heap_alloc w _).1, .nil,⟨by simp,by simp⟩⟩,rfl,next _⟩⟩
theorem e_lookK (k:Nat) {b:Nat} {ps:List ((Int×Int)×Value)} {key:Int×Int} {v u:Value} (hK:KeyK c.P kt) (ht:c.P.underlying t=some (.map kt et)) (hz: ∀w,(zeroValue et).run c.P w= .ok v w) (hx:OpV g f x (.map (some b))) (hy:OpV g f y (kv key))
  (hk:L[k]?=some (kmap b ps)) (hu:g=true→(klook ps key).getD v=u):EvG g c w0 L f (.lookup t x y false) ty u:=fun e _ _ _ _ w hw=>by
 have hA:KMap w b ps:=hw.item hk
 simp [execOp,hx e,hy e,run_lookup_kmap hK ht hz hA key,Result.andThen,hu e]
theorem e_lookKP (k:Nat) {b:Nat} {ps:List ((Int×Int)×Value)} {key kk:Int×Int} {born:Int} {v u:Value} (hK:KeyK c.P kt) (ht:c.P.underlying t=some (.map kt et)) (hz: ∀w,(zeroValue et).run c.P w= .ok v w) (hx:OpV g f x (.map (some b))) (hy:OpV g f y (kv key))
  (hk:L[k]?=some (kpend b ps kk born)) (hu:g=true→(klook ps key).getD v=u):EvG g c w0 L f (.lookup t x y false) ty u:=fun e _ _ _ _ w hw=>by
 obtain ⟨es,cl,h1,h2,h3,_⟩:KPend w b ps kk born:=hw.item hk
 simp [execOp,hx e,hy e,run_lookup_kmap hK ht hz ⟨es,cl,h1,h2,h3⟩ key,Result.andThen,hu e]
theorem f_entryK (k:Nat) {b:Nat} {ps:List ((Int×Int)×Value)} {key:Int×Int} {v:Value} (hK:KeyK c.P kt) (ht:c.P.underlying t=some (.map kt et)) (hz: ∀w,(zeroValue et).run c.P w= .ok v w) (hx:ev f x= .map (some b)) (hy:ev f y=kv key)
  (hk:L[k]?=some (kmap b ps)) (hd:Nat.blt d c.N=true) (next: ∀(born:Int) (ps':List ((Int×Int)×Value)),(∀v,kput ps' key v=kput ps key v)→(klook ps' key).getD v=(klook ps key).getD v→K (L.set k (kpend b ps' key born)) (upd f d (.tuple #[(klook ps key).getD v, .int .i64 born]))):
  Eff c w0 L f ⟨some d, .mapEntry t x y,ty,pos,af,none⟩ K:=
 ⟨rfl,rfl,hd,fun w hw=>by
  have hA:KMap w b ps:=hw.item hk
  obtain ⟨born,ps',w',hrun,h1,hps,hpz,h2,h3,h4⟩:=run_entry_kmap hK ht hz hA key
  have:(execOp (ev f) ⟨some d, .mapEntry t x y,ty,pos,af,none⟩).run c.P w= .ok (.value (.tuple #[(klook ps key).getD v, .int .i64 born])) w':=by simp [execOp,hx,hy,hrun,Result.andThen]
  rw [this]
  refine ⟨_,hw.set (it':=kpend b ps' key born) hk (fun _ h=>h) h1 ⟨h2.os,h2.tape,h2.output,h3,h4⟩ (fun b' hb'=>?_),marks_set hk rfl,next born ps' hps hpz⟩
  by_cases hlt:b'<w.heap.size
  ·exact h2.block b' hlt (fun e=>hb' (by injection e))
  ·rw [Array.getElem?_eq_none (by omega),Array.getElem?_eq_none (by omega)]⟩
theorem f_storeK (k:Nat) {b:Nat} {ps ps0:List ((Int×Int)×Value)} {key:Int×Int} {born:Int} {v:Value} (hx:ev f x= .map (some b)) (hy:ev f y= .int .i64 born) (hz:ev f z=v)
  (hk:L[k]?=some (kpend b ps key born)) (hps: ∀v,kput ps key v=kput ps0 key v) (next:K (L.set k (kmap b (kput ps0 key v))) f):
  Eff c w0 L f ⟨none, .entryStore t x y z,ty,pos,af,none⟩ K:=
 ⟨rfl,rfl,rfl,fun w hw=>by
  have hA:KPend w b ps key born:=hw.item hk
  obtain ⟨w',hrun,h1,h2,h3,h4⟩:=run_store_kpend (P:=c.P) (t:=t) hA v
  have:(execOp (ev f) ⟨none, .entryStore t x y z,ty,pos,af,none⟩).run c.P w= .ok .skip w':=by simp [execOp,hx,hy,hz,hrun,Result.andThen]
  rw [this]
  rw [hps] at h1
  refine ⟨_,hw.set (it':=kmap b (kput ps0 key v)) hk (fun _ h=>h) h1 ⟨h2.os,h2.tape,h2.output,h3,h4⟩ (fun b' hb'=>?_),marks_set hk rfl,next⟩
  by_cases hlt:b'<w.heap.size
  ·exact h2.block b' hlt (fun e=>hb' (by injection e))
  ·rw [Array.getElem?_eq_none (by omega),Array.getElem?_eq_none (by omega)]⟩
end
end Go.Proofs.E
namespace Go.Proofs.Far
open Go Go.Proofs.E
def condP (l:List Pas) (used:List (Int×Int)) (q:Rq) (k:Nat):Bool:=validP (l.getD k default) q&&decide ((paidN used k q.day:Int)<(l.getD k default).perDay)
theorem pick_none {l:List Pas} {used:List (Int×Int)} {q:Rq} (h: ∀k,k<l.length→condP l used q k=false):pickP l used q= -1:=by
 unfold pickP
 have:(List.range l.length).find? (fun k=>validP (l.getD k default) q&&decide ((paidN used k q.day:Int)<(l.getD k default).perDay))=none:=by
  rw [List.find?_eq_none]
  intro k hk
  have:=h k (List.mem_range.1 hk)
  unfold condP at this
  rw [this];decide
 rw [this]
theorem pick_at {l:List Pas} {used:List (Int×Int)} {q:Rq} {j:Nat} (hj:j<l.length) (h:condP l used q j=true) (hb: ∀k,k<j→condP l used q k=false):pickP l used q=j:=by
 unfold pickP
 have:(List.range l.length).find? (fun k=>validP (l.getD k default) q&&decide ((paidN used k q.day:Int)<(l.getD k default).perDay))=some j:=by
  rw [List.find?_range_eq_some]
  refine ⟨h,List.mem_range.2 hj,fun i hi=>?_⟩
  have:=hb i hi
  unfold condP at this
  rw [this];rfl
 rw [this]
def firstV (l:List Pas) (q:Rq):Int:=match (List.range l.length).find? fun k=>validP (l.getD k default) q with|some k=>(k:Int)|none=> -1
theorem firstV_cases (l:List Pas) (q:Rq):(firstV l q= -1∧ ∀k,k<l.length→validP (l.getD k default) q=false)∨ ∃j,j<l.length∧firstV l q=(j:Int)∧ ∀k,k<j→validP (l.getD k default) q=false:=by
 unfold firstV
 cases h:(List.range l.length).find? fun k=>validP (l.getD k default) q with
 |none=>
  left
  refine ⟨rfl,fun k hk=>?_⟩
  rw [List.find?_eq_none] at h
  simpa using h k (List.mem_range.2 hk)
 |some j=>
  right
  rw [List.find?_range_eq_some] at h
  refine ⟨j,List.mem_range.1 h.2.1,rfl,fun k hk=>?_⟩
  simpa using h.2.2 k hk
theorem cond_invalid {l:List Pas} {used:List (Int×Int)} {q:Rq} {k:Nat} (h:validP (l.getD k default) q=false):condP l used q k=false:=by
 unfold condP;rw [h];rfl
theorem klook_put (ps:List ((Int×Int)×Value)) (k k':Int×Int) (v:Value):klook (kput ps k v) k'=if k=k' then some v else klook ps k':=by
 induction ps with
 |nil=>
  by_cases h:k=k'
  ·simp [kput,klook,h]
  ·have:(k==k')=false:=beq_eq_false_iff_ne.2 h
   simp [kput,klook,this,h]
 |cons p ps ih=>
  by_cases hp:p.1=k
  ·by_cases h:k=k'
   ·simp [kput,klook,hp,h]
   ·have h1:(k==k')=false:=beq_eq_false_iff_ne.2 h
    have h2:(p.1==k')=false:=by rw [hp];exact h1
    simp [kput,klook,hp,h1,h]
  ·have h0:(p.1==k)=false:=beq_eq_false_iff_ne.2 hp
   simp only [kput,h0,Bool.false_eq_true,if_false]
   by_cases h3:p.1=k'
   ·have h4: ¬k=k':=fun h=>hp (by rw [h3,h])
    simp [klook,h3,h4]
   ·have h5:(p.1==k')=false:=beq_eq_false_iff_ne.2 h3
    simp only [klook,List.find?_cons,h5] at ih⊢
    exact ih
def MP (ps:List ((Int×Int)×Value)) (used:List (Int×Int)):Prop:= ∀k d:Int,(klook ps (k,d)).getD (.int .i64 0)= .int .i64 (paidN used k d:Nat)
theorem MP.nil:MP [] []:=fun _ _=>rfl
theorem MP.put {ps:List ((Int×Int)×Value)} {used:List (Int×Int)} (h:MP ps used) (k d:Int):MP (kput ps (k,d) (.int .i64 ((paidN used k d:Nat)+1))) (used++[(k,d)]):=fun a b=>by
 rw [klook_put]
 unfold paidN
 rw [List.countP_append]
 by_cases he:(k,d)=(a,b)
 ·rw [if_pos he]
  cases he
  simp [paidN]
 ·rw [if_neg he,h a b]
  have:(k==a&&d==b)=false:=by
   cases h1:(k==a&&d==b) with
   |false=>rfl
   |true=>
    simp only [Bool.and_eq_true,beq_iff_eq] at h1
    exact absurd (by rw [h1.1,h1.2]) he
  simp [paidN,this]
theorem paidN_le (used:List (Int×Int)) (k d:Int):paidN used k d≤used.length:=List.countP_le_length
theorem useS_snd: ∀(l:List Pas) (qs:List Rq) (s:List Int×List (Int×Int)),(qs.foldl (useStep l) s).2.length≤s.2.length+qs.length
 |_,[],s=>by simp
 |l,q::qs,s=>by
  rw [List.foldl_cons]
  have h1:=useS_snd l qs (useStep l s q)
  have h2:(useStep l s q).2.length≤s.2.length+1:=by
   unfold useStep
   simp only
   split
   ·simp
   ·omega
  rw [List.length_cons]
  omega
def US (l:List Pas) (qs:List Rq) (k:Nat):List Int×List (Int×Int):=useS l (qs.take k)
theorem US_succ {l:List Pas} {qs:List Rq} {k:Nat} {q:Rq} (h:qs[k]?=some q):US l qs (k+1)=useStep l (US l qs k) q:=by
 unfold US useS
 rw [List.take_add_one,h,List.foldl_append];rfl
theorem US_fst {l:List Pas} {qs:List Rq} {k:Nat} (h:k≤qs.length):(US l qs k).1.length=k:=by
 unfold US useS
 have h2:((qs.take k).foldl (useStep l) ([],[])).1.length=0+(qs.take k).length:=useS_fst l (qs.take k) ([],[])
 rw [List.length_take] at h2
 omega
theorem US_snd (l:List Pas) (qs:List Rq) (k:Nat):(US l qs k).2.length≤k:=by
 unfold US useS
 have h:((qs.take k).foldl (useStep l) ([],[])).2.length≤0+(qs.take k).length:=useS_snd l (qs.take k) ([],[])
 rw [List.length_take] at h
 omega
def OU (l:List Pas) (qs:List Rq) (k:Nat):List Int:=(US l qs k).1++List.replicate (qs.length -k) 0
theorem OU_len {l:List Pas} {qs:List Rq} {k:Nat} (h:k≤qs.length):(OU l qs k).length=qs.length:=by
 unfold OU
 rw [List.length_append,US_fst h,List.length_replicate]
 omega
theorem OU_get {l:List Pas} {qs:List Rq} {k:Nat} (h:k<qs.length):(OU l qs k)[k]?=some 0:=by
 unfold OU
 rw [List.getElem?_append_right (by rw [US_fst (by omega)];exact Nat.le_refl _),US_fst (by omega),Nat.sub_self,List.getElem?_replicate,if_pos (by omega)]
theorem OU_set {l:List Pas} {qs:List Rq} {k:Nat} {q:Rq} (h:k<qs.length) (hq:qs[k]?=some q):(OU l qs k).set k (pickP l (US l qs k).2 q)=OU l qs (k+1):=by
 unfold OU
 rw [US_succ hq,List.set_append_right _ _ (by rw [US_fst (by omega)];exact Nat.le_refl _),US_fst (by omega),Nat.sub_self]
 obtain ⟨m,hm⟩: ∃m,qs.length -k=m+1:=⟨qs.length -k -1,by omega⟩
 rw [hm,List.replicate_succ,List.set_cons_zero,show qs.length -(k+1)=m by omega]
 unfold useStep
 simp
theorem set_set_same {l:List Int} {k:Nat} (a b:Int):(l.set k a).set k b=l.set k b:=by rw [List.set_set]
end Go.Proofs.Far
namespace Go.Proofs.Far
open Go Go.Proofs.E
def dayStep (limit:Int) (l:List (Dy×Int)) (x:Dy):List (Dy×Int):=l++[(x,payD limit l x)]
def DS (limit:Int) (xs:List Dy) (k:Nat):List (Dy×Int):=(xs.take k).foldl (dayStep limit) []
theorem DS_succ {limit:Int} {xs:List Dy} {k:Nat} {x:Dy} (h:xs[k]?=some x):DS limit xs (k+1)=DS limit xs k++[(x,payD limit (DS limit xs k) x)]:=by
 unfold DS
 rw [List.take_add_one,h,List.foldl_append];rfl
theorem DS_len (limit:Int) (xs:List Dy): ∀k,k≤xs.length→(DS limit xs k).length=k
 |0,_=>rfl
 |k+1,h=>by
  obtain ⟨x,hx⟩: ∃x,xs[k]?=some x:=⟨_,List.getElem?_eq_getElem (by omega)⟩
  rw [DS_succ hx,List.length_append,DS_len limit xs k (by omega)];rfl
theorem sumD_snoc (l:List (Dy×Int)) (x:Dy) (p r d:Int):sumD (l++[(x,p)]) r d=sumD l r d+if x.rider=r∧x.day=d then p else 0:=by
 unfold sumD
 rw [List.filter_append,List.map_append,List.sum_append]
 by_cases h:x.rider=r∧x.day=d
 ·rw [if_pos h]
  have:(x.rider==r&&x.day==d)=true:=by simp [h]
  simp [this]
 ·rw [if_neg h]
  have:(x.rider==r&&x.day==d)=false:=by
   cases hb:(x.rider==r&&x.day==d) with
   |false=>rfl
   |true=>simp at hb;exact absurd hb h
  simp [this]
structure DOk (limit:Int) (l:List (Dy×Int)):Prop where
 pay: ∀y∈l,0≤y.2∧y.2≤y.1.amount
 most:0<limit→ ∀r d,sumD l r d≤limit
 sum: ∀r d,0≤sumD l r d∧sumD l r d≤1000000000000*(l.length:Int)
theorem DOk.nil {limit:Int} (h:0≤limit):DOk limit []:=⟨fun y hy=>(by cases hy),fun _ r d=>by unfold sumD;simpa using h,fun r d=>by unfold sumD;simp⟩
theorem payD_range {limit:Int} {l:List (Dy×Int)} (h:DOk limit l) {x:Dy} (hx:0≤x.amount∧x.amount≤1000000000000):0≤payD limit l x∧payD limit l x≤x.amount∧(0<limit→payD limit l x≤limit -sumD l x.rider x.day):=by
 unfold payD
 by_cases hl:0<limit
 ·rw [if_pos hl]
  have:=h.most hl x.rider x.day
  omega
 ·rw [if_neg hl];omega
theorem DOk.step {limit:Int} {l:List (Dy×Int)} (h:DOk limit l) {x:Dy} (hx:0≤x.amount∧x.amount≤1000000000000):DOk limit (l++[(x,payD limit l x)]):=by
 obtain ⟨h1,h2,h3⟩:=payD_range h hx
 refine ⟨fun y hy=>?_,fun hl r d=>?_,fun r d=>?_⟩
 ·rcases List.mem_append.1 hy with hy|hy
  ·exact h.pay y hy
  ·simp at hy;subst hy;exact ⟨h1,h2⟩
 ·rw [sumD_snoc]
  split
  ·rename_i hb
   obtain ⟨rfl,rfl⟩:=hb
   have:=h3 hl
   omega
  ·have:=h.most hl r d;omega
 ·rw [sumD_snoc,List.length_append]
  have:=h.sum r d
  simp only [List.length_cons,List.length_nil]
  split<;>omega
theorem DS_ok {limit:Int} {xs:List Dy} (hl:0≤limit) (hx: ∀x∈xs,0≤x.amount∧x.amount≤1000000000000): ∀k,k≤xs.length→DOk limit (DS limit xs k)
 |0,_=>DOk.nil hl
 |k+1,h=>by
  obtain ⟨x,hxk⟩: ∃x,xs[k]?=some x:=⟨_,List.getElem?_eq_getElem (by omega)⟩
  rw [DS_succ hxk]
  exact (DS_ok hl hx k (by omega)).step (hx x (List.mem_of_getElem? hxk))
def DP (ps:List ((Int×Int)×Value)) (l:List (Dy×Int)):Prop:= ∀r d:Int,(klook ps (r,d)).getD (.int .i64 0)= .int .i64 (sumD l r d)
theorem DP.nil:DP [] []:=fun _ _=>rfl
theorem DP.put {ps:List ((Int×Int)×Value)} {l:List (Dy×Int)} (h:DP ps l) (x:Dy) (p:Int):DP (kput ps (x.rider,x.day) (.int .i64 (sumD l x.rider x.day+p))) (l++[(x,p)]):=fun r d=>by
 rw [klook_put,sumD_snoc]
 by_cases he:(x.rider,x.day)=(r,d)
 ·rw [if_pos he]
  cases he
  simp
 ·rw [if_neg he,h r d,if_neg (fun hh=>he (by rw [hh.1,hh.2])),Int.add_zero]
end Go.Proofs.Far
