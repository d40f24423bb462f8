import Derived.Test.YtakhechhnnjbcaaGreatBN11
import Derived.Test.YtakhechhnnjbcaaGreatBN08
import Derived.Test.YtakhechhnnjbcaaGreatBN04
import Derived.Test.YtakhechhnnjbcaaGreatTy
set_option maxRecDepth 100000
set_option maxHeartbeats 8000000
set_option linter.unusedVariables false
set_option linter.unusedSimpArgs false
namespace Go.Proofs.Cus
open Go Go.RowKit Go.Proofs.E
theorem plain_erase (ps:List (Int×Nat×PT)) (r:Int):(ps.eraseP fun p=>p.1==r).map (fun p=>(p.1,p.2.2))=(ps.map fun p=>(p.1,p.2.2)).eraseP fun p=>p.1==r:=by
 induction ps with
 |nil=>rfl
 |cons p ps ih=>
  by_cases h:p.1==r
  ·simp [h]
  ·simp only [List.map_cons]
   rw [List.eraseP_cons_of_neg (by simpa using h),List.eraseP_cons_of_neg (by simpa using h),List.map_cons,ih]
theorem leaveT_plain (t:TS) (k:Nat) (to:Sp):(leaveT t k to).plain=leaveP t.plain k to:=by
 unfold leaveT leaveP TS.plain TS.open_
 simp only
 congr 1
 split
 ·exact plain_erase _ _
 ·rfl
theorem set_plain {ps:List (Int×Nat×PT)} (hn:((ps.map fun p=>(p.1,p.2.2)).map (·.1)).Nodup) {q:Nat} {p:Int×Nat×PT} (hq:ps[q]?=some p) (v:PT):(ps.set q (p.1,p.2.1,v)).map (fun p=>(p.1,p.2.2))=setTrip (ps.map fun p=>(p.1,p.2.2)) p.1 v:=by
 obtain ⟨hql,hqe⟩:=List.getElem?_eq_some_iff.1 hq
 apply List.ext_getElem?
 intro i
 unfold setTrip
 rw [List.map_set,List.getElem?_set]
 simp only [List.length_map,List.getElem?_map,Option.map_map]
 by_cases e:q=i
 ·subst e
  simp [hql,hqe]
 ·simp only [e,if_false]
  cases hi:ps[i]? with
  |none=>rfl
  |some r=>
   obtain ⟨hil,hie⟩:=List.getElem?_eq_some_iff.1 hi
   simp only [Option.map_some,Function.comp,Option.some.injEq]
   rw [if_neg (fun h=>e ?_)]
   have h1:r.1=p.1:=by simpa using h
   have:=List.pairwise_iff_getElem.1 hn
   rcases Nat.lt_trichotomy q i with h2|h2|h2
   ·exact absurd (by simp [hqe,hie,h1]) (this q i (by simpa using hql) (by simpa using hil) h2)
   ·exact h2
   ·exact absurd (by simp [hqe,hie,h1]) (this i q (by simpa using hil) (by simpa using hql) h2)
theorem used_put (l:List Int) (id:Int):mput (usedPairs l) id (.bool true)=usedPairs (usePut l id):=by
 have key: ∀l:List Int,mput (usedPairs l) id (.bool true)=usedPairs (if id∈l then l else l++[id]):=by
  intro l
  induction l with
  |nil=>rfl
  |cons x l ih=>
   by_cases hx:x=id
   ·subst hx
    simp [usedPairs,mput]
   ·have hx': ¬id=x:=fun e=>hx e.symm
    simp only [usedPairs,List.map_cons,mput] at ih⊢
    rw [if_neg (by simpa using hx),ih]
    by_cases hm:id∈l
    ·simp [hm]
    ·simp [hm,hx']
 rw [key]
 unfold usePut
 by_cases hm:id∈l
 ·rw [if_pos hm,if_pos (usedP_mem.2 hm)]
 ·rw [if_neg hm,if_neg (fun h=>hm (usedP_mem.1 h))]
theorem look_get {t:TS} {id:Int} {v:PT} (h:lookP t.plain.open_ id=some v): ∃(q:Nat) (p:Int×Nat×PT),t.ps[q]?=some p∧t.ps.find? (fun y=>y.1==id)=some p∧p.1=id∧p.2.2=v:=by
 have h':lookP (TS.mk t.spots t.ps t.used).open_ id=some v:=h
 rw [look_plain] at h'
 cases hf:t.ps.find? (fun p=>p.1==id) with
 |none=>rw [hf] at h';cases h'
 |some p=>
  rw [hf] at h'
  simp only [Option.map_some,Option.some.injEq] at h'
  obtain ⟨q,hq⟩:=List.mem_iff_getElem?.1 (List.mem_of_find?_eq_some hf)
  exact ⟨q,p,hq,rfl,by simpa using List.find?_some hf,h'⟩
theorem dok_leave {s:PS} {e:Ev} {k:Nat} (hk:e.bike=k):(e.kind=1→doP s e=leaveP s k ⟨1,e.place,0,false⟩)∧(e.kind=2→doP s e=leaveP s k ⟨2,e.place,0,false⟩)∧(e.kind=7→doP s e=leaveP s k ⟨4,e.place,0,false⟩)∧(e.kind=8→doP s e=leaveP s k ⟨5,0,0,false⟩)∧(e.kind=9→doP s e=leaveP s k ⟨6,0,0,false⟩)∧((e.kind<1∨9<e.kind)→doP s e=s):=by
 have hkt:e.bike.toNat=k:=by omega
 refine ⟨fun h=>?_,fun h=>?_,fun h=>?_,fun h=>?_,fun h=>?_,fun h=>?_⟩<;>unfold doP<;>simp only [hkt]
 ·rw [if_pos h]
 ·rw [if_neg (by omega),if_pos h]
 ·rw [if_neg (by omega),if_neg (by omega),if_neg (by omega),if_neg (by omega),if_neg (by omega),if_pos h]
 ·rw [if_neg (by omega),if_neg (by omega),if_neg (by omega),if_neg (by omega),if_neg (by omega),if_neg (by omega),if_pos h]
 ·rw [if_neg (by omega),if_neg (by omega),if_neg (by omega),if_neg (by omega),if_neg (by omega),if_neg (by omega),if_neg (by omega),if_pos h]
 ·rw [if_neg (by omega),if_neg (by omega),if_neg (by omega),if_neg (by omega),if_neg (by omega),if_neg (by omega),if_neg (by omega),if_neg (by omega)]
theorem pz_ex {t:TS} {n k:Nat} {x:Sp} {tr:List Int} {e:Ev} (hI:PInv n t.plain) (hk:e.bike=k) (hx:t.spots[k]?=some x) (hg:t.plain.spots.getD e.bike.toNat default=x) (h56:e.kind=5∨e.kind=6) (hc:checkP tr t.plain e=0):
  ∃(q:Nat) (p:Int×Nat×PT),t.ps[q]?=some p∧t.ps.find? (fun y=>y.1==x.ride)=some p∧(TS.mk (t.spots.set k {x with paused:=decide (e.kind=5)}) (t.ps.set q (p.1,p.2.1,{p.2.2 with paused:=decide (e.kind=5)})) t.used).plain=doP t.plain e:=by
 rw [ck5 h56 hg] at hc
 split at hc
 ·cases hc
 ·rename_i hw3
  have hw3':x.where_=3:=Decidable.of_not_not hw3
  obtain ⟨v,hv,_⟩:=hI.spot k x hx hw3'
  have hlk:=lookP_of hI.keys hv
  obtain ⟨q,p,hq,hf,hp1,hp2⟩:=look_get hlk
  refine ⟨q,p,hq,hf,?_⟩
  have hkt:e.bike.toNat=k:=by omega
  unfold doP
  simp only
  rw [if_neg (by omega),if_neg (by omega),if_neg (by omega),if_neg (by omega),if_pos h56,hg,hlk,hkt]
  unfold TS.plain TS.open_
  simp only
  rw [set_plain hI.keys hq,hp1,hp2]
attribute [local irreducible] tripPtr
theorem do_w {f:Fl} {a:FA} {s:SA} {t:TS} {w0 w:World} {L:List E.Item} {tr:List Int} (e:Ev) (hw:Mem w0 (stL f a s t++L) w) (hmk:marks L=[]) (hI:PInv s.n t.plain) (hb:0≤e.bike∧e.bike<s.n) (hc:checkP tr t.plain e=0):
  Calls Tryz.prog 206 #[.pointer (some ⟨s.sb,0,none⟩), .agg e.cells.toArray] w fun r w'=> ∃t':{t':TS//t'.plain=doP t.plain e},r= .returned (.tuple #[])∧Mem w0 (stL f a s t'.1++L) w':=by
 obtain ⟨k,hk⟩: ∃k:Nat,e.bike=k:=⟨e.bike.toNat,by omega⟩
 have hl:t.spots.length=s.n:=hI.len
 have hkn:k<s.n:=by omega
 obtain ⟨x,hx⟩: ∃x,t.spots[k]?=some x:=⟨_,List.getElem?_eq_getElem (by omega)⟩
 have hg:t.plain.spots.getD e.bike.toNat default=x:=by
  rw [hk,Int.toNat_natCast,List.getD_eq_getElem?_getD];show (t.spots[k]?).getD default=x;rw [hx];rfl
 obtain ⟨d1,d2,d7,d8,d9,d0⟩:=dok_leave (s:=t.plain) hk
 obtain ⟨ed,es,eat,el,ekind,ebike,epl,erd,erid⟩:=e
 simp only at hk hb hc hg d1 d2 d7 d8 d9 d0
 subst hk
 refine H_enterM hw hmk Tryz.func206 rfl Tryz.ntmps206 rfl ?_
 iterate 2 refine G ?_
 refine X_box (v:= .agg _) rfl rfl fun b3=>?_
 iterate 6 refine G ?_
 refine xV (e_build Tryz.underlying252 fl252 Tryz.zeroValue252 (pt (v:= .int _ _) rfl (pt (v:= .int _ _) rfl E.p0)) rfl) rfl rfl ?_
 refine X_alloc Tryz.zeroValue252 rfl fun b4=>?_
 refine X_st (v:= .agg _) rfl rfl Tryz.sizeOf252 ?_
 iterate 15 refine G ?_
 refine H_cond rfl ?_ ?_<;>intro h1
 ·have hk1:ekind=1:=by simpa using h1
  iterate 6 refine G ?_
  refine xV (e_build Tryz.underlying252 fl252 Tryz.zeroValue252 (pt (v:= .int _ _) rfl (pt (v:= .int _ _) rfl E.p0)) rfl) rfl rfl ?_
  refine X_eff (f_callM (en Tryz.call275 (ha3 (q0 rfl) (q0 rfl) (q0 rfl))) (fun w hw=>leave_w (Mem.rot (X:=[_,_]) (S:=stL f a s t) hw) hmk hl k hkn ⟨1,epl,0,false⟩) rfl (fun _=>rfl) fun u=>?_)
  iterate 2 refine G ?_
  exact end0 rfl hmk fun w' hw=>⟨⟨_,(leaveT_plain _ _ _).trans (d1 hk1).symm⟩,rfl,Mem.cutM (X:=[_,_]) hw⟩
 ·iterate 6 refine G ?_
  refine H_cond rfl ?_ ?_<;>intro h2
  ·have hk2:ekind=2:=by simpa using h2
   iterate 6 refine G ?_
   refine xV (e_build Tryz.underlying252 fl252 Tryz.zeroValue252 (pt (v:= .int _ _) rfl (pt (v:= .int _ _) rfl E.p0)) rfl) rfl rfl ?_
   refine X_eff (f_callM (en Tryz.call275 (ha3 (q0 rfl) (q0 rfl) (q0 rfl))) (fun w hw=>leave_w (Mem.rot (X:=[_,_]) (S:=stL f a s t) hw) hmk hl k hkn ⟨2,epl,0,false⟩) rfl (fun _=>rfl) fun u=>?_)
   iterate 2 refine G ?_
   exact end0 rfl hmk fun w' hw=>⟨⟨_,(leaveT_plain _ _ _).trans (d2 hk2).symm⟩,rfl,Mem.cutM (X:=[_,_]) hw⟩
  ·iterate 6 refine G ?_
   refine H_cond rfl ?_ ?_<;>intro h3
   ·have hk3:ekind=3:=by simpa using h3
    have hck:=hc
    rw [ck3 hk3 hg] at hck
    obtain ⟨hpk,hu⟩:parkedS x=true∧usedP t.used erid=false:=by
     split at hck
     ·cases hck
     ·rename_i h1
      split at hck
      ·cases hck
      ·rename_i h2
       exact ⟨by simpa using h1,by show usedP t.plain.used erid=false;simpa using h2⟩
    have hno:t.ps.find? (fun p=>p.1==erid)=none:=by
     rw [List.find?_eq_none]
     intro p hp hpe
     have h1:=hI.used (p.1,p.2.2) (List.mem_map.2 ⟨p,hp,rfl⟩)
     simp only [beq_iff_eq] at hpe
     simp only [hpe] at h1
     rw [show t.plain.used=t.used from rfl,hu] at h1
     cases h1
    refine G ?_
    refine H_mem (fun w hw=>hw.fr4) rfl ?_
    refine RAd 1 rfl (by decide+kernel) ?_
    refine aW 0 ?_
    refine aW 1 ?_
    refine aW 2 ?_
    refine aW 3 ?_
    refine aW 4 ?_
    refine aW 5 ?_
    refine aW 6 ?_
    refine aW 7 ?_
    refine aW 8 ?_
    refine aW 9 ?_
    refine aV 10 (by decide+kernel) rfl (e_build Tryz.underlying355 fl355 Tryz.zeroValue355 (pt (v:= .int _ _) rfl (pt (v:= .int _ _) rfl E.p0)) rfl) rfl ?_
    refine r1 11 1 ?_
    refine aL rfl (f_box (v:= .agg _) rfl rfl fun b42=>?_)
    refine r1 12 2 ?_
    refine aL rfl (f_pmapPut 0 ⟨erd,k,false⟩ Tryz.underlying344 Tryz.underlying3 rfl rfl rfl rfl rfl hno ?_)
    refine aZ (by decide+kernel) (sub_drop 1) ?_
    iterate 2 refine G ?_
    refine H_mem (fun w hw=>hw.mv4) rfl ?_
    refine E.RT rfl rfl (by decide+kernel) ?_
    iterate 8 refine G ?_
    refine X_mapset (v:= .bool true) 5 Tryz.underlying224 Tryz.underlying3 rfl rfl rfl rfl ?_
    iterate 2 refine G ?_
    refine E.RT rfl rfl (by decide+kernel) ?_
    iterate 7 refine G ?_
    refine xV (e_idx _ Tryz.underlying181 Tryz.sizeOf252 (q0 rfl) (q0 rfl) (fun _=>⟨rfl,by omega⟩)) rfl rfl ?_
    iterate 2 refine G ?_
    refine X_eff (f_storeR0 3 ⟨3,0,erid,false⟩ rfl rfl Tryz.sizeOf252 rfl rfl rfl hx rfl rfl ?_)
    iterate 2 refine G ?_
    exact end0 rfl hmk fun w' hw=>⟨⟨⟨t.spots.set k ⟨3,0,erid,false⟩,t.ps++[(erid,b42,⟨erd,k,false⟩)],usePut t.used erid⟩,by
     unfold doP
     simp only
     rw [if_neg (by omega),if_neg (by omega),if_pos hk3]
     unfold TS.plain TS.open_
     simp⟩,rfl,by have h9:=hw.tail.tail;rw [used_put] at h9;exact h9⟩
   ·iterate 6 refine G ?_
    refine H_cond rfl ?_ ?_<;>intro h4
    ·have hk4:ekind=4:=by simpa using h4
     have hck:=hc
     rw [ck4 hk4 hg] at hck
     obtain ⟨v,hv,hpk⟩: ∃v,lookP t.plain.open_ erid=some v∧parkedS x=true:=by
      cases hlk:lookP t.plain.open_ erid with
      |none=>rw [hlk] at hck;cases hck
      |some v=>
       rw [hlk] at hck
       simp only at hck
       split at hck
       ·cases hck
       ·rename_i h1
        exact ⟨v,rfl,by simpa using h1⟩
     obtain ⟨q,p,hq,hf,hp1,hp2⟩:=look_get hv
     obtain ⟨hj0,y,hy,y3,yr,yp⟩:=hI.bike _ (lookP_some hv)
     simp only at hj0 hy
     obtain ⟨j,hj⟩: ∃j:Nat,v.bike=j:=⟨v.bike.toNat,by omega⟩
     rw [hj,Int.toNat_natCast] at hy
     have hjn:j<s.n:=by rw [←hl];exact (List.getElem?_eq_some_iff.1 hy).1
     have hjk:j≠k:=fun e=>by
      have h9:t.spots[j]?=some y:=hy
      rw [e,hx] at h9
      cases h9
      exact parked_no3 hpk y3
     have hptr:(mlook (ptrs t.ps) erid).getD (.pointer none)= .pointer (some ⟨p.2.1,0,none⟩):=by rw [ptrs_val];unfold tripPtr;rw [hf];rfl
     have hpb:p.2.2.bike=j:=by rw [hp2];exact hj
     have hx2:(t.spots.set j x)[k]?=some x:=by rw [List.getElem?_set_ne hjk];exact hx
     have hy2:t.spots[j]?=some y:=hy
     refine G ?_
     refine R1 rfl (by decide+kernel) ?_
     iterate 6 refine G ?_
     refine xV (e_lookG Tryz.underlying344 Tryz.underlying3 Tryz.zeroValue351 (q0 rfl) (q0 rfl) (pmap_map 4 rfl) (fun _=>hptr)) rfl rfl ?_
     iterate 4 refine G ?_
     refine E.RT rfl rfl (by decide+kernel) ?_
     iterate 7 refine G ?_
     refine xV (e_ld (v:= .int .i64 j) Tryz.isAgg3 (q0 rfl) (pc 4 (r:=1) rfl hq (by show some (Value.int .i64 p.2.2.bike)=_;rw [hpb]))) rfl rfl ?_
     iterate 6 refine G ?_
     refine xV (e_idx _ Tryz.underlying181 Tryz.sizeOf252 (q0 rfl) (q0 rfl) (fun _=>⟨rfl,by omega⟩)) rfl rfl ?_
     refine G ?_
     refine xV (e_idx _ Tryz.underlying181 Tryz.sizeOf252 (q0 rfl) (q0 rfl) (fun _=>⟨rfl,by omega⟩)) rfl rfl ?_
     iterate 2 refine G ?_
     refine X_eff (f_storeR0 3 x rfl rfl Tryz.sizeOf252 rfl rfl rfl hy2 rfl rfl ?_)
     iterate 3 refine G ?_
     refine E.RT rfl rfl (by decide+kernel) ?_
     iterate 7 refine G ?_
     refine xV (e_idx _ Tryz.underlying181 Tryz.sizeOf252 (q0 rfl) (q0 rfl) (fun _=>⟨rfl,by omega⟩)) rfl rfl ?_
     iterate 2 refine G ?_
     refine X_eff (f_storeR0 3 ⟨3,0,erid,false⟩ rfl rfl Tryz.sizeOf252 rfl rfl rfl hx2 rfl rfl ?_)
     iterate 8 refine G ?_
     refine X_eff (f_pmapStore 4 (off:=1) {p.2.2 with bike:=(k:Int)} rfl rfl Tryz.sizeOf3 rfl rfl rfl hq (by show 1+1≤3;decide) rfl ?_)
     iterate 2 refine G ?_
     exact end0 rfl hmk fun w' hw=>⟨⟨⟨(t.spots.set j x).set k ⟨3,0,erid,false⟩,t.ps.set q (p.1,p.2.1,{p.2.2 with bike:=(k:Int)}),t.used⟩,by
      unfold doP
      simp only at hg⊢
      rw [if_neg (by omega),if_neg (by omega),if_neg (by omega),if_pos hk4,hv,hg]
      unfold TS.plain TS.open_
      simp only [Int.toNat_natCast,hj]
      rw [set_plain hI.keys hq,hp1,hp2]⟩,rfl,hw.tail.tail⟩
    ·iterate 7 refine G ?_
     refine H_cond rfl ?_ ?_<;>intro h5
     ·have h56:ekind=5∨ekind=6:= .inl (by simpa using h5)
      obtain ⟨q,p,hq,hf,hpz⟩:=pz_ex hI rfl hx hg h56 hc
      iterate 2 refine G ?_
      refine H_cond rfl ?_ ?_<;>intro h5b
      ·have _ht:True:=trivial
       iterate 7 refine G ?_
       refine X_eff (f_callM (en Tryz.call276 (ha3 (q0 rfl) (q0 rfl) (q0 rfl))) (fun w hw=>pause_w (Mem.rot (X:=[_,_]) (S:=stL f a s t) hw) hmk hl k hkn (decide (ekind=5)) hx hq hf) rfl (fun _=>rfl) fun u=>?_)
       iterate 2 refine G ?_
       exact end0 rfl hmk fun w' hw=>⟨⟨_,hpz⟩,rfl,Mem.cutM (X:=[_,_]) hw⟩
      ·rw [h5] at h5b;cases h5b
     ·iterate 5 refine G ?_
      refine H_cond rfl ?_ ?_<;>intro h6
      ·have h56:ekind=5∨ekind=6:= .inr (by simpa using h6)
       obtain ⟨q,p,hq,hf,hpz⟩:=pz_ex hI rfl hx hg h56 hc
       iterate 7 refine G ?_
       refine X_eff (f_callM (en Tryz.call276 (ha3 (q0 rfl) (q0 rfl) (q0 rfl))) (fun w hw=>pause_w (Mem.rot (X:=[_,_]) (S:=stL f a s t) hw) hmk hl k hkn (decide (ekind=5)) hx hq hf) rfl (fun _=>rfl) fun u=>?_)
       iterate 2 refine G ?_
       exact end0 rfl hmk fun w' hw=>⟨⟨_,hpz⟩,rfl,Mem.cutM (X:=[_,_]) hw⟩
      ·iterate 6 refine G ?_
       refine H_cond rfl ?_ ?_<;>intro h7
       ·have hk7:ekind=7:=by simpa using h7
        iterate 6 refine G ?_
        refine xV (e_build Tryz.underlying252 fl252 Tryz.zeroValue252 (pt (v:= .int _ _) rfl (pt (v:= .int _ _) rfl E.p0)) rfl) rfl rfl ?_
        refine X_eff (f_callM (en Tryz.call275 (ha3 (q0 rfl) (q0 rfl) (q0 rfl))) (fun w hw=>leave_w (Mem.rot (X:=[_,_]) (S:=stL f a s t) hw) hmk hl k hkn ⟨4,epl,0,false⟩) rfl (fun _=>rfl) fun u=>?_)
        iterate 2 refine G ?_
        exact end0 rfl hmk fun w' hw=>⟨⟨_,(leaveT_plain _ _ _).trans (d7 hk7).symm⟩,rfl,Mem.cutM (X:=[_,_]) hw⟩
       ·iterate 6 refine G ?_
        refine H_cond rfl ?_ ?_<;>intro h8
        ·have hk8:ekind=8:=by simpa using h8
         iterate 4 refine G ?_
         refine xV (e_build Tryz.underlying252 fl252 Tryz.zeroValue252 (pt (v:= .int _ _) rfl E.p0) rfl) rfl rfl ?_
         refine X_eff (f_callM (en Tryz.call275 (ha3 (q0 rfl) (q0 rfl) (q0 rfl))) (fun w hw=>leave_w (Mem.rot (X:=[_,_]) (S:=stL f a s t) hw) hmk hl k hkn ⟨5,0,0,false⟩) rfl (fun _=>rfl) fun u=>?_)
         iterate 2 refine G ?_
         exact end0 rfl hmk fun w' hw=>⟨⟨_,(leaveT_plain _ _ _).trans (d8 hk8).symm⟩,rfl,Mem.cutM (X:=[_,_]) hw⟩
        ·iterate 6 refine G ?_
         refine H_cond rfl ?_ ?_<;>intro h9
         ·have hk9:ekind=9:=by simpa using h9
          iterate 4 refine G ?_
          refine xV (e_build Tryz.underlying252 fl252 Tryz.zeroValue252 (pt (v:= .int _ _) rfl E.p0) rfl) rfl rfl ?_
          refine X_eff (f_callM (en Tryz.call275 (ha3 (q0 rfl) (q0 rfl) (q0 rfl))) (fun w hw=>leave_w (Mem.rot (X:=[_,_]) (S:=stL f a s t) hw) hmk hl k hkn ⟨6,0,0,false⟩) rfl (fun _=>rfl) fun u=>?_)
          iterate 2 refine G ?_
          exact end0 rfl hmk fun w' hw=>⟨⟨_,(leaveT_plain _ _ _).trans (d9 hk9).symm⟩,rfl,Mem.cutM (X:=[_,_]) hw⟩
         ·iterate 2 refine G ?_
          exact end0 rfl hmk fun w' hw=>⟨⟨t,(d0 (by simp at h1 h2 h3 h4 h5 h6 h7 h8 h9;omega)).symm⟩,rfl,hw.tail.tail⟩
end Go.Proofs.Cus
namespace Go.Proofs.Cus
open Go Go.RowKit Go.Proofs.E
structure CbOK {σ τ:Type} (f:Fl) (a:FA) (n:Nat) (g:FuncId) (lb:List Value) (cb:σ→PS→Ev→Int→σ) (CI:σ→τ→List E.Item) (J:Nat→σ→Prop):Prop where
 enter: ∀args w,(callFunc g args).run Tryz.prog w= .ok (.enter g args) w
 run: ∀{w0:World} {L:List E.Item} {s:SA} {t:TS} {z:σ} {x:τ} {k:Nat} (e:Ev) (er:Int),marks L=[]→s.n=n→t.spots.length=n→n≤1000→FlAt w0 f a→k≤10000→J k z→ ∀w,Mem w0 (CI z x++(stL f a s t++L)) w→
  Calls Tryz.prog g (([.pointer (some ⟨s.sb,0,none⟩), .agg e.cells.toArray, .int .i64 er]:List Value)++lb).toArray w fun r w'=> ∃x':τ,r= .returned (.tuple #[])∧Mem w0 (CI (cb z t.plain e er) x'++(stL f a s t++L)) w'
 keep: ∀k z s e er,J k z→J (k+1) (cb z s e er)
def CbIs {σ τ:Type} (f:Fl) (a:FA) (n:Nat) (o:Option (FuncId×List Value)) (cb:σ→PS→Ev→Int→σ) (CI:σ→τ→List E.Item) (J:Nat→σ→Prop):Prop:=
 match o with
 |none=> ∀z s e er,cb z s e er=z
 |some gl=>CbOK f a n gl.1 gl.2 cb CI J
def cbv:Option (FuncId×List Value)→Value
 |none=> .nilFunc
 |some gl=> .func (.func gl.1) #[] gl.2.toArray
theorem runErr_w (f:Fl) (a:FA) (A:Option Addr) (n c:Nat) (v:Value) (w:World) (hf:FlAt w f a) (he:flErr f≠0):
  Calls Tryz.prog 152 #[.agg (f.cells a).toArray, .slice A n c,v] w fun e w'=>e= .returned (.tuple #[.pointer none, .int .i64 (flErr f)])∧Bel w w':=by
 refine H_enter Tryz.func152 rfl Tryz.ntmps152 rfl ?_
 iterate 2 refine G ?_
 refine X_box (v:= .agg _) rfl rfl fun b3=>?_
 iterate 8 refine G ?_
 refine xC (en Tryz.call58 (ha1 (q0 rfl))) (fun _ w hm=>fleet_w f a w (hf.mem hm)) rfl rfl ?_
 iterate 9 refine G ?_
 refine H_cond rfl ?_ ?_<;>intro h
 ·iterate 9 refine G ?_
  exact ret2 (v:= .pointer _) (x:= .int _ _) rfl rfl rfl rfl fun w' hw=>⟨rfl,hw.1⟩
 ·exact absurd (by simpa using h) he
theorem run_w {σ τ:Type} (f:Fl) (a:FA) (A:Option Addr) (n c nb:Nat) (xs:List Ev) (o:Option (FuncId×List Value)) (cb:σ→PS→Ev→Int→σ) (CI:σ→τ→List E.Item) (J:Nat→σ→Prop) (hcbs:CbIs f a nb o cb CI J) (hJn: ∀k z,J k z→J (k+1) z)
  {w0 w:World} {L:List E.Item} {z0:σ} {x0:τ} (hw:Mem w0 (CI z0 x0++L) w) (hmL:marks L=[]) (hmC: ∀z x,marks (CI z x)=[]) (hJ0:J 0 z0) (hf:FlAt w0 f a) (hx:EvsAt w0 A n xs) (hn:n≤10000) (hok:flErr f=0) (hnb:f.bikes=nb)
  (hpl: ∀e∈xs,-9223372036854775808≤e.place∧e.place≤9223372036854775807):
  Calls Tryz.prog 152 #[.agg (f.cells a).toArray, .slice A n c,cbv o] w fun e w'=> ∃y:{y:SA×TS×τ//y.1.n=nb∧y.2.1.plain=(runR f cb (setOf xs) (beginP nb,z0)).1},e= .returned (.tuple #[.pointer (some ⟨y.1.1.sb,0,none⟩), .int .i64 0])∧Mem w0 (stL f a y.1.1 y.1.2.1++(CI (runR f cb (setOf xs) (beginP nb,z0)).2 y.1.2.2++L)) w':=by
 have hmk2: ∀z x,marks (CI z x++L)=[]:=fun z x=>by rw [marks_append,hmC,hmL];rfl
 have hmk:=hmL
 obtain ⟨hbk,-⟩:=flErr_ok hok
 have hys: ∀e∈setOf xs,-9223372036854775808≤e.place∧e.place≤9223372036854775807:=fun e he=>hpl e ((set_isSet xs).mem e|>.1 he).1
 have hylen:=setOf_len xs
 have hxl:=hx.1
 refine H_enterM hw (hmk2 _ _) Tryz.func152 rfl Tryz.ntmps152 rfl ?_
 iterate 2 refine G ?_
 refine X_box (v:= .agg _) rfl rfl fun b3=>?_
 iterate 8 refine G ?_
 refine xC (en Tryz.call58 (ha1 (q0 rfl))) (fun _ w hm=>fleet_w f a w (hf.mem hm)) rfl rfl ?_
 iterate 9 refine G ?_
 refine H_cond rfl ?_ ?_<;>intro h
 ·exact absurd hok (by simpa using h)
 ·iterate 5 refine G ?_
  refine xCX (en Tryz.call203 (ha1 (q0 rfl))) (fun w hw=>begin_w f a nb hnb (by omega) w) rfl (fun _=>rfl) fun s=>?_
  iterate 7 refine G ?_
  refine xCX (en Tryz.call204 (ha1 (q0 rfl))) (fun w hw=>set_w A n c xs w (hx.mem hw) hn) rfl (fun _=>rfl) fun Y=>?_
  iterate 5 refine G ?_
  obtain ⟨s,hsn⟩:=s
  generalize hys0:setOf xs=ys at*
  obtain ⟨R,hR⟩: ∃R:Nat→PS×σ,R=fun k=>runR f cb (ys.take k) (beginP nb,z0):=⟨_,rfl⟩
  have hR0:R 0=(beginP nb,z0):=by rw [hR];rfl
  have hRn:R ys.length=runR f cb ys (beginP nb,z0):=by rw [hR];simp only [List.take_length]
  have hRs: ∀k e,ys[k]?=some e→R (k+1)=tellR cb (R k).2 e (stepR f (R k).1 e):=fun k e he=>by rw [hR];exact runR_snoc ys _ k e he
  have hRI: ∀k,PInv nb (R k).1:=fun k=>by rw [hR];exact runR_inv hnb _ _ (PInv.begin nb)
  clear hR
  refine H_loop [11,12,23,24,25,26,27,28,29,30,31,32,33,34,35,36,37,38,39,40,41,42,43,44,45,46,47,48,49,50,51,52,53,54] (fun q:Nat×TS×τ=>[(23, .int .i64 q.1)]) (fun q=>evRow Y.1 Y.2 ys::(stL f a s q.2.1++(box b3 24 (f.cells a)::(CI (R q.1).2 q.2.2++L)))) (fun q=>q.1≤ys.length∧q.2.1.plain=(R q.1).1∧J q.1 (R q.1).2) (fun q=>ys.length -q.1) (0,beginT nb,x0) ⟨rfl,trivial⟩ (fun w hw=>by show Mem w0 (evRow _ _ _::(stL f a s _++(_::(CI (R 0).2 _++L)))) w;rw [hR0];exact hw) ((hmk2 _ _).trans (hmk2 _ _).symm) ⟨Nat.zero_le _,by rw [hR0];rfl,by show J 0 (R 0).2;rw [hR0];exact hJ0⟩ ?_
  rintro ⟨k,t,x⟩ g ⟨hk,htp,hJ⟩
  simp only at hk htp hJ
  iterate 6 refine G ?_
  refine H_cond rfl ?_ ?_<;>intro hlt
  ·have hlt':k<ys.length:=by simpa using hlt
   obtain ⟨e,he⟩: ∃e,ys[k]?=some e:=⟨_,List.getElem?_eq_getElem hlt'⟩
   have hRk:=hRs k e he
   have hplc:=hys e (List.mem_of_getElem? he)
   have hIk:=hRI k
   rw [←htp] at hIk hRk
   have hlT:t.spots.length=s.n:=by rw [hsn];exact hIk.len
   refine H_know (fun w hw=>rowT_at (j:=0) hw rfl (by omega)) fun ⟨b,hb4⟩=>?_
   obtain ⟨Y1,Y2⟩:=Y
   simp only at hb4
   subst hb4
   obtain ⟨Y,hY⟩: ∃Y:Nat×Nat,Y.2=Y2:=⟨(0,Y2),rfl⟩
   rw [←hY]
   iterate 6 refine G ?_
   refine xV (e_idx _ Tryz.underlying49 Tryz.sizeOf58 (q0 rfl) (q0 rfl) (fun _=>⟨rfl,by omega⟩)) rfl rfl ?_
   refine G ?_
   refine X_alloc Tryz.zeroValue58 rfl fun b11=>?_
   refine X_st (v:= .agg _) rfl rfl Tryz.sizeOf58 ?_
   iterate 6 refine G ?_
   refine xC (en Tryz.call25 (ha2 (q0 rfl) (q0 rfl))) (fun _ w hm=>check_w f a e w (hf.mem hm) hplc) rfl rfl ?_
   iterate 15 refine G ?_
   refine H_cond rfl ?_ ?_<;>intro hbeat
   ·have hb10:evErr f e=0∧e.kind=10:=by simpa using hbeat
    have hst:R (k+1)=(t.plain,(R k).2):=by rw [hRk];unfold stepR tellR;rw [if_pos hb10]
    iterate 8 refine G ?_
    exact loopJ_normal (k+1,t,x) agr ⟨rfl,trivial⟩ (fun w hw=>by show Mem w0 (evRow _ _ _::(stL f a s _++(_::(CI (R (k+1)).2 _++L)))) w;rw [hst];exact hw.tail) ((hmk2 _ _).trans (hmk2 _ _).symm) ⟨by show k+1≤_;omega,by show t.plain=(R (k+1)).1;rw [hst],by show J (k+1) (R (k+1)).2;rw [hst];exact hJn k _ hJ⟩ (by show ys.length -(k+1)<ys.length -k;omega)
   ·have hb10: ¬(evErr f e=0∧e.kind=10):=by simpa using hbeat
    iterate 9 refine G ?_
    refine H_cond rfl ?_ ?_<;>intro h0
    ·have h0':evErr f e=0:=by simpa using h0
     obtain ⟨_,hbike,hp7,_,_⟩:=evErr_ok h0'
     iterate 3 refine G ?_
     refine xC (en Tryz.call205 (ha2 (q0 rfl) (q0 rfl))) (fun _ w hm=>scheck_w (s:=s) e w (stAt_of (s:=s) (hf.mem hm) hlT (by omega) (Mem.rot (X:=[_,_]) (S:=stL f a s t) hm)) (by omega) hp7) rfl rfl ?_
     iterate 10 refine G ?_
     refine H_cond rfl ?_ ?_<;>intro hc
     ·have hc':checkP f.trucks t.plain e=0:=by simpa using hc
      iterate 3 refine G ?_
      refine X_eff (f_callM (en Tryz.call206 (ha2 (q0 rfl) (q0 rfl))) (fun w hw=>do_w (s:=s) e (Mem.rot (X:=[_,_]) (S:=stL f a s t) hw) (hmk2 _ _) (by rw [hsn];exact hIk) (by omega) hc') rfl (fun _=>rfl) fun t2=>?_)
      obtain ⟨t2,ht2⟩:=t2
      have hst:(R (k+1)).1=t2.plain∧(R (k+1)).2=cb (R k).2 t2.plain e 0:=by
       rw [hRk];unfold stepR tellR;rw [if_neg hb10];simp only;rw [if_pos h0',hc',if_pos rfl,ht2];exact ⟨rfl,rfl⟩
      have hlT2:t2.spots.length=s.n:=by
       have:=(hRI (k+1)).len
       rw [hst.1] at this
       rw [hsn];exact this
      iterate 3 refine G ?_
      refine H_mem (fun w hw=>Mem.rot (X:=stL f a s t2) (S:=[_,_]) hw) rfl ?_
      rw [hc']
      cases o with
      |none=>
       iterate 2 refine G ?_
       refine xV (e_neNilF0 Tryz.underlying245 (q0 rfl)) rfl rfl ?_
       iterate 2 refine G ?_
       refine H_cond rfl ?_ ?_<;>intro hcb
       ·cases hcb
       ·iterate 7 refine G ?_
        have hz:=hcbs (R k).2 t2.plain e 0
        exact loopJ_normal (k+1,t2,x) agr ⟨rfl,trivial⟩ (fun w hw=>by show Mem w0 (evRow _ _ _::(stL f a s t2++(_::(CI (R (k+1)).2 x++L)))) w;rw [hst.2,hz];exact hw.tail) ((hmk2 _ _).trans (hmk2 _ _).symm) ⟨by show k+1≤_;omega,by show t2.plain=(R (k+1)).1;rw [hst.1],by show J (k+1) (R (k+1)).2;rw [hst.2,hz];exact hJn k _ hJ⟩ (by show ys.length -(k+1)<ys.length -k;omega)
      |some gl=>
       have hcbr:=hcbs.run (w0:=w0) (L:=[box b11 58 e.cells,evRow (some ⟨b,0,none⟩) Y.2 ys,box b3 24 (f.cells a)]++L) (s:=s) (t:=t2) (z:=(R k).2) (x:=x) (k:=k) e 0 hmk hsn (by rw [←hsn];exact hlT2) (by omega) hf (by omega) hJ
       iterate 2 refine G ?_
       refine xV (e_neNilF Tryz.underlying245 (q0 rfl)) rfl rfl ?_
       iterate 2 refine G ?_
       refine H_cond rfl ?_ ?_<;>intro hcb
       ·iterate 5 refine G ?_
        refine X_eff (f_callM (enV hcbs.enter (q0 rfl) (fun _=>rfl)) (fun w hw=>(hcbr w (Mem.rot (X:=[_,_,_,_,_,_,_]) (S:=CI (R k).2 x) (Mem.rot (X:=[_,_]) (S:=stL f a s t2) hw))).mono fun _ _ ⟨x',h1,h2⟩=>⟨x',h1,Mem.rot (X:=stL f a s t2) (S:=[_,_]) (Mem.rot (X:=CI _ x') (S:=[_,_,_,_,_,_,_]) h2)⟩) rfl (fun _=>(hmk2 _ _).trans (hmk2 _ _).symm) fun x'=>?_)
        iterate 7 refine G ?_
        exact loopJ_normal (k+1,t2,x') agr ⟨rfl,trivial⟩ (fun w hw=>by show Mem w0 (evRow _ _ _::(stL f a s t2++(_::(CI (R (k+1)).2 x'++L)))) w;rw [hst.2];exact hw.tail) ((hmk2 _ _).trans (hmk2 _ _).symm) ⟨by show k+1≤_;omega,by show t2.plain=(R (k+1)).1;rw [hst.1],by show J (k+1) (R (k+1)).2;rw [hst.2];exact hcbs.keep k _ _ _ _ hJ⟩ (by show ys.length -(k+1)<ys.length -k;omega)
       ·cases hcb
     ·have hc': ¬checkP f.trucks t.plain e=0:=by simpa using hc
      have hst:(R (k+1)).1=t.plain∧(R (k+1)).2=cb (R k).2 t.plain e (checkP f.trucks t.plain e):=by
       rw [hRk];unfold stepR tellR;rw [if_neg hb10];simp only;rw [if_pos h0',if_neg hc'];exact ⟨rfl,rfl⟩
      iterate 3 refine G ?_
      cases o with
      |none=>
       iterate 2 refine G ?_
       refine xV (e_neNilF0 Tryz.underlying245 (q0 rfl)) rfl rfl ?_
       iterate 2 refine G ?_
       refine H_cond rfl ?_ ?_<;>intro hcb
       ·cases hcb
       ·iterate 7 refine G ?_
        have hz:=hcbs (R k).2 t.plain e (checkP f.trucks t.plain e)
        exact loopJ_normal (k+1,t,x) agr ⟨rfl,trivial⟩ (fun w hw=>by show Mem w0 (evRow _ _ _::(stL f a s t++(_::(CI (R (k+1)).2 x++L)))) w;rw [hst.2,hz];exact hw.tail) ((hmk2 _ _).trans (hmk2 _ _).symm) ⟨by show k+1≤_;omega,by show t.plain=(R (k+1)).1;rw [hst.1],by show J (k+1) (R (k+1)).2;rw [hst.2,hz];exact hJn k _ hJ⟩ (by show ys.length -(k+1)<ys.length -k;omega)
      |some gl=>
       have hcbr:=hcbs.run (w0:=w0) (L:=[box b11 58 e.cells,evRow (some ⟨b,0,none⟩) Y.2 ys,box b3 24 (f.cells a)]++L) (s:=s) (t:=t) (z:=(R k).2) (x:=x) (k:=k) e (checkP f.trucks t.plain e) hmk hsn (by rw [←hsn];exact hlT) (by omega) hf (by omega) hJ
       iterate 2 refine G ?_
       refine xV (e_neNilF Tryz.underlying245 (q0 rfl)) rfl rfl ?_
       iterate 2 refine G ?_
       refine H_cond rfl ?_ ?_<;>intro hcb
       ·iterate 5 refine G ?_
        refine X_eff (f_callM (enV hcbs.enter (q0 rfl) (fun _=>rfl)) (fun w hw=>(hcbr w (Mem.rot (X:=[_,_,_,_,_,_,_]) (S:=CI (R k).2 x) (Mem.rot (X:=[_,_]) (S:=stL f a s t) hw))).mono fun _ _ ⟨x',h1,h2⟩=>⟨x',h1,Mem.rot (X:=stL f a s t) (S:=[_,_]) (Mem.rot (X:=CI _ x') (S:=[_,_,_,_,_,_,_]) h2)⟩) rfl (fun _=>(hmk2 _ _).trans (hmk2 _ _).symm) fun x'=>?_)
        iterate 7 refine G ?_
        exact loopJ_normal (k+1,t,x') agr ⟨rfl,trivial⟩ (fun w hw=>by show Mem w0 (evRow _ _ _::(stL f a s t++(_::(CI (R (k+1)).2 x'++L)))) w;rw [hst.2];exact hw.tail) ((hmk2 _ _).trans (hmk2 _ _).symm) ⟨by show k+1≤_;omega,by show t.plain=(R (k+1)).1;rw [hst.1],by show J (k+1) (R (k+1)).2;rw [hst.2];exact hcbs.keep k _ _ _ _ hJ⟩ (by show ys.length -(k+1)<ys.length -k;omega)
       ·cases hcb
    ·have h0': ¬evErr f e=0:=by simpa using h0
     have hst:(R (k+1)).1=t.plain∧(R (k+1)).2=cb (R k).2 t.plain e (evErr f e):=by
      rw [hRk];unfold stepR tellR;rw [if_neg hb10];simp only;rw [if_neg h0',if_neg h0'];exact ⟨rfl,rfl⟩
     iterate 9 refine G ?_
     refine H_cond rfl ?_ ?_<;>intro hc
     ·exact absurd (by simpa using hc) h0'
     ·have _ht:True:=trivial
      iterate 3 refine G ?_
      cases o with
      |none=>
       iterate 2 refine G ?_
       refine xV (e_neNilF0 Tryz.underlying245 (q0 rfl)) rfl rfl ?_
       iterate 2 refine G ?_
       refine H_cond rfl ?_ ?_<;>intro hcb
       ·cases hcb
       ·iterate 7 refine G ?_
        have hz:=hcbs (R k).2 t.plain e (evErr f e)
        exact loopJ_normal (k+1,t,x) agr ⟨rfl,trivial⟩ (fun w hw=>by show Mem w0 (evRow _ _ _::(stL f a s t++(_::(CI (R (k+1)).2 x++L)))) w;rw [hst.2,hz];exact hw.tail) ((hmk2 _ _).trans (hmk2 _ _).symm) ⟨by show k+1≤_;omega,by show t.plain=(R (k+1)).1;rw [hst.1],by show J (k+1) (R (k+1)).2;rw [hst.2,hz];exact hJn k _ hJ⟩ (by show ys.length -(k+1)<ys.length -k;omega)
      |some gl=>
       have hcbr:=hcbs.run (w0:=w0) (L:=[box b11 58 e.cells,evRow (some ⟨b,0,none⟩) Y.2 ys,box b3 24 (f.cells a)]++L) (s:=s) (t:=t) (z:=(R k).2) (x:=x) (k:=k) e (evErr f e) hmk hsn (by rw [←hsn];exact hlT) (by omega) hf (by omega) hJ
       iterate 2 refine G ?_
       refine xV (e_neNilF Tryz.underlying245 (q0 rfl)) rfl rfl ?_
       iterate 2 refine G ?_
       refine H_cond rfl ?_ ?_<;>intro hcb
       ·iterate 5 refine G ?_
        refine X_eff (f_callM (enV hcbs.enter (q0 rfl) (fun _=>rfl)) (fun w hw=>(hcbr w (Mem.rot (X:=[_,_,_,_,_,_,_]) (S:=CI (R k).2 x) (Mem.rot (X:=[_,_]) (S:=stL f a s t) hw))).mono fun _ _ ⟨x',h1,h2⟩=>⟨x',h1,Mem.rot (X:=stL f a s t) (S:=[_,_]) (Mem.rot (X:=CI _ x') (S:=[_,_,_,_,_,_,_]) h2)⟩) rfl (fun _=>(hmk2 _ _).trans (hmk2 _ _).symm) fun x'=>?_)
        iterate 7 refine G ?_
        exact loopJ_normal (k+1,t,x') agr ⟨rfl,trivial⟩ (fun w hw=>by show Mem w0 (evRow _ _ _::(stL f a s t++(_::(CI (R (k+1)).2 x'++L)))) w;rw [hst.2];exact hw.tail) ((hmk2 _ _).trans (hmk2 _ _).symm) ⟨by show k+1≤_;omega,by show t.plain=(R (k+1)).1;rw [hst.1],by show J (k+1) (R (k+1)).2;rw [hst.2];exact hcbs.keep k _ _ _ _ hJ⟩ (by show ys.length -(k+1)<ys.length -k;omega)
       ·cases hcb
  ·have hend:k=ys.length:=by simp at hlt;omega
   subst hend
   have hfin: ∀w',Mem w0 (stL f a s t++(box b3 24 (f.cells a)::(CI (R ys.length).2 x++L))) w'→Mem w0 (stL f a s t++(CI (runR f cb ys (beginP nb,z0)).2 x++L)) w':=fun w' h=>by rw [←hRn];exact Mem.cutM (X:=[_]) h
   iterate 13 refine G ?_
   exact ret2 (v:= .pointer _) (x:= .int _ _) rfl rfl rfl (hmk2 _ _) fun w' hw=>⟨⟨(s,t,x),hsn,by rw [htp,hRn]⟩,rfl,hfin _ hw.tail⟩
end Go.Proofs.Cus
namespace Go.Proofs.Cus
open Go Go.RowKit Go.Proofs.E
structure Rj where
 device:Int
 seq:Int
 err:Int
deriving DecidableEq,Inhabited
def Rj.cells (x:Rj):List Value:=[.int .i64 x.device, .int .i64 x.seq, .int .i64 x.err]
def accCb (z:List Ev) (_:PS) (e:Ev) (er:Int):List Ev:=if er=0 then z++[e] else z
def rejCb (z:List Rj) (_:PS) (e:Ev) (er:Int):List Rj:=if er≠0 then z++[⟨e.device,e.seq,er⟩] else z
def nobCb (z:Unit) (_:PS) (_:Ev) (_:Int):Unit:=z
def nbOf (f:Fl):Nat:=f.bikes.toNat
def accOf (f:Fl) (xs:List Ev):List Ev:=if flErr f=0 then (runR f accCb (setOf xs) (beginP (nbOf f),[])).2 else []
theorem nb_eq {f:Fl} (h:flErr f=0):f.bikes=nbOf f:=by
 have:=(flErr_ok h).1
 unfold nbOf;omega
abbrev PlOk (xs:List Ev):Prop:= ∀e∈xs,-9223372036854775808≤e.place∧e.place≤9223372036854775807
def accCI (b:Nat) (z:List Ev) (x:Option Addr×Nat):List E.Item:=[box b 49 [.slice x.1 z.length x.2],evRow x.1 x.2 z]
theorem acc_cb (f:Fl) (a:FA) (n b:Nat):CbOK f a n 153 [.pointer (some ⟨b,0,none⟩)] accCb (accCI b) (fun k z=>z.length≤k) where
 enter:=Tryz.call153
 keep:=fun k z s e er h=>by
  unfold accCb
  split
  ·simp;omega
  ·omega
 run:=fun {w0 L s t z x k} e er hmk _ _ _ _ hk hJ w hw=>by
  unfold accCI at hw⊢
  refine H_enterM hw hmk Tryz.func153 rfl Tryz.ntmps153 rfl ?_
  iterate 2 refine G ?_
  refine X_box (v:= .agg _) rfl rfl fun b5=>?_
  iterate 8 refine G ?_
  refine H_cond rfl ?_ ?_<;>intro h
  ·have h0:er=0:=by simpa using h
   iterate 3 refine G ?_
   refine X_push (k:=9) (i:=Tryz.t58) 2 (e) Tryz.underlying49 (by kernel_rfl) rfl rfl rfl rfl Tryz.sizeOf58 Tryz.zeroValue58 rfl rfl rfl rfl rfl rfl ⟨by omega,by decide⟩ rfl rfl fun B A1 c1=>?_
   refine X_st (v:= .slice _ _ _) rfl rfl Tryz.sizeOf49 ?_
   refine G ?_
   exact end0 rfl hmk fun w' hw=>⟨(A1,c1),rfl,by unfold accCb;rw [if_pos h0];exact hw.tail⟩
  ·have h0: ¬er=0:=by simpa using h
   refine G ?_
   exact end0 rfl hmk fun w' hw=>⟨x,rfl,by unfold accCb;rw [if_neg h0];exact hw.tail⟩
theorem accepted_w (f:Fl) (a:FA) (A:Option Addr) (n c:Nat) (xs:List Ev) (w:World) (hf:FlAt w f a) (hx:EvsAt w A n xs) (hn:n≤10000) (hpl:PlOk xs):
  Calls Tryz.prog 100 #[.agg (f.cells a).toArray, .slice A n c] w fun r w'=> ∃x:Option Addr×Nat,r= .returned (.tuple #[.slice x.1 (accOf f xs).length x.2, .int .i64 (flErr f)])∧Mem w [evRow x.1 x.2 (accOf f xs)] w':=by
 by_cases hok:flErr f=0
 case neg=>
  have hacc:accOf f xs=[]:=by unfold accOf;rw [if_neg hok]
  rw [hacc]
  refine H_enter Tryz.func100 rfl Tryz.ntmps100 rfl ?_
  iterate 2 refine G ?_
  refine X_box (v:= .agg _) rfl rfl fun b2=>?_
  iterate 6 refine G ?_
  refine X_alloc Tryz.zeroValue49 rfl fun b6=>?_
  iterate 6 refine G ?_
  refine xV e_fn rfl rfl ?_
  refine xC (en Tryz.call152 (ha3 (q0 rfl) (q0 rfl) (q0 rfl))) (fun _ w hm=>runErr_w f a A n c _ w (hf.mem hm) hok) rfl rfl ?_
  iterate 16 refine G ?_
  exact ret2 (v:= .slice _ _ _) (x:= .int _ _) rfl rfl rfl rfl fun w' hw=>⟨(none,0),rfl,(mem_nil.2 hw.1).nilRow _ _ _ rfl⟩
 case pos=>
  have hacc:accOf f xs=(runR f accCb (setOf xs) (beginP (nbOf f),[])).2:=by unfold accOf;rw [if_pos hok]
  rw [hacc,hok]
  refine H_enter Tryz.func100 rfl Tryz.ntmps100 rfl ?_
  iterate 2 refine G ?_
  refine X_box (v:= .agg _) rfl rfl fun b2=>?_
  iterate 6 refine G ?_
  refine X_alloc Tryz.zeroValue49 rfl fun b6=>?_
  iterate 6 refine G ?_
  refine xV e_fn rfl rfl ?_
  refine X_eff (f_callM (en Tryz.call152 (ha3 (q0 rfl) (q0 rfl) (q0 rfl))) (fun w hw=>run_w f a A n c (nbOf f) xs (some (153,[.pointer (some ⟨b6,0,none⟩)])) accCb (accCI b6) (fun k z=>z.length≤k) (acc_cb f a (nbOf f) b6) (fun _ _ h=>Nat.le_succ_of_le h) (z0:=[]) (x0:=(none,0)) (hw.nilRow _ _ _ rfl).mv1 rfl (fun _ _=>rfl) (Nat.le_refl _) hf hx hn hok (nb_eq hok) hpl) rfl (fun _=>rfl) fun y=>?_)
  iterate 16 refine G ?_
  exact ret2 (v:= .slice _ _ _) (x:= .int _ _) rfl rfl rfl rfl fun w' hw=>⟨y.1.2.2,rfl,hw.pick [5] (by decide)⟩
end Go.Proofs.Cus
namespace Go.Proofs.Cus
theorem countP_set {α:Type} (p:α→Bool): ∀{l:List α} {k:Nat} {x:α} (y:α),l[k]?=some x→(l.set k y).countP p+(if p x=true then 1 else 0)=l.countP p+(if p y=true then 1 else 0)
 |[],_,_,_,h=>by simp at h
 |a::l,0,x,y,h=>by
  simp at h;subst h
  simp only [List.set_cons_zero,List.countP_cons]
  omega
 |a::l,k+1,x,y,h=>by
  have ih:=countP_set p (l:=l) (k:=k) (x:=x) y (by simpa using h)
  simp only [List.set_cons_succ,List.countP_cons]
  omega
structure AInv (tr:List Int) (sp:List Sp):Prop where
 dock: ∀(i j:Nat) x y,sp[i]?=some x→sp[j]?=some y→i≠j→x.where_=1→y.where_=1→x.place≠y.place
 truck: ∀x∈sp,x.where_=4→0≤x.place∧x.place<tr.length∧(countP sp 4 x.place:Int)≤tr.getD x.place.toNat 0
 paused: ∀x∈sp,x.paused=true→x.where_=3
theorem AInv.begin (tr:List Int) (n:Nat):AInv tr (List.replicate n ⟨5,0,0,false⟩):=by
 have h: ∀x∈List.replicate n (⟨5,0,0,false⟩:Sp),x=⟨5,0,0,false⟩:=fun x hx=>(List.mem_replicate.1 hx).2
 refine ⟨fun i j x y hx hy _ h1 _=>?_,fun x hx h4=>?_,fun x hx hp=>?_⟩
 ·rw [h x (List.mem_of_getElem? hx)] at h1;simp at h1
 ·rw [h x hx] at h4;simp at h4
 ·rw [h x hx] at hp;simp at hp
section
variable {tr:List Int} {sp:List Sp}
theorem set_get {k:Nat} {x y:Sp} (hx:sp[k]?=some x) (j:Nat):(sp.set k y)[j]?=if k=j then some y else sp[j]?:=by
 have:=(List.getElem?_eq_some_iff.1 hx).1
 rw [List.getElem?_set]
 by_cases e:k=j
 ·subst e;simp [this]
 ·simp [e]
theorem AInv.set (h:AInv tr sp) {k:Nat} {x:Sp} (hx:sp[k]?=some x) (y:Sp) (h1:y.where_=1→ ∀(j:Nat) z,sp[j]?=some z→j≠k→z.where_=1→z.place≠y.place)
  (h4:y.where_=4→0≤y.place∧y.place<tr.length∧(countP sp 4 y.place:Int)+(if atP 4 y.place x=true then 0 else 1)≤tr.getD y.place.toNat 0) (hp:y.paused=true→y.where_=3):AInv tr (sp.set k y):=by
 have hc: ∀p:Int,(countP (sp.set k y) 4 p:Int)+(if atP 4 p x=true then 1 else 0)=(countP sp 4 p:Int)+(if atP 4 p y=true then 1 else 0):=fun p=>by
  have:=countP_set (atP 4 p) y hx
  unfold countP
  split at this<;>split at this<;>rename_i a1 a2<;>simp [a1,a2]<;>omega
 refine ⟨fun i j u v hu hv hij u1 v1=>?_,fun u hu u4=>?_,fun u hu up=>?_⟩
 ·rw [set_get hx] at hu hv
  split at hu
  ·rename_i e1
   cases hu
   rw [if_neg (by omega)] at hv
   exact fun e=>h1 u1 j v hv (by omega) v1 e.symm
  ·split at hv
   ·rename_i e1 e2
    cases hv
    exact h1 v1 i u hu (by omega) u1
   ·exact h.dock i j u v hu hv hij u1 v1
 ·obtain ⟨i,hi⟩:=List.mem_iff_getElem?.1 hu
  rw [set_get hx] at hi
  split at hi
  ·cases hi
   obtain ⟨a1,a2,a3⟩:=h4 u4
   refine ⟨a1,a2,?_⟩
   have:=hc y.place
   have hy:atP 4 y.place y=true:=by simp [atP,u4]
   rw [if_pos hy] at this
   split at this<;>rename_i hh<;>first|(rw [if_pos hh] at a3;omega)|(rw [if_neg hh] at a3;omega)
  ·have hum:=List.mem_of_getElem? hi
   obtain ⟨a1,a2,a3⟩:=h.truck u hum u4
   refine ⟨a1,a2,?_⟩
   have:=hc u.place
   by_cases hy:atP 4 u.place y=true
   ·have hy4:y.where_=4∧y.place=u.place:=by simpa [atP] using hy
    obtain ⟨b1,b2,b3⟩:=h4 hy4.1
    rw [hy4.2] at b3
    rw [if_pos hy] at this
    rw [hy4.2] at b1 b2
    split at this<;>rename_i hh<;>first|(rw [if_pos hh] at b3;omega)|(rw [if_neg hh] at b3;omega)
   ·rw [if_neg hy] at this
    split at this<;>omega
 ·obtain ⟨i,hi⟩:=List.mem_iff_getElem?.1 hu
  rw [set_get hx] at hi
  split at hi
  ·cases hi;exact hp up
  ·exact h.paused u (List.mem_of_getElem? hi) up
end
theorem AInv.step {n:Nat} {f:Fl} {s:PS} {e:Ev} (hI:PInv n s) (h:AInv f.trucks s.spots) (hn:f.bikes=n) (hev:evErr f e=0) (hc:checkP f.trucks s e=0):AInv f.trucks (doP s e).spots:=by
 obtain ⟨_,hb,hp7,_,_⟩:=evErr_ok hev
 have hk:e.bike.toNat<n:=by omega
 obtain ⟨x,hx⟩: ∃x,s.spots[e.bike.toNat]?=some x:=⟨_,List.getElem?_eq_getElem (by rw [hI.len];exact hk)⟩
 have hg:s.spots.getD e.bike.toNat default=x:=by rw [List.getD_eq_getElem?_getD,hx];rfl
 unfold checkP at hc
 unfold doP
 simp only at hc⊢
 rw [hg] at hc
 have hle: ∀to:Sp,(leaveP s e.bike.toNat to).spots=s.spots.set e.bike.toNat to:=fun _=>rfl
 by_cases h1:e.kind=1
 ·rw [if_pos h1] at hc⊢
  rw [hle]
  refine h.set hx _ (fun _ j z hz hjk z1 hpl=>?_) (fun h4=>by simp at h4) (fun hp=>by simp at hp)
  split at hc
  ·cases hc
  ·rename_i hcc
   have hpk:=refuse_ok (by decide) hc
   apply hcc
   simp only [hpk,Bool.not_false,Bool.true_and,decide_eq_true_eq]
   have:0<countP s.spots 1 e.place:=List.countP_pos_iff.2 ⟨z,List.mem_of_getElem? hz,by simp only at hpl;simp [atP,z1,hpl]⟩
   omega
 rw [if_neg h1] at hc⊢
 by_cases h2:e.kind=2
 ·rw [if_pos h2,hle]
  exact h.set hx _ (fun h1=>by simp at h1) (fun h4=>by simp at h4) (fun hp=>by simp at hp)
 rw [if_neg h2] at hc⊢
 by_cases h3:e.kind=3
 ·rw [if_pos h3]
  exact h.set hx _ (fun h1=>by simp at h1) (fun h4=>by simp at h4) (fun hp=>by simp at hp)
 rw [if_neg h3] at hc⊢
 by_cases h4:e.kind=4
 ·rw [if_pos h4] at hc⊢
  cases hl:lookP s.open_ e.ride with
  |none=>exact h
  |some t=>
   rw [hl] at hc
   simp only at hc⊢
   rw [hg]
   split at hc
   ·cases hc
   ·rename_i hpk
    have hpk:parkedS x=true:=by simpa using hpk
    obtain ⟨_,y,hy,y3,_⟩:=hI.bike _ (lookP_some hl)
    simp only at hy
    have hjk:t.bike.toNat≠e.bike.toNat:=fun ejk=>by rw [ejk,hx] at hy;cases hy;exact parked_no3 hpk y3
    have hxp:x.paused=false:=by
     cases hxp:x.paused with
     |false=>rfl
     |true=>exact absurd (h.paused x (List.mem_of_getElem? hx) hxp) (parked_no3 hpk)
    have hx4:x.where_≠4:=by unfold parkedS at hpk;simp at hpk;omega
    have ha:=h.set hx (⟨3,0,e.ride,false⟩:Sp) (fun h1=>by simp at h1) (fun h4=>by simp at h4) (fun hp=>by simp at hp)
    have hy2:(s.spots.set e.bike.toNat ⟨3,0,e.ride,false⟩)[t.bike.toNat]?=some y:=by rw [set_get hx,if_neg (by omega)];exact hy
    have hb2:=ha.set hy2 x (fun x1 j z hz hjt z1=>?_) (fun h4=>absurd h4 hx4) (fun hp=>by rw [hxp] at hp;cases hp)
    ·rw [List.set_comm _ _ (by omega)]
     exact hb2
    ·rw [set_get hx] at hz
     split at hz
     ·cases hz;simp at z1
     ·rename_i hne
      exact h.dock j _ z x hz hx (by omega) z1 x1
 rw [if_neg h4] at hc⊢
 by_cases h5:e.kind=5∨e.kind=6
 ·rw [if_pos h5] at hc⊢
  simp only
  rw [hg]
  split at hc
  ·cases hc
  ·rename_i hw
   have hw':x.where_=3:=Decidable.of_not_not hw
   exact h.set hx _ (fun h1=>by simp only at h1;omega) (fun h4=>by simp only at h4;omega) (fun _=>hw')
 rw [if_neg h5] at hc⊢
 by_cases h7:e.kind=7
 ·rw [if_pos h7] at hc⊢
  rw [hle]
  obtain ⟨p0,p1⟩:=hp7 h7
  split at hc
  ·cases hc
  ·rename_i hw
   have hlt:=refuse_ok (by decide) hc
   refine h.set hx _ (fun h1=>by simp at h1) (fun _=>⟨p0,p1,?_⟩) (fun hp=>by simp at hp)
   have hx4:atP 4 e.place x=false:=by
    simp at hw
    simp [atP];omega
   simp only
   rw [if_neg (by rw [hx4];decide)]
   have hlt:=of_decide_eq_false hlt
   omega
 rw [if_neg h7] at hc⊢
 by_cases h8:e.kind=8
 ·rw [if_pos h8,hle]
  exact h.set hx _ (fun h1=>by simp at h1) (fun h4=>by simp at h4) (fun hp=>by simp at hp)
 rw [if_neg h8] at hc⊢
 by_cases h9:e.kind=9
 ·rw [if_pos h9,hle]
  exact h.set hx _ (fun h1=>by simp at h1) (fun h4=>by simp at h4) (fun hp=>by simp at hp)
 rw [if_neg h9]
 exact h
theorem PInv.alone {n:Nat} {s:PS} (h:PInv n s) {i j:Nat} {x y:Sp} (hx:s.spots[i]?=some x) (hy:s.spots[j]?=some y) (x3:x.where_=3) (y3:y.where_=3) (hr:x.ride=y.ride):i=j:=by
 obtain ⟨t,ht,hb⟩:=h.spot i x hx x3
 obtain ⟨u,hu,hc⟩:=h.spot j y hy y3
 have:=nodup_fst h.keys ht hu hr
 simp only [Prod.mk.injEq] at this
 rw [this.2,hc] at hb
 omega
end Go.Proofs.Cus
