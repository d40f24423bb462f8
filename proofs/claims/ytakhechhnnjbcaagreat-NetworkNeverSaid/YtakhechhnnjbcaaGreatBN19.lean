import Derived.Test.YtakhechhnnjbcaaGreatBN18
import Derived.Test.YtakhechhnnjbcaaGreatBN10
import Derived.Test.YtakhechhnnjbcaaGreatBN03
import Derived.Test.YtakhechhnnjbcaaGreatBN04
import Derived.Test.YtakhechhnnjbcaaGreatBN02
import Derived.Test.YtakhechhnnjbcaaGreatBN15
import Derived.Test.YtakhechhnnjbcaaGreatTy
set_option maxRecDepth 100000
set_option maxHeartbeats 8000000
set_option linter.unusedVariables false
set_option linter.unusedSimpArgs false
namespace Go.Proofs.Far
open Go.Proofs.Cus Go.Proofs.Rid
theorem useS_mem (l:List Pas): ∀(qs:List Rq) (s:List Int×List (Int×Int)),(∀u∈s.1,-1≤u∧u<l.length)→ ∀u∈(qs.foldl (useStep l) s).1,-1≤u∧u<l.length
 |[],_,h=>h
 |q::qs,s,h=>by
  rw [List.foldl_cons]
  refine useS_mem l qs _ fun u hu=>?_
  have hu2:u∈s.1++[pickP l s.2 q]:=hu
  rcases List.mem_append.1 hu2 with hu|hu
  ·exact h u hu
  ·simp at hu;subst hu;exact pick_range l s.2 q
theorem useOf_range {p:Pr} {l:List Rd} {u:Int} (h:u∈useOf p l): -1≤u∧u<p.passes.length:=useS_mem p.passes (l.map reqR) ([],[]) (fun u hu=>by cases hu) u h
theorem useOf_len (p:Pr) (l:List Rd):(useOf p l).length=l.length:=by
 unfold useOf useS
 have h:((l.map reqR).foldl (useStep p.passes) ([],[])).1.length=0+(l.map reqR).length:=useS_fst p.passes (l.map reqR) ([],[])
 rw [h,List.length_map,Nat.zero_add]
theorem FS_facts {p:Pr} {l:List (Rd×Int)}: ∀{k:Nat} {B:List Bil},k≤l.length→FS p l k=some B→B.length=k∧ ∀(i:Nat) (b:Bil) (x:Rd×Int),B[i]?=some b→l[i]?=some x→firstP p x.1 x.2=some b
 |0,B,_,h=>by
  have:B=[]:=by
   have h2:some ([]:List Bil)=some B:=h
   exact (Option.some.inj h2).symm
  subst this
  exact ⟨rfl,fun i b x hb=>by simp at hb⟩
 |k+1,B,hk,h=>by
  obtain ⟨y,hy⟩: ∃y,l[k]?=some y:=⟨_,List.getElem?_eq_getElem (by omega)⟩
  rw [FS_succ hy] at h
  unfold fsStep at h
  split at h
  ·cases h
  ·rename_i bs hbs
   split at h
   ·cases h
   ·rename_i b hb
    cases h
    obtain ⟨h1,h2⟩:=FS_facts (k:=k) (by omega) hbs
    refine ⟨by rw [List.length_append,h1];rfl,fun i c x hc hx=>?_⟩
    by_cases hi:i<k
    ·rw [List.getElem?_append_left (by omega)] at hc
     exact h2 i c x hc hx
    ·have hik:i=k:=by
      have:=(List.getElem?_eq_some_iff.1 hc).1
      rw [List.length_append,h1] at this
      simp at this
      omega
     subst hik
     rw [hy] at hx
     cases hx
     rw [List.getElem?_append_right (by omega),h1,Nat.sub_self] at hc
     simp at hc
     rw [←hc];exact hb
theorem zip_get {α β:Type} {l:List α} {m:List β} {k:Nat} {a:α} {b:β} (ha:l[k]?=some a) (hb:m[k]?=some b):(l.zip m)[k]?=some (a,b):=by
 rw [List.getElem?_zip_eq_some]
 exact ⟨ha,hb⟩
theorem dy_rider {l:List Rd} {B:List Bil} (h:l.length=B.length):((l.zip B).map dyOf).map (·.rider)=l.map (·.rider):=by
 rw [List.map_map]
 have:((fun x:Dy=>x.rider)∘dyOf)=(fun r:Rd=>r.rider)∘Prod.fst:=rfl
 rw [this,←List.map_map,List.map_fst_zip (by omega)]
theorem dy_day {l:List Rd} {B:List Bil} (h:l.length=B.length):((l.zip B).map dyOf).map (·.day)=l.map fun r=>r.start.lo/86400:=by
 rw [List.map_map]
 have:((fun x:Dy=>x.day)∘dyOf)=(fun r:Rd=>r.start.lo/86400)∘Prod.fst:=rfl
 rw [this,←List.map_map,List.map_fst_zip (by omega)]
theorem dy_amount {l:List Rd} {B:List Bil} (h:l.length=B.length):((l.zip B).map dyOf).map (·.amount)=B.map (·.total):=by
 rw [List.map_map]
 have:((fun x:Dy=>x.amount)∘dyOf)=(fun b:Bil=>b.total)∘Prod.snd:=rfl
 rw [this,←List.map_map,List.map_snd_zip (by omega)]
theorem dayS_fst (limit:Int) (xs:List Dy):(dayS limit xs).map (·.1)=xs:=by
 have key: ∀(xs:List Dy) (l:List (Dy×Int)),(xs.foldl (fun l x=>l++[(x,payD limit l x)]) l).map (·.1)=l.map (·.1)++xs:=by
  intro xs
  induction xs with
  |nil=>intro l;simp
  |cons x xs ih=>intro l;rw [List.foldl_cons,ih];simp
 exact key xs []
theorem paidOf_len {p:Pr} {l:List Rd} {B:List Bil} (h:l.length=B.length):(paidOf p l B).length=B.length:=by
 unfold paidOf
 have:=congrArg List.length (dayS_fst p.cap ((l.zip B).map dyOf))
 rw [List.length_map] at this⊢
 rw [this,List.length_map,List.length_zip]
 omega
structure Rich (l:List Rd) (B:List Bil):Prop where
 len:l.length=B.length
 ride: ∀(i:Nat) (b:Bil) (r:Rd),B[i]?=some b→l[i]?=some r→0≤b.total∧b.total≤1000000000000∧b.items.length≤5∧b.ride=r.id∧b.rider=r.rider
theorem rich_of {f:Fl} {p:Pr} {l:List Rd} {us:List Int} {B:List Bil} (he:prErr f p=0) (hg:Good l) (hu:us.length=l.length) (h:FS p (l.zip us) l.length=some B):Rich l B:=by
 have hzl:(l.zip us).length=l.length:=by rw [List.length_zip];omega
 obtain ⟨h1,h2⟩:=FS_facts (by omega) h
 refine ⟨h1.symm,fun i b r hb hr=>?_⟩
 have hi:i<us.length:=by have:=(List.getElem?_eq_some_iff.1 hr).1;omega
 have:=h2 i b (r,us[i]) hb (zip_get hr (List.getElem?_eq_getElem hi))
 exact first_facts he (hg.ok r (List.mem_of_getElem? hr)) this
theorem head_ok {r:Rd} (h:checkR r=0):1≤r.id∧r.id≤1000000∧0≤r.rider∧r.rider<128:=by
 unfold checkR at h
 have h1:rangedP r=true:=by
  cases hr:rangedP r with
  |true=>rfl
  |false=>rw [hr] at h;simp at h
 unfold rangedP headBad at h1
 simp only [Bool.and_eq_true,Bool.not_eq_true',Bool.or_eq_false_iff,decide_eq_false_iff_not] at h1
 omega
theorem dyErr_ok {f:Fl} {p:Pr} {l:List Rd} {B:List Bil} (he:prErr f p=0) (hg:Good l) (hR:Rich l B):dyErr p.cap ((l.zip B).map dyOf)=0:=by
 obtain ⟨_,_,_,_,_,_,hc1,hc2,_⟩:=prErr_parts he
 unfold dyErr
 rw [if_neg (by rw [inI_iff.2 ⟨hc1,hc2⟩];decide),if_neg (by rw [List.length_map,List.length_zip];have:=hg.few;omega),if_neg]
 intro hany
 obtain ⟨y,hy,hb⟩:=List.any_eq_true.1 hany
 obtain ⟨⟨r,b⟩,hz,rfl⟩:=List.mem_map.1 hy
 obtain ⟨i,hi⟩:=List.getElem?_of_mem hz
 rw [List.getElem?_zip_eq_some] at hi
 have h1:=hR.ride i b r hi.2 hi.1
 have h2:=head_ok (hg.ok r (List.mem_of_getElem? hi.1))
 have h3:=spOk_iff.1 (checkR_parts (hg.ok r (List.mem_of_getElem? hi.1))).1
 unfold dyBad dyOf at hb
 simp only at hb
 have i1:inI r.rider 0 127=true:=inI_iff.2 (by omega)
 have i2:inI (r.start.lo/86400) 0 49709=true:=inI_iff.2 (by omega)
 have i3:inI b.total 0 1000000000000=true:=inI_iff.2 (by omega)
 rw [i1,i2,i3] at hb
 cases hb
theorem paid_range {f:Fl} {p:Pr} {l:List Rd} {B:List Bil} (he:prErr f p=0) (hR:Rich l B) {v:Int} (hv:v∈paidOf p l B):0≤v∧v≤1000000000000:=by
 obtain ⟨_,_,_,_,_,_,hc1,hc2,_⟩:=prErr_parts he
 have ham: ∀y∈(l.zip B).map dyOf,0≤y.amount∧y.amount≤1000000000000:=fun y hy=>by
  obtain ⟨⟨r,b⟩,hz,rfl⟩:=List.mem_map.1 hy
  obtain ⟨i,hi⟩:=List.getElem?_of_mem hz
  rw [List.getElem?_zip_eq_some] at hi
  have h1:=hR.ride i b r hi.2 hi.1
  exact ⟨h1.1,h1.2.1⟩
 have hok:=DS_ok hc1 ham ((l.zip B).map dyOf).length (Nat.le_refl _)
 have hds:DS p.cap ((l.zip B).map dyOf) ((l.zip B).map dyOf).length=dayS p.cap ((l.zip B).map dyOf):=by unfold DS;rw [List.take_length];rfl
 rw [hds] at hok
 unfold paidOf at hv
 obtain ⟨y,hy,rfl⟩:=List.mem_map.1 hv
 have h1:=hok.pay y hy
 have h2:y.1∈(l.zip B).map dyOf:=by rw [←dayS_fst p.cap ((l.zip B).map dyOf)];exact List.mem_map.2 ⟨y,hy,rfl⟩
 have h3:=ham y.1 h2
 omega
theorem finB_ride (p:Pr) (vs:List Pen.V) (b:Bil) (d:Int):(finB p vs b d).ride=b.ride∧(finB p vs b d).rider=b.rider:=by
 unfold finB
 split
 ·exact addB_ride _ _ _ _
 ·exact ⟨(addB_ride _ _ _ _).1.trans (addB_ride _ _ _ _).1,(addB_ride _ _ _ _).2.trans (addB_ride _ _ _ _).2⟩
theorem FN_facts {p:Pr} {vs:List Pen.V} {l:List (Bil×Int)}: ∀{k:Nat} {C:List Bil},k≤l.length→FN p vs l k=some C→C=(l.take k).map fun x=>finB p vs x.1 (x.2 -x.1.total)
 |0,C,_,h=>by
  have h2:some ([]:List Bil)=some C:=h
  rw [←Option.some.inj h2];rfl
 |k+1,C,hk,h=>by
  obtain ⟨y,hy⟩: ∃y,l[k]?=some y:=⟨_,List.getElem?_eq_getElem (by omega)⟩
  rw [FN_succ hy] at h
  unfold fnStep at h
  split at h
  ·cases h
  ·rename_i bs hbs
   split at h
   ·cases h
   ·cases h
    rw [FN_facts (k:=k) (by omega) hbs,List.take_add_one,hy,List.map_append];rfl
theorem FN_le {p:Pr} {vs:List Pen.V} {l:List (Bil×Int)}: ∀{k:Nat} {C:List Bil},k≤l.length→FN p vs l k=some C→ ∀c∈C,c.total≤1000000000000
 |0,C,_,h=>by
  have h2:some ([]:List Bil)=some C:=h
  rw [←Option.some.inj h2];intro c hc;cases hc
 |k+1,C,hk,h=>by
  obtain ⟨y,hy⟩: ∃y,l[k]?=some y:=⟨_,List.getElem?_eq_getElem (by omega)⟩
  rw [FN_succ hy] at h
  unfold fnStep at h
  split at h
  ·cases h
  ·rename_i bs hbs
   split at h
   ·cases h
   ·rename_i hle
    cases h
    intro c hc
    rcases List.mem_append.1 hc with hc|hc
    ·exact FN_le (k:=k) (by omega) hbs c hc
    ·simp at hc;subst hc;omega
theorem byRide_unique {C l:List Bil} (hp:l.Perm C) (hn:(C.map (·.ride)).Nodup) (hs:l.Pairwise fun a b=>a.ride≤b.ride):l=byRide C:=by
 have hb:(byRide C).Perm C:=List.mergeSort_perm _ _
 have hs2:(byRide C).Pairwise fun a b=>a.ride≤b.ride:=by
  have:=List.pairwise_mergeSort (le:=fun a b:Bil=>decide (a.ride≤b.ride)) (fun a b c h1 h2=>by simp at*;omega) (fun a b=>by simp;omega) C
  exact this.imp fun h=>by simpa using h
 have strict: ∀{m:List Bil},m.Perm C→m.Pairwise (fun a b=>a.ride≤b.ride)→m.Pairwise fun a b=>a.ride<b.ride:=fun {m} h1 h2=>by
  have h3:m.Pairwise fun a b=>a.ride≠b.ride:=List.pairwise_map.1 ((h1.map _).nodup_iff.2 hn)
  exact (h2.and h3).imp fun h=>by omega
 refine List.Perm.eq_of_pairwise (le:=fun a b=>a.ride<b.ride) (fun a b _ _ h1 h2=>?_) (strict hp hs) (strict hb hs2) (hp.trans hb.symm)
 omega
theorem rides_of {l:List Rd} {B:List Bil} (hR:Rich l B):B.map (·.ride)=l.map (·.id):=by
 apply List.ext_getElem?
 intro i
 rw [List.getElem?_map,List.getElem?_map]
 by_cases hi:i<B.length
 ·have hi2:i<l.length:=by have:=hR.len;omega
  rw [List.getElem?_eq_getElem hi,List.getElem?_eq_getElem hi2]
  have:=hR.ride i _ _ (List.getElem?_eq_getElem hi) (List.getElem?_eq_getElem hi2)
  simp [this.2.2.2.1]
 ·rw [List.getElem?_eq_none (by omega),List.getElem?_eq_none (by have:=hR.len;omega)];rfl
theorem fin_rides {p:Pr} {vs:List Pen.V} {B:List Bil} {ps:List Int} (h:B.length≤ps.length):((B.zip ps).map fun x=>finB p vs x.1 (x.2 -x.1.total)).map (·.ride)=B.map (·.ride):=by
 rw [List.map_map]
 have:((fun b:Bil=>b.ride)∘fun x:Bil×Int=>finB p vs x.1 (x.2 -x.1.total))=(fun b:Bil=>b.ride)∘Prod.fst:=by
  funext x
  simp [finB_ride]
 rw [this,←List.map_map,List.map_fst_zip h]
end Go.Proofs.Far
namespace Go.Proofs.Far
open Go.Proofs.Cus Go.Proofs.Rid
theorem all_ok {f:Fl} {p:Pr} {rs:List Rd} {vs:List Pen.V} (h:allErr f p rs vs=0):prErr f p=0∧rdsErr rs=0∧Pen.vErr vs=0∧ ∃B:List Bil,FS p ((cntS rs).zip (useOf p (cntS rs))) (cntS rs).length=some B∧Rich (cntS rs) B∧
  (∀c∈(B.zip (paidOf p (cntS rs) B)).map (fun x=>finB p vs x.1 (x.2 -x.1.total)),c.total≤1000000000000)∧allR f p rs vs=byRide ((B.zip (paidOf p (cntS rs) B)).map fun x=>finB p vs x.1 (x.2 -x.1.total)):=by
 have h1:prErr f p=0:=by
  apply Classical.byContradiction
  intro hn
  unfold allErr at h
  rw [if_pos hn] at h
  exact hn h
 have h2:rdsErr rs=0:=by
  apply Classical.byContradiction
  intro hn
  unfold allErr at h
  rw [if_neg (by omega),if_pos hn] at h
  exact hn h
 have h3:Pen.vErr vs=0:=by
  apply Classical.byContradiction
  intro hn
  unfold allErr at h
  rw [if_neg (by omega),if_neg (by omega),if_pos hn] at h
  exact hn h
 have h4:allP p rs vs≠none:=by
  intro hn
  unfold allErr at h
  rw [if_neg (by omega),if_neg (by omega),if_neg (by omega),if_pos hn] at h
  cases h
 have hg:=cntS_good (rdsErr_good h2)
 refine ⟨h1,h2,h3,?_⟩
 have hR:allR f p rs vs=(allP p rs vs).getD []:=by unfold allR;rw [if_neg (by omega)]
 rw [hR]
 unfold allP at h4⊢
 have hzl:((cntS rs).zip (useOf p (cntS rs))).length=(cntS rs).length:=by rw [List.length_zip,useOf_len];omega
 cases hfs:fsAll p ((cntS rs).zip (useOf p (cntS rs))) with
 |none=>rw [hfs] at h4;exact absurd rfl h4
 |some B=>
  rw [hfs] at h4
  simp only at h4⊢
  cases hfn:fnAll p vs (B.zip (paidOf p (cntS rs) B)) with
  |none=>rw [hfn] at h4;exact absurd rfl h4
  |some C=>
   have hFS:FS p ((cntS rs).zip (useOf p (cntS rs))) (cntS rs).length=some B:=by rw [FS_all (by omega)];exact hfs
   have hrich:=rich_of h1 hg (useOf_len p _) hFS
   have hFN:FN p vs (B.zip (paidOf p (cntS rs) B)) (B.zip (paidOf p (cntS rs) B)).length=some C:=by rw [FN_all (Nat.le_refl _)];exact hfn
   have hC:=FN_facts (Nat.le_refl _) hFN
   rw [List.take_length] at hC
   have hle:=FN_le (Nat.le_refl _) hFN
   refine ⟨B,hFS,hrich,?_,?_⟩
   ·rw [←hC];exact hle
   ·rw [←hC];rfl
theorem byRide_perm (C:List Bil):(byRide C).Perm C:=List.mergeSort_perm _ _
theorem allR_perm {f:Fl} {p:Pr} {rs:List Rd} {vs:List Pen.V} (h:allErr f p rs vs=0):((allR f p rs vs).map (·.ride)).Perm ((rs.filter fun r=>!r.open_).map (·.id)):=by
 obtain ⟨h1,h2,h3,B,hFS,hrich,_,hall⟩:=all_ok h
 rw [hall]
 refine ((byRide_perm _).map _).trans ?_
 rw [fin_rides (by rw [paidOf_len hrich.len];exact Nat.le_refl _),rides_of hrich]
 exact (cntS_perm rs).map _
end Go.Proofs.Far
namespace Go.Proofs.Gos
open Go Go.RowKit Go.Proofs.E Go.Proofs.Cus
theorem fl58 {fs:Array Field} (h:Tryz.prog.underlying 58=some (.struct fs):=by exact Tryz.underlying58):FieldsLie Tryz.prog fs [(0,1),(1,1),(2,1),(3,1),(4,1),(5,1),(6,1),(7,1),(8,1)]:=by
 rw [Tryz.underlying58] at h
 cases h
 intro w
 kernel_rfl
theorem fl127 {fs:Array Field} (h:Tryz.prog.underlying 127=some (.struct fs):=by exact Tryz.underlying127):FieldsLie Tryz.prog fs [(0,1),(1,1)]:=by
 rw [Tryz.underlying127] at h
 cases h
 intro w
 kernel_rfl
theorem fl132 {fs:Array Field} (h:Tryz.prog.underlying 132=some (.struct fs):=by exact Tryz.underlying132):FieldsLie Tryz.prog fs [(0,1),(1,1)]:=by
 rw [Tryz.underlying132] at h
 cases h
 intro w
 kernel_rfl
def clashP (x e:Ev):Bool:=decide (x.device=e.device)&&((decide (x.seq<e.seq)&&decide (e.at_<x.at_))||(decide (e.seq<x.seq)&&decide (x.at_<e.at_)))
def keyC (x:Ev):List Value:=[.int .i64 x.device, .int .i64 x.seq]
structure RpAt (w:World) (b o:Nat) (v:Value) (m:Nat) (es:Array MapEntry) (clock:Nat) (l:List Ev):Prop where
 lt:b<w.heap.size
 row:RowAt w b o [v, .map (some m)]
 map:w.heap[m]?=some (.map es clock)
 born:BornOk es.toList clock
 evs:es.toList.map (fun e=>(e.key,e.val))=l.map fun x=>(.agg (keyC x).toArray, .agg x.cells.toArray)
theorem RpAt.one {w:World} {b o m clock:Nat} {v:Value} {es:Array MapEntry} {l:List Ev} (h:RpAt w b o v m es clock l) {e:MapEntry} (he:e∈es.toList): ∃x∈l,e.key= .agg (keyC x).toArray∧e.val= .agg x.cells.toArray:=by
 have h1:(e.key,e.val)∈es.toList.map (fun e=>(e.key,e.val)):=List.mem_map.2 ⟨e,he,rfl⟩
 rw [h.evs] at h1
 obtain ⟨x,hx,h2⟩:=List.mem_map.1 h1
 injection h2 with h2 h3
 exact ⟨x,hx,h2.symm,h3.symm⟩
theorem RpAt.two {w:World} {b o m clock:Nat} {v:Value} {es:Array MapEntry} {l:List Ev} (h:RpAt w b o v m es clock l) {x:Ev} (hx:x∈l): ∃e∈es.toList,e.key= .agg (keyC x).toArray∧e.val= .agg x.cells.toArray:=by
 have h1:((.agg (keyC x).toArray, .agg x.cells.toArray):Value×Value)∈l.map fun x=>(Value.agg (keyC x).toArray,Value.agg x.cells.toArray):=List.mem_map.2 ⟨x,hx,rfl⟩
 rw [←h.evs] at h1
 obtain ⟨e,he,h2⟩:=List.mem_map.1 h1
 injection h2 with h2 h3
 exact ⟨e,he,h2,h3⟩
theorem cells_inj {x y:Ev} (h:(Value.agg x.cells.toArray)= .agg y.cells.toArray):x=y:=by
 obtain ⟨x1,x2,x3,x4,x5,x6,x7,x8,x9⟩:=x
 obtain ⟨y1,y2,y3,y4,y5,y6,y7,y8,y9⟩:=y
 simp only [Ev.cells,Value.agg.injEq] at h
 have h2:=congrArg Array.toList h
 simp only [List.cons.injEq,Value.int.injEq,true_and,and_true] at h2
 obtain ⟨rfl,rfl,rfl,rfl,rfl,rfl,rfl,rfl,rfl⟩:=h2
 rfl
theorem left_lt (es:List MapEntry) (seen:Array Nat) (e:MapEntry) (he:e∈es) (hs:seen.contains e.born=false):(es.filter fun x=>!(seen.push e.born).contains x.born).length<(es.filter fun x=>!seen.contains x.born).length:=by
 have hsub: ∀x:MapEntry,(!(seen.push e.born).contains x.born)=true→(!seen.contains x.born)=true:=fun x hx=>by
  simp at hx⊢;exact hx.1
 have key: ∀l:List MapEntry,e∈l→(l.filter fun x=>!(seen.push e.born).contains x.born).length<(l.filter fun x=>!seen.contains x.born).length:=by
  intro l
  induction l with
  |nil=>intro h;cases h
  |cons y l ih=>
   intro hm
   have hle: ∀l:List MapEntry,(l.filter fun x=>!(seen.push e.born).contains x.born).length≤(l.filter fun x=>!seen.contains x.born).length:=by
    intro l
    induction l with
    |nil=>simp
    |cons z l ih2=>
     simp only [List.filter_cons]
     split
     ·rename_i h;rw [if_pos (hsub z h)];simp only [List.length_cons];omega
     ·split
      ·simp only [List.length_cons];omega
      ·exact ih2
   rcases List.mem_cons.1 hm with rfl|hm
   ·simp only [List.filter_cons]
    rw [if_neg (by simp),if_pos (by simpa using hs)]
    have:=hle l
    simp only [List.length_cons];omega
   ·have:=ih hm
    simp only [List.filter_cons]
    split
    ·rename_i h;rw [if_pos (hsub y h)];simp only [List.length_cons];omega
    ·split
     ·simp only [List.length_cons];omega
     ·exact this
 exact key es he
theorem born_eq {es:List MapEntry} {clock:Nat} (h:BornOk es clock) {x y:MapEntry} (hx:x∈es) (hy:y∈es) (he:x.born=y.born):x=y:=by
 obtain ⟨i,hi,rfl⟩:=List.getElem_of_mem hx
 obtain ⟨j,hj,rfl⟩:=List.getElem_of_mem hy
 have:=List.pairwise_iff_getElem.1 h.asc
 rcases Nat.lt_trichotomy i j with h1|h1|h1
 ·have:=this i j hi hj h1;omega
 ·subst h1;rfl
 ·have:=this j i hj hi h1;omega
theorem fits_w {b o m clock:Nat} {v:Value} {es:Array MapEntry} {l:List Ev} (e:Ev) (w:World) (h:RpAt w b o v m es clock l):
  Calls Tryz.prog 62 #[.pointer (some ⟨b,o,none⟩), .agg e.cells.toArray] w fun r w'=>r= .returned (.bool (!l.any fun x=>clashP x e))∧Bel w w':=by
 have hlt:=h.lt
 have hrow:=h.row
 have hmap:=h.map
 have hB:=h.born
 have hmlt:m<w.heap.size:=(Array.getElem?_eq_some_iff.1 hmap).1
 have hmm: ∀(L:List E.Item) w',Mem w L w'→w'.heap[m]?=some (.map es clock):=fun L w' hw=>(hw.1.block m hmlt).trans hmap
 refine H_enter Tryz.func62 rfl Tryz.ntmps62 rfl ?_
 refine H_seq ?_
 refine R0 ?_
 refine X_box (v:= .agg _) rfl rfl fun b3=>?_
 refine xV (e_as (v:= .bool _) (q0 rfl)) rfl rfl ?_
 refine XN ?_
 refine thenJ_normal ?_
 refine H_seq ?_
 refine H_seq ?_
 refine R0 ?_
 refine xV (e_mv (v:= .pointer _) (q0 rfl)) rfl rfl ?_
 refine xV (e_nilc (q0 rfl)) rfl rfl ?_
 refine xV (e_fld Tryz.underlying127 rfl Tryz.sizeOf125 rfl (q0 rfl)) rfl rfl ?_
 refine xV (eL Tryz.isAgg125 (q0 rfl)) rfl rfl ?_
 refine X_eff (f_range Tryz.underlying125 (hmm _) rfl rfl fun r=>?_)
 refine XN ?_
 refine thenJ_normal ?_
 refine H_block ?_
 refine H_loop [4,6,12,13,14,15,16,17,18,19,20,21,22,23,24,25,26,27,28,29,30,31,32,33,34,35,36,37,38,39,40,41,42,43,44,45,46,47,48] (fun _:Array Nat=>[]) (fun seen=>[mit r m clock seen clock,box b3 58 e.cells]) (fun seen=> ∀x∈es.toList,seen.contains x.born=true→ ∀y,x.val= .agg y.cells.toArray→clashP y e=false) (fun seen=>(es.toList.filter fun x=>!seen.contains x.born).length) #[] trivial (fun _ h=>h) rfl (fun e _ hc=>by simp at hc) ?_
 rintro seen g hinv
 refine H_seq ?_
 refine R0 ?_
 refine X_eff (f_next 0 (hmm _) hB rfl rfl (Nat.le_refl _) rfl (fun hall=>?_) (fun x he hs=>?_))
 ·refine xV (e_ext (q0 rfl) rfl) rfl rfl ?_
  refine XN ?_
  refine thenJ_normal ?_
  refine H_seq ?_
  refine H_cond rfl (fun hb=>?_) (fun hb=>?_)
  ·cases hb
  ·refine H_exit ?_
   refine thenJ_exit ?_
   refine loopJ_exit ?_
   refine blockJ_hit ?_
   refine thenJ_normal ?_
   refine H_seq ?_
   refine R0 ?_
   refine xV (e_as (v:= .bool _) (q0 rfl)) rfl rfl ?_
   refine XN ?_
   refine thenJ_normal ?_
   refine H_ret ?_
   exact ret1 (v:= .bool _) rfl rfl rfl fun w' hw=>⟨ret_bool (by
    symm
    rw [Bool.not_eq_true',List.any_eq_false]
    intro y hy
    obtain ⟨x,hx,_,hv⟩:=h.two hy
    simpa using hinv x hx (hall x hx) y hv),hw.1⟩
 ·obtain ⟨y,hy,hk,hv⟩:=h.one he
  obtain ⟨ek,ev',eb⟩:=x
  simp only at hk hv
  subst hk
  subst hv
  refine xV (e_ext (q0 rfl) rfl) rfl rfl ?_
  refine XN ?_
  refine thenJ_normal ?_
  refine H_seq ?_
  refine H_cond rfl (fun hb=>?_) (fun hb=>?_)
  ·refine H_skip ?_
   refine thenJ_normal ?_
   refine H_block ?_
   refine H_seq ?_
   refine R0 ?_
   refine xV (e_entry 0 (hmm _) hB he (q0 rfl) rfl) rfl rfl ?_
   refine xV (e_ext (q0 rfl) rfl) rfl rfl ?_
   refine X_alloc Tryz.zeroValue58 rfl fun b6=>?_
   refine X_st (v:= .agg _) rfl rfl Tryz.sizeOf58 ?_
   refine XN ?_
   refine thenJ_normal ?_
   refine H_seq ?_
   refine R0 ?_
   refine xV (e_fld Tryz.underlying58 rfl Tryz.sizeOf3 rfl (q0 rfl)) rfl rfl ?_
   refine xV (eL Tryz.isAgg3 (q0 rfl)) rfl rfl ?_
   refine xV (e_fld Tryz.underlying58 rfl Tryz.sizeOf3 rfl (q0 rfl)) rfl rfl ?_
   refine xV (eL Tryz.isAgg3 (q0 rfl)) rfl rfl ?_
   refine xV (e_eq (q0 rfl) (q0 rfl)) rfl rfl ?_
   refine xV (e_mv (v:= .bool _) (q0 rfl)) rfl rfl ?_
   refine xVT (e_fld Tryz.underlying58 rfl Tryz.sizeOf3 rfl (q0 rfl)) rfl rfl rfl rfl ?_
   refine xVT (eL Tryz.isAgg3 (q1 rfl)) rfl rfl rfl rfl ?_
   refine xVT (e_fld Tryz.underlying58 rfl Tryz.sizeOf3 rfl (q0 rfl)) rfl rfl rfl rfl ?_
   refine xVT (eL Tryz.isAgg3 (q1 rfl)) rfl rfl rfl rfl ?_
   refine xVT (e_lt (q1 rfl) (q1 rfl)) rfl rfl rfl rfl ?_
   refine xVT (e_mv (v:= .bool _) (q1 rfl)) rfl rfl rfl rfl ?_
   refine xVT2 (e_fld Tryz.underlying58 rfl Tryz.sizeOf3 rfl (q0 rfl)) rfl rfl rfl rfl ?_
   refine xVT2 (eL Tryz.isAgg3 (q1 rfl)) rfl rfl rfl rfl ?_
   refine xVT2 (e_fld Tryz.underlying58 rfl Tryz.sizeOf3 rfl (q0 rfl)) rfl rfl rfl rfl ?_
   refine xVT2 (eL Tryz.isAgg3 (q1 rfl)) rfl rfl rfl rfl ?_
   refine xVT2 (e_gt (q1 rfl) (q1 rfl)) rfl rfl rfl rfl ?_
   refine xVT (e_and (q1 rfl) rfl (fun h=>by first|rfl|(rw [h];rfl))) rfl rfl rfl rfl ?_
   refine xVT (e_mv (v:= .bool _) (q1 rfl)) rfl rfl rfl rfl ?_
   refine xVF2 (e_fld Tryz.underlying58 rfl Tryz.sizeOf3 rfl (q0 rfl)) rfl rfl rfl rfl ?_
   refine xVF2 (eL Tryz.isAgg3 (q1 rfl)) rfl rfl rfl rfl ?_
   refine xVF2 (e_fld Tryz.underlying58 rfl Tryz.sizeOf3 rfl (q0 rfl)) rfl rfl rfl rfl ?_
   refine xVF2 (eL Tryz.isAgg3 (q1 rfl)) rfl rfl rfl rfl ?_
   refine xVF2 (e_gt (q1 rfl) (q1 rfl)) rfl rfl rfl rfl ?_
   refine xVF2 (e_mv (v:= .bool _) (q1 rfl)) rfl rfl rfl rfl ?_
   refine xVT2 (e_fld Tryz.underlying58 rfl Tryz.sizeOf3 rfl (q0 rfl)) rfl rfl rfl rfl ?_
   refine xVT2 (eL Tryz.isAgg3 (q1 rfl)) rfl rfl rfl rfl ?_
   refine xVT2 (e_fld Tryz.underlying58 rfl Tryz.sizeOf3 rfl (q0 rfl)) rfl rfl rfl rfl ?_
   refine xVT2 (eL Tryz.isAgg3 (q1 rfl)) rfl rfl rfl rfl ?_
   refine xVT2 (e_lt (q1 rfl) (q1 rfl)) rfl rfl rfl rfl ?_
   refine xVF2 (e_and (q1 rfl) rfl (fun h=>by first|rfl|(rw [h];rfl))) rfl rfl rfl rfl ?_
   refine xVT (e_or (q1 rfl) rfl (fun h=>by first|rfl|(rw [h];rfl))) rfl rfl rfl rfl ?_
   refine xV (e_and (q0 rfl) rfl (fun h=>by first|rfl|(rw [h];rfl))) rfl rfl ?_
   refine XN ?_
   refine thenJ_normal ?_
   refine H_cond rfl (fun hcl=>?_) (fun hcl=>?_)
   ·refine H_seq ?_
    refine R0 ?_
    refine xV (e_as (v:= .bool _) (q0 rfl)) rfl rfl ?_
    refine XN ?_
    refine thenJ_normal ?_
    refine H_ret ?_
    refine blockJ_ret ?_
    refine loopJ_ret ?_
    refine blockJ_ret ?_
    refine thenJ_ret ?_
    exact ret1 (v:= .bool _) rfl rfl rfl fun w' hw=>⟨ret_bool (by
     have hc:clashP y e=true:=by
      unfold clashP
      exact hcl
     symm
     rw [Bool.not_eq_false',List.any_eq_true]
     exact ⟨y,hy,hc⟩),hw.1⟩
   ·refine H_skip ?_
    refine blockJ_normal ?_
    exact loopJ_normal (seen.push eb) (by repeat (first|exact agree_self|exact agree_over|refine agree_upd rfl ?_|refine agree_updL rfl ?_|refine agree_over2 rfl ?_)) trivial (fun _ h=>h.tail) rfl (fun e' he' hc z hz=>by
     by_cases hs':seen.contains e'.born=true
     ·exact hinv e' he' hs' z hz
     ·have hbe:e'.born=eb:=by simp at hc hs';exact hc.resolve_left hs'
      have:=born_eq hB he' he hbe
      subst this
      have:=cells_inj hz
      subst this
      unfold clashP
      exact hcl) (left_lt es.toList seen ⟨_,_,eb⟩ he hs)
  ·cases hb
def ordE (a b:Ev):Int:=if evLess a b=true then -1 else if evLess b a=true then 1 else 0
open Go.Shelf Go.Lib Go.Sort in
theorem ordE_lt (a b:Ev):ltOf ordE a b=evLess a b:=by
 unfold ltOf ordE
 cases h:evLess a b with
 |true=>simp
 |false=>
  simp only [Bool.false_eq_true,if_false]
  split<;>simp
attribute [local irreducible] evLess
theorem lessP_w (a b:Ev) (w:World):Calls Tryz.prog 179 #[.agg a.cells.toArray, .agg b.cells.toArray] w fun r w'=>r= .returned (.bool (evLess a b))∧Bel w w':=by
 have hlt:decide (evCmp a b<0)=evLess a b:=by unfold evLess;exact lexCmp_lt a.keys b.keys
 refine H_enter Tryz.func179 rfl Tryz.ntmps179 rfl ?_
 iterate 2 refine G ?_
 refine X_box (v:= .agg _) rfl rfl fun b2=>?_
 refine X_box (v:= .agg _) rfl rfl fun b3=>?_
 iterate 7 refine G ?_
 refine xC (en Tryz.call252 (ha2 (q0 rfl) (q0 rfl))) (fun _ w _=>evCmp_w a b w) rfl rfl ?_
 iterate 5 refine G ?_
 exact ret1 (v:= .bool _) rfl rfl rfl fun w' hw=>⟨ret_bool hlt,hw.1⟩
theorem order_w (a b:Ev) (w:World):Calls Tryz.prog 124 #[.agg a.cells.toArray, .agg b.cells.toArray] w fun r w'=>r= .returned (.int .i64 (ordE a b))∧Bel w w':=by
 refine H_enter Tryz.func124 rfl Tryz.ntmps124 rfl ?_
 iterate 2 refine G ?_
 refine X_box (v:= .agg _) rfl rfl fun b2=>?_
 refine X_box (v:= .agg _) rfl rfl fun b3=>?_
 iterate 9 refine G ?_
 refine xC (en Tryz.call179 (ha2 (q0 rfl) (q0 rfl))) (fun _ w _=>lessP_w a b w) rfl rfl ?_
 iterate 3 refine G ?_
 refine H_cond rfl ?_ ?_<;>intro h1
 ·iterate 8 refine G ?_
  exact ret1 (v:= .int _ _) rfl rfl rfl fun w' hw=>⟨ret_int (by unfold ordE;rw [if_pos h1]),hw.1⟩
 ·iterate 4 refine G ?_
  refine xC (en Tryz.call179 (ha2 (q0 rfl) (q0 rfl))) (fun _ w _=>lessP_w b a w) rfl rfl ?_
  iterate 3 refine G ?_
  refine H_cond rfl ?_ ?_<;>intro h2
  ·iterate 8 refine G ?_
   exact ret1 (v:= .int _ _) rfl rfl rfl fun w' hw=>⟨ret_int (by unfold ordE;rw [if_neg (by rw [h1];decide),if_pos h2]),hw.1⟩
  ·iterate 9 refine G ?_
   exact ret1 (v:= .int _ _) rfl rfl rfl fun w' hw=>⟨ret_int (by unfold ordE;rw [if_neg (by rw [h1];decide),if_neg (by rw [h2];decide)]),hw.1⟩
open Go.Shelf Go.Lib Go.Sort in
theorem sort3_w {w0 w:World} {L:List E.Item} (hw:Mem w0 L w) {j c:Nat} {A:Option Addr} {xs:List Ev} (hk:L[j]?=some (evRow A c xs)) (hn:xs.length≤1000000):
  Calls Tryz.prog 123 #[.slice A xs.length c, .func (.func 124) #[] #[]] w fun e w'=> ∃_:Unit,e= .returned (.tuple #[])∧Mem w0 (L.set j (evRow A c (xs.mergeSort le2))) w':=by
 have hlt:(ltOf ordE)=fun x y=>lexLt x.keys y.keys:=by funext x y;rw [ordE_lt];unfold evLess;rfl
 have:=sortBy_w ordE 124 (by rw [hlt];exact swo_key Ev.keys 9 (fun _=>rfl)) (fun x y h1 h2=>by rw [hlt] at h1 h2;exact keys_inj (lexLt_total rfl h1 h2)) Tryz.call124 order_w hw hk hn
 rw [hlt] at this
 exact this
theorem sort_perm {xs l:List Ev} (h:xs.Perm l):xs.mergeSort le2=l.mergeSort le2:=by
 have hp: ∀l:List Ev,(l.mergeSort le2).Pairwise (fun a b=>le2 a b=true):=fun l=>List.pairwise_mergeSort (le_trans_of (key:=Ev.keys) (n:=9) (fun _=>rfl)) (le_total_of (key:=Ev.keys) (n:=9) (fun _=>rfl)) _
 refine List.Perm.eq_of_pairwise (le:=fun a b=>le2 a b=true) (fun a b _ _ h1 h2=>?_) (hp xs) (hp l) (((List.mergeSort_perm _ _).trans h).trans (List.mergeSort_perm _ _).symm)
 unfold le2 at h1 h2
 exact keys_inj (lexLt_total rfl (by simpa using h2) (by simpa using h1))
def ai (cs:Array Value) (i:Nat):Int:=match cs[i]? with|some (.int _ n)=>n|_=>0
def dec (v:Value):Ev:=match v with| .agg cs=>⟨ai cs 0,ai cs 1,ai cs 2,ai cs 3,ai cs 4,ai cs 5,ai cs 6,ai cs 7,ai cs 8⟩|_=>default
theorem dec_cells (x:Ev):dec (.agg x.cells.toArray)=x:=rfl
def evOf (e:MapEntry):Ev:=dec e.val
def bornA (vs:List MapEntry):Array Nat:=(vs.map (·.born)).toArray
theorem bornA_push (vs:List MapEntry) (e:MapEntry):(bornA vs).push e.born=bornA (vs++[e]):=by unfold bornA;simp
theorem bornA_mem {vs:List MapEntry} {n:Nat}:(bornA vs).contains n=true↔ ∃e∈vs,e.born=n:=by unfold bornA;simp
theorem all_perm {w:World} {b o m clock:Nat} {v:Value} {es:Array MapEntry} {l:List Ev} (h:RpAt w b o v m es clock l) {vs:List MapEntry} (hm: ∀e∈vs,e∈es.toList) (hn:vs.Nodup) (hall: ∀e∈es.toList,(bornA vs).contains e.born=true):(vs.map evOf).Perm l:=by
 have hne:es.toList.Nodup:=h.born.asc.imp fun {a b} hab e=>by subst e;omega
 have hp:vs.Perm es.toList:=(List.perm_ext_iff_of_nodup hn hne).2 fun e=>⟨hm e,fun he=>by
  obtain ⟨x,hx,hb⟩:=bornA_mem.1 (hall e he)
  have:=born_eq h.born (hm x hx) he hb
  subst this;exact hx⟩
 have h2:=hp.map evOf
 have h3:es.toList.map evOf=l:=by
  have h4:=congrArg (List.map fun p:Value×Value=>dec p.2) h.evs
  rw [List.map_map,List.map_map] at h4
  have h5:((fun p:Value×Value=>dec p.2)∘fun x:Ev=>(Value.agg (keyC x).toArray,Value.agg x.cells.toArray))=id:=by funext x;exact dec_cells x
  rw [h5,List.map_id] at h4
  exact h4
 rw [h3] at h2;exact h2
theorem nodup_len {α:Type}: ∀{xs ys:List α},xs.Nodup→(∀x∈xs,x∈ys)→xs.length≤ys.length
 |[],ys,_,_=>Nat.zero_le _
 |x::xs,ys,hn,hs=>by
  obtain ⟨h1,h2⟩:=List.nodup_cons.1 hn
  obtain ⟨a,b,rfl⟩:=List.append_of_mem (hs x (List.mem_cons_self ..))
  have:=nodup_len (xs:=xs) (ys:=a++b) h2 fun y hy=>by
   have h3:=hs y (List.mem_cons_of_mem _ hy)
   rcases List.mem_append.1 h3 with h3|h3
   ·exact List.mem_append.2 (.inl h3)
   ·rcases List.mem_cons.1 h3 with rfl|h3
    ·exact absurd hy h1
    ·exact List.mem_append.2 (.inr h3)
  simp only [List.length_append,List.length_cons] at this⊢
  omega
theorem since_w {b o m clock:Nat} {v:Value} {es:Array MapEntry} {l:List Ev} (w:World) (h:RpAt w b o v m es clock l) (hp: ∀x∈l,0≤x.device∧1≤x.seq) (hn:l.length≤10000):
  Calls Tryz.prog 67 #[.pointer (some ⟨b,o,none⟩), .slice none 0 0] w fun r w'=> ∃x:{x:Option Addr×Nat//l=[]→x=(none,0)},r= .returned (.slice x.1.1 l.length x.1.2)∧Mem w [evRow x.1.1 x.1.2 (l.mergeSort le2)] w':=by
 have hlt:=h.lt
 have hrow:=h.row
 have hmap:=h.map
 have hB:=h.born
 have hmlt:m<w.heap.size:=(Array.getElem?_eq_some_iff.1 hmap).1
 have hmm: ∀(L:List E.Item) w',Mem w L w'→w'.heap[m]?=some (.map es clock):=fun L w' hw=>(hw.1.block m hmlt).trans hmap
 have hel:es.toList.length=l.length:=by have:=congrArg List.length h.evs;simpa using this
 refine H_enter Tryz.func67 rfl Tryz.ntmps67 rfl ?_
 iterate 9 refine G ?_
 refine xV (e_eqNilP Tryz.underlying68 (q0 rfl)) rfl rfl ?_
 iterate 2 refine G ?_
 refine H_cond rfl ?_ ?_<;>intro hnil
 ·cases hnil
 ·iterate 14 refine G ?_
  refine X_eff (f_range Tryz.underlying125 (hmm _) rfl rfl fun r=>?_)
  iterate 3 refine G ?_
  refine H_loop [5,6,7,8,16,17,18,19,20,21,22,23,24,25,26,27,28,29,30,31,32,33,34,35,36,37,38] (fun q:List MapEntry×Option Addr×Nat=>[(5, .slice q.2.1 (q.1.map evOf).length q.2.2)]) (fun q=>[evRow q.2.1 q.2.2 (q.1.map evOf),mit r m clock (bornA q.1) clock]) (fun q=>(∀e∈q.1,e∈es.toList)∧q.1.Nodup∧(q.1=[]→q.2=(none,0))) (fun q=>(es.toList.filter fun x=>!(bornA q.1).contains x.born).length) ([],none,0) ⟨rfl,trivial⟩ (fun _ h=>h.nilRow _ _ _ rfl) rfl ⟨fun _ h=>(by cases h),List.nodup_nil,fun _=>rfl⟩ ?_
  rintro ⟨vs,A,cp⟩ g ⟨hin,hnd,hnil0⟩
  simp only at hin hnd hnil0
  iterate 2 refine G ?_
  refine X_eff (f_next 1 (hmm _) hB rfl rfl (Nat.le_refl _) rfl (fun hall=>?_) (fun x he hs=>?_))
  ·iterate 4 refine G ?_
   refine H_cond rfl ?_ ?_<;>intro hb
   ·cases hb
   ·have hperm:=all_perm h hin hnd hall
    have hxl:(vs.map evOf).length=l.length:=hperm.length_eq
    iterate 8 refine G ?_
    refine X_eff (f_callM (en Tryz.call123 (ha2 (q0 rfl) (q0 rfl))) (fun w hw=>sort3_w hw (j:=0) rfl (by rw [hxl];omega)) rfl (fun _=>rfl) fun u=>?_)
    iterate 9 refine G ?_
    exact ret1 (v:= .slice _ _ _) rfl rfl rfl fun w' hw=>⟨⟨(A,cp),fun hl=>hnil0 (by have h0:=hxl;rw [hl,List.length_map] at h0;exact List.eq_nil_of_length_eq_zero h0)⟩,congrArg (fun n=>Ending.returned (.slice A n cp)) hxl,by rw [←sort_perm hperm];exact hw.pick [0] (by decide)⟩
  ·obtain ⟨y,hy,hk,hv⟩:=h.one he
   obtain ⟨hd0,hs0⟩:=hp y hy
   have hmx:(vs++[x]).map evOf=vs.map evOf++[y]:=by simp [evOf,hv,dec_cells]
   have hnew:x∉vs:=fun hx=>by
    have:=bornA_mem.2 ⟨x,hx,rfl⟩
    rw [hs] at this;cases this
   have hnd2:(vs++[x]).Nodup:=List.nodup_append.2 ⟨hnd,(by simp),fun a ha b hb e=>hnew (by rw [←List.mem_singleton.1 hb,←e];exact ha)⟩
   have hvl:vs.length≤10000:=by
    have:=nodup_len hnd hin
    omega
   iterate 4 refine G ?_
   refine H_cond rfl ?_ ?_<;>intro hb
   ·iterate 5 refine G ?_
    refine xV (e_entry 1 (hmm _) hB he (q0 rfl) rfl) rfl rfl ?_
    rw [hk,hv]
    iterate 2 refine G ?_
    refine X_alloc Tryz.zeroValue132 rfl fun b6=>?_
    refine X_alloc Tryz.zeroValue58 rfl fun b7=>?_
    refine X_st (v:= .agg _) rfl rfl Tryz.sizeOf132 ?_
    refine X_st (v:= .agg _) rfl rfl Tryz.sizeOf58 ?_
    iterate 17 refine G ?_
    refine H_cond rfl ?_ ?_<;>intro hd
    ·exact absurd hd (by simp;omega)
    ·iterate 10 refine G ?_
     refine H_cond rfl ?_ ?_<;>intro hq
     ·iterate 3 refine G ?_
      refine X_push (k:=9) (i:=Tryz.t58) 2 (y) Tryz.underlying49 (by kernel_rfl) rfl rfl rfl rfl Tryz.sizeOf58 Tryz.zeroValue58 rfl rfl rfl rfl rfl rfl ⟨by simp only [List.length_append,List.length_map,List.length_cons,List.length_nil];omega,by decide⟩ rfl rfl fun B A2 c2=>?_
      iterate 3 refine G ?_
      exact loopJ_normal (vs++[x],A2,c2) agr ⟨by show _=Value.slice A2 ((vs++[x]).map evOf).length c2;rw [hmx];rfl,trivial⟩ (fun w hw=>by show Mem _ [evRow A2 c2 ((vs++[x]).map evOf),mit r m clock (bornA (vs++[x])) clock] _;rw [hmx,←bornA_push];exact hw.tail.tail) rfl ⟨fun e h=>by
       rcases List.mem_append.1 h with h|h
       ·exact hin e h
       ·rw [List.mem_singleton.1 h];exact he,hnd2,fun h0=>by simp at h0⟩ (by rw [←bornA_push];exact left_lt es.toList (bornA vs) x he hs)
     ·exact absurd hq (by simp;omega)
   ·cases hb
end Go.Proofs.Gos
namespace Go.Proofs.E
open Go Go.RowKit
section
variable {c:Cx} {w0:World} {L:List Item} {f:Fr} {ty t el:TypeId} {g:Bool} {x:Operand}
theorem e_neNilP {A:Option Addr} {t2:TypeId} (ht:c.P.underlying t=some (.pointer el)) (hx:OpV g f x (.pointer A)):EvG g c w0 L f (.binOp .neq t x (.const (.pointer none)) t2) ty (.bool (!A.isNone)):=fun e _ _ _ _ w _=>by
 have hq: ∀d,(Op.equalIn (d+1) t (.pointer A) (.pointer none)).run c.P w= .ok A.isNone w:=fun d=>by
  cases A<;>simp [Op.equalIn,run_underlying ht]
 have hq:(Op.equal t (.pointer A) (.pointer none)).run c.P w= .ok A.isNone w:=hq 9999
 simp [execOp,hx e,ev_const,eqGuard,binOp,hq,Result.andThen]
theorem e_fv {i:Nat} {fs:Array Field} {fl:Field} {cs:Array Value} {v:Value} (ht:c.P.underlying t=some (.struct fs)) (hf:fs[i]?=some fl) (ha: ∀w,(isAgg fl.type).run c.P w= .ok false w) (hx:OpV g f x (.agg cs)) (hv:cs[fl.offset]?=some v):
  EvG g c w0 L f (.field t x i) ty v:=fun e _ _ _ _ w _=>by
 simp [execOp,hx e,Instr.field,run_underlying ht,hf,asAgg,part,ha,hv,Result.andThen]
theorem resC {fn:Func} {a b o n:Nat} {vs:List Value} (hr:fn.results= #[.cell a t]) (hv:f a= .pointer (some ⟨b,o,none⟩)) (ht: ∀w,(isAgg t).run c.P w= .ok true w) (hs: ∀w,(sizeOf t).run c.P w= .ok n w)
  (hc:true=true→ ∀w,Mem w0 L w→ ∀j u,vs[j]?=some u→w.cell? ⟨b,o+j,none⟩=some u:=by first|exact bxs 0 rfl|exact bxs 1 rfl|exact bxs 2 rfl|exact bxs 3 rfl|exact bxs 4 rfl|exact bxs 5 rfl|exact bxs 6 rfl|exact bxs 7 rfl|exact bxs 8 rfl|exact bxs 9 rfl|exact bxs 10 rfl|exact bxs 11 rfl|exact bxs 12 rfl|exact bxs 13 rfl) (hl:vs.length=n:=by rfl):ResIs c.P c.N fn w0 L f (.agg vs.toArray):=fun w ds ac hw ha=>by
 have h1:=ha.get a
 have h2:=e_lds (c:=c) (f:=f) (x:= .tmp a) (ty:=0) (g:=true) (L:=L) (w0:=w0) ht hs (fun _=>hv) hc hl rfl none "" #[] none w hw
 simp only [execOp,show ev f (.tmp a)= .pointer (some ⟨b,o,none⟩) from hv,Instr.loadAt,Instr.sureAddr,Sem.run_bind,Sem.run_pure,Result.andThen_ok] at h2
 have hlv:(loadVar t ⟨b,o,none⟩).run c.P w= .ok (.agg vs.toArray) w:=by
  cases hx:(loadVar t ⟨b,o,none⟩).run c.P w with
  |ok a' w'=>
   rw [hx] at h2
   simp only [Result.andThen] at h2
   injection h2 with h4 h5
   injection h4 with h4
   rw [h4,h5]
  |halt a' w'=>rw [hx] at h2;cases h2
 rw [Array.getD_eq_getD_getElem?,hv] at h1
 simp [results,hr,h1,asAddr,hlv,Result.andThen]
end
end Go.Proofs.E
namespace Go.Proofs.E
open Go Go.RowKit
def Lis (l:Array Bool) (j:Nat):Prop:=l.getD j false=true
theorem lis_set {l:Array Bool} {i:Nat} (h:i<l.size):Lis (l.setIfInBounds i true)=fun j=>Lis l j∨j=i:=by
 funext j;apply propext;unfold Lis
 rw [Array.getD_eq_getD_getElem?,Array.getD_eq_getD_getElem?,Array.getElem?_setIfInBounds]
 by_cases e:i=j
 ·subst e;simp [h]
 ·rw [if_neg e]
  exact ⟨.inl,fun h=>h.resolve_right fun e2=>e e2.symm⟩
theorem lis_no {l:Array Bool} {i:Nat} (h:i<l.size):l.getD i true=false↔ ¬Lis l i:=by
 unfold Lis
 rw [Array.getD_eq_getD_getElem?,Array.getD_eq_getD_getElem?,Array.getElem?_eq_getElem h]
 simp
theorem lis_count {l:Array Bool} {i:Nat} (h:i<l.size) (hn: ¬Lis l i) {n:Nat} (hc:l.toList.count false≤n+1):(l.setIfInBounds i true).toList.count false≤n:=by
 have h1:l[i]=false:=by
  have:=(lis_no h).2 hn
  rwa [Array.getD_eq_getD_getElem?,Array.getElem?_eq_getElem h] at this
 rw [Array.toList_setIfInBounds,List.count_set (by simpa using h),if_pos (by rw [Array.getElem_toList,h1];rfl),if_neg (by decide)]
 omega
theorem lis_all {l:Array Bool} (hc:l.toList.count false≤0) {i:Nat} (h:i<l.size):Lis l i:=by
 refine Classical.byContradiction fun hn=>?_
 have h1:l[i]=false:=by
  have:=(lis_no h).2 hn
  rwa [Array.getD_eq_getD_getElem?,Array.getElem?_eq_getElem h] at this
 have:=List.count_eq_zero.1 (Nat.le_zero.1 hc)
 exact this (by rw [←h1];exact Array.mem_toList_iff.2 (Array.getElem_mem h))
theorem lis_none {n j:Nat}: ¬Lis (Array.replicate n false) j:=fun h=>by
 unfold Lis at h
 rw [Array.getD_eq_getD_getElem?,Array.getElem?_replicate] at h
 split at h<;>cases h
def edgesDown (ops:List Oper):Bool:=(List.range ops.length).all fun i=>match ops[i]? with
 |some o=>o.after.toList.all fun e=>!Region.binds .any e||decide (e.on<i)
 |none=>true
theorem edgesDown_spec {ops:List Oper} (h:edgesDown ops=true) {i:Nat} {o:Oper} (ho:ops[i]?=some o) {e:Edge} (he:e∈o.after) (hb:Region.binds .any e=true):e.on<i:=by
 have hi:i<ops.length:=(List.getElem?_eq_some_iff.1 ho).1
 have h1:=List.all_eq_true.1 h i (List.mem_range.2 hi)
 rw [ho] at h1
 have h2:=List.all_eq_true.1 h1 e (Array.mem_toList_iff.2 he)
 rw [hb] at h2
 simpa using h2
section
variable {c:Cx} {PQ:PJ} {w0:World} {L:List Item} {f:Fr} {ops:List Oper}
theorem Eff.opA {i:Nat} {o:Oper} {K:List Item→Fr→Prop} (hi:ops[i]?=some o) (h:Eff c w0 L f o K) {a:Act} (ha:IsFr c.N (marks L) a f):OpA c ops w0 i (fun L' a'=> ∃f',IsFr c.N (marks L') a' f'∧K L' f') L a:=by
 unfold OpA
 rw [show ops.toArray[i]?=some o by simpa using hi]
 intro w hw
 rw [if_pos (by simp [Region.wanted,h.guard]),ha.eval]
 have h2:=h.run w hw
 generalize (execOp (ev f) o).run c.P w=r at h2
 cases r with
 |halt x w'=>exact False.elim h2
 |ok x w'=>
  cases x with
  |value v=>obtain ⟨L',hm,hk,hn⟩:=h2;exact ⟨L',hm,_,hk▸ha.putF rfl h.dst v,hn⟩
  |skip=>obtain ⟨L',hm,hk,hn⟩:=h2;exact ⟨L',hm,_,hk▸ha.putF rfl h.dst undef,hn⟩
  |enter k args=>
   obtain ⟨e,hc⟩:=h2
   refine ⟨e,hc.mono ?_⟩
   rintro e w'' ⟨v,L',rfl,hm,hk,hn⟩
   exact ⟨v,L',rfl,hm,_,hk▸ha.putF rfl h.dst v,hn⟩
  |_=>exact False.elim h2
theorem inv_all (J:(Nat→Prop)→List Item→Fr→Prop) {Q:Exit→Act→World→Prop} (hE:edgesDown ops=true) (hnd: ∀(j:Nat) (o:Oper),ops.toArray[j]?=some o→ ∀x,o.op≠ .defer x)
  (hs: ∀S L f i o,J S L f→ops[i]?=some o→ ¬S i→(∀e∈o.after,Region.binds .any e=true→S e.on)→Eff c w0 L f o fun L' f'=>J (fun j=>S j∨j=i) L' f')
  (hq: ∀S L f a w,(∀j,j<ops.length→S j)→J S L f→IsFr c.N (marks L) a f→Mem w0 L w→Q .normal a w):
  ∀(fuel:Nat) (l:Array Bool) (L:List Item) (f:Fr) (a:Act) (w:World),l.size=ops.length→l.toList.count false≤fuel→J (Lis l) L f→IsFr c.N (marks L) a f→Mem w0 L w→wpAnyIn (FW c.ro) 0 c.P .any ops.toArray Q fuel l a w
 |0,l,L,f,a,w,hl,hc,hJ,ha,hw=>by
  have hall: ∀j,j<ops.length→Lis l j:=fun j hj=>lis_all hc (by rw [hl];exact hj)
  refine ⟨List.eq_nil_iff_forall_not_mem.2 fun i hi=>?_,hq _ L f a w hall hJ ha hw⟩
  obtain ⟨hu,o,ho,_⟩:=mem_ready.1 hi
  have hil:i<ops.length:=by
   have ho:ops[i]?=some o:=by simpa using ho
   exact (List.getElem?_eq_some_iff.1 ho).1
  exact (lis_no (by rw [hl];exact hil)).1 hu (hall i hil)
 |fuel+1,l,L,f,a,w,hl,hc,hJ,ha,hw=>by
  refine ⟨fun hr=>hq _ L f a w (fun j=>?_) hJ ha hw,fun i hi=>?_⟩
  ·induction j using Nat.strongRecOn with
   |_ j ih=>
    intro hj
    refine Classical.byContradiction fun hn=>?_
    have ho:ops[j]?=some ops[j]:=List.getElem?_eq_getElem hj
    have:j∈Region.ready .any ops.toArray l:=mem_ready.2 ⟨(lis_no (by rw [hl];exact hj)).2 hn,ops[j],by simp [hj],fun e he hb=>by
     have hlt:=edgesDown_spec hE ho he hb
     exact ih e.on hlt (by omega)⟩
    rw [hr] at this;cases this
  ·obtain ⟨hu,o,ho,he⟩:=mem_ready.1 hi
   have ho:ops[i]?=some o:=by simpa using ho
   have hil:i<ops.length:=(List.getElem?_eq_some_iff.1 ho).1
   have hils:i<l.size:=by rw [hl];exact hil
   have hns:=(lis_no hils).1 hu
   refine OpA.wpOpIn hnd hw (fun L' a' w' hw' h3=>?_) ((hs _ L f i o hJ ho hns he).opA ho ha)
   obtain ⟨f',ha',hJ'⟩:=h3
   exact inv_all J hE hnd hs hq fuel (l.setIfInBounds i true) L' f' a' w' (by simpa using hl) (lis_count hils hns hc) (by rw [lis_set hils];exact hJ') ha' hw'
theorem H_inv (J:(Nat→Prop)→List Item→Fr→Prop) {id:Nat} (hm:c.P.follows .mixedOrders=true) (hB:(edgesDown ops&&ops.all (fun o=>!isDefer o.op))=true) (h0: ∀S:Nat→Prop,(∀j,¬S j)→J S L f)
  (hs: ∀S L f i o,J S L f→ops[i]?=some o→ ¬S i→(∀e∈o.after,Region.binds .any e=true→S e.on)→Eff c w0 L f o fun L' f'=>J (fun j=>S j∨j=i) L' f')
  (hq: ∀S L f,(∀j,j<ops.length→S j)→J S L f→PQ .normal w0 L f):H c (.region id ops.toArray true) PQ w0 L f:=by
 intro a w ha hw
 rw [Bool.and_eq_true] at hB
 have hnd: ∀(j:Nat) (o:Oper),ops.toArray[j]?=some o→ ∀x,o.op≠ .defer x:=fun j o hj=>not_defer (by
  have hmem:o∈ops:=List.mem_of_getElem? (by simpa using hj)
  simpa using List.all_eq_true.1 hB.2 o hmem)
 refine wpIn_region_any hm ?_
 exact inv_all J hB.1 hnd hs (fun S L f a w hS hJ ha hw=>⟨w0,L,f,ha,hw,hq S L f hS hJ⟩) _ _ L f a _ (by simp) (by simp) (h0 _ fun j=>lis_none) ha hw.drew
def awaits (ops:List Oper) (j k:Nat):Bool:=match ops[j]? with
 |some o=>o.after.toList.any fun e=>Region.binds .any e&&Nat.beq e.on k
 |none=>false
theorem awaits_spec {j k:Nat} {o:Oper} (h:awaits ops j k=true) (ho:ops[j]?=some o): ∃e∈o.after,Region.binds .any e=true∧e.on=k:=by
 unfold awaits at h
 rw [ho] at h
 obtain ⟨e,he,h1⟩:=List.any_eq_true.1 h
 rw [Bool.and_eq_true] at h1
 exact ⟨e,Array.mem_toList_iff.1 he,h1.1,Nat.eq_of_beq_eq_true h1.2⟩
def dstsOk (ops:List Oper) (W:List Nat):Bool:=(ops.filterMap (·.dst)).all (fun d=>W.elem d)&&(List.range ops.length).all fun i=>(List.range ops.length).all fun j=>match (ops.map (·.dst))[i]?,(ops.map (·.dst))[j]? with
 |some (some d),some (some e)=>Nat.beq i j||!Nat.beq d e
 |_,_=>true
theorem dstsOk_in {W:List Nat} (h:dstsOk ops W=true) {i d:Nat} {o:Oper} (ho:ops[i]?=some o) (hd:o.dst=some d):W.elem d=true:=by
 unfold dstsOk at h
 rw [Bool.and_eq_true] at h
 exact List.all_eq_true.1 h.1 d (List.mem_filterMap.2 ⟨o,List.mem_of_getElem? ho,hd⟩)
theorem dstsOk_ne {W:List Nat} (h:dstsOk ops W=true) {i j d e:Nat} {o o':Oper} (ho:ops[i]?=some o) (ho':ops[j]?=some o') (hd:o.dst=some d) (he:o'.dst=some e) (hij:i≠j):d≠e:=by
 unfold dstsOk at h
 rw [Bool.and_eq_true] at h
 have h1:=List.all_eq_true.1 (List.all_eq_true.1 h.2 i (List.mem_range.2 (List.getElem?_eq_some_iff.1 ho).1)) j (List.mem_range.2 (List.getElem?_eq_some_iff.1 ho').1)
 rw [List.getElem?_map,List.getElem?_map,ho,ho'] at h1
 simp only [Option.map_some,hd,he] at h1
 intro e2
 subst e2
 simp [hij] at h1
theorem H_invP {f0:Fr} (W:List Nat) (P:Nat→Value→Prop) (M:(Nat→Prop)→List Item→Prop) {id:Nat} (hm:c.P.follows .mixedOrders=true) (hB:(dstsOk ops W&&(edgesDown ops&&ops.all (fun o=>!isDefer o.op)))=true)
  (h0: ∀S:Nat→Prop,(∀j,¬S j)→M S L)
  (hs: ∀(S:Nat→Prop) L f i o,Agree W f f0→(∀j o' d,ops[j]?=some o'→S j→o'.dst=some d→P d (f d))→M S L→ops[i]?=some o→ ¬S i→(∀k,awaits ops i k=true→S k)→(∀j k,awaits ops j k=true→S j→S k)→
   Eff c w0 L f o fun L' f'=>M (fun j=>S j∨j=i) L'∧ ∃v,f'=putF f o.dst v∧ ∀d,o.dst=some d→P d v)
  (hq: ∀(S:Nat→Prop) L f,(∀j,j<ops.length→S j)→Agree W f f0→(∀j o' d,ops[j]?=some o'→S j→o'.dst=some d→P d (f d))→M S L→PQ .normal w0 L f):H c (.region id ops.toArray true) PQ w0 L f0:=by
 rw [Bool.and_eq_true] at hB
 refine H_inv (fun S L f=>Agree W f f0∧(∀j o' d,ops[j]?=some o'→S j→o'.dst=some d→P d (f d))∧M S L∧(∀j k,awaits ops j k=true→S j→S k)) hm hB.2 (fun S h=>⟨agree_self,fun j _ _ _ hj=>absurd hj (h j),h0 S h,fun j _ _ hj=>absurd hj (h j)⟩) ?_ (fun S L f hS h=>hq S L f hS h.1 h.2.1 h.2.2.1)
 intro S L f i o h ho hns hdep
 obtain ⟨hA,hF,hM,hC⟩:=h
 have hw: ∀k,awaits ops i k=true→S k:=fun k hk=>by
  obtain ⟨e,he,hb,rfl⟩:=awaits_spec hk ho
  exact hdep e he hb
 obtain ⟨h1,h2,h3,h4⟩:=hs S L f i o hA hF hM ho hns hw hC
 refine ⟨h1,h2,h3,fun w hw2=>?_⟩
 have h5:=h4 w hw2
 have key: ∀L' f',(M (fun j=>S j∨j=i) L'∧ ∃v,f'=putF f o.dst v∧ ∀d,o.dst=some d→P d v)→(Agree W f' f0∧(∀j o' d,ops[j]?=some o'→(S j∨j=i)→o'.dst=some d→P d (f' d))∧M (fun j=>S j∨j=i) L'∧(∀j k,awaits ops j k=true→(S j∨j=i)→(S k∨k=i))):=by
  rintro L' f' ⟨hM',v,rfl,hP⟩
  refine ⟨?_,?_,hM',?_⟩
  ·cases hd:o.dst with
   |none=>exact hA
   |some d=>exact agree_upd (dstsOk_in hB.1 ho hd) hA
  ·intro j o' d' hj hS hd'
   by_cases hji:j=i
   ·subst hji
    rw [ho] at hj;cases hj
    rw [hd']
    show P d' (upd f d' v d')
    rw [show upd f d' v d'=v by simp [upd]]
    exact hP d' hd'
   ·have h6:=hF j o' d' hj (hS.resolve_right hji) hd'
    cases hd:o.dst with
    |none=>exact h6
    |some d=>
     have hne:=dstsOk_ne hB.1 hj ho hd' hd hji
     show P d' (upd f d v d')
     rw [show upd f d v d'=f d' by
      have:Nat.beq d' d=false:=by cases hb:Nat.beq d' d with
       |false=>rfl
       |true=>exact absurd (Nat.eq_of_beq_eq_true hb) hne
      simp [upd,this]]
     exact h6
  ·intro j k hjk hS
   rcases hS with hS|rfl
   ·exact .inl (hC j k hjk hS)
   ·exact .inl (hw k hjk)
 unfold EffR at h5⊢
 split at h5
 ·obtain ⟨L',a1,a2,a3⟩:=h5;exact ⟨L',a1,a2,key _ _ a3⟩
 ·obtain ⟨L',a1,a2,a3⟩:=h5;exact ⟨L',a1,a2,key _ _ a3⟩
 ·exact ⟨h5.1,h5.2.mono fun e w'' ⟨v,L',b1,b2,b3,b4⟩=>⟨v,L',b1,b2,b3,key _ _ b4⟩⟩
 ·exact h5.elim
end
end Go.Proofs.E
namespace Go.Proofs.E
open Go Go.RowKit
theorem H_invF {c:Cx} {PQ:PJ} {w0:World} {L:List Item} {ops:List Oper} {f0:Fr} (W:List Nat) (P:Nat→Value→Prop) (M:(Nat→Prop)→List Item→Fr→Prop) {id:Nat} (hm:c.P.follows .mixedOrders=true) (hB:(dstsOk ops W&&(edgesDown ops&&ops.all (fun o=>!isDefer o.op)))=true)
  (h0: ∀S:Nat→Prop,(∀j,¬S j)→M S L f0)
  (hs: ∀(S:Nat→Prop) L f i o,Agree W f f0→(∀j o' d,ops[j]?=some o'→S j→o'.dst=some d→P d (f d))→M S L f→ops[i]?=some o→ ¬S i→(∀k,awaits ops i k=true→S k)→(∀j k,awaits ops j k=true→S j→S k)→
   Eff c w0 L f o fun L' f'=>M (fun j=>S j∨j=i) L' f'∧ ∃v,f'=putF f o.dst v∧ ∀d,o.dst=some d→P d v)
  (hq: ∀(S:Nat→Prop) L f,(∀j,j<ops.length→S j)→Agree W f f0→M S L f→PQ .normal w0 L f):H c (.region id ops.toArray true) PQ w0 L f0:=by
 rw [Bool.and_eq_true] at hB
 refine H_inv (fun S L f=>Agree W f f0∧(∀j o' d,ops[j]?=some o'→S j→o'.dst=some d→P d (f d))∧M S L f∧(∀j k,awaits ops j k=true→S j→S k)) hm hB.2 (fun S h=>⟨agree_self,fun j _ _ _ hj=>absurd hj (h j),h0 S h,fun j _ _ hj=>absurd hj (h j)⟩) ?_ (fun S L f hS h=>hq S L f hS h.1 h.2.2.1)
 intro S L f i o h ho hns hdep
 obtain ⟨hA,hF,hM,hC⟩:=h
 have hw: ∀k,awaits ops i k=true→S k:=fun k hk=>by
  obtain ⟨e,he,hb,rfl⟩:=awaits_spec hk ho
  exact hdep e he hb
 obtain ⟨h1,h2,h3,h4⟩:=hs S L f i o hA hF hM ho hns hw hC
 refine ⟨h1,h2,h3,fun w hw2=>?_⟩
 have h5:=h4 w hw2
 have key: ∀L' f',(M (fun j=>S j∨j=i) L' f'∧ ∃v,f'=putF f o.dst v∧ ∀d,o.dst=some d→P d v)→(Agree W f' f0∧(∀j o' d,ops[j]?=some o'→(S j∨j=i)→o'.dst=some d→P d (f' d))∧M (fun j=>S j∨j=i) L' f'∧(∀j k,awaits ops j k=true→(S j∨j=i)→(S k∨k=i))):=by
  rintro L' f' ⟨hM',v,rfl,hP⟩
  refine ⟨?_,?_,hM',?_⟩
  ·cases hd:o.dst with
   |none=>exact hA
   |some d=>exact agree_upd (dstsOk_in hB.1 ho hd) hA
  ·intro j o' d' hj hS hd'
   by_cases hji:j=i
   ·subst hji
    rw [ho] at hj;cases hj
    rw [hd']
    show P d' (upd f d' v d')
    rw [show upd f d' v d'=v by simp [upd]]
    exact hP d' hd'
   ·have h6:=hF j o' d' hj (hS.resolve_right hji) hd'
    cases hd:o.dst with
    |none=>exact h6
    |some d=>
     have hne:=dstsOk_ne hB.1 hj ho hd' hd hji
     show P d' (upd f d v d')
     rw [show upd f d v d'=f d' by
      have:Nat.beq d' d=false:=by cases hb:Nat.beq d' d with
       |false=>rfl
       |true=>exact absurd (Nat.eq_of_beq_eq_true hb) hne
      simp [upd,this]]
     exact h6
  ·intro j k hjk hS
   rcases hS with hS|rfl
   ·exact .inl (hC j k hjk hS)
   ·exact .inl (hw k hjk)
 unfold EffR at h5⊢
 split at h5
 ·obtain ⟨L',a1,a2,a3⟩:=h5;exact ⟨L',a1,a2,key _ _ a3⟩
 ·obtain ⟨L',a1,a2,a3⟩:=h5;exact ⟨L',a1,a2,key _ _ a3⟩
 ·exact ⟨h5.1,h5.2.mono fun e w'' ⟨v,L',b1,b2,b3,b4⟩=>⟨v,L',b1,b2,b3,key _ _ b4⟩⟩
 ·exact h5.elim
theorem at_app {α:Type} (R:List α) {X:List α} {j:Nat} {x:α} (h:X[j]?=some x):(R++X)[R.length+j]?=some x:=by rw [List.getElem?_append_right (by omega),Nat.add_sub_cancel_left];exact h
theorem set_app {α:Type} (R X:List α) (j:Nat) (y:α):(R++X).set (R.length+j) y=R++X.set j y:=by rw [List.set_append_right _ _ (by omega),Nat.add_sub_cancel_left]
structure Keeps (it:Item) (φ:World→Prop):Prop where
 due:it.due=[]
 ok: ∀w,it.A w→φ w
theorem Keeps.bag {R:List Item} {it:Item} {φ:World→Prop} (h:Keeps it φ) (hR:it∈R):Keeps (bag R) φ:=⟨rfl,fun w hA=>h.ok w (hA.1 it hR)⟩
theorem Keeps.two {it:Item} {φ ψ:World→Prop} (h:Keeps it φ) (h2:Keeps it ψ):Keeps it fun w=>φ w∧ψ w:=⟨h.due,fun w hA=>⟨h.ok w hA,h2.ok w hA⟩⟩
theorem Keeps.row {α:Type} {e:TypeId} {k:Nat} {enc:α→List Value} {A:Option Addr} {c:Nat} {xs:List α} (he: ∀x,(enc x).length=k) (hl:xs.length≤9223372036854775807):Keeps (rowT e k enc A c xs) fun w=>SlAt w k enc A xs.length xs:=
 ⟨rfl,fun w hA=>by
  have hA:w.ownsRow 0 e k (.slice A xs.length c) xs.length (xs.flatMap enc):=hA
  refine ⟨rfl,hl,fun hn=>?_⟩
  rcases hA.2 with ⟨_,h0⟩|⟨g,cap,cur,hv,h1,h2,h3,h4,h5,h6⟩
  ·omega
  ·simp only [Value.slice.injEq] at hv
   obtain ⟨rfl,_,rfl⟩:=hv
   refine ⟨g,0,rfl,(Array.getElem?_eq_some_iff.1 h2).1,fun i x hx r u hu=>?_⟩
   have:=hA.cells (g:=g) rfl (i*k+r) u (flat_get he xs i x hx r u hu)
   rw [add_none rfl] at this
   simpa using this⟩
def KR {α:Type} (R:List Item) (φ:α→World→Prop) (s:α):Prop:= ∃it∈R,Keeps it (φ s)
theorem KR.more {α:Type} {R:List Item} {φ:α→World→Prop} {s:α} (h:KR R φ s) (it:Item):KR (it::R) φ s:=by
 obtain ⟨x,hx,hk⟩:=h
 exact ⟨x,List.mem_cons_of_mem _ hx,hk⟩
structure CH {α:Type} (S:Nat→Prop) (ca st:Nat) (val:α→Value) (v:Value) (R:List Item) (φ:α→World→Prop) (start s:α):Prop where
 a: ¬S st→s=start
 b:S ca→ ∃z:α,v=val z∧KR R φ z
 c:S st→KR R φ s
section
variable {α:Type} {S:Nat→Prop} {ca st i:Nat} {val:α→Value} {v:Value} {R:List Item} {φ:α→World→Prop} {start s z:α}
theorem CH.begin (h: ∀j,¬S j):CH S ca st val v R φ start start:=⟨fun _=>rfl,fun h2=>absurd h2 (h ca),fun h2=>absurd h2 (h st)⟩
theorem CH.keep (h:CH S ca st val v R φ start s) (h1:ca≠i) (h2:st≠i):CH (fun j=>S j∨j=i) ca st val v R φ start s:=
 ⟨fun hn=>h.a fun hs=>hn (.inl hs),fun hs=>h.b (hs.resolve_right h1),fun hs=>h.c (hs.resolve_right h2)⟩
theorem CH.more (h:CH S ca st val v R φ start s) (it:Item):CH S ca st val v (it::R) φ start s:=
 ⟨h.a,fun hs=>by obtain ⟨z,hz,hk⟩:=h.b hs;exact ⟨z,hz,hk.more it⟩,fun hs=>(h.c hs).more it⟩
theorem CH.call (h:CH S ca st val v R φ start s) (h2:st≠ca) {it:Item} (hk:Keeps it (φ z)):CH (fun j=>S j∨j=ca) ca st val (val z) (it::R) φ start s:=
 ⟨fun hn=>h.a fun hs=>hn (.inl hs),fun _=>⟨z,rfl,it,List.mem_cons_self ..,hk⟩,fun hs=>(h.c (hs.resolve_right h2)).more it⟩
theorem CH.store (h:CH S ca st val v R φ start s) (hc:S ca): ∃z,v=val z∧CH (fun j=>S j∨j=st) ca st val v R φ start z:=by
 obtain ⟨z,hz,hk⟩:=h.b hc
 exact ⟨z,hz,fun hn=>absurd (.inr rfl) hn,fun _=>⟨z,hz,hk⟩,fun _=>hk⟩
end
end Go.Proofs.E
