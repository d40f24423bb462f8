import Derived.Test.YtakhechhnnjbcaaGreatBN25
import Derived.Test.YtakhechhnnjbcaaGreatBN19
import Derived.Test.YtakhechhnnjbcaaGreatBN04
import Derived.Test.YtakhechhnnjbcaaGreatTy
set_option maxRecDepth 100000
set_option maxHeartbeats 8000000
set_option linter.unusedVariables false
set_option linter.unusedSimpArgs false
namespace Go.Proofs.Far
open Go Go.RowKit Go.Proofs.E Go.Proofs.Cus Go.Proofs.Rid
structure BX where
 q:Nat
 b:Bil
 A:Option Addr
 c:Nat
deriving Inhabited
def BX.ptr (x:BX):List Value:=[.pointer (some ⟨x.q,0,none⟩)]
def bxParts (x:BX):List E.Item:=[box x.q 204 (x.b.cells x.A x.c),itRow x.A x.c x.b.items]
abbrev ptRow (A:Option Addr) (c:Nat) (xs:List BX):E.Item:=rowT 200 1 BX.ptr A c xs
theorem errM {w0 w:World} {L:List E.Item} (h:Mem w0 L w):Mem w0 [faRow none 0 [],bag (([]:List FX).flatMap faParts)] w:=((mem_nil.2 h.1).noBag).nilRow 81 4 FX.cells (c:=0) rfl
theorem bag_perm {w0 w:World} {L:List E.Item} {xs ys:List FX} (h:Mem w0 (bag (xs.flatMap faParts)::L) w) (hp:ys.Perm xs):Mem w0 (bag (ys.flatMap faParts)::L) w:=by
 have h1:=h.unbag
 exact (h1.perm ((hp.flatMap_right faParts).append_right L)).bag
theorem filter_map_r {q:Rd→Bool}: ∀l:List RX,(l.filter fun x=>q x.r).map (·.r)=(l.map (·.r)).filter q
 |[]=>rfl
 |x::l=>by
  rw [List.map_cons,List.filter_cons,List.filter_cons]
  cases h:q x.r
  ·rw [if_neg (by simp),if_neg (by simp)];exact filter_map_r l
  ·rw [if_pos rfl,if_pos rfl,List.map_cons,filter_map_r l]
theorem finB_eq (p:Pr) (vs:List Pen.V) (b:Bil) (d:Int):finB p vs b d=finB2 p vs (addB b 6 0 d) (addB b 6 0 d).ride:=by
 unfold finB finB2
 rw [(addB_ride b 6 0 d).1]
attribute [local irreducible] firstP useS dayS finB2 finB fsAll fnAll cntS byRide addB FS FN
theorem all_w (f:Fl) (fa:FA) (p:Pr) (a:PrA) (A:Option Addr) (n c:Nat) (rs:List RX) (V:Option Addr) (vn vc:Nat) (vs:List Pen.V) (w:World) (hf:FlAt w f fa) (hp:PrAt w p a) (hr:RdsAt w A n rs) (hs:Short rs) (hv:Pen.VsAt w V vn vs) (hpl: ∀x∈rs,x.r.pl≤9223372036854775807):
  Calls Tryz.prog 64 #[.agg (f.cells fa).toArray, .agg (p.cells a).toArray, .slice A n c, .slice V vn vc] w fun e w'=> ∃z:{z:List FX×(Option Addr×Nat)//z.1.map (·.b)=allR f p (rs.map (·.r)) vs},e= .returned (.tuple #[.slice z.1.2.1 z.1.1.length z.1.2.2, .int .i64 (allErr f p (rs.map (·.r)) vs)])∧Mem w [faRow z.1.2.1 z.1.2.2 z.1.1,bag (z.1.1.flatMap faParts)] w':=by
 have hl:=hr.1.1
 have hn:=hr.1.2.1
 refine H_enter Tryz.func64 rfl Tryz.ntmps64 rfl ?_
 iterate 2 refine G ?_
 refine X_box (v:= .agg _) rfl rfl fun b4=>?_
 refine X_box (v:= .agg _) rfl rfl fun b5=>?_
 refine X_box (v:= .slice _ _ _) rfl rfl fun b7=>?_
 iterate 9 refine G ?_
 refine xC (en Tryz.call35 (ha2 (q0 rfl) (q0 rfl))) (fun _ w hw=>fcheck_w f fa p a w (hf.mem hw) (hp.mem hw)) rfl rfl ?_
 iterate 9 refine G ?_
 refine H_cond rfl ?_ ?_<;>intro h1
 ·have h1':prErr f p≠0:=by simpa using h1
  have e2:allR f p (rs.map (·.r)) vs=[]:=by unfold allR;rw [if_pos (.inl h1')]
  rw [show allErr f p (rs.map (·.r)) vs=prErr f p by unfold allErr;rw [if_pos h1']]
  iterate 9 refine G ?_
  exact ret2 (v:= .slice _ _ _) (x:= .int _ _) rfl rfl rfl rfl fun w' hw=>⟨⟨([],none,0),e2.symm⟩,rfl,errM hw⟩
 ·have h1':prErr f p=0:=by simpa using h1
  iterate 6 refine G ?_
  refine xC (en Tryz.call105 (ha1 (q0 rfl))) (fun _ w hw=>rides_w A n c rs w (hr.mem hw) hs) rfl rfl ?_
  iterate 9 refine G ?_
  refine H_cond rfl ?_ ?_<;>intro h2
  ·have h2':rdsErr (rs.map (·.r))≠0:=by simpa using h2
   have e2:allR f p (rs.map (·.r)) vs=[]:=by unfold allR;rw [if_pos (.inr (.inl h2'))]
   rw [show allErr f p (rs.map (·.r)) vs=rdsErr (rs.map (·.r)) by unfold allErr;rw [if_neg (by omega),if_pos h2']]
   iterate 9 refine G ?_
   exact ret2 (v:= .slice _ _ _) (x:= .int _ _) rfl rfl rfl rfl fun w' hw=>⟨⟨([],none,0),e2.symm⟩,rfl,errM hw⟩
  ·have h2':rdsErr (rs.map (·.r))=0:=by simpa using h2
   iterate 6 refine G ?_
   refine xC (en Tryz.call106 (ha1 (q0 rfl))) (fun _ w hw=>Pen.verd_w V vn vc vs w (hv.mem hw)) rfl rfl ?_
   iterate 9 refine G ?_
   refine H_cond rfl ?_ ?_<;>intro h3
   ·have h3':Pen.vErr vs≠0:=by simpa using h3
    have e2:allR f p (rs.map (·.r)) vs=[]:=by unfold allR;rw [if_pos (.inr (.inr h3'))]
    rw [show allErr f p (rs.map (·.r)) vs=Pen.vErr vs by unfold allErr;rw [if_neg (by omega),if_neg (by omega),if_pos h3']]
    iterate 9 refine G ?_
    exact ret2 (v:= .slice _ _ _) (x:= .int _ _) rfl rfl rfl rfl fun w' hw=>⟨⟨([],none,0),e2.symm⟩,rfl,errM hw⟩
   ·have h3':Pen.vErr vs=0:=by simpa using h3
    have hgood:Good (rs.map (·.r)):=rdsErr_good h2'
    have hE:allErr f p (rs.map (·.r)) vs=if allP p (rs.map (·.r)) vs=none then 2 else 0:=by unfold allErr;rw [if_neg (by omega),if_neg (by omega),if_neg (by omega)]
    have hR:allR f p (rs.map (·.r)) vs=(allP p (rs.map (·.r)) vs).getD []:=by unfold allR;rw [if_neg (by omega)]
    have hfew:=hgood.few
    rw [List.length_map,hl] at hfew
    obtain ⟨_,_,hpas,_,_,_,hc1,hc2,hpe⟩:=prErr_parts h1'
    obtain ⟨Q,hQ⟩: ∃Q:Nat→List RX,∀k,Q k=(rs.take k).filter fun x=>!x.r.open_:=⟨_,fun _=>rfl⟩
    have hQ0:Q 0=[]:=by rw [hQ];rfl
    have hQn:Q n=rs.filter fun x=>!x.r.open_:=by rw [hQ,←hl,List.take_length]
    have hQl: ∀k,(Q k).length≤n:=fun k=>by
     rw [hQ]
     exact Nat.le_trans (List.length_filter_le _ _) (by rw [List.length_take];omega)
    have hQs: ∀k x,rs[k]?=some x→Q (k+1)=if (!x.r.open_)=true then Q k++[x] else Q k:=fun k x h=>by
     rw [hQ,hQ,snocT _ _ _ h,List.filter_append]
     split
     ·rename_i ho;rw [List.filter_cons_of_pos (p:=fun x:RX=>!x.r.open_) ho];rfl
     ·rename_i ho;rw [List.filter_cons_of_neg (p:=fun x:RX=>!x.r.open_) ho];simp
    iterate 3 refine G ?_
    refine H_mem (L':=[rdRow none 0 [],box b7 193 [.slice V vn vc],box b5 28 (p.cells a),box b4 24 (f.cells fa)]) (fun w hw=>hw.nilRow 191 13 RX.cells rfl) rfl ?_
    iterate 13 refine G ?_
    refine H_loop [13,15,49,50,51,52,53,54,55,56,57,58,59,60] (fun s:Nat×Option Addr×Nat=>[(49, .int .i64 s.1),(13, .slice s.2.1 (Q s.1).length s.2.2)]) (fun s=>[rdRow s.2.1 s.2.2 (Q s.1),box b7 193 [.slice V vn vc],box b5 28 (p.cells a),box b4 24 (f.cells fa)]) (fun s=>s.1≤n) (fun s=>n -s.1) (0,none,0) ⟨rfl,by rw [hQ0];rfl,trivial⟩ (fun w hw=>by rw [hQ0];exact hw) rfl (Nat.zero_le _) ?_
    rintro ⟨k,cA,cc⟩ g hk
    simp only at hk
    iterate 6 refine G ?_
    refine H_cond rfl ?_ ?_<;>intro hlt
    ·have hlt':k<n:=by simpa using hlt
     obtain ⟨b,off,x,rfl,hbl,hxk,hrx⟩:=hr.1.at_ hlt'
     have hst:=hQs k x hxk
     have hql:=hQl k
     iterate 6 refine G ?_
     refine xV (e_idx _ Tryz.underlying135 Tryz.sizeOf191 (q0 rfl) (q0 rfl) (fun _=>⟨rfl,by omega⟩)) rfl rfl ?_
     refine G ?_
     refine X_alloc Tryz.zeroValue191 rfl fun b15=>?_
     refine X_st (v:= .agg _) rfl rfl Tryz.sizeOf191 ?_
     iterate 9 refine G ?_
     refine H_cond rfl ?_ ?_<;>intro ho
     ·have ho':(!x.r.open_)=true:=ho
      rw [if_pos ho'] at hst
      iterate 3 refine G ?_
      refine X_push (k:=13) (i:=Tryz.t191) 1 (x) Tryz.underlying135 (by kernel_rfl) rfl rfl rfl rfl Tryz.sizeOf191 Tryz.zeroValue191 rfl rfl rfl rfl rfl rfl ⟨by simp only;omega,by decide⟩ rfl rfl fun B0 A1 c1=>?_
      iterate 8 refine G ?_
      exact loopJ_normal (k+1,A1,c1) agr ⟨rfl,by rw [hst];rfl,trivial⟩ (fun w hw=>by rw [hst];exact hw.tail) rfl (by show k+1≤n;omega) (by show n -(k+1)<n -k;omega)
     ·have ho':(!x.r.open_)=false:=ho
      rw [if_neg (by rw [ho'];decide)] at hst
      iterate 7 refine G ?_
      exact loopJ_normal (k+1,cA,cc) agr ⟨rfl,by rw [hst];rfl,trivial⟩ (fun w hw=>by rw [hst];exact hw.tail) rfl (by show k+1≤n;omega) (by show n -(k+1)<n -k;omega)
    ·have hend:k=n:=by simp at hlt;omega
     subst hend
     have hql:=hQl k
     iterate 8 refine G ?_
     refine X_eff (f_callM (en Tryz.call107 (ha2 (q0 rfl) (q0 rfl))) (fun w hw=>rsort_w hw (j:=0) rfl rfl (by simp only;omega)) rfl (fun _=>rfl) fun ys0=>?_)
     obtain ⟨ys,hyp,hyo⟩:=ys0
     obtain ⟨l,hll⟩: ∃l:List Rd,l=ys.map (·.r):=⟨_,rfl⟩
     have hlc:l=cntS (rs.map (·.r)):=by
      rw [hll]
      refine cntS_unique hgood ?_ (List.pairwise_map.2 hyo)
      rw [←filter_map_r,←hQn]
      exact hyp.map _
     have hlg:Good l:=by rw [hlc];exact cntS_good hgood
     have hls:l.Pairwise fun a b=>rideLt a b=true:=by rw [hlc];exact cntS_strict hgood
     have hyl:ys.length=(Q k).length:=hyp.length_eq
     obtain ⟨m,hm⟩: ∃m,m=(Q k).length:=⟨_,rfl⟩
     rw [←hm] at hyl hql
     rw [←hm]
     have hlm:l.length=m:=by rw [hll,List.length_map,hyl]
     have hym: ∀x∈ys,x∈rs∧x.r.open_=false:=fun x hx=>by
      have h4:=hyp.mem_iff.1 hx
      rw [hQn] at h4
      have h5:=List.mem_filter.1 h4
      exact ⟨h5.1,by simpa using h5.2⟩
     have hyAt: ∀{L:List E.Item} {w':World} {j:Nat},Mem w L w'→L[j]?=some (rdRow cA cc ys)→RdsAt w' cA m ys:=fun {L w' j} hw hj=>⟨by rw [←hyl];exact slAt_row hw hj (fun _=>rfl) (by omega),fun x hx=>(hr.2 x (hym x hx).1).mem hw⟩
     obtain ⟨us,hus⟩: ∃us,us=useOf p l:=⟨_,rfl⟩
     have husm:us.length=m:=by rw [hus,useOf_len,hlm]
     have husr:(useS p.passes (ys.map fun x=>reqR x.r)).1=us:=by rw [hus,hll];unfold useOf;rw [List.map_map];rfl
     have hUse: ∀{L:List E.Item} (w':World),Mem w L w'→RdsAt w' cA m ys→Calls Tryz.prog 110 #[.slice a.p.A a.p.n a.p.c, .slice cA m cc] w' fun e w''=> ∃z:Nat,e= .returned (.tuple #[.slice (some ⟨z,0,none⟩) m m, .int .i64 0])∧Mem w' [intRow (some ⟨z,0,none⟩) m us] w'':=fun w' hw hy=>by
      have h:=pUse_w a.p.A a.p.n a.p.c p.passes cA m cc ys w' (hp.ps.mem hw) hy hpas (by rw [←hll];exact hlg) (by rw [hll] at hls;exact List.pairwise_map.1 hls)
      rw [husr] at h
      exact h
     iterate 7 refine G ?_
     refine xCX (en Tryz.call110 (ha2 (q0 rfl) (q0 rfl))) (fun w hw=>hUse w hw (hyAt hw (j:=0) rfl)) rfl (fun _=>rfl) fun zu=>?_
     iterate 14 refine G ?_
     refine H_cond rfl ?_ ?_<;>intro h4
     ·exfalso;simp at h4
     ·have _ht:True:=trivial
      obtain ⟨R,hRd⟩: ∃R:Nat→List Int,∀k,R k=(l.take k).map (·.rider):=⟨_,fun _=>rfl⟩
      obtain ⟨D,hDd⟩: ∃D:Nat→List Int,∀k,D k=(l.take k).map fun r=>r.start.lo/86400:=⟨_,fun _=>rfl⟩
      have hR0:R 0=[]:=by rw [hRd];rfl
      have hD0:D 0=[]:=by rw [hDd];rfl
      have hRl: ∀k,k≤m→(R k).length=k:=fun k hk=>by rw [hRd,List.length_map,List.length_take];omega
      have hDl: ∀k,k≤m→(D k).length=k:=fun k hk=>by rw [hDd,List.length_map,List.length_take];omega
      have hRs: ∀k x,l[k]?=some x→R (k+1)=R k++[x.rider]:=fun k x h=>by rw [hRd,hRd,snocT _ _ _ h,List.map_append];rfl
      have hDs: ∀k x,l[k]?=some x→D (k+1)=D k++[x.start.lo/86400]:=fun k x h=>by rw [hDd,hDd,snocT _ _ _ h,List.map_append];rfl
      have hzl:(l.zip us).length=m:=by rw [List.length_zip];omega
      obtain ⟨tot,htot⟩: ∃tot:BX→Int,∀b,tot b=b.b.total:=⟨_,fun _=>rfl⟩
      iterate 3 refine G ?_
      refine H_mem (L':=[ptRow none 0 [],intRow none 0 [],intRow none 0 [],intRow none 0 [],bag (([]:List BX).flatMap bxParts),intRow (some ⟨zu,0,none⟩) m us,rdRow cA cc ys,box b7 193 [.slice V vn vc],box b5 28 (p.cells a),box b4 24 (f.cells fa)]) (fun w hw=>((((hw.noBag).nilRow 3 1 encInt rfl).nilRow 3 1 encInt rfl).nilRow 3 1 encInt rfl).nilRow 200 1 BX.ptr rfl) rfl ?_
      iterate 20 refine G ?_
      refine H_loop [8,9,18,19,20,21,22,23,24,25,75,76,77,78,79,80,81,82,83,84,85,86,87,88,89,90,91,92,93,94,95,96,97,98,99,100,101,102,103,104,105,106,107,108,109,110,111,112,113,114,115,116,117] (fun s:Nat×List BX×(Option Addr×Nat)×(Option Addr×Nat)×(Option Addr×Nat)×(Option Addr×Nat)=>[(75, .int .i64 s.1),(18, .slice s.2.2.1.1 s.2.1.length s.2.2.1.2),(19, .slice s.2.2.2.1.1 (R s.1).length s.2.2.2.1.2),(20, .slice s.2.2.2.2.1.1 (D s.1).length s.2.2.2.2.1.2),(21, .slice s.2.2.2.2.2.1 (s.2.1.map tot).length s.2.2.2.2.2.2)]) (fun s=>[ptRow s.2.2.1.1 s.2.2.1.2 s.2.1,intRow s.2.2.2.1.1 s.2.2.2.1.2 (R s.1),intRow s.2.2.2.2.1.1 s.2.2.2.2.1.2 (D s.1),intRow s.2.2.2.2.2.1 s.2.2.2.2.2.2 (s.2.1.map tot),bag (s.2.1.flatMap bxParts),intRow (some ⟨zu,0,none⟩) m us,rdRow cA cc ys,box b7 193 [.slice V vn vc],box b5 28 (p.cells a),box b4 24 (f.cells fa)]) (fun s=>s.1≤m∧FS p (l.zip us) s.1=some (s.2.1.map (·.b))) (fun s=>m -s.1) (0,[],(none,0),(none,0),(none,0),(none,0)) ⟨rfl,rfl,by rw [hR0];rfl,by rw [hD0];rfl,rfl,trivial⟩ (fun w hw=>by rw [hR0,hD0];exact hw) rfl ⟨Nat.zero_le _,by unfold FS;rfl⟩ ?_
      rintro ⟨k2,bs,⟨pA,pc⟩,⟨rA,rc⟩,⟨dA,dc⟩,⟨sA,sc⟩⟩ g2 ⟨hk2,hFS⟩
      simp only at hk2 hFS
      have hbl:bs.length=k2:=by
       have:=(FS_facts (by omega) hFS).1
       rw [List.length_map] at this
       exact this
      iterate 6 refine G ?_
      refine H_cond rfl ?_ ?_<;>intro hlt2
      ·have hlt2':k2<m:=by simpa using hlt2
       obtain ⟨x,hxk⟩: ∃x,ys[k2]?=some x:=⟨_,List.getElem?_eq_getElem (by omega)⟩
       have hxm:=List.mem_of_getElem? hxk
       have hlk:l[k2]?=some x.r:=by rw [hll];simp [hxk]
       have hcx:checkR x.r=0:=hlg.ok x.r (List.mem_of_getElem? hlk)
       have hsx:=spOk_iff.1 (checkR_parts hcx).1
       obtain ⟨u,huk⟩: ∃u,us[k2]?=some u:=⟨_,List.getElem?_eq_getElem (by omega)⟩
       have hur: -1≤u∧u<p.passes.length:=by have:=List.mem_of_getElem? huk;rw [hus] at this;exact useOf_range this
       have hFSs:=FS_succ (p:=p) (zip_get hlk huk)
       rw [hFS] at hFSs
       refine H_know (fun w hw=>rowT_at (j:=6) hw rfl (by omega)) fun ⟨yb,hyb⟩=>?_
       subst hyb
       iterate 7 refine G ?_
       refine xV (e_idx k2 Tryz.underlying135 Tryz.sizeOf191 (q0 rfl) (q0 rfl) (fun _=>⟨rfl,hlt2'⟩)) rfl rfl ?_
       refine xV (e_lds (vs:=x.cells) Tryz.isAgg191 Tryz.sizeOf191 (q0 rfl) (by exact rrs 6 (enc:=RX.cells) rfl hxk) rfl) rfl rfl ?_
       refine X_alloc Tryz.zeroValue191 rfl fun b23=>?_
       refine G ?_
       refine X_st (v:= .agg _) rfl rfl Tryz.sizeOf191 ?_
       iterate 3 refine G ?_
       cases hfp:firstP p x.r u with
       |none=>
        have hno:allP p (rs.map (·.r)) vs=none:=by
         have h5:FS p (l.zip us) (k2+1)=none:=by rw [hFSs];unfold fsStep;simp only [hfp]
         unfold allP
         rw [←hlc,←hus,FS_none h5]
        have hfw: ∀{L:List E.Item} (w':World),Mem w L w'→Calls Tryz.prog 111 #[.agg (p.cells a).toArray, .agg x.cells.toArray, .int .i64 u] w' fun e w''=> ∃z:Nat×Option Addr×Nat,e= .returned (.tuple #[.pointer none, .int .i64 2])∧Mem w' [] w'':=fun w' hw=>by
         have h:=first_w f p a x u w' (hp.mem hw) ((hr.2 x (hym x hxm).1).mem hw) h1' hcx (hym x hxm).2 (hpl x (hym x hxm).1) hur
         rw [hfp] at h
         exact h
        refine RA rfl (by decide+kernel) ?_
        refine aW 0 ?_
        refine aW 1 ?_
        refine aW 2 ?_
        refine aW 3 ?_
        refine aV 4 (by decide+kernel) rfl (e_idx k2 Tryz.underlying22 Tryz.sizeOf3 (q0 rfl) (q0 rfl) (fun _=>⟨rfl,hlt2'⟩)) rfl ?_
        refine aV 5 (by decide+kernel) rfl (e_ld (v:= .int .i64 u) Tryz.isAgg3 (q0 rfl) (by exact rr0 6 (enc:=encInt) rfl huk rfl)) rfl ?_
        refine r1 6 0 ?_
        refine aL rfl (f_callx (en Tryz.call111 (ha3 (q0 rfl) (q0 rfl) (q0 rfl))) (fun w hw=>hfw w hw) rfl (fun _=>rfl) fun z=>?_)
        refine aW 7 ?_
        refine aW 8 ?_
        refine aW 9 ?_
        refine aW 10 ?_
        refine aW 11 ?_
        refine aZ (by decide+kernel) (sub_drop 0) ?_
        iterate 8 refine G ?_
        refine H_cond rfl ?_ ?_<;>intro h5
        ·rw [hE,if_pos hno]
         iterate 14 refine G ?_
         exact ret2 (v:= .slice _ _ _) (x:= .int _ _) rfl rfl rfl rfl fun w' hw=>⟨⟨([],none,0),by rw [hR,hno];rfl⟩,rfl,errM hw⟩
        ·exfalso;simp at h5
       |some b=>
        have hfw: ∀{L:List E.Item} (w':World),Mem w L w'→Calls Tryz.prog 111 #[.agg (p.cells a).toArray, .agg x.cells.toArray, .int .i64 u] w' fun e w''=> ∃z:Nat×Option Addr×Nat,e= .returned (.tuple #[.pointer (some ⟨z.1,0,none⟩), .int .i64 0])∧Mem w' [box z.1 204 (b.cells z.2.1 z.2.2),itRow z.2.1 z.2.2 b.items] w'':=fun w' hw=>by
         have h:=first_w f p a x u w' (hp.mem hw) ((hr.2 x (hym x hxm).1).mem hw) h1' hcx (hym x hxm).2 (hpl x (hym x hxm).1) hur
         rw [hfp] at h
         exact h
        refine RA rfl (by decide+kernel) ?_
        refine aW 0 ?_
        refine aW 1 ?_
        refine aW 2 ?_
        refine aW 3 ?_
        refine aV 4 (by decide+kernel) rfl (e_idx k2 Tryz.underlying22 Tryz.sizeOf3 (q0 rfl) (q0 rfl) (fun _=>⟨rfl,hlt2'⟩)) rfl ?_
        refine aV 5 (by decide+kernel) rfl (e_ld (v:= .int .i64 u) Tryz.isAgg3 (q0 rfl) (by exact rr0 6 (enc:=encInt) rfl huk rfl)) rfl ?_
        refine r1 6 0 ?_
        refine aL rfl (f_callx (en Tryz.call111 (ha3 (q0 rfl) (q0 rfl) (q0 rfl))) (fun w hw=>hfw w hw) rfl (fun _=>rfl) fun z=>?_)
        refine aRL (sub_drop 2) ?_
        refine aW 7 ?_
        refine aW 8 ?_
        refine aW 9 ?_
        refine aW 10 ?_
        refine aW 11 ?_
        refine aZ (by decide+kernel) (sub_drop 0) ?_
        iterate 8 refine G ?_
        refine H_cond rfl ?_ ?_<;>intro h5
        ·exfalso;simp at h5
        ·iterate 6 refine G ?_
         refine X_push (k:=1) (i:=Tryz.t200) 3 ((⟨z.1,b,z.2.1,z.2.2⟩:BX)) Tryz.underlying199 (by kernel_rfl) rfl rfl rfl rfl Tryz.sizeOf200 Tryz.zeroValue200 rfl rfl rfl rfl rfl rfl ⟨by simp only;omega,by decide⟩ rfl rfl fun B0 A1 c1=>?_
         have hRl2:=hRl k2 hk2
         have hDl2:=hDl k2 hk2
         have htl2:(bs.map tot).length=k2:=by rw [List.length_map,hbl]
         have hR1:=hRs k2 x.r hlk
         have hD1:=hDs k2 x.r hlk
         have htb:(bs++[(⟨z.1,b,z.2.1,z.2.2⟩:BX)]).map tot=bs.map tot++[b.total]:=by rw [List.map_append,List.map_cons,List.map_nil,htot]
         iterate 3 refine G ?_
         refine H_mem (fun w hw=>hw.pick [4,5,6,0,1,2,3,7,8,9,10,11,12] (by decide)) rfl ?_
         refine H_cut [19,20,21,97,98,99,100,101,102,103,104,105,106,107,108,109,110,111,112,113,114,115,116] (fun s:(Option Addr×Nat)×(Option Addr×Nat)×(Option Addr×Nat)=>[(19, .slice s.1.1 (R k2++[x.r.rider]).length s.1.2),(20, .slice s.2.1.1 (D k2++[x.r.start.lo/86400]).length s.2.1.2),(21, .slice s.2.2.1 (bs.map tot++[b.total]).length s.2.2.2)]) (fun s=>[intRow s.1.1 s.1.2 (R k2++[x.r.rider]),intRow s.2.1.1 s.2.1.2 (D k2++[x.r.start.lo/86400]),intRow s.2.2.1 s.2.2.2 (bs.map tot++[b.total]),box z.1 204 (b.cells z.2.1 z.2.2),itRow z.2.1 z.2.2 b.items,box b23 191 x.cells,ptRow A1 c1 (bs++[(⟨z.1,b,z.2.1,z.2.2⟩:BX)]),bag (bs.flatMap bxParts),intRow (some ⟨zu,0,none⟩) m us,rdRow (some ⟨yb,0,none⟩) cc ys,box b7 193 [.slice V vn vc],box b5 28 (p.cells a),box b4 24 (f.cells fa)]) (fun _=>True) ?_ ?_
         ·refine RAd 3 rfl (by decide+kernel) ?_
          refine aW 0 ?_
          refine aW 1 ?_
          refine aW 2 ?_
          refine aW 5 ?_
          refine aW 6 ?_
          refine aW 7 ?_
          refine aW 8 ?_
          refine aV 9 (by decide+kernel) rfl (e_quo (q0 rfl) (q0 rfl) (fun _=>⟨by omega,by omega,by omega⟩)) rfl ?_
          refine aW 12 ?_
          refine aW 13 ?_
          refine aW 14 ?_
          refine aW 15 ?_
          refine aW 16 ?_
          refine aW 17 ?_
          refine rdy3 (i:=3) (j:=10) (k:=18) (by decide+kernel) (sub_drop 3) ?_ ?_ ?_
          ·refine aL rfl (f_slit [(.int .i64 0)] Tryz.underlying22 Tryz.sizeOf3 Tryz.zeroValue3 rfl (by kernel_rfl) (pt (v:= .int _ _) rfl E.p0) rfl rfl fun b100=>?_)
           refine rdy3 (i:=4) (j:=10) (k:=18) (by decide+kernel) (sub_drop 4) ?_ ?_ ?_
           ·(first|refine aL rfl (f_append (k:=1) (i:=Tryz.t3) (enc:=encInt) (xs:=R k2) 1 Tryz.underlying22 (by kernel_rfl) rfl rfl rfl rfl (fun _=>rfl) (fun _=>rfl) rfl rfl rfl (fun w hw=>slAt_box (enc:=encInt) (xs:=[x.r.rider]) hw (j:=0) rfl (fun _=>rfl) (by simp)) ⟨by simp;omega,by decide⟩ rfl fun A4 c4=>?_)|refine aL rfl (f_append (k:=1) (i:=Tryz.t3) (enc:=encInt) (xs:=R k2) 2 Tryz.underlying22 (by kernel_rfl) rfl rfl rfl rfl (fun _=>rfl) (fun _=>rfl) rfl rfl rfl (fun w hw=>slAt_box (enc:=encInt) (xs:=[x.r.rider]) hw (j:=0) rfl (fun _=>rfl) (by simp)) ⟨by simp;omega,by decide⟩ rfl fun A4 c4=>?_)|refine aL rfl (f_append (k:=1) (i:=Tryz.t3) (enc:=encInt) (xs:=R k2) 3 Tryz.underlying22 (by kernel_rfl) rfl rfl rfl rfl (fun _=>rfl) (fun _=>rfl) rfl rfl rfl (fun w hw=>slAt_box (enc:=encInt) (xs:=[x.r.rider]) hw (j:=0) rfl (fun _=>rfl) (by simp)) ⟨by simp;omega,by decide⟩ rfl fun A4 c4=>?_))
            refine rdy2 (i:=10) (j:=18) (by decide+kernel) (sub_drop 4) ?_ ?_
            ·refine aL rfl (f_slit [(.int .i64 0)] Tryz.underlying22 Tryz.sizeOf3 Tryz.zeroValue3 rfl (by kernel_rfl) (pt (v:= .int _ _) rfl E.p0) rfl rfl fun b107=>?_)
             refine aI 1 ?_
             refine rdy2 (i:=11) (j:=18) (by decide+kernel) (sub_drop 5) ?_ ?_
             ·(first|refine aL rfl (f_append (k:=1) (i:=Tryz.t3) (enc:=encInt) (xs:=D k2) 3 Tryz.underlying22 (by kernel_rfl) rfl rfl rfl rfl (fun _=>rfl) (fun _=>rfl) rfl rfl rfl (fun w hw=>slAt_box (enc:=encInt) (xs:=[x.r.start.lo/86400]) hw (j:=1) rfl (fun _=>rfl) (by simp)) ⟨by simp;omega,by decide⟩ rfl fun A11 c11=>?_)|refine aL rfl (f_append (k:=1) (i:=Tryz.t3) (enc:=encInt) (xs:=D k2) 4 Tryz.underlying22 (by kernel_rfl) rfl rfl rfl rfl (fun _=>rfl) (fun _=>rfl) rfl rfl rfl (fun w hw=>slAt_box (enc:=encInt) (xs:=[x.r.start.lo/86400]) hw (j:=1) rfl (fun _=>rfl) (by simp)) ⟨by simp;omega,by decide⟩ rfl fun A11 c11=>?_))
              refine r1 18 5 ?_
              refine aL rfl (f_slit [(.int .i64 0)] Tryz.underlying22 Tryz.sizeOf3 Tryz.zeroValue3 rfl (by kernel_rfl) (pt (v:= .int _ _) rfl E.p0) rfl rfl fun b115=>?_)
              refine aI 2 ?_
              refine r1 19 6 ?_
              refine aL rfl (f_append (k:=1) (i:=Tryz.t3) (enc:=encInt) (xs:=bs.map tot) 5 Tryz.underlying22 (by kernel_rfl) rfl rfl rfl rfl (fun _=>rfl) (fun _=>rfl) rfl rfl rfl (fun w hw=>slAt_box (enc:=encInt) (xs:=[b.total]) hw (j:=2) rfl (fun _=>rfl) (by simp)) ⟨by simp;omega,by decide⟩ rfl fun A19 c19=>?_)
              refine aW 20 ?_
              refine aW 21 ?_
              refine aW 22 ?_
              refine aZ (by decide+kernel) (sub_drop 6) ?_
              exact cutJ_normal (((A4,c4),(A11,c11),(A19,c19)):(Option Addr×Nat)×(Option Addr×Nat)×(Option Addr×Nat)) agr ⟨rfl,rfl,rfl,trivial⟩ (fun w hw=>hw.tail.tail.tail) rfl trivial
             ·refine aL rfl (f_slit [(.int .i64 0)] Tryz.underlying22 Tryz.sizeOf3 Tryz.zeroValue3 rfl (by kernel_rfl) (pt (v:= .int _ _) rfl E.p0) rfl rfl fun b115=>?_)
              refine aI 2 ?_
              refine r1 11 6 ?_
              (first|refine aL rfl (f_append (k:=1) (i:=Tryz.t3) (enc:=encInt) (xs:=D k2) 3 Tryz.underlying22 (by kernel_rfl) rfl rfl rfl rfl (fun _=>rfl) (fun _=>rfl) rfl rfl rfl (fun w hw=>slAt_box (enc:=encInt) (xs:=[x.r.start.lo/86400]) hw (j:=1) rfl (fun _=>rfl) (by simp)) ⟨by simp;omega,by decide⟩ rfl fun A11 c11=>?_)|refine aL rfl (f_append (k:=1) (i:=Tryz.t3) (enc:=encInt) (xs:=D k2) 4 Tryz.underlying22 (by kernel_rfl) rfl rfl rfl rfl (fun _=>rfl) (fun _=>rfl) rfl rfl rfl (fun w hw=>slAt_box (enc:=encInt) (xs:=[x.r.start.lo/86400]) hw (j:=1) rfl (fun _=>rfl) (by simp)) ⟨by simp;omega,by decide⟩ rfl fun A11 c11=>?_))
              refine r1 19 6 ?_
              refine aL rfl (f_append (k:=1) (i:=Tryz.t3) (enc:=encInt) (xs:=bs.map tot) 5 Tryz.underlying22 (by kernel_rfl) rfl rfl rfl rfl (fun _=>rfl) (fun _=>rfl) rfl rfl rfl (fun w hw=>slAt_box (enc:=encInt) (xs:=[b.total]) hw (j:=2) rfl (fun _=>rfl) (by simp)) ⟨by simp;omega,by decide⟩ rfl fun A19 c19=>?_)
              refine aW 20 ?_
              refine aW 21 ?_
              refine aW 22 ?_
              refine aZ (by decide+kernel) (sub_drop 6) ?_
              exact cutJ_normal (((A4,c4),(A11,c11),(A19,c19)):(Option Addr×Nat)×(Option Addr×Nat)×(Option Addr×Nat)) agr ⟨rfl,rfl,rfl,trivial⟩ (fun w hw=>hw.tail.tail.tail) rfl trivial
            ·refine aL rfl (f_slit [(.int .i64 0)] Tryz.underlying22 Tryz.sizeOf3 Tryz.zeroValue3 rfl (by kernel_rfl) (pt (v:= .int _ _) rfl E.p0) rfl rfl fun b115=>?_)
             refine aI 1 ?_
             refine r1 10 5 ?_
             refine aL rfl (f_slit [(.int .i64 0)] Tryz.underlying22 Tryz.sizeOf3 Tryz.zeroValue3 rfl (by kernel_rfl) (pt (v:= .int _ _) rfl E.p0) rfl rfl fun b107=>?_)
             refine aI 1 ?_
             refine r1 11 6 ?_
             (first|refine aL rfl (f_append (k:=1) (i:=Tryz.t3) (enc:=encInt) (xs:=D k2) 3 Tryz.underlying22 (by kernel_rfl) rfl rfl rfl rfl (fun _=>rfl) (fun _=>rfl) rfl rfl rfl (fun w hw=>slAt_box (enc:=encInt) (xs:=[x.r.start.lo/86400]) hw (j:=1) rfl (fun _=>rfl) (by simp)) ⟨by simp;omega,by decide⟩ rfl fun A11 c11=>?_)|refine aL rfl (f_append (k:=1) (i:=Tryz.t3) (enc:=encInt) (xs:=D k2) 4 Tryz.underlying22 (by kernel_rfl) rfl rfl rfl rfl (fun _=>rfl) (fun _=>rfl) rfl rfl rfl (fun w hw=>slAt_box (enc:=encInt) (xs:=[x.r.start.lo/86400]) hw (j:=1) rfl (fun _=>rfl) (by simp)) ⟨by simp;omega,by decide⟩ rfl fun A11 c11=>?_))
             refine r1 19 6 ?_
             refine aL rfl (f_append (k:=1) (i:=Tryz.t3) (enc:=encInt) (xs:=bs.map tot) 5 Tryz.underlying22 (by kernel_rfl) rfl rfl rfl rfl (fun _=>rfl) (fun _=>rfl) rfl rfl rfl (fun w hw=>slAt_box (enc:=encInt) (xs:=[b.total]) hw (j:=2) rfl (fun _=>rfl) (by simp)) ⟨by simp;omega,by decide⟩ rfl fun A19 c19=>?_)
             refine aW 20 ?_
             refine aW 21 ?_
             refine aW 22 ?_
             refine aZ (by decide+kernel) (sub_drop 6) ?_
             exact cutJ_normal (((A4,c4),(A11,c11),(A19,c19)):(Option Addr×Nat)×(Option Addr×Nat)×(Option Addr×Nat)) agr ⟨rfl,rfl,rfl,trivial⟩ (fun w hw=>hw.tail.tail.tail) rfl trivial
           ·refine aL rfl (f_slit [(.int .i64 0)] Tryz.underlying22 Tryz.sizeOf3 Tryz.zeroValue3 rfl (by kernel_rfl) (pt (v:= .int _ _) rfl E.p0) rfl rfl fun b107=>?_)
            refine aI 1 ?_
            refine rdy2 (i:=4) (j:=18) (by decide+kernel) (sub_drop 5) ?_ ?_
            ·(first|refine aL rfl (f_append (k:=1) (i:=Tryz.t3) (enc:=encInt) (xs:=R k2) 1 Tryz.underlying22 (by kernel_rfl) rfl rfl rfl rfl (fun _=>rfl) (fun _=>rfl) rfl rfl rfl (fun w hw=>slAt_box (enc:=encInt) (xs:=[x.r.rider]) hw (j:=0) rfl (fun _=>rfl) (by simp)) ⟨by simp;omega,by decide⟩ rfl fun A4 c4=>?_)|refine aL rfl (f_append (k:=1) (i:=Tryz.t3) (enc:=encInt) (xs:=R k2) 2 Tryz.underlying22 (by kernel_rfl) rfl rfl rfl rfl (fun _=>rfl) (fun _=>rfl) rfl rfl rfl (fun w hw=>slAt_box (enc:=encInt) (xs:=[x.r.rider]) hw (j:=0) rfl (fun _=>rfl) (by simp)) ⟨by simp;omega,by decide⟩ rfl fun A4 c4=>?_)|refine aL rfl (f_append (k:=1) (i:=Tryz.t3) (enc:=encInt) (xs:=R k2) 3 Tryz.underlying22 (by kernel_rfl) rfl rfl rfl rfl (fun _=>rfl) (fun _=>rfl) rfl rfl rfl (fun w hw=>slAt_box (enc:=encInt) (xs:=[x.r.rider]) hw (j:=0) rfl (fun _=>rfl) (by simp)) ⟨by simp;omega,by decide⟩ rfl fun A4 c4=>?_))
             refine rdy2 (i:=11) (j:=18) (by decide+kernel) (sub_drop 5) ?_ ?_
             ·(first|refine aL rfl (f_append (k:=1) (i:=Tryz.t3) (enc:=encInt) (xs:=D k2) 3 Tryz.underlying22 (by kernel_rfl) rfl rfl rfl rfl (fun _=>rfl) (fun _=>rfl) rfl rfl rfl (fun w hw=>slAt_box (enc:=encInt) (xs:=[x.r.start.lo/86400]) hw (j:=1) rfl (fun _=>rfl) (by simp)) ⟨by simp;omega,by decide⟩ rfl fun A11 c11=>?_)|refine aL rfl (f_append (k:=1) (i:=Tryz.t3) (enc:=encInt) (xs:=D k2) 4 Tryz.underlying22 (by kernel_rfl) rfl rfl rfl rfl (fun _=>rfl) (fun _=>rfl) rfl rfl rfl (fun w hw=>slAt_box (enc:=encInt) (xs:=[x.r.start.lo/86400]) hw (j:=1) rfl (fun _=>rfl) (by simp)) ⟨by simp;omega,by decide⟩ rfl fun A11 c11=>?_))
              refine r1 18 5 ?_
              refine aL rfl (f_slit [(.int .i64 0)] Tryz.underlying22 Tryz.sizeOf3 Tryz.zeroValue3 rfl (by kernel_rfl) (pt (v:= .int _ _) rfl E.p0) rfl rfl fun b115=>?_)
              refine aI 2 ?_
              refine r1 19 6 ?_
              refine aL rfl (f_append (k:=1) (i:=Tryz.t3) (enc:=encInt) (xs:=bs.map tot) 5 Tryz.underlying22 (by kernel_rfl) rfl rfl rfl rfl (fun _=>rfl) (fun _=>rfl) rfl rfl rfl (fun w hw=>slAt_box (enc:=encInt) (xs:=[b.total]) hw (j:=2) rfl (fun _=>rfl) (by simp)) ⟨by simp;omega,by decide⟩ rfl fun A19 c19=>?_)
              refine aW 20 ?_
              refine aW 21 ?_
              refine aW 22 ?_
              refine aZ (by decide+kernel) (sub_drop 6) ?_
              exact cutJ_normal (((A4,c4),(A11,c11),(A19,c19)):(Option Addr×Nat)×(Option Addr×Nat)×(Option Addr×Nat)) agr ⟨rfl,rfl,rfl,trivial⟩ (fun w hw=>hw.tail.tail.tail) rfl trivial
             ·refine aL rfl (f_slit [(.int .i64 0)] Tryz.underlying22 Tryz.sizeOf3 Tryz.zeroValue3 rfl (by kernel_rfl) (pt (v:= .int _ _) rfl E.p0) rfl rfl fun b115=>?_)
              refine aI 2 ?_
              refine r1 11 6 ?_
              (first|refine aL rfl (f_append (k:=1) (i:=Tryz.t3) (enc:=encInt) (xs:=D k2) 3 Tryz.underlying22 (by kernel_rfl) rfl rfl rfl rfl (fun _=>rfl) (fun _=>rfl) rfl rfl rfl (fun w hw=>slAt_box (enc:=encInt) (xs:=[x.r.start.lo/86400]) hw (j:=1) rfl (fun _=>rfl) (by simp)) ⟨by simp;omega,by decide⟩ rfl fun A11 c11=>?_)|refine aL rfl (f_append (k:=1) (i:=Tryz.t3) (enc:=encInt) (xs:=D k2) 4 Tryz.underlying22 (by kernel_rfl) rfl rfl rfl rfl (fun _=>rfl) (fun _=>rfl) rfl rfl rfl (fun w hw=>slAt_box (enc:=encInt) (xs:=[x.r.start.lo/86400]) hw (j:=1) rfl (fun _=>rfl) (by simp)) ⟨by simp;omega,by decide⟩ rfl fun A11 c11=>?_))
              refine r1 19 6 ?_
              refine aL rfl (f_append (k:=1) (i:=Tryz.t3) (enc:=encInt) (xs:=bs.map tot) 5 Tryz.underlying22 (by kernel_rfl) rfl rfl rfl rfl (fun _=>rfl) (fun _=>rfl) rfl rfl rfl (fun w hw=>slAt_box (enc:=encInt) (xs:=[b.total]) hw (j:=2) rfl (fun _=>rfl) (by simp)) ⟨by simp;omega,by decide⟩ rfl fun A19 c19=>?_)
              refine aW 20 ?_
              refine aW 21 ?_
              refine aW 22 ?_
              refine aZ (by decide+kernel) (sub_drop 6) ?_
              exact cutJ_normal (((A4,c4),(A11,c11),(A19,c19)):(Option Addr×Nat)×(Option Addr×Nat)×(Option Addr×Nat)) agr ⟨rfl,rfl,rfl,trivial⟩ (fun w hw=>hw.tail.tail.tail) rfl trivial
            ·refine aL rfl (f_slit [(.int .i64 0)] Tryz.underlying22 Tryz.sizeOf3 Tryz.zeroValue3 rfl (by kernel_rfl) (pt (v:= .int _ _) rfl E.p0) rfl rfl fun b115=>?_)
             refine aI 2 ?_
             refine r1 4 6 ?_
             (first|refine aL rfl (f_append (k:=1) (i:=Tryz.t3) (enc:=encInt) (xs:=R k2) 1 Tryz.underlying22 (by kernel_rfl) rfl rfl rfl rfl (fun _=>rfl) (fun _=>rfl) rfl rfl rfl (fun w hw=>slAt_box (enc:=encInt) (xs:=[x.r.rider]) hw (j:=0) rfl (fun _=>rfl) (by simp)) ⟨by simp;omega,by decide⟩ rfl fun A4 c4=>?_)|refine aL rfl (f_append (k:=1) (i:=Tryz.t3) (enc:=encInt) (xs:=R k2) 2 Tryz.underlying22 (by kernel_rfl) rfl rfl rfl rfl (fun _=>rfl) (fun _=>rfl) rfl rfl rfl (fun w hw=>slAt_box (enc:=encInt) (xs:=[x.r.rider]) hw (j:=0) rfl (fun _=>rfl) (by simp)) ⟨by simp;omega,by decide⟩ rfl fun A4 c4=>?_)|refine aL rfl (f_append (k:=1) (i:=Tryz.t3) (enc:=encInt) (xs:=R k2) 3 Tryz.underlying22 (by kernel_rfl) rfl rfl rfl rfl (fun _=>rfl) (fun _=>rfl) rfl rfl rfl (fun w hw=>slAt_box (enc:=encInt) (xs:=[x.r.rider]) hw (j:=0) rfl (fun _=>rfl) (by simp)) ⟨by simp;omega,by decide⟩ rfl fun A4 c4=>?_))
             refine r1 11 6 ?_
             (first|refine aL rfl (f_append (k:=1) (i:=Tryz.t3) (enc:=encInt) (xs:=D k2) 3 Tryz.underlying22 (by kernel_rfl) rfl rfl rfl rfl (fun _=>rfl) (fun _=>rfl) rfl rfl rfl (fun w hw=>slAt_box (enc:=encInt) (xs:=[x.r.start.lo/86400]) hw (j:=1) rfl (fun _=>rfl) (by simp)) ⟨by simp;omega,by decide⟩ rfl fun A11 c11=>?_)|refine aL rfl (f_append (k:=1) (i:=Tryz.t3) (enc:=encInt) (xs:=D k2) 4 Tryz.underlying22 (by kernel_rfl) rfl rfl rfl rfl (fun _=>rfl) (fun _=>rfl) rfl rfl rfl (fun w hw=>slAt_box (enc:=encInt) (xs:=[x.r.start.lo/86400]) hw (j:=1) rfl (fun _=>rfl) (by simp)) ⟨by simp;omega,by decide⟩ rfl fun A11 c11=>?_))
             refine r1 19 6 ?_
             refine aL rfl (f_append (k:=1) (i:=Tryz.t3) (enc:=encInt) (xs:=bs.map tot) 5 Tryz.underlying22 (by kernel_rfl) rfl rfl rfl rfl (fun _=>rfl) (fun _=>rfl) rfl rfl rfl (fun w hw=>slAt_box (enc:=encInt) (xs:=[b.total]) hw (j:=2) rfl (fun _=>rfl) (by simp)) ⟨by simp;omega,by decide⟩ rfl fun A19 c19=>?_)
             refine aW 20 ?_
             refine aW 21 ?_
             refine aW 22 ?_
             refine aZ (by decide+kernel) (sub_drop 6) ?_
             exact cutJ_normal (((A4,c4),(A11,c11),(A19,c19)):(Option Addr×Nat)×(Option Addr×Nat)×(Option Addr×Nat)) agr ⟨rfl,rfl,rfl,trivial⟩ (fun w hw=>hw.tail.tail.tail) rfl trivial
           ·refine aL rfl (f_slit [(.int .i64 0)] Tryz.underlying22 Tryz.sizeOf3 Tryz.zeroValue3 rfl (by kernel_rfl) (pt (v:= .int _ _) rfl E.p0) rfl rfl fun b115=>?_)
            refine aI 1 ?_
            refine rdy2 (i:=4) (j:=10) (by decide+kernel) (sub_drop 5) ?_ ?_
            ·(first|refine aL rfl (f_append (k:=1) (i:=Tryz.t3) (enc:=encInt) (xs:=R k2) 1 Tryz.underlying22 (by kernel_rfl) rfl rfl rfl rfl (fun _=>rfl) (fun _=>rfl) rfl rfl rfl (fun w hw=>slAt_box (enc:=encInt) (xs:=[x.r.rider]) hw (j:=0) rfl (fun _=>rfl) (by simp)) ⟨by simp;omega,by decide⟩ rfl fun A4 c4=>?_)|refine aL rfl (f_append (k:=1) (i:=Tryz.t3) (enc:=encInt) (xs:=R k2) 2 Tryz.underlying22 (by kernel_rfl) rfl rfl rfl rfl (fun _=>rfl) (fun _=>rfl) rfl rfl rfl (fun w hw=>slAt_box (enc:=encInt) (xs:=[x.r.rider]) hw (j:=0) rfl (fun _=>rfl) (by simp)) ⟨by simp;omega,by decide⟩ rfl fun A4 c4=>?_)|refine aL rfl (f_append (k:=1) (i:=Tryz.t3) (enc:=encInt) (xs:=R k2) 3 Tryz.underlying22 (by kernel_rfl) rfl rfl rfl rfl (fun _=>rfl) (fun _=>rfl) rfl rfl rfl (fun w hw=>slAt_box (enc:=encInt) (xs:=[x.r.rider]) hw (j:=0) rfl (fun _=>rfl) (by simp)) ⟨by simp;omega,by decide⟩ rfl fun A4 c4=>?_))
             refine r1 10 5 ?_
             refine aL rfl (f_slit [(.int .i64 0)] Tryz.underlying22 Tryz.sizeOf3 Tryz.zeroValue3 rfl (by kernel_rfl) (pt (v:= .int _ _) rfl E.p0) rfl rfl fun b107=>?_)
             refine aI 1 ?_
             refine r1 11 6 ?_
             (first|refine aL rfl (f_append (k:=1) (i:=Tryz.t3) (enc:=encInt) (xs:=D k2) 3 Tryz.underlying22 (by kernel_rfl) rfl rfl rfl rfl (fun _=>rfl) (fun _=>rfl) rfl rfl rfl (fun w hw=>slAt_box (enc:=encInt) (xs:=[x.r.start.lo/86400]) hw (j:=1) rfl (fun _=>rfl) (by simp)) ⟨by simp;omega,by decide⟩ rfl fun A11 c11=>?_)|refine aL rfl (f_append (k:=1) (i:=Tryz.t3) (enc:=encInt) (xs:=D k2) 4 Tryz.underlying22 (by kernel_rfl) rfl rfl rfl rfl (fun _=>rfl) (fun _=>rfl) rfl rfl rfl (fun w hw=>slAt_box (enc:=encInt) (xs:=[x.r.start.lo/86400]) hw (j:=1) rfl (fun _=>rfl) (by simp)) ⟨by simp;omega,by decide⟩ rfl fun A11 c11=>?_))
             refine r1 19 6 ?_
             refine aL rfl (f_append (k:=1) (i:=Tryz.t3) (enc:=encInt) (xs:=bs.map tot) 5 Tryz.underlying22 (by kernel_rfl) rfl rfl rfl rfl (fun _=>rfl) (fun _=>rfl) rfl rfl rfl (fun w hw=>slAt_box (enc:=encInt) (xs:=[b.total]) hw (j:=2) rfl (fun _=>rfl) (by simp)) ⟨by simp;omega,by decide⟩ rfl fun A19 c19=>?_)
             refine aW 20 ?_
             refine aW 21 ?_
             refine aW 22 ?_
             refine aZ (by decide+kernel) (sub_drop 6) ?_
             exact cutJ_normal (((A4,c4),(A11,c11),(A19,c19)):(Option Addr×Nat)×(Option Addr×Nat)×(Option Addr×Nat)) agr ⟨rfl,rfl,rfl,trivial⟩ (fun w hw=>hw.tail.tail.tail) rfl trivial
            ·refine aL rfl (f_slit [(.int .i64 0)] Tryz.underlying22 Tryz.sizeOf3 Tryz.zeroValue3 rfl (by kernel_rfl) (pt (v:= .int _ _) rfl E.p0) rfl rfl fun b107=>?_)
             refine aI 1 ?_
             refine r1 4 6 ?_
             (first|refine aL rfl (f_append (k:=1) (i:=Tryz.t3) (enc:=encInt) (xs:=R k2) 1 Tryz.underlying22 (by kernel_rfl) rfl rfl rfl rfl (fun _=>rfl) (fun _=>rfl) rfl rfl rfl (fun w hw=>slAt_box (enc:=encInt) (xs:=[x.r.rider]) hw (j:=0) rfl (fun _=>rfl) (by simp)) ⟨by simp;omega,by decide⟩ rfl fun A4 c4=>?_)|refine aL rfl (f_append (k:=1) (i:=Tryz.t3) (enc:=encInt) (xs:=R k2) 2 Tryz.underlying22 (by kernel_rfl) rfl rfl rfl rfl (fun _=>rfl) (fun _=>rfl) rfl rfl rfl (fun w hw=>slAt_box (enc:=encInt) (xs:=[x.r.rider]) hw (j:=0) rfl (fun _=>rfl) (by simp)) ⟨by simp;omega,by decide⟩ rfl fun A4 c4=>?_)|refine aL rfl (f_append (k:=1) (i:=Tryz.t3) (enc:=encInt) (xs:=R k2) 3 Tryz.underlying22 (by kernel_rfl) rfl rfl rfl rfl (fun _=>rfl) (fun _=>rfl) rfl rfl rfl (fun w hw=>slAt_box (enc:=encInt) (xs:=[x.r.rider]) hw (j:=0) rfl (fun _=>rfl) (by simp)) ⟨by simp;omega,by decide⟩ rfl fun A4 c4=>?_))
             refine r1 11 6 ?_
             (first|refine aL rfl (f_append (k:=1) (i:=Tryz.t3) (enc:=encInt) (xs:=D k2) 3 Tryz.underlying22 (by kernel_rfl) rfl rfl rfl rfl (fun _=>rfl) (fun _=>rfl) rfl rfl rfl (fun w hw=>slAt_box (enc:=encInt) (xs:=[x.r.start.lo/86400]) hw (j:=1) rfl (fun _=>rfl) (by simp)) ⟨by simp;omega,by decide⟩ rfl fun A11 c11=>?_)|refine aL rfl (f_append (k:=1) (i:=Tryz.t3) (enc:=encInt) (xs:=D k2) 4 Tryz.underlying22 (by kernel_rfl) rfl rfl rfl rfl (fun _=>rfl) (fun _=>rfl) rfl rfl rfl (fun w hw=>slAt_box (enc:=encInt) (xs:=[x.r.start.lo/86400]) hw (j:=1) rfl (fun _=>rfl) (by simp)) ⟨by simp;omega,by decide⟩ rfl fun A11 c11=>?_))
             refine r1 19 6 ?_
             refine aL rfl (f_append (k:=1) (i:=Tryz.t3) (enc:=encInt) (xs:=bs.map tot) 5 Tryz.underlying22 (by kernel_rfl) rfl rfl rfl rfl (fun _=>rfl) (fun _=>rfl) rfl rfl rfl (fun w hw=>slAt_box (enc:=encInt) (xs:=[b.total]) hw (j:=2) rfl (fun _=>rfl) (by simp)) ⟨by simp;omega,by decide⟩ rfl fun A19 c19=>?_)
             refine aW 20 ?_
             refine aW 21 ?_
             refine aW 22 ?_
             refine aZ (by decide+kernel) (sub_drop 6) ?_
             exact cutJ_normal (((A4,c4),(A11,c11),(A19,c19)):(Option Addr×Nat)×(Option Addr×Nat)×(Option Addr×Nat)) agr ⟨rfl,rfl,rfl,trivial⟩ (fun w hw=>hw.tail.tail.tail) rfl trivial
          ·refine aL rfl (f_slit [(.int .i64 0)] Tryz.underlying22 Tryz.sizeOf3 Tryz.zeroValue3 rfl (by kernel_rfl) (pt (v:= .int _ _) rfl E.p0) rfl rfl fun b107=>?_)
           refine rdy2 (i:=3) (j:=18) (by decide+kernel) (sub_drop 4) ?_ ?_
           ·refine aL rfl (f_slit [(.int .i64 0)] Tryz.underlying22 Tryz.sizeOf3 Tryz.zeroValue3 rfl (by kernel_rfl) (pt (v:= .int _ _) rfl E.p0) rfl rfl fun b100=>?_)
            refine rdy2 (i:=4) (j:=18) (by decide+kernel) (sub_drop 5) ?_ ?_
            ·(first|refine aL rfl (f_append (k:=1) (i:=Tryz.t3) (enc:=encInt) (xs:=R k2) 1 Tryz.underlying22 (by kernel_rfl) rfl rfl rfl rfl (fun _=>rfl) (fun _=>rfl) rfl rfl rfl (fun w hw=>slAt_box (enc:=encInt) (xs:=[x.r.rider]) hw (j:=0) rfl (fun _=>rfl) (by simp)) ⟨by simp;omega,by decide⟩ rfl fun A4 c4=>?_)|refine aL rfl (f_append (k:=1) (i:=Tryz.t3) (enc:=encInt) (xs:=R k2) 2 Tryz.underlying22 (by kernel_rfl) rfl rfl rfl rfl (fun _=>rfl) (fun _=>rfl) rfl rfl rfl (fun w hw=>slAt_box (enc:=encInt) (xs:=[x.r.rider]) hw (j:=0) rfl (fun _=>rfl) (by simp)) ⟨by simp;omega,by decide⟩ rfl fun A4 c4=>?_)|refine aL rfl (f_append (k:=1) (i:=Tryz.t3) (enc:=encInt) (xs:=R k2) 3 Tryz.underlying22 (by kernel_rfl) rfl rfl rfl rfl (fun _=>rfl) (fun _=>rfl) rfl rfl rfl (fun w hw=>slAt_box (enc:=encInt) (xs:=[x.r.rider]) hw (j:=0) rfl (fun _=>rfl) (by simp)) ⟨by simp;omega,by decide⟩ rfl fun A4 c4=>?_))
             refine rdy2 (i:=11) (j:=18) (by decide+kernel) (sub_drop 5) ?_ ?_
             ·(first|refine aL rfl (f_append (k:=1) (i:=Tryz.t3) (enc:=encInt) (xs:=D k2) 3 Tryz.underlying22 (by kernel_rfl) rfl rfl rfl rfl (fun _=>rfl) (fun _=>rfl) rfl rfl rfl (fun w hw=>slAt_box (enc:=encInt) (xs:=[x.r.start.lo/86400]) hw (j:=1) rfl (fun _=>rfl) (by simp)) ⟨by simp;omega,by decide⟩ rfl fun A11 c11=>?_)|refine aL rfl (f_append (k:=1) (i:=Tryz.t3) (enc:=encInt) (xs:=D k2) 4 Tryz.underlying22 (by kernel_rfl) rfl rfl rfl rfl (fun _=>rfl) (fun _=>rfl) rfl rfl rfl (fun w hw=>slAt_box (enc:=encInt) (xs:=[x.r.start.lo/86400]) hw (j:=1) rfl (fun _=>rfl) (by simp)) ⟨by simp;omega,by decide⟩ rfl fun A11 c11=>?_))
              refine r1 18 5 ?_
              refine aL rfl (f_slit [(.int .i64 0)] Tryz.underlying22 Tryz.sizeOf3 Tryz.zeroValue3 rfl (by kernel_rfl) (pt (v:= .int _ _) rfl E.p0) rfl rfl fun b115=>?_)
              refine aI 2 ?_
              refine r1 19 6 ?_
              refine aL rfl (f_append (k:=1) (i:=Tryz.t3) (enc:=encInt) (xs:=bs.map tot) 5 Tryz.underlying22 (by kernel_rfl) rfl rfl rfl rfl (fun _=>rfl) (fun _=>rfl) rfl rfl rfl (fun w hw=>slAt_box (enc:=encInt) (xs:=[b.total]) hw (j:=2) rfl (fun _=>rfl) (by simp)) ⟨by simp;omega,by decide⟩ rfl fun A19 c19=>?_)
              refine aW 20 ?_
              refine aW 21 ?_
              refine aW 22 ?_
              refine aZ (by decide+kernel) (sub_drop 6) ?_
              exact cutJ_normal (((A4,c4),(A11,c11),(A19,c19)):(Option Addr×Nat)×(Option Addr×Nat)×(Option Addr×Nat)) agr ⟨rfl,rfl,rfl,trivial⟩ (fun w hw=>hw.tail.tail.tail) rfl trivial
             ·refine aL rfl (f_slit [(.int .i64 0)] Tryz.underlying22 Tryz.sizeOf3 Tryz.zeroValue3 rfl (by kernel_rfl) (pt (v:= .int _ _) rfl E.p0) rfl rfl fun b115=>?_)
              refine aI 2 ?_
              refine r1 11 6 ?_
              (first|refine aL rfl (f_append (k:=1) (i:=Tryz.t3) (enc:=encInt) (xs:=D k2) 3 Tryz.underlying22 (by kernel_rfl) rfl rfl rfl rfl (fun _=>rfl) (fun _=>rfl) rfl rfl rfl (fun w hw=>slAt_box (enc:=encInt) (xs:=[x.r.start.lo/86400]) hw (j:=1) rfl (fun _=>rfl) (by simp)) ⟨by simp;omega,by decide⟩ rfl fun A11 c11=>?_)|refine aL rfl (f_append (k:=1) (i:=Tryz.t3) (enc:=encInt) (xs:=D k2) 4 Tryz.underlying22 (by kernel_rfl) rfl rfl rfl rfl (fun _=>rfl) (fun _=>rfl) rfl rfl rfl (fun w hw=>slAt_box (enc:=encInt) (xs:=[x.r.start.lo/86400]) hw (j:=1) rfl (fun _=>rfl) (by simp)) ⟨by simp;omega,by decide⟩ rfl fun A11 c11=>?_))
              refine r1 19 6 ?_
              refine aL rfl (f_append (k:=1) (i:=Tryz.t3) (enc:=encInt) (xs:=bs.map tot) 5 Tryz.underlying22 (by kernel_rfl) rfl rfl rfl rfl (fun _=>rfl) (fun _=>rfl) rfl rfl rfl (fun w hw=>slAt_box (enc:=encInt) (xs:=[b.total]) hw (j:=2) rfl (fun _=>rfl) (by simp)) ⟨by simp;omega,by decide⟩ rfl fun A19 c19=>?_)
              refine aW 20 ?_
              refine aW 21 ?_
              refine aW 22 ?_
              refine aZ (by decide+kernel) (sub_drop 6) ?_
              exact cutJ_normal (((A4,c4),(A11,c11),(A19,c19)):(Option Addr×Nat)×(Option Addr×Nat)×(Option Addr×Nat)) agr ⟨rfl,rfl,rfl,trivial⟩ (fun w hw=>hw.tail.tail.tail) rfl trivial
            ·refine aL rfl (f_slit [(.int .i64 0)] Tryz.underlying22 Tryz.sizeOf3 Tryz.zeroValue3 rfl (by kernel_rfl) (pt (v:= .int _ _) rfl E.p0) rfl rfl fun b115=>?_)
             refine aI 2 ?_
             refine r1 4 6 ?_
             (first|refine aL rfl (f_append (k:=1) (i:=Tryz.t3) (enc:=encInt) (xs:=R k2) 1 Tryz.underlying22 (by kernel_rfl) rfl rfl rfl rfl (fun _=>rfl) (fun _=>rfl) rfl rfl rfl (fun w hw=>slAt_box (enc:=encInt) (xs:=[x.r.rider]) hw (j:=0) rfl (fun _=>rfl) (by simp)) ⟨by simp;omega,by decide⟩ rfl fun A4 c4=>?_)|refine aL rfl (f_append (k:=1) (i:=Tryz.t3) (enc:=encInt) (xs:=R k2) 2 Tryz.underlying22 (by kernel_rfl) rfl rfl rfl rfl (fun _=>rfl) (fun _=>rfl) rfl rfl rfl (fun w hw=>slAt_box (enc:=encInt) (xs:=[x.r.rider]) hw (j:=0) rfl (fun _=>rfl) (by simp)) ⟨by simp;omega,by decide⟩ rfl fun A4 c4=>?_)|refine aL rfl (f_append (k:=1) (i:=Tryz.t3) (enc:=encInt) (xs:=R k2) 3 Tryz.underlying22 (by kernel_rfl) rfl rfl rfl rfl (fun _=>rfl) (fun _=>rfl) rfl rfl rfl (fun w hw=>slAt_box (enc:=encInt) (xs:=[x.r.rider]) hw (j:=0) rfl (fun _=>rfl) (by simp)) ⟨by simp;omega,by decide⟩ rfl fun A4 c4=>?_))
             refine r1 11 6 ?_
             (first|refine aL rfl (f_append (k:=1) (i:=Tryz.t3) (enc:=encInt) (xs:=D k2) 3 Tryz.underlying22 (by kernel_rfl) rfl rfl rfl rfl (fun _=>rfl) (fun _=>rfl) rfl rfl rfl (fun w hw=>slAt_box (enc:=encInt) (xs:=[x.r.start.lo/86400]) hw (j:=1) rfl (fun _=>rfl) (by simp)) ⟨by simp;omega,by decide⟩ rfl fun A11 c11=>?_)|refine aL rfl (f_append (k:=1) (i:=Tryz.t3) (enc:=encInt) (xs:=D k2) 4 Tryz.underlying22 (by kernel_rfl) rfl rfl rfl rfl (fun _=>rfl) (fun _=>rfl) rfl rfl rfl (fun w hw=>slAt_box (enc:=encInt) (xs:=[x.r.start.lo/86400]) hw (j:=1) rfl (fun _=>rfl) (by simp)) ⟨by simp;omega,by decide⟩ rfl fun A11 c11=>?_))
             refine r1 19 6 ?_
             refine aL rfl (f_append (k:=1) (i:=Tryz.t3) (enc:=encInt) (xs:=bs.map tot) 5 Tryz.underlying22 (by kernel_rfl) rfl rfl rfl rfl (fun _=>rfl) (fun _=>rfl) rfl rfl rfl (fun w hw=>slAt_box (enc:=encInt) (xs:=[b.total]) hw (j:=2) rfl (fun _=>rfl) (by simp)) ⟨by simp;omega,by decide⟩ rfl fun A19 c19=>?_)
             refine aW 20 ?_
             refine aW 21 ?_
             refine aW 22 ?_
             refine aZ (by decide+kernel) (sub_drop 6) ?_
             exact cutJ_normal (((A4,c4),(A11,c11),(A19,c19)):(Option Addr×Nat)×(Option Addr×Nat)×(Option Addr×Nat)) agr ⟨rfl,rfl,rfl,trivial⟩ (fun w hw=>hw.tail.tail.tail) rfl trivial
           ·refine aL rfl (f_slit [(.int .i64 0)] Tryz.underlying22 Tryz.sizeOf3 Tryz.zeroValue3 rfl (by kernel_rfl) (pt (v:= .int _ _) rfl E.p0) rfl rfl fun b115=>?_)
            refine aI 1 ?_
            refine r1 3 5 ?_
            refine aL rfl (f_slit [(.int .i64 0)] Tryz.underlying22 Tryz.sizeOf3 Tryz.zeroValue3 rfl (by kernel_rfl) (pt (v:= .int _ _) rfl E.p0) rfl rfl fun b100=>?_)
            refine r1 4 6 ?_
            (first|refine aL rfl (f_append (k:=1) (i:=Tryz.t3) (enc:=encInt) (xs:=R k2) 1 Tryz.underlying22 (by kernel_rfl) rfl rfl rfl rfl (fun _=>rfl) (fun _=>rfl) rfl rfl rfl (fun w hw=>slAt_box (enc:=encInt) (xs:=[x.r.rider]) hw (j:=0) rfl (fun _=>rfl) (by simp)) ⟨by simp;omega,by decide⟩ rfl fun A4 c4=>?_)|refine aL rfl (f_append (k:=1) (i:=Tryz.t3) (enc:=encInt) (xs:=R k2) 2 Tryz.underlying22 (by kernel_rfl) rfl rfl rfl rfl (fun _=>rfl) (fun _=>rfl) rfl rfl rfl (fun w hw=>slAt_box (enc:=encInt) (xs:=[x.r.rider]) hw (j:=0) rfl (fun _=>rfl) (by simp)) ⟨by simp;omega,by decide⟩ rfl fun A4 c4=>?_)|refine aL rfl (f_append (k:=1) (i:=Tryz.t3) (enc:=encInt) (xs:=R k2) 3 Tryz.underlying22 (by kernel_rfl) rfl rfl rfl rfl (fun _=>rfl) (fun _=>rfl) rfl rfl rfl (fun w hw=>slAt_box (enc:=encInt) (xs:=[x.r.rider]) hw (j:=0) rfl (fun _=>rfl) (by simp)) ⟨by simp;omega,by decide⟩ rfl fun A4 c4=>?_))
            refine r1 11 6 ?_
            (first|refine aL rfl (f_append (k:=1) (i:=Tryz.t3) (enc:=encInt) (xs:=D k2) 3 Tryz.underlying22 (by kernel_rfl) rfl rfl rfl rfl (fun _=>rfl) (fun _=>rfl) rfl rfl rfl (fun w hw=>slAt_box (enc:=encInt) (xs:=[x.r.start.lo/86400]) hw (j:=1) rfl (fun _=>rfl) (by simp)) ⟨by simp;omega,by decide⟩ rfl fun A11 c11=>?_)|refine aL rfl (f_append (k:=1) (i:=Tryz.t3) (enc:=encInt) (xs:=D k2) 4 Tryz.underlying22 (by kernel_rfl) rfl rfl rfl rfl (fun _=>rfl) (fun _=>rfl) rfl rfl rfl (fun w hw=>slAt_box (enc:=encInt) (xs:=[x.r.start.lo/86400]) hw (j:=1) rfl (fun _=>rfl) (by simp)) ⟨by simp;omega,by decide⟩ rfl fun A11 c11=>?_))
            refine r1 19 6 ?_
            refine aL rfl (f_append (k:=1) (i:=Tryz.t3) (enc:=encInt) (xs:=bs.map tot) 5 Tryz.underlying22 (by kernel_rfl) rfl rfl rfl rfl (fun _=>rfl) (fun _=>rfl) rfl rfl rfl (fun w hw=>slAt_box (enc:=encInt) (xs:=[b.total]) hw (j:=2) rfl (fun _=>rfl) (by simp)) ⟨by simp;omega,by decide⟩ rfl fun A19 c19=>?_)
            refine aW 20 ?_
            refine aW 21 ?_
            refine aW 22 ?_
            refine aZ (by decide+kernel) (sub_drop 6) ?_
            exact cutJ_normal (((A4,c4),(A11,c11),(A19,c19)):(Option Addr×Nat)×(Option Addr×Nat)×(Option Addr×Nat)) agr ⟨rfl,rfl,rfl,trivial⟩ (fun w hw=>hw.tail.tail.tail) rfl trivial
          ·refine aL rfl (f_slit [(.int .i64 0)] Tryz.underlying22 Tryz.sizeOf3 Tryz.zeroValue3 rfl (by kernel_rfl) (pt (v:= .int _ _) rfl E.p0) rfl rfl fun b115=>?_)
           refine rdy2 (i:=3) (j:=10) (by decide+kernel) (sub_drop 4) ?_ ?_
           ·refine aL rfl (f_slit [(.int .i64 0)] Tryz.underlying22 Tryz.sizeOf3 Tryz.zeroValue3 rfl (by kernel_rfl) (pt (v:= .int _ _) rfl E.p0) rfl rfl fun b100=>?_)
            refine rdy2 (i:=4) (j:=10) (by decide+kernel) (sub_drop 5) ?_ ?_
            ·(first|refine aL rfl (f_append (k:=1) (i:=Tryz.t3) (enc:=encInt) (xs:=R k2) 1 Tryz.underlying22 (by kernel_rfl) rfl rfl rfl rfl (fun _=>rfl) (fun _=>rfl) rfl rfl rfl (fun w hw=>slAt_box (enc:=encInt) (xs:=[x.r.rider]) hw (j:=0) rfl (fun _=>rfl) (by simp)) ⟨by simp;omega,by decide⟩ rfl fun A4 c4=>?_)|refine aL rfl (f_append (k:=1) (i:=Tryz.t3) (enc:=encInt) (xs:=R k2) 2 Tryz.underlying22 (by kernel_rfl) rfl rfl rfl rfl (fun _=>rfl) (fun _=>rfl) rfl rfl rfl (fun w hw=>slAt_box (enc:=encInt) (xs:=[x.r.rider]) hw (j:=0) rfl (fun _=>rfl) (by simp)) ⟨by simp;omega,by decide⟩ rfl fun A4 c4=>?_)|refine aL rfl (f_append (k:=1) (i:=Tryz.t3) (enc:=encInt) (xs:=R k2) 3 Tryz.underlying22 (by kernel_rfl) rfl rfl rfl rfl (fun _=>rfl) (fun _=>rfl) rfl rfl rfl (fun w hw=>slAt_box (enc:=encInt) (xs:=[x.r.rider]) hw (j:=0) rfl (fun _=>rfl) (by simp)) ⟨by simp;omega,by decide⟩ rfl fun A4 c4=>?_))
             refine r1 10 5 ?_
             refine aL rfl (f_slit [(.int .i64 0)] Tryz.underlying22 Tryz.sizeOf3 Tryz.zeroValue3 rfl (by kernel_rfl) (pt (v:= .int _ _) rfl E.p0) rfl rfl fun b107=>?_)
             refine aI 1 ?_
             refine r1 11 6 ?_
             (first|refine aL rfl (f_append (k:=1) (i:=Tryz.t3) (enc:=encInt) (xs:=D k2) 3 Tryz.underlying22 (by kernel_rfl) rfl rfl rfl rfl (fun _=>rfl) (fun _=>rfl) rfl rfl rfl (fun w hw=>slAt_box (enc:=encInt) (xs:=[x.r.start.lo/86400]) hw (j:=1) rfl (fun _=>rfl) (by simp)) ⟨by simp;omega,by decide⟩ rfl fun A11 c11=>?_)|refine aL rfl (f_append (k:=1) (i:=Tryz.t3) (enc:=encInt) (xs:=D k2) 4 Tryz.underlying22 (by kernel_rfl) rfl rfl rfl rfl (fun _=>rfl) (fun _=>rfl) rfl rfl rfl (fun w hw=>slAt_box (enc:=encInt) (xs:=[x.r.start.lo/86400]) hw (j:=1) rfl (fun _=>rfl) (by simp)) ⟨by simp;omega,by decide⟩ rfl fun A11 c11=>?_))
             refine r1 19 6 ?_
             refine aL rfl (f_append (k:=1) (i:=Tryz.t3) (enc:=encInt) (xs:=bs.map tot) 5 Tryz.underlying22 (by kernel_rfl) rfl rfl rfl rfl (fun _=>rfl) (fun _=>rfl) rfl rfl rfl (fun w hw=>slAt_box (enc:=encInt) (xs:=[b.total]) hw (j:=2) rfl (fun _=>rfl) (by simp)) ⟨by simp;omega,by decide⟩ rfl fun A19 c19=>?_)
             refine aW 20 ?_
             refine aW 21 ?_
             refine aW 22 ?_
             refine aZ (by decide+kernel) (sub_drop 6) ?_
             exact cutJ_normal (((A4,c4),(A11,c11),(A19,c19)):(Option Addr×Nat)×(Option Addr×Nat)×(Option Addr×Nat)) agr ⟨rfl,rfl,rfl,trivial⟩ (fun w hw=>hw.tail.tail.tail) rfl trivial
            ·refine aL rfl (f_slit [(.int .i64 0)] Tryz.underlying22 Tryz.sizeOf3 Tryz.zeroValue3 rfl (by kernel_rfl) (pt (v:= .int _ _) rfl E.p0) rfl rfl fun b107=>?_)
             refine aI 1 ?_
             refine r1 4 6 ?_
             (first|refine aL rfl (f_append (k:=1) (i:=Tryz.t3) (enc:=encInt) (xs:=R k2) 1 Tryz.underlying22 (by kernel_rfl) rfl rfl rfl rfl (fun _=>rfl) (fun _=>rfl) rfl rfl rfl (fun w hw=>slAt_box (enc:=encInt) (xs:=[x.r.rider]) hw (j:=0) rfl (fun _=>rfl) (by simp)) ⟨by simp;omega,by decide⟩ rfl fun A4 c4=>?_)|refine aL rfl (f_append (k:=1) (i:=Tryz.t3) (enc:=encInt) (xs:=R k2) 2 Tryz.underlying22 (by kernel_rfl) rfl rfl rfl rfl (fun _=>rfl) (fun _=>rfl) rfl rfl rfl (fun w hw=>slAt_box (enc:=encInt) (xs:=[x.r.rider]) hw (j:=0) rfl (fun _=>rfl) (by simp)) ⟨by simp;omega,by decide⟩ rfl fun A4 c4=>?_)|refine aL rfl (f_append (k:=1) (i:=Tryz.t3) (enc:=encInt) (xs:=R k2) 3 Tryz.underlying22 (by kernel_rfl) rfl rfl rfl rfl (fun _=>rfl) (fun _=>rfl) rfl rfl rfl (fun w hw=>slAt_box (enc:=encInt) (xs:=[x.r.rider]) hw (j:=0) rfl (fun _=>rfl) (by simp)) ⟨by simp;omega,by decide⟩ rfl fun A4 c4=>?_))
             refine r1 11 6 ?_
             (first|refine aL rfl (f_append (k:=1) (i:=Tryz.t3) (enc:=encInt) (xs:=D k2) 3 Tryz.underlying22 (by kernel_rfl) rfl rfl rfl rfl (fun _=>rfl) (fun _=>rfl) rfl rfl rfl (fun w hw=>slAt_box (enc:=encInt) (xs:=[x.r.start.lo/86400]) hw (j:=1) rfl (fun _=>rfl) (by simp)) ⟨by simp;omega,by decide⟩ rfl fun A11 c11=>?_)|refine aL rfl (f_append (k:=1) (i:=Tryz.t3) (enc:=encInt) (xs:=D k2) 4 Tryz.underlying22 (by kernel_rfl) rfl rfl rfl rfl (fun _=>rfl) (fun _=>rfl) rfl rfl rfl (fun w hw=>slAt_box (enc:=encInt) (xs:=[x.r.start.lo/86400]) hw (j:=1) rfl (fun _=>rfl) (by simp)) ⟨by simp;omega,by decide⟩ rfl fun A11 c11=>?_))
             refine r1 19 6 ?_
             refine aL rfl (f_append (k:=1) (i:=Tryz.t3) (enc:=encInt) (xs:=bs.map tot) 5 Tryz.underlying22 (by kernel_rfl) rfl rfl rfl rfl (fun _=>rfl) (fun _=>rfl) rfl rfl rfl (fun w hw=>slAt_box (enc:=encInt) (xs:=[b.total]) hw (j:=2) rfl (fun _=>rfl) (by simp)) ⟨by simp;omega,by decide⟩ rfl fun A19 c19=>?_)
             refine aW 20 ?_
             refine aW 21 ?_
             refine aW 22 ?_
             refine aZ (by decide+kernel) (sub_drop 6) ?_
             exact cutJ_normal (((A4,c4),(A11,c11),(A19,c19)):(Option Addr×Nat)×(Option Addr×Nat)×(Option Addr×Nat)) agr ⟨rfl,rfl,rfl,trivial⟩ (fun w hw=>hw.tail.tail.tail) rfl trivial
           ·refine aL rfl (f_slit [(.int .i64 0)] Tryz.underlying22 Tryz.sizeOf3 Tryz.zeroValue3 rfl (by kernel_rfl) (pt (v:= .int _ _) rfl E.p0) rfl rfl fun b107=>?_)
            refine r1 3 5 ?_
            refine aL rfl (f_slit [(.int .i64 0)] Tryz.underlying22 Tryz.sizeOf3 Tryz.zeroValue3 rfl (by kernel_rfl) (pt (v:= .int _ _) rfl E.p0) rfl rfl fun b100=>?_)
            refine r1 4 6 ?_
            (first|refine aL rfl (f_append (k:=1) (i:=Tryz.t3) (enc:=encInt) (xs:=R k2) 1 Tryz.underlying22 (by kernel_rfl) rfl rfl rfl rfl (fun _=>rfl) (fun _=>rfl) rfl rfl rfl (fun w hw=>slAt_box (enc:=encInt) (xs:=[x.r.rider]) hw (j:=0) rfl (fun _=>rfl) (by simp)) ⟨by simp;omega,by decide⟩ rfl fun A4 c4=>?_)|refine aL rfl (f_append (k:=1) (i:=Tryz.t3) (enc:=encInt) (xs:=R k2) 2 Tryz.underlying22 (by kernel_rfl) rfl rfl rfl rfl (fun _=>rfl) (fun _=>rfl) rfl rfl rfl (fun w hw=>slAt_box (enc:=encInt) (xs:=[x.r.rider]) hw (j:=0) rfl (fun _=>rfl) (by simp)) ⟨by simp;omega,by decide⟩ rfl fun A4 c4=>?_)|refine aL rfl (f_append (k:=1) (i:=Tryz.t3) (enc:=encInt) (xs:=R k2) 3 Tryz.underlying22 (by kernel_rfl) rfl rfl rfl rfl (fun _=>rfl) (fun _=>rfl) rfl rfl rfl (fun w hw=>slAt_box (enc:=encInt) (xs:=[x.r.rider]) hw (j:=0) rfl (fun _=>rfl) (by simp)) ⟨by simp;omega,by decide⟩ rfl fun A4 c4=>?_))
            refine r1 11 6 ?_
            (first|refine aL rfl (f_append (k:=1) (i:=Tryz.t3) (enc:=encInt) (xs:=D k2) 3 Tryz.underlying22 (by kernel_rfl) rfl rfl rfl rfl (fun _=>rfl) (fun _=>rfl) rfl rfl rfl (fun w hw=>slAt_box (enc:=encInt) (xs:=[x.r.start.lo/86400]) hw (j:=1) rfl (fun _=>rfl) (by simp)) ⟨by simp;omega,by decide⟩ rfl fun A11 c11=>?_)|refine aL rfl (f_append (k:=1) (i:=Tryz.t3) (enc:=encInt) (xs:=D k2) 4 Tryz.underlying22 (by kernel_rfl) rfl rfl rfl rfl (fun _=>rfl) (fun _=>rfl) rfl rfl rfl (fun w hw=>slAt_box (enc:=encInt) (xs:=[x.r.start.lo/86400]) hw (j:=1) rfl (fun _=>rfl) (by simp)) ⟨by simp;omega,by decide⟩ rfl fun A11 c11=>?_))
            refine r1 19 6 ?_
            refine aL rfl (f_append (k:=1) (i:=Tryz.t3) (enc:=encInt) (xs:=bs.map tot) 5 Tryz.underlying22 (by kernel_rfl) rfl rfl rfl rfl (fun _=>rfl) (fun _=>rfl) rfl rfl rfl (fun w hw=>slAt_box (enc:=encInt) (xs:=[b.total]) hw (j:=2) rfl (fun _=>rfl) (by simp)) ⟨by simp;omega,by decide⟩ rfl fun A19 c19=>?_)
            refine aW 20 ?_
            refine aW 21 ?_
            refine aW 22 ?_
            refine aZ (by decide+kernel) (sub_drop 6) ?_
            exact cutJ_normal (((A4,c4),(A11,c11),(A19,c19)):(Option Addr×Nat)×(Option Addr×Nat)×(Option Addr×Nat)) agr ⟨rfl,rfl,rfl,trivial⟩ (fun w hw=>hw.tail.tail.tail) rfl trivial
         ·rintro ⟨⟨rA2,rc2⟩,⟨dA2,dc2⟩,⟨sA2,sc2⟩⟩ g5 _
          iterate 6 refine G ?_
          exact loopJ_normal (k2+1,bs++[(⟨z.1,b,z.2.1,z.2.2⟩:BX)],(A1,c1),(rA2,rc2),(dA2,dc2),(sA2,sc2)) agr ⟨rfl,rfl,by rw [hR1];rfl,by rw [hD1];rfl,by rw [htb];rfl,trivial⟩ (fun w hw=>by
           rw [hR1,hD1,htb]
           exact (Mem.pushed (f:=bxParts) (y:=(⟨z.1,b,z.2.1,z.2.2⟩:BX)) (xs:=bs) (hw.pick [3,4,7,6,0,1,2,8,9,10,11,12] (by decide))).pick [1,2,3,4,0,5,6,7,8,9] (by decide)) rfl ⟨by show k2+1≤m;omega,by rw [hFSs];unfold fsStep;simp only [hfp,List.map_append,List.map_cons,List.map_nil]⟩ (by show m -(k2+1)<m -k2;omega)
      ·have hend:k2=m:=by simp at hlt2;omega
       subst hend
       have hrich:Rich l (bs.map (·.b)):=rich_of h1' hlg (husm.trans hlm.symm) (by rw [hlm];exact hFS)
       have hfsA:fsAll p (l.zip us)=some (bs.map (·.b)):=by rw [←FS_all (k:=k2) (by omega)];exact hFS
       have hRl2:=hRl k2 (Nat.le_refl _)
       have hDl2:=hDl k2 (Nat.le_refl _)
       have htl2:(bs.map tot).length=k2:=by rw [List.length_map,hbl]
       have hRm:R k2=l.map (·.rider):=by rw [hRd,←hlm,List.take_length]
       have hDm:D k2=l.map fun r=>r.start.lo/86400:=by rw [hDd,←hlm,List.take_length]
       have hSm:bs.map tot=(bs.map (·.b)).map (·.total):=by rw [List.map_map];exact List.map_congr_left fun x _=>htot x
       obtain ⟨pd,hpd⟩: ∃pd,pd=paidOf p l (bs.map (·.b)):=⟨_,rfl⟩
       have hpdl:pd.length=k2:=by rw [hpd,paidOf_len hrich.len,List.length_map,hbl]
       have hApp: ∀(w':World),SlAt w' 1 encInt rA (R k2).length (R k2)→SlAt w' 1 encInt dA (D k2).length (D k2)→SlAt w' 1 encInt sA (bs.map tot).length (bs.map tot)→Calls Tryz.prog 112 #[.int .i64 p.cap, .slice rA k2 rc, .slice dA k2 dc, .slice sA k2 sc] w' fun e w''=> ∃z:Option Addr×Nat,e= .returned (.tuple #[.slice z.1 pd.length z.2, .int .i64 0])∧Mem w' [intRow z.1 z.2 pd] w'':=fun w' s1 s2 s3=>by
        rw [hRl2] at s1
        rw [hDl2] at s2
        rw [htl2] at s3
        have h:=dApply_w p.cap rA rc dA dc sA sc k2 ((l.zip (bs.map (·.b))).map dyOf) w' ⟨by rw [dy_rider hrich.len,←hRm];exact s1,by rw [dy_day hrich.len,←hDm];exact s2,by rw [dy_amount hrich.len,←hSm];exact s3⟩ (dyErr_ok h1' hlg hrich)
        rw [show (dayS p.cap ((l.zip (bs.map (·.b))).map dyOf)).map (·.2)=pd from hpd.symm] at h
        exact h
       rw [hRl2,hDl2,htl2]
       iterate 12 refine G ?_
       refine xCX (en Tryz.call112 (ha4 (q0 rfl) (q0 rfl) (q0 rfl) (q0 rfl))) (fun w hw=>hApp w (slAt_row hw (j:=1) rfl (fun _=>rfl) (by omega)) (slAt_row hw (j:=2) rfl (fun _=>rfl) (by omega)) (slAt_row hw (j:=3) rfl (fun _=>rfl) (by omega))) rfl (fun _=>rfl) fun dz=>?_
       obtain ⟨qA,qc⟩:=dz
       iterate 14 refine G ?_
       refine H_cond rfl ?_ ?_<;>intro h6
       ·exfalso;simp at h6
       ·have _ht:True:=trivial
        obtain ⟨Z,hZ⟩: ∃Z,Z=(bs.map (·.b)).zip pd:=⟨_,rfl⟩
        have hZl:Z.length=k2:=by rw [hZ,List.length_zip,List.length_map];omega
        iterate 4 refine G ?_
        refine xV e_fn rfl rfl ?_
        iterate 7 refine G ?_
        refine X_eff (f_make (i:=Tryz.t81) (k:=4) (n:=0) (m:=bs.length) FX.cells (⟨⟨0,0,[],0⟩,none,0⟩:FX) Tryz.underlying74 (by kernel_rfl) rfl rfl rfl rfl rfl ⟨⟨Nat.zero_le _,by omega⟩,by decide⟩ rfl fun b133=>?_)
        iterate 5 refine G ?_
        refine H_mem (L':=[faRow (some ⟨b133,0,none⟩) bs.length [],bag (([]:List FX).flatMap faParts),bag (bs.flatMap bxParts),intRow qA qc pd,ptRow pA pc bs,intRow sA sc (bs.map tot),box b7 193 [.slice V vn vc],box b5 28 (p.cells a),box b4 24 (f.cells fa)]) (fun w hw=>((hw.pick [0,6,1,2,5,9,10,11] (by decide)).noBag (f:=faParts)).pick [1,0,2,3,4,5,6,7,8] (by decide)) rfl ?_
        iterate 7 refine G ?_
        refine H_loop [8,9,28,29,30,136,137,138,139,140,141,142,143,144,145,146,147,148,149,150,151,152,153,154,155,156,157,158,159,160,161,162,163,164,165,166,167,168] (fun s:Nat×List FX×(Option Addr×Nat)=>[(136, .int .i64 s.1),(28, .slice s.2.2.1 s.2.1.length s.2.2.2)]) (fun s=>[faRow s.2.2.1 s.2.2.2 s.2.1,bag (s.2.1.flatMap faParts),bag ((bs.drop s.1).flatMap bxParts),intRow qA qc pd,ptRow pA pc bs,intRow sA sc (bs.map tot),box b7 193 [.slice V vn vc],box b5 28 (p.cells a),box b4 24 (f.cells fa)]) (fun s=>s.1≤k2∧FN p vs Z s.1=some (s.2.1.map (·.b))) (fun s=>k2 -s.1) (0,[],(some ⟨b133,0,none⟩,bs.length)) ⟨rfl,rfl,trivial⟩ (fun w hw=>hw) rfl ⟨Nat.zero_le _,by unfold FN;rfl⟩ ?_
        rintro ⟨k3,fs,⟨fA,fc⟩⟩ g3 ⟨hk3,hFN⟩
        simp only at hk3 hFN
        have hfl:fs.length=k3:=by
         have h:=congrArg List.length (FN_facts (by omega) hFN)
         rw [List.length_map,List.length_map,List.length_take] at h
         omega
        iterate 6 refine G ?_
        refine H_cond rfl ?_ ?_<;>intro hlt3
        ·have hlt3':k3<k2:=by first|(simp at hlt3;omega)|omega
         obtain ⟨bk,hbk⟩: ∃bk,bs[k3]?=some bk:=⟨_,List.getElem?_eq_getElem (by omega)⟩
         obtain ⟨pv,hpk⟩: ∃pv,pd[k3]?=some pv:=⟨_,List.getElem?_eq_getElem (by omega)⟩
         obtain ⟨lr,hlk⟩: ∃lr,l[k3]?=some lr:=⟨_,List.getElem?_eq_getElem (by omega)⟩
         have hBk:(bs.map (·.b))[k3]?=some bk.b:=by simp [hbk]
         have hSk:(bs.map tot)[k3]?=some bk.b.total:=by simp [hbk,htot]
         have hrr:=hrich.ride k3 bk.b lr hBk hlk
         have hpr:0≤pv∧pv≤1000000000000:=by
          have h:=List.mem_of_getElem? hpk
          rw [hpd] at h
          exact paid_range h1' hrich h
         have hZk:Z[k3]?=some (bk.b,pv):=by rw [hZ];exact zip_get hBk hpk
         have hFNs:=FN_succ (p:=p) (vs:=vs) hZk
         rw [hFN] at hFNs
         obtain ⟨b1,hb1⟩: ∃b1,b1=addB bk.b 6 0 (pv -bk.b.total):=⟨_,rfl⟩
         have hb1t:b1.total=pv:=by rw [hb1,addB_total];omega
         have hb1l:b1.items.length≤6:=by have:=addB_len bk.b 6 0 (pv -bk.b.total);rw [←hb1] at this;omega
         have hfb:finB p vs bk.b (pv -bk.b.total)=finB2 p vs b1 b1.ride:=by rw [hb1];exact finB_eq p vs bk.b (pv -bk.b.total)
         refine H_know (fun w hw=>rowT_at (j:=4) hw rfl (by omega)) fun ⟨pb,hpb⟩=>?_
         subst hpb
         refine H_know (fun w hw=>rowT_at (j:=3) hw rfl (by omega)) fun ⟨qb,hqb⟩=>?_
         subst hqb
         refine H_know (fun w hw=>rowT_at (j:=5) hw rfl (by omega)) fun ⟨sb,hsb⟩=>?_
         subst hsb
         iterate 7 refine G ?_
         refine xV (e_idx k3 Tryz.underlying199 Tryz.sizeOf200 (q0 rfl) (q0 rfl) (fun _=>⟨rfl,by simp only;omega⟩)) rfl rfl ?_
         refine xV (e_ld (v:= .pointer (some ⟨bk.q,0,none⟩)) Tryz.isAgg200 (q0 rfl) (by exact rr0 4 (enc:=BX.ptr) rfl hbk rfl)) rfl rfl ?_
         iterate 5 refine G ?_
         refine H_mem (L':=[box bk.q 204 (bk.b.cells bk.A bk.c),itRow bk.A bk.c bk.b.items,intRow (some ⟨qb,0,none⟩) qc pd,intRow (some ⟨sb,0,none⟩) sc (bs.map tot),bag ((bs.drop (k3+1)).flatMap bxParts),faRow fA fc fs,bag (fs.flatMap faParts),ptRow (some ⟨pb,0,none⟩) pc bs,box b7 193 [.slice V vn vc],box b5 28 (p.cells a),box b4 24 (f.cells fa)]) (fun w hw=>by
          rw [drop_of hbk] at hw
          exact (Mem.apart (f:=bxParts) (xs:=bk::bs.drop (k3+1)) (k:=0) (x:=bk) (hw.pick [2,0,1,3,4,5,6,7,8] (by decide)) rfl).pick [0,1,5,7,2,3,4,6,8,9,10] (by decide)) rfl ?_
         refine RAd 2 rfl (by decide+kernel) ?_
         refine aW 0 ?_
         refine aW 1 ?_
         refine aW 2 ?_
         refine aV 3 (by decide+kernel) rfl (e_idx k3 Tryz.underlying22 Tryz.sizeOf3 (q0 rfl) (q0 rfl) (fun _=>⟨rfl,by omega⟩)) rfl ?_
         refine aV 4 (by decide+kernel) rfl (e_ld (v:= .int .i64 pv) Tryz.isAgg3 (q0 rfl) (by exact rr0 0 (enc:=encInt) rfl hpk rfl)) rfl ?_
         refine aW 5 ?_
         refine aW 6 ?_
         refine aV 7 (by decide+kernel) rfl (e_idx k3 Tryz.underlying22 Tryz.sizeOf3 (q0 rfl) (q0 rfl) (fun _=>⟨rfl,by omega⟩)) rfl ?_
         refine aV 8 (by decide+kernel) rfl (e_ld (v:= .int .i64 bk.b.total) Tryz.isAgg3 (q0 rfl) (by exact rr0 1 (enc:=encInt) rfl hSk rfl)) rfl ?_
         refine aV 9 (by decide+kernel) rfl (e_sub (r:=pv -bk.b.total) (q0 rfl) (q0 rfl) (fun _=>⟨rfl,by omega,by omega⟩)) rfl ?_
         refine r1 10 2 ?_
         refine aL rfl (f_callM (en Tryz.call118 (ha4 (q0 rfl) (q0 rfl) (q0 rfl) (q0 rfl))) (fun w hw=>add_w 6 0 (pv -bk.b.total) hw rfl (by omega) (by omega)) rfl (fun _=>rfl) fun z6=>?_)
         refine aZ (by decide+kernel) (sub_drop 2) ?_
         iterate 2 refine G ?_
         rw [←hb1]
         iterate 3 refine G ?_
         refine X_eff (f_callM (enV (cap:=[.pointer (some ⟨b7,0,none⟩), .pointer (some ⟨b5,0,none⟩)]) (al:=[.pointer (some ⟨bk.q,0,none⟩), .pointer (some ⟨b7,0,none⟩), .pointer (some ⟨b5,0,none⟩)]) Tryz.call113 (q0 rfl) (fun hg=>by rw [ha1 (q0 (v:= .pointer _) rfl) hg];rfl)) (fun w hw=>fined_w hw rfl 6 7 b7 b5 V vn vc vs p a rfl rfl hv hp hpe (by omega) (by omega)) rfl (fun _=>rfl) fun z7=>?_)
         iterate 4 refine G ?_
         rw [←hfb]
         obtain ⟨fb,hfbe⟩: ∃fb,fb=finB p vs bk.b (pv -bk.b.total):=⟨_,rfl⟩
         rw [←hfbe]
         iterate 5 refine G ?_
         refine xV (e_ld (v:= .int .i64 fb.total) Tryz.isAgg3 (q0 rfl) (bx 0 rfl rfl)) rfl rfl ?_
         iterate 3 refine G ?_
         refine H_cond rfl ?_ ?_<;>intro h7
         ·have h7':1000000000000<fb.total:=of_decide_eq_true h7
          have hno:allP p (rs.map (·.r)) vs=none:=by
           have h8:fnAll p vs Z=none:=FN_none (k:=k3+1) (by rw [hFNs];unfold fnStep;simp only;rw [←hfbe,if_pos h7'])
           unfold allP
           rw [←hlc,←hus,hfsA]
           simp only
           rw [←hpd,←hZ,h8]
          rw [hE,if_pos hno]
          iterate 13 refine G ?_
          exact ret2 (v:= .slice _ _ _) (x:= .int _ _) rfl rfl rfl rfl fun w' hw=>⟨⟨([],none,0),by rw [hR,hno];rfl⟩,rfl,errM hw⟩
         ·have h7': ¬1000000000000<fb.total:=of_decide_eq_false h7
          iterate 7 refine G ?_
          refine xV (eP Tryz.isAgg81 Tryz.sizeOf81 (q0 rfl)) rfl rfl ?_
          refine X_push (k:=4) (i:=Tryz.t81) 5 ((⟨fb,z7.1,z7.2⟩:FX)) Tryz.underlying74 (by kernel_rfl) rfl rfl rfl rfl Tryz.sizeOf81 Tryz.zeroValue81 rfl rfl rfl rfl rfl rfl ⟨by simp only;omega,by decide⟩ rfl rfl fun B0 A1 c1=>?_
          iterate 8 refine G ?_
          exact loopJ_normal (k3+1,fs++[(⟨fb,z7.1,z7.2⟩:FX)],(A1,c1)) agr ⟨rfl,rfl,trivial⟩ (fun w hw=>(Mem.pushed (f:=faParts) (y:=(⟨fb,z7.1,z7.2⟩:FX)) (xs:=fs) (hw.pick [1,6,5,4,2,7,3,8,9,10] (by decide))).pick [1,0,2,3,4,5,6,7,8] (by decide)) rfl ⟨by show k3+1≤k2;omega,by rw [hFNs];unfold fnStep;simp only;rw [←hfbe,if_neg h7'];simp⟩ (by show k2 -(k3+1)<k2 -k3;omega)
        ·have hend:k3=k2:=by first|(simp at hlt3;omega)|omega
         subst hend
         have hfnA:fnAll p vs Z=some (fs.map (·.b)):=by rw [←FN_all (k:=k3) (by omega)];exact hFN
         have hall:allP p (rs.map (·.r)) vs=some (byRide (fs.map (·.b))):=by
          unfold allP
          rw [←hlc,←hus,hfsA]
          simp only
          rw [←hpd,←hZ,hfnA]
         have hnd:((fs.map (·.b)).map (·.ride)).Nodup:=by
          rw [FN_facts (by omega) hFN,←hZl,List.take_length,hZ,fin_rides (by rw [List.length_map];omega),rides_of hrich]
          exact (twice_nodup _ _ hlg.ids).1
         iterate 8 refine G ?_
         refine X_eff (f_callM (en Tryz.call119 (ha2 (q0 rfl) (q0 rfl))) (fun w hw=>fsort_w hw (j:=0) rfl rfl (by simp only;omega)) rfl (fun _=>rfl) fun ys1=>?_)
         obtain ⟨gs,hgp,hgs⟩:=ys1
         have hgl:gs.length=fs.length:=hgp.length_eq
         have hgb:gs.map (·.b)=byRide (fs.map (·.b)):=byRide_unique (hgp.map _) hnd (List.pairwise_map.2 hgs)
         rw [hE,if_neg (by rw [hall];simp),←hgl]
         iterate 10 refine G ?_
         exact ret2 (v:= .slice _ _ _) (x:= .int _ _) rfl rfl rfl rfl fun w' hw=>⟨⟨(gs,fA,fc),by rw [hR,hall];exact hgb⟩,rfl,(bag_perm (hw.pick [1,0] (by decide)) hgp).pick [1,0] (by decide)⟩
end Go.Proofs.Far
