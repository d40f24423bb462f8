import Derived.Test.YtakhechhnnjbcaaGreatBC25
import Derived.Test.YtakhechhnnjbcaaGreatBC19
import Derived.Test.YtakhechhnnjbcaaGreatBC04
import Derived.Test.YtakhechhnnjbcaaGreatTc
set_option maxRecDepth 100000
set_option maxHeartbeats 8000000
set_option linter.unusedVariables false
set_option linter.unusedSimpArgs false
namespace Go.Proofs.Far
open Go Go.RowKit Go.Proofs.E Go.Proofs.Cus Go.Proofs.Rid
structure BX where
 q:Nat
 b:iY
 A:Option Addr
 c:Nat
deriving Inhabited
def BX.ptr (x:BX):List Value:=[.pointer (some ⟨x.q,0,none⟩)]
def r3 (x:BX):List E.Item:=[box x.q 204 (x.b.cells x.A x.c),u0 x.A x.c x.b.items]
abbrev DK (A:Option Addr) (c:Nat) (xs:List BX):E.Item:=dR 200 1 BX.ptr A c xs
theorem N9 {w0 w:World} {L:List E.Item} (h:Mem w0 L w):Mem w0 [ua none 0 [],dD (([]:List FX).flatMap pF)] w:=((iT.2 h.1).wE).eX 81 4 FX.cells (c:=0) rfl
theorem yP {w0 w:World} {L:List E.Item} {xs ys:List FX} (h:Mem w0 (dD (xs.flatMap pF)::L) w) (hp:ys.Perm xs):Mem w0 (dD (ys.flatMap pF)::L) w:=by
 have h1:=h.uG;exact (h1.perm ((hp.flatMap_right pF).append_right L)).dD
theorem tK {q:Rd→Bool}: ∀l:List RX,(l.filter fun x=>q x.r).map (·.r)=(l.map (·.r)).filter q
 |[]=>rfl
 |x::l=>by
  rw [cI,jI,jI];cases h:q x.r
  ·rw [ah (by simp),ah (by simp)];exact tK l
  rw [av rfl,av rfl,cI,tK l]
theorem QR (p:Pr) (vs:List Pen.V) (b:iY) (d:Int):qf p vs b d=wJ p vs (k6 b 6 0 d) (k6 b 6 0 d).aP:=by
 unfold qf wJ;rw [(nN b 6 0 d).1]
attribute [local irreducible] nk vX Dm wJ qf th tZ iG sq k6 FS FN
theorem Ay (f:Fl) (fa:FA) (p:Pr) (a:xz) (A:Option Addr) (n c:Nat) (rs:List RX) (V:Option Addr) (vn vc:Nat) (vs:List Pen.V) (w:World) (hf:kp w f fa) (hp:lK w p a) (hr:rE w A n rs) (hs:O8 rs) (hv:Pen.C4 w V vn vs) (hpl: ∀x∈rs,x.r.pl≤9223372036854775807):
  Calls Tryz.prog 64 #[.agg (f.cells fa).toArray, .agg (p.cells a).toArray, .slice A n c, .slice V vn vc] w fun e w'=> ∃z:{z:List FX×(Option Addr×Nat)//z.1.map (·.b)=iW f p (rs.map (·.r)) vs},e= .returned (.tuple #[.slice z.1.2.1 z.1.1.length z.1.2.2, .int .i64 (dS f p (rs.map (·.r)) vs)])∧Mem w [ua z.1.2.1 z.1.2.2 z.1.1,dD (z.1.1.flatMap pF)] w':=by
 have hl:=hr.1.1;have hn:=hr.1.2.1;refine aS Tryz.func64 rfl Tryz.ntmps64 rfl ?_;iterate 2 refine G ?_
 refine cd (v:= .agg _) rfl rfl fun b4=>?_;refine cd (v:= .agg _) rfl rfl fun b5=>?_;refine cd (v:= .slice _ _ _) rfl rfl fun b7=>?_;iterate 9 refine G ?_
 refine gV (en Wd (gr (q0 rfl) (q0 rfl))) (fun _ w hw=>CD f fa p a w (hf.mem hw) (hp.mem hw)) ?_;iterate 9 refine G ?_
 refine au rfl ?_ ?_<;>intro h1
 ·have h1':jk f p≠0:=by simpa using h1
  have e2:iW f p (rs.map (·.r)) vs=[]:=by unfold iW;rw [av (.inl h1')]
  rw [show dS f p (rs.map (·.r)) vs=jk f p by unfold dS;rw [av h1']];iterate 9 refine G ?_
  exact fV (v:= .slice _ _ _) (x:= .int _ _) rfl rfl rfl rfl fun w' hw=>⟨⟨([],none,0),e2.symm⟩,rfl,N9 hw⟩
 have h1':jk f p=0:=by simpa using h1
 iterate 6 refine G ?_
 refine gV (en Tryz.call105 (il (q0 rfl))) (fun _ w hw=>P5 A n c rs w (hr.mem hw) hs) ?_;iterate 9 refine G ?_
 refine au rfl ?_ ?_<;>intro h2
 ·have h2':lR (rs.map (·.r))≠0:=by simpa using h2
  have e2:iW f p (rs.map (·.r)) vs=[]:=by unfold iW;rw [av (.inr (.inl h2'))]
  rw [show dS f p (rs.map (·.r)) vs=lR (rs.map (·.r)) by unfold dS;rw [ah (by omega),av h2']];iterate 9 refine G ?_
  exact fV (v:= .slice _ _ _) (x:= .int _ _) rfl rfl rfl rfl fun w' hw=>⟨⟨([],none,0),e2.symm⟩,rfl,N9 hw⟩
 have h2':lR (rs.map (·.r))=0:=by simpa using h2
 iterate 6 refine G ?_
 refine gV (en Tryz.call106 (il (q0 rfl))) (fun _ w hw=>Pen.Mp V vn vc vs w (hv.mem hw)) ?_;iterate 9 refine G ?_
 refine au rfl ?_ ?_<;>intro h3
 ·have h3':Pen.sd vs≠0:=by simpa using h3
  have e2:iW f p (rs.map (·.r)) vs=[]:=by unfold iW;rw [av (.inr (.inr h3'))]
  rw [show dS f p (rs.map (·.r)) vs=Pen.sd vs by unfold dS;rw [ah (by omega),ah (by omega),av h3']];iterate 9 refine G ?_
  exact fV (v:= .slice _ _ _) (x:= .int _ _) rfl rfl rfl rfl fun w' hw=>⟨⟨([],none,0),e2.symm⟩,rfl,N9 hw⟩
 have h3':Pen.sd vs=0:=by simpa using h3
 have hgood:Good (rs.map (·.r)):=nH h2';have hE:dS f p (rs.map (·.r)) vs=if vp p (rs.map (·.r)) vs=none then 2 else 0:=by unfold dS;rw [ah (by omega),ah (by omega),ah (by omega)]
 have hR:iW f p (rs.map (·.r)) vs=(vp p (rs.map (·.r)) vs).getD []:=by unfold iW;rw [ah (by omega)]
 have hfew:=hgood.N2;rw [aD,hl] at hfew;obtain ⟨_,_,hpas,_,_,_,hc1,hc2,hpe⟩:=nI h1';obtain ⟨Q,hQ⟩: ∃Q:Nat→List RX,∀k,Q k=(rs.take k).filter fun x=>!x.r.open_:=⟨_,fun _=>rfl⟩;have hQ0:Q 0=[]:=by rw [hQ];rfl
 have hQn:Q n=rs.filter fun x=>!x.r.open_:=by rw [hQ,←hl,dp]
 have hQl: ∀k,(Q k).length≤n:=fun k=>by
  rw [hQ];exact jd (da _ _) (by rw [cH];omega)
 have hQs: ∀k x,rs[k]?=some x→Q (k+1)=if (!x.r.open_)=true then Q k++[x] else Q k:=fun k x h=>by
  rw [hQ,hQ,od _ _ _ h,dw];split
  ·rename_i ho;rw [iA (p:=fun x:RX=>!x.r.open_) ho];rfl
  rename_i ho;rw [iB (p:=fun x:RX=>!x.r.open_) ho];simp
 iterate 3 refine G ?_
 refine fY (L':=[jt none 0 [],box b7 193 [.slice V vn vc],box b5 28 (p.cells a),box b4 24 (f.cells fa)]) (fun w hw=>hw.eX 191 13 RX.cells rfl) rfl ?_;iterate 13 refine G ?_
 refine ct [13,15,49,50,51,52,53,54,55,56,57,58,59,60] (fun s:Nat×Option Addr×Nat=>[(49, .int .i64 s.1),(13, .slice s.2.1 (Q s.1).length s.2.2)]) (fun s=>[jt s.2.1 s.2.2 (Q s.1),box b7 193 [.slice V vn vc],box b5 28 (p.cells a),box b4 24 (f.cells fa)]) (fun s=>s.1≤n) (fun s=>n -s.1) (0,none,0) ⟨rfl,by rw [hQ0];rfl,trivial⟩ (fun w hw=>by rw [hQ0];exact hw) rfl (aU _) ?_;rintro ⟨k,cA,cc⟩ g hk;simp only at hk;iterate 6 refine G ?_
 refine au rfl ?_ ?_<;>intro hlt
 ·have hlt':k<n:=by simpa using hlt
  obtain ⟨b,off,x,rfl,hbl,hxk,hrx⟩:=hr.1.at_ hlt';have hst:=hQs k x hxk;have hql:=hQl k;iterate 6 refine G ?_
  refine bO (bt _ bI bo (q0 rfl) (q0 rfl) (fun _=>⟨rfl,by omega⟩)) ?_;refine G ?_;refine cx dq rfl fun b15=>?_;refine fI (v:= .agg _) rfl rfl bo ?_;iterate 9 refine G ?_
  refine au rfl ?_ ?_<;>intro ho
  ·have ho':(!x.r.open_)=true:=ho;rw [av ho'] at hst;iterate 3 refine G ?_
   refine lq (k:=13) (i:=Tryz.t191) 1 (x) bI (by kernel_rfl) rfl rfl rfl rfl bo dq rfl rfl rfl rfl rfl rfl ⟨by simp only;omega,by decide⟩ rfl rfl fun B0 A1 c1=>?_;iterate 8 refine G ?_
   exact ay (k+1,A1,c1) eE ⟨rfl,by rw [hst];rfl,trivial⟩ (fun w hw=>by rw [hst];exact hw.tail) rfl (by show k+1≤n;omega) (by show n -(k+1)<n -k;omega)
  have ho':(!x.r.open_)=false:=ho;rw [ah (by rw [ho'];decide)] at hst;iterate 7 refine G ?_
  exact ay (k+1,cA,cc) eE ⟨rfl,by rw [hst];rfl,trivial⟩ (fun w hw=>by rw [hst];exact hw.tail) rfl (by show k+1≤n;omega) (by show n -(k+1)<n -k;omega)
 have hend:k=n:=by simp at hlt;omega
 subst hend;have hql:=hQl k;iterate 8 refine G ?_
 refine bZ (bR (en Tryz.call107 (gr (q0 rfl) (q0 rfl))) (fun w hw=>P2 hw (j:=0) rfl rfl (by simp only;omega)) rfl (fun _=>rfl) fun ys0=>?_);obtain ⟨ys,hyp,hyo⟩:=ys0;obtain ⟨l,hll⟩: ∃l:List Rd,l=ys.map (·.r):=⟨_,rfl⟩;have hlc:l=iG (rs.map (·.r)):=by
  rw [hll];refine vg hgood ?_ (gA.2 hyo);rw [←tK,←hQn];exact hyp.map _
 have hlg:Good l:=by rw [hlc];exact Eh hgood
 have hls:l.Pairwise fun a b=>eB a b=true:=by rw [hlc];exact rZ hgood
 have hyl:ys.length=(Q k).length:=hyp.length_eq;obtain ⟨m,hm⟩: ∃m,m=(Q k).length:=⟨_,rfl⟩;rw [←hm] at hyl hql;rw [←hm];have hlm:l.length=m:=by rw [hll,aD,hyl]
 have hym: ∀x∈ys,x∈rs∧x.r.open_=false:=fun x hx=>by
  have h4:=hyp.mem_iff.1 hx;rw [hQn] at h4;have h5:=dT.1 h4;exact ⟨h5.1,by simpa using h5.2⟩
 have hyAt: ∀{L:List E.Item} {w':World} {j:Nat},Mem w L w'→L[j]?=some (jt cA cc ys)→rE w' cA m ys:=fun {L w' j} hw hj=>⟨by rw [←hyl];exact cW hw hj (fun _=>rfl) (by omega),fun x hx=>(hr.2 x (hym x hx).1).mem hw⟩;obtain ⟨us,hus⟩: ∃us,us=nG p l:=⟨_,rfl⟩;have husm:us.length=m:=by rw [hus,sV,hlm]
 have husr:(vX p.iE (ys.map fun x=>my x.r)).1=us:=by rw [hus,hll];unfold nG;rw [fO];rfl
 have hUse: ∀{L:List E.Item} (w':World),Mem w L w'→rE w' cA m ys→Calls Tryz.prog 110 #[.slice a.p.A a.p.n a.p.c, .slice cA m cc] w' fun e w''=> ∃z:Nat,e= .returned (.tuple #[.slice (some ⟨z,0,none⟩) m m, .int .i64 0])∧Mem w' [dY (some ⟨z,0,none⟩) m us] w'':=fun w' hw hy=>by
  have h:=TC a.p.A a.p.n a.p.c p.iE cA m cc ys w' (hp.ps.mem hw) hy hpas (by rw [←hll];exact hlg) (by rw [hll] at hls;exact gA.1 hls);rw [husr] at h;exact h
 iterate 7 refine G ?_
 refine qW (en Tryz.call110 (gr (q0 rfl) (q0 rfl))) (fun w hw=>hUse w hw (hyAt hw (j:=0) rfl)) rfl (fun _=>rfl) fun zu=>?_;iterate 14 refine G ?_
 refine au rfl ?_ ?_<;>intro h4
 ·exfalso;simp at h4
 obtain ⟨R,hRd⟩: ∃R:Nat→List Int,∀k,R k=(l.take k).map (·.rider):=⟨_,fun _=>rfl⟩;obtain ⟨D,hDd⟩: ∃D:Nat→List Int,∀k,D k=(l.take k).map fun r=>r.start.lo/86400:=⟨_,fun _=>rfl⟩;have hR0:R 0=[]:=by rw [hRd];rfl
 have hD0:D 0=[]:=by rw [hDd];rfl
 have hRl: ∀k,k≤m→(R k).length=k:=fun k hk=>by rw [hRd,aD,cH];omega
 have hDl: ∀k,k≤m→(D k).length=k:=fun k hk=>by rw [hDd,aD,cH];omega
 have hRs: ∀k x,l[k]?=some x→R (k+1)=R k++[x.rider]:=fun k x h=>by rw [hRd,hRd,od _ _ _ h,bX];rfl
 have hDs: ∀k x,l[k]?=some x→D (k+1)=D k++[x.start.lo/86400]:=fun k x h=>by rw [hDd,hDd,od _ _ _ h,bX];rfl
 have hzl:(l.zip us).length=m:=by rw [lC];omega
 obtain ⟨tot,htot⟩: ∃tot:BX→Int,∀b,tot b=b.b.total:=⟨_,fun _=>rfl⟩;iterate 3 refine G ?_
 refine fY (L':=[DK none 0 [],dY none 0 [],dY none 0 [],dY none 0 [],dD (([]:List BX).flatMap r3),dY (some ⟨zu,0,none⟩) m us,jt cA cc ys,box b7 193 [.slice V vn vc],box b5 28 (p.cells a),box b4 24 (f.cells fa)]) (fun w hw=>((((hw.wE).eX 3 1 aN rfl).eX 3 1 aN rfl).eX 3 1 aN rfl).eX 200 1 BX.ptr rfl) rfl ?_;iterate 20 refine G ?_
 refine ct [8,9,18,19,20,21,22,23,24,25,75,76,77,78,79,80,81,82,83,84,85,86,87,88,89,90,91,92,93,94,95,96,97,98,99,100,101,102,103,104,105,106,107,108,109,110,111,112,113,114,115,116,117] (fun s:Nat×List BX×(Option Addr×Nat)×(Option Addr×Nat)×(Option Addr×Nat)×(Option Addr×Nat)=>[(75, .int .i64 s.1),(18, .slice s.2.2.1.1 s.2.1.length s.2.2.1.2),(19, .slice s.2.2.2.1.1 (R s.1).length s.2.2.2.1.2),(20, .slice s.2.2.2.2.1.1 (D s.1).length s.2.2.2.2.1.2),(21, .slice s.2.2.2.2.2.1 (s.2.1.map tot).length s.2.2.2.2.2.2)]) (fun s=>[DK s.2.2.1.1 s.2.2.1.2 s.2.1,dY s.2.2.2.1.1 s.2.2.2.1.2 (R s.1),dY s.2.2.2.2.1.1 s.2.2.2.2.1.2 (D s.1),dY s.2.2.2.2.2.1 s.2.2.2.2.2.2 (s.2.1.map tot),dD (s.2.1.flatMap r3),dY (some ⟨zu,0,none⟩) m us,jt cA cc ys,box b7 193 [.slice V vn vc],box b5 28 (p.cells a),box b4 24 (f.cells fa)]) (fun s=>s.1≤m∧FS p (l.zip us) s.1=some (s.2.1.map (·.b))) (fun s=>m -s.1) (0,[],(none,0),(none,0),(none,0),(none,0)) ⟨rfl,rfl,by rw [hR0];rfl,by rw [hD0];rfl,rfl,trivial⟩ (fun w hw=>by rw [hR0,hD0];exact hw) rfl ⟨aU _,by unfold FS;rfl⟩ ?_;rintro ⟨k2,bs,⟨pA,pc⟩,⟨rA,rc⟩,⟨dA,dc⟩,⟨sA,sc⟩⟩ g2 ⟨hk2,hFS⟩;simp only at hk2 hFS;have hbl:bs.length=k2:=by
  have:=(vz (by omega) hFS).1;rw [aD] at this;exact this
 iterate 6 refine G ?_
 refine au rfl ?_ ?_<;>intro hlt2
 ·have hlt2':k2<m:=by simpa using hlt2
  obtain ⟨x,hxk⟩: ∃x,ys[k2]?=some x:=⟨_,aj (by omega)⟩;have hxm:=an hxk;have hlk:l[k2]?=some x.r:=by rw [hll];simp [hxk]
  have hcx:dW x.r=0:=hlg.ok x.r (an hlk);have hsx:=sZ.1 (gR hcx).1;obtain ⟨u,huk⟩: ∃u,us[k2]?=some u:=⟨_,aj (by omega)⟩;have hur: -1≤u∧u<p.iE.length:=by have:=an huk;rw [hus] at this;exact FT this
  have hFSs:=Kf (p:=p) (rP hlk huk);rw [hFS] at hFSs;refine fN (fun w hw=>dP (j:=6) hw rfl (by omega)) fun ⟨yb,hyb⟩=>?_;subst hyb;iterate 7 refine G ?_
  refine bO (bt k2 bI bo (q0 rfl) (q0 rfl) (fun _=>⟨rfl,hlt2'⟩)) ?_;refine bO (km (vs:=x.cells) jc bo (q0 rfl) (by exact sf 6 (enc:=RX.cells) rfl hxk) rfl) ?_;refine cx dq rfl fun b23=>?_;refine G ?_;refine fI (v:= .agg _) rfl rfl bo ?_;iterate 3 refine G ?_
  cases hfp:nk p x.r u with
  |none=>
   have hno:vp p (rs.map (·.r)) vs=none:=by
    have h5:FS p (l.zip us) (k2+1)=none:=by rw [hFSs];unfold ri;simp only [hfp]
    unfold vp;rw [←hlc,←hus,RC h5]
   have hfw: ∀{L:List E.Item} (w':World),Mem w L w'→Calls Tryz.prog 111 #[.agg (p.cells a).toArray, .agg x.cells.toArray, .int .i64 u] w' fun e w''=> ∃z:Nat×Option Addr×Nat,e= .returned (.tuple #[.pointer none, .int .i64 2])∧Mem w' [] w'':=fun w' hw=>by
    have h:=JR f p a x u w' (hp.mem hw) ((hr.2 x (hym x hxm).1).mem hw) h1' hcx (hym x hxm).2 (hpl x (hym x hxm).1) hur;rw [hfp] at h;exact h
   refine AQ ?_;refine aW 0 ?_;refine aW 1 ?_;refine aW 2 ?_;refine aW 3 ?_;refine iQ 4 rfl (bt k2 ak ax (q0 rfl) (q0 rfl) (fun _=>⟨rfl,hlt2'⟩)) ?_;refine iQ 5 rfl (ea (v:= .int .i64 u) aJ (q0 rfl) (by exact oR 6 (enc:=aN) rfl huk rfl)) ?_;refine r1 6 0 ?_;refine aL rfl (di (en Tryz.call111 (nj (q0 rfl) (q0 rfl) (q0 rfl))) (fun w hw=>hfw w hw) rfl (fun _=>rfl) fun z=>?_);refine aW 7 ?_;refine aW 8 ?_;refine aW 9 ?_;refine aW 10 ?_;refine aW 11 ?_;refine jz 0 ?_;iterate 8 refine G ?_
   refine au rfl ?_ ?_<;>intro h5
   ·rw [hE,av hno];iterate 14 refine G ?_
    exact fV (v:= .slice _ _ _) (x:= .int _ _) rfl rfl rfl rfl fun w' hw=>⟨⟨([],none,0),by rw [hR,hno];rfl⟩,rfl,N9 hw⟩
   exfalso;simp at h5
  |some b=>
   have hfw: ∀{L:List E.Item} (w':World),Mem w L w'→Calls Tryz.prog 111 #[.agg (p.cells a).toArray, .agg x.cells.toArray, .int .i64 u] w' fun e w''=> ∃z:Nat×Option Addr×Nat,e= .returned (.tuple #[.pointer (some ⟨z.1,0,none⟩), .int .i64 0])∧Mem w' [box z.1 204 (b.cells z.2.1 z.2.2),u0 z.2.1 z.2.2 b.items] w'':=fun w' hw=>by
    have h:=JR f p a x u w' (hp.mem hw) ((hr.2 x (hym x hxm).1).mem hw) h1' hcx (hym x hxm).2 (hpl x (hym x hxm).1) hur;rw [hfp] at h;exact h
   refine AQ ?_;refine aW 0 ?_;refine aW 1 ?_;refine aW 2 ?_;refine aW 3 ?_;refine iQ 4 rfl (bt k2 ak ax (q0 rfl) (q0 rfl) (fun _=>⟨rfl,hlt2'⟩)) ?_;refine iQ 5 rfl (ea (v:= .int .i64 u) aJ (q0 rfl) (by exact oR 6 (enc:=aN) rfl huk rfl)) ?_;refine r1 6 0 ?_;refine aL rfl (di (en Tryz.call111 (nj (q0 rfl) (q0 rfl) (q0 rfl))) (fun w hw=>hfw w hw) rfl (fun _=>rfl) fun z=>?_);refine xw (bK 2) ?_;refine aW 7 ?_;refine aW 8 ?_;refine aW 9 ?_;refine aW 10 ?_;refine aW 11 ?_;refine jz 0 ?_;iterate 8 refine G ?_
   refine au rfl ?_ ?_<;>intro h5
   ·exfalso;simp at h5
   iterate 6 refine G ?_
   refine lq (k:=1) (i:=Tryz.t200) 3 ((⟨z.1,b,z.2.1,z.2.2⟩:BX)) WM (by kernel_rfl) rfl rfl rfl rfl Tryz.sizeOf200 Tryz.zeroValue200 rfl rfl rfl rfl rfl rfl ⟨by simp only;omega,by decide⟩ rfl rfl fun B0 A1 c1=>?_;have hRl2:=hRl k2 hk2;have hDl2:=hDl k2 hk2;have htl2:(bs.map tot).length=k2:=by rw [aD,hbl]
   have hR1:=hRs k2 x.r hlk;have hD1:=hDs k2 x.r hlk;have htb:(bs++[(⟨z.1,b,z.2.1,z.2.2⟩:BX)]).map tot=bs.map tot++[b.total]:=by rw [bX,cI,zY,htot]
   iterate 3 refine G ?_
   refine fY (fun w hw=>hw.pick [4,5,6,0,1,2,3,7,8,9,10,11,12] (by decide)) rfl ?_;refine jK [19,20,21,97,98,99,100,101,102,103,104,105,106,107,108,109,110,111,112,113,114,115,116] (fun s:(Option Addr×Nat)×(Option Addr×Nat)×(Option Addr×Nat)=>[(19, .slice s.1.1 (R k2++[x.r.rider]).length s.1.2),(20, .slice s.2.1.1 (D k2++[x.r.start.lo/86400]).length s.2.1.2),(21, .slice s.2.2.1 (bs.map tot++[b.total]).length s.2.2.2)]) (fun s=>[dY s.1.1 s.1.2 (R k2++[x.r.rider]),dY s.2.1.1 s.2.1.2 (D k2++[x.r.start.lo/86400]),dY s.2.2.1 s.2.2.2 (bs.map tot++[b.total]),box z.1 204 (b.cells z.2.1 z.2.2),u0 z.2.1 z.2.2 b.items,box b23 191 x.cells,DK A1 c1 (bs++[(⟨z.1,b,z.2.1,z.2.2⟩:BX)]),dD (bs.flatMap r3),dY (some ⟨zu,0,none⟩) m us,jt (some ⟨yb,0,none⟩) cc ys,box b7 193 [.slice V vn vc],box b5 28 (p.cells a),box b4 24 (f.cells fa)]) (fun _=>True) ?_ ?_
   ·refine zd 3 ?_;refine aW 0 ?_;refine aW 1 ?_;refine aW 2 ?_;refine aW 5 ?_;refine aW 6 ?_;refine aW 7 ?_;refine aW 8 ?_;refine iQ 9 rfl (CL (q0 rfl) (q0 rfl) (fun _=>⟨by omega,by omega,by omega⟩)) ?_;refine aW 12 ?_;refine aW 13 ?_;refine aW 14 ?_;refine aW 15 ?_;refine aW 16 ?_;refine aW 17 ?_;refine P7 (i:=3) (j:=10) (k:=18) (by decide+kernel) (bK 3) ?_ ?_ ?_
    ·refine aL rfl (dE [(.int .i64 0)] ak ax bh rfl (by kernel_rfl) (pt (v:= .int _ _) rfl E.p0) rfl rfl fun b100=>?_);refine P7 (i:=4) (j:=10) (k:=18) (by decide+kernel) (bK 4) ?_ ?_ ?_
     ·(first|refine aL rfl (ba (k:=1) (i:=Tryz.t3) (enc:=aN) (xs:=R k2) 1 ak (by kernel_rfl) rfl rfl rfl rfl (fun _=>rfl) (fun _=>rfl) rfl rfl rfl (fun w hw=>bg (enc:=aN) (xs:=[x.r.rider]) hw (j:=0) rfl (fun _=>rfl) (by simp)) ⟨by simp;omega,by decide⟩ rfl fun A4 c4=>?_)|refine aL rfl (ba (k:=1) (i:=Tryz.t3) (enc:=aN) (xs:=R k2) 2 ak (by kernel_rfl) rfl rfl rfl rfl (fun _=>rfl) (fun _=>rfl) rfl rfl rfl (fun w hw=>bg (enc:=aN) (xs:=[x.r.rider]) hw (j:=0) rfl (fun _=>rfl) (by simp)) ⟨by simp;omega,by decide⟩ rfl fun A4 c4=>?_)|refine aL rfl (ba (k:=1) (i:=Tryz.t3) (enc:=aN) (xs:=R k2) 3 ak (by kernel_rfl) rfl rfl rfl rfl (fun _=>rfl) (fun _=>rfl) rfl rfl rfl (fun w hw=>bg (enc:=aN) (xs:=[x.r.rider]) hw (j:=0) rfl (fun _=>rfl) (by simp)) ⟨by simp;omega,by decide⟩ rfl fun A4 c4=>?_))
      refine kY (i:=10) (j:=18) (by decide+kernel) (bK 4) ?_ ?_
      ·refine aL rfl (dE [(.int .i64 0)] ak ax bh rfl (by kernel_rfl) (pt (v:= .int _ _) rfl E.p0) rfl rfl fun b107=>?_);refine aI 1 ?_;refine kY (i:=11) (j:=18) (by decide+kernel) (bK 5) ?_ ?_
       ·(first|refine aL rfl (ba (k:=1) (i:=Tryz.t3) (enc:=aN) (xs:=D k2) 3 ak (by kernel_rfl) rfl rfl rfl rfl (fun _=>rfl) (fun _=>rfl) rfl rfl rfl (fun w hw=>bg (enc:=aN) (xs:=[x.r.start.lo/86400]) hw (j:=1) rfl (fun _=>rfl) (by simp)) ⟨by simp;omega,by decide⟩ rfl fun A11 c11=>?_)|refine aL rfl (ba (k:=1) (i:=Tryz.t3) (enc:=aN) (xs:=D k2) 4 ak (by kernel_rfl) rfl rfl rfl rfl (fun _=>rfl) (fun _=>rfl) rfl rfl rfl (fun w hw=>bg (enc:=aN) (xs:=[x.r.start.lo/86400]) hw (j:=1) rfl (fun _=>rfl) (by simp)) ⟨by simp;omega,by decide⟩ rfl fun A11 c11=>?_))
        refine r1 18 5 ?_;refine aL rfl (dE [(.int .i64 0)] ak ax bh rfl (by kernel_rfl) (pt (v:= .int _ _) rfl E.p0) rfl rfl fun b115=>?_);refine aI 2 ?_;refine r1 19 6 ?_;refine aL rfl (ba (k:=1) (i:=Tryz.t3) (enc:=aN) (xs:=bs.map tot) 5 ak (by kernel_rfl) rfl rfl rfl rfl (fun _=>rfl) (fun _=>rfl) rfl rfl rfl (fun w hw=>bg (enc:=aN) (xs:=[b.total]) hw (j:=2) rfl (fun _=>rfl) (by simp)) ⟨by simp;omega,by decide⟩ rfl fun A19 c19=>?_);refine aW 20 ?_;refine aW 21 ?_;refine aW 22 ?_;refine jz 6 ?_;exact aO (((A4,c4),(A11,c11),(A19,c19)):(Option Addr×Nat)×(Option Addr×Nat)×(Option Addr×Nat)) eE ⟨rfl,rfl,rfl,trivial⟩ (fun w hw=>hw.tail.tail.tail) rfl trivial
       refine aL rfl (dE [(.int .i64 0)] ak ax bh rfl (by kernel_rfl) (pt (v:= .int _ _) rfl E.p0) rfl rfl fun b115=>?_);refine aI 2 ?_;refine r1 11 6 ?_
       (first|refine aL rfl (ba (k:=1) (i:=Tryz.t3) (enc:=aN) (xs:=D k2) 3 ak (by kernel_rfl) rfl rfl rfl rfl (fun _=>rfl) (fun _=>rfl) rfl rfl rfl (fun w hw=>bg (enc:=aN) (xs:=[x.r.start.lo/86400]) hw (j:=1) rfl (fun _=>rfl) (by simp)) ⟨by simp;omega,by decide⟩ rfl fun A11 c11=>?_)|refine aL rfl (ba (k:=1) (i:=Tryz.t3) (enc:=aN) (xs:=D k2) 4 ak (by kernel_rfl) rfl rfl rfl rfl (fun _=>rfl) (fun _=>rfl) rfl rfl rfl (fun w hw=>bg (enc:=aN) (xs:=[x.r.start.lo/86400]) hw (j:=1) rfl (fun _=>rfl) (by simp)) ⟨by simp;omega,by decide⟩ rfl fun A11 c11=>?_))
       refine r1 19 6 ?_;refine aL rfl (ba (k:=1) (i:=Tryz.t3) (enc:=aN) (xs:=bs.map tot) 5 ak (by kernel_rfl) rfl rfl rfl rfl (fun _=>rfl) (fun _=>rfl) rfl rfl rfl (fun w hw=>bg (enc:=aN) (xs:=[b.total]) hw (j:=2) rfl (fun _=>rfl) (by simp)) ⟨by simp;omega,by decide⟩ rfl fun A19 c19=>?_);refine aW 20 ?_;refine aW 21 ?_;refine aW 22 ?_;refine jz 6 ?_;exact aO (((A4,c4),(A11,c11),(A19,c19)):(Option Addr×Nat)×(Option Addr×Nat)×(Option Addr×Nat)) eE ⟨rfl,rfl,rfl,trivial⟩ (fun w hw=>hw.tail.tail.tail) rfl trivial
      refine aL rfl (dE [(.int .i64 0)] ak ax bh rfl (by kernel_rfl) (pt (v:= .int _ _) rfl E.p0) rfl rfl fun b115=>?_);refine aI 1 ?_;refine r1 10 5 ?_;refine aL rfl (dE [(.int .i64 0)] ak ax bh rfl (by kernel_rfl) (pt (v:= .int _ _) rfl E.p0) rfl rfl fun b107=>?_);refine aI 1 ?_;refine r1 11 6 ?_
      (first|refine aL rfl (ba (k:=1) (i:=Tryz.t3) (enc:=aN) (xs:=D k2) 3 ak (by kernel_rfl) rfl rfl rfl rfl (fun _=>rfl) (fun _=>rfl) rfl rfl rfl (fun w hw=>bg (enc:=aN) (xs:=[x.r.start.lo/86400]) hw (j:=1) rfl (fun _=>rfl) (by simp)) ⟨by simp;omega,by decide⟩ rfl fun A11 c11=>?_)|refine aL rfl (ba (k:=1) (i:=Tryz.t3) (enc:=aN) (xs:=D k2) 4 ak (by kernel_rfl) rfl rfl rfl rfl (fun _=>rfl) (fun _=>rfl) rfl rfl rfl (fun w hw=>bg (enc:=aN) (xs:=[x.r.start.lo/86400]) hw (j:=1) rfl (fun _=>rfl) (by simp)) ⟨by simp;omega,by decide⟩ rfl fun A11 c11=>?_))
      refine r1 19 6 ?_;refine aL rfl (ba (k:=1) (i:=Tryz.t3) (enc:=aN) (xs:=bs.map tot) 5 ak (by kernel_rfl) rfl rfl rfl rfl (fun _=>rfl) (fun _=>rfl) rfl rfl rfl (fun w hw=>bg (enc:=aN) (xs:=[b.total]) hw (j:=2) rfl (fun _=>rfl) (by simp)) ⟨by simp;omega,by decide⟩ rfl fun A19 c19=>?_);refine aW 20 ?_;refine aW 21 ?_;refine aW 22 ?_;refine jz 6 ?_;exact aO (((A4,c4),(A11,c11),(A19,c19)):(Option Addr×Nat)×(Option Addr×Nat)×(Option Addr×Nat)) eE ⟨rfl,rfl,rfl,trivial⟩ (fun w hw=>hw.tail.tail.tail) rfl trivial
     ·refine aL rfl (dE [(.int .i64 0)] ak ax bh rfl (by kernel_rfl) (pt (v:= .int _ _) rfl E.p0) rfl rfl fun b107=>?_);refine aI 1 ?_;refine kY (i:=4) (j:=18) (by decide+kernel) (bK 5) ?_ ?_
      ·(first|refine aL rfl (ba (k:=1) (i:=Tryz.t3) (enc:=aN) (xs:=R k2) 1 ak (by kernel_rfl) rfl rfl rfl rfl (fun _=>rfl) (fun _=>rfl) rfl rfl rfl (fun w hw=>bg (enc:=aN) (xs:=[x.r.rider]) hw (j:=0) rfl (fun _=>rfl) (by simp)) ⟨by simp;omega,by decide⟩ rfl fun A4 c4=>?_)|refine aL rfl (ba (k:=1) (i:=Tryz.t3) (enc:=aN) (xs:=R k2) 2 ak (by kernel_rfl) rfl rfl rfl rfl (fun _=>rfl) (fun _=>rfl) rfl rfl rfl (fun w hw=>bg (enc:=aN) (xs:=[x.r.rider]) hw (j:=0) rfl (fun _=>rfl) (by simp)) ⟨by simp;omega,by decide⟩ rfl fun A4 c4=>?_)|refine aL rfl (ba (k:=1) (i:=Tryz.t3) (enc:=aN) (xs:=R k2) 3 ak (by kernel_rfl) rfl rfl rfl rfl (fun _=>rfl) (fun _=>rfl) rfl rfl rfl (fun w hw=>bg (enc:=aN) (xs:=[x.r.rider]) hw (j:=0) rfl (fun _=>rfl) (by simp)) ⟨by simp;omega,by decide⟩ rfl fun A4 c4=>?_))
       refine kY (i:=11) (j:=18) (by decide+kernel) (bK 5) ?_ ?_
       ·(first|refine aL rfl (ba (k:=1) (i:=Tryz.t3) (enc:=aN) (xs:=D k2) 3 ak (by kernel_rfl) rfl rfl rfl rfl (fun _=>rfl) (fun _=>rfl) rfl rfl rfl (fun w hw=>bg (enc:=aN) (xs:=[x.r.start.lo/86400]) hw (j:=1) rfl (fun _=>rfl) (by simp)) ⟨by simp;omega,by decide⟩ rfl fun A11 c11=>?_)|refine aL rfl (ba (k:=1) (i:=Tryz.t3) (enc:=aN) (xs:=D k2) 4 ak (by kernel_rfl) rfl rfl rfl rfl (fun _=>rfl) (fun _=>rfl) rfl rfl rfl (fun w hw=>bg (enc:=aN) (xs:=[x.r.start.lo/86400]) hw (j:=1) rfl (fun _=>rfl) (by simp)) ⟨by simp;omega,by decide⟩ rfl fun A11 c11=>?_))
        refine r1 18 5 ?_;refine aL rfl (dE [(.int .i64 0)] ak ax bh rfl (by kernel_rfl) (pt (v:= .int _ _) rfl E.p0) rfl rfl fun b115=>?_);refine aI 2 ?_;refine r1 19 6 ?_;refine aL rfl (ba (k:=1) (i:=Tryz.t3) (enc:=aN) (xs:=bs.map tot) 5 ak (by kernel_rfl) rfl rfl rfl rfl (fun _=>rfl) (fun _=>rfl) rfl rfl rfl (fun w hw=>bg (enc:=aN) (xs:=[b.total]) hw (j:=2) rfl (fun _=>rfl) (by simp)) ⟨by simp;omega,by decide⟩ rfl fun A19 c19=>?_);refine aW 20 ?_;refine aW 21 ?_;refine aW 22 ?_;refine jz 6 ?_;exact aO (((A4,c4),(A11,c11),(A19,c19)):(Option Addr×Nat)×(Option Addr×Nat)×(Option Addr×Nat)) eE ⟨rfl,rfl,rfl,trivial⟩ (fun w hw=>hw.tail.tail.tail) rfl trivial
       refine aL rfl (dE [(.int .i64 0)] ak ax bh rfl (by kernel_rfl) (pt (v:= .int _ _) rfl E.p0) rfl rfl fun b115=>?_);refine aI 2 ?_;refine r1 11 6 ?_
       (first|refine aL rfl (ba (k:=1) (i:=Tryz.t3) (enc:=aN) (xs:=D k2) 3 ak (by kernel_rfl) rfl rfl rfl rfl (fun _=>rfl) (fun _=>rfl) rfl rfl rfl (fun w hw=>bg (enc:=aN) (xs:=[x.r.start.lo/86400]) hw (j:=1) rfl (fun _=>rfl) (by simp)) ⟨by simp;omega,by decide⟩ rfl fun A11 c11=>?_)|refine aL rfl (ba (k:=1) (i:=Tryz.t3) (enc:=aN) (xs:=D k2) 4 ak (by kernel_rfl) rfl rfl rfl rfl (fun _=>rfl) (fun _=>rfl) rfl rfl rfl (fun w hw=>bg (enc:=aN) (xs:=[x.r.start.lo/86400]) hw (j:=1) rfl (fun _=>rfl) (by simp)) ⟨by simp;omega,by decide⟩ rfl fun A11 c11=>?_))
       refine r1 19 6 ?_;refine aL rfl (ba (k:=1) (i:=Tryz.t3) (enc:=aN) (xs:=bs.map tot) 5 ak (by kernel_rfl) rfl rfl rfl rfl (fun _=>rfl) (fun _=>rfl) rfl rfl rfl (fun w hw=>bg (enc:=aN) (xs:=[b.total]) hw (j:=2) rfl (fun _=>rfl) (by simp)) ⟨by simp;omega,by decide⟩ rfl fun A19 c19=>?_);refine aW 20 ?_;refine aW 21 ?_;refine aW 22 ?_;refine jz 6 ?_;exact aO (((A4,c4),(A11,c11),(A19,c19)):(Option Addr×Nat)×(Option Addr×Nat)×(Option Addr×Nat)) eE ⟨rfl,rfl,rfl,trivial⟩ (fun w hw=>hw.tail.tail.tail) rfl trivial
      refine aL rfl (dE [(.int .i64 0)] ak ax bh rfl (by kernel_rfl) (pt (v:= .int _ _) rfl E.p0) rfl rfl fun b115=>?_);refine aI 2 ?_;refine r1 4 6 ?_
      (first|refine aL rfl (ba (k:=1) (i:=Tryz.t3) (enc:=aN) (xs:=R k2) 1 ak (by kernel_rfl) rfl rfl rfl rfl (fun _=>rfl) (fun _=>rfl) rfl rfl rfl (fun w hw=>bg (enc:=aN) (xs:=[x.r.rider]) hw (j:=0) rfl (fun _=>rfl) (by simp)) ⟨by simp;omega,by decide⟩ rfl fun A4 c4=>?_)|refine aL rfl (ba (k:=1) (i:=Tryz.t3) (enc:=aN) (xs:=R k2) 2 ak (by kernel_rfl) rfl rfl rfl rfl (fun _=>rfl) (fun _=>rfl) rfl rfl rfl (fun w hw=>bg (enc:=aN) (xs:=[x.r.rider]) hw (j:=0) rfl (fun _=>rfl) (by simp)) ⟨by simp;omega,by decide⟩ rfl fun A4 c4=>?_)|refine aL rfl (ba (k:=1) (i:=Tryz.t3) (enc:=aN) (xs:=R k2) 3 ak (by kernel_rfl) rfl rfl rfl rfl (fun _=>rfl) (fun _=>rfl) rfl rfl rfl (fun w hw=>bg (enc:=aN) (xs:=[x.r.rider]) hw (j:=0) rfl (fun _=>rfl) (by simp)) ⟨by simp;omega,by decide⟩ rfl fun A4 c4=>?_))
      refine r1 11 6 ?_
      (first|refine aL rfl (ba (k:=1) (i:=Tryz.t3) (enc:=aN) (xs:=D k2) 3 ak (by kernel_rfl) rfl rfl rfl rfl (fun _=>rfl) (fun _=>rfl) rfl rfl rfl (fun w hw=>bg (enc:=aN) (xs:=[x.r.start.lo/86400]) hw (j:=1) rfl (fun _=>rfl) (by simp)) ⟨by simp;omega,by decide⟩ rfl fun A11 c11=>?_)|refine aL rfl (ba (k:=1) (i:=Tryz.t3) (enc:=aN) (xs:=D k2) 4 ak (by kernel_rfl) rfl rfl rfl rfl (fun _=>rfl) (fun _=>rfl) rfl rfl rfl (fun w hw=>bg (enc:=aN) (xs:=[x.r.start.lo/86400]) hw (j:=1) rfl (fun _=>rfl) (by simp)) ⟨by simp;omega,by decide⟩ rfl fun A11 c11=>?_))
      refine r1 19 6 ?_;refine aL rfl (ba (k:=1) (i:=Tryz.t3) (enc:=aN) (xs:=bs.map tot) 5 ak (by kernel_rfl) rfl rfl rfl rfl (fun _=>rfl) (fun _=>rfl) rfl rfl rfl (fun w hw=>bg (enc:=aN) (xs:=[b.total]) hw (j:=2) rfl (fun _=>rfl) (by simp)) ⟨by simp;omega,by decide⟩ rfl fun A19 c19=>?_);refine aW 20 ?_;refine aW 21 ?_;refine aW 22 ?_;refine jz 6 ?_;exact aO (((A4,c4),(A11,c11),(A19,c19)):(Option Addr×Nat)×(Option Addr×Nat)×(Option Addr×Nat)) eE ⟨rfl,rfl,rfl,trivial⟩ (fun w hw=>hw.tail.tail.tail) rfl trivial
     refine aL rfl (dE [(.int .i64 0)] ak ax bh rfl (by kernel_rfl) (pt (v:= .int _ _) rfl E.p0) rfl rfl fun b115=>?_);refine aI 1 ?_;refine kY (i:=4) (j:=10) (by decide+kernel) (bK 5) ?_ ?_
     ·(first|refine aL rfl (ba (k:=1) (i:=Tryz.t3) (enc:=aN) (xs:=R k2) 1 ak (by kernel_rfl) rfl rfl rfl rfl (fun _=>rfl) (fun _=>rfl) rfl rfl rfl (fun w hw=>bg (enc:=aN) (xs:=[x.r.rider]) hw (j:=0) rfl (fun _=>rfl) (by simp)) ⟨by simp;omega,by decide⟩ rfl fun A4 c4=>?_)|refine aL rfl (ba (k:=1) (i:=Tryz.t3) (enc:=aN) (xs:=R k2) 2 ak (by kernel_rfl) rfl rfl rfl rfl (fun _=>rfl) (fun _=>rfl) rfl rfl rfl (fun w hw=>bg (enc:=aN) (xs:=[x.r.rider]) hw (j:=0) rfl (fun _=>rfl) (by simp)) ⟨by simp;omega,by decide⟩ rfl fun A4 c4=>?_)|refine aL rfl (ba (k:=1) (i:=Tryz.t3) (enc:=aN) (xs:=R k2) 3 ak (by kernel_rfl) rfl rfl rfl rfl (fun _=>rfl) (fun _=>rfl) rfl rfl rfl (fun w hw=>bg (enc:=aN) (xs:=[x.r.rider]) hw (j:=0) rfl (fun _=>rfl) (by simp)) ⟨by simp;omega,by decide⟩ rfl fun A4 c4=>?_))
      refine r1 10 5 ?_;refine aL rfl (dE [(.int .i64 0)] ak ax bh rfl (by kernel_rfl) (pt (v:= .int _ _) rfl E.p0) rfl rfl fun b107=>?_);refine aI 1 ?_;refine r1 11 6 ?_
      (first|refine aL rfl (ba (k:=1) (i:=Tryz.t3) (enc:=aN) (xs:=D k2) 3 ak (by kernel_rfl) rfl rfl rfl rfl (fun _=>rfl) (fun _=>rfl) rfl rfl rfl (fun w hw=>bg (enc:=aN) (xs:=[x.r.start.lo/86400]) hw (j:=1) rfl (fun _=>rfl) (by simp)) ⟨by simp;omega,by decide⟩ rfl fun A11 c11=>?_)|refine aL rfl (ba (k:=1) (i:=Tryz.t3) (enc:=aN) (xs:=D k2) 4 ak (by kernel_rfl) rfl rfl rfl rfl (fun _=>rfl) (fun _=>rfl) rfl rfl rfl (fun w hw=>bg (enc:=aN) (xs:=[x.r.start.lo/86400]) hw (j:=1) rfl (fun _=>rfl) (by simp)) ⟨by simp;omega,by decide⟩ rfl fun A11 c11=>?_))
      refine r1 19 6 ?_;refine aL rfl (ba (k:=1) (i:=Tryz.t3) (enc:=aN) (xs:=bs.map tot) 5 ak (by kernel_rfl) rfl rfl rfl rfl (fun _=>rfl) (fun _=>rfl) rfl rfl rfl (fun w hw=>bg (enc:=aN) (xs:=[b.total]) hw (j:=2) rfl (fun _=>rfl) (by simp)) ⟨by simp;omega,by decide⟩ rfl fun A19 c19=>?_);refine aW 20 ?_;refine aW 21 ?_;refine aW 22 ?_;refine jz 6 ?_;exact aO (((A4,c4),(A11,c11),(A19,c19)):(Option Addr×Nat)×(Option Addr×Nat)×(Option Addr×Nat)) eE ⟨rfl,rfl,rfl,trivial⟩ (fun w hw=>hw.tail.tail.tail) rfl trivial
     refine aL rfl (dE [(.int .i64 0)] ak ax bh rfl (by kernel_rfl) (pt (v:= .int _ _) rfl E.p0) rfl rfl fun b107=>?_);refine aI 1 ?_;refine r1 4 6 ?_
     (first|refine aL rfl (ba (k:=1) (i:=Tryz.t3) (enc:=aN) (xs:=R k2) 1 ak (by kernel_rfl) rfl rfl rfl rfl (fun _=>rfl) (fun _=>rfl) rfl rfl rfl (fun w hw=>bg (enc:=aN) (xs:=[x.r.rider]) hw (j:=0) rfl (fun _=>rfl) (by simp)) ⟨by simp;omega,by decide⟩ rfl fun A4 c4=>?_)|refine aL rfl (ba (k:=1) (i:=Tryz.t3) (enc:=aN) (xs:=R k2) 2 ak (by kernel_rfl) rfl rfl rfl rfl (fun _=>rfl) (fun _=>rfl) rfl rfl rfl (fun w hw=>bg (enc:=aN) (xs:=[x.r.rider]) hw (j:=0) rfl (fun _=>rfl) (by simp)) ⟨by simp;omega,by decide⟩ rfl fun A4 c4=>?_)|refine aL rfl (ba (k:=1) (i:=Tryz.t3) (enc:=aN) (xs:=R k2) 3 ak (by kernel_rfl) rfl rfl rfl rfl (fun _=>rfl) (fun _=>rfl) rfl rfl rfl (fun w hw=>bg (enc:=aN) (xs:=[x.r.rider]) hw (j:=0) rfl (fun _=>rfl) (by simp)) ⟨by simp;omega,by decide⟩ rfl fun A4 c4=>?_))
     refine r1 11 6 ?_
     (first|refine aL rfl (ba (k:=1) (i:=Tryz.t3) (enc:=aN) (xs:=D k2) 3 ak (by kernel_rfl) rfl rfl rfl rfl (fun _=>rfl) (fun _=>rfl) rfl rfl rfl (fun w hw=>bg (enc:=aN) (xs:=[x.r.start.lo/86400]) hw (j:=1) rfl (fun _=>rfl) (by simp)) ⟨by simp;omega,by decide⟩ rfl fun A11 c11=>?_)|refine aL rfl (ba (k:=1) (i:=Tryz.t3) (enc:=aN) (xs:=D k2) 4 ak (by kernel_rfl) rfl rfl rfl rfl (fun _=>rfl) (fun _=>rfl) rfl rfl rfl (fun w hw=>bg (enc:=aN) (xs:=[x.r.start.lo/86400]) hw (j:=1) rfl (fun _=>rfl) (by simp)) ⟨by simp;omega,by decide⟩ rfl fun A11 c11=>?_))
     refine r1 19 6 ?_;refine aL rfl (ba (k:=1) (i:=Tryz.t3) (enc:=aN) (xs:=bs.map tot) 5 ak (by kernel_rfl) rfl rfl rfl rfl (fun _=>rfl) (fun _=>rfl) rfl rfl rfl (fun w hw=>bg (enc:=aN) (xs:=[b.total]) hw (j:=2) rfl (fun _=>rfl) (by simp)) ⟨by simp;omega,by decide⟩ rfl fun A19 c19=>?_);refine aW 20 ?_;refine aW 21 ?_;refine aW 22 ?_;refine jz 6 ?_;exact aO (((A4,c4),(A11,c11),(A19,c19)):(Option Addr×Nat)×(Option Addr×Nat)×(Option Addr×Nat)) eE ⟨rfl,rfl,rfl,trivial⟩ (fun w hw=>hw.tail.tail.tail) rfl trivial
    ·refine aL rfl (dE [(.int .i64 0)] ak ax bh rfl (by kernel_rfl) (pt (v:= .int _ _) rfl E.p0) rfl rfl fun b107=>?_);refine kY (i:=3) (j:=18) (by decide+kernel) (bK 4) ?_ ?_
     ·refine aL rfl (dE [(.int .i64 0)] ak ax bh rfl (by kernel_rfl) (pt (v:= .int _ _) rfl E.p0) rfl rfl fun b100=>?_);refine kY (i:=4) (j:=18) (by decide+kernel) (bK 5) ?_ ?_
      ·(first|refine aL rfl (ba (k:=1) (i:=Tryz.t3) (enc:=aN) (xs:=R k2) 1 ak (by kernel_rfl) rfl rfl rfl rfl (fun _=>rfl) (fun _=>rfl) rfl rfl rfl (fun w hw=>bg (enc:=aN) (xs:=[x.r.rider]) hw (j:=0) rfl (fun _=>rfl) (by simp)) ⟨by simp;omega,by decide⟩ rfl fun A4 c4=>?_)|refine aL rfl (ba (k:=1) (i:=Tryz.t3) (enc:=aN) (xs:=R k2) 2 ak (by kernel_rfl) rfl rfl rfl rfl (fun _=>rfl) (fun _=>rfl) rfl rfl rfl (fun w hw=>bg (enc:=aN) (xs:=[x.r.rider]) hw (j:=0) rfl (fun _=>rfl) (by simp)) ⟨by simp;omega,by decide⟩ rfl fun A4 c4=>?_)|refine aL rfl (ba (k:=1) (i:=Tryz.t3) (enc:=aN) (xs:=R k2) 3 ak (by kernel_rfl) rfl rfl rfl rfl (fun _=>rfl) (fun _=>rfl) rfl rfl rfl (fun w hw=>bg (enc:=aN) (xs:=[x.r.rider]) hw (j:=0) rfl (fun _=>rfl) (by simp)) ⟨by simp;omega,by decide⟩ rfl fun A4 c4=>?_))
       refine kY (i:=11) (j:=18) (by decide+kernel) (bK 5) ?_ ?_
       ·(first|refine aL rfl (ba (k:=1) (i:=Tryz.t3) (enc:=aN) (xs:=D k2) 3 ak (by kernel_rfl) rfl rfl rfl rfl (fun _=>rfl) (fun _=>rfl) rfl rfl rfl (fun w hw=>bg (enc:=aN) (xs:=[x.r.start.lo/86400]) hw (j:=1) rfl (fun _=>rfl) (by simp)) ⟨by simp;omega,by decide⟩ rfl fun A11 c11=>?_)|refine aL rfl (ba (k:=1) (i:=Tryz.t3) (enc:=aN) (xs:=D k2) 4 ak (by kernel_rfl) rfl rfl rfl rfl (fun _=>rfl) (fun _=>rfl) rfl rfl rfl (fun w hw=>bg (enc:=aN) (xs:=[x.r.start.lo/86400]) hw (j:=1) rfl (fun _=>rfl) (by simp)) ⟨by simp;omega,by decide⟩ rfl fun A11 c11=>?_))
        refine r1 18 5 ?_;refine aL rfl (dE [(.int .i64 0)] ak ax bh rfl (by kernel_rfl) (pt (v:= .int _ _) rfl E.p0) rfl rfl fun b115=>?_);refine aI 2 ?_;refine r1 19 6 ?_;refine aL rfl (ba (k:=1) (i:=Tryz.t3) (enc:=aN) (xs:=bs.map tot) 5 ak (by kernel_rfl) rfl rfl rfl rfl (fun _=>rfl) (fun _=>rfl) rfl rfl rfl (fun w hw=>bg (enc:=aN) (xs:=[b.total]) hw (j:=2) rfl (fun _=>rfl) (by simp)) ⟨by simp;omega,by decide⟩ rfl fun A19 c19=>?_);refine aW 20 ?_;refine aW 21 ?_;refine aW 22 ?_;refine jz 6 ?_;exact aO (((A4,c4),(A11,c11),(A19,c19)):(Option Addr×Nat)×(Option Addr×Nat)×(Option Addr×Nat)) eE ⟨rfl,rfl,rfl,trivial⟩ (fun w hw=>hw.tail.tail.tail) rfl trivial
       refine aL rfl (dE [(.int .i64 0)] ak ax bh rfl (by kernel_rfl) (pt (v:= .int _ _) rfl E.p0) rfl rfl fun b115=>?_);refine aI 2 ?_;refine r1 11 6 ?_
       (first|refine aL rfl (ba (k:=1) (i:=Tryz.t3) (enc:=aN) (xs:=D k2) 3 ak (by kernel_rfl) rfl rfl rfl rfl (fun _=>rfl) (fun _=>rfl) rfl rfl rfl (fun w hw=>bg (enc:=aN) (xs:=[x.r.start.lo/86400]) hw (j:=1) rfl (fun _=>rfl) (by simp)) ⟨by simp;omega,by decide⟩ rfl fun A11 c11=>?_)|refine aL rfl (ba (k:=1) (i:=Tryz.t3) (enc:=aN) (xs:=D k2) 4 ak (by kernel_rfl) rfl rfl rfl rfl (fun _=>rfl) (fun _=>rfl) rfl rfl rfl (fun w hw=>bg (enc:=aN) (xs:=[x.r.start.lo/86400]) hw (j:=1) rfl (fun _=>rfl) (by simp)) ⟨by simp;omega,by decide⟩ rfl fun A11 c11=>?_))
       refine r1 19 6 ?_;refine aL rfl (ba (k:=1) (i:=Tryz.t3) (enc:=aN) (xs:=bs.map tot) 5 ak (by kernel_rfl) rfl rfl rfl rfl (fun _=>rfl) (fun _=>rfl) rfl rfl rfl (fun w hw=>bg (enc:=aN) (xs:=[b.total]) hw (j:=2) rfl (fun _=>rfl) (by simp)) ⟨by simp;omega,by decide⟩ rfl fun A19 c19=>?_);refine aW 20 ?_;refine aW 21 ?_;refine aW 22 ?_;refine jz 6 ?_;exact aO (((A4,c4),(A11,c11),(A19,c19)):(Option Addr×Nat)×(Option Addr×Nat)×(Option Addr×Nat)) eE ⟨rfl,rfl,rfl,trivial⟩ (fun w hw=>hw.tail.tail.tail) rfl trivial
      refine aL rfl (dE [(.int .i64 0)] ak ax bh rfl (by kernel_rfl) (pt (v:= .int _ _) rfl E.p0) rfl rfl fun b115=>?_);refine aI 2 ?_;refine r1 4 6 ?_
      (first|refine aL rfl (ba (k:=1) (i:=Tryz.t3) (enc:=aN) (xs:=R k2) 1 ak (by kernel_rfl) rfl rfl rfl rfl (fun _=>rfl) (fun _=>rfl) rfl rfl rfl (fun w hw=>bg (enc:=aN) (xs:=[x.r.rider]) hw (j:=0) rfl (fun _=>rfl) (by simp)) ⟨by simp;omega,by decide⟩ rfl fun A4 c4=>?_)|refine aL rfl (ba (k:=1) (i:=Tryz.t3) (enc:=aN) (xs:=R k2) 2 ak (by kernel_rfl) rfl rfl rfl rfl (fun _=>rfl) (fun _=>rfl) rfl rfl rfl (fun w hw=>bg (enc:=aN) (xs:=[x.r.rider]) hw (j:=0) rfl (fun _=>rfl) (by simp)) ⟨by simp;omega,by decide⟩ rfl fun A4 c4=>?_)|refine aL rfl (ba (k:=1) (i:=Tryz.t3) (enc:=aN) (xs:=R k2) 3 ak (by kernel_rfl) rfl rfl rfl rfl (fun _=>rfl) (fun _=>rfl) rfl rfl rfl (fun w hw=>bg (enc:=aN) (xs:=[x.r.rider]) hw (j:=0) rfl (fun _=>rfl) (by simp)) ⟨by simp;omega,by decide⟩ rfl fun A4 c4=>?_))
      refine r1 11 6 ?_
      (first|refine aL rfl (ba (k:=1) (i:=Tryz.t3) (enc:=aN) (xs:=D k2) 3 ak (by kernel_rfl) rfl rfl rfl rfl (fun _=>rfl) (fun _=>rfl) rfl rfl rfl (fun w hw=>bg (enc:=aN) (xs:=[x.r.start.lo/86400]) hw (j:=1) rfl (fun _=>rfl) (by simp)) ⟨by simp;omega,by decide⟩ rfl fun A11 c11=>?_)|refine aL rfl (ba (k:=1) (i:=Tryz.t3) (enc:=aN) (xs:=D k2) 4 ak (by kernel_rfl) rfl rfl rfl rfl (fun _=>rfl) (fun _=>rfl) rfl rfl rfl (fun w hw=>bg (enc:=aN) (xs:=[x.r.start.lo/86400]) hw (j:=1) rfl (fun _=>rfl) (by simp)) ⟨by simp;omega,by decide⟩ rfl fun A11 c11=>?_))
      refine r1 19 6 ?_;refine aL rfl (ba (k:=1) (i:=Tryz.t3) (enc:=aN) (xs:=bs.map tot) 5 ak (by kernel_rfl) rfl rfl rfl rfl (fun _=>rfl) (fun _=>rfl) rfl rfl rfl (fun w hw=>bg (enc:=aN) (xs:=[b.total]) hw (j:=2) rfl (fun _=>rfl) (by simp)) ⟨by simp;omega,by decide⟩ rfl fun A19 c19=>?_);refine aW 20 ?_;refine aW 21 ?_;refine aW 22 ?_;refine jz 6 ?_;exact aO (((A4,c4),(A11,c11),(A19,c19)):(Option Addr×Nat)×(Option Addr×Nat)×(Option Addr×Nat)) eE ⟨rfl,rfl,rfl,trivial⟩ (fun w hw=>hw.tail.tail.tail) rfl trivial
     refine aL rfl (dE [(.int .i64 0)] ak ax bh rfl (by kernel_rfl) (pt (v:= .int _ _) rfl E.p0) rfl rfl fun b115=>?_);refine aI 1 ?_;refine r1 3 5 ?_;refine aL rfl (dE [(.int .i64 0)] ak ax bh rfl (by kernel_rfl) (pt (v:= .int _ _) rfl E.p0) rfl rfl fun b100=>?_);refine r1 4 6 ?_
     (first|refine aL rfl (ba (k:=1) (i:=Tryz.t3) (enc:=aN) (xs:=R k2) 1 ak (by kernel_rfl) rfl rfl rfl rfl (fun _=>rfl) (fun _=>rfl) rfl rfl rfl (fun w hw=>bg (enc:=aN) (xs:=[x.r.rider]) hw (j:=0) rfl (fun _=>rfl) (by simp)) ⟨by simp;omega,by decide⟩ rfl fun A4 c4=>?_)|refine aL rfl (ba (k:=1) (i:=Tryz.t3) (enc:=aN) (xs:=R k2) 2 ak (by kernel_rfl) rfl rfl rfl rfl (fun _=>rfl) (fun _=>rfl) rfl rfl rfl (fun w hw=>bg (enc:=aN) (xs:=[x.r.rider]) hw (j:=0) rfl (fun _=>rfl) (by simp)) ⟨by simp;omega,by decide⟩ rfl fun A4 c4=>?_)|refine aL rfl (ba (k:=1) (i:=Tryz.t3) (enc:=aN) (xs:=R k2) 3 ak (by kernel_rfl) rfl rfl rfl rfl (fun _=>rfl) (fun _=>rfl) rfl rfl rfl (fun w hw=>bg (enc:=aN) (xs:=[x.r.rider]) hw (j:=0) rfl (fun _=>rfl) (by simp)) ⟨by simp;omega,by decide⟩ rfl fun A4 c4=>?_))
     refine r1 11 6 ?_
     (first|refine aL rfl (ba (k:=1) (i:=Tryz.t3) (enc:=aN) (xs:=D k2) 3 ak (by kernel_rfl) rfl rfl rfl rfl (fun _=>rfl) (fun _=>rfl) rfl rfl rfl (fun w hw=>bg (enc:=aN) (xs:=[x.r.start.lo/86400]) hw (j:=1) rfl (fun _=>rfl) (by simp)) ⟨by simp;omega,by decide⟩ rfl fun A11 c11=>?_)|refine aL rfl (ba (k:=1) (i:=Tryz.t3) (enc:=aN) (xs:=D k2) 4 ak (by kernel_rfl) rfl rfl rfl rfl (fun _=>rfl) (fun _=>rfl) rfl rfl rfl (fun w hw=>bg (enc:=aN) (xs:=[x.r.start.lo/86400]) hw (j:=1) rfl (fun _=>rfl) (by simp)) ⟨by simp;omega,by decide⟩ rfl fun A11 c11=>?_))
     refine r1 19 6 ?_;refine aL rfl (ba (k:=1) (i:=Tryz.t3) (enc:=aN) (xs:=bs.map tot) 5 ak (by kernel_rfl) rfl rfl rfl rfl (fun _=>rfl) (fun _=>rfl) rfl rfl rfl (fun w hw=>bg (enc:=aN) (xs:=[b.total]) hw (j:=2) rfl (fun _=>rfl) (by simp)) ⟨by simp;omega,by decide⟩ rfl fun A19 c19=>?_);refine aW 20 ?_;refine aW 21 ?_;refine aW 22 ?_;refine jz 6 ?_;exact aO (((A4,c4),(A11,c11),(A19,c19)):(Option Addr×Nat)×(Option Addr×Nat)×(Option Addr×Nat)) eE ⟨rfl,rfl,rfl,trivial⟩ (fun w hw=>hw.tail.tail.tail) rfl trivial
    refine aL rfl (dE [(.int .i64 0)] ak ax bh rfl (by kernel_rfl) (pt (v:= .int _ _) rfl E.p0) rfl rfl fun b115=>?_);refine kY (i:=3) (j:=10) (by decide+kernel) (bK 4) ?_ ?_
    ·refine aL rfl (dE [(.int .i64 0)] ak ax bh rfl (by kernel_rfl) (pt (v:= .int _ _) rfl E.p0) rfl rfl fun b100=>?_);refine kY (i:=4) (j:=10) (by decide+kernel) (bK 5) ?_ ?_
     ·(first|refine aL rfl (ba (k:=1) (i:=Tryz.t3) (enc:=aN) (xs:=R k2) 1 ak (by kernel_rfl) rfl rfl rfl rfl (fun _=>rfl) (fun _=>rfl) rfl rfl rfl (fun w hw=>bg (enc:=aN) (xs:=[x.r.rider]) hw (j:=0) rfl (fun _=>rfl) (by simp)) ⟨by simp;omega,by decide⟩ rfl fun A4 c4=>?_)|refine aL rfl (ba (k:=1) (i:=Tryz.t3) (enc:=aN) (xs:=R k2) 2 ak (by kernel_rfl) rfl rfl rfl rfl (fun _=>rfl) (fun _=>rfl) rfl rfl rfl (fun w hw=>bg (enc:=aN) (xs:=[x.r.rider]) hw (j:=0) rfl (fun _=>rfl) (by simp)) ⟨by simp;omega,by decide⟩ rfl fun A4 c4=>?_)|refine aL rfl (ba (k:=1) (i:=Tryz.t3) (enc:=aN) (xs:=R k2) 3 ak (by kernel_rfl) rfl rfl rfl rfl (fun _=>rfl) (fun _=>rfl) rfl rfl rfl (fun w hw=>bg (enc:=aN) (xs:=[x.r.rider]) hw (j:=0) rfl (fun _=>rfl) (by simp)) ⟨by simp;omega,by decide⟩ rfl fun A4 c4=>?_))
      refine r1 10 5 ?_;refine aL rfl (dE [(.int .i64 0)] ak ax bh rfl (by kernel_rfl) (pt (v:= .int _ _) rfl E.p0) rfl rfl fun b107=>?_);refine aI 1 ?_;refine r1 11 6 ?_
      (first|refine aL rfl (ba (k:=1) (i:=Tryz.t3) (enc:=aN) (xs:=D k2) 3 ak (by kernel_rfl) rfl rfl rfl rfl (fun _=>rfl) (fun _=>rfl) rfl rfl rfl (fun w hw=>bg (enc:=aN) (xs:=[x.r.start.lo/86400]) hw (j:=1) rfl (fun _=>rfl) (by simp)) ⟨by simp;omega,by decide⟩ rfl fun A11 c11=>?_)|refine aL rfl (ba (k:=1) (i:=Tryz.t3) (enc:=aN) (xs:=D k2) 4 ak (by kernel_rfl) rfl rfl rfl rfl (fun _=>rfl) (fun _=>rfl) rfl rfl rfl (fun w hw=>bg (enc:=aN) (xs:=[x.r.start.lo/86400]) hw (j:=1) rfl (fun _=>rfl) (by simp)) ⟨by simp;omega,by decide⟩ rfl fun A11 c11=>?_))
      refine r1 19 6 ?_;refine aL rfl (ba (k:=1) (i:=Tryz.t3) (enc:=aN) (xs:=bs.map tot) 5 ak (by kernel_rfl) rfl rfl rfl rfl (fun _=>rfl) (fun _=>rfl) rfl rfl rfl (fun w hw=>bg (enc:=aN) (xs:=[b.total]) hw (j:=2) rfl (fun _=>rfl) (by simp)) ⟨by simp;omega,by decide⟩ rfl fun A19 c19=>?_);refine aW 20 ?_;refine aW 21 ?_;refine aW 22 ?_;refine jz 6 ?_;exact aO (((A4,c4),(A11,c11),(A19,c19)):(Option Addr×Nat)×(Option Addr×Nat)×(Option Addr×Nat)) eE ⟨rfl,rfl,rfl,trivial⟩ (fun w hw=>hw.tail.tail.tail) rfl trivial
     refine aL rfl (dE [(.int .i64 0)] ak ax bh rfl (by kernel_rfl) (pt (v:= .int _ _) rfl E.p0) rfl rfl fun b107=>?_);refine aI 1 ?_;refine r1 4 6 ?_
     (first|refine aL rfl (ba (k:=1) (i:=Tryz.t3) (enc:=aN) (xs:=R k2) 1 ak (by kernel_rfl) rfl rfl rfl rfl (fun _=>rfl) (fun _=>rfl) rfl rfl rfl (fun w hw=>bg (enc:=aN) (xs:=[x.r.rider]) hw (j:=0) rfl (fun _=>rfl) (by simp)) ⟨by simp;omega,by decide⟩ rfl fun A4 c4=>?_)|refine aL rfl (ba (k:=1) (i:=Tryz.t3) (enc:=aN) (xs:=R k2) 2 ak (by kernel_rfl) rfl rfl rfl rfl (fun _=>rfl) (fun _=>rfl) rfl rfl rfl (fun w hw=>bg (enc:=aN) (xs:=[x.r.rider]) hw (j:=0) rfl (fun _=>rfl) (by simp)) ⟨by simp;omega,by decide⟩ rfl fun A4 c4=>?_)|refine aL rfl (ba (k:=1) (i:=Tryz.t3) (enc:=aN) (xs:=R k2) 3 ak (by kernel_rfl) rfl rfl rfl rfl (fun _=>rfl) (fun _=>rfl) rfl rfl rfl (fun w hw=>bg (enc:=aN) (xs:=[x.r.rider]) hw (j:=0) rfl (fun _=>rfl) (by simp)) ⟨by simp;omega,by decide⟩ rfl fun A4 c4=>?_))
     refine r1 11 6 ?_
     (first|refine aL rfl (ba (k:=1) (i:=Tryz.t3) (enc:=aN) (xs:=D k2) 3 ak (by kernel_rfl) rfl rfl rfl rfl (fun _=>rfl) (fun _=>rfl) rfl rfl rfl (fun w hw=>bg (enc:=aN) (xs:=[x.r.start.lo/86400]) hw (j:=1) rfl (fun _=>rfl) (by simp)) ⟨by simp;omega,by decide⟩ rfl fun A11 c11=>?_)|refine aL rfl (ba (k:=1) (i:=Tryz.t3) (enc:=aN) (xs:=D k2) 4 ak (by kernel_rfl) rfl rfl rfl rfl (fun _=>rfl) (fun _=>rfl) rfl rfl rfl (fun w hw=>bg (enc:=aN) (xs:=[x.r.start.lo/86400]) hw (j:=1) rfl (fun _=>rfl) (by simp)) ⟨by simp;omega,by decide⟩ rfl fun A11 c11=>?_))
     refine r1 19 6 ?_;refine aL rfl (ba (k:=1) (i:=Tryz.t3) (enc:=aN) (xs:=bs.map tot) 5 ak (by kernel_rfl) rfl rfl rfl rfl (fun _=>rfl) (fun _=>rfl) rfl rfl rfl (fun w hw=>bg (enc:=aN) (xs:=[b.total]) hw (j:=2) rfl (fun _=>rfl) (by simp)) ⟨by simp;omega,by decide⟩ rfl fun A19 c19=>?_);refine aW 20 ?_;refine aW 21 ?_;refine aW 22 ?_;refine jz 6 ?_;exact aO (((A4,c4),(A11,c11),(A19,c19)):(Option Addr×Nat)×(Option Addr×Nat)×(Option Addr×Nat)) eE ⟨rfl,rfl,rfl,trivial⟩ (fun w hw=>hw.tail.tail.tail) rfl trivial
    refine aL rfl (dE [(.int .i64 0)] ak ax bh rfl (by kernel_rfl) (pt (v:= .int _ _) rfl E.p0) rfl rfl fun b107=>?_);refine r1 3 5 ?_;refine aL rfl (dE [(.int .i64 0)] ak ax bh rfl (by kernel_rfl) (pt (v:= .int _ _) rfl E.p0) rfl rfl fun b100=>?_);refine r1 4 6 ?_
    (first|refine aL rfl (ba (k:=1) (i:=Tryz.t3) (enc:=aN) (xs:=R k2) 1 ak (by kernel_rfl) rfl rfl rfl rfl (fun _=>rfl) (fun _=>rfl) rfl rfl rfl (fun w hw=>bg (enc:=aN) (xs:=[x.r.rider]) hw (j:=0) rfl (fun _=>rfl) (by simp)) ⟨by simp;omega,by decide⟩ rfl fun A4 c4=>?_)|refine aL rfl (ba (k:=1) (i:=Tryz.t3) (enc:=aN) (xs:=R k2) 2 ak (by kernel_rfl) rfl rfl rfl rfl (fun _=>rfl) (fun _=>rfl) rfl rfl rfl (fun w hw=>bg (enc:=aN) (xs:=[x.r.rider]) hw (j:=0) rfl (fun _=>rfl) (by simp)) ⟨by simp;omega,by decide⟩ rfl fun A4 c4=>?_)|refine aL rfl (ba (k:=1) (i:=Tryz.t3) (enc:=aN) (xs:=R k2) 3 ak (by kernel_rfl) rfl rfl rfl rfl (fun _=>rfl) (fun _=>rfl) rfl rfl rfl (fun w hw=>bg (enc:=aN) (xs:=[x.r.rider]) hw (j:=0) rfl (fun _=>rfl) (by simp)) ⟨by simp;omega,by decide⟩ rfl fun A4 c4=>?_))
    refine r1 11 6 ?_
    (first|refine aL rfl (ba (k:=1) (i:=Tryz.t3) (enc:=aN) (xs:=D k2) 3 ak (by kernel_rfl) rfl rfl rfl rfl (fun _=>rfl) (fun _=>rfl) rfl rfl rfl (fun w hw=>bg (enc:=aN) (xs:=[x.r.start.lo/86400]) hw (j:=1) rfl (fun _=>rfl) (by simp)) ⟨by simp;omega,by decide⟩ rfl fun A11 c11=>?_)|refine aL rfl (ba (k:=1) (i:=Tryz.t3) (enc:=aN) (xs:=D k2) 4 ak (by kernel_rfl) rfl rfl rfl rfl (fun _=>rfl) (fun _=>rfl) rfl rfl rfl (fun w hw=>bg (enc:=aN) (xs:=[x.r.start.lo/86400]) hw (j:=1) rfl (fun _=>rfl) (by simp)) ⟨by simp;omega,by decide⟩ rfl fun A11 c11=>?_))
    refine r1 19 6 ?_;refine aL rfl (ba (k:=1) (i:=Tryz.t3) (enc:=aN) (xs:=bs.map tot) 5 ak (by kernel_rfl) rfl rfl rfl rfl (fun _=>rfl) (fun _=>rfl) rfl rfl rfl (fun w hw=>bg (enc:=aN) (xs:=[b.total]) hw (j:=2) rfl (fun _=>rfl) (by simp)) ⟨by simp;omega,by decide⟩ rfl fun A19 c19=>?_);refine aW 20 ?_;refine aW 21 ?_;refine aW 22 ?_;refine jz 6 ?_;exact aO (((A4,c4),(A11,c11),(A19,c19)):(Option Addr×Nat)×(Option Addr×Nat)×(Option Addr×Nat)) eE ⟨rfl,rfl,rfl,trivial⟩ (fun w hw=>hw.tail.tail.tail) rfl trivial
   rintro ⟨⟨rA2,rc2⟩,⟨dA2,dc2⟩,⟨sA2,sc2⟩⟩ g5 _;iterate 6 refine G ?_
   exact ay (k2+1,bs++[(⟨z.1,b,z.2.1,z.2.2⟩:BX)],(A1,c1),(rA2,rc2),(dA2,dc2),(sA2,sc2)) eE ⟨rfl,rfl,by rw [hR1];rfl,by rw [hD1];rfl,by rw [htb];rfl,trivial⟩ (fun w hw=>by
    rw [hR1,hD1,htb];exact (Mem.ph (f:=r3) (y:=(⟨z.1,b,z.2.1,z.2.2⟩:BX)) (xs:=bs) (hw.pick [3,4,7,6,0,1,2,8,9,10,11,12] (by decide))).pick [1,2,3,4,0,5,6,7,8,9] (by decide)) rfl ⟨by show k2+1≤m;omega,by rw [hFSs];unfold ri;simp only [hfp,bX,cI,zY]⟩ (by show m -(k2+1)<m -k2;omega)
 have hend:k2=m:=by simp at hlt2;omega
 subst hend;have hrich:IX l (bs.map (·.b)):=Ji h1' hlg (husm.trans hlm.symm) (by rw [hlm];exact hFS);have hfsA:th p (l.zip us)=some (bs.map (·.b)):=by rw [←Pf (k:=k2) (by omega)];exact hFS
 have hRl2:=hRl k2 (bq _);have hDl2:=hDl k2 (bq _);have htl2:(bs.map tot).length=k2:=by rw [aD,hbl]
 have hRm:R k2=l.map (·.rider):=by rw [hRd,←hlm,dp]
 have hDm:D k2=l.map fun r=>r.start.lo/86400:=by rw [hDd,←hlm,dp]
 have hSm:bs.map tot=(bs.map (·.b)).map (·.total):=by rw [fO];exact Kp fun x _=>htot x
 obtain ⟨pd,hpd⟩: ∃pd,pd=kQ p l (bs.map (·.b)):=⟨_,rfl⟩;have hpdl:pd.length=k2:=by rw [hpd,wX hrich.len,aD,hbl]
 have hApp: ∀(w':World),gJ w' 1 aN rA (R k2).length (R k2)→gJ w' 1 aN dA (D k2).length (D k2)→gJ w' 1 aN sA (bs.map tot).length (bs.map tot)→Calls Tryz.prog 112 #[.int .i64 p.cap, .slice rA k2 rc, .slice dA k2 dc, .slice sA k2 sc] w' fun e w''=> ∃z:Option Addr×Nat,e= .returned (.tuple #[.slice z.1 pd.length z.2, .int .i64 0])∧Mem w' [dY z.1 z.2 pd] w'':=fun w' s1 s2 s3=>by
  rw [hRl2] at s1;rw [hDl2] at s2;rw [htl2] at s3;have h:=Ow p.cap rA rc dA dc sA sc k2 ((l.zip (bs.map (·.b))).map px) w' ⟨by rw [Oj hrich.len,←hRm];exact s1,by rw [T3 hrich.len,←hDm];exact s2,by rw [LI hrich.len,←hSm];exact s3⟩ (Ol h1' hlg hrich);rw [show (Dm p.cap ((l.zip (bs.map (·.b))).map px)).map (·.2)=pd from hpd.symm] at h;exact h
 rw [hRl2,hDl2,htl2];iterate 12 refine G ?_
 refine qW (en Tryz.call112 (Fb (q0 rfl) (q0 rfl) (q0 rfl) (q0 rfl))) (fun w hw=>hApp w (cW hw (j:=1) rfl (fun _=>rfl) (by omega)) (cW hw (j:=2) rfl (fun _=>rfl) (by omega)) (cW hw (j:=3) rfl (fun _=>rfl) (by omega))) rfl (fun _=>rfl) fun dz=>?_;obtain ⟨qA,qc⟩:=dz;iterate 14 refine G ?_
 refine au rfl ?_ ?_<;>intro h6
 ·exfalso;simp at h6
 obtain ⟨Z,hZ⟩: ∃Z,Z=(bs.map (·.b)).zip pd:=⟨_,rfl⟩;have hZl:Z.length=k2:=by rw [hZ,lC,aD];omega
 iterate 4 refine G ?_
 refine xV G8 rfl rfl ?_;iterate 7 refine G ?_
 refine bZ (jZ (i:=Tryz.t81) (k:=4) (n:=0) (m:=bs.length) FX.cells (⟨⟨0,0,[],0⟩,none,0⟩:FX) r9 (by kernel_rfl) rfl rfl rfl rfl rfl ⟨⟨aU _,by omega⟩,by decide⟩ rfl fun b133=>?_);iterate 5 refine G ?_
 refine fY (L':=[ua (some ⟨b133,0,none⟩) bs.length [],dD (([]:List FX).flatMap pF),dD (bs.flatMap r3),dY qA qc pd,DK pA pc bs,dY sA sc (bs.map tot),box b7 193 [.slice V vn vc],box b5 28 (p.cells a),box b4 24 (f.cells fa)]) (fun w hw=>((hw.pick [0,6,1,2,5,9,10,11] (by decide)).wE (f:=pF)).pick [1,0,2,3,4,5,6,7,8] (by decide)) rfl ?_;iterate 7 refine G ?_
 refine ct [8,9,28,29,30,136,137,138,139,140,141,142,143,144,145,146,147,148,149,150,151,152,153,154,155,156,157,158,159,160,161,162,163,164,165,166,167,168] (fun s:Nat×List FX×(Option Addr×Nat)=>[(136, .int .i64 s.1),(28, .slice s.2.2.1 s.2.1.length s.2.2.2)]) (fun s=>[ua s.2.2.1 s.2.2.2 s.2.1,dD (s.2.1.flatMap pF),dD ((bs.drop s.1).flatMap r3),dY qA qc pd,DK pA pc bs,dY sA sc (bs.map tot),box b7 193 [.slice V vn vc],box b5 28 (p.cells a),box b4 24 (f.cells fa)]) (fun s=>s.1≤k2∧FN p vs Z s.1=some (s.2.1.map (·.b))) (fun s=>k2 -s.1) (0,[],(some ⟨b133,0,none⟩,bs.length)) ⟨rfl,rfl,trivial⟩ (fun w hw=>hw) rfl ⟨aU _,by unfold FN;rfl⟩ ?_;rintro ⟨k3,fs,⟨fA,fc⟩⟩ g3 ⟨hk3,hFN⟩;simp only at hk3 hFN;have hfl:fs.length=k3:=by
  have h:=aT List.length (yS (by omega) hFN);rw [aD,aD,cH] at h;omega
 iterate 6 refine G ?_
 refine au rfl ?_ ?_<;>intro hlt3
 ·have hlt3':k3<k2:=by first|(simp at hlt3;omega)|omega
  obtain ⟨bk,hbk⟩: ∃bk,bs[k3]?=some bk:=⟨_,aj (by omega)⟩;obtain ⟨pv,hpk⟩: ∃pv,pd[k3]?=some pv:=⟨_,aj (by omega)⟩;obtain ⟨lr,hlk⟩: ∃lr,l[k3]?=some lr:=⟨_,aj (by omega)⟩;have hBk:(bs.map (·.b))[k3]?=some bk.b:=by simp [hbk]
  have hSk:(bs.map tot)[k3]?=some bk.b.total:=by simp [hbk,htot]
  have hrr:=hrich.aP k3 bk.b lr hBk hlk;have hpr:0≤pv∧pv≤1000000000000:=by
   have h:=an hpk;rw [hpd] at h;exact B8 h1' hrich h
  have hZk:Z[k3]?=some (bk.b,pv):=by rw [hZ];exact rP hBk hpk
  have hFNs:=Fy (p:=p) (vs:=vs) hZk;rw [hFN] at hFNs;obtain ⟨b1,hb1⟩: ∃b1,b1=k6 bk.b 6 0 (pv -bk.b.total):=⟨_,rfl⟩;have hb1t:b1.total=pv:=by rw [hb1,lp];omega
  have hb1l:b1.items.length≤6:=by have:=mQ bk.b 6 0 (pv -bk.b.total);rw [←hb1] at this;omega
  have hfb:qf p vs bk.b (pv -bk.b.total)=wJ p vs b1 b1.aP:=by rw [hb1];exact QR p vs bk.b (pv -bk.b.total)
  refine fN (fun w hw=>dP (j:=4) hw rfl (by omega)) fun ⟨pb,hpb⟩=>?_;subst hpb;refine fN (fun w hw=>dP (j:=3) hw rfl (by omega)) fun ⟨qb,hqb⟩=>?_;subst hqb;refine fN (fun w hw=>dP (j:=5) hw rfl (by omega)) fun ⟨sb,hsb⟩=>?_;subst hsb;iterate 7 refine G ?_
  refine bO (bt k3 WM Tryz.sizeOf200 (q0 rfl) (q0 rfl) (fun _=>⟨rfl,by simp only;omega⟩)) ?_;refine bO (ea (v:= .pointer (some ⟨bk.q,0,none⟩)) Tryz.isAgg200 (q0 rfl) (by exact oR 4 (enc:=BX.ptr) rfl hbk rfl)) ?_;iterate 5 refine G ?_
  refine fY (L':=[box bk.q 204 (bk.b.cells bk.A bk.c),u0 bk.A bk.c bk.b.items,dY (some ⟨qb,0,none⟩) qc pd,dY (some ⟨sb,0,none⟩) sc (bs.map tot),dD ((bs.drop (k3+1)).flatMap r3),ua fA fc fs,dD (fs.flatMap pF),DK (some ⟨pb,0,none⟩) pc bs,box b7 193 [.slice V vn vc],box b5 28 (p.cells a),box b4 24 (f.cells fa)]) (fun w hw=>by
   rw [tL hbk] at hw;exact (Mem.apart (f:=r3) (xs:=bk::bs.drop (k3+1)) (k:=0) (x:=bk) (hw.pick [2,0,1,3,4,5,6,7,8] (by decide)) rfl).pick [0,1,5,7,2,3,4,6,8,9,10] (by decide)) rfl ?_
  refine zd 2 ?_;refine aW 0 ?_;refine aW 1 ?_;refine aW 2 ?_;refine iQ 3 rfl (bt k3 ak ax (q0 rfl) (q0 rfl) (fun _=>⟨rfl,by omega⟩)) ?_;refine iQ 4 rfl (ea (v:= .int .i64 pv) aJ (q0 rfl) (by exact oR 0 (enc:=aN) rfl hpk rfl)) ?_;refine aW 5 ?_;refine aW 6 ?_;refine iQ 7 rfl (bt k3 ak ax (q0 rfl) (q0 rfl) (fun _=>⟨rfl,by omega⟩)) ?_;refine iQ 8 rfl (ea (v:= .int .i64 bk.b.total) aJ (q0 rfl) (by exact oR 1 (enc:=aN) rfl hSk rfl)) ?_;refine iQ 9 rfl (ou (r:=pv -bk.b.total) (q0 rfl) (q0 rfl) (fun _=>⟨rfl,by omega,by omega⟩)) ?_;refine r1 10 2 ?_;refine aL rfl (bR (en sL (Fb (q0 rfl) (q0 rfl) (q0 rfl) (q0 rfl))) (fun w hw=>vq 6 0 (pv -bk.b.total) hw rfl (by omega) (by omega)) rfl (fun _=>rfl) fun z6=>?_);refine jz 2 ?_;iterate 2 refine G ?_
  rw [←hb1];iterate 3 refine G ?_
  refine bZ (bR (wK (cap:=[.pointer (some ⟨b7,0,none⟩), .pointer (some ⟨b5,0,none⟩)]) (al:=[.pointer (some ⟨bk.q,0,none⟩), .pointer (some ⟨b7,0,none⟩), .pointer (some ⟨b5,0,none⟩)]) Tryz.call113 (q0 rfl) (fun hg=>by rw [il (q0 (v:= .pointer _) rfl) hg];rfl)) (fun w hw=>QQ hw rfl 6 7 b7 b5 V vn vc vs p a rfl rfl hv hp hpe (by omega) (by omega)) rfl (fun _=>rfl) fun z7=>?_);iterate 4 refine G ?_
  rw [←hfb];obtain ⟨fb,hfbe⟩: ∃fb,fb=qf p vs bk.b (pv -bk.b.total):=⟨_,rfl⟩;rw [←hfbe];iterate 5 refine G ?_
  refine bO (ea (v:= .int .i64 fb.total) aJ (q0 rfl) (bx 0 rfl rfl)) ?_;iterate 3 refine G ?_
  refine au rfl ?_ ?_<;>intro h7
  ·have h7':1000000000000<fb.total:=cJ h7;have hno:vp p (rs.map (·.r)) vs=none:=by
    have h8:tZ p vs Z=none:=RD (k:=k3+1) (by rw [hFNs];unfold rj;simp only;rw [←hfbe,av h7']);unfold vp;rw [←hlc,←hus,hfsA];simp only;rw [←hpd,←hZ,h8]
   rw [hE,av hno];iterate 13 refine G ?_
   exact fV (v:= .slice _ _ _) (x:= .int _ _) rfl rfl rfl rfl fun w' hw=>⟨⟨([],none,0),by rw [hR,hno];rfl⟩,rfl,N9 hw⟩
  have h7': ¬1000000000000<fb.total:=cS h7;iterate 7 refine G ?_
  refine bO (eP I1 oP (q0 rfl)) ?_;refine lq (k:=4) (i:=Tryz.t81) 5 ((⟨fb,z7.1,z7.2⟩:FX)) r9 (by kernel_rfl) rfl rfl rfl rfl oP Kg rfl rfl rfl rfl rfl rfl ⟨by simp only;omega,by decide⟩ rfl rfl fun B0 A1 c1=>?_;iterate 8 refine G ?_
  exact ay (k3+1,fs++[(⟨fb,z7.1,z7.2⟩:FX)],(A1,c1)) eE ⟨rfl,rfl,trivial⟩ (fun w hw=>(Mem.ph (f:=pF) (y:=(⟨fb,z7.1,z7.2⟩:FX)) (xs:=fs) (hw.pick [1,6,5,4,2,7,3,8,9,10] (by decide))).pick [1,0,2,3,4,5,6,7,8] (by decide)) rfl ⟨by show k3+1≤k2;omega,by rw [hFNs];unfold rj;simp only;rw [←hfbe,ah h7'];simp⟩ (by show k2 -(k3+1)<k2 -k3;omega)
 have hend:k3=k2:=by first|(simp at hlt3;omega)|omega
 subst hend;have hfnA:tZ p vs Z=some (fs.map (·.b)):=by rw [←Pg (k:=k3) (by omega)];exact hFN
 have hall:vp p (rs.map (·.r)) vs=some (sq (fs.map (·.b))):=by
  unfold vp;rw [←hlc,←hus,hfsA];simp only;rw [←hpd,←hZ,hfnA]
 have hnd:((fs.map (·.b)).map (·.aP)).Nodup:=by
  rw [yS (by omega) hFN,←hZl,dp,hZ,D' (by rw [aD];omega),Gg hrich];exact (rS _ _ hlg.ids).1
 iterate 8 refine G ?_
 refine bZ (bR (en Tryz.call119 (gr (q0 rfl) (q0 rfl))) (fun w hw=>QK hw (j:=0) rfl rfl (by simp only;omega)) rfl (fun _=>rfl) fun ys1=>?_);obtain ⟨gs,hgp,hgs⟩:=ys1;have hgl:gs.length=fs.length:=hgp.length_eq;have hgb:gs.map (·.b)=sq (fs.map (·.b)):=wL (hgp.map _) hnd (gA.2 hgs);rw [hE,ah (by rw [hall];simp),←hgl];iterate 10 refine G ?_
 exact fV (v:= .slice _ _ _) (x:= .int _ _) rfl rfl rfl rfl fun w' hw=>⟨⟨(gs,fA,fc),by rw [hR,hall];exact hgb⟩,rfl,(yP (hw.pick [1,0] (by decide)) hgp).pick [1,0] (by decide)⟩
end Go.Proofs.Far
