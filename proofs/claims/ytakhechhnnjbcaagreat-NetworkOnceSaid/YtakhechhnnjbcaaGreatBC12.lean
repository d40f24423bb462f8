import Derived.Test.YtakhechhnnjbcaaGreatBC11
import Derived.Test.YtakhechhnnjbcaaGreatBC08
import Derived.Test.YtakhechhnnjbcaaGreatBC04
import Derived.Test.YtakhechhnnjbcaaGreatTc
set_option maxRecDepth 100000
set_option maxHeartbeats 8000000
set_option linter.unusedVariables false
set_option linter.unusedSimpArgs false
namespace Go.Proofs.Cus
open Go Go.RowKit Go.Proofs.E
theorem Gn (ps:List (Int×Nat×PT)) (r:Int):(ps.eraseP fun p=>p.1==r).map (fun p=>(p.1,p.2.2))=(ps.map fun p=>(p.1,p.2.2)).eraseP fun p=>p.1==r:=by
 induction ps with
 |nil=>rfl
 |cons p ps ih=>
  by_cases h:p.1==r
  ·simp [h]
  simp only [cI];rw [jx (by simpa using h),jx (by simpa using h),cI,ih]
theorem oo (t:TS) (k:Nat) (to:Sp):(Cp t k to).plain=fT t.plain k to:=by
 unfold Cp fT TS.plain TS.open_;simp only;congr 1;split
 ·exact Gn _ _
 rfl
theorem DE {ps:List (Int×Nat×PT)} (hn:((ps.map fun p=>(p.1,p.2.2)).map (·.1)).Nodup) {q:Nat} {p:Int×Nat×PT} (hq:ps[q]?=some p) (v:PT):(ps.set q (p.1,p.2.1,v)).map (fun p=>(p.1,p.2.2))=mV (ps.map fun p=>(p.1,p.2.2)) p.1 v:=by
 obtain ⟨hql,hqe⟩:=aa.1 hq;apply cU;intro i;unfold mV;rw [k8,bw];simp only [aD,bf,Option.map_map];by_cases e:q=i
 ·subst e;simp [hql,hqe]
 simp only [e,lM];cases hi:ps[i]? with
 |none=>rfl
 |some r=>
  obtain ⟨hil,hie⟩:=aa.1 hi;simp only [fU,Function.comp,eQ];rw [ah (fun h=>e ?_)];have h1:r.1=p.1:=by simpa using h
  have:=bj.1 hn;rcases jQ q i with h2|h2|h2
  ·exact absurd (by simp [hqe,hie,h1]) (this q i (by simpa using hql) (by simpa using hil) h2)
  ·exact h2
  exact absurd (by simp [hqe,hie,h1]) (this i q (by simpa using hil) (by simpa using hql) h2)
theorem Mt (l:List Int) (id:Int):ml (lN l) id (.bool true)=lN (uF l id):=by
 have key: ∀l:List Int,ml (lN l) id (.bool true)=lN (if id∈l then l else l++[id]):=by
  intro l
  induction l with
  |nil=>rfl
  |cons x l ih=>
   by_cases hx:x=id
   ·subst hx;simp [lN,ml]
   have hx': ¬id=x:=fun e=>hx e.symm;simp only [lN,cI,ml] at ih⊢;rw [ah (by simpa using hx),ih];by_cases hm:id∈l
   ·simp [hm]
   simp [hm,hx']
 rw [key];unfold uF;by_cases hm:id∈l
 ·rw [av hm,av (mv.2 hm)]
 rw [ah hm,ah (fun h=>hm (mv.1 h))]
theorem GK {t:TS} {id:Int} {v:PT} (h:k9 t.plain.open_ id=some v): ∃(q:Nat) (p:Int×Nat×PT),t.ps[q]?=some p∧t.ps.find? (fun y=>y.1==id)=some p∧p.1=id∧p.2.2=v:=by
 have h':k9 (TS.mk t.aK t.ps t.used).open_ id=some v:=h;rw [Cj] at h';cases hf:t.ps.find? (fun p=>p.1==id) with
 |none=>rw [hf] at h';cases h'
 |some p=>
  rw [hf] at h';simp only [fU,eQ] at h';obtain ⟨q,hq⟩:=bC.1 (gB hf);exact ⟨q,p,hq,rfl,by simpa using sO hf,h'⟩
theorem LL {s:PS} {e:Ev} {k:Nat} (hk:e.bD=k):(e.kind=1→kW s e=fT s k ⟨1,e.place,0,false⟩)∧(e.kind=2→kW s e=fT s k ⟨2,e.place,0,false⟩)∧(e.kind=7→kW s e=fT s k ⟨4,e.place,0,false⟩)∧(e.kind=8→kW s e=fT s k ⟨5,0,0,false⟩)∧(e.kind=9→kW s e=fT s k ⟨6,0,0,false⟩)∧((e.kind<1∨9<e.kind)→kW s e=s):=by
 have hkt:e.bD.toNat=k:=by omega
 refine ⟨fun h=>?_,fun h=>?_,fun h=>?_,fun h=>?_,fun h=>?_,fun h=>?_⟩<;>unfold kW<;>simp only [hkt]
 ·rw [av h]
 ·rw [ah (by omega),av h]
 ·rw [ah (by omega),ah (by omega),ah (by omega),ah (by omega),ah (by omega),av h]
 ·rw [ah (by omega),ah (by omega),ah (by omega),ah (by omega),ah (by omega),ah (by omega),av h]
 ·rw [ah (by omega),ah (by omega),ah (by omega),ah (by omega),ah (by omega),ah (by omega),ah (by omega),av h]
 rw [ah (by omega),ah (by omega),ah (by omega),ah (by omega),ah (by omega),ah (by omega),ah (by omega),ah (by omega)]
theorem RW {t:TS} {n k:Nat} {x:Sp} {tr:List Int} {e:Ev} (hI:jP n t.plain) (hk:e.bD=k) (hx:t.aK[k]?=some x) (hg:t.plain.aK.getD e.bD.toNat default=x) (h56:e.kind=5∨e.kind=6) (hc:dF tr t.plain e=0):
  ∃(q:Nat) (p:Int×Nat×PT),t.ps[q]?=some p∧t.ps.find? (fun y=>y.1==x.aP)=some p∧(TS.mk (t.aK.set k {x with bn:=decide (e.kind=5)}) (t.ps.set q (p.1,p.2.1,{p.2.2 with bn:=decide (e.kind=5)})) t.used).plain=kW t.plain e:=by
 rw [VN h56 hg] at hc;split at hc
 ·cases hc
 rename_i hw3;have hw3':x.cn=3:=kM hw3;obtain ⟨v,hv,_⟩:=hI.spot k x hx hw3';have hlk:=uW hI.keys hv;obtain ⟨q,p,hq,hf,hp1,hp2⟩:=GK hlk;refine ⟨q,p,hq,hf,?_⟩;have hkt:e.bD.toNat=k:=by omega
 unfold kW;simp only;rw [ah (by omega),ah (by omega),ah (by omega),ah (by omega),av h56,hg,hlk,hkt];unfold TS.plain TS.open_;simp only;rw [DE hI.keys hq,hp1,hp2]
attribute [local irreducible] nZ
theorem T4 {f:Fl} {a:FA} {s:SA} {t:TS} {w0 w:World} {L:List E.Item} {tr:List Int} (e:Ev) (hw:Mem w0 (tW f a s t++L) w) (hmk:marks L=[]) (hI:jP s.n t.plain) (hb:0≤e.bD∧e.bD<s.n) (hc:dF tr t.plain e=0):
  Calls Tryz.prog 206 #[.pointer (some ⟨s.sb,0,none⟩), .agg e.cells.toArray] w fun r w'=> ∃t':{t':TS//t'.plain=kW t.plain e},r= .returned (.tuple #[])∧Mem w0 (tW f a s t'.1++L) w':=by
 obtain ⟨k,hk⟩: ∃k:Nat,e.bD=k:=⟨e.bD.toNat,by omega⟩;have hl:t.aK.length=s.n:=hI.len;have hkn:k<s.n:=by omega
 obtain ⟨x,hx⟩: ∃x,t.aK[k]?=some x:=⟨_,aj (by omega)⟩;have hg:t.plain.aK.getD e.bD.toNat default=x:=by
  rw [hk,aM,aq];show (t.aK[k]?).getD default=x;rw [hx];rfl
 obtain ⟨d1,d2,d7,d8,d9,d0⟩:=LL (s:=t.plain) hk;obtain ⟨ed,es,eat,el,ekind,ebike,epl,erd,erid⟩:=e;simp only at hk hb hc hg d1 d2 d7 d8 d9 d0;subst hk;refine eu hw hmk Tryz.func206 rfl Tryz.ntmps206 rfl ?_;iterate 2 refine G ?_
 refine cd (v:= .agg _) rfl rfl fun b3=>?_;iterate 6 refine G ?_
 refine bO (bS ff wH eY (pt (v:= .int _ _) rfl (pt (v:= .int _ _) rfl E.p0)) rfl) ?_;refine cx eY rfl fun b4=>?_;refine fI (v:= .agg _) rfl rfl cF ?_;iterate 15 refine G ?_
 refine au rfl ?_ ?_<;>intro h1
 ·have hk1:ekind=1:=by simpa using h1
  iterate 6 refine G ?_
  refine bO (bS ff wH eY (pt (v:= .int _ _) rfl (pt (v:= .int _ _) rfl E.p0)) rfl) ?_;refine bZ (bR (en Bh (nj (q0 rfl) (q0 rfl) (q0 rfl))) (fun w hw=>qx (Mem.v7 (X:=[_,_]) (S:=tW f a s t) hw) hmk hl k hkn ⟨1,epl,0,false⟩) rfl (fun _=>rfl) fun u=>?_);iterate 2 refine G ?_
  exact lj rfl hmk fun w' hw=>⟨⟨_,(oo _ _ _).trans (d1 hk1).symm⟩,rfl,Mem.yL (X:=[_,_]) hw⟩
 iterate 6 refine G ?_
 refine au rfl ?_ ?_<;>intro h2
 ·have hk2:ekind=2:=by simpa using h2
  iterate 6 refine G ?_
  refine bO (bS ff wH eY (pt (v:= .int _ _) rfl (pt (v:= .int _ _) rfl E.p0)) rfl) ?_;refine bZ (bR (en Bh (nj (q0 rfl) (q0 rfl) (q0 rfl))) (fun w hw=>qx (Mem.v7 (X:=[_,_]) (S:=tW f a s t) hw) hmk hl k hkn ⟨2,epl,0,false⟩) rfl (fun _=>rfl) fun u=>?_);iterate 2 refine G ?_
  exact lj rfl hmk fun w' hw=>⟨⟨_,(oo _ _ _).trans (d2 hk2).symm⟩,rfl,Mem.yL (X:=[_,_]) hw⟩
 iterate 6 refine G ?_
 refine au rfl ?_ ?_<;>intro h3
 ·have hk3:ekind=3:=by simpa using h3
  have hck:=hc;rw [V6 hk3 hg] at hck;obtain ⟨hpk,hu⟩:dK x=true∧oX t.used erid=false:=by
   split at hck
   ·cases hck
   rename_i h1;split at hck
   ·cases hck
   rename_i h2;exact ⟨by simpa using h1,by show oX t.plain.used erid=false;simpa using h2⟩
  have hno:t.ps.find? (fun p=>p.1==erid)=none:=by
   rw [kD];intro p hp hpe;have h1:=hI.used (p.1,p.2.2) (bJ.2 ⟨p,hp,rfl⟩);simp only [xG] at hpe;simp only [hpe] at h1;rw [show t.plain.used=t.used from rfl,hu] at h1;cases h1
  refine G ?_;refine fY (fun w hw=>hw.W6) rfl ?_;refine zd 1 ?_;refine aW 0 ?_;refine aW 1 ?_;refine aW 2 ?_;refine aW 3 ?_;refine aW 4 ?_;refine aW 5 ?_;refine aW 6 ?_;refine aW 7 ?_;refine aW 8 ?_;refine aW 9 ?_;refine iQ 10 rfl (bS FC Vn Tryz.zeroValue355 (pt (v:= .int _ _) rfl (pt (v:= .int _ _) rfl E.p0)) rfl) ?_;refine r1 11 1 ?_;refine aL rfl (mo (v:= .agg _) rfl rfl fun b42=>?_);refine r1 12 2 ?_;refine aL rfl (LC 0 ⟨erd,k,false⟩ nt aG rfl rfl rfl rfl rfl hno ?_);refine jz 1 ?_;iterate 2 refine G ?_
  refine fY (fun w hw=>hw.W4) rfl ?_;refine E.RT rfl rfl (by decide+kernel) ?_;iterate 8 refine G ?_
  refine tv (v:= .bool true) 5 iq aG rfl rfl rfl rfl ?_;iterate 2 refine G ?_
  refine E.RT rfl rfl (by decide+kernel) ?_;iterate 7 refine G ?_
  refine bO (bt _ cq cF (q0 rfl) (q0 rfl) (fun _=>⟨rfl,by omega⟩)) ?_;iterate 2 refine G ?_
  refine bZ (ew 3 ⟨3,0,erid,false⟩ rfl rfl cF rfl rfl rfl hx rfl rfl ?_);iterate 2 refine G ?_
  exact lj rfl hmk fun w' hw=>⟨⟨⟨t.aK.set k ⟨3,0,erid,false⟩,t.ps++[(erid,b42,⟨erd,k,false⟩)],uF t.used erid⟩,by
   unfold kW;simp only;rw [ah (by omega),ah (by omega),av hk3];unfold TS.plain TS.open_;simp⟩,rfl,by have h9:=hw.tail.tail;rw [Mt] at h9;exact h9⟩
 iterate 6 refine G ?_
 refine au rfl ?_ ?_<;>intro h4
 ·have hk4:ekind=4:=by simpa using h4
  have hck:=hc;rw [Xa hk4 hg] at hck;obtain ⟨v,hv,hpk⟩: ∃v,k9 t.plain.open_ erid=some v∧dK x=true:=by
   cases hlk:k9 t.plain.open_ erid with
   |none=>rw [hlk] at hck;cases hck
   |some v=>
    rw [hlk] at hck;simp only at hck;split at hck
    ·cases hck
    rename_i h1;exact ⟨v,rfl,by simpa using h1⟩
  obtain ⟨q,p,hq,hf,hp1,hp2⟩:=GK hv;obtain ⟨hj0,y,hy,y3,yr,yp⟩:=hI.bD _ (nh hv);simp only at hj0 hy;obtain ⟨j,hj⟩: ∃j:Nat,v.bD=j:=⟨v.bD.toNat,by omega⟩;rw [hj,aM] at hy;have hjn:j<s.n:=by rw [←hl];exact (aa.1 hy).1
  have hjk:j≠k:=fun e=>by
   have h9:t.aK[j]?=some y:=hy;rw [e,hx] at h9;cases h9;exact mi hpk y3
  have hptr:(ju (tH t.ps) erid).getD (.pointer none)= .pointer (some ⟨p.2.1,0,none⟩):=by rw [BV];unfold nZ;rw [hf];rfl
  have hpb:p.2.2.bD=j:=by rw [hp2];exact hj
  have hx2:(t.aK.set j x)[k]?=some x:=by rw [cj hjk];exact hx
  have hy2:t.aK[j]?=some y:=hy;refine G ?_;refine tB ?_;iterate 6 refine G ?_
  refine bO (Bb nt aG HF (q0 rfl) (q0 rfl) (pmap_map 4 rfl) (fun _=>hptr)) ?_;iterate 4 refine G ?_
  refine E.RT rfl rfl (by decide+kernel) ?_;iterate 7 refine G ?_
  refine bO (ea (v:= .int .i64 j) aJ (q0 rfl) (pc 4 (r:=1) rfl hq (by show some (Value.int .i64 p.2.2.bD)=_;rw [hpb]))) ?_;iterate 6 refine G ?_
  refine bO (bt _ cq cF (q0 rfl) (q0 rfl) (fun _=>⟨rfl,by omega⟩)) ?_;refine G ?_;refine bO (bt _ cq cF (q0 rfl) (q0 rfl) (fun _=>⟨rfl,by omega⟩)) ?_;iterate 2 refine G ?_
  refine bZ (ew 3 x rfl rfl cF rfl rfl rfl hy2 rfl rfl ?_);iterate 3 refine G ?_
  refine E.RT rfl rfl (by decide+kernel) ?_;iterate 7 refine G ?_
  refine bO (bt _ cq cF (q0 rfl) (q0 rfl) (fun _=>⟨rfl,by omega⟩)) ?_;iterate 2 refine G ?_
  refine bZ (ew 3 ⟨3,0,erid,false⟩ rfl rfl cF rfl rfl rfl hx2 rfl rfl ?_);iterate 8 refine G ?_
  refine bZ (Au 4 (off:=1) {p.2.2 with bD:=(k:Int)} rfl rfl ax rfl rfl rfl hq (by show 1+1≤3;decide) rfl ?_);iterate 2 refine G ?_
  exact lj rfl hmk fun w' hw=>⟨⟨⟨(t.aK.set j x).set k ⟨3,0,erid,false⟩,t.ps.set q (p.1,p.2.1,{p.2.2 with bD:=(k:Int)}),t.used⟩,by
   unfold kW;simp only at hg⊢;rw [ah (by omega),ah (by omega),ah (by omega),av hk4,hv,hg];unfold TS.plain TS.open_;simp only [aM,hj];rw [DE hI.keys hq,hp1,hp2]⟩,rfl,hw.tail.tail⟩
 iterate 7 refine G ?_
 refine au rfl ?_ ?_<;>intro h5
 ·have h56:ekind=5∨ekind=6:= .inl (by simpa using h5);obtain ⟨q,p,hq,hf,hpz⟩:=RW hI rfl hx hg h56 hc;iterate 2 refine G ?_
  refine au rfl ?_ ?_<;>intro h5b
  ·iterate 7 refine G ?_
   refine bZ (bR (en Tryz.call276 (nj (q0 rfl) (q0 rfl) (q0 rfl))) (fun w hw=>Jn (Mem.v7 (X:=[_,_]) (S:=tW f a s t) hw) hmk hl k hkn (decide (ekind=5)) hx hq hf) rfl (fun _=>rfl) fun u=>?_);iterate 2 refine G ?_
   exact lj rfl hmk fun w' hw=>⟨⟨_,hpz⟩,rfl,Mem.yL (X:=[_,_]) hw⟩
  rw [h5] at h5b;cases h5b
 iterate 5 refine G ?_
 refine au rfl ?_ ?_<;>intro h6
 ·have h56:ekind=5∨ekind=6:= .inr (by simpa using h6);obtain ⟨q,p,hq,hf,hpz⟩:=RW hI rfl hx hg h56 hc;iterate 7 refine G ?_
  refine bZ (bR (en Tryz.call276 (nj (q0 rfl) (q0 rfl) (q0 rfl))) (fun w hw=>Jn (Mem.v7 (X:=[_,_]) (S:=tW f a s t) hw) hmk hl k hkn (decide (ekind=5)) hx hq hf) rfl (fun _=>rfl) fun u=>?_);iterate 2 refine G ?_
  exact lj rfl hmk fun w' hw=>⟨⟨_,hpz⟩,rfl,Mem.yL (X:=[_,_]) hw⟩
 iterate 6 refine G ?_
 refine au rfl ?_ ?_<;>intro h7
 ·have hk7:ekind=7:=by simpa using h7
  iterate 6 refine G ?_
  refine bO (bS ff wH eY (pt (v:= .int _ _) rfl (pt (v:= .int _ _) rfl E.p0)) rfl) ?_;refine bZ (bR (en Bh (nj (q0 rfl) (q0 rfl) (q0 rfl))) (fun w hw=>qx (Mem.v7 (X:=[_,_]) (S:=tW f a s t) hw) hmk hl k hkn ⟨4,epl,0,false⟩) rfl (fun _=>rfl) fun u=>?_);iterate 2 refine G ?_
  exact lj rfl hmk fun w' hw=>⟨⟨_,(oo _ _ _).trans (d7 hk7).symm⟩,rfl,Mem.yL (X:=[_,_]) hw⟩
 iterate 6 refine G ?_
 refine au rfl ?_ ?_<;>intro h8
 ·have hk8:ekind=8:=by simpa using h8
  iterate 4 refine G ?_
  refine bO (bS ff wH eY (pt (v:= .int _ _) rfl E.p0) rfl) ?_;refine bZ (bR (en Bh (nj (q0 rfl) (q0 rfl) (q0 rfl))) (fun w hw=>qx (Mem.v7 (X:=[_,_]) (S:=tW f a s t) hw) hmk hl k hkn ⟨5,0,0,false⟩) rfl (fun _=>rfl) fun u=>?_);iterate 2 refine G ?_
  exact lj rfl hmk fun w' hw=>⟨⟨_,(oo _ _ _).trans (d8 hk8).symm⟩,rfl,Mem.yL (X:=[_,_]) hw⟩
 iterate 6 refine G ?_
 refine au rfl ?_ ?_<;>intro h9
 ·have hk9:ekind=9:=by simpa using h9
  iterate 4 refine G ?_
  refine bO (bS ff wH eY (pt (v:= .int _ _) rfl E.p0) rfl) ?_;refine bZ (bR (en Bh (nj (q0 rfl) (q0 rfl) (q0 rfl))) (fun w hw=>qx (Mem.v7 (X:=[_,_]) (S:=tW f a s t) hw) hmk hl k hkn ⟨6,0,0,false⟩) rfl (fun _=>rfl) fun u=>?_);iterate 2 refine G ?_
  exact lj rfl hmk fun w' hw=>⟨⟨_,(oo _ _ _).trans (d9 hk9).symm⟩,rfl,Mem.yL (X:=[_,_]) hw⟩
 iterate 2 refine G ?_
 exact lj rfl hmk fun w' hw=>⟨⟨t,(d0 (by simp at h1 h2 h3 h4 h5 h6 h7 h8 h9;omega)).symm⟩,rfl,hw.tail.tail⟩
end Go.Proofs.Cus
namespace Go.Proofs.Cus
open Go Go.RowKit Go.Proofs.E
structure VX {σ τ:Type} (f:Fl) (a:FA) (n:Nat) (g:FuncId) (lb:List Value) (cb:σ→PS→Ev→Int→σ) (CI:σ→τ→List E.Item) (J:Nat→σ→Prop):Prop where
 enter: ∀args w,(callFunc g args).run Tryz.prog w= .ok (.enter g args) w
 run: ∀{w0:World} {L:List E.Item} {s:SA} {t:TS} {z:σ} {x:τ} {k:Nat} (e:Ev) (er:Int),marks L=[]→s.n=n→t.aK.length=n→n≤1000→kp w0 f a→k≤10000→J k z→ ∀w,Mem w0 (CI z x++(tW f a s t++L)) w→
  Calls Tryz.prog g (([.pointer (some ⟨s.sb,0,none⟩), .agg e.cells.toArray, .int .i64 er]:List Value)++lb).toArray w fun r w'=> ∃x':τ,r= .returned (.tuple #[])∧Mem w0 (CI (cb z t.plain e er) x'++(tW f a s t++L)) w'
 fC: ∀k z s e er,J k z→J (k+1) (cb z s e er)
def WJ {σ τ:Type} (f:Fl) (a:FA) (n:Nat) (o:Option (FuncId×List Value)) (cb:σ→PS→Ev→Int→σ) (CI:σ→τ→List E.Item) (J:Nat→σ→Prop):Prop:=
 match o with
 |none=> ∀z s e er,cb z s e er=z
 |some gl=>VX f a n gl.1 gl.2 cb CI J
def cbv:Option (FuncId×List Value)→Value
 |none=> .nilFunc
 |some gl=> .func (.func gl.1) #[] gl.2.toArray
theorem MR (f:Fl) (a:FA) (A:Option Addr) (n c:Nat) (v:Value) (w:World) (hf:kp w f a) (he:fR f≠0):
  Calls Tryz.prog 152 #[.agg (f.cells a).toArray, .slice A n c,v] w fun e w'=>e= .returned (.tuple #[.pointer none, .int .i64 (fR f)])∧gz w w':=by
 refine aS Tryz.func152 rfl Tryz.ntmps152 rfl ?_;iterate 2 refine G ?_
 refine cd (v:= .agg _) rfl rfl fun b3=>?_;iterate 8 refine G ?_
 refine gV (en L8 (il (q0 rfl))) (fun _ w hm=>A9 f a w (hf.mem hm)) ?_;iterate 9 refine G ?_
 refine au rfl ?_ ?_<;>intro h
 ·iterate 9 refine G ?_
  exact fV (v:= .pointer _) (x:= .int _ _) rfl rfl rfl rfl fun w' hw=>⟨rfl,hw.1⟩
 exact absurd (by simpa using h) he
theorem U5 {σ τ:Type} (f:Fl) (a:FA) (A:Option Addr) (n c nb:Nat) (xs:List Ev) (o:Option (FuncId×List Value)) (cb:σ→PS→Ev→Int→σ) (CI:σ→τ→List E.Item) (J:Nat→σ→Prop) (hcbs:WJ f a nb o cb CI J) (hJn: ∀k z,J k z→J (k+1) z)
  {w0 w:World} {L:List E.Item} {z0:σ} {x0:τ} (hw:Mem w0 (CI z0 x0++L) w) (hmL:marks L=[]) (hmC: ∀z x,marks (CI z x)=[]) (hJ0:J 0 z0) (hf:kp w0 f a) (hx:HC w0 A n xs) (hn:n≤10000) (hok:fR f=0) (hnb:f.eV=nb)
  (hpl: ∀e∈xs,-9223372036854775808≤e.place∧e.place≤9223372036854775807):
  Calls Tryz.prog 152 #[.agg (f.cells a).toArray, .slice A n c,cbv o] w fun e w'=> ∃y:{y:SA×TS×τ//y.1.n=nb∧y.2.1.plain=(jD f cb (setOf xs) (fu nb,z0)).1},e= .returned (.tuple #[.pointer (some ⟨y.1.1.sb,0,none⟩), .int .i64 0])∧Mem w0 (tW f a y.1.1 y.1.2.1++(CI (jD f cb (setOf xs) (fu nb,z0)).2 y.1.2.2++L)) w':=by
 have hmk2: ∀z x,marks (CI z x++L)=[]:=fun z x=>by rw [iU,hmC,hmL];rfl
 have hmk:=hmL;obtain ⟨hbk,-⟩:=rl hok;have hys: ∀e∈setOf xs,-9223372036854775808≤e.place∧e.place≤9223372036854775807:=fun e he=>hpl e ((mx xs).mem e|>.1 he).1;have hylen:=DF xs;have hxl:=hx.1;refine eu hw (hmk2 _ _) Tryz.func152 rfl Tryz.ntmps152 rfl ?_;iterate 2 refine G ?_
 refine cd (v:= .agg _) rfl rfl fun b3=>?_;iterate 8 refine G ?_
 refine gV (en L8 (il (q0 rfl))) (fun _ w hm=>A9 f a w (hf.mem hm)) ?_;iterate 9 refine G ?_
 refine au rfl ?_ ?_<;>intro h
 ·exact absurd hok (by simpa using h)
 iterate 5 refine G ?_
 refine qW (en Tryz.call203 (il (q0 rfl))) (fun w hw=>Fs f a nb hnb (by omega) w) rfl (fun _=>rfl) fun s=>?_;iterate 7 refine G ?_
 refine qW (en Tryz.call204 (il (q0 rfl))) (fun w hw=>U2 A n c xs w (hx.mem hw) hn) rfl (fun _=>rfl) fun Y=>?_;iterate 5 refine G ?_
 obtain ⟨s,hsn⟩:=s;generalize hys0:setOf xs=ys at*;obtain ⟨R,hR⟩: ∃R:Nat→PS×σ,R=fun k=>jD f cb (ys.take k) (fu nb,z0):=⟨_,rfl⟩;have hR0:R 0=(fu nb,z0):=by rw [hR];rfl
 have hRn:R ys.length=jD f cb ys (fu nb,z0):=by rw [hR];simp only [dp]
 have hRs: ∀k e,ys[k]?=some e→R (k+1)=oY cb (R k).2 e (kg f (R k).1 e):=fun k e he=>by rw [hR];exact vG ys _ k e he
 have hRI: ∀k,jP nb (R k).1:=fun k=>by rw [hR];exact F' hnb _ _ (jP.begin nb)
 clear hR;refine ct [11,12,23,24,25,26,27,28,29,30,31,32,33,34,35,36,37,38,39,40,41,42,43,44,45,46,47,48,49,50,51,52,53,54] (fun q:Nat×TS×τ=>[(23, .int .i64 q.1)]) (fun q=>ig Y.1 Y.2 ys::(tW f a s q.2.1++(box b3 24 (f.cells a)::(CI (R q.1).2 q.2.2++L)))) (fun q=>q.1≤ys.length∧q.2.1.plain=(R q.1).1∧J q.1 (R q.1).2) (fun q=>ys.length -q.1) (0,OQ nb,x0) ⟨rfl,trivial⟩ (fun w hw=>by show Mem w0 (ig _ _ _::(tW f a s _++(_::(CI (R 0).2 _++L)))) w;rw [hR0];exact hw) ((hmk2 _ _).trans (hmk2 _ _).symm) ⟨aU _,by rw [hR0];rfl,by show J 0 (R 0).2;rw [hR0];exact hJ0⟩ ?_;rintro ⟨k,t,x⟩ g ⟨hk,htp,hJ⟩;simp only at hk htp hJ;iterate 6 refine G ?_
 refine au rfl ?_ ?_<;>intro hlt
 ·have hlt':k<ys.length:=by simpa using hlt
  obtain ⟨e,he⟩: ∃e,ys[k]?=some e:=⟨_,aj hlt'⟩;have hRk:=hRs k e he;have hplc:=hys e (an he);have hIk:=hRI k;rw [←htp] at hIk hRk;have hlT:t.aK.length=s.n:=by rw [hsn];exact hIk.len
  refine fN (fun w hw=>dP (j:=0) hw rfl (by omega)) fun ⟨b,hb4⟩=>?_;obtain ⟨Y1,Y2⟩:=Y;simp only at hb4;subst hb4;obtain ⟨Y,hY⟩: ∃Y:Nat×Nat,Y.2=Y2:=⟨(0,Y2),rfl⟩;rw [←hY];iterate 6 refine G ?_
  refine bO (bt _ cE bT (q0 rfl) (q0 rfl) (fun _=>⟨rfl,by omega⟩)) ?_;refine G ?_;refine cx cV rfl fun b11=>?_;refine fI (v:= .agg _) rfl rfl bT ?_;iterate 6 refine G ?_
  refine gV (en Wf (gr (q0 rfl) (q0 rfl))) (fun _ w hm=>vS f a e w (hf.mem hm) hplc) ?_;iterate 15 refine G ?_
  refine au rfl ?_ ?_<;>intro hbeat
  ·have hb10:fF f e=0∧e.kind=10:=by simpa using hbeat
   have hst:R (k+1)=(t.plain,(R k).2):=by rw [hRk];unfold kg oY;rw [av hb10]
   iterate 8 refine G ?_
   exact ay (k+1,t,x) eE ⟨rfl,trivial⟩ (fun w hw=>by show Mem w0 (ig _ _ _::(tW f a s _++(_::(CI (R (k+1)).2 _++L)))) w;rw [hst];exact hw.tail) ((hmk2 _ _).trans (hmk2 _ _).symm) ⟨by show k+1≤_;omega,by show t.plain=(R (k+1)).1;rw [hst],by show J (k+1) (R (k+1)).2;rw [hst];exact hJn k _ hJ⟩ (by show ys.length -(k+1)<ys.length -k;omega)
  have hb10: ¬(fF f e=0∧e.kind=10):=by simpa using hbeat
  iterate 9 refine G ?_
  refine au rfl ?_ ?_<;>intro h0
  ·have h0':fF f e=0:=by simpa using h0
   obtain ⟨_,hbike,hp7,_,_⟩:=kV h0';iterate 3 refine G ?_
   refine gV (en Tryz.call205 (gr (q0 rfl) (q0 rfl))) (fun _ w hm=>MN (s:=s) e w (PO (s:=s) (hf.mem hm) hlT (by omega) (Mem.v7 (X:=[_,_]) (S:=tW f a s t) hm)) (by omega) hp7) ?_;iterate 10 refine G ?_
   refine au rfl ?_ ?_<;>intro hc
   ·have hc':dF f.eJ t.plain e=0:=by simpa using hc
    iterate 3 refine G ?_
    refine bZ (bR (en Tryz.call206 (gr (q0 rfl) (q0 rfl))) (fun w hw=>T4 (s:=s) e (Mem.v7 (X:=[_,_]) (S:=tW f a s t) hw) (hmk2 _ _) (by rw [hsn];exact hIk) (by omega) hc') rfl (fun _=>rfl) fun t2=>?_);obtain ⟨t2,ht2⟩:=t2;have hst:(R (k+1)).1=t2.plain∧(R (k+1)).2=cb (R k).2 t2.plain e 0:=by
     rw [hRk];unfold kg oY;rw [ah hb10];simp only;rw [av h0',hc',av rfl,ht2];exact ⟨rfl,rfl⟩
    have hlT2:t2.aK.length=s.n:=by
     have:=(hRI (k+1)).len;rw [hst.1] at this;rw [hsn];exact this
    iterate 3 refine G ?_
    refine fY (fun w hw=>Mem.v7 (X:=tW f a s t2) (S:=[_,_]) hw) rfl ?_;rw [hc'];cases o with
    |none=>
     iterate 2 refine G ?_
     refine bO (zM nB (q0 rfl)) ?_;iterate 2 refine G ?_
     refine au rfl ?_ ?_<;>intro hcb
     ·cases hcb
     iterate 7 refine G ?_
     have hz:=hcbs (R k).2 t2.plain e 0;exact ay (k+1,t2,x) eE ⟨rfl,trivial⟩ (fun w hw=>by show Mem w0 (ig _ _ _::(tW f a s t2++(_::(CI (R (k+1)).2 x++L)))) w;rw [hst.2,hz];exact hw.tail) ((hmk2 _ _).trans (hmk2 _ _).symm) ⟨by show k+1≤_;omega,by show t2.plain=(R (k+1)).1;rw [hst.1],by show J (k+1) (R (k+1)).2;rw [hst.2,hz];exact hJn k _ hJ⟩ (by show ys.length -(k+1)<ys.length -k;omega)
    |some gl=>
     have hcbr:=hcbs.run (w0:=w0) (L:=[box b11 58 e.cells,ig (some ⟨b,0,none⟩) Y.2 ys,box b3 24 (f.cells a)]++L) (s:=s) (t:=t2) (z:=(R k).2) (x:=x) (k:=k) e 0 hmk hsn (by rw [←hsn];exact hlT2) (by omega) hf (by omega) hJ;iterate 2 refine G ?_
     refine bO (CO nB (q0 rfl)) ?_;iterate 2 refine G ?_
     refine au rfl ?_ ?_<;>intro hcb
     ·iterate 5 refine G ?_
      refine bZ (bR (wK hcbs.enter (q0 rfl) (fun _=>rfl)) (fun w hw=>(hcbr w (Mem.v7 (X:=[_,_,_,_,_,_,_]) (S:=CI (R k).2 x) (Mem.v7 (X:=[_,_]) (S:=tW f a s t2) hw))).mono fun _ _ ⟨x',h1,h2⟩=>⟨x',h1,Mem.v7 (X:=tW f a s t2) (S:=[_,_]) (Mem.v7 (X:=CI _ x') (S:=[_,_,_,_,_,_,_]) h2)⟩) rfl (fun _=>(hmk2 _ _).trans (hmk2 _ _).symm) fun x'=>?_);iterate 7 refine G ?_
      exact ay (k+1,t2,x') eE ⟨rfl,trivial⟩ (fun w hw=>by show Mem w0 (ig _ _ _::(tW f a s t2++(_::(CI (R (k+1)).2 x'++L)))) w;rw [hst.2];exact hw.tail) ((hmk2 _ _).trans (hmk2 _ _).symm) ⟨by show k+1≤_;omega,by show t2.plain=(R (k+1)).1;rw [hst.1],by show J (k+1) (R (k+1)).2;rw [hst.2];exact hcbs.fC k _ _ _ _ hJ⟩ (by show ys.length -(k+1)<ys.length -k;omega)
     cases hcb
   have hc': ¬dF f.eJ t.plain e=0:=by simpa using hc
   have hst:(R (k+1)).1=t.plain∧(R (k+1)).2=cb (R k).2 t.plain e (dF f.eJ t.plain e):=by
    rw [hRk];unfold kg oY;rw [ah hb10];simp only;rw [av h0',ah hc'];exact ⟨rfl,rfl⟩
   iterate 3 refine G ?_
   cases o with
   |none=>
    iterate 2 refine G ?_
    refine bO (zM nB (q0 rfl)) ?_;iterate 2 refine G ?_
    refine au rfl ?_ ?_<;>intro hcb
    ·cases hcb
    iterate 7 refine G ?_
    have hz:=hcbs (R k).2 t.plain e (dF f.eJ t.plain e);exact ay (k+1,t,x) eE ⟨rfl,trivial⟩ (fun w hw=>by show Mem w0 (ig _ _ _::(tW f a s t++(_::(CI (R (k+1)).2 x++L)))) w;rw [hst.2,hz];exact hw.tail) ((hmk2 _ _).trans (hmk2 _ _).symm) ⟨by show k+1≤_;omega,by show t.plain=(R (k+1)).1;rw [hst.1],by show J (k+1) (R (k+1)).2;rw [hst.2,hz];exact hJn k _ hJ⟩ (by show ys.length -(k+1)<ys.length -k;omega)
   |some gl=>
    have hcbr:=hcbs.run (w0:=w0) (L:=[box b11 58 e.cells,ig (some ⟨b,0,none⟩) Y.2 ys,box b3 24 (f.cells a)]++L) (s:=s) (t:=t) (z:=(R k).2) (x:=x) (k:=k) e (dF f.eJ t.plain e) hmk hsn (by rw [←hsn];exact hlT) (by omega) hf (by omega) hJ;iterate 2 refine G ?_
    refine bO (CO nB (q0 rfl)) ?_;iterate 2 refine G ?_
    refine au rfl ?_ ?_<;>intro hcb
    ·iterate 5 refine G ?_
     refine bZ (bR (wK hcbs.enter (q0 rfl) (fun _=>rfl)) (fun w hw=>(hcbr w (Mem.v7 (X:=[_,_,_,_,_,_,_]) (S:=CI (R k).2 x) (Mem.v7 (X:=[_,_]) (S:=tW f a s t) hw))).mono fun _ _ ⟨x',h1,h2⟩=>⟨x',h1,Mem.v7 (X:=tW f a s t) (S:=[_,_]) (Mem.v7 (X:=CI _ x') (S:=[_,_,_,_,_,_,_]) h2)⟩) rfl (fun _=>(hmk2 _ _).trans (hmk2 _ _).symm) fun x'=>?_);iterate 7 refine G ?_
     exact ay (k+1,t,x') eE ⟨rfl,trivial⟩ (fun w hw=>by show Mem w0 (ig _ _ _::(tW f a s t++(_::(CI (R (k+1)).2 x'++L)))) w;rw [hst.2];exact hw.tail) ((hmk2 _ _).trans (hmk2 _ _).symm) ⟨by show k+1≤_;omega,by show t.plain=(R (k+1)).1;rw [hst.1],by show J (k+1) (R (k+1)).2;rw [hst.2];exact hcbs.fC k _ _ _ _ hJ⟩ (by show ys.length -(k+1)<ys.length -k;omega)
    cases hcb
  have h0': ¬fF f e=0:=by simpa using h0
  have hst:(R (k+1)).1=t.plain∧(R (k+1)).2=cb (R k).2 t.plain e (fF f e):=by
   rw [hRk];unfold kg oY;rw [ah hb10];simp only;rw [ah h0',ah h0'];exact ⟨rfl,rfl⟩
  iterate 9 refine G ?_
  refine au rfl ?_ ?_<;>intro hc
  ·exact absurd (by simpa using hc) h0'
  iterate 3 refine G ?_
  cases o with
  |none=>
   iterate 2 refine G ?_
   refine bO (zM nB (q0 rfl)) ?_;iterate 2 refine G ?_
   refine au rfl ?_ ?_<;>intro hcb
   ·cases hcb
   iterate 7 refine G ?_
   have hz:=hcbs (R k).2 t.plain e (fF f e);exact ay (k+1,t,x) eE ⟨rfl,trivial⟩ (fun w hw=>by show Mem w0 (ig _ _ _::(tW f a s t++(_::(CI (R (k+1)).2 x++L)))) w;rw [hst.2,hz];exact hw.tail) ((hmk2 _ _).trans (hmk2 _ _).symm) ⟨by show k+1≤_;omega,by show t.plain=(R (k+1)).1;rw [hst.1],by show J (k+1) (R (k+1)).2;rw [hst.2,hz];exact hJn k _ hJ⟩ (by show ys.length -(k+1)<ys.length -k;omega)
  |some gl=>
   have hcbr:=hcbs.run (w0:=w0) (L:=[box b11 58 e.cells,ig (some ⟨b,0,none⟩) Y.2 ys,box b3 24 (f.cells a)]++L) (s:=s) (t:=t) (z:=(R k).2) (x:=x) (k:=k) e (fF f e) hmk hsn (by rw [←hsn];exact hlT) (by omega) hf (by omega) hJ;iterate 2 refine G ?_
   refine bO (CO nB (q0 rfl)) ?_;iterate 2 refine G ?_
   refine au rfl ?_ ?_<;>intro hcb
   ·iterate 5 refine G ?_
    refine bZ (bR (wK hcbs.enter (q0 rfl) (fun _=>rfl)) (fun w hw=>(hcbr w (Mem.v7 (X:=[_,_,_,_,_,_,_]) (S:=CI (R k).2 x) (Mem.v7 (X:=[_,_]) (S:=tW f a s t) hw))).mono fun _ _ ⟨x',h1,h2⟩=>⟨x',h1,Mem.v7 (X:=tW f a s t) (S:=[_,_]) (Mem.v7 (X:=CI _ x') (S:=[_,_,_,_,_,_,_]) h2)⟩) rfl (fun _=>(hmk2 _ _).trans (hmk2 _ _).symm) fun x'=>?_);iterate 7 refine G ?_
    exact ay (k+1,t,x') eE ⟨rfl,trivial⟩ (fun w hw=>by show Mem w0 (ig _ _ _::(tW f a s t++(_::(CI (R (k+1)).2 x'++L)))) w;rw [hst.2];exact hw.tail) ((hmk2 _ _).trans (hmk2 _ _).symm) ⟨by show k+1≤_;omega,by show t.plain=(R (k+1)).1;rw [hst.1],by show J (k+1) (R (k+1)).2;rw [hst.2];exact hcbs.fC k _ _ _ _ hJ⟩ (by show ys.length -(k+1)<ys.length -k;omega)
   cases hcb
 have hend:k=ys.length:=by simp at hlt;omega
 subst hend;have hfin: ∀w',Mem w0 (tW f a s t++(box b3 24 (f.cells a)::(CI (R ys.length).2 x++L))) w'→Mem w0 (tW f a s t++(CI (jD f cb ys (fu nb,z0)).2 x++L)) w':=fun w' h=>by rw [←hRn];exact Mem.yL (X:=[_]) h
 iterate 13 refine G ?_
 exact fV (v:= .pointer _) (x:= .int _ _) rfl rfl rfl (hmk2 _ _) fun w' hw=>⟨⟨(s,t,x),hsn,by rw [htp,hRn]⟩,rfl,hfin _ hw.tail⟩
structure Rj where
 device:Int
 seq:Int
 err:Int
deriving DecidableEq,Inhabited
def iI (z:List Ev) (_:PS) (e:Ev) (er:Int):List Ev:=if er=0 then z++[e] else z
def RR (z:List Rj) (_:PS) (e:Ev) (er:Int):List Rj:=if er≠0 then z++[⟨e.device,e.seq,er⟩] else z
def Gz (z:Unit) (_:PS) (_:Ev) (_:Int):Unit:=z
def lH (f:Fl):Nat:=f.eV.toNat
def gS (f:Fl) (xs:List Ev):List Ev:=if fR f=0 then (jD f iI (setOf xs) (fu (lH f),[])).2 else []
theorem Cd {f:Fl} (h:fR f=0):f.eV=lH f:=by
 have:=(rl h).1;unfold lH;omega
abbrev IY (xs:List Ev):Prop:= ∀e∈xs,-9223372036854775808≤e.place∧e.place≤9223372036854775807
def O7 (b:Nat) (z:List Ev) (x:Option Addr×Nat):List E.Item:=[box b 49 [.slice x.1 z.length x.2],ig x.1 x.2 z]
theorem Uh (f:Fl) (a:FA) (n b:Nat):VX f a n 153 [.pointer (some ⟨b,0,none⟩)] iI (O7 b) (fun k z=>z.length≤k) where
 enter:=Tryz.call153
 fC:=fun k z s e er h=>by
  unfold iI;split
  ·simp;omega
  omega
 run:=fun {w0 L s t z x k} e er hmk _ _ _ _ hk hJ w hw=>by
  unfold O7 at hw⊢;refine eu hw hmk Tryz.func153 rfl Tryz.ntmps153 rfl ?_;iterate 2 refine G ?_
  refine cd (v:= .agg _) rfl rfl fun b5=>?_;iterate 8 refine G ?_
  refine au rfl ?_ ?_<;>intro h
  ·have h0:er=0:=by simpa using h
   iterate 3 refine G ?_
   refine lq (k:=9) (i:=Tryz.t58) 2 (e) cE (by kernel_rfl) rfl rfl rfl rfl bT cV rfl rfl rfl rfl rfl rfl ⟨by omega,by decide⟩ rfl rfl fun B A1 c1=>?_;refine fI (v:= .slice _ _ _) rfl rfl Tryz.sizeOf49 ?_;refine G ?_;exact lj rfl hmk fun w' hw=>⟨(A1,c1),rfl,by unfold iI;rw [av h0];exact hw.tail⟩
  have h0: ¬er=0:=by simpa using h
  refine G ?_;exact lj rfl hmk fun w' hw=>⟨x,rfl,by unfold iI;rw [ah h0];exact hw.tail⟩
theorem IS (f:Fl) (a:FA) (A:Option Addr) (n c:Nat) (xs:List Ev) (w:World) (hf:kp w f a) (hx:HC w A n xs) (hn:n≤10000) (hpl:IY xs):
  Calls Tryz.prog 100 #[.agg (f.cells a).toArray, .slice A n c] w fun r w'=> ∃x:Option Addr×Nat,r= .returned (.tuple #[.slice x.1 (gS f xs).length x.2, .int .i64 (fR f)])∧Mem w [ig x.1 x.2 (gS f xs)] w':=by
 by_cases hok:fR f=0
 case neg=>
  have hacc:gS f xs=[]:=by unfold gS;rw [ah hok]
  rw [hacc];refine aS Tryz.func100 rfl Tryz.ntmps100 rfl ?_;iterate 2 refine G ?_
  refine cd (v:= .agg _) rfl rfl fun b2=>?_;iterate 6 refine G ?_
  refine cx Kh rfl fun b6=>?_;iterate 6 refine G ?_
  refine xV G8 rfl rfl ?_;refine gV (en Tryz.call152 (nj (q0 rfl) (q0 rfl) (q0 rfl))) (fun _ w hm=>MR f a A n c _ w (hf.mem hm) hok) ?_;iterate 16 refine G ?_
  exact fV (v:= .slice _ _ _) (x:= .int _ _) rfl rfl rfl rfl fun w' hw=>⟨(none,0),rfl,(iT.2 hw.1).eX _ _ _ rfl⟩
 case pos=>
  have hacc:gS f xs=(jD f iI (setOf xs) (fu (lH f),[])).2:=by unfold gS;rw [av hok]
  rw [hacc,hok];refine aS Tryz.func100 rfl Tryz.ntmps100 rfl ?_;iterate 2 refine G ?_
  refine cd (v:= .agg _) rfl rfl fun b2=>?_;iterate 6 refine G ?_
  refine cx Kh rfl fun b6=>?_;iterate 6 refine G ?_
  refine xV G8 rfl rfl ?_;refine bZ (bR (en Tryz.call152 (nj (q0 rfl) (q0 rfl) (q0 rfl))) (fun w hw=>U5 f a A n c (lH f) xs (some (153,[.pointer (some ⟨b6,0,none⟩)])) iI (O7 b6) (fun k z=>z.length≤k) (Uh f a (lH f) b6) (fun _ _ h=>Nat.le_succ_of_le h) (z0:=[]) (x0:=(none,0)) (hw.eX _ _ _ rfl).W5 rfl (fun _ _=>rfl) (bq _) hf hx hn hok (Cd hok) hpl) rfl (fun _=>rfl) fun y=>?_);iterate 16 refine G ?_
  exact fV (v:= .slice _ _ _) (x:= .int _ _) rfl rfl rfl rfl fun w' hw=>⟨y.1.2.2,rfl,hw.pick [5] (by decide)⟩
def lQ (t:Int) (xs:List Ev):List Ev:=(setOf xs).filter fun x=>!decide (t<x.at_)
theorem countP_set {α:Type} (p:α→Bool): ∀{l:List α} {k:Nat} {x:α} (y:α),l[k]?=some x→(l.set k y).countP p+(if p x=true then 1 else 0)=l.countP p+(if p y=true then 1 else 0)
 |[],_,_,_,h=>by simp at h
 |a::l,0,x,y,h=>by
  simp at h;subst h;simp only [sM,nX];omega
 |a::l,k+1,x,y,h=>by
  have ih:=countP_set p (l:=l) (k:=k) (x:=x) y (by simpa using h);simp only [sN,nX];omega
structure LZ (tr:List Int) (sp:List Sp):Prop where
 VC: ∀(i j:Nat) x y,sp[i]?=some x→sp[j]?=some y→i≠j→x.cn=1→y.cn=1→x.place≠y.place
 UW: ∀x∈sp,x.cn=4→0≤x.place∧x.place<tr.length∧(countP sp 4 x.place:Int)≤tr.getD x.place.toNat 0
 bn: ∀x∈sp,x.bn=true→x.cn=3
section
variable {tr:List Int} {sp:List Sp}
theorem tE {k:Nat} {x y:Sp} (hx:sp[k]?=some x) (j:Nat):(sp.set k y)[j]?=if k=j then some y else sp[j]?:=by
 have:=(aa.1 hx).1;rw [bw];by_cases e:k=j
 ·subst e;simp [this]
 simp [e]
theorem LZ.set (h:LZ tr sp) {k:Nat} {x:Sp} (hx:sp[k]?=some x) (y:Sp) (h1:y.cn=1→ ∀(j:Nat) z,sp[j]?=some z→j≠k→z.cn=1→z.place≠y.place)
  (h4:y.cn=4→0≤y.place∧y.place<tr.length∧(countP sp 4 y.place:Int)+(if Em 4 y.place x=true then 0 else 1)≤tr.getD y.place.toNat 0) (hp:y.bn=true→y.cn=3):LZ tr (sp.set k y):=by
 have hc: ∀p:Int,(countP (sp.set k y) 4 p:Int)+(if Em 4 p x=true then 1 else 0)=(countP sp 4 p:Int)+(if Em 4 p y=true then 1 else 0):=fun p=>by
  have:=countP_set (Em 4 p) y hx;unfold countP;split at this<;>split at this<;>rename_i a1 a2<;>simp [a1,a2]<;>omega
 refine ⟨fun i j u v hu hv hij u1 v1=>?_,fun u hu u4=>?_,fun u hu up=>?_⟩
 ·rw [tE hx] at hu hv;split at hu
  ·rename_i e1;cases hu;rw [ah (by omega)] at hv;exact fun e=>h1 u1 j v hv (by omega) v1 e.symm
  split at hv
  ·rename_i e1 e2;cases hv;exact h1 v1 i u hu (by omega) u1
  exact h.VC i j u v hu hv hij u1 v1
 ·obtain ⟨i,hi⟩:=bC.1 hu;rw [tE hx] at hi;split at hi
  ·cases hi;obtain ⟨a1,a2,a3⟩:=h4 u4;refine ⟨a1,a2,?_⟩;have:=hc y.place;have hy:Em 4 y.place y=true:=by simp [Em,u4]
   rw [av hy] at this;split at this<;>rename_i hh<;>first|(rw [av hh] at a3;omega)|(rw [ah hh] at a3;omega)
  have hum:=an hi;obtain ⟨a1,a2,a3⟩:=h.UW u hum u4;refine ⟨a1,a2,?_⟩;have:=hc u.place;by_cases hy:Em 4 u.place y=true
  ·have hy4:y.cn=4∧y.place=u.place:=by simpa [Em] using hy
   obtain ⟨b1,b2,b3⟩:=h4 hy4.1;rw [hy4.2] at b3;rw [av hy] at this;rw [hy4.2] at b1 b2;split at this<;>rename_i hh<;>first|(rw [av hh] at b3;omega)|(rw [ah hh] at b3;omega)
  rw [ah hy] at this;split at this<;>omega
 obtain ⟨i,hi⟩:=bC.1 hu;rw [tE hx] at hi;split at hi
 ·cases hi;exact hp up
 exact h.bn u (an hi) up
end
theorem LZ.step {n:Nat} {f:Fl} {s:PS} {e:Ev} (hI:jP n s) (h:LZ f.eJ s.aK) (hn:f.eV=n) (hev:fF f e=0) (hc:dF f.eJ s e=0):LZ f.eJ (kW s e).aK:=by
 obtain ⟨_,hb,hp7,_,_⟩:=kV hev;have hk:e.bD.toNat<n:=by omega
 obtain ⟨x,hx⟩: ∃x,s.aK[e.bD.toNat]?=some x:=⟨_,aj (by rw [hI.len];exact hk)⟩;have hg:s.aK.getD e.bD.toNat default=x:=by rw [aq,hx];rfl
 unfold dF at hc;unfold kW;simp only at hc⊢;rw [hg] at hc;have hle: ∀to:Sp,(fT s e.bD.toNat to).aK=s.aK.set e.bD.toNat to:=fun _=>rfl;by_cases h1:e.kind=1
 ·rw [av h1] at hc⊢;rw [hle];refine h.set hx _ (fun _ j z hz hjk z1 hpl=>?_) (fun h4=>by simp at h4) (fun hp=>by simp at hp);split at hc
  ·cases hc
  rename_i hcc;have hpk:=qG (by decide) hc;apply hcc;simp only [hpk,Bool.not_false,sR,dd];have:0<countP s.aK 1 e.place:=List.countP_pos_iff.2 ⟨z,an hz,by simp only at hpl;simp [Em,z1,hpl]⟩;omega
 rw [ah h1] at hc⊢;by_cases h2:e.kind=2
 ·rw [av h2,hle];exact h.set hx _ (fun h1=>by simp at h1) (fun h4=>by simp at h4) (fun hp=>by simp at hp)
 rw [ah h2] at hc⊢;by_cases h3:e.kind=3
 ·rw [av h3];exact h.set hx _ (fun h1=>by simp at h1) (fun h4=>by simp at h4) (fun hp=>by simp at hp)
 rw [ah h3] at hc⊢;by_cases h4:e.kind=4
 ·rw [av h4] at hc⊢;cases hl:k9 s.open_ e.aP with
  |none=>exact h
  |some t=>
   rw [hl] at hc;simp only at hc⊢;rw [hg];split at hc
   ·cases hc
   rename_i hpk;have hpk:dK x=true:=by simpa using hpk
   obtain ⟨_,y,hy,y3,_⟩:=hI.bD _ (nh hl);simp only at hy;have hjk:t.bD.toNat≠e.bD.toNat:=fun ejk=>by rw [ejk,hx] at hy;cases hy;exact mi hpk y3
   have hxp:x.bn=false:=by
    cases hxp:x.bn with
    |false=>rfl
    |true=>exact absurd (h.bn x (an hx) hxp) (mi hpk)
   have hx4:x.cn≠4:=by unfold dK at hpk;simp at hpk;omega
   have ha:=h.set hx (⟨3,0,e.aP,false⟩:Sp) (fun h1=>by simp at h1) (fun h4=>by simp at h4) (fun hp=>by simp at hp);have hy2:(s.aK.set e.bD.toNat ⟨3,0,e.aP,false⟩)[t.bD.toNat]?=some y:=by rw [tE hx,ah (by omega)];exact hy
   have hb2:=ha.set hy2 x (fun x1 j z hz hjt z1=>?_) (fun h4=>absurd h4 hx4) (fun hp=>by rw [hxp] at hp;cases hp)
   ·rw [List.set_comm _ _ (by omega)];exact hb2
   rw [tE hx] at hz;split at hz
   ·cases hz;simp at z1
   rename_i hne;exact h.VC j _ z x hz hx (by omega) z1 x1
 rw [ah h4] at hc⊢;by_cases h5:e.kind=5∨e.kind=6
 ·rw [av h5] at hc⊢;simp only;rw [hg];split at hc
  ·cases hc
  rename_i hw;have hw':x.cn=3:=kM hw;exact h.set hx _ (fun h1=>by simp only at h1;omega) (fun h4=>by simp only at h4;omega) (fun _=>hw')
 rw [ah h5] at hc⊢;by_cases h7:e.kind=7
 ·rw [av h7] at hc⊢;rw [hle];obtain ⟨p0,p1⟩:=hp7 h7;split at hc
  ·cases hc
  rename_i hw;have hlt:=qG (by decide) hc;refine h.set hx _ (fun h1=>by simp at h1) (fun _=>⟨p0,p1,?_⟩) (fun hp=>by simp at hp);have hx4:Em 4 e.place x=false:=by
   simp at hw;simp [Em];omega
  simp only;rw [ah (by rw [hx4];decide)];have hlt:=cS hlt;omega
 rw [ah h7] at hc⊢;by_cases h8:e.kind=8
 ·rw [av h8,hle];exact h.set hx _ (fun h1=>by simp at h1) (fun h4=>by simp at h4) (fun hp=>by simp at hp)
 rw [ah h8] at hc⊢;by_cases h9:e.kind=9
 ·rw [av h9,hle];exact h.set hx _ (fun h1=>by simp at h1) (fun h4=>by simp at h4) (fun hp=>by simp at hp)
 rw [ah h9];exact h
theorem jP.alone {n:Nat} {s:PS} (h:jP n s) {i j:Nat} {x y:Sp} (hx:s.aK[i]?=some x) (hy:s.aK[j]?=some y) (x3:x.cn=3) (y3:y.cn=3) (hr:x.aP=y.aP):i=j:=by
 obtain ⟨t,ht,hb⟩:=h.spot i x hx x3;obtain ⟨u,hu,hc⟩:=h.spot j y hy y3;have:=qH h.keys ht hu hr;simp only [nO] at this;rw [this.2,hc] at hb;omega
end Go.Proofs.Cus
