import Derived.Test.YtakhechhnnjbcaaGreatBC10
import Derived.Test.YtakhechhnnjbcaaGreatBC08
import Derived.Test.YtakhechhnnjbcaaGreatBC03
import Derived.Test.YtakhechhnnjbcaaGreatBC04
import Derived.Test.YtakhechhnnjbcaaGreatTc
set_option maxRecDepth 100000
set_option maxHeartbeats 8000000
set_option linter.unusedVariables false
set_option linter.unusedSimpArgs false
namespace Go.Proofs.Cus
open Go Go.RowKit Go.Proofs.E
theorem wH {fs:Array Field} (h:Tryz.prog.underlying 252=some (.struct fs):=by exact ff):dN Tryz.prog fs [(0,1),(1,1),(2,1),(3,1)]:=by
 rw [ff] at h;cases h;intro w;kernel_rfl
theorem Vn {fs:Array Field} (h:Tryz.prog.underlying 355=some (.struct fs):=by exact FC):dN Tryz.prog fs [(0,1),(1,1),(2,1)]:=by
 rw [FC] at h;cases h;intro w;kernel_rfl
theorem D6 {fs:Array Field} (h:Tryz.prog.underlying 346=some (.struct fs):=by exact jS):dN Tryz.prog fs [(0,5),(5,1),(6,1),(7,1)]:=by
 rw [jS] at h;cases h;intro w;kernel_rfl
def Sp.cells (x:Sp):List Value:=[.int .i64 x.cn, .int .i64 x.place, .int .i64 x.aP, .bool x.bn]
def PT.cells (t:PT):List Value:=[.int .i64 t.rider, .int .i64 t.bD, .bool t.bn]
abbrev Rv (w:World) (A:Option Addr) (n:Nat) (xs:List Sp):Prop:=gJ w 4 Sp.cells A n xs
abbrev Ja (A:Option Addr) (c:Nat) (xs:List Sp):E.Item:=dR 252 4 Sp.cells A c xs
structure TS where
 aK:List Sp
 ps:List (Int×Nat×PT)
 used:List Int
def TS.open_ (t:TS):List (Int×PT):=t.ps.map fun p=>(p.1,p.2.2)
def TS.plain (t:TS):PS:=⟨t.aK,t.open_,t.used⟩
structure SA where
 sb:Nat
 q:Nat
 n:Nat
 c:Nat
 m:Nat
 u:Nat
def lN (l:List Int):List (Int×Value):=l.map fun i=>(i, .bool true)
def AS (f:Fl) (a:FA) (s:SA):List Value:=f.cells a++[.slice (some ⟨s.q,0,none⟩) s.n s.c, .map (some s.m), .map (some s.u)]
abbrev tW (f:Fl) (a:FA) (s:SA) (t:TS):List E.Item:=
 [box s.sb 346 (AS f a s),Ja (some ⟨s.q,0,none⟩) s.c t.aK,pmap s.m 355 PT.cells t.ps,kS s.u (lN t.used)]
structure IV (w:World) (f:Fl) (a:FA) (s:SA) (t:TS):Prop where
 lt:s.sb<w.heap.size
 row:mq w s.sb 0 (AS f a s)
 aK:Rv w (some ⟨s.q,0,none⟩) s.n t.aK
 open_:mR w s.m (tH t.ps)
 fQ: ∀p∈t.ps,p.2.1<w.heap.size∧mq w p.2.1 0 p.2.2.cells
 used:mR w s.u (lN t.used)
 fl:kp w f a
theorem IV.mem {w0 w:World} {L:List E.Item} {f:Fl} {a:FA} {s:SA} {t:TS} (h:IV w0 f a s t) (hm:Mem w0 L w):IV w f a s t:=
 ⟨gL h.lt hm.1.size,h.row.below h.lt hm.1,h.aK.mem hm,h.open_.mem w hm,fun p hp=>⟨gL (h.fQ p hp).1 hm.1.size,(h.fQ p hp).2.below (h.fQ p hp).1 hm.1⟩,h.used.mem w hm,h.fl.mem hm⟩
theorem GP {w:World} {b:Nat} {cs:List Value} {t:TypeId} (h:w.heap[b]?=some (.cells cs.toArray t (0,0))):b<w.heap.size∧mq w b 0 cs:=
 ⟨(cm.1 h).1,fun j u hu=>by simp [World.cell?,h,hu]⟩
theorem PO {w0 w:World} {L:List E.Item} {f:Fl} {a:FA} {s:SA} {t:TS} (hf:kp w f a) (hl:t.aK.length=s.n) (hn:s.n≤1000) (hw:Mem w0 (tW f a s t++L) w):IV w f a s t:=by
 have hsp:=cW hw (j:=1) rfl (fun _=>rfl) (by omega);rw [hl] at hsp;have h0:=GP (hw.item (k:=0) rfl);have h2:(pmap s.m 355 PT.cells t.ps).A w:=hw.item (k:=2) rfl;exact ⟨h0.1,h0.2,hsp,h2.1,fun p hp=>GP (h2.2.1 p hp),hw.item (k:=3) rfl,hf⟩
theorem uM (x:Sp) (w:World):Calls Tryz.prog 272 #[.agg x.cells.toArray] w fun e w'=>e= .returned (.bool (dK x))∧gz w w':=by
 refine aS Tryz.func272 rfl Tryz.ntmps272 rfl ?_;iterate 2 refine G ?_
 refine cd (v:= .agg _) rfl rfl fun b1=>?_;iterate 17 refine G ?_
 exact bH (v:= .bool _) rfl rfl rfl fun w' hw=>⟨rfl,hw.1⟩
theorem mz (no:Bool) (er:Int) (w:World):Calls Tryz.prog 271 #[.bool no, .int .i64 er] w fun e w'=>e= .returned (.int .i64 (refuse no er))∧gz w w':=by
 refine aS Tryz.func271 rfl Tryz.ntmps271 rfl ?_;iterate 11 refine G ?_
 refine au rfl ?_ ?_<;>intro h
 ·iterate 8 refine G ?_
  exact bH (v:= .int _ _) rfl rfl rfl fun w' hw=>⟨bP (by unfold refuse;rw [av h]),hw.1⟩
 iterate 8 refine G ?_
 exact bH (v:= .int _ _) rfl rfl rfl fun w' hw=>⟨bP (by unfold refuse;rw [ah (by rw [h];decide)]),hw.1⟩
theorem G' (l:List Sp) (wh pl:Int) (k:Nat) (x:Sp) (h:l[k]?=some x):countP (l.take (k+1)) wh pl=countP (l.take k) wh pl+(if Em wh pl x=true then 1 else 0):=by
 unfold countP;rw [iJ _ _ _ h,zZ];simp [nX]
theorem JZ {f:Fl} {a:FA} {s:SA} {t:TS} (wh pl:Int) (w:World) (h:IV w f a s t):Calls Tryz.prog 273 #[.pointer (some ⟨s.sb,0,none⟩), .int .i64 wh, .int .i64 pl] w fun e w'=>e= .returned (.int .i64 (countP t.aK wh pl))∧gz w w':=by
 have hlt:=h.lt;have hrow:=h.row;have hn:=h.aK.2.1;have hl:=h.aK.1;refine aS Tryz.func273 rfl Tryz.ntmps273 rfl ?_;iterate 22 refine G ?_
 refine ct [7,9,15,16,17,18,19,20,21,22,23,24,25,26,27,28,29,30,31] (fun k:Nat=>[(15, .int .i64 k),(7, .int .i64 (countP (t.aK.take k) wh pl))]) (fun _=>[]) (fun k=>k≤s.n∧countP (t.aK.take k) wh pl≤k) (fun k=>s.n -k) 0 ⟨rfl,rfl,trivial⟩ (fun _ h=>h) rfl ⟨aU _,bq _⟩ ?_;rintro k g ⟨hk,hc⟩;iterate 6 refine G ?_
 refine au rfl ?_ ?_<;>intro hlt2
 ·have hk2:k<s.n:=by simpa using hlt2
  obtain ⟨x,hxk,hrx⟩:=h.aK.row hk2;have hbl:s.q<w.heap.size:=by
   obtain ⟨b,off,y,hA,hbl,_,_⟩:=h.aK.at_ hk2;cases hA;exact hbl
  have hs:=G' t.aK wh pl k x hxk;iterate 6 refine G ?_
  refine bO (bt _ cq cF (q0 rfl) (q0 rfl) (fun _=>⟨rfl,by omega⟩)) ?_;refine G ?_;refine cx eY rfl fun b9=>?_;refine fI (v:= .agg _) rfl rfl cF ?_;iterate 16 refine G ?_
  refine au rfl ?_ ?_<;>intro hb
  ·have hs2:countP (t.aK.take (k+1)) wh pl=countP (t.aK.take k) wh pl+1:=by rw [hs,av (by unfold Em;exact hb)]
   iterate 11 refine G ?_
   exact ay (k+1) eE ⟨rfl,by show _=Value.int .i64 (countP (t.aK.take (k+1)) wh pl:Int);rw [hs2];rfl,trivial⟩ (fun w hw=>iT.2 hw.1) rfl ⟨by omega,by omega⟩ (by show s.n -(k+1)<s.n -k;omega)
  have hs2:countP (t.aK.take (k+1)) wh pl=countP (t.aK.take k) wh pl:=by rw [hs,ah (by unfold Em;rw [hb];decide),nF]
  iterate 7 refine G ?_
  exact ay (k+1) eE ⟨rfl,by show _=Value.int .i64 (countP (t.aK.take (k+1)) wh pl:Int);rw [hs2];rfl,trivial⟩ (fun w hw=>iT.2 hw.1) rfl ⟨by omega,by omega⟩ (by show s.n -(k+1)<s.n -k;omega)
 have hkn:k=s.n:=by simp at hlt2;omega
 iterate 12 refine G ?_
 exact bH (v:= .int _ _) rfl rfl rfl fun w' hw=>⟨bP (by rw [hkn,←hl,dp]),hw.1⟩
theorem K3 {es:List MapEntry} {ps:List (Int×Value)} (h:lL es ps):(∀e∈es,∃p∈ps,EX e p)∧(∀p∈ps,∃e∈es,EX e p):=by
 induction h with
 |nil=>exact ⟨fun _ h=>by simp at h,fun _ h=>by simp at h⟩
 |cons h1 _ ih=>
  refine ⟨fun e he=>?_,fun p hp=>?_⟩
  ·rcases bU.1 he with rfl|he
   ·exact ⟨_,bF ..,h1⟩
   obtain ⟨p,hp,hq⟩:=ih.1 e he;exact ⟨p,aB _ hp,hq⟩
  rcases bU.1 hp with rfl|hp
  ·exact ⟨_,bF ..,h1⟩
  obtain ⟨e,he,hq⟩:=ih.2 p hp;exact ⟨e,aB _ he,hq⟩
theorem Lo (es:List MapEntry) (seen:Array Nat) (e:MapEntry) (he:e∈es) (hs:seen.contains e.born=false):(es.filter fun x=>!(seen.push e.born).contains x.born).length<(es.filter fun x=>!seen.contains x.born).length:=by
 have hsub: ∀x:MapEntry,(!(seen.push e.born).contains x.born)=true→(!seen.contains x.born)=true:=fun x hx=>by
  simp at hx⊢;exact hx.1
 have key: ∀l:List MapEntry,e∈l→(l.filter fun x=>!(seen.push e.born).contains x.born).length<(l.filter fun x=>!seen.contains x.born).length:=by
  intro l
  induction l with
  |nil=>intro h;cases h
  |cons y l ih=>
   intro hm;have hle: ∀l:List MapEntry,(l.filter fun x=>!(seen.push e.born).contains x.born).length≤(l.filter fun x=>!seen.contains x.born).length:=by
    intro l
    induction l with
    |nil=>simp
    |cons z l ih2=>
     simp only [jI];split
     ·rename_i h;rw [av (hsub z h)];simp only [bB];omega
     split
     ·simp only [bB];omega
     exact ih2
   rcases bU.1 hm with rfl|hm
   ·simp only [jI];rw [ah (by simp),av (by simpa using hs)];have:=hle l;simp only [bB];omega
   have:=ih hm;simp only [jI];split
   ·rename_i h;rw [av (hsub y h)];simp only [bB];omega
   split
   ·simp only [bB];omega
   exact this
 exact key es he
theorem born_inj {es:List MapEntry} {clock:Nat} (h:lV es clock) {x y:MapEntry} (hx:x∈es) (hy:y∈es) (he:x.born=y.born):x=y:=by
 obtain ⟨i,hi,rfl⟩:=nP hx;obtain ⟨j,hj,rfl⟩:=nP hy;have:=bj.1 h.Ka;rcases jQ i j with h1|h1|h1
 ·have:=this i j hi hj h1;omega
 ·subst h1;rfl
 have:=this j i hj hi h1;omega
theorem BL {f:Fl} {a:FA} {s:SA} {t:TS} (rider:Int) (w:World) (h:IV w f a s t):Calls Tryz.prog 274 #[.pointer (some ⟨s.sb,0,none⟩), .int .i64 rider] w fun e w'=>e= .returned (.bool (mW t.open_ rider))∧gz w w':=by
 have hlt:=h.lt;have hrow:=h.row;obtain ⟨es,clock,hmap,hpairs,hB⟩:=h.open_;have hmlt:s.m<w.heap.size:=(cm.1 hmap).1;have hmm: ∀(L:List E.Item) w',Mem w L w'→w'.heap[s.m]?=some (.map es clock):=fun L w' hw=>(hw.1.block s.m hmlt).trans hmap;obtain ⟨hp1,hp2⟩:=K3 hpairs;refine aS Tryz.func274 rfl Tryz.ntmps274 rfl ?_;iterate 12 refine G ?_
 refine bZ (Fe nt (hmm _) rfl rfl fun r=>?_);iterate 3 refine G ?_
 refine ct [4,6,12,13,14,15,16,17,18,19,20,21] (fun _:Array Nat=>[]) (fun seen=>[Nl r s.m clock seen clock]) (fun seen=> ∀e∈es.toList,seen.contains e.born=true→ ∀b tr,(e.val= .pointer (some ⟨b,0,none⟩))→(∃k,(k,b,tr)∈t.ps)→tr.rider≠rider) (fun seen=>(es.toList.filter fun x=>!seen.contains x.born).length) #[] trivial (fun _ h=>h) rfl (fun e _ hc=>by simp at hc) ?_;rintro seen g hinv;iterate 2 refine G ?_
 refine bZ (IB 0 (hmm _) hB rfl rfl (bq _) rfl (fun hall=>?_) (fun e he hs=>?_))
 ·iterate 4 refine G ?_
  refine au rfl ?_ ?_<;>intro hb
  ·cases hb
  iterate 11 refine G ?_
  exact bH (v:= .bool _) rfl rfl rfl fun w' hw=>⟨fK (by
   unfold mW TS.open_;rw [UI,jf];intro p hp;obtain ⟨q,hq,rfl⟩:=bJ.1 hp;obtain ⟨e,he,hk,hv⟩:=hp2 (q.1, .pointer (some ⟨q.2.1,0,none⟩)) (bJ.2 ⟨q,hq,rfl⟩);simpa using hinv e he (hall e he) q.2.1 q.2.2 hv ⟨q.1,hq⟩),hw.1⟩
 obtain ⟨pv,hpv,hk,hv⟩:=hp1 e he;obtain ⟨q,hq,rfl⟩:=bJ.1 hpv;obtain ⟨ek,ev',eb⟩:=e;simp only at hv;subst hv;obtain ⟨hql,hqr⟩:=h.fQ q hq;iterate 4 refine G ?_
 refine au rfl ?_ ?_<;>intro hb
 ·iterate 5 refine G ?_
  refine bO (Fk 0 (hmm _) hB he (q0 rfl) rfl) ?_;iterate 14 refine G ?_
  refine au rfl ?_ ?_<;>intro hrd
  ·iterate 10 refine G ?_
   exact bH (v:= .bool _) rfl rfl rfl fun w' hw=>⟨fK (by
    unfold mW TS.open_;rw [UI,cY];exact ⟨(q.1,q.2.2),bJ.2 ⟨q,hq,rfl⟩,hrd⟩),hw.1⟩
  iterate 2 refine G ?_
  exact ay (seen.push eb) eE trivial (fun _ h=>h) rfl (fun e' he' hc b tr hb' ⟨k,hk'⟩=>by
   by_cases hs':seen.contains e'.born=true
   ·exact hinv e' he' hs' b tr hb' ⟨k,hk'⟩
   have hbe:e'.born=eb:=by simp at hc hs';exact hc.resolve_left hs'
   have:=born_inj hB he' he hbe;subst this;simp only [Value.pointer.injEq,eQ,Addr.mk.injEq,Mc] at hb';subst hb';have h1:=(h.fQ _ hk').2 0 (.int .i64 tr.rider) rfl;have h2:=hqr 0 (.int .i64 q.2.2.rider) rfl;rw [h1] at h2;simp only [eQ,Value.int.injEq,true_and] at h2;rw [h2];simpa using hrd) (Lo es.toList seen ⟨ek,_,eb⟩ he hs)
 cases hb
def nZ (ps:List (Int×Nat×PT)) (key:Int):Option Addr:=(ps.find? fun p=>p.1==key).map fun p=>⟨p.2.1,0,none⟩
theorem BV (ps:List (Int×Nat×PT)) (key:Int):(ju (tH ps) key).getD (.pointer none)= .pointer (nZ ps key):=by
 rw [KX];unfold nZ;cases ps.find? (fun p=>p.1==key)<;>rfl
theorem Ms (l:List Int) (key:Int):(ju (lN l) key).getD (.bool false)= .bool (oX l key):=by
 unfold ju lN oX
 induction l with
 |nil=>rfl
 |cons x l ih=>
  by_cases hx:x=key
  ·simp [hx]
  simp only [cI,Df];rw [gH (by simpa using hx),ih];simp [hx]
theorem Cj (ps:List (Int×Nat×PT)) (used:List Int) (sp:List Sp) (key:Int):k9 (TS.mk sp ps used).open_ key=(ps.find? fun p=>p.1==key).map fun p=>p.2.2:=by
 unfold k9 TS.open_
 induction ps with
 |nil=>rfl
 |cons p ps ih=>
  by_cases hx:p.1==key
  ·simp [hx]
  simp only [cI] at ih⊢;rw [gH (by simpa using hx),gH (by simpa using hx)];exact ih
theorem Xb {tr:List Int} {s:PS} {e:Ev} {x:Sp} (h:e.kind=1) (hx:s.aK.getD e.bD.toNat default=x):dF tr s e=if (!dK x&&decide (0<(countP s.aK 1 e.place:Int)))=true then 22 else refuse (dK x) 23:=by
 subst hx;unfold dF;simp only;rw [av h]
theorem ck2 {tr:List Int} {s:PS} {e:Ev} {x:Sp} (h:e.kind=2) (hx:s.aK.getD e.bD.toNat default=x):dF tr s e=refuse (dK x) 23:=by
 subst hx;unfold dF;simp only;rw [ah (by omega),av h]
theorem V6 {tr:List Int} {s:PS} {e:Ev} {x:Sp} (h:e.kind=3) (hx:s.aK.getD e.bD.toNat default=x):dF tr s e=if dK x=false then 23 else if oX s.used e.aP=true then 6 else refuse (mW s.open_ e.rider) 22:=by
 subst hx;unfold dF;simp only;rw [ah (by omega),ah (by omega),av h]
theorem Xa {tr:List Int} {s:PS} {e:Ev} {x:Sp} (h:e.kind=4) (hx:s.aK.getD e.bD.toNat default=x):dF tr s e=match k9 s.open_ e.aP with|none=>7|some t=>if dK x=false then 23 else refuse t.bn 12:=by
 subst hx;unfold dF;simp only;rw [ah (by omega),ah (by omega),ah (by omega),av h];rfl
theorem VN {tr:List Int} {s:PS} {e:Ev} {x:Sp} (h:e.kind=5∨e.kind=6) (hx:s.aK.getD e.bD.toNat default=x):dF tr s e=if x.cn≠3 then 23 else refuse (x.bn==decide (e.kind=5)) 12:=by
 subst hx;unfold dF;simp only;rw [ah (by omega),ah (by omega),ah (by omega),ah (by omega),av h]
theorem W9 {tr:List Int} {s:PS} {e:Ev} {x:Sp} (h:e.kind=7) (hx:s.aK.getD e.bD.toNat default=x):dF tr s e=if (decide (x.cn=3)||decide (x.cn=4))=true then 23 else refuse (decide (tr.getD e.place.toNat 0≤(countP s.aK 4 e.place:Int))) 24:=by
 subst hx;unfold dF;simp only;rw [ah (by omega),ah (by omega),ah (by omega),ah (by omega),ah (by omega),av h]
theorem ck8 {tr:List Int} {s:PS} {e:Ev} {x:Sp} (h:e.kind=8) (hx:s.aK.getD e.bD.toNat default=x):dF tr s e=refuse (decide (x.cn=3)||decide (x.cn=5)) 23:=by
 subst hx;unfold dF;simp only;rw [ah (by omega),ah (by omega),ah (by omega),ah (by omega),ah (by omega),ah (by omega),av h]
theorem ck9 {tr:List Int} {s:PS} {e:Ev} {x:Sp} (h:e.kind=9) (hx:s.aK.getD e.bD.toNat default=x):dF tr s e=refuse (decide (x.cn=5)||decide (x.cn=6)) 23:=by
 subst hx;unfold dF;simp only;rw [ah (by omega),ah (by omega),ah (by omega),ah (by omega),ah (by omega),ah (by omega),ah (by omega),av h]
theorem ck0 {tr:List Int} {s:PS} {e:Ev} (h:e.kind<1∨9<e.kind):dF tr s e=0:=by
 unfold dF;simp only;rw [ah (by omega),ah (by omega),ah (by omega),ah (by omega),ah (by omega),ah (by omega),ah (by omega),ah (by omega)]
attribute [local irreducible] dK countP refuse mW oX nZ
theorem MN {f:Fl} {a:FA} {s:SA} {t:TS} (e:Ev) (w:World) (h:IV w f a s t) (hbike:0≤e.bD∧e.bD<s.n) (hpl:e.kind=7→0≤e.place∧e.place<f.eJ.length):
  Calls Tryz.prog 205 #[.pointer (some ⟨s.sb,0,none⟩), .agg e.cells.toArray] w fun r w'=>r= .returned (.int .i64 (dF f.eJ t.plain e))∧gz w w':=by
 have hlt:=h.lt;have hrow:=h.row;obtain ⟨k,hk⟩: ∃k:Nat,e.bD=k:=⟨e.bD.toNat,by omega⟩;have hkn:k<s.n:=by omega
 obtain ⟨x,hxk,hrx⟩:=h.aK.row hkn;have hq:s.q<w.heap.size:=by
  obtain ⟨b,off,y,hA,hbl,_,_⟩:=h.aK.at_ hkn;cases hA;exact hbl
 have hx:t.plain.aK.getD e.bD.toNat default=x:=by
  rw [hk,aM,aq];show (t.aK[k]?).getD default=x;rw [hxk];rfl
 have hopen: ∀key,k9 t.plain.open_ key=(t.ps.find? fun p=>p.1==key).map fun p=>p.2.2:=fun key=>Cj t.ps t.used t.aK key;refine aS Tryz.func205 rfl Tryz.ntmps205 rfl ?_;iterate 2 refine G ?_
 refine cd (v:= .agg _) rfl rfl fun b3=>?_;iterate 4 refine G ?_
 refine AQ ?_;refine aW 0 ?_;refine aW 1 ?_;refine aW 2 ?_;refine aW 3 ?_;refine aW 4 ?_;refine aW 5 ?_;refine iQ 6 rfl (bt k cq cF (q0 rfl) (q0 rfl) (fun _=>⟨hk,hkn⟩)) ?_;refine aW 7 ?_;refine r1 8 0 ?_;refine aL rfl (lX eY rfl fun b5=>?_);refine r1 9 1 ?_;refine aL rfl (kU (v:= .agg _) rfl rfl cF ?_);refine jz 1 ?_;iterate 2 refine G ?_
 refine tB ?_;iterate 6 refine G ?_
 refine bO (Bb nt aG HF (q0 rfl) (q0 rfl) (h.open_.mem) (fun _=>BV t.ps e.aP)) ?_;iterate 40 refine G ?_
 refine au rfl ?_ ?_<;>intro h1
 ·have hk1:e.kind=1:=by simpa using h1
  iterate 8 refine G ?_
  refine gV (en Bi (il (q0 rfl))) (fun _ w _=>uM x w) ?_;iterate 5 refine G ?_
  refine EB (en Tryz.call273 (nj (q1 (v:= .pointer _) rfl) (q0 rfl) (q1 (v:= .int _ _) rfl))) (fun _ w hm=>JZ 1 e.place w (h.mem hm)) rfl rfl rfl rfl ?_;iterate 4 refine G ?_
  refine au rfl ?_ ?_<;>intro hb
  ·iterate 22 refine G ?_
   exact bH (v:= .int _ _) rfl rfl rfl fun w' hw=>⟨bP (by rw [Xb hk1 hx];exact (av hb).symm),hw.1⟩
  iterate 8 refine G ?_
  refine gV (en Bi (il (q0 rfl))) (fun _ w _=>uM x w) ?_;refine gV (wK nV (q0 rfl) (fun _=>rfl)) (fun _ w _=>mz (dK x) 23 w) ?_;iterate 19 refine G ?_
  exact bH (v:= .int _ _) rfl rfl rfl fun w' hw=>⟨bP (by rw [Xb hk1 hx];exact (ah (show ¬(!dK x&&decide (0<(countP t.aK 1 e.place:Int)))=true by rw [hb];decide)).symm),hw.1⟩
 iterate 9 refine G ?_
 refine au rfl ?_ ?_<;>intro h2
 ·have hk2:e.kind=2:=by simpa using h2
  iterate 12 refine G ?_
  refine gV (en Bi (il (q0 rfl))) (fun _ w _=>uM x w) ?_;refine gV (wK nV (q0 rfl) (fun _=>rfl)) (fun _ w _=>mz (dK x) 23 w) ?_;iterate 19 refine G ?_
  exact bH (v:= .int _ _) rfl rfl rfl fun w' hw=>⟨bP (ck2 hk2 hx).symm,hw.1⟩
 iterate 9 refine G ?_
 refine au rfl ?_ ?_<;>intro h3
 ·have hk3:e.kind=3:=by simpa using h3
  iterate 15 refine G ?_
  refine gV (en Bi (il (q0 rfl))) (fun _ w _=>uM x w) ?_;iterate 4 refine G ?_
  refine au rfl ?_ ?_<;>intro hb
  ·iterate 21 refine G ?_
   exact bH (v:= .int _ _) rfl rfl rfl fun w' hw=>⟨bP (by rw [V6 hk3 hx];exact (av (by simpa using hb)).symm),hw.1⟩
  refine G ?_;refine tB ?_;iterate 6 refine G ?_
  refine bO (Bb iq aG gK (q0 rfl) (q0 rfl) (h.used.mem) (fun _=>Ms t.used e.aP)) ?_;iterate 3 refine G ?_
  refine au rfl ?_ ?_<;>intro hu
  ·iterate 21 refine G ?_
   exact bH (v:= .int _ _) rfl rfl rfl fun w' hw=>⟨bP (by rw [V6 hk3 hx,ah (by simpa using hb)];exact (av hu).symm),hw.1⟩
  iterate 9 refine G ?_
  refine gV (en Tryz.call274 (gr (q0 rfl) (q0 rfl))) (fun _ w hm=>BL e.rider w (h.mem hm)) ?_;refine gV (wK nV (q0 rfl) (fun _=>rfl)) (fun _ w _=>mz (mW t.open_ e.rider) 22 w) ?_;iterate 17 refine G ?_
  exact bH (v:= .int _ _) rfl rfl rfl fun w' hw=>⟨bP (by rw [V6 hk3 hx,ah (by simpa using hb)];exact (ah (show ¬oX t.used e.aP=true by rw [hu];decide)).symm),hw.1⟩
 iterate 9 refine G ?_
 refine au rfl ?_ ?_<;>intro h4
 ·have hk4:e.kind=4:=by simpa using h4
  have hck:=Xa (tr:=f.eJ) hk4 hx;rw [hopen] at hck;iterate 17 refine G ?_
  refine bO (gj Tryz.underlying351 (q0 rfl)) ?_;iterate 3 refine G ?_
  refine au rfl ?_ ?_<;>intro hn
  ·have hnone:t.ps.find? (fun p=>p.1==e.aP)=none:=by
    unfold nZ at hn;cases hf:t.ps.find? (fun p=>p.1==e.aP) with
    |none=>rfl
    |some p=>rw [hf] at hn;cases hn
   rw [hnone] at hck;iterate 19 refine G ?_
   exact bH (v:= .int _ _) rfl rfl rfl fun w' hw=>⟨bP hck.symm,hw.1⟩
  obtain ⟨p,hf⟩: ∃p,t.ps.find? (fun p=>p.1==e.aP)=some p:=by
   unfold nZ at hn;cases hf:t.ps.find? (fun p=>p.1==e.aP) with
   |none=>rw [hf] at hn;cases hn
   |some p=>exact ⟨p,rfl⟩
  have hptr:nZ t.ps e.aP=some ⟨p.2.1,0,none⟩:=by unfold nZ;rw [hf];rfl
  rw [hf] at hck;rw [hptr];obtain ⟨hql,hqr⟩:=h.fQ p (gB hf);iterate 3 refine G ?_
  refine gV (en Bi (il (q0 rfl))) (fun _ w _=>uM x w) ?_;iterate 4 refine G ?_
  refine au rfl ?_ ?_<;>intro hb
  ·iterate 19 refine G ?_
   exact bH (v:= .int _ _) rfl rfl rfl fun w' hw=>⟨bP (by rw [hck];exact (av (by simpa using hb)).symm),hw.1⟩
  iterate 10 refine G ?_
  refine gV (wK nV (q0 rfl) (fun _=>rfl)) (fun _ w _=>mz (p.2.2.bn) 12 w) ?_;iterate 15 refine G ?_
  exact bH (v:= .int _ _) rfl rfl rfl fun w' hw=>⟨bP (by rw [hck];exact (ah (by simpa using hb)).symm),hw.1⟩
 iterate 10 refine G ?_
 refine au rfl ?_ ?_<;>intro h5
 ·have hk56:e.kind=5∨e.kind=6:= .inl (by simpa using h5);iterate 2 refine G ?_
  refine au rfl ?_ ?_<;>intro h5b
  ·iterate 22 refine G ?_
   refine au rfl ?_ ?_<;>intro hb
   ·iterate 16 refine G ?_
    exact bH (v:= .int _ _) rfl rfl rfl fun w' hw=>⟨bP (by rw [VN hk56 hx];exact (av (by simpa using hb)).symm),hw.1⟩
   iterate 10 refine G ?_
   refine bO (Sn iL (q0 rfl) (q0 rfl)) ?_;refine gV (wK nV (q0 rfl) (fun _=>rfl)) (fun _ w _=>mz (x.bn==decide (e.kind=5)) 12 w) ?_;iterate 13 refine G ?_
   exact bH (v:= .int _ _) rfl rfl rfl fun w' hw=>⟨bP (by rw [VN hk56 hx];exact (ah (by simpa using hb)).symm),hw.1⟩
  rw [h5] at h5b;cases h5b
 iterate 5 refine G ?_
 refine au rfl ?_ ?_<;>intro h6
 ·have hk56:e.kind=5∨e.kind=6:= .inr (by simpa using h6);iterate 22 refine G ?_
  refine au rfl ?_ ?_<;>intro hb
  ·iterate 16 refine G ?_
   exact bH (v:= .int _ _) rfl rfl rfl fun w' hw=>⟨bP (by rw [VN hk56 hx];exact (av (by simpa using hb)).symm),hw.1⟩
  iterate 10 refine G ?_
  refine bO (Sn iL (q0 rfl) (q0 rfl)) ?_;refine gV (wK nV (q0 rfl) (fun _=>rfl)) (fun _ w _=>mz (x.bn==decide (e.kind=5)) 12 w) ?_;iterate 13 refine G ?_
  exact bH (v:= .int _ _) rfl rfl rfl fun w' hw=>⟨bP (by rw [VN hk56 hx];exact (ah (by simpa using hb)).symm),hw.1⟩
 iterate 9 refine G ?_
 refine au rfl ?_ ?_<;>intro h7
 ·have hk7:e.kind=7:=by simpa using h7
  obtain ⟨hp0,hpn⟩:=hpl hk7;obtain ⟨pk,hpk⟩: ∃k:Nat,e.place=k:=⟨e.place.toNat,by omega⟩;have htl:=h.fl.eJ.1;have hpt:pk<a.tn:=by omega
  obtain ⟨tb,toff,tx,htA,htb,htx,htr⟩:=h.fl.eJ.at_ hpt;have hgd:f.eJ.getD e.place.toNat 0=tx:=by
   rw [hpk,aM,aq,htx];rfl
  iterate 29 refine G ?_
  refine au rfl ?_ ?_<;>intro hb
  ·iterate 14 refine G ?_
   exact bH (v:= .int _ _) rfl rfl rfl fun w' hw=>⟨bP (by rw [W9 hk7 hx];exact (av hb).symm),hw.1⟩
  iterate 3 refine G ?_
  refine tB ?_;iterate 4 refine G ?_
  refine gV (en Tryz.call273 (nj (q0 rfl) (q0 rfl) (q0 rfl))) (fun _ w hm=>JZ 4 e.place w (h.mem hm)) ?_;iterate 4 refine G ?_
  refine bO (ea (v:= .slice (some ⟨tb,toff,none⟩) a.tn a.tc) js (q0 rfl) (rc (j:=4) hrow hlt (by show some (Value.slice a.tA a.tn a.tc)=_;rw [htA]))) ?_;iterate 2 refine G ?_
  refine bO (bt pk ak ax (q0 rfl) (q0 rfl) (fun _=>⟨hpk,hpt⟩)) ?_;iterate 2 refine G ?_
  refine gV (wK nV (q0 rfl) (fun _=>rfl)) (fun _ w _=>mz (decide (tx≤(countP t.aK 4 e.place:Int))) 24 w) ?_;iterate 11 refine G ?_
  exact bH (v:= .int _ _) rfl rfl rfl fun w' hw=>⟨bP (by rw [W9 hk7 hx,hgd];exact (ah (by rw [hb];decide)).symm),hw.1⟩
 iterate 9 refine G ?_
 refine au rfl ?_ ?_<;>intro h8
 ·have hk8:e.kind=8:=by simpa using h8
  iterate 29 refine G ?_
  refine gV (wK nV (q0 rfl) (fun _=>rfl)) (fun _ w _=>mz (decide (x.cn=3)||decide (x.cn=5)) 23 w) ?_;iterate 9 refine G ?_
  exact bH (v:= .int _ _) rfl rfl rfl fun w' hw=>⟨bP (ck8 hk8 hx).symm,hw.1⟩
 iterate 8 refine G ?_
 refine au rfl ?_ ?_<;>intro h9
 ·have hk9:e.kind=9:=by simpa using h9
  iterate 30 refine G ?_
  refine gV (wK nV (q0 rfl) (fun _=>rfl)) (fun _ w _=>mz (decide (x.cn=5)||decide (x.cn=6)) 23 w) ?_;iterate 7 refine G ?_
  exact bH (v:= .int _ _) rfl rfl rfl fun w' hw=>⟨bP (ck9 hk9 hx).symm,hw.1⟩
 iterate 27 refine G ?_
 exact bH (v:= .int _ _) rfl rfl rfl fun w' hw=>⟨bP (ck0 (by simp at h1 h2 h3 h4 h5 h6 h7 h8 h9;omega)).symm,hw.1⟩
end Go.Proofs.Cus
namespace Go.Proofs.Cus
open Go Go.RowKit Go.Proofs.E
def Af:Sp:=⟨5,0,0,false⟩
def tT:Sp:=⟨0,0,0,false⟩
def OQ (n:Nat):TS:=⟨List.replicate n Af,[],[]⟩
theorem ER (k n:Nat) (h:k<n):(List.replicate k Af++List.replicate (n -k) tT).set k Af=List.replicate (k+1) Af++List.replicate (n -(k+1)) tT:=by
 rw [ib _ _ (by simp),show n -k=(n -(k+1))+1 by omega,rI,me,fy,sM,HJ,cP];rfl
theorem ES (k n:Nat) (h:k<n):(List.replicate k Af++List.replicate (n -k) tT)[k]?=some tT:=by
 rw [cy (by simp),me,fy,gp,av (by omega)]
theorem Fs (f:Fl) (a:FA) (n:Nat) (hn:f.eV=n) (hn1:n≤1000) (w:World):Calls Tryz.prog 203 #[.agg (f.cells a).toArray] w fun e w'=> ∃x:{x:SA//x.n=n},e= .returned (.pointer (some ⟨x.1.sb,0,none⟩))∧Mem w (tW f a x.1 (OQ n)) w':=by
 refine aS Tryz.func203 rfl Tryz.ntmps203 rfl ?_;iterate 2 refine G ?_
 refine cd (v:= .agg _) rfl rfl fun b1=>?_;iterate 4 refine G ?_
 refine jK [3,5,6,7,8,9,10,11,12] (fun x:SA=>[(3, .pointer (some ⟨x.sb,0,none⟩))]) (fun x=>[box x.sb 346 (AS f a x),Ja (some ⟨x.q,0,none⟩) x.c (List.replicate n tT),pmap x.m 355 PT.cells [],kS x.u [],box b1 24 (f.cells a)]) (fun x=>x.n=n) ?_ ?_
 ·refine AQ ?_;refine aW 0 ?_;refine aW 1 ?_;refine aW 2 ?_;refine P7 (i:=3) (j:=4) (k:=5) (by decide+kernel) (bK 0) ?_ ?_ ?_
  ·refine aL rfl (jZ (i:=Tryz.t252) (k:=4) (n:=n) (m:=n) Sp.cells tT cq (by kernel_rfl) rfl rfl rfl (by show Value.int .i64 f.eV=_;rw [hn]) (by show Value.int .i64 f.eV=_;rw [hn]) ⟨⟨bq _,by omega⟩,by decide⟩ rfl fun b8=>?_);refine kY (i:=4) (j:=5) (by decide+kernel) (bK 1) ?_ ?_
   ·refine aL rfl (rq 355 PT.cells rfl fun b9=>?_);refine aI 1 ?_;refine r1 5 2 ?_;refine aL rfl (lO rfl fun b10=>?_);refine aI 2 ?_;refine iQ 6 rfl (bS jS D6 oD (pt (v:= .agg _) rfl (pt (v:= .slice _ _ _) rfl (pt (v:= .map _) rfl (pt (v:= .map _) rfl E.p0)))) rfl) ?_;refine r1 7 3 ?_;refine aL rfl (mo (v:= .agg _) rfl rfl fun b12=>?_);refine aI 3 ?_;refine xw (bK 4) ?_;refine aW 8 ?_;refine jz 0 ?_;exact aO (⟨b12,b8,n,n,b9,b10⟩:SA) eE ⟨rfl,trivial⟩ (fun w hw=>hw.pick [3,0,1,2,4] (by decide)) rfl rfl
   refine aL rfl (lO rfl fun b10=>?_);refine aI 1 ?_;refine r1 4 2 ?_;refine aL rfl (rq 355 PT.cells rfl fun b9=>?_);refine aI 1 ?_;refine iQ 6 rfl (bS jS D6 oD (pt (v:= .agg _) rfl (pt (v:= .slice _ _ _) rfl (pt (v:= .map _) rfl (pt (v:= .map _) rfl E.p0)))) rfl) ?_;refine r1 7 3 ?_;refine aL rfl (mo (v:= .agg _) rfl rfl fun b12=>?_);refine aI 3 ?_;refine xw (bK 4) ?_;refine aW 8 ?_;refine jz 0 ?_;exact aO (⟨b12,b8,n,n,b9,b10⟩:SA) eE ⟨rfl,trivial⟩ (fun w hw=>hw.pick [3,0,1,2,4] (by decide)) rfl rfl
  ·refine aL rfl (rq 355 PT.cells rfl fun b9=>?_);refine kY (i:=3) (j:=5) (by decide+kernel) (bK 1) ?_ ?_
   ·refine aL rfl (jZ (i:=Tryz.t252) (k:=4) (n:=n) (m:=n) Sp.cells tT cq (by kernel_rfl) rfl rfl rfl (by show Value.int .i64 f.eV=_;rw [hn]) (by show Value.int .i64 f.eV=_;rw [hn]) ⟨⟨bq _,by omega⟩,by decide⟩ rfl fun b8=>?_);refine r1 5 2 ?_;refine aL rfl (lO rfl fun b10=>?_);refine aI 2 ?_;refine iQ 6 rfl (bS jS D6 oD (pt (v:= .agg _) rfl (pt (v:= .slice _ _ _) rfl (pt (v:= .map _) rfl (pt (v:= .map _) rfl E.p0)))) rfl) ?_;refine r1 7 3 ?_;refine aL rfl (mo (v:= .agg _) rfl rfl fun b12=>?_);refine aI 3 ?_;refine xw (bK 4) ?_;refine aW 8 ?_;refine jz 0 ?_;exact aO (⟨b12,b8,n,n,b9,b10⟩:SA) eE ⟨rfl,trivial⟩ (fun w hw=>hw.pick [3,0,1,2,4] (by decide)) rfl rfl
   refine aL rfl (lO rfl fun b10=>?_);refine aI 1 ?_;refine r1 3 2 ?_;refine aL rfl (jZ (i:=Tryz.t252) (k:=4) (n:=n) (m:=n) Sp.cells tT cq (by kernel_rfl) rfl rfl rfl (by show Value.int .i64 f.eV=_;rw [hn]) (by show Value.int .i64 f.eV=_;rw [hn]) ⟨⟨bq _,by omega⟩,by decide⟩ rfl fun b8=>?_);refine iQ 6 rfl (bS jS D6 oD (pt (v:= .agg _) rfl (pt (v:= .slice _ _ _) rfl (pt (v:= .map _) rfl (pt (v:= .map _) rfl E.p0)))) rfl) ?_;refine r1 7 3 ?_;refine aL rfl (mo (v:= .agg _) rfl rfl fun b12=>?_);refine aI 3 ?_;refine xw (bK 4) ?_;refine aW 8 ?_;refine jz 0 ?_;exact aO (⟨b12,b8,n,n,b9,b10⟩:SA) eE ⟨rfl,trivial⟩ (fun w hw=>hw.pick [3,0,1,2,4] (by decide)) rfl rfl
  refine aL rfl (lO rfl fun b10=>?_);refine kY (i:=3) (j:=4) (by decide+kernel) (bK 1) ?_ ?_
  ·refine aL rfl (jZ (i:=Tryz.t252) (k:=4) (n:=n) (m:=n) Sp.cells tT cq (by kernel_rfl) rfl rfl rfl (by show Value.int .i64 f.eV=_;rw [hn]) (by show Value.int .i64 f.eV=_;rw [hn]) ⟨⟨bq _,by omega⟩,by decide⟩ rfl fun b8=>?_);refine r1 4 2 ?_;refine aL rfl (rq 355 PT.cells rfl fun b9=>?_);refine aI 1 ?_;refine iQ 6 rfl (bS jS D6 oD (pt (v:= .agg _) rfl (pt (v:= .slice _ _ _) rfl (pt (v:= .map _) rfl (pt (v:= .map _) rfl E.p0)))) rfl) ?_;refine r1 7 3 ?_;refine aL rfl (mo (v:= .agg _) rfl rfl fun b12=>?_);refine aI 3 ?_;refine xw (bK 4) ?_;refine aW 8 ?_;refine jz 0 ?_;exact aO (⟨b12,b8,n,n,b9,b10⟩:SA) eE ⟨rfl,trivial⟩ (fun w hw=>hw.pick [3,0,1,2,4] (by decide)) rfl rfl
  refine aL rfl (rq 355 PT.cells rfl fun b9=>?_);refine r1 3 2 ?_;refine aL rfl (jZ (i:=Tryz.t252) (k:=4) (n:=n) (m:=n) Sp.cells tT cq (by kernel_rfl) rfl rfl rfl (by show Value.int .i64 f.eV=_;rw [hn]) (by show Value.int .i64 f.eV=_;rw [hn]) ⟨⟨bq _,by omega⟩,by decide⟩ rfl fun b8=>?_);refine iQ 6 rfl (bS jS D6 oD (pt (v:= .agg _) rfl (pt (v:= .slice _ _ _) rfl (pt (v:= .map _) rfl (pt (v:= .map _) rfl E.p0)))) rfl) ?_;refine r1 7 3 ?_;refine aL rfl (mo (v:= .agg _) rfl rfl fun b12=>?_);refine aI 3 ?_;refine xw (bK 4) ?_;refine aW 8 ?_;refine jz 0 ?_;exact aO (⟨b12,b8,n,n,b9,b10⟩:SA) eE ⟨rfl,trivial⟩ (fun w hw=>hw.pick [3,0,1,2,4] (by decide)) rfl rfl
 intro x g hxn;iterate 13 refine G ?_
 refine ct [4,18,19,20,21,22,23,24,25,26,27,28] (fun k:Nat=>[(18, .int .i64 k)]) (fun k=>[box x.sb 346 (AS f a x),Ja (some ⟨x.q,0,none⟩) x.c (List.replicate k Af++List.replicate (n -k) tT),pmap x.m 355 PT.cells [],kS x.u [],box b1 24 (f.cells a)]) (fun k=>k≤n) (fun k=>n -k) 0 ⟨rfl,trivial⟩ (fun _ h=>by simpa using h) rfl (aU _) ?_;rintro k g2 hk;iterate 6 refine G ?_
 refine au rfl ?_ ?_<;>intro hlt
 ·have hlt':k<n:=by simp at hlt;omega
  have hget:=ES k n hlt';iterate 16 refine G ?_
  refine bO (bt _ cq cF (q0 rfl) (q0 rfl) (fun _=>⟨rfl,by omega⟩)) ?_;refine G ?_;refine bZ (jn 1 (off:=0) Af rfl rfl ax rfl rfl rfl hget rfl rfl ?_);iterate 7 refine G ?_
  exact ay (k+1) eE ⟨rfl,trivial⟩ (fun w hw=>by show Mem _ [_,Ja _ _ (List.replicate (k+1) Af++List.replicate (n -(k+1)) tT),_,_,_] w;rw [←ER k n hlt'];exact hw) rfl (by show k+1≤n;omega) (by show n -(k+1)<n -k;omega)
 have hkn:k=n:=by simp at hlt;omega
 subst hkn;iterate 12 refine G ?_
 exact bH (v:= .pointer _) rfl rfl rfl fun w' hw=>⟨⟨x,hxn⟩,rfl,by have:=hw.pick [0,1,2,3] (by decide);simp only [fy,Ko,cz] at this;exact this⟩
def Cp (t:TS) (k:Nat) (to:Sp):TS:=
 {t with ps:=if (t.aK.getD k default).cn=3 then t.ps.eraseP (fun p=>p.1==(t.aK.getD k default).aP) else t.ps,aK:=t.aK.set k to}
theorem qx {f:Fl} {a:FA} {s:SA} {t:TS} {w0 w:World} {L:List E.Item} (hw:Mem w0 (tW f a s t++L) w) (hmk:marks L=[]) (hl:t.aK.length=s.n) (k:Nat) (hk:k<s.n) (to:Sp):
  Calls Tryz.prog 275 #[.pointer (some ⟨s.sb,0,none⟩), .int .i64 k, .agg to.cells.toArray] w fun e w'=> ∃_:Unit,e= .returned (.tuple #[])∧Mem w0 (tW f a s (Cp t k to)++L) w':=by
 obtain ⟨x,hx⟩: ∃x,t.aK[k]?=some x:=⟨_,aj (by omega)⟩;have hg:t.aK.getD k default=x:=by rw [aq,hx];rfl
 have hlv:Cp t k to=⟨t.aK.set k to,if x.cn=3 then t.ps.eraseP (fun p=>p.1==x.aP) else t.ps,t.used⟩:=by unfold Cp;rw [hg]
 rw [hlv];refine eu hw hmk Tryz.func275 rfl Tryz.ntmps275 rfl ?_;iterate 2 refine G ?_
 refine cd (v:= .agg _) rfl rfl fun b5=>?_;iterate 10 refine G ?_
 refine bO (bt _ cq cF (q0 rfl) (q0 rfl) (fun _=>⟨rfl,by omega⟩)) ?_;refine G ?_;refine cx eY rfl fun b6=>?_;refine fI (v:= .agg _) rfl rfl cF ?_;iterate 9 refine G ?_
 refine au rfl ?_ ?_<;>intro h3
 ·have hx3:x.cn=3:=by simpa using h3
  rw [av hx3];refine fY (fun w hw=>hw.W6) rfl ?_;refine zd 1 ?_;refine aW 0 ?_;refine aW 1 ?_;refine aW 2 ?_;refine aW 3 ?_;refine aW 4 ?_;refine aW 5 ?_;refine r1 6 1 ?_;refine aL rfl (LD 0 nt aG rfl rfl rfl ?_);refine jz 1 ?_;refine G ?_;refine fY (fun w hw=>hw.W4) rfl ?_;refine E.RT rfl rfl (by decide+kernel) ?_;iterate 6 refine G ?_
  refine bO (bt _ cq cF (q0 rfl) (q0 rfl) (fun _=>⟨rfl,by omega⟩)) ?_;iterate 2 refine G ?_
  refine bZ (ew 3 to rfl rfl cF rfl rfl rfl hx rfl rfl ?_);refine G ?_;exact lj rfl hmk fun w' hw=>⟨(),rfl,hw.tail.tail⟩
 have hx3: ¬x.cn=3:=by simpa using h3
 rw [ah hx3];iterate 2 refine G ?_
 refine E.RT rfl rfl (by decide+kernel) ?_;iterate 6 refine G ?_
 refine bO (bt _ cq cF (q0 rfl) (q0 rfl) (fun _=>⟨rfl,by omega⟩)) ?_;iterate 2 refine G ?_
 refine bZ (ew 3 to rfl rfl cF rfl rfl rfl hx rfl rfl ?_);refine G ?_;exact lj rfl hmk fun w' hw=>⟨(),rfl,hw.tail.tail⟩
attribute [local irreducible] nZ
theorem Jn {f:Fl} {a:FA} {s:SA} {t:TS} {w0 w:World} {L:List E.Item} (hw:Mem w0 (tW f a s t++L) w) (hmk:marks L=[]) (hl:t.aK.length=s.n) (k:Nat) (hk:k<s.n) (pa:Bool) {x:Sp} (hx:t.aK[k]?=some x) {q:Nat} {p:Int×Nat×PT} (hq:t.ps[q]?=some p) (hf:t.ps.find? (fun y=>y.1==x.aP)=some p):
  Calls Tryz.prog 276 #[.pointer (some ⟨s.sb,0,none⟩), .int .i64 k, .bool pa] w fun e w'=> ∃_:Unit,e= .returned (.tuple #[])∧Mem w0 (tW f a s ⟨t.aK.set k {x with bn:=pa},t.ps.set q (p.1,p.2.1,{p.2.2 with bn:=pa}),t.used⟩++L) w':=by
 have hptr:(ju (tH t.ps) x.aP).getD (.pointer none)= .pointer (some ⟨p.2.1,0,none⟩):=by rw [BV];unfold nZ;rw [hf];rfl
 refine eu hw hmk Tryz.func276 rfl Tryz.ntmps276 rfl ?_;refine G ?_;refine E.RT rfl rfl (by decide+kernel) ?_;iterate 9 refine G ?_
 refine bO (bt _ cq cF (q0 rfl) (q0 rfl) (fun _=>⟨rfl,by omega⟩)) ?_;iterate 2 refine G ?_
 refine bO (Bb nt aG HF (q0 rfl) (q0 rfl) (pmap_map 2 rfl) (fun _=>hptr)) ?_;iterate 5 refine G ?_
 refine bZ (Au 2 (off:=2) {p.2.2 with bn:=pa} rfl rfl dG rfl rfl rfl hq (bq 3) rfl ?_);iterate 9 refine G ?_
 refine bO (bt _ cq cF (q0 rfl) (q0 rfl) (fun _=>⟨rfl,by omega⟩)) ?_;refine G ?_;refine bZ (jn 1 (off:=3) {x with bn:=pa} rfl rfl dG rfl rfl rfl hx rfl rfl ?_);refine G ?_;exact lj rfl hmk fun w' hw=>⟨(),rfl,hw⟩
end Go.Proofs.Cus
