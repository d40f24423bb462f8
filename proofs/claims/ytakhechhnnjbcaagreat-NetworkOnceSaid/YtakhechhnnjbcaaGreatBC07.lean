import Derived.Test.YtakhechhnnjbcaaGreatBC04
import Derived.Test.YtakhechhnnjbcaaGreatProg
import Derived.Test.YtakhechhnnjbcaaGreatBC06
import Derived.Test.YtakhechhnnjbcaaGreatBC02
import Derived.Test.YtakhechhnnjbcaaGreatBC01
import Derived.Test.YtakhechhnnjbcaaGreatTc
set_option maxRecDepth 100000
set_option maxHeartbeats 8000000
set_option linter.unusedVariables false
set_option linter.unusedSimpArgs false
namespace Go.Proofs.Pen
open Go Go.RowKit Go.Proofs.E
def V.cells (v:V):List Value:=[.int .i64 v.aP, .int .i64 v.rider, .int .i64 v.iF, .int .i64 v.kind]
abbrev C4 (w:World) (A:Option Addr) (n:Nat) (vs:List V):Prop:=gJ w 4 V.cells A n vs
abbrev ia (w:World) (A:Option Addr) (n:Nat) (xs:List Int):Prop:=gJ w 1 aN A n xs
theorem wN (xs:List Int) (k:Nat) (x:Int) (h:xs[k]?=some x) (h0:(xs.take k).any mY=false) (hb:mY x=false):(xs.take (k+1)).any mY=false:=by
 rw [iJ _ _ _ h,pI,h0];simp [hb]
theorem Gs (xs:List Int) (d:Int) (k:Nat) (x:Int) (hl:xs.length≤512) (h:xs[k]?=some x) (hb:mY x=true):rL xs d=1:=by
 unfold rL;rw [ah (by omega),av];exact cY.2 ⟨x,an h,hb⟩
theorem DT (xs:List Int) (d:Int) (hl:512<xs.length):rL xs d=8:=by unfold rL;rw [av hl]
theorem DU (xs:List Int) (d:Int) (hl:xs.length≤512) (h0:xs.any mY=false) (hd:d<0∨49709<d):rL xs d=1:=by
 unfold rL;rw [ah (by omega),h0];simp [hd]
theorem Jr (xs:List Int) (d:Int) (hl:xs.length≤512) (h0:xs.any mY=false) (hd: ¬(d<0∨49709<d)):rL xs d=0:=by
 unfold rL;rw [ah (by omega),h0];simp;omega
theorem yo (a0 a1 a2 a3 a4:Value) (A:Option Addr) (n c:Nat) (xs:List Int) (d:Int) (w:World) (hx:ia w A n xs):
  Calls Tryz.prog 82 #[.agg #[a0,a1,a2,a3,a4, .slice A n c, .int .i64 d]] w fun e w'=>e= .returned (.int .i64 (rL xs d))∧gz w w':=by
 have hn:=hx.2.1;have hl:=hx.1;refine aS Tryz.func82 rfl Tryz.ntmps82 rfl ?_;iterate 2 refine G ?_
 refine cd (v:= .agg _) rfl rfl fun b1=>?_;iterate 12 refine G ?_
 refine au rfl ?_ ?_<;>intro hb
 ·iterate 7 refine G ?_
  exact bH (v:= .int _ _) rfl rfl rfl fun w' hw=>⟨bP (DT _ _ (by simp at hb;omega)).symm,hw.1⟩
 iterate 9 refine G ?_
 simp at hb;refine ct [2,3,8,9,10,11,12,13,14,15,16,17,18,19,20,21,22,23,24,25,26,27,28] (fun k:Nat=>[(3, .int .i64 k)]) (fun _=>_) (fun k=>k≤n∧(xs.take k).any mY=false) (fun k=>n -k) 0 ⟨rfl,trivial⟩ (fun _ h=>h) rfl ⟨aU _,rfl⟩ ?_;rintro k g ⟨hk,hall⟩;iterate 10 refine G ?_
 refine au rfl ?_ ?_<;>intro hlt
 ·simp at hlt;obtain ⟨b,off,x,rfl,hbl,hxk,hr⟩:=hx.at_ hlt;iterate 9 refine G ?_
  refine bO (bt _ ak ax (q0 rfl) (q0 rfl) (fun _=>⟨rfl,by omega⟩)) ?_;iterate 6 refine G ?_
  refine L0 (bt _ ak ax (q1 rfl) (q1 rfl) (fun _=>⟨rfl,by omega⟩)) rfl rfl ?_;iterate 5 refine G ?_
  refine au rfl ?_ ?_<;>intro hbad
  ·iterate 11 refine G ?_
   exact bH (v:= .int _ _) rfl rfl rfl fun w' hw=>⟨bP (Gs _ _ k x (by omega) hxk hbad).symm,hw.1⟩
  iterate 8 refine G ?_
  exact ay (k+1) eE ⟨rfl,trivial⟩ (fun _ h=>h) rfl ⟨by omega,wN _ _ _ hxk hall hbad⟩ (by show n -(k+1)<n -k;omega)
 simp at hlt;rw [bN (by omega)] at hall;iterate 18 refine G ?_
 refine au rfl ?_ ?_<;>intro hd
 ·iterate 7 refine G ?_
  exact bH (v:= .int _ _) rfl rfl rfl fun w' hw=>⟨bP (DU _ _ (by omega) hall (by simpa using hd)).symm,hw.1⟩
 iterate 8 refine G ?_
 exact bH (v:= .int _ _) rfl rfl rfl fun w' hw=>⟨bP (Jr _ _ (by omega) hall (by simp at hd;omega)).symm,hw.1⟩
theorem vS (a0 a1 a2 a3 a4:Value) (A:Option Addr) (n c:Nat) (xs:List Int) (d:Int) (w:World) (hx:ia w A n xs):
  Calls Tryz.prog 74 #[.agg #[a0,a1,a2,a3,a4, .slice A n c, .int .i64 d]] w fun e w'=>e= .returned (.int .i64 (rL xs d))∧gz w w':=by
 have hn:=hx.2.1;have hl:=hx.1;refine aS Tryz.func74 rfl Tryz.ntmps74 rfl ?_;iterate 2 refine G ?_
 refine cd (v:= .agg _) rfl rfl fun b1=>?_;iterate 12 refine G ?_
 refine au rfl ?_ ?_<;>intro hb
 ·iterate 7 refine G ?_
  exact bH (v:= .int _ _) rfl rfl rfl fun w' hw=>⟨bP (DT _ _ (by simp at hb;omega)).symm,hw.1⟩
 iterate 12 refine G ?_
 simp at hb;refine ct [2,4,12,13,14,15,16,17,18,19,20,21,22] (fun k:Nat=>[(12, .int .i64 k)]) (fun _=>_) (fun k=>k≤n∧(xs.take k).any mY=false) (fun k=>n -k) 0 ⟨rfl,trivial⟩ (fun _ h=>h) rfl ⟨aU _,rfl⟩ ?_;rintro k g ⟨hk,hall⟩;iterate 6 refine G ?_
 refine au rfl ?_ ?_<;>intro hlt
 ·simp at hlt;obtain ⟨b,off,x,rfl,hbl,hxk,hr⟩:=hx.at_ hlt;iterate 6 refine G ?_
  refine bO (bt _ ak ax (q0 rfl) (q0 rfl) (fun _=>⟨rfl,by omega⟩)) ?_;iterate 14 refine G ?_
  refine au rfl ?_ ?_<;>intro hbad
  ·iterate 11 refine G ?_
   exact bH (v:= .int _ _) rfl rfl rfl fun w' hw=>⟨bP (Gs _ _ k x (by omega) hxk hbad).symm,hw.1⟩
  iterate 7 refine G ?_
  exact ay (k+1) eE ⟨rfl,trivial⟩ (fun _ h=>h) rfl ⟨by omega,wN _ _ _ hxk hall hbad⟩ (by show n -(k+1)<n -k;omega)
 simp at hlt;rw [bN (by omega)] at hall;iterate 18 refine G ?_
 refine au rfl ?_ ?_<;>intro hd
 ·iterate 7 refine G ?_
  exact bH (v:= .int _ _) rfl rfl rfl fun w' hw=>⟨bP (DU _ _ (by omega) hall (by simpa using hd)).symm,hw.1⟩
 iterate 8 refine G ?_
 exact bH (v:= .int _ _) rfl rfl rfl fun w' hw=>⟨bP (Jr _ _ (by omega) hall (by simp at hd;omega)).symm,hw.1⟩
theorem OR (a b:V) (w:World):Calls Tryz.prog 235 #[.agg a.cells.toArray, .agg b.cells.toArray] w fun e w'=>e= .returned (.bool (before a b))∧gz w w':=by
 refine aS Tryz.func235 rfl Tryz.ntmps235 rfl ?_
 refine cr ?_
 refine R0 ?_
 refine cd (v:= .agg _) rfl rfl fun b2=>?_
 refine cd (v:= .agg _) rfl rfl fun b3=>?_
 refine xV (gZ (v:= .bool _) (q0 rfl)) rfl rfl ?_
 refine XN ?_
 refine az ?_
 refine cr ?_
 refine R0 ?_
 refine xV (cR nD rfl ax rfl (q0 rfl)) rfl rfl ?_
 refine xV (eL aJ (q0 rfl)) rfl rfl ?_
 refine xV (cR nD rfl ax rfl (q0 rfl)) rfl rfl ?_
 refine xV (eL aJ (q0 rfl)) rfl rfl ?_
 refine xV (vd (q0 rfl) (q0 rfl)) rfl rfl ?_
 refine xV (ez (v:= .bool _) (q0 rfl)) rfl rfl ?_
 refine oQ (cR nD rfl ax rfl (q0 rfl)) rfl rfl rfl rfl ?_
 refine oQ (eL aJ (q1 rfl)) rfl rfl rfl rfl ?_
 refine oQ (cR nD rfl ax rfl (q0 rfl)) rfl rfl rfl rfl ?_
 refine oQ (eL aJ (q1 rfl)) rfl rfl rfl rfl ?_
 refine oQ (AL (q1 rfl) (q1 rfl)) rfl rfl rfl rfl ?_
 refine oQ (ez (v:= .bool _) (q1 rfl)) rfl rfl rfl rfl ?_
 refine kr (cR nD rfl ax rfl (q0 rfl)) rfl rfl rfl rfl ?_
 refine kr (eL aJ (q1 rfl)) rfl rfl rfl rfl ?_
 refine kr (cR nD rfl ax rfl (q0 rfl)) rfl rfl rfl rfl ?_
 refine kr (eL aJ (q1 rfl)) rfl rfl rfl rfl ?_
 refine kr (vd (q1 rfl) (q1 rfl)) rfl rfl rfl rfl ?_
 refine oQ (pT (q1 rfl) rfl (fun h=>by first|rfl|(rw [h];rfl))) rfl rfl rfl rfl ?_
 refine xV (u9 (q0 rfl) rfl (fun h=>by first|rfl|(rw [h];rfl))) rfl rfl ?_
 refine xV (gZ (v:= .bool _) (q0 rfl)) rfl rfl ?_
 refine XN ?_
 refine az ?_
 refine jV ?_
 exact bH (v:= .bool _) rfl rfl rfl fun w' hw=>⟨rfl,hw.1⟩
theorem HT {seen:List V} {v:V} (h:v.aP<1∨1000000<v.aP∨v.rider<0∨128≤v.rider∨v.iF<0∨4294943999<v.iF):vW seen v=1:=by
 unfold vW Bo;rw [av h];rfl
theorem Dv {v:V} (h1: ¬(v.aP<1∨1000000<v.aP∨v.rider<0∨128≤v.rider∨v.iF<0∨4294943999<v.iF)) (h2: ¬(v.kind<1∨3<v.kind)):Bo v=0:=by
 unfold Bo;rw [ah h1,ah h2]
theorem Kz {seen:List V} {v:V} (h1: ¬(v.aP<1∨1000000<v.aP∨v.rider<0∨128≤v.rider∨v.iF<0∨4294943999<v.iF)) (h2:v.kind<1∨3<v.kind):vW seen v=14:=by
 have h:Bo v=14:=by unfold Bo;rw [ah h1,av h2]
 unfold vW;rw [h];rfl
theorem HS {seen:List V} {v:V} (h1: ¬(v.aP<1∨1000000<v.aP∨v.rider<0∨128≤v.rider∨v.iF<0∨4294943999<v.iF)) (h2: ¬(v.kind<1∨3<v.kind)) (h3:rY seen v.aP=true):vW seen v=6:=by
 unfold vW;rw [Dv h1 h2,h3];rfl
theorem PD {seen:List V} {v:V} (h1: ¬(v.aP<1∨1000000<v.aP∨v.rider<0∨128≤v.rider∨v.iF<0∨4294943999<v.iF)) (h2: ¬(v.kind<1∨3<v.kind)) (h3:rY seen v.aP=false):vW seen v=0:=by
 unfold vW;rw [Dv h1 h2,h3];rfl
theorem Ky {vs:List V} (h:256<vs.length):sd vs=8:=by unfold sd;rw [av h]
theorem ED {vs:List V} {k:Nat} {v:V} {c:Int} (hl:vs.length≤256) (hp:qj [] vs=qj (vs.take k) (vs.drop k)) (hv:vs[k]?=some v) (h:vW (vs.take k) v=c) (hc:c≠0):sd vs=c:=by
 unfold sd;rw [ah (by omega),hp,z' _ _ _ _ hv,h,av hc]
theorem Kx {vs:List V} {k:Nat} {v:V} (hp:qj [] vs=qj (vs.take k) (vs.drop k)) (hv:vs[k]?=some v) (h:vW (vs.take k) v=0):qj [] vs=qj (vs.take (k+1)) (vs.drop (k+1)):=by
 rw [hp,z' _ _ _ _ hv,h,ah (by simp),iJ _ _ _ hv]
theorem Mo {vs:List V} {k:Nat} (hl:vs.length≤256) (hp:qj [] vs=qj (vs.take k) (vs.drop k)) (hk:vs.length≤k):sd vs=0:=by
 unfold sd;rw [ah (by omega),hp,List.drop_eq_nil_of_le hk];rfl
def uY (l:List V):List (Int×Value):=l.map fun v=>(v.aP, .bool true)
theorem Lj (l:List V) (r:Int):(ju (uY l) r).getD (.bool false)= .bool (rY l r):=by
 induction l with
 |nil=>rfl
 |cons v l ih=>
  by_cases h:v.aP=r
  ·simp [ju,uY,rY,h]
  have hb:(v.aP==r)=false:=dt.2 h;simp only [ju,uY,rY,cI,lE,Df,hb,Dg] at ih⊢;exact ih
theorem La (l:List V) (v:V) (h:rY l v.aP=false):ml (uY l) v.aP (.bool true)=uY (l++[v]):=by
 induction l with
 |nil=>rfl
 |cons x l ih=>
  simp only [rY,Df,kN] at h;simp only [uY,cI,gx,ml,h.1,jy,lM];rw [←uY,ih h.2];rfl
theorem Mp (A:Option Addr) (n c:Nat) (vs:List V) (w:World) (hx:C4 w A n vs):
  Calls Tryz.prog 106 #[.slice A n c] w fun e w'=>e= .returned (.int .i64 (sd vs))∧gz w w':=by
 have hn:=hx.2.1;have hl:=hx.1;refine aS Tryz.func106 rfl Tryz.ntmps106 rfl ?_;iterate 13 refine G ?_
 refine au rfl ?_ ?_<;>intro hb
 ·iterate 7 refine G ?_
  exact bH (v:= .int _ _) rfl rfl rfl fun w' hw=>⟨bP (Ky (by simp at hb;omega)).symm,hw.1⟩
 simp at hb;iterate 4 refine G ?_
 refine qK rfl fun bm=>?_;refine bO (gZ (v:= .map _) (q0 rfl)) ?_;iterate 11 refine G ?_
 refine ct [2,5,12,13,14,15,16,17,18,19,20,21,22,23,24,25,26,27,28,29,30,31,32,33,34,35,36,37,38,39,40,41,42,43,44,45,46,47,48,49,50,51,52,53,54,55,56,57,58,59,60,61,62] (fun k:Nat=>[(12, .int .i64 k)]) (fun k=>[kS bm (uY (vs.take k))]) (fun k=>k≤n∧qj [] vs=qj (vs.take k) (vs.drop k)) (fun k=>n -k) 0 ⟨rfl,trivial⟩ (fun _ h=>h) rfl ⟨aU _,rfl⟩ ?_;rintro k g ⟨hk,hp⟩;iterate 6 refine G ?_
 refine au rfl ?_ ?_<;>intro hlt
 ·simp at hlt;obtain ⟨b,off,v,rfl,hbl,hv,hr⟩:=hx.at_ hlt;iterate 6 refine G ?_
  refine bO (bt _ qP mT (q0 rfl) (q0 rfl) (fun _=>⟨rfl,by omega⟩)) ?_;refine G ?_;refine cx HG rfl fun b5=>?_;refine fI (v:= .agg _) rfl rfl mT ?_;iterate 37 refine G ?_
  refine au rfl ?_ ?_<;>intro h1
  ·iterate 13 refine G ?_
   exact bH (v:= .int _ _) rfl rfl rfl fun w' hw=>⟨bP (ED (by omega) hp hv (HT (by simp at h1;omega)) (by decide)).symm,hw.1⟩
  have h1': ¬(v.aP<1∨1000000<v.aP∨v.rider<0∨128≤v.rider∨v.iF<0∨4294943999<v.iF):=by simp at h1;omega
  iterate 13 refine G ?_
  refine au rfl ?_ ?_<;>intro h2
  ·iterate 13 refine G ?_
   exact bH (v:= .int _ _) rfl rfl rfl fun w' hw=>⟨bP (ED (by omega) hp hv (Kz h1' (by simp at h2;omega)) (by decide)).symm,hw.1⟩
  have h2': ¬(v.kind<1∨3<v.kind):=by simp at h2;omega
  iterate 2 refine G ?_
  refine bO (ez (v:= .map _) (q0 rfl)) ?_;iterate 2 refine G ?_
  refine bO (Fi 1 iq aG gK (q0 rfl) (q0 rfl) rfl (fun _=>Lj _ _)) ?_;iterate 3 refine G ?_
  refine au rfl ?_ ?_<;>intro h3
  ·iterate 13 refine G ?_
   exact bH (v:= .int _ _) rfl rfl rfl fun w' hw=>⟨bP (ED (by omega) hp hv (HS h1' h2' h3) (by decide)).symm,hw.1⟩
  iterate 4 refine G ?_
  refine bO (ez (v:= .map _) (q0 rfl)) ?_;iterate 2 refine G ?_
  refine tv 1 iq aG rfl rfl rfl rfl ?_;iterate 7 refine G ?_
  refine ay (k+1) eE ⟨rfl,trivial⟩ (fun w hw=>?_) rfl ⟨by omega,Kx hp hv (PD h1' h2' h3)⟩ (by show n -(k+1)<n -k;omega);have:=hw.tail;rw [iJ _ _ _ hv,←La _ _ h3];exact this
 simp at hlt;iterate 11 refine G ?_
 exact bH (v:= .int _ _) rfl rfl rfl fun w' hw=>⟨bP (Mo (by omega) hp (by omega)).symm,hw.1⟩
end Go.Proofs.Pen
namespace Go.Proofs.Far
open Go Go.RowKit Go.Proofs.E Go.Proofs.Cus
structure Pr where
 ik:List Tf
 iE:List o0
 places:List Int
 gk:List Int
 cap:Int
 cX:List Int
 days:Int
structure Sl where
 A:Option Addr
 n:Nat
 c:Nat
def Sl.v (s:Sl):Value:= .slice s.A s.n s.c
structure xz where
 t:Sl
 p:Sl
 pl:Sl
 d:Sl
 f:Sl
def Pr.cells (p:Pr) (a:xz):List Value:=[.slice a.t.A a.t.n a.t.c, .slice a.p.A a.p.n a.p.c, .slice a.pl.A a.pl.n a.pl.c, .slice a.d.A a.d.n a.d.c, .int .i64 p.cap, .slice a.f.A a.f.n a.f.c, .int .i64 p.days]
structure lK (w:World) (p:Pr) (a:xz):Prop where
 tf:Az w a.t.A a.t.n p.ik
 ps:sr w a.p.A a.p.n p.iE
 pl:ia w a.pl.A a.pl.n p.places
 dk:ia w a.d.A a.d.n p.gk
 fi:ia w a.f.A a.f.n p.cX
theorem lK.mem {w0 w:World} {L:List E.Item} {p:Pr} {a:xz} (h:lK w0 p a) (hm:Mem w0 L w):lK w p a:=⟨h.tf.mem hm,h.ps.mem hm,h.pl.mem hm,h.dk.mem hm,h.fi.mem hm⟩
theorem WC {fs:Array Field} (h:Tryz.prog.underlying 28=some (.struct fs):=by exact cZ):dN Tryz.prog fs [(0,1),(1,1),(2,1),(3,1),(4,1),(5,1),(6,1)]:=by
 rw [cZ] at h;cases h;intro w;kernel_rfl
def ot (n:Int):Bool:=decide (n< -1000000)||decide (1000000<n)
def jk (f:Fl) (p:Pr):Int:=
 if fR f≠0 then fR f
 else if lG p.ik≠0 then lG p.ik
 else if lg p.iE≠0 then lg p.iE
 else if p.gk.length≠f.gk.length∨64<p.places.length then 3
 else if (p.places++p.gk).any ot=true then 1
 else if p.cap<0∨1000000000000<p.cap then 1
 else Pen.rL p.cX p.days
theorem NP {f:Fl} (h:fR f=0):f.gk.length≤32:=by
 unfold fR at h;split at h
 ·cases h
 split at h
 ·cases h
 omega
theorem Ud {l:List Int} {k:Nat} {x:Int} (h:l[k]?=some x) (hb:ot x=true):l.any ot=true:=cY.2 ⟨x,an h,hb⟩
theorem Uc {l:List Int} {k:Nat} {x:Int} (h:l[k]?=some x) (h0:(l.take k).any ot=false) (hb:ot x=false):(l.take (k+1)).any ot=false:=by
 rw [od _ _ _ h,pI,h0];simp [hb]
attribute [local irreducible] fR lG lg Pen.rL
theorem CD (f:Fl) (fa:FA) (p:Pr) (a:xz) (w:World) (hf:kp w f fa) (hp:lK w p a):Calls Tryz.prog 35 #[.agg (f.cells fa).toArray, .agg (p.cells a).toArray] w fun e w'=>e= .returned (.int .i64 (jk f p))∧gz w w':=by
 have hfd:=hf.gk.1;have hpd:=hp.dk.1;have hpp:=hp.pl.1;refine aS Tryz.func35 rfl Tryz.ntmps35 rfl ?_;iterate 2 refine G ?_
 refine cd (v:= .agg _) rfl rfl fun b2=>?_;refine cd (v:= .agg _) rfl rfl fun b3=>?_;iterate 7 refine G ?_
 refine gV (en L8 (il (q0 rfl))) (fun _ w hw=>A9 f fa w (hf.mem hw)) ?_;iterate 9 refine G ?_
 refine au rfl ?_ ?_<;>intro h1
 ·have h1':fR f≠0:=by simpa using h1
  iterate 8 refine G ?_
  exact bH (v:= .int _ _) rfl rfl rfl fun w' hw=>⟨bP (by unfold jk;rw [av h1']),hw.1⟩
 have h1':fR f=0:=by simpa using h1
 iterate 7 refine G ?_
 refine gV (en Wa (il (q0 rfl))) (fun _ w hw=>Bx a.t.A a.t.n a.t.c p.ik w (hp.tf.mem hw)) ?_;iterate 9 refine G ?_
 refine au rfl ?_ ?_<;>intro h2
 ·have h2':lG p.ik≠0:=by simpa using h2
  iterate 8 refine G ?_
  exact bH (v:= .int _ _) rfl rfl rfl fun w' hw=>⟨bP (by unfold jk;rw [ah (fun h=>h h1'),av h2']),hw.1⟩
 have h2':lG p.ik=0:=by simpa using h2
 iterate 7 refine G ?_
 refine gV (en Tryz.call72 (il (q0 rfl))) (fun _ w hw=>Gp a.p.A a.p.n a.p.c p.iE w (hp.ps.mem hw)) ?_;iterate 9 refine G ?_
 refine au rfl ?_ ?_<;>intro h3
 ·have h3':lg p.iE≠0:=by simpa using h3
  iterate 8 refine G ?_
  exact bH (v:= .int _ _) rfl rfl rfl fun w' hw=>⟨bP (by unfold jk;rw [ah (fun h=>h h1'),ah (fun h=>h h2'),av h3']),hw.1⟩
 have h3':lg p.iE=0:=by simpa using h3
 iterate 20 refine G ?_
 refine au rfl ?_ ?_<;>intro h4
 ·have h4':p.gk.length≠f.gk.length∨64<p.places.length:=by simp at h4;omega
  iterate 7 refine G ?_
  exact bH (v:= .int _ _) rfl rfl rfl fun w' hw=>⟨bP (by unfold jk;rw [ah (fun h=>h h1'),ah (fun h=>h h2'),ah (fun h=>h h3'),av h4']),hw.1⟩
 have h4': ¬(p.gk.length≠f.gk.length∨64<p.places.length):=by simp at h4;omega
 have hfl:=NP h1';iterate 9 refine G ?_
 refine Fv [(.slice none 0 0),(.slice none 0 0)] qO eh Kl rfl (by kernel_rfl) (pt (v:= .slice _ _ _) rfl (pt (v:= .slice _ _ _) rfl E.p0)) rfl rfl fun b44=>?_;refine qW (en Tryz.call73 (il (q0 rfl))) (fun w hw=>Oy (some ⟨b44,0,none⟩) 2 a.pl.A a.pl.n a.pl.c p.places a.d.A a.d.n a.d.c p.gk w (bg (enc:=VA) (xs:=[.slice a.pl.A a.pl.n a.pl.c, .slice a.d.A a.d.n a.d.c]) hw (j:=0) rfl (fun _=>rfl) (by simp)) (hp.pl.mem hw) (hp.dk.mem hw) (by omega) (by omega)) rfl (fun _=>rfl) fun z=>?_;have herr:jk f p=if (p.places++p.gk).any ot=true then 1 else if p.cap<0∨1000000000000<p.cap then 1 else Pen.rL p.cX p.days:=by
  unfold jk;rw [ah (fun h=>h h1'),ah (fun h=>h h2'),ah (fun h=>h h3'),ah h4']
 rw [herr];have hal:(p.places++p.gk).length≤1000:=by rw [bV];omega
 generalize p.places++p.gk=al at*;obtain ⟨zA,zc⟩:=z;iterate 5 refine G ?_
 refine ct [4,9,47,48,49,50,51,52,53,54,55,56,57] (fun k:Nat=>[(47, .int .i64 k)]) (fun _=>[dY zA zc al,box b44 22 [.slice a.pl.A a.pl.n a.pl.c, .slice a.d.A a.d.n a.d.c],box b3 28 (p.cells a),box b2 24 (f.cells fa)]) (fun k=>k≤al.length∧(al.take k).any ot=false) (fun k=>al.length -k) 0 ⟨rfl,trivial⟩ (fun w hw=>hw) rfl ⟨aU _,rfl⟩ ?_;rintro k g ⟨hk,hall⟩;iterate 6 refine G ?_
 refine au rfl ?_ ?_<;>intro hlt
 ·have hlt':k<al.length:=by simpa using hlt
  obtain ⟨x,hxk⟩: ∃x,al[k]?=some x:=⟨_,aj hlt'⟩;refine fN (fun w hw=>dP (j:=0) hw rfl (by omega)) fun ⟨rb,hrb⟩=>?_;subst hrb;iterate 6 refine G ?_
  refine bO (bt k ak ax (q0 rfl) (q0 rfl) (fun _=>⟨rfl,hlt'⟩)) ?_;refine bO (ea (v:= .int .i64 x) aJ (q0 rfl) (by exact oR 0 (k:=1) (enc:=aN) rfl hxk rfl)) ?_;iterate 13 refine G ?_
  refine au rfl ?_ ?_<;>intro hb
  ·have hb':ot x=true:=hb;iterate 11 refine G ?_
   exact bH (v:= .int _ _) rfl rfl rfl fun w' hw=>⟨bP (by rw [av (Ud hxk hb')]),hw.1⟩
  have hb':ot x=false:=hb;iterate 7 refine G ?_
  exact ay (k+1) eE ⟨rfl,trivial⟩ (fun w hw=>hw) rfl ⟨by omega,Uc hxk hall hb'⟩ (by show al.length -(k+1)<al.length -k;omega)
 have hend:k=al.length:=by simp at hlt;omega
 rw [hend,dp] at hall;rw [ah (by rw [hall];decide)];iterate 18 refine G ?_
 refine au rfl ?_ ?_<;>intro h6
 ·have h6':p.cap<0∨1000000000000<p.cap:=by simp at h6;omega
  iterate 7 refine G ?_
  exact bH (v:= .int _ _) rfl rfl rfl fun w' hw=>⟨bP (by rw [av h6']),hw.1⟩
 have h6': ¬(p.cap<0∨1000000000000<p.cap):=by simp at h6;omega
 rw [ah h6'];iterate 5 refine G ?_
 refine gV (en Tryz.call74 (il (q0 rfl))) (fun _ w hw=>Pen.vS _ _ _ _ _ a.f.A a.f.n a.f.c p.cX p.days w (hp.fi.mem hw)) ?_;iterate 4 refine G ?_
 exact bH (v:= .int _ _) rfl rfl rfl fun w' hw=>⟨rfl,hw.1⟩
end Go.Proofs.Far
namespace Go.Proofs.Far
structure Wn where
 lo:Int
 hi:Int
deriving DecidableEq,Inhabited
def ze (w:Wn):Bool:=(decide (0≤w.lo)&&decide (w.lo≤w.hi))&&decide (w.hi≤4294944000)
def has (l:List Wn) (t:Int):Prop:= ∃w∈l,w.lo≤t∧t<w.hi
def iN (out:List Wn) (w:Wn):List Wn:=
 if w.lo=w.hi then out
 else match out.getLast? with
  |none=>out++[w]
  |some z=>if w.lo≤z.hi then out.dropLast++[⟨z.lo,max z.hi w.hi⟩] else out++[w]
def uR (l:List Wn):List Wn:=l.foldl iN []
def Ho (l:List Wn):List Wn:=l.mergeSort fun x y=>decide (x.lo≤y.lo)
def gE (l:List Wn):List Wn:=uR (Ho l)
def AE (l:List Wn):Int:=(l.map fun w=>w.hi -w.lo).sum
def Co (l:List Wn):Int:=AE (gE l)
structure Nf (l:List Wn):Prop where
 pos: ∀w∈l,w.lo<w.hi
 apart:l.Pairwise fun a b=>a.hi<b.lo
theorem Nf.tail {a:Wn} {l:List Wn} (h:Nf (a::l)):Nf l:=⟨fun w hw=>h.pos w (aB _ hw),(bL.1 h.apart).2⟩
theorem jm {a:Wn} {l:List Wn} {t:Int}:has (a::l) t↔(a.lo≤t∧t<a.hi)∨has l t:=by
 unfold has;simp
theorem xh {l m:List Wn} {t:Int}:has (l++m) t↔has l t∨has m t:=by
 unfold has;constructor
 ·rintro ⟨w,hw,h⟩;rcases aQ.1 hw with hw|hw
  ·exact .inl ⟨w,hw,h⟩
  exact .inr ⟨w,hw,h⟩
 rintro (⟨w,hw,h⟩|⟨w,hw,h⟩)
 ·exact ⟨w,aQ.2 (.inl hw),h⟩
 exact ⟨w,aQ.2 (.inr hw),h⟩
theorem nJ {t:Int}: ¬has [] t:=by rintro ⟨w,hw,_⟩;cases hw
theorem Nf.later {a:Wn} {l:List Wn} (h:Nf (a::l)) {t:Int} (ht:has l t):a.hi<t:=by
 obtain ⟨w,hw,h1,h2⟩:=ht;have:=(bL.1 h.apart).1 w hw;omega
theorem Nf.unique: ∀{l m:List Wn},Nf l→Nf m→(∀t,has l t↔has m t)→l=m
 |[],[],_,_,_=>rfl
 |[],b::m,_,hm,h=>by
  have hb:=hm.pos b (by simp);exact absurd ((h b.lo).2 (jm.2 (.inl ⟨gI _,hb⟩))) nJ
 |a::l,[],hl,_,h=>by
  have ha:=hl.pos a (by simp);exact absurd ((h a.lo).1 (jm.2 (.inl ⟨gI _,ha⟩))) nJ
 |a::l,b::m,hl,hm,h=>by
  have ha:=hl.pos a (by simp);have hb:=hm.pos b (by simp);have first: ∀{x:Wn} {k:List Wn},Nf (x::k)→ ∀t,has (x::k) t→x.lo≤t:=fun {x k} hx t ht=>by
   have hp:=hx.pos x (by simp);rcases jm.1 ht with h1|h1
   ·exact h1.1
   have:=hx.later h1;omega
  have hlo:a.lo=b.lo:=by
   have h1:=first hm a.lo ((h a.lo).1 (jm.2 (.inl ⟨gI _,ha⟩)));have h2:=first hl b.lo ((h b.lo).2 (jm.2 (.inl ⟨gI _,hb⟩)));omega
  have stop: ∀{x:Wn} {k:List Wn},Nf (x::k)→ ¬has (x::k) x.hi:=fun {x k} hx ht=>by
   rcases jm.1 ht with h1|h1
   ·omega
   have:=hx.later h1;omega
  have hhi:a.hi=b.hi:=by
   rcases Int.lt_trichotomy a.hi b.hi with h1|h1|h1
   ·exact absurd ((h a.hi).2 (jm.2 (.inl ⟨by omega,h1⟩))) (stop hl)
   ·exact h1
   exact absurd ((h b.hi).1 (jm.2 (.inl ⟨by omega,h1⟩))) (stop hm)
  have hab:a=b:=by
   cases a;cases b;simp only at hlo hhi;rw [hlo,hhi]
  subst hab;have ht: ∀t,has l t↔has m t:=fun t=>by
   constructor
   ·intro h1;rcases jm.1 ((h t).1 (jm.2 (.inr h1))) with h2|h2
    ·have:=hl.later h1;omega
    exact h2
   intro h1;rcases jm.1 ((h t).2 (jm.2 (.inr h1))) with h2|h2
   ·have:=hm.later h1;omega
   exact h2
  rw [Nf.unique hl.tail hm.tail ht]
theorem Lh {out:List Wn} {w:Wn} (h:Nf out) (hw:w.lo≤w.hi) (hlast: ∀z∈out,z.lo≤w.lo):Nf (iN out w)∧(∀t,has (iN out w) t↔has out t∨(w.lo≤t∧t<w.hi))∧ ∀z∈iN out w,z.lo≤w.lo:=by
 unfold iN;by_cases he:w.lo=w.hi
 ·rw [av he];exact ⟨h,fun t=>⟨.inl,fun h1=>by rcases h1 with h1|h1;exact h1;omega⟩,hlast⟩
 rw [ah he];rcases FG out with rfl|⟨l,z,rfl⟩
 ·refine ⟨⟨fun x hx=>?_,by simp⟩,fun t=>?_,fun x hx=>?_⟩
  ·simp at hx;subst hx;omega
  ·simp only [List.getLast?_nil,ka];rw [jm];exact or_comm
  simp at hx;subst hx;omega
 rw [FI] at h hlast⊢;rw [HM,Dc];simp only [Wk];have hz:=h.pos z (by simp);have hzl:=hlast z (by simp);have hp:=jA.1 h.apart;by_cases hc:w.lo≤z.hi
 ·rw [av hc,List.dropLast_concat];refine ⟨⟨fun x hx=>?_,?_⟩,fun t=>?_,fun x hx=>?_⟩
  ·rcases aQ.1 hx with hx|hx
   ·exact h.pos x (aQ.2 (.inl hx))
   simp at hx;subst hx;simp only;omega
  ·refine jA.2 ⟨hp.1,by simp,fun x hx y hy=>?_⟩;simp at hy;subst hy;exact hp.2.2 x hx z (by simp)
  ·rw [xh,xh,jm,jm];have hn: ¬has [] t:=nJ;simp only;constructor
   ·rintro (h1|h1|h1)
    ·exact .inl (.inl h1)
    ·by_cases h2:t<z.hi
     ·exact .inl (.inr (.inl ⟨h1.1,h2⟩))
     right;omega
    exact absurd h1 hn
   rintro ((h1|h1|h1)|h1)
   ·exact .inl h1
   ·exact .inr (.inl (by omega))
   ·exact absurd h1 hn
   exact .inr (.inl (by omega))
  rcases aQ.1 hx with hx|hx
  ·exact hlast x (aQ.2 (.inl hx))
  simp at hx;subst hx;exact hzl
 rw [ah hc];refine ⟨⟨fun x hx=>?_,?_⟩,fun t=>?_,fun x hx=>?_⟩
 ·rcases aQ.1 hx with hx|hx
  ·exact h.pos x hx
  simp at hx;subst hx;omega
 ·refine jA.2 ⟨h.apart,by simp,fun x hx y hy=>?_⟩;simp at hy;subst hy;rcases aQ.1 hx with hx|hx
  ·have:=hp.2.2 x hx z (by simp);omega
  simp at hx;subst hx;omega
 ·rw [xh,jm];have hn: ¬has [] t:=nJ;constructor
  ·rintro (h1|h1|h1)
   ·exact .inl h1
   ·exact .inr h1
   exact absurd h1 hn
  rintro (h1|h1)
  ·exact .inl h1
  exact .inr (.inl h1)
 rcases aQ.1 hx with hx|hx
 ·exact hlast x hx
 simp at hx;subst hx;omega
theorem JO: ∀(l out:List Wn),Nf out→(∀w∈l,w.lo≤w.hi)→l.Pairwise (fun a b=>a.lo≤b.lo)→(∀z∈out,∀w∈l,z.lo≤w.lo)→Nf (l.foldl iN out)∧ ∀t,has (l.foldl iN out) t↔has out t∨has l t
 |[],out,h,_,_,_=>⟨h,fun t=>⟨.inl,fun h1=>h1.elim id fun h2=>absurd h2 nJ⟩⟩
 |w::l,out,h,hv,hs,hz=>by
  obtain ⟨h1,h2,h3⟩:=Lh h (hv w (by simp)) (fun z hzm=>hz z hzm w (by simp));have hs':=bL.1 hs;obtain ⟨h4,h5⟩:=JO l (iN out w) h1 (fun x hx=>hv x (aB _ hx)) hs'.2 (fun z hzm x hx=>by
   have:=h3 z hzm;have:=hs'.1 x hx;omega)
  refine ⟨h4,fun t=>?_⟩;rw [cO,h5,h2,jm,or_assoc]
theorem Jv {l:List Wn} (hv: ∀w∈l,w.lo≤w.hi) (hs:l.Pairwise fun a b=>a.lo≤b.lo):Nf (uR l)∧ ∀t,has (uR l) t↔has l t:=by
 obtain ⟨h1,h2⟩:=JO l [] ⟨fun w hw=>(by cases hw),List.Pairwise.nil⟩ hv hs (fun z hz=>(by cases hz));exact ⟨h1,fun t=>by rw [show uR l=l.foldl iN [] from rfl,h2];exact ⟨fun h=>h.elim (fun h=>absurd h nJ) id, .inr⟩⟩
theorem vT (l:List Wn):(Ho l).Perm l:=eT _ _
theorem Hn (l:List Wn):(Ho l).Pairwise fun a b=>a.lo≤b.lo:=by
 have:=iz (le:=fun x y:Wn=>decide (x.lo≤y.lo)) (fun a b c h1 h2=>by simp at*;omega) (fun a b=>by simp;omega) l;exact this.imp fun h=>by simpa using h
theorem GQ {l m:List Wn} (h:l.Perm m) (t:Int):has l t↔has m t:=by
 unfold has;constructor
 ·rintro ⟨w,hw,h1⟩;exact ⟨w,h.mem_iff.1 hw,h1⟩
 rintro ⟨w,hw,h1⟩;exact ⟨w,h.mem_iff.2 hw,h1⟩
theorem xQ {l:List Wn} (hv: ∀w∈l,w.lo≤w.hi):Nf (gE l)∧ ∀t,has (gE l) t↔has l t:=by
 obtain ⟨h1,h2⟩:=Jv (fun w hw=>hv w ((vT l).mem_iff.1 hw)) (Hn l);exact ⟨h1,fun t=>(h2 t).trans (GQ (vT l) t)⟩
theorem Nd {l s:List Wn} (hl: ∀w∈l,w.lo≤w.hi) (hp:s.Perm l) (hs:s.Pairwise fun a b=>a.lo≤b.lo):uR s=gE l:=by
 obtain ⟨h1,h2⟩:=Jv (fun w hw=>hl w (hp.mem_iff.1 hw)) hs;obtain ⟨h3,h4⟩:=xQ hl;exact Nf.unique h1 h3 fun t=>by rw [h2,h4,GQ hp]
end Go.Proofs.Far
