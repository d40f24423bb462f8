import Derived.Test.YtakhechhnnjbcaaGreatBC22
import Derived.Test.YtakhechhnnjbcaaGreatBC03
import Derived.Test.YtakhechhnnjbcaaGreatBC19
import Derived.Test.YtakhechhnnjbcaaGreatBC04
import Derived.Test.YtakhechhnnjbcaaGreatTc
set_option maxRecDepth 100000
set_option maxHeartbeats 8000000
set_option linter.unusedVariables false
set_option linter.unusedSimpArgs false
namespace Go.Proofs.Net
open Go Go.RowKit Go.Proofs.E Go.Proofs.Cus
def En.cells (e:En):List Value:=[.int .i64 e.jF.aP, .int .i64 e.jF.rider, .int .i64 e.jF.fM, .int .i64 e.state, .int .i64 e.tries]
abbrev ry (A:Option Addr) (c:Nat) (l:List En):E.Item:=dR 222 5 En.cells A c l
def Ib (k:Nat):List En→List (Int×Value)
 |[]=>[]
 |e::l=>(e.jF.aP, .int .i64 k)::Ib (k+1) l
def DL (l:List En):List (Int×Value):=Ib 0 l
abbrev AY (r:Int) (x:En):Bool:=decide (x.jF.aP=r)
theorem DY (r:Int): ∀(l:List En) (k:Nat),ju (Ib k l) r=(l.findIdx? (AY r)).map fun i=> .int .i64 ((i+k:Nat):Int)
 |[],k=>rfl
 |e::l,k=>by
  have ih:=DY r l (k+1);by_cases h:e.jF.aP=r
  ·simp [ju,Ib,Md,AY,h]
  have h1:ju (Ib k (e::l)) r=ju (Ib (k+1) l) r:=by
   have:(e.jF.aP==r)=false:=by simpa using h
   simp only [ju,Ib,lE,this]
  rw [h1,ih,Md];have:AY r e=false:=by simpa [AY] using h
  rw [this];cases l.findIdx? (AY r) with
  |none=>rfl
  |some i=>simp;omega
theorem vJ (l:List En) (r:Int):ju (DL l) r=(l.findIdx? (AY r)).map fun i=> .int .i64 (i:Int):=DY r l 0
theorem GC (e:En): ∀(l:List En) (k:Nat),l.findIdx? (AY e.jF.aP)=none→ml (Ib k l) e.jF.aP (.int .i64 ((l.length+k:Nat):Int))=Ib k (l++[e])
 |[],k,_=>by simp [Ib,ml]
 |x::l,k,h=>by
  rw [Md] at h;split at h
  ·cases h
  rename_i hx;have h2:l.findIdx? (AY e.jF.aP)=none:=by simpa using h
  have ih:=GC e l (k+1) h2;have:(x.jF.aP==e.jF.aP)=false:=by simpa [AY] using hx
  simp only [Ib,gx,ml,this,bB];rw [show l.length+1+k=l.length+(k+1) by omega,ih];rfl
theorem GD {l:List En} (e:En) (h:l.findIdx? (AY e.jF.aP)=none):ml (DL l) e.jF.aP (.int .i64 (l.length:Int))=DL (l++[e]):=GC e l 0 h
theorem zT {l:List En} {r:Int} {i:Nat} (h:l.findIdx? (AY r)=some i):l[i]?=some (l.getD i default)∧i<l.length:=by
 obtain ⟨hi,_⟩:=mf.1 h;exact ⟨by rw [aq,aj hi];rfl,hi⟩
theorem Qa (l:List En) (x y:En) (hy:y.jF.aP=x.jF.aP): ∀(k i:Nat),l[i]?=some x→Ib k (l.set i y)=Ib k l:=by
 induction l with
 |nil=>intro k i h;cases h
 |cons e l ih=>
  intro k i h;cases i with
  |zero=>cases h;simp [Ib,hy]
  |succ i=>simp only [sN,Ib];rw [ih (k+1) i h]
theorem EU {l:List En} {i:Nat} {x y:En} (h:l[i]?=some x) (hy:y.jF.aP=x.jF.aP):DL (l.set i y)=DL l:=Qa l x y hy 0 i h
abbrev jv (d m:Nat) (A:Option Addr) (c:Nat) (l:List En):List E.Item:=[box d 159 [.slice A l.length c, .map (some m)],ry A c l,kS m (DL l)]
theorem Vs {fs:Array Field} (h:Tryz.prog.underlying 222=some (.struct fs):=by exact lz):dN Tryz.prog fs [(0,3),(3,1),(4,1)]:=by
 rw [lz] at h;cases h;intro w;kernel_rfl
theorem Sd {fs:Array Field} (h:Tryz.prog.underlying 159=some (.struct fs):=by exact iZ):dN Tryz.prog fs [(0,1),(1,1)]:=by
 rw [iZ] at h;cases h;intro w;kernel_rfl
theorem vV (l:List En) (p:Py):AO l p=if fW p=false then (l,(1:Int)) else match l.findIdx? (AY p.aP) with
  |some i=>if (l.getD i default).jF=p then (l,0) else (l,21)
  |none=>if 256≤l.length then (l,8) else (l++[⟨p,0,0⟩],0):=rfl
theorem VR {d m:Nat} {A:Option Addr} {c:Nat} {l:List En} (p:Py) {w0 w:World} {L:List E.Item} (hL:marks L=[]) (hw:Mem w0 (jv d m A c l++L) w) (hn:l.length≤256):Calls Tryz.prog 84 #[.pointer (some ⟨d,0,none⟩), .agg p.cells.toArray] w fun q w'=> ∃x:Option Addr×Nat,q= .returned (.int .i64 (AO l p).2)∧Mem w0 (jv d m x.1 x.2 (AO l p).1++L) w':=by
 rw [vV];refine eu hw hL Tryz.func84 rfl Tryz.ntmps84 rfl ?_;iterate 2 refine G ?_
 refine cd (v:= .agg _) rfl rfl fun b3=>?_;iterate 7 refine G ?_
 refine bO (gj r8 (q0 rfl)) ?_;iterate 2 refine G ?_
 refine au rfl ?_ ?_<;>intro hnil
 ·cases hnil
 iterate 6 refine G ?_
 refine gV (en Tryz.call133 (il (q0 rfl))) (fun _ w _=>yq p w) ?_;iterate 3 refine G ?_
 refine au rfl ?_ ?_<;>intro h1
 ·have h1':fW p=false:=by simpa using h1
  rw [av h1'];iterate 7 refine G ?_
  exact bH (v:= .int _ _) rfl rfl hL fun w' hw=>⟨(A,c),rfl,hw.tail⟩
 have h1': ¬fW p=false:=by simpa using h1
 rw [ah h1'];iterate 4 refine G ?_
 cases hf:l.findIdx? (AY p.aP) with
 |some i=>
  obtain ⟨hx,hi⟩:=zT hf;generalize hxe:l.getD i default=x at hx;refine fN (fun w hw=>dP (j:=2) hw rfl (by omega)) fun ⟨eb,heb⟩=>?_;subst heb;refine tB ?_;iterate 6 refine G ?_
  refine bO (tk (key:=p.aP) (u:= .int .i64 (i:Int)) (bb:=true) 3 ja aG bh (q0 rfl) (q0 rfl) rfl (fun _=>by rw [vJ,hf];exact ⟨rfl,rfl⟩)) ?_;iterate 12 refine G ?_
  refine au rfl ?_ ?_<;>intro h3
  ·iterate 2 refine G ?_
   refine tB ?_;iterate 5 refine G ?_
   refine bO (bt i dJ gQ (q0 rfl) (q0 rfl) (fun _=>⟨rfl,hi⟩)) ?_;refine G ?_;refine bO (eP Bg fj (q0 rfl) (P3 (p:=0) 2 rfl hx rfl)) ?_;refine G ?_;refine bO (CM (Oa x.jF p) (by kernel_rfl) (q0 rfl) (q0 rfl)) ?_;iterate 2 refine G ?_
   refine au rfl ?_ ?_<;>intro h4
   ·have h4': ¬x.jF=p:=by simpa using h4
    iterate 8 refine G ?_
    exact bH (v:= .int _ _) rfl rfl hL fun w' hw=>⟨(some ⟨eb,0,none⟩,c),by simp only [hxe];rw [ah h4'],by simp only [hxe];rw [ah h4'];exact hw.tail⟩
   have h4':x.jF=p:=by simpa using h4
   iterate 9 refine G ?_
   exact bH (v:= .int _ _) rfl rfl hL fun w' hw=>⟨(some ⟨eb,0,none⟩,c),by simp only [hxe];rw [av h4'],by simp only [hxe];rw [av h4'];exact hw.tail⟩
  cases h3
 |none=>
  refine tB ?_;iterate 6 refine G ?_
  refine bO (tk (key:=p.aP) (bb:=false) 3 ja aG bh (q0 rfl) (q0 rfl) rfl (fun _=>by rw [vJ,hf];exact ⟨rfl,rfl⟩)) ?_;iterate 12 refine G ?_
  refine au rfl ?_ ?_<;>intro h3
  ·cases h3
  iterate 13 refine G ?_
  refine au rfl ?_ ?_<;>intro h4
  ·have h4':256≤l.length:=by simp at h4;omega
   iterate 7 refine G ?_
   exact bH (v:= .int _ _) rfl rfl hL fun w' hw=>⟨(A,c),by simp only;rw [av h4'],by simp only;rw [av h4'];exact hw.tail⟩
  have h4': ¬256≤l.length:=by simp at h4;omega
  iterate 3 refine G ?_
  refine E.RT rfl rfl (by decide+kernel) ?_;iterate 13 refine G ?_
  refine tv (key:=p.aP) (v:= .int .i64 (l.length:Int)) 3 ja aG rfl rfl rfl rfl ?_;iterate 3 refine G ?_
  refine fY (L':=box d 159 [.slice A l.length c, .map (some m)]::ry A c l::box b3 90 p.cells::kS m (DL (l++[⟨p,0,0⟩]))::L) (fun w hw=>by
   have h:Mem w0 (box b3 90 p.cells::box d 159 [.slice A l.length c, .map (some m)]::ry A c l::kS m (ml (DL l) p.aP (.int .i64 (l.length:Int)))::L) w:=hw;rw [show p.aP=(⟨p,0,0⟩:En).jF.aP from rfl,GD _ hf] at h;exact h.dh 3 [1,2,0] (by decide) (by decide)) rfl ?_
  refine jK [50,51,52,53,54,55,56,57,58,59,60] (fun x:Option Addr×Nat=>[]) (fun x=>box d 159 [.slice x.1 (l++[(⟨p,0,0⟩:En)]).length x.2, .map (some m)]::ry x.1 x.2 (l++[⟨p,0,0⟩])::box b3 90 p.cells::kS m (DL (l++[⟨p,0,0⟩]))::L) (fun _=>True) ?_ ?_
  ·refine zd 2 ?_;refine aW 0 ?_;refine aW 1 ?_;refine aW 2 ?_;refine aW 3 ?_;refine aW 5 ?_;refine iQ 6 rfl (bS lz Vs xI (pt (v:= .agg _) rfl E.p0) rfl) ?_;refine kY (i:=4) (j:=7) (by decide+kernel) (bK 2) ?_ ?_
   ·refine aL rfl (gY (ea (v:= .slice A l.length c) qT (q0 rfl) cb) rfl rfl ?_);refine r1 7 2 ?_;refine aL rfl (dE [(.int .i64 0),(.int .i64 0),(.int .i64 0),(.int .i64 0),(.int .i64 0)] dJ gQ xI rfl (by kernel_rfl) (pt (v:= .agg _) rfl E.p0) rfl rfl fun b57=>?_);refine r1 8 3 ?_;refine aL rfl (ba (k:=5) (i:=Tryz.t222) (enc:=En.cells) 2 dJ (by kernel_rfl) rfl rfl rfl rfl (fun _=>rfl) (fun _=>rfl) rfl rfl rfl (fun w hw=>bg (xs:=[(⟨p,0,0⟩:En)]) hw (j:=0) rfl (fun _=>rfl) (by simp)) ⟨by simp;omega,by decide⟩ rfl fun A2 c2=>?_);refine aW 9 ?_;refine aW 10 ?_;refine r1 11 3 ?_;refine aL rfl (kU (v:= .slice _ _ _) rfl rfl pH ?_);refine jz 3 ?_;exact aO ((A2,c2):Option Addr×Nat) eE trivial (fun w hw=>hw.tail) rfl trivial
   refine aL rfl (dE [(.int .i64 0),(.int .i64 0),(.int .i64 0),(.int .i64 0),(.int .i64 0)] dJ gQ xI rfl (by kernel_rfl) (pt (v:= .agg _) rfl E.p0) rfl rfl fun b57=>?_);refine r1 4 3 ?_;refine aL rfl (gY (ea (v:= .slice A l.length c) qT (q0 rfl) cb) rfl rfl ?_);refine r1 8 3 ?_;refine aL rfl (ba (k:=5) (i:=Tryz.t222) (enc:=En.cells) 2 dJ (by kernel_rfl) rfl rfl rfl rfl (fun _=>rfl) (fun _=>rfl) rfl rfl rfl (fun w hw=>bg (xs:=[(⟨p,0,0⟩:En)]) hw (j:=0) rfl (fun _=>rfl) (by simp)) ⟨by simp;omega,by decide⟩ rfl fun A2 c2=>?_);refine aW 9 ?_;refine aW 10 ?_;refine r1 11 3 ?_;refine aL rfl (kU (v:= .slice _ _ _) rfl rfl pH ?_);refine jz 3 ?_;exact aO ((A2,c2):Option Addr×Nat) eE trivial (fun w hw=>hw.tail) rfl trivial
  rintro ⟨A2,c2⟩ g _;iterate 7 refine G ?_
  exact bH (v:= .int _ _) rfl rfl hL fun w' hw=>⟨(A2,c2),by simp only;rw [ah h4'],by simp only;rw [ah h4'];exact hw.dh 4 [0,1,3] (by decide) (by decide)⟩
theorem J8 (l:List En): ∀k,-1≤iH l k∧iH l k<(k:Int)
 |0=>by simp [iH]
 |k+1=>by
  have ih:=J8 l k;unfold iH;split
  ·omega
  split<;>omega
theorem J7 {l:List En} {k:Nat} {x:En} (hx:l[k]?=some x):iH l (k+1)=if x.state=0∧(iH l k<0∨x.tries<(l.getD (iH l k).toNat default).tries) then (k:Int) else iH l k:=by
 rw [iH,hx]
def uT (l:List En):Py×Bool:=match tY l with
 |none=>(⟨0,0,0⟩,false)
 |some i=>((l.getD i default).jF,true)
theorem np {α:Type} [Inhabited α] {l:List α} {i:Nat} (h:i<l.length):l[i]?=some (l.getD i default):=by
 rw [aq,aj h];rfl
theorem TI {d m:Nat} {A:Option Addr} {c:Nat} {l:List En} {w0 w:World} {L:List E.Item} (hL:marks L=[]) (hw:Mem w0 (jv d m A c l++L) w) (hn:l.length≤256):Calls Tryz.prog 85 #[.pointer (some ⟨d,0,none⟩)] w fun q w'=> ∃_x:Unit,q= .returned (.tuple #[.agg (uT l).1.cells.toArray, .bool (uT l).2])∧Mem w0 (jv d m A c l++L) w':=by
 refine eu hw hL Tryz.func85 rfl Tryz.ntmps85 rfl ?_
 refine cr ?_
 refine R0 ?_
 refine cx jo rfl fun b2=>?_
 refine xV (gZ (v:= .bool _) (q0 rfl)) rfl rfl ?_
 refine XN ?_
 refine az ?_
 refine cr ?_
 refine R0 ?_
 refine xV (gZ (v:= .int _ _) (q0 rfl)) rfl rfl ?_
 refine XN ?_
 refine az ?_
 refine cr ?_
 refine cr ?_
 refine R0 ?_
 refine xV (gZ (v:= .int _ _) (q0 rfl)) rfl rfl ?_
 refine XN ?_
 refine az ?_
 refine l0 ?_
 refine ct [4,5,6,7,8,9,10,11,12,13,14,15,16,17,18,19,20,21,22,23,24,25,26,27,28,29,30,31,32,33,34,35,36,37,38,39,40,41,42,43,44,45,46,47,48,49,50,51] (fun i:Nat=>[(5, .int .i64 i),(4, .int .i64 (iH l i))]) (fun _=>box b2 90 (Py.cells ⟨0,0,0⟩)::jv d m A c l++L) (fun i=>i≤l.length) (fun i=>l.length -i) 0 ⟨rfl,rfl,trivial⟩ (fun w hw=>hw) rfl (aU _) ?_
 rintro i g hi
 have hbd:=J8 l i
 refine cr ?_
 refine cr ?_
 refine R0 ?_
 refine xV (ez (v:= .pointer _) (q0 rfl)) rfl rfl ?_
 refine xV (CN r8 (q0 rfl)) rfl rfl ?_
 refine xV (ez (v:= .bool _) (q0 rfl)) rfl rfl ?_
 refine rF (ez (v:= .int _ _) (q0 rfl)) rfl rfl rfl rfl ?_
 refine rF (ez (v:= .pointer _) (q0 rfl)) rfl rfl rfl rfl ?_
 refine rF (xk (q1 rfl)) rfl rfl rfl rfl ?_
 refine rF (cR iZ rfl pH rfl (q1 rfl)) rfl rfl rfl rfl ?_
 refine rF (eL qT (q1 rfl)) rfl rfl rfl rfl ?_
 refine rF (tl dJ (q1 rfl)) rfl rfl rfl rfl ?_
 refine rF (vd (q1 rfl) (q1 rfl)) rfl rfl rfl rfl ?_
 refine xV (pT (q0 rfl) rfl (fun h=>by first|rfl|(rw [h];rfl))) rfl rfl ?_
 refine XN ?_
 refine az ?_
 refine au rfl (fun hlt=>?_) (fun hlt=>?_)
 ·have hlt':i<l.length:=by simpa using hlt
  have hx:=np hlt'
  have hgo:=J7 hx
  generalize l.getD i default=x at hx hgo
  have hy:0≤iH l i→l[(iH l i).toNat]?=some (l.getD (iH l i).toNat default):=fun h=>np (by omega)
  generalize l.getD (iH l i).toNat default=y at hgo hy
  refine fN (fun w hw=>dP (j:=2) hw rfl (by omega)) fun ⟨eb,heb⟩=>?_
  subst heb
  refine iS ?_
  refine az ?_
  refine cr ?_
  refine l0 ?_
  refine cr ?_
  refine R1 rfl (by decide+kernel) ?_
  refine xV (ez (v:= .pointer _) (q0 rfl)) rfl rfl ?_
  refine xV (xk (q0 rfl)) rfl rfl ?_
  refine xV (cR iZ rfl pH rfl (q0 rfl)) rfl rfl ?_
  refine xV (eL qT (q0 rfl)) rfl rfl ?_
  refine xV (ez (v:= .int _ _) (q0 rfl)) rfl rfl ?_
  refine xV (bt _ dJ gQ (q0 rfl) (q0 rfl) (fun _=>⟨rfl,by omega⟩)) rfl rfl ?_
  refine xV (cR lz rfl Ps rfl (q0 rfl)) rfl rfl ?_
  refine xV (eL SG (q0 rfl) (rr 2 rfl hx rfl)) rfl rfl ?_
  refine xV (AL (q0 rfl) (q0 rfl)) rfl rfl ?_
  refine xV (ez (v:= .bool _) (q0 rfl)) rfl rfl ?_
  refine rF (ez (v:= .int _ _) (q0 rfl)) rfl rfl rfl rfl ?_
  refine rF (vd (q1 rfl) (q0 rfl)) rfl rfl rfl rfl ?_
  refine rF (ez (v:= .bool _) (q1 rfl)) rfl rfl rfl rfl ?_
  refine p4 (ez (v:= .pointer _) (q0 rfl)) rfl rfl rfl rfl ?_
  refine p4 (xk (q1 rfl)) rfl rfl rfl rfl ?_
  refine p4 (cR iZ rfl pH rfl (q1 rfl)) rfl rfl rfl rfl ?_
  refine p4 (eL qT (q1 rfl)) rfl rfl rfl rfl ?_
  refine p4 (ez (v:= .int _ _) (q0 rfl)) rfl rfl rfl rfl ?_
  refine p4 (bt _ dJ gQ (q1 rfl) (q1 rfl) (fun _=>⟨rfl,by omega⟩)) rfl rfl rfl rfl ?_
  refine p4 (cR lz rfl ax rfl (q1 rfl)) rfl rfl rfl rfl ?_
  refine p4 (eL aJ (q1 rfl) (rr 2 rfl hx rfl)) rfl rfl rfl rfl ?_
  refine p4 (ez (v:= .pointer _) (q0 rfl)) rfl rfl rfl rfl ?_
  refine p4 (xk (q1 rfl)) rfl rfl rfl rfl ?_
  refine p4 (cR iZ rfl pH rfl (q1 rfl)) rfl rfl rfl rfl ?_
  refine p4 (eL qT (q1 rfl)) rfl rfl rfl rfl ?_
  refine p4 (ez (v:= .int _ _) (q0 rfl)) rfl rfl rfl rfl ?_
  refine p4 (bt (iH l i).toNat dJ gQ (q1 rfl) (q1 rfl) (fun h=>by simp at h;exact ⟨by omega,by omega⟩)) rfl rfl rfl rfl ?_
  refine p4 (cR lz rfl ax rfl (q1 rfl)) rfl rfl rfl rfl ?_
  refine p4 (eL aJ (q1 rfl) (fun h w hw=>(rr (g:=true) 2 rfl (hy (by simp at h;omega)) rfl) rfl w hw)) rfl rfl rfl rfl ?_
  refine p4 (vd (q1 rfl) (q1 rfl)) rfl rfl rfl rfl ?_
  refine rF (u9 (q1 rfl) rfl (fun h=>by first|rfl|(rw [h];rfl))) rfl rfl rfl rfl ?_
  refine xV (pT (q0 rfl) rfl (fun h=>by first|rfl|(rw [h];rfl))) rfl rfl ?_
  refine XN ?_
  refine az ?_
  refine au rfl (fun hb=>?_) (fun hb=>?_)
  ·have hb':x.state=0∧(iH l i<0∨x.tries<y.tries):=by simpa using hb
   rw [av hb'] at hgo
   refine R0 ?_
   refine xV (ez (v:= .int _ _) (q0 rfl)) rfl rfl ?_
   refine xV (gZ (v:= .int _ _) (q0 rfl)) rfl rfl ?_
   refine XN ?_
   refine iV ?_
   refine az ?_
   refine R0 ?_
   refine xV (ez (v:= .int _ _) (q0 rfl)) rfl rfl ?_
   refine xV (rB (q0 rfl) (q0 rfl) (fun _=>⟨rfl,by omega,by omega⟩)) rfl rfl ?_
   refine xV (gZ (v:= .int _ _) (q0 rfl)) rfl rfl ?_
   refine XN ?_
   exact ay (i+1) (by repeat (first|exact jw|exact ku|refine j7 rfl ?_|refine jO rfl ?_|refine jJ rfl ?_)) ⟨rfl,by rw [hgo];rfl,trivial⟩ (fun w hw=>hw) rfl (by omega) (by show l.length -(i+1)<l.length -i;omega)
  have hb': ¬(x.state=0∧(iH l i<0∨x.tries<y.tries)):=by simpa using hb
  rw [ah hb'] at hgo
  refine iS ?_
  refine iV ?_
  refine az ?_
  refine R0 ?_
  refine xV (ez (v:= .int _ _) (q0 rfl)) rfl rfl ?_
  refine xV (rB (q0 rfl) (q0 rfl) (fun _=>⟨rfl,by omega,by omega⟩)) rfl rfl ?_
  refine xV (gZ (v:= .int _ _) (q0 rfl)) rfl rfl ?_
  refine XN ?_
  exact ay (i+1) (by repeat (first|exact jw|exact ku|refine j7 rfl ?_|refine jO rfl ?_|refine jJ rfl ?_)) ⟨rfl,by rw [hgo];rfl,trivial⟩ (fun w hw=>hw) rfl (by omega) (by show l.length -(i+1)<l.length -i;omega)
 have hie:i=l.length:=by simp at hlt;omega
 subst hie
 refine xD ?_
 refine mZ ?_
 refine ng ?_
 refine nn ?_
 refine az ?_
 refine cr ?_
 refine cr ?_
 refine R0 ?_
 refine xV (ez (v:= .int _ _) (q0 rfl)) rfl rfl ?_
 refine xV (vd (q0 rfl) (q0 rfl)) rfl rfl ?_
 refine XN ?_
 refine az ?_
 refine au rfl (fun hb=>?_) (fun hb=>?_)
 ·have hb':iH l l.length<0:=by simpa using hb
  have hnx:uT l=(⟨0,0,0⟩,false):=by unfold uT tY;rw [av hb']
  rw [hnx]
  refine cr ?_
  refine R0 ?_
  refine xV (bS l8 QO jo E.p0 rfl) rfl rfl ?_
  refine fI (v:= .agg _) rfl rfl fj ?_
  refine xV (gZ (v:= .bool _) (q0 rfl)) rfl rfl ?_
  refine XN ?_
  refine az ?_
  refine jV ?_
  refine dH ?_
  exact mh (by exact hL) (BP 0 rfl rfl rfl Bg fj rfl rfl) fun w' hw=>⟨(),rfl,hw.tail⟩
 have hb': ¬iH l l.length<0:=by simpa using hb
 have hx:=np (l:=l) (i:=(iH l l.length).toNat) (by omega)
 have hnx:uT l=((l.getD (iH l l.length).toNat default).jF,true):=by unfold uT tY;rw [ah hb']
 rw [hnx]
 generalize l.getD (iH l l.length).toNat default=x at hx
 refine fN (fun w hw=>dP (j:=2) hw rfl (by omega)) fun ⟨eb,heb⟩=>?_
 subst heb
 refine iS ?_
 refine az ?_
 refine cr ?_
 refine R0 ?_
 refine xV (ez (v:= .pointer _) (q0 rfl)) rfl rfl ?_
 refine xV (xk (q0 rfl)) rfl rfl ?_
 refine xV (cR iZ rfl pH rfl (q0 rfl)) rfl rfl ?_
 refine xV (eL qT (q0 rfl)) rfl rfl ?_
 refine xV (ez (v:= .int _ _) (q0 rfl)) rfl rfl ?_
 refine xV (bt (iH l l.length).toNat dJ gQ (q0 rfl) (q0 rfl) (fun _=>⟨by omega,by omega⟩)) rfl rfl ?_
 refine xV (cR lz rfl fj rfl (q0 rfl)) rfl rfl ?_
 refine xV (eP Bg fj (q0 rfl) (P3 (p:=0) 2 rfl hx rfl)) rfl rfl ?_
 refine fI (v:= .agg _) rfl rfl fj ?_
 refine xV (gZ (v:= .bool _) (q0 rfl)) rfl rfl ?_
 refine XN ?_
 refine az ?_
 refine jV ?_
 exact mh (by exact hL) (BP 0 rfl rfl rfl Bg fj rfl rfl) fun w' hw=>⟨(),rfl,hw.tail⟩
theorem Mz {l:List En} {s:Int} {i:Nat} {x:En} (h:l[i]?=some x):jC (l.take (i+1)) s=jC (l.take i) s++if x.state=s then [x.jF] else []:=by
 unfold jC;rw [wB l i x h,dw,bX];congr 1;by_cases hs:x.state=s<;>simp [hs]
theorem PM (s:Int) {d m:Nat} {A:Option Addr} {c:Nat} {l:List En} {w0 w:World} {L:List E.Item} (hL:marks L=[]) (hw:Mem w0 (jv d m A c l++L) w) (hn:l.length≤256):Calls Tryz.prog 83 #[.pointer (some ⟨d,0,none⟩), .int .i64 s] w fun q w'=> ∃x:Option Addr×Nat,q= .returned (.slice x.1 (jC l s).length x.2)∧Mem w0 (mM x.1 x.2 (jC l s)::jv d m A c l++L) w':=by
 refine eu hw hL Tryz.func83 rfl Tryz.ntmps83 rfl ?_;iterate 17 refine G ?_
 refine ct [5,6,7,8,9,10,11,12,13,14,15,16,17,18,19,20,21,22,23,24,25,26,27,28,29,30,31,32,33,34,35,36,37,38,39,40] (fun t:Nat×Option Addr×Nat=>[(6, .int .i64 t.1),(5, .slice t.2.1 (jC (l.take t.1) s).length t.2.2)]) (fun t=>mM t.2.1 t.2.2 (jC (l.take t.1) s)::jv d m A c l++L) (fun t=>t.1≤l.length∧(jC (l.take t.1) s).length≤t.1) (fun t=>l.length -t.1) (0,none,0) ⟨rfl,rfl,trivial⟩ (fun w hw=>hw.eX _ _ _ rfl) rfl ⟨aU _,bq _⟩ ?_;rintro ⟨i,A2,c2⟩ g ⟨hi,hlen⟩;have hi:i≤l.length:=hi;have hlen:(jC (l.take i) s).length≤i:=hlen;iterate 4 refine G ?_
 refine bO (CN r8 (q0 rfl)) ?_;iterate 11 refine G ?_
 refine au rfl ?_ ?_<;>intro hlt
 ·have hlt':i<l.length:=by simpa using hlt
  have hx:=np hlt';generalize l.getD i default=x at hx;have hgo:=Mz (s:=s) hx;refine fN (fun w hw=>dP (j:=2) hw rfl (by omega)) fun ⟨eb,heb⟩=>?_;subst heb;iterate 11 refine G ?_
  refine bO (bt _ dJ gQ (q0 rfl) (q0 rfl) (fun _=>⟨rfl,by omega⟩)) ?_;refine G ?_;refine bO (eL SG (q0 rfl) (rr 2 rfl hx rfl)) ?_;iterate 4 refine G ?_
  refine au rfl ?_ ?_<;>intro hb
  ·have hb':x.state=s:=by simpa using hb
   rw [av hb'] at hgo;iterate 7 refine G ?_
   refine bO (bt _ dJ gQ (q0 rfl) (q0 rfl) (fun _=>⟨rfl,by omega⟩)) ?_;refine G ?_;refine bO (eP Bg fj (q0 rfl) (P3 (p:=0) 2 rfl hx rfl)) ?_;refine lq (k:=3) (i:=Tryz.t90) 0 (x.jF) gT (by kernel_rfl) rfl rfl rfl rfl fj jo rfl rfl rfl rfl rfl rfl ⟨by show (jC (l.take i) s).length+1≤1000000;omega,by decide⟩ rfl rfl fun B A3 c3=>?_;iterate 9 refine G ?_
   exact ay (i+1,A3,c3) eE ⟨rfl,by show _=Value.slice A3 (jC (l.take (i+1)) s).length c3;rw [hgo];rfl,trivial⟩ (fun w hw=>by show Mem _ (mM A3 c3 (jC (l.take (i+1)) s)::_) w;rw [hgo];exact hw) rfl ⟨by show i+1≤l.length;omega,by show (jC (l.take (i+1)) s).length≤i+1;rw [hgo];simp;omega⟩ (by show l.length -(i+1)<l.length -i;omega)
  have hb': ¬x.state=s:=by simpa using hb
  rw [ah hb',cz] at hgo;iterate 8 refine G ?_
  exact ay (i+1,A2,c2) eE ⟨rfl,by show _=Value.slice A2 (jC (l.take (i+1)) s).length c2;rw [hgo];rfl,trivial⟩ (fun w hw=>by show Mem _ (mM A2 c2 (jC (l.take (i+1)) s)::_) w;rw [hgo];exact hw) rfl ⟨by show i+1≤l.length;omega,by show (jC (l.take (i+1)) s).length≤i+1;rw [hgo];omega⟩ (by show l.length -(i+1)<l.length -i;omega)
 have hie:i=l.length:=by simp at hlt;omega
 subst hie;iterate 12 refine G ?_
 exact bH (v:= .slice _ _ _) rfl rfl hL fun w' hw=>⟨(A2,c2),by rw [dp],by rw [dp] at hw;exact hw⟩
theorem EY {d m:Nat} {A:Option Addr} {c:Nat} {l:List En} {w0 w:World} {L:List E.Item} (hL:marks L=[]) (hw:Mem w0 (jv d m A c l++L) w) (hn:l.length≤256):Calls Tryz.prog 41 #[.pointer (some ⟨d,0,none⟩)] w fun q w'=> ∃x:Option Addr×Nat,q= .returned (.slice x.1 (jl l).length x.2)∧Mem w0 (mM x.1 x.2 (jl l)::jv d m A c l++L) w':=by
 refine eu hw hL Tryz.func41 rfl Tryz.ntmps41 rfl ?_;iterate 8 refine G ?_
 refine bZ (bR (en Tryz.call83 (gr (q0 rfl) (q0 rfl))) (fun w hw=>PM 0 hL hw hn) rfl (fun _=>rfl) fun x=>?_);obtain ⟨A2,c2⟩:=x;iterate 4 refine G ?_
 exact bH (v:= .slice _ _ _) rfl rfl hL fun w' hw=>⟨(A2,c2),rfl,hw⟩
theorem vo (l:List En) (r e:Int):r4 l r e=match l.findIdx? (AY r) with
  |none=>(l,(7:Int))
  |some i=>if (l.getD i default).state≠0 then (l,12) else (l.set i {l.getD i default with tries:=(l.getD i default).tries+1,state:=if e=0 then 1 else if e=21 then 2 else 0},0):=rfl
theorem tE {α:Type} {l:List α} {i:Nat} {x:α} (y:α) (h:l[i]?=some x):(l.set i y)[i]?=some y:=de (aa.1 h).1
theorem Hx (r e:Int) {d m:Nat} {A:Option Addr} {c:Nat} {l:List En} {w0 w:World} {L:List E.Item} (hL:marks L=[]) (hw:Mem w0 (jv d m A c l++L) w) (ht: ∀x∈l,0≤x.tries∧x.tries≤1000000):Calls Tryz.prog 86 #[.pointer (some ⟨d,0,none⟩), .int .i64 r, .int .i64 e] w fun q w'=> ∃_x:Unit,q= .returned (.int .i64 (r4 l r e).2)∧Mem w0 (jv d m A c (r4 l r e).1++L) w':=by
 rw [vo];refine eu hw hL Tryz.func86 rfl Tryz.ntmps86 rfl ?_;iterate 9 refine G ?_
 refine bO (gj r8 (q0 rfl)) ?_;iterate 2 refine G ?_
 refine au rfl ?_ ?_<;>intro hnil
 ·cases hnil
 iterate 3 refine G ?_
 cases hf:l.findIdx? (AY r) with
 |none=>
  iterate 6 refine G ?_
  refine bO (tk (key:=r) (bb:=false) 2 ja aG bh (q0 rfl) (q0 rfl) rfl (fun _=>by rw [vJ,hf];exact ⟨rfl,rfl⟩)) ?_;iterate 14 refine G ?_
  refine au rfl ?_ ?_<;>intro h1
  ·iterate 7 refine G ?_
   exact bH (v:= .int _ _) rfl rfl hL fun w' hw=>⟨(),rfl,hw⟩
  cases h1
 |some i=>
  obtain ⟨hx,hi⟩:=zT hf;simp only;generalize l.getD i default=x at hx⊢;have htx:=ht x (an hx);refine fN (fun w hw=>dP (j:=1) hw rfl (by omega)) fun ⟨eb,heb⟩=>?_;subst heb;iterate 6 refine G ?_
  refine bO (tk (key:=r) (u:= .int .i64 (i:Int)) (bb:=true) 2 ja aG bh (q0 rfl) (q0 rfl) rfl (fun _=>by rw [vJ,hf];exact ⟨rfl,rfl⟩)) ?_;iterate 14 refine G ?_
  refine au rfl ?_ ?_<;>intro h1
  ·cases h1
  iterate 9 refine G ?_
  refine bO (bt i dJ gQ (q0 rfl) (q0 rfl) (fun _=>⟨rfl,hi⟩)) ?_;iterate 9 refine G ?_
  refine bO (eL SG (q0 rfl) (rr 1 rfl hx rfl)) ?_;iterate 3 refine G ?_
  refine au rfl ?_ ?_<;>intro h2
  ·have h2':x.state≠0:=by simpa using h2
   rw [av h2'];iterate 7 refine G ?_
   exact bH (v:= .int _ _) rfl rfl hL fun w' hw=>⟨(),rfl,hw⟩
  have h2': ¬x.state≠0:=by simpa using h2
  have h20:x.state=0:=by simpa using h2
  rw [ah h2'];have hx1:=tE {x with tries:=x.tries+1} hx;iterate 7 refine G ?_
  refine bO (eL aJ (q0 rfl) (rr 1 rfl hx rfl)) ?_;iterate 3 refine G ?_
  refine bZ (jn 1 (off:=4) {x with tries:=x.tries+1} rfl rfl ax rfl rfl rfl hx rfl rfl ?_);iterate 15 refine G ?_
  refine au rfl ?_ ?_<;>intro h3
  ·have h3':e=0:=by simpa using h3
   iterate 4 refine G ?_
   refine bZ (jn 1 (off:=3) {x with tries:=x.tries+1,state:=1} rfl rfl Ps rfl rfl rfl hx1 rfl rfl ?_);iterate 9 refine G ?_
   exact bH (v:= .int _ _) rfl rfl hL fun w' hw=>⟨(),rfl,by
    rw [av h3'];have h:Mem w0 (box d 159 [.slice (some ⟨eb,0,none⟩) l.length c, .map (some m)]::ry (some ⟨eb,0,none⟩) c ((l.set i {x with tries:=x.tries+1}).set i {x with tries:=x.tries+1,state:=1})::kS m (DL l)::L) w':=hw;rw [fB] at h;show Mem w0 (box d 159 [.slice (some ⟨eb,0,none⟩) (l.set i _).length c, .map (some m)]::ry (some ⟨eb,0,none⟩) c (l.set i _)::kS m (DL (l.set i _))::L) w';rw [dU,EU (y:={x with tries:=x.tries+1,state:=1}) hx rfl];exact h⟩
  have h3': ¬e=0:=by simpa using h3
  iterate 6 refine G ?_
  refine au rfl ?_ ?_<;>intro h4
  ·have h4':e=21:=by simpa using h4
   iterate 4 refine G ?_
   refine bZ (jn 1 (off:=3) {x with tries:=x.tries+1,state:=2} rfl rfl Ps rfl rfl rfl hx1 rfl rfl ?_);iterate 9 refine G ?_
   exact bH (v:= .int _ _) rfl rfl hL fun w' hw=>⟨(),rfl,by
    rw [ah h3',av h4'];have h:Mem w0 (box d 159 [.slice (some ⟨eb,0,none⟩) l.length c, .map (some m)]::ry (some ⟨eb,0,none⟩) c ((l.set i {x with tries:=x.tries+1}).set i {x with tries:=x.tries+1,state:=2})::kS m (DL l)::L) w':=hw;rw [fB] at h;show Mem w0 (box d 159 [.slice (some ⟨eb,0,none⟩) (l.set i _).length c, .map (some m)]::ry (some ⟨eb,0,none⟩) c (l.set i _)::kS m (DL (l.set i _))::L) w';rw [dU,EU (y:={x with tries:=x.tries+1,state:=2}) hx rfl];exact h⟩
  have h4': ¬e=21:=by simpa using h4
  iterate 9 refine G ?_
  exact bH (v:= .int _ _) rfl rfl hL fun w' hw=>⟨(),rfl,by
   rw [ah h3',ah h4',←h20];have h:Mem w0 (box d 159 [.slice (some ⟨eb,0,none⟩) l.length c, .map (some m)]::ry (some ⟨eb,0,none⟩) c (l.set i {x with tries:=x.tries+1})::kS m (DL l)::L) w':=hw;show Mem w0 (box d 159 [.slice (some ⟨eb,0,none⟩) (l.set i _).length c, .map (some m)]::ry (some ⟨eb,0,none⟩) c (l.set i _)::kS m (DL (l.set i _))::L) w';rw [dU,EU (y:={x with tries:=x.tries+1}) hx rfl];exact h⟩
open Go Go.RowKit Go.Proofs.E Go.Proofs.Cus Go.Proofs.Gos
def sl (l:List Ev) (d:Int) (s:Int):Bool:=l.any fun x=>decide (ki x=(d,s))
theorem G4 {l:List Ev} {d s:Int}:(l.find? fun x=>decide (ki x=(d,s)))=none↔sl l d s=false:=by
 unfold sl;rw [kD,jf]
theorem EJ {l:List Ev} {d:Int} {m:Nat} (h: ∀j,j<m→sl l d ((j:Int)+1)=true):m≤l.length:=by
 have h1:((List.range m).map fun j:Nat=>((d,(j:Int)+1):Int×Int)).Nodup:=by
  refine List.Pairwise.map _ (fun a b hab=>?_) List.nodup_range;intro e;injection e with _ e;exact hab (by omega)
 have h2: ∀p∈(List.range m).map (fun j:Nat=>((d,(j:Int)+1):Int×Int)),p∈l.map ki:=by
  intro p hp;obtain ⟨j,hj,rfl⟩:=bJ.1 hp;obtain ⟨x,hx,he⟩:=cY.1 (h j (dL.1 hj));exact bJ.2 ⟨x,hx,cJ he⟩
 have h3:=uD h1 h2;simpa using h3
theorem Jc {l:List Ev} {d:Int} {m:Nat} (h: ∀j,j<m→sl l d ((j:Int)+1)=true) (hs:Ag l d (l.length+1 -m) m=fE l d):
  (sl l d ((m:Int)+1)=true→(∀j,j<m+1→sl l d ((j:Int)+1)=true)∧Ag l d (l.length+1 -(m+1)) (m+1)=fE l d∧m+1≤l.length)∧(sl l d ((m:Int)+1)=false→fE l d=m):=by
 have hb:=EJ h;have e:l.length+1 -m=(l.length -m)+1:=by omega
 rw [e,Ag] at hs;have hs:(if sl l d ((m:Int)+1)=true then Ag l d (l.length -m) (m+1) else m)=fE l d:=hs;refine ⟨fun hy=>?_,fun hn=>?_⟩
 ·have h2: ∀j,j<m+1→sl l d ((j:Int)+1)=true:=fun j hj=>by
   rcases l' j m with hh|hh
   ·exact h j hh
   have:j=m:=by omega
   subst this;exact hy
  refine ⟨h2,?_,EJ h2⟩;rw [av hy] at hs;rw [show l.length+1 -(m+1)=l.length -m by omega];exact hs
 have hn': ¬sl l d ((m:Int)+1)=true:=by rw [hn];decide
 rw [ah hn'] at hs;exact hs.symm
def Vi (n:Int):List Value:=[.int .i64 n]
abbrev rf (A:Option Addr) (c:Nat) (l:List Int):E.Item:=dR 3 1 Vi A c l
def sn (l:List Ev) (d:Nat):List Int:=(List.range d).map fun i:Nat=>((fE l (i:Int):Nat):Int)
def KJ (l:List Ev) (n d:Nat) (m:Int):List Int:=sn l d++m::List.replicate (n -d -1) 0
theorem BB (l:List Ev) (d:Nat):(sn l d).length=d:=by simp [sn]
theorem PY (l:List Ev) {n d:Nat} (h:d<n) (m:Int):(KJ l n d m).length=n:=by simp [KJ,BB];omega
theorem PZ (l:List Ev) (n d:Nat) (m:Int):(KJ l n d m)[d]?=some m:=by
 unfold KJ;rw [cy (by rw [BB];exact bq _),BB,fy];rfl
theorem PX (l:List Ev) (n d:Nat) (m k:Int):(KJ l n d m).set d k=KJ l n d k:=by
 unfold KJ;rw [ib _ _ (by rw [BB];exact bq _),BB,fy];rfl
theorem U1 (l:List Ev) {n d:Nat} (h:d<n):sn l d++List.replicate (n -d) 0=KJ l n d 0:=by
 unfold KJ;rw [show n -d=(n -d -1)+1 by omega,rI];rfl
theorem Td (l:List Ev) {n d:Nat} (h:d<n):KJ l n d ((fE l (d:Int):Nat):Int)=sn l (d+1)++List.replicate (n -(d+1)) 0:=by
 unfold KJ sn;rw [mH,bX,cP,show n -d -1=n -(d+1) by omega];rfl
theorem Tl {r m:Nat} {n:Nat} {l:List Ev} (w:World) (h1:(box r 127 [.int .i64 n, .map (some m)]).A w) (h2:pU w m (AJ l)) (hn:n≤256) (hl:l.length≤10000):
  Calls Tryz.prog 122 #[.pointer (some ⟨r,0,none⟩)] w fun q w'=> ∃b:Nat,q= .returned (.slice (some ⟨b,0,none⟩) n n)∧Mem w [rf (some ⟨b,0,none⟩) n (sn l n)] w':=by
 have hlt:=pz h1;have hrow:=p9 h1;have hk: ∀(L:List E.Item) w',Mem w L w'→pU w' m (AJ l):=fun L w' hw=>h2.mem hw;refine aS Tryz.func122 rfl Tryz.ntmps122 rfl ?_;iterate 9 refine G ?_
 refine bO (gj oO (q0 rfl)) ?_;iterate 2 refine G ?_
 refine au rfl ?_ ?_<;>intro hnil
 ·cases hnil
 iterate 8 refine G ?_
 refine bZ (jZ (i:=Tryz.t3) (k:=1) (n:=n) (m:=n) Vi 0 ak (by kernel_rfl) rfl rfl rfl rfl rfl ⟨⟨bq _,by omega⟩,by decide⟩ rfl fun bs=>?_);iterate 12 refine G ?_
 refine ct [4,5,6,16,17,18,19,20,21,22,23,24,25,26,27,28,29,30,31,32,33,34,35,36,37,38,39,40,41,42] (fun d:Nat=>[(16, .int .i64 d)]) (fun d=>[rf (some ⟨bs,0,none⟩) n (sn l d++List.replicate (n -d) 0)]) (fun d=>d≤n) (fun d=>n -d) 0 ⟨rfl,trivial⟩ (fun w hw=>hw) rfl (aU _) ?_;rintro d g hd;iterate 6 refine G ?_
 refine au rfl ?_ ?_<;>intro hlt2
 ·have hlt':d<n:=by simpa using hlt2
  iterate 11 refine G ?_
  refine ct [5,6,19,20,21,22,23,24,25,26,27,28,29,30,31,32,33,34,35,36,37,38,39,40,41] (fun m:Nat=>[]) (fun m=>[rf (some ⟨bs,0,none⟩) n (KJ l n d m)]) (fun m=>(∀j,j<m→sl l d ((j:Int)+1)=true)∧Ag l d (l.length+1 -m) m=fE l d∧m≤l.length) (fun m=>l.length+1 -m) 0 trivial (fun w hw=>by show Mem _ [rf _ n (KJ l n d 0)] w;rw [←U1 l hlt'];exact hw) rfl ⟨fun j hj=>absurd hj (UJ j),rfl,aU _⟩ ?_;rintro q g2 ⟨hq1,hq2,hq3⟩;have hgo:=Jc hq1 hq2;have hget:=PZ l n d q;have hln:=PY l hlt' (q:Int);iterate 3 refine G ?_
  refine AQ ?_;refine aW 0 ?_;refine aW 1 ?_;refine aW 2 ?_;refine aW 3 ?_;refine aW 4 ?_;refine aW 5 ?_;refine aW 6 ?_;refine iQ 7 rfl (bt _ ak ax (q0 rfl) (q0 rfl) (fun _=>⟨rfl,by omega⟩)) ?_;refine aW 8 ?_;refine aW 9 ?_;refine iQ 10 rfl (bS nE NT r6 (pt (v:= .int _ _) rfl (pt (v:= .int _ _) rfl E.p0)) rfl) ?_;cases hf:l.find? (fun x=>decide (ki x=((d:Int),(q:Int)+1))) with
  |some x=>
   have hy:sl l d ((q:Int)+1)=true:=by
    cases hb:sl l d ((q:Int)+1) with
    |true=>rfl
    |false=>rw [G4.2 hb] at hf;cases hf
   obtain ⟨hq4,hq5,hq6⟩:=hgo.1 hy;refine iQ 11 rfl (vP (key:=((d:Int),(q:Int)+1)) (u:= .agg x.cells.toArray) (bb:=true) Lq iu cV (q0 rfl) (q0 rfl) (fun w hw=>hk _ w hw) (fun _=>by rw [qI,hf];exact ⟨rfl,rfl⟩)) ?_;refine aW 12 ?_;refine aW 13 ?_;refine aW 14 ?_;refine r1 15 0 ?_;refine aL rfl (lX cV rfl fun b5=>?_);refine r1 16 1 ?_;refine aL rfl (kU (v:= .agg _) rfl rfl bT ?_);refine xw (bK 1) ?_;refine aW 17 ?_;refine jz 0 ?_;iterate 7 refine G ?_
   refine au rfl ?_ ?_<;>intro h3
   ·cases h3
   iterate 5 refine G ?_
   refine bO (bt _ ak ax (q0 rfl) (q0 rfl) (fun _=>⟨rfl,by omega⟩)) ?_;refine bO (eL aJ (q0 rfl) (oR 1 rfl hget rfl)) ?_;refine G ?_;refine bO (bt _ ak ax (q0 rfl) (q0 rfl) (fun _=>⟨rfl,by omega⟩)) ?_;refine bZ (ew 1 ((q:Int)+1) rfl rfl ax rfl rfl rfl hget rfl rfl ?_);iterate 2 refine G ?_
   exact ay (q+1) eE trivial (fun w hw=>by have h:=hw.tail;rw [PX] at h;exact h) rfl ⟨hq4,hq5,hq6⟩ (by show l.length+1 -(q+1)<l.length+1 -q;omega)
  |none=>
   have hy:=G4.1 hf;have hq4:=hgo.2 hy;refine iQ 11 rfl (vP (key:=((d:Int),(q:Int)+1)) (bb:=false) Lq iu cV (q0 rfl) (q0 rfl) (fun w hw=>hk _ w hw) (fun _=>by rw [qI,hf];exact ⟨rfl,rfl⟩)) ?_;refine aW 12 ?_;refine aW 13 ?_;refine aW 14 ?_;refine r1 15 0 ?_;refine aL rfl (lX cV rfl fun b5=>?_);refine r1 16 1 ?_;refine aL rfl (kU (v:= .agg _) rfl rfl bT ?_);refine xw (bK 1) ?_;refine aW 17 ?_;refine jz 0 ?_;iterate 7 refine G ?_
   refine au rfl ?_ ?_<;>intro h3
   ·iterate 11 refine G ?_
    exact ay (d+1) eE ⟨rfl,trivial⟩ (fun w hw=>by have h:=hw.tail;rw [←hq4,Td l hlt'] at h;exact h) rfl (by omega) (by show n -(d+1)<n -d;omega)
   cases h3
 have hde:d=n:=by simp at hlt2;omega
 subst hde;iterate 12 refine G ?_
 exact bH (v:= .slice _ _ _) rfl rfl rfl fun w' hw=>⟨bs,rfl,by rw [fy,Ko,cz] at hw;exact hw⟩
theorem NI (l:List Ev) (d k:Nat) (t:Int):xf l (List.range' d (k+1)) t=if fE l (d:Int)=0 then 0 else xf l (List.range' (d+1) k) (min t (OX l d (fE l (d:Int)))):=by
 rw [List.range'_succ,xf]
theorem Ti (l:List Ev) {n d:Nat} (h:d<n):(sn l n)[d]?=some ((fE l (d:Int):Nat):Int):=by
 unfold sn;rw [bf,List.getElem?_range h];rfl
theorem Vj {r m:Nat} {n:Nat} {l:List Ev} (w:World) (h1:(box r 127 [.int .i64 n, .map (some m)]).A w) (h2:pU w m (AJ l)) (hn:n≤256) (hl:l.length≤10000):
  Calls Tryz.prog 66 #[.pointer (some ⟨r,0,none⟩)] w fun q w'=>q= .returned (.int .i64 (l5 n l))∧gz w w':=by
 have hlt:=pz h1;have hrow:=p9 h1;have hk: ∀(L:List E.Item) w',Mem w L w'→pU w' m (AJ l):=fun L w' hw=>h2.mem hw;have hbx: ∀(L:List E.Item) w',Mem w L w'→(box r 127 [.int .i64 n, .map (some m)]).A w':=fun L w' hw=>(hw.1.block r hlt).trans h1;have hor0:l5 n l=xf l (List.range' 0 n) 4294943999:=by
  unfold l5;rw [aM,List.range_eq_range']
 refine aS Tryz.func66 rfl Tryz.ntmps66 rfl ?_;iterate 9 refine G ?_
 refine bO (gj oO (q0 rfl)) ?_;iterate 2 refine G ?_
 refine au rfl ?_ ?_<;>intro hnil
 ·cases hnil
 iterate 11 refine G ?_
 refine qW (en Tryz.call122 (il (q0 rfl))) (fun w' hw=>Tl w' (hbx _ w' hw) (hk _ w' hw) hn hl) rfl (fun _=>rfl) fun bs=>?_;iterate 5 refine G ?_
 refine ct [2,3,4,5,11,12,13,14,15,16,17,18,19,20,21,22,23,24,25,26,27,28,29] (fun s:Nat×Int=>[(11, .int .i64 s.1),(3, .int .i64 s.2)]) (fun _=>[rf (some ⟨bs,0,none⟩) n (sn l n)]) (fun s=>s.1≤n∧l5 n l=xf l (List.range' s.1 (n -s.1)) s.2) (fun s=>n -s.1) (0,4294943999) ⟨rfl,rfl,trivial⟩ (fun w hw=>hw) rfl ⟨aU _,hor0⟩ ?_;rintro ⟨d,t⟩ g ⟨hd,ht⟩;have hd:d≤n:=hd;have ht:l5 n l=xf l (List.range' d (n -d)) t:=ht;iterate 6 refine G ?_
 refine au rfl ?_ ?_<;>intro hlt2
 ·have hlt':d<n:=by simpa using hlt2
  have hget:=Ti l hlt';rw [show n -d=(n -(d+1))+1 by omega,NI] at ht;iterate 7 refine G ?_
  refine bO (bt _ ak ax (q0 rfl) (q0 rfl) (fun _=>⟨rfl,by omega⟩)) ?_;refine bO (eL aJ (q0 rfl) (oR 0 rfl hget rfl)) ?_;iterate 11 refine G ?_
  refine au rfl ?_ ?_<;>intro h0
  ·have h0':fE l (d:Int)=0:=by simpa using h0
   rw [av h0'] at ht;rw [ht];iterate 12 refine G ?_
   exact bH (v:= .int _ _) rfl rfl rfl fun w' hw=>⟨rfl,hw.1⟩
  have h0': ¬fE l (d:Int)=0:=by simpa using h0
  rw [ah h0'] at ht;have hu:(gq (AJ l) ((d:Int),((fE l (d:Int):Nat):Int))).getD (.agg (Ev.cells ⟨0,0,0,0,0,0,0,0,0⟩).toArray)= .agg ((l.find? fun x=>decide (ki x=((d:Int),((fE l (d:Int):Nat):Int)))).getD ⟨0,0,0,0,0,0,0,0,0⟩).cells.toArray:=by
   rw [qI];cases l.find? (fun x=>decide (ki x=((d:Int),((fE l (d:Int):Nat):Int))))<;>rfl
  have hat:((l.find? fun x=>decide (ki x=((d:Int),((fE l (d:Int):Nat):Int)))).getD ⟨0,0,0,0,0,0,0,0,0⟩).at_=OX l d (fE l (d:Int)):=by
   unfold OX;cases l.find? (fun x=>decide (ki x=((d:Int),((fE l (d:Int):Nat):Int))))<;>rfl
  generalize (l.find? fun x=>decide (ki x=((d:Int),((fE l (d:Int):Nat):Int)))).getD ⟨0,0,0,0,0,0,0,0,0⟩=y at hu hat;iterate 10 refine G ?_
  refine bO (bS nE NT r6 (pt (v:= .int _ _) rfl (pt (v:= .int _ _) rfl E.p0)) rfl) ?_;refine bO (Og (key:=((d:Int),((fE l (d:Int):Nat):Int))) (u:= .agg y.cells.toArray) Lq iu cV (q0 rfl) (q0 rfl) (fun w hw=>hk _ w hw) (fun _=>hu)) ?_;refine bO (Fj bE rfl aJ (q0 rfl) rfl) ?_;refine bO (Sj (q0 rfl) (q0 rfl)) ?_;iterate 8 refine G ?_
  exact ay (d+1,min t (OX l d (fE l (d:Int)))) eE ⟨rfl,by show Value.int .i64 (if y.at_<t then y.at_ else t)=Value.int .i64 (min t (OX l (d:Int) ((fE l (d:Int):Nat):Int)));rw [←hat,Int.min_def];congr 1;split<;>split<;>omega,trivial⟩ (fun w hw=>hw) rfl ⟨by show d+1≤n;omega,ht⟩ (by show n -(d+1)<n -d;omega)
 have hde:d=n:=by simp at hlt2;omega
 subst hde;rw [fy] at ht;rw [ht];iterate 12 refine G ?_
 exact bH (v:= .int _ _) rfl rfl rfl fun w' hw=>⟨rfl,hw.1⟩
end Go.Proofs.Net
