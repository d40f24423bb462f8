import Derived.Test.YtakhechhnnjbcaaGreatBC28
import Derived.Test.YtakhechhnnjbcaaGreatBC20
import Derived.Test.YtakhechhnnjbcaaGreatBC19
import Derived.Test.YtakhechhnnjbcaaGreatBC04
import Derived.Test.YtakhechhnnjbcaaGreatTc
set_option maxRecDepth 100000
set_option maxHeartbeats 8000000
set_option linter.unusedVariables false
set_option linter.unusedSimpArgs false
namespace Go.Proofs.Net
open Go Go.RowKit Go.Proofs.E Go.Proofs.Cus Go.Proofs.Rid Go.Proofs.Far Go.Proofs.Hom
def GM (a c:Nat):List k7:=(List.range' (a+1) c).map (pC 3 a)
def qm (n k:Nat):List k7:=(List.range k).flatMap fun a=>GM a (n -(a+1))
def GV (a m:Nat):List k7:=(List.range m).flatMap fun b=>if a≠b then [pC 4 a b] else []
def tC (n k:Nat):List k7:=(List.range k).flatMap fun a=>GV a n
def zN (k:Nat):List k7:=(List.range k).flatMap fun a=>[pC 6 a 0]
def Hl (k:Nat):List k7:=(List.range k).flatMap fun a=>[pC 5 a 0]
def vY (n:Nat):List k7:=qm n n++tC n n++zN n++Hl n
def NE (d:List k7):Prop:= ∀x∈d,x.kind≠1
theorem NE.app {a b:List k7} (h:NE a) (h2:NE b):NE (a++b):=fun x hx=>(aQ.1 hx).elim (h x) (h2 x)
theorem NE.flat {g:Nat→List k7} (h: ∀a,NE (g a)) (l:List Nat):NE (l.flatMap g):=fun x hx=>by
 obtain ⟨a,_,ha⟩:=dO.1 hx;exact h a x ha
theorem NE.one {k:Int} (hk:k≠1) (a b:Nat):NE [pC k a b]:=fun x hx=>by rw [bu.1 hx];exact hk
theorem Nt (a c:Nat):NE (GM a c):=fun x hx=>by
 obtain ⟨b,_,rfl⟩:=bJ.1 hx;show (3:Int)≠1;decide
theorem NK (a m:Nat):NE (GV a m):=NE.flat (fun b=>by
 split
 ·exact NE.one (by decide) a b
 intro x hx;cases hx) _
theorem zI (n k:Nat):NE (qm n k):=NE.flat (fun a=>Nt a _) _
theorem Cv (n k:Nat):NE (tC n k):=NE.flat (fun a=>NK a _) _
theorem Fm (k:Nat):NE (zN k):=NE.flat (fun a=>NE.one (by decide) a 0) _
theorem IM (k:Nat):NE (Hl k):=NE.flat (fun a=>NE.one (by decide) a 0) _
theorem MM (n:Nat):NE (vY n):=(((zI n n).app (Cv n n)).app (Fm n)).app (IM n)
theorem qJ {α:Type} (g:Nat→List α) (k:Nat):(List.range (k+1)).flatMap g=(List.range k).flatMap g++g k:=by rw [mH];simp
theorem gi {α:Type} {g:Nat→List α} {m:Nat} (h: ∀a,(g a).length≤m): ∀k,((List.range k).flatMap g).length≤k*m
 |0=>by simp
 |k+1=>by
  have h1:=gi h k;have h2:=h k;rw [qJ,bV,uv];omega
theorem JJ (a m:Nat):(GV a m).length≤m:=by
 have:=gi (g:=fun b=>if a≠b then [pC 4 a b] else []) (m:=1) (fun b=>by split<;>simp) m;unfold GV;omega
theorem Jy {n:Nat} (h:n≤8) (k:Nat):(qm n k).length≤k*8:=gi (fun a=>by unfold GM;rw [aD,List.length_range'];omega) k
theorem QJ {n:Nat} (h:n≤8) (k:Nat):(tC n k).length≤k*8:=gi (fun a=>jd (JJ a n) h) k
theorem Q0 (k:Nat):(zN k).length≤k*1:=gi (fun a=>by simp) k
theorem Rc (k:Nat):(Hl k).length≤k*1:=gi (fun a=>by simp) k
theorem Ns (a c:Nat):GM a (c+1)=GM a c++[pC 3 a (a+1+c)]:=by unfold GM;rw [List.range'_1_concat,bX];rfl
abbrev stM (f:Fl) (p:Pr) (M:NM) (s:NS) (c1 c2:Nat) (d:List k7) (y:NB) (L:List E.Item):List E.Item:=nf f p M (runN f p s d) y (box c1 33 [.pointer (some ⟨M.nb,0,none⟩)]::box c2 3 [.int .i64 d.length]::L)
theorem EK {f:Fl} {p:Pr} (M:NM) {sv:List (SA×SS)} {ap:List ((Nat×Nat)×List Bool)} {U:List Ev} (hc:NC f p M sv ap U) {s:NS} (d:List k7) {y:NB} (k:Int) (a b:Nat) (T:Int) {c1 c2:Nat} {w0 w:World} {L:List E.Item} (hL:marks L=[]) (hw:Mem w0 (stM f p M s c1 c2 d y L) w)
  (hFP: ∀w,Mem w0 L w→kp w f (FB M)∧lK w p M.p) (hy:NQ sv ap (runN f p s d) y) (hv:NV f U T s) (hd:NE d) (hT:0≤T∧T≤100000) (hdl:d.length≤1000):
  Calls Tryz.prog 48 #[.agg (k7.cells (pC k a b)).toArray, .pointer (some ⟨c1,0,none⟩), .pointer (some ⟨c2,0,none⟩)] w fun q w'=> ∃z:{z:NB//NQ sv ap (runN f p s (d++[pC k a b])) z},q= .returned (.tuple #[])∧
   Mem w0 (stM f p M s c1 c2 (d++[pC k a b]) z.1 L) w':=by
 obtain ⟨hv2,_,_⟩:=BH (p:=p) d hT.1 hv (fun x hx h=>absurd h (hd x hx));have h:=U4 M hc (s:=runN f p s d) (pC k a b) (T+256*d.length) hL hw hFP hy hv2 (by omega) (by show (-9223372036854775808:Int)≤0∧(0:Int)≤9223372036854775807;decide) (by omega);rw [←s4] at h;refine h.mono ?_;rintro q w' ⟨z,hq,hm⟩;refine ⟨z,hq,?_⟩;have hl:(d++[pC k a b]).length=d.length+1:=by simp
 unfold stM;rw [hl];exact hm
theorem Qx (a c:Nat):(GM a c).length=c:=by unfold GM;rw [aD,List.length_range']
theorem R6 (a:Nat):GM a 0=[]:=rfl
theorem R5 (n:Nat):qm n 0=[]:=rfl
theorem GL (n k:Nat):qm n (k+1)=qm n k++GM k (n -(k+1)):=qJ ..
theorem R' (a:Nat):GV a 0=[]:=rfl
theorem GU (a m:Nat):GV a (m+1)=GV a m++if a≠m then [pC 4 a m] else []:=qJ ..
theorem R9 (n:Nat):tC n 0=[]:=rfl
theorem GS (n k:Nat):tC n (k+1)=tC n k++GV k n:=qJ ..
theorem Ss:zN 0=[]:=rfl
theorem On (k:Nat):zN (k+1)=zN k++[pC 6 k 0]:=qJ ..
theorem Sv:Hl 0=[]:=rfl
theorem OJ (k:Nat):Hl (k+1)=Hl k++[pC 5 k 0]:=qJ ..
attribute [local irreducible] runN GM qm GV tC zN Hl
theorem MK {f:Fl} {p:Pr} (M:NM) {sv:List (SA×SS)} {ap:List ((Nat×Nat)×List Bool)} {U:List Ev} (hc:NC f p M sv ap U) {s:NS} {y:NB} (T:Int) {w0 w:World} {L:List E.Item} (hL:marks L=[]) (hw:Mem w0 (nf f p M s y L) w)
  (hFP: ∀w,Mem w0 L w→kp w f (FB M)∧lK w p M.p) (hy:NQ sv ap s y) (hv:NV f U T s) (hT:0≤T∧T≤100000):
  Calls Tryz.prog 20 #[.pointer (some ⟨M.nb,0,none⟩)] w fun q w'=> ∃z:{z:NB//NQ sv ap (runN f p s (vY M.ss.length)) z},q= .returned (.int .i64 (vY M.ss.length).length)∧
   Mem w0 (nf f p M (runN f p s (vY M.ss.length)) z.1 L) w':=by
 have hn8:M.ss.length≤8:=by rw [hc.ss,aD];exact hc.n8
 have hy:NQ sv ap (runN f p s []) y:=by unfold runN;exact hy
 have h0:s=runN f p s []:=by unfold runN;rfl
 rw [h0] at hw;rw [←h0] at hw;generalize hnn:M.ss.length=n at*;refine eu hw hL Tryz.func20 rfl Tryz.ntmps20 rfl ?_;iterate 2 refine G ?_
 refine cd (v:= .pointer _) rfl rfl fun b1=>?_;iterate 5 refine G ?_
 refine cx bh rfl fun b3=>?_;refine fI (v:= .int _ _) rfl rfl ax ?_;iterate 4 refine G ?_
 refine xV G8 rfl rfl ?_;iterate 5 refine G ?_
 refine fY (L':=stM f p M s b1 b3 [] y L) (fun w hw=>by
  have h:=hw.dh 8 [2,3,4,5,6,7,1,0] (by decide) (by decide);rw [h0] at h;exact h) rfl ?_
 iterate 2 refine G ?_
 refine bO (gj e9 (q0 rfl)) ?_;iterate 2 refine G ?_
 refine au rfl ?_ ?_<;>intro hnil
 ·cases hnil
 iterate 14 refine G ?_
 refine ct [5,6,19,20,21,22,23,24,25,26,27,28,29,30,31,32,33,34,35,36,37,38] (fun q:Nat×NB=>[(19, .int .i64 q.1)]) (fun q=>stM f p M s b1 b3 (qm n q.1) q.2 L) (fun q=>q.1≤n∧NQ sv ap (runN f p s (qm n q.1)) q.2) (fun q=>n -q.1) (0,y) ⟨rfl,trivial⟩ (fun w hw=>by rw [R5];exact hw) rfl ⟨aU _,by rw [R5];exact hy⟩ ?_;rintro ⟨k,y⟩ g ⟨hk,hy⟩;have hk:k≤n:=hk;have hy:NQ sv ap (runN f p s (qm n k)) y:=hy;iterate 6 refine G ?_
 refine au rfl ?_ ?_<;>intro hlt
 ·have hlt':k<n:=by simp [hnn] at hlt;omega
  iterate 18 refine G ?_
  refine ct [6,24,25,26,27,28,29,30,31,32,33,34,35,36,37] (fun q:Nat×NB=>[(6, .int .i64 ((k+1+q.1:Nat):Int))]) (fun q=>stM f p M s b1 b3 (qm n k++GM k q.1) q.2 L) (fun q=>k+1+q.1≤n∧NQ sv ap (runN f p s (qm n k++GM k q.1)) q.2) (fun q=>n -q.1) (0,y) ⟨rfl,trivial⟩ (fun w hw=>by rw [R6,cz];exact hw) rfl ⟨hlt',by rw [R6,cz];exact hy⟩ ?_;rintro ⟨c,y⟩ g2 ⟨hc2,hy⟩;have hc2:k+1+c≤n:=hc2;have hy:NQ sv ap (runN f p s (qm n k++GM k c)) y:=hy;have hln:=Jy hn8 k;have hlc:=Qx k c;iterate 12 refine G ?_
  refine au rfl ?_ ?_<;>intro hlt2
  ·have hlt3:k+1+c<n:=by simp [hnn] at hlt2;omega
   iterate 8 refine G ?_
   refine bO (bS ee Dk iK (pt (v:= .int _ _) rfl (pt (v:= .int _ _) rfl (pt (v:= .int _ _) rfl E.p0))) rfl) ?_;refine bZ (bR (wK (cap:=[.pointer (some ⟨b1,0,none⟩), .pointer (some ⟨b3,0,none⟩)]) L9 (q0 rfl) (fun _=>rfl)) (fun w hw=>EK M hc (s:=s) (qm n k++GM k c) (y:=y) 3 k (k+1+c) T (c1:=b1) (c2:=b3) hL hw hFP hy hv ((zI n k).app (Nt k c)) hT (by simp only [bV];skip;omega)) rfl (fun _=>rfl) fun z=>?_);iterate 8 refine G ?_
   have hd:qm n k++GM k (c+1)=qm n k++GM k c++[pC 3 k (k+1+c)]:=by rw [Ns,cP]
   exact ay (c+1,z.1) eE ⟨rfl,trivial⟩ (fun w hw=>by rw [hd];exact hw) rfl ⟨hlt3,by rw [hd];exact z.2⟩ (by show n -(c+1)<n -c;omega)
  have hce:c=n -(k+1):=by simp [hnn] at hlt2;omega
  subst hce;rw [←GL] at hy;iterate 10 refine G ?_
  exact ay (k+1,y) eE ⟨rfl,trivial⟩ (fun w hw=>by rw [GL];exact hw) rfl ⟨hlt',hy⟩ (by show n -(k+1)<n -k;omega)
 have hke:k=n:=by simp [hnn] at hlt;omega
 subst hke;iterate 17 refine G ?_
 refine ct [7,8,44,45,46,47,48,49,50,51,52,53,54,55,56,57,58,59,60,61,62,63,64] (fun q:Nat×NB=>[(44, .int .i64 q.1)]) (fun q=>stM f p M s b1 b3 (qm k k++tC k q.1) q.2 L) (fun q=>q.1≤k∧NQ sv ap (runN f p s (qm k k++tC k q.1)) q.2) (fun q=>k -q.1) (0,y) ⟨rfl,trivial⟩ (fun w hw=>by rw [R9,cz];exact hw) rfl ⟨aU _,by rw [R9,cz];exact hy⟩ ?_;rintro ⟨i,y⟩ g3 ⟨hi,hy⟩;have hi:i≤k:=hi;have hy:NQ sv ap (runN f p s (qm k k++tC k i)) y:=hy;have hl1:=Jy hn8 k;have hl2:=QJ hn8 i;iterate 6 refine G ?_
 refine au rfl ?_ ?_<;>intro hlt4
 ·have hlt5:i<k:=by simp [hnn] at hlt4;omega
  iterate 21 refine G ?_
  refine ct [8,52,53,54,55,56,57,58,59,60,61,62,63] (fun q:Nat×NB=>[(52, .int .i64 q.1)]) (fun q=>stM f p M s b1 b3 (qm k k++tC k i++GV i q.1) q.2 L) (fun q=>q.1≤k∧NQ sv ap (runN f p s (qm k k++tC k i++GV i q.1)) q.2) (fun q=>k -q.1) (0,y) ⟨rfl,trivial⟩ (fun w hw=>by rw [R',cz];exact hw) rfl ⟨aU _,by rw [R',cz];exact hy⟩ ?_;rintro ⟨c,y⟩ g4 ⟨hc2,hy⟩;have hc2:c≤k:=hc2;have hy:NQ sv ap (runN f p s (qm k k++tC k i++GV i c)) y:=hy;have hlc:=JJ i c;iterate 6 refine G ?_
  refine au rfl ?_ ?_<;>intro hlt6
  ·have hlt7:c<k:=by simp [hnn] at hlt6;omega
   iterate 17 refine G ?_
   refine au rfl ?_ ?_<;>intro hne
   ·have hne':i≠c:=fun h=>by subst h;simp at hne
    iterate 4 refine G ?_
    refine bO (bS ee Dk iK (pt (v:= .int _ _) rfl (pt (v:= .int _ _) rfl (pt (v:= .int _ _) rfl E.p0))) rfl) ?_;refine bZ (bR (wK (cap:=[.pointer (some ⟨b1,0,none⟩), .pointer (some ⟨b3,0,none⟩)]) L9 (q0 rfl) (fun _=>rfl)) (fun w hw=>EK M hc (s:=s) (qm k k++tC k i++GV i c) (y:=y) 4 i c T (c1:=b1) (c2:=b3) hL hw hFP hy hv (((zI k k).app (Cv k i)).app (NK i c)) hT (by simp only [bV];skip;omega)) rfl (fun _=>rfl) fun z=>?_);iterate 7 refine G ?_
    have hd:qm k k++tC k i++GV i (c+1)=qm k k++tC k i++GV i c++[pC 4 i c]:=by rw [GU,av hne',cP (qm k k++tC k i)]
    exact ay (c+1,z.1) eE ⟨rfl,trivial⟩ (fun w hw=>by rw [hd];exact hw) rfl ⟨hlt7,by rw [hd];exact z.2⟩ (by show k -(c+1)<k -c;omega)
   have hne': ¬i≠c:=fun h=>by simp at hne;omega
   have hd:qm k k++tC k i++GV i (c+1)=qm k k++tC k i++GV i c:=by rw [GU,ah hne',cz]
   iterate 7 refine G ?_
   exact ay (c+1,y) eE ⟨rfl,trivial⟩ (fun w hw=>by rw [hd];exact hw) rfl ⟨hlt7,by rw [hd];exact hy⟩ (by show k -(c+1)<k -c;omega)
  have hce:c=k:=by simp [hnn] at hlt6;omega
  subst hce;rw [cP,←GS] at hy;iterate 10 refine G ?_
  exact ay (i+1,y) eE ⟨rfl,trivial⟩ (fun w hw=>by rw [GS,←cP];exact hw) rfl ⟨hlt5,hy⟩ (by show c -(i+1)<c -i;omega)
 have hie:i=k:=by simp [hnn] at hlt4;omega
 subst hie;iterate 17 refine G ?_
 refine ct [9,70,71,72,73,74,75,76,77] (fun q:Nat×NB=>[(70, .int .i64 q.1)]) (fun q=>stM f p M s b1 b3 (qm i i++tC i i++zN q.1) q.2 L) (fun q=>q.1≤i∧NQ sv ap (runN f p s (qm i i++tC i i++zN q.1)) q.2) (fun q=>i -q.1) (0,y) ⟨rfl,trivial⟩ (fun w hw=>by rw [Ss,cz];exact hw) rfl ⟨aU _,by rw [Ss,cz];exact hy⟩ ?_;rintro ⟨c,y⟩ g4 ⟨hc2,hy⟩;have hc2:c≤i:=hc2;have hy:NQ sv ap (runN f p s (qm i i++tC i i++zN c)) y:=hy;have hlc:=Q0 c;iterate 6 refine G ?_
 refine au rfl ?_ ?_<;>intro hlt6
 ·have hlt7:c<i:=by simp [hnn] at hlt6;omega
  iterate 13 refine G ?_
  refine bO (bS ee Dk iK (pt (v:= .int _ _) rfl (pt (v:= .int _ _) rfl E.p0)) rfl) ?_;refine bZ (bR (wK (cap:=[.pointer (some ⟨b1,0,none⟩), .pointer (some ⟨b3,0,none⟩)]) L9 (q0 rfl) (fun _=>rfl)) (fun w hw=>EK M hc (s:=s) (qm i i++tC i i++zN c) (y:=y) 6 c 0 T (c1:=b1) (c2:=b3) hL hw hFP hy hv (((zI i i).app (Cv i i)).app (Fm c)) hT (by simp only [bV];skip;omega)) rfl (fun _=>rfl) fun z=>?_);iterate 7 refine G ?_
  have hd:qm i i++tC i i++zN (c+1)=qm i i++tC i i++zN c++[pC 6 c 0]:=by rw [On,cP (qm i i++tC i i)]
  exact ay (c+1,z.1) eE ⟨rfl,trivial⟩ (fun w hw=>by rw [hd];exact hw) rfl ⟨hlt7,by rw [hd];exact z.2⟩ (by show i -(c+1)<i -c;omega)
 have hce:c=i:=by simp [hnn] at hlt6;omega
 subst hce;iterate 17 refine G ?_
 refine ct [10,83,84,85,86,87,88,89,90] (fun q:Nat×NB=>[(83, .int .i64 q.1)]) (fun q=>stM f p M s b1 b3 (qm c c++tC c c++zN c++Hl q.1) q.2 L) (fun q=>q.1≤c∧NQ sv ap (runN f p s (qm c c++tC c c++zN c++Hl q.1)) q.2) (fun q=>c -q.1) (0,y) ⟨rfl,trivial⟩ (fun w hw=>by rw [Sv,cz];exact hw) rfl ⟨aU _,by rw [Sv,cz];exact hy⟩ ?_;rintro ⟨e,y⟩ g5 ⟨he,hy⟩;have he:e≤c:=he;have hy:NQ sv ap (runN f p s (qm c c++tC c c++zN c++Hl e)) y:=hy;have hle:=Rc e;iterate 6 refine G ?_
 refine au rfl ?_ ?_<;>intro hlt8
 ·have hlt9:e<c:=by simp [hnn] at hlt8;omega
  iterate 13 refine G ?_
  refine bO (bS ee Dk iK (pt (v:= .int _ _) rfl (pt (v:= .int _ _) rfl E.p0)) rfl) ?_;refine bZ (bR (wK (cap:=[.pointer (some ⟨b1,0,none⟩), .pointer (some ⟨b3,0,none⟩)]) L9 (q0 rfl) (fun _=>rfl)) (fun w hw=>EK M hc (s:=s) (qm c c++tC c c++zN c++Hl e) (y:=y) 5 e 0 T (c1:=b1) (c2:=b3) hL hw hFP hy hv ((((zI c c).app (Cv c c)).app (Fm c)).app (IM e)) hT (by simp only [bV];skip;omega)) rfl (fun _=>rfl) fun z=>?_);iterate 7 refine G ?_
  have hd:qm c c++tC c c++zN c++Hl (e+1)=qm c c++tC c c++zN c++Hl e++[pC 5 e 0]:=by rw [OJ,cP (qm c c++tC c c++zN c)]
  exact ay (e+1,z.1) eE ⟨rfl,trivial⟩ (fun w hw=>by rw [hd];exact hw) rfl ⟨hlt9,by rw [hd];exact z.2⟩ (by show c -(e+1)<c -e;omega)
 have hee:e=c:=by simp [hnn] at hlt8;omega
 subst hee;iterate 12 refine G ?_
 exact bH (v:= .int _ _) rfl rfl hL fun w' hw=>⟨⟨y,hy⟩,rfl,hw.dh 8 [0,1,2,3,4,5] (by decide) (by decide)⟩
end Go.Proofs.Net
namespace Go.Proofs.Net
open Go Go.RowKit Go.Proofs.E Go.Proofs.Cus Go.Proofs.Rid Go.Proofs.Far Go.Proofs.Hom
theorem JM (dv:Int) (h1:1≤dv) (h2:dv≤256) (w:World):Calls Tryz.prog 24 #[.int .i64 dv] w fun e w'=> ∃x:Nat×Nat,e= .returned (.tuple #[.pointer (some ⟨x.1,0,none⟩), .int .i64 0])∧Mem w (DI x.1 x.2 dv []) w':=by
 refine aS Tryz.func24 rfl Tryz.ntmps24 rfl ?_;iterate 17 refine G ?_
 refine au rfl ?_ ?_<;>intro hb
 ·exfalso;simp at hb;omega
 iterate 5 refine G ?_
 refine bZ (Ff rfl fun bm=>?_);refine bO (bS qR Se Tryz.zeroValue127 (pt (v:= .int _ _) rfl (pt (v:= .map _) rfl E.p0)) rfl) ?_;refine cd (v:= .agg _) rfl rfl fun b13=>?_;iterate 5 refine G ?_
 exact fV (v:= .pointer _) (x:= .int _ _) rfl rfl rfl rfl fun w' hw=>⟨(b13,bm),rfl,hw.pick [0,1] (by decide)⟩
theorem J0 (w:World):Calls Tryz.prog 38 #[] w fun e w'=> ∃x:Nat×Nat,e= .returned (.pointer (some ⟨x.1,0,none⟩))∧Mem w (jv x.1 x.2 none 0 []) w':=by
 refine aS Tryz.func38 rfl Tryz.ntmps38 rfl ?_;iterate 7 refine G ?_
 refine qK rfl fun bm=>?_;refine bO (bS iZ Sd Tryz.zeroValue159 (pt (v:= .map _) rfl E.p0) rfl) ?_;refine cd (v:= .agg _) rfl rfl fun b3=>?_;iterate 4 refine G ?_
 exact bH (v:= .pointer _) rfl rfl rfl fun w' hw=>⟨(b3,bm),rfl,(hw.eX 222 5 En.cells rfl).pick [1,0,2] (by decide)⟩
abbrev NX:=NM×List (SA×SS)×List ((Nat×Nat)×List Bool)×List E.Item
structure WI (f:Fl) (p:Pr) (n:Nat) (x:NX):Prop where
 ss:x.1.ss=x.2.1.map (·.1.s)
 bs:x.1.bs=x.2.2.1.map (·.1)
 sv:x.2.1.map (·.2)=List.replicate n ⟨[],[],0⟩
 ap:x.2.2.1.map (·.2)=List.replicate n (List.replicate n false)
 k:lZ (dD x.2.2.2) fun w=>kp w f (FB x.1)∧lK w p x.1.p
abbrev Pn (s r m d e:Nat):SA×SS:=(⟨s,r,m,d,e,none,0⟩,⟨[],[],0⟩)
theorem Gi {α:Type} (n:Nat) (a:α):List.replicate (n+1) a=List.replicate n a++[a]:=HJ
theorem E1 (f:Fl) (fa:FA) (p:Pr) (a:xz) (n:Nat) (w:World) (hf:kp w f fa) (hp:lK w p a) (hd:fa.dn≤100000) (ht:fa.tn≤100000) (hn:Own.Sx a) (h0:jk f p=0) (hn1:1≤n) (hn8:n≤8):Calls Tryz.prog 11 #[.agg (f.cells fa).toArray, .agg (p.cells a).toArray, .int .i64 n] w fun e w'=> ∃x:{x:NX//WI f p n x},e= .returned (.tuple #[.pointer (some ⟨x.1.1.nb,0,none⟩), .int .i64 0])∧Mem w (q8 f p x.1.1 [] x.1.2.1 x.1.2.2.1 [dD x.1.2.2.2]) w':=by
 have hdv:1≤f.aH∧f.aH≤256:=by have:=rl (pP h0);omega
 refine aS Tryz.func11 rfl Tryz.ntmps11 rfl ?_;iterate 2 refine G ?_
 refine cd (v:= .agg _) rfl rfl fun b3=>?_;refine cd (v:= .agg _) rfl rfl fun b4=>?_;iterate 9 refine G ?_
 refine gV (en Wd (gr (q0 rfl) (q0 rfl))) (fun _ w hw=>CD f fa p a w (hf.mem hw) (hp.mem hw)) ?_;iterate 9 refine G ?_
 refine au rfl ?_ ?_<;>intro h1
 ·exact absurd h0 (by simpa using h1)
 iterate 13 refine G ?_
 refine au rfl ?_ ?_<;>intro h2
 ·exfalso;simp at h2;omega
 iterate 3 refine G ?_
 refine jK [9,24,25,26,27,28,29] (fun x:Own.Uv f×Own.VT p×Nat=>[(9, .pointer (some ⟨x.2.2,0,none⟩))]) (fun x=>[dD x.1.1.2,dD x.2.1.1.2,box x.2.2 97 (Gw f p ⟨x.2.2,x.1.1.1.1,x.1.1.1.2,x.2.1.1.1,none,0,[],none,0,[],none,0⟩ 0),box b4 28 (p.cells a),box b3 24 (f.cells fa)]) (fun _=>True) ?_ ?_
 ·refine AQ ?_;refine aW 0 ?_;refine aW 2 ?_;refine r1 1 0 ?_;refine aL rfl (di (en Tryz.call36 (il (q0 rfl))) (fun w hw=>Own.B9 f fa w (hf.mem hw) hd ht) rfl (fun _=>rfl) fun y=>?_);refine r1 3 1 ?_;refine aL rfl (di (en Tryz.call37 (il (q0 rfl))) (fun w hw=>Own.Al p a w (hp.mem hw) hn) rfl (fun _=>rfl) fun z=>?_);refine aI 1 ?_;refine iQ 4 rfl (bS xK Vm Tryz.zeroValue97 (pt (v:= .agg _) rfl (pt (v:= .agg _) rfl E.p0)) rfl) ?_;refine r1 5 2 ?_;refine aL rfl (mo (v:= .agg _) rfl rfl fun b29=>?_);refine aI 2 ?_;refine xw (bK 3) ?_;refine aW 6 ?_;refine jz 0 ?_;exact aO ((y,z,b29):Own.Uv f×Own.VT p×Nat) eE ⟨rfl,trivial⟩ (fun w hw=>hw) rfl trivial
 rintro ⟨⟨⟨⟨d0,t0⟩,V0⟩,hv0⟩,⟨⟨p0',V1⟩,hv1⟩,nb⟩ g _;iterate 9 refine G ?_
 refine ct [6,7,10,11,31,32,33,34,35,36,37,38,39,40,41,42,43,44,45,46,47,48,49,50,51,52,53,54,55,56,57,58,59,60,61,62,63,64,65,66] (fun s:Nat×List (SA×SS)×List ((Nat×Nat)×List Bool)×(Option Addr×Nat)×Option Addr×Nat=>[(31, .int .i64 s.1)]) (fun s=>[dD (s.2.1.flatMap (p5 f.aH)),box nb 97 (Gw f p ⟨nb,d0,t0,p0',s.2.2.2.1.1,s.2.2.2.1.2,s.2.1.map (·.1.s),s.2.2.2.2.1,s.2.2.2.2.2,s.2.2.1.map (·.1),none,0⟩ 0),xX s.2.2.2.1.1 s.2.2.2.1.2 (s.2.1.map (·.1.s)),dD (s.2.2.1.flatMap rG),yN n s.2.2.2.2.1 s.2.2.2.2.2 (s.2.2.1.map (·.1)),dD V1,dD V0,box b4 28 (p.cells a),box b3 24 (f.cells fa)]) (fun s=>s.1≤n∧s.2.1.map (·.2)=List.replicate s.1 ⟨[],[],0⟩∧s.2.2.1.map (·.2)=List.replicate s.1 (List.replicate n false)) (fun s=>n -s.1) (0,[],[],(none,0),none,0) ⟨rfl,trivial⟩ (fun w hw=>(((hw.pick [2,1,0,3,4] (by decide)).eX 103 1 (Po n) rfl).wE (f:=rG).eX 98 1 Jk rfl).wE (f:=p5 f.aH)|>.pick [0,4,1,2,3,5,6,7,8] (by decide)) rfl ⟨aU _,rfl,rfl⟩ ?_;rintro ⟨k,sv,ap,⟨sA,sc⟩,bA,bc⟩ g2 ⟨hk,hsv,hap⟩;have hk:k≤n:=hk;have hsv:sv.map (·.2)=List.replicate k ⟨[],[],0⟩:=hsv;have hap:ap.map (·.2)=List.replicate k (List.replicate n false):=hap;have hsl:(sv.map (·.1.s)).length=k:=by have:=aT List.length hsv;simpa using this
 have hbl:(ap.map (·.1)).length=k:=by have:=aT List.length hap;simpa using this
 generalize pw:sv.map (·.1.s)=ss at*;generalize hbs:ap.map (·.1)=bs at*;iterate 6 refine G ?_
 refine au rfl ?_ ?_<;>intro hlt
 ·have hlt':k<n:=by simpa using hlt
  iterate 8 refine G ?_
  refine qW (en Tryz.call24 (il (q0 rfl))) (fun w _=>JM f.aH hdv.1 hdv.2 w) rfl (fun _=>rfl) fun y=>?_;iterate 14 refine G ?_
  refine au rfl ?_ ?_<;>intro he
  ·simp at he
  iterate 3 refine G ?_
  refine jK [42,43,44,45,46,47,48,49,50,51,52,53,54] (fun x:((Nat×Nat)×Nat)×Option Addr×Nat=>[]) (fun x=>[dD ((sv++[Pn x.1.2 y.1 y.2 x.1.1.1 x.1.1.2]).flatMap (p5 f.aH)),box nb 97 (Gw f p ⟨nb,d0,t0,p0',x.2.1,x.2.2,ss++[x.1.2],bA,bc,bs,none,0⟩ 0),xX x.2.1 x.2.2 (ss++[x.1.2]),dD (ap.flatMap rG),yN n bA bc bs,dD V1,dD V0,box b4 28 (p.cells a),box b3 24 (f.cells fa)]) (fun _=>True) ?_ ?_
  ·refine zd 5 ?_;refine aW 0 ?_;refine aW 1 ?_;refine aW 2 ?_;refine aW 3 ?_;refine aW 5 ?_;refine kY (i:=4) (j:=6) (by decide+kernel) (bK 5) ?_ ?_
   ·refine aL rfl (gY (ea (v:= .slice sA ss.length sc) nT (q0 rfl) cb) rfl rfl ?_);refine r1 6 5 ?_;refine aL rfl (di (en Tryz.call38 (Iw)) (fun w _=>J0 w) rfl (fun _=>rfl) fun z=>?_);refine iQ 7 rfl (bS lB G0 r7 (pt (v:= .pointer _) rfl (pt (v:= .pointer _) rfl E.p0)) rfl) ?_;refine r1 8 8 ?_;refine aL rfl (mo (v:= .agg _) rfl rfl fun b50=>?_);refine aI 3 ?_;refine r1 9 9 ?_;refine aL rfl (dE [(.pointer none)] cv fZ jW rfl (by kernel_rfl) (pt (v:= .pointer _) rfl E.p0) rfl rfl fun b51=>?_);refine aI 4 ?_;refine r1 10 10 ?_;refine aL rfl (ba (k:=1) (i:=Tryz.t98) (enc:=Jk) 9 cv (by kernel_rfl) rfl rfl rfl rfl (fun _=>rfl) (fun _=>rfl) rfl rfl rfl (fun w hw=>bg (xs:=[b50]) hw (j:=4) rfl (fun _=>rfl) (by simp)) ⟨by simp;omega,by decide⟩ rfl fun A2 c2=>?_);refine aW 11 ?_;refine aW 12 ?_;refine r1 13 10 ?_;refine aL rfl (kU (v:= .slice _ _ _) rfl rfl mD ?_);refine jz 10 ?_;exact aO (((z,b50),A2,c2):((Nat×Nat)×Nat)×Option Addr×Nat) eE trivial (fun w hw=>Mem.ph (f:=p5 f.aH) (y:=Pn b50 y.1 y.2 z.1 z.2) (hw.pick [3,5,6,0,1,2,7,8,9,10,11,12,13,14,15] (by decide))) rfl trivial
   refine aL rfl (di (en Tryz.call38 (Iw)) (fun w _=>J0 w) rfl (fun _=>rfl) fun z=>?_);refine iQ 7 rfl (bS lB G0 r7 (pt (v:= .pointer _) rfl (pt (v:= .pointer _) rfl E.p0)) rfl) ?_;refine kY (i:=4) (j:=8) (by decide+kernel) (bK 8) ?_ ?_
   ·refine aL rfl (gY (ea (v:= .slice sA ss.length sc) nT (q0 rfl) cb) rfl rfl ?_);refine r1 8 8 ?_;refine aL rfl (mo (v:= .agg _) rfl rfl fun b50=>?_);refine aI 3 ?_;refine r1 9 9 ?_;refine aL rfl (dE [(.pointer none)] cv fZ jW rfl (by kernel_rfl) (pt (v:= .pointer _) rfl E.p0) rfl rfl fun b51=>?_);refine aI 4 ?_;refine r1 10 10 ?_;refine aL rfl (ba (k:=1) (i:=Tryz.t98) (enc:=Jk) 9 cv (by kernel_rfl) rfl rfl rfl rfl (fun _=>rfl) (fun _=>rfl) rfl rfl rfl (fun w hw=>bg (xs:=[b50]) hw (j:=4) rfl (fun _=>rfl) (by simp)) ⟨by simp;omega,by decide⟩ rfl fun A2 c2=>?_);refine aW 11 ?_;refine aW 12 ?_;refine r1 13 10 ?_;refine aL rfl (kU (v:= .slice _ _ _) rfl rfl mD ?_);refine jz 10 ?_;exact aO (((z,b50),A2,c2):((Nat×Nat)×Nat)×Option Addr×Nat) eE trivial (fun w hw=>Mem.ph (f:=p5 f.aH) (y:=Pn b50 y.1 y.2 z.1 z.2) (hw.pick [3,5,6,0,1,2,7,8,9,10,11,12,13,14,15] (by decide))) rfl trivial
   refine aL rfl (mo (v:= .agg _) rfl rfl fun b50=>?_);refine aI 3 ?_;refine kY (i:=4) (j:=9) (by decide+kernel) (bK 9) ?_ ?_
   ·refine aL rfl (gY (ea (v:= .slice sA ss.length sc) nT (q0 rfl) cb) rfl rfl ?_);refine r1 9 9 ?_;refine aL rfl (dE [(.pointer none)] cv fZ jW rfl (by kernel_rfl) (pt (v:= .pointer _) rfl E.p0) rfl rfl fun b51=>?_);refine aI 4 ?_;refine r1 10 10 ?_;refine aL rfl (ba (k:=1) (i:=Tryz.t98) (enc:=Jk) 9 cv (by kernel_rfl) rfl rfl rfl rfl (fun _=>rfl) (fun _=>rfl) rfl rfl rfl (fun w hw=>bg (xs:=[b50]) hw (j:=4) rfl (fun _=>rfl) (by simp)) ⟨by simp;omega,by decide⟩ rfl fun A2 c2=>?_);refine aW 11 ?_;refine aW 12 ?_;refine r1 13 10 ?_;refine aL rfl (kU (v:= .slice _ _ _) rfl rfl mD ?_);refine jz 10 ?_;exact aO (((z,b50),A2,c2):((Nat×Nat)×Nat)×Option Addr×Nat) eE trivial (fun w hw=>Mem.ph (f:=p5 f.aH) (y:=Pn b50 y.1 y.2 z.1 z.2) (hw.pick [3,5,6,0,1,2,7,8,9,10,11,12,13,14,15] (by decide))) rfl trivial
   refine aL rfl (dE [(.pointer none)] cv fZ jW rfl (by kernel_rfl) (pt (v:= .pointer _) rfl E.p0) rfl rfl fun b51=>?_);refine aI 4 ?_;refine r1 4 10 ?_;refine aL rfl (gY (ea (v:= .slice sA ss.length sc) nT (q0 rfl) cb) rfl rfl ?_);refine r1 10 10 ?_;refine aL rfl (ba (k:=1) (i:=Tryz.t98) (enc:=Jk) 9 cv (by kernel_rfl) rfl rfl rfl rfl (fun _=>rfl) (fun _=>rfl) rfl rfl rfl (fun w hw=>bg (xs:=[b50]) hw (j:=4) rfl (fun _=>rfl) (by simp)) ⟨by simp;omega,by decide⟩ rfl fun A2 c2=>?_);refine aW 11 ?_;refine aW 12 ?_;refine r1 13 10 ?_;refine aL rfl (kU (v:= .slice _ _ _) rfl rfl mD ?_);refine jz 10 ?_;exact aO (((z,b50),A2,c2):((Nat×Nat)×Nat)×Option Addr×Nat) eE trivial (fun w hw=>Mem.ph (f:=p5 f.aH) (y:=Pn b50 y.1 y.2 z.1 z.2) (hw.pick [3,5,6,0,1,2,7,8,9,10,11,12,13,14,15] (by decide))) rfl trivial
  rintro ⟨⟨z,sb⟩,A2,c2⟩ g3 _;have hcl: ∀{b61:Nat} {A3:Option Addr} {c3:Nat} {w':World} {X:E.Item},Mem w [E.dR 4 1 Ht (some ⟨b61,0,none⟩) n (List.replicate n false),X,dD ((sv++[Pn sb y.1 y.2 z.1 z.2]).flatMap (p5 f.aH)),box nb 97 (Gw f p ⟨nb,d0,t0,p0',A2,c2,ss++[sb],A3,c3,bs++[(b61,n)],none,0⟩ 0),xX A2 c2 (ss++[sb]),dD (ap.flatMap rG),yN n A3 c3 (bs++[(b61,n)]),dD V1,dD V0,box b4 28 (p.cells a),box b3 24 (f.cells fa)] w'→Mem w [dD ((sv++[Pn sb y.1 y.2 z.1 z.2]).flatMap (p5 f.aH)),box nb 97 (Gw f p ⟨nb,d0,t0,p0',A2,c2,ss++[sb],A3,c3,bs++[(b61,n)],none,0⟩ 0),xX A2 c2 (ss++[sb]),dD ((ap++[((b61,n),List.replicate n false)]).flatMap rG),yN n A3 c3 (bs++[(b61,n)]),dD V1,dD V0,box b4 28 (p.cells a),box b3 24 (f.cells fa)] w':=fun {b61 _ _ _ _} hw=>(Mem.ph (f:=rG) (y:=((b61,n),List.replicate n false)) (by
   have h:=hw.pick [0,5,2,3,4,6,7,8,9,10] (by decide);unfold rG;exact h)).pick [1,2,3,0,4,5,6,7,8] (by decide)
  refine G ?_;refine jK [55,56,57,58,59,60,61,62,63,64,65] (fun x:Nat×Option Addr×Nat=>[]) (fun x=>[dD ((sv++[Pn sb y.1 y.2 z.1 z.2]).flatMap (p5 f.aH)),box nb 97 (Gw f p ⟨nb,d0,t0,p0',A2,c2,ss++[sb],x.2.1,x.2.2,bs++[(x.1,n)],none,0⟩ 0),xX A2 c2 (ss++[sb]),dD ((ap++[((x.1,n),List.replicate n false)]).flatMap rG),yN n x.2.1 x.2.2 (bs++[(x.1,n)]),dD V1,dD V0,box b4 28 (p.cells a),box b3 24 (f.cells fa)]) (fun _=>True) ?_ ?_
  ·refine zd 5 ?_;refine aW 0 ?_;refine aW 1 ?_;refine aW 2 ?_;refine aW 3 ?_;refine aW 5 ?_;refine kY (i:=4) (j:=6) (by decide+kernel) (bK 5) ?_ ?_
   ·refine aL rfl (gY (ea (v:= .slice bA bs.length bc) wq (q0 rfl) cb) rfl rfl ?_);refine r1 6 5 ?_;refine aL rfl (jZ (i:=Tryz.t4) (k:=1) (n:=n) (m:=n) Ht false eN (by kernel_rfl) rfl rfl rfl rfl rfl ⟨⟨bq _,by omega⟩,by decide⟩ rfl fun b61=>?_);refine r1 7 6 ?_;refine aL rfl (dE [(.slice none 0 0)] dQ iX oM rfl (by kernel_rfl) (pt (v:= .slice _ _ _) rfl E.p0) rfl rfl fun b62=>?_);refine aI 1 ?_;refine r1 8 7 ?_;refine aL rfl (ba (k:=1) (i:=Tryz.t103) (enc:=Po n) 6 dQ (by kernel_rfl) rfl rfl rfl rfl (fun _=>rfl) (fun _=>rfl) rfl rfl rfl (fun w hw=>bg (xs:=[(b61,n)]) hw (j:=1) rfl (fun _=>rfl) (by simp)) ⟨by simp;omega,by decide⟩ rfl fun A3 c3=>?_);refine aW 9 ?_;refine aW 10 ?_;refine r1 11 7 ?_;refine aL rfl (kU (v:= .slice _ _ _) rfl rfl ud ?_);refine jz 7 ?_;exact aO ((b61,A3,c3):Nat×Option Addr×Nat) eE trivial (fun w hw=>hcl hw) rfl trivial
   refine aL rfl (jZ (i:=Tryz.t4) (k:=1) (n:=n) (m:=n) Ht false eN (by kernel_rfl) rfl rfl rfl rfl rfl ⟨⟨bq _,by omega⟩,by decide⟩ rfl fun b61=>?_);refine kY (i:=4) (j:=7) (by decide+kernel) (bK 6) ?_ ?_
   ·refine aL rfl (gY (ea (v:= .slice bA bs.length bc) wq (q0 rfl) cb) rfl rfl ?_);refine r1 7 6 ?_;refine aL rfl (dE [(.slice none 0 0)] dQ iX oM rfl (by kernel_rfl) (pt (v:= .slice _ _ _) rfl E.p0) rfl rfl fun b62=>?_);refine aI 1 ?_;refine r1 8 7 ?_;refine aL rfl (ba (k:=1) (i:=Tryz.t103) (enc:=Po n) 6 dQ (by kernel_rfl) rfl rfl rfl rfl (fun _=>rfl) (fun _=>rfl) rfl rfl rfl (fun w hw=>bg (xs:=[(b61,n)]) hw (j:=1) rfl (fun _=>rfl) (by simp)) ⟨by simp;omega,by decide⟩ rfl fun A3 c3=>?_);refine aW 9 ?_;refine aW 10 ?_;refine r1 11 7 ?_;refine aL rfl (kU (v:= .slice _ _ _) rfl rfl ud ?_);refine jz 7 ?_;exact aO ((b61,A3,c3):Nat×Option Addr×Nat) eE trivial (fun w hw=>hcl hw) rfl trivial
   refine aL rfl (dE [(.slice none 0 0)] dQ iX oM rfl (by kernel_rfl) (pt (v:= .slice _ _ _) rfl E.p0) rfl rfl fun b62=>?_);refine aI 1 ?_;refine r1 4 7 ?_;refine aL rfl (gY (ea (v:= .slice bA bs.length bc) wq (q0 rfl) cb) rfl rfl ?_);refine r1 8 7 ?_;refine aL rfl (ba (k:=1) (i:=Tryz.t103) (enc:=Po n) 6 dQ (by kernel_rfl) rfl rfl rfl rfl (fun _=>rfl) (fun _=>rfl) rfl rfl rfl (fun w hw=>bg (xs:=[(b61,n)]) hw (j:=1) rfl (fun _=>rfl) (by simp)) ⟨by simp;omega,by decide⟩ rfl fun A3 c3=>?_);refine aW 9 ?_;refine aW 10 ?_;refine r1 11 7 ?_;refine aL rfl (kU (v:= .slice _ _ _) rfl rfl ud ?_);refine jz 7 ?_;exact aO ((b61,A3,c3):Nat×Option Addr×Nat) eE trivial (fun w hw=>hcl hw) rfl trivial
  rintro ⟨b6,A3,c3⟩ g4 _;iterate 6 refine G ?_
  have e1:(sv++[Pn sb y.1 y.2 z.1 z.2]).map (·.1.s)=ss++[sb]:=by rw [bX,pw];rfl
  have e2:(ap++[((b6,n),List.replicate n false)]).map (·.1)=bs++[(b6,n)]:=by rw [bX,hbs];rfl
  exact ay (k+1,sv++[Pn sb y.1 y.2 z.1 z.2],ap++[((b6,n),List.replicate n false)],(A2,c2),A3,c3) eE ⟨rfl,trivial⟩ (fun w hw=>by simp only [e1,e2];exact hw) rfl ⟨by show k+1≤n;omega,by show List.map _ (_++_)=List.replicate (k+1) _;rw [bX,hsv,Gi];rfl,by show List.map _ (_++_)=List.replicate (k+1) _;rw [bX,hap,Gi];rfl⟩ (by show n -(k+1)<n -k;omega)
 have hend:k=n:=by simp at hlt;omega
 subst hend;iterate 13 refine G ?_
 exact fV (v:= .pointer _) (x:= .int _ _) rfl rfl rfl rfl fun w' hw=>⟨⟨(⟨nb,d0,t0,p0',sA,sc,ss,bA,bc,bs,none,0⟩,sv,ap,[dD V1,dD V0]),pw.symm,hbs.symm,hsv,hap,rfl,fun w hA=>⟨by
  obtain ⟨a1,a2⟩:=hv0.ok w (hA.1 (dD V0) (by simp));exact ⟨a1,a2⟩,hv1.ok w (hA.1 (dD V1) (by simp))⟩⟩,rfl,by
  have h:=(Mem.dD (T:=[dD V1,dD V0]) (hw.pick [5,6,0,1,2,3,4] (by decide))).eX 90 3 Py.cells rfl (c:=0);have h2:=h.pick [3,4,6,0,2,5,1] (by decide);rw [←hsl] at h2;exact h2⟩
theorem fK {a b:Bool} (h:a=b):Ending.returned (.bool a)= .returned (.bool b):=by rw [h]
theorem iJ {α:Type} (l:List α) (k:Nat) (x:α) (h:l[k]?=some x):l.take (k+1)=l.take k++[x]:=wB l k x h
theorem To (A B:Option Addr) (n m c d:Nat) (xs ys:List Py) (w:World) (hx:gJ w 3 Py.cells A n xs) (hy:gJ w 3 Py.cells B m ys):
  Calls Tryz.prog 32 #[.slice A n c, .slice B m d] w fun e w'=>e= .returned (.bool (decide (xs=ys)))∧gz w w':=by
 have hl:=hx.1;have hn:=hx.2.1;have hl2:=hy.1;refine aS Tryz.func32 rfl Tryz.ntmps32 rfl ?_;iterate 15 refine G ?_
 refine au rfl ?_ ?_<;>intro h1
 ·iterate 7 refine G ?_
  exact bH (v:= .bool _) rfl rfl rfl fun w' hw=>⟨fK (by
   rw [UI,dm];intro e;rw [e] at hl;simp at h1;omega),hw.1⟩
 have hnm:n=m:=by simp at h1;omega
 subst hnm;iterate 9 refine G ?_
 refine ct [4,5,11,12,13,14,15,16,17,18,19,20,21,22,23,24,25] (fun k:Nat=>[(5, .int .i64 k)]) (fun _=>[]) (fun k=>k≤n∧xs.take k=ys.take k) (fun k=>n -k) 0 ⟨rfl,trivial⟩ (fun _ h=>h) rfl ⟨aU _,rfl⟩ ?_;rintro k g ⟨hk,hall⟩;iterate 9 refine G ?_
 refine au rfl ?_ ?_<;>intro hlt
 ·simp at hlt;obtain ⟨b,off,x,rfl,hbl,hxk,hrx⟩:=hx.at_ hlt;obtain ⟨b2,off2,y,rfl,hbl2,hyk,hry⟩:=hy.at_ hlt;iterate 5 refine G ?_
  refine tB ?_;iterate 2 refine G ?_
  refine bO (bt _ gT fj (q0 rfl) (q0 rfl) (fun _=>⟨rfl,by omega⟩)) ?_;iterate 3 refine G ?_
  refine bO (bt _ gT fj (q0 rfl) (q0 rfl) (fun _=>⟨rfl,by omega⟩)) ?_;refine G ?_;refine bO (CM (Oa x y) (by kernel_rfl) (q0 rfl) (q0 rfl)) ?_;iterate 2 refine G ?_
  refine au rfl ?_ ?_<;>intro hb
  ·iterate 11 refine G ?_
   exact bH (v:= .bool _) rfl rfl rfl fun w' hw=>⟨fK (by
    rw [UI,dm];intro e;rw [e,hyk] at hxk;cases hxk;simp at hb),hw.1⟩
  have hxy:x=y:=by simpa using hb
  iterate 8 refine G ?_
  exact ay (k+1) eE ⟨rfl,trivial⟩ (fun w hw=>iT.2 hw.1) rfl ⟨by omega,by rw [iJ _ _ _ hxk,iJ _ _ _ hyk,hall,hxy]⟩ (by show n -(k+1)<n -k;omega)
 obtain rfl:k=n:=by simp at hlt;omega
 iterate 11 refine G ?_
 exact bH (v:= .bool _) rfl rfl rfl fun w' hw=>⟨fK (by
  rw [UI,dd];rw [bN (by omega),bN (by omega)] at hall;exact hall),hw.1⟩
end Go.Proofs.Net
namespace Go.Proofs.Far
open Go.Proofs.Cus Go.Proofs.Rid
def TZ (id from_ wh pl:Int):Rd:=⟨id,1,⟨from_,from_⟩,⟨from_+590,from_+590⟩,false,[⟨0,⟨from_,from_⟩,⟨from_+590,from_+590⟩⟩],[],2,0,wh,pl⟩
theorem Nw:Co []=0:=by
 unfold Co gE Ho;simp [uR,AE]
theorem Dw:gE []=[]:=by
 unfold gE Ho;simp [uR]
theorem QU (id from_ wh pl:Int):nR (TZ id from_ wh pl)=590:=by
 unfold nR AI;have h1:(TZ id from_ wh pl).bz.map pQ=[]:=rfl;rw [h1,Dw];have h2:pO (TZ id from_ wh pl)=⟨from_,from_+590⟩:=by
  unfold pO TZ;simp only;rw [show max from_ (from_+590)=from_+590 by omega]
 rw [h2];have h3:lS ⟨from_,from_+590⟩ []=[⟨from_,from_+590⟩]:=by
  unfold lS one;rw [ah (by simp only;omega)];simp only [gD,SQ,cz];show GH ⟨from_,from_+590⟩ ([],from_)=_;exact av (show from_<from_+590 by omega)
 rw [h3];unfold Co;rw [zf];unfold one;rw [ah (by simp only;omega)];unfold AE;simp;omega
theorem QW (id from_ wh pl:Int):rK (TZ id from_ wh pl)=0:=by
 unfold rK AK;have h1:(TZ id from_ wh pl).bz.map pN=[]:=rfl;rw [h1,Dw];have h3: ∀w,lY w []=[]:=fun w=>by
  unfold lY;simp
 rw [h3,Nw]
theorem NW (p:Pr) (r:Rd) (u s q:Int) (h1:nR r=s) (h2:rK r=q):nk p r u=
  (let t:=jh p r
   let b3:=k6 (k6 (k6 ⟨r.id,r.rider,[],0⟩ 1 (o8 p r) t.unlock) 2 (o8 p r) (nS t s)) 3 (o8 p r) (qd t q)
   let b4:=k6 b3 4 (jE p r).2 (max (jE p r).1 (-b3.total))
   let part:=nS t (min s (p.iE.getD u.toNat default).fS)
   let b5:=if 0≤u then k6 b4 5 u (-(min b4.total (t.unlock+part))) else b4
   if 1000000000000<nS t s then none else if 1000000000000<qd t q then none else if 0≤u∧1000000000000<part then none else if 1000000000000<b5.total then none else some b5):=by
 subst h1 h2;rfl
theorem OA {l:List Rd} (hg:Good l) (hc:l.filter (fun r=>!r.open_)=l) (hs:l.Pairwise fun a b=>eB b a=false):iG l=l:=(vg hg (by rw [hc]) hs).symm
theorem Ue {f:Fl} {p:Pr} {l:List Rd} {vs:List Pen.V} {B C:List iY} (h1:jk f p=0) (h2:lR l=0) (h3:Pen.sd vs=0) (hc:l.filter (fun r=>!r.open_)=l) (hs:l.Pairwise fun a b=>eB b a=false) (hB:th p (l.zip (nG p l))=some B) (hC:tZ p vs (B.zip (kQ p l B))=some C) (hn:(C.map (·.aP)).Nodup) (ho:C.Pairwise fun a b=>a.aP≤b.aP):dS f p l vs=0∧iW f p l vs=C:=by
 have hl:=OA (nH h2) hc hs;have hall:vp p l vs=some C:=by
  unfold vp;rw [hl,hB];simp only;rw [hC];simp only;rw [←wL (uB C) hn ho]
 constructor
 ·unfold dS;rw [ah (by omega),ah (by omega),ah (by omega),ah (by rw [hall];simp)]
 unfold iW;rw [ah (by omega),hall];rfl
theorem TP {p:Pr} {r1:Rd} {u1:Int} {b1:iY} (h1:nk p r1 u1=some b1):th p [(r1,u1)]=some [b1]:=by
 unfold th;simp only [cO,List.foldl_nil];unfold ri;simp only [h1,ka]
end Go.Proofs.Far
namespace Go.Proofs.Net
open Go.Proofs.Cus Go.Proofs.Rid Go.Proofs.Far
def xF:Fl:=⟨2,2,1,[],[]⟩
def xP:Pr:=⟨[⟨0,100,60,0,20,5⟩],[],[],[],0,[],0⟩
def xL:List Ev:=[⟨0,1,10,10,2,0,0,0,0⟩,⟨0,2,1010,1010,3,0,0,1,7⟩,⟨0,3,1600,1600,2,0,0,0,0⟩,⟨0,4,1601,1601,10,0,0,0,0⟩]
def xR:Rd:=TZ 7 1010 2 0
def xB:iY:=⟨7,1,[⟨1,0,100⟩,⟨2,0,200⟩],300⟩
theorem Mg:fH xL=xL:=yY (by decide+kernel)
theorem UP:setOf xL=xL:=by
 unfold setOf;rw [show xL.mergeSort Cs=xL from yY (by decide+kernel),show gn eH xL=xL by decide+kernel];exact Mg
theorem UT:gS xF xL=xL.take 3:=by unfold gS;rw [UP];decide+kernel
theorem Px:(kf xF xL).cg=[xR]:=by unfold kf;rw [UT];decide+kernel
theorem UR:iw xF xL=[xR]:=by
 unfold iw;rw [av (by decide),Px];unfold Dn;simp
theorem UQ:gO xF xL=[xR]:=by unfold gO;rw [Mg,UR];decide+kernel
theorem PA:nk xP xR (-1)=some xB:=by unfold xR;rw [NW _ _ _ _ _ (QU ..) (QW ..)];decide
theorem I6:dS xF xP [xR] []=0∧iW xF xP [xR] []=[xB]:=
 Ue (B:=[xB]) (by decide) (by decide) (by decide) (by decide) (by decide) (TP PA) (by decide) (by decide) (by decide)
theorem SU (n:Nat) (i:Int) (b:List Py) (d:List En) (l:Int):tN xF xP n i b ⟨xL,d,l⟩=Ra n i b ⟨xL,d,l⟩ [xB]:=by
 unfold tN;simp only;rw [UQ,ah (by rw [I6.1];decide),I6.2]
def xS (a b:SS) (k:List Py):NS:=⟨[a,b],[[false,false],[false,false]],k⟩
def pK:Py:=⟨7,1,300⟩
def xZ:SS:=⟨[],[],0⟩
def xE (i:Nat):k7:=⟨1,0,0,xL.getD i default⟩
theorem WX: ∀i,i<4→mP xF xP (xS ⟨xL.take i,[],0⟩ xZ []) (xE i)=(xS ⟨xL.take (i+1),[],0⟩ xZ [],1,0):=by decide+kernel
theorem W3:mP xF xP (xS ⟨xL,[],0⟩ xZ []) (pC 5 0 0)=(xS ⟨xL,[],0⟩ xZ [],0,0):=by
 have h:mP xF xP (xS ⟨xL,[],0⟩ xZ []) (pC 5 0 0)=OH xF xP (xS ⟨xL,[],0⟩ xZ []) 0 ⟨xL,[],0⟩:=rfl;rw [h];unfold OH;rw [SU];decide+kernel
theorem W0:mP xF xP (xS ⟨xL,[],0⟩ xZ []) (pC 4 1 0)=(xS ⟨xL,[],0⟩ ⟨xL,[],0⟩ [],4,0):=by
 have h:mP xF xP (xS ⟨xL,[],0⟩ xZ []) (pC 4 1 0)=(v8 (xS ⟨xL,[],0⟩ xZ []) 1 ⟨(fq 1 [] (fH xL)).1,[],0⟩,(fq 1 [] (fH xL)).2,0):=rfl;rw [h,Mg];decide+kernel
theorem WZ:mP xF xP (xS ⟨xL,[],0⟩ ⟨xL,[],0⟩ []) (pC 6 1 1)=(xS ⟨xL,[],0⟩ ⟨xL,[],1⟩ [],0,0):=by decide+kernel
theorem WY:mP xF xP (xS ⟨xL,[],0⟩ ⟨xL,[],1⟩ []) (pC 5 1 0)=(xS ⟨xL,[],0⟩ ⟨xL,[⟨pK,0,1⟩],0⟩ [pK],0,0):=by
 have h:mP xF xP (xS ⟨xL,[],0⟩ ⟨xL,[],1⟩ []) (pC 5 1 0)=OH xF xP (xS ⟨xL,[],0⟩ ⟨xL,[],1⟩ []) 1 ⟨xL,[],1⟩:=rfl;rw [h];unfold OH;rw [SU];decide+kernel
theorem x_9:mP xF xP (xS ⟨xL,[],0⟩ ⟨xL,[⟨pK,0,1⟩],0⟩ [pK]) (pC 5 1 0)=(xS ⟨xL,[],0⟩ ⟨xL,[⟨pK,1,2⟩],0⟩ [pK],1,0):=by
 have h:mP xF xP (xS ⟨xL,[],0⟩ ⟨xL,[⟨pK,0,1⟩],0⟩ [pK]) (pC 5 1 0)=OH xF xP (xS ⟨xL,[],0⟩ ⟨xL,[⟨pK,0,1⟩],0⟩ [pK]) 1 ⟨xL,[⟨pK,0,1⟩],0⟩:=rfl;rw [h];unfold OH;rw [SU];decide+kernel
end Go.Proofs.Net
