import Derived.Test.YtakhechhnnjbcaaGreatBN28
import Derived.Test.YtakhechhnnjbcaaGreatBN20
import Derived.Test.YtakhechhnnjbcaaGreatBN19
import Derived.Test.YtakhechhnnjbcaaGreatBN04
import Derived.Test.YtakhechhnnjbcaaGreatTy
set_option maxRecDepth 100000
set_option maxHeartbeats 8000000
set_option linter.unusedVariables false
set_option linter.unusedSimpArgs false
namespace Go.Proofs.Net
open Go Go.RowKit Go.Proofs.E Go.Proofs.Cus Go.Proofs.Rid Go.Proofs.Far Go.Proofs.Hom
def lkC (a c:Nat):List Stp:=(List.range' (a+1) c).map (stp 3 a)
def lkI (n k:Nat):List Stp:=(List.range k).flatMap fun a=>lkC a (n -(a+1))
def gsC (a m:Nat):List Stp:=(List.range m).flatMap fun b=>if a≠b then [stp 4 a b] else []
def gsI (n k:Nat):List Stp:=(List.range k).flatMap fun a=>gsC a n
def drI (k:Nat):List Stp:=(List.range k).flatMap fun a=>[stp 6 a 0]
def cgI (k:Nat):List Stp:=(List.range k).flatMap fun a=>[stp 5 a 0]
def setL (n:Nat):List Stp:=lkI n n++gsI n n++drI n++cgI n
def NE (d:List Stp):Prop:= ∀x∈d,x.kind≠1
theorem NE.app {a b:List Stp} (h:NE a) (h2:NE b):NE (a++b):=fun x hx=>(List.mem_append.1 hx).elim (h x) (h2 x)
theorem NE.flat {g:Nat→List Stp} (h: ∀a,NE (g a)) (l:List Nat):NE (l.flatMap g):=fun x hx=>by
 obtain ⟨a,_,ha⟩:=List.mem_flatMap.1 hx
 exact h a x ha
theorem NE.one {k:Int} (hk:k≠1) (a b:Nat):NE [stp k a b]:=fun x hx=>by rw [List.mem_singleton.1 hx];exact hk
theorem lkC_ne (a c:Nat):NE (lkC a c):=fun x hx=>by
 obtain ⟨b,_,rfl⟩:=List.mem_map.1 hx
 show (3:Int)≠1
 decide
theorem gsC_ne (a m:Nat):NE (gsC a m):=NE.flat (fun b=>by
 split
 ·exact NE.one (by decide) a b
 ·intro x hx;cases hx) _
theorem lkI_ne (n k:Nat):NE (lkI n k):=NE.flat (fun a=>lkC_ne a _) _
theorem gsI_ne (n k:Nat):NE (gsI n k):=NE.flat (fun a=>gsC_ne a _) _
theorem drI_ne (k:Nat):NE (drI k):=NE.flat (fun a=>NE.one (by decide) a 0) _
theorem cgI_ne (k:Nat):NE (cgI k):=NE.flat (fun a=>NE.one (by decide) a 0) _
theorem set_ne (n:Nat):NE (setL n):=(((lkI_ne n n).app (gsI_ne n n)).app (drI_ne n)).app (cgI_ne n)
theorem flat_succ {α:Type} (g:Nat→List α) (k:Nat):(List.range (k+1)).flatMap g=(List.range k).flatMap g++g k:=by rw [List.range_succ];simp
theorem flat_len {α:Type} {g:Nat→List α} {m:Nat} (h: ∀a,(g a).length≤m): ∀k,((List.range k).flatMap g).length≤k*m
 |0=>by simp
 |k+1=>by
  have h1:=flat_len h k
  have h2:=h k
  rw [flat_succ,List.length_append,Nat.add_mul]
  omega
theorem gsC_len (a m:Nat):(gsC a m).length≤m:=by
 have:=flat_len (g:=fun b=>if a≠b then [stp 4 a b] else []) (m:=1) (fun b=>by split<;>simp) m
 unfold gsC
 omega
theorem lkI_len {n:Nat} (h:n≤8) (k:Nat):(lkI n k).length≤k*8:=flat_len (fun a=>by unfold lkC;rw [List.length_map,List.length_range'];omega) k
theorem gsI_len {n:Nat} (h:n≤8) (k:Nat):(gsI n k).length≤k*8:=flat_len (fun a=>Nat.le_trans (gsC_len a n) h) k
theorem drI_len (k:Nat):(drI k).length≤k*1:=flat_len (fun a=>by simp) k
theorem cgI_len (k:Nat):(cgI k).length≤k*1:=flat_len (fun a=>by simp) k
theorem lkC_succ (a c:Nat):lkC a (c+1)=lkC a c++[stp 3 a (a+1+c)]:=by unfold lkC;rw [List.range'_1_concat,List.map_append];rfl
abbrev stM (f:Fl) (p:Pr) (M:NM) (s:NS) (c1 c2:Nat) (d:List Stp) (y:NB) (L:List E.Item):List E.Item:=netS f p M (runN f p s d) y (box c1 33 [.pointer (some ⟨M.nb,0,none⟩)]::box c2 3 [.int .i64 d.length]::L)
theorem sdo2_w {f:Fl} {p:Pr} (M:NM) {sv:List (SA×SS)} {ap:List ((Nat×Nat)×List Bool)} {U:List Ev} (hc:NC f p M sv ap U) {s:NS} (d:List Stp) {y:NB} (k:Int) (a b:Nat) (T:Int) {c1 c2:Nat} {w0 w:World} {L:List E.Item} (hL:marks L=[]) (hw:Mem w0 (stM f p M s c1 c2 d y L) w)
  (hFP: ∀w,Mem w0 L w→FlAt w f (faM M)∧PrAt w p M.p) (hy:NQ sv ap (runN f p s d) y) (hv:NV f U T s) (hd:NE d) (hT:0≤T∧T≤100000) (hdl:d.length≤1000):
  Calls Tryz.prog 48 #[.agg (Stp.cells (stp k a b)).toArray, .pointer (some ⟨c1,0,none⟩), .pointer (some ⟨c2,0,none⟩)] w fun q w'=> ∃z:{z:NB//NQ sv ap (runN f p s (d++[stp k a b])) z},q= .returned (.tuple #[])∧
   Mem w0 (stM f p M s c1 c2 (d++[stp k a b]) z.1 L) w':=by
 obtain ⟨hv2,_,_⟩:=run_ok (p:=p) d hT.1 hv (fun x hx h=>absurd h (hd x hx))
 have h:=sdo_w M hc (s:=runN f p s d) (stp k a b) (T+256*d.length) hL hw hFP hy hv2 (by omega) (by show (-9223372036854775808:Int)≤0∧(0:Int)≤9223372036854775807;decide) (by omega)
 rw [←run_snoc] at h
 refine h.mono ?_
 rintro q w' ⟨z,hq,hm⟩
 refine ⟨z,hq,?_⟩
 have hl:(d++[stp k a b]).length=d.length+1:=by simp
 unfold stM
 rw [hl]
 exact hm
theorem lkC_len (a c:Nat):(lkC a c).length=c:=by unfold lkC;rw [List.length_map,List.length_range']
theorem lkC_0 (a:Nat):lkC a 0=[]:=rfl
theorem lkI_0 (n:Nat):lkI n 0=[]:=rfl
theorem lkI_succ (n k:Nat):lkI n (k+1)=lkI n k++lkC k (n -(k+1)):=flat_succ ..
theorem gsC_0 (a:Nat):gsC a 0=[]:=rfl
theorem gsC_succ (a m:Nat):gsC a (m+1)=gsC a m++if a≠m then [stp 4 a m] else []:=flat_succ ..
theorem gsI_0 (n:Nat):gsI n 0=[]:=rfl
theorem gsI_succ (n k:Nat):gsI n (k+1)=gsI n k++gsC k n:=flat_succ ..
theorem drI_0:drI 0=[]:=rfl
theorem drI_succ (k:Nat):drI (k+1)=drI k++[stp 6 k 0]:=flat_succ ..
theorem cgI_0:cgI 0=[]:=rfl
theorem cgI_succ (k:Nat):cgI (k+1)=cgI k++[stp 5 k 0]:=flat_succ ..
attribute [local irreducible] runN lkC lkI gsC gsI drI cgI
theorem settle_w {f:Fl} {p:Pr} (M:NM) {sv:List (SA×SS)} {ap:List ((Nat×Nat)×List Bool)} {U:List Ev} (hc:NC f p M sv ap U) {s:NS} {y:NB} (T:Int) {w0 w:World} {L:List E.Item} (hL:marks L=[]) (hw:Mem w0 (netS f p M s y L) w)
  (hFP: ∀w,Mem w0 L w→FlAt w f (faM M)∧PrAt w p M.p) (hy:NQ sv ap s y) (hv:NV f U T s) (hT:0≤T∧T≤100000):
  Calls Tryz.prog 20 #[.pointer (some ⟨M.nb,0,none⟩)] w fun q w'=> ∃z:{z:NB//NQ sv ap (runN f p s (setL M.ss.length)) z},q= .returned (.int .i64 (setL M.ss.length).length)∧
   Mem w0 (netS f p M (runN f p s (setL M.ss.length)) z.1 L) w':=by
 have hn8:M.ss.length≤8:=by rw [hc.ss,List.length_map];exact hc.n8
 have hy:NQ sv ap (runN f p s []) y:=by unfold runN;exact hy
 have h0:s=runN f p s []:=by unfold runN;rfl
 rw [h0] at hw
 rw [←h0] at hw
 generalize hnn:M.ss.length=n at*
 refine H_enterM hw hL Tryz.func20 rfl Tryz.ntmps20 rfl ?_
 iterate 2 refine G ?_
 refine X_box (v:= .pointer _) rfl rfl fun b1=>?_
 iterate 5 refine G ?_
 refine X_alloc Tryz.zeroValue3 rfl fun b3=>?_
 refine X_st (v:= .int _ _) rfl rfl Tryz.sizeOf3 ?_
 iterate 4 refine G ?_
 refine xV e_fn rfl rfl ?_
 iterate 5 refine G ?_
 refine H_mem (L':=stM f p M s b1 b3 [] y L) (fun w hw=>by
  have h:=hw.pickN 8 [2,3,4,5,6,7,1,0] (by decide) (by decide)
  rw [h0] at h
  exact h) rfl ?_
 iterate 2 refine G ?_
 refine xV (e_eqNilP Tryz.underlying33 (q0 rfl)) rfl rfl ?_
 iterate 2 refine G ?_
 refine H_cond rfl ?_ ?_<;>intro hnil
 ·cases hnil
 ·iterate 14 refine G ?_
  refine H_loop [5,6,19,20,21,22,23,24,25,26,27,28,29,30,31,32,33,34,35,36,37,38] (fun q:Nat×NB=>[(19, .int .i64 q.1)]) (fun q=>stM f p M s b1 b3 (lkI n q.1) q.2 L) (fun q=>q.1≤n∧NQ sv ap (runN f p s (lkI n q.1)) q.2) (fun q=>n -q.1) (0,y) ⟨rfl,trivial⟩ (fun w hw=>by rw [lkI_0];exact hw) rfl ⟨Nat.zero_le _,by rw [lkI_0];exact hy⟩ ?_
  rintro ⟨k,y⟩ g ⟨hk,hy⟩
  have hk:k≤n:=hk
  have hy:NQ sv ap (runN f p s (lkI n k)) y:=hy
  iterate 6 refine G ?_
  refine H_cond rfl ?_ ?_<;>intro hlt
  ·have hlt':k<n:=by simp [hnn] at hlt;omega
   iterate 18 refine G ?_
   refine H_loop [6,24,25,26,27,28,29,30,31,32,33,34,35,36,37] (fun q:Nat×NB=>[(6, .int .i64 ((k+1+q.1:Nat):Int))]) (fun q=>stM f p M s b1 b3 (lkI n k++lkC k q.1) q.2 L) (fun q=>k+1+q.1≤n∧NQ sv ap (runN f p s (lkI n k++lkC k q.1)) q.2) (fun q=>n -q.1) (0,y) ⟨rfl,trivial⟩ (fun w hw=>by rw [lkC_0,List.append_nil];exact hw) rfl ⟨hlt',by rw [lkC_0,List.append_nil];exact hy⟩ ?_
   rintro ⟨c,y⟩ g2 ⟨hc2,hy⟩
   have hc2:k+1+c≤n:=hc2
   have hy:NQ sv ap (runN f p s (lkI n k++lkC k c)) y:=hy
   have hln:=lkI_len hn8 k
   have hlc:=lkC_len k c
   iterate 12 refine G ?_
   refine H_cond rfl ?_ ?_<;>intro hlt2
   ·have hlt3:k+1+c<n:=by simp [hnn] at hlt2;omega
    iterate 8 refine G ?_
    refine xV (e_build Tryz.underlying60 fl60 Tryz.zeroValue60 (pt (v:= .int _ _) rfl (pt (v:= .int _ _) rfl (pt (v:= .int _ _) rfl E.p0))) rfl) rfl rfl ?_
    refine X_eff (f_callM (enV (cap:=[.pointer (some ⟨b1,0,none⟩), .pointer (some ⟨b3,0,none⟩)]) Tryz.call48 (q0 rfl) (fun _=>rfl)) (fun w hw=>sdo2_w M hc (s:=s) (lkI n k++lkC k c) (y:=y) 3 k (k+1+c) T (c1:=b1) (c2:=b3) hL hw hFP hy hv ((lkI_ne n k).app (lkC_ne k c)) hT (by simp only [List.length_append];skip;omega)) rfl (fun _=>rfl) fun z=>?_)
    iterate 8 refine G ?_
    have hd:lkI n k++lkC k (c+1)=lkI n k++lkC k c++[stp 3 k (k+1+c)]:=by rw [lkC_succ,List.append_assoc]
    exact loopJ_normal (c+1,z.1) agr ⟨rfl,trivial⟩ (fun w hw=>by rw [hd];exact hw) rfl ⟨hlt3,by rw [hd];exact z.2⟩ (by show n -(c+1)<n -c;omega)
   ·have hce:c=n -(k+1):=by simp [hnn] at hlt2;omega
    subst hce
    rw [←lkI_succ] at hy
    iterate 10 refine G ?_
    exact loopJ_normal (k+1,y) agr ⟨rfl,trivial⟩ (fun w hw=>by rw [lkI_succ];exact hw) rfl ⟨hlt',hy⟩ (by show n -(k+1)<n -k;omega)
  ·have hke:k=n:=by simp [hnn] at hlt;omega
   subst hke
   iterate 17 refine G ?_
   refine H_loop [7,8,44,45,46,47,48,49,50,51,52,53,54,55,56,57,58,59,60,61,62,63,64] (fun q:Nat×NB=>[(44, .int .i64 q.1)]) (fun q=>stM f p M s b1 b3 (lkI k k++gsI k q.1) q.2 L) (fun q=>q.1≤k∧NQ sv ap (runN f p s (lkI k k++gsI k q.1)) q.2) (fun q=>k -q.1) (0,y) ⟨rfl,trivial⟩ (fun w hw=>by rw [gsI_0,List.append_nil];exact hw) rfl ⟨Nat.zero_le _,by rw [gsI_0,List.append_nil];exact hy⟩ ?_
   rintro ⟨i,y⟩ g3 ⟨hi,hy⟩
   have hi:i≤k:=hi
   have hy:NQ sv ap (runN f p s (lkI k k++gsI k i)) y:=hy
   have hl1:=lkI_len hn8 k
   have hl2:=gsI_len hn8 i
   iterate 6 refine G ?_
   refine H_cond rfl ?_ ?_<;>intro hlt4
   ·have hlt5:i<k:=by simp [hnn] at hlt4;omega
    iterate 21 refine G ?_
    refine H_loop [8,52,53,54,55,56,57,58,59,60,61,62,63] (fun q:Nat×NB=>[(52, .int .i64 q.1)]) (fun q=>stM f p M s b1 b3 (lkI k k++gsI k i++gsC i q.1) q.2 L) (fun q=>q.1≤k∧NQ sv ap (runN f p s (lkI k k++gsI k i++gsC i q.1)) q.2) (fun q=>k -q.1) (0,y) ⟨rfl,trivial⟩ (fun w hw=>by rw [gsC_0,List.append_nil];exact hw) rfl ⟨Nat.zero_le _,by rw [gsC_0,List.append_nil];exact hy⟩ ?_
    rintro ⟨c,y⟩ g4 ⟨hc2,hy⟩
    have hc2:c≤k:=hc2
    have hy:NQ sv ap (runN f p s (lkI k k++gsI k i++gsC i c)) y:=hy
    have hlc:=gsC_len i c
    iterate 6 refine G ?_
    refine H_cond rfl ?_ ?_<;>intro hlt6
    ·have hlt7:c<k:=by simp [hnn] at hlt6;omega
     iterate 17 refine G ?_
     refine H_cond rfl ?_ ?_<;>intro hne
     ·have hne':i≠c:=fun h=>by subst h;simp at hne
      iterate 4 refine G ?_
      refine xV (e_build Tryz.underlying60 fl60 Tryz.zeroValue60 (pt (v:= .int _ _) rfl (pt (v:= .int _ _) rfl (pt (v:= .int _ _) rfl E.p0))) rfl) rfl rfl ?_
      refine X_eff (f_callM (enV (cap:=[.pointer (some ⟨b1,0,none⟩), .pointer (some ⟨b3,0,none⟩)]) Tryz.call48 (q0 rfl) (fun _=>rfl)) (fun w hw=>sdo2_w M hc (s:=s) (lkI k k++gsI k i++gsC i c) (y:=y) 4 i c T (c1:=b1) (c2:=b3) hL hw hFP hy hv (((lkI_ne k k).app (gsI_ne k i)).app (gsC_ne i c)) hT (by simp only [List.length_append];skip;omega)) rfl (fun _=>rfl) fun z=>?_)
      iterate 7 refine G ?_
      have hd:lkI k k++gsI k i++gsC i (c+1)=lkI k k++gsI k i++gsC i c++[stp 4 i c]:=by rw [gsC_succ,if_pos hne',List.append_assoc (lkI k k++gsI k i)]
      exact loopJ_normal (c+1,z.1) agr ⟨rfl,trivial⟩ (fun w hw=>by rw [hd];exact hw) rfl ⟨hlt7,by rw [hd];exact z.2⟩ (by show k -(c+1)<k -c;omega)
     ·have hne': ¬i≠c:=fun h=>by simp at hne;omega
      have hd:lkI k k++gsI k i++gsC i (c+1)=lkI k k++gsI k i++gsC i c:=by rw [gsC_succ,if_neg hne',List.append_nil]
      iterate 7 refine G ?_
      exact loopJ_normal (c+1,y) agr ⟨rfl,trivial⟩ (fun w hw=>by rw [hd];exact hw) rfl ⟨hlt7,by rw [hd];exact hy⟩ (by show k -(c+1)<k -c;omega)
    ·have hce:c=k:=by simp [hnn] at hlt6;omega
     subst hce
     rw [List.append_assoc,←gsI_succ] at hy
     iterate 10 refine G ?_
     exact loopJ_normal (i+1,y) agr ⟨rfl,trivial⟩ (fun w hw=>by rw [gsI_succ,←List.append_assoc];exact hw) rfl ⟨hlt5,hy⟩ (by show c -(i+1)<c -i;omega)
   ·have hie:i=k:=by simp [hnn] at hlt4;omega
    subst hie
    iterate 17 refine G ?_
    refine H_loop [9,70,71,72,73,74,75,76,77] (fun q:Nat×NB=>[(70, .int .i64 q.1)]) (fun q=>stM f p M s b1 b3 (lkI i i++gsI i i++drI q.1) q.2 L) (fun q=>q.1≤i∧NQ sv ap (runN f p s (lkI i i++gsI i i++drI q.1)) q.2) (fun q=>i -q.1) (0,y) ⟨rfl,trivial⟩ (fun w hw=>by rw [drI_0,List.append_nil];exact hw) rfl ⟨Nat.zero_le _,by rw [drI_0,List.append_nil];exact hy⟩ ?_
    rintro ⟨c,y⟩ g4 ⟨hc2,hy⟩
    have hc2:c≤i:=hc2
    have hy:NQ sv ap (runN f p s (lkI i i++gsI i i++drI c)) y:=hy
    have hlc:=drI_len c
    iterate 6 refine G ?_
    refine H_cond rfl ?_ ?_<;>intro hlt6
    ·have hlt7:c<i:=by simp [hnn] at hlt6;omega
     iterate 13 refine G ?_
     refine xV (e_build Tryz.underlying60 fl60 Tryz.zeroValue60 (pt (v:= .int _ _) rfl (pt (v:= .int _ _) rfl E.p0)) rfl) rfl rfl ?_
     refine X_eff (f_callM (enV (cap:=[.pointer (some ⟨b1,0,none⟩), .pointer (some ⟨b3,0,none⟩)]) Tryz.call48 (q0 rfl) (fun _=>rfl)) (fun w hw=>sdo2_w M hc (s:=s) (lkI i i++gsI i i++drI c) (y:=y) 6 c 0 T (c1:=b1) (c2:=b3) hL hw hFP hy hv (((lkI_ne i i).app (gsI_ne i i)).app (drI_ne c)) hT (by simp only [List.length_append];skip;omega)) rfl (fun _=>rfl) fun z=>?_)
     iterate 7 refine G ?_
     have hd:lkI i i++gsI i i++drI (c+1)=lkI i i++gsI i i++drI c++[stp 6 c 0]:=by rw [drI_succ,List.append_assoc (lkI i i++gsI i i)]
     exact loopJ_normal (c+1,z.1) agr ⟨rfl,trivial⟩ (fun w hw=>by rw [hd];exact hw) rfl ⟨hlt7,by rw [hd];exact z.2⟩ (by show i -(c+1)<i -c;omega)
    ·have hce:c=i:=by simp [hnn] at hlt6;omega
     subst hce
     iterate 17 refine G ?_
     refine H_loop [10,83,84,85,86,87,88,89,90] (fun q:Nat×NB=>[(83, .int .i64 q.1)]) (fun q=>stM f p M s b1 b3 (lkI c c++gsI c c++drI c++cgI q.1) q.2 L) (fun q=>q.1≤c∧NQ sv ap (runN f p s (lkI c c++gsI c c++drI c++cgI q.1)) q.2) (fun q=>c -q.1) (0,y) ⟨rfl,trivial⟩ (fun w hw=>by rw [cgI_0,List.append_nil];exact hw) rfl ⟨Nat.zero_le _,by rw [cgI_0,List.append_nil];exact hy⟩ ?_
     rintro ⟨e,y⟩ g5 ⟨he,hy⟩
     have he:e≤c:=he
     have hy:NQ sv ap (runN f p s (lkI c c++gsI c c++drI c++cgI e)) y:=hy
     have hle:=cgI_len e
     iterate 6 refine G ?_
     refine H_cond rfl ?_ ?_<;>intro hlt8
     ·have hlt9:e<c:=by simp [hnn] at hlt8;omega
      iterate 13 refine G ?_
      refine xV (e_build Tryz.underlying60 fl60 Tryz.zeroValue60 (pt (v:= .int _ _) rfl (pt (v:= .int _ _) rfl E.p0)) rfl) rfl rfl ?_
      refine X_eff (f_callM (enV (cap:=[.pointer (some ⟨b1,0,none⟩), .pointer (some ⟨b3,0,none⟩)]) Tryz.call48 (q0 rfl) (fun _=>rfl)) (fun w hw=>sdo2_w M hc (s:=s) (lkI c c++gsI c c++drI c++cgI e) (y:=y) 5 e 0 T (c1:=b1) (c2:=b3) hL hw hFP hy hv ((((lkI_ne c c).app (gsI_ne c c)).app (drI_ne c)).app (cgI_ne e)) hT (by simp only [List.length_append];skip;omega)) rfl (fun _=>rfl) fun z=>?_)
      iterate 7 refine G ?_
      have hd:lkI c c++gsI c c++drI c++cgI (e+1)=lkI c c++gsI c c++drI c++cgI e++[stp 5 e 0]:=by rw [cgI_succ,List.append_assoc (lkI c c++gsI c c++drI c)]
      exact loopJ_normal (e+1,z.1) agr ⟨rfl,trivial⟩ (fun w hw=>by rw [hd];exact hw) rfl ⟨hlt9,by rw [hd];exact z.2⟩ (by show c -(e+1)<c -e;omega)
     ·have hee:e=c:=by simp [hnn] at hlt8;omega
      subst hee
      iterate 12 refine G ?_
      exact ret1 (v:= .int _ _) rfl rfl hL fun w' hw=>⟨⟨y,hy⟩,rfl,hw.pickN 8 [0,1,2,3,4,5] (by decide) (by decide)⟩
end Go.Proofs.Net
namespace Go.Proofs.Net
open Go Go.RowKit Go.Proofs.E Go.Proofs.Cus Go.Proofs.Rid Go.Proofs.Far Go.Proofs.Hom
theorem gnew2_w (dv:Int) (h1:1≤dv) (h2:dv≤256) (w:World):Calls Tryz.prog 24 #[.int .i64 dv] w fun e w'=> ∃x:Nat×Nat,e= .returned (.tuple #[.pointer (some ⟨x.1,0,none⟩), .int .i64 0])∧Mem w (rpL x.1 x.2 dv []) w':=by
 refine H_enter Tryz.func24 rfl Tryz.ntmps24 rfl ?_
 iterate 17 refine G ?_
 refine H_cond rfl ?_ ?_<;>intro hb
 ·exfalso;simp at hb;omega
 ·iterate 5 refine G ?_
  refine X_eff (f_makeK rfl fun bm=>?_)
  refine xV (e_build Tryz.underlying127 fl127 Tryz.zeroValue127 (pt (v:= .int _ _) rfl (pt (v:= .map _) rfl E.p0)) rfl) rfl rfl ?_
  refine X_box (v:= .agg _) rfl rfl fun b13=>?_
  iterate 5 refine G ?_
  exact ret2 (v:= .pointer _) (x:= .int _ _) rfl rfl rfl rfl fun w' hw=>⟨(b13,bm),rfl,hw.pick [0,1] (by decide)⟩
theorem cnew2_w (w:World):Calls Tryz.prog 38 #[] w fun e w'=> ∃x:Nat×Nat,e= .returned (.pointer (some ⟨x.1,0,none⟩))∧Mem w (deskL x.1 x.2 none 0 []) w':=by
 refine H_enter Tryz.func38 rfl Tryz.ntmps38 rfl ?_
 iterate 7 refine G ?_
 refine X_makeMap rfl fun bm=>?_
 refine xV (e_build Tryz.underlying159 fl159 Tryz.zeroValue159 (pt (v:= .map _) rfl E.p0) rfl) rfl rfl ?_
 refine X_box (v:= .agg _) rfl rfl fun b3=>?_
 iterate 4 refine G ?_
 exact ret1 (v:= .pointer _) rfl rfl rfl fun w' hw=>⟨(b3,bm),rfl,(hw.nilRow 222 5 En.cells rfl).pick [1,0,2] (by decide)⟩
abbrev NX:=NM×List (SA×SS)×List ((Nat×Nat)×List Bool)×List E.Item
structure NewQ (f:Fl) (p:Pr) (n:Nat) (x:NX):Prop where
 ss:x.1.ss=x.2.1.map (·.1.s)
 bs:x.1.bs=x.2.2.1.map (·.1)
 sv:x.2.1.map (·.2)=List.replicate n ⟨[],[],0⟩
 ap:x.2.2.1.map (·.2)=List.replicate n (List.replicate n false)
 k:Keeps (bag x.2.2.2) fun w=>FlAt w f (faM x.1)∧PrAt w p x.1.p
abbrev nwS (s r m d e:Nat):SA×SS:=(⟨s,r,m,d,e,none,0⟩,⟨[],[],0⟩)
theorem rep_succ {α:Type} (n:Nat) (a:α):List.replicate (n+1) a=List.replicate n a++[a]:=List.replicate_succ'
theorem newIn_w (f:Fl) (fa:FA) (p:Pr) (a:PrA) (n:Nat) (w:World) (hf:FlAt w f fa) (hp:PrAt w p a) (hd:fa.dn≤100000) (ht:fa.tn≤100000) (hn:Own.PrN a) (h0:prErr f p=0) (hn1:1≤n) (hn8:n≤8):Calls Tryz.prog 11 #[.agg (f.cells fa).toArray, .agg (p.cells a).toArray, .int .i64 n] w fun e w'=> ∃x:{x:NX//NewQ f p n x},e= .returned (.tuple #[.pointer (some ⟨x.1.1.nb,0,none⟩), .int .i64 0])∧Mem w (netI f p x.1.1 [] x.1.2.1 x.1.2.2.1 [bag x.1.2.2.2]) w':=by
 have hdv:1≤f.devices∧f.devices≤256:=by have:=flErr_ok (prErr_ok h0);omega
 refine H_enter Tryz.func11 rfl Tryz.ntmps11 rfl ?_
 iterate 2 refine G ?_
 refine X_box (v:= .agg _) rfl rfl fun b3=>?_
 refine X_box (v:= .agg _) rfl rfl fun b4=>?_
 iterate 9 refine G ?_
 refine xC (en Tryz.call35 (ha2 (q0 rfl) (q0 rfl))) (fun _ w hw=>fcheck_w f fa p a w (hf.mem hw) (hp.mem hw)) rfl rfl ?_
 iterate 9 refine G ?_
 refine H_cond rfl ?_ ?_<;>intro h1
 ·exact absurd h0 (by simpa using h1)
 ·iterate 13 refine G ?_
  refine H_cond rfl ?_ ?_<;>intro h2
  ·exfalso;simp at h2;omega
  ·have _ht:True:=trivial
   iterate 3 refine G ?_
   refine H_cut [9,24,25,26,27,28,29] (fun x:Own.FlX f×Own.PrX p×Nat=>[(9, .pointer (some ⟨x.2.2,0,none⟩))]) (fun x=>[bag x.1.1.2,bag x.2.1.1.2,box x.2.2 97 (ntC f p ⟨x.2.2,x.1.1.1.1,x.1.1.1.2,x.2.1.1.1,none,0,[],none,0,[],none,0⟩ 0),box b4 28 (p.cells a),box b3 24 (f.cells fa)]) (fun _=>True) ?_ ?_
   ·refine RA rfl (by decide+kernel) ?_
    refine aW 0 ?_
    refine aW 2 ?_
    refine r1 1 0 ?_
    refine aL rfl (f_callx (en Tryz.call36 (ha1 (q0 rfl))) (fun w hw=>Own.ownFleet_w f fa w (hf.mem hw) hd ht) rfl (fun _=>rfl) fun y=>?_)
    refine r1 3 1 ?_
    refine aL rfl (f_callx (en Tryz.call37 (ha1 (q0 rfl))) (fun w hw=>Own.ownPrices_w p a w (hp.mem hw) hn) rfl (fun _=>rfl) fun z=>?_)
    refine aI 1 ?_
    refine aV 4 (by decide+kernel) rfl (e_build Tryz.underlying97 fl97 Tryz.zeroValue97 (pt (v:= .agg _) rfl (pt (v:= .agg _) rfl E.p0)) rfl) rfl ?_
    refine r1 5 2 ?_
    refine aL rfl (f_box (v:= .agg _) rfl rfl fun b29=>?_)
    refine aI 2 ?_
    refine aRL (sub_drop 3) ?_
    refine aW 6 ?_
    refine aZ (by decide+kernel) (sub_drop 0) ?_
    exact cutJ_normal ((y,z,b29):Own.FlX f×Own.PrX p×Nat) agr ⟨rfl,trivial⟩ (fun w hw=>hw) rfl trivial
   ·rintro ⟨⟨⟨⟨d0,t0⟩,V0⟩,hv0⟩,⟨⟨p0',V1⟩,hv1⟩,nb⟩ g _
    iterate 9 refine G ?_
    refine H_loop [6,7,10,11,31,32,33,34,35,36,37,38,39,40,41,42,43,44,45,46,47,48,49,50,51,52,53,54,55,56,57,58,59,60,61,62,63,64,65,66] (fun s:Nat×List (SA×SS)×List ((Nat×Nat)×List Bool)×(Option Addr×Nat)×Option Addr×Nat=>[(31, .int .i64 s.1)]) (fun s=>[bag (s.2.1.flatMap (svF f.devices)),box nb 97 (ntC f p ⟨nb,d0,t0,p0',s.2.2.2.1.1,s.2.2.2.1.2,s.2.1.map (·.1.s),s.2.2.2.2.1,s.2.2.2.2.2,s.2.2.1.map (·.1),none,0⟩ 0),svRow s.2.2.2.1.1 s.2.2.2.1.2 (s.2.1.map (·.1.s)),bag (s.2.2.1.flatMap apF),bpRow n s.2.2.2.2.1 s.2.2.2.2.2 (s.2.2.1.map (·.1)),bag V1,bag V0,box b4 28 (p.cells a),box b3 24 (f.cells fa)]) (fun s=>s.1≤n∧s.2.1.map (·.2)=List.replicate s.1 ⟨[],[],0⟩∧s.2.2.1.map (·.2)=List.replicate s.1 (List.replicate n false)) (fun s=>n -s.1) (0,[],[],(none,0),none,0) ⟨rfl,trivial⟩ (fun w hw=>(((hw.pick [2,1,0,3,4] (by decide)).nilRow 103 1 (bpC n) rfl).noBag (f:=apF).nilRow 98 1 ptC rfl).noBag (f:=svF f.devices)|>.pick [0,4,1,2,3,5,6,7,8] (by decide)) rfl ⟨Nat.zero_le _,rfl,rfl⟩ ?_
    rintro ⟨k,sv,ap,⟨sA,sc⟩,bA,bc⟩ g2 ⟨hk,hsv,hap⟩
    have hk:k≤n:=hk
    have hsv:sv.map (·.2)=List.replicate k ⟨[],[],0⟩:=hsv
    have hap:ap.map (·.2)=List.replicate k (List.replicate n false):=hap
    have hsl:(sv.map (·.1.s)).length=k:=by have:=congrArg List.length hsv;simpa using this
    have hbl:(ap.map (·.1)).length=k:=by have:=congrArg List.length hap;simpa using this
    generalize hss:sv.map (·.1.s)=ss at*
    generalize hbs:ap.map (·.1)=bs at*
    iterate 6 refine G ?_
    refine H_cond rfl ?_ ?_<;>intro hlt
    ·have hlt':k<n:=by simpa using hlt
     iterate 8 refine G ?_
     refine xCX (en Tryz.call24 (ha1 (q0 rfl))) (fun w _=>gnew2_w f.devices hdv.1 hdv.2 w) rfl (fun _=>rfl) fun y=>?_
     iterate 14 refine G ?_
     refine H_cond rfl ?_ ?_<;>intro he
     ·simp at he
     ·have _ht:True:=trivial
      iterate 3 refine G ?_
      refine H_cut [42,43,44,45,46,47,48,49,50,51,52,53,54] (fun x:((Nat×Nat)×Nat)×Option Addr×Nat=>[]) (fun x=>[bag ((sv++[nwS x.1.2 y.1 y.2 x.1.1.1 x.1.1.2]).flatMap (svF f.devices)),box nb 97 (ntC f p ⟨nb,d0,t0,p0',x.2.1,x.2.2,ss++[x.1.2],bA,bc,bs,none,0⟩ 0),svRow x.2.1 x.2.2 (ss++[x.1.2]),bag (ap.flatMap apF),bpRow n bA bc bs,bag V1,bag V0,box b4 28 (p.cells a),box b3 24 (f.cells fa)]) (fun _=>True) ?_ ?_
      ·refine RAd 5 rfl (by decide+kernel) ?_
       refine aW 0 ?_
       refine aW 1 ?_
       refine aW 2 ?_
       refine aW 3 ?_
       refine aW 5 ?_
       refine rdy2 (i:=4) (j:=6) (by decide+kernel) (sub_drop 5) ?_ ?_
       ·refine aL rfl (f_ev (e_ld (v:= .slice sA ss.length sc) Tryz.isAgg94 (q0 rfl) cb) rfl rfl ?_)
        refine r1 6 5 ?_
        refine aL rfl (f_callx (en Tryz.call38 (ha0)) (fun w _=>cnew2_w w) rfl (fun _=>rfl) fun z=>?_)
        refine aV 7 (by decide+kernel) rfl (e_build Tryz.underlying102 fl102 Tryz.zeroValue102 (pt (v:= .pointer _) rfl (pt (v:= .pointer _) rfl E.p0)) rfl) rfl ?_
        refine r1 8 8 ?_
        refine aL rfl (f_box (v:= .agg _) rfl rfl fun b50=>?_)
        refine aI 3 ?_
        refine r1 9 9 ?_
        refine aL rfl (f_slit [(.pointer none)] Tryz.underlying94 Tryz.sizeOf98 Tryz.zeroValue98 rfl (by kernel_rfl) (pt (v:= .pointer _) rfl E.p0) rfl rfl fun b51=>?_)
        refine aI 4 ?_
        refine r1 10 10 ?_
        refine aL rfl (f_append (k:=1) (i:=Tryz.t98) (enc:=ptC) 9 Tryz.underlying94 (by kernel_rfl) rfl rfl rfl rfl (fun _=>rfl) (fun _=>rfl) rfl rfl rfl (fun w hw=>slAt_box (xs:=[b50]) hw (j:=4) rfl (fun _=>rfl) (by simp)) ⟨by simp;omega,by decide⟩ rfl fun A2 c2=>?_)
        refine aW 11 ?_
        refine aW 12 ?_
        refine r1 13 10 ?_
        refine aL rfl (f_st (v:= .slice _ _ _) rfl rfl Tryz.sizeOf94 ?_)
        refine aZ (by decide+kernel) (sub_drop 10) ?_
        exact cutJ_normal (((z,b50),A2,c2):((Nat×Nat)×Nat)×Option Addr×Nat) agr trivial (fun w hw=>Mem.pushed (f:=svF f.devices) (y:=nwS b50 y.1 y.2 z.1 z.2) (hw.pick [3,5,6,0,1,2,7,8,9,10,11,12,13,14,15] (by decide))) rfl trivial
       ·refine aL rfl (f_callx (en Tryz.call38 (ha0)) (fun w _=>cnew2_w w) rfl (fun _=>rfl) fun z=>?_)
        refine aV 7 (by decide+kernel) rfl (e_build Tryz.underlying102 fl102 Tryz.zeroValue102 (pt (v:= .pointer _) rfl (pt (v:= .pointer _) rfl E.p0)) rfl) rfl ?_
        refine rdy2 (i:=4) (j:=8) (by decide+kernel) (sub_drop 8) ?_ ?_
        ·refine aL rfl (f_ev (e_ld (v:= .slice sA ss.length sc) Tryz.isAgg94 (q0 rfl) cb) rfl rfl ?_)
         refine r1 8 8 ?_
         refine aL rfl (f_box (v:= .agg _) rfl rfl fun b50=>?_)
         refine aI 3 ?_
         refine r1 9 9 ?_
         refine aL rfl (f_slit [(.pointer none)] Tryz.underlying94 Tryz.sizeOf98 Tryz.zeroValue98 rfl (by kernel_rfl) (pt (v:= .pointer _) rfl E.p0) rfl rfl fun b51=>?_)
         refine aI 4 ?_
         refine r1 10 10 ?_
         refine aL rfl (f_append (k:=1) (i:=Tryz.t98) (enc:=ptC) 9 Tryz.underlying94 (by kernel_rfl) rfl rfl rfl rfl (fun _=>rfl) (fun _=>rfl) rfl rfl rfl (fun w hw=>slAt_box (xs:=[b50]) hw (j:=4) rfl (fun _=>rfl) (by simp)) ⟨by simp;omega,by decide⟩ rfl fun A2 c2=>?_)
         refine aW 11 ?_
         refine aW 12 ?_
         refine r1 13 10 ?_
         refine aL rfl (f_st (v:= .slice _ _ _) rfl rfl Tryz.sizeOf94 ?_)
         refine aZ (by decide+kernel) (sub_drop 10) ?_
         exact cutJ_normal (((z,b50),A2,c2):((Nat×Nat)×Nat)×Option Addr×Nat) agr trivial (fun w hw=>Mem.pushed (f:=svF f.devices) (y:=nwS b50 y.1 y.2 z.1 z.2) (hw.pick [3,5,6,0,1,2,7,8,9,10,11,12,13,14,15] (by decide))) rfl trivial
        ·refine aL rfl (f_box (v:= .agg _) rfl rfl fun b50=>?_)
         refine aI 3 ?_
         refine rdy2 (i:=4) (j:=9) (by decide+kernel) (sub_drop 9) ?_ ?_
         ·refine aL rfl (f_ev (e_ld (v:= .slice sA ss.length sc) Tryz.isAgg94 (q0 rfl) cb) rfl rfl ?_)
          refine r1 9 9 ?_
          refine aL rfl (f_slit [(.pointer none)] Tryz.underlying94 Tryz.sizeOf98 Tryz.zeroValue98 rfl (by kernel_rfl) (pt (v:= .pointer _) rfl E.p0) rfl rfl fun b51=>?_)
          refine aI 4 ?_
          refine r1 10 10 ?_
          refine aL rfl (f_append (k:=1) (i:=Tryz.t98) (enc:=ptC) 9 Tryz.underlying94 (by kernel_rfl) rfl rfl rfl rfl (fun _=>rfl) (fun _=>rfl) rfl rfl rfl (fun w hw=>slAt_box (xs:=[b50]) hw (j:=4) rfl (fun _=>rfl) (by simp)) ⟨by simp;omega,by decide⟩ rfl fun A2 c2=>?_)
          refine aW 11 ?_
          refine aW 12 ?_
          refine r1 13 10 ?_
          refine aL rfl (f_st (v:= .slice _ _ _) rfl rfl Tryz.sizeOf94 ?_)
          refine aZ (by decide+kernel) (sub_drop 10) ?_
          exact cutJ_normal (((z,b50),A2,c2):((Nat×Nat)×Nat)×Option Addr×Nat) agr trivial (fun w hw=>Mem.pushed (f:=svF f.devices) (y:=nwS b50 y.1 y.2 z.1 z.2) (hw.pick [3,5,6,0,1,2,7,8,9,10,11,12,13,14,15] (by decide))) rfl trivial
         ·refine aL rfl (f_slit [(.pointer none)] Tryz.underlying94 Tryz.sizeOf98 Tryz.zeroValue98 rfl (by kernel_rfl) (pt (v:= .pointer _) rfl E.p0) rfl rfl fun b51=>?_)
          refine aI 4 ?_
          refine r1 4 10 ?_
          refine aL rfl (f_ev (e_ld (v:= .slice sA ss.length sc) Tryz.isAgg94 (q0 rfl) cb) rfl rfl ?_)
          refine r1 10 10 ?_
          refine aL rfl (f_append (k:=1) (i:=Tryz.t98) (enc:=ptC) 9 Tryz.underlying94 (by kernel_rfl) rfl rfl rfl rfl (fun _=>rfl) (fun _=>rfl) rfl rfl rfl (fun w hw=>slAt_box (xs:=[b50]) hw (j:=4) rfl (fun _=>rfl) (by simp)) ⟨by simp;omega,by decide⟩ rfl fun A2 c2=>?_)
          refine aW 11 ?_
          refine aW 12 ?_
          refine r1 13 10 ?_
          refine aL rfl (f_st (v:= .slice _ _ _) rfl rfl Tryz.sizeOf94 ?_)
          refine aZ (by decide+kernel) (sub_drop 10) ?_
          exact cutJ_normal (((z,b50),A2,c2):((Nat×Nat)×Nat)×Option Addr×Nat) agr trivial (fun w hw=>Mem.pushed (f:=svF f.devices) (y:=nwS b50 y.1 y.2 z.1 z.2) (hw.pick [3,5,6,0,1,2,7,8,9,10,11,12,13,14,15] (by decide))) rfl trivial
      ·rintro ⟨⟨z,sb⟩,A2,c2⟩ g3 _
       have hcl: ∀{b61:Nat} {A3:Option Addr} {c3:Nat} {w':World} {X:E.Item},Mem w [E.rowT 4 1 blC (some ⟨b61,0,none⟩) n (List.replicate n false),X,bag ((sv++[nwS sb y.1 y.2 z.1 z.2]).flatMap (svF f.devices)),box nb 97 (ntC f p ⟨nb,d0,t0,p0',A2,c2,ss++[sb],A3,c3,bs++[(b61,n)],none,0⟩ 0),svRow A2 c2 (ss++[sb]),bag (ap.flatMap apF),bpRow n A3 c3 (bs++[(b61,n)]),bag V1,bag V0,box b4 28 (p.cells a),box b3 24 (f.cells fa)] w'→Mem w [bag ((sv++[nwS sb y.1 y.2 z.1 z.2]).flatMap (svF f.devices)),box nb 97 (ntC f p ⟨nb,d0,t0,p0',A2,c2,ss++[sb],A3,c3,bs++[(b61,n)],none,0⟩ 0),svRow A2 c2 (ss++[sb]),bag ((ap++[((b61,n),List.replicate n false)]).flatMap apF),bpRow n A3 c3 (bs++[(b61,n)]),bag V1,bag V0,box b4 28 (p.cells a),box b3 24 (f.cells fa)] w':=fun {b61 _ _ _ _} hw=>(Mem.pushed (f:=apF) (y:=((b61,n),List.replicate n false)) (by
        have h:=hw.pick [0,5,2,3,4,6,7,8,9,10] (by decide)
        unfold apF
        exact h)).pick [1,2,3,0,4,5,6,7,8] (by decide)
       refine G ?_
       refine H_cut [55,56,57,58,59,60,61,62,63,64,65] (fun x:Nat×Option Addr×Nat=>[]) (fun x=>[bag ((sv++[nwS sb y.1 y.2 z.1 z.2]).flatMap (svF f.devices)),box nb 97 (ntC f p ⟨nb,d0,t0,p0',A2,c2,ss++[sb],x.2.1,x.2.2,bs++[(x.1,n)],none,0⟩ 0),svRow A2 c2 (ss++[sb]),bag ((ap++[((x.1,n),List.replicate n false)]).flatMap apF),bpRow n x.2.1 x.2.2 (bs++[(x.1,n)]),bag V1,bag V0,box b4 28 (p.cells a),box b3 24 (f.cells fa)]) (fun _=>True) ?_ ?_
       ·refine RAd 5 rfl (by decide+kernel) ?_
        refine aW 0 ?_
        refine aW 1 ?_
        refine aW 2 ?_
        refine aW 3 ?_
        refine aW 5 ?_
        refine rdy2 (i:=4) (j:=6) (by decide+kernel) (sub_drop 5) ?_ ?_
        ·refine aL rfl (f_ev (e_ld (v:= .slice bA bs.length bc) Tryz.isAgg95 (q0 rfl) cb) rfl rfl ?_)
         refine r1 6 5 ?_
         refine aL rfl (f_make (i:=Tryz.t4) (k:=1) (n:=n) (m:=n) blC false Tryz.underlying103 (by kernel_rfl) rfl rfl rfl rfl rfl ⟨⟨Nat.le_refl _,by omega⟩,by decide⟩ rfl fun b61=>?_)
         refine r1 7 6 ?_
         refine aL rfl (f_slit [(.slice none 0 0)] Tryz.underlying95 Tryz.sizeOf103 Tryz.zeroValue103 rfl (by kernel_rfl) (pt (v:= .slice _ _ _) rfl E.p0) rfl rfl fun b62=>?_)
         refine aI 1 ?_
         refine r1 8 7 ?_
         refine aL rfl (f_append (k:=1) (i:=Tryz.t103) (enc:=bpC n) 6 Tryz.underlying95 (by kernel_rfl) rfl rfl rfl rfl (fun _=>rfl) (fun _=>rfl) rfl rfl rfl (fun w hw=>slAt_box (xs:=[(b61,n)]) hw (j:=1) rfl (fun _=>rfl) (by simp)) ⟨by simp;omega,by decide⟩ rfl fun A3 c3=>?_)
         refine aW 9 ?_
         refine aW 10 ?_
         refine r1 11 7 ?_
         refine aL rfl (f_st (v:= .slice _ _ _) rfl rfl Tryz.sizeOf95 ?_)
         refine aZ (by decide+kernel) (sub_drop 7) ?_
         exact cutJ_normal ((b61,A3,c3):Nat×Option Addr×Nat) agr trivial (fun w hw=>hcl hw) rfl trivial
        ·refine aL rfl (f_make (i:=Tryz.t4) (k:=1) (n:=n) (m:=n) blC false Tryz.underlying103 (by kernel_rfl) rfl rfl rfl rfl rfl ⟨⟨Nat.le_refl _,by omega⟩,by decide⟩ rfl fun b61=>?_)
         refine rdy2 (i:=4) (j:=7) (by decide+kernel) (sub_drop 6) ?_ ?_
         ·refine aL rfl (f_ev (e_ld (v:= .slice bA bs.length bc) Tryz.isAgg95 (q0 rfl) cb) rfl rfl ?_)
          refine r1 7 6 ?_
          refine aL rfl (f_slit [(.slice none 0 0)] Tryz.underlying95 Tryz.sizeOf103 Tryz.zeroValue103 rfl (by kernel_rfl) (pt (v:= .slice _ _ _) rfl E.p0) rfl rfl fun b62=>?_)
          refine aI 1 ?_
          refine r1 8 7 ?_
          refine aL rfl (f_append (k:=1) (i:=Tryz.t103) (enc:=bpC n) 6 Tryz.underlying95 (by kernel_rfl) rfl rfl rfl rfl (fun _=>rfl) (fun _=>rfl) rfl rfl rfl (fun w hw=>slAt_box (xs:=[(b61,n)]) hw (j:=1) rfl (fun _=>rfl) (by simp)) ⟨by simp;omega,by decide⟩ rfl fun A3 c3=>?_)
          refine aW 9 ?_
          refine aW 10 ?_
          refine r1 11 7 ?_
          refine aL rfl (f_st (v:= .slice _ _ _) rfl rfl Tryz.sizeOf95 ?_)
          refine aZ (by decide+kernel) (sub_drop 7) ?_
          exact cutJ_normal ((b61,A3,c3):Nat×Option Addr×Nat) agr trivial (fun w hw=>hcl hw) rfl trivial
         ·refine aL rfl (f_slit [(.slice none 0 0)] Tryz.underlying95 Tryz.sizeOf103 Tryz.zeroValue103 rfl (by kernel_rfl) (pt (v:= .slice _ _ _) rfl E.p0) rfl rfl fun b62=>?_)
          refine aI 1 ?_
          refine r1 4 7 ?_
          refine aL rfl (f_ev (e_ld (v:= .slice bA bs.length bc) Tryz.isAgg95 (q0 rfl) cb) rfl rfl ?_)
          refine r1 8 7 ?_
          refine aL rfl (f_append (k:=1) (i:=Tryz.t103) (enc:=bpC n) 6 Tryz.underlying95 (by kernel_rfl) rfl rfl rfl rfl (fun _=>rfl) (fun _=>rfl) rfl rfl rfl (fun w hw=>slAt_box (xs:=[(b61,n)]) hw (j:=1) rfl (fun _=>rfl) (by simp)) ⟨by simp;omega,by decide⟩ rfl fun A3 c3=>?_)
          refine aW 9 ?_
          refine aW 10 ?_
          refine r1 11 7 ?_
          refine aL rfl (f_st (v:= .slice _ _ _) rfl rfl Tryz.sizeOf95 ?_)
          refine aZ (by decide+kernel) (sub_drop 7) ?_
          exact cutJ_normal ((b61,A3,c3):Nat×Option Addr×Nat) agr trivial (fun w hw=>hcl hw) rfl trivial
       ·rintro ⟨b6,A3,c3⟩ g4 _
        iterate 6 refine G ?_
        have e1:(sv++[nwS sb y.1 y.2 z.1 z.2]).map (·.1.s)=ss++[sb]:=by rw [List.map_append,hss];rfl
        have e2:(ap++[((b6,n),List.replicate n false)]).map (·.1)=bs++[(b6,n)]:=by rw [List.map_append,hbs];rfl
        exact loopJ_normal (k+1,sv++[nwS sb y.1 y.2 z.1 z.2],ap++[((b6,n),List.replicate n false)],(A2,c2),A3,c3) agr ⟨rfl,trivial⟩ (fun w hw=>by simp only [e1,e2];exact hw) rfl ⟨by show k+1≤n;omega,by show List.map _ (_++_)=List.replicate (k+1) _;rw [List.map_append,hsv,rep_succ];rfl,by show List.map _ (_++_)=List.replicate (k+1) _;rw [List.map_append,hap,rep_succ];rfl⟩ (by show n -(k+1)<n -k;omega)
    ·have hend:k=n:=by simp at hlt;omega
     subst hend
     iterate 13 refine G ?_
     exact ret2 (v:= .pointer _) (x:= .int _ _) rfl rfl rfl rfl fun w' hw=>⟨⟨(⟨nb,d0,t0,p0',sA,sc,ss,bA,bc,bs,none,0⟩,sv,ap,[bag V1,bag V0]),hss.symm,hbs.symm,hsv,hap,rfl,fun w hA=>⟨by
      obtain ⟨a1,a2⟩:=hv0.ok w (hA.1 (bag V0) (by simp))
      exact ⟨a1,a2⟩,hv1.ok w (hA.1 (bag V1) (by simp))⟩⟩,rfl,by
      have h:=(Mem.bag (T:=[bag V1,bag V0]) (hw.pick [5,6,0,1,2,3,4] (by decide))).nilRow 90 3 Py.cells rfl (c:=0)
      have h2:=h.pick [3,4,6,0,2,5,1] (by decide)
      rw [←hsl] at h2
      exact h2⟩
end Go.Proofs.Net
namespace Go.Proofs.Net
open Go Go.RowKit Go.Proofs.E Go.Proofs.Cus Go.Proofs.Rid Go.Proofs.Far Go.Proofs.Hom
theorem ret_bool {a b:Bool} (h:a=b):Ending.returned (.bool a)= .returned (.bool b):=by rw [h]
theorem take_snoc {α:Type} (l:List α) (k:Nat) (x:α) (h:l[k]?=some x):l.take (k+1)=l.take k++[x]:=snocL l k x h
theorem same_w (A B:Option Addr) (n m c d:Nat) (xs ys:List Py) (w:World) (hx:SlAt w 3 Py.cells A n xs) (hy:SlAt w 3 Py.cells B m ys):
  Calls Tryz.prog 32 #[.slice A n c, .slice B m d] w fun e w'=>e= .returned (.bool (decide (xs=ys)))∧Bel w w':=by
 have hl:=hx.1
 have hn:=hx.2.1
 have hl2:=hy.1
 refine H_enter Tryz.func32 rfl Tryz.ntmps32 rfl ?_
 iterate 15 refine G ?_
 refine H_cond rfl ?_ ?_<;>intro h1
 ·iterate 7 refine G ?_
  exact ret1 (v:= .bool _) rfl rfl rfl fun w' hw=>⟨ret_bool (by
   rw [eq_comm,decide_eq_false_iff_not]
   intro e
   rw [e] at hl
   simp at h1
   omega),hw.1⟩
 ·have hnm:n=m:=by simp at h1;omega
  subst hnm
  iterate 9 refine G ?_
  refine H_loop [4,5,11,12,13,14,15,16,17,18,19,20,21,22,23,24,25] (fun k:Nat=>[(5, .int .i64 k)]) (fun _=>[]) (fun k=>k≤n∧xs.take k=ys.take k) (fun k=>n -k) 0 ⟨rfl,trivial⟩ (fun _ h=>h) rfl ⟨Nat.zero_le _,rfl⟩ ?_
  rintro k g ⟨hk,hall⟩
  iterate 9 refine G ?_
  refine H_cond rfl ?_ ?_<;>intro hlt
  ·simp at hlt
   obtain ⟨b,off,x,rfl,hbl,hxk,hrx⟩:=hx.at_ hlt
   obtain ⟨b2,off2,y,rfl,hbl2,hyk,hry⟩:=hy.at_ hlt
   iterate 5 refine G ?_
   refine R1 rfl (by decide+kernel) ?_
   iterate 2 refine G ?_
   refine xV (e_idx _ Tryz.underlying40 Tryz.sizeOf90 (q0 rfl) (q0 rfl) (fun _=>⟨rfl,by omega⟩)) rfl rfl ?_
   iterate 3 refine G ?_
   refine xV (e_idx _ Tryz.underlying40 Tryz.sizeOf90 (q0 rfl) (q0 rfl) (fun _=>⟨rfl,by omega⟩)) rfl rfl ?_
   refine G ?_
   refine xV (e_neS (eqPy x y) (by kernel_rfl) (q0 rfl) (q0 rfl)) rfl rfl ?_
   iterate 2 refine G ?_
   refine H_cond rfl ?_ ?_<;>intro hb
   ·iterate 11 refine G ?_
    exact ret1 (v:= .bool _) rfl rfl rfl fun w' hw=>⟨ret_bool (by
     rw [eq_comm,decide_eq_false_iff_not]
     intro e
     rw [e,hyk] at hxk
     cases hxk
     simp at hb),hw.1⟩
   ·have hxy:x=y:=by simpa using hb
    iterate 8 refine G ?_
    exact loopJ_normal (k+1) agr ⟨rfl,trivial⟩ (fun w hw=>mem_nil.2 hw.1) rfl ⟨by omega,by rw [take_snoc _ _ _ hxk,take_snoc _ _ _ hyk,hall,hxy]⟩ (by show n -(k+1)<n -k;omega)
  ·obtain rfl:k=n:=by simp at hlt;omega
   iterate 11 refine G ?_
   exact ret1 (v:= .bool _) rfl rfl rfl fun w' hw=>⟨ret_bool (by
    rw [eq_comm,decide_eq_true_eq]
    rw [List.take_of_length_le (by omega),List.take_of_length_le (by omega)] at hall
    exact hall),hw.1⟩
theorem py_take {A:Option Addr} {n m:Nat} {xs ys:List Py} {w:World} (hx:PysAt w A n xs) (hp:ys<+:xs) (hm:ys.length=m):PysAt w A m ys:=by
 obtain ⟨h1,h2,h3⟩:=hx
 have hl:=hp.length_le
 refine ⟨hm,by omega,fun h0=>?_⟩
 obtain ⟨b,off,hA,hb,hr⟩:=h3 (by omega)
 exact ⟨b,off,hA,hb,fun i x hi=>hr i x (by
  obtain ⟨t,rfl⟩:=hp
  rw [List.getElem?_append_left (List.getElem?_eq_some_iff.1 hi).1];exact hi)⟩
theorem begins_w (A B:Option Addr) (n m c d:Nat) (xs ys:List Py) (w:World) (hx:PysAt w A n xs) (hy:PysAt w B m ys) (hc:n≤c) (hp:ys<+:xs) (hnd:(xs.map (·.ride)).Nodup):
  Calls Tryz.prog 19 #[.slice A n c, .slice B m d] w fun e w'=>e= .returned (.bool true)∧Bel w w':=by
 have hl:=hx.1
 have hn:=hx.2.1
 have hl2:=hy.1
 have hle:=hp.length_le
 have hf:decide ((n:Int)<m)=false:=by simp;omega
 refine H_enter Tryz.func19 rfl Tryz.ntmps19 rfl ?_
 iterate 12 refine G ?_
 refine xV (v:= .bool false) (by rw [←hf];exact e_lt (q0 rfl) (q0 rfl)) rfl rfl ?_
 iterate 4 refine G ?_
 refine xVF (e_slHi _ Tryz.underlying40 Tryz.sizeOf90 (q1 rfl) (q1 rfl) (fun _=>⟨rfl,by omega⟩)) rfl rfl rfl rfl ?_
 refine G ?_
 refine xCF (en Tryz.call32 (ha2 (q1 (v:= .slice _ _ _) rfl) (q1 (v:= .slice _ _ _) rfl))) (fun _ w hw=>same_w A B m m c d ys ys w (SlAt.mem (py_take hx hp hl2) hw) (hy.mem hw)) rfl rfl rfl rfl ?_
 iterate 4 refine G ?_
 refine H_cond rfl ?_ ?_<;>intro h1
 ·simp at h1
 ·iterate 9 refine G ?_
  refine H_loop [4,5,6,21,22,23,24,25,26,27,28,29,30,31,32,33,34,35,36,37,38,39,40,41,42] (fun k:Nat=>[(5, .int .i64 k)]) (fun _=>[]) (fun k=>k≤n) (fun k=>n -k) 0 ⟨rfl,trivial⟩ (fun _ h=>h) rfl (Nat.zero_le _) ?_
  intro k g hk
  have hk:k≤n:=hk
  iterate 9 refine G ?_
  refine H_cond rfl ?_ ?_<;>intro hlt
  ·simp at hlt
   iterate 10 refine G ?_
   refine H_loop [4,6,27,28,29,30,31,32,33,34,35,36,37,38,39,40,41,42] (fun q:Nat=>[(6, .int .i64 q)]) (fun _=>[]) (fun q=>q≤k) (fun q=>k -q) 0 ⟨rfl,trivial⟩ (fun _ h=>h) rfl (Nat.zero_le _) ?_
   intro q g2 hq
   have hq:q≤k:=hq
   iterate 8 refine G ?_
   refine H_cond rfl ?_ ?_<;>intro hlt2
   ·simp at hlt2
    obtain ⟨b,off,x,hA,hbl,hxk,hrx⟩:=hx.at_ hlt
    obtain ⟨b2,off2,y,hA2,hbl2,hyk,hry⟩:=hx.at_ (show q<n by omega)
    have hne:x.ride≠y.ride:=fun e=>by
     have h1:=List.getElem?_map (f:=fun x:Py=>x.ride) (l:=xs) (i:=k)
     have h2:=List.getElem?_map (f:=fun x:Py=>x.ride) (l:=xs) (i:=q)
     rw [hxk] at h1
     rw [hyk] at h2
     simp only [Option.map_some] at h1 h2
     rw [e] at h1
     obtain ⟨g1,g2⟩:=List.getElem?_eq_some_iff.1 h1
     obtain ⟨g3,g4⟩:=List.getElem?_eq_some_iff.1 h2
     have:=(List.getElem_inj hnd).1 (g2.trans g4.symm)
     omega
    subst hA
    cases hA2
    iterate 5 refine G ?_
    refine R1 rfl (by decide+kernel) ?_
    iterate 2 refine G ?_
    refine xV (e_idx _ Tryz.underlying40 Tryz.sizeOf90 (q0 rfl) (q0 rfl) (fun _=>⟨rfl,by omega⟩)) rfl rfl ?_
    iterate 4 refine G ?_
    refine xV (e_idx _ Tryz.underlying40 Tryz.sizeOf90 (q0 rfl) (q0 rfl) (fun _=>⟨rfl,by omega⟩)) rfl rfl ?_
    iterate 5 refine G ?_
    refine H_cond rfl ?_ ?_<;>intro h3
    ·exact absurd (by simpa using h3) hne
    ·iterate 8 refine G ?_
     exact loopJ_normal (q+1) agr ⟨rfl,trivial⟩ (fun w hw=>mem_nil.2 hw.1) rfl (by show q+1≤k;omega) (by show k -(q+1)<k -q;omega)
   ·iterate 11 refine G ?_
    exact loopJ_normal (k+1) agr ⟨rfl,trivial⟩ (fun w hw=>mem_nil.2 hw.1) rfl (by show k+1≤n;omega) (by show n -(k+1)<n -k;omega)
  ·iterate 11 refine G ?_
   exact ret1 (v:= .bool _) rfl rfl rfl fun w' hw=>⟨rfl,hw.1⟩
end Go.Proofs.Net
namespace Go.Proofs.Far
open Go.Proofs.Cus Go.Proofs.Rid
def exR (id from_ wh pl:Int):Rd:=⟨id,1,⟨from_,from_⟩,⟨from_+590,from_+590⟩,false,[⟨0,⟨from_,from_⟩,⟨from_+590,from_+590⟩⟩],[],2,0,wh,pl⟩
theorem lenP_nil:lenP []=0:=by
 unfold lenP unionP byLo
 simp [normP,sumW]
theorem union_nil:unionP []=[]:=by
 unfold unionP byLo
 simp [normP]
theorem ex_ridS (id from_ wh pl:Int):ridS (exR id from_ wh pl)=590:=by
 unfold ridS ridW
 have h1:(exR id from_ wh pl).pauses.map possZ=[]:=rfl
 rw [h1,union_nil]
 have h2:sureW (exR id from_ wh pl)=⟨from_,from_+590⟩:=by
  unfold sureW exR
  simp only
  rw [show max from_ (from_+590)=from_+590 by omega]
 rw [h2]
 have h3:minusP ⟨from_,from_+590⟩ []=[⟨from_,from_+590⟩]:=by
  unfold minusP one
  rw [if_neg (by simp only;omega)]
  simp only [List.flatMap_cons,List.flatMap_nil,List.append_nil]
  show mend ⟨from_,from_+590⟩ ([],from_)=_
  exact if_pos (show from_<from_+590 by omega)
 rw [h3]
 unfold lenP
 rw [union_one]
 unfold one
 rw [if_neg (by simp only;omega)]
 unfold sumW
 simp
 omega
theorem ex_pauS (id from_ wh pl:Int):pauS (exR id from_ wh pl)=0:=by
 unfold pauS pauW
 have h1:(exR id from_ wh pl).pauses.map sureZ=[]:=rfl
 rw [h1,union_nil]
 have h3: ∀w,commonP w []=[]:=fun w=>by
  unfold commonP
  simp
 rw [h3,lenP_nil]
theorem first_eq (p:Pr) (r:Rd) (u s q:Int) (h1:ridS r=s) (h2:pauS r=q):firstP p r u=
  (let t:=verT p r
   let b3:=addB (addB (addB ⟨r.id,r.rider,[],0⟩ 1 (verO p r) t.unlock) 2 (verO p r) (ridP t s)) 3 (verO p r) (pauP t q)
   let b4:=addB b3 4 (placeP p r).2 (max (placeP p r).1 (-b3.total))
   let part:=ridP t (min s (p.passes.getD u.toNat default).secs)
   let b5:=if 0≤u then addB b4 5 u (-(min b4.total (t.unlock+part))) else b4
   if 1000000000000<ridP t s then none else if 1000000000000<pauP t q then none else if 0≤u∧1000000000000<part then none else if 1000000000000<b5.total then none else some b5):=by
 subst h1 h2
 rfl
theorem cnt_self {l:List Rd} (hg:Good l) (hc:l.filter (fun r=>!r.open_)=l) (hs:l.Pairwise fun a b=>rideLt b a=false):cntS l=l:=(cntS_unique hg (by rw [hc]) hs).symm
theorem all_of {f:Fl} {p:Pr} {l:List Rd} {vs:List Pen.V} {B C:List Bil} (h1:prErr f p=0) (h2:rdsErr l=0) (h3:Pen.vErr vs=0) (hc:l.filter (fun r=>!r.open_)=l) (hs:l.Pairwise fun a b=>rideLt b a=false) (hB:fsAll p (l.zip (useOf p l))=some B) (hC:fnAll p vs (B.zip (paidOf p l B))=some C) (hn:(C.map (·.ride)).Nodup) (ho:C.Pairwise fun a b=>a.ride≤b.ride):allErr f p l vs=0∧allR f p l vs=C:=by
 have hl:=cnt_self (rdsErr_good h2) hc hs
 have hall:allP p l vs=some C:=by
  unfold allP
  rw [hl,hB]
  simp only
  rw [hC]
  simp only
  rw [←byRide_unique (List.Perm.refl C) hn ho]
 constructor
 ·unfold allErr
  rw [if_neg (by omega),if_neg (by omega),if_neg (by omega),if_neg (by rw [hall];simp)]
 ·unfold allR
  rw [if_neg (by omega),hall];rfl
theorem fs_one {p:Pr} {r1:Rd} {u1:Int} {b1:Bil} (h1:firstP p r1 u1=some b1):fsAll p [(r1,u1)]=some [b1]:=by
 unfold fsAll
 simp only [List.foldl_cons,List.foldl_nil]
 unfold fsStep
 simp only [h1,List.nil_append]
end Go.Proofs.Far
namespace Go.Proofs.Net
open Go.Proofs.Cus Go.Proofs.Rid Go.Proofs.Far
def xF:Fl:=⟨2,2,1,[],[]⟩
def xP:Pr:=⟨[⟨0,100,60,0,20,5⟩],[],[],[],0,[],0⟩
def xL:List Ev:=[⟨0,1,10,10,2,0,0,0,0⟩,⟨0,2,1010,1010,3,0,0,1,7⟩,⟨0,3,1600,1600,2,0,0,0,0⟩,⟨0,4,1601,1601,10,0,0,0,0⟩]
def xR:Rd:=exR 7 1010 2 0
def xB:Bil:=⟨7,1,[⟨1,0,100⟩,⟨2,0,200⟩],300⟩
theorem x_evs:evsR xL=xL:=List.mergeSort_of_pairwise (by decide+kernel)
theorem x_set:setOf xL=xL:=by
 unfold setOf
 rw [show xL.mergeSort le1=xL from List.mergeSort_of_pairwise (by decide+kernel),show compactF sameNum xL=xL by decide+kernel]
 exact x_evs
theorem x_acc:accOf xF xL=xL.take 3:=by unfold accOf;rw [x_set];decide+kernel
theorem x_story:(storyOf xF xL).rides=[xR]:=by unfold storyOf;rw [x_acc];decide+kernel
theorem x_all:allOf xF xL=[xR]:=by
 unfold allOf
 rw [if_pos (by decide),x_story]
 unfold byId
 simp
theorem x_fin:finR xF xL=[xR]:=by unfold finR;rw [x_evs,x_all];decide+kernel
theorem x_first:firstP xP xR (-1)=some xB:=by unfold xR;rw [first_eq _ _ _ _ _ (ex_ridS ..) (ex_pauS ..)];decide
theorem x_fares:allErr xF xP [xR] []=0∧allR xF xP [xR] []=[xB]:=
 all_of (B:=[xB]) (by decide) (by decide) (by decide) (by decide) (by decide) (fs_one x_first) (by decide) (by decide) (by decide)
theorem x_ch (n:Nat) (i:Int) (b:List Py) (d:List En) (l:Int):chR xF xP n i b ⟨xL,d,l⟩=chD n i b ⟨xL,d,l⟩ [xB]:=by
 unfold chR
 simp only
 rw [x_fin,if_neg (by rw [x_fares.1];decide),x_fares.2]
def xS (a b:SS) (k:List Py):NS:=⟨[a,b],[[false,false],[false,false]],k⟩
def xpay:Py:=⟨7,1,300⟩
def xZ:SS:=⟨[],[],0⟩
def xE (i:Nat):Stp:=⟨1,0,0,xL.getD i default⟩
theorem x_e: ∀i,i<4→doN xF xP (xS ⟨xL.take i,[],0⟩ xZ []) (xE i)=(xS ⟨xL.take (i+1),[],0⟩ xZ [],1,0):=by decide+kernel
theorem x_5:doN xF xP (xS ⟨xL,[],0⟩ xZ []) (stp 5 0 0)=(xS ⟨xL,[],0⟩ xZ [],0,0):=by
 have h:doN xF xP (xS ⟨xL,[],0⟩ xZ []) (stp 5 0 0)=chN xF xP (xS ⟨xL,[],0⟩ xZ []) 0 ⟨xL,[],0⟩:=rfl
 rw [h];unfold chN;rw [x_ch];decide+kernel
theorem x_6:doN xF xP (xS ⟨xL,[],0⟩ xZ []) (stp 4 1 0)=(xS ⟨xL,[],0⟩ ⟨xL,[],0⟩ [],4,0):=by
 have h:doN xF xP (xS ⟨xL,[],0⟩ xZ []) (stp 4 1 0)=(putS (xS ⟨xL,[],0⟩ xZ []) 1 ⟨(learnL 1 [] (evsR xL)).1,[],0⟩,(learnL 1 [] (evsR xL)).2,0):=rfl
 rw [h,x_evs];decide+kernel
theorem x_7:doN xF xP (xS ⟨xL,[],0⟩ ⟨xL,[],0⟩ []) (stp 6 1 1)=(xS ⟨xL,[],0⟩ ⟨xL,[],1⟩ [],0,0):=by decide+kernel
theorem x_8:doN xF xP (xS ⟨xL,[],0⟩ ⟨xL,[],1⟩ []) (stp 5 1 0)=(xS ⟨xL,[],0⟩ ⟨xL,[⟨xpay,0,1⟩],0⟩ [xpay],0,0):=by
 have h:doN xF xP (xS ⟨xL,[],0⟩ ⟨xL,[],1⟩ []) (stp 5 1 0)=chN xF xP (xS ⟨xL,[],0⟩ ⟨xL,[],1⟩ []) 1 ⟨xL,[],1⟩:=rfl
 rw [h];unfold chN;rw [x_ch];decide+kernel
theorem x_9:doN xF xP (xS ⟨xL,[],0⟩ ⟨xL,[⟨xpay,0,1⟩],0⟩ [xpay]) (stp 5 1 0)=(xS ⟨xL,[],0⟩ ⟨xL,[⟨xpay,1,2⟩],0⟩ [xpay],1,0):=by
 have h:doN xF xP (xS ⟨xL,[],0⟩ ⟨xL,[⟨xpay,0,1⟩],0⟩ [xpay]) (stp 5 1 0)=chN xF xP (xS ⟨xL,[],0⟩ ⟨xL,[⟨xpay,0,1⟩],0⟩ [xpay]) 1 ⟨xL,[⟨xpay,0,1⟩],0⟩:=rfl
 rw [h];unfold chN;rw [x_ch];decide+kernel
end Go.Proofs.Net
