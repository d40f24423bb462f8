import Derived.Test.YtakhechhnnjbcaaGreatBC20
import Derived.Test.YtakhechhnnjbcaaGreatBC13
import Derived.Test.YtakhechhnnjbcaaGreatBC09
import Derived.Test.YtakhechhnnjbcaaGreatBC12
import Derived.Test.YtakhechhnnjbcaaGreatBC04
import Derived.Test.YtakhechhnnjbcaaGreatTc
set_option maxRecDepth 100000
set_option maxHeartbeats 8000000
set_option linter.unusedVariables false
set_option linter.unusedSimpArgs false
namespace Go.Proofs.Rid
open Go Go.RowKit Go.Proofs.E Go.Proofs.Cus
section
variable {a:YA} {t:TY} {w0 w:World} {L:List E.Item} {n N:Nat}
theorem HX {s:SY} {e:Ev} {b:Nat} {v:Int} (hb:e.bD=b) (hv:s.cG.getD b 0=v):
  (e.kind=3→dV s e=qh s e (dX e))∧(e.kind=4→dV s e=ko s e (dX e))∧
  (e.kind=5→dV s e=if 0≤v then {s with cg:=s.cg.set v.toNat (po (dX e) (s.cg.getD v.toNat default)),bn:=s.bn.set v.toNat true} else s)∧
  (e.kind=6→dV s e=if 0≤v then kh s v.toNat (dX e) else s)∧
  (e.kind=1→dV s e=gX s b ⟨1,e.place,0,false⟩ (dX e))∧(e.kind=2→dV s e=gX s b ⟨2,e.place,0,false⟩ (dX e))∧
  (e.kind=9→dV s e=gX s b ⟨6,0,0,false⟩ (dX e))∧(e.kind≠3→e.kind≠4→e.kind≠5→e.kind≠6→e.kind≠1→e.kind≠2→e.kind≠9→dV s e=s):=by
 have hbt:e.bD.toNat=b:=by omega
 refine ⟨fun h=>?_,fun h=>?_,fun h=>?_,fun h=>?_,fun h=>?_,fun h=>?_,fun h=>?_,fun h3 h4 h5 h6 h1 h2 h9=>?_⟩<;>unfold dV<;>simp only [hbt,hv]
 ·rw [av h]
 ·rw [ah (by omega),av h]
 ·rw [ah (by omega),ah (by omega),av h]
 ·rw [ah (by omega),ah (by omega),ah (by omega),av h]
 ·rw [ah (by omega),ah (by omega),ah (by omega),ah (by omega),av h]
 ·rw [ah (by omega),ah (by omega),ah (by omega),ah (by omega),ah (by omega),av h]
 ·rw [ah (by omega),ah (by omega),ah (by omega),ah (by omega),ah (by omega),ah (by omega),av h]
 rw [ah h3,ah h4,ah h5,ah h6,ah h1,ah h2,ah h9]
theorem S7 (hw:Mem w0 (zm a t++L) w) (hmk:marks L=[]) (hI:WF n N t.plain) (hN:N≤100000) (e:Ev) (hb:0≤e.bD∧e.bD<n):
  Calls Tryz.prog 101 #[.pointer (some ⟨a.sb,0,none⟩), .agg e.cells.toArray] w fun r w'=> ∃y:Ui a (dV t.plain e),r= .returned (.tuple #[])∧Mem w0 (zm y.1.1 y.1.2++L) w':=by
 obtain ⟨hpl,hrl,hsl,hxl⟩:=Cm hI;obtain ⟨k,hk⟩: ∃k:Nat,e.bD=k:=⟨e.bD.toNat,by omega⟩;have hkn:k<n:=by omega
 obtain ⟨v,hv,hvg,hv0,hv1⟩:=qY hI hkn;have hvt:t.cG[k]?=some v:=hv;have hv1':v<t.xs.length:=by simpa [TY.plain] using hv1
 obtain ⟨d3,d4,d5,d6,d1,d2,d9,d0⟩:=HX (s:=t.plain) hk hvg;obtain ⟨ed,es,eat,el,ekind,ebike,epl,erd,erid⟩:=e;simp only at hk d3 d4 d5 d6 d1 d2 d9 d0 hb;subst hk;refine eu hw hmk Tryz.func101 rfl Tryz.ntmps101 rfl ?_;iterate 2 refine G ?_
 refine cd (v:= .agg _) rfl rfl fun b3=>?_;iterate 8 refine G ?_
 refine bO (bS eM Sc xJ (pt (v:= .int _ _) rfl (pt (v:= .int _ _) rfl E.p0)) rfl) ?_;refine cx xJ rfl fun b4=>?_;refine fI (v:= .agg _) rfl rfl cQ ?_;iterate 3 refine G ?_
 refine tB ?_;iterate 6 refine G ?_
 refine bO (bt k ak ax (q0 rfl) (q0 rfl) (fun _=>⟨rfl,by omega⟩)) ?_;refine bO (ea (v:= .int .i64 v) aJ (q0 rfl) (by exact oR 6 (k:=1) (enc:=aN) rfl hvt rfl)) ?_;iterate 16 refine G ?_
 refine au rfl ?_ ?_<;>intro h3
 ·have hk3:ekind=3:=by simpa using h3
  iterate 4 refine G ?_
  refine bZ (bR (en Tryz.call154 (nj (q0 rfl) (q0 rfl) (q0 rfl))) (fun w hw=>Fs (Mem.v7 (X:=[_,_]) (S:=zm a t) hw) hmk hI hN ⟨ed,es,eat,el,ekind,k,epl,erd,erid⟩ hb ⟨eat,el⟩) rfl (fun _=>rfl) fun y=>?_);iterate 2 refine G ?_
  exact lj rfl hmk fun w' hw=>⟨⟨y.1,y.2.1,y.2.2.trans (d3 hk3).symm⟩,rfl,Mem.yL (X:=[_,_]) hw⟩
 iterate 6 refine G ?_
 refine au rfl ?_ ?_<;>intro h4
 ·have hk4:ekind=4:=by simpa using h4
  iterate 4 refine G ?_
  refine bZ (bR (en Tryz.call155 (nj (q0 rfl) (q0 rfl) (q0 rfl))) (fun w hw=>OG (Mem.v7 (X:=[_,_]) (S:=zm a t) hw) hmk hI hN ⟨ed,es,eat,el,ekind,k,epl,erd,erid⟩ hb ⟨eat,el⟩) rfl (fun _=>rfl) fun y=>?_);iterate 2 refine G ?_
  exact lj rfl hmk fun w' hw=>⟨⟨y.1,y.2.1,y.2.2.trans (d4 hk4).symm⟩,rfl,Mem.yL (X:=[_,_]) hw⟩
 iterate 6 refine G ?_
 refine au rfl ?_ ?_<;>intro h5
 ·have hk5:ekind=5:=by simpa using h5
  iterate 6 refine G ?_
  refine au rfl ?_ ?_<;>intro hp
  ·have hp':0≤v:=by simpa using hp
   obtain ⟨q,rfl⟩: ∃q:Nat,v=q:=⟨v.toNat,by omega⟩;have hq:q<t.xs.length:=by omega
   obtain ⟨x,hx⟩: ∃x,t.xs[q]?=some x:=⟨_,aj hq⟩;obtain ⟨p,hpq⟩: ∃p,t.bn[q]?=some p:=⟨_,aj (by omega)⟩;have hlo:=E5 hI hx;have hxd:=qZ hx;have hop:=fun (X:List E.Item) (w:World) (h:Mem w0 (zm a t++X) w)=>Js h hx;have hcl:=fun (z:RX) (ps:List Bool) (w:World)=>Fp (a:=a) (t:=t) (w0:=w0) (w:=w) (L:=L) (m:=t.mF) (gs:=t.cG) (ps:=ps) (ss:=t.aK) (k:=q) z hq;refine G ?_;refine fY (fun w hw=>hop _ w (Mem.v7 (X:=[_,_]) (S:=zm a t) hw)) rfl ?_;refine fN (fun w hw=>dP (j:=0) hw rfl (by omega)) fun ⟨rb,hrb⟩=>?_;refine fN (fun w hw=>dP (j:=3) hw rfl (by omega)) fun ⟨bb,hbb⟩=>?_;obtain ⟨asb,arA,arc,am,ag,agc,apA,apc,as_,Ka⟩:=a;obtain ⟨xr,⟨lA,lc,pA,pc⟩⟩:=x;simp only at hrb hbb hlo;subst hrb;subst hbb;refine jK [37,38,39,40,41,42,43,44,45,46,47,48,49,50,51,52,53,54,55] (fun _:Option Addr×Nat=>[]) (fun s=>[jt (some ⟨rb,0,none⟩) arc (t.xs.set q ⟨po ⟨eat,el⟩ xr,⟨lA,lc,s.1,s.2⟩⟩),Ai s.1 s.2 (xr.bz++[⟨⟨eat,el⟩,nY⟩]),Ao lA lc xr.cw,El (some ⟨bb,0,none⟩) apc t.bn,rf (some ⟨ag,0,none⟩) agc t.cG,E.dR 252 4 Sp.cells (some ⟨as_,0,none⟩) Ka t.aK,box asb 183 (kO ⟨asb,some ⟨rb,0,none⟩,arc,am,ag,agc,some ⟨bb,0,none⟩,apc,as_,Ka⟩ t),dD ((t.xs.eraseIdx q).flatMap kH),kS am (MU t.mF),box b4 187 [.int .i64 eat, .int .i64 el],box b3 58 (Ev.cells ⟨ed,es,eat,el,ekind,k,epl,erd,erid⟩)]++L) (fun _=>True) ?_ ?_
   ·refine zd 2 ?_;refine aW 0 ?_;refine aW 1 ?_;refine aW 2 ?_;refine aW 3 ?_;refine aW 4 ?_;refine aW 5 ?_;refine aW 6 ?_;refine aW 7 ?_;refine aW 8 ?_;refine aW 9 ?_;refine iQ 10 rfl (bt q bI bo (q0 rfl) (q0 rfl) (fun _=>⟨rfl,hq⟩)) ?_;refine aW 11 ?_;refine aW 13 ?_;refine iQ 14 rfl (bS jT Vr l7 (pt (v:= .agg _) rfl E.p0) rfl) ?_;refine kY (i:=12) (j:=15) (by decide+kernel) (bK 2) ?_ ?_
    ·refine aL rfl (gY (ea (v:= .slice pA xr.bz.length pc) mE (q0 rfl) (by first|exact rr 0 (r:=8) rfl hx rfl|exact rr 1 (r:=8) rfl hx rfl)) rfl rfl ?_);refine r1 15 2 ?_;refine aL rfl (dE [(.int .i64 0),(.int .i64 0),(.int .i64 0),(.int .i64 0)] fg iC l7 rfl (by kernel_rfl) (pt (v:= .agg _) rfl E.p0) rfl rfl fun b52=>?_);refine r1 16 3 ?_;refine aL rfl (ba (k:=4) (i:=Tryz.t248) (enc:=Pz.cells) (xs:=xr.bz) 2 fg (by kernel_rfl) rfl rfl rfl rfl (fun _=>rfl) (fun _=>rfl) rfl rfl rfl (fun w hw=>bg (enc:=Pz.cells) (xs:=[⟨⟨eat,el⟩,nY⟩]) hw (j:=0) rfl (fun _=>rfl) (by simp)) ⟨by simp;omega,by decide⟩ rfl fun A1 c1=>?_);refine iQ 17 rfl (bt q bI bo (q0 rfl) (q0 rfl) (fun _=>⟨rfl,hq⟩)) ?_;refine aW 18 ?_;refine r1 19 3 ?_;refine aL rfl (jn 1 (i:=q) (off:=8) ⟨po ⟨eat,el⟩ xr,⟨lA,lc,A1,c1⟩⟩ rfl rfl mU rfl rfl rfl hx rfl rfl ?_);refine jz 3 ?_;exact aO ((A1,c1):Option Addr×Nat) eE trivial (fun w hw=>hw.tail) rfl trivial
    refine aL rfl (dE [(.int .i64 0),(.int .i64 0),(.int .i64 0),(.int .i64 0)] fg iC l7 rfl (by kernel_rfl) (pt (v:= .agg _) rfl E.p0) rfl rfl fun b52=>?_);refine r1 12 3 ?_;refine aL rfl (gY (ea (v:= .slice pA xr.bz.length pc) mE (q0 rfl) (by first|exact rr 0 (r:=8) rfl hx rfl|exact rr 1 (r:=8) rfl hx rfl)) rfl rfl ?_);refine r1 16 3 ?_;refine aL rfl (ba (k:=4) (i:=Tryz.t248) (enc:=Pz.cells) (xs:=xr.bz) 2 fg (by kernel_rfl) rfl rfl rfl rfl (fun _=>rfl) (fun _=>rfl) rfl rfl rfl (fun w hw=>bg (enc:=Pz.cells) (xs:=[⟨⟨eat,el⟩,nY⟩]) hw (j:=0) rfl (fun _=>rfl) (by simp)) ⟨by simp;omega,by decide⟩ rfl fun A1 c1=>?_);refine iQ 17 rfl (bt q bI bo (q0 rfl) (q0 rfl) (fun _=>⟨rfl,hq⟩)) ?_;refine aW 18 ?_;refine r1 19 3 ?_;refine aL rfl (jn 1 (i:=q) (off:=8) ⟨po ⟨eat,el⟩ xr,⟨lA,lc,A1,c1⟩⟩ rfl rfl mU rfl rfl rfl hx rfl rfl ?_);refine jz 3 ?_;exact aO ((A1,c1):Option Addr×Nat) eE trivial (fun w hw=>hw.tail) rfl trivial
   rintro ⟨A1,c1⟩ g5 _;iterate 7 refine G ?_
   refine bO (bt q eN dG (q0 rfl) (q0 rfl) (fun _=>⟨rfl,by omega⟩)) ?_;refine bZ (ew 3 (k:=1) (enc:=LH) true rfl rfl dG rfl rfl rfl hpq rfl rfl ?_);iterate 2 refine G ?_
   exact lj rfl hmk fun w' hw=>⟨⟨(_,_),rfl,by
    rw [d5 hk5,av hp'];unfold TY.plain;simp only [aM];rw [hxd,ta];rfl⟩,rfl,hcl ⟨po ⟨eat,el⟩ xr,⟨lA,lc,A1,c1⟩⟩ (t.bn.set q true) w' rfl (by simp) rfl (hw.dh 11 [0,1,2,3,4,5,6,7,8] (by decide) (by decide))⟩
  have hp': ¬0≤v:=by simpa using hp
  iterate 2 refine G ?_
  exact lj rfl hmk fun w' hw=>⟨⟨(a,t),rfl,by rw [d5 hk5,ah hp']⟩,rfl,hw.tail.tail⟩
 iterate 6 refine G ?_
 refine au rfl ?_ ?_<;>intro h6
 ·have hk6:ekind=6:=by simpa using h6
  iterate 6 refine G ?_
  refine au rfl ?_ ?_<;>intro hp
  ·have hp':0≤v:=by simpa using hp
   obtain ⟨q,rfl⟩: ∃q:Nat,v=q:=⟨v.toNat,by omega⟩;have hq:q<t.xs.length:=by omega
   obtain ⟨x,hx⟩: ∃x,t.xs[q]?=some x:=⟨_,aj hq⟩;have hxd:=qZ hx;iterate 4 refine G ?_
   refine bZ (bR (en Tryz.call156 (nj (q0 rfl) (q0 rfl) (q0 rfl))) (fun w hw=>Gh (Mem.v7 (X:=[_,_]) (S:=zm a t) hw) hmk hI hN hq hx ⟨eat,el⟩) rfl (fun _=>rfl) fun u=>?_);iterate 2 refine G ?_
   exact lj rfl hmk fun w' hw=>⟨⟨(a,_),rfl,by
    rw [d6 hk6,av hp'];unfold kh TY.plain;simp only [aM];rw [hxd,ta];rfl⟩,rfl,Mem.yL (X:=[_,_]) hw⟩
  have hp': ¬0≤v:=by simpa using hp
  iterate 2 refine G ?_
  exact lj rfl hmk fun w' hw=>⟨⟨(a,t),rfl,by rw [d6 hk6,ah hp']⟩,rfl,hw.tail.tail⟩
 iterate 6 refine G ?_
 refine au rfl ?_ ?_<;>intro h1
 ·have hk1:ekind=1:=by simpa using h1
  iterate 6 refine G ?_
  refine bO (bS ff wH eY (pt (v:= .int _ _) rfl (pt (v:= .int _ _) rfl E.p0)) rfl) ?_;refine G ?_;refine bZ (bR (en UF (Fb (q0 rfl) (q0 rfl) (q0 rfl) (q0 rfl))) (fun w hw=>qx (Mem.v7 (X:=[_,_]) (S:=zm a t) hw) hmk hI hN k hkn ⟨1,epl,0,false⟩ ⟨eat,el⟩) rfl (fun _=>rfl) fun y=>?_);iterate 2 refine G ?_
  exact lj rfl hmk fun w' hw=>⟨⟨(a,y.1),rfl,y.2.trans (d1 hk1).symm⟩,rfl,Mem.yL (X:=[_,_]) hw⟩
 iterate 6 refine G ?_
 refine au rfl ?_ ?_<;>intro h2
 ·have hk2:ekind=2:=by simpa using h2
  iterate 6 refine G ?_
  refine bO (bS ff wH eY (pt (v:= .int _ _) rfl (pt (v:= .int _ _) rfl E.p0)) rfl) ?_;refine G ?_;refine bZ (bR (en UF (Fb (q0 rfl) (q0 rfl) (q0 rfl) (q0 rfl))) (fun w hw=>qx (Mem.v7 (X:=[_,_]) (S:=zm a t) hw) hmk hI hN k hkn ⟨2,epl,0,false⟩ ⟨eat,el⟩) rfl (fun _=>rfl) fun y=>?_);iterate 2 refine G ?_
  exact lj rfl hmk fun w' hw=>⟨⟨(a,y.1),rfl,y.2.trans (d2 hk2).symm⟩,rfl,Mem.yL (X:=[_,_]) hw⟩
 iterate 6 refine G ?_
 refine au rfl ?_ ?_<;>intro h9
 ·have hk9:ekind=9:=by simpa using h9
  iterate 4 refine G ?_
  refine bO (bS ff wH eY (pt (v:= .int _ _) rfl E.p0) rfl) ?_;refine G ?_;refine bZ (bR (en UF (Fb (q0 rfl) (q0 rfl) (q0 rfl) (q0 rfl))) (fun w hw=>qx (Mem.v7 (X:=[_,_]) (S:=zm a t) hw) hmk hI hN k hkn ⟨6,0,0,false⟩ ⟨eat,el⟩) rfl (fun _=>rfl) fun y=>?_);iterate 2 refine G ?_
  exact lj rfl hmk fun w' hw=>⟨⟨(a,y.1),rfl,y.2.trans (d9 hk9).symm⟩,rfl,Mem.yL (X:=[_,_]) hw⟩
 iterate 2 refine G ?_
 exact lj rfl hmk fun w' hw=>⟨⟨(a,t),rfl,(d0 (by simpa using h3) (by simpa using h4) (by simpa using h5) (by simpa using h6) (by simpa using h1) (by simpa using h2) (by simpa using h9)).symm⟩,rfl,hw.tail.tail⟩
end
end Go.Proofs.Rid
namespace Go.Proofs.Rid
open Go Go.RowKit Go.Proofs.E Go.Proofs.Cus
theorem Q5 (x y:RX) (w:World):Calls Tryz.prog 103 #[.agg x.cells.toArray, .agg y.cells.toArray] w fun e w'=>e= .returned (.int .i64 (j0 x.r.id y.r.id))∧gz w w':=by
 refine aS Tryz.func103 rfl Tryz.ntmps103 rfl ?_;iterate 2 refine G ?_
 refine cd (v:= .agg _) rfl rfl fun b2=>?_;refine cd (v:= .agg _) rfl rfl fun b3=>?_;iterate 9 refine G ?_
 refine gV (en kB (gr (q0 rfl) (q0 rfl))) (fun _ w _=>jM x.r.id y.r.id w) ?_;iterate 4 refine G ?_
 exact bH (v:= .int _ _) rfl rfl rfl fun w' hw=>⟨rfl,hw.1⟩
def FO (x y:RX):Bool:=Lv x.r y.r
theorem J1 (a b:Int):decide (j0 a b<0)=decide (a<b):=by
 unfold j0;split
 ·rename_i h;simp [h]
 rename_i h;split<;>simp [h]
theorem Kt (u v:RX) (h:FO u v=true):FO v u=false:=by unfold FO Lv at*;simp at*;omega
theorem HQ (u v w:RX) (h1:FO u v=false) (h2:FO v w=false):FO u w=false:=by unfold FO Lv at*;simp at*;omega
section
variable {w0 w:World} {L:List E.Item}
theorem R8 {A:Option Addr} {c:Nat} {xs:List RX} (a b:Nat) (hw:Mem w0 (jt A c xs::L) w) (hmk:marks L=[]) (hb:b≤xs.length) (hl:xs.length≤100000) (ha:a≤100000):
  Calls Tryz.prog 207 #[.slice A xs.length c, .int .i64 a, .int .i64 b, .func (.func 103) #[] #[]] w fun e w'=> ∃ys:{ys:List RX// ∃i,b≤i∧(i≤b∨i=a+1)∧HA FO xs ys a i},e= .returned (.tuple #[])∧Mem w0 (jt A c ys.1::L) w':=by
 refine eu hw hmk Tryz.func207 rfl Tryz.ntmps207 rfl ?_;iterate 8 refine G ?_
 refine ct [8,9,12,13,14,15,16,17,18,19,20,21,22,23,24,25,26,27,28,29,30,31,32,33,34,35,36,37,38,39,40,41,42,43,44,45,46,47,48,49,50,51,52] (fun q:Nat×List RX=>[(8, .int .i64 q.1)]) (fun q=>jt A c q.2::L) (fun q=>a+1≤q.1∧(q.1≤b∨q.1=a+1)∧HA FO xs q.2 a q.1) (fun q=>b -q.1) (a+1,xs) ⟨rfl,trivial⟩ (fun w hw=>hw) rfl ⟨bq _, .inr rfl,HA.start xs a⟩ ?_;rintro ⟨i,ys⟩ g ⟨hai,hib,hO⟩;simp only at hai hib hO;have hyl:ys.length=xs.length:=hO.perm.length_eq;rw [←hyl];iterate 8 refine G ?_
 refine au rfl ?_ ?_<;>intro hlt
 ·have hlt':i<b:=by simpa using hlt
  iterate 11 refine G ?_
  refine ct [9,18,19,20,21,22,23,24,25,26,27,28,29,30,31,32,33,34,35,36,37,38,39,40,41,42,43,44,45,46,47,48,49,50,51,52] (fun q:Nat×List RX=>[(9, .int .i64 q.1)]) (fun q=>jt A c q.2::L) (fun q=>a≤q.1∧q.1≤i∧IZ FO xs q.2 a i q.1) (fun q=>q.1) (i,ys) ⟨rfl,trivial⟩ (fun w hw=>hw) rfl ⟨by show a≤i;omega,bq _,hO.inner⟩ ?_;rintro ⟨j,zs⟩ g2 ⟨haj,hji,hI⟩;simp only at haj hji hI;have hzl:zs.length=xs.length:=hI.perm.length_eq;rw [show ys.length=zs.length by omega];obtain ⟨x,hx⟩: ∃x,zs[j]?=some x:=⟨_,aj (by omega)⟩;obtain ⟨y,hy⟩: ∃y,zs[j -1]?=some y:=⟨_,aj (by omega)⟩;refine fN (fun w hw=>dP (j:=0) hw rfl (by simp only;omega)) fun ⟨rb,hrb⟩=>?_;subst hrb;iterate 2 refine G ?_
  refine tB ?_;iterate 7 refine G ?_
  refine qV (bt j bI bo (q1 rfl) (q1 rfl) (fun _=>⟨rfl,by omega⟩)) rfl rfl ?_;refine qV (km (vs:=x.cells) jc bo (q1 rfl) (sf 0 rfl hx) rfl) rfl rfl ?_;iterate 2 refine G ?_
  refine qV (ou (r:=((j -1:Nat):Int)) (q1 rfl) (q0 rfl) (fun hg=>by simp at hg;exact ⟨by omega,by omega,by omega⟩)) rfl rfl ?_;refine qV (bt (j -1) bI bo (q1 rfl) (q1 rfl) (fun _=>⟨rfl,by omega⟩)) rfl rfl ?_;refine qV (km (vs:=y.cells) jc bo (q1 rfl) (sf 0 rfl hy) rfl) rfl rfl ?_;refine EB (wK (cap:=[]) (al:=[.agg x.cells.toArray, .agg y.cells.toArray]) Tryz.call103 (q1 rfl) (fun hg=>by rw [gr (q1 (v:= .agg _) rfl) (q1 (v:= .agg _) rfl) hg];rfl)) (fun _ w _=>Q5 x y w) rfl rfl rfl rfl ?_;iterate 4 refine G ?_
  refine au rfl ?_ ?_<;>intro hc
  ·have hja:a<j∧FO x y=true:=by
    rw [J1] at hc;unfold FO Lv;simpa using hc
   have hx2:(zs.set (j -1) x)[j]?=some x:=by rw [cj (by omega)];exact hx
   have hy2:(zs.set j y)[j -1]?=some y:=by rw [cj (by omega)];exact hy
   iterate 4 refine G ?_
   refine jK [37,38,39,40,41,42,43,44,45,46,47,48,49,50,51,52] (fun _:Unit=>[]) (fun _=>jt (some ⟨rb,0,none⟩) c ((zs.set j y).set (j -1) x)::L) (fun _=>True) ?_ ?_
   ·refine zd 1 ?_;refine aW 0 ?_;refine aW 1 ?_;refine aW 2 ?_;refine aW 3 ?_;refine aW 4 ?_;refine aW 5 ?_;refine aW 6 ?_;refine aW 7 ?_;refine iQ 8 rfl (bt (j -1) bI bo (q0 rfl) (q0 rfl) (fun _=>⟨by omega,by omega⟩)) ?_;refine aW 10 ?_;refine aW 11 ?_;refine iQ 12 rfl (bt j bI bo (q0 rfl) (q0 rfl) (fun _=>⟨by omega,by omega⟩)) ?_;refine kY (i:=9) (j:=13) (by decide+kernel) (bK 1) ?_ ?_
    ·refine aL rfl (gY (km (vs:=y.cells) jc bo (q0 rfl) (sf 0 rfl hy) rfl) rfl rfl ?_);refine r1 13 1 ?_;refine aL rfl (gY (km (vs:=x.cells) jc bo (q0 rfl) (sf 0 rfl hx) rfl) rfl rfl ?_);refine iQ 14 rfl (bt j bI bo (q0 rfl) (q0 rfl) (fun _=>⟨by omega,by omega⟩)) ?_;refine r1 15 1 ?_;refine aL rfl (ew 0 y rfl rfl bo rfl rfl rfl (by first|exact hx|exact hx2) rfl rfl ?_);refine iQ 16 rfl (bt (j -1) bI bo (q0 rfl) (q0 rfl) (fun _=>⟨by omega,by omega⟩)) ?_;refine r1 17 1 ?_;refine aL rfl (ew 0 x rfl rfl bo rfl rfl rfl (by first|exact hy2|exact hy) rfl rfl ?_);refine jz 1 ?_;exact aO () eE trivial (fun w hw=>by first|exact hw|(rw [List.set_comm _ _ (by omega)];exact hw)) rfl trivial
    refine aL rfl (gY (km (vs:=x.cells) jc bo (q0 rfl) (sf 0 rfl hx) rfl) rfl rfl ?_);refine r1 9 1 ?_;refine aL rfl (gY (km (vs:=y.cells) jc bo (q0 rfl) (sf 0 rfl hy) rfl) rfl rfl ?_);refine iQ 14 rfl (bt j bI bo (q0 rfl) (q0 rfl) (fun _=>⟨by omega,by omega⟩)) ?_;refine r1 15 1 ?_;refine aL rfl (ew 0 y rfl rfl bo rfl rfl rfl (by first|exact hx|exact hx2) rfl rfl ?_);refine iQ 16 rfl (bt (j -1) bI bo (q0 rfl) (q0 rfl) (fun _=>⟨by omega,by omega⟩)) ?_;refine r1 17 1 ?_;refine aL rfl (ew 0 x rfl rfl bo rfl rfl rfl (by first|exact hy2|exact hy) rfl rfl ?_);refine jz 1 ?_;exact aO () eE trivial (fun w hw=>by first|exact hw|(rw [List.set_comm _ _ (by omega)];exact hw)) rfl trivial
   intro _ g5 _;iterate 7 refine G ?_
   exact ay (j -1,(zs.set j y).set (j -1) x) eE ⟨by show Value.int .i64 ((j:Int) -1)=Value.int .i64 ((j -1:Nat):Int);congr 1;omega,trivial⟩ (fun w hw=>hw) rfl ⟨by show a≤j -1;omega,by show j -1≤i;omega,hI.step Kt hja.1 hji hx hy hja.2⟩ (by show j -1<j;omega)
  have hja:j=a∨FO x y=false:=by
   rw [J1] at hc;unfold FO Lv;simp at hc;simp;omega
  iterate 11 refine G ?_
  exact ay (i+1,zs) eE ⟨rfl,trivial⟩ (fun w hw=>hw) rfl ⟨by show a+1≤i+1;omega, .inl (by show i+1≤b;omega),hI.stop HQ haj hji (hja.imp id fun h=>⟨x,y,hx,hy,h⟩)⟩ (by show b -(i+1)<b -i;omega)
 have hlt':b≤i:=by simpa using hlt
 iterate 4 refine G ?_
 exact lj rfl hmk fun w' hw=>⟨⟨ys,i,hlt',hib,hO⟩,rfl,hw⟩
structure IW (xs ys:List RX):Prop where
 perm:ys.Perm xs
 ok:C6 FO ys 0 ys.length
theorem MH {A:Option Addr} {c:Nat} {xs:List RX} (hw:Mem w0 (jt A c xs::L) w) (hmk:marks L=[]) (hl:xs.length≤20):
  Calls Tryz.prog 158 #[.slice A xs.length c, .int .i64 xs.length, .func (.func 103) #[] #[]] w fun e w'=> ∃ys:{ys:List RX//IW xs ys},e= .returned (.tuple #[])∧Mem w0 (jt A c ys.1::L) w':=by
 refine eu hw hmk Tryz.func158 rfl Tryz.ntmps158 rfl ?_;iterate 14 refine G ?_
 refine ct [7,8,11,12,13,14,15,16,17,18,19,20,21,22] (fun q:Bool×List RX=>[(7, .int .i64 (if q.1=true then 20 else 0)),(8, .int .i64 (if q.1=true then 40 else 20))]) (fun q=>jt A c q.2::L) (fun q=>q.2.Perm xs∧(q.1=true→xs.length=20∧C6 FO q.2 0 20)∧(q.1=false→q.2=xs)) (fun q=>if q.1=true then 0 else 1) (false,xs) ⟨rfl,rfl,trivial⟩ (fun w hw=>hw) rfl ⟨uB _,fun h=>by simp at h,fun _=>rfl⟩ ?_;rintro ⟨d,ys⟩ g ⟨hp,hd1,hd0⟩;simp only at hp hd1 hd0;have hyl:ys.length=xs.length:=hp.length_eq;rw [←hyl];iterate 8 refine G ?_
 refine au rfl ?_ ?_<;>intro hle
 ·cases d with
  |true=>simp at hle;omega
  |false=>
   have h20:ys.length=20:=by simp at hle;omega
   have hyx:=hd0 rfl;iterate 9 refine G ?_
   refine bZ (bR (en Tryz.call207 (Fb (q0 rfl) (q0 rfl) (q0 rfl) (q0 rfl))) (fun w hw=>R8 (xs:=ys) 0 20 hw hmk (by omega) (by omega) (by omega)) rfl (fun _=>rfl) fun u=>?_);obtain ⟨zs,i,hi1,hi2,hO⟩:=u;iterate 15 refine G ?_
   exact ay (true,zs) eE ⟨rfl,rfl,trivial⟩ (fun w hw=>hw) rfl ⟨hO.perm.trans hp,fun _=>⟨by omega,fun p q x y h1 h2 h3=>hO.ok p q x y h1 h2 (by omega)⟩,fun h=>by cases h⟩ (by show 0<1;decide)
 have hlt:d=true∨ys.length<20:=by
  cases d with
  |true=>exact .inl rfl
  |false=>right;simp at hle;omega
 have hmid: ∃a0:Nat,(if d=true then (20:Int) else 0)=(a0:Int)∧(a0=20∧d=true∨a0=0∧d=false):=by
  cases d with
  |true=>exact ⟨20,rfl, .inl ⟨rfl,rfl⟩⟩
  |false=>exact ⟨0,rfl, .inr ⟨rfl,rfl⟩⟩
 obtain ⟨a0,Iw,hcase⟩:=hmid;simp only [Iw];iterate 11 refine G ?_
 refine bZ (bR (en Tryz.call207 (Fb (q0 rfl) (q0 rfl) (q0 rfl) (q0 rfl))) (fun w hw=>R8 (xs:=ys) a0 ys.length hw hmk (by omega) (by omega) (by omega)) rfl (fun _=>rfl) fun u=>?_);obtain ⟨zs,i,hi1,hi2,hO⟩:=u;have hzl:zs.length=xs.length:=(hO.perm.trans hp).length_eq;have hfin:IW xs zs:=by
  refine ⟨hO.perm.trans hp,fun p q x y h1 h2 h3 hx hy=>?_⟩;rcases hcase with ⟨h4,h5⟩|⟨h4,h5⟩
  ·obtain ⟨h6,h7⟩:=hd1 h5;rw [hO.out p (by omega)] at hx;rw [hO.out q (by omega)] at hy;exact h7 p q x y h1 h2 (by omega) hx hy
  exact hO.ok p q x y (by omega) h2 (by omega) hx hy
 have hz20:zs.length≤20:=by omega
 iterate 3 refine G ?_
 refine ct [6,7,8,9,28,29,30,31,32,33,34,35,36,37,38,39,40,41,42,43,44,45,46,47,48,49,50,51,52,53,54,55,56,57,58,59,60,61,62] (fun _:Unit=>[(6, .int .i64 20)]) (fun _=>jt A c zs::L) (fun _=>True) (fun _=>0) () ⟨rfl,trivial⟩ (fun w hw=>hw) rfl trivial ?_;intro _ g2 _;iterate 8 refine G ?_
 refine au rfl ?_ ?_<;>intro h9
 ·simp at h9;omega
 iterate 4 refine G ?_
 exact lj rfl hmk fun w' hw=>⟨⟨zs,hfin⟩,rfl,hw⟩
theorem S9 {A:Option Addr} {c:Nat} {xs:List RX} (hw:Mem w0 (jt A c xs::L) w) (hmk:marks L=[]) (hl:xs.length≤20):
  Calls Tryz.prog 102 #[.slice A xs.length c, .func (.func 103) #[] #[]] w fun e w'=> ∃ys:{ys:List RX//IW xs ys},e= .returned (.tuple #[])∧Mem w0 (jt A c ys.1::L) w':=by
 refine eu hw hmk Tryz.func102 rfl Tryz.ntmps102 rfl ?_;iterate 5 refine G ?_
 refine bZ (bR (en Tryz.call158 (nj (q0 rfl) (q0 rfl) (q0 rfl))) (fun w hw=>MH hw hmk hl) rfl (fun _=>rfl) fun u=>?_);refine G ?_;exact lj rfl hmk fun w' hw=>⟨u,rfl,hw⟩
end
end Go.Proofs.Rid
namespace Go.Proofs.Rid
open Go.Proofs.Cus
structure JI (n:Nat) (s:PS) (y:SY):Prop where
 ids:(y.cg.map (·.id)).Nodup
 used: ∀r∈y.cg,oX s.used r.id=true
 CV: ∀(k:Nat) r,y.cg[k]?=some r→zv y.mF r.id=some (k:Int)
 open_: ∀id t,(id,t)∈s.open_→ ∃(k:Nat) (r:Rd),y.cg[k]?=some r∧r.id=id∧r.open_=true∧mO r.cw=t.bD∧r.rider=t.rider∧y.bn[k]?=some t.bn∧y.cG[t.bD.toNat]?=some (k:Int)
 RO: ∀(k:Nat) r,y.cg[k]?=some r→r.open_=true→ ∃t,(r.id,t)∈s.open_
 free: ∀(b:Nat) x,s.aK[b]?=some x→x.cn≠3→y.cG[b]?=some (-1)
 aK: ∀(b:Nat) x,s.aK[b]?=some x→dK x=true→y.aK[b]?=some x
theorem JI.begin (n:Nat):JI n (fu n) (gG n):=by
 refine ⟨by simp [gG],fun r hr=>by simp [gG] at hr,fun k r h=>by simp [gG] at h,fun id t h=>by simp [fu] at h,fun k r h=>by simp [gG] at h,fun b x h h3=>?_,fun b x h hp=>?_⟩
 ·simp only [fu,gp] at h;simp only [gG,gp];split at h
  ·rename_i hb;rw [av hb]
  cases h
 simp only [fu,gp] at h;split at h
 ·cases h;simp [dK] at hp
 cases h
theorem AZ {l:List Rd} (h:(l.map (·.id)).Nodup) {j k:Nat} {r q:Rd} (hj:l[j]?=some r) (hk:l[k]?=some q) (e:r.id=q.id):j=k:=by
 obtain ⟨h1,e1⟩:=aa.1 hj;obtain ⟨h2,e2⟩:=aa.1 hk;have hp:=bj.1 h;rcases jQ j k with h3|h3|h3
 ·exact absurd (by rw [ij,ij,e1,e2];exact e) (hp j k (by simpa using h1) (by simpa using h2) h3)
 ·exact h3
 exact absurd (by rw [ij,ij,e1,e2];exact e.symm) (hp k j (by simpa using h2) (by simpa using h1) h3)
theorem gM {α:Type} {l:List α} {k:Nat} {x:α} (y:α) (hx:l[k]?=some x) (j:Nat):(l.set k y)[j]?=if k=j then some y else l[j]?:=by
 have:=(aa.1 hx).1;rw [bw];by_cases e:k=j
 ·rw [av e,av e,av (by omega)]
 rw [ah e,ah e]
theorem E8 {l:List Rd} {k:Nat} {r q:Rd} (hk:l[k]?=some r) (e:q.id=r.id):(l.set k q).map (·.id)=l.map (·.id):=by
 rw [k8,e];obtain ⟨h1,h2⟩:=aa.1 hk;apply cU;intro i;rw [bw];split
 ·rename_i hi;subst hi;simp [h1,h2]
 rfl
theorem Dj (l:List Lg) (g:Lg):mO (l++[g])=g.bD:=by
 unfold mO;simp
section
variable {n N:Nat} {s:PS} {y:SY}
theorem JI.at_ (h:JI n s y) (hI:jP n s) {id:Int} {t:PT} (ht:(id,t)∈s.open_) {b:Nat} (hb:t.bD=b): ∃x,s.aK[b]?=some x∧x.cn=3∧x.aP=id∧x.bn=t.bn:=by
 obtain ⟨_,x,hx,h3,hr,hp⟩:=hI.bD _ ht;simp only [hb,aM] at hx;exact ⟨x,hx,h3,hr,hp⟩
theorem JI.P1 (h:JI n s y) {k:Nat} {r q:Rd} (hk:y.cg[k]?=some r) (h1:q.id=r.id) (h2:q.rider=r.rider) (h3:q.open_=r.open_) (h4:mO q.cw=mO r.cw):JI n s {y with cg:=y.cg.set k q}:=by
 have hg:=gM q hk;refine ⟨by simp only [E8 hk h1];exact h.ids,fun x hx=>?_,fun j x hx=>?_,fun id t ht=>?_,fun j x hx ho=>?_,h.free,h.aK⟩
 ·rcases cK hx with hx|rfl
  ·exact h.used x hx
  rw [h1];exact h.used r (an hk)
 ·simp only [hg] at hx;split at hx
  ·rename_i e;cases hx;rw [h1,←e];exact h.CV k r hk
  exact h.CV j x hx
 ·obtain ⟨j,x,a1,a2,a3,a4,a5,a6,a7⟩:=h.open_ id t ht;by_cases e:k=j
  ·subst e;rw [hk] at a1;cases a1;exact ⟨k,q,by simp only [hg,av],by rw [h1,a2],by rw [h3,a3],by rw [h4,a4],by rw [h2,a5],a6,a7⟩
  exact ⟨j,x,by simp only [hg,ah e];exact a1,a2,a3,a4,a5,a6,a7⟩
 simp only [hg] at hx;split at hx
 ·cases hx;rw [h1];exact h.RO k r hk (by rw [←h3];exact ho)
 exact h.RO j x hx ho
theorem JI.move (h:JI n s y) (hI:jP n s) {b:Nat} {x:Sp} (hx:s.aK[b]?=some x) (hx3:x.cn≠3) (to:Sp) (hto:to.cn≠3) (ys:List Sp) (hys: ∀j,j≠b→ys[j]?=y.aK[j]?) (hyb:dK to=true→ys[b]?=some to):JI n (fT s b to) {y with aK:=ys}:=by
 have hopen:(fT s b to).open_=s.open_:=by
  unfold fT;simp only;rw [aq,hx];simp [hx3]
 refine ⟨h.ids,h.used,h.CV,fun id t ht=>?_,fun k r hr ho=>?_,fun j z hz hz3=>?_,fun j z hz hp=>?_⟩
 ·rw [hopen] at ht;exact h.open_ id t ht
 ·rw [hopen];exact h.RO k r hr ho
 ·have hz':(s.aK.set b to)[j]?=some z:=hz;rw [gM to hx] at hz';split at hz'
  ·rename_i e;subst e;exact h.free b x hx hx3
  exact h.free j z hz' hz3
 have hz':(s.aK.set b to)[j]?=some z:=hz;rw [gM to hx] at hz';split at hz'
 ·rename_i e;cases hz';rw [←e];exact hyb hp
 rename_i e;show ys[j]?=some z;rw [hys j (fun h=>e h.symm)];exact h.aK j z hz' hp
theorem JI.close (h:JI n s y) (hI:jP n s) (hW:WF n N y) {b:Nat} {x:Sp} (hx:s.aK[b]?=some x) (hx3:x.cn=3) (to:Sp) (hto:to.cn≠3) (w:pG):JI n (fT s b to) (gX y b to w):=by
 obtain ⟨t,ht,htb⟩:=hI.spot b x hx hx3;obtain ⟨k,r,a1,a2,a3,a4,a5,a6,a7⟩:=h.open_ _ _ ht;rw [htb,aM] at a7;have hvg:y.cG.getD b 0=(k:Int):=by rw [aq,a7];rfl
 have hkl:=(aa.1 a1).1;have hbl:=(aa.1 a7).1;have hrg:y.cg.getD k default=r:=by rw [aq,a1];rfl
 obtain ⟨p,hp⟩: ∃p,y.bn[k]?=some p:=⟨_,a6⟩;have hpg:y.bn.getD k false=p:=by rw [aq,hp];rfl
 obtain ⟨q,hq⟩: ∃q,q=kl to w (dB p w r):=⟨_,rfl⟩;have hleave:gX y b to w={cg:=y.cg.set k q,mF:=y.mF,cG:=y.cG.set b (-1),bn:=y.bn.set k false,aK:=y.aK.set b to}:=by
  unfold gX;rw [hvg,ah (by omega)];simp only [aM];unfold kh;simp only;rw [hrg,hpg,fB];congr 1;rw [aq,bw,av rfl,av hkl,hq];rfl
 have hqi:q.id=r.id:=by rw [hq];unfold kl dB;split<;>rfl
 have hqo:q.open_=false:=by rw [hq];rfl
 have hopen: ∀z,z∈(fT s b to).open_↔z∈s.open_∧z.1≠x.aP:=by
  intro z;unfold fT;simp only;rw [aq,hx];simp only [l6,hx3,qo];exact om hI.keys
 rw [hleave];have hg:=gM q a1;refine ⟨by simp only [E8 a1 hqi];exact h.ids,fun z hz=>?_,fun j z hz=>?_,fun id u hu=>?_,fun j z hz ho=>?_,fun j z hz hz3=>?_,fun j z hz hp=>?_⟩
 ·rcases cK hz with hz|rfl
  ·exact h.used z hz
  rw [hqi];exact h.used r (an a1)
 ·simp only [hg] at hz;split at hz
  ·rename_i e;cases hz;rw [hqi,←e];exact h.CV k r a1
  exact h.CV j z hz
 ·obtain ⟨hu1,hu2⟩:=(hopen (id,u)).1 hu;obtain ⟨j,z,c1,c2,c3,c4,c5,c6,c7⟩:=h.open_ id u hu1;have hjk:k≠j:=fun e=>by
   subst e;rw [a1] at c1;cases c1;exact hu2 (by rw [←c2,a2])
  obtain ⟨hub0,z2,hz2,z23,z2r,_⟩:=hI.bD _ hu1;have hjb:b≠u.bD.toNat:=fun e=>by
   simp only at hz2;rw [←e,hx] at hz2;cases hz2;exact hu2 z2r.symm
  exact ⟨j,z,by simp only [hg,ah hjk];exact c1,c2,c3,c4,c5,by simp only [cj hjk];exact c6,by simp only [cj hjb];exact c7⟩
 ·simp only [hg] at hz;split at hz
  ·cases hz;rw [hqo] at ho;cases ho
  rename_i e;obtain ⟨u,hu⟩:=h.RO j z hz ho;refine ⟨u,(hopen _).2 ⟨hu,fun e2=>e ?_⟩⟩;exact AZ h.ids a1 hz (by rw [a2];exact e2.symm)
 ·have hz':(s.aK.set b to)[j]?=some z:=hz;rw [gM to hx] at hz';simp only [gM (-1) a7];split at hz'
  ·rename_i e;rw [av e]
  rename_i e;rw [ah e];exact h.free j z hz' hz3
 have hz':(s.aK.set b to)[j]?=some z:=hz;have hbs:b<y.aK.length:=by rw [hW.aK,←hW.cG];exact hbl
 rw [gM to hx] at hz';simp only [bw];split at hz'
 ·rename_i e;cases hz';rw [av e,av hbs]
 rename_i e;rw [ah e];exact h.aK j z hz' hp
theorem Ap {b:Nat} (h:y.cG[b]?=some (-1)) (to:Sp) (w:pG):gX y b to w={y with aK:=y.aK.set b to}:=by
 unfold gX;rw [aq,h,av (by decide)]
theorem JI.leave (h:JI n s y) (hI:jP n s) (hW:WF n N y) {b:Nat} (hb:b<n) (to:Sp) (hto:to.cn≠3) (w:pG):JI n (fT s b to) (gX y b to w):=by
 obtain ⟨x,hx⟩: ∃x,s.aK[b]?=some x:=⟨_,aj (by rw [hI.len];exact hb)⟩;by_cases hx3:x.cn=3
 ·exact h.close hI hW hx hx3 to hto w
 rw [Ap (h.free b x hx hx3)];exact h.move hI hx hx3 to hto _ (fun j hj=>cj (fun e=>hj e.symm)) (fun _=>by
  rw [bw,av rfl,av (by rw [hW.aK];exact hb)])
theorem JI.start (h:JI n s y) (hI:jP n s) (hW:WF n N y) {e:Ev} {tr:List Int} (hb:0≤e.bD∧e.bD<n) (h3:e.kind=3) (hc:dF tr s e=0) (w:pG):JI n (kW s e) (qh y e w):=by
 obtain ⟨b,hbk⟩: ∃b:Nat,e.bD=b:=⟨e.bD.toNat,by omega⟩;have hbn:b<n:=by omega
 obtain ⟨x,hx⟩: ∃x,s.aK[b]?=some x:=⟨_,aj (by rw [hI.len];exact hbn)⟩;have hg:s.aK.getD e.bD.toNat default=x:=by rw [hbk,aM,aq,hx];rfl
 obtain ⟨hpk,hu⟩:dK x=true∧oX s.used e.aP=false:=by
  unfold dF at hc;simp only at hc;rw [ah (by omega),ah (by omega),av h3,hg] at hc;split at hc
  ·cases hc
  rename_i h1;split at hc
  ·cases hc
  rename_i h2;exact ⟨by simpa using h1,by simpa using h2⟩
 have hx3:=mi hpk;have hf:=h.free b x hx hx3;have hdo:kW s e={aK:=s.aK.set b ⟨3,0,e.aP,false⟩,open_:=s.open_++[(e.aP,⟨e.rider,e.bD,false⟩)],used:=uF s.used e.aP}:=by
  unfold kW;simp only;rw [ah (by omega),ah (by omega),av h3,hbk,aM]
 have hnew: ∀r∈y.cg,r.id≠e.aP:=fun r hr he=>by rw [←he,h.used r hr] at hu;cases hu
 have hbl:=(aa.1 hf).1;rw [hdo];unfold qh;rw [hbk,aM];have hsnoc: ∀(j:Nat) z,(y.cg++[qv e (y.aK.getD b default) w])[j]?=some z→(y.cg[j]?=some z)∨(j=y.cg.length∧z=qv e (y.aK.getD b default) w):=fun j z hz=>by
  rw [List.getElem?_append] at hz;split at hz
  ·exact .inl hz
  rename_i hjl;have:j -y.cg.length=0:=by
   rcases du (j -y.cg.length) with h0|h0
   ·exact h0
   rw [dC (by simp;omega)] at hz;cases hz
  rw [this] at hz;simp at hz;exact .inr ⟨by omega,hz.symm⟩
 have hold: ∀(j:Nat) z,y.cg[j]?=some z→(y.cg++[qv e (y.aK.getD b default) w])[j]?=some z:=fun j z hz=>by
  rw [dM (aa.1 hz).1];exact hz
 refine ⟨?_,fun r hr=>?_,fun j r hr=>?_,fun id t ht=>?_,fun j r hr ho=>?_,fun j z hz hz3=>?_,fun j z hz hp=>?_⟩
 ·rw [bX];refine jR.2 ⟨h.ids,by simp,fun i hi j hj=>?_⟩;obtain ⟨r,hr,rfl⟩:=bJ.1 hi;simp [qv] at hj;subst hj;exact hnew r hr
 ·rw [mv];simp only [wP];rcases aQ.1 hr with hr|hr
  ·exact .inl (mv.1 (h.used r hr))
  simp at hr;subst hr;exact .inr rfl
 ·simp only;rw [BK];rcases hsnoc j r hr with hr|⟨h1,rfl⟩
  ·rw [ah (hnew r (an hr))];exact h.CV j r hr
  rw [av (show (qv e (y.aK.getD b default) w).id=e.aP from rfl),h1]
 ·simp only [aQ,bu] at ht;rcases ht with ht|ht
  ·obtain ⟨k,r,c1,c2,c3,c4,c5,c6,c7⟩:=h.open_ id t ht;obtain ⟨_,z,hz,z3,_,_⟩:=hI.bD _ ht;have hne:b≠t.bD.toNat:=fun e=>by simp only at hz;rw [←e,hx] at hz;cases hz;exact hx3 z3
   refine ⟨k,r,hold k r c1,c2,c3,c4,c5,?_,by simp only [cj hne];exact c7⟩;simp only;rw [dM (aa.1 c6).1];exact c6
  simp only [nO] at ht;obtain ⟨rfl,rfl⟩:=ht;refine ⟨y.cg.length,qv e (y.aK.getD b default) w,by simp,rfl,rfl,hbk,rfl,by simp [←hW.bn],?_⟩;simp only [hbk,aM];rw [bw,av rfl,av hbl]
 ·simp only [aQ,bu];rcases hsnoc j r hr with hr|⟨_,rfl⟩
  ·obtain ⟨t,ht⟩:=h.RO j r hr ho;exact ⟨t, .inl ht⟩
  exact ⟨_, .inr rfl⟩
 ·simp only [gM _ hx] at hz;simp only [gM _ hf];split at hz
  ·cases hz;exact absurd rfl hz3
  rename_i e2;rw [ah e2];exact h.free j z hz hz3
 simp only [gM _ hx] at hz;split at hz
 ·cases hz;simp [dK] at hp
 exact h.aK j z hz hp
theorem JI.swap (h:JI n s y) (hI:jP n s) (hW:WF n N y) {e:Ev} {tr:List Int} (hb:0≤e.bD∧e.bD<n) (h4:e.kind=4) (hc:dF tr s e=0) (w:pG):JI n (kW s e) (ko y e w):=by
 obtain ⟨b,hbk⟩: ∃b:Nat,e.bD=b:=⟨e.bD.toNat,by omega⟩;have hbn:b<n:=by omega
 obtain ⟨x,hx⟩: ∃x,s.aK[b]?=some x:=⟨_,aj (by rw [hI.len];exact hbn)⟩;have hg:s.aK.getD b default=x:=by rw [aq,hx];rfl
 obtain ⟨t,ht,hpk⟩: ∃t,k9 s.open_ e.aP=some t∧dK x=true:=by
  unfold dF at hc;simp only at hc;rw [ah (by omega),ah (by omega),ah (by omega),av h4,hbk,aM,hg] at hc;cases hl:k9 s.open_ e.aP with
  |none=>rw [hl] at hc;cases hc
  |some t=>
   rw [hl] at hc;simp only at hc;split at hc
   ·cases hc
   rename_i h1;exact ⟨t,rfl,by simpa using h1⟩
 have htm:=nh ht;obtain ⟨k,r,c1,c2,c3,c4,c5,c6,c7⟩:=h.open_ _ _ htm;obtain ⟨hj0,z,hz,z3,zr,zp⟩:=hI.bD _ htm;simp only at hj0 hz zr;obtain ⟨j,hj⟩: ∃j:Nat,t.bD=j:=⟨t.bD.toNat,by omega⟩;rw [hj,aM] at hz c7;have hx3:=mi hpk;have hjb:j≠b:=fun e=>by rw [e,hx] at hz;cases hz;exact hx3 z3
 have hf:=h.free b x hx hx3;have hkl:=(aa.1 c1).1;have hrg:y.cg.getD k default=r:=by rw [aq,c1];rfl
 have hyb:=h.aK b x hx hpk;have hybg:y.aK.getD b default=x:=by rw [aq,hyb];rfl
 have hdo:kW s e={s with aK:=(s.aK.set j x).set b ⟨3,0,e.aP,false⟩,open_:=mV s.open_ e.aP {t with bD:=e.bD}}:=by
  unfold kW;simp only;rw [ah (by omega),ah (by omega),ah (by omega),av h4,ht,hbk,aM,hg];simp only [hj,aM]
 have hby:=h.CV k r c1;rw [c2] at hby;have hch:ko y e w={cg:=y.cg.set k (rT b w r),mF:=y.mF,cG:=(y.cG.set j (-1)).set b k,bn:=y.bn,aK:=y.aK.set j x}:=by
  unfold ko;rw [hby];simp only [aM];rw [hrg,c4,hj,aM,hbk,aM,hybg]
 rw [hdo,hch];have hgr:=gM (rT b w r) c1;have hsp: ∀i:Nat,((s.aK.set j x).set b ⟨3,0,e.aP,false⟩)[i]?=if b=i then some ⟨3,0,e.aP,false⟩ else if j=i then some x else s.aK[i]?:=fun i=>by
  have hx2:(s.aK.set j x)[b]?=some x:=by rw [cj hjb];exact hx
  rw [gM _ hx2,gM _ hz]
 have hrd: ∀i:Nat,((y.cG.set j (-1)).set b (k:Int))[i]?=if b=i then some (k:Int) else if j=i then some (-1) else y.cG[i]?:=fun i=>by
  have hf2:(y.cG.set j (-1))[b]?=some (-1):=by rw [cj hjb];exact hf
  rw [gM _ hf2,gM _ c7]
 have hjs:j<y.aK.length:=by rw [hW.aK,←hI.len];exact (aa.1 hz).1
 refine ⟨by simp only [E8 c1 (show (rT b w r).id=r.id from rfl)];exact h.ids,fun q hq=>?_,fun i q hq=>?_,fun id u hu=>?_,fun i q hq ho=>?_,fun i q hq hq3=>?_,fun i q hq hp=>?_⟩
 ·rcases cK hq with hq|rfl
  ·exact h.used q hq
  exact h.used r (an c1)
 ·simp only [hgr] at hq;split at hq
  ·rename_i e2;cases hq;rw [←e2];exact h.CV k r c1
  exact h.CV i q hq
 ·simp only [eG] at hu;rcases hu with ⟨_,_,_,hu⟩|⟨hu,hne⟩
  ·simp only [nO] at hu;obtain ⟨rfl,rfl⟩:=hu;refine ⟨k,rT b w r,by simp only [hgr,av],c2,c3,?_,c5,c6,?_⟩
   ·show mO (lh w r.cw++[⟨(b:Int),w,nY⟩])=e.bD;rw [Dj,hbk]
   simp only [hrd,hbk,aM,av]
  obtain ⟨k2,q,d1,d2,d3,d4,d5,d6,d7⟩:=h.open_ id u hu;have hkk:k≠k2:=fun e2=>by subst e2;rw [c1] at d1;cases d1;exact hne (by rw [←d2,c2])
  obtain ⟨_,z2,hz2,z23,z2r,_⟩:=hI.bD _ hu;simp only at hz2 z2r;have e1:b≠u.bD.toNat:=fun e2=>by rw [←e2,hx] at hz2;cases hz2;exact hx3 z23
  have e3:j≠u.bD.toNat:=fun e2=>by rw [←e2,hz] at hz2;cases hz2;exact hne (by rw [←z2r,zr])
  exact ⟨k2,q,by simp only [hgr,ah hkk];exact d1,d2,d3,d4,d5,d6,by simp only [hrd,ah e1,ah e3];exact d7⟩
 ·simp only [hgr] at hq;split at hq
  ·cases hq;exact ⟨_,by simp only [eG];exact .inl ⟨_,htm,rfl,by show ((rT b w r).id,_)=_;rw [show (rT b w r).id=e.aP from c2]⟩⟩
  rename_i e2;obtain ⟨u,hu⟩:=h.RO i q hq ho;refine ⟨u,by simp only [eG];exact .inr ⟨hu,fun e3=>e2 (AZ h.ids c1 hq (by rw [c2];exact e3.symm))⟩⟩
 ·simp only [hsp] at hq;simp only [hrd];split at hq
  ·cases hq;exact absurd rfl hq3
  rename_i e1;rw [ah e1];split at hq
  ·rename_i e2;rw [av e2]
  rename_i e2;rw [ah e2];exact h.free i q hq hq3
 simp only [hsp] at hq;simp only [bw];split at hq
 ·cases hq;simp [dK] at hp
 rename_i e1;split at hq
 ·rename_i e2;cases hq;rw [av e2,av (by omega)]
 rename_i e2;rw [ah e2];exact h.aK i q hq hp
theorem JI.oZ (h:JI n s y) (hI:jP n s) (hW:WF n N y) {e:Ev} {tr:List Int} (hb:0≤e.bD∧e.bD<n) (h56:e.kind=5∨e.kind=6) (hc:dF tr s e=0):JI n (kW s e) (dV y e):=by
 obtain ⟨b,hbk⟩: ∃b:Nat,e.bD=b:=⟨e.bD.toNat,by omega⟩;have hbn:b<n:=by omega
 obtain ⟨x,hx⟩: ∃x,s.aK[b]?=some x:=⟨_,aj (by rw [hI.len];exact hbn)⟩;have hg:s.aK.getD b default=x:=by rw [aq,hx];rfl
 have hx3:x.cn=3:=by
  unfold dF at hc;simp only at hc;rw [ah (by omega),ah (by omega),ah (by omega),ah (by omega),av h56,hbk,aM,hg] at hc;split at hc
  ·cases hc
  rename_i h1;exact kM h1
 obtain ⟨t,ht,htb⟩:=hI.spot b x hx hx3;have hlk:=uW hI.keys ht;obtain ⟨k,r,c1,c2,c3,c4,c5,c6,c7⟩:=h.open_ _ _ ht;rw [htb,aM] at c7;have hvg:y.cG.getD e.bD.toNat 0=(k:Int):=by rw [hbk,aM,aq,c7];rfl
 have hrg:y.cg.getD k default=r:=by rw [aq,c1];rfl
 have hdo:kW s e={s with aK:=s.aK.set b {x with bn:=decide (e.kind=5)},open_:=mV s.open_ x.aP {t with bn:=decide (e.kind=5)}}:=by
  unfold kW;simp only;rw [ah (by omega),ah (by omega),ah (by omega),ah (by omega),av h56,hbk,aM,hg,hlk]
 have hpl:k<y.bn.length:=(aa.1 c6).1;obtain ⟨q,hq1,hq2,hq3,hq4,hty⟩: ∃q:Rd,q.id=r.id∧q.rider=r.rider∧q.open_=r.open_∧mO q.cw=mO r.cw∧dV y e={y with cg:=y.cg.set k q,bn:=y.bn.set k (decide (e.kind=5))}:=by
  unfold dV;simp only;rw [hvg];rcases h56 with h5|h6
  ·refine ⟨po (dX e) r,rfl,rfl,rfl,rfl,?_⟩;rw [ah (by omega),ah (by omega),av h5,av (by omega)];simp only [aM];rw [hrg];simp [h5]
  refine ⟨dB (y.bn.getD k false) (dX e) r,?_,?_,?_,?_,?_⟩
  ·unfold dB;split<;>rfl
  ·unfold dB;split<;>rfl
  ·unfold dB;split<;>rfl
  ·unfold dB;split<;>rfl
  rw [ah (by omega),ah (by omega),ah (by omega),av h6,av (by omega)];unfold kh;simp only [aM];rw [hrg];simp [h6]
 rw [hdo,hty];have h2:=h.P1 c1 hq1 hq2 hq3 hq4;refine ⟨h2.ids,h2.used,h2.CV,fun id u hu=>?_,fun i z hz ho=>?_,fun i z hz hz3=>?_,fun i z hz hp=>?_⟩
 ·simp only [eG] at hu;rcases hu with ⟨_,_,_,hu⟩|⟨hu,hne⟩
  ·simp only [nO] at hu;obtain ⟨rfl,rfl⟩:=hu;refine ⟨k,q,by simp only;rw [gM _ c1,av rfl],by rw [hq1,c2],by rw [hq3,c3],by rw [hq4,c4],by rw [hq2,c5],?_,by simp only [htb,aM];exact c7⟩;simp only;rw [bw,av rfl,av hpl]
  obtain ⟨k2,z,d1,d2,d3,d4,d5,d6,d7⟩:=h2.open_ id u hu;have hkk:k≠k2:=fun e2=>by
   subst e2;simp only [gM _ c1,av] at d1;cases d1;exact hne (by rw [←d2,hq1,c2])
  exact ⟨k2,z,d1,d2,d3,d4,d5,by simp only [cj hkk];exact d6,d7⟩
 ·obtain ⟨u,hu⟩:=h2.RO i z hz ho;by_cases e2:z.id=x.aP
  ·exact ⟨_,by simp only [eG];exact .inl ⟨_,ht,rfl,by rw [e2]⟩⟩
  exact ⟨u,by simp only [eG];exact .inr ⟨hu,e2⟩⟩
 ·simp only [gM _ hx] at hz;split at hz
  ·cases hz;exact absurd hx3 hz3
  exact h.free i z hz hz3
 simp only [gM _ hx] at hz;split at hz
 ·cases hz;simp [dK,hx3] at hp
 exact h.aK i z hz hp
theorem JI.step (h:JI n s y) (hI:jP n s) (hW:WF n N y) {e:Ev} {tr:List Int} (hb:0≤e.bD∧e.bD<n) (hc:dF tr s e=0):JI n (kW s e) (dV y e):=by
 obtain ⟨b,hbk⟩: ∃b:Nat,e.bD=b:=⟨e.bD.toNat,by omega⟩;have hbn:b<n:=by omega
 obtain ⟨x,hx⟩: ∃x,s.aK[b]?=some x:=⟨_,aj (by rw [hI.len];exact hbn)⟩;have hg:s.aK.getD b default=x:=by rw [aq,hx];rfl
 by_cases h3:e.kind=3
 ·have ht:dV y e=qh y e (dX e):=by unfold dV;simp only;rw [av h3]
  rw [ht];exact h.start hI hW hb h3 hc _
 by_cases h4:e.kind=4
 ·have ht:dV y e=ko y e (dX e):=by unfold dV;simp only;rw [ah h3,av h4]
  rw [ht];exact h.swap hI hW hb h4 hc _
 by_cases h56:e.kind=5∨e.kind=6
 ·exact h.oZ hI hW hb h56 hc
 have h5: ¬e.kind=5:=fun h=>h56 (.inl h);have h6: ¬e.kind=6:=fun h=>h56 (.inr h);by_cases h1:e.kind=1
 ·have ht:dV y e=gX y b ⟨1,e.place,0,false⟩ (dX e):=by unfold dV;simp only;rw [ah h3,ah h4,ah h5,ah h6,av h1,hbk,aM]
  have hd:kW s e=fT s b ⟨1,e.place,0,false⟩:=by unfold kW;simp only;rw [av h1,hbk,aM]
  rw [ht,hd];exact h.leave hI hW hbn _ (by simp) _
 by_cases h2:e.kind=2
 ·have ht:dV y e=gX y b ⟨2,e.place,0,false⟩ (dX e):=by unfold dV;simp only;rw [ah h3,ah h4,ah h5,ah h6,ah h1,av h2,hbk,aM]
  have hd:kW s e=fT s b ⟨2,e.place,0,false⟩:=by unfold kW;simp only;rw [ah h1,av h2,hbk,aM]
  rw [ht,hd];exact h.leave hI hW hbn _ (by simp) _
 by_cases h9:e.kind=9
 ·have ht:dV y e=gX y b ⟨6,0,0,false⟩ (dX e):=by unfold dV;simp only;rw [ah h3,ah h4,ah h5,ah h6,ah h1,ah h2,av h9,hbk,aM]
  have hd:kW s e=fT s b ⟨6,0,0,false⟩:=by unfold kW;simp only;rw [ah h1,ah h2,ah h3,ah h4,ah h56,ah (by omega),ah (by omega),av h9,hbk,aM]
  rw [ht,hd];exact h.leave hI hW hbn _ (by simp) _
 have ht:dV y e=y:=by unfold dV;simp only;rw [ah h3,ah h4,ah h5,ah h6,ah h1,ah h2,ah h9]
 rw [ht];by_cases h7:e.kind=7
 ·have hd:kW s e=fT s b ⟨4,e.place,0,false⟩:=by unfold kW;simp only;rw [ah h1,ah h2,ah h3,ah h4,ah h56,av h7,hbk,aM]
  have hx3:x.cn≠3:=fun h3'=>by
   unfold dF at hc;simp only at hc;rw [ah h1,ah h2,ah h3,ah h4,ah h56,av h7,hbk,aM,hg,h3'] at hc;simp at hc
  rw [hd];exact h.move hI hx hx3 _ (by simp) y.aK (fun _ _=>rfl) (fun hp=>by simp [dK] at hp)
 by_cases h8:e.kind=8
 ·have hd:kW s e=fT s b ⟨5,0,0,false⟩:=by unfold kW;simp only;rw [ah h1,ah h2,ah h3,ah h4,ah h56,ah h7,av h8,hbk,aM]
  have hx3:x.cn≠3:=fun h3'=>by
   unfold dF at hc;simp only at hc;rw [ah h1,ah h2,ah h3,ah h4,ah h56,ah h7,av h8,hbk,aM,hg,h3'] at hc;simp [refuse] at hc
  rw [hd];exact h.move hI hx hx3 _ (by simp) y.aK (fun _ _=>rfl) (fun hp=>by simp [dK] at hp)
 have hd:kW s e=s:=by unfold kW;simp only;rw [ah h1,ah h2,ah h3,ah h4,ah h56,ah h7,ah h8,ah h9]
 rw [hd];exact h
end
end Go.Proofs.Rid
namespace Go.Proofs.Rid
open Go.Proofs.Cus
def kf (f:Fl) (xs:List Ev):SY:=(gS f xs).foldl dV (gG (lH f))
def iw (f:Fl) (xs:List Ev):List Rd:=if fR f=0 then Dn (kf f xs).cg else []
structure vw (n N:Nat) (s:PS) (y:SY):Prop where
 ji:JI n s y
 inv:jP n s
 wf:WF n N y
theorem zL {f:Fl} {n:Nat} (hn:f.eV=n): ∀(l:List Ev) {N:Nat} {s:PS} {y:SY},vw n N s y→Replay f s l→vw n (N+l.length) (l.foldl kW s) (l.foldl dV y)
 |[],_,_,_,h,_=>h
 |e::l,N,s,y,h,⟨h1,h2,h3,h4⟩=>by
  have hb:=(kV h1).2.1;rw [hn] at hb;have:=zL hn l (N:=N+1) ⟨h.ji.step h.inv h.wf hb h3,h.inv.step hb h3,h.wf.tell hb⟩ h4;rw [cO,cO,bB,show N+(l.length+1)=N+1+l.length by omega];exact this
theorem uZ (n:Nat):vw n 0 (fu n) (gG n):=⟨JI.begin n,jP.begin n,WF.begin n⟩
theorem tg {f:Fl} (hok:fR f=0) (xs:List Ev):vw (lH f) (gS f xs).length ((gS f xs).foldl kW (fu (lH f))) (kf f xs):=by
 obtain ⟨hr,_⟩:=qF hok xs (fun _=>());have:=zL (Cd hok) (gS f xs) (uZ (lH f)) hr;rw [dj] at this;exact this
theorem Replay.take {f:Fl}: ∀{l:List Ev} {s:PS},Replay f s l→ ∀k,Replay f s (l.take k)
 |[],_,_,k=>by simp;trivial
 |e::l,s,_,0=>trivial
 |e::l,s,⟨h1,h2,h3,h4⟩,k+1=>⟨h1,h2,h3,Replay.take h4 k⟩
theorem Ny {f:Fl} (hok:fR f=0) (xs:List Ev) (k:Nat):vw (lH f) ((gS f xs).take k).length (Cus.RJ (fu (lH f)) (gS f xs) k) (((gS f xs).take k).foldl dV (gG (lH f))):=by
 obtain ⟨hr,_⟩:=qF hok xs (fun _=>());have:=zL (Cd hok) ((gS f xs).take k) (uZ (lH f)) (Replay.take hr k);rw [dj] at this;exact this
def uO (l:List Sp):Nat:=l.countP dK
theorem xe (y:SY) (b:Nat) (to:Sp) (w:pG):(gX y b to w).cg.length=y.cg.length:=by
 unfold gX;split
 ·rfl
 simp [kh]
theorem KF (y:SY) (e:Ev):(dV y e).cg.length=y.cg.length+(if e.kind=3 then 1 else 0):=by
 unfold dV;simp only;by_cases h3:e.kind=3
 ·rw [av h3,av h3];simp [qh]
 rw [ah h3,ah h3,nF];split
 ·unfold ko;split<;>simp
 split
 ·split<;>simp
 split
 ·split<;>simp [kh]
 split
 ·exact xe _ _ _ _
 split
 ·exact xe _ _ _ _
 split
 ·exact xe _ _ _ _
 rfl
theorem uN {l:List Sp} {k:Nat} {x:Sp} (z:Sp) (h:l[k]?=some x):uO (l.set k z)+(if dK x=true then 1 else 0)=uO l+(if dK z=true then 1 else 0):=countP_set dK z h
theorem K2 {n:Nat} {s:PS} {e:Ev} {tr:List Int} (hI:jP n s) (hb:0≤e.bD∧e.bD<n) (hc:dF tr s e=0):uO (kW s e).aK+2*(if e.kind=3 then 1 else 0)≤uO s.aK+1:=by
 obtain ⟨b,hbk⟩: ∃b:Nat,e.bD=b:=⟨e.bD.toNat,by omega⟩;obtain ⟨x,hx⟩: ∃x,s.aK[b]?=some x:=⟨_,aj (by rw [hI.len];omega)⟩;have hg:s.aK.getD b default=x:=by rw [aq,hx];rfl
 have hlv: ∀to:Sp,uO (fT s b to).aK≤uO s.aK+1:=fun to=>by
  have:=uN to hx;show uO (s.aK.set b to)≤_;split at this<;>split at this<;>omega
 unfold dF at hc;unfold kW;simp only [hbk,aM,hg] at hc⊢;by_cases h1:e.kind=1
 ·rw [av h1,ah (by omega)];have:=hlv ⟨1,e.place,0,false⟩;omega
 rw [ah h1] at hc⊢;by_cases h2:e.kind=2
 ·rw [av h2,ah (by omega)];have:=hlv ⟨2,e.place,0,false⟩;omega
 rw [ah h2] at hc⊢;by_cases h3:e.kind=3
 ·rw [av h3] at hc;have hpk:dK x=true:=by
   split at hc
   ·cases hc
   rename_i h;simpa using h
  rw [av h3,av h3];have:=uN ⟨3,0,e.aP,false⟩ hx;rw [av hpk,ah (by simp [dK])] at this;simp only;omega
 rw [ah h3] at hc⊢;rw [ah h3];by_cases h4:e.kind=4
 ·rw [av h4] at hc⊢;cases hl:k9 s.open_ e.aP with
  |none=>rw [hl] at hc;cases hc
  |some t=>
   rw [hl] at hc;simp only at hc⊢;have hpk:dK x=true:=by
    split at hc
    ·cases hc
    rename_i h;simpa using h
   obtain ⟨_,z,hz,z3,_,_⟩:=hI.bD _ (nh hl);simp only at hz;have hzp:dK z=false:=by unfold dK;simp [z3]
   have hne:t.bD.toNat≠b:=fun e2=>by rw [e2,hx] at hz;cases hz;rw [hzp] at hpk;cases hpk
   have a1:=uN x hz;have hx2:(s.aK.set t.bD.toNat x)[b]?=some x:=by rw [cj hne];exact hx
   have a2:=uN ⟨3,0,e.aP,false⟩ hx2;rw [ah (by rw [hzp];decide),av hpk] at a1;rw [av hpk,ah (by simp [dK])] at a2;omega
 rw [ah h4] at hc⊢;by_cases h56:e.kind=5∨e.kind=6
 ·rw [av h56];simp only;have:=uN {x with bn:=decide (e.kind=5)} hx;have hsame:dK {x with bn:=decide (e.kind=5)}=dK x:=rfl;rw [hsame] at this;omega
 rw [ah h56];by_cases h7:e.kind=7
 ·rw [av h7];have:=hlv ⟨4,e.place,0,false⟩;omega
 rw [ah h7];by_cases h8:e.kind=8
 ·rw [av h8];have:=hlv ⟨5,0,0,false⟩;omega
 rw [ah h8];by_cases h9:e.kind=9
 ·rw [av h9];have:=hlv ⟨6,0,0,false⟩;omega
 rw [ah h9];omega
theorem DJ {f:Fl} {n:Nat} (hn:f.eV=n): ∀(l:List Ev) {s:PS} {y:SY} {m:Nat},jP n s→Replay f s l→2*y.cg.length+uO s.aK≤m→2*(l.foldl dV y).cg.length+uO (l.foldl kW s).aK≤m+l.length
 |[],_,_,_,_,_,h=>h
 |e::l,s,y,m,hI,⟨h1,h2,h3,h4⟩,h=>by
  have hb:=(kV h1).2.1;rw [hn] at hb;have a1:=K2 hI hb h3;have a2:=KF y e;have:=DJ hn l (y:=dV y e) (m:=m+1) (hI.step hb h3) h4 (by rw [a2];omega);rw [cO,cO,bB];omega
theorem zk {f:Fl} (hok:fR f=0) (xs:List Ev):2*(kf f xs).cg.length≤(gS f xs).length:=by
 obtain ⟨hr,_⟩:=qF hok xs (fun _=>());have:=DJ (Cd hok) (gS f xs) (y:=gG (lH f)) (m:=0) (jP.begin _) hr (by
  have:uO (fu (lH f)).aK=0:=by
   unfold uO fu;rw [Kr];intro x hx;simp at hx;rw [hx.2];decide
  rw [this];simp [gG])
 unfold kf;omega
theorem Fu {f:Fl} (xs:List Ev):2*(iw f xs).length≤xs.length:=by
 unfold iw;split
 ·rename_i hok;have h1:=zk hok xs;have h2:=tu f xs;rw [(mC _).length_eq];omega
 simp
end Go.Proofs.Rid
