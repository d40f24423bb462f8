import Derived.Test.YtomomjgdeomgiaaGreatBA07
import Derived.WideKeyRuns
import Derived.ChangeKeysEq
set_option maxRecDepth 100000
set_option maxHeartbeats 8000000
set_option linter.all false
namespace Go.Proofs.Far
open Go Go.RowKit Go.Proofs.E Go.Proofs.Cus Go.Proofs.Rid
theorem QV(x w)(hx:tq w x)(h:eF x.r=0)(ho:x.r.open_=false):Calls Tryz.prog 359 #[.agg x.cells.toArray] w λe w'=>e= .returned (.tuple #[.agg (q6 x.r).cells.toArray, .int .i64 0])/\fM w w':=by
 have hp:=im h;refine HF Tryz.func359 Tryz.ntmps359 ?_;refine cd (v:= .agg _) rfl rfl λb1=>bS cS rfl λb2=>?_;refine GX ?_;refine jx (en Sz (iQ (q0 rfl))) (λ_ w hw=>xB x w (hx.mem hw) (by omega) (by omega)) ?_;rw [h];refine GD ?_ ?_<;>intro h1
 ·exfalso;simp at h1
 refine GD ?_ ?_<;>intro h2
 ·exfalso;rw [show x.r.open_=true from h2] at ho;cases ho
 refine GX ?_;refine fI (uX (q0 rfl) (q0 rfl))<|fI (bN bL yZ cS (pt (v:= .int _ _) rfl (pt (v:= .int _ _) rfl E.p0)) rfl) ?_;refine dN (v:= .agg _) rfl rfl bK<|GX ?_;exact lR rfl (xx 0 rfl rfl rfl wa bK rfl rfl) λw' hw=>⟨rfl,hw.1⟩
theorem Ou(A n c l w)(hx:eG w 4 Pz.cells A n l)(hn:n<=10000):Calls Tryz.prog 326 #[.slice A n c] w λe w'=> ∃z:Option Addr×Nat,e= .returned (.slice z.1 (l.map q5).length z.2)/\Mem w [gw z.1 z.2 (l.map q5)] w':=by
 have hl:=hx.1;refine HF Tryz.func326 Tryz.ntmps326 ?_;refine jb (L':=[gw none 0 []]) (λw hw=>hw.fY 83 2 Wn.cells rfl) rfl<|GX ?_;refine la ([3,5]++rg 8 19) (λq:Nat×Option Addr×Nat=>[(8, .int .i64 q.1),(3, .slice q.2.1 ((l.take q.1).map q5).length q.2.2)]) (λq=>[gw q.2.1 q.2.2 ((l.take q.1).map q5)]) (λq=>q.1<=n) (λq=>n -q.1) (0,none,0) (bj _) ?_;rintro ⟨k,oA,oc⟩ g hk;simp only at hk;refine GD ?_ ?_<;>intro hlt
 ·have hlt':k<n:=by simpa using hlt
  obtain ⟨b,off,p,rfl,hbl,hpk,hrp⟩:=hx.at_ hlt';have hs:(l.take (k+1)).map q5=(l.take k).map q5++[q5 p]:=by rw [oT _ _ _ hpk,eY];rfl
  refine GX ?_;refine bS mh rfl λb5=>dN (v:= .agg _) rfl rfl jf ?_;refine GX ?_;refine fI (uX (q0 rfl) (q0 rfl))<|fI (bN bL yZ cS (pt (v:= .int _ _) rfl (pt (v:= .int _ _) rfl E.p0)) rfl) ?_;refine gN (k:=2) (i:=Tryz.t83) 1 ((q5 p)) bW (by kernel_rfl) rfl rfl rfl rfl bK cS rfl rfl rfl rfl rfl rfl ⟨by simp only [aS,dG];omega,by decide⟩ rfl rfl λB0 A1 c1=>GX ?_;refine aH (k+1,A1,c1) lg ⟨rfl,by rw [hs];rfl,trivial⟩ (λw hw=>by rw [hs];exact hw.tail) rfl (by simp only;omega) (by simp only;omega)
 have hend:k=n:=by simp at hlt;omega
 rw [hend,bo (by omega)];refine GX ?_;exact cu (v:= .slice _ _ _) rfl rfl rfl λw' hw=>⟨(oA,oc),rfl,hw⟩
theorem OQ(A n c l w)(hx:eG w 4 Pz.cells A n l)(hn:n<=10000):Calls Tryz.prog 324 #[.slice A n c] w λe w'=> ∃z:Option Addr×Nat,e= .returned (.slice z.1 (l.map rh).length z.2)/\Mem w [gw z.1 z.2 (l.map rh)] w':=by
 have hl:=hx.1;refine HF Tryz.func324 Tryz.ntmps324 ?_;refine jb (L':=[gw none 0 []]) (λw hw=>hw.fY 83 2 Wn.cells rfl) rfl<|GX ?_;refine la ([3,5]++rg 8 19) (λq:Nat×Option Addr×Nat=>[(8, .int .i64 q.1),(3, .slice q.2.1 ((l.take q.1).map rh).length q.2.2)]) (λq=>[gw q.2.1 q.2.2 ((l.take q.1).map rh)]) (λq=>q.1<=n) (λq=>n -q.1) (0,none,0) (bj _) ?_;rintro ⟨k,oA,oc⟩ g hk;simp only at hk;refine GD ?_ ?_<;>intro hlt
 ·have hlt':k<n:=by simpa using hlt
  obtain ⟨b,off,p,rfl,hbl,hpk,hrp⟩:=hx.at_ hlt';have hs:(l.take (k+1)).map rh=(l.take k).map rh++[rh p]:=by rw [oT _ _ _ hpk,eY];rfl
  refine GX ?_;refine bS mh rfl λb5=>dN (v:= .agg _) rfl rfl jf ?_;refine GX ?_;refine fI (uX (q0 rfl) (q0 rfl))<|fI (bN bL yZ cS (pt (v:= .int _ _) rfl (pt (v:= .int _ _) rfl E.p0)) rfl) ?_;refine gN (k:=2) (i:=Tryz.t83) 1 ((rh p)) bW (by kernel_rfl) rfl rfl rfl rfl bK cS rfl rfl rfl rfl rfl rfl ⟨by simp only [aS,dG];omega,by decide⟩ rfl rfl λB0 A1 c1=>GX ?_;refine aH (k+1,A1,c1) lg ⟨rfl,by rw [hs];rfl,trivial⟩ (λw hw=>by rw [hs];exact hw.tail) rfl (by simp only;omega) (by simp only;omega)
 have hend:k=n:=by simp at hlt;omega
 rw [hend,bo (by omega)];refine GX ?_;exact cu (v:= .slice _ _ _) rfl rfl rfl λw' hw=>⟨(oA,oc),rfl,hw⟩
theorem MC(x gC gW W R pv w)(hx:tq w x)(h:eF x.r=0)(ho:x.r.open_=false)(eC: ∀args w,(callFunc gC args).run Tryz.prog w= .ok (.enter gC args) w)(eW: ∀args w,(callFunc gW args).run Tryz.prog w= .ok (.enter gW args) w)(hW: ∀w,tq w x->Calls Tryz.prog gW #[pv] w λe w'=> ∃z:Option Addr×Nat,e= .returned (.slice z.1 W.length z.2)/\Mem w [gw z.1 z.2 W] w')(hC: ∀(A:Option Addr) (c:Nat) (B:Option Addr) (d:Nat) (w:World),ug w A 1 [q6 x.r]->ug w B W.length W->Calls Tryz.prog gC #[.slice A 1 c, .slice B W.length d] w λe w'=> ∃z:Option Addr×Nat,e= .returned (.tuple #[.slice z.1 R.length z.2, .int .i64 0])/\Mem w [gw z.1 z.2 R] w')(hWl:W.length<=10000):
  Calls Tryz.prog 322 #[.agg x.cells.toArray, .func (.func gC) #[] #[], .func (.func gW) #[pv] #[]] w λe w'=> ∃z:Option Addr×Nat,e= .returned (.tuple #[.slice z.1 R.length z.2, .int .i64 0])/\Mem w [gw z.1 z.2 R] w':=by
 refine HF Tryz.func322 Tryz.ntmps322 ?_;refine cd (v:= .agg _) rfl rfl λb3=>GX ?_;refine jx (en Tryz.call359 (iQ (q0 rfl))) (λ_ w hw=>QV x w (hx.mem hw) h ho)<|GX ?_;refine bS cS rfl λb8=>dN (v:= .agg _) rfl rfl bK ?_;refine GD ?_ ?_<;>intro h1
 ·exfalso;simp at h1
 refine GX ?_;refine ke ([6,7]++rg 18 8) (λz:Option Addr×Nat=>[(6, .slice z.1 R.length z.2),(7, .int .i64 0)]) (λz=>[gw z.1 z.2 R]) (λ_=>True) ?_ ?_
 ·refine JR<|aW 0 ?_;refine aW 1 ?_;refine aW 3 ?_;refine lS (i:=2) (j:=4) (by decide+kernel) (au 0) ?_ ?_
  ·refine aL rfl (ey [(.int .i64 0),(.int .i64 0)] bW bK cS rfl (by kernel_rfl) (pt (v:= .agg _) rfl E.p0) rfl rfl λb20=>?_);refine r1 4 1 ?_;refine aL rfl (il (Vp (bd:=[pv]) (al:=[pv]) eW (q0 rfl) (λhg=>by rw [H4 hg];rfl)) (λw hw=>hW w (hx.mem hw)) rfl (λ_=>rfl) λz4=>?_);refine aI 1 ?_;refine r1 5 2 ?_;refine aL rfl (il (vU (cap:=[]) (al:=[.slice (some ⟨b20,0,none⟩) 1 1, .slice z4.1 W.length z4.2]) eC (q0 rfl) (λhg=>by rw [jn (q0 (v:= .slice _ _ _) rfl) (q0 (v:= .slice _ _ _) rfl) hg];rfl)) (λw hw=>hC _ _ _ _ w (fj (enc:=Wn.cells) (xs:=[q6 x.r]) hw (j:=0) rfl (λ_=>rfl) (by simp)) (fB hw (j:=1) rfl (λ_=>rfl) (by omega))) rfl (λ_=>rfl) λz5=>?_);refine aI 2 ?_;refine w7 (au 3)<|aW 6 ?_;refine aW 7 ?_;refine aW 8 ?_;refine aW 9 ?_;refine qE 0 ?_;exact aO (z5:Option Addr×Nat) lg ⟨rfl,rfl,trivial⟩ (λw hw=>hw.pick [2] (by decide)) rfl trivial
  refine aL rfl (il (Vp (bd:=[pv]) (al:=[pv]) eW (q0 rfl) (λhg=>by rw [H4 hg];rfl)) (λw hw=>hW w (hx.mem hw)) rfl (λ_=>rfl) λz4=>?_);refine r1 2 1 ?_;refine aL rfl (ey [(.int .i64 0),(.int .i64 0)] bW bK cS rfl (by kernel_rfl) (pt (v:= .agg _) rfl E.p0) rfl rfl λb20=>?_);refine r1 5 2 ?_;refine aL rfl (il (vU (cap:=[]) (al:=[.slice (some ⟨b20,0,none⟩) 1 1, .slice z4.1 W.length z4.2]) eC (q0 rfl) (λhg=>by rw [jn (q0 (v:= .slice _ _ _) rfl) (q0 (v:= .slice _ _ _) rfl) hg];rfl)) (λw hw=>hC _ _ _ _ w (fj (enc:=Wn.cells) (xs:=[q6 x.r]) hw (j:=0) rfl (λ_=>rfl) (by simp)) (fB hw (j:=1) rfl (λ_=>rfl) (by omega))) rfl (λ_=>rfl) λz5=>?_);refine aI 2 ?_;refine w7 (au 3)<|aW 6 ?_;refine aW 7 ?_;refine aW 8 ?_;refine aW 9 ?_;refine qE 0 ?_;exact aO (z5:Option Addr×Nat) lg ⟨rfl,rfl,trivial⟩ (λw hw=>hw.pick [2] (by decide)) rfl trivial
 rintro z5 g5 _;refine GX ?_;exact jr (v:= .slice _ _ _) (x:= .int _ _) rfl rfl rfl rfl λw' hw=>⟨z5,rfl,hw⟩
attribute [local irreducible] Bw BM
theorem H2(x w)(hx:tq w x)(h:eF x.r=0)(ho:x.r.open_=false):Calls Tryz.prog 281 #[.agg x.cells.toArray] w λe w'=> ∃z:Option Addr×Nat,e= .returned (.tuple #[.slice z.1 (BM x.r).length z.2, .int .i64 0])/\Mem w [gw z.1 z.2 (BM x.r)] w':=by
 have hp:=im h;refine HF Tryz.func281 Tryz.ntmps281 ?_;refine cd (v:= .agg _) rfl rfl λb1=>GX ?_;refine fI (Qp (q0 (v:= .slice _ _ _) rfl))<|oD (en Tryz.call322 (nS (q0 rfl) (q0 rfl) (q0 rfl))) (λw hw=>MC x 325 326 (x.r.bV.map q5) (BM x.r) (.slice x.a.pA x.r.bV.length x.a.pc) w (hx.mem hw) h ho Tryz.call325 Tryz.call326 (λw hx=>Ou x.a.pA x.r.bV.length x.a.pc x.r.bV w hx.bV (by omega)) (λA c B d w h1 h2=>by unfold BM;exact Nu A c (q6 x.r) B (x.r.bV.map q5).length d (x.r.bV.map q5) w h1 h2 (by simp;omega) (xl h) (Fk h)) (by simp;omega)) rfl (λ_=>rfl) λz=>GX ?_;exact jr (v:= .slice _ _ _) (x:= .int _ _) rfl rfl rfl rfl λw' hw=>⟨z,rfl,hw.pick [0] (by decide)⟩
theorem KB(x w)(hx:tq w x)(h:eF x.r=0)(ho:x.r.open_=false):Calls Tryz.prog 280 #[.agg x.cells.toArray] w λe w'=> ∃z:Option Addr×Nat,e= .returned (.tuple #[.slice z.1 (Bw x.r).length z.2, .int .i64 0])/\Mem w [gw z.1 z.2 (Bw x.r)] w':=by
 have hp:=im h;refine HF Tryz.func280 Tryz.ntmps280 ?_;refine cd (v:= .agg _) rfl rfl λb1=>GX ?_;refine fI (Qp (q0 (v:= .slice _ _ _) rfl))<|oD (en Tryz.call322 (nS (q0 rfl) (q0 rfl) (q0 rfl))) (λw hw=>MC x 323 324 (x.r.bV.map rh) (Bw x.r) (.slice x.a.pA x.r.bV.length x.a.pc) w (hx.mem hw) h ho Tryz.call323 Tryz.call324 (λw hx=>OQ x.a.pA x.r.bV.length x.a.pc x.r.bV w hx.bV (by omega)) (λA c B d w h1 h2=>by unfold Bw;exact O3 A c (q6 x.r) B (x.r.bV.map rh).length d (x.r.bV.map rh) w h1 h2 (by simp;omega) (xl h) (FI h)) (by simp;omega)) rfl (λ_=>rfl) λz=>GX ?_;exact jr (v:= .slice _ _ _) (x:= .int _ _) rfl rfl rfl rfl λw' hw=>⟨z,rfl,hw.pick [0] (by decide)⟩
theorem Kb(x w)(hx:tq w x)(h:eF x.r=0)(ho:x.r.open_=false):Calls Tryz.prog 198 #[.agg x.cells.toArray] w λe w'=>e= .returned (.tuple #[.int .i64 (oZ x.r), .int .i64 (tK x.r), .int .i64 0])/\fM w w':=by
 have hr:=Mn h;have hp:=MB h;have hr2:=IM h;have hp2:=IV h;refine HF Tryz.func198 Tryz.ntmps198 ?_;refine cd (v:= .agg _) rfl rfl λb1=>GX ?_;refine oD (en Tryz.call280 (iQ (q0 rfl))) (λw hw=>KB x w (hx.mem hw) h ho) rfl (λ_=>rfl) λz1=>GD ?_ ?_<;>intro h1
 ·exfalso;simp at h1
 refine GX ?_;refine oD (en Tryz.call281 (iQ (q0 rfl))) (λw hw=>H2 x w (hx.mem hw) h ho) rfl (λ_=>rfl) λz2=>GD ?_ ?_<;>intro h2
 ·exfalso;simp at h2
 refine GX ?_;refine jx (en Tryz.call282 (iQ (q0 rfl))) (λ_ w hw=>F5 z1.1 (Bw x.r).length z1.2 (Bw x.r) w (fB hw (j:=1) rfl (λ_=>rfl) (by omega)) (by omega) hr2)<|GD ?_ ?_<;>intro h3
 ·exfalso;simp at h3
 refine GX ?_;refine jx (en Tryz.call282 (iQ (q0 rfl))) (λ_ w hw=>F5 z2.1 (BM x.r).length z2.2 (BM x.r) w (fB hw (j:=0) rfl (λ_=>rfl) (by omega)) (by omega) hp2)<|GD ?_ ?_<;>intro h4
 ·exfalso;simp at h4
 refine GX ?_;exact S6 (v:= .int _ _) (x:= .int _ _) (z:= .int _ _) rfl rfl rfl rfl rfl λw' hw=>⟨rfl,hw.1⟩
end Go.Proofs.Far
namespace Go.Proofs.Far
open Go Go.RowKit Go.Proofs.E Go.Proofs.Cus Go.Proofs.Rid
def vr (a b:Rd):Int:=Ld [jv a.start.lo b.start.lo,jv a.end_.lo b.end_.lo,jv a.id b.id]
def ig (a b:Rd):Bool:=decide (a.start.lo<b.start.lo\/(a.start.lo=b.start.lo/\(a.end_.lo<b.end_.lo\/(a.end_.lo=b.end_.lo/\a.id<b.id))))
theorem wX(a b):(a<b/\jv a b= -1)\/(a=b/\jv a b=0)\/(b<a/\jv a b=1):=by
 grind [jv]
theorem tI(a b):decide (vr a b<0)=ig a b:=by
 unfold vr ig Ld
 rcases wX a.start.lo b.start.lo with ⟨h1,e1⟩|⟨h1,e1⟩|⟨h1,e1⟩
 ·rw [e1]
  simp [h1]
 ·rw [e1]
  rcases wX a.end_.lo b.end_.lo with ⟨h2,e2⟩|⟨h2,e2⟩|⟨h2,e2⟩
  ·rw [e2];simp [h1,h2]
  ·rw [e2]
   rcases wX a.id b.id with ⟨h3,e3⟩|⟨h3,e3⟩|⟨h3,e3⟩
   ·rw [e3];simp [h1,h2,h3]
   ·rw [e3];simp [h1,h2,h3]
   grind
  grind
 grind
section
open Go.Shelf Go.Lib Go.Sort
theorem Bo {α:Type} (f:α->Rd) (cf:α->α->Int) (h: ∀x y,ltOf cf x y=ig (f x) (f y)):SWO (ltOf cf) where
 irrefl x:=by rw [h];unfold ig;simp
 trans x y z h1 h2:=by rw [h] at*;unfold ig at*;simp only [fg] at*;omega
 ntrans x y z h1 h2:=by rw [h] at*;unfold ig at*;simp only [nV] at*;omega
theorem FR{α}[Inhabited α](enc:α->Value)(d):flatK (λx=>[enc x]) 1 d=d.map enc:=by
 apply Array.ext
 ·simp [flatK]
 intro i h1 h2
 have hi:i<d.size:=by simpa using h2
 simp [flatK,Nat.mod_one,hi]
theorem wq{α}[Inhabited α](enc:α->Value)(w blk off m dk os):sortWorld enc w blk off m dk os=sortWorldK (λx=>[enc x]) 1 w blk off m dk os:=by
 unfold sortWorld sortWorldK putRowK putRow
 congr 2
 funext c
 unfold putCells
 congr 1
 funext k x
 rw [FR]
 grind
end
theorem QP(A n c rs)(i k:Nat)(x y b w)(hb:jS w b 0 [.slice A n c])(hbl:b<w.heap.size)(hx:lZ w A n rs)(hi:rs[i]?=some x)(hk:rs[k]?=some y):
  Calls Tryz.prog 275 #[.int .i64 i, .int .i64 k, .pointer (some ⟨b,0,none⟩)] w λe w'=>e= .returned (.int .i64 (vr x.r y.r))/\fM w w':=by
 have hn:=hx.1.1;have hin:i<n:=by have:=(ai.1 hi).1;omega
 have hkn:k<n:=by have:=(ai.1 hk).1;omega
 obtain ⟨rb,off,x',rfl,hrbl,hx',hrx⟩:=hx.1.at_ hin;rw [hi] at hx';cases hx';obtain ⟨y',hy',hry⟩:=hx.1.row hkn;rw [hk] at hy';cases hy';refine HF Tryz.func275 Tryz.ntmps275 ?_;refine ke (rg 6 10) (λz:Nat×Nat=>[(6, .pointer (some ⟨z.1,0,none⟩)),(7, .pointer (some ⟨z.2,0,none⟩))]) (λz=>[box z.1 78 x.cells,box z.2 78 y.cells]) (λ_=>True) ?_ ?_
 ·refine JR<|mG 0 rfl (gB (v:= .slice (some ⟨rb,off,none⟩) n c) ib (q0 rfl) (HD hb hbl rfl))<|aW 1 ?_;refine mG 2 rfl (cx i aT ba (q0 rfl) (q0 rfl) (λ_=>⟨rfl,hin⟩))<|mG 3 rfl (iV (vs:=x.cells) fT ba (q0 rfl) (EY hrx hrbl) rfl)<|mG 4 rfl (gB (v:= .slice (some ⟨rb,off,none⟩) n c) ib (q0 rfl) (HD hb hbl rfl))<|aW 5 ?_;refine mG 6 rfl (cx k aT ba (q0 rfl) (q0 rfl) (λ_=>⟨rfl,hkn⟩))<|mG 7 rfl (iV (vs:=y.cells) fT ba (q0 rfl) (EY hry hrbl) rfl)<|lS (i:=8) (j:=9) (by decide+kernel) (au 0) ?_ ?_
  ·refine aL rfl (mO dp rfl λb6=>?_);refine r1 9 1 ?_;refine aL rfl (mO dp rfl λb7=>?_);refine aI 1 ?_;refine r1 10 2 ?_;refine aL rfl (mB (v:= .agg _) rfl rfl ba ?_);refine r1 11 2 ?_;refine aL rfl (mB (v:= .agg _) rfl rfl ba ?_);refine qE 2 ?_;exact aO ((b6,b7):Nat×Nat) lg ⟨rfl,rfl,trivial⟩ (λw hw=>hw) rfl trivial
  refine aL rfl (mO dp rfl λb7=>?_);refine r1 8 1 ?_;refine aL rfl (mO dp rfl λb6=>?_);refine r1 10 2 ?_;refine aL rfl (mB (v:= .agg _) rfl rfl ba ?_);refine r1 11 2 ?_;refine aL rfl (mB (v:= .agg _) rfl rfl ba ?_);refine qE 2 ?_;exact aO ((b6,b7):Nat×Nat) lg ⟨rfl,rfl,trivial⟩ (λw hw=>hw) rfl trivial
 rintro ⟨b6,b7⟩ g5 _;refine GX ?_;refine JR<|aW 0 ?_;refine aW 1 ?_;refine aW 2 ?_;refine aW 3 ?_;refine aW 4 ?_;refine aW 5 ?_;refine aW 7 ?_;refine aW 8 ?_;refine aW 9 ?_;refine aW 10 ?_;refine aW 11 ?_;refine aW 12 ?_;refine aW 14 ?_;refine aW 15 ?_;refine aW 16 ?_;refine aW 17 ?_;refine aC 6 (by decide+kernel) rfl (en iT (jn (q0 rfl) (q0 rfl))) (λ_ w _=>iK x.r.start.lo y.r.start.lo w) rfl<|aC 13 (by decide+kernel) rfl (en iT (jn (q0 rfl) (q0 rfl))) (λ_ w _=>iK x.r.end_.lo y.r.end_.lo w) rfl<|aC 18 (by decide+kernel) rfl (en iT (jn (q0 rfl) (q0 rfl))) (λ_ w _=>iK x.r.id y.r.id w) rfl<|r1 19 0 ?_;refine aL rfl (ey [(.int .i64 0),(.int .i64 0),(.int .i64 0)] aA ae bw rfl (by kernel_rfl) (pt (v:= .int _ _) rfl (pt (v:= .int _ _) rfl (pt (v:= .int _ _) rfl E.p0))) rfl rfl λb35=>?_);refine w7 (au 1)<|aC 20 (by decide+kernel) rfl (en Iw (iQ (q0 rfl))) (λ_ w hm=>MF _ 3 3 [jv x.r.start.lo y.r.start.lo,jv x.r.end_.lo y.r.end_.lo,jv x.r.id y.r.id] w (fj (enc:=eQ) hm (j:=0) rfl (λ_=>rfl) (by simp))) rfl<|aW 21 ?_;refine qE 0 ?_;exact GW
open Go Go.RowKit Go.Proofs.E Go.Proofs.Cus Go.Proofs.Rid
def Hr:Go.Shelf.Ren:=⟨fun|6=>274|15=>180|14=>321|28=>245|29=>246|20=>351|21=>352|22=>353|23=>354|24=>355|25=>356|26=>357|27=>358|46=>372|47=>311|48=>312|49=>373|50=>374|57=>378|n=>n,fun|22=>22|24=>3|25=>215|3=>3|39=>313|0=>0|53=>364|55=>38|4=>4|46=>358|45=>357|50=>299|5=>5|9=>9|66=>416|70=>420|76=>441|77=>201|n=>n,fun|n=>n⟩
theorem QZ:Go.Proofs.SlLaysF.n6 Tryz.prog Hr:={
 mixed:=by kernel_rfl,
 f6:=⟨Tryz.f274.name,by decide,Tryz.func274.trans (aP some (by kernel_rfl))⟩,
 f14:=⟨Tryz.f321.name,by decide,Tryz.func321.trans (aP some (by kernel_rfl))⟩,
 f15:=Tryz.func180.trans (aP some (by kernel_rfl)),
 f20:=⟨Tryz.f351.name,by decide,Tryz.func351.trans (aP some (by kernel_rfl))⟩,
 f21:=⟨Tryz.f352.name,by decide,Tryz.func352.trans (aP some (by kernel_rfl))⟩,
 f22:=⟨Tryz.f353.name,by decide,Tryz.func353.trans (aP some (by kernel_rfl))⟩,
 f23:=⟨Tryz.f354.name,by decide,Tryz.func354.trans (aP some (by kernel_rfl))⟩,
 f24:=⟨Tryz.f355.name,by decide,Tryz.func355.trans (aP some (by kernel_rfl))⟩,
 f25:=⟨Tryz.f356.name,by decide,Tryz.func356.trans (aP some (by kernel_rfl))⟩,
 f26:=⟨Tryz.f357.name,by decide,Tryz.func357.trans (aP some (by kernel_rfl))⟩,
 f27:=⟨Tryz.f358.name,by decide,Tryz.func358.trans (aP some (by kernel_rfl))⟩,
 f28:=Tryz.func245.trans (aP some (by kernel_rfl)),
 f29:=Tryz.func246.trans (aP some (by kernel_rfl)),
 f46:=⟨Tryz.f372.name,by decide,Tryz.func372.trans (aP some (by kernel_rfl))⟩,
 f47:=Tryz.func311.trans (aP some (by kernel_rfl)),
 f48:=Tryz.func312.trans (aP some (by kernel_rfl)),
 f49:=⟨Tryz.f373.name,by decide,Tryz.func373.trans (aP some (by kernel_rfl))⟩,
 f50:=⟨Tryz.f374.name,by decide,Tryz.func374.trans (aP some (by kernel_rfl))⟩,
 f57:=⟨Tryz.f378.name,by decide,Tryz.func378.trans (aP some (by kernel_rfl))⟩,
 t0:=mY,
 a0:=uz,
 z0:=sr,
 v0:=ob,
 t3:=av,
 a3:=aj,
 z3:=ae,
 v3:=bw,
 t4:=iM,
 a4:=lP,
 z4:=gD,
 v4:=ia,
 t5:=iL,
 a5:=uy,
 z5:=sq,
 v5:=oa,
 t9:=mX,
 a9:=ux,
 z9:=so,
 v9:=n9,
 t22:=aA,
 a22:=jN,
 z22:=ks,
 v22:=JM,
 a24:=aj,
 z24:=ae,
 t25:=UM,
 a25:=Tryz.isAgg215,
 z25:=Tryz.sizeOf215,
 v25:=Tryz.zeroValue215,
 t39:=lx,
 a39:=qU,
 z39:=pI,
 v39:=mf,
 t45:=lu,
 a45:=qT,
 z45:=pH,
 v45:=me,
 t46:=lq,
 a46:=qS,
 z46:=pG,
 v46:=ma,
 t50:=lz,
 a50:=qV,
 z50:=pJ,
 v50:=mg,
 t53:=lp,
 a53:=qR,
 z53:=pF,
 v53:=l',
 t55:=jB,
 a55:=sv,
 z55:=qN,
 v55:=mW,
 t66:=lk,
 a66:=qQ,
 z66:=pE,
 v66:=l9,
 t70:=lj,
 a70:=qP,
 z70:=pD,
 v70:=l8,
 t76:=lh,
 a76:=qO,
 z76:=pC,
 v76:=l7,
 t77:=lB,
 a77:=qW,
 z77:=pL,
 v77:=mi}
def Ft:Go.Shelf.Ren:=⟨fun|6=>274|15=>180|14=>321|28=>245|29=>246|20=>351|21=>352|22=>353|23=>354|24=>355|25=>356|26=>357|27=>358|46=>372|47=>311|48=>312|49=>373|50=>374|57=>378|n=>n,fun|22=>22|24=>3|25=>215|3=>3|39=>313|0=>0|53=>364|55=>38|4=>4|46=>358|45=>357|50=>299|5=>5|9=>9|66=>416|70=>420|76=>441|77=>201|n=>n,fun|n=>n⟩
theorem OB:Go.Proofs.SlLaysF0.n6 Tryz.prog Ft:={
 mixed:=by kernel_rfl,
 f6:=⟨Tryz.f274.name,by decide,Tryz.func274.trans (aP some (by kernel_rfl))⟩,
 f14:=⟨Tryz.f321.name,by decide,Tryz.func321.trans (aP some (by kernel_rfl))⟩,
 f15:=Tryz.func180.trans (aP some (by kernel_rfl)),
 f20:=⟨Tryz.f351.name,by decide,Tryz.func351.trans (aP some (by kernel_rfl))⟩,
 f21:=⟨Tryz.f352.name,by decide,Tryz.func352.trans (aP some (by kernel_rfl))⟩,
 f22:=⟨Tryz.f353.name,by decide,Tryz.func353.trans (aP some (by kernel_rfl))⟩,
 f23:=⟨Tryz.f354.name,by decide,Tryz.func354.trans (aP some (by kernel_rfl))⟩,
 f24:=⟨Tryz.f355.name,by decide,Tryz.func355.trans (aP some (by kernel_rfl))⟩,
 f25:=⟨Tryz.f356.name,by decide,Tryz.func356.trans (aP some (by kernel_rfl))⟩,
 f26:=⟨Tryz.f357.name,by decide,Tryz.func357.trans (aP some (by kernel_rfl))⟩,
 f27:=⟨Tryz.f358.name,by decide,Tryz.func358.trans (aP some (by kernel_rfl))⟩,
 f28:=Tryz.func245.trans (aP some (by kernel_rfl)),
 f29:=Tryz.func246.trans (aP some (by kernel_rfl)),
 f46:=⟨Tryz.f372.name,by decide,Tryz.func372.trans (aP some (by kernel_rfl))⟩,
 f47:=Tryz.func311.trans (aP some (by kernel_rfl)),
 f48:=Tryz.func312.trans (aP some (by kernel_rfl)),
 f49:=⟨Tryz.f373.name,by decide,Tryz.func373.trans (aP some (by kernel_rfl))⟩,
 f50:=⟨Tryz.f374.name,by decide,Tryz.func374.trans (aP some (by kernel_rfl))⟩,
 f57:=⟨Tryz.f378.name,by decide,Tryz.func378.trans (aP some (by kernel_rfl))⟩,
 t0:=mY,
 a0:=uz,
 z0:=sr,
 v0:=ob,
 t3:=av,
 a3:=aj,
 z3:=ae,
 v3:=bw,
 t4:=iM,
 a4:=lP,
 z4:=gD,
 v4:=ia,
 t5:=iL,
 a5:=uy,
 z5:=sq,
 v5:=oa,
 t9:=mX,
 a9:=ux,
 z9:=so,
 v9:=n9,
 t22:=aA,
 a22:=jN,
 z22:=ks,
 v22:=JM,
 t25:=UM,
 a25:=Tryz.isAgg215,
 z25:=Tryz.sizeOf215,
 v25:=Tryz.zeroValue215,
 t39:=lx,
 a39:=qU,
 z39:=pI,
 v39:=mf,
 t45:=lu,
 a45:=qT,
 z45:=pH,
 v45:=me,
 t46:=lq,
 a46:=qS,
 z46:=pG,
 v46:=ma,
 t50:=lz,
 a50:=qV,
 z50:=pJ,
 v50:=mg,
 t53:=lp,
 a53:=qR,
 z53:=pF,
 v53:=l',
 t55:=jB,
 a55:=sv,
 z55:=qN,
 v55:=mW,
 t66:=lk,
 a66:=qQ,
 z66:=pE,
 v66:=l9,
 t70:=lj,
 a70:=qP,
 z70:=pD,
 v70:=l8,
 t76:=lh,
 a76:=qO,
 z76:=pC,
 v76:=l7,
 t77:=lB,
 a77:=qW,
 z77:=pL,
 v77:=mi}
def Dm (n:Nat):List Int:=(List.range n).map λi:Nat=>(i:Int)
theorem xH(n):(Dm n).length=n:=by unfold Dm;simp
theorem Pb{n k}(h:k<n):(Dm n)[k]?=some (k:Int):=by unfold Dm;simp [h]
section
open Go.Shelf Go.Lib Go.Sort
theorem Fy{w b c n e d}:(dS e 1 eQ (some ⟨b,0,none⟩) c (d.map λx=>(x.1:Int))).A w↔(dS e 1 (λx:Fin n=>[Value.int .i64 (x.1:Int)]) (some ⟨b,0,none⟩) c d).A w:=by
 show World.ownsRow _ _ _ _ _ _ _↔World.ownsRow _ _ _ _ _ _ _
 rw [aS,List.flatMap_map]
 exact Iff.rfl
theorem Mc{w0 w L}(hw:Mem w0 L w){j q b3 n c:Nat}{b HD rA rs}(hk:L[j]?=some (eO (some ⟨b,0,none⟩) c (Dm n)))(hq:L[q]?=some (box b3 45 [.slice rA n HD]))(hjq:j≠q)(hr:lZ w0 rA n rs)(hs:rs.Pairwise λx y=>ig x.r y.r=true)(hn:n<=1000000):
  Calls Tryz.prog 274 #[.slice (some ⟨b,0,none⟩) n c, .func (.func 275) #[] #[.pointer (some ⟨b3,0,none⟩)]] w λr w'=> ∃_:Unit,r= .returned (.tuple #[])/\Mem w0 L w':=by
 have hlen:rs.length=n:=hr.1.1;rcases ga n with h0|h0
 ·subst h0;refine (AnyF.slices_SortFunc_none OB (some ⟨b,0,none⟩) c (.func (.func 275) #[] #[.pointer (some ⟨b3,0,none⟩)]) w).mono ?_;rintro r w' ⟨rfl,rfl⟩;exact ⟨(),rfl,hw⟩
 haveI:Inhabited (Fin n):=⟨⟨0,h0⟩⟩
 have hb:b<w.heap.size:=(hw.nE hk rfl).2
 let enc:Fin n->Value:=λx=> .int .i64 (x.1:Int)
 let d:Array (Fin n):=(List.finRange n).toArray
 have hds:d.size=n:=by simp [d]
 have hfin:(List.finRange n).map (λx:Fin n=>(x.1:Int))=Dm n:=by
  unfold Dm;apply List.ext_getElem
  ·simp
  intro i h1 h2;simp
 let cf:Fin n->Fin n->Int:=λx y=>vr (rs[x.1]'(by omega)).r (rs[y.1]'(by omega)).r
 have hlt: ∀x y,ltOf cf x y=ig (rs[x.1]'(by omega)).r (rs[y.1]'(by omega)).r:=λx y=>by
  unfold ltOf;exact tI _ _
 have hO:SWO (ltOf cf):=Bo (λx:Fin n=>(rs[x.1]'(by omega)).r) cf hlt;have hpw:=bJ.1 hs;have hT: ∀x y,ltOf cf x y=false->ltOf cf y x=false->x=y:=λx y h1 h2=>by
  rw [hlt] at h1 h2;rcases Nat.lt_trichotomy x.1 y.1 with h|h|h
  ·have:=hpw x.1 y.1 (by omega) (by omega) h;rw [h1] at this;cases this
  ·exact Fin.ext h
  have:=hpw y.1 x.1 (by omega) (by omega) h;rw [h2] at this;cases this
 have hkF: ∀{w:World} {L':List E.Item},Mem w0 L' w->L'[j]?=some (eO (some ⟨b,0,none⟩) c (Dm n))->Mem w0 (L'.set j (dS 3 1 (λx:Fin n=>[Value.int .i64 (x.1:Int)]) (some ⟨b,0,none⟩) c (List.finRange n))) w:=λ{w L'} hw hk=>by
  refine hw.swap hk (λz hz=>hz) (Fy.1 ?_);rw [hfin];exact hw.item hk
 have hwF:=hkF hw hk;have hjL:=(ai.1 hk).1;have hkk:(L.set j (dS 3 1 (λx:Fin n=>[Value.int .i64 (x.1:Int)]) (some ⟨b,0,none⟩) c (List.finRange n)))[j]?=some (dS 3 1 (λx:Fin n=>[Value.int .i64 (x.1:Int)]) (some ⟨b,0,none⟩) c (List.finRange n)):=by simp [hjL]
 have hcmp:CmpLays1 Tryz.prog 275 #[.pointer (some ⟨b3,0,none⟩)] enc cf b 0 d.size w:=by
  intro m os dk hdk x y;have hm:=tF (k:=1) (enc:=λx:Fin n=>[Value.int .i64 (x.1:Int)]) (n:=m) (os:=os) (ys:=dk.toList) (λ_=>rfl) hwF hkk (by simp;omega);rw [gV] at hm;have hww:sortWorldK (λx:Fin n=>[enc x]) 1 w b 0 m dk.toList.toArray os=sortWorld enc w b 0 m dk os:=by
   rw [wq]
  rw [hww] at hm;have hq2:(L.set j (dS 3 1 (λx:Fin n=>[Value.int .i64 (x.1:Int)]) (some ⟨b,0,none⟩) c dk.toList))[q]?=some (box b3 45 [.slice rA n HD]):=by
   rw [fQ hjq];exact hq
  have hrow:jS (sortWorld enc w b 0 m dk os) b3 0 [.slice rA n HD]:=λi u hu=>by
   rw [fq];exact jR hm hq2 hu
  have hb3:b3<(sortWorld enc w b 0 m dk os).heap.size:=(hm.nE hq2 rfl).2;refine (QP rA n HD rs x.1 y.1 (rs[x.1]'(by omega)) (rs[y.1]'(by omega)) b3 _ hrow hb3 (hr.mem hm) (ah _) (ah _)).mono λe w' ⟨he,hbl⟩=>⟨he,hbl.Rr⟩
 have hH:Holds enc w b 0 d:=by
  have h1:=wS (k:=1) (enc:=λx:Fin n=>[enc x]) (λ_=>rfl) hwF hkk;unfold HoldsK at h1;rw [FR] at h1;intro i hi;have:=h1 i (by simpa [d] using hi);rw [nO _ i (by simpa [d] using hi)] at this;rw [nO d i hi];simpa [d] using this
 have hcon:=Any.slices_SortFunc_total QZ enc (λ_=>rfl) cf hO 275 #[.pointer (some ⟨b3,0,none⟩)] b 0 c d w Tryz.call275 hcmp hH hb (by omega) hT;rw [hds] at hcon;refine hcon.mono ?_;rintro r w' ⟨rfl,m,os,rfl⟩;have hsort:d.toList.mergeSort (λx y=>!(ltOf cf) y x)=List.finRange n:=by
  have:d.toList=List.finRange n:=by simp [d]
  rw [this];refine List.mergeSort_of_pairwise ?_;rw [bJ];intro i k hi hk2 hik;simp only [List.getElem_finRange];rw [hlt];have h1:=hpw i k (by simp at hi;omega) (by simp at hk2;omega) hik;have h2:ig (rs[k]'(by simp at hk2;omega)).r (rs[i]'(by simp at hi;omega)).r=false:=by
   unfold ig at h1|-;simp only [fg,nV] at h1|-;omega
  simpa using h2
 rw [hsort,wq];refine ⟨(),rfl,?_⟩;have hm:=tF (k:=1) (enc:=λx:Fin n=>[Value.int .i64 (x.1:Int)]) (n:=m) (os:=os) (ys:=List.finRange n) (λ_=>rfl) hwF hkk rfl;rw [gV] at hm;have hm2:=hm.swap (j:=j) (it:=dS 3 1 (λx:Fin n=>[Value.int .i64 (x.1:Int)]) (some ⟨b,0,none⟩) c (List.finRange n)) (it':=eO (some ⟨b,0,none⟩) c (Dm n)) (by simp [hjL]) (λz hz=>hz) (by
  have:=Fy.2 (hm.item (k:=j) (it:=dS 3 1 (λx:Fin n=>[Value.int .i64 (x.1:Int)]) (some ⟨b,0,none⟩) c (List.finRange n)) (by simp [hjL]));rw [hfin] at this;exact this)
 rw [gV] at hm2;have hLL:L.set j (eO (some ⟨b,0,none⟩) c (Dm n))=L:=by
  obtain ⟨q1,q2⟩:=ai.1 hk;rw [<-q2];exact pO q1
 rw [hLL] at hm2;exact hm2
end
end Go.Proofs.Far
namespace Go.Proofs.E
open Go Go.RowKit
def kv (a:Int×Int):Value:= .agg #[.int .i64 a.1, .int .i64 a.2]
structure sh (P:Program) (kt:TypeId):Prop where
 eq: ∀(a b:Int×Int) (w:World),(Op.equal kt (kv a) (kv b)).run P w= .ok (a==b) w
 Pu: ∀(em:Bool) (a:Int×Int) (w:World),(Instr.checkKey em 10000 kt (kv a)).run P w= .ok () w
 fk: ∀(a:Int×Int) (es:List MapEntry) (w:World),(Instr.findKey kt (kv a) es).run P w=(Instr.findAsking kt (kv a) es).run P w
theorem NH (a b:Int×Int):([a.1,a.2]==[b.1,b.2])=(a==b):=by
 grind
theorem Dv{P t q}(h:P.underlying t=some (.int q))(em x n w):(Instr.checkKey em (n+1) t (.int .i64 x)).run P w= .ok () w:=by
 rw [Instr.checkKey]
 simp [run_underlying h]
theorem sh.struct {P:Program} {t:TypeId} {fs:Array Field} (ht:P.underlying t=some (.struct fs)) (hp:P.stoodInHeld t=false) (hf:vw P 0 fs.toList) (hn:fs.toList.length=2):sh P t where
 eq a b w:=by
  rw [<-NH]
  exact oq w [a.1,a.2] [b.1,b.2] rfl ht hp hf hn
 Pu em a w:=by
  rw [show (10000:Nat)=9999+1 from rfl,Instr.checkKey]
  simp only [Sem.run_bind,run_underlying ht,Result.andThen_ok,kv]
  rw [<-Array.forIn_toList]
  have hn':0+fs.toList.length=2:=by omega
  revert hf hn'
  generalize fs.toList=l
  generalize 0=k
  intro hf hn'
  induction l generalizing k with
  |nil=>simp
  |cons f l ih=>
   obtain ⟨h1,h2,h3,⟨q,h4⟩,h5⟩:=hf
   simp only [cL] at hn'
   obtain ⟨x,hx⟩: ∃x,[a.1,a.2][k]?=some x:=⟨_,ah (by show k<2;omega)⟩
   have hpt:(part f.type #[.int .i64 a.1, .int .i64 a.2] k).run P w= .ok (.int .i64 x) w:=k6 (l:=[a.1,a.2]) w h3 hx
   simp only [List.forIn_cons,Sem.run_bind,h1,ne_eq,Oa,E2,Result.andThen_ok,h2,hpt,Dv h4 em x 9998 w,Sem.run_pure]
   exact ih (k+1) h5 (by omega)
 fk a es w:=run_findKey_eq w (by rw [ht]) (kv a) es
theorem sh.array {P:Program} {t e:TypeId} {i:TypeInfo} {q:IntKind} (ht:P.underlying t=some (.array 2 e)) (he:P.underlying e=some (.int q)) (ha: ∀w,(isAgg e).run P w= .ok false w) (hi:P.info? e=some i) (h1:i.size=1):sh P t where
 eq a b w:=by
  have hc:P.cellsOf e=1:=by unfold Program.cellsOf;rw [hi];exact h1
  have e1:(a==b)=((a.1==b.1)&&(a.2==b.2)):=rfl
  show (Op.equalIn 10000 t _ _).run P w=_
  rw [show (10000:Nat)=9998+1+1 from rfl,kv,kv,run_equalIn_array w (9998+1) _ _ ht hi,e1,hc]
  rw [show List.range 2=[0,1] from rfl]
  have pa: ∀(z:Int×Int),(part e #[.int .i64 z.1, .int .i64 z.2] 0).run P w= .ok (.int .i64 z.1) w:=λz=>k6 (l:=[z.1,z.2]) (k:=0) w ha rfl
  have pb: ∀(z:Int×Int),(part e #[.int .i64 z.1, .int .i64 z.2] 1).run P w= .ok (.int .i64 z.2) w:=λz=>k6 (l:=[z.1,z.2]) (k:=1) w ha rfl
  simp only [Op.eqItems,Nat.zero_mul,Nat.mul_one,Sem.run_bind,pa,pb,Result.andThen_ok,run_equalIn_int w 9998 e .i64 q _ _ he,Sem.run_ite]
  cases (a.1==b.1)<;>cases (a.2==b.2)<;>rfl
 Pu em a w:=by
  rw [show (10000:Nat)=9999+1 from rfl,Instr.checkKey]
  simp only [Sem.run_bind,run_underlying ht,Result.andThen_ok,kv]
  simp only [Std.Legacy.Range.forIn_eq_forIn_range',Std.Legacy.Range.size,Nat.sub_zero,Nat.add_one_sub_one,Nat.div_one]
  rw [show List.range' 0 2=[0,1] from rfl]
  have pa:(part e #[.int .i64 a.1, .int .i64 a.2] 0).run P w= .ok (.int .i64 a.1) w:=k6 (l:=[a.1,a.2]) (k:=0) w ha rfl
  have pb:(part e #[.int .i64 a.1, .int .i64 a.2] 1).run P w= .ok (.int .i64 a.2) w:=k6 (l:=[a.1,a.2]) (k:=1) w ha rfl
  have hc:P.cellsOf e=1:=by unfold Program.cellsOf;rw [hi];exact h1
  simp only [List.forIn_cons,List.forIn_nil,Sem.run_bind,run_sizeOf w hi,hc,Nat.mul_one,Nat.zero_mul,Nat.one_mul,Result.andThen_ok,pa,pb,Dv he em _ 9998 w,Sem.run_pure]
 fk a es w:=run_findKey_eq w (by rw [ht]) (kv a) es
def Qj (e:MapEntry) (p:(Int×Int)×Value):Prop:=e.key=kv p.1/\e.val=p.2
inductive qi:List MapEntry->List ((Int×Int)×Value)->Prop
 |nil:qi [] []
 |cons {e p es ps}:Qj e p->qi es ps->qi (e::es) (p::ps)
def gT (ps:List ((Int×Int)×Value)) (k:Int×Int):Option Value:=(ps.find? (λp=>p.1==k)).map (·.2)
def lH (ps:List ((Int×Int)×Value)) (k:Int×Int) (v:Value):List ((Int×Int)×Value):=
 match ps with
 |[]=>[(k,v)]
 |p::r=>if p.1==k then (k,v)::r else p::lH r k v
def rN (w:World) (b:Nat) (ps:List ((Int×Int)×Value)):Prop:= ∃es clock,w.heap[b]?=some (.map es clock)/\qi es.toList ps/\lW es.toList clock
def GZ (w:World) (b:Nat) (ps:List ((Int×Int)×Value)) (k:Int×Int) (born:Int):Prop:= ∃es clock,w.heap[b]?=some (.map es clock)/\qi es.toList ps/\lW es.toList clock/\
 ∃(j:Nat) (e:MapEntry),es.toList[j]?=some e/\(e.born:Int)=born/\ ∀v,qi (es.toList.modify j λe=>{e with val:=v}) (lH ps k v)
def mT (b:Nat) (ps:List ((Int×Int)×Value)):Item where
 fp:=λx=>x=b
 A:=λw=>rN w b ps
 st:=λ_ _ h hA=>by
  obtain ⟨es,c,h1,h2⟩:=hA
  exact ⟨es,c,(h b rfl).trans h1,h2⟩
def I5 (b:Nat) (ps:List ((Int×Int)×Value)) (k:Int×Int) (born:Int):Item where
 fp:=λx=>x=b
 A:=λw=>GZ w b ps k born
 st:=λ_ _ h hA=>by
  obtain ⟨es,c,h1,h2⟩:=hA
  exact ⟨es,c,(h b rfl).trans h1,h2⟩
section
variable {P:Program} {t kt et:TypeId}
theorem vH(K:sh P kt)(k w): ∀(es:List MapEntry) (ps:List ((Int×Int)×Value)) (i:Nat),qi es ps->
  (gT ps k=none/\(Instr.findAsking kt (kv k) es i).run P w= .ok none w/\(∀v,lH ps k v=ps++[(k,v)]))\/
  (∃j v e,gT ps k=some v/\(Instr.findAsking kt (kv k) es i).run P w= .ok (some (i+j,v)) w/\es[j]?=some e/\e.key=kv k/\(∀v,qi (es.modify j λe=>{e with val:=v}) (lH ps k v))/\ ∀v,lH ps k v=ps\/True):=by
 intro es
 induction es with
 |nil=>intro ps i h;cases h;exact .inl ⟨rfl,rfl,λ_=>rfl⟩
 |cons e es ih=>
  intro ps i h;cases h with
  |cons hp hr=>
   rename_i p ps;obtain ⟨hk,hv⟩:=hp;by_cases hkk:p.1=k
   ·refine .inr ⟨0,p.2,e,by simp [gT,hkk],?_,rfl,by rw [hk,hkk],λv=>?_,λ_=> .inr trivial⟩
    ·have:(k==p.1)=true:=by rw [hkk];exact QD k
     simp [Instr.findAsking,hk,K.eq,this,hv,Result.andThen]
    simp only [lH,hkk,QD,E2];exact .cons ⟨by show e.key=_;rw [hk,hkk],rfl⟩ hr
   have hne:(k==p.1)=false:=gk.2 λe=>hkk e.symm;have hne2:(p.1==k)=false:=gk.2 hkk;rcases ih ps (i+1) hr with ⟨h1,h2,h3⟩|⟨j,v,e',h1,h2,h3,h4,h5,_⟩
   ·refine .inl ⟨by simpa [gT,hne2] using h1,?_,λv=>by simp [lH,hne2,h3]⟩;simp [Instr.findAsking,hk,K.eq,hne,h2,Result.andThen]
   refine .inr ⟨j+1,v,e',by simpa [gT,hne2] using h1,?_,by simpa using h3,h4,λv=>?_,λ_=> .inr trivial⟩
   ·simp [Instr.findAsking,hk,K.eq,hne,h2,Result.andThen];omega
   simp only [lH,hne2,oR,sB,List.modify_succ_cons];exact .cons ⟨hk,hv⟩ (h5 v)
theorem p9{w b ps z}(K:sh P kt)(ht:P.underlying t=some (.map kt et))(hz: ∀w,(zeroValue et).run P w= .ok z w)(h:rN w b ps)(k):
  (Instr.lookup t (.map (some b)) (kv k) false).run P w= .ok ((gT ps k).getD z) w:=by
 obtain ⟨es,c,h1,h2,_⟩:=h
 rcases vH K k w es.toList ps 0 h2 with ⟨ha,hb,_⟩|⟨j,v,e,ha,hb,_⟩
 ·simp [Instr.lookup,run_underlying ht,MapKept.run_getObj_map h1,K.Pu,K.fk,hb,ha,hz,Result.andThen]
 simp [Instr.lookup,run_underlying ht,MapKept.run_getObj_map h1,K.Pu,K.fk,hb,ha,Result.andThen]
theorem uP{es ps}(h:qi es ps){e p}(he:Qj e p):qi (es++[e]) (ps++[p]):=by
 induction h with
 |nil=>exact .cons he .nil
 |cons h1 _ ih=>exact .cons h1 ih
theorem Kc(a):Instr.sameBits 10000 (kv a) (kv a)=true:=by
 rw [show (10000:Nat)=9999+1 from rfl,kv,Instr.sameBits]
 simp [Instr.sameBits]
theorem modify_id{es:List MapEntry}{j e k}(h:es[j]?=some e)(hk:e.key=k):(es.modify j λe=>{e with key:=k})=es:=by
 apply fh
 intro i
 rw [qv]
 by_cases hi:j=i
 ·subst hi
  rw [h]
  obtain ⟨a,b,c⟩:=e
  simp only at hk
  subst hk
  simp
 cases es[i]?<;>simp [hi]
theorem Bt{w b ps z}(K:sh P kt)(ht:P.underlying t=some (.map kt et))(hz: ∀w,(zeroValue et).run P w= .ok z w)(h:rN w b ps)(k):
  ∃(born:Int) (ps':List ((Int×Int)×Value)) (w':World),(Instr.mapEntry t (.map (some b)) (kv k)).run P w= .ok (.tuple #[(gT ps k).getD z, .int .i64 born]) w'/\GZ w' b ps' k born/\(∀v,lH ps' k v=lH ps k v)/\(gT ps' k).getD z=(gT ps k).getD z/\w.grownBy w' (some b)/\w'.heap.size=w.heap.size/\w.drawn<=w'.drawn:=by
 obtain ⟨es,c,h1,h2,h3⟩:=h;have hlt:b<w.heap.size:=(fV.1 h1).1;have hg: ∀o:Obj,w.grownBy {w with heap:=w.heap.setIfInBounds b o} (some b):=λo=>⟨rfl,rfl,rfl,by simp,λi _ hi=>by
  have hne:b≠i:=λe=>hi (by rw [e]);exact gF hne⟩
 rcases vH K k w es.toList ps 0 h2 with ⟨ha,hb,hput⟩|⟨j,v,e,ha,hb,he,hek,hm,_⟩
 ·refine ⟨c,ps++[(k,z)],{w with heap:=w.heap.setIfInBounds b (.map (es.push {key:=kv k,val:=z,born:=c}) (c+1))},?_,⟨_,_,cZ hlt,?_,by simpa using h3.push rfl,es.size,{key:=kv k,val:=z,born:=c},by simp,rfl,λv=>?_⟩,λv=>?_,?_,hg _,by simp,bA _⟩
  ·simp [Instr.mapEntry,run_underlying ht,MapKept.run_getObj_map h1,K.Pu,K.fk,hb,ha,hz,Result.andThen,MapKept.run_setObj_map _ h1,goInt]
  ·simpa using uP h2 (e:={key:=kv k,val:=z,born:=c}) (p:=(k,z)) ⟨rfl,rfl⟩
  ·have hkp:lH (ps++[(k,z)]) k v=ps++[(k,v)]:=by
    have: ∀ps:List ((Int×Int)×Value),gT ps k=none->lH (ps++[(k,z)]) k v=ps++[(k,v)]:=by
     intro ps
     induction ps with
     |nil=>intro _;simp [lH]
     |cons p ps ih=>
      intro h;by_cases hp:p.1=k
      ·simp [gT,hp] at h
      have hne:(p.1==k)=false:=gk.2 hp;simp only [gT,sE,hne] at h;simp only [vQ,lH,hne,oR,sB];rw [ih h]
    exact this ps ha
   rw [hkp];have hl:es.size=es.toList.length:=by simp
   simp only [Array.toList_push];rw [hl];have:(es.toList++[({key:=kv k,val:=z,born:=c}:MapEntry)]).modify es.toList.length (λe=>{e with val:=v})=es.toList++[{key:=kv k,val:=v,born:=c}]:=by
    apply fh;intro q;rw [qv];by_cases hq:es.toList.length=q
    ·subst hq;simp
    by_cases hq2:q<es.toList.length
    ·rw [gm hq2,gm hq2];have hq3: ¬es.size=q:=λh=>hq (by simpa using h);cases es.toList[q]?<;>simp [hq3]
    rw [fu (by omega),fu (by omega),iu (by simp;omega),iu (by simp;omega)];rfl
   rw [this];exact uP h2 ⟨rfl,rfl⟩
  ·have: ∀ps:List ((Int×Int)×Value),gT ps k=none->lH (ps++[(k,z)]) k v=lH ps k v:=by
    intro ps
    induction ps with
    |nil=>intro _;simp [lH]
    |cons p ps ih=>
     intro h;by_cases hp:p.1=k
     ·simp [gT,hp] at h
     have hne:(p.1==k)=false:=gk.2 hp;simp only [gT,sE,hne] at h;simp only [vQ,lH,hne,oR,sB];rw [ih h]
   exact this ps ha
  rw [ha];have: ∀ps:List ((Int×Int)×Value),gT ps k=none->gT (ps++[(k,z)]) k=some z:=by
   intro ps
   induction ps with
   |nil=>intro _;simp [gT]
   |cons p ps ih=>
    intro h;by_cases hp:p.1=k
    ·simp [gT,hp] at h
    have hne:(p.1==k)=false:=gk.2 hp;simp only [gT,vQ,sE,hne] at h ih|-;exact ih h
  rw [this ps ha];rfl
 rw [fq] at hb;have hej:es[j]?=some e:=by simpa using he
 have hmid:(es.modify j λe=>{e with key:=kv k})=es:=by
  apply Array.ext';simpa using modify_id he hek
 have hsame:w.heap.setIfInBounds b (.map es c)=w.heap:=by
  apply Array.ext_getElem?;intro q;by_cases hq:b=q
  ·subst hq;rw [cZ hlt,h1]
  rw [gF hq]
 refine ⟨e.born,ps,{w with heap:=w.heap.setIfInBounds b (.map es c)},?_,⟨es,c,cZ hlt,h2,h3,j,e,he,rfl,hm⟩,λ_=>rfl,rfl,hg _,by simp,bA _⟩;simp [Instr.mapEntry,run_underlying ht,MapKept.run_getObj_map h1,K.Pu,K.fk,hb,ha,Result.andThen,hej,hek,Instr.keyThatStays,Kc,MapKept.run_setObj_map _ h1,hmid,goInt]
theorem Au{w b ps k born}(h:GZ w b ps k born)(v):
  ∃w',(Instr.entryStore t (.map (some b)) (.int .i64 born) v).run P w= .ok () w'/\rN w' b (lH ps k v)/\w.grownBy w' (some b)/\w'.heap.size=w.heap.size/\w.drawn<=w'.drawn:=by
 obtain ⟨es,c,h1,h2,h3,j,e,he,hb,hm⟩:=h;have hlt:b<w.heap.size:=(fV.1 h1).1;have hg: ∀o:Obj,w.grownBy {w with heap:=w.heap.setIfInBounds b o} (some b):=λo=>⟨rfl,rfl,rfl,by simp,λi _ hi=>by
  have hne:b≠i:=λe=>hi (by rw [e]);exact gF hne⟩
 have hj:j<es.size:=by
  have:=(ai.1 he).1;simpa using this
 have hje:es[j]=e:=by
  have:=(ai.1 he).2;simpa using this
 have hfind:es.findIdx? (λx=>(x.born:Int)==born)=some j:=by
  rw [Array.findIdx?_eq_some_iff_getElem];refine ⟨hj,by rw [hje,hb];simp,λi hi=>?_⟩;have hij:i<es.size:=by omega
  have:=bJ.1 h3.K2 i j (by simpa using hij) (by simpa using hj) hi;simp only [Array.getElem_toList] at this;rw [hje] at this;have hne:(es[i].born:Int)≠born:=by rw [<-hb];omega
  simp [hne]
 refine ⟨{w with heap:=w.heap.setIfInBounds b (.map (es.modify j λe=>{e with val:=v}) c)},?_,⟨_,_,cZ hlt,by simpa using hm v,by simpa using h3.modify (j:=j) (g:=λe=>{e with val:=v}) (λ_=>rfl)⟩,hg _,by simp,bA _⟩;simp [Instr.entryStore,MapKept.run_getObj_map h1,asInt,asIntOf,hfind,MapKept.run_setObj_map _ h1,Result.andThen]
end
section
variable {c:Cx} {w0:World} {L:List Item} {f:Fr} {K:List Item->Fr->Prop} {d:Nat} {ty:TypeId} {pos:String} {af:Array Edge} {g:Bool} {x y z:Operand} {t kt et:TypeId}
theorem tS (hd:Nat.blt d c.N=true) (next: ∀b,K (mT b []::L) (kV f d (.map (some b)))):vO c w0 L f ⟨some d, .makeMap t none,ty,pos,af,none⟩ K:=
 ⟨rfl,rfl,hd,λw hw=>by
  have:(execOp (ev f) ⟨some d, .makeMap t none,ty,pos,af,none⟩).run c.P w= .ok (.value (.map (some w.heap.size))) (w.alloc (.map #[] 0)):=by simp [execOp,run_makeMap,Result.andThen]
  rw [this]
  exact ⟨_,hw.new _ (mT w.heap.size []) (λ_ h=>h) ⟨#[],0,(MapKept.heap_alloc w _).1, .nil,⟨by simp,by simp⟩⟩,rfl,next _⟩⟩
theorem vE(k:Nat){b ps key v u}(hK:sh c.P kt)(ht:c.P.underlying t=some (.map kt et))(hz: ∀w,(zeroValue et).run c.P w= .ok v w)(hx:gH g f x (.map (some b)))(hy:gH g f y (kv key))(hk:L[k]?=some (mT b ps))(hu:g=true->(gT ps key).getD v=u):gj g c w0 L f (.lookup t x y false) ty u:=λe _ _ _ _ w hw=>by
 have hA:rN w b ps:=hw.item hk
 simp [execOp,hx e,hy e,p9 hK ht hz hA key,Result.andThen,hu e]
theorem xT(k:Nat){b ps key kk born v u}(hK:sh c.P kt)(ht:c.P.underlying t=some (.map kt et))(hz: ∀w,(zeroValue et).run c.P w= .ok v w)(hx:gH g f x (.map (some b)))(hy:gH g f y (kv key))(hk:L[k]?=some (I5 b ps kk born))(hu:g=true->(gT ps key).getD v=u):gj g c w0 L f (.lookup t x y false) ty u:=λe _ _ _ _ w hw=>by
 obtain ⟨es,cl,h1,h2,h3,_⟩:GZ w b ps kk born:=hw.item hk
 simp [execOp,hx e,hy e,p9 hK ht hz ⟨es,cl,h1,h2,h3⟩ key,Result.andThen,hu e]
theorem xQ(k){b ps key v}(hK:sh c.P kt)(ht:c.P.underlying t=some (.map kt et))(hz: ∀w,(zeroValue et).run c.P w= .ok v w)(hx:ev f x= .map (some b))(hy:ev f y=kv key)(hk:L[k]?=some (mT b ps))(hd:Nat.blt d c.N=true)(next: ∀(born:Int) (ps':List ((Int×Int)×Value)),(∀v,lH ps' key v=lH ps key v)->(gT ps' key).getD v=(gT ps key).getD v->K (L.set k (I5 b ps' key born)) (kV f d (.tuple #[(gT ps key).getD v, .int .i64 born]))):
  vO c w0 L f ⟨some d, .mapEntry t x y,ty,pos,af,none⟩ K:=
 ⟨rfl,rfl,hd,λw hw=>by
  have hA:rN w b ps:=hw.item hk;obtain ⟨born,ps',w',hrun,h1,hps,hpz,h2,h3,h4⟩:=Bt hK ht hz hA key;have:(execOp (ev f) ⟨some d, .mapEntry t x y,ty,pos,af,none⟩).run c.P w= .ok (.value (.tuple #[(gT ps key).getD v, .int .i64 born])) w':=by simp [execOp,hx,hy,hrun,Result.andThen]
  rw [this];refine ⟨_,hw.set (it':=I5 b ps' key born) hk (λ_ h=>h) h1 ⟨h2.os,h2.tape,h2.output,h3,h4⟩ (λb' hb'=>?_),hG hk rfl,next born ps' hps hpz⟩;by_cases hlt:b'<w.heap.size
  ·exact h2.block b' hlt (λe=>hb' (by injection e))
  rw [dC (by omega),dC (by omega)]⟩
theorem xP(k){b ps ps0 key born v}(hx:ev f x= .map (some b))(hy:ev f y= .int .i64 born)(hz:ev f z=v)(hk:L[k]?=some (I5 b ps key born))(hps: ∀v,lH ps key v=lH ps0 key v)(next:K (L.set k (mT b (lH ps0 key v))) f):
  vO c w0 L f ⟨none, .entryStore t x y z,ty,pos,af,none⟩ K:=
 ⟨rfl,rfl,rfl,λw hw=>by
  have hA:GZ w b ps key born:=hw.item hk;obtain ⟨w',hrun,h1,h2,h3,h4⟩:=Au (P:=c.P) (t:=t) hA v;have:(execOp (ev f) ⟨none, .entryStore t x y z,ty,pos,af,none⟩).run c.P w= .ok .skip w':=by simp [execOp,hx,hy,hz,hrun,Result.andThen]
  rw [this];rw [hps] at h1;refine ⟨_,hw.set (it':=mT b (lH ps0 key v)) hk (λ_ h=>h) h1 ⟨h2.os,h2.tape,h2.output,h3,h4⟩ (λb' hb'=>?_),hG hk rfl,next⟩;by_cases hlt:b'<w.heap.size
  ·exact h2.block b' hlt (λe=>hb' (by injection e))
  rw [dC (by omega),dC (by omega)]⟩
end
end Go.Proofs.E
namespace Go.Proofs.Far
open Go Go.Proofs.E
def rL (l:List AB) (used:List (Int×Int)) (q:Rq) (k:Nat):Bool:=og (l.getD k default) q&&decide ((sU used k q.day:Int)<(l.getD k default).tJ)
theorem Dd{l used q}(h: ∀k,k<l.length->rL l used q k=false):rZ l used q= -1:=by
 grind [rL,rZ]
theorem OT{l used q j}(hj:j<l.length)(h:rL l used q j=true)(hb: ∀k,k<j->rL l used q k=false):rZ l used q=j:=by
 unfold rZ;have:(List.range l.length).find? (λk=>og (l.getD k default) q&&decide ((sU used k q.day:Int)<(l.getD k default).tJ))=some j:=by
  rw [UQ]
  grind [rL,rZ]
 rw [this]
def tP (l:List AB) (q:Rq):Int:=match (List.range l.length).find? λk=>og (l.getD k default) q with|some k=>(k:Int)|none=> -1
theorem EC(l q):(tP l q= -1/\ ∀k,k<l.length->og (l.getD k default) q=false)\/ ∃j,j<l.length/\tP l q=(j:Int)/\ ∀k,k<j->og (l.getD k default) q=false:=by
 unfold tP;cases h:(List.range l.length).find? λk=>og (l.getD k default) q with
 |none=>
  grind
 |some j=>
  right;rw [UQ] at h;refine ⟨j,kg.1 h.2.1,rfl,λk hk=>?_⟩;simpa using h.2.2 k hk
theorem xW{l used q k}(h:og (l.getD k default) q=false):rL l used q k=false:=by
 unfold rL;rw [h];rfl
theorem Dl(ps k k' v):gT (lH ps k v) k'=if k=k' then some v else gT ps k':=by
 induction ps with
 |nil=>
  grind [gT,lH]
 |cons p ps ih=>
  by_cases hp:p.1=k
  ·by_cases h:k=k'
   ·simp [lH,gT,hp,h]
   grind [gT,lH]
  have h0:(p.1==k)=false:=gk.2 hp
  simp only [lH,h0,oR,sB]
  by_cases h3:p.1=k'
  ·have h4: ¬k=k':=λh=>hp (by rw [h3,h])
   simp [gT,h3,h4]
  have h5:(p.1==k')=false:=gk.2 h3
  simp only [gT,sE,h5] at ih|-
  exact ih
def MP (ps:List ((Int×Int)×Value)) (used:List (Int×Int)):Prop:= ∀k d:Int,(gT ps (k,d)).getD (.int .i64 0)= .int .i64 (sU used k d:Nat)
theorem MP.nil:MP [] []:=λ_ _=>rfl
theorem MP.put{ps used}(h:MP ps used)(k d):MP (lH ps (k,d) (.int .i64 ((sU used k d:Nat)+1))) (used++[(k,d)]):=λa b=>by
 grind [MP,lH,sU,Dl]
theorem ME(used k d):sU used k d<=used.length:=List.countP_le_length
theorem Fb: ∀(l:List AB) (qs:List Rq) (s:List Int×List (Int×Int)),(qs.foldl (kZ l) s).2.length<=s.2.length+qs.length
 |_,[],s=>by simp
 |l,q::qs,s=>by
  rw [eh]
  have h1:=Fb l qs (kZ l s q)
  grind [kZ]
def US (l:List AB) (qs:List Rq) (k:Nat):List Int×List (Int×Int):=Bh l (qs.take k)
theorem JD{l qs k q}(h:qs[k]?=some q):US l qs (k+1)=kZ l (US l qs k) q:=by
 unfold US Bh
 rw [iC,h,fX];rfl
theorem ER{l qs k}(h:k<=qs.length):(US l qs k).1.length=k:=by
 grind [US,Bh,kZ,Bg]
theorem R6(l qs k):(US l qs k).2.length<=k:=by
 grind [US,Bh,kZ,Fb]
def OU (l:List AB) (qs:List Rq) (k:Nat):List Int:=(US l qs k).1++List.replicate (qs.length -k) 0
theorem R'{l qs k}(h:k<=qs.length):(OU l qs k).length=qs.length:=by
 grind [OU,ER]
theorem Sa{l qs k}(h:k<qs.length):(OU l qs k)[k]?=some 0:=by
 grind [OU,ER]
theorem R9{l qs k q}(h:k<qs.length)(hq:qs[k]?=some q):(OU l qs k).set k (rZ l (US l qs k).2 q)=OU l qs (k+1):=by
 unfold OU
 rw [JD hq,mn _ _ (by rw [ER (by omega)];exact bA _),ER (by omega),jG]
 obtain ⟨m,hm⟩: ∃m,qs.length -k=m+1:=⟨qs.length -k -1,by omega⟩
 rw [hm,nW,zG,show qs.length -(k+1)=m by omega]
 unfold kZ
 simp
theorem xm{l:List Int}{k}(a b):(l.set k a).set k b=l.set k b:=by rw [gV]
open Go Go.RowKit Go.Proofs.E Go.Proofs.Cus Go.Proofs.Rid
structure Good (rs:List Rd):Prop where
 ok: ∀r∈rs,eF r=0
 ids:jk [] (rs.map (·.id))=false
 TC:rs.length<=256
theorem MM{r}(h:eF r=0):r.db.length<=1000000/\r.bV.length<=1000000:=by
 have:=im h
 omega
theorem HM(A n c ps B m d rs w)(hp:zB w A n ps)(hr:lZ w B m rs)(hpe:k8 ps=0)(hg:Good (rs.map (·.r))):Calls Tryz.prog 195 #[.slice A n c, .slice B m d] w λe w'=>e= .returned (.int .i64 0)/\fM w w':=by
 have hl:=hr.1.1;have hn:=hr.1.2.1;have hfew:=hg.TC;rw [aS] at hfew;refine HF Tryz.func195 Tryz.ntmps195 ?_;refine jx (en Tryz.call55 (iQ (q0 rfl))) (λ_ w hw=>FL A n c ps w (hp.mem hw)) ?_;rw [hpe];refine GD ?_ ?_<;>intro h1
 ·exfalso;simp at h1
 refine GD ?_ ?_<;>intro h2
 ·exfalso;simp at h2;omega
 refine GX ?_;refine la ([4,7,8]++rg 22 10) (λk:Nat=>[(22, .int .i64 k)]) (λ_=>[]) (λk=>k<=m) (λk=>m -k) 0 (bj _) ?_;rintro k g hk;refine GD ?_ ?_<;>intro hlt
 ·have hlt':k<m:=by simpa using hlt
  obtain ⟨b,off,x,rfl,hbl,hxk,hrx⟩:=hr.1.at_ hlt';have hxm:=aq hxk;have hc:eF x.r=0:=hg.ok x.r (cW.2 ⟨x,hxm,rfl⟩);refine GX ?_;refine bS dp rfl λb7=>dN (v:= .agg _) rfl rfl ba ?_;refine GX ?_;refine jx (en Sz (iQ (q0 rfl))) (λ_ w hw=>xB x w ((hr.2 x hxm).mem hw) (MM hc).1 (MM hc).2) ?_;rw [hc];refine GD ?_ ?_<;>intro h3
  ·exfalso;simp at h3
  refine GX ?_;exact nc (k+1) (λw hw=>hw.tail) (by show k+1<=m;omega)
 obtain ⟨ids,hids⟩: ∃ids:List Int,ids=(rs.map (·.r)).map (·.id):=⟨_,rfl⟩;have hidl:ids.length=m:=by rw [hids,aS,aS,hl]
 have htw:jk (ids.take 0) (ids.drop 0)=false:=by rw [hids];exact hg.ids
 refine GX ?_;refine vL rfl λbm=>fI (aU (v:= .map _) (q0 rfl)) ?_;refine GX ?_;refine la ([4,11]++rg 35 12) (λk:Nat=>[(35, .int .i64 k)]) (λk=>[oP bm (qq (ids.take k))]) (λk=>k<=m/\jk (ids.take 0) (ids.drop 0)=jk (ids.take k) (ids.drop k)) (λk=>m -k) 0 ⟨bj _,rfl⟩ ?_;rintro k2 g2 ⟨hk2,hp2⟩;refine GD ?_ ?_<;>intro hlt2
 ·have hlt2':k2<m:=by simpa using hlt2
  obtain ⟨b,off,x,rfl,hbl,hxk,hrx⟩:=hr.1.at_ hlt2';have hik:ids[k2]?=some x.r.id:=by rw [hids];simp [hxk]
  refine GX ?_;refine bS dp rfl λb11=>dN (v:= .agg _) rfl rfl ba ?_;refine GX ?_;refine fI (EI 1 iz av ia (q0 rfl) (q0 rfl) rfl (λ_=>wR _ _))<|GD ?_ ?_<;>intro h4
  ·exfalso;rw [htw,CY hik h4] at hp2;cases hp2
  have hst:=Bi hik h4;refine GX ?_;refine ve 1 iz av rfl rfl rfl rfl<|GX ?_;refine aH (k2+1) lg ⟨rfl,trivial⟩ (λw hw=>?_) rfl ⟨by omega,by rw [hp2,hst]⟩ (by show m -(k2+1)<m -k2;omega);have:=hw.tail;rw [oT _ _ _ hik,<-wQ _ _ h4];exact this
 exact GW
def pU (r:Rd):Rq:=⟨r.rider,r.start.lo/86400⟩
theorem Mz(x:RX)(w)(h:eF x.r=0):Calls Tryz.prog 279 #[.agg x.cells.toArray] w λe w'=>e= .returned (.int .i64 (x.r.start.lo/86400))/\fM w w':=by
 have hs:=sN.1 (im h).1;refine HF Tryz.func279 Tryz.ntmps279 ?_;refine cd (v:= .agg _) rfl rfl λb1=>GX ?_;refine fI (wD (q0 rfl) (q0 rfl) (λ_=>⟨by omega,by omega,by omega⟩)) ?_;exact GW
theorem FG(p:AB)(d w):Calls Tryz.prog 278 #[.agg p.cells.toArray, .int .i64 d] w λe w'=>e= .returned (.bool (decide (p.from_<=d)&&decide (d<p.jT)))/\fM w w':=by
 refine HF Tryz.func278 Tryz.ntmps278 ?_;refine cd (v:= .agg _) rfl rfl λb2=>?_;exact GW
theorem QO(p)(x:RX)(b w)(hb:jS w b 0 x.cells)(hbl:b<w.heap.size)(h:eF x.r=0):Calls Tryz.prog 277 #[.agg p.cells.toArray, .pointer (some ⟨b,0,none⟩)] w λe w'=>e= .returned (.bool (og p (pU x.r)))/\fM w w':=by
 refine HF Tryz.func277 Tryz.ntmps277 ?_;refine cd (v:= .agg _) rfl rfl λb2=>GX ?_;refine vS<|GX ?_;refine Hg (en Tryz.call279 (iQ (q1 (v:= .agg _) rfl))) (λ_ w _=>Mz x w h) rfl rfl rfl rfl<|Hg (en Tryz.call278 (jn (q1 (v:= .agg _) rfl) (q1 (v:= .int _ _) rfl))) (λ_ w _=>FG p (x.r.start.lo/86400) w) rfl rfl rfl rfl ?_;exact GW
theorem My(A n c ps)(x:RX)(b w)(hx:zB w A n ps)(hb:jS w b 0 x.cells)(hbl:b<w.heap.size)(h:eF x.r=0):Calls Tryz.prog 276 #[.slice A n c, .func (.func 277) #[] #[.pointer (some ⟨b,0,none⟩)]] w λe w'=>e= .returned (.int .i64 (tP ps (pU x.r)))/\fM w w':=by
 have hl:=hx.1;have hn:=hx.2.1;refine HF Tryz.func276 Tryz.ntmps276 ?_;refine la ([4,5]++rg 8 11) (λk:Nat=>[(8, .int .i64 k)]) (λ_=>[]) (λk=>k<=n/\(List.range k).find? (λk=>og (ps.getD k default) (pU x.r))=none) (λk=>n -k) 0 ⟨bj _,rfl⟩ ?_;rintro k g ⟨hk,hall⟩;refine GD ?_ ?_<;>intro hlt
 ·have hlt':k<n:=by simpa using hlt
  obtain ⟨pb,off,p,rfl,hpbl,hpk,hrp⟩:=hx.at_ hlt';have hpd:ps.getD k default=p:=by rw [ar,hpk];rfl
  refine GX ?_;refine jx (vU (cap:=[.pointer (some ⟨b,0,none⟩)]) (al:=[.agg p.cells.toArray, .pointer (some ⟨b,0,none⟩)]) Tryz.call277 (q0 rfl) (λhg=>by rw [iQ (q0 (v:= .agg _) rfl) hg];rfl)) (λ_ w hw=>QO p x b w (λj u hu=>EY hb hbl rfl w hw j u hu) (fZ hbl hw.1.size) h)<|GD ?_ ?_<;>intro hv
  ·have hv':og p (pU x.r)=true:=hv;have hf:(List.range n).find? (λk=>og (ps.getD k default) (pU x.r))=some k:=by
    obtain ⟨j,rfl⟩: ∃j,n=k+1+j:=⟨n -(k+1),by omega⟩;rw [List.range_add,pP,jj,jj,hall];simp [hpk,hv']
   rw [show tP ps (pU x.r)=(k:Int) by unfold tP;rw [hl,hf]];exact GW
  have hv':og p (pU x.r)=false:=hv;refine GX ?_;exact na (k+1) ⟨by omega,by rw [pP,jj,hall];simp [hpk,hv']⟩
 have hend:k=n:=by simp at hlt;omega
 subst hend;rw [show tP ps (pU x.r)= -1 by unfold tP;rw [hl,hall]];exact GW
theorem Tr {fs:Array Field} (h:Tryz.prog.underlying 392=some (.struct fs):=by exact vY):df Tryz.prog fs [(0,1),(1,1)]:=by
 rw [vY] at h
 cases h
 intro w
 kernel_rfl
theorem HZ:sh Tryz.prog 392:=sh.struct vY (by kernel_rfl) ⟨by decide,rfl,aj,⟨_,av⟩,by decide,rfl,aj,⟨_,av⟩,trivial⟩ rfl
def Le (n k:Nat):List Int:=Dm k++List.replicate (n -k) 0
theorem MJ(n):Le n 0=List.replicate n 0:=rfl
theorem MK(n):Le n n=Dm n:=by unfold Le;simp
theorem MT(k):Dm (k+1)=Dm k++[(k:Int)]:=by unfold Dm;rw [pP,eY];rfl
theorem O0{n k}(h:k<=n):(Le n k).length=n:=by unfold Le;rw [aQ,xH,pQ];omega
theorem O1{n k}(h:k<n):(Le n k)[k]?=some 0:=by
 unfold Le
 rw [fu (by rw [xH];exact bA _),xH,jG,jz,aB (by omega)]
theorem OZ{n k}(h:k<n):(Le n k).set k (k:Int)=Le n (k+1):=by
 unfold Le
 rw [mn _ _ (by rw [xH];exact bA _),xH,jG]
 obtain ⟨m,hm⟩: ∃m,n -k=m+1:=⟨n -k -1,by omega⟩
 rw [hm,nW,zG,show n -(k+1)=m by omega,MT]
 simp
attribute [local irreducible] Le OU US
theorem Rf(A n c l B m d rs w)(hp:zB w A n l)(hr:lZ w B m rs)(hpe:k8 l=0)(hg:Good (rs.map (·.r)))(hs:rs.Pairwise λx y=>ig x.r y.r=true):
  Calls Tryz.prog 196 #[.slice A n c, .slice B m d] w λe w'=> ∃z:Nat,e= .returned (.slice (some ⟨z,0,none⟩) m m)/\Mem w [eO (some ⟨z,0,none⟩) m (Bh l (rs.map λx=>pU x.r)).1] w':=by
 have hpl:=hp.1;have hl:=hr.1.1;have hfew:=hg.TC;rw [aS] at hfew;have hn64:n<=64:=by
  unfold k8 at hpe;split at hpe
  ·cases hpe
  omega
 obtain ⟨qs,hqs⟩: ∃qs:List Rq,qs=rs.map λx=>pU x.r:=⟨_,rfl⟩;have hql:qs.length=m:=by rw [hqs,aS,hl]
 rw [<-hqs];refine HF Tryz.func196 Tryz.ntmps196 ?_;refine cd (v:= .slice _ _ _) rfl rfl λb3=>GX ?_;refine cQ (kz (i:=Tryz.t3) (k:=1) (n:=m) (m:=m) eQ (0:Int) aA (by kernel_rfl) rfl rfl rfl rfl rfl ⟨⟨bA _,by omega⟩,by decide⟩ rfl λb16=>?_);refine GX ?_;refine lb (6::rg 19 8) (λk:Nat=>[(19, .int .i64 k)]) (λk=>[eO (some ⟨b16,0,none⟩) m (Le m k),box b3 45 [.slice B m d]]) (λk=>k<=m) (λk=>m -k) 0 (λw hw=>by rw [MJ];exact hw) (bj _) ?_;rintro k g hk;refine GD ?_ ?_<;>intro hlt
 ·have hlt':k<m:=by
   have h:(k:Int)<(((List.replicate m (0:Int)).length:Nat):Int):=by first|exact cC hlt|(simp at hlt|-;omega)
   simp at h;omega
  have hget:=O1 hlt';have hml:=O0 (n:=m) hk;refine GX ?_;refine cQ (eR 0 (k:=1) (enc:=eQ) (k:Int) rfl rfl ae rfl rfl rfl hget rfl rfl ?_);refine GX ?_;exact nc (k+1) (λw hw=>by rw [<-OZ hlt'];exact hw) (by show k+1<=m;omega)
 have hend:k=m:=by
  have h: ¬(k:Int)<(m:Int):=by first|exact dB hlt|(simp at hlt|-;omega)
  omega
 subst hend;rw [MK];refine GX ?_;refine xV AA rfl rfl<|cQ (dD (en Tryz.call274 (jn (q0 rfl) (q0 rfl))) (λw hw=>Mc hw (j:=0) (q:=1) rfl rfl (by decide) hr hs (by omega)) rfl (λ_=>rfl) λu=>?_);refine GX ?_;refine cQ (kz (i:=Tryz.t3) (k:=1) (n:=k) (m:=k) eQ (0:Int) aA (by kernel_rfl) rfl rfl rfl rfl rfl ⟨⟨bA _,by omega⟩,by decide⟩ rfl λb32=>?_);refine cQ (tS rfl λmb=>?_);refine GX ?_;refine lb (rg 10 4++rg 36 79) (λq:Nat×List ((Int×Int)×Value)=>[(36, .int .i64 q.1)]) (λq=>[mT mb q.2,eO (some ⟨b32,0,none⟩) k (OU l qs q.1),eO (some ⟨b16,0,none⟩) k (Dm k),box b3 45 [.slice B k d]]) (λq=>q.1<=k/\MP q.2 (US l qs q.1).2) (λq=>k -q.1) (0,[]) (λw hw=>by unfold OU US;rw [hql];exact hw) ⟨bj _,by unfold US;exact MP.nil⟩ ?_;rintro ⟨i,mps⟩ g2 ⟨hi,hMP⟩;simp only at hi hMP;refine GD ?_ ?_<;>intro hlt2
 ·have hlt2':i<k:=by
   have h:(i:Int)<(k:Int):=by first|exact cC hlt2|(simp at hlt2|-;omega)
   omega
  obtain ⟨rb,off,x,rfl,hrbl,hxi,hrx⟩:=hr.1.at_ hlt2';have hxm:=aq hxi;have hc:eF x.r=0:=hg.ok x.r (cW.2 ⟨x,hxm,rfl⟩);have hqi:qs[i]?=some (pU x.r):=by rw [hqs];simp [hxi]
  have hidg:=Pb hlt2';have hog:=Sa (l:=l) (qs:=qs) (k:=i) (by omega);have hol:=R' (l:=l) (qs:=qs) (k:=i) (by omega);have hset:=R9 (l:=l) (k:=i) (by omega) hqi;have hsucc:=JD (l:=l) hqi;have hus:=R6 l qs i;obtain ⟨fv,hfv⟩: ∃fv,fv=tP l (pU x.r):=⟨_,rfl⟩;have hcs:=EC l (pU x.r);rw [<-hfv] at hcs;refine GX ?_;refine bS dp rfl λb11=>dN (v:= .agg _) rfl rfl ba ?_;refine GX ?_;refine xV AA rfl rfl<|jx (v:= .int .i64 fv) (en (al:=[.slice A n c, .func (.func 277) #[] #[.pointer (some ⟨b11,0,none⟩)]]) Tryz.call276 (jn (q0 (v:= .slice _ _ _) rfl) (q0 rfl))) (λ_ w hw=>by rw [hfv];exact My A n c l x b11 w (hp.mem hw) (λj u hu=>by rw [fq];exact jR hw (k:=0) rfl hu) (hw.nE (k:=0) rfl rfl).2 hc)<|fI (cx i aA ae (q0 rfl) (q0 rfl) (λ_=>⟨rfl,by first|exact hlt2'|(simp;omega)⟩))<|cQ (eR 2 (k:=1) (enc:=eQ) fv rfl rfl ae rfl rfl rfl hog rfl rfl ?_);refine GX ?_;refine fI (gB (v:= .int .i64 fv) aj (q0 rfl) (by exact rQ 2 (k:=1) (enc:=eQ) rfl (oL (by first|omega|(simp only;omega))) rfl)) ?_;iterate 3 refine G0 ?_
  refine ke ([12,13]++rg 54 60) (λ_:List ((Int×Int)×Value)=>[]) (λps=>[box b11 78 x.cells,mT mb ps,eO (some ⟨b32,0,none⟩) k (OU l qs (i+1)),eO (some ⟨b16,0,none⟩) k (Dm k),box b3 45 [.slice (some ⟨rb,off,none⟩) k d]]) (λps=>MP ps (US l qs (i+1)).2) ?_ ?_
  ·refine G0 ?_;refine ef ([12,13]++rg 54 60) (λv:Int=>[(12, .int .i64 v)]) (λv=>[box b11 78 x.cells,mT mb mps,eO (some ⟨b32,0,none⟩) k ((OU l qs i).set i (if v=(n:Int) then -1 else fv)),eO (some ⟨b16,0,none⟩) k (Dm k),box b3 45 [.slice (some ⟨rb,off,none⟩) k d]]) (λv=>(v= -1/\fv= -1/\ ∀j,j<l.length->rL l (US l qs i).2 (pU x.r) j=false)\/ ∃j:Nat,v=(j:Int)/\j<=n/\ ∀j',j'<j->rL l (US l qs i).2 (pU x.r) j'=false) (λv=>n -v.toNat) fv ⟨rfl,trivial⟩ (λw hw=>by
    have hne: ¬fv=(n:Int):=by rcases hcs with ⟨h,_⟩|⟨j,hj,h,_⟩<;>omega
    rw [an hne];exact hw) rfl (by
    rcases hcs with ⟨h,hh⟩|⟨j,hj,h,hh⟩
    ·exact .inl ⟨h,h,λq hq=>xW (hh q hq)⟩
    exact .inr ⟨j,h,by omega,λq hq=>xW (hh q hq)⟩) ?_
   rintro v g3 hv;iterate 13 refine G0 ?_
   refine bD rfl ?_ ?_<;>intro h3
   ·have h3':0<=v/\v<n:=by
     have h:(decide ((0:Int)<=v)&&decide (v<(n:Int)))=true:=h3;simpa using h
    obtain ⟨j,rfl,hjn,hjb⟩: ∃j:Nat,v=(j:Int)/\j<=n/\ ∀j',j'<j->rL l (US l qs i).2 (pU x.r) j'=false:=by
     rcases hv with ⟨h,_⟩|h
     ·omega
     exact h
    have hjn':j<n:=by omega
    rw [an (by omega)];obtain ⟨pb,poff,p,rfl,hpbl,hpj,hrp⟩:=hp.at_ hjn';have hpd:l.getD j default=p:=by rw [ar,hpj];rfl
    have hlk:=hMP j (x.r.start.lo/86400);have hcond:rL l (US l qs i).2 (pU x.r) j=((decide (p.rider=x.r.rider)&&(decide (p.from_<=x.r.start.lo/86400)&&decide (x.r.start.lo/86400<p.jT)))&&decide (((sU (US l qs i).2 j (x.r.start.lo/86400):Nat):Int)<p.tJ)):=by
     unfold rL;rw [hpd];rfl
    have hpn:=ME (US l qs i).2 j (x.r.start.lo/86400);iterate 8 refine G0 ?_
    refine jx (en Tryz.call279 (iQ (q0 rfl))) (λ_ w _=>Mz x w hc)<|fI (bN vY Tr Tryz.zeroValue392 (pt (v:= .int _ _) rfl (pt (v:= .int _ _) rfl E.p0)) rfl) ?_;refine bS Tryz.zeroValue392 rfl λb13=>dN (v:= .agg _) rfl rfl Tryz.sizeOf392 ?_;iterate 4 refine G0 ?_
    refine vS ?_;iterate 2 refine G0 ?_
    refine fI (cx j oI pK (q0 rfl) (q0 rfl) (λ_=>⟨rfl,hjn'⟩)) ?_;refine G0 ?_;refine fI (gB (v:= .int .i64 p.rider) aj (q0 rfl) (by exact rc (j:=1) hrp hpbl rfl)) ?_;iterate 6 refine G0 ?_
    refine xh (cx j oI pK (q1 rfl) (q1 rfl) (λ_=>⟨rfl,hjn'⟩)) rfl rfl ?_;refine xh (iV (vs:=p.cells) Tryz.isAgg262 pK (q1 rfl) (EY hrp hpbl) rfl) rfl rfl ?_;iterate 2 refine G0 ?_
    refine Hg (en Tryz.call278 (jn (q1 (v:= .agg _) rfl) (q1 (v:= .int _ _) rfl))) (λ_ w _=>FG p (x.r.start.lo/86400) w) rfl rfl rfl rfl ?_;iterate 2 refine G0 ?_
    refine xh (ay (v:= .map _) (q0 rfl)) rfl rfl ?_;refine G0 ?_;refine xh (vE (key:=((j:Int),x.r.start.lo/86400)) 2 HZ ll bw (q1 rfl) (q1 rfl) rfl (λ_=>hlk)) rfl rfl ?_;iterate 2 refine G0 ?_
    refine xh (cx j oI pK (q1 rfl) (q1 rfl) (λ_=>⟨rfl,hjn'⟩)) rfl rfl ?_;refine G0 ?_;refine xh (gB (v:= .int .i64 p.tJ) aj (q1 rfl) (by exact rc (j:=4) hrp hpbl rfl)) rfl rfl ?_;iterate 4 refine G0 ?_
    refine bD rfl ?_ ?_<;>intro h4
    ·have h4':rL l (US l qs i).2 (pU x.r) j=true:=by rw [hcond];exact h4
     have hpick:=OT (by omega) h4' hjb;refine G0 ?_;refine jb (L':=[mT mb mps,box b13 392 [.int .i64 j, .int .i64 (x.r.start.lo/86400)],box b11 78 x.cells,eO (some ⟨b32,0,none⟩) k ((OU l qs i).set i fv),eO (some ⟨b16,0,none⟩) k (Dm k),box b3 45 [.slice (some ⟨rb,off,none⟩) k d]]) (λw hw=>hw.pick [2,0,1,3,4,5] (by decide)) rfl<|ke (rg 96 6) (λ_:Unit=>[]) (λ_=>[mT mb (lH mps ((j:Int),x.r.start.lo/86400) (.int .i64 (((sU (US l qs i).2 j (x.r.start.lo/86400):Nat):Int)+1))),box b13 392 [.int .i64 j, .int .i64 (x.r.start.lo/86400)],box b11 78 x.cells,eO (some ⟨b32,0,none⟩) k ((OU l qs i).set i fv),eO (some ⟨b16,0,none⟩) k (Dm k),box b3 45 [.slice (some ⟨rb,off,none⟩) k d]]) (λ_=>True) ?_ ?_
     ·refine JQ 1 ?_;refine mG 0 rfl (ay (v:= .map _) (q0 rfl))<|aW 1 ?_;refine lS (i:=2) (j:=4) (by decide+kernel) (au 1) ?_ ?_
      ·(first|refine aL rfl (kA (vE (key:=((j:Int),x.r.start.lo/86400)) 0 HZ ll bw (q0 rfl) (q0 rfl) rfl (λ_=>hlk)) rfl rfl ?_)|refine aL rfl (kA (xT (key:=((j:Int),x.r.start.lo/86400)) 0 HZ ll bw (q0 rfl) (q0 rfl) rfl (λ_=>(hpz.trans hlk))) rfl rfl ?_))
       refine mG 3 rfl (eT (r:=((sU (US l qs i).2 j (x.r.start.lo/86400):Nat):Int)+1) (q0 rfl) (q0 rfl) (λ_=>⟨rfl,by omega,by omega⟩))<|r1 4 1 ?_;refine aL rfl (xQ (key:=((j:Int),x.r.start.lo/86400)) 0 HZ ll bw rfl rfl rfl rfl λborn ps' hps hpz=>?_);refine aW 5 ?_;refine r1 6 1 ?_;refine aL rfl (xP 0 rfl rfl rfl rfl hps ?_);refine qE 1 ?_;exact aO () lg trivial (λw hw=>hw) rfl trivial
      refine aL rfl (xQ (key:=((j:Int),x.r.start.lo/86400)) 0 HZ ll bw rfl rfl rfl rfl λborn ps' hps hpz=>?_);refine aW 5 ?_;refine r1 2 1 ?_
      (first|refine aL rfl (kA (vE (key:=((j:Int),x.r.start.lo/86400)) 0 HZ ll bw (q0 rfl) (q0 rfl) rfl (λ_=>hlk)) rfl rfl ?_)|refine aL rfl (kA (xT (key:=((j:Int),x.r.start.lo/86400)) 0 HZ ll bw (q0 rfl) (q0 rfl) rfl (λ_=>(hpz.trans hlk))) rfl rfl ?_))
      refine mG 3 rfl (eT (r:=((sU (US l qs i).2 j (x.r.start.lo/86400):Nat):Int)+1) (q0 rfl) (q0 rfl) (λ_=>⟨rfl,by omega,by omega⟩))<|r1 6 1 ?_;refine aL rfl (xP 0 rfl rfl rfl rfl hps ?_);refine qE 1 ?_;exact aO () lg trivial (λw hw=>hw) rfl trivial
     intro _ g5 _;iterate 6 refine G0 ?_
     refine fI (cx i aA ae (q0 rfl) (q0 rfl) (λ_=>⟨rfl,by first|exact hlt2'|(simp;omega)⟩)) ?_;refine cQ (eR 3 (k:=1) (enc:=eQ) (j:Int) rfl rfl ae rfl rfl rfl (oL (by omega)) rfl rfl ?_);iterate 8 refine G0 ?_
     obtain ⟨ps2,hps2⟩: ∃ps2,ps2=lH mps ((j:Int),x.r.start.lo/86400) (.int .i64 (((sU (US l qs i).2 j (x.r.start.lo/86400):Nat):Int)+1)):=⟨_,rfl⟩;rw [<-hps2];refine aO ps2 lg trivial (λw hw=>?_) rfl ?_
     ·have h6:=hw.pick [2,0,3,4,5] (by decide);rw [hpick] at hset;rw [<-hset,<-xm fv];exact h6
     rw [hsucc];unfold kZ;rw [hpick,aB (by omega),hps2];exact hMP.put _ _
    have h4':rL l (US l qs i).2 (pU x.r) j=false:=by rw [hcond];exact h4
    have hinv: ∀j',j'<j+1->rL l (US l qs i).2 (pU x.r) j'=false:=λj' hj'=>by
     rcases Nat.lt_succ_iff_lt_or_eq.1 hj' with h|h
     ·exact hjb j' h
     rw [h];exact h4'
    refine GD ?_ ?_<;>intro h5
    ·have h5':j+1=n:=by
      have h:((j:Nat):Int)=((n:Nat):Int) -1:=cC h5;omega
     refine GX ?_;refine cQ (eR 3 (k:=1) (enc:=eQ) (-1) rfl rfl ae rfl rfl rfl (oL (by omega)) rfl rfl ?_);refine GX ?_;refine aH (((j+1:Nat):Int)) lg ⟨rfl,trivial⟩ (λw hw=>?_) rfl (.inr ⟨j+1,rfl,by omega,hinv⟩) (by show n -((j+1:Nat):Int).toNat<n -((j:Nat):Int).toNat;omega);rw [aB (by rw [h5']),<-xm fv];exact hw.tail
    have h5': ¬j+1=n:=by
     have h: ¬((j:Nat):Int)=((n:Nat):Int) -1:=dB h5;omega
    refine GX ?_;refine aH (((j+1:Nat):Int)) lg ⟨rfl,trivial⟩ (λw hw=>?_) rfl (.inr ⟨j+1,rfl,by omega,hinv⟩) (by show n -((j+1:Nat):Int).toNat<n -((j:Nat):Int).toNat;omega);rw [an (by omega)];exact hw.tail
   have hpick:rZ l (US l qs i).2 (pU x.r)= -1/\(if v=(n:Int) then -1 else fv)= -1:=by
    have h3': ¬(0<=v/\v<n):=by
     have h:(decide ((0:Int)<=v)&&decide (v<(n:Int)))=false:=h3;simpa using h
    rcases hv with ⟨h,h5,h6⟩|⟨j,h,h5,h6⟩
    ·exact ⟨Dd h6,by rw [an (by omega)];exact h5⟩
    have:j=n:=by omega
    subst this;exact ⟨Dd λq hq=>h6 q (by omega),by rw [aB h]⟩
   refine GX ?_;refine aO mps lg trivial (λw hw=>?_) rfl ?_
   ·rw [hpick.2] at hw;rw [hpick.1] at hset;rw [<-hset];exact hw
   rw [hsucc];unfold kZ;rw [hpick.1];exact hMP
  rintro ps2 g4 hMP2;refine GX ?_;exact nd (i+1,ps2) (λw hw=>hw.tail) ⟨by simp only;omega,hMP2⟩ (by simp only;omega)
 have hend2:i=k:=by
  have h: ¬(i:Int)<(k:Int):=by first|exact dB hlt2|(simp at hlt2|-;omega)
  omega
 subst hend2;have hfull:OU l qs i=(Bh l qs).1:=by
  unfold OU US;rw [hql,jG,bo (by omega)];simp
 rw [hfull];refine GX ?_;exact cu (v:= .slice _ _ _) rfl rfl rfl λw' hw=>⟨b32,rfl,hw.pick [1] (by decide)⟩
end Go.Proofs.Far
namespace Go.Proofs.Far
open Go Go.Proofs.E
def Pq (limit:Int) (l:List (Dy×Int)) (x:Dy):List (Dy×Int):=l++[(x,sa limit l x)]
def DS (limit:Int) (xs:List Dy) (k:Nat):List (Dy×Int):=(xs.take k).foldl (Pq limit) []
theorem EX{limit xs k x}(h:xs[k]?=some x):DS limit xs (k+1)=DS limit xs k++[(x,sa limit (DS limit xs k) x)]:=by
 unfold DS
 rw [iC,h,fX];rfl
theorem N2(limit xs): ∀k,k<=xs.length->(DS limit xs k).length=k
 |0,_=>rfl
 |k+1,h=>by
  obtain ⟨x,hx⟩: ∃x,xs[k]?=some x:=⟨_,ah (by omega)⟩
  rw [EX hx,aQ,N2 limit xs k (by omega)];rfl
theorem yz(l x p r d):sL (l++[(x,p)]) r d=sL l r d+if x.rider=r/\x.day=d then p else 0:=by
 grind [sL]
structure Qw (limit:Int) (l:List (Dy×Int)):Prop where
 Vj: ∀y∈l,0<=y.2/\y.2<=y.1.fU
 Em:0<limit-> ∀r d,sL l r d<=limit
 sum: ∀r d,0<=sL l r d/\sL l r d<=1000000000000*(l.length:Int)
theorem Qw.nil{limit}(h:0<=limit):Qw limit []:=⟨λy hy=>(by cases hy),λ_ r d=>by unfold sL;simpa using h,λr d=>by unfold sL;simp⟩
theorem BL{limit l}(h:Qw limit l){x}(hx:0<=x.fU/\x.fU<=1000000000000):0<=sa limit l x/\sa limit l x<=x.fU/\(0<limit->sa limit l x<=limit -sL l x.rider x.day):=by
 unfold sa
 by_cases hl:0<limit
 ·rw [aB hl]
  have:=h.Em hl x.rider x.day
  omega
 rw [an hl];omega
theorem Qw.step{limit l}(h:Qw limit l){x}(hx:0<=x.fU/\x.fU<=1000000000000):Qw limit (l++[(x,sa limit l x)]):=by
 obtain ⟨h1,h2,h3⟩:=BL h hx;refine ⟨λy hy=>?_,λhl r d=>?_,λr d=>?_⟩
 ·rcases bO.1 hy with hy|hy
  ·exact h.Vj y hy
  simp at hy;subst hy;exact ⟨h1,h2⟩
 ·rw [yz];split
  ·grind
  have:=h.Em hl r d;omega
 rw [yz,aQ];have:=h.sum r d;simp only [cL,dO];split<;>omega
theorem N1{limit xs}(hl:0<=limit)(hx: ∀x∈xs,0<=x.fU/\x.fU<=1000000000000): ∀k,k<=xs.length->Qw limit (DS limit xs k)
 |0,_=>Qw.nil hl
 |k+1,h=>by
  obtain ⟨x,hxk⟩: ∃x,xs[k]?=some x:=⟨_,ah (by omega)⟩
  rw [EX hxk]
  exact (N1 hl hx k (by omega)).step (hx x (aq hxk))
def DP (ps:List ((Int×Int)×Value)) (l:List (Dy×Int)):Prop:= ∀r d:Int,(gT ps (r,d)).getD (.int .i64 0)= .int .i64 (sL l r d)
theorem DP.nil:DP [] []:=λ_ _=>rfl
theorem DP.put{ps l}(h:DP ps l)(x p):DP (lH ps (x.rider,x.day) (.int .i64 (sL l x.rider x.day+p))) (l++[(x,p)]):=λr d=>by
 grind [DP,lH,sL,Dl,yz]
open Go Go.RowKit Go.Proofs.E Go.Proofs.Cus Go.Proofs.Rid
theorem Rh(A n c l B m d rs w)(hp:zB w A n l)(hr:lZ w B m rs)(hpe:k8 l=0)(hg:Good (rs.map (·.r)))(hs:rs.Pairwise λx y=>ig x.r y.r=true):
  Calls Tryz.prog 119 #[.slice A n c, .slice B m d] w λe w'=> ∃z:Nat,e= .returned (.tuple #[.slice (some ⟨z,0,none⟩) m m, .int .i64 0])/\Mem w [eO (some ⟨z,0,none⟩) m (Bh l (rs.map λx=>pU x.r)).1] w':=by
 refine HF Tryz.func119 Tryz.ntmps119 ?_;refine jx (en Tryz.call195 (jn (q0 rfl) (q0 rfl))) (λ_ w hw=>HM A n c l B m d rs w (hp.mem hw) (hr.mem hw) hpe hg)<|GD ?_ ?_<;>intro h1
 ·exfalso;simp at h1
 refine GX ?_;refine oD (en Tryz.call196 (jn (q0 rfl) (q0 rfl))) (λw hw=>Rf A n c l B m d rs w (hp.mem hw) (hr.mem hw) hpe hg hs) rfl (λ_=>rfl) λz=>GX ?_;exact jr (v:= .slice _ _ _) (x:= .int _ _) rfl rfl rfl rfl λw' hw=>⟨z,rfl,hw⟩
theorem Jq(n lo hi w):Calls Tryz.prog 286 #[.int .i64 n, .int .i64 lo, .int .i64 hi] w λe w'=>e= .returned (.bool (yW n lo hi))/\fM w w':=by
 refine HF Tryz.func286 Tryz.ntmps286 ?_;exact GW
structure K8 (w:World) (A B C:Option Addr) (n:Nat) (xs:List Dy):Prop where
 r:lf w A n (xs.map (·.rider))
 d:lf w B n (xs.map (·.day))
 a:lf w C n (xs.map (·.fU))
theorem K8.mem{w0 w L A B C n xs}(h:K8 w0 A B C n xs)(hm:Mem w0 L w):K8 w A B C n xs:=⟨h.r.mem hm,h.d.mem hm,h.a.mem hm⟩
theorem Ab{limit xs}(h:Ae limit xs=0):(0<=limit/\limit<=1000000000000)/\xs.length<=256/\ ∀x∈xs,Ds x=false:=by
 unfold Ae at h;split at h
 ·cases h
 rename_i h1;split at h
 ·cases h
 split at h
 ·cases h
 rename_i h3;refine ⟨pw.1 (by simpa using h1),by omega,λx hx=>?_⟩;have h4:xs.any Ds=false:=by simpa using h3
 rw [p5] at h4;simpa using h4 x hx
theorem uZ{x}(h:Ds x=false):(0<=x.rider/\x.rider<=127)/\(0<=x.day/\x.day<=49709)/\(0<=x.fU/\x.fU<=1000000000000):=by
 unfold Ds at h
 simp only [Hd,Lq,pw] at h
 exact ⟨h.1.1,h.1.2,h.2⟩
theorem Np(limit A a B b C c n xs w)(hx:K8 w A B C n xs)(he:Ae limit xs=0):Calls Tryz.prog 202 #[.int .i64 limit, .slice A n a, .slice B n b, .slice C n c] w λe w'=>e= .returned (.int .i64 0)/\fM w w':=by
 obtain ⟨hlim,hlen,hgood⟩:=Ab he;have hl:xs.length=n:=by have:=hx.r.1;rw [aS] at this;exact this
 have hin:yW limit 0 1000000000000=true:=pw.2 hlim;refine HF Tryz.func202 Tryz.ntmps202 ?_;refine jx (en It (nS (q0 rfl) (q0 rfl) (q0 rfl))) (λ_ w _=>Jq limit 0 1000000000000 w) ?_;rw [hin];refine GD ?_ ?_<;>intro h1
 ·exfalso;cases h1
 refine GD ?_ ?_<;>intro h2
 ·exfalso;simp at h2
 refine GD ?_ ?_<;>intro h3
 ·exfalso;simp at h3;omega
 refine GX ?_;refine la ([8,9]++rg 33 26) (λk:Nat=>[(33, .int .i64 k)]) (λ_=>[]) (λk=>k<=n) (λk=>n -k) 0 (bj _) ?_;rintro k g hk;refine GD ?_ ?_<;>intro hlt
 ·have hlt':k<n:=by simpa using hlt
  obtain ⟨x,hxk⟩: ∃x,xs[k]?=some x:=⟨_,ah (by omega)⟩;have hb:=uZ (hgood x (aq hxk));obtain ⟨ab,aoff,v1,rfl,habl,hv1,hra⟩:=hx.r.at_ hlt';obtain ⟨bb,boff,v2,rfl,hbbl,hv2,hrb⟩:=hx.d.at_ hlt';obtain ⟨cb,coff,v3,rfl,hcbl,hv3,hrc⟩:=hx.a.at_ hlt';have e1:v1=x.rider:=by simpa [hxk] using hv1.symm
  have e2:v2=x.day:=by simpa [hxk] using hv2.symm
  have e3:v3=x.fU:=by simpa [hxk] using hv3.symm
  subst e1 e2 e3;have i1:yW x.rider 0 127=true:=pw.2 hb.1;have i2:yW x.day 0 49709=true:=pw.2 hb.2.1;have i3:yW x.fU 0 1000000000000=true:=pw.2 hb.2.2;refine GX ?_;refine jx (en It (nS (q0 rfl) (q0 rfl) (q0 rfl))) (λ_ w _=>Jq x.rider 0 127 w)<|GX ?_;refine AE (en It (nS (q1 (v:= .int _ _) rfl) (q0 rfl) (q0 rfl))) (λ_ w _=>Jq x.day 0 49709 w) rfl rfl rfl rfl<|GX ?_;refine AE (en It (nS (q1 (v:= .int _ _) rfl) (q0 rfl) (q0 rfl))) (λ_ w _=>Jq x.fU 0 1000000000000 w) rfl rfl rfl rfl<|GD ?_ ?_<;>intro h5
  ·exfalso;have h:((!yW x.rider 0 127)||(!yW x.day 0 49709))||(!yW x.fU 0 1000000000000)=true:=by simpa using h5
   rw [i1,i2,i3] at h;simp at h
  refine GX ?_;exact na (k+1) (by show k+1<=n;omega)
 exact GW
theorem H0:sh Tryz.prog 396:=sh.array (i:=Tryz.t3) UK av aj (by kernel_rfl) rfl
attribute [local irreducible] DS sa sL
theorem Nq(limit A a B b C c n xs w)(hx:K8 w A B C n xs)(he:Ae limit xs=0):Calls Tryz.prog 203 #[.int .i64 limit, .slice A n a, .slice B n b, .slice C n c] w λe w'=> ∃z:(Option Addr×Nat)×(Nat×List ((Int×Int)×Value)),e= .returned (.tuple #[.slice z.1.1 ((CR limit xs).map (·.2)).length z.1.2, .map (some z.2.1)])/\Mem w [eO z.1.1 z.1.2 ((CR limit xs).map (·.2)),mT z.2.1 z.2.2] w':=by
 obtain ⟨hlim,hlen,hgood⟩:=Ab he;have hl:xs.length=n:=by have:=hx.r.1;rw [aS] at this;exact this
 have hok:=N1 hlim.1 (λx hx=>(uZ (hgood x hx)).2.2);have hdl:=N2 limit xs;refine dd Tryz.func203 rfl Tryz.ntmps203 rfl ?_;iterate 3 refine G0 ?_
 refine fI (aU (v:= .map _) (q0 rfl)) ?_;iterate 3 refine G0 ?_
 refine jb (L':=[eO none 0 []]) (λw hw=>hw.fY 3 1 eQ rfl) rfl<|GX ?_;refine cQ (tS rfl λmb=>?_);refine fI (aU (v:= .map _) (q0 rfl))<|GX ?_;refine ef ([10,12,13,14]++rg 18 35) (λq:Nat×(Option Addr×Nat)×List ((Int×Int)×Value)=>[(18, .int .i64 q.1),(10, .slice q.2.1.1 ((DS limit xs q.1).map (·.2)).length q.2.1.2)]) (λq=>[mT mb q.2.2,eO q.2.1.1 q.2.1.2 ((DS limit xs q.1).map (·.2))]) (λq=>q.1<=n/\DP q.2.2 (DS limit xs q.1)) (λq=>n -q.1) (0,(none,0),[]) ⟨rfl,by unfold DS;rfl,trivial⟩ (λw hw=>by unfold DS;exact hw) rfl ⟨bj _,by unfold DS;exact DP.nil⟩ ?_;rintro ⟨k,⟨oA,oc⟩,mps⟩ g ⟨hk,hDP⟩;simp only at hk hDP;refine GD ?_ ?_<;>intro hlt
 ·have hlt':k<n:=by simpa using hlt
  obtain ⟨x,hxk⟩: ∃x,xs[k]?=some x:=⟨_,ah (by omega)⟩;have hb:=uZ (hgood x (aq hxk));obtain ⟨ab,aoff,v1,rfl,habl,hv1,hra⟩:=hx.r.at_ hlt';obtain ⟨bb,boff,v2,rfl,hbbl,hv2,hrb⟩:=hx.d.at_ hlt';obtain ⟨cb,coff,v3,rfl,hcbl,hv3,hrc⟩:=hx.a.at_ hlt';have e1:v1=x.rider:=by simpa [hxk] using hv1.symm
  have e2:v2=x.day:=by simpa [hxk] using hv2.symm
  have e3:v3=x.fU:=by simpa [hxk] using hv3.symm
  subst e1 e2 e3;have hsucc:=EX (limit:=limit) hxk;have hO:=hok k (by omega);have hpr:=BL hO hb.2.2;have hsr:=hO.sum x.rider x.day;have hkl:=hdl k (by omega);have hlk:=hDP x.rider x.day;rw [hkl] at hsr;have hml:((DS limit xs k).map (·.2)).length=k:=by rw [aS,hkl]
  refine GX ?_;refine JR<|aW 0 ?_;refine aW 1 ?_;refine mG 2 rfl (cx _ aA ae (q0 rfl) (q0 rfl) (λ_=>⟨rfl,by omega⟩))<|mG 3 rfl (gB (v:= .int .i64 x.rider) aj (q0 rfl) (by exact HD hra habl rfl))<|aW 4 ?_;refine aW 5 ?_;refine mG 6 rfl (cx _ aA ae (q0 rfl) (q0 rfl) (λ_=>⟨rfl,by omega⟩))<|mG 7 rfl (gB (v:= .int .i64 x.day) aj (q0 rfl) (by exact HD hrb hbbl rfl))<|mG 8 rfl (Cr UK ae Tryz.zeroValue396 (pt (v:= .int _ _) rfl (pt (v:= .int _ _) rfl E.p0)) rfl)<|r1 9 0 ?_;refine aL rfl (mO Tryz.zeroValue396 rfl λb14=>?_);refine r1 10 1 ?_;refine aL rfl (mB (v:= .agg _) rfl rfl Tryz.sizeOf396 ?_);refine qE 1 ?_;refine GX ?_;refine ke (13::rg 34 7) (λ_:Unit=>[(13, .int .i64 (sa limit (DS limit xs k) x))]) (λ_=>[mT mb mps,box b14 396 [.int .i64 x.rider, .int .i64 x.day],eO oA oc ((DS limit xs k).map (·.2))]) (λ_=>True) ?_ ?_
  ·refine GD ?_ ?_<;>intro h2
   ·have h2':0<limit:=cC h2;have hpay:sa limit (DS limit xs k) x=min x.fU (limit -sL (DS limit xs k) x.rider x.day):=by unfold sa;rw [aB h2']
    refine GX ?_;refine fI (vE (key:=(x.rider,x.day)) 1 H0 lv bw (q0 rfl) (q0 rfl) rfl (λ_=>hlk))<|fI (rK (r:=limit -sL (DS limit xs k) x.rider x.day) (q0 rfl) (q0 rfl) (λ_=>⟨rfl,by omega,by omega⟩))<|fI (EH (q0 rfl) (q0 rfl))<|GX ?_;exact aO () lg ⟨by rw [hpay];rfl,trivial⟩ (λw hw=>hw.pick [1,0,2] (by decide)) rfl trivial
   have h2': ¬0<limit:=dB h2;have hpay:sa limit (DS limit xs k) x=x.fU:=by unfold sa;rw [an h2']
   refine GX ?_;exact aO () lg ⟨by rw [hpay];rfl,trivial⟩ (λw hw=>hw.pick [1,0,2] (by decide)) rfl trivial
  intro _ g5 _;refine GX ?_;refine ke (rg 41 7) (λ_:Unit=>[]) (λ_=>[mT mb (lH mps (x.rider,x.day) (.int .i64 (sL (DS limit xs k) x.rider x.day+sa limit (DS limit xs k) x))),box b14 396 [.int .i64 x.rider, .int .i64 x.day],eO oA oc ((DS limit xs k).map (·.2))]) (λ_=>True) ?_ ?_
  ·refine JQ 1 ?_;refine mG 0 rfl (ay (v:= .map _) (q0 rfl))<|aW 1 ?_;refine aW 3 ?_;refine lS (i:=2) (j:=5) (by decide+kernel) (au 1) ?_ ?_
   ·(first|refine aL rfl (kA (vE (key:=(x.rider,x.day)) 0 H0 lv bw (q0 rfl) (q0 rfl) rfl (λ_=>hlk)) rfl rfl ?_)|refine aL rfl (kA (xT (key:=(x.rider,x.day)) 0 H0 lv bw (q0 rfl) (q0 rfl) rfl (λ_=>(hpz.trans hlk))) rfl rfl ?_))
    refine mG 4 rfl (eT (r:=sL (DS limit xs k) x.rider x.day+sa limit (DS limit xs k) x) (q0 rfl) (q0 rfl) (λ_=>⟨rfl,by omega,by omega⟩))<|r1 5 1 ?_;refine aL rfl (xQ (key:=(x.rider,x.day)) 0 H0 lv bw rfl rfl rfl rfl λborn ps' hps hpz=>?_);refine aW 6 ?_;refine r1 7 1 ?_;refine aL rfl (xP 0 rfl rfl rfl rfl hps ?_);refine qE 1 ?_;exact aO () lg trivial (λw hw=>hw) rfl trivial
   refine aL rfl (xQ (key:=(x.rider,x.day)) 0 H0 lv bw rfl rfl rfl rfl λborn ps' hps hpz=>?_);refine aW 6 ?_;refine r1 2 1 ?_
   (first|refine aL rfl (kA (vE (key:=(x.rider,x.day)) 0 H0 lv bw (q0 rfl) (q0 rfl) rfl (λ_=>hlk)) rfl rfl ?_)|refine aL rfl (kA (xT (key:=(x.rider,x.day)) 0 H0 lv bw (q0 rfl) (q0 rfl) rfl (λ_=>(hpz.trans hlk))) rfl rfl ?_))
   refine mG 4 rfl (eT (r:=sL (DS limit xs k) x.rider x.day+sa limit (DS limit xs k) x) (q0 rfl) (q0 rfl) (λ_=>⟨rfl,by omega,by omega⟩))<|r1 7 1 ?_;refine aL rfl (xP 0 rfl rfl rfl rfl hps ?_);refine qE 1 ?_;exact aO () lg trivial (λw hw=>hw) rfl trivial
  intro _ g6 _;refine GX ?_;refine gN (k:=1) (i:=Tryz.t3) 2 ((sa limit (DS limit xs k) x)) aA (by kernel_rfl) rfl rfl rfl rfl ae bw rfl rfl rfl rfl rfl rfl ⟨by simp only;omega,by decide⟩ rfl rfl λB0 A1 c1=>GX ?_;obtain ⟨ps2,hps2⟩: ∃ps2,ps2=lH mps (x.rider,x.day) (.int .i64 (sL (DS limit xs k) x.rider x.day+sa limit (DS limit xs k) x)):=⟨_,rfl⟩;rw [<-hps2];have hmap:(DS limit xs (k+1)).map (·.2)=(DS limit xs k).map (·.2)++[sa limit (DS limit xs k) x]:=by rw [hsucc,eY];rfl
  refine aH (k+1,(A1,c1),ps2) lg ⟨rfl,by rw [hmap];rfl,trivial⟩ (λw hw=>by rw [hmap];exact hw.pick [0,2] (by decide)) rfl ⟨by simp only;omega,?_⟩ (by simp only;omega);simp only;rw [hsucc,hps2];exact hDP.put x _
 have hend:k=n:=by simp at hlt;omega
 have hfull:DS limit xs k=CR limit xs:=by unfold DS;rw [bo (by omega)];rfl
 rw [hfull];refine GX ?_;exact jr (v:= .slice _ _ _) (x:= .map _) rfl rfl rfl rfl λw' hw=>⟨((oA,oc),(mb,mps)),rfl,hw.pick [1,0] (by decide)⟩
theorem Nr(limit A a B b C c n xs w)(hx:K8 w A B C n xs)(he:Ae limit xs=0):Calls Tryz.prog 121 #[.int .i64 limit, .slice A n a, .slice B n b, .slice C n c] w λe w'=> ∃z:Option Addr×Nat,e= .returned (.tuple #[.slice z.1 ((CR limit xs).map (·.2)).length z.2, .int .i64 0])/\Mem w [eO z.1 z.2 ((CR limit xs).map (·.2))] w':=by
 refine HF Tryz.func121 Tryz.ntmps121 ?_;refine jx (en Tryz.call202 (Gf (q0 rfl) (q0 rfl) (q0 rfl) (q0 rfl))) (λ_ w hw=>Np limit A a B b C c n xs w (hx.mem hw) he)<|GD ?_ ?_<;>intro h1
 ·exfalso;simp at h1
 refine GX ?_;refine oD (en Tryz.call203 (Gf (q0 rfl) (q0 rfl) (q0 rfl) (q0 rfl))) (λw hw=>Nq limit A a B b C c n xs w (hx.mem hw) he) rfl (λ_=>rfl) λz=>GX ?_;exact jr (v:= .slice _ _ _) (x:= .int _ _) rfl rfl rfl rfl λw' hw=>⟨z.1,rfl,hw.pick [0] (by decide)⟩
end Go.Proofs.Far
namespace Go.Proofs.Pen
open Go Go.RowKit Go.Proofs.E
theorem JU(A n c rider w):
  Calls Tryz.prog 287 #[.slice A n c, .int .i64 rider] w λe w'=> ∃x:Nat×Nat,e= .returned (.func (.func 330) #[] #[.pointer (some ⟨x.1,0,none⟩), .pointer (some ⟨x.2,0,none⟩)])/\
   Mem w [box x.2 3 [.int .i64 rider],box x.1 46 [.slice A n c]] w':=by
 refine HF Tryz.func287 Tryz.ntmps287 ?_;refine cd (v:= .slice _ _ _) rfl rfl λb2=>cd (v:= .int _ _) rfl rfl λb3=>?_;refine GX ?_;refine xV AA rfl rfl<|GX ?_;exact cu rfl rfl rfl λw' hw=>⟨(b2,b3),rfl,hw⟩
def Reads (bl br:Nat) (A:Option Addr) (n c:Nat) (rider:Int) (vs:List V) (W:World):Prop:=
 W.cell? ⟨bl,0,none⟩=some (.slice A n c)/\W.cell? ⟨br,0,none⟩=some (.int .i64 rider)/\bl<W.heap.size/\br<W.heap.size/\zw W A n vs
theorem Reads.below{bl br A n c rider vs W W'}(h:Reads bl br A n c rider vs W)(hb:fM W W'):Reads bl br A n c rider vs W':=
 ⟨(hb.cell (p:=⟨bl,0,none⟩) h.2.2.1).trans h.1,(hb.cell (p:=⟨br,0,none⟩) h.2.2.2.1).trans h.2.1,fZ h.2.2.1 hb.size,fZ h.2.2.2.1 hb.size,h.2.2.2.2.below hb⟩
theorem CV{rider}{l:List V}{k v}(hv:l[k]?=some v)(h:(decide (v.rider=rider)&&decide (v.kind=2))=true):rR rider (l.take (k+1))=rR rider (l.take k)++[v]:=by
 rw [dY _ _ _ hv];simp only [rR,gi]
 simp at h;simp [h]
theorem JT{rider}{l:List V}{k v}(hv:l[k]?=some v)(h:(decide (v.rider=rider)&&decide (v.kind=2))=false):rR rider (l.take (k+1))=rR rider (l.take k):=by
 rw [dY _ _ _ hv];simp only [rR,gi]
 simp at h;simp;exact h
theorem LB{rider l k}:rR rider (l.take k)<+:rR rider l:=by
 unfold rR;exact (List.take_prefix k l).filter _
theorem JV(bl br A n c rider vs):
  NV Tryz.prog 330 #[.pointer (some ⟨bl,0,none⟩), .pointer (some ⟨br,0,none⟩)] (λv:V=> #[.agg v.cells.toArray]) (rR rider vs) (Reads bl br A n c rider vs):=by
 intro l J Jx W hR hJ sJ sJx hY;refine dd Tryz.func330 rfl Tryz.ntmps330 rfl ?_;obtain ⟨hcl,hcr,hbl,hbr,hv⟩:=id hR;have hn:=hv.2.1;have hl:=hv.1;refine GX ?_;clear hcl hcr hbl hbr hv;refine JG [5,8,9,10,11,12,13,14,15,16,17,18,19,20,21,22,23,24,25,26,27] (λs:World×Nat=>[(8, .int .i64 s.2)]) (λs=>s.1) (λ_=>[]) (λs=>s.2<=n/\Reads bl br A n c rider vs s.1/\J (rR rider (vs.take s.2)) s.1) (λs=>n -s.2) (W,0) ⟨rfl,trivial⟩ (λ_ h=>h) rfl ⟨bj _,hR,hJ⟩ ?_;rintro ⟨W1,k⟩ g ⟨hk,hR1,hJ1⟩
 dsimp only at hk hR1 hJ1|-
 refine GD ?_ ?_<;>intro hlt
 ·simp at hlt;obtain ⟨hcl,hcr,hbl,hbr,hv⟩:=id hR1;obtain ⟨b,off,v,rfl,hvb,hvk,hrow⟩:=hv.at_ hlt;refine GX ?_;refine bS G7 rfl λb5=>dN (v:= .agg _) rfl rfl N' ?_;refine GX ?_;refine PX (A:=λW'=>J (rR rider (vs.take (k+1))) W'/\Reads bl br (some ⟨b,off,none⟩) n c rider vs W') (B:=Jx) (vM rfl rfl) (q1 rfl) (iQ (q1 rfl)) rfl rfl (λh w hw=>?_) (λh=>?_) (λh W2 hW2=>?_) (λh W2 hW2=>?_)
  ·have:=hY (rR rider (vs.take k)) v w (by rw [<-CV hvk h];exact LB) (hR1.below hw.1) (sJ _ _ _ hJ1 hw.1);rw [CV hvk h];exact this
  ·refine GD ?_ ?_<;>intro hc
   ·rw [h] at hc;simp at hc
   refine GX ?_;exact nc (W1,k+1) (λ_ h=>h.tail) ⟨by dsimp only;omega,hR1,by rw [JT hvk h];exact hJ1⟩
  ·refine GD ?_ ?_<;>intro hc
   ·simp at hc
   refine GX ?_;exact na (W2,k+1) ⟨by dsimp only;omega,hW2.2,hW2.1⟩
  refine GD ?_ ?_<;>intro hc
  ·exact Rb rfl rfl λw' hw=>⟨rfl, .inr (sJx _ _ hW2 hw.1)⟩
  rw [h] at hc;simp at hc
 simp at hlt;refine GX ?_;refine kr rfl rfl λw' hw=>⟨rfl, .inl (sJ _ _ _ ?_ hw.1)⟩;rw [bo (by omega)] at hJ1;exact hJ1
end Go.Proofs.Pen
