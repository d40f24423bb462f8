import Derived.Test.YtakhechhnnjbcaaGreatBC16
import Derived.Test.YtakhechhnnjbcaaGreatBC05
import Derived.Test.YtakhechhnnjbcaaGreatBC15
import Derived.Test.YtakhechhnnjbcaaGreatBC13
import Derived.Test.YtakhechhnnjbcaaGreatBC04
import Derived.Test.YtakhechhnnjbcaaGreatTc
set_option maxRecDepth 100000
set_option maxHeartbeats 8000000
set_option linter.unusedVariables false
set_option linter.unusedSimpArgs false
namespace Go.Proofs.Far
open Go Go.RowKit Go.Proofs.E Go.Proofs.Cus Go.Proofs.Rid
def vH (a b:Rd):Int:=Nb [j0 a.start.lo b.start.lo,j0 a.end_.lo b.end_.lo,j0 a.id b.id]
def eB (a b:Rd):Bool:=decide (a.start.lo<b.start.lo∨(a.start.lo=b.start.lo∧(a.end_.lo<b.end_.lo∨(a.end_.lo=b.end_.lo∧a.id<b.id))))
theorem xm (a b:Int):(a<b∧j0 a b= -1)∨(a=b∧j0 a b=0)∨(b<a∧j0 a b=1):=by
 unfold j0;rcases Int.lt_trichotomy a b with h|h|h
 ·exact .inl ⟨h,av h⟩
 ·exact .inr (.inl ⟨h,by rw [ah (by omega),ah (by omega)]⟩)
 exact .inr (.inr ⟨h,by rw [ah (by omega),av h]⟩)
theorem wU (a b:Rd):decide (vH a b<0)=eB a b:=by
 unfold vH eB Nb;rcases xm a.start.lo b.start.lo with ⟨h1,e1⟩|⟨h1,e1⟩|⟨h1,e1⟩
 ·rw [e1];simp [h1]
 ·rw [e1];rcases xm a.end_.lo b.end_.lo with ⟨h2,e2⟩|⟨h2,e2⟩|⟨h2,e2⟩
  ·rw [e2];simp [h1,h2]
  ·rw [e2];rcases xm a.id b.id with ⟨h3,e3⟩|⟨h3,e3⟩|⟨h3,e3⟩
   ·rw [e3];simp [h1,h2,h3]
   ·rw [e3];simp [h1,h2,h3]
   rw [e3];have: ¬a.id<b.id:=by omega
   simp [h1,h2,this]
  rw [e2];have h4: ¬a.end_.lo<b.end_.lo:=by omega
  have h5: ¬a.end_.lo=b.end_.lo:=by omega
  simp [h1,h4,h5]
 rw [e1];have h4: ¬a.start.lo<b.start.lo:=by omega
 have h5: ¬a.start.lo=b.start.lo:=by omega
 simp [h4,h5]
section
open Go.Shelf Go.Lib Go.Sort
theorem F1 {α:Type} (f:α→Rd) (cf:α→α→Int) (h: ∀x y,ltOf cf x y=eB (f x) (f y)):SWO (ltOf cf) where
 irrefl x:=by rw [h];unfold eB;simp
 trans x y z h1 h2:=by rw [h] at*;unfold eB at*;simp only [dd] at*;omega
 ntrans x y z h1 h2:=by rw [h] at*;unfold eB at*;simp only [dm] at*;omega
theorem Gv {α:Type} [Inhabited α] (enc:α→Value) (d:Array α):flatK (fun x=>[enc x]) 1 d=d.map enc:=by
 apply Array.ext
 ·simp [flatK]
 intro i h1 h2;have hi:i<d.size:=by simpa using h2
 simp [flatK,Nat.mod_one,hi]
theorem wA {α:Type} [Inhabited α] (enc:α→Value) (w:World) (blk off m:Nat) (dk:Array α) (os:Array Obj):sortWorld enc w blk off m dk os=sortWorldK (fun x=>[enc x]) 1 w blk off m dk os:=by
 unfold sortWorld sortWorldK putRowK putRow;congr 2;funext c;unfold putCells;congr 1;funext k x;rw [Gv];simp only [Wo,id];by_cases h:off≤k∧k<off+dk.size
 ·rw [av h,av h,jH dk (k -off) (by omega),jH (dk.map enc) (k -off) (by simp;omega)];simp
 rw [ah h,ah h]
end
theorem S3 (A:Option Addr) (n c:Nat) (rs:List RX) (i k:Nat) (x y:RX) (b:Nat) (w:World) (hb:mq w b 0 [.slice A n c]) (hbl:b<w.heap.size) (hx:rE w A n rs) (hi:rs[i]?=some x) (hk:rs[k]?=some y):
  Calls Tryz.prog 222 #[.int .i64 i, .int .i64 k, .pointer (some ⟨b,0,none⟩)] w fun e w'=>e= .returned (.int .i64 (vH x.r y.r))∧gz w w':=by
 have hn:=hx.1.1;have hin:i<n:=by have:=(aa.1 hi).1;omega
 have hkn:k<n:=by have:=(aa.1 hk).1;omega
 obtain ⟨rb,off,x',rfl,hrbl,hx',hrx⟩:=hx.1.at_ hin;rw [hi] at hx';cases hx';obtain ⟨y',hy',hry⟩:=hx.1.row hkn;rw [hk] at hy';cases hy';refine aS Tryz.func222 rfl Tryz.ntmps222 rfl ?_;iterate 6 refine G ?_
 refine jK [6,7,8,9,10,11,12,13,14,15] (fun z:Nat×Nat=>[(6, .pointer (some ⟨z.1,0,none⟩)),(7, .pointer (some ⟨z.2,0,none⟩))]) (fun z=>[box z.1 191 x.cells,box z.2 191 y.cells]) (fun _=>True) ?_ ?_
 ·refine AQ ?_;refine iQ 0 rfl (ea (v:= .slice (some ⟨rb,off,none⟩) n c) uu (q0 rfl) (BR hb hbl rfl)) ?_;refine aW 1 ?_;refine iQ 2 rfl (bt i bI bo (q0 rfl) (q0 rfl) (fun _=>⟨rfl,hin⟩)) ?_;refine iQ 3 rfl (km (vs:=x.cells) jc bo (q0 rfl) (MY hrx hrbl) rfl) ?_;refine iQ 4 rfl (ea (v:= .slice (some ⟨rb,off,none⟩) n c) uu (q0 rfl) (BR hb hbl rfl)) ?_;refine aW 5 ?_;refine iQ 6 rfl (bt k bI bo (q0 rfl) (q0 rfl) (fun _=>⟨rfl,hkn⟩)) ?_;refine iQ 7 rfl (km (vs:=y.cells) jc bo (q0 rfl) (MY hry hrbl) rfl) ?_;refine kY (i:=8) (j:=9) (by decide+kernel) (bK 0) ?_ ?_
  ·refine aL rfl (lX dq rfl fun b6=>?_);refine r1 9 1 ?_;refine aL rfl (lX dq rfl fun b7=>?_);refine aI 1 ?_;refine r1 10 2 ?_;refine aL rfl (kU (v:= .agg _) rfl rfl bo ?_);refine r1 11 2 ?_;refine aL rfl (kU (v:= .agg _) rfl rfl bo ?_);refine jz 2 ?_;exact aO ((b6,b7):Nat×Nat) eE ⟨rfl,rfl,trivial⟩ (fun w hw=>hw) rfl trivial
  refine aL rfl (lX dq rfl fun b7=>?_);refine r1 8 1 ?_;refine aL rfl (lX dq rfl fun b6=>?_);refine r1 10 2 ?_;refine aL rfl (kU (v:= .agg _) rfl rfl bo ?_);refine r1 11 2 ?_;refine aL rfl (kU (v:= .agg _) rfl rfl bo ?_);refine jz 2 ?_;exact aO ((b6,b7):Nat×Nat) eE ⟨rfl,rfl,trivial⟩ (fun w hw=>hw) rfl trivial
 rintro ⟨b6,b7⟩ g5 _;iterate 2 refine G ?_
 refine AQ ?_;refine aW 0 ?_;refine aW 1 ?_;refine aW 2 ?_;refine aW 3 ?_;refine aW 4 ?_;refine aW 5 ?_;refine aW 7 ?_;refine aW 8 ?_;refine aW 9 ?_;refine aW 10 ?_;refine aW 11 ?_;refine aW 12 ?_;refine aW 14 ?_;refine aW 15 ?_;refine aW 16 ?_;refine aW 17 ?_;refine aC 6 (by decide+kernel) rfl (en kB (gr (q0 rfl) (q0 rfl))) (fun _ w _=>jM x.r.start.lo y.r.start.lo w) rfl ?_;refine aC 13 (by decide+kernel) rfl (en kB (gr (q0 rfl) (q0 rfl))) (fun _ w _=>jM x.r.end_.lo y.r.end_.lo w) rfl ?_;refine aC 18 (by decide+kernel) rfl (en kB (gr (q0 rfl) (q0 rfl))) (fun _ w _=>jM x.r.id y.r.id w) rfl ?_;refine r1 19 0 ?_;refine aL rfl (dE [(.int .i64 0),(.int .i64 0),(.int .i64 0)] ak ax bh rfl (by kernel_rfl) (pt (v:= .int _ _) rfl (pt (v:= .int _ _) rfl (pt (v:= .int _ _) rfl E.p0))) rfl rfl fun b35=>?_);refine xw (bK 1) ?_;refine aC 20 (by decide+kernel) rfl (en UH (il (q0 rfl))) (fun _ w hm=>Qi _ 3 3 [j0 x.r.start.lo y.r.start.lo,j0 x.r.end_.lo y.r.end_.lo,j0 x.r.id y.r.id] w (bg (enc:=aN) hm (j:=0) rfl (fun _=>rfl) (by simp))) rfl ?_;refine aW 21 ?_;refine jz 0 ?_;iterate 2 refine G ?_
 exact bH (v:= .int _ _) rfl rfl rfl fun w' hw=>⟨rfl,hw.1⟩
open Go Go.RowKit Go.Proofs.E Go.Proofs.Cus Go.Proofs.Rid
def H2:Go.Shelf.Ren:=⟨fun|6=>221|15=>162|14=>284|28=>219|29=>220|20=>314|21=>315|22=>316|23=>317|24=>318|25=>319|26=>320|27=>321|46=>341|47=>280|48=>281|49=>342|50=>343|57=>347|n=>n,fun|22=>22|24=>3|25=>114|3=>3|39=>257|0=>0|53=>305|55=>307|4=>4|46=>299|45=>298|50=>229|5=>5|9=>9|66=>359|70=>363|76=>388|77=>77|n=>n,fun|n=>n⟩
theorem Tb:Go.Proofs.SlLaysF.n6 Tryz.prog H2:={
 mixed:=by kernel_rfl,
 f6:=⟨Tryz.f221.name,by decide,Tryz.func221.trans (aT some (by kernel_rfl))⟩,
 f14:=⟨Tryz.f284.name,by decide,Tryz.func284.trans (aT some (by kernel_rfl))⟩,
 f15:=Tryz.func162.trans (aT some (by kernel_rfl)),
 f20:=⟨Tryz.f314.name,by decide,Tryz.func314.trans (aT some (by kernel_rfl))⟩,
 f21:=⟨Tryz.f315.name,by decide,Tryz.func315.trans (aT some (by kernel_rfl))⟩,
 f22:=⟨Tryz.f316.name,by decide,Tryz.func316.trans (aT some (by kernel_rfl))⟩,
 f23:=⟨Tryz.f317.name,by decide,Tryz.func317.trans (aT some (by kernel_rfl))⟩,
 f24:=⟨Tryz.f318.name,by decide,Tryz.func318.trans (aT some (by kernel_rfl))⟩,
 f25:=⟨Tryz.f319.name,by decide,Tryz.func319.trans (aT some (by kernel_rfl))⟩,
 f26:=⟨Tryz.f320.name,by decide,Tryz.func320.trans (aT some (by kernel_rfl))⟩,
 f27:=⟨Tryz.f321.name,by decide,Tryz.func321.trans (aT some (by kernel_rfl))⟩,
 f28:=Tryz.func219.trans (aT some (by kernel_rfl)),
 f29:=Tryz.func220.trans (aT some (by kernel_rfl)),
 f46:=⟨Tryz.f341.name,by decide,Tryz.func341.trans (aT some (by kernel_rfl))⟩,
 f47:=Tryz.func280.trans (aT some (by kernel_rfl)),
 f48:=Tryz.func281.trans (aT some (by kernel_rfl)),
 f49:=⟨Tryz.f342.name,by decide,Tryz.func342.trans (aT some (by kernel_rfl))⟩,
 f50:=⟨Tryz.f343.name,by decide,Tryz.func343.trans (aT some (by kernel_rfl))⟩,
 f57:=⟨Tryz.f347.name,by decide,Tryz.func347.trans (aT some (by kernel_rfl))⟩,
 t0:=pX,
 a0:=yW,
 z0:=wm,
 v0:=qN,
 t3:=aG,
 a3:=aJ,
 z3:=ax,
 v3:=bh,
 t4:=iL,
 a4:=kK,
 z4:=dG,
 v4:=gK,
 t5:=jX,
 a5:=yU,
 z5:=wk,
 v5:=qM,
 t9:=pW,
 a9:=yT,
 z9:=wj,
 v9:=qL,
 t22:=ak,
 a22:=js,
 z22:=eh,
 v22:=Kl,
 a24:=aJ,
 z24:=ax,
 t25:=WO,
 a25:=Tryz.isAgg114,
 z25:=Tryz.sizeOf114,
 v25:=Tryz.zeroValue114,
 t39:=nA,
 a39:=uo,
 z39:=sG,
 v39:=oI,
 t45:=ny,
 a45:=um,
 z45:=sF,
 v45:=oH,
 t46:=nx,
 a46:=uk,
 z46:=sE,
 v46:=oG,
 t50:=nC,
 a50:=uq,
 z50:=sH,
 v50:=oJ,
 t53:=nw,
 a53:=uj,
 z53:=sD,
 v53:=oF,
 t55:=nu,
 a55:=ui,
 z55:=sC,
 v55:=oE,
 t66:=ns,
 a66:=uh,
 z66:=sy,
 v66:=oC,
 t70:=nr,
 a70:=ug,
 z70:=sx,
 v70:=oB,
 t76:=nq,
 a76:=uf,
 z76:=sw,
 v76:=oz,
 t77:=oN,
 a77:=wu,
 z77:=ue,
 v77:=pV}
def F4:Go.Shelf.Ren:=⟨fun|6=>221|15=>162|14=>284|28=>219|29=>220|20=>314|21=>315|22=>316|23=>317|24=>318|25=>319|26=>320|27=>321|46=>341|47=>280|48=>281|49=>342|50=>343|57=>347|n=>n,fun|22=>22|24=>3|25=>114|3=>3|39=>257|0=>0|53=>305|55=>307|4=>4|46=>299|45=>298|50=>229|5=>5|9=>9|66=>359|70=>363|76=>388|77=>77|n=>n,fun|n=>n⟩
theorem PR:Go.Proofs.SlLaysF0.n6 Tryz.prog F4:={
 mixed:=by kernel_rfl,
 f6:=⟨Tryz.f221.name,by decide,Tryz.func221.trans (aT some (by kernel_rfl))⟩,
 f14:=⟨Tryz.f284.name,by decide,Tryz.func284.trans (aT some (by kernel_rfl))⟩,
 f15:=Tryz.func162.trans (aT some (by kernel_rfl)),
 f20:=⟨Tryz.f314.name,by decide,Tryz.func314.trans (aT some (by kernel_rfl))⟩,
 f21:=⟨Tryz.f315.name,by decide,Tryz.func315.trans (aT some (by kernel_rfl))⟩,
 f22:=⟨Tryz.f316.name,by decide,Tryz.func316.trans (aT some (by kernel_rfl))⟩,
 f23:=⟨Tryz.f317.name,by decide,Tryz.func317.trans (aT some (by kernel_rfl))⟩,
 f24:=⟨Tryz.f318.name,by decide,Tryz.func318.trans (aT some (by kernel_rfl))⟩,
 f25:=⟨Tryz.f319.name,by decide,Tryz.func319.trans (aT some (by kernel_rfl))⟩,
 f26:=⟨Tryz.f320.name,by decide,Tryz.func320.trans (aT some (by kernel_rfl))⟩,
 f27:=⟨Tryz.f321.name,by decide,Tryz.func321.trans (aT some (by kernel_rfl))⟩,
 f28:=Tryz.func219.trans (aT some (by kernel_rfl)),
 f29:=Tryz.func220.trans (aT some (by kernel_rfl)),
 f46:=⟨Tryz.f341.name,by decide,Tryz.func341.trans (aT some (by kernel_rfl))⟩,
 f47:=Tryz.func280.trans (aT some (by kernel_rfl)),
 f48:=Tryz.func281.trans (aT some (by kernel_rfl)),
 f49:=⟨Tryz.f342.name,by decide,Tryz.func342.trans (aT some (by kernel_rfl))⟩,
 f50:=⟨Tryz.f343.name,by decide,Tryz.func343.trans (aT some (by kernel_rfl))⟩,
 f57:=⟨Tryz.f347.name,by decide,Tryz.func347.trans (aT some (by kernel_rfl))⟩,
 t0:=pX,
 a0:=yW,
 z0:=wm,
 v0:=qN,
 t3:=aG,
 a3:=aJ,
 z3:=ax,
 v3:=bh,
 t4:=iL,
 a4:=kK,
 z4:=dG,
 v4:=gK,
 t5:=jX,
 a5:=yU,
 z5:=wk,
 v5:=qM,
 t9:=pW,
 a9:=yT,
 z9:=wj,
 v9:=qL,
 t22:=ak,
 a22:=js,
 z22:=eh,
 v22:=Kl,
 t25:=WO,
 a25:=Tryz.isAgg114,
 z25:=Tryz.sizeOf114,
 v25:=Tryz.zeroValue114,
 t39:=nA,
 a39:=uo,
 z39:=sG,
 v39:=oI,
 t45:=ny,
 a45:=um,
 z45:=sF,
 v45:=oH,
 t46:=nx,
 a46:=uk,
 z46:=sE,
 v46:=oG,
 t50:=nC,
 a50:=uq,
 z50:=sH,
 v50:=oJ,
 t53:=nw,
 a53:=uj,
 z53:=sD,
 v53:=oF,
 t55:=nu,
 a55:=ui,
 z55:=sC,
 v55:=oE,
 t66:=ns,
 a66:=uh,
 z66:=sy,
 v66:=oC,
 t70:=nr,
 a70:=ug,
 z70:=sx,
 v70:=oB,
 t76:=nq,
 a76:=uf,
 z76:=sw,
 v76:=oz,
 t77:=oN,
 a77:=wu,
 z77:=ue,
 v77:=pV}
def D2 (n:Nat):List Int:=(List.range n).map fun i:Nat=>(i:Int)
theorem yC (n:Nat):(D2 n).length=n:=by unfold D2;simp
theorem QF {n k:Nat} (h:k<n):(D2 n)[k]?=some (k:Int):=by unfold D2;simp [h]
section
open Go.Shelf Go.Lib Go.Sort
theorem Gc {w:World} {b c n:Nat} {e:TypeId} {d:List (Fin n)}:(dR e 1 aN (some ⟨b,0,none⟩) c (d.map fun x=>(x.1:Int))).A w↔(dR e 1 (fun x:Fin n=>[Value.int .i64 (x.1:Int)]) (some ⟨b,0,none⟩) c d).A w:=by
 show World.ownsRow _ _ _ _ _ _ _↔World.ownsRow _ _ _ _ _ _ _;rw [aD,List.flatMap_map];exact Iff.rfl
theorem MI {w0 w:World} {L:List E.Item} (hw:Mem w0 L w) {j q b3 n c:Nat} {b BR:Nat} {rA:Option Addr} {rs:List RX} (hk:L[j]?=some (dY (some ⟨b,0,none⟩) c (D2 n))) (hq:L[q]?=some (box b3 135 [.slice rA n BR])) (hjq:j≠q)
  (hr:rE w0 rA n rs) (hs:rs.Pairwise fun x y=>eB x.r y.r=true) (hn:n≤1000000):
  Calls Tryz.prog 221 #[.slice (some ⟨b,0,none⟩) n c, .func (.func 222) #[] #[.pointer (some ⟨b3,0,none⟩)]] w fun r w'=> ∃_:Unit,r= .returned (.tuple #[])∧Mem w0 L w':=by
 have hlen:rs.length=n:=hr.1.1;rcases du n with h0|h0
 ·subst h0;refine (AnyF.slices_SortFunc_none PR (some ⟨b,0,none⟩) c (.func (.func 222) #[] #[.pointer (some ⟨b3,0,none⟩)]) w).mono ?_;rintro r w' ⟨rfl,rfl⟩;exact ⟨(),rfl,hw⟩
 haveI:Inhabited (Fin n):=⟨⟨0,h0⟩⟩
 have hb:b<w.heap.size:=(hw.ni hk rfl).2
 let enc:Fin n→Value:=fun x=> .int .i64 (x.1:Int)
 let d:Array (Fin n):=(List.finRange n).toArray
 have hds:d.size=n:=by simp [d]
 have hfin:(List.finRange n).map (fun x:Fin n=>(x.1:Int))=D2 n:=by
  unfold D2;apply List.ext_getElem
  ·simp
  intro i h1 h2;simp
 let cf:Fin n→Fin n→Int:=fun x y=>vH (rs[x.1]'(by omega)).r (rs[y.1]'(by omega)).r
 have hlt: ∀x y,ltOf cf x y=eB (rs[x.1]'(by omega)).r (rs[y.1]'(by omega)).r:=fun x y=>by
  unfold ltOf;exact wU _ _
 have hO:SWO (ltOf cf):=F1 (fun x:Fin n=>(rs[x.1]'(by omega)).r) cf hlt;have hpw:=bj.1 hs;have hT: ∀x y,ltOf cf x y=false→ltOf cf y x=false→x=y:=fun x y h1 h2=>by
  rw [hlt] at h1 h2;rcases jQ x.1 y.1 with h|h|h
  ·have:=hpw x.1 y.1 (by omega) (by omega) h;rw [h1] at this;cases this
  ·exact Fin.ext h
  have:=hpw y.1 x.1 (by omega) (by omega) h;rw [h2] at this;cases this
 have hkF: ∀{w:World} {L':List E.Item},Mem w0 L' w→L'[j]?=some (dY (some ⟨b,0,none⟩) c (D2 n))→Mem w0 (L'.set j (dR 3 1 (fun x:Fin n=>[Value.int .i64 (x.1:Int)]) (some ⟨b,0,none⟩) c (List.finRange n))) w:=fun {w L'} hw hk=>by
  refine hw.swap hk (fun z hz=>hz) (Gc.1 ?_);rw [hfin];exact hw.item hk
 have hwF:=hkF hw hk;have hjL:=(aa.1 hk).1;have hkk:(L.set j (dR 3 1 (fun x:Fin n=>[Value.int .i64 (x.1:Int)]) (some ⟨b,0,none⟩) c (List.finRange n)))[j]?=some (dR 3 1 (fun x:Fin n=>[Value.int .i64 (x.1:Int)]) (some ⟨b,0,none⟩) c (List.finRange n)):=by simp [hjL]
 have hcmp:CmpLays1 Tryz.prog 222 #[.pointer (some ⟨b3,0,none⟩)] enc cf b 0 d.size w:=by
  intro m os dk hdk x y;have hm:=tD (k:=1) (enc:=fun x:Fin n=>[Value.int .i64 (x.1:Int)]) (n:=m) (os:=os) (ys:=dk.toList) (fun _=>rfl) hwF hkk (by simp;omega);rw [fB] at hm;have hww:sortWorldK (fun x:Fin n=>[enc x]) 1 w b 0 m dk.toList.toArray os=sortWorld enc w b 0 m dk os:=by
   rw [wA]
  rw [hww] at hm;have hq2:(L.set j (dR 3 1 (fun x:Fin n=>[Value.int .i64 (x.1:Int)]) (some ⟨b,0,none⟩) c dk.toList))[q]?=some (box b3 135 [.slice rA n BR]):=by
   rw [cj hjq];exact hq
  have hrow:mq (sortWorld enc w b 0 m dk os) b3 0 [.slice rA n BR]:=fun i u hu=>by
   rw [dj];exact gy hm hq2 hu
  have hb3:b3<(sortWorld enc w b 0 m dk os).heap.size:=(hm.ni hq2 rfl).2;refine (S3 rA n BR rs x.1 y.1 (rs[x.1]'(by omega)) (rs[y.1]'(by omega)) b3 _ hrow hb3 (hr.mem hm) (aj _) (aj _)).mono fun e w' ⟨he,hbl⟩=>⟨he,hbl.TO⟩
 have hH:Holds enc w b 0 d:=by
  have h1:=xg (k:=1) (enc:=fun x:Fin n=>[enc x]) (fun _=>rfl) hwF hkk;unfold HoldsK at h1;rw [Gv] at h1;intro i hi;have:=h1 i (by simpa [d] using hi);rw [jH _ i (by simpa [d] using hi)] at this;rw [jH d i hi];simpa [d] using this
 have hcon:=Any.slices_SortFunc_total Tb enc (fun _=>rfl) cf hO 222 #[.pointer (some ⟨b3,0,none⟩)] b 0 c d w Tryz.call222 hcmp hH hb (by omega) hT;rw [hds] at hcon;refine hcon.mono ?_;rintro r w' ⟨rfl,m,os,rfl⟩;have hsort:d.toList.mergeSort (fun x y=>!(ltOf cf) y x)=List.finRange n:=by
  have:d.toList=List.finRange n:=by simp [d]
  rw [this];refine yY ?_;rw [bj];intro i k hi hk2 hik;simp only [List.getElem_finRange];rw [hlt];have h1:=hpw i k (by simp at hi;omega) (by simp at hk2;omega) hik;have h2:eB (rs[k]'(by simp at hk2;omega)).r (rs[i]'(by simp at hi;omega)).r=false:=by
   unfold eB at h1⊢;simp only [dd,dm] at h1⊢;omega
  simpa using h2
 rw [hsort,wA];refine ⟨(),rfl,?_⟩;have hm:=tD (k:=1) (enc:=fun x:Fin n=>[Value.int .i64 (x.1:Int)]) (n:=m) (os:=os) (ys:=List.finRange n) (fun _=>rfl) hwF hkk rfl;rw [fB] at hm;have hm2:=hm.swap (j:=j) (it:=dR 3 1 (fun x:Fin n=>[Value.int .i64 (x.1:Int)]) (some ⟨b,0,none⟩) c (List.finRange n)) (it':=dY (some ⟨b,0,none⟩) c (D2 n)) (by simp [hjL]) (fun z hz=>hz) (by
  have:=Gc.2 (hm.item (k:=j) (it:=dR 3 1 (fun x:Fin n=>[Value.int .i64 (x.1:Int)]) (some ⟨b,0,none⟩) c (List.finRange n)) (by simp [hjL]));rw [hfin] at this;exact this)
 rw [fB] at hm2;have hLL:L.set j (dY (some ⟨b,0,none⟩) c (D2 n))=L:=by
  obtain ⟨q1,q2⟩:=aa.1 hk;rw [←q2];exact mc q1
 rw [hLL] at hm2;exact hm2
end
open Go Go.RowKit Go.Proofs.E Go.Proofs.Cus Go.Proofs.Rid
structure Good (rs:List Rd):Prop where
 ok: ∀r∈rs,dW r=0
 ids:jj [] (rs.map (·.id))=false
 N2:rs.length≤256
theorem Nv {r:Rd} (h:dW r=0):r.cw.length≤1000000∧r.bz.length≤1000000:=by
 have:=gR h;omega
theorem Ie (A:Option Addr) (n c:Nat) (ps:List o0) (B:Option Addr) (m d:Nat) (rs:List RX) (w:World) (hp:sr w A n ps) (hr:rE w B m rs) (hpe:lg ps=0) (hg:Good (rs.map (·.r))):Calls Tryz.prog 163 #[.slice A n c, .slice B m d] w fun e w'=>e= .returned (.int .i64 0)∧gz w w':=by
 have hl:=hr.1.1;have hn:=hr.1.2.1;have hfew:=hg.N2;rw [aD] at hfew;refine aS Tryz.func163 rfl Tryz.ntmps163 rfl ?_;iterate 9 refine G ?_
 refine gV (en Tryz.call72 (il (q0 rfl))) (fun _ w hw=>Gp A n c ps w (hp.mem hw)) ?_;rw [hpe];iterate 9 refine G ?_
 refine au rfl ?_ ?_<;>intro h1
 ·exfalso;simp at h1
 iterate 10 refine G ?_
 refine au rfl ?_ ?_<;>intro h2
 ·exfalso;simp at h2;omega
 iterate 11 refine G ?_
 refine ct [4,7,8,22,23,24,25,26,27,28,29,30,31] (fun k:Nat=>[(22, .int .i64 k)]) (fun _=>[]) (fun k=>k≤m) (fun k=>m -k) 0 ⟨rfl,trivial⟩ (fun w hw=>hw) rfl (aU _) ?_;rintro k g hk;iterate 6 refine G ?_
 refine au rfl ?_ ?_<;>intro hlt
 ·have hlt':k<m:=by simpa using hlt
  obtain ⟨b,off,x,rfl,hbl,hxk,hrx⟩:=hr.1.at_ hlt';have hxm:=an hxk;have hc:dW x.r=0:=hg.ok x.r (bJ.2 ⟨x,hxm,rfl⟩);iterate 6 refine G ?_
  refine bO (bt _ bI bo (q0 rfl) (q0 rfl) (fun _=>⟨rfl,by omega⟩)) ?_;refine G ?_;refine cx dq rfl fun b7=>?_;refine fI (v:= .agg _) rfl rfl bo ?_;iterate 5 refine G ?_
  refine gV (en UE (il (q0 rfl))) (fun _ w hw=>yo x w ((hr.2 x hxm).mem hw) (Nv hc).1 (Nv hc).2) ?_;rw [hc];iterate 9 refine G ?_
  refine au rfl ?_ ?_<;>intro h3
  ·exfalso;simp at h3
  iterate 7 refine G ?_
  exact ay (k+1) eE ⟨rfl,trivial⟩ (fun w hw=>hw.tail) rfl (by show k+1≤m;omega) (by show m -(k+1)<m -k;omega)
 obtain ⟨ids,hids⟩: ∃ids:List Int,ids=(rs.map (·.r)).map (·.id):=⟨_,rfl⟩;have hidl:ids.length=m:=by rw [hids,aD,aD,hl]
 have htw:jj (ids.take 0) (ids.drop 0)=false:=by rw [hids];exact hg.ids
 iterate 7 refine G ?_
 refine qK rfl fun bm=>?_;refine bO (gZ (v:= .map _) (q0 rfl)) ?_;iterate 11 refine G ?_
 refine ct [4,11,35,36,37,38,39,40,41,42,43,44,45,46] (fun k:Nat=>[(35, .int .i64 k)]) (fun k=>[kS bm (qn (ids.take k))]) (fun k=>k≤m∧jj (ids.take 0) (ids.drop 0)=jj (ids.take k) (ids.drop k)) (fun k=>m -k) 0 ⟨rfl,trivial⟩ (fun _ h=>h) rfl ⟨aU _,rfl⟩ ?_;rintro k2 g2 ⟨hk2,hp2⟩;iterate 6 refine G ?_
 refine au rfl ?_ ?_<;>intro hlt2
 ·have hlt2':k2<m:=by simpa using hlt2
  obtain ⟨b,off,x,rfl,hbl,hxk,hrx⟩:=hr.1.at_ hlt2';have hik:ids[k2]?=some x.r.id:=by rw [hids];simp [hxk]
  iterate 6 refine G ?_
  refine bO (bt _ bI bo (q0 rfl) (q0 rfl) (fun _=>⟨rfl,by omega⟩)) ?_;refine G ?_;refine cx dq rfl fun b11=>?_;refine fI (v:= .agg _) rfl rfl bo ?_;iterate 5 refine G ?_
  refine bO (ez (v:= .map _) (q0 rfl)) ?_;iterate 2 refine G ?_
  refine bO (Fi 1 iq aG gK (q0 rfl) (q0 rfl) rfl (fun _=>xd _ _)) ?_;iterate 2 refine G ?_
  refine au rfl ?_ ?_<;>intro h4
  ·exfalso;rw [htw,Dz hik h4] at hp2;cases hp2
  have hst:=Br hik h4;iterate 3 refine G ?_
  refine bO (ez (v:= .map _) (q0 rfl)) ?_;iterate 2 refine G ?_
  refine tv 1 iq aG rfl rfl rfl rfl ?_;iterate 7 refine G ?_
  refine ay (k2+1) eE ⟨rfl,trivial⟩ (fun w hw=>?_) rfl ⟨by omega,by rw [hp2,hst]⟩ (by show m -(k2+1)<m -k2;omega);have:=hw.tail;rw [od _ _ _ hik,←w9 _ _ h4];exact this
 iterate 11 refine G ?_
 exact bH (v:= .int _ _) rfl rfl rfl fun w' hw=>⟨rfl,hw.1⟩
def my (r:Rd):Rq:=⟨r.rider,r.start.lo/86400⟩
theorem M4 (x:RX) (w:World) (h:dW x.r=0):Calls Tryz.prog 226 #[.agg x.cells.toArray] w fun e w'=>e= .returned (.int .i64 (x.r.start.lo/86400))∧gz w w':=by
 have hs:=sZ.1 (gR h).1;refine aS Tryz.func226 rfl Tryz.ntmps226 rfl ?_;iterate 2 refine G ?_
 refine cd (v:= .agg _) rfl rfl fun b1=>?_;iterate 8 refine G ?_
 refine bO (CL (q0 rfl) (q0 rfl) (fun _=>⟨by omega,by omega,by omega⟩)) ?_;iterate 4 refine G ?_
 exact bH (v:= .int _ _) rfl rfl rfl fun w' hw=>⟨rfl,hw.1⟩
theorem Gk (p:o0) (d:Int) (w:World):Calls Tryz.prog 225 #[.agg p.cells.toArray, .int .i64 d] w fun e w'=>e= .returned (.bool (decide (p.from_≤d)&&decide (d<p.mK)))∧gz w w':=by
 refine aS Tryz.func225 rfl Tryz.ntmps225 rfl ?_;iterate 2 refine G ?_
 refine cd (v:= .agg _) rfl rfl fun b2=>?_;iterate 21 refine G ?_
 exact bH (v:= .bool _) rfl rfl rfl fun w' hw=>⟨rfl,hw.1⟩
theorem S2 (p:o0) (x:RX) (b:Nat) (w:World) (hb:mq w b 0 x.cells) (hbl:b<w.heap.size) (h:dW x.r=0):Calls Tryz.prog 224 #[.agg p.cells.toArray, .pointer (some ⟨b,0,none⟩)] w fun e w'=>e= .returned (.bool (ks p (my x.r)))∧gz w w':=by
 refine aS Tryz.func224 rfl Tryz.ntmps224 rfl ?_;iterate 2 refine G ?_
 refine cd (v:= .agg _) rfl rfl fun b2=>?_;iterate 4 refine G ?_
 refine tB ?_;iterate 3 refine G ?_
 refine bO (ea (v:= .int .i64 x.r.rider) aJ (q0 rfl) (rc (j:=1) hb hbl rfl)) ?_;iterate 3 refine G ?_
 refine qV (km (vs:=x.cells) jc bo (q0 rfl) (fun _ w hw j u hu=>by have:=MY (w0:=_) hb hbl rfl w hw j u hu;exact this) rfl) rfl rfl ?_;refine EB (en Tryz.call226 (il (q1 (v:= .agg _) rfl))) (fun _ w _=>M4 x w h) rfl rfl rfl rfl ?_;refine EB (en Tryz.call225 (gr (q1 (v:= .agg _) rfl) (q1 (v:= .int _ _) rfl))) (fun _ w _=>Gk p (x.r.start.lo/86400) w) rfl rfl rfl rfl ?_;iterate 5 refine G ?_
 exact bH (v:= .bool _) rfl rfl rfl fun w' hw=>⟨rfl,hw.1⟩
theorem M3 (A:Option Addr) (n c:Nat) (ps:List o0) (x:RX) (b:Nat) (w:World) (hx:sr w A n ps) (hb:mq w b 0 x.cells) (hbl:b<w.heap.size) (h:dW x.r=0):Calls Tryz.prog 223 #[.slice A n c, .func (.func 224) #[] #[.pointer (some ⟨b,0,none⟩)]] w fun e w'=>e= .returned (.int .i64 (tJ ps (my x.r)))∧gz w w':=by
 have hl:=hx.1;have hn:=hx.2.1;refine aS Tryz.func223 rfl Tryz.ntmps223 rfl ?_;iterate 14 refine G ?_
 refine ct [4,5,8,9,10,11,12,13,14,15,16,17,18] (fun k:Nat=>[(8, .int .i64 k)]) (fun _=>[]) (fun k=>k≤n∧(List.range k).find? (fun k=>ks (ps.getD k default) (my x.r))=none) (fun k=>n -k) 0 ⟨rfl,trivial⟩ (fun w hw=>hw) rfl ⟨aU _,rfl⟩ ?_;rintro k g ⟨hk,hall⟩;iterate 6 refine G ?_
 refine au rfl ?_ ?_<;>intro hlt
 ·have hlt':k<n:=by simpa using hlt
  obtain ⟨pb,off,p,rfl,hpbl,hpk,hrp⟩:=hx.at_ hlt';have hpd:ps.getD k default=p:=by rw [aq,hpk];rfl
  iterate 15 refine G ?_
  refine bO (bt _ gU jL (q0 rfl) (q0 rfl) (fun _=>⟨rfl,by omega⟩)) ?_;refine G ?_;refine gV (wK (cap:=[.pointer (some ⟨b,0,none⟩)]) (al:=[.agg p.cells.toArray, .pointer (some ⟨b,0,none⟩)]) Tryz.call224 (q0 rfl) (fun hg=>by rw [il (q0 (v:= .agg _) rfl) hg];rfl)) (fun _ w hw=>S2 p x b w (fun j u hu=>MY hb hbl rfl w hw j u hu) (gL hbl hw.1.size) h) ?_;iterate 2 refine G ?_
  refine au rfl ?_ ?_<;>intro hv
  ·have hv':ks p (my x.r)=true:=hv;have hf:(List.range n).find? (fun k=>ks (ps.getD k default) (my x.r))=some k:=by
    obtain ⟨j,rfl⟩: ∃j,n=k+1+j:=⟨n -(k+1),by omega⟩;rw [List.range_add,mH,je,je,hall];simp [hpk,hv']
   rw [show tJ ps (my x.r)=(k:Int) by unfold tJ;rw [hl,hf]];iterate 12 refine G ?_
   exact bH (v:= .int _ _) rfl rfl rfl fun w' hw=>⟨rfl,hw.1⟩
  have hv':ks p (my x.r)=false:=hv;iterate 7 refine G ?_
  exact ay (k+1) eE ⟨rfl,trivial⟩ (fun w hw=>hw) rfl ⟨by omega,by rw [mH,je,hall];simp [hpk,hv']⟩ (by show n -(k+1)<n -k;omega)
 have hend:k=n:=by simp at hlt;omega
 subst hend;rw [show tJ ps (my x.r)= -1 by unfold tJ;rw [hl,hall]];iterate 11 refine G ?_
 exact bH (v:= .int _ _) rfl rfl rfl fun w' hw=>⟨rfl,hw.1⟩
theorem Vp {fs:Array Field} (h:Tryz.prog.underlying 314=some (.struct fs):=by exact wi):dN Tryz.prog fs [(0,1),(1,1)]:=by
 rw [wi] at h;cases h;intro w;kernel_rfl
theorem It:su Tryz.prog 314:=su.struct wi (by kernel_rfl) ⟨by decide,rfl,aJ,⟨_,aG⟩,by decide,rfl,aJ,⟨_,aG⟩,trivial⟩ rfl
def L5 (n k:Nat):List Int:=D2 k++List.replicate (n -k) 0
theorem Nj (n:Nat):L5 n 0=List.replicate n 0:=rfl
theorem Nk (n:Nat):L5 n n=D2 n:=by unfold L5;simp
theorem NH (k:Nat):D2 (k+1)=D2 k++[(k:Int)]:=by unfold D2;rw [mH,bX];rfl
theorem Qq {n k:Nat} (h:k≤n):(L5 n k).length=n:=by unfold L5;rw [bV,yC,me];omega
theorem Qr {n k:Nat} (h:k<n):(L5 n k)[k]?=some 0:=by
 unfold L5;rw [cy (by rw [yC];exact bq _),yC,fy,gp,av (by omega)]
theorem Qp {n k:Nat} (h:k<n):(L5 n k).set k (k:Int)=L5 n (k+1):=by
 unfold L5;rw [ib _ _ (by rw [yC];exact bq _),yC,fy];obtain ⟨m,hm⟩: ∃m,n -k=m+1:=⟨n -k -1,by omega⟩;rw [hm,rI,sM,show n -(k+1)=m by omega,NH];simp
attribute [local irreducible] L5 OU US
theorem Tz (A:Option Addr) (n c:Nat) (l:List o0) (B:Option Addr) (m d:Nat) (rs:List RX) (w:World) (hp:sr w A n l) (hr:rE w B m rs) (hpe:lg l=0) (hg:Good (rs.map (·.r))) (hs:rs.Pairwise fun x y=>eB x.r y.r=true):
  Calls Tryz.prog 164 #[.slice A n c, .slice B m d] w fun e w'=> ∃z:Nat,e= .returned (.slice (some ⟨z,0,none⟩) m m)∧Mem w [dY (some ⟨z,0,none⟩) m (vX l (rs.map fun x=>my x.r)).1] w':=by
 have hpl:=hp.1;have hl:=hr.1.1;have hfew:=hg.N2;rw [aD] at hfew;have hn64:n≤64:=by
  unfold lg at hpe;split at hpe
  ·cases hpe
  omega
 obtain ⟨qs,hqs⟩: ∃qs:List Rq,qs=rs.map fun x=>my x.r:=⟨_,rfl⟩;have hql:qs.length=m:=by rw [hqs,aD,hl]
 rw [←hqs];refine aS Tryz.func164 rfl Tryz.ntmps164 rfl ?_;iterate 2 refine G ?_
 refine cd (v:= .slice _ _ _) rfl rfl fun b3=>?_;iterate 7 refine G ?_
 refine bZ (jZ (i:=Tryz.t3) (k:=1) (n:=m) (m:=m) aN (0:Int) ak (by kernel_rfl) rfl rfl rfl rfl rfl ⟨⟨bq _,by omega⟩,by decide⟩ rfl fun b16=>?_);iterate 12 refine G ?_
 refine ct [6,19,20,21,22,23,24,25,26] (fun k:Nat=>[(19, .int .i64 k)]) (fun k=>[dY (some ⟨b16,0,none⟩) m (L5 m k),box b3 135 [.slice B m d]]) (fun k=>k≤m) (fun k=>m -k) 0 ⟨rfl,trivial⟩ (fun w hw=>by rw [Nj];exact hw) rfl (aU _) ?_;rintro k g hk;iterate 6 refine G ?_
 refine au rfl ?_ ?_<;>intro hlt
 ·have hlt':k<m:=by
   have h:(k:Int)<(((List.replicate m (0:Int)).length:Nat):Int):=by first|exact cJ hlt|(simp at hlt⊢;omega)
   simp at h;omega
  have hget:=Qr hlt';have hml:=Qq (n:=m) hk;iterate 14 refine G ?_
  refine bO (bt k ak ax (q0 rfl) (q0 rfl) (fun _=>⟨rfl,by first|exact hlt'|(simp;omega)⟩)) ?_;refine bZ (ew 0 (k:=1) (enc:=aN) (k:Int) rfl rfl ax rfl rfl rfl hget rfl rfl ?_);iterate 7 refine G ?_
  exact ay (k+1) eE ⟨rfl,trivial⟩ (fun w hw=>by rw [←Qp hlt'];exact hw) rfl (by show k+1≤m;omega) (by show m -(k+1)<m -k;omega)
 have hend:k=m:=by
  have h: ¬(k:Int)<(m:Int):=by first|exact cS hlt|(simp at hlt⊢;omega)
  omega
 subst hend;rw [Nk];iterate 8 refine G ?_
 refine xV G8 rfl rfl ?_;refine bZ (bR (en Tryz.call221 (gr (q0 rfl) (q0 rfl))) (fun w hw=>MI hw (j:=0) (q:=1) rfl rfl (by decide) hr hs (by omega)) rfl (fun _=>rfl) fun u=>?_);iterate 6 refine G ?_
 refine bZ (jZ (i:=Tryz.t3) (k:=1) (n:=k) (m:=k) aN (0:Int) ak (by kernel_rfl) rfl rfl rfl rfl rfl ⟨⟨bq _,by omega⟩,by decide⟩ rfl fun b32=>?_);refine bZ (Ff rfl fun mb=>?_);refine G ?_;refine bO (gZ (v:= .map _) (q0 rfl)) ?_;iterate 11 refine G ?_
 refine ct [10,11,12,13,36,37,38,39,40,41,42,43,44,45,46,47,48,49,50,51,52,53,54,55,56,57,58,59,60,61,62,63,64,65,66,67,68,69,70,71,72,73,74,75,76,77,78,79,80,81,82,83,84,85,86,87,88,89,90,91,92,93,94,95,96,97,98,99,100,101,102,103,104,105,106,107,108,109,110,111,112,113,114] (fun q:Nat×List ((Int×Int)×Value)=>[(36, .int .i64 q.1)]) (fun q=>[oT mb q.2,dY (some ⟨b32,0,none⟩) k (OU l qs q.1),dY (some ⟨b16,0,none⟩) k (D2 k),box b3 135 [.slice B k d]]) (fun q=>q.1≤k∧MP q.2 (US l qs q.1).2) (fun q=>k -q.1) (0,[]) ⟨rfl,trivial⟩ (fun w hw=>by unfold OU US;rw [hql];exact hw) rfl ⟨aU _,by unfold US;exact MP.nil⟩ ?_;rintro ⟨i,mps⟩ g2 ⟨hi,hMP⟩;simp only at hi hMP;iterate 6 refine G ?_
 refine au rfl ?_ ?_<;>intro hlt2
 ·have hlt2':i<k:=by
   have h:(i:Int)<(k:Int):=by first|exact cJ hlt2|(simp at hlt2⊢;omega)
   omega
  obtain ⟨rb,off,x,rfl,hrbl,hxi,hrx⟩:=hr.1.at_ hlt2';have hxm:=an hxi;have hc:dW x.r=0:=hg.ok x.r (bJ.2 ⟨x,hxm,rfl⟩);have hqi:qs[i]?=some (my x.r):=by rw [hqs];simp [hxi]
  have hidg:=QF hlt2';have hog:=Up (l:=l) (qs:=qs) (k:=i) (by omega);have hol:=Uo (l:=l) (qs:=qs) (k:=i) (by omega);have hset:=Un (l:=l) (k:=i) (by omega) hqi;have hsucc:=Kd (l:=l) hqi;have hus:=Uj l qs i;obtain ⟨fv,hfv⟩: ∃fv,fv=tJ l (my x.r):=⟨_,rfl⟩;have hcs:=Fc l (my x.r);rw [←hfv] at hcs;iterate 6 refine G ?_
  refine bO (bt i ak ax (q0 rfl) (q0 rfl) (fun _=>⟨rfl,by first|exact hlt2'|(simp;omega)⟩)) ?_;refine bO (ea (v:= .int .i64 i) aJ (q0 rfl) (by exact oR 2 (k:=1) (enc:=aN) rfl hidg rfl)) ?_;iterate 7 refine G ?_
  refine bO (bt i bI bo (q0 rfl) (q0 rfl) (fun _=>⟨rfl,hlt2'⟩)) ?_;refine bO (km (vs:=x.cells) jc bo (q0 rfl) (MY hrx hrbl) rfl) ?_;refine cx dq rfl fun b11=>?_;refine fI (v:= .agg _) rfl rfl bo ?_;iterate 7 refine G ?_
  refine xV G8 rfl rfl ?_;refine gV (v:= .int .i64 fv) (en (al:=[.slice A n c, .func (.func 224) #[] #[.pointer (some ⟨b11,0,none⟩)]]) Tryz.call223 (gr (q0 (v:= .slice _ _ _) rfl) (q0 rfl))) (fun _ w hw=>by rw [hfv];exact M3 A n c l x b11 w (hp.mem hw) (fun j u hu=>by rw [dj];exact gy hw (k:=0) rfl hu) (hw.ni (k:=0) rfl rfl).2 hc) ?_;refine bO (bt i ak ax (q0 rfl) (q0 rfl) (fun _=>⟨rfl,by first|exact hlt2'|(simp;omega)⟩)) ?_;refine bZ (ew 2 (k:=1) (enc:=aN) fv rfl rfl ax rfl rfl rfl hog rfl rfl ?_);iterate 6 refine G ?_
  refine bO (bt i ak ax (q0 rfl) (q0 rfl) (fun _=>⟨rfl,by first|exact hlt2'|(simp;omega)⟩)) ?_;refine bO (ea (v:= .int .i64 fv) aJ (q0 rfl) (by exact oR 2 (k:=1) (enc:=aN) rfl (de (by first|omega|(simp only;omega))) rfl)) ?_;iterate 3 refine G ?_
  refine jK [12,13,54,55,56,57,58,59,60,61,62,63,64,65,66,67,68,69,70,71,72,73,74,75,76,77,78,79,80,81,82,83,84,85,86,87,88,89,90,91,92,93,94,95,96,97,98,99,100,101,102,103,104,105,106,107,108,109,110,111,112,113] (fun _:List ((Int×Int)×Value)=>[]) (fun ps=>[box b11 191 x.cells,oT mb ps,dY (some ⟨b32,0,none⟩) k (OU l qs (i+1)),dY (some ⟨b16,0,none⟩) k (D2 k),box b3 135 [.slice (some ⟨rb,off,none⟩) k d]]) (fun ps=>MP ps (US l qs (i+1)).2) ?_ ?_
  ·refine G ?_;refine ct [12,13,54,55,56,57,58,59,60,61,62,63,64,65,66,67,68,69,70,71,72,73,74,75,76,77,78,79,80,81,82,83,84,85,86,87,88,89,90,91,92,93,94,95,96,97,98,99,100,101,102,103,104,105,106,107,108,109,110,111,112,113] (fun v:Int=>[(12, .int .i64 v)]) (fun v=>[box b11 191 x.cells,oT mb mps,dY (some ⟨b32,0,none⟩) k ((OU l qs i).set i (if v=(n:Int) then -1 else fv)),dY (some ⟨b16,0,none⟩) k (D2 k),box b3 135 [.slice (some ⟨rb,off,none⟩) k d]]) (fun v=>(v= -1∧fv= -1∧ ∀j,j<l.length→rC l (US l qs i).2 (my x.r) j=false)∨ ∃j:Nat,v=(j:Int)∧j≤n∧ ∀j',j'<j→rC l (US l qs i).2 (my x.r) j'=false) (fun v=>n -v.toNat) fv ⟨rfl,trivial⟩ (fun w hw=>by
    have hne: ¬fv=(n:Int):=by rcases hcs with ⟨h,_⟩|⟨j,hj,h,_⟩<;>omega
    rw [ah hne];exact hw) rfl (by
    rcases hcs with ⟨h,hh⟩|⟨j,hj,h,hh⟩
    ·exact .inl ⟨h,h,fun q hq=>yM (hh q hq)⟩
    exact .inr ⟨j,h,by omega,fun q hq=>yM (hh q hq)⟩) ?_
   rintro v g3 hv;iterate 13 refine G ?_
   refine au rfl ?_ ?_<;>intro h3
   ·have h3':0≤v∧v<n:=by
     have h:(decide ((0:Int)≤v)&&decide (v<(n:Int)))=true:=h3;simpa using h
    obtain ⟨j,rfl,hjn,hjb⟩: ∃j:Nat,v=(j:Int)∧j≤n∧ ∀j',j'<j→rC l (US l qs i).2 (my x.r) j'=false:=by
     rcases hv with ⟨h,_⟩|h
     ·omega
     exact h
    have hjn':j<n:=by omega
    rw [ah (by omega)];obtain ⟨pb,poff,p,rfl,hpbl,hpj,hrp⟩:=hp.at_ hjn';have hpd:l.getD j default=p:=by rw [aq,hpj];rfl
    have hlk:=hMP j (x.r.start.lo/86400);have hcond:rC l (US l qs i).2 (my x.r) j=((decide (p.rider=x.r.rider)&&(decide (p.from_≤x.r.start.lo/86400)&&decide (x.r.start.lo/86400<p.mK)))&&decide (((mj (US l qs i).2 j (x.r.start.lo/86400):Nat):Int)<p.pj)):=by
     unfold rC;rw [hpd];rfl
    have hpn:=Na (US l qs i).2 j (x.r.start.lo/86400);iterate 8 refine G ?_
    refine gV (en Tryz.call226 (il (q0 rfl))) (fun _ w _=>M4 x w hc) ?_;refine bO (bS wi Vp Tryz.zeroValue314 (pt (v:= .int _ _) rfl (pt (v:= .int _ _) rfl E.p0)) rfl) ?_;refine cx Tryz.zeroValue314 rfl fun b13=>?_;refine fI (v:= .agg _) rfl rfl Tryz.sizeOf314 ?_;iterate 4 refine G ?_
    refine tB ?_;iterate 2 refine G ?_
    refine bO (bt j gU jL (q0 rfl) (q0 rfl) (fun _=>⟨rfl,hjn'⟩)) ?_;refine G ?_;refine bO (ea (v:= .int .i64 p.rider) aJ (q0 rfl) (by exact rc (j:=1) hrp hpbl rfl)) ?_;iterate 6 refine G ?_
    refine qV (bt j gU jL (q1 rfl) (q1 rfl) (fun _=>⟨rfl,hjn'⟩)) rfl rfl ?_;refine qV (km (vs:=p.cells) Tryz.isAgg155 jL (q1 rfl) (MY hrp hpbl) rfl) rfl rfl ?_;iterate 2 refine G ?_
    refine EB (en Tryz.call225 (gr (q1 (v:= .agg _) rfl) (q1 (v:= .int _ _) rfl))) (fun _ w _=>Gk p (x.r.start.lo/86400) w) rfl rfl rfl rfl ?_;iterate 2 refine G ?_
    refine qV (ez (v:= .map _) (q0 rfl)) rfl rfl ?_;refine G ?_;refine qV (vQ (key:=((j:Int),x.r.start.lo/86400)) 2 It lu bh (q1 rfl) (q1 rfl) rfl (fun _=>hlk)) rfl rfl ?_;iterate 2 refine G ?_
    refine qV (bt j gU jL (q1 rfl) (q1 rfl) (fun _=>⟨rfl,hjn'⟩)) rfl rfl ?_;refine G ?_;refine qV (ea (v:= .int .i64 p.pj) aJ (q1 rfl) (by exact rc (j:=4) hrp hpbl rfl)) rfl rfl ?_;iterate 4 refine G ?_
    refine au rfl ?_ ?_<;>intro h4
    ·have h4':rC l (US l qs i).2 (my x.r) j=true:=by rw [hcond];exact h4
     have hpick:=Qe (by omega) h4' hjb;refine G ?_;refine fY (L':=[oT mb mps,box b13 314 [.int .i64 j, .int .i64 (x.r.start.lo/86400)],box b11 191 x.cells,dY (some ⟨b32,0,none⟩) k ((OU l qs i).set i fv),dY (some ⟨b16,0,none⟩) k (D2 k),box b3 135 [.slice (some ⟨rb,off,none⟩) k d]]) (fun w hw=>hw.pick [2,0,1,3,4,5] (by decide)) rfl ?_;refine jK [96,97,98,99,100,101] (fun _:Unit=>[]) (fun _=>[oT mb (lT mps ((j:Int),x.r.start.lo/86400) (.int .i64 (((mj (US l qs i).2 j (x.r.start.lo/86400):Nat):Int)+1))),box b13 314 [.int .i64 j, .int .i64 (x.r.start.lo/86400)],box b11 191 x.cells,dY (some ⟨b32,0,none⟩) k ((OU l qs i).set i fv),dY (some ⟨b16,0,none⟩) k (D2 k),box b3 135 [.slice (some ⟨rb,off,none⟩) k d]]) (fun _=>True) ?_ ?_
     ·refine zd 1 ?_;refine iQ 0 rfl (ez (v:= .map _) (q0 rfl)) ?_;refine aW 1 ?_;refine kY (i:=2) (j:=4) (by decide+kernel) (bK 1) ?_ ?_
      ·(first|refine aL rfl (gY (vQ (key:=((j:Int),x.r.start.lo/86400)) 0 It lu bh (q0 rfl) (q0 rfl) rfl (fun _=>hlk)) rfl rfl ?_)|refine aL rfl (gY (yK (key:=((j:Int),x.r.start.lo/86400)) 0 It lu bh (q0 rfl) (q0 rfl) rfl (fun _=>(hpz.trans hlk))) rfl rfl ?_))
       refine iQ 3 rfl (rB (r:=((mj (US l qs i).2 j (x.r.start.lo/86400):Nat):Int)+1) (q0 rfl) (q0 rfl) (fun _=>⟨rfl,by omega,by omega⟩)) ?_;refine r1 4 1 ?_;refine aL rfl (yG (key:=((j:Int),x.r.start.lo/86400)) 0 It lu bh rfl rfl rfl rfl fun born ps' hps hpz=>?_);refine aW 5 ?_;refine r1 6 1 ?_;refine aL rfl (yF 0 rfl rfl rfl rfl hps ?_);refine jz 1 ?_;exact aO () eE trivial (fun w hw=>hw) rfl trivial
      refine aL rfl (yG (key:=((j:Int),x.r.start.lo/86400)) 0 It lu bh rfl rfl rfl rfl fun born ps' hps hpz=>?_);refine aW 5 ?_;refine r1 2 1 ?_
      (first|refine aL rfl (gY (vQ (key:=((j:Int),x.r.start.lo/86400)) 0 It lu bh (q0 rfl) (q0 rfl) rfl (fun _=>hlk)) rfl rfl ?_)|refine aL rfl (gY (yK (key:=((j:Int),x.r.start.lo/86400)) 0 It lu bh (q0 rfl) (q0 rfl) rfl (fun _=>(hpz.trans hlk))) rfl rfl ?_))
      refine iQ 3 rfl (rB (r:=((mj (US l qs i).2 j (x.r.start.lo/86400):Nat):Int)+1) (q0 rfl) (q0 rfl) (fun _=>⟨rfl,by omega,by omega⟩)) ?_;refine r1 6 1 ?_;refine aL rfl (yF 0 rfl rfl rfl rfl hps ?_);refine jz 1 ?_;exact aO () eE trivial (fun w hw=>hw) rfl trivial
     intro _ g5 _;iterate 6 refine G ?_
     refine bO (bt i ak ax (q0 rfl) (q0 rfl) (fun _=>⟨rfl,by first|exact hlt2'|(simp;omega)⟩)) ?_;refine bZ (ew 3 (k:=1) (enc:=aN) (j:Int) rfl rfl ax rfl rfl rfl (de (by omega)) rfl rfl ?_);iterate 8 refine G ?_
     obtain ⟨ps2,hps2⟩: ∃ps2,ps2=lT mps ((j:Int),x.r.start.lo/86400) (.int .i64 (((mj (US l qs i).2 j (x.r.start.lo/86400):Nat):Int)+1)):=⟨_,rfl⟩;rw [←hps2];refine aO ps2 eE trivial (fun w hw=>?_) rfl ?_
     ·have h6:=hw.pick [2,0,3,4,5] (by decide);rw [hpick] at hset;rw [←hset,←yd fv];exact h6
     rw [hsucc];unfold ke;rw [hpick,av (by omega),hps2];exact hMP.put _ _
    have h4':rC l (US l qs i).2 (my x.r) j=false:=by rw [hcond];exact h4
    have hinv: ∀j',j'<j+1→rC l (US l qs i).2 (my x.r) j'=false:=fun j' hj'=>by
     rcases Nat.lt_succ_iff_lt_or_eq.1 hj' with h|h
     ·exact hjb j' h
     rw [h];exact h4'
    iterate 11 refine G ?_
    refine au rfl ?_ ?_<;>intro h5
    ·have h5':j+1=n:=by
      have h:((j:Nat):Int)=((n:Nat):Int) -1:=cJ h5;omega
     iterate 3 refine G ?_
     refine bO (bt i ak ax (q0 rfl) (q0 rfl) (fun _=>⟨rfl,by first|exact hlt2'|(simp;omega)⟩)) ?_;refine bZ (ew 3 (k:=1) (enc:=aN) (-1) rfl rfl ax rfl rfl rfl (de (by omega)) rfl rfl ?_);iterate 8 refine G ?_
     refine ay (((j+1:Nat):Int)) eE ⟨rfl,trivial⟩ (fun w hw=>?_) rfl (.inr ⟨j+1,rfl,by omega,hinv⟩) (by show n -((j+1:Nat):Int).toNat<n -((j:Nat):Int).toNat;omega);rw [av (by rw [h5']),←yd fv];exact hw.tail
    have h5': ¬j+1=n:=by
     have h: ¬((j:Nat):Int)=((n:Nat):Int) -1:=cS h5;omega
    iterate 8 refine G ?_
    refine ay (((j+1:Nat):Int)) eE ⟨rfl,trivial⟩ (fun w hw=>?_) rfl (.inr ⟨j+1,rfl,by omega,hinv⟩) (by show n -((j+1:Nat):Int).toNat<n -((j:Nat):Int).toNat;omega);rw [ah (by omega)];exact hw.tail
   have hpick:pR l (US l qs i).2 (my x.r)= -1∧(if v=(n:Int) then -1 else fv)= -1:=by
    have h3': ¬(0≤v∧v<n):=by
     have h:(decide ((0:Int)≤v)&&decide (v<(n:Int)))=false:=h3;simpa using h
    rcases hv with ⟨h,h5,h6⟩|⟨j,h,h5,h6⟩
    ·exact ⟨DN h6,by rw [ah (by omega)];exact h5⟩
    have:j=n:=by omega
    subst this;exact ⟨DN fun q hq=>h6 q (by omega),by rw [av h]⟩
   iterate 4 refine G ?_
   refine aO mps eE trivial (fun w hw=>?_) rfl ?_
   ·rw [hpick.2] at hw;rw [hpick.1] at hset;rw [←hset];exact hw
   rw [hsucc];unfold ke;rw [hpick.1];exact hMP
  rintro ps2 g4 hMP2;iterate 6 refine G ?_
  exact ay (i+1,ps2) eE ⟨rfl,trivial⟩ (fun w hw=>hw.tail) rfl ⟨by simp only;omega,hMP2⟩ (by simp only;omega)
 have hend2:i=k:=by
  have h: ¬(i:Int)<(k:Int):=by first|exact cS hlt2|(simp at hlt2⊢;omega)
  omega
 subst hend2;have hfull:OU l qs i=(vX l qs).1:=by
  unfold OU US;rw [hql,fy,bN (by omega)];simp
 rw [hfull];iterate 12 refine G ?_
 exact bH (v:= .slice _ _ _) rfl rfl rfl fun w' hw=>⟨b32,rfl,hw.pick [1] (by decide)⟩
end Go.Proofs.Far
