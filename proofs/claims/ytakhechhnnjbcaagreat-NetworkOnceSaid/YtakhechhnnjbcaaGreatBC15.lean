import Derived.Test.YtakhechhnnjbcaaGreatBC14
import Derived.Test.YtakhechhnnjbcaaGreatBC03
import Derived.Shelf.SlSortCmp.NoneTotal
import Derived.Ground.SlsfProg
import Derived.Test.YtakhechhnnjbcaaGreatBC04
import Derived.Test.YtakhechhnnjbcaaGreatTc
set_option maxRecDepth 100000
set_option maxHeartbeats 8000000
set_option linter.unusedVariables false
set_option linter.unusedSimpArgs false
namespace Go.Proofs.Far
open Go Go.RowKit Go.Proofs.E Go.Proofs.Cus
section
open Go.Shelf Go.Lib Go.Sort
theorem MC {α:Type} (f:α→Int) (cf:α→α→Int) (h: ∀x y,ltOf cf x y=decide (f x<f y)):SWO (ltOf cf) where
 irrefl x:=by rw [h];simp
 trans x y z h1 h2:=by rw [h] at*;simp at*;omega
 ntrans x y z h1 h2:=by rw [h] at*;simp at*;omega
theorem H0 {α:Type} [Inhabited α] {ρ:Ren} (Lay:SlLaysF0.n6 Tryz.prog ρ) (k:Nat) (aE: ∀w,(isAgg (ρ.t 24)).run Tryz.prog w= .ok true w) (zE: ∀w,(Go.sizeOf (ρ.t 24)).run Tryz.prog w= .ok k w) (enc:α→List Value) (hk: ∀x,(enc x).length=k) (h1: ∀x,∀v∈enc x,v.oneCell'=true)
  (cf:α→α→Int) (g:Nat) (hO:SWO (ltOf cf)) (eg: ∀args w,(callFunc g args).run Tryz.prog w= .ok (.enter g args) w)
  (hcl: ∀(x y:α) (w:World),Calls Tryz.prog g #[.agg (enc x).toArray, .agg (enc y).toArray] w fun e w'=>e= .returned (.int .i64 (cf x y))∧gz w w')
  {w0 w:World} {L:List E.Item} (hw:Mem w0 L w) {e:TypeId} {j c:Nat} {A:Option Addr} {xs:List α} (hkj:L[j]?=some (dR e k enc A c xs)) (hn:xs.length≤1000000):
  Calls Tryz.prog (ρ.f 6) #[.slice A xs.length c, .func (.func g) #[] #[]] w fun r w'=> ∃ys:{ys:List α//ys.Perm xs∧ys.Pairwise fun x y=>ltOf cf y x=false},r= .returned (.tuple #[])∧Mem w0 (L.set j (dR e k enc A c ys.1)) w':=by
 rcases du xs.length with h0|h0
 ·have:xs=[]:=bW h0;subst this;refine (AnyF.slices_SortFunc_none Lay A c (.func (.func g) #[] #[]) w).mono ?_;rintro r w' ⟨rfl,rfl⟩;refine ⟨⟨[],uB _,List.Pairwise.nil⟩,rfl,?_⟩;have hL:L.set j (dR e k enc A c ([]:List α))=L:=by
   obtain ⟨q1,q2⟩:=aa.1 hkj;rw [←q2];exact mc q1
  show Mem w0 (L.set j (dR e k enc A c ([]:List α))) _;rw [hL];exact hw
 obtain ⟨b,rfl⟩:=dP hw hkj h0;have hb:b<w.heap.size:=(hw.ni hkj rfl).2;have hcon:=AnyQ.slices_SortFunc Lay k aE zE enc hk h1 cf hO g #[] b 0 c xs.toArray w eg
  (fun m os dk _ x y=>by rw [Array.append_empty];exact (hcl x y _).mono fun e w' ⟨he,hb⟩=>⟨he,hb.TO⟩) (xg hk hw hkj) hb (by simp;omega)
 rw [Bj] at hcon;refine hcon.mono ?_;rintro r w' ⟨rfl,d',n,os,hp,hs,rfl⟩;have hsz:d'.size=xs.length:=by have:=hp.1;simpa using this
 have hperm:d'.toList.Perm xs:=by
  have h3:=hp.2.2;rw [show d'.extract 0 xs.length=d' by rw [←hsz];exact Array.extract_size] at h3;have h4:xs.toArray.extract 0 xs.length=xs.toArray:=by simp
  rw [h4] at h3;exact h3
 refine ⟨⟨d'.toList,hperm,?_⟩,rfl,?_⟩
 ·rw [bj];intro i j' hi hj hij;have hj2:j'<xs.length:=by simpa [hsz] using hj
  have:=hs i j' (aU _) hij hj2;rw [jH d' i (by omega),jH d' j' (by omega)] at this;simpa using this
 have:=tD (n:=n) (os:=os) (ys:=d'.toList) hk hw hkj (by simpa using hsz);simpa using this
end
def HY:Go.Shelf.Ren:=⟨fun|6=>327|15=>162|14=>345|28=>219|29=>220|20=>348|21=>349|22=>350|23=>351|24=>352|25=>353|26=>354|27=>355|46=>356|47=>280|48=>281|49=>357|50=>358|57=>359|n=>n,fun|22=>315|24=>153|25=>400|3=>3|39=>257|0=>0|53=>305|55=>307|4=>4|46=>299|45=>298|50=>229|5=>5|9=>9|66=>359|70=>363|76=>388|77=>77|n=>n,fun|n=>n⟩
theorem S':Go.Proofs.SlLaysF0.n6 Tryz.prog HY:={
 mixed:=by kernel_rfl,
 f6:=⟨Tryz.f327.name,by decide,Tryz.func327.trans (aT some (by kernel_rfl))⟩,
 f14:=⟨Tryz.f345.name,by decide,Tryz.func345.trans (aT some (by kernel_rfl))⟩,
 f15:=Tryz.func162.trans (aT some (by kernel_rfl)),
 f20:=⟨Tryz.f348.name,by decide,Tryz.func348.trans (aT some (by kernel_rfl))⟩,
 f21:=⟨Tryz.f349.name,by decide,Tryz.func349.trans (aT some (by kernel_rfl))⟩,
 f22:=⟨Tryz.f350.name,by decide,Tryz.func350.trans (aT some (by kernel_rfl))⟩,
 f23:=⟨Tryz.f351.name,by decide,Tryz.func351.trans (aT some (by kernel_rfl))⟩,
 f24:=⟨Tryz.f352.name,by decide,Tryz.func352.trans (aT some (by kernel_rfl))⟩,
 f25:=⟨Tryz.f353.name,by decide,Tryz.func353.trans (aT some (by kernel_rfl))⟩,
 f26:=⟨Tryz.f354.name,by decide,Tryz.func354.trans (aT some (by kernel_rfl))⟩,
 f27:=⟨Tryz.f355.name,by decide,Tryz.func355.trans (aT some (by kernel_rfl))⟩,
 f28:=Tryz.func219.trans (aT some (by kernel_rfl)),
 f29:=Tryz.func220.trans (aT some (by kernel_rfl)),
 f46:=⟨Tryz.f356.name,by decide,Tryz.func356.trans (aT some (by kernel_rfl))⟩,
 f47:=Tryz.func280.trans (aT some (by kernel_rfl)),
 f48:=Tryz.func281.trans (aT some (by kernel_rfl)),
 f49:=⟨Tryz.f357.name,by decide,Tryz.func357.trans (aT some (by kernel_rfl))⟩,
 f50:=⟨Tryz.f358.name,by decide,Tryz.func358.trans (aT some (by kernel_rfl))⟩,
 f57:=⟨Tryz.f359.name,by decide,Tryz.func359.trans (aT some (by kernel_rfl))⟩,
 t0:=pX,
 a0:=yW,
 z0:=wm,
 v0:=qN,
 t3:=aG,
 a3:=aJ,
 z3:=ax,
 v3:=bh,
 t4:=iL,
 a4:=kK,
 z4:=dG,
 v4:=gK,
 t5:=jX,
 a5:=yU,
 z5:=wk,
 v5:=qM,
 t9:=pW,
 a9:=yT,
 z9:=wj,
 v9:=qL,
 t22:=bG,
 a22:=Tryz.isAgg315,
 z22:=Tryz.sizeOf315,
 v22:=Tryz.zeroValue315,
 t25:=Tryz.underlying400,
 a25:=Tryz.isAgg400,
 z25:=Tryz.sizeOf400,
 v25:=Tryz.zeroValue400,
 t39:=nA,
 a39:=uo,
 z39:=sG,
 v39:=oI,
 t45:=ny,
 a45:=um,
 z45:=sF,
 v45:=oH,
 t46:=nx,
 a46:=uk,
 z46:=sE,
 v46:=oG,
 t50:=nC,
 a50:=uq,
 z50:=sH,
 v50:=oJ,
 t53:=nw,
 a53:=uj,
 z53:=sD,
 v53:=oF,
 t55:=nu,
 a55:=ui,
 z55:=sC,
 v55:=oE,
 t66:=ns,
 a66:=uh,
 z66:=sy,
 v66:=oC,
 t70:=nr,
 a70:=ug,
 z70:=sx,
 v70:=oB,
 t76:=nq,
 a76:=uf,
 z76:=sw,
 v76:=oz,
 t77:=oN,
 a77:=wu,
 z77:=ue,
 v77:=pV}
section
open Go.Shelf Go.Lib Go.Sort
theorem PC {w0 w:World} {L:List E.Item} (hw:Mem w0 L w) {j c:Nat} {A:Option Addr} {xs:List Wn} (hkj:L[j]?=some (fP A c xs)) (hn:xs.length≤1000000):
  Calls Tryz.prog 327 #[.slice A xs.length c, .func (.func 328) #[] #[]] w fun r w'=> ∃ys:{ys:List Wn//ys.Perm xs∧ys.Pairwise fun x y=>ltOf (fun x y:Wn=>j0 x.lo y.lo) y x=false},r= .returned (.tuple #[])∧Mem w0 (L.set j (fP A c ys.1)) w':=
 H0 S' 2 ur bM Wn.cells (fun _=>rfl) (fun x v hv=>by simp [Wn.cells] at hv;rcases hv with rfl|rfl<;>rfl) _ 328 (MC (·.lo) _ (fun x y=>by unfold ltOf;exact vR _ _)) Tryz.call328 S0 hw hkj hn
theorem Mi {w0 w:World} {L:List E.Item} (hw:Mem w0 L w) {j c n:Nat} {A:Option Addr} {xs:List Wn} (hl:xs.length=n) (hkj:L[j]?=some (fP A c xs)) (hn:n≤1000000):
  Calls Tryz.prog 327 #[.slice A n c, .func (.func 328) #[] #[]] w fun r w'=> ∃ys:{ys:List Wn//ys.Perm xs∧ys.Pairwise fun x y=>ltOf (fun x y:Wn=>j0 x.lo y.lo) y x=false},r= .returned (.tuple #[])∧Mem w0 (L.set j (fP A c ys.1)) w':=by
 subst hl;exact PC hw hkj hn
theorem KH {ys:List Wn} (h:ys.Pairwise fun x y=>ltOf (fun x y:Wn=>j0 x.lo y.lo) y x=false):ys.Pairwise fun x y=>x.lo≤y.lo:=h.imp fun {a b} hab=>by
 unfold ltOf at hab;rw [vR] at hab;simpa using hab
end
theorem FP (A:Option Addr) (n c:Nat) (xs:List Wn) (w:World) (hx:ub w A n xs):Calls Tryz.prog 324 #[.slice A n c, .func (.func 325) #[] #[]] w fun e w'=>e= .returned (.bool (xs.any fun x=>!ze x))∧gz w w':=by
 refine aS Tryz.func324 rfl Tryz.ntmps324 rfl ?_;iterate 9 refine G ?_
 refine qW (en Tryz.call344 (gr (q0 rfl) (q0 rfl))) (fun w hw=>(Mj A n c xs w (hx.mem hw)).mono fun r w' h=>(match h with|⟨⟨i,h1,h2⟩,hb⟩=>(⟨(⟨i,h2⟩:{i:Int//decide (0≤i)=xs.any fun x=>!ze x}),h1,iT.2 hb⟩: ∃z:{i:Int//decide (0≤i)=xs.any fun x=>!ze x},r= .returned (.int .i64 z.1)∧Mem w [] w'))) rfl (fun _=>rfl) fun z=>?_;iterate 5 refine G ?_
 exact bH (v:= .bool _) rfl rfl rfl fun w' hw=>⟨fK (show decide (0≤z.1)=_ from z.2),hw.1⟩
open Go Go.RowKit Go.Proofs.E Go.Proofs.Cus
theorem oU.any {l:List Wn} (h:oU l):(l.any fun x=>!ze x)=false:=by
 rw [jf];intro x hx;have:=h x hx;have:ze x=true:=by unfold ze;simp;omega
 rw [this];decide
theorem oU.perm {l m:List Wn} (h:oU l) (hp:m.Perm l):oU m:=fun x hx=>h x (hp.mem_iff.1 hx)
theorem Cg {out:List Wn} {z x:Wn} (h:out[out.length -1]?=some z) (hx: ¬x.lo=x.hi) (hz:x.lo≤z.hi):iN out x=out.set (out.length -1) {z with hi:=max z.hi x.hi}:=by
 unfold iN;rw [ah hx];rcases FG out with rfl|⟨l,q,rfl⟩
 ·cases h
 rw [FI] at h⊢;have hq:q=z:=by simpa using h
 subst hq;rw [HM,Dc];simp only [Wk];rw [av hz,List.dropLast_concat];simp
theorem Am {out:List Wn} {z x:Wn} (h:out[out.length -1]?=some z) (hx: ¬x.lo=x.hi) (hz: ¬x.lo≤z.hi):iN out x=out++[x]:=by
 unfold iN;rw [ah hx];rcases FG out with rfl|⟨l,q,rfl⟩
 ·cases h
 rw [FI] at h⊢;have hq:q=z:=by simpa using h
 subst hq;rw [HM,Dc];simp only [Wk];rw [ah hz]
theorem GG {x:Wn} (hx: ¬x.lo=x.hi):iN [] x=[x]:=by
 unfold iN;rw [ah hx];rfl
theorem Cf {out:List Wn} {x:Wn} (hx:x.lo=x.hi):iN out x=out:=by
 unfold iN;rw [av hx]
def fm (l:List Wn) (k:Nat):List Wn:=(l.take k).foldl iN []
theorem QN {l:List Wn} {k:Nat} {x:Wn} (h:l[k]?=some x):fm l (k+1)=iN (fm l k) x:=by
 unfold fm;rw [od _ _ _ h,df];rfl
theorem TQ (l:List Wn) (k:Nat):(fm l k).length≤k:=by
 have:=Cz (l.take k) [];unfold fm;rw [cH] at this;simp only [eU,dj] at this;omega
attribute [local irreducible] iN
theorem EG (A:Option Addr) (n c:Nat) (xs:List Wn) (w:World) (hx:ub w A n xs) (hn:n≤10000) (hv:oU xs):Calls Tryz.prog 290 #[.slice A n c] w fun e w'=> ∃z:Option Addr×Nat,e= .returned (.tuple #[.slice z.1 (gE xs).length z.2, .int .i64 0])∧Mem w [fP z.1 z.2 (gE xs)] w':=by
 have hl:=hx.1;refine aS Tryz.func290 rfl Tryz.ntmps290 rfl ?_;iterate 10 refine G ?_
 refine bZ (jZ (i:=Tryz.t153) (k:=2) (n:=n) (m:=n) Wn.cells (⟨0,0⟩:Wn) bG (by kernel_rfl) rfl rfl rfl rfl rfl ⟨⟨bq _,by omega⟩,by decide⟩ rfl fun b11=>?_);iterate 7 refine G ?_
 refine bZ (TW (k:=2) (i:=Tryz.t153) (enc:=Wn.cells) 0 bG (by kernel_rfl) rfl (fun _=>rfl) (fun _=>rfl) rfl rfl rfl rfl (by simp) (fun w hw=>hx.mem hw) rfl ?_);iterate 6 refine G ?_
 refine gV (en Tryz.call324 (gr (q0 rfl) (q0 rfl))) (fun _ w hw=>FP (some ⟨b11,0,none⟩) n n xs w (hl▸cW hw (j:=0) rfl (fun _=>rfl) (by omega))) ?_;iterate 2 refine G ?_
 refine au rfl ?_ ?_<;>intro h1
 ·exfalso;rw [hv.any] at h1;cases h1
 iterate 5 refine G ?_
 refine bZ (bR (en Tryz.call327 (gr (q0 rfl) (q0 rfl))) (fun w hw=>Mi hw (j:=0) hl rfl (by omega)) rfl (fun _=>rfl) fun s=>?_);obtain ⟨ys,hys,hso⟩:=s;have hyn:uR ys=gE xs:=Nd hv.le hys (KH hso);have hyv:oU ys:=hv.perm hys;have hyl:ys.length=n:=by rw [hys.length_eq,hl]
 have hfull:fm ys n=gE xs:=by rw [←hyn];unfold fm uR;rw [bN (by omega)]
 iterate 3 refine G ?_
 refine fY (L':=[fP none 0 [],fP (some ⟨b11,0,none⟩) n ys]) (fun w hw=>hw.eX 153 2 Wn.cells rfl) rfl ?_;iterate 13 refine G ?_
 refine ct [5,7,8,21,22,23,24,25,26,27,28,29,30,31,32,33,34,35,36,37,38,39,40,41,42,43,44,45,46,47,48,49,50,51,52,53,54,55,56,57,58,59,60,61,62,63] (fun q:Nat×Option Addr×Nat=>[(21, .int .i64 q.1),(5, .slice q.2.1 (fm ys q.1).length q.2.2)]) (fun q=>[fP q.2.1 q.2.2 (fm ys q.1),fP (some ⟨b11,0,none⟩) n ys]) (fun q=>q.1≤n) (fun q=>n -q.1) (0,none,0) ⟨rfl,rfl,trivial⟩ (fun w hw=>hw) rfl (aU _) ?_;rintro ⟨k,oA,oc⟩ g hk;simp only at hk;iterate 6 refine G ?_
 refine au rfl ?_ ?_<;>intro hlt
 ·have hlt':k<n:=by simpa using hlt
  obtain ⟨x,hxk⟩: ∃x,ys[k]?=some x:=⟨_,aj (by omega)⟩;have hfs:=QN hxk;have hfl:=TQ ys k;have hxv:=hyv x (an hxk);iterate 6 refine G ?_
  refine bO (bt k bG bM (q0 rfl) (q0 rfl) (fun _=>⟨rfl,by omega⟩)) ?_;refine bO (km (vs:=x.cells) ur bM (q0 rfl) (sf 1 rfl hxk) rfl) ?_;refine cx cN rfl fun b7=>?_;refine fI (v:= .agg _) rfl rfl bM ?_;iterate 6 refine G ?_
  refine bO (ou (r:=((fm ys k).length:Int) -1) (q0 rfl) (q0 rfl) (fun _=>⟨rfl,by omega,by omega⟩)) ?_;iterate 14 refine G ?_
  refine au rfl ?_ ?_<;>intro h2
  ·have h2':x.lo=x.hi:=by simpa using h2
   iterate 8 refine G ?_
   refine ay (k+1,oA,oc) eE ⟨rfl,by rw [hfs,Cf h2'];rfl,trivial⟩ (fun w hw=>by rw [hfs,Cf h2'];exact hw.tail) rfl (by show k+1≤n;omega) (by show n -(k+1)<n -k;omega)
  have h2': ¬x.lo=x.hi:=by simpa using h2
  rcases du (fm ys k).length with h0|h0
  ·have h00:fm ys k=[]:=bW h0;rw [h00];rw [h00,GG h2'] at hfs;refine G ?_;refine tB ?_;iterate 3 refine G ?_
   refine qV (jG (v:= .pointer none) (by decide)) rfl rfl ?_;refine qV (jG (v:= .int .i64 0) (by decide)) rfl rfl ?_;refine qV (jG (v:= .slice none 0 0) (by decide)) rfl rfl ?_;refine qV (jG (v:= .int .i64 0) (by decide)) rfl rfl ?_;refine qV (jG (v:= .pointer none) (by decide)) rfl rfl ?_;refine qV (jG (v:= .pointer none) (by decide)) rfl rfl ?_;refine qV (jG (v:= .int .i64 0) (by decide)) rfl rfl ?_;refine qV (jG (v:= .bool false) (by decide)) rfl rfl ?_;iterate 4 refine G ?_
   refine au rfl ?_ ?_<;>intro h3
   ·exfalso;simp at h3
   iterate 3 refine G ?_
   refine lq (k:=2) (i:=Tryz.t153) 1 (x) bG (by kernel_rfl) rfl rfl rfl rfl bM cN rfl rfl rfl rfl rfl rfl ⟨by simp,by decide⟩ rfl rfl fun B0 A1 c1=>?_;iterate 9 refine G ?_
   refine ay (k+1,A1,c1) eE ⟨rfl,by rw [hfs];rfl,trivial⟩ (fun w hw=>by rw [hfs];exact hw.tail) rfl (by show k+1≤n;omega) (by show n -(k+1)<n -k;omega)
  obtain ⟨z,hz⟩: ∃z,(fm ys k)[(fm ys k).length -1]?=some z:=⟨_,aj (by omega)⟩;refine fN (fun w hw=>dP (j:=1) hw rfl h0) fun ⟨q,hq⟩=>?_;subst hq;refine G ?_;refine tB ?_;iterate 7 refine G ?_
  refine qV (bt ((fm ys k).length -1) bG bM (q1 rfl) (q1 rfl) (fun _=>⟨by first|omega|(simp only;omega),by first|omega|(simp only;omega)⟩)) rfl rfl ?_;refine G ?_;refine qV (ea (v:= .int .i64 z.hi) aJ (q1 rfl) (rr (r:=1) 1 rfl hz rfl)) rfl rfl ?_;iterate 5 refine G ?_
  refine au rfl ?_ ?_<;>intro h3
  ·have h3':x.lo≤z.hi:=by simp at h3;omega
   refine E.RT rfl rfl (by decide+kernel) ?_;iterate 4 refine G ?_
   refine bO (bt ((fm ys k).length -1) bG bM (q0 rfl) (q0 rfl) (fun _=>⟨by first|omega|(simp only;omega),by first|omega|(simp only;omega)⟩)) ?_;refine G ?_;refine bO (ea (v:= .int .i64 z.hi) aJ (q0 rfl) (rr (r:=1) 1 rfl hz rfl)) ?_;iterate 2 refine G ?_
   refine bO (vb (q0 rfl) (q0 rfl)) ?_;refine bO (bt ((fm ys k).length -1) bG bM (q0 rfl) (q0 rfl) (fun _=>⟨by first|omega|(simp only;omega),by first|omega|(simp only;omega)⟩)) ?_;iterate 3 refine G ?_
   refine bZ (jn 1 (i:=(fm ys k).length -1) (off:=1) {z with hi:=max z.hi x.hi} rfl rfl ax rfl rfl rfl hz rfl rfl ?_);iterate 8 refine G ?_
   refine ay (k+1,_,oc) eE ⟨rfl,by rw [hfs,Cg hz h2' h3',dU];rfl,trivial⟩ (fun w hw=>by rw [hfs,Cg hz h2' h3'];exact hw.tail) rfl (by show k+1≤n;omega) (by show n -(k+1)<n -k;omega)
  have h3': ¬x.lo≤z.hi:=by simp at h3;omega
  iterate 3 refine G ?_
  refine lq (k:=2) (i:=Tryz.t153) 1 (x) bG (by kernel_rfl) rfl rfl rfl rfl bM cN rfl rfl rfl rfl rfl rfl ⟨by simp only;omega,by decide⟩ rfl rfl fun B0 A1 c1=>?_;iterate 9 refine G ?_
  refine ay (k+1,A1,c1) eE ⟨rfl,by rw [hfs,Am hz h2' h3'];rfl,trivial⟩ (fun w hw=>by rw [hfs,Am hz h2' h3'];exact hw.tail) rfl (by show k+1≤n;omega) (by show n -(k+1)<n -k;omega)
 have hend:k=n:=by simp at hlt;omega
 subst hend;rw [hfull];iterate 13 refine G ?_
 exact fV (v:= .slice _ _ _) (x:= .int _ _) rfl rfl rfl rfl fun w' hw=>⟨(oA,oc),rfl,hw.pick [0] (by decide)⟩
end Go.Proofs.Far
namespace Go.Proofs.Far
open Go Go.RowKit Go.Proofs.E Go.Proofs.Cus
def bY (A:Option Addr):Nat:=(A.map (·.block)).getD 0
theorem Pw {w0 w:World} {L:List E.Item} {i c:Nat} {A:Option Addr} {ys:List Wn} (hw:Mem w0 L w) (hk:L[i]?=some (fP A c ys)):(0<ys.length→A=some ⟨bY A,0+0*2,none⟩)∧ys.length≤c:=by
 refine ⟨fun h=>?_,(Ge hw hk).1⟩;obtain ⟨b,rfl⟩:=dP hw hk h;rfl
theorem wz {w0 w:World} {L:List E.Item} {i c j r:Nat} {A:Option Addr} {ys:List Wn} {y:Wn} {v:Value} (hw:Mem w0 L w) (hk:L[i]?=some (fP A c ys)) (hy:ys[j]?=some y) (hv:y.cells[r]?=some v):w.cell? ⟨bY A,0+j*2+r,none⟩=some v:=by
 obtain ⟨b,rfl⟩:=dP hw hk (by have:=(aa.1 hy).1;omega);have:=yi (k:=2) (fun _=>rfl) hw hk hy hv;rw [dj];exact this
theorem IG {b j c m:Nat} (h:j+1<m) (hc:m≤c):ow (some ⟨b,0+j*2,none⟩) (c -j) 1 2=some ⟨b,0+(j+1)*2,none⟩:=by
 unfold ow;have: ¬c -j -1=0:=by omega
 have h2: ¬c -j=1:=by omega
 simp [this,h2,Addr.add,uv]
theorem OO (A:Option Addr) (n c:Nat) (xs:List Wn) (B:Option Addr) (m d:Nat) (ys:List Wn) (w:World) (hx:ub w A n xs) (hy:ub w B m ys) (hn:n≤10000) (hm:m≤10000) (hxv:oU xs) (hyv:oU ys):Calls Tryz.prog 323 #[.slice A n c, .slice B m d] w fun e w'=> ∃z:(Option Addr×Nat)×(Option Addr×Nat),e= .returned (.tuple #[.slice z.1.1 (gE xs).length z.1.2, .slice z.2.1 (gE ys).length z.2.2, .int .i64 0])∧Mem w [fP z.2.1 z.2.2 (gE ys),fP z.1.1 z.1.2 (gE xs)] w':=by
 refine aS Tryz.func323 rfl Tryz.ntmps323 rfl ?_;iterate 10 refine G ?_
 refine qW (en UA (il (q0 rfl))) (fun w hw=>EG A n c xs w (hx.mem hw) hn hxv) rfl (fun _=>rfl) fun z1=>?_;iterate 14 refine G ?_
 refine au rfl ?_ ?_<;>intro h1
 ·exfalso;simp at h1
 iterate 5 refine G ?_
 refine qW (en UA (il (q0 rfl))) (fun w hw=>EG B m d ys w (hy.mem hw) hm hyv) rfl (fun _=>rfl) fun z2=>?_;iterate 14 refine G ?_
 refine au rfl ?_ ?_<;>intro h2
 ·exfalso;simp at h2
 iterate 12 refine G ?_
 exact U8 (v:= .slice _ _ _) (x:= .slice _ _ _) (z:= .int _ _) rfl rfl rfl rfl rfl fun w' hw=>⟨(z1,z2),rfl,hw⟩
def cT (x:Wn) (Y:List Wn) (i j:Nat):List Wn:=if i=0 then (Y.take j).flatMap (tM x) else Y.flatMap (tM x)
theorem J3 {x y:Wn} {Y:List Wn} {j:Nat} (hy:Y[j]?=some y):cT x Y 0 (j+1)=cT x Y 0 j++tM x y:=by
 unfold cT;rw [av rfl,av rfl,od _ _ _ hy,lD];simp
theorem Rl {x y:Wn} {Y:List Wn} {j:Nat} (hY:Nf Y) (hy:Y[j]?=some y) (h:x.hi<y.hi):cT x Y 1 j=cT x Y 0 j++tM x y:=by
 rw [←J3 hy];unfold cT;rw [ah (by decide),av rfl]
 conv=>lhs;rw [←fz (j+1) Y]
 rw [lD];have:(Y.drop (j+1)).flatMap (tM x)=[]:=by
  rw [List.flatMap_eq_nil_iff];intro q hq;have hd:=(hY.drop j);rw [drop_at hy] at hd;have h1:=(bL.1 hd.apart).1 q hq;unfold tM;rw [ah (by omega)]
 rw [this,cz]
theorem T8 (x:Wn) (Y:List Wn) (i j:Nat):(cT x Y i j).length≤Y.length:=by
 have key: ∀l:List Wn,(l.flatMap (tM x)).length≤l.length:=by
  intro l
  induction l with
  |nil=>simp
  |cons a l ih=>
   rw [gD,bV,bB];have:(tM x a).length≤1:=by unfold tM;split<;>simp
   omega
 unfold cT;split
 ·have:=key (Y.take j);rw [cH] at this;omega
 exact key Y
theorem II {x:Wn} (Y:List Wn) (h: ¬x.lo=x.hi):lY x Y=Y.flatMap (tM x):=by
 unfold lY one;rw [ah h];simp
theorem He {x:Wn} (Y:List Wn) (h:x.lo=x.hi):lY x Y=[]:=by
 unfold lY one;rw [av h];rfl
attribute [local irreducible] cT
theorem Oz (A:Option Addr) (c:Nat) (x:Wn) (B:Option Addr) (m d:Nat) (ys:List Wn) (w:World) (hx:ub w A 1 [x]) (hy:ub w B m ys) (hm:m≤10000) (hxv:0≤x.lo∧x.lo≤x.hi∧x.hi≤4294944000) (hyv:oU ys):Calls Tryz.prog 288 #[.slice A 1 c, .slice B m d] w fun e w'=> ∃z:Option Addr×Nat,e= .returned (.tuple #[.slice z.1 (lY x (gE ys)).length z.2, .int .i64 0])∧Mem w [fP z.1 z.2 (lY x (gE ys))] w':=by
 have hul:=sW ys;have hyl:=hy.1;have hYn:=(xQ hyv.le).1;refine aS Tryz.func288 rfl Tryz.ntmps288 rfl ?_;iterate 10 refine G ?_
 refine qW (en Tryz.call323 (gr (q0 rfl) (q0 rfl))) (fun w hw=>OO A 1 c [x] B m d ys w (hx.mem hw) (hy.mem hw) (by decide) hm (oU.one hxv) hyv) rfl (fun _=>rfl) fun z=>?_;rw [zf];obtain ⟨⟨xA,xc⟩,⟨yA,yc⟩⟩:=z;generalize hY:gE ys=Y at*;iterate 16 refine G ?_
 refine au rfl ?_ ?_<;>intro h1
 ·exfalso;simp at h1
 iterate 3 refine G ?_
 refine fN (fun w hw=>Pw hw (i:=0) rfl) fun ⟨hyA,hyc⟩=>?_;refine fN (fun w hw=>Pw hw (i:=1) rfl) fun ⟨hxA,hxc⟩=>?_;refine fY (L':=[fP none 0 [],fP yA yc Y,fP xA xc (one x)]) (fun w hw=>hw.eX 153 2 Wn.cells rfl) rfl ?_;iterate 6 refine G ?_
 refine ct [6,7,9,10,21,22,23,24,25,26,27,28,29,30,31,32,33,34,35,36,37,38,39,40,41,42,43,44,45,46,47,48,49,50,51,52,53,54,55,56,57,58,59,60,61,62,63,64,65,66,67,68,69] (fun q:Nat×Nat×Option Addr×Option Addr×Option Addr×Nat=>[(6, .slice q.2.2.1 ((one x).length -q.1) (xc -q.1)),(7, .slice q.2.2.2.1 (Y.length -q.2.1) (yc -q.2.1)),(9, .slice q.2.2.2.2.1 (cT x Y q.1 q.2.1).length q.2.2.2.2.2)]) (fun q=>[fP q.2.2.2.2.1 q.2.2.2.2.2 (cT x Y q.1 q.2.1),fP yA yc Y,fP xA xc (one x)]) (fun q=>(q.1≤(one x).length∧q.2.1≤Y.length)∧(q.1<(one x).length→q.2.2.1=some ⟨bY xA,0+q.1*2,none⟩)∧(q.2.1<Y.length→q.2.2.2.1=some ⟨bY yA,0+q.2.1*2,none⟩)∧(x.lo=x.hi→q.2.1=0)) (fun q=>((one x).length -q.1)+(Y.length -q.2.1)) (0,0,xA,yA,none,0) ⟨rfl,rfl,by unfold cT;rfl,trivial⟩ (fun w hw=>by unfold cT;exact hw) rfl ⟨⟨aU _,aU _⟩,hxA,hyA,fun _=>rfl⟩ ?_;rintro ⟨i,j,aX,aY,oA,oc⟩ g ⟨⟨hi,hj⟩,hax,hay,hjz⟩;simp only at hi hj hax hay hjz;have hcl:=T8 x Y i j;iterate 13 refine G ?_
 refine au rfl ?_ ?_<;>intro hlt
 ·have hlt':i<(one x).length∧j<Y.length:=by
   have h:(decide ((0:Int)<(((one x).length -i:Nat):Int))&&decide ((0:Int)<((Y.length -j:Nat):Int)))=true:=hlt;simp at h;omega
  have hone:(one x).length=1∧one x=[x]∧x.lo≠x.hi:=by
   unfold one at hlt'⊢;split at hlt'<;>rename_i he
   ·simp at hlt'
   rw [ah he];exact ⟨rfl,rfl,he⟩
  have hi0:i=0:=by omega
  subst hi0;obtain ⟨y,hyj⟩: ∃y,Y[j]?=some y:=⟨_,aj hlt'.2⟩;have hax':=hax hlt'.1;have hay':=hay hlt'.2;subst hax' hay';have hxj:(one x)[0]?=some x:=by rw [hone.2.1];rfl
  have hst:=J3 (x:=x) hyj;have hdn:=Rl (x:=x) hYn hyj;iterate 4 refine G ?_
  refine AQ ?_;refine aW 0 ?_;refine iQ 1 rfl (bt 0 bG bM (q0 rfl) (q0 rfl) (fun _=>⟨rfl,by show 0<(one x).length -0;omega⟩)) ?_;refine aW 2 ?_;refine iQ 3 rfl (ea (v:= .int .i64 x.lo) aJ (q0 rfl) (fun _ w hw=>wz (r:=0) hw (i:=2) rfl hxj rfl)) ?_;refine aW 4 ?_;refine iQ 5 rfl (bt 0 bG bM (q0 rfl) (q0 rfl) (fun _=>⟨rfl,by show 0<Y.length -j;omega⟩)) ?_;refine aW 6 ?_;refine iQ 7 rfl (ea (v:= .int .i64 y.lo) aJ (q0 rfl) (fun _ w hw=>wz (r:=0) hw (i:=1) rfl hyj rfl)) ?_;refine iQ 8 rfl (vb (q0 rfl) (q0 rfl)) ?_;refine aW 9 ?_;refine iQ 10 rfl (bt 0 bG bM (q0 rfl) (q0 rfl) (fun _=>⟨rfl,by show 0<(one x).length -0;omega⟩)) ?_;refine aW 11 ?_;refine iQ 12 rfl (ea (v:= .int .i64 x.hi) aJ (q0 rfl) (fun _ w hw=>wz (r:=1) hw (i:=2) rfl hxj rfl)) ?_;refine aW 13 ?_;refine iQ 14 rfl (bt 0 bG bM (q0 rfl) (q0 rfl) (fun _=>⟨rfl,by show 0<Y.length -j;omega⟩)) ?_;refine aW 15 ?_;refine iQ 16 rfl (ea (v:= .int .i64 y.hi) aJ (q0 rfl) (fun _ w hw=>wz (r:=1) hw (i:=1) rfl hyj rfl)) ?_;refine iQ 17 rfl (Fh (q0 rfl) (q0 rfl)) ?_;refine iQ 18 rfl (bS ir D8 cN (pt (v:= .int _ _) rfl (pt (v:= .int _ _) rfl E.p0)) rfl) ?_;refine r1 19 0 ?_;refine aL rfl (lX cN rfl fun b10=>?_);refine r1 20 1 ?_;refine aL rfl (kU (v:= .agg _) rfl rfl bM ?_);refine jz 1 ?_;iterate 11 refine G ?_
  refine au rfl ?_ ?_<;>intro h3
  ·have h3':tM x y=[⟨max x.lo y.lo,min x.hi y.hi⟩]:=by
    have:max x.lo y.lo<min x.hi y.hi:=cJ h3;unfold tM;rw [av this]
   rw [h3'] at hst hdn;iterate 3 refine G ?_
   refine lq (k:=2) (i:=Tryz.t153) 1 (⟨max x.lo y.lo,min x.hi y.hi⟩) bG (by kernel_rfl) rfl rfl rfl rfl bM cN rfl rfl rfl rfl rfl rfl ⟨by simp only;omega,by decide⟩ rfl rfl fun B0 A1 c1=>?_;iterate 4 refine G ?_
   refine tB ?_;refine G ?_;refine bO (bt 0 bG bM (q0 rfl) (q0 rfl) (fun _=>⟨rfl,by show 0<(one x).length -0;omega⟩)) ?_;refine G ?_;refine bO (ea (v:= .int .i64 x.hi) aJ (q0 rfl) (fun _ w hw=>wz (r:=1) hw (i:=3) rfl hxj rfl)) ?_;refine G ?_;refine bO (bt 0 bG bM (q0 rfl) (q0 rfl) (fun _=>⟨rfl,by show 0<Y.length -j;omega⟩)) ?_;refine G ?_;refine bO (ea (v:= .int .i64 y.hi) aJ (q0 rfl) (fun _ w hw=>wz (r:=1) hw (i:=2) rfl hyj rfl)) ?_;iterate 3 refine G ?_
   refine au rfl ?_ ?_<;>intro h4
   ·have h4':x.hi<y.hi:=cJ h4;have hdn':=hdn h4';iterate 2 refine G ?_
    refine bO (yJ 1 bG bM (q0 rfl) (q0 rfl) (fun _=>⟨rfl,by show 1≤(one x).length -0;omega⟩)) ?_;iterate 3 refine G ?_
    refine ay (1,j,ow (some ⟨bY xA,0+0*2,none⟩) (xc -0) 1 2,some ⟨bY yA,0+j*2,none⟩,A1,c1) eE ⟨rfl,rfl,by rw [hdn'];rfl,trivial⟩ (fun w hw=>by rw [hdn'];exact hw.tail) rfl ⟨⟨by simp only;omega,by simp only;omega⟩,fun h=>by simp only at h;omega,fun _=>rfl,fun h=>absurd h hone.2.2⟩ (by simp only;omega)
   iterate 2 refine G ?_
   refine bO (yJ 1 bG bM (q0 rfl) (q0 rfl) (fun _=>⟨rfl,by show 1≤Y.length -j;omega⟩)) ?_;iterate 3 refine G ?_
   refine ay (0,j+1,some ⟨bY xA,0+0*2,none⟩,ow (some ⟨bY yA,0+j*2,none⟩) (yc -j) 1 2,A1,c1) eE ⟨rfl,rfl,by rw [hst];rfl,trivial⟩ (fun w hw=>by rw [hst];exact hw.tail) rfl ⟨⟨by simp only;omega,by simp only;omega⟩,fun _=>rfl,fun h=>IG h hyc,fun h=>absurd h hone.2.2⟩ (by simp only;omega)
  have h3':tM x y=[]:=by
   have: ¬max x.lo y.lo<min x.hi y.hi:=cS h3;unfold tM;rw [ah this]
  rw [h3',cz] at hst hdn;iterate 3 refine G ?_
  refine tB ?_;refine G ?_;refine bO (bt 0 bG bM (q0 rfl) (q0 rfl) (fun _=>⟨rfl,by show 0<(one x).length -0;omega⟩)) ?_;refine G ?_;refine bO (ea (v:= .int .i64 x.hi) aJ (q0 rfl) (fun _ w hw=>wz (r:=1) hw (i:=3) rfl hxj rfl)) ?_;refine G ?_;refine bO (bt 0 bG bM (q0 rfl) (q0 rfl) (fun _=>⟨rfl,by show 0<Y.length -j;omega⟩)) ?_;refine G ?_;refine bO (ea (v:= .int .i64 y.hi) aJ (q0 rfl) (fun _ w hw=>wz (r:=1) hw (i:=2) rfl hyj rfl)) ?_;iterate 3 refine G ?_
  refine au rfl ?_ ?_<;>intro h4
  ·have h4':x.hi<y.hi:=cJ h4;have hdn':=hdn h4';iterate 2 refine G ?_
   refine bO (yJ 1 bG bM (q0 rfl) (q0 rfl) (fun _=>⟨rfl,by show 1≤(one x).length -0;omega⟩)) ?_;iterate 3 refine G ?_
   refine ay (1,j,ow (some ⟨bY xA,0+0*2,none⟩) (xc -0) 1 2,some ⟨bY yA,0+j*2,none⟩,oA,oc) eE ⟨rfl,rfl,by rw [hdn'];rfl,trivial⟩ (fun w hw=>by rw [hdn'];exact hw.tail) rfl ⟨⟨by simp only;omega,by simp only;omega⟩,fun h=>by simp only at h;omega,fun _=>rfl,fun h=>absurd h hone.2.2⟩ (by simp only;omega)
  iterate 2 refine G ?_
  refine bO (yJ 1 bG bM (q0 rfl) (q0 rfl) (fun _=>⟨rfl,by show 1≤Y.length -j;omega⟩)) ?_;iterate 3 refine G ?_
  refine ay (0,j+1,some ⟨bY xA,0+0*2,none⟩,ow (some ⟨bY yA,0+j*2,none⟩) (yc -j) 1 2,oA,oc) eE ⟨rfl,rfl,by rw [hst];rfl,trivial⟩ (fun w hw=>by rw [hst];exact hw.tail) rfl ⟨⟨by simp only;omega,by simp only;omega⟩,fun _=>rfl,fun h=>IG h hyc,fun h=>absurd h hone.2.2⟩ (by simp only;omega)
 have hlt': ¬(i<(one x).length∧j<Y.length):=by
  have h:(decide ((0:Int)<(((one x).length -i:Nat):Int))&&decide ((0:Int)<((Y.length -j:Nat):Int)))=false:=hlt;simp at h;omega
 have hend:cT x Y i j=lY x Y:=by
  by_cases he:x.lo=x.hi
  ·have h0:(one x).length=0:=by unfold one;rw [av he];rfl
   have hi0:i=0:=by omega
   rw [He Y he,hi0,hjz he];unfold cT;rfl
  have h0:(one x).length=1:=by unfold one;rw [ah he];rfl
  rw [II Y he];unfold cT;split
  ·rw [bN (by omega)]
  rfl
 rw [hend];iterate 13 refine G ?_
 exact fV (v:= .slice _ _ _) (x:= .int _ _) rfl rfl rfl rfl fun w' hw=>⟨(oA,oc),rfl,hw.pick [0] (by decide)⟩
end Go.Proofs.Far
namespace Go.Proofs.Far
open Go Go.RowKit Go.Proofs.E Go.Proofs.Cus
def mS (x:Wn) (Y:List Wn) (j i:Nat):List Wn×Int:=((Y.drop j).take i).foldl (lI x) ([],x.lo)
theorem E4 (x:Wn) (Y:List Wn) (j:Nat):mS x Y j 0=([],x.lo):=rfl
theorem NO {Y:List Wn} {j i:Nat} {y:Wn} (h:Y[j+i]?=some y):(Y.drop j)[i]?=some y:=by rw [kC];exact h
theorem Qt {x:Wn} {Y:List Wn} {j i:Nat} {y:Wn} (h:Y[j+i]?=some y):mS x Y j (i+1)=lI x (mS x Y j i) y:=by
 unfold mS;rw [od _ _ _ (NO h),df];rfl
theorem Qv {x:Wn} {Y:List Wn} {j:Nat} {y:Wn} (hY:Nf Y) (hj:Y[j]?=some y) (h:y.hi≤x.lo) (i:Nat):mS x Y j (i+1)=mS x Y (j+1) i:=by
 unfold mS;rw [drop_at hj,Kn,cO,GB (hY.pos y (an hj)) h]
theorem Iq (x:Wn) (Y:List Wn) {j i:Nat} (h:Y.length≤j+i):mS x Y j i=(Y.drop j).foldl (lI x) ([],x.lo):=by
 unfold mS;rw [bN (by rw [Dt];omega)]
theorem Qu {x:Wn} {Y:List Wn} {j i:Nat} {y:Wn} (hY:Nf Y) (h:Y[j+i]?=some y) (hh:x.hi≤y.lo):mS x Y j i=(Y.drop j).foldl (lI x) ([],x.lo):=by
 unfold mS
 conv=>rhs;rw [←fz i (Y.drop j)]
 rw [df];refine (Ce _ fun q hq=>?_).symm;rw [Wm] at hq;have hd:=hY.drop (j+i);rw [drop_at h] at hd hq;rcases bU.1 hq with rfl|hq
 ·exact hh
 have:=hd.Ub q hq;omega
theorem Np (x:Wn) (Y:List Wn) (j i:Nat):(mS x Y j i).1.length≤Y.length:=by
 unfold mS;have:=zG (w:=x) ((Y.drop j).take i) ([],x.lo);rw [cH,Dt] at this;simp only [eU,dj] at this;omega
theorem TK {x:Wn} (hx:0≤x.lo∧x.lo≤x.hi∧x.hi≤4294944000) {Y:List Wn} (hY:oU Y) (j i:Nat):0≤(mS x Y j i).2∧(mS x Y j i).2≤4294944000:=
 (zH hx _ ([],x.lo) (fun q hq=>hY q (List.mem_of_mem_drop (HK hq))) ⟨oU.nil,by simp only;omega,by simp only;omega⟩).2
theorem Ld {x:Wn} (Y:List Wn) (h: ¬x.lo=x.hi):lS x Y=zF x Y:=by
 unfold lS one;rw [ah h];simp
theorem Il {x:Wn} (Y:List Wn) (h:x.lo=x.hi):lS x Y=[]:=by
 unfold lS one;rw [av h];rfl
theorem Lf {x:Wn} {Y:List Wn} {j i:Nat} (hE: ∀q,mS x Y 0 (j+q)=mS x Y j q) (h:mS x Y j i=(Y.drop j).foldl (lI x) ([],x.lo)):zF x Y=GH x (mS x Y j i):=by
 unfold zF;congr 1;rw [h,←Iq x Y (j:=j) (i:=Y.length) (by omega),←hE,Iq x Y (by omega)];rfl
theorem getD_at {Y:List Wn} {j:Nat} (h:j<Y.length):Y[j]?=some (Y.getD j default):=by rw [aq,aj h];rfl
theorem SR {w0 w:World} {L:List E.Item} {k c j i r:Nat} {A:Option Addr} {ys:List Wn} {y:Wn} {v:Value} (hw:Mem w0 L w) (hk:L[k]?=some (fP A c ys)) (hy:ys[j+i]?=some y) (hv:y.cells[r]?=some v):w.cell? ⟨bY A,0+j*2+i*2+r,none⟩=some v:=by
 have:=wz (r:=r) hw hk hy hv;rw [show 0+j*2+i*2+r=0+(j+i)*2+r by omega];exact this
attribute [local irreducible] mS lI
theorem Qs (A:Option Addr) (c:Nat) (x:Wn) (B:Option Addr) (m d:Nat) (ys:List Wn) (w:World) (hx:ub w A 1 [x]) (hy:ub w B m ys) (hm:m≤10000) (hxv:0≤x.lo∧x.lo≤x.hi∧x.hi≤4294944000) (hyv:oU ys):Calls Tryz.prog 286 #[.slice A 1 c, .slice B m d] w fun e w'=> ∃z:Option Addr×Nat,e= .returned (.tuple #[.slice z.1 (lS x (gE ys)).length z.2, .int .i64 0])∧Mem w [fP z.1 z.2 (lS x (gE ys))] w':=by
 have hul:=sW ys;have hyl:=hy.1;have hYn:=(xQ hyv.le).1;have hYv:=qD hyv;refine aS Tryz.func286 rfl Tryz.ntmps286 rfl ?_;iterate 10 refine G ?_
 refine qW (en Tryz.call323 (gr (q0 rfl) (q0 rfl))) (fun w hw=>OO A 1 c [x] B m d ys w (hx.mem hw) (hy.mem hw) (by decide) hm (oU.one hxv) hyv) rfl (fun _=>rfl) fun z=>?_;rw [zf];obtain ⟨⟨xA,xc⟩,⟨yA,yc⟩⟩:=z;generalize hY:gE ys=Y at*;iterate 16 refine G ?_
 refine au rfl ?_ ?_<;>intro h1
 ·exfalso;simp at h1
 iterate 3 refine G ?_
 refine fN (fun w hw=>Pw hw (i:=0) rfl) fun ⟨hyA,hyc⟩=>?_;refine fN (fun w hw=>Pw hw (i:=1) rfl) fun ⟨hxA,hxc⟩=>?_;refine fY (L':=[fP none 0 [],fP yA yc Y,fP xA xc (one x)]) (fun w hw=>hw.eX 153 2 Wn.cells rfl) rfl ?_;iterate 13 refine G ?_
 refine ct [7,9,11,12,14,27,28,29,30,31,32,33,34,35,36,37,38,39,40,41,42,43,44,45,46,47,48,49,50,51,52,53,54,55,56,57,58,59,60,61,62,63,64,65,66,67,68,69,70,71,72,73,74,75,76,77,78,79,80,81,82,83,84,85] (fun q:Nat×Value×Option Addr×Nat=>[(27, .int .i64 q.1),(7,q.2.1),(9, .slice q.2.2.1 (if q.1=0 then ([]:List Wn) else lS x Y).length q.2.2.2)]) (fun q=>[fP q.2.2.1 q.2.2.2 (if q.1=0 then [] else lS x Y),fP yA yc Y,fP xA xc (one x)]) (fun q=>q.1≤(one x).length∧(q.1=0→q.2.1= .slice yA Y.length yc)) (fun q=>(one x).length -q.1) (0, .slice yA Y.length yc,none,0) ⟨rfl,rfl,rfl,trivial⟩ (fun w hw=>hw) rfl ⟨aU _,fun _=>rfl⟩ ?_;rintro ⟨k,yV,oA,oc⟩ g ⟨hk,hyV⟩;simp only at hk hyV;iterate 6 refine G ?_
 refine au rfl ?_ ?_<;>intro hlt
 ·have hlt':k<(one x).length:=by
   have h:(k:Int)<((one x).length:Int):=cJ hlt;omega
  have hone:(one x).length=1∧one x=[x]∧ ¬x.lo=x.hi:=by
   unfold one at hlt'⊢;split at hlt'<;>rename_i he
   ·simp at hlt'
   rw [ah he];exact ⟨rfl,rfl,he⟩
  have hk0:k=0:=by omega
  subst hk0;have hyV':=hyV rfl;subst hyV';have hxA':=hxA (by omega);have hxj:(one x)[0]?=some x:=by rw [hone.2.1];rfl
  obtain ⟨xb,hxb⟩: ∃xb,xA=some ⟨xb,0,none⟩:=⟨_,hxA'⟩;subst hxb;clear hxA hxA';rw [av (rfl:(0:Nat)=0)];iterate 6 refine G ?_
  refine bO (bt 0 bG bM (q0 rfl) (q0 rfl) (fun _=>⟨rfl,hlt'⟩)) ?_;refine bO (km (vs:=x.cells) ur bM (q0 rfl) (sf 2 rfl hxj) rfl) ?_;refine cx cN rfl fun b11=>?_;refine fI (v:= .agg _) rfl rfl bM ?_;iterate 4 refine G ?_
  refine ct [7,31,32,33,34,35,36,37,38,39,40,41,42,43,44] (fun q:Nat×Option Addr=>[(7, .slice q.2 (Y.length -q.1) (yc -q.1))]) (fun q=>[box b11 153 x.cells,fP oA oc [],fP yA yc Y,fP (some ⟨xb,0,none⟩) xc (one x)]) (fun q=>q.1≤Y.length∧(q.1<Y.length→q.2=some ⟨bY yA,0+q.1*2,none⟩)∧(∀i,mS x Y 0 (q.1+i)=mS x Y q.1 i)) (fun q=>Y.length -q.1) (0,yA) ⟨rfl,trivial⟩ (fun w hw=>hw) rfl ⟨aU _,hyA,fun i=>by simp only [dj]⟩ ?_;rintro ⟨j,aY⟩ g2 ⟨hj,hay,hE⟩;simp only at hj hay hE;iterate 2 refine G ?_
  refine tB ?_;iterate 5 refine G ?_
  refine qV (bt (b:=bY yA) (o:=0+j*2) (n:=Y.length -j) (cp:=yc -j) 0 bG bM (fun hg=>by rw [←hay (by simp at hg;omega)];exact q1 rfl hg) (q0 rfl) (fun hg=>⟨rfl,by simp at hg;omega⟩)) rfl rfl ?_;refine G ?_;refine qV (ea (v:= .int .i64 (Y.getD j default).hi) aJ (q1 rfl) (fun hg w hw=>wz (r:=1) hw (i:=2) rfl (y:=Y.getD j default) (getD_at (by simp at hg;omega)) rfl)) rfl rfl ?_;iterate 6 refine G ?_
  refine au rfl ?_ ?_<;>intro h2
  ·have h2':j<Y.length∧(Y.getD j default).hi≤x.lo:=by
    have h:(decide ((0:Int)<((Y.length -j:Nat):Int))&&decide ((Y.getD j default).hi≤x.lo))=true:=h2;simp only [bQ,dd] at h;exact ⟨by omega,h.2⟩
   obtain ⟨y,hyj⟩: ∃y,Y[j]?=some y:=⟨_,aj h2'.1⟩;have hyd:Y.getD j default=y:=by rw [aq,hyj];rfl
   rw [hyd] at h2';have hay':=hay h2'.1;subst hay';iterate 5 refine G ?_
   refine bO (yJ 1 bG bM (q0 rfl) (q0 rfl) (fun _=>⟨rfl,by show 1≤Y.length -j;omega⟩)) ?_;iterate 3 refine G ?_
   exact ay (j+1,ow (some ⟨bY yA,0+j*2,none⟩) (yc -j) 1 2) eE ⟨rfl,trivial⟩ (fun w hw=>hw) rfl ⟨by simp only;omega,fun h=>IG h hyc,fun i=>by
    simp only;rw [←Qv hYn hyj h2'.2,←hE];congr 1;omega⟩ (by simp only;omega)
  iterate 20 refine G ?_
  refine jK [9,12,14,49,50,51,52,53,54,55,56,57,58,59,60,61,62,63,64,65,66,67,68,69,70,71,72,73] (fun q:Nat×Option Addr×Nat=>[(9, .slice q.2.1 (mS x Y j q.1).1.length q.2.2),(12, .int .i64 (mS x Y j q.1).2)]) (fun q=>[fP q.2.1 q.2.2 (mS x Y j q.1).1,box b11 153 x.cells,fP yA yc Y,fP (some ⟨xb,0,none⟩) xc (one x)]) (fun q=>mS x Y j q.1=(Y.drop j).foldl (lI x) ([],x.lo)) ?_ ?_
  ·refine G ?_;refine ct [9,12,14,49,50,51,52,53,54,55,56,57,58,59,60,61,62,63,64,65,66,67,68,69,70,71,72,73] (fun q:Nat×Option Addr×Nat=>[(49, .int .i64 q.1),(9, .slice q.2.1 (mS x Y j q.1).1.length q.2.2),(12, .int .i64 (mS x Y j q.1).2)]) (fun q=>[fP q.2.1 q.2.2 (mS x Y j q.1).1,box b11 153 x.cells,fP yA yc Y,fP (some ⟨xb,0,none⟩) xc (one x)]) (fun q=>q.1≤Y.length -j) (fun q=>(Y.length -j) -q.1) (0,oA,oc) ⟨rfl,by rw [E4];rfl,by rw [E4];rfl,trivial⟩ (fun w hw=>by rw [E4];exact hw.W5) rfl (aU _) ?_;rintro ⟨i,pA,pc⟩ g3 hi;simp only at hi;iterate 6 refine G ?_
   refine au rfl ?_ ?_<;>intro h3
   ·have h3':i<Y.length -j:=by
     have h:(i:Int)<((Y.length -j:Nat):Int):=cJ h3;omega
    obtain ⟨y,hyj⟩: ∃y,Y[j+i]?=some y:=⟨_,aj (by omega)⟩;have hay':=hay (by omega);subst hay';have hms:=Qt (x:=x) hyj;have hml:=Np x Y j i;have hmw:=TK hxv hYv j i;have hyw:=hYv y (an hyj);iterate 6 refine G ?_
    refine bO (bt i bG bM (q0 rfl) (q0 rfl) (fun _=>⟨rfl,h3'⟩)) ?_;refine bO (km (vs:=y.cells) ur bM (q0 rfl) (fun _ w hw q u hu=>SR (r:=q) hw (k:=2) rfl hyj hu) rfl) ?_;refine cx cN rfl fun b14=>?_;refine fI (v:= .agg _) rfl rfl bM ?_;iterate 12 refine G ?_
    refine au rfl ?_ ?_<;>intro h4
    ·have h4':x.hi≤y.lo:=cJ h4;iterate 6 refine G ?_
     exact aO (i,pA,pc) eE ⟨rfl,rfl,trivial⟩ (fun w hw=>hw.tail) rfl (Qu hYn hyj h4')
    have h4': ¬x.hi≤y.lo:=cS h4;unfold lI at hms;rw [ah h4'] at hms;iterate 11 refine G ?_
    refine au rfl ?_ ?_<;>intro h5
    ·have h5':(mS x Y j i).2<y.lo:=cJ h5;rw [av h5'] at hms;iterate 5 refine G ?_
     refine bO (bS ir D8 cN (pt (v:= .int _ _) rfl (pt (v:= .int _ _) rfl E.p0)) rfl) ?_;refine lq (k:=2) (i:=Tryz.t153) 1 (⟨(mS x Y j i).2,y.lo⟩) bG (by kernel_rfl) rfl rfl rfl rfl bM cN rfl rfl rfl rfl rfl rfl ⟨by simp only;omega,by decide⟩ rfl rfl fun B0 A1 c1=>?_;iterate 7 refine G ?_
     refine bO (vb (q0 rfl) (q0 rfl)) ?_;iterate 8 refine G ?_
     refine ay (i+1,A1,c1) eE ⟨rfl,by rw [hms];rfl,by rw [hms];rfl,trivial⟩ (fun w hw=>by rw [hms];exact hw.tail) rfl (by simp only;omega) (by simp only;omega)
    have h5': ¬(mS x Y j i).2<y.lo:=cS h5;rw [ah h5'] at hms;iterate 6 refine G ?_
    refine bO (vb (q0 rfl) (q0 rfl)) ?_;iterate 8 refine G ?_
    refine ay (i+1,pA,pc) eE ⟨rfl,by rw [hms];rfl,by rw [hms];rfl,trivial⟩ (fun w hw=>by rw [hms];exact hw.tail) rfl (by simp only;omega) (by simp only;omega)
   have h3':i=Y.length -j:=by
    have h: ¬(i:Int)<((Y.length -j:Nat):Int):=cS h3;omega
   iterate 4 refine G ?_
   exact aO (i,pA,pc) eE ⟨rfl,rfl,trivial⟩ (fun w hw=>hw) rfl (Iq x Y (by simp only;omega))
  rintro ⟨i,pA,pc⟩ g4 hfull;simp only at hfull;have hml:=Np x Y j i;have hfin:lS x Y=GH x (mS x Y j i):=by rw [Ld Y hone.2.2,Lf hE hfull]
  iterate 9 refine G ?_
  refine au rfl ?_ ?_<;>intro h6
  ·have h6':(mS x Y j i).2<x.hi:=cJ h6;unfold GH at hfin;rw [av h6'] at hfin;iterate 5 refine G ?_
   refine bO (bS ir D8 cN (pt (v:= .int _ _) rfl (pt (v:= .int _ _) rfl E.p0)) rfl) ?_;refine lq (k:=2) (i:=Tryz.t153) 0 (⟨(mS x Y j i).2,x.hi⟩) bG (by kernel_rfl) rfl rfl rfl rfl bM cN rfl rfl rfl rfl rfl rfl ⟨by simp only;omega,by decide⟩ rfl rfl fun B0 A1 c1=>?_;iterate 8 refine G ?_
   exact ay (1, .slice aY (Y.length -j) (yc -j),A1,c1) eE ⟨rfl,rfl,by rw [ah (show ¬(1:Nat)=0 by decide),hfin];rfl,trivial⟩ (fun w hw=>by rw [ah (show ¬(1:Nat)=0 by decide),hfin];exact hw.W7.tail) rfl ⟨by simp only;omega,fun h=>by cases h⟩ (by simp only;omega)
  have h6': ¬(mS x Y j i).2<x.hi:=cS h6;unfold GH at hfin;rw [ah h6'] at hfin;iterate 7 refine G ?_
  exact ay (1, .slice aY (Y.length -j) (yc -j),pA,pc) eE ⟨rfl,rfl,by rw [ah (show ¬(1:Nat)=0 by decide),hfin];rfl,trivial⟩ (fun w hw=>by rw [ah (show ¬(1:Nat)=0 by decide),hfin];exact hw.W7.tail) rfl ⟨by simp only;omega,fun h=>by cases h⟩ (by simp only;omega)
 have hlt': ¬k<(one x).length:=by
  have h: ¬(k:Int)<((one x).length:Int):=cS hlt;omega
 have hend:(if k=0 then [] else lS x Y)=lS x Y:=by
  by_cases he:x.lo=x.hi
  ·rw [Il Y he];split<;>rfl
  have h0:(one x).length=1:=by unfold one;rw [ah he];rfl
  rw [ah (by omega)]
 rw [hend];iterate 13 refine G ?_
 exact fV (v:= .slice _ _ _) (x:= .int _ _) rfl rfl rfl rfl fun w' hw=>⟨(oA,oc),rfl,hw.pick [0] (by decide)⟩
def sT (l:List Wn) (k:Nat):Int:=AE (l.take k)
theorem Je {l:List Wn} {k:Nat} {x:Wn} (h:l[k]?=some x):sT l (k+1)=sT l k+(x.hi -x.lo):=by
 unfold sT AE;rw [od _ _ _ h,bX,List.sum_append];simp
theorem F9 {l:List Wn} (h:oU l) (hl:l.length≤10000): ∀k,k≤l.length→0≤sT l k∧sT l k≤4294944000*(k:Int)
 |0,_=>by unfold sT AE;simp
 |k+1,hk=>by
  obtain ⟨x,hx⟩: ∃x,l[k]?=some x:=⟨_,aj (by omega)⟩;have ih:=F9 h hl k (by omega);have:=h x (an hx);rw [Je hx];omega
attribute [local irreducible] sT
theorem GO (A:Option Addr) (n c:Nat) (xs:List Wn) (w:World) (hx:ub w A n xs) (hn:n≤10000) (hv:oU xs):Calls Tryz.prog 229 #[.slice A n c] w fun e w'=>e= .returned (.tuple #[.int .i64 (Co xs), .int .i64 0])∧gz w w':=by
 have hl:=hx.1;have hul:=sW xs;have hYv:=qD hv;refine aS Tryz.func229 rfl Tryz.ntmps229 rfl ?_;iterate 9 refine G ?_
 refine qW (en UA (il (q0 rfl))) (fun w hw=>EG A n c xs w (hx.mem hw) hn hv) rfl (fun _=>rfl) fun z=>?_;have hlen:Co xs=sT (gE xs) (gE xs).length:=by unfold Co sT;rw [dp]
 rw [hlen];generalize gE xs=Y at*;obtain ⟨yA,yc⟩:=z;iterate 14 refine G ?_
 refine au rfl ?_ ?_<;>intro h1
 ·exfalso;simp at h1
 iterate 16 refine G ?_
 refine ct [6,8,19,20,21,22,23,24,25,26,27,28,29,30] (fun k:Nat=>[(19, .int .i64 k),(6, .int .i64 (sT Y k))]) (fun _=>[fP yA yc Y]) (fun k=>k≤Y.length) (fun k=>Y.length -k) 0 ⟨rfl,by unfold sT;rfl,trivial⟩ (fun w hw=>hw) rfl (aU _) ?_;rintro k g hk;iterate 6 refine G ?_
 refine au rfl ?_ ?_<;>intro hlt
 ·have hlt':k<Y.length:=by simpa using hlt
  obtain ⟨x,hxk⟩: ∃x,Y[k]?=some x:=⟨_,aj hlt'⟩;refine fN (fun w hw=>dP (j:=0) hw rfl (by omega)) fun ⟨q,hq⟩=>?_;subst hq;have hs:=Je hxk;have hb:=F9 hYv (by omega) k hk;have hxw:=hYv x (an hxk);iterate 6 refine G ?_
  refine bO (bt k bG bM (q0 rfl) (q0 rfl) (fun _=>⟨rfl,hlt'⟩)) ?_;refine bO (km (vs:=x.cells) ur bM (q0 rfl) (sf 0 rfl hxk) rfl) ?_;refine cx cN rfl fun b8=>?_;refine fI (v:= .agg _) rfl rfl bM ?_;iterate 8 refine G ?_
  refine bO (ou (r:=x.hi -x.lo) (q0 rfl) (q0 rfl) (fun _=>⟨rfl,by omega,by omega⟩)) ?_;refine bO (rB (r:=sT Y (k+1)) (q0 rfl) (q0 rfl) (fun _=>⟨by rw [hs],by omega,by omega⟩)) ?_;iterate 8 refine G ?_
  exact ay (k+1) eE ⟨rfl,rfl,trivial⟩ (fun w hw=>hw.tail) rfl (by show k+1≤Y.length;omega) (by show Y.length -(k+1)<Y.length -k;omega)
 have hend:k=Y.length:=by simp at hlt;omega
 subst hend;iterate 13 refine G ?_
 exact fV (v:= .int _ _) (x:= .int _ _) rfl rfl rfl rfl fun w' hw=>⟨rfl,hw.1⟩
end Go.Proofs.Far
namespace Go.Proofs.E
open Go Go.RowKit
def dD (T:List Item):Item where
 fp:=fun b=> ∃it∈T,it.fp b
 A:=fun w=>(∀it∈T,it.A w)∧T.Pairwise (fun (x y:Item)=> ∀b,x.fp b→ ¬y.fp b)
 st:=fun w w' h hA=>⟨fun it hi=>it.st w w' (fun b hb=>h b ⟨it,hi,hb⟩) (hA.1 it hi),hA.2⟩
section
variable {w0 w:World} {T L M:List Item}
theorem Mem.dD (h:Mem w0 (T++L) w):Mem w0 (dD T::L) w:=by
 obtain ⟨h1,h2,h3,h4⟩:=h;obtain ⟨p1,p2,p3⟩:=jA.1 h4;refine ⟨h1,fun it hi=>?_,fun it hi b hb=>?_,bL.2 ⟨fun y hy b hb hg=>?_,p2⟩⟩
 ·rcases bU.1 hi with rfl|hi
  ·exact ⟨fun it hi=>h2 it (aQ.2 (.inl hi)),p1⟩
  exact h2 it (aQ.2 (.inr hi))
 ·rcases bU.1 hi with rfl|hi
  ·obtain ⟨x,hx,hxb⟩:=hb;exact h3 x (aQ.2 (.inl hx)) b hxb
  exact h3 it (aQ.2 (.inr hi)) b hb
 obtain ⟨x,hx,hxb⟩:=hb;exact p3 x hx y hy b hxb hg
theorem Mem.uG (h:Mem w0 (E.dD T::L) w):Mem w0 (T++L) w:=by
 obtain ⟨h1,h2,h3,h4⟩:=h;obtain ⟨p1,p2⟩:=bL.1 h4;obtain ⟨a1,a2⟩:(E.dD T).A w:=h2 _ (bF ..);refine ⟨h1,fun it hi=>?_,fun it hi b hb=>?_,jA.2 ⟨a2,p2,fun x hx y hy b hb hg=>?_⟩⟩
 ·rcases aQ.1 hi with hi|hi
  ·exact a1 it hi
  exact h2 it (aB _ hi)
 ·rcases aQ.1 hi with hi|hi
  ·exact h3 _ (bF ..) b ⟨it,hi,hb⟩
  exact h3 it (aB _ hi) b hb
 exact p1 y hy b ⟨x,hx,hb⟩ hg
variable {α:Type} {f:α→List Item} {xs:List α} {k:Nat} {x y:α}
theorem Mem.apart (h:Mem w0 (E.dD (xs.flatMap f)::L) w) (hk:xs[k]?=some x):Mem w0 (f x++(E.dD ((xs.eraseIdx k).flatMap f)::L)) w:=by
 have h1:=h.uG;have h2:(xs.flatMap f).Perm (f x++(xs.eraseIdx k).flatMap f):=((rv xs k x hk).symm.flatMap_right f);have h3:=h1.perm (tS L h2.symm);rw [cP] at h3;have h4:=h3.perm (L':=(xs.eraseIdx k).flatMap f++(f x++L)) (ic ..);have h5:=h4.dD;exact h5.perm (fx)
theorem Mem.E7 (h:Mem w0 (f y++(E.dD ((xs.eraseIdx k).flatMap f)::L)) w) (hk:k<xs.length):Mem w0 (E.dD ((xs.set k y).flatMap f)::L) w:=by
 have h5:=h.perm (L':=E.dD ((xs.eraseIdx k).flatMap f)::(f y++L)) (fx.symm);have h4:=h5.uG;have h3:=h4.perm (L':=f y++((xs.eraseIdx k).flatMap f++L)) (ic ..);rw [←cP] at h3;have h2:((xs.set k y).flatMap f).Perm (f y++(xs.eraseIdx k).flatMap f):=((set_perm xs k y hk).flatMap_right f);exact (h3.perm (tS L h2)).dD
theorem Mem.ph (h:Mem w0 (f y++(E.dD (xs.flatMap f)::L)) w):Mem w0 (E.dD ((xs++[y]).flatMap f)::L) w:=by
 have h5:=h.perm (L':=E.dD (xs.flatMap f)::(f y++L)) (fx.symm);have h4:=h5.uG;rw [←cP] at h4;have e:(xs++[y]).flatMap f=xs.flatMap f++f y:=by simp
 rw [←e] at h4;exact h4.dD
theorem Mem.wE (h:Mem w0 L w):Mem w0 (E.dD (([]:List α).flatMap f)::L) w:=Mem.dD (T:=[]) h
theorem BS: ∀(k n:Nat),n+k=M.length→(List.range' n k).filterMap (M[·]?)=M.drop n
 |0,n,h=>by rw [iP (by omega)];rfl
 |k+1,n,h=>by
  have hn:n<M.length:=by omega
  rw [List.range'_succ,List.filterMap_cons,aj hn];simp only;rw [BS k (n+1) (by omega),cL hn]
theorem Mem.dh (h:Mem w0 M w) (n:Nat) (idx:List Nat) (hn:idx.Nodup) (hi:idx.all (fun i=>Nat.blt i n)=true):Mem w0 (idx.filterMap (M[·]?)++M.drop n) w:=by
 have hi': ∀i∈idx,i<n:=fun i hx=>by simpa using eF.1 hi i hx
 rcases l' M.length n with hl|hl
 ·rw [iP (by omega),cz];exact h.pick idx hn
 have h1:=h.pick (idx++List.range' n (M.length -n)) (jR.2 ⟨hn,List.nodup_range',fun a ha b hb e=>by
  have:=hi' a ha;have:=Pu.1 hb;omega⟩)
 rw [List.filterMap_append,BS _ _ (by omega)] at h1;exact h1
theorem zq {e:TypeId} {n c:Nat} {enc:α→List Value} {A:Option Addr} (hk:xs[k]?=some x) (h:enc y=enc x):dR e n enc A c (xs.set k y)=dR e n enc A c xs:=by
 have hf:(xs.set k y).flatMap enc=xs.flatMap enc:=by
  have hm:(xs.set k y).map enc=xs.map enc:=by
   rw [k8,h];obtain ⟨h1,h2⟩:=aa.1 hk;rw [←h2];apply cU;intro i;rw [bw];split
   ·rename_i hi;subst hi;simp [h1]
   rfl
  rw [List.flatMap_def,List.flatMap_def,hm]
 unfold dR;simp only [hf,dU]
theorem Mem.Fq {e:TypeId} {n b j:Nat} {enc:α→List Value} (h:Mem w0 M w) (hk:M[j]?=some (box b e (xs.flatMap enc))) (he: ∀x,(enc x).length=n) (hl:xs.length≤1000000):Mem w0 (M.set j (dR e n enc (some ⟨b,0,none⟩) xs.length xs)) w:=by
 refine h.swap hk (fun x hx=>?_) ?_
 ·simp [dR] at hx;exact hx.symm
 have hA:w.heap[b]?=some (.cells (xs.flatMap enc).toArray e (0,0)):=h.item hk;refine pg he hA ⟨bq _,by unfold maxLen;omega,?_,[],by simp⟩;exact (gi he xs)
end
end Go.Proofs.E
