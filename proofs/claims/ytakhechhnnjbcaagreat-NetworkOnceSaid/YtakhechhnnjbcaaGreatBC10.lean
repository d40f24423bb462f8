import Derived.Test.YtakhechhnnjbcaaGreatBC09
import Derived.Test.YtakhechhnnjbcaaGreatBC03
import Derived.Test.YtakhechhnnjbcaaGreatBC04
import Derived.Test.YtakhechhnnjbcaaGreatTc
set_option maxRecDepth 100000
set_option maxHeartbeats 8000000
set_option linter.unusedVariables false
set_option linter.unusedSimpArgs false
namespace Go.Proofs.Cus
open Go Go.RowKit Go.Proofs.E
theorem Vo {fs:Array Field} (h:Tryz.prog.underlying 349=some (.struct fs):=by exact wg):dN Tryz.prog fs [(0,1),(1,1)]:=by
 rw [wg] at h;cases h;intro w;kernel_rfl
theorem Vz (xs ys:List Int) (w:World) (hx:xs.length=2:=by rfl) (hy:ys.length=2:=by rfl):(Op.equal 349 (.agg (oq xs).toArray) (.agg (oq ys).toArray)).run Tryz.prog w= .ok (xs==ys) w:=
 og w xs ys (by omega) wg (by kernel_rfl) ⟨by decide,rfl,aJ,⟨_,aG⟩,by decide,rfl,aJ,⟨_,aG⟩,trivial⟩ (by rw [hx];rfl)
theorem uQ (e:Ev) (w:World):Calls Tryz.prog 270 #[.agg e.cells.toArray] w fun r w'=>r= .returned (.agg (oq [e.device,e.seq]).toArray)∧gz w w':=by
 refine aS Tryz.func270 rfl Tryz.ntmps270 rfl ?_;iterate 2 refine G ?_
 refine cd (v:= .agg _) rfl rfl fun b1=>?_;refine cx Tryz.zeroValue349 rfl fun b2=>?_;iterate 8 refine G ?_
 refine bO (bS wg Vo Tryz.zeroValue349 (pt (v:= .int _ _) rfl (pt (v:= .int _ _) rfl E.p0)) rfl) ?_;refine fI (v:= .agg _) rfl rfl Tryz.sizeOf349 ?_;iterate 3 refine G ?_
 exact mh rfl (RQ 0 rfl rfl Tryz.isAgg349 Tryz.sizeOf349 rfl rfl) fun w' hw=>⟨rfl,hw.1⟩
theorem Tj (a b:Ev) (w:World):Calls Tryz.prog 269 #[.agg a.cells.toArray, .agg b.cells.toArray] w fun r w'=>r= .returned (.bool (eH a b))∧gz w w':=by
 refine aS Tryz.func269 rfl Tryz.ntmps269 rfl ?_;iterate 2 refine G ?_
 refine cd (v:= .agg _) rfl rfl fun b2=>?_;refine cd (v:= .agg _) rfl rfl fun b3=>?_;iterate 4 refine G ?_
 refine tB ?_;refine G ?_;refine gV (en Tryz.call270 (il (q0 rfl))) (fun _ w _=>uQ a w) ?_;refine G ?_;refine gV (en Tryz.call270 (il (q0 rfl))) (fun _ w _=>uQ b w) ?_;refine bO (JW (fun w=>Vz _ _ w) (by kernel_rfl) (q0 rfl) (q0 rfl)) ?_;iterate 4 refine G ?_
 exact bH (v:= .bool _) rfl rfl rfl fun w' hw=>⟨rfl,hw.1⟩
attribute [local irreducible] j0 yH
theorem Tk (a b:Ev) (w:World):Calls Tryz.prog 267 #[.agg a.cells.toArray, .agg b.cells.toArray] w fun r w'=>r= .returned (.int .i64 (BD a b))∧gz w w':=by
 refine aS Tryz.func267 rfl Tryz.ntmps267 rfl ?_;iterate 2 refine G ?_
 refine cd (v:= .agg _) rfl rfl fun b2=>?_;refine cd (v:= .agg _) rfl rfl fun b3=>?_;iterate 4 refine G ?_
 refine AQ ?_;refine aW 0 ?_;refine aW 1 ?_;refine aW 2 ?_;refine aW 3 ?_;refine aW 5 ?_;refine aW 6 ?_;refine aW 7 ?_;refine aW 8 ?_;refine aW 10 ?_;refine aW 11 ?_;refine aC 4 (by decide+kernel) rfl (en kB (gr (q0 rfl) (q0 rfl))) (fun _ w _=>jM a.device b.device w) rfl ?_;refine aC 9 (by decide+kernel) rfl (en kB (gr (q0 rfl) (q0 rfl))) (fun _ w _=>jM a.seq b.seq w) rfl ?_;refine aC 12 (by decide+kernel) rfl (en UB (gr (q0 rfl) (q0 rfl))) (fun _ w _=>Fg a b w) rfl ?_;refine r1 13 0 ?_;refine aL rfl (dE [(.int .i64 0),(.int .i64 0),(.int .i64 0)] ak ax bh rfl (by kernel_rfl) (pt (v:= .int _ _) rfl (pt (v:= .int _ _) rfl (pt (v:= .int _ _) rfl E.p0))) rfl rfl fun b18=>?_);refine xw (bK 1) ?_;refine aC 14 (by decide+kernel) rfl (en UH (il (q0 rfl))) (fun _ w hm=>Qi _ 3 3 [j0 a.device b.device,j0 a.seq b.seq,yH a b] w (bg (enc:=aN) hm (j:=0) rfl (fun _=>rfl) (by simp))) rfl ?_;refine aW 15 ?_;refine jz 0 ?_;iterate 2 refine G ?_
 exact bH (v:= .int _ _) rfl rfl rfl fun w' hw=>⟨rfl,hw.1⟩
attribute [local irreducible] lexLt
end Go.Proofs.Cus
namespace Go.Proofs.Cus
open Go Go.RowKit Go.Proofs.E
abbrev HC (w:World) (A:Option Addr) (n:Nat) (xs:List Ev):Prop:=gJ w 9 Ev.cells A n xs
abbrev ig (A:Option Addr) (c:Nat) (xs:List Ev):E.Item:=dR 58 9 Ev.cells A c xs
theorem Q6 (A:Option Addr) (n c:Nat) (xs:List Ev) (w:World) (hx:HC w A n xs) (hn:n≤10000):
  Calls Tryz.prog 266 #[.slice A n c] w fun e w'=> ∃x:Option Addr×Nat,e= .returned (.slice x.1 n x.2)∧Mem w [ig x.1 x.2 xs] w':=by
 have hl:=hx.1;refine aS Tryz.func266 rfl Tryz.ntmps266 rfl ?_;iterate 9 refine G ?_
 refine bO (ov cE (q0 rfl)) ?_;iterate 2 refine G ?_
 refine au rfl ?_ ?_<;>intro h1
 ·have hA0:A=none:=by simpa using h1
  have hn0:n=0:=by
   rcases du n with h|h
   ·exact h
   obtain ⟨b,off,hb,_⟩:=hx.2.2 h;rw [hA0] at hb;cases hb
  subst hn0;have:xs=[]:=bW hl;subst this;iterate 7 refine G ?_
  exact bH (v:= .slice _ _ _) rfl rfl rfl fun w' hw=>⟨(none,0),rfl,hw.eX _ _ _ rfl⟩
 iterate 4 refine G ?_
 refine bZ (qB Ev.cells cE bT rfl fun A1 c1=>?_);refine G ?_;refine lJ (ba (k:=9) (i:=Tryz.t58) (enc:=Ev.cells) 0 cE (by kernel_rfl) rfl rfl rfl rfl (fun _=>rfl) (fun _=>rfl) rfl rfl rfl (fun w hw=>hx.mem hw) ⟨by simp;omega,by decide⟩ rfl fun A2 c2=>?_);iterate 4 refine G ?_
 exact bH (v:= .slice _ _ _) rfl rfl rfl fun w' hw=>⟨(A2,c2),by rw [←hl];rfl,hw⟩
def H4:Go.Shelf.Ren:=⟨fun|6=>123|15=>162|14=>178|28=>219|29=>220|20=>244|21=>245|22=>246|23=>247|24=>248|25=>249|26=>250|27=>251|46=>297|47=>280|48=>281|49=>298|50=>299|57=>330|n=>n,fun|22=>49|24=>58|25=>218|3=>3|39=>257|0=>0|53=>305|55=>307|4=>4|46=>299|45=>298|50=>229|5=>5|9=>9|66=>359|70=>363|76=>388|77=>77|n=>n,fun|n=>n⟩
theorem MJ:Go.Proofs.SlLaysF0.n6 Tryz.prog H4:={
 mixed:=by kernel_rfl,
 f6:=⟨Tryz.f123.name,by decide,Tryz.func123.trans (aT some (by kernel_rfl))⟩,
 f14:=⟨Tryz.f178.name,by decide,Tryz.func178.trans (aT some (by kernel_rfl))⟩,
 f15:=Tryz.func162.trans (aT some (by kernel_rfl)),
 f20:=⟨Tryz.f244.name,by decide,Tryz.func244.trans (aT some (by kernel_rfl))⟩,
 f21:=⟨Tryz.f245.name,by decide,Tryz.func245.trans (aT some (by kernel_rfl))⟩,
 f22:=⟨Tryz.f246.name,by decide,Tryz.func246.trans (aT some (by kernel_rfl))⟩,
 f23:=⟨Tryz.f247.name,by decide,Tryz.func247.trans (aT some (by kernel_rfl))⟩,
 f24:=⟨Tryz.f248.name,by decide,Tryz.func248.trans (aT some (by kernel_rfl))⟩,
 f25:=⟨Tryz.f249.name,by decide,Tryz.func249.trans (aT some (by kernel_rfl))⟩,
 f26:=⟨Tryz.f250.name,by decide,Tryz.func250.trans (aT some (by kernel_rfl))⟩,
 f27:=⟨Tryz.f251.name,by decide,Tryz.func251.trans (aT some (by kernel_rfl))⟩,
 f28:=Tryz.func219.trans (aT some (by kernel_rfl)),
 f29:=Tryz.func220.trans (aT some (by kernel_rfl)),
 f46:=⟨Tryz.f297.name,by decide,Tryz.func297.trans (aT some (by kernel_rfl))⟩,
 f47:=Tryz.func280.trans (aT some (by kernel_rfl)),
 f48:=Tryz.func281.trans (aT some (by kernel_rfl)),
 f49:=⟨Tryz.f298.name,by decide,Tryz.func298.trans (aT some (by kernel_rfl))⟩,
 f50:=⟨Tryz.f299.name,by decide,Tryz.func299.trans (aT some (by kernel_rfl))⟩,
 f57:=⟨Tryz.f330.name,by decide,Tryz.func330.trans (aT some (by kernel_rfl))⟩,
 t0:=pX,
 a0:=yW,
 z0:=wm,
 v0:=qN,
 t3:=aG,
 a3:=aJ,
 z3:=ax,
 v3:=bh,
 t4:=iL,
 a4:=kK,
 z4:=dG,
 v4:=gK,
 t5:=jX,
 a5:=yU,
 z5:=wk,
 v5:=qM,
 t9:=pW,
 a9:=yT,
 z9:=wj,
 v9:=qL,
 t22:=cE,
 a22:=Tryz.isAgg49,
 z22:=Tryz.sizeOf49,
 v22:=Kh,
 t25:=Tryz.underlying218,
 a25:=Tryz.isAgg218,
 z25:=Tryz.sizeOf218,
 v25:=Tryz.zeroValue218,
 t39:=nA,
 a39:=uo,
 z39:=sG,
 v39:=oI,
 t45:=ny,
 a45:=um,
 z45:=sF,
 v45:=oH,
 t46:=nx,
 a46:=uk,
 z46:=sE,
 v46:=oG,
 t50:=nC,
 a50:=uq,
 z50:=sH,
 v50:=oJ,
 t53:=nw,
 a53:=uj,
 z53:=sD,
 v53:=oF,
 t55:=nu,
 a55:=ui,
 z55:=sC,
 v55:=oE,
 t66:=ns,
 a66:=uh,
 z66:=sy,
 v66:=oC,
 t70:=nr,
 a70:=ug,
 z70:=sx,
 v70:=oB,
 t76:=nq,
 a76:=uf,
 z76:=sw,
 v76:=oz,
 t77:=oN,
 a77:=wu,
 z77:=ue,
 v77:=pV}
open Go.Shelf Go.Lib Go.Sort in
theorem BA (cf:Ev→Ev→Int) (g:Nat) (hO:SWO (ltOf cf)) (hT: ∀x y,ltOf cf x y=false→ltOf cf y x=false→x=y) (eg: ∀args w,(callFunc g args).run Tryz.prog w= .ok (.enter g args) w)
  (hcl: ∀(x y:Ev) (w:World),Calls Tryz.prog g #[.agg x.cells.toArray, .agg y.cells.toArray] w fun e w'=>e= .returned (.int .i64 (cf x y))∧gz w w')
  {w0 w:World} {L:List E.Item} (hw:Mem w0 L w) {j c:Nat} {A:Option Addr} {xs:List Ev} (hk:L[j]?=some (ig A c xs)) (hn:xs.length≤1000000):
  Calls Tryz.prog 123 #[.slice A xs.length c, .func (.func g) #[] #[]] w fun e w'=> ∃_:Unit,e= .returned (.tuple #[])∧Mem w0 (L.set j (ig A c (xs.mergeSort fun x y=>!ltOf cf y x))) w':=by
 rcases du xs.length with h0|h0
 ·have:xs=[]:=bW h0;subst this;refine (AnyF.slices_SortFunc_none MJ A c (.func (.func g) #[] #[]) w).mono ?_;rintro e w' ⟨rfl,rfl⟩;refine ⟨(),rfl,?_⟩;have hL:L.set j (ig A c (([]:List Ev).mergeSort fun x y=>!ltOf cf y x))=L:=by
   have:([]:List Ev).mergeSort (fun x y=>!ltOf cf y x)=[]:=by simp
   rw [this];obtain ⟨h1,h2⟩:=aa.1 hk;rw [←h2];exact mc h1
  rw [hL];exact hw
 obtain ⟨b,rfl⟩:=dP hw hk h0;have hb:b<w.heap.size:=(hw.ni hk rfl).2;have hcon:=AnyQ.slices_SortFunc_total MJ 9 jr bT Ev.cells (fun _=>rfl) (fun x v hv=>by simp [Ev.cells] at hv;rcases hv with rfl|rfl|rfl|rfl|rfl|rfl|rfl|rfl|rfl<;>rfl) cf hO g #[] b 0 c xs.toArray w eg
  (fun m os dk _ x y=>by rw [Array.append_empty];exact (hcl x y _).mono fun e w' ⟨he,hb⟩=>⟨he,hb.TO⟩) (xg (fun _=>rfl) hw hk) hb (by simp;omega) hT
 have hcon':Calls Tryz.prog 123 #[.slice (some ⟨b,0,none⟩) xs.toArray.size c, .func (.func g) #[] #[]] w _:=hcon;rw [Bj] at hcon';refine hcon'.mono ?_;rintro e w' ⟨rfl,n,os,rfl⟩;exact ⟨(),rfl,tD (fun _=>rfl) hw hk (by simp)⟩
open Go.Shelf Go.Lib Go.Sort in
theorem PW {w0 w:World} {L:List E.Item} (hw:Mem w0 L w) {j c:Nat} {A:Option Addr} {xs:List Ev} (hk:L[j]?=some (ig A c xs)) (hn:xs.length≤1000000):
  Calls Tryz.prog 123 #[.slice A xs.length c, .func (.func 267) #[] #[]] w fun e w'=> ∃_:Unit,e= .returned (.tuple #[])∧Mem w0 (L.set j (ig A c (xs.mergeSort Cs))) w':=by
 have hlt:(ltOf BD)=fun x y=>lexLt x.re y.re:=by funext x y;exact KL x y
 have:=BA BD 267 (by rw [hlt];exact xU Ev.re 11 (fun _=>rfl)) (fun x y h1 h2=>by rw [hlt] at h1 h2;exact Lp (mm rfl h1 h2)) Tryz.call267 Tk hw hk hn;rw [hlt] at this;exact this
open Go.Shelf Go.Lib Go.Sort in
theorem PV {w0 w:World} {L:List E.Item} (hw:Mem w0 L w) {j c:Nat} {A:Option Addr} {xs:List Ev} (hk:L[j]?=some (ig A c xs)) (hn:xs.length≤1000000):
  Calls Tryz.prog 123 #[.slice A xs.length c, .func (.func 252) #[] #[]] w fun e w'=> ∃_:Unit,e= .returned (.tuple #[])∧Mem w0 (L.set j (ig A c (xs.mergeSort HE))) w':=by
 have hlt:(ltOf yH)=fun x y=>lexLt x.keys y.keys:=by funext x y;exact vL x.keys y.keys
 have:=BA yH 252 (by rw [hlt];exact xU Ev.keys 9 (fun _=>rfl)) (fun x y h1 h2=>by rw [hlt] at h1 h2;exact uX (mm rfl h1 h2)) UB Fg hw hk hn;rw [hlt] at this;exact this
theorem Hc (eq:Ev→Ev→Bool) (g:Nat) (eg: ∀args w,(callFunc g args).run Tryz.prog w= .ok (.enter g args) w)
  (hcl: ∀(x y:Ev) (w:World),Calls Tryz.prog g #[.agg (Ev.cells x).toArray, .agg (Ev.cells y).toArray] w fun e w'=>e= .returned (.bool (eq x y))∧gz w w')
  {w0 w:World} {L:List E.Item} {c:Nat} {A:Option Addr} {xs:List Ev} (hw:Mem w0 (dR 58 9 Ev.cells A c xs::L) w) (hmk:marks L=[]) (hn:xs.length≤1000000):
  Calls Tryz.prog 268 #[.slice A xs.length c, .func (.func g) #[] #[]] w fun e w'=> ∃_:Unit,e= .returned (.slice A (gn eq xs).length c)∧Mem w0 (dR 58 9 Ev.cells A c (gn eq xs)::L) w':=by
 have hcap:=Ge (j:=0) hw rfl;rcases l' xs.length 2 with hlt|hge
 ·have hcf:gn eq xs=xs:=by
   match xs,hlt with
   |[],_=>rfl
   |[x],_=>rfl
  rw [hcf];refine eu hw hmk Tryz.func268 rfl Tryz.ntmps268 rfl ?_;iterate 13 refine G ?_
  refine au rfl ?_ ?_<;>intro h1
  ·iterate 8 refine G ?_
   exact bH (v:= .slice _ _ _) rfl rfl hmk fun w' hw=>⟨(),rfl,hw⟩
  exact absurd h1 (by simp;omega)
 obtain ⟨b,rfl⟩:=dP (j:=0) hw rfl (by omega);refine eu hw hmk Tryz.func268 rfl Tryz.ntmps268 rfl ?_;iterate 13 refine G ?_
 refine au rfl ?_ ?_<;>intro h1
 ·exact absurd h1 (by simp;omega)
 iterate 9 refine G ?_
 refine ct [4,5,6,7,12,13,14,15,16,17,18,19,20,21,22,23,24,25,26,27,28,29,30,31,32,33,34,35,36,37,38,39,40,41,42,43,44,45,46,47,48,49,50,51,52,53,54,55,56,57,58,59,60,61,62,63,64] (fun k:Nat=>[(5, .int .i64 k)]) (fun _=>_) (fun k=>1≤k∧k≤xs.length∧ ∃p,xs[k -1]?=some p∧gn eq xs=xs.take k++gg eq p (xs.drop k)) (fun k=>xs.length -k) 1 ⟨rfl,trivial⟩ (fun _ h=>h) rfl (by
  refine ⟨bq _,by omega,?_⟩
  match xs,hge with
  |x::xs,_=>exact ⟨x,rfl,rfl⟩) ?_
 rintro k g2 ⟨hk1,hkn,p,hp,hcf⟩;iterate 9 refine G ?_
 refine au rfl ?_ ?_<;>intro hlt
 ·have hlt':k<xs.length:=by simpa using hlt
  obtain ⟨y,hy⟩: ∃y,xs[k]?=some y:=⟨_,aj hlt'⟩;iterate 5 refine G ?_
  refine tB ?_;iterate 3 refine G ?_
  refine bO (bt _ cE bT (q0 rfl) (q0 rfl) (fun _=>⟨rfl,by omega⟩)) ?_;refine bO (km jr bT (q0 rfl) (sf 0 rfl hy) rfl) ?_;iterate 3 refine G ?_
  refine bO (bt (k -1) cE bT (q0 rfl) (q0 rfl) (fun _=>⟨by omega,by omega⟩)) ?_;refine bO (km jr bT (q0 rfl) (sf 0 rfl hp) rfl) ?_;refine gV (wK eg (q0 rfl) (fun _=>rfl)) (fun _ w _=>hcl y p w) ?_;iterate 2 refine G ?_
  have hdrop:xs.drop k=y::xs.drop (k+1):=by
   obtain ⟨q1,q2⟩:=aa.1 hy;rw [cL q1,q2]
  refine au rfl ?_ ?_<;>intro heq
  ·have hcf2:gn eq xs=xs.take k++gg eq y (xs.drop (k+1)):=by rw [hcf,hdrop];simp only [gg];rw [av heq]
   iterate 4 refine G ?_
   refine bO (Oc _ cE bT (q0 rfl) (q0 rfl) (fun _=>⟨rfl,by omega,by omega⟩)) ?_;iterate 10 refine G ?_
   refine ct [5,7,32,33,34,35,36,37,38,39,40,41,42,43,44,45,46,47,48,49,50,51,52,53,54,55,56,57,58] (fun s:Nat×Nat×List Ev=>[(5, .int .i64 s.1),(7, .int .i64 s.2.1)]) (fun s=>dR 58 9 Ev.cells (some ⟨b,0,none⟩) c s.2.2::L) (fun s=>1≤s.2.1∧k+s.2.1≤xs.length∧s.2.2.length=xs.length∧s.2.2.drop (k+s.2.1 -1)=xs.drop (k+s.2.1 -1)∧s.1≤k+s.2.1 -1∧ ∃p,xs[k+s.2.1 -1]?=some p∧gn eq xs=s.2.2.take s.1++gg eq p (xs.drop (k+s.2.1))) (fun s=>xs.length -(k+s.2.1)) (k,1,xs) ⟨rfl,rfl,trivial⟩ (fun _ h=>h) rfl ⟨bq _,by show k+1≤xs.length;omega,rfl,rfl,by simp,y,by simpa using hy,by simpa using hcf2⟩ ?_;rintro s g3 ⟨h2,hkn2,hyl,hyd,hi,p2,hp2,hcf3⟩;iterate 9 refine G ?_
   refine au rfl ?_ ?_<;>intro hlt2
   ·have hlt2':k+s.2.1<xs.length:=by simp at hlt2;omega
    obtain ⟨z,hz⟩: ∃z,xs[k+s.2.1]?=some z:=⟨_,aj hlt2'⟩;have hzy:s.2.2[k+s.2.1]?=some z:=by
     have:(s.2.2.drop (k+s.2.1 -1))[1]?=(xs.drop (k+s.2.1 -1))[1]?:=by rw [hyd]
     rw [kC,kC,show k+s.2.1 -1+1=k+s.2.1 by omega] at this;rw [this];exact hz
    have hpy:s.2.2[k+(s.2.1 -1)]?=some p2:=by
     have:(s.2.2.drop (k+s.2.1 -1))[0]?=(xs.drop (k+s.2.1 -1))[0]?:=by rw [hyd]
     rw [kC,kC,nF] at this;rw [show k+(s.2.1 -1)=k+s.2.1 -1 by omega,this];exact hp2
    have hdrop2:xs.drop (k+s.2.1)=z::xs.drop (k+s.2.1+1):=by
     obtain ⟨q1,q2⟩:=aa.1 hz;rw [cL q1,q2]
    have hdd:s.2.2.drop (k+s.2.1)=xs.drop (k+s.2.1):=by
     have:=aT (List.drop 1) hyd;rw [Wm,Wm,show k+s.2.1 -1+1=k+s.2.1 by omega] at this;exact this
    iterate 5 refine G ?_
    refine tB ?_;iterate 3 refine G ?_
    refine bO (bt _ cE bT (q0 rfl) (q0 rfl) (fun _=>⟨rfl,by omega⟩)) ?_;refine bO (km jr bT (q0 rfl) (Tt 0 rfl hzy) rfl) ?_;iterate 3 refine G ?_
    refine bO (bt (s.2.1 -1) cE bT (q0 rfl) (q0 rfl) (fun _=>⟨by omega,by omega⟩)) ?_;refine bO (km jr bT (q0 rfl) (Tt 0 rfl hpy) rfl) ?_;refine gV (wK eg (q0 rfl) (fun _=>rfl)) (fun _ w _=>hcl z p2 w) ?_;iterate 3 refine G ?_
    refine au rfl ?_ ?_<;>intro heq2
    ·obtain ⟨q,hq⟩: ∃q,s.2.2[s.1]?=some q:=⟨_,aj (by omega)⟩;iterate 6 refine G ?_
     refine bO (bt _ cE bT (q0 rfl) (q0 rfl) (fun _=>⟨rfl,by omega⟩)) ?_;refine bO (km jr bT (q0 rfl) (Tt 0 rfl hzy) rfl) ?_;refine bO (bt _ cE bT (q0 rfl) (q0 rfl) (fun _=>⟨rfl,by omega⟩)) ?_;refine bZ (ew 0 z rfl rfl bT rfl rfl rfl hq rfl rfl ?_);iterate 14 refine G ?_
     exact ay (s.1+1,s.2.1+1,s.2.2.set s.1 z) eE ⟨rfl,rfl,trivial⟩ (fun _ h=>h) rfl ⟨by show 1≤s.2.1+1;omega,by show k+(s.2.1+1)≤_;omega,by simpa using hyl,by
      show (s.2.2.set s.1 z).drop (k+(s.2.1+1) -1)=_;rw [show k+(s.2.1+1) -1=k+s.2.1 by omega,List.drop_set_of_lt (by omega)];exact hdd,by show s.1+1≤k+(s.2.1+1) -1;omega,z,by simpa using hz,by
      show _=(s.2.2.set s.1 z).take (s.1+1)++_;rw [hcf3,hdrop2];simp only [gg];rw [ah (by simpa using heq2),iy,List.take_set_of_le (by omega),de (by omega)];simp [ma]⟩ (by show xs.length -(k+(s.2.1+1))<xs.length -(k+s.2.1);omega)
    iterate 8 refine G ?_
    exact ay (s.1,s.2.1+1,s.2.2) eE ⟨rfl,rfl,trivial⟩ (fun _ h=>h) rfl ⟨by show 1≤s.2.1+1;omega,by show k+(s.2.1+1)≤_;omega,hyl,by
     show s.2.2.drop (k+(s.2.1+1) -1)=_;rw [show k+(s.2.1+1) -1=k+s.2.1 by omega];exact hdd,by show s.1≤k+(s.2.1+1) -1;omega,z,by simpa using hz,by
     show _=s.2.2.take s.1++_;rw [hcf3,hdrop2];simp only [gg];rw [av (by simpa using heq2)];simp [ma]⟩ (by show xs.length -(k+(s.2.1+1))<xs.length -(k+s.2.1);omega)
   have hend:k+s.2.1=xs.length:=by simp at hlt2;omega
   have hcf4:gn eq xs=s.2.2.take s.1:=by rw [hcf3,hend,nW];simp [gg]
   iterate 9 refine G ?_
   refine bO (Oc _ cE bT (q0 rfl) (q0 rfl) (fun _=>⟨rfl,by omega,by omega⟩)) ?_;refine bZ (N4 (i:=s.1) (k:=9) 0 cE cV rfl rfl rfl rfl ⟨by omega,by omega⟩ ?_);iterate 6 refine G ?_
   refine bO (IF _ cE bT (q0 rfl) (q0 rfl) (fun _=>⟨rfl,by omega⟩)) ?_;iterate 9 refine G ?_
   exact bH (v:= .slice _ _ _) rfl rfl hmk fun w' hw=>⟨(),by rw [hcf4,cH,UK (by omega)],by rw [hcf4];exact hw⟩
  iterate 8 refine G ?_
  exact ay (k+1) eE ⟨rfl,trivial⟩ (fun _ h=>h) rfl ⟨by omega,by omega,y,by simpa using hy,by
   rw [hcf,hdrop];simp only [gg];rw [ah (by simpa using heq),iJ _ _ _ hy];simp⟩ (by show xs.length -(k+1)<xs.length -k;omega)
 have hend:k=xs.length:=by simp at hlt;omega
 have hcf4:gn eq xs=xs:=by rw [hcf,hend,nW,dp];simp [gg]
 iterate 12 refine G ?_
 exact bH (v:= .slice _ _ _) rfl rfl hmk fun w' hw=>⟨(),by rw [hcf4],by rw [hcf4];exact hw⟩
theorem Hd {w0 w:World} {L:List E.Item} {j c:Nat} {A:Option Addr} {xs:List Ev} (hw:Mem w0 L w) (hk:L[j]?=some (ig A c xs)) (hmk:marks L=[]) (hn:xs.length≤1000000):
  Calls Tryz.prog 268 #[.slice A xs.length c, .func (.func 269) #[] #[]] w fun e w'=> ∃_:Unit,e= .returned (.slice A (gn eH xs).length c)∧Mem w0 (L.set j (ig A c (gn eH xs))) w':=
 (Hc eH 269 Tryz.call269 Tj (hw.front hk) (An L j hmk) hn).mono fun _ _ ⟨_,he,hm⟩=>⟨(),he,hm.back hk⟩
theorem Aw {α:Type} (eq:α→α→Bool): ∀(xs:List α),(gn eq xs).length≤xs.length
 |[]=>bq _
 |x::xs=>by
  have: ∀(xs:List α) (p:α),(gg eq p xs).length≤xs.length:=by
   intro xs
   induction xs with
   |nil=>intro p;exact bq _
   |cons y ys ih=>
    intro p;simp only [gg];split
    ·have:=ih y;simp;omega
    have:=ih y;simp;omega
  have:=this xs x;simp [gn];omega
theorem DF (l:List Ev):(setOf l).length≤l.length:=by
 have:=Aw eH (l.mergeSort Cs);simpa [setOf] using this
attribute [local irreducible] gn
theorem U2 (A:Option Addr) (n c:Nat) (xs:List Ev) (w:World) (hx:HC w A n xs) (hn:n≤10000):
  Calls Tryz.prog 204 #[.slice A n c] w fun e w'=> ∃x:Option Addr×Nat,e= .returned (.slice x.1 (setOf xs).length x.2)∧Mem w [ig x.1 x.2 (setOf xs)] w':=by
 have hl:=hx.1;subst hl;refine aS Tryz.func204 rfl Tryz.ntmps204 rfl ?_;iterate 8 refine G ?_
 refine qW (en Tryz.call266 (il (q0 rfl))) (fun w hw=>Q6 A xs.length c xs w (hx.mem hw) hn) rfl (fun _=>rfl) fun x=>?_;iterate 6 refine G ?_
 refine bZ (bR (en UG (gr (q0 rfl) (q0 rfl))) (fun w hw=>PW (j:=0) hw rfl (by omega)) rfl (fun _=>rfl) fun u=>?_);iterate 5 refine G ?_
 have e1:xs.length=(xs.mergeSort Cs).length:=by simp
 rw [e1];refine bZ (bR (en Tryz.call268 (gr (q0 rfl) (q0 rfl))) (fun w hw=>Hd (j:=0) hw rfl rfl (by simp;omega)) rfl (fun _=>rfl) fun u=>?_);iterate 6 refine G ?_
 refine bZ (bR (en UG (gr (q0 rfl) (q0 rfl))) (fun w hw=>PV (j:=0) hw rfl (by have:=Aw eH (xs.mergeSort Cs);simp at this;omega)) rfl (fun _=>rfl) fun u=>?_);iterate 9 refine G ?_
 have e2:(gn eH (xs.mergeSort Cs)).length=(setOf xs).length:=by simp [setOf]
 exact bH (v:= .slice _ _ _) rfl rfl rfl fun w' hw=>⟨x,by rw [←e2],hw⟩
end Go.Proofs.Cus
