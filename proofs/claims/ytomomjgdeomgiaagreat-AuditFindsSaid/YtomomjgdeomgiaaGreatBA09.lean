import Derived.Test.YtomomjgdeomgiaaGreatBA08
set_option maxRecDepth 100000
set_option maxHeartbeats 8000000
set_option linter.all false
namespace Go.Proofs.Pen
open Go Go.RowKit Go.Proofs.E
def late (days:Int) (v x:V):Bool:=before x v&&MS days x v
theorem RN(days l v):TP days l v=((rR v.rider l).filter (late days v)).length:=by
 unfold TP rR
 rw [List.filter_filter]
 congr 1
 apply Ob
 grind [TP,rR,late,hit]
def nth (days:Int) (v:V) (pre:List V):Int:=1+((pre.filter (late days v)).length:Int)
theorem OX{days v x pre}(h:late days v x=true):nth days v (pre++[x])=nth days v pre+1:=by
 unfold nth;rw [gi];simp [h];omega
theorem Rm{days v x pre}(h:late days v x=false):nth days v (pre++[x])=nth days v pre:=by
 unfold nth;rw [gi];simp [h]
theorem Rn{days v pre}:1<=nth days v pre/\nth days v pre<=1+pre.length:=by
 grind [nth]
theorem OW{days l v}(h:v.kind=2):num days l v=nth days v (rR v.rider l):=by
 unfold num nth;rw [aB h,RN]
theorem LC{rider l x}(h:x∈rR rider l):x∈l:=(gO.1 h).1
theorem LD{rider l}:(rR rider l).length<=l.length:=dK _ _
def Im (l:List V):Prop:= ∀x∈l,0<=x.iI/\x.iI<=4294943999
theorem uQ(a0 a1 a2 a3 a4 fA fn fc days A n c vs v w)(hx:zw w A n vs)(h256:vs.length<=256)(ht:Im vs)(hv:0<=v.iI/\v.iI<=4294943999)(hd:0<=days/\days<=49709):
  Calls Tryz.prog 205 #[.agg #[a0,a1,a2,a3,a4, .slice fA fn fc, .int .i64 days], .slice A n c, .agg v.cells.toArray] w λe w'=>e= .returned (.int .i64 (num days vs v))/\fM w w':=by
 have hl:=hx.1;refine HF Tryz.func205 Tryz.ntmps205 ?_;refine cd (v:= .agg _) rfl rfl λb3=>cd (v:= .agg _) rfl rfl λb5=>?_;refine GD ?_ ?_<;>intro hk
 ·exact cu (v:= .int _ _) rfl rfl rfl λw' hw=>⟨cg (by simp at hk;unfold num;rw [an hk]),hw.1⟩
 have hk2:v.kind=2:=by simpa using hk
 refine GX ?_;refine bS bw rfl λb7=>dN (v:= .int _ _) rfl rfl ae ?_;refine GX ?_;refine oD (en Tryz.call287 (jn (q0 rfl) (q0 rfl))) (λw _=>JU A n c v.rider w) rfl (λ_=>rfl) λx=>GX ?_;refine P0 (rR v.rider vs) (Reads x.1 x.2 A n c v.rider vs) (λpre=>[box x.2 3 [.int .i64 v.rider],box x.1 46 [.slice A n c],box b7 3 [.int .i64 (nth days v pre)],box b5 251 v.cells,box b3 28 [a0,a1,a2,a3,a4, .slice fA fn fc, .int .i64 days]]) (λ_ _=>False) rfl rfl Tryz.call330 (JV x.1 x.2 A n c v.rider vs) (λ_=>rfl) rfl (λ_ h=>h) (λ_=>rfl) (λ_ _ h=>h.elim) (λpre w hw=>⟨jR hw (k:=1) rfl rfl,jR hw (k:=0) rfl rfl,(hw.nE (k:=1) rfl rfl).2,(hw.nE (k:=0) rfl rfl).2,hx.mem hw⟩) ?_ ?_ (λ_ _ _ h=>h.elim) rfl
 ·rintro l D r pre y hpre -;have hy:y∈rR v.rider vs:=hpre.subset (by simp);have hym:=ht y (LC hy);have hnl:=Rn (days:=days) (v:=v) (pre:=pre);have hpl:pre.length<=256:=by have h1:=hpre.length_le;have h2:=LD (rider:=v.rider) (l:=vs);simp at h1;omega
  refine GX ?_;refine bS G7 rfl λb8=>dN (v:= .agg _) rfl rfl N' ?_;refine GX ?_;refine GU _ rfl rfl (λw hw=>hw.pick [1,2,0,3,4,5,6,7] (by decide)) λr'=>?_;refine GX ?_;refine jx (en Tryz.call288 (jn (q0 rfl) (q0 rfl))) (λ_ w _=>NJ y v w)<|GX ?_;refine xh (wD (q1 rfl) (q0 rfl) (λ_=>by omega)) rfl rfl<|GX ?_;refine xh (wD (q1 rfl) (q0 rfl) (λ_=>by omega)) rfl rfl<|GD ?_ ?_<;>intro hc
  ·refine dN (v:= .int _ _) rfl rfl ae<|GX ?_;exact wu λw hw=>by rw [OX hc];exact hw.pick [0,1,3,4,5,6,7] (by decide)
  refine GX ?_;exact wu λw hw=>by rw [Rm hc];exact hw.pick [0,1,3,4,5,6,7] (by decide)
 intro D;refine GX ?_;exact Mo rfl (S7 (v:= .int _ _) rfl rfl) λw' hw=>⟨cg (OW hk2).symm,hw.1⟩
theorem num_nonneg{days l v}:0<=num days l v/\num days l v<=1+l.length:=by
 grind [num,TP,hit]
theorem KI{fines days l v}(h:(if (fines.length:Int)<num days l v then (fines.length:Int) else num days l v)=0):Gl fines days l v=0:=by
 grind [num,Gl]
theorem KJ{fines days l v x}(h: ¬(if (fines.length:Int)<num days l v then (fines.length:Int) else num days l v)=0)(hx:fines[((if (fines.length:Int)<num days l v then (fines.length:Int) else num days l v) -1).toNat]?=some x):Gl fines days l v=x:=by
 have hn:=num_nonneg (days:=days) (l:=l) (v:=v)
 unfold Gl
 rw [an (by split at h<;>omega),ar]
 have:min (num days l v).toNat fines.length -1=((if (fines.length:Int)<num days l v then (fines.length:Int) else num days l v) -1).toNat:=by split<;>omega
 rw [this,hx];rfl
theorem Rx(a0 a1 a2 a3 a4 fA fn fc fines days A n c vs v w)(hf:lf w fA fn fines)(hx:zw w A n vs)(h256:vs.length<=256)(ht:Im vs)(hv:0<=v.iI/\v.iI<=4294943999)(hd:0<=days/\days<=49709):
  Calls Tryz.prog 206 #[.agg #[a0,a1,a2,a3,a4, .slice fA fn fc, .int .i64 days], .slice A n c, .agg v.cells.toArray] w λe w'=>e= .returned (.int .i64 (Gl fines days vs v))/\fM w w':=by
 have hl:=hf.1;have hn:=num_nonneg (days:=days) (l:=vs) (v:=v);subst hl;refine HF Tryz.func206 Tryz.ntmps206 ?_;refine cd (v:= .agg _) rfl rfl λb3=>cd (v:= .agg _) rfl rfl λb5=>?_;refine GX ?_;refine vS<|GX ?_;refine jx (en Tryz.call205 (nS (q0 rfl) (q0 rfl) (q0 rfl))) (λ_ w hm=>uQ a0 a1 a2 a3 a4 fA fines.length fc days A n c vs v w (hx.mem hm) h256 ht hv hd)<|GX ?_;refine fI (Nd (q0 rfl) (q0 rfl))<|GD ?_ ?_<;>intro hz
 ·exact cu (v:= .int _ _) rfl rfl rfl λw' hw=>⟨cg (KI (by simpa using hz)).symm,hw.1⟩
 have hz':=dB hz;obtain ⟨b,off,x,rfl,hbl,hxk,hr⟩:=hf.at_ (i:=((if (fines.length:Int)<num days vs v then (fines.length:Int) else num days vs v) -1).toNat) (by split at hz'<;>split<;>omega);refine GX ?_;refine fI (cx _ aA ae (q0 rfl) (q0 rfl) (λ_=>⟨(Int.toNat_of_nonneg (by split at hz'<;>split<;>omega)).symm,by split at hz'<;>split<;>omega⟩))<|GX ?_;exact cu (v:= .int _ _) rfl rfl rfl λw' hw=>⟨cg (KJ hz' hxk).symm,hw.1⟩
theorem GL(a0 a1 a2 a3 a4 fA fn fc fines days A n c vs w)(hf:lf w fA fn fines)(hx:zw w A n vs):
  Calls Tryz.prog 204 #[.agg #[a0,a1,a2,a3,a4, .slice fA fn fc, .int .i64 days], .slice A n c] w λe w'=>e= .returned (.int .i64 (Cu fines days vs))/\fM w w':=by
 refine HF Tryz.func204 Tryz.ntmps204 ?_;refine cd (v:= .agg _) rfl rfl λb2=>GX ?_;refine jx (en Tryz.call57 (iQ (q0 rfl))) (λ_ w hm=>AW a0 a1 a2 a3 a4 fA fn fc fines days w (hf.mem hm))<|GD ?_ ?_<;>intro hz
 ·exact cu (v:= .int _ _) rfl rfl rfl λw' hw=>⟨cg (by simp at hz;unfold Cu;rw [aB hz]),hw.1⟩
 refine GX ?_;refine jx (en Tryz.call116 (iQ (q0 rfl))) (λ_ w hm=>LH A n c vs w (hx.mem hm))<|GX ?_;exact cu (v:= .int _ _) rfl rfl rfl λw' hw=>⟨cg (by simp at hz;unfold Cu;rw [an (by simpa using hz)]),hw.1⟩
theorem LK{seen l}(h:oS seen l=0): ∀x∈l,Aq x=0:=by
 induction l generalizing seen with
 |nil=>simp
 |cons v l ih=>
  grind [oS,Aq,uE]
theorem DO{l}(h:r9 l=0):l.length<=256/\ ∀x∈l,Aq x=0:=by
 grind [r9,Aq,LK]
theorem Oi{v}(h:Aq v=0):1<=v.bn/\v.bn<=1000000/\0<=v.rider/\v.rider<128/\0<=v.iI/\v.iI<=4294943999/\1<=v.kind/\v.kind<=3:=by
 grind [Aq]
theorem vh{l}(h:r9 l=0):Im l:=λx hx=>by
 have:=Oi ((DO h).2 x hx);omega
theorem FP{xs d}(h:rk xs d=0):xs.length<=512/\(∀x∈xs,0<=x/\x<=1000000)/\0<=d/\d<=49709:=by
 grind [rk,mM]
theorem Jy{fines d l}(h:Cu fines d l=0):rk fines d=0/\r9 l=0:=by
 grind [Cu,rk,r9]
theorem NU(a0 a1 a2 a3 a4 fA fn fc fines days A n c vs i w)(hf:lf w fA fn fines)(hx:zw w A n vs):
  Calls Tryz.prog 125 #[.agg #[a0,a1,a2,a3,a4, .slice fA fn fc, .int .i64 days], .slice A n c, .int .i64 i] w λe w'=>e= .returned (.tuple #[.int .i64 (CO fines days vs i).1, .int .i64 (CO fines days vs i).2])/\fM w w':=by
 have hl:=hx.1;refine HF Tryz.func125 Tryz.ntmps125 ?_;refine cd (v:= .agg _) rfl rfl λb3=>GX ?_;refine jx (en Tryz.call204 (jn (q0 rfl) (q0 rfl))) (λ_ w hm=>GL a0 a1 a2 a3 a4 fA fn fc fines days A n c vs w (hf.mem hm) (hx.mem hm))<|GD ?_ ?_<;>intro hz
 ·exact jr (v:= .int _ _) (x:= .int _ _) rfl rfl rfl rfl λw' hw=>⟨by simp at hz;unfold CO;rw [aB hz]<;>rfl,hw.1⟩
 have hz':Cu fines days vs=0:=by simpa using hz
 obtain ⟨hp,hv⟩:=Jy hz';refine GD ?_ ?_<;>intro hi
 ·exact jr (v:= .int _ _) (x:= .int _ _) rfl rfl rfl rfl λw' hw=>⟨by unfold CO;rw [an (by simpa using hz'),aB (by simp at hi;omega)]<;>rfl,hw.1⟩
 simp at hi;obtain ⟨k,rfl⟩:=kU hi.1;obtain ⟨b,off,v,rfl,hbl,hvk,hr⟩:=hx.at_ (i:=k) (by omega);refine GX ?_;refine vS<|GX ?_;refine jx (en Tryz.call205 (nS (q0 rfl) (q0 rfl) (q0 rfl))) (λ_ w hm=>uQ a0 a1 a2 a3 a4 fA fn fc days _ n c vs v w (hx.mem hm) (DO hv).1 (vh hv) (vh hv v (aq hvk)) (FP hp).2.2)<|GX ?_;exact jr (v:= .int _ _) (x:= .int _ _) rfl rfl rfl rfl λw' hw=>⟨by unfold CO;rw [an (by simpa using hz'),an (by omega),ar,bC,hvk]<;>rfl,hw.1⟩
theorem Se(a0 a1 a2 a3 a4 fA fn fc fines days A n c vs i w)(hf:lf w fA fn fines)(hx:zw w A n vs):
  Calls Tryz.prog 126 #[.agg #[a0,a1,a2,a3,a4, .slice fA fn fc, .int .i64 days], .slice A n c, .int .i64 i] w λe w'=>e= .returned (.tuple #[.int .i64 (s7 fines days vs i).1, .int .i64 (s7 fines days vs i).2])/\fM w w':=by
 have hl:=hx.1;refine HF Tryz.func126 Tryz.ntmps126 ?_;refine cd (v:= .agg _) rfl rfl λb3=>GX ?_;refine jx (en Tryz.call204 (jn (q0 rfl) (q0 rfl))) (λ_ w hm=>GL a0 a1 a2 a3 a4 fA fn fc fines days A n c vs w (hf.mem hm) (hx.mem hm))<|GD ?_ ?_<;>intro hz
 ·exact jr (v:= .int _ _) (x:= .int _ _) rfl rfl rfl rfl λw' hw=>⟨by simp at hz;unfold s7;rw [aB hz]<;>rfl,hw.1⟩
 have hz':Cu fines days vs=0:=by simpa using hz
 obtain ⟨hp,hv⟩:=Jy hz';refine GD ?_ ?_<;>intro hi
 ·exact jr (v:= .int _ _) (x:= .int _ _) rfl rfl rfl rfl λw' hw=>⟨by unfold s7;rw [an (by simpa using hz'),aB (by simp at hi;omega)]<;>rfl,hw.1⟩
 simp at hi;obtain ⟨k,rfl⟩:=kU hi.1;obtain ⟨b,off,v,rfl,hbl,hvk,hr⟩:=hx.at_ (i:=k) (by omega);refine GX ?_;refine vS<|GX ?_;refine jx (en Tryz.call206 (nS (q0 rfl) (q0 rfl) (q0 rfl))) (λ_ w hm=>Rx a0 a1 a2 a3 a4 fA fn fc fines days _ n c vs v w (hf.mem hm) (hx.mem hm) (DO hv).1 (vh hv) (vh hv v (aq hvk)) (FP hp).2.2)<|GX ?_;exact jr (v:= .int _ _) (x:= .int _ _) rfl rfl rfl rfl λw' hw=>⟨by unfold s7;rw [an (by simpa using hz'),an (by omega),ar,bC,hvk]<;>rfl,hw.1⟩
end Go.Proofs.Pen
namespace Go.Proofs.Far
open Go.Proofs.Cus Go.Proofs.Rid
structure CE where
 kind:Int
 ref:Int
 fU:Int
deriving DecidableEq,Inhabited
structure jq where
 bn:Int
 rider:Int
 items:List CE
 total:Int
deriving DecidableEq,Inhabited
def mD (b:jq) (k r a:Int):jq:=if a=0 then b else {b with items:=b.items++[⟨k,r,a⟩],total:=b.total+a}
theorem mC(b k r a):(mD b k r a).total=b.total+a:=by
 unfold mD
 split
 ·omega
 rfl
theorem vK(b k r a):(mD b k r a).bn=b.bn/\(mD b k r a).rider=b.rider:=by
 unfold mD
 split<;>exact ⟨rfl,rfl⟩
theorem kQ(b k r a):(mD b k r a).items.length<=b.items.length+1:=by
 unfold mD
 split
 ·omega
 simp
def jC (p:Pr) (r:Rd):Int×Int:=
 if r.wh=2/\0<=r.pl/\r.pl<p.places.length then (p.places.getD r.pl.toNat 0,r.pl)
 else if r.wh=1/\0<=r.pl/\r.pl/32<p.iX.length then (p.iX.getD (r.pl/32).toNat 0,64+r.pl/32)
 else (0,0)
def qX (p:Pr) (r:Rd):Nat:=CJ p.jU r.start.lo
def jt (p:Pr) (r:Rd):Tf:=p.jU.getD (qX p r) default
def tm (p:Pr) (r:Rd):jq:=mD (mD (mD ⟨r.id,r.rider,[],0⟩ 1 (qX p r) (jt p r).unlock) 2 (qX p r) (o6 (jt p r) (oZ r))) 3 (qX p r) (rj (jt p r) (tK r))
def wO (p:Pr) (r:Rd):jq:=mD (tm p r) 4 (jC p r).2 (max (jC p r).1 (-(tm p r).total))
def qp (p:Pr) (r:Rd) (by_:Int):Int:=o6 (jt p r) (min (oZ r) (p.lT.getD by_.toNat default).gG)
def sS (p:Pr) (r:Rd) (by_:Int):jq:=if 0<=by_ then mD (wO p r) 5 by_ (-(min (wO p r).total ((jt p r).unlock+qp p r by_))) else wO p r
def tQ (p:Pr) (r:Rd) (by_:Int):Option jq:=
 if 1000000000000<o6 (jt p r) (oZ r) then none
 else if 1000000000000<rj (jt p r) (tK r) then none
 else if 0<=by_/\1000000000000<qp p r by_ then none
 else if 1000000000000<(sS p r by_).total then none
 else some (sS p r by_)
theorem nQ{f p}(h:gS f p=0):fy f=0/\kX p.jU=0/\k8 p.lT=0/\p.iX.length=f.iX.length/\p.places.length<=64/\(∀x∈p.places++p.iX,ph x=false)/\0<=p.cap/\p.cap<=1000000000000/\Pen.rk p.fines p.days=0:=by
 unfold gS at h;split at h
 ·omega
 split at h
 ·omega
 split at h
 ·omega
 grind
theorem LI{p r}(h:kX p.jU=0):p.jU[qX p r]?=some (jt p r)/\nY (jt p r)=true:=by
 grind [kX,qX,jt,nY,LY,RR]
theorem Fo{t}(h:nY t=true){s}(hs:s<=4294944000):0<=oX t s/\oX t s<=4294944000:=Bp (pS.1 h).2.2.2.2.1 hs
theorem D6{t}(h:nY t=true){s}(hs:s<=4294944000):0<=o6 t s:=by
 have h2:=pS.1 h
 have h3:=Fo h (s:=s -t.free) (by omega)
 unfold o6
 exact Iz h2.2.2.1.1 h3.1
theorem IW{t}(h:nY t=true){s}(hs:s<=4294944000):0<=rj t s:=by
 have h2:=pS.1 h
 have h3:=Fo h (s:=s) hs
 unfold rj
 exact Iz h2.2.2.2.1.1 h3.1
theorem Kl{f p}(h:gS f p=0)(r): -1000000<=(jC p r).1/\(jC p r).1<=1000000:=by
 have hp:=(nQ h).2.2.2.2.2.1
 have key: ∀(l:List Int) (k:Nat),(∀x∈l,ph x=false)-> -1000000<=l.getD k 0/\l.getD k 0<=1000000:=by
  intro l k hl
  rw [ar]
  cases hk:l[k]? with
  |none=>simp
  |some x=>
   have:=hl x (aq hk)
   grind [gS,jC,ph]
 unfold jC
 split
 ·grind [gS,jC]
 split
 ·exact key _ _ λx hx=>hp x (bO.2 (.inr hx))
 simp
theorem Cv(p r):(tm p r).total=(jt p r).unlock+o6 (jt p r) (oZ r)+rj (jt p r) (tK r):=by
 unfold tm
 rw [mC,mC,mC]
 simp
theorem Db(p r):(wO p r).total=(tm p r).total+max (jC p r).1 (-(tm p r).total):=by unfold wO;rw [mC]
theorem BO(p r by_):(sS p r by_).total=if 0<=by_ then (wO p r).total -min (wO p r).total ((jt p r).unlock+qp p r by_) else (wO p r).total:=by
 unfold sS
 split
 ·rw [mC];omega
 rfl
end Go.Proofs.Far
namespace Go.Proofs.Rid
open Go Go.RowKit Go.Proofs.E Go.Proofs.Cus
theorem zi(A n c xs w)(hx:eG w 5 Lg.cells A n xs)(hn:n<=100000):Calls Tryz.prog 208 #[.slice A n c] w λe w'=> ∃x:Option Addr×Nat,e= .returned (.slice x.1 xs.length x.2)/\Mem w [uf x.1 x.2 xs] w':=by
 have hl:=hx.1;refine HF Tryz.func208 Tryz.ntmps208 ?_;refine fI (Cq eU (q0 rfl))<|GD ?_ ?_<;>intro h1
 ·have hA0:A=none:=by simpa using h1
  have hn0:n=0:=by
   rcases ga n with h|h
   ·exact h
   obtain ⟨b,off,hb,_⟩:=hx.2.2 h;rw [hA0] at hb;cases hb
  subst hn0;have:xs=[]:=dR hl;subst this;refine GX ?_;exact cu (v:= .slice _ _ _) rfl rfl rfl λw' hw=>⟨(none,0),rfl,hw.fY _ _ _ rfl⟩
 refine GX ?_;refine cQ (mN Lg.cells eU ij rfl λA1 c1=>?_);refine GX ?_;refine lI (dj (k:=5) (i:=Tryz.t142) (enc:=Lg.cells) 0 eU (by kernel_rfl) rfl rfl rfl rfl (λ_=>rfl) (λ_=>rfl) rfl rfl rfl (λw hw=>hx.mem hw) ⟨by simp;omega,by decide⟩ rfl λA2 c2=>?_);refine GX ?_;exact cu (v:= .slice _ _ _) rfl rfl rfl λw' hw=>⟨(A2,c2),rfl,hw⟩
theorem zh(A n c xs w)(hx:eG w 4 Pz.cells A n xs)(hn:n<=100000):Calls Tryz.prog 209 #[.slice A n c] w λe w'=> ∃x:Option Addr×Nat,e= .returned (.slice x.1 xs.length x.2)/\Mem w [zO x.1 x.2 xs] w':=by
 have hl:=hx.1;refine HF Tryz.func209 Tryz.ntmps209 ?_;refine fI (Cq gq (q0 rfl))<|GD ?_ ?_<;>intro h1
 ·have hA0:A=none:=by simpa using h1
  have hn0:n=0:=by
   rcases ga n with h|h
   ·exact h
   obtain ⟨b,off,hb,_⟩:=hx.2.2 h;rw [hA0] at hb;cases hb
  subst hn0;have:xs=[]:=dR hl;subst this;refine GX ?_;exact cu (v:= .slice _ _ _) rfl rfl rfl λw' hw=>⟨(none,0),rfl,hw.fY _ _ _ rfl⟩
 refine GX ?_;refine cQ (mN Pz.cells gq jf rfl λA1 c1=>?_);refine GX ?_;refine lI (dj (k:=4) (i:=Tryz.t284) (enc:=Pz.cells) 0 gq (by kernel_rfl) rfl rfl rfl rfl (λ_=>rfl) (λ_=>rfl) rfl rfl rfl (λw hw=>hx.mem hw) ⟨by simp;omega,by decide⟩ rfl λA2 c2=>?_);refine GX ?_;exact cu (v:= .slice _ _ _) rfl rfl rfl λw' hw=>⟨(A2,c2),rfl,hw⟩
theorem Ns(x w)(hx:tq w x)(hl:x.r.db.length<=100000)(hp:x.r.bV.length<=100000):Calls Tryz.prog 130 #[.agg x.cells.toArray] w λe w'=> ∃y:Qt,e= .returned (.agg (RX.cells ⟨x.r,y⟩).toArray)/\Mem w (jV ⟨x.r,y⟩) w':=by
 obtain ⟨r,⟨lA,lc,pA,pc⟩⟩:=x;obtain ⟨hlg,hpz⟩:=hx;simp only at hlg hpz hl hp;refine HF Tryz.func130 Tryz.ntmps130 ?_;refine cd (v:= .agg _) rfl rfl λb1=>bS dp rfl λb2=>?_;refine GX ?_;refine ke (rg 3 8) (λ_:Qt=>[]) (λs=>[uf s.lA s.lc r.db,zO s.pA s.pc r.bV,box b2 78 [.int .i64 0, .int .i64 0, .int .i64 0, .int .i64 0, .int .i64 0, .int .i64 0, .bool false, .slice none 0 0, .slice none 0 0, .int .i64 0, .int .i64 0, .int .i64 0, .int .i64 0],box b1 78 (RX.cells ⟨r,s⟩)]) (λ_=>True) ?_ ?_
 ·refine JQ 2 ?_;refine aW 0 ?_;refine aW 3 ?_;refine lS (i:=1) (j:=4) (by decide+kernel) (au 2) ?_ ?_
  ·refine aL rfl (kA (gB (v:= .slice lA r.db.length lc) qm (q0 rfl) cb) rfl rfl ?_);refine lS (i:=2) (j:=4) (by decide+kernel) (au 2) ?_ ?_
   ·refine aL rfl (il (en Sy (iQ (q0 rfl))) (λw hw=>zi lA _ lc r.db w (hlg.mem hw) hl) rfl (λ_=>rfl) λly=>?_);refine r1 4 3 ?_;refine aL rfl (kA (gB (v:= .slice pA r.bV.length pc) ql (q0 rfl) cb) rfl rfl ?_);refine aW 6 ?_;refine r1 5 3 ?_;refine aL rfl (il (en Sx (iQ (q0 rfl))) (λw hw=>zh pA _ pc r.bV w (hpz.mem hw) hp) rfl (λ_=>rfl) λpy=>?_);refine aI 1 ?_;refine r1 7 4 ?_;refine aL rfl (mB (v:= .slice _ _ _) rfl rfl qM ?_);refine aW 8 ?_;refine r1 9 4 ?_;refine aL rfl (mB (v:= .slice _ _ _) rfl rfl qL ?_);refine qE 4 ?_;exact aO (⟨ly.1,ly.2,py.1,py.2⟩:Qt) lg trivial (λw hw=>hw) rfl trivial
   refine aL rfl (kA (gB (v:= .slice pA r.bV.length pc) ql (q0 rfl) cb) rfl rfl ?_);refine r1 2 2 ?_;refine aL rfl (il (en Sy (iQ (q0 rfl))) (λw hw=>zi lA _ lc r.db w (hlg.mem hw) hl) rfl (λ_=>rfl) λly=>?_);refine aW 6 ?_;refine r1 5 3 ?_;refine aL rfl (il (en Sx (iQ (q0 rfl))) (λw hw=>zh pA _ pc r.bV w (hpz.mem hw) hp) rfl (λ_=>rfl) λpy=>?_);refine aI 1 ?_;refine r1 7 4 ?_;refine aL rfl (mB (v:= .slice _ _ _) rfl rfl qM ?_);refine aW 8 ?_;refine r1 9 4 ?_;refine aL rfl (mB (v:= .slice _ _ _) rfl rfl qL ?_);refine qE 4 ?_;exact aO (⟨ly.1,ly.2,py.1,py.2⟩:Qt) lg trivial (λw hw=>hw) rfl trivial
  refine aL rfl (kA (gB (v:= .slice pA r.bV.length pc) ql (q0 rfl) cb) rfl rfl ?_);refine r1 1 2 ?_;refine aL rfl (kA (gB (v:= .slice lA r.db.length lc) qm (q0 rfl) cb) rfl rfl ?_);refine r1 2 2 ?_;refine aL rfl (il (en Sy (iQ (q0 rfl))) (λw hw=>zi lA _ lc r.db w (hlg.mem hw) hl) rfl (λ_=>rfl) λly=>?_);refine aW 6 ?_;refine r1 5 3 ?_;refine aL rfl (il (en Sx (iQ (q0 rfl))) (λw hw=>zh pA _ pc r.bV w (hpz.mem hw) hp) rfl (λ_=>rfl) λpy=>?_);refine aI 1 ?_;refine r1 7 4 ?_;refine aL rfl (mB (v:= .slice _ _ _) rfl rfl qM ?_);refine aW 8 ?_;refine r1 9 4 ?_;refine aL rfl (mB (v:= .slice _ _ _) rfl rfl qL ?_);refine qE 4 ?_;exact aO (⟨ly.1,ly.2,py.1,py.2⟩:Qt) lg trivial (λw hw=>hw) rfl trivial
 intro s g _;refine GX ?_;refine dN (v:= .agg _) rfl rfl ba<|GX ?_;exact lR rfl (Qe 2 rfl rfl fT ba rfl rfl) λw' hw=>⟨s,rfl,hw.pick [0,1] (by decide)⟩
def GY (xs:List RX):Prop:= ∀x∈xs,x.r.db.length<=100000/\x.r.bV.length<=100000
def NR (l:List Rd):Type:={y:Option Addr×Nat×List RX//y.2.2.map (·.r)=l}
def dF (h:Int) (r:Rd):Bool:=!r.open_&&decide (r.end_.lo<h)
theorem xO(A n c xs h w)(hx:lZ w A n xs)(hs:GY xs)(hn1:n<=100000):Calls Tryz.prog 52 #[.slice A n c, .int .i64 h] w λe w'=> ∃y:NR ((xs.map (·.r)).filter (dF h)),e= .returned (.slice y.1.1 y.1.2.2.length y.1.2.1)/\Mem w [eI y.1.1 y.1.2.1 y.1.2.2,kc y.1.2.2] w':=by
 have hl:=hx.1.1;refine HF Tryz.func52 Tryz.ntmps52 ?_;refine lb ([5,7]++rg 10 20) (λq:Nat×Option Addr×Nat×List RX=>[(10, .int .i64 q.1),(5, .slice q.2.1 q.2.2.2.length q.2.2.1)]) (λq=>[eI q.2.1 q.2.2.1 q.2.2.2,kc q.2.2.2]) (λq=>q.1<=n/\q.2.2.2.length<=q.1/\q.2.2.2.map (·.r)=((xs.map (·.r)).take q.1).filter (dF h)) (λq=>n -q.1) (0,none,0,[]) (λw hw=>((ik.2 hw.1).BT (f:=jV)).fY _ _ _ rfl) ⟨bj _,bA _,rfl⟩ ?_;rintro ⟨k,oA,oc,ys⟩ g ⟨hk,hyk,hall⟩;simp only at hk hyk hall;refine GD ?_ ?_<;>intro hlt
 ·have hlt':k<n:=by simpa using hlt
  obtain ⟨b,off,y,rfl,hbl,hy,hry⟩:=hx.1.at_ hlt';have hym:=aq hy;have hya:=hx.2 y hym;have hys:=hs y hym;have hyr:(xs.map (·.r))[k]?=some y.r:=by simp [hy]
  have hst:=dY _ _ _ hyr;refine GX ?_;refine bS dp rfl λb7=>dN (v:= .agg _) rfl rfl ba ?_;refine GD ?_ ?_<;>intro hb
  ·have hnew: ∀z:Qt,(ys++[(⟨y.r,z⟩:RX)]).map (·.r)=((xs.map (·.r)).take (k+1)).filter (dF h):=λz=>by
    rw [hst,gi,<-hall,eY,CK (show dF h y.r=true from hb)];rfl
   refine GX ?_;refine oD (en Tryz.call130 (iQ (q0 rfl))) (λw hw=>Ns y w (hya.mem hw) hys.1 hys.2) rfl (λ_=>rfl) λz=>gN (k:=13) (i:=Tryz.t78) 3 (⟨y.r,z⟩) aT (by kernel_rfl) rfl rfl rfl rfl ba dp rfl rfl rfl rfl rfl rfl ⟨by simp only;omega,by decide⟩ rfl rfl λPB A1 c1=>?_;refine GX ?_;exact nc (k+1,A1,c1,ys++[⟨y.r,z⟩]) (λw hw=>by have h1:=hw.pick [0,1,4,3] (by decide);have h2:=Mem.Eb (f:=jV) (y:=⟨y.r,z⟩) (xs:=ys) h1;exact h2.pick [1,0] (by decide)) ⟨by show k+1<=_;omega,by simp;omega,hnew z⟩
  have hold:ys.map (·.r)=((xs.map (·.r)).take (k+1)).filter (dF h):=by
   rw [hst,gi,<-hall,CL (by rw [show dF h y.r=false from hb];decide)];simp
  refine GX ?_;exact nc (k+1,oA,oc,ys) (λw hw=>hw.tail) ⟨by show k+1<=_;omega,by show ys.length<=k+1;omega,hold⟩
 have hend:k=n:=by simp at hlt;omega
 have hfin:ys.map (·.r)=(xs.map (·.r)).filter (dF h):=by rw [hall,hend,<-hl,bo (by simp)]
 refine GX ?_;exact cu (v:= .slice _ _ _) rfl rfl rfl λw' hw=>⟨⟨(oA,oc,ys),hfin⟩,rfl,hw⟩
end Go.Proofs.Rid
namespace Go.Proofs.Far
open Go Go.RowKit Go.Proofs.E Go.Proofs.Cus Go.Proofs.Rid
theorem Jf {fs:Array Field} (h:Tryz.prog.underlying 144=some (.struct fs):=by exact j8):df Tryz.prog fs [(0,1),(1,1),(2,1)]:=by
 rw [j8] at h
 cases h
 intro w
 kernel_rfl
theorem Rv{fs}(h:Tryz.prog.underlying 81=some (.struct fs):=by exact ct):df Tryz.prog fs [(0,1),(1,1),(2,1),(3,1)]:=by
 rw [ct] at h
 cases h
 intro w
 kernel_rfl
theorem Tv {fs:Array Field} (h:Tryz.prog.underlying 248=some (.struct fs):=by exact nK):df Tryz.prog fs [(0,4)]:=by
 rw [nK] at h
 cases h
 intro w
 kernel_rfl
section
variable {c:Cx} {w0:World} {L:List E.Item} {f:Fr} {ty t:TypeId} {x:Operand} {g:Bool} {m:Int}
theorem Qn(hx:gH g f x (.int .i64 m)){r}(hr:g=true-> -m=r/\ -9223372036854775808<=r/\r<=9223372036854775807):gj g c w0 L f (.unOp .neg t x) ty (.int .i64 r):=λe _ _ _ _ w _=>by
 obtain ⟨rfl,h1,h2⟩:=hr e
 have h3:IntKind.i64.wrap (0 -m)= -m:=by rw [Int.zero_sub];exact IntWalk.i64_in _ ⟨h1,h2⟩
 have h4:IntKind.i64.wrap (-m)= -m:=IntWalk.i64_in _ ⟨h1,h2⟩
 simp [execOp,hx e,Op.unary,Op.intArith,h3,h4]
end
def nz:List Rd->Int
 |[]=>0
 |r::l=>if eF r≠0 then eF r else nz l
def ot (rs:List Rd):Int:=if 256<rs.length then 8 else if nz rs≠0 then nz rs else if jk [] (rs.map (·.id))=true then 6 else 0
theorem BA: ∀{l:List Rd},nz l=0-> ∀r∈l,eF r=0
 |[],_,r,hr=>by cases hr
 |x::l,h,r,hr=>by
  unfold nz at h
  split at h
  ·omega
  rcases cn.1 hr with rfl|hr
  ·rename_i h2;simpa using h2
  exact BA h r hr
theorem zN{rs}(h:ot rs=0):Good rs:=by
 unfold ot at h
 split at h
 ·cases h
 split at h
 ·omega
 split at h
 ·cases h
 rename_i h1 h2 h3
 exact ⟨BA (by simpa using h2),by simpa using h3,by omega⟩
def tw (ids:List Int) (k:Nat):Bool:=jk [] (ids.take k)
theorem IA: ∀(l seen:List Int) (x:Int),jk seen (l++[x])=(jk seen l||qd (seen++l) x)
 |[],seen,x=>by unfold jk qd;simp [jk]
 |y::l,seen,x=>by
  rw [vQ]
  unfold jk
  rw [IA l (seen++[y]) x,cE,Bool.or_assoc];rfl
theorem Om{ids k x}(h:ids[k]?=some x):tw ids (k+1)=(tw ids k||qd (ids.take k) x):=by
 unfold tw
 rw [oT _ _ _ h,IA];rfl
def F9 (ids:List Int):List Int:=ids.foldl (λl x=>if qd l x then l else l++[x]) []
theorem EA(ids): ∀(l:List Int) (x:Int),qd (ids.foldl (λl x=>if qd l x then l else l++[x]) l) x=(qd l x||qd ids x):=by
 induction ids with
 |nil=>intro l x;unfold qd;simp
 |cons y ids ih=>
  grind [qd]
theorem KE(ids x):qd (F9 ids) x=qd ids x:=by
 unfold F9
 rw [EA];rfl
theorem FV: ∀(l:List Int) (x:Int),qd l x=true->ou (qq l) x (.bool true)=qq l
 |[],x,h=>by cases h
 |y::l,x,h=>by
  by_cases hy:y=x
  ·subst hy
   simp [qq,ou]
  have h2:(y==x)=false:=gk.2 hy
  have h3:qd l x=true:=by
   grind [qd,ou,qq]
  have ih:=FV l x h3
  simp only [qq,kh,ou,h2,oR,sB] at ih|-
  rw [ih]
theorem Kr{ids:List Int}{k x}(h:ids[k]?=some x):ou (qq (F9 (ids.take k))) x (.bool true)=qq (F9 (ids.take (k+1))):=by
 grind [ou,qq,F9,qd,oT,FV,wQ]
theorem HC{l:List Rd}{k r}(h:l[k]?=some r):nz (l.drop k)=if eF r≠0 then eF r else nz (l.drop (k+1)):=by
 rw [tT h];rfl
attribute [local irreducible] F9 tw
theorem D1(A n c rs w)(hr:lZ w A n rs)(hshort:GY rs):Calls Tryz.prog 115 #[.slice A n c] w λe w'=>e= .returned (.int .i64 (ot (rs.map (·.r))))/\fM w w':=by
 have hl:=hr.1.1;have hn:=hr.1.2.1;obtain ⟨ids,hids⟩: ∃ids:List Int,ids=(rs.map (·.r)).map (·.id):=⟨_,rfl⟩;have hidl:ids.length=n:=by rw [hids,aS,aS,hl]
 have hrl:(rs.map (·.r)).length=n:=by rw [aS,hl]
 refine HF Tryz.func115 Tryz.ntmps115 ?_;refine GD ?_ ?_<;>intro h1
 ·have h1':256<n:=by
   have h:(256:Int)<(n:Int):=cC h1;omega
  refine GX ?_;exact cu (v:= .int _ _) rfl rfl rfl λw' hw=>⟨cg (by unfold ot;rw [aB (by omega)]),hw.1⟩
 have h1': ¬256<n:=by
  have h: ¬(256:Int)<(n:Int):=dB h1;omega
 have herr:ot (rs.map (·.r))=if nz (rs.map (·.r))≠0 then nz (rs.map (·.r)) else if tw ids n=true then 6 else 0:=by
  unfold ot tw;rw [an (by omega),hids,bo (by rw [aS];omega)]
 rw [herr];refine GX ?_;refine vL rfl λbm=>fI (aU (v:= .map _) (q0 rfl)) ?_;refine GX ?_;refine ef ([2,4,6,7]++rg 14 20) (λk:Nat=>[(14, .int .i64 k),(4, .bool (tw ids k))]) (λk=>[oP bm (qq (F9 (ids.take k)))]) (λk=>k<=n/\nz (rs.map (·.r))=nz ((rs.map (·.r)).drop k)) (λk=>n -k) 0 ⟨rfl,by unfold tw;rfl,trivial⟩ (λw hw=>by unfold F9;exact hw) rfl ⟨bj _,rfl⟩ ?_;rintro k g ⟨hk,hall⟩;refine GD ?_ ?_<;>intro hlt
 ·have hlt':k<n:=by
   have h:(k:Int)<(n:Int):=cC hlt;omega
  obtain ⟨b,off,x,rfl,hbl,hxk,hrx⟩:=hr.1.at_ hlt';have hxm:=aq hxk;have hxr:(rs.map (·.r))[k]?=some x.r:=by simp [hxk]
  have hik:ids[k]?=some x.r.id:=by rw [hids];simp [hxk]
  rw [HC hxr] at hall;have hsh:=hshort x hxm;refine GX ?_;refine bS dp rfl λb6=>dN (v:= .agg _) rfl rfl ba ?_;refine GX ?_;refine jx (en Sz (iQ (q0 rfl))) (λ_ w hw=>xB x w ((hr.2 x hxm).mem hw) (by omega) (by omega))<|GD ?_ ?_<;>intro h2
  ·have h2':eF x.r≠0:=by simpa using h2
   rw [aB h2'] at hall;refine GX ?_;exact cu (v:= .int _ _) rfl rfl rfl λw' hw=>⟨cg (by rw [hall,aB h2']),hw.1⟩
  have h2': ¬eF x.r≠0:=by simpa using h2
  rw [an h2'] at hall;have htw:=Om hik;refine GX ?_;refine SG (EI (u:= .bool (qd (ids.take k) x.r.id)) 1 iz av ia (q1 rfl) (q1 rfl) rfl (λ_=>by rw [<-KE];exact wR _ _)) rfl rfl<|GX ?_;refine ve 1 iz av rfl rfl rfl rfl<|GX ?_;refine aH (k+1) lg ⟨rfl,by rw [htw];cases tw ids k<;>rfl,trivial⟩ (λw hw=>?_) rfl ⟨by omega,hall⟩ (by show n -(k+1)<n -k;omega);have:=hw.tail;rw [<-Kr hik];exact this
 have hend:k=n:=by
  have h: ¬(k:Int)<(n:Int):=dB hlt;omega
 subst hend;have h0:nz (rs.map (·.r))=0:=by rw [hall,gZ (by omega)];rfl
 rw [h0,an (by omega)];refine GD ?_ ?_<;>intro h3
 ·have h3':tw ids k=true:=h3;refine GX ?_;exact cu (v:= .int _ _) rfl rfl rfl λw' hw=>⟨cg (by rw [aB h3']),hw.1⟩
 have h3':tw ids k=false:=h3;refine GX ?_;exact cu (v:= .int _ _) rfl rfl rfl λw' hw=>⟨cg (by rw [h3'];rfl),hw.1⟩
theorem OR(p a)(x:RX)(w)(hp:qh w p a)(hpl:x.r.pl<=9223372036854775807):Calls Tryz.prog 201 #[.agg (p.cells a).toArray, .agg x.cells.toArray] w λe w'=>e= .returned (.tuple #[.int .i64 (jC p x.r).1, .int .i64 (jC p x.r).2])/\fM w w':=by
 have hl1:=hp.pl.1;have hl2:=hp.dk.1;refine HF Tryz.func201 Tryz.ntmps201 ?_;refine cd (v:= .agg _) rfl rfl λb2=>cd (v:= .agg _) rfl rfl λb3=>?_;refine GD ?_ ?_<;>intro h1
 ·have h1':x.r.wh=2/\0<=x.r.pl/\x.r.pl<p.places.length:=by
   have h:(((decide (x.r.wh=2))&&decide (0<=x.r.pl))&&decide (x.r.pl<(a.pl.n:Int)))=true:=h1;simp at h;omega
  obtain ⟨k,hk⟩: ∃k:Nat,x.r.pl=(k:Int):=⟨x.r.pl.toNat,by omega⟩;have hkn:k<a.pl.n:=by omega
  obtain ⟨b,off,v,hA,hbl,hv,hrv⟩:=hp.pl.at_ hkn;have hpe:jC p x.r=(v,x.r.pl):=by
   unfold jC;rw [aB h1',hk,bC,ar,hv];rfl
  rw [hpe];refine GX ?_;refine vS ?_;refine G0 ?_;refine fI (gB (v:= .slice (some ⟨b,off,none⟩) a.pl.n a.pl.c) jN (q0 rfl) (by rw [<-hA];exact bx 1 rfl rfl)) ?_;iterate 2 refine G0 ?_
  refine fI (cx k aA ae (q0 rfl) (q0 rfl) (λ_=>⟨hk,hkn⟩)) ?_;iterate 10 refine G0 ?_
  exact jr (v:= .int _ _) (x:= .int _ _) rfl rfl rfl rfl λw' hw=>⟨rfl,hw.1⟩
 have h1': ¬(x.r.wh=2/\0<=x.r.pl/\x.r.pl<p.places.length):=by
  have h:(((decide (x.r.wh=2))&&decide (0<=x.r.pl))&&decide (x.r.pl<(a.pl.n:Int)))=false:=h1;simp at h;omega
 refine GX ?_;refine xh (wD (q1 rfl) (q0 rfl) (λhg=>by simp at hg;exact ⟨by omega,by omega,by omega⟩)) rfl rfl ?_;refine GD ?_ ?_<;>intro h2
 ·have h2':x.r.wh=1/\0<=x.r.pl/\x.r.pl/32<p.iX.length:=by
   have h:(((decide (x.r.wh=1))&&decide (0<=x.r.pl))&&decide (x.r.pl/32<(a.d.n:Int)))=true:=h2;simp at h;omega
  obtain ⟨k,hk⟩: ∃k:Nat,x.r.pl/32=(k:Int):=⟨(x.r.pl/32).toNat,by omega⟩;have hkn:k<a.d.n:=by omega
  obtain ⟨b,off,v,hA,hbl,hv,hrv⟩:=hp.dk.at_ hkn;have hpe:jC p x.r=(v,64+x.r.pl/32):=by
   unfold jC;rw [an h1',aB h2',hk,bC,ar,hv];rfl
  rw [hpe];refine GX ?_;refine fI (wD (q0 rfl) (q0 rfl) (λ_=>⟨by omega,by omega,by omega⟩)) ?_;iterate 6 refine G0 ?_
  refine fI (gB (v:= .slice (some ⟨b,off,none⟩) a.d.n a.d.c) jN (q0 rfl) (by rw [<-hA];exact bx 1 rfl rfl)) ?_;refine G0 ?_;refine fI (cx k aA ae (q0 rfl) (q0 rfl) (λ_=>⟨hk,hkn⟩)) ?_;iterate 2 refine G0 ?_
  refine fI (eT (r:=64+x.r.pl/32) (q0 rfl) (q0 rfl) (λ_=>⟨rfl,by omega,by omega⟩)) ?_;iterate 7 refine G0 ?_
  exact jr (v:= .int _ _) (x:= .int _ _) rfl rfl rfl rfl λw' hw=>⟨rfl,hw.1⟩
 have h2': ¬(x.r.wh=1/\0<=x.r.pl/\x.r.pl/32<p.iX.length):=by
  have h:(((decide (x.r.wh=1))&&decide (0<=x.r.pl))&&decide (x.r.pl/32<(a.d.n:Int)))=false:=h2;simp at h;omega
 refine GX ?_;exact jr (v:= .int _ _) (x:= .int _ _) rfl rfl rfl rfl λw' hw=>⟨by unfold jC;rw [an h1',an h2'],hw.1⟩
def CE.cells (i:CE):List Value:=[.int .i64 i.kind, .int .i64 i.ref, .int .i64 i.fU]
abbrev rz (A:Option Addr) (c:Nat) (xs:List CE):E.Item:=dS 144 3 CE.cells A c xs
def jq.cells (b:jq) (A:Option Addr) (c:Nat):List Value:=[.int .i64 b.bn, .int .i64 b.rider, .slice A b.items.length c, .int .i64 b.total]
theorem wG{w0 w L q b A c}(k r a)(hw:Mem w0 (box q 248 (b.cells A c)::rz A c b.items::L) w)(hmk:marks L=[])(hlen:b.items.length<=100)(hb: -9000000000000000000<=b.total+a/\b.total+a<=9000000000000000000):
  Calls Tryz.prog 127 #[.pointer (some ⟨q,0,none⟩), .int .i64 k, .int .i64 r, .int .i64 a] w λe w'=> ∃z:Option Addr×Nat,e= .returned (.tuple #[])/\Mem w0 (box q 248 ((mD b k r a).cells z.1 z.2)::rz z.1 z.2 (mD b k r a).items::L) w':=by
 refine gI hw hmk Tryz.func127 rfl Tryz.ntmps127 rfl ?_;refine GD ?_ ?_<;>intro h1
 ·have h1':a=0:=by simpa using h1
  rw [show mD b k r a=b by unfold mD;rw [aB h1']];refine GX ?_;exact kr rfl hmk λw' hw=>⟨(A,c),rfl,hw⟩
 have h1': ¬a=0:=by simpa using h1
 rw [show mD b k r a={b with items:=b.items++[⟨k,r,a⟩],total:=b.total+a} by unfold mD;rw [an h1']];refine GX ?_;refine fI (bN j8 Jf r6 (pt (v:= .int _ _) rfl (pt (v:= .int _ _) rfl (pt (v:= .int _ _) rfl E.p0))) rfl) ?_;refine gN (k:=3) (i:=Tryz.t144) 1 ((⟨k,r,a⟩:CE)) ml (by kernel_rfl) rfl rfl rfl rfl sk r6 rfl rfl rfl rfl rfl rfl ⟨by omega,by decide⟩ rfl rfl λB0 A1 c1=>?_;refine GX ?_;refine dN (v:= .slice _ _ _) rfl rfl Qy ?_;refine GX ?_;refine dN (v:= .int _ _) rfl rfl ae ?_;refine GX ?_;exact kr rfl hmk λw' hw=>⟨(A1,c1),rfl,hw⟩
end Go.Proofs.Far
namespace Go.Proofs.Far
open Go Go.RowKit Go.Proofs.E Go.Proofs.Cus Go.Proofs.Rid
def Uw (o:Option jq) (z:Nat×Option Addr×Nat):Value:=match o with|some _=> .tuple #[.pointer (some ⟨z.1,0,none⟩), .int .i64 0]|none=> .tuple #[.pointer none, .int .i64 2]
def RC (o:Option jq) (z:Nat×Option Addr×Nat):List E.Item:=match o with|some b=>[box z.1 248 (b.cells z.2.1 z.2.2),rz z.2.1 z.2.2 b.items]|none=>[]
theorem sX{n}(h: ¬1000000000000<n):nq n=(n,0):=by unfold nq;rw [an h]
theorem sY{n}(h:1000000000000<n):nq n=(0,2):=by unfold nq;rw [aB h]
attribute [local irreducible] o6 rj oZ tK nq jC atR qp
theorem Ji(f p a x)(by_:Int)(w)(hp:qh w p a)(hx:tq w x)(he:gS f p=0)(hc:eF x.r=0)(ho:x.r.open_=false)(hpl:x.r.pl<=9223372036854775807)(hby: -1<=by_/\by_<p.lT.length):
  Calls Tryz.prog 120 #[.agg (p.cells a).toArray, .agg x.cells.toArray, .int .i64 by_] w λe w'=> ∃z:Nat×Option Addr×Nat,e= .returned (Uw (tQ p x.r by_) z)/\Mem w (RC (tQ p x.r by_) z) w':=by
 obtain ⟨_,htf,hpe,_,_,_,_,_,_⟩:=nQ he;have hs:=sN.1 (im hc).1;have hat:atR p.jU x.r.start.lo=(((qX p x.r:Nat):Int),0):=by unfold atR;rw [an (by omega),an (by omega)];rfl
 obtain ⟨hvk,hvt⟩:=LI (r:=x.r) htf;have hvi:=pS.1 hvt;have hrs:=Bx hc;have hps:=BN hc;have hrn:=D6 hvt (s:=oZ x.r) hrs.2;have hpn:=IW hvt (s:=tK x.r) hps.2;have hfee:=Kl he x.r;have hbt:=Cv p x.r;have hplt:=Db p x.r;have hpat:=BO p x.r by_;have hvn:qX p x.r<a.t.n:=by
  have:=(ai.1 hvk).1;have:=hp.tf.1;omega
 obtain ⟨tb,toff,t0,htA,htbl,ht0,hrt⟩:=hp.tf.at_ hvn;rw [hvk] at ht0;cases ht0;have hfst:tQ p x.r by_=if 1000000000000<o6 (jt p x.r) (oZ x.r) then none else if 1000000000000<rj (jt p x.r) (tK x.r) then none else if 0<=by_/\1000000000000<qp p x.r by_ then none else if 1000000000000<(sS p x.r by_).total then none else some (sS p x.r by_):=rfl
 refine HF Tryz.func120 Tryz.ntmps120 ?_;refine cd (v:= .agg _) rfl rfl λb3=>cd (v:= .agg _) rfl rfl λb4=>?_;refine GX ?_;refine fI (bN ct Rv pZ (pt (v:= .int _ _) rfl (pt (v:= .int _ _) rfl E.p0)) rfl) ?_;refine fI (bN nK Tv Tryz.zeroValue248 (pt (v:= .agg _) rfl E.p0) rfl) ?_;refine cd (v:= .agg _) rfl rfl λb27=>?_;iterate 4 refine G0 ?_
 refine jb (L':=[box b27 248 ((⟨x.r.id,x.r.rider,[],0⟩:jq).cells none 0),rz none 0 [],box b4 78 x.cells,box b3 28 (p.cells a)]) (λw hw=>(hw.fY 144 3 CE.cells rfl).pick [1,0,2,3] (by decide)) rfl<|GX ?_;refine jx (en Tryz.call197 (jn (q0 rfl) (q0 rfl))) (λ_ w hw=>S0 a.t.A a.t.n a.t.c p.jU x.r.start.lo w (hp.tf.mem hw)) ?_;rw [hat];iterate 14 refine G0 ?_
 refine bD rfl ?_ ?_<;>intro h1
 ·exfalso;simp at h1
 iterate 5 refine G0 ?_
 refine fI (gB (v:= .slice (some ⟨tb,toff,none⟩) a.t.n a.t.c) Tryz.isAgg25 (q0 rfl) (by rw [<-htA];exact bx 3 rfl rfl)) ?_;refine G0 ?_;refine fI (cx (qX p x.r) oJ nv (q0 rfl) (q0 rfl) (λ_=>⟨rfl,hvn⟩)) ?_;refine fI (iV (vs:=(jt p x.r).cells) Tryz.isAgg139 nv (q0 rfl) (EY hrt htbl) rfl) ?_;refine bS oH rfl λb11=>dN (v:= .agg _) rfl rfl nv ?_;refine GX ?_;refine jx (en Tryz.call198 (iQ (q0 rfl))) (λ_ w hw=>Kb x w (hx.mem hw) hc ho) ?_;refine GD ?_ ?_<;>intro h2
 ·exfalso;simp at h2
 refine GX ?_;refine jx (en Tryz.call199 (jn (q0 rfl) (q0 rfl))) (λ_ w hw=>LW (jt p x.r) hvt (oZ x.r) hrs w) ?_;refine GD ?_ ?_<;>intro h3
 ·have h3':1000000000000<o6 (jt p x.r) (oZ x.r):=by
   apply gU;intro hn;have h:(!decide ((nq (o6 (jt p x.r) (oZ x.r))).2=0))=true:=h3;rw [sX hn] at h;simp at h
  rw [hfst,aB h3',sY h3'];refine GX ?_;exact jr (v:= .pointer _) (x:= .int _ _) rfl rfl rfl rfl λw' hw=>⟨(0,none,0),rfl,ik.2 hw.1⟩
 have h3': ¬1000000000000<o6 (jt p x.r) (oZ x.r):=λhn=>by
  have h:(!decide ((nq (o6 (jt p x.r) (oZ x.r))).2=0))=false:=h3;rw [sY hn] at h;simp at h
 rw [an h3'] at hfst;rw [sX h3'];refine GX ?_;refine jx (en Tryz.call200 (jn (q0 rfl) (q0 rfl))) (λ_ w hw=>MA (jt p x.r) hvt (tK x.r) hps w) ?_;refine GD ?_ ?_<;>intro h4
 ·have h4':1000000000000<rj (jt p x.r) (tK x.r):=by
   apply gU;intro hn;have h:(!decide ((nq (rj (jt p x.r) (tK x.r))).2=0))=true:=h4;rw [sX hn] at h;simp at h
  rw [hfst,aB h4',sY h4'];refine GX ?_;exact jr (v:= .pointer _) (x:= .int _ _) rfl rfl rfl rfl λw' hw=>⟨(0,none,0),rfl,ik.2 hw.1⟩
 have h4': ¬1000000000000<rj (jt p x.r) (tK x.r):=λhn=>by
  have h:(!decide ((nq (rj (jt p x.r) (tK x.r))).2=0))=false:=h4;rw [sY hn] at h;simp at h
 rw [an h4'] at hfst;rw [sX h4'];obtain ⟨B1,hB1⟩: ∃B1,B1=mD ⟨x.r.id,x.r.rider,[],0⟩ 1 (qX p x.r) (jt p x.r).unlock:=⟨_,rfl⟩;obtain ⟨B2,hB2⟩: ∃B2,B2=mD B1 2 (qX p x.r) (o6 (jt p x.r) (oZ x.r)):=⟨_,rfl⟩;obtain ⟨B3,hB3⟩: ∃B3,B3=tm p x.r:=⟨_,rfl⟩;obtain ⟨B4,hB4⟩: ∃B4,B4=wO p x.r:=⟨_,rfl⟩;have hB3e:B3=mD B2 3 (qX p x.r) (rj (jt p x.r) (tK x.r)):=by rw [hB3,hB2,hB1];rfl
 have hB4e:B4=mD B3 4 (jC p x.r).2 (max (jC p x.r).1 (-B3.total)):=by rw [hB4,hB3];rfl
 have t1:B1.total=(jt p x.r).unlock:=by rw [hB1,mC];simp
 have t2:B2.total=(jt p x.r).unlock+o6 (jt p x.r) (oZ x.r):=by rw [hB2,mC,t1]
 have l1:B1.items.length<=1:=by rw [hB1];exact kQ _ _ _ _
 have l2:B2.items.length<=2:=by have:=kQ B1 2 (qX p x.r) (o6 (jt p x.r) (oZ x.r));rw [hB2];omega
 have l3:B3.items.length<=3:=by have:=kQ B2 3 (qX p x.r) (rj (jt p x.r) (tK x.r));rw [hB3e];omega
 have l4:B4.items.length<=4:=by have:=kQ B3 4 (jC p x.r).2 (max (jC p x.r).1 (-B3.total));rw [hB4e];omega
 rw [<-hB3] at hbt hplt;rw [<-hB4] at hplt hpat;refine GX ?_;refine cQ (dD (en sw (Gf (q0 rfl) (q0 rfl) (q0 rfl) (q0 rfl))) (λw hw=>wG 1 (qX p x.r) (jt p x.r).unlock (hw.pick [1,2,0,3,4] (by decide)) rfl (by simp) (by simp;omega)) rfl (λ_=>rfl) λz1=>?_);rw [<-hB1];refine GX ?_;refine cQ (dD (en sw (Gf (q0 rfl) (q0 rfl) (q0 rfl) (q0 rfl))) (λw hw=>wG 2 (qX p x.r) (o6 (jt p x.r) (oZ x.r)) hw rfl (by omega) (by omega)) rfl (λ_=>rfl) λz2=>?_);rw [<-hB2];refine GX ?_;refine cQ (dD (en sw (Gf (q0 rfl) (q0 rfl) (q0 rfl) (q0 rfl))) (λw hw=>wG 3 (qX p x.r) (rj (jt p x.r) (tK x.r)) hw rfl (by omega) (by omega)) rfl (λ_=>rfl) λz3=>?_);rw [<-hB3e];refine GX ?_;refine jx (en Tryz.call201 (jn (q0 rfl) (q0 rfl))) (λ_ w hw=>OR p a x w (hp.mem hw) hpl)<|GX ?_;refine fI (Qn (r:= -B3.total) (q0 rfl) (λ_=>⟨rfl,by omega,by omega⟩))<|fI (uX (q0 rfl) (q0 rfl))<|cQ (dD (en sw (Gf (q0 rfl) (q0 rfl) (q0 rfl) (q0 rfl))) (λw hw=>wG 4 (jC p x.r).2 (max (jC p x.r).1 (-B3.total)) hw rfl (by omega) (by omega)) rfl (λ_=>rfl) λz4=>?_);rw [<-hB4e];refine GD ?_ ?_<;>intro h5
 ·have h5':0<=by_:=cC h5;obtain ⟨k,hk⟩: ∃k:Nat,by_=(k:Int):=⟨by_.toNat,by omega⟩;subst hk;have hkl:k<a.p.n:=by have:=hp.ps.1;omega
  obtain ⟨pb,poff,q,hpA,hpbl,hq,hrq⟩:=hp.ps.at_ hkl;have hqd:p.lT.getD ((k:Int)).toNat default=q:=by rw [bC,ar,hq];rfl
  have hqs:0<=q.gG/\q.gG<=86400:=by
   have h7:k8 p.lT=0:=hpe;unfold k8 at h7;split at h7
   ·cases h7
   split at h7
   ·cases h7
   rename_i h8;have h9:p.lT.any o7=false:=by simpa using h8
   rw [p5] at h9;have h10:=h9 q (aq hq);unfold o7 AK at h10;simp only [pR,not_or,vR,jZ,Bool.not_eq_false,pw] at h10;exact h10.1.2
  have hpart:qp p x.r (k:Int)=o6 (jt p x.r) (min (oZ x.r) q.gG):=by unfold qp;rw [hqd]
  have hmin:0<=min (oZ x.r) q.gG/\min (oZ x.r) q.gG<=4294944000:=by omega
  have hpnn:=D6 hvt (s:=min (oZ x.r) q.gG) hmin.2;rw [<-hpart] at hpnn;refine GX ?_;refine vS ?_;iterate 3 refine G0 ?_
  refine fI (gB (v:= .slice (some ⟨pb,poff,none⟩) a.p.n a.p.c) St (q0 rfl) (by rw [<-hpA];exact bx 4 rfl rfl)) ?_;refine G0 ?_;refine fI (cx k oI pK (q0 rfl) (q0 rfl) (λ_=>⟨rfl,hkl⟩)) ?_;refine G0 ?_;refine fI (gB (v:= .int .i64 q.gG) aj (q0 rfl) (by exact rc (j:=5) hrq hpbl rfl)) ?_;refine fI (EH (q0 rfl) (q0 rfl)) ?_;refine jx (en Tryz.call199 (jn (q0 rfl) (q0 rfl))) (λ_ w _=>LW (jt p x.r) hvt (min (oZ x.r) q.gG) hmin w) ?_;rw [<-hpart];refine GD ?_ ?_<;>intro h7
  ·have h7':1000000000000<qp p x.r (k:Int):=by
    apply gU;intro hn;have h:(!decide ((nq (qp p x.r (k:Int))).2=0))=true:=h7;rw [sX hn] at h;simp at h
   rw [aB ⟨h5',h7'⟩] at hfst;rw [hfst,sY h7'];refine GX ?_;exact jr (v:= .pointer _) (x:= .int _ _) rfl rfl rfl rfl λw' hw=>⟨(0,none,0),rfl,ik.2 hw.1⟩
  have h7': ¬1000000000000<qp p x.r (k:Int):=λhn=>by
   have h:(!decide ((nq (qp p x.r (k:Int))).2=0))=false:=h7;rw [sY hn] at h;simp at h
  rw [an (λh=>h7' h.2)] at hfst;rw [sX h7'];obtain ⟨B5,hB5⟩: ∃B5,B5=sS p x.r (k:Int):=⟨_,rfl⟩;have hB5e:B5=mD B4 5 (k:Int) (-(min B4.total ((jt p x.r).unlock+qp p x.r (k:Int)))):=by rw [hB5];unfold sS;rw [aB h5',<-hB4]
  rw [<-hB5] at hfst hpat;rw [aB h5'] at hpat;refine GX ?_;refine JQ 2 ?_;refine aW 0 ?_;refine aW 1 ?_;refine aW 2 ?_;refine aW 3 ?_;refine aW 4 ?_;refine aW 5 ?_;refine aW 7 ?_;refine aW 8 ?_;refine aW 9 ?_;refine mG 10 rfl (eT (r:=(jt p x.r).unlock+qp p x.r (k:Int)) (q0 rfl) (q0 rfl) (λ_=>⟨rfl,by omega,by omega⟩))<|r1 6 2 ?_;refine aL rfl (kA (gB (v:= .int .i64 B4.total) aj (q0 rfl) (bx 0 rfl rfl)) rfl rfl ?_);refine mG 11 rfl (EH (q0 rfl) (q0 rfl))<|mG 12 rfl (Qn (r:= -(min B4.total ((jt p x.r).unlock+qp p x.r (k:Int)))) (q0 rfl) (λ_=>⟨rfl,by omega,by omega⟩))<|r1 13 2 ?_;refine aL rfl (dD (en sw (Gf (q0 rfl) (q0 rfl) (q0 rfl) (q0 rfl))) (λw hw=>wG 5 (k:Int) (-(min B4.total ((jt p x.r).unlock+qp p x.r (k:Int)))) hw rfl (by omega) (by omega)) rfl (λ_=>rfl) λz5=>?_);refine qE 2 ?_;refine GD ?_ ?_<;>intro h8
  ·have h8':1000000000000<B5.total:=by rw [hB5e];exact cC h8
   rw [hfst,aB h8'];refine GX ?_;exact jr (v:= .pointer _) (x:= .int _ _) rfl rfl rfl rfl λw' hw=>⟨(0,none,0),rfl,ik.2 hw.1⟩
  have h8': ¬1000000000000<B5.total:=by rw [hB5e];exact dB h8
  rw [hfst,an h8'];refine GX ?_;exact jr (v:= .pointer _) (x:= .int _ _) rfl rfl rfl rfl λw' hw=>⟨(b27,z5.1,z5.2),rfl,by rw [hB5e];exact hw.pick [0,1] (by decide)⟩
 have h5': ¬0<=by_:=dB h5;have hpB:sS p x.r by_=B4:=by unfold sS;rw [an h5',hB4]
 rw [an (λh=>h5' h.1),hpB] at hfst;refine GD ?_ ?_<;>intro h6
 ·have h6':1000000000000<B4.total:=cC h6;rw [hfst,aB h6'];refine GX ?_;exact jr (v:= .pointer _) (x:= .int _ _) rfl rfl rfl rfl λw' hw=>⟨(0,none,0),rfl,ik.2 hw.1⟩
 have h6': ¬1000000000000<B4.total:=dB h6;rw [hfst,an h6'];refine GX ?_;exact jr (v:= .pointer _) (x:= .int _ _) rfl rfl rfl rfl λw' hw=>⟨(b27,z4.1,z4.2),rfl,hw.pick [0,1] (by decide)⟩
end Go.Proofs.Far
namespace Go.Proofs.Far
open Go.Proofs.Cus Go.Proofs.Rid
theorem uG: ∀(l seen:List Int),jk seen l=false->l.Nodup/\ ∀x∈l,x∉seen
 |[],_,_=>⟨List.nodup_nil,λx hx=>by cases hx⟩
 |y::l,seen,h=>by
  unfold jk at h;rw [Hd] at h;obtain ⟨h1,h2⟩:=uG l _ h.2;have hy:y∉seen:=λhm=>by
   grind
  refine ⟨SE.2 ⟨λhm=>h2 y hm (by simp),h1⟩,λx hx=>?_⟩;rcases cn.1 hx with rfl|hx
  ·grind
  exact λhm=>h2 x hx (by simp [hm])
theorem zQ: ∀(l seen:List Int),l.Nodup->(∀x∈l,x∉seen)->jk seen l=false
 |[],_,_,_=>rfl
 |y::l,seen,h,hs=>by
  unfold jk;obtain ⟨h1,h2⟩:=SE.1 h;rw [Hd];refine ⟨?_,zQ l _ h2 λx hx hm=>?_⟩
  ·grind
  rcases bO.1 hm with hm|hm
  ·grind
  simp at hm;subst hm;exact h1 hx
def oB (rs:List Rd):List Rd:=(rs.filter λr=>!r.open_).mergeSort λa b=>!ig b a
theorem D3(a b):(!ig b a||!ig a b)=true:=by
 grind [ig]
theorem D2(a b c)(h1:(!ig b a)=true)(h2:(!ig c b)=true):(!ig c a)=true:=by
 grind [ig]
theorem Ki{a b}(h:ig b a=false)(hne:a.id≠b.id):ig a b=true:=by
 grind [ig]
theorem qI(rs):(oB rs).Perm (rs.filter λr=>!r.open_):=lE _ _
theorem sM {l:List Rd} (hs:l.Pairwise λa b=>ig b a=false) (hn:(l.map (·.id)).Nodup):l.Pairwise λa b=>ig a b=true:=by
 have h2:l.Pairwise λa b=>a.id≠b.id:=iD.1 hn
 exact (hs.and h2).imp λh=>Ki h.1 h.2
theorem Cf{rs}(h:Good rs):((rs.filter λr=>!r.open_).map (·.id)).Nodup:=(uG _ _ h.ids).1.sublist (List.filter_sublist.map _)
theorem Ag{rs}(h:Good rs):(oB rs).Pairwise λa b=>ig a b=true:=by
 refine sM ?_ (((qI rs).map _).nodup_iff.2 (Cf h));have:=kT (le:=λa b:Rd=>!ig b a) (λa b c h1 h2=>D2 a b c h1 h2) (λa b=>D3 a b) (rs.filter λr=>!r.open_);exact this.imp λh=>by simpa using h
theorem GK{rs l}(h:Good rs)(hp:l.Perm (rs.filter λr=>!r.open_))(hs:l.Pairwise λa b=>ig b a=false):l=oB rs:=by
 have h1:=sM hs ((hp.map _).nodup_iff.2 (Cf h));refine UR (le:=λa b=>ig a b=true) (λa b _ _ h2 h3=>?_) h1 (Ag h) (hp.trans (qI rs).symm)
 grind [one,ig,oB]
theorem Du{rs}(h:Good rs):Good (oB rs):=by
 have hm: ∀r∈oB rs,r∈rs:=λr hr=>(gO.1 ((qI rs).mem_iff.1 hr)).1;refine ⟨λr hr=>h.ok r (hm r hr),zQ _ _ (((qI rs).map _).nodup_iff.2 (Cf h)) (λx _=>by simp),?_⟩;rw [(qI rs).length_eq];exact gL (dK _ _) h.TC
def wU (p:Pr) (o:Option (List jq)) (x:Rd×Int):Option (List jq):=match o with|none=>none|some bs=>match tQ p x.1 x.2 with|none=>none|some b=>some (bs++[b])
def zY (p:Pr) (l:List (Rd×Int)):Option (List jq):=l.foldl (wU p) (some [])
def FS (p:Pr) (l:List (Rd×Int)) (k:Nat):Option (List jq):=(l.take k).foldl (wU p) (some [])
theorem Ja(p): ∀l:List (Rd×Int),l.foldl (wU p) none=none
 |[]=>rfl
 |x::l=>by rw [eh];exact Ja p l
theorem JH{p l k x}(h:l[k]?=some x):FS p l (k+1)=wU p (FS p l k) x:=by
 unfold FS
 rw [iC,h,fX];rfl
theorem P4{p l k}(h:FS p l k=none):zY p l=none:=by
 unfold zY
 rw [<-gg k l,fX]
 unfold FS at h
 rw [h]
 exact Ja p _
theorem NZ{p l k}(h:l.length<=k):FS p l k=zY p l:=by
 unfold FS zY
 rw [bo h]
def rS (vs:List Pen.V) (bn:Int):Int:=match (List.range vs.length).find? λk=>(vs.getD k Pen.V.zero).bn==bn with|some k=>(k:Int)|none=> -1
def uV (p:Pr) (vs:List Pen.V) (b:jq) (d:Int):jq:=
 if rS vs b.bn<0 then mD b 6 0 d else mD (mD b 6 0 d) 7 (Pen.CO p.fines p.days vs (rS vs b.bn)).1 (Pen.s7 p.fines p.days vs (rS vs b.bn)).1
def uU (p:Pr) (vs:List Pen.V) (o:Option (List jq)) (x:jq×Int):Option (List jq):=match o with|none=>none|some bs=>if 1000000000000<(uV p vs x.1 (x.2 -x.1.total)).total then none else some (bs++[uV p vs x.1 (x.2 -x.1.total)])
def wz (p:Pr) (vs:List Pen.V) (l:List (jq×Int)):Option (List jq):=l.foldl (uU p vs) (some [])
def FN (p:Pr) (vs:List Pen.V) (l:List (jq×Int)) (k:Nat):Option (List jq):=(l.take k).foldl (uU p vs) (some [])
theorem Jd(p vs): ∀l:List (jq×Int),l.foldl (uU p vs) none=none
 |[]=>rfl
 |x::l=>by rw [eh];exact Jd p vs l
theorem EW{p vs l k x}(h:l[k]?=some x):FN p vs l (k+1)=uU p vs (FN p vs l k) x:=by
 unfold FN
 rw [iC,h,fX];rfl
theorem P5{p vs l k}(h:FN p vs l k=none):wz p vs l=none:=by
 unfold wz
 rw [<-gg k l,fX]
 grind [FN,wz,Jd]
theorem N0{p vs l k}(h:l.length<=k):FN p vs l k=wz p vs l:=by
 unfold FN wz
 rw [bo h]
def ur (x:Rd×jq):Dy:=⟨x.1.rider,x.1.start.lo/86400,x.2.total⟩
def wg (p:Pr) (l:List Rd):List Int:=(Bh p.lT (l.map pU)).1
def qa (p:Pr) (l:List Rd) (bs:List jq):List Int:=(CR p.cap ((l.zip bs).map ur)).map (·.2)
def tW (l:List jq):List jq:=l.mergeSort λa b=>decide (a.bn<=b.bn)
def zl (p:Pr) (rs:List Rd) (vs:List Pen.V):Option (List jq):=
 match zY p ((oB rs).zip (wg p (oB rs))) with
 |none=>none
 |some bs=>match wz p vs (bs.zip (qa p (oB rs) bs)) with
  |none=>none
  |some cs=>some (tW cs)
def jw (f:Fl) (p:Pr) (rs:List Rd) (vs:List Pen.V):Int:=
 if gS f p≠0 then gS f p else if ot rs≠0 then ot rs else if Pen.r9 vs≠0 then Pen.r9 vs else if zl p rs vs=none then 2 else 0
def sg (f:Fl) (p:Pr) (rs:List Rd) (vs:List Pen.V):List jq:=if gS f p≠0\/ot rs≠0\/Pen.r9 vs≠0 then [] else (zl p rs vs).getD []
theorem Gj{f p r u b}(he:gS f p=0)(hc:eF r=0)(h:tQ p r u=some b):0<=b.total/\b.total<=1000000000000/\b.items.length<=5/\b.bn=r.id/\b.rider=r.rider:=by
 obtain ⟨_,htf,_⟩:=nQ he;obtain ⟨hvk,hvt⟩:=LI (r:=r) htf;have hvi:=pS.1 hvt;have hrs:=Bx hc;have hps:=BN hc;have hrn:=D6 hvt (s:=oZ r) hrs.2;have hpn:=IW hvt (s:=tK r) hps.2;have hbt:=Cv p r;have hplt:=Db p r;have hpat:=BO p r u;unfold tQ at h;split at h
 ·cases h
 split at h
 ·cases h
 split at h
 ·cases h
 split at h
 ·cases h
 rename_i h4;cases h;refine ⟨?_,by omega,?_,?_,?_⟩
 ·rw [hpat];split
  ·omega
  omega
 ·have l1:(tm p r).items.length<=3:=by
   unfold tm;have a1:=kQ ⟨r.id,r.rider,[],0⟩ 1 (qX p r) (jt p r).unlock;have a2:=kQ (mD ⟨r.id,r.rider,[],0⟩ 1 (qX p r) (jt p r).unlock) 2 (qX p r) (o6 (jt p r) (oZ r));have a3:=kQ (mD (mD ⟨r.id,r.rider,[],0⟩ 1 (qX p r) (jt p r).unlock) 2 (qX p r) (o6 (jt p r) (oZ r))) 3 (qX p r) (rj (jt p r) (tK r));simp only [dO] at a1;omega
  have l2:(wO p r).items.length<=4:=by
   have:=kQ (tm p r) 4 (jC p r).2 (max (jC p r).1 (-(tm p r).total));unfold wO;omega
  unfold sS;split
  ·have:=kQ (wO p r) 5 u (-(min (wO p r).total ((jt p r).unlock+qp p r u)));omega
  omega
 ·unfold sS wO tm;split<;>simp only [vK]
 unfold sS wO tm;split<;>simp only [vK]
theorem Gk{fines days vs i}(h:Pen.rk fines days=0):0<=(Pen.s7 fines days vs i).1/\(Pen.s7 fines days vs i).1<=1000000:=by
 unfold Pen.s7
 split
 ·simp
 split
 ·simp
 simp only
 unfold Pen.Gl
 split
 ·simp
 have hb:fines.any Pen.mM=false:=by
  unfold Pen.rk at h
  grind
 rw [p5] at hb
 rw [ar]
 cases hk:fines[min (Pen.num days vs (vs.getD i.toNat Pen.V.zero)).toNat fines.length -1]? with
 |none=>simp
 |some x=>
  have:=hb x (aq hk)
  unfold Pen.mM at this
  simp at this
  simp only [ix]
  omega
open Go Go.RowKit Go.Proofs.E Go.Proofs.Cus Go.Proofs.Rid
theorem R2(x y:RX)(w):Calls Tryz.prog 118 #[.agg x.cells.toArray, .agg y.cells.toArray] w λe w'=>e= .returned (.int .i64 (vr x.r y.r))/\fM w w':=by
 refine HF Tryz.func118 Tryz.ntmps118 ?_;refine cd (v:= .agg _) rfl rfl λb2=>cd (v:= .agg _) rfl rfl λb3=>?_;refine GX ?_;refine JR<|aW 0 ?_;refine aW 1 ?_;refine aW 2 ?_;refine aW 3 ?_;refine aW 4 ?_;refine aW 5 ?_;refine aW 7 ?_;refine aW 8 ?_;refine aW 9 ?_;refine aW 10 ?_;refine aW 11 ?_;refine aW 12 ?_;refine aW 14 ?_;refine aW 15 ?_;refine aW 16 ?_;refine aW 17 ?_;refine aC 6 (by decide+kernel) rfl (en iT (jn (q0 rfl) (q0 rfl))) (λ_ w _=>iK x.r.start.lo y.r.start.lo w) rfl<|aC 13 (by decide+kernel) rfl (en iT (jn (q0 rfl) (q0 rfl))) (λ_ w _=>iK x.r.end_.lo y.r.end_.lo w) rfl<|aC 18 (by decide+kernel) rfl (en iT (jn (q0 rfl) (q0 rfl))) (λ_ w _=>iK x.r.id y.r.id w) rfl<|r1 19 0 ?_;refine aL rfl (ey [(.int .i64 0),(.int .i64 0),(.int .i64 0)] aA ae bw rfl (by kernel_rfl) (pt (v:= .int _ _) rfl (pt (v:= .int _ _) rfl (pt (v:= .int _ _) rfl E.p0))) rfl rfl λb24=>?_);refine w7 (au 1)<|aC 20 (by decide+kernel) rfl (en Iw (iQ (q0 rfl))) (λ_ w hm=>MF _ 3 3 [jv x.r.start.lo y.r.start.lo,jv x.r.end_.lo y.r.end_.lo,jv x.r.id y.r.id] w (fj (enc:=eQ) hm (j:=0) rfl (λ_=>rfl) (by simp))) rfl<|aW 21 ?_;refine qE 0 ?_;exact GW
def Hq:Go.Shelf.Ren:=⟨fun|6=>117|15=>180|14=>194|28=>245|29=>246|20=>262|21=>267|22=>268|23=>269|24=>270|25=>271|26=>272|27=>273|46=>318|47=>311|48=>312|49=>319|50=>320|57=>350|n=>n,fun|22=>45|24=>78|25=>240|3=>3|39=>313|0=>0|53=>364|55=>38|4=>4|46=>358|45=>357|50=>299|5=>5|9=>9|66=>416|70=>420|76=>441|77=>201|n=>n,fun|n=>n⟩
theorem QY:Go.Proofs.SlLaysF0.n6 Tryz.prog Hq:={
 mixed:=by kernel_rfl,
 f6:=⟨Tryz.f117.name,by decide,Tryz.func117.trans (aP some (by kernel_rfl))⟩,
 f14:=⟨Tryz.f194.name,by decide,Tryz.func194.trans (aP some (by kernel_rfl))⟩,
 f15:=Tryz.func180.trans (aP some (by kernel_rfl)),
 f20:=⟨Tryz.f262.name,by decide,Tryz.func262.trans (aP some (by kernel_rfl))⟩,
 f21:=⟨Tryz.f267.name,by decide,Tryz.func267.trans (aP some (by kernel_rfl))⟩,
 f22:=⟨Tryz.f268.name,by decide,Tryz.func268.trans (aP some (by kernel_rfl))⟩,
 f23:=⟨Tryz.f269.name,by decide,Tryz.func269.trans (aP some (by kernel_rfl))⟩,
 f24:=⟨Tryz.f270.name,by decide,Tryz.func270.trans (aP some (by kernel_rfl))⟩,
 f25:=⟨Tryz.f271.name,by decide,Tryz.func271.trans (aP some (by kernel_rfl))⟩,
 f26:=⟨Tryz.f272.name,by decide,Tryz.func272.trans (aP some (by kernel_rfl))⟩,
 f27:=⟨Tryz.f273.name,by decide,Tryz.func273.trans (aP some (by kernel_rfl))⟩,
 f28:=Tryz.func245.trans (aP some (by kernel_rfl)),
 f29:=Tryz.func246.trans (aP some (by kernel_rfl)),
 f46:=⟨Tryz.f318.name,by decide,Tryz.func318.trans (aP some (by kernel_rfl))⟩,
 f47:=Tryz.func311.trans (aP some (by kernel_rfl)),
 f48:=Tryz.func312.trans (aP some (by kernel_rfl)),
 f49:=⟨Tryz.f319.name,by decide,Tryz.func319.trans (aP some (by kernel_rfl))⟩,
 f50:=⟨Tryz.f320.name,by decide,Tryz.func320.trans (aP some (by kernel_rfl))⟩,
 f57:=⟨Tryz.f350.name,by decide,Tryz.func350.trans (aP some (by kernel_rfl))⟩,
 t0:=mY,
 a0:=uz,
 z0:=sr,
 v0:=ob,
 t3:=av,
 a3:=aj,
 z3:=ae,
 v3:=bw,
 t4:=iM,
 a4:=lP,
 z4:=gD,
 v4:=ia,
 t5:=iL,
 a5:=uy,
 z5:=sq,
 v5:=oa,
 t9:=mX,
 a9:=ux,
 z9:=so,
 v9:=n9,
 t22:=aT,
 a22:=ib,
 z22:=di,
 v22:=Tryz.zeroValue45,
 t25:=Tryz.underlying240,
 a25:=Tryz.isAgg240,
 z25:=Tryz.sizeOf240,
 v25:=Tryz.zeroValue240,
 t39:=lx,
 a39:=qU,
 z39:=pI,
 v39:=mf,
 t45:=lu,
 a45:=qT,
 z45:=pH,
 v45:=me,
 t46:=lq,
 a46:=qS,
 z46:=pG,
 v46:=ma,
 t50:=lz,
 a50:=qV,
 z50:=pJ,
 v50:=mg,
 t53:=lp,
 a53:=qR,
 z53:=pF,
 v53:=l',
 t55:=jB,
 a55:=sv,
 z55:=qN,
 v55:=mW,
 t66:=lk,
 a66:=qQ,
 z66:=pE,
 v66:=l9,
 t70:=lj,
 a70:=qP,
 z70:=pD,
 v70:=l8,
 t76:=lh,
 a76:=qO,
 z76:=pC,
 v76:=l7,
 t77:=lB,
 a77:=qW,
 z77:=pL,
 v77:=mi}
structure FX where
 b:jq
 A:Option Addr
 c:Nat
deriving Inhabited
def FX.cells (x:FX):List Value:=x.b.cells x.A x.c
abbrev kE (A:Option Addr) (c:Nat) (xs:List FX):E.Item:=dS 81 4 FX.cells A c xs
def jD (x:FX):List E.Item:=[rz x.A x.c x.b.items]
theorem RZ(x y:FX)(w):Calls Tryz.prog 129 #[.agg x.cells.toArray, .agg y.cells.toArray] w λe w'=>e= .returned (.int .i64 (jv x.b.bn y.b.bn))/\fM w w':=by
 refine HF Tryz.func129 Tryz.ntmps129 ?_;refine cd (v:= .agg _) rfl rfl λb2=>cd (v:= .agg _) rfl rfl λb3=>?_;refine GX ?_;refine jx (en iT (jn (q0 rfl) (q0 rfl))) (λ_ w _=>iK x.b.bn y.b.bn w) ?_;exact GW
def Ht:Go.Shelf.Ren:=⟨fun|6=>128|15=>180|14=>207|28=>245|29=>246|20=>289|21=>290|22=>291|23=>292|24=>293|25=>294|26=>295|27=>296|46=>331|47=>311|48=>312|49=>332|50=>333|57=>366|n=>n,fun|22=>47|24=>81|25=>256|3=>3|39=>313|0=>0|53=>364|55=>38|4=>4|46=>358|45=>357|50=>299|5=>5|9=>9|66=>416|70=>420|76=>441|77=>201|n=>n,fun|n=>n⟩
theorem Q1:Go.Proofs.SlLaysF0.n6 Tryz.prog Ht:={
 mixed:=by kernel_rfl,
 f6:=⟨Tryz.f128.name,by decide,Tryz.func128.trans (aP some (by kernel_rfl))⟩,
 f14:=⟨Tryz.f207.name,by decide,Tryz.func207.trans (aP some (by kernel_rfl))⟩,
 f15:=Tryz.func180.trans (aP some (by kernel_rfl)),
 f20:=⟨Tryz.f289.name,by decide,Tryz.func289.trans (aP some (by kernel_rfl))⟩,
 f21:=⟨Tryz.f290.name,by decide,Tryz.func290.trans (aP some (by kernel_rfl))⟩,
 f22:=⟨Tryz.f291.name,by decide,Tryz.func291.trans (aP some (by kernel_rfl))⟩,
 f23:=⟨Tryz.f292.name,by decide,Tryz.func292.trans (aP some (by kernel_rfl))⟩,
 f24:=⟨Tryz.f293.name,by decide,Tryz.func293.trans (aP some (by kernel_rfl))⟩,
 f25:=⟨Tryz.f294.name,by decide,Tryz.func294.trans (aP some (by kernel_rfl))⟩,
 f26:=⟨Tryz.f295.name,by decide,Tryz.func295.trans (aP some (by kernel_rfl))⟩,
 f27:=⟨Tryz.f296.name,by decide,Tryz.func296.trans (aP some (by kernel_rfl))⟩,
 f28:=Tryz.func245.trans (aP some (by kernel_rfl)),
 f29:=Tryz.func246.trans (aP some (by kernel_rfl)),
 f46:=⟨Tryz.f331.name,by decide,Tryz.func331.trans (aP some (by kernel_rfl))⟩,
 f47:=Tryz.func311.trans (aP some (by kernel_rfl)),
 f48:=Tryz.func312.trans (aP some (by kernel_rfl)),
 f49:=⟨Tryz.f332.name,by decide,Tryz.func332.trans (aP some (by kernel_rfl))⟩,
 f50:=⟨Tryz.f333.name,by decide,Tryz.func333.trans (aP some (by kernel_rfl))⟩,
 f57:=⟨Tryz.f366.name,by decide,Tryz.func366.trans (aP some (by kernel_rfl))⟩,
 t0:=mY,
 a0:=uz,
 z0:=sr,
 v0:=ob,
 t3:=av,
 a3:=aj,
 z3:=ae,
 v3:=bw,
 t4:=iM,
 a4:=lP,
 z4:=gD,
 v4:=ia,
 t5:=iL,
 a5:=uy,
 z5:=sq,
 v5:=oa,
 t9:=mX,
 a9:=ux,
 z9:=so,
 v9:=n9,
 t22:=cj,
 a22:=jL,
 z22:=eM,
 v22:=Tryz.zeroValue47,
 t25:=Tryz.underlying256,
 a25:=Tryz.isAgg256,
 z25:=Tryz.sizeOf256,
 v25:=Tryz.zeroValue256,
 t39:=lx,
 a39:=qU,
 z39:=pI,
 v39:=mf,
 t45:=lu,
 a45:=qT,
 z45:=pH,
 v45:=me,
 t46:=lq,
 a46:=qS,
 z46:=pG,
 v46:=ma,
 t50:=lz,
 a50:=qV,
 z50:=pJ,
 v50:=mg,
 t53:=lp,
 a53:=qR,
 z53:=pF,
 v53:=l',
 t55:=jB,
 a55:=sv,
 z55:=qN,
 v55:=mW,
 t66:=lk,
 a66:=qQ,
 z66:=pE,
 v66:=l9,
 t70:=lj,
 a70:=qP,
 z70:=pD,
 v70:=l8,
 t76:=lh,
 a76:=qO,
 z76:=pC,
 v76:=l7,
 t77:=lB,
 a77:=qW,
 z77:=pL,
 v77:=mi}
section
open Go.Shelf Go.Lib Go.Sort
theorem OJ{w0 w L}(hw:Mem w0 L w){j c n A xs}(hl:xs.length=n)(hkj:L[j]?=some (eI A c xs))(hn:n<=1000000):
  Calls Tryz.prog 117 #[.slice A n c, .func (.func 118) #[] #[]] w λr w'=> ∃ys:{ys:List RX//ys.Perm xs/\ys.Pairwise λx y=>ig y.r x.r=false},r= .returned (.tuple #[])/\Mem w0 (L.set j (eI A c ys.1)) w':=by
 subst hl;refine (DZ QY 13 fT ba RX.cells (λ_=>rfl) (λx v hv=>by simp [RX.cells,Rd.AX] at hv;rcases hv with rfl|rfl|rfl|rfl|rfl|rfl|rfl|rfl|rfl|rfl|rfl|rfl|rfl<;>rfl) (λx y:RX=>vr x.r y.r) 118 (Bo (·.r) _ (λx y=>by unfold ltOf;exact tI _ _)) Tryz.call118 R2 hw hkj hn).mono ?_;rintro r w' ⟨⟨ys,h1,h2⟩,he,hm⟩;exact ⟨⟨ys,h1,h2.imp λ{a b} hab=>by unfold ltOf at hab;rw [tI] at hab;exact hab⟩,he,hm⟩
theorem Pe{w0 w L}(hw:Mem w0 L w){j c n A xs}(hl:xs.length=n)(hkj:L[j]?=some (kE A c xs))(hn:n<=1000000):
  Calls Tryz.prog 128 #[.slice A n c, .func (.func 129) #[] #[]] w λr w'=> ∃ys:{ys:List FX//ys.Perm xs/\ys.Pairwise λx y=>x.b.bn<=y.b.bn},r= .returned (.tuple #[])/\Mem w0 (L.set j (kE A c ys.1)) w':=by
 subst hl;refine (DZ Q1 4 su dx FX.cells (λ_=>rfl) (λx v hv=>by simp [FX.cells,jq.cells] at hv;rcases hv with rfl|rfl|rfl|rfl<;>rfl) (λx y:FX=>jv x.b.bn y.b.bn) 129 (L6 (·.b.bn) _ (λx y=>by unfold ltOf;exact vF _ _)) Tryz.call129 RZ hw hkj hn).mono ?_;rintro r w' ⟨⟨ys,h1,h2⟩,he,hm⟩;exact ⟨⟨ys,h1,h2.imp λ{a b} hab=>by unfold ltOf at hab;rw [vF] at hab;simpa using hab⟩,he,hm⟩
end
theorem M0(v:Pen.V)(b3 q)(b:jq)(A c w)(hb3:jS w b3 0 [.pointer (some ⟨q,0,none⟩)])(hl3:b3<w.heap.size)(hq:jS w q 0 (b.cells A c))(hlq:q<w.heap.size):Calls Tryz.prog 124 #[.agg v.cells.toArray, .pointer (some ⟨b3,0,none⟩)] w λe w'=>e= .returned (.bool (decide (v.bn=b.bn)))/\fM w w':=by
 refine HF Tryz.func124 Tryz.ntmps124 ?_;refine cd (v:= .agg _) rfl rfl λb2=>GX ?_;refine vS ?_;exact GW
theorem LF(A n c vs b3 q)(b:jq)(B d w)(hx:Pen.zw w A n vs)(hb3:jS w b3 0 [.pointer (some ⟨q,0,none⟩)])(hl3:b3<w.heap.size)(hq:jS w q 0 (b.cells B d))(hlq:q<w.heap.size):Calls Tryz.prog 123 #[.slice A n c, .func (.func 124) #[] #[.pointer (some ⟨b3,0,none⟩)]] w λe w'=>e= .returned (.int .i64 (rS vs b.bn))/\fM w w':=by
 have hl:=hx.1;have hn:=hx.2.1;refine HF Tryz.func123 Tryz.ntmps123 ?_;refine la ([4,5]++rg 8 11) (λk:Nat=>[(8, .int .i64 k)]) (λ_=>[]) (λk=>k<=n/\(List.range k).find? (λk=>(vs.getD k Pen.V.zero).bn==b.bn)=none) (λk=>n -k) 0 ⟨bj _,rfl⟩ ?_;rintro k g ⟨hk,hall⟩;refine GD ?_ ?_<;>intro hlt
 ·have hlt':k<n:=by simpa using hlt
  obtain ⟨pb,off,v,rfl,hpbl,hpk,hrp⟩:=hx.at_ hlt';have hpd:vs.getD k Pen.V.zero=v:=by rw [ar,hpk];rfl
  refine GX ?_;refine jx (vU (cap:=[.pointer (some ⟨b3,0,none⟩)]) (al:=[.agg v.cells.toArray, .pointer (some ⟨b3,0,none⟩)]) Tryz.call124 (q0 rfl) (λhg=>by rw [iQ (q0 (v:= .agg _) rfl) hg];rfl)) (λ_ w hw=>M0 v b3 q b B d w (λj u hu=>EY hb3 hl3 rfl w hw j u hu) (fZ hl3 hw.1.size) (λj u hu=>EY hq hlq rfl w hw j u hu) (fZ hlq hw.1.size))<|GD ?_ ?_<;>intro hv
  ·have hv':v.bn=b.bn:=cC hv;have hf:(List.range n).find? (λk=>(vs.getD k Pen.V.zero).bn==b.bn)=some k:=by
    obtain ⟨j,rfl⟩: ∃j,n=k+1+j:=⟨n -(k+1),by omega⟩;rw [List.range_add,pP,jj,jj,hall];simp [hpk,hv']
   rw [show rS vs b.bn=(k:Int) by unfold rS;rw [hl,hf]];exact GW
  have hv': ¬v.bn=b.bn:=dB hv;refine GX ?_;exact na (k+1) ⟨by omega,by rw [pP,jj,hall];simp [hpk,hv']⟩
 have hend:k=n:=by simp at hlt;omega
 subst hend;rw [show rS vs b.bn= -1 by unfold rS;rw [hl,hall]];exact GW
def wC (p:Pr) (vs:List Pen.V) (b:jq) (bn:Int):jq:=
 if rS vs bn<0 then b else mD b 7 (Pen.CO p.fines p.days vs (rS vs bn)).1 (Pen.s7 p.fines p.days vs (rS vs bn)).1
attribute [local irreducible] Pen.CO Pen.s7 rS
theorem Pj{w0 w L q b A c}(hw:Mem w0 (box q 248 (b.cells A c)::rz A c b.items::L) w)(hmk:marks L=[])(i7 i5 b7 b5:Nat)(vA vn vc vs p a)(h7:L[i7]?=some (box b7 46 [.slice vA vn vc]))(h5:L[i5]?=some (box b5 28 (p.cells a)))(hv:Pen.zw w0 vA vn vs)(hp:qh w0 p a)(hpe:Pen.rk p.fines p.days=0)(hlen:b.items.length<=100)(hb: -9000000000000000<=b.total/\b.total<=9000000000000000):
  Calls Tryz.prog 122 #[.pointer (some ⟨q,0,none⟩), .pointer (some ⟨b7,0,none⟩), .pointer (some ⟨b5,0,none⟩)] w λe w'=> ∃z:Option Addr×Nat,e= .returned (.tuple #[])/\Mem w0 (box q 248 ((wC p vs b b.bn).cells z.1 z.2)::rz z.1 z.2 (wC p vs b b.bn).items::L) w':=by
 have hfr:=Gk (vs:=vs) (i:=rS vs b.bn) hpe;refine gI hw hmk Tryz.func122 rfl Tryz.ntmps122 rfl ?_;refine GX ?_;refine cd (v:= .pointer _) rfl rfl λb3=>GX ?_;refine fI (gB (v:= .slice vA vn vc) A8 (q0 rfl) (bx (i7+3) h7 rfl))<|xV AA rfl rfl<|jx (v:= .int .i64 (rS vs b.bn)) (en (al:=[.slice vA vn vc, .func (.func 124) #[] #[.pointer (some ⟨b3,0,none⟩)]]) Tryz.call123 (jn (q0 (v:= .slice _ _ _) rfl) (q0 rfl))) (λ_ w hw=>LF vA vn vc vs b3 q b A c w (hv.mem hw) (λj u hu=>by rw [fq];exact jR hw (k:=0) rfl hu) (hw.nE (k:=0) rfl rfl).2 (λj u hu=>by rw [fq];exact jR hw (k:=1) rfl hu) (hw.nE (k:=1) rfl rfl).2)<|GD ?_ ?_<;>intro h1
 ·have h1':rS vs b.bn<0:=cC h1;rw [show wC p vs b b.bn=b by unfold wC;rw [aB h1']];refine GX ?_;exact kr rfl hmk λw' hw=>⟨(A,c),rfl,hw.tail⟩
 have h1': ¬rS vs b.bn<0:=dB h1;rw [show wC p vs b b.bn=mD b 7 (Pen.CO p.fines p.days vs (rS vs b.bn)).1 (Pen.s7 p.fines p.days vs (rS vs b.bn)).1 by unfold wC;rw [an h1']];refine GX ?_;refine fI (iV (vs:=p.cells a) jM eN (q0 rfl) (rV (i5+3) h5) rfl)<|fI (gB (v:= .slice vA vn vc) A8 (q0 rfl) (bx (i7+3) h7 rfl))<|GX ?_;refine jx (en Tryz.call125 (nS (q0 rfl) (q0 rfl) (q0 rfl))) (λ_ w hw=>Pen.NU _ _ _ _ _ a.f.A a.f.n a.f.c p.fines p.days vA vn vc vs (rS vs b.bn) w (hp.fi.mem hw) (hv.mem hw))<|GX ?_;refine fI (iV (vs:=p.cells a) jM eN (q0 rfl) (rV (i5+3) h5) rfl)<|fI (gB (v:= .slice vA vn vc) A8 (q0 rfl) (bx (i7+3) h7 rfl))<|GX ?_;refine jx (en Tryz.call126 (nS (q0 rfl) (q0 rfl) (q0 rfl))) (λ_ w hw=>Pen.Se _ _ _ _ _ a.f.A a.f.n a.f.c p.fines p.days vA vn vc vs (rS vs b.bn) w (hp.fi.mem hw) (hv.mem hw))<|GX ?_;refine cQ (dD (en sw (Gf (q0 rfl) (q0 rfl) (q0 rfl) (q0 rfl))) (λw hw=>wG 7 (Pen.CO p.fines p.days vs (rS vs b.bn)).1 (Pen.s7 p.fines p.days vs (rS vs b.bn)).1 (hw.mv2) hmk hlen (by omega)) rfl (λ_=>rfl) λz=>?_);refine GX ?_;exact kr rfl hmk λw' hw=>⟨z,rfl,hw.oU 3 [0,1] (by decide) (by decide)⟩
end Go.Proofs.Far
namespace Go.Proofs.Cus
open Go Go.RowKit Go.Proofs.E
theorem H6 {fs:Array Field} (h:Tryz.prog.underlying 98=some (.struct fs):=by exact bz):df Tryz.prog fs [(0,1),(1,1),(2,1),(3,1),(4,2)]:=by
 rw [bz] at h
 cases h
 intro w
 kernel_rfl
theorem yZ {fs:Array Field} (h:Tryz.prog.underlying 83=some (.struct fs):=by exact bL):df Tryz.prog fs [(0,1),(1,1)]:=by
 rw [bL] at h
 cases h
 intro w
 kernel_rfl
def gy.cells (x:gy):List Value:=[.int .i64 x.bq, .int .i64 x.cF, .int .i64 x.place, .int .i64 x.bn, .int .i64 x.from_, .int .i64 x.jT]
abbrev iE (A:Option Addr) (c:Nat) (xs:List gy):E.Item:=dS 98 6 gy.cells A c xs
def z' (b9 b10:Nat) (now:gy) (out:List gy) (x:Option Addr×Nat):List E.Item:=[box b9 98 now.cells,box b10 44 [.slice x.1 out.length x.2],iE x.1 x.2 out]
theorem Qm {b9 b10:Nat} {now:gy} {out:List gy} {x:Option Addr×Nat} {w0 w:World} {L:List E.Item} (at_:Int) (hw:Mem w0 (z' b9 b10 now out x++L) w) (hmk:marks L=[]) (hn:out.length<=100000):
  Calls Tryz.prog 108 #[.int .i64 at_, .pointer (some ⟨b9,0,none⟩), .pointer (some ⟨b10,0,none⟩)] w λr w'=> ∃x':Option Addr×Nat,r= .returned (.tuple #[])/\Mem w0 (z' b9 b10 (qC at_ (now,out)).1 (qC at_ (now,out)).2 x'++L) w':=by
 unfold z' at hw|-
 refine gI hw hmk Tryz.func108 rfl Tryz.ntmps108 rfl ?_
 refine ak ?_
 refine R0 ?_
 refine xV (ay (v:= .int _ _) (q0 rfl)) rfl rfl ?_
 refine xV (az bz rfl bK rfl (q0 rfl)) rfl rfl ?_
 refine xV (az bL rfl ae rfl (q0 rfl)) rfl rfl ?_
 refine dN (v:= .int _ _) rfl rfl ae ?_
 refine XN ?_
 refine ad ?_
 refine ak ?_
 refine R0 ?_
 refine xV (eL gE (q0 rfl)) rfl rfl ?_
 refine xV (dw bI (q0 rfl)) rfl rfl ?_
 refine xV (rK (q0 rfl) (q0 rfl) (λ_=>⟨rfl,by omega,by omega⟩)) rfl rfl ?_
 refine xV (aU (v:= .int _ _) (q0 rfl)) rfl rfl ?_
 refine XN ?_
 refine ad ?_
 refine cq ?_
 refine ak ?_
 refine R0 ?_
 refine xV (az bz rfl bK rfl (q0 rfl)) rfl rfl ?_
 refine xV (az bL rfl ae rfl (q0 rfl)) rfl rfl ?_
 refine xV (eL aj (q0 rfl)) rfl rfl ?_
 refine xV (ay (v:= .int _ _) (q0 rfl)) rfl rfl ?_
 refine xV (jE (q0 rfl) (q0 rfl)) rfl rfl ?_
 refine xV (aU (v:= .bool _) (q0 rfl)) rfl rfl ?_
 refine XN ?_
 refine ad ?_
 refine bD rfl (λh1=>?_) (λh1=>?_)
 ·have h1':now.from_=at_:=by simpa using h1
  refine bZ ?_
  refine bc ?_
  exact kr rfl hmk λw' hw=>⟨x,rfl,by unfold qC;simp only;rw [aB h1'];exact hw⟩
 have h1': ¬now.from_=at_:=by simpa using h1
 cases hl:out.getLast? with
 |none=>
  have hout:out=[]:=by simpa using hl
  subst hout
  have hd:decide ((0:Int)<=(([]:List gy).length:Int) -1)=false:=by decide
  have hd2:(decide ((0:Int)<=(([]:List gy).length:Int) -1)&&false)=false:=by decide
  have hd3:((decide ((0:Int)<=(([]:List gy).length:Int) -1)&&false)&&false)=false:=by decide
  refine ak ?_
  refine R1 rfl (by decide+kernel) ?_
  refine xV (ay (v:= .int _ _) (q0 rfl)) rfl rfl ?_
  refine xV (CQ (q0 rfl) (q0 rfl)) rfl rfl ?_
  refine xV (ay (v:= .bool _) (q0 rfl)) rfl rfl ?_
  refine dJ (cO (v:= .slice none 0 0) (hd)) rfl rfl rfl rfl ?_
  refine dJ (cO (v:= .int .i64 0) (hd)) rfl rfl rfl rfl ?_
  refine dJ (cO (v:= .pointer none) (hd)) rfl rfl rfl rfl ?_
  refine dJ (cO (v:= .pointer none) (hd)) rfl rfl rfl rfl ?_
  refine dJ (cO (v:= .int .i64 0) (hd)) rfl rfl rfl rfl ?_
  refine dJ (cO (v:= .pointer none) (hd)) rfl rfl rfl rfl ?_
  refine dJ (cO (v:= .int .i64 0) (hd)) rfl rfl rfl rfl ?_
  refine dJ (cO (v:= .bool false) (hd)) rfl rfl rfl rfl ?_
  refine xV (fH (q0 rfl) rfl (λh=>by first|rfl|(rw [h];rfl))) rfl rfl ?_
  refine xV (ay (v:= .bool _) (q0 rfl)) rfl rfl ?_
  refine dJ (cO (v:= .slice none 0 0) (hd2)) rfl rfl rfl rfl ?_
  refine dJ (cO (v:= .int .i64 0) (hd2)) rfl rfl rfl rfl ?_
  refine dJ (cO (v:= .pointer none) (hd2)) rfl rfl rfl rfl ?_
  refine dJ (cO (v:= .pointer none) (hd2)) rfl rfl rfl rfl ?_
  refine dJ (cO (v:= .int .i64 0) (hd2)) rfl rfl rfl rfl ?_
  refine dJ (cO (v:= .pointer none) (hd2)) rfl rfl rfl rfl ?_
  refine dJ (cO (v:= .int .i64 0) (hd2)) rfl rfl rfl rfl ?_
  refine dJ (cO (v:= .bool false) (hd2)) rfl rfl rfl rfl ?_
  refine xV (fH (q0 rfl) rfl (λh=>by first|rfl|(rw [h];rfl))) rfl rfl ?_
  refine xV (ay (v:= .bool _) (q0 rfl)) rfl rfl ?_
  refine dJ (cO (v:= .slice none 0 0) (hd3)) rfl rfl rfl rfl ?_
  refine dJ (cO (v:= .int .i64 0) (hd3)) rfl rfl rfl rfl ?_
  refine dJ (cO (v:= .pointer none) (hd3)) rfl rfl rfl rfl ?_
  refine dJ (cO (v:= .pointer none) (hd3)) rfl rfl rfl rfl ?_
  refine dJ (cO (v:= .int .i64 0) (hd3)) rfl rfl rfl rfl ?_
  refine dJ (cO (v:= .pointer none) (hd3)) rfl rfl rfl rfl ?_
  refine dJ (cO (v:= .int .i64 0) (hd3)) rfl rfl rfl rfl ?_
  refine dJ (cO (v:= .bool false) (hd3)) rfl rfl rfl rfl ?_
  refine xV (fH (q0 rfl) rfl (λh=>by first|rfl|(rw [h];rfl))) rfl rfl ?_
  refine xV (aU (v:= .bool _) (q0 rfl)) rfl rfl ?_
  refine XN ?_
  refine ad ?_
  refine bD rfl (λh2=>?_) (λh2=>?_)
  ·exact absurd h2 (by simp)
  refine R0 ?_
  refine xV (eL gE (q0 rfl)) rfl rfl ?_
  refine xV (eS kC cy (q0 rfl)) rfl rfl ?_
  refine gN (k:=6) (i:=Tryz.t98) 2 ({now with jT:=at_}) bI (by kernel_rfl) rfl rfl rfl rfl cy fe rfl rfl rfl rfl rfl rfl ⟨by simp,by decide⟩ rfl rfl λB A1 c1=>?_
  refine dN (v:= .slice _ _ _) rfl rfl eV ?_
  refine XN ?_
  refine bc ?_
  exact kr rfl hmk λw' hw=>⟨(A1,c1),rfl,by unfold qC;simp only;rw [an h1'];exact hw⟩
 |some y=>
  obtain ⟨hy,hset,hpos⟩:=F8 (z:={y with jT:=at_}) hl
  obtain ⟨k,hk⟩: ∃k,k=out.length -1:=⟨_,rfl⟩
  rw [<-hk] at hy hset
  have hki:(out.length:Int) -1=k:=by omega
  have hge:decide ((0:Int)<=(out.length:Int) -1)=true:=by simp;omega
  obtain ⟨b,hb⟩:=fG (j:=2) hw rfl hpos
  obtain ⟨x1,x2⟩:=x
  simp only at hb
  subst hb
  refine ak ?_
  refine R1 rfl (by decide+kernel) ?_
  refine xV (ay (v:= .int _ _) (q0 rfl)) rfl rfl ?_
  refine xV (CQ (q0 rfl) (q0 rfl)) rfl rfl ?_
  refine xV (ay (v:= .bool _) (q0 rfl)) rfl rfl ?_
  refine dJ (eL gE (q0 rfl)) rfl rfl rfl rfl ?_
  refine dJ (ay (v:= .int _ _) (q0 rfl)) rfl rfl rfl rfl ?_
  refine dJ (cx k bI cy (q1 rfl) (q1 rfl) (λ_=>⟨hki,by show k<out.length;omega⟩)) rfl rfl rfl rfl ?_
  refine dJ (az bz rfl ae rfl (q1 rfl)) rfl rfl rfl rfl ?_
  refine dJ (eL aj (q1 rfl)) rfl rfl rfl rfl ?_
  refine dJ (az bz rfl ae rfl (q0 rfl)) rfl rfl rfl rfl ?_
  refine dJ (eL aj (q1 rfl)) rfl rfl rfl rfl ?_
  refine dJ (jE (q1 rfl) (q1 rfl)) rfl rfl rfl rfl ?_
  refine xV (fH (q0 rfl) rfl (λh=>by first|rfl|(rw [h];rfl))) rfl rfl ?_
  refine xV (ay (v:= .bool _) (q0 rfl)) rfl rfl ?_
  refine dJ (eL gE (q0 rfl)) rfl rfl rfl rfl ?_
  refine dJ (ay (v:= .int _ _) (q0 rfl)) rfl rfl rfl rfl ?_
  refine dJ (cx k bI cy (q1 rfl) (q1 rfl) (λ_=>⟨hki,by show k<out.length;omega⟩)) rfl rfl rfl rfl ?_
  refine dJ (az bz rfl ae rfl (q1 rfl)) rfl rfl rfl rfl ?_
  refine dJ (eL aj (q1 rfl)) rfl rfl rfl rfl ?_
  refine dJ (az bz rfl ae rfl (q0 rfl)) rfl rfl rfl rfl ?_
  refine dJ (eL aj (q1 rfl)) rfl rfl rfl rfl ?_
  refine dJ (jE (q1 rfl) (q1 rfl)) rfl rfl rfl rfl ?_
  refine xV (fH (q0 rfl) rfl (λh=>by first|rfl|(rw [h];rfl))) rfl rfl ?_
  refine xV (ay (v:= .bool _) (q0 rfl)) rfl rfl ?_
  refine dJ (eL gE (q0 rfl)) rfl rfl rfl rfl ?_
  refine dJ (ay (v:= .int _ _) (q0 rfl)) rfl rfl rfl rfl ?_
  refine dJ (cx k bI cy (q1 rfl) (q1 rfl) (λ_=>⟨hki,by show k<out.length;omega⟩)) rfl rfl rfl rfl ?_
  refine dJ (az bz rfl ae rfl (q1 rfl)) rfl rfl rfl rfl ?_
  refine dJ (eL aj (q1 rfl)) rfl rfl rfl rfl ?_
  refine dJ (az bz rfl ae rfl (q0 rfl)) rfl rfl rfl rfl ?_
  refine dJ (eL aj (q1 rfl)) rfl rfl rfl rfl ?_
  refine dJ (jE (q1 rfl) (q1 rfl)) rfl rfl rfl rfl ?_
  refine xV (fH (q0 rfl) rfl (λh=>by first|rfl|(rw [h];rfl))) rfl rfl ?_
  refine xV (aU (v:= .bool _) (q0 rfl)) rfl rfl ?_
  refine XN ?_
  refine ad ?_
  refine bD rfl (λh2=>?_) (λh2=>?_)
  ·have h2':tG y now=true:=by
    unfold tG
    have h3:(((decide ((0:Int)<=(out.length:Int) -1)&&decide (y.cF=now.cF))&&decide (y.place=now.place))&&decide (y.bn=now.bn))=true:=h2
    rw [hge,p6] at h3
    exact h3
   refine R0 ?_
   refine xV (eL gE (q0 rfl)) rfl rfl ?_
   refine xV (ay (v:= .int _ _) (q0 rfl)) rfl rfl ?_
   refine xV (ay (v:= .int _ _) (q0 rfl)) rfl rfl ?_
   refine xV (cx k bI cy (q0 rfl) (q0 rfl) (λ_=>⟨hki,by show k<out.length;omega⟩)) rfl rfl ?_
   refine xV (az bz rfl bK rfl (q0 rfl)) rfl rfl ?_
   refine xV (az bL rfl ae rfl (q0 rfl)) rfl rfl ?_
   refine cQ (iw 2 (off:=5) {y with jT:=at_} rfl rfl ae rfl rfl rfl hy rfl rfl ?_)
   refine XN ?_
   refine bc ?_
   exact kr rfl hmk λw' hw=>⟨(some ⟨b,0,none⟩,x2),rfl,by unfold qC;simp only;rw [an h1',hl];simp only;rw [aB h2',<-hset];simp only [gP];exact hw⟩
  have h2': ¬tG y now=true:=by
   unfold tG
   have h3:(((decide ((0:Int)<=(out.length:Int) -1)&&decide (y.cF=now.cF))&&decide (y.place=now.place))&&decide (y.bn=now.bn))=false:=h2
   rw [hge,p6] at h3
   rw [h3];decide
  refine R0 ?_
  refine xV (eL gE (q0 rfl)) rfl rfl ?_
  refine xV (eS kC cy (q0 rfl)) rfl rfl ?_
  refine gN (k:=6) (i:=Tryz.t98) 2 ({now with jT:=at_}) bI (by kernel_rfl) rfl rfl rfl rfl cy fe rfl rfl rfl rfl rfl rfl ⟨by omega,by decide⟩ rfl rfl λB A1 c1=>?_
  refine dN (v:= .slice _ _ _) rfl rfl eV ?_
  refine XN ?_
  refine bc ?_
  exact kr rfl hmk λw' hw=>⟨(A1,c1),rfl,by unfold qC;simp only;rw [an h1',hl];simp only;rw [an h2'];exact hw⟩
def Ho (c9 c10 c5 c11:Nat) (bq:Nat) (z:gy×List gy) (x:Option Addr×Nat):List E.Item:=
 z' c9 c10 z.1 z.2 x++[box c5 3 [.int .i64 bq],box c11 225 [.func (.func 108) #[] #[.pointer (some ⟨c9,0,none⟩), .pointer (some ⟨c10,0,none⟩)]]]
theorem xR (at_:Int) (z:gy×List gy):(qC at_ z).2.length<=z.2.length+1:=by
 unfold qC
 simp only
 split
 ·exact lD _
 split
 ·rename_i y hy
  split
  ·have:=(F8 (z:=y) hy).2.2
   simp only [aQ,List.length_dropLast,cL,dO];omega
  simp
 simp
theorem RE {b9 b10:Nat} {now:gy} {out:List gy} {x:Option Addr×Nat} {w0 w:World} {L:List E.Item} {p q:E.Item} (at_:Int) (hw:Mem w0 (p::q::(z' b9 b10 now out x++L)) w) (hp:p.due=[]) (hq:q.due=[]) (hmk:marks L=[]) (hn:out.length<=100000):
  Calls Tryz.prog 108 #[.int .i64 at_, .pointer (some ⟨b9,0,none⟩), .pointer (some ⟨b10,0,none⟩)] w λr w'=> ∃x':Option Addr×Nat,r= .returned (.tuple #[])/\Mem w0 (p::q::(z' b9 b10 (qC at_ (now,out)).1 (qC at_ (now,out)).2 x'++L)) w':=
 (Qm at_ (Mem.uw (X:=[p,q]) hw) (by rw [kp,hmk,ju,ju,hp,hq];rfl) hn).mono λ_ _ ⟨x',h1,h2⟩=>⟨x',h1,Mem.uw (S:=[p,q]) h2⟩
theorem Ox (f:Fl) (a:FA) (n c9 c10 c5 c11 bq:Nat) (hbk:bq<n):Sf f a n 110 [.pointer (some ⟨c5,0,none⟩), .pointer (some ⟨c9,0,none⟩), .pointer (some ⟨c11,0,none⟩)] (mv bq) (Ho c9 c10 c5 c11 bq) (λk z=>z.2.length<=k) where
 enter:=Tryz.call110
 Ep:=λk z s e er h=>by
  unfold mv
  simp only
  split
  ·have:=xR e.at_ z
   simp only;omega
  omega
 run:=λ{w0 L s t z x k} e er hmk hsn hl hn1 hf hk hJ w hw=>by
  obtain ⟨y,hy⟩: ∃y,t.aG[bq]?=some y:=⟨_,ah (by omega)⟩
  have hyd:t.plain.aG.getD bq default=y:=by rw [ar];show (t.aG[bq]?).getD default=y;rw [hy];rfl
  obtain ⟨now,out⟩:=z
  obtain ⟨out',hout⟩: ∃o:List gy,o=out:=⟨_,rfl⟩
  simp only at hJ
  have hcb:mv bq (now,out) t.plain e er=if er=0/\yL y now=true then (⟨bq,y.cF,y.place,y.bn,e.at_,0⟩,(qC e.at_ (now,out)).2) else (now,out):=by unfold mv;rw [hyd]
  rw [hcb]
  unfold Ho at hw|-
  unfold z' at hw|-
  subst hsn
  refine gI hw hmk Tryz.func110 rfl Tryz.ntmps110 rfl ?_
  refine ak ?_
  refine R0 ?_
  refine cd (v:= .agg _) rfl rfl λb7=>?_
  refine XN ?_
  refine ad ?_
  refine ak ?_
  refine RA rfl (by decide+kernel) ?_
  refine aV 0 (by decide+kernel) rfl (ay (v:= .pointer _) (q0 rfl)) rfl ?_
  refine aV 1 (by decide+kernel) rfl (Co (q0 rfl)) rfl ?_
  refine aV 2 (by decide+kernel) rfl (az jg rfl Tryz.sizeOf149 rfl (q0 rfl)) rfl ?_
  refine aV 3 (by decide+kernel) rfl (eL Tryz.isAgg149 (q0 rfl)) rfl ?_
  refine aV 4 (by decide+kernel) rfl (eL aj (q0 rfl)) rfl ?_
  refine aV 5 (by decide+kernel) rfl (cx _ fR fW (q0 rfl) (q0 rfl) (λ_=>⟨rfl,by omega⟩)) rfl ?_
  refine aV 6 (by decide+kernel) rfl (iV Tryz.isAgg159 fW (q0 rfl) (sP 7 rfl hy) rfl) rfl ?_
  refine eu (i:=7) (by decide+kernel) (au 0) ?_
  refine aL rfl (mO fC rfl λb9=>?_)
  refine eu (i:=8) (by decide+kernel) (au 1) ?_
  refine aL rfl (mB (v:= .agg _) rfl rfl fW ?_)
  refine aZ (by decide+kernel) (au 1) ?_
  refine ad ?_
  refine ak ?_
  refine R0 ?_
  refine xV (ay (v:= .int _ _) (q0 rfl)) rfl rfl ?_
  refine xV (jE (q0 rfl) (q0 rfl)) rfl rfl ?_
  refine xV (ay (v:= .bool _) (q0 rfl)) rfl rfl ?_
  refine dJ (az dE rfl ae rfl (q0 rfl)) rfl rfl rfl rfl ?_
  refine dJ (eL aj (q1 rfl)) rfl rfl rfl rfl ?_
  refine dJ (az bz rfl ae rfl (q0 rfl)) rfl rfl rfl rfl ?_
  refine dJ (eL aj (q1 rfl)) rfl rfl rfl rfl ?_
  refine dJ (ki (q1 rfl) (q1 rfl)) rfl rfl rfl rfl ?_
  refine dJ (ay (v:= .bool _) (q1 rfl)) rfl rfl rfl rfl ?_
  refine iv (az dE rfl ae rfl (q0 rfl)) rfl rfl rfl rfl ?_
  refine iv (eL aj (q1 rfl)) rfl rfl rfl rfl ?_
  refine iv (az bz rfl ae rfl (q0 rfl)) rfl rfl rfl rfl ?_
  refine iv (eL aj (q1 rfl)) rfl rfl rfl rfl ?_
  refine iv (ki (q1 rfl) (q1 rfl)) rfl rfl rfl rfl ?_
  refine dJ (jJ (q1 rfl) rfl (λh=>by first|rfl|(rw [h];rfl))) rfl rfl rfl rfl ?_
  refine dJ (ay (v:= .bool _) (q1 rfl)) rfl rfl rfl rfl ?_
  refine iv (az dE rfl ae rfl (q0 rfl)) rfl rfl rfl rfl ?_
  refine iv (eL aj (q1 rfl)) rfl rfl rfl rfl ?_
  refine iv (az bz rfl ae rfl (q0 rfl)) rfl rfl rfl rfl ?_
  refine iv (eL aj (q1 rfl)) rfl rfl rfl rfl ?_
  refine iv (ki (q1 rfl) (q1 rfl)) rfl rfl rfl rfl ?_
  refine dJ (jJ (q1 rfl) rfl (λh=>by first|rfl|(rw [h];rfl))) rfl rfl rfl rfl ?_
  refine xV (fH (q0 rfl) rfl (λh=>by first|rfl|(rw [h];rfl))) rfl rfl ?_
  refine XN ?_
  refine ad ?_
  refine bD rfl (λh=>?_) (λh=>?_)
  ·have h':er=0/\yL y now=true:=by
    rw [de,fg] at h
    exact h
   rw [aB h']
   refine ak ?_
   refine R0 ?_
   refine xV (eL Tryz.isAgg225 (q0 rfl)) rfl rfl ?_
   refine xV (az bT rfl ae rfl (q0 rfl)) rfl rfl ?_
   refine xV (eL aj (q0 rfl)) rfl rfl ?_
   refine cQ (dD (vU Tryz.call108 (q0 rfl) (λ_=>rfl)) (λw hw=>RE (now:=now) (out:=out) (x:=x) (L:=[box c5 3 [.int .i64 bq],box c11 225 [.func (.func 108) #[] #[.pointer (some ⟨c9,0,none⟩), .pointer (some ⟨c10,0,none⟩)]]]++(tE f a s t++L)) e.at_ hw rfl rfl hmk (by omega)) rfl (λ_=>rfl) λx'=>?_)
   refine XN ?_
   refine ad ?_
   refine R0 ?_
   refine xV (eL aj (q0 rfl)) rfl rfl ?_
   refine xV (az dE rfl ae rfl (q0 rfl)) rfl rfl ?_
   refine xV (eL aj (q0 rfl)) rfl rfl ?_
   refine xV (az dE rfl ae rfl (q0 rfl)) rfl rfl ?_
   refine xV (eL aj (q0 rfl)) rfl rfl ?_
   refine xV (az dE rfl ae rfl (q0 rfl)) rfl rfl ?_
   refine xV (eL aj (q0 rfl)) rfl rfl ?_
   refine xV (az bT rfl ae rfl (q0 rfl)) rfl rfl ?_
   refine xV (eL aj (q0 rfl)) rfl rfl ?_
   refine xV (bN bL yZ cS (pt (v:= .int _ _) rfl E.p0) rfl) rfl rfl ?_
   refine xV (bN bz H6 fe (pt (v:= .int _ _) rfl (pt (v:= .int _ _) rfl (pt (v:= .int _ _) rfl (pt (v:= .int _ _) rfl (pt (v:= .agg _) rfl E.p0))))) rfl) rfl rfl ?_
   refine dN (v:= .agg _) rfl rfl cy ?_
   refine XN ?_
   exact kr rfl hmk λw' hw=>⟨x',rfl,hw.tail.tail⟩
  have h': ¬(er=0/\yL y now=true):=λhh=>by
   have:(decide (er=0)&&yL y now)=false:=h
   rw [hh.2,Bool.and_true,nV] at this
   exact this hh.1
  rw [an h']
  refine bZ ?_
  exact kr rfl hmk λw' hw=>⟨x,rfl,hw.tail.tail⟩
end Go.Proofs.Cus
