import Derived.Test.YtomomjgdeomgiaaGreatBA13
set_option maxRecDepth 100000
set_option maxHeartbeats 8000000
set_option linter.all false
namespace Go.Proofs.Aud
open Go Go.RowKit Go.Proofs.E Go.Proofs.Cus Go.Proofs.Rid Go.Proofs.Far Go.Proofs.Net
def La (f:Fl) (fa:FA) (p:Pr) (a:tz) (x:SX):List Value:=[.int .i64 f.cv, .int .i64 f.q', .int .i64 f.bH, .slice fa.dA fa.dn fa.dc, .slice fa.tA fa.tn fa.tc, .slice a.t.A a.t.n a.t.c, .slice a.p.A a.p.n a.p.c, .slice a.pl.A a.pl.n a.pl.c, .slice a.d.A a.d.n a.d.c, .int .i64 p.cap, .slice a.f.A a.f.n a.f.c, .int .i64 p.days,
 .int .i64 x.nodes,x.Gu.v,x.cI.v,x.FT.v, .int .i64 x.handle,x.Lr.v, .int .i64 x.size,x.Uf.v, .int .i64 x.each, .int .i64 x.kB, .int .i64 x.least, .int .i64 x.width, .int .u64 x.ka, .int .u64 x.kb]
def Od:List Value:=[.int .i64 0, .int .i64 0, .int .i64 0, .slice none 0 0, .slice none 0 0, .slice none 0 0, .slice none 0 0, .slice none 0 0, .slice none 0 0, .int .i64 0, .slice none 0 0, .int .i64 0, .int .i64 0, .slice none 0 0, .slice none 0 0, .slice none 0 0, .int .i64 0, .slice none 0 0, .int .i64 0, .slice none 0 0, .int .i64 0, .int .i64 0, .int .i64 0, .int .i64 0, .int .u64 0, .int .u64 0, .int .i64 0, .slice none 0 0, .slice none 0 0, .slice none 0 0, .slice none 0 0, .slice none 0 0, .slice none 0 0, .slice none 0 0, .slice none 0 0, .slice none 0 0, .slice none 0 0]
abbrev w5 (s:Int) (ev st rd fr pd:Sl):BX:=⟨s,ev,st,rd,⟨none,0,0⟩,fr,pd,⟨none,0,0⟩,⟨none,0,0⟩,⟨none,0,0⟩,⟨none,0,0⟩⟩
def wF (dv:Int) (z:List Ev×List Ev) (l:List Ev):List Ev×List Ev:=l.foldl (λz e=>((kW dv z.1 e).1,if (kW dv z.1 e).2.2=0 then z.2++[e] else z.2)) z
def iR (dv:Int) (l:List Ev):List Ev:=(wF dv ([],[]) l).2
theorem Dz (dv:Int): ∀(l:List Ev) (z:List Ev×List Ev),(wF dv z l).1=jA dv z.1 l
 |[],_=>rfl
 |e::l,z=>Dz dv l _
theorem Ij (dv:Int) (z:List Ev×List Ev) (l:List Ev) (e:Ev):wF dv z (l++[e])=((kW dv (wF dv z l).1 e).1,if (kW dv (wF dv z l).1 e).2.2=0 then (wF dv z l).2++[e] else (wF dv z l).2):=by unfold wF;rw [fX];rfl
theorem zv (dv:Int) (l:List Ev) (e:Ev):iR dv (l++[e])=if (kW dv (jA dv [] l) e).2.2=0 then iR dv l++[e] else iR dv l:=by
 unfold iR
 rw [Ij,Dz]
theorem vd (dv:Int) (l:List Ev):(iR dv l).Sublist l:=by
 suffices h: ∀n,(iR dv (l.take n)).Sublist (l.take n) by simpa using h l.length
 intro n
 induction n with
 |zero=>simp [iR,wF]
 |succ n ih=>
  rcases uA n l.length with h|h
  ·rw [dY l n _ (ah h),zv]
   split
   ·exact ih.append (List.Sublist.refl _)
   exact ih.trans (List.sublist_append_left _ _)
  rw [bo (by omega)]
  rw [bo h] at ih
  exact ih
def KD (f:Fl) (settled:Int) (cX:List Ev):Int:=if Ez f.bH (jA f.bH [] cX)<settled then Ez f.bH (jA f.bH [] cX) else settled
def rP (f:Fl) (cX:List Ev) (n:Nat):List gy:=(List.range n).flatMap λi:Nat=>fP f cX i
def rU (b:jq):Aud.Py:=⟨b.bn,b.rider,b.total⟩
structure DB where
 b:BX
 ok:Bool
 rs:List RX
 fs:List FX
structure Lk (f:Fl) (p:Pr) (cX:List Ev) (settled:Int) (z:DB):Prop where
 fl:fy f=0
 al:jw f p ((dP f (iR f.bH cX)).filter (dF (KD f settled cX))) []=0
 r:z.rs.map (·.r)=dP f (iR f.bH cX)
 y:z.fs.map (·.b)=sg f p ((dP f (iR f.bH cX)).filter (dF (KD f settled cX))) []
 bx: ∃A B C D E:Option Addr×Nat,z.b=w5 (KD f settled cX) ⟨A.1,(iR f.bH cX).length,A.2⟩ ⟨B.1,(rP f (iR f.bH cX) f.cv.toNat).length,B.2⟩ ⟨C.1,z.rs.length,C.2⟩ ⟨D.1,z.fs.length,D.2⟩ ⟨E.1,z.fs.length,E.2⟩
structure Vv (f:Fl) (cX:List Ev) (u:World) (z:DB):Prop where
 ev:rO u z.b.ev.A z.b.ev.n (iR f.bH cX)
 st:eG u 6 gy.cells z.b.st.A z.b.st.n (rP f (iR f.bH cX) f.cv.toNat)
 rd:lZ u z.b.rd.A z.b.rd.n z.rs
 fr:eG u 4 FX.cells z.b.fr.A z.b.fr.n z.fs/\ ∀x∈z.fs,eG u 3 CE.cells x.A x.b.items.length x.b.items
 pd:eG u 3 rT z.b.pd.A z.b.pd.n (z.fs.map λy=>rU y.b)
abbrev DrO (f:Fl) (p:Pr) (cX:List Ev) (settled:Int):Type:={z:DB×List E.Item//z.1.ok=true->Lk f p cX settled z.1/\ ∀u,(∀it∈z.2,it.A u)->Vv f cX u z.1}
abbrev mP (A:Option Addr) (c:Nat) (xs:List Aud.Py):E.Item:=dS 96 3 rT A c xs
theorem Ov (f:Fl) (xs:List Ev) (h:xs.length<=40):(nw f xs).dH.length<=20:=by
 by_cases hok:fy f=0
 ·have h1:=yB hok xs
  have h2:=tp f xs
  omega
 unfold nw kR
 rw [an hok]
 simp [iq]
theorem Q4 (f:Fl) (xs:List Ev) (h:xs.length<=100000): ∀r∈dP f xs,(r.db.length<=100000/\r.bV.length<=100000)/\r.pl<=9223372036854775807:=by
 by_cases hok:fy f=0
 ·exact Dx hok h
 unfold dP
 rw [an hok]
 simp
theorem xR (t:Int) (z:gy×List gy):(qC t z).2.length<=z.2.length+1:=by
 unfold qC
 by_cases h:z.1.from_=t
 ·rw [aB h];exact lD _
 rw [an h]
 cases z.2.getLast? with
 |none=>simp
 |some y=>
  simp only
  by_cases h2:tG y z.1=true
  ·rw [aB h2];simp only [aQ,List.length_dropLast,cL,dO];omega
  rw [an h2];simp
theorem zL (f:Fl) (xs:List Ev) (k:Int):(fP f xs k).length<=xs.length+1:=by
 unfold fP
 split
 ·have h1:=wJ (f:=f) (k:=k.toNat) (setOf xs) (dy (i6 f),(wm k.toNat,[]))
  have h2:=vo xs
  have h3:=xR 4294944000 (gn f (mv k.toNat) (setOf xs) (dy (i6 f),(wm k.toNat,[]))).2
  simp only [dO] at h1
  omega
 simp
theorem DY (f:Fl) (xs:List Ev) (h:xs.length<=30) (n:Nat):(rP f xs n).length<=n*31:=by
 unfold rP
 exact dX (λi=>by have:=zL f xs i;omega) n
theorem xx {c:Cx} {fn:Func} {w0:World} {L:List E.Item} {f:Fr} (k:Nat) {a n b u:Nat} {t tb:TypeId} {cs:List Value} {x:Value} (hr:fn.results= #[.cell a t, .tmp u]) (hv:f a= .pointer (some ⟨b,0,none⟩)) (hx:f u=x) (ht: ∀w,(isAgg t).run c.P w= .ok true w) (hs: ∀w,(sizeOf t).run c.P w= .ok n w)
  (hk:L[k]?=some (box b tb cs)) (hl:cs.length=n):vf c.P c.N fn w0 L f (.tuple #[.agg cs.toArray,x]):=λw ds ac hw ha=>by
 have h1:=ha.get a
 rw [hv,eZ] at h1
 have h2:=ha.get u
 rw [hx,eZ] at h2
 have:=E.run_loadCellsFrom (P:=c.P) (w:=w) (b:=b) (o:=0) n 0 #[] cs hl (λj u hu=>by simpa using jR hw hk hu)
 simp [results,hr,h1,h2,asAddr,loadVar,ht,hs,loadCells,this,Result.andThen]
theorem JC {c:Cx} {PQ:PJ} {f:Fr} {ops rest:List Oper} {b:Nat} {t:TypeId} {cs cs2:List Value} {w0:World} {L:List E.Item} (e:cs=cs2) (h:XL false c ops rest PQ w0 (box b t cs2::L) f):XL false c ops rest PQ w0 (box b t cs::L) f:=e▸h
theorem fJ {c:Cx} {PQ:PJ} {f:Fr} {ops rest:List Oper} {b k:Nat} {t:TypeId} {cs cs2:List Value} {w0:World} {L:List E.Item} (e:cs=cs2) (h:XL false c ops rest PQ w0 (L.set k (box b t cs2)) f):XL false c ops rest PQ w0 (L.set k (box b t cs)) f:=e▸h
theorem KF (dv:Int) (h1: ¬(1<=dv/\dv<=256)) (w:World):Calls Tryz.prog 46 #[.int .i64 dv] w λe w'=>e= .returned (.tuple #[.pointer none, .int .i64 1])/\fM w w':=by
 refine dd Tryz.func46 rfl Tryz.ntmps46 rfl ?_
 refine ak ?_
 refine R0 ?_
 refine xV (aU (v:= .pointer _) (q0 rfl)) rfl rfl ?_
 refine xV (aU (v:= .int _ _) (q0 rfl)) rfl rfl ?_
 refine XN ?_
 refine ad ?_
 refine ak ?_
 refine ak ?_
 refine R0 ?_
 refine xV (ay (v:= .int _ _) (q0 rfl)) rfl rfl ?_
 refine xV (gK (q0 rfl) (q0 rfl)) rfl rfl ?_
 refine xV (ay (v:= .bool _) (q0 rfl)) rfl rfl ?_
 refine fE (ay (v:= .int _ _) (q0 rfl)) rfl rfl rfl rfl ?_
 refine fE (uY (q1 rfl) (q0 rfl)) rfl rfl rfl rfl ?_
 refine xV (jJ (q0 rfl) rfl (λh=>by first|rfl|(rw [h];rfl))) rfl rfl ?_
 refine XN ?_
 refine ad ?_
 refine bD rfl (λhb=>?_) (λhb=>?_)
 ·refine ak ?_
  refine R0 ?_
  refine xV (aU (v:= .pointer _) (q0 rfl)) rfl rfl ?_
  refine xV (aU (v:= .int _ _) (q0 rfl)) rfl rfl ?_
  refine XN ?_
  refine ad ?_
  refine dq ?_
  refine cw ?_
  exact jr (v:= .pointer _) (x:= .int _ _) rfl rfl rfl rfl λw' hw=>⟨rfl,hw.1⟩
 exfalso;simp at hb;omega
theorem KV (f:Fl) (fa:FA) (p:Pr) (a:tz) (x:SX) (A:Option Addr) (n c:Nat) (cX:List Ev) (settled:Int) (w:World) (hf:mE w f fa) (hp:qh w p a) (hev:rO w A n cX) (hn:cX.length<=30) (hpl:zz cX):
  Calls Tryz.prog 22 #[.agg (La f fa p a x).toArray, .slice A n c, .int .i64 settled] w λe w'=> ∃z:DrO f p cX settled,e= .returned (.tuple #[.agg (hP f fa p a x z.1.1.b).toArray, .bool z.1.1.ok])/\Mem w [jK z.1.2] w':=by
 have hln:=hev.1
 refine dd Tryz.func22 rfl Tryz.ntmps22 rfl ?_
 refine ak ?_
 refine R0 ?_
 refine cd (v:= .agg _) rfl rfl λb3=>?_
 refine bS fN rfl λb6=>?_
 refine xV (aU (v:= .bool _) (q0 rfl)) rfl rfl ?_
 refine XN ?_
 refine ad ?_
 refine ak ?_
 refine R0 ?_
 refine xV (eS Ss eX (q0 rfl)) rfl rfl ?_
 refine xV (tj (hP f fa p a x (w5 0 ⟨none,0,0⟩ ⟨none,0,0⟩ ⟨none,0,0⟩ ⟨none,0,0⟩ ⟨none,0,0⟩)) ax Tq fN (pt (v:= .agg (La f fa p a x).toArray) rfl E.p0) (by kernel_rfl) (by kernel_rfl)) rfl rfl ?_
 refine bS fN rfl λb8=>?_
 refine dN (v:= .agg (hP f fa p a x (w5 0 ⟨none,0,0⟩ ⟨none,0,0⟩ ⟨none,0,0⟩ ⟨none,0,0⟩ ⟨none,0,0⟩)).toArray) rfl rfl aM ?_;refine JC (cs2:=hP f fa p a x (w5 0 ⟨none,0,0⟩ ⟨none,0,0⟩ ⟨none,0,0⟩ ⟨none,0,0⟩ ⟨none,0,0⟩)) (by kernel_rfl) ?_
 refine XN ?_
 refine ad ?_
 refine ak ?_
 by_cases hdv:1<=f.bH/\f.bH<=256
 case neg=>
  refine R0 ?_
  refine xV (az bh rfl cN rfl (q0 rfl)) rfl rfl ?_
  refine xV (az dI rfl ae rfl (q0 rfl)) rfl rfl ?_
  refine xV (eL aj (q0 rfl)) rfl rfl ?_
  refine xC (en Ub (iQ (q0 rfl))) (λ_ w _=>KF f.bH hdv w) rfl rfl ?_
  refine xV (ay (q0 rfl)) rfl rfl ?_
  refine xV (iW (q0 rfl) rfl) rfl rfl ?_
  refine xV (iW (q0 rfl) rfl) rfl rfl ?_
  refine xV (aU (v:= .pointer _) (q0 rfl)) rfl rfl ?_
  refine xV (aU (v:= .int _ _) (q0 rfl)) rfl rfl ?_
  refine XN ?_
  refine ad ?_
  refine ak ?_
  refine ak ?_
  refine R0 ?_
  refine xV (ay (v:= .pointer _) (q0 rfl)) rfl rfl ?_
  refine xV (ti qK (q0 rfl)) rfl rfl ?_
  refine xV (ay (v:= .bool _) (q0 rfl)) rfl rfl ?_
  refine fE (ay (v:= .int _ _) (q0 rfl)) rfl rfl rfl rfl ?_
  refine fE (ki (q1 rfl) (q0 rfl)) rfl rfl rfl rfl ?_
  refine xV (jJ (q0 rfl) rfl (λh=>by first|rfl|(rw [h];rfl))) rfl rfl ?_
  refine XN ?_
  refine ad ?_
  refine bD rfl (λh1=>?_) (λh1=>?_)
  ·refine ak ?_
   refine R0 ?_
   refine xV (eS cP aM (q0 rfl)) rfl rfl ?_
   refine dN (k:=1) (v:= .agg (hP f fa p a x (w5 0 ⟨none,0,0⟩ ⟨none,0,0⟩ ⟨none,0,0⟩ ⟨none,0,0⟩ ⟨none,0,0⟩)).toArray) rfl rfl aM ?_;refine fJ (cs2:=hP f fa p a x (w5 0 ⟨none,0,0⟩ ⟨none,0,0⟩ ⟨none,0,0⟩ ⟨none,0,0⟩ ⟨none,0,0⟩)) (by kernel_rfl) ?_
   refine xV (aU (v:= .bool _) (q0 rfl)) rfl rfl ?_
   refine XN ?_
   refine ad ?_
   refine dq ?_
   refine cw ?_
   exact lR rfl (xx 1 (cs:=hP f fa p a x (w5 0 ⟨none,0,0⟩ ⟨none,0,0⟩ ⟨none,0,0⟩ ⟨none,0,0⟩ ⟨none,0,0⟩)) rfl rfl rfl cP aM rfl rfl) λw' hw=>⟨⟨(⟨(w5 0 ⟨none,0,0⟩ ⟨none,0,0⟩ ⟨none,0,0⟩ ⟨none,0,0⟩ ⟨none,0,0⟩),false,[],[]⟩,[]),λh=>by cases h⟩,rfl,Mem.jK (T:=[]) (ik.2 hw.1)⟩
  simp at h1
 refine R0 ?_
 refine xV (az bh rfl cN rfl (q0 rfl)) rfl rfl ?_
 refine xV (az dI rfl ae rfl (q0 rfl)) rfl rfl ?_
 refine xV (eL aj (q0 rfl)) rfl rfl ?_
 refine oD (en Ub (iQ (q0 rfl))) (λw _=>I8 f.bH hdv.1 hdv.2 w) rfl (λ_=>rfl) λr=>?_
 obtain ⟨r,m⟩:=r
 refine xV (ay (q0 rfl)) rfl rfl ?_
 refine xV (iW (q0 rfl) rfl) rfl rfl ?_
 refine xV (iW (q0 rfl) rfl) rfl rfl ?_
 refine xV (aU (v:= .pointer _) (q0 rfl)) rfl rfl ?_
 refine xV (aU (v:= .int _ _) (q0 rfl)) rfl rfl ?_
 refine XN ?_
 refine ad ?_
 refine ak ?_
 refine ak ?_
 refine R0 ?_
 refine xV (ay (v:= .pointer _) (q0 rfl)) rfl rfl ?_
 refine xV (ti qK (q0 rfl)) rfl rfl ?_
 refine xV (ay (v:= .bool _) (q0 rfl)) rfl rfl ?_
 refine fE (ay (v:= .int _ _) (q0 rfl)) rfl rfl rfl rfl ?_
 refine fE (ki (q1 rfl) (q0 rfl)) rfl rfl rfl rfl ?_
 refine xV (jJ (q0 rfl) rfl (λh=>by first|rfl|(rw [h];rfl))) rfl rfl ?_
 refine XN ?_
 refine ad ?_
 refine bD rfl (λh1=>?_) (λh1=>?_)
 ·simp at h1
 refine bZ ?_
 refine ad ?_
 refine ak ?_
 refine ak ?_
 refine R0 ?_
 refine xV (aU (v:= .int _ _) (q0 rfl)) rfl rfl ?_
 refine XN ?_
 refine ad ?_
 refine cq ?_
 refine ef [11,12,13,38,39,40,41,42,43,44,45,46,47,48,49,50,51,52,53,54,55,56,57,58,59,60,61,62,63] (λq:Nat×Option Addr×Nat=>[(11, .int .i64 q.1)]) (λq=>N6 r m f.bH (jA f.bH [] (cX.take q.1))++[gY q.2.1 q.2.2 (iR f.bH (cX.take q.1)),box b8 56 (hP f fa p a x (w5 0 ⟨q.2.1,(iR f.bH (cX.take q.1)).length,q.2.2⟩ ⟨none,0,0⟩ ⟨none,0,0⟩ ⟨none,0,0⟩ ⟨none,0,0⟩)),box b6 56 Od,box b3 42 (La f fa p a x)]) (λq=>q.1<=n) (λq=>n -q.1) (0,none,0) ⟨rfl,trivial⟩ (λw hw=>by
  show Mem _ (N6 r m f.bH (jA f.bH [] (cX.take 0))++[gY none 0 (iR f.bH (cX.take 0)),_,_,_]) w
  rw [uu,JB]
  exact (hw.fY 131 9 Ev.cells (c:=0) rfl).pick [1,2,0,3,4,5] (by decide)) rfl (bj _) ?_
 rintro ⟨i,A2,c2⟩ g hi
 have hi:i<=n:=hi
 refine ak ?_
 refine ak ?_
 refine R0 ?_
 refine xV (ay (v:= .int _ _) (q0 rfl)) rfl rfl ?_
 refine xV (ay (v:= .slice _ _ _) (q0 rfl)) rfl rfl ?_
 refine xV (dw cY (q0 rfl)) rfl rfl ?_
 refine xV (gK (q0 rfl) (q0 rfl)) rfl rfl ?_
 refine XN ?_
 refine ad ?_
 refine bD rfl (λhlt=>?_) (λhlt=>?_)
 ·have hlt':i<n:=by simpa using hlt
  obtain ⟨eb,eo,e,rfl,heb,hek,hre⟩:=hev.at_ hlt'
  have hsn:jA f.bH [] (cX.take (i+1))=(kW f.bH (jA f.bH [] (cX.take i)) e).1:=by rw [dY cX i e hek,tZ]
  have hsa:iR f.bH (cX.take (i+1))=if (kW f.bH (jA f.bH [] (cX.take i)) e).2.2=0 then (iR f.bH (cX.take i))++[e] else (iR f.bH (cX.take i)):=by rw [dY cX i e hek,zv]
  have hal:((iR f.bH (cX.take i))).length<=30:=by
   have h3:=(vd f.bH (cX.take i)).length_le
   rw [dG] at h3
   omega
  refine bZ ?_
  refine ad ?_
  refine ak ?_
  refine cq ?_
  refine ak ?_
  refine R0 ?_
  refine xV (ay (v:= .pointer _) (q0 rfl)) rfl rfl ?_
  refine xV (ay (v:= .slice _ _ _) (q0 rfl)) rfl rfl ?_
  refine xV (ay (v:= .int _ _) (q0 rfl)) rfl rfl ?_
  refine xV (cx _ cY cU (q0 rfl) (q0 rfl) (λ_=>⟨rfl,by omega⟩)) rfl rfl ?_
  refine xV (eS mR cU (q0 rfl)) rfl rfl ?_
  refine cQ (dD (en Tryz.call47 (jn (q0 rfl) (q0 rfl))) (λw hw=>wG e rfl hw) rfl (λ_=>rfl) λ_u=>?_)
  refine xV (ay (q0 rfl)) rfl rfl ?_
  refine xV (iW (q0 rfl) rfl) rfl rfl ?_
  refine xV (iW (q0 rfl) rfl) rfl rfl ?_
  refine xV (aU (v:= .bool _) (q0 rfl)) rfl rfl ?_
  refine xV (aU (v:= .int _ _) (q0 rfl)) rfl rfl ?_
  refine XN ?_
  refine ad ?_
  refine ak ?_
  refine R0 ?_
  refine xV (ay (v:= .int _ _) (q0 rfl)) rfl rfl ?_
  refine xV (jE (q0 rfl) (q0 rfl)) rfl rfl ?_
  refine XN ?_
  refine ad ?_
  refine bD rfl (λh2=>?_) (λh2=>?_)
  ·have h2':(kW f.bH (jA f.bH [] (cX.take i)) e).2.2=0:=by simpa using h2
   rw [aB h2'] at hsa
   obtain ⟨ac,hac⟩: ∃ac,ac=(iR f.bH (cX.take i)):=⟨_,rfl⟩
   rw [<-hac] at hsa hal|-
   refine jb (L':=[gY A2 c2 ac,box b8 56 (hP f fa p a x (w5 0 ⟨A2,ac.length,c2⟩ ⟨none,0,0⟩ ⟨none,0,0⟩ ⟨none,0,0⟩ ⟨none,0,0⟩)),box r 219 [.int .i64 f.bH, .map (some m)],mT m (Ec (kW f.bH (jA f.bH [] (cX.take i)) e).1),box b6 56 Od,box b3 42 (La f fa p a x)]) (λw hw=>hw.pick [2,3,0,1,4,5] (by decide)) rfl ?_
   refine ke [55,56,57,58,59,60,61,62,63] (λ_:Option Addr×Nat=>[]) (λq=>[gY q.1 q.2 (ac++[e]),box b8 56 (hP f fa p a x (w5 0 ⟨q.1,(ac++[e]).length,q.2⟩ ⟨none,0,0⟩ ⟨none,0,0⟩ ⟨none,0,0⟩ ⟨none,0,0⟩)),box r 219 [.int .i64 f.bH, .map (some m)],mT m (Ec (kW f.bH (jA f.bH [] (cX.take i)) e).1),box b6 56 Od,box b3 42 (La f fa p a x)]) (λ_=>True) ?_ ?_
   ·refine Lj 2 rfl (by decide+kernel) ?_
    refine aV 0 (by decide+kernel) rfl (az ax rfl iN rfl (q0 rfl)) rfl ?_
    refine aV 2 (by decide+kernel) rfl (ay (v:= .slice _ _ _) (q0 rfl)) rfl ?_
    refine aV 3 (by decide+kernel) rfl (ay (v:= .int _ _) (q0 rfl)) rfl ?_
    refine aV 4 (by decide+kernel) rfl (cx _ cY cU (q0 rfl) (q0 rfl) (λ_=>⟨rfl,by omega⟩)) rfl ?_
    refine aV 5 (by decide+kernel) rfl (eS mR cU (q0 rfl)) rfl ?_
    refine lS (i:=1) (j:=6) (by decide+kernel) (au 2) ?_ ?_
    ·refine aL rfl (kA (gB (v:= .slice A2 ac.length c2) qo (q0 rfl) (by first|exact bx 1 rfl rfl|exact bx 2 rfl rfl)) rfl rfl ?_)
     refine eu (i:=6) (by decide+kernel) (au 2) ?_
     refine aL rfl (ey [(.int .i64 0),(.int .i64 0),(.int .i64 0),(.int .i64 0),(.int .i64 0),(.int .i64 0),(.int .i64 0),(.int .i64 0),(.int .i64 0)] cY cU dt rfl (by kernel_rfl) (pt (v:= .agg _) rfl E.p0) rfl rfl λb61=>?_)
     refine eu (i:=7) (by decide+kernel) (au 3) ?_
     refine aL rfl (dj (k:=9) (i:=Tryz.t131) (enc:=Ev.cells) (xs:=ac) 1 cY (by kernel_rfl) rfl rfl rfl rfl (λ_=>rfl) (λ_=>rfl) rfl rfl rfl (λw hw=>fj (enc:=Ev.cells) (xs:=[e]) hw (j:=0) rfl (λ_=>rfl) (by simp)) ⟨by simp;omega,by decide⟩ rfl λA4 c4=>?_)
     refine aV 8 (by decide+kernel) rfl (az ax rfl iN rfl (q0 rfl)) rfl ?_
     refine eu (i:=9) (by decide+kernel) (au 3) ?_
     refine aL rfl (mB (v:= .slice _ _ _) rfl rfl iN ?_)
     refine aZ (by decide+kernel) (au 3) ?_
     exact aO (A4,c4) (by repeat (first|exact aK|exact aN|refine a8 rfl ?_|refine aJ rfl ?_|refine aD rfl ?_)) trivial (λw hw=>hw.tail) rfl trivial
    refine aL rfl (ey [(.int .i64 0),(.int .i64 0),(.int .i64 0),(.int .i64 0),(.int .i64 0),(.int .i64 0),(.int .i64 0),(.int .i64 0),(.int .i64 0)] cY cU dt rfl (by kernel_rfl) (pt (v:= .agg _) rfl E.p0) rfl rfl λb61=>?_)
    refine eu (i:=1) (by decide+kernel) (au 3) ?_
    refine aL rfl (kA (gB (v:= .slice A2 ac.length c2) qo (q0 rfl) (by first|exact bx 1 rfl rfl|exact bx 2 rfl rfl)) rfl rfl ?_)
    refine eu (i:=7) (by decide+kernel) (au 3) ?_
    refine aL rfl (dj (k:=9) (i:=Tryz.t131) (enc:=Ev.cells) (xs:=ac) 1 cY (by kernel_rfl) rfl rfl rfl rfl (λ_=>rfl) (λ_=>rfl) rfl rfl rfl (λw hw=>fj (enc:=Ev.cells) (xs:=[e]) hw (j:=0) rfl (λ_=>rfl) (by simp)) ⟨by simp;omega,by decide⟩ rfl λA4 c4=>?_)
    refine aV 8 (by decide+kernel) rfl (az ax rfl iN rfl (q0 rfl)) rfl ?_
    refine eu (i:=9) (by decide+kernel) (au 3) ?_
    refine aL rfl (mB (v:= .slice _ _ _) rfl rfl iN ?_)
    refine aZ (by decide+kernel) (au 3) ?_
    exact aO (A4,c4) (by repeat (first|exact aK|exact aN|refine a8 rfl ?_|refine aJ rfl ?_|refine aD rfl ?_)) trivial (λw hw=>hw.tail) rfl trivial
   rintro ⟨A4,c4⟩ g2 _
   refine bc ?_
   refine ad ?_
   refine R0 ?_
   refine xV (ay (v:= .int _ _) (q0 rfl)) rfl rfl ?_
   refine xV (eT (q0 rfl) (q0 rfl) (λ_=>⟨rfl,by omega,by omega⟩)) rfl rfl ?_
   refine xV (aU (v:= .int _ _) (q0 rfl)) rfl rfl ?_
   refine XN ?_
   exact aH (i+1,A4,c4) (by repeat (first|exact aK|exact aN|refine a8 rfl ?_|refine aJ rfl ?_|refine aD rfl ?_)) ⟨rfl,trivial⟩ (λw hw=>by
    show Mem _ (N6 r m f.bH (jA f.bH [] (cX.take (i+1)))++[gY A4 c4 (iR f.bH (cX.take (i+1))),box b8 56 (hP f fa p a x (w5 0 ⟨A4,(iR f.bH (cX.take (i+1))).length,c4⟩ ⟨none,0,0⟩ ⟨none,0,0⟩ ⟨none,0,0⟩ ⟨none,0,0⟩)),_,_]) w
    rw [hsn,hsa]
    exact hw.pick [2,3,0,1,4,5] (by decide)) rfl hlt' (by show n -(i+1)<n -i;omega)
  have h2': ¬(kW f.bH (jA f.bH [] (cX.take i)) e).2.2=0:=by simpa using h2
  rw [an h2'] at hsa
  refine bZ ?_
  refine bc ?_
  refine ad ?_
  refine R0 ?_
  refine xV (ay (v:= .int _ _) (q0 rfl)) rfl rfl ?_
  refine xV (eT (q0 rfl) (q0 rfl) (λ_=>⟨rfl,by omega,by omega⟩)) rfl rfl ?_
  refine xV (aU (v:= .int _ _) (q0 rfl)) rfl rfl ?_
  refine XN ?_
  exact aH (i+1,A2,c2) (by repeat (first|exact aK|exact aN|refine a8 rfl ?_|refine aJ rfl ?_|refine aD rfl ?_)) ⟨rfl,trivial⟩ (λw hw=>by
   show Mem _ (N6 r m f.bH (jA f.bH [] (cX.take (i+1)))++[gY A2 c2 (iR f.bH (cX.take (i+1))),box b8 56 (hP f fa p a x (w5 0 ⟨A2,(iR f.bH (cX.take (i+1))).length,c2⟩ ⟨none,0,0⟩ ⟨none,0,0⟩ ⟨none,0,0⟩ ⟨none,0,0⟩)),_,_]) w
   rw [hsn,hsa]
   exact hw) rfl hlt' (by show n -(i+1)<n -i;omega)
 have hie:i=n:=by simp at hlt;omega
 rw [hie,bo (by omega)]
 have hal2:=zm f.bH cX []
 have hpa:zz (iR f.bH cX):=λe he=>hpl e ((vd f.bH cX).subset he)
 have hla:(iR f.bH cX).length<=30:=by
  have:=(vd f.bH cX).length_le
  omega
 obtain ⟨aa,haa⟩: ∃a,a=iR f.bH cX:=⟨_,rfl⟩
 rw [<-haa] at hpa hla|-
 refine fz ?_
 refine cJ ?_
 refine cM ?_
 refine cK ?_
 refine ad ?_
 refine ak ?_
 refine R0 ?_
 refine xV (ay (v:= .int _ _) (q0 rfl)) rfl rfl ?_
 refine xV (ay (v:= .pointer _) (q0 rfl)) rfl rfl ?_
 refine xC (en Tryz.call48 (iQ (q0 rfl))) (λ_ w hw=>MV w (hw.item (k:=0) rfl) (hw.item (k:=1) rfl) hdv (by simp only [dO] at hal2;omega)) rfl rfl ?_
 refine xV (Nd (q0 rfl) (q0 rfl)) rfl rfl ?_
 refine xV (az ax rfl ae rfl (q0 rfl)) rfl rfl ?_
 refine dN (v:= .int _ _) rfl rfl ae ?_
 refine XN ?_
 refine ad ?_
 refine ak ?_
 refine ak ?_
 refine R0 ?_
 refine xV (aU (v:= .int _ _) (q0 rfl)) rfl rfl ?_
 refine XN ?_
 refine ad ?_
 refine cq ?_
 obtain ⟨hz,hhz⟩: ∃h,h=KD f settled cX:=⟨_,rfl⟩
 refine ef [7,14,15,16,69,70,71,72,73,74,75,76,77,78,79,80,81,82,83,84,85,86,87,88,89,90,91,92] (λq:Nat×Option Addr×Nat=>[(14, .int .i64 q.1)]) (λq=>[iE q.2.1 q.2.2 (rP f aa q.1),gY A2 c2 aa,box b8 56 (hP f fa p a x (w5 hz ⟨A2,aa.length,c2⟩ ⟨q.2.1,(rP f aa q.1).length,q.2.2⟩ ⟨none,0,0⟩ ⟨none,0,0⟩ ⟨none,0,0⟩)),box b6 56 Od,box b3 42 (La f fa p a x)]) (λq=>q.1<=f.cv.toNat) (λq=>f.cv.toNat -q.1) (0,none,0) ⟨rfl,trivial⟩ (λw hw=>by
  rw [hhz]
  exact (hw.fY 98 6 gy.cells (c:=0) rfl).pick [0,3,4,5,6] (by decide)) rfl (bj _) ?_
 rintro ⟨j,A5,c5⟩ g2 hj
 have hj:j<=f.cv.toNat:=hj
 have hlj:=DY f aa hla j
 refine ak ?_
 refine ak ?_
 refine R0 ?_
 refine xV (ay (v:= .int _ _) (q0 rfl)) rfl rfl ?_
 refine xV (az bh rfl cN rfl (q0 rfl)) rfl rfl ?_
 refine xV (az dI rfl ae rfl (q0 rfl)) rfl rfl ?_
 refine xV (eL aj (q0 rfl)) rfl rfl ?_
 refine xV (gK (q0 rfl) (q0 rfl)) rfl rfl ?_
 refine XN ?_
 refine ad ?_
 refine bD rfl (λhlt2=>?_) (λhlt2=>?_)
 ·have hj2:(j:Int)<f.cv:=by simpa using hlt2
  have hss:rP f aa (j+1)=rP f aa j++fP f aa j:=by unfold rP;rw [kj]
  have hls:=zL f aa j
  refine bZ ?_
  refine ad ?_
  refine ak ?_
  refine cq ?_
  refine ak ?_
  refine R0 ?_
  refine xV (az bh rfl cN rfl (q0 rfl)) rfl rfl ?_
  refine xV (eP iB cN (q0 rfl)) rfl rfl ?_
  refine xV (az ax rfl iN rfl (q0 rfl)) rfl rfl ?_
  refine xV (eL qo (q0 rfl)) rfl rfl ?_
  refine xV (ay (v:= .int _ _) (q0 rfl)) rfl rfl ?_
  refine oD (en Tryz.call49 (nS (q0 rfl) (q0 rfl) (q0 rfl))) (λw hw=>IE f fa A2 aa.length c2 aa j w (hf.mem hw) (fB hw (j:=1) rfl (λ_=>rfl) (by omega)) (by omega) hpa) rfl (λ_=>rfl) λsy=>?_
  refine xV (ay (q0 rfl)) rfl rfl ?_
  refine xV (iW (q0 rfl) rfl) rfl rfl ?_
  refine xV (iW (q0 rfl) rfl) rfl rfl ?_
  refine xV (aU (v:= .slice _ _ _) (q0 rfl)) rfl rfl ?_
  refine xV (aU (v:= .int _ _) (q0 rfl)) rfl rfl ?_
  refine XN ?_
  refine ad ?_
  refine ak ?_
  refine ak ?_
  refine R0 ?_
  refine xV (ay (v:= .int _ _) (q0 rfl)) rfl rfl ?_
  refine xV (ki (q0 rfl) (q0 rfl)) rfl rfl ?_
  refine XN ?_
  refine ad ?_
  refine bD rfl (λh3=>?_) (λh3=>?_)
  ·refine ak ?_
   refine R0 ?_
   refine xV (eS cP aM (q0 rfl)) rfl rfl ?_
   refine dN (k:=4) (v:= .agg (hP f fa p a x (w5 hz ⟨A2,aa.length,c2⟩ ⟨A5,(rP f aa j).length,c5⟩ ⟨none,0,0⟩ ⟨none,0,0⟩ ⟨none,0,0⟩)).toArray) rfl rfl aM ?_;refine fJ (cs2:=hP f fa p a x (w5 hz ⟨A2,aa.length,c2⟩ ⟨A5,(rP f aa j).length,c5⟩ ⟨none,0,0⟩ ⟨none,0,0⟩ ⟨none,0,0⟩)) (by kernel_rfl) ?_
   refine xV (aU (v:= .bool _) (q0 rfl)) rfl rfl ?_
   refine XN ?_
   refine ad ?_
   refine dq ?_
   refine cw ?_
   refine dU ?_
   refine cw ?_
   refine iJ ?_
   refine dU ?_
   refine cw ?_
   exact lR rfl (xx 4 (cs:=hP f fa p a x (w5 hz ⟨A2,aa.length,c2⟩ ⟨A5,(rP f aa j).length,c5⟩ ⟨none,0,0⟩ ⟨none,0,0⟩ ⟨none,0,0⟩)) rfl rfl rfl cP aM rfl rfl) λw' hw=>⟨⟨(⟨w5 hz ⟨A2,aa.length,c2⟩ ⟨A5,(rP f aa j).length,c5⟩ ⟨none,0,0⟩ ⟨none,0,0⟩ ⟨none,0,0⟩,false,[],[]⟩,[]),λh=>by cases h⟩,rfl,Mem.jK (T:=[]) (ik.2 hw.1)⟩
  have h3':kJ f j=0:=by simpa using h3
  have hok:fy f=0:=by
   unfold kJ at h3'
   split at h3'
   ·rename_i h4;exact absurd h3' h4
   rename_i h4;exact gU h4
  have hb:=kq hok
  refine bZ ?_
  refine ad ?_
  refine R0 ?_
  refine xV (az ax rfl eV rfl (q0 rfl)) rfl rfl ?_
  refine xV (eL gE (q0 rfl)) rfl rfl ?_
  refine xV (ay (v:= .slice _ _ _) (q0 rfl)) rfl rfl ?_
  refine lI (dj (k:=6) (i:=Tryz.t98) (enc:=gy.cells) (xs:=rP f aa j) 1 bI (by kernel_rfl) rfl rfl rfl rfl (λ_=>rfl) (λ_=>rfl) rfl rfl rfl (λw hw=>fB hw (j:=0) rfl (λ_=>rfl) (by omega)) ⟨by omega,by decide⟩ rfl λA6 c6=>?_)
  refine xV (az ax rfl eV rfl (q0 rfl)) rfl rfl ?_
  refine dN (v:= .slice _ _ _) rfl rfl eV ?_
  refine XN ?_
  refine bc ?_
  refine ad ?_
  refine R0 ?_
  refine xV (ay (v:= .int _ _) (q0 rfl)) rfl rfl ?_
  refine xV (eT (q0 rfl) (q0 rfl) (λ_=>⟨rfl,by omega,by omega⟩)) rfl rfl ?_
  refine xV (aU (v:= .int _ _) (q0 rfl)) rfl rfl ?_
  refine XN ?_
  exact aH (j+1,A6,c6) (by repeat (first|exact aK|exact aN|refine a8 rfl ?_|refine aJ rfl ?_|refine aD rfl ?_)) ⟨rfl,trivial⟩ (λw hw=>by
   show Mem _ [iE A6 c6 (rP f aa (j+1)),gY A2 c2 aa,box b8 56 (hP f fa p a x (w5 hz ⟨A2,aa.length,c2⟩ ⟨A6,(rP f aa (j+1)).length,c6⟩ ⟨none,0,0⟩ ⟨none,0,0⟩ ⟨none,0,0⟩)),_,_] w
   rw [hss]
   exact hw.pick [1,2,3,4,5] (by decide)) rfl (by show j+1<=_;omega) (by show f.cv.toNat -(j+1)<f.cv.toNat -j;omega)
 have hje:j=f.cv.toNat:=by
  have h3: ¬(j:Int)<f.cv:=by simpa using hlt2
  omega
 rw [hje]
 obtain ⟨sx,hsx⟩: ∃s,s=rP f aa f.cv.toNat:=⟨_,rfl⟩
 rw [<-hsx]
 have hsh:=Q4 f aa (by omega)
 have hall:2*(dP f aa).length<=aa.length:=vI aa
 refine fz ?_
 refine cJ ?_
 refine cM ?_
 refine cK ?_
 refine ad ?_
 refine ak ?_
 refine R0 ?_
 refine xV (az bh rfl cN rfl (q0 rfl)) rfl rfl ?_
 refine xV (eP iB cN (q0 rfl)) rfl rfl ?_
 refine xV (az ax rfl iN rfl (q0 rfl)) rfl rfl ?_
 refine xV (eL qo (q0 rfl)) rfl rfl ?_
 refine oD (en Tryz.call50 (jn (q0 rfl) (q0 rfl))) (λw hw=>Rid.Aj f fa A2 aa.length c2 aa w (hf.mem hw) (fB hw (j:=1) rfl (λ_=>rfl) (by omega)) (by omega) hpa (Ov f aa (by omega))) rfl (λ_=>rfl) λrd1=>?_
 have hrm:rd1.1.2.2.map (·.r)=dP f aa:=rd1.2
 have hrs:GY rd1.1.2.2:=λy hy=>(hsh y.r (by rw [<-hrm];exact jX hy)).1
 have hrn:rd1.1.2.2.length<=100000:=by
  have:=aP List.length hrm
  rw [aS] at this
  omega
 have hy: ∀y:NR ((rd1.1.2.2.map (·.r)).filter (dF hz)),y.1.2.2.length<=100000/\ ∀q∈y.1.2.2,(q.r.db.length<=100000/\q.r.bV.length<=100000)/\q.r.pl<=9223372036854775807:=λy=>by
  have e:y.1.2.2.map (·.r)=(rd1.1.2.2.map (·.r)).filter (dF hz):=y.2
  refine ⟨?_,λq hq=>?_⟩
  ·have h3:=aP List.length e
   have h4:=dK (dF hz) (rd1.1.2.2.map (·.r))
   rw [aS] at h3 h4
   omega
  have h3:q.r∈(rd1.1.2.2.map (·.r)).filter (dF hz):=by rw [<-e];exact jX hq
  rw [hrm] at h3
  exact hsh q.r (gO.1 h3).1
 refine xV (ay (q0 rfl)) rfl rfl ?_
 refine xV (iW (q0 rfl) rfl) rfl rfl ?_
 refine xV (iW (q0 rfl) rfl) rfl rfl ?_
 refine xV (aU (v:= .slice _ _ _) (q0 rfl)) rfl rfl ?_
 refine xV (aU (v:= .int _ _) (q0 rfl)) rfl rfl ?_
 refine XN ?_
 refine ad ?_
 refine ak ?_
 refine RA rfl (by decide+kernel) ?_
 refine aV 0 (by decide+kernel) rfl (az bh rfl cN rfl (q0 rfl)) rfl ?_
 refine aV 1 (by decide+kernel) rfl (eP iB cN (q0 rfl)) rfl ?_
 refine aV 2 (by decide+kernel) rfl (az bh rfl eN rfl (q0 rfl)) rfl ?_
 refine aV 3 (by decide+kernel) rfl (eP jM eN (q0 rfl)) rfl ?_
 refine aV 4 (by decide+kernel) rfl (ay (v:= .slice _ _ _) (q0 rfl)) rfl ?_
 refine aV 5 (by decide+kernel) rfl (az ax rfl ae rfl (q0 rfl)) rfl ?_
 refine aV 6 (by decide+kernel) rfl (eL aj (q0 rfl)) rfl ?_
 refine eu (i:=7) (by decide+kernel) (au 0) ?_
 refine aL rfl (il (en DD (jn (q0 rfl) (q0 rfl))) (λw hw=>Rid.xO rd1.1.1 rd1.1.2.2.length rd1.1.2.1 rd1.1.2.2 hz w (IP rd1 hw 0 1 rfl rfl (by omega) λr hr=>(hsh r hr).1) hrs hrn) rfl (λ_=>rfl) λy1=>?_)
 refine eu (i:=8) (by decide+kernel) (au 2) ?_
 refine aL rfl (il (en Tryz.call51 (Gf (q0 rfl) (q0 rfl) (q0 rfl) (q0 rfl))) (λw hw=>Far.Aj f fa p a y1.1.1 y1.1.2.2.length y1.1.2.1 y1.1.2.2 none 0 0 [] w (hf.mem hw) (hp.mem hw) (yH hw (j:=0) (k:=1) rfl rfl (by have:=(hy y1).1;omega) λy h=>((hy y1).2 y h).1) (λy h=>((hy y1).2 y h).1) ⟨rfl,by decide,λh=>absurd h (by decide)⟩ (λy h=>((hy y1).2 y h).2)) rfl (λ_=>rfl) λfr=>?_)
 refine w7 (au 4) ?_
 refine aV 9 (by decide+kernel) rfl (ay (q0 rfl)) rfl ?_
 refine aV 10 (by decide+kernel) rfl (iW (q0 rfl) rfl) rfl ?_
 refine aV 11 (by decide+kernel) rfl (iW (q0 rfl) rfl) rfl ?_
 refine aV 12 (by decide+kernel) rfl (aU (v:= .slice _ _ _) (q0 rfl)) rfl ?_
 refine aV 13 (by decide+kernel) rfl (aU (v:= .int _ _) (q0 rfl)) rfl ?_
 refine aZ (by decide+kernel) (au 0) ?_
 refine ad ?_
 refine ak ?_
 refine ak ?_
 refine R0 ?_
 refine xV (ay (v:= .int _ _) (q0 rfl)) rfl rfl ?_
 refine xV (ki (q0 rfl) (q0 rfl)) rfl rfl ?_
 refine xV (ay (v:= .bool _) (q0 rfl)) rfl rfl ?_
 refine fE (ay (v:= .int _ _) (q0 rfl)) rfl rfl rfl rfl ?_
 refine fE (ki (q1 rfl) (q0 rfl)) rfl rfl rfl rfl ?_
 refine xV (jJ (q0 rfl) rfl (λh=>by first|rfl|(rw [h];rfl))) rfl rfl ?_
 refine XN ?_
 refine ad ?_
 refine bD rfl (λh5=>?_) (λh5=>?_)
 ·refine ak ?_
  refine R0 ?_
  refine xV (eS cP aM (q0 rfl)) rfl rfl ?_
  refine dN (k:=9) (v:= .agg (hP f fa p a x (w5 hz ⟨A2,aa.length,c2⟩ ⟨A5,sx.length,c5⟩ ⟨none,0,0⟩ ⟨none,0,0⟩ ⟨none,0,0⟩)).toArray) rfl rfl aM ?_;refine fJ (cs2:=hP f fa p a x (w5 hz ⟨A2,aa.length,c2⟩ ⟨A5,sx.length,c5⟩ ⟨none,0,0⟩ ⟨none,0,0⟩ ⟨none,0,0⟩)) (by kernel_rfl) ?_
  refine xV (aU (v:= .bool _) (q0 rfl)) rfl rfl ?_
  refine XN ?_
  refine ad ?_
  refine dq ?_
  refine cw ?_
  exact lR rfl (xx 9 (cs:=hP f fa p a x (w5 hz ⟨A2,aa.length,c2⟩ ⟨A5,sx.length,c5⟩ ⟨none,0,0⟩ ⟨none,0,0⟩ ⟨none,0,0⟩)) rfl rfl rfl cP aM rfl rfl) λw' hw=>⟨⟨(⟨(w5 hz ⟨A2,aa.length,c2⟩ ⟨A5,sx.length,c5⟩ ⟨none,0,0⟩ ⟨none,0,0⟩ ⟨none,0,0⟩),false,[],[]⟩,[]),λh=>by cases h⟩,rfl,Mem.jK (T:=[]) (ik.2 hw.1)⟩
 have h5':fy f=0/\jw f p (y1.1.2.2.map (·.r)) []=0:=by simpa using h5
 obtain ⟨⟨B1,d1,x1⟩,hq1⟩:=y1
 obtain ⟨⟨zs,zA,zc⟩,hq2⟩:=fr
 simp only at h5' hq1 hq2
 have hq3:x1.map (·.r)=(dP f aa).filter (dF hz):=by rw [<-hrm];exact hq1
 have hzl:zs.length<=100000:=by
  have e1:=aP List.length hq2
  have e2:=(vJ h5'.2).length_eq
  have e3:=dK (λr:Rd=>!r.open_) (x1.map (·.r))
  have e4:=dK (dF hz) (dP f aa)
  have e5:=aP List.length hq3
  simp only [aS] at e1 e2 e3 e5
  omega
 have hzi: ∀y∈zs,y.b.items.length<=9223372036854775807:=λy h=>by
  have:=Cz h5'.2 y.b (by rw [<-hq2];exact jX h)
  omega
 refine bZ ?_
 refine ad ?_
 refine ak ?_
 refine R0 ?_
 refine xV (ay (v:= .slice _ _ _) (q0 rfl)) rfl rfl ?_
 refine xV (az ax rfl di rfl (q0 rfl)) rfl rfl ?_
 refine dN (v:= .slice _ _ _) rfl rfl di ?_
 refine XN ?_
 refine ad ?_
 refine ak ?_
 refine R0 ?_
 refine xV (ay (v:= .slice _ _ _) (q0 rfl)) rfl rfl ?_
 refine xV (az ax rfl eM rfl (q0 rfl)) rfl rfl ?_
 refine dN (v:= .slice _ _ _) rfl rfl eM ?_
 refine XN ?_
 refine ad ?_
 refine ak ?_
 refine ak ?_
 refine R0 ?_
 refine xV (aU (v:= .int _ _) (q0 rfl)) rfl rfl ?_
 refine XN ?_
 refine ad ?_
 refine cq ?_
 refine ef [21,124,125,126,127,128,129,130,131,132,133,134,135,136,137,138,139,140,141,142,143,144,145,146,147,148,149,150,151,152] (λq:Nat×Option Addr×Nat=>[(21, .int .i64 q.1)]) (λq=>[mP q.2.1 q.2.2 ((zs.take q.1).map λy=>rU y.b),box b8 56 (hP f fa p a x (w5 hz ⟨A2,aa.length,c2⟩ ⟨A5,sx.length,c5⟩ ⟨rd1.1.1,rd1.1.2.2.length,rd1.1.2.1⟩ ⟨zA,zs.length,zc⟩ ⟨q.2.1,((zs.take q.1).map λy=>rU y.b).length,q.2.2⟩)),kE zA zc zs,jK (zs.flatMap jD),eI B1 d1 x1,kc x1,eI rd1.1.1 rd1.1.2.1 rd1.1.2.2,kc rd1.1.2.2,iE A5 c5 sx,gY A2 c2 aa,box b6 56 Od,box b3 42 (La f fa p a x)]) (λq=>q.1<=zs.length) (λq=>zs.length -q.1) (0,none,0) ⟨rfl,trivial⟩ (λw hw=>(hw.fY 96 3 rT (c:=0) rfl).pick [0,9,1,2,3,4,5,6,7,8,10,11] (by decide)) rfl (bj _) ?_
 rintro ⟨k,A6,c6⟩ g3 hk
 have hk:k<=zs.length:=hk
 refine ak ?_
 refine ak ?_
 refine R0 ?_
 refine xV (ay (v:= .int _ _) (q0 rfl)) rfl rfl ?_
 refine xV (ay (v:= .slice _ _ _) (q0 rfl)) rfl rfl ?_
 refine xV (dw cj (q0 rfl)) rfl rfl ?_
 refine xV (gK (q0 rfl) (q0 rfl)) rfl rfl ?_
 refine XN ?_
 refine ad ?_
 refine bD rfl (λhlt3=>?_) (λhlt3=>?_)
 ·have hlt4:k<zs.length:=by simpa using hlt3
  obtain ⟨y,hyk⟩: ∃y,zs[k]?=some y:=⟨_,ah hlt4⟩
  have hst:(zs.take (k+1)).map (λy=>rU y.b)=(zs.take k).map (λy=>rU y.b)++[rU y.b]:=by rw [dY zs k y hyk,eY];rfl
  have hll:((zs.take k).map λy=>rU y.b).length<=100000:=by rw [aS,dG];omega
  obtain ⟨ls,hls⟩: ∃l,l=(zs.take k).map λy=>rU y.b:=⟨_,rfl⟩
  rw [<-hls] at hst hll|-
  refine gM (λw hw=>fG (j:=2) hw rfl (by omega)) λ⟨zb,hzb⟩=>?_
  subst hzb
  refine bZ ?_
  refine ad ?_
  refine ak ?_
  refine cq ?_
  refine ke [130,131,132,133,134,135,136,137,138,139,140,141,142,143,144,145,146,147,148,149,150,151,152] (λ_:Option Addr×Nat=>[]) (λq=>[mP q.1 q.2 (ls++[rU y.b]),box b8 56 (hP f fa p a x (w5 hz ⟨A2,aa.length,c2⟩ ⟨A5,sx.length,c5⟩ ⟨rd1.1.1,rd1.1.2.2.length,rd1.1.2.1⟩ ⟨some ⟨zb,0,none⟩,zs.length,zc⟩ ⟨q.1,(ls++[rU y.b]).length,q.2⟩)),kE (some ⟨zb,0,none⟩) zc zs,jK (zs.flatMap jD),eI B1 d1 x1,kc x1,eI rd1.1.1 rd1.1.2.1 rd1.1.2.2,kc rd1.1.2.2,iE A5 c5 sx,gY A2 c2 aa,box b6 56 Od,box b3 42 (La f fa p a x)]) (λ_=>True) ?_ ?_
  ·refine Lj 2 rfl (by decide+kernel) ?_
   refine aV 0 (by decide+kernel) rfl (az ax rfl gJ rfl (q0 rfl)) rfl ?_
   refine aV 1 (by decide+kernel) rfl (az dZ rfl eK rfl (q0 rfl)) rfl ?_
   refine aV 3 (by decide+kernel) rfl (ay (v:= .slice _ _ _) (q0 rfl)) rfl ?_
   refine aV 4 (by decide+kernel) rfl (ay (v:= .int _ _) (q0 rfl)) rfl ?_
   refine aV 5 (by decide+kernel) rfl (cx _ cj dx (q0 rfl) (q0 rfl) (λ_=>⟨rfl,by omega⟩)) rfl ?_
   refine aV 6 (by decide+kernel) rfl (az ct rfl ae rfl (q0 rfl)) rfl ?_
   refine aV 7 (by decide+kernel) rfl (eL aj (q0 rfl)) rfl ?_
   refine aV 8 (by decide+kernel) rfl (ay (v:= .slice _ _ _) (q0 rfl)) rfl ?_
   refine aV 9 (by decide+kernel) rfl (ay (v:= .int _ _) (q0 rfl)) rfl ?_
   refine aV 10 (by decide+kernel) rfl (cx _ cj dx (q0 rfl) (q0 rfl) (λ_=>⟨rfl,by omega⟩)) rfl ?_
   refine aV 11 (by decide+kernel) rfl (az ct rfl ae rfl (q0 rfl)) rfl ?_
   refine aV 12 (by decide+kernel) rfl (eL aj (q0 rfl)) rfl ?_
   refine aV 13 (by decide+kernel) rfl (ay (v:= .slice _ _ _) (q0 rfl)) rfl ?_
   refine aV 14 (by decide+kernel) rfl (ay (v:= .int _ _) (q0 rfl)) rfl ?_
   refine aV 15 (by decide+kernel) rfl (cx _ cj dx (q0 rfl) (q0 rfl) (λ_=>⟨rfl,by omega⟩)) rfl ?_
   refine aV 16 (by decide+kernel) rfl (az ct rfl ae rfl (q0 rfl)) rfl ?_
   refine aV 17 (by decide+kernel) rfl (eL aj (q0 rfl)) rfl ?_
   refine aV 18 (by decide+kernel) rfl (bN fO Tp js (pt (v:= .int _ _) rfl (pt (v:= .int _ _) rfl (pt (v:= .int _ _) rfl E.p0))) rfl) rfl ?_
   refine lS (i:=2) (j:=19) (by decide+kernel) (au 2) ?_ ?_
   ·refine aL rfl (kA (gB (v:= .slice A6 ls.length c6) kD (q0 rfl) (by first|exact bx 1 rfl rfl|exact bx 2 rfl rfl)) rfl rfl ?_)
    refine eu (i:=19) (by decide+kernel) (au 2) ?_
    refine aL rfl (ey [(.int .i64 0),(.int .i64 0),(.int .i64 0)] bM eB js rfl (by kernel_rfl) (pt (v:= .agg _) rfl E.p0) rfl rfl λb149=>?_)
    refine eu (i:=20) (by decide+kernel) (au 3) ?_
    refine aL rfl (dj (k:=3) (i:=Tryz.t96) (enc:=rT) (xs:=ls) 1 bM (by kernel_rfl) rfl rfl rfl rfl (λ_=>rfl) (λ_=>rfl) rfl rfl rfl (λw hw=>fj (enc:=rT) (xs:=[rU y.b]) hw (j:=0) rfl (λ_=>rfl) (by simp)) ⟨by simp;omega,by decide⟩ rfl λA7 c7=>?_)
    refine aV 21 (by decide+kernel) rfl (az ax rfl gJ rfl (q0 rfl)) rfl ?_
    refine aV 22 (by decide+kernel) rfl (az dZ rfl eK rfl (q0 rfl)) rfl ?_
    refine eu (i:=23) (by decide+kernel) (au 3) ?_
    refine aL rfl (mB (v:= .slice _ _ _) rfl rfl eK ?_)
    refine aZ (by decide+kernel) (au 3) ?_
    exact aO (A7,c7) (by repeat (first|exact aK|exact aN|refine a8 rfl ?_|refine aJ rfl ?_|refine aD rfl ?_)) trivial (λw hw=>hw.tail) rfl trivial
   refine aL rfl (ey [(.int .i64 0),(.int .i64 0),(.int .i64 0)] bM eB js rfl (by kernel_rfl) (pt (v:= .agg _) rfl E.p0) rfl rfl λb149=>?_)
   refine eu (i:=2) (by decide+kernel) (au 3) ?_
   refine aL rfl (kA (gB (v:= .slice A6 ls.length c6) kD (q0 rfl) (by first|exact bx 1 rfl rfl|exact bx 2 rfl rfl)) rfl rfl ?_)
   refine eu (i:=20) (by decide+kernel) (au 3) ?_
   refine aL rfl (dj (k:=3) (i:=Tryz.t96) (enc:=rT) (xs:=ls) 1 bM (by kernel_rfl) rfl rfl rfl rfl (λ_=>rfl) (λ_=>rfl) rfl rfl rfl (λw hw=>fj (enc:=rT) (xs:=[rU y.b]) hw (j:=0) rfl (λ_=>rfl) (by simp)) ⟨by simp;omega,by decide⟩ rfl λA7 c7=>?_)
   refine aV 21 (by decide+kernel) rfl (az ax rfl gJ rfl (q0 rfl)) rfl ?_
   refine aV 22 (by decide+kernel) rfl (az dZ rfl eK rfl (q0 rfl)) rfl ?_
   refine eu (i:=23) (by decide+kernel) (au 3) ?_
   refine aL rfl (mB (v:= .slice _ _ _) rfl rfl eK ?_)
   refine aZ (by decide+kernel) (au 3) ?_
   exact aO (A7,c7) (by repeat (first|exact aK|exact aN|refine a8 rfl ?_|refine aJ rfl ?_|refine aD rfl ?_)) trivial (λw hw=>hw.tail) rfl trivial
  rintro ⟨A7,c7⟩ g4 _
  refine bc ?_
  refine ad ?_
  refine R0 ?_
  refine xV (ay (v:= .int _ _) (q0 rfl)) rfl rfl ?_
  refine xV (eT (q0 rfl) (q0 rfl) (λ_=>⟨rfl,by omega,by omega⟩)) rfl rfl ?_
  refine xV (aU (v:= .int _ _) (q0 rfl)) rfl rfl ?_
  refine XN ?_
  exact aH (k+1,A7,c7) (by repeat (first|exact aK|exact aN|refine a8 rfl ?_|refine aJ rfl ?_|refine aD rfl ?_)) ⟨rfl,trivial⟩ (λw hw=>by
   show Mem _ [mP A7 c7 ((zs.take (k+1)).map λy=>rU y.b),box b8 56 (hP f fa p a x (w5 hz ⟨A2,aa.length,c2⟩ ⟨A5,sx.length,c5⟩ ⟨rd1.1.1,rd1.1.2.2.length,rd1.1.2.1⟩ ⟨some ⟨zb,0,none⟩,zs.length,zc⟩ ⟨A7,((zs.take (k+1)).map λy=>rU y.b).length,c7⟩)),_,_,_,_,_,_,_,_,_,_] w
   rw [hst]
   exact hw) rfl hlt4 (by show zs.length -(k+1)<zs.length -k;omega)
 have hke:k=zs.length:=by simp at hlt3;omega
 rw [hke,dQ]
 obtain ⟨ls,hls⟩: ∃l,l=zs.map λy=>rU y.b:=⟨_,rfl⟩
 have hll:ls.length=zs.length:=by rw [hls,aS]
 rw [<-hls]
 have hsl:sx.length<=100000:=by
  have h3:=DY f aa hla f.cv.toNat
  have h4:=kq h5'.1
  rw [<-hsx] at h3
  omega
 refine fz ?_
 refine cJ ?_
 refine cM ?_
 refine cK ?_
 refine ad ?_
 refine ak ?_
 refine R0 ?_
 refine xV (eS cP aM (q0 rfl)) rfl rfl ?_
 refine dN (k:=10) (v:= .agg (hP f fa p a x (w5 hz ⟨A2,aa.length,c2⟩ ⟨A5,sx.length,c5⟩ ⟨rd1.1.1,rd1.1.2.2.length,rd1.1.2.1⟩ ⟨zA,zs.length,zc⟩ ⟨A6,ls.length,c6⟩)).toArray) rfl rfl aM ?_;refine fJ (cs2:=hP f fa p a x (w5 hz ⟨A2,aa.length,c2⟩ ⟨A5,sx.length,c5⟩ ⟨rd1.1.1,rd1.1.2.2.length,rd1.1.2.1⟩ ⟨zA,zs.length,zc⟩ ⟨A6,ls.length,c6⟩)) (by kernel_rfl) ?_
 refine xV (aU (v:= .bool _) (q0 rfl)) rfl rfl ?_
 refine XN ?_
 refine ad ?_
 refine dq ?_
 exact lR rfl (xx 10 (cs:=hP f fa p a x (w5 hz ⟨A2,aa.length,c2⟩ ⟨A5,sx.length,c5⟩ ⟨rd1.1.1,rd1.1.2.2.length,rd1.1.2.1⟩ ⟨zA,zs.length,zc⟩ ⟨A6,ls.length,c6⟩)) rfl rfl rfl cP aM rfl rfl) λw' hw=>⟨⟨(⟨w5 hz ⟨A2,aa.length,c2⟩ ⟨A5,sx.length,c5⟩ ⟨rd1.1.1,rd1.1.2.2.length,rd1.1.2.1⟩ ⟨zA,zs.length,zc⟩ ⟨A6,ls.length,c6⟩,true,rd1.1.2.2,zs⟩,[mP A6 c6 ls,kE zA zc zs,jK (zs.flatMap jD),eI rd1.1.1 rd1.1.2.1 rd1.1.2.2,kc rd1.1.2.2,iE A5 c5 sx,gY A2 c2 aa]),λ_=>⟨⟨h5'.1,by rw [<-haa,<-hhz,<-hq3];exact h5'.2,by rw [<-haa];exact hrm,by rw [<-haa,<-hhz,<-hq3];exact hq2,(A2,c2),(A5,c5),(rd1.1.1,rd1.1.2.1),(zA,zc),(A6,c6),by rw [<-haa,<-hhz,<-hsx,hll]⟩,λu h=>⟨by rw [<-haa];exact ku h 6 rfl (λ_=>rfl) (by omega),by rw [<-haa,<-hsx];exact ku h 5 rfl (λ_=>rfl) (by omega),IK h 3 4 rfl rfl hrn hrs,⟨ku h 1 rfl (λ_=>rfl) (by omega),λy hy2=>NL (h _ (aq (i:=2) rfl)) hzi hy2⟩,by rw [<-hls];exact ku h 0 rfl (λ_=>rfl) (by omega)⟩⟩⟩,rfl,(hw.pick [0,2,3,6,7,8,9] (by decide)).jK (T:=[_,_,_,_,_,_,_]) (L:=[])⟩
def yQ (f:Fl) (fa:FA) (a:tz) (x:SX):Bool:=((((((((((((decide (f.cv<=16)&&decide ((fa.dn:Int)<=40))&&decide ((fa.tn:Int)<=20))&&decide ((a.t.n:Int)<=20))&&decide ((a.p.n:Int)<=20))&&decide ((a.pl.n:Int)<=80))&&decide ((a.d.n:Int)<=40))&&decide ((a.f.n:Int)<=600))&&decide ((x.Lr.n:Int)<=100))&&decide ((x.Uf.n:Int)<=40))&&decide ((x.FT.n:Int)<=9))&&decide ((x.cI.n:Int)<=20))&&decide ((x.Gu.n:Int)<=60))&&decide (x.size<=4)
theorem O7 (f:Fl) (fa:FA) (p:Pr) (a:tz) (x:SX) (w:World):Calls Tryz.prog 21 #[.agg (La f fa p a x).toArray] w λe w'=>e= .returned (.bool (yQ f fa a x))/\fM w w':=by
 refine dd Tryz.func21 rfl Tryz.ntmps21 rfl ?_
 refine ak ?_
 refine R0 ?_
 refine cd (v:= .agg _) rfl rfl λb1=>?_
 refine xV (aU (v:= .bool _) (q0 rfl)) rfl rfl ?_
 refine XN ?_
 refine ad ?_
 refine ak ?_
 refine R0 ?_
 refine xV (az bh rfl eN rfl (q0 rfl)) rfl rfl ?_
 refine xV (eP jM eN (q0 rfl)) rfl rfl ?_
 refine bS Tryz.zeroValue28 rfl λb3=>?_
 refine dN (k:=0) (v:= .agg (p.cells a).toArray) rfl rfl eN ?_;refine JC (cs2:=p.cells a) (by kernel_rfl) ?_
 refine XN ?_
 refine ad ?_
 refine ak ?_
 refine R0 ?_
 refine xV (az bh rfl cN rfl (q0 rfl)) rfl rfl ?_
 refine xV (az dI rfl ae rfl (q0 rfl)) rfl rfl ?_
 refine xV (eL aj (q0 rfl)) rfl rfl ?_
 refine xV (tg (q0 rfl) (q0 rfl)) rfl rfl ?_
 refine xV (ay (v:= .bool _) (q0 rfl)) rfl rfl ?_
 refine dJ (az bh rfl cN rfl (q0 rfl)) rfl rfl rfl rfl ?_
 refine dJ (az dI rfl ks rfl (q1 rfl)) rfl rfl rfl rfl ?_
 refine dJ (eL jN (q1 rfl)) rfl rfl rfl rfl ?_
 refine dJ (dw aA (q1 rfl)) rfl rfl rfl rfl ?_
 refine dJ (tg (q1 rfl) (q0 rfl)) rfl rfl rfl rfl ?_
 refine xV (fH (q0 rfl) rfl (λh=>by first|rfl|(rw [h];rfl))) rfl rfl ?_
 refine xV (ay (v:= .bool _) (q0 rfl)) rfl rfl ?_
 refine dJ (az bh rfl cN rfl (q0 rfl)) rfl rfl rfl rfl ?_
 refine dJ (az dI rfl ks rfl (q1 rfl)) rfl rfl rfl rfl ?_
 refine dJ (eL jN (q1 rfl)) rfl rfl rfl rfl ?_
 refine dJ (dw aA (q1 rfl)) rfl rfl rfl rfl ?_
 refine dJ (tg (q1 rfl) (q0 rfl)) rfl rfl rfl rfl ?_
 refine xV (fH (q0 rfl) rfl (λh=>by first|rfl|(rw [h];rfl))) rfl rfl ?_
 refine xV (ay (v:= .bool _) (q0 rfl)) rfl rfl ?_
 refine dJ (az fD rfl QC rfl (q0 rfl)) rfl rfl rfl rfl ?_
 refine dJ (eL Tryz.isAgg25 (q1 rfl)) rfl rfl rfl rfl ?_
 refine dJ (dw oJ (q1 rfl)) rfl rfl rfl rfl ?_
 refine dJ (tg (q1 rfl) (q0 rfl)) rfl rfl rfl rfl ?_
 refine xV (fH (q0 rfl) rfl (λh=>by first|rfl|(rw [h];rfl))) rfl rfl ?_
 refine xV (ay (v:= .bool _) (q0 rfl)) rfl rfl ?_
 refine dJ (az fD rfl Tryz.sizeOf26 rfl (q0 rfl)) rfl rfl rfl rfl ?_
 refine dJ (eL St (q1 rfl)) rfl rfl rfl rfl ?_
 refine dJ (dw oI (q1 rfl)) rfl rfl rfl rfl ?_
 refine dJ (tg (q1 rfl) (q0 rfl)) rfl rfl rfl rfl ?_
 refine xV (fH (q0 rfl) rfl (λh=>by first|rfl|(rw [h];rfl))) rfl rfl ?_
 refine xV (ay (v:= .bool _) (q0 rfl)) rfl rfl ?_
 refine dJ (az fD rfl ks rfl (q0 rfl)) rfl rfl rfl rfl ?_
 refine dJ (eL jN (q1 rfl)) rfl rfl rfl rfl ?_
 refine dJ (dw aA (q1 rfl)) rfl rfl rfl rfl ?_
 refine dJ (tg (q1 rfl) (q0 rfl)) rfl rfl rfl rfl ?_
 refine xV (fH (q0 rfl) rfl (λh=>by first|rfl|(rw [h];rfl))) rfl rfl ?_
 refine xV (ay (v:= .bool _) (q0 rfl)) rfl rfl ?_
 refine dJ (az fD rfl ks rfl (q0 rfl)) rfl rfl rfl rfl ?_
 refine dJ (eL jN (q1 rfl)) rfl rfl rfl rfl ?_
 refine dJ (dw aA (q1 rfl)) rfl rfl rfl rfl ?_
 refine dJ (tg (q1 rfl) (q0 rfl)) rfl rfl rfl rfl ?_
 refine xV (fH (q0 rfl) rfl (λh=>by first|rfl|(rw [h];rfl))) rfl rfl ?_
 refine xV (ay (v:= .bool _) (q0 rfl)) rfl rfl ?_
 refine dJ (az fD rfl ks rfl (q0 rfl)) rfl rfl rfl rfl ?_
 refine dJ (eL jN (q1 rfl)) rfl rfl rfl rfl ?_
 refine dJ (dw aA (q1 rfl)) rfl rfl rfl rfl ?_
 refine dJ (tg (q1 rfl) (q0 rfl)) rfl rfl rfl rfl ?_
 refine xV (fH (q0 rfl) rfl (λh=>by first|rfl|(rw [h];rfl))) rfl rfl ?_
 refine xV (ay (v:= .bool _) (q0 rfl)) rfl rfl ?_
 refine dJ (az bh rfl ks rfl (q0 rfl)) rfl rfl rfl rfl ?_
 refine dJ (eL jN (q1 rfl)) rfl rfl rfl rfl ?_
 refine dJ (dw aA (q1 rfl)) rfl rfl rfl rfl ?_
 refine dJ (tg (q1 rfl) (q0 rfl)) rfl rfl rfl rfl ?_
 refine xV (fH (q0 rfl) rfl (λh=>by first|rfl|(rw [h];rfl))) rfl rfl ?_
 refine xV (ay (v:= .bool _) (q0 rfl)) rfl rfl ?_
 refine dJ (az bh rfl Tryz.sizeOf37 rfl (q0 rfl)) rfl rfl rfl rfl ?_
 refine dJ (az Tryz.underlying37 rfl ks rfl (q1 rfl)) rfl rfl rfl rfl ?_
 refine dJ (eL jN (q1 rfl)) rfl rfl rfl rfl ?_
 refine dJ (dw aA (q1 rfl)) rfl rfl rfl rfl ?_
 refine dJ (tg (q1 rfl) (q0 rfl)) rfl rfl rfl rfl ?_
 refine xV (fH (q0 rfl) rfl (λh=>by first|rfl|(rw [h];rfl))) rfl rfl ?_
 refine xV (ay (v:= .bool _) (q0 rfl)) rfl rfl ?_
 refine dJ (az bh rfl ui rfl (q0 rfl)) rfl rfl rfl rfl ?_
 refine dJ (az kF rfl Tryz.sizeOf33 rfl (q1 rfl)) rfl rfl rfl rfl ?_
 refine dJ (eL Tryz.isAgg33 (q1 rfl)) rfl rfl rfl rfl ?_
 refine dJ (dw Tryz.underlying33 (q1 rfl)) rfl rfl rfl rfl ?_
 refine dJ (tg (q1 rfl) (q0 rfl)) rfl rfl rfl rfl ?_
 refine xV (fH (q0 rfl) rfl (λh=>by first|rfl|(rw [h];rfl))) rfl rfl ?_
 refine xV (ay (v:= .bool _) (q0 rfl)) rfl rfl ?_
 refine dJ (az bh rfl ui rfl (q0 rfl)) rfl rfl rfl rfl ?_
 refine dJ (az kF rfl Tryz.sizeOf32 rfl (q1 rfl)) rfl rfl rfl rfl ?_
 refine dJ (eL Tryz.isAgg32 (q1 rfl)) rfl rfl rfl rfl ?_
 refine dJ (dw Tryz.underlying32 (q1 rfl)) rfl rfl rfl rfl ?_
 refine dJ (tg (q1 rfl) (q0 rfl)) rfl rfl rfl rfl ?_
 refine xV (fH (q0 rfl) rfl (λh=>by first|rfl|(rw [h];rfl))) rfl rfl ?_
 refine xV (ay (v:= .bool _) (q0 rfl)) rfl rfl ?_
 refine dJ (az bh rfl ui rfl (q0 rfl)) rfl rfl rfl rfl ?_
 refine dJ (az kF rfl QB rfl (q1 rfl)) rfl rfl rfl rfl ?_
 refine dJ (az r8 rfl Tryz.sizeOf29 rfl (q1 rfl)) rfl rfl rfl rfl ?_
 refine dJ (eL Tryz.isAgg29 (q1 rfl)) rfl rfl rfl rfl ?_
 refine dJ (dw Tryz.underlying29 (q1 rfl)) rfl rfl rfl rfl ?_
 refine dJ (tg (q1 rfl) (q0 rfl)) rfl rfl rfl rfl ?_
 refine xV (fH (q0 rfl) rfl (λh=>by first|rfl|(rw [h];rfl))) rfl rfl ?_
 refine xV (ay (v:= .bool _) (q0 rfl)) rfl rfl ?_
 refine dJ (az bh rfl ae rfl (q0 rfl)) rfl rfl rfl rfl ?_
 refine dJ (eL aj (q1 rfl)) rfl rfl rfl rfl ?_
 refine dJ (tg (q1 rfl) (q0 rfl)) rfl rfl rfl rfl ?_
 refine xV (fH (q0 rfl) rfl (λh=>by first|rfl|(rw [h];rfl))) rfl rfl ?_
 refine xV (aU (v:= .bool _) (q0 rfl)) rfl rfl ?_
 refine XN ?_
 refine ad ?_
 refine dq ?_
 exact cu (v:= .bool _) rfl rfl rfl λw' hw=>⟨rfl,hw.1⟩
def inc (x:Int):Int:=IntKind.i64.wrap (x+1)
theorem Et (x:Int):inc x≠x:=by
 unfold inc IntKind.wrap
 simp [IntKind.bits,IntKind.signed]
 omega
section
variable {g:Bool} {c:Cx} {w0:World} {L:List E.Item} {f:Fr} {ty:TypeId} {x y:Operand}
theorem Jo {t t2:TypeId} {m:Int} (hx:gH g f x (.int .i64 m)) (hy:gH g f y (.int .i64 1)):gj g c w0 L f (.binOp .add t x y t2) ty (.int .i64 (inc m)):=λe _ _ _ _ w _=>by
 simp [execOp,hx e,hy e,eqGuard,binOp,Op.intArith,inc]
theorem Qq {t d:TypeId} {n:Int} (ht:c.P.underlying t=some (.int .u8)) (hd:c.P.underlying d=some (.int .i64)) (hx:gH g f x (.int .u8 n)) (hr:g=true->0<=n/\n<=255):gj g c w0 L f (.convert t d x) ty (.int .i64 n):=λe _ _ _ _ w _=>by
 have h:=hr e
 have h2:IntKind.i64.wrap n=n:=IntWalk.i64_in _ ⟨by omega,by omega⟩
 simp [execOp,hx e,convert,run_underlying ht,run_underlying hd,Conv.intToInt,h2,Result.andThen]
theorem RI {t t2:TypeId} {h i:Nat} (hi:h/8=i) (hx:gH g f x (.int .i64 (h:Int))) (hy:gH g f y (.int .i64 8)) (hh:h<=255):gj g c w0 L f (.binOp .quo t x y t2) ty (.int .i64 (i:Int)):=by
 rw [<-hi,Int.natCast_ediv]
 exact wD hx hy λ_=>by omega
theorem RH {t t2:TypeId} {h i:Nat} (hi:h%8=i) (hx:gH g f x (.int .i64 (h:Int))) (hy:gH g f y (.int .i64 8)) (hh:h<=255):gj g c w0 L f (.binOp .rem t x y t2) ty (.int .i64 (i:Int)):=by
 rw [<-hi,Int.natCast_emod]
 exact Jm hx hy λ_=>by omega
theorem qe {t t2:TypeId} {i n m:Nat} (hm:i%n=m) (hx:gH g f x (.int .i64 (i:Int))) (hy:gH g f y (.int .i64 (n:Int))) (hh:i<=255/\0<n):gj g c w0 L f (.binOp .rem t x y t2) ty (.int .i64 (m:Int)):=by
 rw [<-hm,Int.natCast_emod]
 exact Jm hx hy λ_=>by omega
end
section
variable {α:Type} {e t:TypeId} {k:Nat} {enc:α->List Value} {c:Cx} {w0:World} {L:List E.Item} {f:Fr} {K:List E.Item->Fr->Prop} {d:Nat} {ty:TypeId} {pos:String} {af:Array Edge} {x y:Operand}
theorem AT (j m:Nat) {b cA n cB:Nat} {zs:List α} {i:TypeInfo} {z:Value} (ht:c.P.underlying t=some (.slice e)) (hi:c.P.info? e=some i) (hz:i.zero=some z) (hsize:i.size=k) (hzs:z.cells.size=k) (hk0:Nat.blt 0 k=true)
  (he: ∀x,(enc x).length=k) (h1: ∀x,(enc x).all (·.oneCell')=true) (hx:ev f x= .slice (some ⟨b,0,none⟩) m cA) (hy:ev f y= .slice (k9 (some ⟨b,0,none⟩) cA (m+1) k) n cB) (hk:L[j]?=some (dS e k enc (some ⟨b,0,none⟩) cA zs)) (hn:m+1+n=zs.length)
  (hlen:zs.length<=1000000/\i.bytes<=100000) (hd:Nat.blt d c.N=true) (next:K (L.set j (dS e k enc (some ⟨b,0,none⟩) cA (zs.eraseIdx m))) (kV f d (.slice (some ⟨b,0,none⟩) (zs.eraseIdx m).length cA))):
  vO c w0 L f ⟨some d, .call {callee:= .builtin .append,args:= #[x,y],argTypes:= #[t,t]},ty,pos,af,none⟩ K:=
 ⟨rfl,rfl,hd,λw hw=>by
  have hk1:0<k:=dW hk0
  have hj:j<L.length:=(ai.1 hk).1
  have hA0:w.ownsRow 0 e k (.slice (some ⟨b,0,none⟩) (zs.take m).length cA) (zs.take m).length ((zs.take m).flatMap enc):=(Kf (i:=m) he hw hk).item (k:=j) (it:=dS e k enc (some ⟨b,0,none⟩) cA (zs.take m)) (by simp [hj])
  have hml:(zs.take m).length=m:=by rw [dG];omega
  rw [hml] at hA0
  obtain ⟨cs,hc,hr⟩:=nP (hw.item hk)
  have hcl:=hr.len
  have hcm:=hr.max
  have hS:=fB hw hk he (by omega)
  obtain ⟨ys,hys⟩: ∃ys,ys=zs.drop (m+1):=⟨_,rfl⟩
  have hyl:ys.length=n:=by rw [hys,List.length_drop];omega
  have hnl:(ys.flatMap enc).length=n*k:=by rw [E.dX he,hyl]
  obtain ⟨a,ha⟩: ∃a,k9 (some ⟨b,0,none⟩) cA (m+1) k=some a:=by unfold k9;split<;>exact ⟨_,rfl⟩
  have hnews: ∀q u,(ys.flatMap enc)[q]?=some u->w.cell? (a.add q)=some u:=λq u hu=>by
   obtain ⟨p,v,r,hp,hv,rfl⟩:=xN he ys q u hu
   have hp':p<n:=by have:=(ai.1 hp).1;omega
   have hz2:zs[m+1+p]?=some v:=by rw [hys,iP] at hp;exact hp
   obtain ⟨b',off,hb,_,hcc⟩:=hS.2.2 (by omega)
   cases hb
   have:=hcc _ v hz2 r u hv
   unfold k9 at ha
   rw [an (by omega)] at ha
   cases ha
   show w.cell? (((⟨b,0,none⟩:Addr).add ((m+1)*k)).add (p*k+r))=some u
   rw [addr_add,addr_add]
   simp only [fq] at this|-
   rw [uj,kf] at this
   exact this
  have hone: ∀u∈ys.flatMap enc,u.oneCell'=true:=λu hu=>by
   obtain ⟨v,_,hv⟩:=iY.1 hu
   exact kH.1 (h1 v) u hv
  have hby:(m+n)*i.bytes<=140737488355328:=by
   have:=Iy (show m+n<=1000000 by omega) hlen.2
   omega
  obtain ⟨v',w',h2,h3,h4,_⟩:=run_append_own (P:=c.P) w 0 t ty e i z k i.bytes ht hi hz hsize rfl hzs hk1 _ m _ hA0 a n cB (ys.flatMap enc) hnl hnews hone (by simp only [maxLen] at hcm|-;omega) hby (bj _)
  subst hsize
  have hroom:m+n<=cA:=by omega
  have h8:=run_append_room (P:=c.P) w t ty e i ht hi b m cA cs.toArray hc a n cB (ys.flatMap enc) hnl hnews hone hroom (by
   have hsz:=hr.size
   rw [hnl,<-uj]
   show _<=cs.toArray.size
   rw [uk,hsz]
   exact qt _ hroom)
  have h8':=h2.symm.trans h8
  have hdr:w.drawn<=w'.drawn:=by
   cases h8'
   exact bA _
  have hv:v'= .slice (some ⟨b,0,none⟩) (m+n) cA:=by
   cases h8'
   rfl
  subst hv
  have hez:zs.eraseIdx m=zs.take m++ys:=by rw [nk,hys]
  have hel:(zs.eraseIdx m).length=m+n:=by rw [hez,aQ,hml,hyl]
  have hA':w'.ownsRow 0 e i.size (.slice (some ⟨b,0,none⟩) (zs.eraseIdx m).length cA) (zs.eraseIdx m).length ((zs.eraseIdx m).flatMap enc):=by
   rw [hel,hez,jY]
   exact h3
  have hex:(execOp (ev f) ⟨some d, .call {callee:= .builtin .append,args:= #[x,y],argTypes:= #[t,t]},ty,pos,af,none⟩).run c.P w= .ok (.value (.slice (some ⟨b,0,none⟩) (m+n) cA)) w':=by
   rw [ha] at hy
   simp [execOp,resolve,invoke,builtin,hx,hy,h2]
  rw [hex,<-hel]
  refine ⟨_,hw.D9 (it':=dS e i.size enc (some ⟨b,0,none⟩) cA (zs.eraseIdx m)) hk (λb' hb=> .inl hb) (λb' hb=>?_) hA' ⟨h4.os,h4.tape,h4.output,hdr⟩ h4.size (λb' hb hf=>h4.block b' hb (λe=>hf ?_)),hG hk rfl,next⟩
  ·have:(Value.slice (some ⟨b,0,none⟩) (zs.eraseIdx m).length cA).ownBlock=some b':=hb
   exact (hA'.lt b' this).2
  exact e.symm⟩
end
def pf (s:gy):gy:={s with place:=inc s.place}
def oN (x:RX):RX:={x with r:={x.r with end_:=⟨x.r.end_.lo,inc x.r.end_.hi⟩}}
def oO (x:FX):FX:={x with b:={x.b with total:=inc x.b.total}}
def pg (p:Py):Py:={p with fU:=inc p.fU}
def eD {α:Type} (k0 k i:Nat) (g:α->α) (l:List α):List α:=if k=k0 then l.modify (i%l.length) g else if k=k0+1 then l.eraseIdx (i%l.length) else l
def Ah (k ns nr nf np:Nat):Bool:=!((decide (k<2)&&decide (ns=0)||(decide (k=2)||decide (k=3))&&decide (nr=0))||decide (4<=k)&&(decide (nf=0)||decide (np=0)))
theorem vu {α:Type} {g:α->α} {l:List α} {m:Nat} {x:α} (h:l[m]?=some x):l.modify m g=l.set m (g x):=by
 apply fh
 intro i
 rw [qv,cD]
 by_cases hi:m=i
 ·subst hi
  rw [aB rfl,aB (ai.1 h).1,h]
  simp
 rw [an hi]
 simp [hi]
theorem pY {α:Type} (k0 k i:Nat) (g:α->α) (l:List α):(eD k0 k i g l).length<=l.length:=by
 unfold eD
 split
 ·rw [List.length_modify];exact bA _
 split
 ·exact List.length_eraseIdx_le _ _
 exact bA _
structure CH where
 b:BX
 ok:Bool
 Sk:List E.Item
structure Vw (b:BX) (k i:Nat) (st:List gy) (xs:List RX) (ys:List FX) (pd:List Py) (z:CH):Prop where
 bx: ∃A B C D:Option Addr×Nat,z.b={b with st:=⟨A.1,(eD 0 k i pf st).length,A.2⟩,rd:=⟨B.1,(eD 2 k i oN xs).length,B.2⟩,fr:=⟨C.1,(eD 4 k i oO ys).length,C.2⟩,pd:=⟨D.1,(eD 6 k i pg pd).length,D.2⟩}
 at_: ∀u,(∀it∈z.Sk,it.A u)->eG u 6 gy.cells z.b.st.A z.b.st.n (eD 0 k i pf st)/\eG u 13 RX.cells z.b.rd.A z.b.rd.n (eD 2 k i oN xs)/\eG u 4 FX.cells z.b.fr.A z.b.fr.n (eD 4 k i oO ys)/\eG u 3 rT z.b.pd.A z.b.pd.n (eD 6 k i pg pd)
abbrev ChO (b:BX) (k i:Nat) (st:List gy) (xs:List RX) (ys:List FX) (pd:List Py):Type:={z:CH//z.ok=Ah k st.length xs.length ys.length pd.length/\(z.ok=true->Vw b k i st xs ys pd z)}
theorem Ph {fs:Array Field} (h:Tryz.prog.underlying 74=some (.struct fs):=by exact eJ):df Tryz.prog fs [(0,1),(1,1)]:=by
 rw [eJ] at h
 cases h
 intro w
 kernel_rfl
theorem KW (f:Fl) (fa:FA) (p:Pr) (a:tz) (x:SX) (b:BX) (h k i:Nat) (hk:h%8=k) (hi:h/8=i) (st:List gy) (xs:List RX) (ys:List FX) (pd:List Py) (w:World) (hh:h<=255) (hst:eG w 6 gy.cells b.st.A b.st.n st) (hrd:eG w 13 RX.cells b.rd.A b.rd.n xs) (hfr:eG w 4 FX.cells b.fr.A b.fr.n ys) (hpd:eG w 3 rT b.pd.A b.pd.n pd)
  (hln:st.length<=100000/\xs.length<=100000/\ys.length<=100000/\pd.length<=100000):
  Calls Tryz.prog 24 #[.agg (hP f fa p a x b).toArray, .int .u8 (h:Int)] w λe w'=> ∃z:ChO b k i st xs ys pd,e= .returned (.tuple #[.agg (hP f fa p a x z.1.b).toArray, .bool z.1.ok])/\Mem w [jK z.1.Sk] w':=by
 refine dd Tryz.func24 rfl Tryz.ntmps24 rfl ?_
 refine ak ?_
 refine R0 ?_
 refine cd (v:= .agg _) rfl rfl λb2=>?_
 refine bS fN rfl λb4=>?_
 refine xV (aU (v:= .bool _) (q0 rfl)) rfl rfl ?_
 refine XN ?_
 refine ad ?_
 refine ak ?_
 refine R0 ?_
 refine xV (ay (v:= .int _ _) (q0 rfl)) rfl rfl ?_
 refine xV (Qq iL av (q0 rfl) (λ_=>by omega)) rfl rfl ?_
 refine xV (RI hi (q0 rfl) (q0 rfl) hh) rfl rfl ?_
 refine xV (aU (v:= .int _ _) (q0 rfl)) rfl rfl ?_
 refine XN ?_
 refine ad ?_
 refine ak ?_
 refine ke [7,8,15,16,17,18,19,20,21,22] (λs:(Option Addr×Nat)×(Option Addr×Nat)=>[(7, .slice s.1.1 st.length s.1.2),(8, .slice s.2.1 xs.length s.2.2)]) (λs=>[iE s.1.1 s.1.2 st,eI s.2.1 s.2.2 xs,box b4 56 Od,box b2 56 (hP f fa p a x b)]) (λ_=>True) ?_ ?_
 ·refine RA rfl (by decide+kernel) ?_
  refine aV 1 (by decide+kernel) rfl (az ax rfl eV rfl (q0 rfl)) rfl ?_
  refine aV 2 (by decide+kernel) rfl (eL gE (q0 rfl)) rfl ?_
  refine aV 5 (by decide+kernel) rfl (az ax rfl di rfl (q0 rfl)) rfl ?_
  refine aV 6 (by decide+kernel) rfl (eL ib (q0 rfl)) rfl ?_
  refine lS (i:=0) (j:=4) (by decide+kernel) (au 0) ?_ ?_
  ·refine aL rfl (mN gy.cells bI cy rfl λA0 c0=>?_)
   refine lS (i:=3) (j:=4) (by decide+kernel) (au 1) ?_ ?_
   ·refine aL rfl (dj (k:=6) (i:=Tryz.t98) (enc:=gy.cells) (xs:=[]) 0 bI (by kernel_rfl) rfl rfl rfl rfl (λ_=>rfl) (λ_=>rfl) rfl rfl rfl (λw hw=>hst.mem hw) ⟨by simp;omega,by decide⟩ rfl λA3 c3=>?_)
    refine eu (i:=4) (by decide+kernel) (au 1) ?_
    refine aL rfl (mN RX.cells aT ba rfl λA4 c4=>?_)
    refine aI 1 ?_
    refine eu (i:=7) (by decide+kernel) (au 2) ?_
    (first|refine aL rfl (dj (k:=13) (i:=Tryz.t78) (enc:=RX.cells) (xs:=[]) 0 aT (by kernel_rfl) rfl rfl rfl rfl (λ_=>rfl) (λ_=>rfl) rfl rfl rfl (λw hw=>hrd.mem hw) ⟨by simp;omega,by decide⟩ rfl λA7 c7=>?_)|refine aL rfl (dj (k:=13) (i:=Tryz.t78) (enc:=RX.cells) (xs:=[]) 1 aT (by kernel_rfl) rfl rfl rfl rfl (λ_=>rfl) (λ_=>rfl) rfl rfl rfl (λw hw=>hrd.mem hw) ⟨by simp;omega,by decide⟩ rfl λA7 c7=>?_))
    refine w7 (au 2) ?_
    refine aV 8 (by decide+kernel) rfl (aU (v:= .slice _ _ _) (q0 rfl)) rfl ?_
    refine aV 9 (by decide+kernel) rfl (aU (v:= .slice _ _ _) (q0 rfl)) rfl ?_
    refine aZ (by decide+kernel) (au 0) ?_
    exact aO (((A3,c3),(A7,c7)):(Option Addr×Nat)×(Option Addr×Nat)) (by repeat (first|exact aK|exact aN|refine a8 rfl ?_|refine aJ rfl ?_|refine aD rfl ?_)) ⟨rfl,rfl,trivial⟩ (λw hw=>hw) rfl trivial
   refine aL rfl (mN RX.cells aT ba rfl λA4 c4=>?_)
   refine aI 1 ?_
   refine eu (i:=3) (by decide+kernel) (au 2) ?_
   refine aL rfl (dj (k:=6) (i:=Tryz.t98) (enc:=gy.cells) (xs:=[]) 0 bI (by kernel_rfl) rfl rfl rfl rfl (λ_=>rfl) (λ_=>rfl) rfl rfl rfl (λw hw=>hst.mem hw) ⟨by simp;omega,by decide⟩ rfl λA3 c3=>?_)
   refine eu (i:=7) (by decide+kernel) (au 2) ?_
   (first|refine aL rfl (dj (k:=13) (i:=Tryz.t78) (enc:=RX.cells) (xs:=[]) 0 aT (by kernel_rfl) rfl rfl rfl rfl (λ_=>rfl) (λ_=>rfl) rfl rfl rfl (λw hw=>hrd.mem hw) ⟨by simp;omega,by decide⟩ rfl λA7 c7=>?_)|refine aL rfl (dj (k:=13) (i:=Tryz.t78) (enc:=RX.cells) (xs:=[]) 1 aT (by kernel_rfl) rfl rfl rfl rfl (λ_=>rfl) (λ_=>rfl) rfl rfl rfl (λw hw=>hrd.mem hw) ⟨by simp;omega,by decide⟩ rfl λA7 c7=>?_))
   refine w7 (au 2) ?_
   refine aV 8 (by decide+kernel) rfl (aU (v:= .slice _ _ _) (q0 rfl)) rfl ?_
   refine aV 9 (by decide+kernel) rfl (aU (v:= .slice _ _ _) (q0 rfl)) rfl ?_
   refine aZ (by decide+kernel) (au 0) ?_
   exact aO (((A3,c3),(A7,c7)):(Option Addr×Nat)×(Option Addr×Nat)) (by repeat (first|exact aK|exact aN|refine a8 rfl ?_|refine aJ rfl ?_|refine aD rfl ?_)) ⟨rfl,rfl,trivial⟩ (λw hw=>hw) rfl trivial
  refine aL rfl (mN RX.cells aT ba rfl λA4 c4=>?_)
  refine eu (i:=0) (by decide+kernel) (au 1) ?_
  refine aL rfl (mN gy.cells bI cy rfl λA0 c0=>?_)
  refine eu (i:=3) (by decide+kernel) (au 2) ?_
  refine aL rfl (dj (k:=6) (i:=Tryz.t98) (enc:=gy.cells) (xs:=[]) 0 bI (by kernel_rfl) rfl rfl rfl rfl (λ_=>rfl) (λ_=>rfl) rfl rfl rfl (λw hw=>hst.mem hw) ⟨by simp;omega,by decide⟩ rfl λA3 c3=>?_)
  refine eu (i:=7) (by decide+kernel) (au 2) ?_
  (first|refine aL rfl (dj (k:=13) (i:=Tryz.t78) (enc:=RX.cells) (xs:=[]) 0 aT (by kernel_rfl) rfl rfl rfl rfl (λ_=>rfl) (λ_=>rfl) rfl rfl rfl (λw hw=>hrd.mem hw) ⟨by simp;omega,by decide⟩ rfl λA7 c7=>?_)|refine aL rfl (dj (k:=13) (i:=Tryz.t78) (enc:=RX.cells) (xs:=[]) 1 aT (by kernel_rfl) rfl rfl rfl rfl (λ_=>rfl) (λ_=>rfl) rfl rfl rfl (λw hw=>hrd.mem hw) ⟨by simp;omega,by decide⟩ rfl λA7 c7=>?_))
  refine w7 (au 2) ?_
  refine aV 8 (by decide+kernel) rfl (aU (v:= .slice _ _ _) (q0 rfl)) rfl ?_
  refine aV 9 (by decide+kernel) rfl (aU (v:= .slice _ _ _) (q0 rfl)) rfl ?_
  refine aZ (by decide+kernel) (au 0) ?_
  exact aO (((A3,c3),(A7,c7)):(Option Addr×Nat)×(Option Addr×Nat)) (by repeat (first|exact aK|exact aN|refine a8 rfl ?_|refine aJ rfl ?_|refine aD rfl ?_)) ⟨rfl,rfl,trivial⟩ (λw hw=>hw) rfl trivial
 rintro ⟨⟨sA,sc⟩,⟨rA,rc⟩⟩ g1 _
 refine ad ?_
 refine ak ?_
 refine ke [9,10,23,24,25,26,27,28,29,30,31] (λs:(Option Addr×Nat)×(Option Addr×Nat)=>[(9, .slice s.1.1 ys.length s.1.2),(10, .slice s.2.1 pd.length s.2.2)]) (λs=>[kE s.1.1 s.1.2 ys,mP s.2.1 s.2.2 pd,iE sA sc st,eI rA rc xs,box b4 56 Od,box b2 56 (hP f fa p a x b)]) (λ_=>True) ?_ ?_
 ·refine RA rfl (by decide+kernel) ?_
  refine aV 1 (by decide+kernel) rfl (az ax rfl eM rfl (q0 rfl)) rfl ?_
  refine aV 2 (by decide+kernel) rfl (eL jL (q0 rfl)) rfl ?_
  refine aV 5 (by decide+kernel) rfl (az ax rfl gJ rfl (q0 rfl)) rfl ?_
  refine aV 6 (by decide+kernel) rfl (az dZ rfl eK rfl (q0 rfl)) rfl ?_
  refine aV 7 (by decide+kernel) rfl (eL kD (q0 rfl)) rfl ?_
  refine lS (i:=0) (j:=4) (by decide+kernel) (au 0) ?_ ?_
  ·refine aL rfl (mN FX.cells cj dx rfl λA0 c0=>?_)
   refine lS (i:=3) (j:=4) (by decide+kernel) (au 1) ?_ ?_
   ·refine aL rfl (dj (k:=4) (i:=Tryz.t81) (enc:=FX.cells) (xs:=[]) 0 cj (by kernel_rfl) rfl rfl rfl rfl (λ_=>rfl) (λ_=>rfl) rfl rfl rfl (λw hw=>hfr.mem hw) ⟨by simp;omega,by decide⟩ rfl λA3 c3=>?_)
    refine eu (i:=4) (by decide+kernel) (au 1) ?_
    refine aL rfl (mN rT bM eB rfl λA4 c4=>?_)
    refine aI 1 ?_
    refine eu (i:=8) (by decide+kernel) (au 2) ?_
    (first|refine aL rfl (dj (k:=3) (i:=Tryz.t96) (enc:=rT) (xs:=[]) 0 bM (by kernel_rfl) rfl rfl rfl rfl (λ_=>rfl) (λ_=>rfl) rfl rfl rfl (λw hw=>hpd.mem hw) ⟨by simp;omega,by decide⟩ rfl λA7 c7=>?_)|refine aL rfl (dj (k:=3) (i:=Tryz.t96) (enc:=rT) (xs:=[]) 1 bM (by kernel_rfl) rfl rfl rfl rfl (λ_=>rfl) (λ_=>rfl) rfl rfl rfl (λw hw=>hpd.mem hw) ⟨by simp;omega,by decide⟩ rfl λA7 c7=>?_))
    refine w7 (au 2) ?_
    refine aV 9 (by decide+kernel) rfl (aU (v:= .slice _ _ _) (q0 rfl)) rfl ?_
    refine aV 10 (by decide+kernel) rfl (aU (v:= .slice _ _ _) (q0 rfl)) rfl ?_
    refine aZ (by decide+kernel) (au 0) ?_
    exact aO (((A3,c3),(A7,c7)):(Option Addr×Nat)×(Option Addr×Nat)) (by repeat (first|exact aK|exact aN|refine a8 rfl ?_|refine aJ rfl ?_|refine aD rfl ?_)) ⟨rfl,rfl,trivial⟩ (λw hw=>hw) rfl trivial
   refine aL rfl (mN rT bM eB rfl λA4 c4=>?_)
   refine aI 1 ?_
   refine eu (i:=3) (by decide+kernel) (au 2) ?_
   refine aL rfl (dj (k:=4) (i:=Tryz.t81) (enc:=FX.cells) (xs:=[]) 0 cj (by kernel_rfl) rfl rfl rfl rfl (λ_=>rfl) (λ_=>rfl) rfl rfl rfl (λw hw=>hfr.mem hw) ⟨by simp;omega,by decide⟩ rfl λA3 c3=>?_)
   refine eu (i:=8) (by decide+kernel) (au 2) ?_
   (first|refine aL rfl (dj (k:=3) (i:=Tryz.t96) (enc:=rT) (xs:=[]) 0 bM (by kernel_rfl) rfl rfl rfl rfl (λ_=>rfl) (λ_=>rfl) rfl rfl rfl (λw hw=>hpd.mem hw) ⟨by simp;omega,by decide⟩ rfl λA7 c7=>?_)|refine aL rfl (dj (k:=3) (i:=Tryz.t96) (enc:=rT) (xs:=[]) 1 bM (by kernel_rfl) rfl rfl rfl rfl (λ_=>rfl) (λ_=>rfl) rfl rfl rfl (λw hw=>hpd.mem hw) ⟨by simp;omega,by decide⟩ rfl λA7 c7=>?_))
   refine w7 (au 2) ?_
   refine aV 9 (by decide+kernel) rfl (aU (v:= .slice _ _ _) (q0 rfl)) rfl ?_
   refine aV 10 (by decide+kernel) rfl (aU (v:= .slice _ _ _) (q0 rfl)) rfl ?_
   refine aZ (by decide+kernel) (au 0) ?_
   exact aO (((A3,c3),(A7,c7)):(Option Addr×Nat)×(Option Addr×Nat)) (by repeat (first|exact aK|exact aN|refine a8 rfl ?_|refine aJ rfl ?_|refine aD rfl ?_)) ⟨rfl,rfl,trivial⟩ (λw hw=>hw) rfl trivial
  refine aL rfl (mN rT bM eB rfl λA4 c4=>?_)
  refine eu (i:=0) (by decide+kernel) (au 1) ?_
  refine aL rfl (mN FX.cells cj dx rfl λA0 c0=>?_)
  refine eu (i:=3) (by decide+kernel) (au 2) ?_
  refine aL rfl (dj (k:=4) (i:=Tryz.t81) (enc:=FX.cells) (xs:=[]) 0 cj (by kernel_rfl) rfl rfl rfl rfl (λ_=>rfl) (λ_=>rfl) rfl rfl rfl (λw hw=>hfr.mem hw) ⟨by simp;omega,by decide⟩ rfl λA3 c3=>?_)
  refine eu (i:=8) (by decide+kernel) (au 2) ?_
  (first|refine aL rfl (dj (k:=3) (i:=Tryz.t96) (enc:=rT) (xs:=[]) 0 bM (by kernel_rfl) rfl rfl rfl rfl (λ_=>rfl) (λ_=>rfl) rfl rfl rfl (λw hw=>hpd.mem hw) ⟨by simp;omega,by decide⟩ rfl λA7 c7=>?_)|refine aL rfl (dj (k:=3) (i:=Tryz.t96) (enc:=rT) (xs:=[]) 1 bM (by kernel_rfl) rfl rfl rfl rfl (λ_=>rfl) (λ_=>rfl) rfl rfl rfl (λw hw=>hpd.mem hw) ⟨by simp;omega,by decide⟩ rfl λA7 c7=>?_))
  refine w7 (au 2) ?_
  refine aV 9 (by decide+kernel) rfl (aU (v:= .slice _ _ _) (q0 rfl)) rfl ?_
  refine aV 10 (by decide+kernel) rfl (aU (v:= .slice _ _ _) (q0 rfl)) rfl ?_
  refine aZ (by decide+kernel) (au 0) ?_
  exact aO (((A3,c3),(A7,c7)):(Option Addr×Nat)×(Option Addr×Nat)) (by repeat (first|exact aK|exact aN|refine a8 rfl ?_|refine aJ rfl ?_|refine aD rfl ?_)) ⟨rfl,rfl,trivial⟩ (λw hw=>hw) rfl trivial
 rintro ⟨⟨fA,fc⟩,⟨pA,pc⟩⟩ g2 _
 have hk8:k<8:=by omega
 refine ad ?_
 refine ak ?_
 refine R0 ?_
 refine xV (ay (v:= .int _ _) (q0 rfl)) rfl rfl ?_
 refine xV (Qq iL av (q0 rfl) (λ_=>by omega)) rfl rfl ?_
 refine xV (RH hk (q0 rfl) (q0 rfl) hh) rfl rfl ?_
 refine xV (aU (v:= .int _ _) (q0 rfl)) rfl rfl ?_
 refine XN ?_
 refine ad ?_
 refine ak ?_
 refine ak ?_
 refine R0 ?_
 refine xV (ay (v:= .int _ _) (q0 rfl)) rfl rfl ?_
 refine xV (gK (q0 rfl) (q0 rfl)) rfl rfl ?_
 refine xV (ay (v:= .bool _) (q0 rfl)) rfl rfl ?_
 refine dJ (ay (v:= .slice _ _ _) (q0 rfl)) rfl rfl rfl rfl ?_
 refine dJ (dw bI (q1 rfl)) rfl rfl rfl rfl ?_
 refine dJ (jE (q1 rfl) (q0 rfl)) rfl rfl rfl rfl ?_
 refine xV (fH (q0 rfl) rfl (λh=>by first|rfl|(rw [h];rfl))) rfl rfl ?_
 refine xV (ay (v:= .bool _) (q0 rfl)) rfl rfl ?_
 refine fE (ay (v:= .int _ _) (q0 rfl)) rfl rfl rfl rfl ?_
 refine fE (jE (q1 rfl) (q0 rfl)) rfl rfl rfl rfl ?_
 refine fE (ay (v:= .bool _) (q1 rfl)) rfl rfl rfl rfl ?_
 refine iv (ay (v:= .int _ _) (q0 rfl)) rfl rfl rfl rfl ?_
 refine iv (jE (q1 rfl) (q0 rfl)) rfl rfl rfl rfl ?_
 refine fE (jJ (q1 rfl) rfl (λh=>by first|rfl|(rw [h];rfl))) rfl rfl rfl rfl ?_
 refine fE (ay (v:= .bool _) (q1 rfl)) rfl rfl rfl rfl ?_
 refine mq (ay (v:= .slice _ _ _) (q0 rfl)) rfl rfl rfl rfl ?_
 refine mq (dw aT (q1 rfl)) rfl rfl rfl rfl ?_
 refine mq (jE (q1 rfl) (q0 rfl)) rfl rfl rfl rfl ?_
 refine fE (fH (q1 rfl) rfl (λh=>by first|rfl|(rw [h];rfl))) rfl rfl rfl rfl ?_
 refine xV (jJ (q0 rfl) rfl (λh=>by first|rfl|(rw [h];rfl))) rfl rfl ?_
 refine xV (ay (v:= .bool _) (q0 rfl)) rfl rfl ?_
 refine fE (ay (v:= .int _ _) (q0 rfl)) rfl rfl rfl rfl ?_
 refine fE (CQ (q1 rfl) (q0 rfl)) rfl rfl rfl rfl ?_
 refine fE (ay (v:= .bool _) (q1 rfl)) rfl rfl rfl rfl ?_
 refine mq (ay (v:= .slice _ _ _) (q0 rfl)) rfl rfl rfl rfl ?_
 refine mq (dw cj (q1 rfl)) rfl rfl rfl rfl ?_
 refine mq (jE (q1 rfl) (q0 rfl)) rfl rfl rfl rfl ?_
 refine mq (ay (v:= .bool _) (q1 rfl)) rfl rfl rfl rfl ?_
 refine iv (ay (v:= .slice _ _ _) (q0 rfl)) rfl rfl rfl rfl ?_
 refine iv (dw bM (q1 rfl)) rfl rfl rfl rfl ?_
 refine iv (jE (q1 rfl) (q0 rfl)) rfl rfl rfl rfl ?_
 refine mq (jJ (q1 rfl) rfl (λh=>by first|rfl|(rw [h];rfl))) rfl rfl rfl rfl ?_
 refine fE (fH (q1 rfl) rfl (λh=>by first|rfl|(rw [h];rfl))) rfl rfl rfl rfl ?_
 refine xV (jJ (q0 rfl) rfl (λh=>by first|rfl|(rw [h];rfl))) rfl rfl ?_
 refine XN ?_
 refine ad ?_
 refine bD rfl (λhc=>?_) (λhc=>?_)
 ·have hok:Ah k st.length xs.length ys.length pd.length=false:=by
   unfold Ah
   rw [Lq]
   simp only [pR,de,fg] at hc|-
   omega
  refine ak ?_
  refine R0 ?_
  refine xV (eS cP aM (q0 rfl)) rfl rfl ?_
  refine dN (k:=4) (v:= .agg (hP f fa p a x b).toArray) rfl rfl aM ?_;refine fJ (cs2:=hP f fa p a x b) (by kernel_rfl) ?_
  refine xV (aU (v:= .bool _) (q0 rfl)) rfl rfl ?_
  refine XN ?_
  refine ad ?_
  refine dq ?_
  refine cw ?_
  exact lR rfl (xx 4 (cs:=hP f fa p a x b) rfl rfl rfl cP aM rfl rfl) λw' hw=>⟨⟨⟨b,false,[]⟩,hok.symm,λh=>by cases h⟩,rfl,Mem.jK (T:=[]) (ik.2 hw.1)⟩
 have hc': ¬((k<2/\st.length=0)\/((k=2\/k=3)/\xs.length=0)\/(4<=k/\(ys.length=0\/pd.length=0))):=by
  rw [<-vR] at hc
  simp only [pR,de,fg] at hc
  omega
 have hok:Ah k st.length xs.length ys.length pd.length=true:=by
  unfold Ah
  rw [jZ,<-vR]
  simp only [pR,de,fg]
  omega
 clear hc
 refine bZ ?_
 refine ad ?_
 refine ak ?_
 refine ak ?_
 refine R0 ?_
 refine xV (ay (v:= .int _ _) (q0 rfl)) rfl rfl ?_
 refine XN ?_
 refine ad ?_
 refine ke [7,8,9,10,71,72,73,74,75,76,77,78,79,80,81,82,83,84,85,86,87,88,89,90,91,92,93,94,95,96,97,98,99,100,101,102,103,104,105,106,107,108,109,110,111,112,113,114,115,116,117,118,119,120,121,122,123,124,125,126,127,128,129,130,131,132,133,134,135,136,137,138,139,140,141,142,143,144,145,146,147,148,149,150,151,152,153,154,155,156,157,158,159,160,161,162,163,164,165,166,167,168,169,170,171,172,173,174,175,176,177,178,179,180,181,182,183,184,185,186] (λs:(Option Addr×Nat)×(Option Addr×Nat)×(Option Addr×Nat)×(Option Addr×Nat)=>[(7, .slice s.1.1 (eD 0 k i pf st).length s.1.2),(8, .slice s.2.1.1 (eD 2 k i oN xs).length s.2.1.2),(9, .slice s.2.2.1.1 (eD 4 k i oO ys).length s.2.2.1.2),(10, .slice s.2.2.2.1 (eD 6 k i pg pd).length s.2.2.2.2)]) (λs=>[kE s.2.2.1.1 s.2.2.1.2 (eD 4 k i oO ys),mP s.2.2.2.1 s.2.2.2.2 (eD 6 k i pg pd),iE s.1.1 s.1.2 (eD 0 k i pf st),eI s.2.1.1 s.2.1.2 (eD 2 k i oN xs),box b4 56 Od,box b2 56 (hP f fa p a x b)]) (λ_=>True) ?_ ?_
 ·refine cq ?_
  refine ak ?_
  refine R0 ?_
  refine xV (jE (q0 rfl) (q0 rfl)) rfl rfl ?_
  refine xV (aU (v:= .bool _) (q0 rfl)) rfl rfl ?_
  refine XN ?_
  refine ad ?_
  refine bD rfl (λh0=>?_) (λh0=>?_)
  ·have hk0:k=0:=by have h9:(k:Int)=0:=cC h0;omega
   clear hk8
   subst hk0
   have hl:0<st.length:=by omega
   obtain ⟨m,hm⟩: ∃m,i%st.length=m:=⟨_,rfl⟩
   have hml:m<st.length:=by rw [<-hm];exact l0 _ hl
   obtain ⟨s,hs⟩: ∃s,st[m]?=some s:=⟨_,ah hml⟩
   have hS:eD 0 0 i pf st=st.set m (pf s):=by unfold eD;rw [aB rfl,hm];exact vu hs
   refine gM (λw hw=>And.intro (fG (j:=2) hw rfl (by omega)) (kP hw (j:=2) rfl).1) λ⟨⟨sb,hsb⟩,hcap⟩=>?_
   subst hsb
   refine R0 ?_
   refine xV (ay (v:= .slice _ _ _) (q0 rfl)) rfl rfl ?_
   refine xV (ay (v:= .int _ _) (q0 rfl)) rfl rfl ?_
   refine xV (ay (v:= .slice _ _ _) (q0 rfl)) rfl rfl ?_
   refine xV (dw bI (q0 rfl)) rfl rfl ?_
   refine xV (qe hm (q0 rfl) (q0 rfl) ⟨by omega,hl⟩) rfl rfl ?_
   refine xV (cx m bI cy (q0 rfl) (q0 rfl) (λ_=>⟨rfl,hml⟩)) rfl rfl ?_
   refine xV (az bz rfl ae rfl (q0 rfl)) rfl rfl ?_
   refine xV (gB (v:= .int .i64 s.place) aj (q0 rfl) (rr (r:=2) 2 (enc:=gy.cells) rfl hs rfl)) rfl rfl ?_
   refine xV (Jo (q0 rfl) (q0 rfl)) rfl rfl ?_
   refine xV (cx m bI cy (q0 rfl) (q0 rfl) (λ_=>⟨rfl,hml⟩)) rfl rfl ?_
   refine xV (az bz rfl ae rfl (q0 rfl)) rfl rfl ?_
   refine cQ (iw 2 (k:=6) (enc:=gy.cells) (off:=2) (pf s) rfl rfl ae rfl rfl rfl hs rfl rfl ?_)
   refine XN ?_
   refine bc ?_
   exact aO ((some ⟨sb,0,none⟩,sc),(rA,rc),(fA,fc),(pA,pc)) (by repeat (first|exact aK|exact aN|refine a8 rfl ?_|refine aJ rfl ?_|refine aD rfl ?_)) ⟨by show Value.slice (some ⟨sb,0,none⟩) _ _=Value.slice (some ⟨sb,0,none⟩) (eD 0 0 i pf st).length _;rw [hS,gP],rfl,rfl,rfl,trivial⟩ (λw hw=>by
    show Mem _ [kE fA fc (eD 4 0 i oO ys),mP pA pc (eD 6 0 i pg pd),iE (some ⟨sb,0,none⟩) sc (eD 0 0 i pf st),eI rA rc (eD 2 0 i oN xs),_,_] w
    rw [hS]
    exact hw) rfl trivial
  have hn0:k≠0:=by
   intro e
   simp [e] at h0
  refine ak ?_
  refine R0 ?_
  refine xV (jE (q0 rfl) (q0 rfl)) rfl rfl ?_
  refine xV (aU (v:= .bool _) (q0 rfl)) rfl rfl ?_
  refine XN ?_
  refine ad ?_
  refine bD rfl (λh1=>?_) (λh1=>?_)
  ·have hk0:k=1:=by have h9:(k:Int)=1:=cC h1;omega
   clear hk8
   subst hk0
   have hl:0<st.length:=by omega
   obtain ⟨m,hm⟩: ∃m,i%st.length=m:=⟨_,rfl⟩
   have hml:m<st.length:=by rw [<-hm];exact l0 _ hl
   obtain ⟨s,hs⟩: ∃s,st[m]?=some s:=⟨_,ah hml⟩
   have hS:eD 0 1 i pf st=st.eraseIdx m:=by unfold eD;rw [an (by decide),aB rfl,hm]
   refine gM (λw hw=>And.intro (fG (j:=2) hw rfl (by omega)) (kP hw (j:=2) rfl).1) λ⟨⟨sb,hsb⟩,hcap⟩=>?_
   subst hsb
   refine Lj 3 rfl (by decide+kernel) ?_
   refine aV 0 (by decide+kernel) rfl (ay (v:= .slice _ _ _) (q0 rfl)) rfl ?_
   refine aV 1 (by decide+kernel) rfl (ay (v:= .int _ _) (q0 rfl)) rfl ?_
   refine aV 2 (by decide+kernel) rfl (ay (v:= .slice _ _ _) (q0 rfl)) rfl ?_
   refine aV 3 (by decide+kernel) rfl (dw bI (q0 rfl)) rfl ?_
   refine aV 4 (by decide+kernel) rfl (qe hm (q0 rfl) (q0 rfl) ⟨by omega,hl⟩) rfl ?_
   refine aV 5 (by decide+kernel) rfl (uW m bI cy (q0 rfl) (q0 rfl) (λ_=>⟨rfl,gL (P8 hml) hcap⟩)) rfl ?_
   refine aV 6 (by decide+kernel) rfl (ay (v:= .slice _ _ _) (q0 rfl)) rfl ?_
   refine aV 7 (by decide+kernel) rfl (ay (v:= .int _ _) (q0 rfl)) rfl ?_
   refine aV 8 (by decide+kernel) rfl (ay (v:= .slice _ _ _) (q0 rfl)) rfl ?_
   refine aV 9 (by decide+kernel) rfl (dw bI (q0 rfl)) rfl ?_
   refine aV 10 (by decide+kernel) rfl (qe hm (q0 rfl) (q0 rfl) ⟨by omega,hl⟩) rfl ?_
   refine aV 11 (by decide+kernel) rfl (eT (q0 rfl) (q0 rfl) (λ_=>⟨rfl,by omega,by omega⟩)) rfl ?_
   refine aV 12 (by decide+kernel) rfl (qD (m+1) bI cy (q0 rfl) (q0 rfl) (λ_=>⟨rfl,by omega⟩)) rfl ?_
   refine eu (i:=13) (by decide+kernel) (au 3) ?_
   refine aL rfl (AT 2 m (k:=6) (i:=Tryz.t98) (enc:=gy.cells) (zs:=st) bI (by kernel_rfl) rfl rfl rfl rfl (λ_=>rfl) (λ_=>rfl) rfl rfl rfl (by omega) ⟨by omega,by decide⟩ rfl ?_)
   refine aV 14 (by decide+kernel) rfl (aU (v:= .slice _ _ _) (q0 rfl)) rfl ?_
   refine aZ (by decide+kernel) (au 3) ?_
   refine bc ?_
   exact aO ((some ⟨sb,0,none⟩,sc),(rA,rc),(fA,fc),(pA,pc)) (by repeat (first|exact aK|exact aN|refine a8 rfl ?_|refine aJ rfl ?_|refine aD rfl ?_)) ⟨by show Value.slice (some ⟨sb,0,none⟩) _ _=Value.slice (some ⟨sb,0,none⟩) (eD 0 1 i pf st).length _;rw [hS],rfl,rfl,rfl,trivial⟩ (λw hw=>by
    show Mem _ [kE fA fc (eD 4 1 i oO ys),mP pA pc (eD 6 1 i pg pd),iE (some ⟨sb,0,none⟩) sc (eD 0 1 i pf st),eI rA rc (eD 2 1 i oN xs),_,_] w
    rw [hS]
    exact hw) rfl trivial
  have hn1:k≠1:=by
   intro e
   simp [e] at h1
  refine ak ?_
  refine R0 ?_
  refine xV (jE (q0 rfl) (q0 rfl)) rfl rfl ?_
  refine xV (aU (v:= .bool _) (q0 rfl)) rfl rfl ?_
  refine XN ?_
  refine ad ?_
  refine bD rfl (λh2=>?_) (λh2=>?_)
  ·have hk0:k=2:=by have h9:(k:Int)=2:=cC h2;omega
   clear hk8
   subst hk0
   have hl:0<xs.length:=by omega
   obtain ⟨m,hm⟩: ∃m,i%xs.length=m:=⟨_,rfl⟩
   have hml:m<xs.length:=by rw [<-hm];exact l0 _ hl
   obtain ⟨s,hs⟩: ∃s,xs[m]?=some s:=⟨_,ah hml⟩
   have hS:eD 2 2 i oN xs=xs.set m (oN s):=by unfold eD;rw [aB rfl,hm];exact vu hs
   refine gM (λw hw=>And.intro (fG (j:=3) hw rfl (by omega)) (kP hw (j:=3) rfl).1) λ⟨⟨sb,hsb⟩,hcap⟩=>?_
   subst hsb
   refine R0 ?_
   refine xV (ay (v:= .slice _ _ _) (q0 rfl)) rfl rfl ?_
   refine xV (ay (v:= .int _ _) (q0 rfl)) rfl rfl ?_
   refine xV (ay (v:= .slice _ _ _) (q0 rfl)) rfl rfl ?_
   refine xV (dw aT (q0 rfl)) rfl rfl ?_
   refine xV (qe hm (q0 rfl) (q0 rfl) ⟨by omega,hl⟩) rfl rfl ?_
   refine xV (cx m aT ba (q0 rfl) (q0 rfl) (λ_=>⟨rfl,hml⟩)) rfl rfl ?_
   refine xV (az bE rfl cz rfl (q0 rfl)) rfl rfl ?_
   refine xV (az eJ rfl ae rfl (q0 rfl)) rfl rfl ?_
   refine xV (gB (v:= .int .i64 s.r.end_.hi) aj (q0 rfl) (rr (r:=5) 3 (enc:=RX.cells) rfl hs rfl)) rfl rfl ?_
   refine xV (Jo (q0 rfl) (q0 rfl)) rfl rfl ?_
   refine xV (cx m aT ba (q0 rfl) (q0 rfl) (λ_=>⟨rfl,hml⟩)) rfl rfl ?_
   refine xV (az bE rfl cz rfl (q0 rfl)) rfl rfl ?_
   refine xV (az eJ rfl ae rfl (q0 rfl)) rfl rfl ?_
   refine cQ (iw 3 (k:=13) (enc:=RX.cells) (off:=5) (oN s) rfl rfl ae rfl rfl rfl hs rfl rfl ?_)
   refine XN ?_
   refine bc ?_
   exact aO ((sA,sc),(some ⟨sb,0,none⟩,rc),(fA,fc),(pA,pc)) (by repeat (first|exact aK|exact aN|refine a8 rfl ?_|refine aJ rfl ?_|refine aD rfl ?_)) ⟨rfl,by show Value.slice (some ⟨sb,0,none⟩) _ _=Value.slice (some ⟨sb,0,none⟩) (eD 2 2 i oN xs).length _;rw [hS,gP],rfl,rfl,trivial⟩ (λw hw=>by
    show Mem _ [kE fA fc (eD 4 2 i oO ys),mP pA pc (eD 6 2 i pg pd),iE sA sc (eD 0 2 i pf st),eI (some ⟨sb,0,none⟩) rc (eD 2 2 i oN xs),_,_] w
    rw [hS]
    exact hw) rfl trivial
  have hn2:k≠2:=by
   intro e
   simp [e] at h2
  refine ak ?_
  refine R0 ?_
  refine xV (jE (q0 rfl) (q0 rfl)) rfl rfl ?_
  refine xV (aU (v:= .bool _) (q0 rfl)) rfl rfl ?_
  refine XN ?_
  refine ad ?_
  refine bD rfl (λh3=>?_) (λh3=>?_)
  ·have hk0:k=3:=by have h9:(k:Int)=3:=cC h3;omega
   clear hk8
   subst hk0
   have hl:0<xs.length:=by omega
   obtain ⟨m,hm⟩: ∃m,i%xs.length=m:=⟨_,rfl⟩
   have hml:m<xs.length:=by rw [<-hm];exact l0 _ hl
   obtain ⟨s,hs⟩: ∃s,xs[m]?=some s:=⟨_,ah hml⟩
   have hS:eD 2 3 i oN xs=xs.eraseIdx m:=by unfold eD;rw [an (by decide),aB rfl,hm]
   refine gM (λw hw=>And.intro (fG (j:=3) hw rfl (by omega)) (kP hw (j:=3) rfl).1) λ⟨⟨sb,hsb⟩,hcap⟩=>?_
   subst hsb
   refine Lj 4 rfl (by decide+kernel) ?_
   refine aV 0 (by decide+kernel) rfl (ay (v:= .slice _ _ _) (q0 rfl)) rfl ?_
   refine aV 1 (by decide+kernel) rfl (ay (v:= .int _ _) (q0 rfl)) rfl ?_
   refine aV 2 (by decide+kernel) rfl (ay (v:= .slice _ _ _) (q0 rfl)) rfl ?_
   refine aV 3 (by decide+kernel) rfl (dw aT (q0 rfl)) rfl ?_
   refine aV 4 (by decide+kernel) rfl (qe hm (q0 rfl) (q0 rfl) ⟨by omega,hl⟩) rfl ?_
   refine aV 5 (by decide+kernel) rfl (uW m aT ba (q0 rfl) (q0 rfl) (λ_=>⟨rfl,gL (P8 hml) hcap⟩)) rfl ?_
   refine aV 6 (by decide+kernel) rfl (ay (v:= .slice _ _ _) (q0 rfl)) rfl ?_
   refine aV 7 (by decide+kernel) rfl (ay (v:= .int _ _) (q0 rfl)) rfl ?_
   refine aV 8 (by decide+kernel) rfl (ay (v:= .slice _ _ _) (q0 rfl)) rfl ?_
   refine aV 9 (by decide+kernel) rfl (dw aT (q0 rfl)) rfl ?_
   refine aV 10 (by decide+kernel) rfl (qe hm (q0 rfl) (q0 rfl) ⟨by omega,hl⟩) rfl ?_
   refine aV 11 (by decide+kernel) rfl (eT (q0 rfl) (q0 rfl) (λ_=>⟨rfl,by omega,by omega⟩)) rfl ?_
   refine aV 12 (by decide+kernel) rfl (qD (m+1) aT ba (q0 rfl) (q0 rfl) (λ_=>⟨rfl,by omega⟩)) rfl ?_
   refine eu (i:=13) (by decide+kernel) (au 4) ?_
   refine aL rfl (AT 3 m (k:=13) (i:=Tryz.t78) (enc:=RX.cells) (zs:=xs) aT (by kernel_rfl) rfl rfl rfl rfl (λ_=>rfl) (λ_=>rfl) rfl rfl rfl (by omega) ⟨by omega,by decide⟩ rfl ?_)
   refine aV 14 (by decide+kernel) rfl (aU (v:= .slice _ _ _) (q0 rfl)) rfl ?_
   refine aZ (by decide+kernel) (au 4) ?_
   refine bc ?_
   exact aO ((sA,sc),(some ⟨sb,0,none⟩,rc),(fA,fc),(pA,pc)) (by repeat (first|exact aK|exact aN|refine a8 rfl ?_|refine aJ rfl ?_|refine aD rfl ?_)) ⟨rfl,by show Value.slice (some ⟨sb,0,none⟩) _ _=Value.slice (some ⟨sb,0,none⟩) (eD 2 3 i oN xs).length _;rw [hS],rfl,rfl,trivial⟩ (λw hw=>by
    show Mem _ [kE fA fc (eD 4 3 i oO ys),mP pA pc (eD 6 3 i pg pd),iE sA sc (eD 0 3 i pf st),eI (some ⟨sb,0,none⟩) rc (eD 2 3 i oN xs),_,_] w
    rw [hS]
    exact hw) rfl trivial
  have hn3:k≠3:=by
   intro e
   simp [e] at h3
  refine ak ?_
  refine R0 ?_
  refine xV (jE (q0 rfl) (q0 rfl)) rfl rfl ?_
  refine xV (aU (v:= .bool _) (q0 rfl)) rfl rfl ?_
  refine XN ?_
  refine ad ?_
  refine bD rfl (λh4=>?_) (λh4=>?_)
  ·have hk0:k=4:=by have h9:(k:Int)=4:=cC h4;omega
   clear hk8
   subst hk0
   have hl:0<ys.length:=by omega
   obtain ⟨m,hm⟩: ∃m,i%ys.length=m:=⟨_,rfl⟩
   have hml:m<ys.length:=by rw [<-hm];exact l0 _ hl
   obtain ⟨s,hs⟩: ∃s,ys[m]?=some s:=⟨_,ah hml⟩
   have hS:eD 4 4 i oO ys=ys.set m (oO s):=by unfold eD;rw [aB rfl,hm];exact vu hs
   refine gM (λw hw=>And.intro (fG (j:=0) hw rfl (by omega)) (kP hw (j:=0) rfl).1) λ⟨⟨sb,hsb⟩,hcap⟩=>?_
   subst hsb
   refine R0 ?_
   refine xV (ay (v:= .slice _ _ _) (q0 rfl)) rfl rfl ?_
   refine xV (ay (v:= .int _ _) (q0 rfl)) rfl rfl ?_
   refine xV (ay (v:= .slice _ _ _) (q0 rfl)) rfl rfl ?_
   refine xV (dw cj (q0 rfl)) rfl rfl ?_
   refine xV (qe hm (q0 rfl) (q0 rfl) ⟨by omega,hl⟩) rfl rfl ?_
   refine xV (cx m cj dx (q0 rfl) (q0 rfl) (λ_=>⟨rfl,hml⟩)) rfl rfl ?_
   refine xV (az ct rfl ae rfl (q0 rfl)) rfl rfl ?_
   refine xV (gB (v:= .int .i64 s.b.total) aj (q0 rfl) (rr (r:=3) 0 (enc:=FX.cells) rfl hs rfl)) rfl rfl ?_
   refine xV (Jo (q0 rfl) (q0 rfl)) rfl rfl ?_
   refine xV (cx m cj dx (q0 rfl) (q0 rfl) (λ_=>⟨rfl,hml⟩)) rfl rfl ?_
   refine xV (az ct rfl ae rfl (q0 rfl)) rfl rfl ?_
   refine cQ (iw 0 (k:=4) (enc:=FX.cells) (off:=3) (oO s) rfl rfl ae rfl rfl rfl hs rfl rfl ?_)
   refine XN ?_
   refine bc ?_
   exact aO ((sA,sc),(rA,rc),(some ⟨sb,0,none⟩,fc),(pA,pc)) (by repeat (first|exact aK|exact aN|refine a8 rfl ?_|refine aJ rfl ?_|refine aD rfl ?_)) ⟨rfl,rfl,by show Value.slice (some ⟨sb,0,none⟩) _ _=Value.slice (some ⟨sb,0,none⟩) (eD 4 4 i oO ys).length _;rw [hS,gP],rfl,trivial⟩ (λw hw=>by
    show Mem _ [kE (some ⟨sb,0,none⟩) fc (eD 4 4 i oO ys),mP pA pc (eD 6 4 i pg pd),iE sA sc (eD 0 4 i pf st),eI rA rc (eD 2 4 i oN xs),_,_] w
    rw [hS]
    exact hw) rfl trivial
  have hn4:k≠4:=by
   intro e
   simp [e] at h4
  refine ak ?_
  refine R0 ?_
  refine xV (jE (q0 rfl) (q0 rfl)) rfl rfl ?_
  refine xV (aU (v:= .bool _) (q0 rfl)) rfl rfl ?_
  refine XN ?_
  refine ad ?_
  refine bD rfl (λh5=>?_) (λh5=>?_)
  ·have hk0:k=5:=by have h9:(k:Int)=5:=cC h5;omega
   clear hk8
   subst hk0
   have hl:0<ys.length:=by omega
   obtain ⟨m,hm⟩: ∃m,i%ys.length=m:=⟨_,rfl⟩
   have hml:m<ys.length:=by rw [<-hm];exact l0 _ hl
   obtain ⟨s,hs⟩: ∃s,ys[m]?=some s:=⟨_,ah hml⟩
   have hS:eD 4 5 i oO ys=ys.eraseIdx m:=by unfold eD;rw [an (by decide),aB rfl,hm]
   refine gM (λw hw=>And.intro (fG (j:=0) hw rfl (by omega)) (kP hw (j:=0) rfl).1) λ⟨⟨sb,hsb⟩,hcap⟩=>?_
   subst hsb
   refine Lj 1 rfl (by decide+kernel) ?_
   refine aV 0 (by decide+kernel) rfl (ay (v:= .slice _ _ _) (q0 rfl)) rfl ?_
   refine aV 1 (by decide+kernel) rfl (ay (v:= .int _ _) (q0 rfl)) rfl ?_
   refine aV 2 (by decide+kernel) rfl (ay (v:= .slice _ _ _) (q0 rfl)) rfl ?_
   refine aV 3 (by decide+kernel) rfl (dw cj (q0 rfl)) rfl ?_
   refine aV 4 (by decide+kernel) rfl (qe hm (q0 rfl) (q0 rfl) ⟨by omega,hl⟩) rfl ?_
   refine aV 5 (by decide+kernel) rfl (uW m cj dx (q0 rfl) (q0 rfl) (λ_=>⟨rfl,gL (P8 hml) hcap⟩)) rfl ?_
   refine aV 6 (by decide+kernel) rfl (ay (v:= .slice _ _ _) (q0 rfl)) rfl ?_
   refine aV 7 (by decide+kernel) rfl (ay (v:= .int _ _) (q0 rfl)) rfl ?_
   refine aV 8 (by decide+kernel) rfl (ay (v:= .slice _ _ _) (q0 rfl)) rfl ?_
   refine aV 9 (by decide+kernel) rfl (dw cj (q0 rfl)) rfl ?_
   refine aV 10 (by decide+kernel) rfl (qe hm (q0 rfl) (q0 rfl) ⟨by omega,hl⟩) rfl ?_
   refine aV 11 (by decide+kernel) rfl (eT (q0 rfl) (q0 rfl) (λ_=>⟨rfl,by omega,by omega⟩)) rfl ?_
   refine aV 12 (by decide+kernel) rfl (qD (m+1) cj dx (q0 rfl) (q0 rfl) (λ_=>⟨rfl,by omega⟩)) rfl ?_
   refine eu (i:=13) (by decide+kernel) (au 1) ?_
   refine aL rfl (AT 0 m (k:=4) (i:=Tryz.t81) (enc:=FX.cells) (zs:=ys) cj (by kernel_rfl) rfl rfl rfl rfl (λ_=>rfl) (λ_=>rfl) rfl rfl rfl (by omega) ⟨by omega,by decide⟩ rfl ?_)
   refine aV 14 (by decide+kernel) rfl (aU (v:= .slice _ _ _) (q0 rfl)) rfl ?_
   refine aZ (by decide+kernel) (au 1) ?_
   refine bc ?_
   exact aO ((sA,sc),(rA,rc),(some ⟨sb,0,none⟩,fc),(pA,pc)) (by repeat (first|exact aK|exact aN|refine a8 rfl ?_|refine aJ rfl ?_|refine aD rfl ?_)) ⟨rfl,rfl,by show Value.slice (some ⟨sb,0,none⟩) _ _=Value.slice (some ⟨sb,0,none⟩) (eD 4 5 i oO ys).length _;rw [hS],rfl,trivial⟩ (λw hw=>by
    show Mem _ [kE (some ⟨sb,0,none⟩) fc (eD 4 5 i oO ys),mP pA pc (eD 6 5 i pg pd),iE sA sc (eD 0 5 i pf st),eI rA rc (eD 2 5 i oN xs),_,_] w
    rw [hS]
    exact hw) rfl trivial
  have hn5:k≠5:=by
   intro e
   simp [e] at h5
  refine ak ?_
  refine R0 ?_
  refine xV (jE (q0 rfl) (q0 rfl)) rfl rfl ?_
  refine xV (aU (v:= .bool _) (q0 rfl)) rfl rfl ?_
  refine XN ?_
  refine ad ?_
  refine bD rfl (λh6=>?_) (λh6=>?_)
  ·have hk0:k=6:=by have h9:(k:Int)=6:=cC h6;omega
   clear hk8
   subst hk0
   have hl:0<pd.length:=by omega
   obtain ⟨m,hm⟩: ∃m,i%pd.length=m:=⟨_,rfl⟩
   have hml:m<pd.length:=by rw [<-hm];exact l0 _ hl
   obtain ⟨s,hs⟩: ∃s,pd[m]?=some s:=⟨_,ah hml⟩
   have hS:eD 6 6 i pg pd=pd.set m (pg s):=by unfold eD;rw [aB rfl,hm];exact vu hs
   refine gM (λw hw=>And.intro (fG (j:=1) hw rfl (by omega)) (kP hw (j:=1) rfl).1) λ⟨⟨sb,hsb⟩,hcap⟩=>?_
   subst hsb
   refine R0 ?_
   refine xV (ay (v:= .slice _ _ _) (q0 rfl)) rfl rfl ?_
   refine xV (ay (v:= .int _ _) (q0 rfl)) rfl rfl ?_
   refine xV (ay (v:= .slice _ _ _) (q0 rfl)) rfl rfl ?_
   refine xV (dw bM (q0 rfl)) rfl rfl ?_
   refine xV (qe hm (q0 rfl) (q0 rfl) ⟨by omega,hl⟩) rfl rfl ?_
   refine xV (cx m bM eB (q0 rfl) (q0 rfl) (λ_=>⟨rfl,hml⟩)) rfl rfl ?_
   refine xV (az fO rfl ae rfl (q0 rfl)) rfl rfl ?_
   refine xV (gB (v:= .int .i64 s.fU) aj (q0 rfl) (rr (r:=2) 1 (enc:=rT) rfl hs rfl)) rfl rfl ?_
   refine xV (Jo (q0 rfl) (q0 rfl)) rfl rfl ?_
   refine xV (cx m bM eB (q0 rfl) (q0 rfl) (λ_=>⟨rfl,hml⟩)) rfl rfl ?_
   refine xV (az fO rfl ae rfl (q0 rfl)) rfl rfl ?_
   refine cQ (iw 1 (k:=3) (enc:=rT) (off:=2) (pg s) rfl rfl ae rfl rfl rfl hs rfl rfl ?_)
   refine XN ?_
   refine bc ?_
   exact aO ((sA,sc),(rA,rc),(fA,fc),(some ⟨sb,0,none⟩,pc)) (by repeat (first|exact aK|exact aN|refine a8 rfl ?_|refine aJ rfl ?_|refine aD rfl ?_)) ⟨rfl,rfl,rfl,by show Value.slice (some ⟨sb,0,none⟩) _ _=Value.slice (some ⟨sb,0,none⟩) (eD 6 6 i pg pd).length _;rw [hS,gP],trivial⟩ (λw hw=>by
    show Mem _ [kE fA fc (eD 4 6 i oO ys),mP (some ⟨sb,0,none⟩) pc (eD 6 6 i pg pd),iE sA sc (eD 0 6 i pf st),eI rA rc (eD 2 6 i oN xs),_,_] w
    rw [hS]
    exact hw) rfl trivial
  have hn6:k≠6:=by
   intro e
   simp [e] at h6
  have hk0:k=7:=by omega
  clear hk8
  subst hk0
  have hl:0<pd.length:=by omega
  obtain ⟨m,hm⟩: ∃m,i%pd.length=m:=⟨_,rfl⟩
  have hml:m<pd.length:=by rw [<-hm];exact l0 _ hl
  obtain ⟨s,hs⟩: ∃s,pd[m]?=some s:=⟨_,ah hml⟩
  have hS:eD 6 7 i pg pd=pd.eraseIdx m:=by unfold eD;rw [an (by decide),aB rfl,hm]
  refine gM (λw hw=>And.intro (fG (j:=1) hw rfl (by omega)) (kP hw (j:=1) rfl).1) λ⟨⟨sb,hsb⟩,hcap⟩=>?_
  subst hsb
  refine Lj 2 rfl (by decide+kernel) ?_
  refine aV 0 (by decide+kernel) rfl (ay (v:= .slice _ _ _) (q0 rfl)) rfl ?_
  refine aV 1 (by decide+kernel) rfl (ay (v:= .int _ _) (q0 rfl)) rfl ?_
  refine aV 2 (by decide+kernel) rfl (ay (v:= .slice _ _ _) (q0 rfl)) rfl ?_
  refine aV 3 (by decide+kernel) rfl (dw bM (q0 rfl)) rfl ?_
  refine aV 4 (by decide+kernel) rfl (qe hm (q0 rfl) (q0 rfl) ⟨by omega,hl⟩) rfl ?_
  refine aV 5 (by decide+kernel) rfl (uW m bM eB (q0 rfl) (q0 rfl) (λ_=>⟨rfl,gL (P8 hml) hcap⟩)) rfl ?_
  refine aV 6 (by decide+kernel) rfl (ay (v:= .slice _ _ _) (q0 rfl)) rfl ?_
  refine aV 7 (by decide+kernel) rfl (ay (v:= .int _ _) (q0 rfl)) rfl ?_
  refine aV 8 (by decide+kernel) rfl (ay (v:= .slice _ _ _) (q0 rfl)) rfl ?_
  refine aV 9 (by decide+kernel) rfl (dw bM (q0 rfl)) rfl ?_
  refine aV 10 (by decide+kernel) rfl (qe hm (q0 rfl) (q0 rfl) ⟨by omega,hl⟩) rfl ?_
  refine aV 11 (by decide+kernel) rfl (eT (q0 rfl) (q0 rfl) (λ_=>⟨rfl,by omega,by omega⟩)) rfl ?_
  refine aV 12 (by decide+kernel) rfl (qD (m+1) bM eB (q0 rfl) (q0 rfl) (λ_=>⟨rfl,by omega⟩)) rfl ?_
  refine eu (i:=13) (by decide+kernel) (au 2) ?_
  refine aL rfl (AT 1 m (k:=3) (i:=Tryz.t96) (enc:=rT) (zs:=pd) bM (by kernel_rfl) rfl rfl rfl rfl (λ_=>rfl) (λ_=>rfl) rfl rfl rfl (by omega) ⟨by omega,by decide⟩ rfl ?_)
  refine aV 14 (by decide+kernel) rfl (aU (v:= .slice _ _ _) (q0 rfl)) rfl ?_
  refine aZ (by decide+kernel) (au 2) ?_
  refine bc ?_
  exact aO ((sA,sc),(rA,rc),(fA,fc),(some ⟨sb,0,none⟩,pc)) (by repeat (first|exact aK|exact aN|refine a8 rfl ?_|refine aJ rfl ?_|refine aD rfl ?_)) ⟨rfl,rfl,rfl,by show Value.slice (some ⟨sb,0,none⟩) _ _=Value.slice (some ⟨sb,0,none⟩) (eD 6 7 i pg pd).length _;rw [hS],trivial⟩ (λw hw=>by
   show Mem _ [kE fA fc (eD 4 7 i oO ys),mP (some ⟨sb,0,none⟩) pc (eD 6 7 i pg pd),iE sA sc (eD 0 7 i pf st),eI rA rc (eD 2 7 i oN xs),_,_] w
   rw [hS]
   exact hw) rfl trivial
 rintro ⟨⟨sA,sc⟩,⟨rA,rc⟩,⟨fA,fc⟩,⟨pA,pc⟩⟩ g3 _
 obtain ⟨ns,hns⟩: ∃n,n=(eD 0 k i pf st).length:=⟨_,rfl⟩
 obtain ⟨nr,hnr⟩: ∃n,n=(eD 2 k i oN xs).length:=⟨_,rfl⟩
 obtain ⟨nf,hnf⟩: ∃n,n=(eD 4 k i oO ys).length:=⟨_,rfl⟩
 obtain ⟨np,hnp⟩: ∃n,n=(eD 6 k i pg pd).length:=⟨_,rfl⟩
 rw [<-hns,<-hnr,<-hnf,<-hnp]
 refine ad ?_
 refine ak ?_
 refine R0 ?_
 refine xV (ay (v:= .slice _ _ _) (q0 rfl)) rfl rfl ?_
 refine xV (az ax rfl eV rfl (q0 rfl)) rfl rfl ?_
 refine dN (k:=5) (v:= .slice sA ns sc) rfl rfl eV ?_;refine fJ (cs2:=hP f fa p a x {b with st:=⟨sA,ns,sc⟩}) (by kernel_rfl) ?_
 refine XN ?_
 refine ad ?_
 refine ak ?_
 refine R0 ?_
 refine xV (ay (v:= .slice _ _ _) (q0 rfl)) rfl rfl ?_
 refine xV (az ax rfl di rfl (q0 rfl)) rfl rfl ?_
 refine dN (k:=5) (v:= .slice rA nr rc) rfl rfl di ?_;refine fJ (cs2:=hP f fa p a x {b with st:=⟨sA,ns,sc⟩,rd:=⟨rA,nr,rc⟩}) (by kernel_rfl) ?_
 refine XN ?_
 refine ad ?_
 refine ak ?_
 refine R0 ?_
 refine xV (ay (v:= .slice _ _ _) (q0 rfl)) rfl rfl ?_
 refine xV (az ax rfl eM rfl (q0 rfl)) rfl rfl ?_
 refine dN (k:=5) (v:= .slice fA nf fc) rfl rfl eM ?_;refine fJ (cs2:=hP f fa p a x {b with st:=⟨sA,ns,sc⟩,rd:=⟨rA,nr,rc⟩,fr:=⟨fA,nf,fc⟩}) (by kernel_rfl) ?_
 refine XN ?_
 refine ad ?_
 refine ak ?_
 refine R0 ?_
 refine xV (ay (v:= .slice _ _ _) (q0 rfl)) rfl rfl ?_
 refine xV (az ax rfl gJ rfl (q0 rfl)) rfl rfl ?_
 refine xV (az dZ rfl eK rfl (q0 rfl)) rfl rfl ?_
 refine dN (k:=5) (v:= .slice pA np pc) rfl rfl eK ?_;refine fJ (cs2:=hP f fa p a x {b with st:=⟨sA,ns,sc⟩,rd:=⟨rA,nr,rc⟩,fr:=⟨fA,nf,fc⟩,pd:=⟨pA,np,pc⟩}) (by kernel_rfl) ?_
 refine XN ?_
 refine ad ?_
 refine ak ?_
 refine R0 ?_
 refine xV (eS cP aM (q0 rfl)) rfl rfl ?_
 refine dN (k:=4) (v:= .agg (hP f fa p a x {b with st:=⟨sA,ns,sc⟩,rd:=⟨rA,nr,rc⟩,fr:=⟨fA,nf,fc⟩,pd:=⟨pA,np,pc⟩}).toArray) rfl rfl aM ?_;refine fJ (cs2:=hP f fa p a x {b with st:=⟨sA,ns,sc⟩,rd:=⟨rA,nr,rc⟩,fr:=⟨fA,nf,fc⟩,pd:=⟨pA,np,pc⟩}) (by kernel_rfl) ?_
 refine xV (aU (v:= .bool _) (q0 rfl)) rfl rfl ?_
 refine XN ?_
 refine ad ?_
 refine dq ?_
 exact lR rfl (xx 4 (cs:=hP f fa p a x {b with st:=⟨sA,ns,sc⟩,rd:=⟨rA,nr,rc⟩,fr:=⟨fA,nf,fc⟩,pd:=⟨pA,np,pc⟩}) rfl rfl rfl cP aM rfl rfl) λw' hw=>⟨⟨⟨{b with st:=⟨sA,ns,sc⟩,rd:=⟨rA,nr,rc⟩,fr:=⟨fA,nf,fc⟩,pd:=⟨pA,np,pc⟩},true,[kE fA fc (eD 4 k i oO ys),mP pA pc (eD 6 k i pg pd),iE sA sc (eD 0 k i pf st),eI rA rc (eD 2 k i oN xs)]⟩,hok.symm,λ_=>⟨⟨(sA,sc),(rA,rc),(fA,fc),(pA,pc),by rw [hns,hnr,hnf,hnp]⟩,λu h=>by
  have l1:=pY 0 k i pf st
  have l2:=pY 2 k i oN xs
  have l3:=pY 4 k i oO ys
  have l4:=pY 6 k i pg pd
  rw [<-hns] at l1
  rw [<-hnr] at l2
  rw [<-hnf] at l3
  rw [<-hnp] at l4
  subst hns hnr hnf hnp
  exact ⟨ku h 2 rfl (λ_=>rfl) (by omega),ku h 3 rfl (λ_=>rfl) (by omega),ku h 0 rfl (λ_=>rfl) (by omega),ku h 1 rfl (λ_=>rfl) (by omega)⟩⟩⟩,rfl,(hw.pick [0,1,2,3] (by decide)).jK (T:=[_,_,_,_]) (L:=[])⟩
end Go.Proofs.Aud
namespace Go.Proofs.Aud
open Go.Proofs.Cus Go.Proofs.Rid Go.Proofs.Far Go.Proofs.Net
def uv:Fl:=⟨1,1,1,[],[]⟩
def yy:Pr:=⟨[⟨0,100,60,0,20,0⟩],[],[],[],0,[],0⟩
def zK:List Ev:=[⟨0,1,10,10,2,0,0,0,0⟩,⟨0,2,1010,1010,3,0,0,0,7⟩,⟨0,3,1600,1600,2,0,0,0,0⟩,⟨0,4,1601,1601,10,0,0,0,0⟩]
def vT (t:Int):List gy:=[⟨0,5,0,0,0,10⟩,⟨0,2,0,0,10,1010⟩,⟨0,3,0,7,1010,t⟩,⟨0,2,0,0,1600,4294944000⟩]
def DT:Rd:=⟨7,0,⟨1010,1010⟩,⟨1600,1600⟩,false,[⟨0,⟨1010,1010⟩,⟨1600,1600⟩⟩],[],2,0,2,0⟩
def G5:jq:=⟨7,0,[⟨1,0,100⟩,⟨2,0,200⟩],300⟩
def nB:Py:=⟨7,0,300⟩
theorem SN:gS uv yy=0:=by decide+kernel
theorem LU:dP uv zK=[DT]:=by unfold dP nw kR;simp only [<-C'];decide+kernel
theorem SM:fP uv zK 0=vT 1600:=by unfold fP;simp only [<-C'];decide+kernel
theorem LS:oQ uv zK=1601:=by decide+kernel
theorem Ui:yF uv yy [] [DT]=[G5]:=by decide+kernel
theorem SL:yF uv yy [] []=[]:=by decide+kernel
def N4 (s:Int) (fs:List jq) (pd:List Py):List Fd:=lQ (dP uv zK) ((dP uv zK).filter (dF s)) (yF uv yy [] ((dP uv zK).filter (dF s))) (oQ uv zK) [DT] fs pd s 0
theorem IC {s:Int} (h:dF s DT=true) (fs:List jq) (pd:List Py):N4 s fs pd=lQ [DT] [DT] [G5] 1601 [DT] fs pd s 0:=by
 unfold N4
 rw [LU,LS,iZ,aB h,List.filter_nil,Ui]
theorem SV {s:Int} (h:dF s DT=false) (fs:List jq) (pd:List Py):N4 s fs pd=lQ [DT] [] [] 1601 [DT] fs pd s 0:=by
 unfold N4
 rw [LU,LS,iZ,h,an (by decide),List.filter_nil,SL]
theorem SU:N4 1601 [G5] [nB]=[]:=by rw [IC (by decide+kernel)];decide+kernel
theorem SP:N4 1601 [G5] []=[⟨7,7,0⟩]:=by rw [IC (by decide+kernel)];decide+kernel
theorem SS:N4 1601 [G5] [nB,nB]=[⟨6,7,1⟩]:=by rw [IC (by decide+kernel)];decide+kernel
theorem SR:N4 1602 [G5] [nB]=[⟨8,0,-1⟩]:=by rw [IC (by decide+kernel)];decide+kernel
theorem SQ:N4 0 [] [nB]=[⟨8,7,0⟩]:=by rw [SV (by decide+kernel)];decide+kernel
theorem QR:kJ uv (0:Nat)=0:=by decide+kernel
theorem U1 (t:Int):iH uv zK (vT t)=Ay 1 (vT t) 4++((if rC 0 (vT t)=true then [] else [⟨2,0,0⟩])++((List.range 4).flatMap λi=>if (decide (((vT t).getD i default).bq=0)&&(!decide ((0:Int)=0)||!decide ((vT t).getD i default∈vT 1600)))=true then [⟨1,0,(i:Int)⟩] else [])):=by
 unfold iH BK
 show Ay 1 (vT t) 4++List.flatMap _ (List.range 1)=_
 rw [show List.range 1=[0] from rfl,nj,QH,bF]
 unfold Lc BJ Mx
 rw [show oo (vT t) 0=vT t by unfold oo vT;simp,an (show ¬vT t=[] by unfold vT;simp)]
 have h1:kJ uv (((0:Nat)):Int)=0:=QR
 have h2:fP uv zK (((0:Nat)):Int)=vT 1600:=SM
 rw [h1,h2]
 rfl
theorem LV:iH uv zK (vT 1600)=[]:=by rw [U1];decide+kernel
theorem SZ:iH uv zK (vT 1500)=[⟨2,0,0⟩,⟨1,0,2⟩]:=by rw [U1];decide+kernel
def SK (f:Fl) (xs:List Ev) (b:Nat):List (Int×Pos):=(gn f (jd (ud b)) (setOf xs) (dy (i6 f),[])).2
theorem Fp {f:Fl} (h:fy f=0) {k:Nat} (hk:k<f.cv.toNat):kJ f k=0:=by
 unfold kJ
 rw [an (λh2=>h2 h),an]
 simp
 omega
theorem q7 {f:Fl} (hok:fy f=0) {k:Nat} (hk:k<f.cv.toNat) (xs:List Ev):
  (∀x∈fP f xs k,x.bq=k)/\oV (λt=>ud k (ub f xs t)) 0 ((fP f xs k).map Si) 4294944000:=by
 have hnb:=wy hok
 have hbn:k<i6 f:=hk
 have hS:fP f xs k=(qC 4294944000 ((SK f xs k).foldl (Oz k) (wm k,[]))).2:=by
  unfold fP
  rw [aB (Fp hok hk)]
  have:=yD (f:=f) (g:=ud k) (Oz k) (cb:=mv k) (J8 k) (wm k,[]) (setOf xs) (dy (i6 f)) []
  simp only [List.foldl_nil] at this
  rw [show ((k:Int)).toNat=k from rfl,this]
  rfl
 have h0:tY k (wm k,[]):=⟨rfl,λx hx=>by simp at hx⟩
 have hbk:=Cl (t:=4294944000) (C4 k (SK f xs k) _ h0)
 have htri:(fP f xs k).map Si=yI 4294944000 ((SK f xs k).foldl wv ((0,(5,0,0)),[])):=by
  rw [hS,Gs,Fq]
  rfl
 refine ⟨by rw [hS];exact hbk,?_⟩
 obtain ⟨t1,t2⟩:=SJ f xs (ud k)
 have hc:=HH (p0:=((5,0,0):Pos)) (M:=4294943999) (SK f xs k) t1 t2 (by decide)
 rw [htri]
 have hp:ud k (dy (i6 f))=(5,0,0):=by
  unfold ud Mt dy
  rw [ar,jz,aB hbn]
  rfl
 have hv:LJ ((5,0,0):Pos) (SK f xs k)=λt=>ud k (ub f xs t):=by
  funext t
  rw [<-Uh f xs (ud k) t,hp]
  rfl
 rw [<-hv]
 exact hc
theorem uT {lo:Int} {s:gy} {l:List gy}:rC lo (s::l)=true↔s.from_=lo/\s.from_<s.jT/\rC s.jT l=true:=by
 rw [rC,de,fg,and_assoc]
theorem vG {v:Int->Pos}: ∀{l:List gy} {lo:Int},oV v lo (l.map Si) 4294944000->rC lo l=true/\ ∀s∈l,∀t,s.from_<=t->t<s.jT->v t=Ax s
 |[],lo,h=>⟨iU h,λs hs=>by cases hs⟩
 |x::l,lo,⟨h1,h2,h3,_,h5⟩=>by
  obtain ⟨i1,i2⟩:=vG (l:=l) h5
  refine ⟨?_,λs hs=>?_⟩
  ·exact uT.2 ⟨h1,h2,i1⟩
  rcases cn.1 hs with rfl|hs
  ·exact h3
  exact i2 s hs
def B7 (l:List gy):Int:=(l.map λs=>s.jT -s.from_).sum
theorem zT (l m:List gy):B7 (l++m)=B7 l+B7 m:=by simp [B7]
theorem Dk (s:gy) (l:List gy):B7 (s::l)=(s.jT -s.from_)+B7 l:=by simp [B7]
theorem EB: ∀{l:List gy} {lo:Int},rC lo l=true->lo+B7 l=4294944000
 |[],lo,h=>by
  have h2:lo=4294944000:=cC h
  simp [B7,h2]
 |s::l,lo,h=>by
  obtain ⟨h1,_,h3⟩:=uT.1 h
  have:=EB h3
  rw [Dk]
  omega
theorem AR: ∀{l:List gy} {lo:Int},rC lo l=true-> ∀s∈l,lo<=s.from_/\s.from_<s.jT/\s.jT<=4294944000
 |[],_,_,s,hs=>by cases hs
 |x::l,lo,h,s,hs=>by
  obtain ⟨h1,h2,h3⟩:=uT.1 h
  have h4:=AR h3
  have h5:x.jT<=4294944000:=by
   cases l with
   |nil=>
    have h6:x.jT=4294944000:=cC h3
    omega
   |cons y l=>
    have:=h4 y (dV ..)
    omega
  rcases cn.1 hs with rfl|hs
  ·omega
  have:=h4 s hs
  omega
theorem I': ∀{l:List gy} {lo:Int},rC lo l=true-> ∀s∈l,∀s'∈l,s.from_=s'.from_->s=s'
 |[],_,_,s,hs=>by cases hs
 |x::l,lo,h,s,hs=>λs' hs' he=>by
  obtain ⟨h1,h2,h3⟩:=uT.1 h
  have h4:=AR h3
  rcases cn.1 hs with e|e<;>rcases cn.1 hs' with e'|e'
  ·rw [e,e']
  ·have:=h4 s' e'
   rw [e] at he
   omega
  ·have:=h4 s e
   rw [e'] at he
   omega
  exact I' h3 s e s' e' he
theorem Bl (l m:List gy) (p t:Int):AG (l++m) p t=AG l p t+AG m p t:=by simp [AG]
theorem I9 {p t:Int}: ∀{l:List gy} {lo:Int},rC lo l=true->AG l p t<=1/\(t<lo->AG l p t=0)
 |[],_,_=>by simp [AG]
 |x::l,lo,h=>by
  obtain ⟨h1,h2,h3⟩:=uT.1 h
  obtain ⟨i1,i2⟩:=I9 (p:=p) (t:=t) h3
  have e:AG (x::l) p t=AG [x] p t+AG l p t:=Bl [x] l p t
  have e1:AG [x] p t<=1:=by unfold AG;exact dK _ _
  have e2:AG [x] p t=0\/(x.from_<=t/\t<x.jT):=by
   by_cases hb:Ot x p t=true
   ·right
    unfold Ot at hb
    simp at hb
    omega
   left
   simp [AG,hb]
  omega
theorem Fs (f:Fl) (xs:List Ev) (n:Nat):rP f xs (n+1)=rP f xs n++fP f xs n:=by unfold rP;rw [kj]
theorem IF {f:Fl} {xs:List Ev} {n:Nat} {s:gy}:s∈rP f xs n↔ ∃k,k<n/\s∈fP f xs k:=by
 unfold rP
 simp
theorem IB {f:Fl} (hok:fy f=0) (xs:List Ev) (k:Nat) (hk:k<f.cv.toNat): ∀n,n<=f.cv.toNat->oo (rP f xs n) k=if k<n then fP f xs k else []
 |0,_=>by simp [rP,oo]
 |n+1,hn=>by
  have ih:=IB hok xs k hk n (by omega)
  have hb:=(q7 hok (k:=n) (by omega) xs).1
  rw [Fs]
  unfold oo at ih|-
  rw [gi,ih]
  by_cases hkn:n=k
  ·subst hkn
   rw [an (by omega),aB (by omega),ir]
   exact JO.2 λs hs=>iU (hb s hs)
  rw [DH.2 λs hs=>by have:=hb s hs;simp;omega,bF]
  by_cases hlt:k<n
  ·rw [aB hlt,aB (by omega)]
  rw [an hlt,an (by omega)]
structure UJ (f:Fl) (xs:List Ev) (st:List gy):Prop where
 bq: ∀s∈st,∃k:Nat,k<f.cv.toNat/\s.bq=k/\s∈fP f xs k
 told: ∀k,k<f.cv.toNat->oo st k=fP f xs k
 To: ∀k,k<f.cv.toNat->rC 0 (fP f xs k)=true
theorem zk {f:Fl} (hok:fy f=0) (xs:List Ev):UJ f xs (rP f xs f.cv.toNat) where
 bq s hs:=by
  obtain ⟨k,hk,h⟩:=IF.1 hs
  exact ⟨k,hk,(q7 hok hk xs).1 s h,h⟩
 told k hk:=by rw [IB hok xs k hk _ (bA _),aB hk]
 To k hk:=(vG (q7 hok hk xs).2).1
theorem FK {f:Fl} (hok:fy f=0) (xs:List Ev):iH f xs (rP f xs f.cv.toNat)=[]:=by
 have h:=zk hok xs
 generalize rP f xs f.cv.toNat=st at h
 have hb:=kq hok
 unfold iH Ay BK
 rw [jP]
 constructor
 ·rw [gh]
  intro i hi
  have hi:i<st.length:=kg.1 hi
  rw [ar,ah hi,ix]
  obtain ⟨k,h1,h2,_⟩:=h.bq _ (vP hi)
  unfold OS
  rw [an (by omega)]
 rw [gh]
 intro k hk
 have hk:k<f.cv.toNat:=kg.1 hk
 unfold Lc
 rw [h.told k hk,aB (h.To k hk),ir]
 split
 ·rfl
 unfold BJ
 rw [gh]
 intro i hi
 have hi:i<st.length:=kg.1 hi
 rw [ar,ah hi,ix]
 obtain ⟨j,h1,h2,h3⟩:=h.bq _ (vP hi)
 unfold Mx
 rw [an]
 intro h4
 simp [Fp hok hk] at h4
 have:j=k:=by omega
 subst this
 exact h4.2 h3
theorem Dc {f:Fl} {xs:List Ev} {st:List gy} {k:Nat} (hk:k<f.cv.toNat) {d:Fd} (h:d∈Lc f xs st k):iH f xs st≠[]:=by
 intro h0
 unfold iH BK at h0
 rw [jP,gh] at h0
 have:=h0.2 k (kg.2 hk)
 rw [this] at h
 cases h
theorem HI {f:Fl} (hok:fy f=0) (xs:List Ev) {m:Nat} {s:gy} {v:Int} (hv:v≠s.place) (hs:(rP f xs f.cv.toNat)[m]?=some s):iH f xs ((rP f xs f.cv.toNat).set m {s with place:=v})≠[]:=by
 have h:=zk hok xs
 generalize rP f xs f.cv.toNat=st at h hs
 obtain ⟨hm,hms⟩:=ai.1 hs
 obtain ⟨k,hk,hsk,hin⟩:=h.bq s (aq hs)
 have hl:(st.set m {s with place:=v})[m]?=some {s with place:=v}:=by rw [cD,aB rfl,aB hm]
 refine Dc hk (d:=⟨1,k,m⟩) ?_
 unfold Lc
 refine uB _ ?_
 rw [an]
 ·unfold BJ
  refine iY.2 ⟨m,kg.2 (by rw [gP];exact hm),?_⟩
  rw [ar,hl,ix]
  unfold Mx
  rw [aB]
  ·exact cm.2 rfl
  have hn:({s with place:=v}:gy)∉fP f xs k:=λh2=>by
   have h3:=aP gy.place (I' (h.To k hk) _ h2 s hin rfl)
   exact hv h3
  rw [iU (show ({s with place:=v}:gy).bq=(k:Int) from hsk),jy hn]
  simp
 intro h0
 have:({s with place:=v}:gy)∈oo (st.set m {s with place:=v}) k:=gO.2 ⟨aq hl,iU hsk⟩
 rw [h0] at this
 cases this
theorem Ed {f:Fl} (hok:fy f=0) (xs:List Ev) {m:Nat} {s:gy} (hs:(rP f xs f.cv.toNat)[m]?=some s):iH f xs ((rP f xs f.cv.toNat).eraseIdx m)≠[]:=by
 have h:=zk hok xs
 generalize rP f xs f.cv.toNat=st at h hs
 obtain ⟨hm,hms⟩:=ai.1 hs
 obtain ⟨k,hk,hsk,hin⟩:=h.bq s (aq hs)
 refine Dc hk (d:=⟨2,k,0⟩) ?_
 unfold Lc
 refine qu _ ?_
 rw [an]
 ·exact cm.2 rfl
 intro h1
 have e1:=EB h1
 have e2:=EB (h.To k hk)
 rw [<-h.told k hk] at e2
 have e3:st=st.take m++s::st.drop (m+1):=by rw [<-hms,<-cH hm,gg]
 have e4:B7 (oo st k)=B7 (oo (st.eraseIdx m) k)+(s.jT -s.from_):=by
  rw [nk]
  conv=>lhs;rw [e3]
  unfold oo
  rw [gi,gi,iZ,aB (iU hsk),zT,zT,Dk]
  omega
 have:=AR (h.To k hk) s hin
 omega
theorem Fg {f:Fl} (hok:fy f=0) (xs:List Ev) (p t:Int): ∀n,n<=f.cv.toNat->AG (rP f xs n) p t<=((ub f xs t).aG.take n).countP (Cus.CJ 4 p)
 |0,_=>by simp [rP,AG]
 |n+1,hn=>by
  have ih:=Fg hok xs p t n (by omega)
  obtain ⟨hb,hc⟩:=q7 hok (k:=n) (by omega) xs
  obtain ⟨hg,hv⟩:=vG hc
  have h1:=(I9 (p:=p) (t:=t) hg).1
  have hlen:(ub f xs t).aG.length=i6 f:=(xq (wy hok) _ _ (jF.begin _)).len
  have hn2:n<(ub f xs t).aG.length:=by rw [hlen];exact hn
  obtain ⟨sp,hsp⟩: ∃sp,(ub f xs t).aG[n]?=some sp:=⟨_,ah hn2⟩
  rw [Fs,Bl,dY _ n sp hsp,List.countP_append,List.countP_singleton]
  by_cases hz:AG (fP f xs n) p t=0
  ·omega
  have:0<((fP f xs n).filter λy=>Ot y p t).length:=by unfold AG at hz;omega
  obtain ⟨s,hs⟩:=List.exists_mem_of_length_pos this
  obtain ⟨hs1,hs2⟩:=gO.1 hs
  unfold Ot at hs2
  simp at hs2
  have hv2:=hv s hs1 t (by omega) (by omega)
  unfold ud Mt Ax at hv2
  rw [ar,hsp,ix] at hv2
  have h3:=aP (·.1) hv2
  have h4:=aP (·.2.1) hv2
  simp only at h3 h4
  rw [aB (by unfold Cus.CJ;simp;omega)]
  omega
theorem Ff {f:Fl} (hok:fy f=0) (xs:List Ev) (pe:Nat->Int):mJ f.cI (rP f xs f.cv.toNat) 0 pe=[]:=by
 unfold mJ w4 Ee
 rw [List.range_zero,QH,bF,gh]
 intro s hs
 unfold J2
 rw [an]
 rintro ⟨h1,h2,h3,h4⟩
 obtain ⟨k,hk,hs⟩:=IF.1 hs
 obtain ⟨hb,hc⟩:=q7 hok hk xs
 obtain ⟨hg,hv⟩:=vG hc
 have hw:=AR hg s hs
 have hlen:(ub f xs s.from_).aG.length=i6 f:=(xq (wy hok) _ _ (jF.begin _)).len
 have hA:vW f.cI (ub f xs s.from_).aG:=C8 (wy hok) _ _ (jF.begin _) (vW.begin _ _)
 have hk2:k<(ub f xs s.from_).aG.length:=by rw [hlen];exact hk
 obtain ⟨sp,hsp⟩: ∃sp,(ub f xs s.from_).aG[k]?=some sp:=⟨_,ah hk2⟩
 have hv2:=hv s hs s.from_ (uo _) (by omega)
 unfold ud Mt Ax at hv2
 rw [ar,hsp,ix] at hv2
 have h5:=aP (·.1) hv2
 have h6:=aP (·.2.1) hv2
 simp only at h5 h6
 have h7:=(hA.P' sp (aq hsp) (by omega)).2.2
 have h8:=Fg hok xs s.place s.from_ _ (bA _)
 rw [bo (by rw [hlen];exact bA _)] at h8
 unfold countP at h7
 rw [h6] at h7
 omega
theorem Fj {each bud:Int} (h:0<=bud/\bud<=1000000):ko 0 each bud=[]:=by
 have:N7 bud=0:=by unfold N7;rw [aB h]
 simp [ko,nZ,AI,this]
theorem lL {α:Type} {g:α->Int} {l:List α} (h:(l.map g).Nodup) {i:Nat} {x:α} {v:Int} (hx:l[i]?=some x) (e:g x=v):(l.findIdx? λr=>decide (g r=v))=some i:=by
 subst e
 obtain ⟨hi,hxi⟩:=ai.1 hx
 rw [mo]
 refine ⟨hi,by rw [hxi];simp,λj hj=>?_⟩
 have hp:l.Pairwise λa b=>g a≠g b:=iD.1 h
 have:=bJ.1 hp j i (by omega) hi hj
 rw [hxi] at this
 simpa using this
theorem Cd {α:Type} {g:α->Int} {l:List α} {x:α} {v:Int} (hx:x∈l) (e:g x=v):(l.findIdx? λr=>decide (g r=v)).isSome=true:=by
 rw [Hc,l6]
 exact ⟨x,hx,iU e⟩
theorem Eu {α:Type} {g:α->Int} {l:List α} {v:Int} (h: ∀x∈l,g x≠v):(l.findIdx? λr=>decide (g r=v)).isSome=false:=by
 rw [Hc,p5]
 exact λx hx=>by simpa using h x hx
theorem y0 {α:Type} {g:α->Int} {l:List α} (h:(l.map g).Nodup) {m:Nat} {x:α} (hx:l[m]?=some x): ∀y∈l.eraseIdx m,g y≠g x:=λy hy e=>by
 obtain ⟨i,hi⟩:=Hb hy
 rw [List.getElem?_eraseIdx] at hi
 have h1:=lL h hx rfl
 split at hi
 ·have h2:=lL h hi e
  rw [h1] at h2
  have:=mZ h2
  omega
 have h2:=lL h hi e
 rw [h1] at h2
 have:=mZ h2
 omega
theorem Hv {α:Type} {l:List α} {m:Nat} {x y:α} (hx:l[m]?=some x):(l.set m y)[m]?=some y:=by
 rw [cD,aB rfl,aB (ai.1 hx).1]
theorem yY {α:Type} {l:List α} {g:Nat->α->List Fd} [Inhabited α] (h: ∀i x,l[i]?=some x->g i x=[]):((List.range l.length).flatMap λi=>g i (l.getD i default))=[]:=by
 rw [gh]
 intro i hi
 have hi:i<l.length:=kg.1 hi
 have hx:=ah hi
 rw [ar,hx]
 exact h i _ hx
theorem yX {α:Type} {l:List α} {g:Nat->α->List Fd} [Inhabited α] {m:Nat} {x:α} {d:Fd} (hx:l[m]?=some x) (h:d∈g m x):d∈(List.range l.length).flatMap λi=>g i (l.getD i default):=by
 refine iY.2 ⟨m,kg.2 (ai.1 hx).1,?_⟩
 rw [ar,hx]
 exact h
structure CC (rs ss:List Rd) (ys:List jq):Prop where
 nr:(rs.map (·.id)).Nodup
 ny:(ys.map (·.bn)).Nodup
 sub: ∀y∈ys,∃r∈ss,r.id=y.bn
 all: ∀r∈ss,∃y∈ys,y.bn=r.id
theorem CC.pd {rs ss:List Rd} {ys:List jq} (h:CC rs ss ys):((ys.map rU).map (·.bn)).Nodup:=by
 rw [jH]
 exact h.ny
section
variable {rs ss:List Rd} {ys:List jq} {hz settled:Int}
theorem HA (h:CC rs ss ys) (hs:settled<=hz):lQ rs ss ys hz rs ys (ys.map rU) settled 0=[]:=by
 have h1:AJ rs rs rs.length=[]:=by
  unfold AJ
  refine yY (g:=λi r=>IQ rs rs i r) λi r hr=>?_
  have e:Ce rs r.id=some i:=lL (g:=λr:Rd=>r.id) h.nr hr rfl
  unfold IQ Gw
  rw [e,an]
  simp [ar,hr,mQ]
 have h2:BB rs rs=[]:=by
  unfold BB
  rw [gh]
  exact λr hr=>aB (Cd (g:=λr:Rd=>r.id) hr rfl)
 have h3:AS ys ys ys.length=[]:=by
  unfold AS
  refine yY (g:=λi r=>Jb ys ys i r) λi r hr=>?_
  have e:Ey ys r.bn=some i:=lL (g:=λr:jq=>r.bn) h.ny hr rfl
  unfold Jb Gx
  rw [e,an]
  simp [ar,hr,mQ]
 have h4:Ch ys ys=[]:=by
  unfold Ch
  rw [gh]
  exact λr hr=>aB (Cd (g:=λr:jq=>r.bn) hr rfl)
 have h5:sV (ys.map rU) ss ys=[]:=by
  unfold sV kd km
  rw [jP]
  constructor
  ·refine yY (g:=λi p=>nR (ys.map rU) ss ys i p++sW ss i p) λi p hp=>?_
   have hp2:=hp
   rw [cV] at hp
   cases hy:ys[i]? with
   |none=>rw [hy] at hp;cases hp
   |some y=>
    rw [hy] at hp
    have hp:rU y=p:=mZ hp
    obtain ⟨r,hr,he⟩:=h.sub y (aq hy)
    have e1:(Ce ss p.bn).isSome=true:=Cd (g:=λr:Rd=>r.id) hr (by rw [he,<-hp];rfl)
    have e2:Ey ys p.bn=some i:=lL (g:=λr:jq=>r.bn) h.ny hy (by rw [<-hp];rfl)
    have e3:Lf (ys.map rU) p.bn=some i:=lL (g:=λr:Py=>r.bn) h.pd hp2 rfl
    unfold nR sW Ly
    rw [e1,e2,e3,aB rfl,bF,an]
    simp [ar,hy,mQ,<-hp,rU]
  rw [gh]
  intro r hr
  obtain ⟨y,hy,he⟩:=h.all r hr
  exact aB (Cd (g:=λr:Py=>r.bn) (cW.2 ⟨y,hy,rfl⟩) he)
 unfold lQ
 rw [h1,h2,h3,h4,h5,an (by omega),an (by simp)]
 rfl
theorem vt {A B C D E F G:List Fd} {d:Fd} (h:d∈A\/d∈B\/d∈C\/d∈D\/d∈E):[]++A++B++C++D++E++F++G≠[]:=by
 intro h0
 simp only [jP] at h0
 obtain ⟨⟨⟨⟨⟨⟨⟨_,ha⟩,hb⟩,hc⟩,hd⟩,he⟩,_⟩,_⟩:=h0
 subst ha hb hc hd he
 simp at h
theorem Kg (h:CC rs ss ys) {m:Nat} {r r':Rd} (hr:rs[m]?=some r) (hi:r'.id=r.id) (hn:r≠r') (fs:List jq) (pd:List Py):lQ rs ss ys hz (rs.set m r') fs pd settled 0≠[]:=by
 refine vt (d:=⟨4,r'.id,m⟩) (.inl ?_)
 unfold AJ
 refine yX (g:=λi x=>IQ rs (rs.set m r') i x) (Hv hr) ?_
 have e:Ce rs r'.id=some m:=lL (g:=λr:Rd=>r.id) h.nr hr hi.symm
 unfold IQ Gw
 rw [e,aB]
 ·exact cm.2 rfl
 simp [ar,hr,hn]
theorem FC (h:CC rs ss ys) {m:Nat} {r:Rd} (hr:rs[m]?=some r) (fs:List jq) (pd:List Py):lQ rs ss ys hz (rs.eraseIdx m) fs pd settled 0≠[]:=by
 refine vt (d:=⟨4,r.id,-1⟩) (.inr (.inl ?_))
 unfold BB
 refine iY.2 ⟨r,aq hr,?_⟩
 rw [an]
 ·exact cm.2 rfl
 have e:(Ce (rs.eraseIdx m) r.id).isSome=false:=Eu (g:=λr:Rd=>r.id) (y0 (g:=λr:Rd=>r.id) h.nr hr)
 rw [e]
 simp
theorem KL (h:CC rs ss ys) {m:Nat} {y y':jq} (hy:ys[m]?=some y) (hi:y'.bn=y.bn) (hn:y≠y') (l:List Rd) (pd:List Py):lQ rs ss ys hz l (ys.set m y') pd settled 0≠[]:=by
 refine vt (d:=⟨5,y'.bn,m⟩) (.inr (.inr (.inl ?_)))
 unfold AS
 refine yX (g:=λi x=>Jb ys (ys.set m y') i x) (Hv hy) ?_
 have e:Ey ys y'.bn=some m:=lL (g:=λr:jq=>r.bn) h.ny hy hi.symm
 unfold Jb Gx
 rw [e,aB]
 ·exact cm.2 rfl
 simp [ar,hy,hn]
theorem Gq (h:CC rs ss ys) {m:Nat} {y:jq} (hy:ys[m]?=some y) (l:List Rd) (pd:List Py):lQ rs ss ys hz l (ys.eraseIdx m) pd settled 0≠[]:=by
 refine vt (d:=⟨5,y.bn,-1⟩) (.inr (.inr (.inr (.inl ?_))))
 unfold Ch
 refine iY.2 ⟨y,aq hy,?_⟩
 rw [an]
 ·exact cm.2 rfl
 have e:(Ey (ys.eraseIdx m) y.bn).isSome=false:=Eu (g:=λr:jq=>r.bn) (y0 (g:=λr:jq=>r.bn) h.ny hy)
 rw [e]
 simp
theorem MD (h:CC rs ss ys) {m:Nat} {y:jq} {v:Int} (hy:ys[m]?=some y) (hv:v≠y.total) (l:List Rd) (fs:List jq):lQ rs ss ys hz l fs ((ys.map rU).set m {rU y with fU:=v}) settled 0≠[]:=by
 refine vt (d:=⟨6,y.bn,m⟩) (.inr (.inr (.inr (.inr ?_))))
 unfold sV kd
 refine qu _ ?_
 have hp:(ys.map rU)[m]?=some (rU y):=by rw [cV,hy];rfl
 refine yX (g:=λi x=>nR ((ys.map rU).set m {rU y with fU:=v}) ss ys i x++sW ss i x) (Hv hp) ?_
 refine qu _ ?_
 obtain ⟨r,hr,he⟩:=h.sub y (aq hy)
 have e1:(Ce ss y.bn).isSome=true:=Cd (g:=λr:Rd=>r.id) hr he
 have e2:Ey ys y.bn=some m:=lL (g:=λr:jq=>r.bn) h.ny hy rfl
 have e4:({rU y with fU:=v}:Py).bn=y.bn:=rfl
 unfold nR Ly
 rw [e4,e1,e2,aB]
 ·exact cm.2 rfl
 simp [ar,hy,Ne.symm hv]
theorem HP (h:CC rs ss ys) {m:Nat} {y:jq} (hy:ys[m]?=some y) (l:List Rd) (fs:List jq):lQ rs ss ys hz l fs ((ys.map rU).eraseIdx m) settled 0≠[]:=by
 refine vt (d:=⟨7,y.bn,0⟩) (.inr (.inr (.inr (.inr ?_))))
 unfold sV km
 refine uB _ ?_
 obtain ⟨r,hr,he⟩:=h.sub y (aq hy)
 refine iY.2 ⟨r,hr,?_⟩
 have hp:(ys.map rU)[m]?=some (rU y):=by rw [cV,hy];rfl
 rw [an]
 ·rw [he];exact cm.2 rfl
 have e:(Lf ((ys.map rU).eraseIdx m) r.id).isSome=false:=Eu (g:=λr:Py=>r.bn) (by rw [he];exact y0 (g:=λr:Py=>r.bn) h.pd hp)
 rw [e]
 simp
end
theorem zq (dv:Int) (hkeep: ∀(l:List Ev) (e:Ev),(kW dv l e).2.2≠0->(kW dv l e).1=l) (cX:List Ev): ∀n,jA dv [] (iR dv (cX.take n))=jA dv [] (cX.take n)
 |0=>by simp [iR,wF,jA]
 |n+1=>by
  rcases uA n cX.length with h|h
  ·have ih:=zq dv hkeep cX n
   rw [dY cX n _ (ah h),zv,tZ]
   split
   ·rw [tZ,ih]
   rename_i h2
   rw [ih,hkeep _ _ h2]
  have ih:=zq dv hkeep cX n
  rw [bo h] at ih
  rw [bo (by omega)]
  exact ih
theorem QQ {f:Fl} {p:Pr} {cX:List Ev} {t:Int} (hid:((dP f cX).map (·.id)).Nodup) (hal:jw f p ((dP f cX).filter (dF t)) []=0)
  (hperm:((sg f p ((dP f cX).filter (dF t)) []).map (·.bn)).Perm ((((dP f cX).filter (dF t)).filter λr=>!r.open_).map (·.id))):CC (dP f cX) ((dP f cX).filter (dF t)) (yF f p [] ((dP f cX).filter (dF t))):=by
 have hcl:(((dP f cX).filter (dF t)).filter λr=>!r.open_)=(dP f cX).filter (dF t):=by
  rw [JO]
  intro r hr
  have:=(gO.1 hr).2
  unfold dF at this
  simp at this
  simp [this.1]
 have hy:yF f p [] ((dP f cX).filter (dF t))=sg f p ((dP f cX).filter (dF t)) []:=by unfold yF;rw [aB hal]
 rw [hcl] at hperm
 rw [hy]
 refine ⟨hid,?_,λy hy=>?_,λr hr=>?_⟩
 ·exact hperm.nodup_iff.2 (hid.sublist (List.filter_sublist.map _))
 ·obtain ⟨r,h1,h2⟩:=cW.1 (hperm.mem_iff.1 (cW.2 ⟨y,hy,rfl⟩))
  exact ⟨r,h1,h2⟩
 obtain ⟨y,h1,h2⟩:=cW.1 (hperm.mem_iff.2 (cW.2 ⟨r,hr,rfl⟩))
 exact ⟨y,h1,h2⟩
end Go.Proofs.Aud
namespace Go.Proofs.Aud
open Go Go.RowKit Go.Proofs.E Go.Proofs.Cus Go.Proofs.Rid Go.Proofs.Far Go.Proofs.Net
structure yh (w:World) (f:Fl) (fa:FA) (p:Pr) (a:tz) (b:BX) (cX:List Ev) (st:List gy) (xs:List RX) (ys:List FX) (pds:List Py):Prop where
 fl:mE w f fa
 pr:qh w p a
 ev:rO w b.ev.A b.ev.n cX
 sy:eG w 6 gy.cells b.st.A b.st.n st
 rd:lZ w b.rd.A b.rd.n xs
 fr:eG w 4 FX.cells b.fr.A b.fr.n ys/\ ∀x∈ys,eG w 3 CE.cells x.A x.b.items.length x.b.items
 pd:eG w 3 rT b.pd.A b.pd.n pds
 vs:b.vs=⟨none,0,0⟩
 rf:b.rf=⟨none,0,0⟩
 ok:gS f p=0
 pl:zz cX
 sz:cX.length<=40/\st.length<=1000/\xs.length<=10000/\ys.length<=10000/\pds.length<=10000
section
variable {w:World} {f:Fl} {fa:FA} {p:Pr} {a:tz} {b:BX} {cX:List Ev} {st:List gy} {xs:List RX} {ys:List FX} {pds:List Py} {x:SX}
theorem yh.Qs {u:World} (h:yh w f fa p a b cX st xs ys pds) (hb:fM w u):yh u f fa p a b cX st xs ys pds:=
 have hm:=ik.2 hb
 ⟨h.fl.mem hm,h.pr.mem hm,h.ev.mem hm,h.sy.mem hm,h.rd.mem hm,⟨h.fr.1.mem hm,λx hx=>(h.fr.2 x hx).mem hm⟩,h.pd.mem hm,h.vs,h.rf,h.ok,h.pl,h.sz⟩
theorem BI (hok:fy f=0) (hs:st.length<=1000):(iH f cX st).length<=200000:=by
 have h1:(Ay f.cv st st.length).length<=st.length*1:=by unfold Ay;exact dX (λi=>by unfold OS;split<;>simp) _
 have h2: ∀k,(BJ f cX st k st.length).length<=st.length*1:=λk=>by unfold BJ;exact dX (λi=>by unfold Mx;split<;>simp) _
 have h3:(BK f cX st f.cv.toNat).length<=f.cv.toNat*1001:=by
  unfold BK
  refine dX (λk=>?_) _
  have:=h2 k
  unfold Lc
  rw [aQ]
  split<;>split<;>simp<;>omega
 have:=kq hok
 unfold iH
 rw [aQ]
 omega
def RF (f:Fl) (p:Pr) (cX:List Ev) (t:Int) (rs:List Rd) (fs:List jq) (pds:List Py):List Fd:=lQ (dP f cX) ((dP f cX).filter (dF t)) (yF f p [] ((dP f cX).filter (dF t))) (oQ f cX) rs fs pds t 0
theorem Kh {ts ss:List Rd} {us:List jq} {h t:Int} {rs:List Rd} {fs:List jq} (h1:ts.length<=100) (h2:ss.length<=100) (h3:us.length<=100) (h4:rs.length<=10000) (h5:fs.length<=10000) (h6:pds.length<=10000):(lQ ts ss us h rs fs pds t 0).length<=200000:=by
 have a1:(AJ ts rs rs.length).length<=rs.length*1:=by unfold AJ;exact dX (λi=>by unfold IQ;split<;>simp) _
 have a2:(BB rs ts).length<=ts.length*1:=by unfold BB;exact lM (λr=>by split<;>simp) _
 have a3:(AS us fs fs.length).length<=fs.length*1:=by unfold AS;exact dX (λi=>by unfold Jb;split<;>simp) _
 have a4:(Ch fs us).length<=us.length*1:=by unfold Ch;exact lM (λr=>by split<;>simp) _
 have a5:=yJ pds ss us
 unfold lQ
 simp only [aQ,dO]
 split<;>split<;>simp<;>omega
theorem NS (h:yh w f fa p a b cX st xs ys pds) (t:Int):(RF f p cX t (xs.map (·.r)) (ys.map (·.b)) pds).length<=200000:=by
 obtain ⟨s1,s2,s3,s4,s5⟩:=h.sz
 have e1:2*(dP f cX).length<=cX.length:=vI cX
 have e2:=dK (dF t) (dP f cX)
 have e3:=He f p [] ((dP f cX).filter (dF t))
 exact Kh (by omega) (by omega) (by omega) (by rw [aS];omega) (by rw [aS];omega) (by omega)
theorem Qi (h:yh w f fa p a b cX st xs ys pds):jc 11 (hP f fa p a x b) (lU (iH f cX st)) w:=
 have ho:=BG h.ok
 Mu f fa p a x b _ w h.fl h.pr h.ok (gL (BI ho h.sz.2.1) (by decide)) λu hu=>
  have q:=h.Qs hu
  Kk f fa p a x b cX st u q.fl q.ev q.sy ho h.sz.1 h.pl h.sz.2.1
theorem Mp (h:yh w f fa p a b cX st xs ys pds):jc 15 (hP f fa p a x b) (lU (RF f p cX b.settled (xs.map (·.r)) (ys.map (·.b)) pds)) w:=
 D1 f fa p a x b _ w h.fl h.pr h.ok (gL (NS h b.settled) (by decide)) λu hu=>
  have q:=h.Qs hu
  Ml f fa p a x b cX [] pds xs ys _ _ 0 u q.fl q.pr q.ev (by rw [h.vs];exact ⟨rfl,by decide,λh=>absurd h (by decide)⟩) h.ok h.sz.1 h.pl q.rd rfl q.fr rfl q.pd ⟨by rw [aS];exact h.sz.2.2.1,by rw [aS];exact h.sz.2.2.2.1,h.sz.2.2.2.2⟩ λz u _ _ _=>by rw [h.rf];exact FE z.t.y u
theorem Qa (h:yh w f fa p a b cX st xs ys pds) (pls:List (Sl×Sl)) (pe:Nat->Int) (hps:eG w 2 BH b.pl.A b.pl.n pls) (hn:pls.length<=1000)
  (hpe: ∀i q,pls[i]?=some q-> ∀u,Calls Tryz.prog 411 #[.agg #[.int .i64 x.nodes,x.Gu.v,x.cI.v,x.FT.v, .int .i64 x.handle], .agg (BH q).toArray] u λe w'=>e= .returned (.int .i64 (pe i))/\fM u w'):jc 13 (hP f fa p a x b) (lU (mJ f.cI st pls.length pe)) w:=
 LQ f fa p a x b _ w h.fl h.pr h.ok (by
  have h1:(w4 f.cI st st).length<=st.length*1:=by unfold w4;exact lM (DX _ _) _
  have h2:(Ee pe pls.length).length<=pls.length*1:=by unfold Ee;exact dX (λi=>by split<;>simp) _
  have:=h.sz.2.1
  unfold mJ
  rw [aQ]
  omega) λu hu=>
  have q:=h.Qs hu
  JZ f fa p a x b st pls pe u q.fl q.sy (hps.mem (ik.2 hu)) ⟨by have:=h.sz.2.1;omega,by omega⟩ λi z hz u _=>hpe i z hz u
theorem Qb (h:yh w f fa p a b cX st xs ys pds) (rels:List Int) (hrl:eG w 10 Q9 b.rl.A b.rl.n rels) (hsp:b.sp=⟨none,0,0⟩) (hn:rels.length<=100):jc 17 (hP f fa p a x b) (lU (ko rels.length x.each x.kB)) w:=
 L0 f fa p a x b _ w h.fl h.pr h.ok (by
  have h1:(nZ rels.length).length<=rels.length*1:=by unfold nZ;exact dX (λi=>by simp) _
  have h2:(AI x.each rels.length).length<=rels.length*1:=by unfold AI;exact dX (λi=>by split<;>simp) _
  unfold ko
  rw [aQ]
  split<;>simp<;>omega) λu hu=>
  have q:=h.Qs hu
  J4 f fa p a x b cX [] rels u q.fl q.pr q.ev (by rw [h.vs];exact ⟨rfl,by decide,λh=>absurd h (by decide)⟩) h.ok h.sz.1 h.pl (hrl.mem (ik.2 hu)) hsp hn
def AF (f:Fl) (p:Pr) (cX:List Ev) (st:List gy) (rs:List Rd) (fs:List jq) (pds:List Py) (t each bud:Int):List Fd:=lU (lU (iH f cX st)++lU (RF f p cX t rs fs pds)++lU (mJ f.cI st 0 λ_=>0)++lU (ko 0 each bud))
theorem CA (h:yh w f fa p a b cX st xs ys pds) (hrl:b.rl=⟨none,0,0⟩) (hsp:b.sp=⟨none,0,0⟩) (hpl:b.pl=⟨none,0,0⟩):jc 19 (hP f fa p a x b) (AF f p cX st (xs.map (·.r)) (ys.map (·.b)) pds b.settled x.each x.kB) w:=by
 refine RY f fa p a x b _ _ _ _ w (λu hu=>Qi (h.Qs hu)) (λu hu=>Mp (h.Qs hu)) (λu hu=>Qa (h.Qs hu) [] (λ_=>0) (by rw [hpl];exact ⟨rfl,by decide,λh=>absurd h (by decide)⟩) (by decide) (λi q hq=>by simp at hq)) (λu hu=>Qb (h.Qs hu) [] (by rw [hrl];exact ⟨rfl,by decide,λh=>absurd h (by decide)⟩) hsp (by decide)) ⟨?_,?_,?_,?_⟩
 ·exact gL (AL _) (BI (BG h.ok) h.sz.2.1)
 ·exact gL (AL _) (NS h b.settled)
 ·have h1:(w4 f.cI st st).length<=st.length*1:=by unfold w4;exact lM (DX _ _) _
  have:=AL (mJ f.cI st 0 λ_=>0)
  have h2:=h.sz.2.1
  unfold mJ at this|-
  rw [aQ] at this
  simp only [Ee,List.range_zero,QH,dO] at this|-
  omega
 have:=AL (ko 0 x.each x.kB)
 have h2:(ko 0 x.each x.kB).length<=1:=by unfold ko nZ AI;simp;split<;>simp
 show (lU (ko 0 x.each x.kB)).length<=_
 omega
theorem Sg {rs:List Rd} {fs:List jq} {t each bud:Int} (h1:iH f cX st=[]) (h2:RF f p cX t rs fs pds=[]) (h3:(mJ f.cI st 0 λ_=>0)=[]) (h4:ko 0 each bud=[]):AF f p cX st rs fs pds t each bud=[]:=by
 unfold AF
 rw [h1,h2,h3,h4]
 rfl
theorem P6 {rs:List Rd} {fs:List jq} {t each bud:Int} (h:iH f cX st≠[]\/RF f p cX t rs fs pds≠[]):0<(AF f p cX st rs fs pds t each bud).length:=by
 rw [List.length_pos_iff]
 intro h0
 unfold AF at h0
 rw [IZ] at h0
 simp only [jP,IZ] at h0
 rcases h with h|h
 ·exact h h0.1.1.1
 exact h h0.1.1.2
end
end Go.Proofs.Aud
namespace Go.Proofs.Aud
open Go Go.RowKit Go.Proofs.E Go.Proofs.Cus Go.Proofs.Rid Go.Proofs.Far Go.Proofs.Net
theorem Fv (x y:Fd) (w:World):(Op.equal 65 (.agg (Fd.cells x).toArray) (.agg (Fd.cells y).toArray)).run Tryz.prog w= .ok (decide (x=y)) w:=by
 have h:(Op.equalIn 10000 65 (.agg (Fd.cells x).toArray) (.agg (Fd.cells y).toArray)).run Tryz.prog w= .ok ((x.k==y.k&&(x.a==y.a&&(x.b==y.b&&true)))) w:=
  rI w bU (by kernel_rfl) (fL w (by decide) (bQ w aj rfl) (bQ w aj rfl) (run_equalIn_int w _ _ .i64 .i64 _ _ av) (fL w (by decide) (bQ w aj rfl) (bQ w aj rfl) (run_equalIn_int w _ _ .i64 .i64 _ _ av) (fL w (by decide) (bQ w aj rfl) (bQ w aj rfl) (run_equalIn_int w _ _ .i64 .i64 _ _ av) (oy w))))
 have e:((x.k==y.k&&(x.a==y.a&&(x.b==y.b&&true))))=decide (x=y):=by
  rw [gQ]
  cases x;cases y
  simp
 rw [<-e];exact h
theorem uI (A B:Option Addr) (n m c d:Nat) (xs ys:List Fd) (w:World) (hx:eG w 3 Fd.cells A n xs) (hy:eG w 3 Fd.cells B m ys):
  Calls Tryz.prog 10 #[.slice A n c, .slice B m d] w λe w'=>e= .returned (.bool (decide (xs=ys)))/\fM w w':=by
 have hl:=hx.1
 have hn:=hx.2.1
 have hl2:=hy.1
 refine dd Tryz.func10 rfl Tryz.ntmps10 rfl ?_
 refine ak ?_
 refine R0 ?_
 refine xV (aU (v:= .bool _) (q0 rfl)) rfl rfl ?_
 refine XN ?_
 refine ad ?_
 refine ak ?_
 refine ak ?_
 refine R0 ?_
 refine xV (ay (v:= .slice _ _ _) (q0 rfl)) rfl rfl ?_
 refine xV (dw bg (q0 rfl)) rfl rfl ?_
 refine xV (ay (v:= .slice _ _ _) (q0 rfl)) rfl rfl ?_
 refine xV (dw bg (q0 rfl)) rfl rfl ?_
 refine xV (ki (q0 rfl) (q0 rfl)) rfl rfl ?_
 refine XN ?_
 refine ad ?_
 refine bD rfl (λh1=>?_) (λh1=>?_)
 ·refine ak ?_
  refine R0 ?_
  refine xV (aU (v:= .bool _) (q0 rfl)) rfl rfl ?_
  refine XN ?_
  refine ad ?_
  refine dq ?_
  refine cw ?_
  exact cu (v:= .bool _) rfl rfl rfl λw' hw=>⟨fK (by
   rw [eq_comm,nV]
   intro e
   rw [e] at hl
   simp at h1
   omega),hw.1⟩
 have hnm:n=m:=by simp at h1;omega
 subst hnm
 refine bZ ?_
 refine ad ?_
 refine ak ?_
 refine ak ?_
 refine R0 ?_
 refine xV (aU (v:= .int _ _) (q0 rfl)) rfl rfl ?_
 refine XN ?_
 refine ad ?_
 refine cq ?_
 refine ef [4,5,11,12,13,14,15,16,17,18,19,20,21,22,23,24,25] (λk:Nat=>[(5, .int .i64 k)]) (λ_=>[]) (λk=>k<=n/\xs.take k=ys.take k) (λk=>n -k) 0 ⟨rfl,trivial⟩ (λ_ h=>h) rfl ⟨bj _,rfl⟩ ?_
 rintro k g ⟨hk,hall⟩
 refine ak ?_
 refine ak ?_
 refine R0 ?_
 refine xV (ay (v:= .int _ _) (q0 rfl)) rfl rfl ?_
 refine xV (ay (v:= .slice _ _ _) (q0 rfl)) rfl rfl ?_
 refine xV (dw bg (q0 rfl)) rfl rfl ?_
 refine xV (gK (q0 rfl) (q0 rfl)) rfl rfl ?_
 refine XN ?_
 refine ad ?_
 refine bD rfl (λhlt=>?_) (λhlt=>?_)
 ·simp at hlt
  obtain ⟨b,off,x,rfl,hbl,hxk,hrx⟩:=hx.at_ hlt
  obtain ⟨b2,off2,y,rfl,hbl2,hyk,hry⟩:=hy.at_ hlt
  refine bZ ?_
  refine ad ?_
  refine ak ?_
  refine cq ?_
  refine ak ?_
  refine R1 rfl (by decide+kernel) ?_
  refine xV (ay (v:= .slice _ _ _) (q0 rfl)) rfl rfl ?_
  refine xV (ay (v:= .int _ _) (q0 rfl)) rfl rfl ?_
  refine xV (cx _ bg cr (q0 rfl) (q0 rfl) (λ_=>⟨rfl,by omega⟩)) rfl rfl ?_
  refine xV (eS qn cr (q0 rfl)) rfl rfl ?_
  refine xV (ay (v:= .slice _ _ _) (q0 rfl)) rfl rfl ?_
  refine xV (ay (v:= .int _ _) (q0 rfl)) rfl rfl ?_
  refine xV (cx _ bg cr (q0 rfl) (q0 rfl) (λ_=>⟨rfl,by omega⟩)) rfl rfl ?_
  refine xV (eS qn cr (q0 rfl)) rfl rfl ?_
  refine xV (Aa (λw=>Fv x y w) (by kernel_rfl) (q0 rfl) (q0 rfl)) rfl rfl ?_
  refine XN ?_
  refine ad ?_
  refine bD rfl (λhb=>?_) (λhb=>?_)
  ·refine ak ?_
   refine R0 ?_
   refine xV (aU (v:= .bool _) (q0 rfl)) rfl rfl ?_
   refine XN ?_
   refine ad ?_
   refine dq ?_
   refine dU ?_
   refine cw ?_
   refine iJ ?_
   refine dU ?_
   refine cw ?_
   exact cu (v:= .bool _) rfl rfl rfl λw' hw=>⟨fK (by
    rw [eq_comm,nV]
    intro e
    rw [e,hyk] at hxk
    cases hxk
    simp at hb),hw.1⟩
  have hxy:x=y:=by simpa using hb
  refine bZ ?_
  refine bc ?_
  refine ad ?_
  refine R0 ?_
  refine xV (ay (v:= .int _ _) (q0 rfl)) rfl rfl ?_
  refine xV (eT (q0 rfl) (q0 rfl) (λ_=>⟨rfl,by omega,by omega⟩)) rfl rfl ?_
  refine xV (aU (v:= .int _ _) (q0 rfl)) rfl rfl ?_
  refine XN ?_
  exact aH (k+1) (by repeat (first|exact aK|exact aN|refine a8 rfl ?_|refine aJ rfl ?_|refine aD rfl ?_)) ⟨rfl,trivial⟩ (λw hw=>ik.2 hw.1) rfl ⟨by omega,by rw [dY _ _ _ hxk,dY _ _ _ hyk,hall,hxy]⟩ (by show n -(k+1)<n -k;omega)
 obtain rfl:k=n:=by simp at hlt;omega
 refine fz ?_
 refine cJ ?_
 refine cM ?_
 refine cK ?_
 refine ad ?_
 refine ak ?_
 refine R0 ?_
 refine xV (aU (v:= .bool _) (q0 rfl)) rfl rfl ?_
 refine XN ?_
 refine ad ?_
 refine dq ?_
 exact cu (v:= .bool _) rfl rfl rfl λw' hw=>⟨fK (by
  rw [eq_comm,fg]
  rw [bo (by omega),bo (by omega)] at hall
  exact hall),hw.1⟩
section
variable {c:Cx} {PQ:PJ} {w0:World} {L:List E.Item} {f:Fr} {ops rest:List Oper} {d:Nat} {ty:TypeId} {pos:String} {af:Array Edge}
theorem R5 {L':List E.Item} (hm: ∀w,Mem w0 L w->Mem w0 L' w) (hk:marks L'=marks L) (h:XL false c ops rest PQ w0 L' f):XL false c ops rest PQ w0 L f:=NX hm hk h
theorem pB {α:Type} {enc:α->List Value} (xs:List α) {t el:TypeId} {size:Nat} {parts:List (Nat×Operand)} {vs:List (Nat×Value)} {z:Value} (zs:List Value) (ht:c.P.underlying t=some (.slice el)) (hs: ∀w,(sizeOf el).run c.P w= .ok size w) (hz: ∀w,(zeroValue el).run c.P w= .ok z w)
  (hlen:(Nat.ble (xs.length*size) 16777216&&!Nat.beq (xs.length*size) 0)=true) (hzr:(Array.range (xs.length*size)).map (z.cells[· %z.cells.size]!)=zs.toArray) (hp:tt f parts vs) (hok:(u9 (nn size xs.length) zs.length vs=true/\JA (nn size xs.length) zs vs=xs.flatMap enc)/\Nat.ble xs.length 1000000=true) (hd:Nat.blt d c.N=true) (he: ∀x,(enc x).length=size)
  (next: ∀b,XL false c ops rest PQ w0 (dS el size enc (some ⟨b,0,none⟩) xs.length xs::L) (kV f d (.slice (some ⟨b,0,none⟩) xs.length xs.length))):XL false c ops (⟨some d, .buildSlice t xs.length parts.toArray,ty,pos,af,none⟩::rest) PQ w0 L f:=
 CB zs ht hs hz hlen hzr hp hok.1.1 hd λb=>R5 (λw hw=>(Mem.EO (j:=0) (enc:=enc) (xs:=xs) hw (by rw [hok.1.2];rfl) he (dW hok.2))) rfl (next b)
end
theorem T5 (t:Int) (w:World):Calls Tryz.prog 58 #[.int .i64 t] w λe w'=>e= .returned (.agg #[.int .i64 t, .int .i64 t])/\fM w w':=by
 refine dd Tryz.func58 rfl Tryz.ntmps58 rfl ?_
 refine ak ?_
 refine R0 ?_
 refine bS p4 rfl λb2=>?_
 refine XN ?_
 refine ad ?_
 refine ak ?_
 refine R0 ?_
 refine xV (ay (v:= .int _ _) (q0 rfl)) rfl rfl ?_
 refine xV (ay (v:= .int _ _) (q0 rfl)) rfl rfl ?_
 refine xV (bN eJ Ph p4 (pt (v:= .int _ _) rfl (pt (v:= .int _ _) rfl E.p0)) rfl) rfl rfl ?_
 refine dN (v:= .agg _) rfl rfl cz ?_
 refine XN ?_
 refine ad ?_
 refine dq ?_
 exact lR rfl (OM rfl rfl ff cz) λw' hw=>⟨rfl,hw.1⟩
structure TZ where
 t:Nat
 e:Nat
 s:Nat
 l:Nat
 r:Nat
 i:Nat
 f:Nat
 p:Nat
abbrev iy (b:Nat):Option Addr:=some ⟨b,0,none⟩
abbrev bX:Sl:=⟨none,0,0⟩
def M5:FA:=⟨none,0,0,none,0,0⟩
def SO (z:TZ):tz:=⟨⟨iy z.t,1,1⟩,bX,bX,bX,bX⟩
def qw (each:Int):SX:=⟨0,bX,bX,bX,0,bX,0,bX,each,0,0,0,0,0⟩
def DW (z:TZ) (s:Int) (fr pd rl pl:Sl):BX:=⟨s,⟨iy z.e,4,4⟩,⟨iy z.s,4,4⟩,⟨iy z.r,1,1⟩,bX,fr,pd,bX,rl,bX,pl⟩
def CM (z:TZ):RX:=⟨DT,⟨iy z.l,1,none,0⟩⟩
def DV (z:TZ):FX:=⟨G5,iy z.i,2⟩
def Bk (z:TZ) (each s:Int) (fr pd rl pl:Sl):List Value:=hP uv M5 yy (SO z) (qw each) (DW z s fr pd rl pl)
def DU (z:TZ) (t:Int) (P:Option Addr) (c:Nat) (pd:List Py):List E.Item:=[mP P c pd,kE (iy z.f) 1 [DV z],rz (iy z.i) 2 G5.items,eI (iy z.r) 1 [CM z],uf (iy z.l) 1 DT.db,iE (iy z.s) 4 (vT t),gY (iy z.e) 4 zK,dS 139 6 Tf.cells (iy z.t) 1 yy.jU]
theorem tL {α:Type} {w:World} {k:Nat} {enc:α->List Value}:eG w k enc none 0 []:=⟨rfl,by decide,λh=>absurd h (by decide)⟩
theorem zJ {u:World} {z:TZ} {t s:Int} {P:Option Addr} {c:Nat} {pd:List Py} (h: ∀it∈DU z t P c pd,it.A u) (rl pl:Sl) (hn:pd.length<=100):yh u uv M5 yy (SO z) (DW z s ⟨iy z.f,1,1⟩ ⟨P,pd.length,c⟩ rl pl) zK (vT t) [CM z] [DV z] pd where
 fl:=⟨tL,tL⟩
 pr:=⟨ku h 7 rfl (λ_=>rfl) (by decide),tL,tL,tL,tL⟩
 ev:=ku h 6 rfl (λ_=>rfl) (by decide)
 sy:=ku (xs:=vT t) h 5 rfl (λ_=>rfl) (by show 4<=_;decide)
 rd:=⟨ku h 3 rfl (λ_=>rfl) (show 1<=9223372036854775807 by decide),λy hy=>by
  rw [cm] at hy
  subst hy
  exact ⟨ku h 4 rfl (λ_=>rfl) (show 1<=9223372036854775807 by decide),tL⟩⟩
 fr:=⟨ku h 1 rfl (λ_=>rfl) (show 1<=9223372036854775807 by decide),λy hy=>by
  rw [cm] at hy
  subst hy
  exact ku h 2 rfl (λ_=>rfl) (show 2<=9223372036854775807 by decide)⟩
 pd:=ku h 0 rfl (λ_=>rfl) (by omega)
 vs:=rfl
 rf:=rfl
 ok:=SN
 pl:=by
  intro e he
  simp only [zK,cn,QE,or_false] at he
  rcases he with rfl|rfl|rfl|rfl<;>decide
 sz:=⟨by decide,by show 4<=_;decide,by show 1<=_;decide,by show 1<=_;decide,by omega⟩
theorem Uv {fs:Array Field} (h:Tryz.prog.underlying 24=some (.struct fs):=by exact dI):df Tryz.prog fs [(0,1),(1,1),(2,1),(3,1),(4,1)]:=by
 rw [dI] at h
 cases h
 intro w
 kernel_rfl
theorem Tx {fs:Array Field} (h:Tryz.prog.underlying 139=some (.struct fs):=by exact gr):df Tryz.prog fs [(0,1),(1,1),(2,1),(3,1),(4,1),(5,1)]:=by
 rw [gr] at h
 cases h
 intro w
 kernel_rfl
theorem Jh {fs:Array Field} (h:Tryz.prog.underlying 131=some (.struct fs):=by exact bT):df Tryz.prog fs [(0,1),(1,1),(2,1),(3,1),(4,1),(5,1),(6,1),(7,1),(8,1)]:=by
 rw [bT] at h
 cases h
 intro w
 kernel_rfl
theorem Jg {fs:Array Field} (h:Tryz.prog.underlying 142=some (.struct fs):=by exact iA):df Tryz.prog fs [(0,1),(1,2),(3,2)]:=by
 rw [iA] at h
 cases h
 intro w
 kernel_rfl
theorem Jf {fs:Array Field} (h:Tryz.prog.underlying 144=some (.struct fs):=by exact j8):df Tryz.prog fs [(0,1),(1,1),(2,1)]:=by
 rw [j8] at h
 cases h
 intro w
 kernel_rfl
theorem yx (w:World):Calls Tryz.prog 25 #[] w λe w'=> ∃z:TZ,e= .returned (.agg (Bk z 0 1601 ⟨iy z.f,1,1⟩ ⟨iy z.p,1,1⟩ bX bX).toArray)/\Mem w [jK (DU z 1600 (iy z.p) 1 [nB])] w':=by
 refine dd Tryz.func25 rfl Tryz.ntmps25 rfl ?_
 refine ak ?_
 refine R0 ?_
 refine bS fN rfl λb0=>?_
 refine XN ?_
 refine ad ?_
 refine ak ?_
 refine R0 ?_
 refine xV (tj (hP ⟨0,0,0,[],[]⟩ M5 yy (⟨bX,bX,bX,bX,bX⟩:tz) (qw 0) ⟨1601,bX,bX,bX,bX,bX,bX,bX,bX,bX,bX⟩) ax Tq fN (pt (v:= .int _ _) rfl E.p0) (by kernel_rfl) (by kernel_rfl)) rfl rfl ?_
 refine bS fN rfl λb1=>?_
 refine dN (k:=0) (v:= .agg (hP ⟨0,0,0,[],[]⟩ M5 yy (⟨bX,bX,bX,bX,bX⟩:tz) (qw 0) ⟨1601,bX,bX,bX,bX,bX,bX,bX,bX,bX,bX⟩).toArray) rfl rfl aM ?_;refine fJ (cs2:=hP ⟨0,0,0,[],[]⟩ M5 yy (⟨bX,bX,bX,bX,bX⟩:tz) (qw 0) ⟨1601,bX,bX,bX,bX,bX,bX,bX,bX,bX,bX⟩) (by kernel_rfl) ?_
 refine XN ?_
 refine ad ?_
 refine ak ?_
 refine R0 ?_
 refine xV (bN dI Uv JL (pt (v:= .int _ _) rfl (pt (v:= .int _ _) rfl (pt (v:= .int _ _) rfl E.p0))) rfl) rfl rfl ?_
 refine xV (az ax rfl eX rfl (q0 rfl)) rfl rfl ?_
 refine xV (az bh rfl cN rfl (q0 rfl)) rfl rfl ?_
 refine dN (k:=0) (v:= .agg #[.int .i64 1, .int .i64 1, .int .i64 1, .slice none 0 0, .slice none 0 0]) rfl rfl cN ?_;refine fJ (cs2:=hP uv M5 yy (⟨bX,bX,bX,bX,bX⟩:tz) (qw 0) ⟨1601,bX,bX,bX,bX,bX,bX,bX,bX,bX,bX⟩) (by kernel_rfl) ?_
 refine XN ?_
 refine ad ?_
 refine ak ?_
 refine R0 ?_
 refine xV (bN gr Tx oH (pt (v:= .int _ _) rfl (pt (v:= .int _ _) rfl (pt (v:= .int _ _) rfl E.p0))) rfl) rfl rfl ?_
 refine pB (enc:=Tf.cells) yy.jU [(.int .i64 0),(.int .i64 0),(.int .i64 0),(.int .i64 0),(.int .i64 0),(.int .i64 0)] oJ nv oH rfl (by kernel_rfl) (pt (v:= .agg _) rfl E.p0) ⟨⟨rfl,by kernel_rfl⟩,rfl⟩ rfl (λ_=>rfl) λbt=>?_
 refine xV (az ax rfl eX rfl (q0 rfl)) rfl rfl ?_
 refine xV (az bh rfl eN rfl (q0 rfl)) rfl rfl ?_
 refine xV (az fD rfl QC rfl (q0 rfl)) rfl rfl ?_
 refine dN (k:=1) (v:= .slice (iy bt) 1 1) rfl rfl QC ?_;refine fJ (cs2:=hP uv M5 yy (⟨⟨iy bt,1,1⟩,bX,bX,bX,bX⟩:tz) (qw 0) ⟨1601,bX,bX,bX,bX,bX,bX,bX,bX,bX,bX⟩) (by kernel_rfl) ?_
 refine XN ?_
 refine ad ?_
 refine ak ?_
 refine R0 ?_
 refine xV (bN bT Jh dt (pt (v:= .int _ _) rfl (pt (v:= .int _ _) rfl (pt (v:= .int _ _) rfl (pt (v:= .int _ _) rfl E.p0)))) rfl) rfl rfl ?_
 refine xV (bN bT Jh dt (pt (v:= .int _ _) rfl (pt (v:= .int _ _) rfl (pt (v:= .int _ _) rfl (pt (v:= .int _ _) rfl (pt (v:= .int _ _) rfl E.p0))))) rfl) rfl rfl ?_
 refine xV (bN bT Jh dt (pt (v:= .int _ _) rfl (pt (v:= .int _ _) rfl (pt (v:= .int _ _) rfl (pt (v:= .int _ _) rfl E.p0)))) rfl) rfl rfl ?_
 refine xV (bN bT Jh dt (pt (v:= .int _ _) rfl (pt (v:= .int _ _) rfl (pt (v:= .int _ _) rfl (pt (v:= .int _ _) rfl E.p0)))) rfl) rfl rfl ?_
 refine pB (enc:=Ev.cells) zK [(.int .i64 0),(.int .i64 0),(.int .i64 0),(.int .i64 0),(.int .i64 0),(.int .i64 0),(.int .i64 0),(.int .i64 0),(.int .i64 0),(.int .i64 0),(.int .i64 0),(.int .i64 0),(.int .i64 0),(.int .i64 0),(.int .i64 0),(.int .i64 0),(.int .i64 0),(.int .i64 0),(.int .i64 0),(.int .i64 0),(.int .i64 0),(.int .i64 0),(.int .i64 0),(.int .i64 0),(.int .i64 0),(.int .i64 0),(.int .i64 0),(.int .i64 0),(.int .i64 0),(.int .i64 0),(.int .i64 0),(.int .i64 0),(.int .i64 0),(.int .i64 0),(.int .i64 0),(.int .i64 0)] cY cU dt rfl (by kernel_rfl) (pt (v:= .agg _) rfl (pt (v:= .agg _) rfl (pt (v:= .agg _) rfl (pt (v:= .agg _) rfl E.p0)))) ⟨⟨rfl,by kernel_rfl⟩,rfl⟩ rfl (λ_=>rfl) λbe=>?_
 refine xV (az ax rfl iN rfl (q0 rfl)) rfl rfl ?_
 refine dN (k:=2) (v:= .slice (iy be) 4 4) rfl rfl iN ?_;refine fJ (cs2:=hP uv M5 yy (⟨⟨iy bt,1,1⟩,bX,bX,bX,bX⟩:tz) (qw 0) ⟨1601,⟨iy be,4,4⟩,bX,bX,bX,bX,bX,bX,bX,bX,bX⟩) (by kernel_rfl) ?_
 refine XN ?_
 refine ad ?_
 refine ak ?_
 refine R0 ?_
 refine xV (bN bL yZ cS (pt (v:= .int _ _) rfl E.p0) rfl) rfl rfl ?_
 refine xV (bN bz H6 fe (pt (v:= .int _ _) rfl (pt (v:= .agg _) rfl E.p0)) rfl) rfl rfl ?_
 refine xV (bN bL yZ cS (pt (v:= .int _ _) rfl (pt (v:= .int _ _) rfl E.p0)) rfl) rfl rfl ?_
 refine xV (bN bz H6 fe (pt (v:= .int _ _) rfl (pt (v:= .agg _) rfl E.p0)) rfl) rfl rfl ?_
 refine xV (bN bL yZ cS (pt (v:= .int _ _) rfl (pt (v:= .int _ _) rfl E.p0)) rfl) rfl rfl ?_
 refine xV (bN bz H6 fe (pt (v:= .int _ _) rfl (pt (v:= .int _ _) rfl (pt (v:= .agg _) rfl E.p0))) rfl) rfl rfl ?_
 refine xV (bN bL yZ cS (pt (v:= .int _ _) rfl (pt (v:= .int _ _) rfl E.p0)) rfl) rfl rfl ?_
 refine xV (bN bz H6 fe (pt (v:= .int _ _) rfl (pt (v:= .agg _) rfl E.p0)) rfl) rfl rfl ?_
 refine pB (enc:=gy.cells) (vT 1600) [(.int .i64 0),(.int .i64 0),(.int .i64 0),(.int .i64 0),(.int .i64 0),(.int .i64 0),(.int .i64 0),(.int .i64 0),(.int .i64 0),(.int .i64 0),(.int .i64 0),(.int .i64 0),(.int .i64 0),(.int .i64 0),(.int .i64 0),(.int .i64 0),(.int .i64 0),(.int .i64 0),(.int .i64 0),(.int .i64 0),(.int .i64 0),(.int .i64 0),(.int .i64 0),(.int .i64 0)] bI cy fe rfl (by kernel_rfl) (pt (v:= .agg _) rfl (pt (v:= .agg _) rfl (pt (v:= .agg _) rfl (pt (v:= .agg _) rfl E.p0)))) ⟨⟨rfl,by kernel_rfl⟩,rfl⟩ rfl (λ_=>rfl) λbs=>?_
 refine xV (az ax rfl eV rfl (q0 rfl)) rfl rfl ?_
 refine dN (k:=3) (v:= .slice (iy bs) 4 4) rfl rfl eV ?_;refine fJ (cs2:=hP uv M5 yy (⟨⟨iy bt,1,1⟩,bX,bX,bX,bX⟩:tz) (qw 0) ⟨1601,⟨iy be,4,4⟩,⟨iy bs,4,4⟩,bX,bX,bX,bX,bX,bX,bX,bX⟩) (by kernel_rfl) ?_
 refine XN ?_
 refine ad ?_
 refine ak ?_
 refine R0 ?_
 refine xC (en Lo (iQ (q0 rfl))) (λ_ w _=>T5 1010 w) rfl rfl ?_
 refine xC (en Lo (iQ (q0 rfl))) (λ_ w _=>T5 1600 w) rfl rfl ?_
 refine xC (en Lo (iQ (q0 rfl))) (λ_ w _=>T5 1010 w) rfl rfl ?_
 refine xC (en Lo (iQ (q0 rfl))) (λ_ w _=>T5 1600 w) rfl rfl ?_
 refine xV (bN iA Jg iS (pt (v:= .agg _) rfl (pt (v:= .agg _) rfl E.p0)) rfl) rfl rfl ?_
 refine pB (enc:=Lg.cells) DT.db [(.int .i64 0),(.int .i64 0),(.int .i64 0),(.int .i64 0),(.int .i64 0)] eU ij iS rfl (by kernel_rfl) (pt (v:= .agg _) rfl E.p0) ⟨⟨rfl,by kernel_rfl⟩,rfl⟩ rfl (λ_=>rfl) λbl=>?_
 refine xV (bN bE Pg dp (pt (v:= .int _ _) rfl (pt (v:= .agg _) rfl (pt (v:= .agg _) rfl (pt (v:= .slice _ _ _) rfl (pt (v:= .int _ _) rfl (pt (v:= .int _ _) rfl E.p0)))))) rfl) rfl rfl ?_
 refine pB (enc:=RX.cells) [(⟨DT,⟨iy bl,1,none,0⟩⟩:RX)] [(.int .i64 0),(.int .i64 0),(.int .i64 0),(.int .i64 0),(.int .i64 0),(.int .i64 0),(.bool false),(.slice none 0 0),(.slice none 0 0),(.int .i64 0),(.int .i64 0),(.int .i64 0),(.int .i64 0)] aT ba dp rfl (by kernel_rfl) (pt (v:= .agg _) rfl E.p0) ⟨⟨rfl,by kernel_rfl⟩,rfl⟩ rfl (λ_=>rfl) λbr=>?_
 refine xV (az ax rfl di rfl (q0 rfl)) rfl rfl ?_
 refine dN (k:=5) (v:= .slice (iy br) 1 1) rfl rfl di ?_;refine fJ (cs2:=hP uv M5 yy (⟨⟨iy bt,1,1⟩,bX,bX,bX,bX⟩:tz) (qw 0) ⟨1601,⟨iy be,4,4⟩,⟨iy bs,4,4⟩,⟨iy br,1,1⟩,bX,bX,bX,bX,bX,bX,bX⟩) (by kernel_rfl) ?_
 refine XN ?_
 refine ad ?_
 refine ak ?_
 refine R0 ?_
 refine xV (bN j8 Jf r6 (pt (v:= .int _ _) rfl (pt (v:= .int _ _) rfl E.p0)) rfl) rfl rfl ?_
 refine xV (bN j8 Jf r6 (pt (v:= .int _ _) rfl (pt (v:= .int _ _) rfl E.p0)) rfl) rfl rfl ?_
 refine pB (enc:=CE.cells) G5.items [(.int .i64 0),(.int .i64 0),(.int .i64 0),(.int .i64 0),(.int .i64 0),(.int .i64 0)] ml sk r6 rfl (by kernel_rfl) (pt (v:= .agg _) rfl (pt (v:= .agg _) rfl E.p0)) ⟨⟨rfl,by kernel_rfl⟩,rfl⟩ rfl (λ_=>rfl) λbi=>?_
 refine xV (bN ct Rv pZ (pt (v:= .int _ _) rfl (pt (v:= .slice _ _ _) rfl (pt (v:= .int _ _) rfl E.p0))) rfl) rfl rfl ?_
 refine pB (enc:=FX.cells) [(⟨G5,iy bi,2⟩:FX)] [(.int .i64 0),(.int .i64 0),(.slice none 0 0),(.int .i64 0)] cj dx pZ rfl (by kernel_rfl) (pt (v:= .agg _) rfl E.p0) ⟨⟨rfl,by kernel_rfl⟩,rfl⟩ rfl (λ_=>rfl) λbf=>?_
 refine xV (az ax rfl eM rfl (q0 rfl)) rfl rfl ?_
 refine dN (k:=7) (v:= .slice (iy bf) 1 1) rfl rfl eM ?_;refine fJ (cs2:=hP uv M5 yy (⟨⟨iy bt,1,1⟩,bX,bX,bX,bX⟩:tz) (qw 0) ⟨1601,⟨iy be,4,4⟩,⟨iy bs,4,4⟩,⟨iy br,1,1⟩,bX,⟨iy bf,1,1⟩,bX,bX,bX,bX,bX⟩) (by kernel_rfl) ?_
 refine XN ?_
 refine ad ?_
 refine ak ?_
 refine R0 ?_
 refine xV (bN fO Tp js (pt (v:= .int _ _) rfl (pt (v:= .int _ _) rfl E.p0)) rfl) rfl rfl ?_
 refine pB (enc:=rT) [nB] [(.int .i64 0),(.int .i64 0),(.int .i64 0)] bM eB js rfl (by kernel_rfl) (pt (v:= .agg _) rfl E.p0) ⟨⟨rfl,by kernel_rfl⟩,rfl⟩ rfl (λ_=>rfl) λbp=>?_
 refine xV (az ax rfl gJ rfl (q0 rfl)) rfl rfl ?_
 refine xV (az dZ rfl eK rfl (q0 rfl)) rfl rfl ?_
 refine dN (k:=8) (v:= .slice (iy bp) 1 1) rfl rfl eK ?_;refine fJ (cs2:=Bk ⟨bt,be,bs,bl,br,bi,bf,bp⟩ 0 1601 ⟨iy bf,1,1⟩ ⟨iy bp,1,1⟩ bX bX) (by kernel_rfl) ?_
 refine XN ?_
 refine ad ?_
 refine ak ?_
 refine R0 ?_
 refine xV (eS cP aM (q0 rfl)) rfl rfl ?_
 refine dN (k:=9) (v:= .agg (Bk ⟨bt,be,bs,bl,br,bi,bf,bp⟩ 0 1601 ⟨iy bf,1,1⟩ ⟨iy bp,1,1⟩ bX bX).toArray) rfl rfl aM ?_;refine fJ (cs2:=Bk ⟨bt,be,bs,bl,br,bi,bf,bp⟩ 0 1601 ⟨iy bf,1,1⟩ ⟨iy bp,1,1⟩ bX bX) (by kernel_rfl) ?_
 refine XN ?_
 refine ad ?_
 refine dq ?_
 exact lR rfl (OM (vs:=Bk ⟨bt,be,bs,bl,br,bi,bf,bp⟩ 0 1601 ⟨iy bf,1,1⟩ ⟨iy bp,1,1⟩ bX bX) rfl rfl cP aM (hc:=rV 9 rfl)) λw' hw=>⟨⟨bt,be,bs,bl,br,bi,bf,bp⟩,rfl,(hw.pick [0,1,2,3,4,5,6,7] (by decide)).jK (T:=[_,_,_,_,_,_,_,_]) (L:=[])⟩
end Go.Proofs.Aud
