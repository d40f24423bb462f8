import Derived.Test.YtakhechhnnjbcaaGreatBC13
import Derived.Test.YtakhechhnnjbcaaGreatBC15
import Derived.Test.YtakhechhnnjbcaaGreatBC12
import Derived.Test.YtakhechhnnjbcaaGreatBC05
import Derived.Test.YtakhechhnnjbcaaGreatBC03
import Derived.Test.YtakhechhnnjbcaaGreatBC04
import Derived.Test.YtakhechhnnjbcaaGreatTc
set_option maxRecDepth 100000
set_option maxHeartbeats 8000000
set_option linter.unusedVariables false
set_option linter.unusedSimpArgs false
namespace Go.Proofs.Rid
open Go Go.RowKit Go.Proofs.E Go.Proofs.Cus
theorem Sc {fs:Array Field} (h:Tryz.prog.underlying 187=some (.struct fs):=by exact eM):dN Tryz.prog fs [(0,1),(1,1)]:=by
 rw [eM] at h;cases h;intro w;kernel_rfl
theorem Sa {fs:Array Field} (h:Tryz.prog.underlying 276=some (.struct fs):=by exact nz):dN Tryz.prog fs [(0,1),(1,2),(3,2)]:=by
 rw [nz] at h;cases h;intro w;kernel_rfl
theorem Vr {fs:Array Field} (h:Tryz.prog.underlying 248=some (.struct fs):=by exact jT):dN Tryz.prog fs [(0,2),(2,2)]:=by
 rw [jT] at h;cases h;intro w;kernel_rfl
theorem Sb {fs:Array Field} (h:Tryz.prog.underlying 191=some (.struct fs):=by exact eK):dN Tryz.prog fs [(0,1),(1,1),(2,2),(4,2),(6,1),(7,1),(8,1),(9,1),(10,1),(11,1),(12,1)]:=by
 rw [eK] at h;cases h;intro w;kernel_rfl
theorem D7 {fs:Array Field} (h:Tryz.prog.underlying 183=some (.struct fs):=by exact jU):dN Tryz.prog fs [(0,1),(1,1),(2,1),(3,1),(4,1)]:=by
 rw [jU] at h;cases h;intro w;kernel_rfl
theorem wH {fs:Array Field} (h:Tryz.prog.underlying 252=some (.struct fs):=by exact ff):dN Tryz.prog fs [(0,1),(1,1),(2,1),(3,1)]:=by
 rw [ff] at h;cases h;intro w;kernel_rfl
def pG.cells (s:pG):List Value:=[.int .i64 s.lo, .int .i64 s.hi]
def Lg.cells (g:Lg):List Value:=[.int .i64 g.bD, .int .i64 g.from_.lo, .int .i64 g.from_.hi, .int .i64 g.mK.lo, .int .i64 g.mK.hi]
def Pz.cells (p:Pz):List Value:=[.int .i64 p.from_.lo, .int .i64 p.from_.hi, .int .i64 p.mK.lo, .int .i64 p.mK.hi]
structure Sw where
 lA:Option Addr
 lc:Nat
 pA:Option Addr
 pc:Nat
deriving Inhabited
structure RX where
 r:Rd
 a:Sw
deriving Inhabited
def Rd.Bc (r:Rd) (a:Sw) (ln pn:Nat):List Value:=
 [.int .i64 r.id, .int .i64 r.rider, .int .i64 r.start.lo, .int .i64 r.start.hi, .int .i64 r.end_.lo, .int .i64 r.end_.hi, .bool r.open_, .slice a.lA ln a.lc, .slice a.pA pn a.pc, .int .i64 r.fw, .int .i64 r.fp, .int .i64 r.wh, .int .i64 r.pl]
def RX.cells (x:RX):List Value:=x.r.Bc x.a x.r.cw.length x.r.bz.length
abbrev Ao (A:Option Addr) (c:Nat) (l:List Lg):E.Item:=dR 276 5 Lg.cells A c l
abbrev Ai (A:Option Addr) (c:Nat) (l:List Pz):E.Item:=dR 248 4 Pz.cells A c l
abbrev jt (A:Option Addr) (c:Nat) (l:List RX):E.Item:=dR 191 13 RX.cells A c l
def kH (x:RX):List E.Item:=[Ao x.a.lA x.a.lc x.r.cw,Ai x.a.pA x.a.pc x.r.bz]
def yn (xs:List RX):E.Item:=dD (xs.flatMap kH)
def LH (b:Bool):List Value:=[.bool b]
abbrev El (A:Option Addr) (c:Nat) (l:List Bool):E.Item:=dR 4 1 LH A c l
abbrev rf (A:Option Addr) (c:Nat) (xs:List Int):E.Item:=dR 3 1 aN A c xs
def MU (m:RM):List (Int×Value):=m.map fun p=>(p.1, .int .i64 p.2)
theorem Jg: ∀(m:RM) (r b:Int),ml (MU m) r (.int .i64 b)=MU (EM m r b)
 |[],r,b=>rfl
 |p::m,r,b=>by
  have ih:=Jg m r b;unfold MU at ih⊢;simp only [cI,ml,EM];split
  ·simp
  rw [ih];rfl
theorem MT (m:RM) (r:Int):ju (MU m) r=(zv m r).map (.int .i64 ·):=by
 unfold ju MU zv;rw [List.find?_map];cases h:m.find? ((fun p:Int×Value=>p.1==r)∘fun p:Int×Int=>(p.1,Value.int .i64 p.2)) with
 |none=>
  have:m.find? (fun p=>p.1==r)=none:=h;rw [this];rfl
 |some q=>
  have:m.find? (fun p=>p.1==r)=some q:=h;rw [this];rfl
structure YA where
 sb:Nat
 rA:Option Addr
 rc:Nat
 m:Nat
 g:Nat
 gc:Nat
 pA:Option Addr
 pc:Nat
 s:Nat
 sc:Nat
structure TY where
 xs:List RX
 mF:RM
 cG:List Int
 bn:List Bool
 aK:List Sp
def TY.plain (t:TY):SY:=⟨t.xs.map (·.r),t.mF,t.cG,t.bn,t.aK⟩
def kO (a:YA) (t:TY):List Value:=[.slice a.rA t.xs.length a.rc, .map (some a.m), .slice (some ⟨a.g,0,none⟩) t.cG.length a.gc, .slice a.pA t.bn.length a.pc, .slice (some ⟨a.s,0,none⟩) t.aK.length a.sc]
abbrev zm (a:YA) (t:TY):List E.Item:=
 [box a.sb 183 (kO a t),jt a.rA a.rc t.xs,yn t.xs,El a.pA a.pc t.bn,rf (some ⟨a.g,0,none⟩) a.gc t.cG,E.dR 252 4 Sp.cells (some ⟨a.s,0,none⟩) a.sc t.aK,kS a.m (MU t.mF)]
theorem im {α:Type} {l:List α} {k:Nat} {x d:α} (h:l[k]?=some x):l.getD k d=x:=by rw [aq,h];rfl
theorem Mf {t:TY} {k:Nat} {x:RX} (h:t.xs[k]?=some x):t.plain.cg[k]?=some x.r∧t.plain.cg.getD k default=x.r:=by
 have:t.plain.cg[k]?=some x.r:=by unfold TY.plain;simp [h]
 exact ⟨this,im this⟩
theorem Ob {w:pG} {l:List Pz} {p:Pz} (h:l[l.length -1]?=some p):CG w l=l.set (l.length -1) {p with mK:=w}:=by unfold CG;rw [im h]
theorem LG {w:pG} {l:List Lg} {p:Lg} (h:l[l.length -1]?=some p):lh w l=l.set (l.length -1) {p with mK:=w}:=by unfold lh;rw [im h]
abbrev RJ (a:YA) (t:TY) (k:Nat) (x:RX):List E.Item:=
 [jt a.rA a.rc t.xs,Ai x.a.pA x.a.pc x.r.bz,Ao x.a.lA x.a.lc x.r.cw,El a.pA a.pc t.bn,rf (some ⟨a.g,0,none⟩) a.gc t.cG,E.dR 252 4 Sp.cells (some ⟨a.s,0,none⟩) a.sc t.aK,box a.sb 183 (kO a t),dD ((t.xs.eraseIdx k).flatMap kH),kS a.m (MU t.mF)]
section
variable {a:YA} {t:TY} {w0 w:World} {L:List E.Item} {n N k:Nat} {x:RX}
theorem Js (h:Mem w0 (zm a t++L) w) (hx:t.xs[k]?=some x):Mem w0 (RJ a t k x++L) w:=by
 have h1:=h.dh 7 [2,0,1,3,4,5,6] (by decide) (by decide);have h2:=Mem.apart h1 hx;exact h2.dh 9 [4,1,0,5,6,7,3,2,8] (by decide) (by decide)
theorem Fp {m:RM} {gs:List Int} {ps:List Bool} {ss:List Sp} (y:RX) (hk:k<t.xs.length) (hg:gs.length=t.cG.length) (hp:ps.length=t.bn.length) (hs:ss.length=t.aK.length)
  (h:Mem w0 ([jt a.rA a.rc (t.xs.set k y),Ai y.a.pA y.a.pc y.r.bz,Ao y.a.lA y.a.lc y.r.cw,El a.pA a.pc ps,rf (some ⟨a.g,0,none⟩) a.gc gs,E.dR 252 4 Sp.cells (some ⟨a.s,0,none⟩) a.sc ss,box a.sb 183 (kO a t),dD ((t.xs.eraseIdx k).flatMap kH),kS a.m (MU m)]++L) w):
  Mem w0 (zm a ⟨t.xs.set k y,m,gs,ps,ss⟩++L) w:=by
 have h1:=h.dh 9 [2,1,7,0,3,4,5,6,8] (by decide) (by decide);have h2:=Mem.E7 (f:=kH) (y:=y) (xs:=t.xs) (k:=k) h1 hk;have h3:=h2.dh 7 [5,1,0,2,3,4,6] (by decide) (by decide);have hc:kO a ⟨t.xs.set k y,m,gs,ps,ss⟩=kO a t:=by unfold kO;simp [hg,hp,hs]
 show Mem w0 ([box a.sb 183 (kO a ⟨t.xs.set k y,m,gs,ps,ss⟩),_,_,_,_,_,_]++L) w;rw [hc];exact h3
theorem Cm (hI:WF n N t.plain):t.bn.length=t.xs.length∧t.cG.length=n∧t.aK.length=n∧t.xs.length≤N:=by
 have h1:=hI.bn;have h2:=hI.num;simp [TY.plain] at h1 h2;exact ⟨h1,hI.cG,hI.aK,h2⟩
theorem E5 (hI:WF n N t.plain) (hx:t.xs[k]?=some x):0<x.r.cw.length∧x.r.cw.length≤N∧x.r.bz.length≤N∧(∀g∈x.r.cw,0≤g.bD∧g.bD<n):=hI.cw x.r (by unfold TY.plain;exact bJ.2 ⟨x,an hx,rfl⟩)
theorem Gh (hw:Mem w0 (zm a t++L) w) (hmk:marks L=[]) (hI:WF n N t.plain) (hN:N≤100000) (hk:k<t.xs.length) (hx:t.xs[k]?=some x) (wh:pG):
  Calls Tryz.prog 156 #[.pointer (some ⟨a.sb,0,none⟩), .int .i64 k, .agg wh.cells.toArray] w fun r w'=> ∃_:Unit,r= .returned (.tuple #[])∧Mem w0 (zm a ⟨t.xs.set k ⟨dB (t.bn.getD k false) wh x.r,x.a⟩,t.mF,t.cG,t.bn.set k false,t.aK⟩++L) w':=by
 obtain ⟨hpl,_,_,_⟩:=Cm hI;obtain ⟨p,hp⟩: ∃p,t.bn[k]?=some p:=⟨_,aj (by omega)⟩;rw [im hp];have hw2:=Js hw hx;have hlo:=E5 hI hx;obtain ⟨rb,hrb⟩:=dP (j:=0) hw2 rfl (by omega);obtain ⟨bb,hbb⟩:=dP (j:=3) hw2 rfl (by omega);have hcl:=fun (y:RX) (u:World)=>Fp (a:=a) (t:=t) (w0:=w0) (w:=u) (L:=L) (m:=t.mF) (gs:=t.cG) (ps:=t.bn.set k false) (ss:=t.aK) y hk rfl (by simp) rfl;obtain ⟨asb,arA,arc,am,ag,agc,apA,apc,as_,Ka⟩:=a;simp only at hrb hbb;subst hrb;subst hbb;obtain ⟨⟨id,rider,start,end_,open_,cw,bz,fw,fp,whr,pl⟩,⟨lA,lc,pA,pc⟩⟩:=x;simp only at hlo;refine eu hw2 hmk Tryz.func156 rfl Tryz.ntmps156 rfl ?_;iterate 2 refine G ?_
 refine cd (v:= .agg _) rfl rfl fun b5=>?_;iterate 9 refine G ?_
 refine bO (bt k bI bo (q0 rfl) (q0 rfl) (fun _=>⟨rfl,hk⟩)) ?_;refine G ?_;refine bO (ea (v:= .slice pA bz.length pc) mE (q0 rfl) (by exact rr 1 (r:=8) rfl hx rfl)) ?_;iterate 11 refine G ?_
 refine bO (bt k eN dG (q0 rfl) (q0 rfl) (fun _=>⟨rfl,by omega⟩)) ?_;refine bO (ea (v:= .bool p) kK (q0 rfl) (by exact oR 4 (k:=1) (enc:=LH) rfl hp rfl)) ?_;iterate 7 refine G ?_
 refine au rfl ?_ ?_<;>intro hb
 ·have hb':p=true∧0<bz.length:=by simpa using hb
  obtain ⟨z,hz⟩: ∃z,bz[bz.length -1]?=some z:=⟨_,aj (by omega)⟩;have hres:dB p wh ⟨id,rider,start,end_,open_,cw,bz,fw,fp,whr,pl⟩=⟨id,rider,start,end_,open_,cw,bz.set (bz.length -1) {z with mK:=wh},fw,fp,whr,pl⟩:=by unfold dB;rw [av hb',←Ob hz]
  rw [hres];refine fN (fun w hw=>dP (j:=2) hw rfl hb'.2) fun ⟨zb,hzb⟩=>?_;subst hzb;iterate 4 refine G ?_
  refine bO (ou (r:=((bz.length -1:Nat):Int)) (q0 rfl) (q0 rfl) (fun _=>⟨by omega,by omega,by omega⟩)) ?_;refine G ?_;refine bO (bt (bz.length -1) fg iC (q0 rfl) (q0 rfl) (fun _=>⟨rfl,by omega⟩)) ?_;refine G ?_;refine bZ (jn 2 (i:=bz.length -1) (off:=2) {z with mK:=wh} rfl rfl cQ rfl rfl rfl hz rfl rfl ?_);iterate 8 refine G ?_
  refine bO (bt k eN dG (q0 rfl) (q0 rfl) (fun _=>⟨rfl,by omega⟩)) ?_;refine bZ (ew 4 (k:=1) (enc:=LH) false rfl rfl dG rfl rfl rfl hp rfl rfl ?_);refine G ?_;exact lj rfl hmk fun w' hw=>⟨(),rfl,hcl ⟨⟨id,rider,start,end_,open_,cw,bz.set (bz.length -1) {z with mK:=wh},fw,fp,whr,pl⟩,⟨lA,lc,some ⟨zb,0,none⟩,pc⟩⟩ w' (by
   unfold jt;rw [zq hx (by simp [RX.cells,Rd.Bc])];exact hw.tail)⟩
 have hb': ¬(p=true∧0<bz.length):=by intro h;simp [h.1,h.2] at hb
 have hres:dB p wh ⟨id,rider,start,end_,open_,cw,bz,fw,fp,whr,pl⟩=⟨id,rider,start,end_,open_,cw,bz,fw,fp,whr,pl⟩:=by unfold dB;rw [ah hb']
 rw [hres];iterate 8 refine G ?_
 refine bO (bt k eN dG (q0 rfl) (q0 rfl) (fun _=>⟨rfl,by omega⟩)) ?_;refine bZ (ew 4 (k:=1) (enc:=LH) false rfl rfl dG rfl rfl rfl hp rfl rfl ?_);refine G ?_;exact lj rfl hmk fun w' hw=>⟨(),rfl,hcl ⟨⟨id,rider,start,end_,open_,cw,bz,fw,fp,whr,pl⟩,⟨lA,lc,pA,pc⟩⟩ w' (by
  unfold jt;rw [zq hx rfl];exact hw.tail)⟩
end
end Go.Proofs.Rid
namespace Go.Proofs.Rid
open Go Go.RowKit Go.Proofs.E Go.Proofs.Cus
structure vu (w:World) (x:RX):Prop where
 cw:gJ w 5 Lg.cells x.a.lA x.r.cw.length x.r.cw
 bz:gJ w 4 Pz.cells x.a.pA x.r.bz.length x.r.bz
theorem vu.mem {w0 w:World} {L:List E.Item} {x:RX} (h:vu w0 x) (hm:Mem w0 L w):vu w x:=⟨h.cw.mem hm,h.bz.mem hm⟩
def rE (w:World) (A:Option Addr) (n:Nat) (xs:List RX):Prop:=gJ w 13 RX.cells A n xs∧ ∀x∈xs,vu w x
theorem rE.mem {w0 w:World} {L:List E.Item} {A:Option Addr} {n:Nat} {xs:List RX} (h:rE w0 A n xs) (hm:Mem w0 L w):rE w A n xs:=⟨h.1.mem hm,fun x hx=>(h.2 x hx).mem hm⟩
theorem LS {w0 w:World} {L:List E.Item} {xs:List RX} (hw:Mem w0 L w) {k:Nat} (hk:L[k]?=some (yn xs)) (hl: ∀x∈xs,x.r.cw.length≤100000∧x.r.bz.length≤100000): ∀x∈xs,vu w x:=fun x hx=>by
 have h1:=(hw.front hk).uG;have hm: ∀it∈kH x,it∈xs.flatMap kH++L.eraseIdx k:=fun it hi=>aQ.2 (.inl (dO.2 ⟨x,hx,hi⟩));obtain ⟨i,hi⟩:=bC.1 (hm (Ao x.a.lA x.a.lc x.r.cw) (by simp [kH]));obtain ⟨j,hj⟩:=bC.1 (hm (Ai x.a.pA x.a.pc x.r.bz) (by simp [kH]));have:=hl x hx;exact ⟨cW h1 hi (fun _=>rfl) (by omega),cW h1 hj (fun _=>rfl) (by omega)⟩
theorem KV {w0 w:World} {L:List E.Item} {A:Option Addr} {c:Nat} {xs:List RX} (hw:Mem w0 L w) {j k:Nat} (hj:L[j]?=some (jt A c xs)) (hk:L[k]?=some (yn xs)) (hn:xs.length≤100000) (hl: ∀x∈xs,x.r.cw.length≤100000∧x.r.bz.length≤100000):rE w A xs.length xs:=
 ⟨cW hw hj (fun _=>rfl) (by omega),LS hw hk hl⟩
theorem N' (x y:pG) (w:World):(Op.equal 187 (.agg x.cells.toArray) (.agg y.cells.toArray)).run Tryz.prog w= .ok (decide (x=y)) w:=by
 have h:(Op.equalIn 10000 187 (.agg x.cells.toArray) (.agg y.cells.toArray)).run Tryz.prog w= .ok (x.lo==y.lo&&(x.hi==y.hi&&true)) w:=
  T1 w eM (by kernel_rfl) (G7 w (by decide) (qu w aJ rfl) (qu w aJ rfl) (run_equalIn_int w _ _ .i64 .i64 _ _ aG) (G7 w (by decide) (qu w aJ rfl) (qu w aJ rfl) (run_equalIn_int w _ _ .i64 .i64 _ _ aG) (QY w)))
 have e:(x.lo==y.lo&&(x.hi==y.hi&&true))=decide (x=y):=by
  rw [mJ];cases x;cases y;simp
 rw [←e];exact h
theorem vB (s:pG) (w:World):Calls Tryz.prog 278 #[.agg s.cells.toArray] w fun e w'=>e= .returned (.bool (n9 s))∧gz w w':=by
 refine aS Tryz.func278 rfl Tryz.ntmps278 rfl ?_;iterate 2 refine G ?_
 refine cd (v:= .agg _) rfl rfl fun b1=>?_;iterate 24 refine G ?_
 exact bH (v:= .bool _) rfl rfl rfl fun w' hw=>⟨rfl,hw.1⟩
theorem yq (x:RX) (w:World) (hx:vu w x):Calls Tryz.prog 209 #[.agg x.cells.toArray] w fun e w'=>e= .returned (.bool (fW x.r))∧gz w w':=by
 obtain ⟨r,⟨lA,lc,pA,pc⟩⟩:=x;obtain ⟨hlg,hpz⟩:=hx;simp only at hlg hpz;have hln:=hlg.2.1;have hpn:=hpz.2.1;refine aS Tryz.func209 rfl Tryz.ntmps209 rfl ?_;iterate 2 refine G ?_
 refine cd (v:= .agg _) rfl rfl fun b1=>?_;iterate 26 refine G ?_
 refine L0 (eP kq cQ (q1 rfl)) rfl rfl ?_;refine I7 (en wv (il (q1 (v:= .agg _) rfl))) (fun _ w _=>vB r.start w) rfl rfl rfl rfl ?_;iterate 4 refine G ?_
 refine L0 (eP kq cQ (q1 rfl)) rfl rfl ?_;refine I7 (en wv (il (q1 (v:= .agg _) rfl))) (fun _ w _=>vB r.end_ w) rfl rfl rfl rfl ?_;iterate 4 refine G ?_
 refine au rfl ?_ ?_<;>intro h1
 ·iterate 7 refine G ?_
  exact bH (v:= .bool _) rfl rfl rfl fun w' hw=>⟨fK (by unfold fW;rw [show vN r=true from h1];rfl),hw.1⟩
 have hrg:fW r=(r.cw.all te&&r.bz.all ux):=by unfold fW;rw [show vN r=false from h1];rfl
 rw [hrg];iterate 12 refine G ?_
 refine ct [2,4,40,41,42,43,44,45,46,47,48,49,50,51,52,53,54] (fun k:Nat=>[(40, .int .i64 k)]) (fun _=>[box b1 191 (RX.cells ⟨r,⟨lA,lc,pA,pc⟩⟩)]) (fun k=>k≤r.cw.length∧r.cw.all te=(r.cw.drop k).all te) (fun k=>r.cw.length -k) 0 ⟨rfl,trivial⟩ (fun w hw=>hw) rfl ⟨aU _,rfl⟩ ?_;rintro k g ⟨hk,hall⟩;iterate 6 refine G ?_
 refine au rfl ?_ ?_<;>intro hlt
 ·have hlt':k<r.cw.length:=by simpa using hlt
  obtain ⟨b,off,y,rfl,hbl,hy,hry⟩:=hlg.at_ hlt';rw [tL hy,nQ] at hall;iterate 6 refine G ?_
  refine bO (bt _ ef gP (q0 rfl) (q0 rfl) (fun _=>⟨rfl,by omega⟩)) ?_;refine G ?_;refine cx kG rfl fun b4=>?_;refine fI (v:= .agg _) rfl rfl gP ?_;iterate 5 refine G ?_
  refine bO (eP kq cQ (q0 rfl)) ?_;refine gV (en wv (il (q0 rfl))) (fun _ w _=>vB y.from_ w) ?_;iterate 3 refine G ?_
  refine L0 (eP kq cQ (q1 rfl)) rfl rfl ?_;refine I7 (en wv (il (q1 (v:= .agg _) rfl))) (fun _ w _=>vB y.mK w) rfl rfl rfl rfl ?_;iterate 4 refine G ?_
  refine au rfl ?_ ?_<;>intro hb
  ·have hy0:te y=false:=by unfold te;revert hb;cases n9 y.from_<;>cases n9 y.mK<;>simp
   rw [hall,hy0];iterate 11 refine G ?_
   exact bH (v:= .bool _) rfl rfl rfl fun w' hw=>⟨rfl,hw.1⟩
  have hy1:te y=true:=by unfold te;revert hb;cases n9 y.from_<;>cases n9 y.mK<;>simp
  rw [hy1,sR] at hall;iterate 7 refine G ?_
  exact ay (k+1) eE ⟨rfl,trivial⟩ (fun w hw=>hw.tail) rfl ⟨by omega,hall⟩ (by show r.cw.length -(k+1)<r.cw.length -k;omega)
 have hend:k=r.cw.length:=by simp at hlt;omega
 rw [hall,hend,nW,List.all_nil,sR];iterate 15 refine G ?_
 refine ct [2,6,58,59,60,61,62,63,64,65,66,67,68,69,70,71,72] (fun k:Nat=>[(58, .int .i64 k)]) (fun _=>[box b1 191 (RX.cells ⟨r,⟨lA,lc,pA,pc⟩⟩)]) (fun k=>k≤r.bz.length∧r.bz.all ux=(r.bz.drop k).all ux) (fun k=>r.bz.length -k) 0 ⟨rfl,trivial⟩ (fun w hw=>hw) rfl ⟨aU _,rfl⟩ ?_;rintro q g2 ⟨hq,hall2⟩;iterate 6 refine G ?_
 refine au rfl ?_ ?_<;>intro hlt2
 ·have hlt2':q<r.bz.length:=by simpa using hlt2
  obtain ⟨b,off,y,rfl,hbl,hy,hry⟩:=hpz.at_ hlt2';rw [tL hy,nQ] at hall2;iterate 6 refine G ?_
  refine bO (bt _ fg iC (q0 rfl) (q0 rfl) (fun _=>⟨rfl,by omega⟩)) ?_;refine G ?_;refine cx l7 rfl fun b6=>?_;refine fI (v:= .agg _) rfl rfl iC ?_;iterate 5 refine G ?_
  refine bO (eP kq cQ (q0 rfl)) ?_;refine gV (en wv (il (q0 rfl))) (fun _ w _=>vB y.from_ w) ?_;iterate 3 refine G ?_
  refine L0 (eP kq cQ (q1 rfl)) rfl rfl ?_;refine I7 (en wv (il (q1 (v:= .agg _) rfl))) (fun _ w _=>vB y.mK w) rfl rfl rfl rfl ?_;iterate 4 refine G ?_
  refine au rfl ?_ ?_<;>intro hb
  ·have hy0:ux y=false:=by unfold ux;revert hb;cases n9 y.from_<;>cases n9 y.mK<;>simp
   rw [hall2,hy0];iterate 11 refine G ?_
   exact bH (v:= .bool _) rfl rfl rfl fun w' hw=>⟨rfl,hw.1⟩
  have hy1:ux y=true:=by unfold ux;revert hb;cases n9 y.from_<;>cases n9 y.mK<;>simp
  rw [hy1,sR] at hall2;iterate 7 refine G ?_
  exact ay (q+1) eE ⟨rfl,trivial⟩ (fun w hw=>hw.tail) rfl ⟨by omega,hall2⟩ (by show r.bz.length -(q+1)<r.bz.length -q;omega)
 have hend2:q=r.bz.length:=by simp at hlt2;omega
 rw [hall2,hend2,nW,List.all_nil];iterate 11 refine G ?_
 exact bH (v:= .bool _) rfl rfl rfl fun w' hw=>⟨rfl,hw.1⟩
theorem NA (x:RX) (w:World) (hx:vu w x):Calls Tryz.prog 210 #[.agg x.cells.toArray] w fun e w'=>e= .returned (.bool (qy x.r))∧gz w w':=by
 obtain ⟨r,⟨lA,lc,pA,pc⟩⟩:=x;obtain ⟨hlg,hpz⟩:=hx;simp only at hlg hpz;have hln:=hlg.2.1;have hpn:=hpz.2.1;refine aS Tryz.func210 rfl Tryz.ntmps210 rfl ?_;iterate 2 refine G ?_
 refine cd (v:= .agg _) rfl rfl fun b1=>?_;iterate 24 refine G ?_
 refine au rfl ?_ ?_<;>intro h1
 ·iterate 7 refine G ?_
  exact bH (v:= .bool _) rfl rfl rfl fun w' hw=>⟨fK (by unfold qy;rw [show EZ r=true from h1];rfl),hw.1⟩
 have hj:qy r=ll r.start r.cw r.end_:=by unfold qy;rw [show EZ r=false from h1];rfl
 rw [hj];iterate 5 refine G ?_
 refine bO (eP kq cQ (q0 rfl)) ?_;refine cx xJ rfl fun b3=>?_;refine fI (v:= .agg _) rfl rfl cQ ?_;iterate 12 refine G ?_
 refine ct [2,5,27,28,29,30,31,32,33,34,35,36,37] (fun q:Nat×pG=>[(27, .int .i64 q.1)]) (fun q=>[box b3 187 q.2.cells,box b1 191 (RX.cells ⟨r,⟨lA,lc,pA,pc⟩⟩)]) (fun q=>q.1≤r.cw.length∧ll r.start r.cw r.end_=ll q.2 (r.cw.drop q.1) r.end_) (fun q=>r.cw.length -q.1) (0,r.start) ⟨rfl,trivial⟩ (fun w hw=>hw) rfl ⟨aU _,rfl⟩ ?_;rintro ⟨k,at_⟩ g ⟨hk,hall⟩;simp only at hk hall;iterate 6 refine G ?_
 refine au rfl ?_ ?_<;>intro hlt
 ·have hlt':k<r.cw.length:=by simpa using hlt
  obtain ⟨b,off,y,rfl,hbl,hy,hry⟩:=hlg.at_ hlt';rw [tL hy] at hall;iterate 6 refine G ?_
  refine bO (bt _ ef gP (q0 rfl) (q0 rfl) (fun _=>⟨rfl,by omega⟩)) ?_;refine G ?_;refine cx kG rfl fun b5=>?_;refine fI (v:= .agg _) rfl rfl gP ?_;iterate 6 refine G ?_
  refine bO (eP kq cQ (q0 rfl)) ?_;refine G ?_;refine bO (CM (fun w=>N' y.from_ at_ w) (by kernel_rfl) (q0 rfl) (q0 rfl)) ?_;iterate 2 refine G ?_
  refine au rfl ?_ ?_<;>intro hb
  ·have hne:decide (y.from_=at_)=false:=by simpa using hb
   have hfin:ll at_ (y::r.cw.drop (k+1)) r.end_=false:=by simp only [ll,hne,Bool.false_and]
   rw [hall,hfin];iterate 12 refine G ?_
   exact bH (v:= .bool _) rfl rfl rfl fun w' hw=>⟨rfl,hw.1⟩
  have heq:decide (y.from_=at_)=true:=by simpa using hb
  have hfin:ll at_ (y::r.cw.drop (k+1)) r.end_=ll y.mK (r.cw.drop (k+1)) r.end_:=by simp only [ll,heq,sR]
  rw [hfin] at hall;iterate 4 refine G ?_
  refine bO (eP kq cQ (q0 rfl)) ?_;refine fI (v:= .agg _) rfl rfl cQ ?_;iterate 7 refine G ?_
  exact ay (k+1,y.mK) eE ⟨rfl,trivial⟩ (fun w hw=>hw.tail) rfl ⟨by show k+1≤_;omega,hall⟩ (by show r.cw.length -(k+1)<r.cw.length -k;omega)
 have hend:k=r.cw.length:=by simp at hlt;omega
 rw [hend,nW] at hall;rw [hall];iterate 9 refine G ?_
 refine bO (eP kq cQ (q0 rfl)) ?_;refine bO (JW (fun w=>N' at_ r.end_ w) (by kernel_rfl) (q0 rfl) (q0 rfl)) ?_;iterate 4 refine G ?_
 exact bH (v:= .bool _) rfl rfl rfl fun w' hw=>⟨rfl,hw.1⟩
theorem K4 (x:RX) (w:World) (hx:vu w x) (hl:x.r.cw.length≤1000000) (hp:x.r.bz.length≤1000000):Calls Tryz.prog 211 #[.agg x.cells.toArray] w fun e w'=>e= .returned (.bool (q7 x.r))∧gz w w':=by
 obtain ⟨r,⟨lA,lc,pA,pc⟩⟩:=x
 obtain ⟨hlg,hpz⟩:=hx
 simp only at hlg hpz hl hp
 refine aS Tryz.func211 rfl Tryz.ntmps211 rfl ?_
 refine cr ?_
 refine R0 ?_
 refine cd (v:= .agg _) rfl rfl fun b1=>?_
 refine xV (gZ (v:= .bool _) (q0 rfl)) rfl rfl ?_
 refine XN ?_
 refine az ?_
 refine cr ?_
 refine cr ?_
 refine R0 ?_
 refine xV (cR eK rfl sI rfl (q0 rfl)) rfl rfl ?_
 refine xV (eL qS (q0 rfl)) rfl rfl ?_
 refine xV (tl ef (q0 rfl)) rfl rfl ?_
 refine xV (ez (v:= .int _ _) (q0 rfl)) rfl rfl ?_
 refine XN ?_
 refine az ?_
 refine l0 ?_
 refine ct [2,3,4,11,12,13,14,15,16,17,18,19,20,21,22,23,24,25,26,27,28,29,30,31,32,33,34,35,36] (fun k:Nat=>[(11, .int .i64 k)]) (fun _=>[box b1 191 (RX.cells ⟨r,⟨lA,lc,pA,pc⟩⟩)]) (fun k=>k≤r.cw.length∧kJ r.open_ r.cw=kJ r.open_ (r.cw.drop k)) (fun k=>r.cw.length -k) 0 ⟨rfl,trivial⟩ (fun w hw=>hw) rfl ⟨aU _,rfl⟩ ?_
 rintro k g ⟨hk,hall⟩
 refine cr ?_
 refine R0 ?_
 refine xV (vd (q0 rfl) (q0 rfl)) rfl rfl ?_
 refine XN ?_
 refine az ?_
 refine cr ?_
 refine au rfl (fun hlt=>?_) (fun hlt=>?_)
 ·have hlt':k<r.cw.length:=by simpa using hlt
  obtain ⟨b,off,y,rfl,hbl,hy,hry⟩:=hlg.at_ hlt'
  rw [tL hy] at hall
  have hst:kJ r.open_ (y::r.cw.drop (k+1))=(!(decide (y.mK.lo<y.from_.lo)&&!(r.open_&&decide ((k:Int)=(r.cw.length:Int) -1)))&&kJ r.open_ (r.cw.drop (k+1))):=by simp only [kJ,CS hlt']
  rw [hst] at hall
  refine iS ?_
  refine az ?_
  refine cr ?_
  refine l0 ?_
  refine cr ?_
  refine R0 ?_
  refine xV (ez (v:= .int _ _) (q0 rfl)) rfl rfl ?_
  refine xV (bt _ ef gP (q0 rfl) (q0 rfl) (fun _=>⟨rfl,by omega⟩)) rfl rfl ?_
  refine xV (eS Tryz.isAgg276 gP (q0 rfl)) rfl rfl ?_
  refine cx kG rfl fun b4=>?_
  refine xV (gZ (v:= .int _ _) (q0 rfl)) rfl rfl ?_
  refine fI (v:= .agg _) rfl rfl gP ?_
  refine XN ?_
  refine az ?_
  refine cr ?_
  refine R0 ?_
  refine xV (cR nz rfl cQ rfl (q0 rfl)) rfl rfl ?_
  refine xV (cR eM rfl ax rfl (q0 rfl)) rfl rfl ?_
  refine xV (eL aJ (q0 rfl)) rfl rfl ?_
  refine xV (cR nz rfl cQ rfl (q0 rfl)) rfl rfl ?_
  refine xV (cR eM rfl ax rfl (q0 rfl)) rfl rfl ?_
  refine xV (eL aJ (q0 rfl)) rfl rfl ?_
  refine xV (Dl (q0 rfl) (q0 rfl)) rfl rfl ?_
  refine xV (ez (v:= .bool _) (q0 rfl)) rfl rfl ?_
  refine rF (cR eK rfl dG rfl (q0 rfl)) rfl rfl rfl rfl ?_
  refine rF (eL kK (q1 rfl)) rfl rfl rfl rfl ?_
  refine rF (ez (v:= .bool _) (q1 rfl)) rfl rfl rfl rfl ?_
  refine kr (ez (v:= .int _ _) (q0 rfl)) rfl rfl rfl rfl ?_
  refine kr (cR eK rfl sI rfl (q0 rfl)) rfl rfl rfl rfl ?_
  refine kr (eL qS (q1 rfl)) rfl rfl rfl rfl ?_
  refine kr (tl ef (q1 rfl)) rfl rfl rfl rfl ?_
  refine kr (ou (q1 rfl) (q0 rfl) (fun _=>⟨rfl,by simp only;omega,by simp only;omega⟩)) rfl rfl rfl rfl ?_
  refine kr (AL (q1 rfl) (q1 rfl)) rfl rfl rfl rfl ?_
  refine rF (pT (q1 rfl) rfl (fun h=>by first|rfl|(rw [h];rfl))) rfl rfl rfl rfl ?_
  refine rF (rz (q1 rfl)) rfl rfl rfl rfl ?_
  refine xV (pT (q0 rfl) rfl (fun h=>by first|rfl|(rw [h];rfl))) rfl rfl ?_
  refine XN ?_
  refine az ?_
  refine au rfl (fun hb=>?_) (fun hb=>?_)
  ·have hord:q7 r=false:=by
    unfold q7
    rw [hall,show (decide (y.mK.lo<y.from_.lo)&&!(r.open_&&decide ((k:Int)=(r.cw.length:Int) -1)))=true from hb]
    rfl
   rw [hord]
   refine cr ?_
   refine R0 ?_
   refine xV (gZ (v:= .bool _) (q0 rfl)) rfl rfl ?_
   refine XN ?_
   refine az ?_
   refine jV ?_
   refine fD ?_
   refine dH ?_
   refine mA ?_
   refine fD ?_
   refine dH ?_
   exact bH (v:= .bool _) rfl rfl rfl fun w' hw=>⟨rfl,hw.1⟩
  rw [show (decide (y.mK.lo<y.from_.lo)&&!(r.open_&&decide ((k:Int)=(r.cw.length:Int) -1)))=false from hb,Bool.not_false,sR] at hall
  refine iS ?_
  refine iV ?_
  refine az ?_
  refine R0 ?_
  refine xV (rB (q0 rfl) (q0 rfl) (fun _=>⟨rfl,by omega,by omega⟩)) rfl rfl ?_
  refine xV (ez (v:= .int _ _) (q0 rfl)) rfl rfl ?_
  refine XN ?_
  exact ay (k+1) (by repeat (first|exact jw|exact ku|refine j7 rfl ?_|refine jO rfl ?_|refine jJ rfl ?_)) ⟨rfl,trivial⟩ (fun w hw=>hw.tail) rfl ⟨by omega,hall⟩ (by show r.cw.length -(k+1)<r.cw.length -k;omega)
 have hend:k=r.cw.length:=by simp at hlt;omega
 rw [hend,nW] at hall
 have hord:q7 r=BT r.open_ r.bz.length r.end_.lo r.start.lo r.bz:=by unfold q7;rw [hall];rfl
 rw [hord]
 refine xD ?_
 refine mZ ?_
 refine ng ?_
 refine nn ?_
 refine az ?_
 refine cr ?_
 refine R0 ?_
 refine xV (cR eK rfl cQ rfl (q0 rfl)) rfl rfl ?_
 refine xV (cR eM rfl ax rfl (q0 rfl)) rfl rfl ?_
 refine xV (eL aJ (q0 rfl)) rfl rfl ?_
 refine xV (gZ (v:= .int _ _) (q0 rfl)) rfl rfl ?_
 refine XN ?_
 refine az ?_
 refine cr ?_
 refine cr ?_
 refine R0 ?_
 refine xV (cR eK rfl mU rfl (q0 rfl)) rfl rfl ?_
 refine xV (eL mE (q0 rfl)) rfl rfl ?_
 refine xV (tl fg (q0 rfl)) rfl rfl ?_
 refine xV (ez (v:= .int _ _) (q0 rfl)) rfl rfl ?_
 refine XN ?_
 refine az ?_
 refine l0 ?_
 refine ct [2,5,6,7,43,44,45,46,47,48,49,50,51,52,53,54,55,56,57,58,59,60,61,62,63,64,65,66,67,68,69,70,71,72,73,74,75,76,77,78,79,80] (fun q:Nat×Int=>[(43, .int .i64 q.1),(5, .int .i64 q.2)]) (fun _=>[box b1 191 (RX.cells ⟨r,⟨lA,lc,pA,pc⟩⟩)]) (fun q=>q.1≤r.bz.length∧BT r.open_ r.bz.length r.end_.lo r.start.lo r.bz=BT r.open_ r.bz.length r.end_.lo q.2 (r.bz.drop q.1)) (fun q=>r.bz.length -q.1) (0,r.start.lo) ⟨rfl,rfl,trivial⟩ (fun w hw=>hw) rfl ⟨aU _,rfl⟩ ?_
 rintro ⟨q,last⟩ g2 ⟨hq,hall2⟩
 simp only at hq hall2
 refine cr ?_
 refine R0 ?_
 refine xV (vd (q0 rfl) (q0 rfl)) rfl rfl ?_
 refine XN ?_
 refine az ?_
 refine cr ?_
 refine au rfl (fun hlt2=>?_) (fun hlt2=>?_)
 ·have hlt2':q<r.bz.length:=by simpa using hlt2
  obtain ⟨b,off,y,rfl,hbl,hy,hry⟩:=hpz.at_ hlt2'
  rw [tL hy] at hall2
  have hem:=CS hlt2'
  simp only [BT,hem] at hall2
  refine iS ?_
  refine az ?_
  refine cr ?_
  refine l0 ?_
  refine cr ?_
  refine R0 ?_
  refine xV (ez (v:= .int _ _) (q0 rfl)) rfl rfl ?_
  refine xV (bt _ fg iC (q0 rfl) (q0 rfl) (fun _=>⟨rfl,by omega⟩)) rfl rfl ?_
  refine xV (eS Tryz.isAgg248 iC (q0 rfl)) rfl rfl ?_
  refine cx l7 rfl fun b7=>?_
  refine xV (gZ (v:= .int _ _) (q0 rfl)) rfl rfl ?_
  refine fI (v:= .agg _) rfl rfl iC ?_
  refine XN ?_
  refine az ?_
  refine cr ?_
  refine cr ?_
  refine R0 ?_
  refine xV (cR jT rfl cQ rfl (q0 rfl)) rfl rfl ?_
  refine xV (cR eM rfl ax rfl (q0 rfl)) rfl rfl ?_
  refine xV (eL aJ (q0 rfl)) rfl rfl ?_
  refine xV (ez (v:= .int _ _) (q0 rfl)) rfl rfl ?_
  refine xV (vd (q0 rfl) (q0 rfl)) rfl rfl ?_
  refine XN ?_
  refine az ?_
  refine au rfl (fun hb1=>?_) (fun hb1=>?_)
  ·rw [av (by simpa using hb1)] at hall2
   rw [hall2]
   refine cr ?_
   refine R0 ?_
   refine xV (gZ (v:= .bool _) (q0 rfl)) rfl rfl ?_
   refine XN ?_
   refine az ?_
   refine jV ?_
   refine dH ?_
   refine fD ?_
   refine dH ?_
   refine mA ?_
   refine fD ?_
   refine dH ?_
   exact bH (v:= .bool _) rfl rfl rfl fun w' hw=>⟨rfl,hw.1⟩
  rw [ah (by simpa using hb1)] at hall2
  refine iS ?_
  refine az ?_
  refine cr ?_
  refine R0 ?_
  refine xV (cR jT rfl cQ rfl (q0 rfl)) rfl rfl ?_
  refine xV (cR eM rfl ax rfl (q0 rfl)) rfl rfl ?_
  refine xV (eL aJ (q0 rfl)) rfl rfl ?_
  refine xV (gZ (v:= .int _ _) (q0 rfl)) rfl rfl ?_
  refine XN ?_
  refine az ?_
  refine cr ?_
  refine cr ?_
  refine R0 ?_
  refine xV (cR eK rfl dG rfl (q0 rfl)) rfl rfl ?_
  refine xV (eL kK (q0 rfl)) rfl rfl ?_
  refine xV (ez (v:= .bool _) (q0 rfl)) rfl rfl ?_
  refine rF (ez (v:= .int _ _) (q0 rfl)) rfl rfl rfl rfl ?_
  refine rF (cR eK rfl mU rfl (q0 rfl)) rfl rfl rfl rfl ?_
  refine rF (eL mE (q1 rfl)) rfl rfl rfl rfl ?_
  refine rF (tl fg (q1 rfl)) rfl rfl rfl rfl ?_
  refine rF (ou (q1 rfl) (q0 rfl) (fun _=>⟨rfl,by simp only;omega,by simp only;omega⟩)) rfl rfl rfl rfl ?_
  refine rF (AL (q1 rfl) (q1 rfl)) rfl rfl rfl rfl ?_
  refine xV (pT (q0 rfl) rfl (fun h=>by first|rfl|(rw [h];rfl))) rfl rfl ?_
  refine xV (ez (v:= .bool _) (q0 rfl)) rfl rfl ?_
  refine rF (cR jT rfl cQ rfl (q0 rfl)) rfl rfl rfl rfl ?_
  refine rF (cR eM rfl ax rfl (q1 rfl)) rfl rfl rfl rfl ?_
  refine rF (eL aJ (q1 rfl)) rfl rfl rfl rfl ?_
  refine rF (AL (q1 rfl) (q0 rfl)) rfl rfl rfl rfl ?_
  refine xV (pT (q0 rfl) rfl (fun h=>by first|rfl|(rw [h];rfl))) rfl rfl ?_
  refine XN ?_
  refine az ?_
  refine au rfl (fun hb2=>?_) (fun hb2=>?_)
  ·rw [av hb2] at hall2
   rw [hall2]
   refine cr ?_
   refine R0 ?_
   refine xV (gZ (v:= .bool _) (q0 rfl)) rfl rfl ?_
   refine XN ?_
   refine az ?_
   refine jV ?_
   refine dH ?_
   refine fD ?_
   refine dH ?_
   refine mA ?_
   refine fD ?_
   refine dH ?_
   exact bH (v:= .bool _) rfl rfl rfl fun w' hw=>⟨rfl,hw.1⟩
  rw [ah (by rw [show _=false from hb2];decide)] at hall2
  refine iS ?_
  refine az ?_
  refine cr ?_
  refine cr ?_
  refine R0 ?_
  refine xV (cR jT rfl cQ rfl (q0 rfl)) rfl rfl ?_
  refine xV (cR eM rfl ax rfl (q0 rfl)) rfl rfl ?_
  refine xV (eL aJ (q0 rfl)) rfl rfl ?_
  refine xV (ez (v:= .int _ _) (q0 rfl)) rfl rfl ?_
  refine xV (vd (q0 rfl) (q0 rfl)) rfl rfl ?_
  refine XN ?_
  refine az ?_
  refine au rfl (fun hb3=>?_) (fun hb3=>?_)
  ·rw [av (by simpa using hb3)] at hall2
   rw [hall2]
   refine cr ?_
   refine R0 ?_
   refine xV (gZ (v:= .bool _) (q0 rfl)) rfl rfl ?_
   refine XN ?_
   refine az ?_
   refine jV ?_
   refine dH ?_
   refine fD ?_
   refine dH ?_
   refine mA ?_
   refine fD ?_
   refine dH ?_
   exact bH (v:= .bool _) rfl rfl rfl fun w' hw=>⟨rfl,hw.1⟩
  rw [ah (by simpa using hb3)] at hall2
  refine iS ?_
  refine az ?_
  refine R0 ?_
  refine xV (cR jT rfl cQ rfl (q0 rfl)) rfl rfl ?_
  refine xV (cR eM rfl ax rfl (q0 rfl)) rfl rfl ?_
  refine xV (eL aJ (q0 rfl)) rfl rfl ?_
  refine xV (gZ (v:= .int _ _) (q0 rfl)) rfl rfl ?_
  refine XN ?_
  refine iV ?_
  refine az ?_
  refine R0 ?_
  refine xV (rB (q0 rfl) (q0 rfl) (fun _=>⟨rfl,by omega,by omega⟩)) rfl rfl ?_
  refine xV (ez (v:= .int _ _) (q0 rfl)) rfl rfl ?_
  refine XN ?_
  exact ay (q+1,y.mK.lo) (by repeat (first|exact jw|exact ku|refine j7 rfl ?_|refine jO rfl ?_|refine jJ rfl ?_)) ⟨rfl,rfl,trivial⟩ (fun w hw=>hw.tail) rfl ⟨by show q+1≤_;omega,hall2⟩ (by show r.bz.length -(q+1)<r.bz.length -q;omega)
 have hend2:q=r.bz.length:=by simp at hlt2;omega
 rw [hend2,nW] at hall2
 simp only [BT] at hall2
 rw [hall2]
 refine xD ?_
 refine mZ ?_
 refine ng ?_
 refine nn ?_
 refine az ?_
 refine cr ?_
 refine R0 ?_
 refine xV (cR eK rfl dG rfl (q0 rfl)) rfl rfl ?_
 refine xV (eL kK (q0 rfl)) rfl rfl ?_
 refine xV (ez (v:= .bool _) (q0 rfl)) rfl rfl ?_
 refine oQ (cR eK rfl mU rfl (q0 rfl)) rfl rfl rfl rfl ?_
 refine oQ (eL mE (q1 rfl)) rfl rfl rfl rfl ?_
 refine oQ (tl fg (q1 rfl)) rfl rfl rfl rfl ?_
 refine oQ (AL (q1 rfl) (q0 rfl)) rfl rfl rfl rfl ?_
 refine xV (u9 (q0 rfl) rfl (fun h=>by first|rfl|(rw [h];rfl))) rfl rfl ?_
 refine xV (ez (v:= .bool _) (q0 rfl)) rfl rfl ?_
 refine oQ (ez (v:= .int _ _) (q0 rfl)) rfl rfl rfl rfl ?_
 refine oQ (cR eK rfl cQ rfl (q0 rfl)) rfl rfl rfl rfl ?_
 refine oQ (cR eM rfl ax rfl (q1 rfl)) rfl rfl rfl rfl ?_
 refine oQ (eL aJ (q1 rfl)) rfl rfl rfl rfl ?_
 refine oQ (Oh (q1 rfl) (q1 rfl)) rfl rfl rfl rfl ?_
 refine xV (u9 (q0 rfl) rfl (fun h=>by first|rfl|(rw [h];rfl))) rfl rfl ?_
 refine xV (gZ (v:= .bool _) (q0 rfl)) rfl rfl ?_
 refine XN ?_
 refine az ?_
 refine jV ?_
 exact bH (v:= .bool _) rfl rfl rfl fun w' hw=>⟨rfl,hw.1⟩
attribute [local irreducible] fW qy q7
theorem yo (x:RX) (w:World) (hx:vu w x) (hl:x.r.cw.length≤1000000) (hp:x.r.bz.length≤1000000):Calls Tryz.prog 160 #[.agg x.cells.toArray] w fun e w'=>e= .returned (.int .i64 (dW x.r))∧gz w w':=by
 have hxw:=hx;obtain ⟨r,ra⟩:=x;simp only at hl hp;refine aS Tryz.func160 rfl Tryz.ntmps160 rfl ?_;iterate 2 refine G ?_
 refine cd (v:= .agg _) rfl rfl fun b1=>?_;iterate 8 refine G ?_
 refine gV (en Tryz.call209 (il (q0 rfl))) (fun _ w hw=>yq ⟨r,ra⟩ w (hx.mem hw)) ?_;iterate 4 refine G ?_
 refine au rfl ?_ ?_<;>intro h1
 ·have hc:dW r=1:=by unfold dW;rw [av h1]
  rw [hc];iterate 8 refine G ?_
  exact bH (v:= .int _ _) rfl rfl rfl fun w' hw=>⟨rfl,hw.1⟩
 iterate 3 refine G ?_
 refine gV (en Tryz.call210 (il (q0 rfl))) (fun _ w hw=>NA ⟨r,ra⟩ w (hx.mem hw)) ?_;iterate 4 refine G ?_
 refine au rfl ?_ ?_<;>intro h2
 ·have hc:dW r=3:=by unfold dW;rw [ah (by rw [h1];decide),av h2]
  rw [hc];iterate 8 refine G ?_
  exact bH (v:= .int _ _) rfl rfl rfl fun w' hw=>⟨rfl,hw.1⟩
 iterate 3 refine G ?_
 refine gV (en Tryz.call211 (il (q0 rfl))) (fun _ w hw=>K4 ⟨r,ra⟩ w (hx.mem hw) hl hp) ?_;iterate 4 refine G ?_
 refine au rfl ?_ ?_<;>intro h3
 ·have hc:dW r=9:=by unfold dW;rw [ah (by rw [h1];decide),ah (by rw [h2];decide),av h3]
  rw [hc];iterate 8 refine G ?_
  exact bH (v:= .int _ _) rfl rfl rfl fun w' hw=>⟨rfl,hw.1⟩
 iterate 7 refine G ?_
 refine qV (eP kq cQ (q1 rfl)) rfl rfl ?_;refine qV (iO.any (bS eM Sc xJ E.p0 rfl)) rfl rfl ?_;refine qV (CM (fun w=>N' r.end_ nY w) (by kernel_rfl) (q1 rfl) (q1 rfl)) rfl rfl ?_;iterate 4 refine G ?_
 refine au rfl ?_ ?_<;>intro h4
 ·have hc:dW r=12:=by unfold dW;rw [ah (by rw [h1];decide),ah (by rw [h2];decide),ah (by rw [h3];decide),av h4]
  rw [hc];iterate 2 refine G ?_
  refine au rfl ?_ ?_<;>intro h5
  ·iterate 8 refine G ?_
   exact bH (v:= .int _ _) rfl rfl rfl fun w' hw=>⟨rfl,hw.1⟩
  rw [h4] at h5;cases h5
 iterate 6 refine G ?_
 refine bO (Sh iL (q0 rfl) (q0 rfl)) ?_;iterate 3 refine G ?_
 refine au rfl ?_ ?_<;>intro h5
 ·have hc:dW r=12:=by unfold dW;rw [ah (by rw [h1];decide),ah (by rw [h2];decide),ah (by rw [h3];decide),ah (by rw [show _=false from h4];decide),av h5]
  rw [hc];iterate 8 refine G ?_
  exact bH (v:= .int _ _) rfl rfl rfl fun w' hw=>⟨rfl,hw.1⟩
 have hc:dW r=0:=by unfold dW;rw [ah (by rw [h1];decide),ah (by rw [h2];decide),ah (by rw [h3];decide),ah (by rw [show _=false from h4];decide),ah (by rw [show _=false from h5];decide)]
 rw [hc];iterate 9 refine G ?_
 exact bH (v:= .int _ _) rfl rfl rfl fun w' hw=>⟨rfl,hw.1⟩
end Go.Proofs.Rid
namespace Go.Proofs.Far
open Go Go.RowKit Go.Proofs.E Go.Proofs.Cus Go.Proofs.Rid
theorem S8 (x:RX) (w:World) (hx:vu w x) (h:dW x.r=0) (ho:x.r.open_=false):Calls Tryz.prog 322 #[.agg x.cells.toArray] w fun e w'=>e= .returned (.tuple #[.agg (pO x.r).cells.toArray, .int .i64 0])∧gz w w':=by
 have hp:=gR h;refine aS Tryz.func322 rfl Tryz.ntmps322 rfl ?_;iterate 2 refine G ?_
 refine cd (v:= .agg _) rfl rfl fun b1=>?_;refine cx cN rfl fun b2=>?_;iterate 6 refine G ?_
 refine gV (en UE (il (q0 rfl))) (fun _ w hw=>yo x w (hx.mem hw) (by omega) (by omega)) ?_;rw [h];iterate 12 refine G ?_
 refine au rfl ?_ ?_<;>intro h1
 ·exfalso;simp at h1
 iterate 7 refine G ?_
 refine au rfl ?_ ?_<;>intro h2
 ·exfalso;rw [show x.r.open_=true from h2] at ho;cases ho
 iterate 14 refine G ?_
 refine bO (vb (q0 rfl) (q0 rfl)) ?_;refine bO (bS ir D8 cN (pt (v:= .int _ _) rfl (pt (v:= .int _ _) rfl E.p0)) rfl) ?_;refine fI (v:= .agg _) rfl rfl bM ?_;iterate 4 refine G ?_
 exact mh rfl (RP 0 rfl rfl rfl ur bM rfl rfl) fun w' hw=>⟨rfl,hw.1⟩
theorem PN (A:Option Addr) (n c:Nat) (l:List Pz) (w:World) (hx:gJ w 4 Pz.cells A n l) (hn:n≤10000):Calls Tryz.prog 289 #[.slice A n c] w fun e w'=> ∃z:Option Addr×Nat,e= .returned (.slice z.1 (l.map pN).length z.2)∧Mem w [fP z.1 z.2 (l.map pN)] w':=by
 have hl:=hx.1;refine aS Tryz.func289 rfl Tryz.ntmps289 rfl ?_;iterate 6 refine G ?_
 refine fY (L':=[fP none 0 []]) (fun w hw=>hw.eX 153 2 Wn.cells rfl) rfl ?_;iterate 13 refine G ?_
 refine ct [3,5,8,9,10,11,12,13,14,15,16,17,18,19,20,21,22,23,24,25,26] (fun q:Nat×Option Addr×Nat=>[(8, .int .i64 q.1),(3, .slice q.2.1 ((l.take q.1).map pN).length q.2.2)]) (fun q=>[fP q.2.1 q.2.2 ((l.take q.1).map pN)]) (fun q=>q.1≤n) (fun q=>n -q.1) (0,none,0) ⟨rfl,rfl,trivial⟩ (fun w hw=>hw) rfl (aU _) ?_;rintro ⟨k,oA,oc⟩ g hk;simp only at hk;iterate 6 refine G ?_
 refine au rfl ?_ ?_<;>intro hlt
 ·have hlt':k<n:=by simpa using hlt
  obtain ⟨b,off,p,rfl,hbl,hpk,hrp⟩:=hx.at_ hlt';have hs:(l.take (k+1)).map pN=(l.take k).map pN++[pN p]:=by rw [od _ _ _ hpk,bX];rfl
  iterate 6 refine G ?_
  refine bO (bt _ WL iC (q0 rfl) (q0 rfl) (fun _=>⟨rfl,by omega⟩)) ?_;refine G ?_;refine cx l7 rfl fun b5=>?_;refine fI (v:= .agg _) rfl rfl iC ?_;iterate 13 refine G ?_
  refine bO (vb (q0 rfl) (q0 rfl)) ?_;refine bO (bS ir D8 cN (pt (v:= .int _ _) rfl (pt (v:= .int _ _) rfl E.p0)) rfl) ?_;refine lq (k:=2) (i:=Tryz.t153) 1 ((pN p)) bG (by kernel_rfl) rfl rfl rfl rfl bM cN rfl rfl rfl rfl rfl rfl ⟨by simp only [aD,cH];omega,by decide⟩ rfl rfl fun B0 A1 c1=>?_;iterate 8 refine G ?_
  refine ay (k+1,A1,c1) eE ⟨rfl,by rw [hs];rfl,trivial⟩ (fun w hw=>by rw [hs];exact hw.tail) rfl (by simp only;omega) (by simp only;omega)
 have hend:k=n:=by simp at hlt;omega
 rw [hend,bN (by omega)];iterate 12 refine G ?_
 exact bH (v:= .slice _ _ _) rfl rfl rfl fun w' hw=>⟨(oA,oc),rfl,hw⟩
theorem Qc (A:Option Addr) (n c:Nat) (l:List Pz) (w:World) (hx:gJ w 4 Pz.cells A n l) (hn:n≤10000):Calls Tryz.prog 287 #[.slice A n c] w fun e w'=> ∃z:Option Addr×Nat,e= .returned (.slice z.1 (l.map pQ).length z.2)∧Mem w [fP z.1 z.2 (l.map pQ)] w':=by
 have hl:=hx.1;refine aS Tryz.func287 rfl Tryz.ntmps287 rfl ?_;iterate 6 refine G ?_
 refine fY (L':=[fP none 0 []]) (fun w hw=>hw.eX 153 2 Wn.cells rfl) rfl ?_;iterate 13 refine G ?_
 refine ct [3,5,8,9,10,11,12,13,14,15,16,17,18,19,20,21,22,23,24,25,26] (fun q:Nat×Option Addr×Nat=>[(8, .int .i64 q.1),(3, .slice q.2.1 ((l.take q.1).map pQ).length q.2.2)]) (fun q=>[fP q.2.1 q.2.2 ((l.take q.1).map pQ)]) (fun q=>q.1≤n) (fun q=>n -q.1) (0,none,0) ⟨rfl,rfl,trivial⟩ (fun w hw=>hw) rfl (aU _) ?_;rintro ⟨k,oA,oc⟩ g hk;simp only at hk;iterate 6 refine G ?_
 refine au rfl ?_ ?_<;>intro hlt
 ·have hlt':k<n:=by simpa using hlt
  obtain ⟨b,off,p,rfl,hbl,hpk,hrp⟩:=hx.at_ hlt';have hs:(l.take (k+1)).map pQ=(l.take k).map pQ++[pQ p]:=by rw [od _ _ _ hpk,bX];rfl
  iterate 6 refine G ?_
  refine bO (bt _ WL iC (q0 rfl) (q0 rfl) (fun _=>⟨rfl,by omega⟩)) ?_;refine G ?_;refine cx l7 rfl fun b5=>?_;refine fI (v:= .agg _) rfl rfl iC ?_;iterate 13 refine G ?_
  refine bO (vb (q0 rfl) (q0 rfl)) ?_;refine bO (bS ir D8 cN (pt (v:= .int _ _) rfl (pt (v:= .int _ _) rfl E.p0)) rfl) ?_;refine lq (k:=2) (i:=Tryz.t153) 1 ((pQ p)) bG (by kernel_rfl) rfl rfl rfl rfl bM cN rfl rfl rfl rfl rfl rfl ⟨by simp only [aD,cH];omega,by decide⟩ rfl rfl fun B0 A1 c1=>?_;iterate 8 refine G ?_
  refine ay (k+1,A1,c1) eE ⟨rfl,by rw [hs];rfl,trivial⟩ (fun w hw=>by rw [hs];exact hw.tail) rfl (by simp only;omega) (by simp only;omega)
 have hend:k=n:=by simp at hlt;omega
 rw [hend,bN (by omega)];iterate 12 refine G ?_
 exact bH (v:= .slice _ _ _) rfl rfl rfl fun w' hw=>⟨(oA,oc),rfl,hw⟩
theorem M' (x:RX) (gC gW:Nat) (W R:List Wn) (pv:Value) (w:World) (hx:vu w x) (h:dW x.r=0) (ho:x.r.open_=false) (eC: ∀args w,(callFunc gC args).run Tryz.prog w= .ok (.enter gC args) w) (eW: ∀args w,(callFunc gW args).run Tryz.prog w= .ok (.enter gW args) w)
  (hW: ∀w,vu w x→Calls Tryz.prog gW #[pv] w fun e w'=> ∃z:Option Addr×Nat,e= .returned (.slice z.1 W.length z.2)∧Mem w [fP z.1 z.2 W] w')
  (hC: ∀(A:Option Addr) (c:Nat) (B:Option Addr) (d:Nat) (w:World),ub w A 1 [pO x.r]→ub w B W.length W→Calls Tryz.prog gC #[.slice A 1 c, .slice B W.length d] w fun e w'=> ∃z:Option Addr×Nat,e= .returned (.tuple #[.slice z.1 R.length z.2, .int .i64 0])∧Mem w [fP z.1 z.2 R] w') (hWl:W.length≤10000):
  Calls Tryz.prog 285 #[.agg x.cells.toArray, .func (.func gC) #[] #[], .func (.func gW) #[pv] #[]] w fun e w'=> ∃z:Option Addr×Nat,e= .returned (.tuple #[.slice z.1 R.length z.2, .int .i64 0])∧Mem w [fP z.1 z.2 R] w':=by
 refine aS Tryz.func285 rfl Tryz.ntmps285 rfl ?_;iterate 2 refine G ?_
 refine cd (v:= .agg _) rfl rfl fun b3=>?_;iterate 7 refine G ?_
 refine gV (en Tryz.call322 (il (q0 rfl))) (fun _ w hw=>S8 x w (hx.mem hw) h ho) ?_;iterate 3 refine G ?_
 refine cx cN rfl fun b8=>?_;refine fI (v:= .agg _) rfl rfl bM ?_;iterate 10 refine G ?_
 refine au rfl ?_ ?_<;>intro h1
 ·exfalso;simp at h1
 iterate 3 refine G ?_
 refine jK [6,7,18,19,20,21,22,23,24,25] (fun z:Option Addr×Nat=>[(6, .slice z.1 R.length z.2),(7, .int .i64 0)]) (fun z=>[fP z.1 z.2 R]) (fun _=>True) ?_ ?_
 ·refine AQ ?_;refine aW 0 ?_;refine aW 1 ?_;refine aW 3 ?_;refine kY (i:=2) (j:=4) (by decide+kernel) (bK 0) ?_ ?_
  ·refine aL rfl (dE [(.int .i64 0),(.int .i64 0)] bG bM cN rfl (by kernel_rfl) (pt (v:= .agg _) rfl E.p0) rfl rfl fun b20=>?_);refine r1 4 1 ?_;refine aL rfl (di (W8 (bd:=[pv]) (al:=[pv]) eW (q0 rfl) (fun hg=>by rw [Iw hg];rfl)) (fun w hw=>hW w (hx.mem hw)) rfl (fun _=>rfl) fun z4=>?_);refine aI 1 ?_;refine r1 5 2 ?_;refine aL rfl (di (wK (cap:=[]) (al:=[.slice (some ⟨b20,0,none⟩) 1 1, .slice z4.1 W.length z4.2]) eC (q0 rfl) (fun hg=>by rw [gr (q0 (v:= .slice _ _ _) rfl) (q0 (v:= .slice _ _ _) rfl) hg];rfl)) (fun w hw=>hC _ _ _ _ w (bg (enc:=Wn.cells) (xs:=[pO x.r]) hw (j:=0) rfl (fun _=>rfl) (by simp)) (cW hw (j:=1) rfl (fun _=>rfl) (by omega))) rfl (fun _=>rfl) fun z5=>?_);refine aI 2 ?_;refine xw (bK 3) ?_;refine aW 6 ?_;refine aW 7 ?_;refine aW 8 ?_;refine aW 9 ?_;refine jz 0 ?_;exact aO (z5:Option Addr×Nat) eE ⟨rfl,rfl,trivial⟩ (fun w hw=>hw.pick [2] (by decide)) rfl trivial
  refine aL rfl (di (W8 (bd:=[pv]) (al:=[pv]) eW (q0 rfl) (fun hg=>by rw [Iw hg];rfl)) (fun w hw=>hW w (hx.mem hw)) rfl (fun _=>rfl) fun z4=>?_);refine r1 2 1 ?_;refine aL rfl (dE [(.int .i64 0),(.int .i64 0)] bG bM cN rfl (by kernel_rfl) (pt (v:= .agg _) rfl E.p0) rfl rfl fun b20=>?_);refine r1 5 2 ?_;refine aL rfl (di (wK (cap:=[]) (al:=[.slice (some ⟨b20,0,none⟩) 1 1, .slice z4.1 W.length z4.2]) eC (q0 rfl) (fun hg=>by rw [gr (q0 (v:= .slice _ _ _) rfl) (q0 (v:= .slice _ _ _) rfl) hg];rfl)) (fun w hw=>hC _ _ _ _ w (bg (enc:=Wn.cells) (xs:=[pO x.r]) hw (j:=0) rfl (fun _=>rfl) (by simp)) (cW hw (j:=1) rfl (fun _=>rfl) (by omega))) rfl (fun _=>rfl) fun z5=>?_);refine aI 2 ?_;refine xw (bK 3) ?_;refine aW 6 ?_;refine aW 7 ?_;refine aW 8 ?_;refine aW 9 ?_;refine jz 0 ?_;exact aO (z5:Option Addr×Nat) eE ⟨rfl,rfl,trivial⟩ (fun w hw=>hw.pick [2] (by decide)) rfl trivial
 rintro z5 g5 _;iterate 2 refine G ?_
 exact fV (v:= .slice _ _ _) (x:= .int _ _) rfl rfl rfl rfl fun w' hw=>⟨z5,rfl,hw⟩
attribute [local irreducible] AI AK
theorem Iv (x:RX) (w:World) (hx:vu w x) (h:dW x.r=0) (ho:x.r.open_=false):Calls Tryz.prog 228 #[.agg x.cells.toArray] w fun e w'=> ∃z:Option Addr×Nat,e= .returned (.tuple #[.slice z.1 (AK x.r).length z.2, .int .i64 0])∧Mem w [fP z.1 z.2 (AK x.r)] w':=by
 have hp:=gR h;refine aS Tryz.func228 rfl Tryz.ntmps228 rfl ?_;iterate 2 refine G ?_
 refine cd (v:= .agg _) rfl rfl fun b1=>?_;iterate 9 refine G ?_
 refine bO (Sm (q0 (v:= .slice _ _ _) rfl)) ?_;refine qW (en Tryz.call285 (nj (q0 rfl) (q0 rfl) (q0 rfl))) (fun w hw=>M' x 288 289 (x.r.bz.map pN) (AK x.r) (.slice x.a.pA x.r.bz.length x.a.pc) w (hx.mem hw) h ho Tryz.call288 Tryz.call289 (fun w hx=>PN x.a.pA x.r.bz.length x.a.pc x.r.bz w hx.bz (by omega)) (fun A c B d w h1 h2=>by unfold AK;exact Oz A c (pO x.r) B (x.r.bz.map pN).length d (x.r.bz.map pN) w h1 h2 (by simp;omega) (xY h) (F2 h)) (by simp;omega)) rfl (fun _=>rfl) fun z=>?_;iterate 7 refine G ?_
 exact fV (v:= .slice _ _ _) (x:= .int _ _) rfl rfl rfl rfl fun w' hw=>⟨z,rfl,hw.pick [0] (by decide)⟩
theorem Lu (x:RX) (w:World) (hx:vu w x) (h:dW x.r=0) (ho:x.r.open_=false):Calls Tryz.prog 227 #[.agg x.cells.toArray] w fun e w'=> ∃z:Option Addr×Nat,e= .returned (.tuple #[.slice z.1 (AI x.r).length z.2, .int .i64 0])∧Mem w [fP z.1 z.2 (AI x.r)] w':=by
 have hp:=gR h;refine aS Tryz.func227 rfl Tryz.ntmps227 rfl ?_;iterate 2 refine G ?_
 refine cd (v:= .agg _) rfl rfl fun b1=>?_;iterate 9 refine G ?_
 refine bO (Sm (q0 (v:= .slice _ _ _) rfl)) ?_;refine qW (en Tryz.call285 (nj (q0 rfl) (q0 rfl) (q0 rfl))) (fun w hw=>M' x 286 287 (x.r.bz.map pQ) (AI x.r) (.slice x.a.pA x.r.bz.length x.a.pc) w (hx.mem hw) h ho Tryz.call286 Tryz.call287 (fun w hx=>Qc x.a.pA x.r.bz.length x.a.pc x.r.bz w hx.bz (by omega)) (fun A c B d w h1 h2=>by unfold AI;exact Qs A c (pO x.r) B (x.r.bz.map pQ).length d (x.r.bz.map pQ) w h1 h2 (by simp;omega) (xY h) (Gm h)) (by simp;omega)) rfl (fun _=>rfl) fun z=>?_;iterate 7 refine G ?_
 exact fV (v:= .slice _ _ _) (x:= .int _ _) rfl rfl rfl rfl fun w' hw=>⟨z,rfl,hw.pick [0] (by decide)⟩
theorem KN (x:RX) (w:World) (hx:vu w x) (h:dW x.r=0) (ho:x.r.open_=false):Calls Tryz.prog 166 #[.agg x.cells.toArray] w fun e w'=>e= .returned (.tuple #[.int .i64 (nR x.r), .int .i64 (rK x.r), .int .i64 0])∧gz w w':=by
 have hr:=MW h;have hp:=M9 h;have hr2:=Jh h;have hp2:=Jo h;refine aS Tryz.func166 rfl Tryz.ntmps166 rfl ?_;iterate 2 refine G ?_
 refine cd (v:= .agg _) rfl rfl fun b1=>?_;iterate 8 refine G ?_
 refine qW (en Tryz.call227 (il (q0 rfl))) (fun w hw=>Lu x w (hx.mem hw) h ho) rfl (fun _=>rfl) fun z1=>?_;iterate 14 refine G ?_
 refine au rfl ?_ ?_<;>intro h1
 ·exfalso;simp at h1
 iterate 5 refine G ?_
 refine qW (en Tryz.call228 (il (q0 rfl))) (fun w hw=>Iv x w (hx.mem hw) h ho) rfl (fun _=>rfl) fun z2=>?_;iterate 14 refine G ?_
 refine au rfl ?_ ?_<;>intro h2
 ·exfalso;simp at h2
 iterate 5 refine G ?_
 refine gV (en Tryz.call229 (il (q0 rfl))) (fun _ w hw=>GO z1.1 (AI x.r).length z1.2 (AI x.r) w (cW hw (j:=1) rfl (fun _=>rfl) (by omega)) (by omega) hr2) ?_;iterate 14 refine G ?_
 refine au rfl ?_ ?_<;>intro h3
 ·exfalso;simp at h3
 iterate 5 refine G ?_
 refine gV (en Tryz.call229 (il (q0 rfl))) (fun _ w hw=>GO z2.1 (AK x.r).length z2.2 (AK x.r) w (cW hw (j:=0) rfl (fun _=>rfl) (by omega)) (by omega) hp2) ?_;iterate 14 refine G ?_
 refine au rfl ?_ ?_<;>intro h4
 ·exfalso;simp at h4
 iterate 12 refine G ?_
 exact U8 (v:= .int _ _) (x:= .int _ _) (z:= .int _ _) rfl rfl rfl rfl rfl fun w' hw=>⟨rfl,hw.1⟩
end Go.Proofs.Far
