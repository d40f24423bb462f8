import Derived.Test.YtomomjgdeomgiaaGreatBA06
set_option maxRecDepth 100000
set_option maxHeartbeats 8000000
set_option linter.all false
namespace Go.Proofs.Cus
open Go Go.RowKit Go.Proofs.E
structure Sf {σ τ:Type} (f:Fl) (a:FA) (n:Nat) (g:FuncId) (lb:List Value) (cb:σ->PS->Ev->Int->σ) (CI:σ->τ->List E.Item) (J:Nat->σ->Prop):Prop where
 enter: ∀args w,(callFunc g args).run Tryz.prog w= .ok (.enter g args) w
 run: ∀{w0:World} {L:List E.Item} {s:SA} {t:TS} {z:σ} {x:τ} {k:Nat} (e:Ev) (er:Int),marks L=[]->s.n=n->t.aG.length=n->n<=1000->mE w0 f a->k<=10000->J k z-> ∀w,Mem w0 (CI z x++(tE f a s t++L)) w->
  Calls Tryz.prog g (([.pointer (some ⟨s.sb,0,none⟩), .agg e.cells.toArray, .int .i64 er]:List Value)++lb).toArray w λr w'=> ∃x':τ,r= .returned (.tuple #[])/\Mem w0 (CI (cb z t.plain e er) x'++(tE f a s t++L)) w'
 Ep: ∀k z s e er,J k z->J (k+1) (cb z s e er)
def UI {σ τ:Type} (f:Fl) (a:FA) (n:Nat) (o:Option (FuncId×List Value)) (cb:σ->PS->Ev->Int->σ) (CI:σ->τ->List E.Item) (J:Nat->σ->Prop):Prop:=
 match o with
 |none=> ∀z s e er,cb z s e er=z
 |some gl=>Sf f a n gl.1 gl.2 cb CI J
def cbv:Option (FuncId×List Value)->Value
 |none=> .nilFunc
 |some gl=> .func (.func gl.1) #[] gl.2.toArray
theorem Mf(f a A n c v w)(hf:mE w f a)(he:fy f≠0):
  Calls Tryz.prog 109 #[.agg (f.cells a).toArray, .slice A n c,v] w λe w'=>e= .returned (.tuple #[.pointer none, .int .i64 (fy f)])/\fM w w':=by
 refine HF Tryz.func109 Tryz.ntmps109 ?_;refine cd (v:= .agg _) rfl rfl λb3=>GX ?_;refine jx (en DC (iQ (q0 rfl))) (λ_ w hm=>xM f a w (hf.mem hm))<|GD ?_ ?_<;>intro h
 ·exact jr (v:= .pointer _) (x:= .int _ _) rfl rfl rfl rfl λw' hw=>⟨rfl,hw.1⟩
 exact absurd (by simpa using h) he
theorem Qd {σ τ:Type} (f:Fl) (a:FA) (A:Option Addr) (n c nb:Nat) (xs:List Ev) (o:Option (FuncId×List Value)) (cb:σ->PS->Ev->Int->σ) (CI:σ->τ->List E.Item) (J:Nat->σ->Prop) (hcbs:UI f a nb o cb CI J) (hJn: ∀k z,J k z->J (k+1) z)
  {w0 w:World} {L:List E.Item} {z0:σ} {x0:τ} (hw:Mem w0 (CI z0 x0++L) w) (hmL:marks L=[]) (hmC: ∀z x,marks (CI z x)=[]) (hJ0:J 0 z0) (hf:mE w0 f a) (hx:rO w0 A n xs) (hn:n<=10000) (hok:fy f=0) (hnb:f.cv=nb)
  (hpl: ∀e∈xs,-9223372036854775808<=e.place/\e.place<=9223372036854775807):
  Calls Tryz.prog 109 #[.agg (f.cells a).toArray, .slice A n c,cbv o] w λe w'=> ∃y:{y:SA×TS×τ//y.1.n=nb/\y.2.1.plain=(gn f cb (setOf xs) (dy nb,z0)).1},e= .returned (.tuple #[.pointer (some ⟨y.1.1.sb,0,none⟩), .int .i64 0])/\Mem w0 (tE f a y.1.1 y.1.2.1++(CI (gn f cb (setOf xs) (dy nb,z0)).2 y.1.2.2++L)) w':=by
 have hmk2: ∀z x,marks (CI z x++L)=[]:=λz x=>by rw [kp,hmC,hmL];rfl
 have hmk:=hmL;obtain ⟨hbk,-⟩:=kq hok;have hys: ∀e∈setOf xs,-9223372036854775808<=e.place/\e.place<=9223372036854775807:=λe he=>hpl e ((vm xs).mem e|>.1 he).1;have hylen:=vo xs;have hxl:=hx.1;refine gI hw (hmk2 _ _) Tryz.func109 rfl Tryz.ntmps109 rfl ?_;refine GX ?_;refine cd (v:= .agg _) rfl rfl λb3=>GX ?_;refine jx (en DC (iQ (q0 rfl))) (λ_ w hm=>xM f a w (hf.mem hm)) ?_;refine GD ?_ ?_<;>intro h
 ·exact absurd hok (by simpa using h)
 refine GX ?_;refine oD (en Tryz.call182 (iQ (q0 rfl))) (λw hw=>EP f a nb hnb (by omega) w) rfl (λ_=>rfl) λs=>GX ?_;refine oD (en Tryz.call183 (iQ (q0 rfl))) (λw hw=>S4 A n c xs w (hx.mem hw) hn) rfl (λ_=>rfl) λY=>GX ?_;obtain ⟨s,hsn⟩:=s;generalize hys0:setOf xs=ys at*;obtain ⟨R,hR⟩: ∃R:Nat->PS×σ,R=λk=>gn f cb (ys.take k) (dy nb,z0):=⟨_,rfl⟩;have hR0:R 0=(dy nb,z0):=by rw [hR];rfl
 have hRn:R ys.length=gn f cb ys (dy nb,z0):=by rw [hR];simp only [dQ]
 have hRs: ∀k e,ys[k]?=some e->R (k+1)=ie cb (R k).2 e (eE f (R k).1 e):=λk e he=>by rw [hR];exact vq ys _ k e he
 have hRI: ∀k,jF nb (R k).1:=λk=>by rw [hR];exact xq hnb _ _ (jF.begin nb)
 clear hR;refine ef ([11,12]++rg 23 32) (λq:Nat×TS×τ=>[(23, .int .i64 q.1)]) (λq=>gY Y.1 Y.2 ys::(tE f a s q.2.1++(box b3 24 (f.cells a)::(CI (R q.1).2 q.2.2++L)))) (λq=>q.1<=ys.length/\q.2.1.plain=(R q.1).1/\J q.1 (R q.1).2) (λq=>ys.length -q.1) (0,NI nb,x0) ⟨rfl,trivial⟩ (λw hw=>by show Mem w0 (gY _ _ _::(tE f a s _++(_::(CI (R 0).2 _++L)))) w;rw [hR0];exact hw) ((hmk2 _ _).trans (hmk2 _ _).symm) ⟨bj _,by rw [hR0];rfl,by show J 0 (R 0).2;rw [hR0];exact hJ0⟩ ?_;rintro ⟨k,t,x⟩ g ⟨hk,htp,hJ⟩;simp only at hk htp hJ;iterate 6 refine G0 ?_
 refine bD rfl ?_ ?_<;>intro hlt
 ·have hlt':k<ys.length:=by simpa using hlt
  obtain ⟨e,he⟩: ∃e,ys[k]?=some e:=⟨_,ah hlt'⟩;have hRk:=hRs k e he;have hplc:=hys e (aq he);have hIk:=hRI k;rw [<-htp] at hIk hRk;have hlT:t.aG.length=s.n:=by rw [hsn];exact hIk.len
  refine gM (λw hw=>fG (j:=0) hw rfl (by omega)) λ⟨b,hb4⟩=>?_;obtain ⟨Y1,Y2⟩:=Y;simp only at hb4;subst hb4;obtain ⟨Y,hY⟩: ∃Y:Nat×Nat,Y.2=Y2:=⟨(0,Y2),rfl⟩;rw [<-hY];refine GX ?_;refine bS dt rfl λb11=>dN (v:= .agg _) rfl rfl cU ?_;refine GX ?_;refine jx (en Tryz.call184 (jn (q0 rfl) (q0 rfl))) (λ_ w hm=>AW f a e w (hf.mem hm) hplc) ?_;refine GD ?_ ?_<;>intro hbeat
  ·have hb10:jo f e=0/\e.kind=10:=by simpa using hbeat
   have hst:R (k+1)=(t.plain,(R k).2):=by rw [hRk];unfold eE ie;rw [aB hb10]
   refine GX ?_;exact aH (k+1,t,x) lg ⟨rfl,trivial⟩ (λw hw=>by show Mem w0 (gY _ _ _::(tE f a s _++(_::(CI (R (k+1)).2 _++L)))) w;rw [hst];exact hw.tail) ((hmk2 _ _).trans (hmk2 _ _).symm) ⟨by show k+1<=_;omega,by show t.plain=(R (k+1)).1;rw [hst],by show J (k+1) (R (k+1)).2;rw [hst];exact hJn k _ hJ⟩ (by show ys.length -(k+1)<ys.length -k;omega)
  have hb10: ¬(jo f e=0/\e.kind=10):=by simpa using hbeat
  refine GD ?_ ?_<;>intro h0
  ·have h0':jo f e=0:=by simpa using h0
   obtain ⟨_,hbike,hp7,_,_⟩:=pX h0';refine GX ?_;refine jx (en Tryz.call185 (jn (q0 rfl) (q0 rfl))) (λ_ w hm=>Me (s:=s) e w (OA (s:=s) (hf.mem hm) hlT (by omega) (Mem.uw (X:=[_,_]) (S:=tE f a s t) hm)) (by omega) hp7) ?_;refine GD ?_ ?_<;>intro hc
   ·have hc':ez f.cI t.plain e=0:=by simpa using hc
    refine GX ?_;refine cQ (dD (en Tryz.call186 (jn (q0 rfl) (q0 rfl))) (λw hw=>UB (s:=s) e (Mem.uw (X:=[_,_]) (S:=tE f a s t) hw) (hmk2 _ _) (by rw [hsn];exact hIk) (by omega) hc') rfl (λ_=>rfl) λt2=>?_);obtain ⟨t2,ht2⟩:=t2;have hst:(R (k+1)).1=t2.plain/\(R (k+1)).2=cb (R k).2 t2.plain e 0:=by
     rw [hRk];unfold eE ie;rw [an hb10];simp only;rw [aB h0',hc',aB rfl,ht2];exact ⟨rfl,rfl⟩
    have hlT2:t2.aG.length=s.n:=by
     have:=(hRI (k+1)).len;rw [hst.1] at this;rw [hsn];exact this
    iterate 3 refine G0 ?_
    refine jb (λw hw=>Mem.uw (X:=tE f a s t2) (S:=[_,_]) hw) rfl ?_;rw [hc'];cases o with
    |none=>
     refine GX ?_;refine fI (zg nL (q0 rfl)) ?_;refine GD ?_ ?_<;>intro hcb
     ·cases hcb
     refine GX ?_;have hz:=hcbs (R k).2 t2.plain e 0;exact aH (k+1,t2,x) lg ⟨rfl,trivial⟩ (λw hw=>by show Mem w0 (gY _ _ _::(tE f a s t2++(_::(CI (R (k+1)).2 x++L)))) w;rw [hst.2,hz];exact hw.tail) ((hmk2 _ _).trans (hmk2 _ _).symm) ⟨by show k+1<=_;omega,by show t2.plain=(R (k+1)).1;rw [hst.1],by show J (k+1) (R (k+1)).2;rw [hst.2,hz];exact hJn k _ hJ⟩ (by show ys.length -(k+1)<ys.length -k;omega)
    |some gl=>
     have hcbr:=hcbs.run (w0:=w0) (L:=[box b11 131 e.cells,gY (some ⟨b,0,none⟩) Y.2 ys,box b3 24 (f.cells a)]++L) (s:=s) (t:=t2) (z:=(R k).2) (x:=x) (k:=k) e 0 hmk hsn (by rw [<-hsn];exact hlT2) (by omega) hf (by omega) hJ;refine GX ?_;refine fI (Cp nL (q0 rfl)) ?_;refine GD ?_ ?_<;>intro hcb
     ·refine cQ (dD (vU hcbs.enter (q0 rfl) (λ_=>rfl)) (λw hw=>(hcbr w (Mem.uw (X:=[_,_,_,_,_,_,_]) (S:=CI (R k).2 x) (Mem.uw (X:=[_,_]) (S:=tE f a s t2) hw))).mono λ_ _ ⟨x',h1,h2⟩=>⟨x',h1,Mem.uw (X:=tE f a s t2) (S:=[_,_]) (Mem.uw (X:=CI _ x') (S:=[_,_,_,_,_,_,_]) h2)⟩) rfl (λ_=>(hmk2 _ _).trans (hmk2 _ _).symm) λx'=>?_);refine GX ?_;exact aH (k+1,t2,x') lg ⟨rfl,trivial⟩ (λw hw=>by show Mem w0 (gY _ _ _::(tE f a s t2++(_::(CI (R (k+1)).2 x'++L)))) w;rw [hst.2];exact hw.tail) ((hmk2 _ _).trans (hmk2 _ _).symm) ⟨by show k+1<=_;omega,by show t2.plain=(R (k+1)).1;rw [hst.1],by show J (k+1) (R (k+1)).2;rw [hst.2];exact hcbs.Ep k _ _ _ _ hJ⟩ (by show ys.length -(k+1)<ys.length -k;omega)
     cases hcb
   have hc': ¬ez f.cI t.plain e=0:=by simpa using hc
   have hst:(R (k+1)).1=t.plain/\(R (k+1)).2=cb (R k).2 t.plain e (ez f.cI t.plain e):=by
    rw [hRk];unfold eE ie;rw [an hb10];simp only;rw [aB h0',an hc'];exact ⟨rfl,rfl⟩
   refine GX ?_;cases o with
   |none=>
    refine GX ?_;refine fI (zg nL (q0 rfl)) ?_;refine GD ?_ ?_<;>intro hcb
    ·cases hcb
    refine GX ?_;have hz:=hcbs (R k).2 t.plain e (ez f.cI t.plain e);exact aH (k+1,t,x) lg ⟨rfl,trivial⟩ (λw hw=>by show Mem w0 (gY _ _ _::(tE f a s t++(_::(CI (R (k+1)).2 x++L)))) w;rw [hst.2,hz];exact hw.tail) ((hmk2 _ _).trans (hmk2 _ _).symm) ⟨by show k+1<=_;omega,by show t.plain=(R (k+1)).1;rw [hst.1],by show J (k+1) (R (k+1)).2;rw [hst.2,hz];exact hJn k _ hJ⟩ (by show ys.length -(k+1)<ys.length -k;omega)
   |some gl=>
    have hcbr:=hcbs.run (w0:=w0) (L:=[box b11 131 e.cells,gY (some ⟨b,0,none⟩) Y.2 ys,box b3 24 (f.cells a)]++L) (s:=s) (t:=t) (z:=(R k).2) (x:=x) (k:=k) e (ez f.cI t.plain e) hmk hsn (by rw [<-hsn];exact hlT) (by omega) hf (by omega) hJ;refine GX ?_;refine fI (Cp nL (q0 rfl)) ?_;refine GD ?_ ?_<;>intro hcb
    ·refine cQ (dD (vU hcbs.enter (q0 rfl) (λ_=>rfl)) (λw hw=>(hcbr w (Mem.uw (X:=[_,_,_,_,_,_,_]) (S:=CI (R k).2 x) (Mem.uw (X:=[_,_]) (S:=tE f a s t) hw))).mono λ_ _ ⟨x',h1,h2⟩=>⟨x',h1,Mem.uw (X:=tE f a s t) (S:=[_,_]) (Mem.uw (X:=CI _ x') (S:=[_,_,_,_,_,_,_]) h2)⟩) rfl (λ_=>(hmk2 _ _).trans (hmk2 _ _).symm) λx'=>?_);refine GX ?_;exact aH (k+1,t,x') lg ⟨rfl,trivial⟩ (λw hw=>by show Mem w0 (gY _ _ _::(tE f a s t++(_::(CI (R (k+1)).2 x'++L)))) w;rw [hst.2];exact hw.tail) ((hmk2 _ _).trans (hmk2 _ _).symm) ⟨by show k+1<=_;omega,by show t.plain=(R (k+1)).1;rw [hst.1],by show J (k+1) (R (k+1)).2;rw [hst.2];exact hcbs.Ep k _ _ _ _ hJ⟩ (by show ys.length -(k+1)<ys.length -k;omega)
    cases hcb
  have h0': ¬jo f e=0:=by simpa using h0
  have hst:(R (k+1)).1=t.plain/\(R (k+1)).2=cb (R k).2 t.plain e (jo f e):=by
   rw [hRk];unfold eE ie;rw [an hb10];simp only;rw [an h0',an h0'];exact ⟨rfl,rfl⟩
  refine GD ?_ ?_<;>intro hc
  ·exact absurd (by simpa using hc) h0'
  refine GX ?_;cases o with
  |none=>
   refine GX ?_;refine fI (zg nL (q0 rfl)) ?_;refine GD ?_ ?_<;>intro hcb
   ·cases hcb
   refine GX ?_;have hz:=hcbs (R k).2 t.plain e (jo f e);exact aH (k+1,t,x) lg ⟨rfl,trivial⟩ (λw hw=>by show Mem w0 (gY _ _ _::(tE f a s t++(_::(CI (R (k+1)).2 x++L)))) w;rw [hst.2,hz];exact hw.tail) ((hmk2 _ _).trans (hmk2 _ _).symm) ⟨by show k+1<=_;omega,by show t.plain=(R (k+1)).1;rw [hst.1],by show J (k+1) (R (k+1)).2;rw [hst.2,hz];exact hJn k _ hJ⟩ (by show ys.length -(k+1)<ys.length -k;omega)
  |some gl=>
   have hcbr:=hcbs.run (w0:=w0) (L:=[box b11 131 e.cells,gY (some ⟨b,0,none⟩) Y.2 ys,box b3 24 (f.cells a)]++L) (s:=s) (t:=t) (z:=(R k).2) (x:=x) (k:=k) e (jo f e) hmk hsn (by rw [<-hsn];exact hlT) (by omega) hf (by omega) hJ;refine GX ?_;refine fI (Cp nL (q0 rfl)) ?_;refine GD ?_ ?_<;>intro hcb
   ·refine cQ (dD (vU hcbs.enter (q0 rfl) (λ_=>rfl)) (λw hw=>(hcbr w (Mem.uw (X:=[_,_,_,_,_,_,_]) (S:=CI (R k).2 x) (Mem.uw (X:=[_,_]) (S:=tE f a s t) hw))).mono λ_ _ ⟨x',h1,h2⟩=>⟨x',h1,Mem.uw (X:=tE f a s t) (S:=[_,_]) (Mem.uw (X:=CI _ x') (S:=[_,_,_,_,_,_,_]) h2)⟩) rfl (λ_=>(hmk2 _ _).trans (hmk2 _ _).symm) λx'=>?_);refine GX ?_;exact aH (k+1,t,x') lg ⟨rfl,trivial⟩ (λw hw=>by show Mem w0 (gY _ _ _::(tE f a s t++(_::(CI (R (k+1)).2 x'++L)))) w;rw [hst.2];exact hw.tail) ((hmk2 _ _).trans (hmk2 _ _).symm) ⟨by show k+1<=_;omega,by show t.plain=(R (k+1)).1;rw [hst.1],by show J (k+1) (R (k+1)).2;rw [hst.2];exact hcbs.Ep k _ _ _ _ hJ⟩ (by show ys.length -(k+1)<ys.length -k;omega)
   cases hcb
 have hend:k=ys.length:=by simp at hlt;omega
 subst hend;have hfin: ∀w',Mem w0 (tE f a s t++(box b3 24 (f.cells a)::(CI (R ys.length).2 x++L))) w'->Mem w0 (tE f a s t++(CI (gn f cb ys (dy nb,z0)).2 x++L)) w':=λw' h=>by rw [<-hRn];exact Mem.xU (X:=[_]) h
 refine GX ?_;exact jr (v:= .pointer _) (x:= .int _ _) rfl rfl rfl (hmk2 _ _) λw' hw=>⟨⟨(s,t,x),hsn,by rw [htp,hRn]⟩,rfl,hfin _ hw.tail⟩
structure Rj where
 device:Int
 seq:Int
 err:Int
deriving DecidableEq,Inhabited
def nT (z:List Ev) (_:PS) (e:Ev) (er:Int):List Ev:=if er=0 then z++[e] else z
def Qf (z:List Rj) (_:PS) (e:Ev) (er:Int):List Rj:=if er≠0 then z++[⟨e.device,e.seq,er⟩] else z
def BS (z:Unit) (_:PS) (_:Ev) (_:Int):Unit:=z
def i6 (f:Fl):Nat:=f.cv.toNat
def kR (f:Fl) (xs:List Ev):List Ev:=if fy f=0 then (gn f nT (setOf xs) (dy (i6 f),[])).2 else []
theorem wy{f}(h:fy f=0):f.cv=i6 f:=by
 have:=(kq h).1
 unfold i6;omega
abbrev zz (xs:List Ev):Prop:= ∀e∈xs,-9223372036854775808<=e.place/\e.place<=9223372036854775807
def NQ (b:Nat) (z:List Ev) (x:Option Addr×Nat):List E.Item:=[box b 43 [.slice x.1 z.length x.2],gY x.1 x.2 z]
theorem R3 (f:Fl) (a:FA) (n b:Nat):Sf f a n 187 [.pointer (some ⟨b,0,none⟩)] nT (NQ b) (λk z=>z.length<=k) where
 enter:=Tryz.call187
 Ep:=λk z s e er h=>by
  unfold nT;split
  ·simp;omega
  omega
 run:=λ{w0 L s t z x k} e er hmk _ _ _ _ hk hJ w hw=>by
  unfold NQ at hw|-;refine gI hw hmk Tryz.func187 rfl Tryz.ntmps187 rfl ?_;iterate 2 refine G ?_
  refine cd (v:= .agg _) rfl rfl λb5=>?_;iterate 8 refine G ?_
  refine bD rfl ?_ ?_<;>intro h
  ·have h0:er=0:=by simpa using h
   iterate 3 refine G ?_
   refine gN (k:=9) (i:=Tryz.t131) 2 (e) cY (by kernel_rfl) rfl rfl rfl rfl cU dt rfl rfl rfl rfl rfl rfl ⟨by omega,by decide⟩ rfl rfl λB A1 c1=>?_;refine dN (v:= .slice _ _ _) rfl rfl iN ?_;refine G ?_;exact kr rfl hmk λw' hw=>⟨(A1,c1),rfl,by unfold nT;rw [aB h0];exact hw.tail⟩
  have h0: ¬er=0:=by simpa using h
  refine G ?_;exact kr rfl hmk λw' hw=>⟨x,rfl,by unfold nT;rw [an h0];exact hw.tail⟩
theorem Ik(f a A n c xs w)(hf:mE w f a)(hx:rO w A n xs)(hn:n<=10000)(hpl:zz xs):
  Calls Tryz.prog 111 #[.agg (f.cells a).toArray, .slice A n c] w λr w'=> ∃x:Option Addr×Nat,r= .returned (.tuple #[.slice x.1 (kR f xs).length x.2, .int .i64 (fy f)])/\Mem w [gY x.1 x.2 (kR f xs)] w':=by
 by_cases hok:fy f=0
 case neg=>
  have hacc:kR f xs=[]:=by unfold kR;rw [an hok]
  rw [hacc];refine HF Tryz.func111 Tryz.ntmps111 ?_;refine cd (v:= .agg _) rfl rfl λb2=>GX ?_;refine bS JK rfl λb6=>GX ?_;refine xV AA rfl rfl<|jx (en SC (nS (q0 rfl) (q0 rfl) (q0 rfl))) (λ_ w hm=>Mf f a A n c _ w (hf.mem hm) hok)<|GX ?_;exact jr (v:= .slice _ _ _) (x:= .int _ _) rfl rfl rfl rfl λw' hw=>⟨(none,0),rfl,(ik.2 hw.1).fY _ _ _ rfl⟩
 case pos=>
  have hacc:kR f xs=(gn f nT (setOf xs) (dy (i6 f),[])).2:=by unfold kR;rw [aB hok]
  rw [hacc,hok];refine HF Tryz.func111 Tryz.ntmps111 ?_;refine cd (v:= .agg _) rfl rfl λb2=>GX ?_;refine bS JK rfl λb6=>GX ?_;refine xV AA rfl rfl<|cQ (dD (en SC (nS (q0 rfl) (q0 rfl) (q0 rfl))) (λw hw=>Qd f a A n c (i6 f) xs (some (187,[.pointer (some ⟨b6,0,none⟩)])) nT (NQ b6) (λk z=>z.length<=k) (R3 f a (i6 f) b6) (λ_ _ h=>Nat.le_succ_of_le h) (z0:=[]) (x0:=(none,0)) (hw.fY _ _ _ rfl).Vm rfl (λ_ _=>rfl) (bA _) hf hx hn hok (wy hok) hpl) rfl (λ_=>rfl) λy=>?_);refine GX ?_;exact jr (v:= .slice _ _ _) (x:= .int _ _) rfl rfl rfl rfl λw' hw=>⟨y.1.2.2,rfl,hw.pick [5] (by decide)⟩
def LO (t:Int) (xs:List Ev):List Ev:=(setOf xs).filter λx=>!decide (t<x.at_)
theorem countP_set{α:Type}(p): ∀{l:List α} {k:Nat} {x:α} (y:α),l[k]?=some x->(l.set k y).countP p+(if p x=true then 1 else 0)=l.countP p+(if p y=true then 1 else 0)
 |[],_,_,_,h=>by simp at h
 |a::l,0,x,y,h=>by
  grind
 |a::l,k+1,x,y,h=>by
  have ih:=countP_set p (l:=l) (k:=k) (x:=x) y (by simpa using h)
  simp only [List.set_cons_succ,List.countP_cons]
  grind
structure vW (tr:List Int) (sp:List Sp):Prop where
 TN: ∀(i j:Nat) x y,sp[i]?=some x->sp[j]?=some y->i≠j->x.cF=1->y.cF=1->x.place≠y.place
 P': ∀x∈sp,x.cF=4->0<=x.place/\x.place<tr.length/\(countP sp 4 x.place:Int)<=tr.getD x.place.toNat 0
 bP: ∀x∈sp,x.bP=true->x.cF=3
theorem vW.begin (tr:List Int) (n:Nat):vW tr (List.replicate n ⟨5,0,0,false⟩):=by
 have h: ∀x∈List.replicate n (⟨5,0,0,false⟩:Sp),x=⟨5,0,0,false⟩:=λx hx=>(List.mem_replicate.1 hx).2
 refine ⟨λi j x y hx hy _ h1 _=>?_,λx hx h4=>?_,λx hx hp=>?_⟩
 ·grind
 ·rw [h x hx] at h4;simp at h4
 rw [h x hx] at hp;simp at hp
section
variable {tr:List Int} {sp:List Sp}
theorem xn{k x y}(hx:sp[k]?=some x)(j):(sp.set k y)[j]?=if k=j then some y else sp[j]?:=by
 grind
theorem vW.set(h:vW tr sp){k x}(hx:sp[k]?=some x)(y:Sp)(h1:y.cF=1-> ∀(j:Nat) z,sp[j]?=some z->j≠k->z.cF=1->z.place≠y.place)(h4:y.cF=4->0<=y.place/\y.place<tr.length/\(countP sp 4 y.place:Int)+(if CJ 4 y.place x=true then 0 else 1)<=tr.getD y.place.toNat 0)(hp:y.bP=true->y.cF=3):vW tr (sp.set k y):=by
 have hc: ∀p:Int,(countP (sp.set k y) 4 p:Int)+(if CJ 4 p x=true then 1 else 0)=(countP sp 4 p:Int)+(if CJ 4 p y=true then 1 else 0):=λp=>by
  have:=countP_set (CJ 4 p) y hx;unfold countP;split at this<;>split at this<;>rename_i a1 a2<;>simp [a1,a2]<;>omega
 refine ⟨λi j u v hu hv hij u1 v1=>?_,λu hu u4=>?_,λu hu up=>?_⟩
 ·rw [xn hx] at hu hv;split at hu
  ·rename_i e1;cases hu;rw [an (by omega)] at hv;exact λe=>h1 u1 j v hv (by omega) v1 e.symm
  split at hv
  ·rename_i e1 e2;cases hv;exact h1 v1 i u hu (by omega) u1
  exact h.TN i j u v hu hv hij u1 v1
 ·obtain ⟨i,hi⟩:=cG.1 hu;rw [xn hx] at hi;split at hi
  ·cases hi;obtain ⟨a1,a2,a3⟩:=h4 u4;refine ⟨a1,a2,?_⟩;have:=hc y.place;have hy:CJ 4 y.place y=true:=by simp [CJ,u4]
   rw [aB hy] at this;split at this<;>rename_i hh<;>first|(rw [aB hh] at a3;omega)|(rw [an hh] at a3;omega)
  have hum:=aq hi;obtain ⟨a1,a2,a3⟩:=h.P' u hum u4;refine ⟨a1,a2,?_⟩;have:=hc u.place;by_cases hy:CJ 4 u.place y=true
  ·have hy4:y.cF=4/\y.place=u.place:=by simpa [CJ] using hy
   obtain ⟨b1,b2,b3⟩:=h4 hy4.1;rw [hy4.2] at b3;rw [aB hy] at this;rw [hy4.2] at b1 b2;split at this<;>rename_i hh<;>first|(rw [aB hh] at b3;omega)|(rw [an hh] at b3;omega)
  rw [an hy] at this;split at this<;>omega
 obtain ⟨i,hi⟩:=cG.1 hu;rw [xn hx] at hi;split at hi
 ·cases hi;exact hp up
 exact h.bP u (aq hi) up
end
theorem vW.step{n}{f:Fl}{s e}(hI:jF n s)(h:vW f.cI s.aG)(hn:f.cv=n)(hev:jo f e=0)(hc:ez f.cI s e=0):vW f.cI (mF s e).aG:=by
 obtain ⟨_,hb,hp7,_,_⟩:=pX hev;have hk:e.bq.toNat<n:=by omega
 obtain ⟨x,hx⟩: ∃x,s.aG[e.bq.toNat]?=some x:=⟨_,ah (by rw [hI.len];exact hk)⟩;have hg:s.aG.getD e.bq.toNat default=x:=by rw [ar,hx];rfl
 unfold ez at hc;unfold mF;simp only at hc|-;rw [hg] at hc;have hle: ∀to:Sp,(gA s e.bq.toNat to).aG=s.aG.set e.bq.toNat to:=λ_=>rfl;by_cases h1:e.kind=1
 ·rw [aB h1] at hc|-;rw [hle];refine h.set hx _ (λ_ j z hz hjk z1 hpl=>?_) (λh4=>by simp at h4) (λhp=>by simp at hp)
  grind [jo,ez,mF,yG,countP,CJ]
 rw [an h1] at hc|-;by_cases h2:e.kind=2
 ·rw [aB h2,hle];exact h.set hx _ (λh1=>by simp at h1) (λh4=>by simp at h4) (λhp=>by simp at hp)
 rw [an h2] at hc|-;by_cases h3:e.kind=3
 ·rw [aB h3];exact h.set hx _ (λh1=>by simp at h1) (λh4=>by simp at h4) (λhp=>by simp at hp)
 rw [an h3] at hc|-;by_cases h4:e.kind=4
 ·rw [aB h4] at hc|-;cases hl:lY s.open_ e.bn with
  |none=>exact h
  |some t=>
   rw [hl] at hc;simp only at hc|-;rw [hg];split at hc
   ·cases hc
   rename_i hpk;have hpk:dT x=true:=by simpa using hpk
   obtain ⟨_,y,hy,y3,_⟩:=hI.bq _ (o9 hl);simp only at hy;have hjk:t.bq.toNat≠e.bq.toNat:=λejk=>by rw [ejk,hx] at hy;cases hy;exact nD hpk y3
   have hxp:x.bP=false:=by
    cases hxp:x.bP with
    |false=>rfl
    |true=>exact absurd (h.bP x (aq hx) hxp) (nD hpk)
   have hx4:x.cF≠4:=by unfold dT at hpk;simp at hpk;omega
   have ha:=h.set hx (⟨3,0,e.bn,false⟩:Sp) (λh1=>by simp at h1) (λh4=>by simp at h4) (λhp=>by simp at hp);have hy2:(s.aG.set e.bq.toNat ⟨3,0,e.bn,false⟩)[t.bq.toNat]?=some y:=by rw [xn hx,an (by omega)];exact hy
   have hb2:=ha.set hy2 x (λx1 j z hz hjt z1=>?_) (λh4=>absurd h4 hx4) (λhp=>by rw [hxp] at hp;cases hp)
   ·rw [List.set_comm _ _ (by omega)];exact hb2
   rw [xn hx] at hz;split at hz
   ·cases hz;simp at z1
   rename_i hne;exact h.TN j _ z x hz hx (by omega) z1 x1
 rw [an h4] at hc|-;by_cases h5:e.kind=5\/e.kind=6
 ·rw [aB h5] at hc|-;simp only;rw [hg];split at hc
  ·cases hc
  rename_i hw;have hw':x.cF=3:=kM hw;exact h.set hx _ (λh1=>by simp only at h1;omega) (λh4=>by simp only at h4;omega) (λ_=>hw')
 rw [an h5] at hc|-;by_cases h7:e.kind=7
 ·rw [aB h7] at hc|-;rw [hle];obtain ⟨p0,p1⟩:=hp7 h7;split at hc
  ·cases hc
  rename_i hw;have hlt:=yG (by decide) hc;refine h.set hx _ (λh1=>by simp at h1) (λ_=>⟨p0,p1,?_⟩) (λhp=>by simp at hp);have hx4:CJ 4 e.place x=false:=by
   simp at hw;simp [CJ];omega
  simp only;rw [an (by rw [hx4];decide)];have hlt:=dB hlt;omega
 rw [an h7] at hc|-;by_cases h8:e.kind=8
 ·rw [aB h8,hle];exact h.set hx _ (λh1=>by simp at h1) (λh4=>by simp at h4) (λhp=>by simp at hp)
 rw [an h8] at hc|-;by_cases h9:e.kind=9
 ·rw [aB h9,hle];exact h.set hx _ (λh1=>by simp at h1) (λh4=>by simp at h4) (λhp=>by simp at hp)
 rw [an h9];exact h
theorem Hn {n:Nat} {f:Fl} {s:PS} {e:Ev} (hn:f.cv=n) (hI:jF n s) (h:vW f.cI s.aG):vW f.cI (eE f s e).1.aG:=by
 unfold eE
 split
 ·exact h
 simp only
 by_cases h1:jo f e=0
 ·rw [aB h1]
  by_cases h0:ez f.cI s e=0
  ·rw [aB h0];exact h.step hI hn h1 h0
  rw [an h0];exact h
 rw [an h1,an h1];exact h
theorem C8 {σ:Type} {n:Nat} {f:Fl} {cb:σ->PS->Ev->Int->σ} (hn:f.cv=n): ∀(l:List Ev) (x:PS×σ),jF n x.1->vW f.cI x.1.aG->vW f.cI (gn f cb l x).1.aG
 |[],_,_,h=>h
 |e::l,x,hI,h=>by
  show vW _ (gn f cb l _).1.aG
  refine C8 hn l _ ?_ ?_
  ·show jF n (ie cb x.2 e (eE f x.1 e)).1
   rw [sK];exact C3 hn hI
  show vW _ (ie cb x.2 e (eE f x.1 e)).1.aG
  rw [sK];exact Hn hn hI h
theorem jF.alone{n s}(h:jF n s){i j:Nat}{x y}(hx:s.aG[i]?=some x)(hy:s.aG[j]?=some y)(x3:x.cF=3)(y3:y.cF=3)(hr:x.bn=y.bn):i=j:=by
 obtain ⟨t,ht,hb⟩:=h.spot i x hx x3
 obtain ⟨u,hu,hc⟩:=h.spot j y hy y3
 have:=qG h.keys ht hu hr
 grind
end Go.Proofs.Cus
namespace Go.Proofs.Cus
structure RT where
 id:Int
 rider:Int
 bq:Int
 open_:Bool
deriving DecidableEq,Inhabited
structure RS where
 aG:List Sp
 gx:List RT
deriving DecidableEq,Inhabited
def rG (l:List RT) (id:Int):Option Nat:=l.findIdx? λt=>t.id==id
def Mk (l:List RT) (rider:Int):Bool:=l.any λt=>t.open_&&decide (t.rider=rider)
theorem Ck{l id k}(h:rG l id=some k): ∃t,l[k]?=some t/\t.id=id:=by
 obtain ⟨hk,hp,_⟩:=mo.1 h
 grind
theorem H8{l id}:rG l id=none↔ ∀t∈l,t.id≠id:=by
 grind [rG]
theorem rF{l}(hn:(l.map (·.id)).Nodup){k t}(h:l[k]?=some t):rG l t.id=some k:=by
 cases hf:rG l t.id with
 |none=>exact absurd rfl (H8.1 hf t (aq h))
 |some j=>
  obtain ⟨u,hu,hid⟩:=Ck hf
  obtain ⟨hj,hju⟩:=ai.1 hu
  obtain ⟨hk,hkt⟩:=ai.1 h
  have:=bJ.1 hn
  grind
def wZ (l:List RT) (i:Nat):List RT:=match l[i]? with|some t=>l.set i {t with open_:=false}|none=>l
def HG (r:RS) (k:Nat) (x:Sp):RS:=
 {aG:=r.aG.set k x,gx:=if (r.aG.getD k default).cF=3 then wZ r.gx ((rG r.gx (r.aG.getD k default).bn).getD 0) else r.gx}
def vb (r:RS) (e:Ev):RS:=
 let k:=e.bq.toNat
 if e.kind=1 then HG r k ⟨1,e.place,0,false⟩
 else if e.kind=2 then HG r k ⟨2,e.place,0,false⟩
 else if e.kind=7 then HG r k ⟨4,e.place,0,false⟩
 else if e.kind=8 then HG r k ⟨5,0,0,false⟩
 else if e.kind=9 then HG r k ⟨6,0,0,false⟩
 else if e.kind=3 then {aG:=r.aG.set k ⟨3,0,e.bn,false⟩,gx:=r.gx++[⟨e.bn,e.rider,e.bq,true⟩]}
 else if e.kind=4 then
  let i:=(rG r.gx e.bn).getD 0
  let t:=r.gx.getD i default
  {aG:=(r.aG.set t.bq.toNat (r.aG.getD k default)).set k ⟨3,0,e.bn,false⟩,gx:=r.gx.set i {t with bq:=e.bq}}
 else if e.kind=5 then {r with aG:=r.aG.set k {(r.aG.getD k default) with bP:=true}}
 else if e.kind=6 then {r with aG:=r.aG.set k {(r.aG.getD k default) with bP:=false}}
 else r
def Az (f:Fl) (s:PS) (e:Ev):Int:=if jo f e≠0 then jo f e else if e.kind=10 then 0 else ez f.cI s e
structure Rel (n:Nat) (s:PS) (r:RS):Prop where
 inv:jF n s
 aG:r.aG=s.aG
 ids:(r.gx.map (·.id)).Nodup
 used: ∀id,oh s.used id=true↔ ∃t∈r.gx,t.id=id
 Rk: ∀t∈r.gx,t.open_=true-> ∃pa,(t.id,(⟨t.rider,t.bq,pa⟩:PT))∈s.open_
 Qk: ∀p∈s.open_,(⟨p.1,p.2.rider,p.2.bq,true⟩:RT)∈r.gx
section
variable {n:Nat} {s:PS} {r:RS}
theorem J0(h:(r.gx.map (·.id)).Nodup){t u}(ht:t∈r.gx)(hu:u∈r.gx)(he:t.id=u.id):t=u:=by
 obtain ⟨i,hi⟩:=cG.1 ht
 obtain ⟨j,hj⟩:=cG.1 hu
 have h1:=rF h hi
 have h2:=rF h hj
 grind
theorem Rel.du(h:Rel n s r)(rider):po s.open_ rider=Mk r.gx rider:=by
 unfold po Mk
 rw [gQ,l6,l6]
 constructor
 ·rintro ⟨p,hp,h1⟩
  exact ⟨_,h.Qk p hp,by simpa using h1⟩
 rintro ⟨t,ht,h1⟩
 simp at h1
 obtain ⟨pa,hpa⟩:=h.Rk t ht h1.1
 exact ⟨_,hpa,by simpa using h1.2⟩
theorem Rel.look(h:Rel n s r)(id):(lY s.open_ id=none/\(rG r.gx id=none\/ ∃k t,rG r.gx id=some k/\r.gx[k]?=some t/\t.open_=false))\/
  ∃k p,lY s.open_ id=some p/\(id,p)∈s.open_/\rG r.gx id=some k/\r.gx[k]?=some ⟨id,p.rider,p.bq,true⟩/\0<=p.bq/\p.bq<n/\(s.aG.getD p.bq.toNat default).bP=p.bP:=by
 cases hl:lY s.open_ id with
 |none=>
  left;refine ⟨rfl,?_⟩;cases hf:rG r.gx id with
  |none=>exact .inl rfl
  |some k=>
   obtain ⟨t,ht,hid⟩:=Ck hf;refine .inr ⟨k,t,rfl,ht,?_⟩;cases ho:t.open_ with
   |false=>rfl
   |true=>
    obtain ⟨pa,hpa⟩:=h.Rk t (aq ht) ho;rw [hid] at hpa;rw [uS h.inv.keys hpa] at hl;cases hl
 |some p=>
  right;have hp:=o9 hl;obtain ⟨k,hk⟩:=cG.1 (h.Qk _ hp);obtain ⟨hb,x,hx,_,_,hpa⟩:=h.inv.bq _ hp;simp only at hb hx hpa;have hlt:=(ai.1 hx).1;rw [h.inv.len] at hlt;refine ⟨k,p,rfl,hp,rF h.ids hk,hk,hb,by omega,?_⟩
  grind
theorem Rel.bn(h:Rel n s r){k:Nat}{x}(hx:s.aG[k]?=some x)(h3:x.cF=3): ∃i p,rG r.gx x.bn=some i/\(x.bn,p)∈s.open_/\r.gx[i]?=some ⟨x.bn,p.rider,p.bq,true⟩/\p.bq=(k:Int):=by
 obtain ⟨t,ht,hb⟩:=h.inv.spot k x hx h3
 obtain ⟨i,hi⟩:=cG.1 (h.Qk _ ht)
 exact ⟨i,t,rF h.ids hi,ht,hi,hb⟩
theorem BY{l}(hn:(l.map (·.id)).Nodup){i t u}(hi:l[i]?=some t):u∈wZ l i↔(u={t with open_:=false})\/(u∈l/\u.id≠t.id):=by
 unfold wZ;rw [hi];obtain ⟨hil,_⟩:=ai.1 hi;constructor
 ·intro hu;obtain ⟨j,hj⟩:=cG.1 hu;rw [cD] at hj;split at hj
  ·cases hj;exact .inl rfl
  rename_i hne;refine .inr ⟨aq hj,λe=>hne ?_⟩;have h1:=rF hn hi;have h2:=rF hn hj;rw [e,h1] at h2;exact mZ h2
 rintro (rfl|⟨hu,hne⟩)
 ·exact aq (i:=i) (by rw [cD];simp [hil])
 obtain ⟨j,hj⟩:=cG.1 hu;refine aq (i:=j) ?_;rw [cD,an (λe=>?_)]
 ·exact hj
 subst e;rw [hi] at hj;exact hne (by rw [mZ hj])
theorem wY(l i):(wZ l i).map (·.id)=l.map (·.id):=by
 unfold wZ;cases h:l[i]? with
 |none=>rfl
 |some t=>
  simp only;refine fh λj=>?_
  grind
theorem Rel.put(h:Rel n s r)(k)(hk:k<n)(to)(hto:to.cF≠3):Rel n (gA s k to) (HG r k to):=by
 have hinv:=h.inv.leave k hk to hto;obtain ⟨x,hx⟩: ∃x,s.aG[k]?=some x:=⟨_,ah (by rw [h.inv.len];exact hk)⟩;have hg:s.aG.getD k default=x:=by rw [ar,hx];rfl
 unfold HG;rw [h.aG,hg];by_cases h3:x.cF=3
 ·rw [aB h3];obtain ⟨i,p,hf,hp,hi,hb⟩:=h.bn hx h3;rw [hf];simp only [ix];have hop:(gA s k to).open_=s.open_.eraseP (λq=>q.1==x.bn):=by unfold gA;simp only [hg];rw [aB h3]
  refine ⟨hinv,rfl,by simp only [wY];exact h.ids,λid=>?_,λt ht ho=>?_,λq hq=>?_⟩
  ·show oh s.used id=true↔_;rw [h.used];constructor
   ·rintro ⟨t,ht,e⟩;have:id∈(wZ r.gx i).map (·.id):=by rw [wY,<-e];exact cW.2 ⟨t,ht,rfl⟩
    obtain ⟨u,hu,e2⟩:=cW.1 this;exact ⟨u,hu,e2⟩
   rintro ⟨t,ht,e⟩;have:id∈(wZ r.gx i).map (·.id):=cW.2 ⟨t,ht,e⟩;rw [wY] at this;obtain ⟨u,hu,e2⟩:=cW.1 this;exact ⟨u,hu,e2⟩
  ·rcases (BY h.ids hi).1 ht with rfl|⟨ht2,hne⟩
   ·simp at ho
   obtain ⟨pa,hpa⟩:=h.Rk t ht2 ho;exact ⟨pa,by rw [hop];exact (ov h.inv.keys).2 ⟨hpa,hne⟩⟩
  rw [hop] at hq;obtain ⟨hq1,hq2⟩:=(ov h.inv.keys).1 hq;exact (BY h.ids hi).2 (.inr ⟨h.Qk q hq1,hq2⟩)
 rw [an h3];have hop:(gA s k to).open_=s.open_:=by unfold gA;simp only [hg];rw [an h3]
 refine ⟨hinv,rfl,h.ids,h.used,λt ht ho=>?_,λq hq=>?_⟩
 ·rw [hop];exact h.Rk t ht ho
 rw [hop] at hq;exact h.Qk q hq
theorem Rel.apply (h:Rel n s r) {f:Fl} {e:Ev} (hb:0<=e.bq/\e.bq<n) (hc:ez f.cI s e=0):Rel n (mF s e) (vb r e):=by
 have hinv:=h.inv.step hb hc;have hk:e.bq.toNat<n:=by omega
 obtain ⟨x,hx⟩: ∃x,s.aG[e.bq.toNat]?=some x:=⟨_,ah (by rw [h.inv.len];exact hk)⟩;have hg:s.aG.getD e.bq.toNat default=x:=by rw [ar,hx];rfl
 by_cases h1:e.kind=1
 ·unfold mF vb;simp only;rw [aB h1,aB h1];exact h.put _ hk _ (by simp)
 by_cases h2:e.kind=2
 ·unfold mF vb;simp only;rw [an h1,an h1,aB h2,aB h2];exact h.put _ hk _ (by simp)
 by_cases h7:e.kind=7
 ·unfold mF vb;simp only;rw [an h1,an h2,an (by omega),an (by omega),an (by omega),aB h7,an h1,an h2,aB h7];exact h.put _ hk _ (by simp)
 by_cases h8:e.kind=8
 ·unfold mF vb;simp only;rw [an h1,an h2,an (by omega),an (by omega),an (by omega),an h7,aB h8,an h1,an h2,an h7,aB h8];exact h.put _ hk _ (by simp)
 by_cases h9:e.kind=9
 ·unfold mF vb;simp only;rw [an h1,an h2,an (by omega),an (by omega),an (by omega),an h7,an h8,aB h9,an h1,an h2,an h7,an h8,aB h9];exact h.put _ hk _ (by simp)
 have hA:vb r e=if e.kind=3 then {aG:=r.aG.set e.bq.toNat ⟨3,0,e.bn,false⟩,gx:=r.gx++[⟨e.bn,e.rider,e.bq,true⟩]}
   else if e.kind=4 then {aG:=(r.aG.set (r.gx.getD ((rG r.gx e.bn).getD 0) default).bq.toNat (r.aG.getD e.bq.toNat default)).set e.bq.toNat ⟨3,0,e.bn,false⟩,gx:=r.gx.set ((rG r.gx e.bn).getD 0) {(r.gx.getD ((rG r.gx e.bn).getD 0) default) with bq:=e.bq}}
   else if e.kind=5 then {r with aG:=r.aG.set e.bq.toNat {(r.aG.getD e.bq.toNat default) with bP:=true}}
   else if e.kind=6 then {r with aG:=r.aG.set e.bq.toNat {(r.aG.getD e.bq.toNat default) with bP:=false}}
   else r:=by
  unfold vb;simp only;rw [an h1,an h2,an h7,an h8,an h9]
 rw [hA];clear hA;unfold mF at*;simp only at hinv|-;rw [an h1,an h2] at hinv|-;unfold ez at hc;simp only at hc;rw [an h1,an h2] at hc;by_cases h3:e.kind=3
 ·rw [aB h3] at hinv hc|-;rw [aB h3];have hu:oh s.used e.bn=false:=by
   grind
  have hno: ∀t∈r.gx,t.id≠e.bn:=λt ht he=>by
   have:=(h.used e.bn).2 ⟨t,ht,he⟩;rw [hu] at this;cases this
  refine ⟨hinv,by simp only [h.aG],?_,λid=>?_,λt ht ho=>?_,λp hp=>?_⟩
  ·simp only [eY,kh,E4];refine um.2 ⟨h.ids,by simp,λa ha b hb=>?_⟩;simp only [cm] at hb;obtain ⟨t,ht,rfl⟩:=cW.1 ha;rw [hb];exact hno t ht
  ·rw [mI,wI];have:=h.used id;rw [mI] at this;rw [this];constructor
   ·rintro (⟨t,ht,e1⟩|e1)
    ·exact ⟨t,bO.2 (.inl ht),e1⟩
    exact ⟨_,bO.2 (.inr (cm.2 rfl)),e1.symm⟩
   rintro ⟨t,ht,e1⟩;rcases bO.1 ht with ht|ht
   ·exact .inl ⟨t,ht,e1⟩
   rw [cm.1 ht] at e1;exact .inr e1.symm
  ·rcases bO.1 ht with ht|ht
   ·obtain ⟨pa,hpa⟩:=h.Rk t ht ho;exact ⟨pa,bO.2 (.inl hpa)⟩
   rw [cm.1 ht];exact ⟨false,bO.2 (.inr (cm.2 rfl))⟩
  rcases bO.1 hp with hp|hp
  ·exact bO.2 (.inl (h.Qk p hp))
  rw [cm.1 hp];exact bO.2 (.inr (cm.2 rfl))
 rw [an h3] at hinv hc|-;rw [an h3];by_cases h4:e.kind=4
 ·rw [aB h4] at hinv hc|-;rw [aB h4];rcases h.look e.bn with ⟨hl,_⟩|⟨k,p,hl,hp,hf,htk,hb0,hb1,hpa⟩
  ·rw [hl] at hc;cases hc
  rw [hl] at hinv|-;simp only at hinv|-;rw [hf];have hgt:r.gx.getD k default=⟨e.bn,p.rider,p.bq,true⟩:=by rw [ar,htk];rfl
  simp only [ix,hgt];have hkl:=(ai.1 htk).1;have hmap:(r.gx.set k ⟨e.bn,p.rider,e.bq,true⟩).map (·.id)=r.gx.map (·.id):=by
   refine fh λj=>?_;simp only [cV,cD];split
   ·rename_i e1;subst e1;rw [htk];simp [hkl]
   rfl
  have hms: ∀u,u∈r.gx.set k ⟨e.bn,p.rider,e.bq,true⟩↔u=⟨e.bn,p.rider,e.bq,true⟩\/(u∈r.gx/\u.id≠e.bn):=λu=>by
   constructor
   ·intro hu;obtain ⟨j,hj⟩:=cG.1 hu;rw [cD] at hj;split at hj
    ·first|(split at hj<;>first|(cases hj;exact .inl rfl)|cases hj)|(cases hj;exact .inl rfl)
    rename_i hne;refine .inr ⟨aq hj,λe1=>hne ?_⟩;have h2:=rF h.ids hj;rw [e1,hf] at h2;exact mZ h2
   rintro (rfl|⟨hu,hne⟩)
   ·exact aq (i:=k) (by rw [cD];simp [hkl])
   obtain ⟨j,hj⟩:=cG.1 hu;refine aq (i:=j) ?_;rw [cD,an (λe1=>?_)]
   ·exact hj
   subst e1;rw [htk] at hj;exact hne (by rw [<-mZ hj])
  refine ⟨hinv,by simp only [h.aG],by simp only [hmap];exact h.ids,λid=>?_,λt ht ho=>?_,λq hq=>?_⟩
  ·rw [h.used id];have hm: ∀l:List RT,(∃t∈l,t.id=id)↔id∈l.map (·.id):=λl=>by simp
   rw [hm,hm,hmap]
  ·rcases (hms t).1 ht with rfl|⟨ht2,hne⟩
   ·exact ⟨p.bP,fx.2 (.inl ⟨_,hp,rfl,rfl⟩)⟩
   obtain ⟨pa,hpa⟩:=h.Rk t ht2 ho;exact ⟨pa,fx.2 (.inr ⟨hpa,hne⟩)⟩
  rcases fx.1 hq with ⟨q2,_,_,rfl⟩|⟨hq2,hne⟩
  ·exact (hms _).2 (.inl rfl)
  exact (hms _).2 (.inr ⟨h.Qk q hq2,hne⟩)
 rw [an h4] at hinv hc|-;rw [an h4];by_cases h56:e.kind=5\/e.kind=6
 ·rw [aB h56] at hinv hc|-;have hx3:x.cF=3:=by
   split at hc
   ·cases hc
   rename_i hw;rw [hg] at hw;exact kM hw
  obtain ⟨i,p,hf,hp,hi,hb⟩:=h.bn hx hx3;rw [hg,uS h.inv.keys hp] at hinv|-;simp only at hinv|-;have hR:(if e.kind=5 then ({r with aG:=r.aG.set e.bq.toNat {(r.aG.getD e.bq.toNat default) with bP:=true}}:RS) else if e.kind=6 then {r with aG:=r.aG.set e.bq.toNat {(r.aG.getD e.bq.toNat default) with bP:=false}} else r)={r with aG:=s.aG.set e.bq.toNat {x with bP:=decide (e.kind=5)}}:=by
   rw [h.aG,hg];rcases h56 with h5|h6
   ·rw [aB h5,iU h5]
   rw [an (by omega),aB h6,jy (by omega)]
  rw [hR];refine ⟨hinv,rfl,h.ids,h.used,λt ht ho=>?_,λq hq=>?_⟩
  ·obtain ⟨pa,hpa⟩:=h.Rk t ht ho;by_cases he:t.id=x.bn
   ·have:t=⟨x.bn,p.rider,p.bq,true⟩:=J0 h.ids ht (aq hi) he;subst this;exact ⟨_,fx.2 (.inl ⟨_,hp,rfl,rfl⟩)⟩
   exact ⟨pa,fx.2 (.inr ⟨hpa,he⟩)⟩
  rcases fx.1 hq with ⟨q2,_,_,rfl⟩|⟨hq2,hne⟩
  ·exact aq hi
  exact h.Qk q hq2
 rw [an h56,an h7,an h8,an h9,an (show ¬e.kind=5 by omega),an (show ¬e.kind=6 by omega)];exact h
end
end Go.Proofs.Cus
namespace Go.Proofs.Cus
open Go Go.RowKit Go.Proofs.E
theorem Ma{f s e}(h:Az f s e≠0):eE f s e=(s,some (Az f s e)):=by
 grind [Az,eE]
theorem Ow{f s e}(h:Az f s e=0)(hk:e.kind≠10):eE f s e=(mF s e,some 0)/\jo f e=0/\ez f.cI s e=0:=by
 grind [Az,eE,mF,jo,ez]
theorem J7{f s e}(h:Az f s e=0)(hk:e.kind=10):eE f s e=(s,none):=by
 grind [Az,eE]
theorem xt{σ τ f cb cb2}: ∀(l:List Ev) (s:PS) (z:σ) (y:τ),(gn f cb l (s,z)).1=(gn f cb2 l (s,y)).1
 |[],_,_,_=>rfl
 |e::l,s,z,y=>by
  show (gn f cb l (ie cb z e (eE f s e))).1=(gn f cb2 l (ie cb2 y e (eE f s e))).1
  have h1: ∀p:PS×σ,p=(p.1,p.2):=λ_=>rfl
  have h2: ∀p:PS×τ,p=(p.1,p.2):=λ_=>rfl
  rw [h1 (ie cb z e (eE f s e)),h2 (ie cb2 y e (eE f s e)),sK,sK]
  exact xt l _ _ _
structure Steps (f:Fl) (ys:List Ev) (S:Nat->PS) (Ac:Nat->List Ev) (Rj_:Nat->List Rj):Prop where
 s0:S 0=dy (i6 f)
 a0:Ac 0=[]
 r0:Rj_ 0=[]
 st: ∀k e,ys[k]?=some e->S (k+1)=(eE f (S k) e).1/\Ac (k+1)=(match (eE f (S k) e).2 with|some er=>if er=0 then Ac k++[e] else Ac k|none=>Ac k)/\Rj_ (k+1)=(match (eE f (S k) e).2 with|some er=>if er≠0 then Rj_ k++[⟨e.device,e.seq,er⟩] else Rj_ k|none=>Rj_ k)
theorem L9(f ys): ∃S Ac Rj_,Steps f ys S Ac Rj_/\(∀k,S k=(gn f BS (ys.take k) (dy (i6 f),())).1)/\Ac ys.length=(gn f nT ys (dy (i6 f),[])).2/\Rj_ ys.length=(gn f Qf ys (dy (i6 f),[])).2:=by
 refine ⟨λk=>(gn f BS (ys.take k) (dy (i6 f),())).1,λk=>(gn f nT (ys.take k) (dy (i6 f),[])).2,λk=>(gn f Qf (ys.take k) (dy (i6 f),[])).2,⟨rfl,rfl,rfl,λk e he=>?_⟩,λ_=>rfl,by simp only [dQ],by simp only [dQ]⟩;rw [vq ys _ k e he,vq ys _ k e he,vq ys _ k e he];rw [xt (cb2:=BS) (y:=()) (ys.take k) (dy (i6 f)) ([]:List Ev),xt (cb2:=BS) (y:=()) (ys.take k) (dy (i6 f)) ([]:List Rj)];generalize eE f (gn f BS (ys.take k) (dy (i6 f),())).1 e=q;obtain ⟨q1,q2⟩:=q;cases q2 with
 |none=>exact ⟨rfl,rfl,rfl⟩
 |some er=>exact ⟨rfl,rfl,rfl⟩
theorem Steps.len{f ys S Ac Rj_}(h:Steps f ys S Ac Rj_): ∀k,k<=ys.length->(Ac k).length<=k/\(Rj_ k).length<=k
 |0,_=>by rw [h.a0,h.r0];simp
 |k+1,hk=>by
  obtain ⟨e,he⟩: ∃e,ys[k]?=some e:=⟨_,ah (by omega)⟩
  obtain ⟨h1,h2⟩:=h.len k (by omega)
  obtain ⟨_,h3,h4⟩:=h.st k e he
  grind
def Replay (f:Fl):PS->List Ev->Prop
 |_,[]=>True
 |s,e::l=>jo f e=0/\e.kind≠10/\ez f.cI s e=0/\Replay f (mF s e) l
section
variable {β:Type} {f:Fl} {g:PS->β}
def DR (g:PS->β):PS->List Ev->List (Int×β)
 |_,[]=>[]
 |s,e::l=>(e.at_,g (mF s e))::DR g (mF s e) l
theorem tH: ∀(l:List Ev) (s:PS) (za:List Ev) (zt:List (Int×β)),∃t,(gn f nT l (s,za)).2=za++t/\(gn f (jd g) l (s,zt)).2=zt++DR g s t/\Replay f s t
 |[],_,za,zt=>⟨[],by simp [gn],by simp [gn,DR],trivial⟩
 |e::l,s,za,zt=>by
  show ∃t,(gn f nT l (ie nT za e (eE f s e))).2=za++t/\(gn f (jd g) l (ie (jd g) zt e (eE f s e))).2=zt++DR g s t/\_;by_cases h0:Az f s e=0
  ·by_cases hk:e.kind=10
   ·rw [J7 h0 hk];exact tH l s za zt
   obtain ⟨h1,h2,h3⟩:=Ow h0 hk;rw [h1];obtain ⟨t,a1,a2,a3⟩:=tH l (mF s e) (za++[e]) (zt++[(e.at_,g (mF s e))]);refine ⟨e::t,?_,?_,h2,hk,h3,a3⟩
   ·show (gn f nT l (mF s e,nT za (mF s e) e 0)).2=_
    grind [gn,nT,jd,DR,Replay]
   show (gn f (jd g) l (mF s e,jd g zt (mF s e) e 0)).2=_
   grind [gn,nT,jd,DR,Replay]
  rw [Ma h0];show ∃t,(gn f nT l (s,nT za s e (Az f s e))).2=za++t/\(gn f (jd g) l (s,jd g zt s e (Az f s e))).2=zt++DR g s t/\_;rw [show nT za s e (Az f s e)=za by unfold nT;rw [an h0],show jd g zt s e (Az f s e)=zt by unfold jd;rw [an h0]];exact tH l s za zt
def Qc (s:PS) (l:List Ev) (k:Nat):PS:=(l.take k).foldl mF s
theorem Replay.at_: ∀{l:List Ev} {s:PS},Replay f s l-> ∀{k:Nat} {e:Ev},l[k]?=some e->jo f e=0/\e.kind≠10/\ez f.cI (Qc s l k) e=0/\Qc s l (k+1)=mF (Qc s l k) e/\(DR g s l)[k]?=some (e.at_,g (Qc s l (k+1)))
 |[],_,_,k,e,he=>by simp at he
 |x::l,s,⟨h1,h2,h3,h4⟩,0,e,he=>by
  simp at he
  subst he
  exact ⟨h1,h2,h3,rfl,rfl⟩
 |x::l,s,⟨h1,h2,h3,h4⟩,k+1,e,he=>by
  have:=Replay.at_ h4 (k:=k) (e:=e) (by simpa using he)
  exact this
end
theorem sR{β f}(hok:fy f=0)(xs)(g:PS->β):Replay f (dy (i6 f)) (kR f xs)/\(gn f (jd g) (setOf xs) (dy (i6 f),[])).2=DR g (dy (i6 f)) (kR f xs):=by
 obtain ⟨t,h1,h2,h3⟩:=tH (f:=f) (g:=g) (setOf xs) (dy (i6 f)) [] []
 grind [fy,Replay,dy,i6,kR,gn]
theorem tp(f xs):(kR f xs).length<=xs.length:=by
 unfold kR
 split
 ·obtain ⟨S,Ac,Rj_,hst,hS,hA,hRj⟩:=L9 f (setOf xs)
  rw [<-hA]
  have h1:=(hst.len _ (bA _)).1
  have h2:=vo xs
  omega
 simp
end Go.Proofs.Cus
namespace Go.Proofs.Cus
theorem SJ {β:Type} (f:Fl) (xs:List Ev) (g:PS->β):AD (gn f (jd g) (setOf xs) (dy (i6 f),[])).2/\ ∀q∈(gn f (jd g) (setOf xs) (dy (i6 f),[])).2,0<=q.1/\q.1<=4294943999:=by
 obtain ⟨t,h1,h2,h3⟩:=qY (f:=f) (g:=g) (setOf xs) (dy (i6 f)) [] (vm xs).sorted
 rw [ir] at h1
 rw [h1]
 exact ⟨h2,λq hq=>by obtain ⟨e,_,h4,h5⟩:=h3 q hq;omega⟩
def ub (f:Fl) (xs:List Ev) (t:Int):PS:=(gn f BS (LO t xs) (dy (i6 f),())).1
theorem Uh {β:Type} (f:Fl) (xs:List Ev) (g:PS->β) (t:Int):LJ (g (dy (i6 f))) (gn f (jd g) (setOf xs) (dy (i6 f),[])).2 t=g (ub f xs t):=by
 rw [Og _ _ (vm xs).sorted]
 unfold ub LO
 rw [xt (cb2:=BS) (y:=())]
end Go.Proofs.Cus
namespace Go.Proofs.Rid
open Go.Proofs.Cus
structure yd where
 lo:Int
 hi:Int
deriving DecidableEq,Inhabited
structure Lg where
 bq:Int
 from_:yd
 jT:yd
deriving DecidableEq,Inhabited
structure Pz where
 from_:yd
 jT:yd
deriving DecidableEq,Inhabited
structure Rd where
 id:Int
 rider:Int
 start:yd
 end_:yd
 open_:Bool
 db:List Lg
 bV:List Pz
 fw:Int
 fp:Int
 wh:Int
 pl:Int
deriving DecidableEq,Inhabited
abbrev RM:=List (Int×Int)
def xw (m:RM) (r:Int):Option Int:=(m.find? λp=>p.1==r).map (·.2)
def CN:RM->Int->Int->RM
 |[],r,b=>[(r,b)]
 |p::m,r,b=>if (p.1==r)=true then (r,b)::m else p::CN m r b
theorem Bu: ∀(m:RM) (r b r':Int),xw (CN m r b) r'=if r'=r then some b else xw m r'
 |[],r,b,r'=>by
  grind [xw,CN]
 |p::m,r,b,r'=>by
  have ih:=Bu m r b r'
  unfold xw at ih|-
  unfold CN
  by_cases hp:(p.1==r)=true
  ·rw [aB hp]
   grind [xw,CN]
  rw [an hp]
  have hpr: ¬p.1=r:=by simpa using hp
  by_cases h2:(p.1==r')=true
  ·have h2':p.1=r':=by simpa using h2
   simp only [sE,h2]
   rw [an (by omega)]
  simp only [sE,h2]
  exact ih
structure SY where
 dH:List Rd
 nG:RM
 du:List Int
 bP:List Bool
 aG:List Sp
def q8 (e:Ev):yd:=⟨e.at_,e.late⟩
def uD:yd:=⟨0,0⟩
def rJ (w:yd) (l:List Lg):List Lg:=l.set (l.length -1) {l.getD (l.length -1) default with jT:=w}
def Gt (w:yd) (l:List Pz):List Pz:=l.set (l.length -1) {l.getD (l.length -1) default with jT:=w}
def nu (l:List Lg):Int:=(l.getD (l.length -1) default).bq
def iG (p:Bool) (w:yd) (r:Rd):Rd:=if p=true/\0<r.bV.length then {r with bV:=Gt w r.bV} else r
def k7 (s:SY) (k:Nat) (w:yd):SY:={s with dH:=s.dH.set k (iG (s.bP.getD k false) w (s.dH.getD k default)),bP:=s.bP.set k false}
def mL (at_:Sp) (w:yd) (r:Rd):Rd:={r with db:=rJ w r.db,end_:=w,open_:=false,wh:=at_.cF,pl:=at_.place}
def jm (s:SY) (b:Nat) (at_:Sp) (w:yd):SY:=
 if s.du.getD b 0<0 then {s with aG:=s.aG.set b at_}
 else
  let k:=(s.du.getD b 0).toNat
  let t:=k7 {s with aG:=s.aG.set b at_} k w
  {t with dH:=t.dH.set k (mL at_ w (t.dH.getD k default)),du:=t.du.set b (-1)}
def uR (e:Ev) (from_:Sp) (w:yd):Rd:=⟨e.bn,e.rider,w,uD,true,[⟨e.bq,w,uD⟩],[],from_.cF,from_.place,3,0⟩
def oC (s:SY) (e:Ev) (w:yd):SY:=
 {dH:=s.dH++[uR e (s.aG.getD e.bq.toNat default) w],nG:=CN s.nG e.bn s.dH.length,du:=s.du.set e.bq.toNat s.dH.length,bP:=s.bP++[false],aG:=s.aG}
def wj (b:Int) (w:yd) (r:Rd):Rd:={r with db:=rJ w r.db++[⟨b,w,uD⟩]}
def kL (s:SY) (e:Ev) (w:yd):SY:=
 match xw s.nG e.bn with
 |none=>s
 |some k=>
  let r:=s.dH.getD k.toNat default
  let former:=(nu r.db).toNat
  {s with dH:=s.dH.set k.toNat (wj e.bq w r),du:=(s.du.set former (-1)).set e.bq.toNat k,aG:=s.aG.set former (s.aG.getD e.bq.toNat default)}
def uL (w:yd) (r:Rd):Rd:={r with bV:=r.bV++[⟨w,uD⟩]}
def gR (s:SY) (e:Ev):SY:=
 let w:=q8 e
 let k:=s.du.getD e.bq.toNat 0
 if e.kind=3 then oC s e w
 else if e.kind=4 then kL s e w
 else if e.kind=5 then (if 0<=k then {s with dH:=s.dH.set k.toNat (uL w (s.dH.getD k.toNat default)),bP:=s.bP.set k.toNat true} else s)
 else if e.kind=6 then (if 0<=k then k7 s k.toNat w else s)
 else if e.kind=1 then jm s e.bq.toNat ⟨1,e.place,0,false⟩ w
 else if e.kind=2 then jm s e.bq.toNat ⟨2,e.place,0,false⟩ w
 else if e.kind=9 then jm s e.bq.toNat ⟨6,0,0,false⟩ w
 else s
def iq (n:Nat):SY:=⟨[],[],List.replicate n (-1),[],List.replicate n ⟨0,0,0,false⟩⟩
structure WF (n N:Nat) (s:SY):Prop where
 du:s.du.length=n
 aG:s.aG.length=n
 bP:s.bP.length=s.dH.length
 num:s.dH.length<=N
 bn: ∀b∈s.du,-1<=b/\b<s.dH.length
 db: ∀r∈s.dH,0<r.db.length/\r.db.length<=N/\r.bV.length<=N/\(∀g∈r.db,0<=g.bq/\g.bq<n)
 ids: ∀id k,xw s.nG id=some k->0<=k/\k<s.dH.length
theorem WF.begin(n):WF n 0 (iq n):=
 ⟨by simp [iq],by simp [iq],rfl,bA _,λb hb=>by simp [iq] at hb;simp [hb.2,iq],λr hr=>by simp [iq] at hr,λid k h=>by simp [iq,xw] at h⟩
theorem Cm(w l):(rJ w l).length=l.length:=by simp [rJ]
theorem KP(w l):(Gt w l).length=l.length:=by simp [Gt]
theorem xK{α:Type}[Inhabited α]{l:List α}{k}(h:k<l.length):l.getD k default∈l/\l[k]?=some (l.getD k default):=by
 grind
theorem xS{n:Nat}{w l}(h: ∀g∈l,0<=g.bq/\g.bq<(n:Int))(hl:0<l.length): ∀g∈rJ w l,0<=g.bq/\g.bq<(n:Int):=λg hg=>by
 grind [rJ]
theorem WF.set{n N s}(h:WF n N s){k r}(hr:0<r.db.length/\r.db.length<=N/\r.bV.length<=N/\(∀g∈r.db,0<=g.bq/\g.bq<(n:Int)))(p)(hp:p.length=s.bP.length):WF n N {s with dH:=s.dH.set k r,bP:=p}:=
 ⟨h.du,h.aG,by simp [hp,h.bP],by simpa using h.num,λb hb=>by simpa using h.bn b hb,λx hx=>by
  rcases fF hx with hx|rfl
  ·exact h.db x hx
  exact hr,λid k hk=>by simpa using h.ids id k hk⟩
theorem WF.mono{n N M s}(h:WF n N s)(hN:N<=M):WF n M s:=
 ⟨h.du,h.aG,h.bP,gL h.num hN,h.bn,λr hr=>⟨(h.db r hr).1,by have:=(h.db r hr).2.1;omega,by have:=(h.db r hr).2.2.1;omega,(h.db r hr).2.2.2⟩,h.ids⟩
theorem Bz{n N:Nat}{p w r}(h:0<r.db.length/\r.db.length<=N/\r.bV.length<=N/\(∀g∈r.db,0<=g.bq/\g.bq<(n:Int))):0<(iG p w r).db.length/\(iG p w r).db.length<=N/\(iG p w r).bV.length<=N/\(∀g∈(iG p w r).db,0<=g.bq/\g.bq<(n:Int)):=by
 grind [iG,KP]
theorem WF.resume{n N s}(h:WF n N s){k}(hk:k<s.dH.length)(w):WF n N (k7 s k w):=by
 unfold k7
 exact h.set (Bz (h.db _ (xK hk).1)) _ (by simp)
theorem q9{n N s}(h:WF n N s){b}(hb:b<n): ∃v,s.du[b]?=some v/\s.du.getD b 0=v/\ -1<=v/\v<s.dH.length:=by
 have hl:=h.du
 obtain ⟨v,hv⟩: ∃v,s.du[b]?=some v:=⟨_,ah (by omega)⟩
 have:=h.bn v (aq hv)
 grind
theorem WF.leave{n N s}(h:WF n N s){b}(hb:b<n)(at_ w):WF n N (jm s b at_ w):=by
 obtain ⟨v,hv,hg,hv0,hv1⟩:=q9 h hb;have h1:WF n N {s with aG:=s.aG.set b at_}:=⟨h.du,by simp [h.aG],h.bP,h.num,h.bn,h.db,h.ids⟩;unfold jm;rw [hg];split
 ·exact h1
 rename_i hn;have hk:v.toNat<s.dH.length:=by omega
 have h2:=h1.resume (k:=v.toNat) hk w;simp only;generalize k7 {s with aG:=s.aG.set b at_} v.toNat w=t at h2|-;have hl2:v.toNat<t.dH.length\/ ¬v.toNat<t.dH.length:=by omega
 have h3:WF n N {t with dH:=t.dH.set v.toNat (mL at_ w (t.dH.getD v.toNat default)),bP:=t.bP}:=by
  rcases hl2 with hl2|hl2
  ·refine h2.set ?_ _ rfl;have:=h2.db _ (xK hl2).1
   grind [jm,mL,Cm,xS]
  rw [List.set_eq_of_length_le (by omega)];exact h2
 exact ⟨by simp [h3.du],h3.aG,h3.bP,h3.num,λb' hb'=>by
  rcases fF hb' with hb'|rfl
  ·exact h3.bn b' hb'
  simp only;omega,h3.db,h3.ids⟩
theorem WF.RP{n N s}(h:WF n N s){e:Ev}(hb:0<=e.bq/\e.bq<n)(w):WF n (N+1) (oC s e w):=by
 have h':=h.mono (lD N);unfold oC;refine ⟨by simp [h.du],h.aG,by simp [h.bP],by simp;exact h.num,λb hb'=>?_,λr hr=>?_,λid k hk=>?_⟩
 ·simp only [aQ,cL,dO];rcases fF hb' with hb'|rfl
  ·have:=h.bn b hb';omega
  omega
 ·rcases bO.1 hr with hr|hr
  ·exact h'.db r hr
  grind [oC,uR]
 simp only at hk;rw [Bu] at hk;simp only [aQ,cL,dO];split at hk
 ·cases hk;omega
 have:=h.ids id k hk;omega
theorem WF.Pv{n N s}(h:WF n N s){e:Ev}(hb:0<=e.bq/\e.bq<n)(w):WF n (N+1) (kL s e w):=by
 have h':=h.mono (lD N);unfold kL;split
 ·exact h'
 rename_i k hk;obtain ⟨h0,h1⟩:=h.ids _ _ hk;have hkl:k.toNat<s.dH.length:=by omega
 have hr:=h.db _ (xK hkl).1;simp only;have h3:WF n (N+1) {s with dH:=s.dH.set k.toNat (wj e.bq w (s.dH.getD k.toNat default)),bP:=s.bP}:=by
  refine h'.set ?_ _ rfl
  grind [kL,wj,Cm,xS]
 exact ⟨by simp [h3.du],by simp [h3.aG],h3.bP,h3.num,λb' hb'=>by
  rcases fF hb' with hb'|rfl
  ·rcases fF hb' with hb'|rfl
   ·exact h3.bn b' hb'
   simp only;omega
  simp only [gP];omega,h3.db,h3.ids⟩
theorem WF.tell{n N s}(h:WF n N s){e:Ev}(hb:0<=e.bq/\e.bq<n):WF n (N+1) (gR s e):=by
 have h':=h.mono (lD N);obtain ⟨v,hv,hg,hv0,hv1⟩:=q9 h (b:=e.bq.toNat) (by omega);unfold gR;simp only;rw [hg];split
 ·exact h.RP hb _
 split
 ·exact h.Pv hb _
 split
 ·split
  ·refine h'.set ?_ _ (by simp);have:=h.db _ (xK (k:=v.toNat) (by omega)).1
   grind [gR,uL]
  exact h'
 split
 ·split
  ·exact h'.resume (k:=v.toNat) (by omega) _
  exact h'
 split
 ·exact h'.leave (by omega) _ _
 split
 ·exact h'.leave (by omega) _ _
 split
 ·exact h'.leave (by omega) _ _
 exact h'
theorem WF.run{n}: ∀(l:List Ev) {N:Nat} {s:SY},WF n N s->(∀e∈l,0<=e.bq/\e.bq<(n:Int))->WF n (N+l.length) (l.foldl gR s)
 |[],_,_,h,_=>h
 |e::l,N,s,h,hb=>by
  have:=WF.run l (h.tell (hb e (by simp))) λe he=>hb e (bR _ he)
  grind
section
variable {α:Type} {lt:α->α->Bool} {xs0 xs:List α} {a b i j:Nat}
def CD (lt:α->α->Bool) (xs:List α) (a b:Nat):Prop:= ∀p q x y,a<=p->p<q->q<b->xs[p]?=some x->xs[q]?=some y->lt y x=false
structure Ir (lt:α->α->Bool) (xs0 xs:List α) (a i j:Nat):Prop where
 perm:xs.Perm xs0
 out: ∀p,p<a\/i<p->xs[p]?=xs0[p]?
 ok: ∀p q x y,a<=p->p<q->q<=i->q≠j->xs[p]?=some x->xs[q]?=some y->lt y x=false
structure G3 (lt:α->α->Bool) (xs0 xs:List α) (a i:Nat):Prop where
 perm:xs.Perm xs0
 out: ∀p,p<a\/i<=p->xs[p]?=xs0[p]?
 ok:CD lt xs a i
theorem G3.start(xs a):G3 lt xs xs a (a+1):=⟨Ao _,λ_ _=>rfl,λp q x y h1 h2 h3=>by omega⟩
theorem G3.inner (h:G3 lt xs0 xs a i):Ir lt xs0 xs a i i:=⟨h.perm,λp hp=>h.out p (by omega),λp q x y h1 h2 h3 h4=>h.ok p q x y h1 h2 (by omega)⟩
theorem swap_perm{x y}(hj:0<j)(hx:xs[j]?=some x)(hy:xs[j -1]?=some y):((xs.set j y).set (j -1) x).Perm xs:=by
 obtain ⟨h1,e1⟩:=ai.1 hx
 obtain ⟨h2,e2⟩:=ai.1 hy
 have:=List.set_set_perm h1 h2
 rw [e1,e2] at this
 exact this
theorem L7{x y}(hj:0<j)(hx:xs[j]?=some x)(hy:xs[j -1]?=some y)(p):((xs.set j y).set (j -1) x)[p]?=if p=j -1 then some x else if p=j then some y else xs[p]?:=by
 grind
theorem Ir.step{x y}(hS: ∀u v:α,lt u v=true->lt v u=false)(h:Ir lt xs0 xs a i j)(hj:a<j)(hji:j<=i)(hx:xs[j]?=some x)(hy:xs[j -1]?=some y)(hl:lt x y=true):Ir lt xs0 ((xs.set j y).set (j -1) x) a i (j -1):=by
 have hg:=L7 (by omega) hx hy;refine ⟨(swap_perm (by omega) hx hy).trans h.perm,λp hp=>?_,λp q u v h1 h2 h3 h4 hu hv=>?_⟩
 ·rw [hg,an (by omega),an (by omega)];exact h.out p hp
 rw [hg] at hu hv;rw [an h4] at hv;by_cases hq:q=j
 ·rw [aB hq] at hv;cases hv;by_cases hp:p=j -1
  ·grind
  rw [an hp,an (by omega)] at hu;exact h.ok p (j -1) u y h1 (by omega) (by omega) (by omega) hu hy
 rw [an hq] at hv;by_cases hp:p=j -1
 ·rw [aB hp] at hu;cases hu;exact h.ok j q _ v (by omega) (by omega) h3 hq hx hv
 rw [an hp] at hu;by_cases hp2:p=j
 ·rw [aB hp2] at hu;cases hu;exact h.ok (j -1) q _ v (by omega) (by omega) h3 hq hy hv
 rw [an hp2] at hu;exact h.ok p q u v h1 h2 h3 hq hu hv
theorem Ir.stop (hN: ∀u v w:α,lt u v=false->lt v w=false->lt u w=false) (h:Ir lt xs0 xs a i j) (hj:a<=j) (hji:j<=i) (he:j=a\/ ∃x y,xs[j]?=some x/\xs[j -1]?=some y/\lt x y=false):G3 lt xs0 xs a (i+1):=by
 refine ⟨h.perm,λp hp=>h.out p (by omega),λp q u v h1 h2 h3 hu hv=>?_⟩;by_cases hq:q=j
 ·rcases he with he|⟨x,y,hx,hy,hl⟩
  ·omega
  rw [hq,hx] at hv;cases hv;by_cases hp:p=j -1
  ·rw [hp,hy] at hu;cases hu;exact hl
  exact hN _ _ _ hl (h.ok p (j -1) u y h1 (by omega) (by omega) (by omega) hu hy)
 exact h.ok p q u v h1 h2 (by omega) hq hu hv
end
def KC (x y:Rd):Bool:=decide (x.id<y.id)
def Ih (l:List Rd):List Rd:=l.mergeSort λx y=>decide (x.id<=y.id)
theorem tl(l):(Ih l).Perm l:=lE _ _
theorem GQ(l):(Ih l).Pairwise λx y=>x.id<=y.id:=by
 have:=kT (le:=λx y:Rd=>decide (x.id<=y.id)) (λa b c h1 h2=>by simp at*;omega) (λa b=>by simp;omega) l
 exact this.imp λh=>by simpa using h
theorem wo: ∀{l m:List Rd},l.Perm m->l.Pairwise (λx y=>x.id<y.id)->m.Pairwise (λx y=>x.id<y.id)->l=m
 |[],m,hp,_,_=>(List.Perm.nil_eq hp)
 |x::l,[],hp,_,_=>by have:=hp.length_eq;simp at this
 |x::l,y::m,hp,h1,h2=>by
  have h1':=bB.1 h1
  have h2':=bB.1 h2
  have hxy:x=y:=by
   grind
  subst hxy
  rw [wo ((List.perm_cons x).1 hp) h1'.2 h2'.2]
theorem sM {l:List Rd} (h:l.Pairwise λx y=>x.id<=y.id) (hn:(l.map (·.id)).Nodup):l.Pairwise λx y=>x.id<y.id:=by
 have h2:l.Pairwise λx y=>x.id≠y.id:=iD.1 hn
 exact (List.Pairwise.and h h2).imp λ⟨a,b⟩=>by omega
theorem GP{l}(hn:(l.map (·.id)).Nodup):(Ih l).Pairwise λx y=>x.id<y.id:=
 sM (GQ l) (((tl l).map _).nodup_iff.2 hn)
theorem GO{l m}(hp:m.Perm l)(hs:m.Pairwise λx y=>x.id<=y.id)(hn:(l.map (·.id)).Nodup):m=Ih l:=
 wo (hp.trans (tl l).symm) (sM hs ((hp.map _).nodup_iff.2 hn)) (GP hn)
end Go.Proofs.Rid
namespace Go.Proofs.Rid
open Go.Proofs.Cus
def sO (s:yd):Bool:=(decide (0<=s.lo)&&decide (s.lo<=s.hi))&&decide (s.hi<=4294943999)
def F3 (g:Lg):Bool:=sO g.from_&&sO g.jT
def BE (p:Pz):Bool:=sO p.from_&&sO p.jT
def xI (r:Rd):Bool:=((((decide (r.id<1)||decide (1000000<r.id))||decide (r.rider<0))||decide (128<=r.rider))||!sO r.start)||!sO r.end_
def rY (r:Rd):Bool:=!xI r&&(r.db.all F3&&r.bV.all BE)
def El (r:Rd):Bool:=(decide ((r.db.length:Int)<1)||decide ((512:Int)<r.db.length))||decide ((512:Int)<r.bV.length)
def sf:yd->List Lg->yd->Bool
 |a,[],e=>decide (a=e)
 |a,g::l,e=>decide (g.from_=a)&&sf g.jT l e
def tN (r:Rd):Bool:=!El r&&sf r.start r.db r.end_
def tM (o:Bool):List Lg->Bool
 |[]=>true
 |g::l=>!(decide (g.jT.lo<g.from_.lo)&&!(o&&l.isEmpty))&&tM o l
def BD (o:Bool) (n:Nat) (e:Int):Int->List Pz->Bool
 |last,[]=>(o||decide ((n:Int)=0))||decide (last<=e)
 |last,p::l=>if p.from_.lo<last then false else if ((o&&l.isEmpty)&&decide (p.jT.lo=0))=true then true else if p.jT.lo<p.from_.lo then false else BD o n e p.jT.lo l
def rm (r:Rd):Bool:=tM r.open_ r.db&&BD r.open_ r.bV.length r.end_.lo r.start.lo r.bV
def eF (r:Rd):Int:=
 if (!rY r)=true then 1 else if (!tN r)=true then 3 else if (!rm r)=true then 9
 else if (r.open_&&!decide (r.end_=uD))=true then 12 else if (!(r.open_==decide (r.wh=3)))=true then 12 else 0
theorem tT{α:Type}{l:List α}{k x}(h:l[k]?=some x):l.drop k=x::l.drop (k+1):=by
 obtain ⟨h1,h2⟩:=ai.1 h
 rw [cH h1,h2]
theorem Cs{α:Type}{l:List α}{k}(h:k<l.length):(l.drop (k+1)).isEmpty=decide ((k:Int)=(l.length:Int) -1):=by
 rw [gQ,QG,fg,List.drop_eq_nil_iff]
 omega
end Go.Proofs.Rid
namespace Go.Proofs.Far
open Go.Proofs.Cus Go.Proofs.Rid
def q6 (r:Rd):Wn:=⟨r.start.hi,max r.start.hi r.end_.lo⟩
def q5 (p:Pz):Wn:=⟨p.from_.hi,max p.from_.hi p.jT.lo⟩
def rh (p:Pz):Wn:=⟨p.from_.lo,max p.from_.lo p.jT.hi⟩
def Bw (r:Rd):List Wn:=mz (q6 r) (ic (r.bV.map rh))
def BM (r:Rd):List Wn:=nA (q6 r) (ic (r.bV.map q5))
def oZ (r:Rd):Int:=F6 (Bw r)
def tK (r:Rd):Int:=F6 (BM r)
theorem im{r}(h:eF r=0):sO r.start=true/\sO r.end_=true/\(∀p∈r.bV,BE p=true)/\r.db.length<=512/\r.bV.length<=512:=by
 grind [eF,sO,BE,rY,tN,xI,El]
theorem sN{s}:sO s=true↔0<=s.lo/\s.lo<=s.hi/\s.hi<=4294943999:=by
 grind [sO]
theorem xl{r}(h:eF r=0):0<=(q6 r).lo/\(q6 r).lo<=(q6 r).hi/\(q6 r).hi<=4294944000:=by
 grind [eF,q6,im,sN]
theorem Qg{r}(h:eF r=0){p}(hp:p∈r.bV):(0<=p.from_.lo/\p.from_.lo<=p.from_.hi/\p.from_.hi<=4294943999)/\(0<=p.jT.lo/\p.jT.lo<=p.jT.hi/\p.jT.hi<=4294943999):=by
 have:=(im h).2.2.1 p hp
 grind [eF,BE,sN]
theorem Fk{r}(h:eF r=0):nU (r.bV.map q5):=λx hx=>by
 obtain ⟨p,hp,rfl⟩:=cW.1 hx
 have:=Qg h hp
 unfold q5
 simp only
 omega
theorem FI{r}(h:eF r=0):nU (r.bV.map rh):=λx hx=>by
 obtain ⟨p,hp,rfl⟩:=cW.1 hx
 have:=Qg h hp
 unfold rh
 simp only
 omega
theorem IM{r}(h:eF r=0):nU (Bw r):=Kt (xl h) (qF (FI h))
theorem IV{r}(h:eF r=0):nU (BM r):=Ie (xl h) (qF (Fk h))
theorem HS(x Y):(mz x Y).length<=Y.length+1:=by
 unfold mz one
 grind [mz,yM,HV,yN]
theorem Je(x): ∀l:List Wn,(l.flatMap (tU x)).length<=l.length
 |[]=>by simp
 |a::l=>by
  rw [nj,aQ,cL]
  have:(tU x a).length<=1:=by unfold tU;split<;>simp
  have:=Je x l
  omega
theorem GJ(x Y):(nA x Y).length<=Y.length:=by
 grind [nA,one,Je]
theorem Mn{r}(h:eF r=0):(Bw r).length<=513:=by
 grind [eF,Bw,HS,q6,ic,rh,sI,im]
theorem MB{r}(h:eF r=0):(BM r).length<=512:=by
 grind [eF,BM,GJ,q6,ic,q5,sI,im]
theorem L8: ∀{l:List Wn},Nf l->nU l-> ∀a:Int,0<=a->a<=4294944000->(∀w∈l,a<=w.lo)->0<=Fm l/\Fm l<=4294944000 -a
 |[],_,_,a,_,h2,_=>by unfold Fm;simp;omega
 |x::l,hn,hw,a,h1,h2,h3=>by
  have hx:=hw x (by simp)
  have hp:=hn.pos x (by simp)
  have hq:=h3 x (by simp)
  have ih:=L8 hn.tail (λw hw'=>hw w (bR _ hw')) x.hi (by omega) (by omega) (λw hw'=>by have:=(bB.1 hn.apart).1 w hw';omega)
  grind [nU,Fm]
theorem B8{l}(h:nU l):0<=F6 l/\F6 l<=4294944000:=by
 have:=L8 (xj h.le).1 (qF h) 0 (by omega) (by omega) (λw hw=>(qF h w hw).1)
 unfold F6
 omega
theorem Bx{r}(h:eF r=0):0<=oZ r/\oZ r<=4294944000:=B8 (IM h)
theorem BN{r}(h:eF r=0):0<=tK r/\tK r<=4294944000:=B8 (IV h)
end Go.Proofs.Far
namespace Go.Proofs.E
open Go Go.RowKit
def jK (T:List Item):Item where
 fp:=λb=> ∃it∈T,it.fp b
 A:=λw=>(∀it∈T,it.A w)/\T.Pairwise (λ(x y:Item)=> ∀b,x.fp b-> ¬y.fp b)
 st:=λw w' h hA=>⟨λit hi=>it.st w w' (λb hb=>h b ⟨it,hi,hb⟩) (hA.1 it hi),hA.2⟩
section
variable {w0 w:World} {T L M:List Item}
theorem Mem.jK (h:Mem w0 (T++L) w):Mem w0 (jK T::L) w:=by
 obtain ⟨h1,h2,h3,h4⟩:=h
 obtain ⟨p1,p2,p3⟩:=iO.1 h4
 refine ⟨h1,λit hi=>?_,λit hi b hb=>?_,bB.2 ⟨λy hy b hb hg=>?_,p2⟩⟩
 ·grind [Mem,jK]
 ·rcases cn.1 hi with rfl|hi
  ·obtain ⟨x,hx,hxb⟩:=hb
   exact h3 x (bO.2 (.inl hx)) b hxb
  grind [Mem,jK]
 obtain ⟨x,hx,hxb⟩:=hb
 exact p3 x hx y hy b hxb hg
theorem Mem.uF (h:Mem w0 (E.jK T::L) w):Mem w0 (T++L) w:=by
 obtain ⟨h1,h2,h3,h4⟩:=h;obtain ⟨p1,p2⟩:=bB.1 h4;obtain ⟨a1,a2⟩:(E.jK T).A w:=h2 _ (dV ..);refine ⟨h1,λit hi=>?_,λit hi b hb=>?_,iO.2 ⟨a2,p2,λx hx y hy b hb hg=>?_⟩⟩
 ·grind
 ·rcases bO.1 hi with hi|hi
  ·exact h3 _ (dV ..) b ⟨it,hi,hb⟩
  exact h3 it (bR _ hi) b hb
 exact p1 y hy b ⟨x,hx,hb⟩ hg
variable {α:Type} {f:α->List Item} {xs:List α} {k:Nat} {x y:α}
theorem Mem.apart (h:Mem w0 (E.jK (xs.flatMap f)::L) w) (hk:xs[k]?=some x):Mem w0 (f x++(E.jK ((xs.eraseIdx k).flatMap f)::L)) w:=by
 have h1:=h.uF
 have h2:(xs.flatMap f).Perm (f x++(xs.eraseIdx k).flatMap f):=((wW xs k x hk).symm.flatMap_right f)
 have h3:=h1.perm (DI L h2.symm)
 rw [cE] at h3
 have h4:=h3.perm (L':=(xs.eraseIdx k).flatMap f++(f x++L)) (xf ..)
 have h5:=h4.jK
 exact h5.perm (l5)
theorem Mem.MR (h:Mem w0 (f y++(E.jK ((xs.eraseIdx k).flatMap f)::L)) w) (hk:k<xs.length):Mem w0 (E.jK ((xs.set k y).flatMap f)::L) w:=by
 have h5:=h.perm (L':=E.jK ((xs.eraseIdx k).flatMap f)::(f y++L)) (l5.symm)
 have h4:=h5.uF
 have h3:=h4.perm (L':=f y++((xs.eraseIdx k).flatMap f++L)) (xf ..)
 rw [<-cE] at h3
 have h2:((xs.set k y).flatMap f).Perm (f y++(xs.eraseIdx k).flatMap f):=((set_perm xs k y hk).flatMap_right f)
 exact (h3.perm (DI L h2)).jK
theorem Mem.Eb (h:Mem w0 (f y++(E.jK (xs.flatMap f)::L)) w):Mem w0 (E.jK ((xs++[y]).flatMap f)::L) w:=by
 have h5:=h.perm (L':=E.jK (xs.flatMap f)::(f y++L)) (l5.symm)
 have h4:=h5.uF
 rw [<-cE] at h4
 have e:(xs++[y]).flatMap f=xs.flatMap f++f y:=by simp
 rw [<-e] at h4
 exact h4.jK
theorem Mem.BT (h:Mem w0 L w):Mem w0 (E.jK (([]:List α).flatMap f)::L) w:=Mem.jK (T:=[]) h
theorem BC: ∀(k n:Nat),n+k=M.length->(List.range' n k).filterMap (M[·]?)=M.drop n
 |0,n,h=>by rw [gZ (by omega)];rfl
 |k+1,n,h=>by
  have hn:n<M.length:=by omega
  rw [List.range'_succ,List.filterMap_cons,ah hn]
  simp only
  rw [BC k (n+1) (by omega),cH hn]
theorem Mem.oU(h:Mem w0 M w)(n)(idx:List Nat)(hn:idx.Nodup)(hi:idx.all (λi=>Nat.blt i n)=true):Mem w0 (idx.filterMap (M[·]?)++M.drop n) w:=by
 have hi': ∀i∈idx,i<n:=λi hx=>by simpa using kH.1 hi i hx
 rcases uA M.length n with hl|hl
 ·rw [gZ (by omega),bF];exact h.pick idx hn
 have h1:=h.pick (idx++List.range' n (M.length -n)) (um.2 ⟨hn,List.nodup_range',λa ha b hb e=>by
  have:=hi' a ha
  have:=List.mem_range'_1.1 hb
  omega⟩)
 rw [List.filterMap_append,BC _ _ (by omega)] at h1
 exact h1
theorem yE{e n c enc A}(hk:xs[k]?=some x)(h:enc y=enc x):dS e n enc A c (xs.set k y)=dS e n enc A c xs:=by
 have hf:(xs.set k y).flatMap enc=xs.flatMap enc:=by
  have hm:(xs.set k y).map enc=xs.map enc:=by
   rw [uC,h]
   obtain ⟨h1,h2⟩:=ai.1 hk
   rw [<-h2]
   apply fh
   grind
  rw [List.flatMap_def,List.flatMap_def,hm]
 unfold dS
 simp only [hf,gP]
theorem Mem.EO{e n b j enc}(h:Mem w0 M w)(hk:M[j]?=some (box b e (xs.flatMap enc)))(he: ∀x,(enc x).length=n)(hl:xs.length<=1000000):Mem w0 (M.set j (dS e n enc (some ⟨b,0,none⟩) xs.length xs)) w:=by
 refine h.swap hk (λx hx=>?_) ?_
 ·simp [dS] at hx;exact hx.symm
 have hA:w.heap[b]?=some (.cells (xs.flatMap enc).toArray e (0,0)):=h.item hk;refine nC he hA ⟨bA _,by unfold maxLen;omega,?_,[],by simp⟩;exact (dX he xs)
end
end Go.Proofs.E
namespace Go.Proofs.Rid
open Go Go.RowKit Go.Proofs.E Go.Proofs.Cus
theorem Ph {fs:Array Field} (h:Tryz.prog.underlying 74=some (.struct fs):=by exact eJ):df Tryz.prog fs [(0,1),(1,1)]:=by
 rw [eJ] at h
 cases h
 intro w
 kernel_rfl
theorem Jg {fs:Array Field} (h:Tryz.prog.underlying 142=some (.struct fs):=by exact iA):df Tryz.prog fs [(0,1),(1,2),(3,2)]:=by
 rw [iA] at h
 cases h
 intro w
 kernel_rfl
theorem Tu {fs:Array Field} (h:Tryz.prog.underlying 284=some (.struct fs):=by exact v7):df Tryz.prog fs [(0,2),(2,2)]:=by
 rw [v7] at h
 cases h
 intro w
 kernel_rfl
theorem Pg {fs:Array Field} (h:Tryz.prog.underlying 78=some (.struct fs):=by exact bE):df Tryz.prog fs [(0,1),(1,1),(2,2),(4,2),(6,1),(7,1),(8,1),(9,1),(10,1),(11,1),(12,1)]:=by
 rw [bE] at h
 cases h
 intro w
 kernel_rfl
theorem Dn {fs:Array Field} (h:Tryz.prog.underlying 237=some (.struct fs):=by exact j0):df Tryz.prog fs [(0,1),(1,1),(2,1),(3,1),(4,1)]:=by
 rw [j0] at h
 cases h
 intro w
 kernel_rfl
theorem wA {fs:Array Field} (h:Tryz.prog.underlying 159=some (.struct fs):=by exact dE):df Tryz.prog fs [(0,1),(1,1),(2,1),(3,1)]:=by
 rw [dE] at h
 cases h
 intro w
 kernel_rfl
def yd.cells (s:yd):List Value:=[.int .i64 s.lo, .int .i64 s.hi]
def Lg.cells (g:Lg):List Value:=[.int .i64 g.bq, .int .i64 g.from_.lo, .int .i64 g.from_.hi, .int .i64 g.jT.lo, .int .i64 g.jT.hi]
def Pz.cells (p:Pz):List Value:=[.int .i64 p.from_.lo, .int .i64 p.from_.hi, .int .i64 p.jT.lo, .int .i64 p.jT.hi]
structure Qt where
 lA:Option Addr
 lc:Nat
 pA:Option Addr
 pc:Nat
deriving Inhabited
structure RX where
 r:Rd
 a:Qt
deriving Inhabited
def Rd.AX (r:Rd) (a:Qt) (ln pn:Nat):List Value:=
 [.int .i64 r.id, .int .i64 r.rider, .int .i64 r.start.lo, .int .i64 r.start.hi, .int .i64 r.end_.lo, .int .i64 r.end_.hi, .bool r.open_, .slice a.lA ln a.lc, .slice a.pA pn a.pc, .int .i64 r.fw, .int .i64 r.fp, .int .i64 r.wh, .int .i64 r.pl]
def RX.cells (x:RX):List Value:=x.r.AX x.a x.r.db.length x.r.bV.length
abbrev uf (A:Option Addr) (c:Nat) (l:List Lg):E.Item:=dS 142 5 Lg.cells A c l
abbrev zO (A:Option Addr) (c:Nat) (l:List Pz):E.Item:=dS 284 4 Pz.cells A c l
abbrev eI (A:Option Addr) (c:Nat) (l:List RX):E.Item:=dS 78 13 RX.cells A c l
def jV (x:RX):List E.Item:=[uf x.a.lA x.a.lc x.r.db,zO x.a.pA x.a.pc x.r.bV]
def kc (xs:List RX):E.Item:=jK (xs.flatMap jV)
def KS (b:Bool):List Value:=[.bool b]
abbrev Dw (A:Option Addr) (c:Nat) (l:List Bool):E.Item:=dS 4 1 KS A c l
abbrev rB (A:Option Addr) (c:Nat) (xs:List Int):E.Item:=dS 3 1 eQ A c xs
def Mj (m:RM):List (Int×Value):=m.map λp=>(p.1, .int .i64 p.2)
theorem IL: ∀(m:RM) (r b:Int),ou (Mj m) r (.int .i64 b)=Mj (CN m r b)
 |[],r,b=>rfl
 |p::m,r,b=>by
  have ih:=IL m r b
  grind [ou,Mj,CN]
theorem Mi(m r):lG (Mj m) r=(xw m r).map (.int .i64 ·):=by
 unfold lG Mj xw
 rw [List.find?_map]
 cases h:m.find? ((λp:Int×Value=>p.1==r)∘λp:Int×Int=>(p.1,Value.int .i64 p.2)) with
 |none=>
  grind
 |some q=>
  have:m.find? (λp=>p.1==r)=some q:=h
  rw [this];rfl
structure YA where
 sb:Nat
 rA:Option Addr
 rc:Nat
 m:Nat
 g:Nat
 gc:Nat
 pA:Option Addr
 pc:Nat
 s:Nat
 sc:Nat
structure TY where
 xs:List RX
 nG:RM
 du:List Int
 bP:List Bool
 aG:List Sp
def TY.plain (t:TY):SY:=⟨t.xs.map (·.r),t.nG,t.du,t.bP,t.aG⟩
def kN (a:YA) (t:TY):List Value:=[.slice a.rA t.xs.length a.rc, .map (some a.m), .slice (some ⟨a.g,0,none⟩) t.du.length a.gc, .slice a.pA t.bP.length a.pc, .slice (some ⟨a.s,0,none⟩) t.aG.length a.sc]
abbrev yC (a:YA) (t:TY):List E.Item:=
 [box a.sb 237 (kN a t),eI a.rA a.rc t.xs,kc t.xs,Dw a.pA a.pc t.bP,rB (some ⟨a.g,0,none⟩) a.gc t.du,E.dS 159 4 Sp.cells (some ⟨a.s,0,none⟩) a.sc t.aG,oP a.m (Mj t.nG)]
theorem r3{α:Type}{l:List α}{k x d}(h:l[k]?=some x):l.getD k d=x:=by rw [ar,h];rfl
theorem Lu{t:TY}{k x}(h:t.xs[k]?=some x):t.plain.dH[k]?=some x.r/\t.plain.dH.getD k default=x.r:=by
 grind [TY.plain,r3]
theorem M'{w l p}(h:l[l.length -1]?=some p):Gt w l=l.set (l.length -1) {p with jT:=w}:=by unfold Gt;rw [r3 h]
theorem KQ{w l p}(h:l[l.length -1]?=some p):rJ w l=l.set (l.length -1) {p with jT:=w}:=by unfold rJ;rw [r3 h]
abbrev Qc (a:YA) (t:TY) (k:Nat) (x:RX):List E.Item:=
 [eI a.rA a.rc t.xs,zO x.a.pA x.a.pc x.r.bV,uf x.a.lA x.a.lc x.r.db,Dw a.pA a.pc t.bP,rB (some ⟨a.g,0,none⟩) a.gc t.du,E.dS 159 4 Sp.cells (some ⟨a.s,0,none⟩) a.sc t.aG,box a.sb 237 (kN a t),jK ((t.xs.eraseIdx k).flatMap jV),oP a.m (Mj t.nG)]
section
variable {a:YA} {t:TY} {w0 w:World} {L:List E.Item} {n N k:Nat} {x:RX}
theorem I1 (h:Mem w0 (yC a t++L) w) (hx:t.xs[k]?=some x):Mem w0 (Qc a t k x++L) w:=by
 have h1:=h.oU 7 [2,0,1,3,4,5,6] (by decide) (by decide)
 have h2:=Mem.apart h1 hx
 exact h2.oU 9 [4,1,0,5,6,7,3,2,8] (by decide) (by decide)
theorem EM{m gs ps ss}(y)(hk:k<t.xs.length)(hg:gs.length=t.du.length)(hp:ps.length=t.bP.length)(hs:ss.length=t.aG.length)(h:Mem w0 ([eI a.rA a.rc (t.xs.set k y),zO y.a.pA y.a.pc y.r.bV,uf y.a.lA y.a.lc y.r.db,Dw a.pA a.pc ps,rB (some ⟨a.g,0,none⟩) a.gc gs,E.dS 159 4 Sp.cells (some ⟨a.s,0,none⟩) a.sc ss,box a.sb 237 (kN a t),jK ((t.xs.eraseIdx k).flatMap jV),oP a.m (Mj m)]++L) w):
  Mem w0 (yC a ⟨t.xs.set k y,m,gs,ps,ss⟩++L) w:=by
 have h1:=h.oU 9 [2,1,7,0,3,4,5,6,8] (by decide) (by decide)
 have h2:=Mem.MR (f:=jV) (y:=y) (xs:=t.xs) (k:=k) h1 hk
 have h3:=h2.oU 7 [5,1,0,2,3,4,6] (by decide) (by decide)
 have hc:kN a ⟨t.xs.set k y,m,gs,ps,ss⟩=kN a t:=by unfold kN;simp [hg,hp,hs]
 show Mem w0 ([box a.sb 237 (kN a ⟨t.xs.set k y,m,gs,ps,ss⟩),_,_,_,_,_,_]++L) w
 rw [hc]
 exact h3
theorem B6 (hI:WF n N t.plain):t.bP.length=t.xs.length/\t.du.length=n/\t.aG.length=n/\t.xs.length<=N:=by
 have h1:=hI.bP
 have h2:=hI.num
 simp [TY.plain] at h1 h2
 exact ⟨h1,hI.du,hI.aG,h2⟩
theorem Eo (hI:WF n N t.plain) (hx:t.xs[k]?=some x):0<x.r.db.length/\x.r.db.length<=N/\x.r.bV.length<=N/\(∀g∈x.r.db,0<=g.bq/\g.bq<n):=hI.db x.r (by unfold TY.plain;exact cW.2 ⟨x,aq hx,rfl⟩)
theorem FD(hw:Mem w0 (yC a t++L) w)(hmk:marks L=[])(hI:WF n N t.plain)(hN:N<=100000)(hk:k<t.xs.length)(hx:t.xs[k]?=some x)(wh):
  Calls Tryz.prog 190 #[.pointer (some ⟨a.sb,0,none⟩), .int .i64 k, .agg wh.cells.toArray] w λr w'=> ∃_:Unit,r= .returned (.tuple #[])/\Mem w0 (yC a ⟨t.xs.set k ⟨iG (t.bP.getD k false) wh x.r,x.a⟩,t.nG,t.du,t.bP.set k false,t.aG⟩++L) w':=by
 obtain ⟨hpl,_,_,_⟩:=B6 hI;obtain ⟨p,hp⟩: ∃p,t.bP[k]?=some p:=⟨_,ah (by omega)⟩;rw [r3 hp];have hw2:=I1 hw hx;have hlo:=Eo hI hx;obtain ⟨rb,hrb⟩:=fG (j:=0) hw2 rfl (by omega);obtain ⟨bb,hbb⟩:=fG (j:=3) hw2 rfl (by omega);have hcl:=λ(y:RX) (u:World)=>EM (a:=a) (t:=t) (w0:=w0) (w:=u) (L:=L) (m:=t.nG) (gs:=t.du) (ps:=t.bP.set k false) (ss:=t.aG) y hk rfl (by simp) rfl;obtain ⟨asb,arA,arc,am,ag,agc,apA,apc,as_,K2⟩:=a;simp only at hrb hbb;subst hrb;subst hbb;obtain ⟨⟨id,rider,start,end_,open_,db,bV,fw,fp,whr,pl⟩,⟨lA,lc,pA,pc⟩⟩:=x;simp only at hlo;refine gI hw2 hmk Tryz.func190 rfl Tryz.ntmps190 rfl ?_;refine GX ?_;refine cd (v:= .agg _) rfl rfl λb5=>?_;iterate 9 refine G0 ?_
 refine fI (cx k aT ba (q0 rfl) (q0 rfl) (λ_=>⟨rfl,hk⟩)) ?_;refine G0 ?_;refine fI (gB (v:= .slice pA bV.length pc) ql (q0 rfl) (by exact rr 1 (r:=8) rfl hx rfl)) ?_;iterate 11 refine G0 ?_
 refine fI (cx k Tryz.underlying86 gD (q0 rfl) (q0 rfl) (λ_=>⟨rfl,by omega⟩)) ?_;refine fI (gB (v:= .bool p) lP (q0 rfl) (by exact rQ 4 (k:=1) (enc:=KS) rfl hp rfl)) ?_;iterate 7 refine G0 ?_
 refine bD rfl ?_ ?_<;>intro hb
 ·have hb':p=true/\0<bV.length:=by simpa using hb
  obtain ⟨z,hz⟩: ∃z,bV[bV.length -1]?=some z:=⟨_,ah (by omega)⟩;have hres:iG p wh ⟨id,rider,start,end_,open_,db,bV,fw,fp,whr,pl⟩=⟨id,rider,start,end_,open_,db,bV.set (bV.length -1) {z with jT:=wh},fw,fp,whr,pl⟩:=by unfold iG;rw [aB hb',<-M' hz]
  rw [hres];refine gM (λw hw=>fG (j:=2) hw rfl hb'.2) λ⟨zb,hzb⟩=>?_;subst hzb;iterate 4 refine G0 ?_
  refine fI (rK (r:=((bV.length -1:Nat):Int)) (q0 rfl) (q0 rfl) (λ_=>⟨by omega,by omega,by omega⟩)) ?_;refine G0 ?_;refine fI (cx (bV.length -1) gq jf (q0 rfl) (q0 rfl) (λ_=>⟨rfl,by omega⟩)) ?_;refine G0 ?_;refine cQ (iw 2 (i:=bV.length -1) (off:=2) {z with jT:=wh} rfl rfl cz rfl rfl rfl hz rfl rfl ?_);refine GX ?_;refine cQ (eR 4 (k:=1) (enc:=KS) false rfl rfl gD rfl rfl rfl hp rfl rfl ?_);refine GX ?_;exact kr rfl hmk λw' hw=>⟨(),rfl,hcl ⟨⟨id,rider,start,end_,open_,db,bV.set (bV.length -1) {z with jT:=wh},fw,fp,whr,pl⟩,⟨lA,lc,some ⟨zb,0,none⟩,pc⟩⟩ w' (by
   unfold eI;rw [yE hx (by simp [RX.cells,Rd.AX])];exact hw.tail)⟩
 have hb': ¬(p=true/\0<bV.length):=by intro h;simp [h.1,h.2] at hb
 have hres:iG p wh ⟨id,rider,start,end_,open_,db,bV,fw,fp,whr,pl⟩=⟨id,rider,start,end_,open_,db,bV,fw,fp,whr,pl⟩:=by unfold iG;rw [an hb']
 rw [hres];refine GX ?_;refine cQ (eR 4 (k:=1) (enc:=KS) false rfl rfl gD rfl rfl rfl hp rfl rfl ?_);refine GX ?_;exact kr rfl hmk λw' hw=>⟨(),rfl,hcl ⟨⟨id,rider,start,end_,open_,db,bV,fw,fp,whr,pl⟩,⟨lA,lc,pA,pc⟩⟩ w' (by
  unfold eI;rw [yE hx rfl];exact hw.tail)⟩
end
end Go.Proofs.Rid
namespace Go.Proofs.Rid
open Go Go.RowKit Go.Proofs.E Go.Proofs.Cus
structure tq (w:World) (x:RX):Prop where
 db:eG w 5 Lg.cells x.a.lA x.r.db.length x.r.db
 bV:eG w 4 Pz.cells x.a.pA x.r.bV.length x.r.bV
theorem tq.mem{w0 w L x}(h:tq w0 x)(hm:Mem w0 L w):tq w x:=⟨h.db.mem hm,h.bV.mem hm⟩
def lZ (w:World) (A:Option Addr) (n:Nat) (xs:List RX):Prop:=eG w 13 RX.cells A n xs/\ ∀x∈xs,tq w x
theorem lZ.mem{w0 w L A n xs}(h:lZ w0 A n xs)(hm:Mem w0 L w):lZ w A n xs:=⟨h.1.mem hm,λx hx=>(h.2 x hx).mem hm⟩
theorem K1{w0 w L xs}(hw:Mem w0 L w){k:Nat}(hk:L[k]?=some (kc xs))(hl: ∀x∈xs,x.r.db.length<=100000/\x.r.bV.length<=100000): ∀x∈xs,tq w x:=λx hx=>by
 have h1:=(hw.front hk).uF
 have hm: ∀it∈jV x,it∈xs.flatMap jV++L.eraseIdx k:=λit hi=>bO.2 (.inl (iY.2 ⟨x,hx,hi⟩))
 obtain ⟨i,hi⟩:=cG.1 (hm (uf x.a.lA x.a.lc x.r.db) (by simp [jV]))
 obtain ⟨j,hj⟩:=cG.1 (hm (zO x.a.pA x.a.pc x.r.bV) (by simp [jV]))
 have:=hl x hx
 exact ⟨fB h1 hi (λ_=>rfl) (by omega),fB h1 hj (λ_=>rfl) (by omega)⟩
theorem yH{w0 w L A c xs}(hw:Mem w0 L w){j k:Nat}(hj:L[j]?=some (eI A c xs))(hk:L[k]?=some (kc xs))(hn:xs.length<=100000)(hl: ∀x∈xs,x.r.db.length<=100000/\x.r.bV.length<=100000):lZ w A xs.length xs:=
 ⟨fB hw hj (λ_=>rfl) (by omega),K1 hw hk hl⟩
theorem Jl(x y:yd)(w):(Op.equal 74 (.agg x.cells.toArray) (.agg y.cells.toArray)).run Tryz.prog w= .ok (decide (x=y)) w:=by
 have h:(Op.equalIn 10000 74 (.agg x.cells.toArray) (.agg y.cells.toArray)).run Tryz.prog w= .ok (x.lo==y.lo&&(x.hi==y.hi&&true)) w:=
  rI w eJ (by kernel_rfl) (fL w (by decide) (bQ w aj rfl) (bQ w aj rfl) (run_equalIn_int w _ _ .i64 .i64 _ _ av) (fL w (by decide) (bQ w aj rfl) (bQ w aj rfl) (run_equalIn_int w _ _ .i64 .i64 _ _ av) (oy w)))
 have e:(x.lo==y.lo&&(x.hi==y.hi&&true))=decide (x=y):=by
  rw [gQ]
  cases x;cases y
  simp
 rw [<-e];exact h
theorem vg(s w):Calls Tryz.prog 317 #[.agg s.cells.toArray] w λe w'=>e= .returned (.bool (sO s))/\fM w w':=by
 refine HF Tryz.func317 Tryz.ntmps317 ?_;refine cd (v:= .agg _) rfl rfl λb1=>?_;exact GW
theorem Mq(x w)(hx:tq w x):Calls Tryz.prog 264 #[.agg x.cells.toArray] w λe w'=>e= .returned (.bool (rY x.r))/\fM w w':=by
 obtain ⟨r,⟨lA,lc,pA,pc⟩⟩:=x;obtain ⟨hlg,hpz⟩:=hx;simp only at hlg hpz;have hln:=hlg.2.1;have hpn:=hpz.2.1;refine HF Tryz.func264 Tryz.ntmps264 ?_;refine cd (v:= .agg _) rfl rfl λb1=>?_;refine GX ?_;refine SG (eP ff cz (q1 rfl)) rfl rfl ?_;refine AE (en wb (iQ (q1 (v:= .agg _) rfl))) (λ_ w _=>vg r.start w) rfl rfl rfl rfl ?_;refine GX ?_;refine SG (eP ff cz (q1 rfl)) rfl rfl ?_;refine AE (en wb (iQ (q1 (v:= .agg _) rfl))) (λ_ w _=>vg r.end_ w) rfl rfl rfl rfl ?_;refine GD ?_ ?_<;>intro h1
 ·exact cu (v:= .bool _) rfl rfl rfl λw' hw=>⟨fK (by unfold rY;rw [show xI r=true from h1];rfl),hw.1⟩
 have hrg:rY r=(r.db.all F3&&r.bV.all BE):=by unfold rY;rw [show xI r=false from h1];rfl
 rw [hrg];refine GX ?_;refine la ([2,4]++rg 40 15) (λk:Nat=>[(40, .int .i64 k)]) (λ_=>[box b1 78 (RX.cells ⟨r,⟨lA,lc,pA,pc⟩⟩)]) (λk=>k<=r.db.length/\r.db.all F3=(r.db.drop k).all F3) (λk=>r.db.length -k) 0 ⟨bj _,rfl⟩ ?_;rintro k g ⟨hk,hall⟩;refine GD ?_ ?_<;>intro hlt
 ·have hlt':k<r.db.length:=by simpa using hlt
  obtain ⟨b,off,y,rfl,hbl,hy,hry⟩:=hlg.at_ hlt';rw [tT hy,sG] at hall;refine GX ?_;refine bS iS rfl λb4=>?_;refine dN (v:= .agg _) rfl rfl ij ?_;refine GX ?_;refine fI (eP ff cz (q0 rfl)) ?_;refine jx (en wb (iQ (q0 rfl))) (λ_ w _=>vg y.from_ w) ?_;refine GX ?_;refine SG (eP ff cz (q1 rfl)) rfl rfl ?_;refine AE (en wb (iQ (q1 (v:= .agg _) rfl))) (λ_ w _=>vg y.jT w) rfl rfl rfl rfl ?_;refine GD ?_ ?_<;>intro hb
  ·have hy0:F3 y=false:=by unfold F3;revert hb;cases sO y.from_<;>cases sO y.jT<;>simp
   rw [hall,hy0];exact GW
  have hy1:F3 y=true:=by unfold F3;revert hb;cases sO y.from_<;>cases sO y.jT<;>simp
  rw [hy1,p6] at hall;refine GX ?_;exact nc (k+1) (λw hw=>hw.tail) ⟨by omega,hall⟩
 have hend:k=r.db.length:=by simp at hlt;omega
 rw [hall,hend,kG,List.all_nil,p6];refine GX ?_;refine la ([2,6]++rg 58 15) (λk:Nat=>[(58, .int .i64 k)]) (λ_=>[box b1 78 (RX.cells ⟨r,⟨lA,lc,pA,pc⟩⟩)]) (λk=>k<=r.bV.length/\r.bV.all BE=(r.bV.drop k).all BE) (λk=>r.bV.length -k) 0 ⟨bj _,rfl⟩ ?_;rintro q g2 ⟨hq,hall2⟩;refine GD ?_ ?_<;>intro hlt2
 ·have hlt2':q<r.bV.length:=by simpa using hlt2
  obtain ⟨b,off,y,rfl,hbl,hy,hry⟩:=hpz.at_ hlt2';rw [tT hy,sG] at hall2;refine GX ?_;refine bS mh rfl λb6=>?_;refine dN (v:= .agg _) rfl rfl jf ?_;refine GX ?_;refine fI (eP ff cz (q0 rfl)) ?_;refine jx (en wb (iQ (q0 rfl))) (λ_ w _=>vg y.from_ w) ?_;refine GX ?_;refine SG (eP ff cz (q1 rfl)) rfl rfl ?_;refine AE (en wb (iQ (q1 (v:= .agg _) rfl))) (λ_ w _=>vg y.jT w) rfl rfl rfl rfl ?_;refine GD ?_ ?_<;>intro hb
  ·have hy0:BE y=false:=by unfold BE;revert hb;cases sO y.from_<;>cases sO y.jT<;>simp
   rw [hall2,hy0];exact GW
  have hy1:BE y=true:=by unfold BE;revert hb;cases sO y.from_<;>cases sO y.jT<;>simp
  rw [hy1,p6] at hall2;refine GX ?_;exact nc (q+1) (λw hw=>hw.tail) ⟨by omega,hall2⟩
 have hend2:q=r.bV.length:=by simp at hlt2;omega
 rw [hall2,hend2,kG,List.all_nil];exact GW
theorem MQ(x w)(hx:tq w x):Calls Tryz.prog 265 #[.agg x.cells.toArray] w λe w'=>e= .returned (.bool (tN x.r))/\fM w w':=by
 obtain ⟨r,⟨lA,lc,pA,pc⟩⟩:=x;obtain ⟨hlg,hpz⟩:=hx;simp only at hlg hpz;have hln:=hlg.2.1;have hpn:=hpz.2.1;refine HF Tryz.func265 Tryz.ntmps265 ?_;refine cd (v:= .agg _) rfl rfl λb1=>?_;refine GD ?_ ?_<;>intro h1
 ·exact cu (v:= .bool _) rfl rfl rfl λw' hw=>⟨fK (by unfold tN;rw [show El r=true from h1];rfl),hw.1⟩
 have hj:tN r=sf r.start r.db r.end_:=by unfold tN;rw [show El r=false from h1];rfl
 rw [hj];refine GX ?_;refine fI (eP ff cz (q0 rfl)) ?_;refine bS p4 rfl λb3=>?_;refine dN (v:= .agg _) rfl rfl cz ?_;refine GX ?_;refine la ([2,5]++rg 27 11) (λq:Nat×yd=>[(27, .int .i64 q.1)]) (λq=>[box b3 74 q.2.cells,box b1 78 (RX.cells ⟨r,⟨lA,lc,pA,pc⟩⟩)]) (λq=>q.1<=r.db.length/\sf r.start r.db r.end_=sf q.2 (r.db.drop q.1) r.end_) (λq=>r.db.length -q.1) (0,r.start) ⟨bj _,rfl⟩ ?_;rintro ⟨k,at_⟩ g ⟨hk,hall⟩;simp only at hk hall;refine GD ?_ ?_<;>intro hlt
 ·have hlt':k<r.db.length:=by simpa using hlt
  obtain ⟨b,off,y,rfl,hbl,hy,hry⟩:=hlg.at_ hlt';rw [tT hy] at hall;refine GX ?_;refine bS iS rfl λb5=>?_;refine dN (v:= .agg _) rfl rfl ij ?_;refine GX ?_;refine fI (eP ff cz (q0 rfl)) ?_;refine GX ?_;refine fI (Aa (λw=>Jl y.from_ at_ w) (by kernel_rfl) (q0 rfl) (q0 rfl)) ?_;refine GD ?_ ?_<;>intro hb
  ·have hne:decide (y.from_=at_)=false:=by simpa using hb
   have hfin:sf at_ (y::r.db.drop (k+1)) r.end_=false:=by simp only [sf,hne,Bool.false_and]
   rw [hall,hfin];exact GW
  have heq:decide (y.from_=at_)=true:=by simpa using hb
  have hfin:sf at_ (y::r.db.drop (k+1)) r.end_=sf y.jT (r.db.drop (k+1)) r.end_:=by simp only [sf,heq,p6]
  rw [hfin] at hall;refine GX ?_;refine fI (eP ff cz (q0 rfl)) ?_;refine dN (v:= .agg _) rfl rfl cz ?_;refine GX ?_;exact nc (k+1,y.jT) (λw hw=>hw.tail) ⟨by show k+1<=_;omega,hall⟩
 have hend:k=r.db.length:=by simp at hlt;omega
 rw [hend,kG] at hall;rw [hall];refine GX ?_;refine fI (eP ff cz (q0 rfl)) ?_;refine fI (Dr (λw=>Jl at_ r.end_ w) (by kernel_rfl) (q0 rfl) (q0 rfl)) ?_;exact GW
theorem o8(x w)(hx:tq w x)(hl:x.r.db.length<=1000000)(hp:x.r.bV.length<=1000000):Calls Tryz.prog 266 #[.agg x.cells.toArray] w λe w'=>e= .returned (.bool (rm x.r))/\fM w w':=by
 obtain ⟨r,⟨lA,lc,pA,pc⟩⟩:=x;obtain ⟨hlg,hpz⟩:=hx;simp only at hlg hpz hl hp;refine HF Tryz.func266 Tryz.ntmps266 ?_;refine cd (v:= .agg _) rfl rfl λb1=>?_;refine GX ?_;refine la ([2,3,4]++rg 11 26) (λk:Nat=>[(11, .int .i64 k)]) (λ_=>[box b1 78 (RX.cells ⟨r,⟨lA,lc,pA,pc⟩⟩)]) (λk=>k<=r.db.length/\tM r.open_ r.db=tM r.open_ (r.db.drop k)) (λk=>r.db.length -k) 0 ⟨bj _,rfl⟩ ?_;rintro k g ⟨hk,hall⟩;refine GD ?_ ?_<;>intro hlt
 ·have hlt':k<r.db.length:=by simpa using hlt
  obtain ⟨b,off,y,rfl,hbl,hy,hry⟩:=hlg.at_ hlt';rw [tT hy] at hall;have hst:tM r.open_ (y::r.db.drop (k+1))=(!(decide (y.jT.lo<y.from_.lo)&&!(r.open_&&decide ((k:Int)=(r.db.length:Int) -1)))&&tM r.open_ (r.db.drop (k+1))):=by simp only [tM,Cs hlt']
  rw [hst] at hall;refine GX ?_;refine bS iS rfl λb4=>?_;refine GX ?_;refine dN (v:= .agg _) rfl rfl ij ?_;refine XN ?_;refine ad ?_;refine ak ?_;refine R0 ?_;refine xV (az iA rfl cz rfl (q0 rfl)) rfl rfl ?_;refine xV (az eJ rfl ae rfl (q0 rfl)) rfl rfl ?_;refine xV (eL aj (q0 rfl)) rfl rfl ?_;refine xV (az iA rfl cz rfl (q0 rfl)) rfl rfl ?_;refine xV (az eJ rfl ae rfl (q0 rfl)) rfl rfl ?_;refine xV (eL aj (q0 rfl)) rfl rfl ?_;refine xV (uY (q0 rfl) (q0 rfl)) rfl rfl ?_;refine xV (ay (v:= .bool _) (q0 rfl)) rfl rfl ?_;refine dJ (az bE rfl gD rfl (q0 rfl)) rfl rfl rfl rfl ?_;refine dJ (eL lP (q1 rfl)) rfl rfl rfl rfl ?_;refine dJ (ay (v:= .bool _) (q1 rfl)) rfl rfl rfl rfl ?_;refine mq (ay (v:= .int _ _) (q0 rfl)) rfl rfl rfl rfl ?_;refine mq (az bE rfl qM rfl (q0 rfl)) rfl rfl rfl rfl ?_;refine mq (eL qm (q1 rfl)) rfl rfl rfl rfl ?_;refine mq (dw eU (q1 rfl)) rfl rfl rfl rfl ?_;refine K9 (rK (q1 rfl) (q0 rfl) (λ_=>⟨rfl,by simp only;omega,by simp only;omega⟩)) rfl rfl ?_;refine GD ?_ ?_<;>intro hb
  ·have hord:rm r=false:=by
    unfold rm;rw [hall,show (decide (y.jT.lo<y.from_.lo)&&!(r.open_&&decide ((k:Int)=(r.db.length:Int) -1)))=true from hb];rfl
   rw [hord];exact GW
  rw [show (decide (y.jT.lo<y.from_.lo)&&!(r.open_&&decide ((k:Int)=(r.db.length:Int) -1)))=false from hb,Bool.not_false,p6] at hall;refine GX ?_;exact nc (k+1) (λw hw=>hw.tail) ⟨by omega,hall⟩
 have hend:k=r.db.length:=by simp at hlt;omega
 rw [hend,kG] at hall;have hord:rm r=BD r.open_ r.bV.length r.end_.lo r.start.lo r.bV:=by unfold rm;rw [hall];rfl
 rw [hord];refine GX ?_;refine la ([2,5,6,7]++rg 43 38) (λq:Nat×Int=>[(43, .int .i64 q.1),(5, .int .i64 q.2)]) (λ_=>[box b1 78 (RX.cells ⟨r,⟨lA,lc,pA,pc⟩⟩)]) (λq=>q.1<=r.bV.length/\BD r.open_ r.bV.length r.end_.lo r.start.lo r.bV=BD r.open_ r.bV.length r.end_.lo q.2 (r.bV.drop q.1)) (λq=>r.bV.length -q.1) (0,r.start.lo) ⟨bj _,rfl⟩ ?_;rintro ⟨q,last⟩ g2 ⟨hq,hall2⟩;simp only at hq hall2;refine GD ?_ ?_<;>intro hlt2
 ·have hlt2':q<r.bV.length:=by simpa using hlt2
  obtain ⟨b,off,y,rfl,hbl,hy,hry⟩:=hpz.at_ hlt2';rw [tT hy] at hall2;have hem:=Cs hlt2';simp only [BD,hem] at hall2;refine GX ?_;refine bS mh rfl λb7=>?_;refine GX ?_;refine dN (v:= .agg _) rfl rfl jf ?_;refine GD ?_ ?_<;>intro hb1
  ·rw [aB (by simpa using hb1)] at hall2;rw [hall2];exact GW
  rw [an (by simpa using hb1)] at hall2;refine GX ?_;refine xh (rK (q1 rfl) (q0 rfl) (λ_=>⟨rfl,by simp only;omega,by simp only;omega⟩)) rfl rfl ?_;refine GD ?_ ?_<;>intro hb2
  ·rw [aB hb2] at hall2;rw [hall2];exact GW
  rw [an (by rw [show _=false from hb2];decide)] at hall2;refine GD ?_ ?_<;>intro hb3
  ·rw [aB (by simpa using hb3)] at hall2;rw [hall2];exact GW
  rw [an (by simpa using hb3)] at hall2;refine GX ?_;exact nc (q+1,y.jT.lo) (λw hw=>hw.tail) ⟨by show q+1<=_;omega,hall2⟩
 have hend2:q=r.bV.length:=by simp at hlt2;omega
 rw [hend2,kG] at hall2;simp only [BD] at hall2;rw [hall2];exact GW
attribute [local irreducible] rY tN rm
theorem xB(x w)(hx:tq w x)(hl:x.r.db.length<=1000000)(hp:x.r.bV.length<=1000000):Calls Tryz.prog 193 #[.agg x.cells.toArray] w λe w'=>e= .returned (.int .i64 (eF x.r))/\fM w w':=by
 have hxw:=hx;obtain ⟨r,ra⟩:=x;simp only at hl hp;refine HF Tryz.func193 Tryz.ntmps193 ?_;refine cd (v:= .agg _) rfl rfl λb1=>?_;refine GX ?_;refine jx (en Tryz.call264 (iQ (q0 rfl))) (λ_ w hw=>Mq ⟨r,ra⟩ w (hx.mem hw)) ?_;refine GD ?_ ?_<;>intro h1
 ·have hc:eF r=1:=by unfold eF;rw [aB h1]
  rw [hc];exact GW
 refine GX ?_;refine jx (en Tryz.call265 (iQ (q0 rfl))) (λ_ w hw=>MQ ⟨r,ra⟩ w (hx.mem hw)) ?_;refine GD ?_ ?_<;>intro h2
 ·have hc:eF r=3:=by unfold eF;rw [an (by rw [h1];decide),aB h2]
  rw [hc];exact GW
 refine GX ?_;refine jx (en Tryz.call266 (iQ (q0 rfl))) (λ_ w hw=>o8 ⟨r,ra⟩ w (hx.mem hw) hl hp) ?_;refine GD ?_ ?_<;>intro h3
 ·have hc:eF r=9:=by unfold eF;rw [an (by rw [h1];decide),an (by rw [h2];decide),aB h3]
  rw [hc];exact GW
 refine GX ?_;refine xh (eP ff cz (q1 rfl)) rfl rfl ?_;refine xh (gj.any (bN eJ Ph p4 E.p0 rfl)) rfl rfl ?_;refine xh (Aa (λw=>Jl r.end_ uD w) (by kernel_rfl) (q1 rfl) (q1 rfl)) rfl rfl ?_;refine GD ?_ ?_<;>intro h4
 ·have hc:eF r=12:=by unfold eF;rw [an (by rw [h1];decide),an (by rw [h2];decide),an (by rw [h3];decide),aB h4]
  rw [hc];refine GD ?_ ?_<;>intro h5
  ·exact GW
  rw [h4] at h5;cases h5
 refine GX ?_;refine fI (TM iM (q0 rfl) (q0 rfl)) ?_;refine GD ?_ ?_<;>intro h5
 ·have hc:eF r=12:=by unfold eF;rw [an (by rw [h1];decide),an (by rw [h2];decide),an (by rw [h3];decide),an (by rw [show _=false from h4];decide),aB h5]
  rw [hc];exact GW
 have hc:eF r=0:=by unfold eF;rw [an (by rw [h1];decide),an (by rw [h2];decide),an (by rw [h3];decide),an (by rw [show _=false from h4];decide),an (by rw [show _=false from h5];decide)]
 rw [hc];exact GW
end Go.Proofs.Rid
