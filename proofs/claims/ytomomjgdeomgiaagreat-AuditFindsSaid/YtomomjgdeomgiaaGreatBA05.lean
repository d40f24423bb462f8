import Derived.Test.YtomomjgdeomgiaaGreatBA04
set_option maxRecDepth 100000
set_option maxHeartbeats 8000000
set_option linter.all false
namespace Go.Proofs.Far
open Go Go.RowKit Go.Proofs.E Go.Proofs.Cus
theorem nU.any{l}(h:nU l):(l.any λx=>!Ap x)=false:=by
 grind [nU,Ap]
theorem nU.perm{l m}(h:nU l)(hp:m.Perm l):nU m:=λx hx=>h x (hp.mem_iff.1 hx)
theorem BW{out z x}(h:out[out.length -1]?=some z)(hx: ¬x.lo=x.hi)(hz:x.lo<=z.hi):ja out x=out.set (out.length -1) {z with hi:=max z.hi x.hi}:=by
 unfold ja
 rw [an hx]
 rcases List.eq_nil_or_concat out with rfl|⟨l,q,rfl⟩
 ·cases h
 grind
theorem zR{out z x}(h:out[out.length -1]?=some z)(hx: ¬x.lo=x.hi)(hz: ¬x.lo<=z.hi):ja out x=out++[x]:=by
 grind [ja]
theorem FY{x}(hx: ¬x.lo=x.hi):ja [] x=[x]:=by
 unfold ja;rw [an hx];rfl
theorem BV{out x}(hx:x.lo=x.hi):ja out x=out:=by
 unfold ja;rw [aB hx]
def fm (l:List Wn) (k:Nat):List Wn:=(l.take k).foldl ja []
theorem Pf{l k x}(h:l[k]?=some x):fm l (k+1)=ja (fm l k) x:=by
 unfold fm
 rw [oT _ _ _ h,fX];rfl
theorem Ru(l k):(fm l k).length<=k:=by
 grind [fm,Cj]
attribute [local irreducible] ja
theorem DQ(A n c xs w)(hx:ug w A n xs)(hn:n<=10000)(hv:nU xs):Calls Tryz.prog 327 #[.slice A n c] w λe w'=> ∃z:Option Addr×Nat,e= .returned (.tuple #[.slice z.1 (ic xs).length z.2, .int .i64 0])/\Mem w [gw z.1 z.2 (ic xs)] w':=by
 have hl:=hx.1;refine HF Tryz.func327 Tryz.ntmps327 ?_;refine cQ (kz (i:=Tryz.t83) (k:=2) (n:=n) (m:=n) Wn.cells (⟨0,0⟩:Wn) bW (by kernel_rfl) rfl rfl rfl rfl rfl ⟨⟨bA _,by omega⟩,by decide⟩ rfl λb11=>?_);refine GX ?_;refine cQ (RB (k:=2) (i:=Tryz.t83) (enc:=Wn.cells) 0 bW (by kernel_rfl) rfl (λ_=>rfl) (λ_=>rfl) rfl rfl rfl rfl (by simp) (λw hw=>hx.mem hw) rfl ?_);refine GX ?_;refine jx (en Tryz.call361 (jn (q0 rfl) (q0 rfl))) (λ_ w hw=>E' (some ⟨b11,0,none⟩) n n xs w (hl▸fB hw (j:=0) rfl (λ_=>rfl) (by omega)))<|GD ?_ ?_<;>intro h1
 ·exfalso;rw [hv.any] at h1;cases h1
 refine GX ?_;refine cQ (dD (en Tryz.call364 (jn (q0 rfl) (q0 rfl))) (λw hw=>Lw hw (j:=0) hl rfl (by omega)) rfl (λ_=>rfl) λs=>?_);obtain ⟨ys,hys,hso⟩:=s;have hyn:wx ys=ic xs:=MH hv.le hys (J9 hso);have hyv:nU ys:=hv.perm hys;have hyl:ys.length=n:=by rw [hys.length_eq,hl]
 have hfull:fm ys n=ic xs:=by rw [<-hyn];unfold fm wx;rw [bo (by omega)]
 refine GX ?_;refine jb (L':=[gw none 0 [],gw (some ⟨b11,0,none⟩) n ys]) (λw hw=>hw.fY 83 2 Wn.cells rfl) rfl<|GX ?_;refine la ([5,7,8]++rg 21 43) (λq:Nat×Option Addr×Nat=>[(21, .int .i64 q.1),(5, .slice q.2.1 (fm ys q.1).length q.2.2)]) (λq=>[gw q.2.1 q.2.2 (fm ys q.1),gw (some ⟨b11,0,none⟩) n ys]) (λq=>q.1<=n) (λq=>n -q.1) (0,none,0) (bj _) ?_;rintro ⟨k,oA,oc⟩ g hk;simp only at hk;refine GD ?_ ?_<;>intro hlt
 ·have hlt':k<n:=by simpa using hlt
  obtain ⟨x,hxk⟩: ∃x,ys[k]?=some x:=⟨_,ah (by omega)⟩;have hfs:=Pf hxk;have hfl:=Ru ys k;have hxv:=hyv x (aq hxk);refine GX ?_;refine bS cS rfl λb7=>dN (v:= .agg _) rfl rfl bK ?_;refine GX ?_;refine fI (rK (r:=((fm ys k).length:Int) -1) (q0 rfl) (q0 rfl) (λ_=>⟨rfl,by omega,by omega⟩))<|GD ?_ ?_<;>intro h2
  ·have h2':x.lo=x.hi:=by simpa using h2
   refine GX ?_;refine aH (k+1,oA,oc) lg ⟨rfl,by rw [hfs,BV h2'];rfl,trivial⟩ (λw hw=>by rw [hfs,BV h2'];exact hw.tail) rfl (by show k+1<=n;omega) (by show n -(k+1)<n -k;omega)
  have h2': ¬x.lo=x.hi:=by simpa using h2
  rcases ga (fm ys k).length with h0|h0
  ·have h00:fm ys k=[]:=dR h0;rw [h00];rw [h00,FY h2'] at hfs;refine GX ?_;refine vS<|GX ?_;refine xh (cO (v:= .pointer none) (by decide)) rfl rfl<|xh (cO (v:= .pointer none) (by decide)) rfl rfl<|xh (cO (v:= .int .i64 0) (by decide)) rfl rfl<|xh (cO (v:= .bool false) (by decide)) rfl rfl<|GD ?_ ?_<;>intro h3
   ·exfalso;simp at h3
   refine GX ?_;refine gN (k:=2) (i:=Tryz.t83) 1 (x) bW (by kernel_rfl) rfl rfl rfl rfl bK cS rfl rfl rfl rfl rfl rfl ⟨by simp,by decide⟩ rfl rfl λB0 A1 c1=>GX ?_;refine aH (k+1,A1,c1) lg ⟨rfl,by rw [hfs];rfl,trivial⟩ (λw hw=>by rw [hfs];exact hw.tail) rfl (by show k+1<=n;omega) (by show n -(k+1)<n -k;omega)
  obtain ⟨z,hz⟩: ∃z,(fm ys k)[(fm ys k).length -1]?=some z:=⟨_,ah (by omega)⟩;refine gM (λw hw=>fG (j:=1) hw rfl h0) λ⟨q,hq⟩=>?_;subst hq;refine GX ?_;refine vS<|GX ?_;refine xh (cx ((fm ys k).length -1) bW bK (q1 rfl) (q1 rfl) (λ_=>⟨by first|omega|(simp only;omega),by first|omega|(simp only;omega)⟩)) rfl rfl<|GD ?_ ?_<;>intro h3
  ·have h3':x.lo<=z.hi:=by simp at h3;omega
   refine E.RT rfl rfl (by decide+kernel)<|GX ?_;refine fI (cx ((fm ys k).length -1) bW bK (q0 rfl) (q0 rfl) (λ_=>⟨by first|omega|(simp only;omega),by first|omega|(simp only;omega)⟩))<|GX ?_;refine fI (uX (q0 rfl) (q0 rfl))<|fI (cx ((fm ys k).length -1) bW bK (q0 rfl) (q0 rfl) (λ_=>⟨by first|omega|(simp only;omega),by first|omega|(simp only;omega)⟩))<|GX ?_;refine cQ (iw 1 (i:=(fm ys k).length -1) (off:=1) {z with hi:=max z.hi x.hi} rfl rfl ae rfl rfl rfl hz rfl rfl ?_);refine GX ?_;refine aH (k+1,_,oc) lg ⟨rfl,by rw [hfs,BW hz h2' h3',gP];rfl,trivial⟩ (λw hw=>by rw [hfs,BW hz h2' h3'];exact hw.tail) rfl (by show k+1<=n;omega) (by show n -(k+1)<n -k;omega)
  have h3': ¬x.lo<=z.hi:=by simp at h3;omega
  refine GX ?_;refine gN (k:=2) (i:=Tryz.t83) 1 (x) bW (by kernel_rfl) rfl rfl rfl rfl bK cS rfl rfl rfl rfl rfl rfl ⟨by simp only;omega,by decide⟩ rfl rfl λB0 A1 c1=>GX ?_;refine aH (k+1,A1,c1) lg ⟨rfl,by rw [hfs,zR hz h2' h3'];rfl,trivial⟩ (λw hw=>by rw [hfs,zR hz h2' h3'];exact hw.tail) rfl (by show k+1<=n;omega) (by show n -(k+1)<n -k;omega)
 have hend:k=n:=by simp at hlt;omega
 subst hend;rw [hfull];refine GX ?_;exact jr (v:= .slice _ _ _) (x:= .int _ _) rfl rfl rfl rfl λw' hw=>⟨(oA,oc),rfl,hw.pick [0] (by decide)⟩
end Go.Proofs.Far
namespace Go.Proofs.Far
open Go Go.RowKit Go.Proofs.E Go.Proofs.Cus
def bY (A:Option Addr):Nat:=(A.map (·.block)).getD 0
theorem Oe{w0 w L}{i c:Nat}{A ys}(hw:Mem w0 L w)(hk:L[i]?=some (gw A c ys)):(0<ys.length->A=some ⟨bY A,0+0*2,none⟩)/\ys.length<=c:=by
 refine ⟨λh=>?_,(kP hw hk).1⟩;obtain ⟨b,rfl⟩:=fG hw hk h;rfl
theorem we{w0 w L}{i c j r:Nat}{A ys y v}(hw:Mem w0 L w)(hk:L[i]?=some (gw A c ys))(hy:ys[j]?=some y)(hv:y.cells[r]?=some v):w.cell? ⟨bY A,0+j*2+r,none⟩=some v:=by
 obtain ⟨b,rfl⟩:=fG hw hk (by have:=(ai.1 hy).1;omega)
 have:=xu (k:=2) (λ_=>rfl) hw hk hy hv
 rw [fq]
 exact this
theorem Ib{b j c m}(h:j+1<m)(hc:m<=c):k9 (some ⟨b,0+j*2,none⟩) (c -j) 1 2=some ⟨b,0+(j+1)*2,none⟩:=by
 unfold k9
 have: ¬c -j -1=0:=by omega
 have h2: ¬c -j=1:=by omega
 simp [this,h2,Addr.add,uj]
theorem NG(A n c xs B m d ys w)(hx:ug w A n xs)(hy:ug w B m ys)(hn:n<=10000)(hm:m<=10000)(hxv:nU xs)(hyv:nU ys):Calls Tryz.prog 360 #[.slice A n c, .slice B m d] w λe w'=> ∃z:(Option Addr×Nat)×(Option Addr×Nat),e= .returned (.tuple #[.slice z.1.1 (ic xs).length z.1.2, .slice z.2.1 (ic ys).length z.2.2, .int .i64 0])/\Mem w [gw z.2.1 z.2.2 (ic ys),gw z.1.1 z.1.2 (ic xs)] w':=by
 refine HF Tryz.func360 Tryz.ntmps360 ?_;refine oD (en Sw (iQ (q0 rfl))) (λw hw=>DQ A n c xs w (hx.mem hw) hn hxv) rfl (λ_=>rfl) λz1=>GD ?_ ?_<;>intro h1
 ·exfalso;simp at h1
 refine GX ?_;refine oD (en Sw (iQ (q0 rfl))) (λw hw=>DQ B m d ys w (hy.mem hw) hm hyv) rfl (λ_=>rfl) λz2=>GD ?_ ?_<;>intro h2
 ·exfalso;simp at h2
 refine GX ?_;exact S6 (v:= .slice _ _ _) (x:= .slice _ _ _) (z:= .int _ _) rfl rfl rfl rfl rfl λw' hw=>⟨(z1,z2),rfl,hw⟩
def cT (x:Wn) (Y:List Wn) (i j:Nat):List Wn:=if i=0 then (Y.take j).flatMap (tU x) else Y.flatMap (tU x)
theorem Jw{x y Y j}(hy:Y[j]?=some y):cT x Y 0 (j+1)=cT x Y 0 j++tU x y:=by
 unfold cT
 rw [aB rfl,aB rfl,oT _ _ _ hy,jY];simp
theorem PN{x y Y j}(hY:Nf Y)(hy:Y[j]?=some y)(h:x.hi<y.hi):cT x Y 1 j=cT x Y 0 j++tU x y:=by
 rw [<-Jw hy]
 unfold cT
 rw [an (by decide),aB rfl]
 conv=>lhs;rw [<-gg (j+1) Y]
 rw [jY]
 have:(Y.drop (j+1)).flatMap (tU x)=[]:=by
  rw [gh]
  intro q hq
  have hd:=(hY.drop j)
  rw [drop_at hy] at hd
  have h1:=(bB.1 hd.apart).1 q hq
  unfold tU
  rw [an (by omega)]
 rw [this,bF]
theorem RO(x Y i j):(cT x Y i j).length<=Y.length:=by
 have key: ∀l:List Wn,(l.flatMap (tU x)).length<=l.length:=by
  intro l
  induction l with
  |nil=>simp
  |cons a l ih=>
   rw [nj,aQ,cL]
   have:(tU x a).length<=1:=by unfold tU;split<;>simp
   omega
 unfold cT
 split
 ·have:=key (Y.take j);rw [dG] at this;omega
 exact key Y
theorem Ic{x}(Y)(h: ¬x.lo=x.hi):nA x Y=Y.flatMap (tU x):=by
 unfold nA one;rw [an h];simp
theorem GI{x}(Y)(h:x.lo=x.hi):nA x Y=[]:=by
 unfold nA one;rw [aB h];rfl
attribute [local irreducible] cT
theorem Nu(A c x B m d ys w)(hx:ug w A 1 [x])(hy:ug w B m ys)(hm:m<=10000)(hxv:0<=x.lo/\x.lo<=x.hi/\x.hi<=4294944000)(hyv:nU ys):Calls Tryz.prog 325 #[.slice A 1 c, .slice B m d] w λe w'=> ∃z:Option Addr×Nat,e= .returned (.tuple #[.slice z.1 (nA x (ic ys)).length z.2, .int .i64 0])/\Mem w [gw z.1 z.2 (nA x (ic ys))] w':=by
 have hul:=sI ys;have hyl:=hy.1;have hYn:=(xj hyv.le).1;refine HF Tryz.func325 Tryz.ntmps325 ?_;refine oD (en Tryz.call360 (jn (q0 rfl) (q0 rfl))) (λw hw=>NG A 1 c [x] B m d ys w (hx.mem hw) (hy.mem hw) (by decide) hm (nU.one hxv) hyv) rfl (λ_=>rfl) λz=>?_;rw [CX];obtain ⟨⟨xA,xc⟩,⟨yA,yc⟩⟩:=z;generalize hY:ic ys=Y at*;refine GD ?_ ?_<;>intro h1
 ·exfalso;simp at h1
 refine GX ?_;refine gM (λw hw=>Oe hw (i:=0) rfl) λ⟨hyA,hyc⟩=>?_;refine gM (λw hw=>Oe hw (i:=1) rfl) λ⟨hxA,hxc⟩=>?_;refine jb (L':=[gw none 0 [],gw yA yc Y,gw xA xc (one x)]) (λw hw=>hw.fY 83 2 Wn.cells rfl) rfl<|GX ?_;refine ef ([6,7,9,10]++rg 21 49) (λq:Nat×Nat×Option Addr×Option Addr×Option Addr×Nat=>[(6, .slice q.2.2.1 ((one x).length -q.1) (xc -q.1)),(7, .slice q.2.2.2.1 (Y.length -q.2.1) (yc -q.2.1)),(9, .slice q.2.2.2.2.1 (cT x Y q.1 q.2.1).length q.2.2.2.2.2)]) (λq=>[gw q.2.2.2.2.1 q.2.2.2.2.2 (cT x Y q.1 q.2.1),gw yA yc Y,gw xA xc (one x)]) (λq=>(q.1<=(one x).length/\q.2.1<=Y.length)/\(q.1<(one x).length->q.2.2.1=some ⟨bY xA,0+q.1*2,none⟩)/\(q.2.1<Y.length->q.2.2.2.1=some ⟨bY yA,0+q.2.1*2,none⟩)/\(x.lo=x.hi->q.2.1=0)) (λq=>((one x).length -q.1)+(Y.length -q.2.1)) (0,0,xA,yA,none,0) ⟨rfl,rfl,by unfold cT;rfl,trivial⟩ (λw hw=>by unfold cT;exact hw) rfl ⟨⟨bj _,bj _⟩,hxA,hyA,λ_=>rfl⟩ ?_;rintro ⟨i,j,aX,aY,oA,oc⟩ g ⟨⟨hi,hj⟩,hax,hay,hjz⟩;simp only at hi hj hax hay hjz;have hcl:=RO x Y i j;refine GD ?_ ?_<;>intro hlt
 ·have hlt':i<(one x).length/\j<Y.length:=by
   have h:(decide ((0:Int)<(((one x).length -i:Nat):Int))&&decide ((0:Int)<((Y.length -j:Nat):Int)))=true:=hlt;simp at h;omega
  have hone:(one x).length=1/\one x=[x]/\x.lo≠x.hi:=by
   unfold one at hlt'|-;split at hlt'<;>rename_i he
   ·simp at hlt'
   rw [an he];exact ⟨rfl,rfl,he⟩
  have hi0:i=0:=by omega
  subst hi0;obtain ⟨y,hyj⟩: ∃y,Y[j]?=some y:=⟨_,ah hlt'.2⟩;have hax':=hax hlt'.1;have hay':=hay hlt'.2;subst hax' hay';have hxj:(one x)[0]?=some x:=by rw [hone.2.1];rfl
  have hst:=Jw (x:=x) hyj;have hdn:=PN (x:=x) hYn hyj;refine GX ?_;refine JR<|aW 0 ?_;refine mG 1 rfl (cx 0 bW bK (q0 rfl) (q0 rfl) (λ_=>⟨rfl,by show 0<(one x).length -0;omega⟩))<|aW 2 ?_;refine mG 3 rfl (gB (v:= .int .i64 x.lo) aj (q0 rfl) (λ_ w hw=>we (r:=0) hw (i:=2) rfl hxj rfl))<|aW 4 ?_;refine mG 5 rfl (cx 0 bW bK (q0 rfl) (q0 rfl) (λ_=>⟨rfl,by show 0<Y.length -j;omega⟩))<|aW 6 ?_;refine mG 7 rfl (gB (v:= .int .i64 y.lo) aj (q0 rfl) (λ_ w hw=>we (r:=0) hw (i:=1) rfl hyj rfl))<|mG 8 rfl (uX (q0 rfl) (q0 rfl))<|aW 9 ?_;refine mG 10 rfl (cx 0 bW bK (q0 rfl) (q0 rfl) (λ_=>⟨rfl,by show 0<(one x).length -0;omega⟩))<|aW 11 ?_;refine mG 12 rfl (gB (v:= .int .i64 x.hi) aj (q0 rfl) (λ_ w hw=>we (r:=1) hw (i:=2) rfl hxj rfl))<|aW 13 ?_;refine mG 14 rfl (cx 0 bW bK (q0 rfl) (q0 rfl) (λ_=>⟨rfl,by show 0<Y.length -j;omega⟩))<|aW 15 ?_;refine mG 16 rfl (gB (v:= .int .i64 y.hi) aj (q0 rfl) (λ_ w hw=>we (r:=1) hw (i:=1) rfl hyj rfl))<|mG 17 rfl (EH (q0 rfl) (q0 rfl))<|mG 18 rfl (bN bL yZ cS (pt (v:= .int _ _) rfl (pt (v:= .int _ _) rfl E.p0)) rfl)<|r1 19 0 ?_;refine aL rfl (mO cS rfl λb10=>?_);refine r1 20 1 ?_;refine aL rfl (mB (v:= .agg _) rfl rfl bK ?_);refine qE 1 ?_;refine GD ?_ ?_<;>intro h3
  ·have h3':tU x y=[⟨max x.lo y.lo,min x.hi y.hi⟩]:=by
    have:max x.lo y.lo<min x.hi y.hi:=cC h3;unfold tU;rw [aB this]
   rw [h3'] at hst hdn;refine GX ?_;refine gN (k:=2) (i:=Tryz.t83) 1 (⟨max x.lo y.lo,min x.hi y.hi⟩) bW (by kernel_rfl) rfl rfl rfl rfl bK cS rfl rfl rfl rfl rfl rfl ⟨by simp only;omega,by decide⟩ rfl rfl λB0 A1 c1=>GX ?_;refine vS<|GX ?_;refine fI (cx 0 bW bK (q0 rfl) (q0 rfl) (λ_=>⟨rfl,by show 0<(one x).length -0;omega⟩))<|GX ?_;refine fI (gB (v:= .int .i64 x.hi) aj (q0 rfl) (λ_ w hw=>we (r:=1) hw (i:=3) rfl hxj rfl))<|GX ?_;refine fI (cx 0 bW bK (q0 rfl) (q0 rfl) (λ_=>⟨rfl,by show 0<Y.length -j;omega⟩))<|GX ?_;refine fI (gB (v:= .int .i64 y.hi) aj (q0 rfl) (λ_ w hw=>we (r:=1) hw (i:=2) rfl hyj rfl))<|GD ?_ ?_<;>intro h4
   ·have h4':x.hi<y.hi:=cC h4;have hdn':=hdn h4';refine GX ?_;refine fI (qD 1 bW bK (q0 rfl) (q0 rfl) (λ_=>⟨rfl,by show 1<=(one x).length -0;omega⟩))<|GX ?_;refine aH (1,j,k9 (some ⟨bY xA,0+0*2,none⟩) (xc -0) 1 2,some ⟨bY yA,0+j*2,none⟩,A1,c1) lg ⟨rfl,rfl,by rw [hdn'];rfl,trivial⟩ (λw hw=>by rw [hdn'];exact hw.tail) rfl ⟨⟨by simp only;omega,by simp only;omega⟩,λh=>by simp only at h;omega,λ_=>rfl,λh=>absurd h hone.2.2⟩ (by simp only;omega)
   refine GX ?_;refine fI (qD 1 bW bK (q0 rfl) (q0 rfl) (λ_=>⟨rfl,by show 1<=Y.length -j;omega⟩))<|GX ?_;refine aH (0,j+1,some ⟨bY xA,0+0*2,none⟩,k9 (some ⟨bY yA,0+j*2,none⟩) (yc -j) 1 2,A1,c1) lg ⟨rfl,rfl,by rw [hst];rfl,trivial⟩ (λw hw=>by rw [hst];exact hw.tail) rfl ⟨⟨by simp only;omega,by simp only;omega⟩,λ_=>rfl,λh=>Ib h hyc,λh=>absurd h hone.2.2⟩ (by simp only;omega)
  have h3':tU x y=[]:=by
   have: ¬max x.lo y.lo<min x.hi y.hi:=dB h3;unfold tU;rw [an this]
  rw [h3',bF] at hst hdn;refine GX ?_;refine vS<|GX ?_;refine fI (cx 0 bW bK (q0 rfl) (q0 rfl) (λ_=>⟨rfl,by show 0<(one x).length -0;omega⟩))<|GX ?_;refine fI (gB (v:= .int .i64 x.hi) aj (q0 rfl) (λ_ w hw=>we (r:=1) hw (i:=3) rfl hxj rfl))<|GX ?_;refine fI (cx 0 bW bK (q0 rfl) (q0 rfl) (λ_=>⟨rfl,by show 0<Y.length -j;omega⟩))<|GX ?_;refine fI (gB (v:= .int .i64 y.hi) aj (q0 rfl) (λ_ w hw=>we (r:=1) hw (i:=2) rfl hyj rfl))<|GD ?_ ?_<;>intro h4
  ·have h4':x.hi<y.hi:=cC h4;have hdn':=hdn h4';refine GX ?_;refine fI (qD 1 bW bK (q0 rfl) (q0 rfl) (λ_=>⟨rfl,by show 1<=(one x).length -0;omega⟩))<|GX ?_;refine aH (1,j,k9 (some ⟨bY xA,0+0*2,none⟩) (xc -0) 1 2,some ⟨bY yA,0+j*2,none⟩,oA,oc) lg ⟨rfl,rfl,by rw [hdn'];rfl,trivial⟩ (λw hw=>by rw [hdn'];exact hw.tail) rfl ⟨⟨by simp only;omega,by simp only;omega⟩,λh=>by simp only at h;omega,λ_=>rfl,λh=>absurd h hone.2.2⟩ (by simp only;omega)
  refine GX ?_;refine fI (qD 1 bW bK (q0 rfl) (q0 rfl) (λ_=>⟨rfl,by show 1<=Y.length -j;omega⟩))<|GX ?_;refine aH (0,j+1,some ⟨bY xA,0+0*2,none⟩,k9 (some ⟨bY yA,0+j*2,none⟩) (yc -j) 1 2,oA,oc) lg ⟨rfl,rfl,by rw [hst];rfl,trivial⟩ (λw hw=>by rw [hst];exact hw.tail) rfl ⟨⟨by simp only;omega,by simp only;omega⟩,λ_=>rfl,λh=>Ib h hyc,λh=>absurd h hone.2.2⟩ (by simp only;omega)
 have hlt': ¬(i<(one x).length/\j<Y.length):=by
  have h:(decide ((0:Int)<(((one x).length -i:Nat):Int))&&decide ((0:Int)<((Y.length -j:Nat):Int)))=false:=hlt;simp at h;omega
 have hend:cT x Y i j=nA x Y:=by
  by_cases he:x.lo=x.hi
  ·have h0:(one x).length=0:=by unfold one;rw [aB he];rfl
   have hi0:i=0:=by omega
   rw [GI Y he,hi0,hjz he];unfold cT;rfl
  have h0:(one x).length=1:=by unfold one;rw [an he];rfl
  rw [Ic Y he];unfold cT;split
  ·rw [bo (by omega)]
  rfl
 rw [hend];refine GX ?_;exact jr (v:= .slice _ _ _) (x:= .int _ _) rfl rfl rfl rfl λw' hw=>⟨(oA,oc),rfl,hw.pick [0] (by decide)⟩
end Go.Proofs.Far
namespace Go.Proofs.Far
open Go Go.RowKit Go.Proofs.E Go.Proofs.Cus
def mS (x:Wn) (Y:List Wn) (j i:Nat):List Wn×Int:=((Y.drop j).take i).foldl (lX x) ([],x.lo)
theorem En(x Y j):mS x Y j 0=([],x.lo):=rfl
theorem MX{Y:List Wn}{j i y}(h:Y[j+i]?=some y):(Y.drop j)[i]?=some y:=by rw [iP];exact h
theorem O4{x Y j i y}(h:Y[j+i]?=some y):mS x Y j (i+1)=lX x (mS x Y j i) y:=by
 unfold mS
 rw [oT _ _ _ (MX h),fX];rfl
theorem O6{x Y j y}(hY:Nf Y)(hj:Y[j]?=some y)(h:y.hi<=x.lo)(i):mS x Y j (i+1)=mS x Y (j+1) i:=by
 unfold mS
 rw [drop_at hj,List.take_succ_cons,eh,FU (hY.pos y (aq hj)) h]
theorem HW(x Y){j i}(h:Y.length<=j+i):mS x Y j i=(Y.drop j).foldl (lX x) ([],x.lo):=by
 unfold mS
 rw [bo (by rw [List.length_drop];omega)]
theorem O5{x Y j i y}(hY:Nf Y)(h:Y[j+i]?=some y)(hh:x.hi<=y.lo):mS x Y j i=(Y.drop j).foldl (lX x) ([],x.lo):=by
 unfold mS
 conv=>rhs;rw [<-gg i (Y.drop j)]
 rw [fX];refine (BU _ λq hq=>?_).symm;rw [An] at hq;have hd:=hY.drop (j+i);rw [drop_at h] at hd hq;rcases cn.1 hq with rfl|hq
 ·exact hh
 have:=hd.RU q hq;omega
theorem ML(x Y j i):(mS x Y j i).1.length<=Y.length:=by
 grind [mS,yN]
theorem Ro{x}(hx:0<=x.lo/\x.lo<=x.hi/\x.hi<=4294944000){Y}(hY:nU Y)(j i):0<=(mS x Y j i).2/\(mS x Y j i).2<=4294944000:=
 (yO hx _ ([],x.lo) (λq hq=>hY q (List.mem_of_mem_drop (List.mem_of_mem_take hq))) ⟨nU.nil,by simp only;omega,by simp only;omega⟩).2
theorem Ks{x}(Y)(h: ¬x.lo=x.hi):mz x Y=yM x Y:=by
 unfold mz one;rw [an h];simp
theorem HR{x}(Y)(h:x.lo=x.hi):mz x Y=[]:=by
 unfold mz one;rw [aB h];rfl
theorem Ku{x Y j i}(hE: ∀q,mS x Y 0 (j+q)=mS x Y j q)(h:mS x Y j i=(Y.drop j).foldl (lX x) ([],x.lo)):yM x Y=HV x (mS x Y j i):=by
 unfold yM
 congr 1
 rw [h,<-HW x Y (j:=j) (i:=Y.length) (by omega),<-hE,HW x Y (by omega)];rfl
theorem getD_at{Y:List Wn}{j}(h:j<Y.length):Y[j]?=some (Y.getD j default):=by
 grind
theorem QJ{w0 w L}{k c j i r:Nat}{A ys y v}(hw:Mem w0 L w)(hk:L[k]?=some (gw A c ys))(hy:ys[j+i]?=some y)(hv:y.cells[r]?=some v):w.cell? ⟨bY A,0+j*2+i*2+r,none⟩=some v:=by
 have:=we (r:=r) hw hk hy hv
 grind
attribute [local irreducible] mS lX
theorem O3(A c x B m d ys w)(hx:ug w A 1 [x])(hy:ug w B m ys)(hm:m<=10000)(hxv:0<=x.lo/\x.lo<=x.hi/\x.hi<=4294944000)(hyv:nU ys):Calls Tryz.prog 323 #[.slice A 1 c, .slice B m d] w λe w'=> ∃z:Option Addr×Nat,e= .returned (.tuple #[.slice z.1 (mz x (ic ys)).length z.2, .int .i64 0])/\Mem w [gw z.1 z.2 (mz x (ic ys))] w':=by
 have hul:=sI ys;have hyl:=hy.1;have hYn:=(xj hyv.le).1;have hYv:=qF hyv;refine HF Tryz.func323 Tryz.ntmps323 ?_;refine oD (en Tryz.call360 (jn (q0 rfl) (q0 rfl))) (λw hw=>NG A 1 c [x] B m d ys w (hx.mem hw) (hy.mem hw) (by decide) hm (nU.one hxv) hyv) rfl (λ_=>rfl) λz=>?_;rw [CX];obtain ⟨⟨xA,xc⟩,⟨yA,yc⟩⟩:=z;generalize hY:ic ys=Y at*;refine GD ?_ ?_<;>intro h1
 ·exfalso;simp at h1
 refine GX ?_;refine gM (λw hw=>Oe hw (i:=0) rfl) λ⟨hyA,hyc⟩=>?_;refine gM (λw hw=>Oe hw (i:=1) rfl) λ⟨hxA,hxc⟩=>?_;refine jb (L':=[gw none 0 [],gw yA yc Y,gw xA xc (one x)]) (λw hw=>hw.fY 83 2 Wn.cells rfl) rfl<|GX ?_;refine la ([7,9,11,12,14]++rg 27 59) (λq:Nat×Value×Option Addr×Nat=>[(27, .int .i64 q.1),(7,q.2.1),(9, .slice q.2.2.1 (if q.1=0 then ([]:List Wn) else mz x Y).length q.2.2.2)]) (λq=>[gw q.2.2.1 q.2.2.2 (if q.1=0 then [] else mz x Y),gw yA yc Y,gw xA xc (one x)]) (λq=>q.1<=(one x).length/\(q.1=0->q.2.1= .slice yA Y.length yc)) (λq=>(one x).length -q.1) (0, .slice yA Y.length yc,none,0) ⟨bj _,λ_=>rfl⟩ ?_;rintro ⟨k,yV,oA,oc⟩ g ⟨hk,hyV⟩;simp only at hk hyV;refine GD ?_ ?_<;>intro hlt
 ·have hlt':k<(one x).length:=by
   have h:(k:Int)<((one x).length:Int):=cC hlt;omega
  have hone:(one x).length=1/\one x=[x]/\ ¬x.lo=x.hi:=by
   unfold one at hlt'|-;split at hlt'<;>rename_i he
   ·simp at hlt'
   rw [an he];exact ⟨rfl,rfl,he⟩
  have hk0:k=0:=by omega
  subst hk0;have hyV':=hyV rfl;subst hyV';have hxA':=hxA (by omega);have hxj:(one x)[0]?=some x:=by rw [hone.2.1];rfl
  obtain ⟨xb,hxb⟩: ∃xb,xA=some ⟨xb,0,none⟩:=⟨_,hxA'⟩;subst hxb;clear hxA hxA';rw [aB (rfl:(0:Nat)=0)];refine GX ?_;refine bS cS rfl λb11=>dN (v:= .agg _) rfl rfl bK ?_;refine GX ?_;refine la (7::rg 31 14) (λq:Nat×Option Addr=>[(7, .slice q.2 (Y.length -q.1) (yc -q.1))]) (λq=>[box b11 83 x.cells,gw oA oc [],gw yA yc Y,gw (some ⟨xb,0,none⟩) xc (one x)]) (λq=>q.1<=Y.length/\(q.1<Y.length->q.2=some ⟨bY yA,0+q.1*2,none⟩)/\(∀i,mS x Y 0 (q.1+i)=mS x Y q.1 i)) (λq=>Y.length -q.1) (0,yA) ⟨bj _,hyA,λi=>by simp only [fq]⟩ ?_;rintro ⟨j,aY⟩ g2 ⟨hj,hay,hE⟩;simp only at hj hay hE;refine GX ?_;refine vS<|GX ?_;refine xh (cx (b:=bY yA) (o:=0+j*2) (n:=Y.length -j) (cp:=yc -j) 0 bW bK (λhg=>by rw [<-hay (by simp at hg;omega)];exact q1 rfl hg) (q0 rfl) (λhg=>⟨rfl,by simp at hg;omega⟩)) rfl rfl<|GX ?_;refine xh (gB (v:= .int .i64 (Y.getD j default).hi) aj (q1 rfl) (λhg w hw=>we (r:=1) hw (i:=2) rfl (y:=Y.getD j default) (getD_at (by simp at hg;omega)) rfl)) rfl rfl ?_;iterate 6 refine G0 ?_
  refine bD rfl ?_ ?_<;>intro h2
  ·have h2':j<Y.length/\(Y.getD j default).hi<=x.lo:=by
    have h:(decide ((0:Int)<((Y.length -j:Nat):Int))&&decide ((Y.getD j default).hi<=x.lo))=true:=h2;simp only [de,fg] at h;exact ⟨by omega,h.2⟩
   obtain ⟨y,hyj⟩: ∃y,Y[j]?=some y:=⟨_,ah h2'.1⟩;have hyd:Y.getD j default=y:=by rw [ar,hyj];rfl
   rw [hyd] at h2';have hay':=hay h2'.1;subst hay';refine GX ?_;refine fI (qD 1 bW bK (q0 rfl) (q0 rfl) (λ_=>⟨rfl,by show 1<=Y.length -j;omega⟩))<|GX ?_;exact aH (j+1,k9 (some ⟨bY yA,0+j*2,none⟩) (yc -j) 1 2) lg ⟨rfl,trivial⟩ (λw hw=>hw) rfl ⟨by simp only;omega,λh=>Ib h hyc,λi=>by
    simp only;rw [<-O6 hYn hyj h2'.2,<-hE];congr 1;omega⟩ (by simp only;omega)
  iterate 20 refine G0 ?_
  refine ke ([9,12,14]++rg 49 25) (λq:Nat×Option Addr×Nat=>[(9, .slice q.2.1 (mS x Y j q.1).1.length q.2.2),(12, .int .i64 (mS x Y j q.1).2)]) (λq=>[gw q.2.1 q.2.2 (mS x Y j q.1).1,box b11 83 x.cells,gw yA yc Y,gw (some ⟨xb,0,none⟩) xc (one x)]) (λq=>mS x Y j q.1=(Y.drop j).foldl (lX x) ([],x.lo)) ?_ ?_
  ·refine G0 ?_;refine ef ([9,12,14]++rg 49 25) (λq:Nat×Option Addr×Nat=>[(49, .int .i64 q.1),(9, .slice q.2.1 (mS x Y j q.1).1.length q.2.2),(12, .int .i64 (mS x Y j q.1).2)]) (λq=>[gw q.2.1 q.2.2 (mS x Y j q.1).1,box b11 83 x.cells,gw yA yc Y,gw (some ⟨xb,0,none⟩) xc (one x)]) (λq=>q.1<=Y.length -j) (λq=>(Y.length -j) -q.1) (0,oA,oc) ⟨rfl,by rw [En];rfl,by rw [En];rfl,trivial⟩ (λw hw=>by rw [En];exact hw.Vm) rfl (bj _) ?_;rintro ⟨i,pA,pc⟩ g3 hi;simp only at hi;iterate 6 refine G0 ?_
   refine bD rfl ?_ ?_<;>intro h3
   ·have h3':i<Y.length -j:=by
     have h:(i:Int)<((Y.length -j:Nat):Int):=cC h3;omega
    obtain ⟨y,hyj⟩: ∃y,Y[j+i]?=some y:=⟨_,ah (by omega)⟩;have hay':=hay (by omega);subst hay';have hms:=O4 (x:=x) hyj;have hml:=ML x Y j i;have hmw:=Ro hxv hYv j i;have hyw:=hYv y (aq hyj);iterate 6 refine G0 ?_
    refine fI (cx i bW bK (q0 rfl) (q0 rfl) (λ_=>⟨rfl,h3'⟩)) ?_;refine fI (iV (vs:=y.cells) wa bK (q0 rfl) (λ_ w hw q u hu=>QJ (r:=q) hw (k:=2) rfl hyj hu) rfl)<|bS cS rfl λb14=>dN (v:= .agg _) rfl rfl bK ?_;iterate 12 refine G0 ?_
    refine bD rfl ?_ ?_<;>intro h4
    ·have h4':x.hi<=y.lo:=cC h4;iterate 6 refine G0 ?_
     exact aO (i,pA,pc) lg ⟨rfl,rfl,trivial⟩ (λw hw=>hw.tail) rfl (O5 hYn hyj h4')
    have h4': ¬x.hi<=y.lo:=dB h4;unfold lX at hms;rw [an h4'] at hms;refine GD ?_ ?_<;>intro h5
    ·have h5':(mS x Y j i).2<y.lo:=cC h5;rw [aB h5'] at hms;refine GX ?_;refine fI (bN bL yZ cS (pt (v:= .int _ _) rfl (pt (v:= .int _ _) rfl E.p0)) rfl) ?_;refine gN (k:=2) (i:=Tryz.t83) 1 (⟨(mS x Y j i).2,y.lo⟩) bW (by kernel_rfl) rfl rfl rfl rfl bK cS rfl rfl rfl rfl rfl rfl ⟨by simp only;omega,by decide⟩ rfl rfl λB0 A1 c1=>GX ?_;refine fI (uX (q0 rfl) (q0 rfl))<|GX ?_;refine aH (i+1,A1,c1) lg ⟨rfl,by rw [hms];rfl,by rw [hms];rfl,trivial⟩ (λw hw=>by rw [hms];exact hw.tail) rfl (by simp only;omega) (by simp only;omega)
    have h5': ¬(mS x Y j i).2<y.lo:=dB h5;rw [an h5'] at hms;refine GX ?_;refine fI (uX (q0 rfl) (q0 rfl))<|GX ?_;refine aH (i+1,pA,pc) lg ⟨rfl,by rw [hms];rfl,by rw [hms];rfl,trivial⟩ (λw hw=>by rw [hms];exact hw.tail) rfl (by simp only;omega) (by simp only;omega)
   have h3':i=Y.length -j:=by
    have h: ¬(i:Int)<((Y.length -j:Nat):Int):=dB h3;omega
   refine GX ?_;exact aO (i,pA,pc) lg ⟨rfl,rfl,trivial⟩ (λw hw=>hw) rfl (HW x Y (by simp only;omega))
  rintro ⟨i,pA,pc⟩ g4 hfull;simp only at hfull;have hml:=ML x Y j i;have hfin:mz x Y=HV x (mS x Y j i):=by rw [Ks Y hone.2.2,Ku hE hfull]
  refine GD ?_ ?_<;>intro h6
  ·have h6':(mS x Y j i).2<x.hi:=cC h6;unfold HV at hfin;rw [aB h6'] at hfin;refine GX ?_;refine fI (bN bL yZ cS (pt (v:= .int _ _) rfl (pt (v:= .int _ _) rfl E.p0)) rfl) ?_;refine gN (k:=2) (i:=Tryz.t83) 0 (⟨(mS x Y j i).2,x.hi⟩) bW (by kernel_rfl) rfl rfl rfl rfl bK cS rfl rfl rfl rfl rfl rfl ⟨by simp only;omega,by decide⟩ rfl rfl λB0 A1 c1=>GX ?_;exact nh (1, .slice aY (Y.length -j) (yc -j),A1,c1) ⟨rfl,rfl,by rw [an (show ¬(1:Nat)=0 by decide),hfin];rfl,trivial⟩ (λw hw=>by rw [an (show ¬(1:Nat)=0 by decide),hfin];exact hw.Vo.tail) ⟨by simp only;omega,λh=>by cases h⟩ (by simp only;omega)
  have h6': ¬(mS x Y j i).2<x.hi:=dB h6;unfold HV at hfin;rw [an h6'] at hfin;refine GX ?_;exact nh (1, .slice aY (Y.length -j) (yc -j),pA,pc) ⟨rfl,rfl,by rw [an (show ¬(1:Nat)=0 by decide),hfin];rfl,trivial⟩ (λw hw=>by rw [an (show ¬(1:Nat)=0 by decide),hfin];exact hw.Vo.tail) ⟨by simp only;omega,λh=>by cases h⟩ (by simp only;omega)
 have hlt': ¬k<(one x).length:=by
  have h: ¬(k:Int)<((one x).length:Int):=dB hlt;omega
 have hend:(if k=0 then [] else mz x Y)=mz x Y:=by
  by_cases he:x.lo=x.hi
  ·rw [HR Y he];split<;>rfl
  have h0:(one x).length=1:=by unfold one;rw [an he];rfl
  rw [an (by omega)]
 rw [hend];refine GX ?_;exact jr (v:= .slice _ _ _) (x:= .int _ _) rfl rfl rfl rfl λw' hw=>⟨(oA,oc),rfl,hw.pick [0] (by decide)⟩
def sT (l:List Wn) (k:Nat):Int:=Fm (l.take k)
theorem IJ{l k x}(h:l[k]?=some x):sT l (k+1)=sT l k+(x.hi -x.lo):=by
 unfold sT Fm
 rw [oT _ _ _ h,eY,List.sum_append];simp
theorem Fw{l}(h:nU l)(hl:l.length<=10000): ∀k,k<=l.length->0<=sT l k/\sT l k<=4294944000*(k:Int)
 |0,_=>by unfold sT Fm;simp
 |k+1,hk=>by
  obtain ⟨x,hx⟩: ∃x,l[k]?=some x:=⟨_,ah (by omega)⟩
  have ih:=Fw h hl k (by omega)
  have:=h x (aq hx)
  rw [IJ hx]
  omega
attribute [local irreducible] sT
theorem F5(A n c xs w)(hx:ug w A n xs)(hn:n<=10000)(hv:nU xs):Calls Tryz.prog 282 #[.slice A n c] w λe w'=>e= .returned (.tuple #[.int .i64 (F6 xs), .int .i64 0])/\fM w w':=by
 have hl:=hx.1;have hul:=sI xs;have hYv:=qF hv;refine HF Tryz.func282 Tryz.ntmps282 ?_;refine oD (en Sw (iQ (q0 rfl))) (λw hw=>DQ A n c xs w (hx.mem hw) hn hv) rfl (λ_=>rfl) λz=>?_;have hlen:F6 xs=sT (ic xs) (ic xs).length:=by unfold F6 sT;rw [dQ]
 rw [hlen];generalize ic xs=Y at*;obtain ⟨yA,yc⟩:=z;refine GD ?_ ?_<;>intro h1
 ·exfalso;simp at h1
 refine GX ?_;refine ef ([6,8]++rg 19 12) (λk:Nat=>[(19, .int .i64 k),(6, .int .i64 (sT Y k))]) (λ_=>[gw yA yc Y]) (λk=>k<=Y.length) (λk=>Y.length -k) 0 ⟨rfl,by unfold sT;rfl,trivial⟩ (λw hw=>hw) rfl (bj _) ?_;rintro k g hk;iterate 6 refine G0 ?_
 refine bD rfl ?_ ?_<;>intro hlt
 ·have hlt':k<Y.length:=by simpa using hlt
  obtain ⟨x,hxk⟩: ∃x,Y[k]?=some x:=⟨_,ah hlt'⟩;refine gM (λw hw=>fG (j:=0) hw rfl (by omega)) λ⟨q,hq⟩=>?_;subst hq;have hs:=IJ hxk;have hb:=Fw hYv (by omega) k hk;have hxw:=hYv x (aq hxk);refine GX ?_;refine bS cS rfl λb8=>dN (v:= .agg _) rfl rfl bK ?_;iterate 8 refine G0 ?_
  refine fI (rK (r:=x.hi -x.lo) (q0 rfl) (q0 rfl) (λ_=>⟨rfl,by omega,by omega⟩)) ?_;refine fI (eT (r:=sT Y (k+1)) (q0 rfl) (q0 rfl) (λ_=>⟨by rw [hs],by omega,by omega⟩)) ?_;iterate 8 refine G0 ?_
  exact nc (k+1) (λw hw=>hw.tail) (by show k+1<=Y.length;omega)
 have hend:k=Y.length:=by simp at hlt;omega
 subst hend;exact GW
end Go.Proofs.Far
namespace Go.Proofs.Cus
abbrev JE (β:Type):=Int×Int×β
section
variable {β:Type} {v:Int->β}
def oV (v:Int->β):Int->List (JE β)->Int->Prop
 |lo,[],hi=>lo=hi
 |lo,x::l,hi=>x.1=lo/\x.1<x.2.1/\(∀t,x.1<=t->t<x.2.1->v t=x.2.2)/\(∀y,l.head?=some y->y.2.2≠x.2.2)/\oV v x.2.1 l hi
theorem oV.snoc: ∀{l:List (JE β)} {lo mid to:Int} {p:β},oV v lo l mid->mid<to->(∀t,mid<=t->t<to->v t=p)->(∀y,l.getLast?=some y->y.2.2≠p)->oV v lo (l++[(mid,to,p)]) to
 |[],lo,mid,to,p,h,h1,h2,_=>by
  grind [oV]
 |x::l,lo,mid,to,p,⟨a1,a2,a3,a4,a5⟩,h1,h2,h3=>by
  refine ⟨a1,a2,a3,λy hy=>?_,oV.snoc a5 h1 h2 λy hy=>?_⟩
  ·cases l with
   |nil=>
    simp at hy
    subst hy
    exact λe=>h3 x rfl e.symm
   |cons z l=>exact a4 y (by simpa using hy)
  grind
theorem oV.LP: ∀{l:List (JE β)} {lo hi:Int} {x:JE β},oV v lo (l++[x]) hi->oV v lo l x.1/\x.1<x.2.1/\(∀t,x.1<=t->t<x.2.1->v t=x.2.2)/\(∀y,l.getLast?=some y->y.2.2≠x.2.2)/\x.2.1=hi
 |[],lo,hi,x,⟨a1,a2,a3,_,a5⟩=>⟨a1.symm,a2,a3,λy hy=>by simp at hy,a5⟩
 |z::l,lo,hi,x,⟨a1,a2,a3,a4,a5⟩=>by
  obtain ⟨b1,b2,b3,b4,b5⟩:=oV.LP a5
  refine ⟨⟨a1,a2,a3,λy hy=>?_,b1⟩,b2,b3,λy hy=>?_,b5⟩
  ·simp_all
  cases l with
  |nil=>
   simp at hy
   subst hy
   exact λe=>a4 x rfl e.symm
  |cons u l=>exact b4 y (by rw [List.getLast?_cons_cons] at hy;exact hy)
def LJ (p0:β) (T:List (Int×β)) (t:Int):β:=((T.filter λq=>decide (q.1<=t)).getLast?.map (·.2)).getD p0
def EF (p0:β) (A:List (Int×β)):β:=(A.getLast?.map (·.2)).getD p0
def nt (M:Int) (B:List (Int×β)):Int:=(B.head?.map (·.1)).getD (M+1)
def AD (T:List (Int×β)):Prop:=T.Pairwise λa b=>a.1<=b.1
theorem DN {p0:β} {A B:List (Int×β)} {t:Int} (hA: ∀q∈A,q.1<=t) (hB: ∀q∈B,t<q.1):LJ p0 (A++B) t=EF p0 A:=by
 unfold LJ EF
 rw [gi,JO.2 (λq hq=>by simpa using hA q hq),DH.2 (λq hq=>by have:=hB q hq;simp;omega),bF]
theorem AD.lt {M t:Int} {B:List (Int×β)} (h:AD B) (ht:t<nt M B) (hM:t<=M): ∀q∈B,t<q.1:=by
 cases B with
 |nil=>intro q hq;simp at hq
 |cons b B=>
  intro q hq
  have hb:nt M (b::B)=b.1:=rfl
  rw [hb] at ht
  rcases cn.1 hq with rfl|hq
  ·exact ht
  have:=(bB.1 h).1 q hq
  omega
theorem AD.parts {A B:List (Int×β)} (h:AD (A++B)):AD A/\AD B/\ ∀a∈A,∀b∈B,a.1<=b.1:=by
 have:=iO.1 h
 exact this
end
section
variable {β:Type} [DecidableEq β]
def yI (t:Int) (z:(Int×β)×List (JE β)):List (JE β):=
 if z.1.1=t then z.2
 else
  match z.2.getLast? with
  |some y=>if y.2.2=z.1.2 then z.2.dropLast++[(y.1,t,y.2.2)] else z.2++[(z.1.1,t,z.1.2)]
  |none=>z.2++[(z.1.1,t,z.1.2)]
def wv (z:(Int×β)×List (JE β)) (q:Int×β):(Int×β)×List (JE β):=if q.2≠z.1.2 then (q,yI q.1 z) else z
structure PI (v:Int->β) (M:Int) (B:List (Int×β)) (z:(Int×β)×List (JE β)):Prop where
 chain:oV v 0 z.2 z.1.1
 le:z.1.1<=nt M B
 val: ∀t,z.1.1<=t->t<nt M B->v t=z.1.2
theorem PI.yI {v:Int->β} {M:Int} {B:List (Int×β)} {z:(Int×β)×List (JE β)} (h:PI v M B z):oV v 0 (yI (nt M B) z) (nt M B):=by
 unfold Cus.yI
 by_cases h0:z.1.1=nt M B
 ·rw [aB h0,<-h0];exact h.chain
 rw [an h0]
 have hle:=h.le
 cases hl:z.2.getLast? with
 |none=>exact h.chain.snoc (by omega) h.val (λy hy=>by rw [hl] at hy;cases hy)
 |some y=>
  simp only
  by_cases hy:y.2.2=z.1.2
  ·rw [aB hy]
   have hne:z.2≠[]:=λe=>by rw [e] at hl;cases hl
   have hz:z.2=z.2.dropLast++[y]:=by
    have:=Sh hne
    grind
   have hc:=h.chain
   rw [hz] at hc
   obtain ⟨c1,c2,c3,c4,c5⟩:=hc.LP
   refine c1.snoc (by omega) (λt h1 h2=>?_) c4
   rcases Int.lt_or_le t y.2.1 with h3|h3
   ·exact c3 t h1 h3
   rw [hy];exact h.val t (by omega) h2
  rw [an hy]
  exact h.chain.snoc (by omega) h.val (λu hu=>by rw [hl] at hu;cases hu;exact hy)
theorem HH {p0:β} {M:Int} (T:List (Int×β)) (hT:AD T) (hb: ∀q∈T,0<=q.1/\q.1<=M) (hM:0<=M):oV (LJ p0 T) 0 (yI (M+1) (T.foldl wv ((0,p0),[]))) (M+1):=by
 have key: ∀(B A:List (Int×β)) (z:(Int×β)×List (JE β)),T=A++B->PI (LJ p0 T) M B z->z.1.2=EF p0 A->oV (LJ p0 T) 0 (yI (M+1) (B.foldl wv z)) (M+1):=by
  intro B
  induction B with
  |nil=>
   intro A z _ hz _
   exact hz.yI
  |cons q B ih=>
   intro A z hAB hz hze
   have hT2:T=(A++[q])++B:=by rw [hAB];simp
   have hm:=hT
   rw [hT2] at hm
   obtain ⟨m1,m2,m3⟩:=hm.parts
   have hqb:=hb q (by rw [hAB];simp)
   have hnt:nt M (q::B)=q.1:=rfl
   have hq:q.1<=nt M B:=by
    cases B with
    |nil=>show q.1<=M+1;omega
    |cons b B=>exact m3 q (by simp) b (by simp)
   have hMb:nt M B<=M+1:=by
    cases B with
    |nil=>exact uo _
    |cons b B=>have:=hb b (by rw [hAB];simp);show b.1<=M+1;omega
   have hend:EF p0 (A++[q])=q.2:=by unfold EF;simp
   have hval: ∀t,q.1<=t->t<nt M B->LJ p0 T t=q.2:=λt h1 h2=>by
    rw [hT2,DN (λa ha=>?_) (m2.lt h2 (by omega)),hend]
    grind [AD,oV,LJ,yI,wv]
   rw [eh]
   refine ih (A++[q]) _ hT2 ?_ ?_
   ·unfold wv
    by_cases hne:q.2≠z.1.2
    ·rw [aB hne]
     have hc:=hz.yI
     rw [hnt] at hc
     exact ⟨hc,hq,hval⟩
    rw [an hne]
    have he:q.2=z.1.2:=kM hne
    have h1:=hz.le
    rw [hnt] at h1
    refine ⟨hz.chain,by omega,λt h2 h3=>?_⟩
    rcases Int.lt_or_le t q.1 with h4|h4
    ·exact hz.val t h2 (by rw [hnt];exact h4)
    rw [hval t h4 h3,he]
   unfold wv
   rw [hend]
   by_cases hne:q.2≠z.1.2
   ·grind [AD,oV,LJ,yI,wv]
   rw [an hne];exact (kM hne).symm
 have hnt0:0<=nt M T:=by
  cases T with
  |nil=>show 0<=M+1;omega
  |cons b B=>exact (hb b (by simp)).1
 have hMT:nt M T<=M+1:=by
  cases T with
  |nil=>exact uo _
  |cons b B=>have:=hb b (by simp);show b.1<=M+1;omega
 exact key T [] _ rfl ⟨rfl,hnt0,λt h1 h2=>by
  have:=DN (p0:=p0) (A:=[]) (B:=T) (t:=t) (λq hq=>by simp at hq) (hT.lt h2 (by omega))
  exact this⟩ rfl
end
section
variable {β:Type}
def S2 (hi:Int):List (Int×β)->List (JE β)
 |[]=>[]
 |(a,p)::l=>(a,(l.head?.map (·.1)).getD hi,p)::S2 hi l
end
end Go.Proofs.Cus
namespace Go.Proofs.Cus
theorem O8 {a b:Ev} (h:a.at_<b.at_):dm a b=true/\dm b a=false:=by
 grind [dm,Ev.keys,lexLt]
theorem Cw {a b:Ev} (h:dm a b=true):a.at_<=b.at_:=by
 grind [dm,O8]
theorem Cn: ∀{l:List Ev} (p:Ev->Bool),l.Pairwise (λa b=>dm a b=true)->(∀a b:Ev,a.at_<=b.at_->p b=true->p a=true)-> ∃k,k<=l.length/\l.filter p=l.take k/\(∀e∈l.drop k,p e=false)
 |[],_,_,_=>⟨0,bA _,rfl,λe he=>by simp at he⟩
 |a::l,p,hs,hp=>by
  rw [bB] at hs
  obtain ⟨k,hk,h1,h2⟩:=Cn p hs.2 hp
  cases hpa:p a with
  |true=>exact ⟨k+1,by simp;omega,by rw [CK hpa,h1];rfl,h2⟩
  |false=>
   have hall: ∀e∈l,p e=false:=λe he=>by
    grind [dm,Cw]
   refine ⟨0,bj _,?_,λe he=>?_⟩
   ·rw [CL (by rw [hpa];decide),uu]
    exact DH.2 λe he=>by rw [hall e he];decide
   grind
def jd {β:Type} (g:PS->β) (z:List (Int×β)) (s:PS) (e:Ev) (er:Int):List (Int×β):=if er=0 then z++[(e.at_,g s)] else z
section
variable {β σ:Type} {f:Fl} {g:PS->β}
theorem yD (st:σ->Int×β->σ) {cb:σ->PS->Ev->Int->σ} (hcb: ∀z s e er,cb z s e er=if er=0 then st z (e.at_,g s) else z) (z0:σ): ∀(l:List Ev) (s:PS) (zt:List (Int×β)),
  gn f cb l (s,zt.foldl st z0)=((gn f (jd g) l (s,zt)).1,(gn f (jd g) l (s,zt)).2.foldl st z0)
 |[],_,_=>rfl
 |e::l,s,zt=>by
  show gn f cb l (ie cb (zt.foldl st z0) e (eE f s e))=((gn f (jd g) l (ie (jd g) zt e (eE f s e))).1,(gn f (jd g) l (ie (jd g) zt e (eE f s e))).2.foldl st z0)
  cases hq:(eE f s e).2 with
  |none=>
   have h1:ie cb (zt.foldl st z0) e (eE f s e)=((eE f s e).1,zt.foldl st z0):=by unfold ie;rw [hq]
   have h2:ie (jd g) zt e (eE f s e)=((eE f s e).1,zt):=by unfold ie;rw [hq]
   rw [h1,h2]
   exact yD st hcb z0 l _ zt
  |some er=>
   have h1:ie cb (zt.foldl st z0) e (eE f s e)=((eE f s e).1,(jd g zt (eE f s e).1 e er).foldl st z0):=by
    grind [gn,jd,ie]
   have h2:ie (jd g) zt e (eE f s e)=((eE f s e).1,jd g zt (eE f s e).1 e er):=by unfold ie;rw [hq]
   rw [h1,h2]
   exact yD st hcb z0 l _ _
theorem C2 {s:PS} {e:Ev} {er:Int} (h:(eE f s e).2=some er):(er=0/\jo f e=0)\/(er≠0/\(eE f s e).1=s):=by
 grind [eE,jo]
theorem J6 {s:PS} {e:Ev} (h:(eE f s e).2=none):(eE f s e).1=s:=by
 grind [eE]
theorem qY: ∀(l:List Ev) (s:PS) (zt:List (Int×β)),l.Pairwise (λa b=>dm a b=true)-> ∃t,(gn f (jd g) l (s,zt)).2=zt++t/\AD t/\ ∀q∈t,∃e∈l,q.1=e.at_/\0<=e.at_/\e.at_<=4294943999
 |[],_,zt,_=>⟨[],by simp [gn],List.Pairwise.nil,λq hq=>by simp at hq⟩
 |e::l,s,zt,hs=>by
  rw [bB] at hs
  show ∃t,(gn f (jd g) l (ie (jd g) zt e (eE f s e))).2=zt++t/\_
  cases hq:(eE f s e).2 with
  |none=>
   have h2:ie (jd g) zt e (eE f s e)=((eE f s e).1,zt):=by unfold ie;rw [hq]
   rw [h2]
   obtain ⟨t,h3,h4,h5⟩:=qY l (eE f s e).1 zt hs.2
   grind
  |some er=>
   have h2:ie (jd g) zt e (eE f s e)=((eE f s e).1,jd g zt (eE f s e).1 e er):=by unfold ie;rw [hq]
   rw [h2]
   obtain ⟨t,h3,h4,h5⟩:=qY l (eE f s e).1 (jd g zt (eE f s e).1 e er) hs.2
   have h5': ∀q∈t,∃e'∈e::l,q.1=e'.at_/\0<=e'.at_/\e'.at_<=4294943999:=λq hq=>by obtain ⟨e',he',h⟩:=h5 q hq;exact ⟨e',bR _ he',h⟩
   rcases C2 hq with ⟨h0,hev⟩|⟨h0,_⟩
   ·unfold jd at h3
    rw [aB h0,cE] at h3
    obtain ⟨_,_,_,_,ha,hb⟩:=pX hev
    refine ⟨(e.at_,g (eE f s e).1)::t,by unfold jd;rw [aB h0];exact h3,bB.2 ⟨λq hq=>?_,h4⟩,λq hq=>?_⟩
    ·obtain ⟨e',he',h6,_⟩:=h5 q hq
     have:=Cw (hs.1 e' he')
     simp only;omega
    grind
   grind [dm,gn,jd,AD]
theorem yw {p0:β}: ∀(l:List Ev) (s:PS) (zt:List (Int×β)),EF p0 zt=g s->EF p0 (gn f (jd g) l (s,zt)).2=g (gn f (jd g) l (s,zt)).1
 |[],_,_,h=>h
 |e::l,s,zt,h=>by
  show EF p0 (gn f (jd g) l (ie (jd g) zt e (eE f s e))).2=g (gn f (jd g) l (ie (jd g) zt e (eE f s e))).1
  cases hq:(eE f s e).2 with
  |none=>
   have h2:ie (jd g) zt e (eE f s e)=((eE f s e).1,zt):=by unfold ie;rw [hq]
   rw [h2]
   exact yw l _ _ (by rw [J6 hq];exact h)
  |some er=>
   have h2:ie (jd g) zt e (eE f s e)=((eE f s e).1,jd g zt (eE f s e).1 e er):=by unfold ie;rw [hq]
   rw [h2]
   refine yw l _ _ ?_
   unfold jd
   rcases C2 hq with ⟨h0,_⟩|⟨h0,h1⟩
   ·rw [aB h0];unfold EF;simp
   rw [an h0,h1];exact h
theorem Fx {cb:σ->PS->Ev->Int->σ} (l m:List Ev) (x:PS×σ):gn f cb (l++m) x=gn f cb m (gn f cb l x):=by unfold gn;rw [fX]
theorem Og (n:Nat) (ys:List Ev) (hs:ys.Pairwise (λa b=>dm a b=true)) (t:Int):
  LJ (g (dy n)) (gn f (jd g) ys (dy n,[])).2 t=g (gn f (jd g) (ys.filter λx=>!decide (t<x.at_)) (dy n,[])).1:=by
 obtain ⟨k,_,hf,hd⟩:=Cn (l:=ys) (λx=>!decide (t<x.at_)) hs (λa b hab hb=>by simp at hb|-;omega)
 rw [hf]
 have hys:ys=ys.take k++ys.drop k:=(gg k ys).symm
 have hp:=iO.1 (hys▸hs)
 conv=>lhs;rw [hys,Fx]
 obtain ⟨tA,h1,_,h2⟩:=qY (f:=f) (g:=g) (ys.take k) (dy n) [] hp.1
 obtain ⟨tB,h3,_,h4⟩:=qY (f:=f) (g:=g) (ys.drop k) (gn f (jd g) (ys.take k) (dy n,[])).1 (gn f (jd g) (ys.take k) (dy n,[])).2 hp.2.1
 rw [ir] at h1
 rw [show (gn f (jd g) (ys.take k) (dy n,[]))=((gn f (jd g) (ys.take k) (dy n,[])).1,(gn f (jd g) (ys.take k) (dy n,[])).2) from rfl,h3,DN]
 ·exact yw (g:=g) (p0:=g (dy n)) (ys.take k) (dy n) [] rfl
 ·intro q hq
  rw [h1] at hq
  obtain ⟨e,he,h5,_⟩:=h2 q hq
  rw [<-hf] at he
  have:=(gO.1 he).2
  simp at this;omega
 intro q hq
 obtain ⟨e,he,h5,_⟩:=h4 q hq
 have:=hd e he
 simp at this;omega
end
abbrev Pos:=Int×Int×Int
def Mt (x:Sp):Pos:=(x.cF,x.place,x.bn)
def Ax (x:gy):Pos:=(x.cF,x.place,x.bn)
def ud (bq:Nat) (s:PS):Pos:=Mt (s.aG.getD bq default)
def Si (x:gy):JE Pos:=(x.from_,x.jT,Ax x)
def QS (z:gy×List gy):(Int×Pos)×List (JE Pos):=((z.1.from_,Ax z.1),z.2.map Si)
def Oz (bq:Nat) (z:gy×List gy) (q:Int×Pos):gy×List gy:=if q.2≠Ax z.1 then (⟨bq,q.2.1,q.2.2.1,q.2.2.2,q.1,0⟩,(qC q.1 z).2) else z
theorem J8 (bq:Nat) (z:gy×List gy) (s:PS) (e:Ev) (er:Int):mv bq z s e er=if er=0 then Oz bq z (e.at_,ud bq s) else z:=by
 grind [mv,Oz,ud,yL,Mt,Ax]
theorem Hx (x y:gy):tG x y=true↔Ax x=Ax y:=by
 unfold tG Ax
 simp [and_assoc]
theorem getLast_map {α γ:Type} (h:α->γ) (l:List α):(l.map h).getLast?=l.getLast?.map h:=by
 simp
theorem Gs (t:Int) (z:gy×List gy):(qC t z).2.map Si=yI t (QS z):=by
 grind [qC,Si,yI,QS,getLast_map,Ax,tG,Hx]
theorem Oy (bq:Nat) (z:gy×List gy) (q:Int×Pos):QS (Oz bq z q)=wv (QS z) q:=by
 grind [QS,Oz,wv,Ax,Gs]
theorem Fq (bq:Nat): ∀(T:List (Int×Pos)) (z:gy×List gy),QS (T.foldl (Oz bq) z)=T.foldl wv (QS z)
 |[],_=>rfl
 |q::T,z=>by rw [eh,eh,Fq bq T,Oy]
def tY (bq:Int) (z:gy×List gy):Prop:=z.1.bq=bq/\ ∀x∈z.2,x.bq=bq
theorem Cl {bq t:Int} {z:gy×List gy} (h:tY bq z): ∀x∈(qC t z).2,x.bq=bq:=by
 unfold qC
 simp only
 intro x hx
 split at hx
 ·exact h.2 x hx
 split at hx
 ·rename_i y hy
  have hyb:=h.2 y (List.mem_of_getLast? hy)
  split at hx
  ·rcases bO.1 hx with hx|hx
   ·exact h.2 x ((List.dropLast_sublist _).subset hx)
   rw [cm.1 hx];exact hyb
  grind [tY,qC]
 grind [tY,qC]
theorem C4 (bq:Nat): ∀(T:List (Int×Pos)) (z:gy×List gy),tY bq z->tY bq (T.foldl (Oz bq) z)
 |[],_,h=>h
 |q::T,z,h=>by
  rw [eh]
  refine C4 bq T _ ?_
  grind [tY,Oz,Cl]
end Go.Proofs.Cus
namespace Go.Proofs.Cus
open Go Go.RowKit Go.Proofs.E
theorem kq{f}(h:fy f=0):(1<=f.cv/\f.cv<=128)/\(0<=f.q'/\f.q'<=1000)/\(1<=f.bH/\f.bH<=256)/\f.iX.length<=32/\f.cI.length<=8/\xZ f.iX 32=true/\xZ f.cI 32=true:=by
 unfold fy at h;split at h
 ·cases h
 rename_i h1;split at h
 ·cases h
 rename_i h2;split at h
 ·cases h
 rename_i h3;simp [within] at h1 h3;refine ⟨?_,?_,?_,?_,?_,h3.1,h3.2⟩<;>omega
attribute [local irreducible] within xZ fy
theorem Mw(f a e w)(hx:mE w f a)(hp: -9223372036854775808<=e.place/\e.place<=9223372036854775807):Calls Tryz.prog 254 #[.agg (f.cells a).toArray, .agg e.cells.toArray] w λr w'=>r= .returned (.bool (p' f e))/\fM w w':=by
 have hl:=hx.iX.1;have hl2:=hx.cI.1;have hn2:=hx.cI.2.1;refine HF Tryz.func254 Tryz.ntmps254 ?_;refine cd (v:= .agg _) rfl rfl λb2=>cd (v:= .agg _) rfl rfl λb3=>?_;refine GD ?_ ?_<;>intro h1
 ·have hk1:e.kind=1:=by simpa using h1
  by_cases hin:(decide (0<=e.place)&&decide (e.place.tdiv 32<(a.dn:Int)))=true
  case neg=>
   have hd:(decide (0<=e.place)&&decide (e.place.tdiv 32<(a.dn:Int)))=false:=by simpa using hin
   refine GX ?_;refine vS<|GX ?_;refine fI (Nb (q0 rfl) (q0 rfl) (λ_=>by omega))<|GX ?_;refine fI (Na (q0 rfl) (q0 rfl) (λ_=>by omega))<|GX ?_;refine xh (cO (v:= .pointer none) (hd)) rfl rfl<|xh (cO (v:= .int .i64 0) (hd)) rfl rfl<|xh (cO (v:= .bool false) (hd)) rfl rfl<|GX ?_;exact cu (v:= .bool _) rfl rfl rfl λw' hw=>⟨fK (by unfold p';rw [aB hk1,hl,hd];rfl),hw.1⟩
  case pos=>
   have h0:0<=e.place:=by simp at hin;exact hin.1
   have hlt:e.place.tdiv 32<(a.dn:Int):=by simp at hin;exact hin.2
   have hq:0<=e.place.tdiv 32:=SF h0 (by decide);have hj:e.place.tdiv 32=((e.place.tdiv 32).toNat:Int):=by omega
   have hjn:(e.place.tdiv 32).toNat<a.dn:=by omega
   obtain ⟨dA,dn,dc,tA,tn,tc⟩:=a;obtain ⟨b,off,x,hA,hbl,hxk,hrx⟩:=hx.iX.at_ hjn;simp only at hA;subst hA;refine GX ?_;refine vS<|GX ?_;refine fI (Nb (q0 rfl) (q0 rfl) (λ_=>by omega))<|GX ?_;refine fI (Na (q0 rfl) (q0 rfl) (λ_=>by omega))<|GX ?_;refine xh (cx (e.place.tdiv 32).toNat aA ae (q1 rfl) (q1 rfl) (λ_=>⟨hj,hjn⟩)) rfl rfl<|GX ?_;exact cu (v:= .bool _) rfl rfl rfl λw' hw=>⟨fK (by unfold p';rw [aB hk1,ar,hxk,hl];rfl),hw.1⟩
 have hk1: ¬e.kind=1:=by simpa using h1
 refine GD ?_ ?_<;>intro h2
 ·refine jx (en jO (nS (q0 rfl) (q0 rfl) (q0 rfl))) (λ_ w _=>kO e.place 0 63 w)<|GX ?_;exact cu (v:= .bool _) rfl rfl rfl λw' hw=>⟨fK (by unfold p';rw [an hk1,aB (by simpa using h2)]),hw.1⟩
 refine GD ?_ ?_<;>intro h7
 ·refine jx (en jO (nS (q0 rfl) (q0 rfl) (q0 rfl))) (λ_ w _=>kO e.place 0 ((a.tn:Int) -1) w)<|GX ?_;exact cu (v:= .bool _) rfl rfl rfl λw' hw=>⟨fK (by unfold p';rw [an hk1,an (by simpa using h2),aB (by simpa using h7),hl2]),hw.1⟩
 refine GX ?_;exact cu (v:= .bool _) rfl rfl rfl λw' hw=>⟨fK (by unfold p';rw [an hk1,an (by simpa using h2),an (by simpa using h7)]),hw.1⟩
attribute [local irreducible] p'
theorem OY(f a e w)(hr:0<=f.q'/\f.q'<=1000):Calls Tryz.prog 255 #[.agg (f.cells a).toArray, .agg e.cells.toArray] w λr w'=>r= .returned (.bool (named f e))/\fM w w':=by
 refine HF Tryz.func255 Tryz.ntmps255 ?_;refine cd (v:= .agg _) rfl rfl λb2=>cd (v:= .agg _) rfl rfl λb3=>?_;refine GX ?_;refine vS<|GD ?_ ?_<;>intro h3
 ·have hk:e.kind=3:=by simpa using h3
  refine GX ?_;refine jx (en jO (nS (q0 rfl) (q0 rfl) (q0 rfl))) (λ_ w _=>kO e.rider 0 (f.q' -1) w)<|GD ?_ ?_<;>intro h4
  ·refine jx (en jO (nS (q0 rfl) (q0 rfl) (q0 rfl))) (λ_ w _=>kO e.bn 1 1000000 w)<|GX ?_;exact cu (v:= .bool _) rfl rfl rfl λw' hw=>⟨fK (by unfold named;rw [aB hk,aB (Or.inl hk)]),hw.1⟩
  simp [hk] at h4
 have hk: ¬e.kind=3:=by simpa using h3
 refine GD ?_ ?_<;>intro h4
 ·refine jx (en jO (nS (q0 rfl) (q0 rfl) (q0 rfl))) (λ_ w _=>kO e.bn 1 1000000 w)<|GX ?_;exact cu (v:= .bool _) rfl rfl rfl λw' hw=>⟨fK (by unfold named;rw [an hk,aB (by simpa using h4)]),hw.1⟩
 refine GX ?_;exact cu (v:= .bool _) rfl rfl rfl λw' hw=>⟨fK (by unfold named;rw [an hk,an (by simpa using h4)]),hw.1⟩
attribute [local irreducible] named
theorem AW(f a e w)(hx:mE w f a)(hp: -9223372036854775808<=e.place/\e.place<=9223372036854775807):Calls Tryz.prog 184 #[.agg (f.cells a).toArray, .agg e.cells.toArray] w λr w'=>r= .returned (.int .i64 (jo f e))/\fM w w':=by
 refine HF Tryz.func184 Tryz.ntmps184 ?_;refine cd (v:= .agg _) rfl rfl λb2=>cd (v:= .agg _) rfl rfl λb3=>?_;refine GX ?_;refine jx (en DC (iQ (q0 rfl))) (λ_ w hm=>xM f a w (hx.mem hm)) ?_;refine GD ?_ ?_<;>intro h0
 ·exact cu (v:= .int _ _) rfl rfl rfl λw' hw=>⟨cg (by unfold jo;rw [aB (by simpa using h0)]),hw.1⟩
 have hf:fy f=0:=by simpa using h0
 have hf': ¬fy f≠0:=by simpa using hf
 have hb:=kq hf;refine GX ?_;refine jx (en jO (nS (q0 rfl) (q0 rfl) (q0 rfl))) (λ_ w _=>kO e.device 0 (f.bH -1) w)<|GX ?_;refine AE (en jO (nS (q1 (v:= .int _ _) rfl) (q0 rfl) (q0 rfl))) (λ_ w _=>kO e.seq 1 1048576 w) rfl rfl rfl rfl ?_;refine GD ?_ ?_<;>intro h1
 ·exact cu (v:= .int _ _) rfl rfl rfl λw' hw=>⟨cg (by unfold jo;rw [an hf',aB h1]),hw.1⟩
 have h1': ¬((((!within e.device 0 (f.bH -1)||!within e.seq 1 1048576)||decide (e.at_<0))||decide (e.late<e.at_))||decide (4294943999<e.late))=true:=by rw [show _=false from h1];decide
 refine GX ?_;refine jx (en jO (nS (q0 rfl) (q0 rfl) (q0 rfl))) (λ_ w _=>kO e.kind 1 10 w) ?_;refine GD ?_ ?_<;>intro h2
 ·exact cu (v:= .int _ _) rfl rfl rfl λw' hw=>⟨cg (by unfold jo;rw [an hf',an h1',aB (by simpa using h2)]),hw.1⟩
 have h2': ¬within e.kind 1 10=false:=by simpa using h2
 refine GX ?_;refine jx (en jO (nS (q0 rfl) (q0 rfl) (q0 rfl))) (λ_ w _=>kO e.bq 0 (f.cv -1) w)<|xV (oz (q0 rfl)) rfl rfl<|xV (ay (v:= .bool _) (q0 rfl)) rfl rfl<|fE (az bT rfl ae rfl (q0 rfl)) rfl rfl rfl rfl<|fE (eL aj (q1 rfl)) rfl rfl rfl rfl<|fE (jE (q1 rfl) (q0 rfl)) rfl rfl rfl rfl<|fE (ay (v:= .bool _) (q1 rfl)) rfl rfl rfl rfl<|mq (az bT rfl ae rfl (q0 rfl)) rfl rfl rfl rfl<|mq (eL aj (q1 rfl)) rfl rfl rfl rfl<|mq (ki (q1 rfl) (q0 rfl)) rfl rfl rfl rfl<|fE (fH (q1 rfl) rfl (λh=>by first|rfl|(rw [h];rfl))) rfl rfl rfl rfl<|xV (jJ (q0 rfl) rfl (λh=>by first|rfl|(rw [h];rfl))) rfl rfl<|XN<|ad ?_;refine GD ?_ ?_<;>intro h3
 ·exact cu (v:= .int _ _) rfl rfl rfl λw' hw=>⟨cg (by unfold jo;rw [an hf',an h1',an h2',aB h3]),hw.1⟩
 have h3': ¬(!within e.bq 0 (f.cv -1)||(decide (e.kind=10)&&!decide (e.bq=0)))=true:=by rw [show _=false from h3];decide
 refine GX ?_;refine jx (en Tryz.call254 (jn (q0 rfl) (q0 rfl))) (λ_ w hm=>Mw f a e w (hx.mem hm) hp) ?_;refine GD ?_ ?_<;>intro h4
 ·exact cu (v:= .int _ _) rfl rfl rfl λw' hw=>⟨cg (by unfold jo;rw [an hf',an h1',an h2',an h3',aB (by simpa using h4)]),hw.1⟩
 have h4': ¬p' f e=false:=by simpa using h4
 refine GX ?_;refine jx (en Tryz.call255 (jn (q0 rfl) (q0 rfl))) (λ_ w hm=>OY f a e w hb.2.1) ?_;refine GD ?_ ?_<;>intro h5
 ·exact cu (v:= .int _ _) rfl rfl rfl λw' hw=>⟨cg (by unfold jo;rw [an hf',an h1',an h2',an h3',an h4',aB (by simpa using h5)]),hw.1⟩
 refine GX ?_;exact cu (v:= .int _ _) rfl rfl rfl λw' hw=>⟨cg (by unfold jo;rw [an hf',an h1',an h2',an h3',an h4',an (by simpa using h5)]),hw.1⟩
end Go.Proofs.Cus
namespace Go.Proofs.Cus
open Go Go.RowKit Go.Proofs.E
theorem F4{l r:List Int}{k x y}(hx:l[k]?=some x)(hy:r[k]?=some y):sd (l.drop k) (r.drop k)=if jv x y≠0 then jv x y else sd (l.drop (k+1)) (r.drop (k+1)):=by
 obtain ⟨h1,h2⟩:=ai.1 hx
 obtain ⟨h3,h4⟩:=ai.1 hy
 rw [cH h1,cH h3,h2,h4]
 rfl
theorem xF(n w):Calls Tryz.prog 181 #[.int .i64 n] w λe w'=>e= .returned (.bool false)/\fM w w':=by
 refine HF Tryz.func181 Tryz.ntmps181 ?_;exact cu (v:= .bool _) rfl rfl rfl λw' hw=>⟨fK (by simp),hw.1⟩
theorem iK(a b w):Calls Tryz.prog 104 #[.int .i64 a, .int .i64 b] w λe w'=>e= .returned (.int .i64 (jv a b))/\fM w w':=by
 refine HF Tryz.func104 Tryz.ntmps104 ?_;refine jx (en Iu (iQ (q0 rfl))) (λ_ w _=>xF a w)<|GX ?_;refine jx (en Iu (iQ (q0 rfl))) (λ_ w _=>xF b w)<|GD ?_ ?_<;>intro h1
 ·cases h1
 refine GD ?_ ?_<;>intro h2
 ·cases h2
 refine GD ?_ ?_<;>intro h3
 ·exact cu (v:= .int _ _) rfl rfl rfl λw' hw=>⟨cg (by unfold jv;rw [aB (by simpa using h3)]),hw.1⟩
 refine GD ?_ ?_<;>intro h4
 ·exact cu (v:= .int _ _) rfl rfl rfl λw' hw=>⟨cg (by unfold jv;rw [an (by simpa using h3),aB (by simpa using h4)]),hw.1⟩
 refine GX ?_;exact cu (v:= .int _ _) rfl rfl rfl λw' hw=>⟨cg (by unfold jv;rw [an (by simpa using h3),an (by simpa using h4)]),hw.1⟩
theorem MF(A n c xs w)(hx:lf w A n xs):Calls Tryz.prog 103 #[.slice A n c] w λe w'=>e= .returned (.int .i64 (Ld xs))/\fM w w':=by
 have hl:=hx.1;have hn:=hx.2.1;refine HF Tryz.func103 Tryz.ntmps103 ?_;refine la ([2,5]++rg 8 9) (λk:Nat=>[(8, .int .i64 k)]) (λ_=>_) (λk=>k<=n/\(xs.take k).find? (λx=>decide (x≠0))=none) (λk=>n -k) 0 ⟨bj _,rfl⟩ ?_;rintro k g ⟨hk,hno⟩;refine GD ?_ ?_<;>intro hlt
 ·simp at hlt;obtain ⟨b,off,x,rfl,hbl,hxk,hrx⟩:=hx.at_ hlt;refine GD ?_ ?_<;>intro h0
  ·exact cu (v:= .int _ _) rfl rfl rfl λw' hw=>⟨cg (by
    unfold Ld;have h0':x≠0:=by simpa using h0
    rw [<-gg k xs,jj,hno];obtain ⟨q1,q2⟩:=ai.1 hxk;rw [cH q1,q2];simp [h0']),hw.1⟩
  refine GX ?_;exact na (k+1) ⟨by omega,by rw [dY _ _ _ hxk,jj,hno];simp at h0;simp [h0]⟩
 obtain rfl:k=n:=by simp at hlt;omega
 refine GX ?_;exact cu (v:= .int _ _) rfl rfl rfl λw' hw=>⟨cg (by unfold Ld;rw [bo (by omega)] at hno;rw [hno];rfl),hw.1⟩
def xE (e:Ev):List Value:=e.keys.map (.int .i64)
theorem zW{e k x}(h:e.keys[k]?=some x):(xE e)[0+k*1]?=some (.int .i64 x):=by
 unfold xE;simp [h]
attribute [local irreducible] jv sd
theorem Jk(a b w):Calls Tryz.prog 250 #[.agg a.cells.toArray, .agg b.cells.toArray] w λe w'=>e= .returned (.int .i64 (z8 a b))/\fM w w':=by
 refine HF Tryz.func250 Tryz.ntmps250 ?_;refine cd (v:= .agg _) rfl rfl λb2=>cd (v:= .agg _) rfl rfl λb3=>?_;refine GX ?_;refine fI (Cr vX ae xa (pt (v:= .int _ _) rfl (pt (v:= .int _ _) rfl (pt (v:= .int _ _) rfl (pt (v:= .int _ _) rfl (pt (v:= .int _ _) rfl (pt (v:= .int _ _) rfl (pt (v:= .int _ _) rfl (pt (v:= .int _ _) rfl (pt (v:= .int _ _) rfl E.p0))))))))) rfl)<|bS xa rfl λb5=>dN (v:= .agg _) rfl rfl Tryz.sizeOf423 ?_;refine GX ?_;refine fI (Cr vX ae xa (pt (v:= .int _ _) rfl (pt (v:= .int _ _) rfl (pt (v:= .int _ _) rfl (pt (v:= .int _ _) rfl (pt (v:= .int _ _) rfl (pt (v:= .int _ _) rfl (pt (v:= .int _ _) rfl (pt (v:= .int _ _) rfl (pt (v:= .int _ _) rfl E.p0))))))))) rfl)<|bS xa rfl λb6=>dN (v:= .agg _) rfl rfl Tryz.sizeOf423 ?_;refine GX ?_;refine lb ([4,7,8]++rg 47 14) (λk:Nat=>[(47, .int .i64 k)]) (λ_=>[box b6 423 (xE b),box b5 423 (xE a)]) (λk=>k<=9/\z8 a b=sd (a.keys.drop k) (b.keys.drop k)) (λk=>9 -k) 0 (λw hw=>hw.pick [0,1] (by decide)) ⟨bj _,rfl⟩ ?_;rintro k g ⟨hk,hev⟩;refine GD ?_ ?_<;>intro hlt
 ·simp at hlt;obtain ⟨x,hx⟩: ∃x,a.keys[k]?=some x:=⟨_,ah (by show k<9;omega)⟩;obtain ⟨y,hy⟩: ∃y,b.keys[k]?=some y:=⟨_,ah (by show k<9;omega)⟩;have hd:=F4 hx hy;refine GX ?_;refine vS<|GX ?_;refine fI (Nh _ vX ae (q0 rfl) (q0 rfl) (λ_=>⟨rfl,by omega⟩))<|fI (gB aj (q0 rfl) (bx 1 rfl (zW hx)))<|GX ?_;refine fI (Nh _ vX ae (q0 rfl) (q0 rfl) (λ_=>⟨rfl,by omega⟩))<|fI (gB aj (q0 rfl) (bx 0 rfl (zW hy)))<|jx (en iT (jn (q0 rfl) (q0 rfl))) (λ_ w _=>iK x y w)<|GD ?_ ?_<;>intro hc
  ·exact cu (v:= .int _ _) rfl rfl rfl λw' hw=>⟨cg (by rw [hev,hd,aB (by simpa using hc)]),hw.1⟩
  refine GX ?_;exact na (k+1) ⟨by omega,by rw [hev,hd,an (by simpa using hc)]⟩
 obtain rfl:k=9:=by simp at hlt;omega
 refine GX ?_;exact cu (v:= .int _ _) rfl rfl rfl λw' hw=>⟨cg (by rw [hev];unfold sd;rfl),hw.1⟩
end Go.Proofs.Cus
