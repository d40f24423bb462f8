import Derived.Test.YtomomjgdeomgiaaGreatBA03
import Derived.Lib.AppendZerosOnto
import Derived.Test.YtomomjgdeomgiaaGreatProg
import Derived.Ground.SlsfProg
set_option maxRecDepth 100000
set_option maxHeartbeats 8000000
set_option linter.all false
namespace Go.Proofs.Far
open Go Go.RowKit Go.Proofs.E
section
variable {α:Type} {e t tn:TypeId} {k:Nat} {enc:α->List Value} {c:Cx} {w0:World} {L:List E.Item} {f:Fr} {K:List E.Item->Fr->Prop} {d:Nat} {ty:TypeId} {pos:String} {af:Array Edge} {x y:Operand}
theorem Pn(j){n:Nat}{i z kn}(ht:c.P.underlying t=some (.slice e))(htn:c.P.underlying tn=some (.int kn))(hi:c.P.info? e=some i)(hz:i.zero=some z)(hsize:i.size=k)(hzs:z.cells.size=k)(hk0:Nat.blt 0 k=true)(hx:ev f x= .slice none 0 0)(hy:ev f y= .int .i64 n)(h0:0<n)(hk:L[j]?=some (dS e k enc none 0 ([]:List α)))(hlen:n<=1000000/\i.bytes<=100000)(hd:Nat.blt d c.N=true)(next: ∀b c',n<=c'->K (L.set j (dS e k enc (some ⟨b,0,none⟩) c' ([]:List α))) (kV f d (.slice (some ⟨b,0,none⟩) n c'))):
  vO c w0 L f ⟨some d, .call {callee:= .builtin .append,args:= #[x,y],argTypes:= #[t,tn]},ty,pos,af,none⟩ K:=
 ⟨rfl,rfl,hd,λw hw=>by
  have hk1:0<k:=dW hk0;have hby:n*i.bytes<=140737488355328:=by
   have:=Iy hlen.1 hlen.2;omega
  have h2:=Go.Lib.run_append_grow_zeros (P:=c.P) w t tn ty e i z .i64 kn ht htn hi hz none 0 0 [] (by simp [Builtin.firstCells]) n h0 (by omega) (by omega) (by omega) (by omega) (growslice_fits (by omega) (by rw [fq];exact hby));rw [fq] at h2;have hge:=grownCap_ge w n 0 e;have hcm:=grownCap_le_maxLen w n 0 e (by unfold maxLen;omega);have hex:(execOp (ev f) ⟨some d, .call {callee:= .builtin .append,args:= #[x,y],argTypes:= #[t,tn]},ty,pos,af,none⟩).run c.P w= .ok (.value (.slice (some ⟨w.heap.size,0,none⟩) n (grownCap w n 0 e))) (w.drew.alloc (.cells ((([]:List Value).toArray)++Builtin.zeroCells z.cells n++Builtin.zeroCells z.cells (grownCap w n 0 e -n)) e)):=by
   simp only [execOp,resolve,invoke,builtin];simp [hx,hy,h2]
  rw [hex];have hsz:((([]:List Value).toArray)++Builtin.zeroCells z.cells n++Builtin.zeroCells z.cells (grownCap w n 0 e -n)).size=grownCap w n 0 e*k:=by
   simp only [Builtin.zeroCells,Oc,Array.size_map,Array.size_range,hzs];rw [show (([]:List Value).toArray).size=0 from rfl,fq,<-uj,Nat.add_sub_cancel' hge]
  refine ⟨_,hw.D9 (it':=dS e k enc (some ⟨w.heap.size,0,none⟩) (grownCap w n 0 e) []) hk (λb hb=>?_) (λb hb=>?_) ?_ ⟨rfl,rfl,rfl,lD _⟩ ?_ (λb hb hf=>?_),hG hk rfl,next _ _ hge⟩
  ·grind [ev,dS,kV]
  ·have:w.heap.size=b:=by simpa [dS] using hb
   show b<(w.heap.push _).size;rw [Array.size_push];omega
  ·show World.ownsRow _ 0 e k (.slice _ 0 _) 0 [];refine ⟨by simp, .inr ⟨w.heap.size,_,_,rfl,bj _,?_,bj _,hcm,hsz,by simp⟩⟩;show (w.heap.push _)[w.heap.size]?=_;rw [Array.getElem?_push_size]
  ·show w.heap.size<=(w.heap.push _).size;rw [Array.size_push];simp
  show (w.heap.push _)[b]?=w.heap[b]?;rw [Array.getElem?_push,an (by omega)]⟩
theorem Qr{g t el A n cp}(ht:c.P.underlying t=some (.slice el))(hx:gH g f x (.slice A n cp)):gj g c w0 L f (.call {callee:= .builtin .cap,args:= #[x],argTypes:= #[t]}) ty (.int .i64 cp):=λe _ _ _ _ w _=>by
 simp [execOp,resolve,invoke,builtin,hx e,Builtin.cap_,run_underlying ht,Result.andThen,goInt]
end
abbrev eO (A:Option Addr) (c:Nat) (xs:List Int):E.Item:=dS 3 1 eQ A c xs
theorem Rp(n:Nat)(hn:n<=1000000)(w):Calls Tryz.prog 135 #[.slice none 0 0, .int .i64 n] w λe w'=> ∃x:Option Addr×Nat,e= .returned (.slice x.1 0 x.2)/\Mem w [eO x.1 x.2 []] w':=by
 refine HE Tryz.func135 Tryz.ntmps135 ?_;refine bD rfl ?_ ?_<;>intro h1
 ·exfalso;simp at h1;omega
 refine GR ?_;refine fI (Qr aA (q0 rfl))<|GR ?_;refine bD rfl ?_ ?_<;>intro h2
 ·have h2':0<n:=by simp at h2;omega
  refine jb (L':=[eO none 0 []]) (λw hw=>hw.fY 3 1 eQ rfl) rfl<|GR ?_;refine fI (Qr aA (q0 rfl))<|fI (uW 0 aA ae (q0 rfl) (q0 rfl) (λ_=>⟨rfl,bA _⟩))<|GR ?_;refine cQ (Pn (k:=1) (i:=Tryz.t3) (enc:=eQ) 0 aA av (by kernel_rfl) rfl rfl rfl rfl rfl rfl h2' rfl ⟨hn,by decide⟩ rfl λb5 c5 hc5=>?_);refine GR ?_;refine fI (uW 0 aA ae (q0 rfl) (q0 rfl) (λ_=>⟨rfl,bj _⟩))<|GR ?_;exact cu (v:= .slice _ _ _) rfl rfl rfl λw' hw=>⟨(some ⟨b5,0,none⟩,c5),rfl,hw⟩
 refine GR ?_;exact cu (v:= .slice _ _ _) rfl rfl rfl λw' hw=>⟨(none,0),rfl,hw.fY 3 1 eQ rfl⟩
def TK (v:Value):List Value:=[v]
theorem Nt(P pc A n c xs B m d ys w)(hp:eG w 1 TK P 2 [.slice A n c, .slice B m d])(hx:eG w 1 eQ A n xs)(hy:eG w 1 eQ B m ys)(hn:n<=1000)(hm:m<=1000):
  Calls Tryz.prog 56 #[.slice P 2 pc] w λe w'=> ∃x:Option Addr×Nat,e= .returned (.slice x.1 (xs++ys).length x.2)/\Mem w [eO x.1 x.2 (xs++ys)] w':=by
 have hxl:=hx.1;have hyl:=hy.1;obtain ⟨b,off,v0,rfl,hbl,hv0,hr0⟩:=hp.at_ (show 0<2 by decide);obtain ⟨v1,hv1,hr1⟩:=hp.row (show 1<2 by decide);have e0:v0= .slice A n c:=by simpa using hv0.symm
 have e1:v1= .slice B m d:=by simpa using hv1.symm
 subst e0 e1;obtain ⟨S,hS⟩: ∃S:Nat->Nat,S=λk=>if k=0 then 0 else if k=1 then n else n+m:=⟨_,rfl⟩
 obtain ⟨T,hT⟩: ∃T:Nat->List Int,T=λk=>if k=0 then [] else if k=1 then xs else xs++ys:=⟨_,rfl⟩
 have hS0:S 0=0:=by rw [hS];rfl
 have hS1:S 1=n:=by rw [hS];rfl
 have hS2:S 2=n+m:=by rw [hS];rfl
 have hT0:T 0=[]:=by rw [hT];rfl
 have hT1:T 1=xs:=by rw [hT];rfl
 have hT2:T 2=xs++ys:=by rw [hT];rfl
 clear hS hT;refine HF Tryz.func56 Tryz.ntmps56 ?_;refine ef ([3,5]++rg 11 12) (λk:Nat=>[(11, .int .i64 k),(3, .int .i64 (S k:Nat))]) (λ_=>[]) (λk=>k<=2) (λk=>2 -k) 0 ⟨rfl,by rw [hS0];rfl,trivial⟩ (λw hw=>hw) rfl (bj _) ?_;rintro k g hk;refine GD ?_ ?_<;>intro hlt
 ·have hk2:k=0\/k=1:=by simp at hlt;omega
  rcases hk2 with h0|h0
  ·subst h0;rw [hS0];refine GD ?_ ?_<;>intro h3
   ·exfalso;simp at h3;omega
   refine GX ?_;exact nf 1 ⟨rfl,by rw [hS1];show Value.int .i64 _=Value.int .i64 _;congr 1;simp,trivial⟩ (by decide) (by decide)
  subst h0;rw [hS1];refine GD ?_ ?_<;>intro h3
  ·exfalso;simp at h3;omega
  refine GX ?_;exact nf 2 ⟨rfl,by rw [hS2];rfl,trivial⟩ (by decide) (by decide)
 have hend:k=2:=by simp at hlt;omega
 subst hend;rw [hS2];refine GX ?_;refine oD (en Tryz.call135 (jn (q0 rfl) (q0 rfl))) (λw hw=>Rp (n+m) (by omega) w) rfl (λ_=>rfl) λz=>GX ?_;refine ef ([6,8]++rg 27 8) (λq:Nat×Option Addr×Nat=>[(27, .int .i64 q.1),(6, .slice q.2.1 (T q.1).length q.2.2)]) (λq=>[eO q.2.1 q.2.2 (T q.1)]) (λq=>q.1<=2) (λq=>2 -q.1) (0,z.1,z.2) ⟨rfl,by rw [hT0];rfl,trivial⟩ (λw hw=>by rw [hT0];exact hw) rfl (bj _) ?_;rintro ⟨k,oA,oc⟩ g2 hk2;simp only at hk2;refine GD ?_ ?_<;>intro hlt2
 ·have hk3:k=0\/k=1:=by simp at hlt2;omega
  rcases hk3 with h0|h0
  ·subst h0;rw [hT0];refine GX ?_;refine lI (dj (k:=1) (i:=Tryz.t3) (enc:=eQ) 0 aA (by kernel_rfl) rfl rfl rfl rfl (λ_=>rfl) (λ_=>rfl) rfl rfl rfl (λw hw=>hx.mem hw) ⟨by first|omega|(simp;omega),by decide⟩ rfl λA1 c1=>?_);refine GX ?_;exact nh (1,A1,c1) ⟨rfl,by show _=Value.slice A1 (T 1).length c1;rw [hT1];rfl,trivial⟩ (λw hw=>by show Mem _ [eO A1 c1 (T 1)] w;rw [hT1];exact hw) (by show 1<=2;decide) (by show 2 -1<2 -0;decide)
  subst h0;rw [hT1];refine GX ?_;refine lI (dj (k:=1) (i:=Tryz.t3) (enc:=eQ) 0 aA (by kernel_rfl) rfl rfl rfl rfl (λ_=>rfl) (λ_=>rfl) rfl rfl rfl (λw hw=>hy.mem hw) ⟨by first|omega|(simp;omega),by decide⟩ rfl λA1 c1=>?_);refine GX ?_;exact nh (2,A1,c1) ⟨rfl,by show _=Value.slice A1 (T 2).length c1;rw [hT2];rfl,trivial⟩ (λw hw=>by show Mem _ [eO A1 c1 (T 2)] w;rw [hT2];exact hw) (by show 2<=2;decide) (by show 2 -2<2 -1;decide)
 have hend2:k=2:=by simp at hlt2;omega
 subst hend2;rw [hT2];refine GX ?_;exact cu (v:= .slice _ _ _) rfl rfl rfl λw' hw=>⟨(oA,oc),rfl,hw⟩
end Go.Proofs.Far
namespace Go.Proofs.Pen
structure V where
 bn:Int
 rider:Int
 iI:Int
 kind:Int
def V.zero:V:=⟨0,0,0,0⟩
def mM (x:Int):Bool:=decide (x<0)||decide (1000000<x)
def rk (fines:List Int) (days:Int):Int:=
 if 512<fines.length then 8 else if fines.any mM then 1 else if days<0\/49709<days then 1 else 0
def Aq (v:V):Int:=
 if v.bn<1\/1000000<v.bn\/v.rider<0\/128<=v.rider\/v.iI<0\/4294943999<v.iI then 1 else if v.kind<1\/3<v.kind then 14 else 0
def tO (l:List V) (r:Int):Bool:=l.any (λx=>x.bn==r)
def uE (seen:List V) (v:V):Int:=if Aq v≠0 then Aq v else if tO seen v.bn then 6 else 0
def oS:List V->List V->Int
 |_,[]=>0
 |seen,v::rest=>if uE seen v≠0 then uE seen v else oS (seen++[v]) rest
def r9 (l:List V):Int:=if 256<l.length then 8 else oS [] l
def before (a b:V):Bool:=decide (a.iI<b.iI)||(decide (a.iI=b.iI)&&decide (a.bn<b.bn))
def MS (days:Int) (x v:V):Bool:=decide (v.iI/86400 -days<=x.iI/86400)
def hit (days:Int) (v x:V):Bool:=(x.rider==v.rider&&x.kind==2)&&(before x v&&MS days x v)
def TP (days:Int) (l:List V) (v:V):Nat:=(l.filter (hit days v)).length
def num (days:Int) (l:List V) (v:V):Int:=if v.kind=2 then 1+(TP days l v:Int) else 0
def Gl (fines:List Int) (days:Int) (l:List V) (v:V):Int:=
 if num days l v=0\/fines.length=0 then 0 else fines.getD (min (num days l v).toNat fines.length -1) 0
def rR (rider:Int) (l:List V):List V:=l.filter (λx=>x.rider==rider&&x.kind==2)
def Uk (f:V->Int) (l:List V):Int:=(l.map f).sum
def total (fines:List Int) (days:Int) (l:List V) (rider:Int):Int:=Uk (Gl fines days l) (rR rider l)
def Cu (fines:List Int) (days:Int) (l:List V):Int:=if rk fines days≠0 then rk fines days else r9 l
def CO (fines:List Int) (days:Int) (l:List V) (i:Int):Int×Int:=
 if Cu fines days l≠0 then (0,Cu fines days l) else if i<0\/(l.length:Int)<=i then (0,7) else (num days l (l.getD i.toNat V.zero),0)
def s7 (fines:List Int) (days:Int) (l:List V) (i:Int):Int×Int:=
 if Cu fines days l≠0 then (0,Cu fines days l) else if i<0\/(l.length:Int)<=i then (0,7) else (Gl fines days l (l.getD i.toNat V.zero),0)
theorem dY{α:Type}(l:List α)(k v)(h:l[k]?=some v):l.take (k+1)=l.take k++[v]:=by
 rw [iC,h];rfl
theorem drop_cons{α:Type}(l:List α)(k v)(h:l[k]?=some v):l.drop k=v::l.drop (k+1):=by
 obtain ⟨hk,rfl⟩:=ai.1 h
 exact cH hk
theorem zH(seen l:List V)(k v)(h:l[k]?=some v):oS seen (l.drop k)=if uE seen v≠0 then uE seen v else oS (seen++[v]) (l.drop (k+1)):=by
 rw [drop_cons l k v h];rfl
open Go Go.RowKit Go.Proofs.E
def V.cells (v:V):List Value:=[.int .i64 v.bn, .int .i64 v.rider, .int .i64 v.iI, .int .i64 v.kind]
abbrev zw (w:World) (A:Option Addr) (n:Nat) (vs:List V):Prop:=eG w 4 V.cells A n vs
abbrev lf (w:World) (A:Option Addr) (n:Nat) (xs:List Int):Prop:=eG w 1 eQ A n xs
theorem wE(xs:List Int)(k x)(h:xs[k]?=some x)(h0:(xs.take k).any mM=false)(hb:mM x=false):(xs.take (k+1)).any mM=false:=by
 rw [dY _ _ _ h,E5,h0];simp [hb]
theorem FQ(xs d)(k:Nat)(x)(hl:xs.length<=512)(h:xs[k]?=some x)(hb:mM x=true):rk xs d=1:=by
 grind [mM,rk]
theorem Dg(xs d)(hl:512<xs.length):rk xs d=8:=by unfold rk;rw [aB hl]
theorem Dh(xs d)(hl:xs.length<=512)(h0:xs.any mM=false)(hd:d<0\/49709<d):rk xs d=1:=by
 unfold rk;rw [an (by omega),h0];simp [hd]
theorem IY(xs d)(hl:xs.length<=512)(h0:xs.any mM=false)(hd: ¬(d<0\/49709<d)):rk xs d=0:=by
 unfold rk;rw [an (by omega),h0];simp;omega
theorem xB(a0 a1 a2 a3 a4 A n c xs d w)(hx:lf w A n xs):
  Calls Tryz.prog 139 #[.agg #[a0,a1,a2,a3,a4, .slice A n c, .int .i64 d]] w λe w'=>e= .returned (.int .i64 (rk xs d))/\fM w w':=by
 have hn:=hx.2.1;have hl:=hx.1;refine HF Tryz.func139 Tryz.ntmps139 ?_;refine cd (v:= .agg _) rfl rfl λb1=>GD ?_ ?_<;>intro hb
 ·exact cu (v:= .int _ _) rfl rfl rfl λw' hw=>⟨cg (Dg _ _ (by simp at hb;omega)).symm,hw.1⟩
 refine GX ?_;simp at hb;refine la ([2,3]++rg 8 21) (λk:Nat=>[(3, .int .i64 k)]) (λ_=>_) (λk=>k<=n/\(xs.take k).any mM=false) (λk=>n -k) 0 ⟨bj _,rfl⟩ ?_;rintro k g ⟨hk,hall⟩;refine GD ?_ ?_<;>intro hlt
 ·simp at hlt;obtain ⟨b,off,x,rfl,hbl,hxk,hr⟩:=hx.at_ hlt;refine GD ?_ ?_<;>intro hbad
  ·exact cu (v:= .int _ _) rfl rfl rfl λw' hw=>⟨cg (FQ _ _ k x (by omega) hxk hbad).symm,hw.1⟩
  refine GX ?_;exact na (k+1) ⟨by omega,wE _ _ _ hxk hall hbad⟩
 simp at hlt;rw [bo (by omega)] at hall;refine GD ?_ ?_<;>intro hd
 ·exact cu (v:= .int _ _) rfl rfl rfl λw' hw=>⟨cg (Dh _ _ (by omega) hall (by simpa using hd)).symm,hw.1⟩
 refine GX ?_;exact cu (v:= .int _ _) rfl rfl rfl λw' hw=>⟨cg (IY _ _ (by omega) hall (by simp at hd;omega)).symm,hw.1⟩
theorem AW(a0 a1 a2 a3 a4 A n c xs d w)(hx:lf w A n xs):
  Calls Tryz.prog 57 #[.agg #[a0,a1,a2,a3,a4, .slice A n c, .int .i64 d]] w λe w'=>e= .returned (.int .i64 (rk xs d))/\fM w w':=by
 have hn:=hx.2.1;have hl:=hx.1;refine HF Tryz.func57 Tryz.ntmps57 ?_;refine cd (v:= .agg _) rfl rfl λb1=>GD ?_ ?_<;>intro hb
 ·exact cu (v:= .int _ _) rfl rfl rfl λw' hw=>⟨cg (Dg _ _ (by simp at hb;omega)).symm,hw.1⟩
 refine GX ?_;simp at hb;refine la ([2,4]++rg 12 11) (λk:Nat=>[(12, .int .i64 k)]) (λ_=>_) (λk=>k<=n/\(xs.take k).any mM=false) (λk=>n -k) 0 ⟨bj _,rfl⟩ ?_;rintro k g ⟨hk,hall⟩;refine GD ?_ ?_<;>intro hlt
 ·simp at hlt;obtain ⟨b,off,x,rfl,hbl,hxk,hr⟩:=hx.at_ hlt;refine GD ?_ ?_<;>intro hbad
  ·exact cu (v:= .int _ _) rfl rfl rfl λw' hw=>⟨cg (FQ _ _ k x (by omega) hxk hbad).symm,hw.1⟩
  refine GX ?_;exact na (k+1) ⟨by omega,wE _ _ _ hxk hall hbad⟩
 simp at hlt;rw [bo (by omega)] at hall;refine GD ?_ ?_<;>intro hd
 ·exact cu (v:= .int _ _) rfl rfl rfl λw' hw=>⟨cg (Dh _ _ (by omega) hall (by simpa using hd)).symm,hw.1⟩
 refine GX ?_;exact cu (v:= .int _ _) rfl rfl rfl λw' hw=>⟨cg (IY _ _ (by omega) hall (by simp at hd;omega)).symm,hw.1⟩
theorem NJ(a b w):Calls Tryz.prog 288 #[.agg a.cells.toArray, .agg b.cells.toArray] w λe w'=>e= .returned (.bool (before a b))/\fM w w':=by
 refine HF Tryz.func288 Tryz.ntmps288 ?_;refine cd (v:= .agg _) rfl rfl λb2=>cd (v:= .agg _) rfl rfl λb3=>?_;refine xV (aU (v:= .bool _) (q0 rfl)) rfl rfl<|XN<|ad<|ak<|R0<|xV (az nJ rfl ae rfl (q0 rfl)) rfl rfl<|xV (eL aj (q0 rfl)) rfl rfl<|xV (az nJ rfl ae rfl (q0 rfl)) rfl rfl<|xV (eL aj (q0 rfl)) rfl rfl<|xV (gK (q0 rfl) (q0 rfl)) rfl rfl<|xV (ay (v:= .bool _) (q0 rfl)) rfl rfl<|fE (az nJ rfl ae rfl (q0 rfl)) rfl rfl rfl rfl<|fE (eL aj (q1 rfl)) rfl rfl rfl rfl<|fE (az nJ rfl ae rfl (q0 rfl)) rfl rfl rfl rfl<|fE (eL aj (q1 rfl)) rfl rfl rfl rfl<|fE (jE (q1 rfl) (q1 rfl)) rfl rfl rfl rfl<|fE (ay (v:= .bool _) (q1 rfl)) rfl rfl rfl rfl<|mq (az nJ rfl ae rfl (q0 rfl)) rfl rfl rfl rfl<|mq (eL aj (q1 rfl)) rfl rfl rfl rfl<|mq (az nJ rfl ae rfl (q0 rfl)) rfl rfl rfl rfl<|mq (eL aj (q1 rfl)) rfl rfl rfl rfl<|mq (gK (q1 rfl) (q1 rfl)) rfl rfl rfl rfl<|fE (fH (q1 rfl) rfl (λh=>by first|rfl|(rw [h];rfl))) rfl rfl rfl rfl<|xV (jJ (q0 rfl) rfl (λh=>by first|rfl|(rw [h];rfl))) rfl rfl<|xV (aU (v:= .bool _) (q0 rfl)) rfl rfl<|XN<|ad<|dq ?_;exact GW
theorem Hj{seen v}(h:v.bn<1\/1000000<v.bn\/v.rider<0\/128<=v.rider\/v.iI<0\/4294943999<v.iI):uE seen v=1:=by
 unfold uE Aq;rw [aB h];rfl
theorem CW{v}(h1: ¬(v.bn<1\/1000000<v.bn\/v.rider<0\/128<=v.rider\/v.iI<0\/4294943999<v.iI))(h2: ¬(v.kind<1\/3<v.kind)):Aq v=0:=by
 unfold Aq;rw [an h1,an h2]
theorem JY{seen v}(h1: ¬(v.bn<1\/1000000<v.bn\/v.rider<0\/128<=v.rider\/v.iI<0\/4294943999<v.iI))(h2:v.kind<1\/3<v.kind):uE seen v=14:=by
 grind [uE,Aq]
theorem Hi{seen v}(h1: ¬(v.bn<1\/1000000<v.bn\/v.rider<0\/128<=v.rider\/v.iI<0\/4294943999<v.iI))(h2: ¬(v.kind<1\/3<v.kind))(h3:tO seen v.bn=true):uE seen v=6:=by
 unfold uE;rw [CW h1 h2,h3];rfl
theorem Oh{seen v}(h1: ¬(v.bn<1\/1000000<v.bn\/v.rider<0\/128<=v.rider\/v.iI<0\/4294943999<v.iI))(h2: ¬(v.kind<1\/3<v.kind))(h3:tO seen v.bn=false):uE seen v=0:=by
 unfold uE;rw [CW h1 h2,h3];rfl
theorem JX{vs}(h:256<vs.length):r9 vs=8:=by unfold r9;rw [aB h]
theorem DM{vs k v c}(hl:vs.length<=256)(hp:oS [] vs=oS (vs.take k) (vs.drop k))(hv:vs[k]?=some v)(h:uE (vs.take k) v=c)(hc:c≠0):r9 vs=c:=by
 grind [oS,uE,r9,zH]
theorem JW{vs k v}(hp:oS [] vs=oS (vs.take k) (vs.drop k))(hv:vs[k]?=some v)(h:uE (vs.take k) v=0):oS [] vs=oS (vs.take (k+1)) (vs.drop (k+1)):=by
 grind [oS,uE,zH,dY]
theorem LG{vs k}(hl:vs.length<=256)(hp:oS [] vs=oS (vs.take k) (vs.drop k))(hk:vs.length<=k):r9 vs=0:=by
 unfold r9;rw [an (by omega),hp,List.drop_eq_nil_of_le hk];rfl
def yT (l:List V):List (Int×Value):=l.map λv=>(v.bn, .bool true)
theorem Kw(l r):(lG (yT l) r).getD (.bool false)= .bool (tO l r):=by
 induction l with
 |nil=>rfl
 |cons v l ih=>
  grind [lG,yT,tO]
theorem Kq(l v)(h:tO l v.bn=false):ou (yT l) v.bn (.bool true)=yT (l++[v]):=by
 induction l with
 |nil=>rfl
 |cons x l ih=>
  grind [tO,ou,yT]
theorem LH(A n c vs w)(hx:zw w A n vs):
  Calls Tryz.prog 116 #[.slice A n c] w λe w'=>e= .returned (.int .i64 (r9 vs))/\fM w w':=by
 have hn:=hx.2.1;have hl:=hx.1;refine HF Tryz.func116 Tryz.ntmps116 ?_;refine GD ?_ ?_<;>intro hb
 ·exact cu (v:= .int _ _) rfl rfl rfl λw' hw=>⟨cg (JX (by simp at hb;omega)).symm,hw.1⟩
 simp at hb;refine GX ?_;refine vL rfl λbm=>fI (aU (v:= .map _) (q0 rfl)) ?_;refine GX ?_;refine la ([2,5]++rg 12 51) (λk:Nat=>[(12, .int .i64 k)]) (λk=>[oP bm (yT (vs.take k))]) (λk=>k<=n/\oS [] vs=oS (vs.take k) (vs.drop k)) (λk=>n -k) 0 ⟨bj _,rfl⟩ ?_;rintro k g ⟨hk,hp⟩;refine GD ?_ ?_<;>intro hlt
 ·simp at hlt;obtain ⟨b,off,v,rfl,hbl,hv,hr⟩:=hx.at_ hlt;refine GX ?_;refine bS G7 rfl λb5=>dN (v:= .agg _) rfl rfl N' ?_;refine GD ?_ ?_<;>intro h1
  ·exact cu (v:= .int _ _) rfl rfl rfl λw' hw=>⟨cg (DM (by omega) hp hv (Hj (by simp at h1;omega)) (by decide)).symm,hw.1⟩
  have h1': ¬(v.bn<1\/1000000<v.bn\/v.rider<0\/128<=v.rider\/v.iI<0\/4294943999<v.iI):=by simp at h1;omega
  refine GD ?_ ?_<;>intro h2
  ·exact cu (v:= .int _ _) rfl rfl rfl λw' hw=>⟨cg (DM (by omega) hp hv (JY h1' (by simp at h2;omega)) (by decide)).symm,hw.1⟩
  have h2': ¬(v.kind<1\/3<v.kind):=by simp at h2;omega
  refine GX ?_;refine fI (EI 1 iz av ia (q0 rfl) (q0 rfl) rfl (λ_=>Kw _ _))<|GD ?_ ?_<;>intro h3
  ·exact cu (v:= .int _ _) rfl rfl rfl λw' hw=>⟨cg (DM (by omega) hp hv (Hi h1' h2' h3) (by decide)).symm,hw.1⟩
  refine GX ?_;refine ve 1 iz av rfl rfl rfl rfl<|GX ?_;refine aH (k+1) lg ⟨rfl,trivial⟩ (λw hw=>?_) rfl ⟨by omega,JW hp hv (Oh h1' h2' h3)⟩ (by show n -(k+1)<n -k;omega);have:=hw.tail;rw [dY _ _ _ hv,<-Kq _ _ h3];exact this
 simp at hlt;refine GX ?_;exact cu (v:= .int _ _) rfl rfl rfl λw' hw=>⟨cg (LG (by omega) hp (by omega)).symm,hw.1⟩
end Go.Proofs.Pen
namespace Go.Proofs.Far
open Go Go.RowKit Go.Proofs.E Go.Proofs.Cus
structure Pr where
 jU:List Tf
 lT:List AB
 places:List Int
 iX:List Int
 cap:Int
 fines:List Int
 days:Int
structure Sl where
 A:Option Addr
 n:Nat
 c:Nat
def Sl.v (s:Sl):Value:= .slice s.A s.n s.c
structure tz where
 t:Sl
 p:Sl
 pl:Sl
 d:Sl
 f:Sl
def Pr.cells (p:Pr) (a:tz):List Value:=[.slice a.t.A a.t.n a.t.c, .slice a.p.A a.p.n a.p.c, .slice a.pl.A a.pl.n a.pl.c, .slice a.d.A a.d.n a.d.c, .int .i64 p.cap, .slice a.f.A a.f.n a.f.c, .int .i64 p.days]
structure qh (w:World) (p:Pr) (a:tz):Prop where
 tf:JF w a.t.A a.t.n p.jU
 ps:zB w a.p.A a.p.n p.lT
 pl:lf w a.pl.A a.pl.n p.places
 dk:lf w a.d.A a.d.n p.iX
 fi:lf w a.f.A a.f.n p.fines
theorem qh.mem{w0 w L p a}(h:qh w0 p a)(hm:Mem w0 L w):qh w p a:=⟨h.tf.mem hm,h.ps.mem hm,h.pl.mem hm,h.dk.mem hm,h.fi.mem hm⟩
def ph (n:Int):Bool:=decide (n< -1000000)||decide (1000000<n)
def gS (f:Fl) (p:Pr):Int:=
 if fy f≠0 then fy f
 else if kX p.jU≠0 then kX p.jU
 else if k8 p.lT≠0 then k8 p.lT
 else if p.iX.length≠f.iX.length\/64<p.places.length then 3
 else if (p.places++p.iX).any ph=true then 1
 else if p.cap<0\/1000000000000<p.cap then 1
 else Pen.rk p.fines p.days
theorem MY{f}(h:fy f=0):f.iX.length<=32:=by
 unfold fy at h
 split at h
 ·cases h
 split at h
 ·cases h
 omega
theorem RW{l:List Int}{k:Nat}{x}(h:l[k]?=some x)(hb:ph x=true):l.any ph=true:=l6.2 ⟨x,aq h,hb⟩
theorem RV{l:List Int}{k x}(h:l[k]?=some x)(h0:(l.take k).any ph=false)(hb:ph x=false):(l.take (k+1)).any ph=false:=by
 rw [oT _ _ _ h,E5,h0];simp [hb]
attribute [local irreducible] fy kX k8 Pen.rk
theorem s9(f fa p a w)(hf:mE w f fa)(hp:qh w p a):Calls Tryz.prog 23 #[.agg (f.cells fa).toArray, .agg (p.cells a).toArray] w λe w'=>e= .returned (.int .i64 (gS f p))/\fM w w':=by
 have hfd:=hf.iX.1;have hpd:=hp.dk.1;have hpp:=hp.pl.1;refine HE Tryz.func23 Tryz.ntmps23 ?_;refine cd (v:= .agg _) rfl rfl λb2=>cd (v:= .agg _) rfl rfl λb3=>?_;refine GR ?_;refine jx (en DC (iQ (q0 rfl))) (λ_ w hw=>xM f fa w (hf.mem hw))<|GR ?_;refine bD rfl ?_ ?_<;>intro h1
 ·have h1':fy f≠0:=by simpa using h1
  refine GR ?_;exact cu (v:= .int _ _) rfl rfl rfl λw' hw=>⟨cg (by unfold gS;rw [aB h1']),hw.1⟩
 have h1':fy f=0:=by simpa using h1
 refine GR ?_;refine jx (en Ua (iQ (q0 rfl))) (λ_ w hw=>Bn a.t.A a.t.n a.t.c p.jU w (hp.tf.mem hw))<|GR ?_;refine bD rfl ?_ ?_<;>intro h2
 ·have h2':kX p.jU≠0:=by simpa using h2
  refine GR ?_;exact cu (v:= .int _ _) rfl rfl rfl λw' hw=>⟨cg (by unfold gS;rw [an (λh=>h h1'),aB h2']),hw.1⟩
 have h2':kX p.jU=0:=by simpa using h2
 refine GR ?_;refine jx (en Tryz.call55 (iQ (q0 rfl))) (λ_ w hw=>FL a.p.A a.p.n a.p.c p.lT w (hp.ps.mem hw))<|GR ?_;refine bD rfl ?_ ?_<;>intro h3
 ·have h3':k8 p.lT≠0:=by simpa using h3
  refine GR ?_;exact cu (v:= .int _ _) rfl rfl rfl λw' hw=>⟨cg (by unfold gS;rw [an (λh=>h h1'),an (λh=>h h2'),aB h3']),hw.1⟩
 have h3':k8 p.lT=0:=by simpa using h3
 refine GR ?_;refine bD rfl ?_ ?_<;>intro h4
 ·have h4':p.iX.length≠f.iX.length\/64<p.places.length:=by simp at h4;omega
  refine GR ?_;exact cu (v:= .int _ _) rfl rfl rfl λw' hw=>⟨cg (by unfold gS;rw [an (λh=>h h1'),an (λh=>h h2'),an (λh=>h h3'),aB h4']),hw.1⟩
 have h4': ¬(p.iX.length≠f.iX.length\/64<p.places.length):=by simp at h4;omega
 have hfl:=MY h1';refine GR ?_;refine CB [(.slice none 0 0),(.slice none 0 0)] Tryz.underlying263 ks JM rfl (by kernel_rfl) (pt (v:= .slice _ _ _) rfl (pt (v:= .slice _ _ _) rfl E.p0)) rfl rfl λb44=>oD (en Tryz.call56 (iQ (q0 rfl))) (λw hw=>Nt (some ⟨b44,0,none⟩) 2 a.pl.A a.pl.n a.pl.c p.places a.d.A a.d.n a.d.c p.iX w (fj (enc:=TK) (xs:=[.slice a.pl.A a.pl.n a.pl.c, .slice a.d.A a.d.n a.d.c]) hw (j:=0) rfl (λ_=>rfl) (by simp)) (hp.pl.mem hw) (hp.dk.mem hw) (by omega) (by omega)) rfl (λ_=>rfl) λz=>?_;have herr:gS f p=if (p.places++p.iX).any ph=true then 1 else if p.cap<0\/1000000000000<p.cap then 1 else Pen.rk p.fines p.days:=by
  unfold gS;rw [an (λh=>h h1'),an (λh=>h h2'),an (λh=>h h3'),an h4']
 rw [herr];have hal:(p.places++p.iX).length<=1000:=by rw [aQ];omega
 generalize p.places++p.iX=al at*;obtain ⟨zA,zc⟩:=z;refine GR ?_;refine la ([4,9]++rg 47 11) (λk:Nat=>[(47, .int .i64 k)]) (λ_=>[eO zA zc al,box b44 22 [.slice a.pl.A a.pl.n a.pl.c, .slice a.d.A a.d.n a.d.c],box b3 28 (p.cells a),box b2 24 (f.cells fa)]) (λk=>k<=al.length/\(al.take k).any ph=false) (λk=>al.length -k) 0 ⟨bj _,rfl⟩ ?_;rintro k g ⟨hk,hall⟩;refine GR ?_;refine bD rfl ?_ ?_<;>intro hlt
 ·have hlt':k<al.length:=by simpa using hlt
  obtain ⟨x,hxk⟩: ∃x,al[k]?=some x:=⟨_,ah hlt'⟩;refine gM (λw hw=>fG (j:=0) hw rfl (by omega)) λ⟨rb,hrb⟩=>?_;subst hrb;refine GR ?_;refine fI (cx k aA ae (q0 rfl) (q0 rfl) (λ_=>⟨rfl,hlt'⟩))<|fI (gB (v:= .int .i64 x) aj (q0 rfl) (by exact rQ 0 (k:=1) (enc:=eQ) rfl hxk rfl))<|GR ?_;refine bD rfl ?_ ?_<;>intro hb
  ·have hb':ph x=true:=hb;refine GR ?_;exact cu (v:= .int _ _) rfl rfl rfl λw' hw=>⟨cg (by rw [aB (RW hxk hb')]),hw.1⟩
  have hb':ph x=false:=hb;refine GR ?_;exact na (k+1) ⟨by omega,RV hxk hall hb'⟩
 have hend:k=al.length:=by simp at hlt;omega
 rw [hend,dQ] at hall;rw [an (by rw [hall];decide)];refine GR ?_;refine bD rfl ?_ ?_<;>intro h6
 ·have h6':p.cap<0\/1000000000000<p.cap:=by simp at h6;omega
  refine GR ?_;exact cu (v:= .int _ _) rfl rfl rfl λw' hw=>⟨cg (by rw [aB h6']),hw.1⟩
 have h6': ¬(p.cap<0\/1000000000000<p.cap):=by simp at h6;omega
 rw [an h6'];refine GR ?_;refine jx (en Tryz.call57 (iQ (q0 rfl))) (λ_ w hw=>Pen.AW _ _ _ _ _ a.f.A a.f.n a.f.c p.fines p.days w (hp.fi.mem hw)) ?_;exact GV
end Go.Proofs.Far
namespace Go.Proofs.Far
structure Wn where
 lo:Int
 hi:Int
deriving DecidableEq,Inhabited
def Ap (w:Wn):Bool:=(decide (0<=w.lo)&&decide (w.lo<=w.hi))&&decide (w.hi<=4294944000)
def has (l:List Wn) (t:Int):Prop:= ∃w∈l,w.lo<=t/\t<w.hi
def ja (out:List Wn) (w:Wn):List Wn:=
 if w.lo=w.hi then out
 else match out.getLast? with
  |none=>out++[w]
  |some z=>if w.lo<=z.hi then out.dropLast++[⟨z.lo,max z.hi w.hi⟩] else out++[w]
def wx (l:List Wn):List Wn:=l.foldl ja []
def K0 (l:List Wn):List Wn:=l.mergeSort λx y=>decide (x.lo<=y.lo)
def ic (l:List Wn):List Wn:=wx (K0 l)
def Fm (l:List Wn):Int:=(l.map λw=>w.hi -w.lo).sum
def F6 (l:List Wn):Int:=Fm (ic l)
structure Nf (l:List Wn):Prop where
 pos: ∀w∈l,w.lo<w.hi
 apart:l.Pairwise λa b=>a.hi<b.lo
theorem Nf.tail{a l}(h:Nf (a::l)):Nf l:=⟨λw hw=>h.pos w (bR _ hw),(bB.1 h.apart).2⟩
theorem jQ{a l t}:has (a::l) t↔(a.lo<=t/\t<a.hi)\/has l t:=by
 unfold has
 simp
theorem wT{l m t}:has (l++m) t↔has l t\/has m t:=by
 grind [has]
theorem pV{t}: ¬has [] t:=by rintro ⟨w,hw,_⟩;cases hw
theorem Nf.later{a l}(h:Nf (a::l)){t}(ht:has l t):a.hi<t:=by
 obtain ⟨w,hw,h1,h2⟩:=ht
 have:=(bB.1 h.apart).1 w hw
 omega
theorem Nf.unique: ∀{l m:List Wn},Nf l->Nf m->(∀t,has l t↔has m t)->l=m
 |[],[],_,_,_=>rfl
 |[],b::m,_,hm,h=>by
  have hb:=hm.pos b (by simp)
  exact absurd ((h b.lo).2 (jQ.2 (.inl ⟨uo _,hb⟩))) pV
 |a::l,[],hl,_,h=>by
  have ha:=hl.pos a (by simp)
  exact absurd ((h a.lo).1 (jQ.2 (.inl ⟨uo _,ha⟩))) pV
 |a::l,b::m,hl,hm,h=>by
  have ha:=hl.pos a (by simp)
  have hb:=hm.pos b (by simp)
  have first: ∀{x:Wn} {k:List Wn},Nf (x::k)-> ∀t,has (x::k) t->x.lo<=t:=λ{x k} hx t ht=>by
   have hp:=hx.pos x (by simp)
   rcases jQ.1 ht with h1|h1
   ·exact h1.1
   have:=hx.later h1;omega
  have hlo:a.lo=b.lo:=by
   have h1:=first hm a.lo ((h a.lo).1 (jQ.2 (.inl ⟨uo _,ha⟩)))
   have h2:=first hl b.lo ((h b.lo).2 (jQ.2 (.inl ⟨uo _,hb⟩)))
   omega
  have stop: ∀{x:Wn} {k:List Wn},Nf (x::k)-> ¬has (x::k) x.hi:=λ{x k} hx ht=>by
   rcases jQ.1 ht with h1|h1
   ·omega
   have:=hx.later h1;omega
  have hhi:a.hi=b.hi:=by
   grind [has]
  have hab:a=b:=by
   cases a;cases b
   simp only at hlo hhi
   rw [hlo,hhi]
  subst hab
  have ht: ∀t,has l t↔has m t:=λt=>by
   constructor
   ·intro h1
    rcases jQ.1 ((h t).1 (jQ.2 (.inr h1))) with h2|h2
    ·have:=hl.later h1;omega
    exact h2
   intro h1
   rcases jQ.1 ((h t).2 (jQ.2 (.inr h1))) with h2|h2
   ·have:=hm.later h1;omega
   exact h2
  rw [Nf.unique hl.tail hm.tail ht]
theorem Kv{out w}(h:Nf out)(hw:w.lo<=w.hi)(hlast: ∀z∈out,z.lo<=w.lo):Nf (ja out w)/\(∀t,has (ja out w) t↔has out t\/(w.lo<=t/\t<w.hi))/\ ∀z∈ja out w,z.lo<=w.lo:=by
 unfold ja;by_cases he:w.lo=w.hi
 ·rw [aB he];exact ⟨h,λt=>⟨.inl,λh1=>by rcases h1 with h1|h1;exact h1;omega⟩,hlast⟩
 rw [an he];rcases List.eq_nil_or_concat out with rfl|⟨l,z,rfl⟩
 ·refine ⟨⟨λx hx=>?_,by simp⟩,λt=>?_,λx hx=>?_⟩
  ·simp at hx;subst hx;omega
  ·simp only [List.getLast?_nil,ir];rw [jQ];exact or_comm
  simp at hx;subst hx;omega
 rw [List.concat_eq_append] at h hlast|-;rw [List.getLast?_append,List.getLast?_singleton];simp only [Option.some_or];have hz:=h.pos z (by simp);have hzl:=hlast z (by simp);have hp:=iO.1 h.apart;by_cases hc:w.lo<=z.hi
 ·rw [aB hc,List.dropLast_concat];refine ⟨⟨λx hx=>?_,?_⟩,λt=>?_,λx hx=>?_⟩
  ·rcases bO.1 hx with hx|hx
   ·exact h.pos x (bO.2 (.inl hx))
   simp at hx;subst hx;simp only;omega
  ·refine iO.2 ⟨hp.1,by simp,λx hx y hy=>?_⟩;simp at hy;subst hy;exact hp.2.2 x hx z (by simp)
  ·rw [wT,wT,jQ,jQ];have hn: ¬has [] t:=pV;simp only;constructor
   ·rintro (h1|h1|h1)
    ·exact .inl (.inl h1)
    ·by_cases h2:t<z.hi
     ·exact .inl (.inr (.inl ⟨h1.1,h2⟩))
     right;omega
    exact absurd h1 hn
   rintro ((h1|h1|h1)|h1)
   ·exact .inl h1
   ·exact .inr (.inl (by omega))
   ·exact absurd h1 hn
   exact .inr (.inl (by omega))
  rcases bO.1 hx with hx|hx
  ·exact hlast x (bO.2 (.inl hx))
  simp at hx;subst hx;exact hzl
 rw [an hc];refine ⟨⟨λx hx=>?_,?_⟩,λt=>?_,λx hx=>?_⟩
 ·rcases bO.1 hx with hx|hx
  ·exact h.pos x hx
  simp at hx;subst hx;omega
 ·refine iO.2 ⟨h.apart,by simp,λx hx y hy=>?_⟩;simp at hy;subst hy;rcases bO.1 hx with hx|hx
  ·have:=hp.2.2 x hx z (by simp);omega
  simp at hx;subst hx;omega
 ·rw [wT,jQ];have hn: ¬has [] t:=pV;constructor
  ·rintro (h1|h1|h1)
   ·exact .inl h1
   ·exact .inr h1
   exact absurd h1 hn
  rintro (h1|h1)
  ·exact .inl h1
  exact .inr (.inl h1)
 rcases bO.1 hx with hx|hx
 ·exact hlast x hx
 simp at hx;subst hx;omega
theorem Jc: ∀(l out:List Wn),Nf out->(∀w∈l,w.lo<=w.hi)->l.Pairwise (λa b=>a.lo<=b.lo)->(∀z∈out,∀w∈l,z.lo<=w.lo)->Nf (l.foldl ja out)/\ ∀t,has (l.foldl ja out) t↔has out t\/has l t
 |[],out,h,_,_,_=>⟨h,λt=>⟨.inl,λh1=>h1.elim id λh2=>absurd h2 pV⟩⟩
 |w::l,out,h,hv,hs,hz=>by
  obtain ⟨h1,h2,h3⟩:=Kv h (hv w (by simp)) (λz hzm=>hz z hzm w (by simp));have hs':=bB.1 hs;obtain ⟨h4,h5⟩:=Jc l (ja out w) h1 (λx hx=>hv x (bR _ hx)) hs'.2 (λz hzm x hx=>by
   have:=h3 z hzm;have:=hs'.1 x hx;omega)
  refine ⟨h4,λt=>?_⟩;rw [eh,h5,h2,jQ,or_assoc]
theorem I3{l}(hv: ∀w∈l,w.lo<=w.hi)(hs:l.Pairwise λa b=>a.lo<=b.lo):Nf (wx l)/\ ∀t,has (wx l) t↔has l t:=by
 obtain ⟨h1,h2⟩:=Jc l [] ⟨λw hw=>(by cases hw),List.Pairwise.nil⟩ hv hs (λz hz=>(by cases hz))
 grind [wx,has]
theorem zj(l):(K0 l).Perm l:=lE _ _
theorem GN(l):(K0 l).Pairwise λa b=>a.lo<=b.lo:=by
 have:=kT (le:=λx y:Wn=>decide (x.lo<=y.lo)) (λa b c h1 h2=>by simp at*;omega) (λa b=>by simp;omega) l
 exact this.imp λh=>by simpa using h
theorem Ge{l m}(h:l.Perm m)(t):has l t↔has m t:=by
 grind [has]
theorem xj{l}(hv: ∀w∈l,w.lo<=w.hi):Nf (ic l)/\ ∀t,has (ic l) t↔has l t:=by
 grind [ic,has,I3,zj,GN,Ge]
theorem MH{l s}(hl: ∀w∈l,w.lo<=w.hi)(hp:s.Perm l)(hs:s.Pairwise λa b=>a.lo<=b.lo):wx s=ic l:=by
 grind [wx,ic,I3,xj,Nf.unique,Ge]
def lX (w:Wn) (s:List Wn×Int) (h:Wn):List Wn×Int:=
 if w.hi<=h.lo then s else (if s.2<h.lo then s.1++[⟨s.2,h.lo⟩] else s.1,max s.2 h.hi)
def HV (w:Wn) (s:List Wn×Int):List Wn:=if s.2<w.hi then s.1++[⟨s.2,w.hi⟩] else s.1
def yM (w:Wn) (y:List Wn):List Wn:=HV w (y.foldl (lX w) ([],w.lo))
def one (w:Wn):List Wn:=if w.lo=w.hi then [] else [w]
def mz (w:Wn) (y:List Wn):List Wn:=(one w).flatMap λx=>yM x y
def tU (w h:Wn):List Wn:=if max w.lo h.lo<min w.hi h.hi then [⟨max w.lo h.lo,min w.hi h.hi⟩] else []
def nA (w:Wn) (y:List Wn):List Wn:=(one w).flatMap λx=>y.flatMap (tU x)
theorem CX(w):ic [w]=one w:=by
 unfold ic K0 wx ja one
 simp
theorem I2{w x}(h:x∈one w):x=w/\w.lo≠w.hi:=by
 grind [one]
theorem BU{w}: ∀{y:List Wn} (s:List Wn×Int),(∀h∈y,w.hi<=h.lo)->y.foldl (lX w) s=s
 |[],_,_=>rfl
 |h::y,s,hy=>by
  rw [eh,show lX w s h=s by unfold lX;rw [aB (hy h (by simp))]]
  exact BU s λx hx=>hy x (bR _ hx)
theorem Nf.RU{a l}(h:Nf (a::l)): ∀x∈l,a.lo<=x.lo:=λx hx=>by
 have h1:=(bB.1 h.apart).1 x hx
 have h2:=h.pos a (by simp)
 omega
theorem Nf.drop{l}(h:Nf l)(k):Nf (l.drop k):=⟨λw hw=>h.pos w (List.mem_of_mem_drop hw),h.apart.sublist (List.drop_sublist k l)⟩
theorem FU{w h s}(hp:h.lo<h.hi)(hl:h.hi<=s.2):lX w s h=s:=by
 unfold lX
 grind
def nU (l:List Wn):Prop:= ∀w∈l,0<=w.lo/\w.lo<=w.hi/\w.hi<=4294944000
theorem nU.le{l}(h:nU l): ∀w∈l,w.lo<=w.hi:=λw hw=>(h w hw).2.1
theorem nU.nil:nU []:=λw hw=>by cases hw
theorem nU.append{l m}(hl:nU l)(hm:nU m):nU (l++m):=λw hw=>by
 grind [nU]
theorem nU.one{w}(h:0<=w.lo/\w.lo<=w.hi/\w.hi<=4294944000):nU [w]:=λx hx=>by simp at hx;subst hx;exact h
theorem HU{out w}(h:nU out)(hw:0<=w.lo/\w.lo<=w.hi/\w.hi<=4294944000):nU (ja out w):=by
 unfold ja;split
 ·exact h
 split
 ·exact h.append (nU.one hw)
 rename_i z hz;have hzm:=List.mem_of_getLast? hz;have h1:=h z hzm;split
 ·refine nU.append (λx hx=>h x (List.dropLast_subset _ hx)) (nU.one ?_);simp only;omega
 exact h.append (nU.one hw)
theorem Gi: ∀(l out:List Wn),nU out->nU l->nU (l.foldl ja out)
 |[],_,h,_=>h
 |w::l,out,h,hl=>by
  rw [eh]
  exact Gi l _ (HU h (hl w (by simp))) λx hx=>hl x (bR _ hx)
theorem qF{l}(h:nU l):nU (ic l):=Gi (K0 l) [] nU.nil λw hw=>h w ((zj l).mem_iff.1 hw)
theorem HT(out w):(ja out w).length<=out.length+1:=by
 grind [ja]
theorem Cj: ∀(l out:List Wn),(l.foldl ja out).length<=out.length+l.length
 |[],out=>by simp
 |w::l,out=>by
  rw [eh,cL]
  have h1:=Cj l (ja out w)
  have h2:=HT out w
  omega
theorem sI(l):(ic l).length<=l.length:=by
 have h1:=Cj (K0 l) []
 have h2:=(zj l).length_eq
 grind [ic,wx]
theorem Kp{w h s}(hw:0<=w.lo/\w.lo<=w.hi/\w.hi<=4294944000)(hh:0<=h.lo/\h.lo<=h.hi/\h.hi<=4294944000)(hs:nU s.1/\0<=s.2/\s.2<=4294944000):nU (lX w s h).1/\0<=(lX w s h).2/\(lX w s h).2<=4294944000:=by
 grind [nU,lX]
theorem yO{w}(hw:0<=w.lo/\w.lo<=w.hi/\w.hi<=4294944000): ∀(y:List Wn) (s:List Wn×Int),nU y->(nU s.1/\0<=s.2/\s.2<=4294944000)->nU (y.foldl (lX w) s).1/\0<=(y.foldl (lX w) s).2/\(y.foldl (lX w) s).2<=4294944000
 |[],s,_,hs=>hs
 |h::y,s,hy,hs=>by
  rw [eh]
  exact yO hw y _ (λx hx=>hy x (bR _ hx)) (Kp hw (hy h (by simp)) hs)
theorem yN{w}: ∀(y:List Wn) (s:List Wn×Int),(y.foldl (lX w) s).1.length<=s.1.length+y.length
 |[],s=>by simp
 |h::y,s=>by
  rw [eh,cL]
  have h1:=yN (w:=w) y (lX w s h)
  grind [lX]
theorem Kt{w}(hw:0<=w.lo/\w.lo<=w.hi/\w.hi<=4294944000){y}(hy:nU y):nU (mz w y):=λx hx=>by
 grind [nU,mz,I2,yO,nU.nil,yM,HV,nU.one]
theorem Ie{w}(hw:0<=w.lo/\w.lo<=w.hi/\w.hi<=4294944000){y}(hy:nU y):nU (nA w y):=λx hx=>by
 grind [nU,nA,I2,tU]
open Go Go.RowKit Go.Proofs.E Go.Proofs.Cus
section
variable {α:Type} {e t t2:TypeId} {k:Nat} {enc:α->List Value} {c:Cx} {w0:World} {L:List E.Item} {f:Fr} {K:List E.Item->Fr->Prop} {d:Nat} {ty:TypeId} {pos:String} {af:Array Edge} {x y:Operand} {g:Bool}
theorem C7: ∀(vs P C:List Value),vs.length=C.length->setAt (P++C) P.length vs=P++vs
 |[],P,C,h=>by
  grind [setAt]
 |v::vs,P,[],h=>by cases h
 |v::vs,P,u::C,h=>by
  unfold setAt
  have h1:(P++u::C).set P.length v=(P++[v])++C:=by simp
  have h2:P.length+1=(P++[v]).length:=by simp
  rw [h1,h2,C7 vs (P++[v]) C (by simpa using h)]
  simp
theorem RB(j){b n m cB B i xs ys}(ht:c.P.underlying t=some (.slice e))(hi:c.P.info? e=some i)(hsize:i.size=k)(he: ∀x,(enc x).length=k)(h1: ∀x,(enc x).all kK=true)(hx:ev f x= .slice (some ⟨b,0,none⟩) n m)(hy:ev f y= .slice B n cB)(hk:L[j]?=some (dS e k enc (some ⟨b,0,none⟩) n xs))(hm:n=m)(hxl:xs.length=n)(hr: ∀w,Mem w0 L w->eG w k enc B n ys)(hd:Nat.blt d c.N=true)(next:K (L.set j (dS e k enc (some ⟨b,0,none⟩) n ys)) (kV f d (.int .i64 n))):
  vO c w0 L f ⟨some d, .call {callee:= .builtin .copy,args:= #[x,y],argTypes:= #[t,t2]},ty,pos,af,none⟩ K:=
 ⟨rfl,rfl,hd,λw hw=>by
  subst hm
  obtain ⟨cs,hc,hrow⟩:=nP (hw.item hk)
  have hS:=hr w hw
  have hyl:ys.length=n:=hS.1
  have hvl:(ys.flatMap enc).length=cs.length:=by rw [dX he,hyl,hrow.size]
  have hjL:=ai.1 hk
  have hw1:Mem w0 (L.set j (box b e cs)) w:=hw.swap hk (λz hz=>by
   have:z=b:=hz
   subst this;rfl) hc
  have hk1:(L.set j (box b e cs))[j]?=some (box b e cs):=by simp [hjL.1]
  have ho:(ys.flatMap enc).all kK=true:=by
   rw [kH]
   intro v hv
   obtain ⟨z,hz,hvz⟩:=iY.1 hv
   exact kH.1 (h1 z) v hvz
  obtain ⟨w',hrun,hm',_,_⟩:=p8 (P:=c.P) (b:=b) (t:=e) (o:=0) (k:=j) (ys.flatMap enc) 0 cs w _ hw1 hk1 ho (by omega)
  have hset:setAt cs (0+0) (ys.flatMap enc)=ys.flatMap enc:=by
   have:=C7 (ys.flatMap enc) [] cs hvl
   simpa using this
  rw [gV,hset] at hm'
  have hk2:(L.set j (box b e (ys.flatMap enc)))[j]?=some (box b e (ys.flatMap enc)):=by simp [hjL.1]
  have hm2:Mem w0 (L.set j (dS e k enc (some ⟨b,0,none⟩) n ys)) w':=by
   have:=hm'.swap hk2 (it':=dS e k enc (some ⟨b,0,none⟩) n ys) (λz hz=>by
    have:b=z:=by simpa [dS] using hz
    exact this.symm) (nC he (hm'.item hk2) ⟨by omega,hrow.max,by rw [hvl,hrow.size],[],by simp⟩)
   rwa [gV] at this
  have hload:(Builtin.firstCells i.size n (.slice B n cB)).run c.P w= .ok (ys.flatMap enc).toArray w:=by
   cases B with
   |none=>
    have hn0:n=0:=by
     rcases ga n with h|h
     ·exact h
     obtain ⟨b',off,hb,_⟩:=hS.2.2 h;cases hb
    have:ys=[]:=dR (by omega)
    subst this
    rfl
   |some a=>
    have hcells: ∀q v,(ys.flatMap enc)[q]?=some v->w.cell? (a.add q)=some v:=by
     intro q v hq
     obtain ⟨i',z,r,hz,hv,hqr⟩:=xN he ys q v hq
     have hn:0<n:=by
      have:=(ai.1 hz).1
      omega
     obtain ⟨b',off,hB,_,hcl⟩:=hS.2.2 hn
     cases hB
     rw [rM rfl]
     have:=hcl i' z hz r v hv
     rw [hqr]
     simpa [kf] using this
    have hl:=run_loadCells_list (P:=c.P) w a (ys.flatMap enc) hcells
    rw [hvl,hrow.size,<-hsize] at hl
    exact hl
  have hex:(execOp (ev f) ⟨some d, .call {callee:= .builtin .copy,args:= #[x,y],argTypes:= #[t,t2]},ty,pos,af,none⟩).run c.P w= .ok (.value (.int .i64 n)) w':=by
   have hst:(storeCells ⟨b,0,none⟩ (ys.flatMap enc) 0).run c.P w= .ok () w':=hrun
   simp [execOp,resolve,invoke,builtin,hx,hy,Builtin.copy_,run_underlying ht,Builtin.lenOf,sizeOf,typeInfo,hi,hload,hst,Result.andThen,goInt]
  rw [hex]
  exact ⟨_,hm2,hG hk rfl,next⟩⟩
theorem uX{t1 t2 m n}(hx:gH g f x (.int .i64 m))(hy:gH g f y (.int .i64 n)):gj g c w0 L f (.call {callee:= .builtin .max,args:= #[x,y],argTypes:= #[t1,t2]}) ty (.int .i64 (max m n)):=by
 rw [show max m n=if m<n then n else m by omega]
 exact Qo hx hy
theorem EH{t1 t2 m n}(hx:gH g f x (.int .i64 m))(hy:gH g f y (.int .i64 n)):gj g c w0 L f (.call {callee:= .builtin .min,args:= #[x,y],argTypes:= #[t1,t2]}) ty (.int .i64 (min m n)):=λe _ _ _ _ w _=>by
 have:(if n<m then n else m)=min m n:=by omega
 simp [execOp,resolve,invoke,builtin,hx e,hy e,Builtin.min_,Builtin.min2,<-this]
theorem Qp{k fo v}(hx:gH g f fo v):gj g c w0 L f (.makeFunc (.func k) #[fo] #[]) ty (.func (.func k) #[v] #[]):=λe _ _ _ _ w _=>by simp [execOp,Instr.makeFunc,hx e]
theorem Vp{k ao ts al bd t}(he: ∀args w,(callFunc k args).run c.P w= .ok (.enter k args) w)(ht:gH g f (.tmp t) (.func (.func k) bd.toArray #[]))(ha:g=true->bd++ao.toList.map (ev f)=al):
  lV g c w0 L f (.call {callee:= .value (.tmp t),args:=ao,argTypes:=ts}) ty k al.toArray:=λe _ _ _ _ w _=>by
 have ha:bd.toArray++ao.map (ev f)=al.toArray:=by rw [yP,<-ha e];simp
 simp [execOp,resolve,ht e,Deferred.ofValue,invoke,ha,he]
end
def Wn.cells (x:Wn):List Value:=[.int .i64 x.lo, .int .i64 x.hi]
abbrev ug (w:World) (A:Option Addr) (n:Nat) (xs:List Wn):Prop:=eG w 2 Wn.cells A n xs
abbrev gw (A:Option Addr) (c:Nat) (xs:List Wn):E.Item:=dS 83 2 Wn.cells A c xs
def jv (a b:Int):Int:=if a<b then -1 else if b<a then 1 else 0
theorem vF(a b):decide (jv a b<0)=decide (a<b):=by
 grind [jv]
def Ld (l:List Int):Int:=(l.find? λx=>decide (x≠0)).getD 0
theorem xF(n w):Calls Tryz.prog 181 #[.int .i64 n] w λe w'=>e= .returned (.bool false)/\fM w w':=by
 refine HF Tryz.func181 Tryz.ntmps181 ?_;exact cu (v:= .bool _) rfl rfl rfl λw' hw=>⟨fK (by simp),hw.1⟩
theorem iK(a b w):Calls Tryz.prog 104 #[.int .i64 a, .int .i64 b] w λe w'=>e= .returned (.int .i64 (jv a b))/\fM w w':=by
 refine HF Tryz.func104 Tryz.ntmps104 ?_;refine jx (en Iu (iQ (q0 rfl))) (λ_ w _=>xF a w)<|GX ?_;refine jx (en Iu (iQ (q0 rfl))) (λ_ w _=>xF b w)<|GD ?_ ?_<;>intro h1
 ·cases h1
 refine GD ?_ ?_<;>intro h2
 ·cases h2
 refine GD ?_ ?_<;>intro h3
 ·exact cu (v:= .int _ _) rfl rfl rfl λw' hw=>⟨cg (by unfold jv;rw [aB (by simpa using h3)]),hw.1⟩
 refine GD ?_ ?_<;>intro h4
 ·exact cu (v:= .int _ _) rfl rfl rfl λw' hw=>⟨cg (by unfold jv;rw [an (by simpa using h3),aB (by simpa using h4)]),hw.1⟩
 refine GX ?_;exact cu (v:= .int _ _) rfl rfl rfl λw' hw=>⟨cg (by unfold jv;rw [an (by simpa using h3),an (by simpa using h4)]),hw.1⟩
theorem MF(A n c xs w)(hx:lf w A n xs):Calls Tryz.prog 103 #[.slice A n c] w λe w'=>e= .returned (.int .i64 (Ld xs))/\fM w w':=by
 have hl:=hx.1;have hn:=hx.2.1;refine HF Tryz.func103 Tryz.ntmps103 ?_;refine la ([2,5]++rg 8 9) (λk:Nat=>[(8, .int .i64 k)]) (λ_=>_) (λk=>k<=n/\(xs.take k).find? (λx=>decide (x≠0))=none) (λk=>n -k) 0 ⟨bj _,rfl⟩ ?_;rintro k g ⟨hk,hno⟩;refine GD ?_ ?_<;>intro hlt
 ·simp at hlt;obtain ⟨b,off,x,rfl,hbl,hxk,hrx⟩:=hx.at_ hlt;refine GD ?_ ?_<;>intro h0
  ·exact cu (v:= .int _ _) rfl rfl rfl λw' hw=>⟨cg (by
    unfold Ld;have h0':x≠0:=by simpa using h0
    rw [<-gg k xs,jj,hno];obtain ⟨q1,q2⟩:=ai.1 hxk;rw [cH q1,q2];simp [h0']),hw.1⟩
  refine GX ?_;exact na (k+1) ⟨by omega,by rw [oT _ _ _ hxk,jj,hno];simp at h0;simp [h0]⟩
 obtain rfl:k=n:=by simp at hlt;omega
 refine GX ?_;exact cu (v:= .int _ _) rfl rfl rfl λw' hw=>⟨cg (by unfold Ld;rw [bo (by omega)] at hno;rw [hno];rfl),hw.1⟩
theorem Lv(x w):Calls Tryz.prog 363 #[.agg x.cells.toArray] w λe w'=>e= .returned (.bool (Ap x))/\fM w w':=by
 refine HF Tryz.func363 Tryz.ntmps363 ?_;refine cd (v:= .agg _) rfl rfl λb1=>GX ?_;exact cu (v:= .bool _) rfl rfl rfl λw' hw=>⟨fK (by unfold Ap;cases decide (0<=x.lo)<;>cases decide (x.lo<=x.hi)<;>simp),hw.1⟩
theorem QN(x w):Calls Tryz.prog 362 #[.agg x.cells.toArray] w λe w'=>e= .returned (.bool (!Ap x))/\fM w w':=by
 refine HF Tryz.func362 Tryz.ntmps362 ?_;refine cd (v:= .agg _) rfl rfl λb1=>GX ?_;refine jx (en Tryz.call363 (iQ (q0 rfl))) (λ_ w _=>Lv x w) ?_;exact GW
theorem QM(x y:Wn)(w):Calls Tryz.prog 365 #[.agg x.cells.toArray, .agg y.cells.toArray] w λe w'=>e= .returned (.int .i64 (jv x.lo y.lo))/\fM w w':=by
 refine HF Tryz.func365 Tryz.ntmps365 ?_;refine cd (v:= .agg _) rfl rfl λb2=>cd (v:= .agg _) rfl rfl λb3=>?_;refine GX ?_;refine jx (en iT (jn (q0 rfl) (q0 rfl))) (λ_ w _=>iK x.lo y.lo w) ?_;exact GW
theorem Lz(A n c xs w)(hx:ug w A n xs):Calls Tryz.prog 375 #[.slice A n c, .func (.func 362) #[] #[]] w λe w'=>(∃i:Int,e= .returned (.int .i64 i)/\(decide (0<=i)=xs.any λx=>!Ap x))/\fM w w':=by
 have hl:=hx.1;have hn:=hx.2.1;refine HF Tryz.func375 Tryz.ntmps375 ?_;refine la ([4,5]++rg 8 11) (λk:Nat=>[(8, .int .i64 k)]) (λ_=>[]) (λk=>k<=n/\((xs.take k).any λx=>!Ap x)=false) (λk=>n -k) 0 ⟨bj _,rfl⟩ ?_;rintro k g ⟨hk,hall⟩;refine GD ?_ ?_<;>intro hlt
 ·have hlt':k<n:=by simpa using hlt
  obtain ⟨b,off,x,rfl,hbl,hxk,hrx⟩:=hx.at_ hlt';refine GX ?_;refine jx (vU (cap:=[]) (al:=[.agg x.cells.toArray]) Tryz.call362 (q0 rfl) (λhg=>by rw [iQ (q0 (v:= .agg _) rfl) hg];rfl)) (λ_ w _=>QN x w)<|GD ?_ ?_<;>intro hb
  ·have hb':(!Ap x)=true:=hb;refine GX ?_;exact cu (v:= .int _ _) rfl rfl rfl λw' hw=>⟨⟨k,rfl,by rw [l6.2 ⟨x,aq hxk,hb'⟩];simp⟩,hw.1⟩
  have hb':(!Ap x)=false:=hb;refine GX ?_;exact na (k+1) ⟨by omega,by rw [oT _ _ _ hxk,E5,hall];simp [hb']⟩
 have hend:k=n:=by simp at hlt;omega
 rw [hend,bo (by omega)] at hall;refine GX ?_;exact cu (v:= .int _ _) rfl rfl rfl λw' hw=>⟨⟨-1,rfl,by rw [hall];rfl⟩,hw.1⟩
end Go.Proofs.Far
namespace Go.Proofs.Far
open Go Go.RowKit Go.Proofs.E Go.Proofs.Cus
section
open Go.Shelf Go.Lib Go.Sort
theorem L6 {α:Type} (f:α->Int) (cf:α->α->Int) (h: ∀x y,ltOf cf x y=decide (f x<f y)):SWO (ltOf cf) where
 irrefl x:=by rw [h];simp
 trans x y z h1 h2:=by rw [h] at*;simp at*;omega
 ntrans x y z h1 h2:=by rw [h] at*;simp at*;omega
theorem DZ{α}[Inhabited α]{ρ}(Lay:SlLaysF0.n6 Tryz.prog ρ)(k)(aE: ∀w,(isAgg (ρ.t 24)).run Tryz.prog w= .ok true w)(zE: ∀w,(Go.sizeOf (ρ.t 24)).run Tryz.prog w= .ok k w)(enc)(hk: ∀x,(enc x).length=k)(h1: ∀x,∀v∈enc x,v.oneCell'=true)(cf g)(hO:SWO (ltOf cf))(eg: ∀args w,(callFunc g args).run Tryz.prog w= .ok (.enter g args) w)(hcl: ∀(x y:α) (w:World),Calls Tryz.prog g #[.agg (enc x).toArray, .agg (enc y).toArray] w λe w'=>e= .returned (.int .i64 (cf x y))/\fM w w'){w0 w L}(hw:Mem w0 L w){e j c A xs}(hkj:L[j]?=some (dS e k enc A c xs))(hn:xs.length<=1000000):
  Calls Tryz.prog (ρ.f 6) #[.slice A xs.length c, .func (.func g) #[] #[]] w λr w'=> ∃ys:{ys:List α//ys.Perm xs/\ys.Pairwise λx y=>ltOf cf y x=false},r= .returned (.tuple #[])/\Mem w0 (L.set j (dS e k enc A c ys.1)) w':=by
 rcases ga xs.length with h0|h0
 ·have:xs=[]:=dR h0;subst this;refine (AnyF.slices_SortFunc_none Lay A c (.func (.func g) #[] #[]) w).mono ?_;rintro r w' ⟨rfl,rfl⟩;refine ⟨⟨[],Ao _,List.Pairwise.nil⟩,rfl,?_⟩;have hL:L.set j (dS e k enc A c ([]:List α))=L:=by
   obtain ⟨q1,q2⟩:=ai.1 hkj;rw [<-q2];exact pO q1
  show Mem w0 (L.set j (dS e k enc A c ([]:List α))) _;rw [hL];exact hw
 obtain ⟨b,rfl⟩:=fG hw hkj h0;have hb:b<w.heap.size:=(hw.nE hkj rfl).2;have hcon:=AnyQ.slices_SortFunc Lay k aE zE enc hk h1 cf hO g #[] b 0 c xs.toArray w eg
  (λm os dk _ x y=>by rw [Array.append_empty];exact (hcl x y _).mono λe w' ⟨he,hb⟩=>⟨he,hb.Rr⟩) (wS hk hw hkj) hb (by simp;omega)
 rw [uk] at hcon;refine hcon.mono ?_;rintro r w' ⟨rfl,d',n,os,hp,hs,rfl⟩;have hsz:d'.size=xs.length:=by have:=hp.1;simpa using this
 have hperm:d'.toList.Perm xs:=by
  have h3:=hp.2.2;rw [show d'.extract 0 xs.length=d' by rw [<-hsz];exact Array.extract_size] at h3;have h4:xs.toArray.extract 0 xs.length=xs.toArray:=by simp
  rw [h4] at h3;exact h3
 refine ⟨⟨d'.toList,hperm,?_⟩,rfl,?_⟩
 ·rw [bJ];intro i j' hi hj hij;have hj2:j'<xs.length:=by simpa [hsz] using hj
  have:=hs i j' (bj _) hij hj2;rw [nO d' i (by omega),nO d' j' (by omega)] at this;simpa using this
 have:=tF (n:=n) (os:=os) (ys:=d'.toList) hk hw hkj (by simpa using hsz);simpa using this
end
def Hp:Go.Shelf.Ren:=⟨fun|6=>364|15=>180|14=>376|28=>245|29=>246|20=>379|21=>380|22=>381|23=>382|24=>383|25=>384|26=>385|27=>386|46=>387|47=>311|48=>312|49=>388|50=>389|57=>390|n=>n,fun|22=>346|24=>83|25=>458|3=>3|39=>313|0=>0|53=>364|55=>38|4=>4|46=>358|45=>357|50=>299|5=>5|9=>9|66=>416|70=>420|76=>441|77=>201|n=>n,fun|n=>n⟩
theorem QX:Go.Proofs.SlLaysF0.n6 Tryz.prog Hp:={
 mixed:=by kernel_rfl,
 f6:=⟨Tryz.f364.name,by decide,Tryz.func364.trans (aP some (by kernel_rfl))⟩,
 f14:=⟨Tryz.f376.name,by decide,Tryz.func376.trans (aP some (by kernel_rfl))⟩,
 f15:=Tryz.func180.trans (aP some (by kernel_rfl)),
 f20:=⟨Tryz.f379.name,by decide,Tryz.func379.trans (aP some (by kernel_rfl))⟩,
 f21:=⟨Tryz.f380.name,by decide,Tryz.func380.trans (aP some (by kernel_rfl))⟩,
 f22:=⟨Tryz.f381.name,by decide,Tryz.func381.trans (aP some (by kernel_rfl))⟩,
 f23:=⟨Tryz.f382.name,by decide,Tryz.func382.trans (aP some (by kernel_rfl))⟩,
 f24:=⟨Tryz.f383.name,by decide,Tryz.func383.trans (aP some (by kernel_rfl))⟩,
 f25:=⟨Tryz.f384.name,by decide,Tryz.func384.trans (aP some (by kernel_rfl))⟩,
 f26:=⟨Tryz.f385.name,by decide,Tryz.func385.trans (aP some (by kernel_rfl))⟩,
 f27:=⟨Tryz.f386.name,by decide,Tryz.func386.trans (aP some (by kernel_rfl))⟩,
 f28:=Tryz.func245.trans (aP some (by kernel_rfl)),
 f29:=Tryz.func246.trans (aP some (by kernel_rfl)),
 f46:=⟨Tryz.f387.name,by decide,Tryz.func387.trans (aP some (by kernel_rfl))⟩,
 f47:=Tryz.func311.trans (aP some (by kernel_rfl)),
 f48:=Tryz.func312.trans (aP some (by kernel_rfl)),
 f49:=⟨Tryz.f388.name,by decide,Tryz.func388.trans (aP some (by kernel_rfl))⟩,
 f50:=⟨Tryz.f389.name,by decide,Tryz.func389.trans (aP some (by kernel_rfl))⟩,
 f57:=⟨Tryz.f390.name,by decide,Tryz.func390.trans (aP some (by kernel_rfl))⟩,
 t0:=mY,
 a0:=uz,
 z0:=sr,
 v0:=ob,
 t3:=av,
 a3:=aj,
 z3:=ae,
 v3:=bw,
 t4:=iM,
 a4:=lP,
 z4:=gD,
 v4:=ia,
 t5:=iL,
 a5:=uy,
 z5:=sq,
 v5:=oa,
 t9:=mX,
 a9:=ux,
 z9:=so,
 v9:=n9,
 t22:=bW,
 a22:=Tryz.isAgg346,
 z22:=Tryz.sizeOf346,
 v22:=Tryz.zeroValue346,
 t25:=Tryz.underlying458,
 a25:=Tryz.isAgg458,
 z25:=Tryz.sizeOf458,
 v25:=Tryz.zeroValue458,
 t39:=lx,
 a39:=qU,
 z39:=pI,
 v39:=mf,
 t45:=lu,
 a45:=qT,
 z45:=pH,
 v45:=me,
 t46:=lq,
 a46:=qS,
 z46:=pG,
 v46:=ma,
 t50:=lz,
 a50:=qV,
 z50:=pJ,
 v50:=mg,
 t53:=lp,
 a53:=qR,
 z53:=pF,
 v53:=l',
 t55:=jB,
 a55:=sv,
 z55:=qN,
 v55:=mW,
 t66:=lk,
 a66:=qQ,
 z66:=pE,
 v66:=l9,
 t70:=lj,
 a70:=qP,
 z70:=pD,
 v70:=l8,
 t76:=lh,
 a76:=qO,
 z76:=pC,
 v76:=l7,
 t77:=lB,
 a77:=qW,
 z77:=pL,
 v77:=mi}
section
open Go.Shelf Go.Lib Go.Sort
theorem Of{w0 w L}(hw:Mem w0 L w){j c A xs}(hkj:L[j]?=some (gw A c xs))(hn:xs.length<=1000000):
  Calls Tryz.prog 364 #[.slice A xs.length c, .func (.func 365) #[] #[]] w λr w'=> ∃ys:{ys:List Wn//ys.Perm xs/\ys.Pairwise λx y=>ltOf (λx y:Wn=>jv x.lo y.lo) y x=false},r= .returned (.tuple #[])/\Mem w0 (L.set j (gw A c ys.1)) w':=
 DZ QX 2 wa bK Wn.cells (λ_=>rfl) (λx v hv=>by simp [Wn.cells] at hv;rcases hv with rfl|rfl<;>rfl) _ 365 (L6 (·.lo) _ (λx y=>by unfold ltOf;exact vF _ _)) Tryz.call365 QM hw hkj hn
theorem Lw{w0 w L}(hw:Mem w0 L w){j c n A xs}(hl:xs.length=n)(hkj:L[j]?=some (gw A c xs))(hn:n<=1000000):
  Calls Tryz.prog 364 #[.slice A n c, .func (.func 365) #[] #[]] w λr w'=> ∃ys:{ys:List Wn//ys.Perm xs/\ys.Pairwise λx y=>ltOf (λx y:Wn=>jv x.lo y.lo) y x=false},r= .returned (.tuple #[])/\Mem w0 (L.set j (gw A c ys.1)) w':=by
 subst hl
 exact Of hw hkj hn
theorem J9 {ys:List Wn} (h:ys.Pairwise λx y=>ltOf (λx y:Wn=>jv x.lo y.lo) y x=false):ys.Pairwise λx y=>x.lo<=y.lo:=h.imp λ{a b} hab=>by
 unfold ltOf at hab
 rw [vF] at hab
 simpa using hab
end
theorem E'(A n c xs w)(hx:ug w A n xs):Calls Tryz.prog 361 #[.slice A n c, .func (.func 362) #[] #[]] w λe w'=>e= .returned (.bool (xs.any λx=>!Ap x))/\fM w w':=by
 refine HF Tryz.func361 Tryz.ntmps361 ?_;refine oD (en Tryz.call375 (jn (q0 rfl) (q0 rfl))) (λw hw=>(Lz A n c xs w (hx.mem hw)).mono λr w' h=>(match h with|⟨⟨i,h1,h2⟩,hb⟩=>(⟨(⟨i,h2⟩:{i:Int//decide (0<=i)=xs.any λx=>!Ap x}),h1,ik.2 hb⟩: ∃z:{i:Int//decide (0<=i)=xs.any λx=>!Ap x},r= .returned (.int .i64 z.1)/\Mem w [] w'))) rfl (λ_=>rfl) λz=>GX ?_;exact cu (v:= .bool _) rfl rfl rfl λw' hw=>⟨fK (show decide (0<=z.1)=_ from z.2),hw.1⟩
end Go.Proofs.Far
