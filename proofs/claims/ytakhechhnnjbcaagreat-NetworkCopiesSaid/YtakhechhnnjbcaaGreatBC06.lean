import Derived.Test.YtakhechhnnjbcaaGreatBC05
import Derived.Lib.AppendZerosOnto
import Derived.Test.YtakhechhnnjbcaaGreatBC04
import Derived.Test.YtakhechhnnjbcaaGreatTc
set_option maxRecDepth 100000
set_option maxHeartbeats 8000000
set_option linter.unusedVariables false
set_option linter.unusedSimpArgs false
namespace Go.Proofs.Far
open Go Go.RowKit Go.Proofs.E
section
variable {α:Type} {e t tn:TypeId} {k:Nat} {enc:α→List Value} {c:Cx} {w0:World} {L:List E.Item} {f:Fr} {K:List E.Item→Fr→Prop} {d:Nat} {ty:TypeId} {pos:String} {af:Array Edge} {x y:Operand}
theorem QT (j:Nat) {n:Nat} {i:TypeInfo} {z:Value} {kn:IntKind} (ht:c.P.underlying t=some (.slice e)) (htn:c.P.underlying tn=some (.int kn)) (hi:c.P.info? e=some i) (hz:i.zero=some z) (hsize:i.size=k) (hzs:z.cells.size=k) (hk0:Nat.blt 0 k=true)
  (hx:ev f x= .slice none 0 0) (hy:ev f y= .int .i64 n) (h0:0<n) (hk:L[j]?=some (dR e k enc none 0 ([]:List α))) (hlen:n≤1000000∧i.bytes≤100000) (hd:Nat.blt d c.N=true)
  (next: ∀b c',n≤c'→K (L.set j (dR e k enc (some ⟨b,0,none⟩) c' ([]:List α))) (kX f d (.slice (some ⟨b,0,none⟩) n c'))):
  uz c w0 L f ⟨some d, .call {callee:= .builtin .append,args:= #[x,y],argTypes:= #[t,tn]},ty,pos,af,none⟩ K:=
 ⟨rfl,rfl,hd,fun w hw=>by
  have hk1:0<k:=ep hk0;have hby:n*i.bytes≤140737488355328:=by
   have:=Wl hlen.1 hlen.2;omega
  have h2:=Go.Lib.run_append_grow_zeros (P:=c.P) w t tn ty e i z .i64 kn ht htn hi hz none 0 0 [] (by simp [Builtin.firstCells]) n h0 (by omega) (by omega) (by omega) (by omega) (growslice_fits (by omega) (by rw [dj];exact hby));rw [dj] at h2;have hge:=grownCap_ge w n 0 e;have hcm:=grownCap_le_maxLen w n 0 e (by unfold maxLen;omega);have hex:(execOp (ev f) ⟨some d, .call {callee:= .builtin .append,args:= #[x,y],argTypes:= #[t,tn]},ty,pos,af,none⟩).run c.P w= .ok (.value (.slice (some ⟨w.heap.size,0,none⟩) n (grownCap w n 0 e))) (w.drew.alloc (.cells ((([]:List Value).toArray)++Builtin.zeroCells z.cells n++Builtin.zeroCells z.cells (grownCap w n 0 e -n)) e)):=by
   simp only [execOp,resolve,invoke,builtin];simp [hx,hy,h2]
  rw [hex];have hsz:((([]:List Value).toArray)++Builtin.zeroCells z.cells n++Builtin.zeroCells z.cells (grownCap w n 0 e -n)).size=grownCap w n 0 e*k:=by
   simp only [Builtin.zeroCells,Pv,Wo,Array.size_range,hzs];rw [show (([]:List Value).toArray).size=0 from rfl,dj,←uv,Nat.add_sub_cancel' hge]
  refine ⟨_,hw.H9 (it':=dR e k enc (some ⟨w.heap.size,0,none⟩) (grownCap w n 0 e) []) hk (fun b hb=>?_) (fun b hb=>?_) ?_ ⟨rfl,rfl,rfl,Db _⟩ ?_ (fun b hb hf=>?_),ie hk rfl,next _ _ hge⟩
  ·right;have:w.heap.size=b:=by simpa [dR] using hb
   omega
  ·have:w.heap.size=b:=by simpa [dR] using hb
   show b<(w.heap.push _).size;rw [Array.size_push];omega
  ·show World.ownsRow _ 0 e k (.slice _ 0 _) 0 [];refine ⟨by simp, .inr ⟨w.heap.size,_,_,rfl,aU _,?_,aU _,hcm,hsz,by simp⟩⟩;show (w.heap.push _)[w.heap.size]?=_;rw [Array.getElem?_push_size]
  ·show w.heap.size≤(w.heap.push _).size;rw [Array.size_push];omega
  show (w.heap.push _)[b]?=w.heap[b]?;rw [Array.getElem?_push,ah (by omega)]⟩
theorem Sr {g:Bool} {t el:TypeId} {A:Option Addr} {n cp:Nat} (ht:c.P.underlying t=some (.slice el)) (hx:gw g f x (.slice A n cp)):iO g c w0 L f (.call {callee:= .builtin .cap,args:= #[x],argTypes:= #[t]}) ty (.int .i64 cp):=fun e _ _ _ _ w _=>by
 simp [execOp,resolve,invoke,builtin,hx e,Builtin.cap_,run_underlying ht,Result.andThen,goInt]
end
abbrev dY (A:Option Addr) (c:Nat) (xs:List Int):E.Item:=dR 3 1 aN A c xs
theorem TN (n:Nat) (hn:n≤1000000) (w:World):Calls Tryz.prog 129 #[.slice none 0 0, .int .i64 n] w fun e w'=> ∃x:Option Addr×Nat,e= .returned (.slice x.1 0 x.2)∧Mem w [dY x.1 x.2 []] w':=by
 refine aS Tryz.func129 rfl Tryz.ntmps129 rfl ?_;iterate 12 refine G ?_
 refine au rfl ?_ ?_<;>intro h1
 ·exfalso;simp at h1;omega
 iterate 7 refine G ?_
 refine bO (Sr ak (q0 rfl)) ?_;iterate 2 refine G ?_
 refine bO (ou (r:=0) (q0 rfl) (q0 rfl) (fun _=>⟨by omega,by omega,by omega⟩)) ?_;refine bO (ou (r:=((n:Nat):Int)) (q0 rfl) (q0 rfl) (fun _=>⟨by omega,by omega,by omega⟩)) ?_;iterate 9 refine G ?_
 refine au rfl ?_ ?_<;>intro h2
 ·have h2':0<n:=by simp at h2;omega
  refine fY (L':=[dY none 0 []]) (fun w hw=>hw.eX 3 1 aN rfl) rfl ?_;iterate 3 refine G ?_
  refine bO (Sr ak (q0 rfl)) ?_;refine bO (IF 0 ak ax (q0 rfl) (q0 rfl) (fun _=>⟨rfl,bq _⟩)) ?_;refine G ?_;refine bZ (QT (k:=1) (i:=Tryz.t3) (enc:=aN) 0 ak aG (by kernel_rfl) rfl rfl rfl rfl rfl rfl h2' rfl ⟨hn,by decide⟩ rfl fun b5 c5 hc5=>?_);iterate 2 refine G ?_
  refine bO (IF 0 ak ax (q0 rfl) (q0 rfl) (fun _=>⟨rfl,aU _⟩)) ?_;iterate 10 refine G ?_
  exact bH (v:= .slice _ _ _) rfl rfl rfl fun w' hw=>⟨(some ⟨b5,0,none⟩,c5),rfl,hw⟩
 iterate 9 refine G ?_
 exact bH (v:= .slice _ _ _) rfl rfl rfl fun w' hw=>⟨(none,0),rfl,hw.eX 3 1 aN rfl⟩
def VA (v:Value):List Value:=[v]
theorem Oy (P:Option Addr) (pc:Nat) (A:Option Addr) (n c:Nat) (xs:List Int) (B:Option Addr) (m d:Nat) (ys:List Int) (w:World) (hp:gJ w 1 VA P 2 [.slice A n c, .slice B m d]) (hx:gJ w 1 aN A n xs) (hy:gJ w 1 aN B m ys) (hn:n≤1000) (hm:m≤1000):
  Calls Tryz.prog 73 #[.slice P 2 pc] w fun e w'=> ∃x:Option Addr×Nat,e= .returned (.slice x.1 (xs++ys).length x.2)∧Mem w [dY x.1 x.2 (xs++ys)] w':=by
 have hxl:=hx.1;have hyl:=hy.1;obtain ⟨b,off,v0,rfl,hbl,hv0,hr0⟩:=hp.at_ (show 0<2 by decide);obtain ⟨v1,hv1,hr1⟩:=hp.row (show 1<2 by decide);have e0:v0= .slice A n c:=by simpa using hv0.symm
 have e1:v1= .slice B m d:=by simpa using hv1.symm
 subst e0 e1;obtain ⟨S,hS⟩: ∃S:Nat→Nat,S=fun k=>if k=0 then 0 else if k=1 then n else n+m:=⟨_,rfl⟩
 obtain ⟨T,hT⟩: ∃T:Nat→List Int,T=fun k=>if k=0 then [] else if k=1 then xs else xs++ys:=⟨_,rfl⟩
 have hS0:S 0=0:=by rw [hS];rfl
 have hS1:S 1=n:=by rw [hS];rfl
 have hS2:S 2=n+m:=by rw [hS];rfl
 have hT0:T 0=[]:=by rw [hT];rfl
 have hT1:T 1=xs:=by rw [hT];rfl
 have hT2:T 2=xs++ys:=by rw [hT];rfl
 clear hS hT;refine aS Tryz.func73 rfl Tryz.ntmps73 rfl ?_;iterate 19 refine G ?_
 refine ct [3,5,11,12,13,14,15,16,17,18,19,20,21,22] (fun k:Nat=>[(11, .int .i64 k),(3, .int .i64 (S k:Nat))]) (fun _=>[]) (fun k=>k≤2) (fun k=>2 -k) 0 ⟨rfl,by rw [hS0];rfl,trivial⟩ (fun w hw=>hw) rfl (aU _) ?_;rintro k g hk;iterate 6 refine G ?_
 refine au rfl ?_ ?_<;>intro hlt
 ·have hk2:k=0∨k=1:=by simp at hlt;omega
  rcases hk2 with h0|h0
  ·subst h0;rw [hS0];iterate 6 refine G ?_
   refine bO (bt 0 qO eh (q0 rfl) (q0 rfl) (fun _=>⟨rfl,by decide⟩)) ?_;refine bO (ea (v:= .slice A n c) js (q0 rfl) (by first|exact rc (j:=0) hr0 ‹_› rfl|exact BR hr0 ‹_› rfl)) ?_;iterate 18 refine G ?_
   refine au rfl ?_ ?_<;>intro h3
   ·exfalso;simp at h3;omega
   iterate 7 refine G ?_
   exact ay 1 eE ⟨rfl,by rw [hS1];show Value.int .i64 _=Value.int .i64 _;congr 1;simp,trivial⟩ (fun w hw=>hw) rfl (by decide) (by decide)
  subst h0;rw [hS1];iterate 6 refine G ?_
  refine bO (bt 1 qO eh (q0 rfl) (q0 rfl) (fun _=>⟨rfl,by decide⟩)) ?_;refine bO (ea (v:= .slice B m d) js (q0 rfl) (by first|exact rc (j:=0) hr1 ‹_› rfl|exact BR hr1 ‹_› rfl)) ?_;iterate 18 refine G ?_
  refine au rfl ?_ ?_<;>intro h3
  ·exfalso;simp at h3;omega
  iterate 7 refine G ?_
  exact ay 2 eE ⟨rfl,by rw [hS2];rfl,trivial⟩ (fun w hw=>hw) rfl (by decide) (by decide)
 have hend:k=2:=by simp at hlt;omega
 subst hend;rw [hS2];iterate 8 refine G ?_
 refine qW (en Tryz.call129 (gr (q0 rfl) (q0 rfl))) (fun w hw=>TN (n+m) (by omega) w) rfl (fun _=>rfl) fun z=>?_;iterate 12 refine G ?_
 refine ct [6,8,27,28,29,30,31,32,33,34] (fun q:Nat×Option Addr×Nat=>[(27, .int .i64 q.1),(6, .slice q.2.1 (T q.1).length q.2.2)]) (fun q=>[dY q.2.1 q.2.2 (T q.1)]) (fun q=>q.1≤2) (fun q=>2 -q.1) (0,z.1,z.2) ⟨rfl,by rw [hT0];rfl,trivial⟩ (fun w hw=>by rw [hT0];exact hw) rfl (aU _) ?_;rintro ⟨k,oA,oc⟩ g2 hk2;simp only at hk2;iterate 6 refine G ?_
 refine au rfl ?_ ?_<;>intro hlt2
 ·have hk3:k=0∨k=1:=by simp at hlt2;omega
  rcases hk3 with h0|h0
  ·subst h0;rw [hT0];iterate 6 refine G ?_
   refine bO (bt 0 qO eh (q0 rfl) (q0 rfl) (fun _=>⟨rfl,by decide⟩)) ?_;refine bO (ea (v:= .slice A n c) js (q0 rfl) (by first|exact rc (j:=0) hr0 ‹_› rfl|exact BR hr0 ‹_› rfl)) ?_;iterate 6 refine G ?_
   refine lJ (ba (k:=1) (i:=Tryz.t3) (enc:=aN) 0 ak (by kernel_rfl) rfl rfl rfl rfl (fun _=>rfl) (fun _=>rfl) rfl rfl rfl (fun w hw=>hx.mem hw) ⟨by first|omega|(simp;omega),by decide⟩ rfl fun A1 c1=>?_);iterate 8 refine G ?_
   exact ay (1,A1,c1) eE ⟨rfl,by show _=Value.slice A1 (T 1).length c1;rw [hT1];rfl,trivial⟩ (fun w hw=>by show Mem _ [dY A1 c1 (T 1)] w;rw [hT1];exact hw) rfl (by show 1≤2;decide) (by show 2 -1<2 -0;decide)
  subst h0;rw [hT1];iterate 6 refine G ?_
  refine bO (bt 1 qO eh (q0 rfl) (q0 rfl) (fun _=>⟨rfl,by decide⟩)) ?_;refine bO (ea (v:= .slice B m d) js (q0 rfl) (by first|exact rc (j:=0) hr1 ‹_› rfl|exact BR hr1 ‹_› rfl)) ?_;iterate 6 refine G ?_
  refine lJ (ba (k:=1) (i:=Tryz.t3) (enc:=aN) 0 ak (by kernel_rfl) rfl rfl rfl rfl (fun _=>rfl) (fun _=>rfl) rfl rfl rfl (fun w hw=>hy.mem hw) ⟨by first|omega|(simp;omega),by decide⟩ rfl fun A1 c1=>?_);iterate 8 refine G ?_
  exact ay (2,A1,c1) eE ⟨rfl,by show _=Value.slice A1 (T 2).length c1;rw [hT2];rfl,trivial⟩ (fun w hw=>by show Mem _ [dY A1 c1 (T 2)] w;rw [hT2];exact hw) rfl (by show 2≤2;decide) (by show 2 -2<2 -1;decide)
 have hend2:k=2:=by simp at hlt2;omega
 subst hend2;rw [hT2];iterate 12 refine G ?_
 exact bH (v:= .slice _ _ _) rfl rfl rfl fun w' hw=>⟨(oA,oc),rfl,hw⟩
end Go.Proofs.Far
namespace Go.Proofs.Pen
structure V where
 aP:Int
 rider:Int
 iF:Int
 kind:Int
def V.zero:V:=⟨0,0,0,0⟩
def mY (x:Int):Bool:=decide (x<0)||decide (1000000<x)
def rL (cX:List Int) (days:Int):Int:=
 if 512<cX.length then 8 else if cX.any mY then 1 else if days<0∨49709<days then 1 else 0
def Bo (v:V):Int:=
 if v.aP<1∨1000000<v.aP∨v.rider<0∨128≤v.rider∨v.iF<0∨4294943999<v.iF then 1 else if v.kind<1∨3<v.kind then 14 else 0
def rY (l:List V) (r:Int):Bool:=l.any (fun x=>x.aP==r)
def vW (seen:List V) (v:V):Int:=if Bo v≠0 then Bo v else if rY seen v.aP then 6 else 0
def qj:List V→List V→Int
 |_,[]=>0
 |seen,v::rest=>if vW seen v≠0 then vW seen v else qj (seen++[v]) rest
def sd (l:List V):Int:=if 256<l.length then 8 else qj [] l
def before (a b:V):Bool:=decide (a.iF<b.iF)||(decide (a.iF=b.iF)&&decide (a.aP<b.aP))
def NF (days:Int) (x v:V):Bool:=decide (v.iF/86400 -days≤x.iF/86400)
def hit (days:Int) (v x:V):Bool:=(x.rider==v.rider&&x.kind==2)&&(before x v&&NF days x v)
def V5 (days:Int) (l:List V) (v:V):Nat:=(l.filter (hit days v)).length
def num (days:Int) (l:List V) (v:V):Int:=if v.kind=2 then 1+(V5 days l v:Int) else 0
def G3 (cX:List Int) (days:Int) (l:List V) (v:V):Int:=
 if num days l v=0∨cX.length=0 then 0 else cX.getD (min (num days l v).toNat cX.length -1) 0
def sa (rider:Int) (l:List V):List V:=l.filter (fun x=>x.rider==rider&&x.kind==2)
def Wr (f:V→Int) (l:List V):Int:=(l.map f).sum
def total (cX:List Int) (days:Int) (l:List V) (rider:Int):Int:=Wr (G3 cX days l) (sa rider l)
def CU (cX:List Int) (days:Int) (l:List V):Int:=if rL cX days≠0 then rL cX days else sd l
def Di (cX:List Int) (days:Int) (l:List V) (i:Int):Int×Int:=
 if CU cX days l≠0 then (0,CU cX days l) else if i<0∨(l.length:Int)≤i then (0,7) else (num days l (l.getD i.toNat V.zero),0)
def ti (cX:List Int) (days:Int) (l:List V) (i:Int):Int×Int:=
 if CU cX days l≠0 then (0,CU cX days l) else if i<0∨(l.length:Int)≤i then (0,7) else (G3 cX days l (l.getD i.toNat V.zero),0)
theorem iJ {α:Type} (l:List α) (k:Nat) (v:α) (h:l[k]?=some v):l.take (k+1)=l.take k++[v]:=by
 rw [iy,h];rfl
theorem drop_cons {α:Type} (l:List α) (k:Nat) (v:α) (h:l[k]?=some v):l.drop k=v::l.drop (k+1):=by
 obtain ⟨hk,rfl⟩:=aa.1 h;exact cL hk
theorem z' (seen l:List V) (k:Nat) (v:V) (h:l[k]?=some v):qj seen (l.drop k)=if vW seen v≠0 then vW seen v else qj (seen++[v]) (l.drop (k+1)):=by
 rw [drop_cons l k v h];rfl
end Go.Proofs.Pen
