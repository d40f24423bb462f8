import Derived.Test.YtakhechhnnjbcaaGreatBC07
import Derived.Test.YtakhechhnnjbcaaGreatBC04
import Derived.Sort.Statements
import Derived.Test.YtakhechhnnjbcaaGreatTc
set_option maxRecDepth 100000
set_option maxHeartbeats 8000000
set_option linter.unusedVariables false
set_option linter.unusedSimpArgs false
namespace Go.Proofs.Far
def lI (w:Wn) (s:List Wn×Int) (h:Wn):List Wn×Int:=
 if w.hi≤h.lo then s else (if s.2<h.lo then s.1++[⟨s.2,h.lo⟩] else s.1,max s.2 h.hi)
def GH (w:Wn) (s:List Wn×Int):List Wn:=if s.2<w.hi then s.1++[⟨s.2,w.hi⟩] else s.1
def zF (w:Wn) (y:List Wn):List Wn:=GH w (y.foldl (lI w) ([],w.lo))
def one (w:Wn):List Wn:=if w.lo=w.hi then [] else [w]
def lS (w:Wn) (y:List Wn):List Wn:=(one w).flatMap fun x=>zF x y
def tM (w h:Wn):List Wn:=if max w.lo h.lo<min w.hi h.hi then [⟨max w.lo h.lo,min w.hi h.hi⟩] else []
def lY (w:Wn) (y:List Wn):List Wn:=(one w).flatMap fun x=>y.flatMap (tM x)
theorem zf (w:Wn):gE [w]=one w:=by
 unfold gE Ho uR iN one;rw [List.mergeSort_singleton];simp only [cO,List.foldl_nil,List.getLast?_nil,ka]
theorem vI {w x:Wn} (h:x∈one w):x=w∧w.lo≠w.hi:=by
 unfold one at h;split at h
 ·cases h
 simp at h;exact ⟨h,by assumption⟩
theorem Ce {w:Wn}: ∀{y:List Wn} (s:List Wn×Int),(∀h∈y,w.hi≤h.lo)→y.foldl (lI w) s=s
 |[],_,_=>rfl
 |h::y,s,hy=>by
  rw [cO,show lI w s h=s by unfold lI;rw [av (hy h (by simp))]];exact Ce s fun x hx=>hy x (aB _ hx)
theorem Nf.Ub {a:Wn} {l:List Wn} (h:Nf (a::l)): ∀x∈l,a.lo≤x.lo:=fun x hx=>by
 have h1:=(bL.1 h.apart).1 x hx;have h2:=h.pos a (by simp);omega
theorem Nf.drop {l:List Wn} (h:Nf l) (k:Nat):Nf (l.drop k):=⟨fun w hw=>h.pos w (List.mem_of_mem_drop hw),h.apart.sublist (List.drop_sublist k l)⟩
theorem GB {w h:Wn} {s:List Wn×Int} (hp:h.lo<h.hi) (hl:h.hi≤s.2):lI w s h=s:=by
 unfold lI;split
 ·rfl
 rw [ah (by omega),show max s.2 h.hi=s.2 by omega]
def oU (l:List Wn):Prop:= ∀w∈l,0≤w.lo∧w.lo≤w.hi∧w.hi≤4294944000
theorem oU.le {l:List Wn} (h:oU l): ∀w∈l,w.lo≤w.hi:=fun w hw=>(h w hw).2.1
theorem oU.nil:oU []:=fun w hw=>by cases hw
theorem oU.append {l m:List Wn} (hl:oU l) (hm:oU m):oU (l++m):=fun w hw=>by
 rcases aQ.1 hw with h|h
 ·exact hl w h
 exact hm w h
theorem oU.one {w:Wn} (h:0≤w.lo∧w.lo≤w.hi∧w.hi≤4294944000):oU [w]:=fun x hx=>by simp at hx;subst hx;exact h
theorem Ip {out:List Wn} {w:Wn} (h:oU out) (hw:0≤w.lo∧w.lo≤w.hi∧w.hi≤4294944000):oU (iN out w):=by
 unfold iN;split
 ·exact h
 split
 ·exact h.append (oU.one hw)
 rename_i z hz;have hzm:=List.mem_of_getLast? hz;have h1:=h z hzm;split
 ·refine oU.append (fun x hx=>h x (List.dropLast_subset _ hx)) (oU.one ?_);simp only;omega
 exact h.append (oU.one hw)
theorem GZ: ∀(l out:List Wn),oU out→oU l→oU (l.foldl iN out)
 |[],_,h,_=>h
 |w::l,out,h,hl=>by
  rw [cO];exact GZ l _ (Ip h (hl w (by simp))) fun x hx=>hl x (aB _ hx)
theorem qD {l:List Wn} (h:oU l):oU (gE l):=GZ (Ho l) [] oU.nil fun w hw=>h w ((vT l).mem_iff.1 hw)
theorem Io (out:List Wn) (w:Wn):(iN out w).length≤out.length+1:=by
 unfold iN;split
 ·omega
 split
 ·simp
 split
 ·simp
 simp
theorem Cz: ∀(l out:List Wn),(l.foldl iN out).length≤out.length+l.length
 |[],out=>by simp
 |w::l,out=>by
  rw [cO,bB];have h1:=Cz l (iN out w);have h2:=Io out w;omega
theorem sW (l:List Wn):(gE l).length≤l.length:=by
 have h1:=Cz (Ho l) [];have h2:=(vT l).length_eq;unfold gE uR;simp only [eU,dj] at h1;omega
theorem K9 {w h:Wn} {s:List Wn×Int} (hw:0≤w.lo∧w.lo≤w.hi∧w.hi≤4294944000) (hh:0≤h.lo∧h.lo≤h.hi∧h.hi≤4294944000) (hs:oU s.1∧0≤s.2∧s.2≤4294944000):oU (lI w s h).1∧0≤(lI w s h).2∧(lI w s h).2≤4294944000:=by
 unfold lI;split
 ·exact hs
 refine ⟨?_,by simp only;omega,by simp only;omega⟩;simp only;split
 ·exact hs.1.append (oU.one (by simp only;omega))
 exact hs.1
theorem zH {w:Wn} (hw:0≤w.lo∧w.lo≤w.hi∧w.hi≤4294944000): ∀(y:List Wn) (s:List Wn×Int),oU y→(oU s.1∧0≤s.2∧s.2≤4294944000)→oU (y.foldl (lI w) s).1∧0≤(y.foldl (lI w) s).2∧(y.foldl (lI w) s).2≤4294944000
 |[],s,_,hs=>hs
 |h::y,s,hy,hs=>by
  rw [cO];exact zH hw y _ (fun x hx=>hy x (aB _ hx)) (K9 hw (hy h (by simp)) hs)
theorem zG {w:Wn}: ∀(y:List Wn) (s:List Wn×Int),(y.foldl (lI w) s).1.length≤s.1.length+y.length
 |[],s=>by simp
 |h::y,s=>by
  rw [cO,bB];have h1:=zG (w:=w) y (lI w s h);have h2:(lI w s h).1.length≤s.1.length+1:=by
   unfold lI;split
   ·omega
   simp only;split<;>simp
  omega
theorem Le {w:Wn} (hw:0≤w.lo∧w.lo≤w.hi∧w.hi≤4294944000) {y:List Wn} (hy:oU y):oU (lS w y):=fun x hx=>by
 unfold lS at hx;obtain ⟨z,hz,hx2⟩:=dO.1 hx;clear hx;obtain ⟨rfl,_⟩:=vI hz;obtain ⟨h1,h2,h3⟩:=zH hw y ([],z.lo) hy ⟨oU.nil,by simp only;omega,by simp only;omega⟩;unfold zF GH at hx2;split at hx2
 ·exact (h1.append (oU.one (by simp only;omega))) x hx2
 exact h1 x hx2
theorem IJ {w:Wn} (hw:0≤w.lo∧w.lo≤w.hi∧w.hi≤4294944000) {y:List Wn} (hy:oU y):oU (lY w y):=fun x hx=>by
 unfold lY at hx;obtain ⟨z,hz,hx2⟩:=dO.1 hx;clear hx;obtain ⟨rfl,_⟩:=vI hz;obtain ⟨h,hh,hx3⟩:=dO.1 hx2;clear hx2;unfold tM at hx3;have:=hy h hh;split at hx3
 ·simp at hx3;subst hx3;simp only;omega
 cases hx3
end Go.Proofs.Far
namespace Go.Proofs.Cus
open Go.Sort
deriving instance DecidableEq,Inhabited for Ev
def j0 (a b:Int):Int:=if a<b then -1 else if b<a then 1 else 0
def si:List Int→List Int→Int
 |a::l,b::r=>if j0 a b≠0 then j0 a b else si l r
 |_,_=>0
def Ev.keys (e:Ev):List Int:=[e.at_,e.device,e.seq,e.late,e.kind,e.bD,e.place,e.rider,e.aP]
def yH (a b:Ev):Int:=si a.keys b.keys
def Nb (l:List Int):Int:=(l.find? (fun x=>decide (x≠0))).getD 0
def BD (a b:Ev):Int:=Nb [j0 a.device b.device,j0 a.seq b.seq,yH a b]
def lexLt:List Int→List Int→Bool
 |a::l,b::r=>if a≠b then decide (a<b) else lexLt l r
 |_,_=>false
def fL (a b:Ev):Bool:=lexLt a.keys b.keys
def eH (a b:Ev):Bool:=[a.device,a.seq]==[b.device,b.seq]
theorem qw: ∀l,lexLt l l=false
 |[]=>rfl
 |a::l=>by simp [lexLt,qw l]
theorem rV: ∀{a b c:List Int},a.length=b.length→b.length=c.length→lexLt a b=true→lexLt b c=true→lexLt a c=true
 |[],[],[],_,_,h,_=>by simp [lexLt] at h
 |x::a,y::b,z::c,h1,h2,h3,h4=>by
  simp only [bB,WR] at h1 h2;simp only [lexLt] at h3 h4⊢;by_cases e1:x=y
  ·subst e1;simp only [Km,Uy,lM] at h3;by_cases e2:x=z
   ·subst e2;simp only [Km,Uy,lM] at h4⊢;exact rV h1 h2 h3 h4
   simp only [Km,e2,ix,qo] at h4⊢;exact h4
  simp only [Km,e1,ix,qo,dd] at h3;by_cases e2:y=z
  ·subst e2;simp only [Km,e1,ix,qo,dd];exact h3
  simp only [Km,e2,ix,qo,dd] at h4;have e3:x≠z:=by omega
  simp only [Km,e3,ix,qo,dd];omega
 |[],[],_::_,_,h,_,_=>by simp at h
 |[],_::_,_,h,_,_,_=>by simp at h
 |_::_,[],_,h,_,_,_=>by simp at h
 |_::_,_::_,[],_,h,_,_=>by simp at h
theorem mm: ∀{a b:List Int},a.length=b.length→lexLt a b=false→lexLt b a=false→a=b
 |[],[],_,_,_=>rfl
 |x::a,y::b,h1,h2,h3=>by
  simp only [bB,WR] at h1;simp only [lexLt] at h2 h3;by_cases e:x=y
  ·subst e;simp only [Km,Uy,lM] at h2 h3;rw [mm h1 h2 h3]
  simp only [Km,e,ix,qo,dm,Ne.symm e] at h2 h3;omega
 |[],_::_,h,_,_=>by simp at h
 |_::_,[],h,_,_=>by simp at h
theorem xU {α:Type} (key:α→List Int) (n:Nat) (hn: ∀x,(key x).length=n):SWO (fun x y=>lexLt (key x) (key y)) where
 irrefl x:=qw _
 trans x y z h1 h2:=rV (by rw [hn,hn]) (by rw [hn,hn]) h1 h2
 ntrans x y z h1 h2:=by
  cases h:lexLt (key x) (key z) with
  |false=>rfl
  |true=>
   cases h3:lexLt (key y) (key x) with
   |true=>
    have:=rV (by rw [hn,hn]) (by rw [hn,hn]) h3 h;rw [h2] at this;cases this
   |false=>
    have:=mm (by rw [hn,hn]) h1 h3;rw [this] at h;rw [h2] at h;cases h
theorem vL: ∀(a b:List Int),decide (si a b<0)=lexLt a b
 |[],[]=>rfl
 |[],_::_=>rfl
 |_::_,[]=>rfl
 |x::a,y::b=>by
  simp only [si,lexLt,j0];by_cases h1:x<y
  ·have:x≠y:=by omega
   simp [h1,this]
  by_cases h2:y<x
  ·have:x≠y:=by omega
   simp [h1,h2,this]
  have:x=y:=by omega
  subst this;simp [vL a b]
def Ev.re (e:Ev):List Int:=e.device::e.seq::e.keys
theorem KL (a b:Ev):decide (BD a b<0)=lexLt a.re b.re:=by
 have h3:=vL a.keys b.keys;simp only [BD,Ev.re,lexLt,Nb,yH,j0];by_cases h1:a.device<b.device
 ·have:a.device≠b.device:=by omega
  simp [h1,this]
 by_cases h2:b.device<a.device
 ·have:a.device≠b.device:=by omega
  simp [h1,h2,this]
 have:a.device=b.device:=by omega
 simp only [this,Int.lt_irrefl,lM,Km,Uy];by_cases h4:a.seq<b.seq
 ·have:a.seq≠b.seq:=by omega
  simp [h4,this]
 by_cases h5:b.seq<a.seq
 ·have:a.seq≠b.seq:=by omega
  simp [h4,h5,this]
 have:a.seq=b.seq:=by omega
 simp only [this,Int.lt_irrefl,lM,Km,Uy];rw [←h3];by_cases h6:si a.keys b.keys=0<;>simp [h6]
theorem uX {a b:Ev} (h:a.keys=b.keys):a=b:=by
 cases a;cases b;simp only [Ev.keys,UN,Mc] at h;obtain ⟨rfl,rfl,rfl,rfl,rfl,rfl,rfl,rfl,rfl⟩:=h;rfl
theorem Lp {a b:Ev} (h:a.re=b.re):a=b:=uX (by simp only [Ev.re,UN] at h;exact h.2.2)
theorem nK (a:Ev):fL a a=false:=qw _
theorem Ir {a b c:Ev} (h1:fL a b=true) (h2:fL b c=true):fL a c=true:=rV (a:=a.keys) (b:=b.keys) (c:=c.keys) rfl rfl h1 h2
theorem tI {a b:Ev} (h1:fL a b=false) (h2:fL b a=false):a=b:=uX (mm rfl h1 h2)
theorem Is {a b:Ev} (h1:fL a b=true):fL b a=false:=by
 cases h:fL b a with
 |false=>rfl
 |true=>have:=Ir h1 h;rw [nK] at this;cases this
theorem qX {a b:Ev}:eH a b=true↔a.device=b.device∧a.seq=b.seq:=by simp [eH]
theorem KO (a:Ev):eH a a=true:=qX.2 ⟨rfl,rfl⟩
theorem zo {a b:Ev} (h:eH a b=true):eH b a=true:=by rw [qX] at*;omega
theorem BF {a b c:Ev} (h:eH a b=true) (h2:eH b c=true):eH a c=true:=by rw [qX] at*;omega
structure C8 (l s:List Ev):Prop where
 sorted:s.Pairwise (fun a b=>fL a b=true)
 mem: ∀e,e∈s↔e∈l∧ ∀e'∈l,eH e e'=true→fL e' e=false
theorem pB: ∀{s t:List Ev},s.Pairwise (fun a b=>fL a b=true)→t.Pairwise (fun a b=>fL a b=true)→(∀e,e∈s↔e∈t)→s=t
 |[],[],_,_,_=>rfl
 |[],b::t,_,_,h=>by have:=(h b).2 (by simp);simp at this
 |a::s,[],_,_,h=>by have:=(h a).1 (by simp);simp at this
 |a::s,b::t,hs,ht,h=>by
  rw [bL] at hs ht;have hab:a=b:=by
   have h1:=(h a).1 (by simp);have h2:=(h b).2 (by simp);rcases bU.1 h1 with h1|h1
   ·exact h1
   rcases bU.1 h2 with h2|h2
   ·exact h2.symm
   have:=Is (ht.1 a h1);rw [hs.1 b h2] at this;cases this
  subst hab;congr 1;refine pB hs.2 ht.2 fun e=>?_;have he:=h e;simp only [bU] at he;constructor
  ·intro hm;rcases he.1 (.inr hm) with rfl|h3
   ·have:=hs.1 e hm;rw [nK] at this;cases this
   exact h3
  intro hm;rcases he.2 (.inr hm) with rfl|h3
  ·have:=ht.1 e hm;rw [nK] at this;cases this
  exact h3
theorem C8.unique {l s t:List Ev} (h1:C8 l s) (h2:C8 l t):s=t:=pB h1.sorted h2.sorted fun e=>by rw [h1.mem,h2.mem]
theorem C8.congr {l m s:List Ev} (h:C8 l s) (hm: ∀e,e∈l↔e∈m):C8 m s:=⟨h.sorted,fun e=>by rw [h.mem,hm];simp only [hm]⟩
def gg {α:Type} (eq:α→α→Bool):α→List α→List α
 |_,[]=>[]
 |p,y::ys=>if eq y p=true then gg eq y ys else y::gg eq y ys
def gn {α:Type} (eq:α→α→Bool):List α→List α
 |[]=>[]
 |x::xs=>x::gg eq x xs
def Cs (a b:Ev):Bool:=!lexLt b.re a.re
def HE (a b:Ev):Bool:=!lexLt b.keys a.keys
def setOf (l:List Ev):List Ev:=(gn eH (l.mergeSort Cs)).mergeSort HE
theorem JC {a b:Ev} (h:Cs a b=true):a.device<b.device∨(a.device=b.device∧a.seq≤b.seq):=by
 simp only [Cs,Ev.re,lexLt,jg] at h;by_cases h1:b.device=a.device
 ·by_cases h2:b.seq=a.seq
  ·omega
  simp only [h1,h2,Km,Uy,lM,ix,qo,dm] at h;omega
 simp only [h1,Km,ix,qo,dm] at h;omega
theorem yw {a b:Ev} (h:Cs a b=true) (hs:eH a b=true):fL b a=false:=by
 rw [qX] at hs;simpa [Cs,Ev.re,lexLt,hs.1,hs.2,fL] using h
theorem pD {e:Ev}: ∀(xs:List Ev) (p:Ev),(p::xs).Pairwise (fun a b=>Cs a b=true)→
  (e∈gg eH p xs↔e∈xs∧eH e p=false∧ ∀e'∈xs,eH e e'=true→fL e' e=false)
 |[],p,_=>by simp [gg]
 |y::ys,p,hp=>by
  have hp':=hp;rw [bL] at hp;have hy:=hp.2;rw [bL] at hy;have ih:=pD (e:=e) ys y hp.2;simp only [gg];by_cases hs:eH y p=true
  ·rw [av hs,ih];constructor
   ·rintro ⟨h1,h2,h3⟩;refine ⟨aB _ h1,?_,fun e' he' hse=>?_⟩
    ·cases h:eH e p with
     |false=>rfl
     |true=>rw [BF h (zo hs)] at h2;cases h2
    rcases bU.1 he' with rfl|he'
    ·rw [hse] at h2;cases h2
    exact h3 e' he' hse
   rintro ⟨h1,h2,h3⟩;have hne:e≠y:=fun h=>by subst h;rw [hs] at h2;cases h2
   refine ⟨(bU.1 h1).resolve_left hne,?_,fun e' he'=>h3 e' (aB _ he')⟩;cases h:eH e y with
   |false=>rfl
   |true=>rw [BF h hs] at h2;cases h2
  rw [ah hs,bU,ih];constructor
  ·rintro (rfl|⟨h1,h2,h3⟩)
   ·refine ⟨by simp,by simpa using hs,fun e' he' hse=>?_⟩;rcases bU.1 he' with rfl|he'
    ·exact nK _
    exact yw (hy.1 e' he') hse
   refine ⟨aB _ h1,?_,fun e' he' hse=>?_⟩
   ·cases h:eH e p with
    |false=>rfl
    |true=>
     have a1:=JC (hp.1 y (by simp));have a2:=JC (hy.1 e h1);rw [qX] at h;exact absurd (qX.2 (by omega)) hs
   rcases bU.1 he' with rfl|he'
   ·rw [hse] at h2;cases h2
   exact h3 e' he' hse
  rintro ⟨h1,h2,h3⟩;rcases bU.1 h1 with h1|h1
  ·exact .inl h1
  cases h:eH e y with
  |false=>exact .inr ⟨h1,rfl,fun e' he'=>h3 e' (aB _ he')⟩
  |true=>exact .inl (tI (yw (hy.1 e h1) (zo h)) (h3 y (by simp) h))
theorem qg: ∀(xs:List Ev) (p:Ev),(p::xs).Pairwise (fun a b=>Cs a b=true)→(gg eH p xs).Pairwise (fun a b=>eH b a=false)
 |[],p,_=>by simp [gg]
 |y::ys,p,hp=>by
  rw [bL] at hp;simp only [gg];split
  ·exact qg ys y hp.2
  refine bL.2 ⟨fun e he=>((pD ys y hp.2).1 he).2.1,qg ys y hp.2⟩
theorem rW {key:Ev→List Int} {n:Nat} (hn: ∀x,(key x).length=n) (a b c:Ev) (h1:(!lexLt (key b) (key a))=true) (h2:(!lexLt (key c) (key b))=true):(!lexLt (key c) (key a))=true:=by
 simp only [jg] at*;exact (xU key n hn).ntrans c b a h2 h1
theorem rX {key:Ev→List Int} {n:Nat} (hn: ∀x,(key x).length=n) (a b:Ev):((!lexLt (key b) (key a))||(!lexLt (key a) (key b)))=true:=by
 cases h:lexLt (key b) (key a) with
 |false=>rfl
 |true=>
  cases h2:lexLt (key a) (key b) with
  |false=>rfl
  |true=>
   have:=(xU key n hn).trans a b a h2 h;simp only [qw] at this;cases this
theorem mx (l:List Ev):C8 l (setOf l):=by
 have hp1:(l.mergeSort Cs).Perm l:=eT _ _;have hs1:(l.mergeSort Cs).Pairwise (fun a b=>Cs a b=true):=iz (rW (key:=Ev.re) (n:=11) (fun _=>rfl)) (rX (key:=Ev.re) (n:=11) (fun _=>rfl)) l;have hmem: ∀e,e∈gn eH (l.mergeSort Cs)↔e∈l∧ ∀e'∈l,eH e e'=true→fL e' e=false:=by
  intro e;have hm: ∀x,x∈l↔x∈l.mergeSort Cs:=fun x=>(hp1.mem_iff).symm;simp only [hm]
  revert hs1
  generalize l.mergeSort Cs=s;intro hs1;cases s with
  |nil=>simp [gn]
  |cons x xs=>
   simp only [gn,bU,pD xs x hs1];have hx:=(bL.1 hs1).1;constructor
   ·rintro (rfl|⟨h1,h2,h3⟩)
    ·refine ⟨.inl rfl,fun e' he' hse=>?_⟩;rcases he' with rfl|he'
     ·exact nK _
     exact yw (hx e' he') hse
    refine ⟨.inr h1,fun e' he' hse=>?_⟩;rcases he' with rfl|he'
    ·rw [hse] at h2;cases h2
    exact h3 e' he' hse
   rintro ⟨h1,h3⟩;rcases h1 with h1|h1
   ·exact .inl h1
   cases h:eH e x with
   |false=>exact .inr ⟨h1,rfl,fun e' he'=>h3 e' (.inr he')⟩
   |true=>exact .inl (tI (yw (hx e h1) (zo h)) (h3 x (.inl rfl) h))
 have hnd:(gn eH (l.mergeSort Cs)).Pairwise (fun a b=>eH b a=false):=by
  cases hs:l.mergeSort Cs with
  |nil=>simp [gn]
  |cons x xs=>
   rw [hs] at hs1;exact bL.2 ⟨fun e he=>((pD xs x hs1).1 he).2.1,qg xs x hs1⟩
 have hp2:(setOf l).Perm (gn eH (l.mergeSort Cs)):=eT _ _;have hs2:(setOf l).Pairwise (fun a b=>HE a b=true):=iz (rW (key:=Ev.keys) (n:=9) (fun _=>rfl)) (rX (key:=Ev.keys) (n:=9) (fun _=>rfl)) _;have hnd2:(setOf l).Pairwise (fun a b=>a≠b):=by
  have:(gn eH (l.mergeSort Cs)).Nodup:=hnd.imp fun {a b} h e=>by subst e;rw [KO] at h;cases h
  exact hp2.nodup_iff.2 this
 refine ⟨(hs2.and hnd2).imp fun {a b} ⟨h1,h2⟩=>?_,fun e=>by rw [hp2.mem_iff,hmem]⟩;cases h:fL a b with
 |true=>rfl
 |false=>
  have h3:fL b a=false:=by simpa [HE,fL] using h1
  exact absurd (tI h h3) h2
section
variable {β:Type} {v:Int→β}
def Rw (T:List (Int×β)):Prop:=T.Pairwise fun a b=>a.1≤b.1
theorem Rw.parts {A B:List (Int×β)} (h:Rw (A++B)):Rw A∧Rw B∧ ∀a∈A,∀b∈B,a.1≤b.1:=by
 have:=jA.1 h;exact this
end
section
variable {β:Type} [DecidableEq β]
end
section
variable {β:Type}
end
end Go.Proofs.Cus
namespace Go.Proofs.Cus
theorem Jz {a b:Ev} (h:a.at_<b.at_):fL a b=true∧fL b a=false:=by
 unfold fL Ev.keys;simp only [lexLt];rw [av (by omega),av (by omega)];simp;omega
theorem CY {a b:Ev} (h:fL a b=true):a.at_≤b.at_:=by
 rcases Int.lt_or_le b.at_ a.at_ with h2|h2
 ·rw [(Jz h2).2] at h;cases h
 exact h2
theorem KK (l:List Ev) (p:Ev→Bool) (hp: ∀a b:Ev,a.at_≤b.at_→p b=true→p a=true):setOf (l.filter p)=(setOf l).filter p:=by
 have h:=mx l;refine (mx _).unique ⟨h.sorted.filter _,fun e=>?_⟩;simp only [dT,h.mem];constructor
 ·rintro ⟨⟨h1,h2⟩,h3⟩;exact ⟨⟨h1,h3⟩,fun e' he'=>h2 e' he'.1⟩
 rintro ⟨⟨h1,h3⟩,h2⟩;refine ⟨⟨h1,fun e' he' hs=>?_⟩,h3⟩;cases hpe:p e' with
 |true=>exact h2 e' ⟨he',hpe⟩ hs
 |false=>
  rcases Int.lt_or_le e.at_ e'.at_ with h4|h4
  ·exact (Jz h4).2
  rw [hp e' e h4 h3] at hpe;cases hpe
theorem H5 (l:List Ev):setOf (setOf l)=setOf l:=by
 have h:=mx l;refine (mx _).unique ⟨h.sorted,fun e=>?_⟩;refine ⟨fun he=>⟨he,fun e' he' hs=>((h.mem e).1 he).2 e' ((h.mem e').1 he').1 hs⟩,fun he=>he.1⟩
theorem CK: ∀{l:List Ev} (p:Ev→Bool),l.Pairwise (fun a b=>fL a b=true)→(∀a b:Ev,a.at_≤b.at_→p b=true→p a=true)→ ∃k,k≤l.length∧l.filter p=l.take k∧(∀e∈l.drop k,p e=false)
 |[],_,_,_=>⟨0,bq _,rfl,fun e he=>by simp at he⟩
 |a::l,p,hs,hp=>by
  rw [bL] at hs;obtain ⟨k,hk,h1,h2⟩:=CK p hs.2 hp;cases hpa:p a with
  |true=>exact ⟨k+1,by simp;omega,by rw [iA hpa,h1];rfl,h2⟩
  |false=>
   have hall: ∀e∈l,p e=false:=fun e he=>by
    cases hpe:p e with
    |false=>rfl
    |true=>rw [hp a e (CY (hs.1 e he)) hpe] at hpa;cases hpa
   refine ⟨0,aU _,?_,fun e he=>?_⟩
   ·rw [iB (by rw [hpa];decide),List.take_zero];exact Ez.2 fun e he=>by rw [hall e he];decide
   rcases bU.1 he with rfl|he
   ·exact hpa
   exact hall e he
structure Sp where
 cn:Int
 place:Int
 aP:Int
 bn:Bool
deriving DecidableEq,Inhabited
structure PT where
 rider:Int
 bD:Int
 bn:Bool
deriving DecidableEq,Inhabited
structure PS where
 aK:List Sp
 open_:List (Int×PT)
 used:List Int
deriving DecidableEq,Inhabited
def dK (x:Sp):Bool:=decide (x.cn=1)||decide (x.cn=2)
def Em (wh pl:Int) (x:Sp):Bool:=decide (x.cn=wh)&&decide (x.place=pl)
def countP (l:List Sp) (wh pl:Int):Nat:=l.countP (Em wh pl)
def mW (l:List (Int×PT)) (rider:Int):Bool:=l.any fun p=>decide (p.2.rider=rider)
def k9 (l:List (Int×PT)) (id:Int):Option PT:=(l.find? fun p=>p.1==id).map (·.2)
def oX (l:List Int) (id:Int):Bool:=l.any fun i=>i==id
def refuse (no:Bool) (e:Int):Int:=if no=true then e else 0
def dF (eJ:List Int) (s:PS) (e:Ev):Int:=
 let x:=s.aK.getD e.bD.toNat default
 if e.kind=1 then (if (!dK x&&decide (0<(countP s.aK 1 e.place:Int)))=true then 22 else refuse (dK x) 23)
 else if e.kind=2 then refuse (dK x) 23
 else if e.kind=3 then (if dK x=false then 23 else if oX s.used e.aP=true then 6 else refuse (mW s.open_ e.rider) 22)
 else if e.kind=4 then (match k9 s.open_ e.aP with|none=>7|some t=>if dK x=false then 23 else refuse t.bn 12)
 else if e.kind=5∨e.kind=6 then (if x.cn≠3 then 23 else refuse (x.bn==decide (e.kind=5)) 12)
 else if e.kind=7 then (if (decide (x.cn=3)||decide (x.cn=4))=true then 23 else refuse (decide (eJ.getD e.place.toNat 0≤(countP s.aK 4 e.place:Int))) 24)
 else if e.kind=8 then refuse (decide (x.cn=3)||decide (x.cn=5)) 23
 else if e.kind=9 then refuse (decide (x.cn=5)||decide (x.cn=6)) 23
 else 0
def fT (s:PS) (bD:Nat) (to:Sp):PS:=
 {s with open_:=if (s.aK.getD bD default).cn=3 then s.open_.eraseP (fun p=>p.1==(s.aK.getD bD default).aP) else s.open_,aK:=s.aK.set bD to}
def mV (l:List (Int×PT)) (id:Int) (t:PT):List (Int×PT):=l.map fun p=>if p.1==id then (p.1,t) else p
def uF (l:List Int) (id:Int):List Int:=if oX l id=true then l else l++[id]
def kW (s:PS) (e:Ev):PS:=
 let k:=e.bD.toNat
 if e.kind=1 then fT s k ⟨1,e.place,0,false⟩
 else if e.kind=2 then fT s k ⟨2,e.place,0,false⟩
 else if e.kind=3 then {aK:=s.aK.set k ⟨3,0,e.aP,false⟩,open_:=s.open_++[(e.aP,⟨e.rider,e.bD,false⟩)],used:=uF s.used e.aP}
 else if e.kind=4 then (match k9 s.open_ e.aP with
  |none=>s
  |some t=>{s with aK:=(s.aK.set t.bD.toNat (s.aK.getD k default)).set k ⟨3,0,e.aP,false⟩,open_:=mV s.open_ e.aP {t with bD:=e.bD}})
 else if e.kind=5∨e.kind=6 then
  let p:=decide (e.kind=5)
  let x:=s.aK.getD k default
  {s with aK:=s.aK.set k {x with bn:=p},open_:=match k9 s.open_ x.aP with|none=>s.open_|some t=>mV s.open_ x.aP {t with bn:=p}}
 else if e.kind=7 then fT s k ⟨4,e.place,0,false⟩
 else if e.kind=8 then fT s k ⟨5,0,0,false⟩
 else if e.kind=9 then fT s k ⟨6,0,0,false⟩
 else s
def fu (n:Nat):PS:=⟨List.replicate n ⟨5,0,0,false⟩,[],[]⟩
structure jP (n:Nat) (s:PS):Prop where
 len:s.aK.length=n
 keys:(s.open_.map (·.1)).Nodup
 used: ∀p∈s.open_,oX s.used p.1=true
 bD: ∀p∈s.open_,0≤p.2.bD∧ ∃x,s.aK[p.2.bD.toNat]?=some x∧x.cn=3∧x.aP=p.1∧x.bn=p.2.bn
 spot: ∀(k:Nat) x,s.aK[k]?=some x→x.cn=3→ ∃t,(x.aP,t)∈s.open_∧t.bD=(k:Int)
theorem qH {l:List (Int×PT)} (h:(l.map (·.1)).Nodup) {p q:Int×PT} (hp:p∈l) (hq:q∈l) (he:p.1=q.1):p=q:=by
 obtain ⟨i,hi,rfl⟩:=nP hp;obtain ⟨j,hj,rfl⟩:=nP hq;have:=bj.1 h;rcases jQ i j with h1|h1|h1
 ·exact absurd (by rw [ij,ij];exact he) (this i j (by simpa using hi) (by simpa using hj) h1)
 ·subst h1;rfl
 exact absurd (by rw [ij,ij];exact he.symm) (this j i (by simpa using hj) (by simpa using hi) h1)
theorem om: ∀{l:List (Int×PT)},(l.map (·.1)).Nodup→ ∀{r:Int} {p:Int×PT},p∈l.eraseP (fun q=>q.1==r)↔p∈l∧p.1≠r
 |[],_,r,p=>by simp
 |y::l,h,r,p=>by
  simp only [cI,xM] at h;by_cases hy:y.1=r
  ·rw [List.eraseP_cons_of_pos (by simpa using hy)];refine ⟨fun hp=>⟨aB _ hp,fun e=>h.1 ?_⟩,fun ⟨hp,hne⟩=>?_⟩
   ·rw [hy,←e];exact bJ.2 ⟨p,hp,rfl⟩
   rcases bU.1 hp with rfl|hp
   ·exact absurd hy hne
   exact hp
  rw [jx (by simpa using hy)];simp only [bU];rw [om h.2];constructor
  ·rintro (rfl|⟨h1,h2⟩)
   ·exact ⟨.inl rfl,hy⟩
   exact ⟨.inr h1,h2⟩
  rintro ⟨rfl|h1,h2⟩
  ·exact .inl rfl
  exact .inr ⟨h1,h2⟩
theorem eG {l:List (Int×PT)} {id:Int} {t:PT} {p:Int×PT}:p∈mV l id t↔(∃q∈l,q.1=id∧p=(id,t))∨(p∈l∧p.1≠id):=by
 unfold mV;rw [bJ];constructor
 ·rintro ⟨q,hq,rfl⟩;by_cases h:q.1=id
  ·left;exact ⟨q,hq,h,by simp [h]⟩
  right;rw [ah (by simpa using h)];exact ⟨hq,h⟩
 rintro (⟨q,hq,h,rfl⟩|⟨hp,hne⟩)
 ·exact ⟨q,hq,by simp [h]⟩
 exact ⟨p,hp,by rw [ah (by simpa using hne)]⟩
theorem ye (l:List (Int×PT)) (id:Int) (t:PT):(mV l id t).map (·.1)=l.map (·.1):=by
 unfold mV;rw [fO];apply Kp;intro p _;simp only [Function.comp];split<;>rfl
theorem nh {l:List (Int×PT)} {id:Int} {t:PT} (h:k9 l id=some t):(id,t)∈l:=by
 unfold k9 at h;cases hf:l.find? (fun p=>p.1==id) with
 |none=>rw [hf] at h;cases h
 |some p=>
  rw [hf] at h;have h1:=sO hf;have h2:=gB hf;simp only [fU,eQ] at h;simp only [xG] at h1;rw [←h1,←h];exact h2
theorem uW {l:List (Int×PT)} (hn:(l.map (·.1)).Nodup) {id:Int} {t:PT} (h:(id,t)∈l):k9 l id=some t:=by
 unfold k9;cases hf:l.find? (fun p=>p.1==id) with
 |none=>have:=kD.1 hf _ h;simp at this
 |some p=>
  have h1:=sO hf;simp only [xG] at h1;have:=qH hn (gB hf) h h1;rw [this];rfl
theorem mv {l:List Int} {id:Int}:oX l id=true↔id∈l:=by
 unfold oX;rw [cY];exact ⟨fun ⟨x,hx,h⟩=>by rw [←eq_of_beq h];exact hx,fun h=>⟨id,h,by simp⟩⟩
theorem wP {l:List Int} {id x:Int}:x∈uF l id↔x∈l∨x=id:=by
 unfold uF;split
 ·rename_i h;exact ⟨.inl,fun h'=>h'.elim (fun h=>h) fun e=>e▸mv.1 h⟩
 simp
section
variable {n:Nat} {s:PS}
theorem Cy {s:PS} (k:Nat) (h:k<s.aK.length): ∃x,s.aK[k]?=some x∧s.aK.getD k default=x:=by
 refine ⟨_,aj h,?_⟩;rw [aq,aj h];rfl
theorem jP.leave (h:jP n s) (k:Nat) (hk:k<n) (to:Sp) (hto:to.cn≠3):jP n (fT s k to):=by
 obtain ⟨x,hx,hg⟩:=Cy (s:=s) k (by rw [h.len];exact hk);have hmem: ∀p,p∈(fT s k to).open_↔p∈s.open_∧(x.cn=3→p.1≠x.aP):=by
  intro p;unfold fT;rw [hg];by_cases h3:x.cn=3
  ·simp only [h3,qo,true_implies];exact om h.keys
  simp only [h3,lM,false_implies,Mc]
 have hsp: ∀j:Nat,(fT s k to).aK[j]?=if k=j then some to else s.aK[j]?:=by
  intro j;show (s.aK.set k to)[j]?=_;rw [bw];by_cases e:k=j
  ·subst e;simp;rw [h.len];exact hk
  simp [e]
 refine ⟨by show (s.aK.set k to).length=n;rw [dU];exact h.len,?_,fun p hp=>h.used p ((hmem p).1 hp).1,fun p hp=>?_,fun j y hy h3=>?_⟩
 ·unfold fT;rw [hg];by_cases h3:x.cn=3
  ·simp only [h3,qo];exact h.keys.sublist (List.eraseP_sublist.map _)
  simp only [h3,lM];exact h.keys
 ·obtain ⟨hp1,hp2⟩:=(hmem p).1 hp;obtain ⟨hb,y,hy,y3,yr,yp⟩:=h.bD p hp1;refine ⟨hb,y,?_,y3,yr,yp⟩;rw [hsp,ah (fun e=>?_)]
  ·exact hy
  rw [←e,hx] at hy;cases hy;exact hp2 y3 yr.symm
 rw [hsp] at hy;split at hy
 ·cases hy;exact absurd h3 hto
 rename_i hne;obtain ⟨t,ht,hb⟩:=h.spot j y hy h3;refine ⟨t,(hmem _).2 ⟨ht,fun x3 e=>hne ?_⟩,hb⟩;obtain ⟨t2,ht2,hb2⟩:=h.spot k x hx x3;have:=qH h.keys ht ht2 e;simp only [nO] at this;rw [this.2,hb2] at hb;omega
theorem jP.start (h:jP n s) (k:Nat) (hk:k<n) (aP rider:Int) (hx3:(s.aK.getD k default).cn≠3) (hu:oX s.used aP=false):
  jP n {aK:=s.aK.set k ⟨3,0,aP,false⟩,open_:=s.open_++[(aP,⟨rider,k,false⟩)],used:=uF s.used aP}:=by
 obtain ⟨x,hx,hg⟩:=Cy (s:=s) k (by rw [h.len];exact hk);rw [hg] at hx3;have hsp: ∀j:Nat,(s.aK.set k ⟨3,0,aP,false⟩)[j]?=if k=j then some ⟨3,0,aP,false⟩ else s.aK[j]?:=by
  intro j;rw [bw];by_cases e:k=j
  ·subst e;simp;rw [h.len];exact hk
  simp [e]
 have hnew: ∀p∈s.open_,p.1≠aP:=fun p hp e=>by
  have:=h.used p hp;rw [e,hu] at this;cases this
 refine ⟨by simpa using h.len,?_,?_,?_,?_⟩
 ·simp only [bX,cI,zY];refine jR.2 ⟨h.keys,by simp,fun a ha b hb=>?_⟩;simp only [bu] at hb;obtain ⟨p,hp,rfl⟩:=bJ.1 ha;rw [hb];exact hnew p hp
 ·intro p hp;rw [mv,wP];rcases aQ.1 hp with hp|hp
  ·left;exact mv.1 (h.used p hp)
  right;simp only [bu] at hp;rw [hp]
 ·intro p hp;rcases aQ.1 hp with hp|hp
  ·obtain ⟨hb,y,hy,y3,yr⟩:=h.bD p hp;refine ⟨hb,y,?_,y3,yr⟩;rw [hsp,ah (fun e=>?_)]
   ·exact hy
   rw [←e,hx] at hy;cases hy;exact hx3 y3
  simp only [bu] at hp;subst hp;exact ⟨by simp,⟨3,0,aP,false⟩,by rw [hsp];simp,rfl,rfl,rfl⟩
 intro j y hy h3;simp only at hy;rw [hsp] at hy;split at hy
 ·rename_i e;cases hy;exact ⟨⟨rider,k,false⟩,aQ.2 (.inr (by simp)),by simp [e]⟩
 obtain ⟨t,ht,hb⟩:=h.spot j y hy h3;exact ⟨t,aQ.2 (.inl ht),hb⟩
theorem jP.swap (h:jP n s) (k:Nat) (hk:k<n) (aP:Int) (t:PT) (ht:(aP,t)∈s.open_) (hx3:(s.aK.getD k default).cn≠3) (hp:t.bn=false):
  jP n {s with aK:=(s.aK.set t.bD.toNat (s.aK.getD k default)).set k ⟨3,0,aP,false⟩,open_:=mV s.open_ aP {t with bD:=(k:Int)}}:=by
 obtain ⟨x,hx,hg⟩:=Cy (s:=s) k (by rw [h.len];exact hk);rw [hg] at hx3⊢;obtain ⟨hb0,y,hy,y3,yr,yp⟩:=h.bD _ ht;simp only at hb0 hy yr yp;obtain ⟨j,hj⟩: ∃j,j=t.bD.toNat:=⟨_,rfl⟩;rw [←hj] at hy⊢;have hjk:j≠k:=fun e=>by rw [e,hx] at hy;cases hy;exact hx3 y3
 have hjn:j<s.aK.length:=(aa.1 hy).1;have hsp: ∀i:Nat,((s.aK.set j x).set k ⟨3,0,aP,false⟩)[i]?=if k=i then some ⟨3,0,aP,false⟩ else if j=i then some x else s.aK[i]?:=by
  intro i;rw [bw,bw];by_cases e:k=i
  ·subst e;simp;rw [h.len];exact hk
  simp only [e,lM];by_cases e2:j=i
  ·subst e2;simp [hjn]
  simp [e2]
 refine ⟨by simpa using h.len,by simp only [ye];exact h.keys,?_,?_,?_⟩
 ·intro p hp;rcases eG.1 hp with ⟨q,hq,hq1,rfl⟩|⟨hp,_⟩
  ·have:=h.used q hq;rw [hq1] at this;exact this
  exact h.used p hp
 ·intro p hp';rcases eG.1 hp' with ⟨q,hq,hq1,rfl⟩|⟨hp',hne⟩
  ·exact ⟨by simp,⟨3,0,aP,false⟩,by rw [hsp];simp,rfl,rfl,hp.symm⟩
  obtain ⟨hb,z,hz,z3,zr,zp⟩:=h.bD p hp';refine ⟨hb,z,?_,z3,zr,zp⟩;rw [hsp,ah (fun e=>?_),ah (fun e=>?_)]
  ·exact hz
  ·rw [←e,hy] at hz;cases hz;exact hne (zr.symm.trans yr)
  rw [←e,hx] at hz;cases hz;exact hx3 z3
 intro i z hz h3;simp only at hz;rw [hsp] at hz;split at hz
 ·rename_i e;cases hz;exact ⟨_,eG.2 (.inl ⟨_,ht,rfl,rfl⟩),by simp [e]⟩
 rename_i hki;split at hz
 ·cases hz;exact absurd h3 hx3
 rename_i hji;obtain ⟨t2,ht2,hb2⟩:=h.spot i z hz h3;refine ⟨t2,eG.2 (.inr ⟨ht2,fun e=>hji ?_⟩),hb2⟩;have:=qH h.keys ht2 ht e;simp only [nO] at this;rw [this.2] at hb2;omega
theorem jP.oZ (h:jP n s) (k:Nat) (hk:k<n) (pa:Bool) (t:PT) (hx3:(s.aK.getD k default).cn=3) (ht:((s.aK.getD k default).aP,t)∈s.open_):
  jP n {s with aK:=s.aK.set k {(s.aK.getD k default) with bn:=pa},open_:=mV s.open_ (s.aK.getD k default).aP {t with bn:=pa}}:=by
 obtain ⟨x,hx,hg⟩:=Cy (s:=s) k (by rw [h.len];exact hk);rw [hg] at hx3 ht⊢;obtain ⟨t2,ht2,hb2⟩:=h.spot k x hx hx3;have htt:=qH h.keys ht2 ht rfl;simp only [nO,true_and] at htt;subst htt;have hsp: ∀i:Nat,(s.aK.set k {x with bn:=pa})[i]?=if k=i then some {x with bn:=pa} else s.aK[i]?:=by
  intro i;rw [bw];by_cases e:k=i
  ·subst e;simp;rw [h.len];exact hk
  simp [e]
 refine ⟨by simpa using h.len,by simp only [ye];exact h.keys,?_,?_,?_⟩
 ·intro p hp;rcases eG.1 hp with ⟨q,hq,hq1,rfl⟩|⟨hp,_⟩
  ·have:=h.used q hq;rw [hq1] at this;exact this
  exact h.used p hp
 ·intro p hp';rcases eG.1 hp' with ⟨q,hq,hq1,rfl⟩|⟨hp',hne⟩
  ·refine ⟨by show 0≤t2.bD;omega,{x with bn:=pa},?_,hx3,rfl,rfl⟩;show (s.aK.set k {x with bn:=pa})[t2.bD.toNat]?=_;rw [hsp,av (by omega)]
  obtain ⟨hb,z,hz,z3,zr,zp⟩:=h.bD p hp';refine ⟨hb,z,?_,z3,zr,zp⟩;rw [hsp,ah (fun e=>?_)]
  ·exact hz
  rw [←e,hx] at hz;cases hz;exact hne zr.symm
 intro i z hz h3;simp only at hz;rw [hsp] at hz;split at hz
 ·rename_i e;cases hz;exact ⟨_,eG.2 (.inl ⟨_,ht2,rfl,rfl⟩),by show t2.bD=_;omega⟩
 rename_i hki;obtain ⟨t3,ht3,hb3⟩:=h.spot i z hz h3;refine ⟨t3,eG.2 (.inr ⟨ht3,fun e=>hki ?_⟩),hb3⟩;have:=qH h.keys ht3 ht2 e;simp only [nO] at this;rw [this.2] at hb3;omega
theorem qG {no:Bool} {e:Int} (he:e≠0) (h:refuse no e=0):no=false:=by
 unfold refuse at h;cases no with
 |false=>rfl
 |true=>rw [av rfl] at h;exact absurd h he
theorem mi {x:Sp} (h:dK x=true):x.cn≠3:=by
 unfold dK at h;simp at h;omega
theorem jP.step (h:jP n s) {tr:List Int} {e:Ev} (hb:0≤e.bD∧e.bD<n) (hc:dF tr s e=0):jP n (kW s e):=by
 have hk:e.bD.toNat<n:=by omega
 have hbk:((e.bD.toNat:Nat):Int)=e.bD:=by omega
 unfold dF at hc;unfold kW;simp only at hc⊢;by_cases h1:e.kind=1
 ·rw [av h1];exact h.leave _ hk _ (by simp)
 rw [ah h1] at hc⊢;by_cases h2:e.kind=2
 ·rw [av h2];exact h.leave _ hk _ (by simp)
 rw [ah h2] at hc⊢;by_cases h3:e.kind=3
 ·rw [av h3] at hc⊢;split at hc
  ·cases hc
  rename_i hp;split at hc
  ·cases hc
  rename_i hu;have:=h.start e.bD.toNat hk e.aP e.rider (mi (by simpa using hp)) (by simpa using hu);rw [hbk] at this;exact this
 rw [ah h3] at hc⊢;by_cases h4:e.kind=4
 ·rw [av h4] at hc⊢;cases hl:k9 s.open_ e.aP with
  |none=>exact h
  |some t=>
   rw [hl] at hc;simp only at hc⊢;split at hc
   ·cases hc
   rename_i hp;have:=h.swap e.bD.toNat hk e.aP t (nh hl) (mi (by simpa using hp)) (qG (by decide) hc);rw [hbk] at this;exact this
 rw [ah h4] at hc⊢;by_cases h5:e.kind=5∨e.kind=6
 ·rw [av h5] at hc⊢;split at hc
  ·cases hc
  rename_i hw;have hw':(s.aK.getD e.bD.toNat default).cn=3:=kM hw;obtain ⟨x,hx,hg⟩:=Cy (s:=s) e.bD.toNat (by rw [h.len];exact hk);obtain ⟨t,ht,_⟩:=h.spot _ x hx (by rw [←hg];exact hw');rw [←hg] at ht;rw [uW h.keys ht];exact h.oZ e.bD.toNat hk (decide (e.kind=5)) t hw' ht
 rw [ah h5] at hc⊢;by_cases h7:e.kind=7
 ·rw [av h7];exact h.leave _ hk _ (by simp)
 rw [ah h7] at hc⊢;by_cases h8:e.kind=8
 ·rw [av h8];exact h.leave _ hk _ (by simp)
 rw [ah h8] at hc⊢;by_cases h9:e.kind=9
 ·rw [av h9];exact h.leave _ hk _ (by simp)
 rw [ah h9];exact h
theorem jP.begin (n:Nat):jP n (fu n):=by
 refine ⟨by simp [fu],by simp [fu],fun p hp=>by simp [fu] at hp,fun p hp=>by simp [fu] at hp,fun k x hx h3=>?_⟩;simp only [fu,gp] at hx;split at hx
 ·cases hx;simp at h3
 cases hx
end
end Go.Proofs.Cus
namespace Go.Proofs.Cus
theorem kV {f:Fl} {e:Ev} (h:fF f e=0):fR f=0∧(0≤e.bD∧e.bD<f.eV)∧(e.kind=7→0≤e.place∧e.place<f.eJ.length)∧(1≤e.kind∧e.kind≤10)∧0≤e.at_∧e.at_≤4294943999:=by
 unfold fF at h;split at h
 ·rename_i h0;exact absurd h h0
 rename_i h0;split at h
 ·cases h
 rename_i h1;split at h
 ·cases h
 rename_i h2;split at h
 ·cases h
 rename_i h3;split at h
 ·cases h
 rename_i h4;refine ⟨kM h0,?_,fun h7=>?_,?_,?_⟩
 ·simp [within] at h3;omega
 ·unfold qa at h4;rw [ah (by omega),ah (by omega),av h7] at h4;simp [within] at h4;omega
 ·simp [within] at h2;omega
 simp [within] at h1;omega
def kg (f:Fl) (s:PS) (e:Ev):PS×Option Int:=
 if fF f e=0∧e.kind=10 then (s,none)
 else
  let er:=if fF f e=0 then dF f.eJ s e else fF f e
  (if er=0 then kW s e else s,some er)
def oY {σ:Type} (cb:σ→PS→Ev→Int→σ) (z:σ) (e:Ev) (r:PS×Option Int):PS×σ:=
 match r.2 with
 |none=>(r.1,z)
 |some er=>(r.1,cb z r.1 e er)
def jD {σ:Type} (f:Fl) (cb:σ→PS→Ev→Int→σ) (l:List Ev) (x:PS×σ):PS×σ:=l.foldl (fun x e=>oY cb x.2 e (kg f x.1 e)) x
theorem KG {n:Nat} {f:Fl} {s:PS} {e:Ev} (hn:f.eV=n) (h:jP n s):jP n (kg f s e).1:=by
 unfold kg;split
 ·exact h
 simp only;by_cases h1:fF f e=0
 ·rw [av h1];by_cases h0:dF f.eJ s e=0
  ·rw [av h0];have:=(kV h1).2.1;exact h.step (by omega) h0
  rw [ah h0];exact h
 rw [ah h1,ah h1];exact h
theorem zi {σ:Type} (cb:σ→PS→Ev→Int→σ) (z:σ) (e:Ev) (r:PS×Option Int):(oY cb z e r).1=r.1:=by
 unfold oY;split<;>rfl
theorem F' {σ:Type} {n:Nat} {f:Fl} {cb:σ→PS→Ev→Int→σ} (hn:f.eV=n): ∀(l:List Ev) (x:PS×σ),jP n x.1→jP n (jD f cb l x).1
 |[],_,h=>h
 |e::l,x,h=>by
  show jP n (jD f cb l _).1;refine F' hn l _ ?_;show jP n (oY cb x.2 e (kg f x.1 e)).1;rw [zi];exact KG hn h
theorem vG {σ:Type} {f:Fl} {cb:σ→PS→Ev→Int→σ} (l:List Ev) (x:PS×σ) (k:Nat) (e:Ev) (h:l[k]?=some e):jD f cb (l.take (k+1)) x=oY cb (jD f cb (l.take k) x).2 e (kg f (jD f cb (l.take k) x).1 e):=by
 unfold jD;rw [iy,h,df];rfl
end Go.Proofs.Cus
