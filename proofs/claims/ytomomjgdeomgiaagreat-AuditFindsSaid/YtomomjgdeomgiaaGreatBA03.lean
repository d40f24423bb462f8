import Derived.Test.YtomomjgdeomgiaaGreatTt
import Derived.Sort.Statements
import Derived.Test.YtomomjgdeomgiaaGreatProg
set_option maxRecDepth 100000
set_option maxHeartbeats 8000000
set_option linter.all false
namespace Go.Proofs.Cus
structure Ev where
 device:Int
 seq:Int
 at_:Int
 late:Int
 kind:Int
 bq:Int
 place:Int
 rider:Int
 bn:Int
structure Fl where
 cv:Int
 q':Int
 bH:Int
 iX:List Int
 cI:List Int
def within (n low high:Int):Bool:=decide (low<=n)&&decide (n<=high)
def xZ (l:List Int) (Em:Int):Bool:=l.all λn=>within n 1 Em
def fy (f:Fl):Int:=
 if ((!within f.cv 1 128||!within f.q' 1 128)||!within f.bH 1 256)=true then 1
 else if 32<f.iX.length\/8<f.cI.length then 8
 else if (!xZ f.iX 32||!xZ f.cI 32)=true then 1 else 0
def p' (f:Fl) (e:Ev):Bool:=
 if e.kind=1 then (decide (0<=e.place)&&decide (e.place.tdiv 32<f.iX.length))&&decide (e.place.tmod 32<f.iX.getD (e.place.tdiv 32).toNat 0)
 else if e.kind=2 then within e.place 0 63
 else if e.kind=7 then within e.place 0 ((f.cI.length:Int) -1)
 else decide (e.place=0)
def named (f:Fl) (e:Ev):Bool:=
 (if e.kind=3 then within e.rider 0 (f.q' -1) else decide (e.rider=0))&&(if e.kind=3\/e.kind=4 then within e.bn 1 1000000 else decide (e.bn=0))
def jo (f:Fl) (e:Ev):Int:=
 if fy f≠0 then fy f
 else if ((((!within e.device 0 (f.bH -1)||!within e.seq 1 1048576)||decide (e.at_<0))||decide (e.late<e.at_))||decide (4294943999<e.late))=true then 1
 else if within e.kind 1 10=false then 14
 else if (!within e.bq 0 (f.cv -1)||(decide (e.kind=10)&&!decide (e.bq=0)))=true then 1
 else if p' f e=false then 7
 else if named f e=false then 1 else 0
open Go.Sort
deriving instance DecidableEq,Inhabited for Ev
def jv (a b:Int):Int:=if a<b then -1 else if b<a then 1 else 0
def sd:List Int->List Int->Int
 |a::l,b::r=>if jv a b≠0 then jv a b else sd l r
 |_,_=>0
def Ev.keys (e:Ev):List Int:=[e.at_,e.device,e.seq,e.late,e.kind,e.bq,e.place,e.rider,e.bn]
def z8 (a b:Ev):Int:=sd a.keys b.keys
def Ld (l:List Int):Int:=(l.find? (λx=>decide (x≠0))).getD 0
def Br (a b:Ev):Int:=Ld [jv a.device b.device,jv a.seq b.seq,z8 a b]
def lexLt:List Int->List Int->Bool
 |a::l,b::r=>if a≠b then decide (a<b) else lexLt l r
 |_,_=>false
def dm (a b:Ev):Bool:=lexLt a.keys b.keys
def dh (a b:Ev):Bool:=[a.device,a.seq]==[b.device,b.seq]
theorem qz: ∀l,lexLt l l=false
 |[]=>rfl
 |a::l=>by simp [lexLt,qz l]
theorem r2: ∀{a b c:List Int},a.length=b.length->b.length=c.length->lexLt a b=true->lexLt b c=true->lexLt a c=true
 |[],[],[],_,_,h,_=>by simp [lexLt] at h
 |x::a,y::b,z::c,h1,h2,h3,h4=>by
  simp only [cL,UP] at h1 h2
  simp only [lexLt] at h3 h4|-
  by_cases e1:x=y
  ·subst e1
   simp only [ne_eq,not_true,sB] at h3
   by_cases e2:x=z
   ·subst e2
    simp only [ne_eq,not_true,sB] at h4|-
    exact r2 h1 h2 h3 h4
   grind
  grind
 |[],[],_::_,_,h,_,_=>by simp at h
 |[],_::_,_,h,_,_,_=>by simp at h
 |_::_,[],_,h,_,_,_=>by simp at h
 |_::_,_::_,[],_,h,_,_=>by simp at h
theorem pW: ∀{a b:List Int},a.length=b.length->lexLt a b=false->lexLt b a=false->a=b
 |[],[],_,_,_=>rfl
 |x::a,y::b,h1,h2,h3=>by
  simp only [cL,UP] at h1
  simp only [lexLt] at h2 h3
  by_cases e:x=y
  ·subst e
   simp only [ne_eq,not_true,sB] at h2 h3
   rw [pW h1 h2 h3]
  grind
 |[],_::_,h,_,_=>by simp at h
 |_::_,[],h,_,_=>by simp at h
theorem vl {α:Type} (key:α->List Int) (n:Nat) (hn: ∀x,(key x).length=n):SWO (λx y=>lexLt (key x) (key y)) where
 irrefl x:=qz _
 trans x y z h1 h2:=r2 (by rw [hn,hn]) (by rw [hn,hn]) h1 h2
 ntrans x y z h1 h2:=by
  grind [lexLt,r2,pW]
theorem yR: ∀(a b:List Int),decide (sd a b<0)=lexLt a b
 |[],[]=>rfl
 |[],_::_=>rfl
 |_::_,[]=>rfl
 |x::a,y::b=>by
  simp only [sd,lexLt,jv]
  by_cases h1:x<y
  ·have:x≠y:=by omega
   simp [h1,this]
  by_cases h2:y<x
  ·grind
  have:x=y:=by omega
  subst this
  simp [yR a b]
def Ev.ry (e:Ev):List Int:=e.device::e.seq::e.keys
theorem Ka(a b):decide (Br a b<0)=lexLt a.ry b.ry:=by
 grind [Br,lexLt,yR,Ev.ry,Ld,z8,jv,sd]
theorem B' {a b:Ev} (h:a.keys=b.keys):a=b:=by
 cases a;cases b
 grind [Ev.keys]
theorem Kz {a b:Ev} (h:a.ry=b.ry):a=b:=B' (by simp only [Ev.ry,List.cons.injEq] at h;exact h.2.2)
theorem jI(a):dm a a=false:=qz _
theorem ru{a b c}(h1:dm a b=true)(h2:dm b c=true):dm a c=true:=r2 (a:=a.keys) (b:=b.keys) (c:=c.keys) rfl rfl h1 h2
theorem rv{a b}(h1:dm a b=false)(h2:dm b a=false):a=b:=B' (pW rfl h1 h2)
theorem HX{a b}(h1:dm a b=true):dm b a=false:=by
 grind [dm,ru,jI]
theorem pT{a b}:dh a b=true↔a.device=b.device/\a.seq=b.seq:=by simp [dh]
theorem vp(a):dh a a=true:=pT.2 ⟨rfl,rfl⟩
theorem oY{a b}(h:dh a b=true):dh b a=true:=by rw [pT] at*;omega
theorem mx{a b c}(h:dh a b=true)(h2:dh b c=true):dh a c=true:=by rw [pT] at*;omega
structure uh (l s:List Ev):Prop where
 sorted:s.Pairwise (λa b=>dm a b=true)
 mem: ∀e,e∈s↔e∈l/\ ∀e'∈l,dh e e'=true->dm e' e=false
theorem wk: ∀{s t:List Ev},s.Pairwise (λa b=>dm a b=true)->t.Pairwise (λa b=>dm a b=true)->(∀e,e∈s↔e∈t)->s=t
 |[],[],_,_,_=>rfl
 |[],b::t,_,_,h=>by have:=(h b).2 (by simp);simp at this
 |a::s,[],_,_,h=>by have:=(h a).1 (by simp);simp at this
 |a::s,b::t,hs,ht,h=>by
  rw [bB] at hs ht;have hab:a=b:=by
   have h1:=(h a).1 (by simp);have h2:=(h b).2 (by simp)
   grind [dm,HX]
  subst hab;congr 1;refine wk hs.2 ht.2 λe=>?_;have he:=h e;simp only [cn] at he;constructor
  ·intro hm;rcases he.1 (.inr hm) with rfl|h3
   ·have:=hs.1 e hm;rw [jI] at this;cases this
   grind [dm,jI]
  intro hm;rcases he.2 (.inr hm) with rfl|h3
  ·have:=ht.1 e hm;rw [jI] at this;cases this
  exact h3
theorem uh.unique{l s t}(h1:uh l s)(h2:uh l t):s=t:=wk h1.sorted h2.sorted λe=>by rw [h1.mem,h2.mem]
theorem uh.congr{l m s}(h:uh l s)(hm: ∀e,e∈l↔e∈m):uh m s:=⟨h.sorted,λe=>by rw [h.mem,hm];simp only [hm]⟩
def dL {α:Type} (eq:α->α->Bool):α->List α->List α
 |_,[]=>[]
 |p,y::ys=>if eq y p=true then dL eq y ys else y::dL eq y ys
def e9 {α:Type} (eq:α->α->Bool):List α->List α
 |[]=>[]
 |x::xs=>x::dL eq x xs
def AM (a b:Ev):Bool:=!lexLt b.ry a.ry
def T6 (a b:Ev):Bool:=!lexLt b.keys a.keys
def setOf (l:List Ev):List Ev:=(e9 dh (l.mergeSort AM)).mergeSort T6
theorem I4{a b}(h:AM a b=true):a.device<b.device\/(a.device=b.device/\a.seq<=b.seq):=by
 grind [AM,Ev.ry,lexLt]
theorem xD{a b}(h:AM a b=true)(hs:dh a b=true):dm b a=false:=by
 grind [AM,dh,dm,pT,Ev.ry,lexLt]
theorem pq{e}: ∀(xs:List Ev) (p:Ev),(p::xs).Pairwise (λa b=>AM a b=true)->
  (e∈dL dh p xs↔e∈xs/\dh e p=false/\ ∀e'∈xs,dh e e'=true->dm e' e=false)
 |[],p,_=>by simp [dL]
 |y::ys,p,hp=>by
  have hp':=hp;rw [bB] at hp;have hy:=hp.2;rw [bB] at hy;have ih:=pq (e:=e) ys y hp.2;simp only [dL];by_cases hs:dh y p=true
  ·grind [AM,dL,dh,dm]
  rw [an hs,cn,ih];constructor
  ·rintro (rfl|⟨h1,h2,h3⟩)
   ·refine ⟨by simp,by simpa using hs,λe' he' hse=>?_⟩;rcases cn.1 he' with rfl|he'
    ·exact jI _
    exact xD (hy.1 e' he') hse
   refine ⟨bR _ h1,?_,λe' he' hse=>?_⟩
   ·cases h:dh e p with
    |false=>rfl
    |true=>
     have a1:=I4 (hp.1 y (by simp));have a2:=I4 (hy.1 e h1);rw [pT] at h;exact absurd (pT.2 (by omega)) hs
   rcases cn.1 he' with rfl|he'
   ·grind [AM,dL,dh,dm,jI,xD]
   exact h3 e' he' hse
  rintro ⟨h1,h2,h3⟩;rcases cn.1 h1 with h1|h1
  ·exact .inl h1
  cases h:dh e y with
  |false=>exact .inr ⟨h1,rfl,λe' he'=>h3 e' (bR _ he')⟩
  |true=>exact .inl (rv (xD (hy.1 e h1) (oY h)) (h3 y (by simp) h))
theorem qf: ∀(xs:List Ev) (p:Ev),(p::xs).Pairwise (λa b=>AM a b=true)->(dL dh p xs).Pairwise (λa b=>dh b a=false)
 |[],p,_=>by simp [dL]
 |y::ys,p,hp=>by
  rw [bB] at hp;simp only [dL];split
  ·exact qf ys y hp.2
  refine bB.2 ⟨λe he=>((pq ys y hp.2).1 he).2.1,qf ys y hp.2⟩
theorem zU{key:Ev->List Int}{n}(hn: ∀x,(key x).length=n)(a b c)(h1:(!lexLt (key b) (key a))=true)(h2:(!lexLt (key c) (key b))=true):(!lexLt (key c) (key a))=true:=by
 simp only [jZ] at*
 exact (vl key n hn).ntrans c b a h2 h1
theorem zV{key:Ev->List Int}{n}(hn: ∀x,(key x).length=n)(a b):((!lexLt (key b) (key a))||(!lexLt (key a) (key b)))=true:=by
 cases h:lexLt (key b) (key a) with
 |false=>rfl
 |true=>
  cases h2:lexLt (key a) (key b) with
  |false=>rfl
  |true=>
   have:=(vl key n hn).trans a b a h2 h
   grind [lexLt,qz]
theorem vm(l):uh l (setOf l):=by
 have hp1:(l.mergeSort AM).Perm l:=lE _ _;have hs1:(l.mergeSort AM).Pairwise (λa b=>AM a b=true):=kT (zU (key:=Ev.ry) (n:=11) (λ_=>rfl)) (zV (key:=Ev.ry) (n:=11) (λ_=>rfl)) l;have hmem: ∀e,e∈e9 dh (l.mergeSort AM)↔e∈l/\ ∀e'∈l,dh e e'=true->dm e' e=false:=by
  intro e;have hm: ∀x,x∈l↔x∈l.mergeSort AM:=λx=>(hp1.mem_iff).symm;simp only [hm]
  revert hs1
  generalize l.mergeSort AM=s;intro hs1;cases s with
  |nil=>simp [e9]
  |cons x xs=>
   simp only [e9,cn,pq xs x hs1];have hx:=(bB.1 hs1).1
   grind [setOf,jI,xD,dh,rv,oY]
 have hnd:(e9 dh (l.mergeSort AM)).Pairwise (λa b=>dh b a=false):=by
  cases hs:l.mergeSort AM with
  |nil=>simp [e9]
  |cons x xs=>
   rw [hs] at hs1;exact bB.2 ⟨λe he=>((pq xs x hs1).1 he).2.1,qf xs x hs1⟩
 have hp2:(setOf l).Perm (e9 dh (l.mergeSort AM)):=lE _ _;have hs2:(setOf l).Pairwise (λa b=>T6 a b=true):=kT (zU (key:=Ev.keys) (n:=9) (λ_=>rfl)) (zV (key:=Ev.keys) (n:=9) (λ_=>rfl)) _;have hnd2:(setOf l).Pairwise (λa b=>a≠b):=by
  have:(e9 dh (l.mergeSort AM)).Nodup:=hnd.imp λ{a b} h e=>by subst e;rw [vp] at h;cases h
  exact hp2.nodup_iff.2 this
 refine ⟨(hs2.and hnd2).imp λ{a b} ⟨h1,h2⟩=>?_,λe=>by rw [hp2.mem_iff,hmem]⟩;cases h:dm a b with
 |true=>rfl
 |false=>
  have h3:dm b a=false:=by simpa [T6,dm] using h1
  exact absurd (rv h h3) h2
def iF (s:List Ev×Ev) (x:Ev):List Ev×Ev:=if x.device≠s.2.device\/x.seq≠s.2.seq then (s.1++[x],s.2) else if dm x s.2=true then (s.1,x) else s
def E9 (l:List Ev) (e:Ev):List Ev:=
 let s:=l.foldl iF ([],e)
 s.1.takeWhile (λx=>dm x s.2)++s.2::s.1.dropWhile (λx=>dm x s.2)
def HB (l:List Ev):List Ev:=l.foldl E9 []
theorem xp: ∀(l:List Ev) (o:List Ev) (e:Ev),(l.foldl iF (o,e)).1=o++l.filter (λx=>!dh x e)/\dh (l.foldl iF (o,e)).2 e=true/\(∀x∈l,dh x e=true->dm x (l.foldl iF (o,e)).2=false)/\dm e (l.foldl iF (o,e)).2=false/\((l.foldl iF (o,e)).2=e\/(l.foldl iF (o,e)).2∈l)
 |[],o,e=>by simp [vp,jI]
 |x::l,o,e=>by
  simp only [eh];by_cases h:dh x e=true
  ·have h':=pT.1 h;by_cases hl:dm x e=true
   ·have hst:iF (o,e) x=(o,x):=by simp [iF,h'.1,h'.2,hl]
    rw [hst];obtain ⟨a1,a2,a3,a4,a5⟩:=xp l o x;refine ⟨?_,mx a2 h,λy hy hs=>?_,?_,?_⟩
    ·rw [a1];have:(l.filter λy=>!dh y x)=l.filter λy=>!dh y e:=Ob λy _=>by
      have:dh y x=dh y e:=by
       cases hq:dh y e with
       |true=>exact mx hq (oY h)
       |false=>cases hr:dh y x with
        |false=>rfl
        |true=>rw [mx hr h] at hq;cases hq
      rw [this]
     simp [h,this]
    ·rcases cn.1 hy with rfl|hy
     ·exact a4
     exact a3 y hy (mx hs (oY h))
    ·cases hq:dm e (l.foldl iF (o,x)).2 with
     |false=>rfl
     |true=>rw [ru hl hq] at a4;cases a4
    rcases a5 with a5|a5
    ·exact .inr (by rw [a5];simp)
    exact .inr (bR _ a5)
   have hst:iF (o,e) x=(o,e):=by simp [iF,h'.1,h'.2,hl]
   rw [hst];obtain ⟨a1,a2,a3,a4,a5⟩:=xp l o e;refine ⟨by rw [a1];simp [h],a2,λy hy hs=>?_,a4,?_⟩
   ·rcases cn.1 hy with rfl|hy
    ·cases hq:dm y (l.foldl iF (o,e)).2 with
     |false=>rfl
     |true=>
      have:=(vl Ev.keys 9 (λ_=>rfl)).ntrans y e (l.foldl iF (o,e)).2 (by simpa [dm] using hl) a4;rw [show lexLt y.keys (l.foldl iF (o,e)).2.keys=dm y (l.foldl iF (o,e)).2 from rfl,hq] at this;cases this
    exact a3 y hy hs
   rcases a5 with a5|a5
   ·exact .inl a5
   exact .inr (bR _ a5)
  have h':x.device≠e.device\/x.seq≠e.seq:=by
   by_cases hd:x.device=e.device
   ·exact .inr λhs=>h (pT.2 ⟨hd,hs⟩)
   exact .inl hd
  have hst:iF (o,e) x=(o++[x],e):=by simp only [iF];rw [aB h']
  rw [hst];obtain ⟨a1,a2,a3,a4,a5⟩:=xp l (o++[x]) e;refine ⟨by rw [a1];simp [h],a2,λy hy hs=>?_,a4,?_⟩
  ·rcases cn.1 hy with rfl|hy
   ·exact absurd hs h
   exact a3 y hy hs
  rcases a5 with a5|a5
  ·exact .inl a5
  exact .inr (bR _ a5)
theorem mu: ∀(o:List Ev) (e:Ev),o.Pairwise (λa b=>dm a b=true)->(∀x∈o,x≠e)->(o.takeWhile (λx=>dm x e)++e::o.dropWhile (λx=>dm x e)).Pairwise (λa b=>dm a b=true)
 |[],e,_,_=>by simp
 |x::o,e,hp,hne=>by
  have hp':=hp;rw [bB] at hp;by_cases h:dm x e=true
  ·simp only [List.takeWhile_cons,List.dropWhile_cons,h,E2,vQ];refine bB.2 ⟨λy hy=>?_,mu o e hp.2 (λy hy=>hne y (bR _ hy))⟩;simp only [bO,cn] at hy;rcases hy with hy|rfl|hy
   ·exact hp.1 y ((List.takeWhile_sublist _).mem hy)
   ·exact h
   exact hp.1 y ((List.dropWhile_sublist _).mem hy)
  simp only [List.takeWhile_cons,List.dropWhile_cons,h,ir]
  grind [dm,rv,ru]
theorem Hh{m l}(h:uh m l)(e):uh (m++[e]) (E9 l e):=by
 obtain ⟨a1,a2,a3,a4,a5⟩:=xp l [] e;simp only [E9]
 revert a1 a2 a3 a4 a5
 generalize l.foldl iF ([],e)=s;obtain ⟨o,x⟩:=s;intro a1 a2 a3 a4 a5;simp only [ir] at a1 a2 a3 a4 a5|-;subst a1;have hne: ∀y∈l.filter (λx=>!dh x e),y≠x:=λy hy hyx=>by
  subst hyx;simp [a2] at hy
 refine ⟨mu _ _ (h.sorted.filter _) hne,λy=>?_⟩;have hmem:(y∈(l.filter λx=>!dh x e).takeWhile (λz=>dm z x)++x::(l.filter λx=>!dh x e).dropWhile (λz=>dm z x))↔(y∈l/\dh y e=false)\/y=x:=by
  have h1: ∀(p:Ev->Bool) (o:List Ev),y∈o.takeWhile p\/y∈o.dropWhile p↔y∈o:=λp o=>by
   rw [<-bO,List.takeWhile_append_dropWhile]
  have:=h1 (λz=>dm z x) (l.filter λx=>!dh x e);simp only [gO,jZ] at this;simp only [bO,cn];constructor
  ·rintro (h|h|h)
   ·exact .inl (this.1 (.inl h))
   ·exact .inr h
   exact .inl (this.1 (.inr h))
  rintro (h|h)
  ·rcases this.2 h with h|h
   ·exact .inl h
   exact .inr (.inr h)
  exact .inr (.inl h)
 rw [hmem];simp only [bO,cm,h.mem];constructor
 ·rintro (⟨⟨h1,h2⟩,h3⟩|rfl)
  ·refine ⟨.inl h1,λe' he' hs=>?_⟩;rcases he' with he'|rfl
   ·exact h2 e' he' hs
   rw [hs] at h3;cases h3
  refine ⟨?_,λe' he' hs=>?_⟩
  ·rcases a5 with a5|a5
   ·exact .inr a5
   exact .inl ((h.mem y).1 a5).1
  rcases he' with he'|rfl
  ·
   have hse:dh e' e=true:=mx (oY hs) a2;have key: ∃q∈l,dh q e'=true/\dm e' q=false:=by
    have: ∀(n:Nat) (z:Ev),z∈m->dh z e'=true->dm e' z=false->(m.filter λq=>dm q z).length<=n-> ∃q∈l,dh q e'=true/\dm e' q=false:=by
     intro n
     induction n with
     |zero=>
      intro z hz hzs hzl hn;refine ⟨z,(h.mem z).2 ⟨hz,λe2 he2 hs2=>?_⟩,hzs,hzl⟩;cases hq:dm e2 z with
      |false=>rfl
      |true=>
       have:e2∈m.filter λq=>dm q z:=gO.2 ⟨he2,hq⟩;rw [dR (Nat.le_zero.1 hn)] at this;cases this
     |succ n ih=>
      intro z hz hzs hzl hn;by_cases hex: ∃e2∈m,dh z e2=true/\dm e2 z=true
      ·obtain ⟨e2,he2,hs2,hl2⟩:=hex;refine ih e2 he2 (mx (oY hs2) hzs) ?_ ?_
       ·cases hq:dm e' e2 with
        |false=>rfl
        |true=>rw [ru hq hl2] at hzl;cases hzl
       have hlt:(m.filter λq=>dm q e2).length<(m.filter λq=>dm q z).length:=by
        have hsub:(m.filter λq=>dm q e2)=(m.filter λq=>dm q z).filter λq=>dm q e2:=by
         rw [List.filter_filter];refine Ob λq _=>?_;cases hq:dm q e2 with
         |false=>simp
         |true=>simp [ru hq hl2]
        rw [hsub];exact List.length_filter_lt_length_iff_exists.2 ⟨e2,gO.2 ⟨he2,hl2⟩,by rw [jI];decide⟩
       omega
      refine ⟨z,(h.mem z).2 ⟨hz,λe2 he2 hs2=>?_⟩,hzs,hzl⟩;cases hq:dm e2 z with
      |false=>rfl
      |true=>exact absurd ⟨e2,he2,hs2,hq⟩ hex
    exact this _ e' he' (vp _) (jI _) (bA _)
   obtain ⟨q,hq,hqs,hql⟩:=key;have h1:=a3 q hq (mx hqs hse);cases h2:dm e' y with
   |false=>rfl
   |true=>
    have:=(vl Ev.keys 9 (λ_=>rfl)).ntrans e' q y hql h1;rw [show lexLt e'.keys y.keys=dm e' y from rfl,h2] at this;cases this
  exact a4
 rintro ⟨h1,h2⟩;cases hs:dh y e with
 |false=>
  rcases h1 with h1|rfl
  ·exact .inl ⟨⟨h1,λe' he'=>h2 e' (.inl he')⟩,rfl⟩
  rw [vp] at hs;cases hs
 |true=>
  refine .inr (rv ?_ ?_)
  ·rcases h1 with h1|rfl
   ·exact a3 y ((h.mem y).2 ⟨h1,λe' he'=>h2 e' (.inl he')⟩) hs
   exact a4
  rcases a5 with rfl|a5
  ·exact h2 x (.inr rfl) hs
  exact h2 x (.inl ((h.mem x).1 a5).1) (mx hs (oY a2))
theorem D'(l):uh l (HB l):=by
 have: ∀(l m s:List Ev),uh m s->uh (m++l) (l.foldl E9 s):=by
  intro l
  induction l with
  |nil=>intro m s h;simpa using h
  |cons x l ih=>
   intro m s h
   have:=ih (m++[x]) (E9 s x) (Hh h x)
   simpa using this
 have:=this l [] [] ⟨by simp,by simp⟩
 simpa [HB] using this
theorem C'(l):HB l=setOf l:=(D' l).unique (vm l)
structure Sp where
 cF:Int
 place:Int
 bn:Int
 bP:Bool
deriving DecidableEq,Inhabited
structure PT where
 rider:Int
 bq:Int
 bP:Bool
deriving DecidableEq,Inhabited
structure PS where
 aG:List Sp
 open_:List (Int×PT)
 used:List Int
deriving DecidableEq,Inhabited
def dT (x:Sp):Bool:=decide (x.cF=1)||decide (x.cF=2)
def CJ (wh pl:Int) (x:Sp):Bool:=decide (x.cF=wh)&&decide (x.place=pl)
def countP (l:List Sp) (wh pl:Int):Nat:=l.countP (CJ wh pl)
def po (l:List (Int×PT)) (rider:Int):Bool:=l.any λp=>decide (p.2.rider=rider)
def lY (l:List (Int×PT)) (id:Int):Option PT:=(l.find? λp=>p.1==id).map (·.2)
def oh (l:List Int) (id:Int):Bool:=l.any λi=>i==id
def refuse (no:Bool) (e:Int):Int:=if no=true then e else 0
def ez (cI:List Int) (s:PS) (e:Ev):Int:=
 let x:=s.aG.getD e.bq.toNat default
 if e.kind=1 then (if (!dT x&&decide (0<(countP s.aG 1 e.place:Int)))=true then 22 else refuse (dT x) 23)
 else if e.kind=2 then refuse (dT x) 23
 else if e.kind=3 then (if dT x=false then 23 else if oh s.used e.bn=true then 6 else refuse (po s.open_ e.rider) 22)
 else if e.kind=4 then (match lY s.open_ e.bn with|none=>7|some t=>if dT x=false then 23 else refuse t.bP 12)
 else if e.kind=5\/e.kind=6 then (if x.cF≠3 then 23 else refuse (x.bP==decide (e.kind=5)) 12)
 else if e.kind=7 then (if (decide (x.cF=3)||decide (x.cF=4))=true then 23 else refuse (decide (cI.getD e.place.toNat 0<=(countP s.aG 4 e.place:Int))) 24)
 else if e.kind=8 then refuse (decide (x.cF=3)||decide (x.cF=5)) 23
 else if e.kind=9 then refuse (decide (x.cF=5)||decide (x.cF=6)) 23
 else 0
def gA (s:PS) (bq:Nat) (to:Sp):PS:=
 {s with open_:=if (s.aG.getD bq default).cF=3 then s.open_.eraseP (λp=>p.1==(s.aG.getD bq default).bn) else s.open_,aG:=s.aG.set bq to}
def nx (l:List (Int×PT)) (id:Int) (t:PT):List (Int×PT):=l.map λp=>if p.1==id then (p.1,t) else p
def tD (l:List Int) (id:Int):List Int:=if oh l id=true then l else l++[id]
def mF (s:PS) (e:Ev):PS:=
 let k:=e.bq.toNat
 if e.kind=1 then gA s k ⟨1,e.place,0,false⟩
 else if e.kind=2 then gA s k ⟨2,e.place,0,false⟩
 else if e.kind=3 then {aG:=s.aG.set k ⟨3,0,e.bn,false⟩,open_:=s.open_++[(e.bn,⟨e.rider,e.bq,false⟩)],used:=tD s.used e.bn}
 else if e.kind=4 then (match lY s.open_ e.bn with
  |none=>s
  |some t=>{s with aG:=(s.aG.set t.bq.toNat (s.aG.getD k default)).set k ⟨3,0,e.bn,false⟩,open_:=nx s.open_ e.bn {t with bq:=e.bq}})
 else if e.kind=5\/e.kind=6 then
  let p:=decide (e.kind=5)
  let x:=s.aG.getD k default
  {s with aG:=s.aG.set k {x with bP:=p},open_:=match lY s.open_ x.bn with|none=>s.open_|some t=>nx s.open_ x.bn {t with bP:=p}}
 else if e.kind=7 then gA s k ⟨4,e.place,0,false⟩
 else if e.kind=8 then gA s k ⟨5,0,0,false⟩
 else if e.kind=9 then gA s k ⟨6,0,0,false⟩
 else s
def dy (n:Nat):PS:=⟨List.replicate n ⟨5,0,0,false⟩,[],[]⟩
structure jF (n:Nat) (s:PS):Prop where
 len:s.aG.length=n
 keys:(s.open_.map (·.1)).Nodup
 used: ∀p∈s.open_,oh s.used p.1=true
 bq: ∀p∈s.open_,0<=p.2.bq/\ ∃x,s.aG[p.2.bq.toNat]?=some x/\x.cF=3/\x.bn=p.1/\x.bP=p.2.bP
 spot: ∀(k:Nat) x,s.aG[k]?=some x->x.cF=3-> ∃t,(x.bn,t)∈s.open_/\t.bq=(k:Int)
theorem qG{l:List (Int×PT)}(h:(l.map (·.1)).Nodup){p q}(hp:p∈l)(hq:q∈l)(he:p.1=q.1):p=q:=by
 obtain ⟨i,hi,rfl⟩:=nX hp
 obtain ⟨j,hj,rfl⟩:=nX hq
 have:=bJ.1 h
 grind
theorem ov: ∀{l:List (Int×PT)},(l.map (·.1)).Nodup-> ∀{r:Int} {p:Int×PT},p∈l.eraseP (λq=>q.1==r)↔p∈l/\p.1≠r
 |[],_,r,p=>by simp
 |y::l,h,r,p=>by
  simp only [kh,SE] at h;by_cases hy:y.1=r
  ·rw [List.eraseP_cons_of_pos (by simpa using hy)];refine ⟨λhp=>⟨bR _ hp,λe=>h.1 ?_⟩,λ⟨hp,hne⟩=>?_⟩
   ·rw [hy,<-e];exact cW.2 ⟨p,hp,rfl⟩
   rcases cn.1 hp with rfl|hp
   ·exact absurd hy hne
   exact hp
  rw [List.eraseP_cons_of_neg (by simpa using hy)];simp only [cn];rw [ov h.2];constructor
  ·rintro (rfl|⟨h1,h2⟩)
   ·exact ⟨.inl rfl,hy⟩
   exact ⟨.inr h1,h2⟩
  rintro ⟨rfl|h1,h2⟩
  ·exact .inl rfl
  exact .inr ⟨h1,h2⟩
theorem fx{l id t p}:p∈nx l id t↔(∃q∈l,q.1=id/\p=(id,t))\/(p∈l/\p.1≠id):=by
 grind [nx]
theorem xo(l id t):(nx l id t).map (·.1)=l.map (·.1):=by
 unfold nx
 rw [jH]
 apply List.map_congr_left
 grind
theorem o9{l id t}(h:lY l id=some t):(id,t)∈l:=by
 unfold lY at h
 cases hf:l.find? (λp=>p.1==id) with
 |none=>rw [hf] at h;cases h
 |some p=>
  grind
theorem uS{l}(hn:(l.map (·.1)).Nodup){id t}(h:(id,t)∈l):lY l id=some t:=by
 unfold lY
 cases hf:l.find? (λp=>p.1==id) with
 |none=>have:=List.find?_eq_none.1 hf _ h;simp at this
 |some p=>
  grind [lY,qG]
theorem mI{l id}:oh l id=true↔id∈l:=by
 grind [oh]
theorem wI{l id x}:x∈tD l id↔x∈l\/x=id:=by
 grind [tD,mI]
section
variable {n:Nat} {s:PS}
theorem Cg{s:PS}(k)(h:k<s.aG.length): ∃x,s.aG[k]?=some x/\s.aG.getD k default=x:=by
 grind
theorem jF.leave(h:jF n s)(k)(hk:k<n)(to)(hto:to.cF≠3):jF n (gA s k to):=by
 obtain ⟨x,hx,hg⟩:=Cg (s:=s) k (by rw [h.len];exact hk);have hmem: ∀p,p∈(gA s k to).open_↔p∈s.open_/\(x.cF=3->p.1≠x.bn):=by
  intro p;unfold gA;rw [hg];by_cases h3:x.cF=3
  ·simp only [h3,E2,true_implies];exact ov h.keys
  grind
 have hsp: ∀j:Nat,(gA s k to).aG[j]?=if k=j then some to else s.aG[j]?:=by
  grind [gA]
 refine ⟨by show (s.aG.set k to).length=n;rw [gP];exact h.len,?_,λp hp=>h.used p ((hmem p).1 hp).1,λp hp=>?_,λj y hy h3=>?_⟩
 ·unfold gA;rw [hg];by_cases h3:x.cF=3
  ·simp only [h3,E2];exact h.keys.sublist (List.eraseP_sublist.map _)
  simp only [h3,sB];exact h.keys
 ·obtain ⟨hp1,hp2⟩:=(hmem p).1 hp;obtain ⟨hb,y,hy,y3,yr,yp⟩:=h.bq p hp1;refine ⟨hb,y,?_,y3,yr,yp⟩;rw [hsp,an (λe=>?_)]
  ·exact hy
  rw [<-e,hx] at hy;cases hy
  grind
 rw [hsp] at hy;split at hy
 ·cases hy;exact absurd h3 hto
 rename_i hne;obtain ⟨t,ht,hb⟩:=h.spot j y hy h3;refine ⟨t,(hmem _).2 ⟨ht,λx3 e=>hne ?_⟩,hb⟩;obtain ⟨t2,ht2,hb2⟩:=h.spot k x hx x3;have:=qG h.keys ht ht2 e;simp only [sC] at this;rw [this.2,hb2] at hb;omega
theorem jF.start(h:jF n s)(k)(hk:k<n)(bn rider)(hx3:(s.aG.getD k default).cF≠3)(hu:oh s.used bn=false):
  jF n {aG:=s.aG.set k ⟨3,0,bn,false⟩,open_:=s.open_++[(bn,⟨rider,k,false⟩)],used:=tD s.used bn}:=by
 obtain ⟨x,hx,hg⟩:=Cg (s:=s) k (by rw [h.len];exact hk);rw [hg] at hx3;have hsp: ∀j:Nat,(s.aG.set k ⟨3,0,bn,false⟩)[j]?=if k=j then some ⟨3,0,bn,false⟩ else s.aG[j]?:=by
  intro j;rw [cD];by_cases e:k=j
  ·subst e;simp;rw [h.len];exact hk
  simp [e]
 have hnew: ∀p∈s.open_,p.1≠bn:=λp hp e=>by
  have:=h.used p hp;rw [e,hu] at this;cases this
 refine ⟨by simpa using h.len,?_,?_,?_,?_⟩
 ·simp only [eY,kh,E4];refine um.2 ⟨h.keys,by simp,λa ha b hb=>?_⟩;simp only [cm] at hb;obtain ⟨p,hp,rfl⟩:=cW.1 ha;rw [hb];exact hnew p hp
 ·intro p hp;rw [mI,wI];rcases bO.1 hp with hp|hp
  ·left;exact mI.1 (h.used p hp)
  right;simp only [cm] at hp;rw [hp]
 ·intro p hp;rcases bO.1 hp with hp|hp
  ·obtain ⟨hb,y,hy,y3,yr⟩:=h.bq p hp;refine ⟨hb,y,?_,y3,yr⟩;rw [hsp,an (λe=>?_)]
   ·exact hy
   rw [<-e,hx] at hy;cases hy;exact hx3 y3
  simp only [cm] at hp;subst hp;exact ⟨by simp,⟨3,0,bn,false⟩,by rw [hsp];simp,rfl,rfl,rfl⟩
 intro j y hy h3;simp only at hy;rw [hsp] at hy;split at hy
 ·rename_i e;cases hy;exact ⟨⟨rider,k,false⟩,bO.2 (.inr (by simp)),by simp [e]⟩
 obtain ⟨t,ht,hb⟩:=h.spot j y hy h3;exact ⟨t,bO.2 (.inl ht),hb⟩
theorem jF.swap(h:jF n s)(k)(hk:k<n)(bn t)(ht:(bn,t)∈s.open_)(hx3:(s.aG.getD k default).cF≠3)(hp:t.bP=false):
  jF n {s with aG:=(s.aG.set t.bq.toNat (s.aG.getD k default)).set k ⟨3,0,bn,false⟩,open_:=nx s.open_ bn {t with bq:=(k:Int)}}:=by
 obtain ⟨x,hx,hg⟩:=Cg (s:=s) k (by rw [h.len];exact hk);rw [hg] at hx3|-;obtain ⟨hb0,y,hy,y3,yr,yp⟩:=h.bq _ ht;simp only at hb0 hy yr yp;obtain ⟨j,hj⟩: ∃j,j=t.bq.toNat:=⟨_,rfl⟩;rw [<-hj] at hy|-;have hjk:j≠k:=λe=>by rw [e,hx] at hy;cases hy;exact hx3 y3
 have hjn:j<s.aG.length:=(ai.1 hy).1;have hsp: ∀i:Nat,((s.aG.set j x).set k ⟨3,0,bn,false⟩)[i]?=if k=i then some ⟨3,0,bn,false⟩ else if j=i then some x else s.aG[i]?:=by
  intro i;rw [cD,cD];by_cases e:k=i
  ·subst e;simp;rw [h.len];exact hk
  simp only [e,sB];by_cases e2:j=i
  ·subst e2;simp [hjn]
  simp [e2]
 refine ⟨by simpa using h.len,by simp only [xo];exact h.keys,?_,?_,?_⟩
 ·intro p hp;rcases fx.1 hp with ⟨q,hq,hq1,rfl⟩|⟨hp,_⟩
  ·have:=h.used q hq;rw [hq1] at this;exact this
  exact h.used p hp
 ·intro p hp';rcases fx.1 hp' with ⟨q,hq,hq1,rfl⟩|⟨hp',hne⟩
  ·exact ⟨by simp,⟨3,0,bn,false⟩,by rw [hsp];simp,rfl,rfl,hp.symm⟩
  obtain ⟨hb,z,hz,z3,zr,zp⟩:=h.bq p hp';refine ⟨hb,z,?_,z3,zr,zp⟩;rw [hsp,an (λe=>?_),an (λe=>?_)]
  ·exact hz
  ·rw [<-e,hy] at hz;cases hz;exact hne (zr.symm.trans yr)
  rw [<-e,hx] at hz;cases hz;exact hx3 z3
 intro i z hz h3;simp only at hz;rw [hsp] at hz;split at hz
 ·rename_i e;cases hz;exact ⟨_,fx.2 (.inl ⟨_,ht,rfl,rfl⟩),by simp [e]⟩
 rename_i hki;split at hz
 ·cases hz;exact absurd h3 hx3
 rename_i hji;obtain ⟨t2,ht2,hb2⟩:=h.spot i z hz h3;refine ⟨t2,fx.2 (.inr ⟨ht2,λe=>hji ?_⟩),hb2⟩;have:=qG h.keys ht2 ht e;simp only [sC] at this;rw [this.2] at hb2;omega
theorem jF.ue(h:jF n s)(k)(hk:k<n)(pa t)(hx3:(s.aG.getD k default).cF=3)(ht:((s.aG.getD k default).bn,t)∈s.open_):
  jF n {s with aG:=s.aG.set k {(s.aG.getD k default) with bP:=pa},open_:=nx s.open_ (s.aG.getD k default).bn {t with bP:=pa}}:=by
 obtain ⟨x,hx,hg⟩:=Cg (s:=s) k (by rw [h.len];exact hk);rw [hg] at hx3 ht|-;obtain ⟨t2,ht2,hb2⟩:=h.spot k x hx hx3;have htt:=qG h.keys ht2 ht rfl;simp only [sC,true_and] at htt;subst htt;have hsp: ∀i:Nat,(s.aG.set k {x with bP:=pa})[i]?=if k=i then some {x with bP:=pa} else s.aG[i]?:=by
  intro i;rw [cD];by_cases e:k=i
  ·subst e;simp;rw [h.len];exact hk
  simp [e]
 refine ⟨by simpa using h.len,by simp only [xo];exact h.keys,?_,?_,?_⟩
 ·intro p hp;rcases fx.1 hp with ⟨q,hq,hq1,rfl⟩|⟨hp,_⟩
  ·have:=h.used q hq;rw [hq1] at this;exact this
  exact h.used p hp
 ·intro p hp';rcases fx.1 hp' with ⟨q,hq,hq1,rfl⟩|⟨hp',hne⟩
  ·refine ⟨by show 0<=t2.bq;omega,{x with bP:=pa},?_,hx3,rfl,rfl⟩;show (s.aG.set k {x with bP:=pa})[t2.bq.toNat]?=_;rw [hsp,aB (by omega)]
  obtain ⟨hb,z,hz,z3,zr,zp⟩:=h.bq p hp';refine ⟨hb,z,?_,z3,zr,zp⟩;rw [hsp,an (λe=>?_)]
  ·exact hz
  rw [<-e,hx] at hz;cases hz;exact hne zr.symm
 intro i z hz h3;simp only at hz;rw [hsp] at hz;split at hz
 ·rename_i e;cases hz;exact ⟨_,fx.2 (.inl ⟨_,ht2,rfl,rfl⟩),by show t2.bq=_;omega⟩
 rename_i hki;obtain ⟨t3,ht3,hb3⟩:=h.spot i z hz h3;refine ⟨t3,fx.2 (.inr ⟨ht3,λe=>hki ?_⟩),hb3⟩;have:=qG h.keys ht3 ht2 e;simp only [sC] at this;rw [this.2] at hb3;omega
theorem yG{no e}(he:e≠0)(h:refuse no e=0):no=false:=by
 grind [refuse]
theorem nD{x}(h:dT x=true):x.cF≠3:=by
 unfold dT at h
 simp at h
 omega
theorem jF.step(h:jF n s){tr}{e:Ev}(hb:0<=e.bq/\e.bq<n)(hc:ez tr s e=0):jF n (mF s e):=by
 have hk:e.bq.toNat<n:=by omega
 have hbk:((e.bq.toNat:Nat):Int)=e.bq:=by omega
 unfold ez at hc
 unfold mF
 simp only at hc|-
 by_cases h1:e.kind=1
 ·rw [aB h1];exact h.leave _ hk _ (by simp)
 rw [an h1] at hc|-
 by_cases h2:e.kind=2
 ·rw [aB h2];exact h.leave _ hk _ (by simp)
 rw [an h2] at hc|-
 by_cases h3:e.kind=3
 ·rw [aB h3] at hc|-
  split at hc
  ·cases hc
  rename_i hp
  split at hc
  ·cases hc
  rename_i hu
  have:=h.start e.bq.toNat hk e.bn e.rider (nD (by simpa using hp)) (by simpa using hu)
  rw [hbk] at this
  exact this
 rw [an h3] at hc|-
 by_cases h4:e.kind=4
 ·rw [aB h4] at hc|-
  cases hl:lY s.open_ e.bn with
  |none=>exact h
  |some t=>
   rw [hl] at hc
   simp only at hc|-
   split at hc
   ·cases hc
   rename_i hp
   have:=h.swap e.bq.toNat hk e.bn t (o9 hl) (nD (by simpa using hp)) (yG (by decide) hc)
   rw [hbk] at this
   exact this
 rw [an h4] at hc|-
 by_cases h5:e.kind=5\/e.kind=6
 ·rw [aB h5] at hc|-
  split at hc
  ·cases hc
  rename_i hw
  have hw':(s.aG.getD e.bq.toNat default).cF=3:=kM hw
  obtain ⟨x,hx,hg⟩:=Cg (s:=s) e.bq.toNat (by rw [h.len];exact hk)
  obtain ⟨t,ht,_⟩:=h.spot _ x hx (by rw [<-hg];exact hw')
  rw [<-hg] at ht
  rw [uS h.keys ht]
  exact h.ue e.bq.toNat hk (decide (e.kind=5)) t hw' ht
 rw [an h5] at hc|-
 by_cases h7:e.kind=7
 ·rw [aB h7];exact h.leave _ hk _ (by simp)
 rw [an h7] at hc|-
 by_cases h8:e.kind=8
 ·rw [aB h8];exact h.leave _ hk _ (by simp)
 rw [an h8] at hc|-
 by_cases h9:e.kind=9
 ·rw [aB h9];exact h.leave _ hk _ (by simp)
 rw [an h9]
 exact h
theorem jF.begin(n):jF n (dy n):=by
 refine ⟨by simp [dy],by simp [dy],λp hp=>by simp [dy] at hp,λp hp=>by simp [dy] at hp,λk x hx h3=>?_⟩
 grind [dy]
end
end Go.Proofs.Cus
namespace Go.Proofs.Cus
theorem pX{f e}(h:jo f e=0):fy f=0/\(0<=e.bq/\e.bq<f.cv)/\(e.kind=7->0<=e.place/\e.place<f.cI.length)/\(1<=e.kind/\e.kind<=10)/\0<=e.at_/\e.at_<=4294943999:=by
 unfold jo at h;split at h
 ·rename_i h0;exact absurd h h0
 grind [jo,fy,within,p']
def eE (f:Fl) (s:PS) (e:Ev):PS×Option Int:=
 if jo f e=0/\e.kind=10 then (s,none)
 else
  let er:=if jo f e=0 then ez f.cI s e else jo f e
  (if er=0 then mF s e else s,some er)
def ie {σ:Type} (cb:σ->PS->Ev->Int->σ) (z:σ) (e:Ev) (r:PS×Option Int):PS×σ:=
 match r.2 with
 |none=>(r.1,z)
 |some er=>(r.1,cb z r.1 e er)
def gn {σ:Type} (f:Fl) (cb:σ->PS->Ev->Int->σ) (l:List Ev) (x:PS×σ):PS×σ:=l.foldl (λx e=>ie cb x.2 e (eE f x.1 e)) x
theorem C3{n:Nat}{f:Fl}{s e}(hn:f.cv=n)(h:jF n s):jF n (eE f s e).1:=by
 unfold eE
 split
 ·exact h
 simp only
 by_cases h1:jo f e=0
 ·rw [aB h1]
  by_cases h0:ez f.cI s e=0
  ·rw [aB h0]
   have:=(pX h1).2.1
   exact h.step (by omega) h0
  rw [an h0];exact h
 rw [an h1,an h1];exact h
theorem sK{σ}(cb:σ->PS->Ev->Int->σ)(z e r):(ie cb z e r).1=r.1:=by
 unfold ie;split<;>rfl
theorem xq{σ}{n:Nat}{f:Fl}{cb}(hn:f.cv=n): ∀(l:List Ev) (x:PS×σ),jF n x.1->jF n (gn f cb l x).1
 |[],_,h=>h
 |e::l,x,h=>by
  show jF n (gn f cb l _).1;refine xq hn l _ ?_;show jF n (ie cb x.2 e (eE f x.1 e)).1;rw [sK];exact C3 hn h
theorem vq{σ f}{cb:σ->PS->Ev->Int->σ}(l:List Ev)(x k e)(h:l[k]?=some e):gn f cb (l.take (k+1)) x=ie cb (gn f cb (l.take k) x).2 e (eE f (gn f cb (l.take k) x).1 e):=by
 unfold gn
 rw [iC,h,fX]
 rfl
structure gy where
 bq:Int
 cF:Int
 place:Int
 bn:Int
 from_:Int
 jT:Int
deriving DecidableEq,Inhabited
def tG (x y:gy):Bool:=(decide (x.cF=y.cF)&&decide (x.place=y.place))&&decide (x.bn=y.bn)
def qC (at_:Int) (z:gy×List gy):gy×List gy:=
 let now:={z.1 with jT:=at_}
 if z.1.from_=at_ then (now,z.2)
 else
  match z.2.getLast? with
  |some y=>if tG y z.1=true then (now,z.2.dropLast++[{y with jT:=at_}]) else (now,z.2++[now])
  |none=>(now,z.2++[now])
def yL (x:Sp) (y:gy):Bool:=(!decide (x.cF=y.cF)||!decide (x.place=y.place))||!decide (x.bn=y.bn)
def mv (bq:Nat) (z:gy×List gy) (s:PS) (e:Ev) (er:Int):gy×List gy:=
 let x:=s.aG.getD bq default
 if er=0/\yL x z.1=true then (⟨bq,x.cF,x.place,x.bn,e.at_,0⟩,(qC e.at_ z).2) else z
def wm (bq:Nat):gy:=⟨bq,5,0,0,0,0⟩
theorem F8 {α:Type} {l:List α} {y z:α} (h:l.getLast?=some y):l[l.length -1]?=some y/\l.set (l.length -1) z=l.dropLast++[z]/\0<l.length:=by
 have hne:l≠[]:=λe=>by subst e;cases h
 have hl:0<l.length:=List.length_pos_iff.2 hne
 refine ⟨by rw [List.getLast?_eq_getElem?] at h;exact h,?_,hl⟩
 conv=>lhs;rw [<-Sh hne]
 rw [mn _ _ (by simp)]
 simp
end Go.Proofs.Cus
namespace Go.Proofs.Aud
open Go.Proofs.Cus
structure Fd where
 k:Int
 a:Int
 b:Int
deriving DecidableEq,Inhabited
def uq (x y:Fd):Bool:=decide (x.k<y.k\/(x.k=y.k/\(x.a<y.a\/(x.a=y.a/\x.b<y.b))))
theorem Gn (x y:Fd):uq x y=true\/x=y\/uq y x=true:=by
 obtain ⟨x1,x2,x3⟩:=x
 obtain ⟨y1,y2,y3⟩:=y
 simp only [uq,fg,Fd.mk.injEq]
 omega
theorem r4 (x:Fd):uq x x=false:=by simp [uq]
theorem wV {x y z:Fd} (h:uq x y=true) (h2:uq y z=true):uq x z=true:=by
 simp only [uq,fg] at*
 omega
def Es:List Fd->Fd->List Fd
 |[],x=>[x]
 |y::l,x=>if uq y x=true then y::Es l x else if y=x then y::l else x::y::l
def lU (l:List Fd):List Fd:=l.foldl Es []
abbrev Qx (l:List Fd):Prop:=l.Pairwise λx y=>uq x y=true
theorem Er: ∀(l:List Fd) (x z:Fd),z∈Es l x↔z=x\/z∈l
 |[],x,z=>by simp [Es]
 |y::l,x,z=>by
  unfold Es
  split
  ·rw [cn,Er l x z,cn]
   constructor
   ·rintro (h|h|h)
    ·exact .inr (.inl h)
    ·exact .inl h
    exact .inr (.inr h)
   rintro (h|h|h)
   ·exact .inr (.inl h)
   ·exact .inl h
   exact .inr (.inr h)
  split
  ·rename_i h
   subst h
   simp
  simp
theorem I6: ∀{l:List Fd} (x:Fd),Qx l->Qx (Es l x)
 |[],x,_=>List.pairwise_singleton _ _
 |y::l,x,h=>by
  obtain ⟨h1,h2⟩:=bB.1 h
  unfold Es
  split
  ·rename_i hy
   refine bB.2 ⟨λz hz=>?_,I6 x h2⟩
   rcases (Er l x z).1 hz with rfl|hz
   ·exact hy
   exact h1 z hz
  rename_i hy
  split
  ·exact h
  rename_i hn
  have hx:uq x y=true:=by
   rcases Gn y x with h|h|h
   ·exact absurd h hy
   ·exact absurd h hn
   exact h
  refine bB.2 ⟨λz hz=>?_,h⟩
  rcases cn.1 hz with rfl|hz
  ·exact hx
  exact wV hx (h1 z hz)
theorem Ci: ∀(l:List Fd) {m:List Fd},Qx m->Qx (l.foldl Es m)/\ ∀z,z∈l.foldl Es m↔z∈m\/z∈l
 |[],m,h=>⟨h,λz=>by simp⟩
 |x::l,m,h=>by
  obtain ⟨h1,h2⟩:=Ci l (I6 x h)
  refine ⟨h1,λz=>?_⟩
  rw [eh,h2 z,Er,cn]
  constructor
  ·rintro ((h|h)|h)
   ·exact .inr (.inl h)
   ·exact .inl h
   exact .inr (.inr h)
  rintro (h|h|h)
  ·exact .inl (.inr h)
  ·exact .inl (.inl h)
  exact .inr h
theorem I0 (l:List Fd):Qx (lU l):=(Ci l List.Pairwise.nil).1
theorem Ek (l:List Fd) (z:Fd):z∈lU l↔z∈l:=by rw [lU,(Ci l List.Pairwise.nil).2];simp
theorem Cy: ∀{l m:List Fd},Qx l->Qx m->(∀z,z∈l↔z∈m)->l=m
 |[],[],_,_,_=>rfl
 |[],y::m,_,_,h=>absurd ((h y).2 (dV ..)) QE
 |x::l,[],_,_,h=>absurd ((h x).1 (dV ..)) QE
 |x::l,y::m,h1,h2,h=>by
  obtain ⟨a1,a2⟩:=bB.1 h1
  obtain ⟨b1,b2⟩:=bB.1 h2
  have hxy:x=y:=by
   rcases cn.1 ((h x).1 (dV ..)) with e|e
   ·exact e
   rcases cn.1 ((h y).2 (dV ..)) with e2|e2
   ·exact e2.symm
   have:=wV (a1 y e2) (b1 x e)
   rw [r4] at this
   cases this
  subst hxy
  rw [Cy a2 b2 λz=>?_]
  constructor
  ·intro hz
   rcases cn.1 ((h z).1 (bR _ hz)) with e|e
   ·subst e
    have:=a1 z hz
    rw [r4] at this
    cases this
   exact e
  intro hz
  rcases cn.1 ((h z).2 (bR _ hz)) with e|e
  ·subst e
   have:=b1 z hz
   rw [r4] at this
   cases this
  exact e
theorem IZ {l:List Fd}:lU l=[]↔l=[]:=by
 constructor
 ·intro h
  cases l with
  |nil=>rfl
  |cons x l=>
   have:=(Ek (x::l) x).2 (dV ..)
   rw [h] at this
   cases this
 rintro rfl;rfl
theorem AL (l:List Fd):(lU l).length<=l.length:=by
 have h:(lU l).Nodup:=(I0 l).imp λ{x y} h e=>by subst e;rw [r4] at h;cases h
 exact h.length_le_of_subset λz hz=>(Ek l z).1 hz
def CG (x y:Fd):Bool:=decide (x=y)
theorem H5: ∀(l:List Fd) (p:Fd),(p::l).Pairwise (λx y=>uq y x=false)->Qx (p::dL CG p l)/\ ∀z,z∈p::dL CG p l↔z∈p::l
 |[],p,_=>⟨List.pairwise_singleton _ _,λz=>by simp [dL]⟩
 |y::l,p,h=>by
  obtain ⟨h1,h2⟩:=bB.1 h
  obtain ⟨i1,i2⟩:=H5 l y h2
  simp only [dL]
  by_cases hy:y=p
  ·subst hy
   rw [aB (show CG y y=true by simp [CG])]
   exact ⟨i1,λz=>by rw [i2 z];simp⟩
  rw [an (show ¬CG y p=true by simp [CG,hy])]
  have hp:uq p y=true:=by
   rcases Gn p y with h|h|h
   ·exact h
   ·exact absurd h.symm hy
   rw [h1 y (dV ..)] at h;cases h
  refine ⟨bB.2 ⟨λz hz=>?_,i1⟩,λz=>by rw [cn,i2 z,cn (b:=p)]⟩
  rcases cn.1 hz with rfl|hz
  ·exact hp
  exact wV hp ((bB.1 i1).1 z hz)
theorem GB {l ys:List Fd} (hp:ys.Perm l) (hs:ys.Pairwise λx y=>uq y x=false):e9 CG ys=lU l:=by
 refine Cy ?_ (I0 l) λz=>?_
 ·cases ys with
  |nil=>exact List.Pairwise.nil
  |cons y ys=>exact (H5 ys y hs).1
 rw [Ek,<-hp.mem_iff]
 cases ys with
 |nil=>simp [e9]
 |cons y ys=>exact (H5 ys y hs).2 z
end Go.Proofs.Aud
namespace Go.Proofs.Far
structure Tf where
 from_:Int
 unlock:Int
 step:Int
 free:Int
 zP:Int
 ue:Int
deriving DecidableEq,Inhabited
def yW (n lo hi:Int):Bool:=decide (lo<=n)&&decide (n<=hi)
def nY (t:Tf):Bool:=((((yW t.from_ 0 4294943999&&yW t.unlock 0 1000000)&&yW t.zP 0 1000000)&&yW t.ue 0 1000000)&&yW t.step 1 86400)&&yW t.free 0 86400
def xk:Option Tf->Tf->Bool
 |none,t=>decide (t.from_≠0)
 |some q,t=>decide (t.from_<=q.from_)
def mr:Option Tf->List Tf->Int
 |_,[]=>0
 |p,t::l=>
  if nY t=false then 1
  else if xk p t=true then 9
  else mr (some t) l
def kX (l:List Tf):Int:=if l.length=0 then 10 else if 8<l.length then 8 else mr none l
def N8 (t:Int):Nat->Nat->List Tf->Nat
 |a,_,[]=>a
 |a,k,x::l=>N8 t (if x.from_<=t then k else a) (k+1) l
def CJ (l:List Tf) (t:Int):Nat:=N8 t 0 0 l
def oX (t:Tf) (gG:Int):Int:=(max gG 0+t.step -1)/t.step
def o6 (t:Tf) (gG:Int):Int:=t.zP*oX t (gG -t.free)
def rj (t:Tf) (gG:Int):Int:=t.ue*oX t gG
def nq (n:Int):Int×Int:=if 1000000000000<n then (0,2) else (n,0)
theorem pw{n lo hi}:yW n lo hi=true↔lo<=n/\n<=hi:=by unfold yW;simp
theorem pS{t}:nY t=true↔(0<=t.from_/\t.from_<=4294943999)/\(0<=t.unlock/\t.unlock<=1000000)/\(0<=t.zP/\t.zP<=1000000)/\(0<=t.ue/\t.ue<=1000000)/\(1<=t.step/\t.step<=86400)/\(0<=t.free/\t.free<=86400):=by
 grind [nY,pw]
theorem Bp{t}(h:1<=t.step/\t.step<=86400){s}(hs:s<=4294944000):0<=oX t s/\oX t s<=4294944000:=by
 unfold oX
 have h0:0<=max s 0:=by omega
 have h1:max s 0<=4294944000:=by omega
 constructor
 ·exact Int.ediv_nonneg (by omega) (by omega)
 have hq:(max s 0+t.step -1)/t.step<=max s 0:=by
  rw [Int.ediv_le_iff_le_mul (by omega)]
  have:max s 0*1<=max s 0*t.step:=Int.mul_le_mul_of_nonneg_left h.1 h0
  omega
 omega
def qZ (l:List Tf):Nat->Option Tf
 |0=>none
 |k+1=>l[k]?
theorem Fh{l k t}(h:l[k]?=some t)(h0:nY t=true)(h1:xk (qZ l k) t=false):mr (qZ l k) (l.drop k)=mr (qZ l (k+1)) (l.drop (k+1)):=by
 obtain ⟨hk,e⟩:=ai.1 h
 rw [cH hk,e]
 grind [nY,xk,qZ,mr]
theorem Hl{l k t}(h:l[k]?=some t)(h0:nY t=false):mr (qZ l k) (l.drop k)=1:=by
 obtain ⟨hk,e⟩:=ai.1 h
 rw [cH hk,e]
 unfold mr
 rw [aB h0]
theorem Hk{l k t}(h:l[k]?=some t)(h0:nY t=true)(h1:xk (qZ l k) t=true):mr (qZ l k) (l.drop k)=9:=by
 obtain ⟨hk,e⟩:=ai.1 h
 rw [cH hk,e]
 grind [nY,xk,qZ,mr]
theorem C1: ∀{l:List Tf} {p:Option Tf},mr p l=0-> ∀t∈l,nY t=true
 |[],_,_,t,ht=>by cases ht
 |x::l,p,h,t,ht=>by
  unfold mr at h
  split at h
  ·cases h
  rename_i h1
  split at h
  ·cases h
  rcases cn.1 ht with rfl|ht
  ·simpa using h1
  exact C1 h t ht
theorem LY{l}(h:kX l=0):0<l.length/\l.length<=8/\ ∀t∈l,nY t=true:=by
 grind [kX,nY,C1]
theorem NM(t): ∀(l:List Tf) (a k:Nat),a<k+l.length->0<l.length\/a<k->N8 t a k l<k+l.length
 |[],a,k,h,_=>h
 |x::l,a,k,h,h2=>by
  unfold N8
  rw [cL] at h|-
  have:=NM t l (if x.from_<=t then k else a) (k+1) (by split<;>omega) (by
   by_cases hl:0<l.length
   ·exact .inl hl
   right
   split
   ·omega
   omega)
  omega
theorem RR{l}(h:0<l.length)(t):CJ l t<l.length:=by
 have:=NM t l 0 0 (by omega) (.inl h)
 unfold CJ
 omega
structure AB where
 id:Int
 rider:Int
 from_:Int
 jT:Int
 tJ:Int
 gG:Int
deriving DecidableEq,Inhabited
def AK (p:AB):Bool:=((!yW p.id 1 1000000||!yW p.rider 0 127)||!yW p.tJ 1 256)||!yW p.gG 0 86400
def Ef (p:AB):Bool:=(decide (p.from_<0)||decide (p.jT<=p.from_))||decide (49710<p.jT)
def o7 (p:AB):Bool:=AK p||Ef p
def jk:List Int->List Int->Bool
 |_,[]=>false
 |seen,x::l=>seen.any (λy=>y==x)||jk (seen++[x]) l
def k8 (l:List AB):Int:=if 64<l.length then 8 else if l.any o7=true then 1 else if jk [] (l.map (·.id))=true then 6 else 0
structure Rq where
 rider:Int
 day:Int
deriving DecidableEq,Inhabited
def og (p:AB) (q:Rq):Bool:=decide (p.rider=q.rider)&&(decide (p.from_<=q.day)&&decide (q.day<p.jT))
def sU (used:List (Int×Int)) (k d:Int):Nat:=used.countP λu=>u.1==k&&u.2==d
def rZ (l:List AB) (used:List (Int×Int)) (q:Rq):Int:=
 match (List.range l.length).find? λk=>og (l.getD k default) q&&decide ((sU used k q.day:Int)<(l.getD k default).tJ) with
 |none=> -1
 |some k=>k
def kZ (l:List AB) (s:List Int×List (Int×Int)) (q:Rq):List Int×List (Int×Int):=
 (s.1++[rZ l s.2 q],if 0<=rZ l s.2 q then s.2++[(rZ l s.2 q,q.day)] else s.2)
def Bh (l:List AB) (qs:List Rq):List Int×List (Int×Int):=qs.foldl (kZ l) ([],[])
theorem HJ(l used q): -1<=rZ l used q/\rZ l used q<l.length:=by
 unfold rZ
 cases h:(List.range l.length).find? λk=>og (l.getD k default) q&&decide ((sU used k q.day:Int)<(l.getD k default).tJ) with
 |none=>simp only;omega
 |some k=>
  have:=kg.1 (Al h)
  simp only;omega
theorem Bg: ∀(l:List AB) (qs:List Rq) (s:List Int×List (Int×Int)),(qs.foldl (kZ l) s).1.length=s.1.length+qs.length
 |_,[],s=>by simp
 |l,q::qs,s=>by
  rw [eh,Bg l qs]
  unfold kZ
  simp only [aQ,cL,dO]
  omega
structure Dy where
 rider:Int
 day:Int
 fU:Int
deriving DecidableEq,Inhabited
def Ds (x:Dy):Bool:=(!yW x.rider 0 127||!yW x.day 0 49709)||!yW x.fU 0 1000000000000
def sL (l:List (Dy×Int)) (r d:Int):Int:=((l.filter λx=>x.1.rider==r&&x.1.day==d).map (·.2)).sum
def sa (limit:Int) (l:List (Dy×Int)) (x:Dy):Int:=if 0<limit then min x.fU (limit -sL l x.rider x.day) else x.fU
def CR (limit:Int) (xs:List Dy):List (Dy×Int):=xs.foldl (λl x=>l++[(x,sa limit l x)]) []
def Ae (limit:Int) (xs:List Dy):Int:=if yW limit 0 1000000000000=false then 1 else if 256<xs.length then 8 else if xs.any Ds=true then 1 else 0
end Go.Proofs.Far
namespace Go.Proofs.Cus
open Go Go.RowKit Go.Proofs.E
abbrev lf (w:World) (A:Option Addr) (n:Nat) (xs:List Int):Prop:=eG w 1 eQ A n xs
def Ev.cells (e:Ev):List Value:=[.int .i64 e.device, .int .i64 e.seq, .int .i64 e.at_, .int .i64 e.late, .int .i64 e.kind, .int .i64 e.bq, .int .i64 e.place, .int .i64 e.rider, .int .i64 e.bn]
structure FA where
 dA:Option Addr
 dn:Nat
 dc:Nat
 tA:Option Addr
 tn:Nat
 tc:Nat
def Fl.cells (f:Fl) (a:FA):List Value:=[.int .i64 f.cv, .int .i64 f.q', .int .i64 f.bH, .slice a.dA a.dn a.dc, .slice a.tA a.tn a.tc]
structure mE (w:World) (f:Fl) (a:FA):Prop where
 iX:lf w a.dA a.dn f.iX
 cI:lf w a.tA a.tn f.cI
theorem mE.mem{w0 w L f a}(h:mE w0 f a)(hm:Mem w0 L w):mE w f a:=⟨h.iX.mem hm,h.cI.mem hm⟩
theorem kO(n low high w):Calls Tryz.prog 131 #[.int .i64 n, .int .i64 low, .int .i64 high] w λe w'=>e= .returned (.bool (within n low high))/\fM w w':=by
 refine HF Tryz.func131 Tryz.ntmps131 ?_;exact GW
theorem dY{α:Type}(l:List α)(k v)(h:l[k]?=some v):l.take (k+1)=l.take k++[v]:=by
 rw [iC,h];rfl
attribute [local irreducible] within xZ
theorem Aj(A n c xs Em w)(hx:lf w A n xs):
  Calls Tryz.prog 132 #[.slice A n c, .int .i64 Em] w λe w'=>e= .returned (.bool (xZ xs Em))/\fM w w':=by
 have hl:=hx.1;have hn:=hx.2.1;refine HF Tryz.func132 Tryz.ntmps132 ?_;refine la ([4,6]++rg 9 9) (λk:Nat=>[(9, .int .i64 k)]) (λ_=>_) (λk=>k<=n/\(xs.take k).all (λm=>within m 1 Em)=true) (λk=>n -k) 0 ⟨bj _,rfl⟩ ?_;rintro k g ⟨hk,hall⟩;refine GD ?_ ?_<;>intro hlt
 ·simp at hlt;obtain ⟨b,off,x,rfl,hbl,hxk,hrx⟩:=hx.at_ hlt;refine GX ?_;refine jx (en jO (nS (q0 rfl) (q0 rfl) (q0 rfl))) (λ_ w _=>kO x 1 Em w)<|GD ?_ ?_<;>intro hb
  ·exact cu (v:= .bool _) rfl rfl rfl λw' hw=>⟨fK (by
    unfold xZ;rw [eq_comm,List.all_eq_false];exact ⟨x,aq hxk,by simpa using hb⟩),hw.1⟩
  refine GX ?_;exact na (k+1) ⟨by omega,by rw [dY _ _ _ hxk,List.all_append,hall];simpa using hb⟩
 obtain rfl:k=n:=by simp at hlt;omega
 refine GX ?_;exact cu (v:= .bool _) rfl rfl rfl λw' hw=>⟨fK (by unfold xZ;rw [<-hall,bo (by omega)]),hw.1⟩
theorem xM(f a w)(hx:mE w f a):Calls Tryz.prog 53 #[.agg (f.cells a).toArray] w λe w'=>e= .returned (.int .i64 (fy f))/\fM w w':=by
 have hl:=hx.iX.1;have hl2:=hx.cI.1;refine HF Tryz.func53 Tryz.ntmps53 ?_;refine cd (v:= .agg _) rfl rfl λb1=>GX ?_;refine jx (en jO (nS (q0 rfl) (q0 rfl) (q0 rfl))) (λ_ w _=>kO f.cv 1 128 w)<|GX ?_;refine AE (en jO (nS (q1 (v:= .int _ _) rfl) (q0 rfl) (q0 rfl))) (λ_ w _=>kO f.q' 1 128 w) rfl rfl rfl rfl<|GX ?_;refine AE (en jO (nS (q1 (v:= .int _ _) rfl) (q0 rfl) (q0 rfl))) (λ_ w _=>kO f.bH 1 256 w) rfl rfl rfl rfl<|GD ?_ ?_<;>intro h1
 ·exact cu (v:= .int _ _) rfl rfl rfl λw' hw=>⟨cg (by unfold fy;rw [aB h1]),hw.1⟩
 refine GD ?_ ?_<;>intro h2
 ·exact cu (v:= .int _ _) rfl rfl rfl λw' hw=>⟨cg (by unfold fy;rw [an (by rw [h1];decide),aB (by simp at h2;omega)]),hw.1⟩
 refine GX ?_;refine jx (en Tryz.call132 (jn (q0 rfl) (q0 rfl))) (λ_ w hm=>Aj a.dA a.dn a.dc f.iX 32 w (hx.iX.mem hm))<|GX ?_;refine AE (en Tryz.call132 (jn (q1 (v:= .slice _ _ _) rfl) (q0 rfl))) (λ_ w hm=>Aj a.tA a.tn a.tc f.cI 32 w (hx.cI.mem hm)) rfl rfl rfl rfl<|GD ?_ ?_<;>intro h3
 ·exact cu (v:= .int _ _) rfl rfl rfl λw' hw=>⟨cg (by unfold fy;rw [an (by rw [h1];decide),an (by simp at h2;omega),aB h3]),hw.1⟩
 refine GX ?_;exact cu (v:= .int _ _) rfl rfl rfl λw' hw=>⟨cg (by unfold fy;rw [an (by rw [h1];decide),an (by simp at h2;omega),an (by rw [h3];decide)]),hw.1⟩
end Go.Proofs.Cus
namespace Go.Proofs.E
open Go Go.RowKit
theorem kA{c w0 L f K d op ty pos af v}(h:gj true c w0 L f op ty v)(hnd:ew op=false)(hd:Nat.blt d c.N=true)(next:K L (kV f d v)):vO c w0 L f ⟨some d,op,ty,pos,af,none⟩ K:=
 ⟨rfl,hnd,hd,λw hw=>by rw [h rfl _ _ _ _ w hw];exact ⟨L,hw,rfl,next⟩⟩
def ET (w:World) (b o n:Nat) (vs:List Value):Prop:=vs.length=n/\ ∀j u,vs[j]?=some u->w.cell? ⟨b,o+j,none⟩=some u
theorem BP{cs:List Value}{o n}(h:Nat.ble (o+n) cs.length=true):((cs.drop o).take n).length=n:=by
 have:=dW h
 grind
theorem BQ{cs:List Value}{o n j u}(h:((cs.drop o).take n)[j]?=some u):cs[o+j]?=some u:=by
 grind
theorem ND{w:World}{a v}(h:w.cell? a=some v):a.block<w.heap.size:=by
 unfold World.cell? at h
 grind
section
variable {c:Cx} {w0:World} {L:List Item} {f:Fr} {ty t:TypeId} {g:Bool} {x:Operand} {b o n p:Nat}
theorem bp(k:Nat){tb cs}(hk:L[k]?=some (box b tb cs))(hl:Nat.ble (o+n) cs.length=true):g=true-> ∀w,Mem w0 L w->ET w b o n ((cs.drop o).take n):=
 λ_ _ hw=>⟨BP hl,λ_ _ hu=>jR hw hk (BQ hu)⟩
theorem rp{cs}(h:jS w0 b o cs)(hb:b<w0.heap.size)(hl:Nat.ble (p+n) cs.length=true):g=true-> ∀w,Mem w0 L w->ET w b (o+p) n ((cs.drop p).take n):=
 λ_ _ hw=>⟨BP hl,λj u hu=>by rw [kf];exact (hw.1.cell (p:=⟨b,o+(p+j),none⟩) hb).trans (h (p+j) u (BQ hu))⟩
theorem Sj{α e k i cp}{enc:α->List Value}{xs y}(j:Nat)(hk:L[j]?=some (dS e k enc (some ⟨b,0,none⟩) cp xs))(hx:xs[i]?=some y)(hl:Nat.ble (p+n) (enc y).length=true)(he: ∀x,(enc x).length=k:=by exact λ_=>rfl):g=true-> ∀w,Mem w0 L w->ET w b (0+i*k+p) n (((enc y).drop p).take n):=
 λhg w hw=>⟨BP hl,λq u hu=>by rw [kf];exact rr j hk hx (BQ hu) he hg w hw⟩
theorem eP{vs}(ht: ∀w,(isAgg t).run c.P w= .ok true w)(hs: ∀w,(sizeOf t).run c.P w= .ok n w)(hx:gH g f x (.pointer (some ⟨b,o,none⟩)))(hc:g=true-> ∀w,Mem w0 L w->ET w b o n vs:=by first|exact bp 0 rfl rfl|exact bp 1 rfl rfl|exact bp 2 rfl rfl|exact bp 3 rfl rfl|exact bp 4 rfl rfl|exact bp 5 rfl rfl|exact bp 6 rfl rfl|exact bp 7 rfl rfl|exact bp 8 rfl rfl|exact bp 9 rfl rfl|exact bp 10 rfl rfl|exact bp 11 rfl rfl|exact rp ‹_› ‹_› rfl|exact Sj 0 rfl ‹_› rfl|exact Sj 1 rfl ‹_› rfl|exact Sj 2 rfl ‹_› rfl|exact Sj 3 rfl ‹_› rfl|exact Sj 4 rfl ‹_› rfl|exact Sj 5 rfl ‹_› rfl):gj g c w0 L f (.load t x) ty (.agg vs.toArray):=λe dst pos af gu w hw=>by
 obtain ⟨hl,hc'⟩:=hc e w hw
 exact iV (g:=true) (L:=[]) (w0:=w) ht hs (λ_=>hx e) (λ_ w' hw' j u hu=>(hw'.1.cell (p:=⟨b,o+j,none⟩) (ND (hc' j u hu))).trans (hc' j u hu)) hl rfl dst pos af gu w (Mem.start w)
end
end Go.Proofs.E
namespace Go.Proofs.E
open Go Go.RowKit
theorem H9(f dst op ty pos af g):execOp f ⟨dst,op,ty,pos,af,g⟩=execOp f ⟨dst,op,ty,pos,af,none⟩:=by
 cases op<;>rfl
section
variable {c:Cx} {PQ:PJ} {w0:World} {L Lb:List Item} {f:Fr} {ops rest:List Oper} {dst:Option Nat} {op:Op} {ty:TypeId} {pos:String} {af:Array Edge} {g:Option (Nat×Bool)} {b:Bool} {i fuel:Nat} {listed:List Nat}
theorem qk{x v g'}(h:ev f x=gv b v)(hb:b=true):gH g' f x v:=λ_=>by rw [h,hb,px]
theorem qg (hg:Gd f g (ops.map (·.dst)) b) (hb:b=true) (h:vO c w0 L f ⟨dst,op,ty,pos,af,none⟩ λL' f'=>XL false c ops rest PQ w0 L' f'):XL false c ops (⟨dst,op,ty,pos,af,g⟩::rest) PQ w0 L f:=by
 intro a w ha hw;show if _ then _ else _
 have hwt:Region.wanted (⟨dst,op,ty,pos,af,g⟩:Oper) (yielded ops.toArray a.tmps)=true:=by rw [oW ha,<-hb];exact hg
 rw [aB hwt];refine ⟨λ_ _=>trivial,?_⟩;rw [Oper.semAt_eq _ _ (⟨dst,op,ty,pos,af,g⟩:Oper) (lK h.nd),ha.eval,H9];have h2:=h.run w hw;generalize (execOp (ev f) ⟨dst,op,ty,pos,af,none⟩).run c.P w=r at h2;cases r with
 |halt x w'=>exact False.elim h2
 |ok x w'=>
  cases x with
  |value v=>obtain ⟨L',hm,hk,hn⟩:=h2;exact hn _ _ (hk▸ha.wN rfl h.dst v) hm
  |skip=>obtain ⟨L',hm,hk,hn⟩:=h2;exact hn _ _ (hk▸ha.wN rfl h.dst undef) hm
  |enter k args=>
   obtain ⟨e,hc⟩:=h2;subst e;refine ⟨λh=>by simp [FW] at h,(nF (hc.mono ?_))⟩;rintro e w'' ⟨v,L',rfl,hm,hk,hn⟩;exact hn _ _ (hk▸ha.wN rfl h.dst v) hm
  |_=>exact False.elim h2
end
end Go.Proofs.E
namespace Go.Proofs.Far
open Go Go.RowKit Go.Proofs.E
def Tf.cells (t:Tf):List Value:=[.int .i64 t.from_, .int .i64 t.unlock, .int .i64 t.step, .int .i64 t.free, .int .i64 t.zP, .int .i64 t.ue]
abbrev JF (w:World) (A:Option Addr) (n:Nat) (ts:List Tf):Prop:=eG w 6 Tf.cells A n ts
theorem C0(n lo hi w):Calls Tryz.prog 210 #[.int .i64 n, .int .i64 lo, .int .i64 hi] w λe w'=>e= .returned (.bool (yW n lo hi))/\fM w w':=by
 refine HF Tryz.func210 Tryz.ntmps210 ?_;exact GW
theorem J1(t w):Calls Tryz.prog 133 #[.agg t.cells.toArray] w λe w'=>e= .returned (.bool (nY t))/\fM w w':=by
 refine HF Tryz.func133 Tryz.ntmps133 ?_;refine cd (v:= .agg _) rfl rfl λb1=>GX ?_;refine jx (vU (cap:=[]) (al:=[.int .i64 t.from_, .int .i64 0, .int .i64 4294943999]) wc (q0 rfl) (λ_=>rfl)) (λ_ w _=>C0 t.from_ 0 4294943999 w)<|GX ?_;refine Hg (vU (cap:=[]) (al:=[.int .i64 t.unlock, .int .i64 0, .int .i64 1000000]) wc (q1 rfl) (λhg=>by rw [nS (q1 (v:= .int _ _) rfl) (q0 rfl) (q0 rfl) hg];rfl)) (λ_ w _=>C0 t.unlock 0 1000000 w) rfl rfl rfl rfl<|GX ?_;refine Hg (vU (cap:=[]) (al:=[.int .i64 t.zP, .int .i64 0, .int .i64 1000000]) wc (q1 rfl) (λhg=>by rw [nS (q1 (v:= .int _ _) rfl) (q0 rfl) (q0 rfl) hg];rfl)) (λ_ w _=>C0 t.zP 0 1000000 w) rfl rfl rfl rfl<|GX ?_;refine Hg (vU (cap:=[]) (al:=[.int .i64 t.ue, .int .i64 0, .int .i64 1000000]) wc (q1 rfl) (λhg=>by rw [nS (q1 (v:= .int _ _) rfl) (q0 rfl) (q0 rfl) hg];rfl)) (λ_ w _=>C0 t.ue 0 1000000 w) rfl rfl rfl rfl<|GX ?_;refine Hg (vU (cap:=[]) (al:=[.int .i64 t.step, .int .i64 1, .int .i64 86400]) wc (q1 rfl) (λhg=>by rw [nS (q1 (v:= .int _ _) rfl) (q0 rfl) (q0 rfl) hg];rfl)) (λ_ w _=>C0 t.step 1 86400 w) rfl rfl rfl rfl<|GX ?_;refine Hg (vU (cap:=[]) (al:=[.int .i64 t.free, .int .i64 0, .int .i64 86400]) wc (q1 rfl) (λhg=>by rw [nS (q1 (v:= .int _ _) rfl) (q0 rfl) (q0 rfl) hg];rfl)) (λ_ w _=>C0 t.free 0 86400 w) rfl rfl rfl rfl ?_;exact GW
attribute [local irreducible] nY
theorem Bn(A n c ts w)(hx:JF w A n ts):Calls Tryz.prog 54 #[.slice A n c] w λe w'=>e= .returned (.int .i64 (kX ts))/\fM w w':=by
 have hl:=hx.1;have hn:=hx.2.1;refine HF Tryz.func54 Tryz.ntmps54 ?_;refine GD ?_ ?_<;>intro h1
 ·have h1':kX ts=10:=by unfold kX;rw [aB (by simp at h1;omega)]
  refine GX ?_;exact cu (v:= .int _ _) rfl rfl rfl λw' hw=>⟨cg h1'.symm,hw.1⟩
 refine GD ?_ ?_<;>intro h2
 ·have h2':kX ts=8:=by unfold kX;rw [an (by simp at h1;omega),aB (by simp at h2;omega)]
  refine GX ?_;exact cu (v:= .int _ _) rfl rfl rfl λw' hw=>⟨cg h2'.symm,hw.1⟩
 have h2':kX ts=mr (qZ ts 0) (ts.drop 0):=by unfold kX;rw [an (by simp at h1;omega),an (by simp at h2;omega)];rfl
 rw [h2'];clear h2';refine GX ?_;refine la ([2,3,4]++rg 15 31) (λk:Nat=>[(15, .int .i64 k)]) (λ_=>[]) (λk=>k<=n/\mr (qZ ts 0) (ts.drop 0)=mr (qZ ts k) (ts.drop k)) (λk=>n -k) 0 ⟨bj _,rfl⟩ ?_;rintro k g ⟨hk,hall⟩;refine GD ?_ ?_<;>intro hlt
 ·have hlt':k<n:=by simpa using hlt
  obtain ⟨b,off,t,rfl,hbl,ht,hrt⟩:=hx.at_ hlt';refine GX ?_;refine bS oH rfl λb4=>?_;refine GX ?_;refine dN (v:= .agg _) rfl rfl nv ?_;refine GX ?_;refine jx (en Tryz.call133 (iQ (q0 rfl))) (λ_ w _=>J1 t w) ?_;refine GD ?_ ?_<;>intro hb
  ·have hb':nY t=false:=by simpa using hb
   refine GX ?_;exact cu (v:= .int _ _) rfl rfl rfl λw' hw=>⟨cg (by rw [hall,Hl ht hb']),hw.1⟩
  have hb':nY t=true:=by simpa using hb
  refine GX ?_;refine ke (rg 23 22) (λo:Bool=>[(44, .bool o)]) (λ_=>[box b4 139 t.cells]) (λo=>o=xk (qZ ts k) t) ?_ ?_
  ·rcases ga k with h00|h00
   ·subst h00;refine vS ?_;refine xV (ay (v:= .int _ _) (q0 rfl)) rfl rfl ?_;refine xV (jE (q0 rfl) (q0 rfl)) rfl rfl ?_;refine xV (ay (v:= .bool _) (q0 rfl)) rfl rfl ?_;refine dJ (az gr rfl ae rfl (q0 rfl)) rfl rfl rfl rfl ?_;refine dJ (eL aj (q1 rfl)) rfl rfl rfl rfl ?_;refine dJ (ki (q1 rfl) (q0 rfl)) rfl rfl rfl rfl ?_;refine xV (fH (q0 rfl) rfl (λh=>by first|rfl|(rw [h];rfl))) rfl rfl ?_;refine xV (ay (v:= .bool _) (q0 rfl)) rfl rfl ?_;refine fE (ay (v:= .int _ _) (q0 rfl)) rfl rfl rfl rfl ?_;refine fE (uY (q1 rfl) (q0 rfl)) rfl rfl rfl rfl ?_;refine fE (ay (v:= .bool _) (q1 rfl)) rfl rfl rfl rfl ?_;refine K9 (cO (v:= .pointer none) (by simp)) rfl rfl ?_;refine K9 (cO (v:= .int .i64 0) (by simp)) rfl rfl ?_;refine K9 (cO (v:= .slice none 0 0) (by simp)) rfl rfl ?_;refine K9 (cO (v:= .int .i64 0) (by simp)) rfl rfl ?_;refine K9 (cO (v:= .int .i64 0) (by simp)) rfl rfl ?_;refine K9 (cO (v:= .pointer none) (by simp)) rfl rfl ?_;refine K9 (cO (v:= .pointer none) (by simp)) rfl rfl ?_;refine K9 (cO (v:= .int .i64 0) (by simp)) rfl rfl ?_;refine K9 (cO (v:= .bool false) (by simp)) rfl rfl ?_;refine GX ?_;exact aO _ lg ⟨rfl,trivial⟩ (λw hw=>hw) rfl (by simp [qZ,xk])
   obtain ⟨j,rfl⟩: ∃j,k=j+1:=⟨k -1,by omega⟩;have hjn:j<n:=by omega
   obtain ⟨q,hq,hrq⟩:=hx.row hjn;refine vS ?_;refine xV (ay (v:= .int _ _) (q0 rfl)) rfl rfl ?_;refine xV (jE (q0 rfl) (q0 rfl)) rfl rfl ?_;refine xV (ay (v:= .bool _) (q0 rfl)) rfl rfl ?_;refine dJ (az gr rfl ae rfl (q0 rfl)) rfl rfl rfl rfl ?_;refine dJ (eL aj (q1 rfl)) rfl rfl rfl rfl ?_;refine dJ (ki (q1 rfl) (q0 rfl)) rfl rfl rfl rfl ?_;refine xV (fH (q0 rfl) rfl (λh=>by first|rfl|(rw [h];rfl))) rfl rfl ?_;refine xV (ay (v:= .bool _) (q0 rfl)) rfl rfl ?_;refine fE (ay (v:= .int _ _) (q0 rfl)) rfl rfl rfl rfl ?_;refine fE (uY (q1 rfl) (q0 rfl)) rfl rfl rfl rfl ?_;refine fE (ay (v:= .bool _) (q1 rfl)) rfl rfl rfl rfl ?_;refine mq (az gr rfl ae rfl (q0 rfl)) rfl rfl rfl rfl ?_;refine mq (eL aj (q1 rfl)) rfl rfl rfl rfl ?_;refine mq (ay (v:= .slice _ _ _) (q0 rfl)) rfl rfl rfl rfl ?_;refine mq (ay (v:= .int _ _) (q0 rfl)) rfl rfl rfl rfl ?_;refine K9 (rK (r:=((j:Nat):Int)) (q1 rfl) (q0 rfl) (λ_=>⟨by omega,by omega,by omega⟩)) rfl rfl ?_;refine K9 (cx j oJ nv (q1 rfl) (q1 rfl) (λ_=>⟨rfl,hjn⟩)) rfl rfl ?_;refine GX ?_;exact aO _ lg ⟨rfl,trivial⟩ (λw hw=>hw) rfl (by
    simp only [qZ,hq,xk];have h3:decide (((j+1:Nat):Int)=0)=false:=jy (by omega);have h4:decide ((0:Int)<((j+1:Nat):Int))=true:=iU (by omega);rw [h3,h4];simp)
  rintro o g2 ho;subst ho;refine GD ?_ ?_<;>intro ho
  ·exact cu (v:= .int _ _) rfl rfl rfl λw' hw=>⟨cg (by rw [hall,Hk ht hb' ho]),hw.1⟩
  have hst:=Fh ht hb' ho;refine GX ?_;exact nc (k+1) (λw hw=>hw.tail) ⟨by omega,by rw [hall,hst]⟩
 have hend:k=n:=by simp at hlt;omega
 have hall2:mr (qZ ts 0) (ts.drop 0)=0:=by
  rw [hall,gZ (by omega)];unfold mr;rfl
 refine GX ?_;exact cu (v:= .int _ _) rfl rfl rfl λw' hw=>⟨cg hall2.symm,hw.1⟩
end Go.Proofs.Far
namespace Go.Proofs.Far
open Go Go.RowKit Go.Proofs.E
theorem Uj{k args w r}(h:Calls Tryz.prog k args w λe w'=>e= .returned r/\fM w w'):Calls Tryz.prog k args w λe w'=> ∃_:Unit,e= .returned r/\Mem w [] w':=
 h.mono λ_ _ h=>⟨(),h.1,ik.2 h.2⟩
theorem drop_at{α:Type}{l:List α}{k x}(h:l[k]?=some x):l.drop k=x::l.drop (k+1):=by
 obtain ⟨h1,h2⟩:=ai.1 h
 rw [cH h1,h2]
theorem NN(t a k x l):N8 t a k (x::l)=N8 t (if x.from_<=t then k else a) (k+1) l:=rfl
def atR (l:List Tf) (t:Int):Int×Int:=if kX l≠0 then (0,kX l) else if t<0\/4294943999<t then (0,1) else ((CJ l t:Nat),0)
theorem S0(A n c ts t w)(hx:JF w A n ts):Calls Tryz.prog 197 #[.slice A n c, .int .i64 t] w λe w'=>e= .returned (.tuple #[.int .i64 (atR ts t).1, .int .i64 (atR ts t).2])/\fM w w':=by
 have hl:=hx.1;have hn:=hx.2.1;refine HF Tryz.func197 Tryz.ntmps197 ?_;refine jx (en Ua (iQ (q0 rfl))) (λ_ w hw=>Bn A n c ts w (hx.mem hw)) ?_;refine GD ?_ ?_<;>intro h1
 ·have h1':kX ts≠0:=by simpa using h1
  have hr:atR ts t=(0,kX ts):=by unfold atR;rw [aB h1']
  rw [hr];exact GW
 have h1':kX ts=0:=by simpa using h1
 refine GD ?_ ?_<;>intro h2
 ·have hr:atR ts t=(0,1):=by unfold atR;rw [an (by simp [h1']),aB (by simp at h2;omega)]
  rw [hr];exact GW
 have hr:atR ts t=(((N8 t 0 0 (ts.drop 0):Nat):Int),0):=by unfold atR;rw [an (by simp [h1']),an (by simp at h2;omega)];rfl
 rw [hr];refine GX ?_;refine la ([7,8,9]++rg 23 11) (λq:Nat×Nat=>[(23, .int .i64 q.1),(7, .int .i64 q.2)]) (λ_=>[]) (λq=>q.1<=n/\N8 t 0 0 (ts.drop 0)=N8 t q.2 q.1 (ts.drop q.1)) (λq=>n -q.1) (0,0) ⟨bj _,rfl⟩ ?_;rintro ⟨k,a⟩ g ⟨hk,hall⟩;simp only at hk hall;refine GD ?_ ?_<;>intro hlt
 ·have hlt':k<n:=by simpa using hlt
  obtain ⟨b,off,x,rfl,hbl,hxk,hrx⟩:=hx.at_ hlt';rw [drop_at hxk,NN] at hall;refine GX ?_;refine bS oH rfl λb9=>?_;refine GX ?_;refine dN (v:= .agg _) rfl rfl nv ?_;refine GD ?_ ?_<;>intro hb
  ·have hb':x.from_<=t:=by simpa using hb
   rw [aB hb'] at hall;refine GX ?_;exact nc (k+1,k) (λw hw=>hw.tail) ⟨by show k+1<=n;omega,hall⟩
  have hb': ¬x.from_<=t:=by simpa using hb
  rw [an hb'] at hall;refine GX ?_;exact nc (k+1,a) (λw hw=>hw.tail) ⟨by show k+1<=n;omega,hall⟩
 have hend:k=n:=by simp at hlt;omega
 have hfin:N8 t 0 0 (ts.drop 0)=a:=by rw [hall,hend,gZ (by omega)];rfl
 rw [hfin];exact GW
def Tf.zero (t:Tf):Tf:={t with from_:=0}
theorem DK{t}(h:nY t=true):nY t.zero=true:=by
 rw [pS] at h|-
 unfold Tf.zero
 simp only
 omega
theorem K3{t}(h:nY t=true):kX [t.zero]=0:=by
 unfold kX
 simp only [cL,dO]
 rw [an (by decide),an (by decide)]
 unfold mr
 rw [an (by rw [DK h];decide),an (by simp [xk,Tf.zero])]
 rfl
attribute [local irreducible] kX nY
theorem PU(t)(ht:nY t=true)(w):Calls Tryz.prog 328 #[.agg t.cells.toArray] w λe w'=>e= .returned (.tuple #[.agg t.zero.cells.toArray, .int .i64 0])/\fM w w':=by
 have he:=K3 ht;obtain ⟨a,b,c,d,e,f⟩:=t;refine HF Tryz.func328 Tryz.ntmps328 ?_;refine cd (v:= .agg _) rfl rfl λb1=>bS Tryz.zeroValue260 rfl λb2=>?_;refine GX ?_;refine dN (v:= .int _ _) rfl rfl ae<|GX ?_;refine jb (L':=[box b2 260 [.int .i64 0, .int .i64 0, .int .i64 0, .int .i64 0, .int .i64 0, .int .i64 0],box b1 139 (Tf.cells ⟨0,b,c,d,e,f⟩)]) (λw hw=>hw) rfl ?_;have hch:=λ(bb:Nat) (w:World) (h:JF w (some ⟨bb,0,none⟩) 1 [⟨0,b,c,d,e,f⟩])=>by
  have h2:=Bn (some ⟨bb,0,none⟩) 1 1 [⟨0,b,c,d,e,f⟩] w h;rw [show kX [⟨0,b,c,d,e,f⟩]=0 from he] at h2;exact h2
 refine JQ 1 ?_;refine aW 0 ?_;refine aW 1 ?_;refine r1 2 1 ?_;refine aL rfl (ey [(.int .i64 0),(.int .i64 0),(.int .i64 0),(.int .i64 0),(.int .i64 0),(.int .i64 0)] oJ nv oH rfl (by kernel_rfl) (pt (v:= .agg _) rfl E.p0) rfl rfl λb7=>?_);refine r1 3 2 ?_;refine aL rfl (il (en Ua (iQ (q0 rfl))) (λw hw=>Uj (hch b7 w (fj (enc:=Tf.cells) (xs:=[⟨0,b,c,d,e,f⟩]) hw (j:=0) rfl (λ_=>rfl) (by simp)))) rfl (λ_=>rfl) λu3=>?_);refine r1 4 2 ?_;refine aL rfl (mB (v:= .agg _) rfl rfl N9 ?_);refine aW 5 ?_;refine qE 2 ?_;refine GX ?_;exact lR rfl (xx 1 rfl rfl rfl Tryz.isAgg260 N9 rfl rfl) λw' hw=>⟨rfl,hw.1⟩
theorem ID(t gG w)(ht:1<=t.step/\t.step<=86400)(hs: -1000000<=gG/\gG<=4294944000):Calls Tryz.prog 329 #[.agg t.cells.toArray, .int .i64 gG] w λe w'=>e= .returned (.int .i64 (oX t gG))/\fM w w':=by
 refine dd Tryz.func329 rfl Tryz.ntmps329 rfl ?_;have hmx:(if gG<0 then 0 else gG)=max gG 0:=by split<;>omega
 refine GX ?_;refine cd (v:= .agg _) rfl rfl λb2=>GX ?_;refine fI (Qo (q0 rfl) (q0 rfl))<|GX ?_;refine fI (wD (q0 rfl) (q0 rfl) (λ_=>⟨by omega,by omega,by omega⟩))<|GX ?_;exact cu (v:= .int _ _) rfl rfl rfl λw' hw=>⟨by unfold oX;rw [<-hmx],hw.1⟩
theorem Bv(t gG w)(ht:nY t=true)(hs:0<=gG/\gG<=4294944000):Calls Tryz.prog 284 #[.agg t.cells.toArray, .int .i64 gG] w λe w'=>e= .returned (.int .i64 (o6 t gG))/\fM w w':=by
 obtain ⟨-,-,hp,-,hst,hfr⟩:=pS.1 ht;have hsl:=Bp hst (s:=gG -t.free) (by omega);have hm:0<=o6 t gG/\o6 t gG<=4294944000000000:=by
  unfold o6;constructor
  ·exact Iz hp.1 hsl.1
  have h1:t.zP*oX t (gG -t.free)<=1000000*oX t (gG -t.free):=P9 hp.2 hsl.1;omega
 refine HF Tryz.func284 Tryz.ntmps284 ?_;refine cd (v:= .agg _) rfl rfl λb2=>GX ?_;refine vS<|GX ?_;refine jx (en Tryz.call329 (jn (q0 rfl) (q0 rfl))) (λ_ w _=>ID t (gG -t.free) w hst (by omega))<|fI (Nc (r:=o6 t gG) (q0 rfl) (q0 rfl) (λ_=>⟨rfl,by omega,by omega⟩)) ?_;exact GW
theorem Km(t gG w)(ht:nY t=true)(hs:0<=gG/\gG<=4294944000):Calls Tryz.prog 285 #[.agg t.cells.toArray, .int .i64 gG] w λe w'=>e= .returned (.int .i64 (rj t gG))/\fM w w':=by
 obtain ⟨-,-,-,hp,hst,hfr⟩:=pS.1 ht;have hsl:=Bp hst (s:=gG) (by omega);have hm:0<=rj t gG/\rj t gG<=4294944000000000:=by
  unfold rj;constructor
  ·exact Iz hp.1 hsl.1
  have h1:t.ue*oX t gG<=1000000*oX t gG:=P9 hp.2 hsl.1;omega
 refine HF Tryz.func285 Tryz.ntmps285 ?_;refine cd (v:= .agg _) rfl rfl λb2=>GX ?_;refine vS<|GX ?_;refine jx (en Tryz.call329 (jn (q0 rfl) (q0 rfl))) (λ_ w _=>ID t gG w hst (by omega))<|fI (Nc (r:=rj t gG) (q0 rfl) (q0 rfl) (λ_=>⟨rfl,by omega,by omega⟩)) ?_;exact GW
theorem IS(k)(hen: ∀args w,(callFunc k args).run Tryz.prog w= .ok (.enter k args) w)(t)(ht:nY t=true)(gG v)(hs:0<=gG/\gG<=4294944000)(hc: ∀w,Calls Tryz.prog k #[.agg t.zero.cells.toArray, .int .i64 gG] w λe w'=>e= .returned (.int .i64 v)/\fM w w')(w):
  Calls Tryz.prog 283 #[.func (.func k) #[] #[], .agg t.cells.toArray, .int .i64 gG] w λe w'=>e= .returned (.tuple #[.int .i64 (nq v).1, .int .i64 (nq v).2])/\fM w w':=by
 refine HF Tryz.func283 Tryz.ntmps283 ?_;refine cd (v:= .agg _) rfl rfl λb4=>GX ?_;refine jx (en Tryz.call328 (iQ (q0 rfl))) (λ_ w _=>PU t ht w)<|GX ?_;refine bS Tryz.zeroValue260 rfl λb8=>dN (v:= .agg _) rfl rfl N9 ?_;refine GD ?_ ?_<;>intro h1
 ·exact absurd h1 (by decide)
 refine GD ?_ ?_<;>intro h2
 ·exfalso;simp at h2;omega
 refine GX ?_;refine jx (vU (cap:=[]) (al:=[.agg t.zero.cells.toArray, .int .i64 gG]) hen (q0 rfl) (λhg=>by rw [jn (q0 (v:= .agg _) rfl) (q0 (v:= .int _ _) rfl) hg];rfl)) (λ_ w _=>hc w)<|GD ?_ ?_<;>intro h3
 ·have h3':nq v=(0,2):=by unfold nq;rw [aB (by simpa using h3)]
  rw [h3'];exact GW
 have h3':nq v=(v,0):=by unfold nq;rw [an (by simpa using h3)]
 rw [h3'];exact GW
theorem LW(t)(ht:nY t=true)(gG)(hs:0<=gG/\gG<=4294944000)(w):Calls Tryz.prog 199 #[.agg t.cells.toArray, .int .i64 gG] w λe w'=>e= .returned (.tuple #[.int .i64 (nq (o6 t gG)).1, .int .i64 (nq (o6 t gG)).2])/\fM w w':=by
 refine HF Tryz.func199 Tryz.ntmps199 ?_;refine cd (v:= .agg _) rfl rfl λb2=>GX ?_;refine jx (en Tryz.call283 (nS (q0 rfl) (q0 rfl) (q0 rfl))) (λ_ w _=>IS 284 Tryz.call284 t ht gG (o6 t gG) hs (λw=>Bv t.zero gG w (DK ht) hs) w) ?_;exact GW
theorem MA(t)(ht:nY t=true)(gG)(hs:0<=gG/\gG<=4294944000)(w):Calls Tryz.prog 200 #[.agg t.cells.toArray, .int .i64 gG] w λe w'=>e= .returned (.tuple #[.int .i64 (nq (rj t gG)).1, .int .i64 (nq (rj t gG)).2])/\fM w w':=by
 refine HF Tryz.func200 Tryz.ntmps200 ?_;refine cd (v:= .agg _) rfl rfl λb2=>GX ?_;refine jx (en Tryz.call283 (nS (q0 rfl) (q0 rfl) (q0 rfl))) (λ_ w _=>IS 285 Tryz.call285 t ht gG (rj t gG) hs (λw=>Km t.zero gG w (DK ht) hs) w) ?_;exact GW
end Go.Proofs.Far
namespace Go.Proofs.Far
open Go Go.RowKit Go.Proofs.E
def qd (l:List Int) (i:Int):Bool:=l.any λy=>y==i
def qq (l:List Int):List (Int×Value):=l.map λi=>(i, .bool true)
theorem wR(l r):(lG (qq l) r).getD (.bool false)= .bool (qd l r):=by
 induction l with
 |nil=>rfl
 |cons v l ih=>
  grind [lG,qq,qd]
theorem wQ(l v)(h:qd l v=false):ou (qq l) v (.bool true)=qq (l++[v]):=by
 induction l with
 |nil=>rfl
 |cons x l ih=>
  grind [qd,ou,qq]
theorem oT{α:Type}(l:List α)(k v)(h:l[k]?=some v):l.take (k+1)=l.take k++[v]:=by
 rw [iC,h];rfl
theorem CY{l:List Int}{k x}(hx:l[k]?=some x)(h:qd (l.take k) x=true):jk (l.take k) (l.drop k)=true:=by
 rw [drop_at hx]
 grind [qd,jk]
theorem Bi{l:List Int}{k x}(hx:l[k]?=some x)(h:qd (l.take k) x=false):jk (l.take k) (l.drop k)=jk (l.take (k+1)) (l.drop (k+1)):=by
 rw [drop_at hx,oT _ _ _ hx]
 grind [qd,jk]
def AB.cells (p:AB):List Value:=[.int .i64 p.id, .int .i64 p.rider, .int .i64 p.from_, .int .i64 p.jT, .int .i64 p.tJ, .int .i64 p.gG]
abbrev zB (w:World) (A:Option Addr) (n:Nat) (ps:List AB):Prop:=eG w 6 AB.cells A n ps
theorem yZ {fs:Array Field} (h:Tryz.prog.underlying 83=some (.struct fs):=by exact bL):df Tryz.prog fs [(0,1),(1,1)]:=by
 rw [bL] at h
 cases h
 intro w
 kernel_rfl
theorem IT(n lo hi w):Calls Tryz.prog 134 #[.int .i64 n, .int .i64 lo, .int .i64 hi] w λe w'=>e= .returned (.bool (yW n lo hi))/\fM w w':=by
 refine HF Tryz.func134 Tryz.ntmps134 ?_;exact GW
theorem IX{l}{k:Nat}{p}(hl:l.length<=64)(h:l[k]?=some p)(hb:o7 p=true):k8 l=1:=by
 grind [o7,k8]
theorem NO{l:List AB}{k p}(h:l[k]?=some p)(h0:(l.take k).any o7=false)(hb:o7 p=false):(l.take (k+1)).any o7=false:=by
 rw [oT _ _ _ h,E5,h0];simp [hb]
theorem FL(A n c ps w)(hx:zB w A n ps):Calls Tryz.prog 55 #[.slice A n c] w λe w'=>e= .returned (.int .i64 (k8 ps))/\fM w w':=by
 have hl:=hx.1;have hn:=hx.2.1;refine HF Tryz.func55 Tryz.ntmps55 ?_;refine GD ?_ ?_<;>intro h1
 ·have h1':k8 ps=8:=by unfold k8;rw [aB (by simp at h1;omega)]
  refine GX ?_;exact cu (v:= .int _ _) rfl rfl rfl λw' hw=>⟨cg h1'.symm,hw.1⟩
 have h64:ps.length<=64:=by simp at h1;omega
 refine GX ?_;refine la ([2,4]++rg 13 46) (λk:Nat=>[(13, .int .i64 k)]) (λ_=>[]) (λk=>k<=n/\(ps.take k).any o7=false) (λk=>n -k) 0 ⟨bj _,rfl⟩ ?_;rintro k g ⟨hk,hall⟩;refine GD ?_ ?_<;>intro hlt
 ·have hlt':k<n:=by simpa using hlt
  obtain ⟨b,off,p,rfl,hbl,hp,hrp⟩:=hx.at_ hlt';refine GX ?_;refine bS Tryz.zeroValue262 rfl λb4=>dN (v:= .agg _) rfl rfl pK ?_;refine GX ?_;refine jx (en Iv (nS (q0 rfl) (q0 rfl) (q0 rfl))) (λ_ w _=>IT p.id 1 1000000 w)<|GX ?_;refine AE (en Iv (nS (q1 (v:= .int _ _) rfl) (q0 rfl) (q0 rfl))) (λ_ w _=>IT p.rider 0 127 w) rfl rfl rfl rfl<|GX ?_;refine AE (en Iv (nS (q1 (v:= .int _ _) rfl) (q0 rfl) (q0 rfl))) (λ_ w _=>IT p.tJ 1 256 w) rfl rfl rfl rfl<|GX ?_;refine AE (en Iv (nS (q1 (v:= .int _ _) rfl) (q0 rfl) (q0 rfl))) (λ_ w _=>IT p.gG 0 86400 w) rfl rfl rfl rfl<|GD ?_ ?_<;>intro hb
  ·have hb':AK p=true:=hb;refine GX ?_;exact cu (v:= .int _ _) rfl rfl rfl λw' hw=>⟨cg (IX h64 hp (by unfold o7;rw [hb'];rfl)).symm,hw.1⟩
  have hb':AK p=false:=hb;refine GD ?_ ?_<;>intro hb2
  ·have hb2':Ef p=true:=hb2;refine GX ?_;exact cu (v:= .int _ _) rfl rfl rfl λw' hw=>⟨cg (IX h64 hp (by unfold o7;rw [hb2',Bool.or_true])).symm,hw.1⟩
  have hb2':Ef p=false:=hb2;refine GX ?_;exact nc (k+1) (λw hw=>hw.tail) ⟨by omega,NO hp hall (by unfold o7;rw [hb',hb2'];rfl)⟩
 have hend:k=n:=by simp at hlt;omega
 rw [hend,bo (by omega)] at hall;obtain ⟨ids,hids⟩: ∃ids:List Int,ids=ps.map (·.id):=⟨_,rfl⟩;have hidl:ids.length=n:=by rw [hids,aS,hl]
 have herr:k8 ps=if jk (ids.take 0) (ids.drop 0)=true then 6 else 0:=by
  unfold k8;rw [an (by omega),hall,an (by decide),<-hids];rfl
 rw [herr];refine GX ?_;refine vL rfl λbm=>fI (aU (v:= .map _) (q0 rfl)) ?_;refine GX ?_;refine la ([2,7]++rg 62 12) (λk:Nat=>[(62, .int .i64 k)]) (λk=>[oP bm (qq (ids.take k))]) (λk=>k<=n/\jk (ids.take 0) (ids.drop 0)=jk (ids.take k) (ids.drop k)) (λk=>n -k) 0 ⟨bj _,rfl⟩ ?_;rintro k g ⟨hk,hp⟩;refine GD ?_ ?_<;>intro hlt2
 ·have hlt2':k<n:=by simpa using hlt2
  obtain ⟨b,off,p,rfl,hbl,hpk,hrp⟩:=hx.at_ hlt2';have hik:ids[k]?=some p.id:=by rw [hids];simp [hpk]
  refine GX ?_;refine bS Tryz.zeroValue262 rfl λb7=>dN (v:= .agg _) rfl rfl pK ?_;refine GX ?_;refine fI (EI 1 iz av ia (q0 rfl) (q0 rfl) rfl (λ_=>wR _ _))<|GD ?_ ?_<;>intro h3
  ·exact cu (v:= .int _ _) rfl rfl rfl λw' hw=>⟨cg (by rw [hp,CY hik h3];rfl),hw.1⟩
  have hst:=Bi hik h3;refine GX ?_;refine ve 1 iz av rfl rfl rfl rfl<|GX ?_;refine aH (k+1) lg ⟨rfl,trivial⟩ (λw hw=>?_) rfl ⟨by omega,by rw [hp,hst]⟩ (by show n -(k+1)<n -k;omega);have:=hw.tail;rw [oT _ _ _ hik,<-wQ _ _ h3];exact this
 have hend2:k=n:=by simp at hlt2;omega
 have hfin:jk (ids.take 0) (ids.drop 0)=false:=by rw [hp,gZ (by omega)];rfl
 rw [hfin];exact GW
attribute [local irreducible] o7
end Go.Proofs.Far
