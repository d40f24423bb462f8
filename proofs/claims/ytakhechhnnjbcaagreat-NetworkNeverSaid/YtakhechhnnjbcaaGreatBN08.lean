import Derived.Test.YtakhechhnnjbcaaGreatBN07
import Derived.Test.YtakhechhnnjbcaaGreatBN04
import Derived.Sort.Statements
import Derived.Test.YtakhechhnnjbcaaGreatTy
set_option maxRecDepth 100000
set_option maxHeartbeats 8000000
set_option linter.unusedVariables false
set_option linter.unusedSimpArgs false
namespace Go.Proofs.Far
def mstep (w:Wn) (s:List Wn×Int) (h:Wn):List Wn×Int:=
 if w.hi≤h.lo then s else (if s.2<h.lo then s.1++[⟨s.2,h.lo⟩] else s.1,max s.2 h.hi)
def mend (w:Wn) (s:List Wn×Int):List Wn:=if s.2<w.hi then s.1++[⟨s.2,w.hi⟩] else s.1
def minus1 (w:Wn) (y:List Wn):List Wn:=mend w (y.foldl (mstep w) ([],w.lo))
def one (w:Wn):List Wn:=if w.lo=w.hi then [] else [w]
def minusP (w:Wn) (y:List Wn):List Wn:=(one w).flatMap fun x=>minus1 x y
def cut1 (w h:Wn):List Wn:=if max w.lo h.lo<min w.hi h.hi then [⟨max w.lo h.lo,min w.hi h.hi⟩] else []
def commonP (w:Wn) (y:List Wn):List Wn:=(one w).flatMap fun x=>y.flatMap (cut1 x)
theorem union_one (w:Wn):unionP [w]=one w:=by
 unfold unionP byLo normP mergeF one
 rw [List.mergeSort_singleton]
 simp only [List.foldl_cons,List.foldl_nil,List.getLast?_nil,List.nil_append]
theorem one_mem {w x:Wn} (h:x∈one w):x=w∧w.lo≠w.hi:=by
 unfold one at h
 split at h
 ·cases h
 ·simp at h;exact ⟨h,by assumption⟩
theorem mstep_late {w:Wn}: ∀{y:List Wn} (s:List Wn×Int),(∀h∈y,w.hi≤h.lo)→y.foldl (mstep w) s=s
 |[],_,_=>rfl
 |h::y,s,hy=>by
  rw [List.foldl_cons,show mstep w s h=s by unfold mstep;rw [if_pos (hy h (by simp))]]
  exact mstep_late s fun x hx=>hy x (List.mem_cons_of_mem _ hx)
theorem Nf.ascend {a:Wn} {l:List Wn} (h:Nf (a::l)): ∀x∈l,a.lo≤x.lo:=fun x hx=>by
 have h1:=(List.pairwise_cons.1 h.apart).1 x hx
 have h2:=h.pos a (by simp)
 omega
theorem Nf.drop {l:List Wn} (h:Nf l) (k:Nat):Nf (l.drop k):=⟨fun w hw=>h.pos w (List.mem_of_mem_drop hw),h.apart.sublist (List.drop_sublist k l)⟩
theorem mstep_early {w h:Wn} {s:List Wn×Int} (hp:h.lo<h.hi) (hl:h.hi≤s.2):mstep w s h=s:=by
 unfold mstep
 split
 ·rfl
 ·rw [if_neg (by omega),show max s.2 h.hi=s.2 by omega]
def WOk (l:List Wn):Prop:= ∀w∈l,0≤w.lo∧w.lo≤w.hi∧w.hi≤4294944000
theorem WOk.le {l:List Wn} (h:WOk l): ∀w∈l,w.lo≤w.hi:=fun w hw=>(h w hw).2.1
theorem WOk.nil:WOk []:=fun w hw=>by cases hw
theorem WOk.append {l m:List Wn} (hl:WOk l) (hm:WOk m):WOk (l++m):=fun w hw=>by
 rcases List.mem_append.1 hw with h|h
 ·exact hl w h
 ·exact hm w h
theorem WOk.one {w:Wn} (h:0≤w.lo∧w.lo≤w.hi∧w.hi≤4294944000):WOk [w]:=fun x hx=>by simp at hx;subst hx;exact h
theorem mergeF_WOk {out:List Wn} {w:Wn} (h:WOk out) (hw:0≤w.lo∧w.lo≤w.hi∧w.hi≤4294944000):WOk (mergeF out w):=by
 unfold mergeF
 split
 ·exact h
 ·split
  ·exact h.append (WOk.one hw)
  ·rename_i z hz
   have hzm:=List.mem_of_getLast? hz
   have h1:=h z hzm
   split
   ·refine WOk.append (fun x hx=>h x (List.dropLast_subset _ hx)) (WOk.one ?_)
    simp only
    omega
   ·exact h.append (WOk.one hw)
theorem fold_WOk: ∀(l out:List Wn),WOk out→WOk l→WOk (l.foldl mergeF out)
 |[],_,h,_=>h
 |w::l,out,h,hl=>by
  rw [List.foldl_cons]
  exact fold_WOk l _ (mergeF_WOk h (hl w (by simp))) fun x hx=>hl x (List.mem_cons_of_mem _ hx)
theorem union_WOk {l:List Wn} (h:WOk l):WOk (unionP l):=fold_WOk (byLo l) [] WOk.nil fun w hw=>h w ((byLo_perm l).mem_iff.1 hw)
theorem mergeF_len (out:List Wn) (w:Wn):(mergeF out w).length≤out.length+1:=by
 unfold mergeF
 split
 ·omega
 ·split
  ·simp
  ·split
   ·simp
   ·simp
theorem fold_len: ∀(l out:List Wn),(l.foldl mergeF out).length≤out.length+l.length
 |[],out=>by simp
 |w::l,out=>by
  rw [List.foldl_cons,List.length_cons]
  have h1:=fold_len l (mergeF out w)
  have h2:=mergeF_len out w
  omega
theorem union_len (l:List Wn):(unionP l).length≤l.length:=by
 have h1:=fold_len (byLo l) []
 have h2:=(byLo_perm l).length_eq
 unfold unionP normP
 simp only [List.length_nil,Nat.zero_add] at h1
 omega
theorem mstep_WOk {w h:Wn} {s:List Wn×Int} (hw:0≤w.lo∧w.lo≤w.hi∧w.hi≤4294944000) (hh:0≤h.lo∧h.lo≤h.hi∧h.hi≤4294944000) (hs:WOk s.1∧0≤s.2∧s.2≤4294944000):WOk (mstep w s h).1∧0≤(mstep w s h).2∧(mstep w s h).2≤4294944000:=by
 unfold mstep
 split
 ·exact hs
 ·refine ⟨?_,by simp only;omega,by simp only;omega⟩
  simp only
  split
  ·exact hs.1.append (WOk.one (by simp only;omega))
  ·exact hs.1
theorem mfold_WOk {w:Wn} (hw:0≤w.lo∧w.lo≤w.hi∧w.hi≤4294944000): ∀(y:List Wn) (s:List Wn×Int),WOk y→(WOk s.1∧0≤s.2∧s.2≤4294944000)→WOk (y.foldl (mstep w) s).1∧0≤(y.foldl (mstep w) s).2∧(y.foldl (mstep w) s).2≤4294944000
 |[],s,_,hs=>hs
 |h::y,s,hy,hs=>by
  rw [List.foldl_cons]
  exact mfold_WOk hw y _ (fun x hx=>hy x (List.mem_cons_of_mem _ hx)) (mstep_WOk hw (hy h (by simp)) hs)
theorem mfold_len {w:Wn}: ∀(y:List Wn) (s:List Wn×Int),(y.foldl (mstep w) s).1.length≤s.1.length+y.length
 |[],s=>by simp
 |h::y,s=>by
  rw [List.foldl_cons,List.length_cons]
  have h1:=mfold_len (w:=w) y (mstep w s h)
  have h2:(mstep w s h).1.length≤s.1.length+1:=by
   unfold mstep
   split
   ·omega
   ·simp only
    split<;>simp
  omega
theorem minus_WOk {w:Wn} (hw:0≤w.lo∧w.lo≤w.hi∧w.hi≤4294944000) {y:List Wn} (hy:WOk y):WOk (minusP w y):=fun x hx=>by
 unfold minusP at hx
 obtain ⟨z,hz,hx2⟩:=List.mem_flatMap.1 hx
 clear hx
 obtain ⟨rfl,_⟩:=one_mem hz
 obtain ⟨h1,h2,h3⟩:=mfold_WOk hw y ([],z.lo) hy ⟨WOk.nil,by simp only;omega,by simp only;omega⟩
 unfold minus1 mend at hx2
 split at hx2
 ·exact (h1.append (WOk.one (by simp only;omega))) x hx2
 ·exact h1 x hx2
theorem common_WOk {w:Wn} (hw:0≤w.lo∧w.lo≤w.hi∧w.hi≤4294944000) {y:List Wn} (hy:WOk y):WOk (commonP w y):=fun x hx=>by
 unfold commonP at hx
 obtain ⟨z,hz,hx2⟩:=List.mem_flatMap.1 hx
 clear hx
 obtain ⟨rfl,_⟩:=one_mem hz
 obtain ⟨h,hh,hx3⟩:=List.mem_flatMap.1 hx2
 clear hx2
 unfold cut1 at hx3
 have:=hy h hh
 split at hx3
 ·simp at hx3;subst hx3;simp only;omega
 ·cases hx3
end Go.Proofs.Far
namespace Go.Proofs.Cus
open Go.Sort
deriving instance DecidableEq,Inhabited for Ev
def cmpI (a b:Int):Int:=if a<b then -1 else if b<a then 1 else 0
def lexCmp:List Int→List Int→Int
 |a::l,b::r=>if cmpI a b≠0 then cmpI a b else lexCmp l r
 |_,_=>0
def Ev.keys (e:Ev):List Int:=[e.at_,e.device,e.seq,e.late,e.kind,e.bike,e.place,e.rider,e.ride]
def evCmp (a b:Ev):Int:=lexCmp a.keys b.keys
def orI (l:List Int):Int:=(l.find? (fun x=>decide (x≠0))).getD 0
def setCmp (a b:Ev):Int:=orI [cmpI a.device b.device,cmpI a.seq b.seq,evCmp a b]
def lexLt:List Int→List Int→Bool
 |a::l,b::r=>if a≠b then decide (a<b) else lexLt l r
 |_,_=>false
def evLess (a b:Ev):Bool:=lexLt a.keys b.keys
def sameNum (a b:Ev):Bool:=[a.device,a.seq]==[b.device,b.seq]
theorem lexLt_irrefl: ∀l,lexLt l l=false
 |[]=>rfl
 |a::l=>by simp [lexLt,lexLt_irrefl l]
theorem lexLt_trans: ∀{a b c:List Int},a.length=b.length→b.length=c.length→lexLt a b=true→lexLt b c=true→lexLt a c=true
 |[],[],[],_,_,h,_=>by simp [lexLt] at h
 |x::a,y::b,z::c,h1,h2,h3,h4=>by
  simp only [List.length_cons,Nat.add_right_cancel_iff] at h1 h2
  simp only [lexLt] at h3 h4⊢
  by_cases e1:x=y
  ·subst e1
   simp only [ne_eq,not_true,if_false] at h3
   by_cases e2:x=z
   ·subst e2
    simp only [ne_eq,not_true,if_false] at h4⊢
    exact lexLt_trans h1 h2 h3 h4
   ·simp only [ne_eq,e2,not_false_eq_true,if_true] at h4⊢
    exact h4
  ·simp only [ne_eq,e1,not_false_eq_true,if_true,decide_eq_true_eq] at h3
   by_cases e2:y=z
   ·subst e2
    simp only [ne_eq,e1,not_false_eq_true,if_true,decide_eq_true_eq]
    exact h3
   ·simp only [ne_eq,e2,not_false_eq_true,if_true,decide_eq_true_eq] at h4
    have e3:x≠z:=by omega
    simp only [ne_eq,e3,not_false_eq_true,if_true,decide_eq_true_eq]
    omega
 |[],[],_::_,_,h,_,_=>by simp at h
 |[],_::_,_,h,_,_,_=>by simp at h
 |_::_,[],_,h,_,_,_=>by simp at h
 |_::_,_::_,[],_,h,_,_=>by simp at h
theorem lexLt_total: ∀{a b:List Int},a.length=b.length→lexLt a b=false→lexLt b a=false→a=b
 |[],[],_,_,_=>rfl
 |x::a,y::b,h1,h2,h3=>by
  simp only [List.length_cons,Nat.add_right_cancel_iff] at h1
  simp only [lexLt] at h2 h3
  by_cases e:x=y
  ·subst e
   simp only [ne_eq,not_true,if_false] at h2 h3
   rw [lexLt_total h1 h2 h3]
  ·simp only [ne_eq,e,not_false_eq_true,if_true,decide_eq_false_iff_not,Ne.symm e] at h2 h3
   omega
 |[],_::_,h,_,_=>by simp at h
 |_::_,[],h,_,_=>by simp at h
theorem swo_key {α:Type} (key:α→List Int) (n:Nat) (hn: ∀x,(key x).length=n):SWO (fun x y=>lexLt (key x) (key y)) where
 irrefl x:=lexLt_irrefl _
 trans x y z h1 h2:=lexLt_trans (by rw [hn,hn]) (by rw [hn,hn]) h1 h2
 ntrans x y z h1 h2:=by
  cases h:lexLt (key x) (key z) with
  |false=>rfl
  |true=>
   cases h3:lexLt (key y) (key x) with
   |true=>
    have:=lexLt_trans (by rw [hn,hn]) (by rw [hn,hn]) h3 h
    rw [h2] at this;cases this
   |false=>
    have:=lexLt_total (by rw [hn,hn]) h1 h3
    rw [this] at h
    rw [h2] at h;cases h
theorem lexCmp_lt: ∀(a b:List Int),decide (lexCmp a b<0)=lexLt a b
 |[],[]=>rfl
 |[],_::_=>rfl
 |_::_,[]=>rfl
 |x::a,y::b=>by
  simp only [lexCmp,lexLt,cmpI]
  by_cases h1:x<y
  ·have:x≠y:=by omega
   simp [h1,this]
  ·by_cases h2:y<x
   ·have:x≠y:=by omega
    simp [h1,h2,this]
   ·have:x=y:=by omega
    subst this
    simp [lexCmp_lt a b]
def Ev.keys2 (e:Ev):List Int:=e.device::e.seq::e.keys
theorem setCmp_lt (a b:Ev):decide (setCmp a b<0)=lexLt a.keys2 b.keys2:=by
 have h3:=lexCmp_lt a.keys b.keys
 simp only [setCmp,Ev.keys2,lexLt,orI,evCmp,cmpI]
 by_cases h1:a.device<b.device
 ·have:a.device≠b.device:=by omega
  simp [h1,this]
 ·by_cases h2:b.device<a.device
  ·have:a.device≠b.device:=by omega
   simp [h1,h2,this]
  ·have:a.device=b.device:=by omega
   simp only [this,Int.lt_irrefl,if_false,ne_eq,not_true]
   by_cases h4:a.seq<b.seq
   ·have:a.seq≠b.seq:=by omega
    simp [h4,this]
   ·by_cases h5:b.seq<a.seq
    ·have:a.seq≠b.seq:=by omega
     simp [h4,h5,this]
    ·have:a.seq=b.seq:=by omega
     simp only [this,Int.lt_irrefl,if_false,ne_eq,not_true]
     rw [←h3]
     by_cases h6:lexCmp a.keys b.keys=0<;>simp [h6]
theorem keys_inj {a b:Ev} (h:a.keys=b.keys):a=b:=by
 cases a;cases b
 simp only [Ev.keys,List.cons.injEq,and_true] at h
 obtain ⟨rfl,rfl,rfl,rfl,rfl,rfl,rfl,rfl,rfl⟩:=h
 rfl
theorem keys2_inj {a b:Ev} (h:a.keys2=b.keys2):a=b:=keys_inj (by simp only [Ev.keys2,List.cons.injEq] at h;exact h.2.2)
theorem less_irrefl (a:Ev):evLess a a=false:=lexLt_irrefl _
theorem less_trans {a b c:Ev} (h1:evLess a b=true) (h2:evLess b c=true):evLess a c=true:=lexLt_trans (a:=a.keys) (b:=b.keys) (c:=c.keys) rfl rfl h1 h2
theorem less_total {a b:Ev} (h1:evLess a b=false) (h2:evLess b a=false):a=b:=keys_inj (lexLt_total rfl h1 h2)
theorem less_asymm {a b:Ev} (h1:evLess a b=true):evLess b a=false:=by
 cases h:evLess b a with
 |false=>rfl
 |true=>have:=less_trans h1 h;rw [less_irrefl] at this;cases this
theorem same_iff {a b:Ev}:sameNum a b=true↔a.device=b.device∧a.seq=b.seq:=by simp [sameNum]
theorem same_refl (a:Ev):sameNum a a=true:=same_iff.2 ⟨rfl,rfl⟩
theorem same_symm {a b:Ev} (h:sameNum a b=true):sameNum b a=true:=by rw [same_iff] at*;omega
theorem same_trans {a b c:Ev} (h:sameNum a b=true) (h2:sameNum b c=true):sameNum a c=true:=by rw [same_iff] at*;omega
structure IsSet (l s:List Ev):Prop where
 sorted:s.Pairwise (fun a b=>evLess a b=true)
 mem: ∀e,e∈s↔e∈l∧ ∀e'∈l,sameNum e e'=true→evLess e' e=false
theorem strict_unique: ∀{s t:List Ev},s.Pairwise (fun a b=>evLess a b=true)→t.Pairwise (fun a b=>evLess a b=true)→(∀e,e∈s↔e∈t)→s=t
 |[],[],_,_,_=>rfl
 |[],b::t,_,_,h=>by have:=(h b).2 (by simp);simp at this
 |a::s,[],_,_,h=>by have:=(h a).1 (by simp);simp at this
 |a::s,b::t,hs,ht,h=>by
  rw [List.pairwise_cons] at hs ht
  have hab:a=b:=by
   have h1:=(h a).1 (by simp)
   have h2:=(h b).2 (by simp)
   rcases List.mem_cons.1 h1 with h1|h1
   ·exact h1
   ·rcases List.mem_cons.1 h2 with h2|h2
    ·exact h2.symm
    ·have:=less_asymm (ht.1 a h1)
     rw [hs.1 b h2] at this;cases this
  subst hab
  congr 1
  refine strict_unique hs.2 ht.2 fun e=>?_
  have he:=h e
  simp only [List.mem_cons] at he
  constructor
  ·intro hm
   rcases he.1 (.inr hm) with rfl|h3
   ·have:=hs.1 e hm;rw [less_irrefl] at this;cases this
   ·exact h3
  ·intro hm
   rcases he.2 (.inr hm) with rfl|h3
   ·have:=ht.1 e hm;rw [less_irrefl] at this;cases this
   ·exact h3
theorem IsSet.unique {l s t:List Ev} (h1:IsSet l s) (h2:IsSet l t):s=t:=strict_unique h1.sorted h2.sorted fun e=>by rw [h1.mem,h2.mem]
theorem IsSet.congr {l m s:List Ev} (h:IsSet l s) (hm: ∀e,e∈l↔e∈m):IsSet m s:=⟨h.sorted,fun e=>by rw [h.mem,hm];simp only [hm]⟩
def compactGo {α:Type} (eq:α→α→Bool):α→List α→List α
 |_,[]=>[]
 |p,y::ys=>if eq y p=true then compactGo eq y ys else y::compactGo eq y ys
def compactF {α:Type} (eq:α→α→Bool):List α→List α
 |[]=>[]
 |x::xs=>x::compactGo eq x xs
def le1 (a b:Ev):Bool:=!lexLt b.keys2 a.keys2
def le2 (a b:Ev):Bool:=!lexLt b.keys a.keys
def setOf (l:List Ev):List Ev:=(compactF sameNum (l.mergeSort le1)).mergeSort le2
theorem le1_num {a b:Ev} (h:le1 a b=true):a.device<b.device∨(a.device=b.device∧a.seq≤b.seq):=by
 simp only [le1,Ev.keys2,lexLt,Bool.not_eq_true'] at h
 by_cases h1:b.device=a.device
 ·by_cases h2:b.seq=a.seq
  ·omega
  ·simp only [h1,h2,ne_eq,not_true,if_false,not_false_eq_true,if_true,decide_eq_false_iff_not] at h;omega
 ·simp only [h1,ne_eq,not_false_eq_true,if_true,decide_eq_false_iff_not] at h;omega
theorem le1_same {a b:Ev} (h:le1 a b=true) (hs:sameNum a b=true):evLess b a=false:=by
 rw [same_iff] at hs
 simpa [le1,Ev.keys2,lexLt,hs.1,hs.2,evLess] using h
theorem mem_compactGo {e:Ev}: ∀(xs:List Ev) (p:Ev),(p::xs).Pairwise (fun a b=>le1 a b=true)→
  (e∈compactGo sameNum p xs↔e∈xs∧sameNum e p=false∧ ∀e'∈xs,sameNum e e'=true→evLess e' e=false)
 |[],p,_=>by simp [compactGo]
 |y::ys,p,hp=>by
  have hp':=hp
  rw [List.pairwise_cons] at hp
  have hy:=hp.2
  rw [List.pairwise_cons] at hy
  have ih:=mem_compactGo (e:=e) ys y hp.2
  simp only [compactGo]
  by_cases hs:sameNum y p=true
  ·rw [if_pos hs,ih]
   constructor
   ·rintro ⟨h1,h2,h3⟩
    refine ⟨List.mem_cons_of_mem _ h1,?_,fun e' he' hse=>?_⟩
    ·cases h:sameNum e p with
     |false=>rfl
     |true=>rw [same_trans h (same_symm hs)] at h2;cases h2
    ·rcases List.mem_cons.1 he' with rfl|he'
     ·rw [hse] at h2;cases h2
     ·exact h3 e' he' hse
   ·rintro ⟨h1,h2,h3⟩
    have hne:e≠y:=fun h=>by subst h;rw [hs] at h2;cases h2
    refine ⟨(List.mem_cons.1 h1).resolve_left hne,?_,fun e' he'=>h3 e' (List.mem_cons_of_mem _ he')⟩
    cases h:sameNum e y with
    |false=>rfl
    |true=>rw [same_trans h hs] at h2;cases h2
  ·rw [if_neg hs,List.mem_cons,ih]
   constructor
   ·rintro (rfl|⟨h1,h2,h3⟩)
    ·refine ⟨by simp,by simpa using hs,fun e' he' hse=>?_⟩
     rcases List.mem_cons.1 he' with rfl|he'
     ·exact less_irrefl _
     ·exact le1_same (hy.1 e' he') hse
    ·refine ⟨List.mem_cons_of_mem _ h1,?_,fun e' he' hse=>?_⟩
     ·cases h:sameNum e p with
      |false=>rfl
      |true=>
       have a1:=le1_num (hp.1 y (by simp))
       have a2:=le1_num (hy.1 e h1)
       rw [same_iff] at h
       exact absurd (same_iff.2 (by omega)) hs
     ·rcases List.mem_cons.1 he' with rfl|he'
      ·rw [hse] at h2;cases h2
      ·exact h3 e' he' hse
   ·rintro ⟨h1,h2,h3⟩
    rcases List.mem_cons.1 h1 with h1|h1
    ·exact .inl h1
    ·cases h:sameNum e y with
     |false=>exact .inr ⟨h1,rfl,fun e' he'=>h3 e' (List.mem_cons_of_mem _ he')⟩
     |true=>exact .inl (less_total (le1_same (hy.1 e h1) (same_symm h)) (h3 y (by simp) h))
theorem compactGo_apart: ∀(xs:List Ev) (p:Ev),(p::xs).Pairwise (fun a b=>le1 a b=true)→(compactGo sameNum p xs).Pairwise (fun a b=>sameNum b a=false)
 |[],p,_=>by simp [compactGo]
 |y::ys,p,hp=>by
  rw [List.pairwise_cons] at hp
  simp only [compactGo]
  split
  ·exact compactGo_apart ys y hp.2
  ·refine List.pairwise_cons.2 ⟨fun e he=>((mem_compactGo ys y hp.2).1 he).2.1,compactGo_apart ys y hp.2⟩
theorem le_trans_of {key:Ev→List Int} {n:Nat} (hn: ∀x,(key x).length=n) (a b c:Ev) (h1:(!lexLt (key b) (key a))=true) (h2:(!lexLt (key c) (key b))=true):(!lexLt (key c) (key a))=true:=by
 simp only [Bool.not_eq_true'] at*
 exact (swo_key key n hn).ntrans c b a h2 h1
theorem le_total_of {key:Ev→List Int} {n:Nat} (hn: ∀x,(key x).length=n) (a b:Ev):((!lexLt (key b) (key a))||(!lexLt (key a) (key b)))=true:=by
 cases h:lexLt (key b) (key a) with
 |false=>rfl
 |true=>
  cases h2:lexLt (key a) (key b) with
  |false=>rfl
  |true=>
   have:=(swo_key key n hn).trans a b a h2 h
   simp only [lexLt_irrefl] at this;cases this
theorem set_isSet (l:List Ev):IsSet l (setOf l):=by
 have hp1:(l.mergeSort le1).Perm l:=List.mergeSort_perm _ _
 have hs1:(l.mergeSort le1).Pairwise (fun a b=>le1 a b=true):=List.pairwise_mergeSort (le_trans_of (key:=Ev.keys2) (n:=11) (fun _=>rfl)) (le_total_of (key:=Ev.keys2) (n:=11) (fun _=>rfl)) l
 have hmem: ∀e,e∈compactF sameNum (l.mergeSort le1)↔e∈l∧ ∀e'∈l,sameNum e e'=true→evLess e' e=false:=by
  intro e
  have hm: ∀x,x∈l↔x∈l.mergeSort le1:=fun x=>(hp1.mem_iff).symm
  simp only [hm]
  revert hs1
  generalize l.mergeSort le1=s
  intro hs1
  cases s with
  |nil=>simp [compactF]
  |cons x xs=>
   simp only [compactF,List.mem_cons,mem_compactGo xs x hs1]
   have hx:=(List.pairwise_cons.1 hs1).1
   constructor
   ·rintro (rfl|⟨h1,h2,h3⟩)
    ·refine ⟨.inl rfl,fun e' he' hse=>?_⟩
     rcases he' with rfl|he'
     ·exact less_irrefl _
     ·exact le1_same (hx e' he') hse
    ·refine ⟨.inr h1,fun e' he' hse=>?_⟩
     rcases he' with rfl|he'
     ·rw [hse] at h2;cases h2
     ·exact h3 e' he' hse
   ·rintro ⟨h1,h3⟩
    rcases h1 with h1|h1
    ·exact .inl h1
    ·cases h:sameNum e x with
     |false=>exact .inr ⟨h1,rfl,fun e' he'=>h3 e' (.inr he')⟩
     |true=>exact .inl (less_total (le1_same (hx e h1) (same_symm h)) (h3 x (.inl rfl) h))
 have hnd:(compactF sameNum (l.mergeSort le1)).Pairwise (fun a b=>sameNum b a=false):=by
  cases hs:l.mergeSort le1 with
  |nil=>simp [compactF]
  |cons x xs=>
   rw [hs] at hs1
   exact List.pairwise_cons.2 ⟨fun e he=>((mem_compactGo xs x hs1).1 he).2.1,compactGo_apart xs x hs1⟩
 have hp2:(setOf l).Perm (compactF sameNum (l.mergeSort le1)):=List.mergeSort_perm _ _
 have hs2:(setOf l).Pairwise (fun a b=>le2 a b=true):=List.pairwise_mergeSort (le_trans_of (key:=Ev.keys) (n:=9) (fun _=>rfl)) (le_total_of (key:=Ev.keys) (n:=9) (fun _=>rfl)) _
 have hnd2:(setOf l).Pairwise (fun a b=>a≠b):=by
  have:(compactF sameNum (l.mergeSort le1)).Nodup:=hnd.imp fun {a b} h e=>by subst e;rw [same_refl] at h;cases h
  exact hp2.nodup_iff.2 this
 refine ⟨(hs2.and hnd2).imp fun {a b} ⟨h1,h2⟩=>?_,fun e=>by rw [hp2.mem_iff,hmem]⟩
 cases h:evLess a b with
 |true=>rfl
 |false=>
  have h3:evLess b a=false:=by simpa [le2,evLess] using h1
  exact absurd (less_total h h3) h2
end Go.Proofs.Cus
namespace Go.Proofs.Cus
abbrev Tri (β:Type):=Int×Int×β
section
variable {β:Type} {v:Int→β}
def Chain (v:Int→β):Int→List (Tri β)→Int→Prop
 |lo,[],hi=>lo=hi
 |lo,x::l,hi=>x.1=lo∧x.1<x.2.1∧(∀t,x.1≤t→t<x.2.1→v t=x.2.2)∧(∀y,l.head?=some y→y.2.2≠x.2.2)∧Chain v x.2.1 l hi
theorem Chain.le: ∀{l:List (Tri β)} {lo hi:Int},Chain v lo l hi→lo≤hi
 |[],_,_,h=>by rw [show _=_ from h];exact Int.le_refl _
 |x::l,_,_,⟨h1,h2,_,_,h5⟩=>by have:=Chain.le h5;omega
theorem Chain.unique: ∀{l l':List (Tri β)} {lo hi:Int},Chain v lo l hi→Chain v lo l' hi→l=l'
 |[],[],_,_,_,_=>rfl
 |[],y::l',lo,hi,h,⟨h1,h2,_,_,h5⟩=>by
  have:lo=hi:=h
  have:=h5.le
  omega
 |x::l,[],lo,hi,⟨h1,h2,_,_,h5⟩,h=>by
  have:lo=hi:=h
  have:=h5.le
  omega
 |x::l,y::l',lo,hi,⟨a1,a2,a3,a4,a5⟩,⟨b1,b2,b3,b4,b5⟩=>by
  have hv:x.2.2=y.2.2:=by rw [←a3 lo (by omega) (by omega),←b3 lo (by omega) (by omega)]
  have key: ∀{x y:Tri β} {l l':List (Tri β)},x.1=lo→y.1=lo→x.1<x.2.1→(∀t,y.1≤t→t<y.2.1→v t=y.2.2)→(∀y,l.head?=some y→y.2.2≠x.2.2)→Chain v x.2.1 l hi→Chain v y.2.1 l' hi→x.2.2=y.2.2→ ¬x.2.1<y.2.1:=by
   intro x y l l' a1 b1 a2 b3 a4 a5 b5 hv hlt
   have hle:=b5.le
   cases l with
   |nil=>have:x.2.1=hi:=a5;omega
   |cons z l=>
    obtain ⟨c1,c2,c3,_,_⟩:=a5
    have h1:=a4 z rfl
    rw [←c3 x.2.1 (by omega) (by omega),b3 x.2.1 (by omega) hlt] at h1
    exact h1 hv.symm
  have ht:x.2.1=y.2.1:=by
   have h1:=key a1 b1 a2 b3 a4 a5 b5 hv
   have h2:=key b1 a1 b2 a3 b4 b5 a5 hv.symm
   omega
  have hxy:x=y:=by
   obtain ⟨x1,x2,x3⟩:=x
   obtain ⟨y1,y2,y3⟩:=y
   simp only at a1 b1 hv ht
   rw [a1,b1,hv,ht]
  rw [ht] at a5
  rw [hxy,Chain.unique a5 b5]
def nt (M:Int) (B:List (Int×β)):Int:=(B.head?.map (·.1)).getD (M+1)
def Mono (T:List (Int×β)):Prop:=T.Pairwise fun a b=>a.1≤b.1
theorem Mono.lt {M t:Int} {B:List (Int×β)} (h:Mono B) (ht:t<nt M B) (hM:t≤M): ∀q∈B,t<q.1:=by
 cases B with
 |nil=>intro q hq;simp at hq
 |cons b B=>
  intro q hq
  have hb:nt M (b::B)=b.1:=rfl
  rw [hb] at ht
  rcases List.mem_cons.1 hq with rfl|hq
  ·exact ht
  ·have:=(List.pairwise_cons.1 h).1 q hq
   omega
theorem Mono.parts {A B:List (Int×β)} (h:Mono (A++B)):Mono A∧Mono B∧ ∀a∈A,∀b∈B,a.1≤b.1:=by
 have:=List.pairwise_append.1 h
 exact this
end
section
variable {β:Type} [DecidableEq β]
end
section
variable {β:Type}
def spans (hi:Int):List (Int×β)→List (Tri β)
 |[]=>[]
 |(a,p)::l=>(a,(l.head?.map (·.1)).getD hi,p)::spans hi l
end
end Go.Proofs.Cus
namespace Go.Proofs.Cus
structure Sp where
 where_:Int
 place:Int
 ride:Int
 paused:Bool
deriving DecidableEq,Inhabited
structure PT where
 rider:Int
 bike:Int
 paused:Bool
deriving DecidableEq,Inhabited
structure PS where
 spots:List Sp
 open_:List (Int×PT)
 used:List Int
deriving DecidableEq,Inhabited
def parkedS (x:Sp):Bool:=decide (x.where_=1)||decide (x.where_=2)
def atP (wh pl:Int) (x:Sp):Bool:=decide (x.where_=wh)&&decide (x.place=pl)
def countP (l:List Sp) (wh pl:Int):Nat:=l.countP (atP wh pl)
def ridingP (l:List (Int×PT)) (rider:Int):Bool:=l.any fun p=>decide (p.2.rider=rider)
def lookP (l:List (Int×PT)) (id:Int):Option PT:=(l.find? fun p=>p.1==id).map (·.2)
def usedP (l:List Int) (id:Int):Bool:=l.any fun i=>i==id
def refuse (no:Bool) (e:Int):Int:=if no=true then e else 0
def checkP (trucks:List Int) (s:PS) (e:Ev):Int:=
 let x:=s.spots.getD e.bike.toNat default
 if e.kind=1 then (if (!parkedS x&&decide (0<(countP s.spots 1 e.place:Int)))=true then 22 else refuse (parkedS x) 23)
 else if e.kind=2 then refuse (parkedS x) 23
 else if e.kind=3 then (if parkedS x=false then 23 else if usedP s.used e.ride=true then 6 else refuse (ridingP s.open_ e.rider) 22)
 else if e.kind=4 then (match lookP s.open_ e.ride with|none=>7|some t=>if parkedS x=false then 23 else refuse t.paused 12)
 else if e.kind=5∨e.kind=6 then (if x.where_≠3 then 23 else refuse (x.paused==decide (e.kind=5)) 12)
 else if e.kind=7 then (if (decide (x.where_=3)||decide (x.where_=4))=true then 23 else refuse (decide (trucks.getD e.place.toNat 0≤(countP s.spots 4 e.place:Int))) 24)
 else if e.kind=8 then refuse (decide (x.where_=3)||decide (x.where_=5)) 23
 else if e.kind=9 then refuse (decide (x.where_=5)||decide (x.where_=6)) 23
 else 0
def leaveP (s:PS) (bike:Nat) (to:Sp):PS:=
 {s with open_:=if (s.spots.getD bike default).where_=3 then s.open_.eraseP (fun p=>p.1==(s.spots.getD bike default).ride) else s.open_,spots:=s.spots.set bike to}
def setTrip (l:List (Int×PT)) (id:Int) (t:PT):List (Int×PT):=l.map fun p=>if p.1==id then (p.1,t) else p
def usePut (l:List Int) (id:Int):List Int:=if usedP l id=true then l else l++[id]
def doP (s:PS) (e:Ev):PS:=
 let k:=e.bike.toNat
 if e.kind=1 then leaveP s k ⟨1,e.place,0,false⟩
 else if e.kind=2 then leaveP s k ⟨2,e.place,0,false⟩
 else if e.kind=3 then {spots:=s.spots.set k ⟨3,0,e.ride,false⟩,open_:=s.open_++[(e.ride,⟨e.rider,e.bike,false⟩)],used:=usePut s.used e.ride}
 else if e.kind=4 then (match lookP s.open_ e.ride with
  |none=>s
  |some t=>{s with spots:=(s.spots.set t.bike.toNat (s.spots.getD k default)).set k ⟨3,0,e.ride,false⟩,open_:=setTrip s.open_ e.ride {t with bike:=e.bike}})
 else if e.kind=5∨e.kind=6 then
  let p:=decide (e.kind=5)
  let x:=s.spots.getD k default
  {s with spots:=s.spots.set k {x with paused:=p},open_:=match lookP s.open_ x.ride with|none=>s.open_|some t=>setTrip s.open_ x.ride {t with paused:=p}}
 else if e.kind=7 then leaveP s k ⟨4,e.place,0,false⟩
 else if e.kind=8 then leaveP s k ⟨5,0,0,false⟩
 else if e.kind=9 then leaveP s k ⟨6,0,0,false⟩
 else s
def beginP (n:Nat):PS:=⟨List.replicate n ⟨5,0,0,false⟩,[],[]⟩
structure PInv (n:Nat) (s:PS):Prop where
 len:s.spots.length=n
 keys:(s.open_.map (·.1)).Nodup
 used: ∀p∈s.open_,usedP s.used p.1=true
 bike: ∀p∈s.open_,0≤p.2.bike∧ ∃x,s.spots[p.2.bike.toNat]?=some x∧x.where_=3∧x.ride=p.1∧x.paused=p.2.paused
 spot: ∀(k:Nat) x,s.spots[k]?=some x→x.where_=3→ ∃t,(x.ride,t)∈s.open_∧t.bike=(k:Int)
end Go.Proofs.Cus
namespace Go.Proofs.Cus
theorem nodup_fst {l:List (Int×PT)} (h:(l.map (·.1)).Nodup) {p q:Int×PT} (hp:p∈l) (hq:q∈l) (he:p.1=q.1):p=q:=by
 obtain ⟨i,hi,rfl⟩:=List.getElem_of_mem hp
 obtain ⟨j,hj,rfl⟩:=List.getElem_of_mem hq
 have:=List.pairwise_iff_getElem.1 h
 rcases Nat.lt_trichotomy i j with h1|h1|h1
 ·exact absurd (by rw [List.getElem_map,List.getElem_map];exact he) (this i j (by simpa using hi) (by simpa using hj) h1)
 ·subst h1;rfl
 ·exact absurd (by rw [List.getElem_map,List.getElem_map];exact he.symm) (this j i (by simpa using hj) (by simpa using hi) h1)
theorem mem_eraseKey: ∀{l:List (Int×PT)},(l.map (·.1)).Nodup→ ∀{r:Int} {p:Int×PT},p∈l.eraseP (fun q=>q.1==r)↔p∈l∧p.1≠r
 |[],_,r,p=>by simp
 |y::l,h,r,p=>by
  simp only [List.map_cons,List.nodup_cons] at h
  by_cases hy:y.1=r
  ·rw [List.eraseP_cons_of_pos (by simpa using hy)]
   refine ⟨fun hp=>⟨List.mem_cons_of_mem _ hp,fun e=>h.1 ?_⟩,fun ⟨hp,hne⟩=>?_⟩
   ·rw [hy,←e];exact List.mem_map.2 ⟨p,hp,rfl⟩
   ·rcases List.mem_cons.1 hp with rfl|hp
    ·exact absurd hy hne
    ·exact hp
  ·rw [List.eraseP_cons_of_neg (by simpa using hy)]
   simp only [List.mem_cons]
   rw [mem_eraseKey h.2]
   constructor
   ·rintro (rfl|⟨h1,h2⟩)
    ·exact ⟨.inl rfl,hy⟩
    ·exact ⟨.inr h1,h2⟩
   ·rintro ⟨rfl|h1,h2⟩
    ·exact .inl rfl
    ·exact .inr ⟨h1,h2⟩
theorem mem_setTrip {l:List (Int×PT)} {id:Int} {t:PT} {p:Int×PT}:p∈setTrip l id t↔(∃q∈l,q.1=id∧p=(id,t))∨(p∈l∧p.1≠id):=by
 unfold setTrip
 rw [List.mem_map]
 constructor
 ·rintro ⟨q,hq,rfl⟩
  by_cases h:q.1=id
  ·left;exact ⟨q,hq,h,by simp [h]⟩
  ·right;rw [if_neg (by simpa using h)];exact ⟨hq,h⟩
 ·rintro (⟨q,hq,h,rfl⟩|⟨hp,hne⟩)
  ·exact ⟨q,hq,by simp [h]⟩
  ·exact ⟨p,hp,by rw [if_neg (by simpa using hne)]⟩
theorem setTrip_keys (l:List (Int×PT)) (id:Int) (t:PT):(setTrip l id t).map (·.1)=l.map (·.1):=by
 unfold setTrip
 rw [List.map_map]
 apply List.map_congr_left
 intro p _
 simp only [Function.comp]
 split<;>rfl
theorem lookP_some {l:List (Int×PT)} {id:Int} {t:PT} (h:lookP l id=some t):(id,t)∈l:=by
 unfold lookP at h
 cases hf:l.find? (fun p=>p.1==id) with
 |none=>rw [hf] at h;cases h
 |some p=>
  rw [hf] at h
  have h1:=List.find?_some hf
  have h2:=List.mem_of_find?_eq_some hf
  simp only [Option.map_some,Option.some.injEq] at h
  simp only [beq_iff_eq] at h1
  rw [←h1,←h];exact h2
theorem lookP_of {l:List (Int×PT)} (hn:(l.map (·.1)).Nodup) {id:Int} {t:PT} (h:(id,t)∈l):lookP l id=some t:=by
 unfold lookP
 cases hf:l.find? (fun p=>p.1==id) with
 |none=>have:=List.find?_eq_none.1 hf _ h;simp at this
 |some p=>
  have h1:=List.find?_some hf
  simp only [beq_iff_eq] at h1
  have:=nodup_fst hn (List.mem_of_find?_eq_some hf) h h1
  rw [this];rfl
theorem usedP_mem {l:List Int} {id:Int}:usedP l id=true↔id∈l:=by
 unfold usedP
 rw [List.any_eq_true]
 exact ⟨fun ⟨x,hx,h⟩=>by rw [←eq_of_beq h];exact hx,fun h=>⟨id,h,by simp⟩⟩
theorem usePut_mem {l:List Int} {id x:Int}:x∈usePut l id↔x∈l∨x=id:=by
 unfold usePut
 split
 ·rename_i h
  exact ⟨.inl,fun h'=>h'.elim (fun h=>h) fun e=>e▸usedP_mem.1 h⟩
 ·simp
section
variable {n:Nat} {s:PS}
theorem get_of {s:PS} (k:Nat) (h:k<s.spots.length): ∃x,s.spots[k]?=some x∧s.spots.getD k default=x:=by
 refine ⟨_,List.getElem?_eq_getElem h,?_⟩
 rw [List.getD_eq_getElem?_getD,List.getElem?_eq_getElem h];rfl
theorem PInv.leave (h:PInv n s) (k:Nat) (hk:k<n) (to:Sp) (hto:to.where_≠3):PInv n (leaveP s k to):=by
 obtain ⟨x,hx,hg⟩:=get_of (s:=s) k (by rw [h.len];exact hk)
 have hmem: ∀p,p∈(leaveP s k to).open_↔p∈s.open_∧(x.where_=3→p.1≠x.ride):=by
  intro p
  unfold leaveP
  rw [hg]
  by_cases h3:x.where_=3
  ·simp only [h3,if_true,true_implies];exact mem_eraseKey h.keys
  ·simp only [h3,if_false,false_implies,and_true]
 have hsp: ∀j:Nat,(leaveP s k to).spots[j]?=if k=j then some to else s.spots[j]?:=by
  intro j
  show (s.spots.set k to)[j]?=_
  rw [List.getElem?_set]
  by_cases e:k=j
  ·subst e;simp;rw [h.len];exact hk
  ·simp [e]
 refine ⟨by show (s.spots.set k to).length=n;rw [List.length_set];exact h.len,?_,fun p hp=>h.used p ((hmem p).1 hp).1,fun p hp=>?_,fun j y hy h3=>?_⟩
 ·unfold leaveP
  rw [hg]
  by_cases h3:x.where_=3
  ·simp only [h3,if_true]
   exact h.keys.sublist (List.eraseP_sublist.map _)
  ·simp only [h3,if_false];exact h.keys
 ·obtain ⟨hp1,hp2⟩:=(hmem p).1 hp
  obtain ⟨hb,y,hy,y3,yr,yp⟩:=h.bike p hp1
  refine ⟨hb,y,?_,y3,yr,yp⟩
  rw [hsp,if_neg (fun e=>?_)]
  ·exact hy
  ·rw [←e,hx] at hy
   cases hy
   exact hp2 y3 yr.symm
 ·rw [hsp] at hy
  split at hy
  ·cases hy;exact absurd h3 hto
  ·rename_i hne
   obtain ⟨t,ht,hb⟩:=h.spot j y hy h3
   refine ⟨t,(hmem _).2 ⟨ht,fun x3 e=>hne ?_⟩,hb⟩
   obtain ⟨t2,ht2,hb2⟩:=h.spot k x hx x3
   have:=nodup_fst h.keys ht ht2 e
   simp only [Prod.mk.injEq] at this
   rw [this.2,hb2] at hb
   omega
theorem PInv.start (h:PInv n s) (k:Nat) (hk:k<n) (ride rider:Int) (hx3:(s.spots.getD k default).where_≠3) (hu:usedP s.used ride=false):
  PInv n {spots:=s.spots.set k ⟨3,0,ride,false⟩,open_:=s.open_++[(ride,⟨rider,k,false⟩)],used:=usePut s.used ride}:=by
 obtain ⟨x,hx,hg⟩:=get_of (s:=s) k (by rw [h.len];exact hk)
 rw [hg] at hx3
 have hsp: ∀j:Nat,(s.spots.set k ⟨3,0,ride,false⟩)[j]?=if k=j then some ⟨3,0,ride,false⟩ else s.spots[j]?:=by
  intro j
  rw [List.getElem?_set]
  by_cases e:k=j
  ·subst e;simp;rw [h.len];exact hk
  ·simp [e]
 have hnew: ∀p∈s.open_,p.1≠ride:=fun p hp e=>by
  have:=h.used p hp
  rw [e,hu] at this;cases this
 refine ⟨by simpa using h.len,?_,?_,?_,?_⟩
 ·simp only [List.map_append,List.map_cons,List.map_nil]
  refine List.nodup_append.2 ⟨h.keys,by simp,fun a ha b hb=>?_⟩
  simp only [List.mem_singleton] at hb
  obtain ⟨p,hp,rfl⟩:=List.mem_map.1 ha
  rw [hb];exact hnew p hp
 ·intro p hp
  rw [usedP_mem,usePut_mem]
  rcases List.mem_append.1 hp with hp|hp
  ·left;exact usedP_mem.1 (h.used p hp)
  ·right;simp only [List.mem_singleton] at hp;rw [hp]
 ·intro p hp
  rcases List.mem_append.1 hp with hp|hp
  ·obtain ⟨hb,y,hy,y3,yr⟩:=h.bike p hp
   refine ⟨hb,y,?_,y3,yr⟩
   rw [hsp,if_neg (fun e=>?_)]
   ·exact hy
   ·rw [←e,hx] at hy;cases hy;exact hx3 y3
  ·simp only [List.mem_singleton] at hp
   subst hp
   exact ⟨by simp,⟨3,0,ride,false⟩,by rw [hsp];simp,rfl,rfl,rfl⟩
 ·intro j y hy h3
  simp only at hy
  rw [hsp] at hy
  split at hy
  ·rename_i e
   cases hy
   exact ⟨⟨rider,k,false⟩,List.mem_append.2 (.inr (by simp)),by simp [e]⟩
  ·obtain ⟨t,ht,hb⟩:=h.spot j y hy h3
   exact ⟨t,List.mem_append.2 (.inl ht),hb⟩
theorem PInv.swap (h:PInv n s) (k:Nat) (hk:k<n) (ride:Int) (t:PT) (ht:(ride,t)∈s.open_) (hx3:(s.spots.getD k default).where_≠3) (hp:t.paused=false):
  PInv n {s with spots:=(s.spots.set t.bike.toNat (s.spots.getD k default)).set k ⟨3,0,ride,false⟩,open_:=setTrip s.open_ ride {t with bike:=(k:Int)}}:=by
 obtain ⟨x,hx,hg⟩:=get_of (s:=s) k (by rw [h.len];exact hk)
 rw [hg] at hx3⊢
 obtain ⟨hb0,y,hy,y3,yr,yp⟩:=h.bike _ ht
 simp only at hb0 hy yr yp
 obtain ⟨j,hj⟩: ∃j,j=t.bike.toNat:=⟨_,rfl⟩
 rw [←hj] at hy⊢
 have hjk:j≠k:=fun e=>by rw [e,hx] at hy;cases hy;exact hx3 y3
 have hjn:j<s.spots.length:=(List.getElem?_eq_some_iff.1 hy).1
 have hsp: ∀i:Nat,((s.spots.set j x).set k ⟨3,0,ride,false⟩)[i]?=if k=i then some ⟨3,0,ride,false⟩ else if j=i then some x else s.spots[i]?:=by
  intro i
  rw [List.getElem?_set,List.getElem?_set]
  by_cases e:k=i
  ·subst e;simp;rw [h.len];exact hk
  ·simp only [e,if_false]
   by_cases e2:j=i
   ·subst e2;simp [hjn]
   ·simp [e2]
 refine ⟨by simpa using h.len,by simp only [setTrip_keys];exact h.keys,?_,?_,?_⟩
 ·intro p hp
  rcases mem_setTrip.1 hp with ⟨q,hq,hq1,rfl⟩|⟨hp,_⟩
  ·have:=h.used q hq;rw [hq1] at this;exact this
  ·exact h.used p hp
 ·intro p hp'
  rcases mem_setTrip.1 hp' with ⟨q,hq,hq1,rfl⟩|⟨hp',hne⟩
  ·exact ⟨by simp,⟨3,0,ride,false⟩,by rw [hsp];simp,rfl,rfl,hp.symm⟩
  ·obtain ⟨hb,z,hz,z3,zr,zp⟩:=h.bike p hp'
   refine ⟨hb,z,?_,z3,zr,zp⟩
   rw [hsp,if_neg (fun e=>?_),if_neg (fun e=>?_)]
   ·exact hz
   ·rw [←e,hy] at hz;cases hz;exact hne (zr.symm.trans yr)
   ·rw [←e,hx] at hz;cases hz;exact hx3 z3
 ·intro i z hz h3
  simp only at hz
  rw [hsp] at hz
  split at hz
  ·rename_i e
   cases hz
   exact ⟨_,mem_setTrip.2 (.inl ⟨_,ht,rfl,rfl⟩),by simp [e]⟩
  ·rename_i hki
   split at hz
   ·cases hz;exact absurd h3 hx3
   ·rename_i hji
    obtain ⟨t2,ht2,hb2⟩:=h.spot i z hz h3
    refine ⟨t2,mem_setTrip.2 (.inr ⟨ht2,fun e=>hji ?_⟩),hb2⟩
    have:=nodup_fst h.keys ht2 ht e
    simp only [Prod.mk.injEq] at this
    rw [this.2] at hb2
    omega
theorem PInv.pause (h:PInv n s) (k:Nat) (hk:k<n) (pa:Bool) (t:PT) (hx3:(s.spots.getD k default).where_=3) (ht:((s.spots.getD k default).ride,t)∈s.open_):
  PInv n {s with spots:=s.spots.set k {(s.spots.getD k default) with paused:=pa},open_:=setTrip s.open_ (s.spots.getD k default).ride {t with paused:=pa}}:=by
 obtain ⟨x,hx,hg⟩:=get_of (s:=s) k (by rw [h.len];exact hk)
 rw [hg] at hx3 ht⊢
 obtain ⟨t2,ht2,hb2⟩:=h.spot k x hx hx3
 have htt:=nodup_fst h.keys ht2 ht rfl
 simp only [Prod.mk.injEq,true_and] at htt
 subst htt
 have hsp: ∀i:Nat,(s.spots.set k {x with paused:=pa})[i]?=if k=i then some {x with paused:=pa} else s.spots[i]?:=by
  intro i
  rw [List.getElem?_set]
  by_cases e:k=i
  ·subst e;simp;rw [h.len];exact hk
  ·simp [e]
 refine ⟨by simpa using h.len,by simp only [setTrip_keys];exact h.keys,?_,?_,?_⟩
 ·intro p hp
  rcases mem_setTrip.1 hp with ⟨q,hq,hq1,rfl⟩|⟨hp,_⟩
  ·have:=h.used q hq;rw [hq1] at this;exact this
  ·exact h.used p hp
 ·intro p hp'
  rcases mem_setTrip.1 hp' with ⟨q,hq,hq1,rfl⟩|⟨hp',hne⟩
  ·refine ⟨by show 0≤t2.bike;omega,{x with paused:=pa},?_,hx3,rfl,rfl⟩
   show (s.spots.set k {x with paused:=pa})[t2.bike.toNat]?=_
   rw [hsp,if_pos (by omega)]
  ·obtain ⟨hb,z,hz,z3,zr,zp⟩:=h.bike p hp'
   refine ⟨hb,z,?_,z3,zr,zp⟩
   rw [hsp,if_neg (fun e=>?_)]
   ·exact hz
   ·rw [←e,hx] at hz;cases hz;exact hne zr.symm
 ·intro i z hz h3
  simp only at hz
  rw [hsp] at hz
  split at hz
  ·rename_i e
   cases hz
   exact ⟨_,mem_setTrip.2 (.inl ⟨_,ht2,rfl,rfl⟩),by show t2.bike=_;omega⟩
  ·rename_i hki
   obtain ⟨t3,ht3,hb3⟩:=h.spot i z hz h3
   refine ⟨t3,mem_setTrip.2 (.inr ⟨ht3,fun e=>hki ?_⟩),hb3⟩
   have:=nodup_fst h.keys ht3 ht2 e
   simp only [Prod.mk.injEq] at this
   rw [this.2] at hb3
   omega
theorem refuse_ok {no:Bool} {e:Int} (he:e≠0) (h:refuse no e=0):no=false:=by
 unfold refuse at h
 cases no with
 |false=>rfl
 |true=>rw [if_pos rfl] at h;exact absurd h he
theorem parked_no3 {x:Sp} (h:parkedS x=true):x.where_≠3:=by
 unfold parkedS at h
 simp at h
 omega
theorem PInv.step (h:PInv n s) {tr:List Int} {e:Ev} (hb:0≤e.bike∧e.bike<n) (hc:checkP tr s e=0):PInv n (doP s e):=by
 have hk:e.bike.toNat<n:=by omega
 have hbk:((e.bike.toNat:Nat):Int)=e.bike:=by omega
 unfold checkP at hc
 unfold doP
 simp only at hc⊢
 by_cases h1:e.kind=1
 ·rw [if_pos h1];exact h.leave _ hk _ (by simp)
 rw [if_neg h1] at hc⊢
 by_cases h2:e.kind=2
 ·rw [if_pos h2];exact h.leave _ hk _ (by simp)
 rw [if_neg h2] at hc⊢
 by_cases h3:e.kind=3
 ·rw [if_pos h3] at hc⊢
  split at hc
  ·cases hc
  ·rename_i hp
   split at hc
   ·cases hc
   ·rename_i hu
    have:=h.start e.bike.toNat hk e.ride e.rider (parked_no3 (by simpa using hp)) (by simpa using hu)
    rw [hbk] at this
    exact this
 rw [if_neg h3] at hc⊢
 by_cases h4:e.kind=4
 ·rw [if_pos h4] at hc⊢
  cases hl:lookP s.open_ e.ride with
  |none=>exact h
  |some t=>
   rw [hl] at hc
   simp only at hc⊢
   split at hc
   ·cases hc
   ·rename_i hp
    have:=h.swap e.bike.toNat hk e.ride t (lookP_some hl) (parked_no3 (by simpa using hp)) (refuse_ok (by decide) hc)
    rw [hbk] at this
    exact this
 rw [if_neg h4] at hc⊢
 by_cases h5:e.kind=5∨e.kind=6
 ·rw [if_pos h5] at hc⊢
  split at hc
  ·cases hc
  ·rename_i hw
   have hw':(s.spots.getD e.bike.toNat default).where_=3:=Decidable.of_not_not hw
   obtain ⟨x,hx,hg⟩:=get_of (s:=s) e.bike.toNat (by rw [h.len];exact hk)
   obtain ⟨t,ht,_⟩:=h.spot _ x hx (by rw [←hg];exact hw')
   rw [←hg] at ht
   rw [lookP_of h.keys ht]
   exact h.pause e.bike.toNat hk (decide (e.kind=5)) t hw' ht
 rw [if_neg h5] at hc⊢
 by_cases h7:e.kind=7
 ·rw [if_pos h7];exact h.leave _ hk _ (by simp)
 rw [if_neg h7] at hc⊢
 by_cases h8:e.kind=8
 ·rw [if_pos h8];exact h.leave _ hk _ (by simp)
 rw [if_neg h8] at hc⊢
 by_cases h9:e.kind=9
 ·rw [if_pos h9];exact h.leave _ hk _ (by simp)
 rw [if_neg h9]
 exact h
theorem PInv.begin (n:Nat):PInv n (beginP n):=by
 refine ⟨by simp [beginP],by simp [beginP],fun p hp=>by simp [beginP] at hp,fun p hp=>by simp [beginP] at hp,fun k x hx h3=>?_⟩
 simp only [beginP,List.getElem?_replicate] at hx
 split at hx
 ·cases hx;simp at h3
 ·cases hx
end
end Go.Proofs.Cus
namespace Go.Proofs.Cus
theorem evErr_ok {f:Fl} {e:Ev} (h:evErr f e=0):flErr f=0∧(0≤e.bike∧e.bike<f.bikes)∧(e.kind=7→0≤e.place∧e.place<f.trucks.length)∧(1≤e.kind∧e.kind≤10)∧0≤e.at_∧e.at_≤4294943999:=by
 unfold evErr at h
 split at h
 ·rename_i h0;exact absurd h h0
 ·rename_i h0
  split at h
  ·cases h
  ·rename_i h1
   split at h
   ·cases h
   ·rename_i h2
    split at h
    ·cases h
    ·rename_i h3
     split at h
     ·cases h
     ·rename_i h4
      refine ⟨Decidable.of_not_not h0,?_,fun h7=>?_,?_,?_⟩
      ·simp [within] at h3;omega
      ·unfold placed at h4
       rw [if_neg (by omega),if_neg (by omega),if_pos h7] at h4
       simp [within] at h4
       omega
      ·simp [within] at h2;omega
      ·simp [within] at h1;omega
def stepR (f:Fl) (s:PS) (e:Ev):PS×Option Int:=
 if evErr f e=0∧e.kind=10 then (s,none)
 else
  let er:=if evErr f e=0 then checkP f.trucks s e else evErr f e
  (if er=0 then doP s e else s,some er)
def tellR {σ:Type} (cb:σ→PS→Ev→Int→σ) (z:σ) (e:Ev) (r:PS×Option Int):PS×σ:=
 match r.2 with
 |none=>(r.1,z)
 |some er=>(r.1,cb z r.1 e er)
def runR {σ:Type} (f:Fl) (cb:σ→PS→Ev→Int→σ) (l:List Ev) (x:PS×σ):PS×σ:=l.foldl (fun x e=>tellR cb x.2 e (stepR f x.1 e)) x
theorem stepR_inv {n:Nat} {f:Fl} {s:PS} {e:Ev} (hn:f.bikes=n) (h:PInv n s):PInv n (stepR f s e).1:=by
 unfold stepR
 split
 ·exact h
 ·simp only
  by_cases h1:evErr f e=0
  ·rw [if_pos h1]
   by_cases h0:checkP f.trucks s e=0
   ·rw [if_pos h0]
    have:=(evErr_ok h1).2.1
    exact h.step (by omega) h0
   ·rw [if_neg h0];exact h
  ·rw [if_neg h1,if_neg h1];exact h
theorem tellR_fst {σ:Type} (cb:σ→PS→Ev→Int→σ) (z:σ) (e:Ev) (r:PS×Option Int):(tellR cb z e r).1=r.1:=by
 unfold tellR;split<;>rfl
theorem runR_inv {σ:Type} {n:Nat} {f:Fl} {cb:σ→PS→Ev→Int→σ} (hn:f.bikes=n): ∀(l:List Ev) (x:PS×σ),PInv n x.1→PInv n (runR f cb l x).1
 |[],_,h=>h
 |e::l,x,h=>by
  show PInv n (runR f cb l _).1
  refine runR_inv hn l _ ?_
  show PInv n (tellR cb x.2 e (stepR f x.1 e)).1
  rw [tellR_fst]
  exact stepR_inv hn h
theorem runR_snoc {σ:Type} {f:Fl} {cb:σ→PS→Ev→Int→σ} (l:List Ev) (x:PS×σ) (k:Nat) (e:Ev) (h:l[k]?=some e):runR f cb (l.take (k+1)) x=tellR cb (runR f cb (l.take k) x).2 e (stepR f (runR f cb (l.take k) x).1 e):=by
 unfold runR
 rw [List.take_add_one,h,List.foldl_append]
 rfl
end Go.Proofs.Cus
