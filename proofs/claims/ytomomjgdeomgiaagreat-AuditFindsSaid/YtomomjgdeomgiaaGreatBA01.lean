import Derived.KernelRfl
import Derived.Sort.QuietThIn
import Derived.TacticsIn
import Derived.Below
import Derived.Laws.AppendOwn
import Derived.RangeFuncLeaves
import Derived.MapKept
import Derived.Shelf.Abstract
import Derived.Sort.LoopGhostIn
import Derived.RangeFuncRecord
import Derived.RangeFuncIn
import Derived.IntWalk
import Derived.Laws.MakeOwn
import Derived.Laws.NewFold
import Derived.Carry
import Derived.Laws.OwnMore
import Derived.Laws.StructEq
set_option linter.all false
namespace Go
abbrev eZ:=@Array.getD_eq_getD_getElem?
abbrev yu:=@Array.getElem?_append_left
abbrev Ud:=@Array.getElem?_eq_getElem
abbrev dC:=@Array.getElem?_eq_none
abbrev fV:=@Array.getElem?_eq_some_iff
abbrev kl:=@Array.getElem?_modify
abbrev gF:=@Array.getElem?_setIfInBounds_ne
abbrev cZ:=@Array.getElem?_setIfInBounds_self_of_lt
abbrev E6:=@Array.getElem?_toList
abbrev JP:=@Array.length_toList
abbrev UT:=@Array.setIfInBounds_comm
abbrev Oc:=@Array.size_append
abbrev de:=@Bool.and_eq_true
abbrev gQ:=@Bool.eq_iff_iff
abbrev oR:=@Bool.false_eq_true
abbrev Lq:=@Bool.not_eq_false'
abbrev vR:=@Bool.not_eq_true
abbrev jZ:=@Bool.not_eq_true'
abbrev Hd:=@Bool.or_eq_false_iff
abbrev pR:=@Bool.or_eq_true
abbrev p6:=@Bool.true_and
abbrev gU:=@Classical.byContradiction
abbrev kM:=@Decidable.of_not_not
abbrev kU:=@Int.eq_ofNat_of_zero_le
abbrev uo:=@Int.le_refl
abbrev P9:=@Int.mul_le_mul_of_nonneg_right
abbrev Iz:=@Int.mul_nonneg
abbrev T4:=@Int.tdiv_eq_ediv_of_nonneg
abbrev SF:=@Int.tdiv_nonneg
abbrev bC:=@Int.toNat_natCast
abbrev DI:=@List.Perm.append_right
abbrev UR:=@List.Perm.eq_of_pairwise
abbrev Ao:=@List.Perm.refl
abbrev sG:=@List.all_cons
abbrev kH:=@List.all_eq_true
abbrev E5:=@List.any_append
abbrev p5:=@List.any_eq_false
abbrev l6:=@List.any_eq_true
abbrev cE:=@List.append_assoc
abbrev jP:=@List.append_eq_nil_iff
abbrev bF:=@List.append_nil
abbrev vQ:=@List.cons_append
abbrev Sh:=@List.dropLast_concat_getLast
abbrev An:=@List.drop_drop
abbrev cH:=@List.drop_eq_getElem_cons
abbrev kG:=@List.drop_length
abbrev gZ:=@List.drop_of_length_le
abbrev dR:=@List.eq_nil_of_length_eq_zero
abbrev sF:=@List.eraseIdx_cons_succ
abbrev nk:=@List.eraseIdx_eq_take_drop_succ
abbrev fh:=@List.ext_getElem?
abbrev gi:=@List.filter_append
abbrev Ob:=@List.filter_congr
abbrev iZ:=@List.filter_cons
abbrev CL:=@List.filter_cons_of_neg
abbrev CK:=@List.filter_cons_of_pos
abbrev DH:=@List.filter_eq_nil_iff
abbrev JO:=@List.filter_eq_self
abbrev jj:=@List.find?_append
abbrev sE:=@List.find?_cons
abbrev UQ:=@List.find?_range_eq_some
abbrev mo:=@List.findIdx?_eq_some_iff_getElem
abbrev Hc:=@List.findIdx?_isSome
abbrev jY:=@List.flatMap_append
abbrev nj:=@List.flatMap_cons
abbrev gh:=@List.flatMap_eq_nil_iff
abbrev QH:=@List.flatMap_nil
abbrev fX:=@List.foldl_append
abbrev eh:=@List.foldl_cons
abbrev ar:=@List.getD_eq_getElem?_getD
abbrev gm:=@List.getElem?_append_left
abbrev fu:=@List.getElem?_append_right
abbrev iP:=@List.getElem?_drop
abbrev ah:=@List.getElem?_eq_getElem
abbrev iu:=@List.getElem?_eq_none
abbrev ai:=@List.getElem?_eq_some_iff
abbrev cV:=@List.getElem?_map
abbrev qv:=@List.getElem?_modify
abbrev Hb:=@List.getElem?_of_mem
abbrev jz:=@List.getElem?_replicate
abbrev cD:=@List.getElem?_set
abbrev fQ:=@List.getElem?_set_ne
abbrev oL:=@List.getElem?_set_self
abbrev Am:=@List.getElem?_zip_eq_some
abbrev vP:=@List.getElem_mem
abbrev nX:=@List.getElem_of_mem
abbrev QG:=@List.isEmpty_iff
abbrev aQ:=@List.length_append
abbrev cL:=@List.length_cons
abbrev dK:=@List.length_filter_le
abbrev aS:=@List.length_map
abbrev dO:=@List.length_nil
abbrev pQ:=@List.length_replicate
abbrev gP:=@List.length_set
abbrev dG:=@List.length_take
abbrev xg:=@List.length_zip
abbrev eY:=@List.map_append
abbrev kh:=@List.map_cons
abbrev QF:=@List.map_fst_zip
abbrev jH:=@List.map_map
abbrev E4:=@List.map_nil
abbrev uC:=@List.map_set
abbrev bO:=@List.mem_append
abbrev qu:=@List.mem_append_left
abbrev uB:=@List.mem_append_right
abbrev cn:=@List.mem_cons
abbrev bR:=@List.mem_cons_of_mem
abbrev dV:=@List.mem_cons_self
abbrev gO:=@List.mem_filter
abbrev iY:=@List.mem_flatMap
abbrev cG:=@List.mem_iff_getElem?
abbrev cW:=@List.mem_map
abbrev jX:=@List.mem_map_of_mem
abbrev Al:=@List.mem_of_find?_eq_some
abbrev aq:=@List.mem_of_getElem?
abbrev fF:=@List.mem_or_eq_of_mem_set
abbrev kg:=@List.mem_range
abbrev cm:=@List.mem_singleton
abbrev lE:=@List.mergeSort_perm
abbrev ir:=@List.nil_append
abbrev um:=@List.nodup_append
abbrev SE:=@List.nodup_cons
abbrev QE:=@List.not_mem_nil
abbrev iO:=@List.pairwise_append
abbrev bB:=@List.pairwise_cons
abbrev bJ:=@List.pairwise_iff_getElem
abbrev iD:=@List.pairwise_map
abbrev kT:=@List.pairwise_mergeSort
abbrev xf:=@List.perm_append_comm_assoc
abbrev l5:=@List.perm_middle
abbrev pP:=@List.range_succ
abbrev nW:=@List.replicate_succ
abbrev JN:=@List.replicate_zero
abbrev mn:=@List.set_append_right
abbrev zG:=@List.set_cons_zero
abbrev pO:=@List.set_getElem_self
abbrev gV:=@List.set_set
abbrev uk:=@List.size_toArray
abbrev iC:=@List.take_add_one
abbrev gg:=@List.take_append_drop
abbrev dQ:=@List.take_length
abbrev bo:=@List.take_of_length_le
abbrev uu:=@List.take_zero
abbrev kf:=@Nat.add_assoc
abbrev uj:=@Nat.add_mul
abbrev UP:=@Nat.add_right_cancel_iff
abbrev pN:=@Nat.add_zero
abbrev SD:=@Nat.div_add_mod
abbrev Ha:=@Nat.div_lt_of_lt_mul
abbrev pM:=@Nat.eq_of_beq_eq_true
abbrev ga:=@Nat.eq_zero_or_pos
abbrev dW:=@Nat.le_of_ble_eq_true
abbrev P8:=@Nat.le_of_lt
abbrev bA:=@Nat.le_refl
abbrev lD:=@Nat.le_succ
abbrev gL:=@Nat.le_trans
abbrev fZ:=@Nat.lt_of_lt_of_le
abbrev uA:=@Nat.lt_or_ge
abbrev sD:=@Nat.lt_or_gt_of_ne
abbrev E3:=@Nat.min_eq_left
abbrev l0:=@Nat.mod_lt
abbrev zF:=@Nat.mul_comm
abbrev Iy:=@Nat.mul_le_mul
abbrev qt:=@Nat.mul_le_mul_right
abbrev jG:=@Nat.sub_self
abbrev P7:=@Nat.succ_mul
abbrev fq:=@Nat.zero_add
abbrev bj:=@Nat.zero_le
abbrev ix:=@Option.getD_some
abbrev ni:=@Option.map_some
abbrev mZ:=@Option.some.inj
abbrev jW:=@Option.some.injEq
abbrev sC:=@Prod.mk.injEq
abbrev gk:=@beq_eq_false_iff_ne
abbrev UO:=@beq_iff_eq
abbrev QD:=@beq_self_eq_true
abbrev UN:=@cond_false
abbrev aP:=@congrArg
abbrev jy:=@decide_eq_false
abbrev nV:=@decide_eq_false_iff_not
abbrev iU:=@decide_eq_true
abbrev fg:=@decide_eq_true_eq
abbrev nO:=@getElem!_pos
abbrev sB:=@if_false
abbrev an:=@if_neg
abbrev aB:=@if_pos
abbrev E2:=@if_true
abbrev Oa:=@not_false_eq_true
abbrev dB:=@of_decide_eq_false
abbrev cC:=@of_decide_eq_true
end Go
namespace Go.Proofs.E
open Go Go.RowKit
abbrev Fr:=Nat->Value
def kV (f:Fr) (i:Nat) (v:Value):Fr:=λj=>bif Nat.beq j i then v else f j
def ev (f:Fr):Operand->Value
 | .tmp t=>f t
 | .const v=>v
 | .global g=> .pointer (some ⟨g,0,none⟩)
 | .func g=> .func (.func g) #[] #[]
structure nH (N:Nat) (ds:List Deferred) (a:Act) (f:Fr):Prop where
 size:a.tmps.size=N
 get: ∀i,a.tmps.getD i undef=f i
 defers:a.defers=ds
theorem nH.eval{N ds a f}(h:nH N ds a f):a.eval=ev f:=by
 funext x
 cases x with
 |tmp t=>exact h.get t
 |const v=>rfl
 |global g=>rfl
 |func g=>rfl
theorem nH.put{N ds a f}(h:nH N ds a f){d}(hd:Nat.blt d N=true)(v):nH N ds (a.put (some d) v) (kV f d v):=by
 have hlt:d<a.tmps.size:=by rw [h.size];simpa using hd
 refine ⟨by simp [Act.put,h.size],λi=>?_,h.defers⟩
 unfold kV
 by_cases hi:i=d
 ·subst hi
  simp [Act.put,hlt]
 have h1:Nat.beq i d=false:=by
  cases hb:Nat.beq i d with
  |false=>rfl
  |true=>exact absurd (pM hb) hi
 have h2:=h.get i
 simp only [Act.put,h1,UN]
 rw [<-h2]
 simp only [eZ]
 grind
theorem nH.FH{N ds a f}(h:nH N ds a f)(v):nH N ds (a.put none v) f:=h
def O' (v:Value) (b:Bool):Bool:=match v with| .bool x=>x==b|_=>false
def gd (f:Fr):Option (Nat×Bool)->List (Option Nat)->Bool
 |none,_=>true
 |some (j,b),dsts=>match dsts[j]? with|some (some d)=>O' (f d) b|_=>false
theorem oW{N ds a f}(h:nH N ds a f)(o)(ops:List Oper):Region.wanted o (yielded ops.toArray a.tmps)=gd f o.guard (ops.map (·.dst)):=by
 unfold Region.wanted gd
 cases hg:o.guard with
 |none=>rfl
 |some p=>
  obtain ⟨j,b⟩:=p
  simp only [yielded,List.getElem?_toArray,cV]
  cases hj:ops[j]? with
  |none=>simp
  |some oj=>
   simp only [Option.bind_some,ni]
   cases hd:oj.dst with
   |none=>simp
   |some d=>
    simp only [Option.bind_some]
    have h2:=h.get d
    rw [eZ] at h2
    cases ht:a.tmps[d]? with
    |none=>
     rw [ht] at h2
     simp only [Option.getD_none] at h2
     rw [<-h2]
     simp [O',undef]
    |some v=>
     rw [ht] at h2
     simp only [ix] at h2
     rw [<-h2]
     cases v<;>simp [O']
structure Item where
 fp:Nat->Prop
 A:World->Prop
 st: ∀w w',(∀b,fp b->w'.heap[b]?=w.heap[b]?)->A w->A w'
 due:List Deferred:=[]
def marks (L:List Item):List Deferred:=L.flatMap (·.due)
theorem ju(it L):marks (it::L)=it.due++marks L:=by simp [marks]
theorem kp(L L'):marks (L++L')=marks L++marks L':=by simp [marks]
theorem hG: ∀{L:List Item} {k:Nat} {it it':Item},L[k]?=some it->it'.due=it.due->marks (L.set k it')=marks L
 |[],_,_,_,h,_=>by simp at h
 |x::L,0,it,it',h,e=>by simp at h;subst h;simp [marks,e]
 |x::L,k+1,it,it',h,e=>by
  have:=hG (L:=L) (k:=k) (it:=it) (it':=it') (by simpa using h) e
  grind [marks]
structure fM (w w':World):Prop extends Below w.heap.size w w' where
 drawn:w.drawn<=w'.drawn
theorem fM.refl(w):fM w w:=⟨Below.refl _ _,bA _⟩
theorem fM.trans{a b c}(h:fM a b)(k:fM b c):fM a c:=⟨h.toBelow.trans (k.toBelow.mono h.size),gL h.drawn k.drawn⟩
theorem fM.alloc(w o):fM w (w.alloc o):=⟨(Below.refl _ _).alloc (bA _) _,bA _⟩
def Mem (w0:World) (L:List Item) (w:World):Prop:=
 fM w0 w/\(∀it∈L,it.A w)/\(∀it∈L,∀b,it.fp b->w0.heap.size<=b/\b<w.heap.size)/\L.Pairwise (λx y=> ∀b,x.fp b-> ¬y.fp b)
theorem Mem.start(w):Mem w [] w:=⟨fM.refl _,by simp,by simp, .nil⟩
theorem ik{w0 w}:Mem w0 [] w↔fM w0 w:=⟨λh=>h.1,λh=>⟨h,by simp,by simp, .nil⟩⟩
theorem Mem.call{w0 w w' L}(h:Mem w0 L w)(hb:fM w w'):Mem w0 L w':=by
 obtain ⟨h1,h2,h3,h4⟩:=h
 refine ⟨h1.trans hb,λit hi=>it.st w w' (λb hf=>hb.block b (h3 it hi b hf).2) (h2 it hi),λit hi b hf=>⟨(h3 it hi b hf).1,fZ (h3 it hi b hf).2 hb.size⟩,h4⟩
theorem Mem.Jv{w0 w w' L L'}(h:Mem w0 L w)(hc:Mem w L' w'):Mem w0 (L'++L) w':=by
 have h':=h.call hc.1
 obtain ⟨h1,h2,h3,h4⟩:=h'
 obtain ⟨c1,c2,c3,c4⟩:=hc
 refine ⟨h1,?_,?_,?_⟩
 ·grind
 ·intro it hi b hf
  rcases bO.1 hi with hi|hi
  ·exact ⟨gL h.1.size (c3 it hi b hf).1,(c3 it hi b hf).2⟩
  exact h3 it hi b hf
 refine iO.2 ⟨c4,h4,λx hx y hy b hf hg=>?_⟩
 have e1:=(c3 x hx b hf).1
 have e2:=(h.2.2.1 y hy b hg).2
 omega
theorem Mem.new{w0 w L}(h:Mem w0 L w)(o it)(hf: ∀b,it.fp b->b=w.heap.size)(hA:it.A (w.alloc o)):Mem w0 (it::L) (w.alloc o):=by
 have hb:fM w (w.alloc o):=fM.alloc w o
 have h':=h.call hb
 obtain ⟨h1,h2,h3,h4⟩:=h'
 refine ⟨h1,?_,?_,?_⟩
 ·grind
 ·intro x hx b hb
  rcases cn.1 hx with rfl|hx
  ·have:=hf b hb;subst this;exact ⟨h.1.size,by simp⟩
  exact h3 x hx b hb
 refine bB.2 ⟨λy hy b hb hg=>?_,h4⟩
 have e:=hf b hb
 have:=(h.2.2.1 y hy b hg).2
 omega
theorem Mem.set{w0 w w' L k it it'}(h:Mem w0 L w)(hk:L[k]?=some it)(hfp: ∀b,it'.fp b->it.fp b)(hA:it'.A w')(hos:w'.os=w.os/\w'.tape=w.tape/\w'.output=w.output/\w'.heap.size=w.heap.size/\w.drawn<=w'.drawn)(hout: ∀b,¬it.fp b->w'.heap[b]?=w.heap[b]?):Mem w0 (L.set k it') w':=by
 obtain ⟨h1,h2,h3,h4⟩:=h
 have hmem:=aq hk
 refine ⟨⟨⟨hos.1.trans h1.os,hos.2.1.trans h1.tape,hos.2.2.1.trans h1.output,by rw [hos.2.2.2.1];exact h1.size,λb hb=>(hout b (λhf=>by have:=(h3 it hmem b hf).1;omega)).trans (h1.block b hb)⟩,gL h1.drawn hos.2.2.2.2⟩,?_,?_,?_⟩
 ·intro x hx
  obtain ⟨j,hj⟩:=cG.1 hx
  rw [cD] at hj
  split at hj
  ·split at hj
   ·cases hj;exact hA
   cases hj
  rename_i hne
  have hxm:=aq hj
  refine x.st w w' (λb hf=>hout b (λhg=>?_)) (h2 x hxm)
  rcases sD hne with hlt|hlt
  ·obtain ⟨p,hp⟩:=ai.1 hk
   obtain ⟨q,hq⟩:=ai.1 hj
   have:=bJ.1 h4 k j p q hlt b (hp▸hg)
   exact this (hq▸hf)
  obtain ⟨p,hp⟩:=ai.1 hk
  obtain ⟨q,hq⟩:=ai.1 hj
  have:=bJ.1 h4 j k q p hlt b (hq▸hf)
  exact this (hp▸hg)
 ·intro x hx b hb
  rw [hos.2.2.2.1]
  obtain ⟨j,hj⟩:=cG.1 hx
  rw [cD] at hj
  split at hj
  ·split at hj
   ·cases hj;exact h3 it hmem b (hfp b hb)
   cases hj
  exact h3 x (aq hj) b hb
 rw [bJ] at h4|-
 intro i j hi hj hij b hb hg
 simp only [gP] at hi hj
 obtain ⟨p,hp⟩:=ai.1 hk
 simp only [List.getElem_set] at hb hg
 split at hb
 ·rename_i e
  subst e
  rw [an (by omega)] at hg
  exact h4 k j hi hj hij b (hp▸hfp b hb) hg
 split at hg
 ·rename_i e
  subst e
  exact h4 i k hi hj hij b hb (hp▸hfp b hg)
 exact h4 i j hi hj hij b hb hg
theorem Mem.pick{w0 w L}(h:Mem w0 L w)(idx:List Nat)(hn:idx.Nodup):Mem w0 (idx.filterMap (L[·]?)) w:=by
 obtain ⟨h1,h2,h3,h4⟩:=h
 have hsub: ∀x∈idx.filterMap (L[·]?),x∈L:=λx hx=>by
  obtain ⟨i,_,hi⟩:=List.mem_filterMap.1 hx
  exact aq hi
 refine ⟨h1,λx hx=>h2 x (hsub x hx),λx hx=>h3 x (hsub x hx),?_⟩
 have hne2: ∀a b (ha:a<idx.length) (hb:b<idx.length),a<b->idx[a]≠idx[b]:=bJ.1 hn
 refine List.pairwise_filterMap.2 (bJ.2 λa b' ha hb' hab=>?_)
 have hne:=hne2 a b' ha hb' hab
 revert hne
 generalize idx[a]=i
 generalize idx[b']=j
 intro hne x hx y hy b hb hg
 obtain ⟨p,hp⟩:=ai.1 hx
 obtain ⟨q,hq⟩:=ai.1 hy
 rw [bJ] at h4
 rcases sD hne with hlt|hlt
 ·exact h4 i j p q hlt b (hp▸hb) (hq▸hg)
 exact h4 j i q p hlt b (hq▸hg) (hp▸hb)
theorem Mem.item{w0 w L}(h:Mem w0 L w){k:Nat}{it}(hk:L[k]?=some it):it.A w:=h.2.1 it (aq hk)
theorem Mem.nE{w0 w L}(h:Mem w0 L w){k:Nat}{it}(hk:L[k]?=some it){b}(hb:it.fp b):w0.heap.size<=b/\b<w.heap.size:=h.2.2.1 it (aq hk) b hb
def box (b:Nat) (t:TypeId) (cs:List Value):Item where
 fp:=λx=>x=b
 A:=λw=>w.heap[b]?=some (.cells cs.toArray t (0,0))
 st:=λ_ _ h hA=>(h b rfl).trans hA
theorem Mem.wP{w0 w L}(h:Mem w0 L w)(t cs):Mem w0 (box w.heap.size t cs::L) (w.alloc (.cells cs.toArray t)):=
 h.new _ _ (λ_ h=>h) (heap_alloc_new w _)
theorem jR{w0 w L}(h:Mem w0 L w){k b:Nat}{t cs}(hk:L[k]?=some (box b t cs)){i v}(hi:cs[i]?=some v):w.cell? ⟨b,i,none⟩=some v:=by
 have hA:w.heap[b]?=some (.cells cs.toArray t (0,0)):=h.item hk
 simp [World.cell?,hA,hi]
theorem GS{w0 w L}(h:Mem w0 L w){k b:Nat}{t cs}(hk:L[k]?=some (box b t cs))(i):w.frozen? ⟨b,i,none⟩=false:=by
 have hA:w.heap[b]?=some (.cells cs.toArray t (0,0)):=h.item hk
 simp [World.frozen?,hA]
theorem Jz{w0 w L}(h:Mem w0 L w){k b t cs}(hk:L[k]?=some (box b t cs))(i v):
  Mem w0 (L.set k (box b t (cs.set i v))) (w.setCell ⟨b,i,none⟩ v):=by
 have hA:w.heap[b]?=some (.cells cs.toArray t (0,0)):=h.item hk
 refine h.set hk (λ_ h=>h) ?_ ⟨rfl,rfl,rfl,by simp [World.setCell],bA _⟩ (λb' hb'=>?_)
 ·show (w.setCell ⟨b,i,none⟩ v).heap[b]?=_
  simp [World.setCell,kl,hA]
 have hne:b≠b':=λe=>hb' e.symm
 simp [World.setCell,kl,hne]
def FW (l:Option Nat):Fence:={fn:=λ_=>True,depth:=none,alive:=false,round:=l}
theorem P3(l n):(FW l).room n:=λ_ h=>by simp [FW] at h
theorem wH{l n m P}{c:Code}{Q a w}(h:c.wpIn (FW l) n P Q a w):c.wpIn (FW l) m P Q a w:=
 λb k cs hro hb _=>h b k cs hro hb (P3 _ _)
theorem nF{l n P f args w R}(h:Calls P f args w R):CallsIn (FW l) n P f args w R:=
 have h':CallsIn Fence.wide n P f args w R:=callsIn_wide.2 h
 h'
theorem GM{n P f args w R}(h:CallsIn (FW none) n P f args w R):Calls P f args w R:=
 have h':CallsIn Fence.wide n P f args w R:=h
 callsIn_wide.1 h'
structure Cx where
 P:Program
 ro:Option Nat
 N:Nat
abbrev J:=World->List Item->Fr->Prop
abbrev PJ:=Exit->J
def lift (c:Cx) (PQ:PJ):Exit->Act->World->Prop:=λe a w=> ∃w0 L f,nH c.N (marks L) a f/\Mem w0 L w/\PQ e w0 L f
def H (c:Cx) (k:Code) (PQ:PJ):J:=λw0 L f=> ∀a w,nH c.N (marks L) a f->Mem w0 L w->k.wpIn (FW c.ro) 0 c.P (lift c PQ) a w
def Bm (K:J) (PQ:PJ):PJ
 | .normal=>K
 | .exit i=>PQ (.exit i)
 | .goto l=>PQ (.goto l)
 | .ret=>PQ .ret
 | .panic ch=>PQ (.panic ch)
 | .outgrown=>PQ .outgrown
def tX (id:Nat) (PQ:PJ):PJ
 | .normal=>PQ .normal
 | .exit i=>bif Nat.beq i id then PQ .normal else PQ (.exit i)
 | .goto l=>PQ (.goto l)
 | .ret=>PQ .ret
 | .panic ch=>PQ (.panic ch)
 | .outgrown=>PQ .outgrown
section
variable {c:Cx} {PQ:PJ} {w0:World} {L:List Item} {f:Fr}
theorem jb{k L'}(hm: ∀w,Mem w0 L w->Mem w0 L' w)(hk:marks L'=marks L)(h:H c k PQ w0 L' f):H c k PQ w0 L f:=λa w ha hw=>h a w (hk▸ha) (hm w hw)
theorem ak{x y}(h:H c x (Bm (H c y PQ) PQ) w0 L f):H c (.seq x y) PQ w0 L f:=λa w ha hw=>
 wpIn_seq (wpIn_mono (h a w ha hw) λe a' w' ⟨u',L',f',h1,h2,h3⟩=>by
  cases e with
  |normal=>exact h3 a' w' h1 h2
  |exit i=>exact ⟨u',L',f',h1,h2,h3⟩
  |goto l=>exact ⟨u',L',f',h1,h2,h3⟩
  |ret=>exact ⟨u',L',f',h1,h2,h3⟩
  |panic ch=>exact ⟨u',L',f',h1,h2,h3⟩
  |outgrown=>exact ⟨u',L',f',h1,h2,h3⟩)
theorem cq{id k}(h:H c k (tX id PQ) w0 L f):H c (.block id k) PQ w0 L f:=λa w ha hw=>
 wpIn_block (wpIn_mono (h a w ha hw) λe a' w' ⟨u',L',f',h1,h2,h3⟩=>by
  cases e with
  |normal=>exact ⟨u',L',f',h1,h2,h3⟩
  |exit i=>
   simp only [Exit.inBlock]
   by_cases hi:i=id
   ·subst hi
    rw [aB rfl]
    simp only [tX,Nat.beq_refl,cond_true] at h3
    exact ⟨u',L',f',h1,h2,h3⟩
   rw [an hi]
   have hb:Nat.beq i id=false:=by
    cases hb:Nat.beq i id with
    |false=>rfl
    |true=>exact absurd (pM hb) hi
   simp only [tX,hb,UN] at h3
   exact ⟨u',L',f',h1,h2,h3⟩
  |goto l=>exact ⟨u',L',f',h1,h2,h3⟩
  |ret=>exact ⟨u',L',f',h1,h2,h3⟩
  |panic ch=>exact ⟨u',L',f',h1,h2,h3⟩
  |outgrown=>exact ⟨u',L',f',h1,h2,h3⟩)
theorem bD{x k1 k2 b}(hb:ev f x= .bool b)(h1:b=true->H c k1 PQ w0 L f)(h2:b=false->H c k2 PQ w0 L f):H c (.cond x k1 k2) PQ w0 L f:=λa w ha hw=>
 wpIn_cond_split (t:=b) (by rw [ha.eval];exact hb) (λe=>h1 e a w ha hw) (λe=>h2 e a w ha hw)
theorem fz{id}(h:PQ (.exit id) w0 L f):H c (.exit id) PQ w0 L f:=λ_ _ ha hw=>wpIn_exit ⟨w0,L,f,ha,hw,h⟩
theorem dq (h:PQ .ret w0 L f):H c .ret PQ w0 L f:=λ_ _ ha hw=>wpIn_ret ⟨w0,L,f,ha,hw,h⟩
theorem bZ (h:PQ .normal w0 L f):H c .skip PQ w0 L f:=λ_ _ ha hw=>wpIn_skip ⟨w0,L,f,ha,hw,h⟩
theorem ad{K}(h:K w0 L f):Bm K PQ .normal w0 L f:=h
theorem cJ{K i}(h:PQ (.exit i) w0 L f):Bm K PQ (.exit i) w0 L f:=h
theorem cw{K}(h:PQ .ret w0 L f):Bm K PQ .ret w0 L f:=h
theorem bc{i}(h:PQ .normal w0 L f):tX i PQ .normal w0 L f:=h
theorem cK{i}(h:PQ .normal w0 L f):tX i PQ (.exit i) w0 L f:=by
 simp only [tX,Nat.beq_refl,cond_true];exact h
theorem u7{i j}(hn:Nat.beq j i=false)(h:PQ (.exit j) w0 L f):tX i PQ (.exit j) w0 L f:=by
 simp only [tX,hn,UN];exact h
theorem dU{i}(h:PQ .ret w0 L f):tX i PQ .ret w0 L f:=h
def HL (c:Cx) (ops rest:List Oper) (PQ:PJ):J:=λw0 L f=> ∀a w,nH c.N (marks L) a f->Mem w0 L w->wpListIn (FW c.ro) 0 c.P ops.toArray (lift c PQ) rest a w
theorem NW{id ops}(h:HL c ops ops PQ w0 L f):H c (.region id ops.toArray false) PQ w0 L f:=λa w ha hw=>wpIn_region_lit (h a w ha hw)
theorem Sd{ops}(h:PQ .normal w0 L f):HL c ops [] PQ w0 L f:=λ_ _ ha hw=>⟨w0,L,f,ha,hw,h⟩
theorem NX{ops rest L'}(hm: ∀w,Mem w0 L w->Mem w0 L' w)(hk:marks L'=marks L)(h:HL c ops rest PQ w0 L' f):HL c ops rest PQ w0 L f:=λa w ha hw=>h a w (hk▸ha) (hm w hw)
def Gd (f:Fr) (g:Option (Nat×Bool)) (dsts:List (Option Nat)) (b:Bool):Prop:=gd f g dsts=b
def gv (g:Bool) (v:Value):Value:=bif g then v else undef
theorem AY{dsts}:Gd f none dsts true:=rfl
theorem vM{j d dsts x}(hj:dsts[j]?=some (some d))(hx:f d= .bool x):Gd f (some (j,true)) dsts x:=by
 simp [Gd,gd,hj,hx,O']
theorem kS{j d dsts x}(hj:dsts[j]?=some (some d))(hx:f d= .bool x):Gd f (some (j,false)) dsts (!x):=by
 simp [Gd,gd,hj,hx,O']
theorem G4{j d dsts x g}(hj:dsts[j]?=some (some d))(hx:f d=gv g (.bool x)):Gd f (some (j,true)) dsts (g&&x):=by
 cases g<;>simp [Gd,gd,hj,hx,O',gv,undef]
theorem zC{j d dsts x g}(hj:dsts[j]?=some (some d))(hx:f d=gv g (.bool x)):Gd f (some (j,false)) dsts (g&&!x):=by
 cases g<;>simp [Gd,gd,hj,hx,O',gv,undef]
def gj (g:Bool) (c:Cx) (w0:World) (L:List Item) (f:Fr) (op:Op) (ty:TypeId) (v:Value):Prop:=
 g=true-> ∀(dst:Option Nat) (pos:String) (af:Array Edge) (gu:Option (Nat×Bool)) (w:World),Mem w0 L w->(execOp (ev f) ⟨dst,op,ty,pos,af,gu⟩).run c.P w= .ok (.value v) w
def gH (g:Bool) (f:Fr) (x:Operand) (v:Value):Prop:=g=true->ev f x=v
theorem Up{g x v}(h:ev f x=v):gH g f x v:=λ_=>h
theorem Uo{g x v}(h:ev f x=gv g v):gH g f x v:=λe=>by rw [h,e];rfl
theorem Un{g y x v}(h:ev f x=gv g v):gH (g&&y) f x v:=λe=>by
 grind [ev,gv,gH]
def ew:Op->Bool
 | .defer _=>true
 |_=>false
theorem lK{op}(h:ew op=false): ∀x,op≠ .defer x:=λx e=>by subst e;cases h
theorem Sc{ops rest d op ty pos af gu g v}(hg:Gd f gu (ops.map (·.dst)) g)(hnd:ew op=false)(hev:gj g c w0 L f op ty v)(hd:Nat.blt d c.N=true)(next:HL c ops rest PQ w0 L (kV f d (gv g v))):
  HL c ops (⟨some d,op,ty,pos,af,gu⟩::rest) PQ w0 L f:=by
 intro a w ha hw
 show if _ then _ else _
 rw [oW ha]
 show if gd f gu _=true then _ else _
 rw [show gd f gu (ops.map (·.dst))=g from hg]
 cases g with
 |false=>exact ⟨λ_ _=>trivial,next _ _ (ha.put hd undef) hw⟩
 |true=>
  rw [aB rfl]
  refine ⟨λ_ _=>trivial,?_⟩
  rw [Oper.semAt_eq _ _ _ (lK hnd),ha.eval,hev rfl _ _ _ _ w hw]
  exact next _ _ (ha.put hd v) hw
theorem EV{ops rest d op ty pos af}(hnd:ew op=false)(hd:Nat.blt d c.N=true)(hev: ∀w,Mem w0 L w-> ∃v w' L',(execOp (ev f) ⟨some d,op,ty,pos,af,none⟩).run c.P w= .ok (.value v) w'/\Mem w0 L' w'/\marks L'=marks L/\HL c ops rest PQ w0 L' (kV f d v)):
  HL c ops (⟨some d,op,ty,pos,af,none⟩::rest) PQ w0 L f:=by
 intro a w ha hw
 obtain ⟨v,w',L',hrun,hm,hk,hn⟩:=hev w hw
 show if _ then _ else _
 rw [aB (by rfl)]
 refine ⟨λ_ _=>trivial,?_⟩
 rw [Oper.semAt_eq _ _ _ (lK hnd),ha.eval,hrun]
 exact hn _ _ (hk▸ha.put hd v) hm
theorem Qu{ops rest op ty pos af}(hnd:ew op=false)(hev: ∀w,Mem w0 L w-> ∃w' L',(execOp (ev f) ⟨none,op,ty,pos,af,none⟩).run c.P w= .ok .skip w'/\Mem w0 L' w'/\marks L'=marks L/\HL c ops rest PQ w0 L' f):
  HL c ops (⟨none,op,ty,pos,af,none⟩::rest) PQ w0 L f:=by
 intro a w ha hw
 obtain ⟨w',L',hrun,hm,hk,hn⟩:=hev w hw
 show if _ then _ else _
 rw [aB (by rfl)]
 refine ⟨λ_ _=>trivial,?_⟩
 rw [Oper.semAt_eq _ _ _ (lK hnd),ha.eval,hrun]
 exact hn _ _ (hk▸ha.FH undef) hm
def lV (g:Bool) (c:Cx) (w0:World) (L:List Item) (f:Fr) (op:Op) (ty:TypeId) (k:FuncId) (args:Array Value):Prop:=
 g=true-> ∀(dst:Option Nat) (pos:String) (af:Array Edge) (gu:Option (Nat×Bool)) (w:World),Mem w0 L w->(execOp (ev f) ⟨dst,op,ty,pos,af,gu⟩).run c.P w= .ok (.enter k args) w
theorem NY{ops rest d op ty pos af gu g k args v}(hg:Gd f gu (ops.map (·.dst)) g)(hnd:ew op=false)(hen:lV g c w0 L f op ty k args)(hd:Nat.blt d c.N=true)(hc:g=true-> ∀w,Mem w0 L w->Calls c.P k args w λe w'=>e= .returned v/\fM w w')(next:HL c ops rest PQ w0 L (kV f d (gv g v))):HL c ops (⟨some d,op,ty,pos,af,gu⟩::rest) PQ w0 L f:=by
 intro a w ha hw
 show if _ then _ else _
 rw [oW ha]
 show if gd f gu _=true then _ else _
 rw [show gd f gu (ops.map (·.dst))=g from hg]
 cases g with
 |false=>exact ⟨λ_ _=>trivial,next _ _ (ha.put hd undef) hw⟩
 |true=>
  rw [aB rfl]
  refine ⟨λ_ _=>trivial,?_⟩
  rw [Oper.semAt_eq _ _ _ (lK hnd),ha.eval,hen rfl _ _ _ _ w hw]
  refine ⟨λh=>by simp [FW] at h,(nF ((hc rfl w hw).mono ?_))⟩
  rintro e w' ⟨rfl,hb⟩
  exact next _ _ (ha.put hd v) (hw.call hb)
theorem P2{α:Type}{ops rest d op ty pos af k args}{val:α->Value}{Lx:α->List Item}(hnd:ew op=false)(hen:lV true c w0 L f op ty k args)(hd:Nat.blt d c.N=true)(hc: ∀w,Mem w0 L w->Calls c.P k args w λe w'=> ∃x:α,e= .returned (val x)/\Mem w (Lx x) w')(hmk: ∀x,marks (Lx x)=[])(next: ∀x,HL c ops rest PQ w0 (Lx x++L) (kV f d (val x))):HL c ops (⟨some d,op,ty,pos,af,none⟩::rest) PQ w0 L f:=by
 intro a w ha hw
 show if _ then _ else _
 rw [aB (by rfl)]
 refine ⟨λ_ _=>trivial,?_⟩
 rw [Oper.semAt_eq _ _ _ (lK hnd),ha.eval,hen rfl _ _ _ _ w hw]
 refine ⟨λh=>by simp [FW] at h,(nF ((hc w hw).mono ?_))⟩
 rintro e w' ⟨x,rfl,hm⟩
 exact next x _ _ (by rw [kp,hmk x,ir];exact ha.put hd _) (hw.Jv hm)
end
section
variable {c:Cx} {w0:World} {L:List Item}
def QL (c:Cx) (ops rest:List Oper) (w0:World) (L:List Item) (K:Fr->Prop) (f:Fr):Prop:=
 ∀a,nH c.N (marks L) a f->wpQuietIn (FW c.ro) 0 c.P ops.toArray (Mem w0 L) (λa'=> ∃f',nH c.N (marks L) a' f'/\K f') rest a
theorem Oper.Bd{F n P C}{o:Oper}{a K K' Q' w}(hnd: ∀x,o.op≠ .defer x)(hw:C w)(h: ∀a w',C w'->K a->K' a w')(ha:o.askedIn F P a C)(hh:o.quietIn F n P a C K):o.wpIn F n P a w K' Q':=by
 obtain ⟨v,h1,h2⟩:=hh
 have h3:=h1 w hw
 unfold Oper.quietAtIn at h3
 unfold Oper.wpIn
 refine ⟨ha w hw,?_⟩
 rw [Oper.semAt_eq _ _ _ hnd]
 generalize (execOp a.eval o).run P w=r at*
 cases r with
 |ok x w'=>
  cases x<;>simp only [Oper.quietUponIn] at h3<;>simp only [Oper.uponIn]
  case value u=>
   obtain ⟨e1,e2⟩:=h3
   rw [e1,e2]
   exact h _ _ hw h2
  case skip=>
   obtain ⟨e1,e2⟩:=h3
   rw [e1,<-e2]
   exact h _ _ hw h2
  case enter f args=>
   obtain ⟨e1,hd,hc⟩:=h3
   rw [e1]
   exact ⟨hd,hc.mono λe w'' ⟨he,hw''⟩=>by subst he;exact h _ _ hw'' h2⟩
 |halt x w'=>simp only [Oper.quietUponIn] at h3
theorem sH{F n P ops C i a K K' Q' w}(hnd: ∀(j:Nat) o,ops[j]?=some o-> ∀x,o.op≠ .defer x)(hC:C w)(h: ∀a w',C w'->K a->K' a w')(hh:qOpIn F n P ops C i K a):wpOpIn F n P ops Q' i K' a w:=by
 unfold qOpIn at hh
 unfold wpOpIn
 split
 ·grind
 rename_i o ho
 simp only [ho] at hh
 obtain ⟨ha,hh⟩:=hh
 split
 ·grind [Oper.Bd]
 rename_i hw;simp only [hw] at hh;exact ⟨ha w hC,h _ _ hC hh⟩
theorem rW{F n P md ops C Q Q'}(hnd: ∀(j:Nat) o,ops[j]?=some o-> ∀x,o.op≠ .defer x)(hQ: ∀a w,C w->Q a->Q' .normal a w): ∀(fuel:Nat) (listed:Array Bool) (a:Act) (w:World),C w->
  wpAnyQIn F n P md ops C Q fuel listed a->wpAnyIn F n P md ops Q' fuel listed a w
 |0,_,_,_,hw,h=>⟨h.1,hQ _ _ hw h.2⟩
 |fuel+1,_,_,_,hw,h=>⟨λh0=>hQ _ _ hw (h.1 h0),λi hi=>sH hnd hw (λa' w' hw'=>rW hnd hQ fuel _ a' w' hw') (h.2 i hi)⟩
theorem Mem.drew{w0 w L}(h:Mem w0 L w):Mem w0 L {w with drawn:=w.drawn+1}:=
 h.call ⟨⟨rfl,rfl,rfl,bA _,λ_ _=>rfl⟩,Nat.le_add_right _ _⟩
theorem Sb{PQ f id ops}(hm:c.P.follows .mixedOrders=true)(hB:(Region.lexB .any ops.toArray&&ops.all (λo=>!ew o.op))=true)(h:QL c ops ops w0 L (λf'=>PQ .normal w0 L f') f):
  H c (.region id ops.toArray true) PQ w0 L f:=by
 intro a w ha hw
 rw [de] at hB
 obtain ⟨hB,hD⟩:=hB
 have hnd: ∀(j:Nat) (o:Oper),ops.toArray[j]?=some o-> ∀x,o.op≠ .defer x:=λj o hj=>lK (by
  have hmem:o∈ops:=aq (by simpa using hj)
  simpa using kH.1 hD o hmem)
 simp only [Region.lexB,de] at hB
 refine wpIn_region_any hm (rW (C:=Mem w0 L) (Q:=λa'=> ∃f',nH c.N (marks L) a' f'/\PQ .normal w0 L f') hnd (λa' w' hw' ⟨f',h1,h2⟩=>⟨w0,L,f',h1,hw',h2⟩) _ _ _ _ hw.drew ?_)
 have:=wpAnyQIn_lex (F:=FW c.ro) (n:=0) (P:=c.P) (C:=Mem w0 L) (md:= .any) (Q:=λa'=> ∃f',nH c.N (marks L) a' f'/\PQ .normal w0 L f') hB.1 ops 0 (Array.replicate ops.toArray.size false) a (by simp) (by simpa using hB.2) (h a ha)
 simpa using this
variable {K:Fr->Prop} {f:Fr}
theorem R8{ops}(h:K f):QL c ops [] w0 L K f:=λ_ ha=>⟨f,ha,h⟩
theorem R7{ops rest d op ty pos af gu g v}(hg:Gd f gu (ops.map (·.dst)) g)(hev:gj g c w0 L f op ty v)(hd:Nat.blt d c.N=true)(next:QL c ops rest w0 L K (kV f d (gv g v))):
  QL c ops (⟨some d,op,ty,pos,af,gu⟩::rest) w0 L K f:=by
 intro a ha
 refine ⟨λ_ _ _ _=>trivial,?_⟩
 rw [oW ha]
 show if gd f gu _=true then _ else _
 rw [show gd f gu (ops.map (·.dst))=g from hg]
 cases g with
 |false=>exact next _ (ha.put hd undef)
 |true=>
  rw [aB rfl]
  refine ⟨v,λw hw=>?_,next _ (ha.put hd v)⟩
  unfold Oper.quietAtIn
  rw [ha.eval,hev rfl _ _ _ _ w hw]
  exact ⟨rfl,rfl⟩
theorem NT{ops rest d op ty pos af gu g k args v}(hg:Gd f gu (ops.map (·.dst)) g)(hen:lV g c w0 L f op ty k args)(hd:Nat.blt d c.N=true)(hc:g=true-> ∀w,Mem w0 L w->Calls c.P k args w λe w'=>e= .returned v/\fM w w')(next:QL c ops rest w0 L K (kV f d (gv g v))):QL c ops (⟨some d,op,ty,pos,af,gu⟩::rest) w0 L K f:=by
 intro a ha
 refine ⟨λ_ _ _ _=>trivial,?_⟩
 rw [oW ha]
 show if gd f gu _=true then _ else _
 rw [show gd f gu (ops.map (·.dst))=g from hg]
 cases g with
 |false=>exact next _ (ha.put hd undef)
 |true=>
  rw [aB rfl]
  refine ⟨v,λw hw=>?_,next _ (ha.put hd v)⟩
  unfold Oper.quietAtIn
  rw [ha.eval,hen rfl _ _ _ _ w hw]
  refine ⟨rfl,λh=>by simp [FW] at h,nF ((hc rfl w hw).mono ?_)⟩
  rintro e w' ⟨rfl,hb⟩
  exact ⟨rfl,hw.call hb⟩
end
def Ar (f:Fr):List (Nat×Value)->Fr
 |[]=>f
 |(i,v)::r=>kV (Ar f r) i v
def over (f0:Fr) (S:List Nat) (g:Fr):Fr:=λi=>bif S.elem i then g i else f0 i
def kY (S:List Nat) (f f0:Fr):Prop:= ∀i,S.elem i=false->f i=f0 i
theorem aK{S f}:kY S f f:=λ_ _=>rfl
theorem aN{S f0 g}:kY S (over f0 S g) f0:=λi hi=>by unfold over;rw [hi];rfl
theorem aD{S T f f0 g}(hs:T.all (λi=>S.elem i)=true)(h:kY S f f0):kY S (over f T g) f0:=λi hi=>by
 grind [kY,over]
theorem a8{S f f0 i v}(hi:S.elem i=true)(h:kY S f f0):kY S (kV f i v) f0:=λj hj=>by
 have hne:Nat.beq j i=false:=by
  cases hb:Nat.beq j i with
  |false=>rfl
  |true=>rw [pM hb] at hj;rw [hi] at hj;cases hj
 grind [kY,kV]
theorem aJ{S f f0}: ∀{vs:List (Nat×Value)},vs.all (λp=>S.elem p.1)=true->kY S f f0->kY S (Ar f vs) f0
 |[],_,h=>h
 |(i,v)::r,hv,h=>by
  simp only [sG,de] at hv
  exact a8 hv.1 (aJ hv.2 h)
def Has (f:Fr):List (Nat×Value)->Prop
 |[]=>True
 |(i,v)::r=>f i=v/\Has f r
theorem xL{S f f0}(ha:kY S f f0): ∀{vs:List (Nat×Value)},Has f vs->f=Ar (over f0 S f) vs
 |[],_=>funext λi=>by
  show f i=over f0 S f i
  grind [kY,Has,Ar,over]
 |(i,v)::r,hv=>funext λj=>by
  have ih:=congrFun (xL ha hv.2) j
  show f j=kV (Ar (over f0 S f) r) i v j
  unfold kV
  cases hb:Nat.beq j i with
  |false=>exact ih
  |true=>rw [pM hb];exact hv.1
structure Round {σ:Type} (S:List Nat) (f0:Fr) (vals:σ->List (Nat×Value)) (Wb:σ->World) (Li:σ->List Item) (I:σ->Prop) (m:σ->Nat) (s:σ) (w0:World) (L:List Item) (f:Fr):Prop where
 ex: ∃s',kY S f f0/\Has f (vals s')/\(∀w,Mem w0 L w->Mem (Wb s') (Li s') w)/\marks (Li s')=marks L/\I s'/\m s'<m s
def rq {σ:Type} (S:List Nat) (f0:Fr) (vals:σ->List (Nat×Value)) (Wb:σ->World) (Li:σ->List Item) (I:σ->Prop) (m:σ->Nat) (s:σ) (PQ:PJ):PJ:=Bm (Round S f0 vals Wb Li I m s) PQ
theorem JG{c PQ w0 L f σ k}(S)(vals:σ->List (Nat×Value))(Wb Li I m s0)(hv0:Has f (vals s0))(hL0: ∀w,Mem w0 L w->Mem (Wb s0) (Li s0) w)(hk0:marks (Li s0)=marks L)(hI0:I s0)(round: ∀s g,I s->H c k (rq S f vals Wb Li I m s PQ) (Wb s) (Li s) (Ar (over f S g) (vals s))):H c (.loop k) PQ w0 L f:=by
 intro a w ha hw
 refine wpIn_loop_ghost (λj a w=> ∃s g,nH c.N (marks (Li s)) a (Ar (over f S g) (vals s))/\Mem (Wb s) (Li s) w/\I s/\m s=j) (m s0) ?_ ?_
 ·refine ⟨s0,f,?_,hL0 w hw,hI0,rfl⟩
  rw [<-xL aK hv0,hk0];exact ha
 rintro j a w ⟨s,g,h1,h2,h3,rfl⟩
 refine wpIn_mono (round s g h3 a w h1 h2) ?_
 rintro e a' w' ⟨u',L',f',k1,k2,k3⟩
 cases e with
 |normal=>
  obtain ⟨s',ag,hv,hm,hk,hI,hlt⟩:=Round.ex k3
  exact ⟨m s',hlt,s',f',by rw [<-xL ag hv,hk];exact k1,hm _ k2,hI,rfl⟩
 |exit i=>exact ⟨u',L',f',k1,k2,k3⟩
 |goto l=>exact ⟨u',L',f',k1,k2,k3⟩
 |ret=>exact ⟨u',L',f',k1,k2,k3⟩
 |panic ch=>exact ⟨u',L',f',k1,k2,k3⟩
 |outgrown=>exact ⟨u',L',f',k1,k2,k3⟩
theorem ef {c:Cx} {PQ:PJ} {w0:World} {L:List Item} {f:Fr} {σ:Type} {k:Code} (S:List Nat) (vals:σ->List (Nat×Value)) (Li:σ->List Item) (I:σ->Prop) (m:σ->Nat) (s0:σ)
  (hv0:Has f (vals s0)) (hL0: ∀w,Mem w0 L w->Mem w0 (Li s0) w) (hk0:marks (Li s0)=marks L) (hI0:I s0)
  (round: ∀s g,I s->H c k (rq S f vals (λ_=>w0) Li I m s PQ) w0 (Li s) (Ar (over f S g) (vals s))):H c (.loop k) PQ w0 L f:=
 JG S vals (λ_=>w0) Li I m s0 hv0 hL0 hk0 hI0 round
section
variable {PQ:PJ} {w0:World} {L:List Item} {f f0:Fr} {σ:Type} {S:List Nat} {vals:σ->List (Nat×Value)} {Wb:σ->World} {Li:σ->List Item} {I:σ->Prop} {m:σ->Nat} {s:σ}
theorem aH(s')(hag:kY S f f0)(hv:Has f (vals s'))(hm: ∀w,Mem w0 L w->Mem (Wb s') (Li s') w)(hk:marks (Li s')=marks L)(hI:I s')(hlt:m s'<m s):rq S f0 vals Wb Li I m s PQ .normal w0 L f:=⟨⟨s',hag,hv,hm,hk,hI,hlt⟩⟩
theorem cM{i}(h:PQ (.exit i) w0 L f):rq S f0 vals Wb Li I m s PQ (.exit i) w0 L f:=h
theorem iJ (h:PQ .ret w0 L f):rq S f0 vals Wb Li I m s PQ .ret w0 L f:=h
end
def KH (l:List Value):Fr:=λi=>l.getD i undef
def Aw (c:Cx) (fn:Func) (R:Ending->World->Prop):PJ
 | .normal=>λw0 L f=> ∀w a,Mem w0 L w->nH c.N (marks L) a f->LeavesInM (FW none) 0 c.P fn a.tmps R (marks L) .returning w
 | .ret=>λw0 L f=> ∀w a,Mem w0 L w->nH c.N (marks L) a f->LeavesInM (FW none) 0 c.P fn a.tmps R (marks L) .returning w
 |_=>λ_ _ _=>False
theorem dd{P k fn code l w R N}(hf:P.funcs[k]?=some fn)(hb:fn.body=some code)(hN:fn.ntmps=N)(hl:Nat.ble l.length N=true)(h:H ⟨P,none,N⟩ code (Aw ⟨P,none,N⟩ fn R) w [] (KH l)):Calls P k l.toArray w R:=by
 have hl':l.length<=N:=dW hl
 refine GM (n:=0) (callsIn_of_wp_marks hf hb trivial (wpIn_mono (h _ w ⟨?_,?_,rfl⟩ (Mem.start w)) ?_) rfl)
 ·simp [hN];omega
 ·intro i
  simp only [eZ,KH,ar]
  grind
 rintro e a w' ⟨u',L',f',k1,k2,k3⟩
 cases e with
 |normal=>have:=k3 w' a k2 k1;rw [<-k1.defers] at this;exact this
 |ret=>have:=k3 w' a k2 k1;rw [<-k1.defers] at this;exact this
 |exit i=>exact k3.elim
 |goto l=>exact k3.elim
 |panic ch=>exact k3.elim
 |outgrown=>exact k3.elim
def se (D:Nat):Item where
 fp:=λx=>x=D
 A:=λw=>w.heap[D]?=some (.deferred (some []))
 st:=λ_ _ h hA=>(h D rfl).trans hA
def Dt (D:Nat):Item:={se D with due:=[{target:= .collected D,args:= #[]}]}
def vf (P:Program) (N:Nat) (fn:Func) (w0:World) (L:List Item) (f:Fr) (v:Value):Prop:= ∀w ds a,Mem w0 L w->nH N ds a f->(results fn a.tmps).run P w= .ok v w
theorem Mem.tail{w0 w it L}(h:Mem w0 (it::L) w):Mem w0 L w:=
 ⟨h.1,λx hx=>h.2.1 x (bR _ hx),λx hx=>h.2.2.1 x (bR _ hx),(bB.1 h.2.2.2).2⟩
theorem Mem.S1{w0 w D o it L}(h:Mem w0 (it::L) w)(hfp:it.fp D):Mem w0 L (w.putObj D o):=by
 have hD:=h.2.2.1 it (dV ..) D hfp
 have hp:=(bB.1 h.2.2.2).1
 have ht:=h.tail
 refine ⟨⟨⟨ht.1.os,ht.1.tape,ht.1.output,by simpa using ht.1.size,λk hk=>(World.putObj_heap_other (by omega)).trans (ht.1.block k hk)⟩,ht.1.drawn⟩,λx hx=>x.st w _ (λb hb=>World.putObj_heap_other (λe=>?_)) (ht.2.1 x hx),λx hx b hb=>by simpa using ht.2.2.1 x hx b hb,ht.2.2.2⟩
 subst e
 exact hp x hx b hfp hb
section
variable {c:Cx} {fn:Func} {R:Ending->World->Prop} {w0:World} {L:List Item} {f:Fr} {v:Value}
theorem lR (hk:marks L=[]) (hr:vf c.P c.N fn w0 L f v) (h: ∀w,Mem w0 L w->R (.returned v) w):Aw c fn R .ret w0 L f:=λw a hw ha=>by
 rw [hk];exact ⟨v,hr w _ a hw ha,h w hw⟩
theorem RG (hk:marks L=[]) (hr:vf c.P c.N fn w0 L f v) (h: ∀w,Mem w0 L w->R (.returned v) w):Aw c fn R .normal w0 L f:=λw a hw ha=>by
 rw [hk];exact ⟨v,hr w _ a hw ha,h w hw⟩
theorem Mo{D}(hk:marks L=[])(hr:vf c.P c.N fn w0 L f v)(h: ∀w,Mem w0 L w->R (.returned v) w):Aw c fn R .ret w0 (Dt D::L) f:=λw a hw ha=>by
 rw [ju,hk]
 have hA:w.heap[D]?=some (.deferred (some [])):=hw.2.1 (Dt D) (dV ..)
 have hw':Mem w0 L (w.putObj D (.deferred none)):=Mem.S1 hw (show (Dt D).fp D from rfl)
 exact ⟨by simp, .inl ⟨D,_,rfl,run_takeDeferred hA,v,hr _ _ a hw' ha,h _ hw'⟩⟩
theorem S8 (hr:fn.results= #[]):vf c.P c.N fn w0 L f (.tuple #[]):=λw ds a _ _=>by simp [results,hr]
theorem S7{t}(hr:fn.results= #[.tmp t])(hv:f t=v):vf c.P c.N fn w0 L f v:=λw ds a _ ha=>by
 have:=ha.get t
 simp [results,hr,<-hv,<-this]
theorem Um{t u x}(hr:fn.results= #[.tmp t, .tmp u])(hv:f t=v)(hx:f u=x):vf c.P c.N fn w0 L f (.tuple #[v,x]):=λw ds a _ ha=>by
 have h1:=ha.get t
 have h2:=ha.get u
 simp [results,hr,<-hv,<-hx,<-h1,<-h2]
theorem Ul{t u y x z}(hr:fn.results= #[.tmp t, .tmp u, .tmp y])(hv:f t=v)(hx:f u=x)(hz:f y=z):vf c.P c.N fn w0 L f (.tuple #[v,x,z]):=λw ds a _ ha=>by
 have h1:=ha.get t
 have h2:=ha.get u
 have h3:=ha.get y
 simp [results,hr,<-hv,<-hx,<-hz,<-h1,<-h2,<-h3]
theorem Rb (hr:fn.results= #[]) (hk:marks L=[]) (h: ∀w,Mem w0 L w->R (.returned (.tuple #[])) w):Aw c fn R .ret w0 L f:=lR hk (S8 hr) h
theorem kr (hr:fn.results= #[]) (hk:marks L=[]) (h: ∀w,Mem w0 L w->R (.returned (.tuple #[])) w):Aw c fn R .normal w0 L f:=RG hk (S8 hr) h
theorem cu{t}(hr:fn.results= #[.tmp t])(hv:f t=v)(hk:marks L=[])(h: ∀w,Mem w0 L w->R (.returned v) w):Aw c fn R .ret w0 L f:=lR hk (S7 hr hv) h
theorem jr{t u x}(hr:fn.results= #[.tmp t, .tmp u])(hv:f t=v)(hx:f u=x)(hk:marks L=[])(h: ∀w,Mem w0 L w->R (.returned (.tuple #[v,x])) w):Aw c fn R .ret w0 L f:=lR hk (Um hr hv hx) h
theorem S6{t u y x z}(hr:fn.results= #[.tmp t, .tmp u, .tmp y])(hv:f t=v)(hx:f u=x)(hz:f y=z)(hk:marks L=[])(h: ∀w,Mem w0 L w->R (.returned (.tuple #[v,x,z])) w):Aw c fn R .ret w0 L f:=lR hk (Ul hr hv hx hz) h
end
theorem Gg{v}:gv false v=undef:=rfl
theorem px{v}:gv true v=v:=rfl
attribute [irreducible] gv
end Go.Proofs.E
namespace Go.Proofs.E
open Go Go.RowKit
def XL (dr:Bool) (c:Cx) (ops rest:List Oper) (PQ:PJ):J:=
 match dr with
 |false=>HL c ops rest PQ
 |true=>λw0 L f=>QL c ops rest w0 L (λf'=>PQ .normal w0 L f') f
section
variable {dr:Bool} {c:Cx} {PQ:PJ} {w0:World} {L:List Item} {f:Fr} {ops rest:List Oper} {d:Nat} {ty:TypeId} {pos:String} {af:Array Edge} {gu:Option (Nat×Bool)} {g:Bool} {v:Value}
theorem R0{id ops}(h:XL false c ops ops PQ w0 L f):H c (.region id ops.toArray false) PQ w0 L f:=NW h
theorem R1{id ops}(hm:c.P.follows .mixedOrders=true)(hB:(Region.lexB .any ops.toArray&&ops.all (λo=>!ew o.op))=true)(h:XL true c ops ops PQ w0 L f):H c (.region id ops.toArray true) PQ w0 L f:=Sb hm hB h
theorem XN (h:PQ .normal w0 L f):XL dr c ops [] PQ w0 L f:=by
 cases dr
 ·exact Sd h
 exact R8 h
theorem XV{op}(hg:Gd f gu (ops.map (·.dst)) g)(hnd:ew op=false)(hev:gj g c w0 L f op ty v)(hd:Nat.blt d c.N=true)(next:XL dr c ops rest PQ w0 L (kV f d (gv g v))):
  XL dr c ops (⟨some d,op,ty,pos,af,gu⟩::rest) PQ w0 L f:=by
 cases dr
 ·exact Sc hg hnd hev hd next
 exact R7 hg hev hd next
theorem XC{op k args}(hg:Gd f gu (ops.map (·.dst)) g)(hnd:ew op=false)(hen:lV g c w0 L f op ty k args)(hd:Nat.blt d c.N=true)(hc:g=true-> ∀w,Mem w0 L w->Calls c.P k args w λe w'=>e= .returned v/\fM w w')(next:XL dr c ops rest PQ w0 L (kV f d (gv g v))):
  XL dr c ops (⟨some d,op,ty,pos,af,gu⟩::rest) PQ w0 L f:=by
 cases dr
 ·exact NY hg hnd hen hd hc next
 exact NT hg hen hd hc next
theorem xV{op}(hev:gj true c w0 L f op ty v)(hnd:ew op=false)(hd:Nat.blt d c.N=true)(next:XL dr c ops rest PQ w0 L (kV f d v)):XL dr c ops (⟨some d,op,ty,pos,af,none⟩::rest) PQ w0 L f:=XV AY hnd hev hd (by rw [px];exact next)
theorem dJ{op j e b}(hev:gj b c w0 L f op ty v)(hj:(ops.map (·.dst))[j]?=some (some e))(hx:f e= .bool b)(hnd:ew op=false)(hd:Nat.blt d c.N=true)(next:XL dr c ops rest PQ w0 L (kV f d (gv b v))):XL dr c ops (⟨some d,op,ty,pos,af,some (j,true)⟩::rest) PQ w0 L f:=XV (vM hj hx) hnd hev hd next
theorem fE{op j e b}(hev:gj (!b) c w0 L f op ty v)(hj:(ops.map (·.dst))[j]?=some (some e))(hx:f e= .bool b)(hnd:ew op=false)(hd:Nat.blt d c.N=true)(next:XL dr c ops rest PQ w0 L (kV f d (gv (!b) v))):XL dr c ops (⟨some d,op,ty,pos,af,some (j,false)⟩::rest) PQ w0 L f:=XV (kS hj hx) hnd hev hd next
theorem mq{op j e b g}(hev:gj (g&&b) c w0 L f op ty v)(hj:(ops.map (·.dst))[j]?=some (some e))(hx:f e=gv g (.bool b))(hnd:ew op=false)(hd:Nat.blt d c.N=true)(next:XL dr c ops rest PQ w0 L (kV f d (gv (g&&b) v))):XL dr c ops (⟨some d,op,ty,pos,af,some (j,true)⟩::rest) PQ w0 L f:=XV (G4 hj hx) hnd hev hd next
theorem iv{op j e b g}(hev:gj (g&&!b) c w0 L f op ty v)(hj:(ops.map (·.dst))[j]?=some (some e))(hx:f e=gv g (.bool b))(hnd:ew op=false)(hd:Nat.blt d c.N=true)(next:XL dr c ops rest PQ w0 L (kV f d (gv (g&&!b) v))):XL dr c ops (⟨some d,op,ty,pos,af,some (j,false)⟩::rest) PQ w0 L f:=XV (zC hj hx) hnd hev hd next
section
variable {op:Op} {k:FuncId} {args:Array Value}
theorem xC (hen:lV true c w0 L f op ty k args) (hc:true=true-> ∀w,Mem w0 L w->Calls c.P k args w λe w'=>e= .returned v/\fM w w') (hnd:ew op=false) (hd:Nat.blt d c.N=true) (next:XL dr c ops rest PQ w0 L (kV f d v)):XL dr c ops (⟨some d,op,ty,pos,af,none⟩::rest) PQ w0 L f:=XC AY hnd hen hd hc (by rw [px];exact next)
theorem Hg{j e b}(hen:lV b c w0 L f op ty k args)(hc:b=true-> ∀w,Mem w0 L w->Calls c.P k args w λe w'=>e= .returned v/\fM w w')(hj:(ops.map (·.dst))[j]?=some (some e))(hx:f e= .bool b)(hnd:ew op=false)(hd:Nat.blt d c.N=true)(next:XL dr c ops rest PQ w0 L (kV f d (gv b v))):XL dr c ops (⟨some d,op,ty,pos,af,some (j,true)⟩::rest) PQ w0 L f:=XC (vM hj hx) hnd hen hd hc next
theorem AE{j e b}(hen:lV (!b) c w0 L f op ty k args)(hc:(!b)=true-> ∀w,Mem w0 L w->Calls c.P k args w λe w'=>e= .returned v/\fM w w')(hj:(ops.map (·.dst))[j]?=some (some e))(hx:f e= .bool b)(hnd:ew op=false)(hd:Nat.blt d c.N=true)(next:XL dr c ops rest PQ w0 L (kV f d (gv (!b) v))):XL dr c ops (⟨some d,op,ty,pos,af,some (j,false)⟩::rest) PQ w0 L f:=XC (kS hj hx) hnd hen hd hc next
theorem Ue{j e b g}(hen:lV (g&&!b) c w0 L f op ty k args)(hc:(g&&!b)=true-> ∀w,Mem w0 L w->Calls c.P k args w λe w'=>e= .returned v/\fM w w')(hj:(ops.map (·.dst))[j]?=some (some e))(hx:f e=gv g (.bool b))(hnd:ew op=false)(hd:Nat.blt d c.N=true)(next:XL dr c ops rest PQ w0 L (kV f d (gv (g&&!b) v))):XL dr c ops (⟨some d,op,ty,pos,af,some (j,false)⟩::rest) PQ w0 L f:=XC (zC hj hx) hnd hen hd hc next
theorem oD {α:Type} {val:α->Value} {Lx:α->List Item} (hen:lV true c w0 L f op ty k args) (hc: ∀w,Mem w0 L w->Calls c.P k args w λe w'=> ∃x:α,e= .returned (val x)/\Mem w (Lx x) w') (hd:Nat.blt d c.N=true) (hmk: ∀x,marks (Lx x)=[]) (next: ∀x,XL false c ops rest PQ w0 (Lx x++L) (kV f d (val x))) (hnd:ew op=false:=by rfl):
  XL false c ops (⟨some d,op,ty,pos,af,none⟩::rest) PQ w0 L f:=P2 hnd hen hd hc hmk next
end
end
def jS (w:World) (b o:Nat) (cs:List Value):Prop:= ∀j u,cs[j]?=some u->w.cell? ⟨b,o+j,none⟩=some u
section
variable {c:Cx} {w0:World} {L:List Item} {f:Fr} {ty:TypeId} {g:Bool} {v:Value} {x y:Operand}
theorem te(v):ev f (.const v)=v:=rfl
theorem Pp(k):ev f (.func k)= .func (.func k) #[] #[]:=rfl
theorem ay (hx:gH g f x v):gj g c w0 L f (.move x) ty v:=λe _ _ _ _ w _=>by simp [execOp,hx e]
theorem aU (hx:gH g f x v):gj g c w0 L f (.assign x) ty v:=λe _ _ _ _ w _=>by simp [execOp,hx e]
theorem jJ{b z g2}(hx:gH g f x (.bool b))(hy:ev f y=gv g2 (.bool z))(hg:g=true->g2=!b):gj g c w0 L f (.pick x (.const (.bool true)) y) ty (.bool (b||z)):=λe _ _ _ _ w _=>by
 have h1:=hx e
 have h2:=hg e
 cases b
 ·simp [execOp,h1,hy,h2,gv,asBool]
 simp [execOp,h1,asBool,te]
theorem fH{b z g2}(hx:gH g f x (.bool b))(hy:ev f y=gv g2 (.bool z))(hg:g=true->g2=b):gj g c w0 L f (.pick x y (.const (.bool false))) ty (.bool (b&&z)):=λe _ _ _ _ w _=>by
 have h1:=hx e
 have h2:=hg e
 cases b
 ·simp [execOp,h1,asBool,te]
 simp [execOp,h1,hy,h2,gv,asBool]
section
variable {t t2:TypeId} {m n:Int}
theorem gK{k}(hx:gH g f x (.int k m))(hy:gH g f y (.int k n)):gj g c w0 L f (.binOp .lss t x y t2) ty (.bool (decide (m<n))):=λe _ _ _ _ w _=>by
 simp [execOp,hx e,hy e,eqGuard,binOp,Op.intCmp]
theorem tg{k}(hx:gH g f x (.int k m))(hy:gH g f y (.int k n)):gj g c w0 L f (.binOp .leq t x y t2) ty (.bool (decide (m<=n))):=λe _ _ _ _ w _=>by
 simp [execOp,hx e,hy e,eqGuard,binOp,Op.intCmp]
theorem uY{k}(hx:gH g f x (.int k m))(hy:gH g f y (.int k n)):gj g c w0 L f (.binOp .gtr t x y t2) ty (.bool (decide (n<m))):=λe _ _ _ _ w _=>by
 simp [execOp,hx e,hy e,eqGuard,binOp,Op.intCmp]
theorem CQ{k}(hx:gH g f x (.int k m))(hy:gH g f y (.int k n)):gj g c w0 L f (.binOp .geq t x y t2) ty (.bool (decide (n<=m))):=λe _ _ _ _ w _=>by
 simp [execOp,hx e,hy e,eqGuard,binOp,Op.intCmp]
theorem jE{k}(hx:gH g f x (.int k m))(hy:gH g f y (.int k n)):gj g c w0 L f (.binOp .eql t x y t2) ty (.bool (decide (m=n))):=λe _ _ _ _ w _=>by
 simp [execOp,hx e,hy e,eqGuard,binOp,Op.intCmp]
 rfl
theorem ki{k}(hx:gH g f x (.int k m))(hy:gH g f y (.int k n)):gj g c w0 L f (.binOp .neq t x y t2) ty (.bool (!decide (m=n))):=λe _ _ _ _ w _=>by
 simp [execOp,hx e,hy e,eqGuard,binOp,Op.intCmp]
 rfl
theorem eT(hx:gH g f x (.int .i64 m))(hy:gH g f y (.int .i64 n)){r}(hr:g=true->m+n=r/\ -9223372036854775808<=r/\r<=9223372036854775807):gj g c w0 L f (.binOp .add t x y t2) ty (.int .i64 r):=λe _ _ _ _ w _=>by
 obtain ⟨rfl,h1,h2⟩:=hr e
 simp [execOp,hx e,hy e,eqGuard,binOp,Op.intArith,IntWalk.i64_in _ ⟨h1,h2⟩]
theorem rK(hx:gH g f x (.int .i64 m))(hy:gH g f y (.int .i64 n)){r}(hr:g=true->m -n=r/\ -9223372036854775808<=r/\r<=9223372036854775807):gj g c w0 L f (.binOp .sub t x y t2) ty (.int .i64 r):=λe _ _ _ _ w _=>by
 obtain ⟨rfl,h1,h2⟩:=hr e
 simp [execOp,hx e,hy e,eqGuard,binOp,Op.intArith,IntWalk.i64_in _ ⟨h1,h2⟩]
theorem Nc(hx:gH g f x (.int .i64 m))(hy:gH g f y (.int .i64 n)){r}(hr:g=true->m*n=r/\ -9223372036854775808<=r/\r<=9223372036854775807):gj g c w0 L f (.binOp .mul t x y t2) ty (.int .i64 r):=λe _ _ _ _ w _=>by
 obtain ⟨rfl,h1,h2⟩:=hr e
 simp [execOp,hx e,hy e,eqGuard,binOp,Op.intArith,IntWalk.i64_in _ ⟨h1,h2⟩]
theorem wD (hx:gH g f x (.int .i64 m)) (hy:gH g f y (.int .i64 n)) (hr:g=true->0<=m/\m<=9223372036854775807/\0<n):gj g c w0 L f (.binOp .quo t x y t2) ty (.int .i64 (m/n)):=λe _ _ _ _ w _=>by
 obtain ⟨h1,h2,h3⟩:=hr e
 have hz: ¬n=0:=by omega
 have hq:m.tdiv n=m/n:=T4 h1
 have h4:0<=m/n:=Int.ediv_nonneg h1 (by omega)
 have h5:m/n<=m:=Int.ediv_le_self _ h1
 simp [execOp,hx e,hy e,eqGuard,binOp,Op.intDiv,hz,hq,IntWalk.i64_in _ (show -9223372036854775808<=m/n/\m/n<=9223372036854775807 by omega)]
theorem Jm (hx:gH g f x (.int .i64 m)) (hy:gH g f y (.int .i64 n)) (hr:g=true->0<=m/\0<n):gj g c w0 L f (.binOp .rem t x y t2) ty (.int .i64 (m%n)):=λe _ _ _ _ w _=>by
 obtain ⟨h1,h3⟩:=hr e
 have hz: ¬n=0:=by omega
 simp [execOp,hx e,hy e,eqGuard,binOp,Op.intDiv,hz,Int.tmod_eq_emod_of_nonneg h1]
end
theorem Ni{a b t t2}(ht:c.P.underlying t=some .bool)(hx:gH g f x (.bool a))(hy:gH g f y (.bool b)):gj g c w0 L f (.binOp .eql t x y t2) ty (.bool (a==b)):=λe _ _ _ _ w _=>by
 simp [execOp,hx e,hy e,eqGuard,binOp,run_equal_bool (w:=w) t a b ht,Result.andThen]
theorem TM{a b t t2}(ht:c.P.underlying t=some .bool)(hx:gH g f x (.bool a))(hy:gH g f y (.bool b)):gj g c w0 L f (.binOp .neq t x y t2) ty (.bool (!(a==b))):=λe _ _ _ _ w _=>by
 simp [execOp,hx e,hy e,eqGuard,binOp,run_equal_bool (w:=w) t a b ht,Result.andThen]
theorem oz{t b}(hx:gH g f x (.bool b)):gj g c w0 L f (.unOp .not t x) ty (.bool (!b)):=λe _ _ _ _ w _=>by simp [execOp,hx e,Op.unary]
theorem addr_add(b o k):(⟨b,o,none⟩:Addr).add k=⟨b,o+k,none⟩:=by
 unfold Addr.add;split
 ·rename_i h;subst h;rfl
 rfl
theorem az{t i b o sz fs fl}(ht:c.P.underlying t=some (.struct fs))(hf:fs[i]?=some fl)(hs: ∀w,(sizeOf fl.type).run c.P w= .ok sz w)(hz:Nat.blt 0 sz=true)(hx:gH g f x (.pointer (some ⟨b,o,none⟩))):
  gj g c w0 L f (.fieldAddr t x i) ty (.pointer (some ⟨b,o+fl.offset,none⟩)):=λe _ _ _ _ w _=>by
 have hne:sz≠0:=by have:=(Nat.blt_eq▸hz:0<sz);omega
 simp [execOp,hx e,Instr.fieldAt,run_underlying ht,hf,Instr.sureAddr,fieldPlace,hs,hne,addr_add,Result.andThen]
theorem gB{t p}(ht: ∀w,(isAgg t).run c.P w= .ok false w)(hx:gH g f x (.pointer (some p)))(hc:g=true-> ∀w,Mem w0 L w->w.cell? p=some v):gj g c w0 L f (.load t x) ty v:=λe _ _ _ _ w hw=>by
 simp [execOp,hx e,Instr.loadAt,Instr.sureAddr,loadVar,ht,Result.andThen,load,Sem.run,hc e w hw]
theorem run_loadCellsFrom{P w b o}: ∀(n i:Nat) (acc:Array Value) (vs:List Value),vs.length=n->(∀j u,vs[j]?=some u->w.cell? ⟨b,o+(i+j),none⟩=some u)->
  (loadCellsFrom ⟨b,o,none⟩ i n acc).run P w= .ok (acc++vs.toArray) w
 |0,i,acc,vs,hl,_=>by
  have:vs=[]:=dR hl
  subst this
  simp [loadCellsFrom]
 |n+1,i,acc,vs,hl,hc=>by
  cases vs with
  |nil=>simp at hl
  |cons u vs=>
   have h0:=hc 0 u rfl
   simp only [pN] at h0
   have ih:=run_loadCellsFrom (P:=P) (w:=w) (b:=b) (o:=o) n (i+1) (acc.push u) vs (by simpa using hl) (λj x hx=>by
    have:=hc (j+1) x (by simpa using hx)
    rwa [show i+(j+1)=i+1+j by omega] at this)
   simp [loadCellsFrom,load,addr_add,Sem.run,h0,Result.andThen,ih]
theorem iV{t b o n}{vs:List Value}(ht: ∀w,(isAgg t).run c.P w= .ok true w)(hs: ∀w,(sizeOf t).run c.P w= .ok n w)(hx:gH g f x (.pointer (some ⟨b,o,none⟩)))(hc:g=true-> ∀w,Mem w0 L w-> ∀j u,vs[j]?=some u->w.cell? ⟨b,o+j,none⟩=some u)(hl:vs.length=n):gj g c w0 L f (.load t x) ty (.agg vs.toArray):=λe _ _ _ _ w hw=>by
 have:=run_loadCellsFrom (P:=c.P) (w:=w) (b:=b) (o:=o) n 0 #[] vs hl (λj u hu=>by rw [fq];exact hc e w hw j u hu)
 simp [execOp,hx e,Instr.loadAt,Instr.sureAddr,loadVar,ht,hs,Result.andThen,loadCells,this]
theorem cx{t el b o n cp sz m}(j:Nat)(ht:c.P.underlying t=some (.slice el))(hs: ∀w,(sizeOf el).run c.P w= .ok sz w)(hx:gH g f x (.slice (some ⟨b,o,none⟩) n cp))(hy:gH g f y (.int .i64 m))(hm:g=true->m=(j:Int)/\j<n):
  gj g c w0 L f (.indexAddr t x y) ty (.pointer (some ⟨b,o+j*sz,none⟩)):=λe _ _ _ _ w _=>by
 obtain ⟨rfl,hj⟩:=hm e
 have h1:(0:Int)<=(j:Int)/\(j:Int)<(n:Int):=by omega
 simp [execOp,hx e,hy e,Instr.indexAt,asIntOf,run_underlying ht,hs,Result.andThen,addr_add,hj]
theorem dw{t el A n cp}(ht:c.P.underlying t=some (.slice el))(hx:gH g f x (.slice A n cp)):gj g c w0 L f (.call {callee:= .builtin .len,args:= #[x],argTypes:= #[t]}) ty (.int .i64 n):=λe _ _ _ _ w _=>by
 simp [execOp,resolve,invoke,builtin,hx e,Builtin.len_,run_underlying ht,Result.andThen,goInt]
theorem Nd{t1 t2 m n}(hx:gH g f x (.int .i64 m))(hy:gH g f y (.int .i64 n)):gj g c w0 L f (.call {callee:= .builtin .min,args:= #[x,y],argTypes:= #[t1,t2]}) ty (.int .i64 (if n<m then n else m)):=λe _ _ _ _ w _=>by
 simp [execOp,resolve,invoke,builtin,hx e,hy e,Builtin.min_,Builtin.min2]
theorem Qo{t1 t2 m n}(hx:gH g f x (.int .i64 m))(hy:gH g f y (.int .i64 n)):gj g c w0 L f (.call {callee:= .builtin .max,args:= #[x,y],argTypes:= #[t1,t2]}) ty (.int .i64 (if m<n then n else m)):=λe _ _ _ _ w _=>by
 simp [execOp,resolve,invoke,builtin,hx e,hy e,Builtin.max_,Builtin.max2]
theorem iW{i vs}(hx:gH g f x (.tuple vs))(hi:vs[i]?=some v):gj g c w0 L f (.extract x i) ty v:=λe _ _ _ _ w _=>by simp [execOp,hx e,Instr.extract,hi]
theorem yP (ao:Array Operand):ao.map (ev f)=(ao.toList.map (ev f)).toArray:=by rw [<-List.map_toArray]
theorem AA{k ao}:gj g c w0 L f (.makeFunc (.func k) #[] ao) ty (.func (.func k) #[] (ao.toList.map (ev f)).toArray):=λ_ _ _ _ _ w _=>by simp [execOp,Instr.makeFunc,yP]
theorem bx(k:Nat){b i t cs}(hk:L[k]?=some (box b t cs))(hi:cs[i]?=some v):g=true-> ∀w,Mem w0 L w->w.cell? ⟨b,i,none⟩=some v:=λ_ _ hw=>jR hw hk hi
theorem xc{p}(h:w0.cell? p=some v)(hb:p.block<w0.heap.size):g=true-> ∀w,Mem w0 L w->w.cell? p=some v:=λ_ _ hw=>(hw.1.cell hb).trans h
theorem rV(k:Nat){b t cs}(hk:L[k]?=some (box b t cs)):g=true-> ∀w,Mem w0 L w-> ∀j u,cs[j]?=some u->w.cell? ⟨b,0+j,none⟩=some u:=λ_ _ hw j u hu=>by rw [fq];exact jR hw hk hu
theorem rc{b o j cs}(h:jS w0 b o cs)(hb:b<w0.heap.size)(hj:cs[j]?=some v):g=true-> ∀w,Mem w0 L w->w.cell? ⟨b,o+j,none⟩=some v:=xc (h j v hj) hb
theorem HD{b o cs}(h:jS w0 b o cs)(hb:b<w0.heap.size)(hj:cs[0]?=some v):g=true-> ∀w,Mem w0 L w->w.cell? ⟨b,o,none⟩=some v:=xc (h 0 v hj) hb
theorem EY{b o cs}(h:jS w0 b o cs)(hb:b<w0.heap.size):g=true-> ∀w,Mem w0 L w-> ∀j u,cs[j]?=some u->w.cell? ⟨b,o+j,none⟩=some u:=λ_ _ hw j u hu=>(hw.1.cell (p:=⟨b,o+j,none⟩) hb).trans (h j u hu)
theorem q0{x}(h:ev f x=v):gH g f x v:=Up h
theorem q1{x}(h:ev f x=gv g v):gH g f x v:=Uo h
theorem q2{h' x}(h:ev f x=gv g v):gH (g&&h') f x v:=Un h
theorem iQ{x1 v1}(h1:gH g f x1 v1):g=true->(#[x1]:Array Operand).toList.map (ev f)=[v1]:=λe=>by simp [h1 e]
theorem jn{x1 x2 v1 v2}(h1:gH g f x1 v1)(h2:gH g f x2 v2):g=true->(#[x1,x2]:Array Operand).toList.map (ev f)=[v1,v2]:=λe=>by simp [h1 e,h2 e]
theorem nS{x1 x2 x3 v1 v2 v3}(h1:gH g f x1 v1)(h2:gH g f x2 v2)(h3:gH g f x3 v3):g=true->(#[x1,x2,x3]:Array Operand).toList.map (ev f)=[v1,v2,v3]:=λe=>by simp [h1 e,h2 e,h3 e]
theorem Gf{x1 x2 x3 x4 v1 v2 v3 v4}(h1:gH g f x1 v1)(h2:gH g f x2 v2)(h3:gH g f x3 v3)(h4:gH g f x4 v4):g=true->(#[x1,x2,x3,x4]:Array Operand).toList.map (ev f)=[v1,v2,v3,v4]:=λe=>by simp [h1 e,h2 e,h3 e,h4 e]
theorem H4:g=true->(#[]:Array Operand).toList.map (ev f)=[]:=λ_=>rfl
theorem en{k ao ts al}(he: ∀args w,(callFunc k args).run c.P w= .ok (.enter k args) w)(ha:g=true->ao.toList.map (ev f)=al):
  lV g c w0 L f (.call {callee:= .value (.func k),args:=ao,argTypes:=ts}) ty k al.toArray:=λe _ _ _ _ w _=>by
 have ha:=ha e
 have ha:ao.map (ev f)=al.toArray:=by rw [yP,ha]
 simp [execOp,resolve,Pp,Deferred.ofValue,invoke,ha,he]
theorem vU{k ao ts al cap t}(he: ∀args w,(callFunc k args).run c.P w= .ok (.enter k args) w)(ht:gH g f (.tmp t) (.func (.func k) #[] cap.toArray))(ha:g=true->ao.toList.map (ev f)++cap=al):
  lV g c w0 L f (.call {callee:= .value (.tmp t),args:=ao,argTypes:=ts}) ty k al.toArray:=λe _ _ _ _ w _=>by
 have ha:ao.map (ev f)++cap.toArray=al.toArray:=by rw [yP,<-ha e];simp
 simp [execOp,resolve,ht e,Deferred.ofValue,invoke,ha,he]
end
section
variable {c:Cx} {PQ:PJ} {w0:World} {L:List Item} {f:Fr} {ops rest:List Oper} {d:Nat} {ty:TypeId} {pos:String} {af:Array Edge} {x y:Operand}
theorem cd{t v}(hx:ev f x=v)(hd:Nat.blt d c.N=true)(next: ∀b,XL false c ops rest PQ w0 (box b t v.cells.toList::L) (kV f d (.pointer (some ⟨b,0,none⟩)))):
  XL false c ops (⟨some d, .box t x,ty,pos,af,none⟩::rest) PQ w0 L f:=
 EV rfl hd λw hw=>⟨.pointer (some ⟨w.heap.size,0,none⟩),w.alloc (.cells v.cells t),box w.heap.size t v.cells.toList::L,by simp [execOp,hx,Instr.box,newVar,newRow,Result.andThen],by simpa using hw.wP t v.cells.toList,rfl,next _⟩
theorem bS{t v}(hz: ∀w,(zeroValue t).run c.P w= .ok v w)(hd:Nat.blt d c.N=true)(next: ∀b,XL false c ops rest PQ w0 (box b t v.cells.toList::L) (kV f d (.pointer (some ⟨b,0,none⟩)))):
  XL false c ops (⟨some d, .alloc t,ty,pos,af,none⟩::rest) PQ w0 L f:=
 EV rfl hd λw hw=>⟨.pointer (some ⟨w.heap.size,0,none⟩),w.alloc (.cells v.cells t),box w.heap.size t v.cells.toList::L,by simp [execOp,hz,Instr.alloc,newVar,newRow,Result.andThen],by simpa using hw.wP t v.cells.toList,rfl,next _⟩
def setAt:List Value->Nat->List Value->List Value
 |cs,_,[]=>cs
 |cs,i,v::r=>setAt (cs.set i v) (i+1) r
def kK:Value->Bool
 | .agg _=>false
 | .tuple _=>false
 |_=>true
theorem my{P w0 b o k t}: ∀(vs:List Value) (i:Nat) (cs:List Value) (w:World) (L:List Item),Mem w0 L w->L[k]?=some (box b t cs)->vs.all kK=true->o+i+vs.length<=cs.length->
  ∃w',(storeCells ⟨b,o,none⟩ vs i).run P w= .ok () w'/\Mem w0 (L.set k (box b t (setAt cs (o+i) vs))) w'
 |[],i,cs,w,L,hw,hk,_,_=>⟨w,by simp [storeCells],by
  have hi:L.set k (box b t cs)=L:=by
   obtain ⟨h1,h2⟩:=ai.1 hk
   rw [<-h2];exact pO h1
  show Mem w0 (L.set k (box b t cs)) w
  rw [hi];exact hw⟩
 |v::r,i,cs,w,L,hw,hk,h1,hl=>by
  simp only [sG,de] at h1
  simp only [cL] at hl
  have hlt:o+i<cs.length:=by omega
  have hc:w.cell? ⟨b,o+i,none⟩=some cs[o+i]:=jR hw hk (ah hlt)
  have hf:w.frozen? ⟨b,o+i,none⟩=false:=GS hw hk _
  have hw1:=Jz hw hk (o+i) v
  have hk1:(L.set k (box b t (cs.set (o+i) v)))[k]?=some (box b t (cs.set (o+i) v)):=by
   grind
  obtain ⟨w',hr,hm⟩:=my (P:=P) (o:=o) r (i+1) (cs.set (o+i) v) (w.setCell ⟨b,o+i,none⟩ v) _ hw1 hk1 h1.2 (by simp;omega)
  refine ⟨w',?_,?_⟩
  ·have hst:(store ⟨b,o+i,none⟩ v).run P w= .ok () (w.setCell ⟨b,o+i,none⟩ v):=by
    have h2:=h1.1
    cases v<;>simp [kK] at h2<;>simp [store,Sem.run,hc,hf]
   simp [storeCells,addr_add,hst,Result.andThen,hr]
  rw [gV] at hm
  exact hm
theorem PY(k){t tb v b o n cs}(hx:ev f x= .pointer (some ⟨b,o,none⟩))(hy:ev f y=v)(hs: ∀w,(sizeOf t).run c.P w= .ok n w)(hn:v.cells.size=n)(h1:v.cells.toList.all kK=true)(hk:L[k]?=some (box b tb cs))(hl:Nat.ble (o+v.cells.toList.length) cs.length=true)(next:XL false c ops rest PQ w0 (L.set k (box b tb (setAt cs o v.cells.toList))) f):
  XL false c ops (⟨none, .store t x y,ty,pos,af,none⟩::rest) PQ w0 L f:=
 Qu rfl λw hw=>by
  obtain ⟨w',hr,hm⟩:=my (P:=c.P) (o:=o) v.cells.toList 0 cs w L hw hk h1 (dW hl)
  exact ⟨w',_,by simp [execOp,hx,hy,Instr.storeAt,Instr.sureAddr,storeVar,hs,hn,hr,Result.andThen],hm,hG hk rfl,next⟩
end
end Go.Proofs.E
namespace Go.Proofs.E
open Go Go.RowKit
theorem jS.below{w w' b o cs}(h:jS w b o cs)(hb:b<w.heap.size)(hbel:fM w w'):jS w' b o cs:=λj u hu=>(hbel.cell (p:=⟨b,o+j,none⟩) hb).trans (h j u hu)
theorem rM{a:Addr}(h:a.spot=none){i}:a.add i=⟨a.block,a.off+i,none⟩:=by
 cases a
 simp at h
 subst h
 simp only [Addr.add]
 split
 ·rename_i h;subst h;rfl
 rfl
def eG {α:Type} (w:World) (k:Nat) (enc:α->List Value) (A:Option Addr) (n:Nat) (xs:List α):Prop:=
 xs.length=n/\n<=9223372036854775807/\(0<n-> ∃b off,A=some ⟨b,off,none⟩/\b<w.heap.size/\ ∀i x,xs[i]?=some x->jS w b (off+i*k) (enc x))
theorem eG.below{α w w' k}{enc:α->List Value}{A n xs}(h:eG w k enc A n xs)(hb:fM w w'):eG w' k enc A n xs:=by
 refine ⟨h.1,h.2.1,λhn=>?_⟩
 obtain ⟨b,off,hA,hlt,hc⟩:=h.2.2 hn
 exact ⟨b,off,hA,fZ hlt hb.size,λi x hx=>(hc i x hx).below hlt hb⟩
theorem eG.mem{α w0 w L k}{enc:α->List Value}{A n xs}(h:eG w0 k enc A n xs)(hm:Mem w0 L w):eG w k enc A n xs:=h.below hm.1
theorem eG.at_{α w k}{enc:α->List Value}{A n xs i}(h:eG w k enc A n xs)(hi:i<n):
  ∃b off x,A=some ⟨b,off,none⟩/\b<w.heap.size/\xs[i]?=some x/\jS w b (off+i*k) (enc x):=by
 obtain ⟨b,off,hA,hlt,hc⟩:=h.2.2 (by omega)
 have hl:i<xs.length:=by have:=h.1;omega
 exact ⟨b,off,xs[i],hA,hlt,ah hl,hc i _ (ah hl)⟩
theorem eG.row {α:Type} {w:World} {k:Nat} {enc:α->List Value} {b off n:Nat} {xs:List α} {i:Nat} (h:eG w k enc (some ⟨b,off,none⟩) n xs) (hi:i<n):
  ∃x,xs[i]?=some x/\jS w b (off+i*k) (enc x):=by
 obtain ⟨b',off',x,hA,_,hx,hr⟩:=h.at_ hi
 grind
def eQ (x:Int):List Value:=[.int .i64 x]
theorem cg{a b}(h:a=b):Ending.returned (.int .i64 a)= .returned (.int .i64 b):=by rw [h]
theorem fK{a b}(h:a=b):Ending.returned (.bool a)= .returned (.bool b):=by rw [h]
theorem qx: ∀(vs:List Value) (cs:List Value) (i:Nat),(setAt cs i vs).length=cs.length
 |[],_,_=>rfl
 |v::r,cs,i=>by simp [setAt,qx r]
theorem E7(off): ∀(vs:List Value) (i:Nat) (cs:Array Value),((vs.zipIdx i).foldl (λcs (p:Value×Nat)=>cs.setIfInBounds (off+p.2) p.1) cs)=(setAt cs.toList (off+i) vs).toArray
 |[],_,cs=>by simp [setAt]
 |v::r,i,cs=>by
  simp only [List.zipIdx_cons,eh]
  rw [E7 off r (i+1) (cs.setIfInBounds (off+i) v)]
  simp [setAt,kf]
def tt (f:Fr):List (Nat×Operand)->List (Nat×Value)->Prop
 |[],[]=>True
 |p::ps,q::vs=>p.1=q.1/\ev f p.2=q.2/\tt f ps vs
 |_,_=>False
theorem tt.map{f}: ∀{ps:List (Nat×Operand)} {vs:List (Nat×Value)},tt f ps vs->ps.map (λp=>(p.1,ev f p.2))=vs
 |[],[],_=>rfl
 |(i,x)::ps,(j,v)::vs,⟨h1,h2,h3⟩=>by
  have:=tt.map h3
  simp only at h1 h2
  simp [h1,h2,this]
theorem pt{f i x v ps vs}(h:ev f x=v)(hr:tt f ps vs):tt f ((i,x)::ps) ((i,v)::vs):=⟨rfl,h,hr⟩
theorem p0{f}:tt f [] []:=trivial
def JA (pl:List (Nat×Nat)):List Value->List (Nat×Value)->List Value
 |cs,[]=>cs
 |cs,(i,v)::r=>JA pl (setAt cs (pl.getD i (0,0)).1 v.cells.toList) r
def u9 (pl:List (Nat×Nat)) (n:Nat):List (Nat×Value)->Bool
 |[]=>true
 |(i,v)::r=>(match pl[i]? with|some (off,size)=>Nat.beq v.cells.toList.length size&&Nat.ble (off+v.cells.toList.length) n|none=>false)&&u9 pl n r
theorem s8(pl place)(hp: ∀i q,pl[i]?=some q->place i=some q): ∀(vs:List (Nat×Value)) (cs:Array Value),u9 pl cs.size vs=true->Instr.fill place cs vs=some (JA pl cs.toList vs).toArray
 |[],cs,_=>by simp [Instr.fill,JA]
 |(i,v)::r,cs,h=>by
  simp only [u9,de] at h
  obtain ⟨h1,h2⟩:=h
  cases hq:pl[i]? with
  |none=>rw [hq] at h1;cases h1
  |some q=>
   obtain ⟨off,size⟩:=q
   rw [hq] at h1
   simp only [de] at h1
   have e1:v.cells.size=size:=by have:=pM h1.1;simpa using this
   have e2:off+v.cells.size<=cs.size:=by have:=dW h1.2;simpa using this
   have hpi:place i=some (off,size):=hp i _ hq
   have hf:v.cells.zipIdx.foldl (λcs (p:Value×Nat)=>cs.setIfInBounds (off+p.2) p.1) cs=(setAt cs.toList off v.cells.toList).toArray:=by
    have:=E7 off v.cells.toList 0 cs
    rw [pN] at this
    rw [<-this,<-Array.foldl_toList]
    simp
   have ih:=s8 pl place hp r (setAt cs.toList off v.cells.toList).toArray (by simpa [qx] using h2)
   simp only [Instr.fill,hpi]
   grind [u9,JA]
section
variable {c:Cx} {w0:World} {L:List Item} {f:Fr} {ty:TypeId}
def df (P:Program) (fs:Array Field) (pl:List (Nat×Nat)):Prop:= ∀w,((fs.mapM λf=>Prod.mk f.offset<$>sizeOf f.type):Sem (Array (Nat×Nat))).run P w= .ok pl.toArray w
theorem bN{t fs pl parts vs z}(ht:c.P.underlying t=some (.struct fs))(hf:df c.P fs pl)(hz: ∀w,(zeroValue t).run c.P w= .ok z w)(hp:tt f parts vs)(hok:u9 pl z.cells.toList.length vs=true):gj true c w0 L f (.build t parts.toArray) ty (.agg (JA pl z.cells.toList vs).toArray):=λ_ _ _ _ _ w _=>by
 have h2:=s8 pl (λi=>pl[i]?) (λ_ _ h=>h) vs z.cells (by simpa using hok)
 have h3:=hf w
 simp [execOp,Instr.build,hz,run_underlying ht,h3,Result.andThen,hp.map,h2]
end
section
variable {c:Cx} {PQ:PJ} {w0:World} {L:List Item} {f:Fr} {ops rest:List Oper} {d:Nat} {ty:TypeId} {pos:String} {af:Array Edge}
def nn (size:Nat) (len:Nat):List (Nat×Nat):=(List.range len).map λi=>(i*size,size)
theorem Fz{size len i q}(h:(nn size len)[i]?=some q):some (i*size,size)=some q:=by
 grind [nn]
theorem Cr{t el len size parts vs z}(ht:c.P.underlying t=some (.array len el))(hs: ∀w,(sizeOf el).run c.P w= .ok size w)(hz: ∀w,(zeroValue t).run c.P w= .ok z w)(hp:tt f parts vs)(hok:u9 (nn size len) z.cells.toList.length vs=true):gj true c w0 L f (.build t parts.toArray) ty (.agg (JA (nn size len) z.cells.toList vs).toArray):=λ_ _ _ _ _ w _=>by
 have h2:=s8 (nn size len) (λi=>some (i*size,size)) (λi q h=>Fz h) vs z.cells (by simpa using hok)
 simp [execOp,Instr.build,hz,run_underlying ht,hs,Result.andThen,hp.map,h2]
theorem CB{t el len size parts vs z}(zs)(ht:c.P.underlying t=some (.slice el))(hs: ∀w,(sizeOf el).run c.P w= .ok size w)(hz: ∀w,(zeroValue el).run c.P w= .ok z w)(hlen:(Nat.ble (len*size) 16777216&&!Nat.beq (len*size) 0)=true)(hzr:(Array.range (len*size)).map (z.cells[· %z.cells.size]!)=zs.toArray)(hp:tt f parts vs)(hok:u9 (nn size len) zs.length vs=true)(hd:Nat.blt d c.N=true)(next: ∀b,XL false c ops rest PQ w0 (box b el (JA (nn size len) zs vs)::L) (kV f d (.slice (some ⟨b,0,none⟩) len len))):XL false c ops (⟨some d, .buildSlice t len parts.toArray,ty,pos,af,none⟩::rest) PQ w0 L f:=
 EV rfl hd λw hw=>⟨.slice (some ⟨w.heap.size,0,none⟩) len len,w.alloc (.cells (JA (nn size len) zs vs).toArray el),box w.heap.size el (JA (nn size len) zs vs)::L,by
  rw [de] at hlen
  have h2: ¬len*size>2^24:=by have:=dW hlen.1;omega
  have h0: ¬len*size=0:=by
   intro h
   rw [h] at hlen
   cases hlen.2
  have h3:=s8 (nn size len) (λi=>some (i*size,size)) (λi q h=>by
   unfold nn at h
   rw [cV] at h
   cases hr:(List.range len)[i]? with
   |none=>rw [hr] at h;cases h
   |some y=>
    rw [hr] at h
    have:y=i:=by have:=ai.1 hr;obtain ⟨_,h5⟩:=this;simpa using h5.symm
    subst this
    exact h) vs zs.toArray (by simpa using hok)
  simp [execOp,Instr.buildSlice,run_underlying ht,hs,hz,h2,h0,hp.map,hzr,h3,newRow,Result.andThen],hw.wP el _,rfl,next _⟩
end
theorem Qe{c:Cx}{fn w0 L f}(k:Nat){a n b t tb cs}(hr:fn.results= #[.cell a t])(hv:f a= .pointer (some ⟨b,0,none⟩))(ht: ∀w,(isAgg t).run c.P w= .ok true w)(hs: ∀w,(sizeOf t).run c.P w= .ok n w)(hk:L[k]?=some (box b tb cs))(hl:cs.length=n):vf c.P c.N fn w0 L f (.agg cs.toArray):=λw ds ac hw ha=>by
 have h1:=ha.get a
 rw [hv,eZ] at h1
 have:=run_loadCellsFrom (P:=c.P) (w:=w) (b:=b) (o:=0) n 0 #[] cs hl (λj u hu=>by simpa using jR hw hk hu)
 simp [results,hr,h1,asAddr,loadVar,ht,hs,loadCells,this,Result.andThen]
theorem xx{c:Cx}{fn w0 L f}(k:Nat){a n b u t tb cs x}(hr:fn.results= #[.cell a t, .tmp u])(hv:f a= .pointer (some ⟨b,0,none⟩))(hx:f u=x)(ht: ∀w,(isAgg t).run c.P w= .ok true w)(hs: ∀w,(sizeOf t).run c.P w= .ok n w)(hk:L[k]?=some (box b tb cs))(hl:cs.length=n):vf c.P c.N fn w0 L f (.tuple #[.agg cs.toArray,x]):=λw ds ac hw ha=>by
 have h1:=ha.get a
 rw [hv,eZ] at h1
 have h2:=ha.get u
 rw [hx,eZ] at h2
 have:=run_loadCellsFrom (P:=c.P) (w:=w) (b:=b) (o:=0) n 0 #[] cs hl (λj u hu=>by simpa using jR hw hk hu)
 simp [results,hr,h1,h2,asAddr,loadVar,ht,hs,loadCells,this,Result.andThen]
theorem rD{α:Type}{k}{enc:α->List Value}(he: ∀x,(enc x).length=k): ∀(xs:List α) (i:Nat) (x:α),xs[i]?=some x-> ∀j u,(enc x)[j]?=some u->(xs.flatMap enc)[i*k+j]?=some u
 |[],i,x,h,_,_,_=>by simp at h
 |y::ys,0,x,h,j,u,hu=>by
  grind
 |y::ys,i+1,x,h,j,u,hu=>by
  have:=rD he ys i x (by simpa using h) j u hu
  simp only [nj]
  rw [fu (by rw [he];simp [P7];omega),he,show (i+1)*k+j -k=i*k+j by simp [P7];omega]
  exact this
theorem fj{α w0 w L}{k b j:Nat}{t}{enc:α->List Value}{xs}(hw:Mem w0 L w)(hk:L[j]?=some (box b t (xs.flatMap enc)))(he: ∀x,(enc x).length=k)(hl:xs.length<=9223372036854775807):eG w k enc (some ⟨b,0,none⟩) xs.length xs:=
 ⟨rfl,hl,λ_=>⟨b,0,rfl,(hw.nE hk rfl).2,λi x hx q u hu=>by
  rw [fq]
  exact jR hw hk (rD he xs i x hx q u hu)⟩⟩
end Go.Proofs.E
namespace Go.Proofs.E
open Go Go.RowKit
def Eh (e:MapEntry) (p:Int×Value):Prop:=e.key= .int .i64 p.1/\e.val=p.2
inductive lJ:List MapEntry->List (Int×Value)->Prop
 |nil:lJ [] []
 |cons {e p es ps}:Eh e p->lJ es ps->lJ (e::es) (p::ps)
structure lW (es:List MapEntry) (clock:Nat):Prop where
 K2:es.Pairwise (λa b=>a.born<b.born)
 lt: ∀e∈es,e.born<clock
def mV (w:World) (b:Nat) (ps:List (Int×Value)):Prop:= ∃es clock,w.heap[b]?=some (.map es clock)/\lJ es.toList ps/\lW es.toList clock
theorem lW.push{es c}(h:lW es c){e}(he:e.born=c):lW (es++[e]) (c+1):=
 ⟨iO.2 ⟨h.K2,by simp,λa ha b hb=>by simp at hb;subst hb;rw [he];exact h.lt a ha⟩,λa ha=>by
  rcases bO.1 ha with ha|ha
  ·have:=h.lt a ha;omega
  simp at ha;subst ha;omega⟩
theorem lW.modify{es c j g}(h:lW es c)(hg: ∀e,(g e).born=e.born):lW (es.modify j g) c:=by
 have hm:(es.modify j g).map (·.born)=es.map (·.born):=by
  apply fh
  intro i
  simp only [cV,qv]
  cases es[i]? with
  |none=>rfl
  |some e=>by_cases hi:j=i<;>simp [hi,hg]
 constructor
 ·have h1:(es.map (·.born)).Pairwise (· < ·):=iD.2 h.K2
  rw [<-hm] at h1
  exact iD.1 h1
 intro e he
 have:e.born∈(es.modify j g).map (·.born):=cW.2 ⟨e,he,rfl⟩
 rw [hm] at this
 obtain ⟨e',he',e1⟩:=cW.1 this
 rw [<-e1];exact h.lt e' he'
theorem lW.sub{es es' c}(h:lW es c)(hs:es'.Sublist es):lW es' c:=⟨h.K2.sublist hs,λe he=>h.lt e (hs.mem he)⟩
def lG (ps:List (Int×Value)) (k:Int):Option Value:=(ps.find? (λp=>p.1==k)).map (·.2)
def ou (ps:List (Int×Value)) (k:Int) (v:Value):List (Int×Value):=
 match ps with
 |[]=>[(k,v)]
 |p::r=>if p.1==k then (k,v)::r else p::ou r k v
theorem mV.kept{w w' b ps}(h:mV w b ps)(he:w'.heap[b]?=w.heap[b]?):mV w' b ps:=by
 obtain ⟨es,c,h1,h2⟩:=h
 exact ⟨es,c,he.trans h1,h2⟩
theorem mV.lt{w b ps}(h:mV w b ps):b<w.heap.size:=by
 grind [mV]
theorem mV.setCell{w b ps}(h:mV w b ps)(p v):mV (w.setCell p v) b ps:=by
 obtain ⟨es,c,h1,h2⟩:=h
 refine ⟨es,c,?_,h2⟩
 by_cases e:p.block=b
 ·simp [World.setCell,kl,e,h1]
 simp [World.setCell,kl,e,h1]
theorem mV.made (w:World):mV (w.alloc (.map #[] 0)) w.heap.size []:=by
 exact ⟨#[],0,(MapKept.heap_alloc w _).1, .nil,⟨by simp,by simp⟩⟩
section
variable {P:Program} {t kt et:TypeId}
theorem gX(hk:P.underlying kt=some (.int .i64))(e k w):(Instr.checkKey e 10000 kt (.int .i64 k)).run P w= .ok () w:=by
 rw [show (10000:Nat)=9999+1 from rfl,Instr.checkKey]
 simp [run_underlying hk]
theorem wB(k): ∀(es:List MapEntry) (ps:List (Int×Value)) (i:Nat),lJ es ps->
  (lG ps k=none/\Instr.findNow (.int .i64) (.int .i64 k) es i=some none)\/(∃j v,lG ps k=some v/\Instr.findNow (.int .i64) (.int .i64 k) es i=some (some (i+j,v))/\j<es.length):=by
 intro es
 induction es with
 |nil=>intro ps i h;cases h;exact .inl ⟨rfl,rfl⟩
 |cons e es ih=>
  intro ps i h
  cases h with
  |cons hp hr=>
   rename_i p ps
   obtain ⟨hk,hv⟩:=hp
   by_cases hkk:p.1=k
   ·refine .inr ⟨0,p.2,by simp [lG,hkk],?_,by simp⟩
    simp [Instr.findNow,Instr.sameNow,hk,hkk,hv]
   have hne:(k==p.1)=false:=gk.2 λe=>hkk e.symm
   rcases ih ps (i+1) hr with ⟨h1,h2⟩|⟨j,v,h1,h2,h3⟩
   ·refine .inl ⟨by simpa [lG,hkk] using h1,?_⟩
    simp [Instr.findNow,Instr.sameNow,hk,hne,h2]
   refine .inr ⟨j+1,v,by simpa [lG,hkk] using h1,?_,by simp;omega⟩
   simp [Instr.findNow,Instr.sameNow,hk,hne,h2]
   omega
theorem uc{w b ps z}(ht:P.underlying t=some (.map kt et))(hk:P.underlying kt=some (.int .i64))(hz: ∀w,(zeroValue et).run P w= .ok z w)(h:mV w b ps)(k):(Instr.lookup t (.map (some b)) (.int .i64 k) false).run P w= .ok ((lG ps k).getD z) w:=by
 obtain ⟨es,c,h1,h2⟩:=h
 rcases wB k es.toList ps 0 h2.1 with ⟨ha,hb⟩|⟨j,v,ha,hb,_⟩
 ·simp [Instr.lookup,run_underlying ht,MapKept.run_getObj_map h1,gX hk,run_underlying hk,Instr.findKey,hb,ha,hz,Result.andThen]
 simp [Instr.lookup,run_underlying ht,MapKept.run_getObj_map h1,gX hk,run_underlying hk,Instr.findKey,hb,ha,Result.andThen]
theorem wL{w b ps z}(ht:P.underlying t=some (.map kt et))(hk:P.underlying kt=some (.int .i64))(hz: ∀w,(zeroValue et).run P w= .ok z w)(h:mV w b ps)(k):(Instr.lookup t (.map (some b)) (.int .i64 k) true).run P w= .ok (.tuple #[(lG ps k).getD z, .bool (lG ps k).isSome]) w:=by
 obtain ⟨es,c,h1,h2⟩:=h
 rcases wB k es.toList ps 0 h2.1 with ⟨ha,hb⟩|⟨j,v,ha,hb,_⟩
 ·simp [Instr.lookup,run_underlying ht,MapKept.run_getObj_map h1,gX hk,run_underlying hk,Instr.findKey,hb,ha,hz,Result.andThen]
 simp [Instr.lookup,run_underlying ht,MapKept.run_getObj_map h1,gX hk,run_underlying hk,Instr.findKey,hb,ha,Result.andThen]
theorem Eg(k v): ∀(es:List MapEntry) (ps:List (Int×Value)) (i:Nat),lJ es ps->
  (Instr.findNow (.int .i64) (.int .i64 k) es i=some none/\ou ps k v=ps++[(k,v)])\/
  (∃j x e,Instr.findNow (.int .i64) (.int .i64 k) es i=some (some (i+j,x))/\es[j]?=some e/\e.key= .int .i64 k/\lJ (es.modify j λe=>{e with key:= .int .i64 k,val:=v}) (ou ps k v)):=by
 intro es
 induction es with
 |nil=>intro ps i h;cases h;exact .inl ⟨rfl,rfl⟩
 |cons e es ih=>
  intro ps i h
  cases h with
  |cons hp hr=>
   rename_i p ps
   obtain ⟨hk,hv⟩:=hp
   by_cases hkk:p.1=k
   ·refine .inr ⟨0,e.val,e,?_,rfl,by rw [hk,hkk],?_⟩
    ·simp [Instr.findNow,Instr.sameNow,hk,hkk]
    simp only [ou,hkk,QD,E2]
    exact .cons ⟨rfl,rfl⟩ hr
   have hne:(k==p.1)=false:=gk.2 λe=>hkk e.symm
   rcases ih ps (i+1) hr with ⟨h1,h2⟩|⟨j,x,e',h1,h2,h3,h4⟩
   ·refine .inl ⟨?_,by simp [ou,hkk,h2]⟩
    simp [Instr.findNow,Instr.sameNow,hk,hne,h1]
   refine .inr ⟨j+1,x,e',?_,by simpa using h2,h3,?_⟩
   ·simp [Instr.findNow,Instr.sameNow,hk,hne,h1]
    omega
   simp only [ou,gk.2 hkk,oR,sB,List.modify_succ_cons]
   exact .cons ⟨hk,hv⟩ h4
theorem HN{es ps}(h:lJ es ps){e p}(he:Eh e p):lJ (es++[e]) (ps++[p]):=by
 induction h with
 |nil=>exact .cons he .nil
 |cons h1 _ ih=>exact .cons h1 ih
theorem p7{w b ps}(ht:P.underlying t=some (.map kt et))(hk:P.underlying kt=some (.int .i64))(h:mV w b ps)(k v): ∃w',(Instr.mapUpdate t (.map (some b)) (.int .i64 k) v).run P w= .ok () w'/\mV w' b (ou ps k v)/\w.grownBy w' (some b)/\w'.heap.size=w.heap.size/\w.drawn<=w'.drawn:=by
 have hlt:=h.lt
 obtain ⟨es,c,h1,h2,h3⟩:=h
 have hg: ∀o:Obj,w.grownBy {w with heap:=w.heap.setIfInBounds b o} (some b):=λo=>⟨rfl,rfl,rfl,by simp,λi _ hi=>by
  have hne:b≠i:=λe=>hi (by rw [e])
  exact gF hne⟩
 rcases Eg k v es.toList ps 0 h2 with ⟨ha,hs⟩|⟨j,x,e,ha,he,hek,hm⟩
 ·refine ⟨{w with heap:=w.heap.setIfInBounds b (.map (es.push {key:= .int .i64 k,val:=v,born:=c}) (c+1))},?_,⟨_,_,cZ hlt,?_,by simpa using h3.push rfl⟩,hg _,by simp,bA _⟩
  ·simp [Instr.mapUpdate,run_underlying ht,MapKept.run_getObj_map h1,gX hk,run_underlying hk,Instr.findKey,ha,Result.andThen,MapKept.run_setObj_map _ h1]
  rw [hs];simpa using HN h2 (e:={key:= .int .i64 k,val:=v,born:=c}) (p:=(k,v)) ⟨rfl,rfl⟩
 rw [fq] at ha
 have hej:es[j]?=some e:=by simpa using he
 refine ⟨{w with heap:=w.heap.setIfInBounds b (.map (es.modify j λe=>{e with key:= .int .i64 k,val:=v}) c)},?_,⟨_,_,cZ hlt,?_,by simpa using h3.modify (j:=j) (g:=λe=>{e with key:= .int .i64 k,val:=v}) (λ_=>rfl)⟩,hg _,by simp,bA _⟩
 ·simp [Instr.mapUpdate,run_underlying ht,MapKept.run_getObj_map h1,gX hk,run_underlying hk,Instr.findKey,ha,Result.andThen,MapKept.run_setObj_map _ h1,hej,hek,Instr.keyThatStays,Instr.sameBits]
 simpa using hm
end
def oP (b:Nat) (ps:List (Int×Value)):Item where
 fp:=λx=>x=b
 A:=λw=>mV w b ps
 st:=λ_ _ h hA=>hA.kept (h b rfl)
section
variable {c:Cx} {PQ:PJ} {w0:World} {L:List Item} {f:Fr} {ops rest:List Oper} {d:Nat} {ty:TypeId} {pos:String} {af:Array Edge} {g:Bool} {x y z:Operand} {t kt et:TypeId}
theorem vL (hd:Nat.blt d c.N=true) (next: ∀b,XL false c ops rest PQ w0 (oP b []::L) (kV f d (.map (some b)))):
  XL false c ops (⟨some d, .makeMap t none,ty,pos,af,none⟩::rest) PQ w0 L f:=
 EV rfl hd λw hw=>⟨.map (some w.heap.size),w.alloc (.map #[] 0),oP w.heap.size []::L,by simp [execOp,run_makeMap,Result.andThen],hw.new _ (oP w.heap.size []) (λ_ h=>h) (mV.made w),rfl,next _⟩
theorem EI(k:Nat){b ps key v u}(ht:c.P.underlying t=some (.map kt et))(hkt:c.P.underlying kt=some (.int .i64))(hz: ∀w,(zeroValue et).run c.P w= .ok v w)(hx:gH g f x (.map (some b)))(hy:gH g f y (.int .i64 key))(hk:L[k]?=some (oP b ps))(hu:g=true->(lG ps key).getD v=u):gj g c w0 L f (.lookup t x y false) ty u:=λe _ _ _ _ w hw=>by
 have hA:mV w b ps:=hw.item hk
 simp [execOp,hx e,hy e,uc ht hkt hz hA key,Result.andThen,hu e]
theorem Gv(k:Nat){b ps key v u bb}(ht:c.P.underlying t=some (.map kt et))(hkt:c.P.underlying kt=some (.int .i64))(hz: ∀w,(zeroValue et).run c.P w= .ok v w)(hx:gH g f x (.map (some b)))(hy:gH g f y (.int .i64 key))(hk:L[k]?=some (oP b ps))(hu:g=true->(lG ps key).getD v=u/\(lG ps key).isSome=bb):gj g c w0 L f (.lookup t x y true) ty (.tuple #[u, .bool bb]):=λe _ _ _ _ w hw=>by
 have hA:mV w b ps:=hw.item hk
 simp [execOp,hx e,hy e,wL ht hkt hz hA key,Result.andThen,hu e]
theorem ve(k){b ps key v}(ht:c.P.underlying t=some (.map kt et))(hkt:c.P.underlying kt=some (.int .i64))(hx:ev f x= .map (some b))(hy:ev f y= .int .i64 key)(hz:ev f z=v)(hk:L[k]?=some (oP b ps))(next:XL false c ops rest PQ w0 (L.set k (oP b (ou ps key v))) f):
  XL false c ops (⟨none, .mapUpdate t x y z,ty,pos,af,none⟩::rest) PQ w0 L f:=
 Qu rfl λw hw=>by
  have hA:mV w b ps:=hw.item hk
  obtain ⟨w',hrun,h1,h2,h3,h4⟩:=p7 (P:=c.P) ht hkt hA key v
  refine ⟨w',_,by simp [execOp,hx,hy,hz,hrun,Result.andThen],hw.set (it':=oP b (ou ps key v)) hk (λ_ h=>h) h1 ⟨h2.os,h2.tape,h2.output,h3,h4⟩ (λb' hb'=>?_),hG hk rfl,next⟩
  by_cases hlt:b'<w.heap.size
  ·exact h2.block b' hlt (λe=>hb' (by injection e))
  rw [dC (by omega),dC (by omega)]
end
end Go.Proofs.E
namespace Go.Proofs.E
open Go Go.RowKit
def wN (f:Fr) (dst:Option Nat) (v:Value):Fr:=match dst with|some d=>kV f d v|none=>f
def UH (c:Cx) (w0:World) (L:List Item) (f:Fr) (dst:Option Nat) (w:World) (K:List Item->Fr->Prop):Result Next->Prop
 | .ok (.value v) w'=> ∃L',Mem w0 L' w'/\marks L'=marks L/\K L' (wN f dst v)
 | .ok .skip w'=> ∃L',Mem w0 L' w'/\marks L'=marks L/\K L' (wN f dst undef)
 | .ok (.enter k args) w'=>w'=w/\Calls c.P k args w λe w''=> ∃v L',e= .returned v/\Mem w0 L' w''/\marks L'=marks L/\K L' (wN f dst v)
 |_=>False
def Nl (c:Cx):Option Nat->Bool
 |some d=>Nat.blt d c.N
 |none=>true
structure vO (c:Cx) (w0:World) (L:List Item) (f:Fr) (o:Oper) (K:List Item->Fr->Prop):Prop where
 guard:o.guard=none
 nd:ew o.op=false
 dst:Nl c o.dst=true
 run: ∀w,Mem w0 L w->UH c w0 L f o.dst w K ((execOp (ev f) o).run c.P w)
theorem nH.wN{N D a f}(h:nH N D a f){c}(hc:c.N=N){dst}(hd:Nl c dst=true)(v):nH N D (a.put dst v) (wN f dst v):=by
 subst hc
 cases dst with
 |none=>exact h.FH v
 |some d=>exact h.put hd v
section
variable {c:Cx} {PQ:PJ} {w0:World} {L:List Item} {f:Fr} {ops rest:List Oper} {o:Oper}
theorem cQ (h:vO c w0 L f o λL' f'=>XL false c ops rest PQ w0 L' f'):XL false c ops (o::rest) PQ w0 L f:=by
 intro a w ha hw
 show if _ then _ else _
 rw [aB (by simp [Region.wanted,h.guard])]
 refine ⟨λ_ _=>trivial,?_⟩
 rw [Oper.semAt_eq _ _ _ (lK h.nd),ha.eval]
 have h2:=h.run w hw
 generalize (execOp (ev f) o).run c.P w=r at h2
 cases r with
 |halt x w'=>exact False.elim h2
 |ok x w'=>
  cases x with
  |value v=>obtain ⟨L',hm,hk,hn⟩:=h2;exact hn _ _ (hk▸ha.wN rfl h.dst v) hm
  |skip=>obtain ⟨L',hm,hk,hn⟩:=h2;exact hn _ _ (hk▸ha.wN rfl h.dst undef) hm
  |enter k args=>
   obtain ⟨e,hc⟩:=h2
   subst e
   refine ⟨λh=>by simp [FW] at h,(nF (hc.mono ?_))⟩
   rintro e w'' ⟨v,L',rfl,hm,hk,hn⟩
   exact hn _ _ (hk▸ha.wN rfl h.dst v) hm
  |_=>exact False.elim h2
end
section
variable {c:Cx} {w0:World} {L:List Item} {f:Fr} {K:List Item->Fr->Prop} {d:Nat} {ty:TypeId} {pos:String} {af:Array Edge} {x y z:Operand}
theorem td{t v}(hx:ev f x=v)(hd:Nat.blt d c.N=true)(next: ∀b,K (box b t v.cells.toList::L) (kV f d (.pointer (some ⟨b,0,none⟩)))):vO c w0 L f ⟨some d, .box t x,ty,pos,af,none⟩ K:=
 ⟨rfl,rfl,hd,λw hw=>by
  have:(execOp (ev f) ⟨some d, .box t x,ty,pos,af,none⟩).run c.P w= .ok (.value (.pointer (some ⟨w.heap.size,0,none⟩))) (w.alloc (.cells v.cells t)):=by simp [execOp,hx,Instr.box,newVar,newRow,Result.andThen]
  rw [this]
  exact ⟨box w.heap.size t v.cells.toList::L,by simpa using hw.wP t v.cells.toList,rfl,next _⟩⟩
theorem mO{t v}(hz: ∀w,(zeroValue t).run c.P w= .ok v w)(hd:Nat.blt d c.N=true)(next: ∀b,K (box b t v.cells.toList::L) (kV f d (.pointer (some ⟨b,0,none⟩)))):vO c w0 L f ⟨some d, .alloc t,ty,pos,af,none⟩ K:=
 ⟨rfl,rfl,hd,λw hw=>by
  have:(execOp (ev f) ⟨some d, .alloc t,ty,pos,af,none⟩).run c.P w= .ok (.value (.pointer (some ⟨w.heap.size,0,none⟩))) (w.alloc (.cells v.cells t)):=by simp [execOp,hz,Instr.alloc,newVar,newRow,Result.andThen]
  rw [this]
  exact ⟨box w.heap.size t v.cells.toList::L,by simpa using hw.wP t v.cells.toList,rfl,next _⟩⟩
theorem Po(k){t tb v b o n cs}(hx:ev f x= .pointer (some ⟨b,o,none⟩))(hy:ev f y=v)(hs: ∀w,(sizeOf t).run c.P w= .ok n w)(hn:v.cells.size=n)(h1:v.cells.toList.all kK=true)(hk:L[k]?=some (box b tb cs))(hl:Nat.ble (o+v.cells.toList.length) cs.length=true)(next:K (L.set k (box b tb (setAt cs o v.cells.toList))) f):vO c w0 L f ⟨none, .store t x y,ty,pos,af,none⟩ K:=
 ⟨rfl,rfl,rfl,λw hw=>by
  obtain ⟨w',hr,hm⟩:=my (P:=c.P) (o:=o) v.cells.toList 0 cs w L hw hk h1 (dW hl)
  have:(execOp (ev f) ⟨none, .store t x y,ty,pos,af,none⟩).run c.P w= .ok .skip w':=by simp [execOp,hx,hy,Instr.storeAt,Instr.sureAddr,storeVar,hs,hn,hr,Result.andThen]
  rw [this]
  exact ⟨_,hm,hG hk rfl,next⟩⟩
theorem il{α:Type}{op k args}{val:α->Value}{Lx:α->List Item}(hen:lV true c w0 L f op ty k args)(hc: ∀w,Mem w0 L w->Calls c.P k args w λe w'=> ∃x:α,e= .returned (val x)/\Mem w (Lx x) w')(hd:Nat.blt d c.N=true)(hmk: ∀x,marks (Lx x)=[])(next: ∀x,K (Lx x++L) (kV f d (val x)))(hnd:ew op=false:=by rfl):vO c w0 L f ⟨some d,op,ty,pos,af,none⟩ K:=
 ⟨rfl,hnd,hd,λw hw=>by
  rw [hen rfl _ _ _ _ w hw]
  refine ⟨rfl,(hc w hw).mono ?_⟩
  rintro e w' ⟨x,rfl,hm⟩
  exact ⟨_,_,rfl,hw.Jv hm,by rw [kp,hmk x,ir],next x⟩⟩
end
section
variable {c:Cx} {w0:World} {ops:List Oper}
def Sub (w0:World) (L' L:List Item):Prop:= ∀w,Mem w0 L' w->Mem w0 L w
theorem Mem.sublist{L L' w}(h:Mem w0 L w)(hs:L'.Sublist L):Mem w0 L' w:=by
 grind [Mem]
theorem au(k){L}:Sub w0 L (L.drop k):=λ_ h=>Mem.sublist h (List.drop_sublist _ _)
def T9 (c:Cx) (w0:World) (K:List Item->Act->Prop) (dst:Option Nat) (a:Act) (w:World):Result Next->Prop
 | .ok (.value u) w'=> ∃L',Mem w0 L' w'/\K L' (a.put dst u)
 | .ok .skip w'=> ∃L',Mem w0 L' w'/\K L' (a.put dst undef)
 | .ok (.enter k args) w'=>w'=w/\Calls c.P k args w λe w''=> ∃u L',e= .returned u/\Mem w0 L' w''/\K L' (a.put dst u)
 |_=>False
theorem T9.mono{K K' dst dst' a a' w r}(h: ∀L u,K L (a.put dst u)->K' L (a'.put dst' u))(hh:T9 c w0 K dst a w r):T9 c w0 K' dst' a' w r:=by
 cases r with
 |halt x w'=>exact False.elim hh
 |ok x w'=>
  cases x with
  |value u=>obtain ⟨L',hm,hn⟩:=hh;exact ⟨L',hm,h _ _ hn⟩
  |skip=>obtain ⟨L',hm,hn⟩:=hh;exact ⟨L',hm,h _ _ hn⟩
  |enter k args=>
   obtain ⟨e,hc⟩:=hh
   exact ⟨e,hc.mono λe w'' ⟨u,L',h1,h2,h3⟩=>⟨u,L',h1,h2,h _ _ h3⟩⟩
  |_=>exact False.elim hh
def EU (c:Cx) (ops:List Oper) (w0:World) (j:Nat) (K:List Item->Act->Prop) (L:List Item) (a:Act):Prop:=
 match ops.toArray[j]? with
 |none=>K L a
 |some o=> ∀w,Mem w0 L w->if Region.wanted o (yielded ops.toArray a.tmps) then T9 c w0 K o.dst a w ((execOp a.eval o).run c.P w) else K L (a.put o.dst undef)
def tu (c:Cx) (ops:List Oper) (w0:World) (Lb:List Item) (QA:List Item->Act->Prop):Nat->Array Bool->List Item->Act->Prop
 |0,listed,L,a=>Sub w0 L Lb/\Region.ready .any ops.toArray listed=[]/\QA L a
 |fuel+1,listed,L,a=>Sub w0 L Lb/\(Region.ready .any ops.toArray listed=[]->QA L a)/\ ∀i∈Region.ready .any ops.toArray listed,EU c ops w0 i (tu c ops w0 Lb QA fuel (listed.setIfInBounds i true)) L a
theorem tu.sub{Lb QA}: ∀{fuel:Nat} {listed:Array Bool} {L:List Item} {a:Act},tu c ops w0 Lb QA fuel listed L a->Sub w0 L Lb
 |0,_,_,_,h=>h.1
 |_+1,_,_,_,h=>h.1
theorem EU.mono{j K K' L a}(h: ∀L a,K L a->K' L a)(hh:EU c ops w0 j K L a):EU c ops w0 j K' L a:=by
 unfold EU at*
 cases ho:ops.toArray[j]? with
 |none=>rw [ho] at hh;exact h _ _ hh
 |some o=>
  rw [ho] at hh
  intro w hw
  have h2:=hh w hw
  by_cases hwt:Region.wanted o (yielded ops.toArray a.tmps)=true
  ·rw [aB hwt] at h2|-;exact h2.mono λL u=>h L _
  rw [an hwt] at h2|-;exact h _ _ h2
theorem EU.wpOpIn{j K K' Q' L a w}(hnd: ∀(j:Nat) o,ops.toArray[j]?=some o-> ∀x,o.op≠ .defer x)(hw:Mem w0 L w)(h: ∀L a w,Mem w0 L w->K L a->K' a w)(hh:EU c ops w0 j K L a):
  wpOpIn (FW c.ro) 0 c.P ops.toArray Q' j K' a w:=by
 unfold EU at hh
 unfold Go.wpOpIn
 cases ho:ops.toArray[j]? with
 |none=>rw [ho] at hh;exact h _ _ _ hw hh
 |some o=>
  rw [ho] at hh
  have h2:=hh w hw
  dsimp only at h2|-
  by_cases hwt:Region.wanted o (yielded ops.toArray a.tmps)=true
  ·rw [aB hwt] at h2|-
   refine ⟨λ_ _=>trivial,?_⟩
   rw [Oper.semAt_eq _ _ _ (hnd j o ho)]
   generalize (execOp a.eval o).run c.P w=r at h2
   cases r with
   |halt x w'=>exact False.elim h2
   |ok x w'=>
    cases x with
    |value v=>obtain ⟨L',hm,hn⟩:=h2;exact h _ _ _ hm hn
    |skip=>obtain ⟨L',hm,hn⟩:=h2;exact h _ _ _ hm hn
    |enter k args=>
     obtain ⟨e,hc⟩:=h2
     subst e
     refine ⟨λh=>by simp [FW] at h,(nF (hc.mono ?_))⟩
     grind
    |_=>exact False.elim h2
  grind [Mem,EU,FW]
theorem tu.sound{Lb QA Q'}(hnd: ∀(j:Nat) o,ops.toArray[j]?=some o-> ∀x,o.op≠ .defer x)(hQ: ∀L a w,Mem w0 L w->QA L a->Q' .normal a w): ∀(fuel:Nat) (listed:Array Bool) (L:List Item) (a:Act) (w:World),Mem w0 L w->
  tu c ops w0 Lb QA fuel listed L a->wpAnyIn (FW c.ro) 0 c.P .any ops.toArray Q' fuel listed a w
 |0,_,_,_,_,hw,h=>⟨h.2.1,hQ _ _ _ hw h.2.2⟩
 |fuel+1,_,_,_,_,hw,h=>⟨λh0=>hQ _ _ _ hw (h.2.1 h0),λi hi=>(h.2.2 i hi).wpOpIn hnd hw λL a w hw h=>tu.sound hnd hQ fuel _ L a w hw h⟩
def T1 (c:Cx) (v:Value) (w:World):Result Next->Prop
 | .ok (.value u) w'=>w'=w/\u=v
 | .ok .skip w'=>w'=w/\v=undef
 | .ok (.enter k args) w'=>w'=w/\Calls c.P k args w λe w''=>e= .returned v/\fM w w''
 |_=>False
def YB (c:Cx) (ops:List Oper) (w0:World) (Lb:List Item) (o:Oper) (v:Value) (a:Act):Prop:=
 (Region.wanted o (yielded ops.toArray a.tmps)=true/\ ∀w,Mem w0 Lb w->T1 c v w ((execOp a.eval o).run c.P w))\/(Region.wanted o (yielded ops.toArray a.tmps)=false/\v=undef)
theorem YB.Vk{i o v a L Lb}(hi:ops.toArray[i]?=some o)(hs:Sub w0 L Lb)(hy:YB c ops w0 Lb o v a){K}(h:K L (a.put o.dst v)):EU c ops w0 i K L a:=by
 unfold EU
 rw [hi]
 intro w hw
 rcases hy with ⟨hwt,hv⟩|⟨hwt,rfl⟩
 ·rw [aB hwt]
  have h2:=hv w (hs w hw)
  generalize (execOp a.eval o).run c.P w=r at h2
  cases r with
  |halt x w'=>exact False.elim h2
  |ok x w'=>
   cases x with
   |value u=>obtain ⟨e1,e2⟩:=h2;rw [e1,e2];exact ⟨L,hw,h⟩
   |skip=>obtain ⟨e1,e2⟩:=h2;rw [e1];exact ⟨L,hw,by rw [<-e2];exact h⟩
   |enter k args=>
    obtain ⟨e1,hc⟩:=h2
    exact ⟨e1,hc.mono λe w'' ⟨h1,h2⟩=>⟨v,L,h1,hw.call h2,h⟩⟩
   |_=>exact False.elim h2
 rw [an (by rw [hwt];decide)];exact h
theorem YB.of_same{o v a a' Lb}(hy:YB c ops w0 Lb o v a)(he:execOp a'.eval o=execOp a.eval o)(hw:Region.wanted o (yielded ops.toArray a'.tmps)=Region.wanted o (yielded ops.toArray a.tmps)):YB c ops w0 Lb o v a':=by
 unfold YB at*
 rw [he,hw]
 exact hy
theorem EU.put{j oi oj v L Lb}(hj:ops.toArray[j]?=some oj)(hap:oi.apart ops.toArray oj=true)(hsi: ∀cs b,oi.op≠ .select cs b)(hsj: ∀cs b,oj.op≠ .select cs b){K a}(hy:YB c ops w0 Lb oi v a)(h:EU c ops w0 j K L (a.put oi.dst v)):EU c ops w0 j (λL' a'=>YB c ops w0 Lb oi v a'/\K L' (a'.put oi.dst v)) L a:=by
 obtain ⟨h1,h2,h3⟩:=Oper.apart_spec hap
 have Ep: ∀u,YB c ops w0 Lb oi v (a.put oj.dst u):=λu=>hy.of_same (execOp_put oi hsi a oj.dst u h3) (wanted_put oi a oj.dst u h3)
 unfold EU at*
 rw [hj] at h|-
 intro w hw
 have h4:=h w hw
 rw [wanted_put oj a oi.dst v h1,execOp_put oj hsj a oi.dst v h1] at h4
 by_cases hwt:Region.wanted oj (yielded ops.toArray a.tmps)=true
 ·rw [aB hwt] at h4|-
  exact h4.mono λL' u hn=>⟨Ep u,by rw [<-Act.put_comm a v u h2];exact hn⟩
 rw [an hwt] at h4|-
 exact ⟨Ep _,by rw [<-Act.put_comm a v undef h2];exact h4⟩
theorem tu.first{Lb QA i oi v}(hi:ops.toArray[i]?=some oi)(hsel: ∀(j:Nat) (o:Oper) cs b,ops.toArray[j]?=some o->o.op≠ .select cs b):
  ∀(fuel:Nat) (listed:Array Bool) (L:List Item) (a:Act),
   (∀j oj,ops.toArray[j]?=some oj->j≠i->listed.getD j true=false->(∀e∈oj.after,Region.binds .any e=true->e.on≠i)->oi.apart ops.toArray oj=true)->
   i∈Region.ready .any ops.toArray listed->YB c ops w0 Lb oi v a->
   tu c ops w0 Lb QA fuel (listed.setIfInBounds i true) L (a.put oi.dst v)->tu c ops w0 Lb QA (fuel+1) listed L a:=by
 intro fuel
 induction fuel with
 |zero=>
  intro listed L a _ hr hy H
  refine ⟨H.1,λh=>(by rw [h] at hr;cases hr),λj hj=>?_⟩
  by_cases hji:j=i
  ·subst hji;exact hy.Vk hi H.1 H
  have:=ready_mono hj hji
  rw [H.2.1] at this
  cases this
 |succ fuel ih=>
  intro listed L a hfree hr hy H
  refine ⟨H.1,λh=>(by rw [h] at hr;cases hr),λj hj=>?_⟩
  by_cases hji:j=i
  ·subst hji;exact hy.Vk hi H.1 H
  have h1:=H.2.2 j (ready_mono hj hji)
  obtain ⟨hjun,oj,hoj,hall⟩:=mem_ready.1 hj
  have hnot: ∀e∈oj.after,Region.binds .any e=true->e.on≠i:=λe he hb heq=>by
   have h1:=hall e he hb
   have h0:=(mem_ready.1 hr).1
   grind
  have h2:=EU.put hoj (hfree j oj hoj hji hjun hnot) (λcs b=>hsel i oi cs b hi) (λcs b=>hsel j oj cs b hoj) hy h1
  have hfree': ∀k ok,ops.toArray[k]?=some ok->k≠i->(listed.setIfInBounds j true).getD k true=false->
    (∀e∈ok.after,Region.binds .any e=true->e.on≠i)->oi.apart ops.toArray ok=true:=λk ok hk hki hun hno=>by
   refine hfree k ok hk hki ?_ hno
   by_cases hjk:j=k
   ·subst hjk;exact hjun
   rw [getD_set_ne true hjk] at hun;exact hun
  refine h2.mono λL' a' h3=>ih (listed.setIfInBounds j true) L' a' hfree' (ready_mono hr (Ne.symm hji)) h3.1 ?_
  rw [UT _ _ hji]
  exact h3.2
end
def arr (n:Nat) (l:List Nat):Array Bool:=l.foldr (λi r=>r.setIfInBounds i true) (Array.replicate n false)
def QA (c:Cx) (PQ:PJ) (w0:World) (L:List Item) (a:Act):Prop:= ∃L' f',Sub w0 L L'/\marks L'=marks L/\nH c.N (marks L') a f'/\PQ .normal w0 L' f'
def XA (c:Cx) (ops:List Oper) (Lb:List Item) (fuel:Nat) (listed:List Nat) (PQ:PJ) (w0:World) (L:List Item) (f:Fr):Prop:=
 ∀a,nH c.N (marks L) a f->tu c ops w0 Lb (QA c PQ w0) fuel (arr ops.length listed) L a
def LX (c:Cx) (ops:List Oper) (Lb:List Item) (fuel:Nat) (listed:List Nat) (i:Nat) (PQ:PJ) (w0:World) (L:List Item) (f:Fr):Prop:=
 ∀a,nH c.N (marks L) a f->EU c ops w0 i (tu c ops w0 Lb (QA c PQ w0) fuel (arr ops.length (i::listed))) L a
def Rl (ops:List Oper) (listed:List Nat) (i:Nat):Bool:=Region.noSelect ops.toArray&&(Region.ready .any ops.toArray (arr ops.length listed)).contains i&&Region.free .any ops.toArray (arr ops.length listed) i
section
variable {c:Cx} {PQ:PJ} {w0:World} {L Lb:List Item} {f:Fr} {ops:List Oper} {listed:List Nat} {fuel i j k:Nat}
theorem Vu(Lb){id}(hm:c.P.follows .mixedOrders=true)(hB:(ops.all (λo=>!ew o.op))=true)(h:XA c ops Lb ops.length [] PQ w0 L f):H c (.region id ops.toArray true) PQ w0 L f:=by
 intro a w ha hw
 have hnd: ∀(j:Nat) (o:Oper),ops.toArray[j]?=some o-> ∀x,o.op≠ .defer x:=λj o hj=>lK (by
  have hmem:o∈ops:=aq (by simpa using hj)
  simpa using kH.1 hB o hmem)
 refine wpIn_region_any hm ?_
 have:=tu.sound (Q':=lift c PQ) hnd (λ_ a' w' hw' ⟨L',f',h0,_,h1,h2⟩=>⟨w0,L',f',h1,h0 w' hw',h2⟩) ops.length _ L a _ hw.drew (h a ha)
 simpa [arr] using this
theorem RA{id}(hm:c.P.follows .mixedOrders=true)(hB:(ops.all (λo=>!ew o.op))=true)(h:XA c ops L ops.length [] PQ w0 L f):H c (.region id ops.toArray true) PQ w0 L f:=Vu L hm hB h
theorem Lj(k){id}(hm:c.P.follows .mixedOrders=true)(hB:(ops.all (λo=>!ew o.op))=true)(h:XA c ops (L.drop k) ops.length [] PQ w0 L f):H c (.region id ops.toArray true) PQ w0 L f:=Vu (L.drop k) hm hB h
theorem aZ (hr:(Region.ready .any ops.toArray (arr ops.length listed)).isEmpty=true) (hs:Sub w0 L Lb) (h:PQ .normal w0 L f):XA c ops Lb 0 listed PQ w0 L f:=λ_ ha=>⟨hs,QG.1 hr,L,f,λ_ h=>h,rfl,ha,h⟩
theorem eu (hr:(Region.ready .any ops.toArray (arr ops.length listed)==[i])=true) (hs:Sub w0 L Lb) (h:LX c ops Lb fuel listed i PQ w0 L f):XA c ops Lb (fuel+1) listed PQ w0 L f:=λa ha=>by
 have hr:=eq_of_beq hr
 refine ⟨hs,λh0=>(by rw [hr] at h0;cases h0),λx hx=>?_⟩
 grind [arr,Sub,LX,XA]
theorem lS (hr:(Region.ready .any ops.toArray (arr ops.length listed)==[i,j])=true) (hs:Sub w0 L Lb) (h1:LX c ops Lb fuel listed i PQ w0 L f) (h2:LX c ops Lb fuel listed j PQ w0 L f):XA c ops Lb (fuel+1) listed PQ w0 L f:=λa ha=>by
 have hr:=eq_of_beq hr
 refine ⟨hs,λh0=>(by rw [hr] at h0;cases h0),λx hx=>?_⟩
 grind [arr,Sub,LX,XA]
theorem ON (hr:(Region.ready .any ops.toArray (arr ops.length listed)==[i,j,k])=true) (hs:Sub w0 L Lb) (h1:LX c ops Lb fuel listed i PQ w0 L f) (h2:LX c ops Lb fuel listed j PQ w0 L f) (h3:LX c ops Lb fuel listed k PQ w0 L f):XA c ops Lb (fuel+1) listed PQ w0 L f:=λa ha=>by
 have hr:=eq_of_beq hr
 refine ⟨hs,λh0=>(by rw [hr] at h0;cases h0),λx hx=>?_⟩
 grind [arr,Sub,LX,XA]
theorem aL{o}(hi:ops[i]?=some o)(h:vO c w0 L f o λL' f'=>XA c ops Lb fuel (i::listed) PQ w0 L' f'):LX c ops Lb fuel listed i PQ w0 L f:=λa ha=>by
 unfold EU
 rw [show ops.toArray[i]?=some o by simpa using hi]
 intro w hw
 rw [aB (by simp [Region.wanted,h.guard]),ha.eval]
 have h2:=h.run w hw
 generalize (execOp (ev f) o).run c.P w=r at h2
 cases r with
 |halt x w'=>exact False.elim h2
 |ok x w'=>
  cases x with
  |value v=>obtain ⟨L',hm,hk,hn⟩:=h2;exact ⟨L',hm,hn _ (hk▸ha.wN rfl h.dst v)⟩
  |skip=>obtain ⟨L',hm,hk,hn⟩:=h2;exact ⟨L',hm,hn _ (hk▸ha.wN rfl h.dst undef)⟩
  |enter k args=>
   obtain ⟨e,hc⟩:=h2
   refine ⟨e,hc.mono ?_⟩
   rintro e w'' ⟨v,L',rfl,hm,hk,hn⟩
   exact ⟨v,L',rfl,hm,hn _ (hk▸ha.wN rfl h.dst v)⟩
  |_=>exact False.elim h2
theorem aF{o d v g}(hi:ops[i]?=some o)(hdst:o.dst=some d)(hok:Rl ops listed i=true)(hg:Gd f o.guard (ops.map (·.dst)) g)(hd:Nat.blt d c.N=true)(hy:g=true-> ∀w,Mem w0 Lb w->T1 c v w ((execOp (ev f) o).run c.P w))(next:XA c ops Lb fuel (i::listed) PQ w0 L (kV f d (gv g v))):XA c ops Lb (fuel+1) listed PQ w0 L f:=λa ha=>by
 simp only [Rl,de] at hok
 have hi':ops.toArray[i]?=some o:=by simpa using hi
 have hwt:Region.wanted o (yielded ops.toArray a.tmps)=g:=by
  grind [Rl,Gd,Mem,T1,ev,XA,oW]
 refine tu.first (v:=gv g v) hi' (Region.noSelect_spec hok.1.1) fuel _ L a (Region.free_spec hi' hok.2) (by simpa using hok.1.2) ?_ ?_
 ·cases g with
  |true=>exact .inl ⟨hwt,λw hw=>by rw [px,ha.eval];exact hy rfl w hw⟩
  |false=>exact .inr ⟨hwt,Gg⟩
 rw [hdst]
 exact next _ (ha.put hd _)
theorem aR(Lb')(hsub:Sub w0 Lb' Lb)(h:XA c ops Lb' fuel listed PQ w0 L f):XA c ops Lb fuel listed PQ w0 L f:=by
 intro a ha
 have: ∀(fuel:Nat) (listed:Array Bool) (L:List Item) (a:Act) (QA:List Item->Act->Prop),tu c ops w0 Lb' QA fuel listed L a->tu c ops w0 Lb QA fuel listed L a:=by
  intro fuel
  induction fuel with
  |zero=>exact λ_ _ _ _ h=>⟨λw hw=>hsub w (h.1 w hw),h.2⟩
  |succ fuel ih=>exact λ_ _ _ _ h=>⟨λw hw=>hsub w (h.1 w hw),h.2.1,λi hi=>(h.2.2 i hi).mono λL a h=>ih _ _ _ _ h⟩
 exact this _ _ _ _ _ (h a ha)
theorem w7 (hsub:Sub w0 L Lb) (h:XA c ops L fuel listed PQ w0 L f):XA c ops Lb fuel listed PQ w0 L f:=aR L hsub h
end
section
variable {c:Cx} {PQ:PJ} {w0:World} {L Lb:List Item} {f:Fr} {ops:List Oper} {listed:List Nat} {fuel:Nat} {d:Nat} {op:Op} {ty:TypeId} {pos:String} {af:Array Edge} {v:Value}
theorem Ol{g gu}(hev:gj g c w0 Lb f op ty v):g=true-> ∀w,Mem w0 Lb w->T1 c v w ((execOp (ev f) ⟨some d,op,ty,pos,af,gu⟩).run c.P w):=λhg w hw=>by rw [hev hg _ _ _ _ w hw];exact ⟨rfl,rfl⟩
theorem LN{g gu k args}(hen:lV g c w0 Lb f op ty k args)(hc:g=true-> ∀w,Mem w0 Lb w->Calls c.P k args w λe w'=>e= .returned v/\fM w w'):g=true-> ∀w,Mem w0 Lb w->T1 c v w ((execOp (ev f) ⟨some d,op,ty,pos,af,gu⟩).run c.P w):=λhg w hw=>by rw [hen hg _ _ _ _ w hw];exact ⟨rfl,hc hg w hw⟩
theorem aV(i)(hok:Rl ops listed i=true)(hi:ops[i]?=some ⟨some d,op,ty,pos,af,none⟩)(hev:gj true c w0 Lb f op ty v)(hd:Nat.blt d c.N=true)(next:XA c ops Lb fuel (i::listed) PQ w0 L (kV f d v)):XA c ops Lb (fuel+1) listed PQ w0 L f:=aF hi rfl hok AY hd (Ol hev) (by rw [px];exact next)
theorem aC(i){k args}(hok:Rl ops listed i=true)(hi:ops[i]?=some ⟨some d,op,ty,pos,af,none⟩)(hen:lV true c w0 Lb f op ty k args)(hc:true=true-> ∀w,Mem w0 Lb w->Calls c.P k args w λe w'=>e= .returned v/\fM w w')(hd:Nat.blt d c.N=true)(next:XA c ops Lb fuel (i::listed) PQ w0 L (kV f d v)):XA c ops Lb (fuel+1) listed PQ w0 L f:=aF hi rfl hok AY hd (LN hen hc) (by rw [px];exact next)
end
def xG:Nat->Item->List Item->List Item
 |0,x,L=>x::L
 |k+1,x,y::L=>y::xG k x L
 |_+1,x,[]=>[x]
theorem Cc: ∀(k:Nat) (x:Item) (L:List Item),(xG k x L).Perm (x::L)
 |0,_,_=>Ao _
 |_+1,_,[]=>Ao _
 |k+1,x,y::L=>((Cc k x L).cons y).trans (List.Perm.swap x y L)
theorem Mem.perm{w0 w L L'}(h:Mem w0 L w)(hp:L'.Perm L):Mem w0 L' w:=by
 obtain ⟨h1,h2,h3,h4⟩:=h
 refine ⟨h1,λx hx=>h2 x (hp.subset hx),λx hx=>h3 x (hp.subset hx),?_⟩
 exact (hp.pairwise_iff (λ{x y} h b hb hg=>h b hg hb)).2 h4
theorem Di: ∀(k:Nat) (x:Item) (L:List Item),marks [x]=[]->marks (xG k x L)=marks L
 |0,x,L,h=>by rw [show xG 0 x L=[x]++L from rfl,kp,h,ir]
 |_+1,_,[],h=>h
 |k+1,x,y::L,h=>by rw [show xG (k+1) x (y::L)=[y]++xG k x L from rfl,show y::L=[y]++L from rfl,kp,kp,Di k x L h]
theorem tu.QK{c ops w0 Lb Q}(hq: ∀L1 L2 a,Sub w0 L1 L2->marks L2=marks L1->Q L2 a->Q L1 a): ∀(fuel:Nat) (listed:Array Bool) (L1 L2:List Item) (a:Act),Sub w0 L1 L2->marks L2=marks L1->tu c ops w0 Lb Q fuel listed L2 a->tu c ops w0 Lb Q fuel listed L1 a:=by
 intro fuel
 induction fuel with
 |zero=>exact λ_ _ _ _ hs hk h=>⟨λw hw=>h.1 w (hs w hw),h.2.1,hq _ _ _ hs hk h.2.2⟩
 |succ fuel ih=>
  grind [Sub,marks,tu,EU]
theorem QA.QK{c PQ w0}(L1 L2 a)(hs:Sub w0 L1 L2)(hk:marks L2=marks L1)(h:QA c PQ w0 L2 a):QA c PQ w0 L1 a:=by
 grind [Sub,marks,QA]
theorem aI(k){c PQ w0 L Lb x f ops listed fuel}(h:XA c ops Lb fuel listed PQ w0 (xG k x L) f)(hx:marks [x]=[]:=by rfl):XA c ops Lb fuel listed PQ w0 (x::L) f:=by
 intro a ha
 have hk:marks (xG k x L)=marks (x::L):=by rw [Di k x L hx,show x::L=[x]++L from rfl,kp,hx,ir]
 exact tu.QK QA.QK fuel _ (x::L) (xG k x L) a (λw hw=>hw.perm (Cc k x L)) hk (h a (by rw [hk];exact ha))
structure T3 {σ:Type} (S:List Nat) (f0:Fr) (vals:σ->List (Nat×Value)) (Li:σ->List Item) (I:σ->Prop) (w0 w1:World) (L:List Item) (f:Fr):Prop where
 out: ∃s,kY S f f0/\Has f (vals s)/\(∀w,Mem w1 L w->Mem w0 (Li s) w)/\marks (Li s)=marks L/\I s
def TO {σ:Type} (S:List Nat) (f0:Fr) (vals:σ->List (Nat×Value)) (Li:σ->List Item) (I:σ->Prop) (w0:World) (PQ:PJ):PJ:=Bm (T3 S f0 vals Li I w0) PQ
theorem ke{c PQ w0 L f k σ}(S)(vals:σ->List (Nat×Value))(Li I)(h:H c k (TO S f vals Li I w0 PQ) w0 L f)(next: ∀s g,I s->PQ .normal w0 (Li s) (Ar (over f S g) (vals s))):H c k PQ w0 L f:=by
 intro a w ha hw
 refine Code.wpIn_mono (λe a w h=>?_) (h a w ha hw)
 obtain ⟨w1,L1,f1,h1,h2,h3⟩:=h
 cases e with
 |normal=>
  obtain ⟨s,h4,h5,h6,h7,h8⟩:=h3.out
  refine ⟨w0,Li s,Ar (over f S f1) (vals s),?_,h6 w h2,next s f1 h8⟩
  rw [<-xL h4 h5,h7];exact h1
 |_=>exact ⟨w1,L1,f1,h1,h2,h3⟩
theorem aO{σ S f f0}{vals:σ->List (Nat×Value)}{Li I w0 w1 L PQ}(s)(hag:kY S f f0)(hv:Has f (vals s))(hm: ∀w,Mem w1 L w->Mem w0 (Li s) w)(hk:marks (Li s)=marks L)(hI:I s):TO S f0 vals Li I w0 PQ .normal w1 L f:=⟨⟨s,hag,hv,hm,hk,hI⟩⟩
end Go.Proofs.E
namespace Go.Proofs.E
open Go Go.RowKit
section
variable {c:Cx} {PQ:PJ} {dr:Bool} {w0:World} {L:List Item} {f:Fr} {ops rest:List Oper} {d:Nat} {ty:TypeId} {pos:String} {af:Array Edge} {v:Value}
theorem xv{op}(hev:gj true c w0 L f op ty v)(next:XL dr c ops rest PQ w0 L (kV f d v))(hnd:ew op=false:=by rfl)(hd:Nat.blt d c.N=true:=by rfl):XL dr c ops (⟨some d,op,ty,pos,af,none⟩::rest) PQ w0 L f:=xV hev hnd hd next
end
section
variable {c:Cx} {w0:World} {L:List Item} {f:Fr} {ty:TypeId} {g:Bool} {x:Operand}
end
theorem lg{S f g}(h:kY S f g:=by repeat (first|exact aK|exact aN|refine a8 rfl ?_|refine aJ rfl ?_|refine aD rfl ?_)):kY S f g:=h
end Go.Proofs.E
namespace Go.Proofs.E
open Go Go.RowKit
theorem Mem.D9{w0 w w' L k it it'}(h:Mem w0 L w)(hk:L[k]?=some it)(hfp: ∀b,it'.fp b->it.fp b\/w.heap.size<=b)(hlt: ∀b,it'.fp b->b<w'.heap.size)(hA:it'.A w')(hos:w'.os=w.os/\w'.tape=w.tape/\w'.output=w.output/\w.drawn<=w'.drawn)(hsz:w.heap.size<=w'.heap.size)(hout: ∀b,b<w.heap.size-> ¬it.fp b->w'.heap[b]?=w.heap[b]?):Mem w0 (L.set k it') w':=by
 obtain ⟨h1,h2,h3,h4⟩:=h
 have hmem:=aq hk
 refine ⟨⟨⟨hos.1.trans h1.os,hos.2.1.trans h1.tape,hos.2.2.1.trans h1.output,gL h1.size hsz,λb hb=>(hout b (fZ hb h1.size) (λhf=>by have:=(h3 it hmem b hf).1;omega)).trans (h1.block b hb)⟩,gL h1.drawn hos.2.2.2⟩,?_,?_,?_⟩
 ·intro x hx
  obtain ⟨j,hj⟩:=cG.1 hx
  rw [cD] at hj
  split at hj
  ·split at hj
   ·cases hj;exact hA
   cases hj
  rename_i hne
  have hxm:=aq hj
  refine x.st w w' (λb hf=>hout b (h3 x hxm b hf).2 (λhg=>?_)) (h2 x hxm)
  rcases sD hne with hlt|hlt
  ·obtain ⟨p,hp⟩:=ai.1 hk
   obtain ⟨q,hq⟩:=ai.1 hj
   have:=bJ.1 h4 k j p q hlt b (hp▸hg)
   exact this (hq▸hf)
  obtain ⟨p,hp⟩:=ai.1 hk
  obtain ⟨q,hq⟩:=ai.1 hj
  have:=bJ.1 h4 j k q p hlt b (hq▸hf)
  exact this (hp▸hg)
 ·intro x hx b hb
  obtain ⟨j,hj⟩:=cG.1 hx
  rw [cD] at hj
  split at hj
  ·split at hj
   ·cases hj
    refine ⟨?_,hlt b hb⟩
    rcases hfp b hb with h|h
    ·exact (h3 it hmem b h).1
    have:=h1.size;omega
   cases hj
  have:=h3 x (aq hj) b hb
  exact ⟨this.1,by omega⟩
 have h5:=h4
 rw [bJ] at h4|-
 intro i j hi hj hij b hb hg
 simp only [gP] at hi hj
 obtain ⟨p,hp⟩:=ai.1 hk
 simp only [List.getElem_set] at hb hg
 split at hb
 ·rename_i e
  subst e
  rw [an (by omega)] at hg
  rcases hfp b hb with h|h
  ·exact h4 k j hi hj hij b (hp▸h) hg
  have:=(h3 _ (vP hj) b hg).2;omega
 split at hg
 ·rename_i e
  subst e
  rcases hfp b hg with h|h
  ·exact h4 i k hi hj hij b hb (hp▸h)
  have:=(h3 _ (vP hi) b hb).2;omega
 exact h4 i j hi hj hij b hb hg
def dS {α:Type} (e:TypeId) (k:Nat) (enc:α->List Value) (A:Option Addr) (c:Nat) (xs:List α):Item where
 fp:=λb=>A.map (·.block)=some b
 A:=λw=>w.ownsRow 0 e k (.slice A xs.length c) xs.length (xs.flatMap enc)
 st:=λw w' h hA=>by
  refine ⟨hA.1,?_⟩
  rcases hA.2 with h0|⟨g,cap,cur,hv,h1,h2,h3⟩
  ·exact .inl h0
  ·refine .inr ⟨g,cap,cur,hv,h1,?_,h3⟩
   simp only [Value.slice.injEq] at hv
   rw [h g (by rw [hv.1];rfl)]
   exact h2
section
variable {α:Type} {e:TypeId} {k:Nat} {enc:α->List Value} {A:Option Addr} {n:Nat} {xs:List α} {w0 w:World} {L:List Item}
theorem dX (he: ∀x,(enc x).length=k): ∀xs:List α,(xs.flatMap enc).length=xs.length*k
 |[]=>by simp
 |x::xs=>by simp [he x,dX he xs,P7];omega
theorem xN (he: ∀x,(enc x).length=k): ∀(xs:List α) (j:Nat) (u:Value),(xs.flatMap enc)[j]?=some u-> ∃i x r,xs[i]?=some x/\(enc x)[r]?=some u/\j=i*k+r
 |[],j,u,h=>by simp at h
 |y::ys,j,u,h=>by
  simp only [nj] at h
  by_cases hj:j<(enc y).length
  ·rw [gm hj] at h
   exact ⟨0,y,j,rfl,h,by simp⟩
  rw [fu (by omega)] at h
  obtain ⟨i,x,r,h1,h2,h3⟩:=xN he ys _ u h
  rw [he] at h3 hj
  exact ⟨i+1,x,r,by simpa using h1,h2,by simp [P7];omega⟩
theorem Mem.fY{c}(h:Mem w0 L w)(e k enc)(hc:c=0):Mem w0 (dS e k enc none c ([]:List α)::L) w:=by
 subst hc
 obtain ⟨h1,h2,h3,h4⟩:=h
 refine ⟨h1,?_,?_,bB.2 ⟨λy _ b (hb:none=some b)=>(by cases hb),h4⟩⟩
 ·intro x hx
  rcases cn.1 hx with rfl|hx
  ·exact ⟨by simp, .inl ⟨rfl,rfl⟩⟩
  exact h2 x hx
 grind [Mem,dS]
theorem fB {j c:Nat} (h:Mem w0 L w) (hk:L[j]?=some (dS e k enc A c xs)) (he: ∀x,(enc x).length=k) (hl:xs.length<=9223372036854775807):eG w k enc A xs.length xs:=by
 have hA:w.ownsRow 0 e k (.slice A xs.length c) xs.length (xs.flatMap enc):=h.item hk
 refine ⟨rfl,hl,λhn=>?_⟩
 rcases hA.2 with ⟨_,h0⟩|⟨g,cap,cur,hv,h1,h2,h3,h4,h5,h6⟩
 ·omega
 simp only [Value.slice.injEq] at hv
 obtain ⟨rfl,_,rfl⟩:=hv
 refine ⟨g,0,rfl,(fV.1 h2).1,λi x hx r u hu=>?_⟩
 have:=hA.cells (g:=g) rfl (i*k+r) u (rD he xs i x hx r u hu)
 grind [Mem,dS,eG,rM]
end
section
variable {α:Type} {e t:TypeId} {k:Nat} {enc:α->List Value} {A B:Option Addr} {xs ys:List α} {c:Cx} {w0:World} {L:List Item} {f:Fr} {K:List Item->Fr->Prop} {d:Nat} {ty:TypeId} {pos:String} {af:Array Edge} {x y:Operand}
theorem dj(j){cA cB m i z}(ht:c.P.underlying t=some (.slice e))(hi:c.P.info? e=some i)(hz:i.zero=some z)(hsize:i.size=k)(hzs:z.cells.size=k)(hk0:Nat.blt 0 k=true)(he: ∀x,(enc x).length=k)(h1: ∀x,(enc x).all (·.oneCell')=true)(hx:ev f x= .slice A xs.length cA)(hy:ev f y= .slice B m cB)(hk:L[j]?=some (dS e k enc A cA xs))(hr: ∀w,Mem w0 L w->eG w k enc B m ys)(hlen:xs.length+ys.length<=1000000/\i.bytes<=100000)(hd:Nat.blt d c.N=true)(next: ∀A' c',K (L.set j (dS e k enc A' c' (xs++ys))) (kV f d (.slice A' (xs++ys).length c'))):
  vO c w0 L f ⟨some d, .call {callee:= .builtin .append,args:= #[x,y],argTypes:= #[t,t]},ty,pos,af,none⟩ K:=
 ⟨rfl,rfl,hd,λw hw=>by
  have hA:w.ownsRow 0 e k (.slice A xs.length cA) xs.length (xs.flatMap enc):=hw.item hk
  have hS:=hr w hw
  have hm:ys.length=m:=hS.1
  have hk1:0<k:=dW hk0
  have hex: ∀v' w',(Builtin.append_ #[t,t] ty #[.slice A xs.length cA, .slice B m cB]).run c.P w= .ok v' w'->(execOp (ev f) ⟨some d, .call {callee:= .builtin .append,args:= #[x,y],argTypes:= #[t,t]},ty,pos,af,none⟩).run c.P w= .ok (.value v') w':=λv' w' h=>by
   simp [execOp,resolve,invoke,builtin,hx,hy,h]
  have key: ∃v' w',(Builtin.append_ #[t,t] ty #[.slice A xs.length cA, .slice B m cB]).run c.P w= .ok v' w'/\w'.ownsRow 0 e k v' (xs.length+m) (xs.flatMap enc++ys.flatMap enc)/\w.grownBy w' (Value.slice A xs.length cA).ownBlock/\w.drawn<=w'.drawn/\ ∀b,v'.ownBlock=some b->(Value.slice A xs.length cA).ownBlock=some b\/w.heap.size<=b:=by
   have hnl:(ys.flatMap enc).length=m*k:=by rw [dX he,hm]
   have hby:(xs.length+m)*i.bytes<=140737488355328:=by
    have:=Iy (show xs.length+m<=1000000 by omega) hlen.2
    omega
   cases B with
   |none=>
    have hm0:m=0:=by
     grind [ev,dS,Mem,eG,kV]
    subst hm0
    have hy0:ys=[]:=dR hm
    subst hy0
    refine ⟨.slice A xs.length cA,w,?_,by simpa using hA,⟨rfl,rfl,rfl,bA _,λ_ _ _=>rfl⟩,bA _,λb hb=> .inl hb⟩
    rcases hA.2 with ⟨hv,h0⟩|⟨g,cap,cur,hv,_,_,hnc,_⟩
    ·simp only [Value.slice.injEq] at hv
     obtain ⟨rfl,h6,rfl⟩:=hv
     rw [h0]
     simp [Builtin.append_,run_underlying ht,sizeOf,typeInfo,hi,Builtin.lenOf,Builtin.firstCells]
    simp only [Value.slice.injEq] at hv
    obtain ⟨rfl,_,rfl⟩:=hv
    simp [Builtin.append_,run_underlying ht,sizeOf,typeInfo,hi,Builtin.lenOf,Builtin.firstCells,hnc,storeCells]
   |some a=>
    have hnews: ∀j u,(ys.flatMap enc)[j]?=some u->w.cell? (a.add j)=some u:=λj u hu=>by
     obtain ⟨q,v,r,hq,hv,rfl⟩:=xN he ys j u hu
     have hq':q<m:=by have:=(ai.1 hq).1;omega
     obtain ⟨b,off,hb,_,hc⟩:=hS.2.2 (by omega)
     cases hb
     have:=hc q v hq r u hv
     rw [rM rfl]
     rw [kf] at this
     exact this
    have hone: ∀u∈ys.flatMap enc,u.oneCell'=true:=λu hu=>by
     grind [ev,dS,Mem,eG,kV,rM]
    obtain ⟨v',w',h2,h3,h4,_⟩:=run_append_own (P:=c.P) w 0 t ty e i z k i.bytes ht hi hz hsize rfl hzs hk1 _ xs.length _ hA a m cB (ys.flatMap enc) hnl hnews hone (by simp only [maxLen];omega) hby (bj _)
    refine ⟨v',w',h2,h3,h4,?_⟩
    subst hsize
    rcases hA.2 with ⟨hv,h0⟩|⟨g,cap,cur,hv,h6,h7,hnc,hcm,hcs,htk⟩
    ·simp only [Value.slice.injEq] at hv
     obtain ⟨rfl,h6,rfl⟩:=hv
     rw [h0] at h2
     by_cases hm0:m=0
     ·subst hm0
      have:(Builtin.append_ #[t,t] ty #[.slice none 0 0, .slice (some a) 0 cB]).run c.P w= .ok (.slice none 0 0) w:=by
       simp [Builtin.append_,run_underlying ht,sizeOf,typeInfo,hi,Builtin.lenOf,Builtin.firstCells,loadCells,loadCellsFrom]
      rw [this] at h2
      cases h2
      exact ⟨bA _,λb hb=>by cases hb⟩
     have:=run_append_nil (P:=c.P) w t ty e i z ht hi hz a m cB (ys.flatMap enc) hnl hnews (by omega) (by omega) (by have hb:=hby;rw [h0] at hb;simp only [fq] at hb;omega)
     rw [this] at h2
     cases h2
     exact ⟨lD _,λb hb=>by
      simp only [Value.ownBlock,jW] at hb
      exact .inr (by omega)⟩
    simp only [Value.slice.injEq] at hv
    obtain ⟨rfl,_,rfl⟩:=hv
    by_cases hroom:xs.length+m<=cA
    ·have h8:=run_append_room (P:=c.P) w t ty e i ht hi g xs.length cA cur h7 a m cB (ys.flatMap enc) hnl hnews hone hroom (by rw [hnl,hcs,<-uj];exact qt _ hroom)
     rw [h8] at h2
     cases h2
     exact ⟨bA _,λb hb=> .inl hb⟩
    have:=run_append_grow (P:=c.P) w t ty e i z ht hi hz ⟨g,0,none⟩ xs.length cA (xs.flatMap enc) hA.1 (hA.cells (g:=g) rfl) a m cB (ys.flatMap enc) hnl hnews (by omega) (by omega) (growslice_fits (by omega) hby)
    rw [this] at h2
    cases h2
    exact ⟨lD _,λb hb=>by
     simp only [Value.ownBlock,jW] at hb
     exact .inr (by omega)⟩
  obtain ⟨v',w',h2,h3,h4,h4d,h5⟩:=key
  rw [hex v' w' h2]
  have hsh: ∃A' c',v'= .slice A' (xs++ys).length c':=by
   rcases h3.2 with ⟨rfl,h0⟩|⟨g,cap,cur,rfl,_⟩
   ·exact ⟨none,0,by rw [aQ,hm,h0]⟩
   exact ⟨_,_,by rw [aQ,hm]⟩
  obtain ⟨A',c',rfl⟩:=hsh
  have hA':w'.ownsRow 0 e k (.slice A' (xs++ys).length c') (xs++ys).length ((xs++ys).flatMap enc):=by
   rw [jY]
   have:(xs++ys).length=xs.length+m:=by rw [aQ,hm]
   rw [this] at h3|-
   exact h3
  refine ⟨_,hw.D9 (it':=dS e k enc A' c' (xs++ys)) hk (λb hb=>?_) (λb hb=>?_) hA' ⟨h4.os,h4.tape,h4.output,h4d⟩ h4.size (λb hb hf=>h4.block b hb (λe=>hf ?_)),hG hk rfl,next A' c'⟩
  ·have hb':(Value.slice A' (xs++ys).length c').ownBlock=some b:=by
    cases A' with
    |none=>cases hb
    |some a=>exact hb
   rcases h5 b hb' with h|h
   ·left
    cases A with
    |none=>cases h
    |some a=>exact h
   exact .inr h
  ·have:(Value.slice A' (xs++ys).length c').ownBlock=some b:=by
    cases A' with
    |none=>cases hb
    |some a=>exact hb
   exact (hA'.lt b this).2
  cases A with
  |none=>cases e
  |some a=>exact e.symm⟩
theorem lI{PQ ops rest}(h:vO c w0 L f ⟨some d, .call {callee:= .builtin .append,args:= #[x,y],argTypes:= #[t,t]},ty,pos,af,none⟩ λL' f'=>XL false c ops rest PQ w0 L' f'):
  XL false c ops (⟨some d, .call {callee:= .builtin .append,args:= #[x,y],argTypes:= #[t,t]},ty,pos,af,none⟩::rest) PQ w0 L f:=cQ h
theorem mN{t el}(enc)(ht:c.P.underlying t=some (.slice el)){size}(hs: ∀w,(sizeOf el).run c.P w= .ok size w)(hd:Nat.blt d c.N=true)(next: ∀A c',K (dS el size enc A c' ([]:List α)::L) (kV f d (.slice A 0 c'))):
  vO c w0 L f ⟨some d, .buildSlice t 0 #[],ty,pos,af,none⟩ K:=
 ⟨rfl,rfl,hd,λw hw=>by
  have:(execOp (ev f) ⟨some d, .buildSlice t 0 #[],ty,pos,af,none⟩).run c.P w= .ok (.value (.slice (some ⟨w.heap.size,0,none⟩) 0 0)) (w.alloc (.cells #[] el)):=by
   simp [execOp,Instr.buildSlice,run_underlying ht,hs,Instr.fill,newRow,Result.andThen]
   grind
  rw [this]
  refine ⟨dS el size enc (some ⟨w.heap.size,0,none⟩) 0 []::L,hw.new _ _ (λb hb=>by cases hb;rfl) ?_,rfl,next _ _⟩
  exact ⟨by simp, .inr ⟨w.heap.size,0,#[],rfl,bj _,heap_alloc_new w _,bA _,by simp [maxLen],by simp,by simp⟩⟩⟩
theorem ey{t el len size parts vs z}(zs)(ht:c.P.underlying t=some (.slice el))(hs: ∀w,(sizeOf el).run c.P w= .ok size w)(hz: ∀w,(zeroValue el).run c.P w= .ok z w)(hlen:(Nat.ble (len*size) 16777216&&!Nat.beq (len*size) 0)=true)(hzr:(Array.range (len*size)).map (z.cells[· %z.cells.size]!)=zs.toArray)(hp:tt f parts vs)(hok:u9 (nn size len) zs.length vs=true)(hd:Nat.blt d c.N=true)(next: ∀b,K (box b el (JA (nn size len) zs vs)::L) (kV f d (.slice (some ⟨b,0,none⟩) len len))):vO c w0 L f ⟨some d, .buildSlice t len parts.toArray,ty,pos,af,none⟩ K:=
 ⟨rfl,rfl,hd,λw hw=>by
  have:(execOp (ev f) ⟨some d, .buildSlice t len parts.toArray,ty,pos,af,none⟩).run c.P w= .ok (.value (.slice (some ⟨w.heap.size,0,none⟩) len len)) (w.alloc (.cells (JA (nn size len) zs vs).toArray el)):=by
   rw [de] at hlen
   have h2: ¬len*size>2^24:=by have:=dW hlen.1;omega
   have h0: ¬len*size=0:=by
    intro h
    rw [h] at hlen
    cases hlen.2
   have h3:=s8 (nn size len) (λi=>some (i*size,size)) (λi q h=>by
    unfold nn at h
    rw [cV] at h
    cases hr:(List.range len)[i]? with
    |none=>rw [hr] at h;cases h
    |some y=>
     rw [hr] at h
     have:y=i:=by have:=ai.1 hr;obtain ⟨_,h5⟩:=this;simpa using h5.symm
     subst this
     exact h) vs zs.toArray (by simpa using hok)
   simp [execOp,Instr.buildSlice,run_underlying ht,hs,hz,h2,h0,hp.map,hzr,h3,newRow,Result.andThen]
  rw [this]
  exact ⟨_,hw.wP el _,rfl,next _⟩⟩
end
theorem gM{c k PQ w0 L f}{φ:Prop}(hφ: ∀w,Mem w0 L w->φ)(h:φ->H c k PQ w0 L f):H c k PQ w0 L f:=λa w ha hw=>h (hφ w hw) a w ha hw
end Go.Proofs.E
namespace Go.Proofs.E
open Go Go.RowKit
section
variable {c:Cx} {w0:World} {L:List Item} {f:Fr} {ty t t2:TypeId} {g:Bool} {x y:Operand} {m n:Int}
theorem Nb (hx:gH g f x (.int .i64 m)) (hy:gH g f y (.int .i64 n)) (hr:g=true-> -9223372036854775808<=m/\m<=9223372036854775807/\0<n):gj g c w0 L f (.binOp .quo t x y t2) ty (.int .i64 (m.tdiv n)):=λe _ _ _ _ w _=>by
 obtain ⟨h1,h2,h3⟩:=hr e
 have hz: ¬n=0:=by omega
 have hb: -9223372036854775808<=m.tdiv n/\m.tdiv n<=9223372036854775807:=by
  rcases Int.le_total 0 m with h|h
  ·have h4:0<=m.tdiv n:=SF h (by omega)
   have h5:m.tdiv n<=m:=Int.tdiv_le_self _ h
   omega
  have h4:(-m).tdiv n= -(m.tdiv n):=Int.neg_tdiv _ _
  have h5:0<=(-m).tdiv n:=SF (by omega) (by omega)
  have h6:(-m).tdiv n<= -m:=Int.tdiv_le_self _ (by omega)
  omega
 simp [execOp,hx e,hy e,eqGuard,binOp,Op.intDiv,hz,IntWalk.i64_in _ hb]
theorem Na (hx:gH g f x (.int .i64 m)) (hy:gH g f y (.int .i64 n)) (hr:g=true->0<n):gj g c w0 L f (.binOp .rem t x y t2) ty (.int .i64 (m.tmod n)):=λe _ _ _ _ w _=>by
 have hz: ¬n=0:=by have:=hr e;omega
 simp [execOp,hx e,hy e,eqGuard,binOp,Op.intDiv,hz]
theorem Co{a}(hx:gH g f x (.pointer (some a))):gj g c w0 L f (.nilCheck x) ty (.pointer (some a)):=λe _ _ _ _ w _=>by
 simp [execOp,hx e]
theorem Nh{el b o sz len}(j:Nat)(ht:c.P.underlying t=some (.array len el))(hs: ∀w,(sizeOf el).run c.P w= .ok sz w)(hx:gH g f x (.pointer (some ⟨b,o,none⟩)))(hy:gH g f y (.int .i64 m))(hm:g=true->m=(j:Int)/\j<len):
  gj g c w0 L f (.indexAddr t x y) ty (.pointer (some ⟨b,o+j*sz,none⟩)):=λe _ _ _ _ w _=>by
 obtain ⟨rfl,hj⟩:=hm e
 simp [execOp,hx e,hy e,Instr.indexAt,asIntOf,run_underlying ht,hs,Result.andThen,addr_add,hj,Instr.sureAddr]
theorem cO{op v}(h:g=false):gj g c w0 L f op ty v:=λe=>absurd e (by rw [h];decide)
end
def ox (l:List Int):List Value:=l.map (.int .i64)
theorem k6{P t l k x}(w)(ha: ∀w,(isAgg t).run P w= .ok false w)(hx:l[k]?=some x):(part t (ox l).toArray k).run P w= .ok (.int .i64 x) w:=by
 simp [part,ha,ox,hx,Result.andThen]
def vw (P:Program):Nat->List Field->Prop
 |_,[]=>True
 |k,f::fs=>f.name≠ "_" /\f.offset=k/\(∀w,(isAgg f.type).run P w= .ok false w)/\(∃q,P.underlying f.type=some (.int q))/\vw P (k+1) fs
theorem rX{P}(d w xs ys)(hl:xs.length=ys.length): ∀(fs:List Field) (k:Nat),vw P k fs->k+fs.length=xs.length->
  (Op.eqFields (d+1) (ox xs).toArray (ox ys).toArray fs).run P w= .ok (xs.drop k==ys.drop k) w
 |[],k,_,hk=>by
  simp only [dO,pN] at hk
  rw [gZ (by omega),gZ (by omega)]
  simp [Op.eqFields]
 |f::fs,k,⟨h1,h2,h3,⟨q,h4⟩,h5⟩,hk=>by
  simp only [cL] at hk
  have kx:k<xs.length:=by omega
  have ky:k<ys.length:=by omega
  have ih:=rX d w xs ys hl fs (k+1) h5 (by omega)
  have e:(xs.drop k==ys.drop k)=((xs[k]==ys[k])&&(xs.drop (k+1)==ys.drop (k+1))):=by
   rw [cH kx,cH ky];rfl
  rw [e]
  simp only [Op.eqFields,h1,ne_eq,Oa,E2,h2,Sem.run_bind,k6 w h3 (ah kx),k6 w h3 (ah ky),Result.andThen_ok,run_equalIn_int w d f.type .i64 q _ _ h4,Sem.run_ite]
  cases hb:(xs[k]==ys[k]) with
  |false=>rfl
  |true=>rw [an (by decide),ih];rfl
theorem oq{P t fs}(w xs ys)(hl:xs.length=ys.length)(ht:P.underlying t=some (.struct fs))(hp:P.stoodInHeld t=false)(hf:vw P 0 fs.toList)(hn:fs.toList.length=xs.length):
  (Op.equal t (.agg (ox xs).toArray) (.agg (ox ys).toArray)).run P w= .ok (xs==ys) w:=by
 have h:=rX (P:=P) 9998 w xs ys hl fs.toList 0 hf (by omega)
 have e:P.fieldsOf t=fs:=by unfold Program.fieldsOf;rw [ht]
 show (Op.equalIn 10000 t _ _).run P w=_
 rw [show (10000:Nat)=9999+1 from rfl,run_equalIn_struct w 9999 t _ _ (by rw [e];exact ht) hp,e]
 exact h
section
variable {c:Cx} {w0:World} {L:List Item} {f:Fr} {ty t t2:TypeId} {g:Bool} {x y:Operand}
theorem Dr{xs ys b}(heq: ∀w,(Op.equal t (.agg xs) (.agg ys)).run c.P w= .ok b w)(hgd:c.P.eqGuardType c.P.depth t=false)(hx:gH g f x (.agg xs))(hy:gH g f y (.agg ys)):gj g c w0 L f (.binOp .eql t x y t2) ty (.bool b):=λe _ _ _ _ w _=>by
 simp [execOp,hx e,hy e,eqGuard,binOp,heq,hgd,Result.andThen]
theorem Aa{xs ys b}(heq: ∀w,(Op.equal t (.agg xs) (.agg ys)).run c.P w= .ok b w)(hgd:c.P.eqGuardType c.P.depth t=false)(hx:gH g f x (.agg xs))(hy:gH g f y (.agg ys)):gj g c w0 L f (.binOp .neq t x y t2) ty (.bool (!b)):=λe _ _ _ _ w _=>by
 simp [execOp,hx e,hy e,eqGuard,binOp,heq,hgd,Result.andThen]
end
end Go.Proofs.E
namespace Go.Proofs.E
open Go Go.RowKit
theorem Mem.swap{w0 w L j it it'}(h:Mem w0 L w)(hk:L[j]?=some it)(hfp: ∀b,it'.fp b->it.fp b)(hA:it'.A w):Mem w0 (L.set j it') w:=
 h.set hk hfp hA ⟨rfl,rfl,rfl,rfl,bA _⟩ (λ_ _=>rfl)
structure Ak {α:Type} (k:Nat) (enc:α->List Value) (c:Nat) (cs:List Value) (xs:List α):Prop where
 len:xs.length<=c
 max:c<=maxLen
 size:cs.length=c*k
 rest: ∃r,cs=xs.flatMap enc++r
section
variable {α:Type} {e:TypeId} {k:Nat} {enc:α->List Value} {c b:Nat} {xs:List α} {w0 w:World} {L:List Item} {j:Nat}
theorem nP (h:(dS e k enc (some ⟨b,0,none⟩) c xs).A w): ∃cs:List Value,w.heap[b]?=some (.cells cs.toArray e (0,0))/\Ak k enc c cs xs:=by
 have hA:w.ownsRow 0 e k (.slice (some ⟨b,0,none⟩) xs.length c) xs.length (xs.flatMap enc):=h
 rcases hA.2 with ⟨h0,_⟩|⟨g,cap,cur,hv,_,h2,h3,h4,h5,h6⟩
 ·cases h0
 simp only [Value.slice.injEq,jW,Addr.mk.injEq,and_true,true_and] at hv
 obtain ⟨rfl,rfl⟩:=hv
 refine ⟨cur.toList,by simpa using h2,h3,h4,by simpa using h5,cur.toList.drop (xs.length*k),?_⟩
 rw [<-h6,gg]
theorem nC(he: ∀x,(enc x).length=k){cs}(h:w.heap[b]?=some (.cells cs.toArray e (0,0)))(hr:Ak k enc c cs xs):(dS e k enc (some ⟨b,0,none⟩) c xs).A w:=by
 show w.ownsRow 0 e k (.slice (some ⟨b,0,none⟩) xs.length c) xs.length (xs.flatMap enc)
 obtain ⟨r,hr'⟩:=hr.rest
 refine ⟨dX he xs, .inr ⟨b,c,cs.toArray,rfl,bj _,h,hr.len,hr.max,by simpa using hr.size,?_⟩⟩
 grind [dS,dX]
theorem fG{A}(h:Mem w0 L w)(hk:L[j]?=some (dS e k enc A c xs))(hn:0<xs.length): ∃b,A=some ⟨b,0,none⟩:=by
 have hA:w.ownsRow 0 e k (.slice A xs.length c) xs.length (xs.flatMap enc):=h.item hk
 rcases hA.2 with ⟨_,h0⟩|⟨g,cap,cur,hv,_⟩
 ·omega
 grind
theorem kP{A}(h:Mem w0 L w)(hk:L[j]?=some (dS e k enc A c xs)):xs.length<=c/\c<=9223372036854775807:=by
 have hA:w.ownsRow 0 e k (.slice A xs.length c) xs.length (xs.flatMap enc):=h.item hk
 rcases hA.2 with ⟨hv,h0⟩|⟨g,cap,cur,hv,_,_,h3,h4,_⟩
 ·grind
 simp only [Value.slice.injEq] at hv
 obtain ⟨_,_,rfl⟩:=hv
 simp only [maxLen] at h4
 omega
theorem xu(he: ∀x,(enc x).length=k)(h:Mem w0 L w)(hk:L[j]?=some (dS e k enc (some ⟨b,0,none⟩) c xs)){i r x v}(hx:xs[i]?=some x)(hv:(enc x)[r]?=some v):w.cell? ⟨b,i*k+r,none⟩=some v:=by
 obtain ⟨cs,h1,h2⟩:=nP (h.item hk)
 obtain ⟨q,hq⟩:=h2.rest
 have hf:=rD he xs i x hx r v hv
 have hlt:i*k+r<(xs.flatMap enc).length:=(ai.1 hf).1
 simp only [World.cell?,h1]
 simp [hq,gm hlt,hf]
end
section
variable {α:Type} {e:TypeId} {k:Nat} {enc:α->List Value} {c b:Nat} {xs:List α} {w0:World} {L:List Item} {g:Bool} {v:Value} {i r:Nat} {x:α}
theorem rr (j:Nat) (hk:L[j]?=some (dS e k enc (some ⟨b,0,none⟩) c xs)) (hx:xs[i]?=some x) (hv:(enc x)[r]?=some v) (he: ∀x,(enc x).length=k:=by exact λ_=>rfl):g=true-> ∀w,Mem w0 L w->w.cell? ⟨b,0+i*k+r,none⟩=some v:=λ_ _ hw=>by
 grind [dS,Mem,xu]
theorem rQ (j:Nat) (hk:L[j]?=some (dS e k enc (some ⟨b,0,none⟩) c xs)) (hx:xs[i]?=some x) (hv:(enc x)[0]?=some v) (he: ∀x,(enc x).length=k:=by exact λ_=>rfl):g=true-> ∀w,Mem w0 L w->w.cell? ⟨b,0+i*k,none⟩=some v:=rr (r:=0) j hk hx hv he
theorem sP (j:Nat) (hk:L[j]?=some (dS e k enc (some ⟨b,0,none⟩) c xs)) (hx:xs[i]?=some x) (he: ∀x,(enc x).length=k:=by exact λ_=>rfl):g=true-> ∀w,Mem w0 L w-> ∀q u,(enc x)[q]?=some u->w.cell? ⟨b,0+i*k+q,none⟩=some u:=λhg w hw _ _ hu=>rr j hk hx hu he hg w hw
theorem Kd(j:Nat){p}(hk:L[j]?=some (dS e k enc (some ⟨b,0,none⟩) c xs))(hx:xs[p+i]?=some x)(he: ∀x,(enc x).length=k:=by exact λ_=>rfl):g=true-> ∀w,Mem w0 L w-> ∀q u,(enc x)[q]?=some u->w.cell? ⟨b,0+p*k+i*k+q,none⟩=some u:=λ_ w hw q u hu=>by
 have:=xu he hw hk hx hu
 grind
end
theorem qy(A B): ∀(vs C:List Value) (off:Nat),off+vs.length<=C.length->setAt (A++C++B) (A.length+off) vs=A++setAt C off vs++B
 |[],C,off,_=>rfl
 |v::r,C,off,h=>by
  simp only [cL] at h
  have h1:(A++C++B).set (A.length+off) v=A++C.set off v++B:=by
   grind
  simp only [setAt]
  rw [h1,kf]
  exact qy A B r (C.set off v) (off+1) (by simp;omega)
theorem C5 {α:Type}: ∀(xs:List α) (i:Nat) (x y:α),xs[i]?=some x->xs=xs.take i++x::xs.drop (i+1)/\xs.set i y=xs.take i++y::xs.drop (i+1)
 |[],i,x,y,h=>by simp at h
 |a::xs,0,x,y,h=>by simp at h;subst h;simp
 |a::xs,i+1,x,y,h=>by
  obtain ⟨h1,h2⟩:=C5 xs i x y (by simpa using h)
  grind
section
variable {α:Type} {k:Nat} {enc:α->List Value} {c:Nat} {cs:List Value} {xs:List α}
theorem Ak.put(he: ∀x,(enc x).length=k)(h:Ak k enc c cs xs){i off x y vs}(hx:xs[i]?=some x)(ho:off+vs.length<=k)(hy:enc y=setAt (enc x) off vs):Ak k enc c (setAt cs (i*k+off) vs) (xs.set i y):=by
 obtain ⟨r,hr⟩:=h.rest
 refine ⟨by simpa using h.len,h.max,by rw [qx];exact h.size,r,?_⟩
 obtain ⟨h1,h2⟩:=C5 xs i x y hx
 grind [setAt,dX,qy]
theorem Ak.cut(he: ∀x,(enc x).length=k)(h:Ak k enc c cs xs){i vs}(hi:i<=xs.length)(hl:i*k+vs.length<=c*k):Ak k enc c (setAt cs (i*k) vs) (xs.take i):=by
 obtain ⟨r,hr⟩:=h.rest
 have h0:((xs.take i).flatMap enc).length=i*k:=by rw [dX he,dG,E3 hi]
 have e:cs=(xs.take i).flatMap enc++((xs.drop i).flatMap enc++r):=by
  rw [<-cE,<-jY,gg];exact hr
 refine ⟨by rw [dG];have:=h.len;omega,h.max,by rw [qx];exact h.size,setAt ((xs.drop i).flatMap enc++r) 0 vs,?_⟩
 have hs:=h.size
 rw [e] at hs|-
 simp only [aQ,h0] at hs
 have:=qy ((xs.take i).flatMap enc) [] vs ((xs.drop i).flatMap enc++r) 0 (by simp only [aQ];omega)
 grind
end
section
variable {α:Type} {e:TypeId} {k:Nat} {enc:α->List Value} {c' b:Nat} {xs:List α} {c:Cx} {w0:World} {L:List Item} {f:Fr} {K:List Item->Fr->Prop} {d:Nat} {ty t:TypeId} {pos:String} {af:Array Edge} {p q:Operand}
theorem Hz{P w j}(he: ∀x,(enc x).length=k)(hw:Mem w0 L w)(hk:L[j]?=some (dS e k enc (some ⟨b,0,none⟩) c' xs)){i off x y vs}(hx:xs[i]?=some x)(ho:off+vs.length<=k)(hy:enc y=setAt (enc x) off vs)(h1:vs.all kK=true):
  ∃w',(storeCells ⟨b,i*k+off,none⟩ vs 0).run P w= .ok () w'/\Mem w0 (L.set j (dS e k enc (some ⟨b,0,none⟩) c' (xs.set i y))) w':=by
 obtain ⟨cs,hc,hr⟩:=nP (hw.item hk)
 have hj:j<L.length:=(ai.1 hk).1
 have hw1:Mem w0 (L.set j (box b e cs)) w:=hw.swap hk (λx hx=>by cases hx;rfl) hc
 have hi:i<xs.length:=(ai.1 hx).1
 have hle:i*k+off+vs.length<=cs.length:=by
  rw [hr.size]
  have h3:=hr.len
  have h2:(i+1)*k<=c'*k:=qt _ (by omega)
  grind
 obtain ⟨w',hrun,hm⟩:=my (P:=P) (b:=b) (t:=e) (o:=i*k+off) (k:=j) vs 0 cs w _ hw1 (by simp [hj]) h1 (by simpa using hle)
 refine ⟨w',hrun,?_⟩
 rw [gV,pN] at hm
 have hA:(dS e k enc (some ⟨b,0,none⟩) c' (xs.set i y)).A w':=nC he (hm.item (k:=j) (it:=box b e (setAt cs (i*k+off) vs)) (by simp [hj])) (hr.put he hx ho hy)
 have:=hm.swap (j:=j) (it:=box b e (setAt cs (i*k+off) vs)) (by simp [hj]) (λx (hx:(some (⟨b,0,none⟩:Addr)).map (·.block)=some x)=>by cases hx;rfl) hA
 rw [gV] at this
 exact this
theorem iw(j){i off n x}(y){v}(hp:ev f p= .pointer (some ⟨b,0+i*k+off,none⟩))(hq:ev f q=v)(hs: ∀w,(sizeOf t).run c.P w= .ok n w)(hn:v.cells.size=n)(h1:v.cells.toList.all kK=true)(hk:L[j]?=some (dS e k enc (some ⟨b,0,none⟩) c' xs))(hx:xs[i]?=some x)(ho:Nat.ble (off+v.cells.toList.length) k=true)(hy:enc y=setAt (enc x) off v.cells.toList)(next:K (L.set j (dS e k enc (some ⟨b,0,none⟩) c' (xs.set i y))) f)(he: ∀x,(enc x).length=k:=by exact λ_=>rfl):vO c w0 L f ⟨none, .store t p q,ty,pos,af,none⟩ K:=
 ⟨rfl,rfl,rfl,λw hw=>by
  obtain ⟨w',hr,hm⟩:=Hz (P:=c.P) he hw hk hx (dW ho) hy h1
  rw [fq] at hp
  have:(execOp (ev f) ⟨none, .store t p q,ty,pos,af,none⟩).run c.P w= .ok .skip w':=by
   simp [execOp,hp,hq,Instr.storeAt,Instr.sureAddr,storeVar,hs,hn,hr,Result.andThen]
  rw [this]
  exact ⟨_,hm,hG hk rfl,next⟩⟩
theorem eR(j){i n x}(y){v}(hp:ev f p= .pointer (some ⟨b,0+i*k,none⟩))(hq:ev f q=v)(hs: ∀w,(sizeOf t).run c.P w= .ok n w)(hn:v.cells.size=n)(h1:v.cells.toList.all kK=true)(hk:L[j]?=some (dS e k enc (some ⟨b,0,none⟩) c' xs))(hx:xs[i]?=some x)(ho:Nat.ble (0+v.cells.toList.length) k=true)(hy:enc y=setAt (enc x) 0 v.cells.toList)(next:K (L.set j (dS e k enc (some ⟨b,0,none⟩) c' (xs.set i y))) f)(he: ∀x,(enc x).length=k:=by exact λ_=>rfl):vO c w0 L f ⟨none, .store t p q,ty,pos,af,none⟩ K:=
 iw j (off:=0) y hp hq hs hn h1 hk hx ho hy next he
theorem Gr(j){i m cap z}(ht:c.P.underlying t=some (.slice e))(hz: ∀w,(zeroValue e).run c.P w= .ok z w)(hzk:z.cells.size=k)(h1:z.cells.toList.all kK=true)(hp:ev f p= .slice (some ⟨b,0+i*k,none⟩) m cap)(hk:L[j]?=some (dS e k enc (some ⟨b,0,none⟩) c' xs))(hi:i+m=xs.length/\0<m)(next:K (L.set j (dS e k enc (some ⟨b,0,none⟩) c' (xs.take i))) f)(he: ∀x,(enc x).length=k:=by exact λ_=>rfl):vO c w0 L f ⟨none, .call {callee:= .builtin .clear,args:= #[p],argTypes:= #[t]},ty,pos,af,none⟩ K:=
 ⟨rfl,rfl,rfl,λw hw=>by
  obtain ⟨cs,hc,hr⟩:=nP (hw.item hk)
  have hj:j<L.length:=(ai.1 hk).1
  have hw1:Mem w0 (L.set j (box b e cs)) w:=hw.swap hk (λx hx=>by cases hx;rfl) hc
  have hzl:(Builtin.zeroCells z.cells m).toList.length=m*k:=by simp [size_zeroCells,hzk]
  have hzo:(Builtin.zeroCells z.cells m).toList.all kK=true:=by
   rw [kH]
   intro v hv
   simp only [Builtin.zeroCells,Array.toList_map,Array.toList_range,cW,kg] at hv
   obtain ⟨q,hq,rfl⟩:=hv
   have hk0:0<z.cells.size:=by
    rcases ga z.cells.size with h|h
    ·rw [h] at hq;omega
    exact h
   have hqk:q%z.cells.size<z.cells.size:=l0 _ hk0
   rw [nO z.cells _ hqk]
   exact kH.1 h1 _ (by simp)
  have hle:i*k+m*k<=c'*k:=by
   rw [<-uj];exact qt _ (by have:=hr.len;omega)
  obtain ⟨w',hrun,hm⟩:=my (P:=c.P) (b:=b) (t:=e) (o:=i*k) (k:=j) (Builtin.zeroCells z.cells m).toList 0 cs w _ hw1 (by simp [hj]) hzo (by rw [hzl,hr.size];simpa using hle)
  rw [gV,pN] at hm
  have hA:(dS e k enc (some ⟨b,0,none⟩) c' (xs.take i)).A w':=nC he (hm.item (k:=j) (it:=box b e (setAt cs (i*k) (Builtin.zeroCells z.cells m).toList)) (by simp [hj])) (hr.cut he (by omega) (by rw [hzl];exact hle))
  have hm2:=hm.swap (j:=j) (it:=box b e (setAt cs (i*k) (Builtin.zeroCells z.cells m).toList)) (by simp [hj]) (λx (hx:(some (⟨b,0,none⟩:Addr)).map (·.block)=some x)=>by cases hx;rfl) hA
  rw [gV] at hm2
  rw [fq] at hp
  have hm0:m≠0:=by omega
  have:(execOp (ev f) ⟨none, .call {callee:= .builtin .clear,args:= #[p],argTypes:= #[t]},ty,pos,af,none⟩).run c.P w= .ok (.value (.tuple #[])) w':=by
   obtain ⟨m',rfl⟩: ∃m',m=m'+1:=⟨m -1,by omega⟩
   simp [execOp,resolve,invoke,builtin,hp,Builtin.clear_,run_underlying ht,hz,hrun,Result.andThen]
  rw [this]
  exact ⟨_,hm2,hG hk rfl,next⟩⟩
theorem Kf {j:Nat} {i:Nat} {w:World} (he: ∀x,(enc x).length=k) (hw:Mem w0 L w) (hk:L[j]?=some (dS e k enc (some ⟨b,0,none⟩) c' xs)):Mem w0 (L.set j (dS e k enc (some ⟨b,0,none⟩) c' (xs.take i))) w:=by
 obtain ⟨cs,hc,hr⟩:=nP (hw.item hk)
 refine hw.swap hk (λx hx=>hx) (nC he hc ⟨by rw [dG];have:=hr.len;omega,hr.max,hr.size,?_⟩)
 obtain ⟨r,h⟩:=hr.rest
 exact ⟨(xs.drop i).flatMap enc++r,by rw [<-cE,<-jY,gg];exact h⟩
theorem kz{n m : Nat}{z i k}(enc : α -> List Value)(zx)(ht : c.P.underlying t = some (.slice e))(hi : c.P.info? e = some i)(hz : i.zero = some z)(hsize : i.size = k)(hzs : z.cells.toList = enc zx)(hp : ev f p = .int .i64 n)(hq : ev f q = .int .i64 m)(hlen : (n <= m /\ m <= 1000000) /\ i.bytes <= 100000)(hd : Nat.blt d c.N = true)(next : ∀ b, K (dS e k enc (some ⟨b, 0, none⟩) m (List.replicate n zx) :: L) (kV f d (.slice (some ⟨b, 0, none⟩) n m)))(he : ∀ x, (enc x).length = k := by exact λ_ => rfl): vO c w0 L f ⟨some d, .makeSlice t p q, ty, pos, af, none⟩ K :=
  ⟨rfl, rfl, hd, λw hw => by
    have hb : (i.bytes : Int) * (m : Int) <= 281474976710656 := by
      have h1 : i.bytes * m <= 100000 * 1000000 := Iy hlen.2 hlen.1.2
      have h2 : ((i.bytes * m : Nat) : Int) <= 281474976710656 := by omega
      rwa [Int.natCast_mul] at h2
    have hr := run_make (P := c.P) w t e i z ht hi hz .i64 .i64 n m (by omega) (by omega) hb (by omega)
    have : (execOp (ev f) ⟨some d, .makeSlice t p q, ty, pos, af, none⟩).run c.P w = .ok (.value (.slice (some ⟨w.heap.size, 0, none⟩) n m)) (w.alloc (.cells (madeCells z.cells (m * i.size)) e)) := by
      simp only [bC] at hr
      simp [execOp, hp, hq, hr, Result.andThen]
    rw [this]
    subst hsize
    have hzk : z.cells.size = i.size := by rw [<- JP, hzs, he]
    have hcell : ∀ q, (madeCells z.cells (q * i.size)).toList = (List.replicate q zx).flatMap enc := by
      intro q
      apply fh
      intro y
      by_cases hy : y < q * i.size
      · have hk : 0 < i.size := by rcases ga i.size with h | h; · rw [h] at hy; omega
                                   · exact h
        have hyk : y % i.size < i.size := l0 _ hk
        have h1 : (List.replicate q zx)[y / i.size]? = some zx := by
          rw [jz, aB (Ha (by rw [zF]; exact hy))]
        have h2 : (enc zx)[y % i.size]? = some ((enc zx)[y % i.size]'(by rw [he]; exact hyk)) := ah _
        have h3 := rD he _ _ _ h1 _ _ h2
        rw [zF, SD] at h3
        rw [h3]
        simp only [madeCells, Array.toList_map, Array.toList_range, cV, List.getElem?_range hy, ni, hzk]
        congr 1
        rw [nO z.cells _ (by rw [hzk]; exact hyk), <- Array.getElem_toList]
        simp only [hzs]
      · rw [iu (by simp [madeCells]; omega), iu (by rw [dX he]; simp; omega)]
    refine ⟨dS e i.size enc (some ⟨w.heap.size, 0, none⟩) m (List.replicate n zx) :: L, hw.new _ _ (λb hb => by cases hb; rfl) ?_, rfl, ?_⟩
    · refine nC he (cs := (madeCells z.cells (m * i.size)).toList) (heap_alloc_new w _) ⟨by simpa using hlen.1.1, by simp only [maxLen]; omega, by simp [size_madeCells], (List.replicate (m - n) zx).flatMap enc, ?_⟩
      rw [hcell, <- jY, List.replicate_append_replicate]
      congr 2
      omega
    · exact next w.heap.size⟩
end
section
variable {c:Cx} {w0:World} {L:List Item} {f:Fr} {ty t el:TypeId} {g:Bool} {x y:Operand}
theorem EG{b o n cp sz m}(j:Nat)(ht:c.P.underlying t=some (.slice el))(hs: ∀w,(sizeOf el).run c.P w= .ok sz w)(hx:gH g f x (.slice (some ⟨b,o,none⟩) n cp))(hy:gH g f y (.int .i64 m))(hm:g=true->m=(j:Int)/\j<n/\n<=cp):
  gj g c w0 L f (.slice t x (some y) none none) ty (.slice (some ⟨b,o+j*sz,none⟩) (n -j) (cp -j)):=λe _ _ _ _ w _=>by
 obtain ⟨rfl,hj,hc⟩:=hm e
 have h1:(0:Int)<=(j:Int)/\(j:Int)<=(n:Int):=by omega
 have h2:cp≠j:=by omega
 simp [execOp,hx e,hy e,Instr.sliceAt,Instr.slice,Instr.sliceBounds,Instr.sliceBound,asIntOf,run_underlying ht,hs,Result.andThen,addr_add,h2,show j<=n by omega]
def k9 (A:Option Addr) (cp j sz:Nat):Option Addr:=if cp=j then A else A.map (·.add (j*sz))
theorem qD{A n cp sz m}(j:Nat)(ht:c.P.underlying t=some (.slice el))(hs: ∀w,(sizeOf el).run c.P w= .ok sz w)(hx:gH g f x (.slice A n cp))(hy:gH g f y (.int .i64 m))(hm:g=true->m=(j:Int)/\j<=n):
  gj g c w0 L f (.slice t x (some y) none none) ty (.slice (k9 A cp j sz) (n -j) (cp -j)):=λe _ _ _ _ w _=>by
 obtain ⟨rfl,hj⟩:=hm e
 simp [execOp,hx e,hy e,Instr.sliceAt,Instr.slice,Instr.sliceBounds,Instr.sliceBound,asIntOf,run_underlying ht,hs,Result.andThen,hj,k9]
theorem uW{A n cp sz m}(j:Nat)(ht:c.P.underlying t=some (.slice el))(hs: ∀w,(sizeOf el).run c.P w= .ok sz w)(hx:gH g f x (.slice A n cp))(hy:gH g f y (.int .i64 m))(hm:g=true->m=(j:Int)/\j<=cp):
  gj g c w0 L f (.slice t x none (some y) none) ty (.slice A j cp):=λe _ _ _ _ w _=>by
 obtain ⟨rfl,hj⟩:=hm e
 have ha:A.map (·.add (0*sz))=A:=by
  cases A with
  |none=>rfl
  |some a=>simp [Addr.add]
 simp only [Nat.zero_mul] at ha
 simp [execOp,hx e,hy e,Instr.sliceAt,Instr.slice,Instr.sliceBounds,Instr.sliceBound,asIntOf,run_underlying ht,hs,Result.andThen,hj,ha]
theorem Cq{A n cp t2}(ht:c.P.underlying t=some (.slice el))(hx:gH g f x (.slice A n cp)):gj g c w0 L f (.binOp .eql t x (.const (.slice none 0 0)) t2) ty (.bool A.isNone):=λe _ _ _ _ w _=>by
 have hq: ∀d,(Op.equalIn (d+1) t (.slice A n cp) (.slice none 0 0)).run c.P w= .ok A.isNone w:=λd=>by
  cases A<;>simp [Op.equalIn,run_underlying ht]
 have hq:(Op.equal t (.slice A n cp) (.slice none 0 0)).run c.P w= .ok A.isNone w:=hq 9999
 simp [execOp,hx e,te,eqGuard,binOp,hq,Result.andThen]
theorem ti{A t2}(ht:c.P.underlying t=some (.pointer el))(hx:gH g f x (.pointer A)):gj g c w0 L f (.binOp .eql t x (.const (.pointer none)) t2) ty (.bool A.isNone):=λe _ _ _ _ w _=>by
 have hq: ∀d,(Op.equalIn (d+1) t (.pointer A) (.pointer none)).run c.P w= .ok A.isNone w:=λd=>by
  cases A<;>simp [Op.equalIn,run_underlying ht]
 have hq:(Op.equal t (.pointer A) (.pointer none)).run c.P w= .ok A.isNone w:=hq 9999
 simp [execOp,hx e,te,eqGuard,binOp,hq,Result.andThen]
theorem Cp{ps rs va fn a1 a2 t2}(ht:c.P.underlying t=some (.func ps rs va))(hx:gH g f x (.func fn a1 a2)):gj g c w0 L f (.binOp .neq t x (.const .nilFunc) t2) ty (.bool true):=λe _ _ _ _ w _=>by
 have hq: ∀d,(Op.equalIn (d+1) t (.func fn a1 a2) .nilFunc).run c.P w= .ok false w:=λd=>by
  simp [Op.equalIn,run_underlying ht]
 have hq:(Op.equal t (.func fn a1 a2) .nilFunc).run c.P w= .ok false w:=hq 9999
 simp [execOp,hx e,te,eqGuard,binOp,hq,Result.andThen]
theorem zg{ps rs va t2}(ht:c.P.underlying t=some (.func ps rs va))(hx:gH g f x .nilFunc):gj g c w0 L f (.binOp .neq t x (.const .nilFunc) t2) ty (.bool false):=λe _ _ _ _ w _=>by
 have hq: ∀d,(Op.equalIn (d+1) t .nilFunc .nilFunc).run c.P w= .ok true w:=λd=>by
  simp [Op.equalIn,run_underlying ht]
 have hq:(Op.equal t .nilFunc .nilFunc).run c.P w= .ok true w:=hq 9999
 simp [execOp,hx e,te,eqGuard,binOp,hq,Result.andThen]
end
theorem eG.drop{α w k}{enc:α->List Value}{A n cp xs}(h:eG w k enc A n xs){i}(hi:i<=n)(hc:n<=cp):eG w k enc (k9 A cp i k) (n -i) (xs.drop i):=by
 grind [eG,k9,addr_add]
theorem gI{P k fn code l w0 w L R N}(hw:Mem w0 L w)(hmk:marks L=[])(hf:P.funcs[k]?=some fn)(hb:fn.body=some code)(hN:fn.ntmps=N)(hl:Nat.ble l.length N=true)(h:H ⟨P,none,N⟩ code (Aw ⟨P,none,N⟩ fn R) w0 L (KH l)):Calls P k l.toArray w R:=by
 have hl':l.length<=N:=dW hl
 refine GM (n:=0) (callsIn_of_wp_marks hf hb trivial (wpIn_mono (h _ w ⟨?_,?_,hmk.symm⟩ hw) ?_) rfl)
 ·simp [hN];omega
 ·intro i
  simp only [eZ,KH,ar]
  grind
 rintro e a w' ⟨u',L',f',k1,k2,k3⟩
 cases e with
 |normal=>have:=k3 w' a k2 k1;rw [<-k1.defers] at this;exact this
 |ret=>have:=k3 w' a k2 k1;rw [<-k1.defers] at this;exact this
 |exit i=>exact k3.elim
 |goto l=>exact k3.elim
 |panic ch=>exact k3.elim
 |outgrown=>exact k3.elim
theorem wW {α:Type}: ∀(L:List α) (j:Nat) (x:α),L[j]?=some x->(x::L.eraseIdx j).Perm L
 |[],_,_,h=>by simp at h
 |a::L,0,x,h=>by simp at h;subst h;simp
 |a::L,j+1,x,h=>by
  have:=wW L j x (by simpa using h)
  simp only [sF]
  exact (List.Perm.swap a x _).trans (this.cons a)
theorem set_perm {α:Type}: ∀(L:List α) (j:Nat) (y:α),j<L.length->(L.set j y).Perm (y::L.eraseIdx j)
 |[],_,_,h=>by simp at h
 |a::L,0,y,_=>by simp
 |a::L,j+1,y,h=>by
  have:=set_perm L j y (by simpa using h)
  simp only [sF,List.set_cons_succ]
  exact (this.cons a).trans (List.Perm.swap y a _)
theorem Mem.front{w0 w L j it}(h:Mem w0 L w)(hk:L[j]?=some it):Mem w0 (it::L.eraseIdx j) w:=h.perm (wW L j it hk)
theorem Mem.back{w0 w}{L:List Item}{j it it'}(h:Mem w0 (it'::L.eraseIdx j) w)(hk:L[j]?=some it):Mem w0 (L.set j it') w:=h.perm (set_perm L j it' (ai.1 hk).1)
theorem zS: ∀(L:List Item) (j:Nat),marks L=[]->marks (L.eraseIdx j)=[]
 |[],j,_=>by simp [marks]
 |a::L,0,h=>by rw [ju,jP] at h;simpa using h.2
 |a::L,j+1,h=>by
  rw [ju,jP] at h
  rw [sF,ju,h.1,zS L j h.2];rfl
section
variable {c:Cx} {w0:World} {L:List Item} {f:Fr} {K:List Item->Fr->Prop} {dst:Option Nat} {ty:TypeId} {pos:String} {af:Array Edge}
theorem dD{α:Type}{op k args}{val:α->Value}{Lx:α->List Item}(hen:lV true c w0 L f op ty k args)(hc: ∀w,Mem w0 L w->Calls c.P k args w λe w'=> ∃x:α,e= .returned (val x)/\Mem w0 (Lx x) w')(hd:Nl c dst=true)(hmk: ∀x,marks (Lx x)=marks L)(next: ∀x,K (Lx x) (wN f dst (val x)))(hnd:ew op=false:=by rfl):vO c w0 L f ⟨dst,op,ty,pos,af,none⟩ K:=
 ⟨rfl,hnd,hd,λw hw=>by
  rw [hen rfl _ _ _ _ w hw]
  refine ⟨rfl,(hc w hw).mono ?_⟩
  rintro e w' ⟨x,rfl,hm⟩
  exact ⟨_,_,rfl,hm,hmk x,next x⟩⟩
end
end Go.Proofs.E
