import Derived.Sort.QuietThIn
import Derived.TacticsIn
import Derived.Below
import Derived.Laws.AppendOwn
import Derived.RangeFuncLeaves
import Derived.MapKept
import Derived.Shelf.Abstract
import Derived.Sort.LoopGhostIn
import Derived.RangeFuncRecord
import Derived.RangeFuncIn
import Derived.IntWalk
import Derived.Laws.MakeOwn
import Derived.Laws.NewFold
set_option linter.unusedVariables false
set_option linter.unusedSimpArgs false
namespace Go
abbrev WW:=@Array.ext'
abbrev cu:=@Array.getD_eq_getD_getElem?
abbrev yZ:=@Array.getElem?_append_left
abbrev mu:=@Array.getElem?_eq_getElem
abbrev cD:=@Array.getElem?_eq_none
abbrev cm:=@Array.getElem?_eq_some_iff
abbrev kd:=@Array.getElem?_modify
abbrev rO:=@Array.getElem?_replicate
abbrev eR:=@Array.getElem?_setIfInBounds_ne
abbrev cC:=@Array.getElem?_setIfInBounds_self_of_lt
abbrev FL:=@Array.getElem?_toList
abbrev HP:=@Array.getElem_toList
abbrev Ks:=@Array.length_toList
abbrev HO:=@Array.mem_toList_iff
abbrev WV:=@Array.setIfInBounds_comm
abbrev Pv:=@Array.size_append
abbrev Wo:=@Array.size_map
abbrev bQ:=@Bool.and_eq_true
abbrev mJ:=@Bool.eq_iff_iff
abbrev jy:=@Bool.false_eq_true
abbrev Dg:=@Bool.false_or
abbrev Me:=@Bool.not_eq_false'
abbrev jg:=@Bool.not_eq_true'
abbrev kN:=@Bool.or_eq_false_iff
abbrev FK:=@Bool.or_eq_true
abbrev sR:=@Bool.true_and
abbrev dZ:=@Classical.byContradiction
abbrev kM:=@Decidable.of_not_not
abbrev sQ:=@Int.eq_ofNat_of_zero_le
abbrev gI:=@Int.le_refl
abbrev FJ:=@Int.le_trans
abbrev RH:=@Int.mul_le_mul_of_nonneg_right
abbrev I5:=@Int.mul_nonneg
abbrev VZ:=@Int.tdiv_eq_ediv_of_nonneg
abbrev UO:=@Int.tdiv_nonneg
abbrev aM:=@Int.toNat_natCast
abbrev uD:=@List.Nodup.length_le_of_subset
abbrev pJ:=@List.Perm.append_left
abbrev tS:=@List.Perm.append_right
abbrev Bk:=@List.Perm.eq_of_pairwise
abbrev uB:=@List.Perm.refl
abbrev lF:=@List.all_append
abbrev nQ:=@List.all_cons
abbrev eF:=@List.all_eq_true
abbrev pI:=@List.any_append
abbrev Df:=@List.any_cons
abbrev jf:=@List.any_eq_false
abbrev cY:=@List.any_eq_true
abbrev cP:=@List.append_assoc
abbrev cz:=@List.append_nil
abbrev FI:=@List.concat_eq_append
abbrev UN:=@List.cons.injEq
abbrev gx:=@List.cons_append
abbrev zZ:=@List.countP_append
abbrev nX:=@List.countP_cons
abbrev Kr:=@List.countP_eq_zero
abbrev FH:=@List.countP_le_length
abbrev Wm:=@List.drop_drop
abbrev cL:=@List.drop_eq_getElem_cons
abbrev nW:=@List.drop_length
abbrev iP:=@List.drop_of_length_le
abbrev bW:=@List.eq_nil_of_length_eq_zero
abbrev FG:=@List.eq_nil_or_concat
abbrev rN:=@List.eq_of_mem_replicate
abbrev sP:=@List.eraseIdx_cons_succ
abbrev jx:=@List.eraseP_cons_of_neg
abbrev cU:=@List.ext_getElem?
abbrev dw:=@List.filter_append
abbrev uw:=@List.filter_congr
abbrev jI:=@List.filter_cons
abbrev iB:=@List.filter_cons_of_neg
abbrev iA:=@List.filter_cons_of_pos
abbrev Ez:=@List.filter_eq_nil_iff
abbrev oW:=@List.filter_filter
abbrev mI:=@List.filter_nil
abbrev Kq:=@List.filter_sublist
abbrev je:=@List.find?_append
abbrev lE:=@List.find?_cons
abbrev gH:=@List.find?_cons_of_neg
abbrev kD:=@List.find?_eq_none
abbrev WU:=@List.find?_range_eq_some
abbrev sO:=@List.find?_some
abbrev Md:=@List.findIdx?_cons
abbrev qU:=@List.findIdx?_eq_none_iff
abbrev mf:=@List.findIdx?_eq_some_iff_getElem
abbrev lD:=@List.flatMap_append
abbrev gD:=@List.flatMap_cons
abbrev SQ:=@List.flatMap_nil
abbrev df:=@List.foldl_append
abbrev cO:=@List.foldl_cons
abbrev aq:=@List.getD_eq_getElem?_getD
abbrev dM:=@List.getElem?_append_left
abbrev cy:=@List.getElem?_append_right
abbrev De:=@List.getElem?_cons_succ
abbrev Dd:=@List.getElem?_cons_zero
abbrev kC:=@List.getElem?_drop
abbrev aj:=@List.getElem?_eq_getElem
abbrev dC:=@List.getElem?_eq_none
abbrev aa:=@List.getElem?_eq_some_iff
abbrev bf:=@List.getElem?_map
abbrev HN:=@List.getElem?_modify
abbrev kL:=@List.getElem?_of_mem
abbrev gp:=@List.getElem?_replicate
abbrev bw:=@List.getElem?_set
abbrev cj:=@List.getElem?_set_ne
abbrev de:=@List.getElem?_set_self
abbrev WT:=@List.getElem?_take_of_lt
abbrev AB:=@List.getElem?_zip_eq_some
abbrev ij:=@List.getElem_map
abbrev SP:=@List.getElem_mem
abbrev nP:=@List.getElem_of_mem
abbrev HM:=@List.getLast?_append
abbrev Dc:=@List.getLast?_singleton
abbrev SO:=@List.isEmpty_iff
abbrev bV:=@List.length_append
abbrev bB:=@List.length_cons
abbrev Dt:=@List.length_drop
abbrev da:=@List.length_filter_le
abbrev aD:=@List.length_map
abbrev kb:=@List.length_mergeSort
abbrev eU:=@List.length_nil
abbrev me:=@List.length_replicate
abbrev dU:=@List.length_set
abbrev cH:=@List.length_take
abbrev lC:=@List.length_zip
abbrev bX:=@List.map_append
abbrev Kp:=@List.map_congr_left
abbrev cI:=@List.map_cons
abbrev SM:=@List.map_fst_zip
abbrev fO:=@List.map_map
abbrev zY:=@List.map_nil
abbrev k8:=@List.map_set
abbrev aQ:=@List.mem_append
abbrev bU:=@List.mem_cons
abbrev aB:=@List.mem_cons_of_mem
abbrev bF:=@List.mem_cons_self
abbrev dT:=@List.mem_filter
abbrev dO:=@List.mem_flatMap
abbrev bC:=@List.mem_iff_getElem?
abbrev bJ:=@List.mem_map
abbrev cM:=@List.mem_map_of_mem
abbrev gB:=@List.mem_of_find?_eq_some
abbrev an:=@List.mem_of_getElem?
abbrev HK:=@List.mem_of_mem_take
abbrev cK:=@List.mem_or_eq_of_mem_set
abbrev dL:=@List.mem_range
abbrev Pu:=@List.mem_range'_1
abbrev bu:=@List.mem_singleton
abbrev yY:=@List.mergeSort_of_pairwise
abbrev eT:=@List.mergeSort_perm
abbrev ka:=@List.nil_append
abbrev jR:=@List.nodup_append
abbrev xM:=@List.nodup_cons
abbrev jY:=@List.nodup_nil
abbrev SL:=@List.not_mem_nil
abbrev jA:=@List.pairwise_append
abbrev bL:=@List.pairwise_cons
abbrev bj:=@List.pairwise_iff_getElem
abbrev gA:=@List.pairwise_map
abbrev iz:=@List.pairwise_mergeSort
abbrev ic:=@List.perm_append_comm_assoc
abbrev VY:=@List.perm_ext_iff_of_nodup
abbrev fx:=@List.perm_middle
abbrev mH:=@List.range_succ
abbrev rI:=@List.replicate_succ
abbrev HJ:=@List.replicate_succ'
abbrev Ko:=@List.replicate_zero
abbrev ib:=@List.set_append_right
abbrev sN:=@List.set_cons_succ
abbrev sM:=@List.set_cons_zero
abbrev WS:=@List.set_eq_of_length_le
abbrev mc:=@List.set_getElem_self
abbrev fB:=@List.set_set
abbrev Bj:=@List.size_toArray
abbrev iy:=@List.take_add_one
abbrev fz:=@List.take_append_drop
abbrev SJ:=@List.take_append_of_le_length
abbrev dp:=@List.take_length
abbrev bN:=@List.take_of_length_le
abbrev Kn:=@List.take_succ_cons
abbrev ma:=@Nat.add_assoc
abbrev uv:=@Nat.add_mul
abbrev WR:=@Nat.add_right_cancel_iff
abbrev nF:=@Nat.add_zero
abbrev UM:=@Nat.div_add_mod
abbrev HI:=@Nat.div_lt_of_lt_mul
abbrev j9:=@Nat.eq_of_beq_eq_true
abbrev du:=@Nat.eq_zero_or_pos
abbrev ep:=@Nat.le_of_ble_eq_true
abbrev bq:=@Nat.le_refl
abbrev Db:=@Nat.le_succ
abbrev jd:=@Nat.le_trans
abbrev gL:=@Nat.lt_of_lt_of_le
abbrev l':=@Nat.lt_or_ge
abbrev oV:=@Nat.lt_or_gt_of_ne
abbrev jQ:=@Nat.lt_trichotomy
abbrev UK:=@Nat.min_eq_left
abbrev WQ:=@Nat.mod_lt
abbrev zX:=@Nat.mul_comm
abbrev Wl:=@Nat.mul_le_mul
abbrev wy:=@Nat.mul_le_mul_right
abbrev UJ:=@Nat.not_lt_zero
abbrev fy:=@Nat.sub_self
abbrev RG:=@Nat.succ_mul
abbrev dj:=@Nat.zero_add
abbrev aU:=@Nat.zero_le
abbrev RF:=@Nat.zero_mul
abbrev l6:=@Option.getD_some
abbrev fU:=@Option.map_some
abbrev j8:=@Option.some.inj
abbrev eQ:=@Option.some.injEq
abbrev Wk:=@Option.some_or
abbrev nO:=@Prod.mk.injEq
abbrev Mc:=@and_true
abbrev dt:=@beq_eq_false_iff_ne
abbrev xG:=@beq_iff_eq
abbrev SI:=@beq_self_eq_true
abbrev Pt:=@cond_false
abbrev aT:=@congrArg
abbrev dm:=@decide_eq_false_iff_not
abbrev Wj:=@decide_eq_true
abbrev dd:=@decide_eq_true_eq
abbrev UI:=@eq_comm
abbrev jH:=@getElem!_pos
abbrev lM:=@if_false
abbrev ah:=@if_neg
abbrev av:=@if_pos
abbrev qo:=@if_true
abbrev Km:=@ne_eq
abbrev ix:=@not_false_eq_true
abbrev Uy:=@not_true
abbrev cS:=@of_decide_eq_false
abbrev cJ:=@of_decide_eq_true
end Go
namespace Go.Proofs.E
open Go Go.RowKit
abbrev Fr:=Nat→Value
def kX (f:Fr) (i:Nat) (v:Value):Fr:=fun j=>bif Nat.beq j i then v else f j
def ev (f:Fr):Operand→Value
 | .tmp t=>f t
 | .const v=>v
 | .global g=> .pointer (some ⟨g,0,none⟩)
 | .func g=> .func (.func g) #[] #[]
structure mr (N:Nat) (ds:List Deferred) (a:Act) (f:Fr):Prop where
 size:a.tmps.size=N
 get: ∀i,a.tmps.getD i undef=f i
 defers:a.defers=ds
theorem mr.eval {N:Nat} {ds:List Deferred} {a:Act} {f:Fr} (h:mr N ds a f):a.eval=ev f:=by
 funext x;cases x with
 |tmp t=>exact h.get t
 |const v=>rfl
 |global g=>rfl
 |func g=>rfl
theorem mr.put {N:Nat} {ds:List Deferred} {a:Act} {f:Fr} (h:mr N ds a f) {d:Nat} (hd:Nat.blt d N=true) (v:Value):mr N ds (a.put (some d) v) (kX f d v):=by
 have hlt:d<a.tmps.size:=by rw [h.size];simpa using hd
 refine ⟨by simp [Act.put,h.size],fun i=>?_,h.defers⟩;unfold kX;by_cases hi:i=d
 ·subst hi;simp [Act.put,hlt]
 have h1:Nat.beq i d=false:=by
  cases hb:Nat.beq i d with
  |false=>rfl
  |true=>exact absurd (j9 hb) hi
 have h2:=h.get i;simp only [Act.put,h1,Pt];rw [←h2];simp only [cu];rw [eR (Ne.symm hi)]
theorem mr.Gl {N:Nat} {ds:List Deferred} {a:Act} {f:Fr} (h:mr N ds a f) (v:Value):mr N ds (a.put none v) f:=h
def QC (v:Value) (b:Bool):Bool:=match v with| .bool x=>x==b|_=>false
def gd (f:Fr):Option (Nat×Bool)→List (Option Nat)→Bool
 |none,_=>true
 |some (j,b),dsts=>match dsts[j]? with|some (some d)=>QC (f d) b|_=>false
theorem o7 {N:Nat} {ds:List Deferred} {a:Act} {f:Fr} (h:mr N ds a f) (o:Oper) (ops:List Oper):Region.wanted o (yielded ops.toArray a.tmps)=gd f o.guard (ops.map (·.dst)):=by
 unfold Region.wanted gd;cases hg:o.guard with
 |none=>rfl
 |some p=>
  obtain ⟨j,b⟩:=p;simp only [yielded,List.getElem?_toArray,bf];cases hj:ops[j]? with
  |none=>simp
  |some oj=>
   simp only [Option.bind_some,fU];cases hd:oj.dst with
   |none=>simp
   |some d=>
    simp only [Option.bind_some];have h2:=h.get d;rw [cu] at h2;cases ht:a.tmps[d]? with
    |none=>
     rw [ht] at h2;simp only [Option.getD_none] at h2;rw [←h2];simp [QC,undef]
    |some v=>
     rw [ht] at h2;simp only [l6] at h2;rw [←h2];cases v<;>simp [QC]
structure Item where
 fp:Nat→Prop
 A:World→Prop
 st: ∀w w',(∀b,fp b→w'.heap[b]?=w.heap[b]?)→A w→A w'
 due:List Deferred:=[]
def marks (L:List Item):List Deferred:=L.flatMap (·.due)
theorem jN (it:Item) (L:List Item):marks (it::L)=it.due++marks L:=by simp [marks]
theorem iU (L L':List Item):marks (L++L')=marks L++marks L':=by simp [marks]
theorem ie: ∀{L:List Item} {k:Nat} {it it':Item},L[k]?=some it→it'.due=it.due→marks (L.set k it')=marks L
 |[],_,_,_,h,_=>by simp at h
 |x::L,0,it,it',h,e=>by simp at h;subst h;simp [marks,e]
 |x::L,k+1,it,it',h,e=>by
  have:=ie (L:=L) (k:=k) (it:=it) (it':=it') (by simpa using h) e;simp only [sN,jN,this]
structure gz (w w':World):Prop extends Below w.heap.size w w' where
 drawn:w.drawn≤w'.drawn
theorem gz.refl (w:World):gz w w:=⟨Below.refl _ _,bq _⟩
theorem gz.trans {a b c:World} (h:gz a b) (k:gz b c):gz a c:=⟨h.toBelow.trans (k.toBelow.mono h.size),jd h.drawn k.drawn⟩
theorem gz.alloc (w:World) (o:Obj):gz w (w.alloc o):=⟨(Below.refl _ _).alloc (bq _) _,bq _⟩
def Mem (w0:World) (L:List Item) (w:World):Prop:=
 gz w0 w∧(∀it∈L,it.A w)∧(∀it∈L,∀b,it.fp b→w0.heap.size≤b∧b<w.heap.size)∧L.Pairwise (fun x y=> ∀b,x.fp b→ ¬y.fp b)
theorem Mem.start (w:World):Mem w [] w:=⟨gz.refl _,by simp,by simp, .nil⟩
theorem iT {w0 w:World}:Mem w0 [] w↔gz w0 w:=⟨fun h=>h.1,fun h=>⟨h,by simp,by simp, .nil⟩⟩
theorem Mem.call {w0 w w':World} {L:List Item} (h:Mem w0 L w) (hb:gz w w'):Mem w0 L w':=by
 obtain ⟨h1,h2,h3,h4⟩:=h;refine ⟨h1.trans hb,fun it hi=>it.st w w' (fun b hf=>hb.block b (h3 it hi b hf).2) (h2 it hi),fun it hi b hf=>⟨(h3 it hi b hf).1,gL (h3 it hi b hf).2 hb.size⟩,h4⟩
theorem Mem.J2 {w0 w w':World} {L L':List Item} (h:Mem w0 L w) (hc:Mem w L' w'):Mem w0 (L'++L) w':=by
 have h':=h.call hc.1;obtain ⟨h1,h2,h3,h4⟩:=h';obtain ⟨c1,c2,c3,c4⟩:=hc;refine ⟨h1,?_,?_,?_⟩
 ·intro it hi;rcases aQ.1 hi with hi|hi
  ·exact c2 it hi
  exact h2 it hi
 ·intro it hi b hf;rcases aQ.1 hi with hi|hi
  ·exact ⟨jd h.1.size (c3 it hi b hf).1,(c3 it hi b hf).2⟩
  exact h3 it hi b hf
 refine jA.2 ⟨c4,h4,fun x hx y hy b hf hg=>?_⟩;have e1:=(c3 x hx b hf).1;have e2:=(h.2.2.1 y hy b hg).2;omega
theorem Mem.new {w0 w:World} {L:List Item} (h:Mem w0 L w) (o:Obj) (it:Item) (hf: ∀b,it.fp b→b=w.heap.size) (hA:it.A (w.alloc o)):Mem w0 (it::L) (w.alloc o):=by
 have hb:gz w (w.alloc o):=gz.alloc w o;have h':=h.call hb;obtain ⟨h1,h2,h3,h4⟩:=h';refine ⟨h1,?_,?_,?_⟩
 ·intro x hx;rcases bU.1 hx with rfl|hx
  ·exact hA
  exact h2 x hx
 ·intro x hx b hb;rcases bU.1 hx with rfl|hx
  ·have:=hf b hb;subst this;exact ⟨h.1.size,by simp⟩
  exact h3 x hx b hb
 refine bL.2 ⟨fun y hy b hb hg=>?_,h4⟩;have e:=hf b hb;have:=(h.2.2.1 y hy b hg).2;omega
theorem Mem.set {w0 w w':World} {L:List Item} {k:Nat} {it it':Item} (h:Mem w0 L w) (hk:L[k]?=some it) (hfp: ∀b,it'.fp b→it.fp b) (hA:it'.A w')
  (hos:w'.os=w.os∧w'.tape=w.tape∧w'.output=w.output∧w'.heap.size=w.heap.size∧w.drawn≤w'.drawn) (hout: ∀b,¬it.fp b→w'.heap[b]?=w.heap[b]?):Mem w0 (L.set k it') w':=by
 obtain ⟨h1,h2,h3,h4⟩:=h;have hmem:=an hk;refine ⟨⟨⟨hos.1.trans h1.os,hos.2.1.trans h1.tape,hos.2.2.1.trans h1.output,by rw [hos.2.2.2.1];exact h1.size,fun b hb=>(hout b (fun hf=>by have:=(h3 it hmem b hf).1;omega)).trans (h1.block b hb)⟩,jd h1.drawn hos.2.2.2.2⟩,?_,?_,?_⟩
 ·intro x hx;obtain ⟨j,hj⟩:=bC.1 hx;rw [bw] at hj;split at hj
  ·split at hj
   ·cases hj;exact hA
   cases hj
  rename_i hne;have hxm:=an hj;refine x.st w w' (fun b hf=>hout b (fun hg=>?_)) (h2 x hxm);rcases oV hne with hlt|hlt
  ·obtain ⟨p,hp⟩:=aa.1 hk;obtain ⟨q,hq⟩:=aa.1 hj;have:=bj.1 h4 k j p q hlt b (hp▸hg);exact this (hq▸hf)
  obtain ⟨p,hp⟩:=aa.1 hk;obtain ⟨q,hq⟩:=aa.1 hj;have:=bj.1 h4 j k q p hlt b (hq▸hf);exact this (hp▸hg)
 ·intro x hx b hb;rw [hos.2.2.2.1];obtain ⟨j,hj⟩:=bC.1 hx;rw [bw] at hj;split at hj
  ·split at hj
   ·cases hj;exact h3 it hmem b (hfp b hb)
   cases hj
  exact h3 x (an hj) b hb
 rw [bj] at h4⊢;intro i j hi hj hij b hb hg;simp only [dU] at hi hj;obtain ⟨p,hp⟩:=aa.1 hk;simp only [List.getElem_set] at hb hg;split at hb
 ·rename_i e;subst e;rw [ah (by omega)] at hg;exact h4 k j hi hj hij b (hp▸hfp b hb) hg
 split at hg
 ·rename_i e;subst e;exact h4 i k hi hj hij b hb (hp▸hfp b hg)
 exact h4 i j hi hj hij b hb hg
theorem Mem.pick {w0 w:World} {L:List Item} (h:Mem w0 L w) (idx:List Nat) (hn:idx.Nodup):Mem w0 (idx.filterMap (L[·]?)) w:=by
 obtain ⟨h1,h2,h3,h4⟩:=h;have hsub: ∀x∈idx.filterMap (L[·]?),x∈L:=fun x hx=>by
  obtain ⟨i,_,hi⟩:=List.mem_filterMap.1 hx;exact an hi
 refine ⟨h1,fun x hx=>h2 x (hsub x hx),fun x hx=>h3 x (hsub x hx),?_⟩;have hne2: ∀a b (ha:a<idx.length) (hb:b<idx.length),a<b→idx[a]≠idx[b]:=bj.1 hn;refine List.pairwise_filterMap.2 (bj.2 fun a b' ha hb' hab=>?_);have hne:=hne2 a b' ha hb' hab
 revert hne
 generalize idx[a]=i;generalize idx[b']=j;intro hne x hx y hy b hb hg;obtain ⟨p,hp⟩:=aa.1 hx;obtain ⟨q,hq⟩:=aa.1 hy;rw [bj] at h4;rcases oV hne with hlt|hlt
 ·exact h4 i j p q hlt b (hp▸hb) (hq▸hg)
 exact h4 j i q p hlt b (hq▸hg) (hp▸hb)
theorem Mem.item {w0 w:World} {L:List Item} (h:Mem w0 L w) {k:Nat} {it:Item} (hk:L[k]?=some it):it.A w:=h.2.1 it (an hk)
theorem Mem.ni {w0 w:World} {L:List Item} (h:Mem w0 L w) {k:Nat} {it:Item} (hk:L[k]?=some it) {b:Nat} (hb:it.fp b):w0.heap.size≤b∧b<w.heap.size:=h.2.2.1 it (an hk) b hb
def box (b:Nat) (t:TypeId) (cs:List Value):Item where
 fp:=fun x=>x=b
 A:=fun w=>w.heap[b]?=some (.cells cs.toArray t (0,0))
 st:=fun _ _ h hA=>(h b rfl).trans hA
theorem Mem.wY {w0 w:World} {L:List Item} (h:Mem w0 L w) (t:TypeId) (cs:List Value):Mem w0 (box w.heap.size t cs::L) (w.alloc (.cells cs.toArray t)):=
 h.new _ _ (fun _ h=>h) (heap_alloc_new w _)
theorem gy {w0 w:World} {L:List Item} (h:Mem w0 L w) {k b:Nat} {t:TypeId} {cs:List Value} (hk:L[k]?=some (box b t cs)) {i:Nat} {v:Value} (hi:cs[i]?=some v):w.cell? ⟨b,i,none⟩=some v:=by
 have hA:w.heap[b]?=some (.cells cs.toArray t (0,0)):=h.item hk;simp [World.cell?,hA,hi]
theorem Hr {w0 w:World} {L:List Item} (h:Mem w0 L w) {k b:Nat} {t:TypeId} {cs:List Value} (hk:L[k]?=some (box b t cs)) (i:Nat):w.frozen? ⟨b,i,none⟩=false:=by
 have hA:w.heap[b]?=some (.cells cs.toArray t (0,0)):=h.item hk;simp [World.frozen?,hA]
theorem J5 {w0 w:World} {L:List Item} (h:Mem w0 L w) {k b:Nat} {t:TypeId} {cs:List Value} (hk:L[k]?=some (box b t cs)) (i:Nat) (v:Value):
  Mem w0 (L.set k (box b t (cs.set i v))) (w.setCell ⟨b,i,none⟩ v):=by
 have hA:w.heap[b]?=some (.cells cs.toArray t (0,0)):=h.item hk;refine h.set hk (fun _ h=>h) ?_ ⟨rfl,rfl,rfl,by simp [World.setCell],bq _⟩ (fun b' hb'=>?_)
 ·show (w.setCell ⟨b,i,none⟩ v).heap[b]?=_;simp [World.setCell,kd,hA]
 have hne:b≠b':=fun e=>hb' e.symm;simp [World.setCell,kd,hne]
def FW (l:Option Nat):Fence:={fn:=fun _=>True,depth:=none,alive:=false,round:=l}
theorem RB (l:Option Nat) (n:Nat):(FW l).room n:=fun _ h=>by simp [FW] at h
theorem wO {l:Option Nat} {n m:Nat} {P:Program} {c:Code} {Q:Exit→Act→World→Prop} {a:Act} {w:World} (h:c.wpIn (FW l) n P Q a w):c.wpIn (FW l) m P Q a w:=
 fun b k cs hro hb _=>h b k cs hro hb (RB _ _)
theorem nm {l:Option Nat} {n:Nat} {P:Program} {f:FuncId} {args:Array Value} {w:World} {R:Ending→World→Prop} (h:Calls P f args w R):CallsIn (FW l) n P f args w R:=
 have h':CallsIn Fence.wide n P f args w R:=callsIn_wide.2 h
 h'
theorem Hm {n:Nat} {P:Program} {f:FuncId} {args:Array Value} {w:World} {R:Ending→World→Prop} (h:CallsIn (FW none) n P f args w R):Calls P f args w R:=
 have h':CallsIn Fence.wide n P f args w R:=h
 callsIn_wide.1 h'
structure Cx where
 P:Program
 ro:Option Nat
 N:Nat
abbrev J:=World→List Item→Fr→Prop
abbrev PJ:=Exit→J
def lift (c:Cx) (PQ:PJ):Exit→Act→World→Prop:=fun e a w=> ∃w0 L f,mr c.N (marks L) a f∧Mem w0 L w∧PQ e w0 L f
def H (c:Cx) (k:Code) (PQ:PJ):J:=fun w0 L f=> ∀a w,mr c.N (marks L) a f→Mem w0 L w→k.wpIn (FW c.ro) 0 c.P (lift c PQ) a w
def Bv (K:J) (PQ:PJ):PJ
 | .normal=>K
 | .exit i=>PQ (.exit i)
 | .goto l=>PQ (.goto l)
 | .ret=>PQ .ret
 | .panic ch=>PQ (.panic ch)
 | .outgrown=>PQ .outgrown
def tO (id:Nat) (PQ:PJ):PJ
 | .normal=>PQ .normal
 | .exit i=>bif Nat.beq i id then PQ .normal else PQ (.exit i)
 | .goto l=>PQ (.goto l)
 | .ret=>PQ .ret
 | .panic ch=>PQ (.panic ch)
 | .outgrown=>PQ .outgrown
section
variable {c:Cx} {PQ:PJ} {w0:World} {L:List Item} {f:Fr}
theorem fY {k:Code} {L':List Item} (hm: ∀w,Mem w0 L w→Mem w0 L' w) (hk:marks L'=marks L) (h:H c k PQ w0 L' f):H c k PQ w0 L f:=fun a w ha hw=>h a w (hk▸ha) (hm w hw)
theorem cr {x y:Code} (h:H c x (Bv (H c y PQ) PQ) w0 L f):H c (.seq x y) PQ w0 L f:=fun a w ha hw=>
 wpIn_seq (wpIn_mono (h a w ha hw) fun e a' w' ⟨u',L',f',h1,h2,h3⟩=>by
  cases e with
  |normal=>exact h3 a' w' h1 h2
  |exit i=>exact ⟨u',L',f',h1,h2,h3⟩
  |goto l=>exact ⟨u',L',f',h1,h2,h3⟩
  |ret=>exact ⟨u',L',f',h1,h2,h3⟩
  |panic ch=>exact ⟨u',L',f',h1,h2,h3⟩
  |outgrown=>exact ⟨u',L',f',h1,h2,h3⟩)
theorem l0 {id:Nat} {k:Code} (h:H c k (tO id PQ) w0 L f):H c (.block id k) PQ w0 L f:=fun a w ha hw=>
 wpIn_block (wpIn_mono (h a w ha hw) fun e a' w' ⟨u',L',f',h1,h2,h3⟩=>by
  cases e with
  |normal=>exact ⟨u',L',f',h1,h2,h3⟩
  |exit i=>
   simp only [Exit.inBlock];by_cases hi:i=id
   ·subst hi;rw [av rfl];simp only [tO,Nat.beq_refl,cond_true] at h3;exact ⟨u',L',f',h1,h2,h3⟩
   rw [ah hi];have hb:Nat.beq i id=false:=by
    cases hb:Nat.beq i id with
    |false=>rfl
    |true=>exact absurd (j9 hb) hi
   simp only [tO,hb,Pt] at h3;exact ⟨u',L',f',h1,h2,h3⟩
  |goto l=>exact ⟨u',L',f',h1,h2,h3⟩
  |ret=>exact ⟨u',L',f',h1,h2,h3⟩
  |panic ch=>exact ⟨u',L',f',h1,h2,h3⟩
  |outgrown=>exact ⟨u',L',f',h1,h2,h3⟩)
theorem au {x:Operand} {k1 k2:Code} {b:Bool} (hb:ev f x= .bool b) (h1:b=true→H c k1 PQ w0 L f) (h2:b=false→H c k2 PQ w0 L f):H c (.cond x k1 k2) PQ w0 L f:=fun a w ha hw=>
 wpIn_cond_split (t:=b) (by rw [ha.eval];exact hb) (fun e=>h1 e a w ha hw) (fun e=>h2 e a w ha hw)
theorem xD {id:Nat} (h:PQ (.exit id) w0 L f):H c (.exit id) PQ w0 L f:=fun _ _ ha hw=>wpIn_exit ⟨w0,L,f,ha,hw,h⟩
theorem jV (h:PQ .ret w0 L f):H c .ret PQ w0 L f:=fun _ _ ha hw=>wpIn_ret ⟨w0,L,f,ha,hw,h⟩
theorem iS (h:PQ .normal w0 L f):H c .skip PQ w0 L f:=fun _ _ ha hw=>wpIn_skip ⟨w0,L,f,ha,hw,h⟩
theorem az {K:J} (h:K w0 L f):Bv K PQ .normal w0 L f:=h
theorem mZ {K:J} {i:Nat} (h:PQ (.exit i) w0 L f):Bv K PQ (.exit i) w0 L f:=h
theorem dH {K:J} (h:PQ .ret w0 L f):Bv K PQ .ret w0 L f:=h
theorem iV {i:Nat} (h:PQ .normal w0 L f):tO i PQ .normal w0 L f:=h
theorem nn {i:Nat} (h:PQ .normal w0 L f):tO i PQ (.exit i) w0 L f:=by
 simp only [tO,Nat.beq_refl,cond_true];exact h
theorem Hs {i j:Nat} (hn:Nat.beq j i=false) (h:PQ (.exit j) w0 L f):tO i PQ (.exit j) w0 L f:=by
 simp only [tO,hn,Pt];exact h
theorem fD {i:Nat} (h:PQ .ret w0 L f):tO i PQ .ret w0 L f:=h
def HL (c:Cx) (ops rest:List Oper) (PQ:PJ):J:=fun w0 L f=> ∀a w,mr c.N (marks L) a f→Mem w0 L w→wpListIn (FW c.ro) 0 c.P ops.toArray (lift c PQ) rest a w
theorem Pd {id:Nat} {ops:List Oper} (h:HL c ops ops PQ w0 L f):H c (.region id ops.toArray false) PQ w0 L f:=fun a w ha hw=>wpIn_region_lit (h a w ha hw)
theorem Ut {ops:List Oper} (h:PQ .normal w0 L f):HL c ops [] PQ w0 L f:=fun _ _ ha hw=>⟨w0,L,f,ha,hw,h⟩
theorem Uu {ops rest:List Oper} {L':List Item} (hm: ∀w,Mem w0 L w→Mem w0 L' w) (hk:marks L'=marks L) (h:HL c ops rest PQ w0 L' f):HL c ops rest PQ w0 L f:=fun a w ha hw=>h a w (hk▸ha) (hm w hw)
def Gd (f:Fr) (g:Option (Nat×Bool)) (dsts:List (Option Nat)) (b:Bool):Prop:=gd f g dsts=b
def gv (g:Bool) (v:Value):Value:=bif g then v else undef
theorem Bf {dsts:List (Option Nat)}:Gd f none dsts true:=rfl
theorem r5 {j d:Nat} {dsts:List (Option Nat)} {x:Bool} (hj:dsts[j]?=some (some d)) (hx:f d= .bool x):Gd f (some (j,true)) dsts x:=by
 simp [Gd,gd,hj,hx,QC]
theorem tz {j d:Nat} {dsts:List (Option Nat)} {x:Bool} (hj:dsts[j]?=some (some d)) (hx:f d= .bool x):Gd f (some (j,false)) dsts (!x):=by
 simp [Gd,gd,hj,hx,QC]
theorem HB {j d:Nat} {dsts:List (Option Nat)} {x g:Bool} (hj:dsts[j]?=some (some d)) (hx:f d=gv g (.bool x)):Gd f (some (j,true)) dsts (g&&x):=by
 cases g<;>simp [Gd,gd,hj,hx,QC,gv,undef]
theorem Et {j d:Nat} {dsts:List (Option Nat)} {x g:Bool} (hj:dsts[j]?=some (some d)) (hx:f d=gv g (.bool x)):Gd f (some (j,false)) dsts (g&&!x):=by
 cases g<;>simp [Gd,gd,hj,hx,QC,gv,undef]
def iO (g:Bool) (c:Cx) (w0:World) (L:List Item) (f:Fr) (op:Op) (ty:TypeId) (v:Value):Prop:=
 g=true→ ∀(dst:Option Nat) (pos:String) (af:Array Edge) (gu:Option (Nat×Bool)) (w:World),Mem w0 L w→(execOp (ev f) ⟨dst,op,ty,pos,af,gu⟩).run c.P w= .ok (.value v) w
def gw (g:Bool) (f:Fr) (x:Operand) (v:Value):Prop:=g=true→ev f x=v
theorem Wx {g:Bool} {x:Operand} {v:Value} (h:ev f x=v):gw g f x v:=fun _=>h
theorem Ww {g:Bool} {x:Operand} {v:Value} (h:ev f x=gv g v):gw g f x v:=fun e=>by rw [h,e];rfl
theorem Wv {g y:Bool} {x:Operand} {v:Value} (h:ev f x=gv g v):gw (g&&y) f x v:=fun e=>by
 have hg:g=true:=by cases g<;>simp_all
 rw [h,hg];rfl
def dI:Op→Bool
 | .defer _=>true
 |_=>false
theorem kR {op:Op} (h:dI op=false): ∀x,op≠ .defer x:=fun x e=>by subst e;cases h
theorem Us {ops rest:List Oper} {d:Nat} {op:Op} {ty:TypeId} {pos:String} {af:Array Edge} {gu:Option (Nat×Bool)} {g:Bool} {v:Value}
  (hg:Gd f gu (ops.map (·.dst)) g) (hnd:dI op=false) (hev:iO g c w0 L f op ty v) (hd:Nat.blt d c.N=true) (next:HL c ops rest PQ w0 L (kX f d (gv g v))):
  HL c ops (⟨some d,op,ty,pos,af,gu⟩::rest) PQ w0 L f:=by
 intro a w ha hw;show if _ then _ else _
 rw [o7 ha];show if gd f gu _=true then _ else _
 rw [show gd f gu (ops.map (·.dst))=g from hg];cases g with
 |false=>exact ⟨fun _ _=>trivial,next _ _ (ha.put hd undef) hw⟩
 |true=>
  rw [av rfl];refine ⟨fun _ _=>trivial,?_⟩;rw [Oper.semAt_eq _ _ _ (kR hnd),ha.eval,hev rfl _ _ _ _ w hw];exact next _ _ (ha.put hd v) hw
theorem Fx {ops rest:List Oper} {d:Nat} {op:Op} {ty:TypeId} {pos:String} {af:Array Edge}
  (hnd:dI op=false) (hd:Nat.blt d c.N=true)
  (hev: ∀w,Mem w0 L w→ ∃v w' L',(execOp (ev f) ⟨some d,op,ty,pos,af,none⟩).run c.P w= .ok (.value v) w'∧Mem w0 L' w'∧marks L'=marks L∧HL c ops rest PQ w0 L' (kX f d v)):
  HL c ops (⟨some d,op,ty,pos,af,none⟩::rest) PQ w0 L f:=by
 intro a w ha hw;obtain ⟨v,w',L',hrun,hm,hk,hn⟩:=hev w hw;show if _ then _ else _
 rw [av (by rfl)];refine ⟨fun _ _=>trivial,?_⟩;rw [Oper.semAt_eq _ _ _ (kR hnd),ha.eval,hrun];exact hn _ _ (hk▸ha.put hd v) hm
theorem Sy {ops rest:List Oper} {op:Op} {ty:TypeId} {pos:String} {af:Array Edge}
  (hnd:dI op=false)
  (hev: ∀w,Mem w0 L w→ ∃w' L',(execOp (ev f) ⟨none,op,ty,pos,af,none⟩).run c.P w= .ok .skip w'∧Mem w0 L' w'∧marks L'=marks L∧HL c ops rest PQ w0 L' f):
  HL c ops (⟨none,op,ty,pos,af,none⟩::rest) PQ w0 L f:=by
 intro a w ha hw;obtain ⟨w',L',hrun,hm,hk,hn⟩:=hev w hw;show if _ then _ else _
 rw [av (by rfl)];refine ⟨fun _ _=>trivial,?_⟩;rw [Oper.semAt_eq _ _ _ (kR hnd),ha.eval,hrun];exact hn _ _ (hk▸ha.Gl undef) hm
def mG (g:Bool) (c:Cx) (w0:World) (L:List Item) (f:Fr) (op:Op) (ty:TypeId) (k:FuncId) (args:Array Value):Prop:=
 g=true→ ∀(dst:Option Nat) (pos:String) (af:Array Edge) (gu:Option (Nat×Bool)) (w:World),Mem w0 L w→(execOp (ev f) ⟨dst,op,ty,pos,af,gu⟩).run c.P w= .ok (.enter k args) w
theorem Pe {ops rest:List Oper} {d:Nat} {op:Op} {ty:TypeId} {pos:String} {af:Array Edge} {gu:Option (Nat×Bool)} {g:Bool} {k:FuncId} {args:Array Value} {v:Value}
  (hg:Gd f gu (ops.map (·.dst)) g) (hnd:dI op=false) (hen:mG g c w0 L f op ty k args) (hd:Nat.blt d c.N=true)
  (hc:g=true→ ∀w,Mem w0 L w→Calls c.P k args w fun e w'=>e= .returned v∧gz w w')
  (next:HL c ops rest PQ w0 L (kX f d (gv g v))):HL c ops (⟨some d,op,ty,pos,af,gu⟩::rest) PQ w0 L f:=by
 intro a w ha hw;show if _ then _ else _
 rw [o7 ha];show if gd f gu _=true then _ else _
 rw [show gd f gu (ops.map (·.dst))=g from hg];cases g with
 |false=>exact ⟨fun _ _=>trivial,next _ _ (ha.put hd undef) hw⟩
 |true=>
  rw [av rfl];refine ⟨fun _ _=>trivial,?_⟩;rw [Oper.semAt_eq _ _ _ (kR hnd),ha.eval,hen rfl _ _ _ _ w hw];refine ⟨fun h=>by simp [FW] at h,(nm ((hc rfl w hw).mono ?_))⟩;rintro e w' ⟨rfl,hb⟩;exact next _ _ (ha.put hd v) (hw.call hb)
theorem Rz {α:Type} {ops rest:List Oper} {d:Nat} {op:Op} {ty:TypeId} {pos:String} {af:Array Edge} {k:FuncId} {args:Array Value} {val:α→Value} {Lx:α→List Item}
  (hnd:dI op=false) (hen:mG true c w0 L f op ty k args) (hd:Nat.blt d c.N=true)
  (hc: ∀w,Mem w0 L w→Calls c.P k args w fun e w'=> ∃x:α,e= .returned (val x)∧Mem w (Lx x) w')
  (hmk: ∀x,marks (Lx x)=[]) (next: ∀x,HL c ops rest PQ w0 (Lx x++L) (kX f d (val x))):HL c ops (⟨some d,op,ty,pos,af,none⟩::rest) PQ w0 L f:=by
 intro a w ha hw;show if _ then _ else _
 rw [av (by rfl)];refine ⟨fun _ _=>trivial,?_⟩;rw [Oper.semAt_eq _ _ _ (kR hnd),ha.eval,hen rfl _ _ _ _ w hw];refine ⟨fun h=>by simp [FW] at h,(nm ((hc w hw).mono ?_))⟩;rintro e w' ⟨x,rfl,hm⟩;exact next x _ _ (by rw [iU,hmk x,ka];exact ha.put hd _) (hw.J2 hm)
end
section
variable {c:Cx} {w0:World} {L:List Item}
def QL (c:Cx) (ops rest:List Oper) (w0:World) (L:List Item) (K:Fr→Prop) (f:Fr):Prop:=
 ∀a,mr c.N (marks L) a f→wpQuietIn (FW c.ro) 0 c.P ops.toArray (Mem w0 L) (fun a'=> ∃f',mr c.N (marks L) a' f'∧K f') rest a
theorem Oper.Bl {F:Fence} {n:Nat} {P:Program} {C:World→Prop} {o:Oper} {a:Act} {K:Act→Prop} {K':Act→World→Prop} {Q':Exit→Act→World→Prop} {w:World} (hnd: ∀x,o.op≠ .defer x) (hw:C w) (h: ∀a w',C w'→K a→K' a w')
  (ha:o.askedIn F P a C) (hh:o.quietIn F n P a C K):o.wpIn F n P a w K' Q':=by
 obtain ⟨v,h1,h2⟩:=hh;have h3:=h1 w hw;unfold Oper.quietAtIn at h3;unfold Oper.wpIn;refine ⟨ha w hw,?_⟩;rw [Oper.semAt_eq _ _ _ hnd];generalize (execOp a.eval o).run P w=r at*;cases r with
 |ok x w'=>
  cases x<;>simp only [Oper.quietUponIn] at h3<;>simp only [Oper.uponIn]
  case value u=>
   obtain ⟨e1,e2⟩:=h3;rw [e1,e2];exact h _ _ hw h2
  case skip=>
   obtain ⟨e1,e2⟩:=h3;rw [e1,←e2];exact h _ _ hw h2
  case enter f args=>
   obtain ⟨e1,hd,hc⟩:=h3;rw [e1];exact ⟨hd,hc.mono fun e w'' ⟨he,hw''⟩=>by subst he;exact h _ _ hw'' h2⟩
 |halt x w'=>simp only [Oper.quietUponIn] at h3
theorem sS {F:Fence} {n:Nat} {P:Program} {ops:Array Oper} {C:World→Prop} {i:Nat} {a:Act} {K:Act→Prop} {K':Act→World→Prop} {Q':Exit→Act→World→Prop} {w:World} (hnd: ∀(j:Nat) o,ops[j]?=some o→ ∀x,o.op≠ .defer x) (hC:C w) (h: ∀a w',C w'→K a→K' a w')
  (hh:qOpIn F n P ops C i K a):wpOpIn F n P ops Q' i K' a w:=by
 unfold qOpIn at hh;unfold wpOpIn;split
 ·rename_i ho;simp only [ho] at hh;exact h _ _ hC hh
 rename_i o ho;simp only [ho] at hh;obtain ⟨ha,hh⟩:=hh;split
 ·rename_i hw;simp only [hw,qo] at hh;exact Oper.Bl (hnd i o ho) hC h ha hh
 rename_i hw;simp only [hw] at hh;exact ⟨ha w hC,h _ _ hC hh⟩
theorem rQ {F:Fence} {n:Nat} {P:Program} {md:Region.Mode} {ops:Array Oper} {C:World→Prop} {Q:Act→Prop} {Q':Exit→Act→World→Prop} (hnd: ∀(j:Nat) o,ops[j]?=some o→ ∀x,o.op≠ .defer x) (hQ: ∀a w,C w→Q a→Q' .normal a w): ∀(fuel:Nat) (listed:Array Bool) (a:Act) (w:World),C w→
  wpAnyQIn F n P md ops C Q fuel listed a→wpAnyIn F n P md ops Q' fuel listed a w
 |0,_,_,_,hw,h=>⟨h.1,hQ _ _ hw h.2⟩
 |fuel+1,_,_,_,hw,h=>⟨fun h0=>hQ _ _ hw (h.1 h0),fun i hi=>sS hnd hw (fun a' w' hw'=>rQ hnd hQ fuel _ a' w' hw') (h.2 i hi)⟩
theorem Mem.drew {w0 w:World} {L:List Item} (h:Mem w0 L w):Mem w0 L {w with drawn:=w.drawn+1}:=
 h.call ⟨⟨rfl,rfl,rfl,bq _,fun _ _=>rfl⟩,Nat.le_add_right _ _⟩
theorem Ur {PQ:PJ} {f:Fr} {id:Nat} {ops:List Oper} (hm:c.P.follows .mixedOrders=true) (hB:(Region.lexB .any ops.toArray&&ops.all (fun o=>!dI o.op))=true) (h:QL c ops ops w0 L (fun f'=>PQ .normal w0 L f') f):
  H c (.region id ops.toArray true) PQ w0 L f:=by
 intro a w ha hw;rw [bQ] at hB;obtain ⟨hB,hD⟩:=hB;have hnd: ∀(j:Nat) (o:Oper),ops.toArray[j]?=some o→ ∀x,o.op≠ .defer x:=fun j o hj=>kR (by
  have hmem:o∈ops:=an (by simpa using hj);simpa using eF.1 hD o hmem)
 simp only [Region.lexB,bQ] at hB;refine wpIn_region_any hm (rQ (C:=Mem w0 L) (Q:=fun a'=> ∃f',mr c.N (marks L) a' f'∧PQ .normal w0 L f') hnd (fun a' w' hw' ⟨f',h1,h2⟩=>⟨w0,L,f',h1,hw',h2⟩) _ _ _ _ hw.drew ?_);have:=wpAnyQIn_lex (F:=FW c.ro) (n:=0) (P:=c.P) (C:=Mem w0 L) (md:= .any) (Q:=fun a'=> ∃f',mr c.N (marks L) a' f'∧PQ .normal w0 L f') hB.1 ops 0 (Array.replicate ops.toArray.size false) a (by simp) (by simpa using hB.2) (h a ha);simpa using this
variable {K:Fr→Prop} {f:Fr}
theorem Um {ops:List Oper} (h:K f):QL c ops [] w0 L K f:=fun _ ha=>⟨f,ha,h⟩
theorem Ul {ops rest:List Oper} {d:Nat} {op:Op} {ty:TypeId} {pos:String} {af:Array Edge} {gu:Option (Nat×Bool)} {g:Bool} {v:Value}
  (hg:Gd f gu (ops.map (·.dst)) g) (hev:iO g c w0 L f op ty v) (hd:Nat.blt d c.N=true) (next:QL c ops rest w0 L K (kX f d (gv g v))):
  QL c ops (⟨some d,op,ty,pos,af,gu⟩::rest) w0 L K f:=by
 intro a ha;refine ⟨fun _ _ _ _=>trivial,?_⟩;rw [o7 ha];show if gd f gu _=true then _ else _
 rw [show gd f gu (ops.map (·.dst))=g from hg];cases g with
 |false=>exact next _ (ha.put hd undef)
 |true=>
  rw [av rfl];refine ⟨v,fun w hw=>?_,next _ (ha.put hd v)⟩;unfold Oper.quietAtIn;rw [ha.eval,hev rfl _ _ _ _ w hw];exact ⟨rfl,rfl⟩
theorem O' {ops rest:List Oper} {d:Nat} {op:Op} {ty:TypeId} {pos:String} {af:Array Edge} {gu:Option (Nat×Bool)} {g:Bool} {k:FuncId} {args:Array Value} {v:Value}
  (hg:Gd f gu (ops.map (·.dst)) g) (hen:mG g c w0 L f op ty k args) (hd:Nat.blt d c.N=true)
  (hc:g=true→ ∀w,Mem w0 L w→Calls c.P k args w fun e w'=>e= .returned v∧gz w w')
  (next:QL c ops rest w0 L K (kX f d (gv g v))):QL c ops (⟨some d,op,ty,pos,af,gu⟩::rest) w0 L K f:=by
 intro a ha;refine ⟨fun _ _ _ _=>trivial,?_⟩;rw [o7 ha];show if gd f gu _=true then _ else _
 rw [show gd f gu (ops.map (·.dst))=g from hg];cases g with
 |false=>exact next _ (ha.put hd undef)
 |true=>
  rw [av rfl];refine ⟨v,fun w hw=>?_,next _ (ha.put hd v)⟩;unfold Oper.quietAtIn;rw [ha.eval,hen rfl _ _ _ _ w hw];refine ⟨rfl,fun h=>by simp [FW] at h,nm ((hc rfl w hw).mono ?_)⟩;rintro e w' ⟨rfl,hb⟩;exact ⟨rfl,hw.call hb⟩
end
def EF (f:Fr):List (Nat×Value)→Fr
 |[]=>f
 |(i,v)::r=>kX (EF f r) i v
def over (f0:Fr) (S:List Nat) (g:Fr):Fr:=fun i=>bif S.elem i then g i else f0 i
def oy (S:List Nat) (f f0:Fr):Prop:= ∀i,S.elem i=false→f i=f0 i
theorem jw {S:List Nat} {f:Fr}:oy S f f:=fun _ _=>rfl
theorem ku {S:List Nat} {f0 g:Fr}:oy S (over f0 S g) f0:=fun i hi=>by unfold over;rw [hi];rfl
theorem jJ {S T:List Nat} {f f0 g:Fr} (hs:T.all (fun i=>S.elem i)=true) (h:oy S f f0):oy S (over f T g) f0:=fun i hi=>by
 have ht:T.elem i=false:=by
  cases he:T.elem i with
  |false=>rfl
  |true=>
   have hm:i∈T:=by simpa using he
   have:=eF.1 hs i hm;rw [hi] at this;cases this
 unfold over;rw [ht];exact h i hi
theorem j7 {S:List Nat} {f f0:Fr} {i:Nat} {v:Value} (hi:S.elem i=true) (h:oy S f f0):oy S (kX f i v) f0:=fun j hj=>by
 have hne:Nat.beq j i=false:=by
  cases hb:Nat.beq j i with
  |false=>rfl
  |true=>rw [j9 hb] at hj;rw [hi] at hj;cases hj
 simp only [kX,hne,Pt];exact h j hj
theorem jO {S:List Nat} {f f0:Fr}: ∀{vs:List (Nat×Value)},vs.all (fun p=>S.elem p.1)=true→oy S f f0→oy S (EF f vs) f0
 |[],_,h=>h
 |(i,v)::r,hv,h=>by
  simp only [nQ,bQ] at hv;exact j7 hv.1 (jO hv.2 h)
def Has (f:Fr):List (Nat×Value)→Prop
 |[]=>True
 |(i,v)::r=>f i=v∧Has f r
theorem yE {S:List Nat} {f f0:Fr} (ha:oy S f f0): ∀{vs:List (Nat×Value)},Has f vs→f=EF (over f0 S f) vs
 |[],_=>funext fun i=>by
  show f i=over f0 S f i;unfold over;cases h:S.elem i with
  |true=>rfl
  |false=>exact ha i h
 |(i,v)::r,hv=>funext fun j=>by
  have ih:=congrFun (yE ha hv.2) j;show f j=kX (EF (over f0 S f) r) i v j;unfold kX;cases hb:Nat.beq j i with
  |false=>exact ih
  |true=>rw [j9 hb];exact hv.1
structure Round {σ:Type} (S:List Nat) (f0:Fr) (vals:σ→List (Nat×Value)) (Wb:σ→World) (Li:σ→List Item) (I:σ→Prop) (m:σ→Nat) (s:σ) (w0:World) (L:List Item) (f:Fr):Prop where
 ex: ∃s',oy S f f0∧Has f (vals s')∧(∀w,Mem w0 L w→Mem (Wb s') (Li s') w)∧marks (Li s')=marks L∧I s'∧m s'<m s
def GJ {σ:Type} (S:List Nat) (f0:Fr) (vals:σ→List (Nat×Value)) (Wb:σ→World) (Li:σ→List Item) (I:σ→Prop) (m:σ→Nat) (s:σ) (PQ:PJ):PJ:=Bv (Round S f0 vals Wb Li I m s) PQ
theorem Ke {c:Cx} {PQ:PJ} {w0:World} {L:List Item} {f:Fr} {σ:Type} {k:Code} (S:List Nat) (vals:σ→List (Nat×Value)) (Wb:σ→World) (Li:σ→List Item) (I:σ→Prop) (m:σ→Nat) (s0:σ)
  (hv0:Has f (vals s0)) (hL0: ∀w,Mem w0 L w→Mem (Wb s0) (Li s0) w) (hk0:marks (Li s0)=marks L) (hI0:I s0)
  (round: ∀s g,I s→H c k (GJ S f vals Wb Li I m s PQ) (Wb s) (Li s) (EF (over f S g) (vals s))):H c (.loop k) PQ w0 L f:=by
 intro a w ha hw;refine wpIn_loop_ghost (fun j a w=> ∃s g,mr c.N (marks (Li s)) a (EF (over f S g) (vals s))∧Mem (Wb s) (Li s) w∧I s∧m s=j) (m s0) ?_ ?_
 ·refine ⟨s0,f,?_,hL0 w hw,hI0,rfl⟩;rw [←yE jw hv0,hk0];exact ha
 rintro j a w ⟨s,g,h1,h2,h3,rfl⟩;refine wpIn_mono (round s g h3 a w h1 h2) ?_;rintro e a' w' ⟨u',L',f',k1,k2,k3⟩;cases e with
 |normal=>
  obtain ⟨s',ag,hv,hm,hk,hI,hlt⟩:=Round.ex k3;exact ⟨m s',hlt,s',f',by rw [←yE ag hv,hk];exact k1,hm _ k2,hI,rfl⟩
 |exit i=>exact ⟨u',L',f',k1,k2,k3⟩
 |goto l=>exact ⟨u',L',f',k1,k2,k3⟩
 |ret=>exact ⟨u',L',f',k1,k2,k3⟩
 |panic ch=>exact ⟨u',L',f',k1,k2,k3⟩
 |outgrown=>exact ⟨u',L',f',k1,k2,k3⟩
theorem ct {c:Cx} {PQ:PJ} {w0:World} {L:List Item} {f:Fr} {σ:Type} {k:Code} (S:List Nat) (vals:σ→List (Nat×Value)) (Li:σ→List Item) (I:σ→Prop) (m:σ→Nat) (s0:σ)
  (hv0:Has f (vals s0)) (hL0: ∀w,Mem w0 L w→Mem w0 (Li s0) w) (hk0:marks (Li s0)=marks L) (hI0:I s0)
  (round: ∀s g,I s→H c k (GJ S f vals (fun _=>w0) Li I m s PQ) w0 (Li s) (EF (over f S g) (vals s))):H c (.loop k) PQ w0 L f:=
 Ke S vals (fun _=>w0) Li I m s0 hv0 hL0 hk0 hI0 round
section
variable {PQ:PJ} {w0:World} {L:List Item} {f f0:Fr} {σ:Type} {S:List Nat} {vals:σ→List (Nat×Value)} {Wb:σ→World} {Li:σ→List Item} {I:σ→Prop} {m:σ→Nat} {s:σ}
theorem ay (s':σ) (hag:oy S f f0) (hv:Has f (vals s')) (hm: ∀w,Mem w0 L w→Mem (Wb s') (Li s') w) (hk:marks (Li s')=marks L) (hI:I s') (hlt:m s'<m s):GJ S f0 vals Wb Li I m s PQ .normal w0 L f:=⟨⟨s',hag,hv,hm,hk,hI,hlt⟩⟩
theorem ng {i:Nat} (h:PQ (.exit i) w0 L f):GJ S f0 vals Wb Li I m s PQ (.exit i) w0 L f:=h
theorem mA (h:PQ .ret w0 L f):GJ S f0 vals Wb Li I m s PQ .ret w0 L f:=h
end
def QM (l:List Value):Fr:=fun i=>l.getD i undef
def Dh (c:Cx) (fn:Func) (R:Ending→World→Prop):PJ
 | .normal=>fun w0 L f=> ∀w a,Mem w0 L w→mr c.N (marks L) a f→LeavesInM (FW none) 0 c.P fn a.tmps R (marks L) .returning w
 | .ret=>fun w0 L f=> ∀w a,Mem w0 L w→mr c.N (marks L) a f→LeavesInM (FW none) 0 c.P fn a.tmps R (marks L) .returning w
 |_=>fun _ _ _=>False
theorem aS {P:Program} {k:FuncId} {fn:Func} {code:Code} {l:List Value} {w:World} {R:Ending→World→Prop} {N:Nat} (hf:P.funcs[k]?=some fn) (hb:fn.body=some code) (hN:fn.ntmps=N) (hl:Nat.ble l.length N=true)
  (h:H ⟨P,none,N⟩ code (Dh ⟨P,none,N⟩ fn R) w [] (QM l)):Calls P k l.toArray w R:=by
 have hl':l.length≤N:=ep hl;refine Hm (n:=0) (callsIn_of_wp_marks hf hb trivial (wpIn_mono (h _ w ⟨?_,?_,rfl⟩ (Mem.start w)) ?_) rfl)
 ·simp [hN];omega
 ·intro i;simp only [cu,QM,aq];rw [Array.getElem?_append];split
  ·simp
  rename_i hi;have:l[i]?=none:=dC (by simpa using hi);rw [this];simp only [rO];split<;>rfl
 rintro e a w' ⟨u',L',f',k1,k2,k3⟩;cases e with
 |normal=>have:=k3 w' a k2 k1;rw [←k1.defers] at this;exact this
 |ret=>have:=k3 w' a k2 k1;rw [←k1.defers] at this;exact this
 |exit i=>exact k3.elim
 |goto l=>exact k3.elim
 |panic ch=>exact k3.elim
 |outgrown=>exact k3.elim
def so (D:Nat):Item where
 fp:=fun x=>x=D
 A:=fun w=>w.heap[D]?=some (.deferred (some []))
 st:=fun _ _ h hA=>(h D rfl).trans hA
def Ee (D:Nat):Item:={so D with due:=[{target:= .collected D,args:= #[]}]}
def vt (P:Program) (N:Nat) (fn:Func) (w0:World) (L:List Item) (f:Fr) (v:Value):Prop:= ∀w ds a,Mem w0 L w→mr N ds a f→(results fn a.tmps).run P w= .ok v w
theorem Mem.tail {w0 w:World} {it:Item} {L:List Item} (h:Mem w0 (it::L) w):Mem w0 L w:=
 ⟨h.1,fun x hx=>h.2.1 x (aB _ hx),fun x hx=>h.2.2.1 x (aB _ hx),(bL.1 h.2.2.2).2⟩
theorem Mem.UY {w0 w:World} {D:Nat} {o:Obj} {it:Item} {L:List Item} (h:Mem w0 (it::L) w) (hfp:it.fp D):Mem w0 L (w.putObj D o):=by
 have hD:=h.2.2.1 it (bF ..) D hfp;have hp:=(bL.1 h.2.2.2).1;have ht:=h.tail;refine ⟨⟨⟨ht.1.os,ht.1.tape,ht.1.output,by simpa using ht.1.size,fun k hk=>(World.putObj_heap_other (by omega)).trans (ht.1.block k hk)⟩,ht.1.drawn⟩,fun x hx=>x.st w _ (fun b hb=>World.putObj_heap_other (fun e=>?_)) (ht.2.1 x hx),fun x hx b hb=>by simpa using ht.2.2.1 x hx b hb,ht.2.2.2⟩;subst e;exact hp x hx b hfp hb
section
variable {c:Cx} {fn:Func} {R:Ending→World→Prop} {w0:World} {L:List Item} {f:Fr} {v:Value}
theorem mh (hk:marks L=[]) (hr:vt c.P c.N fn w0 L f v) (h: ∀w,Mem w0 L w→R (.returned v) w):Dh c fn R .ret w0 L f:=fun w a hw ha=>by
 rw [hk];exact ⟨v,hr w _ a hw ha,h w hw⟩
theorem ID (hk:marks L=[]) (hr:vt c.P c.N fn w0 L f v) (h: ∀w,Mem w0 L w→R (.returned v) w):Dh c fn R .normal w0 L f:=fun w a hw ha=>by
 rw [hk];exact ⟨v,hr w _ a hw ha,h w hw⟩
theorem MX {D:Nat} (hk:marks L=[]) (hr:vt c.P c.N fn w0 L f v) (h: ∀w,Mem w0 L w→R (.returned v) w):Dh c fn R .ret w0 (Ee D::L) f:=fun w a hw ha=>by
 rw [jN,hk];have hA:w.heap[D]?=some (.deferred (some [])):=hw.2.1 (Ee D) (bF ..);have hw':Mem w0 L (w.putObj D (.deferred none)):=Mem.UY hw (show (Ee D).fp D from rfl);exact ⟨by simp, .inl ⟨D,_,rfl,run_takeDeferred hA,v,hr _ _ a hw' ha,h _ hw'⟩⟩
theorem U' (hr:fn.results= #[]):vt c.P c.N fn w0 L f (.tuple #[]):=fun w ds a _ _=>by simp [results,hr]
theorem U9 {t:Nat} (hr:fn.results= #[.tmp t]) (hv:f t=v):vt c.P c.N fn w0 L f v:=fun w ds a _ ha=>by
 have:=ha.get t;simp [results,hr,←hv,←this]
theorem Wt {t u:Nat} {x:Value} (hr:fn.results= #[.tmp t, .tmp u]) (hv:f t=v) (hx:f u=x):vt c.P c.N fn w0 L f (.tuple #[v,x]):=fun w ds a _ ha=>by
 have h1:=ha.get t;have h2:=ha.get u;simp [results,hr,←hv,←hx,←h1,←h2]
theorem Ws {t u y:Nat} {x z:Value} (hr:fn.results= #[.tmp t, .tmp u, .tmp y]) (hv:f t=v) (hx:f u=x) (hz:f y=z):vt c.P c.N fn w0 L f (.tuple #[v,x,z]):=fun w ds a _ ha=>by
 have h1:=ha.get t;have h2:=ha.get u;have h3:=ha.get y;simp [results,hr,←hv,←hx,←hz,←h1,←h2,←h3]
theorem Tv (hr:fn.results= #[]) (hk:marks L=[]) (h: ∀w,Mem w0 L w→R (.returned (.tuple #[])) w):Dh c fn R .ret w0 L f:=mh hk (U' hr) h
theorem lj (hr:fn.results= #[]) (hk:marks L=[]) (h: ∀w,Mem w0 L w→R (.returned (.tuple #[])) w):Dh c fn R .normal w0 L f:=ID hk (U' hr) h
theorem bH {t:Nat} (hr:fn.results= #[.tmp t]) (hv:f t=v) (hk:marks L=[]) (h: ∀w,Mem w0 L w→R (.returned v) w):Dh c fn R .ret w0 L f:=mh hk (U9 hr hv) h
theorem fV {t u:Nat} {x:Value} (hr:fn.results= #[.tmp t, .tmp u]) (hv:f t=v) (hx:f u=x) (hk:marks L=[]) (h: ∀w,Mem w0 L w→R (.returned (.tuple #[v,x])) w):Dh c fn R .ret w0 L f:=mh hk (Wt hr hv hx) h
theorem U8 {t u y:Nat} {x z:Value} (hr:fn.results= #[.tmp t, .tmp u, .tmp y]) (hv:f t=v) (hx:f u=x) (hz:f y=z) (hk:marks L=[]) (h: ∀w,Mem w0 L w→R (.returned (.tuple #[v,x,z])) w):Dh c fn R .ret w0 L f:=mh hk (Ws hr hv hx hz) h
end
theorem GR {v:Value}:gv false v=undef:=rfl
theorem pE {v:Value}:gv true v=v:=rfl
attribute [irreducible] gv
end Go.Proofs.E
namespace Go.Proofs.E
open Go Go.RowKit
def XL (dr:Bool) (c:Cx) (ops rest:List Oper) (PQ:PJ):J:=
 match dr with
 |false=>HL c ops rest PQ
 |true=>fun w0 L f=>QL c ops rest w0 L (fun f'=>PQ .normal w0 L f') f
section
variable {dr:Bool} {c:Cx} {PQ:PJ} {w0:World} {L:List Item} {f:Fr} {ops rest:List Oper} {d:Nat} {ty:TypeId} {pos:String} {af:Array Edge} {gu:Option (Nat×Bool)} {g:Bool} {v:Value}
theorem R0 {id:Nat} {ops:List Oper} (h:XL false c ops ops PQ w0 L f):H c (.region id ops.toArray false) PQ w0 L f:=Pd h
theorem R1 {id:Nat} {ops:List Oper} (hm:c.P.follows .mixedOrders=true) (hB:(Region.lexB .any ops.toArray&&ops.all (fun o=>!dI o.op))=true) (h:XL true c ops ops PQ w0 L f):H c (.region id ops.toArray true) PQ w0 L f:=Ur hm hB h
theorem XN (h:PQ .normal w0 L f):XL dr c ops [] PQ w0 L f:=by
 cases dr
 ·exact Ut h
 exact Um h
theorem XV {op:Op} (hg:Gd f gu (ops.map (·.dst)) g) (hnd:dI op=false) (hev:iO g c w0 L f op ty v) (hd:Nat.blt d c.N=true) (next:XL dr c ops rest PQ w0 L (kX f d (gv g v))):
  XL dr c ops (⟨some d,op,ty,pos,af,gu⟩::rest) PQ w0 L f:=by
 cases dr
 ·exact Us hg hnd hev hd next
 exact Ul hg hev hd next
theorem XC {op:Op} {k:FuncId} {args:Array Value} (hg:Gd f gu (ops.map (·.dst)) g) (hnd:dI op=false) (hen:mG g c w0 L f op ty k args) (hd:Nat.blt d c.N=true)
  (hc:g=true→ ∀w,Mem w0 L w→Calls c.P k args w fun e w'=>e= .returned v∧gz w w') (next:XL dr c ops rest PQ w0 L (kX f d (gv g v))):
  XL dr c ops (⟨some d,op,ty,pos,af,gu⟩::rest) PQ w0 L f:=by
 cases dr
 ·exact Pe hg hnd hen hd hc next
 exact O' hg hen hd hc next
theorem xV {op:Op} (hev:iO true c w0 L f op ty v) (hnd:dI op=false) (hd:Nat.blt d c.N=true) (next:XL dr c ops rest PQ w0 L (kX f d v)):XL dr c ops (⟨some d,op,ty,pos,af,none⟩::rest) PQ w0 L f:=XV Bf hnd hev hd (by rw [pE];exact next)
theorem rF {op:Op} {j e:Nat} {b:Bool} (hev:iO b c w0 L f op ty v) (hj:(ops.map (·.dst))[j]?=some (some e)) (hx:f e= .bool b) (hnd:dI op=false) (hd:Nat.blt d c.N=true) (next:XL dr c ops rest PQ w0 L (kX f d (gv b v))):XL dr c ops (⟨some d,op,ty,pos,af,some (j,true)⟩::rest) PQ w0 L f:=XV (r5 hj hx) hnd hev hd next
theorem oQ {op:Op} {j e:Nat} {b:Bool} (hev:iO (!b) c w0 L f op ty v) (hj:(ops.map (·.dst))[j]?=some (some e)) (hx:f e= .bool b) (hnd:dI op=false) (hd:Nat.blt d c.N=true) (next:XL dr c ops rest PQ w0 L (kX f d (gv (!b) v))):XL dr c ops (⟨some d,op,ty,pos,af,some (j,false)⟩::rest) PQ w0 L f:=XV (tz hj hx) hnd hev hd next
theorem kr {op:Op} {j e:Nat} {b g:Bool} (hev:iO (g&&b) c w0 L f op ty v) (hj:(ops.map (·.dst))[j]?=some (some e)) (hx:f e=gv g (.bool b)) (hnd:dI op=false) (hd:Nat.blt d c.N=true) (next:XL dr c ops rest PQ w0 L (kX f d (gv (g&&b) v))):XL dr c ops (⟨some d,op,ty,pos,af,some (j,true)⟩::rest) PQ w0 L f:=XV (HB hj hx) hnd hev hd next
theorem p4 {op:Op} {j e:Nat} {b g:Bool} (hev:iO (g&&!b) c w0 L f op ty v) (hj:(ops.map (·.dst))[j]?=some (some e)) (hx:f e=gv g (.bool b)) (hnd:dI op=false) (hd:Nat.blt d c.N=true) (next:XL dr c ops rest PQ w0 L (kX f d (gv (g&&!b) v))):XL dr c ops (⟨some d,op,ty,pos,af,some (j,false)⟩::rest) PQ w0 L f:=XV (Et hj hx) hnd hev hd next
section
variable {op:Op} {k:FuncId} {args:Array Value}
theorem xC (hen:mG true c w0 L f op ty k args) (hc:true=true→ ∀w,Mem w0 L w→Calls c.P k args w fun e w'=>e= .returned v∧gz w w') (hnd:dI op=false) (hd:Nat.blt d c.N=true) (next:XL dr c ops rest PQ w0 L (kX f d v)):XL dr c ops (⟨some d,op,ty,pos,af,none⟩::rest) PQ w0 L f:=XC Bf hnd hen hd hc (by rw [pE];exact next)
theorem EB {j e:Nat} {b:Bool} (hen:mG b c w0 L f op ty k args) (hc:b=true→ ∀w,Mem w0 L w→Calls c.P k args w fun e w'=>e= .returned v∧gz w w') (hj:(ops.map (·.dst))[j]?=some (some e)) (hx:f e= .bool b) (hnd:dI op=false) (hd:Nat.blt d c.N=true) (next:XL dr c ops rest PQ w0 L (kX f d (gv b v))):XL dr c ops (⟨some d,op,ty,pos,af,some (j,true)⟩::rest) PQ w0 L f:=XC (r5 hj hx) hnd hen hd hc next
theorem I7 {j e:Nat} {b:Bool} (hen:mG (!b) c w0 L f op ty k args) (hc:(!b)=true→ ∀w,Mem w0 L w→Calls c.P k args w fun e w'=>e= .returned v∧gz w w') (hj:(ops.map (·.dst))[j]?=some (some e)) (hx:f e= .bool b) (hnd:dI op=false) (hd:Nat.blt d c.N=true) (next:XL dr c ops rest PQ w0 L (kX f d (gv (!b) v))):XL dr c ops (⟨some d,op,ty,pos,af,some (j,false)⟩::rest) PQ w0 L f:=XC (tz hj hx) hnd hen hd hc next
theorem qW {α:Type} {val:α→Value} {Lx:α→List Item} (hen:mG true c w0 L f op ty k args) (hc: ∀w,Mem w0 L w→Calls c.P k args w fun e w'=> ∃x:α,e= .returned (val x)∧Mem w (Lx x) w') (hd:Nat.blt d c.N=true) (hmk: ∀x,marks (Lx x)=[]) (next: ∀x,XL false c ops rest PQ w0 (Lx x++L) (kX f d (val x))) (hnd:dI op=false:=by rfl):
  XL false c ops (⟨some d,op,ty,pos,af,none⟩::rest) PQ w0 L f:=Rz hnd hen hd hc hmk next
end
end
def mq (w:World) (b o:Nat) (cs:List Value):Prop:= ∀j u,cs[j]?=some u→w.cell? ⟨b,o+j,none⟩=some u
section
variable {c:Cx} {w0:World} {L:List Item} {f:Fr} {ty:TypeId} {g:Bool} {v:Value} {x y:Operand}
theorem ru (v:Value):ev f (.const v)=v:=rfl
theorem QX (k:FuncId):ev f (.func k)= .func (.func k) #[] #[]:=rfl
theorem ez (hx:gw g f x v):iO g c w0 L f (.move x) ty v:=fun e _ _ _ _ w _=>by simp [execOp,hx e]
theorem gZ (hx:gw g f x v):iO g c w0 L f (.assign x) ty v:=fun e _ _ _ _ w _=>by simp [execOp,hx e]
theorem u9 {b z g2:Bool} (hx:gw g f x (.bool b)) (hy:ev f y=gv g2 (.bool z)) (hg:g=true→g2=!b):iO g c w0 L f (.pick x (.const (.bool true)) y) ty (.bool (b||z)):=fun e _ _ _ _ w _=>by
 have h1:=hx e;have h2:=hg e;cases b
 ·simp [execOp,h1,hy,h2,gv,asBool]
 simp [execOp,h1,asBool,ru]
theorem pT {b z g2:Bool} (hx:gw g f x (.bool b)) (hy:ev f y=gv g2 (.bool z)) (hg:g=true→g2=b):iO g c w0 L f (.pick x y (.const (.bool false))) ty (.bool (b&&z)):=fun e _ _ _ _ w _=>by
 have h1:=hx e;have h2:=hg e;cases b
 ·simp [execOp,h1,asBool,ru]
 simp [execOp,h1,hy,h2,gv,asBool]
section
variable {t t2:TypeId} {m n:Int}
theorem vd {k:IntKind} (hx:gw g f x (.int k m)) (hy:gw g f y (.int k n)):iO g c w0 L f (.binOp .lss t x y t2) ty (.bool (decide (m<n))):=fun e _ _ _ _ w _=>by
 simp [execOp,hx e,hy e,eqGuard,binOp,Op.intCmp]
theorem Oh {k:IntKind} (hx:gw g f x (.int k m)) (hy:gw g f y (.int k n)):iO g c w0 L f (.binOp .leq t x y t2) ty (.bool (decide (m≤n))):=fun e _ _ _ _ w _=>by
 simp [execOp,hx e,hy e,eqGuard,binOp,Op.intCmp]
theorem Dl {k:IntKind} (hx:gw g f x (.int k m)) (hy:gw g f y (.int k n)):iO g c w0 L f (.binOp .gtr t x y t2) ty (.bool (decide (n<m))):=fun e _ _ _ _ w _=>by
 simp [execOp,hx e,hy e,eqGuard,binOp,Op.intCmp]
theorem WG {k:IntKind} (hx:gw g f x (.int k m)) (hy:gw g f y (.int k n)):iO g c w0 L f (.binOp .geq t x y t2) ty (.bool (decide (n≤m))):=fun e _ _ _ _ w _=>by
 simp [execOp,hx e,hy e,eqGuard,binOp,Op.intCmp]
theorem AL {k:IntKind} (hx:gw g f x (.int k m)) (hy:gw g f y (.int k n)):iO g c w0 L f (.binOp .eql t x y t2) ty (.bool (decide (m=n))):=fun e _ _ _ _ w _=>by
 simp [execOp,hx e,hy e,eqGuard,binOp,Op.intCmp];rfl
theorem Of {k:IntKind} (hx:gw g f x (.int k m)) (hy:gw g f y (.int k n)):iO g c w0 L f (.binOp .neq t x y t2) ty (.bool (!decide (m=n))):=fun e _ _ _ _ w _=>by
 simp [execOp,hx e,hy e,eqGuard,binOp,Op.intCmp];rfl
theorem rB (hx:gw g f x (.int .i64 m)) (hy:gw g f y (.int .i64 n)) {r:Int} (hr:g=true→m+n=r∧ -9223372036854775808≤r∧r≤9223372036854775807):iO g c w0 L f (.binOp .add t x y t2) ty (.int .i64 r):=fun e _ _ _ _ w _=>by
 obtain ⟨rfl,h1,h2⟩:=hr e;simp [execOp,hx e,hy e,eqGuard,binOp,Op.intArith,IntWalk.i64_in _ ⟨h1,h2⟩]
theorem ou (hx:gw g f x (.int .i64 m)) (hy:gw g f y (.int .i64 n)) {r:Int} (hr:g=true→m -n=r∧ -9223372036854775808≤r∧r≤9223372036854775807):iO g c w0 L f (.binOp .sub t x y t2) ty (.int .i64 r):=fun e _ _ _ _ w _=>by
 obtain ⟨rfl,h1,h2⟩:=hr e;simp [execOp,hx e,hy e,eqGuard,binOp,Op.intArith,IntWalk.i64_in _ ⟨h1,h2⟩]
theorem Si (hx:gw g f x (.int .i64 m)) (hy:gw g f y (.int .i64 n)) {r:Int} (hr:g=true→m*n=r∧ -9223372036854775808≤r∧r≤9223372036854775807):iO g c w0 L f (.binOp .mul t x y t2) ty (.int .i64 r):=fun e _ _ _ _ w _=>by
 obtain ⟨rfl,h1,h2⟩:=hr e;simp [execOp,hx e,hy e,eqGuard,binOp,Op.intArith,IntWalk.i64_in _ ⟨h1,h2⟩]
theorem CL (hx:gw g f x (.int .i64 m)) (hy:gw g f y (.int .i64 n)) (hr:g=true→0≤m∧m≤9223372036854775807∧0<n):iO g c w0 L f (.binOp .quo t x y t2) ty (.int .i64 (m/n)):=fun e _ _ _ _ w _=>by
 obtain ⟨h1,h2,h3⟩:=hr e;have hz: ¬n=0:=by omega
 have hq:m.tdiv n=m/n:=VZ h1;have h4:0≤m/n:=Int.ediv_nonneg h1 (by omega);have h5:m/n≤m:=Int.ediv_le_self _ h1;simp [execOp,hx e,hy e,eqGuard,binOp,Op.intDiv,hz,hq,IntWalk.i64_in _ (show -9223372036854775808≤m/n∧m/n≤9223372036854775807 by omega)]
theorem Sf (hx:gw g f x (.int .i64 m)) (hy:gw g f y (.int .i64 n)) (hr:g=true→0≤m∧0<n):iO g c w0 L f (.binOp .rem t x y t2) ty (.int .i64 (m%n)):=fun e _ _ _ _ w _=>by
 obtain ⟨h1,h3⟩:=hr e;have hz: ¬n=0:=by omega
 simp [execOp,hx e,hy e,eqGuard,binOp,Op.intDiv,hz,Int.tmod_eq_emod_of_nonneg h1]
end
theorem Sn {a b:Bool} {t t2:TypeId} (ht:c.P.underlying t=some .bool) (hx:gw g f x (.bool a)) (hy:gw g f y (.bool b)):iO g c w0 L f (.binOp .eql t x y t2) ty (.bool (a==b)):=fun e _ _ _ _ w _=>by
 simp [execOp,hx e,hy e,eqGuard,binOp,run_equal_bool (w:=w) t a b ht,Result.andThen]
theorem Sh {a b:Bool} {t t2:TypeId} (ht:c.P.underlying t=some .bool) (hx:gw g f x (.bool a)) (hy:gw g f y (.bool b)):iO g c w0 L f (.binOp .neq t x y t2) ty (.bool (!(a==b))):=fun e _ _ _ _ w _=>by
 simp [execOp,hx e,hy e,eqGuard,binOp,run_equal_bool (w:=w) t a b ht,Result.andThen]
theorem rz {t:TypeId} {b:Bool} (hx:gw g f x (.bool b)):iO g c w0 L f (.unOp .not t x) ty (.bool (!b)):=fun e _ _ _ _ w _=>by simp [execOp,hx e,Op.unary]
theorem addr_add (b o k:Nat):(⟨b,o,none⟩:Addr).add k=⟨b,o+k,none⟩:=by
 unfold Addr.add;split
 ·rename_i h;subst h;rfl
 rfl
theorem cR {t:TypeId} {i b o sz:Nat} {fs:Array Field} {fl:Field} (ht:c.P.underlying t=some (.struct fs)) (hf:fs[i]?=some fl) (hs: ∀w,(sizeOf fl.type).run c.P w= .ok sz w) (hz:Nat.blt 0 sz=true) (hx:gw g f x (.pointer (some ⟨b,o,none⟩))):
  iO g c w0 L f (.fieldAddr t x i) ty (.pointer (some ⟨b,o+fl.offset,none⟩)):=fun e _ _ _ _ w _=>by
 have hne:sz≠0:=by have:=(Nat.blt_eq▸hz:0<sz);omega
 simp [execOp,hx e,Instr.fieldAt,run_underlying ht,hf,Instr.sureAddr,fieldPlace,hs,hne,addr_add,Result.andThen]
theorem ea {t:TypeId} {p:Addr} (ht: ∀w,(isAgg t).run c.P w= .ok false w) (hx:gw g f x (.pointer (some p))) (hc:g=true→ ∀w,Mem w0 L w→w.cell? p=some v):iO g c w0 L f (.load t x) ty v:=fun e _ _ _ _ w hw=>by
 simp [execOp,hx e,Instr.loadAt,Instr.sureAddr,loadVar,ht,Result.andThen,load,Sem.run,hc e w hw]
theorem run_loadCellsFrom {P:Program} {w:World} {b o:Nat}: ∀(n i:Nat) (acc:Array Value) (vs:List Value),vs.length=n→(∀j u,vs[j]?=some u→w.cell? ⟨b,o+(i+j),none⟩=some u)→
  (loadCellsFrom ⟨b,o,none⟩ i n acc).run P w= .ok (acc++vs.toArray) w
 |0,i,acc,vs,hl,_=>by
  have:vs=[]:=bW hl;subst this;simp [loadCellsFrom]
 |n+1,i,acc,vs,hl,hc=>by
  cases vs with
  |nil=>simp at hl
  |cons u vs=>
   have h0:=hc 0 u rfl;simp only [nF] at h0;have ih:=run_loadCellsFrom (P:=P) (w:=w) (b:=b) (o:=o) n (i+1) (acc.push u) vs (by simpa using hl) (fun j x hx=>by
    have:=hc (j+1) x (by simpa using hx)
    rwa [show i+(j+1)=i+1+j by omega] at this)
   simp [loadCellsFrom,load,addr_add,Sem.run,h0,Result.andThen,ih]
theorem km {t:TypeId} {b o n:Nat} {vs:List Value} (ht: ∀w,(isAgg t).run c.P w= .ok true w) (hs: ∀w,(sizeOf t).run c.P w= .ok n w) (hx:gw g f x (.pointer (some ⟨b,o,none⟩)))
  (hc:g=true→ ∀w,Mem w0 L w→ ∀j u,vs[j]?=some u→w.cell? ⟨b,o+j,none⟩=some u) (hl:vs.length=n):iO g c w0 L f (.load t x) ty (.agg vs.toArray):=fun e _ _ _ _ w hw=>by
 have:=run_loadCellsFrom (P:=c.P) (w:=w) (b:=b) (o:=o) n 0 #[] vs hl (fun j u hu=>by rw [dj];exact hc e w hw j u hu);simp [execOp,hx e,Instr.loadAt,Instr.sureAddr,loadVar,ht,hs,Result.andThen,loadCells,this]
theorem bt {t el:TypeId} {b o n cp sz:Nat} {m:Int} (j:Nat) (ht:c.P.underlying t=some (.slice el)) (hs: ∀w,(sizeOf el).run c.P w= .ok sz w) (hx:gw g f x (.slice (some ⟨b,o,none⟩) n cp)) (hy:gw g f y (.int .i64 m)) (hm:g=true→m=(j:Int)∧j<n):
  iO g c w0 L f (.indexAddr t x y) ty (.pointer (some ⟨b,o+j*sz,none⟩)):=fun e _ _ _ _ w _=>by
 obtain ⟨rfl,hj⟩:=hm e;have h1:(0:Int)≤(j:Int)∧(j:Int)<(n:Int):=by omega
 simp [execOp,hx e,hy e,Instr.indexAt,asIntOf,run_underlying ht,hs,Result.andThen,addr_add,hj]
theorem tl {t el:TypeId} {A:Option Addr} {n cp:Nat} (ht:c.P.underlying t=some (.slice el)) (hx:gw g f x (.slice A n cp)):iO g c w0 L f (.call {callee:= .builtin .len,args:= #[x],argTypes:= #[t]}) ty (.int .i64 n):=fun e _ _ _ _ w _=>by
 simp [execOp,resolve,invoke,builtin,hx e,Builtin.len_,run_underlying ht,Result.andThen,goInt]
theorem Sj {t1 t2:TypeId} {m n:Int} (hx:gw g f x (.int .i64 m)) (hy:gw g f y (.int .i64 n)):iO g c w0 L f (.call {callee:= .builtin .min,args:= #[x,y],argTypes:= #[t1,t2]}) ty (.int .i64 (if n<m then n else m)):=fun e _ _ _ _ w _=>by
 simp [execOp,resolve,invoke,builtin,hx e,hy e,Builtin.min_,Builtin.min2]
theorem Sk {t1 t2:TypeId} {m n:Int} (hx:gw g f x (.int .i64 m)) (hy:gw g f y (.int .i64 n)):iO g c w0 L f (.call {callee:= .builtin .max,args:= #[x,y],argTypes:= #[t1,t2]}) ty (.int .i64 (if m<n then n else m)):=fun e _ _ _ _ w _=>by
 simp [execOp,resolve,invoke,builtin,hx e,hy e,Builtin.max_,Builtin.max2]
theorem JV {i:Nat} {vs:Array Value} (hx:gw g f x (.tuple vs)) (hi:vs[i]?=some v):iO g c w0 L f (.extract x i) ty v:=fun e _ _ _ _ w _=>by simp [execOp,hx e,Instr.extract,hi]
theorem Ci (ao:Array Operand):ao.map (ev f)=(ao.toList.map (ev f)).toArray:=by rw [←List.map_toArray]
theorem G8 {k:FuncId} {ao:Array Operand}:iO g c w0 L f (.makeFunc (.func k) #[] ao) ty (.func (.func k) #[] (ao.toList.map (ev f)).toArray):=fun _ _ _ _ _ w _=>by simp [execOp,Instr.makeFunc,Ci]
theorem bx (k:Nat) {b i:Nat} {t:TypeId} {cs:List Value} (hk:L[k]?=some (box b t cs)) (hi:cs[i]?=some v):g=true→ ∀w,Mem w0 L w→w.cell? ⟨b,i,none⟩=some v:=fun _ _ hw=>gy hw hk hi
theorem xc {p:Addr} (h:w0.cell? p=some v) (hb:p.block<w0.heap.size):g=true→ ∀w,Mem w0 L w→w.cell? p=some v:=fun _ _ hw=>(hw.1.cell hb).trans h
theorem r2 (k:Nat) {b:Nat} {t:TypeId} {cs:List Value} (hk:L[k]?=some (box b t cs)):g=true→ ∀w,Mem w0 L w→ ∀j u,cs[j]?=some u→w.cell? ⟨b,0+j,none⟩=some u:=fun _ _ hw j u hu=>by rw [dj];exact gy hw hk hu
theorem rc {b o j:Nat} {cs:List Value} (h:mq w0 b o cs) (hb:b<w0.heap.size) (hj:cs[j]?=some v):g=true→ ∀w,Mem w0 L w→w.cell? ⟨b,o+j,none⟩=some v:=xc (h j v hj) hb
theorem BR {b o:Nat} {cs:List Value} (h:mq w0 b o cs) (hb:b<w0.heap.size) (hj:cs[0]?=some v):g=true→ ∀w,Mem w0 L w→w.cell? ⟨b,o,none⟩=some v:=xc (h 0 v hj) hb
theorem MY {b o:Nat} {cs:List Value} (h:mq w0 b o cs) (hb:b<w0.heap.size):g=true→ ∀w,Mem w0 L w→ ∀j u,cs[j]?=some u→w.cell? ⟨b,o+j,none⟩=some u:=fun _ _ hw j u hu=>(hw.1.cell (p:=⟨b,o+j,none⟩) hb).trans (h j u hu)
theorem q0 {x:Operand} (h:ev f x=v):gw g f x v:=Wx h
theorem q1 {x:Operand} (h:ev f x=gv g v):gw g f x v:=Ww h
theorem q2 {h':Bool} {x:Operand} (h:ev f x=gv g v):gw (g&&h') f x v:=Wv h
theorem il {x1:Operand} {v1:Value} (h1:gw g f x1 v1):g=true→(#[x1]:Array Operand).toList.map (ev f)=[v1]:=fun e=>by simp [h1 e]
theorem gr {x1 x2:Operand} {v1 v2:Value} (h1:gw g f x1 v1) (h2:gw g f x2 v2):g=true→(#[x1,x2]:Array Operand).toList.map (ev f)=[v1,v2]:=fun e=>by simp [h1 e,h2 e]
theorem nj {x1 x2 x3:Operand} {v1 v2 v3:Value} (h1:gw g f x1 v1) (h2:gw g f x2 v2) (h3:gw g f x3 v3):g=true→(#[x1,x2,x3]:Array Operand).toList.map (ev f)=[v1,v2,v3]:=fun e=>by simp [h1 e,h2 e,h3 e]
theorem Fb {x1 x2 x3 x4:Operand} {v1 v2 v3 v4:Value} (h1:gw g f x1 v1) (h2:gw g f x2 v2) (h3:gw g f x3 v3) (h4:gw g f x4 v4):g=true→(#[x1,x2,x3,x4]:Array Operand).toList.map (ev f)=[v1,v2,v3,v4]:=fun e=>by simp [h1 e,h2 e,h3 e,h4 e]
theorem Iw:g=true→(#[]:Array Operand).toList.map (ev f)=[]:=fun _=>rfl
theorem en {k:FuncId} {ao:Array Operand} {ts:Array TypeId} {al:List Value} (he: ∀args w,(callFunc k args).run c.P w= .ok (.enter k args) w) (ha:g=true→ao.toList.map (ev f)=al):
  mG g c w0 L f (.call {callee:= .value (.func k),args:=ao,argTypes:=ts}) ty k al.toArray:=fun e _ _ _ _ w _=>by
 have ha:=ha e;have ha:ao.map (ev f)=al.toArray:=by rw [Ci,ha]
 simp [execOp,resolve,QX,Deferred.ofValue,invoke,ha,he]
theorem wK {k:FuncId} {ao:Array Operand} {ts:Array TypeId} {al:List Value} {cap:List Value} {t:Nat} (he: ∀args w,(callFunc k args).run c.P w= .ok (.enter k args) w) (ht:gw g f (.tmp t) (.func (.func k) #[] cap.toArray)) (ha:g=true→ao.toList.map (ev f)++cap=al):
  mG g c w0 L f (.call {callee:= .value (.tmp t),args:=ao,argTypes:=ts}) ty k al.toArray:=fun e _ _ _ _ w _=>by
 have ha:ao.map (ev f)++cap.toArray=al.toArray:=by rw [Ci,←ha e];simp
 simp [execOp,resolve,ht e,Deferred.ofValue,invoke,ha,he]
end
section
variable {c:Cx} {PQ:PJ} {w0:World} {L:List Item} {f:Fr} {ops rest:List Oper} {d:Nat} {ty:TypeId} {pos:String} {af:Array Edge} {x y:Operand}
theorem cd {t:TypeId} {v:Value} (hx:ev f x=v) (hd:Nat.blt d c.N=true) (next: ∀b,XL false c ops rest PQ w0 (box b t v.cells.toList::L) (kX f d (.pointer (some ⟨b,0,none⟩)))):
  XL false c ops (⟨some d, .box t x,ty,pos,af,none⟩::rest) PQ w0 L f:=
 Fx rfl hd fun w hw=>⟨.pointer (some ⟨w.heap.size,0,none⟩),w.alloc (.cells v.cells t),box w.heap.size t v.cells.toList::L,by simp [execOp,hx,Instr.box,newVar,newRow,Result.andThen],by simpa using hw.wY t v.cells.toList,rfl,next _⟩
theorem cx {t:TypeId} {v:Value} (hz: ∀w,(zeroValue t).run c.P w= .ok v w) (hd:Nat.blt d c.N=true) (next: ∀b,XL false c ops rest PQ w0 (box b t v.cells.toList::L) (kX f d (.pointer (some ⟨b,0,none⟩)))):
  XL false c ops (⟨some d, .alloc t,ty,pos,af,none⟩::rest) PQ w0 L f:=
 Fx rfl hd fun w hw=>⟨.pointer (some ⟨w.heap.size,0,none⟩),w.alloc (.cells v.cells t),box w.heap.size t v.cells.toList::L,by simp [execOp,hz,Instr.alloc,newVar,newRow,Result.andThen],by simpa using hw.wY t v.cells.toList,rfl,next _⟩
def setAt:List Value→Nat→List Value→List Value
 |cs,_,[]=>cs
 |cs,i,v::r=>setAt (cs.set i v) (i+1) r
def kI:Value→Bool
 | .agg _=>false
 | .tuple _=>false
 |_=>true
theorem mg {P:Program} {w0:World} {b o k:Nat} {t:TypeId}: ∀(vs:List Value) (i:Nat) (cs:List Value) (w:World) (L:List Item),Mem w0 L w→L[k]?=some (box b t cs)→vs.all kI=true→o+i+vs.length≤cs.length→
  ∃w',(storeCells ⟨b,o,none⟩ vs i).run P w= .ok () w'∧Mem w0 (L.set k (box b t (setAt cs (o+i) vs))) w'
 |[],i,cs,w,L,hw,hk,_,_=>⟨w,by simp [storeCells],by
  have hi:L.set k (box b t cs)=L:=by
   obtain ⟨h1,h2⟩:=aa.1 hk;rw [←h2];exact mc h1
  show Mem w0 (L.set k (box b t cs)) w;rw [hi];exact hw⟩
 |v::r,i,cs,w,L,hw,hk,h1,hl=>by
  simp only [nQ,bQ] at h1;simp only [bB] at hl;have hlt:o+i<cs.length:=by omega
  have hc:w.cell? ⟨b,o+i,none⟩=some cs[o+i]:=gy hw hk (aj hlt);have hf:w.frozen? ⟨b,o+i,none⟩=false:=Hr hw hk _;have hw1:=J5 hw hk (o+i) v;have hk1:(L.set k (box b t (cs.set (o+i) v)))[k]?=some (box b t (cs.set (o+i) v)):=by
   obtain ⟨h1,_⟩:=aa.1 hk;simp [h1]
  obtain ⟨w',hr,hm⟩:=mg (P:=P) (o:=o) r (i+1) (cs.set (o+i) v) (w.setCell ⟨b,o+i,none⟩ v) _ hw1 hk1 h1.2 (by simp;omega);refine ⟨w',?_,?_⟩
  ·have hst:(store ⟨b,o+i,none⟩ v).run P w= .ok () (w.setCell ⟨b,o+i,none⟩ v):=by
    have h2:=h1.1;cases v<;>simp [kI] at h2<;>simp [store,Sem.run,hc,hf]
   simp [storeCells,addr_add,hst,Result.andThen,hr]
  rw [fB] at hm;exact hm
theorem Ru (k:Nat) {t tb:TypeId} {v:Value} {b o n:Nat} {cs:List Value} (hx:ev f x= .pointer (some ⟨b,o,none⟩)) (hy:ev f y=v) (hs: ∀w,(sizeOf t).run c.P w= .ok n w) (hn:v.cells.size=n) (h1:v.cells.toList.all kI=true)
  (hk:L[k]?=some (box b tb cs)) (hl:Nat.ble (o+v.cells.toList.length) cs.length=true) (next:XL false c ops rest PQ w0 (L.set k (box b tb (setAt cs o v.cells.toList))) f):
  XL false c ops (⟨none, .store t x y,ty,pos,af,none⟩::rest) PQ w0 L f:=
 Sy rfl fun w hw=>by
  obtain ⟨w',hr,hm⟩:=mg (P:=c.P) (o:=o) v.cells.toList 0 cs w L hw hk h1 (ep hl);exact ⟨w',_,by simp [execOp,hx,hy,Instr.storeAt,Instr.sureAddr,storeVar,hs,hn,hr,Result.andThen],hm,ie hk rfl,next⟩
end
end Go.Proofs.E
namespace Go.Proofs.E
open Go Go.RowKit
theorem mq.below {w w':World} {b o:Nat} {cs:List Value} (h:mq w b o cs) (hb:b<w.heap.size) (hbel:gz w w'):mq w' b o cs:=fun j u hu=>(hbel.cell (p:=⟨b,o+j,none⟩) hb).trans (h j u hu)
theorem tt {a:Addr} (h:a.spot=none) {i:Nat}:a.add i=⟨a.block,a.off+i,none⟩:=by
 cases a;simp at h;subst h;simp only [Addr.add];split
 ·rename_i h;subst h;rfl
 rfl
def gJ {α:Type} (w:World) (k:Nat) (enc:α→List Value) (A:Option Addr) (n:Nat) (xs:List α):Prop:=
 xs.length=n∧n≤9223372036854775807∧(0<n→ ∃b off,A=some ⟨b,off,none⟩∧b<w.heap.size∧ ∀i x,xs[i]?=some x→mq w b (off+i*k) (enc x))
theorem gJ.below {α:Type} {w w':World} {k:Nat} {enc:α→List Value} {A:Option Addr} {n:Nat} {xs:List α} (h:gJ w k enc A n xs) (hb:gz w w'):gJ w' k enc A n xs:=by
 refine ⟨h.1,h.2.1,fun hn=>?_⟩;obtain ⟨b,off,hA,hlt,hc⟩:=h.2.2 hn;exact ⟨b,off,hA,gL hlt hb.size,fun i x hx=>(hc i x hx).below hlt hb⟩
theorem gJ.mem {α:Type} {w0 w:World} {L:List Item} {k:Nat} {enc:α→List Value} {A:Option Addr} {n:Nat} {xs:List α} (h:gJ w0 k enc A n xs) (hm:Mem w0 L w):gJ w k enc A n xs:=h.below hm.1
theorem gJ.at_ {α:Type} {w:World} {k:Nat} {enc:α→List Value} {A:Option Addr} {n:Nat} {xs:List α} {i:Nat} (h:gJ w k enc A n xs) (hi:i<n):
  ∃b off x,A=some ⟨b,off,none⟩∧b<w.heap.size∧xs[i]?=some x∧mq w b (off+i*k) (enc x):=by
 obtain ⟨b,off,hA,hlt,hc⟩:=h.2.2 (by omega);have hl:i<xs.length:=by have:=h.1;omega
 exact ⟨b,off,xs[i],hA,hlt,aj hl,hc i _ (aj hl)⟩
theorem gJ.row {α:Type} {w:World} {k:Nat} {enc:α→List Value} {b off n:Nat} {xs:List α} {i:Nat} (h:gJ w k enc (some ⟨b,off,none⟩) n xs) (hi:i<n):
  ∃x,xs[i]?=some x∧mq w b (off+i*k) (enc x):=by
 obtain ⟨b',off',x,hA,_,hx,hr⟩:=h.at_ hi;simp only [eQ,Addr.mk.injEq,Mc] at hA;obtain ⟨rfl,rfl⟩:=hA;exact ⟨x,hx,hr⟩
def aN (x:Int):List Value:=[.int .i64 x]
theorem bP {a b:Int} (h:a=b):Ending.returned (.int .i64 a)= .returned (.int .i64 b):=by rw [h]
theorem fK {a b:Bool} (h:a=b):Ending.returned (.bool a)= .returned (.bool b):=by rw [h]
theorem qq: ∀(vs:List Value) (cs:List Value) (i:Nat),(setAt cs i vs).length=cs.length
 |[],_,_=>rfl
 |v::r,cs,i=>by simp [setAt,qq r]
theorem FM (off:Nat): ∀(vs:List Value) (i:Nat) (cs:Array Value),((vs.zipIdx i).foldl (fun cs (p:Value×Nat)=>cs.setIfInBounds (off+p.2) p.1) cs)=(setAt cs.toList (off+i) vs).toArray
 |[],_,cs=>by simp [setAt]
 |v::r,i,cs=>by
  simp only [List.zipIdx_cons,cO];rw [FM off r (i+1) (cs.setIfInBounds (off+i) v)];simp [setAt,ma]
def vv (f:Fr):List (Nat×Operand)→List (Nat×Value)→Prop
 |[],[]=>True
 |p::ps,q::vs=>p.1=q.1∧ev f p.2=q.2∧vv f ps vs
 |_,_=>False
theorem vv.map {f:Fr}: ∀{ps:List (Nat×Operand)} {vs:List (Nat×Value)},vv f ps vs→ps.map (fun p=>(p.1,ev f p.2))=vs
 |[],[],_=>rfl
 |(i,x)::ps,(j,v)::vs,⟨h1,h2,h3⟩=>by
  have:=vv.map h3;simp only at h1 h2;simp [h1,h2,this]
theorem pt {f:Fr} {i:Nat} {x:Operand} {v:Value} {ps:List (Nat×Operand)} {vs:List (Nat×Value)} (h:ev f x=v) (hr:vv f ps vs):vv f ((i,x)::ps) ((i,v)::vs):=⟨rfl,h,hr⟩
theorem p0 {f:Fr}:vv f [] []:=trivial
def L7 (pl:List (Nat×Nat)):List Value→List (Nat×Value)→List Value
 |cs,[]=>cs
 |cs,(i,v)::r=>L7 pl (setAt cs (pl.getD i (0,0)).1 v.cells.toList) r
def Ax (pl:List (Nat×Nat)) (n:Nat):List (Nat×Value)→Bool
 |[]=>true
 |(i,v)::r=>(match pl[i]? with|some (off,size)=>Nat.beq v.cells.toList.length size&&Nat.ble (off+v.cells.toList.length) n|none=>false)&&Ax pl n r
theorem tj (pl:List (Nat×Nat)) (place:Nat→Option (Nat×Nat)) (hp: ∀i q,pl[i]?=some q→place i=some q): ∀(vs:List (Nat×Value)) (cs:Array Value),Ax pl cs.size vs=true→Instr.fill place cs vs=some (L7 pl cs.toList vs).toArray
 |[],cs,_=>by simp [Instr.fill,L7]
 |(i,v)::r,cs,h=>by
  simp only [Ax,bQ] at h;obtain ⟨h1,h2⟩:=h;cases hq:pl[i]? with
  |none=>rw [hq] at h1;cases h1
  |some q=>
   obtain ⟨off,size⟩:=q;rw [hq] at h1;simp only [bQ] at h1;have e1:v.cells.size=size:=by have:=j9 h1.1;simpa using this
   have e2:off+v.cells.size≤cs.size:=by have:=ep h1.2;simpa using this
   have hpi:place i=some (off,size):=hp i _ hq;have hf:v.cells.zipIdx.foldl (fun cs (p:Value×Nat)=>cs.setIfInBounds (off+p.2) p.1) cs=(setAt cs.toList off v.cells.toList).toArray:=by
    have:=FM off v.cells.toList 0 cs;rw [nF] at this;rw [←this,←Array.foldl_toList];simp
   have ih:=tj pl place hp r (setAt cs.toList off v.cells.toList).toArray (by simpa [qq] using h2);simp only [Instr.fill,hpi];rw [ah (by simp [e1];omega),hf,ih];simp [L7,aq,hq]
section
variable {c:Cx} {w0:World} {L:List Item} {f:Fr} {ty:TypeId}
def dN (P:Program) (fs:Array Field) (pl:List (Nat×Nat)):Prop:= ∀w,((fs.mapM fun f=>Prod.mk f.offset<$>sizeOf f.type):Sem (Array (Nat×Nat))).run P w= .ok pl.toArray w
theorem bS {t:TypeId} {fs:Array Field} {pl:List (Nat×Nat)} {parts:List (Nat×Operand)} {vs:List (Nat×Value)} {z:Value} (ht:c.P.underlying t=some (.struct fs)) (hf:dN c.P fs pl) (hz: ∀w,(zeroValue t).run c.P w= .ok z w)
  (hp:vv f parts vs) (hok:Ax pl z.cells.toList.length vs=true):iO true c w0 L f (.build t parts.toArray) ty (.agg (L7 pl z.cells.toList vs).toArray):=fun _ _ _ _ _ w _=>by
 have h2:=tj pl (fun i=>pl[i]?) (fun _ _ h=>h) vs z.cells (by simpa using hok);have h3:=hf w;simp [execOp,Instr.build,hz,run_underlying ht,h3,Result.andThen,hp.map,h2]
end
section
variable {c:Cx} {PQ:PJ} {w0:World} {L:List Item} {f:Fr} {ops rest:List Oper} {d:Nat} {ty:TypeId} {pos:String} {af:Array Edge}
def oh (size:Nat) (len:Nat):List (Nat×Nat):=(List.range len).map fun i=>(i*size,size)
theorem Gf {size len i:Nat} {q:Nat×Nat} (h:(oh size len)[i]?=some q):some (i*size,size)=some q:=by
 unfold oh at h;rw [bf] at h;cases hr:(List.range len)[i]? with
 |none=>rw [hr] at h;cases h
 |some y=>
  rw [hr] at h;have:y=i:=by have:=aa.1 hr;obtain ⟨_,h5⟩:=this;simpa using h5.symm
  subst this;exact h
theorem CP {t el:TypeId} {len size:Nat} {parts:List (Nat×Operand)} {vs:List (Nat×Value)} {z:Value} (ht:c.P.underlying t=some (.array len el)) (hs: ∀w,(sizeOf el).run c.P w= .ok size w) (hz: ∀w,(zeroValue t).run c.P w= .ok z w)
  (hp:vv f parts vs) (hok:Ax (oh size len) z.cells.toList.length vs=true):iO true c w0 L f (.build t parts.toArray) ty (.agg (L7 (oh size len) z.cells.toList vs).toArray):=fun _ _ _ _ _ w _=>by
 have h2:=tj (oh size len) (fun i=>some (i*size,size)) (fun i q h=>Gf h) vs z.cells (by simpa using hok);simp [execOp,Instr.build,hz,run_underlying ht,hs,Result.andThen,hp.map,h2]
theorem Fv {t el:TypeId} {len size:Nat} {parts:List (Nat×Operand)} {vs:List (Nat×Value)} {z:Value} (zs:List Value) (ht:c.P.underlying t=some (.slice el)) (hs: ∀w,(sizeOf el).run c.P w= .ok size w) (hz: ∀w,(zeroValue el).run c.P w= .ok z w)
  (hlen:(Nat.ble (len*size) 16777216&&!Nat.beq (len*size) 0)=true) (hzr:(Array.range (len*size)).map (z.cells[· %z.cells.size]!)=zs.toArray) (hp:vv f parts vs) (hok:Ax (oh size len) zs.length vs=true) (hd:Nat.blt d c.N=true)
  (next: ∀b,XL false c ops rest PQ w0 (box b el (L7 (oh size len) zs vs)::L) (kX f d (.slice (some ⟨b,0,none⟩) len len))):XL false c ops (⟨some d, .buildSlice t len parts.toArray,ty,pos,af,none⟩::rest) PQ w0 L f:=
 Fx rfl hd fun w hw=>⟨.slice (some ⟨w.heap.size,0,none⟩) len len,w.alloc (.cells (L7 (oh size len) zs vs).toArray el),box w.heap.size el (L7 (oh size len) zs vs)::L,by
  rw [bQ] at hlen;have h2: ¬len*size>2^24:=by have:=ep hlen.1;omega
  have h0: ¬len*size=0:=by
   intro h;rw [h] at hlen;cases hlen.2
  have h3:=tj (oh size len) (fun i=>some (i*size,size)) (fun i q h=>by
   unfold oh at h;rw [bf] at h;cases hr:(List.range len)[i]? with
   |none=>rw [hr] at h;cases h
   |some y=>
    rw [hr] at h;have:y=i:=by have:=aa.1 hr;obtain ⟨_,h5⟩:=this;simpa using h5.symm
    subst this;exact h) vs zs.toArray (by simpa using hok)
  simp [execOp,Instr.buildSlice,run_underlying ht,hs,hz,h2,h0,hp.map,hzr,h3,newRow,Result.andThen],hw.wY el _,rfl,next _⟩
end
theorem RQ {c:Cx} {fn:Func} {w0:World} {L:List Item} {f:Fr} (k:Nat) {a n b:Nat} {t tb:TypeId} {cs:List Value} (hr:fn.results= #[.cell a t]) (hv:f a= .pointer (some ⟨b,0,none⟩)) (ht: ∀w,(isAgg t).run c.P w= .ok true w) (hs: ∀w,(sizeOf t).run c.P w= .ok n w)
  (hk:L[k]?=some (box b tb cs)) (hl:cs.length=n):vt c.P c.N fn w0 L f (.agg cs.toArray):=fun w ds ac hw ha=>by
 have h1:=ha.get a;rw [hv,cu] at h1;have:=run_loadCellsFrom (P:=c.P) (w:=w) (b:=b) (o:=0) n 0 #[] cs hl (fun j u hu=>by simpa using gy hw hk hu);simp [results,hr,h1,asAddr,loadVar,ht,hs,loadCells,this,Result.andThen]
theorem RP {c:Cx} {fn:Func} {w0:World} {L:List Item} {f:Fr} (k:Nat) {a n b u:Nat} {t tb:TypeId} {cs:List Value} {x:Value} (hr:fn.results= #[.cell a t, .tmp u]) (hv:f a= .pointer (some ⟨b,0,none⟩)) (hx:f u=x) (ht: ∀w,(isAgg t).run c.P w= .ok true w) (hs: ∀w,(sizeOf t).run c.P w= .ok n w)
  (hk:L[k]?=some (box b tb cs)) (hl:cs.length=n):vt c.P c.N fn w0 L f (.tuple #[.agg cs.toArray,x]):=fun w ds ac hw ha=>by
 have h1:=ha.get a;rw [hv,cu] at h1;have h2:=ha.get u;rw [hx,cu] at h2;have:=run_loadCellsFrom (P:=c.P) (w:=w) (b:=b) (o:=0) n 0 #[] cs hl (fun j u hu=>by simpa using gy hw hk hu);simp [results,hr,h1,h2,asAddr,loadVar,ht,hs,loadCells,this,Result.andThen]
theorem rk {α:Type} {k:Nat} {enc:α→List Value} (he: ∀x,(enc x).length=k): ∀(xs:List α) (i:Nat) (x:α),xs[i]?=some x→ ∀j u,(enc x)[j]?=some u→(xs.flatMap enc)[i*k+j]?=some u
 |[],i,x,h,_,_,_=>by simp at h
 |y::ys,0,x,h,j,u,hu=>by
  simp at h;subst h;have hj:j<(enc y).length:=(aa.1 hu).1;simp only [gD,RF,dj];rw [dM hj];exact hu
 |y::ys,i+1,x,h,j,u,hu=>by
  have:=rk he ys i x (by simpa using h) j u hu;simp only [gD];rw [cy (by rw [he];simp [RG];omega),he,show (i+1)*k+j -k=i*k+j by simp [RG];omega];exact this
theorem bg {α:Type} {w0 w:World} {L:List Item} {k b j:Nat} {t:TypeId} {enc:α→List Value} {xs:List α} (hw:Mem w0 L w) (hk:L[j]?=some (box b t (xs.flatMap enc))) (he: ∀x,(enc x).length=k) (hl:xs.length≤9223372036854775807):gJ w k enc (some ⟨b,0,none⟩) xs.length xs:=
 ⟨rfl,hl,fun _=>⟨b,0,rfl,(hw.ni hk rfl).2,fun i x hx q u hu=>by
  rw [dj];exact gy hw hk (rk he xs i x hx q u hu)⟩⟩
end Go.Proofs.E
