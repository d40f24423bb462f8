import Derived.Sort.QuietThIn
import Derived.TacticsIn
import Derived.Below
import Derived.Laws.AppendOwn
import Derived.RangeFuncLeaves
import Derived.MapKept
import Derived.Shelf.Abstract
import Derived.Sort.LoopGhostIn
import Derived.RangeFuncRecord
import Derived.RangeFuncIn
import Derived.IntWalk
import Derived.Laws.MakeOwn
import Derived.Laws.NewFold
set_option linter.unusedVariables false
set_option linter.unusedSimpArgs false
namespace Go.Proofs.E
open Go Go.RowKit
abbrev Fr:=Nat→Value
def upd (f:Fr) (i:Nat) (v:Value):Fr:=fun j=>bif Nat.beq j i then v else f j
def ev (f:Fr):Operand→Value
 | .tmp t=>f t
 | .const v=>v
 | .global g=> .pointer (some ⟨g,0,none⟩)
 | .func g=> .func (.func g) #[] #[]
structure IsFr (N:Nat) (ds:List Deferred) (a:Act) (f:Fr):Prop where
 size:a.tmps.size=N
 get: ∀i,a.tmps.getD i undef=f i
 defers:a.defers=ds
theorem IsFr.eval {N:Nat} {ds:List Deferred} {a:Act} {f:Fr} (h:IsFr N ds a f):a.eval=ev f:=by
 funext x
 cases x with
 |tmp t=>exact h.get t
 |const v=>rfl
 |global g=>rfl
 |func g=>rfl
theorem IsFr.put {N:Nat} {ds:List Deferred} {a:Act} {f:Fr} (h:IsFr N ds a f) {d:Nat} (hd:Nat.blt d N=true) (v:Value):IsFr N ds (a.put (some d) v) (upd f d v):=by
 have hlt:d<a.tmps.size:=by rw [h.size];simpa using hd
 refine ⟨by simp [Act.put,h.size],fun i=>?_,h.defers⟩
 unfold upd
 by_cases hi:i=d
 ·subst hi
  simp [Act.put,hlt]
 ·have h1:Nat.beq i d=false:=by
   cases hb:Nat.beq i d with
   |false=>rfl
   |true=>exact absurd (Nat.eq_of_beq_eq_true hb) hi
  have h2:=h.get i
  simp only [Act.put,h1,cond_false]
  rw [←h2]
  simp only [Array.getD_eq_getD_getElem?]
  rw [Array.getElem?_setIfInBounds_ne (Ne.symm hi)]
theorem IsFr.put_none {N:Nat} {ds:List Deferred} {a:Act} {f:Fr} (h:IsFr N ds a f) (v:Value):IsFr N ds (a.put none v) f:=h
def isB (v:Value) (b:Bool):Bool:=match v with| .bool x=>x==b|_=>false
def gd (f:Fr):Option (Nat×Bool)→List (Option Nat)→Bool
 |none,_=>true
 |some (j,b),dsts=>match dsts[j]? with|some (some d)=>isB (f d) b|_=>false
theorem wanted_fr {N:Nat} {ds:List Deferred} {a:Act} {f:Fr} (h:IsFr N ds a f) (o:Oper) (ops:List Oper):Region.wanted o (yielded ops.toArray a.tmps)=gd f o.guard (ops.map (·.dst)):=by
 unfold Region.wanted gd
 cases hg:o.guard with
 |none=>rfl
 |some p=>
  obtain ⟨j,b⟩:=p
  simp only [yielded,List.getElem?_toArray,List.getElem?_map]
  cases hj:ops[j]? with
  |none=>simp
  |some oj=>
   simp only [Option.bind_some,Option.map_some]
   cases hd:oj.dst with
   |none=>simp
   |some d=>
    simp only [Option.bind_some]
    have h2:=h.get d
    rw [Array.getD_eq_getD_getElem?] at h2
    cases ht:a.tmps[d]? with
    |none=>
     rw [ht] at h2
     simp only [Option.getD_none] at h2
     rw [←h2]
     simp [isB,undef]
    |some v=>
     rw [ht] at h2
     simp only [Option.getD_some] at h2
     rw [←h2]
     cases v<;>simp [isB]
structure Item where
 fp:Nat→Prop
 A:World→Prop
 st: ∀w w',(∀b,fp b→w'.heap[b]?=w.heap[b]?)→A w→A w'
 due:List Deferred:=[]
def marks (L:List Item):List Deferred:=L.flatMap (·.due)
theorem marks_cons (it:Item) (L:List Item):marks (it::L)=it.due++marks L:=by simp [marks]
theorem marks_append (L L':List Item):marks (L++L')=marks L++marks L':=by simp [marks]
theorem marks_set: ∀{L:List Item} {k:Nat} {it it':Item},L[k]?=some it→it'.due=it.due→marks (L.set k it')=marks L
 |[],_,_,_,h,_=>by simp at h
 |x::L,0,it,it',h,e=>by simp at h;subst h;simp [marks,e]
 |x::L,k+1,it,it',h,e=>by
  have:=marks_set (L:=L) (k:=k) (it:=it) (it':=it') (by simpa using h) e
  simp only [List.set_cons_succ,marks_cons,this]
structure Bel (w w':World):Prop extends Below w.heap.size w w' where
 drawn:w.drawn≤w'.drawn
theorem Bel.refl (w:World):Bel w w:=⟨Below.refl _ _,Nat.le_refl _⟩
theorem Bel.trans {a b c:World} (h:Bel a b) (k:Bel b c):Bel a c:=⟨h.toBelow.trans (k.toBelow.mono h.size),Nat.le_trans h.drawn k.drawn⟩
theorem Bel.alloc (w:World) (o:Obj):Bel w (w.alloc o):=⟨(Below.refl _ _).alloc (Nat.le_refl _) _,Nat.le_refl _⟩
def Mem (w0:World) (L:List Item) (w:World):Prop:=
 Bel w0 w∧(∀it∈L,it.A w)∧(∀it∈L,∀b,it.fp b→w0.heap.size≤b∧b<w.heap.size)∧L.Pairwise (fun x y=> ∀b,x.fp b→ ¬y.fp b)
theorem Mem.below {w0 w:World} {L:List Item} (h:Mem w0 L w):Bel w0 w:=h.1
theorem Mem.start (w:World):Mem w [] w:=⟨Bel.refl _,by simp,by simp, .nil⟩
theorem mem_nil {w0 w:World}:Mem w0 [] w↔Bel w0 w:=⟨fun h=>h.1,fun h=>⟨h,by simp,by simp, .nil⟩⟩
theorem Mem.call {w0 w w':World} {L:List Item} (h:Mem w0 L w) (hb:Bel w w'):Mem w0 L w':=by
 obtain ⟨h1,h2,h3,h4⟩:=h
 refine ⟨h1.trans hb,fun it hi=>it.st w w' (fun b hf=>hb.block b (h3 it hi b hf).2) (h2 it hi),fun it hi b hf=>⟨(h3 it hi b hf).1,Nat.lt_of_lt_of_le (h3 it hi b hf).2 hb.size⟩,h4⟩
theorem Mem.callNew {w0 w w':World} {L L':List Item} (h:Mem w0 L w) (hc:Mem w L' w'):Mem w0 (L'++L) w':=by
 have h':=h.call hc.1
 obtain ⟨h1,h2,h3,h4⟩:=h'
 obtain ⟨c1,c2,c3,c4⟩:=hc
 refine ⟨h1,?_,?_,?_⟩
 ·intro it hi
  rcases List.mem_append.1 hi with hi|hi
  ·exact c2 it hi
  ·exact h2 it hi
 ·intro it hi b hf
  rcases List.mem_append.1 hi with hi|hi
  ·exact ⟨Nat.le_trans h.1.size (c3 it hi b hf).1,(c3 it hi b hf).2⟩
  ·exact h3 it hi b hf
 ·refine List.pairwise_append.2 ⟨c4,h4,fun x hx y hy b hf hg=>?_⟩
  have e1:=(c3 x hx b hf).1
  have e2:=(h.2.2.1 y hy b hg).2
  omega
theorem Mem.new {w0 w:World} {L:List Item} (h:Mem w0 L w) (o:Obj) (it:Item) (hf: ∀b,it.fp b→b=w.heap.size) (hA:it.A (w.alloc o)):Mem w0 (it::L) (w.alloc o):=by
 have hb:Bel w (w.alloc o):=Bel.alloc w o
 have h':=h.call hb
 obtain ⟨h1,h2,h3,h4⟩:=h'
 refine ⟨h1,?_,?_,?_⟩
 ·intro x hx
  rcases List.mem_cons.1 hx with rfl|hx
  ·exact hA
  ·exact h2 x hx
 ·intro x hx b hb
  rcases List.mem_cons.1 hx with rfl|hx
  ·have:=hf b hb;subst this;exact ⟨h.1.size,by simp⟩
  ·exact h3 x hx b hb
 ·refine List.pairwise_cons.2 ⟨fun y hy b hb hg=>?_,h4⟩
  have e:=hf b hb
  have:=(h.2.2.1 y hy b hg).2
  omega
theorem Mem.set {w0 w w':World} {L:List Item} {k:Nat} {it it':Item} (h:Mem w0 L w) (hk:L[k]?=some it) (hfp: ∀b,it'.fp b→it.fp b) (hA:it'.A w')
  (hos:w'.os=w.os∧w'.tape=w.tape∧w'.output=w.output∧w'.heap.size=w.heap.size∧w.drawn≤w'.drawn) (hout: ∀b,¬it.fp b→w'.heap[b]?=w.heap[b]?):Mem w0 (L.set k it') w':=by
 obtain ⟨h1,h2,h3,h4⟩:=h
 have hmem:=List.mem_of_getElem? hk
 refine ⟨⟨⟨hos.1.trans h1.os,hos.2.1.trans h1.tape,hos.2.2.1.trans h1.output,by rw [hos.2.2.2.1];exact h1.size,fun b hb=>(hout b (fun hf=>by have:=(h3 it hmem b hf).1;omega)).trans (h1.block b hb)⟩,Nat.le_trans h1.drawn hos.2.2.2.2⟩,?_,?_,?_⟩
 ·intro x hx
  obtain ⟨j,hj⟩:=List.mem_iff_getElem?.1 hx
  rw [List.getElem?_set] at hj
  split at hj
  ·split at hj
   ·cases hj;exact hA
   ·cases hj
  ·rename_i hne
   have hxm:=List.mem_of_getElem? hj
   refine x.st w w' (fun b hf=>hout b (fun hg=>?_)) (h2 x hxm)
   rcases Nat.lt_or_gt_of_ne hne with hlt|hlt
   ·obtain ⟨p,hp⟩:=List.getElem?_eq_some_iff.1 hk
    obtain ⟨q,hq⟩:=List.getElem?_eq_some_iff.1 hj
    have:=List.pairwise_iff_getElem.1 h4 k j p q hlt b (hp▸hg)
    exact this (hq▸hf)
   ·obtain ⟨p,hp⟩:=List.getElem?_eq_some_iff.1 hk
    obtain ⟨q,hq⟩:=List.getElem?_eq_some_iff.1 hj
    have:=List.pairwise_iff_getElem.1 h4 j k q p hlt b (hq▸hf)
    exact this (hp▸hg)
 ·intro x hx b hb
  rw [hos.2.2.2.1]
  obtain ⟨j,hj⟩:=List.mem_iff_getElem?.1 hx
  rw [List.getElem?_set] at hj
  split at hj
  ·split at hj
   ·cases hj;exact h3 it hmem b (hfp b hb)
   ·cases hj
  ·exact h3 x (List.mem_of_getElem? hj) b hb
 ·rw [List.pairwise_iff_getElem] at h4⊢
  intro i j hi hj hij b hb hg
  simp only [List.length_set] at hi hj
  obtain ⟨p,hp⟩:=List.getElem?_eq_some_iff.1 hk
  simp only [List.getElem_set] at hb hg
  split at hb
  ·rename_i e
   subst e
   rw [if_neg (by omega)] at hg
   exact h4 k j hi hj hij b (hp▸hfp b hb) hg
  ·split at hg
   ·rename_i e
    subst e
    exact h4 i k hi hj hij b hb (hp▸hfp b hg)
   ·exact h4 i j hi hj hij b hb hg
theorem Mem.pick {w0 w:World} {L:List Item} (h:Mem w0 L w) (idx:List Nat) (hn:idx.Nodup):Mem w0 (idx.filterMap (L[·]?)) w:=by
 obtain ⟨h1,h2,h3,h4⟩:=h
 have hsub: ∀x∈idx.filterMap (L[·]?),x∈L:=fun x hx=>by
  obtain ⟨i,_,hi⟩:=List.mem_filterMap.1 hx
  exact List.mem_of_getElem? hi
 refine ⟨h1,fun x hx=>h2 x (hsub x hx),fun x hx=>h3 x (hsub x hx),?_⟩
 have hne2: ∀a b (ha:a<idx.length) (hb:b<idx.length),a<b→idx[a]≠idx[b]:=List.pairwise_iff_getElem.1 hn
 refine List.pairwise_filterMap.2 (List.pairwise_iff_getElem.2 fun a b' ha hb' hab=>?_)
 have hne:=hne2 a b' ha hb' hab
 revert hne
 generalize idx[a]=i
 generalize idx[b']=j
 intro hne x hx y hy b hb hg
 obtain ⟨p,hp⟩:=List.getElem?_eq_some_iff.1 hx
 obtain ⟨q,hq⟩:=List.getElem?_eq_some_iff.1 hy
 rw [List.pairwise_iff_getElem] at h4
 rcases Nat.lt_or_gt_of_ne hne with hlt|hlt
 ·exact h4 i j p q hlt b (hp▸hb) (hq▸hg)
 ·exact h4 j i q p hlt b (hq▸hg) (hp▸hb)
theorem Mem.item {w0 w:World} {L:List Item} (h:Mem w0 L w) {k:Nat} {it:Item} (hk:L[k]?=some it):it.A w:=h.2.1 it (List.mem_of_getElem? hk)
theorem Mem.itemLt {w0 w:World} {L:List Item} (h:Mem w0 L w) {k:Nat} {it:Item} (hk:L[k]?=some it) {b:Nat} (hb:it.fp b):w0.heap.size≤b∧b<w.heap.size:=h.2.2.1 it (List.mem_of_getElem? hk) b hb
def box (b:Nat) (t:TypeId) (cs:List Value):Item where
 fp:=fun x=>x=b
 A:=fun w=>w.heap[b]?=some (.cells cs.toArray t (0,0))
 st:=fun _ _ h hA=>(h b rfl).trans hA
theorem Mem.newBox {w0 w:World} {L:List Item} (h:Mem w0 L w) (t:TypeId) (cs:List Value):Mem w0 (box w.heap.size t cs::L) (w.alloc (.cells cs.toArray t)):=
 h.new _ _ (fun _ h=>h) (heap_alloc_new w _)
theorem box_cell {w0 w:World} {L:List Item} (h:Mem w0 L w) {k b:Nat} {t:TypeId} {cs:List Value} (hk:L[k]?=some (box b t cs)) {i:Nat} {v:Value} (hi:cs[i]?=some v):w.cell? ⟨b,i,none⟩=some v:=by
 have hA:w.heap[b]?=some (.cells cs.toArray t (0,0)):=h.item hk
 simp [World.cell?,hA,hi]
theorem box_free {w0 w:World} {L:List Item} (h:Mem w0 L w) {k b:Nat} {t:TypeId} {cs:List Value} (hk:L[k]?=some (box b t cs)) (i:Nat):w.frozen? ⟨b,i,none⟩=false:=by
 have hA:w.heap[b]?=some (.cells cs.toArray t (0,0)):=h.item hk
 simp [World.frozen?,hA]
theorem box_set {w0 w:World} {L:List Item} (h:Mem w0 L w) {k b:Nat} {t:TypeId} {cs:List Value} (hk:L[k]?=some (box b t cs)) (i:Nat) (v:Value):
  Mem w0 (L.set k (box b t (cs.set i v))) (w.setCell ⟨b,i,none⟩ v):=by
 have hA:w.heap[b]?=some (.cells cs.toArray t (0,0)):=h.item hk
 refine h.set hk (fun _ h=>h) ?_ ⟨rfl,rfl,rfl,by simp [World.setCell],Nat.le_refl _⟩ (fun b' hb'=>?_)
 ·show (w.setCell ⟨b,i,none⟩ v).heap[b]?=_
  simp [World.setCell,Array.getElem?_modify,hA]
 ·have hne:b≠b':=fun e=>hb' e.symm
  simp [World.setCell,Array.getElem?_modify,hne]
end Go.Proofs.E
namespace Go.Proofs.E
open Go Go.RowKit
def FW (l:Option Nat):Fence:={fn:=fun _=>True,depth:=none,alive:=false,round:=l}
theorem FW_room (l:Option Nat) (n:Nat):(FW l).room n:=fun _ h=>by simp [FW] at h
theorem wpIn_depth {l:Option Nat} {n m:Nat} {P:Program} {c:Code} {Q:Exit→Act→World→Prop} {a:Act} {w:World} (h:c.wpIn (FW l) n P Q a w):c.wpIn (FW l) m P Q a w:=
 fun b k cs hro hb _=>h b k cs hro hb (FW_room _ _)
theorem callsIn_FW {l:Option Nat} {n:Nat} {P:Program} {f:FuncId} {args:Array Value} {w:World} {R:Ending→World→Prop} (h:Calls P f args w R):CallsIn (FW l) n P f args w R:=
 have h':CallsIn Fence.wide n P f args w R:=callsIn_wide.2 h
 h'
theorem calls_FW {n:Nat} {P:Program} {f:FuncId} {args:Array Value} {w:World} {R:Ending→World→Prop} (h:CallsIn (FW none) n P f args w R):Calls P f args w R:=
 have h':CallsIn Fence.wide n P f args w R:=h
 callsIn_wide.1 h'
structure Cx where
 P:Program
 ro:Option Nat
 N:Nat
abbrev J:=World→List Item→Fr→Prop
abbrev PJ:=Exit→J
def lift (c:Cx) (PQ:PJ):Exit→Act→World→Prop:=fun e a w=> ∃w0 L f,IsFr c.N (marks L) a f∧Mem w0 L w∧PQ e w0 L f
def H (c:Cx) (k:Code) (PQ:PJ):J:=fun w0 L f=> ∀a w,IsFr c.N (marks L) a f→Mem w0 L w→k.wpIn (FW c.ro) 0 c.P (lift c PQ) a w
def thenJ (K:J) (PQ:PJ):PJ
 | .normal=>K
 | .exit i=>PQ (.exit i)
 | .goto l=>PQ (.goto l)
 | .ret=>PQ .ret
 | .panic ch=>PQ (.panic ch)
 | .outgrown=>PQ .outgrown
def blockJ (id:Nat) (PQ:PJ):PJ
 | .normal=>PQ .normal
 | .exit i=>bif Nat.beq i id then PQ .normal else PQ (.exit i)
 | .goto l=>PQ (.goto l)
 | .ret=>PQ .ret
 | .panic ch=>PQ (.panic ch)
 | .outgrown=>PQ .outgrown
section
variable {c:Cx} {PQ:PJ} {w0:World} {L:List Item} {f:Fr}
theorem H_mem {k:Code} {L':List Item} (hm: ∀w,Mem w0 L w→Mem w0 L' w) (hk:marks L'=marks L) (h:H c k PQ w0 L' f):H c k PQ w0 L f:=fun a w ha hw=>h a w (hk▸ha) (hm w hw)
theorem H_seq {x y:Code} (h:H c x (thenJ (H c y PQ) PQ) w0 L f):H c (.seq x y) PQ w0 L f:=fun a w ha hw=>
 wpIn_seq (wpIn_mono (h a w ha hw) fun e a' w' ⟨u',L',f',h1,h2,h3⟩=>by
  cases e with
  |normal=>exact h3 a' w' h1 h2
  |exit i=>exact ⟨u',L',f',h1,h2,h3⟩
  |goto l=>exact ⟨u',L',f',h1,h2,h3⟩
  |ret=>exact ⟨u',L',f',h1,h2,h3⟩
  |panic ch=>exact ⟨u',L',f',h1,h2,h3⟩
  |outgrown=>exact ⟨u',L',f',h1,h2,h3⟩)
theorem H_block {id:Nat} {k:Code} (h:H c k (blockJ id PQ) w0 L f):H c (.block id k) PQ w0 L f:=fun a w ha hw=>
 wpIn_block (wpIn_mono (h a w ha hw) fun e a' w' ⟨u',L',f',h1,h2,h3⟩=>by
  cases e with
  |normal=>exact ⟨u',L',f',h1,h2,h3⟩
  |exit i=>
   simp only [Exit.inBlock]
   by_cases hi:i=id
   ·subst hi
    rw [if_pos rfl]
    simp only [blockJ,Nat.beq_refl,cond_true] at h3
    exact ⟨u',L',f',h1,h2,h3⟩
   ·rw [if_neg hi]
    have hb:Nat.beq i id=false:=by
     cases hb:Nat.beq i id with
     |false=>rfl
     |true=>exact absurd (Nat.eq_of_beq_eq_true hb) hi
    simp only [blockJ,hb,cond_false] at h3
    exact ⟨u',L',f',h1,h2,h3⟩
  |goto l=>exact ⟨u',L',f',h1,h2,h3⟩
  |ret=>exact ⟨u',L',f',h1,h2,h3⟩
  |panic ch=>exact ⟨u',L',f',h1,h2,h3⟩
  |outgrown=>exact ⟨u',L',f',h1,h2,h3⟩)
theorem H_cond {x:Operand} {k1 k2:Code} {b:Bool} (hb:ev f x= .bool b) (h1:b=true→H c k1 PQ w0 L f) (h2:b=false→H c k2 PQ w0 L f):H c (.cond x k1 k2) PQ w0 L f:=fun a w ha hw=>
 wpIn_cond_split (t:=b) (by rw [ha.eval];exact hb) (fun e=>h1 e a w ha hw) (fun e=>h2 e a w ha hw)
theorem H_exit {id:Nat} (h:PQ (.exit id) w0 L f):H c (.exit id) PQ w0 L f:=fun _ _ ha hw=>wpIn_exit ⟨w0,L,f,ha,hw,h⟩
theorem H_ret (h:PQ .ret w0 L f):H c .ret PQ w0 L f:=fun _ _ ha hw=>wpIn_ret ⟨w0,L,f,ha,hw,h⟩
theorem H_skip (h:PQ .normal w0 L f):H c .skip PQ w0 L f:=fun _ _ ha hw=>wpIn_skip ⟨w0,L,f,ha,hw,h⟩
theorem thenJ_normal {K:J} (h:K w0 L f):thenJ K PQ .normal w0 L f:=h
theorem thenJ_exit {K:J} {i:Nat} (h:PQ (.exit i) w0 L f):thenJ K PQ (.exit i) w0 L f:=h
theorem thenJ_ret {K:J} (h:PQ .ret w0 L f):thenJ K PQ .ret w0 L f:=h
theorem blockJ_normal {i:Nat} (h:PQ .normal w0 L f):blockJ i PQ .normal w0 L f:=h
theorem blockJ_hit {i:Nat} (h:PQ .normal w0 L f):blockJ i PQ (.exit i) w0 L f:=by
 simp only [blockJ,Nat.beq_refl,cond_true];exact h
theorem blockJ_pass {i j:Nat} (hn:Nat.beq j i=false) (h:PQ (.exit j) w0 L f):blockJ i PQ (.exit j) w0 L f:=by
 simp only [blockJ,hn,cond_false];exact h
theorem blockJ_ret {i:Nat} (h:PQ .ret w0 L f):blockJ i PQ .ret w0 L f:=h
def HL (c:Cx) (ops rest:List Oper) (PQ:PJ):J:=fun w0 L f=> ∀a w,IsFr c.N (marks L) a f→Mem w0 L w→wpListIn (FW c.ro) 0 c.P ops.toArray (lift c PQ) rest a w
theorem H_region {id:Nat} {ops:List Oper} (h:HL c ops ops PQ w0 L f):H c (.region id ops.toArray false) PQ w0 L f:=fun a w ha hw=>wpIn_region_lit (h a w ha hw)
theorem HL_nil {ops:List Oper} (h:PQ .normal w0 L f):HL c ops [] PQ w0 L f:=fun _ _ ha hw=>⟨w0,L,f,ha,hw,h⟩
theorem HL_mem {ops rest:List Oper} {L':List Item} (hm: ∀w,Mem w0 L w→Mem w0 L' w) (hk:marks L'=marks L) (h:HL c ops rest PQ w0 L' f):HL c ops rest PQ w0 L f:=fun a w ha hw=>h a w (hk▸ha) (hm w hw)
def Gd (f:Fr) (g:Option (Nat×Bool)) (dsts:List (Option Nat)) (b:Bool):Prop:=gd f g dsts=b
def gv (g:Bool) (v:Value):Value:=bif g then v else undef
theorem Gd_none {dsts:List (Option Nat)}:Gd f none dsts true:=rfl
theorem Gd_true {j d:Nat} {dsts:List (Option Nat)} {x:Bool} (hj:dsts[j]?=some (some d)) (hx:f d= .bool x):Gd f (some (j,true)) dsts x:=by
 simp [Gd,gd,hj,hx,isB]
theorem Gd_false {j d:Nat} {dsts:List (Option Nat)} {x:Bool} (hj:dsts[j]?=some (some d)) (hx:f d= .bool x):Gd f (some (j,false)) dsts (!x):=by
 simp [Gd,gd,hj,hx,isB]
theorem Gd_true2 {j d:Nat} {dsts:List (Option Nat)} {x g:Bool} (hj:dsts[j]?=some (some d)) (hx:f d=gv g (.bool x)):Gd f (some (j,true)) dsts (g&&x):=by
 cases g<;>simp [Gd,gd,hj,hx,isB,gv,undef]
theorem Gd_false2 {j d:Nat} {dsts:List (Option Nat)} {x g:Bool} (hj:dsts[j]?=some (some d)) (hx:f d=gv g (.bool x)):Gd f (some (j,false)) dsts (g&&!x):=by
 cases g<;>simp [Gd,gd,hj,hx,isB,gv,undef]
def EvG (g:Bool) (c:Cx) (w0:World) (L:List Item) (f:Fr) (op:Op) (ty:TypeId) (v:Value):Prop:=
 g=true→ ∀(dst:Option Nat) (pos:String) (af:Array Edge) (gu:Option (Nat×Bool)) (w:World),Mem w0 L w→(execOp (ev f) ⟨dst,op,ty,pos,af,gu⟩).run c.P w= .ok (.value v) w
def OpV (g:Bool) (f:Fr) (x:Operand) (v:Value):Prop:=g=true→ev f x=v
theorem opv0 {g:Bool} {x:Operand} {v:Value} (h:ev f x=v):OpV g f x v:=fun _=>h
theorem opv1 {g:Bool} {x:Operand} {v:Value} (h:ev f x=gv g v):OpV g f x v:=fun e=>by rw [h,e];rfl
theorem opv2 {g y:Bool} {x:Operand} {v:Value} (h:ev f x=gv g v):OpV (g&&y) f x v:=fun e=>by
 have hg:g=true:=by cases g<;>simp_all
 rw [h,hg];rfl
def isDefer:Op→Bool
 | .defer _=>true
 |_=>false
theorem not_defer {op:Op} (h:isDefer op=false): ∀x,op≠ .defer x:=fun x e=>by subst e;cases h
theorem HL_val {ops rest:List Oper} {d:Nat} {op:Op} {ty:TypeId} {pos:String} {af:Array Edge} {gu:Option (Nat×Bool)} {g:Bool} {v:Value}
  (hg:Gd f gu (ops.map (·.dst)) g) (hnd:isDefer op=false) (hev:EvG g c w0 L f op ty v) (hd:Nat.blt d c.N=true) (next:HL c ops rest PQ w0 L (upd f d (gv g v))):
  HL c ops (⟨some d,op,ty,pos,af,gu⟩::rest) PQ w0 L f:=by
 intro a w ha hw
 show if _ then _ else _
 rw [wanted_fr ha]
 show if gd f gu _=true then _ else _
 rw [show gd f gu (ops.map (·.dst))=g from hg]
 cases g with
 |false=>exact ⟨fun _ _=>trivial,next _ _ (ha.put hd undef) hw⟩
 |true=>
  rw [if_pos rfl]
  refine ⟨fun _ _=>trivial,?_⟩
  rw [Oper.semAt_eq _ _ _ (not_defer hnd),ha.eval,hev rfl _ _ _ _ w hw]
  exact next _ _ (ha.put hd v) hw
theorem HL_eff {ops rest:List Oper} {d:Nat} {op:Op} {ty:TypeId} {pos:String} {af:Array Edge}
  (hnd:isDefer op=false) (hd:Nat.blt d c.N=true)
  (hev: ∀w,Mem w0 L w→ ∃v w' L',(execOp (ev f) ⟨some d,op,ty,pos,af,none⟩).run c.P w= .ok (.value v) w'∧Mem w0 L' w'∧marks L'=marks L∧HL c ops rest PQ w0 L' (upd f d v)):
  HL c ops (⟨some d,op,ty,pos,af,none⟩::rest) PQ w0 L f:=by
 intro a w ha hw
 obtain ⟨v,w',L',hrun,hm,hk,hn⟩:=hev w hw
 show if _ then _ else _
 rw [if_pos (by rfl)]
 refine ⟨fun _ _=>trivial,?_⟩
 rw [Oper.semAt_eq _ _ _ (not_defer hnd),ha.eval,hrun]
 exact hn _ _ (hk▸ha.put hd v) hm
theorem HL_do {ops rest:List Oper} {op:Op} {ty:TypeId} {pos:String} {af:Array Edge}
  (hnd:isDefer op=false)
  (hev: ∀w,Mem w0 L w→ ∃w' L',(execOp (ev f) ⟨none,op,ty,pos,af,none⟩).run c.P w= .ok .skip w'∧Mem w0 L' w'∧marks L'=marks L∧HL c ops rest PQ w0 L' f):
  HL c ops (⟨none,op,ty,pos,af,none⟩::rest) PQ w0 L f:=by
 intro a w ha hw
 obtain ⟨w',L',hrun,hm,hk,hn⟩:=hev w hw
 show if _ then _ else _
 rw [if_pos (by rfl)]
 refine ⟨fun _ _=>trivial,?_⟩
 rw [Oper.semAt_eq _ _ _ (not_defer hnd),ha.eval,hrun]
 exact hn _ _ (hk▸ha.put_none undef) hm
def EnterG (g:Bool) (c:Cx) (w0:World) (L:List Item) (f:Fr) (op:Op) (ty:TypeId) (k:FuncId) (args:Array Value):Prop:=
 g=true→ ∀(dst:Option Nat) (pos:String) (af:Array Edge) (gu:Option (Nat×Bool)) (w:World),Mem w0 L w→(execOp (ev f) ⟨dst,op,ty,pos,af,gu⟩).run c.P w= .ok (.enter k args) w
theorem HL_call0 {ops rest:List Oper} {d:Nat} {op:Op} {ty:TypeId} {pos:String} {af:Array Edge} {gu:Option (Nat×Bool)} {g:Bool} {k:FuncId} {args:Array Value} {v:Value}
  (hg:Gd f gu (ops.map (·.dst)) g) (hnd:isDefer op=false) (hen:EnterG g c w0 L f op ty k args) (hd:Nat.blt d c.N=true)
  (hc:g=true→ ∀w,Mem w0 L w→Calls c.P k args w fun e w'=>e= .returned v∧Bel w w')
  (next:HL c ops rest PQ w0 L (upd f d (gv g v))):HL c ops (⟨some d,op,ty,pos,af,gu⟩::rest) PQ w0 L f:=by
 intro a w ha hw
 show if _ then _ else _
 rw [wanted_fr ha]
 show if gd f gu _=true then _ else _
 rw [show gd f gu (ops.map (·.dst))=g from hg]
 cases g with
 |false=>exact ⟨fun _ _=>trivial,next _ _ (ha.put hd undef) hw⟩
 |true=>
  rw [if_pos rfl]
  refine ⟨fun _ _=>trivial,?_⟩
  rw [Oper.semAt_eq _ _ _ (not_defer hnd),ha.eval,hen rfl _ _ _ _ w hw]
  refine ⟨fun h=>by simp [FW] at h,(callsIn_FW ((hc rfl w hw).mono ?_))⟩
  rintro e w' ⟨rfl,hb⟩
  exact next _ _ (ha.put hd v) (hw.call hb)
theorem HL_call {α:Type} {ops rest:List Oper} {d:Nat} {op:Op} {ty:TypeId} {pos:String} {af:Array Edge} {k:FuncId} {args:Array Value} {val:α→Value} {Lx:α→List Item}
  (hnd:isDefer op=false) (hen:EnterG true c w0 L f op ty k args) (hd:Nat.blt d c.N=true)
  (hc: ∀w,Mem w0 L w→Calls c.P k args w fun e w'=> ∃x:α,e= .returned (val x)∧Mem w (Lx x) w')
  (hmk: ∀x,marks (Lx x)=[]) (next: ∀x,HL c ops rest PQ w0 (Lx x++L) (upd f d (val x))):HL c ops (⟨some d,op,ty,pos,af,none⟩::rest) PQ w0 L f:=by
 intro a w ha hw
 show if _ then _ else _
 rw [if_pos (by rfl)]
 refine ⟨fun _ _=>trivial,?_⟩
 rw [Oper.semAt_eq _ _ _ (not_defer hnd),ha.eval,hen rfl _ _ _ _ w hw]
 refine ⟨fun h=>by simp [FW] at h,(callsIn_FW ((hc w hw).mono ?_))⟩
 rintro e w' ⟨x,rfl,hm⟩
 exact next x _ _ (by rw [marks_append,hmk x,List.nil_append];exact ha.put hd _) (hw.callNew hm)
end
section
variable {c:Cx} {w0:World} {L:List Item}
def QL (c:Cx) (ops rest:List Oper) (w0:World) (L:List Item) (K:Fr→Prop) (f:Fr):Prop:=
 ∀a,IsFr c.N (marks L) a f→wpQuietIn (FW c.ro) 0 c.P ops.toArray (Mem w0 L) (fun a'=> ∃f',IsFr c.N (marks L) a' f'∧K f') rest a
theorem Oper.wpIn_of_quietR {F:Fence} {n:Nat} {P:Program} {C:World→Prop} {o:Oper} {a:Act} {K:Act→Prop} {K':Act→World→Prop} {Q':Exit→Act→World→Prop} {w:World} (hnd: ∀x,o.op≠ .defer x) (hw:C w) (h: ∀a w',C w'→K a→K' a w')
  (ha:o.askedIn F P a C) (hh:o.quietIn F n P a C K):o.wpIn F n P a w K' Q':=by
 obtain ⟨v,h1,h2⟩:=hh
 have h3:=h1 w hw
 unfold Oper.quietAtIn at h3
 unfold Oper.wpIn
 refine ⟨ha w hw,?_⟩
 rw [Oper.semAt_eq _ _ _ hnd]
 generalize (execOp a.eval o).run P w=r at*
 cases r with
 |ok x w'=>
  cases x<;>simp only [Oper.quietUponIn] at h3<;>simp only [Oper.uponIn]
  case value u=>
   obtain ⟨e1,e2⟩:=h3
   rw [e1,e2]
   exact h _ _ hw h2
  case skip=>
   obtain ⟨e1,e2⟩:=h3
   rw [e1,←e2]
   exact h _ _ hw h2
  case enter f args=>
   obtain ⟨e1,hd,hc⟩:=h3
   rw [e1]
   exact ⟨hd,hc.mono fun e w'' ⟨he,hw''⟩=>by subst he;exact h _ _ hw'' h2⟩
 |halt x w'=>simp only [Oper.quietUponIn] at h3
theorem wpOpIn_of_qOpInR {F:Fence} {n:Nat} {P:Program} {ops:Array Oper} {C:World→Prop} {i:Nat} {a:Act} {K:Act→Prop} {K':Act→World→Prop} {Q':Exit→Act→World→Prop} {w:World} (hnd: ∀(j:Nat) o,ops[j]?=some o→ ∀x,o.op≠ .defer x) (hC:C w) (h: ∀a w',C w'→K a→K' a w')
  (hh:qOpIn F n P ops C i K a):wpOpIn F n P ops Q' i K' a w:=by
 unfold qOpIn at hh
 unfold wpOpIn
 split
 ·rename_i ho;simp only [ho] at hh;exact h _ _ hC hh
 ·rename_i o ho
  simp only [ho] at hh
  obtain ⟨ha,hh⟩:=hh
  split
  ·rename_i hw;simp only [hw,if_true] at hh;exact Oper.wpIn_of_quietR (hnd i o ho) hC h ha hh
  ·rename_i hw;simp only [hw] at hh;exact ⟨ha w hC,h _ _ hC hh⟩
theorem wpAnyIn_of_quietR {F:Fence} {n:Nat} {P:Program} {md:Region.Mode} {ops:Array Oper} {C:World→Prop} {Q:Act→Prop} {Q':Exit→Act→World→Prop} (hnd: ∀(j:Nat) o,ops[j]?=some o→ ∀x,o.op≠ .defer x) (hQ: ∀a w,C w→Q a→Q' .normal a w): ∀(fuel:Nat) (listed:Array Bool) (a:Act) (w:World),C w→
  wpAnyQIn F n P md ops C Q fuel listed a→wpAnyIn F n P md ops Q' fuel listed a w
 |0,_,_,_,hw,h=>⟨h.1,hQ _ _ hw h.2⟩
 |fuel+1,_,_,_,hw,h=>⟨fun h0=>hQ _ _ hw (h.1 h0),fun i hi=>wpOpIn_of_qOpInR hnd hw (fun a' w' hw'=>wpAnyIn_of_quietR hnd hQ fuel _ a' w' hw') (h.2 i hi)⟩
theorem Mem.drew {w0 w:World} {L:List Item} (h:Mem w0 L w):Mem w0 L {w with drawn:=w.drawn+1}:=
 h.call ⟨⟨rfl,rfl,rfl,Nat.le_refl _,fun _ _=>rfl⟩,Nat.le_add_right _ _⟩
theorem H_draw {PQ:PJ} {f:Fr} {id:Nat} {ops:List Oper} (hm:c.P.follows .mixedOrders=true) (hB:(Region.lexB .any ops.toArray&&ops.all (fun o=>!isDefer o.op))=true) (h:QL c ops ops w0 L (fun f'=>PQ .normal w0 L f') f):
  H c (.region id ops.toArray true) PQ w0 L f:=by
 intro a w ha hw
 rw [Bool.and_eq_true] at hB
 obtain ⟨hB,hD⟩:=hB
 have hnd: ∀(j:Nat) (o:Oper),ops.toArray[j]?=some o→ ∀x,o.op≠ .defer x:=fun j o hj=>not_defer (by
  have hmem:o∈ops:=List.mem_of_getElem? (by simpa using hj)
  simpa using List.all_eq_true.1 hD o hmem)
 simp only [Region.lexB,Bool.and_eq_true] at hB
 refine wpIn_region_any hm (wpAnyIn_of_quietR (C:=Mem w0 L) (Q:=fun a'=> ∃f',IsFr c.N (marks L) a' f'∧PQ .normal w0 L f') hnd (fun a' w' hw' ⟨f',h1,h2⟩=>⟨w0,L,f',h1,hw',h2⟩) _ _ _ _ hw.drew ?_)
 have:=wpAnyQIn_lex (F:=FW c.ro) (n:=0) (P:=c.P) (C:=Mem w0 L) (md:= .any) (Q:=fun a'=> ∃f',IsFr c.N (marks L) a' f'∧PQ .normal w0 L f') hB.1 ops 0 (Array.replicate ops.toArray.size false) a (by simp) (by simpa using hB.2) (h a ha)
 simpa using this
variable {K:Fr→Prop} {f:Fr}
theorem QL_nil {ops:List Oper} (h:K f):QL c ops [] w0 L K f:=fun _ ha=>⟨f,ha,h⟩
theorem QL_val {ops rest:List Oper} {d:Nat} {op:Op} {ty:TypeId} {pos:String} {af:Array Edge} {gu:Option (Nat×Bool)} {g:Bool} {v:Value}
  (hg:Gd f gu (ops.map (·.dst)) g) (hev:EvG g c w0 L f op ty v) (hd:Nat.blt d c.N=true) (next:QL c ops rest w0 L K (upd f d (gv g v))):
  QL c ops (⟨some d,op,ty,pos,af,gu⟩::rest) w0 L K f:=by
 intro a ha
 refine ⟨fun _ _ _ _=>trivial,?_⟩
 rw [wanted_fr ha]
 show if gd f gu _=true then _ else _
 rw [show gd f gu (ops.map (·.dst))=g from hg]
 cases g with
 |false=>exact next _ (ha.put hd undef)
 |true=>
  rw [if_pos rfl]
  refine ⟨v,fun w hw=>?_,next _ (ha.put hd v)⟩
  unfold Oper.quietAtIn
  rw [ha.eval,hev rfl _ _ _ _ w hw]
  exact ⟨rfl,rfl⟩
theorem QL_call0 {ops rest:List Oper} {d:Nat} {op:Op} {ty:TypeId} {pos:String} {af:Array Edge} {gu:Option (Nat×Bool)} {g:Bool} {k:FuncId} {args:Array Value} {v:Value}
  (hg:Gd f gu (ops.map (·.dst)) g) (hen:EnterG g c w0 L f op ty k args) (hd:Nat.blt d c.N=true)
  (hc:g=true→ ∀w,Mem w0 L w→Calls c.P k args w fun e w'=>e= .returned v∧Bel w w')
  (next:QL c ops rest w0 L K (upd f d (gv g v))):QL c ops (⟨some d,op,ty,pos,af,gu⟩::rest) w0 L K f:=by
 intro a ha
 refine ⟨fun _ _ _ _=>trivial,?_⟩
 rw [wanted_fr ha]
 show if gd f gu _=true then _ else _
 rw [show gd f gu (ops.map (·.dst))=g from hg]
 cases g with
 |false=>exact next _ (ha.put hd undef)
 |true=>
  rw [if_pos rfl]
  refine ⟨v,fun w hw=>?_,next _ (ha.put hd v)⟩
  unfold Oper.quietAtIn
  rw [ha.eval,hen rfl _ _ _ _ w hw]
  refine ⟨rfl,fun h=>by simp [FW] at h,callsIn_FW ((hc rfl w hw).mono ?_)⟩
  rintro e w' ⟨rfl,hb⟩
  exact ⟨rfl,hw.call hb⟩
end
def updL (f:Fr):List (Nat×Value)→Fr
 |[]=>f
 |(i,v)::r=>upd (updL f r) i v
def over (f0:Fr) (S:List Nat) (g:Fr):Fr:=fun i=>bif S.elem i then g i else f0 i
def Agree (S:List Nat) (f f0:Fr):Prop:= ∀i,S.elem i=false→f i=f0 i
theorem agree_self {S:List Nat} {f:Fr}:Agree S f f:=fun _ _=>rfl
theorem agree_over {S:List Nat} {f0 g:Fr}:Agree S (over f0 S g) f0:=fun i hi=>by unfold over;rw [hi];rfl
theorem agree_over2 {S T:List Nat} {f f0 g:Fr} (hs:T.all (fun i=>S.elem i)=true) (h:Agree S f f0):Agree S (over f T g) f0:=fun i hi=>by
 have ht:T.elem i=false:=by
  cases he:T.elem i with
  |false=>rfl
  |true=>
   have hm:i∈T:=by simpa using he
   have:=List.all_eq_true.1 hs i hm
   rw [hi] at this;cases this
 unfold over;rw [ht];exact h i hi
theorem agree_upd {S:List Nat} {f f0:Fr} {i:Nat} {v:Value} (hi:S.elem i=true) (h:Agree S f f0):Agree S (upd f i v) f0:=fun j hj=>by
 have hne:Nat.beq j i=false:=by
  cases hb:Nat.beq j i with
  |false=>rfl
  |true=>rw [Nat.eq_of_beq_eq_true hb] at hj;rw [hi] at hj;cases hj
 simp only [upd,hne,cond_false]
 exact h j hj
theorem agree_updL {S:List Nat} {f f0:Fr}: ∀{vs:List (Nat×Value)},vs.all (fun p=>S.elem p.1)=true→Agree S f f0→Agree S (updL f vs) f0
 |[],_,h=>h
 |(i,v)::r,hv,h=>by
  simp only [List.all_cons,Bool.and_eq_true] at hv
  exact agree_upd hv.1 (agree_updL hv.2 h)
def Has (f:Fr):List (Nat×Value)→Prop
 |[]=>True
 |(i,v)::r=>f i=v∧Has f r
theorem frame_of {S:List Nat} {f f0:Fr} (ha:Agree S f f0): ∀{vs:List (Nat×Value)},Has f vs→f=updL (over f0 S f) vs
 |[],_=>funext fun i=>by
  show f i=over f0 S f i
  unfold over
  cases h:S.elem i with
  |true=>rfl
  |false=>exact ha i h
 |(i,v)::r,hv=>funext fun j=>by
  have ih:=congrFun (frame_of ha hv.2) j
  show f j=upd (updL (over f0 S f) r) i v j
  unfold upd
  cases hb:Nat.beq j i with
  |false=>exact ih
  |true=>rw [Nat.eq_of_beq_eq_true hb];exact hv.1
structure Round {σ:Type} (S:List Nat) (f0:Fr) (vals:σ→List (Nat×Value)) (Wb:σ→World) (Li:σ→List Item) (I:σ→Prop) (m:σ→Nat) (s:σ) (w0:World) (L:List Item) (f:Fr):Prop where
 ex: ∃s',Agree S f f0∧Has f (vals s')∧(∀w,Mem w0 L w→Mem (Wb s') (Li s') w)∧marks (Li s')=marks L∧I s'∧m s'<m s
def loopJ {σ:Type} (S:List Nat) (f0:Fr) (vals:σ→List (Nat×Value)) (Wb:σ→World) (Li:σ→List Item) (I:σ→Prop) (m:σ→Nat) (s:σ) (PQ:PJ):PJ:=thenJ (Round S f0 vals Wb Li I m s) PQ
theorem H_loopW {c:Cx} {PQ:PJ} {w0:World} {L:List Item} {f:Fr} {σ:Type} {k:Code} (S:List Nat) (vals:σ→List (Nat×Value)) (Wb:σ→World) (Li:σ→List Item) (I:σ→Prop) (m:σ→Nat) (s0:σ)
  (hv0:Has f (vals s0)) (hL0: ∀w,Mem w0 L w→Mem (Wb s0) (Li s0) w) (hk0:marks (Li s0)=marks L) (hI0:I s0)
  (round: ∀s g,I s→H c k (loopJ S f vals Wb Li I m s PQ) (Wb s) (Li s) (updL (over f S g) (vals s))):H c (.loop k) PQ w0 L f:=by
 intro a w ha hw
 refine wpIn_loop_ghost (fun j a w=> ∃s g,IsFr c.N (marks (Li s)) a (updL (over f S g) (vals s))∧Mem (Wb s) (Li s) w∧I s∧m s=j) (m s0) ?_ ?_
 ·refine ⟨s0,f,?_,hL0 w hw,hI0,rfl⟩
  rw [←frame_of agree_self hv0,hk0];exact ha
 ·rintro j a w ⟨s,g,h1,h2,h3,rfl⟩
  refine wpIn_mono (round s g h3 a w h1 h2) ?_
  rintro e a' w' ⟨u',L',f',k1,k2,k3⟩
  cases e with
  |normal=>
   obtain ⟨s',ag,hv,hm,hk,hI,hlt⟩:=Round.ex k3
   exact ⟨m s',hlt,s',f',by rw [←frame_of ag hv,hk];exact k1,hm _ k2,hI,rfl⟩
  |exit i=>exact ⟨u',L',f',k1,k2,k3⟩
  |goto l=>exact ⟨u',L',f',k1,k2,k3⟩
  |ret=>exact ⟨u',L',f',k1,k2,k3⟩
  |panic ch=>exact ⟨u',L',f',k1,k2,k3⟩
  |outgrown=>exact ⟨u',L',f',k1,k2,k3⟩
theorem H_loop {c:Cx} {PQ:PJ} {w0:World} {L:List Item} {f:Fr} {σ:Type} {k:Code} (S:List Nat) (vals:σ→List (Nat×Value)) (Li:σ→List Item) (I:σ→Prop) (m:σ→Nat) (s0:σ)
  (hv0:Has f (vals s0)) (hL0: ∀w,Mem w0 L w→Mem w0 (Li s0) w) (hk0:marks (Li s0)=marks L) (hI0:I s0)
  (round: ∀s g,I s→H c k (loopJ S f vals (fun _=>w0) Li I m s PQ) w0 (Li s) (updL (over f S g) (vals s))):H c (.loop k) PQ w0 L f:=
 H_loopW S vals (fun _=>w0) Li I m s0 hv0 hL0 hk0 hI0 round
section
variable {PQ:PJ} {w0:World} {L:List Item} {f f0:Fr} {σ:Type} {S:List Nat} {vals:σ→List (Nat×Value)} {Wb:σ→World} {Li:σ→List Item} {I:σ→Prop} {m:σ→Nat} {s:σ}
theorem loopJ_normal (s':σ) (hag:Agree S f f0) (hv:Has f (vals s')) (hm: ∀w,Mem w0 L w→Mem (Wb s') (Li s') w) (hk:marks (Li s')=marks L) (hI:I s') (hlt:m s'<m s):loopJ S f0 vals Wb Li I m s PQ .normal w0 L f:=⟨⟨s',hag,hv,hm,hk,hI,hlt⟩⟩
theorem loopJ_exit {i:Nat} (h:PQ (.exit i) w0 L f):loopJ S f0 vals Wb Li I m s PQ (.exit i) w0 L f:=h
theorem loopJ_ret (h:PQ .ret w0 L f):loopJ S f0 vals Wb Li I m s PQ .ret w0 L f:=h
end
def frOf (l:List Value):Fr:=fun i=>l.getD i undef
def retJ (c:Cx) (fn:Func) (R:Ending→World→Prop):PJ
 | .normal=>fun w0 L f=> ∀w a,Mem w0 L w→IsFr c.N (marks L) a f→LeavesInM (FW none) 0 c.P fn a.tmps R (marks L) .returning w
 | .ret=>fun w0 L f=> ∀w a,Mem w0 L w→IsFr c.N (marks L) a f→LeavesInM (FW none) 0 c.P fn a.tmps R (marks L) .returning w
 |_=>fun _ _ _=>False
theorem H_enter {P:Program} {k:FuncId} {fn:Func} {code:Code} {l:List Value} {w:World} {R:Ending→World→Prop} {N:Nat} (hf:P.funcs[k]?=some fn) (hb:fn.body=some code) (hN:fn.ntmps=N) (hl:Nat.ble l.length N=true)
  (h:H ⟨P,none,N⟩ code (retJ ⟨P,none,N⟩ fn R) w [] (frOf l)):Calls P k l.toArray w R:=by
 have hl':l.length≤N:=Nat.le_of_ble_eq_true hl
 refine calls_FW (n:=0) (callsIn_of_wp_marks hf hb trivial (wpIn_mono (h _ w ⟨?_,?_,rfl⟩ (Mem.start w)) ?_) rfl)
 ·simp [hN];omega
 ·intro i
  simp only [Array.getD_eq_getD_getElem?,frOf,List.getD_eq_getElem?_getD]
  rw [Array.getElem?_append]
  split
  ·simp
  ·rename_i hi
   have:l[i]?=none:=List.getElem?_eq_none (by simpa using hi)
   rw [this]
   simp only [Array.getElem?_replicate]
   split<;>rfl
 ·rintro e a w' ⟨u',L',f',k1,k2,k3⟩
  cases e with
  |normal=>have:=k3 w' a k2 k1;rw [←k1.defers] at this;exact this
  |ret=>have:=k3 w' a k2 k1;rw [←k1.defers] at this;exact this
  |exit i=>exact k3.elim
  |goto l=>exact k3.elim
  |panic ch=>exact k3.elim
  |outgrown=>exact k3.elim
def dblk (D:Nat):Item where
 fp:=fun x=>x=D
 A:=fun w=>w.heap[D]?=some (.deferred (some []))
 st:=fun _ _ h hA=>(h D rfl).trans hA
def dmark (D:Nat):Item:={dblk D with due:=[{target:= .collected D,args:= #[]}]}
def ResIs (P:Program) (N:Nat) (fn:Func) (w0:World) (L:List Item) (f:Fr) (v:Value):Prop:= ∀w ds a,Mem w0 L w→IsFr N ds a f→(results fn a.tmps).run P w= .ok v w
theorem Mem.tail {w0 w:World} {it:Item} {L:List Item} (h:Mem w0 (it::L) w):Mem w0 L w:=
 ⟨h.1,fun x hx=>h.2.1 x (List.mem_cons_of_mem _ hx),fun x hx=>h.2.2.1 x (List.mem_cons_of_mem _ hx),(List.pairwise_cons.1 h.2.2.2).2⟩
theorem Mem.take0 {w0 w:World} {D:Nat} {o:Obj} {it:Item} {L:List Item} (h:Mem w0 (it::L) w) (hfp:it.fp D):Mem w0 L (w.putObj D o):=by
 have hD:=h.2.2.1 it (List.mem_cons_self ..) D hfp
 have hp:=(List.pairwise_cons.1 h.2.2.2).1
 have ht:=h.tail
 refine ⟨⟨⟨ht.1.os,ht.1.tape,ht.1.output,by simpa using ht.1.size,fun k hk=>(World.putObj_heap_other (by omega)).trans (ht.1.block k hk)⟩,ht.1.drawn⟩,fun x hx=>x.st w _ (fun b hb=>World.putObj_heap_other (fun e=>?_)) (ht.2.1 x hx),fun x hx b hb=>by simpa using ht.2.2.1 x hx b hb,ht.2.2.2⟩
 subst e
 exact hp x hx b hfp hb
section
variable {c:Cx} {fn:Func} {R:Ending→World→Prop} {w0:World} {L:List Item} {f:Fr} {v:Value}
theorem ret_of (hk:marks L=[]) (hr:ResIs c.P c.N fn w0 L f v) (h: ∀w,Mem w0 L w→R (.returned v) w):retJ c fn R .ret w0 L f:=fun w a hw ha=>by
 rw [hk];exact ⟨v,hr w _ a hw ha,h w hw⟩
theorem end_of (hk:marks L=[]) (hr:ResIs c.P c.N fn w0 L f v) (h: ∀w,Mem w0 L w→R (.returned v) w):retJ c fn R .normal w0 L f:=fun w a hw ha=>by
 rw [hk];exact ⟨v,hr w _ a hw ha,h w hw⟩
theorem ret_of_m {D:Nat} (hk:marks L=[]) (hr:ResIs c.P c.N fn w0 L f v) (h: ∀w,Mem w0 L w→R (.returned v) w):retJ c fn R .ret w0 (dmark D::L) f:=fun w a hw ha=>by
 rw [marks_cons,hk]
 have hA:w.heap[D]?=some (.deferred (some [])):=hw.2.1 (dmark D) (List.mem_cons_self ..)
 have hw':Mem w0 L (w.putObj D (.deferred none)):=Mem.take0 hw (show (dmark D).fp D from rfl)
 exact ⟨by simp, .inl ⟨D,_,rfl,run_takeDeferred hA,v,hr _ _ a hw' ha,h _ hw'⟩⟩
theorem res0 (hr:fn.results= #[]):ResIs c.P c.N fn w0 L f (.tuple #[]):=fun w ds a _ _=>by simp [results,hr]
theorem res1 {t:Nat} (hr:fn.results= #[.tmp t]) (hv:f t=v):ResIs c.P c.N fn w0 L f v:=fun w ds a _ ha=>by
 have:=ha.get t
 simp [results,hr,←hv,←this]
theorem res2 {t u:Nat} {x:Value} (hr:fn.results= #[.tmp t, .tmp u]) (hv:f t=v) (hx:f u=x):ResIs c.P c.N fn w0 L f (.tuple #[v,x]):=fun w ds a _ ha=>by
 have h1:=ha.get t
 have h2:=ha.get u
 simp [results,hr,←hv,←hx,←h1,←h2]
theorem res3 {t u y:Nat} {x z:Value} (hr:fn.results= #[.tmp t, .tmp u, .tmp y]) (hv:f t=v) (hx:f u=x) (hz:f y=z):ResIs c.P c.N fn w0 L f (.tuple #[v,x,z]):=fun w ds a _ ha=>by
 have h1:=ha.get t
 have h2:=ha.get u
 have h3:=ha.get y
 simp [results,hr,←hv,←hx,←hz,←h1,←h2,←h3]
theorem ret0 (hr:fn.results= #[]) (hk:marks L=[]) (h: ∀w,Mem w0 L w→R (.returned (.tuple #[])) w):retJ c fn R .ret w0 L f:=ret_of hk (res0 hr) h
theorem end0 (hr:fn.results= #[]) (hk:marks L=[]) (h: ∀w,Mem w0 L w→R (.returned (.tuple #[])) w):retJ c fn R .normal w0 L f:=end_of hk (res0 hr) h
theorem ret1 {t:Nat} (hr:fn.results= #[.tmp t]) (hv:f t=v) (hk:marks L=[]) (h: ∀w,Mem w0 L w→R (.returned v) w):retJ c fn R .ret w0 L f:=ret_of hk (res1 hr hv) h
theorem ret2 {t u:Nat} {x:Value} (hr:fn.results= #[.tmp t, .tmp u]) (hv:f t=v) (hx:f u=x) (hk:marks L=[]) (h: ∀w,Mem w0 L w→R (.returned (.tuple #[v,x])) w):retJ c fn R .ret w0 L f:=ret_of hk (res2 hr hv hx) h
theorem ret3 {t u y:Nat} {x z:Value} (hr:fn.results= #[.tmp t, .tmp u, .tmp y]) (hv:f t=v) (hx:f u=x) (hz:f y=z) (hk:marks L=[]) (h: ∀w,Mem w0 L w→R (.returned (.tuple #[v,x,z])) w):retJ c fn R .ret w0 L f:=ret_of hk (res3 hr hv hx hz) h
end
theorem gv_false {v:Value}:gv false v=undef:=rfl
theorem gv_true {v:Value}:gv true v=v:=rfl
attribute [irreducible] gv
end Go.Proofs.E
namespace Go.Proofs.E
open Go Go.RowKit
def XL (dr:Bool) (c:Cx) (ops rest:List Oper) (PQ:PJ):J:=
 match dr with
 |false=>HL c ops rest PQ
 |true=>fun w0 L f=>QL c ops rest w0 L (fun f'=>PQ .normal w0 L f') f
section
variable {dr:Bool} {c:Cx} {PQ:PJ} {w0:World} {L:List Item} {f:Fr} {ops rest:List Oper} {d:Nat} {ty:TypeId} {pos:String} {af:Array Edge} {gu:Option (Nat×Bool)} {g:Bool} {v:Value}
theorem R0 {id:Nat} {ops:List Oper} (h:XL false c ops ops PQ w0 L f):H c (.region id ops.toArray false) PQ w0 L f:=H_region h
theorem R1 {id:Nat} {ops:List Oper} (hm:c.P.follows .mixedOrders=true) (hB:(Region.lexB .any ops.toArray&&ops.all (fun o=>!isDefer o.op))=true) (h:XL true c ops ops PQ w0 L f):H c (.region id ops.toArray true) PQ w0 L f:=H_draw hm hB h
theorem XN (h:PQ .normal w0 L f):XL dr c ops [] PQ w0 L f:=by
 cases dr
 ·exact HL_nil h
 ·exact QL_nil h
theorem XV {op:Op} (hg:Gd f gu (ops.map (·.dst)) g) (hnd:isDefer op=false) (hev:EvG g c w0 L f op ty v) (hd:Nat.blt d c.N=true) (next:XL dr c ops rest PQ w0 L (upd f d (gv g v))):
  XL dr c ops (⟨some d,op,ty,pos,af,gu⟩::rest) PQ w0 L f:=by
 cases dr
 ·exact HL_val hg hnd hev hd next
 ·exact QL_val hg hev hd next
theorem XC {op:Op} {k:FuncId} {args:Array Value} (hg:Gd f gu (ops.map (·.dst)) g) (hnd:isDefer op=false) (hen:EnterG g c w0 L f op ty k args) (hd:Nat.blt d c.N=true)
  (hc:g=true→ ∀w,Mem w0 L w→Calls c.P k args w fun e w'=>e= .returned v∧Bel w w') (next:XL dr c ops rest PQ w0 L (upd f d (gv g v))):
  XL dr c ops (⟨some d,op,ty,pos,af,gu⟩::rest) PQ w0 L f:=by
 cases dr
 ·exact HL_call0 hg hnd hen hd hc next
 ·exact QL_call0 hg hen hd hc next
theorem xV {op:Op} (hev:EvG true c w0 L f op ty v) (hnd:isDefer op=false) (hd:Nat.blt d c.N=true) (next:XL dr c ops rest PQ w0 L (upd f d v)):XL dr c ops (⟨some d,op,ty,pos,af,none⟩::rest) PQ w0 L f:=XV Gd_none hnd hev hd (by rw [gv_true];exact next)
theorem xVT {op:Op} {j e:Nat} {b:Bool} (hev:EvG b c w0 L f op ty v) (hj:(ops.map (·.dst))[j]?=some (some e)) (hx:f e= .bool b) (hnd:isDefer op=false) (hd:Nat.blt d c.N=true) (next:XL dr c ops rest PQ w0 L (upd f d (gv b v))):XL dr c ops (⟨some d,op,ty,pos,af,some (j,true)⟩::rest) PQ w0 L f:=XV (Gd_true hj hx) hnd hev hd next
theorem xVF {op:Op} {j e:Nat} {b:Bool} (hev:EvG (!b) c w0 L f op ty v) (hj:(ops.map (·.dst))[j]?=some (some e)) (hx:f e= .bool b) (hnd:isDefer op=false) (hd:Nat.blt d c.N=true) (next:XL dr c ops rest PQ w0 L (upd f d (gv (!b) v))):XL dr c ops (⟨some d,op,ty,pos,af,some (j,false)⟩::rest) PQ w0 L f:=XV (Gd_false hj hx) hnd hev hd next
theorem xVT2 {op:Op} {j e:Nat} {b g:Bool} (hev:EvG (g&&b) c w0 L f op ty v) (hj:(ops.map (·.dst))[j]?=some (some e)) (hx:f e=gv g (.bool b)) (hnd:isDefer op=false) (hd:Nat.blt d c.N=true) (next:XL dr c ops rest PQ w0 L (upd f d (gv (g&&b) v))):XL dr c ops (⟨some d,op,ty,pos,af,some (j,true)⟩::rest) PQ w0 L f:=XV (Gd_true2 hj hx) hnd hev hd next
theorem xVF2 {op:Op} {j e:Nat} {b g:Bool} (hev:EvG (g&&!b) c w0 L f op ty v) (hj:(ops.map (·.dst))[j]?=some (some e)) (hx:f e=gv g (.bool b)) (hnd:isDefer op=false) (hd:Nat.blt d c.N=true) (next:XL dr c ops rest PQ w0 L (upd f d (gv (g&&!b) v))):XL dr c ops (⟨some d,op,ty,pos,af,some (j,false)⟩::rest) PQ w0 L f:=XV (Gd_false2 hj hx) hnd hev hd next
section
variable {op:Op} {k:FuncId} {args:Array Value}
theorem xC (hen:EnterG true c w0 L f op ty k args) (hc:true=true→ ∀w,Mem w0 L w→Calls c.P k args w fun e w'=>e= .returned v∧Bel w w') (hnd:isDefer op=false) (hd:Nat.blt d c.N=true) (next:XL dr c ops rest PQ w0 L (upd f d v)):XL dr c ops (⟨some d,op,ty,pos,af,none⟩::rest) PQ w0 L f:=XC Gd_none hnd hen hd hc (by rw [gv_true];exact next)
theorem xCT {j e:Nat} {b:Bool} (hen:EnterG b c w0 L f op ty k args) (hc:b=true→ ∀w,Mem w0 L w→Calls c.P k args w fun e w'=>e= .returned v∧Bel w w') (hj:(ops.map (·.dst))[j]?=some (some e)) (hx:f e= .bool b) (hnd:isDefer op=false) (hd:Nat.blt d c.N=true) (next:XL dr c ops rest PQ w0 L (upd f d (gv b v))):XL dr c ops (⟨some d,op,ty,pos,af,some (j,true)⟩::rest) PQ w0 L f:=XC (Gd_true hj hx) hnd hen hd hc next
theorem xCF {j e:Nat} {b:Bool} (hen:EnterG (!b) c w0 L f op ty k args) (hc:(!b)=true→ ∀w,Mem w0 L w→Calls c.P k args w fun e w'=>e= .returned v∧Bel w w') (hj:(ops.map (·.dst))[j]?=some (some e)) (hx:f e= .bool b) (hnd:isDefer op=false) (hd:Nat.blt d c.N=true) (next:XL dr c ops rest PQ w0 L (upd f d (gv (!b) v))):XL dr c ops (⟨some d,op,ty,pos,af,some (j,false)⟩::rest) PQ w0 L f:=XC (Gd_false hj hx) hnd hen hd hc next
theorem xCX {α:Type} {val:α→Value} {Lx:α→List Item} (hen:EnterG true c w0 L f op ty k args) (hc: ∀w,Mem w0 L w→Calls c.P k args w fun e w'=> ∃x:α,e= .returned (val x)∧Mem w (Lx x) w') (hd:Nat.blt d c.N=true) (hmk: ∀x,marks (Lx x)=[]) (next: ∀x,XL false c ops rest PQ w0 (Lx x++L) (upd f d (val x))) (hnd:isDefer op=false:=by rfl):
  XL false c ops (⟨some d,op,ty,pos,af,none⟩::rest) PQ w0 L f:=HL_call hnd hen hd hc hmk next
end
end
def RowAt (w:World) (b o:Nat) (cs:List Value):Prop:= ∀j u,cs[j]?=some u→w.cell? ⟨b,o+j,none⟩=some u
section
variable {c:Cx} {w0:World} {L:List Item} {f:Fr} {ty:TypeId} {g:Bool} {v:Value} {x y:Operand}
theorem ev_const (v:Value):ev f (.const v)=v:=rfl
theorem ev_func (k:FuncId):ev f (.func k)= .func (.func k) #[] #[]:=rfl
theorem e_mv (hx:OpV g f x v):EvG g c w0 L f (.move x) ty v:=fun e _ _ _ _ w _=>by simp [execOp,hx e]
theorem e_as (hx:OpV g f x v):EvG g c w0 L f (.assign x) ty v:=fun e _ _ _ _ w _=>by simp [execOp,hx e]
theorem e_or {b z g2:Bool} (hx:OpV g f x (.bool b)) (hy:ev f y=gv g2 (.bool z)) (hg:g=true→g2=!b):EvG g c w0 L f (.pick x (.const (.bool true)) y) ty (.bool (b||z)):=fun e _ _ _ _ w _=>by
 have h1:=hx e
 have h2:=hg e
 cases b
 ·simp [execOp,h1,hy,h2,gv,asBool]
 ·simp [execOp,h1,asBool,ev_const]
theorem e_and {b z g2:Bool} (hx:OpV g f x (.bool b)) (hy:ev f y=gv g2 (.bool z)) (hg:g=true→g2=b):EvG g c w0 L f (.pick x y (.const (.bool false))) ty (.bool (b&&z)):=fun e _ _ _ _ w _=>by
 have h1:=hx e
 have h2:=hg e
 cases b
 ·simp [execOp,h1,asBool,ev_const]
 ·simp [execOp,h1,hy,h2,gv,asBool]
section
variable {t t2:TypeId} {m n:Int}
theorem e_lt {k:IntKind} (hx:OpV g f x (.int k m)) (hy:OpV g f y (.int k n)):EvG g c w0 L f (.binOp .lss t x y t2) ty (.bool (decide (m<n))):=fun e _ _ _ _ w _=>by
 simp [execOp,hx e,hy e,eqGuard,binOp,Op.intCmp]
theorem e_le {k:IntKind} (hx:OpV g f x (.int k m)) (hy:OpV g f y (.int k n)):EvG g c w0 L f (.binOp .leq t x y t2) ty (.bool (decide (m≤n))):=fun e _ _ _ _ w _=>by
 simp [execOp,hx e,hy e,eqGuard,binOp,Op.intCmp]
theorem e_gt {k:IntKind} (hx:OpV g f x (.int k m)) (hy:OpV g f y (.int k n)):EvG g c w0 L f (.binOp .gtr t x y t2) ty (.bool (decide (n<m))):=fun e _ _ _ _ w _=>by
 simp [execOp,hx e,hy e,eqGuard,binOp,Op.intCmp]
theorem e_ge {k:IntKind} (hx:OpV g f x (.int k m)) (hy:OpV g f y (.int k n)):EvG g c w0 L f (.binOp .geq t x y t2) ty (.bool (decide (n≤m))):=fun e _ _ _ _ w _=>by
 simp [execOp,hx e,hy e,eqGuard,binOp,Op.intCmp]
theorem e_eq {k:IntKind} (hx:OpV g f x (.int k m)) (hy:OpV g f y (.int k n)):EvG g c w0 L f (.binOp .eql t x y t2) ty (.bool (decide (m=n))):=fun e _ _ _ _ w _=>by
 simp [execOp,hx e,hy e,eqGuard,binOp,Op.intCmp]
 rfl
theorem e_ne {k:IntKind} (hx:OpV g f x (.int k m)) (hy:OpV g f y (.int k n)):EvG g c w0 L f (.binOp .neq t x y t2) ty (.bool (!decide (m=n))):=fun e _ _ _ _ w _=>by
 simp [execOp,hx e,hy e,eqGuard,binOp,Op.intCmp]
 rfl
theorem e_add (hx:OpV g f x (.int .i64 m)) (hy:OpV g f y (.int .i64 n)) {r:Int} (hr:g=true→m+n=r∧ -9223372036854775808≤r∧r≤9223372036854775807):EvG g c w0 L f (.binOp .add t x y t2) ty (.int .i64 r):=fun e _ _ _ _ w _=>by
 obtain ⟨rfl,h1,h2⟩:=hr e
 simp [execOp,hx e,hy e,eqGuard,binOp,Op.intArith,IntWalk.i64_in _ ⟨h1,h2⟩]
theorem e_sub (hx:OpV g f x (.int .i64 m)) (hy:OpV g f y (.int .i64 n)) {r:Int} (hr:g=true→m -n=r∧ -9223372036854775808≤r∧r≤9223372036854775807):EvG g c w0 L f (.binOp .sub t x y t2) ty (.int .i64 r):=fun e _ _ _ _ w _=>by
 obtain ⟨rfl,h1,h2⟩:=hr e
 simp [execOp,hx e,hy e,eqGuard,binOp,Op.intArith,IntWalk.i64_in _ ⟨h1,h2⟩]
theorem e_mul (hx:OpV g f x (.int .i64 m)) (hy:OpV g f y (.int .i64 n)) {r:Int} (hr:g=true→m*n=r∧ -9223372036854775808≤r∧r≤9223372036854775807):EvG g c w0 L f (.binOp .mul t x y t2) ty (.int .i64 r):=fun e _ _ _ _ w _=>by
 obtain ⟨rfl,h1,h2⟩:=hr e
 simp [execOp,hx e,hy e,eqGuard,binOp,Op.intArith,IntWalk.i64_in _ ⟨h1,h2⟩]
theorem e_quo (hx:OpV g f x (.int .i64 m)) (hy:OpV g f y (.int .i64 n)) (hr:g=true→0≤m∧m≤9223372036854775807∧0<n):EvG g c w0 L f (.binOp .quo t x y t2) ty (.int .i64 (m/n)):=fun e _ _ _ _ w _=>by
 obtain ⟨h1,h2,h3⟩:=hr e
 have hz: ¬n=0:=by omega
 have hq:m.tdiv n=m/n:=Int.tdiv_eq_ediv_of_nonneg h1
 have h4:0≤m/n:=Int.ediv_nonneg h1 (by omega)
 have h5:m/n≤m:=Int.ediv_le_self _ h1
 simp [execOp,hx e,hy e,eqGuard,binOp,Op.intDiv,hz,hq,IntWalk.i64_in _ (show -9223372036854775808≤m/n∧m/n≤9223372036854775807 by omega)]
theorem e_rem (hx:OpV g f x (.int .i64 m)) (hy:OpV g f y (.int .i64 n)) (hr:g=true→0≤m∧0<n):EvG g c w0 L f (.binOp .rem t x y t2) ty (.int .i64 (m%n)):=fun e _ _ _ _ w _=>by
 obtain ⟨h1,h3⟩:=hr e
 have hz: ¬n=0:=by omega
 simp [execOp,hx e,hy e,eqGuard,binOp,Op.intDiv,hz,Int.tmod_eq_emod_of_nonneg h1]
end
theorem e_eqb {a b:Bool} {t t2:TypeId} (ht:c.P.underlying t=some .bool) (hx:OpV g f x (.bool a)) (hy:OpV g f y (.bool b)):EvG g c w0 L f (.binOp .eql t x y t2) ty (.bool (a==b)):=fun e _ _ _ _ w _=>by
 simp [execOp,hx e,hy e,eqGuard,binOp,run_equal_bool (w:=w) t a b ht,Result.andThen]
theorem e_neb {a b:Bool} {t t2:TypeId} (ht:c.P.underlying t=some .bool) (hx:OpV g f x (.bool a)) (hy:OpV g f y (.bool b)):EvG g c w0 L f (.binOp .neq t x y t2) ty (.bool (!(a==b))):=fun e _ _ _ _ w _=>by
 simp [execOp,hx e,hy e,eqGuard,binOp,run_equal_bool (w:=w) t a b ht,Result.andThen]
theorem e_not {t:TypeId} {b:Bool} (hx:OpV g f x (.bool b)):EvG g c w0 L f (.unOp .not t x) ty (.bool (!b)):=fun e _ _ _ _ w _=>by simp [execOp,hx e,Op.unary]
theorem addr_add (b o k:Nat):(⟨b,o,none⟩:Addr).add k=⟨b,o+k,none⟩:=by
 unfold Addr.add;split
 ·rename_i h;subst h;rfl
 ·rfl
theorem e_fld {t:TypeId} {i b o sz:Nat} {fs:Array Field} {fl:Field} (ht:c.P.underlying t=some (.struct fs)) (hf:fs[i]?=some fl) (hs: ∀w,(sizeOf fl.type).run c.P w= .ok sz w) (hz:Nat.blt 0 sz=true) (hx:OpV g f x (.pointer (some ⟨b,o,none⟩))):
  EvG g c w0 L f (.fieldAddr t x i) ty (.pointer (some ⟨b,o+fl.offset,none⟩)):=fun e _ _ _ _ w _=>by
 have hne:sz≠0:=by have:=(Nat.blt_eq▸hz:0<sz);omega
 simp [execOp,hx e,Instr.fieldAt,run_underlying ht,hf,Instr.sureAddr,fieldPlace,hs,hne,addr_add,Result.andThen]
theorem e_ld {t:TypeId} {p:Addr} (ht: ∀w,(isAgg t).run c.P w= .ok false w) (hx:OpV g f x (.pointer (some p))) (hc:g=true→ ∀w,Mem w0 L w→w.cell? p=some v):EvG g c w0 L f (.load t x) ty v:=fun e _ _ _ _ w hw=>by
 simp [execOp,hx e,Instr.loadAt,Instr.sureAddr,loadVar,ht,Result.andThen,load,Sem.run,hc e w hw]
theorem run_loadCellsFrom {P:Program} {w:World} {b o:Nat}: ∀(n i:Nat) (acc:Array Value) (vs:List Value),vs.length=n→(∀j u,vs[j]?=some u→w.cell? ⟨b,o+(i+j),none⟩=some u)→
  (loadCellsFrom ⟨b,o,none⟩ i n acc).run P w= .ok (acc++vs.toArray) w
 |0,i,acc,vs,hl,_=>by
  have:vs=[]:=List.eq_nil_of_length_eq_zero hl
  subst this
  simp [loadCellsFrom]
 |n+1,i,acc,vs,hl,hc=>by
  cases vs with
  |nil=>simp at hl
  |cons u vs=>
   have h0:=hc 0 u rfl
   simp only [Nat.add_zero] at h0
   have ih:=run_loadCellsFrom (P:=P) (w:=w) (b:=b) (o:=o) n (i+1) (acc.push u) vs (by simpa using hl) (fun j x hx=>by
    have:=hc (j+1) x (by simpa using hx)
    rwa [show i+(j+1)=i+1+j by omega] at this)
   simp [loadCellsFrom,load,addr_add,Sem.run,h0,Result.andThen,ih]
theorem e_lds {t:TypeId} {b o n:Nat} {vs:List Value} (ht: ∀w,(isAgg t).run c.P w= .ok true w) (hs: ∀w,(sizeOf t).run c.P w= .ok n w) (hx:OpV g f x (.pointer (some ⟨b,o,none⟩)))
  (hc:g=true→ ∀w,Mem w0 L w→ ∀j u,vs[j]?=some u→w.cell? ⟨b,o+j,none⟩=some u) (hl:vs.length=n):EvG g c w0 L f (.load t x) ty (.agg vs.toArray):=fun e _ _ _ _ w hw=>by
 have:=run_loadCellsFrom (P:=c.P) (w:=w) (b:=b) (o:=o) n 0 #[] vs hl (fun j u hu=>by rw [Nat.zero_add];exact hc e w hw j u hu)
 simp [execOp,hx e,Instr.loadAt,Instr.sureAddr,loadVar,ht,hs,Result.andThen,loadCells,this]
theorem e_idx {t el:TypeId} {b o n cp sz:Nat} {m:Int} (j:Nat) (ht:c.P.underlying t=some (.slice el)) (hs: ∀w,(sizeOf el).run c.P w= .ok sz w) (hx:OpV g f x (.slice (some ⟨b,o,none⟩) n cp)) (hy:OpV g f y (.int .i64 m)) (hm:g=true→m=(j:Int)∧j<n):
  EvG g c w0 L f (.indexAddr t x y) ty (.pointer (some ⟨b,o+j*sz,none⟩)):=fun e _ _ _ _ w _=>by
 obtain ⟨rfl,hj⟩:=hm e
 have h1:(0:Int)≤(j:Int)∧(j:Int)<(n:Int):=by omega
 simp [execOp,hx e,hy e,Instr.indexAt,asIntOf,run_underlying ht,hs,Result.andThen,addr_add,hj]
theorem e_len {t el:TypeId} {A:Option Addr} {n cp:Nat} (ht:c.P.underlying t=some (.slice el)) (hx:OpV g f x (.slice A n cp)):EvG g c w0 L f (.call {callee:= .builtin .len,args:= #[x],argTypes:= #[t]}) ty (.int .i64 n):=fun e _ _ _ _ w _=>by
 simp [execOp,resolve,invoke,builtin,hx e,Builtin.len_,run_underlying ht,Result.andThen,goInt]
theorem e_min {t1 t2:TypeId} {m n:Int} (hx:OpV g f x (.int .i64 m)) (hy:OpV g f y (.int .i64 n)):EvG g c w0 L f (.call {callee:= .builtin .min,args:= #[x,y],argTypes:= #[t1,t2]}) ty (.int .i64 (if n<m then n else m)):=fun e _ _ _ _ w _=>by
 simp [execOp,resolve,invoke,builtin,hx e,hy e,Builtin.min_,Builtin.min2]
theorem e_max {t1 t2:TypeId} {m n:Int} (hx:OpV g f x (.int .i64 m)) (hy:OpV g f y (.int .i64 n)):EvG g c w0 L f (.call {callee:= .builtin .max,args:= #[x,y],argTypes:= #[t1,t2]}) ty (.int .i64 (if m<n then n else m)):=fun e _ _ _ _ w _=>by
 simp [execOp,resolve,invoke,builtin,hx e,hy e,Builtin.max_,Builtin.max2]
theorem e_ext {i:Nat} {vs:Array Value} (hx:OpV g f x (.tuple vs)) (hi:vs[i]?=some v):EvG g c w0 L f (.extract x i) ty v:=fun e _ _ _ _ w _=>by simp [execOp,hx e,Instr.extract,hi]
theorem map_ev (ao:Array Operand):ao.map (ev f)=(ao.toList.map (ev f)).toArray:=by rw [←List.map_toArray]
theorem e_fn {k:FuncId} {ao:Array Operand}:EvG g c w0 L f (.makeFunc (.func k) #[] ao) ty (.func (.func k) #[] (ao.toList.map (ev f)).toArray):=fun _ _ _ _ _ w _=>by simp [execOp,Instr.makeFunc,map_ev]
theorem bx (k:Nat) {b i:Nat} {t:TypeId} {cs:List Value} (hk:L[k]?=some (box b t cs)) (hi:cs[i]?=some v):g=true→ ∀w,Mem w0 L w→w.cell? ⟨b,i,none⟩=some v:=fun _ _ hw=>box_cell hw hk hi
theorem xc {p:Addr} (h:w0.cell? p=some v) (hb:p.block<w0.heap.size):g=true→ ∀w,Mem w0 L w→w.cell? p=some v:=fun _ _ hw=>(hw.1.cell hb).trans h
theorem bxs (k:Nat) {b:Nat} {t:TypeId} {cs:List Value} (hk:L[k]?=some (box b t cs)):g=true→ ∀w,Mem w0 L w→ ∀j u,cs[j]?=some u→w.cell? ⟨b,0+j,none⟩=some u:=fun _ _ hw j u hu=>by rw [Nat.zero_add];exact box_cell hw hk hu
theorem rc {b o j:Nat} {cs:List Value} (h:RowAt w0 b o cs) (hb:b<w0.heap.size) (hj:cs[j]?=some v):g=true→ ∀w,Mem w0 L w→w.cell? ⟨b,o+j,none⟩=some v:=xc (h j v hj) hb
theorem rc0 {b o:Nat} {cs:List Value} (h:RowAt w0 b o cs) (hb:b<w0.heap.size) (hj:cs[0]?=some v):g=true→ ∀w,Mem w0 L w→w.cell? ⟨b,o,none⟩=some v:=xc (h 0 v hj) hb
theorem rcs {b o:Nat} {cs:List Value} (h:RowAt w0 b o cs) (hb:b<w0.heap.size):g=true→ ∀w,Mem w0 L w→ ∀j u,cs[j]?=some u→w.cell? ⟨b,o+j,none⟩=some u:=fun _ _ hw j u hu=>(hw.1.cell (p:=⟨b,o+j,none⟩) hb).trans (h j u hu)
theorem q0 {x:Operand} (h:ev f x=v):OpV g f x v:=opv0 h
theorem q1 {x:Operand} (h:ev f x=gv g v):OpV g f x v:=opv1 h
theorem q2 {h':Bool} {x:Operand} (h:ev f x=gv g v):OpV (g&&h') f x v:=opv2 h
theorem ha1 {x1:Operand} {v1:Value} (h1:OpV g f x1 v1):g=true→(#[x1]:Array Operand).toList.map (ev f)=[v1]:=fun e=>by simp [h1 e]
theorem ha2 {x1 x2:Operand} {v1 v2:Value} (h1:OpV g f x1 v1) (h2:OpV g f x2 v2):g=true→(#[x1,x2]:Array Operand).toList.map (ev f)=[v1,v2]:=fun e=>by simp [h1 e,h2 e]
theorem ha3 {x1 x2 x3:Operand} {v1 v2 v3:Value} (h1:OpV g f x1 v1) (h2:OpV g f x2 v2) (h3:OpV g f x3 v3):g=true→(#[x1,x2,x3]:Array Operand).toList.map (ev f)=[v1,v2,v3]:=fun e=>by simp [h1 e,h2 e,h3 e]
theorem ha4 {x1 x2 x3 x4:Operand} {v1 v2 v3 v4:Value} (h1:OpV g f x1 v1) (h2:OpV g f x2 v2) (h3:OpV g f x3 v3) (h4:OpV g f x4 v4):g=true→(#[x1,x2,x3,x4]:Array Operand).toList.map (ev f)=[v1,v2,v3,v4]:=fun e=>by simp [h1 e,h2 e,h3 e,h4 e]
theorem ha0:g=true→(#[]:Array Operand).toList.map (ev f)=[]:=fun _=>rfl
theorem en {k:FuncId} {ao:Array Operand} {ts:Array TypeId} {al:List Value} (he: ∀args w,(callFunc k args).run c.P w= .ok (.enter k args) w) (ha:g=true→ao.toList.map (ev f)=al):
  EnterG g c w0 L f (.call {callee:= .value (.func k),args:=ao,argTypes:=ts}) ty k al.toArray:=fun e _ _ _ _ w _=>by
 have ha:=ha e
 have ha:ao.map (ev f)=al.toArray:=by rw [map_ev,ha]
 simp [execOp,resolve,ev_func,Deferred.ofValue,invoke,ha,he]
theorem enV {k:FuncId} {ao:Array Operand} {ts:Array TypeId} {al:List Value} {cap:List Value} {t:Nat} (he: ∀args w,(callFunc k args).run c.P w= .ok (.enter k args) w) (ht:OpV g f (.tmp t) (.func (.func k) #[] cap.toArray)) (ha:g=true→ao.toList.map (ev f)++cap=al):
  EnterG g c w0 L f (.call {callee:= .value (.tmp t),args:=ao,argTypes:=ts}) ty k al.toArray:=fun e _ _ _ _ w _=>by
 have ha:ao.map (ev f)++cap.toArray=al.toArray:=by rw [map_ev,←ha e];simp
 simp [execOp,resolve,ht e,Deferred.ofValue,invoke,ha,he]
end
section
variable {c:Cx} {PQ:PJ} {w0:World} {L:List Item} {f:Fr} {ops rest:List Oper} {d:Nat} {ty:TypeId} {pos:String} {af:Array Edge} {x y:Operand}
theorem X_box {t:TypeId} {v:Value} (hx:ev f x=v) (hd:Nat.blt d c.N=true) (next: ∀b,XL false c ops rest PQ w0 (box b t v.cells.toList::L) (upd f d (.pointer (some ⟨b,0,none⟩)))):
  XL false c ops (⟨some d, .box t x,ty,pos,af,none⟩::rest) PQ w0 L f:=
 HL_eff rfl hd fun w hw=>⟨.pointer (some ⟨w.heap.size,0,none⟩),w.alloc (.cells v.cells t),box w.heap.size t v.cells.toList::L,by simp [execOp,hx,Instr.box,newVar,newRow,Result.andThen],by simpa using hw.newBox t v.cells.toList,rfl,next _⟩
theorem X_alloc {t:TypeId} {v:Value} (hz: ∀w,(zeroValue t).run c.P w= .ok v w) (hd:Nat.blt d c.N=true) (next: ∀b,XL false c ops rest PQ w0 (box b t v.cells.toList::L) (upd f d (.pointer (some ⟨b,0,none⟩)))):
  XL false c ops (⟨some d, .alloc t,ty,pos,af,none⟩::rest) PQ w0 L f:=
 HL_eff rfl hd fun w hw=>⟨.pointer (some ⟨w.heap.size,0,none⟩),w.alloc (.cells v.cells t),box w.heap.size t v.cells.toList::L,by simp [execOp,hz,Instr.alloc,newVar,newRow,Result.andThen],by simpa using hw.newBox t v.cells.toList,rfl,next _⟩
def setAt:List Value→Nat→List Value→List Value
 |cs,_,[]=>cs
 |cs,i,v::r=>setAt (cs.set i v) (i+1) r
def oneCell:Value→Bool
 | .agg _=>false
 | .tuple _=>false
 |_=>true
theorem run_storeCells {P:Program} {w0:World} {b o k:Nat} {t:TypeId}: ∀(vs:List Value) (i:Nat) (cs:List Value) (w:World) (L:List Item),Mem w0 L w→L[k]?=some (box b t cs)→vs.all oneCell=true→o+i+vs.length≤cs.length→
  ∃w',(storeCells ⟨b,o,none⟩ vs i).run P w= .ok () w'∧Mem w0 (L.set k (box b t (setAt cs (o+i) vs))) w'
 |[],i,cs,w,L,hw,hk,_,_=>⟨w,by simp [storeCells],by
  have hi:L.set k (box b t cs)=L:=by
   obtain ⟨h1,h2⟩:=List.getElem?_eq_some_iff.1 hk
   rw [←h2];exact List.set_getElem_self h1
  show Mem w0 (L.set k (box b t cs)) w
  rw [hi];exact hw⟩
 |v::r,i,cs,w,L,hw,hk,h1,hl=>by
  simp only [List.all_cons,Bool.and_eq_true] at h1
  simp only [List.length_cons] at hl
  have hlt:o+i<cs.length:=by omega
  have hc:w.cell? ⟨b,o+i,none⟩=some cs[o+i]:=box_cell hw hk (List.getElem?_eq_getElem hlt)
  have hf:w.frozen? ⟨b,o+i,none⟩=false:=box_free hw hk _
  have hw1:=box_set hw hk (o+i) v
  have hk1:(L.set k (box b t (cs.set (o+i) v)))[k]?=some (box b t (cs.set (o+i) v)):=by
   obtain ⟨h1,_⟩:=List.getElem?_eq_some_iff.1 hk
   simp [h1]
  obtain ⟨w',hr,hm⟩:=run_storeCells (P:=P) (o:=o) r (i+1) (cs.set (o+i) v) (w.setCell ⟨b,o+i,none⟩ v) _ hw1 hk1 h1.2 (by simp;omega)
  refine ⟨w',?_,?_⟩
  ·have hst:(store ⟨b,o+i,none⟩ v).run P w= .ok () (w.setCell ⟨b,o+i,none⟩ v):=by
    have h2:=h1.1
    cases v<;>simp [oneCell] at h2<;>simp [store,Sem.run,hc,hf]
   simp [storeCells,addr_add,hst,Result.andThen,hr]
  ·rw [List.set_set] at hm
   exact hm
theorem X_store (k:Nat) {t tb:TypeId} {v:Value} {b o n:Nat} {cs:List Value} (hx:ev f x= .pointer (some ⟨b,o,none⟩)) (hy:ev f y=v) (hs: ∀w,(sizeOf t).run c.P w= .ok n w) (hn:v.cells.size=n) (h1:v.cells.toList.all oneCell=true)
  (hk:L[k]?=some (box b tb cs)) (hl:Nat.ble (o+v.cells.toList.length) cs.length=true) (next:XL false c ops rest PQ w0 (L.set k (box b tb (setAt cs o v.cells.toList))) f):
  XL false c ops (⟨none, .store t x y,ty,pos,af,none⟩::rest) PQ w0 L f:=
 HL_do rfl fun w hw=>by
  obtain ⟨w',hr,hm⟩:=run_storeCells (P:=c.P) (o:=o) v.cells.toList 0 cs w L hw hk h1 (Nat.le_of_ble_eq_true hl)
  exact ⟨w',_,by simp [execOp,hx,hy,Instr.storeAt,Instr.sureAddr,storeVar,hs,hn,hr,Result.andThen],hm,marks_set hk rfl,next⟩
end
end Go.Proofs.E
namespace Go.Proofs.E
open Go Go.RowKit
theorem RowAt.below {w w':World} {b o:Nat} {cs:List Value} (h:RowAt w b o cs) (hb:b<w.heap.size) (hbel:Bel w w'):RowAt w' b o cs:=fun j u hu=>(hbel.cell (p:=⟨b,o+j,none⟩) hb).trans (h j u hu)
theorem add_none {a:Addr} (h:a.spot=none) {i:Nat}:a.add i=⟨a.block,a.off+i,none⟩:=by
 cases a
 simp at h
 subst h
 simp only [Addr.add]
 split
 ·rename_i h;subst h;rfl
 ·rfl
def SlAt {α:Type} (w:World) (k:Nat) (enc:α→List Value) (A:Option Addr) (n:Nat) (xs:List α):Prop:=
 xs.length=n∧n≤9223372036854775807∧(0<n→ ∃b off,A=some ⟨b,off,none⟩∧b<w.heap.size∧ ∀i x,xs[i]?=some x→RowAt w b (off+i*k) (enc x))
theorem SlAt.below {α:Type} {w w':World} {k:Nat} {enc:α→List Value} {A:Option Addr} {n:Nat} {xs:List α} (h:SlAt w k enc A n xs) (hb:Bel w w'):SlAt w' k enc A n xs:=by
 refine ⟨h.1,h.2.1,fun hn=>?_⟩
 obtain ⟨b,off,hA,hlt,hc⟩:=h.2.2 hn
 exact ⟨b,off,hA,Nat.lt_of_lt_of_le hlt hb.size,fun i x hx=>(hc i x hx).below hlt hb⟩
theorem SlAt.mem {α:Type} {w0 w:World} {L:List Item} {k:Nat} {enc:α→List Value} {A:Option Addr} {n:Nat} {xs:List α} (h:SlAt w0 k enc A n xs) (hm:Mem w0 L w):SlAt w k enc A n xs:=h.below hm.1
theorem SlAt.at_ {α:Type} {w:World} {k:Nat} {enc:α→List Value} {A:Option Addr} {n:Nat} {xs:List α} {i:Nat} (h:SlAt w k enc A n xs) (hi:i<n):
  ∃b off x,A=some ⟨b,off,none⟩∧b<w.heap.size∧xs[i]?=some x∧RowAt w b (off+i*k) (enc x):=by
 obtain ⟨b,off,hA,hlt,hc⟩:=h.2.2 (by omega)
 have hl:i<xs.length:=by have:=h.1;omega
 exact ⟨b,off,xs[i],hA,hlt,List.getElem?_eq_getElem hl,hc i _ (List.getElem?_eq_getElem hl)⟩
theorem SlAt.row {α:Type} {w:World} {k:Nat} {enc:α→List Value} {b off n:Nat} {xs:List α} {i:Nat} (h:SlAt w k enc (some ⟨b,off,none⟩) n xs) (hi:i<n):
  ∃x,xs[i]?=some x∧RowAt w b (off+i*k) (enc x):=by
 obtain ⟨b',off',x,hA,_,hx,hr⟩:=h.at_ hi
 simp only [Option.some.injEq,Addr.mk.injEq,and_true] at hA
 obtain ⟨rfl,rfl⟩:=hA
 exact ⟨x,hx,hr⟩
def encInt (x:Int):List Value:=[.int .i64 x]
theorem ret_int {a b:Int} (h:a=b):Ending.returned (.int .i64 a)= .returned (.int .i64 b):=by rw [h]
theorem ret_bool {a b:Bool} (h:a=b):Ending.returned (.bool a)= .returned (.bool b):=by rw [h]
end Go.Proofs.E
namespace Go.Proofs.E
open Go Go.RowKit
theorem setAt_length: ∀(vs:List Value) (cs:List Value) (i:Nat),(setAt cs i vs).length=cs.length
 |[],_,_=>rfl
 |v::r,cs,i=>by simp [setAt,setAt_length r]
theorem zip_fold (off:Nat): ∀(vs:List Value) (i:Nat) (cs:Array Value),((vs.zipIdx i).foldl (fun cs (p:Value×Nat)=>cs.setIfInBounds (off+p.2) p.1) cs)=(setAt cs.toList (off+i) vs).toArray
 |[],_,cs=>by simp [setAt]
 |v::r,i,cs=>by
  simp only [List.zipIdx_cons,List.foldl_cons]
  rw [zip_fold off r (i+1) (cs.setIfInBounds (off+i) v)]
  simp [setAt,Nat.add_assoc]
def Parts (f:Fr):List (Nat×Operand)→List (Nat×Value)→Prop
 |[],[]=>True
 |p::ps,q::vs=>p.1=q.1∧ev f p.2=q.2∧Parts f ps vs
 |_,_=>False
theorem Parts.map {f:Fr}: ∀{ps:List (Nat×Operand)} {vs:List (Nat×Value)},Parts f ps vs→ps.map (fun p=>(p.1,ev f p.2))=vs
 |[],[],_=>rfl
 |(i,x)::ps,(j,v)::vs,⟨h1,h2,h3⟩=>by
  have:=Parts.map h3
  simp only at h1 h2
  simp [h1,h2,this]
theorem pt {f:Fr} {i:Nat} {x:Operand} {v:Value} {ps:List (Nat×Operand)} {vs:List (Nat×Value)} (h:ev f x=v) (hr:Parts f ps vs):Parts f ((i,x)::ps) ((i,v)::vs):=⟨rfl,h,hr⟩
theorem p0 {f:Fr}:Parts f [] []:=trivial
def bld (pl:List (Nat×Nat)):List Value→List (Nat×Value)→List Value
 |cs,[]=>cs
 |cs,(i,v)::r=>bld pl (setAt cs (pl.getD i (0,0)).1 v.cells.toList) r
def bldOk (pl:List (Nat×Nat)) (n:Nat):List (Nat×Value)→Bool
 |[]=>true
 |(i,v)::r=>(match pl[i]? with|some (off,size)=>Nat.beq v.cells.toList.length size&&Nat.ble (off+v.cells.toList.length) n|none=>false)&&bldOk pl n r
theorem fill_bld (pl:List (Nat×Nat)) (place:Nat→Option (Nat×Nat)) (hp: ∀i q,pl[i]?=some q→place i=some q): ∀(vs:List (Nat×Value)) (cs:Array Value),bldOk pl cs.size vs=true→Instr.fill place cs vs=some (bld pl cs.toList vs).toArray
 |[],cs,_=>by simp [Instr.fill,bld]
 |(i,v)::r,cs,h=>by
  simp only [bldOk,Bool.and_eq_true] at h
  obtain ⟨h1,h2⟩:=h
  cases hq:pl[i]? with
  |none=>rw [hq] at h1;cases h1
  |some q=>
   obtain ⟨off,size⟩:=q
   rw [hq] at h1
   simp only [Bool.and_eq_true] at h1
   have e1:v.cells.size=size:=by have:=Nat.eq_of_beq_eq_true h1.1;simpa using this
   have e2:off+v.cells.size≤cs.size:=by have:=Nat.le_of_ble_eq_true h1.2;simpa using this
   have hpi:place i=some (off,size):=hp i _ hq
   have hf:v.cells.zipIdx.foldl (fun cs (p:Value×Nat)=>cs.setIfInBounds (off+p.2) p.1) cs=(setAt cs.toList off v.cells.toList).toArray:=by
    have:=zip_fold off v.cells.toList 0 cs
    rw [Nat.add_zero] at this
    rw [←this,←Array.foldl_toList]
    simp
   have ih:=fill_bld pl place hp r (setAt cs.toList off v.cells.toList).toArray (by simpa [setAt_length] using h2)
   simp only [Instr.fill,hpi]
   rw [if_neg (by simp [e1];omega),hf,ih]
   simp [bld,List.getD_eq_getElem?_getD,hq]
section
variable {c:Cx} {w0:World} {L:List Item} {f:Fr} {ty:TypeId}
def FieldsLie (P:Program) (fs:Array Field) (pl:List (Nat×Nat)):Prop:= ∀w,((fs.mapM fun f=>Prod.mk f.offset<$>sizeOf f.type):Sem (Array (Nat×Nat))).run P w= .ok pl.toArray w
theorem e_build {t:TypeId} {fs:Array Field} {pl:List (Nat×Nat)} {parts:List (Nat×Operand)} {vs:List (Nat×Value)} {z:Value} (ht:c.P.underlying t=some (.struct fs)) (hf:FieldsLie c.P fs pl) (hz: ∀w,(zeroValue t).run c.P w= .ok z w)
  (hp:Parts f parts vs) (hok:bldOk pl z.cells.toList.length vs=true):EvG true c w0 L f (.build t parts.toArray) ty (.agg (bld pl z.cells.toList vs).toArray):=fun _ _ _ _ _ w _=>by
 have h2:=fill_bld pl (fun i=>pl[i]?) (fun _ _ h=>h) vs z.cells (by simpa using hok)
 have h3:=hf w
 simp [execOp,Instr.build,hz,run_underlying ht,h3,Result.andThen,hp.map,h2]
end
section
variable {c:Cx} {PQ:PJ} {w0:World} {L:List Item} {f:Fr} {ops rest:List Oper} {d:Nat} {ty:TypeId} {pos:String} {af:Array Edge}
def rowPl (size:Nat) (len:Nat):List (Nat×Nat):=(List.range len).map fun i=>(i*size,size)
theorem rowPl_at {size len i:Nat} {q:Nat×Nat} (h:(rowPl size len)[i]?=some q):some (i*size,size)=some q:=by
 unfold rowPl at h
 rw [List.getElem?_map] at h
 cases hr:(List.range len)[i]? with
 |none=>rw [hr] at h;cases h
 |some y=>
  rw [hr] at h
  have:y=i:=by have:=List.getElem?_eq_some_iff.1 hr;obtain ⟨_,h5⟩:=this;simpa using h5.symm
  subst this
  exact h
theorem e_buildA {t el:TypeId} {len size:Nat} {parts:List (Nat×Operand)} {vs:List (Nat×Value)} {z:Value} (ht:c.P.underlying t=some (.array len el)) (hs: ∀w,(sizeOf el).run c.P w= .ok size w) (hz: ∀w,(zeroValue t).run c.P w= .ok z w)
  (hp:Parts f parts vs) (hok:bldOk (rowPl size len) z.cells.toList.length vs=true):EvG true c w0 L f (.build t parts.toArray) ty (.agg (bld (rowPl size len) z.cells.toList vs).toArray):=fun _ _ _ _ _ w _=>by
 have h2:=fill_bld (rowPl size len) (fun i=>some (i*size,size)) (fun i q h=>rowPl_at h) vs z.cells (by simpa using hok)
 simp [execOp,Instr.build,hz,run_underlying ht,hs,Result.andThen,hp.map,h2]
theorem X_slit {t el:TypeId} {len size:Nat} {parts:List (Nat×Operand)} {vs:List (Nat×Value)} {z:Value} (zs:List Value) (ht:c.P.underlying t=some (.slice el)) (hs: ∀w,(sizeOf el).run c.P w= .ok size w) (hz: ∀w,(zeroValue el).run c.P w= .ok z w)
  (hlen:(Nat.ble (len*size) 16777216&&!Nat.beq (len*size) 0)=true) (hzr:(Array.range (len*size)).map (z.cells[· %z.cells.size]!)=zs.toArray) (hp:Parts f parts vs) (hok:bldOk (rowPl size len) zs.length vs=true) (hd:Nat.blt d c.N=true)
  (next: ∀b,XL false c ops rest PQ w0 (box b el (bld (rowPl size len) zs vs)::L) (upd f d (.slice (some ⟨b,0,none⟩) len len))):XL false c ops (⟨some d, .buildSlice t len parts.toArray,ty,pos,af,none⟩::rest) PQ w0 L f:=
 HL_eff rfl hd fun w hw=>⟨.slice (some ⟨w.heap.size,0,none⟩) len len,w.alloc (.cells (bld (rowPl size len) zs vs).toArray el),box w.heap.size el (bld (rowPl size len) zs vs)::L,by
  rw [Bool.and_eq_true] at hlen
  have h2: ¬len*size>2^24:=by have:=Nat.le_of_ble_eq_true hlen.1;omega
  have h0: ¬len*size=0:=by
   intro h
   rw [h] at hlen
   cases hlen.2
  have h3:=fill_bld (rowPl size len) (fun i=>some (i*size,size)) (fun i q h=>by
   unfold rowPl at h
   rw [List.getElem?_map] at h
   cases hr:(List.range len)[i]? with
   |none=>rw [hr] at h;cases h
   |some y=>
    rw [hr] at h
    have:y=i:=by have:=List.getElem?_eq_some_iff.1 hr;obtain ⟨_,h5⟩:=this;simpa using h5.symm
    subst this
    exact h) vs zs.toArray (by simpa using hok)
  simp [execOp,Instr.buildSlice,run_underlying ht,hs,hz,h2,h0,hp.map,hzr,h3,newRow,Result.andThen],hw.newBox el _,rfl,next _⟩
end
theorem resc1 {c:Cx} {fn:Func} {w0:World} {L:List Item} {f:Fr} (k:Nat) {a n b:Nat} {t tb:TypeId} {cs:List Value} (hr:fn.results= #[.cell a t]) (hv:f a= .pointer (some ⟨b,0,none⟩)) (ht: ∀w,(isAgg t).run c.P w= .ok true w) (hs: ∀w,(sizeOf t).run c.P w= .ok n w)
  (hk:L[k]?=some (box b tb cs)) (hl:cs.length=n):ResIs c.P c.N fn w0 L f (.agg cs.toArray):=fun w ds ac hw ha=>by
 have h1:=ha.get a
 rw [hv,Array.getD_eq_getD_getElem?] at h1
 have:=run_loadCellsFrom (P:=c.P) (w:=w) (b:=b) (o:=0) n 0 #[] cs hl (fun j u hu=>by simpa using box_cell hw hk hu)
 simp [results,hr,h1,asAddr,loadVar,ht,hs,loadCells,this,Result.andThen]
theorem resc2 {c:Cx} {fn:Func} {w0:World} {L:List Item} {f:Fr} (k:Nat) {a n b u:Nat} {t tb:TypeId} {cs:List Value} {x:Value} (hr:fn.results= #[.cell a t, .tmp u]) (hv:f a= .pointer (some ⟨b,0,none⟩)) (hx:f u=x) (ht: ∀w,(isAgg t).run c.P w= .ok true w) (hs: ∀w,(sizeOf t).run c.P w= .ok n w)
  (hk:L[k]?=some (box b tb cs)) (hl:cs.length=n):ResIs c.P c.N fn w0 L f (.tuple #[.agg cs.toArray,x]):=fun w ds ac hw ha=>by
 have h1:=ha.get a
 rw [hv,Array.getD_eq_getD_getElem?] at h1
 have h2:=ha.get u
 rw [hx,Array.getD_eq_getD_getElem?] at h2
 have:=run_loadCellsFrom (P:=c.P) (w:=w) (b:=b) (o:=0) n 0 #[] cs hl (fun j u hu=>by simpa using box_cell hw hk hu)
 simp [results,hr,h1,h2,asAddr,loadVar,ht,hs,loadCells,this,Result.andThen]
theorem flat_get {α:Type} {k:Nat} {enc:α→List Value} (he: ∀x,(enc x).length=k): ∀(xs:List α) (i:Nat) (x:α),xs[i]?=some x→ ∀j u,(enc x)[j]?=some u→(xs.flatMap enc)[i*k+j]?=some u
 |[],i,x,h,_,_,_=>by simp at h
 |y::ys,0,x,h,j,u,hu=>by
  simp at h;subst h
  have hj:j<(enc y).length:=(List.getElem?_eq_some_iff.1 hu).1
  simp only [List.flatMap_cons,Nat.zero_mul,Nat.zero_add]
  rw [List.getElem?_append_left hj];exact hu
 |y::ys,i+1,x,h,j,u,hu=>by
  have:=flat_get he ys i x (by simpa using h) j u hu
  simp only [List.flatMap_cons]
  rw [List.getElem?_append_right (by rw [he];simp [Nat.succ_mul];omega),he,show (i+1)*k+j -k=i*k+j by simp [Nat.succ_mul];omega]
  exact this
theorem slAt_box {α:Type} {w0 w:World} {L:List Item} {k b j:Nat} {t:TypeId} {enc:α→List Value} {xs:List α} (hw:Mem w0 L w) (hk:L[j]?=some (box b t (xs.flatMap enc))) (he: ∀x,(enc x).length=k) (hl:xs.length≤9223372036854775807):SlAt w k enc (some ⟨b,0,none⟩) xs.length xs:=
 ⟨rfl,hl,fun _=>⟨b,0,rfl,(hw.itemLt hk rfl).2,fun i x hx q u hu=>by
  rw [Nat.zero_add]
  exact box_cell hw hk (flat_get he xs i x hx q u hu)⟩⟩
end Go.Proofs.E
