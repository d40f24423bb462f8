import Derived.Test.YtakhechhnnjbcaaGreatBC01
import Derived.Carry
import Derived.Laws.AppendOwn
import Derived.Laws.OwnMore
import Derived.Laws.StructEq
set_option linter.unusedVariables false
set_option linter.unusedSimpArgs false
namespace Go.Proofs.E
open Go Go.RowKit
def EX (e:MapEntry) (p:Int×Value):Prop:=e.key= .int .i64 p.1∧e.val=p.2
inductive lL:List MapEntry→List (Int×Value)→Prop
 |nil:lL [] []
 |cons {e p es ps}:EX e p→lL es ps→lL (e::es) (p::ps)
structure lV (es:List MapEntry) (clock:Nat):Prop where
 Ka:es.Pairwise (fun a b=>a.born<b.born)
 lt: ∀e∈es,e.born<clock
def mR (w:World) (b:Nat) (ps:List (Int×Value)):Prop:= ∃es clock,w.heap[b]?=some (.map es clock)∧lL es.toList ps∧lV es.toList clock
theorem lV.push {es:List MapEntry} {c:Nat} (h:lV es c) {e:MapEntry} (he:e.born=c):lV (es++[e]) (c+1):=
 ⟨jA.2 ⟨h.Ka,by simp,fun a ha b hb=>by simp at hb;subst hb;rw [he];exact h.lt a ha⟩,fun a ha=>by
  rcases aQ.1 ha with ha|ha
  ·have:=h.lt a ha;omega
  simp at ha;subst ha;omega⟩
theorem lV.modify {es:List MapEntry} {c j:Nat} {g:MapEntry→MapEntry} (h:lV es c) (hg: ∀e,(g e).born=e.born):lV (es.modify j g) c:=by
 have hm:(es.modify j g).map (·.born)=es.map (·.born):=by
  apply cU;intro i;simp only [bf,HN];cases es[i]? with
  |none=>rfl
  |some e=>by_cases hi:j=i<;>simp [hi,hg]
 constructor
 ·have h1:(es.map (·.born)).Pairwise (· < ·):=gA.2 h.Ka;rw [←hm] at h1;exact gA.1 h1
 intro e he;have:e.born∈(es.modify j g).map (·.born):=bJ.2 ⟨e,he,rfl⟩;rw [hm] at this;obtain ⟨e',he',e1⟩:=bJ.1 this;rw [←e1];exact h.lt e' he'
theorem lV.sub {es es':List MapEntry} {c:Nat} (h:lV es c) (hs:es'.Sublist es):lV es' c:=⟨h.Ka.sublist hs,fun e he=>h.lt e (hs.mem he)⟩
def ju (ps:List (Int×Value)) (k:Int):Option Value:=(ps.find? (fun p=>p.1==k)).map (·.2)
def ml (ps:List (Int×Value)) (k:Int) (v:Value):List (Int×Value):=
 match ps with
 |[]=>[(k,v)]
 |p::r=>if p.1==k then (k,v)::r else p::ml r k v
theorem mR.kept {w w':World} {b:Nat} {ps:List (Int×Value)} (h:mR w b ps) (he:w'.heap[b]?=w.heap[b]?):mR w' b ps:=by
 obtain ⟨es,c,h1,h2⟩:=h;exact ⟨es,c,he.trans h1,h2⟩
theorem mR.lt {w:World} {b:Nat} {ps:List (Int×Value)} (h:mR w b ps):b<w.heap.size:=by
 obtain ⟨es,c,h1,h2⟩:=h;exact (cm.1 h1).1
theorem mR.setCell {w:World} {b:Nat} {ps:List (Int×Value)} (h:mR w b ps) (p:Addr) (v:Value):mR (w.setCell p v) b ps:=by
 obtain ⟨es,c,h1,h2⟩:=h;refine ⟨es,c,?_,h2⟩;by_cases e:p.block=b
 ·simp [World.setCell,kd,e,h1]
 simp [World.setCell,kd,e,h1]
theorem mR.made (w:World):mR (w.alloc (.map #[] 0)) w.heap.size []:=by
 exact ⟨#[],0,(MapKept.heap_alloc w _).1, .nil,⟨by simp,by simp⟩⟩
section
variable {P:Program} {t kt et:TypeId}
theorem gF (hk:P.underlying kt=some (.int .i64)) (e:Bool) (k:Int) (w:World):(Instr.checkKey e 10000 kt (.int .i64 k)).run P w= .ok () w:=by
 rw [show (10000:Nat)=9999+1 from rfl,Instr.checkKey];simp [run_underlying hk]
theorem wI (k:Int): ∀(es:List MapEntry) (ps:List (Int×Value)) (i:Nat),lL es ps→
  (ju ps k=none∧Instr.findNow (.int .i64) (.int .i64 k) es i=some none)∨(∃j v,ju ps k=some v∧Instr.findNow (.int .i64) (.int .i64 k) es i=some (some (i+j,v))∧j<es.length):=by
 intro es
 induction es with
 |nil=>intro ps i h;cases h;exact .inl ⟨rfl,rfl⟩
 |cons e es ih=>
  intro ps i h;cases h with
  |cons hp hr=>
   rename_i p ps;obtain ⟨hk,hv⟩:=hp;by_cases hkk:p.1=k
   ·refine .inr ⟨0,p.2,by simp [ju,hkk],?_,by simp⟩;simp [Instr.findNow,Instr.sameNow,hk,hkk,hv]
   have hne:(k==p.1)=false:=dt.2 fun e=>hkk e.symm;rcases ih ps (i+1) hr with ⟨h1,h2⟩|⟨j,v,h1,h2,h3⟩
   ·refine .inl ⟨by simpa [ju,hkk] using h1,?_⟩;simp [Instr.findNow,Instr.sameNow,hk,hne,h2]
   refine .inr ⟨j+1,v,by simpa [ju,hkk] using h1,?_,by simp;omega⟩;simp [Instr.findNow,Instr.sameNow,hk,hne,h2];omega
theorem tX {w:World} {b:Nat} {ps:List (Int×Value)} {z:Value} (ht:P.underlying t=some (.map kt et)) (hk:P.underlying kt=some (.int .i64)) (hz: ∀w,(zeroValue et).run P w= .ok z w)
  (h:mR w b ps) (k:Int):(Instr.lookup t (.map (some b)) (.int .i64 k) false).run P w= .ok ((ju ps k).getD z) w:=by
 obtain ⟨es,c,h1,h2⟩:=h;rcases wI k es.toList ps 0 h2.1 with ⟨ha,hb⟩|⟨j,v,ha,hb,_⟩
 ·simp [Instr.lookup,run_underlying ht,MapKept.run_getObj_map h1,gF hk,run_underlying hk,Instr.findKey,hb,ha,hz,Result.andThen]
 simp [Instr.lookup,run_underlying ht,MapKept.run_getObj_map h1,gF hk,run_underlying hk,Instr.findKey,hb,ha,Result.andThen]
theorem wS {w:World} {b:Nat} {ps:List (Int×Value)} {z:Value} (ht:P.underlying t=some (.map kt et)) (hk:P.underlying kt=some (.int .i64)) (hz: ∀w,(zeroValue et).run P w= .ok z w)
  (h:mR w b ps) (k:Int):(Instr.lookup t (.map (some b)) (.int .i64 k) true).run P w= .ok (.tuple #[(ju ps k).getD z, .bool (ju ps k).isSome]) w:=by
 obtain ⟨es,c,h1,h2⟩:=h;rcases wI k es.toList ps 0 h2.1 with ⟨ha,hb⟩|⟨j,v,ha,hb,_⟩
 ·simp [Instr.lookup,run_underlying ht,MapKept.run_getObj_map h1,gF hk,run_underlying hk,Instr.findKey,hb,ha,hz,Result.andThen]
 simp [Instr.lookup,run_underlying ht,MapKept.run_getObj_map h1,gF hk,run_underlying hk,Instr.findKey,hb,ha,Result.andThen]
theorem EW (k:Int) (v:Value): ∀(es:List MapEntry) (ps:List (Int×Value)) (i:Nat),lL es ps→
  (Instr.findNow (.int .i64) (.int .i64 k) es i=some none∧ml ps k v=ps++[(k,v)])∨
  (∃j x e,Instr.findNow (.int .i64) (.int .i64 k) es i=some (some (i+j,x))∧es[j]?=some e∧e.key= .int .i64 k∧lL (es.modify j fun e=>{e with key:= .int .i64 k,val:=v}) (ml ps k v)):=by
 intro es
 induction es with
 |nil=>intro ps i h;cases h;exact .inl ⟨rfl,rfl⟩
 |cons e es ih=>
  intro ps i h;cases h with
  |cons hp hr=>
   rename_i p ps;obtain ⟨hk,hv⟩:=hp;by_cases hkk:p.1=k
   ·refine .inr ⟨0,e.val,e,?_,rfl,by rw [hk,hkk],?_⟩
    ·simp [Instr.findNow,Instr.sameNow,hk,hkk]
    simp only [ml,hkk,SI,qo];exact .cons ⟨rfl,rfl⟩ hr
   have hne:(k==p.1)=false:=dt.2 fun e=>hkk e.symm;rcases ih ps (i+1) hr with ⟨h1,h2⟩|⟨j,x,e',h1,h2,h3,h4⟩
   ·refine .inl ⟨?_,by simp [ml,hkk,h2]⟩;simp [Instr.findNow,Instr.sameNow,hk,hne,h1]
   refine .inr ⟨j+1,x,e',?_,by simpa using h2,h3,?_⟩
   ·simp [Instr.findNow,Instr.sameNow,hk,hne,h1];omega
   simp only [ml,dt.2 hkk,jy,lM,List.modify_succ_cons];exact .cons ⟨hk,hv⟩ h4
theorem Ig {es:List MapEntry} {ps:List (Int×Value)} (h:lL es ps) {e:MapEntry} {p:Int×Value} (he:EX e p):lL (es++[e]) (ps++[p]):=by
 induction h with
 |nil=>exact .cons he .nil
 |cons h1 _ ih=>exact .cons h1 ih
theorem p6 {w:World} {b:Nat} {ps:List (Int×Value)} (ht:P.underlying t=some (.map kt et)) (hk:P.underlying kt=some (.int .i64))
  (h:mR w b ps) (k:Int) (v:Value): ∃w',(Instr.mapUpdate t (.map (some b)) (.int .i64 k) v).run P w= .ok () w'∧mR w' b (ml ps k v)∧w.grownBy w' (some b)∧w'.heap.size=w.heap.size∧w.drawn≤w'.drawn:=by
 have hlt:=h.lt;obtain ⟨es,c,h1,h2,h3⟩:=h;have hg: ∀o:Obj,w.grownBy {w with heap:=w.heap.setIfInBounds b o} (some b):=fun o=>⟨rfl,rfl,rfl,by simp,fun i _ hi=>by
  have hne:b≠i:=fun e=>hi (by rw [e]);exact eR hne⟩
 rcases EW k v es.toList ps 0 h2 with ⟨ha,hs⟩|⟨j,x,e,ha,he,hek,hm⟩
 ·refine ⟨{w with heap:=w.heap.setIfInBounds b (.map (es.push {key:= .int .i64 k,val:=v,born:=c}) (c+1))},?_,⟨_,_,cC hlt,?_,by simpa using h3.push rfl⟩,hg _,by simp,bq _⟩
  ·simp [Instr.mapUpdate,run_underlying ht,MapKept.run_getObj_map h1,gF hk,run_underlying hk,Instr.findKey,ha,Result.andThen,MapKept.run_setObj_map _ h1]
  rw [hs];simpa using Ig h2 (e:={key:= .int .i64 k,val:=v,born:=c}) (p:=(k,v)) ⟨rfl,rfl⟩
 rw [dj] at ha;have hej:es[j]?=some e:=by simpa using he
 refine ⟨{w with heap:=w.heap.setIfInBounds b (.map (es.modify j fun e=>{e with key:= .int .i64 k,val:=v}) c)},?_,⟨_,_,cC hlt,?_,by simpa using h3.modify (j:=j) (g:=fun e=>{e with key:= .int .i64 k,val:=v}) (fun _=>rfl)⟩,hg _,by simp,bq _⟩
 ·simp [Instr.mapUpdate,run_underlying ht,MapKept.run_getObj_map h1,gF hk,run_underlying hk,Instr.findKey,ha,Result.andThen,MapKept.run_setObj_map _ h1,hej,hek,Instr.keyThatStays,Instr.sameBits]
 simpa using hm
end
def kS (b:Nat) (ps:List (Int×Value)):Item where
 fp:=fun x=>x=b
 A:=fun w=>mR w b ps
 st:=fun _ _ h hA=>hA.kept (h b rfl)
section
variable {c:Cx} {PQ:PJ} {w0:World} {L:List Item} {f:Fr} {ops rest:List Oper} {d:Nat} {ty:TypeId} {pos:String} {af:Array Edge} {g:Bool} {x y z:Operand} {t kt et:TypeId}
theorem qK (hd:Nat.blt d c.N=true) (next: ∀b,XL false c ops rest PQ w0 (kS b []::L) (kX f d (.map (some b)))):
  XL false c ops (⟨some d, .makeMap t none,ty,pos,af,none⟩::rest) PQ w0 L f:=
 Fx rfl hd fun w hw=>⟨.map (some w.heap.size),w.alloc (.map #[] 0),kS w.heap.size []::L,by simp [execOp,run_makeMap,Result.andThen],hw.new _ (kS w.heap.size []) (fun _ h=>h) (mR.made w),rfl,next _⟩
theorem Fi (k:Nat) {b:Nat} {ps:List (Int×Value)} {key:Int} {v u:Value} (ht:c.P.underlying t=some (.map kt et)) (hkt:c.P.underlying kt=some (.int .i64)) (hz: ∀w,(zeroValue et).run c.P w= .ok v w) (hx:gw g f x (.map (some b))) (hy:gw g f y (.int .i64 key))
  (hk:L[k]?=some (kS b ps)) (hu:g=true→(ju ps key).getD v=u):iO g c w0 L f (.lookup t x y false) ty u:=fun e _ _ _ _ w hw=>by
 have hA:mR w b ps:=hw.item hk;simp [execOp,hx e,hy e,tX ht hkt hz hA key,Result.andThen,hu e]
theorem tk (k:Nat) {b:Nat} {ps:List (Int×Value)} {key:Int} {v u:Value} {bb:Bool} (ht:c.P.underlying t=some (.map kt et)) (hkt:c.P.underlying kt=some (.int .i64)) (hz: ∀w,(zeroValue et).run c.P w= .ok v w) (hx:gw g f x (.map (some b))) (hy:gw g f y (.int .i64 key))
  (hk:L[k]?=some (kS b ps)) (hu:g=true→(ju ps key).getD v=u∧(ju ps key).isSome=bb):iO g c w0 L f (.lookup t x y true) ty (.tuple #[u, .bool bb]):=fun e _ _ _ _ w hw=>by
 have hA:mR w b ps:=hw.item hk;simp [execOp,hx e,hy e,wS ht hkt hz hA key,Result.andThen,hu e]
theorem tv (k:Nat) {b:Nat} {ps:List (Int×Value)} {key:Int} {v:Value} (ht:c.P.underlying t=some (.map kt et)) (hkt:c.P.underlying kt=some (.int .i64)) (hx:ev f x= .map (some b)) (hy:ev f y= .int .i64 key) (hz:ev f z=v)
  (hk:L[k]?=some (kS b ps)) (next:XL false c ops rest PQ w0 (L.set k (kS b (ml ps key v))) f):
  XL false c ops (⟨none, .mapUpdate t x y z,ty,pos,af,none⟩::rest) PQ w0 L f:=
 Sy rfl fun w hw=>by
  have hA:mR w b ps:=hw.item hk;obtain ⟨w',hrun,h1,h2,h3,h4⟩:=p6 (P:=c.P) ht hkt hA key v;refine ⟨w',_,by simp [execOp,hx,hy,hz,hrun,Result.andThen],hw.set (it':=kS b (ml ps key v)) hk (fun _ h=>h) h1 ⟨h2.os,h2.tape,h2.output,h3,h4⟩ (fun b' hb'=>?_),ie hk rfl,next⟩;by_cases hlt:b'<w.heap.size
  ·exact h2.block b' hlt (fun e=>hb' (by injection e))
  rw [cD (by omega),cD (by omega)]
end
end Go.Proofs.E
namespace Go.Proofs.E
open Go Go.RowKit
def s5 (f:Fr) (dst:Option Nat) (v:Value):Fr:=match dst with|some d=>kX f d v|none=>f
def VV (c:Cx) (w0:World) (L:List Item) (f:Fr) (dst:Option Nat) (w:World) (K:List Item→Fr→Prop):Result Next→Prop
 | .ok (.value v) w'=> ∃L',Mem w0 L' w'∧marks L'=marks L∧K L' (s5 f dst v)
 | .ok .skip w'=> ∃L',Mem w0 L' w'∧marks L'=marks L∧K L' (s5 f dst undef)
 | .ok (.enter k args) w'=>w'=w∧Calls c.P k args w fun e w''=> ∃v L',e= .returned v∧Mem w0 L' w''∧marks L'=marks L∧K L' (s5 f dst v)
 |_=>False
def Om (c:Cx):Option Nat→Bool
 |some d=>Nat.blt d c.N
 |none=>true
structure uz (c:Cx) (w0:World) (L:List Item) (f:Fr) (o:Oper) (K:List Item→Fr→Prop):Prop where
 guard:o.guard=none
 nd:dI o.op=false
 dst:Om c o.dst=true
 run: ∀w,Mem w0 L w→VV c w0 L f o.dst w K ((execOp (ev f) o).run c.P w)
theorem mr.s5 {N:Nat} {D:List Deferred} {a:Act} {f:Fr} (h:mr N D a f) {c:Cx} (hc:c.N=N) {dst:Option Nat} (hd:Om c dst=true) (v:Value):mr N D (a.put dst v) (s5 f dst v):=by
 subst hc;cases dst with
 |none=>exact h.Gl v
 |some d=>exact h.put hd v
section
variable {c:Cx} {PQ:PJ} {w0:World} {L:List Item} {f:Fr} {ops rest:List Oper} {o:Oper}
theorem bZ (h:uz c w0 L f o fun L' f'=>XL false c ops rest PQ w0 L' f'):XL false c ops (o::rest) PQ w0 L f:=by
 intro a w ha hw;show if _ then _ else _
 rw [av (by simp [Region.wanted,h.guard])];refine ⟨fun _ _=>trivial,?_⟩;rw [Oper.semAt_eq _ _ _ (kR h.nd),ha.eval];have h2:=h.run w hw;generalize (execOp (ev f) o).run c.P w=r at h2;cases r with
 |halt x w'=>exact False.elim h2
 |ok x w'=>
  cases x with
  |value v=>obtain ⟨L',hm,hk,hn⟩:=h2;exact hn _ _ (hk▸ha.s5 rfl h.dst v) hm
  |skip=>obtain ⟨L',hm,hk,hn⟩:=h2;exact hn _ _ (hk▸ha.s5 rfl h.dst undef) hm
  |enter k args=>
   obtain ⟨e,hc⟩:=h2;subst e;refine ⟨fun h=>by simp [FW] at h,(nm (hc.mono ?_))⟩;rintro e w'' ⟨v,L',rfl,hm,hk,hn⟩;exact hn _ _ (hk▸ha.s5 rfl h.dst v) hm
  |_=>exact False.elim h2
end
section
variable {c:Cx} {w0:World} {L:List Item} {f:Fr} {K:List Item→Fr→Prop} {d:Nat} {ty:TypeId} {pos:String} {af:Array Edge} {x y z:Operand}
theorem mo {t:TypeId} {v:Value} (hx:ev f x=v) (hd:Nat.blt d c.N=true) (next: ∀b,K (box b t v.cells.toList::L) (kX f d (.pointer (some ⟨b,0,none⟩)))):uz c w0 L f ⟨some d, .box t x,ty,pos,af,none⟩ K:=
 ⟨rfl,rfl,hd,fun w hw=>by
  have:(execOp (ev f) ⟨some d, .box t x,ty,pos,af,none⟩).run c.P w= .ok (.value (.pointer (some ⟨w.heap.size,0,none⟩))) (w.alloc (.cells v.cells t)):=by simp [execOp,hx,Instr.box,newVar,newRow,Result.andThen]
  rw [this];exact ⟨box w.heap.size t v.cells.toList::L,by simpa using hw.wY t v.cells.toList,rfl,next _⟩⟩
theorem lX {t:TypeId} {v:Value} (hz: ∀w,(zeroValue t).run c.P w= .ok v w) (hd:Nat.blt d c.N=true) (next: ∀b,K (box b t v.cells.toList::L) (kX f d (.pointer (some ⟨b,0,none⟩)))):uz c w0 L f ⟨some d, .alloc t,ty,pos,af,none⟩ K:=
 ⟨rfl,rfl,hd,fun w hw=>by
  have:(execOp (ev f) ⟨some d, .alloc t,ty,pos,af,none⟩).run c.P w= .ok (.value (.pointer (some ⟨w.heap.size,0,none⟩))) (w.alloc (.cells v.cells t)):=by simp [execOp,hz,Instr.alloc,newVar,newRow,Result.andThen]
  rw [this];exact ⟨box w.heap.size t v.cells.toList::L,by simpa using hw.wY t v.cells.toList,rfl,next _⟩⟩
theorem qz (k:Nat) {t tb:TypeId} {v:Value} {b o n:Nat} {cs:List Value} (hx:ev f x= .pointer (some ⟨b,o,none⟩)) (hy:ev f y=v) (hs: ∀w,(sizeOf t).run c.P w= .ok n w) (hn:v.cells.size=n) (h1:v.cells.toList.all kI=true)
  (hk:L[k]?=some (box b tb cs)) (hl:Nat.ble (o+v.cells.toList.length) cs.length=true) (next:K (L.set k (box b tb (setAt cs o v.cells.toList))) f):uz c w0 L f ⟨none, .store t x y,ty,pos,af,none⟩ K:=
 ⟨rfl,rfl,rfl,fun w hw=>by
  obtain ⟨w',hr,hm⟩:=mg (P:=c.P) (o:=o) v.cells.toList 0 cs w L hw hk h1 (ep hl);have:(execOp (ev f) ⟨none, .store t x y,ty,pos,af,none⟩).run c.P w= .ok .skip w':=by simp [execOp,hx,hy,Instr.storeAt,Instr.sureAddr,storeVar,hs,hn,hr,Result.andThen]
  rw [this];exact ⟨_,hm,ie hk rfl,next⟩⟩
theorem di {α:Type} {op:Op} {k:FuncId} {args:Array Value} {val:α→Value} {Lx:α→List Item} (hen:mG true c w0 L f op ty k args) (hc: ∀w,Mem w0 L w→Calls c.P k args w fun e w'=> ∃x:α,e= .returned (val x)∧Mem w (Lx x) w') (hd:Nat.blt d c.N=true) (hmk: ∀x,marks (Lx x)=[]) (next: ∀x,K (Lx x++L) (kX f d (val x))) (hnd:dI op=false:=by rfl):uz c w0 L f ⟨some d,op,ty,pos,af,none⟩ K:=
 ⟨rfl,hnd,hd,fun w hw=>by
  rw [hen rfl _ _ _ _ w hw];refine ⟨rfl,(hc w hw).mono ?_⟩;rintro e w' ⟨x,rfl,hm⟩;exact ⟨_,_,rfl,hw.J2 hm,by rw [iU,hmk x,ka],next x⟩⟩
end
section
variable {c:Cx} {w0:World} {ops:List Oper}
def Sub (w0:World) (L' L:List Item):Prop:= ∀w,Mem w0 L' w→Mem w0 L w
theorem Mem.sublist {L L':List Item} {w:World} (h:Mem w0 L w) (hs:L'.Sublist L):Mem w0 L' w:=by
 obtain ⟨h1,h2,h3,h4⟩:=h;exact ⟨h1,fun x hx=>h2 x (hs.subset hx),fun x hx=>h3 x (hs.subset hx),h4.sublist hs⟩
theorem bK (k:Nat) {L:List Item}:Sub w0 L (L.drop k):=fun _ h=>Mem.sublist h (List.drop_sublist _ _)
def V8 (c:Cx) (w0:World) (K:List Item→Act→Prop) (dst:Option Nat) (a:Act) (w:World):Result Next→Prop
 | .ok (.value u) w'=> ∃L',Mem w0 L' w'∧K L' (a.put dst u)
 | .ok .skip w'=> ∃L',Mem w0 L' w'∧K L' (a.put dst undef)
 | .ok (.enter k args) w'=>w'=w∧Calls c.P k args w fun e w''=> ∃u L',e= .returned u∧Mem w0 L' w''∧K L' (a.put dst u)
 |_=>False
theorem V8.mono {K K':List Item→Act→Prop} {dst dst':Option Nat} {a a':Act} {w:World} {r:Result Next} (h: ∀L u,K L (a.put dst u)→K' L (a'.put dst' u)) (hh:V8 c w0 K dst a w r):V8 c w0 K' dst' a' w r:=by
 cases r with
 |halt x w'=>exact False.elim hh
 |ok x w'=>
  cases x with
  |value u=>obtain ⟨L',hm,hn⟩:=hh;exact ⟨L',hm,h _ _ hn⟩
  |skip=>obtain ⟨L',hm,hn⟩:=hh;exact ⟨L',hm,h _ _ hn⟩
  |enter k args=>
   obtain ⟨e,hc⟩:=hh;exact ⟨e,hc.mono fun e w'' ⟨u,L',h1,h2,h3⟩=>⟨u,L',h1,h2,h _ _ h3⟩⟩
  |_=>exact False.elim hh
def Dq (c:Cx) (ops:List Oper) (w0:World) (j:Nat) (K:List Item→Act→Prop) (L:List Item) (a:Act):Prop:=
 match ops.toArray[j]? with
 |none=>K L a
 |some o=> ∀w,Mem w0 L w→if Region.wanted o (yielded ops.toArray a.tmps) then V8 c w0 K o.dst a w ((execOp a.eval o).run c.P w) else K L (a.put o.dst undef)
def tR (c:Cx) (ops:List Oper) (w0:World) (Lb:List Item) (QA:List Item→Act→Prop):Nat→Array Bool→List Item→Act→Prop
 |0,listed,L,a=>Sub w0 L Lb∧Region.ready .any ops.toArray listed=[]∧QA L a
 |fuel+1,listed,L,a=>Sub w0 L Lb∧(Region.ready .any ops.toArray listed=[]→QA L a)∧ ∀i∈Region.ready .any ops.toArray listed,Dq c ops w0 i (tR c ops w0 Lb QA fuel (listed.setIfInBounds i true)) L a
theorem tR.sub {Lb:List Item} {QA:List Item→Act→Prop}: ∀{fuel:Nat} {listed:Array Bool} {L:List Item} {a:Act},tR c ops w0 Lb QA fuel listed L a→Sub w0 L Lb
 |0,_,_,_,h=>h.1
 |_+1,_,_,_,h=>h.1
theorem Dq.mono {j:Nat} {K K':List Item→Act→Prop} {L:List Item} {a:Act} (h: ∀L a,K L a→K' L a) (hh:Dq c ops w0 j K L a):Dq c ops w0 j K' L a:=by
 unfold Dq at*;cases ho:ops.toArray[j]? with
 |none=>rw [ho] at hh;exact h _ _ hh
 |some o=>
  rw [ho] at hh;intro w hw;have h2:=hh w hw;by_cases hwt:Region.wanted o (yielded ops.toArray a.tmps)=true
  ·rw [av hwt] at h2⊢;exact h2.mono fun L u=>h L _
  rw [ah hwt] at h2⊢;exact h _ _ h2
theorem Dq.wpOpIn {j:Nat} {K:List Item→Act→Prop} {K':Act→World→Prop} {Q':Exit→Act→World→Prop} {L:List Item} {a:Act} {w:World} (hnd: ∀(j:Nat) o,ops.toArray[j]?=some o→ ∀x,o.op≠ .defer x) (hw:Mem w0 L w) (h: ∀L a w,Mem w0 L w→K L a→K' a w) (hh:Dq c ops w0 j K L a):
  wpOpIn (FW c.ro) 0 c.P ops.toArray Q' j K' a w:=by
 unfold Dq at hh;unfold Go.wpOpIn;cases ho:ops.toArray[j]? with
 |none=>rw [ho] at hh;exact h _ _ _ hw hh
 |some o=>
  rw [ho] at hh;have h2:=hh w hw
  dsimp only at h2⊢
  by_cases hwt:Region.wanted o (yielded ops.toArray a.tmps)=true
  ·rw [av hwt] at h2⊢;refine ⟨fun _ _=>trivial,?_⟩;rw [Oper.semAt_eq _ _ _ (hnd j o ho)];generalize (execOp a.eval o).run c.P w=r at h2;cases r with
   |halt x w'=>exact False.elim h2
   |ok x w'=>
    cases x with
    |value v=>obtain ⟨L',hm,hn⟩:=h2;exact h _ _ _ hm hn
    |skip=>obtain ⟨L',hm,hn⟩:=h2;exact h _ _ _ hm hn
    |enter k args=>
     obtain ⟨e,hc⟩:=h2;subst e;refine ⟨fun h=>by simp [FW] at h,(nm (hc.mono ?_))⟩;rintro e w'' ⟨v,L',rfl,hm,hn⟩;exact h _ _ _ hm hn
    |_=>exact False.elim h2
  rw [ah hwt] at h2⊢;exact ⟨fun _ _=>trivial,h _ _ _ hw h2⟩
theorem tR.sound {Lb:List Item} {QA:List Item→Act→Prop} {Q':Exit→Act→World→Prop} (hnd: ∀(j:Nat) o,ops.toArray[j]?=some o→ ∀x,o.op≠ .defer x) (hQ: ∀L a w,Mem w0 L w→QA L a→Q' .normal a w): ∀(fuel:Nat) (listed:Array Bool) (L:List Item) (a:Act) (w:World),Mem w0 L w→
  tR c ops w0 Lb QA fuel listed L a→wpAnyIn (FW c.ro) 0 c.P .any ops.toArray Q' fuel listed a w
 |0,_,_,_,_,hw,h=>⟨h.2.1,hQ _ _ _ hw h.2.2⟩
 |fuel+1,_,_,_,_,hw,h=>⟨fun h0=>hQ _ _ _ hw (h.2.1 h0),fun i hi=>(h.2.2 i hi).wpOpIn hnd hw fun L a w hw h=>tR.sound hnd hQ fuel _ L a w hw h⟩
def V7 (c:Cx) (v:Value) (w:World):Result Next→Prop
 | .ok (.value u) w'=>w'=w∧u=v
 | .ok .skip w'=>w'=w∧v=undef
 | .ok (.enter k args) w'=>w'=w∧Calls c.P k args w fun e w''=>e= .returned v∧gz w w''
 |_=>False
def YB (c:Cx) (ops:List Oper) (w0:World) (Lb:List Item) (o:Oper) (v:Value) (a:Act):Prop:=
 (Region.wanted o (yielded ops.toArray a.tmps)=true∧ ∀w,Mem w0 Lb w→V7 c v w ((execOp a.eval o).run c.P w))∨(Region.wanted o (yielded ops.toArray a.tmps)=false∧v=undef)
theorem YB.V3 {i:Nat} {o:Oper} {v:Value} {a:Act} {L Lb:List Item} (hi:ops.toArray[i]?=some o) (hs:Sub w0 L Lb) (hy:YB c ops w0 Lb o v a) {K:List Item→Act→Prop} (h:K L (a.put o.dst v)):Dq c ops w0 i K L a:=by
 unfold Dq;rw [hi];intro w hw;rcases hy with ⟨hwt,hv⟩|⟨hwt,rfl⟩
 ·rw [av hwt];have h2:=hv w (hs w hw);generalize (execOp a.eval o).run c.P w=r at h2;cases r with
  |halt x w'=>exact False.elim h2
  |ok x w'=>
   cases x with
   |value u=>obtain ⟨e1,e2⟩:=h2;rw [e1,e2];exact ⟨L,hw,h⟩
   |skip=>obtain ⟨e1,e2⟩:=h2;rw [e1];exact ⟨L,hw,by rw [←e2];exact h⟩
   |enter k args=>
    obtain ⟨e1,hc⟩:=h2;exact ⟨e1,hc.mono fun e w'' ⟨h1,h2⟩=>⟨v,L,h1,hw.call h2,h⟩⟩
   |_=>exact False.elim h2
 rw [ah (by rw [hwt];decide)];exact h
theorem YB.of_same {o:Oper} {v:Value} {a a':Act} {Lb:List Item} (hy:YB c ops w0 Lb o v a) (he:execOp a'.eval o=execOp a.eval o) (hw:Region.wanted o (yielded ops.toArray a'.tmps)=Region.wanted o (yielded ops.toArray a.tmps)):YB c ops w0 Lb o v a':=by
 unfold YB at*;rw [he,hw];exact hy
theorem Dq.put {j:Nat} {oi oj:Oper} {v:Value} {L Lb:List Item} (hj:ops.toArray[j]?=some oj) (hap:oi.apart ops.toArray oj=true) (hsi: ∀cs b,oi.op≠ .select cs b) (hsj: ∀cs b,oj.op≠ .select cs b) {K:List Item→Act→Prop} {a:Act}
  (hy:YB c ops w0 Lb oi v a) (h:Dq c ops w0 j K L (a.put oi.dst v)):Dq c ops w0 j (fun L' a'=>YB c ops w0 Lb oi v a'∧K L' (a'.put oi.dst v)) L a:=by
 obtain ⟨h1,h2,h3⟩:=Oper.apart_spec hap;have fC: ∀u,YB c ops w0 Lb oi v (a.put oj.dst u):=fun u=>hy.of_same (execOp_put oi hsi a oj.dst u h3) (wanted_put oi a oj.dst u h3);unfold Dq at*;rw [hj] at h⊢;intro w hw;have h4:=h w hw;rw [wanted_put oj a oi.dst v h1,execOp_put oj hsj a oi.dst v h1] at h4;by_cases hwt:Region.wanted oj (yielded ops.toArray a.tmps)=true
 ·rw [av hwt] at h4⊢;exact h4.mono fun L' u hn=>⟨fC u,by rw [←Act.put_comm a v u h2];exact hn⟩
 rw [ah hwt] at h4⊢;exact ⟨fC _,by rw [←Act.put_comm a v undef h2];exact h4⟩
theorem tR.first {Lb:List Item} {QA:List Item→Act→Prop} {i:Nat} {oi:Oper} {v:Value} (hi:ops.toArray[i]?=some oi) (hsel: ∀(j:Nat) (o:Oper) cs b,ops.toArray[j]?=some o→o.op≠ .select cs b):
  ∀(fuel:Nat) (listed:Array Bool) (L:List Item) (a:Act),
   (∀j oj,ops.toArray[j]?=some oj→j≠i→listed.getD j true=false→(∀e∈oj.after,Region.binds .any e=true→e.on≠i)→oi.apart ops.toArray oj=true)→
   i∈Region.ready .any ops.toArray listed→YB c ops w0 Lb oi v a→
   tR c ops w0 Lb QA fuel (listed.setIfInBounds i true) L (a.put oi.dst v)→tR c ops w0 Lb QA (fuel+1) listed L a:=by
 intro fuel
 induction fuel with
 |zero=>
  intro listed L a _ hr hy H;refine ⟨H.1,fun h=>(by rw [h] at hr;cases hr),fun j hj=>?_⟩;by_cases hji:j=i
  ·subst hji;exact hy.V3 hi H.1 H
  have:=ready_mono hj hji;rw [H.2.1] at this;cases this
 |succ fuel ih=>
  intro listed L a hfree hr hy H;refine ⟨H.1,fun h=>(by rw [h] at hr;cases hr),fun j hj=>?_⟩;by_cases hji:j=i
  ·subst hji;exact hy.V3 hi H.1 H
  have h1:=H.2.2 j (ready_mono hj hji);obtain ⟨hjun,oj,hoj,hall⟩:=mem_ready.1 hj;have hnot: ∀e∈oj.after,Region.binds .any e=true→e.on≠i:=fun e he hb heq=>by
   have h1:=hall e he hb;have h0:=(mem_ready.1 hr).1;rw [heq] at h1;rcases l' i listed.size with h'|h'
   ·simp [h'] at h0 h1;rw [h0] at h1;cases h1
   simp [cD h'] at h1
  have h2:=Dq.put hoj (hfree j oj hoj hji hjun hnot) (fun cs b=>hsel i oi cs b hi) (fun cs b=>hsel j oj cs b hoj) hy h1;have hfree': ∀k ok,ops.toArray[k]?=some ok→k≠i→(listed.setIfInBounds j true).getD k true=false→
    (∀e∈ok.after,Region.binds .any e=true→e.on≠i)→oi.apart ops.toArray ok=true:=fun k ok hk hki hun hno=>by
   refine hfree k ok hk hki ?_ hno;by_cases hjk:j=k
   ·subst hjk;exact hjun
   rw [getD_set_ne true hjk] at hun;exact hun
  refine h2.mono fun L' a' h3=>ih (listed.setIfInBounds j true) L' a' hfree' (ready_mono hr (Ne.symm hji)) h3.1 ?_;rw [WV _ _ hji];exact h3.2
end
def arr (n:Nat) (l:List Nat):Array Bool:=l.foldr (fun i r=>r.setIfInBounds i true) (Array.replicate n false)
def QA (c:Cx) (PQ:PJ) (w0:World) (L:List Item) (a:Act):Prop:= ∃L' f',Sub w0 L L'∧marks L'=marks L∧mr c.N (marks L') a f'∧PQ .normal w0 L' f'
def XA (c:Cx) (ops:List Oper) (Lb:List Item) (fuel:Nat) (listed:List Nat) (PQ:PJ) (w0:World) (L:List Item) (f:Fr):Prop:=
 ∀a,mr c.N (marks L) a f→tR c ops w0 Lb (QA c PQ w0) fuel (arr ops.length listed) L a
def LX (c:Cx) (ops:List Oper) (Lb:List Item) (fuel:Nat) (listed:List Nat) (i:Nat) (PQ:PJ) (w0:World) (L:List Item) (f:Fr):Prop:=
 ∀a,mr c.N (marks L) a f→Dq c ops w0 i (tR c ops w0 Lb (QA c PQ w0) fuel (arr ops.length (i::listed))) L a
def okF (ops:List Oper) (listed:List Nat) (i:Nat):Bool:=Region.noSelect ops.toArray&&(Region.ready .any ops.toArray (arr ops.length listed)).contains i&&Region.free .any ops.toArray (arr ops.length listed) i
section
variable {c:Cx} {PQ:PJ} {w0:World} {L Lb:List Item} {f:Fr} {ops:List Oper} {listed:List Nat} {fuel i j k:Nat}
theorem Xc (Lb:List Item) {id:Nat} (hm:c.P.follows .mixedOrders=true) (hB:(ops.all (fun o=>!dI o.op))=true) (h:XA c ops Lb ops.length [] PQ w0 L f):H c (.region id ops.toArray true) PQ w0 L f:=by
 intro a w ha hw;have hnd: ∀(j:Nat) (o:Oper),ops.toArray[j]?=some o→ ∀x,o.op≠ .defer x:=fun j o hj=>kR (by
  have hmem:o∈ops:=an (by simpa using hj);simpa using eF.1 hB o hmem)
 refine wpIn_region_any hm ?_;have:=tR.sound (Q':=lift c PQ) hnd (fun _ a' w' hw' ⟨L',f',h0,_,h1,h2⟩=>⟨w0,L',f',h1,h0 w' hw',h2⟩) ops.length _ L a _ hw.drew (h a ha);simpa [arr] using this
theorem RA {id:Nat} (hm:c.P.follows .mixedOrders=true) (hB:(ops.all (fun o=>!dI o.op))=true) (h:XA c ops L ops.length [] PQ w0 L f):H c (.region id ops.toArray true) PQ w0 L f:=Xc L hm hB h
theorem RAd (k:Nat) {id:Nat} (hm:c.P.follows .mixedOrders=true) (hB:(ops.all (fun o=>!dI o.op))=true) (h:XA c ops (L.drop k) ops.length [] PQ w0 L f):H c (.region id ops.toArray true) PQ w0 L f:=Xc (L.drop k) hm hB h
theorem aZ (hr:(Region.ready .any ops.toArray (arr ops.length listed)).isEmpty=true) (hs:Sub w0 L Lb) (h:PQ .normal w0 L f):XA c ops Lb 0 listed PQ w0 L f:=fun _ ha=>⟨hs,SO.1 hr,L,f,fun _ h=>h,rfl,ha,h⟩
theorem Wu (hr:(Region.ready .any ops.toArray (arr ops.length listed)==[i])=true) (hs:Sub w0 L Lb) (h:LX c ops Lb fuel listed i PQ w0 L f):XA c ops Lb (fuel+1) listed PQ w0 L f:=fun a ha=>by
 have hr:=eq_of_beq hr;refine ⟨hs,fun h0=>(by rw [hr] at h0;cases h0),fun x hx=>?_⟩;rw [hr] at hx;obtain rfl:=bu.1 hx;exact h a ha
theorem kY (hr:(Region.ready .any ops.toArray (arr ops.length listed)==[i,j])=true) (hs:Sub w0 L Lb) (h1:LX c ops Lb fuel listed i PQ w0 L f) (h2:LX c ops Lb fuel listed j PQ w0 L f):XA c ops Lb (fuel+1) listed PQ w0 L f:=fun a ha=>by
 have hr:=eq_of_beq hr;refine ⟨hs,fun h0=>(by rw [hr] at h0;cases h0),fun x hx=>?_⟩;rw [hr] at hx;simp only [bU,SL,or_false] at hx;rcases hx with rfl|rfl
 ·exact h1 a ha
 exact h2 a ha
theorem P7 (hr:(Region.ready .any ops.toArray (arr ops.length listed)==[i,j,k])=true) (hs:Sub w0 L Lb) (h1:LX c ops Lb fuel listed i PQ w0 L f) (h2:LX c ops Lb fuel listed j PQ w0 L f) (h3:LX c ops Lb fuel listed k PQ w0 L f):XA c ops Lb (fuel+1) listed PQ w0 L f:=fun a ha=>by
 have hr:=eq_of_beq hr;refine ⟨hs,fun h0=>(by rw [hr] at h0;cases h0),fun x hx=>?_⟩;rw [hr] at hx;simp only [bU,SL,or_false] at hx;rcases hx with rfl|rfl|rfl
 ·exact h1 a ha
 ·exact h2 a ha
 exact h3 a ha
theorem aL {o:Oper} (hi:ops[i]?=some o) (h:uz c w0 L f o fun L' f'=>XA c ops Lb fuel (i::listed) PQ w0 L' f'):LX c ops Lb fuel listed i PQ w0 L f:=fun a ha=>by
 unfold Dq;rw [show ops.toArray[i]?=some o by simpa using hi];intro w hw;rw [av (by simp [Region.wanted,h.guard]),ha.eval];have h2:=h.run w hw;generalize (execOp (ev f) o).run c.P w=r at h2;cases r with
 |halt x w'=>exact False.elim h2
 |ok x w'=>
  cases x with
  |value v=>obtain ⟨L',hm,hk,hn⟩:=h2;exact ⟨L',hm,hn _ (hk▸ha.s5 rfl h.dst v)⟩
  |skip=>obtain ⟨L',hm,hk,hn⟩:=h2;exact ⟨L',hm,hn _ (hk▸ha.s5 rfl h.dst undef)⟩
  |enter k args=>
   obtain ⟨e,hc⟩:=h2;refine ⟨e,hc.mono ?_⟩;rintro e w'' ⟨v,L',rfl,hm,hk,hn⟩;exact ⟨v,L',rfl,hm,hn _ (hk▸ha.s5 rfl h.dst v)⟩
  |_=>exact False.elim h2
theorem aF {o:Oper} {d:Nat} {v:Value} {g:Bool} (hi:ops[i]?=some o) (hdst:o.dst=some d) (hok:okF ops listed i=true) (hg:Gd f o.guard (ops.map (·.dst)) g) (hd:Nat.blt d c.N=true)
  (hy:g=true→ ∀w,Mem w0 Lb w→V7 c v w ((execOp (ev f) o).run c.P w)) (next:XA c ops Lb fuel (i::listed) PQ w0 L (kX f d (gv g v))):XA c ops Lb (fuel+1) listed PQ w0 L f:=fun a ha=>by
 simp only [okF,bQ] at hok;have hi':ops.toArray[i]?=some o:=by simpa using hi
 have hwt:Region.wanted o (yielded ops.toArray a.tmps)=g:=by
  have:=o7 (o:=o) (ops:=ops) ha;rw [this];exact hg
 refine tR.first (v:=gv g v) hi' (Region.noSelect_spec hok.1.1) fuel _ L a (Region.free_spec hi' hok.2) (by simpa using hok.1.2) ?_ ?_
 ·cases g with
  |true=>exact .inl ⟨hwt,fun w hw=>by rw [pE,ha.eval];exact hy rfl w hw⟩
  |false=>exact .inr ⟨hwt,GR⟩
 rw [hdst];exact next _ (ha.put hd _)
theorem aR (Lb':List Item) (hsub:Sub w0 Lb' Lb) (h:XA c ops Lb' fuel listed PQ w0 L f):XA c ops Lb fuel listed PQ w0 L f:=by
 intro a ha;have: ∀(fuel:Nat) (listed:Array Bool) (L:List Item) (a:Act) (QA:List Item→Act→Prop),tR c ops w0 Lb' QA fuel listed L a→tR c ops w0 Lb QA fuel listed L a:=by
  intro fuel
  induction fuel with
  |zero=>exact fun _ _ _ _ h=>⟨fun w hw=>hsub w (h.1 w hw),h.2⟩
  |succ fuel ih=>exact fun _ _ _ _ h=>⟨fun w hw=>hsub w (h.1 w hw),h.2.1,fun i hi=>(h.2.2 i hi).mono fun L a h=>ih _ _ _ _ h⟩
 exact this _ _ _ _ _ (h a ha)
theorem xw (hsub:Sub w0 L Lb) (h:XA c ops L fuel listed PQ w0 L f):XA c ops Lb fuel listed PQ w0 L f:=aR L hsub h
end
section
variable {c:Cx} {PQ:PJ} {w0:World} {L Lb:List Item} {f:Fr} {ops:List Oper} {listed:List Nat} {fuel:Nat} {d:Nat} {op:Op} {ty:TypeId} {pos:String} {af:Array Edge} {v:Value}
theorem PH {g:Bool} {gu:Option (Nat×Bool)} (hev:iO g c w0 Lb f op ty v):g=true→ ∀w,Mem w0 Lb w→V7 c v w ((execOp (ev f) ⟨some d,op,ty,pos,af,gu⟩).run c.P w):=fun hg w hw=>by rw [hev hg _ _ _ _ w hw];exact ⟨rfl,rfl⟩
theorem Mu {g:Bool} {gu:Option (Nat×Bool)} {k:FuncId} {args:Array Value} (hen:mG g c w0 Lb f op ty k args) (hc:g=true→ ∀w,Mem w0 Lb w→Calls c.P k args w fun e w'=>e= .returned v∧gz w w'):g=true→ ∀w,Mem w0 Lb w→V7 c v w ((execOp (ev f) ⟨some d,op,ty,pos,af,gu⟩).run c.P w):=fun hg w hw=>by rw [hen hg _ _ _ _ w hw];exact ⟨rfl,hc hg w hw⟩
theorem aV (i:Nat) (hok:okF ops listed i=true) (hi:ops[i]?=some ⟨some d,op,ty,pos,af,none⟩) (hev:iO true c w0 Lb f op ty v) (hd:Nat.blt d c.N=true) (next:XA c ops Lb fuel (i::listed) PQ w0 L (kX f d v)):XA c ops Lb (fuel+1) listed PQ w0 L f:=aF hi rfl hok Bf hd (PH hev) (by rw [pE];exact next)
theorem aC (i:Nat) {k:FuncId} {args:Array Value} (hok:okF ops listed i=true) (hi:ops[i]?=some ⟨some d,op,ty,pos,af,none⟩) (hen:mG true c w0 Lb f op ty k args) (hc:true=true→ ∀w,Mem w0 Lb w→Calls c.P k args w fun e w'=>e= .returned v∧gz w w') (hd:Nat.blt d c.N=true) (next:XA c ops Lb fuel (i::listed) PQ w0 L (kX f d v)):XA c ops Lb (fuel+1) listed PQ w0 L f:=aF hi rfl hok Bf hd (Mu hen hc) (by rw [pE];exact next)
end
def yz:Nat→Item→List Item→List Item
 |0,x,L=>x::L
 |k+1,x,y::L=>y::yz k x L
 |_+1,x,[]=>[x]
theorem Ct: ∀(k:Nat) (x:Item) (L:List Item),(yz k x L).Perm (x::L)
 |0,_,_=>uB _
 |_+1,_,[]=>uB _
 |k+1,x,y::L=>((Ct k x L).cons y).trans (List.Perm.swap x y L)
theorem Mem.perm {w0 w:World} {L L':List Item} (h:Mem w0 L w) (hp:L'.Perm L):Mem w0 L' w:=by
 obtain ⟨h1,h2,h3,h4⟩:=h;refine ⟨h1,fun x hx=>h2 x (hp.subset hx),fun x hx=>h3 x (hp.subset hx),?_⟩;exact (hp.pairwise_iff (fun {x y} h b hb hg=>h b hg hb)).2 h4
theorem DZ: ∀(k:Nat) (x:Item) (L:List Item),marks [x]=[]→marks (yz k x L)=marks L
 |0,x,L,h=>by rw [show yz 0 x L=[x]++L from rfl,iU,h,ka]
 |_+1,_,[],h=>h
 |k+1,x,y::L,h=>by rw [show yz (k+1) x (y::L)=[y]++yz k x L from rfl,show y::L=[y]++L from rfl,iU,iU,DZ k x L h]
theorem tR.SX {c:Cx} {ops:List Oper} {w0:World} {Lb:List Item} {Q:List Item→Act→Prop} (hq: ∀L1 L2 a,Sub w0 L1 L2→marks L2=marks L1→Q L2 a→Q L1 a): ∀(fuel:Nat) (listed:Array Bool) (L1 L2:List Item) (a:Act),Sub w0 L1 L2→marks L2=marks L1→tR c ops w0 Lb Q fuel listed L2 a→tR c ops w0 Lb Q fuel listed L1 a:=by
 intro fuel
 induction fuel with
 |zero=>exact fun _ _ _ _ hs hk h=>⟨fun w hw=>h.1 w (hs w hw),h.2.1,hq _ _ _ hs hk h.2.2⟩
 |succ fuel ih=>
  intro listed L1 L2 a hs hk h;refine ⟨fun w hw=>h.1 w (hs w hw),fun h0=>hq _ _ _ hs hk (h.2.1 h0),fun i hi=>?_⟩;have h3:=h.2.2 i hi;unfold Dq at h3⊢;cases ho:ops.toArray[i]? with
  |none=>rw [ho] at h3;exact ih _ _ _ _ hs hk h3
  |some o=>
   rw [ho] at h3;intro w hw;have h4:=h3 w (hs w hw);by_cases hwt:Region.wanted o (yielded ops.toArray a.tmps)=true
   ·rw [av hwt] at h4⊢;exact h4
   rw [ah hwt] at h4⊢;exact ih _ _ _ _ hs hk h4
theorem QA.SX {c:Cx} {PQ:PJ} {w0:World} (L1 L2:List Item) (a:Act) (hs:Sub w0 L1 L2) (hk:marks L2=marks L1) (h:QA c PQ w0 L2 a):QA c PQ w0 L1 a:=by
 obtain ⟨L',f',h1,h2,h3,h4⟩:=h;exact ⟨L',f',fun w hw=>h1 w (hs w hw),h2.trans hk,h3,h4⟩
theorem aI (k:Nat) {c:Cx} {PQ:PJ} {w0:World} {L Lb:List Item} {x:Item} {f:Fr} {ops:List Oper} {listed:List Nat} {fuel:Nat} (h:XA c ops Lb fuel listed PQ w0 (yz k x L) f) (hx:marks [x]=[]:=by rfl):XA c ops Lb fuel listed PQ w0 (x::L) f:=by
 intro a ha;have hk:marks (yz k x L)=marks (x::L):=by rw [DZ k x L hx,show x::L=[x]++L from rfl,iU,hx,ka]
 exact tR.SX QA.SX fuel _ (x::L) (yz k x L) a (fun w hw=>hw.perm (Ct k x L)) hk (h a (by rw [hk];exact ha))
structure VW {σ:Type} (S:List Nat) (f0:Fr) (vals:σ→List (Nat×Value)) (Li:σ→List Item) (I:σ→Prop) (w0 w1:World) (L:List Item) (f:Fr):Prop where
 out: ∃s,oy S f f0∧Has f (vals s)∧(∀w,Mem w1 L w→Mem w0 (Li s) w)∧marks (Li s)=marks L∧I s
def VK {σ:Type} (S:List Nat) (f0:Fr) (vals:σ→List (Nat×Value)) (Li:σ→List Item) (I:σ→Prop) (w0:World) (PQ:PJ):PJ:=Bv (VW S f0 vals Li I w0) PQ
theorem jK {c:Cx} {PQ:PJ} {w0:World} {L:List Item} {f:Fr} {k:Code} {σ:Type} (S:List Nat) (vals:σ→List (Nat×Value)) (Li:σ→List Item) (I:σ→Prop) (h:H c k (VK S f vals Li I w0 PQ) w0 L f)
  (next: ∀s g,I s→PQ .normal w0 (Li s) (EF (over f S g) (vals s))):H c k PQ w0 L f:=by
 intro a w ha hw;refine Code.wpIn_mono (fun e a w h=>?_) (h a w ha hw);obtain ⟨w1,L1,f1,h1,h2,h3⟩:=h;cases e with
 |normal=>
  obtain ⟨s,h4,h5,h6,h7,h8⟩:=h3.out;refine ⟨w0,Li s,EF (over f S f1) (vals s),?_,h6 w h2,next s f1 h8⟩;rw [←yE h4 h5,h7];exact h1
 |_=>exact ⟨w1,L1,f1,h1,h2,h3⟩
theorem aO {σ:Type} {S:List Nat} {f f0:Fr} {vals:σ→List (Nat×Value)} {Li:σ→List Item} {I:σ→Prop} {w0 w1:World} {L:List Item} {PQ:PJ} (s:σ) (hag:oy S f f0) (hv:Has f (vals s)) (hm: ∀w,Mem w1 L w→Mem w0 (Li s) w) (hk:marks (Li s)=marks L) (hI:I s):VK S f0 vals Li I w0 PQ .normal w1 L f:=⟨⟨s,hag,hv,hm,hk,hI⟩⟩
end Go.Proofs.E
namespace Go.Proofs.E
open Go Go.RowKit
section
variable {c:Cx} {PQ:PJ} {dr:Bool} {w0:World} {L:List Item} {f:Fr} {ops rest:List Oper} {d:Nat} {ty:TypeId} {pos:String} {af:Array Edge} {v:Value}
theorem xv {op:Op} (hev:iO true c w0 L f op ty v) (next:XL dr c ops rest PQ w0 L (kX f d v)) (hnd:dI op=false:=by rfl) (hd:Nat.blt d c.N=true:=by rfl):XL dr c ops (⟨some d,op,ty,pos,af,none⟩::rest) PQ w0 L f:=xV hev hnd hd next
theorem xt {op:Op} {j e:Nat} {b:Bool} (hev:iO b c w0 L f op ty v) (hj:(ops.map (·.dst))[j]?=some (some e)) (hx:f e= .bool b) (next:XL dr c ops rest PQ w0 L (kX f d (gv b v))) (hnd:dI op=false:=by rfl) (hd:Nat.blt d c.N=true:=by rfl):XL dr c ops (⟨some d,op,ty,pos,af,some (j,true)⟩::rest) PQ w0 L f:=rF hev hj hx hnd hd next
end
section
variable {c:Cx} {w0:World} {L:List Item} {f:Fr} {ty:TypeId} {g:Bool} {x:Operand}
end
theorem eE {S:List Nat} {f g:Fr} (h:oy S f g:=by repeat (first|exact jw|exact ku|refine j7 rfl ?_|refine jO rfl ?_|refine jJ rfl ?_)):oy S f g:=h
end Go.Proofs.E
namespace Go.Proofs.E
open Go Go.RowKit
theorem Mem.H9 {w0 w w':World} {L:List Item} {k:Nat} {it it':Item} (h:Mem w0 L w) (hk:L[k]?=some it) (hfp: ∀b,it'.fp b→it.fp b∨w.heap.size≤b) (hlt: ∀b,it'.fp b→b<w'.heap.size) (hA:it'.A w')
  (hos:w'.os=w.os∧w'.tape=w.tape∧w'.output=w.output∧w.drawn≤w'.drawn) (hsz:w.heap.size≤w'.heap.size) (hout: ∀b,b<w.heap.size→ ¬it.fp b→w'.heap[b]?=w.heap[b]?):Mem w0 (L.set k it') w':=by
 obtain ⟨h1,h2,h3,h4⟩:=h;have hmem:=an hk;refine ⟨⟨⟨hos.1.trans h1.os,hos.2.1.trans h1.tape,hos.2.2.1.trans h1.output,jd h1.size hsz,fun b hb=>(hout b (gL hb h1.size) (fun hf=>by have:=(h3 it hmem b hf).1;omega)).trans (h1.block b hb)⟩,jd h1.drawn hos.2.2.2⟩,?_,?_,?_⟩
 ·intro x hx;obtain ⟨j,hj⟩:=bC.1 hx;rw [bw] at hj;split at hj
  ·split at hj
   ·cases hj;exact hA
   cases hj
  rename_i hne;have hxm:=an hj;refine x.st w w' (fun b hf=>hout b (h3 x hxm b hf).2 (fun hg=>?_)) (h2 x hxm);rcases oV hne with hlt|hlt
  ·obtain ⟨p,hp⟩:=aa.1 hk;obtain ⟨q,hq⟩:=aa.1 hj;have:=bj.1 h4 k j p q hlt b (hp▸hg);exact this (hq▸hf)
  obtain ⟨p,hp⟩:=aa.1 hk;obtain ⟨q,hq⟩:=aa.1 hj;have:=bj.1 h4 j k q p hlt b (hq▸hf);exact this (hp▸hg)
 ·intro x hx b hb;obtain ⟨j,hj⟩:=bC.1 hx;rw [bw] at hj;split at hj
  ·split at hj
   ·cases hj;refine ⟨?_,hlt b hb⟩;rcases hfp b hb with h|h
    ·exact (h3 it hmem b h).1
    have:=h1.size;omega
   cases hj
  have:=h3 x (an hj) b hb;exact ⟨this.1,by omega⟩
 have h5:=h4;rw [bj] at h4⊢;intro i j hi hj hij b hb hg;simp only [dU] at hi hj;obtain ⟨p,hp⟩:=aa.1 hk;simp only [List.getElem_set] at hb hg;split at hb
 ·rename_i e;subst e;rw [ah (by omega)] at hg;rcases hfp b hb with h|h
  ·exact h4 k j hi hj hij b (hp▸h) hg
  have:=(h3 _ (SP hj) b hg).2;omega
 split at hg
 ·rename_i e;subst e;rcases hfp b hg with h|h
  ·exact h4 i k hi hj hij b hb (hp▸h)
  have:=(h3 _ (SP hi) b hb).2;omega
 exact h4 i j hi hj hij b hb hg
def dR {α:Type} (e:TypeId) (k:Nat) (enc:α→List Value) (A:Option Addr) (c:Nat) (xs:List α):Item where
 fp:=fun b=>A.map (·.block)=some b
 A:=fun w=>w.ownsRow 0 e k (.slice A xs.length c) xs.length (xs.flatMap enc)
 st:=fun w w' h hA=>by
  refine ⟨hA.1,?_⟩
  rcases hA.2 with h0|⟨g,cap,cur,hv,h1,h2,h3⟩
  ·exact .inl h0
  ·refine .inr ⟨g,cap,cur,hv,h1,?_,h3⟩
   simp only [Value.slice.injEq] at hv
   rw [h g (by rw [hv.1];rfl)]
   exact h2
section
variable {α:Type} {e:TypeId} {k:Nat} {enc:α→List Value} {A:Option Addr} {n:Nat} {xs:List α} {w0 w:World} {L:List Item}
theorem gi (he: ∀x,(enc x).length=k): ∀xs:List α,(xs.flatMap enc).length=xs.length*k
 |[]=>by simp
 |x::xs=>by simp [he x,gi he xs,RG];omega
theorem CA (he: ∀x,(enc x).length=k): ∀(xs:List α) (j:Nat) (u:Value),(xs.flatMap enc)[j]?=some u→ ∃i x r,xs[i]?=some x∧(enc x)[r]?=some u∧j=i*k+r
 |[],j,u,h=>by simp at h
 |y::ys,j,u,h=>by
  simp only [gD] at h;by_cases hj:j<(enc y).length
  ·rw [dM hj] at h;exact ⟨0,y,j,rfl,h,by simp⟩
  rw [cy (by omega)] at h;obtain ⟨i,x,r,h1,h2,h3⟩:=CA he ys _ u h;rw [he] at h3 hj;exact ⟨i+1,x,r,by simpa using h1,h2,by simp [RG];omega⟩
theorem Mem.eX {c:Nat} (h:Mem w0 L w) (e:TypeId) (k:Nat) (enc:α→List Value) (hc:c=0):Mem w0 (dR e k enc none c ([]:List α)::L) w:=by
 subst hc;obtain ⟨h1,h2,h3,h4⟩:=h;refine ⟨h1,?_,?_,bL.2 ⟨fun y _ b (hb:none=some b)=>(by cases hb),h4⟩⟩
 ·intro x hx;rcases bU.1 hx with rfl|hx
  ·exact ⟨by simp, .inl ⟨rfl,rfl⟩⟩
  exact h2 x hx
 intro x hx b hb;rcases bU.1 hx with rfl|hx
 ·cases hb
 exact h3 x hx b hb
theorem cW {j c:Nat} (h:Mem w0 L w) (hk:L[j]?=some (dR e k enc A c xs)) (he: ∀x,(enc x).length=k) (hl:xs.length≤9223372036854775807):gJ w k enc A xs.length xs:=by
 have hA:w.ownsRow 0 e k (.slice A xs.length c) xs.length (xs.flatMap enc):=h.item hk;refine ⟨rfl,hl,fun hn=>?_⟩;rcases hA.2 with ⟨_,h0⟩|⟨g,cap,cur,hv,h1,h2,h3,h4,h5,h6⟩
 ·omega
 simp only [Value.slice.injEq] at hv;obtain ⟨rfl,_,rfl⟩:=hv;refine ⟨g,0,rfl,(cm.1 h2).1,fun i x hx r u hu=>?_⟩;have:=hA.cells (g:=g) rfl (i*k+r) u (rk he xs i x hx r u hu);rw [tt rfl] at this;simpa using this
end
section
variable {α:Type} {e t:TypeId} {k:Nat} {enc:α→List Value} {A B:Option Addr} {xs ys:List α} {c:Cx} {w0:World} {L:List Item} {f:Fr} {K:List Item→Fr→Prop} {d:Nat} {ty:TypeId} {pos:String} {af:Array Edge} {x y:Operand}
theorem ba (j:Nat) {cA cB m:Nat} {i:TypeInfo} {z:Value} (ht:c.P.underlying t=some (.slice e)) (hi:c.P.info? e=some i) (hz:i.zero=some z) (hsize:i.size=k) (hzs:z.cells.size=k) (hk0:Nat.blt 0 k=true)
  (he: ∀x,(enc x).length=k) (h1: ∀x,(enc x).all (·.oneCell')=true) (hx:ev f x= .slice A xs.length cA) (hy:ev f y= .slice B m cB) (hk:L[j]?=some (dR e k enc A cA xs)) (hr: ∀w,Mem w0 L w→gJ w k enc B m ys)
  (hlen:xs.length+ys.length≤1000000∧i.bytes≤100000) (hd:Nat.blt d c.N=true) (next: ∀A' c',K (L.set j (dR e k enc A' c' (xs++ys))) (kX f d (.slice A' (xs++ys).length c'))):
  uz c w0 L f ⟨some d, .call {callee:= .builtin .append,args:= #[x,y],argTypes:= #[t,t]},ty,pos,af,none⟩ K:=
 ⟨rfl,rfl,hd,fun w hw=>by
  have hA:w.ownsRow 0 e k (.slice A xs.length cA) xs.length (xs.flatMap enc):=hw.item hk;have hS:=hr w hw;have hm:ys.length=m:=hS.1;have hk1:0<k:=ep hk0;have hex: ∀v' w',(Builtin.append_ #[t,t] ty #[.slice A xs.length cA, .slice B m cB]).run c.P w= .ok v' w'→(execOp (ev f) ⟨some d, .call {callee:= .builtin .append,args:= #[x,y],argTypes:= #[t,t]},ty,pos,af,none⟩).run c.P w= .ok (.value v') w':=fun v' w' h=>by
   simp [execOp,resolve,invoke,builtin,hx,hy,h]
  have key: ∃v' w',(Builtin.append_ #[t,t] ty #[.slice A xs.length cA, .slice B m cB]).run c.P w= .ok v' w'∧w'.ownsRow 0 e k v' (xs.length+m) (xs.flatMap enc++ys.flatMap enc)∧w.grownBy w' (Value.slice A xs.length cA).ownBlock∧w.drawn≤w'.drawn∧ ∀b,v'.ownBlock=some b→(Value.slice A xs.length cA).ownBlock=some b∨w.heap.size≤b:=by
   have hnl:(ys.flatMap enc).length=m*k:=by rw [gi he,hm]
   have hby:(xs.length+m)*i.bytes≤140737488355328:=by
    have:=Wl (show xs.length+m≤1000000 by omega) hlen.2;omega
   cases B with
   |none=>
    have hm0:m=0:=by
     rcases du m with h|h
     ·exact h
     obtain ⟨b,off,hb,_⟩:=hS.2.2 h;cases hb
    subst hm0;have hy0:ys=[]:=bW hm;subst hy0;refine ⟨.slice A xs.length cA,w,?_,by simpa using hA,⟨rfl,rfl,rfl,bq _,fun _ _ _=>rfl⟩,bq _,fun b hb=> .inl hb⟩;rcases hA.2 with ⟨hv,h0⟩|⟨g,cap,cur,hv,_,_,hnc,_⟩
    ·simp only [Value.slice.injEq] at hv;obtain ⟨rfl,h6,rfl⟩:=hv;rw [h0];simp [Builtin.append_,run_underlying ht,sizeOf,typeInfo,hi,Builtin.lenOf,Builtin.firstCells]
    simp only [Value.slice.injEq] at hv;obtain ⟨rfl,_,rfl⟩:=hv;simp [Builtin.append_,run_underlying ht,sizeOf,typeInfo,hi,Builtin.lenOf,Builtin.firstCells,hnc,storeCells]
   |some a=>
    have hnews: ∀j u,(ys.flatMap enc)[j]?=some u→w.cell? (a.add j)=some u:=fun j u hu=>by
     obtain ⟨q,v,r,hq,hv,rfl⟩:=CA he ys j u hu;have hq':q<m:=by have:=(aa.1 hq).1;omega
     obtain ⟨b,off,hb,_,hc⟩:=hS.2.2 (by omega);cases hb;have:=hc q v hq r u hv;rw [tt rfl];rw [ma] at this;exact this
    have hone: ∀u∈ys.flatMap enc,u.oneCell'=true:=fun u hu=>by
     obtain ⟨v,_,hv⟩:=dO.1 hu;exact eF.1 (h1 v) u hv
    obtain ⟨v',w',h2,h3,h4,_⟩:=run_append_own (P:=c.P) w 0 t ty e i z k i.bytes ht hi hz hsize rfl hzs hk1 _ xs.length _ hA a m cB (ys.flatMap enc) hnl hnews hone (by simp only [maxLen];omega) hby (aU _);refine ⟨v',w',h2,h3,h4,?_⟩;subst hsize;rcases hA.2 with ⟨hv,h0⟩|⟨g,cap,cur,hv,h6,h7,hnc,hcm,hcs,htk⟩
    ·simp only [Value.slice.injEq] at hv;obtain ⟨rfl,h6,rfl⟩:=hv;rw [h0] at h2;by_cases hm0:m=0
     ·subst hm0;have:(Builtin.append_ #[t,t] ty #[.slice none 0 0, .slice (some a) 0 cB]).run c.P w= .ok (.slice none 0 0) w:=by
       simp [Builtin.append_,run_underlying ht,sizeOf,typeInfo,hi,Builtin.lenOf,Builtin.firstCells,loadCells,loadCellsFrom]
      rw [this] at h2;cases h2;exact ⟨bq _,fun b hb=>by cases hb⟩
     have:=run_append_nil (P:=c.P) w t ty e i z ht hi hz a m cB (ys.flatMap enc) hnl hnews (by omega) (by omega) (by have hb:=hby;rw [h0] at hb;simp only [dj] at hb;omega);rw [this] at h2;cases h2;exact ⟨Db _,fun b hb=>by
      simp only [Value.ownBlock,eQ] at hb;exact .inr (by omega)⟩
    simp only [Value.slice.injEq] at hv;obtain ⟨rfl,_,rfl⟩:=hv;by_cases hroom:xs.length+m≤cA
    ·have h8:=run_append_room (P:=c.P) w t ty e i ht hi g xs.length cA cur h7 a m cB (ys.flatMap enc) hnl hnews hone hroom (by rw [hnl,hcs,←uv];exact wy _ hroom);rw [h8] at h2;cases h2;exact ⟨bq _,fun b hb=> .inl hb⟩
    have:=run_append_grow (P:=c.P) w t ty e i z ht hi hz ⟨g,0,none⟩ xs.length cA (xs.flatMap enc) hA.1 (hA.cells (g:=g) rfl) a m cB (ys.flatMap enc) hnl hnews (by omega) (by omega) (growslice_fits (by omega) hby);rw [this] at h2;cases h2;exact ⟨Db _,fun b hb=>by
     simp only [Value.ownBlock,eQ] at hb;exact .inr (by omega)⟩
  obtain ⟨v',w',h2,h3,h4,h4d,h5⟩:=key;rw [hex v' w' h2];have hsh: ∃A' c',v'= .slice A' (xs++ys).length c':=by
   rcases h3.2 with ⟨rfl,h0⟩|⟨g,cap,cur,rfl,_⟩
   ·exact ⟨none,0,by rw [bV,hm,h0]⟩
   exact ⟨_,_,by rw [bV,hm]⟩
  obtain ⟨A',c',rfl⟩:=hsh;have hA':w'.ownsRow 0 e k (.slice A' (xs++ys).length c') (xs++ys).length ((xs++ys).flatMap enc):=by
   rw [lD];have:(xs++ys).length=xs.length+m:=by rw [bV,hm]
   rw [this] at h3⊢;exact h3
  refine ⟨_,hw.H9 (it':=dR e k enc A' c' (xs++ys)) hk (fun b hb=>?_) (fun b hb=>?_) hA' ⟨h4.os,h4.tape,h4.output,h4d⟩ h4.size (fun b hb hf=>h4.block b hb (fun e=>hf ?_)),ie hk rfl,next A' c'⟩
  ·have hb':(Value.slice A' (xs++ys).length c').ownBlock=some b:=by
    cases A' with
    |none=>cases hb
    |some a=>exact hb
   rcases h5 b hb' with h|h
   ·left;cases A with
    |none=>cases h
    |some a=>exact h
   exact .inr h
  ·have:(Value.slice A' (xs++ys).length c').ownBlock=some b:=by
    cases A' with
    |none=>cases hb
    |some a=>exact hb
   exact (hA'.lt b this).2
  cases A with
  |none=>cases e
  |some a=>exact e.symm⟩
theorem lJ {PQ:PJ} {ops rest:List Oper} (h:uz c w0 L f ⟨some d, .call {callee:= .builtin .append,args:= #[x,y],argTypes:= #[t,t]},ty,pos,af,none⟩ fun L' f'=>XL false c ops rest PQ w0 L' f'):
  XL false c ops (⟨some d, .call {callee:= .builtin .append,args:= #[x,y],argTypes:= #[t,t]},ty,pos,af,none⟩::rest) PQ w0 L f:=bZ h
theorem qB {t el:TypeId} (enc:α→List Value) (ht:c.P.underlying t=some (.slice el)) {size:Nat} (hs: ∀w,(sizeOf el).run c.P w= .ok size w) (hd:Nat.blt d c.N=true) (next: ∀A c',K (dR el size enc A c' ([]:List α)::L) (kX f d (.slice A 0 c'))):
  uz c w0 L f ⟨some d, .buildSlice t 0 #[],ty,pos,af,none⟩ K:=
 ⟨rfl,rfl,hd,fun w hw=>by
  have:(execOp (ev f) ⟨some d, .buildSlice t 0 #[],ty,pos,af,none⟩).run c.P w= .ok (.value (.slice (some ⟨w.heap.size,0,none⟩) 0 0)) (w.alloc (.cells #[] el)):=by
   simp [execOp,Instr.buildSlice,run_underlying ht,hs,Instr.fill,newRow,Result.andThen];rw [show Array.range 0= #[] from WW (by simp),Array.map_empty]
  rw [this];refine ⟨dR el size enc (some ⟨w.heap.size,0,none⟩) 0 []::L,hw.new _ _ (fun b hb=>by cases hb;rfl) ?_,rfl,next _ _⟩;exact ⟨by simp, .inr ⟨w.heap.size,0,#[],rfl,aU _,heap_alloc_new w _,bq _,by simp [maxLen],by simp,by simp⟩⟩⟩
theorem dE {t el:TypeId} {len size:Nat} {parts:List (Nat×Operand)} {vs:List (Nat×Value)} {z:Value} (zs:List Value) (ht:c.P.underlying t=some (.slice el)) (hs: ∀w,(sizeOf el).run c.P w= .ok size w) (hz: ∀w,(zeroValue el).run c.P w= .ok z w)
  (hlen:(Nat.ble (len*size) 16777216&&!Nat.beq (len*size) 0)=true) (hzr:(Array.range (len*size)).map (z.cells[· %z.cells.size]!)=zs.toArray) (hp:vv f parts vs) (hok:Ax (oh size len) zs.length vs=true) (hd:Nat.blt d c.N=true)
  (next: ∀b,K (box b el (L7 (oh size len) zs vs)::L) (kX f d (.slice (some ⟨b,0,none⟩) len len))):uz c w0 L f ⟨some d, .buildSlice t len parts.toArray,ty,pos,af,none⟩ K:=
 ⟨rfl,rfl,hd,fun w hw=>by
  have:(execOp (ev f) ⟨some d, .buildSlice t len parts.toArray,ty,pos,af,none⟩).run c.P w= .ok (.value (.slice (some ⟨w.heap.size,0,none⟩) len len)) (w.alloc (.cells (L7 (oh size len) zs vs).toArray el)):=by
   rw [bQ] at hlen;have h2: ¬len*size>2^24:=by have:=ep hlen.1;omega
   have h0: ¬len*size=0:=by
    intro h;rw [h] at hlen;cases hlen.2
   have h3:=tj (oh size len) (fun i=>some (i*size,size)) (fun i q h=>by
    unfold oh at h;rw [bf] at h;cases hr:(List.range len)[i]? with
    |none=>rw [hr] at h;cases h
    |some y=>
     rw [hr] at h;have:y=i:=by have:=aa.1 hr;obtain ⟨_,h5⟩:=this;simpa using h5.symm
     subst this;exact h) vs zs.toArray (by simpa using hok)
   simp [execOp,Instr.buildSlice,run_underlying ht,hs,hz,h2,h0,hp.map,hzr,h3,newRow,Result.andThen]
  rw [this];exact ⟨_,hw.wY el _,rfl,next _⟩⟩
end
theorem fN {c:Cx} {k:Code} {PQ:PJ} {w0:World} {L:List Item} {f:Fr} {φ:Prop} (hφ: ∀w,Mem w0 L w→φ) (h:φ→H c k PQ w0 L f):H c k PQ w0 L f:=fun a w ha hw=>h (hφ w hw) a w ha hw
end Go.Proofs.E
namespace Go.Proofs.E
open Go Go.RowKit
section
variable {c:Cx} {w0:World} {L:List Item} {f:Fr} {ty t t2:TypeId} {g:Bool} {x y:Operand} {m n:Int}
theorem Oe (hx:gw g f x (.int .i64 m)) (hy:gw g f y (.int .i64 n)) (hr:g=true→ -9223372036854775808≤m∧m≤9223372036854775807∧0<n):iO g c w0 L f (.binOp .quo t x y t2) ty (.int .i64 (m.tdiv n)):=fun e _ _ _ _ w _=>by
 obtain ⟨h1,h2,h3⟩:=hr e;have hz: ¬n=0:=by omega
 have hb: -9223372036854775808≤m.tdiv n∧m.tdiv n≤9223372036854775807:=by
  rcases Int.le_total 0 m with h|h
  ·have h4:0≤m.tdiv n:=UO h (by omega);have h5:m.tdiv n≤m:=Int.tdiv_le_self _ h;omega
  have h4:(-m).tdiv n= -(m.tdiv n):=Int.neg_tdiv _ _;have h5:0≤(-m).tdiv n:=UO (by omega) (by omega);have h6:(-m).tdiv n≤ -m:=Int.tdiv_le_self _ (by omega);omega
 simp [execOp,hx e,hy e,eqGuard,binOp,Op.intDiv,hz,IntWalk.i64_in _ hb]
theorem Od (hx:gw g f x (.int .i64 m)) (hy:gw g f y (.int .i64 n)) (hr:g=true→0<n):iO g c w0 L f (.binOp .rem t x y t2) ty (.int .i64 (m.tmod n)):=fun e _ _ _ _ w _=>by
 have hz: ¬n=0:=by have:=hr e;omega
 simp [execOp,hx e,hy e,eqGuard,binOp,Op.intDiv,hz]
theorem xk {a:Addr} (hx:gw g f x (.pointer (some a))):iO g c w0 L f (.nilCheck x) ty (.pointer (some a)):=fun e _ _ _ _ w _=>by
 simp [execOp,hx e]
theorem Oi {el:TypeId} {b o sz len:Nat} (j:Nat) (ht:c.P.underlying t=some (.array len el)) (hs: ∀w,(sizeOf el).run c.P w= .ok sz w) (hx:gw g f x (.pointer (some ⟨b,o,none⟩))) (hy:gw g f y (.int .i64 m)) (hm:g=true→m=(j:Int)∧j<len):
  iO g c w0 L f (.indexAddr t x y) ty (.pointer (some ⟨b,o+j*sz,none⟩)):=fun e _ _ _ _ w _=>by
 obtain ⟨rfl,hj⟩:=hm e;simp [execOp,hx e,hy e,Instr.indexAt,asIntOf,run_underlying ht,hs,Result.andThen,addr_add,hj,Instr.sureAddr]
theorem jG {op:Op} {v:Value} (h:g=false):iO g c w0 L f op ty v:=fun e=>absurd e (by rw [h];decide)
end
def oq (l:List Int):List Value:=l.map (.int .i64)
theorem lf {P:Program} {t:TypeId} {l:List Int} {k:Nat} {x:Int} (w:World) (ha: ∀w,(isAgg t).run P w= .ok false w) (hx:l[k]?=some x):(part t (oq l).toArray k).run P w= .ok (.int .i64 x) w:=by
 simp [part,ha,oq,hx,Result.andThen]
def vM (P:Program):Nat→List Field→Prop
 |_,[]=>True
 |k,f::fs=>f.name≠ "_" ∧f.offset=k∧(∀w,(isAgg f.type).run P w= .ok false w)∧(∃q,P.underlying f.type=some (.int q))∧vM P (k+1) fs
theorem rU {P:Program} (d:Nat) (w:World) (xs ys:List Int) (hl:xs.length=ys.length): ∀(fs:List Field) (k:Nat),vM P k fs→k+fs.length=xs.length→
  (Op.eqFields (d+1) (oq xs).toArray (oq ys).toArray fs).run P w= .ok (xs.drop k==ys.drop k) w
 |[],k,_,hk=>by
  simp only [eU,nF] at hk;rw [iP (by omega),iP (by omega)];simp [Op.eqFields]
 |f::fs,k,⟨h1,h2,h3,⟨q,h4⟩,h5⟩,hk=>by
  simp only [bB] at hk;have kx:k<xs.length:=by omega
  have ky:k<ys.length:=by omega
  have ih:=rU d w xs ys hl fs (k+1) h5 (by omega);have e:(xs.drop k==ys.drop k)=((xs[k]==ys[k])&&(xs.drop (k+1)==ys.drop (k+1))):=by
   rw [cL kx,cL ky];rfl
  rw [e];simp only [Op.eqFields,h1,Km,ix,qo,h2,Sem.run_bind,lf w h3 (aj kx),lf w h3 (aj ky),Result.andThen_ok,run_equalIn_int w d f.type .i64 q _ _ h4,Sem.run_ite];cases hb:(xs[k]==ys[k]) with
  |false=>rfl
  |true=>rw [ah (by decide),ih];rfl
theorem og {P:Program} {t:TypeId} {fs:Array Field} (w:World) (xs ys:List Int) (hl:xs.length=ys.length) (ht:P.underlying t=some (.struct fs)) (hp:P.stoodInHeld t=false) (hf:vM P 0 fs.toList) (hn:fs.toList.length=xs.length):
  (Op.equal t (.agg (oq xs).toArray) (.agg (oq ys).toArray)).run P w= .ok (xs==ys) w:=by
 have h:=rU (P:=P) 9998 w xs ys hl fs.toList 0 hf (by omega);have e:P.fieldsOf t=fs:=by unfold Program.fieldsOf;rw [ht]
 show (Op.equalIn 10000 t _ _).run P w=_;rw [show (10000:Nat)=9999+1 from rfl,run_equalIn_struct w 9999 t _ _ (by rw [e];exact ht) hp,e];exact h
section
variable {c:Cx} {w0:World} {L:List Item} {f:Fr} {ty t t2:TypeId} {g:Bool} {x y:Operand}
theorem JW {xs ys:Array Value} {b:Bool} (heq: ∀w,(Op.equal t (.agg xs) (.agg ys)).run c.P w= .ok b w) (hgd:c.P.eqGuardType c.P.depth t=false) (hx:gw g f x (.agg xs)) (hy:gw g f y (.agg ys)):iO g c w0 L f (.binOp .eql t x y t2) ty (.bool b):=fun e _ _ _ _ w _=>by
 simp [execOp,hx e,hy e,eqGuard,binOp,heq,hgd,Result.andThen]
theorem CM {xs ys:Array Value} {b:Bool} (heq: ∀w,(Op.equal t (.agg xs) (.agg ys)).run c.P w= .ok b w) (hgd:c.P.eqGuardType c.P.depth t=false) (hx:gw g f x (.agg xs)) (hy:gw g f y (.agg ys)):iO g c w0 L f (.binOp .neq t x y t2) ty (.bool (!b)):=fun e _ _ _ _ w _=>by
 simp [execOp,hx e,hy e,eqGuard,binOp,heq,hgd,Result.andThen]
end
end Go.Proofs.E
