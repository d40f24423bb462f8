import Derived.Test.YtakhechhnnjbcaaGreatBC01
import Derived.RangeFuncSeq
import Derived.Test.YtakhechhnnjbcaaGreatBC03
import Derived.Test.YtakhechhnnjbcaaGreatBC02
import Derived.Test.YtakhechhnnjbcaaGreatProg
set_option linter.unusedVariables false
set_option linter.unusedSimpArgs false
namespace Go.Proofs.E
open Go Go.RowKit
section
variable {F:Fence} {n:Nat} {P:Program} {ops:Array Oper} {md:Region.Mode} {C:World→Prop}
def Bn (F:Fence) (n:Nat) (P:Program) (md:Region.Mode) (ops:Array Oper) (C:World→Prop) (T:Array Bool→Act→Prop):Nat→Array Bool→Act→Prop
 |0,listed,a=>(∀j∈Region.ready md ops listed,j+1=ops.size)∧T listed a
 |fuel+1,listed,a=>Region.ready md ops listed≠[]∧ ∀i∈Region.ready md ops listed,i+1≠ops.size∧qOpIn F n P ops C i (Bn F n P md ops C T fuel (listed.setIfInBounds i true)) a
def zV (md:Region.Mode) (ops:Array Oper) (listed:Array Bool):Prop:= ∀(j:Nat) oj,ops[j]?=some oj→listed.getD j false=true→ ∀e∈oj.after,Region.binds md e=true→listed.getD e.on false=true
theorem zV.set {listed:Array Bool} {i:Nat} (h:zV md ops listed) (hr:i∈Region.ready md ops listed):zV md ops (listed.setIfInBounds i true):=by
 intro j oj hj hl e he hb;by_cases hij:i=j
 ·subst hij;obtain ⟨_,o,ho,hall⟩:=mem_ready.1 hr;rw [hj] at ho;cases ho;exact getD_set_true (hall e he hb)
 rw [getD_set_ne false hij] at hl;exact getD_set_true (h j oj hj hl e he hb)
def waits (md:Region.Mode) (ops:Array Oper) (ol:Oper) (i:Nat):Bool:=
 ol.after.any fun e=>Region.binds md e&&(e.on==i||((ops[e.on]?).map fun oe=>oe.after.any fun e'=>Region.binds md e'&&e'.on==i).getD false)
theorem EC {T:Array Bool→Act→Prop} {i:Nat} {oi:Oper} {v:Value} (hi:ops[i]?=some oi) (hil:i+1≠ops.size) (hsel: ∀(j:Nat) (o:Oper) cs b,ops[j]?=some o→o.op≠ .select cs b)
  (hw: ∀ol,ops[ops.size -1]?=some ol→waits md ops ol i=true):
  ∀(fuel:Nat) (listed:Array Bool) (a:Act),zV md ops listed→
   (∀j oj,ops[j]?=some oj→j≠i→listed.getD j true=false→(∀e∈oj.after,Region.binds md e=true→e.on≠i)→oi.apart ops oj=true)→
   i∈Region.ready md ops listed→YieldsQuiet F n P ops C oi v a→
   Bn F n P md ops C T fuel (listed.setIfInBounds i true) (a.put oi.dst v)→Bn F n P md ops C T (fuel+1) listed a:=by
 have hlast: ∀listed:Array Bool,zV md ops listed→i∈Region.ready md ops listed→ ∀j∈Region.ready md ops listed,j+1≠ops.size:=by
  intro listed hcl hr j hj e;obtain ⟨_,oj,hoj,hall⟩:=mem_ready.1 hj;have hwt:=hw oj (by rw [show ops.size -1=j by omega];exact hoj);obtain ⟨ed,hed,hwt⟩:=Array.any_eq_true'.1 hwt;simp only [bQ,FK,xG] at hwt;have h0:=(mem_ready.1 hr).1;have h1:listed.getD i false=true:=by
   have h2:=hall ed hed hwt.1;rcases hwt.2 with h3|h3
   ·rw [h3] at h2;exact h2
   cases ho:ops[ed.on]? with
   |none=>rw [ho] at h3;cases h3
   |some oe=>
    rw [ho] at h3;simp only [fU,l6] at h3;obtain ⟨e',he',h4⟩:=Array.any_eq_true'.1 h3;simp only [bQ,xG] at h4;have:=hcl ed.on oe ho h2 e' he' h4.1;rw [h4.2] at this;exact this
  rcases l' i listed.size with h'|h'
  ·simp [h'] at h0 h1;rw [h0] at h1;cases h1
  simp [cD h'] at h1
 intro fuel
 induction fuel with
 |zero=>
  intro listed a hcl _ hr hy H;refine ⟨fun h=>(by rw [h] at hr;cases hr),fun j hj=>⟨hlast listed hcl hr j hj,?_⟩⟩;by_cases hji:j=i
  ·subst hji;exact hy.qOpIn hi H
  have:=H.1 j (ready_mono hj hji);exact absurd this (hlast listed hcl hr j hj)
 |succ fuel ih=>
  intro listed a hcl hfree hr hy H;refine ⟨fun h=>(by rw [h] at hr;cases hr),fun j hj=>⟨hlast listed hcl hr j hj,?_⟩⟩;by_cases hji:j=i
  ·subst hji;exact hy.qOpIn hi H
  have h1:=(H.2 j (ready_mono hj hji)).2;obtain ⟨hjun,oj,hoj,hall⟩:=mem_ready.1 hj;have hnot: ∀e∈oj.after,Region.binds md e=true→e.on≠i:=fun e he hb heq=>by
   have h1:=hall e he hb;have h0:=(mem_ready.1 hr).1;rw [heq] at h1;rcases l' i listed.size with h'|h'
   ·simp [h'] at h0 h1;rw [h0] at h1;cases h1
   simp [cD h'] at h1
  have h2:=qOpIn_put hoj (hfree j oj hoj hji hjun hnot) (fun cs b=>hsel i oi cs b hi) (fun cs b=>hsel j oj cs b hoj) hy h1;have hfree': ∀k ok,ops[k]?=some ok→k≠i→(listed.setIfInBounds j true).getD k true=false→
    (∀e∈ok.after,Region.binds md e=true→e.on≠i)→oi.apart ops ok=true:=fun k ok hk hki hun hno=>by
   refine hfree k ok hk hki ?_ hno;by_cases hjk:j=k
   ·subst hjk;exact hjun
   rw [getD_set_ne true hjk] at hun;exact hun
  refine qOpIn_mono (fun a' h3=>ih (listed.setIfInBounds j true) a' (hcl.set hj) hfree' (ready_mono hr (Ne.symm hji)) h3.1 ?_) h2;rw [WV _ _ hji];exact h3.2
def Lm (md:Region.Mode) (ops:Array Oper):Nat→Nat→Array Bool→Bool
 |0,_,listed=>(Region.ready md ops listed==[ops.size -1])&&(Region.ready md ops (listed.setIfInBounds (ops.size -1) true)).isEmpty
 |fuel+1,k,listed=>(Region.ready md ops listed).contains k&&Region.free md ops listed k&&((ops[ops.size -1]?).map (fun o=>waits md ops o k)).getD false&&Lm md ops fuel (k+1) (listed.setIfInBounds k true)
theorem Bm {Q:Act→Prop} (hs:Region.noSelect ops=true): ∀(l:List Oper) (k:Nat) (listed:Array Bool) (a:Act),k+l.length+1=ops.size→(∀(j:Nat),j<l.length→l[j]?=ops[k+j]?)→zV md ops listed→
  Lm md ops l.length k listed=true→wpQuietIn F n P ops C Q l a→Bn F n P md ops C (fun listed' a'=>Q a'∧Region.ready md ops listed'=[ops.size -1]∧Region.ready md ops (listed'.setIfInBounds (ops.size -1) true)=[]) l.length listed a
 |[],k,listed,a,hsz,_,_,hB,h=>by
  simp only [eU,Lm,bQ,xG,SO] at hB;refine ⟨fun j hj=>?_,h,hB.1,hB.2⟩;rw [hB.1] at hj;simp only [eU] at hsz;have:=bu.1 hj;omega
 |o::l,k,listed,a,hsz,hl,hcl,hB,h=>by
  have h0:ops[k]?=some o:=by simpa using (hl 0 (by simp)).symm
  simp only [bB,Lm,bQ] at hB;obtain ⟨⟨⟨hr,hf⟩,hlast⟩,hB'⟩:=hB;have hst:qOpIn F n P ops C k (wpQuietIn F n P ops C Q l) a:=by unfold qOpIn;simp only [h0];exact h
  obtain ⟨v,hy,hK⟩:=yieldsQuiet_of_qOpIn h0 hst;simp only [bB] at hsz;exact EC h0 (by omega) (Region.noSelect_spec hs) (fun ol hol=>by
    rw [hol] at hlast;simpa using hlast) l.length listed a hcl (Region.free_spec h0 hf) (by simpa using hr) hy
   (Bm hs l (k+1) _ _ (by omega) (fun j hj=>by have:=hl (j+1) (by simpa using hj);simpa [ma,Nat.add_comm 1 j] using this) (hcl.set (by simpa using hr)) hB' hK)
theorem xO {T:Array Bool→Act→Prop} {Q':Exit→Act→World→Prop} (hnd: ∀(j:Nat) o,ops[j]?=some o→ ∀x,o.op≠ .defer x)
  (hT: ∀listed a w,C w→T listed a→wpAnyIn F n P md ops Q' 1 listed a w): ∀(fuel:Nat) (listed:Array Bool) (a:Act) (w:World),C w→
  Bn F n P md ops C T fuel listed a→wpAnyIn F n P md ops Q' (fuel+1) listed a w
 |0,_,_,_,hw,h=>hT _ _ _ hw h.2
 |fuel+1,_,_,_,hw,h=>⟨fun h0=>absurd h0 h.1,fun i hi=>sS hnd hw (fun a' w' hw' h'=>xO hnd hT fuel _ a' w' hw' h') (h.2 i hi).2⟩
end
theorem Ry {c:Cx} {PQ:PJ} {w0:World} {L:List Item} {f:Fr} {id:Nat} {ops qs:List Oper} {last:Oper} (hops:ops=qs++[last]) (hm:c.P.follows .mixedOrders=true)
  (hB:(Region.noSelect ops.toArray&&Lm .any ops.toArray qs.length 0 (Array.replicate ops.length false)&&ops.all (fun o=>!dI o.op))=true)
  (h:QL c ops qs w0 L (fun f'=>HL c ops [last] PQ w0 L f') f):H c (.region id ops.toArray true) PQ w0 L f:=by
 intro a w ha hw;simp only [bQ] at hB;obtain ⟨⟨hS,hX⟩,hD⟩:=hB;have hsz:ops.toArray.size=qs.length+1:=by rw [hops];simp
 have hlast:ops.toArray[ops.toArray.size -1]?=some last:=by rw [hsz,hops];simp
 have hnd: ∀(j:Nat) (o:Oper),ops.toArray[j]?=some o→ ∀x,o.op≠ .defer x:=fun j o hj=>kR (by
  have hmem:o∈ops:=an (by simpa using hj);simpa using eF.1 hD o hmem)
 refine wpIn_region_any hm ?_;rw [hsz];refine xO (C:=Mem w0 L) hnd (T:=fun listed' a'=>(∃f',mr c.N (marks L) a' f'∧HL c ops [last] PQ w0 L f')∧Region.ready .any ops.toArray listed'=[ops.toArray.size -1]∧Region.ready .any ops.toArray (listed'.setIfInBounds (ops.toArray.size -1) true)=[]) ?_ qs.length _ a _ hw.drew ?_
 ·rintro listed' a' w' hw' ⟨⟨f',h1,h2⟩,h3,h4⟩;refine ⟨fun h0=>(by rw [h3] at h0;cases h0),fun i hi=>?_⟩;rw [h3] at hi;obtain rfl:=bu.1 hi;have h5:wpListIn (FW c.ro) 0 c.P ops.toArray (lift c PQ) [last] a' w':=h2 a' w' h1 hw';unfold wpOpIn;rw [hlast];show if _ then _ else _
  have h6:if Region.wanted last (yielded ops.toArray a'.tmps) then last.wpIn (FW c.ro) 0 c.P a' w' (wpListIn (FW c.ro) 0 c.P ops.toArray (lift c PQ) []) (lift c PQ) else (∀f,last.about c.P w' a'.eval=some f→(FW c.ro).fn f)∧wpListIn (FW c.ro) 0 c.P ops.toArray (lift c PQ) [] (a'.put last.dst undef) w':=h5
  have hk:wpListIn (FW c.ro) 0 c.P ops.toArray (lift c PQ) []=wpAnyIn (FW c.ro) 0 c.P .any ops.toArray (lift c PQ) 0 (listed'.setIfInBounds (ops.toArray.size -1) true):=by
   funext x y;show lift c PQ .normal x y=(_∧_);exact propext ⟨fun h=>⟨h4,h⟩,fun h=>h.2⟩
  rw [hk] at h6;exact h6
 have:=Bm (F:=FW c.ro) (n:=0) (P:=c.P) (md:= .any) (C:=Mem w0 L) (ops:=ops.toArray) (Q:=fun a'=> ∃f',mr c.N (marks L) a' f'∧HL c ops [last] PQ w0 L f') hS qs 0 (Array.replicate ops.length false) a (by rw [hsz];omega) (fun j hj=>by rw [hops];simp [dM hj]) (fun j oj _ hl=>by simp [rO] at hl;split at hl<;>simp_all) hX (h a ha);have e:Array.replicate (qs.length+1) false=Array.replicate ops.length false:=by rw [hops];simp
 rw [e];exact this
theorem RT {c:Cx} {PQ:PJ} {w0:World} {L:List Item} {f:Fr} {id:Nat} {ops:List Oper} (hops:ops=ops.dropLast++[ops.getLastD default]) (hm:c.P.follows .mixedOrders=true)
  (hB:(Region.noSelect ops.toArray&&Lm .any ops.toArray ops.dropLast.length 0 (Array.replicate ops.length false)&&ops.all (fun o=>!dI o.op))=true)
  (h:XL true c ops ops.dropLast (Bv (fun w0 L f'=>XL false c ops [ops.getLastD default] PQ w0 L f') PQ) w0 L f):H c (.region id ops.toArray true) PQ w0 L f:=Ry hops hm hB h
end Go.Proofs.E
namespace Go.Proofs.E
open Go Go.RowKit
def Pc {α:Type} (P:Program) (gf:FuncId) (lb:Array Value) (encs:α→Array Value) (xs:List α) (R:World→Prop):Prop:=
 ∀(l:Nat) (J:List α→World→Prop) (Jx:World→Prop) (W:World),R W→J [] W→(∀pre W W',J pre W→gz W W'→J pre W')→(∀W W',Jx W→gz W W'→Jx W')→
  (∀pre x W1,(pre++[x])<+:xs→R W1→J pre W1→YieldAt (FW none) 0 P l (encs x) W1 fun e W'=>(e= .returned (.bool true)∧J (pre++[x]) W'∧R W')∨(e= .returned (.bool false)∧Jx W'))→
  Calls P gf (#[.func (.yield l) #[] #[]]++lb) W fun e W'=>e= .returned (.tuple #[])∧(J xs W'∨Jx W')
def td (l:Nat) (r:Loop):Item where
 fp:=fun x=>x=l
 A:=fun w=>w.heap[l]?=some (.loop r)
 st:=fun _ _ h hA=>(h l rfl).trans hA
theorem Mem.wV {w0 w:World} {l:Nat} {r r':Loop} {L:List Item} (h:Mem w0 (td l r::L) w):Mem w0 (td l r'::L) (w.putObj l (.loop r')):=by
 have hl:=h.2.2.1 _ (bF ..) l rfl;have:=h.set (k:=0) (it:=td l r) (it':=td l r') (w':=w.putObj l (.loop r')) rfl (fun _ h=>h) (World.putObj_heap_same hl.2) ⟨rfl,rfl,rfl,by simp,bq _⟩ (fun b hb=>World.putObj_heap_other hb);exact this
theorem Mem.rec {w0 w:World} {l:Nat} {r:Loop} {L:List Item} (h:Mem w0 (td l r::L) w):w.heap[l]?=some (.loop r):=h.2.1 _ (bF ..)
def PG (f:Fr):List Nat→List Value→Fr
 |p::ps,v::vs=>PG (kX f p v) ps vs
 |_,_=>f
theorem GY {N:Nat}: ∀(ps:List Nat) (vs:List Value) (t:Array Value) (f:Fr),t.size=N→(∀i,t.getD i undef=f i)→ps.all (fun p=>Nat.blt p N)=true→
  mr N [] {tmps:=(ps.zip vs).foldl (fun t (p:Nat×Value)=>t.setIfInBounds p.1 p.2) t,defers:=[]} (PG f ps vs)
 |[],_,t,f,hs,hg,_=>⟨hs,hg,rfl⟩
 |p::ps,[],t,f,hs,hg,_=>⟨hs,hg,rfl⟩
 |p::ps,v::vs,t,f,hs,hg,hp=>by
  simp only [nQ,bQ] at hp;have h1:mr N [] {tmps:=t,defers:=[]} f:=⟨hs,hg,rfl⟩;have h2:=h1.put hp.1 v;exact GY ps vs _ _ h2.size h2.get hp.2
def MS (w0:World) (l:Nat) (r:Loop) (D:Nat) (Ln:List Item) (Ix:Code→List Item→Prop):PJ
 | .normal=>fun w0' L _=> ∀w,Mem w0' L w→Mem w0 (td l r::so D::Ln) w
 | .exit i=>fun w0' L _=> ∃L',Ix (.exit i) L'∧ ∀w,Mem w0' L w→Mem w0 (td l r::so D::L') w
 | .ret=>fun w0' L _=> ∃L',Ix .ret L'∧ ∀w,Mem w0' L w→Mem w0 (td l r::so D::L') w
 |_=>fun _ _ _=>False
def VS (w0:World) (l:Nat) (r:Loop) (D:Nat) (K:Loop→J):PJ
 | .normal=>fun w0' L f=> ∃L2,marks L=[]∧marks L2=[]∧(∀w,Mem w0' L w→Mem w0 (td l r::so D::L2) w)∧ ∀r',K r' w0 (td l r'::so D::L2) f
 |_=>fun _ _ _=>False
theorem Hw {w0 w0':World} {l D:Nat} {r:Loop} {K:Loop→J} {L:List Item} {f:Fr} (L2:List Item) (h1:marks L=[]) (h2:marks L2=[]) (hm: ∀w,Mem w0' L w→Mem w0 (td l r::so D::L2) w) (h: ∀r',K r' w0 (td l r'::so D::L2) f):VS w0 l r D K .normal w0' L f:=⟨L2,h1,h2,hm,h⟩
theorem wC {w0 w0':World} {l D:Nat} {r:Loop} {Ln L:List Item} {Ix:Code→List Item→Prop} {f:Fr} (hm: ∀w,Mem w0' L w→Mem w0 (td l r::so D::Ln) w):MS w0 l r D Ln Ix .normal w0' L f:=hm
theorem Rx {α:Type} {c:Cx} {PQ:PJ} {w0:World} {L:List Item} {f:Fr} {gop:Operand} {ps:List Nat} {asg body:Code} {gf:FuncId} {lb:Array Value} {encs:α→Array Value} (xs:List α) (R:World→Prop)
  (Li:List α→List Item) (Ix:Code→List Item→Prop)
  (hro:c.ro=none) (hg:ev f gop= .func (.func gf) #[] lb) (he: ∀args w,(callFunc gf args).run c.P w= .ok (.enter gf args) w)
  (hit:Pc c.P gf lb encs xs R) (hps: ∀x,(encs x).size=ps.length) (hpN:ps.all (fun p=>Nat.blt p c.N)=true)
  (h0: ∀w,Mem w0 L w→Mem w0 (Li []) w) (hmk: ∀pre,marks (Li pre)=marks L) (hix: ∀code L',Ix code L'→marks L'=marks L)
  (hR: ∀pre w,Mem w0 (Li pre) w→R w)
  (round: ∀l D r pre x,(pre++[x])<+:xs→marks L=[]→H ⟨c.P,some l,c.N⟩ asg (VS w0 l r D (fun r'=>H ⟨c.P,some l,c.N⟩ body (MS w0 l r' D (Li (pre++[x])) Ix))) w0 (td l r::so D::Li pre) (PG f ps (encs x).toList))
  (done: ∀D,PQ .normal w0 (Ee D::Li xs) f)
  (stop: ∀D code L',Ix code L'→H c code PQ w0 (Ee D::L') f)
  (hm0:marks L=[]):H c (.rangeFunc gop ps.toArray asg body) PQ w0 L f:=by
 intro a w ha hw;refine wpIn_rangeFunc ?_;intro fn hfn;have hFr:(FW c.ro).round=none:=hro;rw [hFr];obtain ⟨rec,hrec⟩: ∃rec:LoopState→Option Code→Loop,rec=fun st pe=>{state:=st,pending:=pe,fn,tmps:=a.tmps,params:=ps.toArray,assign:=asg,body,defers:=w.heap.size}:=⟨_,rfl⟩;have hw1:Mem w0 (so w.heap.size::Li []) (w.alloc (.deferred (some []))):=(h0 w hw).new _ (so w.heap.size) (fun _ h=>h) (heap_alloc_new w _);have hw2:Mem w0 (td (w.heap.size+1) (rec .ready none)::so w.heap.size::Li []) ((w.alloc (.deferred (some []))).alloc (.loop (rec .ready none))):=by
  have hsz:(w.alloc (.deferred (some []))).heap.size=w.heap.size+1:=by simp
  have:=hw1.new (.loop (rec .ready none)) (td (w.heap.size+1) (rec .ready none)) (fun b h=>by rw [hsz];exact h) (by
   have h3:=heap_alloc_new (w.alloc (.deferred (some []))) (.loop (rec .ready none))
   rwa [hsz] at h3)
  exact this
 generalize hD:w.heap.size=D at*;generalize hW1:(w.alloc (.deferred (some []))).alloc (.loop (rec .ready none))=W1 at*;refine ⟨D+1,[{target:= .collected D,args:= #[]}],W1,{target:= .fn (.func gf) lb,args:= #[.func (.yield (D+1)) #[] #[]]},W1,gf,#[.func (.yield (D+1)) #[] #[]]++lb,W1,?_,?_,fun _ _=>trivial,?_,fun h=>by simp [FW] at h,?_⟩
 ·rw [←hW1,hrec,←hD];exact run_enterLoop_outer _ _ _ _ _
 ·simp only [resolve,ha.eval,hg];simp [Deferred.ofValue,ev]
 ·simp [invoke,he]
 refine nm ((hit (D+1)
  (fun pre W=>Mem w0 (td (D+1) (rec .ready none)::so D::Li pre) W)
  (fun W=> ∃code L',Ix code L'∧Mem w0 (td (D+1) (rec .done (some code))::so D::L') W)
  W1 (hR [] W1 hw2.tail.tail) hw2 (fun pre W W' h hb=>h.call hb) (fun W W' ⟨code,L',h1,h2⟩ hb=>⟨code,L',h1,h2.call hb⟩) ?_).mono ?_)
 ·intro pre x W1 hpre _ hJ;have hy:=run_yield (P:=c.P) (args:=encs x) hJ.rec (by rw [hrec];simp [hps x]);refine ⟨_,_,_,_,hy,?_⟩;rw [hrec];refine roundIn_of_wpIn trivial ?_;have hfr:mr c.N [] {tmps:=(ps.toArray.zip (encs x)).foldl (fun tmps (t,a)=>tmps.setIfInBounds t a) a.tmps,defers:=[]} (PG f ps (encs x).toList):=by
   have h4:=GY (N:=c.N) ps (encs x).toList a.tmps f ha.size ha.get hpN;have h5:ps.toArray.zip (encs x)=(ps.zip (encs x).toList).toArray:=by
    apply WW;simp
   rw [h5];simpa using h4
  have hml:marks (td (D+1) (rec .ready none)::so D::Li pre)=[]:=by
   rw [jN,jN,hmk pre,hm0];rfl
  have hH:=round (D+1) D (rec .ready none) pre x hpre hm0 _ W1 (by rw [hml];exact hfr) hJ;refine wpIn_mono (wO hH) ?_;rintro e a1 w1 ⟨u1,L1,f1,k1,k2,k3⟩;cases e with
  |normal=>
   obtain ⟨L2,hm1,hm2,hmem,hb⟩:=k3
   replace k2:=hmem w1 k2
   rw [hm1] at k1;refine ⟨_,run_beginRound k2.rec (by rw [hrec]),?_⟩;have k4:=k2.wV (r':={rec .ready none with state:= .busy});have hm3:marks (td (D+1) {rec .ready none with state:= .busy}::so D::L2)=[]:=by rw [jN,jN,hm2];rfl
   refine wpIn_mono (wO (hb _ a1 _ (by rw [hm3];exact k1) k4)) ?_;rintro e a2 w2 ⟨u2,L3,f2,j1,j2,j3⟩;cases e with
   |normal=>
    have j4:=j3 w2 j2;refine ⟨_,_,run_endRound (P:=c.P) none j4.rec, .inl ⟨rfl,?_,?_⟩⟩
    ·have j5:=j4.wV (r':=rec .ready none);rw [hrec] at j5⊢;exact j5
    exact hR _ _ j4.wV.tail.tail
   |ret=>
    obtain ⟨L4,hx,j4⟩:=j3;have j5:=j4 w2 j2;refine ⟨_,_,run_endRound (P:=c.P) (some .ret) j5.rec, .inr ⟨rfl, .ret,L4,hx,?_⟩⟩;have j6:=j5.wV (r':=rec .done (some .ret));rw [hrec] at j6⊢;exact j6
   |exit i=>
    obtain ⟨L4,hx,j4⟩:=j3;have j5:=j4 w2 j2;refine ⟨_,_,run_endRound (P:=c.P) (some (.exit i)) j5.rec, .inr ⟨rfl, .exit i,L4,hx,?_⟩⟩;have j6:=j5.wV (r':=rec .done (some (.exit i)));rw [hrec] at j6⊢;exact j6
   |goto l=>exact j3.elim
   |panic ch=>exact j3.elim
   |outgrown=>exact j3.elim
  |exit i=>exact k3.elim
  |goto l=>exact k3.elim
  |ret=>exact k3.elim
  |panic ch=>exact k3.elim
  |outgrown=>exact k3.elim
 rintro e W2 ⟨rfl,hJ|⟨code,L',hx,hJ⟩⟩
 ·refine ⟨none,_,by
   have h6:=run_endLoop (P:=c.P) hJ.rec (by rw [hrec];simp);rw [hrec] at h6;exact h6,?_⟩
  have h7:=(hJ.wV (r':={rec .ready none with state:= .exhausted})).tail;rw [hrec] at h7;refine ⟨w0,Ee D::Li xs,f,⟨ha.size,ha.get,?_⟩,⟨h7.1,?_,?_,?_⟩,done D⟩
  ·rw [jN,hmk];show _++a.defers=_;rw [ha.defers];rfl
  ·intro it hi;rcases bU.1 hi with rfl|hi
   ·exact h7.2.1 (so D) (bF ..)
   exact h7.2.1 it (aB _ hi)
  ·intro it hi b hb;rcases bU.1 hi with rfl|hi
   ·exact h7.2.2.1 (so D) (bF ..) b hb
   exact h7.2.2.1 it (aB _ hi) b hb
  exact bL.2 ⟨(bL.1 h7.2.2.2).1,(bL.1 h7.2.2.2).2⟩
 refine ⟨some code,_,by
  have h6:=run_endLoop (P:=c.P) hJ.rec (by rw [hrec];simp);rw [hrec] at h6;exact h6,?_⟩
 have h7:=(hJ.wV (r':={rec .done (some code) with state:= .exhausted})).tail;rw [hrec] at h7;refine wO (stop D code L' hx _ _ ⟨ha.size,ha.get,?_⟩ ⟨h7.1,?_,?_,?_⟩)
 ·rw [jN,hix code L' hx];show _++a.defers=_;rw [ha.defers];rfl
 ·intro it hi;rcases bU.1 hi with rfl|hi
  ·exact h7.2.1 (so D) (bF ..)
  exact h7.2.1 it (aB _ hi)
 ·intro it hi b hb;rcases bU.1 hi with rfl|hi
  ·exact h7.2.2.1 (so D) (bF ..) b hb
  exact h7.2.2.1 it (aB _ hi) b hb
 exact bL.2 ⟨(bL.1 h7.2.2.2).1,(bL.1 h7.2.2.2).2⟩
theorem Rt {c:Cx} {PQ:PJ} {w0:World} {L:List Item} {f:Fr} {ops rest:List Oper} {d t l:Nat} {ty:TypeId} {pos:String} {af:Array Edge} {gu:Option (Nat×Bool)} {g:Bool} {ao:Array Operand} {ts:Array TypeId} {al:List Value} {A B:World→Prop}
  (hg:Gd f gu (ops.map (·.dst)) g) (hx:gw g f (.tmp t) (.func (.yield l) #[] #[])) (ha:g=true→ao.toList.map (ev f)=al) (hd:Nat.blt d c.N=true) (hk:marks L=[])
  (hy:g=true→ ∀w,Mem w0 L w→YieldAt (FW none) 0 c.P l al.toArray w fun e W'=>(e= .returned (.bool true)∧A W')∨(e= .returned (.bool false)∧B W'))
  (n0:g=false→XL false c ops rest PQ w0 L (kX f d (gv g (.bool true))))
  (n1:g=true→ ∀W,A W→XL false c ops rest PQ W [] (kX f d (gv g (.bool true))))
  (n2:g=true→ ∀W,B W→XL false c ops rest PQ W [] (kX f d (gv g (.bool false)))):
  XL false c ops (⟨some d, .call {callee:= .value (.tmp t),args:=ao,argTypes:=ts},ty,pos,af,gu⟩::rest) PQ w0 L f:=by
 intro a w hfr hw;show if _ then _ else _
 rw [o7 hfr];show if gd f gu _=true then _ else _
 rw [show gd f gu (ops.map (·.dst))=g from hg];cases g with
 |false=>exact ⟨fun _ _=>trivial,n0 rfl _ _ (by rw [GR];exact hfr.put hd undef) hw⟩
 |true=>
  rw [av rfl];refine ⟨fun _ _=>trivial,?_⟩;obtain ⟨fn,tmps,assign,body,hrun,hround⟩:=hy rfl w hw;have hx':=hx rfl;have ha':ao.map (ev f)=al.toArray:=by rw [Ci,ha rfl]
  rw [Oper.semAt_eq _ _ _ (fun x=>by simp),hfr.eval];have he:(execOp (ev f) ⟨some d, .call {callee:= .value (.tmp t),args:=ao,argTypes:=ts},ty,pos,af,gu⟩).run c.P w= .ok (.round l fn tmps assign body) w:=by
   simp [execOp,resolve,hx',Deferred.ofValue,invoke,ha',hrun]
  rw [he];refine ⟨fun h=>by simp [FW] at h,?_⟩;have hR:RoundIn (FW c.ro) 0 c.P l fn tmps assign body w _:=hround;refine RoundIn.mono hR ?_;rintro e W' (⟨rfl,hA⟩|⟨rfl,hB⟩)
  ·exact n1 rfl W' hA _ _ (by have:=hfr.put hd (.bool true);rw [hk] at this;rw [pE];exact this) (Mem.start W')
  exact n2 rfl W' hB _ _ (by have:=hfr.put hd (.bool false);rw [hk] at this;rw [pE];exact this) (Mem.start W')
section
variable {c:Cx} {w0:World} {L:List Item} {f:Fr} {ty t:TypeId} {g:Bool} {x:Operand} {v:Value}
theorem eL {p:Addr} (ht: ∀w,(isAgg t).run c.P w= .ok false w) (hx:gw g f x (.pointer (some p))) (hc:g=true→ ∀w,Mem w0 L w→w.cell? p=some v:=by first|exact bx 0 rfl rfl|exact bx 1 rfl rfl|exact bx 2 rfl rfl|exact bx 3 rfl rfl|exact bx 4 rfl rfl|exact bx 5 rfl rfl|exact bx 6 rfl rfl|exact bx 7 rfl rfl|exact bx 8 rfl rfl|exact bx 9 rfl rfl|exact bx 10 rfl rfl|exact bx 11 rfl rfl|exact bx 12 rfl rfl|exact bx 13 rfl rfl|exact rc ‹_› ‹_› rfl|exact BR ‹_› ‹_› rfl|exact xc ‹_› ‹_›|exact rr 0 rfl ‹_› rfl|exact oR 0 rfl ‹_› rfl|exact rr 1 rfl ‹_› rfl|exact oR 1 rfl ‹_› rfl|exact rr 2 rfl ‹_› rfl|exact oR 2 rfl ‹_› rfl|exact rr 3 rfl ‹_› rfl|exact oR 3 rfl ‹_› rfl|exact rr 4 rfl ‹_› rfl|exact oR 4 rfl ‹_› rfl|exact rr 5 rfl ‹_› rfl|exact oR 5 rfl ‹_› rfl|exact rr 6 rfl ‹_› rfl|exact oR 6 rfl ‹_› rfl|exact rr 7 rfl ‹_› rfl|exact oR 7 rfl ‹_› rfl|exact rr 8 rfl ‹_› rfl|exact oR 8 rfl ‹_› rfl|exact rr 9 rfl ‹_› rfl|exact oR 9 rfl ‹_› rfl|exact rr 10 rfl ‹_› rfl|exact oR 10 rfl ‹_› rfl|exact rr 11 rfl ‹_› rfl|exact oR 11 rfl ‹_› rfl):iO g c w0 L f (.load t x) ty v:=ea ht hx hc
theorem eS {b o n:Nat} {vs:List Value} (ht: ∀w,(isAgg t).run c.P w= .ok true w) (hs: ∀w,(sizeOf t).run c.P w= .ok n w) (hx:gw g f x (.pointer (some ⟨b,o,none⟩)))
  (hc:g=true→ ∀w,Mem w0 L w→ ∀j u,vs[j]?=some u→w.cell? ⟨b,o+j,none⟩=some u:=by first|exact r2 0 rfl|exact r2 1 rfl|exact r2 2 rfl|exact r2 3 rfl|exact r2 4 rfl|exact r2 5 rfl|exact r2 6 rfl|exact r2 7 rfl|exact r2 8 rfl|exact r2 9 rfl|exact r2 10 rfl|exact r2 11 rfl|exact r2 12 rfl|exact r2 13 rfl|exact MY ‹_› ‹_›|exact sf 0 rfl ‹_›|exact sf 1 rfl ‹_›|exact sf 2 rfl ‹_›|exact sf 3 rfl ‹_›|exact sf 4 rfl ‹_›|exact sf 5 rfl ‹_›|exact sf 6 rfl ‹_›|exact sf 7 rfl ‹_›|exact sf 8 rfl ‹_›|exact sf 9 rfl ‹_›|exact sf 10 rfl ‹_›|exact sf 11 rfl ‹_›) (hl:vs.length=n:=by rfl):iO g c w0 L f (.load t x) ty (.agg vs.toArray):=km ht hs hx hc hl
end
section
variable {c:Cx} {PQ:PJ} {w0:World} {L:List Item} {f:Fr} {ops rest:List Oper} {ty:TypeId} {pos:String} {af:Array Edge} {x y:Operand} {K:List Item→Fr→Prop}
theorem fI {k:Nat} {t tb:TypeId} {v:Value} {b o n:Nat} {cs:List Value} (hx:ev f x= .pointer (some ⟨b,o,none⟩)) (hy:ev f y=v) (hs: ∀w,(sizeOf t).run c.P w= .ok n w) (next:XL false c ops rest PQ w0 (L.set k (box b tb (setAt cs o v.cells.toList))) f)
  (hk:L[k]?=some (box b tb cs):=by first|exact (show _[0]?=_ from rfl)|exact (show _[1]?=_ from rfl)|exact (show _[2]?=_ from rfl)|exact (show _[3]?=_ from rfl)|exact (show _[4]?=_ from rfl)|exact (show _[5]?=_ from rfl)|exact (show _[6]?=_ from rfl)|exact (show _[7]?=_ from rfl)|exact (show _[8]?=_ from rfl)|exact (show _[9]?=_ from rfl)|exact (show _[10]?=_ from rfl)|exact (show _[11]?=_ from rfl)|exact (show _[12]?=_ from rfl)|exact (show _[13]?=_ from rfl)) (hn:v.cells.size=n:=by rfl) (h1:v.cells.toList.all kI=true:=by rfl) (hl:Nat.ble (o+v.cells.toList.length) cs.length=true:=by rfl):
  XL false c ops (⟨none, .store t x y,ty,pos,af,none⟩::rest) PQ w0 L f:=Ru k hx hy hs hn h1 hk hl next
theorem kU {k:Nat} {t tb:TypeId} {v:Value} {b o n:Nat} {cs:List Value} (hx:ev f x= .pointer (some ⟨b,o,none⟩)) (hy:ev f y=v) (hs: ∀w,(sizeOf t).run c.P w= .ok n w) (next:K (L.set k (box b tb (setAt cs o v.cells.toList))) f)
  (hk:L[k]?=some (box b tb cs):=by first|exact (show _[0]?=_ from rfl)|exact (show _[1]?=_ from rfl)|exact (show _[2]?=_ from rfl)|exact (show _[3]?=_ from rfl)|exact (show _[4]?=_ from rfl)|exact (show _[5]?=_ from rfl)|exact (show _[6]?=_ from rfl)|exact (show _[7]?=_ from rfl)|exact (show _[8]?=_ from rfl)|exact (show _[9]?=_ from rfl)|exact (show _[10]?=_ from rfl)|exact (show _[11]?=_ from rfl)|exact (show _[12]?=_ from rfl)|exact (show _[13]?=_ from rfl)) (hn:v.cells.size=n:=by rfl) (h1:v.cells.toList.all kI=true:=by rfl) (hl:Nat.ble (o+v.cells.toList.length) cs.length=true:=by rfl):
  uz c w0 L f ⟨none, .store t x y,ty,pos,af,none⟩ K:=qz k hx hy hs hn h1 hk hl next
end
end Go.Proofs.E
namespace Go.Proofs.E
open Go Go.RowKit
class US (P:Program) (t:TypeId) (l:outParam (List (Nat×Nat))):Prop where h: ∃fs:Array Field,P.underlying t=some (.struct fs)∧fs.toList.map (fun f=>(f.offset,f.type))=l
class UL (P:Program) (t:TypeId) (e:outParam TypeId):Prop where h:P.underlying t=some (.slice e)
class rH (P:Program) (t:TypeId) (n:outParam Nat):Prop where h: ∀w,(sizeOf t).run P w= .ok n w
class zW (P:Program) (t:TypeId):Prop where h: ∀w,(isAgg t).run P w= .ok false w
class Dr (P:Program) (t:TypeId):Prop where h: ∀w,(isAgg t).run P w= .ok true w
section
variable {c:Cx} {w0:World} {L:List Item} {f:Fr} {ty:TypeId} {g:Bool} {x y:Operand} {v:Value}
theorem Fa {t:TypeId} {i b o sz n ft:Nat} {l:List (Nat×Nat)} [ht:US c.P t l] (hf:l[i]?=some (n,ft):=by rfl) (hx:gw g f x (.pointer (some ⟨b,o,none⟩)):=by first|exact q0 rfl|exact q1 rfl) (hs:rH c.P ft sz:=by infer_instance) (hz:Nat.blt 0 sz=true:=by rfl):iO g c w0 L f (.fieldAddr t x i) ty (.pointer (some ⟨b,o+n,none⟩)):=by
 obtain ⟨fs,h1,h2⟩:=ht.h;rw [←h2,bf,Option.map_eq_some_iff] at hf;obtain ⟨fl,h3,h4⟩:=hf;cases h4;exact cR (fl:=fl) h1 (by rw [←FL];exact h3) hs.h hz hx
theorem Ix {t e:TypeId} {m:Int} (k:Nat) {b o n p sz:Nat} [ht:UL c.P t e] [hs:rH c.P e sz] (hx:gw g f x (.slice (some ⟨b,o,none⟩) n p):=by first|exact q0 rfl|exact q1 rfl) (hi:gw g f y (.int .i64 m):=by first|exact q0 rfl|exact q1 rfl) (hm:m=(k:Int):=by rfl) (hk:k<n:=by omega):iO g c w0 L f (.indexAddr t x y) ty (.pointer (some ⟨b,o+k*sz,none⟩)):=bt k ht.h hs.h hx hi (fun _=>⟨hm,hk⟩)
theorem Ln {t e:TypeId} {A:Option Addr} {n p:Nat} [ht:UL c.P t e] (hx:gw g f x (.slice A n p):=by first|exact q0 rfl|exact q1 rfl):iO g c w0 L f (.call {callee:= .builtin .len,args:= #[x],argTypes:= #[t]}) ty (.int .i64 n):=tl ht.h hx
theorem Xt {i:Nat} {vs:Array Value} (hx:gw g f x (.tuple vs):=by first|exact q0 rfl|exact q1 rfl) (hi:vs[i]?=some v:=by rfl):iO g c w0 L f (.extract x i) ty v:=JV hx hi
theorem No {t:TypeId} {b:Bool} (hx:gw g f x (.bool b):=by first|exact q0 rfl|exact q1 rfl):iO g c w0 L f (.unOp .not t x) ty (.bool (!b)):=rz hx
theorem Oo {b z g2:Bool} (hx:gw g f x (.bool b):=by first|exact q0 rfl|exact q1 rfl) (hy:ev f y=gv g2 (.bool z):=by rfl) (hg:g=true→g2=!b:=by exact fun h=>by first|rfl|(rw [h];rfl)):iO g c w0 L f (.pick x (.const (.bool true)) y) ty (.bool (b||z)):=u9 hx hy hg
theorem Nn {b z g2:Bool} (hx:gw g f x (.bool b):=by first|exact q0 rfl|exact q1 rfl) (hy:ev f y=gv g2 (.bool z):=by rfl) (hg:g=true→g2=b:=by exact fun h=>by first|rfl|(rw [h];rfl)):iO g c w0 L f (.pick x y (.const (.bool false))) ty (.bool (b&&z)):=pT hx hy hg
theorem Ll {t:TypeId} {p:Addr} [ht:zW c.P t] (hx:gw g f x (.pointer (some p)):=by first|exact q0 rfl|exact q1 rfl) (hc:g=true→ ∀w,Mem w0 L w→w.cell? p=some v:=by first|exact bx 0 rfl rfl|exact bx 1 rfl rfl|exact bx 2 rfl rfl|exact bx 3 rfl rfl|exact bx 4 rfl rfl|exact bx 5 rfl rfl|exact bx 6 rfl rfl|exact bx 7 rfl rfl|exact bx 8 rfl rfl|exact bx 9 rfl rfl|exact bx 10 rfl rfl|exact bx 11 rfl rfl|exact bx 12 rfl rfl|exact bx 13 rfl rfl|exact rc ‹_› ‹_› rfl|exact BR ‹_› ‹_› rfl|exact xc ‹_› ‹_›|exact rr 0 rfl ‹_› rfl|exact oR 0 rfl ‹_› rfl|exact rr 1 rfl ‹_› rfl|exact oR 1 rfl ‹_› rfl|exact rr 2 rfl ‹_› rfl|exact oR 2 rfl ‹_› rfl|exact rr 3 rfl ‹_› rfl|exact oR 3 rfl ‹_› rfl|exact rr 4 rfl ‹_› rfl|exact oR 4 rfl ‹_› rfl|exact rr 5 rfl ‹_› rfl|exact oR 5 rfl ‹_› rfl|exact rr 6 rfl ‹_› rfl|exact oR 6 rfl ‹_› rfl|exact rr 7 rfl ‹_› rfl|exact oR 7 rfl ‹_› rfl|exact rr 8 rfl ‹_› rfl|exact oR 8 rfl ‹_› rfl|exact rr 9 rfl ‹_› rfl|exact oR 9 rfl ‹_› rfl|exact rr 10 rfl ‹_› rfl|exact oR 10 rfl ‹_› rfl|exact rr 11 rfl ‹_› rfl|exact oR 11 rfl ‹_› rfl):iO g c w0 L f (.load t x) ty v:=ea ht.h hx hc
theorem Ls {t:TypeId} {b o n:Nat} {vs:List Value} [ht:Dr c.P t] [hs:rH c.P t n] (hx:gw g f x (.pointer (some ⟨b,o,none⟩)):=by first|exact q0 rfl|exact q1 rfl) (hc:g=true→ ∀w,Mem w0 L w→ ∀j u,vs[j]?=some u→w.cell? ⟨b,o+j,none⟩=some u:=by first|exact r2 0 rfl|exact r2 1 rfl|exact r2 2 rfl|exact r2 3 rfl|exact r2 4 rfl|exact r2 5 rfl|exact r2 6 rfl|exact r2 7 rfl|exact r2 8 rfl|exact r2 9 rfl|exact r2 10 rfl|exact r2 11 rfl|exact r2 12 rfl|exact r2 13 rfl|exact MY ‹_› ‹_›|exact sf 0 rfl ‹_›|exact sf 1 rfl ‹_›|exact sf 2 rfl ‹_›|exact sf 3 rfl ‹_›|exact sf 4 rfl ‹_›|exact sf 5 rfl ‹_›|exact sf 6 rfl ‹_›|exact sf 7 rfl ‹_›|exact sf 8 rfl ‹_›|exact sf 9 rfl ‹_›|exact sf 10 rfl ‹_›|exact sf 11 rfl ‹_›) (hl:vs.length=n:=by rfl):iO g c w0 L f (.load t x) ty (.agg vs.toArray):=km ht.h hs.h hx hc hl
section
variable {t t2:TypeId} {k:IntKind} {m n:Int}
theorem Lt (hx:gw g f x (.int k m):=by first|exact q0 rfl|exact q1 rfl) (hy:gw g f y (.int k n):=by first|exact q0 rfl|exact q1 rfl):iO g c w0 L f (.binOp .lss t x y t2) ty (.bool (decide (m<n))):=vd hx hy
theorem Tm (hx:gw g f x (.int k m):=by first|exact q0 rfl|exact q1 rfl) (hy:gw g f y (.int k n):=by first|exact q0 rfl|exact q1 rfl):iO g c w0 L f (.binOp .leq t x y t2) ty (.bool (decide (m≤n))):=Oh hx hy
theorem Tg (hx:gw g f x (.int k m):=by first|exact q0 rfl|exact q1 rfl) (hy:gw g f y (.int k n):=by first|exact q0 rfl|exact q1 rfl):iO g c w0 L f (.binOp .gtr t x y t2) ty (.bool (decide (n<m))):=Dl hx hy
theorem Th (hx:gw g f x (.int k m):=by first|exact q0 rfl|exact q1 rfl) (hy:gw g f y (.int k n):=by first|exact q0 rfl|exact q1 rfl):iO g c w0 L f (.binOp .geq t x y t2) ty (.bool (decide (n≤m))):=WG hx hy
theorem Te (hx:gw g f x (.int k m):=by first|exact q0 rfl|exact q1 rfl) (hy:gw g f y (.int k n):=by first|exact q0 rfl|exact q1 rfl):iO g c w0 L f (.binOp .eql t x y t2) ty (.bool (decide (m=n))):=AL hx hy
theorem Tn (hx:gw g f x (.int k m):=by first|exact q0 rfl|exact q1 rfl) (hy:gw g f y (.int k n):=by first|exact q0 rfl|exact q1 rfl):iO g c w0 L f (.binOp .neq t x y t2) ty (.bool (!decide (m=n))):=Of hx hy
theorem Ad (hx:gw g f x (.int .i64 m):=by first|exact q0 rfl|exact q1 rfl) (hy:gw g f y (.int .i64 n):=by first|exact q0 rfl|exact q1 rfl) (h1: -9223372036854775808≤m+n:=by omega) (h2:m+n≤9223372036854775807:=by omega):iO g c w0 L f (.binOp .add t x y t2) ty (.int .i64 (m+n)):=rB hx hy fun _=>⟨rfl,h1,h2⟩
theorem Su (hx:gw g f x (.int .i64 m):=by first|exact q0 rfl|exact q1 rfl) (hy:gw g f y (.int .i64 n):=by first|exact q0 rfl|exact q1 rfl) (h1: -9223372036854775808≤m -n:=by omega) (h2:m -n≤9223372036854775807:=by omega):iO g c w0 L f (.binOp .sub t x y t2) ty (.int .i64 (m -n)):=ou hx hy fun _=>⟨rfl,h1,h2⟩
end
end
section
variable {c:Cx} {PQ:PJ} {dr:Bool} {w0:World} {L:List Item} {f:Fr} {ops rest:List Oper} {d:Nat} {ty:TypeId} {pos:String} {af:Array Edge} {v:Value}
def L6 (ops:List Oper) (f:Fr) (j:Nat):Value:=match (ops.map (·.dst))[j]? with|some (some e)=>f e|_=>undef
theorem NN {ops:List Oper} {f:Fr} {j:Nat} {v:Value} (h:L6 ops f j=v) (hu:v≠undef): ∃e,(ops.map (·.dst))[j]?=some (some e)∧f e=v:=by
 unfold L6 at h;split at h
 ·rename_i e he;exact ⟨e,he,h⟩
 exact absurd h.symm hu
theorem Wy {ops:List Oper} {f:Fr} {j:Nat} {b:Bool} (h:L6 ops f j= .bool b):Gd f (some (j,true)) (ops.map (·.dst)) b:=by
 obtain ⟨e,he,hf⟩:=NN h (by simp [undef]);exact r5 he hf
theorem Wz {ops:List Oper} {f:Fr} {j:Nat} {b:Bool} (h:L6 ops f j= .bool b):Gd f (some (j,false)) (ops.map (·.dst)) (!b):=by
 obtain ⟨e,he,hf⟩:=NN h (by simp [undef]);exact tz he hf
theorem Vk {ops:List Oper} {f:Fr} {j:Nat} {b g:Bool} (h:L6 ops f j=gv g (.bool b)):Gd f (some (j,true)) (ops.map (·.dst)) (g&&b):=by
 unfold L6 at h;split at h
 ·rename_i e he;exact HB he h
 rename_i hne;cases g
 ·show (match (ops.map (·.dst))[j]? with|some (some d)=>QC (f d) true|_=>false)=false;generalize (ops.map (·.dst))[j]?=q at hne⊢;cases q with
  |none=>rfl
  |some o=>
   cases o with
   |none=>rfl
   |some e=>exact absurd rfl (hne e)
 rw [pE] at h;exact absurd h (by simp [undef])
theorem Vl {ops:List Oper} {f:Fr} {j:Nat} {b g:Bool} (h:L6 ops f j=gv g (.bool b)):Gd f (some (j,false)) (ops.map (·.dst)) (g&&!b):=by
 unfold L6 at h;split at h
 ·rename_i e he;exact Et he h
 rename_i hne;cases g
 ·show (match (ops.map (·.dst))[j]? with|some (some d)=>QC (f d) false|_=>false)=false;generalize (ops.map (·.dst))[j]?=q at hne⊢;cases q with
  |none=>rfl
  |some o=>
   cases o with
   |none=>rfl
   |some e=>exact absurd rfl (hne e)
 rw [pE] at h;exact absurd h (by simp [undef])
theorem yt {op:Op} {j:Nat} {b:Bool} (hx:L6 ops f j= .bool b) (hev:iO b c w0 L f op ty v) (next:XL dr c ops rest PQ w0 L (kX f d (gv b v))) (hnd:dI op=false:=by rfl) (hd:Nat.blt d c.N=true:=by rfl):XL dr c ops (⟨some d,op,ty,pos,af,some (j,true)⟩::rest) PQ w0 L f:=XV (Wy hx) hnd hev hd next
theorem yf {op:Op} {j:Nat} {b:Bool} (hx:L6 ops f j= .bool b) (hev:iO (!b) c w0 L f op ty v) (next:XL dr c ops rest PQ w0 L (kX f d (gv (!b) v))) (hnd:dI op=false:=by rfl) (hd:Nat.blt d c.N=true:=by rfl):XL dr c ops (⟨some d,op,ty,pos,af,some (j,false)⟩::rest) PQ w0 L f:=XV (Wz hx) hnd hev hd next
theorem yt2 {op:Op} {j:Nat} {b g:Bool} (hx:L6 ops f j=gv g (.bool b)) (hev:iO (g&&b) c w0 L f op ty v) (next:XL dr c ops rest PQ w0 L (kX f d (gv (g&&b) v))) (hnd:dI op=false:=by rfl) (hd:Nat.blt d c.N=true:=by rfl):XL dr c ops (⟨some d,op,ty,pos,af,some (j,true)⟩::rest) PQ w0 L f:=XV (Vk hx) hnd hev hd next
theorem yf2 {op:Op} {j:Nat} {b g:Bool} (hx:L6 ops f j=gv g (.bool b)) (hev:iO (g&&!b) c w0 L f op ty v) (next:XL dr c ops rest PQ w0 L (kX f d (gv (g&&!b) v))) (hnd:dI op=false:=by rfl) (hd:Nat.blt d c.N=true:=by rfl):XL dr c ops (⟨some d,op,ty,pos,af,some (j,false)⟩::rest) PQ w0 L f:=XV (Vl hx) hnd hev hd next
end
section
variable {c:Cx} {PQ:PJ} {w0:World} {L:List Item} {f:Fr}
end
end Go.Proofs.E
namespace Go.Proofs.E
open Go Go.RowKit
section
variable {c:Cx} {PQ:PJ} {dr:Bool} {w0:World} {L:List Item} {f:Fr} {ops rest:List Oper} {d:Nat} {ty:TypeId} {pos:String} {af:Array Edge} {v:Value} {op:Op} {x:Operand} {g:Bool}
theorem mw (h:ev f x=v:=by conv=>lhs;whnf):iO g c w0 L f (.move x) ty v:=ez (q0 h)
theorem aw (h:ev f x=v:=by conv=>lhs;whnf):iO g c w0 L f (.assign x) ty v:=gZ (q0 h)
theorem Nz {p:Addr} (hx:gw g f x (.pointer (some p)):=by first|exact q0 rfl|exact q1 rfl):iO g c w0 L f (.nilCheck x) ty (.pointer (some p)):=xk hx
theorem eg (h:iO g c w0 L f op ty v:=by first|exact mw|exact aw|exact Fa|exact Ll|exact Ls|exact Ln|exact Xt|exact Te|exact Tn|exact Lt|exact Tm|exact Tg|exact Th|exact Ad|exact Su|exact No|exact Oo|exact Nn|exact Nz|exact Ix _):iO g c w0 L f op ty v:=h
theorem eo (h:iO true c w0 L f op ty v:=by first|exact mw|exact aw|exact Fa|exact Ll|exact Ls|exact Ln|exact Xt|exact Te|exact Tn|exact Lt|exact Tm|exact Tg|exact Th|exact Ad|exact Su|exact No|exact Oo|exact Nn|exact Nz|exact Ix _):iO true c w0 L f op ty v:=h
end
section
variable {c:Cx} {PQ:PJ} {dr:Bool} {w0:World} {L:List Item} {f:Fr} {ops rest:List Oper} {d:Nat} {ty:TypeId} {pos:String} {af:Array Edge} {v:Value} {op:Op} {j e:Nat} {b g:Bool} {k:FuncId} {args:Array Value}
theorem bO (hev:iO true c w0 L f op ty v) (next:XL dr c ops rest PQ w0 L (kX f d v)) (hnd:dI op=false:=by rfl) (hd:Nat.blt d c.N=true:=by rfl):XL dr c ops (⟨some d,op,ty,pos,af,none⟩::rest) PQ w0 L f:=xV hev hnd hd next
theorem qV (hev:iO b c w0 L f op ty v) (hj:(ops.map (·.dst))[j]?=some (some e)) (hx:f e= .bool b) (next:XL dr c ops rest PQ w0 L (kX f d (gv b v))) (hnd:dI op=false:=by rfl) (hd:Nat.blt d c.N=true:=by rfl):XL dr c ops (⟨some d,op,ty,pos,af,some (j,true)⟩::rest) PQ w0 L f:=rF hev hj hx hnd hd next
theorem L0 (hev:iO (!b) c w0 L f op ty v) (hj:(ops.map (·.dst))[j]?=some (some e)) (hx:f e= .bool b) (next:XL dr c ops rest PQ w0 L (kX f d (gv (!b) v))) (hnd:dI op=false:=by rfl) (hd:Nat.blt d c.N=true:=by rfl):XL dr c ops (⟨some d,op,ty,pos,af,some (j,false)⟩::rest) PQ w0 L f:=oQ hev hj hx hnd hd next
theorem zzD (hev:iO (g&&b) c w0 L f op ty v) (hj:(ops.map (·.dst))[j]?=some (some e)) (hx:f e=gv g (.bool b)) (next:XL dr c ops rest PQ w0 L (kX f d (gv (g&&b) v))) (hnd:dI op=false:=by rfl) (hd:Nat.blt d c.N=true:=by rfl):XL dr c ops (⟨some d,op,ty,pos,af,some (j,true)⟩::rest) PQ w0 L f:=kr hev hj hx hnd hd next
theorem zzE (hev:iO (g&&!b) c w0 L f op ty v) (hj:(ops.map (·.dst))[j]?=some (some e)) (hx:f e=gv g (.bool b)) (next:XL dr c ops rest PQ w0 L (kX f d (gv (g&&!b) v))) (hnd:dI op=false:=by rfl) (hd:Nat.blt d c.N=true:=by rfl):XL dr c ops (⟨some d,op,ty,pos,af,some (j,false)⟩::rest) PQ w0 L f:=p4 hev hj hx hnd hd next
theorem gV (hen:mG true c w0 L f op ty k args) (hc:true=true→ ∀w,Mem w0 L w→Calls c.P k args w fun e w'=>e= .returned v∧gz w w') (next:XL dr c ops rest PQ w0 L (kX f d v)) (hnd:dI op=false:=by rfl) (hd:Nat.blt d c.N=true:=by rfl):XL dr c ops (⟨some d,op,ty,pos,af,none⟩::rest) PQ w0 L f:=xC hen hc hnd hd next
theorem tB {id:Nat} {ops:List Oper} (h:XL true c ops ops PQ w0 L f) (hm:c.P.follows .mixedOrders=true:=by rfl) (hB:(Region.lexB .any ops.toArray&&ops.all (fun o=>!dI o.op))=true:=by decide+kernel):H c (.region id ops.toArray true) PQ w0 L f:=R1 hm hB h
theorem AQ {id:Nat} {ops:List Oper} (h:XA c ops L ops.length [] PQ w0 L f) (hm:c.P.follows .mixedOrders=true:=by rfl) (hB:(ops.all (fun o=>!dI o.op))=true:=by decide+kernel):H c (.region id ops.toArray true) PQ w0 L f:=RA hm hB h
theorem zd (k:Nat) {id:Nat} {ops:List Oper} (h:XA c ops (L.drop k) ops.length [] PQ w0 L f) (hm:c.P.follows .mixedOrders=true:=by rfl) (hB:(ops.all (fun o=>!dI o.op))=true:=by decide+kernel):H c (.region id ops.toArray true) PQ w0 L f:=RAd k hm hB h
end
theorem G {P Q:Prop} (h:P) (e:P→Q:=by (intro h;first|with_reducible exact az h|with_reducible exact cr h|with_reducible exact R0 h|with_reducible exact XN h|with_reducible exact jV h|with_reducible exact dH h|with_reducible exact iS h|with_reducible exact l0 h|with_reducible exact fD h|with_reducible exact iV h|with_reducible exact mA h|with_reducible exact xD h|with_reducible exact nn h|with_reducible exact mZ h|with_reducible exact ng h|with_reducible exact Hs rfl h|exact xv eo h|exact yt rfl eg h|exact yf rfl eg h|exact yt2 rfl eg h|exact yf2 rfl eg h|exact XN h|exact R0 h|exact cr h|exact az h)):Q:=e h
section
variable {c:Cx} {PQ:PJ} {w0:World} {L Lb:List Item} {f:Fr} {ops:List Oper} {fuel:Nat} {listed:List Nat} {d:Nat} {ty:TypeId} {pos:String} {af:Array Edge} {v:Value} {op:Op} {g:Bool}
theorem aW (i:Nat) (next:XA c ops Lb fuel (i::listed) PQ w0 L (kX f d v)) (hi:ops[i]?=some ⟨some d,op,ty,pos,af,none⟩:=by rfl) (hev:iO true c w0 Lb f op ty v:=by exact eo) (hok:okF ops listed i=true:=by decide+kernel) (hd:Nat.blt d c.N=true:=by rfl):XA c ops Lb (fuel+1) listed PQ w0 L f:=aV i hok hi hev hd next
theorem r1 (i n:Nat) (h:LX c ops Lb fuel listed i PQ w0 L f) (hs:Lb=L.drop n:=by rfl) (hr:(Region.ready .any ops.toArray (arr ops.length listed)==[i])=true:=by decide+kernel):XA c ops Lb (fuel+1) listed PQ w0 L f:=Wu hr (hs▸bK n) h
theorem iQ (i:Nat) (hi:ops[i]?=some ⟨some d,op,ty,pos,af,none⟩) (hev:iO true c w0 Lb f op ty v) (next:XA c ops Lb fuel (i::listed) PQ w0 L (kX f d v)) (hok:okF ops listed i=true:=by decide+kernel) (hd:Nat.blt d c.N=true:=by rfl):XA c ops Lb (fuel+1) listed PQ w0 L f:=aV i hok hi hev hd next
theorem jz (n:Nat) (h:PQ .normal w0 L f) (hs:Lb=L.drop n:=by rfl) (hr:(Region.ready .any ops.toArray (arr ops.length listed)).isEmpty=true:=by decide+kernel):XA c ops Lb 0 listed PQ w0 L f:=aZ hr (hs▸bK n) h
theorem cb {p:Addr} (h:g=true→ ∀w,Mem w0 L w→w.cell? p=some v:=by first|exact bx 0 rfl rfl|exact bx 1 rfl rfl|exact bx 2 rfl rfl|exact bx 3 rfl rfl|exact bx 4 rfl rfl|exact bx 5 rfl rfl|exact bx 6 rfl rfl|exact bx 7 rfl rfl|exact bx 8 rfl rfl|exact bx 9 rfl rfl|exact rc ‹_› ‹_› rfl|exact BR ‹_› ‹_› rfl|exact xc ‹_› ‹_›|exact rr 0 rfl ‹_› rfl|exact oR 0 rfl ‹_› rfl|exact rr 1 rfl ‹_› rfl|exact oR 1 rfl ‹_› rfl|exact rr 2 rfl ‹_› rfl|exact oR 2 rfl ‹_› rfl|exact rr 3 rfl ‹_› rfl|exact oR 3 rfl ‹_› rfl|exact rr 4 rfl ‹_› rfl|exact oR 4 rfl ‹_› rfl|exact rr 5 rfl ‹_› rfl|exact oR 5 rfl ‹_› rfl|exact rr 6 rfl ‹_› rfl|exact oR 6 rfl ‹_› rfl|exact rr 7 rfl ‹_› rfl|exact oR 7 rfl ‹_› rfl):g=true→ ∀w,Mem w0 L w→w.cell? p=some v:=h
end
end Go.Proofs.E
namespace Go.Proofs.Far
structure Tf where
 from_:Int
 unlock:Int
 step:Int
 free:Int
 Aj:Int
 oZ:Int
deriving DecidableEq,Inhabited
def yB (n lo hi:Int):Bool:=decide (lo≤n)&&decide (n≤hi)
def pM (t:Tf):Bool:=((((yB t.from_ 0 4294943999&&yB t.unlock 0 1000000)&&yB t.Aj 0 1000000)&&yB t.oZ 0 1000000)&&yB t.step 1 86400)&&yB t.free 0 86400
def Bw:Option Tf→Tf→Bool
 |none,t=>decide (t.from_≠0)
 |some q,t=>decide (t.from_≤q.from_)
def la:Option Tf→List Tf→Int
 |_,[]=>0
 |p,t::l=>
  if pM t=false then 1
  else if Bw p t=true then 9
  else la (some t) l
def lG (l:List Tf):Int:=if l.length=0 then 10 else if 8<l.length then 8 else la none l
def Pp (t:Int):Nat→Nat→List Tf→Nat
 |a,_,[]=>a
 |a,k,x::l=>Pp t (if x.from_≤t then k else a) (k+1) l
def Em (l:List Tf) (t:Int):Nat:=Pp t 0 0 l
def o9 (t:Tf) (fS:Int):Int:=(max fS 0+t.step -1)/t.step
def nS (t:Tf) (fS:Int):Int:=t.Aj*o9 t (fS -t.free)
def qd (t:Tf) (fS:Int):Int:=t.oZ*o9 t fS
def mN (n:Int):Int×Int:=if 1000000000000<n then (0,2) else (n,0)
theorem mX {n lo hi:Int}:yB n lo hi=true↔lo≤n∧n≤hi:=by unfold yB;simp
theorem pL {t:Tf}:pM t=true↔(0≤t.from_∧t.from_≤4294943999)∧(0≤t.unlock∧t.unlock≤1000000)∧(0≤t.Aj∧t.Aj≤1000000)∧(0≤t.oZ∧t.oZ≤1000000)∧(1≤t.step∧t.step≤86400)∧(0≤t.free∧t.free≤86400):=by
 unfold pM;simp only [bQ,mX,and_assoc]
theorem By {t:Tf} (h:1≤t.step∧t.step≤86400) {s:Int} (hs:s≤4294944000):0≤o9 t s∧o9 t s≤4294944000:=by
 unfold o9;have h0:0≤max s 0:=by omega
 have h1:max s 0≤4294944000:=by omega
 constructor
 ·exact Int.ediv_nonneg (by omega) (by omega)
 have hq:(max s 0+t.step -1)/t.step≤max s 0:=by
  rw [Int.ediv_le_iff_le_mul (by omega)];have:max s 0*1≤max s 0*t.step:=Int.mul_le_mul_of_nonneg_left h.1 h0;have:max s 0*t.step+(t.step -1)≥max s 0+t.step -1:=by omega
  omega
 omega
def sX (l:List Tf):Nat→Option Tf
 |0=>none
 |k+1=>l[k]?
theorem FZ {l:List Tf} {k:Nat} {t:Tf} (h:l[k]?=some t) (h0:pM t=true) (h1:Bw (sX l k) t=false):la (sX l k) (l.drop k)=la (sX l (k+1)) (l.drop (k+1)):=by
 obtain ⟨hk,e⟩:=aa.1 h;rw [cL hk,e];show la _ (t::_)=la (l[k]?) _;rw [h]
 conv=>lhs;unfold la
 rw [ah (by rw [h0];decide),ah (by rw [h1];decide)]
theorem HW {l:List Tf} {k:Nat} {t:Tf} (h:l[k]?=some t) (h0:pM t=false):la (sX l k) (l.drop k)=1:=by
 obtain ⟨hk,e⟩:=aa.1 h;rw [cL hk,e];unfold la;rw [av h0]
theorem HV {l:List Tf} {k:Nat} {t:Tf} (h:l[k]?=some t) (h0:pM t=true) (h1:Bw (sX l k) t=true):la (sX l k) (l.drop k)=9:=by
 obtain ⟨hk,e⟩:=aa.1 h;rw [cL hk,e];unfold la;rw [ah (by rw [h0];decide),av h1]
theorem DC: ∀{l:List Tf} {p:Option Tf},la p l=0→ ∀t∈l,pM t=true
 |[],_,_,t,ht=>by cases ht
 |x::l,p,h,t,ht=>by
  unfold la at h;split at h
  ·cases h
  rename_i h1;split at h
  ·cases h
  rcases bU.1 ht with rfl|ht
  ·simpa using h1
  exact DC h t ht
theorem MA {l:List Tf} (h:lG l=0):0<l.length∧l.length≤8∧ ∀t∈l,pM t=true:=by
 unfold lG at h;split at h
 ·cases h
 split at h
 ·cases h
 exact ⟨by omega,by omega,DC h⟩
theorem OT (t:Int): ∀(l:List Tf) (a k:Nat),a<k+l.length→0<l.length∨a<k→Pp t a k l<k+l.length
 |[],a,k,h,_=>h
 |x::l,a,k,h,h2=>by
  unfold Pp;rw [bB] at h⊢;have:=OT t l (if x.from_≤t then k else a) (k+1) (by split<;>omega) (by
   by_cases hl:0<l.length
   ·exact .inl hl
   right;split
   ·omega
   omega)
  omega
theorem Ua {l:List Tf} (h:0<l.length) (t:Int):Em l t<l.length:=by
 have:=OT t l 0 0 (by omega) (.inl h);unfold Em;omega
structure o0 where
 id:Int
 rider:Int
 from_:Int
 mK:Int
 pj:Int
 fS:Int
deriving DecidableEq,Inhabited
def AX (p:o0):Bool:=((!yB p.id 1 1000000||!yB p.rider 0 127)||!yB p.pj 1 256)||!yB p.fS 0 86400
def EV (p:o0):Bool:=(decide (p.from_<0)||decide (p.mK≤p.from_))||decide (49710<p.mK)
def qe (p:o0):Bool:=AX p||EV p
def jj:List Int→List Int→Bool
 |_,[]=>false
 |seen,x::l=>seen.any (fun y=>y==x)||jj (seen++[x]) l
def lg (l:List o0):Int:=if 64<l.length then 8 else if l.any qe=true then 1 else if jj [] (l.map (·.id))=true then 6 else 0
structure Rq where
 rider:Int
 day:Int
deriving DecidableEq,Inhabited
def ks (p:o0) (q:Rq):Bool:=decide (p.rider=q.rider)&&(decide (p.from_≤q.day)&&decide (q.day<p.mK))
def mj (used:List (Int×Int)) (k d:Int):Nat:=used.countP fun u=>u.1==k&&u.2==d
def pR (l:List o0) (used:List (Int×Int)) (q:Rq):Int:=
 match (List.range l.length).find? fun k=>ks (l.getD k default) q&&decide ((mj used k q.day:Int)<(l.getD k default).pj) with
 |none=> -1
 |some k=>k
def ke (l:List o0) (s:List Int×List (Int×Int)) (q:Rq):List Int×List (Int×Int):=
 (s.1++[pR l s.2 q],if 0≤pR l s.2 q then s.2++[(pR l s.2 q,q.day)] else s.2)
def vX (l:List o0) (qs:List Rq):List Int×List (Int×Int):=qs.foldl (ke l) ([],[])
theorem Ic (l:List o0) (used:List (Int×Int)) (q:Rq): -1≤pR l used q∧pR l used q<l.length:=by
 unfold pR;cases h:(List.range l.length).find? fun k=>ks (l.getD k default) q&&decide ((mj used k q.day:Int)<(l.getD k default).pj) with
 |none=>simp only;omega
 |some k=>
  have:=dL.1 (gB h);simp only;omega
theorem Bp: ∀(l:List o0) (qs:List Rq) (s:List Int×List (Int×Int)),(qs.foldl (ke l) s).1.length=s.1.length+qs.length
 |_,[],s=>by simp
 |l,q::qs,s=>by
  rw [cO,Bp l qs];unfold ke;simp only [bV,bB,eU];omega
structure Dy where
 rider:Int
 day:Int
 fM:Int
deriving DecidableEq,Inhabited
def Ec (x:Dy):Bool:=(!yB x.rider 0 127||!yB x.day 0 49709)||!yB x.fM 0 1000000000000
def rJ (l:List (Dy×Int)) (r d:Int):Int:=((l.filter fun x=>x.1.rider==r&&x.1.day==d).map (·.2)).sum
def pS (limit:Int) (l:List (Dy×Int)) (x:Dy):Int:=if 0<limit then min x.fM (limit -rJ l x.rider x.day) else x.fM
def Dm (limit:Int) (xs:List Dy):List (Dy×Int):=xs.foldl (fun l x=>l++[(x,pS limit l x)]) []
def CQ (limit:Int) (xs:List Dy):Int:=if yB limit 0 1000000000000=false then 1 else if 256<xs.length then 8 else if xs.any Ec=true then 1 else 0
end Go.Proofs.Far
namespace Go.Proofs.Cus
structure Ev where
 device:Int
 seq:Int
 at_:Int
 late:Int
 kind:Int
 bD:Int
 place:Int
 rider:Int
 aP:Int
structure Fl where
 eV:Int
 na:Int
 aH:Int
 gk:List Int
 eJ:List Int
def within (n low high:Int):Bool:=decide (low≤n)&&decide (n≤high)
def yQ (l:List Int) (E2:Int):Bool:=l.all fun n=>within n 1 E2
def fR (f:Fl):Int:=
 if ((!within f.eV 1 128||!within f.na 1 128)||!within f.aH 1 256)=true then 1
 else if 32<f.gk.length∨8<f.eJ.length then 8
 else if (!yQ f.gk 32||!yQ f.eJ 32)=true then 1 else 0
def qa (f:Fl) (e:Ev):Bool:=
 if e.kind=1 then (decide (0≤e.place)&&decide (e.place.tdiv 32<f.gk.length))&&decide (e.place.tmod 32<f.gk.getD (e.place.tdiv 32).toNat 0)
 else if e.kind=2 then within e.place 0 63
 else if e.kind=7 then within e.place 0 ((f.eJ.length:Int) -1)
 else decide (e.place=0)
def named (f:Fl) (e:Ev):Bool:=
 (if e.kind=3 then within e.rider 0 (f.na -1) else decide (e.rider=0))&&(if e.kind=3∨e.kind=4 then within e.aP 1 1000000 else decide (e.aP=0))
def fF (f:Fl) (e:Ev):Int:=
 if fR f≠0 then fR f
 else if ((((!within e.device 0 (f.aH -1)||!within e.seq 1 1048576)||decide (e.at_<0))||decide (e.late<e.at_))||decide (4294943999<e.late))=true then 1
 else if within e.kind 1 10=false then 14
 else if (!within e.bD 0 (f.eV -1)||(decide (e.kind=10)&&!decide (e.bD=0)))=true then 1
 else if qa f e=false then 7
 else if named f e=false then 1 else 0
open Go Go.RowKit Go.Proofs.E
abbrev ia (w:World) (A:Option Addr) (n:Nat) (xs:List Int):Prop:=gJ w 1 aN A n xs
def Ev.cells (e:Ev):List Value:=[.int .i64 e.device, .int .i64 e.seq, .int .i64 e.at_, .int .i64 e.late, .int .i64 e.kind, .int .i64 e.bD, .int .i64 e.place, .int .i64 e.rider, .int .i64 e.aP]
structure FA where
 dA:Option Addr
 dn:Nat
 dc:Nat
 tA:Option Addr
 tn:Nat
 tc:Nat
def Fl.cells (f:Fl) (a:FA):List Value:=[.int .i64 f.eV, .int .i64 f.na, .int .i64 f.aH, .slice a.dA a.dn a.dc, .slice a.tA a.tn a.tc]
structure kp (w:World) (f:Fl) (a:FA):Prop where
 gk:ia w a.dA a.dn f.gk
 eJ:ia w a.tA a.tn f.eJ
theorem kp.mem {w0 w:World} {L:List E.Item} {f:Fl} {a:FA} (h:kp w0 f a) (hm:Mem w0 L w):kp w f a:=⟨h.gk.mem hm,h.eJ.mem hm⟩
theorem kP (n low high:Int) (w:World):Calls Tryz.prog 59 #[.int .i64 n, .int .i64 low, .int .i64 high] w fun e w'=>e= .returned (.bool (within n low high))∧gz w w':=by
 refine aS Tryz.func59 rfl Tryz.ntmps59 rfl ?_;refine cr ?_;refine R0 ?_;refine xV (gZ (v:= .bool _) (q0 rfl)) rfl rfl ?_;refine XN ?_;refine az ?_;refine cr ?_;refine R0 ?_;refine xV (ez (v:= .int _ _) (q0 rfl)) rfl rfl ?_;refine xV (ez (v:= .int _ _) (q0 rfl)) rfl rfl ?_;refine xV (Oh (q0 rfl) (q0 rfl)) rfl rfl ?_;refine xV (ez (v:= .bool _) (q0 rfl)) rfl rfl ?_;refine rF (ez (v:= .int _ _) (q0 rfl)) rfl rfl rfl rfl ?_;refine rF (ez (v:= .int _ _) (q0 rfl)) rfl rfl rfl rfl ?_;refine rF (Oh (q1 rfl) (q1 rfl)) rfl rfl rfl rfl ?_;refine xV (pT (q0 rfl) rfl (fun h=>by first|rfl|(rw [h];rfl))) rfl rfl ?_;refine xV (gZ (v:= .bool _) (q0 rfl)) rfl rfl ?_;refine XN ?_;refine az ?_;refine jV ?_;exact bH (v:= .bool _) rfl rfl rfl fun w' hw=>⟨rfl,hw.1⟩
theorem iJ {α:Type} (l:List α) (k:Nat) (v:α) (h:l[k]?=some v):l.take (k+1)=l.take k++[v]:=by
 rw [iy,h];rfl
attribute [local irreducible] within yQ
theorem Ay (A:Option Addr) (n c:Nat) (xs:List Int) (E2:Int) (w:World) (hx:ia w A n xs):
  Calls Tryz.prog 99 #[.slice A n c, .int .i64 E2] w fun e w'=>e= .returned (.bool (yQ xs E2))∧gz w w':=by
 have hl:=hx.1;have hn:=hx.2.1;refine aS Tryz.func99 rfl Tryz.ntmps99 rfl ?_;refine cr ?_;refine R0 ?_;refine xV (gZ (v:= .bool _) (q0 rfl)) rfl rfl ?_;refine XN ?_;refine az ?_;refine cr ?_;refine cr ?_;refine R0 ?_;refine xV (ez (v:= .slice _ _ _) (q0 rfl)) rfl rfl ?_;refine xV (tl Tryz.underlying22 (q0 rfl)) rfl rfl ?_;refine xV (ez (v:= .int _ _) (q0 rfl)) rfl rfl ?_;refine XN ?_;refine az ?_;refine l0 ?_;refine ct [4,6,9,10,11,12,13,14,15,16,17] (fun k:Nat=>[(9, .int .i64 k)]) (fun _=>_) (fun k=>k≤n∧(xs.take k).all (fun m=>within m 1 E2)=true) (fun k=>n -k) 0 ⟨rfl,trivial⟩ (fun _ h=>h) rfl ⟨aU _,rfl⟩ ?_;rintro k g ⟨hk,hall⟩;refine cr ?_;refine R0 ?_;refine xV (vd (q0 rfl) (q0 rfl)) rfl rfl ?_;refine XN ?_;refine az ?_;refine cr ?_;refine au rfl (fun hlt=>?_) (fun hlt=>?_)
 ·simp at hlt;obtain ⟨b,off,x,rfl,hbl,hxk,hrx⟩:=hx.at_ hlt;refine iS ?_;refine az ?_;refine cr ?_;refine l0 ?_;refine cr ?_;refine R0 ?_;refine xV (bt _ Tryz.underlying22 Tryz.sizeOf3 (q0 rfl) (q0 rfl) (fun _=>⟨rfl,by omega⟩)) rfl rfl ?_;refine xV (eL Tryz.isAgg3 (q0 rfl)) rfl rfl ?_;refine xV (gZ (v:= .int _ _) (q0 rfl)) rfl rfl ?_;refine XN ?_;refine az ?_;refine cr ?_;refine R0 ?_;refine xV (ez (v:= .int _ _) (q0 rfl)) rfl rfl ?_;refine xV (ez (v:= .int _ _) (q0 rfl)) rfl rfl ?_;refine xC (en Tryz.call59 (nj (q0 rfl) (q0 rfl) (q0 rfl))) (fun _ w _=>kP x 1 E2 w) rfl rfl ?_;refine xV (rz (q0 rfl)) rfl rfl ?_;refine XN ?_;refine az ?_;refine au rfl (fun hb=>?_) (fun hb=>?_)
  ·refine cr ?_;refine R0 ?_;refine xV (gZ (v:= .bool _) (q0 rfl)) rfl rfl ?_;refine XN ?_;refine az ?_;refine jV ?_;refine fD ?_;refine dH ?_;refine mA ?_;refine fD ?_;refine dH ?_;exact bH (v:= .bool _) rfl rfl rfl fun w' hw=>⟨fK (by
    unfold yQ;rw [UI,List.all_eq_false];exact ⟨x,an hxk,by simpa using hb⟩),hw.1⟩
  refine iS ?_;refine iV ?_;refine az ?_;refine R0 ?_;refine xV (rB (q0 rfl) (q0 rfl) (fun _=>⟨rfl,by omega,by omega⟩)) rfl rfl ?_;refine xV (ez (v:= .int _ _) (q0 rfl)) rfl rfl ?_;refine XN ?_;exact ay (k+1) (by repeat (first|exact jw|exact ku|refine j7 rfl ?_|refine jO rfl ?_|refine jJ rfl ?_)) ⟨rfl,trivial⟩ (fun _ h=>h) rfl ⟨by omega,by rw [iJ _ _ _ hxk,lF,hall];simpa using hb⟩ (by show n -(k+1)<n -k;omega)
 obtain rfl:k=n:=by simp at hlt;omega
 refine xD ?_;refine mZ ?_;refine ng ?_;refine nn ?_;refine az ?_;refine cr ?_;refine R0 ?_;refine xV (gZ (v:= .bool _) (q0 rfl)) rfl rfl ?_;refine XN ?_;refine az ?_;refine jV ?_;exact bH (v:= .bool _) rfl rfl rfl fun w' hw=>⟨fK (by unfold yQ;rw [←hall,bN (by omega)]),hw.1⟩
theorem A9 (f:Fl) (a:FA) (w:World) (hx:kp w f a):Calls Tryz.prog 58 #[.agg (f.cells a).toArray] w fun e w'=>e= .returned (.int .i64 (fR f))∧gz w w':=by
 have hl:=hx.gk.1;have hl2:=hx.eJ.1;refine aS Tryz.func58 rfl Tryz.ntmps58 rfl ?_;refine cr ?_;refine R0 ?_;refine cd (v:= .agg _) rfl rfl fun b1=>?_;refine xV (gZ (v:= .int _ _) (q0 rfl)) rfl rfl ?_;refine XN ?_;refine az ?_;refine cr ?_;refine cr ?_;refine R0 ?_;refine xV (cR Tryz.underlying24 rfl Tryz.sizeOf3 rfl (q0 rfl)) rfl rfl ?_;refine xV (eL Tryz.isAgg3 (q0 rfl)) rfl rfl ?_;refine xC (en Tryz.call59 (nj (q0 rfl) (q0 rfl) (q0 rfl))) (fun _ w _=>kP f.eV 1 128 w) rfl rfl ?_;refine xV (rz (q0 rfl)) rfl rfl ?_;refine xV (ez (v:= .bool _) (q0 rfl)) rfl rfl ?_;refine oQ (cR Tryz.underlying24 rfl Tryz.sizeOf3 rfl (q0 rfl)) rfl rfl rfl rfl ?_;refine oQ (eL Tryz.isAgg3 (q1 rfl)) rfl rfl rfl rfl ?_;refine I7 (en Tryz.call59 (nj (q1 (v:= .int _ _) rfl) (q0 rfl) (q0 rfl))) (fun _ w _=>kP f.na 1 128 w) rfl rfl rfl rfl ?_;refine oQ (rz (q1 rfl)) rfl rfl rfl rfl ?_;refine xV (u9 (q0 rfl) rfl (fun h=>by first|rfl|(rw [h];rfl))) rfl rfl ?_;refine xV (ez (v:= .bool _) (q0 rfl)) rfl rfl ?_;refine oQ (cR Tryz.underlying24 rfl Tryz.sizeOf3 rfl (q0 rfl)) rfl rfl rfl rfl ?_;refine oQ (eL Tryz.isAgg3 (q1 rfl)) rfl rfl rfl rfl ?_;refine I7 (en Tryz.call59 (nj (q1 (v:= .int _ _) rfl) (q0 rfl) (q0 rfl))) (fun _ w _=>kP f.aH 1 256 w) rfl rfl rfl rfl ?_;refine oQ (rz (q1 rfl)) rfl rfl rfl rfl ?_;refine xV (u9 (q0 rfl) rfl (fun h=>by first|rfl|(rw [h];rfl))) rfl rfl ?_;refine XN ?_;refine az ?_;refine au rfl (fun h1=>?_) (fun h1=>?_)
 ·refine cr ?_;refine R0 ?_;refine xV (gZ (v:= .int _ _) (q0 rfl)) rfl rfl ?_;refine XN ?_;refine az ?_;refine jV ?_;refine dH ?_;exact bH (v:= .int _ _) rfl rfl rfl fun w' hw=>⟨bP (by unfold fR;rw [av h1]),hw.1⟩
 refine iS ?_;refine az ?_;refine cr ?_;refine cr ?_;refine R0 ?_;refine xV (cR Tryz.underlying24 rfl Tryz.sizeOf22 rfl (q0 rfl)) rfl rfl ?_;refine xV (eL Tryz.isAgg22 (q0 rfl)) rfl rfl ?_;refine xV (tl Tryz.underlying22 (q0 rfl)) rfl rfl ?_;refine xV (Dl (q0 rfl) (q0 rfl)) rfl rfl ?_;refine xV (ez (v:= .bool _) (q0 rfl)) rfl rfl ?_;refine oQ (cR Tryz.underlying24 rfl Tryz.sizeOf22 rfl (q0 rfl)) rfl rfl rfl rfl ?_;refine oQ (eL Tryz.isAgg22 (q1 rfl)) rfl rfl rfl rfl ?_;refine oQ (tl Tryz.underlying22 (q1 rfl)) rfl rfl rfl rfl ?_;refine oQ (Dl (q1 rfl) (q0 rfl)) rfl rfl rfl rfl ?_;refine xV (u9 (q0 rfl) rfl (fun h=>by first|rfl|(rw [h];rfl))) rfl rfl ?_;refine XN ?_;refine az ?_;refine au rfl (fun h2=>?_) (fun h2=>?_)
 ·refine cr ?_;refine R0 ?_;refine xV (gZ (v:= .int _ _) (q0 rfl)) rfl rfl ?_;refine XN ?_;refine az ?_;refine jV ?_;refine dH ?_;exact bH (v:= .int _ _) rfl rfl rfl fun w' hw=>⟨bP (by unfold fR;rw [ah (by rw [h1];decide),av (by simp at h2;omega)]),hw.1⟩
 refine iS ?_;refine az ?_;refine cr ?_;refine cr ?_;refine R0 ?_;refine xV (cR Tryz.underlying24 rfl Tryz.sizeOf22 rfl (q0 rfl)) rfl rfl ?_;refine xV (eL Tryz.isAgg22 (q0 rfl)) rfl rfl ?_;refine xC (en Tryz.call99 (gr (q0 rfl) (q0 rfl))) (fun _ w hm=>Ay a.dA a.dn a.dc f.gk 32 w (hx.gk.mem hm)) rfl rfl ?_;refine xV (rz (q0 rfl)) rfl rfl ?_;refine xV (ez (v:= .bool _) (q0 rfl)) rfl rfl ?_;refine oQ (cR Tryz.underlying24 rfl Tryz.sizeOf22 rfl (q0 rfl)) rfl rfl rfl rfl ?_;refine oQ (eL Tryz.isAgg22 (q1 rfl)) rfl rfl rfl rfl ?_;refine I7 (en Tryz.call99 (gr (q1 (v:= .slice _ _ _) rfl) (q0 rfl))) (fun _ w hm=>Ay a.tA a.tn a.tc f.eJ 32 w (hx.eJ.mem hm)) rfl rfl rfl rfl ?_;refine oQ (rz (q1 rfl)) rfl rfl rfl rfl ?_;refine xV (u9 (q0 rfl) rfl (fun h=>by first|rfl|(rw [h];rfl))) rfl rfl ?_;refine XN ?_;refine az ?_;refine au rfl (fun h3=>?_) (fun h3=>?_)
 ·refine cr ?_;refine R0 ?_;refine xV (gZ (v:= .int _ _) (q0 rfl)) rfl rfl ?_;refine XN ?_;refine az ?_;refine jV ?_;refine dH ?_;exact bH (v:= .int _ _) rfl rfl rfl fun w' hw=>⟨bP (by unfold fR;rw [ah (by rw [h1];decide),ah (by simp at h2;omega),av h3]),hw.1⟩
 refine iS ?_;refine az ?_;refine cr ?_;refine R0 ?_;refine xV (gZ (v:= .int _ _) (q0 rfl)) rfl rfl ?_;refine XN ?_;refine az ?_;refine jV ?_;exact bH (v:= .int _ _) rfl rfl rfl fun w' hw=>⟨bP (by unfold fR;rw [ah (by rw [h1];decide),ah (by simp at h2;omega),ah (by rw [h3];decide)]),hw.1⟩
end Go.Proofs.Cus
namespace Go.Proofs.E
open Go Go.RowKit
theorem gY {c:Cx} {w0:World} {L:List Item} {f:Fr} {K:List Item→Fr→Prop} {d:Nat} {op:Op} {ty:TypeId} {pos:String} {af:Array Edge} {v:Value} (h:iO true c w0 L f op ty v) (hnd:dI op=false) (hd:Nat.blt d c.N=true) (next:K L (kX f d v)):uz c w0 L f ⟨some d,op,ty,pos,af,none⟩ K:=
 ⟨rfl,hnd,hd,fun w hw=>by rw [h rfl _ _ _ _ w hw];exact ⟨L,hw,rfl,next⟩⟩
end Go.Proofs.E
