import Derived.Test.YtomomjgdeomgiaaGreatBA01
import Derived.Shelf.SlSortCmp.NoneTotal
import Derived.Maps.RangeRun
import Derived.RangeFuncSeq
set_option linter.all false
namespace Go.Proofs.E
open Go Go.RowKit
section
variable {α:Type} {e t:TypeId} {k:Nat} {enc:α->List Value} {A:Option Addr} {xs:List α} {c:Cx} {w0:World} {L:List Item} {f:Fr} {PQ:PJ} {ops rest:List Oper} {d1 d2 o1:Nat} {ty1 ty2:TypeId} {pos1 pos2:String} {af1 af2:Array Edge} {x:Operand}
theorem gN(j y){cA i z v}(ht:c.P.underlying t=some (.slice e))(hi:c.P.info? e=some i)(hz:i.zero=some z)(hsize:i.size=k)(hzs:z.cells.size=k)(hk0:Nat.blt 0 k=true)(hsz: ∀w,(sizeOf e).run c.P w= .ok k w)(hzv: ∀w,(zeroValue e).run c.P w= .ok z w)(hk1:Nat.ble k 10000=true)(hx:ev f x=v)(hv:v.cells.toList=enc y)(ho:f o1= .slice A xs.length cA)(hne:Nat.beq o1 d1=false)(hk:L[j]?=some (dS e k enc A cA xs))(hlen:xs.length+1<=1000000/\i.bytes<=100000)(hd1:Nat.blt d1 c.N=true)(hd2:Nat.blt d2 c.N=true)(next: ∀B A' c',XL false c ops rest PQ w0 (L.set j (dS e k enc A' c' (xs++[y]))) (kV (kV f d1 (.slice (some ⟨B,0,none⟩) 1 1)) d2 (.slice A' (xs++[y]).length c')))(he: ∀x,(enc x).length=k:=by exact λ_=>rfl)(h1: ∀x,(enc x).all (·.oneCell')=true:=by exact λ_=>rfl):
  XL false c ops (⟨some d1, .buildSlice t 1 #[(0,x)],ty1,pos1,af1,none⟩::⟨some d2, .call {callee:= .builtin .append,args:= #[.tmp o1, .tmp d1],argTypes:= #[t,t]},ty2,pos2,af2,none⟩::rest) PQ w0 L f:=by
 have hk2:0<k:=dW hk0
 have hk3:k<=10000:=dW hk1
 refine cQ ⟨rfl,rfl,hd1,λw hw=>?_⟩
 have hvs:v.cells.size=k:=by rw [<-JP,hv,he]
 have hrun:(execOp (ev f) ⟨some d1, .buildSlice t 1 #[(0,x)],ty1,pos1,af1,none⟩).run c.P w= .ok (.value (.slice (some ⟨w.heap.size,0,none⟩) 1 1)) (w.alloc (.cells (enc y).toArray e)):=by
  have h2: ¬16777216<k:=by omega
  have h0: ¬k=0:=by omega
  have hfill:Instr.fill (λi=>some (i*k,k)) ((Array.range (1*k)).map (z.cells[· %z.cells.size]!)) [(0,v)]=some (enc y).toArray:=by
   have h3:=s8 (nn k 1) (λi=>some (i*k,k)) (λi q h=>Fz h) [(0,v)] ((Array.range (1*k)).map (z.cells[· %z.cells.size]!)) (by
    simp only [u9,nn,Array.size_map,Array.size_range]
    simp [hvs])
   rw [h3]
   congr 1
   simp only [JA,nn]
   have h4:(setAt ((Array.range (1*k)).map (z.cells[· %z.cells.size]!)).toList 0 v.cells.toList)=v.cells.toList:=by
    have:=qy [] [] v.cells.toList ((Array.range (1*k)).map (z.cells[· %z.cells.size]!)).toList 0 (by simp [hvs])
    have hl: ∀(vs C:List Value),vs.length=C.length->setAt C 0 vs=vs:=by
     have key: ∀(vs P C:List Value),vs.length=C.length->setAt (P++C) P.length vs=P++vs:=by
      intro vs
      induction vs with
      |nil=>intro P C h;cases C with
       |nil=>rfl
       |cons _ _=>simp at h
      |cons v r ih=>intro P C h;cases C with
       |nil=>simp at h
       |cons a C=>
        simp only [setAt]
        have e1:(P++a::C).set P.length v=(P++[v])++C:=by simp
        rw [e1]
        have:=ih (P++[v]) C (by simpa using h)
        simp only [aQ,cL,dO] at this
        rw [this]
        simp
     intro vs C h
     have:=key vs [] C h
     simpa using this
    exact hl _ _ (by simp [hvs])
   rw [show ((List.map (λi=>(i*k,k)) (List.range 1)).getD 0 (0,0)).fst=0 by simp]
   rw [h4,hv]
  simp [execOp,Instr.buildSlice,run_underlying ht,hsz,hzv,h2,h0,hx,newRow,Result.andThen]
  simp at hfill
  rw [hfill]
  simp
 rw [hrun]
 refine ⟨_,hw.wP e (enc y),rfl,?_⟩
 have ho':ev (kV f d1 (.slice (some ⟨w.heap.size,0,none⟩) 1 1)) (.tmp o1)= .slice A xs.length cA:=by
  show kV f d1 _ o1=_
  simp only [kV,hne,UN]
  exact ho
 have hd':ev (kV f d1 (.slice (some ⟨w.heap.size,0,none⟩) 1 1)) (.tmp d1)= .slice (some ⟨w.heap.size,0,none⟩) 1 1:=by
  show kV f d1 _ d1=_
  simp [kV,Nat.beq_refl]
 refine lI (dj (j+1) (m:=1) (ys:=[y]) ht hi hz hsize hzs hk0 he h1 ho' hd' (by simpa using hk) (λw1 hw1=>?_) ⟨by simpa using hlen.1,hlen.2⟩ hd2 λA' c'=>?_)
 ·have:=fj (enc:=enc) (xs:=[y]) hw1 (j:=0) (b:=w.heap.size) (t:=e) (by simp) he (by simp)
  simpa using this
 refine NX (L':=L.set j (dS e k enc A' c' (xs++[y]))) (λw1 hw1=>?_) rfl (next w.heap.size A' c')
 simpa using hw1.tail
end
open Go.Shelf Go.Lib Go.Sort in
theorem tF{α}[Inhabited α]{e k}{enc : α -> List Value}{c b j n xs ys w0 w L os}(he : ∀ x, (enc x).length = k)(hw : Mem w0 L w)(hk : L[j]? = some (dS e k enc (some ⟨b, 0, none⟩) c xs))(hl : ys.length = xs.length):
    Mem w0 (L.set j (dS e k enc (some ⟨b, 0, none⟩) c ys)) (sortWorldK enc k w b 0 n ys.toArray os) := by
  obtain ⟨cs, hc, hr⟩ := nP (hw.item hk)
  obtain ⟨r, hrest⟩ := hr.rest
  have hb : b < w.heap.size := (fV.1 hc).1
  have hflat : (flatK enc k ys.toArray).toList = ys.flatMap enc := by
    apply fh
    intro y
    by_cases hy : y < ys.length * k
    · have hk0 : 0 < k := by rcases ga k with h | h; · rw [h] at hy; omega
                             · exact h
      have hyk : y % k < k := l0 _ hk0
      have hyd : y / k < ys.length := Ha (by rw [zF]; exact hy)
      have h1 : ys[y / k]? = some ys[y / k] := ah hyd
      have h2 : (enc ys[y / k])[y % k]? = some ((enc ys[y / k])[y % k]'(by rw [he]; exact hyk)) := ah _
      have h3 := rD he _ _ _ h1 _ _ h2
      rw [zF, SD] at h3
      rw [h3]
      have h4 := get_flatK enc k ys.toArray y (by simpa using hy)
      rw [nO _ y (by simpa using hy)] at h4
      rw [E6, Ud (by simpa using hy), h4]
      congr 1
      rw [nO ys.toArray (y / k) (by simpa using hyd)]
      simp only [List.getElem_toArray]
      rw [nO _ (y % k) (by rw [he]; exact hyk)]
    · rw [iu (by simp; omega), iu (by rw [dX he]; omega)]
  have hput : (putRowK enc k (Go.Sort.ahead w n) b 0 ys.toArray).heap[b]? = some (.cells (ys.flatMap enc ++ r).toArray e (0, 0)) := by
    show (w.heap.modify b _)[b]? = _
    rw [kl, aB rfl, hc]
    simp only [ni, onCells, jW, Obj.cells.injEq, and_true]
    apply Array.ext'
    apply fh
    intro y
    simp only [putCells, Array.toList_mapIdx, List.getElem?_mapIdx, size_flatK, uk, bj, true_and, fq, Nat.sub_zero]
    by_cases hy : y < ys.length * k
    · have hy2 : y < cs.length := by
        rw [hr.size]
        have := hr.len
        have h2 : ys.length * k <= c * k := qt _ (by omega)
        omega
      rw [ah hy2]
      simp only [ni, hy, E2, id]
      have h4 : (ys.flatMap enc)[y]? = some (flatK enc k ys.toArray)[y]! := by
        rw [<- hflat, E6, nO _ y (by simpa using hy)]
        exact Ud _
      rw [gm (by rw [dX he]; exact hy), h4]
    · simp only [hy, sB, Option.map_id', id]
      rw [hrest, fu (by rw [dX he, <- hl]; omega), fu (by rw [dX he]; omega), dX he, dX he, hl]
  have hsz : (putRowK enc k (Go.Sort.ahead w n) b 0 ys.toArray).heap.size = w.heap.size := by simp [putRowK, Go.Sort.ahead]
  refine hw.D9 hk (λb hb => .inl hb) (λb' hb' => ?_) (nC he (cs := ys.flatMap enc ++ r) ?_ ⟨by rw [hl]; exact hr.len, hr.max, ?_, r, rfl⟩) ⟨rfl, rfl, rfl, ?_⟩ ?_ (λb' hb' hf => ?_)
  · cases hb'
    show b < ((putRowK enc k (Go.Sort.ahead w n) b 0 ys.toArray).heap ++ os).size
    rw [Oc, hsz]; omega
  · show ((putRowK enc k (Go.Sort.ahead w n) b 0 ys.toArray).heap ++ os)[b]? = _
    rw [yu (by rw [hsz]; exact hb)]
    exact hput
  · have := hr.size
    rw [hrest] at this
    simp only [aQ, dX he, hl] at this |-
    exact this
  · exact Nat.le_add_right _ _
  · show w.heap.size <= ((putRowK enc k (Go.Sort.ahead w n) b 0 ys.toArray).heap ++ os).size
    rw [Oc, hsz]; omega
  · show ((putRowK enc k (Go.Sort.ahead w n) b 0 ys.toArray).heap ++ os)[b']? = _
    rw [yu (by rw [hsz]; exact hb')]
    show (w.heap.modify b _)[b']? = _
    rw [kl, an (λh => hf (by rw [h]; rfl))]
open Go.Shelf Go.Lib Go.Sort in
theorem wS {α : Type} [Inhabited α] {e : TypeId} {k : Nat} {enc : α -> List Value} {c b j : Nat} {xs : List α} {w0 w : World} {L : List Item} (he : ∀ x, (enc x).length = k) (hw : Mem w0 L w) (hk : L[j]? = some (dS e k enc (some ⟨b, 0, none⟩) c xs)) : HoldsK enc k w b 0 xs.toArray := by
  intro t ht
  rw [size_flatK] at ht
  simp only [uk] at ht
  have hk0 : 0 < k := by rcases ga k with h | h; · rw [h] at ht; omega
                         · exact h
  have htk : t % k < k := l0 _ hk0
  have htd : t / k < xs.length := Ha (by rw [zF]; exact ht)
  rw [get_flatK enc k xs.toArray t (by simpa using ht), fq]
  have h1 : xs[t / k]? = some xs[t / k] := ah htd
  have h2 : (enc xs[t / k])[t % k]? = some ((enc xs[t / k])[t % k]'(by rw [he]; exact htk)) := ah _
  have h3 := xu he hw hk h1 h2
  rw [zF, SD] at h3
  refine ⟨?_, ?_⟩
  · grind
  · obtain ⟨cs, hc, _⟩ := nP (hw.item hk)
    simp [World.frozen?, hc]
theorem fM.Rr{w w'}(h:fM w w'): ∃q os',w'=Go.Sort.grow (w.drewN q) os':=by
 refine ⟨w'.drawn -w.drawn,w'.heap.extract w.heap.size w'.heap.size,?_⟩
 have hh:w'.heap=w.heap++w'.heap.extract w.heap.size w'.heap.size:=by
  apply Array.ext_getElem?
  intro i
  by_cases hi:i<w.heap.size
  ·rw [yu hi];exact h.block i hi
  grind
 have h1:=h.os
 have h2:=h.tape
 have h3:=h.output
 have h4:=h.drawn
 cases w;cases w'
 simp only [World.drewN,Go.Sort.grow] at*
 subst h1 h2 h3
 congr 1
 omega
end Go.Proofs.E
namespace Go.Proofs.E
open Go Go.RowKit
def FZ (ps:List (Int×Value)) (k:Int):List (Int×Value):=ps.eraseP (λp=>p.1==k)
theorem FM(k): ∀(es:List MapEntry) (ps:List (Int×Value)) (i:Nat),lJ es ps->
  (Instr.findNow (.int .i64) (.int .i64 k) es i=some none/\FZ ps k=ps)\/
  (∃j x,Instr.findNow (.int .i64) (.int .i64 k) es i=some (some (i+j,x))/\j<es.length/\lJ (es.eraseIdx j) (FZ ps k)):=by
 intro es
 induction es with
 |nil=>intro ps i h;cases h;exact .inl ⟨rfl,rfl⟩
 |cons e es ih=>
  intro ps i h
  cases h with
  |cons hp hr=>
   rename_i p ps
   have hp':=hp
   obtain ⟨hk,hv⟩:=hp
   by_cases hkk:p.1=k
   ·refine .inr ⟨0,e.val,?_,by simp,?_⟩
    ·simp [Instr.findNow,Instr.sameNow,hk,hkk]
    simpa [FZ,hkk] using hr
   have hne:(k==p.1)=false:=gk.2 λe=>hkk e.symm
   rcases ih ps (i+1) hr with ⟨h1,h2⟩|⟨j,x,h1,h2,h3⟩
   ·refine .inl ⟨?_,?_⟩
    ·simp [Instr.findNow,Instr.sameNow,hk,hne,h1]
    grind [FZ]
   refine .inr ⟨j+1,x,?_,by simp;omega,?_⟩
   ·simp [Instr.findNow,Instr.sameNow,hk,hne,h1]
    omega
   simp only [FZ] at h3|-
   rw [List.eraseP_cons_of_neg (by simpa using hkk),sF]
   exact .cons hp' h3
section
variable {P:Program} {t kt et:TypeId}
theorem Av{w b ps k ty t2}(ht:P.underlying t=some (.map kt et))(hk:P.underlying kt=some (.int .i64))(h:mV w b ps):
  ∃w',(Builtin.delete_ #[t,t2] ty #[.map (some b), .int .i64 k]).run P w= .ok (.tuple #[]) w'/\mV w' b (FZ ps k)/\w.grownBy w' (some b)/\w'.heap.size=w.heap.size/\w.drawn<=w'.drawn:=by
 have hlt:=h.lt
 obtain ⟨es,c,h1,h2,h3⟩:=h
 have hg: ∀o:Obj,w.grownBy {w with heap:=w.heap.setIfInBounds b o} (some b):=λo=>⟨rfl,rfl,rfl,by simp,λi _ hi=>by
  have hne:b≠i:=λe=>hi (by rw [e])
  exact gF hne⟩
 rcases FM k es.toList ps 0 h2 with ⟨ha,hs⟩|⟨j,x,ha,hj,hm⟩
 ·refine ⟨{w with heap:=w.heap.setIfInBounds b (.map es c)},?_,⟨es,c,cZ hlt,by rw [hs];exact h2,h3⟩,hg _,by simp,bA _⟩
  simp [Builtin.delete_,run_underlying ht,MapKept.run_getObj_map h1,gX hk,run_underlying hk,Instr.findKey,ha,Result.andThen,MapKept.run_setObj_map _ h1]
 rw [fq] at ha
 have he:(es.eraseIdxIfInBounds j).toList=es.toList.eraseIdx j:=by simp [Array.eraseIdxIfInBounds];split<;>simp_all
 refine ⟨{w with heap:=w.heap.setIfInBounds b (.map (es.eraseIdxIfInBounds j) c)},?_,⟨_,c,cZ hlt,by rw [he];exact hm,by rw [he];exact h3.sub (List.eraseIdx_sublist _ _)⟩,hg _,by simp,bA _⟩
 simp [Builtin.delete_,run_underlying ht,MapKept.run_getObj_map h1,gX hk,run_underlying hk,Instr.findKey,ha,Result.andThen,MapKept.run_setObj_map _ h1]
end
section
variable {c:Cx} {w0:World} {L:List Item} {f:Fr} {K:List Item->Fr->Prop} {d:Nat} {ty t kt et:TypeId} {pos:String} {af:Array Edge} {g:Bool} {x y z:Operand}
theorem AU{b ps key v u}(ht:c.P.underlying t=some (.map kt et))(hkt:c.P.underlying kt=some (.int .i64))(hz: ∀w,(zeroValue et).run c.P w= .ok v w)(hx:gH g f x (.map (some b)))(hy:gH g f y (.int .i64 key))(hI: ∀w,Mem w0 L w->mV w b ps)(hu:g=true->(lG ps key).getD v=u):gj g c w0 L f (.lookup t x y false) ty u:=λe _ _ _ _ w hw=>by
 simp [execOp,hx e,hy e,uc ht hkt hz (hI w hw) key,Result.andThen,hu e]
theorem mV.mem{b ps}(h:mV w0 b ps)(w)(hw:Mem w0 L w):mV w b ps:=h.kept (hw.1.block b h.lt)
def O2 (r m clock:Nat) (seen:Array Nat) (last:Nat):Item where
 fp:=λb=>b=r
 A:=λw=>w.heap[r]?=some (.mapIter (some m) clock seen last)
 st:=λ_ _ h hA=>(h r rfl).trans hA
theorem Jj{m clock es}(ht:c.P.underlying t=some (.map kt et))(hm: ∀w,Mem w0 L w->w.heap[m]?=some (.map es clock))(hx:ev f x= .map (some m))(hd:Nat.blt d c.N=true)(next: ∀r,K (O2 r m clock #[] clock::L) (kV f d (.pointer (some ⟨r,0,none⟩)))):vO c w0 L f ⟨some d, .range t x,ty,pos,af,none⟩ K:=
 ⟨rfl,rfl,hd,λw hw=>by
  have:(execOp (ev f) ⟨some d, .range t x,ty,pos,af,none⟩).run c.P w= .ok (.value (.pointer (some ⟨w.heap.size,0,none⟩))) (w.alloc (.mapIter (some m) clock #[] clock)):=by
   simp [execOp,hx,Instr.range,run_underlying ht,MapKept.run_getObj_map (hm w hw),Result.andThen]
  rw [this]
  exact ⟨_,hw.new _ (O2 w.heap.size m clock #[] clock) (λ_ h=>h) (heap_alloc_new w _),rfl,next _⟩⟩
theorem M6(k){r m clock last seen es}(hm : ∀ w, Mem w0 L w -> w.heap[m]? = some (.map es clock))(hB : lW es.toList clock)(hx : ev f x = .pointer (some ⟨r, 0, none⟩))(hk : L[k]? = some (O2 r m clock seen last))(hl : clock <= last)(hd : Nat.blt d c.N = true)(stop : (∀ e ∈ es.toList, seen.contains e.born = true) -> K L (kV f d (.tuple #[.bool false])))(step : ∀ e ∈ es.toList, seen.contains e.born = false -> K (L.set k (O2 r m clock (seen.push e.born) clock)) (kV f d (.tuple #[.bool true, e.key, e.val]))): vO c w0 L f ⟨some d, .next x false, ty, pos, af, none⟩ K :=
  ⟨rfl, rfl, hd, λw hw => by
    have hr : w.heap[r]? = some (.mapIter (some m) clock seen last) := hw.item hk
    have hrl := hw.nE hk (b := r) rfl
    rcases run_next_at (P := c.P) w ty r m clock last seen es clock hr (hm w hw) (λx hx => hB.lt x hx) hl with ⟨h0, hrun⟩ | ⟨e, he, w1, hw1, hrun⟩
    · have : (execOp (ev f) ⟨some d, .next x false, ty, pos, af, none⟩).run c.P w = .ok (.value (.tuple #[.bool false])) w := by simp [execOp, hx, hrun, Result.andThen]
      rw [this]
      refine ⟨L, hw, rfl, stop λe he => ?_⟩
      cases hc : seen.contains e.born with
      | true => rfl
      | false =>
        have : e ∈ (leftOf es seen).toList := by
          unfold leftOf
          simp only [Array.toList_filter, gO, jZ]
          exact ⟨he, hc⟩
        rw [Array.eq_empty_of_size_eq_zero h0] at this
        cases this
    · have : (execOp (ev f) ⟨some d, .next x false, ty, pos, af, none⟩).run c.P w = .ok (.value (.tuple #[.bool true, e.key, e.val])) (Go.ChangeMaps.setBlock w1 r (.mapIter (some m) clock (seen.push e.born) clock)) := by simp [execOp, hx, hrun, Result.andThen]
      rw [this]
      have hes : e ∈ es.toList /\ seen.contains e.born = false := by
        unfold leftOf at he
        simp only [Array.toList_filter, gO, jZ] at he
        exact he
      have hw1' : Mem w0 L w1 := by rcases hw1 with rfl | rfl; · exact hw
                                    · exact hw.drew
      refine ⟨L.set k (O2 r m clock (seen.push e.born) clock), ?_, hG hk rfl, step e hes.1 hes.2⟩
      have hrl1 := hw1'.nE hk (b := r) rfl
      refine hw1'.set (w' := Go.ChangeMaps.setBlock w1 r (.mapIter (some m) clock (seen.push e.born) clock)) (it' := O2 r m clock (seen.push e.born) clock) hk (λ_ h => h) ?_ ⟨rfl, rfl, rfl, by simp [Go.ChangeMaps.setBlock], bA _⟩ (λb hb => ?_)
      · show (w1.heap.setIfInBounds r _)[r]? = _
        exact cZ hrl1.2
      · show (w1.heap.setIfInBounds r _)[b]? = _
        exact gF (λe => hb e.symm)⟩
theorem Ii{es clock}(h:lW es clock):(es.map (·.born)).Nodup:=iD.2 (h.K2.imp λh=>Nat.ne_of_lt h)
theorem Jp(k:Nat){r m clock}{seen:Array Nat}{es e}(hm: ∀w,Mem w0 L w->w.heap[m]?=some (.map es clock))(hB:lW es.toList clock)(he:e∈es.toList)(hx:gH g f x (.pointer (some ⟨r,0,none⟩)))(hk:L[k]?=some (O2 r m clock (seen.push e.born) clock)):
  gj g c w0 L f (.entry x) ty (.tuple #[e.key,e.val]):=λhg _ _ _ _ w hw=>by
 have:=run_entry_at (P:=c.P) w r m clock seen es clock e (hw.item hk) (hm w hw) he (Ii hB)
 simp [execOp,hx hg,this,Result.andThen]
end
theorem p8{P w0 b o k t}: ∀(vs:List Value) (i:Nat) (cs:List Value) (w:World) (L:List Item),Mem w0 L w->L[k]?=some (box b t cs)->vs.all kK=true->o+i+vs.length<=cs.length->
  ∃w',(storeCells ⟨b,o,none⟩ vs i).run P w= .ok () w'/\Mem w0 (L.set k (box b t (setAt cs (o+i) vs))) w'/\(w'.os=w.os/\w'.tape=w.tape/\w'.output=w.output/\w'.heap.size=w.heap.size/\w.drawn<=w'.drawn)/\ ∀q,q≠b->w'.heap[q]?=w.heap[q]?
 |[],i,cs,w,L,hw,hk,_,_=>⟨w,by simp [storeCells],by
  have hi:L.set k (box b t cs)=L:=by
   obtain ⟨h1,h2⟩:=ai.1 hk
   rw [<-h2];exact pO h1
  show Mem w0 (L.set k (box b t cs)) w
  rw [hi];exact hw,⟨rfl,rfl,rfl,rfl,bA _⟩,λ_ _=>rfl⟩
 |v::r,i,cs,w,L,hw,hk,h1,hl=>by
  simp only [sG,de] at h1
  simp only [cL] at hl
  have hlt:o+i<cs.length:=by omega
  have hc:w.cell? ⟨b,o+i,none⟩=some cs[o+i]:=jR hw hk (ah hlt)
  have hf:w.frozen? ⟨b,o+i,none⟩=false:=GS hw hk _
  have hw1:=Jz hw hk (o+i) v
  have hk1:(L.set k (box b t (cs.set (o+i) v)))[k]?=some (box b t (cs.set (o+i) v)):=by
   grind
  obtain ⟨w',hr,hm,hos,hot⟩:=p8 (P:=P) (o:=o) r (i+1) (cs.set (o+i) v) (w.setCell ⟨b,o+i,none⟩ v) _ hw1 hk1 h1.2 (by simp;omega)
  refine ⟨w',?_,?_,⟨hos.1,hos.2.1,hos.2.2.1,by rw [hos.2.2.2.1];simp [World.setCell],hos.2.2.2.2⟩,λq hq=>(hot q hq).trans ?_⟩
  ·have hst:(store ⟨b,o+i,none⟩ v).run P w= .ok () (w.setCell ⟨b,o+i,none⟩ v):=by
    have h2:=h1.1
    cases v<;>simp [kK] at h2<;>simp [store,Sem.run,hc,hf]
   simp [storeCells,addr_add,hst,Result.andThen,hr]
  ·rw [gV] at hm
   exact hm
  simp [World.setCell,kl,Ne.symm hq]
def uK {β:Type} (ps:List (Int×Nat×β)):List (Int×Value):=ps.map λp=>(p.1, .pointer (some ⟨p.2.1,0,none⟩))
def vV {β:Type} (ps:List (Int×Nat×β)):List Nat:=ps.map λp=>p.2.1
def pmap {β:Type} (m:Nat) (t:TypeId) (enc:β->List Value) (ps:List (Int×Nat×β)):Item where
 fp:=λb=>b=m\/b∈vV ps
 A:=λw=>mV w m (uK ps)/\(∀p∈ps,w.heap[p.2.1]?=some (.cells (enc p.2.2).toArray t (0,0)))/\(vV ps).Nodup
 st:=λw w' h hA=>⟨hA.1.kept (h m (.inl rfl)),λp hp=>(h p.2.1 (.inr (cW.2 ⟨p,hp,rfl⟩))).trans (hA.2.1 p hp),hA.2.2⟩
theorem Kj{β}(ps:List (Int×Nat×β))(k):lG (uK ps) k=(ps.find? (λp=>p.1==k)).map λp=> .pointer (some ⟨p.2.1,0,none⟩):=by
 induction ps with
 |nil=>rfl
 |cons p ps ih=>
  grind [lG,uK]
theorem Ms{β}(ps:List (Int×Nat×β))(k):FZ (uK ps) k=uK (ps.eraseP λp=>p.1==k):=by
 induction ps with
 |nil=>rfl
 |cons p ps ih=>
  grind [FZ,uK]
theorem Mr{β}(ps:List (Int×Nat×β))(k b x)(h:ps.find? (λp=>p.1==k)=none):ou (uK ps) k (.pointer (some ⟨b,0,none⟩))=uK (ps++[(k,b,x)]):=by
 induction ps with
 |nil=>rfl
 |cons p ps ih=>
  grind [ou,uK]
section
variable {β:Type} {c:Cx} {w0:World} {L:List Item} {f:Fr} {K:List Item->Fr->Prop} {d m:Nat} {ty t kt et tb:TypeId} {pos:String} {af:Array Edge} {g:Bool} {x y z:Operand} {enc:β->List Value} {ps:List (Int×Nat×β)}
theorem pmap_map(k:Nat)(hk:L[k]?=some (pmap m tb enc ps))(w)(hw:Mem w0 L w):mV w m (uK ps):=(hw.item hk).1
theorem pc(k:Nat){q r:Nat}{p v}(hk:L[k]?=some (pmap m tb enc ps))(hp:ps[q]?=some p)(hv:(enc p.2.2)[r]?=some v):g=true-> ∀w,Mem w0 L w->w.cell? ⟨p.2.1,0+r,none⟩=some v:=λ_ w hw=>by
 have hA:(pmap m tb enc ps).A w:=hw.item hk
 have:=hA.2.1 p (aq hp)
 simp [World.cell?,this,hv]
theorem KN(k){t2 key}(ht:c.P.underlying t=some (.map kt et))(hkt:c.P.underlying kt=some (.int .i64))(hx:ev f x= .map (some m))(hy:ev f y= .int .i64 key)(hk:L[k]?=some (pmap m tb enc ps))(next:K (L.set k (pmap m tb enc (ps.eraseP λp=>p.1==key))) f):vO c w0 L f ⟨none, .call {callee:= .builtin .delete,args:= #[x,y],argTypes:= #[t,t2]},ty,pos,af,none⟩ K:=
 ⟨rfl,rfl,rfl,λw hw=>by
  have hA:(pmap m tb enc ps).A w:=hw.item hk
  obtain ⟨w',hrun,h1,h2,h3,h4⟩:=Av (P:=c.P) (k:=key) (ty:=ty) (t2:=t2) ht hkt hA.1
  have:(execOp (ev f) ⟨none, .call {callee:= .builtin .delete,args:= #[x,y],argTypes:= #[t,t2]},ty,pos,af,none⟩).run c.P w= .ok (.value (.tuple #[])) w':=by
   simp [execOp,resolve,invoke,builtin,hx,hy,hrun,Result.andThen]
  rw [this]
  have hsub:(ps.eraseP λp=>p.1==key).Sublist ps:=List.eraseP_sublist
  have hml:=(hw.nE hk (b:=m) (.inl rfl))
  have hne: ∀p∈ps,p.2.1≠m:=λp hp e=>by
   have h5:=hA.2.1 p hp
   obtain ⟨es,cl,h6,_⟩:=hA.1
   rw [e,h6] at h5;cases h5
  have hbl: ∀b,b≠m->w'.heap[b]?=w.heap[b]?:=λb hb=>by
   by_cases hlt:b<w.heap.size
   ·exact h2.block b hlt (λe=>hb (by injection e))
   rw [dC (by omega),dC (by omega)]
  refine ⟨_,hw.set (it':=pmap m tb enc (ps.eraseP λp=>p.1==key)) hk (λb hb=>?_) ⟨by rw [<-Ms];exact h1,λp hp=>(hbl p.2.1 (hne p (hsub.mem hp))).trans (hA.2.1 p (hsub.mem hp)),hA.2.2.sublist (hsub.map (λp:Int×Nat×β=>p.2.1))⟩ ⟨h2.os,h2.tape,h2.output,h3,h4⟩ (λb hb=>hbl b (λe=>hb (.inl e))),hG hk rfl,next⟩
  rcases hb with hb|hb
  ·exact .inl hb
  exact .inr ((hsub.map (λp:Int×Nat×β=>p.2.1)).mem hb)⟩
theorem KM(k){key b cs}(v)(ht:c.P.underlying t=some (.map kt et))(hkt:c.P.underlying kt=some (.int .i64))(hx:ev f x= .map (some m))(hy:ev f y= .int .i64 key)(hz:ev f z= .pointer (some ⟨b,0,none⟩))(hk:(box b tb cs::L)[k+1]?=some (pmap m tb enc ps))(hcs:cs=enc v)(hno:ps.find? (λp=>p.1==key)=none)(next:K (L.set k (pmap m tb enc (ps++[(key,b,v)]))) f):vO c w0 (box b tb cs::L) f ⟨none, .mapUpdate t x y z,ty,pos,af,none⟩ K:=
 ⟨rfl,rfl,rfl,λw hw=>by
  have hA:(pmap m tb enc ps).A w:=hw.item hk
  have hbx:w.heap[b]?=some (.cells cs.toArray tb (0,0)):=hw.item (k:=0) rfl
  have hbl0:=hw.nE (k:=0) (it:=box b tb cs) rfl (b:=b) rfl
  obtain ⟨w',hrun,h1,h2,h3,h4⟩:=p7 (P:=c.P) ht hkt hA.1 key (.pointer (some ⟨b,0,none⟩))
  have:(execOp (ev f) ⟨none, .mapUpdate t x y z,ty,pos,af,none⟩).run c.P w= .ok .skip w':=by simp [execOp,hx,hy,hz,hrun,Result.andThen]
  rw [this]
  have hk':L[k]?=some (pmap m tb enc ps):=by simpa using hk
  have hdis: ∀q,(pmap m tb enc ps).fp q->q≠b:=λq hq e=>by
   subst e
   exact (bB.1 hw.2.2.2).1 _ (aq hk') q rfl hq
  have hne: ∀p∈ps,p.2.1≠m:=λp hp e=>by
   have h5:=hA.2.1 p hp
   obtain ⟨es,cl,h6,_⟩:=hA.1
   rw [e,h6] at h5;cases h5
  have hbl: ∀q,q≠m->w'.heap[q]?=w.heap[q]?:=λq hq=>by
   by_cases hlt:q<w.heap.size
   ·exact h2.block q hlt (λe=>hq (by injection e))
   rw [dC (by omega),dC (by omega)]
  have hbm:b≠m:=λe=>hdis m (.inl rfl) e.symm
  have hnd:(vV (ps++[(key,b,v)])).Nodup:=by
   unfold vV
   rw [eY]
   refine um.2 ⟨hA.2.2,by simp,λq hq r hr=>?_⟩
   simp at hr
   subst hr
   exact hdis q (.inr hq)
  have hAll:(pmap m tb enc (ps++[(key,b,v)])).A w':=⟨by rw [<-Mr ps key b v hno];exact h1,λp hp=>by
   rcases bO.1 hp with hp|hp
   ·exact (hbl p.2.1 (hne p hp)).trans (hA.2.1 p hp)
   simp at hp
   subst hp
   rw [<-hcs]
   exact (hbl b hbm).trans hbx,hnd⟩
  refine ⟨L.set k (pmap m tb enc (ps++[(key,b,v)])),?_,hG hk' rfl,next⟩
  obtain ⟨q1,q2,q3,q4⟩:=hw
  have hLk:k<L.length:=(ai.1 hk').1
  have hfp: ∀q,(pmap m tb enc (ps++[(key,b,v)])).fp q->(pmap m tb enc ps).fp q\/q=b:=λq hq=>by
   rcases hq with hq|hq
   ·exact .inl (.inl hq)
   simp only [vV,eY,kh,E4,bO,cm] at hq
   rcases hq with hq|hq
   ·exact .inl (.inr hq)
   exact .inr hq
  have hp1:=bB.1 q4
  have hother: ∀(j:Nat) it,L[j]?=some it->j≠k->(∀q,it.fp q-> ¬(pmap m tb enc ps).fp q)/\(∀q,it.fp q->q≠b):=λj it hj hjk=>by
   constructor
   ·intro q hq hq2
    obtain ⟨p1,e1⟩:=ai.1 hj
    obtain ⟨p2,e2⟩:=ai.1 hk'
    rcases sD hjk with h|h
    ·exact bJ.1 hp1.2 j k p1 p2 h q (e1▸hq) (e2▸hq2)
    exact bJ.1 hp1.2 k j p2 p1 h q (e2▸hq2) (e1▸hq)
   intro q hq e
   subst e
   exact hp1.1 it (aq hj) q rfl hq
  have hset: ∀(j:Nat) it,(L.set k (pmap m tb enc (ps++[(key,b,v)])))[j]?=some it->(j=k/\it=pmap m tb enc (ps++[(key,b,v)]))\/(j≠k/\L[j]?=some it):=λj it hj=>by
   rw [cD] at hj
   split at hj
   ·rename_i e
    cases hj;exact .inl ⟨e.symm,rfl⟩
   rename_i e
   exact .inr ⟨λh=>e h.symm,hj⟩
  refine ⟨⟨⟨h2.os.trans q1.os,h2.tape.trans q1.tape,h2.output.trans q1.output,by rw [h3];exact q1.size,λq hq=>(hbl q (λe=>?_)).trans (q1.block q hq)⟩,gL q1.drawn h4⟩,?_,?_,?_⟩
  ·subst e
   have:=(q3 _ (bR _ (aq hk')) q (.inl rfl)).1
   omega
  ·intro it hi
   obtain ⟨j,hj⟩:=cG.1 hi
   rcases hset j it hj with ⟨_,rfl⟩|⟨hjk,hj⟩
   ·exact hAll
   exact it.st w w' (λq hq=>hbl q (λe=>(hother j it hj hjk).1 q hq (.inl e))) (q2 it (bR _ (aq hj)))
  ·intro it hi q hq
   rw [h3]
   obtain ⟨j,hj⟩:=cG.1 hi
   rcases hset j it hj with ⟨_,rfl⟩|⟨hjk,hj⟩
   ·rcases hfp q hq with hq|rfl
    ·exact q3 _ (bR _ (aq hk')) q hq
    exact hbl0
   exact q3 it (bR _ (aq hj)) q hq
  rw [bJ]
  intro i j hi hj hij q hq1 hq2
  have hi':=hset i _ (ah hi)
  have hj':=hset j _ (ah hj)
  rcases hi' with ⟨ei,e1⟩|⟨hik,e1⟩
  ·rcases hj' with ⟨ej,_⟩|⟨hjk,e2⟩
   ·omega
   rw [e1] at hq1
   rcases hfp q hq1 with h|h
   ·exact (hother j _ e2 hjk).1 q hq2 h
   exact (hother j _ e2 hjk).2 q hq2 h
  rcases hj' with ⟨ej,e2⟩|⟨hjk,e2⟩
  ·rw [e2] at hq2
   rcases hfp q hq2 with h|h
   ·exact (hother i _ e1 hik).1 q hq1 h
   exact (hother i _ e1 hik).2 q hq1 h
  obtain ⟨p1,e3⟩:=ai.1 e1
  obtain ⟨p2,e4⟩:=ai.1 e2
  exact bJ.1 hp1.2 i j p1 p2 hij q (e3▸hq1) (e4▸hq2)⟩
theorem zZ(k){q off n p}(v'){v}(hx:ev f x= .pointer (some ⟨p.2.1,0+off,none⟩))(hy:ev f y=v)(hs: ∀w,(sizeOf t).run c.P w= .ok n w)(hn:v.cells.size=n)(h1:v.cells.toList.all kK=true)(hk:L[k]?=some (pmap m tb enc ps))(hp:ps[q]?=some p)(ho:off+v.cells.toList.length<=(enc p.2.2).length)(hv:enc v'=setAt (enc p.2.2) off v.cells.toList)(next:K (L.set k (pmap m tb enc (ps.set q (p.1,p.2.1,v')))) f):vO c w0 L f ⟨none, .store t x y,ty,pos,af,none⟩ K:=
 ⟨rfl,rfl,rfl,λw hw=>by
  have hA:(pmap m tb enc ps).A w:=hw.item hk
  have hmem:=aq hp
  have hcell:=hA.2.1 p hmem
  have hLk:k<L.length:=(ai.1 hk).1
  have hbnd:=hw.nE hk (b:=p.2.1) (.inr (cW.2 ⟨p,hmem,rfl⟩))
  have hw1:Mem w0 (L.set k (box p.2.1 tb (enc p.2.2))) w:=hw.swap hk (λb hb=>by cases hb;exact .inr (cW.2 ⟨p,hmem,rfl⟩)) hcell
  obtain ⟨w',hrun,hm,hos,hother⟩:=p8 (P:=c.P) (b:=p.2.1) (t:=tb) (o:=off) (k:=k) v.cells.toList 0 (enc p.2.2) w _ hw1 (by simp [hLk]) h1 (by simpa using ho)
  rw [gV,pN] at hm
  have hbox:w'.heap[p.2.1]?=some (.cells (enc v').toArray tb (0,0)):=by
   have:=hm.item (k:=k) (it:=box p.2.1 tb (setAt (enc p.2.2) off v.cells.toList)) (by simp [hLk])
   rw [hv];exact this
  rw [fq] at hx
  have:(execOp (ev f) ⟨none, .store t x y,ty,pos,af,none⟩).run c.P w= .ok .skip w':=by
   simp [execOp,hx,hy,Instr.storeAt,Instr.sureAddr,storeVar,hs,hn,hrun,Result.andThen]
  rw [this]
  have hblocks:vV (ps.set q (p.1,p.2.1,v'))=vV ps:=by
   unfold vV
   rw [uC]
   apply fh
   intro i
   rw [cD]
   split
   ·rename_i e;subst e
    simp only [aS,cV,hp]
    rw [aB (ai.1 hp).1];rfl
   rfl
  have hptrs:uK (ps.set q (p.1,p.2.1,v'))=uK ps:=by
   unfold uK
   rw [uC]
   apply fh
   intro i
   rw [cD]
   split
   ·rename_i e;subst e
    simp only [aS,cV,hp]
    rw [aB (ai.1 hp).1];rfl
   rfl
  have hne: ∀p∈ps,p.2.1≠m:=λp hp e=>by
   have h5:=hA.2.1 p hp
   obtain ⟨es,cl,h6,_⟩:=hA.1
   rw [e,h6] at h5;cases h5
  refine ⟨_,hw.set (it':=pmap m tb enc (ps.set q (p.1,p.2.1,v'))) hk (λb hb=>?_) ⟨?_,?_,by rw [hblocks];exact hA.2.2⟩ hos (λb hb=>hother b (λe=>hb (.inr (by rw [e];exact cW.2 ⟨p,hmem,rfl⟩)))),hG hk rfl,next⟩
  ·rcases hb with hb|hb
   ·exact .inl hb
   rw [hblocks] at hb;exact .inr hb
  ·rw [hptrs];exact hA.1.kept (hother m (λe=>hne p hmem e.symm))
  intro r hr
  obtain ⟨i,hi⟩:=cG.1 hr
  rw [cD] at hi
  split at hi
  ·split at hi
   ·cases hi;exact hbox
   cases hi
  rename_i hqi
  have hrm:=aq hi
  refine (hother r.2.1 (λe=>?_)).trans (hA.2.1 r hrm)
  have h6:=bJ.1 hA.2.2
  obtain ⟨p1,e1⟩:=ai.1 hi
  obtain ⟨p2,e2⟩:=ai.1 hp
  rcases sD hqi with h|h
  ·exact h6 q i (by simpa [vV] using p2) (by simpa [vV] using p1) h (by simp [vV,e1,e2,e])
  exact h6 i q (by simpa [vV] using p1) (by simpa [vV] using p2) h (by simp [vV,e1,e2,e])⟩
end
end Go.Proofs.E
namespace Go.Proofs.E
open Go Go.RowKit
section
variable {β:Type} {c:Cx} {w0:World} {L:List Item} {f:Fr} {K:List Item->Fr->Prop} {d:Nat} {ty t kt et:TypeId} {pos:String} {af:Array Edge} {x y z:Operand}
theorem lN (hd:Nat.blt d c.N=true) (next: ∀b,K (oP b []::L) (kV f d (.map (some b)))):vO c w0 L f ⟨some d, .makeMap t none,ty,pos,af,none⟩ K:=
 ⟨rfl,rfl,hd,λw hw=>by
  have:(execOp (ev f) ⟨some d, .makeMap t none,ty,pos,af,none⟩).run c.P w= .ok (.value (.map (some w.heap.size))) (w.alloc (.map #[] 0)):=by simp [execOp,run_makeMap,Result.andThen]
  rw [this]
  exact ⟨_,hw.new _ (oP w.heap.size []) (λ_ h=>h) (mV.made w),rfl,next _⟩⟩
theorem rH(tb enc)(hd:Nat.blt d c.N=true)(next: ∀b,K (pmap b tb enc ([]:List (Int×Nat×β))::L) (kV f d (.map (some b)))):vO c w0 L f ⟨some d, .makeMap t none,ty,pos,af,none⟩ K:=
 ⟨rfl,rfl,hd,λw hw=>by
  have:(execOp (ev f) ⟨some d, .makeMap t none,ty,pos,af,none⟩).run c.P w= .ok (.value (.map (some w.heap.size))) (w.alloc (.map #[] 0)):=by simp [execOp,run_makeMap,Result.andThen]
  rw [this]
  exact ⟨_,hw.new _ (pmap w.heap.size tb enc []) (λ_ h=>h.elim id (λh=>by simp [vV] at h)) ⟨mV.made w,λp hp=>by simp at hp,by simp [vV]⟩,rfl,next _⟩⟩
theorem M7(k){b ps key v}(ht:c.P.underlying t=some (.map kt et))(hkt:c.P.underlying kt=some (.int .i64))(hx:ev f x= .map (some b))(hy:ev f y= .int .i64 key)(hz:ev f z=v)(hk:L[k]?=some (oP b ps))(next:K (L.set k (oP b (ou ps key v))) f):vO c w0 L f ⟨none, .mapUpdate t x y z,ty,pos,af,none⟩ K:=
 ⟨rfl,rfl,rfl,λw hw=>by
  have hA:mV w b ps:=hw.item hk
  obtain ⟨w',hrun,h1,h2,h3,h4⟩:=p7 (P:=c.P) ht hkt hA key v
  have:(execOp (ev f) ⟨none, .mapUpdate t x y z,ty,pos,af,none⟩).run c.P w= .ok .skip w':=by simp [execOp,hx,hy,hz,hrun,Result.andThen]
  rw [this]
  refine ⟨_,hw.set (it':=oP b (ou ps key v)) hk (λ_ h=>h) h1 ⟨h2.os,h2.tape,h2.output,h3,h4⟩ (λb' hb'=>?_),hG hk rfl,next⟩
  by_cases hlt:b'<w.heap.size
  ·exact h2.block b' hlt (λe=>hb' (by injection e))
  rw [dC (by omega),dC (by omega)]⟩
end
theorem Mem.uw{w0 w X S L}(h:Mem w0 (X++(S++L)) w):Mem w0 (S++(X++L)) w:=h.perm (xf ..)
theorem Mem.xU{w0 w X S L}(h:Mem w0 (S++(X++L)) w):Mem w0 (S++L) w:=h.sublist (List.Sublist.append_left (List.sublist_append_right ..) _)
theorem Mem.Vm{w0 w a b L}(hm:Mem w0 (a::b::L) w):Mem w0 (b::a::L) w:=hm.perm (l5 (l₁:=[b]))
theorem Mem.Vo{w0 w a b L}(hm:Mem w0 (b::a::L) w):Mem w0 (a::b::L) w:=hm.perm (l5 (l₁:=[b])).symm
theorem Mem.mv2{w0 w a b c L}(hm:Mem w0 (a::b::c::L) w):Mem w0 (b::c::a::L) w:=hm.perm (l5 (l₁:=[b,c]))
theorem Mem.Vl{w0 w a b c d e L}(hm:Mem w0 (a::b::c::d::e::L) w):Mem w0 (b::c::d::e::a::L) w:=hm.perm (l5 (l₁:=[b,c,d,e]))
theorem Mem.Vn{w0 w a b c d e L}(hm:Mem w0 (b::c::d::e::a::L) w):Mem w0 (a::b::c::d::e::L) w:=hm.perm (l5 (l₁:=[b,c,d,e])).symm
end Go.Proofs.E
namespace Go.Proofs.E
open Go Go.RowKit
theorem bQ{P t}{cs:List Value}{k x}(w)(ha: ∀w,(isAgg t).run P w= .ok false w)(hx:cs[k]?=some x):(part t cs.toArray k).run P w= .ok x w:=by
 simp [part,ha,hx,Result.andThen]
theorem je {P:Program} {t:TypeId} {cs:List Value} {k n:Nat} {vs:List Value} (w:World) (ha: ∀w,(isAgg t).run P w= .ok true w) (hs: ∀w,(sizeOf t).run P w= .ok n w) (hv:(cs.drop k).take n=vs):(part t cs.toArray k).run P w= .ok (.agg vs.toArray) w:=by
 subst hv
 simp [part,ha,hs,Result.andThen]
theorem oy{P d xs ys}(w):(Op.eqFields (d+1) xs ys []).run P w= .ok true w:=by simp [Op.eqFields]
theorem fL{P d xs ys f fs vx vy b r}(w)(h1:f.name≠ "_")(hx:(part f.type xs f.offset).run P w= .ok vx w)(hy:(part f.type ys f.offset).run P w= .ok vy w)(he:(Op.equalIn (d+1) f.type vx vy).run P w= .ok b w)(ih:(Op.eqFields (d+1) xs ys fs).run P w= .ok r w):(Op.eqFields (d+1) xs ys (f::fs)).run P w= .ok (b&&r) w:=by
 simp only [Op.eqFields,h1,ne_eq,Oa,E2,Sem.run_bind,hx,hy,Result.andThen_ok,he,Sem.run_ite]
 cases b with
 |false=>rfl
 |true=>rw [an (by decide),ih];rfl
theorem rI{P d t fs xs ys r}(w)(ht:P.underlying t=some (.struct fs))(hp:P.stoodInHeld t=false)(h:(Op.eqFields (d+1) xs ys fs.toList).run P w= .ok r w):(Op.equalIn (d+2) t (.agg xs) (.agg ys)).run P w= .ok r w:=by
 have e:P.fieldsOf t=fs:=by unfold Program.fieldsOf;rw [ht]
 rw [run_equalIn_struct w (d+1) t _ _ (by rw [e];exact ht) hp,e]
 exact h
section
variable {c:Cx} {PQ:PJ} {w0:World} {L:List Item} {f:Fr} {ops rest:List Oper} {d:Nat} {ty:TypeId} {pos:String} {af:Array Edge} {g:Bool} {v:Value} {dr:Bool}
theorem gj.any{op}(h:gj true c w0 L f op ty v):gj g c w0 L f op ty v:=λ_=>h rfl
end
end Go.Proofs.E
namespace Go.Proofs.E
open Go Go.RowKit
section
variable {F:Fence} {n:Nat} {P:Program} {ops:Array Oper} {md:Region.Mode} {C:World->Prop}
def Bf (F:Fence) (n:Nat) (P:Program) (md:Region.Mode) (ops:Array Oper) (C:World->Prop) (T:Array Bool->Act->Prop):Nat->Array Bool->Act->Prop
 |0,listed,a=>(∀j∈Region.ready md ops listed,j+1=ops.size)/\T listed a
 |fuel+1,listed,a=>Region.ready md ops listed≠[]/\ ∀i∈Region.ready md ops listed,i+1≠ops.size/\qOpIn F n P ops C i (Bf F n P md ops C T fuel (listed.setIfInBounds i true)) a
def zD (md:Region.Mode) (ops:Array Oper) (listed:Array Bool):Prop:= ∀(j:Nat) oj,ops[j]?=some oj->listed.getD j false=true-> ∀e∈oj.after,Region.binds md e=true->listed.getD e.on false=true
theorem zD.set{listed i}(h:zD md ops listed)(hr:i∈Region.ready md ops listed):zD md ops (listed.setIfInBounds i true):=by
 intro j oj hj hl e he hb
 by_cases hij:i=j
 ·subst hij
  obtain ⟨_,o,ho,hall⟩:=mem_ready.1 hr
  rw [hj] at ho;cases ho
  exact getD_set_true (hall e he hb)
 rw [getD_set_ne false hij] at hl
 exact getD_set_true (h j oj hj hl e he hb)
def waits (md:Region.Mode) (ops:Array Oper) (ol:Oper) (i:Nat):Bool:=
 ol.after.any λe=>Region.binds md e&&(e.on==i||((ops[e.on]?).map λoe=>oe.after.any λe'=>Region.binds md e'&&e'.on==i).getD false)
theorem DL{T i oi v}(hi:ops[i]?=some oi)(hil:i+1≠ops.size)(hsel: ∀(j:Nat) (o:Oper) cs b,ops[j]?=some o->o.op≠ .select cs b)(hw: ∀ol,ops[ops.size -1]?=some ol->waits md ops ol i=true):
  ∀(fuel:Nat) (listed:Array Bool) (a:Act),zD md ops listed->
   (∀j oj,ops[j]?=some oj->j≠i->listed.getD j true=false->(∀e∈oj.after,Region.binds md e=true->e.on≠i)->oi.apart ops oj=true)->
   i∈Region.ready md ops listed->YieldsQuiet F n P ops C oi v a->
   Bf F n P md ops C T fuel (listed.setIfInBounds i true) (a.put oi.dst v)->Bf F n P md ops C T (fuel+1) listed a:=by
 have hlast: ∀listed:Array Bool,zD md ops listed->i∈Region.ready md ops listed-> ∀j∈Region.ready md ops listed,j+1≠ops.size:=by
  intro listed hcl hr j hj e
  obtain ⟨_,oj,hoj,hall⟩:=mem_ready.1 hj
  have hwt:=hw oj (by rw [show ops.size -1=j by omega];exact hoj)
  obtain ⟨ed,hed,hwt⟩:=Array.any_eq_true'.1 hwt
  simp only [de,pR,UO] at hwt
  have h0:=(mem_ready.1 hr).1
  have h1:listed.getD i false=true:=by
   have h2:=hall ed hed hwt.1
   rcases hwt.2 with h3|h3
   ·rw [h3] at h2;exact h2
   cases ho:ops[ed.on]? with
   |none=>rw [ho] at h3;cases h3
   |some oe=>
    rw [ho] at h3
    simp only [ni,ix] at h3
    obtain ⟨e',he',h4⟩:=Array.any_eq_true'.1 h3
    simp only [de,UO] at h4
    have:=hcl ed.on oe ho h2 e' he' h4.1
    rw [h4.2] at this
    exact this
  rcases uA i listed.size with h'|h'
  ·simp [h'] at h0 h1;rw [h0] at h1;cases h1
  simp [dC h'] at h1
 intro fuel
 induction fuel with
 |zero=>
  intro listed a hcl _ hr hy H
  refine ⟨λh=>(by rw [h] at hr;cases hr),λj hj=>⟨hlast listed hcl hr j hj,?_⟩⟩
  by_cases hji:j=i
  ·subst hji;exact hy.qOpIn hi H
  have:=H.1 j (ready_mono hj hji)
  exact absurd this (hlast listed hcl hr j hj)
 |succ fuel ih=>
  intro listed a hcl hfree hr hy H
  refine ⟨λh=>(by rw [h] at hr;cases hr),λj hj=>⟨hlast listed hcl hr j hj,?_⟩⟩
  by_cases hji:j=i
  ·subst hji;exact hy.qOpIn hi H
  have h1:=(H.2 j (ready_mono hj hji)).2
  obtain ⟨hjun,oj,hoj,hall⟩:=mem_ready.1 hj
  have hnot: ∀e∈oj.after,Region.binds md e=true->e.on≠i:=λe he hb heq=>by
   have h1:=hall e he hb
   have h0:=(mem_ready.1 hr).1
   rw [heq] at h1
   rcases uA i listed.size with h'|h'
   ·simp [h'] at h0 h1;rw [h0] at h1;cases h1
   simp [dC h'] at h1
  have h2:=qOpIn_put hoj (hfree j oj hoj hji hjun hnot) (λcs b=>hsel i oi cs b hi) (λcs b=>hsel j oj cs b hoj) hy h1
  have hfree': ∀k ok,ops[k]?=some ok->k≠i->(listed.setIfInBounds j true).getD k true=false->
    (∀e∈ok.after,Region.binds md e=true->e.on≠i)->oi.apart ops ok=true:=λk ok hk hki hun hno=>by
   refine hfree k ok hk hki ?_ hno
   by_cases hjk:j=k
   ·subst hjk;exact hjun
   rw [getD_set_ne true hjk] at hun;exact hun
  refine qOpIn_mono (λa' h3=>ih (listed.setIfInBounds j true) a' (hcl.set hj) hfree' (ready_mono hr (Ne.symm hji)) h3.1 ?_) h2
  rw [UT _ _ hji]
  exact h3.2
def Kx (md:Region.Mode) (ops:Array Oper):Nat->Nat->Array Bool->Bool
 |0,_,listed=>(Region.ready md ops listed==[ops.size -1])&&(Region.ready md ops (listed.setIfInBounds (ops.size -1) true)).isEmpty
 |fuel+1,k,listed=>(Region.ready md ops listed).contains k&&Region.free md ops listed k&&((ops[ops.size -1]?).map (λo=>waits md ops o k)).getD false&&Kx md ops fuel (k+1) (listed.setIfInBounds k true)
theorem Be{Q}(hs:Region.noSelect ops=true): ∀(l:List Oper) (k:Nat) (listed:Array Bool) (a:Act),k+l.length+1=ops.size->(∀(j:Nat),j<l.length->l[j]?=ops[k+j]?)->zD md ops listed->
  Kx md ops l.length k listed=true->wpQuietIn F n P ops C Q l a->Bf F n P md ops C (λlisted' a'=>Q a'/\Region.ready md ops listed'=[ops.size -1]/\Region.ready md ops (listed'.setIfInBounds (ops.size -1) true)=[]) l.length listed a
 |[],k,listed,a,hsz,_,_,hB,h=>by
  simp only [dO,Kx,de,UO,QG] at hB
  refine ⟨λj hj=>?_,h,hB.1,hB.2⟩
  grind
 |o::l,k,listed,a,hsz,hl,hcl,hB,h=>by
  have h0:ops[k]?=some o:=by simpa using (hl 0 (by simp)).symm
  simp only [cL,Kx,de] at hB
  obtain ⟨⟨⟨hr,hf⟩,hlast⟩,hB'⟩:=hB
  have hst:qOpIn F n P ops C k (wpQuietIn F n P ops C Q l) a:=by unfold qOpIn;simp only [h0];exact h
  obtain ⟨v,hy,hK⟩:=yieldsQuiet_of_qOpIn h0 hst
  simp only [cL] at hsz
  exact DL h0 (by omega) (Region.noSelect_spec hs) (λol hol=>by
    rw [hol] at hlast
    simpa using hlast) l.length listed a hcl (Region.free_spec h0 hf) (by simpa using hr) hy
   (Be hs l (k+1) _ _ (by omega) (λj hj=>by have:=hl (j+1) (by simpa using hj);simpa [kf,Nat.add_comm 1 j] using this) (hcl.set (by simpa using hr)) hB' hK)
theorem xi{T Q'}(hnd: ∀(j:Nat) o,ops[j]?=some o-> ∀x,o.op≠ .defer x)(hT: ∀listed a w,C w->T listed a->wpAnyIn F n P md ops Q' 1 listed a w): ∀(fuel:Nat) (listed:Array Bool) (a:Act) (w:World),C w->
  Bf F n P md ops C T fuel listed a->wpAnyIn F n P md ops Q' (fuel+1) listed a w
 |0,_,_,_,hw,h=>hT _ _ _ hw h.2
 |fuel+1,_,_,_,hw,h=>⟨λh0=>absurd h0 h.1,λi hi=>sH hnd hw (λa' w' hw' h'=>xi hnd hT fuel _ a' w' hw' h') (h.2 i hi).2⟩
end
theorem P1{c PQ w0 L f id ops qs last}(hops:ops=qs++[last])(hm:c.P.follows .mixedOrders=true)(hB:(Region.noSelect ops.toArray&&Kx .any ops.toArray qs.length 0 (Array.replicate ops.length false)&&ops.all (λo=>!ew o.op))=true)(h:QL c ops qs w0 L (λf'=>HL c ops [last] PQ w0 L f') f):H c (.region id ops.toArray true) PQ w0 L f:=by
 intro a w ha hw
 simp only [de] at hB
 obtain ⟨⟨hS,hX⟩,hD⟩:=hB
 have hsz:ops.toArray.size=qs.length+1:=by rw [hops];simp
 have hlast:ops.toArray[ops.toArray.size -1]?=some last:=by rw [hsz,hops];simp
 have hnd: ∀(j:Nat) (o:Oper),ops.toArray[j]?=some o-> ∀x,o.op≠ .defer x:=λj o hj=>lK (by
  have hmem:o∈ops:=aq (by simpa using hj)
  simpa using kH.1 hD o hmem)
 refine wpIn_region_any hm ?_
 rw [hsz]
 refine xi (C:=Mem w0 L) hnd (T:=λlisted' a'=>(∃f',nH c.N (marks L) a' f'/\HL c ops [last] PQ w0 L f')/\Region.ready .any ops.toArray listed'=[ops.toArray.size -1]/\Region.ready .any ops.toArray (listed'.setIfInBounds (ops.toArray.size -1) true)=[]) ?_ qs.length _ a _ hw.drew ?_
 ·rintro listed' a' w' hw' ⟨⟨f',h1,h2⟩,h3,h4⟩
  refine ⟨λh0=>(by rw [h3] at h0;cases h0),λi hi=>?_⟩
  rw [h3] at hi
  obtain rfl:=cm.1 hi
  have h5:wpListIn (FW c.ro) 0 c.P ops.toArray (lift c PQ) [last] a' w':=h2 a' w' h1 hw'
  unfold wpOpIn
  rw [hlast]
  show if _ then _ else _
  have h6:if Region.wanted last (yielded ops.toArray a'.tmps) then last.wpIn (FW c.ro) 0 c.P a' w' (wpListIn (FW c.ro) 0 c.P ops.toArray (lift c PQ) []) (lift c PQ) else (∀f,last.about c.P w' a'.eval=some f->(FW c.ro).fn f)/\wpListIn (FW c.ro) 0 c.P ops.toArray (lift c PQ) [] (a'.put last.dst undef) w':=h5
  have hk:wpListIn (FW c.ro) 0 c.P ops.toArray (lift c PQ) []=wpAnyIn (FW c.ro) 0 c.P .any ops.toArray (lift c PQ) 0 (listed'.setIfInBounds (ops.toArray.size -1) true):=by
   funext x y
   show lift c PQ .normal x y=(_/\_)
   exact propext ⟨λh=>⟨h4,h⟩,λh=>h.2⟩
  rw [hk] at h6
  exact h6
 have:=Be (F:=FW c.ro) (n:=0) (P:=c.P) (md:= .any) (C:=Mem w0 L) (ops:=ops.toArray) (Q:=λa'=> ∃f',nH c.N (marks L) a' f'/\HL c ops [last] PQ w0 L f') hS qs 0 (Array.replicate ops.length false) a (by rw [hsz];omega) (λj hj=>by rw [hops];simp [gm hj]) (λj oj _ hl=>by simp [Array.getElem?_replicate] at hl;split at hl<;>simp_all) hX (h a ha)
 have e:Array.replicate (qs.length+1) false=Array.replicate ops.length false:=by rw [hops];simp
 rw [e]
 exact this
theorem RT{c PQ w0 L f id ops}(hops:ops=ops.dropLast++[ops.getLastD default])(hm:c.P.follows .mixedOrders=true)(hB:(Region.noSelect ops.toArray&&Kx .any ops.toArray ops.dropLast.length 0 (Array.replicate ops.length false)&&ops.all (λo=>!ew o.op))=true)(h:XL true c ops ops.dropLast (Bm (λw0 L f'=>XL false c ops [ops.getLastD default] PQ w0 L f') PQ) w0 L f):H c (.region id ops.toArray true) PQ w0 L f:=P1 hops hm hB h
end Go.Proofs.E
namespace Go.Proofs.E
open Go Go.RowKit
def NV {α:Type} (P:Program) (gf:FuncId) (lb:Array Value) (encs:α->Array Value) (xs:List α) (R:World->Prop):Prop:=
 ∀(l:Nat) (J:List α->World->Prop) (Jx:World->Prop) (W:World),R W->J [] W->(∀pre W W',J pre W->fM W W'->J pre W')->(∀W W',Jx W->fM W W'->Jx W')->
  (∀pre x W1,(pre++[x])<+:xs->R W1->J pre W1->YieldAt (FW none) 0 P l (encs x) W1 λe W'=>(e= .returned (.bool true)/\J (pre++[x]) W'/\R W')\/(e= .returned (.bool false)/\Jx W'))->
  Calls P gf (#[.func (.yield l) #[] #[]]++lb) W λe W'=>e= .returned (.tuple #[])/\(J xs W'\/Jx W')
def s6 (l:Nat) (r:Loop):Item where
 fp:=λx=>x=l
 A:=λw=>w.heap[l]?=some (.loop r)
 st:=λ_ _ h hA=>(h l rfl).trans hA
theorem Mem.wM{w0 w l r r' L}(h:Mem w0 (s6 l r::L) w):Mem w0 (s6 l r'::L) (w.putObj l (.loop r')):=by
 have hl:=h.2.2.1 _ (dV ..) l rfl
 have:=h.set (k:=0) (it:=s6 l r) (it':=s6 l r') (w':=w.putObj l (.loop r')) rfl (λ_ h=>h) (World.putObj_heap_same hl.2) ⟨rfl,rfl,rfl,by simp,bA _⟩ (λb hb=>World.putObj_heap_other hb)
 exact this
theorem Mem.rec{w0 w l r L}(h:Mem w0 (s6 l r::L) w):w.heap[l]?=some (.loop r):=h.2.1 _ (dV ..)
def Oj (f:Fr):List Nat->List Value->Fr
 |p::ps,v::vs=>Oj (kV f p v) ps vs
 |_,_=>f
theorem Gh{N}: ∀(ps:List Nat) (vs:List Value) (t:Array Value) (f:Fr),t.size=N->(∀i,t.getD i undef=f i)->ps.all (λp=>Nat.blt p N)=true->
  nH N [] {tmps:=(ps.zip vs).foldl (λt (p:Nat×Value)=>t.setIfInBounds p.1 p.2) t,defers:=[]} (Oj f ps vs)
 |[],_,t,f,hs,hg,_=>⟨hs,hg,rfl⟩
 |p::ps,[],t,f,hs,hg,_=>⟨hs,hg,rfl⟩
 |p::ps,v::vs,t,f,hs,hg,hp=>by
  simp only [sG,de] at hp
  have h1:nH N [] {tmps:=t,defers:=[]} f:=⟨hs,hg,rfl⟩
  have h2:=h1.put hp.1 v
  exact Gh ps vs _ _ h2.size h2.get hp.2
def Mh (w0:World) (l:Nat) (r:Loop) (D:Nat) (Ln:List Item) (Ix:Code->List Item->Prop):PJ
 | .normal=>λw0' L _=> ∀w,Mem w0' L w->Mem w0 (s6 l r::se D::Ln) w
 | .exit i=>λw0' L _=> ∃L',Ix (.exit i) L'/\ ∀w,Mem w0' L w->Mem w0 (s6 l r::se D::L') w
 | .ret=>λw0' L _=> ∃L',Ix .ret L'/\ ∀w,Mem w0' L w->Mem w0 (s6 l r::se D::L') w
 |_=>λ_ _ _=>False
def T0 (w0:World) (l:Nat) (r:Loop) (D:Nat) (K:Loop->J):PJ
 | .normal=>λw0' L f=> ∃L2,marks L=[]/\marks L2=[]/\(∀w,Mem w0' L w->Mem w0 (s6 l r::se D::L2) w)/\ ∀r',K r' w0 (s6 l r'::se D::L2) f
 |_=>λ_ _ _=>False
theorem GU{w0 w0' l D r K L f}(L2)(h1:marks L=[])(h2:marks L2=[])(hm: ∀w,Mem w0' L w->Mem w0 (s6 l r::se D::L2) w)(h: ∀r',K r' w0 (s6 l r'::se D::L2) f):T0 w0 l r D K .normal w0' L f:=⟨L2,h1,h2,hm,h⟩
theorem wu{w0 w0' l D r Ln L Ix f}(hm: ∀w,Mem w0' L w->Mem w0 (s6 l r::se D::Ln) w):Mh w0 l r D Ln Ix .normal w0' L f:=hm
theorem P0{α c PQ w0 L f gop ps asg body gf lb encs}(xs R)(Li:List α->List Item)(Ix)(hro:c.ro=none)(hg:ev f gop= .func (.func gf) #[] lb)(he: ∀args w,(callFunc gf args).run c.P w= .ok (.enter gf args) w)(hit:NV c.P gf lb encs xs R)(hps: ∀x,(encs x).size=ps.length)(hpN:ps.all (λp=>Nat.blt p c.N)=true)(h0: ∀w,Mem w0 L w->Mem w0 (Li []) w)(hmk: ∀pre,marks (Li pre)=marks L)(hix: ∀code L',Ix code L'->marks L'=marks L)(hR: ∀pre w,Mem w0 (Li pre) w->R w)(round: ∀l D r pre x,(pre++[x])<+:xs->marks L=[]->H ⟨c.P,some l,c.N⟩ asg (T0 w0 l r D (λr'=>H ⟨c.P,some l,c.N⟩ body (Mh w0 l r' D (Li (pre++[x])) Ix))) w0 (s6 l r::se D::Li pre) (Oj f ps (encs x).toList))(done: ∀D,PQ .normal w0 (Dt D::Li xs) f)(stop: ∀D code L',Ix code L'->H c code PQ w0 (Dt D::L') f)(hm0:marks L=[]):H c (.rangeFunc gop ps.toArray asg body) PQ w0 L f:=by
 intro a w ha hw
 refine wpIn_rangeFunc ?_
 intro fn hfn
 have hFr:(FW c.ro).round=none:=hro
 rw [hFr]
 obtain ⟨rec,hrec⟩: ∃rec:LoopState->Option Code->Loop,rec=λst pe=>{state:=st,pending:=pe,fn,tmps:=a.tmps,params:=ps.toArray,assign:=asg,body,defers:=w.heap.size}:=⟨_,rfl⟩
 have hw1:Mem w0 (se w.heap.size::Li []) (w.alloc (.deferred (some []))):=(h0 w hw).new _ (se w.heap.size) (λ_ h=>h) (heap_alloc_new w _)
 have hw2:Mem w0 (s6 (w.heap.size+1) (rec .ready none)::se w.heap.size::Li []) ((w.alloc (.deferred (some []))).alloc (.loop (rec .ready none))):=by
  have hsz:(w.alloc (.deferred (some []))).heap.size=w.heap.size+1:=by simp
  have:=hw1.new (.loop (rec .ready none)) (s6 (w.heap.size+1) (rec .ready none)) (λb h=>by rw [hsz];exact h) (by
   have h3:=heap_alloc_new (w.alloc (.deferred (some []))) (.loop (rec .ready none))
   rwa [hsz] at h3)
  exact this
 generalize hD:w.heap.size=D at*
 generalize hW1:(w.alloc (.deferred (some []))).alloc (.loop (rec .ready none))=W1 at*
 refine ⟨D+1,[{target:= .collected D,args:= #[]}],W1,{target:= .fn (.func gf) lb,args:= #[.func (.yield (D+1)) #[] #[]]},W1,gf,#[.func (.yield (D+1)) #[] #[]]++lb,W1,?_,?_,λ_ _=>trivial,?_,λh=>by simp [FW] at h,?_⟩
 ·rw [<-hW1,hrec,<-hD];exact run_enterLoop_outer _ _ _ _ _
 ·simp only [resolve,ha.eval,hg]
  simp [Deferred.ofValue,ev]
 ·simp [invoke,he]
 refine nF ((hit (D+1)
  (λpre W=>Mem w0 (s6 (D+1) (rec .ready none)::se D::Li pre) W)
  (λW=> ∃code L',Ix code L'/\Mem w0 (s6 (D+1) (rec .done (some code))::se D::L') W)
  W1 (hR [] W1 hw2.tail.tail) hw2 (λpre W W' h hb=>h.call hb) (λW W' ⟨code,L',h1,h2⟩ hb=>⟨code,L',h1,h2.call hb⟩) ?_).mono ?_)
 ·intro pre x W1 hpre _ hJ
  have hy:=run_yield (P:=c.P) (args:=encs x) hJ.rec (by rw [hrec];simp [hps x])
  refine ⟨_,_,_,_,hy,?_⟩
  rw [hrec]
  refine roundIn_of_wpIn trivial ?_
  have hfr:nH c.N [] {tmps:=(ps.toArray.zip (encs x)).foldl (λtmps (t,a)=>tmps.setIfInBounds t a) a.tmps,defers:=[]} (Oj f ps (encs x).toList):=by
   have h4:=Gh (N:=c.N) ps (encs x).toList a.tmps f ha.size ha.get hpN
   have h5:ps.toArray.zip (encs x)=(ps.zip (encs x).toList).toArray:=by
    apply Array.ext'
    simp
   rw [h5]
   simpa using h4
  have hml:marks (s6 (D+1) (rec .ready none)::se D::Li pre)=[]:=by
   rw [ju,ju,hmk pre,hm0];rfl
  have hH:=round (D+1) D (rec .ready none) pre x hpre hm0 _ W1 (by rw [hml];exact hfr) hJ
  refine wpIn_mono (wH hH) ?_
  rintro e a1 w1 ⟨u1,L1,f1,k1,k2,k3⟩
  cases e with
  |normal=>
   obtain ⟨L2,hm1,hm2,hmem,hb⟩:=k3
   replace k2:=hmem w1 k2
   rw [hm1] at k1
   refine ⟨_,run_beginRound k2.rec (by rw [hrec]),?_⟩
   have k4:=k2.wM (r':={rec .ready none with state:= .busy})
   have hm3:marks (s6 (D+1) {rec .ready none with state:= .busy}::se D::L2)=[]:=by rw [ju,ju,hm2];rfl
   refine wpIn_mono (wH (hb _ a1 _ (by rw [hm3];exact k1) k4)) ?_
   rintro e a2 w2 ⟨u2,L3,f2,j1,j2,j3⟩
   cases e with
   |normal=>
    have j4:=j3 w2 j2
    refine ⟨_,_,run_endRound (P:=c.P) none j4.rec, .inl ⟨rfl,?_,?_⟩⟩
    ·have j5:=j4.wM (r':=rec .ready none)
     rw [hrec] at j5|-
     exact j5
    exact hR _ _ j4.wM.tail.tail
   |ret=>
    obtain ⟨L4,hx,j4⟩:=j3
    have j5:=j4 w2 j2
    refine ⟨_,_,run_endRound (P:=c.P) (some .ret) j5.rec, .inr ⟨rfl, .ret,L4,hx,?_⟩⟩
    have j6:=j5.wM (r':=rec .done (some .ret))
    rw [hrec] at j6|-
    exact j6
   |exit i=>
    obtain ⟨L4,hx,j4⟩:=j3
    have j5:=j4 w2 j2
    refine ⟨_,_,run_endRound (P:=c.P) (some (.exit i)) j5.rec, .inr ⟨rfl, .exit i,L4,hx,?_⟩⟩
    have j6:=j5.wM (r':=rec .done (some (.exit i)))
    rw [hrec] at j6|-
    exact j6
   |goto l=>exact j3.elim
   |panic ch=>exact j3.elim
   |outgrown=>exact j3.elim
  |exit i=>exact k3.elim
  |goto l=>exact k3.elim
  |ret=>exact k3.elim
  |panic ch=>exact k3.elim
  |outgrown=>exact k3.elim
 rintro e W2 ⟨rfl,hJ|⟨code,L',hx,hJ⟩⟩
 ·refine ⟨none,_,by
   have h6:=run_endLoop (P:=c.P) hJ.rec (by rw [hrec];simp)
   rw [hrec] at h6
   exact h6,?_⟩
  have h7:=(hJ.wM (r':={rec .ready none with state:= .exhausted})).tail
  rw [hrec] at h7
  refine ⟨w0,Dt D::Li xs,f,⟨ha.size,ha.get,?_⟩,⟨h7.1,?_,?_,?_⟩,done D⟩
  ·rw [ju,hmk];show _++a.defers=_;rw [ha.defers];rfl
  ·intro it hi
   rcases cn.1 hi with rfl|hi
   ·exact h7.2.1 (se D) (dV ..)
   exact h7.2.1 it (bR _ hi)
  ·intro it hi b hb
   rcases cn.1 hi with rfl|hi
   ·exact h7.2.2.1 (se D) (dV ..) b hb
   exact h7.2.2.1 it (bR _ hi) b hb
  exact bB.2 ⟨(bB.1 h7.2.2.2).1,(bB.1 h7.2.2.2).2⟩
 refine ⟨some code,_,by
  have h6:=run_endLoop (P:=c.P) hJ.rec (by rw [hrec];simp)
  rw [hrec] at h6
  exact h6,?_⟩
 have h7:=(hJ.wM (r':={rec .done (some code) with state:= .exhausted})).tail
 rw [hrec] at h7
 refine wH (stop D code L' hx _ _ ⟨ha.size,ha.get,?_⟩ ⟨h7.1,?_,?_,?_⟩)
 ·rw [ju,hix code L' hx];show _++a.defers=_;rw [ha.defers];rfl
 ·intro it hi
  rcases cn.1 hi with rfl|hi
  ·exact h7.2.1 (se D) (dV ..)
  exact h7.2.1 it (bR _ hi)
 ·intro it hi b hb
  rcases cn.1 hi with rfl|hi
  ·exact h7.2.2.1 (se D) (dV ..) b hb
  exact h7.2.2.1 it (bR _ hi) b hb
 exact bB.2 ⟨(bB.1 h7.2.2.2).1,(bB.1 h7.2.2.2).2⟩
theorem PX{c PQ w0 L f ops rest d t l ty pos af gu g ao ts al}{A B:World->Prop}(hg:Gd f gu (ops.map (·.dst)) g)(hx:gH g f (.tmp t) (.func (.yield l) #[] #[]))(ha:g=true->ao.toList.map (ev f)=al)(hd:Nat.blt d c.N=true)(hk:marks L=[])(hy:g=true-> ∀w,Mem w0 L w->YieldAt (FW none) 0 c.P l al.toArray w λe W'=>(e= .returned (.bool true)/\A W')\/(e= .returned (.bool false)/\B W'))(n0:g=false->XL false c ops rest PQ w0 L (kV f d (gv g (.bool true))))(n1:g=true-> ∀W,A W->XL false c ops rest PQ W [] (kV f d (gv g (.bool true))))(n2:g=true-> ∀W,B W->XL false c ops rest PQ W [] (kV f d (gv g (.bool false)))):
  XL false c ops (⟨some d, .call {callee:= .value (.tmp t),args:=ao,argTypes:=ts},ty,pos,af,gu⟩::rest) PQ w0 L f:=by
 intro a w hfr hw
 show if _ then _ else _
 rw [oW hfr]
 show if gd f gu _=true then _ else _
 rw [show gd f gu (ops.map (·.dst))=g from hg]
 cases g with
 |false=>exact ⟨λ_ _=>trivial,n0 rfl _ _ (by rw [Gg];exact hfr.put hd undef) hw⟩
 |true=>
  rw [aB rfl]
  refine ⟨λ_ _=>trivial,?_⟩
  obtain ⟨fn,tmps,assign,body,hrun,hround⟩:=hy rfl w hw
  have hx':=hx rfl
  have ha':ao.map (ev f)=al.toArray:=by rw [yP,ha rfl]
  rw [Oper.semAt_eq _ _ _ (λx=>by simp),hfr.eval]
  have he:(execOp (ev f) ⟨some d, .call {callee:= .value (.tmp t),args:=ao,argTypes:=ts},ty,pos,af,gu⟩).run c.P w= .ok (.round l fn tmps assign body) w:=by
   simp [execOp,resolve,hx',Deferred.ofValue,invoke,ha',hrun]
  rw [he]
  refine ⟨λh=>by simp [FW] at h,?_⟩
  have hR:RoundIn (FW c.ro) 0 c.P l fn tmps assign body w _:=hround
  refine RoundIn.mono hR ?_
  rintro e W' (⟨rfl,hA⟩|⟨rfl,hB⟩)
  ·exact n1 rfl W' hA _ _ (by have:=hfr.put hd (.bool true);rw [hk] at this;rw [px];exact this) (Mem.start W')
  exact n2 rfl W' hB _ _ (by have:=hfr.put hd (.bool false);rw [hk] at this;rw [px];exact this) (Mem.start W')
section
variable {c:Cx} {w0:World} {L:List Item} {f:Fr} {ty t:TypeId} {g:Bool} {x:Operand} {v:Value}
theorem eL{p}(ht: ∀w,(isAgg t).run c.P w= .ok false w)(hx:gH g f x (.pointer (some p)))(hc:g=true-> ∀w,Mem w0 L w->w.cell? p=some v:=by first|exact bx 0 rfl rfl|exact bx 1 rfl rfl|exact bx 2 rfl rfl|exact bx 3 rfl rfl|exact bx 4 rfl rfl|exact bx 5 rfl rfl|exact bx 6 rfl rfl|exact bx 7 rfl rfl|exact bx 8 rfl rfl|exact bx 9 rfl rfl|exact bx 10 rfl rfl|exact bx 11 rfl rfl|exact bx 12 rfl rfl|exact bx 13 rfl rfl|exact rc ‹_› ‹_› rfl|exact HD ‹_› ‹_› rfl|exact xc ‹_› ‹_›|exact rr 0 rfl ‹_› rfl|exact rQ 0 rfl ‹_› rfl|exact rr 1 rfl ‹_› rfl|exact rQ 1 rfl ‹_› rfl|exact rr 2 rfl ‹_› rfl|exact rQ 2 rfl ‹_› rfl|exact rr 3 rfl ‹_› rfl|exact rQ 3 rfl ‹_› rfl|exact rr 4 rfl ‹_› rfl|exact rQ 4 rfl ‹_› rfl|exact rr 5 rfl ‹_› rfl|exact rQ 5 rfl ‹_› rfl|exact rr 6 rfl ‹_› rfl|exact rQ 6 rfl ‹_› rfl|exact rr 7 rfl ‹_› rfl|exact rQ 7 rfl ‹_› rfl|exact rr 8 rfl ‹_› rfl|exact rQ 8 rfl ‹_› rfl|exact rr 9 rfl ‹_› rfl|exact rQ 9 rfl ‹_› rfl|exact rr 10 rfl ‹_› rfl|exact rQ 10 rfl ‹_› rfl|exact rr 11 rfl ‹_› rfl|exact rQ 11 rfl ‹_› rfl):gj g c w0 L f (.load t x) ty v:=gB ht hx hc
theorem eS{b o n}{vs:List Value}(ht: ∀w,(isAgg t).run c.P w= .ok true w)(hs: ∀w,(sizeOf t).run c.P w= .ok n w)(hx:gH g f x (.pointer (some ⟨b,o,none⟩)))(hc:g=true-> ∀w,Mem w0 L w-> ∀j u,vs[j]?=some u->w.cell? ⟨b,o+j,none⟩=some u:=by first|exact rV 0 rfl|exact rV 1 rfl|exact rV 2 rfl|exact rV 3 rfl|exact rV 4 rfl|exact rV 5 rfl|exact rV 6 rfl|exact rV 7 rfl|exact rV 8 rfl|exact rV 9 rfl|exact rV 10 rfl|exact rV 11 rfl|exact rV 12 rfl|exact rV 13 rfl|exact EY ‹_› ‹_›|exact sP 0 rfl ‹_›|exact sP 1 rfl ‹_›|exact sP 2 rfl ‹_›|exact sP 3 rfl ‹_›|exact sP 4 rfl ‹_›|exact sP 5 rfl ‹_›|exact sP 6 rfl ‹_›|exact sP 7 rfl ‹_›|exact sP 8 rfl ‹_›|exact sP 9 rfl ‹_›|exact sP 10 rfl ‹_›|exact sP 11 rfl ‹_›)(hl:vs.length=n:=by rfl):gj g c w0 L f (.load t x) ty (.agg vs.toArray):=iV ht hs hx hc hl
end
section
variable {c:Cx} {PQ:PJ} {w0:World} {L:List Item} {f:Fr} {ops rest:List Oper} {ty:TypeId} {pos:String} {af:Array Edge} {x y:Operand} {K:List Item->Fr->Prop}
theorem dN{k t tb v b o n cs}(hx:ev f x= .pointer (some ⟨b,o,none⟩))(hy:ev f y=v)(hs: ∀w,(sizeOf t).run c.P w= .ok n w)(next:XL false c ops rest PQ w0 (L.set k (box b tb (setAt cs o v.cells.toList))) f)(hk:L[k]?=some (box b tb cs):=by first|exact (show _[0]?=_ from rfl)|exact (show _[1]?=_ from rfl)|exact (show _[2]?=_ from rfl)|exact (show _[3]?=_ from rfl)|exact (show _[4]?=_ from rfl)|exact (show _[5]?=_ from rfl)|exact (show _[6]?=_ from rfl)|exact (show _[7]?=_ from rfl)|exact (show _[8]?=_ from rfl)|exact (show _[9]?=_ from rfl)|exact (show _[10]?=_ from rfl)|exact (show _[11]?=_ from rfl)|exact (show _[12]?=_ from rfl)|exact (show _[13]?=_ from rfl))(hn:v.cells.size=n:=by rfl)(h1:v.cells.toList.all kK=true:=by rfl)(hl:Nat.ble (o+v.cells.toList.length) cs.length=true:=by rfl):
  XL false c ops (⟨none, .store t x y,ty,pos,af,none⟩::rest) PQ w0 L f:=PY k hx hy hs hn h1 hk hl next
theorem mB{k t tb v b o n cs}(hx:ev f x= .pointer (some ⟨b,o,none⟩))(hy:ev f y=v)(hs: ∀w,(sizeOf t).run c.P w= .ok n w)(next:K (L.set k (box b tb (setAt cs o v.cells.toList))) f)(hk:L[k]?=some (box b tb cs):=by first|exact (show _[0]?=_ from rfl)|exact (show _[1]?=_ from rfl)|exact (show _[2]?=_ from rfl)|exact (show _[3]?=_ from rfl)|exact (show _[4]?=_ from rfl)|exact (show _[5]?=_ from rfl)|exact (show _[6]?=_ from rfl)|exact (show _[7]?=_ from rfl)|exact (show _[8]?=_ from rfl)|exact (show _[9]?=_ from rfl)|exact (show _[10]?=_ from rfl)|exact (show _[11]?=_ from rfl)|exact (show _[12]?=_ from rfl)|exact (show _[13]?=_ from rfl))(hn:v.cells.size=n:=by rfl)(h1:v.cells.toList.all kK=true:=by rfl)(hl:Nat.ble (o+v.cells.toList.length) cs.length=true:=by rfl):
  vO c w0 L f ⟨none, .store t x y,ty,pos,af,none⟩ K:=Po k hx hy hs hn h1 hk hl next
end
end Go.Proofs.E
namespace Go.Proofs.E
open Go Go.RowKit
class US (P:Program) (t:TypeId) (l:outParam (List (Nat×Nat))):Prop where h: ∃fs:Array Field,P.underlying t=some (.struct fs)/\fs.toList.map (λf=>(f.offset,f.type))=l
class UL (P:Program) (t:TypeId) (e:outParam TypeId):Prop where h:P.underlying t=some (.slice e)
class kI (P:Program) (t:TypeId) (n:outParam Nat):Prop where h: ∀w,(sizeOf t).run P w= .ok n w
class qj (P:Program) (t:TypeId):Prop where h: ∀w,(isAgg t).run P w= .ok false w
class w8 (P:Program) (t:TypeId):Prop where h: ∀w,(isAgg t).run P w= .ok true w
section
variable {c:Cx} {w0:World} {L:List Item} {f:Fr} {ty:TypeId} {g:Bool} {x y:Operand} {v:Value}
theorem Fa{t i b o sz n ft l}[ht:US c.P t l](hf:l[i]?=some (n,ft):=by rfl)(hx:gH g f x (.pointer (some ⟨b,o,none⟩)):=by first|exact q0 rfl|exact q1 rfl)(hs:kI c.P ft sz:=by infer_instance)(hz:Nat.blt 0 sz=true:=by rfl):gj g c w0 L f (.fieldAddr t x i) ty (.pointer (some ⟨b,o+n,none⟩)):=by
 obtain ⟨fs,h1,h2⟩:=ht.h
 rw [<-h2,cV,Option.map_eq_some_iff] at hf
 obtain ⟨fl,h3,h4⟩:=hf
 cases h4
 exact az (fl:=fl) h1 (by rw [<-E6];exact h3) hs.h hz hx
theorem Ix{t e m}(k:Nat){b o n p sz}[ht:UL c.P t e][hs:kI c.P e sz](hx:gH g f x (.slice (some ⟨b,o,none⟩) n p):=by first|exact q0 rfl|exact q1 rfl)(hi:gH g f y (.int .i64 m):=by first|exact q0 rfl|exact q1 rfl)(hm:m=(k:Int):=by rfl)(hk:k<n:=by omega):gj g c w0 L f (.indexAddr t x y) ty (.pointer (some ⟨b,o+k*sz,none⟩)):=cx k ht.h hs.h hx hi (λ_=>⟨hm,hk⟩)
theorem Ln{t e A n p}[ht:UL c.P t e](hx:gH g f x (.slice A n p):=by first|exact q0 rfl|exact q1 rfl):gj g c w0 L f (.call {callee:= .builtin .len,args:= #[x],argTypes:= #[t]}) ty (.int .i64 n):=dw ht.h hx
theorem Xt{i vs}(hx:gH g f x (.tuple vs):=by first|exact q0 rfl|exact q1 rfl)(hi:vs[i]?=some v:=by rfl):gj g c w0 L f (.extract x i) ty v:=iW hx hi
theorem No{t b}(hx:gH g f x (.bool b):=by first|exact q0 rfl|exact q1 rfl):gj g c w0 L f (.unOp .not t x) ty (.bool (!b)):=oz hx
theorem Oo{b z g2}(hx:gH g f x (.bool b):=by first|exact q0 rfl|exact q1 rfl)(hy:ev f y=gv g2 (.bool z):=by rfl)(hg:g=true->g2=!b:=by exact λh=>by first|rfl|(rw [h];rfl)):gj g c w0 L f (.pick x (.const (.bool true)) y) ty (.bool (b||z)):=jJ hx hy hg
theorem Nn{b z g2}(hx:gH g f x (.bool b):=by first|exact q0 rfl|exact q1 rfl)(hy:ev f y=gv g2 (.bool z):=by rfl)(hg:g=true->g2=b:=by exact λh=>by first|rfl|(rw [h];rfl)):gj g c w0 L f (.pick x y (.const (.bool false))) ty (.bool (b&&z)):=fH hx hy hg
theorem Ll{t p}[ht:qj c.P t](hx:gH g f x (.pointer (some p)):=by first|exact q0 rfl|exact q1 rfl)(hc:g=true-> ∀w,Mem w0 L w->w.cell? p=some v:=by first|exact bx 0 rfl rfl|exact bx 1 rfl rfl|exact bx 2 rfl rfl|exact bx 3 rfl rfl|exact bx 4 rfl rfl|exact bx 5 rfl rfl|exact bx 6 rfl rfl|exact bx 7 rfl rfl|exact bx 8 rfl rfl|exact bx 9 rfl rfl|exact bx 10 rfl rfl|exact bx 11 rfl rfl|exact bx 12 rfl rfl|exact bx 13 rfl rfl|exact rc ‹_› ‹_› rfl|exact HD ‹_› ‹_› rfl|exact xc ‹_› ‹_›|exact rr 0 rfl ‹_› rfl|exact rQ 0 rfl ‹_› rfl|exact rr 1 rfl ‹_› rfl|exact rQ 1 rfl ‹_› rfl|exact rr 2 rfl ‹_› rfl|exact rQ 2 rfl ‹_› rfl|exact rr 3 rfl ‹_› rfl|exact rQ 3 rfl ‹_› rfl|exact rr 4 rfl ‹_› rfl|exact rQ 4 rfl ‹_› rfl|exact rr 5 rfl ‹_› rfl|exact rQ 5 rfl ‹_› rfl|exact rr 6 rfl ‹_› rfl|exact rQ 6 rfl ‹_› rfl|exact rr 7 rfl ‹_› rfl|exact rQ 7 rfl ‹_› rfl|exact rr 8 rfl ‹_› rfl|exact rQ 8 rfl ‹_› rfl|exact rr 9 rfl ‹_› rfl|exact rQ 9 rfl ‹_› rfl|exact rr 10 rfl ‹_› rfl|exact rQ 10 rfl ‹_› rfl|exact rr 11 rfl ‹_› rfl|exact rQ 11 rfl ‹_› rfl):gj g c w0 L f (.load t x) ty v:=gB ht.h hx hc
theorem Ls{t b o n}{vs:List Value}[ht:w8 c.P t][hs:kI c.P t n](hx:gH g f x (.pointer (some ⟨b,o,none⟩)):=by first|exact q0 rfl|exact q1 rfl)(hc:g=true-> ∀w,Mem w0 L w-> ∀j u,vs[j]?=some u->w.cell? ⟨b,o+j,none⟩=some u:=by first|exact rV 0 rfl|exact rV 1 rfl|exact rV 2 rfl|exact rV 3 rfl|exact rV 4 rfl|exact rV 5 rfl|exact rV 6 rfl|exact rV 7 rfl|exact rV 8 rfl|exact rV 9 rfl|exact rV 10 rfl|exact rV 11 rfl|exact rV 12 rfl|exact rV 13 rfl|exact EY ‹_› ‹_›|exact sP 0 rfl ‹_›|exact sP 1 rfl ‹_›|exact sP 2 rfl ‹_›|exact sP 3 rfl ‹_›|exact sP 4 rfl ‹_›|exact sP 5 rfl ‹_›|exact sP 6 rfl ‹_›|exact sP 7 rfl ‹_›|exact sP 8 rfl ‹_›|exact sP 9 rfl ‹_›|exact sP 10 rfl ‹_›|exact sP 11 rfl ‹_›)(hl:vs.length=n:=by rfl):gj g c w0 L f (.load t x) ty (.agg vs.toArray):=iV ht.h hs.h hx hc hl
section
variable {t t2:TypeId} {k:IntKind} {m n:Int}
theorem Lt (hx:gH g f x (.int k m):=by first|exact q0 rfl|exact q1 rfl) (hy:gH g f y (.int k n):=by first|exact q0 rfl|exact q1 rfl):gj g c w0 L f (.binOp .lss t x y t2) ty (.bool (decide (m<n))):=gK hx hy
theorem Tm (hx:gH g f x (.int k m):=by first|exact q0 rfl|exact q1 rfl) (hy:gH g f y (.int k n):=by first|exact q0 rfl|exact q1 rfl):gj g c w0 L f (.binOp .leq t x y t2) ty (.bool (decide (m<=n))):=tg hx hy
theorem Tg (hx:gH g f x (.int k m):=by first|exact q0 rfl|exact q1 rfl) (hy:gH g f y (.int k n):=by first|exact q0 rfl|exact q1 rfl):gj g c w0 L f (.binOp .gtr t x y t2) ty (.bool (decide (n<m))):=uY hx hy
theorem Th (hx:gH g f x (.int k m):=by first|exact q0 rfl|exact q1 rfl) (hy:gH g f y (.int k n):=by first|exact q0 rfl|exact q1 rfl):gj g c w0 L f (.binOp .geq t x y t2) ty (.bool (decide (n<=m))):=CQ hx hy
theorem Te (hx:gH g f x (.int k m):=by first|exact q0 rfl|exact q1 rfl) (hy:gH g f y (.int k n):=by first|exact q0 rfl|exact q1 rfl):gj g c w0 L f (.binOp .eql t x y t2) ty (.bool (decide (m=n))):=jE hx hy
theorem Tn (hx:gH g f x (.int k m):=by first|exact q0 rfl|exact q1 rfl) (hy:gH g f y (.int k n):=by first|exact q0 rfl|exact q1 rfl):gj g c w0 L f (.binOp .neq t x y t2) ty (.bool (!decide (m=n))):=ki hx hy
theorem Ad (hx:gH g f x (.int .i64 m):=by first|exact q0 rfl|exact q1 rfl) (hy:gH g f y (.int .i64 n):=by first|exact q0 rfl|exact q1 rfl) (h1: -9223372036854775808<=m+n:=by omega) (h2:m+n<=9223372036854775807:=by omega):gj g c w0 L f (.binOp .add t x y t2) ty (.int .i64 (m+n)):=eT hx hy λ_=>⟨rfl,h1,h2⟩
theorem Su (hx:gH g f x (.int .i64 m):=by first|exact q0 rfl|exact q1 rfl) (hy:gH g f y (.int .i64 n):=by first|exact q0 rfl|exact q1 rfl) (h1: -9223372036854775808<=m -n:=by omega) (h2:m -n<=9223372036854775807:=by omega):gj g c w0 L f (.binOp .sub t x y t2) ty (.int .i64 (m -n)):=rK hx hy λ_=>⟨rfl,h1,h2⟩
end
end
section
variable {c:Cx} {PQ:PJ} {dr:Bool} {w0:World} {L:List Item} {f:Fr} {ops rest:List Oper} {d:Nat} {ty:TypeId} {pos:String} {af:Array Edge} {v:Value}
def Lh (ops:List Oper) (f:Fr) (j:Nat):Value:=match (ops.map (·.dst))[j]? with|some (some e)=>f e|_=>undef
theorem MW{ops f j v}(h:Lh ops f j=v)(hu:v≠undef): ∃e,(ops.map (·.dst))[j]?=some (some e)/\f e=v:=by
 grind [Lh]
theorem Uq{ops f j b}(h:Lh ops f j= .bool b):Gd f (some (j,true)) (ops.map (·.dst)) b:=by
 obtain ⟨e,he,hf⟩:=MW h (by simp [undef])
 exact vM he hf
theorem Ur{ops f j b}(h:Lh ops f j= .bool b):Gd f (some (j,false)) (ops.map (·.dst)) (!b):=by
 obtain ⟨e,he,hf⟩:=MW h (by simp [undef])
 exact kS he hf
theorem Tk{ops f j b g}(h:Lh ops f j=gv g (.bool b)):Gd f (some (j,true)) (ops.map (·.dst)) (g&&b):=by
 unfold Lh at h
 split at h
 ·rename_i e he;exact G4 he h
 rename_i hne
 cases g
 ·show (match (ops.map (·.dst))[j]? with|some (some d)=>O' (f d) true|_=>false)=false
  grind
 rw [px] at h;exact absurd h (by simp [undef])
theorem Tl{ops f j b g}(h:Lh ops f j=gv g (.bool b)):Gd f (some (j,false)) (ops.map (·.dst)) (g&&!b):=by
 unfold Lh at h
 split at h
 ·rename_i e he;exact zC he h
 rename_i hne
 cases g
 ·show (match (ops.map (·.dst))[j]? with|some (some d)=>O' (f d) false|_=>false)=false
  grind
 rw [px] at h;exact absurd h (by simp [undef])
theorem yt{op j b}(hx:Lh ops f j= .bool b)(hev:gj b c w0 L f op ty v)(next:XL dr c ops rest PQ w0 L (kV f d (gv b v)))(hnd:ew op=false:=by rfl)(hd:Nat.blt d c.N=true:=by rfl):XL dr c ops (⟨some d,op,ty,pos,af,some (j,true)⟩::rest) PQ w0 L f:=XV (Uq hx) hnd hev hd next
theorem yf{op j b}(hx:Lh ops f j= .bool b)(hev:gj (!b) c w0 L f op ty v)(next:XL dr c ops rest PQ w0 L (kV f d (gv (!b) v)))(hnd:ew op=false:=by rfl)(hd:Nat.blt d c.N=true:=by rfl):XL dr c ops (⟨some d,op,ty,pos,af,some (j,false)⟩::rest) PQ w0 L f:=XV (Ur hx) hnd hev hd next
theorem SH{op j b g}(hx:Lh ops f j=gv g (.bool b))(hev:gj (g&&b) c w0 L f op ty v)(next:XL dr c ops rest PQ w0 L (kV f d (gv (g&&b) v)))(hnd:ew op=false:=by rfl)(hd:Nat.blt d c.N=true:=by rfl):XL dr c ops (⟨some d,op,ty,pos,af,some (j,true)⟩::rest) PQ w0 L f:=XV (Tk hx) hnd hev hd next
theorem SI{op j b g}(hx:Lh ops f j=gv g (.bool b))(hev:gj (g&&!b) c w0 L f op ty v)(next:XL dr c ops rest PQ w0 L (kV f d (gv (g&&!b) v)))(hnd:ew op=false:=by rfl)(hd:Nat.blt d c.N=true:=by rfl):XL dr c ops (⟨some d,op,ty,pos,af,some (j,false)⟩::rest) PQ w0 L f:=XV (Tl hx) hnd hev hd next
end
def rg (a:Nat):Nat->List Nat
 |0=>[]
 |n+1=>a::rg (a+1) n
section
variable {c:Cx} {PQ:PJ} {w0:World} {L:List Item} {f:Fr}
end
end Go.Proofs.E
namespace Go.Proofs.E
open Go Go.RowKit
section
variable {c:Cx} {PQ:PJ} {dr:Bool} {w0:World} {L:List Item} {f:Fr} {ops rest:List Oper} {d:Nat} {ty:TypeId} {pos:String} {af:Array Edge} {v:Value} {op:Op} {x:Operand} {g:Bool}
theorem mw (h:ev f x=v:=by conv=>lhs;whnf):gj g c w0 L f (.move x) ty v:=ay (q0 h)
theorem aw (h:ev f x=v:=by conv=>lhs;whnf):gj g c w0 L f (.assign x) ty v:=aU (q0 h)
theorem Nz{p}(hx:gH g f x (.pointer (some p)):=by first|exact q0 rfl|exact q1 rfl):gj g c w0 L f (.nilCheck x) ty (.pointer (some p)):=Co hx
theorem eg (h:gj g c w0 L f op ty v:=by first|exact mw|exact aw|exact Fa|exact Ll|exact Ls|exact Ln|exact Xt|exact Te|exact Tn|exact Lt|exact Tm|exact Tg|exact Th|exact Ad|exact Su|exact No|exact Oo|exact Nn|exact Nz|exact Ix _):gj g c w0 L f op ty v:=h
theorem eo (h:gj true c w0 L f op ty v:=by first|exact mw|exact aw|exact Fa|exact Ll|exact Ls|exact Ln|exact Xt|exact Te|exact Tn|exact Lt|exact Tm|exact Tg|exact Th|exact Ad|exact Su|exact No|exact Oo|exact Nn|exact Nz|exact Ix _):gj true c w0 L f op ty v:=h
end
section
variable {c:Cx} {PQ:PJ} {dr:Bool} {w0:World} {L:List Item} {f:Fr} {ops rest:List Oper} {d:Nat} {ty:TypeId} {pos:String} {af:Array Edge} {v:Value} {op:Op} {j e:Nat} {b g:Bool} {k:FuncId} {args:Array Value}
theorem fI (hev:gj true c w0 L f op ty v) (next:XL dr c ops rest PQ w0 L (kV f d v)) (hnd:ew op=false:=by rfl) (hd:Nat.blt d c.N=true:=by rfl):XL dr c ops (⟨some d,op,ty,pos,af,none⟩::rest) PQ w0 L f:=xV hev hnd hd next
theorem xh (hev:gj b c w0 L f op ty v) (hj:(ops.map (·.dst))[j]?=some (some e)) (hx:f e= .bool b) (next:XL dr c ops rest PQ w0 L (kV f d (gv b v))) (hnd:ew op=false:=by rfl) (hd:Nat.blt d c.N=true:=by rfl):XL dr c ops (⟨some d,op,ty,pos,af,some (j,true)⟩::rest) PQ w0 L f:=dJ hev hj hx hnd hd next
theorem SG (hev:gj (!b) c w0 L f op ty v) (hj:(ops.map (·.dst))[j]?=some (some e)) (hx:f e= .bool b) (next:XL dr c ops rest PQ w0 L (kV f d (gv (!b) v))) (hnd:ew op=false:=by rfl) (hd:Nat.blt d c.N=true:=by rfl):XL dr c ops (⟨some d,op,ty,pos,af,some (j,false)⟩::rest) PQ w0 L f:=fE hev hj hx hnd hd next
theorem K9 (hev:gj (g&&b) c w0 L f op ty v) (hj:(ops.map (·.dst))[j]?=some (some e)) (hx:f e=gv g (.bool b)) (next:XL dr c ops rest PQ w0 L (kV f d (gv (g&&b) v))) (hnd:ew op=false:=by rfl) (hd:Nat.blt d c.N=true:=by rfl):XL dr c ops (⟨some d,op,ty,pos,af,some (j,true)⟩::rest) PQ w0 L f:=mq hev hj hx hnd hd next
theorem zzE (hev:gj (g&&!b) c w0 L f op ty v) (hj:(ops.map (·.dst))[j]?=some (some e)) (hx:f e=gv g (.bool b)) (next:XL dr c ops rest PQ w0 L (kV f d (gv (g&&!b) v))) (hnd:ew op=false:=by rfl) (hd:Nat.blt d c.N=true:=by rfl):XL dr c ops (⟨some d,op,ty,pos,af,some (j,false)⟩::rest) PQ w0 L f:=iv hev hj hx hnd hd next
theorem jx (hen:lV true c w0 L f op ty k args) (hc:true=true-> ∀w,Mem w0 L w->Calls c.P k args w λe w'=>e= .returned v/\fM w w') (next:XL dr c ops rest PQ w0 L (kV f d v)) (hnd:ew op=false:=by rfl) (hd:Nat.blt d c.N=true:=by rfl):XL dr c ops (⟨some d,op,ty,pos,af,none⟩::rest) PQ w0 L f:=xC hen hc hnd hd next
theorem vS{id ops}(h:XL true c ops ops PQ w0 L f)(hm:c.P.follows .mixedOrders=true:=by rfl)(hB:(Region.lexB .any ops.toArray&&ops.all (λo=>!ew o.op))=true:=by decide+kernel):H c (.region id ops.toArray true) PQ w0 L f:=R1 hm hB h
theorem JR{id ops}(h:XA c ops L ops.length [] PQ w0 L f)(hm:c.P.follows .mixedOrders=true:=by rfl)(hB:(ops.all (λo=>!ew o.op))=true:=by decide+kernel):H c (.region id ops.toArray true) PQ w0 L f:=RA hm hB h
theorem JQ(k){id ops}(h:XA c ops (L.drop k) ops.length [] PQ w0 L f)(hm:c.P.follows .mixedOrders=true:=by rfl)(hB:(ops.all (λo=>!ew o.op))=true:=by decide+kernel):H c (.region id ops.toArray true) PQ w0 L f:=Lj k hm hB h
end
theorem G {P Q:Prop} (h:P) (e:P->Q:=by (intro h;first|with_reducible exact ad h|with_reducible exact ak h|with_reducible exact R0 h|with_reducible exact XN h|with_reducible exact dq h|with_reducible exact cw h|with_reducible exact bZ h|with_reducible exact cq h|with_reducible exact dU h|with_reducible exact bc h|with_reducible exact iJ h|with_reducible exact fz h|with_reducible exact cK h|with_reducible exact cJ h|with_reducible exact cM h|with_reducible exact u7 rfl h|exact xv eo h|exact yt rfl eg h|exact yf rfl eg h|exact SH rfl eg h|exact SI rfl eg h|exact XN h|exact R0 h|exact ak h|exact ad h)):Q:=e h
section
variable {c:Cx} {PQ:PJ} {w0:World} {L Lb:List Item} {f:Fr} {ops:List Oper} {fuel:Nat} {listed:List Nat} {d:Nat} {ty:TypeId} {pos:String} {af:Array Edge} {v:Value} {op:Op} {g:Bool}
theorem aW(i)(next:XA c ops Lb fuel (i::listed) PQ w0 L (kV f d v))(hi:ops[i]?=some ⟨some d,op,ty,pos,af,none⟩:=by rfl)(hev:gj true c w0 Lb f op ty v:=by exact eo)(hok:Rl ops listed i=true:=by decide+kernel)(hd:Nat.blt d c.N=true:=by rfl):XA c ops Lb (fuel+1) listed PQ w0 L f:=aV i hok hi hev hd next
theorem r1(i n)(h:LX c ops Lb fuel listed i PQ w0 L f)(hs:Lb=L.drop n:=by rfl)(hr:(Region.ready .any ops.toArray (arr ops.length listed)==[i])=true:=by decide+kernel):XA c ops Lb (fuel+1) listed PQ w0 L f:=eu hr (hs▸au n) h
theorem mG(i)(hi:ops[i]?=some ⟨some d,op,ty,pos,af,none⟩)(hev:gj true c w0 Lb f op ty v)(next:XA c ops Lb fuel (i::listed) PQ w0 L (kV f d v))(hok:Rl ops listed i=true:=by decide+kernel)(hd:Nat.blt d c.N=true:=by rfl):XA c ops Lb (fuel+1) listed PQ w0 L f:=aV i hok hi hev hd next
theorem qE(n)(h:PQ .normal w0 L f)(hs:Lb=L.drop n:=by rfl)(hr:(Region.ready .any ops.toArray (arr ops.length listed)).isEmpty=true:=by decide+kernel):XA c ops Lb 0 listed PQ w0 L f:=aZ hr (hs▸au n) h
theorem cb{p}(h:g=true-> ∀w,Mem w0 L w->w.cell? p=some v:=by first|exact bx 0 rfl rfl|exact bx 1 rfl rfl|exact bx 2 rfl rfl|exact bx 3 rfl rfl|exact bx 4 rfl rfl|exact bx 5 rfl rfl|exact bx 6 rfl rfl|exact bx 7 rfl rfl|exact bx 8 rfl rfl|exact bx 9 rfl rfl|exact rc ‹_› ‹_› rfl|exact HD ‹_› ‹_› rfl|exact xc ‹_› ‹_›|exact rr 0 rfl ‹_› rfl|exact rQ 0 rfl ‹_› rfl|exact rr 1 rfl ‹_› rfl|exact rQ 1 rfl ‹_› rfl|exact rr 2 rfl ‹_› rfl|exact rQ 2 rfl ‹_› rfl|exact rr 3 rfl ‹_› rfl|exact rQ 3 rfl ‹_› rfl|exact rr 4 rfl ‹_› rfl|exact rQ 4 rfl ‹_› rfl|exact rr 5 rfl ‹_› rfl|exact rQ 5 rfl ‹_› rfl|exact rr 6 rfl ‹_› rfl|exact rQ 6 rfl ‹_› rfl|exact rr 7 rfl ‹_› rfl|exact rQ 7 rfl ‹_› rfl):g=true-> ∀w,Mem w0 L w->w.cell? p=some v:=h
end
end Go.Proofs.E
namespace Go.Proofs.E
open Go Go.RowKit
structure CU (P:Prop):Prop where
 x:P
section
variable {c:Cx} {w0:World} {L:List Item} {f:Fr} {g:Bool} {ty t t2:TypeId} {x y:Operand} {i:Nat} {v:Value}
theorem Vi (h:gj g c w0 L f (.move x) ty v):gj g c w0 L f (.move x) ty v:=h
theorem Vh (h:gj g c w0 L f (.assign x) ty v):gj g c w0 L f (.assign x) ty v:=h
theorem Vg (h:gj g c w0 L f (.fieldAddr t x i) ty v):gj g c w0 L f (.fieldAddr t x i) ty v:=h
theorem Vf (h:gj g c w0 L f (.load t x) ty v):gj g c w0 L f (.load t x) ty v:=h
theorem Ve (h:gj g c w0 L f (.call {callee:= .builtin .len,args:= #[x],argTypes:= #[t]}) ty v):gj g c w0 L f (.call {callee:= .builtin .len,args:= #[x],argTypes:= #[t]}) ty v:=h
theorem Vd (h:gj g c w0 L f (.extract x i) ty v):gj g c w0 L f (.extract x i) ty v:=h
theorem Vc (h:gj g c w0 L f (.binOp .eql t x y t2) ty v):gj g c w0 L f (.binOp .eql t x y t2) ty v:=h
theorem Vb (h:gj g c w0 L f (.binOp .neq t x y t2) ty v):gj g c w0 L f (.binOp .neq t x y t2) ty v:=h
theorem Va (h:gj g c w0 L f (.binOp .lss t x y t2) ty v):gj g c w0 L f (.binOp .lss t x y t2) ty v:=h
theorem U' (h:gj g c w0 L f (.binOp .leq t x y t2) ty v):gj g c w0 L f (.binOp .leq t x y t2) ty v:=h
theorem U9 (h:gj g c w0 L f (.binOp .gtr t x y t2) ty v):gj g c w0 L f (.binOp .gtr t x y t2) ty v:=h
theorem U8 (h:gj g c w0 L f (.binOp .geq t x y t2) ty v):gj g c w0 L f (.binOp .geq t x y t2) ty v:=h
theorem U7 (h:gj g c w0 L f (.binOp .add t x y t2) ty v):gj g c w0 L f (.binOp .add t x y t2) ty v:=h
theorem U6 (h:gj g c w0 L f (.binOp .sub t x y t2) ty v):gj g c w0 L f (.binOp .sub t x y t2) ty v:=h
theorem U5 (h:gj g c w0 L f (.unOp .not t x) ty v):gj g c w0 L f (.unOp .not t x) ty v:=h
theorem U4 (h:gj g c w0 L f (.pick x (.const (.bool true)) y) ty v):gj g c w0 L f (.pick x (.const (.bool true)) y) ty v:=h
theorem U3 (h:gj g c w0 L f (.pick x y (.const (.bool false))) ty v):gj g c w0 L f (.pick x y (.const (.bool false))) ty v:=h
theorem U2 (h:gj g c w0 L f (.nilCheck x) ty v):gj g c w0 L f (.nilCheck x) ty v:=h
theorem ss_ (h:gj g c w0 L f (.indexAddr t x y) ty v):gj g c w0 L f (.indexAddr t x y) ty v:=h
end
section
variable {c:Cx} {w0:World} {L:List Item} {f:Fr} {g:Bool} {ty:TypeId} {op:Op} {v:Value}
theorem e0 (h:gj g c w0 L f op ty v:=by first|((with_reducible apply Vi);exact mw)|((with_reducible apply Vh);exact aw)|((with_reducible apply Vg);exact Fa)|((with_reducible apply Vf);first|exact Ll|exact Ls)|((with_reducible apply Ve);exact Ln)|((with_reducible apply Vd);exact Xt)|((with_reducible apply Vc);exact Te)|((with_reducible apply Vb);exact Tn)|((with_reducible apply Va);exact Lt)|((with_reducible apply U');exact Tm)|((with_reducible apply U9);exact Tg)|((with_reducible apply U8);exact Th)|((with_reducible apply U7);exact Ad)|((with_reducible apply U6);exact Su)|((with_reducible apply U5);exact No)|((with_reducible apply U4);exact Oo)|((with_reducible apply U3);exact Nn)|((with_reducible apply U2);exact Nz)):gj g c w0 L f op ty v:=h
theorem e1 (h:gj g c w0 L f op ty v:=by first|((with_reducible apply Vi);exact mw)|((with_reducible apply Vh);exact aw)|((with_reducible apply Vg);exact Fa)|((with_reducible apply Vf);first|exact Ll|exact Ls)|((with_reducible apply Ve);exact Ln)|((with_reducible apply Vd);exact Xt)|((with_reducible apply Vc);exact Te)|((with_reducible apply Vb);exact Tn)|((with_reducible apply Va);exact Lt)|((with_reducible apply U');exact Tm)|((with_reducible apply U9);exact Tg)|((with_reducible apply U8);exact Th)|((with_reducible apply U7);exact Ad)|((with_reducible apply U6);exact Su)|((with_reducible apply U5);exact No)|((with_reducible apply U4);exact Oo)|((with_reducible apply U3);exact Nn)|((with_reducible apply U2);exact Nz)|((with_reducible apply ss_);exact Ix _)):gj g c w0 L f op ty v:=h
end
section
variable {c:Cx} {PQ:PJ} {dr:Bool} {w0:World} {L:List Item} {f:Fr} {ops rest:List Oper} {d j:Nat} {ty:TypeId} {pos:String} {af:Array Edge} {op:Op}
theorem UW (h:XL dr c ops rest PQ w0 L f):XL dr c ops rest PQ w0 L f:=h
theorem UU{k}(h:H c k PQ w0 L f):H c k PQ w0 L f:=h
theorem UZ (h:XL dr c ops (⟨some d,op,ty,pos,af,none⟩::rest) PQ w0 L f):XL dr c ops (⟨some d,op,ty,pos,af,none⟩::rest) PQ w0 L f:=h
theorem UY (h:XL dr c ops (⟨some d,op,ty,pos,af,some (j,true)⟩::rest) PQ w0 L f):XL dr c ops (⟨some d,op,ty,pos,af,some (j,true)⟩::rest) PQ w0 L f:=h
theorem UX (h:XL dr c ops (⟨some d,op,ty,pos,af,some (j,false)⟩::rest) PQ w0 L f):XL dr c ops (⟨some d,op,ty,pos,af,some (j,false)⟩::rest) PQ w0 L f:=h
end
theorem G0 {P Q:Prop} (h:P) (e:CU P->Q:=by (intro h;first|((with_reducible refine UZ ?_);exact xv e0 h.x)|((with_reducible refine UY ?_);first|exact yt rfl e0 h.x|exact SH rfl e0 h.x)|((with_reducible refine UX ?_);first|exact yf rfl e0 h.x|exact SI rfl e0 h.x)|with_reducible exact ad h.x|with_reducible exact ak h.x|with_reducible exact R0 h.x|with_reducible exact XN h.x|with_reducible exact dq h.x|with_reducible exact cw h.x|with_reducible exact bZ h.x|with_reducible exact cq h.x|with_reducible exact dU h.x|with_reducible exact bc h.x|with_reducible exact iJ h.x|with_reducible exact fz h.x|with_reducible exact cK h.x|with_reducible exact cJ h.x|with_reducible exact cM h.x|with_reducible exact u7 rfl h.x|((with_reducible refine UW ?_);first|exact xv e0 h.x|exact yt rfl e0 h.x|exact yf rfl e0 h.x|exact SH rfl e0 h.x|exact SI rfl e0 h.x|exact XN h.x)|((with_reducible refine UU ?_);first|exact R0 h.x|exact ak h.x))):Q:=e ⟨h⟩
theorem G1 {P Q:Prop} (h:P) (e:CU P->Q:=by (intro h;first|((with_reducible refine UZ ?_);exact xv e1 h.x)|((with_reducible refine UY ?_);first|exact yt rfl e1 h.x|exact SH rfl e1 h.x)|((with_reducible refine UX ?_);first|exact yf rfl e1 h.x|exact SI rfl e1 h.x)|with_reducible exact ad h.x|with_reducible exact ak h.x|with_reducible exact R0 h.x|with_reducible exact XN h.x|with_reducible exact dq h.x|with_reducible exact cw h.x|with_reducible exact bZ h.x|with_reducible exact cq h.x|with_reducible exact dU h.x|with_reducible exact bc h.x|with_reducible exact iJ h.x|with_reducible exact fz h.x|with_reducible exact cK h.x|with_reducible exact cJ h.x|with_reducible exact cM h.x|with_reducible exact u7 rfl h.x|((with_reducible refine UW ?_);first|exact xv e1 h.x|exact yt rfl e1 h.x|exact yf rfl e1 h.x|exact SH rfl e1 h.x|exact SI rfl e1 h.x|exact XN h.x)|((with_reducible refine UU ?_);first|exact R0 h.x|exact ak h.x))):Q:=e ⟨h⟩
theorem GR {P Q:Prop} (h:P) (e:CU P->Q:=by (intro h;(repeat refine G0 ?_);exact h.x)):Q:=e ⟨h⟩
theorem GC {P A B:Prop} {b:Bool} (h1:b=true->A) (h2:b=false->B) (e:CU (b=true->A)->CU (b=false->B)->P:=by (intro h1 h2;(repeat refine G0 ?_);refine bD rfl (λh=>?_) (λh=>?_);(repeat refine G0 ?_);exact h1.x h;(repeat refine G0 ?_);exact h2.x h)):P:=e ⟨h1⟩ ⟨h2⟩
theorem GV {P:Prop} (e:P:=by ((repeat refine G0 ?_);first|exact cu (v:= .int _ _) rfl rfl rfl λw' hw=>⟨rfl,hw.1⟩|exact cu (v:= .bool _) rfl rfl rfl λw' hw=>⟨rfl,hw.1⟩|exact jr (v:= .int _ _) (x:= .int _ _) rfl rfl rfl rfl λw' hw=>⟨rfl,hw.1⟩)):P:=e
theorem GX {P Q:Prop} (h:P) (e:CU P->Q:=by (intro h;(repeat refine G1 ?_);exact h.x)):Q:=e ⟨h⟩
theorem GD {P A B:Prop} {b:Bool} (h1:b=true->A) (h2:b=false->B) (e:CU (b=true->A)->CU (b=false->B)->P:=by (intro h1 h2;(repeat refine G1 ?_);refine bD rfl (λh=>?_) (λh=>?_);(repeat refine G1 ?_);exact h1.x h;(repeat refine G1 ?_);exact h2.x h)):P:=e ⟨h1⟩ ⟨h2⟩
theorem GW {P:Prop} (e:P:=by ((repeat refine G1 ?_);first|exact cu (v:= .int _ _) rfl rfl rfl λw' hw=>⟨rfl,hw.1⟩|exact cu (v:= .bool _) rfl rfl rfl λw' hw=>⟨rfl,hw.1⟩|exact jr (v:= .int _ _) (x:= .int _ _) rfl rfl rfl rfl λw' hw=>⟨rfl,hw.1⟩)):P:=e
section
variable {c:Cx} {PQ:PJ} {w0:World} {L:List Item} {f:Fr} {σ:Type} {k:Code}
theorem la(S)(vals:σ->List (Nat×Value))(Li I m s0)(hI0:I s0)(round: ∀s g,I s->H c k (rq S f vals (λ_=>w0) Li I m s PQ) w0 (Li s) (Ar (over f S g) (vals s)))(hv0:Has f (vals s0):=by ((repeat refine ⟨rfl,?_⟩);exact trivial))(hL0: ∀w,Mem w0 L w->Mem w0 (Li s0) w:=by exact λ_ h=>h)(hk0:marks (Li s0)=marks L:=by rfl):H c (.loop k) PQ w0 L f:=
 ef S vals Li I m s0 hv0 hL0 hk0 hI0 round
theorem lb(S)(vals:σ->List (Nat×Value))(Li I m s0)(hL0: ∀w,Mem w0 L w->Mem w0 (Li s0) w)(hI0:I s0)(round: ∀s g,I s->H c k (rq S f vals (λ_=>w0) Li I m s PQ) w0 (Li s) (Ar (over f S g) (vals s)))(hv0:Has f (vals s0):=by ((repeat refine ⟨rfl,?_⟩);exact trivial))(hk0:marks (Li s0)=marks L:=by rfl):H c (.loop k) PQ w0 L f:=
 ef S vals Li I m s0 hv0 hL0 hk0 hI0 round
end
section
variable {PQ:PJ} {w0:World} {L:List Item} {f f0:Fr} {σ:Type} {S:List Nat} {vals:σ->List (Nat×Value)} {Wb:σ->World} {Li:σ->List Item} {I:σ->Prop} {m:σ->Nat} {s:σ}
theorem na(s')(hI:I s')(hag:kY S f f0:=by exact lg)(hv:Has f (vals s'):=by ((repeat refine ⟨rfl,?_⟩);exact trivial))(hm: ∀w,Mem w0 L w->Mem (Wb s') (Li s') w:=by exact λ_ h=>h)(hlt:m s'<m s:=by (first|omega|(dsimp only;omega)))(hk:marks (Li s')=marks L:=by rfl):rq S f0 vals Wb Li I m s PQ .normal w0 L f:=aH s' hag hv hm hk hI hlt
theorem nb(s')(hI:I s')(hlt:m s'<m s)(hag:kY S f f0:=by exact lg)(hv:Has f (vals s'):=by ((repeat refine ⟨rfl,?_⟩);exact trivial))(hm: ∀w,Mem w0 L w->Mem (Wb s') (Li s') w:=by exact λ_ h=>h)(hk:marks (Li s')=marks L:=by rfl):rq S f0 vals Wb Li I m s PQ .normal w0 L f:=aH s' hag hv hm hk hI hlt
theorem nc(s')(hm: ∀w,Mem w0 L w->Mem (Wb s') (Li s') w)(hI:I s')(hag:kY S f f0:=by exact lg)(hv:Has f (vals s'):=by ((repeat refine ⟨rfl,?_⟩);exact trivial))(hlt:m s'<m s:=by (first|omega|(dsimp only;omega)))(hk:marks (Li s')=marks L:=by rfl):rq S f0 vals Wb Li I m s PQ .normal w0 L f:=aH s' hag hv hm hk hI hlt
theorem nd(s')(hm: ∀w,Mem w0 L w->Mem (Wb s') (Li s') w)(hI:I s')(hlt:m s'<m s)(hag:kY S f f0:=by exact lg)(hv:Has f (vals s'):=by ((repeat refine ⟨rfl,?_⟩);exact trivial))(hk:marks (Li s')=marks L:=by rfl):rq S f0 vals Wb Li I m s PQ .normal w0 L f:=aH s' hag hv hm hk hI hlt
theorem ne(s')(hv:Has f (vals s'))(hI:I s')(hag:kY S f f0:=by exact lg)(hm: ∀w,Mem w0 L w->Mem (Wb s') (Li s') w:=by exact λ_ h=>h)(hlt:m s'<m s:=by (first|omega|(dsimp only;omega)))(hk:marks (Li s')=marks L:=by rfl):rq S f0 vals Wb Li I m s PQ .normal w0 L f:=aH s' hag hv hm hk hI hlt
theorem nf(s')(hv:Has f (vals s'))(hI:I s')(hlt:m s'<m s)(hag:kY S f f0:=by exact lg)(hm: ∀w,Mem w0 L w->Mem (Wb s') (Li s') w:=by exact λ_ h=>h)(hk:marks (Li s')=marks L:=by rfl):rq S f0 vals Wb Li I m s PQ .normal w0 L f:=aH s' hag hv hm hk hI hlt
theorem ng(s')(hv:Has f (vals s'))(hm: ∀w,Mem w0 L w->Mem (Wb s') (Li s') w)(hI:I s')(hag:kY S f f0:=by exact lg)(hlt:m s'<m s:=by (first|omega|(dsimp only;omega)))(hk:marks (Li s')=marks L:=by rfl):rq S f0 vals Wb Li I m s PQ .normal w0 L f:=aH s' hag hv hm hk hI hlt
theorem nh(s')(hv:Has f (vals s'))(hm: ∀w,Mem w0 L w->Mem (Wb s') (Li s') w)(hI:I s')(hlt:m s'<m s)(hag:kY S f f0:=by exact lg)(hk:marks (Li s')=marks L:=by rfl):rq S f0 vals Wb Li I m s PQ .normal w0 L f:=aH s' hag hv hm hk hI hlt
end
theorem HE{P k fn code l w R N Q}(hf:P.funcs[k]?=some fn)(hN:fn.ntmps=N)(h:Q)(hb:fn.body=some code:=by rfl)(hl:Nat.ble l.length N=true:=by rfl)(e:CU Q->H ⟨P,none,N⟩ code (Aw ⟨P,none,N⟩ fn R) w [] (KH l):=by (intro h;(repeat refine G0 ?_);exact h.x)):Calls P k l.toArray w R:=dd hf hb hN hl (e ⟨h⟩)
theorem HF{P k fn code l w R N Q}(hf:P.funcs[k]?=some fn)(hN:fn.ntmps=N)(h:Q)(hb:fn.body=some code:=by rfl)(hl:Nat.ble l.length N=true:=by rfl)(e:CU Q->H ⟨P,none,N⟩ code (Aw ⟨P,none,N⟩ fn R) w [] (KH l):=by (intro h;(repeat refine G1 ?_);exact h.x)):Calls P k l.toArray w R:=dd hf hb hN hl (e ⟨h⟩)
end Go.Proofs.E
