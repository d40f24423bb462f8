import Derived.Test.YtakhechhnnjbcaaGreatBC02
import Derived.Laws.MakeOwn
import Derived.Shelf.SlSortCmp.NoneTotal
import Derived.Maps.RangeRun
set_option linter.unusedVariables false
set_option linter.unusedSimpArgs false
namespace Go.Proofs.E
open Go Go.RowKit
theorem Mem.swap {w0 w:World} {L:List Item} {j:Nat} {it it':Item} (h:Mem w0 L w) (hk:L[j]?=some it) (hfp: ∀b,it'.fp b→it.fp b) (hA:it'.A w):Mem w0 (L.set j it') w:=
 h.set hk hfp hA ⟨rfl,rfl,rfl,rfl,bq _⟩ (fun _ _=>rfl)
structure AA {α:Type} (k:Nat) (enc:α→List Value) (c:Nat) (cs:List Value) (xs:List α):Prop where
 len:xs.length≤c
 max:c≤maxLen
 size:cs.length=c*k
 rest: ∃r,cs=xs.flatMap enc++r
section
variable {α:Type} {e:TypeId} {k:Nat} {enc:α→List Value} {c b:Nat} {xs:List α} {w0 w:World} {L:List Item} {j:Nat}
theorem qE (h:(dR e k enc (some ⟨b,0,none⟩) c xs).A w): ∃cs:List Value,w.heap[b]?=some (.cells cs.toArray e (0,0))∧AA k enc c cs xs:=by
 have hA:w.ownsRow 0 e k (.slice (some ⟨b,0,none⟩) xs.length c) xs.length (xs.flatMap enc):=h;rcases hA.2 with ⟨h0,_⟩|⟨g,cap,cur,hv,_,h2,h3,h4,h5,h6⟩
 ·cases h0
 simp only [Value.slice.injEq,eQ,Addr.mk.injEq,Mc,true_and] at hv;obtain ⟨rfl,rfl⟩:=hv;refine ⟨cur.toList,by simpa using h2,h3,h4,by simpa using h5,cur.toList.drop (xs.length*k),?_⟩;rw [←h6,fz]
theorem pg (he: ∀x,(enc x).length=k) {cs:List Value} (h:w.heap[b]?=some (.cells cs.toArray e (0,0))) (hr:AA k enc c cs xs):(dR e k enc (some ⟨b,0,none⟩) c xs).A w:=by
 show w.ownsRow 0 e k (.slice (some ⟨b,0,none⟩) xs.length c) xs.length (xs.flatMap enc);obtain ⟨r,hr'⟩:=hr.rest;refine ⟨gi he xs, .inr ⟨b,c,cs.toArray,rfl,aU _,h,hr.len,hr.max,by simpa using hr.size,?_⟩⟩;simp only [hr'];rw [←gi he xs,List.take_left]
theorem dP {A:Option Addr} (h:Mem w0 L w) (hk:L[j]?=some (dR e k enc A c xs)) (hn:0<xs.length): ∃b,A=some ⟨b,0,none⟩:=by
 have hA:w.ownsRow 0 e k (.slice A xs.length c) xs.length (xs.flatMap enc):=h.item hk;rcases hA.2 with ⟨_,h0⟩|⟨g,cap,cur,hv,_⟩
 ·omega
 simp only [Value.slice.injEq] at hv;exact ⟨g,hv.1⟩
theorem Ge {A:Option Addr} (h:Mem w0 L w) (hk:L[j]?=some (dR e k enc A c xs)):xs.length≤c∧c≤9223372036854775807:=by
 have hA:w.ownsRow 0 e k (.slice A xs.length c) xs.length (xs.flatMap enc):=h.item hk;rcases hA.2 with ⟨hv,h0⟩|⟨g,cap,cur,hv,_,_,h3,h4,_⟩
 ·simp only [Value.slice.injEq] at hv;omega
 simp only [Value.slice.injEq] at hv;obtain ⟨_,_,rfl⟩:=hv;simp only [maxLen] at h4;omega
theorem yi (he: ∀x,(enc x).length=k) (h:Mem w0 L w) (hk:L[j]?=some (dR e k enc (some ⟨b,0,none⟩) c xs)) {i r:Nat} {x:α} {v:Value} (hx:xs[i]?=some x) (hv:(enc x)[r]?=some v):w.cell? ⟨b,i*k+r,none⟩=some v:=by
 obtain ⟨cs,h1,h2⟩:=qE (h.item hk);obtain ⟨q,hq⟩:=h2.rest;have hf:=rk he xs i x hx r v hv;have hlt:i*k+r<(xs.flatMap enc).length:=(aa.1 hf).1;simp only [World.cell?,h1];simp [hq,dM hlt,hf]
end
section
variable {α:Type} {e:TypeId} {k:Nat} {enc:α→List Value} {c b:Nat} {xs:List α} {w0:World} {L:List Item} {g:Bool} {v:Value} {i r:Nat} {x:α}
theorem rr (j:Nat) (hk:L[j]?=some (dR e k enc (some ⟨b,0,none⟩) c xs)) (hx:xs[i]?=some x) (hv:(enc x)[r]?=some v) (he: ∀x,(enc x).length=k:=by exact fun _=>rfl):g=true→ ∀w,Mem w0 L w→w.cell? ⟨b,0+i*k+r,none⟩=some v:=fun _ _ hw=>by
 rw [dj];exact yi he hw hk hx hv
theorem oR (j:Nat) (hk:L[j]?=some (dR e k enc (some ⟨b,0,none⟩) c xs)) (hx:xs[i]?=some x) (hv:(enc x)[0]?=some v) (he: ∀x,(enc x).length=k:=by exact fun _=>rfl):g=true→ ∀w,Mem w0 L w→w.cell? ⟨b,0+i*k,none⟩=some v:=rr (r:=0) j hk hx hv he
theorem sf (j:Nat) (hk:L[j]?=some (dR e k enc (some ⟨b,0,none⟩) c xs)) (hx:xs[i]?=some x) (he: ∀x,(enc x).length=k:=by exact fun _=>rfl):g=true→ ∀w,Mem w0 L w→ ∀q u,(enc x)[q]?=some u→w.cell? ⟨b,0+i*k+q,none⟩=some u:=fun hg w hw _ _ hu=>rr j hk hx hu he hg w hw
theorem Tt (j:Nat) {p:Nat} (hk:L[j]?=some (dR e k enc (some ⟨b,0,none⟩) c xs)) (hx:xs[p+i]?=some x) (he: ∀x,(enc x).length=k:=by exact fun _=>rfl):g=true→ ∀w,Mem w0 L w→ ∀q u,(enc x)[q]?=some u→w.cell? ⟨b,0+p*k+i*k+q,none⟩=some u:=fun _ w hw q u hu=>by
 have:=yi he hw hk hx hu;rw [show 0+p*k+i*k+q=(p+i)*k+q by rw [uv];omega];exact this
end
theorem qt (A B:List Value): ∀(vs C:List Value) (off:Nat),off+vs.length≤C.length→setAt (A++C++B) (A.length+off) vs=A++setAt C off vs++B
 |[],C,off,_=>rfl
 |v::r,C,off,h=>by
  simp only [bB] at h;have h1:(A++C++B).set (A.length+off) v=A++C.set off v++B:=by
   rw [cP,ib _ _ (by omega),cP,List.set_append_left _ _ (by omega)];simp
  simp only [setAt];rw [h1,ma];exact qt A B r (C.set off v) (off+1) (by simp;omega)
theorem DD {α:Type}: ∀(xs:List α) (i:Nat) (x y:α),xs[i]?=some x→xs=xs.take i++x::xs.drop (i+1)∧xs.set i y=xs.take i++y::xs.drop (i+1)
 |[],i,x,y,h=>by simp at h
 |a::xs,0,x,y,h=>by simp at h;subst h;simp
 |a::xs,i+1,x,y,h=>by
  obtain ⟨h1,h2⟩:=DD xs i x y (by simpa using h);refine ⟨?_,?_⟩
  ·simp only [Kn,List.drop_succ_cons,gx];rw [←h1]
  simp only [Kn,List.drop_succ_cons,gx,sN];rw [h2]
section
variable {α:Type} {k:Nat} {enc:α→List Value} {c:Nat} {cs:List Value} {xs:List α}
theorem AA.put (he: ∀x,(enc x).length=k) (h:AA k enc c cs xs) {i off:Nat} {x y:α} {vs:List Value} (hx:xs[i]?=some x) (ho:off+vs.length≤k) (hy:enc y=setAt (enc x) off vs):AA k enc c (setAt cs (i*k+off) vs) (xs.set i y):=by
 obtain ⟨r,hr⟩:=h.rest;refine ⟨by simpa using h.len,h.max,by rw [qq];exact h.size,r,?_⟩;obtain ⟨h1,h2⟩:=DD xs i x y hx;have hi:i<xs.length:=(aa.1 hx).1;have hl:((xs.take i).flatMap enc).length=i*k:=by rw [gi he,cH,UK (by omega)]
 have e:cs=(xs.take i).flatMap enc++enc x++((xs.drop (i+1)).flatMap enc++r):=by
  rw [hr]
  conv=>lhs;rw [h1]
  simp [lD]
 rw [e,←hl,qt _ _ vs (enc x) off (by rw [he];exact ho),←hy,h2];simp [lD]
theorem AA.cut (he: ∀x,(enc x).length=k) (h:AA k enc c cs xs) {i:Nat} {vs:List Value} (hi:i≤xs.length) (hl:i*k+vs.length≤c*k):AA k enc c (setAt cs (i*k) vs) (xs.take i):=by
 obtain ⟨r,hr⟩:=h.rest;have h0:((xs.take i).flatMap enc).length=i*k:=by rw [gi he,cH,UK hi]
 have e:cs=(xs.take i).flatMap enc++((xs.drop i).flatMap enc++r):=by
  rw [←cP,←lD,fz];exact hr
 refine ⟨by rw [cH];have:=h.len;omega,h.max,by rw [qq];exact h.size,setAt ((xs.drop i).flatMap enc++r) 0 vs,?_⟩;have hs:=h.size;rw [e] at hs⊢;simp only [bV,h0] at hs;have:=qt ((xs.take i).flatMap enc) [] vs ((xs.drop i).flatMap enc++r) 0 (by simp only [bV];omega);simp only [cz,nF,h0] at this;exact this
end
section
variable {α:Type} {e:TypeId} {k:Nat} {enc:α→List Value} {c' b:Nat} {xs:List α} {c:Cx} {w0:World} {L:List Item} {f:Fr} {K:List Item→Fr→Prop} {d:Nat} {ty t:TypeId} {pos:String} {af:Array Edge} {p q:Operand}
theorem H7 {P:Program} {w:World} {j:Nat} (he: ∀x,(enc x).length=k) (hw:Mem w0 L w) (hk:L[j]?=some (dR e k enc (some ⟨b,0,none⟩) c' xs)) {i off:Nat} {x y:α} {vs:List Value} (hx:xs[i]?=some x) (ho:off+vs.length≤k) (hy:enc y=setAt (enc x) off vs) (h1:vs.all kI=true):
  ∃w',(storeCells ⟨b,i*k+off,none⟩ vs 0).run P w= .ok () w'∧Mem w0 (L.set j (dR e k enc (some ⟨b,0,none⟩) c' (xs.set i y))) w':=by
 obtain ⟨cs,hc,hr⟩:=qE (hw.item hk);have hj:j<L.length:=(aa.1 hk).1;have hw1:Mem w0 (L.set j (box b e cs)) w:=hw.swap hk (fun x hx=>by cases hx;rfl) hc;have hi:i<xs.length:=(aa.1 hx).1;have hle:i*k+off+vs.length≤cs.length:=by
  rw [hr.size];have h3:=hr.len;have h2:(i+1)*k≤c'*k:=wy _ (by omega);rw [uv,Nat.one_mul] at h2;omega
 obtain ⟨w',hrun,hm⟩:=mg (P:=P) (b:=b) (t:=e) (o:=i*k+off) (k:=j) vs 0 cs w _ hw1 (by simp [hj]) h1 (by simpa using hle);refine ⟨w',hrun,?_⟩;rw [fB,nF] at hm;have hA:(dR e k enc (some ⟨b,0,none⟩) c' (xs.set i y)).A w':=pg he (hm.item (k:=j) (it:=box b e (setAt cs (i*k+off) vs)) (by simp [hj])) (hr.put he hx ho hy);have:=hm.swap (j:=j) (it:=box b e (setAt cs (i*k+off) vs)) (by simp [hj]) (fun x (hx:(some (⟨b,0,none⟩:Addr)).map (·.block)=some x)=>by cases hx;rfl) hA;rw [fB] at this;exact this
theorem jn (j:Nat) {i off n:Nat} {x:α} (y:α) {v:Value} (hp:ev f p= .pointer (some ⟨b,0+i*k+off,none⟩)) (hq:ev f q=v) (hs: ∀w,(sizeOf t).run c.P w= .ok n w) (hn:v.cells.size=n) (h1:v.cells.toList.all kI=true)
  (hk:L[j]?=some (dR e k enc (some ⟨b,0,none⟩) c' xs)) (hx:xs[i]?=some x) (ho:Nat.ble (off+v.cells.toList.length) k=true) (hy:enc y=setAt (enc x) off v.cells.toList)
  (next:K (L.set j (dR e k enc (some ⟨b,0,none⟩) c' (xs.set i y))) f) (he: ∀x,(enc x).length=k:=by exact fun _=>rfl):uz c w0 L f ⟨none, .store t p q,ty,pos,af,none⟩ K:=
 ⟨rfl,rfl,rfl,fun w hw=>by
  obtain ⟨w',hr,hm⟩:=H7 (P:=c.P) he hw hk hx (ep ho) hy h1;rw [dj] at hp;have:(execOp (ev f) ⟨none, .store t p q,ty,pos,af,none⟩).run c.P w= .ok .skip w':=by
   simp [execOp,hp,hq,Instr.storeAt,Instr.sureAddr,storeVar,hs,hn,hr,Result.andThen]
  rw [this];exact ⟨_,hm,ie hk rfl,next⟩⟩
theorem ew (j:Nat) {i n:Nat} {x:α} (y:α) {v:Value} (hp:ev f p= .pointer (some ⟨b,0+i*k,none⟩)) (hq:ev f q=v) (hs: ∀w,(sizeOf t).run c.P w= .ok n w) (hn:v.cells.size=n) (h1:v.cells.toList.all kI=true)
  (hk:L[j]?=some (dR e k enc (some ⟨b,0,none⟩) c' xs)) (hx:xs[i]?=some x) (ho:Nat.ble (0+v.cells.toList.length) k=true) (hy:enc y=setAt (enc x) 0 v.cells.toList)
  (next:K (L.set j (dR e k enc (some ⟨b,0,none⟩) c' (xs.set i y))) f) (he: ∀x,(enc x).length=k:=by exact fun _=>rfl):uz c w0 L f ⟨none, .store t p q,ty,pos,af,none⟩ K:=
 jn j (off:=0) y hp hq hs hn h1 hk hx ho hy next he
theorem N4 (j:Nat) {i m cap:Nat} {z:Value} (ht:c.P.underlying t=some (.slice e)) (hz: ∀w,(zeroValue e).run c.P w= .ok z w) (hzk:z.cells.size=k) (h1:z.cells.toList.all kI=true) (hp:ev f p= .slice (some ⟨b,0+i*k,none⟩) m cap)
  (hk:L[j]?=some (dR e k enc (some ⟨b,0,none⟩) c' xs)) (hi:i+m=xs.length∧0<m)
  (next:K (L.set j (dR e k enc (some ⟨b,0,none⟩) c' (xs.take i))) f) (he: ∀x,(enc x).length=k:=by exact fun _=>rfl):uz c w0 L f ⟨none, .call {callee:= .builtin .clear,args:= #[p],argTypes:= #[t]},ty,pos,af,none⟩ K:=
 ⟨rfl,rfl,rfl,fun w hw=>by
  obtain ⟨cs,hc,hr⟩:=qE (hw.item hk);have hj:j<L.length:=(aa.1 hk).1;have hw1:Mem w0 (L.set j (box b e cs)) w:=hw.swap hk (fun x hx=>by cases hx;rfl) hc;have hzl:(Builtin.zeroCells z.cells m).toList.length=m*k:=by simp [size_zeroCells,hzk]
  have hzo:(Builtin.zeroCells z.cells m).toList.all kI=true:=by
   rw [eF];intro v hv;simp only [Builtin.zeroCells,Array.toList_map,Array.toList_range,bJ,dL] at hv;obtain ⟨q,hq,rfl⟩:=hv;have hk0:0<z.cells.size:=by
    rcases du z.cells.size with h|h
    ·rw [h] at hq;omega
    exact h
   have hqk:q%z.cells.size<z.cells.size:=WQ _ hk0;rw [jH z.cells _ hqk];exact eF.1 h1 _ (by simp)
  have hle:i*k+m*k≤c'*k:=by
   rw [←uv];exact wy _ (by have:=hr.len;omega)
  obtain ⟨w',hrun,hm⟩:=mg (P:=c.P) (b:=b) (t:=e) (o:=i*k) (k:=j) (Builtin.zeroCells z.cells m).toList 0 cs w _ hw1 (by simp [hj]) hzo (by rw [hzl,hr.size];simpa using hle);rw [fB,nF] at hm;have hA:(dR e k enc (some ⟨b,0,none⟩) c' (xs.take i)).A w':=pg he (hm.item (k:=j) (it:=box b e (setAt cs (i*k) (Builtin.zeroCells z.cells m).toList)) (by simp [hj])) (hr.cut he (by omega) (by rw [hzl];exact hle));have hm2:=hm.swap (j:=j) (it:=box b e (setAt cs (i*k) (Builtin.zeroCells z.cells m).toList)) (by simp [hj]) (fun x (hx:(some (⟨b,0,none⟩:Addr)).map (·.block)=some x)=>by cases hx;rfl) hA;rw [fB] at hm2;rw [dj] at hp;have hm0:m≠0:=by omega
  have:(execOp (ev f) ⟨none, .call {callee:= .builtin .clear,args:= #[p],argTypes:= #[t]},ty,pos,af,none⟩).run c.P w= .ok (.value (.tuple #[])) w':=by
   obtain ⟨m',rfl⟩: ∃m',m=m'+1:=⟨m -1,by omega⟩;simp [execOp,resolve,invoke,builtin,hp,Builtin.clear_,run_underlying ht,hz,hrun,Result.andThen]
  rw [this];exact ⟨_,hm2,ie hk rfl,next⟩⟩
theorem jZ {n m : Nat} {z : Value} {i : TypeInfo} {k : Nat} (enc : α → List Value) (zx : α) (ht : c.P.underlying t = some (.slice e)) (hi : c.P.info? e = some i) (hz : i.zero = some z) (hsize : i.size = k) (hzs : z.cells.toList = enc zx) (hp : ev f p = .int .i64 n) (hq : ev f q = .int .i64 m) (hlen : (n ≤ m ∧ m ≤ 1000000) ∧ i.bytes ≤ 100000) (hd : Nat.blt d c.N = true)
    (next : ∀ b, K (dR e k enc (some ⟨b, 0, none⟩) m (List.replicate n zx) :: L) (kX f d (.slice (some ⟨b, 0, none⟩) n m))) (he : ∀ x, (enc x).length = k := by exact fun _ => rfl) : uz c w0 L f ⟨some d, .makeSlice t p q, ty, pos, af, none⟩ K :=
  ⟨rfl, rfl, hd, fun w hw => by
    have hb : (i.bytes : Int) * (m : Int) ≤ 281474976710656 := by
      have h1 : i.bytes * m ≤ 100000 * 1000000 := Wl hlen.2 hlen.1.2
      have h2 : ((i.bytes * m : Nat) : Int) ≤ 281474976710656 := by omega
      rwa [Int.natCast_mul] at h2
    have hr := run_make (P := c.P) w t e i z ht hi hz .i64 .i64 n m (by omega) (by omega) hb (by omega)
    have : (execOp (ev f) ⟨some d, .makeSlice t p q, ty, pos, af, none⟩).run c.P w = .ok (.value (.slice (some ⟨w.heap.size, 0, none⟩) n m)) (w.alloc (.cells (madeCells z.cells (m * i.size)) e)) := by
      simp only [aM] at hr
      simp [execOp, hp, hq, hr, Result.andThen]
    rw [this]
    subst hsize
    have hzk : z.cells.size = i.size := by rw [← Ks, hzs, he]
    have hcell : ∀ q, (madeCells z.cells (q * i.size)).toList = (List.replicate q zx).flatMap enc := by
      intro q
      apply cU
      intro y
      by_cases hy : y < q * i.size
      · have hk : 0 < i.size := by rcases du i.size with h | h; · rw [h] at hy; omega
                                   · exact h
        have hyk : y % i.size < i.size := WQ _ hk
        have h1 : (List.replicate q zx)[y / i.size]? = some zx := by
          rw [gp, av (HI (by rw [zX]; exact hy))]
        have h2 : (enc zx)[y % i.size]? = some ((enc zx)[y % i.size]'(by rw [he]; exact hyk)) := aj _
        have h3 := rk he _ _ _ h1 _ _ h2
        rw [zX, UM] at h3
        rw [h3]
        simp only [madeCells, Array.toList_map, Array.toList_range, bf, List.getElem?_range hy, fU, hzk]
        congr 1
        rw [jH z.cells _ (by rw [hzk]; exact hyk), ← HP]
        simp only [hzs]
      · rw [dC (by simp [madeCells]; omega), dC (by rw [gi he]; simp; omega)]
    refine ⟨dR e i.size enc (some ⟨w.heap.size, 0, none⟩) m (List.replicate n zx) :: L, hw.new _ _ (fun b hb => by cases hb; rfl) ?_, rfl, ?_⟩
    · refine pg he (cs := (madeCells z.cells (m * i.size)).toList) (heap_alloc_new w _) ⟨by simpa using hlen.1.1, by simp only [maxLen]; omega, by simp [size_madeCells], (List.replicate (m - n) zx).flatMap enc, ?_⟩
      rw [hcell, ← lD, List.replicate_append_replicate]
      congr 2
      omega
    · exact next w.heap.size⟩
end
section
variable {c:Cx} {w0:World} {L:List Item} {f:Fr} {ty t el:TypeId} {g:Bool} {x y:Operand}
theorem Oc {b o n cp sz:Nat} {m:Int} (j:Nat) (ht:c.P.underlying t=some (.slice el)) (hs: ∀w,(sizeOf el).run c.P w= .ok sz w) (hx:gw g f x (.slice (some ⟨b,o,none⟩) n cp)) (hy:gw g f y (.int .i64 m)) (hm:g=true→m=(j:Int)∧j<n∧n≤cp):
  iO g c w0 L f (.slice t x (some y) none none) ty (.slice (some ⟨b,o+j*sz,none⟩) (n -j) (cp -j)):=fun e _ _ _ _ w _=>by
 obtain ⟨rfl,hj,hc⟩:=hm e;have h1:(0:Int)≤(j:Int)∧(j:Int)≤(n:Int):=by omega
 have h2:cp≠j:=by omega
 simp [execOp,hx e,hy e,Instr.sliceAt,Instr.slice,Instr.sliceBounds,Instr.sliceBound,asIntOf,run_underlying ht,hs,Result.andThen,addr_add,h2,show j≤n by omega]
def ow (A:Option Addr) (cp j sz:Nat):Option Addr:=if cp=j then A else A.map (·.add (j*sz))
theorem yJ {A:Option Addr} {n cp sz:Nat} {m:Int} (j:Nat) (ht:c.P.underlying t=some (.slice el)) (hs: ∀w,(sizeOf el).run c.P w= .ok sz w) (hx:gw g f x (.slice A n cp)) (hy:gw g f y (.int .i64 m)) (hm:g=true→m=(j:Int)∧j≤n):
  iO g c w0 L f (.slice t x (some y) none none) ty (.slice (ow A cp j sz) (n -j) (cp -j)):=fun e _ _ _ _ w _=>by
 obtain ⟨rfl,hj⟩:=hm e;simp [execOp,hx e,hy e,Instr.sliceAt,Instr.slice,Instr.sliceBounds,Instr.sliceBound,asIntOf,run_underlying ht,hs,Result.andThen,hj,ow]
theorem IF {A:Option Addr} {n cp sz:Nat} {m:Int} (j:Nat) (ht:c.P.underlying t=some (.slice el)) (hs: ∀w,(sizeOf el).run c.P w= .ok sz w) (hx:gw g f x (.slice A n cp)) (hy:gw g f y (.int .i64 m)) (hm:g=true→m=(j:Int)∧j≤cp):
  iO g c w0 L f (.slice t x none (some y) none) ty (.slice A j cp):=fun e _ _ _ _ w _=>by
 obtain ⟨rfl,hj⟩:=hm e;have ha:A.map (·.add (0*sz))=A:=by
  cases A with
  |none=>rfl
  |some a=>simp [Addr.add]
 simp only [RF] at ha;simp [execOp,hx e,hy e,Instr.sliceAt,Instr.slice,Instr.sliceBounds,Instr.sliceBound,asIntOf,run_underlying ht,hs,Result.andThen,hj,ha]
theorem ov {A:Option Addr} {n cp:Nat} {t2:TypeId} (ht:c.P.underlying t=some (.slice el)) (hx:gw g f x (.slice A n cp)):iO g c w0 L f (.binOp .eql t x (.const (.slice none 0 0)) t2) ty (.bool A.isNone):=fun e _ _ _ _ w _=>by
 have hq: ∀d,(Op.equalIn (d+1) t (.slice A n cp) (.slice none 0 0)).run c.P w= .ok A.isNone w:=fun d=>by
  cases A<;>simp [Op.equalIn,run_underlying ht]
 have hq:(Op.equal t (.slice A n cp) (.slice none 0 0)).run c.P w= .ok A.isNone w:=hq 9999;simp [execOp,hx e,ru,eqGuard,binOp,hq,Result.andThen]
theorem gj {A:Option Addr} {t2:TypeId} (ht:c.P.underlying t=some (.pointer el)) (hx:gw g f x (.pointer A)):iO g c w0 L f (.binOp .eql t x (.const (.pointer none)) t2) ty (.bool A.isNone):=fun e _ _ _ _ w _=>by
 have hq: ∀d,(Op.equalIn (d+1) t (.pointer A) (.pointer none)).run c.P w= .ok A.isNone w:=fun d=>by
  cases A<;>simp [Op.equalIn,run_underlying ht]
 have hq:(Op.equal t (.pointer A) (.pointer none)).run c.P w= .ok A.isNone w:=hq 9999;simp [execOp,hx e,ru,eqGuard,binOp,hq,Result.andThen]
theorem CO {ps:Array TypeId} {rs:Array TypeId} {va:Bool} {fn:Fn} {a1 a2:Array Value} {t2:TypeId} (ht:c.P.underlying t=some (.func ps rs va)) (hx:gw g f x (.func fn a1 a2)):iO g c w0 L f (.binOp .neq t x (.const .nilFunc) t2) ty (.bool true):=fun e _ _ _ _ w _=>by
 have hq: ∀d,(Op.equalIn (d+1) t (.func fn a1 a2) .nilFunc).run c.P w= .ok false w:=fun d=>by
  simp [Op.equalIn,run_underlying ht]
 have hq:(Op.equal t (.func fn a1 a2) .nilFunc).run c.P w= .ok false w:=hq 9999;simp [execOp,hx e,ru,eqGuard,binOp,hq,Result.andThen]
theorem zM {ps:Array TypeId} {rs:Array TypeId} {va:Bool} {t2:TypeId} (ht:c.P.underlying t=some (.func ps rs va)) (hx:gw g f x .nilFunc):iO g c w0 L f (.binOp .neq t x (.const .nilFunc) t2) ty (.bool false):=fun e _ _ _ _ w _=>by
 have hq: ∀d,(Op.equalIn (d+1) t .nilFunc .nilFunc).run c.P w= .ok true w:=fun d=>by
  simp [Op.equalIn,run_underlying ht]
 have hq:(Op.equal t .nilFunc .nilFunc).run c.P w= .ok true w:=hq 9999;simp [execOp,hx e,ru,eqGuard,binOp,hq,Result.andThen]
end
theorem gJ.drop {α:Type} {w:World} {k:Nat} {enc:α→List Value} {A:Option Addr} {n cp:Nat} {xs:List α} (h:gJ w k enc A n xs) {i:Nat} (hi:i≤n) (hc:n≤cp):gJ w k enc (ow A cp i k) (n -i) (xs.drop i):=by
 refine ⟨by rw [Dt,h.1],by have:=h.2.1;omega,fun h0=>?_⟩;obtain ⟨b,off,hA,hb,hr⟩:=h.2.2 (by omega);refine ⟨b,off+i*k,?_,hb,fun j x hx=>?_⟩
 ·rw [ow,ah (by omega),hA];simp [addr_add]
 rw [kC] at hx;have:=hr (i+j) x hx
 rwa [uv,←ma] at this
theorem eu {P:Program} {k:FuncId} {fn:Func} {code:Code} {l:List Value} {w0 w:World} {L:List Item} {R:Ending→World→Prop} {N:Nat} (hw:Mem w0 L w) (hmk:marks L=[]) (hf:P.funcs[k]?=some fn) (hb:fn.body=some code) (hN:fn.ntmps=N) (hl:Nat.ble l.length N=true)
  (h:H ⟨P,none,N⟩ code (Dh ⟨P,none,N⟩ fn R) w0 L (QM l)):Calls P k l.toArray w R:=by
 have hl':l.length≤N:=ep hl;refine Hm (n:=0) (callsIn_of_wp_marks hf hb trivial (wpIn_mono (h _ w ⟨?_,?_,hmk.symm⟩ hw) ?_) rfl)
 ·simp [hN];omega
 ·intro i;simp only [cu,QM,aq];rw [Array.getElem?_append];split
  ·simp
  rename_i hi;have:l[i]?=none:=dC (by simpa using hi);rw [this];simp only [rO];split<;>rfl
 rintro e a w' ⟨u',L',f',k1,k2,k3⟩;cases e with
 |normal=>have:=k3 w' a k2 k1;rw [←k1.defers] at this;exact this
 |ret=>have:=k3 w' a k2 k1;rw [←k1.defers] at this;exact this
 |exit i=>exact k3.elim
 |goto l=>exact k3.elim
 |panic ch=>exact k3.elim
 |outgrown=>exact k3.elim
theorem rv {α:Type}: ∀(L:List α) (j:Nat) (x:α),L[j]?=some x→(x::L.eraseIdx j).Perm L
 |[],_,_,h=>by simp at h
 |a::L,0,x,h=>by simp at h;subst h;simp
 |a::L,j+1,x,h=>by
  have:=rv L j x (by simpa using h);simp only [sP];exact (List.Perm.swap a x _).trans (this.cons a)
theorem set_perm {α:Type}: ∀(L:List α) (j:Nat) (y:α),j<L.length→(L.set j y).Perm (y::L.eraseIdx j)
 |[],_,_,h=>by simp at h
 |a::L,0,y,_=>by simp
 |a::L,j+1,y,h=>by
  have:=set_perm L j y (by simpa using h);simp only [sP,sN];exact (this.cons a).trans (List.Perm.swap y a _)
theorem Mem.front {w0 w:World} {L:List Item} {j:Nat} {it:Item} (h:Mem w0 L w) (hk:L[j]?=some it):Mem w0 (it::L.eraseIdx j) w:=h.perm (rv L j it hk)
theorem Mem.back {w0 w:World} {L:List Item} {j:Nat} {it it':Item} (h:Mem w0 (it'::L.eraseIdx j) w) (hk:L[j]?=some it):Mem w0 (L.set j it') w:=h.perm (set_perm L j it' (aa.1 hk).1)
theorem An: ∀(L:List Item) (j:Nat),marks L=[]→marks (L.eraseIdx j)=[]
 |[],j,_=>by simp [marks]
 |a::L,0,h=>by rw [jN,List.append_eq_nil_iff] at h;simpa using h.2
 |a::L,j+1,h=>by
  rw [jN,List.append_eq_nil_iff] at h;rw [sP,jN,h.1,An L j h.2];rfl
section
variable {c:Cx} {w0:World} {L:List Item} {f:Fr} {K:List Item→Fr→Prop} {dst:Option Nat} {ty:TypeId} {pos:String} {af:Array Edge}
theorem bR {α:Type} {op:Op} {k:FuncId} {args:Array Value} {val:α→Value} {Lx:α→List Item} (hen:mG true c w0 L f op ty k args) (hc: ∀w,Mem w0 L w→Calls c.P k args w fun e w'=> ∃x:α,e= .returned (val x)∧Mem w0 (Lx x) w') (hd:Om c dst=true) (hmk: ∀x,marks (Lx x)=marks L) (next: ∀x,K (Lx x) (s5 f dst (val x))) (hnd:dI op=false:=by rfl):uz c w0 L f ⟨dst,op,ty,pos,af,none⟩ K:=
 ⟨rfl,hnd,hd,fun w hw=>by
  rw [hen rfl _ _ _ _ w hw];refine ⟨rfl,(hc w hw).mono ?_⟩;rintro e w' ⟨x,rfl,hm⟩;exact ⟨_,_,rfl,hm,hmk x,next x⟩⟩
end
end Go.Proofs.E
namespace Go.Proofs.E
open Go Go.RowKit
section
variable {α:Type} {e t:TypeId} {k:Nat} {enc:α→List Value} {A:Option Addr} {xs:List α} {c:Cx} {w0:World} {L:List Item} {f:Fr} {PQ:PJ} {ops rest:List Oper} {d1 d2 o1:Nat} {ty1 ty2:TypeId} {pos1 pos2:String} {af1 af2:Array Edge} {x:Operand}
theorem lq (j:Nat) (y:α) {cA:Nat} {i:TypeInfo} {z v:Value} (ht:c.P.underlying t=some (.slice e)) (hi:c.P.info? e=some i) (hz:i.zero=some z) (hsize:i.size=k) (hzs:z.cells.size=k) (hk0:Nat.blt 0 k=true) (hsz: ∀w,(sizeOf e).run c.P w= .ok k w) (hzv: ∀w,(zeroValue e).run c.P w= .ok z w) (hk1:Nat.ble k 10000=true)
  (hx:ev f x=v) (hv:v.cells.toList=enc y) (ho:f o1= .slice A xs.length cA) (hne:Nat.beq o1 d1=false) (hk:L[j]?=some (dR e k enc A cA xs))
  (hlen:xs.length+1≤1000000∧i.bytes≤100000) (hd1:Nat.blt d1 c.N=true) (hd2:Nat.blt d2 c.N=true)
  (next: ∀B A' c',XL false c ops rest PQ w0 (L.set j (dR e k enc A' c' (xs++[y]))) (kX (kX f d1 (.slice (some ⟨B,0,none⟩) 1 1)) d2 (.slice A' (xs++[y]).length c')))
  (he: ∀x,(enc x).length=k:=by exact fun _=>rfl) (h1: ∀x,(enc x).all (·.oneCell')=true:=by exact fun _=>rfl):
  XL false c ops (⟨some d1, .buildSlice t 1 #[(0,x)],ty1,pos1,af1,none⟩::⟨some d2, .call {callee:= .builtin .append,args:= #[.tmp o1, .tmp d1],argTypes:= #[t,t]},ty2,pos2,af2,none⟩::rest) PQ w0 L f:=by
 have hk2:0<k:=ep hk0;have hk3:k≤10000:=ep hk1;refine bZ ⟨rfl,rfl,hd1,fun w hw=>?_⟩;have hvs:v.cells.size=k:=by rw [←Ks,hv,he]
 have hrun:(execOp (ev f) ⟨some d1, .buildSlice t 1 #[(0,x)],ty1,pos1,af1,none⟩).run c.P w= .ok (.value (.slice (some ⟨w.heap.size,0,none⟩) 1 1)) (w.alloc (.cells (enc y).toArray e)):=by
  have h2: ¬16777216<k:=by omega
  have h0: ¬k=0:=by omega
  have hfill:Instr.fill (fun i=>some (i*k,k)) ((Array.range (1*k)).map (z.cells[· %z.cells.size]!)) [(0,v)]=some (enc y).toArray:=by
   have h3:=tj (oh k 1) (fun i=>some (i*k,k)) (fun i q h=>Gf h) [(0,v)] ((Array.range (1*k)).map (z.cells[· %z.cells.size]!)) (by
    simp only [Ax,oh,Wo,Array.size_range];simp [hvs])
   rw [h3];congr 1;simp only [L7,oh];have h4:(setAt ((Array.range (1*k)).map (z.cells[· %z.cells.size]!)).toList 0 v.cells.toList)=v.cells.toList:=by
    have:=qt [] [] v.cells.toList ((Array.range (1*k)).map (z.cells[· %z.cells.size]!)).toList 0 (by simp [hvs]);have hl: ∀(vs C:List Value),vs.length=C.length→setAt C 0 vs=vs:=by
     have key: ∀(vs P C:List Value),vs.length=C.length→setAt (P++C) P.length vs=P++vs:=by
      intro vs
      induction vs with
      |nil=>intro P C h;cases C with
       |nil=>rfl
       |cons _ _=>simp at h
      |cons v r ih=>intro P C h;cases C with
       |nil=>simp at h
       |cons a C=>
        simp only [setAt];have e1:(P++a::C).set P.length v=(P++[v])++C:=by simp
        rw [e1];have:=ih (P++[v]) C (by simpa using h);simp only [bV,bB,eU] at this;rw [this];simp
     intro vs C h;have:=key vs [] C h;simpa using this
    exact hl _ _ (by simp [hvs])
   rw [show ((List.map (fun i=>(i*k,k)) (List.range 1)).getD 0 (0,0)).fst=0 by simp];rw [h4,hv]
  simp [execOp,Instr.buildSlice,run_underlying ht,hsz,hzv,h2,h0,hx,newRow,Result.andThen];simp at hfill;rw [hfill];simp
 rw [hrun];refine ⟨_,hw.wY e (enc y),rfl,?_⟩;have ho':ev (kX f d1 (.slice (some ⟨w.heap.size,0,none⟩) 1 1)) (.tmp o1)= .slice A xs.length cA:=by
  show kX f d1 _ o1=_;simp only [kX,hne,Pt];exact ho
 have hd':ev (kX f d1 (.slice (some ⟨w.heap.size,0,none⟩) 1 1)) (.tmp d1)= .slice (some ⟨w.heap.size,0,none⟩) 1 1:=by
  show kX f d1 _ d1=_;simp [kX,Nat.beq_refl]
 refine lJ (ba (j+1) (m:=1) (ys:=[y]) ht hi hz hsize hzs hk0 he h1 ho' hd' (by simpa using hk) (fun w1 hw1=>?_) ⟨by simpa using hlen.1,hlen.2⟩ hd2 fun A' c'=>?_)
 ·have:=bg (enc:=enc) (xs:=[y]) hw1 (j:=0) (b:=w.heap.size) (t:=e) (by simp) he (by simp);simpa using this
 refine Uu (L':=L.set j (dR e k enc A' c' (xs++[y]))) (fun w1 hw1=>?_) rfl (next w.heap.size A' c');simpa using hw1.tail
end
open Go.Shelf Go.Lib Go.Sort in
theorem tD {α : Type} [Inhabited α] {e : TypeId} {k : Nat} {enc : α → List Value} {c b j n : Nat} {xs ys : List α} {w0 w : World} {L : List Item} {os : Array Obj} (he : ∀ x, (enc x).length = k) (hw : Mem w0 L w) (hk : L[j]? = some (dR e k enc (some ⟨b, 0, none⟩) c xs)) (hl : ys.length = xs.length) :
    Mem w0 (L.set j (dR e k enc (some ⟨b, 0, none⟩) c ys)) (sortWorldK enc k w b 0 n ys.toArray os) := by
  obtain ⟨cs, hc, hr⟩ := qE (hw.item hk)
  obtain ⟨r, hrest⟩ := hr.rest
  have hb : b < w.heap.size := (cm.1 hc).1
  have hflat : (flatK enc k ys.toArray).toList = ys.flatMap enc := by
    apply cU
    intro y
    by_cases hy : y < ys.length * k
    · have hk0 : 0 < k := by rcases du k with h | h; · rw [h] at hy; omega
                             · exact h
      have hyk : y % k < k := WQ _ hk0
      have hyd : y / k < ys.length := HI (by rw [zX]; exact hy)
      have h1 : ys[y / k]? = some ys[y / k] := aj hyd
      have h2 : (enc ys[y / k])[y % k]? = some ((enc ys[y / k])[y % k]'(by rw [he]; exact hyk)) := aj _
      have h3 := rk he _ _ _ h1 _ _ h2
      rw [zX, UM] at h3
      rw [h3]
      have h4 := get_flatK enc k ys.toArray y (by simpa using hy)
      rw [jH _ y (by simpa using hy)] at h4
      rw [FL, mu (by simpa using hy), h4]
      congr 1
      rw [jH ys.toArray (y / k) (by simpa using hyd)]
      simp only [List.getElem_toArray]
      rw [jH _ (y % k) (by rw [he]; exact hyk)]
    · rw [dC (by simp; omega), dC (by rw [gi he]; omega)]
  have hput : (putRowK enc k (Go.Sort.ahead w n) b 0 ys.toArray).heap[b]? = some (.cells (ys.flatMap enc ++ r).toArray e (0, 0)) := by
    show (w.heap.modify b _)[b]? = _
    rw [kd, av rfl, hc]
    simp only [fU, onCells, eQ, Obj.cells.injEq, Mc]
    apply WW
    apply cU
    intro y
    simp only [putCells, Array.toList_mapIdx, List.getElem?_mapIdx, size_flatK, Bj, aU, true_and, dj, Nat.sub_zero]
    by_cases hy : y < ys.length * k
    · have hy2 : y < cs.length := by
        rw [hr.size]
        have := hr.len
        have h2 : ys.length * k ≤ c * k := wy _ (by omega)
        omega
      rw [aj hy2]
      simp only [fU, hy, qo, id]
      have h4 : (ys.flatMap enc)[y]? = some (flatK enc k ys.toArray)[y]! := by
        rw [← hflat, FL, jH _ y (by simpa using hy)]
        exact mu _
      rw [dM (by rw [gi he]; exact hy), h4]
    · simp only [hy, lM, Option.map_id', id]
      rw [hrest, cy (by rw [gi he, ← hl]; omega), cy (by rw [gi he]; omega), gi he, gi he, hl]
  have hsz : (putRowK enc k (Go.Sort.ahead w n) b 0 ys.toArray).heap.size = w.heap.size := by simp [putRowK, Go.Sort.ahead]
  refine hw.H9 hk (fun b hb => .inl hb) (fun b' hb' => ?_) (pg he (cs := ys.flatMap enc ++ r) ?_ ⟨by rw [hl]; exact hr.len, hr.max, ?_, r, rfl⟩) ⟨rfl, rfl, rfl, ?_⟩ ?_ (fun b' hb' hf => ?_)
  · cases hb'
    show b < ((putRowK enc k (Go.Sort.ahead w n) b 0 ys.toArray).heap ++ os).size
    rw [Pv, hsz]; omega
  · show ((putRowK enc k (Go.Sort.ahead w n) b 0 ys.toArray).heap ++ os)[b]? = _
    rw [yZ (by rw [hsz]; exact hb)]
    exact hput
  · have := hr.size
    rw [hrest] at this
    simp only [bV, gi he, hl] at this ⊢
    exact this
  · exact Nat.le_add_right _ _
  · show w.heap.size ≤ ((putRowK enc k (Go.Sort.ahead w n) b 0 ys.toArray).heap ++ os).size
    rw [Pv, hsz]; omega
  · show ((putRowK enc k (Go.Sort.ahead w n) b 0 ys.toArray).heap ++ os)[b']? = _
    rw [yZ (by rw [hsz]; exact hb')]
    show (w.heap.modify b _)[b']? = _
    rw [kd, ah (fun h => hf (by rw [h]; rfl))]
open Go.Shelf Go.Lib Go.Sort in
theorem xg {α : Type} [Inhabited α] {e : TypeId} {k : Nat} {enc : α → List Value} {c b j : Nat} {xs : List α} {w0 w : World} {L : List Item} (he : ∀ x, (enc x).length = k) (hw : Mem w0 L w) (hk : L[j]? = some (dR e k enc (some ⟨b, 0, none⟩) c xs)) : HoldsK enc k w b 0 xs.toArray := by
  intro t ht
  rw [size_flatK] at ht
  simp only [Bj] at ht
  have hk0 : 0 < k := by rcases du k with h | h; · rw [h] at ht; omega
                         · exact h
  have htk : t % k < k := WQ _ hk0
  have htd : t / k < xs.length := HI (by rw [zX]; exact ht)
  rw [get_flatK enc k xs.toArray t (by simpa using ht), dj]
  have h1 : xs[t / k]? = some xs[t / k] := aj htd
  have h2 : (enc xs[t / k])[t % k]? = some ((enc xs[t / k])[t % k]'(by rw [he]; exact htk)) := aj _
  have h3 := yi he hw hk h1 h2
  rw [zX, UM] at h3
  refine ⟨?_, ?_⟩
  · rw [h3, jH xs.toArray (t / k) (by simpa using htd)]
    simp only [List.getElem_toArray, id]
    rw [jH _ (t % k) (by rw [he]; exact htk)]
  · obtain ⟨cs, hc, _⟩ := qE (hw.item hk)
    simp [World.frozen?, hc]
theorem gz.TO {w w':World} (h:gz w w'): ∃q os',w'=Go.Sort.grow (w.drewN q) os':=by
 refine ⟨w'.drawn -w.drawn,w'.heap.extract w.heap.size w'.heap.size,?_⟩;have hh:w'.heap=w.heap++w'.heap.extract w.heap.size w'.heap.size:=by
  apply Array.ext_getElem?;intro i;by_cases hi:i<w.heap.size
  ·rw [yZ hi];exact h.block i hi
  rw [Array.getElem?_append_right (by omega),Array.getElem?_extract];by_cases h2:i<w'.heap.size
  ·rw [av (by omega)];congr 1;omega
  rw [ah (by omega),cD (by omega)]
 have h1:=h.os;have h2:=h.tape;have h3:=h.output;have h4:=h.drawn;cases w;cases w';simp only [World.drewN,Go.Sort.grow] at*;subst h1 h2 h3;congr 1;omega
end Go.Proofs.E
namespace Go.Proofs.E
open Go Go.RowKit
def E3 (ps:List (Int×Value)) (k:Int):List (Int×Value):=ps.eraseP (fun p=>p.1==k)
theorem Gq (k:Int): ∀(es:List MapEntry) (ps:List (Int×Value)) (i:Nat),lL es ps→
  (Instr.findNow (.int .i64) (.int .i64 k) es i=some none∧E3 ps k=ps)∨
  (∃j x,Instr.findNow (.int .i64) (.int .i64 k) es i=some (some (i+j,x))∧j<es.length∧lL (es.eraseIdx j) (E3 ps k)):=by
 intro es
 induction es with
 |nil=>intro ps i h;cases h;exact .inl ⟨rfl,rfl⟩
 |cons e es ih=>
  intro ps i h;cases h with
  |cons hp hr=>
   rename_i p ps;have hp':=hp;obtain ⟨hk,hv⟩:=hp;by_cases hkk:p.1=k
   ·refine .inr ⟨0,e.val,?_,by simp,?_⟩
    ·simp [Instr.findNow,Instr.sameNow,hk,hkk]
    simpa [E3,hkk] using hr
   have hne:(k==p.1)=false:=dt.2 fun e=>hkk e.symm;rcases ih ps (i+1) hr with ⟨h1,h2⟩|⟨j,x,h1,h2,h3⟩
   ·refine .inl ⟨?_,?_⟩
    ·simp [Instr.findNow,Instr.sameNow,hk,hne,h1]
    simp only [E3] at h2⊢;rw [jx (by simpa using hkk),h2]
   refine .inr ⟨j+1,x,?_,by simp;omega,?_⟩
   ·simp [Instr.findNow,Instr.sameNow,hk,hne,h1];omega
   simp only [E3] at h3⊢;rw [jx (by simpa using hkk),sP];exact .cons hp' h3
section
variable {P:Program} {t kt et:TypeId}
theorem AH {w:World} {b:Nat} {ps:List (Int×Value)} {k:Int} {ty:TypeId} {t2:TypeId} (ht:P.underlying t=some (.map kt et)) (hk:P.underlying kt=some (.int .i64)) (h:mR w b ps):
  ∃w',(Builtin.delete_ #[t,t2] ty #[.map (some b), .int .i64 k]).run P w= .ok (.tuple #[]) w'∧mR w' b (E3 ps k)∧w.grownBy w' (some b)∧w'.heap.size=w.heap.size∧w.drawn≤w'.drawn:=by
 have hlt:=h.lt;obtain ⟨es,c,h1,h2,h3⟩:=h;have hg: ∀o:Obj,w.grownBy {w with heap:=w.heap.setIfInBounds b o} (some b):=fun o=>⟨rfl,rfl,rfl,by simp,fun i _ hi=>by
  have hne:b≠i:=fun e=>hi (by rw [e]);exact eR hne⟩
 rcases Gq k es.toList ps 0 h2 with ⟨ha,hs⟩|⟨j,x,ha,hj,hm⟩
 ·refine ⟨{w with heap:=w.heap.setIfInBounds b (.map es c)},?_,⟨es,c,cC hlt,by rw [hs];exact h2,h3⟩,hg _,by simp,bq _⟩;simp [Builtin.delete_,run_underlying ht,MapKept.run_getObj_map h1,gF hk,run_underlying hk,Instr.findKey,ha,Result.andThen,MapKept.run_setObj_map _ h1]
 rw [dj] at ha;have he:(es.eraseIdxIfInBounds j).toList=es.toList.eraseIdx j:=by simp [Array.eraseIdxIfInBounds];split<;>simp_all
 refine ⟨{w with heap:=w.heap.setIfInBounds b (.map (es.eraseIdxIfInBounds j) c)},?_,⟨_,c,cC hlt,by rw [he];exact hm,by rw [he];exact h3.sub (List.eraseIdx_sublist _ _)⟩,hg _,by simp,bq _⟩;simp [Builtin.delete_,run_underlying ht,MapKept.run_getObj_map h1,gF hk,run_underlying hk,Instr.findKey,ha,Result.andThen,MapKept.run_setObj_map _ h1]
end
section
variable {c:Cx} {w0:World} {L:List Item} {f:Fr} {K:List Item→Fr→Prop} {d:Nat} {ty t kt et:TypeId} {pos:String} {af:Array Edge} {g:Bool} {x y z:Operand}
theorem Bb {b:Nat} {ps:List (Int×Value)} {key:Int} {v u:Value} (ht:c.P.underlying t=some (.map kt et)) (hkt:c.P.underlying kt=some (.int .i64)) (hz: ∀w,(zeroValue et).run c.P w= .ok v w) (hx:gw g f x (.map (some b))) (hy:gw g f y (.int .i64 key))
  (hI: ∀w,Mem w0 L w→mR w b ps) (hu:g=true→(ju ps key).getD v=u):iO g c w0 L f (.lookup t x y false) ty u:=fun e _ _ _ _ w hw=>by
 simp [execOp,hx e,hy e,tX ht hkt hz (hI w hw) key,Result.andThen,hu e]
theorem mR.mem {b:Nat} {ps:List (Int×Value)} (h:mR w0 b ps) (w:World) (hw:Mem w0 L w):mR w b ps:=h.kept (hw.1.block b h.lt)
def Nl (r m clock:Nat) (seen:Array Nat) (last:Nat):Item where
 fp:=fun b=>b=r
 A:=fun w=>w.heap[r]?=some (.mapIter (some m) clock seen last)
 st:=fun _ _ h hA=>(h r rfl).trans hA
theorem Fe {m clock:Nat} {es:Array MapEntry} (ht:c.P.underlying t=some (.map kt et)) (hm: ∀w,Mem w0 L w→w.heap[m]?=some (.map es clock)) (hx:ev f x= .map (some m)) (hd:Nat.blt d c.N=true)
  (next: ∀r,K (Nl r m clock #[] clock::L) (kX f d (.pointer (some ⟨r,0,none⟩)))):uz c w0 L f ⟨some d, .range t x,ty,pos,af,none⟩ K:=
 ⟨rfl,rfl,hd,fun w hw=>by
  have:(execOp (ev f) ⟨some d, .range t x,ty,pos,af,none⟩).run c.P w= .ok (.value (.pointer (some ⟨w.heap.size,0,none⟩))) (w.alloc (.mapIter (some m) clock #[] clock)):=by
   simp [execOp,hx,Instr.range,run_underlying ht,MapKept.run_getObj_map (hm w hw),Result.andThen]
  rw [this];exact ⟨_,hw.new _ (Nl w.heap.size m clock #[] clock) (fun _ h=>h) (heap_alloc_new w _),rfl,next _⟩⟩
theorem IB (k : Nat) {r m clock last : Nat} {seen : Array Nat} {es : Array MapEntry} (hm : ∀ w, Mem w0 L w → w.heap[m]? = some (.map es clock)) (hB : lV es.toList clock) (hx : ev f x = .pointer (some ⟨r, 0, none⟩)) (hk : L[k]? = some (Nl r m clock seen last)) (hl : clock ≤ last) (hd : Nat.blt d c.N = true)
    (stop : (∀ e ∈ es.toList, seen.contains e.born = true) → K L (kX f d (.tuple #[.bool false])))
    (step : ∀ e ∈ es.toList, seen.contains e.born = false → K (L.set k (Nl r m clock (seen.push e.born) clock)) (kX f d (.tuple #[.bool true, e.key, e.val]))) : uz c w0 L f ⟨some d, .next x false, ty, pos, af, none⟩ K :=
  ⟨rfl, rfl, hd, fun w hw => by
    have hr : w.heap[r]? = some (.mapIter (some m) clock seen last) := hw.item hk
    have hrl := hw.ni hk (b := r) rfl
    rcases run_next_at (P := c.P) w ty r m clock last seen es clock hr (hm w hw) (fun x hx => hB.lt x hx) hl with ⟨h0, hrun⟩ | ⟨e, he, w1, hw1, hrun⟩
    · have : (execOp (ev f) ⟨some d, .next x false, ty, pos, af, none⟩).run c.P w = .ok (.value (.tuple #[.bool false])) w := by simp [execOp, hx, hrun, Result.andThen]
      rw [this]
      refine ⟨L, hw, rfl, stop fun e he => ?_⟩
      cases hc : seen.contains e.born with
      | true => rfl
      | false =>
        have : e ∈ (leftOf es seen).toList := by
          unfold leftOf
          simp only [Array.toList_filter, dT, jg]
          exact ⟨he, hc⟩
        rw [Array.eq_empty_of_size_eq_zero h0] at this
        cases this
    · have : (execOp (ev f) ⟨some d, .next x false, ty, pos, af, none⟩).run c.P w = .ok (.value (.tuple #[.bool true, e.key, e.val])) (Go.ChangeMaps.setBlock w1 r (.mapIter (some m) clock (seen.push e.born) clock)) := by simp [execOp, hx, hrun, Result.andThen]
      rw [this]
      have hes : e ∈ es.toList ∧ seen.contains e.born = false := by
        unfold leftOf at he
        simp only [Array.toList_filter, dT, jg] at he
        exact he
      have hw1' : Mem w0 L w1 := by rcases hw1 with rfl | rfl; · exact hw
                                    · exact hw.drew
      refine ⟨L.set k (Nl r m clock (seen.push e.born) clock), ?_, ie hk rfl, step e hes.1 hes.2⟩
      have hrl1 := hw1'.ni hk (b := r) rfl
      refine hw1'.set (w' := Go.ChangeMaps.setBlock w1 r (.mapIter (some m) clock (seen.push e.born) clock)) (it' := Nl r m clock (seen.push e.born) clock) hk (fun _ h => h) ?_ ⟨rfl, rfl, rfl, by simp [Go.ChangeMaps.setBlock], bq _⟩ (fun b hb => ?_)
      · show (w1.heap.setIfInBounds r _)[r]? = _
        exact cC hrl1.2
      · show (w1.heap.setIfInBounds r _)[b]? = _
        exact eR (fun e => hb e.symm)⟩
theorem IN {es:List MapEntry} {clock:Nat} (h:lV es clock):(es.map (·.born)).Nodup:=gA.2 (h.Ka.imp fun h=>Nat.ne_of_lt h)
theorem Fk (k:Nat) {r m clock:Nat} {seen:Array Nat} {es:Array MapEntry} {e:MapEntry} (hm: ∀w,Mem w0 L w→w.heap[m]?=some (.map es clock)) (hB:lV es.toList clock) (he:e∈es.toList) (hx:gw g f x (.pointer (some ⟨r,0,none⟩))) (hk:L[k]?=some (Nl r m clock (seen.push e.born) clock)):
  iO g c w0 L f (.entry x) ty (.tuple #[e.key,e.val]):=fun hg _ _ _ _ w hw=>by
 have:=run_entry_at (P:=c.P) w r m clock seen es clock e (hw.item hk) (hm w hw) he (IN hB);simp [execOp,hx hg,this,Result.andThen]
end
theorem p7 {P:Program} {w0:World} {b o k:Nat} {t:TypeId}: ∀(vs:List Value) (i:Nat) (cs:List Value) (w:World) (L:List Item),Mem w0 L w→L[k]?=some (box b t cs)→vs.all kI=true→o+i+vs.length≤cs.length→
  ∃w',(storeCells ⟨b,o,none⟩ vs i).run P w= .ok () w'∧Mem w0 (L.set k (box b t (setAt cs (o+i) vs))) w'∧(w'.os=w.os∧w'.tape=w.tape∧w'.output=w.output∧w'.heap.size=w.heap.size∧w.drawn≤w'.drawn)∧ ∀q,q≠b→w'.heap[q]?=w.heap[q]?
 |[],i,cs,w,L,hw,hk,_,_=>⟨w,by simp [storeCells],by
  have hi:L.set k (box b t cs)=L:=by
   obtain ⟨h1,h2⟩:=aa.1 hk;rw [←h2];exact mc h1
  show Mem w0 (L.set k (box b t cs)) w;rw [hi];exact hw,⟨rfl,rfl,rfl,rfl,bq _⟩,fun _ _=>rfl⟩
 |v::r,i,cs,w,L,hw,hk,h1,hl=>by
  simp only [nQ,bQ] at h1;simp only [bB] at hl;have hlt:o+i<cs.length:=by omega
  have hc:w.cell? ⟨b,o+i,none⟩=some cs[o+i]:=gy hw hk (aj hlt);have hf:w.frozen? ⟨b,o+i,none⟩=false:=Hr hw hk _;have hw1:=J5 hw hk (o+i) v;have hk1:(L.set k (box b t (cs.set (o+i) v)))[k]?=some (box b t (cs.set (o+i) v)):=by
   obtain ⟨h1,_⟩:=aa.1 hk;simp [h1]
  obtain ⟨w',hr,hm,hos,hot⟩:=p7 (P:=P) (o:=o) r (i+1) (cs.set (o+i) v) (w.setCell ⟨b,o+i,none⟩ v) _ hw1 hk1 h1.2 (by simp;omega);refine ⟨w',?_,?_,⟨hos.1,hos.2.1,hos.2.2.1,by rw [hos.2.2.2.1];simp [World.setCell],hos.2.2.2.2⟩,fun q hq=>(hot q hq).trans ?_⟩
  ·have hst:(store ⟨b,o+i,none⟩ v).run P w= .ok () (w.setCell ⟨b,o+i,none⟩ v):=by
    have h2:=h1.1;cases v<;>simp [kI] at h2<;>simp [store,Sem.run,hc,hf]
   simp [storeCells,addr_add,hst,Result.andThen,hr]
  ·rw [fB] at hm;exact hm
  simp [World.setCell,kd,Ne.symm hq]
def tH {β:Type} (ps:List (Int×Nat×β)):List (Int×Value):=ps.map fun p=>(p.1, .pointer (some ⟨p.2.1,0,none⟩))
def wc {β:Type} (ps:List (Int×Nat×β)):List Nat:=ps.map fun p=>p.2.1
def pmap {β:Type} (m:Nat) (t:TypeId) (enc:β→List Value) (ps:List (Int×Nat×β)):Item where
 fp:=fun b=>b=m∨b∈wc ps
 A:=fun w=>mR w m (tH ps)∧(∀p∈ps,w.heap[p.2.1]?=some (.cells (enc p.2.2).toArray t (0,0)))∧(wc ps).Nodup
 st:=fun w w' h hA=>⟨hA.1.kept (h m (.inl rfl)),fun p hp=>(h p.2.1 (.inr (bJ.2 ⟨p,hp,rfl⟩))).trans (hA.2.1 p hp),hA.2.2⟩
theorem KX {β:Type} (ps:List (Int×Nat×β)) (k:Int):ju (tH ps) k=(ps.find? (fun p=>p.1==k)).map fun p=> .pointer (some ⟨p.2.1,0,none⟩):=by
 induction ps with
 |nil=>rfl
 |cons p ps ih=>
  by_cases h:p.1==k
  ·simp [ju,tH,h]
  simp only [ju,tH,cI] at ih⊢;rw [gH (by simpa using h),gH (by simpa using h)];exact ih
theorem M0 {β:Type} (ps:List (Int×Nat×β)) (k:Int):E3 (tH ps) k=tH (ps.eraseP fun p=>p.1==k):=by
 induction ps with
 |nil=>rfl
 |cons p ps ih=>
  by_cases h:p.1==k
  ·simp [E3,tH,h]
  simp only [E3,tH,cI] at ih⊢;rw [jx (by simpa using h),jx (by simpa using h),cI,ih]
theorem MZ {β:Type} (ps:List (Int×Nat×β)) (k:Int) (b:Nat) (x:β) (h:ps.find? (fun p=>p.1==k)=none):ml (tH ps) k (.pointer (some ⟨b,0,none⟩))=tH (ps++[(k,b,x)]):=by
 induction ps with
 |nil=>rfl
 |cons p ps ih=>
  by_cases hk:p.1==k
  ·rw [List.find?_cons_of_pos (by simpa using hk)] at h;cases h
  rw [gH (by simpa using hk)] at h;have:=ih h;simp only [tH,cI,gx,ml] at this⊢;rw [ah (by simpa using hk),this]
section
variable {β:Type} {c:Cx} {w0:World} {L:List Item} {f:Fr} {K:List Item→Fr→Prop} {d m:Nat} {ty t kt et tb:TypeId} {pos:String} {af:Array Edge} {g:Bool} {x y z:Operand} {enc:β→List Value} {ps:List (Int×Nat×β)}
theorem pmap_map (k:Nat) (hk:L[k]?=some (pmap m tb enc ps)) (w:World) (hw:Mem w0 L w):mR w m (tH ps):=(hw.item hk).1
theorem pc (k:Nat) {q r:Nat} {p:Int×Nat×β} {v:Value} (hk:L[k]?=some (pmap m tb enc ps)) (hp:ps[q]?=some p) (hv:(enc p.2.2)[r]?=some v):g=true→ ∀w,Mem w0 L w→w.cell? ⟨p.2.1,0+r,none⟩=some v:=fun _ w hw=>by
 have hA:(pmap m tb enc ps).A w:=hw.item hk;have:=hA.2.1 p (an hp);simp [World.cell?,this,hv]
theorem LD (k:Nat) {t2:TypeId} {key:Int} (ht:c.P.underlying t=some (.map kt et)) (hkt:c.P.underlying kt=some (.int .i64)) (hx:ev f x= .map (some m)) (hy:ev f y= .int .i64 key) (hk:L[k]?=some (pmap m tb enc ps))
  (next:K (L.set k (pmap m tb enc (ps.eraseP fun p=>p.1==key))) f):uz c w0 L f ⟨none, .call {callee:= .builtin .delete,args:= #[x,y],argTypes:= #[t,t2]},ty,pos,af,none⟩ K:=
 ⟨rfl,rfl,rfl,fun w hw=>by
  have hA:(pmap m tb enc ps).A w:=hw.item hk;obtain ⟨w',hrun,h1,h2,h3,h4⟩:=AH (P:=c.P) (k:=key) (ty:=ty) (t2:=t2) ht hkt hA.1;have:(execOp (ev f) ⟨none, .call {callee:= .builtin .delete,args:= #[x,y],argTypes:= #[t,t2]},ty,pos,af,none⟩).run c.P w= .ok (.value (.tuple #[])) w':=by
   simp [execOp,resolve,invoke,builtin,hx,hy,hrun,Result.andThen]
  rw [this];have hsub:(ps.eraseP fun p=>p.1==key).Sublist ps:=List.eraseP_sublist;have hml:=(hw.ni hk (b:=m) (.inl rfl));have hne: ∀p∈ps,p.2.1≠m:=fun p hp e=>by
   have h5:=hA.2.1 p hp;obtain ⟨es,cl,h6,_⟩:=hA.1;rw [e,h6] at h5;cases h5
  have hbl: ∀b,b≠m→w'.heap[b]?=w.heap[b]?:=fun b hb=>by
   by_cases hlt:b<w.heap.size
   ·exact h2.block b hlt (fun e=>hb (by injection e))
   rw [cD (by omega),cD (by omega)]
  refine ⟨_,hw.set (it':=pmap m tb enc (ps.eraseP fun p=>p.1==key)) hk (fun b hb=>?_) ⟨by rw [←M0];exact h1,fun p hp=>(hbl p.2.1 (hne p (hsub.mem hp))).trans (hA.2.1 p (hsub.mem hp)),hA.2.2.sublist (hsub.map (fun p:Int×Nat×β=>p.2.1))⟩ ⟨h2.os,h2.tape,h2.output,h3,h4⟩ (fun b hb=>hbl b (fun e=>hb (.inl e))),ie hk rfl,next⟩;rcases hb with hb|hb
  ·exact .inl hb
  exact .inr ((hsub.map (fun p:Int×Nat×β=>p.2.1)).mem hb)⟩
theorem LC (k:Nat) {key:Int} {b:Nat} {cs:List Value} (v:β) (ht:c.P.underlying t=some (.map kt et)) (hkt:c.P.underlying kt=some (.int .i64)) (hx:ev f x= .map (some m)) (hy:ev f y= .int .i64 key) (hz:ev f z= .pointer (some ⟨b,0,none⟩))
  (hk:(box b tb cs::L)[k+1]?=some (pmap m tb enc ps)) (hcs:cs=enc v) (hno:ps.find? (fun p=>p.1==key)=none)
  (next:K (L.set k (pmap m tb enc (ps++[(key,b,v)]))) f):uz c w0 (box b tb cs::L) f ⟨none, .mapUpdate t x y z,ty,pos,af,none⟩ K:=
 ⟨rfl,rfl,rfl,fun w hw=>by
  have hA:(pmap m tb enc ps).A w:=hw.item hk;have hbx:w.heap[b]?=some (.cells cs.toArray tb (0,0)):=hw.item (k:=0) rfl;have hbl0:=hw.ni (k:=0) (it:=box b tb cs) rfl (b:=b) rfl;obtain ⟨w',hrun,h1,h2,h3,h4⟩:=p6 (P:=c.P) ht hkt hA.1 key (.pointer (some ⟨b,0,none⟩));have:(execOp (ev f) ⟨none, .mapUpdate t x y z,ty,pos,af,none⟩).run c.P w= .ok .skip w':=by simp [execOp,hx,hy,hz,hrun,Result.andThen]
  rw [this];have hk':L[k]?=some (pmap m tb enc ps):=by simpa using hk
  have hdis: ∀q,(pmap m tb enc ps).fp q→q≠b:=fun q hq e=>by
   subst e;exact (bL.1 hw.2.2.2).1 _ (an hk') q rfl hq
  have hne: ∀p∈ps,p.2.1≠m:=fun p hp e=>by
   have h5:=hA.2.1 p hp;obtain ⟨es,cl,h6,_⟩:=hA.1;rw [e,h6] at h5;cases h5
  have hbl: ∀q,q≠m→w'.heap[q]?=w.heap[q]?:=fun q hq=>by
   by_cases hlt:q<w.heap.size
   ·exact h2.block q hlt (fun e=>hq (by injection e))
   rw [cD (by omega),cD (by omega)]
  have hbm:b≠m:=fun e=>hdis m (.inl rfl) e.symm;have hnd:(wc (ps++[(key,b,v)])).Nodup:=by
   unfold wc;rw [bX];refine jR.2 ⟨hA.2.2,by simp,fun q hq r hr=>?_⟩;simp at hr;subst hr;exact hdis q (.inr hq)
  have hAll:(pmap m tb enc (ps++[(key,b,v)])).A w':=⟨by rw [←MZ ps key b v hno];exact h1,fun p hp=>by
   rcases aQ.1 hp with hp|hp
   ·exact (hbl p.2.1 (hne p hp)).trans (hA.2.1 p hp)
   simp at hp;subst hp;rw [←hcs];exact (hbl b hbm).trans hbx,hnd⟩
  refine ⟨L.set k (pmap m tb enc (ps++[(key,b,v)])),?_,ie hk' rfl,next⟩;obtain ⟨q1,q2,q3,q4⟩:=hw;have hLk:k<L.length:=(aa.1 hk').1;have hfp: ∀q,(pmap m tb enc (ps++[(key,b,v)])).fp q→(pmap m tb enc ps).fp q∨q=b:=fun q hq=>by
   rcases hq with hq|hq
   ·exact .inl (.inl hq)
   simp only [wc,bX,cI,zY,aQ,bu] at hq;rcases hq with hq|hq
   ·exact .inl (.inr hq)
   exact .inr hq
  have hp1:=bL.1 q4;have hother: ∀(j:Nat) it,L[j]?=some it→j≠k→(∀q,it.fp q→ ¬(pmap m tb enc ps).fp q)∧(∀q,it.fp q→q≠b):=fun j it hj hjk=>by
   constructor
   ·intro q hq hq2;obtain ⟨p1,e1⟩:=aa.1 hj;obtain ⟨p2,e2⟩:=aa.1 hk';rcases oV hjk with h|h
    ·exact bj.1 hp1.2 j k p1 p2 h q (e1▸hq) (e2▸hq2)
    exact bj.1 hp1.2 k j p2 p1 h q (e2▸hq2) (e1▸hq)
   intro q hq e;subst e;exact hp1.1 it (an hj) q rfl hq
  have hset: ∀(j:Nat) it,(L.set k (pmap m tb enc (ps++[(key,b,v)])))[j]?=some it→(j=k∧it=pmap m tb enc (ps++[(key,b,v)]))∨(j≠k∧L[j]?=some it):=fun j it hj=>by
   rw [bw] at hj;split at hj
   ·rename_i e;cases hj;exact .inl ⟨e.symm,rfl⟩
   rename_i e;exact .inr ⟨fun h=>e h.symm,hj⟩
  refine ⟨⟨⟨h2.os.trans q1.os,h2.tape.trans q1.tape,h2.output.trans q1.output,by rw [h3];exact q1.size,fun q hq=>(hbl q (fun e=>?_)).trans (q1.block q hq)⟩,jd q1.drawn h4⟩,?_,?_,?_⟩
  ·subst e;have:=(q3 _ (aB _ (an hk')) q (.inl rfl)).1;omega
  ·intro it hi;obtain ⟨j,hj⟩:=bC.1 hi;rcases hset j it hj with ⟨_,rfl⟩|⟨hjk,hj⟩
   ·exact hAll
   exact it.st w w' (fun q hq=>hbl q (fun e=>(hother j it hj hjk).1 q hq (.inl e))) (q2 it (aB _ (an hj)))
  ·intro it hi q hq;rw [h3];obtain ⟨j,hj⟩:=bC.1 hi;rcases hset j it hj with ⟨_,rfl⟩|⟨hjk,hj⟩
   ·rcases hfp q hq with hq|rfl
    ·exact q3 _ (aB _ (an hk')) q hq
    exact hbl0
   exact q3 it (aB _ (an hj)) q hq
  rw [bj];intro i j hi hj hij q hq1 hq2;have hi':=hset i _ (aj hi);have hj':=hset j _ (aj hj);rcases hi' with ⟨ei,e1⟩|⟨hik,e1⟩
  ·rcases hj' with ⟨ej,_⟩|⟨hjk,e2⟩
   ·omega
   rw [e1] at hq1;rcases hfp q hq1 with h|h
   ·exact (hother j _ e2 hjk).1 q hq2 h
   exact (hother j _ e2 hjk).2 q hq2 h
  rcases hj' with ⟨ej,e2⟩|⟨hjk,e2⟩
  ·rw [e2] at hq2;rcases hfp q hq2 with h|h
   ·exact (hother i _ e1 hik).1 q hq1 h
   exact (hother i _ e1 hik).2 q hq1 h
  obtain ⟨p1,e3⟩:=aa.1 e1;obtain ⟨p2,e4⟩:=aa.1 e2;exact bj.1 hp1.2 i j p1 p2 hij q (e3▸hq1) (e4▸hq2)⟩
theorem Au (k:Nat) {q off n:Nat} {p:Int×Nat×β} (v':β) {v:Value} (hx:ev f x= .pointer (some ⟨p.2.1,0+off,none⟩)) (hy:ev f y=v) (hs: ∀w,(sizeOf t).run c.P w= .ok n w) (hn:v.cells.size=n) (h1:v.cells.toList.all kI=true)
  (hk:L[k]?=some (pmap m tb enc ps)) (hp:ps[q]?=some p) (ho:off+v.cells.toList.length≤(enc p.2.2).length) (hv:enc v'=setAt (enc p.2.2) off v.cells.toList)
  (next:K (L.set k (pmap m tb enc (ps.set q (p.1,p.2.1,v')))) f):uz c w0 L f ⟨none, .store t x y,ty,pos,af,none⟩ K:=
 ⟨rfl,rfl,rfl,fun w hw=>by
  have hA:(pmap m tb enc ps).A w:=hw.item hk;have hmem:=an hp;have hcell:=hA.2.1 p hmem;have hLk:k<L.length:=(aa.1 hk).1;have hbnd:=hw.ni hk (b:=p.2.1) (.inr (bJ.2 ⟨p,hmem,rfl⟩));have hw1:Mem w0 (L.set k (box p.2.1 tb (enc p.2.2))) w:=hw.swap hk (fun b hb=>by cases hb;exact .inr (bJ.2 ⟨p,hmem,rfl⟩)) hcell;obtain ⟨w',hrun,hm,hos,hother⟩:=p7 (P:=c.P) (b:=p.2.1) (t:=tb) (o:=off) (k:=k) v.cells.toList 0 (enc p.2.2) w _ hw1 (by simp [hLk]) h1 (by simpa using ho);rw [fB,nF] at hm;have hbox:w'.heap[p.2.1]?=some (.cells (enc v').toArray tb (0,0)):=by
   have:=hm.item (k:=k) (it:=box p.2.1 tb (setAt (enc p.2.2) off v.cells.toList)) (by simp [hLk]);rw [hv];exact this
  rw [dj] at hx;have:(execOp (ev f) ⟨none, .store t x y,ty,pos,af,none⟩).run c.P w= .ok .skip w':=by
   simp [execOp,hx,hy,Instr.storeAt,Instr.sureAddr,storeVar,hs,hn,hrun,Result.andThen]
  rw [this];have hblocks:wc (ps.set q (p.1,p.2.1,v'))=wc ps:=by
   unfold wc;rw [k8];apply cU;intro i;rw [bw];split
   ·rename_i e;subst e;simp only [aD,bf,hp];rw [av (aa.1 hp).1];rfl
   rfl
  have hptrs:tH (ps.set q (p.1,p.2.1,v'))=tH ps:=by
   unfold tH;rw [k8];apply cU;intro i;rw [bw];split
   ·rename_i e;subst e;simp only [aD,bf,hp];rw [av (aa.1 hp).1];rfl
   rfl
  have hne: ∀p∈ps,p.2.1≠m:=fun p hp e=>by
   have h5:=hA.2.1 p hp;obtain ⟨es,cl,h6,_⟩:=hA.1;rw [e,h6] at h5;cases h5
  refine ⟨_,hw.set (it':=pmap m tb enc (ps.set q (p.1,p.2.1,v'))) hk (fun b hb=>?_) ⟨?_,?_,by rw [hblocks];exact hA.2.2⟩ hos (fun b hb=>hother b (fun e=>hb (.inr (by rw [e];exact bJ.2 ⟨p,hmem,rfl⟩)))),ie hk rfl,next⟩
  ·rcases hb with hb|hb
   ·exact .inl hb
   rw [hblocks] at hb;exact .inr hb
  ·rw [hptrs];exact hA.1.kept (hother m (fun e=>hne p hmem e.symm))
  intro r hr;obtain ⟨i,hi⟩:=bC.1 hr;rw [bw] at hi;split at hi
  ·split at hi
   ·cases hi;exact hbox
   cases hi
  rename_i hqi;have hrm:=an hi;refine (hother r.2.1 (fun e=>?_)).trans (hA.2.1 r hrm);have h6:=bj.1 hA.2.2;obtain ⟨p1,e1⟩:=aa.1 hi;obtain ⟨p2,e2⟩:=aa.1 hp;rcases oV hqi with h|h
  ·exact h6 q i (by simpa [wc] using p2) (by simpa [wc] using p1) h (by simp [wc,e1,e2,e])
  exact h6 i q (by simpa [wc] using p1) (by simpa [wc] using p2) h (by simp [wc,e1,e2,e])⟩
end
end Go.Proofs.E
namespace Go.Proofs.E
open Go Go.RowKit
section
variable {β:Type} {c:Cx} {w0:World} {L:List Item} {f:Fr} {K:List Item→Fr→Prop} {d:Nat} {ty t kt et:TypeId} {pos:String} {af:Array Edge} {x y z:Operand}
theorem lO (hd:Nat.blt d c.N=true) (next: ∀b,K (kS b []::L) (kX f d (.map (some b)))):uz c w0 L f ⟨some d, .makeMap t none,ty,pos,af,none⟩ K:=
 ⟨rfl,rfl,hd,fun w hw=>by
  have:(execOp (ev f) ⟨some d, .makeMap t none,ty,pos,af,none⟩).run c.P w= .ok (.value (.map (some w.heap.size))) (w.alloc (.map #[] 0)):=by simp [execOp,run_makeMap,Result.andThen]
  rw [this];exact ⟨_,hw.new _ (kS w.heap.size []) (fun _ h=>h) (mR.made w),rfl,next _⟩⟩
theorem rq (tb:TypeId) (enc:β→List Value) (hd:Nat.blt d c.N=true) (next: ∀b,K (pmap b tb enc ([]:List (Int×Nat×β))::L) (kX f d (.map (some b)))):uz c w0 L f ⟨some d, .makeMap t none,ty,pos,af,none⟩ K:=
 ⟨rfl,rfl,hd,fun w hw=>by
  have:(execOp (ev f) ⟨some d, .makeMap t none,ty,pos,af,none⟩).run c.P w= .ok (.value (.map (some w.heap.size))) (w.alloc (.map #[] 0)):=by simp [execOp,run_makeMap,Result.andThen]
  rw [this];exact ⟨_,hw.new _ (pmap w.heap.size tb enc []) (fun _ h=>h.elim id (fun h=>by simp [wc] at h)) ⟨mR.made w,fun p hp=>by simp at hp,by simp [wc]⟩,rfl,next _⟩⟩
theorem G6 (k:Nat) {b:Nat} {ps:List (Int×Value)} {key:Int} {v:Value} (ht:c.P.underlying t=some (.map kt et)) (hkt:c.P.underlying kt=some (.int .i64)) (hx:ev f x= .map (some b)) (hy:ev f y= .int .i64 key) (hz:ev f z=v)
  (hk:L[k]?=some (kS b ps)) (next:K (L.set k (kS b (ml ps key v))) f):uz c w0 L f ⟨none, .mapUpdate t x y z,ty,pos,af,none⟩ K:=
 ⟨rfl,rfl,rfl,fun w hw=>by
  have hA:mR w b ps:=hw.item hk;obtain ⟨w',hrun,h1,h2,h3,h4⟩:=p6 (P:=c.P) ht hkt hA key v;have:(execOp (ev f) ⟨none, .mapUpdate t x y z,ty,pos,af,none⟩).run c.P w= .ok .skip w':=by simp [execOp,hx,hy,hz,hrun,Result.andThen]
  rw [this];refine ⟨_,hw.set (it':=kS b (ml ps key v)) hk (fun _ h=>h) h1 ⟨h2.os,h2.tape,h2.output,h3,h4⟩ (fun b' hb'=>?_),ie hk rfl,next⟩;by_cases hlt:b'<w.heap.size
  ·exact h2.block b' hlt (fun e=>hb' (by injection e))
  rw [cD (by omega),cD (by omega)]⟩
end
theorem Mem.v7 {w0 w:World} {X S L:List Item} (h:Mem w0 (X++(S++L)) w):Mem w0 (S++(X++L)) w:=h.perm (ic ..)
theorem Mem.yL {w0 w:World} {X S L:List Item} (h:Mem w0 (S++(X++L)) w):Mem w0 (S++L) w:=h.sublist (List.Sublist.append_left (List.sublist_append_right ..) _)
theorem Mem.W5 {w0 w:World} {a b:Item} {L:List Item} (hm:Mem w0 (a::b::L) w):Mem w0 (b::a::L) w:=hm.perm (fx (l₁:=[b]))
theorem Mem.W7 {w0 w:World} {a b:Item} {L:List Item} (hm:Mem w0 (b::a::L) w):Mem w0 (a::b::L) w:=hm.perm (fx (l₁:=[b])).symm
theorem Mem.mv2 {w0 w:World} {a b c:Item} {L:List Item} (hm:Mem w0 (a::b::c::L) w):Mem w0 (b::c::a::L) w:=hm.perm (fx (l₁:=[b,c]))
theorem Mem.W4 {w0 w:World} {a b c d e:Item} {L:List Item} (hm:Mem w0 (a::b::c::d::e::L) w):Mem w0 (b::c::d::e::a::L) w:=hm.perm (fx (l₁:=[b,c,d,e]))
theorem Mem.W6 {w0 w:World} {a b c d e:Item} {L:List Item} (hm:Mem w0 (b::c::d::e::a::L) w):Mem w0 (a::b::c::d::e::L) w:=hm.perm (fx (l₁:=[b,c,d,e])).symm
end Go.Proofs.E
namespace Go.Proofs.E
open Go Go.RowKit
theorem qu {P:Program} {t:TypeId} {cs:List Value} {k:Nat} {x:Value} (w:World) (ha: ∀w,(isAgg t).run P w= .ok false w) (hx:cs[k]?=some x):(part t cs.toArray k).run P w= .ok x w:=by
 simp [part,ha,hx,Result.andThen]
theorem QY {P:Program} {d:Nat} {xs ys:Array Value} (w:World):(Op.eqFields (d+1) xs ys []).run P w= .ok true w:=by simp [Op.eqFields]
theorem G7 {P:Program} {d:Nat} {xs ys:Array Value} {f:Field} {fs:List Field} {vx vy:Value} {b r:Bool} (w:World) (h1:f.name≠ "_") (hx:(part f.type xs f.offset).run P w= .ok vx w) (hy:(part f.type ys f.offset).run P w= .ok vy w) (he:(Op.equalIn (d+1) f.type vx vy).run P w= .ok b w)
  (ih:(Op.eqFields (d+1) xs ys fs).run P w= .ok r w):(Op.eqFields (d+1) xs ys (f::fs)).run P w= .ok (b&&r) w:=by
 simp only [Op.eqFields,h1,Km,ix,qo,Sem.run_bind,hx,hy,Result.andThen_ok,he,Sem.run_ite];cases b with
 |false=>rfl
 |true=>rw [ah (by decide),ih];rfl
theorem T1 {P:Program} {d:Nat} {t:TypeId} {fs:Array Field} {xs ys:Array Value} {r:Bool} (w:World) (ht:P.underlying t=some (.struct fs)) (hp:P.stoodInHeld t=false) (h:(Op.eqFields (d+1) xs ys fs.toList).run P w= .ok r w):(Op.equalIn (d+2) t (.agg xs) (.agg ys)).run P w= .ok r w:=by
 have e:P.fieldsOf t=fs:=by unfold Program.fieldsOf;rw [ht]
 rw [run_equalIn_struct w (d+1) t _ _ (by rw [e];exact ht) hp,e];exact h
section
variable {c:Cx} {PQ:PJ} {w0:World} {L:List Item} {f:Fr} {ops rest:List Oper} {d:Nat} {ty:TypeId} {pos:String} {af:Array Edge} {g:Bool} {v:Value} {dr:Bool}
theorem iO.any {op:Op} (h:iO true c w0 L f op ty v):iO g c w0 L f op ty v:=fun _=>h rfl
end
theorem VB {c:Cx} {w0:World} {L:List Item} {f:Fr} {ty src dst:TypeId} {g:Bool} {x:Operand} {k q:IntKind} {m:Int} (hs:c.P.underlying src=some (.int k)) (hd:c.P.underlying dst=some (.int .i64)) (hx:gw g f x (.int q m)) (hm:g=true→ -9223372036854775808≤m∧m≤9223372036854775807):iO g c w0 L f (.convert src dst x) ty (.int .i64 m):=fun e _ _ _ _ w _=>by
 simp [execOp,hx e,convert,run_underlying hs,run_underlying hd,Conv.intToInt,IntWalk.i64_in _ (hm e),Result.andThen]
end Go.Proofs.E
