import Derived.Test.YtakhechhnnjbcaaGreatBC04
import Derived.Test.YtakhechhnnjbcaaGreatBC02
import Derived.Test.YtakhechhnnjbcaaGreatTc
set_option maxRecDepth 100000
set_option maxHeartbeats 8000000
set_option linter.unusedVariables false
set_option linter.unusedSimpArgs false
namespace Go.Proofs.E
open Go Go.RowKit
def Fw (w:World) (b o n:Nat) (vs:List Value):Prop:=vs.length=n∧ ∀j u,vs[j]?=some u→w.cell? ⟨b,o+j,none⟩=some u
theorem B6 {cs:List Value} {o n:Nat} (h:Nat.ble (o+n) cs.length=true):((cs.drop o).take n).length=n:=by
 have:=ep h;rw [cH,Dt];omega
theorem B7 {cs:List Value} {o n j:Nat} {u:Value} (h:((cs.drop o).take n)[j]?=some u):cs[o+j]?=some u:=by
 rw [List.getElem?_take] at h;split at h
 ·rw [kC] at h;exact h
 cases h
theorem ON {w:World} {a:Addr} {v:Value} (h:w.cell? a=some v):a.block<w.heap.size:=by
 unfold World.cell? at h;cases hb:w.heap[a.block]? with
 |none=>rw [hb] at h;simp at h
 |some o=>exact (cm.1 hb).1
section
variable {c:Cx} {w0:World} {L:List Item} {f:Fr} {ty t:TypeId} {g:Bool} {x:Operand} {b o n p:Nat}
theorem bp (k:Nat) {tb:TypeId} {cs:List Value} (hk:L[k]?=some (box b tb cs)) (hl:Nat.ble (o+n) cs.length=true):g=true→ ∀w,Mem w0 L w→Fw w b o n ((cs.drop o).take n):=
 fun _ _ hw=>⟨B6 hl,fun _ _ hu=>gy hw hk (B7 hu)⟩
theorem rp {cs:List Value} (h:mq w0 b o cs) (hb:b<w0.heap.size) (hl:Nat.ble (p+n) cs.length=true):g=true→ ∀w,Mem w0 L w→Fw w b (o+p) n ((cs.drop p).take n):=
 fun _ _ hw=>⟨B6 hl,fun j u hu=>by rw [ma];exact (hw.1.cell (p:=⟨b,o+(p+j),none⟩) hb).trans (h (p+j) u (B7 hu))⟩
theorem P3 {α:Type} {e:TypeId} {k i cp:Nat} {enc:α→List Value} {xs:List α} {y:α} (j:Nat) (hk:L[j]?=some (dR e k enc (some ⟨b,0,none⟩) cp xs)) (hx:xs[i]?=some y) (hl:Nat.ble (p+n) (enc y).length=true) (he: ∀x,(enc x).length=k:=by exact fun _=>rfl):g=true→ ∀w,Mem w0 L w→Fw w b (0+i*k+p) n (((enc y).drop p).take n):=
 fun hg w hw=>⟨B6 hl,fun q u hu=>by rw [ma];exact rr j hk hx (B7 hu) he hg w hw⟩
theorem eP {vs:List Value} (ht: ∀w,(isAgg t).run c.P w= .ok true w) (hs: ∀w,(sizeOf t).run c.P w= .ok n w) (hx:gw g f x (.pointer (some ⟨b,o,none⟩)))
  (hc:g=true→ ∀w,Mem w0 L w→Fw w b o n vs:=by first|exact bp 0 rfl rfl|exact bp 1 rfl rfl|exact bp 2 rfl rfl|exact bp 3 rfl rfl|exact bp 4 rfl rfl|exact bp 5 rfl rfl|exact bp 6 rfl rfl|exact bp 7 rfl rfl|exact bp 8 rfl rfl|exact bp 9 rfl rfl|exact bp 10 rfl rfl|exact bp 11 rfl rfl|exact rp ‹_› ‹_› rfl|exact P3 0 rfl ‹_› rfl|exact P3 1 rfl ‹_› rfl|exact P3 2 rfl ‹_› rfl|exact P3 3 rfl ‹_› rfl|exact P3 4 rfl ‹_› rfl|exact P3 5 rfl ‹_› rfl):iO g c w0 L f (.load t x) ty (.agg vs.toArray):=fun e dst pos af gu w hw=>by
 obtain ⟨hl,hc'⟩:=hc e w hw;exact km (g:=true) (L:=[]) (w0:=w) ht hs (fun _=>hx e) (fun _ w' hw' j u hu=>(hw'.1.cell (p:=⟨b,o+j,none⟩) (ON (hc' j u hu))).trans (hc' j u hu)) hl rfl dst pos af gu w (Mem.start w)
end
end Go.Proofs.E
namespace Go.Proofs.E
open Go Go.RowKit
theorem IC (f:Operand→Value) (dst:Option Nat) (op:Op) (ty:TypeId) (pos:String) (af:Array Edge) (g:Option (Nat×Bool)):execOp f ⟨dst,op,ty,pos,af,g⟩=execOp f ⟨dst,op,ty,pos,af,none⟩:=by
 cases op<;>rfl
section
variable {c:Cx} {PQ:PJ} {w0:World} {L Lb:List Item} {f:Fr} {ops rest:List Oper} {dst:Option Nat} {op:Op} {ty:TypeId} {pos:String} {af:Array Edge} {g:Option (Nat×Bool)} {b:Bool} {i fuel:Nat} {listed:List Nat}
theorem qk {x:Operand} {v:Value} {g':Bool} (h:ev f x=gv b v) (hb:b=true):gw g' f x v:=fun _=>by rw [h,hb,pE]
theorem xx (hg:Gd f g (ops.map (·.dst)) b) (hb:b=true) (h:uz c w0 L f ⟨dst,op,ty,pos,af,none⟩ fun L' f'=>XL false c ops rest PQ w0 L' f'):XL false c ops (⟨dst,op,ty,pos,af,g⟩::rest) PQ w0 L f:=by
 intro a w ha hw;show if _ then _ else _
 have hwt:Region.wanted (⟨dst,op,ty,pos,af,g⟩:Oper) (yielded ops.toArray a.tmps)=true:=by rw [o7 ha,←hb];exact hg
 rw [av hwt];refine ⟨fun _ _=>trivial,?_⟩;rw [Oper.semAt_eq _ _ (⟨dst,op,ty,pos,af,g⟩:Oper) (kR h.nd),ha.eval,IC];have h2:=h.run w hw;generalize (execOp (ev f) ⟨dst,op,ty,pos,af,none⟩).run c.P w=r at h2;cases r with
 |halt x w'=>exact False.elim h2
 |ok x w'=>
  cases x with
  |value v=>obtain ⟨L',hm,hk,hn⟩:=h2;exact hn _ _ (hk▸ha.s5 rfl h.dst v) hm
  |skip=>obtain ⟨L',hm,hk,hn⟩:=h2;exact hn _ _ (hk▸ha.s5 rfl h.dst undef) hm
  |enter k args=>
   obtain ⟨e,hc⟩:=h2;subst e;refine ⟨fun h=>by simp [FW] at h,(nm (hc.mono ?_))⟩;rintro e w'' ⟨v,L',rfl,hm,hk,hn⟩;exact hn _ _ (hk▸ha.s5 rfl h.dst v) hm
  |_=>exact False.elim h2
end
end Go.Proofs.E
namespace Go.Proofs.Far
open Go Go.RowKit Go.Proofs.E
def Tf.cells (t:Tf):List Value:=[.int .i64 t.from_, .int .i64 t.unlock, .int .i64 t.step, .int .i64 t.free, .int .i64 t.Aj, .int .i64 t.oZ]
abbrev Az (w:World) (A:Option Addr) (n:Nat) (ts:List Tf):Prop:=gJ w 6 Tf.cells A n ts
theorem Vu {fs:Array Field} (h:Tryz.prog.underlying 144=some (.struct fs):=by exact fh):dN Tryz.prog fs [(0,1),(1,1),(2,1),(3,1),(4,1),(5,1)]:=by
 rw [fh] at h;cases h;intro w;kernel_rfl
theorem DB (n lo hi:Int) (w:World):Calls Tryz.prog 181 #[.int .i64 n, .int .i64 lo, .int .i64 hi] w fun e w'=>e= .returned (.bool (yB n lo hi))∧gz w w':=by
 refine aS Tryz.func181 rfl Tryz.ntmps181 rfl ?_;iterate 19 refine G ?_
 exact bH (v:= .bool _) rfl rfl rfl fun w' hw=>⟨rfl,hw.1⟩
theorem KE (t:Tf) (w:World):Calls Tryz.prog 127 #[.agg t.cells.toArray] w fun e w'=>e= .returned (.bool (pM t))∧gz w w':=by
 refine aS Tryz.func127 rfl Tryz.ntmps127 rfl ?_;iterate 2 refine G ?_
 refine cd (v:= .agg _) rfl rfl fun b1=>?_;iterate 13 refine G ?_
 refine gV (wK (cap:=[]) (al:=[.int .i64 t.from_, .int .i64 0, .int .i64 4294943999]) wx (q0 rfl) (fun _=>rfl)) (fun _ w _=>DB t.from_ 0 4294943999 w) ?_;iterate 4 refine G ?_
 refine EB (wK (cap:=[]) (al:=[.int .i64 t.unlock, .int .i64 0, .int .i64 1000000]) wx (q1 rfl) (fun hg=>by rw [nj (q1 (v:= .int _ _) rfl) (q0 rfl) (q0 rfl) hg];rfl)) (fun _ w _=>DB t.unlock 0 1000000 w) rfl rfl rfl rfl ?_;iterate 5 refine G ?_
 refine EB (wK (cap:=[]) (al:=[.int .i64 t.Aj, .int .i64 0, .int .i64 1000000]) wx (q1 rfl) (fun hg=>by rw [nj (q1 (v:= .int _ _) rfl) (q0 rfl) (q0 rfl) hg];rfl)) (fun _ w _=>DB t.Aj 0 1000000 w) rfl rfl rfl rfl ?_;iterate 5 refine G ?_
 refine EB (wK (cap:=[]) (al:=[.int .i64 t.oZ, .int .i64 0, .int .i64 1000000]) wx (q1 rfl) (fun hg=>by rw [nj (q1 (v:= .int _ _) rfl) (q0 rfl) (q0 rfl) hg];rfl)) (fun _ w _=>DB t.oZ 0 1000000 w) rfl rfl rfl rfl ?_;iterate 5 refine G ?_
 refine EB (wK (cap:=[]) (al:=[.int .i64 t.step, .int .i64 1, .int .i64 86400]) wx (q1 rfl) (fun hg=>by rw [nj (q1 (v:= .int _ _) rfl) (q0 rfl) (q0 rfl) hg];rfl)) (fun _ w _=>DB t.step 1 86400 w) rfl rfl rfl rfl ?_;iterate 5 refine G ?_
 refine EB (wK (cap:=[]) (al:=[.int .i64 t.free, .int .i64 0, .int .i64 86400]) wx (q1 rfl) (fun hg=>by rw [nj (q1 (v:= .int _ _) rfl) (q0 rfl) (q0 rfl) hg];rfl)) (fun _ w _=>DB t.free 0 86400 w) rfl rfl rfl rfl ?_;iterate 5 refine G ?_
 exact bH (v:= .bool _) rfl rfl rfl fun w' hw=>⟨rfl,hw.1⟩
attribute [local irreducible] pM
theorem Bx (A:Option Addr) (n c:Nat) (ts:List Tf) (w:World) (hx:Az w A n ts):Calls Tryz.prog 71 #[.slice A n c] w fun e w'=>e= .returned (.int .i64 (lG ts))∧gz w w':=by
 have hl:=hx.1
 have hn:=hx.2.1
 refine aS Tryz.func71 rfl Tryz.ntmps71 rfl ?_
 refine cr ?_
 refine R0 ?_
 refine xV (gZ (v:= .int _ _) (q0 rfl)) rfl rfl ?_
 refine XN ?_
 refine az ?_
 refine cr ?_
 refine l0 ?_
 refine cr ?_
 refine R0 ?_
 refine xV (ez (v:= .slice _ _ _) (q0 rfl)) rfl rfl ?_
 refine xV (tl fJ (q0 rfl)) rfl rfl ?_
 refine xV (AL (q0 rfl) (q0 rfl)) rfl rfl ?_
 refine xV (gZ (v:= .bool _) (q0 rfl)) rfl rfl ?_
 refine XN ?_
 refine az ?_
 refine au rfl (fun h1=>?_) (fun h1=>?_)
 ·have h1':lG ts=10:=by unfold lG;rw [av (by simp at h1;omega)]
  refine cr ?_
  refine R0 ?_
  refine xV (gZ (v:= .int _ _) (q0 rfl)) rfl rfl ?_
  refine XN ?_
  refine az ?_
  refine jV ?_
  refine fD ?_
  refine dH ?_
  exact bH (v:= .int _ _) rfl rfl rfl fun w' hw=>⟨bP h1'.symm,hw.1⟩
 refine cr ?_
 refine R0 ?_
 refine xV (ez (v:= .slice _ _ _) (q0 rfl)) rfl rfl ?_
 refine xV (tl fJ (q0 rfl)) rfl rfl ?_
 refine xV (Dl (q0 rfl) (q0 rfl)) rfl rfl ?_
 refine xV (gZ (v:= .bool _) (q0 rfl)) rfl rfl ?_
 refine XN ?_
 refine az ?_
 refine au rfl (fun h2=>?_) (fun h2=>?_)
 ·have h2':lG ts=8:=by unfold lG;rw [ah (by simp at h1;omega),av (by simp at h2;omega)]
  refine cr ?_
  refine R0 ?_
  refine xV (gZ (v:= .int _ _) (q0 rfl)) rfl rfl ?_
  refine XN ?_
  refine az ?_
  refine jV ?_
  refine fD ?_
  refine dH ?_
  exact bH (v:= .int _ _) rfl rfl rfl fun w' hw=>⟨bP h2'.symm,hw.1⟩
 have h2':lG ts=la (sX ts 0) (ts.drop 0):=by unfold lG;rw [ah (by simp at h1;omega),ah (by simp at h2;omega)];rfl
 rw [h2']
 clear h2'
 refine iS ?_
 refine iV ?_
 refine az ?_
 refine cr ?_
 refine cr ?_
 refine R0 ?_
 refine xV (ez (v:= .slice _ _ _) (q0 rfl)) rfl rfl ?_
 refine xV (tl fJ (q0 rfl)) rfl rfl ?_
 refine xV (ez (v:= .int _ _) (q0 rfl)) rfl rfl ?_
 refine XN ?_
 refine az ?_
 refine l0 ?_
 refine ct [2,3,4,15,16,17,18,19,20,21,22,23,24,25,26,27,28,29,30,31,32,33,34,35,36,37,38,39,40,41,42,43,44,45] (fun k:Nat=>[(15, .int .i64 k)]) (fun _=>[]) (fun k=>k≤n∧la (sX ts 0) (ts.drop 0)=la (sX ts k) (ts.drop k)) (fun k=>n -k) 0 ⟨rfl,trivial⟩ (fun w hw=>hw) rfl ⟨aU _,rfl⟩ ?_
 rintro k g ⟨hk,hall⟩
 refine cr ?_
 refine R0 ?_
 refine xV (vd (q0 rfl) (q0 rfl)) rfl rfl ?_
 refine XN ?_
 refine az ?_
 refine cr ?_
 refine au rfl (fun hlt=>?_) (fun hlt=>?_)
 ·have hlt':k<n:=by simpa using hlt
  obtain ⟨b,off,t,rfl,hbl,ht,hrt⟩:=hx.at_ hlt'
  refine iS ?_
  refine az ?_
  refine cr ?_
  refine l0 ?_
  refine cr ?_
  refine R0 ?_
  refine xV (ez (v:= .int _ _) (q0 rfl)) rfl rfl ?_
  refine xV (bt _ fJ iD (q0 rfl) (q0 rfl) (fun _=>⟨rfl,by omega⟩)) rfl rfl ?_
  refine xV (eS SH iD (q0 rfl)) rfl rfl ?_
  refine cx oL rfl fun b4=>?_
  refine xV (gZ (v:= .int _ _) (q0 rfl)) rfl rfl ?_
  refine fI (v:= .agg _) rfl rfl iD ?_
  refine XN ?_
  refine az ?_
  refine cr ?_
  refine cr ?_
  refine R0 ?_
  refine xV (eS SH iD (q0 rfl)) rfl rfl ?_
  refine xC (en Tryz.call127 (il (q0 rfl))) (fun _ w _=>KE t w) rfl rfl ?_
  refine xV (rz (q0 rfl)) rfl rfl ?_
  refine XN ?_
  refine az ?_
  refine au rfl (fun hb=>?_) (fun hb=>?_)
  ·have hb':pM t=false:=by simpa using hb
   refine cr ?_
   refine R0 ?_
   refine xV (gZ (v:= .int _ _) (q0 rfl)) rfl rfl ?_
   refine XN ?_
   refine az ?_
   refine jV ?_
   refine dH ?_
   refine fD ?_
   refine dH ?_
   refine mA ?_
   refine fD ?_
   refine dH ?_
   exact bH (v:= .int _ _) rfl rfl rfl fun w' hw=>⟨bP (by rw [hall,HW ht hb']),hw.1⟩
  have hb':pM t=true:=by simpa using hb
  refine iS ?_
  refine az ?_
  refine cr ?_
  refine jK [23,24,25,26,27,28,29,30,31,32,33,34,35,36,37,38,39,40,41,42,43,44] (fun o:Bool=>[(44, .bool o)]) (fun _=>[box b4 144 t.cells]) (fun o=>o=Bw (sX ts k) t) ?_ ?_
  ·rcases du k with h00|h00
   ·subst h00
    refine R1 rfl (by decide+kernel) ?_
    refine xV (ez (v:= .int _ _) (q0 rfl)) rfl rfl ?_
    refine xV (AL (q0 rfl) (q0 rfl)) rfl rfl ?_
    refine xV (ez (v:= .bool _) (q0 rfl)) rfl rfl ?_
    refine rF (cR fh rfl ax rfl (q0 rfl)) rfl rfl rfl rfl ?_
    refine rF (eL aJ (q1 rfl)) rfl rfl rfl rfl ?_
    refine rF (Of (q1 rfl) (q0 rfl)) rfl rfl rfl rfl ?_
    refine xV (pT (q0 rfl) rfl (fun h=>by first|rfl|(rw [h];rfl))) rfl rfl ?_
    refine xV (ez (v:= .bool _) (q0 rfl)) rfl rfl ?_
    refine oQ (ez (v:= .int _ _) (q0 rfl)) rfl rfl rfl rfl ?_
    refine oQ (Dl (q1 rfl) (q0 rfl)) rfl rfl rfl rfl ?_
    refine oQ (ez (v:= .bool _) (q1 rfl)) rfl rfl rfl rfl ?_
    refine kr (jG (v:= .pointer none) (by simp)) rfl rfl rfl rfl ?_
    refine kr (jG (v:= .int .i64 0) (by simp)) rfl rfl rfl rfl ?_
    refine kr (jG (v:= .slice none 0 0) (by simp)) rfl rfl rfl rfl ?_
    refine kr (jG (v:= .int .i64 0) (by simp)) rfl rfl rfl rfl ?_
    refine kr (jG (v:= .int .i64 0) (by simp)) rfl rfl rfl rfl ?_
    refine kr (jG (v:= .pointer none) (by simp)) rfl rfl rfl rfl ?_
    refine kr (jG (v:= .pointer none) (by simp)) rfl rfl rfl rfl ?_
    refine kr (jG (v:= .int .i64 0) (by simp)) rfl rfl rfl rfl ?_
    refine kr (jG (v:= .bool false) (by simp)) rfl rfl rfl rfl ?_
    refine oQ (pT (q1 rfl) rfl (fun h=>by first|rfl|(rw [h];rfl))) rfl rfl rfl rfl ?_
    refine xV (u9 (q0 rfl) rfl (fun h=>by first|rfl|(rw [h];rfl))) rfl rfl ?_
    refine XN ?_
    exact aO _ (by repeat (first|exact jw|exact ku|refine j7 rfl ?_|refine jO rfl ?_|refine jJ rfl ?_)) ⟨rfl,trivial⟩ (fun w hw=>hw) rfl (by simp [sX,Bw])
   obtain ⟨j,rfl⟩: ∃j,k=j+1:=⟨k -1,by omega⟩
   have hjn:j<n:=by omega
   obtain ⟨q,hq,hrq⟩:=hx.row hjn
   refine R1 rfl (by decide+kernel) ?_
   refine xV (ez (v:= .int _ _) (q0 rfl)) rfl rfl ?_
   refine xV (AL (q0 rfl) (q0 rfl)) rfl rfl ?_
   refine xV (ez (v:= .bool _) (q0 rfl)) rfl rfl ?_
   refine rF (cR fh rfl ax rfl (q0 rfl)) rfl rfl rfl rfl ?_
   refine rF (eL aJ (q1 rfl)) rfl rfl rfl rfl ?_
   refine rF (Of (q1 rfl) (q0 rfl)) rfl rfl rfl rfl ?_
   refine xV (pT (q0 rfl) rfl (fun h=>by first|rfl|(rw [h];rfl))) rfl rfl ?_
   refine xV (ez (v:= .bool _) (q0 rfl)) rfl rfl ?_
   refine oQ (ez (v:= .int _ _) (q0 rfl)) rfl rfl rfl rfl ?_
   refine oQ (Dl (q1 rfl) (q0 rfl)) rfl rfl rfl rfl ?_
   refine oQ (ez (v:= .bool _) (q1 rfl)) rfl rfl rfl rfl ?_
   refine kr (cR fh rfl ax rfl (q0 rfl)) rfl rfl rfl rfl ?_
   refine kr (eL aJ (q1 rfl)) rfl rfl rfl rfl ?_
   refine kr (ez (v:= .slice _ _ _) (q0 rfl)) rfl rfl rfl rfl ?_
   refine kr (ez (v:= .int _ _) (q0 rfl)) rfl rfl rfl rfl ?_
   refine kr (ou (r:=((j:Nat):Int)) (q1 rfl) (q0 rfl) (fun _=>⟨by omega,by omega,by omega⟩)) rfl rfl rfl rfl ?_
   refine kr (bt j fJ iD (q1 rfl) (q1 rfl) (fun _=>⟨rfl,hjn⟩)) rfl rfl rfl rfl ?_
   refine kr (cR fh rfl ax rfl (q1 rfl)) rfl rfl rfl rfl ?_
   refine kr (ea (v:= .int .i64 q.from_) aJ (q1 rfl) (by first|exact rc (j:=0) hrq ‹_› rfl|exact BR hrq ‹_› rfl)) rfl rfl rfl rfl ?_
   refine kr (Oh (q1 rfl) (q1 rfl)) rfl rfl rfl rfl ?_
   refine oQ (pT (q1 rfl) rfl (fun h=>by first|rfl|(rw [h];rfl))) rfl rfl rfl rfl ?_
   refine xV (u9 (q0 rfl) rfl (fun h=>by first|rfl|(rw [h];rfl))) rfl rfl ?_
   refine XN ?_
   exact aO _ (by repeat (first|exact jw|exact ku|refine j7 rfl ?_|refine jO rfl ?_|refine jJ rfl ?_)) ⟨rfl,trivial⟩ (fun w hw=>hw) rfl (by
    simp only [sX,hq,Bw]
    have h3:decide (((j+1:Nat):Int)=0)=false:=decide_eq_false (by omega)
    have h4:decide ((0:Int)<((j+1:Nat):Int))=true:=Wj (by omega)
    rw [h3,h4];simp)
  rintro o g2 ho
  subst ho
  refine az ?_
  refine au rfl (fun ho=>?_) (fun ho=>?_)
  ·refine cr ?_
   refine R0 ?_
   refine xV (gZ (v:= .int _ _) (q0 rfl)) rfl rfl ?_
   refine XN ?_
   refine az ?_
   refine jV ?_
   refine fD ?_
   refine dH ?_
   refine mA ?_
   refine fD ?_
   refine dH ?_
   exact bH (v:= .int _ _) rfl rfl rfl fun w' hw=>⟨bP (by rw [hall,HV ht hb' ho]),hw.1⟩
  have hst:=FZ ht hb' ho
  refine iS ?_
  refine iV ?_
  refine az ?_
  refine R0 ?_
  refine xV (rB (q0 rfl) (q0 rfl) (fun _=>⟨rfl,by omega,by omega⟩)) rfl rfl ?_
  refine xV (ez (v:= .int _ _) (q0 rfl)) rfl rfl ?_
  refine XN ?_
  exact ay (k+1) (by repeat (first|exact jw|exact ku|refine j7 rfl ?_|refine jO rfl ?_|refine jJ rfl ?_)) ⟨rfl,trivial⟩ (fun w hw=>hw.tail) rfl ⟨by omega,by rw [hall,hst]⟩ (by show n -(k+1)<n -k;omega)
 have hend:k=n:=by simp at hlt;omega
 have hall2:la (sX ts 0) (ts.drop 0)=0:=by
  rw [hall,iP (by omega)]
  unfold la;rfl
 refine xD ?_
 refine mZ ?_
 refine ng ?_
 refine nn ?_
 refine az ?_
 refine cr ?_
 refine R0 ?_
 refine xV (gZ (v:= .int _ _) (q0 rfl)) rfl rfl ?_
 refine XN ?_
 refine az ?_
 refine jV ?_
 exact bH (v:= .int _ _) rfl rfl rfl fun w' hw=>⟨bP hall2.symm,hw.1⟩
end Go.Proofs.Far
namespace Go.Proofs.Far
open Go Go.RowKit Go.Proofs.E
theorem Wq {k:FuncId} {args:Array Value} {w:World} {r:Value} (h:Calls Tryz.prog k args w fun e w'=>e= .returned r∧gz w w'):Calls Tryz.prog k args w fun e w'=> ∃_:Unit,e= .returned r∧Mem w [] w':=
 h.mono fun _ _ h=>⟨(),h.1,iT.2 h.2⟩
theorem drop_at {α:Type} {l:List α} {k:Nat} {x:α} (h:l[k]?=some x):l.drop k=x::l.drop (k+1):=by
 obtain ⟨h1,h2⟩:=aa.1 h;rw [cL h1,h2]
theorem OW (t:Int) (a k:Nat) (x:Tf) (l:List Tf):Pp t a k (x::l)=Pp t (if x.from_≤t then k else a) (k+1) l:=rfl
def atR (l:List Tf) (t:Int):Int×Int:=if lG l≠0 then (0,lG l) else if t<0∨4294943999<t then (0,1) else ((Em l t:Nat),0)
theorem UX (A:Option Addr) (n c:Nat) (ts:List Tf) (t:Int) (w:World) (hx:Az w A n ts):Calls Tryz.prog 165 #[.slice A n c, .int .i64 t] w fun e w'=>e= .returned (.tuple #[.int .i64 (atR ts t).1, .int .i64 (atR ts t).2])∧gz w w':=by
 have hl:=hx.1;have hn:=hx.2.1;refine aS Tryz.func165 rfl Tryz.ntmps165 rfl ?_;iterate 10 refine G ?_
 refine gV (en Wa (il (q0 rfl))) (fun _ w hw=>Bx A n c ts w (hx.mem hw)) ?_;iterate 9 refine G ?_
 refine au rfl ?_ ?_<;>intro h1
 ·have h1':lG ts≠0:=by simpa using h1
  have hr:atR ts t=(0,lG ts):=by unfold atR;rw [av h1']
  rw [hr];iterate 9 refine G ?_
  exact fV (v:= .int _ _) (x:= .int _ _) rfl rfl rfl rfl fun w' hw=>⟨rfl,hw.1⟩
 have h1':lG ts=0:=by simpa using h1
 iterate 13 refine G ?_
 refine au rfl ?_ ?_<;>intro h2
 ·have hr:atR ts t=(0,1):=by unfold atR;rw [ah (by simp [h1']),av (by simp at h2;omega)]
  rw [hr];iterate 8 refine G ?_
  exact fV (v:= .int _ _) (x:= .int _ _) rfl rfl rfl rfl fun w' hw=>⟨rfl,hw.1⟩
 have hr:atR ts t=(((Pp t 0 0 (ts.drop 0):Nat):Int),0):=by unfold atR;rw [ah (by simp [h1']),ah (by simp at h2;omega)];rfl
 rw [hr];iterate 16 refine G ?_
 refine ct [7,8,9,23,24,25,26,27,28,29,30,31,32,33] (fun q:Nat×Nat=>[(23, .int .i64 q.1),(7, .int .i64 q.2)]) (fun _=>[]) (fun q=>q.1≤n∧Pp t 0 0 (ts.drop 0)=Pp t q.2 q.1 (ts.drop q.1)) (fun q=>n -q.1) (0,0) ⟨rfl,rfl,trivial⟩ (fun w hw=>hw) rfl ⟨aU _,rfl⟩ ?_;rintro ⟨k,a⟩ g ⟨hk,hall⟩;simp only at hk hall;iterate 6 refine G ?_
 refine au rfl ?_ ?_<;>intro hlt
 ·have hlt':k<n:=by simpa using hlt
  obtain ⟨b,off,x,rfl,hbl,hxk,hrx⟩:=hx.at_ hlt';rw [drop_at hxk,OW] at hall;iterate 7 refine G ?_
  refine bO (bt _ fJ iD (q0 rfl) (q0 rfl) (fun _=>⟨rfl,by omega⟩)) ?_;refine G ?_;refine cx oL rfl fun b9=>?_;refine G ?_;refine fI (v:= .agg _) rfl rfl iD ?_;iterate 10 refine G ?_
  refine au rfl ?_ ?_<;>intro hb
  ·have hb':x.from_≤t:=by simpa using hb
   rw [av hb'] at hall;iterate 10 refine G ?_
   exact ay (k+1,k) eE ⟨rfl,rfl,trivial⟩ (fun w hw=>hw.tail) rfl ⟨by show k+1≤n;omega,hall⟩ (by show n -(k+1)<n -k;omega)
  have hb': ¬x.from_≤t:=by simpa using hb
  rw [ah hb'] at hall;iterate 7 refine G ?_
  exact ay (k+1,a) eE ⟨rfl,rfl,trivial⟩ (fun w hw=>hw.tail) rfl ⟨by show k+1≤n;omega,hall⟩ (by show n -(k+1)<n -k;omega)
 have hend:k=n:=by simp at hlt;omega
 have hfin:Pp t 0 0 (ts.drop 0)=a:=by rw [hall,hend,iP (by omega)];rfl
 rw [hfin];iterate 13 refine G ?_
 exact fV (v:= .int _ _) (x:= .int _ _) rfl rfl rfl rfl fun w' hw=>⟨rfl,hw.1⟩
def Tf.zero (t:Tf):Tf:={t with from_:=0}
theorem EA {t:Tf} (h:pM t=true):pM t.zero=true:=by
 rw [pL] at h⊢;unfold Tf.zero;simp only;omega
theorem LU {t:Tf} (h:pM t=true):lG [t.zero]=0:=by
 unfold lG;simp only [bB,eU];rw [ah (by decide),ah (by decide)];unfold la;rw [ah (by rw [EA h];decide),ah (by simp [Bw,Tf.zero])];rfl
attribute [local irreducible] lG pM
theorem Rp (t:Tf) (ht:pM t=true) (w:World):Calls Tryz.prog 291 #[.agg t.cells.toArray] w fun e w'=>e= .returned (.tuple #[.agg t.zero.cells.toArray, .int .i64 0])∧gz w w':=by
 have he:=LU ht;obtain ⟨a,b,c,d,e,f⟩:=t;refine aS Tryz.func291 rfl Tryz.ntmps291 rfl ?_;iterate 2 refine G ?_
 refine cd (v:= .agg _) rfl rfl fun b1=>?_;refine cx Tryz.zeroValue223 rfl fun b2=>?_;iterate 6 refine G ?_
 refine fI (v:= .int _ _) rfl rfl ax ?_;iterate 3 refine G ?_
 refine fY (L':=[box b2 223 [.int .i64 0, .int .i64 0, .int .i64 0, .int .i64 0, .int .i64 0, .int .i64 0],box b1 144 (Tf.cells ⟨0,b,c,d,e,f⟩)]) (fun w hw=>hw) rfl ?_;have hch:=fun (bb:Nat) (w:World) (h:Az w (some ⟨bb,0,none⟩) 1 [⟨0,b,c,d,e,f⟩])=>by
  have h2:=Bx (some ⟨bb,0,none⟩) 1 1 [⟨0,b,c,d,e,f⟩] w h;rw [show lG [⟨0,b,c,d,e,f⟩]=0 from he] at h2;exact h2
 refine zd 1 ?_;refine aW 0 ?_;refine aW 1 ?_;refine r1 2 1 ?_;refine aL rfl (dE [(.int .i64 0),(.int .i64 0),(.int .i64 0),(.int .i64 0),(.int .i64 0),(.int .i64 0)] fJ iD oL rfl (by kernel_rfl) (pt (v:= .agg _) rfl E.p0) rfl rfl fun b7=>?_);refine r1 3 2 ?_;refine aL rfl (di (en Wa (il (q0 rfl))) (fun w hw=>Wq (hch b7 w (bg (enc:=Tf.cells) (xs:=[⟨0,b,c,d,e,f⟩]) hw (j:=0) rfl (fun _=>rfl) (by simp)))) rfl (fun _=>rfl) fun u3=>?_);refine r1 4 2 ?_;refine aL rfl (kU (v:= .agg _) rfl rfl Pq ?_);refine aW 5 ?_;refine jz 2 ?_;iterate 2 refine G ?_
 exact mh rfl (RP 1 rfl rfl rfl Tryz.isAgg223 Pq rfl rfl) fun w' hw=>⟨rfl,hw.1⟩
theorem I' (t:Tf) (fS:Int) (w:World) (ht:1≤t.step∧t.step≤86400) (hs: -1000000≤fS∧fS≤4294944000):Calls Tryz.prog 292 #[.agg t.cells.toArray, .int .i64 fS] w fun e w'=>e= .returned (.int .i64 (o9 t fS))∧gz w w':=by
 refine aS Tryz.func292 rfl Tryz.ntmps292 rfl ?_;have hmx:(if fS<0 then 0 else fS)=max fS 0:=by split<;>omega
 iterate 2 refine G ?_
 refine cd (v:= .agg _) rfl rfl fun b2=>?_;iterate 6 refine G ?_
 refine bO (Sk (q0 rfl) (q0 rfl)) ?_;iterate 6 refine G ?_
 refine bO (CL (q0 rfl) (q0 rfl) (fun _=>⟨by omega,by omega,by omega⟩)) ?_;iterate 4 refine G ?_
 exact bH (v:= .int _ _) rfl rfl rfl fun w' hw=>⟨by unfold o9;rw [←hmx],hw.1⟩
theorem BL (t:Tf) (fS:Int) (w:World) (ht:pM t=true) (hs:0≤fS∧fS≤4294944000):Calls Tryz.prog 231 #[.agg t.cells.toArray, .int .i64 fS] w fun e w'=>e= .returned (.int .i64 (nS t fS))∧gz w w':=by
 obtain ⟨-,-,hp,-,hst,hfr⟩:=pL.1 ht;have hsl:=By hst (s:=fS -t.free) (by omega);have hm:0≤nS t fS∧nS t fS≤4294944000000000:=by
  unfold nS;constructor
  ·exact I5 hp.1 hsl.1
  have h1:t.Aj*o9 t (fS -t.free)≤1000000*o9 t (fS -t.free):=RH hp.2 hsl.1;omega
 refine aS Tryz.func231 rfl Tryz.ntmps231 rfl ?_;iterate 2 refine G ?_
 refine cd (v:= .agg _) rfl rfl fun b2=>?_;iterate 4 refine G ?_
 refine tB ?_;iterate 7 refine G ?_
 refine gV (en Tryz.call292 (gr (q0 rfl) (q0 rfl))) (fun _ w _=>I' t (fS -t.free) w hst (by omega)) ?_;refine bO (Si (r:=nS t fS) (q0 rfl) (q0 rfl) (fun _=>⟨rfl,by omega,by omega⟩)) ?_;iterate 4 refine G ?_
 exact bH (v:= .int _ _) rfl rfl rfl fun w' hw=>⟨rfl,hw.1⟩
theorem K0 (t:Tf) (fS:Int) (w:World) (ht:pM t=true) (hs:0≤fS∧fS≤4294944000):Calls Tryz.prog 232 #[.agg t.cells.toArray, .int .i64 fS] w fun e w'=>e= .returned (.int .i64 (qd t fS))∧gz w w':=by
 obtain ⟨-,-,-,hp,hst,hfr⟩:=pL.1 ht;have hsl:=By hst (s:=fS) (by omega);have hm:0≤qd t fS∧qd t fS≤4294944000000000:=by
  unfold qd;constructor
  ·exact I5 hp.1 hsl.1
  have h1:t.oZ*o9 t fS≤1000000*o9 t fS:=RH hp.2 hsl.1;omega
 refine aS Tryz.func232 rfl Tryz.ntmps232 rfl ?_;iterate 2 refine G ?_
 refine cd (v:= .agg _) rfl rfl fun b2=>?_;iterate 4 refine G ?_
 refine tB ?_;iterate 4 refine G ?_
 refine gV (en Tryz.call292 (gr (q0 rfl) (q0 rfl))) (fun _ w _=>I' t fS w hst (by omega)) ?_;refine bO (Si (r:=qd t fS) (q0 rfl) (q0 rfl) (fun _=>⟨rfl,by omega,by omega⟩)) ?_;iterate 4 refine G ?_
 exact bH (v:= .int _ _) rfl rfl rfl fun w' hw=>⟨rfl,hw.1⟩
theorem Jl (k:FuncId) (hen: ∀args w,(callFunc k args).run Tryz.prog w= .ok (.enter k args) w) (t:Tf) (ht:pM t=true) (fS v:Int) (hs:0≤fS∧fS≤4294944000) (hc: ∀w,Calls Tryz.prog k #[.agg t.zero.cells.toArray, .int .i64 fS] w fun e w'=>e= .returned (.int .i64 v)∧gz w w') (w:World):
  Calls Tryz.prog 230 #[.func (.func k) #[] #[], .agg t.cells.toArray, .int .i64 fS] w fun e w'=>e= .returned (.tuple #[.int .i64 (mN v).1, .int .i64 (mN v).2])∧gz w w':=by
 refine aS Tryz.func230 rfl Tryz.ntmps230 rfl ?_;iterate 2 refine G ?_
 refine cd (v:= .agg _) rfl rfl fun b4=>?_;iterate 7 refine G ?_
 refine gV (en Tryz.call291 (il (q0 rfl))) (fun _ w _=>Rp t ht w) ?_;iterate 3 refine G ?_
 refine cx Tryz.zeroValue223 rfl fun b8=>?_;refine fI (v:= .agg _) rfl rfl Pq ?_;iterate 10 refine G ?_
 refine au rfl ?_ ?_<;>intro h1
 ·exact absurd h1 (by decide)
 iterate 13 refine G ?_
 refine au rfl ?_ ?_<;>intro h2
 ·exfalso;simp at h2;omega
 iterate 7 refine G ?_
 refine gV (wK (cap:=[]) (al:=[.agg t.zero.cells.toArray, .int .i64 fS]) hen (q0 rfl) (fun hg=>by rw [gr (q0 (v:= .agg _) rfl) (q0 (v:= .int _ _) rfl) hg];rfl)) (fun _ w _=>hc w) ?_;iterate 10 refine G ?_
 refine au rfl ?_ ?_<;>intro h3
 ·have h3':mN v=(0,2):=by unfold mN;rw [av (by simpa using h3)]
  rw [h3'];iterate 8 refine G ?_
  exact fV (v:= .int _ _) (x:= .int _ _) rfl rfl rfl rfl fun w' hw=>⟨rfl,hw.1⟩
 have h3':mN v=(v,0):=by unfold mN;rw [ah (by simpa using h3)]
 rw [h3'];iterate 10 refine G ?_
 exact fV (v:= .int _ _) (x:= .int _ _) rfl rfl rfl rfl fun w' hw=>⟨rfl,hw.1⟩
theorem My (t:Tf) (ht:pM t=true) (fS:Int) (hs:0≤fS∧fS≤4294944000) (w:World):Calls Tryz.prog 167 #[.agg t.cells.toArray, .int .i64 fS] w fun e w'=>e= .returned (.tuple #[.int .i64 (mN (nS t fS)).1, .int .i64 (mN (nS t fS)).2])∧gz w w':=by
 refine aS Tryz.func167 rfl Tryz.ntmps167 rfl ?_;iterate 2 refine G ?_
 refine cd (v:= .agg _) rfl rfl fun b2=>?_;iterate 8 refine G ?_
 refine gV (en Tryz.call230 (nj (q0 rfl) (q0 rfl) (q0 rfl))) (fun _ w _=>Jl 231 Tryz.call231 t ht fS (nS t fS) hs (fun w=>BL t.zero fS w (EA ht) hs) w) ?_;iterate 7 refine G ?_
 exact fV (v:= .int _ _) (x:= .int _ _) rfl rfl rfl rfl fun w' hw=>⟨rfl,hw.1⟩
theorem M8 (t:Tf) (ht:pM t=true) (fS:Int) (hs:0≤fS∧fS≤4294944000) (w:World):Calls Tryz.prog 168 #[.agg t.cells.toArray, .int .i64 fS] w fun e w'=>e= .returned (.tuple #[.int .i64 (mN (qd t fS)).1, .int .i64 (mN (qd t fS)).2])∧gz w w':=by
 refine aS Tryz.func168 rfl Tryz.ntmps168 rfl ?_;iterate 2 refine G ?_
 refine cd (v:= .agg _) rfl rfl fun b2=>?_;iterate 8 refine G ?_
 refine gV (en Tryz.call230 (nj (q0 rfl) (q0 rfl) (q0 rfl))) (fun _ w _=>Jl 232 Tryz.call232 t ht fS (qd t fS) hs (fun w=>K0 t.zero fS w (EA ht) hs) w) ?_;iterate 7 refine G ?_
 exact fV (v:= .int _ _) (x:= .int _ _) rfl rfl rfl rfl fun w' hw=>⟨rfl,hw.1⟩
end Go.Proofs.Far
namespace Go.Proofs.Far
open Go Go.RowKit Go.Proofs.E
def mn (l:List Int) (i:Int):Bool:=l.any fun y=>y==i
def qn (l:List Int):List (Int×Value):=l.map fun i=>(i, .bool true)
theorem xd (l:List Int) (r:Int):(ju (qn l) r).getD (.bool false)= .bool (mn l r):=by
 induction l with
 |nil=>rfl
 |cons v l ih=>
  by_cases h:v=r
  ·simp [ju,qn,mn,h]
  have hb:(v==r)=false:=dt.2 h;simp only [ju,qn,mn,cI,lE,Df,hb,Dg] at ih⊢;exact ih
theorem w9 (l:List Int) (v:Int) (h:mn l v=false):ml (qn l) v (.bool true)=qn (l++[v]):=by
 induction l with
 |nil=>rfl
 |cons x l ih=>
  simp only [mn,Df,kN] at h;simp only [qn,cI,gx,ml,h.1,jy,lM];rw [←qn,ih h.2];rfl
theorem od {α:Type} (l:List α) (k:Nat) (v:α) (h:l[k]?=some v):l.take (k+1)=l.take k++[v]:=by
 rw [iy,h];rfl
theorem Dz {l:List Int} {k:Nat} {x:Int} (hx:l[k]?=some x) (h:mn (l.take k) x=true):jj (l.take k) (l.drop k)=true:=by
 rw [drop_at hx];unfold jj;unfold mn at h;rw [h];rfl
theorem Br {l:List Int} {k:Nat} {x:Int} (hx:l[k]?=some x) (h:mn (l.take k) x=false):jj (l.take k) (l.drop k)=jj (l.take (k+1)) (l.drop (k+1)):=by
 rw [drop_at hx,od _ _ _ hx]
 conv=>lhs;unfold jj
 unfold mn at h;rw [h,Dg]
def o0.cells (p:o0):List Value:=[.int .i64 p.id, .int .i64 p.rider, .int .i64 p.from_, .int .i64 p.mK, .int .i64 p.pj, .int .i64 p.fS]
abbrev sr (w:World) (A:Option Addr) (n:Nat) (ps:List o0):Prop:=gJ w 6 o0.cells A n ps
theorem D8 {fs:Array Field} (h:Tryz.prog.underlying 153=some (.struct fs):=by exact ir):dN Tryz.prog fs [(0,1),(1,1)]:=by
 rw [ir] at h;cases h;intro w;kernel_rfl
theorem Jm (n lo hi:Int) (w:World):Calls Tryz.prog 128 #[.int .i64 n, .int .i64 lo, .int .i64 hi] w fun e w'=>e= .returned (.bool (yB n lo hi))∧gz w w':=by
 refine aS Tryz.func128 rfl Tryz.ntmps128 rfl ?_;iterate 19 refine G ?_
 exact bH (v:= .bool _) rfl rfl rfl fun w' hw=>⟨rfl,hw.1⟩
theorem Jq {l:List o0} {k:Nat} {p:o0} (hl:l.length≤64) (h:l[k]?=some p) (hb:qe p=true):lg l=1:=by
 unfold lg;rw [ah (by omega),av];exact cY.2 ⟨p,an h,hb⟩
theorem O1 {l:List o0} {k:Nat} {p:o0} (h:l[k]?=some p) (h0:(l.take k).any qe=false) (hb:qe p=false):(l.take (k+1)).any qe=false:=by
 rw [od _ _ _ h,pI,h0];simp [hb]
theorem Gp (A:Option Addr) (n c:Nat) (ps:List o0) (w:World) (hx:sr w A n ps):Calls Tryz.prog 72 #[.slice A n c] w fun e w'=>e= .returned (.int .i64 (lg ps))∧gz w w':=by
 have hl:=hx.1;have hn:=hx.2.1;refine aS Tryz.func72 rfl Tryz.ntmps72 rfl ?_;iterate 13 refine G ?_
 refine au rfl ?_ ?_<;>intro h1
 ·have h1':lg ps=8:=by unfold lg;rw [av (by simp at h1;omega)]
  iterate 7 refine G ?_
  exact bH (v:= .int _ _) rfl rfl rfl fun w' hw=>⟨bP h1'.symm,hw.1⟩
 have h64:ps.length≤64:=by simp at h1;omega
 iterate 11 refine G ?_
 refine ct [2,4,13,14,15,16,17,18,19,20,21,22,23,24,25,26,27,28,29,30,31,32,33,34,35,36,37,38,39,40,41,42,43,44,45,46,47,48,49,50,51,52,53,54,55,56,57,58] (fun k:Nat=>[(13, .int .i64 k)]) (fun _=>[]) (fun k=>k≤n∧(ps.take k).any qe=false) (fun k=>n -k) 0 ⟨rfl,trivial⟩ (fun w hw=>hw) rfl ⟨aU _,rfl⟩ ?_;rintro k g ⟨hk,hall⟩;iterate 6 refine G ?_
 refine au rfl ?_ ?_<;>intro hlt
 ·have hlt':k<n:=by simpa using hlt
  obtain ⟨b,off,p,rfl,hbl,hp,hrp⟩:=hx.at_ hlt';iterate 6 refine G ?_
  refine bO (bt _ gU jL (q0 rfl) (q0 rfl) (fun _=>⟨rfl,by omega⟩)) ?_;refine G ?_;refine cx Tryz.zeroValue155 rfl fun b4=>?_;refine fI (v:= .agg _) rfl rfl jL ?_;iterate 7 refine G ?_
  refine gV (en I4 (nj (q0 rfl) (q0 rfl) (q0 rfl))) (fun _ w _=>Jm p.id 1 1000000 w) ?_;iterate 4 refine G ?_
  refine I7 (en I4 (nj (q1 (v:= .int _ _) rfl) (q0 rfl) (q0 rfl))) (fun _ w _=>Jm p.rider 0 127 w) rfl rfl rfl rfl ?_;iterate 5 refine G ?_
  refine I7 (en I4 (nj (q1 (v:= .int _ _) rfl) (q0 rfl) (q0 rfl))) (fun _ w _=>Jm p.pj 1 256 w) rfl rfl rfl rfl ?_;iterate 5 refine G ?_
  refine I7 (en I4 (nj (q1 (v:= .int _ _) rfl) (q0 rfl) (q0 rfl))) (fun _ w _=>Jm p.fS 0 86400 w) rfl rfl rfl rfl ?_;iterate 4 refine G ?_
  refine au rfl ?_ ?_<;>intro hb
  ·have hb':AX p=true:=hb;iterate 12 refine G ?_
   exact bH (v:= .int _ _) rfl rfl rfl fun w' hw=>⟨bP (Jq h64 hp (by unfold qe;rw [hb'];rfl)).symm,hw.1⟩
  have hb':AX p=false:=hb;iterate 25 refine G ?_
  refine au rfl ?_ ?_<;>intro hb2
  ·have hb2':EV p=true:=hb2;iterate 11 refine G ?_
   exact bH (v:= .int _ _) rfl rfl rfl fun w' hw=>⟨bP (Jq h64 hp (by unfold qe;rw [hb2',Bool.or_true])).symm,hw.1⟩
  have hb2':EV p=false:=hb2;iterate 7 refine G ?_
  exact ay (k+1) eE ⟨rfl,trivial⟩ (fun w hw=>hw.tail) rfl ⟨by omega,O1 hp hall (by unfold qe;rw [hb',hb2'];rfl)⟩ (by show n -(k+1)<n -k;omega)
 have hend:k=n:=by simp at hlt;omega
 rw [hend,bN (by omega)] at hall;obtain ⟨ids,hids⟩: ∃ids:List Int,ids=ps.map (·.id):=⟨_,rfl⟩;have hidl:ids.length=n:=by rw [hids,aD,hl]
 have herr:lg ps=if jj (ids.take 0) (ids.drop 0)=true then 6 else 0:=by
  unfold lg;rw [ah (by omega),hall,ah (by decide),←hids];rfl
 rw [herr];iterate 7 refine G ?_
 refine qK rfl fun bm=>?_;refine bO (gZ (v:= .map _) (q0 rfl)) ?_;iterate 11 refine G ?_
 refine ct [2,7,62,63,64,65,66,67,68,69,70,71,72,73] (fun k:Nat=>[(62, .int .i64 k)]) (fun k=>[kS bm (qn (ids.take k))]) (fun k=>k≤n∧jj (ids.take 0) (ids.drop 0)=jj (ids.take k) (ids.drop k)) (fun k=>n -k) 0 ⟨rfl,trivial⟩ (fun _ h=>h) rfl ⟨aU _,rfl⟩ ?_;rintro k g ⟨hk,hp⟩;iterate 6 refine G ?_
 refine au rfl ?_ ?_<;>intro hlt2
 ·have hlt2':k<n:=by simpa using hlt2
  obtain ⟨b,off,p,rfl,hbl,hpk,hrp⟩:=hx.at_ hlt2';have hik:ids[k]?=some p.id:=by rw [hids];simp [hpk]
  iterate 6 refine G ?_
  refine bO (bt _ gU jL (q0 rfl) (q0 rfl) (fun _=>⟨rfl,by omega⟩)) ?_;refine G ?_;refine cx Tryz.zeroValue155 rfl fun b7=>?_;refine fI (v:= .agg _) rfl rfl jL ?_;iterate 5 refine G ?_
  refine bO (ez (v:= .map _) (q0 rfl)) ?_;iterate 2 refine G ?_
  refine bO (Fi 1 iq aG gK (q0 rfl) (q0 rfl) rfl (fun _=>xd _ _)) ?_;iterate 2 refine G ?_
  refine au rfl ?_ ?_<;>intro h3
  ·iterate 12 refine G ?_
   exact bH (v:= .int _ _) rfl rfl rfl fun w' hw=>⟨bP (by rw [hp,Dz hik h3];rfl),hw.1⟩
  have hst:=Br hik h3;iterate 3 refine G ?_
  refine bO (ez (v:= .map _) (q0 rfl)) ?_;iterate 2 refine G ?_
  refine tv 1 iq aG rfl rfl rfl rfl ?_;iterate 7 refine G ?_
  refine ay (k+1) eE ⟨rfl,trivial⟩ (fun w hw=>?_) rfl ⟨by omega,by rw [hp,hst]⟩ (by show n -(k+1)<n -k;omega);have:=hw.tail;rw [od _ _ _ hik,←w9 _ _ h3];exact this
 have hend2:k=n:=by simp at hlt2;omega
 have hfin:jj (ids.take 0) (ids.drop 0)=false:=by rw [hp,iP (by omega)];rfl
 rw [hfin];iterate 11 refine G ?_
 exact bH (v:= .int _ _) rfl rfl rfl fun w' hw=>⟨rfl,hw.1⟩
attribute [local irreducible] qe
end Go.Proofs.Far
