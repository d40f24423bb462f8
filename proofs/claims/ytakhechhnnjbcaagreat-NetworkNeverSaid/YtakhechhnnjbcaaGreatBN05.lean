import Derived.Test.YtakhechhnnjbcaaGreatBN04
import Derived.Test.YtakhechhnnjbcaaGreatBN02
import Derived.Test.YtakhechhnnjbcaaGreatTy
set_option maxRecDepth 100000
set_option maxHeartbeats 8000000
set_option linter.unusedVariables false
set_option linter.unusedSimpArgs false
namespace Go.Proofs.E
open Go Go.RowKit
def PartAt (w:World) (b o n:Nat) (vs:List Value):Prop:=vs.length=n∧ ∀j u,vs[j]?=some u→w.cell? ⟨b,o+j,none⟩=some u
theorem part_len {cs:List Value} {o n:Nat} (h:Nat.ble (o+n) cs.length=true):((cs.drop o).take n).length=n:=by
 have:=Nat.le_of_ble_eq_true h
 rw [List.length_take,List.length_drop];omega
theorem part_get {cs:List Value} {o n j:Nat} {u:Value} (h:((cs.drop o).take n)[j]?=some u):cs[o+j]?=some u:=by
 rw [List.getElem?_take] at h
 split at h
 ·rw [List.getElem?_drop] at h;exact h
 ·cases h
theorem cell_blk {w:World} {a:Addr} {v:Value} (h:w.cell? a=some v):a.block<w.heap.size:=by
 unfold World.cell? at h
 cases hb:w.heap[a.block]? with
 |none=>rw [hb] at h;simp at h
 |some o=>exact (Array.getElem?_eq_some_iff.1 hb).1
section
variable {c:Cx} {w0:World} {L:List Item} {f:Fr} {ty t:TypeId} {g:Bool} {x:Operand} {b o n p:Nat}
theorem bp (k:Nat) {tb:TypeId} {cs:List Value} (hk:L[k]?=some (box b tb cs)) (hl:Nat.ble (o+n) cs.length=true):g=true→ ∀w,Mem w0 L w→PartAt w b o n ((cs.drop o).take n):=
 fun _ _ hw=>⟨part_len hl,fun _ _ hu=>box_cell hw hk (part_get hu)⟩
theorem rp {cs:List Value} (h:RowAt w0 b o cs) (hb:b<w0.heap.size) (hl:Nat.ble (p+n) cs.length=true):g=true→ ∀w,Mem w0 L w→PartAt w b (o+p) n ((cs.drop p).take n):=
 fun _ _ hw=>⟨part_len hl,fun j u hu=>by rw [Nat.add_assoc];exact (hw.1.cell (p:=⟨b,o+(p+j),none⟩) hb).trans (h (p+j) u (part_get hu))⟩
theorem rrp {α:Type} {e:TypeId} {k i cp:Nat} {enc:α→List Value} {xs:List α} {y:α} (j:Nat) (hk:L[j]?=some (rowT e k enc (some ⟨b,0,none⟩) cp xs)) (hx:xs[i]?=some y) (hl:Nat.ble (p+n) (enc y).length=true) (he: ∀x,(enc x).length=k:=by exact fun _=>rfl):g=true→ ∀w,Mem w0 L w→PartAt w b (0+i*k+p) n (((enc y).drop p).take n):=
 fun hg w hw=>⟨part_len hl,fun q u hu=>by rw [Nat.add_assoc];exact rr j hk hx (part_get hu) he hg w hw⟩
theorem eP {vs:List Value} (ht: ∀w,(isAgg t).run c.P w= .ok true w) (hs: ∀w,(sizeOf t).run c.P w= .ok n w) (hx:OpV g f x (.pointer (some ⟨b,o,none⟩)))
  (hc:g=true→ ∀w,Mem w0 L w→PartAt w b o n vs:=by first|exact bp 0 rfl rfl|exact bp 1 rfl rfl|exact bp 2 rfl rfl|exact bp 3 rfl rfl|exact bp 4 rfl rfl|exact bp 5 rfl rfl|exact bp 6 rfl rfl|exact bp 7 rfl rfl|exact bp 8 rfl rfl|exact bp 9 rfl rfl|exact bp 10 rfl rfl|exact bp 11 rfl rfl|exact rp ‹_› ‹_› rfl|exact rrp 0 rfl ‹_› rfl|exact rrp 1 rfl ‹_› rfl|exact rrp 2 rfl ‹_› rfl|exact rrp 3 rfl ‹_› rfl|exact rrp 4 rfl ‹_› rfl|exact rrp 5 rfl ‹_› rfl):EvG g c w0 L f (.load t x) ty (.agg vs.toArray):=fun e dst pos af gu w hw=>by
 obtain ⟨hl,hc'⟩:=hc e w hw
 exact e_lds (g:=true) (L:=[]) (w0:=w) ht hs (fun _=>hx e) (fun _ w' hw' j u hu=>(hw'.1.cell (p:=⟨b,o+j,none⟩) (cell_blk (hc' j u hu))).trans (hc' j u hu)) hl rfl dst pos af gu w (Mem.start w)
end
end Go.Proofs.E
namespace Go.Proofs.E
open Go Go.RowKit
theorem exec_guard (f:Operand→Value) (dst:Option Nat) (op:Op) (ty:TypeId) (pos:String) (af:Array Edge) (g:Option (Nat×Bool)):execOp f ⟨dst,op,ty,pos,af,g⟩=execOp f ⟨dst,op,ty,pos,af,none⟩:=by
 cases op<;>rfl
section
variable {c:Cx} {PQ:PJ} {w0:World} {L Lb:List Item} {f:Fr} {ops rest:List Oper} {dst:Option Nat} {op:Op} {ty:TypeId} {pos:String} {af:Array Edge} {g:Option (Nat×Bool)} {b:Bool} {i fuel:Nat} {listed:List Nat}
theorem qk {x:Operand} {v:Value} {g':Bool} (h:ev f x=gv b v) (hb:b=true):OpV g' f x v:=fun _=>by rw [h,hb,gv_true]
theorem X_effG (hg:Gd f g (ops.map (·.dst)) b) (hb:b=true) (h:Eff c w0 L f ⟨dst,op,ty,pos,af,none⟩ fun L' f'=>XL false c ops rest PQ w0 L' f'):XL false c ops (⟨dst,op,ty,pos,af,g⟩::rest) PQ w0 L f:=by
 intro a w ha hw
 show if _ then _ else _
 have hwt:Region.wanted (⟨dst,op,ty,pos,af,g⟩:Oper) (yielded ops.toArray a.tmps)=true:=by rw [wanted_fr ha,←hb];exact hg
 rw [if_pos hwt]
 refine ⟨fun _ _=>trivial,?_⟩
 rw [Oper.semAt_eq _ _ (⟨dst,op,ty,pos,af,g⟩:Oper) (not_defer h.nd),ha.eval,exec_guard]
 have h2:=h.run w hw
 generalize (execOp (ev f) ⟨dst,op,ty,pos,af,none⟩).run c.P w=r at h2
 cases r with
 |halt x w'=>exact False.elim h2
 |ok x w'=>
  cases x with
  |value v=>obtain ⟨L',hm,hk,hn⟩:=h2;exact hn _ _ (hk▸ha.putF rfl h.dst v) hm
  |skip=>obtain ⟨L',hm,hk,hn⟩:=h2;exact hn _ _ (hk▸ha.putF rfl h.dst undef) hm
  |enter k args=>
   obtain ⟨e,hc⟩:=h2
   subst e
   refine ⟨fun h=>by simp [FW] at h,(callsIn_FW (hc.mono ?_))⟩
   rintro e w'' ⟨v,L',rfl,hm,hk,hn⟩
   exact hn _ _ (hk▸ha.putF rfl h.dst v) hm
  |_=>exact False.elim h2
end
end Go.Proofs.E
namespace Go.Proofs.Far
open Go Go.RowKit Go.Proofs.E
def Tf.cells (t:Tf):List Value:=[.int .i64 t.from_, .int .i64 t.unlock, .int .i64 t.step, .int .i64 t.free, .int .i64 t.price, .int .i64 t.pause]
abbrev TfsAt (w:World) (A:Option Addr) (n:Nat) (ts:List Tf):Prop:=SlAt w 6 Tf.cells A n ts
theorem fl144 {fs:Array Field} (h:Tryz.prog.underlying 144=some (.struct fs):=by exact Tryz.underlying144):FieldsLie Tryz.prog fs [(0,1),(1,1),(2,1),(3,1),(4,1),(5,1)]:=by
 rw [Tryz.underlying144] at h
 cases h
 intro w
 kernel_rfl
theorem tin_w (n lo hi:Int) (w:World):Calls Tryz.prog 181 #[.int .i64 n, .int .i64 lo, .int .i64 hi] w fun e w'=>e= .returned (.bool (inI n lo hi))∧Bel w w':=by
 refine H_enter Tryz.func181 rfl Tryz.ntmps181 rfl ?_
 iterate 19 refine G ?_
 exact ret1 (v:= .bool _) rfl rfl rfl fun w' hw=>⟨rfl,hw.1⟩
theorem tranged_w (t:Tf) (w:World):Calls Tryz.prog 127 #[.agg t.cells.toArray] w fun e w'=>e= .returned (.bool (tfOk t))∧Bel w w':=by
 refine H_enter Tryz.func127 rfl Tryz.ntmps127 rfl ?_
 iterate 2 refine G ?_
 refine X_box (v:= .agg _) rfl rfl fun b1=>?_
 iterate 13 refine G ?_
 refine xC (enV (cap:=[]) (al:=[.int .i64 t.from_, .int .i64 0, .int .i64 4294943999]) Tryz.call181 (q0 rfl) (fun _=>rfl)) (fun _ w _=>tin_w t.from_ 0 4294943999 w) rfl rfl ?_
 iterate 4 refine G ?_
 refine xCT (enV (cap:=[]) (al:=[.int .i64 t.unlock, .int .i64 0, .int .i64 1000000]) Tryz.call181 (q1 rfl) (fun hg=>by rw [ha3 (q1 (v:= .int _ _) rfl) (q0 rfl) (q0 rfl) hg];rfl)) (fun _ w _=>tin_w t.unlock 0 1000000 w) rfl rfl rfl rfl ?_
 iterate 5 refine G ?_
 refine xCT (enV (cap:=[]) (al:=[.int .i64 t.price, .int .i64 0, .int .i64 1000000]) Tryz.call181 (q1 rfl) (fun hg=>by rw [ha3 (q1 (v:= .int _ _) rfl) (q0 rfl) (q0 rfl) hg];rfl)) (fun _ w _=>tin_w t.price 0 1000000 w) rfl rfl rfl rfl ?_
 iterate 5 refine G ?_
 refine xCT (enV (cap:=[]) (al:=[.int .i64 t.pause, .int .i64 0, .int .i64 1000000]) Tryz.call181 (q1 rfl) (fun hg=>by rw [ha3 (q1 (v:= .int _ _) rfl) (q0 rfl) (q0 rfl) hg];rfl)) (fun _ w _=>tin_w t.pause 0 1000000 w) rfl rfl rfl rfl ?_
 iterate 5 refine G ?_
 refine xCT (enV (cap:=[]) (al:=[.int .i64 t.step, .int .i64 1, .int .i64 86400]) Tryz.call181 (q1 rfl) (fun hg=>by rw [ha3 (q1 (v:= .int _ _) rfl) (q0 rfl) (q0 rfl) hg];rfl)) (fun _ w _=>tin_w t.step 1 86400 w) rfl rfl rfl rfl ?_
 iterate 5 refine G ?_
 refine xCT (enV (cap:=[]) (al:=[.int .i64 t.free, .int .i64 0, .int .i64 86400]) Tryz.call181 (q1 rfl) (fun hg=>by rw [ha3 (q1 (v:= .int _ _) rfl) (q0 rfl) (q0 rfl) hg];rfl)) (fun _ w _=>tin_w t.free 0 86400 w) rfl rfl rfl rfl ?_
 iterate 5 refine G ?_
 exact ret1 (v:= .bool _) rfl rfl rfl fun w' hw=>⟨rfl,hw.1⟩
attribute [local irreducible] tfOk
theorem tcheck_w (A:Option Addr) (n c:Nat) (ts:List Tf) (w:World) (hx:TfsAt w A n ts):Calls Tryz.prog 71 #[.slice A n c] w fun e w'=>e= .returned (.int .i64 (tfErr ts))∧Bel w w':=by
 have hl:=hx.1
 have hn:=hx.2.1
 refine H_enter Tryz.func71 rfl Tryz.ntmps71 rfl ?_
 refine H_seq ?_
 refine R0 ?_
 refine xV (e_as (v:= .int _ _) (q0 rfl)) rfl rfl ?_
 refine XN ?_
 refine thenJ_normal ?_
 refine H_seq ?_
 refine H_block ?_
 refine H_seq ?_
 refine R0 ?_
 refine xV (e_mv (v:= .slice _ _ _) (q0 rfl)) rfl rfl ?_
 refine xV (e_len Tryz.underlying25 (q0 rfl)) rfl rfl ?_
 refine xV (e_eq (q0 rfl) (q0 rfl)) rfl rfl ?_
 refine xV (e_as (v:= .bool _) (q0 rfl)) rfl rfl ?_
 refine XN ?_
 refine thenJ_normal ?_
 refine H_cond rfl (fun h1=>?_) (fun h1=>?_)
 ·have h1':tfErr ts=10:=by unfold tfErr;rw [if_pos (by simp at h1;omega)]
  refine H_seq ?_
  refine R0 ?_
  refine xV (e_as (v:= .int _ _) (q0 rfl)) rfl rfl ?_
  refine XN ?_
  refine thenJ_normal ?_
  refine H_ret ?_
  refine blockJ_ret ?_
  refine thenJ_ret ?_
  exact ret1 (v:= .int _ _) rfl rfl rfl fun w' hw=>⟨ret_int h1'.symm,hw.1⟩
 ·refine H_seq ?_
  refine R0 ?_
  refine xV (e_mv (v:= .slice _ _ _) (q0 rfl)) rfl rfl ?_
  refine xV (e_len Tryz.underlying25 (q0 rfl)) rfl rfl ?_
  refine xV (e_gt (q0 rfl) (q0 rfl)) rfl rfl ?_
  refine xV (e_as (v:= .bool _) (q0 rfl)) rfl rfl ?_
  refine XN ?_
  refine thenJ_normal ?_
  refine H_cond rfl (fun h2=>?_) (fun h2=>?_)
  ·have h2':tfErr ts=8:=by unfold tfErr;rw [if_neg (by simp at h1;omega),if_pos (by simp at h2;omega)]
   refine H_seq ?_
   refine R0 ?_
   refine xV (e_as (v:= .int _ _) (q0 rfl)) rfl rfl ?_
   refine XN ?_
   refine thenJ_normal ?_
   refine H_ret ?_
   refine blockJ_ret ?_
   refine thenJ_ret ?_
   exact ret1 (v:= .int _ _) rfl rfl rfl fun w' hw=>⟨ret_int h2'.symm,hw.1⟩
  ·have h2':tfErr ts=tfErrL (tfPre ts 0) (ts.drop 0):=by unfold tfErr;rw [if_neg (by simp at h1;omega),if_neg (by simp at h2;omega)];rfl
   rw [h2']
   clear h2'
   refine H_skip ?_
   refine blockJ_normal ?_
   refine thenJ_normal ?_
   refine H_seq ?_
   refine H_seq ?_
   refine R0 ?_
   refine xV (e_mv (v:= .slice _ _ _) (q0 rfl)) rfl rfl ?_
   refine xV (e_len Tryz.underlying25 (q0 rfl)) rfl rfl ?_
   refine xV (e_mv (v:= .int _ _) (q0 rfl)) rfl rfl ?_
   refine XN ?_
   refine thenJ_normal ?_
   refine H_block ?_
   refine H_loop [2,3,4,15,16,17,18,19,20,21,22,23,24,25,26,27,28,29,30,31,32,33,34,35,36,37,38,39,40,41,42,43,44,45] (fun k:Nat=>[(15, .int .i64 k)]) (fun _=>[]) (fun k=>k≤n∧tfErrL (tfPre ts 0) (ts.drop 0)=tfErrL (tfPre ts k) (ts.drop k)) (fun k=>n -k) 0 ⟨rfl,trivial⟩ (fun w hw=>hw) rfl ⟨Nat.zero_le _,rfl⟩ ?_
   rintro k g ⟨hk,hall⟩
   refine H_seq ?_
   refine R0 ?_
   refine xV (e_lt (q0 rfl) (q0 rfl)) rfl rfl ?_
   refine XN ?_
   refine thenJ_normal ?_
   refine H_seq ?_
   refine H_cond rfl (fun hlt=>?_) (fun hlt=>?_)
   ·have hlt':k<n:=by simpa using hlt
    obtain ⟨b,off,t,rfl,hbl,ht,hrt⟩:=hx.at_ hlt'
    refine H_skip ?_
    refine thenJ_normal ?_
    refine H_seq ?_
    refine H_block ?_
    refine H_seq ?_
    refine R0 ?_
    refine xV (e_mv (v:= .int _ _) (q0 rfl)) rfl rfl ?_
    refine xV (e_idx _ Tryz.underlying25 Tryz.sizeOf144 (q0 rfl) (q0 rfl) (fun _=>⟨rfl,by omega⟩)) rfl rfl ?_
    refine xV (eS Tryz.isAgg144 Tryz.sizeOf144 (q0 rfl)) rfl rfl ?_
    refine X_alloc Tryz.zeroValue144 rfl fun b4=>?_
    refine xV (e_as (v:= .int _ _) (q0 rfl)) rfl rfl ?_
    refine X_st (v:= .agg _) rfl rfl Tryz.sizeOf144 ?_
    refine XN ?_
    refine thenJ_normal ?_
    refine H_seq ?_
    refine H_seq ?_
    refine R0 ?_
    refine xV (eS Tryz.isAgg144 Tryz.sizeOf144 (q0 rfl)) rfl rfl ?_
    refine xC (en Tryz.call127 (ha1 (q0 rfl))) (fun _ w _=>tranged_w t w) rfl rfl ?_
    refine xV (e_not (q0 rfl)) rfl rfl ?_
    refine XN ?_
    refine thenJ_normal ?_
    refine H_cond rfl (fun hb=>?_) (fun hb=>?_)
    ·have hb':tfOk t=false:=by simpa using hb
     refine H_seq ?_
     refine R0 ?_
     refine xV (e_as (v:= .int _ _) (q0 rfl)) rfl rfl ?_
     refine XN ?_
     refine thenJ_normal ?_
     refine H_ret ?_
     refine thenJ_ret ?_
     refine blockJ_ret ?_
     refine thenJ_ret ?_
     refine loopJ_ret ?_
     refine blockJ_ret ?_
     refine thenJ_ret ?_
     exact ret1 (v:= .int _ _) rfl rfl rfl fun w' hw=>⟨ret_int (by rw [hall,tfErrL_bad ht hb']),hw.1⟩
    ·have hb':tfOk t=true:=by simpa using hb
     refine H_skip ?_
     refine thenJ_normal ?_
     refine H_seq ?_
     refine H_cut [23,24,25,26,27,28,29,30,31,32,33,34,35,36,37,38,39,40,41,42,43,44] (fun o:Bool=>[(44, .bool o)]) (fun _=>[box b4 144 t.cells]) (fun o=>o=tfOrd (tfPre ts k) t) ?_ ?_
     ·rcases Nat.eq_zero_or_pos k with h00|h00
      ·subst h00
       refine R1 rfl (by decide+kernel) ?_
       refine xV (e_mv (v:= .int _ _) (q0 rfl)) rfl rfl ?_
       refine xV (e_eq (q0 rfl) (q0 rfl)) rfl rfl ?_
       refine xV (e_mv (v:= .bool _) (q0 rfl)) rfl rfl ?_
       refine xVT (e_fld Tryz.underlying144 rfl Tryz.sizeOf3 rfl (q0 rfl)) rfl rfl rfl rfl ?_
       refine xVT (eL Tryz.isAgg3 (q1 rfl)) rfl rfl rfl rfl ?_
       refine xVT (e_ne (q1 rfl) (q0 rfl)) rfl rfl rfl rfl ?_
       refine xV (e_and (q0 rfl) rfl (fun h=>by first|rfl|(rw [h];rfl))) rfl rfl ?_
       refine xV (e_mv (v:= .bool _) (q0 rfl)) rfl rfl ?_
       refine xVF (e_mv (v:= .int _ _) (q0 rfl)) rfl rfl rfl rfl ?_
       refine xVF (e_gt (q1 rfl) (q0 rfl)) rfl rfl rfl rfl ?_
       refine xVF (e_mv (v:= .bool _) (q1 rfl)) rfl rfl rfl rfl ?_
       refine xVT2 (e_dead (v:= .pointer none) (by simp)) rfl rfl rfl rfl ?_
       refine xVT2 (e_dead (v:= .int .i64 0) (by simp)) rfl rfl rfl rfl ?_
       refine xVT2 (e_dead (v:= .slice none 0 0) (by simp)) rfl rfl rfl rfl ?_
       refine xVT2 (e_dead (v:= .int .i64 0) (by simp)) rfl rfl rfl rfl ?_
       refine xVT2 (e_dead (v:= .int .i64 0) (by simp)) rfl rfl rfl rfl ?_
       refine xVT2 (e_dead (v:= .pointer none) (by simp)) rfl rfl rfl rfl ?_
       refine xVT2 (e_dead (v:= .pointer none) (by simp)) rfl rfl rfl rfl ?_
       refine xVT2 (e_dead (v:= .int .i64 0) (by simp)) rfl rfl rfl rfl ?_
       refine xVT2 (e_dead (v:= .bool false) (by simp)) rfl rfl rfl rfl ?_
       refine xVF (e_and (q1 rfl) rfl (fun h=>by first|rfl|(rw [h];rfl))) rfl rfl rfl rfl ?_
       refine xV (e_or (q0 rfl) rfl (fun h=>by first|rfl|(rw [h];rfl))) rfl rfl ?_
       refine XN ?_
       exact cutJ_normal _ (by repeat (first|exact agree_self|exact agree_over|refine agree_upd rfl ?_|refine agree_updL rfl ?_|refine agree_over2 rfl ?_)) ⟨rfl,trivial⟩ (fun w hw=>hw) rfl (by simp [tfPre,tfOrd])
      ·obtain ⟨j,rfl⟩: ∃j,k=j+1:=⟨k -1,by omega⟩
       have hjn:j<n:=by omega
       obtain ⟨q,hq,hrq⟩:=hx.row hjn
       refine R1 rfl (by decide+kernel) ?_
       refine xV (e_mv (v:= .int _ _) (q0 rfl)) rfl rfl ?_
       refine xV (e_eq (q0 rfl) (q0 rfl)) rfl rfl ?_
       refine xV (e_mv (v:= .bool _) (q0 rfl)) rfl rfl ?_
       refine xVT (e_fld Tryz.underlying144 rfl Tryz.sizeOf3 rfl (q0 rfl)) rfl rfl rfl rfl ?_
       refine xVT (eL Tryz.isAgg3 (q1 rfl)) rfl rfl rfl rfl ?_
       refine xVT (e_ne (q1 rfl) (q0 rfl)) rfl rfl rfl rfl ?_
       refine xV (e_and (q0 rfl) rfl (fun h=>by first|rfl|(rw [h];rfl))) rfl rfl ?_
       refine xV (e_mv (v:= .bool _) (q0 rfl)) rfl rfl ?_
       refine xVF (e_mv (v:= .int _ _) (q0 rfl)) rfl rfl rfl rfl ?_
       refine xVF (e_gt (q1 rfl) (q0 rfl)) rfl rfl rfl rfl ?_
       refine xVF (e_mv (v:= .bool _) (q1 rfl)) rfl rfl rfl rfl ?_
       refine xVT2 (e_fld Tryz.underlying144 rfl Tryz.sizeOf3 rfl (q0 rfl)) rfl rfl rfl rfl ?_
       refine xVT2 (eL Tryz.isAgg3 (q1 rfl)) rfl rfl rfl rfl ?_
       refine xVT2 (e_mv (v:= .slice _ _ _) (q0 rfl)) rfl rfl rfl rfl ?_
       refine xVT2 (e_mv (v:= .int _ _) (q0 rfl)) rfl rfl rfl rfl ?_
       refine xVT2 (e_sub (r:=((j:Nat):Int)) (q1 rfl) (q0 rfl) (fun _=>⟨by omega,by omega,by omega⟩)) rfl rfl rfl rfl ?_
       refine xVT2 (e_idx j Tryz.underlying25 Tryz.sizeOf144 (q1 rfl) (q1 rfl) (fun _=>⟨rfl,hjn⟩)) rfl rfl rfl rfl ?_
       refine xVT2 (e_fld Tryz.underlying144 rfl Tryz.sizeOf3 rfl (q1 rfl)) rfl rfl rfl rfl ?_
       refine xVT2 (e_ld (v:= .int .i64 q.from_) Tryz.isAgg3 (q1 rfl) (by first|exact rc (j:=0) hrq ‹_› rfl|exact rc0 hrq ‹_› rfl)) rfl rfl rfl rfl ?_
       refine xVT2 (e_le (q1 rfl) (q1 rfl)) rfl rfl rfl rfl ?_
       refine xVF (e_and (q1 rfl) rfl (fun h=>by first|rfl|(rw [h];rfl))) rfl rfl rfl rfl ?_
       refine xV (e_or (q0 rfl) rfl (fun h=>by first|rfl|(rw [h];rfl))) rfl rfl ?_
       refine XN ?_
       exact cutJ_normal _ (by repeat (first|exact agree_self|exact agree_over|refine agree_upd rfl ?_|refine agree_updL rfl ?_|refine agree_over2 rfl ?_)) ⟨rfl,trivial⟩ (fun w hw=>hw) rfl (by
        simp only [tfPre,hq,tfOrd]
        have h3:decide (((j+1:Nat):Int)=0)=false:=decide_eq_false (by omega)
        have h4:decide ((0:Int)<((j+1:Nat):Int))=true:=decide_eq_true (by omega)
        rw [h3,h4];simp)
     ·rintro o g2 ho
      subst ho
      refine thenJ_normal ?_
      refine H_cond rfl (fun ho=>?_) (fun ho=>?_)
      ·refine H_seq ?_
       refine R0 ?_
       refine xV (e_as (v:= .int _ _) (q0 rfl)) rfl rfl ?_
       refine XN ?_
       refine thenJ_normal ?_
       refine H_ret ?_
       refine blockJ_ret ?_
       refine thenJ_ret ?_
       refine loopJ_ret ?_
       refine blockJ_ret ?_
       refine thenJ_ret ?_
       exact ret1 (v:= .int _ _) rfl rfl rfl fun w' hw=>⟨ret_int (by rw [hall,tfErrL_ord ht hb' ho]),hw.1⟩
      ·have hst:=tfErrL_step ht hb' ho
       refine H_skip ?_
       refine blockJ_normal ?_
       refine thenJ_normal ?_
       refine R0 ?_
       refine xV (e_add (q0 rfl) (q0 rfl) (fun _=>⟨rfl,by omega,by omega⟩)) rfl rfl ?_
       refine xV (e_mv (v:= .int _ _) (q0 rfl)) rfl rfl ?_
       refine XN ?_
       exact loopJ_normal (k+1) (by repeat (first|exact agree_self|exact agree_over|refine agree_upd rfl ?_|refine agree_updL rfl ?_|refine agree_over2 rfl ?_)) ⟨rfl,trivial⟩ (fun w hw=>hw.tail) rfl ⟨by omega,by rw [hall,hst]⟩ (by show n -(k+1)<n -k;omega)
   ·have hend:k=n:=by simp at hlt;omega
    have hall2:tfErrL (tfPre ts 0) (ts.drop 0)=0:=by
     rw [hall,List.drop_of_length_le (by omega)]
     unfold tfErrL;rfl
    refine H_exit ?_
    refine thenJ_exit ?_
    refine loopJ_exit ?_
    refine blockJ_hit ?_
    refine thenJ_normal ?_
    refine H_seq ?_
    refine R0 ?_
    refine xV (e_as (v:= .int _ _) (q0 rfl)) rfl rfl ?_
    refine XN ?_
    refine thenJ_normal ?_
    refine H_ret ?_
    exact ret1 (v:= .int _ _) rfl rfl rfl fun w' hw=>⟨ret_int hall2.symm,hw.1⟩
end Go.Proofs.Far
namespace Go.Proofs.Far
open Go Go.RowKit Go.Proofs.E
theorem toU1 {k:FuncId} {args:Array Value} {w:World} {r:Value} (h:Calls Tryz.prog k args w fun e w'=>e= .returned r∧Bel w w'):Calls Tryz.prog k args w fun e w'=> ∃_:Unit,e= .returned r∧Mem w [] w':=
 h.mono fun _ _ h=>⟨(),h.1,mem_nil.2 h.2⟩
theorem drop_at {α:Type} {l:List α} {k:Nat} {x:α} (h:l[k]?=some x):l.drop k=x::l.drop (k+1):=by
 obtain ⟨h1,h2⟩:=List.getElem?_eq_some_iff.1 h
 rw [List.drop_eq_getElem_cons h1,h2]
theorem atL_cons (t:Int) (a k:Nat) (x:Tf) (l:List Tf):atL t a k (x::l)=atL t (if x.from_≤t then k else a) (k+1) l:=rfl
def atR (l:List Tf) (t:Int):Int×Int:=if tfErr l≠0 then (0,tfErr l) else if t<0∨4294943999<t then (0,1) else ((atP l t:Nat),0)
theorem tat_w (A:Option Addr) (n c:Nat) (ts:List Tf) (t:Int) (w:World) (hx:TfsAt w A n ts):Calls Tryz.prog 165 #[.slice A n c, .int .i64 t] w fun e w'=>e= .returned (.tuple #[.int .i64 (atR ts t).1, .int .i64 (atR ts t).2])∧Bel w w':=by
 have hl:=hx.1
 have hn:=hx.2.1
 refine H_enter Tryz.func165 rfl Tryz.ntmps165 rfl ?_
 iterate 10 refine G ?_
 refine xC (en Tryz.call71 (ha1 (q0 rfl))) (fun _ w hw=>tcheck_w A n c ts w (hx.mem hw)) rfl rfl ?_
 iterate 9 refine G ?_
 refine H_cond rfl ?_ ?_<;>intro h1
 ·have h1':tfErr ts≠0:=by simpa using h1
  have hr:atR ts t=(0,tfErr ts):=by unfold atR;rw [if_pos h1']
  rw [hr]
  iterate 9 refine G ?_
  exact ret2 (v:= .int _ _) (x:= .int _ _) rfl rfl rfl rfl fun w' hw=>⟨rfl,hw.1⟩
 ·have h1':tfErr ts=0:=by simpa using h1
  iterate 13 refine G ?_
  refine H_cond rfl ?_ ?_<;>intro h2
  ·have hr:atR ts t=(0,1):=by unfold atR;rw [if_neg (by simp [h1']),if_pos (by simp at h2;omega)]
   rw [hr]
   iterate 8 refine G ?_
   exact ret2 (v:= .int _ _) (x:= .int _ _) rfl rfl rfl rfl fun w' hw=>⟨rfl,hw.1⟩
  ·have hr:atR ts t=(((atL t 0 0 (ts.drop 0):Nat):Int),0):=by unfold atR;rw [if_neg (by simp [h1']),if_neg (by simp at h2;omega)];rfl
   rw [hr]
   iterate 16 refine G ?_
   refine H_loop [7,8,9,23,24,25,26,27,28,29,30,31,32,33] (fun q:Nat×Nat=>[(23, .int .i64 q.1),(7, .int .i64 q.2)]) (fun _=>[]) (fun q=>q.1≤n∧atL t 0 0 (ts.drop 0)=atL t q.2 q.1 (ts.drop q.1)) (fun q=>n -q.1) (0,0) ⟨rfl,rfl,trivial⟩ (fun w hw=>hw) rfl ⟨Nat.zero_le _,rfl⟩ ?_
   rintro ⟨k,a⟩ g ⟨hk,hall⟩
   simp only at hk hall
   iterate 6 refine G ?_
   refine H_cond rfl ?_ ?_<;>intro hlt
   ·have hlt':k<n:=by simpa using hlt
    obtain ⟨b,off,x,rfl,hbl,hxk,hrx⟩:=hx.at_ hlt'
    rw [drop_at hxk,atL_cons] at hall
    iterate 7 refine G ?_
    refine xV (e_idx _ Tryz.underlying25 Tryz.sizeOf144 (q0 rfl) (q0 rfl) (fun _=>⟨rfl,by omega⟩)) rfl rfl ?_
    refine G ?_
    refine X_alloc Tryz.zeroValue144 rfl fun b9=>?_
    refine G ?_
    refine X_st (v:= .agg _) rfl rfl Tryz.sizeOf144 ?_
    iterate 10 refine G ?_
    refine H_cond rfl ?_ ?_<;>intro hb
    ·have hb':x.from_≤t:=by simpa using hb
     rw [if_pos hb'] at hall
     iterate 10 refine G ?_
     exact loopJ_normal (k+1,k) agr ⟨rfl,rfl,trivial⟩ (fun w hw=>hw.tail) rfl ⟨by show k+1≤n;omega,hall⟩ (by show n -(k+1)<n -k;omega)
    ·have hb': ¬x.from_≤t:=by simpa using hb
     rw [if_neg hb'] at hall
     iterate 7 refine G ?_
     exact loopJ_normal (k+1,a) agr ⟨rfl,rfl,trivial⟩ (fun w hw=>hw.tail) rfl ⟨by show k+1≤n;omega,hall⟩ (by show n -(k+1)<n -k;omega)
   ·have hend:k=n:=by simp at hlt;omega
    have hfin:atL t 0 0 (ts.drop 0)=a:=by rw [hall,hend,List.drop_of_length_le (by omega)];rfl
    rw [hfin]
    iterate 13 refine G ?_
    exact ret2 (v:= .int _ _) (x:= .int _ _) rfl rfl rfl rfl fun w' hw=>⟨rfl,hw.1⟩
def Tf.zero (t:Tf):Tf:={t with from_:=0}
theorem zero_ok {t:Tf} (h:tfOk t=true):tfOk t.zero=true:=by
 rw [tfOk_iff] at h⊢
 unfold Tf.zero
 simp only
 omega
theorem alone_err {t:Tf} (h:tfOk t=true):tfErr [t.zero]=0:=by
 unfold tfErr
 simp only [List.length_cons,List.length_nil]
 rw [if_neg (by decide),if_neg (by decide)]
 unfold tfErrL
 rw [if_neg (by rw [zero_ok h];decide),if_neg (by simp [tfOrd,Tf.zero])]
 rfl
attribute [local irreducible] tfErr tfOk
theorem alone_w (t:Tf) (ht:tfOk t=true) (w:World):Calls Tryz.prog 291 #[.agg t.cells.toArray] w fun e w'=>e= .returned (.tuple #[.agg t.zero.cells.toArray, .int .i64 0])∧Bel w w':=by
 have he:=alone_err ht
 obtain ⟨a,b,c,d,e,f⟩:=t
 refine H_enter Tryz.func291 rfl Tryz.ntmps291 rfl ?_
 iterate 2 refine G ?_
 refine X_box (v:= .agg _) rfl rfl fun b1=>?_
 refine X_alloc Tryz.zeroValue223 rfl fun b2=>?_
 iterate 6 refine G ?_
 refine X_st (v:= .int _ _) rfl rfl Tryz.sizeOf3 ?_
 iterate 3 refine G ?_
 refine H_mem (L':=[box b2 223 [.int .i64 0, .int .i64 0, .int .i64 0, .int .i64 0, .int .i64 0, .int .i64 0],box b1 144 (Tf.cells ⟨0,b,c,d,e,f⟩)]) (fun w hw=>hw) rfl ?_
 have hch:=fun (bb:Nat) (w:World) (h:TfsAt w (some ⟨bb,0,none⟩) 1 [⟨0,b,c,d,e,f⟩])=>by
  have h2:=tcheck_w (some ⟨bb,0,none⟩) 1 1 [⟨0,b,c,d,e,f⟩] w h
  rw [show tfErr [⟨0,b,c,d,e,f⟩]=0 from he] at h2
  exact h2
 refine RAd 1 rfl (by decide+kernel) ?_
 refine aW 0 ?_
 refine aW 1 ?_
 refine r1 2 1 ?_
 refine aL rfl (f_slit [(.int .i64 0),(.int .i64 0),(.int .i64 0),(.int .i64 0),(.int .i64 0),(.int .i64 0)] Tryz.underlying25 Tryz.sizeOf144 Tryz.zeroValue144 rfl (by kernel_rfl) (pt (v:= .agg _) rfl E.p0) rfl rfl fun b7=>?_)
 refine r1 3 2 ?_
 refine aL rfl (f_callx (en Tryz.call71 (ha1 (q0 rfl))) (fun w hw=>toU1 (hch b7 w (slAt_box (enc:=Tf.cells) (xs:=[⟨0,b,c,d,e,f⟩]) hw (j:=0) rfl (fun _=>rfl) (by simp)))) rfl (fun _=>rfl) fun u3=>?_)
 refine r1 4 2 ?_
 refine aL rfl (f_st (v:= .agg _) rfl rfl Tryz.sizeOf223 ?_)
 refine aW 5 ?_
 refine aZ (by decide+kernel) (sub_drop 2) ?_
 iterate 2 refine G ?_
 exact ret_of rfl (resc2 1 rfl rfl rfl Tryz.isAgg223 Tryz.sizeOf223 rfl rfl) fun w' hw=>⟨rfl,hw.1⟩
theorem steps_w (t:Tf) (secs:Int) (w:World) (ht:1≤t.step∧t.step≤86400) (hs: -1000000≤secs∧secs≤4294944000):Calls Tryz.prog 292 #[.agg t.cells.toArray, .int .i64 secs] w fun e w'=>e= .returned (.int .i64 (stepsP t secs))∧Bel w w':=by
 refine H_enter Tryz.func292 rfl Tryz.ntmps292 rfl ?_
 have hmx:(if secs<0 then 0 else secs)=max secs 0:=by split<;>omega
 iterate 2 refine G ?_
 refine X_box (v:= .agg _) rfl rfl fun b2=>?_
 iterate 6 refine G ?_
 refine xV (e_max (q0 rfl) (q0 rfl)) rfl rfl ?_
 iterate 6 refine G ?_
 refine xV (e_quo (q0 rfl) (q0 rfl) (fun _=>⟨by omega,by omega,by omega⟩)) rfl rfl ?_
 iterate 4 refine G ?_
 exact ret1 (v:= .int _ _) rfl rfl rfl fun w' hw=>⟨by unfold stepsP;rw [←hmx],hw.1⟩
theorem riding_w (t:Tf) (secs:Int) (w:World) (ht:tfOk t=true) (hs:0≤secs∧secs≤4294944000):Calls Tryz.prog 231 #[.agg t.cells.toArray, .int .i64 secs] w fun e w'=>e= .returned (.int .i64 (ridP t secs))∧Bel w w':=by
 obtain ⟨-,-,hp,-,hst,hfr⟩:=tfOk_iff.1 ht
 have hsl:=steps_le hst (s:=secs -t.free) (by omega)
 have hm:0≤ridP t secs∧ridP t secs≤4294944000000000:=by
  unfold ridP
  constructor
  ·exact Int.mul_nonneg hp.1 hsl.1
  ·have h1:t.price*stepsP t (secs -t.free)≤1000000*stepsP t (secs -t.free):=Int.mul_le_mul_of_nonneg_right hp.2 hsl.1
   omega
 refine H_enter Tryz.func231 rfl Tryz.ntmps231 rfl ?_
 iterate 2 refine G ?_
 refine X_box (v:= .agg _) rfl rfl fun b2=>?_
 iterate 4 refine G ?_
 refine R1 rfl (by decide+kernel) ?_
 iterate 7 refine G ?_
 refine xC (en Tryz.call292 (ha2 (q0 rfl) (q0 rfl))) (fun _ w _=>steps_w t (secs -t.free) w hst (by omega)) rfl rfl ?_
 refine xV (e_mul (r:=ridP t secs) (q0 rfl) (q0 rfl) (fun _=>⟨rfl,by omega,by omega⟩)) rfl rfl ?_
 iterate 4 refine G ?_
 exact ret1 (v:= .int _ _) rfl rfl rfl fun w' hw=>⟨rfl,hw.1⟩
theorem pausing_w (t:Tf) (secs:Int) (w:World) (ht:tfOk t=true) (hs:0≤secs∧secs≤4294944000):Calls Tryz.prog 232 #[.agg t.cells.toArray, .int .i64 secs] w fun e w'=>e= .returned (.int .i64 (pauP t secs))∧Bel w w':=by
 obtain ⟨-,-,-,hp,hst,hfr⟩:=tfOk_iff.1 ht
 have hsl:=steps_le hst (s:=secs) (by omega)
 have hm:0≤pauP t secs∧pauP t secs≤4294944000000000:=by
  unfold pauP
  constructor
  ·exact Int.mul_nonneg hp.1 hsl.1
  ·have h1:t.pause*stepsP t secs≤1000000*stepsP t secs:=Int.mul_le_mul_of_nonneg_right hp.2 hsl.1
   omega
 refine H_enter Tryz.func232 rfl Tryz.ntmps232 rfl ?_
 iterate 2 refine G ?_
 refine X_box (v:= .agg _) rfl rfl fun b2=>?_
 iterate 4 refine G ?_
 refine R1 rfl (by decide+kernel) ?_
 iterate 4 refine G ?_
 refine xC (en Tryz.call292 (ha2 (q0 rfl) (q0 rfl))) (fun _ w _=>steps_w t secs w hst (by omega)) rfl rfl ?_
 refine xV (e_mul (r:=pauP t secs) (q0 rfl) (q0 rfl) (fun _=>⟨rfl,by omega,by omega⟩)) rfl rfl ?_
 iterate 4 refine G ?_
 exact ret1 (v:= .int _ _) rfl rfl rfl fun w' hw=>⟨rfl,hw.1⟩
theorem price_w (k:FuncId) (hen: ∀args w,(callFunc k args).run Tryz.prog w= .ok (.enter k args) w) (t:Tf) (ht:tfOk t=true) (secs v:Int) (hs:0≤secs∧secs≤4294944000) (hc: ∀w,Calls Tryz.prog k #[.agg t.zero.cells.toArray, .int .i64 secs] w fun e w'=>e= .returned (.int .i64 v)∧Bel w w') (w:World):
  Calls Tryz.prog 230 #[.func (.func k) #[] #[], .agg t.cells.toArray, .int .i64 secs] w fun e w'=>e= .returned (.tuple #[.int .i64 (money v).1, .int .i64 (money v).2])∧Bel w w':=by
 refine H_enter Tryz.func230 rfl Tryz.ntmps230 rfl ?_
 iterate 2 refine G ?_
 refine X_box (v:= .agg _) rfl rfl fun b4=>?_
 iterate 7 refine G ?_
 refine xC (en Tryz.call291 (ha1 (q0 rfl))) (fun _ w _=>alone_w t ht w) rfl rfl ?_
 iterate 3 refine G ?_
 refine X_alloc Tryz.zeroValue223 rfl fun b8=>?_
 refine X_st (v:= .agg _) rfl rfl Tryz.sizeOf223 ?_
 iterate 10 refine G ?_
 refine H_cond rfl ?_ ?_<;>intro h1
 ·exact absurd h1 (by decide)
 ·iterate 13 refine G ?_
  refine H_cond rfl ?_ ?_<;>intro h2
  ·exfalso;simp at h2;omega
  ·iterate 7 refine G ?_
   refine xC (enV (cap:=[]) (al:=[.agg t.zero.cells.toArray, .int .i64 secs]) hen (q0 rfl) (fun hg=>by rw [ha2 (q0 (v:= .agg _) rfl) (q0 (v:= .int _ _) rfl) hg];rfl)) (fun _ w _=>hc w) rfl rfl ?_
   iterate 10 refine G ?_
   refine H_cond rfl ?_ ?_<;>intro h3
   ·have h3':money v=(0,2):=by unfold money;rw [if_pos (by simpa using h3)]
    rw [h3']
    iterate 8 refine G ?_
    exact ret2 (v:= .int _ _) (x:= .int _ _) rfl rfl rfl rfl fun w' hw=>⟨rfl,hw.1⟩
   ·have h3':money v=(v,0):=by unfold money;rw [if_neg (by simpa using h3)]
    rw [h3']
    iterate 10 refine G ?_
    exact ret2 (v:= .int _ _) (x:= .int _ _) rfl rfl rfl rfl fun w' hw=>⟨rfl,hw.1⟩
theorem time_w (t:Tf) (ht:tfOk t=true) (secs:Int) (hs:0≤secs∧secs≤4294944000) (w:World):Calls Tryz.prog 167 #[.agg t.cells.toArray, .int .i64 secs] w fun e w'=>e= .returned (.tuple #[.int .i64 (money (ridP t secs)).1, .int .i64 (money (ridP t secs)).2])∧Bel w w':=by
 refine H_enter Tryz.func167 rfl Tryz.ntmps167 rfl ?_
 iterate 2 refine G ?_
 refine X_box (v:= .agg _) rfl rfl fun b2=>?_
 iterate 8 refine G ?_
 refine xC (en Tryz.call230 (ha3 (q0 rfl) (q0 rfl) (q0 rfl))) (fun _ w _=>price_w 231 Tryz.call231 t ht secs (ridP t secs) hs (fun w=>riding_w t.zero secs w (zero_ok ht) hs) w) rfl rfl ?_
 iterate 7 refine G ?_
 exact ret2 (v:= .int _ _) (x:= .int _ _) rfl rfl rfl rfl fun w' hw=>⟨rfl,hw.1⟩
theorem pauses_w (t:Tf) (ht:tfOk t=true) (secs:Int) (hs:0≤secs∧secs≤4294944000) (w:World):Calls Tryz.prog 168 #[.agg t.cells.toArray, .int .i64 secs] w fun e w'=>e= .returned (.tuple #[.int .i64 (money (pauP t secs)).1, .int .i64 (money (pauP t secs)).2])∧Bel w w':=by
 refine H_enter Tryz.func168 rfl Tryz.ntmps168 rfl ?_
 iterate 2 refine G ?_
 refine X_box (v:= .agg _) rfl rfl fun b2=>?_
 iterate 8 refine G ?_
 refine xC (en Tryz.call230 (ha3 (q0 rfl) (q0 rfl) (q0 rfl))) (fun _ w _=>price_w 232 Tryz.call232 t ht secs (pauP t secs) hs (fun w=>pausing_w t.zero secs w (zero_ok ht) hs) w) rfl rfl ?_
 iterate 7 refine G ?_
 exact ret2 (v:= .int _ _) (x:= .int _ _) rfl rfl rfl rfl fun w' hw=>⟨rfl,hw.1⟩
end Go.Proofs.Far
namespace Go.Proofs.Far
open Go Go.RowKit Go.Proofs.E
def hasI (l:List Int) (i:Int):Bool:=l.any fun y=>y==i
def keysI (l:List Int):List (Int×Value):=l.map fun i=>(i, .bool true)
theorem look_keysI (l:List Int) (r:Int):(mlook (keysI l) r).getD (.bool false)= .bool (hasI l r):=by
 induction l with
 |nil=>rfl
 |cons v l ih=>
  by_cases h:v=r
  ·simp [mlook,keysI,hasI,h]
  ·have hb:(v==r)=false:=beq_eq_false_iff_ne.2 h
   simp only [mlook,keysI,hasI,List.map_cons,List.find?_cons,List.any_cons,hb,Bool.false_or] at ih⊢
   exact ih
theorem mput_keysI (l:List Int) (v:Int) (h:hasI l v=false):mput (keysI l) v (.bool true)=keysI (l++[v]):=by
 induction l with
 |nil=>rfl
 |cons x l ih=>
  simp only [hasI,List.any_cons,Bool.or_eq_false_iff] at h
  simp only [keysI,List.map_cons,List.cons_append,mput,h.1,Bool.false_eq_true,if_false]
  rw [←keysI,ih h.2];rfl
theorem snocT {α:Type} (l:List α) (k:Nat) (v:α) (h:l[k]?=some v):l.take (k+1)=l.take k++[v]:=by
 rw [List.take_add_one,h];rfl
theorem twice_yes {l:List Int} {k:Nat} {x:Int} (hx:l[k]?=some x) (h:hasI (l.take k) x=true):twiceI (l.take k) (l.drop k)=true:=by
 rw [drop_at hx]
 unfold twiceI
 unfold hasI at h
 rw [h];rfl
theorem twice_next {l:List Int} {k:Nat} {x:Int} (hx:l[k]?=some x) (h:hasI (l.take k) x=false):twiceI (l.take k) (l.drop k)=twiceI (l.take (k+1)) (l.drop (k+1)):=by
 rw [drop_at hx,snocT _ _ _ hx]
 conv=>lhs;unfold twiceI
 unfold hasI at h
 rw [h,Bool.false_or]
def Pas.cells (p:Pas):List Value:=[.int .i64 p.id, .int .i64 p.rider, .int .i64 p.from_, .int .i64 p.to_, .int .i64 p.perDay, .int .i64 p.secs]
abbrev PassAt (w:World) (A:Option Addr) (n:Nat) (ps:List Pas):Prop:=SlAt w 6 Pas.cells A n ps
theorem fl153 {fs:Array Field} (h:Tryz.prog.underlying 153=some (.struct fs):=by exact Tryz.underlying153):FieldsLie Tryz.prog fs [(0,1),(1,1)]:=by
 rw [Tryz.underlying153] at h
 cases h
 intro w
 kernel_rfl
theorem pin_w (n lo hi:Int) (w:World):Calls Tryz.prog 128 #[.int .i64 n, .int .i64 lo, .int .i64 hi] w fun e w'=>e= .returned (.bool (inI n lo hi))∧Bel w w':=by
 refine H_enter Tryz.func128 rfl Tryz.ntmps128 rfl ?_
 iterate 19 refine G ?_
 exact ret1 (v:= .bool _) rfl rfl rfl fun w' hw=>⟨rfl,hw.1⟩
theorem pas_bad {l:List Pas} {k:Nat} {p:Pas} (hl:l.length≤64) (h:l[k]?=some p) (hb:pasBad p=true):pasErr l=1:=by
 unfold pasErr
 rw [if_neg (by omega),if_pos]
 exact List.any_eq_true.2 ⟨p,List.mem_of_getElem? h,hb⟩
theorem any_next {l:List Pas} {k:Nat} {p:Pas} (h:l[k]?=some p) (h0:(l.take k).any pasBad=false) (hb:pasBad p=false):(l.take (k+1)).any pasBad=false:=by
 rw [snocT _ _ _ h,List.any_append,h0];simp [hb]
theorem pcheck_w (A:Option Addr) (n c:Nat) (ps:List Pas) (w:World) (hx:PassAt w A n ps):Calls Tryz.prog 72 #[.slice A n c] w fun e w'=>e= .returned (.int .i64 (pasErr ps))∧Bel w w':=by
 have hl:=hx.1
 have hn:=hx.2.1
 refine H_enter Tryz.func72 rfl Tryz.ntmps72 rfl ?_
 iterate 13 refine G ?_
 refine H_cond rfl ?_ ?_<;>intro h1
 ·have h1':pasErr ps=8:=by unfold pasErr;rw [if_pos (by simp at h1;omega)]
  iterate 7 refine G ?_
  exact ret1 (v:= .int _ _) rfl rfl rfl fun w' hw=>⟨ret_int h1'.symm,hw.1⟩
 ·have h64:ps.length≤64:=by simp at h1;omega
  iterate 11 refine G ?_
  refine H_loop [2,4,13,14,15,16,17,18,19,20,21,22,23,24,25,26,27,28,29,30,31,32,33,34,35,36,37,38,39,40,41,42,43,44,45,46,47,48,49,50,51,52,53,54,55,56,57,58] (fun k:Nat=>[(13, .int .i64 k)]) (fun _=>[]) (fun k=>k≤n∧(ps.take k).any pasBad=false) (fun k=>n -k) 0 ⟨rfl,trivial⟩ (fun w hw=>hw) rfl ⟨Nat.zero_le _,rfl⟩ ?_
  rintro k g ⟨hk,hall⟩
  iterate 6 refine G ?_
  refine H_cond rfl ?_ ?_<;>intro hlt
  ·have hlt':k<n:=by simpa using hlt
   obtain ⟨b,off,p,rfl,hbl,hp,hrp⟩:=hx.at_ hlt'
   iterate 6 refine G ?_
   refine xV (e_idx _ Tryz.underlying26 Tryz.sizeOf155 (q0 rfl) (q0 rfl) (fun _=>⟨rfl,by omega⟩)) rfl rfl ?_
   refine G ?_
   refine X_alloc Tryz.zeroValue155 rfl fun b4=>?_
   refine X_st (v:= .agg _) rfl rfl Tryz.sizeOf155 ?_
   iterate 7 refine G ?_
   refine xC (en Tryz.call128 (ha3 (q0 rfl) (q0 rfl) (q0 rfl))) (fun _ w _=>pin_w p.id 1 1000000 w) rfl rfl ?_
   iterate 4 refine G ?_
   refine xCF (en Tryz.call128 (ha3 (q1 (v:= .int _ _) rfl) (q0 rfl) (q0 rfl))) (fun _ w _=>pin_w p.rider 0 127 w) rfl rfl rfl rfl ?_
   iterate 5 refine G ?_
   refine xCF (en Tryz.call128 (ha3 (q1 (v:= .int _ _) rfl) (q0 rfl) (q0 rfl))) (fun _ w _=>pin_w p.perDay 1 256 w) rfl rfl rfl rfl ?_
   iterate 5 refine G ?_
   refine xCF (en Tryz.call128 (ha3 (q1 (v:= .int _ _) rfl) (q0 rfl) (q0 rfl))) (fun _ w _=>pin_w p.secs 0 86400 w) rfl rfl rfl rfl ?_
   iterate 4 refine G ?_
   refine H_cond rfl ?_ ?_<;>intro hb
   ·have hb':pasBad1 p=true:=hb
    iterate 12 refine G ?_
    exact ret1 (v:= .int _ _) rfl rfl rfl fun w' hw=>⟨ret_int (pas_bad h64 hp (by unfold pasBad;rw [hb'];rfl)).symm,hw.1⟩
   ·have hb':pasBad1 p=false:=hb
    iterate 25 refine G ?_
    refine H_cond rfl ?_ ?_<;>intro hb2
    ·have hb2':pasBad2 p=true:=hb2
     iterate 11 refine G ?_
     exact ret1 (v:= .int _ _) rfl rfl rfl fun w' hw=>⟨ret_int (pas_bad h64 hp (by unfold pasBad;rw [hb2',Bool.or_true])).symm,hw.1⟩
    ·have hb2':pasBad2 p=false:=hb2
     iterate 7 refine G ?_
     exact loopJ_normal (k+1) agr ⟨rfl,trivial⟩ (fun w hw=>hw.tail) rfl ⟨by omega,any_next hp hall (by unfold pasBad;rw [hb',hb2'];rfl)⟩ (by show n -(k+1)<n -k;omega)
  ·have hend:k=n:=by simp at hlt;omega
   rw [hend,List.take_of_length_le (by omega)] at hall
   obtain ⟨ids,hids⟩: ∃ids:List Int,ids=ps.map (·.id):=⟨_,rfl⟩
   have hidl:ids.length=n:=by rw [hids,List.length_map,hl]
   have herr:pasErr ps=if twiceI (ids.take 0) (ids.drop 0)=true then 6 else 0:=by
    unfold pasErr
    rw [if_neg (by omega),hall,if_neg (by decide),←hids];rfl
   rw [herr]
   iterate 7 refine G ?_
   refine X_makeMap rfl fun bm=>?_
   refine xV (e_as (v:= .map _) (q0 rfl)) rfl rfl ?_
   iterate 11 refine G ?_
   refine H_loop [2,7,62,63,64,65,66,67,68,69,70,71,72,73] (fun k:Nat=>[(62, .int .i64 k)]) (fun k=>[imap bm (keysI (ids.take k))]) (fun k=>k≤n∧twiceI (ids.take 0) (ids.drop 0)=twiceI (ids.take k) (ids.drop k)) (fun k=>n -k) 0 ⟨rfl,trivial⟩ (fun _ h=>h) rfl ⟨Nat.zero_le _,rfl⟩ ?_
   rintro k g ⟨hk,hp⟩
   iterate 6 refine G ?_
   refine H_cond rfl ?_ ?_<;>intro hlt2
   ·have hlt2':k<n:=by simpa using hlt2
    obtain ⟨b,off,p,rfl,hbl,hpk,hrp⟩:=hx.at_ hlt2'
    have hik:ids[k]?=some p.id:=by rw [hids];simp [hpk]
    iterate 6 refine G ?_
    refine xV (e_idx _ Tryz.underlying26 Tryz.sizeOf155 (q0 rfl) (q0 rfl) (fun _=>⟨rfl,by omega⟩)) rfl rfl ?_
    refine G ?_
    refine X_alloc Tryz.zeroValue155 rfl fun b7=>?_
    refine X_st (v:= .agg _) rfl rfl Tryz.sizeOf155 ?_
    iterate 5 refine G ?_
    refine xV (e_mv (v:= .map _) (q0 rfl)) rfl rfl ?_
    iterate 2 refine G ?_
    refine xV (e_look 1 Tryz.underlying224 Tryz.underlying3 Tryz.zeroValue4 (q0 rfl) (q0 rfl) rfl (fun _=>look_keysI _ _)) rfl rfl ?_
    iterate 2 refine G ?_
    refine H_cond rfl ?_ ?_<;>intro h3
    ·iterate 12 refine G ?_
     exact ret1 (v:= .int _ _) rfl rfl rfl fun w' hw=>⟨ret_int (by rw [hp,twice_yes hik h3];rfl),hw.1⟩
    ·have hst:=twice_next hik h3
     iterate 3 refine G ?_
     refine xV (e_mv (v:= .map _) (q0 rfl)) rfl rfl ?_
     iterate 2 refine G ?_
     refine X_mapset 1 Tryz.underlying224 Tryz.underlying3 rfl rfl rfl rfl ?_
     iterate 7 refine G ?_
     refine loopJ_normal (k+1) agr ⟨rfl,trivial⟩ (fun w hw=>?_) rfl ⟨by omega,by rw [hp,hst]⟩ (by show n -(k+1)<n -k;omega)
     have:=hw.tail
     rw [snocT _ _ _ hik,←mput_keysI _ _ h3]
     exact this
   ·have hend2:k=n:=by simp at hlt2;omega
    have hfin:twiceI (ids.take 0) (ids.drop 0)=false:=by rw [hp,List.drop_of_length_le (by omega)];rfl
    rw [hfin]
    iterate 11 refine G ?_
    exact ret1 (v:= .int _ _) rfl rfl rfl fun w' hw=>⟨rfl,hw.1⟩
attribute [local irreducible] pasBad
end Go.Proofs.Far
