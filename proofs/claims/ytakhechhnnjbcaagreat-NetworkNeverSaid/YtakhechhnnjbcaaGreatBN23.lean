import Derived.Test.YtakhechhnnjbcaaGreatBN22
import Derived.Test.YtakhechhnnjbcaaGreatBN03
import Derived.Test.YtakhechhnnjbcaaGreatBN19
import Derived.Test.YtakhechhnnjbcaaGreatBN04
import Derived.Test.YtakhechhnnjbcaaGreatTy
set_option maxRecDepth 100000
set_option maxHeartbeats 8000000
set_option linter.unusedVariables false
set_option linter.unusedSimpArgs false
namespace Go.Proofs.Net
open Go Go.RowKit Go.Proofs.E Go.Proofs.Cus
def En.cells (e:En):List Value:=[.int .i64 e.pay.ride, .int .i64 e.pay.rider, .int .i64 e.pay.amount, .int .i64 e.state, .int .i64 e.tries]
abbrev enRow (A:Option Addr) (c:Nat) (l:List En):E.Item:=rowT 222 5 En.cells A c l
def psF (k:Nat):List En→List (Int×Value)
 |[]=>[]
 |e::l=>(e.pay.ride, .int .i64 k)::psF (k+1) l
def psD (l:List En):List (Int×Value):=psF 0 l
abbrev isR (r:Int) (x:En):Bool:=decide (x.pay.ride=r)
theorem mlook_psF (r:Int): ∀(l:List En) (k:Nat),mlook (psF k l) r=(l.findIdx? (isR r)).map fun i=> .int .i64 ((i+k:Nat):Int)
 |[],k=>rfl
 |e::l,k=>by
  have ih:=mlook_psF r l (k+1)
  by_cases h:e.pay.ride=r
  ·simp [mlook,psF,List.findIdx?_cons,isR,h]
  ·have h1:mlook (psF k (e::l)) r=mlook (psF (k+1) l) r:=by
    have:(e.pay.ride==r)=false:=by simpa using h
    simp only [mlook,psF,List.find?_cons,this]
   rw [h1,ih,List.findIdx?_cons]
   have:isR r e=false:=by simpa [isR] using h
   rw [this]
   cases l.findIdx? (isR r) with
   |none=>rfl
   |some i=>simp;omega
theorem mlook_psD (l:List En) (r:Int):mlook (psD l) r=(l.findIdx? (isR r)).map fun i=> .int .i64 (i:Int):=mlook_psF r l 0
theorem mput_psF (e:En): ∀(l:List En) (k:Nat),l.findIdx? (isR e.pay.ride)=none→mput (psF k l) e.pay.ride (.int .i64 ((l.length+k:Nat):Int))=psF k (l++[e])
 |[],k,_=>by simp [psF,mput]
 |x::l,k,h=>by
  rw [List.findIdx?_cons] at h
  split at h
  ·cases h
  ·rename_i hx
   have h2:l.findIdx? (isR e.pay.ride)=none:=by simpa using h
   have ih:=mput_psF e l (k+1) h2
   have:(x.pay.ride==e.pay.ride)=false:=by simpa [isR] using hx
   simp only [psF,List.cons_append,mput,this,List.length_cons]
   rw [show l.length+1+k=l.length+(k+1) by omega,ih]
   rfl
theorem mput_psD {l:List En} (e:En) (h:l.findIdx? (isR e.pay.ride)=none):mput (psD l) e.pay.ride (.int .i64 (l.length:Int))=psD (l++[e]):=mput_psF e l 0 h
theorem at_idx {l:List En} {r:Int} {i:Nat} (h:l.findIdx? (isR r)=some i):l[i]?=some (l.getD i default)∧i<l.length:=by
 obtain ⟨hi,_⟩:=List.findIdx?_eq_some_iff_getElem.1 h
 exact ⟨by rw [List.getD_eq_getElem?_getD,List.getElem?_eq_getElem hi];rfl,hi⟩
theorem psF_set (l:List En) (x y:En) (hy:y.pay.ride=x.pay.ride): ∀(k i:Nat),l[i]?=some x→psF k (l.set i y)=psF k l:=by
 induction l with
 |nil=>intro k i h;cases h
 |cons e l ih=>
  intro k i h
  cases i with
  |zero=>cases h;simp [psF,hy]
  |succ i=>simp only [List.set_cons_succ,psF];rw [ih (k+1) i h]
theorem psD_set {l:List En} {i:Nat} {x y:En} (h:l[i]?=some x) (hy:y.pay.ride=x.pay.ride):psD (l.set i y)=psD l:=psF_set l x y hy 0 i h
abbrev deskL (d m:Nat) (A:Option Addr) (c:Nat) (l:List En):List E.Item:=[box d 159 [.slice A l.length c, .map (some m)],enRow A c l,imap m (psD l)]
theorem fl222 {fs:Array Field} (h:Tryz.prog.underlying 222=some (.struct fs):=by exact Tryz.underlying222):FieldsLie Tryz.prog fs [(0,3),(3,1),(4,1)]:=by
 rw [Tryz.underlying222] at h
 cases h
 intro w
 kernel_rfl
theorem fl159 {fs:Array Field} (h:Tryz.prog.underlying 159=some (.struct fs):=by exact Tryz.underlying159):FieldsLie Tryz.prog fs [(0,1),(1,1)]:=by
 rw [Tryz.underlying159] at h
 cases h
 intro w
 kernel_rfl
theorem askR_eq (l:List En) (p:Py):askR l p=if rangedP p=false then (l,(1:Int)) else match l.findIdx? (isR p.ride) with
  |some i=>if (l.getD i default).pay=p then (l,0) else (l,21)
  |none=>if 256≤l.length then (l,8) else (l++[⟨p,0,0⟩],0):=rfl
theorem ask_w {d m:Nat} {A:Option Addr} {c:Nat} {l:List En} (p:Py) {w0 w:World} {L:List E.Item} (hL:marks L=[]) (hw:Mem w0 (deskL d m A c l++L) w) (hn:l.length≤256):Calls Tryz.prog 84 #[.pointer (some ⟨d,0,none⟩), .agg p.cells.toArray] w fun q w'=> ∃x:Option Addr×Nat,q= .returned (.int .i64 (askR l p).2)∧Mem w0 (deskL d m x.1 x.2 (askR l p).1++L) w':=by
 rw [askR_eq]
 refine H_enterM hw hL Tryz.func84 rfl Tryz.ntmps84 rfl ?_
 iterate 2 refine G ?_
 refine X_box (v:= .agg _) rfl rfl fun b3=>?_
 iterate 7 refine G ?_
 refine xV (e_eqNilP Tryz.underlying99 (q0 rfl)) rfl rfl ?_
 iterate 2 refine G ?_
 refine H_cond rfl ?_ ?_<;>intro hnil
 ·cases hnil
 ·iterate 6 refine G ?_
  refine xC (en Tryz.call133 (ha1 (q0 rfl))) (fun _ w _=>ranged_w p w) rfl rfl ?_
  iterate 3 refine G ?_
  refine H_cond rfl ?_ ?_<;>intro h1
  ·have h1':rangedP p=false:=by simpa using h1
   rw [if_pos h1']
   iterate 7 refine G ?_
   exact ret1 (v:= .int _ _) rfl rfl hL fun w' hw=>⟨(A,c),rfl,hw.tail⟩
  ·have h1': ¬rangedP p=false:=by simpa using h1
   rw [if_neg h1']
   iterate 4 refine G ?_
   cases hf:l.findIdx? (isR p.ride) with
   |some i=>
    obtain ⟨hx,hi⟩:=at_idx hf
    generalize hxe:l.getD i default=x at hx
    refine H_know (fun w hw=>rowT_at (j:=2) hw rfl (by omega)) fun ⟨eb,heb⟩=>?_
    subst heb
    refine R1 rfl (by decide+kernel) ?_
    iterate 6 refine G ?_
    refine xV (e_lookok (key:=p.ride) (u:= .int .i64 (i:Int)) (bb:=true) 3 Tryz.underlying156 Tryz.underlying3 Tryz.zeroValue3 (q0 rfl) (q0 rfl) rfl (fun _=>by rw [mlook_psD,hf];exact ⟨rfl,rfl⟩)) rfl rfl ?_
    iterate 12 refine G ?_
    refine H_cond rfl ?_ ?_<;>intro h3
    ·have _ht:True:=trivial
     iterate 2 refine G ?_
     refine R1 rfl (by decide+kernel) ?_
     iterate 5 refine G ?_
     refine xV (e_idx i Tryz.underlying157 Tryz.sizeOf222 (q0 rfl) (q0 rfl) (fun _=>⟨rfl,hi⟩)) rfl rfl ?_
     refine G ?_
     refine xV (eP Tryz.isAgg90 Tryz.sizeOf90 (q0 rfl) (rrp (p:=0) 2 rfl hx rfl)) rfl rfl ?_
     refine G ?_
     refine xV (e_neS (eqPy x.pay p) (by kernel_rfl) (q0 rfl) (q0 rfl)) rfl rfl ?_
     iterate 2 refine G ?_
     refine H_cond rfl ?_ ?_<;>intro h4
     ·have h4': ¬x.pay=p:=by simpa using h4
      iterate 8 refine G ?_
      exact ret1 (v:= .int _ _) rfl rfl hL fun w' hw=>⟨(some ⟨eb,0,none⟩,c),by simp only [hxe];rw [if_neg h4'],by simp only [hxe];rw [if_neg h4'];exact hw.tail⟩
     ·have h4':x.pay=p:=by simpa using h4
      iterate 9 refine G ?_
      exact ret1 (v:= .int _ _) rfl rfl hL fun w' hw=>⟨(some ⟨eb,0,none⟩,c),by simp only [hxe];rw [if_pos h4'],by simp only [hxe];rw [if_pos h4'];exact hw.tail⟩
    ·cases h3
   |none=>
    refine R1 rfl (by decide+kernel) ?_
    iterate 6 refine G ?_
    refine xV (e_lookok (key:=p.ride) (bb:=false) 3 Tryz.underlying156 Tryz.underlying3 Tryz.zeroValue3 (q0 rfl) (q0 rfl) rfl (fun _=>by rw [mlook_psD,hf];exact ⟨rfl,rfl⟩)) rfl rfl ?_
    iterate 12 refine G ?_
    refine H_cond rfl ?_ ?_<;>intro h3
    ·cases h3
    ·have _ht:True:=trivial
     iterate 13 refine G ?_
     refine H_cond rfl ?_ ?_<;>intro h4
     ·have h4':256≤l.length:=by simp at h4;omega
      iterate 7 refine G ?_
      exact ret1 (v:= .int _ _) rfl rfl hL fun w' hw=>⟨(A,c),by simp only;rw [if_pos h4'],by simp only;rw [if_pos h4'];exact hw.tail⟩
     ·have h4': ¬256≤l.length:=by simp at h4;omega
      iterate 3 refine G ?_
      refine E.RT rfl rfl (by decide+kernel) ?_
      iterate 13 refine G ?_
      refine X_mapset (key:=p.ride) (v:= .int .i64 (l.length:Int)) 3 Tryz.underlying156 Tryz.underlying3 rfl rfl rfl rfl ?_
      iterate 3 refine G ?_
      refine H_mem (L':=box d 159 [.slice A l.length c, .map (some m)]::enRow A c l::box b3 90 p.cells::imap m (psD (l++[⟨p,0,0⟩]))::L) (fun w hw=>by
       have h:Mem w0 (box b3 90 p.cells::box d 159 [.slice A l.length c, .map (some m)]::enRow A c l::imap m (mput (psD l) p.ride (.int .i64 (l.length:Int)))::L) w:=hw
       rw [show p.ride=(⟨p,0,0⟩:En).pay.ride from rfl,mput_psD _ hf] at h
       exact h.pickN 3 [1,2,0] (by decide) (by decide)) rfl ?_
      refine H_cut [50,51,52,53,54,55,56,57,58,59,60] (fun x:Option Addr×Nat=>[]) (fun x=>box d 159 [.slice x.1 (l++[(⟨p,0,0⟩:En)]).length x.2, .map (some m)]::enRow x.1 x.2 (l++[⟨p,0,0⟩])::box b3 90 p.cells::imap m (psD (l++[⟨p,0,0⟩]))::L) (fun _=>True) ?_ ?_
      ·refine RAd 2 rfl (by decide+kernel) ?_
       refine aW 0 ?_
       refine aW 1 ?_
       refine aW 2 ?_
       refine aW 3 ?_
       refine aW 5 ?_
       refine aV 6 (by decide+kernel) rfl (e_build Tryz.underlying222 fl222 Tryz.zeroValue222 (pt (v:= .agg _) rfl E.p0) rfl) rfl ?_
       refine rdy2 (i:=4) (j:=7) (by decide+kernel) (sub_drop 2) ?_ ?_
       ·refine aL rfl (f_ev (e_ld (v:= .slice A l.length c) Tryz.isAgg157 (q0 rfl) cb) rfl rfl ?_)
        refine r1 7 2 ?_
        refine aL rfl (f_slit [(.int .i64 0),(.int .i64 0),(.int .i64 0),(.int .i64 0),(.int .i64 0)] Tryz.underlying157 Tryz.sizeOf222 Tryz.zeroValue222 rfl (by kernel_rfl) (pt (v:= .agg _) rfl E.p0) rfl rfl fun b57=>?_)
        refine r1 8 3 ?_
        refine aL rfl (f_append (k:=5) (i:=Tryz.t222) (enc:=En.cells) 2 Tryz.underlying157 (by kernel_rfl) rfl rfl rfl rfl (fun _=>rfl) (fun _=>rfl) rfl rfl rfl (fun w hw=>slAt_box (xs:=[(⟨p,0,0⟩:En)]) hw (j:=0) rfl (fun _=>rfl) (by simp)) ⟨by simp;omega,by decide⟩ rfl fun A2 c2=>?_)
        refine aW 9 ?_
        refine aW 10 ?_
        refine r1 11 3 ?_
        refine aL rfl (f_st (v:= .slice _ _ _) rfl rfl Tryz.sizeOf157 ?_)
        refine aZ (by decide+kernel) (sub_drop 3) ?_
        exact cutJ_normal ((A2,c2):Option Addr×Nat) agr trivial (fun w hw=>hw.tail) rfl trivial
       ·refine aL rfl (f_slit [(.int .i64 0),(.int .i64 0),(.int .i64 0),(.int .i64 0),(.int .i64 0)] Tryz.underlying157 Tryz.sizeOf222 Tryz.zeroValue222 rfl (by kernel_rfl) (pt (v:= .agg _) rfl E.p0) rfl rfl fun b57=>?_)
        refine r1 4 3 ?_
        refine aL rfl (f_ev (e_ld (v:= .slice A l.length c) Tryz.isAgg157 (q0 rfl) cb) rfl rfl ?_)
        refine r1 8 3 ?_
        refine aL rfl (f_append (k:=5) (i:=Tryz.t222) (enc:=En.cells) 2 Tryz.underlying157 (by kernel_rfl) rfl rfl rfl rfl (fun _=>rfl) (fun _=>rfl) rfl rfl rfl (fun w hw=>slAt_box (xs:=[(⟨p,0,0⟩:En)]) hw (j:=0) rfl (fun _=>rfl) (by simp)) ⟨by simp;omega,by decide⟩ rfl fun A2 c2=>?_)
        refine aW 9 ?_
        refine aW 10 ?_
        refine r1 11 3 ?_
        refine aL rfl (f_st (v:= .slice _ _ _) rfl rfl Tryz.sizeOf157 ?_)
        refine aZ (by decide+kernel) (sub_drop 3) ?_
        exact cutJ_normal ((A2,c2):Option Addr×Nat) agr trivial (fun w hw=>hw.tail) rfl trivial
      ·rintro ⟨A2,c2⟩ g _
       iterate 7 refine G ?_
       exact ret1 (v:= .int _ _) rfl rfl hL fun w' hw=>⟨(A2,c2),by simp only;rw [if_neg h4'],by simp only;rw [if_neg h4'];exact hw.pickN 4 [0,1,3] (by decide) (by decide)⟩
end Go.Proofs.Net
namespace Go.Proofs.Net
open Go Go.RowKit Go.Proofs.E Go.Proofs.Cus
theorem best_bd (l:List En): ∀k,-1≤bestR l k∧bestR l k<(k:Int)
 |0=>by simp [bestR]
 |k+1=>by
  have ih:=best_bd l k
  unfold bestR
  split
  ·omega
  ·split<;>omega
theorem best_go {l:List En} {k:Nat} {x:En} (hx:l[k]?=some x):bestR l (k+1)=if x.state=0∧(bestR l k<0∨x.tries<(l.getD (bestR l k).toNat default).tries) then (k:Int) else bestR l k:=by
 rw [bestR,hx]
def nextP (l:List En):Py×Bool:=match nextR l with
 |none=>(⟨0,0,0⟩,false)
 |some i=>((l.getD i default).pay,true)
theorem at_get {α:Type} [Inhabited α] {l:List α} {i:Nat} (h:i<l.length):l[i]?=some (l.getD i default):=by
 rw [List.getD_eq_getElem?_getD,List.getElem?_eq_getElem h];rfl
theorem next_w {d m:Nat} {A:Option Addr} {c:Nat} {l:List En} {w0 w:World} {L:List E.Item} (hL:marks L=[]) (hw:Mem w0 (deskL d m A c l++L) w) (hn:l.length≤256):Calls Tryz.prog 85 #[.pointer (some ⟨d,0,none⟩)] w fun q w'=> ∃_x:Unit,q= .returned (.tuple #[.agg (nextP l).1.cells.toArray, .bool (nextP l).2])∧Mem w0 (deskL d m A c l++L) w':=by
 refine H_enterM hw hL Tryz.func85 rfl Tryz.ntmps85 rfl ?_
 refine H_seq ?_
 refine R0 ?_
 refine X_alloc Tryz.zeroValue90 rfl fun b2=>?_
 refine xV (e_as (v:= .bool _) (q0 rfl)) rfl rfl ?_
 refine XN ?_
 refine thenJ_normal ?_
 refine H_seq ?_
 refine R0 ?_
 refine xV (e_as (v:= .int _ _) (q0 rfl)) rfl rfl ?_
 refine XN ?_
 refine thenJ_normal ?_
 refine H_seq ?_
 refine H_seq ?_
 refine R0 ?_
 refine xV (e_as (v:= .int _ _) (q0 rfl)) rfl rfl ?_
 refine XN ?_
 refine thenJ_normal ?_
 refine H_block ?_
 refine H_loop [4,5,6,7,8,9,10,11,12,13,14,15,16,17,18,19,20,21,22,23,24,25,26,27,28,29,30,31,32,33,34,35,36,37,38,39,40,41,42,43,44,45,46,47,48,49,50,51] (fun i:Nat=>[(5, .int .i64 i),(4, .int .i64 (bestR l i))]) (fun _=>box b2 90 (Py.cells ⟨0,0,0⟩)::deskL d m A c l++L) (fun i=>i≤l.length) (fun i=>l.length -i) 0 ⟨rfl,rfl,trivial⟩ (fun w hw=>hw) rfl (Nat.zero_le _) ?_
 rintro i g hi
 have hbd:=best_bd l i
 refine H_seq ?_
 refine H_seq ?_
 refine R0 ?_
 refine xV (e_mv (v:= .pointer _) (q0 rfl)) rfl rfl ?_
 refine xV (e_neNilP Tryz.underlying99 (q0 rfl)) rfl rfl ?_
 refine xV (e_mv (v:= .bool _) (q0 rfl)) rfl rfl ?_
 refine xVT (e_mv (v:= .int _ _) (q0 rfl)) rfl rfl rfl rfl ?_
 refine xVT (e_mv (v:= .pointer _) (q0 rfl)) rfl rfl rfl rfl ?_
 refine xVT (e_nilc (q1 rfl)) rfl rfl rfl rfl ?_
 refine xVT (e_fld Tryz.underlying159 rfl Tryz.sizeOf157 rfl (q1 rfl)) rfl rfl rfl rfl ?_
 refine xVT (eL Tryz.isAgg157 (q1 rfl)) rfl rfl rfl rfl ?_
 refine xVT (e_len Tryz.underlying157 (q1 rfl)) rfl rfl rfl rfl ?_
 refine xVT (e_lt (q1 rfl) (q1 rfl)) rfl rfl rfl rfl ?_
 refine xV (e_and (q0 rfl) rfl (fun h=>by first|rfl|(rw [h];rfl))) rfl rfl ?_
 refine XN ?_
 refine thenJ_normal ?_
 refine H_cond rfl (fun hlt=>?_) (fun hlt=>?_)
 ·have hlt':i<l.length:=by simpa using hlt
  have hx:=at_get hlt'
  have hgo:=best_go hx
  generalize l.getD i default=x at hx hgo
  have hy:0≤bestR l i→l[(bestR l i).toNat]?=some (l.getD (bestR l i).toNat default):=fun h=>at_get (by omega)
  generalize l.getD (bestR l i).toNat default=y at hgo hy
  refine H_know (fun w hw=>rowT_at (j:=2) hw rfl (by omega)) fun ⟨eb,heb⟩=>?_
  subst heb
  refine H_skip ?_
  refine thenJ_normal ?_
  refine H_seq ?_
  refine H_block ?_
  refine H_seq ?_
  refine R1 rfl (by decide+kernel) ?_
  refine xV (e_mv (v:= .pointer _) (q0 rfl)) rfl rfl ?_
  refine xV (e_nilc (q0 rfl)) rfl rfl ?_
  refine xV (e_fld Tryz.underlying159 rfl Tryz.sizeOf157 rfl (q0 rfl)) rfl rfl ?_
  refine xV (eL Tryz.isAgg157 (q0 rfl)) rfl rfl ?_
  refine xV (e_mv (v:= .int _ _) (q0 rfl)) rfl rfl ?_
  refine xV (e_idx _ Tryz.underlying157 Tryz.sizeOf222 (q0 rfl) (q0 rfl) (fun _=>⟨rfl,by omega⟩)) rfl rfl ?_
  refine xV (e_fld Tryz.underlying222 rfl Tryz.sizeOf162 rfl (q0 rfl)) rfl rfl ?_
  refine xV (eL Tryz.isAgg162 (q0 rfl) (rr 2 rfl hx rfl)) rfl rfl ?_
  refine xV (e_eq (q0 rfl) (q0 rfl)) rfl rfl ?_
  refine xV (e_mv (v:= .bool _) (q0 rfl)) rfl rfl ?_
  refine xVT (e_mv (v:= .int _ _) (q0 rfl)) rfl rfl rfl rfl ?_
  refine xVT (e_lt (q1 rfl) (q0 rfl)) rfl rfl rfl rfl ?_
  refine xVT (e_mv (v:= .bool _) (q1 rfl)) rfl rfl rfl rfl ?_
  refine xVF2 (e_mv (v:= .pointer _) (q0 rfl)) rfl rfl rfl rfl ?_
  refine xVF2 (e_nilc (q1 rfl)) rfl rfl rfl rfl ?_
  refine xVF2 (e_fld Tryz.underlying159 rfl Tryz.sizeOf157 rfl (q1 rfl)) rfl rfl rfl rfl ?_
  refine xVF2 (eL Tryz.isAgg157 (q1 rfl)) rfl rfl rfl rfl ?_
  refine xVF2 (e_mv (v:= .int _ _) (q0 rfl)) rfl rfl rfl rfl ?_
  refine xVF2 (e_idx _ Tryz.underlying157 Tryz.sizeOf222 (q1 rfl) (q1 rfl) (fun _=>⟨rfl,by omega⟩)) rfl rfl rfl rfl ?_
  refine xVF2 (e_fld Tryz.underlying222 rfl Tryz.sizeOf3 rfl (q1 rfl)) rfl rfl rfl rfl ?_
  refine xVF2 (eL Tryz.isAgg3 (q1 rfl) (rr 2 rfl hx rfl)) rfl rfl rfl rfl ?_
  refine xVF2 (e_mv (v:= .pointer _) (q0 rfl)) rfl rfl rfl rfl ?_
  refine xVF2 (e_nilc (q1 rfl)) rfl rfl rfl rfl ?_
  refine xVF2 (e_fld Tryz.underlying159 rfl Tryz.sizeOf157 rfl (q1 rfl)) rfl rfl rfl rfl ?_
  refine xVF2 (eL Tryz.isAgg157 (q1 rfl)) rfl rfl rfl rfl ?_
  refine xVF2 (e_mv (v:= .int _ _) (q0 rfl)) rfl rfl rfl rfl ?_
  refine xVF2 (e_idx (bestR l i).toNat Tryz.underlying157 Tryz.sizeOf222 (q1 rfl) (q1 rfl) (fun h=>by simp at h;exact ⟨by omega,by omega⟩)) rfl rfl rfl rfl ?_
  refine xVF2 (e_fld Tryz.underlying222 rfl Tryz.sizeOf3 rfl (q1 rfl)) rfl rfl rfl rfl ?_
  refine xVF2 (eL Tryz.isAgg3 (q1 rfl) (fun h w hw=>(rr (g:=true) 2 rfl (hy (by simp at h;omega)) rfl) rfl w hw)) rfl rfl rfl rfl ?_
  refine xVF2 (e_lt (q1 rfl) (q1 rfl)) rfl rfl rfl rfl ?_
  refine xVT (e_or (q1 rfl) rfl (fun h=>by first|rfl|(rw [h];rfl))) rfl rfl rfl rfl ?_
  refine xV (e_and (q0 rfl) rfl (fun h=>by first|rfl|(rw [h];rfl))) rfl rfl ?_
  refine XN ?_
  refine thenJ_normal ?_
  refine H_cond rfl (fun hb=>?_) (fun hb=>?_)
  ·have hb':x.state=0∧(bestR l i<0∨x.tries<y.tries):=by simpa using hb
   rw [if_pos hb'] at hgo
   refine R0 ?_
   refine xV (e_mv (v:= .int _ _) (q0 rfl)) rfl rfl ?_
   refine xV (e_as (v:= .int _ _) (q0 rfl)) rfl rfl ?_
   refine XN ?_
   refine blockJ_normal ?_
   refine thenJ_normal ?_
   refine R0 ?_
   refine xV (e_mv (v:= .int _ _) (q0 rfl)) rfl rfl ?_
   refine xV (e_add (q0 rfl) (q0 rfl) (fun _=>⟨rfl,by omega,by omega⟩)) rfl rfl ?_
   refine xV (e_as (v:= .int _ _) (q0 rfl)) rfl rfl ?_
   refine XN ?_
   exact loopJ_normal (i+1) (by repeat (first|exact agree_self|exact agree_over|refine agree_upd rfl ?_|refine agree_updL rfl ?_|refine agree_over2 rfl ?_)) ⟨rfl,by rw [hgo];rfl,trivial⟩ (fun w hw=>hw) rfl (by omega) (by show l.length -(i+1)<l.length -i;omega)
  ·have hb': ¬(x.state=0∧(bestR l i<0∨x.tries<y.tries)):=by simpa using hb
   rw [if_neg hb'] at hgo
   refine H_skip ?_
   refine blockJ_normal ?_
   refine thenJ_normal ?_
   refine R0 ?_
   refine xV (e_mv (v:= .int _ _) (q0 rfl)) rfl rfl ?_
   refine xV (e_add (q0 rfl) (q0 rfl) (fun _=>⟨rfl,by omega,by omega⟩)) rfl rfl ?_
   refine xV (e_as (v:= .int _ _) (q0 rfl)) rfl rfl ?_
   refine XN ?_
   exact loopJ_normal (i+1) (by repeat (first|exact agree_self|exact agree_over|refine agree_upd rfl ?_|refine agree_updL rfl ?_|refine agree_over2 rfl ?_)) ⟨rfl,by rw [hgo];rfl,trivial⟩ (fun w hw=>hw) rfl (by omega) (by show l.length -(i+1)<l.length -i;omega)
 ·have hie:i=l.length:=by simp at hlt;omega
  subst hie
  refine H_exit ?_
  refine thenJ_exit ?_
  refine loopJ_exit ?_
  refine blockJ_hit ?_
  refine thenJ_normal ?_
  refine H_seq ?_
  refine H_seq ?_
  refine R0 ?_
  refine xV (e_mv (v:= .int _ _) (q0 rfl)) rfl rfl ?_
  refine xV (e_lt (q0 rfl) (q0 rfl)) rfl rfl ?_
  refine XN ?_
  refine thenJ_normal ?_
  refine H_cond rfl (fun hb=>?_) (fun hb=>?_)
  ·have hb':bestR l l.length<0:=by simpa using hb
   have hnx:nextP l=(⟨0,0,0⟩,false):=by unfold nextP nextR;rw [if_pos hb']
   rw [hnx]
   refine H_seq ?_
   refine R0 ?_
   refine xV (e_build Tryz.underlying90 fl90 Tryz.zeroValue90 E.p0 rfl) rfl rfl ?_
   refine X_st (v:= .agg _) rfl rfl Tryz.sizeOf90 ?_
   refine xV (e_as (v:= .bool _) (q0 rfl)) rfl rfl ?_
   refine XN ?_
   refine thenJ_normal ?_
   refine H_ret ?_
   refine thenJ_ret ?_
   exact ret_of (by exact hL) (resCt 0 rfl rfl rfl Tryz.isAgg90 Tryz.sizeOf90 rfl rfl) fun w' hw=>⟨(),rfl,hw.tail⟩
  ·have hb': ¬bestR l l.length<0:=by simpa using hb
   have hx:=at_get (l:=l) (i:=(bestR l l.length).toNat) (by omega)
   have hnx:nextP l=((l.getD (bestR l l.length).toNat default).pay,true):=by unfold nextP nextR;rw [if_neg hb']
   rw [hnx]
   generalize l.getD (bestR l l.length).toNat default=x at hx
   refine H_know (fun w hw=>rowT_at (j:=2) hw rfl (by omega)) fun ⟨eb,heb⟩=>?_
   subst heb
   refine H_skip ?_
   refine thenJ_normal ?_
   refine H_seq ?_
   refine R0 ?_
   refine xV (e_mv (v:= .pointer _) (q0 rfl)) rfl rfl ?_
   refine xV (e_nilc (q0 rfl)) rfl rfl ?_
   refine xV (e_fld Tryz.underlying159 rfl Tryz.sizeOf157 rfl (q0 rfl)) rfl rfl ?_
   refine xV (eL Tryz.isAgg157 (q0 rfl)) rfl rfl ?_
   refine xV (e_mv (v:= .int _ _) (q0 rfl)) rfl rfl ?_
   refine xV (e_idx (bestR l l.length).toNat Tryz.underlying157 Tryz.sizeOf222 (q0 rfl) (q0 rfl) (fun _=>⟨by omega,by omega⟩)) rfl rfl ?_
   refine xV (e_fld Tryz.underlying222 rfl Tryz.sizeOf90 rfl (q0 rfl)) rfl rfl ?_
   refine xV (eP Tryz.isAgg90 Tryz.sizeOf90 (q0 rfl) (rrp (p:=0) 2 rfl hx rfl)) rfl rfl ?_
   refine X_st (v:= .agg _) rfl rfl Tryz.sizeOf90 ?_
   refine xV (e_as (v:= .bool _) (q0 rfl)) rfl rfl ?_
   refine XN ?_
   refine thenJ_normal ?_
   refine H_ret ?_
   exact ret_of (by exact hL) (resCt 0 rfl rfl rfl Tryz.isAgg90 Tryz.sizeOf90 rfl rfl) fun w' hw=>⟨(),rfl,hw.tail⟩
theorem those_go {l:List En} {s:Int} {i:Nat} {x:En} (h:l[i]?=some x):thoseR (l.take (i+1)) s=thoseR (l.take i) s++if x.state=s then [x.pay] else []:=by
 unfold thoseR
 rw [snocL l i x h,List.filter_append,List.map_append]
 congr 1
 by_cases hs:x.state=s<;>simp [hs]
theorem those_w (s:Int) {d m:Nat} {A:Option Addr} {c:Nat} {l:List En} {w0 w:World} {L:List E.Item} (hL:marks L=[]) (hw:Mem w0 (deskL d m A c l++L) w) (hn:l.length≤256):Calls Tryz.prog 83 #[.pointer (some ⟨d,0,none⟩), .int .i64 s] w fun q w'=> ∃x:Option Addr×Nat,q= .returned (.slice x.1 (thoseR l s).length x.2)∧Mem w0 (pyRow x.1 x.2 (thoseR l s)::deskL d m A c l++L) w':=by
 refine H_enterM hw hL Tryz.func83 rfl Tryz.ntmps83 rfl ?_
 iterate 17 refine G ?_
 refine H_loop [5,6,7,8,9,10,11,12,13,14,15,16,17,18,19,20,21,22,23,24,25,26,27,28,29,30,31,32,33,34,35,36,37,38,39,40] (fun t:Nat×Option Addr×Nat=>[(6, .int .i64 t.1),(5, .slice t.2.1 (thoseR (l.take t.1) s).length t.2.2)]) (fun t=>pyRow t.2.1 t.2.2 (thoseR (l.take t.1) s)::deskL d m A c l++L) (fun t=>t.1≤l.length∧(thoseR (l.take t.1) s).length≤t.1) (fun t=>l.length -t.1) (0,none,0) ⟨rfl,rfl,trivial⟩ (fun w hw=>hw.nilRow _ _ _ rfl) rfl ⟨Nat.zero_le _,Nat.le_refl _⟩ ?_
 rintro ⟨i,A2,c2⟩ g ⟨hi,hlen⟩
 have hi:i≤l.length:=hi
 have hlen:(thoseR (l.take i) s).length≤i:=hlen
 iterate 4 refine G ?_
 refine xV (e_neNilP Tryz.underlying99 (q0 rfl)) rfl rfl ?_
 iterate 11 refine G ?_
 refine H_cond rfl ?_ ?_<;>intro hlt
 ·have hlt':i<l.length:=by simpa using hlt
  have hx:=at_get hlt'
  generalize l.getD i default=x at hx
  have hgo:=those_go (s:=s) hx
  refine H_know (fun w hw=>rowT_at (j:=2) hw rfl (by omega)) fun ⟨eb,heb⟩=>?_
  subst heb
  iterate 11 refine G ?_
  refine xV (e_idx _ Tryz.underlying157 Tryz.sizeOf222 (q0 rfl) (q0 rfl) (fun _=>⟨rfl,by omega⟩)) rfl rfl ?_
  refine G ?_
  refine xV (eL Tryz.isAgg162 (q0 rfl) (rr 2 rfl hx rfl)) rfl rfl ?_
  iterate 4 refine G ?_
  refine H_cond rfl ?_ ?_<;>intro hb
  ·have hb':x.state=s:=by simpa using hb
   rw [if_pos hb'] at hgo
   iterate 7 refine G ?_
   refine xV (e_idx _ Tryz.underlying157 Tryz.sizeOf222 (q0 rfl) (q0 rfl) (fun _=>⟨rfl,by omega⟩)) rfl rfl ?_
   refine G ?_
   refine xV (eP Tryz.isAgg90 Tryz.sizeOf90 (q0 rfl) (rrp (p:=0) 2 rfl hx rfl)) rfl rfl ?_
   refine X_push (k:=3) (i:=Tryz.t90) 0 (x.pay) Tryz.underlying40 (by kernel_rfl) rfl rfl rfl rfl Tryz.sizeOf90 Tryz.zeroValue90 rfl rfl rfl rfl rfl rfl ⟨by show (thoseR (l.take i) s).length+1≤1000000;omega,by decide⟩ rfl rfl fun B A3 c3=>?_
   iterate 9 refine G ?_
   exact loopJ_normal (i+1,A3,c3) agr ⟨rfl,by show _=Value.slice A3 (thoseR (l.take (i+1)) s).length c3;rw [hgo];rfl,trivial⟩ (fun w hw=>by show Mem _ (pyRow A3 c3 (thoseR (l.take (i+1)) s)::_) w;rw [hgo];exact hw) rfl ⟨by show i+1≤l.length;omega,by show (thoseR (l.take (i+1)) s).length≤i+1;rw [hgo];simp;omega⟩ (by show l.length -(i+1)<l.length -i;omega)
  ·have hb': ¬x.state=s:=by simpa using hb
   rw [if_neg hb',List.append_nil] at hgo
   iterate 8 refine G ?_
   exact loopJ_normal (i+1,A2,c2) agr ⟨rfl,by show _=Value.slice A2 (thoseR (l.take (i+1)) s).length c2;rw [hgo];rfl,trivial⟩ (fun w hw=>by show Mem _ (pyRow A2 c2 (thoseR (l.take (i+1)) s)::_) w;rw [hgo];exact hw) rfl ⟨by show i+1≤l.length;omega,by show (thoseR (l.take (i+1)) s).length≤i+1;rw [hgo];omega⟩ (by show l.length -(i+1)<l.length -i;omega)
 ·have hie:i=l.length:=by simp at hlt;omega
  subst hie
  iterate 12 refine G ?_
  exact ret1 (v:= .slice _ _ _) rfl rfl hL fun w' hw=>⟨(A2,c2),by rw [List.take_length],by rw [List.take_length] at hw;exact hw⟩
theorem open_w {d m:Nat} {A:Option Addr} {c:Nat} {l:List En} {w0 w:World} {L:List E.Item} (hL:marks L=[]) (hw:Mem w0 (deskL d m A c l++L) w) (hn:l.length≤256):Calls Tryz.prog 41 #[.pointer (some ⟨d,0,none⟩)] w fun q w'=> ∃x:Option Addr×Nat,q= .returned (.slice x.1 (openR l).length x.2)∧Mem w0 (pyRow x.1 x.2 (openR l)::deskL d m A c l++L) w':=by
 refine H_enterM hw hL Tryz.func41 rfl Tryz.ntmps41 rfl ?_
 iterate 8 refine G ?_
 refine X_eff (f_callM (en Tryz.call83 (ha2 (q0 rfl) (q0 rfl))) (fun w hw=>those_w 0 hL hw hn) rfl (fun _=>rfl) fun x=>?_)
 obtain ⟨A2,c2⟩:=x
 iterate 4 refine G ?_
 exact ret1 (v:= .slice _ _ _) rfl rfl hL fun w' hw=>⟨(A2,c2),rfl,hw⟩
theorem answR_eq (l:List En) (r e:Int):answR l r e=match l.findIdx? (isR r) with
  |none=>(l,(7:Int))
  |some i=>if (l.getD i default).state≠0 then (l,12) else (l.set i {l.getD i default with tries:=(l.getD i default).tries+1,state:=if e=0 then 1 else if e=21 then 2 else 0},0):=rfl
theorem set_get {α:Type} {l:List α} {i:Nat} {x:α} (y:α) (h:l[i]?=some x):(l.set i y)[i]?=some y:=List.getElem?_set_self (List.getElem?_eq_some_iff.1 h).1
theorem answer_w (r e:Int) {d m:Nat} {A:Option Addr} {c:Nat} {l:List En} {w0 w:World} {L:List E.Item} (hL:marks L=[]) (hw:Mem w0 (deskL d m A c l++L) w) (ht: ∀x∈l,0≤x.tries∧x.tries≤1000000):Calls Tryz.prog 86 #[.pointer (some ⟨d,0,none⟩), .int .i64 r, .int .i64 e] w fun q w'=> ∃_x:Unit,q= .returned (.int .i64 (answR l r e).2)∧Mem w0 (deskL d m A c (answR l r e).1++L) w':=by
 rw [answR_eq]
 refine H_enterM hw hL Tryz.func86 rfl Tryz.ntmps86 rfl ?_
 iterate 9 refine G ?_
 refine xV (e_eqNilP Tryz.underlying99 (q0 rfl)) rfl rfl ?_
 iterate 2 refine G ?_
 refine H_cond rfl ?_ ?_<;>intro hnil
 ·cases hnil
 ·have _ht:True:=trivial
  iterate 3 refine G ?_
  cases hf:l.findIdx? (isR r) with
  |none=>
   iterate 6 refine G ?_
   refine xV (e_lookok (key:=r) (bb:=false) 2 Tryz.underlying156 Tryz.underlying3 Tryz.zeroValue3 (q0 rfl) (q0 rfl) rfl (fun _=>by rw [mlook_psD,hf];exact ⟨rfl,rfl⟩)) rfl rfl ?_
   iterate 14 refine G ?_
   refine H_cond rfl ?_ ?_<;>intro h1
   ·iterate 7 refine G ?_
    exact ret1 (v:= .int _ _) rfl rfl hL fun w' hw=>⟨(),rfl,hw⟩
   ·cases h1
  |some i=>
   obtain ⟨hx,hi⟩:=at_idx hf
   simp only
   generalize l.getD i default=x at hx⊢
   have htx:=ht x (List.mem_of_getElem? hx)
   refine H_know (fun w hw=>rowT_at (j:=1) hw rfl (by omega)) fun ⟨eb,heb⟩=>?_
   subst heb
   iterate 6 refine G ?_
   refine xV (e_lookok (key:=r) (u:= .int .i64 (i:Int)) (bb:=true) 2 Tryz.underlying156 Tryz.underlying3 Tryz.zeroValue3 (q0 rfl) (q0 rfl) rfl (fun _=>by rw [mlook_psD,hf];exact ⟨rfl,rfl⟩)) rfl rfl ?_
   iterate 14 refine G ?_
   refine H_cond rfl ?_ ?_<;>intro h1
   ·cases h1
   ·have _ht:True:=trivial
    iterate 9 refine G ?_
    refine xV (e_idx i Tryz.underlying157 Tryz.sizeOf222 (q0 rfl) (q0 rfl) (fun _=>⟨rfl,hi⟩)) rfl rfl ?_
    iterate 9 refine G ?_
    refine xV (eL Tryz.isAgg162 (q0 rfl) (rr 1 rfl hx rfl)) rfl rfl ?_
    iterate 3 refine G ?_
    refine H_cond rfl ?_ ?_<;>intro h2
    ·have h2':x.state≠0:=by simpa using h2
     rw [if_pos h2']
     iterate 7 refine G ?_
     exact ret1 (v:= .int _ _) rfl rfl hL fun w' hw=>⟨(),rfl,hw⟩
    ·have h2': ¬x.state≠0:=by simpa using h2
     have h20:x.state=0:=by simpa using h2
     rw [if_neg h2']
     have hx1:=set_get {x with tries:=x.tries+1} hx
     iterate 7 refine G ?_
     refine xV (eL Tryz.isAgg3 (q0 rfl) (rr 1 rfl hx rfl)) rfl rfl ?_
     iterate 3 refine G ?_
     refine X_eff (f_storeR 1 (off:=4) {x with tries:=x.tries+1} rfl rfl Tryz.sizeOf3 rfl rfl rfl hx rfl rfl ?_)
     iterate 15 refine G ?_
     refine H_cond rfl ?_ ?_<;>intro h3
     ·have h3':e=0:=by simpa using h3
      iterate 4 refine G ?_
      refine X_eff (f_storeR 1 (off:=3) {x with tries:=x.tries+1,state:=1} rfl rfl Tryz.sizeOf162 rfl rfl rfl hx1 rfl rfl ?_)
      iterate 9 refine G ?_
      exact ret1 (v:= .int _ _) rfl rfl hL fun w' hw=>⟨(),rfl,by
       rw [if_pos h3']
       have h:Mem w0 (box d 159 [.slice (some ⟨eb,0,none⟩) l.length c, .map (some m)]::enRow (some ⟨eb,0,none⟩) c ((l.set i {x with tries:=x.tries+1}).set i {x with tries:=x.tries+1,state:=1})::imap m (psD l)::L) w':=hw
       rw [List.set_set] at h
       show Mem w0 (box d 159 [.slice (some ⟨eb,0,none⟩) (l.set i _).length c, .map (some m)]::enRow (some ⟨eb,0,none⟩) c (l.set i _)::imap m (psD (l.set i _))::L) w'
       rw [List.length_set,psD_set (y:={x with tries:=x.tries+1,state:=1}) hx rfl]
       exact h⟩
     ·have h3': ¬e=0:=by simpa using h3
      iterate 6 refine G ?_
      refine H_cond rfl ?_ ?_<;>intro h4
      ·have h4':e=21:=by simpa using h4
       iterate 4 refine G ?_
       refine X_eff (f_storeR 1 (off:=3) {x with tries:=x.tries+1,state:=2} rfl rfl Tryz.sizeOf162 rfl rfl rfl hx1 rfl rfl ?_)
       iterate 9 refine G ?_
       exact ret1 (v:= .int _ _) rfl rfl hL fun w' hw=>⟨(),rfl,by
        rw [if_neg h3',if_pos h4']
        have h:Mem w0 (box d 159 [.slice (some ⟨eb,0,none⟩) l.length c, .map (some m)]::enRow (some ⟨eb,0,none⟩) c ((l.set i {x with tries:=x.tries+1}).set i {x with tries:=x.tries+1,state:=2})::imap m (psD l)::L) w':=hw
        rw [List.set_set] at h
        show Mem w0 (box d 159 [.slice (some ⟨eb,0,none⟩) (l.set i _).length c, .map (some m)]::enRow (some ⟨eb,0,none⟩) c (l.set i _)::imap m (psD (l.set i _))::L) w'
        rw [List.length_set,psD_set (y:={x with tries:=x.tries+1,state:=2}) hx rfl]
        exact h⟩
      ·have h4': ¬e=21:=by simpa using h4
       iterate 9 refine G ?_
       exact ret1 (v:= .int _ _) rfl rfl hL fun w' hw=>⟨(),rfl,by
        rw [if_neg h3',if_neg h4',←h20]
        have h:Mem w0 (box d 159 [.slice (some ⟨eb,0,none⟩) l.length c, .map (some m)]::enRow (some ⟨eb,0,none⟩) c (l.set i {x with tries:=x.tries+1})::imap m (psD l)::L) w':=hw
        show Mem w0 (box d 159 [.slice (some ⟨eb,0,none⟩) (l.set i _).length c, .map (some m)]::enRow (some ⟨eb,0,none⟩) c (l.set i _)::imap m (psD (l.set i _))::L) w'
        rw [List.length_set,psD_set (y:={x with tries:=x.tries+1}) hx rfl]
        exact h⟩
end Go.Proofs.Net
namespace Go.Proofs.Net
open Go Go.RowKit Go.Proofs.E Go.Proofs.Cus Go.Proofs.Gos
def hasK (l:List Ev) (d:Int) (s:Int):Bool:=l.any fun x=>decide (keyE x=(d,s))
theorem find_has {l:List Ev} {d s:Int}:(l.find? fun x=>decide (keyE x=(d,s)))=none↔hasK l d s=false:=by
 unfold hasK
 rw [List.find?_eq_none,List.any_eq_false]
theorem seen_bd {l:List Ev} {d:Int} {m:Nat} (h: ∀j,j<m→hasK l d ((j:Int)+1)=true):m≤l.length:=by
 have h1:((List.range m).map fun j:Nat=>((d,(j:Int)+1):Int×Int)).Nodup:=by
  refine List.Pairwise.map _ (fun a b hab=>?_) List.nodup_range
  intro e
  injection e with _ e
  exact hab (by omega)
 have h2: ∀p∈(List.range m).map (fun j:Nat=>((d,(j:Int)+1):Int×Int)),p∈l.map keyE:=by
  intro p hp
  obtain ⟨j,hj,rfl⟩:=List.mem_map.1 hp
  obtain ⟨x,hx,he⟩:=List.any_eq_true.1 (h j (List.mem_range.1 hj))
  exact List.mem_map.2 ⟨x,hx,of_decide_eq_true he⟩
 have h3:=List.Nodup.length_le_of_subset h1 h2
 simpa using h3
theorem seen_go {l:List Ev} {d:Int} {m:Nat} (h: ∀j,j<m→hasK l d ((j:Int)+1)=true) (hs:seenR l d (l.length+1 -m) m=seenD l d):
  (hasK l d ((m:Int)+1)=true→(∀j,j<m+1→hasK l d ((j:Int)+1)=true)∧seenR l d (l.length+1 -(m+1)) (m+1)=seenD l d∧m+1≤l.length)∧(hasK l d ((m:Int)+1)=false→seenD l d=m):=by
 have hb:=seen_bd h
 have e:l.length+1 -m=(l.length -m)+1:=by omega
 rw [e,seenR] at hs
 have hs:(if hasK l d ((m:Int)+1)=true then seenR l d (l.length -m) (m+1) else m)=seenD l d:=hs
 refine ⟨fun hy=>?_,fun hn=>?_⟩
 ·have h2: ∀j,j<m+1→hasK l d ((j:Int)+1)=true:=fun j hj=>by
   rcases Nat.lt_or_ge j m with hh|hh
   ·exact h j hh
   ·have:j=m:=by omega
    subst this;exact hy
  refine ⟨h2,?_,seen_bd h2⟩
  rw [if_pos hy] at hs
  rw [show l.length+1 -(m+1)=l.length -m by omega]
  exact hs
 ·have hn': ¬hasK l d ((m:Int)+1)=true:=by rw [hn];decide
  rw [if_neg hn'] at hs
  exact hs.symm
def intE (n:Int):List Value:=[.int .i64 n]
abbrev inRow (A:Option Addr) (c:Nat) (l:List Int):E.Item:=rowT 3 1 intE A c l
def sn (l:List Ev) (d:Nat):List Int:=(List.range d).map fun i:Nat=>((seenD l (i:Int):Nat):Int)
def snI (l:List Ev) (n d:Nat) (m:Int):List Int:=sn l d++m::List.replicate (n -d -1) 0
theorem sn_len (l:List Ev) (d:Nat):(sn l d).length=d:=by simp [sn]
theorem snI_len (l:List Ev) {n d:Nat} (h:d<n) (m:Int):(snI l n d m).length=n:=by simp [snI,sn_len];omega
theorem snI_get (l:List Ev) (n d:Nat) (m:Int):(snI l n d m)[d]?=some m:=by
 unfold snI
 rw [List.getElem?_append_right (by rw [sn_len];exact Nat.le_refl _),sn_len,Nat.sub_self];rfl
theorem snI_set (l:List Ev) (n d:Nat) (m k:Int):(snI l n d m).set d k=snI l n d k:=by
 unfold snI
 rw [List.set_append_right _ _ (by rw [sn_len];exact Nat.le_refl _),sn_len,Nat.sub_self];rfl
theorem sn_in (l:List Ev) {n d:Nat} (h:d<n):sn l d++List.replicate (n -d) 0=snI l n d 0:=by
 unfold snI
 rw [show n -d=(n -d -1)+1 by omega,List.replicate_succ];rfl
theorem sn_out (l:List Ev) {n d:Nat} (h:d<n):snI l n d ((seenD l (d:Int):Nat):Int)=sn l (d+1)++List.replicate (n -(d+1)) 0:=by
 unfold snI sn
 rw [List.range_succ,List.map_append,List.append_assoc,show n -d -1=n -(d+1) by omega];rfl
theorem seen_w {r m:Nat} {n:Nat} {l:List Ev} (w:World) (h1:(box r 127 [.int .i64 n, .map (some m)]).A w) (h2:KMap w m (psE l)) (hn:n≤256) (hl:l.length≤10000):
  Calls Tryz.prog 122 #[.pointer (some ⟨r,0,none⟩)] w fun q w'=> ∃b:Nat,q= .returned (.slice (some ⟨b,0,none⟩) n n)∧Mem w [inRow (some ⟨b,0,none⟩) n (sn l n)] w':=by
 have hlt:=box_lt h1
 have hrow:=row_at h1
 have hk: ∀(L:List E.Item) w',Mem w L w'→KMap w' m (psE l):=fun L w' hw=>h2.mem hw
 refine H_enter Tryz.func122 rfl Tryz.ntmps122 rfl ?_
 iterate 9 refine G ?_
 refine xV (e_eqNilP Tryz.underlying68 (q0 rfl)) rfl rfl ?_
 iterate 2 refine G ?_
 refine H_cond rfl ?_ ?_<;>intro hnil
 ·cases hnil
 ·iterate 8 refine G ?_
  refine X_eff (f_make (i:=Tryz.t3) (k:=1) (n:=n) (m:=n) intE 0 Tryz.underlying22 (by kernel_rfl) rfl rfl rfl rfl rfl ⟨⟨Nat.le_refl _,by omega⟩,by decide⟩ rfl fun bs=>?_)
  iterate 12 refine G ?_
  refine H_loop [4,5,6,16,17,18,19,20,21,22,23,24,25,26,27,28,29,30,31,32,33,34,35,36,37,38,39,40,41,42] (fun d:Nat=>[(16, .int .i64 d)]) (fun d=>[inRow (some ⟨bs,0,none⟩) n (sn l d++List.replicate (n -d) 0)]) (fun d=>d≤n) (fun d=>n -d) 0 ⟨rfl,trivial⟩ (fun w hw=>hw) rfl (Nat.zero_le _) ?_
  rintro d g hd
  iterate 6 refine G ?_
  refine H_cond rfl ?_ ?_<;>intro hlt2
  ·have hlt':d<n:=by simpa using hlt2
   iterate 11 refine G ?_
   refine H_loop [5,6,19,20,21,22,23,24,25,26,27,28,29,30,31,32,33,34,35,36,37,38,39,40,41] (fun m:Nat=>[]) (fun m=>[inRow (some ⟨bs,0,none⟩) n (snI l n d m)]) (fun m=>(∀j,j<m→hasK l d ((j:Int)+1)=true)∧seenR l d (l.length+1 -m) m=seenD l d∧m≤l.length) (fun m=>l.length+1 -m) 0 trivial (fun w hw=>by show Mem _ [inRow _ n (snI l n d 0)] w;rw [←sn_in l hlt'];exact hw) rfl ⟨fun j hj=>absurd hj (Nat.not_lt_zero j),rfl,Nat.zero_le _⟩ ?_
   rintro q g2 ⟨hq1,hq2,hq3⟩
   have hgo:=seen_go hq1 hq2
   have hget:=snI_get l n d q
   have hln:=snI_len l hlt' (q:Int)
   iterate 3 refine G ?_
   refine RA rfl (by decide+kernel) ?_
   refine aW 0 ?_
   refine aW 1 ?_
   refine aW 2 ?_
   refine aW 3 ?_
   refine aW 4 ?_
   refine aW 5 ?_
   refine aW 6 ?_
   refine aV 7 (by decide+kernel) rfl (e_idx _ Tryz.underlying22 Tryz.sizeOf3 (q0 rfl) (q0 rfl) (fun _=>⟨rfl,by omega⟩)) rfl ?_
   refine aW 8 ?_
   refine aW 9 ?_
   refine aV 10 (by decide+kernel) rfl (e_build Tryz.underlying132 fl132 Tryz.zeroValue132 (pt (v:= .int _ _) rfl (pt (v:= .int _ _) rfl E.p0)) rfl) rfl ?_
   cases hf:l.find? (fun x=>decide (keyE x=((d:Int),(q:Int)+1))) with
   |some x=>
    have hy:hasK l d ((q:Int)+1)=true:=by
     cases hb:hasK l d ((q:Int)+1) with
     |true=>rfl
     |false=>rw [find_has.2 hb] at hf;cases hf
    obtain ⟨hq4,hq5,hq6⟩:=hgo.1 hy
    refine aV 11 (by decide+kernel) rfl (e_lookKok (key:=((d:Int),(q:Int)+1)) (u:= .agg x.cells.toArray) (bb:=true) keyG Tryz.underlying125 Tryz.zeroValue58 (q0 rfl) (q0 rfl) (fun w hw=>hk _ w hw) (fun _=>by rw [klook_psE,hf];exact ⟨rfl,rfl⟩)) rfl ?_
    refine aW 12 ?_
    refine aW 13 ?_
    refine aW 14 ?_
    refine r1 15 0 ?_
    refine aL rfl (f_alloc Tryz.zeroValue58 rfl fun b5=>?_)
    refine r1 16 1 ?_
    refine aL rfl (f_st (v:= .agg _) rfl rfl Tryz.sizeOf58 ?_)
    refine aRL (sub_drop 1) ?_
    refine aW 17 ?_
    refine aZ (by decide+kernel) (sub_drop 0) ?_
    iterate 7 refine G ?_
    refine H_cond rfl ?_ ?_<;>intro h3
    ·cases h3
    ·have _ht:True:=trivial
     iterate 5 refine G ?_
     refine xV (e_idx _ Tryz.underlying22 Tryz.sizeOf3 (q0 rfl) (q0 rfl) (fun _=>⟨rfl,by omega⟩)) rfl rfl ?_
     refine xV (eL Tryz.isAgg3 (q0 rfl) (rr0 1 rfl hget rfl)) rfl rfl ?_
     refine G ?_
     refine xV (e_idx _ Tryz.underlying22 Tryz.sizeOf3 (q0 rfl) (q0 rfl) (fun _=>⟨rfl,by omega⟩)) rfl rfl ?_
     refine X_eff (f_storeR0 1 ((q:Int)+1) rfl rfl Tryz.sizeOf3 rfl rfl rfl hget rfl rfl ?_)
     iterate 2 refine G ?_
     exact loopJ_normal (q+1) agr trivial (fun w hw=>by have h:=hw.tail;rw [snI_set] at h;exact h) rfl ⟨hq4,hq5,hq6⟩ (by show l.length+1 -(q+1)<l.length+1 -q;omega)
   |none=>
    have hy:=find_has.1 hf
    have hq4:=hgo.2 hy
    refine aV 11 (by decide+kernel) rfl (e_lookKok (key:=((d:Int),(q:Int)+1)) (bb:=false) keyG Tryz.underlying125 Tryz.zeroValue58 (q0 rfl) (q0 rfl) (fun w hw=>hk _ w hw) (fun _=>by rw [klook_psE,hf];exact ⟨rfl,rfl⟩)) rfl ?_
    refine aW 12 ?_
    refine aW 13 ?_
    refine aW 14 ?_
    refine r1 15 0 ?_
    refine aL rfl (f_alloc Tryz.zeroValue58 rfl fun b5=>?_)
    refine r1 16 1 ?_
    refine aL rfl (f_st (v:= .agg _) rfl rfl Tryz.sizeOf58 ?_)
    refine aRL (sub_drop 1) ?_
    refine aW 17 ?_
    refine aZ (by decide+kernel) (sub_drop 0) ?_
    iterate 7 refine G ?_
    refine H_cond rfl ?_ ?_<;>intro h3
    ·have _ht:True:=trivial
     iterate 11 refine G ?_
     exact loopJ_normal (d+1) agr ⟨rfl,trivial⟩ (fun w hw=>by have h:=hw.tail;rw [←hq4,sn_out l hlt'] at h;exact h) rfl (by omega) (by show n -(d+1)<n -d;omega)
    ·cases h3
  ·have hde:d=n:=by simp at hlt2;omega
   subst hde
   iterate 12 refine G ?_
   exact ret1 (v:= .slice _ _ _) rfl rfl rfl fun w' hw=>⟨bs,rfl,by rw [Nat.sub_self,List.replicate_zero,List.append_nil] at hw;exact hw⟩
theorem hor_step (l:List Ev) (d k:Nat) (t:Int):horL l (List.range' d (k+1)) t=if seenD l (d:Int)=0 then 0 else horL l (List.range' (d+1) k) (min t (atE l d (seenD l (d:Int)))):=by
 rw [List.range'_succ,horL]
theorem sn_get (l:List Ev) {n d:Nat} (h:d<n):(sn l n)[d]?=some ((seenD l (d:Int):Nat):Int):=by
 unfold sn
 rw [List.getElem?_map,List.getElem?_range h];rfl
theorem hor_w {r m:Nat} {n:Nat} {l:List Ev} (w:World) (h1:(box r 127 [.int .i64 n, .map (some m)]).A w) (h2:KMap w m (psE l)) (hn:n≤256) (hl:l.length≤10000):
  Calls Tryz.prog 66 #[.pointer (some ⟨r,0,none⟩)] w fun q w'=>q= .returned (.int .i64 (horR n l))∧Bel w w':=by
 have hlt:=box_lt h1
 have hrow:=row_at h1
 have hk: ∀(L:List E.Item) w',Mem w L w'→KMap w' m (psE l):=fun L w' hw=>h2.mem hw
 have hbx: ∀(L:List E.Item) w',Mem w L w'→(box r 127 [.int .i64 n, .map (some m)]).A w':=fun L w' hw=>(hw.1.block r hlt).trans h1
 have hor0:horR n l=horL l (List.range' 0 n) 4294943999:=by
  unfold horR
  rw [Int.toNat_natCast,List.range_eq_range']
 refine H_enter Tryz.func66 rfl Tryz.ntmps66 rfl ?_
 iterate 9 refine G ?_
 refine xV (e_eqNilP Tryz.underlying68 (q0 rfl)) rfl rfl ?_
 iterate 2 refine G ?_
 refine H_cond rfl ?_ ?_<;>intro hnil
 ·cases hnil
 ·iterate 11 refine G ?_
  refine xCX (en Tryz.call122 (ha1 (q0 rfl))) (fun w' hw=>seen_w w' (hbx _ w' hw) (hk _ w' hw) hn hl) rfl (fun _=>rfl) fun bs=>?_
  iterate 5 refine G ?_
  refine H_loop [2,3,4,5,11,12,13,14,15,16,17,18,19,20,21,22,23,24,25,26,27,28,29] (fun s:Nat×Int=>[(11, .int .i64 s.1),(3, .int .i64 s.2)]) (fun _=>[inRow (some ⟨bs,0,none⟩) n (sn l n)]) (fun s=>s.1≤n∧horR n l=horL l (List.range' s.1 (n -s.1)) s.2) (fun s=>n -s.1) (0,4294943999) ⟨rfl,rfl,trivial⟩ (fun w hw=>hw) rfl ⟨Nat.zero_le _,hor0⟩ ?_
  rintro ⟨d,t⟩ g ⟨hd,ht⟩
  have hd:d≤n:=hd
  have ht:horR n l=horL l (List.range' d (n -d)) t:=ht
  iterate 6 refine G ?_
  refine H_cond rfl ?_ ?_<;>intro hlt2
  ·have hlt':d<n:=by simpa using hlt2
   have hget:=sn_get l hlt'
   rw [show n -d=(n -(d+1))+1 by omega,hor_step] at ht
   iterate 7 refine G ?_
   refine xV (e_idx _ Tryz.underlying22 Tryz.sizeOf3 (q0 rfl) (q0 rfl) (fun _=>⟨rfl,by omega⟩)) rfl rfl ?_
   refine xV (eL Tryz.isAgg3 (q0 rfl) (rr0 0 rfl hget rfl)) rfl rfl ?_
   iterate 11 refine G ?_
   refine H_cond rfl ?_ ?_<;>intro h0
   ·have h0':seenD l (d:Int)=0:=by simpa using h0
    rw [if_pos h0'] at ht
    rw [ht]
    iterate 12 refine G ?_
    exact ret1 (v:= .int _ _) rfl rfl rfl fun w' hw=>⟨rfl,hw.1⟩
   ·have h0': ¬seenD l (d:Int)=0:=by simpa using h0
    rw [if_neg h0'] at ht
    have hu:(klook (psE l) ((d:Int),((seenD l (d:Int):Nat):Int))).getD (.agg (Ev.cells ⟨0,0,0,0,0,0,0,0,0⟩).toArray)= .agg ((l.find? fun x=>decide (keyE x=((d:Int),((seenD l (d:Int):Nat):Int)))).getD ⟨0,0,0,0,0,0,0,0,0⟩).cells.toArray:=by
     rw [klook_psE]
     cases l.find? (fun x=>decide (keyE x=((d:Int),((seenD l (d:Int):Nat):Int))))<;>rfl
    have hat:((l.find? fun x=>decide (keyE x=((d:Int),((seenD l (d:Int):Nat):Int)))).getD ⟨0,0,0,0,0,0,0,0,0⟩).at_=atE l d (seenD l (d:Int)):=by
     unfold atE
     cases l.find? (fun x=>decide (keyE x=((d:Int),((seenD l (d:Int):Nat):Int))))<;>rfl
    generalize (l.find? fun x=>decide (keyE x=((d:Int),((seenD l (d:Int):Nat):Int)))).getD ⟨0,0,0,0,0,0,0,0,0⟩=y at hu hat
    iterate 10 refine G ?_
    refine xV (e_build Tryz.underlying132 fl132 Tryz.zeroValue132 (pt (v:= .int _ _) rfl (pt (v:= .int _ _) rfl E.p0)) rfl) rfl rfl ?_
    refine xV (e_lookKG (key:=((d:Int),((seenD l (d:Int):Nat):Int))) (u:= .agg y.cells.toArray) keyG Tryz.underlying125 Tryz.zeroValue58 (q0 rfl) (q0 rfl) (fun w hw=>hk _ w hw) (fun _=>hu)) rfl rfl ?_
    refine xV (e_fv Tryz.underlying58 rfl Tryz.isAgg3 (q0 rfl) rfl) rfl rfl ?_
    refine xV (e_min (q0 rfl) (q0 rfl)) rfl rfl ?_
    iterate 8 refine G ?_
    exact loopJ_normal (d+1,min t (atE l d (seenD l (d:Int)))) agr ⟨rfl,by show Value.int .i64 (if y.at_<t then y.at_ else t)=Value.int .i64 (min t (atE l (d:Int) ((seenD l (d:Int):Nat):Int)));rw [←hat,Int.min_def];congr 1;split<;>split<;>omega,trivial⟩ (fun w hw=>hw) rfl ⟨by show d+1≤n;omega,ht⟩ (by show n -(d+1)<n -d;omega)
  ·have hde:d=n:=by simp at hlt2;omega
   subst hde
   rw [Nat.sub_self] at ht
   rw [ht]
   iterate 12 refine G ?_
   exact ret1 (v:= .int _ _) rfl rfl rfl fun w' hw=>⟨rfl,hw.1⟩
end Go.Proofs.Net
