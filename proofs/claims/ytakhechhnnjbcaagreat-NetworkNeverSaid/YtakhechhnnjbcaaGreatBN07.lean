import Derived.Test.YtakhechhnnjbcaaGreatBN04
import Derived.Test.YtakhechhnnjbcaaGreatProg
import Derived.Test.YtakhechhnnjbcaaGreatBN06
import Derived.Test.YtakhechhnnjbcaaGreatBN02
import Derived.Test.YtakhechhnnjbcaaGreatBN01
import Derived.Test.YtakhechhnnjbcaaGreatTy
set_option maxRecDepth 100000
set_option maxHeartbeats 8000000
set_option linter.unusedVariables false
set_option linter.unusedSimpArgs false
namespace Go.Proofs.Pen
open Go Go.RowKit Go.Proofs.E
def V.cells (v:V):List Value:=[.int .i64 v.ride, .int .i64 v.rider, .int .i64 v.moment, .int .i64 v.kind]
abbrev VsAt (w:World) (A:Option Addr) (n:Nat) (vs:List V):Prop:=SlAt w 4 V.cells A n vs
abbrev IntsAt (w:World) (A:Option Addr) (n:Nat) (xs:List Int):Prop:=SlAt w 1 encInt A n xs
theorem any_take_snoc (xs:List Int) (k:Nat) (x:Int) (h:xs[k]?=some x) (h0:(xs.take k).any fineBad=false) (hb:fineBad x=false):(xs.take (k+1)).any fineBad=false:=by
 rw [take_snoc _ _ _ h,List.any_append,h0];simp [hb]
theorem pErr_bad (xs:List Int) (d:Int) (k:Nat) (x:Int) (hl:xs.length≤512) (h:xs[k]?=some x) (hb:fineBad x=true):pErr xs d=1:=by
 unfold pErr
 rw [if_neg (by omega),if_pos]
 exact List.any_eq_true.2 ⟨x,List.mem_of_getElem? h,hb⟩
theorem pErr_full (xs:List Int) (d:Int) (hl:512<xs.length):pErr xs d=8:=by unfold pErr;rw [if_pos hl]
theorem pErr_days (xs:List Int) (d:Int) (hl:xs.length≤512) (h0:xs.any fineBad=false) (hd:d<0∨49709<d):pErr xs d=1:=by
 unfold pErr;rw [if_neg (by omega),h0];simp [hd]
theorem pErr_ok (xs:List Int) (d:Int) (hl:xs.length≤512) (h0:xs.any fineBad=false) (hd: ¬(d<0∨49709<d)):pErr xs d=0:=by
 unfold pErr;rw [if_neg (by omega),h0];simp;omega
theorem check_w (a0 a1 a2 a3 a4:Value) (A:Option Addr) (n c:Nat) (xs:List Int) (d:Int) (w:World) (hx:IntsAt w A n xs):
  Calls Tryz.prog 74 #[.agg #[a0,a1,a2,a3,a4, .slice A n c, .int .i64 d]] w fun e w'=>e= .returned (.int .i64 (pErr xs d))∧Bel w w':=by
 have hn:=hx.2.1
 have hl:=hx.1
 refine H_enter Tryz.func74 rfl Tryz.ntmps74 rfl ?_
 iterate 2 refine G ?_
 refine X_box (v:= .agg _) rfl rfl fun b1=>?_
 iterate 12 refine G ?_
 refine H_cond rfl ?_ ?_<;>intro hb
 ·iterate 7 refine G ?_
  exact ret1 (v:= .int _ _) rfl rfl rfl fun w' hw=>⟨ret_int (pErr_full _ _ (by simp at hb;omega)).symm,hw.1⟩
 ·iterate 12 refine G ?_
  simp at hb
  refine H_loop [2,4,12,13,14,15,16,17,18,19,20,21,22] (fun k:Nat=>[(12, .int .i64 k)]) (fun _=>_) (fun k=>k≤n∧(xs.take k).any fineBad=false) (fun k=>n -k) 0 ⟨rfl,trivial⟩ (fun _ h=>h) rfl ⟨Nat.zero_le _,rfl⟩ ?_
  rintro k g ⟨hk,hall⟩
  iterate 6 refine G ?_
  refine H_cond rfl ?_ ?_<;>intro hlt
  ·simp at hlt
   obtain ⟨b,off,x,rfl,hbl,hxk,hr⟩:=hx.at_ hlt
   iterate 6 refine G ?_
   refine xV (e_idx _ Tryz.underlying22 Tryz.sizeOf3 (q0 rfl) (q0 rfl) (fun _=>⟨rfl,by omega⟩)) rfl rfl ?_
   iterate 14 refine G ?_
   refine H_cond rfl ?_ ?_<;>intro hbad
   ·iterate 11 refine G ?_
    exact ret1 (v:= .int _ _) rfl rfl rfl fun w' hw=>⟨ret_int (pErr_bad _ _ k x (by omega) hxk hbad).symm,hw.1⟩
   ·iterate 7 refine G ?_
    exact loopJ_normal (k+1) agr ⟨rfl,trivial⟩ (fun _ h=>h) rfl ⟨by omega,any_take_snoc _ _ _ hxk hall hbad⟩ (by show n -(k+1)<n -k;omega)
  ·simp at hlt
   rw [List.take_of_length_le (by omega)] at hall
   iterate 18 refine G ?_
   refine H_cond rfl ?_ ?_<;>intro hd
   ·iterate 7 refine G ?_
    exact ret1 (v:= .int _ _) rfl rfl rfl fun w' hw=>⟨ret_int (pErr_days _ _ (by omega) hall (by simpa using hd)).symm,hw.1⟩
   ·iterate 8 refine G ?_
    exact ret1 (v:= .int _ _) rfl rfl rfl fun w' hw=>⟨ret_int (pErr_ok _ _ (by omega) hall (by simp at hd;omega)).symm,hw.1⟩
theorem before_w (a b:V) (w:World):Calls Tryz.prog 235 #[.agg a.cells.toArray, .agg b.cells.toArray] w fun e w'=>e= .returned (.bool (before a b))∧Bel w w':=by
 refine H_enter Tryz.func235 rfl Tryz.ntmps235 rfl ?_
 refine H_seq ?_
 refine R0 ?_
 refine X_box (v:= .agg _) rfl rfl fun b2=>?_
 refine X_box (v:= .agg _) rfl rfl fun b3=>?_
 refine xV (e_as (v:= .bool _) (q0 rfl)) rfl rfl ?_
 refine XN ?_
 refine thenJ_normal ?_
 refine H_seq ?_
 refine R0 ?_
 refine xV (e_fld Tryz.underlying208 rfl Tryz.sizeOf3 rfl (q0 rfl)) rfl rfl ?_
 refine xV (eL Tryz.isAgg3 (q0 rfl)) rfl rfl ?_
 refine xV (e_fld Tryz.underlying208 rfl Tryz.sizeOf3 rfl (q0 rfl)) rfl rfl ?_
 refine xV (eL Tryz.isAgg3 (q0 rfl)) rfl rfl ?_
 refine xV (e_lt (q0 rfl) (q0 rfl)) rfl rfl ?_
 refine xV (e_mv (v:= .bool _) (q0 rfl)) rfl rfl ?_
 refine xVF (e_fld Tryz.underlying208 rfl Tryz.sizeOf3 rfl (q0 rfl)) rfl rfl rfl rfl ?_
 refine xVF (eL Tryz.isAgg3 (q1 rfl)) rfl rfl rfl rfl ?_
 refine xVF (e_fld Tryz.underlying208 rfl Tryz.sizeOf3 rfl (q0 rfl)) rfl rfl rfl rfl ?_
 refine xVF (eL Tryz.isAgg3 (q1 rfl)) rfl rfl rfl rfl ?_
 refine xVF (e_eq (q1 rfl) (q1 rfl)) rfl rfl rfl rfl ?_
 refine xVF (e_mv (v:= .bool _) (q1 rfl)) rfl rfl rfl rfl ?_
 refine xVT2 (e_fld Tryz.underlying208 rfl Tryz.sizeOf3 rfl (q0 rfl)) rfl rfl rfl rfl ?_
 refine xVT2 (eL Tryz.isAgg3 (q1 rfl)) rfl rfl rfl rfl ?_
 refine xVT2 (e_fld Tryz.underlying208 rfl Tryz.sizeOf3 rfl (q0 rfl)) rfl rfl rfl rfl ?_
 refine xVT2 (eL Tryz.isAgg3 (q1 rfl)) rfl rfl rfl rfl ?_
 refine xVT2 (e_lt (q1 rfl) (q1 rfl)) rfl rfl rfl rfl ?_
 refine xVF (e_and (q1 rfl) rfl (fun h=>by first|rfl|(rw [h];rfl))) rfl rfl rfl rfl ?_
 refine xV (e_or (q0 rfl) rfl (fun h=>by first|rfl|(rw [h];rfl))) rfl rfl ?_
 refine xV (e_as (v:= .bool _) (q0 rfl)) rfl rfl ?_
 refine XN ?_
 refine thenJ_normal ?_
 refine H_ret ?_
 exact ret1 (v:= .bool _) rfl rfl rfl fun w' hw=>⟨rfl,hw.1⟩
theorem vOne_range {seen:List V} {v:V} (h:v.ride<1∨1000000<v.ride∨v.rider<0∨128≤v.rider∨v.moment<0∨4294943999<v.moment):vOne seen v=1:=by
 unfold vOne vBad;rw [if_pos h];rfl
theorem vBad_zero {v:V} (h1: ¬(v.ride<1∨1000000<v.ride∨v.rider<0∨128≤v.rider∨v.moment<0∨4294943999<v.moment)) (h2: ¬(v.kind<1∨3<v.kind)):vBad v=0:=by
 unfold vBad;rw [if_neg h1,if_neg h2]
theorem vOne_kind {seen:List V} {v:V} (h1: ¬(v.ride<1∨1000000<v.ride∨v.rider<0∨128≤v.rider∨v.moment<0∨4294943999<v.moment)) (h2:v.kind<1∨3<v.kind):vOne seen v=14:=by
 have h:vBad v=14:=by unfold vBad;rw [if_neg h1,if_pos h2]
 unfold vOne;rw [h];rfl
theorem vOne_twice {seen:List V} {v:V} (h1: ¬(v.ride<1∨1000000<v.ride∨v.rider<0∨128≤v.rider∨v.moment<0∨4294943999<v.moment)) (h2: ¬(v.kind<1∨3<v.kind)) (h3:hasRide seen v.ride=true):vOne seen v=6:=by
 unfold vOne;rw [vBad_zero h1 h2,h3];rfl
theorem vOne_ok {seen:List V} {v:V} (h1: ¬(v.ride<1∨1000000<v.ride∨v.rider<0∨128≤v.rider∨v.moment<0∨4294943999<v.moment)) (h2: ¬(v.kind<1∨3<v.kind)) (h3:hasRide seen v.ride=false):vOne seen v=0:=by
 unfold vOne;rw [vBad_zero h1 h2,h3];rfl
theorem verr_full {vs:List V} (h:256<vs.length):vErr vs=8:=by unfold vErr;rw [if_pos h]
theorem verr_at {vs:List V} {k:Nat} {v:V} {c:Int} (hl:vs.length≤256) (hp:vErrL [] vs=vErrL (vs.take k) (vs.drop k)) (hv:vs[k]?=some v) (h:vOne (vs.take k) v=c) (hc:c≠0):vErr vs=c:=by
 unfold vErr;rw [if_neg (by omega),hp,vErrL_split _ _ _ _ hv,h,if_pos hc]
theorem verr_next {vs:List V} {k:Nat} {v:V} (hp:vErrL [] vs=vErrL (vs.take k) (vs.drop k)) (hv:vs[k]?=some v) (h:vOne (vs.take k) v=0):vErrL [] vs=vErrL (vs.take (k+1)) (vs.drop (k+1)):=by
 rw [hp,vErrL_split _ _ _ _ hv,h,if_neg (by simp),take_snoc _ _ _ hv]
theorem verr_end {vs:List V} {k:Nat} (hl:vs.length≤256) (hp:vErrL [] vs=vErrL (vs.take k) (vs.drop k)) (hk:vs.length≤k):vErr vs=0:=by
 unfold vErr;rw [if_neg (by omega),hp,List.drop_eq_nil_of_le hk];rfl
def keysOf (l:List V):List (Int×Value):=l.map fun v=>(v.ride, .bool true)
theorem look_keys (l:List V) (r:Int):(mlook (keysOf l) r).getD (.bool false)= .bool (hasRide l r):=by
 induction l with
 |nil=>rfl
 |cons v l ih=>
  by_cases h:v.ride=r
  ·simp [mlook,keysOf,hasRide,h]
  ·have hb:(v.ride==r)=false:=beq_eq_false_iff_ne.2 h
   simp only [mlook,keysOf,hasRide,List.map_cons,List.find?_cons,List.any_cons,hb,Bool.false_or] at ih⊢
   exact ih
theorem mput_keys (l:List V) (v:V) (h:hasRide l v.ride=false):mput (keysOf l) v.ride (.bool true)=keysOf (l++[v]):=by
 induction l with
 |nil=>rfl
 |cons x l ih=>
  simp only [hasRide,List.any_cons,Bool.or_eq_false_iff] at h
  simp only [keysOf,List.map_cons,List.cons_append,mput,h.1,Bool.false_eq_true,if_false]
  rw [←keysOf,ih h.2];rfl
theorem verd_w (A:Option Addr) (n c:Nat) (vs:List V) (w:World) (hx:VsAt w A n vs):
  Calls Tryz.prog 106 #[.slice A n c] w fun e w'=>e= .returned (.int .i64 (vErr vs))∧Bel w w':=by
 have hn:=hx.2.1
 have hl:=hx.1
 refine H_enter Tryz.func106 rfl Tryz.ntmps106 rfl ?_
 iterate 13 refine G ?_
 refine H_cond rfl ?_ ?_<;>intro hb
 ·iterate 7 refine G ?_
  exact ret1 (v:= .int _ _) rfl rfl rfl fun w' hw=>⟨ret_int (verr_full (by simp at hb;omega)).symm,hw.1⟩
 ·simp at hb
  iterate 4 refine G ?_
  refine X_makeMap rfl fun bm=>?_
  refine xV (e_as (v:= .map _) (q0 rfl)) rfl rfl ?_
  iterate 11 refine G ?_
  refine H_loop [2,5,12,13,14,15,16,17,18,19,20,21,22,23,24,25,26,27,28,29,30,31,32,33,34,35,36,37,38,39,40,41,42,43,44,45,46,47,48,49,50,51,52,53,54,55,56,57,58,59,60,61,62] (fun k:Nat=>[(12, .int .i64 k)]) (fun k=>[imap bm (keysOf (vs.take k))]) (fun k=>k≤n∧vErrL [] vs=vErrL (vs.take k) (vs.drop k)) (fun k=>n -k) 0 ⟨rfl,trivial⟩ (fun _ h=>h) rfl ⟨Nat.zero_le _,rfl⟩ ?_
  rintro k g ⟨hk,hp⟩
  iterate 6 refine G ?_
  refine H_cond rfl ?_ ?_<;>intro hlt
  ·simp at hlt
   obtain ⟨b,off,v,rfl,hbl,hv,hr⟩:=hx.at_ hlt
   iterate 6 refine G ?_
   refine xV (e_idx _ Tryz.underlying193 Tryz.sizeOf208 (q0 rfl) (q0 rfl) (fun _=>⟨rfl,by omega⟩)) rfl rfl ?_
   refine G ?_
   refine X_alloc Tryz.zeroValue208 rfl fun b5=>?_
   refine X_st (v:= .agg _) rfl rfl Tryz.sizeOf208 ?_
   iterate 37 refine G ?_
   refine H_cond rfl ?_ ?_<;>intro h1
   ·iterate 13 refine G ?_
    exact ret1 (v:= .int _ _) rfl rfl rfl fun w' hw=>⟨ret_int (verr_at (by omega) hp hv (vOne_range (by simp at h1;omega)) (by decide)).symm,hw.1⟩
   ·have h1': ¬(v.ride<1∨1000000<v.ride∨v.rider<0∨128≤v.rider∨v.moment<0∨4294943999<v.moment):=by simp at h1;omega
    iterate 13 refine G ?_
    refine H_cond rfl ?_ ?_<;>intro h2
    ·iterate 13 refine G ?_
     exact ret1 (v:= .int _ _) rfl rfl rfl fun w' hw=>⟨ret_int (verr_at (by omega) hp hv (vOne_kind h1' (by simp at h2;omega)) (by decide)).symm,hw.1⟩
    ·have h2': ¬(v.kind<1∨3<v.kind):=by simp at h2;omega
     iterate 2 refine G ?_
     refine xV (e_mv (v:= .map _) (q0 rfl)) rfl rfl ?_
     iterate 2 refine G ?_
     refine xV (e_look 1 Tryz.underlying224 Tryz.underlying3 Tryz.zeroValue4 (q0 rfl) (q0 rfl) rfl (fun _=>look_keys _ _)) rfl rfl ?_
     iterate 3 refine G ?_
     refine H_cond rfl ?_ ?_<;>intro h3
     ·iterate 13 refine G ?_
      exact ret1 (v:= .int _ _) rfl rfl rfl fun w' hw=>⟨ret_int (verr_at (by omega) hp hv (vOne_twice h1' h2' h3) (by decide)).symm,hw.1⟩
     ·iterate 4 refine G ?_
      refine xV (e_mv (v:= .map _) (q0 rfl)) rfl rfl ?_
      iterate 2 refine G ?_
      refine X_mapset 1 Tryz.underlying224 Tryz.underlying3 rfl rfl rfl rfl ?_
      iterate 7 refine G ?_
      refine loopJ_normal (k+1) agr ⟨rfl,trivial⟩ (fun w hw=>?_) rfl ⟨by omega,verr_next hp hv (vOne_ok h1' h2' h3)⟩ (by show n -(k+1)<n -k;omega)
      have:=hw.tail
      rw [take_snoc _ _ _ hv,←mput_keys _ _ h3]
      exact this
  ·simp at hlt
   iterate 11 refine G ?_
   exact ret1 (v:= .int _ _) rfl rfl rfl fun w' hw=>⟨ret_int (verr_end (by omega) hp (by omega)).symm,hw.1⟩
end Go.Proofs.Pen
namespace Go.Proofs.Far
open Go Go.RowKit Go.Proofs.E Go.Proofs.Cus
structure Pr where
 tariffs:List Tf
 passes:List Pas
 places:List Int
 docks:List Int
 cap:Int
 fines:List Int
 days:Int
structure Sl where
 A:Option Addr
 n:Nat
 c:Nat
def Sl.v (s:Sl):Value:= .slice s.A s.n s.c
structure PrA where
 t:Sl
 p:Sl
 pl:Sl
 d:Sl
 f:Sl
def Pr.cells (p:Pr) (a:PrA):List Value:=[.slice a.t.A a.t.n a.t.c, .slice a.p.A a.p.n a.p.c, .slice a.pl.A a.pl.n a.pl.c, .slice a.d.A a.d.n a.d.c, .int .i64 p.cap, .slice a.f.A a.f.n a.f.c, .int .i64 p.days]
structure PrAt (w:World) (p:Pr) (a:PrA):Prop where
 tf:TfsAt w a.t.A a.t.n p.tariffs
 ps:PassAt w a.p.A a.p.n p.passes
 pl:IntsAt w a.pl.A a.pl.n p.places
 dk:IntsAt w a.d.A a.d.n p.docks
 fi:IntsAt w a.f.A a.f.n p.fines
theorem PrAt.mem {w0 w:World} {L:List E.Item} {p:Pr} {a:PrA} (h:PrAt w0 p a) (hm:Mem w0 L w):PrAt w p a:=⟨h.tf.mem hm,h.ps.mem hm,h.pl.mem hm,h.dk.mem hm,h.fi.mem hm⟩
theorem fl28 {fs:Array Field} (h:Tryz.prog.underlying 28=some (.struct fs):=by exact Tryz.underlying28):FieldsLie Tryz.prog fs [(0,1),(1,1),(2,1),(3,1),(4,1),(5,1),(6,1)]:=by
 rw [Tryz.underlying28] at h
 cases h
 intro w
 kernel_rfl
def feeBad (n:Int):Bool:=decide (n< -1000000)||decide (1000000<n)
def prErr (f:Fl) (p:Pr):Int:=
 if flErr f≠0 then flErr f
 else if tfErr p.tariffs≠0 then tfErr p.tariffs
 else if pasErr p.passes≠0 then pasErr p.passes
 else if p.docks.length≠f.docks.length∨64<p.places.length then 3
 else if (p.places++p.docks).any feeBad=true then 1
 else if p.cap<0∨1000000000000<p.cap then 1
 else Pen.pErr p.fines p.days
theorem fl_docks {f:Fl} (h:flErr f=0):f.docks.length≤32:=by
 unfold flErr at h
 split at h
 ·cases h
 ·split at h
  ·cases h
  ·omega
theorem any_at {l:List Int} {k:Nat} {x:Int} (h:l[k]?=some x) (hb:feeBad x=true):l.any feeBad=true:=List.any_eq_true.2 ⟨x,List.mem_of_getElem? h,hb⟩
theorem any_on {l:List Int} {k:Nat} {x:Int} (h:l[k]?=some x) (h0:(l.take k).any feeBad=false) (hb:feeBad x=false):(l.take (k+1)).any feeBad=false:=by
 rw [snocT _ _ _ h,List.any_append,h0];simp [hb]
attribute [local irreducible] flErr tfErr pasErr Pen.pErr
theorem fcheck_w (f:Fl) (fa:FA) (p:Pr) (a:PrA) (w:World) (hf:FlAt w f fa) (hp:PrAt w p a):Calls Tryz.prog 35 #[.agg (f.cells fa).toArray, .agg (p.cells a).toArray] w fun e w'=>e= .returned (.int .i64 (prErr f p))∧Bel w w':=by
 have hfd:=hf.docks.1
 have hpd:=hp.dk.1
 have hpp:=hp.pl.1
 refine H_enter Tryz.func35 rfl Tryz.ntmps35 rfl ?_
 iterate 2 refine G ?_
 refine X_box (v:= .agg _) rfl rfl fun b2=>?_
 refine X_box (v:= .agg _) rfl rfl fun b3=>?_
 iterate 7 refine G ?_
 refine xC (en Tryz.call58 (ha1 (q0 rfl))) (fun _ w hw=>fleet_w f fa w (hf.mem hw)) rfl rfl ?_
 iterate 9 refine G ?_
 refine H_cond rfl ?_ ?_<;>intro h1
 ·have h1':flErr f≠0:=by simpa using h1
  iterate 8 refine G ?_
  exact ret1 (v:= .int _ _) rfl rfl rfl fun w' hw=>⟨ret_int (by unfold prErr;rw [if_pos h1']),hw.1⟩
 ·have h1':flErr f=0:=by simpa using h1
  iterate 7 refine G ?_
  refine xC (en Tryz.call71 (ha1 (q0 rfl))) (fun _ w hw=>tcheck_w a.t.A a.t.n a.t.c p.tariffs w (hp.tf.mem hw)) rfl rfl ?_
  iterate 9 refine G ?_
  refine H_cond rfl ?_ ?_<;>intro h2
  ·have h2':tfErr p.tariffs≠0:=by simpa using h2
   iterate 8 refine G ?_
   exact ret1 (v:= .int _ _) rfl rfl rfl fun w' hw=>⟨ret_int (by unfold prErr;rw [if_neg (fun h=>h h1'),if_pos h2']),hw.1⟩
  ·have h2':tfErr p.tariffs=0:=by simpa using h2
   iterate 7 refine G ?_
   refine xC (en Tryz.call72 (ha1 (q0 rfl))) (fun _ w hw=>pcheck_w a.p.A a.p.n a.p.c p.passes w (hp.ps.mem hw)) rfl rfl ?_
   iterate 9 refine G ?_
   refine H_cond rfl ?_ ?_<;>intro h3
   ·have h3':pasErr p.passes≠0:=by simpa using h3
    iterate 8 refine G ?_
    exact ret1 (v:= .int _ _) rfl rfl rfl fun w' hw=>⟨ret_int (by unfold prErr;rw [if_neg (fun h=>h h1'),if_neg (fun h=>h h2'),if_pos h3']),hw.1⟩
   ·have h3':pasErr p.passes=0:=by simpa using h3
    iterate 20 refine G ?_
    refine H_cond rfl ?_ ?_<;>intro h4
    ·have h4':p.docks.length≠f.docks.length∨64<p.places.length:=by simp at h4;omega
     iterate 7 refine G ?_
     exact ret1 (v:= .int _ _) rfl rfl rfl fun w' hw=>⟨ret_int (by unfold prErr;rw [if_neg (fun h=>h h1'),if_neg (fun h=>h h2'),if_neg (fun h=>h h3'),if_pos h4']),hw.1⟩
    ·have h4': ¬(p.docks.length≠f.docks.length∨64<p.places.length):=by simp at h4;omega
     have hfl:=fl_docks h1'
     iterate 9 refine G ?_
     refine X_slit [(.slice none 0 0),(.slice none 0 0)] Tryz.underlying225 Tryz.sizeOf22 Tryz.zeroValue22 rfl (by kernel_rfl) (pt (v:= .slice _ _ _) rfl (pt (v:= .slice _ _ _) rfl E.p0)) rfl rfl fun b44=>?_
     refine xCX (en Tryz.call73 (ha1 (q0 rfl))) (fun w hw=>concat_w (some ⟨b44,0,none⟩) 2 a.pl.A a.pl.n a.pl.c p.places a.d.A a.d.n a.d.c p.docks w (slAt_box (enc:=encV) (xs:=[.slice a.pl.A a.pl.n a.pl.c, .slice a.d.A a.d.n a.d.c]) hw (j:=0) rfl (fun _=>rfl) (by simp)) (hp.pl.mem hw) (hp.dk.mem hw) (by omega) (by omega)) rfl (fun _=>rfl) fun z=>?_
     have herr:prErr f p=if (p.places++p.docks).any feeBad=true then 1 else if p.cap<0∨1000000000000<p.cap then 1 else Pen.pErr p.fines p.days:=by
      unfold prErr;rw [if_neg (fun h=>h h1'),if_neg (fun h=>h h2'),if_neg (fun h=>h h3'),if_neg h4']
     rw [herr]
     have hal:(p.places++p.docks).length≤1000:=by rw [List.length_append];omega
     generalize p.places++p.docks=al at*
     obtain ⟨zA,zc⟩:=z
     iterate 5 refine G ?_
     refine H_loop [4,9,47,48,49,50,51,52,53,54,55,56,57] (fun k:Nat=>[(47, .int .i64 k)]) (fun _=>[intRow zA zc al,box b44 22 [.slice a.pl.A a.pl.n a.pl.c, .slice a.d.A a.d.n a.d.c],box b3 28 (p.cells a),box b2 24 (f.cells fa)]) (fun k=>k≤al.length∧(al.take k).any feeBad=false) (fun k=>al.length -k) 0 ⟨rfl,trivial⟩ (fun w hw=>hw) rfl ⟨Nat.zero_le _,rfl⟩ ?_
     rintro k g ⟨hk,hall⟩
     iterate 6 refine G ?_
     refine H_cond rfl ?_ ?_<;>intro hlt
     ·have hlt':k<al.length:=by simpa using hlt
      obtain ⟨x,hxk⟩: ∃x,al[k]?=some x:=⟨_,List.getElem?_eq_getElem hlt'⟩
      refine H_know (fun w hw=>rowT_at (j:=0) hw rfl (by omega)) fun ⟨rb,hrb⟩=>?_
      subst hrb
      iterate 6 refine G ?_
      refine xV (e_idx k Tryz.underlying22 Tryz.sizeOf3 (q0 rfl) (q0 rfl) (fun _=>⟨rfl,hlt'⟩)) rfl rfl ?_
      refine xV (e_ld (v:= .int .i64 x) Tryz.isAgg3 (q0 rfl) (by exact rr0 0 (k:=1) (enc:=encInt) rfl hxk rfl)) rfl rfl ?_
      iterate 13 refine G ?_
      refine H_cond rfl ?_ ?_<;>intro hb
      ·have hb':feeBad x=true:=hb
       iterate 11 refine G ?_
       exact ret1 (v:= .int _ _) rfl rfl rfl fun w' hw=>⟨ret_int (by rw [if_pos (any_at hxk hb')]),hw.1⟩
      ·have hb':feeBad x=false:=hb
       iterate 7 refine G ?_
       exact loopJ_normal (k+1) agr ⟨rfl,trivial⟩ (fun w hw=>hw) rfl ⟨by omega,any_on hxk hall hb'⟩ (by show al.length -(k+1)<al.length -k;omega)
     ·have hend:k=al.length:=by simp at hlt;omega
      rw [hend,List.take_length] at hall
      rw [if_neg (by rw [hall];decide)]
      iterate 18 refine G ?_
      refine H_cond rfl ?_ ?_<;>intro h6
      ·have h6':p.cap<0∨1000000000000<p.cap:=by simp at h6;omega
       iterate 7 refine G ?_
       exact ret1 (v:= .int _ _) rfl rfl rfl fun w' hw=>⟨ret_int (by rw [if_pos h6']),hw.1⟩
      ·have h6': ¬(p.cap<0∨1000000000000<p.cap):=by simp at h6;omega
       rw [if_neg h6']
       iterate 5 refine G ?_
       refine xC (en Tryz.call74 (ha1 (q0 rfl))) (fun _ w hw=>Pen.check_w _ _ _ _ _ a.f.A a.f.n a.f.c p.fines p.days w (hp.fi.mem hw)) rfl rfl ?_
       iterate 4 refine G ?_
       exact ret1 (v:= .int _ _) rfl rfl rfl fun w' hw=>⟨rfl,hw.1⟩
end Go.Proofs.Far
namespace Go.Proofs.Far
structure Wn where
 lo:Int
 hi:Int
deriving DecidableEq,Inhabited
def wnOk (w:Wn):Bool:=(decide (0≤w.lo)&&decide (w.lo≤w.hi))&&decide (w.hi≤4294944000)
def has (l:List Wn) (t:Int):Prop:= ∃w∈l,w.lo≤t∧t<w.hi
def mergeF (out:List Wn) (w:Wn):List Wn:=
 if w.lo=w.hi then out
 else match out.getLast? with
  |none=>out++[w]
  |some z=>if w.lo≤z.hi then out.dropLast++[⟨z.lo,max z.hi w.hi⟩] else out++[w]
def normP (l:List Wn):List Wn:=l.foldl mergeF []
def byLo (l:List Wn):List Wn:=l.mergeSort fun x y=>decide (x.lo≤y.lo)
def unionP (l:List Wn):List Wn:=normP (byLo l)
def sumW (l:List Wn):Int:=(l.map fun w=>w.hi -w.lo).sum
def lenP (l:List Wn):Int:=sumW (unionP l)
structure Nf (l:List Wn):Prop where
 pos: ∀w∈l,w.lo<w.hi
 apart:l.Pairwise fun a b=>a.hi<b.lo
theorem Nf.tail {a:Wn} {l:List Wn} (h:Nf (a::l)):Nf l:=⟨fun w hw=>h.pos w (List.mem_cons_of_mem _ hw),(List.pairwise_cons.1 h.apart).2⟩
theorem has_cons {a:Wn} {l:List Wn} {t:Int}:has (a::l) t↔(a.lo≤t∧t<a.hi)∨has l t:=by
 unfold has
 simp
theorem has_append {l m:List Wn} {t:Int}:has (l++m) t↔has l t∨has m t:=by
 unfold has
 constructor
 ·rintro ⟨w,hw,h⟩
  rcases List.mem_append.1 hw with hw|hw
  ·exact .inl ⟨w,hw,h⟩
  ·exact .inr ⟨w,hw,h⟩
 ·rintro (⟨w,hw,h⟩|⟨w,hw,h⟩)
  ·exact ⟨w,List.mem_append.2 (.inl hw),h⟩
  ·exact ⟨w,List.mem_append.2 (.inr hw),h⟩
theorem not_has_nil {t:Int}: ¬has [] t:=by rintro ⟨w,hw,_⟩;cases hw
theorem Nf.later {a:Wn} {l:List Wn} (h:Nf (a::l)) {t:Int} (ht:has l t):a.hi<t:=by
 obtain ⟨w,hw,h1,h2⟩:=ht
 have:=(List.pairwise_cons.1 h.apart).1 w hw
 omega
theorem Nf.unique: ∀{l m:List Wn},Nf l→Nf m→(∀t,has l t↔has m t)→l=m
 |[],[],_,_,_=>rfl
 |[],b::m,_,hm,h=>by
  have hb:=hm.pos b (by simp)
  exact absurd ((h b.lo).2 (has_cons.2 (.inl ⟨Int.le_refl _,hb⟩))) not_has_nil
 |a::l,[],hl,_,h=>by
  have ha:=hl.pos a (by simp)
  exact absurd ((h a.lo).1 (has_cons.2 (.inl ⟨Int.le_refl _,ha⟩))) not_has_nil
 |a::l,b::m,hl,hm,h=>by
  have ha:=hl.pos a (by simp)
  have hb:=hm.pos b (by simp)
  have first: ∀{x:Wn} {k:List Wn},Nf (x::k)→ ∀t,has (x::k) t→x.lo≤t:=fun {x k} hx t ht=>by
   have hp:=hx.pos x (by simp)
   rcases has_cons.1 ht with h1|h1
   ·exact h1.1
   ·have:=hx.later h1;omega
  have hlo:a.lo=b.lo:=by
   have h1:=first hm a.lo ((h a.lo).1 (has_cons.2 (.inl ⟨Int.le_refl _,ha⟩)))
   have h2:=first hl b.lo ((h b.lo).2 (has_cons.2 (.inl ⟨Int.le_refl _,hb⟩)))
   omega
  have stop: ∀{x:Wn} {k:List Wn},Nf (x::k)→ ¬has (x::k) x.hi:=fun {x k} hx ht=>by
   rcases has_cons.1 ht with h1|h1
   ·omega
   ·have:=hx.later h1;omega
  have hhi:a.hi=b.hi:=by
   rcases Int.lt_trichotomy a.hi b.hi with h1|h1|h1
   ·exact absurd ((h a.hi).2 (has_cons.2 (.inl ⟨by omega,h1⟩))) (stop hl)
   ·exact h1
   ·exact absurd ((h b.hi).1 (has_cons.2 (.inl ⟨by omega,h1⟩))) (stop hm)
  have hab:a=b:=by
   cases a;cases b
   simp only at hlo hhi
   rw [hlo,hhi]
  subst hab
  have ht: ∀t,has l t↔has m t:=fun t=>by
   constructor
   ·intro h1
    rcases has_cons.1 ((h t).1 (has_cons.2 (.inr h1))) with h2|h2
    ·have:=hl.later h1;omega
    ·exact h2
   ·intro h1
    rcases has_cons.1 ((h t).2 (has_cons.2 (.inr h1))) with h2|h2
    ·have:=hm.later h1;omega
    ·exact h2
  rw [Nf.unique hl.tail hm.tail ht]
theorem mergeF_ok {out:List Wn} {w:Wn} (h:Nf out) (hw:w.lo≤w.hi) (hlast: ∀z∈out,z.lo≤w.lo):Nf (mergeF out w)∧(∀t,has (mergeF out w) t↔has out t∨(w.lo≤t∧t<w.hi))∧ ∀z∈mergeF out w,z.lo≤w.lo:=by
 unfold mergeF
 by_cases he:w.lo=w.hi
 ·rw [if_pos he]
  exact ⟨h,fun t=>⟨.inl,fun h1=>by rcases h1 with h1|h1;exact h1;omega⟩,hlast⟩
 ·rw [if_neg he]
  rcases List.eq_nil_or_concat out with rfl|⟨l,z,rfl⟩
  ·refine ⟨⟨fun x hx=>?_,by simp⟩,fun t=>?_,fun x hx=>?_⟩
   ·simp at hx;subst hx;omega
   ·simp only [List.getLast?_nil,List.nil_append]
    rw [has_cons]
    exact or_comm
   ·simp at hx;subst hx;omega
  ·rw [List.concat_eq_append] at h hlast⊢
   rw [List.getLast?_append,List.getLast?_singleton]
   simp only [Option.some_or]
   have hz:=h.pos z (by simp)
   have hzl:=hlast z (by simp)
   have hp:=List.pairwise_append.1 h.apart
   by_cases hc:w.lo≤z.hi
   ·rw [if_pos hc,List.dropLast_concat]
    refine ⟨⟨fun x hx=>?_,?_⟩,fun t=>?_,fun x hx=>?_⟩
    ·rcases List.mem_append.1 hx with hx|hx
     ·exact h.pos x (List.mem_append.2 (.inl hx))
     ·simp at hx;subst hx;simp only;omega
    ·refine List.pairwise_append.2 ⟨hp.1,by simp,fun x hx y hy=>?_⟩
     simp at hy
     subst hy
     exact hp.2.2 x hx z (by simp)
    ·rw [has_append,has_append,has_cons,has_cons]
     have hn: ¬has [] t:=not_has_nil
     simp only
     constructor
     ·rintro (h1|h1|h1)
      ·exact .inl (.inl h1)
      ·by_cases h2:t<z.hi
       ·exact .inl (.inr (.inl ⟨h1.1,h2⟩))
       ·right;omega
      ·exact absurd h1 hn
     ·rintro ((h1|h1|h1)|h1)
      ·exact .inl h1
      ·exact .inr (.inl (by omega))
      ·exact absurd h1 hn
      ·exact .inr (.inl (by omega))
    ·rcases List.mem_append.1 hx with hx|hx
     ·exact hlast x (List.mem_append.2 (.inl hx))
     ·simp at hx;subst hx;exact hzl
   ·rw [if_neg hc]
    refine ⟨⟨fun x hx=>?_,?_⟩,fun t=>?_,fun x hx=>?_⟩
    ·rcases List.mem_append.1 hx with hx|hx
     ·exact h.pos x hx
     ·simp at hx;subst hx;omega
    ·refine List.pairwise_append.2 ⟨h.apart,by simp,fun x hx y hy=>?_⟩
     simp at hy
     subst hy
     rcases List.mem_append.1 hx with hx|hx
     ·have:=hp.2.2 x hx z (by simp);omega
     ·simp at hx;subst hx;omega
    ·rw [has_append,has_cons]
     have hn: ¬has [] t:=not_has_nil
     constructor
     ·rintro (h1|h1|h1)
      ·exact .inl h1
      ·exact .inr h1
      ·exact absurd h1 hn
     ·rintro (h1|h1)
      ·exact .inl h1
      ·exact .inr (.inl h1)
    ·rcases List.mem_append.1 hx with hx|hx
     ·exact hlast x hx
     ·simp at hx;subst hx;omega
theorem fold_ok: ∀(l out:List Wn),Nf out→(∀w∈l,w.lo≤w.hi)→l.Pairwise (fun a b=>a.lo≤b.lo)→(∀z∈out,∀w∈l,z.lo≤w.lo)→Nf (l.foldl mergeF out)∧ ∀t,has (l.foldl mergeF out) t↔has out t∨has l t
 |[],out,h,_,_,_=>⟨h,fun t=>⟨.inl,fun h1=>h1.elim id fun h2=>absurd h2 not_has_nil⟩⟩
 |w::l,out,h,hv,hs,hz=>by
  obtain ⟨h1,h2,h3⟩:=mergeF_ok h (hv w (by simp)) (fun z hzm=>hz z hzm w (by simp))
  have hs':=List.pairwise_cons.1 hs
  obtain ⟨h4,h5⟩:=fold_ok l (mergeF out w) h1 (fun x hx=>hv x (List.mem_cons_of_mem _ hx)) hs'.2 (fun z hzm x hx=>by
   have:=h3 z hzm
   have:=hs'.1 x hx
   omega)
  refine ⟨h4,fun t=>?_⟩
  rw [List.foldl_cons,h5,h2,has_cons,or_assoc]
theorem norm_nf {l:List Wn} (hv: ∀w∈l,w.lo≤w.hi) (hs:l.Pairwise fun a b=>a.lo≤b.lo):Nf (normP l)∧ ∀t,has (normP l) t↔has l t:=by
 obtain ⟨h1,h2⟩:=fold_ok l [] ⟨fun w hw=>(by cases hw),List.Pairwise.nil⟩ hv hs (fun z hz=>(by cases hz))
 exact ⟨h1,fun t=>by rw [show normP l=l.foldl mergeF [] from rfl,h2];exact ⟨fun h=>h.elim (fun h=>absurd h not_has_nil) id, .inr⟩⟩
theorem byLo_perm (l:List Wn):(byLo l).Perm l:=List.mergeSort_perm _ _
theorem byLo_sorted (l:List Wn):(byLo l).Pairwise fun a b=>a.lo≤b.lo:=by
 have:=List.pairwise_mergeSort (le:=fun x y:Wn=>decide (x.lo≤y.lo)) (fun a b c h1 h2=>by simp at*;omega) (fun a b=>by simp;omega) l
 exact this.imp fun h=>by simpa using h
theorem has_perm {l m:List Wn} (h:l.Perm m) (t:Int):has l t↔has m t:=by
 unfold has
 constructor
 ·rintro ⟨w,hw,h1⟩;exact ⟨w,h.mem_iff.1 hw,h1⟩
 ·rintro ⟨w,hw,h1⟩;exact ⟨w,h.mem_iff.2 hw,h1⟩
theorem union_nf {l:List Wn} (hv: ∀w∈l,w.lo≤w.hi):Nf (unionP l)∧ ∀t,has (unionP l) t↔has l t:=by
 obtain ⟨h1,h2⟩:=norm_nf (fun w hw=>hv w ((byLo_perm l).mem_iff.1 hw)) (byLo_sorted l)
 exact ⟨h1,fun t=>(h2 t).trans (has_perm (byLo_perm l) t)⟩
theorem norm_any {l s:List Wn} (hl: ∀w∈l,w.lo≤w.hi) (hp:s.Perm l) (hs:s.Pairwise fun a b=>a.lo≤b.lo):normP s=unionP l:=by
 obtain ⟨h1,h2⟩:=norm_nf (fun w hw=>hl w (hp.mem_iff.1 hw)) hs
 obtain ⟨h3,h4⟩:=union_nf hl
 exact Nf.unique h1 h3 fun t=>by rw [h2,h4,has_perm hp]
end Go.Proofs.Far
