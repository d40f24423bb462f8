import Derived.Test.YtakhechhnnjbcaaGreatBN08
import Derived.Test.YtakhechhnnjbcaaGreatBN04
import Derived.KernelRfl
import Derived.Test.YtakhechhnnjbcaaGreatTy
set_option maxRecDepth 100000
set_option maxHeartbeats 8000000
set_option linter.unusedVariables false
set_option linter.unusedSimpArgs false
namespace Go.Proofs.Cus
def trCb {β:Type} (g:PS→β) (z:List (Int×β)) (s:PS) (e:Ev) (er:Int):List (Int×β):=if er=0 then z++[(e.at_,g s)] else z
section
variable {β σ:Type} {f:Fl} {g:PS→β}
end
end Go.Proofs.Cus
namespace Go.Proofs.Cus
open Go Go.RowKit Go.Proofs.E
theorem flErr_ok {f:Fl} (h:flErr f=0):(1≤f.bikes∧f.bikes≤128)∧(0≤f.riders∧f.riders≤1000)∧(1≤f.devices∧f.devices≤256)∧f.docks.length≤32∧f.trucks.length≤8∧allIn f.docks 32=true∧allIn f.trucks 32=true:=by
 unfold flErr at h
 split at h
 ·cases h
 ·rename_i h1
  split at h
  ·cases h
  ·rename_i h2
   split at h
   ·cases h
   ·rename_i h3
    simp [within] at h1 h3
    refine ⟨?_,?_,?_,?_,?_,h3.1,h3.2⟩<;>omega
attribute [local irreducible] within allIn flErr
theorem placed_w (f:Fl) (a:FA) (e:Ev) (w:World) (hx:FlAt w f a) (hp: -9223372036854775808≤e.place∧e.place≤9223372036854775807):Calls Tryz.prog 60 #[.agg (f.cells a).toArray, .agg e.cells.toArray] w fun r w'=>r= .returned (.bool (placed f e))∧Bel w w':=by
 have hl:=hx.docks.1
 have hl2:=hx.trucks.1
 have hn2:=hx.trucks.2.1
 refine H_enter Tryz.func60 rfl Tryz.ntmps60 rfl ?_
 iterate 2 refine G ?_
 refine X_box (v:= .agg _) rfl rfl fun b2=>?_
 refine X_box (v:= .agg _) rfl rfl fun b3=>?_
 iterate 17 refine G ?_
 refine H_cond rfl ?_ ?_<;>intro h1
 ·have hk1:e.kind=1:=by simpa using h1
  by_cases hin:(decide (0≤e.place)&&decide (e.place.tdiv 32<(a.dn:Int)))=true
  case neg=>
   have hd:(decide (0≤e.place)&&decide (e.place.tdiv 32<(a.dn:Int)))=false:=by simpa using hin
   refine G ?_
   refine R1 rfl (by decide+kernel) ?_
   iterate 2 refine G ?_
   refine xV (e_quoT (q0 rfl) (q0 rfl) (fun _=>by omega)) rfl rfl ?_
   iterate 2 refine G ?_
   refine xV (e_remT (q0 rfl) (q0 rfl) (fun _=>by omega)) rfl rfl ?_
   iterate 17 refine G ?_
   refine xVT (e_dead (v:= .int .i64 0) (hd)) rfl rfl rfl rfl ?_
   refine xVT (e_dead (v:= .pointer none) (hd)) rfl rfl rfl rfl ?_
   refine xVT (e_dead (v:= .slice none 0 0) (hd)) rfl rfl rfl rfl ?_
   refine xVT (e_dead (v:= .int .i64 0) (hd)) rfl rfl rfl rfl ?_
   refine xVT (e_dead (v:= .pointer none) (hd)) rfl rfl rfl rfl ?_
   refine xVT (e_dead (v:= .int .i64 0) (hd)) rfl rfl rfl rfl ?_
   refine xVT (e_dead (v:= .bool false) (hd)) rfl rfl rfl rfl ?_
   iterate 7 refine G ?_
   exact ret1 (v:= .bool _) rfl rfl rfl fun w' hw=>⟨ret_bool (by unfold placed;rw [if_pos hk1,hl,hd];rfl),hw.1⟩
  case pos=>
   have h0:0≤e.place:=by simp at hin;exact hin.1
   have hlt:e.place.tdiv 32<(a.dn:Int):=by simp at hin;exact hin.2
   have hq:0≤e.place.tdiv 32:=Int.tdiv_nonneg h0 (by decide)
   have hj:e.place.tdiv 32=((e.place.tdiv 32).toNat:Int):=by omega
   have hjn:(e.place.tdiv 32).toNat<a.dn:=by omega
   obtain ⟨dA,dn,dc,tA,tn,tc⟩:=a
   obtain ⟨b,off,x,hA,hbl,hxk,hrx⟩:=hx.docks.at_ hjn
   simp only at hA
   subst hA
   refine G ?_
   refine R1 rfl (by decide+kernel) ?_
   iterate 2 refine G ?_
   refine xV (e_quoT (q0 rfl) (q0 rfl) (fun _=>by omega)) rfl rfl ?_
   iterate 2 refine G ?_
   refine xV (e_remT (q0 rfl) (q0 rfl) (fun _=>by omega)) rfl rfl ?_
   iterate 21 refine G ?_
   refine xVT (e_idx (e.place.tdiv 32).toNat Tryz.underlying22 Tryz.sizeOf3 (q1 rfl) (q1 rfl) (fun _=>⟨hj,hjn⟩)) rfl rfl rfl rfl ?_
   iterate 9 refine G ?_
   exact ret1 (v:= .bool _) rfl rfl rfl fun w' hw=>⟨ret_bool (by unfold placed;rw [if_pos hk1,List.getD_eq_getElem?_getD,hxk,hl];rfl),hw.1⟩
 ·have hk1: ¬e.kind=1:=by simpa using h1
  iterate 6 refine G ?_
  refine H_cond rfl ?_ ?_<;>intro h2
  ·iterate 4 refine G ?_
   refine xC (en Tryz.call59 (ha3 (q0 rfl) (q0 rfl) (q0 rfl))) (fun _ w _=>within_w e.place 0 63 w) rfl rfl ?_
   iterate 6 refine G ?_
   exact ret1 (v:= .bool _) rfl rfl rfl fun w' hw=>⟨ret_bool (by unfold placed;rw [if_neg hk1,if_pos (by simpa using h2)]),hw.1⟩
  ·iterate 6 refine G ?_
   refine H_cond rfl ?_ ?_<;>intro h7
   ·iterate 8 refine G ?_
    refine xC (en Tryz.call59 (ha3 (q0 rfl) (q0 rfl) (q0 rfl))) (fun _ w _=>within_w e.place 0 ((a.tn:Int) -1) w) rfl rfl ?_
    iterate 6 refine G ?_
    exact ret1 (v:= .bool _) rfl rfl rfl fun w' hw=>⟨ret_bool (by unfold placed;rw [if_neg hk1,if_neg (by simpa using h2),if_pos (by simpa using h7),hl2]),hw.1⟩
   ·iterate 12 refine G ?_
    exact ret1 (v:= .bool _) rfl rfl rfl fun w' hw=>⟨ret_bool (by unfold placed;rw [if_neg hk1,if_neg (by simpa using h2),if_neg (by simpa using h7)]),hw.1⟩
attribute [local irreducible] placed
theorem named_w (f:Fl) (a:FA) (e:Ev) (w:World) (hr:0≤f.riders∧f.riders≤1000):Calls Tryz.prog 61 #[.agg (f.cells a).toArray, .agg e.cells.toArray] w fun r w'=>r= .returned (.bool (named f e))∧Bel w w':=by
 refine H_enter Tryz.func61 rfl Tryz.ntmps61 rfl ?_
 iterate 2 refine G ?_
 refine X_box (v:= .agg _) rfl rfl fun b2=>?_
 refine X_box (v:= .agg _) rfl rfl fun b3=>?_
 iterate 4 refine G ?_
 refine R1 rfl (by decide+kernel) ?_
 iterate 18 refine G ?_
 refine H_cond rfl ?_ ?_<;>intro h3
 ·have hk:e.kind=3:=by simpa using h3
  iterate 6 refine G ?_
  refine xC (en Tryz.call59 (ha3 (q0 rfl) (q0 rfl) (q0 rfl))) (fun _ w _=>within_w e.rider 0 (f.riders -1) w) rfl rfl ?_
  iterate 16 refine G ?_
  refine H_cond rfl ?_ ?_<;>intro h4
  ·iterate 3 refine G ?_
   refine xC (en Tryz.call59 (ha3 (q0 rfl) (q0 rfl) (q0 rfl))) (fun _ w _=>within_w e.ride 1 1000000 w) rfl rfl ?_
   iterate 13 refine G ?_
   exact ret1 (v:= .bool _) rfl rfl rfl fun w' hw=>⟨ret_bool (by unfold named;rw [if_pos hk,if_pos (Or.inl hk)]),hw.1⟩
  ·simp [hk] at h4
 ·have hk: ¬e.kind=3:=by simpa using h3
  iterate 15 refine G ?_
  refine H_cond rfl ?_ ?_<;>intro h4
  ·iterate 3 refine G ?_
   refine xC (en Tryz.call59 (ha3 (q0 rfl) (q0 rfl) (q0 rfl))) (fun _ w _=>within_w e.ride 1 1000000 w) rfl rfl ?_
   iterate 13 refine G ?_
   exact ret1 (v:= .bool _) rfl rfl rfl fun w' hw=>⟨ret_bool (by unfold named;rw [if_neg hk,if_pos (by simpa using h4)]),hw.1⟩
  ·iterate 12 refine G ?_
   exact ret1 (v:= .bool _) rfl rfl rfl fun w' hw=>⟨ret_bool (by unfold named;rw [if_neg hk,if_neg (by simpa using h4)]),hw.1⟩
attribute [local irreducible] named
theorem check_w (f:Fl) (a:FA) (e:Ev) (w:World) (hx:FlAt w f a) (hp: -9223372036854775808≤e.place∧e.place≤9223372036854775807):Calls Tryz.prog 25 #[.agg (f.cells a).toArray, .agg e.cells.toArray] w fun r w'=>r= .returned (.int .i64 (evErr f e))∧Bel w w':=by
 refine H_enter Tryz.func25 rfl Tryz.ntmps25 rfl ?_
 refine H_seq ?_
 refine R0 ?_
 refine X_box (v:= .agg _) rfl rfl fun b2=>?_
 refine X_box (v:= .agg _) rfl rfl fun b3=>?_
 refine xV (e_as (v:= .int _ _) (q0 rfl)) rfl rfl ?_
 refine XN ?_
 refine thenJ_normal ?_
 refine H_seq ?_
 refine H_seq ?_
 refine R0 ?_
 refine xV (eS Tryz.isAgg24 Tryz.sizeOf24 (q0 rfl)) rfl rfl ?_
 refine xC (en Tryz.call58 (ha1 (q0 rfl))) (fun _ w hm=>fleet_w f a w (hx.mem hm)) rfl rfl ?_
 refine xV (e_as (v:= .int _ _) (q0 rfl)) rfl rfl ?_
 refine XN ?_
 refine thenJ_normal ?_
 refine H_seq ?_
 refine R0 ?_
 refine xV (e_mv (v:= .int _ _) (q0 rfl)) rfl rfl ?_
 refine xV (e_ne (q0 rfl) (q0 rfl)) rfl rfl ?_
 refine XN ?_
 refine thenJ_normal ?_
 refine H_cond rfl (fun h0=>?_) (fun h0=>?_)
 ·refine H_seq ?_
  refine R0 ?_
  refine xV (e_mv (v:= .int _ _) (q0 rfl)) rfl rfl ?_
  refine xV (e_as (v:= .int _ _) (q0 rfl)) rfl rfl ?_
  refine XN ?_
  refine thenJ_normal ?_
  refine H_ret ?_
  refine thenJ_ret ?_
  exact ret1 (v:= .int _ _) rfl rfl rfl fun w' hw=>⟨ret_int (by unfold evErr;rw [if_pos (by simpa using h0)]),hw.1⟩
 ·have hf:flErr f=0:=by simpa using h0
  have hf': ¬flErr f≠0:=by simpa using hf
  have hb:=flErr_ok hf
  refine H_skip ?_
  refine thenJ_normal ?_
  refine H_seq ?_
  refine H_seq ?_
  refine R0 ?_
  refine xV (e_fld Tryz.underlying58 rfl Tryz.sizeOf3 rfl (q0 rfl)) rfl rfl ?_
  refine xV (eL Tryz.isAgg3 (q0 rfl)) rfl rfl ?_
  refine xV (e_fld Tryz.underlying24 rfl Tryz.sizeOf3 rfl (q0 rfl)) rfl rfl ?_
  refine xV (eL Tryz.isAgg3 (q0 rfl)) rfl rfl ?_
  refine xV (e_sub (q0 rfl) (q0 rfl) (fun _=>⟨rfl,by omega,by omega⟩)) rfl rfl ?_
  refine xC (en Tryz.call59 (ha3 (q0 rfl) (q0 rfl) (q0 rfl))) (fun _ w _=>within_w e.device 0 (f.devices -1) w) rfl rfl ?_
  refine xV (e_not (q0 rfl)) rfl rfl ?_
  refine xV (e_mv (v:= .bool _) (q0 rfl)) rfl rfl ?_
  refine xVF (e_fld Tryz.underlying58 rfl Tryz.sizeOf3 rfl (q0 rfl)) rfl rfl rfl rfl ?_
  refine xVF (eL Tryz.isAgg3 (q1 rfl)) rfl rfl rfl rfl ?_
  refine xCF (en Tryz.call59 (ha3 (q1 (v:= .int _ _) rfl) (q0 rfl) (q0 rfl))) (fun _ w _=>within_w e.seq 1 1048576 w) rfl rfl rfl rfl ?_
  refine xVF (e_not (q1 rfl)) rfl rfl rfl rfl ?_
  refine xV (e_or (q0 rfl) rfl (fun h=>by first|rfl|(rw [h];rfl))) rfl rfl ?_
  refine xV (e_mv (v:= .bool _) (q0 rfl)) rfl rfl ?_
  refine xVF (e_fld Tryz.underlying58 rfl Tryz.sizeOf3 rfl (q0 rfl)) rfl rfl rfl rfl ?_
  refine xVF (eL Tryz.isAgg3 (q1 rfl)) rfl rfl rfl rfl ?_
  refine xVF (e_lt (q1 rfl) (q0 rfl)) rfl rfl rfl rfl ?_
  refine xV (e_or (q0 rfl) rfl (fun h=>by first|rfl|(rw [h];rfl))) rfl rfl ?_
  refine xV (e_mv (v:= .bool _) (q0 rfl)) rfl rfl ?_
  refine xVF (e_fld Tryz.underlying58 rfl Tryz.sizeOf3 rfl (q0 rfl)) rfl rfl rfl rfl ?_
  refine xVF (eL Tryz.isAgg3 (q1 rfl)) rfl rfl rfl rfl ?_
  refine xVF (e_fld Tryz.underlying58 rfl Tryz.sizeOf3 rfl (q0 rfl)) rfl rfl rfl rfl ?_
  refine xVF (eL Tryz.isAgg3 (q1 rfl)) rfl rfl rfl rfl ?_
  refine xVF (e_lt (q1 rfl) (q1 rfl)) rfl rfl rfl rfl ?_
  refine xV (e_or (q0 rfl) rfl (fun h=>by first|rfl|(rw [h];rfl))) rfl rfl ?_
  refine xV (e_mv (v:= .bool _) (q0 rfl)) rfl rfl ?_
  refine xVF (e_fld Tryz.underlying58 rfl Tryz.sizeOf3 rfl (q0 rfl)) rfl rfl rfl rfl ?_
  refine xVF (eL Tryz.isAgg3 (q1 rfl)) rfl rfl rfl rfl ?_
  refine xVF (e_gt (q1 rfl) (q0 rfl)) rfl rfl rfl rfl ?_
  refine xV (e_or (q0 rfl) rfl (fun h=>by first|rfl|(rw [h];rfl))) rfl rfl ?_
  refine XN ?_
  refine thenJ_normal ?_
  refine H_cond rfl (fun h1=>?_) (fun h1=>?_)
  ·refine H_seq ?_
   refine R0 ?_
   refine xV (e_as (v:= .int _ _) (q0 rfl)) rfl rfl ?_
   refine XN ?_
   refine thenJ_normal ?_
   refine H_ret ?_
   refine thenJ_ret ?_
   exact ret1 (v:= .int _ _) rfl rfl rfl fun w' hw=>⟨ret_int (by unfold evErr;rw [if_neg hf',if_pos h1]),hw.1⟩
  ·have h1': ¬((((!within e.device 0 (f.devices -1)||!within e.seq 1 1048576)||decide (e.at_<0))||decide (e.late<e.at_))||decide (4294943999<e.late))=true:=by rw [show _=false from h1];decide
   refine H_skip ?_
   refine thenJ_normal ?_
   refine H_seq ?_
   refine H_seq ?_
   refine R0 ?_
   refine xV (e_fld Tryz.underlying58 rfl Tryz.sizeOf3 rfl (q0 rfl)) rfl rfl ?_
   refine xV (eL Tryz.isAgg3 (q0 rfl)) rfl rfl ?_
   refine xC (en Tryz.call59 (ha3 (q0 rfl) (q0 rfl) (q0 rfl))) (fun _ w _=>within_w e.kind 1 10 w) rfl rfl ?_
   refine xV (e_not (q0 rfl)) rfl rfl ?_
   refine XN ?_
   refine thenJ_normal ?_
   refine H_cond rfl (fun h2=>?_) (fun h2=>?_)
   ·refine H_seq ?_
    refine R0 ?_
    refine xV (e_as (v:= .int _ _) (q0 rfl)) rfl rfl ?_
    refine XN ?_
    refine thenJ_normal ?_
    refine H_ret ?_
    refine thenJ_ret ?_
    exact ret1 (v:= .int _ _) rfl rfl rfl fun w' hw=>⟨ret_int (by unfold evErr;rw [if_neg hf',if_neg h1',if_pos (by simpa using h2)]),hw.1⟩
   ·have h2': ¬within e.kind 1 10=false:=by simpa using h2
    refine H_skip ?_
    refine thenJ_normal ?_
    refine H_seq ?_
    refine H_seq ?_
    refine R0 ?_
    refine xV (e_fld Tryz.underlying58 rfl Tryz.sizeOf3 rfl (q0 rfl)) rfl rfl ?_
    refine xV (eL Tryz.isAgg3 (q0 rfl)) rfl rfl ?_
    refine xV (e_fld Tryz.underlying24 rfl Tryz.sizeOf3 rfl (q0 rfl)) rfl rfl ?_
    refine xV (eL Tryz.isAgg3 (q0 rfl)) rfl rfl ?_
    refine xV (e_sub (q0 rfl) (q0 rfl) (fun _=>⟨rfl,by omega,by omega⟩)) rfl rfl ?_
    refine xC (en Tryz.call59 (ha3 (q0 rfl) (q0 rfl) (q0 rfl))) (fun _ w _=>within_w e.bike 0 (f.bikes -1) w) rfl rfl ?_
    refine xV (e_not (q0 rfl)) rfl rfl ?_
    refine xV (e_mv (v:= .bool _) (q0 rfl)) rfl rfl ?_
    refine xVF (e_fld Tryz.underlying58 rfl Tryz.sizeOf3 rfl (q0 rfl)) rfl rfl rfl rfl ?_
    refine xVF (eL Tryz.isAgg3 (q1 rfl)) rfl rfl rfl rfl ?_
    refine xVF (e_eq (q1 rfl) (q0 rfl)) rfl rfl rfl rfl ?_
    refine xVF (e_mv (v:= .bool _) (q1 rfl)) rfl rfl rfl rfl ?_
    refine xVT2 (e_fld Tryz.underlying58 rfl Tryz.sizeOf3 rfl (q0 rfl)) rfl rfl rfl rfl ?_
    refine xVT2 (eL Tryz.isAgg3 (q1 rfl)) rfl rfl rfl rfl ?_
    refine xVT2 (e_ne (q1 rfl) (q0 rfl)) rfl rfl rfl rfl ?_
    refine xVF (e_and (q1 rfl) rfl (fun h=>by first|rfl|(rw [h];rfl))) rfl rfl rfl rfl ?_
    refine xV (e_or (q0 rfl) rfl (fun h=>by first|rfl|(rw [h];rfl))) rfl rfl ?_
    refine XN ?_
    refine thenJ_normal ?_
    refine H_cond rfl (fun h3=>?_) (fun h3=>?_)
    ·refine H_seq ?_
     refine R0 ?_
     refine xV (e_as (v:= .int _ _) (q0 rfl)) rfl rfl ?_
     refine XN ?_
     refine thenJ_normal ?_
     refine H_ret ?_
     refine thenJ_ret ?_
     exact ret1 (v:= .int _ _) rfl rfl rfl fun w' hw=>⟨ret_int (by unfold evErr;rw [if_neg hf',if_neg h1',if_neg h2',if_pos h3]),hw.1⟩
    ·have h3': ¬(!within e.bike 0 (f.bikes -1)||(decide (e.kind=10)&&!decide (e.bike=0)))=true:=by rw [show _=false from h3];decide
     refine H_skip ?_
     refine thenJ_normal ?_
     refine H_seq ?_
     refine H_seq ?_
     refine R0 ?_
     refine xV (eS Tryz.isAgg24 Tryz.sizeOf24 (q0 rfl)) rfl rfl ?_
     refine xV (eS Tryz.isAgg58 Tryz.sizeOf58 (q0 rfl)) rfl rfl ?_
     refine xC (en Tryz.call60 (ha2 (q0 rfl) (q0 rfl))) (fun _ w hm=>placed_w f a e w (hx.mem hm) hp) rfl rfl ?_
     refine xV (e_not (q0 rfl)) rfl rfl ?_
     refine XN ?_
     refine thenJ_normal ?_
     refine H_cond rfl (fun h4=>?_) (fun h4=>?_)
     ·refine H_seq ?_
      refine R0 ?_
      refine xV (e_as (v:= .int _ _) (q0 rfl)) rfl rfl ?_
      refine XN ?_
      refine thenJ_normal ?_
      refine H_ret ?_
      refine thenJ_ret ?_
      exact ret1 (v:= .int _ _) rfl rfl rfl fun w' hw=>⟨ret_int (by unfold evErr;rw [if_neg hf',if_neg h1',if_neg h2',if_neg h3',if_pos (by simpa using h4)]),hw.1⟩
     ·have h4': ¬placed f e=false:=by simpa using h4
      refine H_skip ?_
      refine thenJ_normal ?_
      refine H_seq ?_
      refine H_seq ?_
      refine R0 ?_
      refine xV (eS Tryz.isAgg24 Tryz.sizeOf24 (q0 rfl)) rfl rfl ?_
      refine xV (eS Tryz.isAgg58 Tryz.sizeOf58 (q0 rfl)) rfl rfl ?_
      refine xC (en Tryz.call61 (ha2 (q0 rfl) (q0 rfl))) (fun _ w hm=>named_w f a e w hb.2.1) rfl rfl ?_
      refine xV (e_not (q0 rfl)) rfl rfl ?_
      refine XN ?_
      refine thenJ_normal ?_
      refine H_cond rfl (fun h5=>?_) (fun h5=>?_)
      ·refine H_seq ?_
       refine R0 ?_
       refine xV (e_as (v:= .int _ _) (q0 rfl)) rfl rfl ?_
       refine XN ?_
       refine thenJ_normal ?_
       refine H_ret ?_
       refine thenJ_ret ?_
       exact ret1 (v:= .int _ _) rfl rfl rfl fun w' hw=>⟨ret_int (by unfold evErr;rw [if_neg hf',if_neg h1',if_neg h2',if_neg h3',if_neg h4',if_pos (by simpa using h5)]),hw.1⟩
      ·refine H_skip ?_
       refine thenJ_normal ?_
       refine H_seq ?_
       refine R0 ?_
       refine xV (e_as (v:= .int _ _) (q0 rfl)) rfl rfl ?_
       refine XN ?_
       refine thenJ_normal ?_
       refine H_ret ?_
       exact ret1 (v:= .int _ _) rfl rfl rfl fun w' hw=>⟨ret_int (by unfold evErr;rw [if_neg hf',if_neg h1',if_neg h2',if_neg h3',if_neg h4',if_neg (by simpa using h5)]),hw.1⟩
end Go.Proofs.Cus
namespace Go.Proofs.Cus
open Go Go.RowKit Go.Proofs.E
theorem lexCmp_drop {l r:List Int} {k:Nat} {x y:Int} (hx:l[k]?=some x) (hy:r[k]?=some y):lexCmp (l.drop k) (r.drop k)=if cmpI x y≠0 then cmpI x y else lexCmp (l.drop (k+1)) (r.drop (k+1)):=by
 obtain ⟨h1,h2⟩:=List.getElem?_eq_some_iff.1 hx
 obtain ⟨h3,h4⟩:=List.getElem?_eq_some_iff.1 hy
 rw [List.drop_eq_getElem_cons h1,List.drop_eq_getElem_cons h3,h2,h4]
 rfl
theorem isNaN_w (n:Int) (w:World):Calls Tryz.prog 159 #[.int .i64 n] w fun e w'=>e= .returned (.bool false)∧Bel w w':=by
 refine H_enter Tryz.func159 rfl Tryz.ntmps159 rfl ?_
 iterate 14 refine G ?_
 exact ret1 (v:= .bool _) rfl rfl rfl fun w' hw=>⟨ret_bool (by simp),hw.1⟩
theorem compare_w (a b:Int) (w:World):Calls Tryz.prog 104 #[.int .i64 a, .int .i64 b] w fun e w'=>e= .returned (.int .i64 (cmpI a b))∧Bel w w':=by
 refine H_enter Tryz.func104 rfl Tryz.ntmps104 rfl ?_
 iterate 8 refine G ?_
 refine xC (en Tryz.call159 (ha1 (q0 rfl))) (fun _ w _=>isNaN_w a w) rfl rfl ?_
 iterate 6 refine G ?_
 refine xC (en Tryz.call159 (ha1 (q0 rfl))) (fun _ w _=>isNaN_w b w) rfl rfl ?_
 iterate 9 refine G ?_
 refine H_cond rfl ?_ ?_<;>intro h1
 ·cases h1
 ·iterate 8 refine G ?_
  refine H_cond rfl ?_ ?_<;>intro h2
  ·cases h2
  ·iterate 10 refine G ?_
   refine H_cond rfl ?_ ?_<;>intro h3
   ·iterate 7 refine G ?_
    exact ret1 (v:= .int _ _) rfl rfl rfl fun w' hw=>⟨ret_int (by unfold cmpI;rw [if_pos (by simpa using h3)]),hw.1⟩
   ·iterate 10 refine G ?_
    refine H_cond rfl ?_ ?_<;>intro h4
    ·iterate 7 refine G ?_
     exact ret1 (v:= .int _ _) rfl rfl rfl fun w' hw=>⟨ret_int (by unfold cmpI;rw [if_neg (by simpa using h3),if_pos (by simpa using h4)]),hw.1⟩
    ·iterate 8 refine G ?_
     exact ret1 (v:= .int _ _) rfl rfl rfl fun w' hw=>⟨ret_int (by unfold cmpI;rw [if_neg (by simpa using h3),if_neg (by simpa using h4)]),hw.1⟩
theorem or_w (A:Option Addr) (n c:Nat) (xs:List Int) (w:World) (hx:IntsAt w A n xs):Calls Tryz.prog 109 #[.slice A n c] w fun e w'=>e= .returned (.int .i64 (orI xs))∧Bel w w':=by
 have hl:=hx.1
 have hn:=hx.2.1
 refine H_enter Tryz.func109 rfl Tryz.ntmps109 rfl ?_
 iterate 19 refine G ?_
 refine H_loop [2,5,8,9,10,11,12,13,14,15,16] (fun k:Nat=>[(8, .int .i64 k)]) (fun _=>_) (fun k=>k≤n∧(xs.take k).find? (fun x=>decide (x≠0))=none) (fun k=>n -k) 0 ⟨rfl,trivial⟩ (fun _ h=>h) rfl ⟨Nat.zero_le _,rfl⟩ ?_
 rintro k g ⟨hk,hno⟩
 iterate 6 refine G ?_
 refine H_cond rfl ?_ ?_<;>intro hlt
 ·simp at hlt
  obtain ⟨b,off,x,rfl,hbl,hxk,hrx⟩:=hx.at_ hlt
  iterate 6 refine G ?_
  refine xV (e_idx _ Tryz.underlying22 Tryz.sizeOf3 (q0 rfl) (q0 rfl) (fun _=>⟨rfl,by omega⟩)) rfl rfl ?_
  iterate 11 refine G ?_
  refine H_cond rfl ?_ ?_<;>intro h0
  ·iterate 12 refine G ?_
   exact ret1 (v:= .int _ _) rfl rfl rfl fun w' hw=>⟨ret_int (by
    unfold orI
    have h0':x≠0:=by simpa using h0
    rw [←List.take_append_drop k xs,List.find?_append,hno]
    obtain ⟨q1,q2⟩:=List.getElem?_eq_some_iff.1 hxk
    rw [List.drop_eq_getElem_cons q1,q2]
    simp [h0']),hw.1⟩
  ·iterate 7 refine G ?_
   exact loopJ_normal (k+1) agr ⟨rfl,trivial⟩ (fun _ h=>h) rfl ⟨by omega,by rw [take_snoc _ _ _ hxk,List.find?_append,hno];simp at h0;simp [h0]⟩ (by show n -(k+1)<n -k;omega)
 ·obtain rfl:k=n:=by simp at hlt;omega
  iterate 12 refine G ?_
  exact ret1 (v:= .int _ _) rfl rfl rfl fun w' hw=>⟨ret_int (by unfold orI;rw [List.take_of_length_le (by omega)] at hno;rw [hno];rfl),hw.1⟩
def keyCells (e:Ev):List Value:=e.keys.map (.int .i64)
theorem keyCells_at {e:Ev} {k:Nat} {x:Int} (h:e.keys[k]?=some x):(keyCells e)[0+k*1]?=some (.int .i64 x):=by
 unfold keyCells;simp [h]
attribute [local irreducible] cmpI lexCmp
theorem evCmp_w (a b:Ev) (w:World):Calls Tryz.prog 252 #[.agg a.cells.toArray, .agg b.cells.toArray] w fun e w'=>e= .returned (.int .i64 (evCmp a b))∧Bel w w':=by
 refine H_enter Tryz.func252 rfl Tryz.ntmps252 rfl ?_
 iterate 2 refine G ?_
 refine X_box (v:= .agg _) rfl rfl fun b2=>?_
 refine X_box (v:= .agg _) rfl rfl fun b3=>?_
 iterate 23 refine G ?_
 refine xV (e_buildA Tryz.underlying377 Tryz.sizeOf3 Tryz.zeroValue377 (pt (v:= .int _ _) rfl (pt (v:= .int _ _) rfl (pt (v:= .int _ _) rfl (pt (v:= .int _ _) rfl (pt (v:= .int _ _) rfl (pt (v:= .int _ _) rfl (pt (v:= .int _ _) rfl (pt (v:= .int _ _) rfl (pt (v:= .int _ _) rfl E.p0))))))))) rfl) rfl rfl ?_
 refine X_alloc Tryz.zeroValue377 rfl fun b5=>?_
 refine X_st (v:= .agg _) rfl rfl Tryz.sizeOf377 ?_
 iterate 22 refine G ?_
 refine xV (e_buildA Tryz.underlying377 Tryz.sizeOf3 Tryz.zeroValue377 (pt (v:= .int _ _) rfl (pt (v:= .int _ _) rfl (pt (v:= .int _ _) rfl (pt (v:= .int _ _) rfl (pt (v:= .int _ _) rfl (pt (v:= .int _ _) rfl (pt (v:= .int _ _) rfl (pt (v:= .int _ _) rfl (pt (v:= .int _ _) rfl E.p0))))))))) rfl) rfl rfl ?_
 refine X_alloc Tryz.zeroValue377 rfl fun b6=>?_
 refine X_st (v:= .agg _) rfl rfl Tryz.sizeOf377 ?_
 iterate 9 refine G ?_
 refine H_loop [4,7,8,47,48,49,50,51,52,53,54,55,56,57,58,59,60] (fun k:Nat=>[(47, .int .i64 k)]) (fun _=>[box b6 377 (keyCells b),box b5 377 (keyCells a)]) (fun k=>k≤9∧evCmp a b=lexCmp (a.keys.drop k) (b.keys.drop k)) (fun k=>9 -k) 0 ⟨rfl,trivial⟩ (fun w hw=>hw.pick [0,1] (by decide)) rfl ⟨Nat.zero_le _,rfl⟩ ?_
 rintro k g ⟨hk,hev⟩
 iterate 6 refine G ?_
 refine H_cond rfl ?_ ?_<;>intro hlt
 ·simp at hlt
  obtain ⟨x,hx⟩: ∃x,a.keys[k]?=some x:=⟨_,List.getElem?_eq_getElem (by show k<9;omega)⟩
  obtain ⟨y,hy⟩: ∃y,b.keys[k]?=some y:=⟨_,List.getElem?_eq_getElem (by show k<9;omega)⟩
  have hd:=lexCmp_drop hx hy
  iterate 11 refine G ?_
  refine R1 rfl (by decide+kernel) ?_
  refine G ?_
  refine xV (e_idxA _ Tryz.underlying377 Tryz.sizeOf3 (q0 rfl) (q0 rfl) (fun _=>⟨rfl,by omega⟩)) rfl rfl ?_
  refine xV (e_ld Tryz.isAgg3 (q0 rfl) (bx 1 rfl (keyCells_at hx))) rfl rfl ?_
  refine G ?_
  refine xV (e_idxA _ Tryz.underlying377 Tryz.sizeOf3 (q0 rfl) (q0 rfl) (fun _=>⟨rfl,by omega⟩)) rfl rfl ?_
  refine xV (e_ld Tryz.isAgg3 (q0 rfl) (bx 0 rfl (keyCells_at hy))) rfl rfl ?_
  refine xC (en Tryz.call104 (ha2 (q0 rfl) (q0 rfl))) (fun _ w _=>compare_w x y w) rfl rfl ?_
  iterate 9 refine G ?_
  refine H_cond rfl ?_ ?_<;>intro hc
  ·iterate 12 refine G ?_
   exact ret1 (v:= .int _ _) rfl rfl rfl fun w' hw=>⟨ret_int (by rw [hev,hd,if_pos (by simpa using hc)]),hw.1⟩
  ·iterate 7 refine G ?_
   exact loopJ_normal (k+1) agr ⟨rfl,trivial⟩ (fun _ h=>h) rfl ⟨by omega,by rw [hev,hd,if_neg (by simpa using hc)]⟩ (by show 9 -(k+1)<9 -k;omega)
 ·obtain rfl:k=9:=by simp at hlt;omega
  iterate 11 refine G ?_
  exact ret1 (v:= .int _ _) rfl rfl rfl fun w' hw=>⟨ret_int (by rw [hev];unfold lexCmp;rfl),hw.1⟩
end Go.Proofs.Cus
