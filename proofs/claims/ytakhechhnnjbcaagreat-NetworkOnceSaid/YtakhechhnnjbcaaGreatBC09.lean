import Derived.Test.YtakhechhnnjbcaaGreatBC08
import Derived.Test.YtakhechhnnjbcaaGreatBC04
import Derived.KernelRfl
import Derived.Test.YtakhechhnnjbcaaGreatTc
set_option maxRecDepth 100000
set_option maxHeartbeats 8000000
set_option linter.unusedVariables false
set_option linter.unusedSimpArgs false
namespace Go.Proofs.Cus
def Bu {β:Type} (g:PS→β) (z:List (Int×β)) (s:PS) (e:Ev) (er:Int):List (Int×β):=if er=0 then z++[(e.at_,g s)] else z
section
variable {β σ:Type} {f:Fl} {g:PS→β}
theorem Ga {cb:σ→PS→Ev→Int→σ} (l m:List Ev) (x:PS×σ):jD f cb (l++m) x=jD f cb m (jD f cb l x):=by unfold jD;rw [df]
end
end Go.Proofs.Cus
namespace Go.Proofs.Cus
open Go Go.RowKit Go.Proofs.E
theorem rl {f:Fl} (h:fR f=0):(1≤f.eV∧f.eV≤128)∧(0≤f.na∧f.na≤1000)∧(1≤f.aH∧f.aH≤256)∧f.gk.length≤32∧f.eJ.length≤8∧yQ f.gk 32=true∧yQ f.eJ 32=true:=by
 unfold fR at h;split at h
 ·cases h
 rename_i h1;split at h
 ·cases h
 rename_i h2;split at h
 ·cases h
 rename_i h3;simp [within] at h1 h3;refine ⟨?_,?_,?_,?_,?_,h3.1,h3.2⟩<;>omega
attribute [local irreducible] within yQ fR
theorem M1 (f:Fl) (a:FA) (e:Ev) (w:World) (hx:kp w f a) (hp: -9223372036854775808≤e.place∧e.place≤9223372036854775807):Calls Tryz.prog 60 #[.agg (f.cells a).toArray, .agg e.cells.toArray] w fun r w'=>r= .returned (.bool (qa f e))∧gz w w':=by
 have hl:=hx.gk.1;have hl2:=hx.eJ.1;have hn2:=hx.eJ.2.1;refine aS Tryz.func60 rfl Tryz.ntmps60 rfl ?_;iterate 2 refine G ?_
 refine cd (v:= .agg _) rfl rfl fun b2=>?_;refine cd (v:= .agg _) rfl rfl fun b3=>?_;iterate 17 refine G ?_
 refine au rfl ?_ ?_<;>intro h1
 ·have hk1:e.kind=1:=by simpa using h1
  by_cases hin:(decide (0≤e.place)&&decide (e.place.tdiv 32<(a.dn:Int)))=true
  case neg=>
   have hd:(decide (0≤e.place)&&decide (e.place.tdiv 32<(a.dn:Int)))=false:=by simpa using hin
   refine G ?_;refine tB ?_;iterate 2 refine G ?_
   refine bO (Oe (q0 rfl) (q0 rfl) (fun _=>by omega)) ?_;iterate 2 refine G ?_
   refine bO (Od (q0 rfl) (q0 rfl) (fun _=>by omega)) ?_;iterate 17 refine G ?_
   refine qV (jG (v:= .int .i64 0) (hd)) rfl rfl ?_;refine qV (jG (v:= .pointer none) (hd)) rfl rfl ?_;refine qV (jG (v:= .slice none 0 0) (hd)) rfl rfl ?_;refine qV (jG (v:= .int .i64 0) (hd)) rfl rfl ?_;refine qV (jG (v:= .pointer none) (hd)) rfl rfl ?_;refine qV (jG (v:= .int .i64 0) (hd)) rfl rfl ?_;refine qV (jG (v:= .bool false) (hd)) rfl rfl ?_;iterate 7 refine G ?_
   exact bH (v:= .bool _) rfl rfl rfl fun w' hw=>⟨fK (by unfold qa;rw [av hk1,hl,hd];rfl),hw.1⟩
  case pos=>
   have h0:0≤e.place:=by simp at hin;exact hin.1
   have hlt:e.place.tdiv 32<(a.dn:Int):=by simp at hin;exact hin.2
   have hq:0≤e.place.tdiv 32:=UO h0 (by decide);have hj:e.place.tdiv 32=((e.place.tdiv 32).toNat:Int):=by omega
   have hjn:(e.place.tdiv 32).toNat<a.dn:=by omega
   obtain ⟨dA,dn,dc,tA,tn,tc⟩:=a;obtain ⟨b,off,x,hA,hbl,hxk,hrx⟩:=hx.gk.at_ hjn;simp only at hA;subst hA;refine G ?_;refine tB ?_;iterate 2 refine G ?_
   refine bO (Oe (q0 rfl) (q0 rfl) (fun _=>by omega)) ?_;iterate 2 refine G ?_
   refine bO (Od (q0 rfl) (q0 rfl) (fun _=>by omega)) ?_;iterate 21 refine G ?_
   refine qV (bt (e.place.tdiv 32).toNat ak ax (q1 rfl) (q1 rfl) (fun _=>⟨hj,hjn⟩)) rfl rfl ?_;iterate 9 refine G ?_
   exact bH (v:= .bool _) rfl rfl rfl fun w' hw=>⟨fK (by unfold qa;rw [av hk1,aq,hxk,hl];rfl),hw.1⟩
 have hk1: ¬e.kind=1:=by simpa using h1
 iterate 6 refine G ?_
 refine au rfl ?_ ?_<;>intro h2
 ·iterate 4 refine G ?_
  refine gV (en pY (nj (q0 rfl) (q0 rfl) (q0 rfl))) (fun _ w _=>kP e.place 0 63 w) ?_;iterate 6 refine G ?_
  exact bH (v:= .bool _) rfl rfl rfl fun w' hw=>⟨fK (by unfold qa;rw [ah hk1,av (by simpa using h2)]),hw.1⟩
 iterate 6 refine G ?_
 refine au rfl ?_ ?_<;>intro h7
 ·iterate 8 refine G ?_
  refine gV (en pY (nj (q0 rfl) (q0 rfl) (q0 rfl))) (fun _ w _=>kP e.place 0 ((a.tn:Int) -1) w) ?_;iterate 6 refine G ?_
  exact bH (v:= .bool _) rfl rfl rfl fun w' hw=>⟨fK (by unfold qa;rw [ah hk1,ah (by simpa using h2),av (by simpa using h7),hl2]),hw.1⟩
 iterate 12 refine G ?_
 exact bH (v:= .bool _) rfl rfl rfl fun w' hw=>⟨fK (by unfold qa;rw [ah hk1,ah (by simpa using h2),ah (by simpa using h7)]),hw.1⟩
attribute [local irreducible] qa
theorem Qo (f:Fl) (a:FA) (e:Ev) (w:World) (hr:0≤f.na∧f.na≤1000):Calls Tryz.prog 61 #[.agg (f.cells a).toArray, .agg e.cells.toArray] w fun r w'=>r= .returned (.bool (named f e))∧gz w w':=by
 refine aS Tryz.func61 rfl Tryz.ntmps61 rfl ?_;iterate 2 refine G ?_
 refine cd (v:= .agg _) rfl rfl fun b2=>?_;refine cd (v:= .agg _) rfl rfl fun b3=>?_;iterate 4 refine G ?_
 refine tB ?_;iterate 18 refine G ?_
 refine au rfl ?_ ?_<;>intro h3
 ·have hk:e.kind=3:=by simpa using h3
  iterate 6 refine G ?_
  refine gV (en pY (nj (q0 rfl) (q0 rfl) (q0 rfl))) (fun _ w _=>kP e.rider 0 (f.na -1) w) ?_;iterate 16 refine G ?_
  refine au rfl ?_ ?_<;>intro h4
  ·iterate 3 refine G ?_
   refine gV (en pY (nj (q0 rfl) (q0 rfl) (q0 rfl))) (fun _ w _=>kP e.aP 1 1000000 w) ?_;iterate 13 refine G ?_
   exact bH (v:= .bool _) rfl rfl rfl fun w' hw=>⟨fK (by unfold named;rw [av hk,av (Or.inl hk)]),hw.1⟩
  simp [hk] at h4
 have hk: ¬e.kind=3:=by simpa using h3
 iterate 15 refine G ?_
 refine au rfl ?_ ?_<;>intro h4
 ·iterate 3 refine G ?_
  refine gV (en pY (nj (q0 rfl) (q0 rfl) (q0 rfl))) (fun _ w _=>kP e.aP 1 1000000 w) ?_;iterate 13 refine G ?_
  exact bH (v:= .bool _) rfl rfl rfl fun w' hw=>⟨fK (by unfold named;rw [ah hk,av (by simpa using h4)]),hw.1⟩
 iterate 12 refine G ?_
 exact bH (v:= .bool _) rfl rfl rfl fun w' hw=>⟨fK (by unfold named;rw [ah hk,ah (by simpa using h4)]),hw.1⟩
attribute [local irreducible] named
theorem vS (f:Fl) (a:FA) (e:Ev) (w:World) (hx:kp w f a) (hp: -9223372036854775808≤e.place∧e.place≤9223372036854775807):Calls Tryz.prog 25 #[.agg (f.cells a).toArray, .agg e.cells.toArray] w fun r w'=>r= .returned (.int .i64 (fF f e))∧gz w w':=by
 refine aS Tryz.func25 rfl Tryz.ntmps25 rfl ?_
 refine cr ?_
 refine R0 ?_
 refine cd (v:= .agg _) rfl rfl fun b2=>?_
 refine cd (v:= .agg _) rfl rfl fun b3=>?_
 refine xV (gZ (v:= .int _ _) (q0 rfl)) rfl rfl ?_
 refine XN ?_
 refine az ?_
 refine cr ?_
 refine cr ?_
 refine R0 ?_
 refine xV (eS iv fG (q0 rfl)) rfl rfl ?_
 refine xC (en L8 (il (q0 rfl))) (fun _ w hm=>A9 f a w (hx.mem hm)) rfl rfl ?_
 refine xV (gZ (v:= .int _ _) (q0 rfl)) rfl rfl ?_
 refine XN ?_
 refine az ?_
 refine cr ?_
 refine R0 ?_
 refine xV (ez (v:= .int _ _) (q0 rfl)) rfl rfl ?_
 refine xV (Of (q0 rfl) (q0 rfl)) rfl rfl ?_
 refine XN ?_
 refine az ?_
 refine au rfl (fun h0=>?_) (fun h0=>?_)
 ·refine cr ?_
  refine R0 ?_
  refine xV (ez (v:= .int _ _) (q0 rfl)) rfl rfl ?_
  refine xV (gZ (v:= .int _ _) (q0 rfl)) rfl rfl ?_
  refine XN ?_
  refine az ?_
  refine jV ?_
  refine dH ?_
  exact bH (v:= .int _ _) rfl rfl rfl fun w' hw=>⟨bP (by unfold fF;rw [av (by simpa using h0)]),hw.1⟩
 have hf:fR f=0:=by simpa using h0
 have hf': ¬fR f≠0:=by simpa using hf
 have hb:=rl hf
 refine iS ?_
 refine az ?_
 refine cr ?_
 refine cr ?_
 refine R0 ?_
 refine xV (cR bE rfl ax rfl (q0 rfl)) rfl rfl ?_
 refine xV (eL aJ (q0 rfl)) rfl rfl ?_
 refine xV (cR fe rfl ax rfl (q0 rfl)) rfl rfl ?_
 refine xV (eL aJ (q0 rfl)) rfl rfl ?_
 refine xV (ou (q0 rfl) (q0 rfl) (fun _=>⟨rfl,by omega,by omega⟩)) rfl rfl ?_
 refine xC (en pY (nj (q0 rfl) (q0 rfl) (q0 rfl))) (fun _ w _=>kP e.device 0 (f.aH -1) w) rfl rfl ?_
 refine xV (rz (q0 rfl)) rfl rfl ?_
 refine xV (ez (v:= .bool _) (q0 rfl)) rfl rfl ?_
 refine oQ (cR bE rfl ax rfl (q0 rfl)) rfl rfl rfl rfl ?_
 refine oQ (eL aJ (q1 rfl)) rfl rfl rfl rfl ?_
 refine I7 (en pY (nj (q1 (v:= .int _ _) rfl) (q0 rfl) (q0 rfl))) (fun _ w _=>kP e.seq 1 1048576 w) rfl rfl rfl rfl ?_
 refine oQ (rz (q1 rfl)) rfl rfl rfl rfl ?_
 refine xV (u9 (q0 rfl) rfl (fun h=>by first|rfl|(rw [h];rfl))) rfl rfl ?_
 refine xV (ez (v:= .bool _) (q0 rfl)) rfl rfl ?_
 refine oQ (cR bE rfl ax rfl (q0 rfl)) rfl rfl rfl rfl ?_
 refine oQ (eL aJ (q1 rfl)) rfl rfl rfl rfl ?_
 refine oQ (vd (q1 rfl) (q0 rfl)) rfl rfl rfl rfl ?_
 refine xV (u9 (q0 rfl) rfl (fun h=>by first|rfl|(rw [h];rfl))) rfl rfl ?_
 refine xV (ez (v:= .bool _) (q0 rfl)) rfl rfl ?_
 refine oQ (cR bE rfl ax rfl (q0 rfl)) rfl rfl rfl rfl ?_
 refine oQ (eL aJ (q1 rfl)) rfl rfl rfl rfl ?_
 refine oQ (cR bE rfl ax rfl (q0 rfl)) rfl rfl rfl rfl ?_
 refine oQ (eL aJ (q1 rfl)) rfl rfl rfl rfl ?_
 refine oQ (vd (q1 rfl) (q1 rfl)) rfl rfl rfl rfl ?_
 refine xV (u9 (q0 rfl) rfl (fun h=>by first|rfl|(rw [h];rfl))) rfl rfl ?_
 refine xV (ez (v:= .bool _) (q0 rfl)) rfl rfl ?_
 refine oQ (cR bE rfl ax rfl (q0 rfl)) rfl rfl rfl rfl ?_
 refine oQ (eL aJ (q1 rfl)) rfl rfl rfl rfl ?_
 refine oQ (Dl (q1 rfl) (q0 rfl)) rfl rfl rfl rfl ?_
 refine xV (u9 (q0 rfl) rfl (fun h=>by first|rfl|(rw [h];rfl))) rfl rfl ?_
 refine XN ?_
 refine az ?_
 refine au rfl (fun h1=>?_) (fun h1=>?_)
 ·refine cr ?_
  refine R0 ?_
  refine xV (gZ (v:= .int _ _) (q0 rfl)) rfl rfl ?_
  refine XN ?_
  refine az ?_
  refine jV ?_
  refine dH ?_
  exact bH (v:= .int _ _) rfl rfl rfl fun w' hw=>⟨bP (by unfold fF;rw [ah hf',av h1]),hw.1⟩
 have h1': ¬((((!within e.device 0 (f.aH -1)||!within e.seq 1 1048576)||decide (e.at_<0))||decide (e.late<e.at_))||decide (4294943999<e.late))=true:=by rw [show _=false from h1];decide
 refine iS ?_
 refine az ?_
 refine cr ?_
 refine cr ?_
 refine R0 ?_
 refine xV (cR bE rfl ax rfl (q0 rfl)) rfl rfl ?_
 refine xV (eL aJ (q0 rfl)) rfl rfl ?_
 refine xC (en pY (nj (q0 rfl) (q0 rfl) (q0 rfl))) (fun _ w _=>kP e.kind 1 10 w) rfl rfl ?_
 refine xV (rz (q0 rfl)) rfl rfl ?_
 refine XN ?_
 refine az ?_
 refine au rfl (fun h2=>?_) (fun h2=>?_)
 ·refine cr ?_
  refine R0 ?_
  refine xV (gZ (v:= .int _ _) (q0 rfl)) rfl rfl ?_
  refine XN ?_
  refine az ?_
  refine jV ?_
  refine dH ?_
  exact bH (v:= .int _ _) rfl rfl rfl fun w' hw=>⟨bP (by unfold fF;rw [ah hf',ah h1',av (by simpa using h2)]),hw.1⟩
 have h2': ¬within e.kind 1 10=false:=by simpa using h2
 refine iS ?_
 refine az ?_
 refine cr ?_
 refine cr ?_
 refine R0 ?_
 refine xV (cR bE rfl ax rfl (q0 rfl)) rfl rfl ?_
 refine xV (eL aJ (q0 rfl)) rfl rfl ?_
 refine xV (cR fe rfl ax rfl (q0 rfl)) rfl rfl ?_
 refine xV (eL aJ (q0 rfl)) rfl rfl ?_
 refine xV (ou (q0 rfl) (q0 rfl) (fun _=>⟨rfl,by omega,by omega⟩)) rfl rfl ?_
 refine xC (en pY (nj (q0 rfl) (q0 rfl) (q0 rfl))) (fun _ w _=>kP e.bD 0 (f.eV -1) w) rfl rfl ?_
 refine xV (rz (q0 rfl)) rfl rfl ?_
 refine xV (ez (v:= .bool _) (q0 rfl)) rfl rfl ?_
 refine oQ (cR bE rfl ax rfl (q0 rfl)) rfl rfl rfl rfl ?_
 refine oQ (eL aJ (q1 rfl)) rfl rfl rfl rfl ?_
 refine oQ (AL (q1 rfl) (q0 rfl)) rfl rfl rfl rfl ?_
 refine oQ (ez (v:= .bool _) (q1 rfl)) rfl rfl rfl rfl ?_
 refine kr (cR bE rfl ax rfl (q0 rfl)) rfl rfl rfl rfl ?_
 refine kr (eL aJ (q1 rfl)) rfl rfl rfl rfl ?_
 refine kr (Of (q1 rfl) (q0 rfl)) rfl rfl rfl rfl ?_
 refine oQ (pT (q1 rfl) rfl (fun h=>by first|rfl|(rw [h];rfl))) rfl rfl rfl rfl ?_
 refine xV (u9 (q0 rfl) rfl (fun h=>by first|rfl|(rw [h];rfl))) rfl rfl ?_
 refine XN ?_
 refine az ?_
 refine au rfl (fun h3=>?_) (fun h3=>?_)
 ·refine cr ?_
  refine R0 ?_
  refine xV (gZ (v:= .int _ _) (q0 rfl)) rfl rfl ?_
  refine XN ?_
  refine az ?_
  refine jV ?_
  refine dH ?_
  exact bH (v:= .int _ _) rfl rfl rfl fun w' hw=>⟨bP (by unfold fF;rw [ah hf',ah h1',ah h2',av h3]),hw.1⟩
 have h3': ¬(!within e.bD 0 (f.eV -1)||(decide (e.kind=10)&&!decide (e.bD=0)))=true:=by rw [show _=false from h3];decide
 refine iS ?_
 refine az ?_
 refine cr ?_
 refine cr ?_
 refine R0 ?_
 refine xV (eS iv fG (q0 rfl)) rfl rfl ?_
 refine xV (eS jr bT (q0 rfl)) rfl rfl ?_
 refine xC (en Tryz.call60 (gr (q0 rfl) (q0 rfl))) (fun _ w hm=>M1 f a e w (hx.mem hm) hp) rfl rfl ?_
 refine xV (rz (q0 rfl)) rfl rfl ?_
 refine XN ?_
 refine az ?_
 refine au rfl (fun h4=>?_) (fun h4=>?_)
 ·refine cr ?_
  refine R0 ?_
  refine xV (gZ (v:= .int _ _) (q0 rfl)) rfl rfl ?_
  refine XN ?_
  refine az ?_
  refine jV ?_
  refine dH ?_
  exact bH (v:= .int _ _) rfl rfl rfl fun w' hw=>⟨bP (by unfold fF;rw [ah hf',ah h1',ah h2',ah h3',av (by simpa using h4)]),hw.1⟩
 have h4': ¬qa f e=false:=by simpa using h4
 refine iS ?_
 refine az ?_
 refine cr ?_
 refine cr ?_
 refine R0 ?_
 refine xV (eS iv fG (q0 rfl)) rfl rfl ?_
 refine xV (eS jr bT (q0 rfl)) rfl rfl ?_
 refine xC (en Tryz.call61 (gr (q0 rfl) (q0 rfl))) (fun _ w hm=>Qo f a e w hb.2.1) rfl rfl ?_
 refine xV (rz (q0 rfl)) rfl rfl ?_
 refine XN ?_
 refine az ?_
 refine au rfl (fun h5=>?_) (fun h5=>?_)
 ·refine cr ?_
  refine R0 ?_
  refine xV (gZ (v:= .int _ _) (q0 rfl)) rfl rfl ?_
  refine XN ?_
  refine az ?_
  refine jV ?_
  refine dH ?_
  exact bH (v:= .int _ _) rfl rfl rfl fun w' hw=>⟨bP (by unfold fF;rw [ah hf',ah h1',ah h2',ah h3',ah h4',av (by simpa using h5)]),hw.1⟩
 refine iS ?_
 refine az ?_
 refine cr ?_
 refine R0 ?_
 refine xV (gZ (v:= .int _ _) (q0 rfl)) rfl rfl ?_
 refine XN ?_
 refine az ?_
 refine jV ?_
 exact bH (v:= .int _ _) rfl rfl rfl fun w' hw=>⟨bP (by unfold fF;rw [ah hf',ah h1',ah h2',ah h3',ah h4',ah (by simpa using h5)]),hw.1⟩
end Go.Proofs.Cus
namespace Go.Proofs.Cus
open Go Go.RowKit Go.Proofs.E
theorem GN {l r:List Int} {k:Nat} {x y:Int} (hx:l[k]?=some x) (hy:r[k]?=some y):si (l.drop k) (r.drop k)=if j0 x y≠0 then j0 x y else si (l.drop (k+1)) (r.drop (k+1)):=by
 obtain ⟨h1,h2⟩:=aa.1 hx;obtain ⟨h3,h4⟩:=aa.1 hy;rw [cL h1,cL h3,h2,h4];rfl
theorem yy (n:Int) (w:World):Calls Tryz.prog 159 #[.int .i64 n] w fun e w'=>e= .returned (.bool false)∧gz w w':=by
 refine aS Tryz.func159 rfl Tryz.ntmps159 rfl ?_;iterate 14 refine G ?_
 exact bH (v:= .bool _) rfl rfl rfl fun w' hw=>⟨fK (by simp),hw.1⟩
theorem jM (a b:Int) (w:World):Calls Tryz.prog 104 #[.int .i64 a, .int .i64 b] w fun e w'=>e= .returned (.int .i64 (j0 a b))∧gz w w':=by
 refine aS Tryz.func104 rfl Tryz.ntmps104 rfl ?_;iterate 8 refine G ?_
 refine gV (en I3 (il (q0 rfl))) (fun _ w _=>yy a w) ?_;iterate 6 refine G ?_
 refine gV (en I3 (il (q0 rfl))) (fun _ w _=>yy b w) ?_;iterate 9 refine G ?_
 refine au rfl ?_ ?_<;>intro h1
 ·cases h1
 iterate 8 refine G ?_
 refine au rfl ?_ ?_<;>intro h2
 ·cases h2
 iterate 10 refine G ?_
 refine au rfl ?_ ?_<;>intro h3
 ·iterate 7 refine G ?_
  exact bH (v:= .int _ _) rfl rfl rfl fun w' hw=>⟨bP (by unfold j0;rw [av (by simpa using h3)]),hw.1⟩
 iterate 10 refine G ?_
 refine au rfl ?_ ?_<;>intro h4
 ·iterate 7 refine G ?_
  exact bH (v:= .int _ _) rfl rfl rfl fun w' hw=>⟨bP (by unfold j0;rw [ah (by simpa using h3),av (by simpa using h4)]),hw.1⟩
 iterate 8 refine G ?_
 exact bH (v:= .int _ _) rfl rfl rfl fun w' hw=>⟨bP (by unfold j0;rw [ah (by simpa using h3),ah (by simpa using h4)]),hw.1⟩
theorem Qi (A:Option Addr) (n c:Nat) (xs:List Int) (w:World) (hx:ia w A n xs):Calls Tryz.prog 109 #[.slice A n c] w fun e w'=>e= .returned (.int .i64 (Nb xs))∧gz w w':=by
 have hl:=hx.1;have hn:=hx.2.1;refine aS Tryz.func109 rfl Tryz.ntmps109 rfl ?_;iterate 19 refine G ?_
 refine ct [2,5,8,9,10,11,12,13,14,15,16] (fun k:Nat=>[(8, .int .i64 k)]) (fun _=>_) (fun k=>k≤n∧(xs.take k).find? (fun x=>decide (x≠0))=none) (fun k=>n -k) 0 ⟨rfl,trivial⟩ (fun _ h=>h) rfl ⟨aU _,rfl⟩ ?_;rintro k g ⟨hk,hno⟩;iterate 6 refine G ?_
 refine au rfl ?_ ?_<;>intro hlt
 ·simp at hlt;obtain ⟨b,off,x,rfl,hbl,hxk,hrx⟩:=hx.at_ hlt;iterate 6 refine G ?_
  refine bO (bt _ ak ax (q0 rfl) (q0 rfl) (fun _=>⟨rfl,by omega⟩)) ?_;iterate 11 refine G ?_
  refine au rfl ?_ ?_<;>intro h0
  ·iterate 12 refine G ?_
   exact bH (v:= .int _ _) rfl rfl rfl fun w' hw=>⟨bP (by
    unfold Nb;have h0':x≠0:=by simpa using h0
    rw [←fz k xs,je,hno];obtain ⟨q1,q2⟩:=aa.1 hxk;rw [cL q1,q2];simp [h0']),hw.1⟩
  iterate 7 refine G ?_
  exact ay (k+1) eE ⟨rfl,trivial⟩ (fun _ h=>h) rfl ⟨by omega,by rw [iJ _ _ _ hxk,je,hno];simp at h0;simp [h0]⟩ (by show n -(k+1)<n -k;omega)
 obtain rfl:k=n:=by simp at hlt;omega
 iterate 12 refine G ?_
 exact bH (v:= .int _ _) rfl rfl rfl fun w' hw=>⟨bP (by unfold Nb;rw [bN (by omega)] at hno;rw [hno];rfl),hw.1⟩
def yx (e:Ev):List Value:=e.keys.map (.int .i64)
theorem Ar {e:Ev} {k:Nat} {x:Int} (h:e.keys[k]?=some x):(yx e)[0+k*1]?=some (.int .i64 x):=by
 unfold yx;simp [h]
attribute [local irreducible] j0 si
theorem Fg (a b:Ev) (w:World):Calls Tryz.prog 252 #[.agg a.cells.toArray, .agg b.cells.toArray] w fun e w'=>e= .returned (.int .i64 (yH a b))∧gz w w':=by
 refine aS Tryz.func252 rfl Tryz.ntmps252 rfl ?_;iterate 2 refine G ?_
 refine cd (v:= .agg _) rfl rfl fun b2=>?_;refine cd (v:= .agg _) rfl rfl fun b3=>?_;iterate 23 refine G ?_
 refine bO (CP we ax xH (pt (v:= .int _ _) rfl (pt (v:= .int _ _) rfl (pt (v:= .int _ _) rfl (pt (v:= .int _ _) rfl (pt (v:= .int _ _) rfl (pt (v:= .int _ _) rfl (pt (v:= .int _ _) rfl (pt (v:= .int _ _) rfl (pt (v:= .int _ _) rfl E.p0))))))))) rfl) ?_;refine cx xH rfl fun b5=>?_;refine fI (v:= .agg _) rfl rfl Tryz.sizeOf377 ?_;iterate 22 refine G ?_
 refine bO (CP we ax xH (pt (v:= .int _ _) rfl (pt (v:= .int _ _) rfl (pt (v:= .int _ _) rfl (pt (v:= .int _ _) rfl (pt (v:= .int _ _) rfl (pt (v:= .int _ _) rfl (pt (v:= .int _ _) rfl (pt (v:= .int _ _) rfl (pt (v:= .int _ _) rfl E.p0))))))))) rfl) ?_;refine cx xH rfl fun b6=>?_;refine fI (v:= .agg _) rfl rfl Tryz.sizeOf377 ?_;iterate 9 refine G ?_
 refine ct [4,7,8,47,48,49,50,51,52,53,54,55,56,57,58,59,60] (fun k:Nat=>[(47, .int .i64 k)]) (fun _=>[box b6 377 (yx b),box b5 377 (yx a)]) (fun k=>k≤9∧yH a b=si (a.keys.drop k) (b.keys.drop k)) (fun k=>9 -k) 0 ⟨rfl,trivial⟩ (fun w hw=>hw.pick [0,1] (by decide)) rfl ⟨aU _,rfl⟩ ?_;rintro k g ⟨hk,hev⟩;iterate 6 refine G ?_
 refine au rfl ?_ ?_<;>intro hlt
 ·simp at hlt;obtain ⟨x,hx⟩: ∃x,a.keys[k]?=some x:=⟨_,aj (by show k<9;omega)⟩;obtain ⟨y,hy⟩: ∃y,b.keys[k]?=some y:=⟨_,aj (by show k<9;omega)⟩;have hd:=GN hx hy;iterate 11 refine G ?_
  refine tB ?_;refine G ?_;refine bO (Oi _ we ax (q0 rfl) (q0 rfl) (fun _=>⟨rfl,by omega⟩)) ?_;refine bO (ea aJ (q0 rfl) (bx 1 rfl (Ar hx))) ?_;refine G ?_;refine bO (Oi _ we ax (q0 rfl) (q0 rfl) (fun _=>⟨rfl,by omega⟩)) ?_;refine bO (ea aJ (q0 rfl) (bx 0 rfl (Ar hy))) ?_;refine gV (en kB (gr (q0 rfl) (q0 rfl))) (fun _ w _=>jM x y w) ?_;iterate 9 refine G ?_
  refine au rfl ?_ ?_<;>intro hc
  ·iterate 12 refine G ?_
   exact bH (v:= .int _ _) rfl rfl rfl fun w' hw=>⟨bP (by rw [hev,hd,av (by simpa using hc)]),hw.1⟩
  iterate 7 refine G ?_
  exact ay (k+1) eE ⟨rfl,trivial⟩ (fun _ h=>h) rfl ⟨by omega,by rw [hev,hd,ah (by simpa using hc)]⟩ (by show 9 -(k+1)<9 -k;omega)
 obtain rfl:k=9:=by simp at hlt;omega
 iterate 11 refine G ?_
 exact bH (v:= .int _ _) rfl rfl rfl fun w' hw=>⟨bP (by rw [hev];unfold si;rfl),hw.1⟩
end Go.Proofs.Cus
