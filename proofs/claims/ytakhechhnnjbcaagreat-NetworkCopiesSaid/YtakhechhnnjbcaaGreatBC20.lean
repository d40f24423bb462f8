import Derived.Test.YtakhechhnnjbcaaGreatBC07
import Derived.Test.YtakhechhnnjbcaaGreatBC19
import Derived.Test.YtakhechhnnjbcaaGreatBC13
import Derived.Test.YtakhechhnnjbcaaGreatBC16
import Derived.Test.YtakhechhnnjbcaaGreatBC04
import Derived.Test.YtakhechhnnjbcaaGreatTc
set_option maxRecDepth 100000
set_option maxHeartbeats 8000000
set_option linter.unusedVariables false
set_option linter.unusedSimpArgs false
namespace Go.Proofs.Own
open Go Go.RowKit Go.Proofs.E Go.Proofs.Cus Go.Proofs.Far
theorem vh (A:Option Addr) (n c:Nat) (xs:List Int) (w:World) (hx:ia w A n xs) (hn:n≤100000):Calls Tryz.prog 75 #[.slice A n c] w fun e w'=> ∃x:{x:Sl×List E.Item//lZ (dD x.2) fun w=>ia w x.1.A x.1.n xs},e= .returned x.1.1.v∧Mem w [dD x.1.2] w':=by
 have hl:=hx.1;refine aS Tryz.func75 rfl Tryz.ntmps75 rfl ?_;iterate 9 refine G ?_
 refine bO (ov ak (q0 rfl)) ?_;iterate 2 refine G ?_
 refine au rfl ?_ ?_<;>intro h1
 ·iterate 7 refine G ?_
  have hA:A=none:=by simpa using h1
  have hx0:xs=[]:=by
   cases n with
   |zero=>exact bW hl
   |succ m=>obtain ⟨b,off,hb,_⟩:=hx.2.2 (by omega);rw [hA] at hb;cases hb
  exact bH (v:= .slice _ _ _) rfl rfl rfl fun w' hw=>⟨⟨(⟨none,0,0⟩,[]),rfl,fun w _=>by subst hx0;exact ⟨rfl,by decide,fun h=>absurd h (by decide)⟩⟩,rfl,(iT.2 hw.1).dD (T:=[])⟩
 iterate 4 refine G ?_
 refine bZ (qB aN ak ax rfl fun A1 c1=>?_);refine G ?_;refine lJ (ba (k:=1) (i:=Tryz.t3) (enc:=aN) 0 ak (by kernel_rfl) rfl rfl rfl rfl (fun _=>rfl) (fun _=>rfl) rfl rfl rfl (fun w hw=>hx.mem hw) ⟨by simp;omega,by decide⟩ rfl fun A2 c2=>?_);iterate 4 refine G ?_
 exact bH (v:= .slice _ _ _) rfl rfl rfl fun w' hw=>⟨⟨(⟨A2,xs.length,c2⟩,[dR 3 1 aN A2 c2 xs]),(lZ.row (e:=3) (k:=1) (enc:=aN) (A:=A2) (c:=c2) (xs:=xs) (fun _=>rfl) (by omega)).dD (bu.2 rfl)⟩,rfl,(hw.pick [0] (by decide)).dD (T:=[_]) (L:=[])⟩
theorem OB (A:Option Addr) (n c:Nat) (xs:List Tf) (w:World) (hx:Az w A n xs) (hn:n≤100000):Calls Tryz.prog 76 #[.slice A n c] w fun e w'=> ∃x:{x:Sl×List E.Item//lZ (dD x.2) fun w=>Az w x.1.A x.1.n xs},e= .returned x.1.1.v∧Mem w [dD x.1.2] w':=by
 have hl:=hx.1;refine aS Tryz.func76 rfl Tryz.ntmps76 rfl ?_;iterate 9 refine G ?_
 refine bO (ov fJ (q0 rfl)) ?_;iterate 2 refine G ?_
 refine au rfl ?_ ?_<;>intro h1
 ·iterate 7 refine G ?_
  have hA:A=none:=by simpa using h1
  have hx0:xs=[]:=by
   cases n with
   |zero=>exact bW hl
   |succ m=>obtain ⟨b,off,hb,_⟩:=hx.2.2 (by omega);rw [hA] at hb;cases hb
  exact bH (v:= .slice _ _ _) rfl rfl rfl fun w' hw=>⟨⟨(⟨none,0,0⟩,[]),rfl,fun w _=>by subst hx0;exact ⟨rfl,by decide,fun h=>absurd h (by decide)⟩⟩,rfl,(iT.2 hw.1).dD (T:=[])⟩
 iterate 4 refine G ?_
 refine bZ (qB Tf.cells fJ iD rfl fun A1 c1=>?_);refine G ?_;refine lJ (ba (k:=6) (i:=Tryz.t144) (enc:=Tf.cells) 0 fJ (by kernel_rfl) rfl rfl rfl rfl (fun _=>rfl) (fun _=>rfl) rfl rfl rfl (fun w hw=>hx.mem hw) ⟨by simp;omega,by decide⟩ rfl fun A2 c2=>?_);iterate 4 refine G ?_
 exact bH (v:= .slice _ _ _) rfl rfl rfl fun w' hw=>⟨⟨(⟨A2,xs.length,c2⟩,[dR 144 6 Tf.cells A2 c2 xs]),(lZ.row (e:=144) (k:=6) (enc:=Tf.cells) (A:=A2) (c:=c2) (xs:=xs) (fun _=>rfl) (by omega)).dD (bu.2 rfl)⟩,rfl,(hw.pick [0] (by decide)).dD (T:=[_]) (L:=[])⟩
theorem OC (A:Option Addr) (n c:Nat) (xs:List o0) (w:World) (hx:sr w A n xs) (hn:n≤100000):Calls Tryz.prog 77 #[.slice A n c] w fun e w'=> ∃x:{x:Sl×List E.Item//lZ (dD x.2) fun w=>sr w x.1.A x.1.n xs},e= .returned x.1.1.v∧Mem w [dD x.1.2] w':=by
 have hl:=hx.1;refine aS Tryz.func77 rfl Tryz.ntmps77 rfl ?_;iterate 9 refine G ?_
 refine bO (ov gU (q0 rfl)) ?_;iterate 2 refine G ?_
 refine au rfl ?_ ?_<;>intro h1
 ·iterate 7 refine G ?_
  have hA:A=none:=by simpa using h1
  have hx0:xs=[]:=by
   cases n with
   |zero=>exact bW hl
   |succ m=>obtain ⟨b,off,hb,_⟩:=hx.2.2 (by omega);rw [hA] at hb;cases hb
  exact bH (v:= .slice _ _ _) rfl rfl rfl fun w' hw=>⟨⟨(⟨none,0,0⟩,[]),rfl,fun w _=>by subst hx0;exact ⟨rfl,by decide,fun h=>absurd h (by decide)⟩⟩,rfl,(iT.2 hw.1).dD (T:=[])⟩
 iterate 4 refine G ?_
 refine bZ (qB o0.cells gU jL rfl fun A1 c1=>?_);refine G ?_;refine lJ (ba (k:=6) (i:=Tryz.t155) (enc:=o0.cells) 0 gU (by kernel_rfl) rfl rfl rfl rfl (fun _=>rfl) (fun _=>rfl) rfl rfl rfl (fun w hw=>hx.mem hw) ⟨by simp;omega,by decide⟩ rfl fun A2 c2=>?_);iterate 4 refine G ?_
 exact bH (v:= .slice _ _ _) rfl rfl rfl fun w' hw=>⟨⟨(⟨A2,xs.length,c2⟩,[dR 155 6 o0.cells A2 c2 xs]),(lZ.row (e:=155) (k:=6) (enc:=o0.cells) (A:=A2) (c:=c2) (xs:=xs) (fun _=>rfl) (by omega)).dD (bu.2 rfl)⟩,rfl,(hw.pick [0] (by decide)).dD (T:=[_]) (L:=[])⟩
abbrev Uv (f:Fl):={x:(Sl×Sl)×List E.Item//lZ (dD x.2) fun w=>ia w x.1.1.A x.1.1.n f.gk∧ia w x.1.2.A x.1.2.n f.eJ}
abbrev Xd (p:Pr):={x:(Sl×Sl)×List E.Item//lZ (dD x.2) fun w=>Az w x.1.1.A x.1.1.n p.ik∧sr w x.1.2.A x.1.2.n p.iE}
abbrev Xe (p:Pr):={x:(Sl×Sl×Sl)×List E.Item//lZ (dD x.2) fun w=>ia w x.1.1.A x.1.1.n p.places∧ia w x.1.2.1.A x.1.2.1.n p.gk∧ia w x.1.2.2.A x.1.2.2.n p.cX}
abbrev VT (p:Pr):={x:xz×List E.Item//lZ (dD x.2) fun w=>lK w p x.1}
theorem B9 (f:Fl) (fa:FA) (w:World) (hf:kp w f fa) (hn:fa.dn≤100000) (hm:fa.tn≤100000):Calls Tryz.prog 36 #[.agg (f.cells fa).toArray] w fun e w'=> ∃x:Uv f,e= .returned (.agg #[.int .i64 f.eV, .int .i64 f.na, .int .i64 f.aH,x.1.1.1.v,x.1.1.2.v])∧Mem w [dD x.1.2] w':=by
 refine aS Tryz.func36 rfl Tryz.ntmps36 rfl ?_;iterate 2 refine G ?_
 refine cd (v:= .agg _) rfl rfl fun b1=>?_;refine cx Kk rfl fun b2=>?_;iterate 3 refine G ?_
 refine jK [3,4,5,6,7,8,9,10] (fun x:Uv f=>[]) (fun x=>[dD x.1.2,box b2 24 [.int .i64 0, .int .i64 0, .int .i64 0, .slice none 0 0, .slice none 0 0],box b1 24 [.int .i64 f.eV, .int .i64 f.na, .int .i64 f.aH,x.1.1.1.v,x.1.1.2.v]]) (fun _=>True) ?_ ?_
 ·refine I0 [3,4,5,6,7,8,9,10] (fun d v=>match d with
     |3|9=>v= .pointer (some ⟨b1,3,none⟩)
     |4=>v=Sl.v ⟨fa.dA,fa.dn,fa.dc⟩
     |6|10=>v= .pointer (some ⟨b1,4,none⟩)
     |7=>v=Sl.v ⟨fa.tA,fa.tn,fa.tc⟩
     |_=>True) (fun S L f'=> ∃(R:List E.Item) (s0 s1:Sl),marks R=[]∧CH S 2 7 Sl.v (f' 5) R (fun z w=>ia w z.A z.n f.gk) ⟨fa.dA,fa.dn,fa.dc⟩ s0∧CH S 5 9 Sl.v (f' 8) R (fun z w=>ia w z.A z.n f.eJ) ⟨fa.tA,fa.tn,fa.tc⟩ s1∧L=R++[box b2 24 [.int .i64 0, .int .i64 0, .int .i64 0, .slice none 0 0, .slice none 0 0],box b1 24 [.int .i64 f.eV, .int .i64 f.na, .int .i64 f.aH,s0.v,s1.v]]) rfl rfl ?_ ?_ ?_
  ·exact fun S hS=>⟨[],⟨fa.dA,fa.dn,fa.dc⟩,⟨fa.tA,fa.tn,fa.tc⟩,rfl,CH.begin hS,CH.begin hS,rfl⟩
  ·rintro S L fr i o hA hF ⟨R,s0,s1,hR,e0,e1,rfl⟩ hi hno hw hc;have hpt:fr 1= .pointer (some ⟨b1,0,none⟩):=hA 1 rfl
   match i,hi with
   |0,hi=>cases hi;exact gY (cR fe rfl eh rfl (q0 hpt)) rfl rfl ⟨⟨R,s0,s1,hR,e0.fC (by decide) (by decide),e1.fC (by decide) (by decide),rfl⟩,_,rfl,fun d h=>by cases h;rfl⟩
   |1,hi=>
    cases hi;have hx:fr 3= .pointer (some ⟨b1,3,none⟩):=hF 0 _ _ rfl (hw 0 rfl) rfl;have hs:=e0.a fun h=>hno (hc 2 1 rfl (hc 7 2 rfl h));exact gY (ea (v:=Sl.v ⟨fa.dA,fa.dn,fa.dc⟩) js (q0 hx) (fun _ w hw=>by rw [hs] at hw;exact gy hw (ox R (j:=1) rfl) rfl)) rfl rfl ⟨⟨R,s0,s1,hR,e0.fC (by decide) (by decide),e1.fC (by decide) (by decide),rfl⟩,_,rfl,fun d h=>by cases h;rfl⟩
   |2,hi=>
    cases hi;have hx:fr 4=Sl.v ⟨fa.dA,fa.dn,fa.dc⟩:=hF 1 _ _ rfl (hw 1 rfl) rfl;exact di (en Eu (il (q0 hx))) (fun w hw=>vh fa.dA fa.dn fa.dc f.gk w (hf.gk.mem hw) hn) rfl (fun _=>rfl) fun x=>⟨⟨dD x.1.2::R,s0,s1,hR,e0.call (z:=x.1.1) (by decide) x.2,(e1.fC (by decide) (by decide)).more _,rfl⟩,_,rfl,fun d h=>by cases h;trivial⟩
   |3,hi=>cases hi;exact gY (cR fe rfl eh rfl (q0 hpt)) rfl rfl ⟨⟨R,s0,s1,hR,e0.fC (by decide) (by decide),e1.fC (by decide) (by decide),rfl⟩,_,rfl,fun d h=>by cases h;rfl⟩
   |4,hi=>
    cases hi;have hx:fr 6= .pointer (some ⟨b1,4,none⟩):=hF 3 _ _ rfl (hw 3 rfl) rfl;have hs:=e1.a fun h=>hno (hc 5 4 rfl (hc 9 5 rfl h));exact gY (ea (v:=Sl.v ⟨fa.tA,fa.tn,fa.tc⟩) js (q0 hx) (fun _ w hw=>by rw [hs] at hw;exact gy hw (ox R (j:=1) rfl) rfl)) rfl rfl ⟨⟨R,s0,s1,hR,e0.fC (by decide) (by decide),e1.fC (by decide) (by decide),rfl⟩,_,rfl,fun d h=>by cases h;rfl⟩
   |5,hi=>
    cases hi;have hx:fr 7=Sl.v ⟨fa.tA,fa.tn,fa.tc⟩:=hF 4 _ _ rfl (hw 4 rfl) rfl;exact di (en Eu (il (q0 hx))) (fun w hw=>vh fa.tA fa.tn fa.tc f.eJ w (hf.eJ.mem hw) hm) rfl (fun _=>rfl) fun x=>⟨⟨dD x.1.2::R,s0,s1,hR,(e0.fC (by decide) (by decide)).more _,e1.call (z:=x.1.1) (by decide) x.2,rfl⟩,_,rfl,fun d h=>by cases h;trivial⟩
   |6,hi=>cases hi;exact gY (cR fe rfl eh rfl (q0 hpt)) rfl rfl ⟨⟨R,s0,s1,hR,e0.fC (by decide) (by decide),e1.fC (by decide) (by decide),rfl⟩,_,rfl,fun d h=>by cases h;rfl⟩
   |7,hi=>
    cases hi;obtain ⟨z,hz,e⟩:=e0.store (hw 2 rfl);have hx:fr 9= .pointer (some ⟨b1,3,none⟩):=hF 6 _ _ rfl (hw 6 rfl) rfl;exact qz (R.length+1) (v:=z.v) hx hz eh rfl rfl (ox R rfl) rfl ⟨⟨R,z,s1,hR,e,e1.fC (by decide) (by decide),tF ..⟩,undef,rfl,fun d h=>by cases h⟩
   |8,hi=>cases hi;exact gY (cR fe rfl eh rfl (q0 hpt)) rfl rfl ⟨⟨R,s0,s1,hR,e0.fC (by decide) (by decide),e1.fC (by decide) (by decide),rfl⟩,_,rfl,fun d h=>by cases h;rfl⟩
   |9,hi=>
    cases hi;obtain ⟨z,hz,e⟩:=e1.store (hw 5 rfl);have hx:fr 10= .pointer (some ⟨b1,4,none⟩):=hF 8 _ _ rfl (hw 8 rfl) rfl;exact qz (R.length+1) (v:=z.v) hx hz eh rfl rfl (ox R rfl) rfl ⟨⟨R,s0,z,hR,e0.fC (by decide) (by decide),e,tF ..⟩,undef,rfl,fun d h=>by cases h⟩
   |n+10,hi=>simp at hi
  rintro S L fr hS hA ⟨R,s0,s1,hR,e0,e1,rfl⟩;obtain ⟨i0,hi0,k0⟩:=e0.c (hS 7 (by decide));obtain ⟨i1,hi1,k1⟩:=e1.c (hS 9 (by decide));exact aO (⟨((s0,s1),R),(k0.dD hi0).two (k1.dD hi1)⟩:Uv f) hA trivial (fun w hw=>hw.dD) (by rw [iU,hR];rfl) trivial
 rintro ⟨x,hx⟩ g _;iterate 4 refine G ?_
 refine fI (v:= .agg _) rfl rfl fG ?_;iterate 3 refine G ?_
 exact ID rfl (P6 rfl rfl iv fG) fun w' hw=>⟨⟨x,hx⟩,rfl,hw.pick [0] (by decide)⟩
structure Sx (a:xz):Prop where
 t:a.t.n≤100000
 p:a.p.n≤100000
 pl:a.pl.n≤100000
 d:a.d.n≤100000
 f:a.f.n≤100000
theorem Al (p:Pr) (a:xz) (w:World) (hp:lK w p a) (hn:Sx a):Calls Tryz.prog 37 #[.agg (p.cells a).toArray] w fun e w'=> ∃x:VT p,e= .returned (.agg (p.cells x.1.1).toArray)∧Mem w [dD x.1.2] w':=by
 refine aS Tryz.func37 rfl Tryz.ntmps37 rfl ?_;iterate 2 refine G ?_
 refine cd (v:= .agg _) rfl rfl fun b1=>?_;refine cx Kj rfl fun b2=>?_;iterate 3 refine G ?_
 refine jK [3,4,5,6,7,8,9,10] (fun x:Xd p=>[]) (fun x=>[dD x.1.2,box b2 28 [.slice none 0 0, .slice none 0 0, .slice none 0 0, .slice none 0 0, .int .i64 0, .slice none 0 0, .int .i64 0],box b1 28 [x.1.1.1.v,x.1.1.2.v,a.pl.v,a.d.v, .int .i64 p.cap,a.f.v, .int .i64 p.days]]) (fun _=>True) ?_ ?_
 ·refine I0 [3,4,5,6,7,8,9,10] (fun d v=>match d with
     |3|9=>v= .pointer (some ⟨b1,0,none⟩)
     |4=>v=Sl.v a.t
     |6|10=>v= .pointer (some ⟨b1,1,none⟩)
     |7=>v=Sl.v a.p
     |_=>True) (fun S L f'=> ∃(R:List E.Item) (s0 s1:Sl),marks R=[]∧CH S 2 7 Sl.v (f' 5) R (fun z w=>Az w z.A z.n p.ik) a.t s0∧CH S 5 9 Sl.v (f' 8) R (fun z w=>sr w z.A z.n p.iE) a.p s1∧L=R++[box b2 28 [.slice none 0 0, .slice none 0 0, .slice none 0 0, .slice none 0 0, .int .i64 0, .slice none 0 0, .int .i64 0],box b1 28 [s0.v,s1.v,a.pl.v,a.d.v, .int .i64 p.cap,a.f.v, .int .i64 p.days]]) rfl rfl ?_ ?_ ?_
  ·exact fun S hS=>⟨[],a.t,a.p,rfl,CH.begin hS,CH.begin hS,rfl⟩
  ·rintro S L fr i o hA hF ⟨R,s0,s1,hR,e0,e1,rfl⟩ hi hno hw hc;have hpt:fr 1= .pointer (some ⟨b1,0,none⟩):=hA 1 rfl
   match i,hi with
   |0,hi=>cases hi;exact gY (cR cZ rfl SE rfl (q0 hpt)) rfl rfl ⟨⟨R,s0,s1,hR,e0.fC (by decide) (by decide),e1.fC (by decide) (by decide),rfl⟩,_,rfl,fun d h=>by cases h;rfl⟩
   |1,hi=>
    cases hi;have hx:fr 3= .pointer (some ⟨b1,0,none⟩):=hF 0 _ _ rfl (hw 0 rfl) rfl;have hs:=e0.a fun h=>hno (hc 2 1 rfl (hc 7 2 rfl h));exact gY (ea (v:=Sl.v a.t) Tryz.isAgg25 (q0 hx) (fun _ w hw=>by rw [hs] at hw;exact gy hw (ox R (j:=1) rfl) rfl)) rfl rfl ⟨⟨R,s0,s1,hR,e0.fC (by decide) (by decide),e1.fC (by decide) (by decide),rfl⟩,_,rfl,fun d h=>by cases h;rfl⟩
   |2,hi=>
    cases hi;have hx:fr 4=Sl.v a.t:=hF 1 _ _ rfl (hw 1 rfl) rfl;exact di (en Tryz.call76 (il (q0 hx))) (fun w hw=>OB a.t.A a.t.n a.t.c p.ik w (hp.tf.mem hw) hn.t) rfl (fun _=>rfl) fun x=>⟨⟨dD x.1.2::R,s0,s1,hR,e0.call (z:=x.1.1) (by decide) x.2,(e1.fC (by decide) (by decide)).more _,rfl⟩,_,rfl,fun d h=>by cases h;trivial⟩
   |3,hi=>cases hi;exact gY (cR cZ rfl SD rfl (q0 hpt)) rfl rfl ⟨⟨R,s0,s1,hR,e0.fC (by decide) (by decide),e1.fC (by decide) (by decide),rfl⟩,_,rfl,fun d h=>by cases h;rfl⟩
   |4,hi=>
    cases hi;have hx:fr 6= .pointer (some ⟨b1,1,none⟩):=hF 3 _ _ rfl (hw 3 rfl) rfl;have hs:=e1.a fun h=>hno (hc 5 4 rfl (hc 9 5 rfl h));exact gY (ea (v:=Sl.v a.p) Tryz.isAgg26 (q0 hx) (fun _ w hw=>by rw [hs] at hw;exact gy hw (ox R (j:=1) rfl) rfl)) rfl rfl ⟨⟨R,s0,s1,hR,e0.fC (by decide) (by decide),e1.fC (by decide) (by decide),rfl⟩,_,rfl,fun d h=>by cases h;rfl⟩
   |5,hi=>
    cases hi;have hx:fr 7=Sl.v a.p:=hF 4 _ _ rfl (hw 4 rfl) rfl;exact di (en Tryz.call77 (il (q0 hx))) (fun w hw=>OC a.p.A a.p.n a.p.c p.iE w (hp.ps.mem hw) hn.p) rfl (fun _=>rfl) fun x=>⟨⟨dD x.1.2::R,s0,s1,hR,(e0.fC (by decide) (by decide)).more _,e1.call (z:=x.1.1) (by decide) x.2,rfl⟩,_,rfl,fun d h=>by cases h;trivial⟩
   |6,hi=>cases hi;exact gY (cR cZ rfl SE rfl (q0 hpt)) rfl rfl ⟨⟨R,s0,s1,hR,e0.fC (by decide) (by decide),e1.fC (by decide) (by decide),rfl⟩,_,rfl,fun d h=>by cases h;rfl⟩
   |7,hi=>
    cases hi;obtain ⟨z,hz,e⟩:=e0.store (hw 2 rfl);have hx:fr 9= .pointer (some ⟨b1,0,none⟩):=hF 6 _ _ rfl (hw 6 rfl) rfl;exact qz (R.length+1) (v:=z.v) hx hz SE rfl rfl (ox R rfl) rfl ⟨⟨R,z,s1,hR,e,e1.fC (by decide) (by decide),tF ..⟩,undef,rfl,fun d h=>by cases h⟩
   |8,hi=>cases hi;exact gY (cR cZ rfl SD rfl (q0 hpt)) rfl rfl ⟨⟨R,s0,s1,hR,e0.fC (by decide) (by decide),e1.fC (by decide) (by decide),rfl⟩,_,rfl,fun d h=>by cases h;rfl⟩
   |9,hi=>
    cases hi;obtain ⟨z,hz,e⟩:=e1.store (hw 5 rfl);have hx:fr 10= .pointer (some ⟨b1,1,none⟩):=hF 8 _ _ rfl (hw 8 rfl) rfl;exact qz (R.length+1) (v:=z.v) hx hz SD rfl rfl (ox R rfl) rfl ⟨⟨R,s0,z,hR,e0.fC (by decide) (by decide),e,tF ..⟩,undef,rfl,fun d h=>by cases h⟩
   |n+10,hi=>simp at hi
  rintro S L fr hS hA ⟨R,s0,s1,hR,e0,e1,rfl⟩;obtain ⟨i0,hi0,k0⟩:=e0.c (hS 7 (by decide));obtain ⟨i1,hi1,k1⟩:=e1.c (hS 9 (by decide));exact aO (⟨((s0,s1),R),(k0.dD hi0).two (k1.dD hi1)⟩:Xd p) hA trivial (fun w hw=>hw.dD) (by rw [iU,hR];rfl) trivial
 rintro ⟨⟨⟨xt,xp⟩,x1⟩,hx1⟩ g _;iterate 2 refine G ?_
 refine jK [11,12,13,14,15,16,17,18,19,20,21,22] (fun x:Xe p=>[]) (fun x=>[dD x.1.2,dD x1,box b2 28 [.slice none 0 0, .slice none 0 0, .slice none 0 0, .slice none 0 0, .int .i64 0, .slice none 0 0, .int .i64 0],box b1 28 [xt.v,xp.v,x.1.1.1.v,x.1.1.2.1.v, .int .i64 p.cap,x.1.1.2.2.v, .int .i64 p.days]]) (fun _=>True) ?_ ?_
 ·refine I0 [11,12,13,14,15,16,17,18,19,20,21,22] (fun d v=>match d with
     |11|20=>v= .pointer (some ⟨b1,2,none⟩)
     |12=>v=Sl.v a.pl
     |14|21=>v= .pointer (some ⟨b1,3,none⟩)
     |15=>v=Sl.v a.d
     |17|22=>v= .pointer (some ⟨b1,5,none⟩)
     |18=>v=Sl.v a.f
     |_=>True) (fun S L f'=> ∃(R:List E.Item) (s0 s1 s2:Sl),marks R=[]∧CH S 2 10 Sl.v (f' 13) R (fun z w=>ia w z.A z.n p.places) a.pl s0∧CH S 5 12 Sl.v (f' 16) R (fun z w=>ia w z.A z.n p.gk) a.d s1∧CH S 8 14 Sl.v (f' 19) R (fun z w=>ia w z.A z.n p.cX) a.f s2∧L=R++[dD x1,box b2 28 [.slice none 0 0, .slice none 0 0, .slice none 0 0, .slice none 0 0, .int .i64 0, .slice none 0 0, .int .i64 0],box b1 28 [xt.v,xp.v,s0.v,s1.v, .int .i64 p.cap,s2.v, .int .i64 p.days]]) rfl rfl ?_ ?_ ?_
  ·exact fun S hS=>⟨[],a.pl,a.d,a.f,rfl,CH.begin hS,CH.begin hS,CH.begin hS,rfl⟩
  ·rintro S L fr i o hA hF ⟨R,s0,s1,s2,hR,e0,e1,e2,rfl⟩ hi hno hw hc;have hpt:fr 1= .pointer (some ⟨b1,0,none⟩):=hA 1 rfl
   match i,hi with
   |0,hi=>cases hi;exact gY (cR cZ rfl eh rfl (q0 hpt)) rfl rfl ⟨⟨R,s0,s1,s2,hR,e0.fC (by decide) (by decide),e1.fC (by decide) (by decide),e2.fC (by decide) (by decide),rfl⟩,_,rfl,fun d h=>by cases h;rfl⟩
   |1,hi=>
    cases hi;have hx:fr 11= .pointer (some ⟨b1,2,none⟩):=hF 0 _ _ rfl (hw 0 rfl) rfl;have hs:=e0.a fun h=>hno (hc 2 1 rfl (hc 10 2 rfl h));exact gY (ea (v:=Sl.v a.pl) js (q0 hx) (fun _ w hw=>by rw [hs] at hw;exact gy hw (ox R (j:=2) rfl) rfl)) rfl rfl ⟨⟨R,s0,s1,s2,hR,e0.fC (by decide) (by decide),e1.fC (by decide) (by decide),e2.fC (by decide) (by decide),rfl⟩,_,rfl,fun d h=>by cases h;rfl⟩
   |2,hi=>
    cases hi;have hx:fr 12=Sl.v a.pl:=hF 1 _ _ rfl (hw 1 rfl) rfl;exact di (en Eu (il (q0 hx))) (fun w hw=>vh a.pl.A a.pl.n a.pl.c p.places w (hp.pl.mem hw) hn.pl) rfl (fun _=>rfl) fun x=>⟨⟨dD x.1.2::R,s0,s1,s2,hR,e0.call (z:=x.1.1) (by decide) x.2,(e1.fC (by decide) (by decide)).more _,(e2.fC (by decide) (by decide)).more _,rfl⟩,_,rfl,fun d h=>by cases h;trivial⟩
   |3,hi=>cases hi;exact gY (cR cZ rfl eh rfl (q0 hpt)) rfl rfl ⟨⟨R,s0,s1,s2,hR,e0.fC (by decide) (by decide),e1.fC (by decide) (by decide),e2.fC (by decide) (by decide),rfl⟩,_,rfl,fun d h=>by cases h;rfl⟩
   |4,hi=>
    cases hi;have hx:fr 14= .pointer (some ⟨b1,3,none⟩):=hF 3 _ _ rfl (hw 3 rfl) rfl;have hs:=e1.a fun h=>hno (hc 5 4 rfl (hc 12 5 rfl h));exact gY (ea (v:=Sl.v a.d) js (q0 hx) (fun _ w hw=>by rw [hs] at hw;exact gy hw (ox R (j:=2) rfl) rfl)) rfl rfl ⟨⟨R,s0,s1,s2,hR,e0.fC (by decide) (by decide),e1.fC (by decide) (by decide),e2.fC (by decide) (by decide),rfl⟩,_,rfl,fun d h=>by cases h;rfl⟩
   |5,hi=>
    cases hi;have hx:fr 15=Sl.v a.d:=hF 4 _ _ rfl (hw 4 rfl) rfl;exact di (en Eu (il (q0 hx))) (fun w hw=>vh a.d.A a.d.n a.d.c p.gk w (hp.dk.mem hw) hn.d) rfl (fun _=>rfl) fun x=>⟨⟨dD x.1.2::R,s0,s1,s2,hR,(e0.fC (by decide) (by decide)).more _,e1.call (z:=x.1.1) (by decide) x.2,(e2.fC (by decide) (by decide)).more _,rfl⟩,_,rfl,fun d h=>by cases h;trivial⟩
   |6,hi=>cases hi;exact gY (cR cZ rfl eh rfl (q0 hpt)) rfl rfl ⟨⟨R,s0,s1,s2,hR,e0.fC (by decide) (by decide),e1.fC (by decide) (by decide),e2.fC (by decide) (by decide),rfl⟩,_,rfl,fun d h=>by cases h;rfl⟩
   |7,hi=>
    cases hi;have hx:fr 17= .pointer (some ⟨b1,5,none⟩):=hF 6 _ _ rfl (hw 6 rfl) rfl;have hs:=e2.a fun h=>hno (hc 8 7 rfl (hc 14 8 rfl h));exact gY (ea (v:=Sl.v a.f) js (q0 hx) (fun _ w hw=>by rw [hs] at hw;exact gy hw (ox R (j:=2) rfl) rfl)) rfl rfl ⟨⟨R,s0,s1,s2,hR,e0.fC (by decide) (by decide),e1.fC (by decide) (by decide),e2.fC (by decide) (by decide),rfl⟩,_,rfl,fun d h=>by cases h;rfl⟩
   |8,hi=>
    cases hi;have hx:fr 18=Sl.v a.f:=hF 7 _ _ rfl (hw 7 rfl) rfl;exact di (en Eu (il (q0 hx))) (fun w hw=>vh a.f.A a.f.n a.f.c p.cX w (hp.fi.mem hw) hn.f) rfl (fun _=>rfl) fun x=>⟨⟨dD x.1.2::R,s0,s1,s2,hR,(e0.fC (by decide) (by decide)).more _,(e1.fC (by decide) (by decide)).more _,e2.call (z:=x.1.1) (by decide) x.2,rfl⟩,_,rfl,fun d h=>by cases h;trivial⟩
   |9,hi=>cases hi;exact gY (cR cZ rfl eh rfl (q0 hpt)) rfl rfl ⟨⟨R,s0,s1,s2,hR,e0.fC (by decide) (by decide),e1.fC (by decide) (by decide),e2.fC (by decide) (by decide),rfl⟩,_,rfl,fun d h=>by cases h;rfl⟩
   |10,hi=>
    cases hi;obtain ⟨z,hz,e⟩:=e0.store (hw 2 rfl);have hx:fr 20= .pointer (some ⟨b1,2,none⟩):=hF 9 _ _ rfl (hw 9 rfl) rfl;exact qz (R.length+2) (v:=z.v) hx hz eh rfl rfl (ox R rfl) rfl ⟨⟨R,z,s1,s2,hR,e,e1.fC (by decide) (by decide),e2.fC (by decide) (by decide),tF ..⟩,undef,rfl,fun d h=>by cases h⟩
   |11,hi=>cases hi;exact gY (cR cZ rfl eh rfl (q0 hpt)) rfl rfl ⟨⟨R,s0,s1,s2,hR,e0.fC (by decide) (by decide),e1.fC (by decide) (by decide),e2.fC (by decide) (by decide),rfl⟩,_,rfl,fun d h=>by cases h;rfl⟩
   |12,hi=>
    cases hi;obtain ⟨z,hz,e⟩:=e1.store (hw 5 rfl);have hx:fr 21= .pointer (some ⟨b1,3,none⟩):=hF 11 _ _ rfl (hw 11 rfl) rfl;exact qz (R.length+2) (v:=z.v) hx hz eh rfl rfl (ox R rfl) rfl ⟨⟨R,s0,z,s2,hR,e0.fC (by decide) (by decide),e,e2.fC (by decide) (by decide),tF ..⟩,undef,rfl,fun d h=>by cases h⟩
   |13,hi=>cases hi;exact gY (cR cZ rfl eh rfl (q0 hpt)) rfl rfl ⟨⟨R,s0,s1,s2,hR,e0.fC (by decide) (by decide),e1.fC (by decide) (by decide),e2.fC (by decide) (by decide),rfl⟩,_,rfl,fun d h=>by cases h;rfl⟩
   |14,hi=>
    cases hi;obtain ⟨z,hz,e⟩:=e2.store (hw 8 rfl);have hx:fr 22= .pointer (some ⟨b1,5,none⟩):=hF 13 _ _ rfl (hw 13 rfl) rfl;exact qz (R.length+2) (v:=z.v) hx hz eh rfl rfl (ox R rfl) rfl ⟨⟨R,s0,s1,z,hR,e0.fC (by decide) (by decide),e1.fC (by decide) (by decide),e,tF ..⟩,undef,rfl,fun d h=>by cases h⟩
   |n+15,hi=>simp at hi
  rintro S L fr hS hA ⟨R,s0,s1,s2,hR,e0,e1,e2,rfl⟩;obtain ⟨i0,hi0,k0⟩:=e0.c (hS 10 (by decide));obtain ⟨i1,hi1,k1⟩:=e1.c (hS 12 (by decide));obtain ⟨i2,hi2,k2⟩:=e2.c (hS 14 (by decide));exact aO (⟨((s0,s1,s2),R),(k0.dD hi0).two ((k1.dD hi1).two (k2.dD hi2))⟩:Xe p) hA trivial (fun w hw=>hw.dD) (by rw [iU,hR];rfl) trivial
 rintro ⟨⟨⟨y1,y2,y3⟩,x2⟩,hx2⟩ g2 _;iterate 4 refine G ?_
 refine fI (v:= .agg _) rfl rfl iM ?_;iterate 3 refine G ?_
 exact ID rfl (P6 rfl rfl kz iM) fun w' hw=>⟨⟨(⟨xt,xp,y1,y2,y3⟩,[dD x2,dD x1]),rfl,fun w hA=>by
  obtain ⟨a1,a2⟩:=hx1.ok w (hA.1 (dD x1) (by simp));obtain ⟨a3,a4,a5⟩:=hx2.ok w (hA.1 (dD x2) (by simp));exact ⟨a1,a2,a3,a4,a5⟩⟩,rfl,(hw.pick [0,1] (by decide)).dD (T:=[dD x2,dD x1]) (L:=[])⟩
end Go.Proofs.Own
namespace Go.Proofs.E
open Go Go.RowKit
section
variable {P:Program} {t kt et:TypeId}
theorem wR {w:World} {b:Nat} {ps:List ((Int×Int)×Value)} {z:Value} (K:su P kt) (ht:P.underlying t=some (.map kt et)) (hz: ∀w,(zeroValue et).run P w= .ok z w) (h:pU w b ps) (k:Int×Int):
  (Instr.lookup t (.map (some b)) (kv k) true).run P w= .ok (.tuple #[(gq ps k).getD z, .bool (gq ps k).isSome]) w:=by
 obtain ⟨es,c,h1,h2,_⟩:=h;rcases vU K k w es.toList ps 0 h2 with ⟨ha,hb,_⟩|⟨j,v,e,ha,hb,_⟩
 ·simp [Instr.lookup,run_underlying ht,MapKept.run_getObj_map h1,K.Q8,K.fk,hb,ha,hz,Result.andThen]
 simp [Instr.lookup,run_underlying ht,MapKept.run_getObj_map h1,K.Q8,K.fk,hb,ha,Result.andThen]
theorem AF {w:World} {b:Nat} {ps:List ((Int×Int)×Value)} (K:su P kt) (ht:P.underlying t=some (.map kt et)) (h:pU w b ps) (k:Int×Int) (hn:gq ps k=none) (v:Value):
  ∃w',(Instr.mapUpdate t (.map (some b)) (kv k) v).run P w= .ok () w'∧pU w' b (ps++[(k,v)])∧w.grownBy w' (some b)∧w'.heap.size=w.heap.size∧w.drawn≤w'.drawn:=by
 obtain ⟨es,c,h1,h2,h3⟩:=h;have hlt:b<w.heap.size:=(cm.1 h1).1;have hg: ∀o:Obj,w.grownBy {w with heap:=w.heap.setIfInBounds b o} (some b):=fun o=>⟨rfl,rfl,rfl,by simp,fun i _ hi=>by
  have hne:b≠i:=fun e=>hi (by rw [e]);exact eR hne⟩
 rcases vU K k w es.toList ps 0 h2 with ⟨ha,hb,hput⟩|⟨j,x,e,ha,_⟩
 ·refine ⟨{w with heap:=w.heap.setIfInBounds b (.map (es.push {key:=kv k,val:=v,born:=c}) (c+1))},?_,⟨_,_,cC hlt,?_,by simpa using h3.push rfl⟩,hg _,by simp,bq _⟩
  ·simp [Instr.mapUpdate,run_underlying ht,MapKept.run_getObj_map h1,K.Q8,K.fk,hb,Result.andThen,MapKept.run_setObj_map _ h1]
  simpa using uP h2 (e:={key:=kv k,val:=v,born:=c}) (p:=(k,v)) ⟨rfl,rfl⟩
 rw [hn] at ha;cases ha
end
section
variable {c:Cx} {w0:World} {L:List Item} {f:Fr} {K:List Item→Fr→Prop} {d:Nat} {ty:TypeId} {pos:String} {af:Array Edge} {g:Bool} {x y z:Operand} {t kt et:TypeId}
theorem vP {b:Nat} {ps:List ((Int×Int)×Value)} {key:Int×Int} {v u:Value} {bb:Bool} (hK:su c.P kt) (ht:c.P.underlying t=some (.map kt et)) (hz: ∀w,(zeroValue et).run c.P w= .ok v w) (hx:gw g f x (.map (some b))) (hy:gw g f y (kv key))
  (hA: ∀w,Mem w0 L w→pU w b ps) (hu:g=true→(gq ps key).getD v=u∧(gq ps key).isSome=bb):iO g c w0 L f (.lookup t x y true) ty (.tuple #[u, .bool bb]):=fun e _ _ _ _ w hw=>by
 simp [execOp,hx e,hy e,wR hK ht hz (hA w hw) key,Result.andThen,hu e]
theorem Og {b:Nat} {ps:List ((Int×Int)×Value)} {key:Int×Int} {v u:Value} (hK:su c.P kt) (ht:c.P.underlying t=some (.map kt et)) (hz: ∀w,(zeroValue et).run c.P w= .ok v w) (hx:gw g f x (.map (some b))) (hy:gw g f y (kv key))
  (hA: ∀w,Mem w0 L w→pU w b ps) (hu:g=true→(gq ps key).getD v=u):iO g c w0 L f (.lookup t x y false) ty u:=fun e _ _ _ _ w hw=>by
 simp [execOp,hx e,hy e,p8 hK ht hz (hA w hw) key,Result.andThen,hu e]
theorem TV (k:Nat) {b:Nat} {ps:List ((Int×Int)×Value)} {key:Int×Int} {v:Value} (hK:su c.P kt) (ht:c.P.underlying t=some (.map kt et)) (hx:ev f x= .map (some b)) (hy:ev f y=kv key) (hz:ev f z=v)
  (hk:L[k]?=some (oT b ps)) (hn:gq ps key=none) (next:K (L.set k (oT b (ps++[(key,v)]))) f):
  uz c w0 L f ⟨none, .mapUpdate t x y z,ty,pos,af,none⟩ K:=
 ⟨rfl,rfl,rfl,fun w hw=>by
  have hA:pU w b ps:=hw.item hk;obtain ⟨w',hrun,h1,h2,h3,h4⟩:=AF (P:=c.P) hK ht hA key hn v;have:(execOp (ev f) ⟨none, .mapUpdate t x y z,ty,pos,af,none⟩).run c.P w= .ok .skip w':=by simp [execOp,hx,hy,hz,hrun,Result.andThen]
  rw [this];refine ⟨_,hw.set (it':=oT b (ps++[(key,v)])) hk (fun _ h=>h) h1 ⟨h2.os,h2.tape,h2.output,h3,h4⟩ (fun b' hb'=>?_),ie hk rfl,next⟩;by_cases hlt:b'<w.heap.size
  ·exact h2.block b' hlt (fun e=>hb' (by injection e))
  rw [cD (by omega),cD (by omega)]⟩
end
theorem pU.lt {w:World} {b:Nat} {ps:List ((Int×Int)×Value)} (h:pU w b ps):b<w.heap.size:=by
 obtain ⟨es,c,h1,_⟩:=h;exact (cm.1 h1).1
theorem pU.mem {w0 w:World} {L:List Item} {b:Nat} {ps:List ((Int×Int)×Value)} (h:pU w0 b ps) (hw:Mem w0 L w):pU w b ps:=by
 have hl:=h.lt;obtain ⟨es,c,h1,h2⟩:=h;exact ⟨es,c,(hw.1.block b hl).trans h1,h2⟩
end Go.Proofs.E
namespace Go.Proofs.Rid
open Go Go.RowKit Go.Proofs.E Go.Proofs.Cus
theorem mL {α:Type} {l:List α} {k:Nat} {x y:α} (h:l[k]?=some x):(l.set k y)[k]?=some y:=by
 have:=(aa.1 h).1;rw [bw];simp [this]
theorem ta (xs:List RX) (k:Nat) (y:RX):(xs.set k y).map (·.r)=(xs.map (·.r)).set k y.r:=k8
section
variable {a:YA} {t:TY} {w0 w:World} {L:List E.Item} {n N:Nat}
theorem qZ {k:Nat} {x:RX} (hx:t.xs[k]?=some x):(t.xs.map (·.r)).getD k default=x.r:=(Mf hx).2
theorem qx (hw:Mem w0 (zm a t++L) w) (hmk:marks L=[]) (hI:WF n N t.plain) (hN:N≤100000) (b:Nat) (hb:b<n) (at_:Sp) (wh:pG):
  Calls Tryz.prog 157 #[.pointer (some ⟨a.sb,0,none⟩), .int .i64 b, .agg at_.cells.toArray, .agg wh.cells.toArray] w fun r w'=> ∃t':{t':TY//t'.plain=gX t.plain b at_ wh},r= .returned (.tuple #[])∧Mem w0 (zm a t'.1++L) w':=by
 obtain ⟨hpl,hrl,hsl,hxl⟩:=Cm hI;obtain ⟨v,hv,hvg,hv0,hv1⟩:=qY hI hb;have hvt:t.cG[b]?=some v:=hv;obtain ⟨sp,hsp⟩: ∃sp,t.aK[b]?=some sp:=⟨_,aj (by omega)⟩;have hv1':v<t.xs.length:=by simpa [TY.plain] using hv1
 obtain ⟨t1,ht1⟩: ∃t1:TY,t1=⟨t.xs,t.mF,t.cG,t.bn,t.aK.set b at_⟩:=⟨_,rfl⟩;have hI1:WF n N t1.plain:=by rw [ht1];exact ⟨hI.cG,by simp [TY.plain];exact hsl,hI.bn,hI.num,hI.aP,hI.cw,hI.ids⟩
 have hst1: ∀(X:List E.Item) (u:World),Mem w0 ([box a.sb 183 (kO a t),jt a.rA a.rc t.xs,yn t.xs,El a.pA a.pc t.bn,rf (some ⟨a.g,0,none⟩) a.gc t.cG,E.dR 252 4 Sp.cells (some ⟨a.s,0,none⟩) a.sc (t.aK.set b at_),kS a.m (MU t.mF)]++X) u→Mem w0 (zm a t1++X) u:=fun X u h=>by
  have hc:kO a t1=kO a t:=by rw [ht1];unfold kO;simp
  show Mem w0 ([box a.sb 183 (kO a t1),_,_,_,_,_,_]++X) u;rw [hc,ht1];exact h
 refine eu hw hmk Tryz.func157 rfl Tryz.ntmps157 rfl ?_;iterate 2 refine G ?_
 refine cd (v:= .agg _) rfl rfl fun b6=>?_;refine cd (v:= .agg _) rfl rfl fun b7=>?_;iterate 3 refine G ?_
 refine E.RT rfl rfl (by decide+kernel) ?_;iterate 6 refine G ?_
 refine bO (bt b cq cF (q0 rfl) (q0 rfl) (fun _=>⟨rfl,by omega⟩)) ?_;iterate 2 refine G ?_
 refine bZ (ew 7 at_ rfl rfl cF rfl rfl rfl hsp rfl rfl ?_);iterate 9 refine G ?_
 refine bO (bt b ak ax (q0 rfl) (q0 rfl) (fun _=>⟨rfl,by omega⟩)) ?_;refine bO (ea (v:= .int .i64 v) aJ (q0 rfl) (by exact oR 6 (k:=1) (enc:=aN) rfl hvt rfl)) ?_;iterate 10 refine G ?_
 refine au rfl ?_ ?_<;>intro hneg
 ·have hneg':v<0:=by simpa using hneg
  iterate 2 refine G ?_
  exact Tv rfl hmk fun w' hw=>⟨⟨t1,by rw [ht1];unfold gX TY.plain;simp only;rw [show t.cG.getD b 0=v from hvg,av hneg']⟩,rfl,hst1 L w' hw.tail.tail⟩
 have hpos:0≤v:=by simpa using hneg
 obtain ⟨k,rfl⟩: ∃k:Nat,v=k:=⟨v.toNat,by omega⟩;have hk:k<t.xs.length:=by omega
 obtain ⟨x,hx⟩: ∃x,t.xs[k]?=some x:=⟨_,aj hk⟩;obtain ⟨y,hy⟩: ∃y:RX,y=⟨dB (t.bn.getD k false) wh x.r,x.a⟩:=⟨_,rfl⟩;obtain ⟨t2,ht2⟩: ∃t2:TY,t2=⟨t.xs.set k y,t.mF,t.cG,t.bn.set k false,t.aK.set b at_⟩:=⟨_,rfl⟩;have hx1:t1.xs[k]?=some x:=by rw [ht1];exact hx
 have hx2:t2.xs[k]?=some y:=by rw [ht2];exact mL hx
 have hlo:=E5 hI hx;have hlo2:=BO (p:=t.bn.getD k false) (w:=wh) hlo;rw [show dB (t.bn.getD k false) wh x.r=y.r by rw [hy]] at hlo2;have hI2:WF n N t2.plain:=by
  have:=hI1.resume (k:=k) (by rw [ht1];simpa [TY.plain] using hk) wh;have e:t2.plain=kh t1.plain k wh:=by
   rw [ht2,ht1];unfold kh TY.plain;simp only;rw [ta,qZ hx,hy]
  rw [e];exact this
 iterate 7 refine G ?_
 refine bZ (bR (en Tryz.call156 (nj (q0 rfl) (q0 rfl) (q0 rfl))) (fun w hw=>Gh (a:=a) (t:=t1) (L:=[_,_]++L) (hst1 _ _ (Mem.v7 (X:=[_,_]) (S:=[box a.sb 183 (kO a t),_,_,_,_,_,_]) hw)) hmk hI1 hN (by rw [ht1];exact hk) hx1 wh) rfl (fun _=>rfl) fun u=>?_);iterate 3 refine G ?_
 refine fY (L':=RJ a t2 k y++([box b7 187 wh.cells,box b6 252 at_.cells]++L)) (fun w hw=>Js (by
  have e:(⟨t1.xs.set k ⟨dB (t1.bn.getD k false) wh x.r,x.a⟩,t1.mF,t1.cG,t1.bn.set k false,t1.aK⟩:TY)=t2:=by rw [ht2,ht1,hy]
  rw [e] at hw;exact hw) hx2) rfl ?_
 have hkn:k<t2.xs.length:=by rw [ht2];simpa using hk
 have hv2:t2.cG[b]?=some (k:Int):=by rw [ht2];exact hvt
 have hcl:=fun (z:RX) (w:World)=>Fp (a:=a) (t:=t2) (w0:=w0) (w:=w) (L:=L) (m:=t2.mF) (gs:=t2.cG.set b (-1)) (ps:=t2.bn) (ss:=t2.aK) (k:=k) z hkn (by simp) rfl rfl;have hfin: ∀(z:RX),z.r=kl at_ wh y.r→(⟨t2.xs.set k z,t2.mF,t2.cG.set b (-1),t2.bn,t2.aK⟩:TY).plain=gX t.plain b at_ wh:=fun z hz=>by
  unfold gX;rw [hvg,ah (by omega)];simp only [aM];rw [ht2];unfold kh TY.plain;simp only;rw [qZ hx,ta,ta,fB,fB,hz,hy];have h8:(t.xs.map (·.r))[k]?=some x.r:=(Mf hx).1;rw [im (mL h8)]
 have hrl2:t2.cG.length=n:=by rw [ht2];exact hrl
 obtain ⟨yr,⟨lA,lc,pA,pc⟩⟩:=y;simp only at hlo2 hfin;refine fN (fun w hw=>dP (j:=0) hw rfl (by omega)) fun ⟨rb,hrb⟩=>?_;refine fN (fun w hw=>dP (j:=2) hw rfl (by simp only;omega)) fun ⟨lb,hlb⟩=>?_;obtain ⟨asb,arA,arc,am,ag,agc,apA,apc,as_,Ka⟩:=a;simp only at hrb hlb;subst hrb;subst hlb;obtain ⟨g,hg⟩: ∃g,yr.cw[yr.cw.length -1]?=some g:=⟨_,aj (by omega)⟩;iterate 6 refine G ?_
 refine bO (bt k bI bo (q0 rfl) (q0 rfl) (fun _=>⟨rfl,hkn⟩)) ?_;iterate 4 refine G ?_
 refine E.RT rfl rfl (by decide+kernel) ?_;iterate 3 refine G ?_
 refine bO (ea (v:= .slice (some ⟨lb,0,none⟩) yr.cw.length lc) qS (q0 rfl) (by exact rr 0 (r:=7) rfl hx2 rfl)) ?_;iterate 3 refine G ?_
 refine bO (ea (v:= .slice (some ⟨lb,0,none⟩) yr.cw.length lc) qS (q0 rfl) (by exact rr 0 (r:=7) rfl hx2 rfl)) ?_;refine G ?_;refine bO (ou (r:=((yr.cw.length -1:Nat):Int)) (q0 rfl) (q0 rfl) (fun _=>⟨by omega,by omega,by omega⟩)) ?_;refine G ?_;refine bO (bt (yr.cw.length -1) ef gP (q0 rfl) (q0 rfl) (fun _=>⟨rfl,by omega⟩)) ?_;iterate 3 refine G ?_
 refine bZ (jn 2 (i:=yr.cw.length -1) (off:=3) {g with mK:=wh} rfl rfl cQ rfl rfl rfl hg rfl rfl ?_);iterate 3 refine G ?_
 refine zd 1 ?_;refine aW 0 ?_;refine aW 1 ?_;refine aW 2 ?_;refine aW 3 ?_;refine aW 4 ?_;refine aW 5 ?_;refine aW 6 ?_;refine aW 7 ?_;refine aW 8 ?_;refine aW 9 ?_;refine aW 10 ?_;refine r1 11 1 ?_;refine aL rfl (jn 0 (i:=k) (off:=4) ⟨{yr with end_:=wh},⟨some ⟨lb,0,none⟩,lc,pA,pc⟩⟩ rfl rfl cQ rfl rfl rfl hx2 rfl rfl ?_);refine aW 12 ?_;refine aW 13 ?_;refine r1 14 1 ?_;refine aL rfl (jn 0 (i:=k) (off:=6) ⟨{yr with end_:=wh,open_:=false},⟨some ⟨lb,0,none⟩,lc,pA,pc⟩⟩ rfl rfl dG rfl rfl rfl (mL hx2) rfl rfl ?_);refine aW 15 ?_;refine aW 16 ?_;refine r1 17 1 ?_;refine aL rfl (jn 0 (i:=k) (off:=11) ⟨{yr with end_:=wh,open_:=false,wh:=at_.cn},⟨some ⟨lb,0,none⟩,lc,pA,pc⟩⟩ rfl rfl ax rfl rfl rfl (mL (mL hx2)) rfl rfl ?_);refine aW 18 ?_;refine aW 19 ?_;refine r1 20 1 ?_;refine aL rfl (jn 0 (i:=k) (off:=12) ⟨{yr with end_:=wh,open_:=false,wh:=at_.cn,pl:=at_.place},⟨some ⟨lb,0,none⟩,lc,pA,pc⟩⟩ rfl rfl ax rfl rfl rfl (mL (mL (mL hx2))) rfl rfl ?_);refine jz 1 ?_;iterate 7 refine G ?_
 refine bO (bt b ak ax (q0 rfl) (q0 rfl) (fun _=>⟨rfl,by omega⟩)) ?_;refine bZ (ew 4 (k:=1) (enc:=aN) (-1) rfl rfl ax rfl rfl rfl hv2 rfl rfl ?_);refine G ?_;exact lj rfl hmk fun w' hw=>⟨⟨_,hfin ⟨kl at_ wh yr,⟨some ⟨lb,0,none⟩,lc,pA,pc⟩⟩ rfl⟩,rfl,hcl ⟨kl at_ wh yr,⟨some ⟨lb,0,none⟩,lc,pA,pc⟩⟩ w' (by
  have h9:=hw.dh 11 [0,1,2,3,4,5,6,7,8] (by decide) (by decide);have e1:jt (some ⟨rb,0,none⟩) arc (t2.xs.set k ⟨kl at_ wh yr,⟨some ⟨lb,0,none⟩,lc,pA,pc⟩⟩)=jt (some ⟨rb,0,none⟩) arc ((((t2.xs.set k ⟨{yr with end_:=wh},⟨some ⟨lb,0,none⟩,lc,pA,pc⟩⟩).set k ⟨{yr with end_:=wh,open_:=false},⟨some ⟨lb,0,none⟩,lc,pA,pc⟩⟩).set k ⟨{yr with end_:=wh,open_:=false,wh:=at_.cn},⟨some ⟨lb,0,none⟩,lc,pA,pc⟩⟩).set k ⟨{yr with end_:=wh,open_:=false,wh:=at_.cn,pl:=at_.place},⟨some ⟨lb,0,none⟩,lc,pA,pc⟩⟩):=by
   simp only [fB];have:=zq (e:=191) (n:=13) (c:=arc) (enc:=RX.cells) (A:=some ⟨rb,0,none⟩) (k:=k) (x:=⟨{yr with end_:=wh,open_:=false,wh:=at_.cn,pl:=at_.place},⟨some ⟨lb,0,none⟩,lc,pA,pc⟩⟩) (y:=⟨kl at_ wh yr,⟨some ⟨lb,0,none⟩,lc,pA,pc⟩⟩) (mL hx2) (by simp [RX.cells,Rd.Bc,kl,lh]);rw [fB] at this;exact this
  have e2:(kl at_ wh yr).cw=yr.cw.set (yr.cw.length -1) {g with mK:=wh}:=by unfold kl;rw [LG hg]
  simp only;rw [e1,e2];exact h9)⟩
end
end Go.Proofs.Rid
namespace Go.Proofs.Rid
open Go Go.RowKit Go.Proofs.E Go.Proofs.Cus
section
variable {a:YA} {t:TY} {w0 w:World} {L:List E.Item} {n N:Nat}
abbrev Ui (a:YA) (p:SY):Type:={y:YA×TY//y.1.sb=a.sb∧y.2.plain=p}
theorem Fs (hw:Mem w0 (zm a t++L) w) (hmk:marks L=[]) (hI:WF n N t.plain) (hN:N≤100000) (e:Ev) (hb:0≤e.bD∧e.bD<n) (wh:pG):
  Calls Tryz.prog 154 #[.pointer (some ⟨a.sb,0,none⟩), .agg e.cells.toArray, .agg wh.cells.toArray] w fun r w'=> ∃y:Ui a (qh t.plain e wh),r= .returned (.tuple #[])∧Mem w0 (zm y.1.1 y.1.2++L) w':=by
 obtain ⟨hpl,hrl,hsl,hxl⟩:=Cm hI;obtain ⟨k,hk⟩: ∃k:Nat,e.bD=k:=⟨e.bD.toNat,by omega⟩;have hkn:k<n:=by omega
 obtain ⟨sp,hsp⟩: ∃sp,t.aK[k]?=some sp:=⟨_,aj (by omega)⟩;obtain ⟨v,hv,hvg,hv0,hv1⟩:=qY hI hkn;have hvt:t.cG[k]?=some v:=hv;have hspd:t.plain.aK.getD e.bD.toNat default=sp:=by rw [hk];exact im hsp
 obtain ⟨ed,es,eat,el,ekind,ebike,epl,erd,erid⟩:=e;simp only at hk hspd;subst hk;refine eu hw hmk Tryz.func154 rfl Tryz.ntmps154 rfl ?_;iterate 2 refine G ?_
 refine cd (v:= .agg _) rfl rfl fun b4=>?_;refine cd (v:= .agg _) rfl rfl fun b5=>?_;iterate 3 refine G ?_
 refine AQ ?_;refine aW 0 ?_;refine aW 1 ?_;refine aW 2 ?_;refine aW 3 ?_;refine aW 4 ?_;refine aW 5 ?_;refine iQ 6 rfl (bt k cq cF (q0 rfl) (q0 rfl) (fun _=>⟨rfl,by omega⟩)) ?_;refine aW 7 ?_;refine r1 8 0 ?_;refine aL rfl (lX eY rfl fun b6=>?_);refine r1 9 1 ?_;refine aL rfl (kU (v:= .agg _) rfl rfl cF ?_);refine jz 1 ?_;iterate 2 refine G ?_
 refine E.RT rfl rfl (by decide+kernel) ?_;iterate 13 refine G ?_
 refine bZ (G6 9 ja aG rfl rfl rfl rfl ?_);iterate 3 refine G ?_
 refine E.RT rfl rfl (by decide+kernel) ?_;iterate 11 refine G ?_
 refine bO (bt k ak ax (q0 rfl) (q0 rfl) (fun _=>⟨rfl,by omega⟩)) ?_;iterate 2 refine G ?_
 refine bZ (ew 7 (k:=1) (enc:=aN) (t.xs.length:Int) rfl rfl ax rfl rfl rfl hvt rfl rfl ?_);iterate 3 refine G ?_
 refine fY (fun w hw=>hw.dh 10 [3,4,0,1,2,5,6,7,8,9] (by decide) (by decide)) rfl ?_;refine jK [38,39,40,41,42,43,44,45,46,47,48,49,50,51,52,53,54,55,56,57,58,59,60,61] (fun _:Nat×Option Addr×Nat=>[]) (fun s=>[Ai none 0 [],Ao (some ⟨s.1,0,none⟩) 1 [⟨k,wh,nY⟩],box a.sb 183 [.slice s.2.1 (t.xs++[(⟨qv ⟨ed,es,eat,el,ekind,k,epl,erd,erid⟩ sp wh,⟨some ⟨s.1,0,none⟩,1,none,0⟩⟩:RX)]).length s.2.2, .map (some a.m), .slice (some ⟨a.g,0,none⟩) t.cG.length a.gc, .slice a.pA t.bn.length a.pc, .slice (some ⟨a.s,0,none⟩) t.aK.length a.sc],jt s.2.1 s.2.2 (t.xs++[(⟨qv ⟨ed,es,eat,el,ekind,k,epl,erd,erid⟩ sp wh,⟨some ⟨s.1,0,none⟩,1,none,0⟩⟩:RX)]),yn t.xs,El a.pA a.pc t.bn,rf (some ⟨a.g,0,none⟩) a.gc (t.cG.set k t.xs.length),E.dR 252 4 Sp.cells (some ⟨a.s,0,none⟩) a.sc t.aK,kS a.m (ml (MU t.mF) erid (.int .i64 t.xs.length))]++L) (fun _=>True) ?_ ?_
 ·refine zd 2 ?_;refine aW 0 ?_;refine aW 1 ?_;refine aW 2 ?_;refine aW 3 ?_;refine aW 5 ?_;refine aW 6 ?_;refine aW 7 ?_;refine aW 8 ?_;refine aW 9 ?_;refine aW 10 ?_;refine aW 11 ?_;refine aW 12 ?_;refine iQ 13 rfl (bS nz Sa kG (pt (v:= .int _ _) rfl (pt (v:= .agg _) rfl E.p0)) rfl) ?_;refine aW 15 ?_;refine aW 16 ?_;refine aW 17 ?_;refine aW 18 ?_;refine kY (i:=4) (j:=14) (by decide+kernel) (bK 2) ?_ ?_
  ·refine aL rfl (gY (ea (v:= .slice a.rA t.xs.length a.rc) uu (q0 rfl) cb) rfl rfl ?_);refine r1 14 2 ?_;refine aL rfl (dE [(.int .i64 0),(.int .i64 0),(.int .i64 0),(.int .i64 0),(.int .i64 0)] ef gP kG rfl (by kernel_rfl) (pt (v:= .agg _) rfl E.p0) rfl rfl fun b52=>?_);refine iQ 19 rfl (bS eK Sb dq (pt (v:= .int _ _) rfl (pt (v:= .int _ _) rfl (pt (v:= .agg _) rfl (pt (v:= .bool _) rfl (pt (v:= .slice _ _ _) rfl (pt (v:= .int _ _) rfl (pt (v:= .int _ _) rfl (pt (v:= .int _ _) rfl E.p0)))))))) rfl) ?_;refine r1 20 3 ?_;refine aL rfl (dE [(.int .i64 0),(.int .i64 0),(.int .i64 0),(.int .i64 0),(.int .i64 0),(.int .i64 0),(.bool false),(.slice none 0 0),(.slice none 0 0),(.int .i64 0),(.int .i64 0),(.int .i64 0),(.int .i64 0)] bI bo dq rfl (by kernel_rfl) (pt (v:= .agg _) rfl E.p0) rfl rfl fun b58=>?_);refine aI 1 ?_;refine r1 21 4 ?_;refine aL rfl (ba (k:=13) (i:=Tryz.t191) (enc:=RX.cells) 3 bI (by kernel_rfl) rfl rfl rfl rfl (fun _=>rfl) (fun _=>rfl) rfl rfl rfl (fun w hw=>bg (enc:=RX.cells) (xs:=[⟨qv ⟨ed,es,eat,el,ekind,k,epl,erd,erid⟩ sp wh,⟨some ⟨b52,0,none⟩,1,none,0⟩⟩]) hw (j:=1) rfl (fun _=>rfl) (by simp)) ⟨by simp;omega,by decide⟩ rfl fun A1 c1=>?_);refine aW 22 ?_;refine aW 23 ?_;refine r1 24 4 ?_;refine aL rfl (kU (v:= .slice _ _ _) rfl rfl Ds ?_);refine jz 4 ?_;exact aO ((b52,A1,c1):Nat×Option Addr×Nat) eE trivial (fun w hw=>by have h1:=hw.dh 12 [0,2,3,7,8,9,10,11] (by decide) (by decide);have h2:=h1.Fq (j:=0) (b:=b52) (e:=276) (n:=5) (enc:=Lg.cells) (xs:=[⟨k,wh,nY⟩]) rfl (fun _=>rfl) (by simp);have h3:=h2.eX 248 4 Pz.cells (c:=0) rfl;exact h3) rfl trivial
  refine aL rfl (dE [(.int .i64 0),(.int .i64 0),(.int .i64 0),(.int .i64 0),(.int .i64 0)] ef gP kG rfl (by kernel_rfl) (pt (v:= .agg _) rfl E.p0) rfl rfl fun b52=>?_);refine iQ 19 rfl (bS eK Sb dq (pt (v:= .int _ _) rfl (pt (v:= .int _ _) rfl (pt (v:= .agg _) rfl (pt (v:= .bool _) rfl (pt (v:= .slice _ _ _) rfl (pt (v:= .int _ _) rfl (pt (v:= .int _ _) rfl (pt (v:= .int _ _) rfl E.p0)))))))) rfl) ?_;refine kY (i:=4) (j:=20) (by decide+kernel) (bK 3) ?_ ?_
  ·refine aL rfl (gY (ea (v:= .slice a.rA t.xs.length a.rc) uu (q0 rfl) cb) rfl rfl ?_);refine r1 20 3 ?_;refine aL rfl (dE [(.int .i64 0),(.int .i64 0),(.int .i64 0),(.int .i64 0),(.int .i64 0),(.int .i64 0),(.bool false),(.slice none 0 0),(.slice none 0 0),(.int .i64 0),(.int .i64 0),(.int .i64 0),(.int .i64 0)] bI bo dq rfl (by kernel_rfl) (pt (v:= .agg _) rfl E.p0) rfl rfl fun b58=>?_);refine aI 1 ?_;refine r1 21 4 ?_;refine aL rfl (ba (k:=13) (i:=Tryz.t191) (enc:=RX.cells) 3 bI (by kernel_rfl) rfl rfl rfl rfl (fun _=>rfl) (fun _=>rfl) rfl rfl rfl (fun w hw=>bg (enc:=RX.cells) (xs:=[⟨qv ⟨ed,es,eat,el,ekind,k,epl,erd,erid⟩ sp wh,⟨some ⟨b52,0,none⟩,1,none,0⟩⟩]) hw (j:=1) rfl (fun _=>rfl) (by simp)) ⟨by simp;omega,by decide⟩ rfl fun A1 c1=>?_);refine aW 22 ?_;refine aW 23 ?_;refine r1 24 4 ?_;refine aL rfl (kU (v:= .slice _ _ _) rfl rfl Ds ?_);refine jz 4 ?_;exact aO ((b52,A1,c1):Nat×Option Addr×Nat) eE trivial (fun w hw=>by have h1:=hw.dh 12 [0,2,3,7,8,9,10,11] (by decide) (by decide);have h2:=h1.Fq (j:=0) (b:=b52) (e:=276) (n:=5) (enc:=Lg.cells) (xs:=[⟨k,wh,nY⟩]) rfl (fun _=>rfl) (by simp);have h3:=h2.eX 248 4 Pz.cells (c:=0) rfl;exact h3) rfl trivial
  refine aL rfl (dE [(.int .i64 0),(.int .i64 0),(.int .i64 0),(.int .i64 0),(.int .i64 0),(.int .i64 0),(.bool false),(.slice none 0 0),(.slice none 0 0),(.int .i64 0),(.int .i64 0),(.int .i64 0),(.int .i64 0)] bI bo dq rfl (by kernel_rfl) (pt (v:= .agg _) rfl E.p0) rfl rfl fun b58=>?_);refine aI 1 ?_;refine r1 4 4 ?_;refine aL rfl (gY (ea (v:= .slice a.rA t.xs.length a.rc) uu (q0 rfl) cb) rfl rfl ?_);refine r1 21 4 ?_;refine aL rfl (ba (k:=13) (i:=Tryz.t191) (enc:=RX.cells) 3 bI (by kernel_rfl) rfl rfl rfl rfl (fun _=>rfl) (fun _=>rfl) rfl rfl rfl (fun w hw=>bg (enc:=RX.cells) (xs:=[⟨qv ⟨ed,es,eat,el,ekind,k,epl,erd,erid⟩ sp wh,⟨some ⟨b52,0,none⟩,1,none,0⟩⟩]) hw (j:=1) rfl (fun _=>rfl) (by simp)) ⟨by simp;omega,by decide⟩ rfl fun A1 c1=>?_);refine aW 22 ?_;refine aW 23 ?_;refine r1 24 4 ?_;refine aL rfl (kU (v:= .slice _ _ _) rfl rfl Ds ?_);refine jz 4 ?_;exact aO ((b52,A1,c1):Nat×Option Addr×Nat) eE trivial (fun w hw=>by have h1:=hw.dh 12 [0,2,3,7,8,9,10,11] (by decide) (by decide);have h2:=h1.Fq (j:=0) (b:=b52) (e:=276) (n:=5) (enc:=Lg.cells) (xs:=[⟨k,wh,nY⟩]) rfl (fun _=>rfl) (by simp);have h3:=h2.eX 248 4 Pz.cells (c:=0) rfl;exact h3) rfl trivial
 rintro ⟨lb,A1,c1⟩ g5 _;iterate 7 refine G ?_
 refine lq (k:=1) (i:=Tryz.t4) 5 (false) eN (by kernel_rfl) rfl rfl rfl rfl dG gK rfl rfl rfl rfl rfl rfl ⟨by omega,by decide⟩ rfl rfl fun PB A2 c2=>?_;iterate 2 refine G ?_
 refine fI (v:= .slice _ _ _) rfl rfl iX ?_;refine G ?_;exact lj rfl hmk fun w' hw=>⟨⟨(⟨a.sb,A1,c1,a.m,a.g,a.gc,A2,c2,a.s,a.sc⟩,⟨t.xs++[⟨qv ⟨ed,es,eat,el,ekind,k,epl,erd,erid⟩ sp wh,⟨some ⟨lb,0,none⟩,1,none,0⟩⟩],EM t.mF erid t.xs.length,t.cG.set k t.xs.length,t.bn++[false],t.aK⟩),rfl,by
  unfold qh TY.plain;unfold TY.plain at hspd;simp only at hspd⊢;rw [hspd];simp⟩,rfl,by
  have h1:=hw.dh 9 [1,0,4,2,3,5,6,7,8] (by decide) (by decide);have h2:=Mem.ph (f:=kH) (y:=⟨qv ⟨ed,es,eat,el,ekind,k,epl,erd,erid⟩ sp wh,⟨some ⟨lb,0,none⟩,1,none,0⟩⟩) (xs:=t.xs) h1;have h3:=h2.dh 7 [1,2,0,3,4,5,6] (by decide) (by decide);rw [Jg] at h3;have hc:kO ⟨a.sb,A1,c1,a.m,a.g,a.gc,A2,c2,a.s,a.sc⟩ ⟨t.xs++[⟨qv ⟨ed,es,eat,el,ekind,k,epl,erd,erid⟩ sp wh,⟨some ⟨lb,0,none⟩,1,none,0⟩⟩],EM t.mF erid t.xs.length,t.cG.set k t.xs.length,t.bn++[false],t.aK⟩=[.slice A1 (t.xs++[(⟨qv ⟨ed,es,eat,el,ekind,k,epl,erd,erid⟩ sp wh,⟨some ⟨lb,0,none⟩,1,none,0⟩⟩:RX)]).length c1, .map (some a.m), .slice (some ⟨a.g,0,none⟩) t.cG.length a.gc, .slice A2 (t.bn++[false]).length c2, .slice (some ⟨a.s,0,none⟩) t.aK.length a.sc]:=by unfold kO;simp
  show Mem w0 ([box a.sb 183 (kO _ _),_,_,_,_,_,_]++L) w';rw [hc];exact h3⟩
theorem OG (hw:Mem w0 (zm a t++L) w) (hmk:marks L=[]) (hI:WF n N t.plain) (hN:N≤100000) (e:Ev) (hb:0≤e.bD∧e.bD<n) (wh:pG):
  Calls Tryz.prog 155 #[.pointer (some ⟨a.sb,0,none⟩), .agg e.cells.toArray, .agg wh.cells.toArray] w fun r w'=> ∃y:Ui a (ko t.plain e wh),r= .returned (.tuple #[])∧Mem w0 (zm y.1.1 y.1.2++L) w':=by
 obtain ⟨hpl,hrl,hsl,hxl⟩:=Cm hI;obtain ⟨k,hk⟩: ∃k:Nat,e.bD=k:=⟨e.bD.toNat,by omega⟩;have hkn:k<n:=by omega
 obtain ⟨sp,hsp⟩: ∃sp,t.aK[k]?=some sp:=⟨_,aj (by omega)⟩;have hspd:t.plain.aK.getD e.bD.toNat default=sp:=by rw [hk];exact im hsp
 have hlk:=MT t.mF e.aP;have hids:=hI.ids e.aP;obtain ⟨ed,es,eat,el,ekind,ebike,epl,erd,erid⟩:=e;simp only at hk hspd hlk hids;subst hk;cases hr:zv t.mF erid with
 |none=>
  rw [hr] at hlk;refine eu hw hmk Tryz.func155 rfl Tryz.ntmps155 rfl ?_;iterate 2 refine G ?_
  refine cd (v:= .agg _) rfl rfl fun b4=>?_;refine cd (v:= .agg _) rfl rfl fun b5=>?_;iterate 3 refine G ?_
  refine tB ?_;iterate 6 refine G ?_
  refine bO (tk 8 (u:= .int .i64 0) (bb:=false) ja aG bh (q0 rfl) (q0 rfl) rfl (fun _=>by rw [hlk];exact ⟨rfl,rfl⟩)) ?_;iterate 14 refine G ?_
  refine au rfl ?_ ?_<;>intro h1
  ·iterate 2 refine G ?_
   exact Tv rfl hmk fun w' hw=>⟨⟨(a,t),rfl,by unfold ko;rw [show zv t.plain.mF erid=none from hr]⟩,rfl,hw.tail.tail⟩
  cases h1
 |some kk=>
  rw [hr] at hlk;obtain ⟨hk0,hk1⟩:=hids kk hr;obtain ⟨q,rfl⟩: ∃q:Nat,kk=q:=⟨kk.toNat,by omega⟩;have hq:q<t.xs.length:=by simpa [TY.plain] using hk1
  obtain ⟨x,hx⟩: ∃x,t.xs[q]?=some x:=⟨_,aj hq⟩;have hlo:=E5 hI hx;have hxd:=qZ hx;have hop:=fun (X:List E.Item) (w:World) (h:Mem w0 (zm a t++X) w)=>Js h hx;have hcl:=fun (z:RX) (gs:List Int) (ss:List Sp) (w:World)=>Fp (a:=a) (t:=t) (w0:=w0) (w:=w) (L:=L) (m:=t.mF) (gs:=gs) (ps:=t.bn) (ss:=ss) (k:=q) z hq;refine eu hw hmk Tryz.func155 rfl Tryz.ntmps155 rfl ?_;iterate 2 refine G ?_
  refine cd (v:= .agg _) rfl rfl fun b4=>?_;refine cd (v:= .agg _) rfl rfl fun b5=>?_;iterate 3 refine G ?_
  refine tB ?_;iterate 6 refine G ?_
  refine bO (tk 8 (u:= .int .i64 q) (bb:=true) ja aG bh (q0 rfl) (q0 rfl) rfl (fun _=>by rw [hlk];exact ⟨rfl,rfl⟩)) ?_;iterate 14 refine G ?_
  refine au rfl ?_ ?_<;>intro h1
  ·cases h1
  iterate 3 refine G ?_
  refine fY (fun w hw=>hop _ w (Mem.v7 (X:=[_,_]) (S:=zm a t) hw)) rfl ?_;refine fN (fun w hw=>dP (j:=0) hw rfl (by omega)) fun ⟨rb,hrb⟩=>?_;refine fN (fun w hw=>dP (j:=2) hw rfl hlo.1) fun ⟨lb,hlb⟩=>?_;obtain ⟨asb,arA,arc,am,ag,agc,apA,apc,as_,Ka⟩:=a;obtain ⟨xr,⟨lA,lc,pA,pc⟩⟩:=x;simp only at hrb hlb hlo;subst hrb;subst hlb;obtain ⟨g,hg⟩: ∃g,xr.cw[xr.cw.length -1]?=some g:=⟨_,aj (by omega)⟩;have hgb:=hlo.2.2.2 g (an hg);obtain ⟨gb,gf,gt⟩:=g;simp only at hgb;obtain ⟨j,rfl⟩: ∃j:Nat,gb=j:=⟨gb.toNat,by omega⟩;have hjn:j<n:=by omega
  obtain ⟨vj,hvj⟩: ∃v,t.cG[j]?=some v:=⟨_,aj (by omega)⟩;obtain ⟨vk,hvk⟩: ∃v,(t.cG.set j (-1))[k]?=some v:=⟨_,aj (by simp;omega)⟩;obtain ⟨sj,hsj⟩: ∃s,t.aK[j]?=some s:=⟨_,aj (by omega)⟩;iterate 6 refine G ?_
  refine bO (bt q bI bo (q0 rfl) (q0 rfl) (fun _=>⟨rfl,hq⟩)) ?_;refine G ?_;refine bO (ea (v:= .slice (some ⟨lb,0,none⟩) xr.cw.length lc) qS (q0 rfl) (by exact rr 0 (r:=7) rfl hx rfl)) ?_;iterate 7 refine G ?_
  refine bO (ou (r:=((xr.cw.length -1:Nat):Int)) (q0 rfl) (q0 rfl) (fun _=>⟨by omega,by omega,by omega⟩)) ?_;iterate 8 refine G ?_
  refine bO (bt (xr.cw.length -1) ef gP (q0 rfl) (q0 rfl) (fun _=>⟨rfl,by omega⟩)) ?_;refine G ?_;refine bZ (jn 2 (i:=xr.cw.length -1) (off:=3) ⟨j,gf,wh⟩ rfl rfl cQ rfl rfl rfl hg rfl rfl ?_);iterate 6 refine G ?_
  refine bO (bt (xr.cw.length -1) ef gP (q0 rfl) (q0 rfl) (fun _=>⟨rfl,by omega⟩)) ?_;refine G ?_;refine bO (ea (v:= .int .i64 j) aJ (q0 rfl) (by exact rr 2 (r:=0) rfl (mL hg) rfl)) ?_;iterate 4 refine G ?_
  refine zd 3 ?_;refine aW 0 ?_;refine aW 1 ?_;refine aW 2 ?_;refine aW 3 ?_;refine aW 4 ?_;refine aW 5 ?_;refine aW 6 ?_;refine aW 7 ?_;refine aW 8 ?_;refine iQ 9 rfl (bS nz Sa kG (pt (v:= .int _ _) rfl (pt (v:= .agg _) rfl E.p0)) rfl) ?_;refine r1 10 3 ?_;refine aL rfl (dE [(.int .i64 0),(.int .i64 0),(.int .i64 0),(.int .i64 0),(.int .i64 0)] ef gP kG rfl (by kernel_rfl) (pt (v:= .agg _) rfl E.p0) rfl rfl fun b54=>?_);refine r1 11 4 ?_;refine aL rfl (ba (k:=5) (i:=Tryz.t276) (enc:=Lg.cells) (xs:=xr.cw.set (xr.cw.length -1) ⟨j,gf,wh⟩) 3 ef (by kernel_rfl) rfl rfl rfl rfl (fun _=>rfl) (fun _=>rfl) (by rw [dU];rfl) rfl rfl (fun w hw=>bg (enc:=Lg.cells) (xs:=[⟨k,wh,nY⟩]) hw (j:=0) rfl (fun _=>rfl) (by simp)) ⟨by simp;omega,by decide⟩ rfl fun A1 c1=>?_);refine iQ 12 rfl (bt q bI bo (q0 rfl) (q0 rfl) (fun _=>⟨rfl,hq⟩)) ?_;refine aW 13 ?_;refine r1 14 4 ?_;refine aL rfl (jn 1 (i:=q) (off:=7) ⟨{xr with cw:=xr.cw.set (xr.cw.length -1) ⟨j,gf,wh⟩++[⟨k,wh,nY⟩]},⟨A1,c1,pA,pc⟩⟩ rfl rfl sI rfl rfl rfl hx rfl rfl ?_);refine jz 4 ?_;iterate 2 refine G ?_
  refine fY (fun w hw=>hw.tail) rfl ?_;refine zd 5 ?_;refine aW 0 ?_;refine aW 1 ?_;refine aW 2 ?_;refine aW 3 ?_;refine aW 4 ?_;refine aW 5 ?_;refine aW 6 ?_;refine aW 7 ?_;refine aW 8 ?_;refine aW 9 ?_;refine aW 10 ?_;refine aW 11 ?_;refine iQ 12 rfl (bt j ak ax (q0 rfl) (q0 rfl) (fun _=>⟨rfl,by omega⟩)) ?_;refine r1 13 5 ?_;refine aL rfl (ew 4 (k:=1) (enc:=aN) (-1) rfl rfl ax rfl rfl rfl hvj rfl rfl ?_);refine iQ 14 rfl (bt k ak ax (q0 rfl) (q0 rfl) (fun _=>⟨rfl,by omega⟩)) ?_;refine r1 15 5 ?_;refine aL rfl (ew 4 (k:=1) (enc:=aN) (q:Int) rfl rfl ax rfl rfl rfl hvk rfl rfl ?_);refine jz 5 ?_;refine G ?_;refine E.RT rfl rfl (by decide+kernel) ?_;iterate 11 refine G ?_
  refine bO (bt k cq cF (q0 rfl) (q0 rfl) (fun _=>⟨rfl,by omega⟩)) ?_;refine bO (km (vs:=sp.cells) Tryz.isAgg252 cF (q0 rfl) (sf 5 rfl hsp) rfl) ?_;refine bO (bt j cq cF (q0 rfl) (q0 rfl) (fun _=>⟨rfl,by omega⟩)) ?_;iterate 2 refine G ?_
  refine bZ (ew 5 sp rfl rfl cF rfl rfl rfl hsj rfl rfl ?_);refine G ?_;exact lj rfl hmk fun w' hw=>⟨⟨(_,_),rfl,by
   have hlast:xr.cw.getD (xr.cw.length -1) default=⟨j,gf,gt⟩:=im hg;unfold ko;rw [show zv t.plain.mF erid=some (q:Int) from hr];unfold TY.plain at hspd⊢;simp only [aM] at hspd⊢;rw [hxd,hspd,ta];simp only [rT,lh,mO,hlast,aM]⟩,rfl,hcl ⟨{xr with cw:=xr.cw.set (xr.cw.length -1) ⟨j,gf,wh⟩++[⟨k,wh,nY⟩]},⟨A1,c1,pA,pc⟩⟩ _ _ w' (by simp) rfl (by simp) (hw.dh 11 [0,1,2,3,4,5,6,7,8] (by decide) (by decide))⟩
end
end Go.Proofs.Rid
