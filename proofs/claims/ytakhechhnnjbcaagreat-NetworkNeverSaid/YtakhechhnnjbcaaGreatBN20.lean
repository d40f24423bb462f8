import Derived.Test.YtakhechhnnjbcaaGreatBN07
import Derived.Test.YtakhechhnnjbcaaGreatBN19
import Derived.Test.YtakhechhnnjbcaaGreatBN13
import Derived.Test.YtakhechhnnjbcaaGreatBN16
import Derived.Test.YtakhechhnnjbcaaGreatBN04
import Derived.Test.YtakhechhnnjbcaaGreatTy
set_option maxRecDepth 100000
set_option maxHeartbeats 8000000
set_option linter.unusedVariables false
set_option linter.unusedSimpArgs false
namespace Go.Proofs.Own
open Go Go.RowKit Go.Proofs.E Go.Proofs.Cus Go.Proofs.Far
theorem cloneI_w (A:Option Addr) (n c:Nat) (xs:List Int) (w:World) (hx:IntsAt w A n xs) (hn:n≤100000):Calls Tryz.prog 75 #[.slice A n c] w fun e w'=> ∃x:{x:Sl×List E.Item//Keeps (bag x.2) fun w=>IntsAt w x.1.A x.1.n xs},e= .returned x.1.1.v∧Mem w [bag x.1.2] w':=by
 have hl:=hx.1
 refine H_enter Tryz.func75 rfl Tryz.ntmps75 rfl ?_
 iterate 9 refine G ?_
 refine xV (e_eqNilS Tryz.underlying22 (q0 rfl)) rfl rfl ?_
 iterate 2 refine G ?_
 refine H_cond rfl ?_ ?_<;>intro h1
 ·iterate 7 refine G ?_
  have hA:A=none:=by simpa using h1
  have hx0:xs=[]:=by
   cases n with
   |zero=>exact List.eq_nil_of_length_eq_zero hl
   |succ m=>obtain ⟨b,off,hb,_⟩:=hx.2.2 (by omega);rw [hA] at hb;cases hb
  exact ret1 (v:= .slice _ _ _) rfl rfl rfl fun w' hw=>⟨⟨(⟨none,0,0⟩,[]),rfl,fun w _=>by subst hx0;exact ⟨rfl,by decide,fun h=>absurd h (by decide)⟩⟩,rfl,(mem_nil.2 hw.1).bag (T:=[])⟩
 ·iterate 4 refine G ?_
  refine X_eff (f_slit0 encInt Tryz.underlying22 Tryz.sizeOf3 rfl fun A1 c1=>?_)
  refine G ?_
  refine X_append (f_append (k:=1) (i:=Tryz.t3) (enc:=encInt) 0 Tryz.underlying22 (by kernel_rfl) rfl rfl rfl rfl (fun _=>rfl) (fun _=>rfl) rfl rfl rfl (fun w hw=>hx.mem hw) ⟨by simp;omega,by decide⟩ rfl fun A2 c2=>?_)
  iterate 4 refine G ?_
  exact ret1 (v:= .slice _ _ _) rfl rfl rfl fun w' hw=>⟨⟨(⟨A2,xs.length,c2⟩,[rowT 3 1 encInt A2 c2 xs]),(Keeps.row (e:=3) (k:=1) (enc:=encInt) (A:=A2) (c:=c2) (xs:=xs) (fun _=>rfl) (by omega)).bag (List.mem_singleton.2 rfl)⟩,rfl,(hw.pick [0] (by decide)).bag (T:=[_]) (L:=[])⟩
theorem cloneT_w (A:Option Addr) (n c:Nat) (xs:List Tf) (w:World) (hx:TfsAt w A n xs) (hn:n≤100000):Calls Tryz.prog 76 #[.slice A n c] w fun e w'=> ∃x:{x:Sl×List E.Item//Keeps (bag x.2) fun w=>TfsAt w x.1.A x.1.n xs},e= .returned x.1.1.v∧Mem w [bag x.1.2] w':=by
 have hl:=hx.1
 refine H_enter Tryz.func76 rfl Tryz.ntmps76 rfl ?_
 iterate 9 refine G ?_
 refine xV (e_eqNilS Tryz.underlying25 (q0 rfl)) rfl rfl ?_
 iterate 2 refine G ?_
 refine H_cond rfl ?_ ?_<;>intro h1
 ·iterate 7 refine G ?_
  have hA:A=none:=by simpa using h1
  have hx0:xs=[]:=by
   cases n with
   |zero=>exact List.eq_nil_of_length_eq_zero hl
   |succ m=>obtain ⟨b,off,hb,_⟩:=hx.2.2 (by omega);rw [hA] at hb;cases hb
  exact ret1 (v:= .slice _ _ _) rfl rfl rfl fun w' hw=>⟨⟨(⟨none,0,0⟩,[]),rfl,fun w _=>by subst hx0;exact ⟨rfl,by decide,fun h=>absurd h (by decide)⟩⟩,rfl,(mem_nil.2 hw.1).bag (T:=[])⟩
 ·iterate 4 refine G ?_
  refine X_eff (f_slit0 Tf.cells Tryz.underlying25 Tryz.sizeOf144 rfl fun A1 c1=>?_)
  refine G ?_
  refine X_append (f_append (k:=6) (i:=Tryz.t144) (enc:=Tf.cells) 0 Tryz.underlying25 (by kernel_rfl) rfl rfl rfl rfl (fun _=>rfl) (fun _=>rfl) rfl rfl rfl (fun w hw=>hx.mem hw) ⟨by simp;omega,by decide⟩ rfl fun A2 c2=>?_)
  iterate 4 refine G ?_
  exact ret1 (v:= .slice _ _ _) rfl rfl rfl fun w' hw=>⟨⟨(⟨A2,xs.length,c2⟩,[rowT 144 6 Tf.cells A2 c2 xs]),(Keeps.row (e:=144) (k:=6) (enc:=Tf.cells) (A:=A2) (c:=c2) (xs:=xs) (fun _=>rfl) (by omega)).bag (List.mem_singleton.2 rfl)⟩,rfl,(hw.pick [0] (by decide)).bag (T:=[_]) (L:=[])⟩
theorem cloneP_w (A:Option Addr) (n c:Nat) (xs:List Pas) (w:World) (hx:PassAt w A n xs) (hn:n≤100000):Calls Tryz.prog 77 #[.slice A n c] w fun e w'=> ∃x:{x:Sl×List E.Item//Keeps (bag x.2) fun w=>PassAt w x.1.A x.1.n xs},e= .returned x.1.1.v∧Mem w [bag x.1.2] w':=by
 have hl:=hx.1
 refine H_enter Tryz.func77 rfl Tryz.ntmps77 rfl ?_
 iterate 9 refine G ?_
 refine xV (e_eqNilS Tryz.underlying26 (q0 rfl)) rfl rfl ?_
 iterate 2 refine G ?_
 refine H_cond rfl ?_ ?_<;>intro h1
 ·iterate 7 refine G ?_
  have hA:A=none:=by simpa using h1
  have hx0:xs=[]:=by
   cases n with
   |zero=>exact List.eq_nil_of_length_eq_zero hl
   |succ m=>obtain ⟨b,off,hb,_⟩:=hx.2.2 (by omega);rw [hA] at hb;cases hb
  exact ret1 (v:= .slice _ _ _) rfl rfl rfl fun w' hw=>⟨⟨(⟨none,0,0⟩,[]),rfl,fun w _=>by subst hx0;exact ⟨rfl,by decide,fun h=>absurd h (by decide)⟩⟩,rfl,(mem_nil.2 hw.1).bag (T:=[])⟩
 ·iterate 4 refine G ?_
  refine X_eff (f_slit0 Pas.cells Tryz.underlying26 Tryz.sizeOf155 rfl fun A1 c1=>?_)
  refine G ?_
  refine X_append (f_append (k:=6) (i:=Tryz.t155) (enc:=Pas.cells) 0 Tryz.underlying26 (by kernel_rfl) rfl rfl rfl rfl (fun _=>rfl) (fun _=>rfl) rfl rfl rfl (fun w hw=>hx.mem hw) ⟨by simp;omega,by decide⟩ rfl fun A2 c2=>?_)
  iterate 4 refine G ?_
  exact ret1 (v:= .slice _ _ _) rfl rfl rfl fun w' hw=>⟨⟨(⟨A2,xs.length,c2⟩,[rowT 155 6 Pas.cells A2 c2 xs]),(Keeps.row (e:=155) (k:=6) (enc:=Pas.cells) (A:=A2) (c:=c2) (xs:=xs) (fun _=>rfl) (by omega)).bag (List.mem_singleton.2 rfl)⟩,rfl,(hw.pick [0] (by decide)).bag (T:=[_]) (L:=[])⟩
abbrev FlX (f:Fl):={x:(Sl×Sl)×List E.Item//Keeps (bag x.2) fun w=>IntsAt w x.1.1.A x.1.1.n f.docks∧IntsAt w x.1.2.A x.1.2.n f.trucks}
abbrev PtX (p:Pr):={x:(Sl×Sl)×List E.Item//Keeps (bag x.2) fun w=>TfsAt w x.1.1.A x.1.1.n p.tariffs∧PassAt w x.1.2.A x.1.2.n p.passes}
abbrev P3X (p:Pr):={x:(Sl×Sl×Sl)×List E.Item//Keeps (bag x.2) fun w=>IntsAt w x.1.1.A x.1.1.n p.places∧IntsAt w x.1.2.1.A x.1.2.1.n p.docks∧IntsAt w x.1.2.2.A x.1.2.2.n p.fines}
abbrev PrX (p:Pr):={x:PrA×List E.Item//Keeps (bag x.2) fun w=>PrAt w p x.1}
theorem ownFleet_w (f:Fl) (fa:FA) (w:World) (hf:FlAt w f fa) (hn:fa.dn≤100000) (hm:fa.tn≤100000):Calls Tryz.prog 36 #[.agg (f.cells fa).toArray] w fun e w'=> ∃x:FlX f,e= .returned (.agg #[.int .i64 f.bikes, .int .i64 f.riders, .int .i64 f.devices,x.1.1.1.v,x.1.1.2.v])∧Mem w [bag x.1.2] w':=by
 refine H_enter Tryz.func36 rfl Tryz.ntmps36 rfl ?_
 iterate 2 refine G ?_
 refine X_box (v:= .agg _) rfl rfl fun b1=>?_
 refine X_alloc Tryz.zeroValue24 rfl fun b2=>?_
 iterate 3 refine G ?_
 refine H_cut [3,4,5,6,7,8,9,10] (fun x:FlX f=>[]) (fun x=>[bag x.1.2,box b2 24 [.int .i64 0, .int .i64 0, .int .i64 0, .slice none 0 0, .slice none 0 0],box b1 24 [.int .i64 f.bikes, .int .i64 f.riders, .int .i64 f.devices,x.1.1.1.v,x.1.1.2.v]]) (fun _=>True) ?_ ?_
 ·refine H_invF [3,4,5,6,7,8,9,10] (fun d v=>match d with
     |3|9=>v= .pointer (some ⟨b1,3,none⟩)
     |4=>v=Sl.v ⟨fa.dA,fa.dn,fa.dc⟩
     |6|10=>v= .pointer (some ⟨b1,4,none⟩)
     |7=>v=Sl.v ⟨fa.tA,fa.tn,fa.tc⟩
     |_=>True) (fun S L f'=> ∃(R:List E.Item) (s0 s1:Sl),marks R=[]∧CH S 2 7 Sl.v (f' 5) R (fun z w=>IntsAt w z.A z.n f.docks) ⟨fa.dA,fa.dn,fa.dc⟩ s0∧CH S 5 9 Sl.v (f' 8) R (fun z w=>IntsAt w z.A z.n f.trucks) ⟨fa.tA,fa.tn,fa.tc⟩ s1∧L=R++[box b2 24 [.int .i64 0, .int .i64 0, .int .i64 0, .slice none 0 0, .slice none 0 0],box b1 24 [.int .i64 f.bikes, .int .i64 f.riders, .int .i64 f.devices,s0.v,s1.v]]) rfl rfl ?_ ?_ ?_
  ·exact fun S hS=>⟨[],⟨fa.dA,fa.dn,fa.dc⟩,⟨fa.tA,fa.tn,fa.tc⟩,rfl,CH.begin hS,CH.begin hS,rfl⟩
  ·rintro S L fr i o hA hF ⟨R,s0,s1,hR,e0,e1,rfl⟩ hi hno hw hc
   have hpt:fr 1= .pointer (some ⟨b1,0,none⟩):=hA 1 rfl
   match i,hi with
   |0,hi=>cases hi;exact f_ev (e_fld Tryz.underlying24 rfl Tryz.sizeOf22 rfl (q0 hpt)) rfl rfl ⟨⟨R,s0,s1,hR,e0.keep (by decide) (by decide),e1.keep (by decide) (by decide),rfl⟩,_,rfl,fun d h=>by cases h;rfl⟩
   |1,hi=>
    cases hi
    have hx:fr 3= .pointer (some ⟨b1,3,none⟩):=hF 0 _ _ rfl (hw 0 rfl) rfl
    have hs:=e0.a fun h=>hno (hc 2 1 rfl (hc 7 2 rfl h))
    exact f_ev (e_ld (v:=Sl.v ⟨fa.dA,fa.dn,fa.dc⟩) Tryz.isAgg22 (q0 hx) (fun _ w hw=>by rw [hs] at hw;exact box_cell hw (at_app R (j:=1) rfl) rfl)) rfl rfl ⟨⟨R,s0,s1,hR,e0.keep (by decide) (by decide),e1.keep (by decide) (by decide),rfl⟩,_,rfl,fun d h=>by cases h;rfl⟩
   |2,hi=>
    cases hi
    have hx:fr 4=Sl.v ⟨fa.dA,fa.dn,fa.dc⟩:=hF 1 _ _ rfl (hw 1 rfl) rfl
    exact f_callx (en Tryz.call75 (ha1 (q0 hx))) (fun w hw=>cloneI_w fa.dA fa.dn fa.dc f.docks w (hf.docks.mem hw) hn) rfl (fun _=>rfl) fun x=>⟨⟨bag x.1.2::R,s0,s1,hR,e0.call (z:=x.1.1) (by decide) x.2,(e1.keep (by decide) (by decide)).more _,rfl⟩,_,rfl,fun d h=>by cases h;trivial⟩
   |3,hi=>cases hi;exact f_ev (e_fld Tryz.underlying24 rfl Tryz.sizeOf22 rfl (q0 hpt)) rfl rfl ⟨⟨R,s0,s1,hR,e0.keep (by decide) (by decide),e1.keep (by decide) (by decide),rfl⟩,_,rfl,fun d h=>by cases h;rfl⟩
   |4,hi=>
    cases hi
    have hx:fr 6= .pointer (some ⟨b1,4,none⟩):=hF 3 _ _ rfl (hw 3 rfl) rfl
    have hs:=e1.a fun h=>hno (hc 5 4 rfl (hc 9 5 rfl h))
    exact f_ev (e_ld (v:=Sl.v ⟨fa.tA,fa.tn,fa.tc⟩) Tryz.isAgg22 (q0 hx) (fun _ w hw=>by rw [hs] at hw;exact box_cell hw (at_app R (j:=1) rfl) rfl)) rfl rfl ⟨⟨R,s0,s1,hR,e0.keep (by decide) (by decide),e1.keep (by decide) (by decide),rfl⟩,_,rfl,fun d h=>by cases h;rfl⟩
   |5,hi=>
    cases hi
    have hx:fr 7=Sl.v ⟨fa.tA,fa.tn,fa.tc⟩:=hF 4 _ _ rfl (hw 4 rfl) rfl
    exact f_callx (en Tryz.call75 (ha1 (q0 hx))) (fun w hw=>cloneI_w fa.tA fa.tn fa.tc f.trucks w (hf.trucks.mem hw) hm) rfl (fun _=>rfl) fun x=>⟨⟨bag x.1.2::R,s0,s1,hR,(e0.keep (by decide) (by decide)).more _,e1.call (z:=x.1.1) (by decide) x.2,rfl⟩,_,rfl,fun d h=>by cases h;trivial⟩
   |6,hi=>cases hi;exact f_ev (e_fld Tryz.underlying24 rfl Tryz.sizeOf22 rfl (q0 hpt)) rfl rfl ⟨⟨R,s0,s1,hR,e0.keep (by decide) (by decide),e1.keep (by decide) (by decide),rfl⟩,_,rfl,fun d h=>by cases h;rfl⟩
   |7,hi=>
    cases hi
    obtain ⟨z,hz,e⟩:=e0.store (hw 2 rfl)
    have hx:fr 9= .pointer (some ⟨b1,3,none⟩):=hF 6 _ _ rfl (hw 6 rfl) rfl
    exact f_store (R.length+1) (v:=z.v) hx hz Tryz.sizeOf22 rfl rfl (at_app R rfl) rfl ⟨⟨R,z,s1,hR,e,e1.keep (by decide) (by decide),set_app ..⟩,undef,rfl,fun d h=>by cases h⟩
   |8,hi=>cases hi;exact f_ev (e_fld Tryz.underlying24 rfl Tryz.sizeOf22 rfl (q0 hpt)) rfl rfl ⟨⟨R,s0,s1,hR,e0.keep (by decide) (by decide),e1.keep (by decide) (by decide),rfl⟩,_,rfl,fun d h=>by cases h;rfl⟩
   |9,hi=>
    cases hi
    obtain ⟨z,hz,e⟩:=e1.store (hw 5 rfl)
    have hx:fr 10= .pointer (some ⟨b1,4,none⟩):=hF 8 _ _ rfl (hw 8 rfl) rfl
    exact f_store (R.length+1) (v:=z.v) hx hz Tryz.sizeOf22 rfl rfl (at_app R rfl) rfl ⟨⟨R,s0,z,hR,e0.keep (by decide) (by decide),e,set_app ..⟩,undef,rfl,fun d h=>by cases h⟩
   |n+10,hi=>simp at hi
  ·rintro S L fr hS hA ⟨R,s0,s1,hR,e0,e1,rfl⟩
   obtain ⟨i0,hi0,k0⟩:=e0.c (hS 7 (by decide))
   obtain ⟨i1,hi1,k1⟩:=e1.c (hS 9 (by decide))
   exact cutJ_normal (⟨((s0,s1),R),(k0.bag hi0).two (k1.bag hi1)⟩:FlX f) hA trivial (fun w hw=>hw.bag) (by rw [marks_append,hR];rfl) trivial
 ·rintro ⟨x,hx⟩ g _
  iterate 4 refine G ?_
  refine X_st (v:= .agg _) rfl rfl Tryz.sizeOf24 ?_
  iterate 3 refine G ?_
  exact end_of rfl (resC rfl rfl Tryz.isAgg24 Tryz.sizeOf24) fun w' hw=>⟨⟨x,hx⟩,rfl,hw.pick [0] (by decide)⟩
structure PrN (a:PrA):Prop where
 t:a.t.n≤100000
 p:a.p.n≤100000
 pl:a.pl.n≤100000
 d:a.d.n≤100000
 f:a.f.n≤100000
theorem ownPrices_w (p:Pr) (a:PrA) (w:World) (hp:PrAt w p a) (hn:PrN a):Calls Tryz.prog 37 #[.agg (p.cells a).toArray] w fun e w'=> ∃x:PrX p,e= .returned (.agg (p.cells x.1.1).toArray)∧Mem w [bag x.1.2] w':=by
 refine H_enter Tryz.func37 rfl Tryz.ntmps37 rfl ?_
 iterate 2 refine G ?_
 refine X_box (v:= .agg _) rfl rfl fun b1=>?_
 refine X_alloc Tryz.zeroValue28 rfl fun b2=>?_
 iterate 3 refine G ?_
 refine H_cut [3,4,5,6,7,8,9,10] (fun x:PtX p=>[]) (fun x=>[bag x.1.2,box b2 28 [.slice none 0 0, .slice none 0 0, .slice none 0 0, .slice none 0 0, .int .i64 0, .slice none 0 0, .int .i64 0],box b1 28 [x.1.1.1.v,x.1.1.2.v,a.pl.v,a.d.v, .int .i64 p.cap,a.f.v, .int .i64 p.days]]) (fun _=>True) ?_ ?_
 ·refine H_invF [3,4,5,6,7,8,9,10] (fun d v=>match d with
     |3|9=>v= .pointer (some ⟨b1,0,none⟩)
     |4=>v=Sl.v a.t
     |6|10=>v= .pointer (some ⟨b1,1,none⟩)
     |7=>v=Sl.v a.p
     |_=>True) (fun S L f'=> ∃(R:List E.Item) (s0 s1:Sl),marks R=[]∧CH S 2 7 Sl.v (f' 5) R (fun z w=>TfsAt w z.A z.n p.tariffs) a.t s0∧CH S 5 9 Sl.v (f' 8) R (fun z w=>PassAt w z.A z.n p.passes) a.p s1∧L=R++[box b2 28 [.slice none 0 0, .slice none 0 0, .slice none 0 0, .slice none 0 0, .int .i64 0, .slice none 0 0, .int .i64 0],box b1 28 [s0.v,s1.v,a.pl.v,a.d.v, .int .i64 p.cap,a.f.v, .int .i64 p.days]]) rfl rfl ?_ ?_ ?_
  ·exact fun S hS=>⟨[],a.t,a.p,rfl,CH.begin hS,CH.begin hS,rfl⟩
  ·rintro S L fr i o hA hF ⟨R,s0,s1,hR,e0,e1,rfl⟩ hi hno hw hc
   have hpt:fr 1= .pointer (some ⟨b1,0,none⟩):=hA 1 rfl
   match i,hi with
   |0,hi=>cases hi;exact f_ev (e_fld Tryz.underlying28 rfl Tryz.sizeOf25 rfl (q0 hpt)) rfl rfl ⟨⟨R,s0,s1,hR,e0.keep (by decide) (by decide),e1.keep (by decide) (by decide),rfl⟩,_,rfl,fun d h=>by cases h;rfl⟩
   |1,hi=>
    cases hi
    have hx:fr 3= .pointer (some ⟨b1,0,none⟩):=hF 0 _ _ rfl (hw 0 rfl) rfl
    have hs:=e0.a fun h=>hno (hc 2 1 rfl (hc 7 2 rfl h))
    exact f_ev (e_ld (v:=Sl.v a.t) Tryz.isAgg25 (q0 hx) (fun _ w hw=>by rw [hs] at hw;exact box_cell hw (at_app R (j:=1) rfl) rfl)) rfl rfl ⟨⟨R,s0,s1,hR,e0.keep (by decide) (by decide),e1.keep (by decide) (by decide),rfl⟩,_,rfl,fun d h=>by cases h;rfl⟩
   |2,hi=>
    cases hi
    have hx:fr 4=Sl.v a.t:=hF 1 _ _ rfl (hw 1 rfl) rfl
    exact f_callx (en Tryz.call76 (ha1 (q0 hx))) (fun w hw=>cloneT_w a.t.A a.t.n a.t.c p.tariffs w (hp.tf.mem hw) hn.t) rfl (fun _=>rfl) fun x=>⟨⟨bag x.1.2::R,s0,s1,hR,e0.call (z:=x.1.1) (by decide) x.2,(e1.keep (by decide) (by decide)).more _,rfl⟩,_,rfl,fun d h=>by cases h;trivial⟩
   |3,hi=>cases hi;exact f_ev (e_fld Tryz.underlying28 rfl Tryz.sizeOf26 rfl (q0 hpt)) rfl rfl ⟨⟨R,s0,s1,hR,e0.keep (by decide) (by decide),e1.keep (by decide) (by decide),rfl⟩,_,rfl,fun d h=>by cases h;rfl⟩
   |4,hi=>
    cases hi
    have hx:fr 6= .pointer (some ⟨b1,1,none⟩):=hF 3 _ _ rfl (hw 3 rfl) rfl
    have hs:=e1.a fun h=>hno (hc 5 4 rfl (hc 9 5 rfl h))
    exact f_ev (e_ld (v:=Sl.v a.p) Tryz.isAgg26 (q0 hx) (fun _ w hw=>by rw [hs] at hw;exact box_cell hw (at_app R (j:=1) rfl) rfl)) rfl rfl ⟨⟨R,s0,s1,hR,e0.keep (by decide) (by decide),e1.keep (by decide) (by decide),rfl⟩,_,rfl,fun d h=>by cases h;rfl⟩
   |5,hi=>
    cases hi
    have hx:fr 7=Sl.v a.p:=hF 4 _ _ rfl (hw 4 rfl) rfl
    exact f_callx (en Tryz.call77 (ha1 (q0 hx))) (fun w hw=>cloneP_w a.p.A a.p.n a.p.c p.passes w (hp.ps.mem hw) hn.p) rfl (fun _=>rfl) fun x=>⟨⟨bag x.1.2::R,s0,s1,hR,(e0.keep (by decide) (by decide)).more _,e1.call (z:=x.1.1) (by decide) x.2,rfl⟩,_,rfl,fun d h=>by cases h;trivial⟩
   |6,hi=>cases hi;exact f_ev (e_fld Tryz.underlying28 rfl Tryz.sizeOf25 rfl (q0 hpt)) rfl rfl ⟨⟨R,s0,s1,hR,e0.keep (by decide) (by decide),e1.keep (by decide) (by decide),rfl⟩,_,rfl,fun d h=>by cases h;rfl⟩
   |7,hi=>
    cases hi
    obtain ⟨z,hz,e⟩:=e0.store (hw 2 rfl)
    have hx:fr 9= .pointer (some ⟨b1,0,none⟩):=hF 6 _ _ rfl (hw 6 rfl) rfl
    exact f_store (R.length+1) (v:=z.v) hx hz Tryz.sizeOf25 rfl rfl (at_app R rfl) rfl ⟨⟨R,z,s1,hR,e,e1.keep (by decide) (by decide),set_app ..⟩,undef,rfl,fun d h=>by cases h⟩
   |8,hi=>cases hi;exact f_ev (e_fld Tryz.underlying28 rfl Tryz.sizeOf26 rfl (q0 hpt)) rfl rfl ⟨⟨R,s0,s1,hR,e0.keep (by decide) (by decide),e1.keep (by decide) (by decide),rfl⟩,_,rfl,fun d h=>by cases h;rfl⟩
   |9,hi=>
    cases hi
    obtain ⟨z,hz,e⟩:=e1.store (hw 5 rfl)
    have hx:fr 10= .pointer (some ⟨b1,1,none⟩):=hF 8 _ _ rfl (hw 8 rfl) rfl
    exact f_store (R.length+1) (v:=z.v) hx hz Tryz.sizeOf26 rfl rfl (at_app R rfl) rfl ⟨⟨R,s0,z,hR,e0.keep (by decide) (by decide),e,set_app ..⟩,undef,rfl,fun d h=>by cases h⟩
   |n+10,hi=>simp at hi
  ·rintro S L fr hS hA ⟨R,s0,s1,hR,e0,e1,rfl⟩
   obtain ⟨i0,hi0,k0⟩:=e0.c (hS 7 (by decide))
   obtain ⟨i1,hi1,k1⟩:=e1.c (hS 9 (by decide))
   exact cutJ_normal (⟨((s0,s1),R),(k0.bag hi0).two (k1.bag hi1)⟩:PtX p) hA trivial (fun w hw=>hw.bag) (by rw [marks_append,hR];rfl) trivial
 ·rintro ⟨⟨⟨xt,xp⟩,x1⟩,hx1⟩ g _
  iterate 2 refine G ?_
  refine H_cut [11,12,13,14,15,16,17,18,19,20,21,22] (fun x:P3X p=>[]) (fun x=>[bag x.1.2,bag x1,box b2 28 [.slice none 0 0, .slice none 0 0, .slice none 0 0, .slice none 0 0, .int .i64 0, .slice none 0 0, .int .i64 0],box b1 28 [xt.v,xp.v,x.1.1.1.v,x.1.1.2.1.v, .int .i64 p.cap,x.1.1.2.2.v, .int .i64 p.days]]) (fun _=>True) ?_ ?_
  ·refine H_invF [11,12,13,14,15,16,17,18,19,20,21,22] (fun d v=>match d with
      |11|20=>v= .pointer (some ⟨b1,2,none⟩)
      |12=>v=Sl.v a.pl
      |14|21=>v= .pointer (some ⟨b1,3,none⟩)
      |15=>v=Sl.v a.d
      |17|22=>v= .pointer (some ⟨b1,5,none⟩)
      |18=>v=Sl.v a.f
      |_=>True) (fun S L f'=> ∃(R:List E.Item) (s0 s1 s2:Sl),marks R=[]∧CH S 2 10 Sl.v (f' 13) R (fun z w=>IntsAt w z.A z.n p.places) a.pl s0∧CH S 5 12 Sl.v (f' 16) R (fun z w=>IntsAt w z.A z.n p.docks) a.d s1∧CH S 8 14 Sl.v (f' 19) R (fun z w=>IntsAt w z.A z.n p.fines) a.f s2∧L=R++[bag x1,box b2 28 [.slice none 0 0, .slice none 0 0, .slice none 0 0, .slice none 0 0, .int .i64 0, .slice none 0 0, .int .i64 0],box b1 28 [xt.v,xp.v,s0.v,s1.v, .int .i64 p.cap,s2.v, .int .i64 p.days]]) rfl rfl ?_ ?_ ?_
   ·exact fun S hS=>⟨[],a.pl,a.d,a.f,rfl,CH.begin hS,CH.begin hS,CH.begin hS,rfl⟩
   ·rintro S L fr i o hA hF ⟨R,s0,s1,s2,hR,e0,e1,e2,rfl⟩ hi hno hw hc
    have hpt:fr 1= .pointer (some ⟨b1,0,none⟩):=hA 1 rfl
    match i,hi with
    |0,hi=>cases hi;exact f_ev (e_fld Tryz.underlying28 rfl Tryz.sizeOf22 rfl (q0 hpt)) rfl rfl ⟨⟨R,s0,s1,s2,hR,e0.keep (by decide) (by decide),e1.keep (by decide) (by decide),e2.keep (by decide) (by decide),rfl⟩,_,rfl,fun d h=>by cases h;rfl⟩
    |1,hi=>
     cases hi
     have hx:fr 11= .pointer (some ⟨b1,2,none⟩):=hF 0 _ _ rfl (hw 0 rfl) rfl
     have hs:=e0.a fun h=>hno (hc 2 1 rfl (hc 10 2 rfl h))
     exact f_ev (e_ld (v:=Sl.v a.pl) Tryz.isAgg22 (q0 hx) (fun _ w hw=>by rw [hs] at hw;exact box_cell hw (at_app R (j:=2) rfl) rfl)) rfl rfl ⟨⟨R,s0,s1,s2,hR,e0.keep (by decide) (by decide),e1.keep (by decide) (by decide),e2.keep (by decide) (by decide),rfl⟩,_,rfl,fun d h=>by cases h;rfl⟩
    |2,hi=>
     cases hi
     have hx:fr 12=Sl.v a.pl:=hF 1 _ _ rfl (hw 1 rfl) rfl
     exact f_callx (en Tryz.call75 (ha1 (q0 hx))) (fun w hw=>cloneI_w a.pl.A a.pl.n a.pl.c p.places w (hp.pl.mem hw) hn.pl) rfl (fun _=>rfl) fun x=>⟨⟨bag x.1.2::R,s0,s1,s2,hR,e0.call (z:=x.1.1) (by decide) x.2,(e1.keep (by decide) (by decide)).more _,(e2.keep (by decide) (by decide)).more _,rfl⟩,_,rfl,fun d h=>by cases h;trivial⟩
    |3,hi=>cases hi;exact f_ev (e_fld Tryz.underlying28 rfl Tryz.sizeOf22 rfl (q0 hpt)) rfl rfl ⟨⟨R,s0,s1,s2,hR,e0.keep (by decide) (by decide),e1.keep (by decide) (by decide),e2.keep (by decide) (by decide),rfl⟩,_,rfl,fun d h=>by cases h;rfl⟩
    |4,hi=>
     cases hi
     have hx:fr 14= .pointer (some ⟨b1,3,none⟩):=hF 3 _ _ rfl (hw 3 rfl) rfl
     have hs:=e1.a fun h=>hno (hc 5 4 rfl (hc 12 5 rfl h))
     exact f_ev (e_ld (v:=Sl.v a.d) Tryz.isAgg22 (q0 hx) (fun _ w hw=>by rw [hs] at hw;exact box_cell hw (at_app R (j:=2) rfl) rfl)) rfl rfl ⟨⟨R,s0,s1,s2,hR,e0.keep (by decide) (by decide),e1.keep (by decide) (by decide),e2.keep (by decide) (by decide),rfl⟩,_,rfl,fun d h=>by cases h;rfl⟩
    |5,hi=>
     cases hi
     have hx:fr 15=Sl.v a.d:=hF 4 _ _ rfl (hw 4 rfl) rfl
     exact f_callx (en Tryz.call75 (ha1 (q0 hx))) (fun w hw=>cloneI_w a.d.A a.d.n a.d.c p.docks w (hp.dk.mem hw) hn.d) rfl (fun _=>rfl) fun x=>⟨⟨bag x.1.2::R,s0,s1,s2,hR,(e0.keep (by decide) (by decide)).more _,e1.call (z:=x.1.1) (by decide) x.2,(e2.keep (by decide) (by decide)).more _,rfl⟩,_,rfl,fun d h=>by cases h;trivial⟩
    |6,hi=>cases hi;exact f_ev (e_fld Tryz.underlying28 rfl Tryz.sizeOf22 rfl (q0 hpt)) rfl rfl ⟨⟨R,s0,s1,s2,hR,e0.keep (by decide) (by decide),e1.keep (by decide) (by decide),e2.keep (by decide) (by decide),rfl⟩,_,rfl,fun d h=>by cases h;rfl⟩
    |7,hi=>
     cases hi
     have hx:fr 17= .pointer (some ⟨b1,5,none⟩):=hF 6 _ _ rfl (hw 6 rfl) rfl
     have hs:=e2.a fun h=>hno (hc 8 7 rfl (hc 14 8 rfl h))
     exact f_ev (e_ld (v:=Sl.v a.f) Tryz.isAgg22 (q0 hx) (fun _ w hw=>by rw [hs] at hw;exact box_cell hw (at_app R (j:=2) rfl) rfl)) rfl rfl ⟨⟨R,s0,s1,s2,hR,e0.keep (by decide) (by decide),e1.keep (by decide) (by decide),e2.keep (by decide) (by decide),rfl⟩,_,rfl,fun d h=>by cases h;rfl⟩
    |8,hi=>
     cases hi
     have hx:fr 18=Sl.v a.f:=hF 7 _ _ rfl (hw 7 rfl) rfl
     exact f_callx (en Tryz.call75 (ha1 (q0 hx))) (fun w hw=>cloneI_w a.f.A a.f.n a.f.c p.fines w (hp.fi.mem hw) hn.f) rfl (fun _=>rfl) fun x=>⟨⟨bag x.1.2::R,s0,s1,s2,hR,(e0.keep (by decide) (by decide)).more _,(e1.keep (by decide) (by decide)).more _,e2.call (z:=x.1.1) (by decide) x.2,rfl⟩,_,rfl,fun d h=>by cases h;trivial⟩
    |9,hi=>cases hi;exact f_ev (e_fld Tryz.underlying28 rfl Tryz.sizeOf22 rfl (q0 hpt)) rfl rfl ⟨⟨R,s0,s1,s2,hR,e0.keep (by decide) (by decide),e1.keep (by decide) (by decide),e2.keep (by decide) (by decide),rfl⟩,_,rfl,fun d h=>by cases h;rfl⟩
    |10,hi=>
     cases hi
     obtain ⟨z,hz,e⟩:=e0.store (hw 2 rfl)
     have hx:fr 20= .pointer (some ⟨b1,2,none⟩):=hF 9 _ _ rfl (hw 9 rfl) rfl
     exact f_store (R.length+2) (v:=z.v) hx hz Tryz.sizeOf22 rfl rfl (at_app R rfl) rfl ⟨⟨R,z,s1,s2,hR,e,e1.keep (by decide) (by decide),e2.keep (by decide) (by decide),set_app ..⟩,undef,rfl,fun d h=>by cases h⟩
    |11,hi=>cases hi;exact f_ev (e_fld Tryz.underlying28 rfl Tryz.sizeOf22 rfl (q0 hpt)) rfl rfl ⟨⟨R,s0,s1,s2,hR,e0.keep (by decide) (by decide),e1.keep (by decide) (by decide),e2.keep (by decide) (by decide),rfl⟩,_,rfl,fun d h=>by cases h;rfl⟩
    |12,hi=>
     cases hi
     obtain ⟨z,hz,e⟩:=e1.store (hw 5 rfl)
     have hx:fr 21= .pointer (some ⟨b1,3,none⟩):=hF 11 _ _ rfl (hw 11 rfl) rfl
     exact f_store (R.length+2) (v:=z.v) hx hz Tryz.sizeOf22 rfl rfl (at_app R rfl) rfl ⟨⟨R,s0,z,s2,hR,e0.keep (by decide) (by decide),e,e2.keep (by decide) (by decide),set_app ..⟩,undef,rfl,fun d h=>by cases h⟩
    |13,hi=>cases hi;exact f_ev (e_fld Tryz.underlying28 rfl Tryz.sizeOf22 rfl (q0 hpt)) rfl rfl ⟨⟨R,s0,s1,s2,hR,e0.keep (by decide) (by decide),e1.keep (by decide) (by decide),e2.keep (by decide) (by decide),rfl⟩,_,rfl,fun d h=>by cases h;rfl⟩
    |14,hi=>
     cases hi
     obtain ⟨z,hz,e⟩:=e2.store (hw 8 rfl)
     have hx:fr 22= .pointer (some ⟨b1,5,none⟩):=hF 13 _ _ rfl (hw 13 rfl) rfl
     exact f_store (R.length+2) (v:=z.v) hx hz Tryz.sizeOf22 rfl rfl (at_app R rfl) rfl ⟨⟨R,s0,s1,z,hR,e0.keep (by decide) (by decide),e1.keep (by decide) (by decide),e,set_app ..⟩,undef,rfl,fun d h=>by cases h⟩
    |n+15,hi=>simp at hi
   ·rintro S L fr hS hA ⟨R,s0,s1,s2,hR,e0,e1,e2,rfl⟩
    obtain ⟨i0,hi0,k0⟩:=e0.c (hS 10 (by decide))
    obtain ⟨i1,hi1,k1⟩:=e1.c (hS 12 (by decide))
    obtain ⟨i2,hi2,k2⟩:=e2.c (hS 14 (by decide))
    exact cutJ_normal (⟨((s0,s1,s2),R),(k0.bag hi0).two ((k1.bag hi1).two (k2.bag hi2))⟩:P3X p) hA trivial (fun w hw=>hw.bag) (by rw [marks_append,hR];rfl) trivial
  ·rintro ⟨⟨⟨y1,y2,y3⟩,x2⟩,hx2⟩ g2 _
   iterate 4 refine G ?_
   refine X_st (v:= .agg _) rfl rfl Tryz.sizeOf28 ?_
   iterate 3 refine G ?_
   exact end_of rfl (resC rfl rfl Tryz.isAgg28 Tryz.sizeOf28) fun w' hw=>⟨⟨(⟨xt,xp,y1,y2,y3⟩,[bag x2,bag x1]),rfl,fun w hA=>by
    obtain ⟨a1,a2⟩:=hx1.ok w (hA.1 (bag x1) (by simp))
    obtain ⟨a3,a4,a5⟩:=hx2.ok w (hA.1 (bag x2) (by simp))
    exact ⟨a1,a2,a3,a4,a5⟩⟩,rfl,(hw.pick [0,1] (by decide)).bag (T:=[bag x2,bag x1]) (L:=[])⟩
end Go.Proofs.Own
namespace Go.Proofs.E
open Go Go.RowKit
section
variable {P:Program} {t kt et:TypeId}
theorem run_lookup_ok_kmap {w:World} {b:Nat} {ps:List ((Int×Int)×Value)} {z:Value} (K:KeyK P kt) (ht:P.underlying t=some (.map kt et)) (hz: ∀w,(zeroValue et).run P w= .ok z w) (h:KMap w b ps) (k:Int×Int):
  (Instr.lookup t (.map (some b)) (kv k) true).run P w= .ok (.tuple #[(klook ps k).getD z, .bool (klook ps k).isSome]) w:=by
 obtain ⟨es,c,h1,h2,_⟩:=h
 rcases ask_pairs K k w es.toList ps 0 h2 with ⟨ha,hb,_⟩|⟨j,v,e,ha,hb,_⟩
 ·simp [Instr.lookup,run_underlying ht,MapKept.run_getObj_map h1,K.chk,K.fk,hb,ha,hz,Result.andThen]
 ·simp [Instr.lookup,run_underlying ht,MapKept.run_getObj_map h1,K.chk,K.fk,hb,ha,Result.andThen]
theorem run_update_kmap {w:World} {b:Nat} {ps:List ((Int×Int)×Value)} (K:KeyK P kt) (ht:P.underlying t=some (.map kt et)) (h:KMap w b ps) (k:Int×Int) (hn:klook ps k=none) (v:Value):
  ∃w',(Instr.mapUpdate t (.map (some b)) (kv k) v).run P w= .ok () w'∧KMap w' b (ps++[(k,v)])∧w.grownBy w' (some b)∧w'.heap.size=w.heap.size∧w.drawn≤w'.drawn:=by
 obtain ⟨es,c,h1,h2,h3⟩:=h
 have hlt:b<w.heap.size:=(Array.getElem?_eq_some_iff.1 h1).1
 have hg: ∀o:Obj,w.grownBy {w with heap:=w.heap.setIfInBounds b o} (some b):=fun o=>⟨rfl,rfl,rfl,by simp,fun i _ hi=>by
  have hne:b≠i:=fun e=>hi (by rw [e])
  exact Array.getElem?_setIfInBounds_ne hne⟩
 rcases ask_pairs K k w es.toList ps 0 h2 with ⟨ha,hb,hput⟩|⟨j,x,e,ha,_⟩
 ·refine ⟨{w with heap:=w.heap.setIfInBounds b (.map (es.push {key:=kv k,val:=v,born:=c}) (c+1))},?_,⟨_,_,Array.getElem?_setIfInBounds_self_of_lt hlt,?_,by simpa using h3.push rfl⟩,hg _,by simp,Nat.le_refl _⟩
  ·simp [Instr.mapUpdate,run_underlying ht,MapKept.run_getObj_map h1,K.chk,K.fk,hb,Result.andThen,MapKept.run_setObj_map _ h1]
  ·simpa using pairsK_push h2 (e:={key:=kv k,val:=v,born:=c}) (p:=(k,v)) ⟨rfl,rfl⟩
 ·rw [hn] at ha;cases ha
end
section
variable {c:Cx} {w0:World} {L:List Item} {f:Fr} {K:List Item→Fr→Prop} {d:Nat} {ty:TypeId} {pos:String} {af:Array Edge} {g:Bool} {x y z:Operand} {t kt et:TypeId}
theorem e_lookKok {b:Nat} {ps:List ((Int×Int)×Value)} {key:Int×Int} {v u:Value} {bb:Bool} (hK:KeyK c.P kt) (ht:c.P.underlying t=some (.map kt et)) (hz: ∀w,(zeroValue et).run c.P w= .ok v w) (hx:OpV g f x (.map (some b))) (hy:OpV g f y (kv key))
  (hA: ∀w,Mem w0 L w→KMap w b ps) (hu:g=true→(klook ps key).getD v=u∧(klook ps key).isSome=bb):EvG g c w0 L f (.lookup t x y true) ty (.tuple #[u, .bool bb]):=fun e _ _ _ _ w hw=>by
 simp [execOp,hx e,hy e,run_lookup_ok_kmap hK ht hz (hA w hw) key,Result.andThen,hu e]
theorem e_lookKG {b:Nat} {ps:List ((Int×Int)×Value)} {key:Int×Int} {v u:Value} (hK:KeyK c.P kt) (ht:c.P.underlying t=some (.map kt et)) (hz: ∀w,(zeroValue et).run c.P w= .ok v w) (hx:OpV g f x (.map (some b))) (hy:OpV g f y (kv key))
  (hA: ∀w,Mem w0 L w→KMap w b ps) (hu:g=true→(klook ps key).getD v=u):EvG g c w0 L f (.lookup t x y false) ty u:=fun e _ _ _ _ w hw=>by
 simp [execOp,hx e,hy e,run_lookup_kmap hK ht hz (hA w hw) key,Result.andThen,hu e]
theorem f_newK (k:Nat) {b:Nat} {ps:List ((Int×Int)×Value)} {key:Int×Int} {v:Value} (hK:KeyK c.P kt) (ht:c.P.underlying t=some (.map kt et)) (hx:ev f x= .map (some b)) (hy:ev f y=kv key) (hz:ev f z=v)
  (hk:L[k]?=some (kmap b ps)) (hn:klook ps key=none) (next:K (L.set k (kmap b (ps++[(key,v)]))) f):
  Eff c w0 L f ⟨none, .mapUpdate t x y z,ty,pos,af,none⟩ K:=
 ⟨rfl,rfl,rfl,fun w hw=>by
  have hA:KMap w b ps:=hw.item hk
  obtain ⟨w',hrun,h1,h2,h3,h4⟩:=run_update_kmap (P:=c.P) hK ht hA key hn v
  have:(execOp (ev f) ⟨none, .mapUpdate t x y z,ty,pos,af,none⟩).run c.P w= .ok .skip w':=by simp [execOp,hx,hy,hz,hrun,Result.andThen]
  rw [this]
  refine ⟨_,hw.set (it':=kmap b (ps++[(key,v)])) hk (fun _ h=>h) h1 ⟨h2.os,h2.tape,h2.output,h3,h4⟩ (fun b' hb'=>?_),marks_set hk rfl,next⟩
  by_cases hlt:b'<w.heap.size
  ·exact h2.block b' hlt (fun e=>hb' (by injection e))
  ·rw [Array.getElem?_eq_none (by omega),Array.getElem?_eq_none (by omega)]⟩
end
theorem KMap.lt {w:World} {b:Nat} {ps:List ((Int×Int)×Value)} (h:KMap w b ps):b<w.heap.size:=by
 obtain ⟨es,c,h1,_⟩:=h
 exact (Array.getElem?_eq_some_iff.1 h1).1
theorem KMap.mem {w0 w:World} {L:List Item} {b:Nat} {ps:List ((Int×Int)×Value)} (h:KMap w0 b ps) (hw:Mem w0 L w):KMap w b ps:=by
 have hl:=h.lt
 obtain ⟨es,c,h1,h2⟩:=h
 exact ⟨es,c,(hw.1.block b hl).trans h1,h2⟩
end Go.Proofs.E
namespace Go.Proofs.Rid
open Go Go.RowKit Go.Proofs.E Go.Proofs.Cus
theorem set_self {α:Type} {l:List α} {k:Nat} {x y:α} (h:l[k]?=some x):(l.set k y)[k]?=some y:=by
 have:=(List.getElem?_eq_some_iff.1 h).1
 rw [List.getElem?_set];simp [this]
theorem map_setR (xs:List RX) (k:Nat) (y:RX):(xs.set k y).map (·.r)=(xs.map (·.r)).set k y.r:=List.map_set
section
variable {a:YA} {t:TY} {w0 w:World} {L:List E.Item} {n N:Nat}
theorem plain_getD {k:Nat} {x:RX} (hx:t.xs[k]?=some x):(t.xs.map (·.r)).getD k default=x.r:=(xs_get hx).2
theorem leave_w (hw:Mem w0 (stY a t++L) w) (hmk:marks L=[]) (hI:WF n N t.plain) (hN:N≤100000) (b:Nat) (hb:b<n) (at_:Sp) (wh:Spn):
  Calls Tryz.prog 157 #[.pointer (some ⟨a.sb,0,none⟩), .int .i64 b, .agg at_.cells.toArray, .agg wh.cells.toArray] w fun r w'=> ∃t':{t':TY//t'.plain=leaveY t.plain b at_ wh},r= .returned (.tuple #[])∧Mem w0 (stY a t'.1++L) w':=by
 obtain ⟨hpl,hrl,hsl,hxl⟩:=len_of hI
 obtain ⟨v,hv,hvg,hv0,hv1⟩:=riding_get hI hb
 have hvt:t.riding[b]?=some v:=hv
 obtain ⟨sp,hsp⟩: ∃sp,t.spots[b]?=some sp:=⟨_,List.getElem?_eq_getElem (by omega)⟩
 have hv1':v<t.xs.length:=by simpa [TY.plain] using hv1
 obtain ⟨t1,ht1⟩: ∃t1:TY,t1=⟨t.xs,t.byID,t.riding,t.paused,t.spots.set b at_⟩:=⟨_,rfl⟩
 have hI1:WF n N t1.plain:=by rw [ht1];exact ⟨hI.riding,by simp [TY.plain];exact hsl,hI.paused,hI.num,hI.ride,hI.legs,hI.ids⟩
 have hst1: ∀(X:List E.Item) (u:World),Mem w0 ([box a.sb 183 (yCells a t),rdRow a.rA a.rc t.xs,rdBag t.xs,blRow a.pA a.pc t.paused,inRow (some ⟨a.g,0,none⟩) a.gc t.riding,E.rowT 252 4 Sp.cells (some ⟨a.s,0,none⟩) a.sc (t.spots.set b at_),imap a.m (rmV t.byID)]++X) u→Mem w0 (stY a t1++X) u:=fun X u h=>by
  have hc:yCells a t1=yCells a t:=by rw [ht1];unfold yCells;simp
  show Mem w0 ([box a.sb 183 (yCells a t1),_,_,_,_,_,_]++X) u
  rw [hc,ht1]
  exact h
 refine H_enterM hw hmk Tryz.func157 rfl Tryz.ntmps157 rfl ?_
 iterate 2 refine G ?_
 refine X_box (v:= .agg _) rfl rfl fun b6=>?_
 refine X_box (v:= .agg _) rfl rfl fun b7=>?_
 iterate 3 refine G ?_
 refine E.RT rfl rfl (by decide+kernel) ?_
 iterate 6 refine G ?_
 refine xV (e_idx b Tryz.underlying181 Tryz.sizeOf252 (q0 rfl) (q0 rfl) (fun _=>⟨rfl,by omega⟩)) rfl rfl ?_
 iterate 2 refine G ?_
 refine X_eff (f_storeR0 7 at_ rfl rfl Tryz.sizeOf252 rfl rfl rfl hsp rfl rfl ?_)
 iterate 9 refine G ?_
 refine xV (e_idx b Tryz.underlying22 Tryz.sizeOf3 (q0 rfl) (q0 rfl) (fun _=>⟨rfl,by omega⟩)) rfl rfl ?_
 refine xV (e_ld (v:= .int .i64 v) Tryz.isAgg3 (q0 rfl) (by exact rr0 6 (k:=1) (enc:=encInt) rfl hvt rfl)) rfl rfl ?_
 iterate 10 refine G ?_
 refine H_cond rfl ?_ ?_<;>intro hneg
 ·have hneg':v<0:=by simpa using hneg
  iterate 2 refine G ?_
  exact ret0 rfl hmk fun w' hw=>⟨⟨t1,by rw [ht1];unfold leaveY TY.plain;simp only;rw [show t.riding.getD b 0=v from hvg,if_pos hneg']⟩,rfl,hst1 L w' hw.tail.tail⟩
 ·have hpos:0≤v:=by simpa using hneg
  obtain ⟨k,rfl⟩: ∃k:Nat,v=k:=⟨v.toNat,by omega⟩
  have hk:k<t.xs.length:=by omega
  obtain ⟨x,hx⟩: ∃x,t.xs[k]?=some x:=⟨_,List.getElem?_eq_getElem hk⟩
  obtain ⟨y,hy⟩: ∃y:RX,y=⟨resumeR (t.paused.getD k false) wh x.r,x.a⟩:=⟨_,rfl⟩
  obtain ⟨t2,ht2⟩: ∃t2:TY,t2=⟨t.xs.set k y,t.byID,t.riding,t.paused.set k false,t.spots.set b at_⟩:=⟨_,rfl⟩
  have hx1:t1.xs[k]?=some x:=by rw [ht1];exact hx
  have hx2:t2.xs[k]?=some y:=by rw [ht2];exact set_self hx
  have hlo:=leg_of hI hx
  have hlo2:=resumeR_ok (p:=t.paused.getD k false) (w:=wh) hlo
  rw [show resumeR (t.paused.getD k false) wh x.r=y.r by rw [hy]] at hlo2
  have hI2:WF n N t2.plain:=by
   have:=hI1.resume (k:=k) (by rw [ht1];simpa [TY.plain] using hk) wh
   have e:t2.plain=resumeY t1.plain k wh:=by
    rw [ht2,ht1];unfold resumeY TY.plain;simp only
    rw [map_setR,plain_getD hx,hy]
   rw [e];exact this
  iterate 7 refine G ?_
  refine X_eff (f_callM (en Tryz.call156 (ha3 (q0 rfl) (q0 rfl) (q0 rfl))) (fun w hw=>resume_w (a:=a) (t:=t1) (L:=[_,_]++L) (hst1 _ _ (Mem.rot (X:=[_,_]) (S:=[box a.sb 183 (yCells a t),_,_,_,_,_,_]) hw)) hmk hI1 hN (by rw [ht1];exact hk) hx1 wh) rfl (fun _=>rfl) fun u=>?_)
  iterate 3 refine G ?_
  refine H_mem (L':=stK a t2 k y++([box b7 187 wh.cells,box b6 252 at_.cells]++L)) (fun w hw=>openK (by
   have e:(⟨t1.xs.set k ⟨resumeR (t1.paused.getD k false) wh x.r,x.a⟩,t1.byID,t1.riding,t1.paused.set k false,t1.spots⟩:TY)=t2:=by rw [ht2,ht1,hy]
   rw [e] at hw
   exact hw) hx2) rfl ?_
  have hkn:k<t2.xs.length:=by rw [ht2];simpa using hk
  have hv2:t2.riding[b]?=some (k:Int):=by rw [ht2];exact hvt
  have hcl:=fun (z:RX) (w:World)=>closeK (a:=a) (t:=t2) (w0:=w0) (w:=w) (L:=L) (m:=t2.byID) (gs:=t2.riding.set b (-1)) (ps:=t2.paused) (ss:=t2.spots) (k:=k) z hkn (by simp) rfl rfl
  have hfin: ∀(z:RX),z.r=finishR at_ wh y.r→(⟨t2.xs.set k z,t2.byID,t2.riding.set b (-1),t2.paused,t2.spots⟩:TY).plain=leaveY t.plain b at_ wh:=fun z hz=>by
   unfold leaveY
   rw [hvg,if_neg (by omega)]
   simp only [Int.toNat_natCast]
   rw [ht2]
   unfold resumeY TY.plain
   simp only
   rw [plain_getD hx,map_setR,map_setR,List.set_set,List.set_set,hz,hy]
   have h8:(t.xs.map (·.r))[k]?=some x.r:=(xs_get hx).1
   rw [getD_of (set_self h8)]
  have hrl2:t2.riding.length=n:=by rw [ht2];exact hrl
  obtain ⟨yr,⟨lA,lc,pA,pc⟩⟩:=y
  simp only at hlo2 hfin
  refine H_know (fun w hw=>rowT_at (j:=0) hw rfl (by omega)) fun ⟨rb,hrb⟩=>?_
  refine H_know (fun w hw=>rowT_at (j:=2) hw rfl (by simp only;omega)) fun ⟨lb,hlb⟩=>?_
  obtain ⟨asb,arA,arc,am,ag,agc,apA,apc,as_,asc⟩:=a
  simp only at hrb hlb
  subst hrb
  subst hlb
  obtain ⟨g,hg⟩: ∃g,yr.legs[yr.legs.length -1]?=some g:=⟨_,List.getElem?_eq_getElem (by omega)⟩
  iterate 6 refine G ?_
  refine xV (e_idx k Tryz.underlying135 Tryz.sizeOf191 (q0 rfl) (q0 rfl) (fun _=>⟨rfl,hkn⟩)) rfl rfl ?_
  iterate 4 refine G ?_
  refine E.RT rfl rfl (by decide+kernel) ?_
  iterate 3 refine G ?_
  refine xV (e_ld (v:= .slice (some ⟨lb,0,none⟩) yr.legs.length lc) Tryz.isAgg188 (q0 rfl) (by exact rr 0 (r:=7) rfl hx2 rfl)) rfl rfl ?_
  iterate 3 refine G ?_
  refine xV (e_ld (v:= .slice (some ⟨lb,0,none⟩) yr.legs.length lc) Tryz.isAgg188 (q0 rfl) (by exact rr 0 (r:=7) rfl hx2 rfl)) rfl rfl ?_
  refine G ?_
  refine xV (e_sub (r:=((yr.legs.length -1:Nat):Int)) (q0 rfl) (q0 rfl) (fun _=>⟨by omega,by omega,by omega⟩)) rfl rfl ?_
  refine G ?_
  refine xV (e_idx (yr.legs.length -1) Tryz.underlying188 Tryz.sizeOf276 (q0 rfl) (q0 rfl) (fun _=>⟨rfl,by omega⟩)) rfl rfl ?_
  iterate 3 refine G ?_
  refine X_eff (f_storeR 2 (i:=yr.legs.length -1) (off:=3) {g with to_:=wh} rfl rfl Tryz.sizeOf187 rfl rfl rfl hg rfl rfl ?_)
  iterate 3 refine G ?_
  refine RAd 1 rfl (by decide+kernel) ?_
  refine aW 0 ?_
  refine aW 1 ?_
  refine aW 2 ?_
  refine aW 3 ?_
  refine aW 4 ?_
  refine aW 5 ?_
  refine aW 6 ?_
  refine aW 7 ?_
  refine aW 8 ?_
  refine aW 9 ?_
  refine aW 10 ?_
  refine r1 11 1 ?_
  refine aL rfl (f_storeR 0 (i:=k) (off:=4) ⟨{yr with end_:=wh},⟨some ⟨lb,0,none⟩,lc,pA,pc⟩⟩ rfl rfl Tryz.sizeOf187 rfl rfl rfl hx2 rfl rfl ?_)
  refine aW 12 ?_
  refine aW 13 ?_
  refine r1 14 1 ?_
  refine aL rfl (f_storeR 0 (i:=k) (off:=6) ⟨{yr with end_:=wh,open_:=false},⟨some ⟨lb,0,none⟩,lc,pA,pc⟩⟩ rfl rfl Tryz.sizeOf4 rfl rfl rfl (set_self hx2) rfl rfl ?_)
  refine aW 15 ?_
  refine aW 16 ?_
  refine r1 17 1 ?_
  refine aL rfl (f_storeR 0 (i:=k) (off:=11) ⟨{yr with end_:=wh,open_:=false,wh:=at_.where_},⟨some ⟨lb,0,none⟩,lc,pA,pc⟩⟩ rfl rfl Tryz.sizeOf3 rfl rfl rfl (set_self (set_self hx2)) rfl rfl ?_)
  refine aW 18 ?_
  refine aW 19 ?_
  refine r1 20 1 ?_
  refine aL rfl (f_storeR 0 (i:=k) (off:=12) ⟨{yr with end_:=wh,open_:=false,wh:=at_.where_,pl:=at_.place},⟨some ⟨lb,0,none⟩,lc,pA,pc⟩⟩ rfl rfl Tryz.sizeOf3 rfl rfl rfl (set_self (set_self (set_self hx2))) rfl rfl ?_)
  refine aZ (by decide+kernel) (sub_drop 1) ?_
  iterate 7 refine G ?_
  refine xV (e_idx b Tryz.underlying22 Tryz.sizeOf3 (q0 rfl) (q0 rfl) (fun _=>⟨rfl,by omega⟩)) rfl rfl ?_
  refine X_eff (f_storeR0 4 (k:=1) (enc:=encInt) (-1) rfl rfl Tryz.sizeOf3 rfl rfl rfl hv2 rfl rfl ?_)
  refine G ?_
  exact end0 rfl hmk fun w' hw=>⟨⟨_,hfin ⟨finishR at_ wh yr,⟨some ⟨lb,0,none⟩,lc,pA,pc⟩⟩ rfl⟩,rfl,hcl ⟨finishR at_ wh yr,⟨some ⟨lb,0,none⟩,lc,pA,pc⟩⟩ w' (by
   have h9:=hw.pickN 11 [0,1,2,3,4,5,6,7,8] (by decide) (by decide)
   have e1:rdRow (some ⟨rb,0,none⟩) arc (t2.xs.set k ⟨finishR at_ wh yr,⟨some ⟨lb,0,none⟩,lc,pA,pc⟩⟩)=rdRow (some ⟨rb,0,none⟩) arc ((((t2.xs.set k ⟨{yr with end_:=wh},⟨some ⟨lb,0,none⟩,lc,pA,pc⟩⟩).set k ⟨{yr with end_:=wh,open_:=false},⟨some ⟨lb,0,none⟩,lc,pA,pc⟩⟩).set k ⟨{yr with end_:=wh,open_:=false,wh:=at_.where_},⟨some ⟨lb,0,none⟩,lc,pA,pc⟩⟩).set k ⟨{yr with end_:=wh,open_:=false,wh:=at_.where_,pl:=at_.place},⟨some ⟨lb,0,none⟩,lc,pA,pc⟩⟩):=by
    simp only [List.set_set]
    have:=rowT_same (e:=191) (n:=13) (c:=arc) (enc:=RX.cells) (A:=some ⟨rb,0,none⟩) (k:=k) (x:=⟨{yr with end_:=wh,open_:=false,wh:=at_.where_,pl:=at_.place},⟨some ⟨lb,0,none⟩,lc,pA,pc⟩⟩) (y:=⟨finishR at_ wh yr,⟨some ⟨lb,0,none⟩,lc,pA,pc⟩⟩) (set_self hx2) (by simp [RX.cells,Rd.cellsAt,finishR,endLeg])
    rw [List.set_set] at this
    exact this
   have e2:(finishR at_ wh yr).legs=yr.legs.set (yr.legs.length -1) {g with to_:=wh}:=by unfold finishR;rw [endLeg_at hg]
   simp only
   rw [e1,e2]
   exact h9)⟩
end
end Go.Proofs.Rid
namespace Go.Proofs.Rid
open Go Go.RowKit Go.Proofs.E Go.Proofs.Cus
section
variable {a:YA} {t:TY} {w0 w:World} {L:List E.Item} {n N:Nat}
abbrev YOut (a:YA) (p:SY):Type:={y:YA×TY//y.1.sb=a.sb∧y.2.plain=p}
theorem begin_w (hw:Mem w0 (stY a t++L) w) (hmk:marks L=[]) (hI:WF n N t.plain) (hN:N≤100000) (e:Ev) (hb:0≤e.bike∧e.bike<n) (wh:Spn):
  Calls Tryz.prog 154 #[.pointer (some ⟨a.sb,0,none⟩), .agg e.cells.toArray, .agg wh.cells.toArray] w fun r w'=> ∃y:YOut a (beginY t.plain e wh),r= .returned (.tuple #[])∧Mem w0 (stY y.1.1 y.1.2++L) w':=by
 obtain ⟨hpl,hrl,hsl,hxl⟩:=len_of hI
 obtain ⟨k,hk⟩: ∃k:Nat,e.bike=k:=⟨e.bike.toNat,by omega⟩
 have hkn:k<n:=by omega
 obtain ⟨sp,hsp⟩: ∃sp,t.spots[k]?=some sp:=⟨_,List.getElem?_eq_getElem (by omega)⟩
 obtain ⟨v,hv,hvg,hv0,hv1⟩:=riding_get hI hkn
 have hvt:t.riding[k]?=some v:=hv
 have hspd:t.plain.spots.getD e.bike.toNat default=sp:=by rw [hk];exact getD_of hsp
 obtain ⟨ed,es,eat,el,ekind,ebike,epl,erd,erid⟩:=e
 simp only at hk hspd
 subst hk
 refine H_enterM hw hmk Tryz.func154 rfl Tryz.ntmps154 rfl ?_
 iterate 2 refine G ?_
 refine X_box (v:= .agg _) rfl rfl fun b4=>?_
 refine X_box (v:= .agg _) rfl rfl fun b5=>?_
 iterate 3 refine G ?_
 refine RA rfl (by decide+kernel) ?_
 refine aW 0 ?_
 refine aW 1 ?_
 refine aW 2 ?_
 refine aW 3 ?_
 refine aW 4 ?_
 refine aW 5 ?_
 refine aV 6 (by decide+kernel) rfl (e_idx k Tryz.underlying181 Tryz.sizeOf252 (q0 rfl) (q0 rfl) (fun _=>⟨rfl,by omega⟩)) rfl ?_
 refine aW 7 ?_
 refine r1 8 0 ?_
 refine aL rfl (f_alloc Tryz.zeroValue252 rfl fun b6=>?_)
 refine r1 9 1 ?_
 refine aL rfl (f_st (v:= .agg _) rfl rfl Tryz.sizeOf252 ?_)
 refine aZ (by decide+kernel) (sub_drop 1) ?_
 iterate 2 refine G ?_
 refine E.RT rfl rfl (by decide+kernel) ?_
 iterate 13 refine G ?_
 refine X_eff (f_mapset 9 Tryz.underlying156 Tryz.underlying3 rfl rfl rfl rfl ?_)
 iterate 3 refine G ?_
 refine E.RT rfl rfl (by decide+kernel) ?_
 iterate 11 refine G ?_
 refine xV (e_idx k Tryz.underlying22 Tryz.sizeOf3 (q0 rfl) (q0 rfl) (fun _=>⟨rfl,by omega⟩)) rfl rfl ?_
 iterate 2 refine G ?_
 refine X_eff (f_storeR0 7 (k:=1) (enc:=encInt) (t.xs.length:Int) rfl rfl Tryz.sizeOf3 rfl rfl rfl hvt rfl rfl ?_)
 iterate 3 refine G ?_
 refine H_mem (fun w hw=>hw.pickN 10 [3,4,0,1,2,5,6,7,8,9] (by decide) (by decide)) rfl ?_
 refine H_cut [38,39,40,41,42,43,44,45,46,47,48,49,50,51,52,53,54,55,56,57,58,59,60,61] (fun _:Nat×Option Addr×Nat=>[]) (fun s=>[pzRow none 0 [],lgRow (some ⟨s.1,0,none⟩) 1 [⟨k,wh,zSpn⟩],box a.sb 183 [.slice s.2.1 (t.xs++[(⟨newR ⟨ed,es,eat,el,ekind,k,epl,erd,erid⟩ sp wh,⟨some ⟨s.1,0,none⟩,1,none,0⟩⟩:RX)]).length s.2.2, .map (some a.m), .slice (some ⟨a.g,0,none⟩) t.riding.length a.gc, .slice a.pA t.paused.length a.pc, .slice (some ⟨a.s,0,none⟩) t.spots.length a.sc],rdRow s.2.1 s.2.2 (t.xs++[(⟨newR ⟨ed,es,eat,el,ekind,k,epl,erd,erid⟩ sp wh,⟨some ⟨s.1,0,none⟩,1,none,0⟩⟩:RX)]),rdBag t.xs,blRow a.pA a.pc t.paused,inRow (some ⟨a.g,0,none⟩) a.gc (t.riding.set k t.xs.length),E.rowT 252 4 Sp.cells (some ⟨a.s,0,none⟩) a.sc t.spots,imap a.m (mput (rmV t.byID) erid (.int .i64 t.xs.length))]++L) (fun _=>True) ?_ ?_
 ·refine RAd 2 rfl (by decide+kernel) ?_
  refine aW 0 ?_
  refine aW 1 ?_
  refine aW 2 ?_
  refine aW 3 ?_
  refine aW 5 ?_
  refine aW 6 ?_
  refine aW 7 ?_
  refine aW 8 ?_
  refine aW 9 ?_
  refine aW 10 ?_
  refine aW 11 ?_
  refine aW 12 ?_
  refine aV 13 (by decide+kernel) rfl (e_build Tryz.underlying276 fl276 Tryz.zeroValue276 (pt (v:= .int _ _) rfl (pt (v:= .agg _) rfl E.p0)) rfl) rfl ?_
  refine aW 15 ?_
  refine aW 16 ?_
  refine aW 17 ?_
  refine aW 18 ?_
  refine rdy2 (i:=4) (j:=14) (by decide+kernel) (sub_drop 2) ?_ ?_
  ·refine aL rfl (f_ev (e_ld (v:= .slice a.rA t.xs.length a.rc) Tryz.isAgg135 (q0 rfl) cb) rfl rfl ?_)
   refine r1 14 2 ?_
   refine aL rfl (f_slit [(.int .i64 0),(.int .i64 0),(.int .i64 0),(.int .i64 0),(.int .i64 0)] Tryz.underlying188 Tryz.sizeOf276 Tryz.zeroValue276 rfl (by kernel_rfl) (pt (v:= .agg _) rfl E.p0) rfl rfl fun b52=>?_)
   refine aV 19 (by decide+kernel) rfl (e_build Tryz.underlying191 fl191 Tryz.zeroValue191 (pt (v:= .int _ _) rfl (pt (v:= .int _ _) rfl (pt (v:= .agg _) rfl (pt (v:= .bool _) rfl (pt (v:= .slice _ _ _) rfl (pt (v:= .int _ _) rfl (pt (v:= .int _ _) rfl (pt (v:= .int _ _) rfl E.p0)))))))) rfl) rfl ?_
   refine r1 20 3 ?_
   refine aL rfl (f_slit [(.int .i64 0),(.int .i64 0),(.int .i64 0),(.int .i64 0),(.int .i64 0),(.int .i64 0),(.bool false),(.slice none 0 0),(.slice none 0 0),(.int .i64 0),(.int .i64 0),(.int .i64 0),(.int .i64 0)] Tryz.underlying135 Tryz.sizeOf191 Tryz.zeroValue191 rfl (by kernel_rfl) (pt (v:= .agg _) rfl E.p0) rfl rfl fun b58=>?_)
   refine aI 1 ?_
   refine r1 21 4 ?_
   refine aL rfl (f_append (k:=13) (i:=Tryz.t191) (enc:=RX.cells) 3 Tryz.underlying135 (by kernel_rfl) rfl rfl rfl rfl (fun _=>rfl) (fun _=>rfl) rfl rfl rfl (fun w hw=>slAt_box (enc:=RX.cells) (xs:=[⟨newR ⟨ed,es,eat,el,ekind,k,epl,erd,erid⟩ sp wh,⟨some ⟨b52,0,none⟩,1,none,0⟩⟩]) hw (j:=1) rfl (fun _=>rfl) (by simp)) ⟨by simp;omega,by decide⟩ rfl fun A1 c1=>?_)
   refine aW 22 ?_
   refine aW 23 ?_
   refine r1 24 4 ?_
   refine aL rfl (f_st (v:= .slice _ _ _) rfl rfl Tryz.sizeOf135 ?_)
   refine aZ (by decide+kernel) (sub_drop 4) ?_
   exact cutJ_normal ((b52,A1,c1):Nat×Option Addr×Nat) agr trivial (fun w hw=>by have h1:=hw.pickN 12 [0,2,3,7,8,9,10,11] (by decide) (by decide);have h2:=h1.boxRow (j:=0) (b:=b52) (e:=276) (n:=5) (enc:=Lg.cells) (xs:=[⟨k,wh,zSpn⟩]) rfl (fun _=>rfl) (by simp);have h3:=h2.nilRow 248 4 Pz.cells (c:=0) rfl;exact h3) rfl trivial
  ·refine aL rfl (f_slit [(.int .i64 0),(.int .i64 0),(.int .i64 0),(.int .i64 0),(.int .i64 0)] Tryz.underlying188 Tryz.sizeOf276 Tryz.zeroValue276 rfl (by kernel_rfl) (pt (v:= .agg _) rfl E.p0) rfl rfl fun b52=>?_)
   refine aV 19 (by decide+kernel) rfl (e_build Tryz.underlying191 fl191 Tryz.zeroValue191 (pt (v:= .int _ _) rfl (pt (v:= .int _ _) rfl (pt (v:= .agg _) rfl (pt (v:= .bool _) rfl (pt (v:= .slice _ _ _) rfl (pt (v:= .int _ _) rfl (pt (v:= .int _ _) rfl (pt (v:= .int _ _) rfl E.p0)))))))) rfl) rfl ?_
   refine rdy2 (i:=4) (j:=20) (by decide+kernel) (sub_drop 3) ?_ ?_
   ·refine aL rfl (f_ev (e_ld (v:= .slice a.rA t.xs.length a.rc) Tryz.isAgg135 (q0 rfl) cb) rfl rfl ?_)
    refine r1 20 3 ?_
    refine aL rfl (f_slit [(.int .i64 0),(.int .i64 0),(.int .i64 0),(.int .i64 0),(.int .i64 0),(.int .i64 0),(.bool false),(.slice none 0 0),(.slice none 0 0),(.int .i64 0),(.int .i64 0),(.int .i64 0),(.int .i64 0)] Tryz.underlying135 Tryz.sizeOf191 Tryz.zeroValue191 rfl (by kernel_rfl) (pt (v:= .agg _) rfl E.p0) rfl rfl fun b58=>?_)
    refine aI 1 ?_
    refine r1 21 4 ?_
    refine aL rfl (f_append (k:=13) (i:=Tryz.t191) (enc:=RX.cells) 3 Tryz.underlying135 (by kernel_rfl) rfl rfl rfl rfl (fun _=>rfl) (fun _=>rfl) rfl rfl rfl (fun w hw=>slAt_box (enc:=RX.cells) (xs:=[⟨newR ⟨ed,es,eat,el,ekind,k,epl,erd,erid⟩ sp wh,⟨some ⟨b52,0,none⟩,1,none,0⟩⟩]) hw (j:=1) rfl (fun _=>rfl) (by simp)) ⟨by simp;omega,by decide⟩ rfl fun A1 c1=>?_)
    refine aW 22 ?_
    refine aW 23 ?_
    refine r1 24 4 ?_
    refine aL rfl (f_st (v:= .slice _ _ _) rfl rfl Tryz.sizeOf135 ?_)
    refine aZ (by decide+kernel) (sub_drop 4) ?_
    exact cutJ_normal ((b52,A1,c1):Nat×Option Addr×Nat) agr trivial (fun w hw=>by have h1:=hw.pickN 12 [0,2,3,7,8,9,10,11] (by decide) (by decide);have h2:=h1.boxRow (j:=0) (b:=b52) (e:=276) (n:=5) (enc:=Lg.cells) (xs:=[⟨k,wh,zSpn⟩]) rfl (fun _=>rfl) (by simp);have h3:=h2.nilRow 248 4 Pz.cells (c:=0) rfl;exact h3) rfl trivial
   ·refine aL rfl (f_slit [(.int .i64 0),(.int .i64 0),(.int .i64 0),(.int .i64 0),(.int .i64 0),(.int .i64 0),(.bool false),(.slice none 0 0),(.slice none 0 0),(.int .i64 0),(.int .i64 0),(.int .i64 0),(.int .i64 0)] Tryz.underlying135 Tryz.sizeOf191 Tryz.zeroValue191 rfl (by kernel_rfl) (pt (v:= .agg _) rfl E.p0) rfl rfl fun b58=>?_)
    refine aI 1 ?_
    refine r1 4 4 ?_
    refine aL rfl (f_ev (e_ld (v:= .slice a.rA t.xs.length a.rc) Tryz.isAgg135 (q0 rfl) cb) rfl rfl ?_)
    refine r1 21 4 ?_
    refine aL rfl (f_append (k:=13) (i:=Tryz.t191) (enc:=RX.cells) 3 Tryz.underlying135 (by kernel_rfl) rfl rfl rfl rfl (fun _=>rfl) (fun _=>rfl) rfl rfl rfl (fun w hw=>slAt_box (enc:=RX.cells) (xs:=[⟨newR ⟨ed,es,eat,el,ekind,k,epl,erd,erid⟩ sp wh,⟨some ⟨b52,0,none⟩,1,none,0⟩⟩]) hw (j:=1) rfl (fun _=>rfl) (by simp)) ⟨by simp;omega,by decide⟩ rfl fun A1 c1=>?_)
    refine aW 22 ?_
    refine aW 23 ?_
    refine r1 24 4 ?_
    refine aL rfl (f_st (v:= .slice _ _ _) rfl rfl Tryz.sizeOf135 ?_)
    refine aZ (by decide+kernel) (sub_drop 4) ?_
    exact cutJ_normal ((b52,A1,c1):Nat×Option Addr×Nat) agr trivial (fun w hw=>by have h1:=hw.pickN 12 [0,2,3,7,8,9,10,11] (by decide) (by decide);have h2:=h1.boxRow (j:=0) (b:=b52) (e:=276) (n:=5) (enc:=Lg.cells) (xs:=[⟨k,wh,zSpn⟩]) rfl (fun _=>rfl) (by simp);have h3:=h2.nilRow 248 4 Pz.cells (c:=0) rfl;exact h3) rfl trivial
 ·rintro ⟨lb,A1,c1⟩ g5 _
  iterate 7 refine G ?_
  refine X_push (k:=1) (i:=Tryz.t4) 5 (false) Tryz.underlying103 (by kernel_rfl) rfl rfl rfl rfl Tryz.sizeOf4 Tryz.zeroValue4 rfl rfl rfl rfl rfl rfl ⟨by omega,by decide⟩ rfl rfl fun PB A2 c2=>?_
  iterate 2 refine G ?_
  refine X_st (v:= .slice _ _ _) rfl rfl Tryz.sizeOf103 ?_
  refine G ?_
  exact end0 rfl hmk fun w' hw=>⟨⟨(⟨a.sb,A1,c1,a.m,a.g,a.gc,A2,c2,a.s,a.sc⟩,⟨t.xs++[⟨newR ⟨ed,es,eat,el,ekind,k,epl,erd,erid⟩ sp wh,⟨some ⟨lb,0,none⟩,1,none,0⟩⟩],rput t.byID erid t.xs.length,t.riding.set k t.xs.length,t.paused++[false],t.spots⟩),rfl,by
   unfold beginY TY.plain
   unfold TY.plain at hspd
   simp only at hspd⊢
   rw [hspd]
   simp⟩,rfl,by
   have h1:=hw.pickN 9 [1,0,4,2,3,5,6,7,8] (by decide) (by decide)
   have h2:=Mem.pushed (f:=rdParts) (y:=⟨newR ⟨ed,es,eat,el,ekind,k,epl,erd,erid⟩ sp wh,⟨some ⟨lb,0,none⟩,1,none,0⟩⟩) (xs:=t.xs) h1
   have h3:=h2.pickN 7 [1,2,0,3,4,5,6] (by decide) (by decide)
   rw [rmV_put] at h3
   have hc:yCells ⟨a.sb,A1,c1,a.m,a.g,a.gc,A2,c2,a.s,a.sc⟩ ⟨t.xs++[⟨newR ⟨ed,es,eat,el,ekind,k,epl,erd,erid⟩ sp wh,⟨some ⟨lb,0,none⟩,1,none,0⟩⟩],rput t.byID erid t.xs.length,t.riding.set k t.xs.length,t.paused++[false],t.spots⟩=[.slice A1 (t.xs++[(⟨newR ⟨ed,es,eat,el,ekind,k,epl,erd,erid⟩ sp wh,⟨some ⟨lb,0,none⟩,1,none,0⟩⟩:RX)]).length c1, .map (some a.m), .slice (some ⟨a.g,0,none⟩) t.riding.length a.gc, .slice A2 (t.paused++[false]).length c2, .slice (some ⟨a.s,0,none⟩) t.spots.length a.sc]:=by unfold yCells;simp
   show Mem w0 ([box a.sb 183 (yCells _ _),_,_,_,_,_,_]++L) w'
   rw [hc]
   exact h3⟩
theorem change_w (hw:Mem w0 (stY a t++L) w) (hmk:marks L=[]) (hI:WF n N t.plain) (hN:N≤100000) (e:Ev) (hb:0≤e.bike∧e.bike<n) (wh:Spn):
  Calls Tryz.prog 155 #[.pointer (some ⟨a.sb,0,none⟩), .agg e.cells.toArray, .agg wh.cells.toArray] w fun r w'=> ∃y:YOut a (changeY t.plain e wh),r= .returned (.tuple #[])∧Mem w0 (stY y.1.1 y.1.2++L) w':=by
 obtain ⟨hpl,hrl,hsl,hxl⟩:=len_of hI
 obtain ⟨k,hk⟩: ∃k:Nat,e.bike=k:=⟨e.bike.toNat,by omega⟩
 have hkn:k<n:=by omega
 obtain ⟨sp,hsp⟩: ∃sp,t.spots[k]?=some sp:=⟨_,List.getElem?_eq_getElem (by omega)⟩
 have hspd:t.plain.spots.getD e.bike.toNat default=sp:=by rw [hk];exact getD_of hsp
 have hlk:=rmV_look t.byID e.ride
 have hids:=hI.ids e.ride
 obtain ⟨ed,es,eat,el,ekind,ebike,epl,erd,erid⟩:=e
 simp only at hk hspd hlk hids
 subst hk
 cases hr:rget t.byID erid with
 |none=>
  rw [hr] at hlk
  refine H_enterM hw hmk Tryz.func155 rfl Tryz.ntmps155 rfl ?_
  iterate 2 refine G ?_
  refine X_box (v:= .agg _) rfl rfl fun b4=>?_
  refine X_box (v:= .agg _) rfl rfl fun b5=>?_
  iterate 3 refine G ?_
  refine R1 rfl (by decide+kernel) ?_
  iterate 6 refine G ?_
  refine xV (e_lookok 8 (u:= .int .i64 0) (bb:=false) Tryz.underlying156 Tryz.underlying3 Tryz.zeroValue3 (q0 rfl) (q0 rfl) rfl (fun _=>by rw [hlk];exact ⟨rfl,rfl⟩)) rfl rfl ?_
  iterate 14 refine G ?_
  refine H_cond rfl ?_ ?_<;>intro h1
  ·iterate 2 refine G ?_
   exact ret0 rfl hmk fun w' hw=>⟨⟨(a,t),rfl,by unfold changeY;rw [show rget t.plain.byID erid=none from hr]⟩,rfl,hw.tail.tail⟩
  ·cases h1
 |some kk=>
  rw [hr] at hlk
  obtain ⟨hk0,hk1⟩:=hids kk hr
  obtain ⟨q,rfl⟩: ∃q:Nat,kk=q:=⟨kk.toNat,by omega⟩
  have hq:q<t.xs.length:=by simpa [TY.plain] using hk1
  obtain ⟨x,hx⟩: ∃x,t.xs[q]?=some x:=⟨_,List.getElem?_eq_getElem hq⟩
  have hlo:=leg_of hI hx
  have hxd:=plain_getD hx
  have hop:=fun (X:List E.Item) (w:World) (h:Mem w0 (stY a t++X) w)=>openK h hx
  have hcl:=fun (z:RX) (gs:List Int) (ss:List Sp) (w:World)=>closeK (a:=a) (t:=t) (w0:=w0) (w:=w) (L:=L) (m:=t.byID) (gs:=gs) (ps:=t.paused) (ss:=ss) (k:=q) z hq
  refine H_enterM hw hmk Tryz.func155 rfl Tryz.ntmps155 rfl ?_
  iterate 2 refine G ?_
  refine X_box (v:= .agg _) rfl rfl fun b4=>?_
  refine X_box (v:= .agg _) rfl rfl fun b5=>?_
  iterate 3 refine G ?_
  refine R1 rfl (by decide+kernel) ?_
  iterate 6 refine G ?_
  refine xV (e_lookok 8 (u:= .int .i64 q) (bb:=true) Tryz.underlying156 Tryz.underlying3 Tryz.zeroValue3 (q0 rfl) (q0 rfl) rfl (fun _=>by rw [hlk];exact ⟨rfl,rfl⟩)) rfl rfl ?_
  iterate 14 refine G ?_
  refine H_cond rfl ?_ ?_<;>intro h1
  ·cases h1
  ·have _ht:True:=trivial
   iterate 3 refine G ?_
   refine H_mem (fun w hw=>hop _ w (Mem.rot (X:=[_,_]) (S:=stY a t) hw)) rfl ?_
   refine H_know (fun w hw=>rowT_at (j:=0) hw rfl (by omega)) fun ⟨rb,hrb⟩=>?_
   refine H_know (fun w hw=>rowT_at (j:=2) hw rfl hlo.1) fun ⟨lb,hlb⟩=>?_
   obtain ⟨asb,arA,arc,am,ag,agc,apA,apc,as_,asc⟩:=a
   obtain ⟨xr,⟨lA,lc,pA,pc⟩⟩:=x
   simp only at hrb hlb hlo
   subst hrb
   subst hlb
   obtain ⟨g,hg⟩: ∃g,xr.legs[xr.legs.length -1]?=some g:=⟨_,List.getElem?_eq_getElem (by omega)⟩
   have hgb:=hlo.2.2.2 g (List.mem_of_getElem? hg)
   obtain ⟨gb,gf,gt⟩:=g
   simp only at hgb
   obtain ⟨j,rfl⟩: ∃j:Nat,gb=j:=⟨gb.toNat,by omega⟩
   have hjn:j<n:=by omega
   obtain ⟨vj,hvj⟩: ∃v,t.riding[j]?=some v:=⟨_,List.getElem?_eq_getElem (by omega)⟩
   obtain ⟨vk,hvk⟩: ∃v,(t.riding.set j (-1))[k]?=some v:=⟨_,List.getElem?_eq_getElem (by simp;omega)⟩
   obtain ⟨sj,hsj⟩: ∃s,t.spots[j]?=some s:=⟨_,List.getElem?_eq_getElem (by omega)⟩
   iterate 6 refine G ?_
   refine xV (e_idx q Tryz.underlying135 Tryz.sizeOf191 (q0 rfl) (q0 rfl) (fun _=>⟨rfl,hq⟩)) rfl rfl ?_
   refine G ?_
   refine xV (e_ld (v:= .slice (some ⟨lb,0,none⟩) xr.legs.length lc) Tryz.isAgg188 (q0 rfl) (by exact rr 0 (r:=7) rfl hx rfl)) rfl rfl ?_
   iterate 7 refine G ?_
   refine xV (e_sub (r:=((xr.legs.length -1:Nat):Int)) (q0 rfl) (q0 rfl) (fun _=>⟨by omega,by omega,by omega⟩)) rfl rfl ?_
   iterate 8 refine G ?_
   refine xV (e_idx (xr.legs.length -1) Tryz.underlying188 Tryz.sizeOf276 (q0 rfl) (q0 rfl) (fun _=>⟨rfl,by omega⟩)) rfl rfl ?_
   refine G ?_
   refine X_eff (f_storeR 2 (i:=xr.legs.length -1) (off:=3) ⟨j,gf,wh⟩ rfl rfl Tryz.sizeOf187 rfl rfl rfl hg rfl rfl ?_)
   iterate 6 refine G ?_
   refine xV (e_idx (xr.legs.length -1) Tryz.underlying188 Tryz.sizeOf276 (q0 rfl) (q0 rfl) (fun _=>⟨rfl,by omega⟩)) rfl rfl ?_
   refine G ?_
   refine xV (e_ld (v:= .int .i64 j) Tryz.isAgg3 (q0 rfl) (by exact rr 2 (r:=0) rfl (set_self hg) rfl)) rfl rfl ?_
   iterate 4 refine G ?_
   refine RAd 3 rfl (by decide+kernel) ?_
   refine aW 0 ?_
   refine aW 1 ?_
   refine aW 2 ?_
   refine aW 3 ?_
   refine aW 4 ?_
   refine aW 5 ?_
   refine aW 6 ?_
   refine aW 7 ?_
   refine aW 8 ?_
   refine aV 9 (by decide+kernel) rfl (e_build Tryz.underlying276 fl276 Tryz.zeroValue276 (pt (v:= .int _ _) rfl (pt (v:= .agg _) rfl E.p0)) rfl) rfl ?_
   refine r1 10 3 ?_
   refine aL rfl (f_slit [(.int .i64 0),(.int .i64 0),(.int .i64 0),(.int .i64 0),(.int .i64 0)] Tryz.underlying188 Tryz.sizeOf276 Tryz.zeroValue276 rfl (by kernel_rfl) (pt (v:= .agg _) rfl E.p0) rfl rfl fun b54=>?_)
   refine r1 11 4 ?_
   refine aL rfl (f_append (k:=5) (i:=Tryz.t276) (enc:=Lg.cells) (xs:=xr.legs.set (xr.legs.length -1) ⟨j,gf,wh⟩) 3 Tryz.underlying188 (by kernel_rfl) rfl rfl rfl rfl (fun _=>rfl) (fun _=>rfl) (by rw [List.length_set];rfl) rfl rfl (fun w hw=>slAt_box (enc:=Lg.cells) (xs:=[⟨k,wh,zSpn⟩]) hw (j:=0) rfl (fun _=>rfl) (by simp)) ⟨by simp;omega,by decide⟩ rfl fun A1 c1=>?_)
   refine aV 12 (by decide+kernel) rfl (e_idx q Tryz.underlying135 Tryz.sizeOf191 (q0 rfl) (q0 rfl) (fun _=>⟨rfl,hq⟩)) rfl ?_
   refine aW 13 ?_
   refine r1 14 4 ?_
   refine aL rfl (f_storeR 1 (i:=q) (off:=7) ⟨{xr with legs:=xr.legs.set (xr.legs.length -1) ⟨j,gf,wh⟩++[⟨k,wh,zSpn⟩]},⟨A1,c1,pA,pc⟩⟩ rfl rfl Tryz.sizeOf188 rfl rfl rfl hx rfl rfl ?_)
   refine aZ (by decide+kernel) (sub_drop 4) ?_
   iterate 2 refine G ?_
   refine H_mem (fun w hw=>hw.tail) rfl ?_
   refine RAd 5 rfl (by decide+kernel) ?_
   refine aW 0 ?_
   refine aW 1 ?_
   refine aW 2 ?_
   refine aW 3 ?_
   refine aW 4 ?_
   refine aW 5 ?_
   refine aW 6 ?_
   refine aW 7 ?_
   refine aW 8 ?_
   refine aW 9 ?_
   refine aW 10 ?_
   refine aW 11 ?_
   refine aV 12 (by decide+kernel) rfl (e_idx j Tryz.underlying22 Tryz.sizeOf3 (q0 rfl) (q0 rfl) (fun _=>⟨rfl,by omega⟩)) rfl ?_
   refine r1 13 5 ?_
   refine aL rfl (f_storeR0 4 (k:=1) (enc:=encInt) (-1) rfl rfl Tryz.sizeOf3 rfl rfl rfl hvj rfl rfl ?_)
   refine aV 14 (by decide+kernel) rfl (e_idx k Tryz.underlying22 Tryz.sizeOf3 (q0 rfl) (q0 rfl) (fun _=>⟨rfl,by omega⟩)) rfl ?_
   refine r1 15 5 ?_
   refine aL rfl (f_storeR0 4 (k:=1) (enc:=encInt) (q:Int) rfl rfl Tryz.sizeOf3 rfl rfl rfl hvk rfl rfl ?_)
   refine aZ (by decide+kernel) (sub_drop 5) ?_
   refine G ?_
   refine E.RT rfl rfl (by decide+kernel) ?_
   iterate 11 refine G ?_
   refine xV (e_idx k Tryz.underlying181 Tryz.sizeOf252 (q0 rfl) (q0 rfl) (fun _=>⟨rfl,by omega⟩)) rfl rfl ?_
   refine xV (e_lds (vs:=sp.cells) Tryz.isAgg252 Tryz.sizeOf252 (q0 rfl) (rrs 5 rfl hsp) rfl) rfl rfl ?_
   refine xV (e_idx j Tryz.underlying181 Tryz.sizeOf252 (q0 rfl) (q0 rfl) (fun _=>⟨rfl,by omega⟩)) rfl rfl ?_
   iterate 2 refine G ?_
   refine X_eff (f_storeR0 5 sp rfl rfl Tryz.sizeOf252 rfl rfl rfl hsj rfl rfl ?_)
   refine G ?_
   exact end0 rfl hmk fun w' hw=>⟨⟨(_,_),rfl,by
    have hlast:xr.legs.getD (xr.legs.length -1) default=⟨j,gf,gt⟩:=getD_of hg
    unfold changeY
    rw [show rget t.plain.byID erid=some (q:Int) from hr]
    unfold TY.plain at hspd⊢
    simp only [Int.toNat_natCast] at hspd⊢
    rw [hxd,hspd,map_setR]
    simp only [swapR,endLeg,lastBike,hlast,Int.toNat_natCast]⟩,rfl,hcl ⟨{xr with legs:=xr.legs.set (xr.legs.length -1) ⟨j,gf,wh⟩++[⟨k,wh,zSpn⟩]},⟨A1,c1,pA,pc⟩⟩ _ _ w' (by simp) rfl (by simp) (hw.pickN 11 [0,1,2,3,4,5,6,7,8] (by decide) (by decide))⟩
end
end Go.Proofs.Rid
