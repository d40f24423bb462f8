import Derived.Test.YtakhechhnnjbcaaGreatBN07
import Derived.Test.YtakhechhnnjbcaaGreatBN19
import Derived.Test.YtakhechhnnjbcaaGreatBN23
import Derived.Test.YtakhechhnnjbcaaGreatBN04
import Derived.Test.YtakhechhnnjbcaaGreatTy
set_option maxRecDepth 100000
set_option maxHeartbeats 8000000
set_option linter.unusedVariables false
set_option linter.unusedSimpArgs false
namespace Go.Proofs.Hom
open Go Go.RowKit Go.Proofs.E Go.Proofs.Cus Go.Proofs.Far
theorem cloneI_w (A:Option Addr) (n c:Nat) (xs:List Int) (w:World) (hx:IntsAt w A n xs) (hn:n≤100000):Calls Tryz.prog 75 #[.slice A n c] w fun e w'=> ∃s:Sl,e= .returned s.v∧Mem w [] w':=by
 have hl:=hx.1
 refine H_enter Tryz.func75 rfl Tryz.ntmps75 rfl ?_
 iterate 9 refine G ?_
 refine xV (e_eqNilS Tryz.underlying22 (q0 rfl)) rfl rfl ?_
 iterate 2 refine G ?_
 refine H_cond rfl ?_ ?_<;>intro h1
 ·iterate 7 refine G ?_
  exact ret1 (v:= .slice _ _ _) rfl rfl rfl fun w' hw=>⟨⟨none,0,0⟩,rfl,mem_nil.2 hw.1⟩
 ·iterate 4 refine G ?_
  refine X_eff (f_slit0 encInt Tryz.underlying22 Tryz.sizeOf3 rfl fun A1 c1=>?_)
  refine G ?_
  refine X_append (f_append (k:=1) (i:=Tryz.t3) (enc:=encInt) 0 Tryz.underlying22 (by kernel_rfl) rfl rfl rfl rfl (fun _=>rfl) (fun _=>rfl) rfl rfl rfl (fun w hw=>hx.mem hw) ⟨by simp;omega,by decide⟩ rfl fun A2 c2=>?_)
  iterate 4 refine G ?_
  exact ret1 (v:= .slice _ _ _) rfl rfl rfl fun w' hw=>⟨⟨A2,([]++xs).length,c2⟩,rfl,mem_nil.2 hw.1⟩
theorem cloneT_w (A:Option Addr) (n c:Nat) (xs:List Tf) (w:World) (hx:TfsAt w A n xs) (hn:n≤100000):Calls Tryz.prog 76 #[.slice A n c] w fun e w'=> ∃s:Sl,e= .returned s.v∧Mem w [] w':=by
 have hl:=hx.1
 refine H_enter Tryz.func76 rfl Tryz.ntmps76 rfl ?_
 iterate 9 refine G ?_
 refine xV (e_eqNilS Tryz.underlying25 (q0 rfl)) rfl rfl ?_
 iterate 2 refine G ?_
 refine H_cond rfl ?_ ?_<;>intro h1
 ·iterate 7 refine G ?_
  exact ret1 (v:= .slice _ _ _) rfl rfl rfl fun w' hw=>⟨⟨none,0,0⟩,rfl,mem_nil.2 hw.1⟩
 ·iterate 4 refine G ?_
  refine X_eff (f_slit0 Tf.cells Tryz.underlying25 Tryz.sizeOf144 rfl fun A1 c1=>?_)
  refine G ?_
  refine X_append (f_append (k:=6) (i:=Tryz.t144) (enc:=Tf.cells) 0 Tryz.underlying25 (by kernel_rfl) rfl rfl rfl rfl (fun _=>rfl) (fun _=>rfl) rfl rfl rfl (fun w hw=>hx.mem hw) ⟨by simp;omega,by decide⟩ rfl fun A2 c2=>?_)
  iterate 4 refine G ?_
  exact ret1 (v:= .slice _ _ _) rfl rfl rfl fun w' hw=>⟨⟨A2,([]++xs).length,c2⟩,rfl,mem_nil.2 hw.1⟩
theorem cloneP_w (A:Option Addr) (n c:Nat) (xs:List Pas) (w:World) (hx:PassAt w A n xs) (hn:n≤100000):Calls Tryz.prog 77 #[.slice A n c] w fun e w'=> ∃s:Sl,e= .returned s.v∧Mem w [] w':=by
 have hl:=hx.1
 refine H_enter Tryz.func77 rfl Tryz.ntmps77 rfl ?_
 iterate 9 refine G ?_
 refine xV (e_eqNilS Tryz.underlying26 (q0 rfl)) rfl rfl ?_
 iterate 2 refine G ?_
 refine H_cond rfl ?_ ?_<;>intro h1
 ·iterate 7 refine G ?_
  exact ret1 (v:= .slice _ _ _) rfl rfl rfl fun w' hw=>⟨⟨none,0,0⟩,rfl,mem_nil.2 hw.1⟩
 ·iterate 4 refine G ?_
  refine X_eff (f_slit0 Pas.cells Tryz.underlying26 Tryz.sizeOf155 rfl fun A1 c1=>?_)
  refine G ?_
  refine X_append (f_append (k:=6) (i:=Tryz.t155) (enc:=Pas.cells) 0 Tryz.underlying26 (by kernel_rfl) rfl rfl rfl rfl (fun _=>rfl) (fun _=>rfl) rfl rfl rfl (fun w hw=>hx.mem hw) ⟨by simp;omega,by decide⟩ rfl fun A2 c2=>?_)
  iterate 4 refine G ?_
  exact ret1 (v:= .slice _ _ _) rfl rfl rfl fun w' hw=>⟨⟨A2,([]++xs).length,c2⟩,rfl,mem_nil.2 hw.1⟩
theorem ownFleet_w (f:Fl) (fa:FA) (w:World) (hf:FlAt w f fa) (hn:fa.dn≤100000) (hm:fa.tn≤100000):Calls Tryz.prog 36 #[.agg (f.cells fa).toArray] w fun e w'=> ∃x:Sl×Sl,e= .returned (.agg #[.int .i64 f.bikes, .int .i64 f.riders, .int .i64 f.devices,x.1.v,x.2.v])∧Mem w [] w':=by
 refine H_enter Tryz.func36 rfl Tryz.ntmps36 rfl ?_
 iterate 2 refine G ?_
 refine X_box (v:= .agg _) rfl rfl fun b1=>?_
 refine X_alloc Tryz.zeroValue24 rfl fun b2=>?_
 iterate 3 refine G ?_
 refine H_cut [3,4,5,6,7,8,9,10] (fun x:Sl×Sl=>[]) (fun x=>[box b2 24 [.int .i64 0, .int .i64 0, .int .i64 0, .slice none 0 0, .slice none 0 0],box b1 24 [.int .i64 f.bikes, .int .i64 f.riders, .int .i64 f.devices,x.1.v,x.2.v]]) (fun _=>True) ?_ ?_
 ·refine H_invP [3,4,5,6,7,8,9,10] (fun d v=>match d with
     |3|9=>v= .pointer (some ⟨b1,3,none⟩)
     |4=>v=Sl.v ⟨fa.dA,fa.dn,fa.dc⟩
     |5=> ∃s:Sl,v=s.v
     |6|10=>v= .pointer (some ⟨b1,4,none⟩)
     |7=>v=Sl.v ⟨fa.tA,fa.tn,fa.tc⟩
     |8=> ∃s:Sl,v=s.v
     |_=>True) (fun S L=> ∃s0 s1:Sl,(¬S 7→s0=⟨fa.dA,fa.dn,fa.dc⟩)∧(¬S 9→s1=⟨fa.tA,fa.tn,fa.tc⟩)∧L=[box b2 24 [.int .i64 0, .int .i64 0, .int .i64 0, .slice none 0 0, .slice none 0 0],box b1 24 [.int .i64 f.bikes, .int .i64 f.riders, .int .i64 f.devices,s0.v,s1.v]]) rfl rfl ?_ ?_ ?_
  ·exact fun S hS=>⟨⟨fa.dA,fa.dn,fa.dc⟩,⟨fa.tA,fa.tn,fa.tc⟩,fun _=>rfl,fun _=>rfl,rfl⟩
  ·rintro S L fr i o hA hF ⟨s0,s1,e0,e1,rfl⟩ hi hno hw hc
   have hpt:fr 1= .pointer (some ⟨b1,0,none⟩):=hA 1 rfl
   match i,hi with
   |0,hi=>cases hi;exact f_ev (e_fld Tryz.underlying24 rfl Tryz.sizeOf22 rfl (q0 hpt)) rfl rfl ⟨⟨s0,s1,fun h=>e0 fun h'=>h (.inl h'),fun h=>e1 fun h'=>h (.inl h'),rfl⟩,_,rfl,fun d h=>by cases h;rfl⟩
   |1,hi=>
    cases hi
    have hx:fr 3= .pointer (some ⟨b1,3,none⟩):=hF 0 _ _ rfl (hw 0 rfl) rfl
    have n1: ¬S 7:=fun h=>hno (hc 2 1 rfl (hc 7 2 rfl h))
    obtain rfl:=e0 n1
    exact f_ev (e_ld (v:=Sl.v ⟨fa.dA,fa.dn,fa.dc⟩) Tryz.isAgg22 (q0 hx) (fun _ w hw=>box_cell hw (k:=1) rfl rfl)) rfl rfl ⟨⟨⟨fa.dA,fa.dn,fa.dc⟩,s1,fun _=>rfl,fun h=>e1 fun h'=>h (.inl h'),rfl⟩,_,rfl,fun d h=>by cases h;rfl⟩
   |2,hi=>
    cases hi
    have hx:fr 4=Sl.v ⟨fa.dA,fa.dn,fa.dc⟩:=hF 1 _ _ rfl (hw 1 rfl) rfl
    exact f_callx (en Tryz.call75 (ha1 (q0 hx))) (fun w hw=>cloneI_w fa.dA fa.dn fa.dc f.docks w (hf.docks.mem hw) hn) rfl (fun _=>rfl) fun s=>⟨⟨s0,s1,fun h=>e0 fun h'=>h (.inl h'),fun h=>e1 fun h'=>h (.inl h'),rfl⟩,_,rfl,fun d h=>by cases h;exact ⟨s,rfl⟩⟩
   |3,hi=>cases hi;exact f_ev (e_fld Tryz.underlying24 rfl Tryz.sizeOf22 rfl (q0 hpt)) rfl rfl ⟨⟨s0,s1,fun h=>e0 fun h'=>h (.inl h'),fun h=>e1 fun h'=>h (.inl h'),rfl⟩,_,rfl,fun d h=>by cases h;rfl⟩
   |4,hi=>
    cases hi
    have hx:fr 6= .pointer (some ⟨b1,4,none⟩):=hF 3 _ _ rfl (hw 3 rfl) rfl
    have n1: ¬S 9:=fun h=>hno (hc 5 4 rfl (hc 9 5 rfl h))
    obtain rfl:=e1 n1
    exact f_ev (e_ld (v:=Sl.v ⟨fa.tA,fa.tn,fa.tc⟩) Tryz.isAgg22 (q0 hx) (fun _ w hw=>box_cell hw (k:=1) rfl rfl)) rfl rfl ⟨⟨s0,⟨fa.tA,fa.tn,fa.tc⟩,fun h=>e0 fun h'=>h (.inl h'),fun _=>rfl,rfl⟩,_,rfl,fun d h=>by cases h;rfl⟩
   |5,hi=>
    cases hi
    have hx:fr 7=Sl.v ⟨fa.tA,fa.tn,fa.tc⟩:=hF 4 _ _ rfl (hw 4 rfl) rfl
    exact f_callx (en Tryz.call75 (ha1 (q0 hx))) (fun w hw=>cloneI_w fa.tA fa.tn fa.tc f.trucks w (hf.trucks.mem hw) hm) rfl (fun _=>rfl) fun s=>⟨⟨s0,s1,fun h=>e0 fun h'=>h (.inl h'),fun h=>e1 fun h'=>h (.inl h'),rfl⟩,_,rfl,fun d h=>by cases h;exact ⟨s,rfl⟩⟩
   |6,hi=>cases hi;exact f_ev (e_fld Tryz.underlying24 rfl Tryz.sizeOf22 rfl (q0 hpt)) rfl rfl ⟨⟨s0,s1,fun h=>e0 fun h'=>h (.inl h'),fun h=>e1 fun h'=>h (.inl h'),rfl⟩,_,rfl,fun d h=>by cases h;rfl⟩
   |7,hi=>
    cases hi
    obtain ⟨z,hz⟩: ∃s:Sl,fr 5=s.v:=hF 2 _ _ rfl (hw 2 rfl) rfl
    have hx:fr 9= .pointer (some ⟨b1,3,none⟩):=hF 6 _ _ rfl (hw 6 rfl) rfl
    exact f_store 1 (v:=z.v) hx hz Tryz.sizeOf22 rfl rfl rfl rfl ⟨⟨z,s1,fun h=>absurd (.inr rfl) h,fun h=>e1 fun h'=>h (.inl h'),rfl⟩,undef,rfl,fun d h=>by cases h⟩
   |8,hi=>cases hi;exact f_ev (e_fld Tryz.underlying24 rfl Tryz.sizeOf22 rfl (q0 hpt)) rfl rfl ⟨⟨s0,s1,fun h=>e0 fun h'=>h (.inl h'),fun h=>e1 fun h'=>h (.inl h'),rfl⟩,_,rfl,fun d h=>by cases h;rfl⟩
   |9,hi=>
    cases hi
    obtain ⟨z,hz⟩: ∃s:Sl,fr 8=s.v:=hF 5 _ _ rfl (hw 5 rfl) rfl
    have hx:fr 10= .pointer (some ⟨b1,4,none⟩):=hF 8 _ _ rfl (hw 8 rfl) rfl
    exact f_store 1 (v:=z.v) hx hz Tryz.sizeOf22 rfl rfl rfl rfl ⟨⟨s0,z,fun h=>e0 fun h'=>h (.inl h'),fun h=>absurd (.inr rfl) h,rfl⟩,undef,rfl,fun d h=>by cases h⟩
   |n+10,hi=>simp at hi
  ·rintro S L fr hS hA hF ⟨s0,s1,e0,e1,rfl⟩
   exact cutJ_normal ((s0,s1):Sl×Sl) hA trivial (fun w hw=>hw) rfl trivial
 ·rintro x g _
  iterate 4 refine G ?_
  refine X_st (v:= .agg _) rfl rfl Tryz.sizeOf24 ?_
  iterate 3 refine G ?_
  exact end_of rfl (resC rfl rfl Tryz.isAgg24 Tryz.sizeOf24) fun w' hw=>⟨x,rfl,mem_nil.2 hw.1⟩
structure PrN (a:PrA):Prop where
 t:a.t.n≤100000
 p:a.p.n≤100000
 pl:a.pl.n≤100000
 d:a.d.n≤100000
 f:a.f.n≤100000
theorem ownPrices_w (p:Pr) (a:PrA) (w:World) (hp:PrAt w p a) (hn:PrN a):Calls Tryz.prog 37 #[.agg (p.cells a).toArray] w fun e w'=> ∃x:PrA,e= .returned (.agg (p.cells x).toArray)∧Mem w [] w':=by
 refine H_enter Tryz.func37 rfl Tryz.ntmps37 rfl ?_
 iterate 2 refine G ?_
 refine X_box (v:= .agg _) rfl rfl fun b1=>?_
 refine X_alloc Tryz.zeroValue28 rfl fun b2=>?_
 iterate 3 refine G ?_
 refine H_cut [3,4,5,6,7,8,9,10] (fun x:Sl×Sl=>[]) (fun x=>[box b2 28 [.slice none 0 0, .slice none 0 0, .slice none 0 0, .slice none 0 0, .int .i64 0, .slice none 0 0, .int .i64 0],box b1 28 [x.1.v,x.2.v,a.pl.v,a.d.v, .int .i64 p.cap,a.f.v, .int .i64 p.days]]) (fun _=>True) ?_ ?_
 ·refine H_invP [3,4,5,6,7,8,9,10] (fun d v=>match d with
     |3|9=>v= .pointer (some ⟨b1,0,none⟩)
     |4=>v=Sl.v a.t
     |5=> ∃s:Sl,v=s.v
     |6|10=>v= .pointer (some ⟨b1,1,none⟩)
     |7=>v=Sl.v a.p
     |8=> ∃s:Sl,v=s.v
     |_=>True) (fun S L=> ∃s0 s1:Sl,(¬S 7→s0=a.t)∧(¬S 9→s1=a.p)∧L=[box b2 28 [.slice none 0 0, .slice none 0 0, .slice none 0 0, .slice none 0 0, .int .i64 0, .slice none 0 0, .int .i64 0],box b1 28 [s0.v,s1.v,a.pl.v,a.d.v, .int .i64 p.cap,a.f.v, .int .i64 p.days]]) rfl rfl ?_ ?_ ?_
  ·exact fun S hS=>⟨a.t,a.p,fun _=>rfl,fun _=>rfl,rfl⟩
  ·rintro S L fr i o hA hF ⟨s0,s1,e0,e1,rfl⟩ hi hno hw hc
   have hpt:fr 1= .pointer (some ⟨b1,0,none⟩):=hA 1 rfl
   match i,hi with
   |0,hi=>cases hi;exact f_ev (e_fld Tryz.underlying28 rfl Tryz.sizeOf25 rfl (q0 hpt)) rfl rfl ⟨⟨s0,s1,fun h=>e0 fun h'=>h (.inl h'),fun h=>e1 fun h'=>h (.inl h'),rfl⟩,_,rfl,fun d h=>by cases h;rfl⟩
   |1,hi=>
    cases hi
    have hx:fr 3= .pointer (some ⟨b1,0,none⟩):=hF 0 _ _ rfl (hw 0 rfl) rfl
    have n1: ¬S 7:=fun h=>hno (hc 2 1 rfl (hc 7 2 rfl h))
    obtain rfl:=e0 n1
    exact f_ev (e_ld (v:=Sl.v a.t) Tryz.isAgg25 (q0 hx) (fun _ w hw=>box_cell hw (k:=1) rfl rfl)) rfl rfl ⟨⟨a.t,s1,fun _=>rfl,fun h=>e1 fun h'=>h (.inl h'),rfl⟩,_,rfl,fun d h=>by cases h;rfl⟩
   |2,hi=>
    cases hi
    have hx:fr 4=Sl.v a.t:=hF 1 _ _ rfl (hw 1 rfl) rfl
    exact f_callx (en Tryz.call76 (ha1 (q0 hx))) (fun w hw=>cloneT_w a.t.A a.t.n a.t.c p.tariffs w (hp.tf.mem hw) hn.t) rfl (fun _=>rfl) fun s=>⟨⟨s0,s1,fun h=>e0 fun h'=>h (.inl h'),fun h=>e1 fun h'=>h (.inl h'),rfl⟩,_,rfl,fun d h=>by cases h;exact ⟨s,rfl⟩⟩
   |3,hi=>cases hi;exact f_ev (e_fld Tryz.underlying28 rfl Tryz.sizeOf26 rfl (q0 hpt)) rfl rfl ⟨⟨s0,s1,fun h=>e0 fun h'=>h (.inl h'),fun h=>e1 fun h'=>h (.inl h'),rfl⟩,_,rfl,fun d h=>by cases h;rfl⟩
   |4,hi=>
    cases hi
    have hx:fr 6= .pointer (some ⟨b1,1,none⟩):=hF 3 _ _ rfl (hw 3 rfl) rfl
    have n1: ¬S 9:=fun h=>hno (hc 5 4 rfl (hc 9 5 rfl h))
    obtain rfl:=e1 n1
    exact f_ev (e_ld (v:=Sl.v a.p) Tryz.isAgg26 (q0 hx) (fun _ w hw=>box_cell hw (k:=1) rfl rfl)) rfl rfl ⟨⟨s0,a.p,fun h=>e0 fun h'=>h (.inl h'),fun _=>rfl,rfl⟩,_,rfl,fun d h=>by cases h;rfl⟩
   |5,hi=>
    cases hi
    have hx:fr 7=Sl.v a.p:=hF 4 _ _ rfl (hw 4 rfl) rfl
    exact f_callx (en Tryz.call77 (ha1 (q0 hx))) (fun w hw=>cloneP_w a.p.A a.p.n a.p.c p.passes w (hp.ps.mem hw) hn.p) rfl (fun _=>rfl) fun s=>⟨⟨s0,s1,fun h=>e0 fun h'=>h (.inl h'),fun h=>e1 fun h'=>h (.inl h'),rfl⟩,_,rfl,fun d h=>by cases h;exact ⟨s,rfl⟩⟩
   |6,hi=>cases hi;exact f_ev (e_fld Tryz.underlying28 rfl Tryz.sizeOf25 rfl (q0 hpt)) rfl rfl ⟨⟨s0,s1,fun h=>e0 fun h'=>h (.inl h'),fun h=>e1 fun h'=>h (.inl h'),rfl⟩,_,rfl,fun d h=>by cases h;rfl⟩
   |7,hi=>
    cases hi
    obtain ⟨z,hz⟩: ∃s:Sl,fr 5=s.v:=hF 2 _ _ rfl (hw 2 rfl) rfl
    have hx:fr 9= .pointer (some ⟨b1,0,none⟩):=hF 6 _ _ rfl (hw 6 rfl) rfl
    exact f_store 1 (v:=z.v) hx hz Tryz.sizeOf25 rfl rfl rfl rfl ⟨⟨z,s1,fun h=>absurd (.inr rfl) h,fun h=>e1 fun h'=>h (.inl h'),rfl⟩,undef,rfl,fun d h=>by cases h⟩
   |8,hi=>cases hi;exact f_ev (e_fld Tryz.underlying28 rfl Tryz.sizeOf26 rfl (q0 hpt)) rfl rfl ⟨⟨s0,s1,fun h=>e0 fun h'=>h (.inl h'),fun h=>e1 fun h'=>h (.inl h'),rfl⟩,_,rfl,fun d h=>by cases h;rfl⟩
   |9,hi=>
    cases hi
    obtain ⟨z,hz⟩: ∃s:Sl,fr 8=s.v:=hF 5 _ _ rfl (hw 5 rfl) rfl
    have hx:fr 10= .pointer (some ⟨b1,1,none⟩):=hF 8 _ _ rfl (hw 8 rfl) rfl
    exact f_store 1 (v:=z.v) hx hz Tryz.sizeOf26 rfl rfl rfl rfl ⟨⟨s0,z,fun h=>e0 fun h'=>h (.inl h'),fun h=>absurd (.inr rfl) h,rfl⟩,undef,rfl,fun d h=>by cases h⟩
   |n+10,hi=>simp at hi
  ·rintro S L fr hS hA hF ⟨s0,s1,e0,e1,rfl⟩
   exact cutJ_normal ((s0,s1):Sl×Sl) hA trivial (fun w hw=>hw) rfl trivial
 ·rintro ⟨xt,xp⟩ g _
  iterate 2 refine G ?_
  refine H_cut [11,12,13,14,15,16,17,18,19,20,21,22] (fun x:Sl×Sl×Sl=>[]) (fun x=>[box b2 28 [.slice none 0 0, .slice none 0 0, .slice none 0 0, .slice none 0 0, .int .i64 0, .slice none 0 0, .int .i64 0],box b1 28 [xt.v,xp.v,x.1.v,x.2.1.v, .int .i64 p.cap,x.2.2.v, .int .i64 p.days]]) (fun _=>True) ?_ ?_
  ·refine H_invP [11,12,13,14,15,16,17,18,19,20,21,22] (fun d v=>match d with
      |11|20=>v= .pointer (some ⟨b1,2,none⟩)
      |12=>v=Sl.v a.pl
      |13=> ∃s:Sl,v=s.v
      |14|21=>v= .pointer (some ⟨b1,3,none⟩)
      |15=>v=Sl.v a.d
      |16=> ∃s:Sl,v=s.v
      |17|22=>v= .pointer (some ⟨b1,5,none⟩)
      |18=>v=Sl.v a.f
      |19=> ∃s:Sl,v=s.v
      |_=>True) (fun S L=> ∃s0 s1 s2:Sl,(¬S 10→s0=a.pl)∧(¬S 12→s1=a.d)∧(¬S 14→s2=a.f)∧L=[box b2 28 [.slice none 0 0, .slice none 0 0, .slice none 0 0, .slice none 0 0, .int .i64 0, .slice none 0 0, .int .i64 0],box b1 28 [xt.v,xp.v,s0.v,s1.v, .int .i64 p.cap,s2.v, .int .i64 p.days]]) rfl rfl ?_ ?_ ?_
   ·exact fun S hS=>⟨a.pl,a.d,a.f,fun _=>rfl,fun _=>rfl,fun _=>rfl,rfl⟩
   ·rintro S L fr i o hA hF ⟨s0,s1,s2,e0,e1,e2,rfl⟩ hi hno hw hc
    have hpt:fr 1= .pointer (some ⟨b1,0,none⟩):=hA 1 rfl
    match i,hi with
    |0,hi=>cases hi;exact f_ev (e_fld Tryz.underlying28 rfl Tryz.sizeOf22 rfl (q0 hpt)) rfl rfl ⟨⟨s0,s1,s2,fun h=>e0 fun h'=>h (.inl h'),fun h=>e1 fun h'=>h (.inl h'),fun h=>e2 fun h'=>h (.inl h'),rfl⟩,_,rfl,fun d h=>by cases h;rfl⟩
    |1,hi=>
     cases hi
     have hx:fr 11= .pointer (some ⟨b1,2,none⟩):=hF 0 _ _ rfl (hw 0 rfl) rfl
     have n1: ¬S 10:=fun h=>hno (hc 2 1 rfl (hc 10 2 rfl h))
     obtain rfl:=e0 n1
     exact f_ev (e_ld (v:=Sl.v a.pl) Tryz.isAgg22 (q0 hx) (fun _ w hw=>box_cell hw (k:=1) rfl rfl)) rfl rfl ⟨⟨a.pl,s1,s2,fun _=>rfl,fun h=>e1 fun h'=>h (.inl h'),fun h=>e2 fun h'=>h (.inl h'),rfl⟩,_,rfl,fun d h=>by cases h;rfl⟩
    |2,hi=>
     cases hi
     have hx:fr 12=Sl.v a.pl:=hF 1 _ _ rfl (hw 1 rfl) rfl
     exact f_callx (en Tryz.call75 (ha1 (q0 hx))) (fun w hw=>cloneI_w a.pl.A a.pl.n a.pl.c p.places w (hp.pl.mem hw) hn.pl) rfl (fun _=>rfl) fun s=>⟨⟨s0,s1,s2,fun h=>e0 fun h'=>h (.inl h'),fun h=>e1 fun h'=>h (.inl h'),fun h=>e2 fun h'=>h (.inl h'),rfl⟩,_,rfl,fun d h=>by cases h;exact ⟨s,rfl⟩⟩
    |3,hi=>cases hi;exact f_ev (e_fld Tryz.underlying28 rfl Tryz.sizeOf22 rfl (q0 hpt)) rfl rfl ⟨⟨s0,s1,s2,fun h=>e0 fun h'=>h (.inl h'),fun h=>e1 fun h'=>h (.inl h'),fun h=>e2 fun h'=>h (.inl h'),rfl⟩,_,rfl,fun d h=>by cases h;rfl⟩
    |4,hi=>
     cases hi
     have hx:fr 14= .pointer (some ⟨b1,3,none⟩):=hF 3 _ _ rfl (hw 3 rfl) rfl
     have n1: ¬S 12:=fun h=>hno (hc 5 4 rfl (hc 12 5 rfl h))
     obtain rfl:=e1 n1
     exact f_ev (e_ld (v:=Sl.v a.d) Tryz.isAgg22 (q0 hx) (fun _ w hw=>box_cell hw (k:=1) rfl rfl)) rfl rfl ⟨⟨s0,a.d,s2,fun h=>e0 fun h'=>h (.inl h'),fun _=>rfl,fun h=>e2 fun h'=>h (.inl h'),rfl⟩,_,rfl,fun d h=>by cases h;rfl⟩
    |5,hi=>
     cases hi
     have hx:fr 15=Sl.v a.d:=hF 4 _ _ rfl (hw 4 rfl) rfl
     exact f_callx (en Tryz.call75 (ha1 (q0 hx))) (fun w hw=>cloneI_w a.d.A a.d.n a.d.c p.docks w (hp.dk.mem hw) hn.d) rfl (fun _=>rfl) fun s=>⟨⟨s0,s1,s2,fun h=>e0 fun h'=>h (.inl h'),fun h=>e1 fun h'=>h (.inl h'),fun h=>e2 fun h'=>h (.inl h'),rfl⟩,_,rfl,fun d h=>by cases h;exact ⟨s,rfl⟩⟩
    |6,hi=>cases hi;exact f_ev (e_fld Tryz.underlying28 rfl Tryz.sizeOf22 rfl (q0 hpt)) rfl rfl ⟨⟨s0,s1,s2,fun h=>e0 fun h'=>h (.inl h'),fun h=>e1 fun h'=>h (.inl h'),fun h=>e2 fun h'=>h (.inl h'),rfl⟩,_,rfl,fun d h=>by cases h;rfl⟩
    |7,hi=>
     cases hi
     have hx:fr 17= .pointer (some ⟨b1,5,none⟩):=hF 6 _ _ rfl (hw 6 rfl) rfl
     have n1: ¬S 14:=fun h=>hno (hc 8 7 rfl (hc 14 8 rfl h))
     obtain rfl:=e2 n1
     exact f_ev (e_ld (v:=Sl.v a.f) Tryz.isAgg22 (q0 hx) (fun _ w hw=>box_cell hw (k:=1) rfl rfl)) rfl rfl ⟨⟨s0,s1,a.f,fun h=>e0 fun h'=>h (.inl h'),fun h=>e1 fun h'=>h (.inl h'),fun _=>rfl,rfl⟩,_,rfl,fun d h=>by cases h;rfl⟩
    |8,hi=>
     cases hi
     have hx:fr 18=Sl.v a.f:=hF 7 _ _ rfl (hw 7 rfl) rfl
     exact f_callx (en Tryz.call75 (ha1 (q0 hx))) (fun w hw=>cloneI_w a.f.A a.f.n a.f.c p.fines w (hp.fi.mem hw) hn.f) rfl (fun _=>rfl) fun s=>⟨⟨s0,s1,s2,fun h=>e0 fun h'=>h (.inl h'),fun h=>e1 fun h'=>h (.inl h'),fun h=>e2 fun h'=>h (.inl h'),rfl⟩,_,rfl,fun d h=>by cases h;exact ⟨s,rfl⟩⟩
    |9,hi=>cases hi;exact f_ev (e_fld Tryz.underlying28 rfl Tryz.sizeOf22 rfl (q0 hpt)) rfl rfl ⟨⟨s0,s1,s2,fun h=>e0 fun h'=>h (.inl h'),fun h=>e1 fun h'=>h (.inl h'),fun h=>e2 fun h'=>h (.inl h'),rfl⟩,_,rfl,fun d h=>by cases h;rfl⟩
    |10,hi=>
     cases hi
     obtain ⟨z,hz⟩: ∃s:Sl,fr 13=s.v:=hF 2 _ _ rfl (hw 2 rfl) rfl
     have hx:fr 20= .pointer (some ⟨b1,2,none⟩):=hF 9 _ _ rfl (hw 9 rfl) rfl
     exact f_store 1 (v:=z.v) hx hz Tryz.sizeOf22 rfl rfl rfl rfl ⟨⟨z,s1,s2,fun h=>absurd (.inr rfl) h,fun h=>e1 fun h'=>h (.inl h'),fun h=>e2 fun h'=>h (.inl h'),rfl⟩,undef,rfl,fun d h=>by cases h⟩
    |11,hi=>cases hi;exact f_ev (e_fld Tryz.underlying28 rfl Tryz.sizeOf22 rfl (q0 hpt)) rfl rfl ⟨⟨s0,s1,s2,fun h=>e0 fun h'=>h (.inl h'),fun h=>e1 fun h'=>h (.inl h'),fun h=>e2 fun h'=>h (.inl h'),rfl⟩,_,rfl,fun d h=>by cases h;rfl⟩
    |12,hi=>
     cases hi
     obtain ⟨z,hz⟩: ∃s:Sl,fr 16=s.v:=hF 5 _ _ rfl (hw 5 rfl) rfl
     have hx:fr 21= .pointer (some ⟨b1,3,none⟩):=hF 11 _ _ rfl (hw 11 rfl) rfl
     exact f_store 1 (v:=z.v) hx hz Tryz.sizeOf22 rfl rfl rfl rfl ⟨⟨s0,z,s2,fun h=>e0 fun h'=>h (.inl h'),fun h=>absurd (.inr rfl) h,fun h=>e2 fun h'=>h (.inl h'),rfl⟩,undef,rfl,fun d h=>by cases h⟩
    |13,hi=>cases hi;exact f_ev (e_fld Tryz.underlying28 rfl Tryz.sizeOf22 rfl (q0 hpt)) rfl rfl ⟨⟨s0,s1,s2,fun h=>e0 fun h'=>h (.inl h'),fun h=>e1 fun h'=>h (.inl h'),fun h=>e2 fun h'=>h (.inl h'),rfl⟩,_,rfl,fun d h=>by cases h;rfl⟩
    |14,hi=>
     cases hi
     obtain ⟨z,hz⟩: ∃s:Sl,fr 19=s.v:=hF 8 _ _ rfl (hw 8 rfl) rfl
     have hx:fr 22= .pointer (some ⟨b1,5,none⟩):=hF 13 _ _ rfl (hw 13 rfl) rfl
     exact f_store 1 (v:=z.v) hx hz Tryz.sizeOf22 rfl rfl rfl rfl ⟨⟨s0,s1,z,fun h=>e0 fun h'=>h (.inl h'),fun h=>e1 fun h'=>h (.inl h'),fun h=>absurd (.inr rfl) h,rfl⟩,undef,rfl,fun d h=>by cases h⟩
    |n+15,hi=>simp at hi
   ·rintro S L fr hS hA hF ⟨s0,s1,s2,e0,e1,e2,rfl⟩
    exact cutJ_normal ((s0,s1,s2):Sl×Sl×Sl) hA trivial (fun w hw=>hw) rfl trivial
  ·rintro ⟨y1,y2,y3⟩ g2 _
   iterate 4 refine G ?_
   refine X_st (v:= .agg _) rfl rfl Tryz.sizeOf28 ?_
   iterate 3 refine G ?_
   exact end_of rfl (resC rfl rfl Tryz.isAgg28 Tryz.sizeOf28) fun w' hw=>⟨⟨xt,xp,y1,y2,y3⟩,rfl,mem_nil.2 hw.1⟩
end Go.Proofs.Hom
namespace Go.Proofs.Hom
open Go Go.RowKit Go.Proofs.E Go.Proofs.Cus Go.Proofs.Far
theorem fl127 {fs:Array Field} (h:Tryz.prog.underlying 127=some (.struct fs):=by exact Tryz.underlying127):FieldsLie Tryz.prog fs [(0,1),(1,1)]:=by
 rw [Tryz.underlying127] at h
 cases h
 intro w
 kernel_rfl
theorem fl159 {fs:Array Field} (h:Tryz.prog.underlying 159=some (.struct fs):=by exact Tryz.underlying159):FieldsLie Tryz.prog fs [(0,1),(1,1)]:=by
 rw [Tryz.underlying159] at h
 cases h
 intro w
 kernel_rfl
theorem fl102 {fs:Array Field} (h:Tryz.prog.underlying 102=some (.struct fs):=by exact Tryz.underlying102):FieldsLie Tryz.prog fs [(0,1),(1,1),(2,1)]:=by
 rw [Tryz.underlying102] at h
 cases h
 intro w
 kernel_rfl
theorem fl97 {fs:Array Field} (h:Tryz.prog.underlying 97=some (.struct fs):=by exact Tryz.underlying97):FieldsLie Tryz.prog fs [(0,5),(5,7),(12,1),(13,1),(14,1)]:=by
 rw [Tryz.underlying97] at h
 cases h
 intro w
 kernel_rfl
def netErr (f:Fl) (p:Pr) (k:Int):Int:=if prErr f p≠0 then prErr f p else if k<1∨8<k then 1 else 0
theorem newBad_w (f:Fl) (fa:FA) (p:Pr) (a:PrA) (k:Int) (w:World) (hf:FlAt w f fa) (hp:PrAt w p a) (hk:netErr f p k≠0):Calls Tryz.prog 11 #[.agg (f.cells fa).toArray, .agg (p.cells a).toArray, .int .i64 k] w fun e w'=>e= .returned (.tuple #[.pointer none, .int .i64 (netErr f p k)])∧Bel w w':=by
 refine H_enter Tryz.func11 rfl Tryz.ntmps11 rfl ?_
 iterate 2 refine G ?_
 refine X_box (v:= .agg _) rfl rfl fun b3=>?_
 refine X_box (v:= .agg _) rfl rfl fun b4=>?_
 iterate 9 refine G ?_
 refine xC (en Tryz.call35 (ha2 (q0 rfl) (q0 rfl))) (fun _ w hw=>fcheck_w f fa p a w (hf.mem hw) (hp.mem hw)) rfl rfl ?_
 iterate 9 refine G ?_
 refine H_cond rfl ?_ ?_<;>intro h1
 ·have h1':prErr f p≠0:=by simpa using h1
  iterate 9 refine G ?_
  exact ret2 (v:= .pointer _) (x:= .int _ _) rfl rfl rfl rfl fun w' hw=>⟨by unfold netErr;rw [if_pos h1'],hw.1⟩
 ·have h1':prErr f p=0:=by simpa using h1
  iterate 13 refine G ?_
  refine H_cond rfl ?_ ?_<;>intro h2
  ·have h2':k<1∨8<k:=by simpa using h2
   iterate 8 refine G ?_
   exact ret2 (v:= .pointer _) (x:= .int _ _) rfl rfl rfl rfl fun w' hw=>⟨by unfold netErr;rw [if_neg (fun h=>h h1'),if_pos h2'],hw.1⟩
  ·exfalso
   have h2': ¬(k<1∨8<k):=by simpa using h2
   unfold netErr at hk
   rw [if_neg (fun h=>h h1'),if_neg h2'] at hk
   exact hk rfl
def ptC (b:Nat):List Value:=[.pointer (some ⟨b,0,none⟩)]
abbrev svRow (A:Option Addr) (c:Nat) (l:List Nat):E.Item:=rowT 98 1 ptC A c l
def blC (b:Bool):List Value:=[.bool b]
theorem prErr_ok {f:Fl} {p:Pr} (h:prErr f p=0):flErr f=0:=by
 refine Classical.byContradiction fun hn=>?_
 unfold prErr at h
 rw [if_pos hn] at h
 exact hn h
end Go.Proofs.Hom
namespace Go.Proofs.Net
open Go Go.RowKit Go.Proofs.E Go.Proofs.Cus Go.Proofs.Far Go.Proofs.Hom
def bpC (n:Nat) (b:Nat×Nat):List Value:=[.slice (some ⟨b.1,0,none⟩) n b.2]
abbrev bpRow (n:Nat) (A:Option Addr) (c:Nat) (l:List (Nat×Nat)):E.Item:=rowT 103 1 (bpC n) A c l
structure SA where
 s:Nat
 r:Nat
 m:Nat
 d:Nat
 e:Nat
 A:Option Addr
 c:Nat
structure NM where
 nb:Nat
 d:Sl
 t:Sl
 p:PrA
 sA:Option Addr
 sc:Nat
 ss:List Nat
 bA:Option Addr
 bc:Nat
 bs:List (Nat×Nat)
 kA:Option Addr
 kc:Nat
abbrev svB (a:SA) (lose:Int):E.Item:=box a.s 102 [.pointer (some ⟨a.r,0,none⟩), .pointer (some ⟨a.d,0,none⟩), .int .i64 lose]
abbrev svL (dv:Int) (a:SA) (x:SS):List E.Item:=svB a x.lose::(rpL a.r a.m dv x.evs++deskL a.d a.e a.A a.c x.desk)
abbrev ntC (f:Fl) (p:Pr) (M:NM) (k:Nat):List Value:=[.int .i64 f.bikes, .int .i64 f.riders, .int .i64 f.devices,M.d.v,M.t.v,M.p.t.v,M.p.p.v,M.p.pl.v,M.p.d.v, .int .i64 p.cap,M.p.f.v, .int .i64 p.days, .slice M.sA M.ss.length M.sc, .slice M.bA M.bs.length M.bc, .slice M.kA k M.kc]
abbrev netH (f:Fl) (p:Pr) (M:NM) (bank:List Py):List E.Item:=[box M.nb 97 (ntC f p M bank.length),svRow M.sA M.sc M.ss,bpRow M.ss.length M.bA M.bc M.bs,pyRow M.kA M.kc bank]
theorem fl102 {fs:Array Field} (h:Tryz.prog.underlying 102=some (.struct fs):=by exact Tryz.underlying102):FieldsLie Tryz.prog fs [(0,1),(1,1),(2,1)]:=by
 rw [Tryz.underlying102] at h
 cases h
 intro w
 kernel_rfl
theorem fl97 {fs:Array Field} (h:Tryz.prog.underlying 97=some (.struct fs):=by exact Tryz.underlying97):FieldsLie Tryz.prog fs [(0,5),(5,7),(12,1),(13,1),(14,1)]:=by
 rw [Tryz.underlying97] at h
 cases h
 intro w
 kernel_rfl
def payB (bank:List Py) (p:Py):List Py:=if (payR bank p).2=0 then (payR bank p).1 else bank
theorem payR_len (b:List Py) (p:Py) (h:b.length≤256):(payR b p).1.length≤256:=by
 rw [payR_eq]
 split
 ·simp
 ·split
  ·simp
  ·split
   ·exact h
   ·split
    ·simp
    ·simp;omega
theorem npay_w {f:Fl} {pr:Pr} {M:NM} {bank:List Py} {a:SA} {lose:Int} (p:Py) {w0 w:World} {L:List E.Item} (hL:marks L=[]) (hw:Mem w0 (netH f pr M bank++svB a lose::L) w) (hn:bank.length≤256) (hls:lose≤1000000):
  Calls Tryz.prog 87 #[.pointer (some ⟨M.nb,0,none⟩), .pointer (some ⟨a.s,0,none⟩), .agg p.cells.toArray] w fun q w'=> ∃x:Option Addr×Nat,q= .returned (.int .i64 (if 0<lose then 33 else (payR bank p).2))∧Mem w0 (netH f pr {M with kA:=x.1,kc:=x.2} (payB bank p)++svB a (if 0<lose then lose -1 else lose)::L) w':=by
 refine H_enterM hw hL Tryz.func87 rfl Tryz.ntmps87 rfl ?_
 iterate 2 refine G ?_
 refine X_box (v:= .agg _) rfl rfl fun b5=>?_
 iterate 4 refine G ?_
 refine H_cut [7,8,9,10,11,12,13,14,15,16,17] (fun x:(Option Addr×Nat)×Nat=>[(7, .pointer (some ⟨x.2,0,none⟩)),(8, .int .i64 (payR bank p).2)]) (fun x=>pyRow x.1.1 x.1.2 (payR bank p).1::box x.2 42 [.slice x.1.1 (payR bank p).1.length x.1.2]::box b5 90 p.cells::netH f pr M bank++svB a lose::L) (fun _=>True) ?_ ?_
 ·refine RA rfl (by decide+kernel) ?_
  refine aW 0 ?_
  refine aW 1 ?_
  refine aW 2 ?_
  refine aV 3 (by decide+kernel) rfl (eP Tryz.isAgg42 Tryz.sizeOf42 (q0 rfl)) rfl ?_
  refine aW 4 ?_
  refine rdy2 (i:=5) (j:=9) (by decide+kernel) (sub_drop 0) ?_ ?_
  ·refine aL rfl (f_callx (en Tryz.call134 (ha2 (q0 rfl) (q0 rfl))) (fun w hw=>pay_w bank p M.kA M.kc w (by first|exact slAt_row hw (j:=4) rfl (fun _=>rfl) (by omega)|exact slAt_row hw (j:=5) rfl (fun _=>rfl) (by omega)) hn) rfl (fun _=>rfl) fun y=>?_)
   refine aW 6 ?_
   refine aW 7 ?_
   refine aW 8 ?_
   refine r1 9 1 ?_
   refine aL rfl (f_alloc Tryz.zeroValue42 rfl fun b7=>?_)
   refine aI 1 ?_
   refine r1 10 2 ?_
   refine aL rfl (f_st (v:= .agg _) rfl rfl Tryz.sizeOf42 ?_)
   refine aRL (sub_drop 2) ?_
   refine aW 11 ?_
   refine aZ (by decide+kernel) (sub_drop 0) ?_
   exact cutJ_normal ((y,b7):(Option Addr×Nat)×Nat) agr ⟨rfl,rfl,trivial⟩ (fun w hw=>hw) rfl trivial
  ·refine aL rfl (f_alloc Tryz.zeroValue42 rfl fun b7=>?_)
   refine r1 5 1 ?_
   refine aL rfl (f_callx (en Tryz.call134 (ha2 (q0 rfl) (q0 rfl))) (fun w hw=>pay_w bank p M.kA M.kc w (by first|exact slAt_row hw (j:=4) rfl (fun _=>rfl) (by omega)|exact slAt_row hw (j:=5) rfl (fun _=>rfl) (by omega)) hn) rfl (fun _=>rfl) fun y=>?_)
   refine aW 6 ?_
   refine aW 7 ?_
   refine aW 8 ?_
   refine r1 10 2 ?_
   refine aL rfl (f_st (v:= .agg _) rfl rfl Tryz.sizeOf42 ?_)
   refine aRL (sub_drop 2) ?_
   refine aW 11 ?_
   refine aZ (by decide+kernel) (sub_drop 0) ?_
   exact cutJ_normal ((y,b7):(Option Addr×Nat)×Nat) agr ⟨rfl,rfl,trivial⟩ (fun w hw=>hw) rfl trivial
 ·rintro ⟨⟨kA,kc⟩,bb⟩ g _
  iterate 8 refine G ?_
  refine H_cut [20,21,22,23] (fun _:Unit=>[]) (fun _=>netH f pr {M with kA:=(if (payR bank p).2=0 then kA else M.kA),kc:=(if (payR bank p).2=0 then kc else M.kc)} (payB bank p)++svB a lose::L) (fun _=>True) ?_ ?_
  ·refine H_cond rfl ?_ ?_<;>intro h1
   ·have h1':(payR bank p).2=0:=by simpa using h1
    iterate 5 refine G ?_
    refine X_st (v:= .agg _) rfl rfl Tryz.sizeOf42 ?_
    refine G ?_
    exact cutJ_normal () agr trivial (fun w hw=>by
     have hb:payB bank p=(payR bank p).1:=by unfold payB;rw [if_pos h1']
     rw [hb,if_pos h1',if_pos h1']
     exact hw.pickN 8 [3,4,5,0,7] (by decide) (by decide)) rfl trivial
   ·have h1': ¬(payR bank p).2=0:=by simpa using h1
    refine G ?_
    exact cutJ_normal () agr trivial (fun w hw=>by
     have hb:payB bank p=bank:=by unfold payB;rw [if_neg h1']
     rw [hb,if_neg h1',if_neg h1']
     exact hw.tail.tail.tail) rfl trivial
  ·rintro _ g2 _
   iterate 11 refine G ?_
   refine H_cond rfl ?_ ?_<;>intro h2
   ·have h2':0<lose:=by simpa using h2
    rw [if_pos h2',if_pos h2']
    iterate 9 refine G ?_
    refine X_st (v:= .int _ _) rfl rfl Tryz.sizeOf3 ?_
    iterate 9 refine G ?_
    exact ret1 (v:= .int _ _) rfl rfl hL fun w' hw=>⟨(_,_),rfl,hw⟩
   ·have h2': ¬0<lose:=by simpa using h2
    rw [if_neg h2',if_neg h2']
    iterate 9 refine G ?_
    exact ret1 (v:= .int _ _) rfl rfl hL fun w' hw=>⟨(_,_),rfl,hw⟩
end Go.Proofs.Net
