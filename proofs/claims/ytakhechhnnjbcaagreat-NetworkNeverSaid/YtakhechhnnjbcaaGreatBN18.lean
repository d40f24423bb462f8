import Derived.Test.YtakhechhnnjbcaaGreatBN17
import Derived.Test.YtakhechhnnjbcaaGreatBN13
import Derived.Test.YtakhechhnnjbcaaGreatBN16
import Derived.Test.YtakhechhnnjbcaaGreatBN14
import Derived.Test.YtakhechhnnjbcaaGreatBN04
import Derived.Test.YtakhechhnnjbcaaGreatTy
set_option maxRecDepth 100000
set_option maxHeartbeats 8000000
set_option linter.unusedVariables false
set_option linter.unusedSimpArgs false
namespace Go.Proofs.Far
open Go Go.RowKit Go.Proofs.E Go.Proofs.Cus Go.Proofs.Rid
theorem pUse_w (A:Option Addr) (n c:Nat) (l:List Pas) (B:Option Addr) (m d:Nat) (rs:List RX) (w:World) (hp:PassAt w A n l) (hr:RdsAt w B m rs) (hpe:pasErr l=0) (hg:Good (rs.map (·.r))) (hs:rs.Pairwise fun x y=>rideLt x.r y.r=true):
  Calls Tryz.prog 110 #[.slice A n c, .slice B m d] w fun e w'=> ∃z:Nat,e= .returned (.tuple #[.slice (some ⟨z,0,none⟩) m m, .int .i64 0])∧Mem w [intRow (some ⟨z,0,none⟩) m (useS l (rs.map fun x=>reqR x.r)).1] w':=by
 refine H_enter Tryz.func110 rfl Tryz.ntmps110 rfl ?_
 iterate 11 refine G ?_
 refine xC (en Tryz.call163 (ha2 (q0 rfl) (q0 rfl))) (fun _ w hw=>pchecked_w A n c l B m d rs w (hp.mem hw) (hr.mem hw) hpe hg) rfl rfl ?_
 iterate 9 refine G ?_
 refine H_cond rfl ?_ ?_<;>intro h1
 ·exfalso;simp at h1
 ·iterate 6 refine G ?_
  refine xCX (en Tryz.call164 (ha2 (q0 rfl) (q0 rfl))) (fun w hw=>puse_w A n c l B m d rs w (hp.mem hw) (hr.mem hw) hpe hg hs) rfl (fun _=>rfl) fun z=>?_
  iterate 5 refine G ?_
  exact ret2 (v:= .slice _ _ _) (x:= .int _ _) rfl rfl rfl rfl fun w' hw=>⟨z,rfl,hw⟩
theorem din_w (n lo hi:Int) (w:World):Calls Tryz.prog 233 #[.int .i64 n, .int .i64 lo, .int .i64 hi] w fun e w'=>e= .returned (.bool (inI n lo hi))∧Bel w w':=by
 refine H_enter Tryz.func233 rfl Tryz.ntmps233 rfl ?_
 iterate 19 refine G ?_
 exact ret1 (v:= .bool _) rfl rfl rfl fun w' hw=>⟨rfl,hw.1⟩
structure DyAt (w:World) (A B C:Option Addr) (n:Nat) (xs:List Dy):Prop where
 r:IntsAt w A n (xs.map (·.rider))
 d:IntsAt w B n (xs.map (·.day))
 a:IntsAt w C n (xs.map (·.amount))
theorem DyAt.mem {w0 w:World} {L:List E.Item} {A B C:Option Addr} {n:Nat} {xs:List Dy} (h:DyAt w0 A B C n xs) (hm:Mem w0 L w):DyAt w A B C n xs:=⟨h.r.mem hm,h.d.mem hm,h.a.mem hm⟩
theorem dyErr_parts {limit:Int} {xs:List Dy} (h:dyErr limit xs=0):(0≤limit∧limit≤1000000000000)∧xs.length≤256∧ ∀x∈xs,dyBad x=false:=by
 unfold dyErr at h
 split at h
 ·cases h
 ·rename_i h1
  split at h
  ·cases h
  ·split at h
   ·cases h
   ·rename_i h3
    refine ⟨inI_iff.1 (by simpa using h1),by omega,fun x hx=>?_⟩
    have h4:xs.any dyBad=false:=by simpa using h3
    rw [List.any_eq_false] at h4
    simpa using h4 x hx
theorem dyBad_parts {x:Dy} (h:dyBad x=false):(0≤x.rider∧x.rider≤127)∧(0≤x.day∧x.day≤49709)∧(0≤x.amount∧x.amount≤1000000000000):=by
 unfold dyBad at h
 simp only [Bool.or_eq_false_iff,Bool.not_eq_false',inI_iff] at h
 exact ⟨h.1.1,h.1.2,h.2⟩
theorem dcheck_w (limit:Int) (A:Option Addr) (a:Nat) (B:Option Addr) (b:Nat) (C:Option Addr) (c n:Nat) (xs:List Dy) (w:World) (hx:DyAt w A B C n xs) (he:dyErr limit xs=0):Calls Tryz.prog 170 #[.int .i64 limit, .slice A n a, .slice B n b, .slice C n c] w fun e w'=>e= .returned (.int .i64 0)∧Bel w w':=by
 obtain ⟨hlim,hlen,hgood⟩:=dyErr_parts he
 have hl:xs.length=n:=by have:=hx.r.1;rw [List.length_map] at this;exact this
 have hin:inI limit 0 1000000000000=true:=inI_iff.2 hlim
 refine H_enter Tryz.func170 rfl Tryz.ntmps170 rfl ?_
 iterate 10 refine G ?_
 refine xC (en Tryz.call233 (ha3 (q0 rfl) (q0 rfl) (q0 rfl))) (fun _ w _=>din_w limit 0 1000000000000 w) rfl rfl ?_
 rw [hin]
 iterate 4 refine G ?_
 refine H_cond rfl ?_ ?_<;>intro h1
 ·exfalso;cases h1
 ·iterate 17 refine G ?_
  refine H_cond rfl ?_ ?_<;>intro h2
  ·exfalso;simp at h2
  ·iterate 8 refine G ?_
   refine H_cond rfl ?_ ?_<;>intro h3
   ·exfalso;simp at h3;omega
   ·iterate 12 refine G ?_
    refine H_loop [8,9,33,34,35,36,37,38,39,40,41,42,43,44,45,46,47,48,49,50,51,52,53,54,55,56,57,58] (fun k:Nat=>[(33, .int .i64 k)]) (fun _=>[]) (fun k=>k≤n) (fun k=>n -k) 0 ⟨rfl,trivial⟩ (fun w hw=>hw) rfl (Nat.zero_le _) ?_
    rintro k g hk
    iterate 6 refine G ?_
    refine H_cond rfl ?_ ?_<;>intro hlt
    ·have hlt':k<n:=by simpa using hlt
     obtain ⟨x,hxk⟩: ∃x,xs[k]?=some x:=⟨_,List.getElem?_eq_getElem (by omega)⟩
     have hb:=dyBad_parts (hgood x (List.mem_of_getElem? hxk))
     obtain ⟨ab,aoff,v1,rfl,habl,hv1,hra⟩:=hx.r.at_ hlt'
     obtain ⟨bb,boff,v2,rfl,hbbl,hv2,hrb⟩:=hx.d.at_ hlt'
     obtain ⟨cb,coff,v3,rfl,hcbl,hv3,hrc⟩:=hx.a.at_ hlt'
     have e1:v1=x.rider:=by simpa [hxk] using hv1.symm
     have e2:v2=x.day:=by simpa [hxk] using hv2.symm
     have e3:v3=x.amount:=by simpa [hxk] using hv3.symm
     subst e1 e2 e3
     have i1:inI x.rider 0 127=true:=inI_iff.2 hb.1
     have i2:inI x.day 0 49709=true:=inI_iff.2 hb.2.1
     have i3:inI x.amount 0 1000000000000=true:=inI_iff.2 hb.2.2
     iterate 14 refine G ?_
     refine xV (e_idx _ Tryz.underlying22 Tryz.sizeOf3 (q0 rfl) (q0 rfl) (fun _=>⟨rfl,by omega⟩)) rfl rfl ?_
     refine xV (e_ld (v:= .int .i64 x.rider) Tryz.isAgg3 (q0 rfl) (by exact rc0 hra habl rfl)) rfl rfl ?_
     refine xC (en Tryz.call233 (ha3 (q0 rfl) (q0 rfl) (q0 rfl))) (fun _ w _=>din_w x.rider 0 127 w) rfl rfl ?_
     iterate 4 refine G ?_
     refine xVF (e_idx _ Tryz.underlying22 Tryz.sizeOf3 (q1 rfl) (q1 rfl) (fun _=>⟨rfl,by omega⟩)) rfl rfl rfl rfl ?_
     refine xVF (e_ld (v:= .int .i64 x.day) Tryz.isAgg3 (q1 rfl) (by exact rc0 hrb hbbl rfl)) rfl rfl rfl rfl ?_
     refine xCF (en Tryz.call233 (ha3 (q1 (v:= .int _ _) rfl) (q0 rfl) (q0 rfl))) (fun _ w _=>din_w x.day 0 49709 w) rfl rfl rfl rfl ?_
     iterate 5 refine G ?_
     refine xVF (e_idx _ Tryz.underlying22 Tryz.sizeOf3 (q1 rfl) (q1 rfl) (fun _=>⟨rfl,by omega⟩)) rfl rfl rfl rfl ?_
     refine xVF (e_ld (v:= .int .i64 x.amount) Tryz.isAgg3 (q1 rfl) (by exact rc0 hrc hcbl rfl)) rfl rfl rfl rfl ?_
     refine xCF (en Tryz.call233 (ha3 (q1 (v:= .int _ _) rfl) (q0 rfl) (q0 rfl))) (fun _ w _=>din_w x.amount 0 1000000000000 w) rfl rfl rfl rfl ?_
     iterate 4 refine G ?_
     refine H_cond rfl ?_ ?_<;>intro h5
     ·exfalso
      have h:((!inI x.rider 0 127)||(!inI x.day 0 49709))||(!inI x.amount 0 1000000000000)=true:=by simpa using h5
      rw [i1,i2,i3] at h
      simp at h
     ·iterate 7 refine G ?_
      exact loopJ_normal (k+1) agr ⟨rfl,trivial⟩ (fun w hw=>hw) rfl (by show k+1≤n;omega) (by show n -(k+1)<n -k;omega)
    ·iterate 11 refine G ?_
     exact ret1 (v:= .int _ _) rfl rfl rfl fun w' hw=>⟨rfl,hw.1⟩
theorem keyA:KeyK Tryz.prog 121:=KeyK.array (i:=Tryz.t3) Tryz.underlying121 Tryz.underlying3 Tryz.isAgg3 (by kernel_rfl) rfl
attribute [local irreducible] DS payD sumD
theorem dapply_w (limit:Int) (A:Option Addr) (a:Nat) (B:Option Addr) (b:Nat) (C:Option Addr) (c n:Nat) (xs:List Dy) (w:World) (hx:DyAt w A B C n xs) (he:dyErr limit xs=0):Calls Tryz.prog 171 #[.int .i64 limit, .slice A n a, .slice B n b, .slice C n c] w fun e w'=> ∃z:(Option Addr×Nat)×(Nat×List ((Int×Int)×Value)),e= .returned (.tuple #[.slice z.1.1 ((dayS limit xs).map (·.2)).length z.1.2, .map (some z.2.1)])∧Mem w [intRow z.1.1 z.1.2 ((dayS limit xs).map (·.2)),kmap z.2.1 z.2.2] w':=by
 obtain ⟨hlim,hlen,hgood⟩:=dyErr_parts he
 have hl:xs.length=n:=by have:=hx.r.1;rw [List.length_map] at this;exact this
 have hok:=DS_ok hlim.1 (fun x hx=>(dyBad_parts (hgood x hx)).2.2)
 have hdl:=DS_len limit xs
 refine H_enter Tryz.func171 rfl Tryz.ntmps171 rfl ?_
 iterate 3 refine G ?_
 refine xV (e_as (v:= .map _) (q0 rfl)) rfl rfl ?_
 iterate 3 refine G ?_
 refine H_mem (L':=[intRow none 0 []]) (fun w hw=>hw.nilRow 3 1 encInt rfl) rfl ?_
 iterate 6 refine G ?_
 refine X_eff (f_makeK rfl fun mb=>?_)
 refine xV (e_as (v:= .map _) (q0 rfl)) rfl rfl ?_
 iterate 11 refine G ?_
 refine H_loop [10,12,13,14,18,19,20,21,22,23,24,25,26,27,28,29,30,31,32,33,34,35,36,37,38,39,40,41,42,43,44,45,46,47,48,49,50,51,52] (fun q:Nat×(Option Addr×Nat)×List ((Int×Int)×Value)=>[(18, .int .i64 q.1),(10, .slice q.2.1.1 ((DS limit xs q.1).map (·.2)).length q.2.1.2)]) (fun q=>[kmap mb q.2.2,intRow q.2.1.1 q.2.1.2 ((DS limit xs q.1).map (·.2))]) (fun q=>q.1≤n∧DP q.2.2 (DS limit xs q.1)) (fun q=>n -q.1) (0,(none,0),[]) ⟨rfl,by unfold DS;rfl,trivial⟩ (fun w hw=>by unfold DS;exact hw) rfl ⟨Nat.zero_le _,by unfold DS;exact DP.nil⟩ ?_
 rintro ⟨k,⟨oA,oc⟩,mps⟩ g ⟨hk,hDP⟩
 simp only at hk hDP
 iterate 6 refine G ?_
 refine H_cond rfl ?_ ?_<;>intro hlt
 ·have hlt':k<n:=by simpa using hlt
  obtain ⟨x,hxk⟩: ∃x,xs[k]?=some x:=⟨_,List.getElem?_eq_getElem (by omega)⟩
  have hb:=dyBad_parts (hgood x (List.mem_of_getElem? hxk))
  obtain ⟨ab,aoff,v1,rfl,habl,hv1,hra⟩:=hx.r.at_ hlt'
  obtain ⟨bb,boff,v2,rfl,hbbl,hv2,hrb⟩:=hx.d.at_ hlt'
  obtain ⟨cb,coff,v3,rfl,hcbl,hv3,hrc⟩:=hx.a.at_ hlt'
  have e1:v1=x.rider:=by simpa [hxk] using hv1.symm
  have e2:v2=x.day:=by simpa [hxk] using hv2.symm
  have e3:v3=x.amount:=by simpa [hxk] using hv3.symm
  subst e1 e2 e3
  have hsucc:=DS_succ (limit:=limit) hxk
  have hO:=hok k (by omega)
  have hpr:=payD_range hO hb.2.2
  have hsr:=hO.sum x.rider x.day
  have hkl:=hdl k (by omega)
  have hlk:=hDP x.rider x.day
  rw [hkl] at hsr
  have hml:((DS limit xs k).map (·.2)).length=k:=by rw [List.length_map,hkl]
  iterate 7 refine G ?_
  refine xV (e_idx _ Tryz.underlying22 Tryz.sizeOf3 (q0 rfl) (q0 rfl) (fun _=>⟨rfl,by omega⟩)) rfl rfl ?_
  refine xV (e_ld (v:= .int .i64 x.amount) Tryz.isAgg3 (q0 rfl) (by exact rc0 hrc hcbl rfl)) rfl rfl ?_
  iterate 5 refine G ?_
  refine RA rfl (by decide+kernel) ?_
  refine aW 0 ?_
  refine aW 1 ?_
  refine aV 2 (by decide+kernel) rfl (e_idx _ Tryz.underlying22 Tryz.sizeOf3 (q0 rfl) (q0 rfl) (fun _=>⟨rfl,by omega⟩)) rfl ?_
  refine aV 3 (by decide+kernel) rfl (e_ld (v:= .int .i64 x.rider) Tryz.isAgg3 (q0 rfl) (by exact rc0 hra habl rfl)) rfl ?_
  refine aW 4 ?_
  refine aW 5 ?_
  refine aV 6 (by decide+kernel) rfl (e_idx _ Tryz.underlying22 Tryz.sizeOf3 (q0 rfl) (q0 rfl) (fun _=>⟨rfl,by omega⟩)) rfl ?_
  refine aV 7 (by decide+kernel) rfl (e_ld (v:= .int .i64 x.day) Tryz.isAgg3 (q0 rfl) (by exact rc0 hrb hbbl rfl)) rfl ?_
  refine aV 8 (by decide+kernel) rfl (e_buildA Tryz.underlying121 Tryz.sizeOf3 Tryz.zeroValue121 (pt (v:= .int _ _) rfl (pt (v:= .int _ _) rfl E.p0)) rfl) rfl ?_
  refine r1 9 0 ?_
  refine aL rfl (f_alloc Tryz.zeroValue121 rfl fun b14=>?_)
  refine r1 10 1 ?_
  refine aL rfl (f_st (v:= .agg _) rfl rfl Tryz.sizeOf121 ?_)
  refine aZ (by decide+kernel) (sub_drop 1) ?_
  iterate 8 refine G ?_
  refine H_cut [13,34,35,36,37,38,39,40] (fun _:Unit=>[(13, .int .i64 (payD limit (DS limit xs k) x))]) (fun _=>[kmap mb mps,box b14 121 [.int .i64 x.rider, .int .i64 x.day],intRow oA oc ((DS limit xs k).map (·.2))]) (fun _=>True) ?_ ?_
  ·refine H_cond rfl ?_ ?_<;>intro h2
   ·have h2':0<limit:=of_decide_eq_true h2
    have hpay:payD limit (DS limit xs k) x=min x.amount (limit -sumD (DS limit xs k) x.rider x.day):=by unfold payD;rw [if_pos h2']
    iterate 3 refine G ?_
    refine xV (e_mv (v:= .map _) (q0 rfl)) rfl rfl ?_
    refine G ?_
    refine xV (e_lookK (key:=(x.rider,x.day)) 1 keyA Tryz.underlying266 Tryz.zeroValue3 (q0 rfl) (q0 rfl) rfl (fun _=>hlk)) rfl rfl ?_
    refine xV (e_sub (r:=limit -sumD (DS limit xs k) x.rider x.day) (q0 rfl) (q0 rfl) (fun _=>⟨rfl,by omega,by omega⟩)) rfl rfl ?_
    refine xV (e_minM (q0 rfl) (q0 rfl)) rfl rfl ?_
    iterate 2 refine G ?_
    exact cutJ_normal () agr ⟨by rw [hpay];rfl,trivial⟩ (fun w hw=>hw.pick [1,0,2] (by decide)) rfl trivial
   ·have h2': ¬0<limit:=of_decide_eq_false h2
    have hpay:payD limit (DS limit xs k) x=x.amount:=by unfold payD;rw [if_neg h2']
    refine G ?_
    exact cutJ_normal () agr ⟨by rw [hpay];rfl,trivial⟩ (fun w hw=>hw.pick [1,0,2] (by decide)) rfl trivial
  ·intro _ g5 _
   iterate 2 refine G ?_
   refine H_cut [41,42,43,44,45,46,47] (fun _:Unit=>[]) (fun _=>[kmap mb (kput mps (x.rider,x.day) (.int .i64 (sumD (DS limit xs k) x.rider x.day+payD limit (DS limit xs k) x))),box b14 121 [.int .i64 x.rider, .int .i64 x.day],intRow oA oc ((DS limit xs k).map (·.2))]) (fun _=>True) ?_ ?_
   ·refine RAd 1 rfl (by decide+kernel) ?_
    refine aV 0 (by decide+kernel) rfl (e_mv (v:= .map _) (q0 rfl)) rfl ?_
    refine aW 1 ?_
    refine aW 3 ?_
    refine rdy2 (i:=2) (j:=5) (by decide+kernel) (sub_drop 1) ?_ ?_
    ·(first|refine aL rfl (f_ev (e_lookK (key:=(x.rider,x.day)) 0 keyA Tryz.underlying266 Tryz.zeroValue3 (q0 rfl) (q0 rfl) rfl (fun _=>hlk)) rfl rfl ?_)|refine aL rfl (f_ev (e_lookKP (key:=(x.rider,x.day)) 0 keyA Tryz.underlying266 Tryz.zeroValue3 (q0 rfl) (q0 rfl) rfl (fun _=>(hpz.trans hlk))) rfl rfl ?_))
     refine aV 4 (by decide+kernel) rfl (e_add (r:=sumD (DS limit xs k) x.rider x.day+payD limit (DS limit xs k) x) (q0 rfl) (q0 rfl) (fun _=>⟨rfl,by omega,by omega⟩)) rfl ?_
     refine r1 5 1 ?_
     refine aL rfl (f_entryK (key:=(x.rider,x.day)) 0 keyA Tryz.underlying266 Tryz.zeroValue3 rfl rfl rfl rfl fun born ps' hps hpz=>?_)
     refine aW 6 ?_
     refine r1 7 1 ?_
     refine aL rfl (f_storeK 0 rfl rfl rfl rfl hps ?_)
     refine aZ (by decide+kernel) (sub_drop 1) ?_
     exact cutJ_normal () agr trivial (fun w hw=>hw) rfl trivial
    ·refine aL rfl (f_entryK (key:=(x.rider,x.day)) 0 keyA Tryz.underlying266 Tryz.zeroValue3 rfl rfl rfl rfl fun born ps' hps hpz=>?_)
     refine aW 6 ?_
     refine r1 2 1 ?_
     (first|refine aL rfl (f_ev (e_lookK (key:=(x.rider,x.day)) 0 keyA Tryz.underlying266 Tryz.zeroValue3 (q0 rfl) (q0 rfl) rfl (fun _=>hlk)) rfl rfl ?_)|refine aL rfl (f_ev (e_lookKP (key:=(x.rider,x.day)) 0 keyA Tryz.underlying266 Tryz.zeroValue3 (q0 rfl) (q0 rfl) rfl (fun _=>(hpz.trans hlk))) rfl rfl ?_))
     refine aV 4 (by decide+kernel) rfl (e_add (r:=sumD (DS limit xs k) x.rider x.day+payD limit (DS limit xs k) x) (q0 rfl) (q0 rfl) (fun _=>⟨rfl,by omega,by omega⟩)) rfl ?_
     refine r1 7 1 ?_
     refine aL rfl (f_storeK 0 rfl rfl rfl rfl hps ?_)
     refine aZ (by decide+kernel) (sub_drop 1) ?_
     exact cutJ_normal () agr trivial (fun w hw=>hw) rfl trivial
   ·intro _ g6 _
    iterate 4 refine G ?_
    refine X_push (k:=1) (i:=Tryz.t3) 2 ((payD limit (DS limit xs k) x)) Tryz.underlying22 (by kernel_rfl) rfl rfl rfl rfl Tryz.sizeOf3 Tryz.zeroValue3 rfl rfl rfl rfl rfl rfl ⟨by simp only;omega,by decide⟩ rfl rfl fun B0 A1 c1=>?_
    iterate 8 refine G ?_
    obtain ⟨ps2,hps2⟩: ∃ps2,ps2=kput mps (x.rider,x.day) (.int .i64 (sumD (DS limit xs k) x.rider x.day+payD limit (DS limit xs k) x)):=⟨_,rfl⟩
    rw [←hps2]
    have hmap:(DS limit xs (k+1)).map (·.2)=(DS limit xs k).map (·.2)++[payD limit (DS limit xs k) x]:=by rw [hsucc,List.map_append];rfl
    refine loopJ_normal (k+1,(A1,c1),ps2) agr ⟨rfl,by rw [hmap];rfl,trivial⟩ (fun w hw=>by rw [hmap];exact hw.pick [0,2] (by decide)) rfl ⟨by simp only;omega,?_⟩ (by simp only;omega)
    simp only
    rw [hsucc,hps2]
    exact hDP.put x _
 ·have hend:k=n:=by simp at hlt;omega
  have hfull:DS limit xs k=dayS limit xs:=by unfold DS;rw [List.take_of_length_le (by omega)];rfl
  rw [hfull]
  iterate 8 refine G ?_
  refine xV (e_mv (v:= .map _) (q0 rfl)) rfl rfl ?_
  refine G ?_
  refine xV (e_as (v:= .map _) (q0 rfl)) rfl rfl ?_
  iterate 3 refine G ?_
  exact ret2 (v:= .slice _ _ _) (x:= .map _) rfl rfl rfl rfl fun w' hw=>⟨((oA,oc),(mb,mps)),rfl,hw.pick [1,0] (by decide)⟩
theorem dApply_w (limit:Int) (A:Option Addr) (a:Nat) (B:Option Addr) (b:Nat) (C:Option Addr) (c n:Nat) (xs:List Dy) (w:World) (hx:DyAt w A B C n xs) (he:dyErr limit xs=0):Calls Tryz.prog 112 #[.int .i64 limit, .slice A n a, .slice B n b, .slice C n c] w fun e w'=> ∃z:Option Addr×Nat,e= .returned (.tuple #[.slice z.1 ((dayS limit xs).map (·.2)).length z.2, .int .i64 0])∧Mem w [intRow z.1 z.2 ((dayS limit xs).map (·.2))] w':=by
 refine H_enter Tryz.func112 rfl Tryz.ntmps112 rfl ?_
 iterate 13 refine G ?_
 refine xC (en Tryz.call170 (ha4 (q0 rfl) (q0 rfl) (q0 rfl) (q0 rfl))) (fun _ w hw=>dcheck_w limit A a B b C c n xs w (hx.mem hw) he) rfl rfl ?_
 iterate 9 refine G ?_
 refine H_cond rfl ?_ ?_<;>intro h1
 ·exfalso;simp at h1
 ·iterate 8 refine G ?_
  refine xCX (en Tryz.call171 (ha4 (q0 rfl) (q0 rfl) (q0 rfl) (q0 rfl))) (fun w hw=>dapply_w limit A a B b C c n xs w (hx.mem hw) he) rfl (fun _=>rfl) fun z=>?_
  iterate 4 refine G ?_
  refine xV (e_as (v:= .map _) (q0 rfl)) rfl rfl ?_
  iterate 10 refine G ?_
  exact ret2 (v:= .slice _ _ _) (x:= .int _ _) rfl rfl rfl rfl fun w' hw=>⟨z.1,rfl,hw.pick [0] (by decide)⟩
end Go.Proofs.Far
namespace Go.Proofs.Rid
open Go Go.RowKit Go.Proofs.E Go.Proofs.Cus
theorem cloneLg_w (A:Option Addr) (n c:Nat) (xs:List Lg) (w:World) (hx:SlAt w 5 Lg.cells A n xs) (hn:n≤100000):Calls Tryz.prog 176 #[.slice A n c] w fun e w'=> ∃x:Option Addr×Nat,e= .returned (.slice x.1 xs.length x.2)∧Mem w [lgRow x.1 x.2 xs] w':=by
 have hl:=hx.1
 refine H_enter Tryz.func176 rfl Tryz.ntmps176 rfl ?_
 iterate 9 refine G ?_
 refine xV (e_eqNilS Tryz.underlying188 (q0 rfl)) rfl rfl ?_
 iterate 2 refine G ?_
 refine H_cond rfl ?_ ?_<;>intro h1
 ·have hA0:A=none:=by simpa using h1
  have hn0:n=0:=by
   rcases Nat.eq_zero_or_pos n with h|h
   ·exact h
   ·obtain ⟨b,off,hb,_⟩:=hx.2.2 h;rw [hA0] at hb;cases hb
  subst hn0
  have:xs=[]:=List.eq_nil_of_length_eq_zero hl
  subst this
  iterate 7 refine G ?_
  exact ret1 (v:= .slice _ _ _) rfl rfl rfl fun w' hw=>⟨(none,0),rfl,hw.nilRow _ _ _ rfl⟩
 ·iterate 4 refine G ?_
  refine X_eff (f_slit0 Lg.cells Tryz.underlying188 Tryz.sizeOf276 rfl fun A1 c1=>?_)
  refine G ?_
  refine X_append (f_append (k:=5) (i:=Tryz.t276) (enc:=Lg.cells) 0 Tryz.underlying188 (by kernel_rfl) rfl rfl rfl rfl (fun _=>rfl) (fun _=>rfl) rfl rfl rfl (fun w hw=>hx.mem hw) ⟨by simp;omega,by decide⟩ rfl fun A2 c2=>?_)
  iterate 4 refine G ?_
  exact ret1 (v:= .slice _ _ _) rfl rfl rfl fun w' hw=>⟨(A2,c2),rfl,hw⟩
theorem clonePz_w (A:Option Addr) (n c:Nat) (xs:List Pz) (w:World) (hx:SlAt w 4 Pz.cells A n xs) (hn:n≤100000):Calls Tryz.prog 177 #[.slice A n c] w fun e w'=> ∃x:Option Addr×Nat,e= .returned (.slice x.1 xs.length x.2)∧Mem w [pzRow x.1 x.2 xs] w':=by
 have hl:=hx.1
 refine H_enter Tryz.func177 rfl Tryz.ntmps177 rfl ?_
 iterate 9 refine G ?_
 refine xV (e_eqNilS Tryz.underlying189 (q0 rfl)) rfl rfl ?_
 iterate 2 refine G ?_
 refine H_cond rfl ?_ ?_<;>intro h1
 ·have hA0:A=none:=by simpa using h1
  have hn0:n=0:=by
   rcases Nat.eq_zero_or_pos n with h|h
   ·exact h
   ·obtain ⟨b,off,hb,_⟩:=hx.2.2 h;rw [hA0] at hb;cases hb
  subst hn0
  have:xs=[]:=List.eq_nil_of_length_eq_zero hl
  subst this
  iterate 7 refine G ?_
  exact ret1 (v:= .slice _ _ _) rfl rfl rfl fun w' hw=>⟨(none,0),rfl,hw.nilRow _ _ _ rfl⟩
 ·iterate 4 refine G ?_
  refine X_eff (f_slit0 Pz.cells Tryz.underlying189 Tryz.sizeOf248 rfl fun A1 c1=>?_)
  refine G ?_
  refine X_append (f_append (k:=4) (i:=Tryz.t248) (enc:=Pz.cells) 0 Tryz.underlying189 (by kernel_rfl) rfl rfl rfl rfl (fun _=>rfl) (fun _=>rfl) rfl rfl rfl (fun w hw=>hx.mem hw) ⟨by simp;omega,by decide⟩ rfl fun A2 c2=>?_)
  iterate 4 refine G ?_
  exact ret1 (v:= .slice _ _ _) rfl rfl rfl fun w' hw=>⟨(A2,c2),rfl,hw⟩
theorem copied_w (x:RX) (w:World) (hx:RdAt w x) (hl:x.r.legs.length≤100000) (hp:x.r.pauses.length≤100000):Calls Tryz.prog 121 #[.agg x.cells.toArray] w fun e w'=> ∃y:RPl,e= .returned (.agg (RX.cells ⟨x.r,y⟩).toArray)∧Mem w (rdParts ⟨x.r,y⟩) w':=by
 obtain ⟨r,⟨lA,lc,pA,pc⟩⟩:=x
 obtain ⟨hlg,hpz⟩:=hx
 simp only at hlg hpz hl hp
 refine H_enter Tryz.func121 rfl Tryz.ntmps121 rfl ?_
 iterate 2 refine G ?_
 refine X_box (v:= .agg _) rfl rfl fun b1=>?_
 refine X_alloc Tryz.zeroValue191 rfl fun b2=>?_
 iterate 3 refine G ?_
 refine H_cut [3,4,5,6,7,8,9,10] (fun _:RPl=>[]) (fun s=>[lgRow s.lA s.lc r.legs,pzRow s.pA s.pc r.pauses,box b2 191 [.int .i64 0, .int .i64 0, .int .i64 0, .int .i64 0, .int .i64 0, .int .i64 0, .bool false, .slice none 0 0, .slice none 0 0, .int .i64 0, .int .i64 0, .int .i64 0, .int .i64 0],box b1 191 (RX.cells ⟨r,s⟩)]) (fun _=>True) ?_ ?_
 ·refine RAd 2 rfl (by decide+kernel) ?_
  refine aW 0 ?_
  refine aW 3 ?_
  refine rdy2 (i:=1) (j:=4) (by decide+kernel) (sub_drop 2) ?_ ?_
  ·refine aL rfl (f_ev (e_ld (v:= .slice lA r.legs.length lc) Tryz.isAgg188 (q0 rfl) cb) rfl rfl ?_)
   refine rdy2 (i:=2) (j:=4) (by decide+kernel) (sub_drop 2) ?_ ?_
   ·refine aL rfl (f_callx (en Tryz.call176 (ha1 (q0 rfl))) (fun w hw=>cloneLg_w lA _ lc r.legs w (hlg.mem hw) hl) rfl (fun _=>rfl) fun ly=>?_)
    refine r1 4 3 ?_
    refine aL rfl (f_ev (e_ld (v:= .slice pA r.pauses.length pc) Tryz.isAgg189 (q0 rfl) cb) rfl rfl ?_)
    refine aW 6 ?_
    refine r1 5 3 ?_
    refine aL rfl (f_callx (en Tryz.call177 (ha1 (q0 rfl))) (fun w hw=>clonePz_w pA _ pc r.pauses w (hpz.mem hw) hp) rfl (fun _=>rfl) fun py=>?_)
    refine aI 1 ?_
    refine r1 7 4 ?_
    refine aL rfl (f_st (v:= .slice _ _ _) rfl rfl Tryz.sizeOf188 ?_)
    refine aW 8 ?_
    refine r1 9 4 ?_
    refine aL rfl (f_st (v:= .slice _ _ _) rfl rfl Tryz.sizeOf189 ?_)
    refine aZ (by decide+kernel) (sub_drop 4) ?_
    exact cutJ_normal (⟨ly.1,ly.2,py.1,py.2⟩:RPl) agr trivial (fun w hw=>hw) rfl trivial
   ·refine aL rfl (f_ev (e_ld (v:= .slice pA r.pauses.length pc) Tryz.isAgg189 (q0 rfl) cb) rfl rfl ?_)
    refine r1 2 2 ?_
    refine aL rfl (f_callx (en Tryz.call176 (ha1 (q0 rfl))) (fun w hw=>cloneLg_w lA _ lc r.legs w (hlg.mem hw) hl) rfl (fun _=>rfl) fun ly=>?_)
    refine aW 6 ?_
    refine r1 5 3 ?_
    refine aL rfl (f_callx (en Tryz.call177 (ha1 (q0 rfl))) (fun w hw=>clonePz_w pA _ pc r.pauses w (hpz.mem hw) hp) rfl (fun _=>rfl) fun py=>?_)
    refine aI 1 ?_
    refine r1 7 4 ?_
    refine aL rfl (f_st (v:= .slice _ _ _) rfl rfl Tryz.sizeOf188 ?_)
    refine aW 8 ?_
    refine r1 9 4 ?_
    refine aL rfl (f_st (v:= .slice _ _ _) rfl rfl Tryz.sizeOf189 ?_)
    refine aZ (by decide+kernel) (sub_drop 4) ?_
    exact cutJ_normal (⟨ly.1,ly.2,py.1,py.2⟩:RPl) agr trivial (fun w hw=>hw) rfl trivial
  ·refine aL rfl (f_ev (e_ld (v:= .slice pA r.pauses.length pc) Tryz.isAgg189 (q0 rfl) cb) rfl rfl ?_)
   refine r1 1 2 ?_
   refine aL rfl (f_ev (e_ld (v:= .slice lA r.legs.length lc) Tryz.isAgg188 (q0 rfl) cb) rfl rfl ?_)
   refine r1 2 2 ?_
   refine aL rfl (f_callx (en Tryz.call176 (ha1 (q0 rfl))) (fun w hw=>cloneLg_w lA _ lc r.legs w (hlg.mem hw) hl) rfl (fun _=>rfl) fun ly=>?_)
   refine aW 6 ?_
   refine r1 5 3 ?_
   refine aL rfl (f_callx (en Tryz.call177 (ha1 (q0 rfl))) (fun w hw=>clonePz_w pA _ pc r.pauses w (hpz.mem hw) hp) rfl (fun _=>rfl) fun py=>?_)
   refine aI 1 ?_
   refine r1 7 4 ?_
   refine aL rfl (f_st (v:= .slice _ _ _) rfl rfl Tryz.sizeOf188 ?_)
   refine aW 8 ?_
   refine r1 9 4 ?_
   refine aL rfl (f_st (v:= .slice _ _ _) rfl rfl Tryz.sizeOf189 ?_)
   refine aZ (by decide+kernel) (sub_drop 4) ?_
   exact cutJ_normal (⟨ly.1,ly.2,py.1,py.2⟩:RPl) agr trivial (fun w hw=>hw) rfl trivial
 ·intro s g _
  iterate 4 refine G ?_
  refine X_st (v:= .agg _) rfl rfl Tryz.sizeOf191 ?_
  iterate 3 refine G ?_
  exact ret_of rfl (resc1 2 rfl rfl Tryz.isAgg191 Tryz.sizeOf191 rfl rfl) fun w' hw=>⟨s,rfl,hw.pick [0,1] (by decide)⟩
def Short (xs:List RX):Prop:= ∀x∈xs,x.r.legs.length≤100000∧x.r.pauses.length≤100000
def RdsNew (l:List Rd):Type:={y:Option Addr×Nat×List RX//y.2.2.map (·.r)=l}
def finalP (h:Int) (r:Rd):Bool:=!r.open_&&decide (r.end_.lo<h)
theorem final_w (A:Option Addr) (n c:Nat) (xs:List RX) (h:Int) (w:World) (hx:RdsAt w A n xs) (hs:Short xs) (hn1:n≤100000):Calls Tryz.prog 65 #[.slice A n c, .int .i64 h] w fun e w'=> ∃y:RdsNew ((xs.map (·.r)).filter (finalP h)),e= .returned (.slice y.1.1 y.1.2.2.length y.1.2.1)∧Mem w [rdRow y.1.1 y.1.2.1 y.1.2.2,rdBag y.1.2.2] w':=by
 have hl:=hx.1.1
 refine H_enter Tryz.func65 rfl Tryz.ntmps65 rfl ?_
 iterate 19 refine G ?_
 refine H_loop [5,7,10,11,12,13,14,15,16,17,18,19,20,21,22,23,24,25,26,27,28,29] (fun q:Nat×Option Addr×Nat×List RX=>[(10, .int .i64 q.1),(5, .slice q.2.1 q.2.2.2.length q.2.2.1)]) (fun q=>[rdRow q.2.1 q.2.2.1 q.2.2.2,rdBag q.2.2.2]) (fun q=>q.1≤n∧q.2.2.2.length≤q.1∧q.2.2.2.map (·.r)=((xs.map (·.r)).take q.1).filter (finalP h)) (fun q=>n -q.1) (0,none,0,[]) ⟨rfl,rfl,trivial⟩ (fun w hw=>((mem_nil.2 hw.1).noBag (f:=rdParts)).nilRow _ _ _ rfl) rfl ⟨Nat.zero_le _,Nat.le_refl _,rfl⟩ ?_
 rintro ⟨k,oA,oc,ys⟩ g ⟨hk,hyk,hall⟩
 simp only at hk hyk hall
 iterate 6 refine G ?_
 refine H_cond rfl ?_ ?_<;>intro hlt
 ·have hlt':k<n:=by simpa using hlt
  obtain ⟨b,off,y,rfl,hbl,hy,hry⟩:=hx.1.at_ hlt'
  have hym:=List.mem_of_getElem? hy
  have hya:=hx.2 y hym
  have hys:=hs y hym
  have hyr:(xs.map (·.r))[k]?=some y.r:=by simp [hy]
  have hst:=take_snoc _ _ _ hyr
  iterate 6 refine G ?_
  refine xV (e_idx _ Tryz.underlying135 Tryz.sizeOf191 (q0 rfl) (q0 rfl) (fun _=>⟨rfl,by omega⟩)) rfl rfl ?_
  refine G ?_
  refine X_alloc Tryz.zeroValue191 rfl fun b7=>?_
  refine X_st (v:= .agg _) rfl rfl Tryz.sizeOf191 ?_
  iterate 16 refine G ?_
  refine H_cond rfl ?_ ?_<;>intro hb
  ·have hnew: ∀z:RPl,(ys++[(⟨y.r,z⟩:RX)]).map (·.r)=((xs.map (·.r)).take (k+1)).filter (finalP h):=fun z=>by
    rw [hst,List.filter_append,←hall,List.map_append,List.filter_cons_of_pos (show finalP h y.r=true from hb)];rfl
   iterate 3 refine G ?_
   refine xCX (en Tryz.call121 (ha1 (q0 rfl))) (fun w hw=>copied_w y w (hya.mem hw) hys.1 hys.2) rfl (fun _=>rfl) fun z=>?_
   refine X_push (k:=13) (i:=Tryz.t191) 3 (⟨y.r,z⟩) Tryz.underlying135 (by kernel_rfl) rfl rfl rfl rfl Tryz.sizeOf191 Tryz.zeroValue191 rfl rfl rfl rfl rfl rfl ⟨by simp only;omega,by decide⟩ rfl rfl fun PB A1 c1=>?_
   iterate 8 refine G ?_
   exact loopJ_normal (k+1,A1,c1,ys++[⟨y.r,z⟩]) agr ⟨rfl,rfl,trivial⟩ (fun w hw=>by have h1:=hw.pick [0,1,4,3] (by decide);have h2:=Mem.pushed (f:=rdParts) (y:=⟨y.r,z⟩) (xs:=ys) h1;exact h2.pick [1,0] (by decide)) rfl ⟨by show k+1≤_;omega,by simp;omega,hnew z⟩ (by show n -(k+1)<n -k;omega)
  ·have hold:ys.map (·.r)=((xs.map (·.r)).take (k+1)).filter (finalP h):=by
    rw [hst,List.filter_append,←hall,List.filter_cons_of_neg (by rw [show finalP h y.r=false from hb];decide)];simp
   iterate 7 refine G ?_
   exact loopJ_normal (k+1,oA,oc,ys) agr ⟨rfl,rfl,trivial⟩ (fun w hw=>hw.tail) rfl ⟨by show k+1≤_;omega,by show ys.length≤k+1;omega,hold⟩ (by show n -(k+1)<n -k;omega)
 ·have hend:k=n:=by simp at hlt;omega
  have hfin:ys.map (·.r)=(xs.map (·.r)).filter (finalP h):=by rw [hall,hend,←hl,List.take_of_length_le (by simp)]
  iterate 12 refine G ?_
  exact ret1 (v:= .slice _ _ _) rfl rfl rfl fun w' hw=>⟨⟨(oA,oc,ys),hfin⟩,rfl,hw⟩
end Go.Proofs.Rid
namespace Go.Proofs.Far
open Go Go.RowKit Go.Proofs.E Go.Proofs.Cus Go.Proofs.Rid
theorem fl272 {fs:Array Field} (h:Tryz.prog.underlying 272=some (.struct fs):=by exact Tryz.underlying272):FieldsLie Tryz.prog fs [(0,1),(1,1),(2,1)]:=by
 rw [Tryz.underlying272] at h
 cases h
 intro w
 kernel_rfl
theorem fl81 {fs:Array Field} (h:Tryz.prog.underlying 81=some (.struct fs):=by exact Tryz.underlying81):FieldsLie Tryz.prog fs [(0,1),(1,1),(2,1),(3,1)]:=by
 rw [Tryz.underlying81] at h
 cases h
 intro w
 kernel_rfl
theorem fl204 {fs:Array Field} (h:Tryz.prog.underlying 204=some (.struct fs):=by exact Tryz.underlying204):FieldsLie Tryz.prog fs [(0,4)]:=by
 rw [Tryz.underlying204] at h
 cases h
 intro w
 kernel_rfl
section
variable {c:Cx} {w0:World} {L:List E.Item} {f:Fr} {ty t:TypeId} {x:Operand} {g:Bool} {m:Int}
theorem e_neg (hx:OpV g f x (.int .i64 m)) {r:Int} (hr:g=true→ -m=r∧ -9223372036854775808≤r∧r≤9223372036854775807):EvG g c w0 L f (.unOp .neg t x) ty (.int .i64 r):=fun e _ _ _ _ w _=>by
 obtain ⟨rfl,h1,h2⟩:=hr e
 have h3:IntKind.i64.wrap (0 -m)= -m:=by rw [Int.zero_sub];exact IntWalk.i64_in _ ⟨h1,h2⟩
 have h4:IntKind.i64.wrap (-m)= -m:=IntWalk.i64_in _ ⟨h1,h2⟩
 simp [execOp,hx e,Op.unary,Op.intArith,h3,h4]
end
def rdsErrL:List Rd→Int
 |[]=>0
 |r::l=>if checkR r≠0 then checkR r else rdsErrL l
def rdsErr (rs:List Rd):Int:=if 256<rs.length then 8 else if rdsErrL rs≠0 then rdsErrL rs else if twiceI [] (rs.map (·.id))=true then 6 else 0
theorem rdsErrL_ok: ∀{l:List Rd},rdsErrL l=0→ ∀r∈l,checkR r=0
 |[],_,r,hr=>by cases hr
 |x::l,h,r,hr=>by
  unfold rdsErrL at h
  split at h
  ·omega
  ·rcases List.mem_cons.1 hr with rfl|hr
   ·rename_i h2;simpa using h2
   ·exact rdsErrL_ok h r hr
theorem rdsErr_good {rs:List Rd} (h:rdsErr rs=0):Good rs:=by
 unfold rdsErr at h
 split at h
 ·cases h
 ·split at h
  ·omega
  ·split at h
   ·cases h
   ·rename_i h1 h2 h3
    exact ⟨rdsErrL_ok (by simpa using h2),by simpa using h3,by omega⟩
def tw (ids:List Int) (k:Nat):Bool:=twiceI [] (ids.take k)
theorem tw_snoc: ∀(l seen:List Int) (x:Int),twiceI seen (l++[x])=(twiceI seen l||hasI (seen++l) x)
 |[],seen,x=>by unfold twiceI hasI;simp [twiceI]
 |y::l,seen,x=>by
  rw [List.cons_append]
  unfold twiceI
  rw [tw_snoc l (seen++[y]) x,List.append_assoc,Bool.or_assoc];rfl
theorem tw_succ {ids:List Int} {k:Nat} {x:Int} (h:ids[k]?=some x):tw ids (k+1)=(tw ids k||hasI (ids.take k) x):=by
 unfold tw
 rw [snocT _ _ _ h,tw_snoc];rfl
def keyU (ids:List Int):List Int:=ids.foldl (fun l x=>if hasI l x then l else l++[x]) []
theorem hasI_keyU_go (ids:List Int): ∀(l:List Int) (x:Int),hasI (ids.foldl (fun l x=>if hasI l x then l else l++[x]) l) x=(hasI l x||hasI ids x):=by
 induction ids with
 |nil=>intro l x;unfold hasI;simp
 |cons y ids ih=>
  intro l x
  rw [List.foldl_cons,ih]
  by_cases hy:hasI l y=true
  ·rw [if_pos hy]
   have:hasI (y::ids) x=((y==x)||hasI ids x):=rfl
   rw [this]
   by_cases hx:y=x
   ·subst hx;rw [hy];simp
   ·have:(y==x)=false:=beq_eq_false_iff_ne.2 hx
    rw [this,Bool.false_or]
  ·rw [if_neg hy]
   have h1:hasI (l++[y]) x=(hasI l x||(y==x)):=by unfold hasI;rw [List.any_append];simp
   have h2:hasI (y::ids) x=((y==x)||hasI ids x):=rfl
   rw [h1,h2,Bool.or_assoc]
theorem hasI_keyU (ids:List Int) (x:Int):hasI (keyU ids) x=hasI ids x:=by
 unfold keyU
 rw [hasI_keyU_go];rfl
theorem mput_has: ∀(l:List Int) (x:Int),hasI l x=true→mput (keysI l) x (.bool true)=keysI l
 |[],x,h=>by cases h
 |y::l,x,h=>by
  by_cases hy:y=x
  ·subst hy
   simp [keysI,mput]
  ·have h2:(y==x)=false:=beq_eq_false_iff_ne.2 hy
   have h3:hasI l x=true:=by
    have:hasI (y::l) x=((y==x)||hasI l x):=rfl
    rw [this,h2,Bool.false_or] at h
    exact h
   have ih:=mput_has l x h3
   simp only [keysI,List.map_cons,mput,h2,Bool.false_eq_true,if_false] at ih⊢
   rw [ih]
theorem mput_keyU {ids:List Int} {k:Nat} {x:Int} (h:ids[k]?=some x):mput (keysI (keyU (ids.take k))) x (.bool true)=keysI (keyU (ids.take (k+1))):=by
 have hs:keyU (ids.take (k+1))=if hasI (keyU (ids.take k)) x then keyU (ids.take k) else keyU (ids.take k)++[x]:=by
  unfold keyU
  rw [snocT _ _ _ h,List.foldl_append];rfl
 rw [hs]
 by_cases hx:hasI (keyU (ids.take k)) x=true
 ·rw [if_pos hx,mput_has _ _ hx]
 ·rw [if_neg hx]
  exact mput_keysI _ _ (by simpa using hx)
theorem rdsErrL_at {l:List Rd} {k:Nat} {r:Rd} (h:l[k]?=some r):rdsErrL (l.drop k)=if checkR r≠0 then checkR r else rdsErrL (l.drop (k+1)):=by
 rw [drop_of h];rfl
attribute [local irreducible] keyU tw
theorem rides_w (A:Option Addr) (n c:Nat) (rs:List RX) (w:World) (hr:RdsAt w A n rs) (hshort:Short rs):Calls Tryz.prog 105 #[.slice A n c] w fun e w'=>e= .returned (.int .i64 (rdsErr (rs.map (·.r))))∧Bel w w':=by
 have hl:=hr.1.1
 have hn:=hr.1.2.1
 obtain ⟨ids,hids⟩: ∃ids:List Int,ids=(rs.map (·.r)).map (·.id):=⟨_,rfl⟩
 have hidl:ids.length=n:=by rw [hids,List.length_map,List.length_map,hl]
 have hrl:(rs.map (·.r)).length=n:=by rw [List.length_map,hl]
 refine H_enter Tryz.func105 rfl Tryz.ntmps105 rfl ?_
 iterate 13 refine G ?_
 refine H_cond rfl ?_ ?_<;>intro h1
 ·have h1':256<n:=by
   have h:(256:Int)<(n:Int):=of_decide_eq_true h1
   omega
  iterate 7 refine G ?_
  exact ret1 (v:= .int _ _) rfl rfl rfl fun w' hw=>⟨ret_int (by unfold rdsErr;rw [if_pos (by omega)]),hw.1⟩
 ·have h1': ¬256<n:=by
   have h: ¬(256:Int)<(n:Int):=of_decide_eq_false h1
   omega
  have herr:rdsErr (rs.map (·.r))=if rdsErrL (rs.map (·.r))≠0 then rdsErrL (rs.map (·.r)) else if tw ids n=true then 6 else 0:=by
   unfold rdsErr tw
   rw [if_neg (by omega),hids,List.take_of_length_le (by rw [List.length_map];omega)]
  rw [herr]
  iterate 4 refine G ?_
  refine X_makeMap rfl fun bm=>?_
  refine xV (e_as (v:= .map _) (q0 rfl)) rfl rfl ?_
  iterate 16 refine G ?_
  refine H_loop [2,4,6,7,14,15,16,17,18,19,20,21,22,23,24,25,26,27,28,29,30,31,32,33] (fun k:Nat=>[(14, .int .i64 k),(4, .bool (tw ids k))]) (fun k=>[imap bm (keysI (keyU (ids.take k)))]) (fun k=>k≤n∧rdsErrL (rs.map (·.r))=rdsErrL ((rs.map (·.r)).drop k)) (fun k=>n -k) 0 ⟨rfl,by unfold tw;rfl,trivial⟩ (fun w hw=>by unfold keyU;exact hw) rfl ⟨Nat.zero_le _,rfl⟩ ?_
  rintro k g ⟨hk,hall⟩
  iterate 6 refine G ?_
  refine H_cond rfl ?_ ?_<;>intro hlt
  ·have hlt':k<n:=by
    have h:(k:Int)<(n:Int):=of_decide_eq_true hlt
    omega
   obtain ⟨b,off,x,rfl,hbl,hxk,hrx⟩:=hr.1.at_ hlt'
   have hxm:=List.mem_of_getElem? hxk
   have hxr:(rs.map (·.r))[k]?=some x.r:=by simp [hxk]
   have hik:ids[k]?=some x.r.id:=by rw [hids];simp [hxk]
   rw [rdsErrL_at hxr] at hall
   have hsh:=hshort x hxm
   iterate 6 refine G ?_
   refine xV (e_idx _ Tryz.underlying135 Tryz.sizeOf191 (q0 rfl) (q0 rfl) (fun _=>⟨rfl,by omega⟩)) rfl rfl ?_
   refine G ?_
   refine X_alloc Tryz.zeroValue191 rfl fun b6=>?_
   refine X_st (v:= .agg _) rfl rfl Tryz.sizeOf191 ?_
   iterate 6 refine G ?_
   refine xC (en Tryz.call160 (ha1 (q0 rfl))) (fun _ w hw=>rcheck_w x w ((hr.2 x hxm).mem hw) (by omega) (by omega)) rfl rfl ?_
   iterate 9 refine G ?_
   refine H_cond rfl ?_ ?_<;>intro h2
   ·have h2':checkR x.r≠0:=by simpa using h2
    rw [if_pos h2'] at hall
    iterate 13 refine G ?_
    exact ret1 (v:= .int _ _) rfl rfl rfl fun w' hw=>⟨ret_int (by rw [hall,if_pos h2']),hw.1⟩
   ·have h2': ¬checkR x.r≠0:=by simpa using h2
    rw [if_neg h2'] at hall
    have htw:=tw_succ hik
    iterate 6 refine G ?_
    refine xVF (e_mv (v:= .map _) (q0 rfl)) rfl rfl rfl rfl ?_
    iterate 2 refine G ?_
    refine xVF (e_look (u:= .bool (hasI (ids.take k) x.r.id)) 1 Tryz.underlying224 Tryz.underlying3 Tryz.zeroValue4 (q1 rfl) (q1 rfl) rfl (fun _=>by rw [←hasI_keyU];exact look_keysI _ _)) rfl rfl rfl rfl ?_
    iterate 5 refine G ?_
    refine xV (e_mv (v:= .map _) (q0 rfl)) rfl rfl ?_
    iterate 2 refine G ?_
    refine X_mapset 1 Tryz.underlying224 Tryz.underlying3 rfl rfl rfl rfl ?_
    iterate 7 refine G ?_
    refine loopJ_normal (k+1) agr ⟨rfl,by rw [htw];cases tw ids k<;>rfl,trivial⟩ (fun w hw=>?_) rfl ⟨by omega,hall⟩ (by show n -(k+1)<n -k;omega)
    have:=hw.tail
    rw [←mput_keyU hik]
    exact this
  ·have hend:k=n:=by
    have h: ¬(k:Int)<(n:Int):=of_decide_eq_false hlt
    omega
   subst hend
   have h0:rdsErrL (rs.map (·.r))=0:=by rw [hall,List.drop_of_length_le (by omega)];rfl
   rw [h0,if_neg (by omega)]
   iterate 11 refine G ?_
   refine H_cond rfl ?_ ?_<;>intro h3
   ·have h3':tw ids k=true:=h3
    iterate 7 refine G ?_
    exact ret1 (v:= .int _ _) rfl rfl rfl fun w' hw=>⟨ret_int (by rw [if_pos h3']),hw.1⟩
   ·have h3':tw ids k=false:=h3
    iterate 8 refine G ?_
    exact ret1 (v:= .int _ _) rfl rfl rfl fun w' hw=>⟨ret_int (by rw [h3'];rfl),hw.1⟩
theorem place_w (p:Pr) (a:PrA) (x:RX) (w:World) (hp:PrAt w p a) (hpl:x.r.pl≤9223372036854775807):Calls Tryz.prog 169 #[.agg (p.cells a).toArray, .agg x.cells.toArray] w fun e w'=>e= .returned (.tuple #[.int .i64 (placeP p x.r).1, .int .i64 (placeP p x.r).2])∧Bel w w':=by
 have hl1:=hp.pl.1
 have hl2:=hp.dk.1
 refine H_enter Tryz.func169 rfl Tryz.ntmps169 rfl ?_
 iterate 2 refine G ?_
 refine X_box (v:= .agg _) rfl rfl fun b2=>?_
 refine X_box (v:= .agg _) rfl rfl fun b3=>?_
 iterate 27 refine G ?_
 refine H_cond rfl ?_ ?_<;>intro h1
 ·have h1':x.r.wh=2∧0≤x.r.pl∧x.r.pl<p.places.length:=by
   have h:(((decide (x.r.wh=2))&&decide (0≤x.r.pl))&&decide (x.r.pl<(a.pl.n:Int)))=true:=h1
   simp at h;omega
  obtain ⟨k,hk⟩: ∃k:Nat,x.r.pl=(k:Int):=⟨x.r.pl.toNat,by omega⟩
  have hkn:k<a.pl.n:=by omega
  obtain ⟨b,off,v,hA,hbl,hv,hrv⟩:=hp.pl.at_ hkn
  have hpe:placeP p x.r=(v,x.r.pl):=by
   unfold placeP
   rw [if_pos h1',hk,Int.toNat_natCast,List.getD_eq_getElem?_getD,hv];rfl
  rw [hpe]
  refine G ?_
  refine R1 rfl (by decide+kernel) ?_
  refine G ?_
  refine xV (e_ld (v:= .slice (some ⟨b,off,none⟩) a.pl.n a.pl.c) Tryz.isAgg22 (q0 rfl) (by rw [←hA];exact bx 1 rfl rfl)) rfl rfl ?_
  iterate 2 refine G ?_
  refine xV (e_idx k Tryz.underlying22 Tryz.sizeOf3 (q0 rfl) (q0 rfl) (fun _=>⟨hk,hkn⟩)) rfl rfl ?_
  iterate 10 refine G ?_
  exact ret2 (v:= .int _ _) (x:= .int _ _) rfl rfl rfl rfl fun w' hw=>⟨rfl,hw.1⟩
 ·have h1': ¬(x.r.wh=2∧0≤x.r.pl∧x.r.pl<p.places.length):=by
   have h:(((decide (x.r.wh=2))&&decide (0≤x.r.pl))&&decide (x.r.pl<(a.pl.n:Int)))=false:=h1
   simp at h;omega
  iterate 13 refine G ?_
  refine xVT (e_quo (q1 rfl) (q0 rfl) (fun hg=>by simp at hg;exact ⟨by omega,by omega,by omega⟩)) rfl rfl rfl rfl ?_
  iterate 8 refine G ?_
  refine H_cond rfl ?_ ?_<;>intro h2
  ·have h2':x.r.wh=1∧0≤x.r.pl∧x.r.pl/32<p.docks.length:=by
    have h:(((decide (x.r.wh=1))&&decide (0≤x.r.pl))&&decide (x.r.pl/32<(a.d.n:Int)))=true:=h2
    simp at h;omega
   obtain ⟨k,hk⟩: ∃k:Nat,x.r.pl/32=(k:Int):=⟨(x.r.pl/32).toNat,by omega⟩
   have hkn:k<a.d.n:=by omega
   obtain ⟨b,off,v,hA,hbl,hv,hrv⟩:=hp.dk.at_ hkn
   have hpe:placeP p x.r=(v,64+x.r.pl/32):=by
    unfold placeP
    rw [if_neg h1',if_pos h2',hk,Int.toNat_natCast,List.getD_eq_getElem?_getD,hv];rfl
   rw [hpe]
   iterate 4 refine G ?_
   refine xV (e_quo (q0 rfl) (q0 rfl) (fun _=>⟨by omega,by omega,by omega⟩)) rfl rfl ?_
   iterate 6 refine G ?_
   refine xV (e_ld (v:= .slice (some ⟨b,off,none⟩) a.d.n a.d.c) Tryz.isAgg22 (q0 rfl) (by rw [←hA];exact bx 1 rfl rfl)) rfl rfl ?_
   refine G ?_
   refine xV (e_idx k Tryz.underlying22 Tryz.sizeOf3 (q0 rfl) (q0 rfl) (fun _=>⟨hk,hkn⟩)) rfl rfl ?_
   iterate 2 refine G ?_
   refine xV (e_add (r:=64+x.r.pl/32) (q0 rfl) (q0 rfl) (fun _=>⟨rfl,by omega,by omega⟩)) rfl rfl ?_
   iterate 7 refine G ?_
   exact ret2 (v:= .int _ _) (x:= .int _ _) rfl rfl rfl rfl fun w' hw=>⟨rfl,hw.1⟩
  ·have h2': ¬(x.r.wh=1∧0≤x.r.pl∧x.r.pl/32<p.docks.length):=by
    have h:(((decide (x.r.wh=1))&&decide (0≤x.r.pl))&&decide (x.r.pl/32<(a.d.n:Int)))=false:=h2
    simp at h;omega
   iterate 10 refine G ?_
   exact ret2 (v:= .int _ _) (x:= .int _ _) rfl rfl rfl rfl fun w' hw=>⟨by unfold placeP;rw [if_neg h1',if_neg h2'],hw.1⟩
def Itm.cells (i:Itm):List Value:=[.int .i64 i.kind, .int .i64 i.ref, .int .i64 i.amount]
abbrev itRow (A:Option Addr) (c:Nat) (xs:List Itm):E.Item:=rowT 272 3 Itm.cells A c xs
def Bil.cells (b:Bil) (A:Option Addr) (c:Nat):List Value:=[.int .i64 b.ride, .int .i64 b.rider, .slice A b.items.length c, .int .i64 b.total]
theorem add_w {w0 w:World} {L:List E.Item} {q:Nat} {b:Bil} {A:Option Addr} {c:Nat} (k r a:Int) (hw:Mem w0 (box q 204 (b.cells A c)::itRow A c b.items::L) w) (hmk:marks L=[]) (hlen:b.items.length≤100) (hb: -9000000000000000000≤b.total+a∧b.total+a≤9000000000000000000):
  Calls Tryz.prog 118 #[.pointer (some ⟨q,0,none⟩), .int .i64 k, .int .i64 r, .int .i64 a] w fun e w'=> ∃z:Option Addr×Nat,e= .returned (.tuple #[])∧Mem w0 (box q 204 ((addB b k r a).cells z.1 z.2)::itRow z.1 z.2 (addB b k r a).items::L) w':=by
 refine H_enterM hw hmk Tryz.func118 rfl Tryz.ntmps118 rfl ?_
 iterate 7 refine G ?_
 refine H_cond rfl ?_ ?_<;>intro h1
 ·have h1':a=0:=by simpa using h1
  rw [show addB b k r a=b by unfold addB;rw [if_pos h1']]
  iterate 2 refine G ?_
  exact end0 rfl hmk fun w' hw=>⟨(A,c),rfl,hw⟩
 ·have h1': ¬a=0:=by simpa using h1
  rw [show addB b k r a={b with items:=b.items++[⟨k,r,a⟩],total:=b.total+a} by unfold addB;rw [if_neg h1']]
  iterate 13 refine G ?_
  refine xV (e_build Tryz.underlying272 fl272 Tryz.zeroValue272 (pt (v:= .int _ _) rfl (pt (v:= .int _ _) rfl (pt (v:= .int _ _) rfl E.p0))) rfl) rfl rfl ?_
  refine X_push (k:=3) (i:=Tryz.t272) 1 ((⟨k,r,a⟩:Itm)) Tryz.underlying79 (by kernel_rfl) rfl rfl rfl rfl Tryz.sizeOf272 Tryz.zeroValue272 rfl rfl rfl rfl rfl rfl ⟨by omega,by decide⟩ rfl rfl fun B0 A1 c1=>?_
  iterate 3 refine G ?_
  refine X_st (v:= .slice _ _ _) rfl rfl Tryz.sizeOf79 ?_
  iterate 9 refine G ?_
  refine xV (e_add (r:=b.total+a) (q0 rfl) (q0 rfl) (fun _=>⟨rfl,by omega,by omega⟩)) rfl rfl ?_
  iterate 3 refine G ?_
  refine X_st (v:= .int _ _) rfl rfl Tryz.sizeOf3 ?_
  refine G ?_
  exact end0 rfl hmk fun w' hw=>⟨(A1,c1),rfl,hw⟩
end Go.Proofs.Far
namespace Go.Proofs.Far
open Go.Proofs.Cus Go.Proofs.Rid
theorem twice_nodup: ∀(l seen:List Int),twiceI seen l=false→l.Nodup∧ ∀x∈l,x∉seen
 |[],_,_=>⟨List.nodup_nil,fun x hx=>by cases hx⟩
 |y::l,seen,h=>by
  unfold twiceI at h
  rw [Bool.or_eq_false_iff] at h
  obtain ⟨h1,h2⟩:=twice_nodup l _ h.2
  have hy:y∉seen:=fun hm=>by
   have:=h.1
   rw [List.any_eq_false] at this
   exact this y hm (by simp)
  refine ⟨List.nodup_cons.2 ⟨fun hm=>h2 y hm (by simp),h1⟩,fun x hx=>?_⟩
  rcases List.mem_cons.1 hx with rfl|hx
  ·exact hy
  ·exact fun hm=>h2 x hx (by simp [hm])
theorem nodup_twice: ∀(l seen:List Int),l.Nodup→(∀x∈l,x∉seen)→twiceI seen l=false
 |[],_,_,_=>rfl
 |y::l,seen,h,hs=>by
  unfold twiceI
  obtain ⟨h1,h2⟩:=List.nodup_cons.1 h
  rw [Bool.or_eq_false_iff]
  refine ⟨?_,nodup_twice l _ h2 fun x hx hm=>?_⟩
  ·rw [List.any_eq_false]
   intro x hx
   have: ¬x=y:=fun e=>hs y (by simp) (e▸hx)
   simpa using this
  ·rcases List.mem_append.1 hm with hm|hm
   ·exact hs x (List.mem_cons_of_mem _ hx) hm
   ·simp at hm;subst hm;exact h1 hx
def cntS (rs:List Rd):List Rd:=(rs.filter fun r=>!r.open_).mergeSort fun a b=>!rideLt b a
theorem rideLt_trans {a b c:Rd} (h1:rideLt a b=true) (h2:rideLt b c=true):rideLt a c=true:=by
 unfold rideLt at*
 simp only [decide_eq_true_eq] at*
 omega
theorem rideLe_total (a b:Rd):(!rideLt b a||!rideLt a b)=true:=by
 unfold rideLt
 simp only [Bool.or_eq_true,Bool.not_eq_true',decide_eq_false_iff_not]
 omega
theorem rideLe_trans (a b c:Rd) (h1:(!rideLt b a)=true) (h2:(!rideLt c b)=true):(!rideLt c a)=true:=by
 unfold rideLt at*
 simp only [Bool.not_eq_true',decide_eq_false_iff_not] at*
 omega
theorem rideLt_of {a b:Rd} (h:rideLt b a=false) (hne:a.id≠b.id):rideLt a b=true:=by
 unfold rideLt at*
 simp only [decide_eq_true_eq,decide_eq_false_iff_not] at*
 omega
theorem cntS_perm (rs:List Rd):(cntS rs).Perm (rs.filter fun r=>!r.open_):=List.mergeSort_perm _ _
theorem strict_of {l:List Rd} (hs:l.Pairwise fun a b=>rideLt b a=false) (hn:(l.map (·.id)).Nodup):l.Pairwise fun a b=>rideLt a b=true:=by
 have h2:l.Pairwise fun a b=>a.id≠b.id:=List.pairwise_map.1 hn
 exact (hs.and h2).imp fun h=>rideLt_of h.1 h.2
theorem good_ids {rs:List Rd} (h:Good rs):((rs.filter fun r=>!r.open_).map (·.id)).Nodup:=(twice_nodup _ _ h.ids).1.sublist (List.filter_sublist.map _)
theorem cntS_strict {rs:List Rd} (h:Good rs):(cntS rs).Pairwise fun a b=>rideLt a b=true:=by
 refine strict_of ?_ (((cntS_perm rs).map _).nodup_iff.2 (good_ids h))
 have:=List.pairwise_mergeSort (le:=fun a b:Rd=>!rideLt b a) (fun a b c h1 h2=>rideLe_trans a b c h1 h2) (fun a b=>rideLe_total a b) (rs.filter fun r=>!r.open_)
 exact this.imp fun h=>by simpa using h
theorem cntS_unique {rs l:List Rd} (h:Good rs) (hp:l.Perm (rs.filter fun r=>!r.open_)) (hs:l.Pairwise fun a b=>rideLt b a=false):l=cntS rs:=by
 have h1:=strict_of hs ((hp.map _).nodup_iff.2 (good_ids h))
 refine List.Perm.eq_of_pairwise (le:=fun a b=>rideLt a b=true) (fun a b _ _ h2 h3=>?_) h1 (cntS_strict h) (hp.trans (cntS_perm rs).symm)
 have:=rideLt_trans h2 h3
 unfold rideLt at this
 simp at this
theorem cntS_good {rs:List Rd} (h:Good rs):Good (cntS rs):=by
 have hm: ∀r∈cntS rs,r∈rs:=fun r hr=>(List.mem_filter.1 ((cntS_perm rs).mem_iff.1 hr)).1
 refine ⟨fun r hr=>h.ok r (hm r hr),nodup_twice _ _ (((cntS_perm rs).map _).nodup_iff.2 (good_ids h)) (fun x _=>by simp),?_⟩
 rw [(cntS_perm rs).length_eq]
 exact Nat.le_trans (List.length_filter_le _ _) h.few
def fsStep (p:Pr) (o:Option (List Bil)) (x:Rd×Int):Option (List Bil):=match o with|none=>none|some bs=>match firstP p x.1 x.2 with|none=>none|some b=>some (bs++[b])
def fsAll (p:Pr) (l:List (Rd×Int)):Option (List Bil):=l.foldl (fsStep p) (some [])
def FS (p:Pr) (l:List (Rd×Int)) (k:Nat):Option (List Bil):=(l.take k).foldl (fsStep p) (some [])
theorem fs_none (p:Pr): ∀l:List (Rd×Int),l.foldl (fsStep p) none=none
 |[]=>rfl
 |x::l=>by rw [List.foldl_cons];exact fs_none p l
theorem FS_succ {p:Pr} {l:List (Rd×Int)} {k:Nat} {x:Rd×Int} (h:l[k]?=some x):FS p l (k+1)=fsStep p (FS p l k) x:=by
 unfold FS
 rw [List.take_add_one,h,List.foldl_append];rfl
theorem FS_none {p:Pr} {l:List (Rd×Int)} {k:Nat} (h:FS p l k=none):fsAll p l=none:=by
 unfold fsAll
 rw [←List.take_append_drop k l,List.foldl_append]
 unfold FS at h
 rw [h]
 exact fs_none p _
theorem FS_all {p:Pr} {l:List (Rd×Int)} {k:Nat} (h:l.length≤k):FS p l k=fsAll p l:=by
 unfold FS fsAll
 rw [List.take_of_length_le h]
def vIdx (vs:List Pen.V) (ride:Int):Int:=match (List.range vs.length).find? fun k=>(vs.getD k Pen.V.zero).ride==ride with|some k=>(k:Int)|none=> -1
def finB (p:Pr) (vs:List Pen.V) (b:Bil) (d:Int):Bil:=
 if vIdx vs b.ride<0 then addB b 6 0 d else addB (addB b 6 0 d) 7 (Pen.numR p.fines p.days vs (vIdx vs b.ride)).1 (Pen.fineR p.fines p.days vs (vIdx vs b.ride)).1
def fnStep (p:Pr) (vs:List Pen.V) (o:Option (List Bil)) (x:Bil×Int):Option (List Bil):=match o with|none=>none|some bs=>if 1000000000000<(finB p vs x.1 (x.2 -x.1.total)).total then none else some (bs++[finB p vs x.1 (x.2 -x.1.total)])
def fnAll (p:Pr) (vs:List Pen.V) (l:List (Bil×Int)):Option (List Bil):=l.foldl (fnStep p vs) (some [])
def FN (p:Pr) (vs:List Pen.V) (l:List (Bil×Int)) (k:Nat):Option (List Bil):=(l.take k).foldl (fnStep p vs) (some [])
theorem fn_none (p:Pr) (vs:List Pen.V): ∀l:List (Bil×Int),l.foldl (fnStep p vs) none=none
 |[]=>rfl
 |x::l=>by rw [List.foldl_cons];exact fn_none p vs l
theorem FN_succ {p:Pr} {vs:List Pen.V} {l:List (Bil×Int)} {k:Nat} {x:Bil×Int} (h:l[k]?=some x):FN p vs l (k+1)=fnStep p vs (FN p vs l k) x:=by
 unfold FN
 rw [List.take_add_one,h,List.foldl_append];rfl
theorem FN_none {p:Pr} {vs:List Pen.V} {l:List (Bil×Int)} {k:Nat} (h:FN p vs l k=none):fnAll p vs l=none:=by
 unfold fnAll
 rw [←List.take_append_drop k l,List.foldl_append]
 unfold FN at h
 rw [h]
 exact fn_none p vs _
theorem FN_all {p:Pr} {vs:List Pen.V} {l:List (Bil×Int)} {k:Nat} (h:l.length≤k):FN p vs l k=fnAll p vs l:=by
 unfold FN fnAll
 rw [List.take_of_length_le h]
def dyOf (x:Rd×Bil):Dy:=⟨x.1.rider,x.1.start.lo/86400,x.2.total⟩
def useOf (p:Pr) (l:List Rd):List Int:=(useS p.passes (l.map reqR)).1
def paidOf (p:Pr) (l:List Rd) (bs:List Bil):List Int:=(dayS p.cap ((l.zip bs).map dyOf)).map (·.2)
def byRide (l:List Bil):List Bil:=l.mergeSort fun a b=>decide (a.ride≤b.ride)
def allP (p:Pr) (rs:List Rd) (vs:List Pen.V):Option (List Bil):=
 match fsAll p ((cntS rs).zip (useOf p (cntS rs))) with
 |none=>none
 |some bs=>match fnAll p vs (bs.zip (paidOf p (cntS rs) bs)) with
  |none=>none
  |some cs=>some (byRide cs)
def allErr (f:Fl) (p:Pr) (rs:List Rd) (vs:List Pen.V):Int:=
 if prErr f p≠0 then prErr f p else if rdsErr rs≠0 then rdsErr rs else if Pen.vErr vs≠0 then Pen.vErr vs else if allP p rs vs=none then 2 else 0
def allR (f:Fl) (p:Pr) (rs:List Rd) (vs:List Pen.V):List Bil:=if prErr f p≠0∨rdsErr rs≠0∨Pen.vErr vs≠0 then [] else (allP p rs vs).getD []
theorem first_facts {f:Fl} {p:Pr} {r:Rd} {u:Int} {b:Bil} (he:prErr f p=0) (hc:checkR r=0) (h:firstP p r u=some b):0≤b.total∧b.total≤1000000000000∧b.items.length≤5∧b.ride=r.id∧b.rider=r.rider:=by
 obtain ⟨_,htf,_⟩:=prErr_parts he
 obtain ⟨hvk,hvt⟩:=ver_ok (r:=r) htf
 have hvi:=tfOk_iff.1 hvt
 have hrs:=ridS_range hc
 have hps:=pauS_range hc
 have hrn:=ridP_nn hvt (s:=ridS r) hrs.2
 have hpn:=pauP_nn hvt (s:=pauS r) hps.2
 have hbt:=base_total p r
 have hplt:=plc_total p r
 have hpat:=pass_total p r u
 unfold firstP at h
 split at h
 ·cases h
 ·split at h
  ·cases h
  ·split at h
   ·cases h
   ·split at h
    ·cases h
    ·rename_i h4
     cases h
     refine ⟨?_,by omega,?_,?_,?_⟩
     ·rw [hpat]
      split
      ·omega
      ·omega
     ·have l1:(baseB p r).items.length≤3:=by
       unfold baseB
       have a1:=addB_len ⟨r.id,r.rider,[],0⟩ 1 (verO p r) (verT p r).unlock
       have a2:=addB_len (addB ⟨r.id,r.rider,[],0⟩ 1 (verO p r) (verT p r).unlock) 2 (verO p r) (ridP (verT p r) (ridS r))
       have a3:=addB_len (addB (addB ⟨r.id,r.rider,[],0⟩ 1 (verO p r) (verT p r).unlock) 2 (verO p r) (ridP (verT p r) (ridS r))) 3 (verO p r) (pauP (verT p r) (pauS r))
       simp only [List.length_nil] at a1
       omega
      have l2:(plcB p r).items.length≤4:=by
       have:=addB_len (baseB p r) 4 (placeP p r).2 (max (placeP p r).1 (-(baseB p r).total))
       unfold plcB;omega
      unfold passB
      split
      ·have:=addB_len (plcB p r) 5 u (-(min (plcB p r).total ((verT p r).unlock+partP p r u)));omega
      ·omega
     ·unfold passB plcB baseB
      split<;>simp only [addB_ride]
     ·unfold passB plcB baseB
      split<;>simp only [addB_ride]
theorem fineR_range {fines:List Int} {days:Int} {vs:List Pen.V} {i:Int} (h:Pen.pErr fines days=0):0≤(Pen.fineR fines days vs i).1∧(Pen.fineR fines days vs i).1≤1000000:=by
 unfold Pen.fineR
 split
 ·simp
 ·split
  ·simp
  ·simp only
   unfold Pen.fine
   split
   ·simp
   ·have hb:fines.any Pen.fineBad=false:=by
     unfold Pen.pErr at h
     split at h
     ·cases h
     ·split at h
      ·cases h
      ·rename_i h2;simpa using h2
    rw [List.any_eq_false] at hb
    rw [List.getD_eq_getElem?_getD]
    cases hk:fines[min (Pen.num days vs (vs.getD i.toNat Pen.V.zero)).toNat fines.length -1]? with
    |none=>simp
    |some x=>
     have:=hb x (List.mem_of_getElem? hk)
     unfold Pen.fineBad at this
     simp at this
     simp only [Option.getD_some]
     omega
end Go.Proofs.Far
