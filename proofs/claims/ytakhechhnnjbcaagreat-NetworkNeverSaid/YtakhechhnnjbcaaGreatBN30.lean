import Derived.Test.YtakhechhnnjbcaaGreatBN29
import Derived.Test.YtakhechhnnjbcaaGreatRows
import Derived.ProofKit
import Derived.Carry
import Derived.Below
import Derived.ChangeSame
import Derived.Deep.Slices
import Derived.Test.YtakhechhnnjbcaaGreatBN01
import Derived.Test.YtakhechhnnjbcaaGreatBN07
import Derived.OpenShut
import Derived.Test.YtakhechhnnjbcaaGreatBN04
import Derived.Test.YtakhechhnnjbcaaGreatTy
set_option maxRecDepth 100000
set_option maxHeartbeats 8000000
set_option linter.unusedVariables false
set_option linter.unusedSimpArgs false
namespace Go.Proofs.Net
open Go Go.RowKit Go.Proofs.E Go.Proofs.Cus Go.Proofs.Rid Go.Proofs.Far Go.Proofs.Hom
theorem waiting_w {f:Fl} {p:Pr} {M:NM} {bank:List Py} {sv:List (SA×SS)} {ap:List ((Nat×Nat)×List Bool)} (i:Nat) {x:SA×SS} {w0 w:World} {L:List E.Item} (hL:marks L=[]) (hw:Mem w0 (netI f p M bank sv ap L) w)
  (hss:M.ss=sv.map (·.1.s)) (h8:sv.length≤8) (hx:sv[i]?=some x) (hn:x.2.desk.length≤256):
  Calls Tryz.prog 16 #[.pointer (some ⟨M.nb,0,none⟩), .int .i64 i] w fun q w'=> ∃y:Option Addr×Nat,q= .returned (.slice y.1 (openR x.2.desk).length y.2)∧
   Mem w0 (pyRow y.1 y.2 (openR x.2.desk)::netI f p M bank sv ap L) w':=by
 obtain ⟨nb,md,mt,mp,sA,sc,ss,bA,bc,bs,kA,kc⟩:=M
 simp only at hss
 have hsi:ss[i]?=some x.1.s:=by rw [hss,List.getElem?_map,hx];rfl
 have hil:=(List.getElem?_eq_some_iff.1 hsi).1
 have hxl:=(List.getElem?_eq_some_iff.1 hx).1
 have hsl:ss.length=sv.length:=by rw [hss,List.length_map]
 have hse:sv.set i x=sv:=List.ext_getElem? fun q=>by
  by_cases hq:i=q
  ·subst hq;rw [List.getElem?_set_self hxl,hx]
  ·rw [List.getElem?_set_ne hq]
 have hw:Mem w0 (svF f.devices x++(bag ((sv.eraseIdx i).flatMap (svF f.devices))::(netH f p ⟨nb,md,mt,mp,sA,sc,ss,bA,bc,bs,kA,kc⟩ bank++(bag (ap.flatMap apF)::L)))) w:=(hw.pickN 6 [4,0,1,2,3,5] (by decide) (by decide)).apart hx
 have hfin: ∀{w':World} {sB:Option Addr} {it:E.Item},Mem w0 (it::(svF f.devices x++(bag ((sv.eraseIdx i).flatMap (svF f.devices))::(netH f p ⟨nb,md,mt,mp,sB,sc,ss,bA,bc,bs,kA,kc⟩ bank++(bag (ap.flatMap apF)::L))))) w'→Mem w0 (it::netI f p ⟨nb,md,mt,mp,sB,sc,ss,bA,bc,bs,kA,kc⟩ bank sv ap L) w':=fun {_ _ it} hw=>by
  have h:=(hw.perm (L':=svF f.devices x++(bag ((sv.eraseIdx i).flatMap (svF f.devices))::it::(netH f p _ bank++(bag (ap.flatMap apF)::L)))) (by
   exact (List.Perm.append_left _ (List.Perm.swap ..)).trans List.perm_middle)).joined (by omega)
  rw [hse] at h
  exact h.pickN 7 [1,2,3,4,5,0,6] (by decide) (by decide)
 obtain ⟨⟨sv1,ar,am,ad,ae,aA,ac⟩,ex,dx,lx⟩:=x
 refine H_enterM hw hL Tryz.func16 rfl Tryz.ntmps16 rfl ?_
 iterate 10 refine G ?_
 refine xC (en Tryz.call40 (ha2 (q0 rfl) (q0 rfl))) (fun _ w hw=>nhas_w (f:=f) (pr:=p) (M:=⟨nb,md,mt,mp,sA,sc,ss,bA,bc,bs,kA,kc⟩) (m:=bank.length) i w (hw.item (k:=7) rfl)) rfl rfl ?_
 iterate 3 refine G ?_
 refine H_cond rfl ?_ ?_<;>intro h1
 ·exfalso
  simp [hasB] at h1
  omega
 ·have _ht:True:=trivial
  refine H_know (fun w hw=>rowT_at (j:=8) hw rfl (by simp only;omega)) fun ⟨sb,hsb⟩=>?_
  subst hsb
  refine H_mem (L':=deskL ad ae aA ac dx++(svB ⟨sv1,ar,am,ad,ae,aA,ac⟩ lx::(rpL ar am f.devices ex++(bag ((sv.eraseIdx i).flatMap (svF f.devices))::(netH f p ⟨nb,md,mt,mp,some ⟨sb,0,none⟩,sc,ss,bA,bc,bs,kA,kc⟩ bank++(bag (ap.flatMap apF)::L)))))) (fun w hw=>hw.pickN 6 [3,4,5,0,1,2] (by decide) (by decide)) rfl ?_
  iterate 9 refine G ?_
  refine xV (e_idx i Tryz.underlying94 Tryz.sizeOf98 (q0 rfl) (q0 rfl) (fun _=>⟨rfl,by simp only;omega⟩)) rfl rfl ?_
  refine xV (eL Tryz.isAgg98 (q0 rfl) (rr0 8 rfl hsi rfl)) rfl rfl ?_
  iterate 3 refine G ?_
  refine X_eff (f_callM (en Tryz.call41 (ha1 (q0 rfl))) (fun w hw=>open_w (by exact hL) hw hn) rfl (fun _=>rfl) fun y=>?_)
  iterate 4 refine G ?_
  exact ret1 (v:= .slice _ _ _) rfl rfl hL fun w' hw=>⟨y,rfl,hfin (by exact hw.pickN 7 [0,4,5,6,1,2,3] (by decide) (by decide))⟩
def cityC (f:Fl) (fa:FA) (p:Pr) (a:PrA) (k:Int):List Value:=[.int .i64 f.bikes, .int .i64 f.riders, .int .i64 f.devices, .slice fa.dA fa.dn fa.dc, .slice fa.tA fa.tn fa.tc, .slice a.t.A a.t.n a.t.c, .slice a.p.A a.p.n a.p.c, .slice a.pl.A a.pl.n a.pl.c, .slice a.d.A a.d.n a.d.c, .int .i64 p.cap, .slice a.f.A a.f.n a.f.c, .int .i64 p.days, .int .i64 k]
def fewB (n:Nat) (fa:FA) (a:PrA):Bool:=decide ((n:Int)≤40)&&decide ((a.p.n:Int)≤20)&&decide ((a.t.n:Int)≤20)&&decide ((a.pl.n:Int)≤80)&&decide ((a.d.n:Int)≤40)&&decide ((a.f.n:Int)≤600)&&decide ((fa.dn:Int)≤40)&&decide ((fa.tn:Int)≤20)
theorem fl30 {fs:Array Field} (h:Tryz.prog.underlying 30=some (.struct fs):=by exact Tryz.underlying30):FieldsLie Tryz.prog fs [(0,5),(5,7),(12,1)]:=by
 rw [Tryz.underlying30] at h
 cases h
 intro w
 kernel_rfl
theorem fl24 {fs:Array Field} (h:Tryz.prog.underlying 24=some (.struct fs):=by exact Tryz.underlying24):FieldsLie Tryz.prog fs [(0,1),(1,1),(2,1),(3,1),(4,1)]:=by
 rw [Tryz.underlying24] at h
 cases h
 intro w
 kernel_rfl
theorem fl58 {fs:Array Field} (h:Tryz.prog.underlying 58=some (.struct fs):=by exact Tryz.underlying58):FieldsLie Tryz.prog fs [(0,1),(1,1),(2,1),(3,1),(4,1),(5,1),(6,1),(7,1),(8,1)]:=by
 rw [Tryz.underlying58] at h
 cases h
 intro w
 kernel_rfl
theorem few_w (f:Fl) (fa:FA) (p:Pr) (a:PrA) (k:Int) (A:Option Addr) (n c:Nat) (w:World):Calls Tryz.prog 9 #[.agg (cityC f fa p a k).toArray, .slice A n c] w fun e w'=>e= .returned (.bool (fewB n fa a))∧Bel w w':=by
 refine H_enter Tryz.func9 rfl Tryz.ntmps9 rfl ?_
 iterate 2 refine G ?_
 refine X_box (v:= .agg _) rfl rfl fun b2=>?_
 iterate 6 refine G ?_
 refine xV (eP Tryz.isAgg28 Tryz.sizeOf28 (q0 rfl)) rfl rfl ?_
 refine X_alloc Tryz.zeroValue28 rfl fun b5=>?_
 refine X_st (v:= .agg _) rfl rfl Tryz.sizeOf28 ?_
 iterate 55 refine G ?_
 exact ret1 (v:= .bool _) rfl rfl rfl fun w' hw=>⟨rfl,hw.1⟩
def noFA:FA:=⟨none,0,0,none,0,0⟩
def townA (b:Nat):PrA:=⟨⟨some ⟨b,0,none⟩,1,1⟩,⟨none,0,0⟩,⟨none,0,0⟩,⟨none,0,0⟩,⟨none,0,0⟩⟩
theorem town_w (w:World):Calls Tryz.prog 33 #[] w fun e w'=> ∃b:Nat,e= .returned (.agg (cityC xF noFA xP (townA b) 2).toArray)∧Mem w [box b 144 (xP.tariffs.flatMap Tf.cells)] w':=by
 refine H_enter Tryz.func33 rfl Tryz.ntmps33 rfl ?_
 iterate 2 refine G ?_
 refine X_alloc Tryz.zeroValue30 rfl fun b0=>?_
 iterate 4 refine G ?_
 refine xV (e_build Tryz.underlying24 fl24 Tryz.zeroValue24 (pt (v:= .int _ _) rfl (pt (v:= .int _ _) rfl (pt (v:= .int _ _) rfl E.p0))) rfl) rfl rfl ?_
 refine X_alloc Tryz.zeroValue24 rfl fun b1=>?_
 refine X_st (v:= .agg _) rfl rfl Tryz.sizeOf24 ?_
 iterate 5 refine G ?_
 refine xV (e_build Tryz.underlying144 fl144 Tryz.zeroValue144 (pt (v:= .int _ _) rfl (pt (v:= .int _ _) rfl (pt (v:= .int _ _) rfl (pt (v:= .int _ _) rfl E.p0)))) rfl) rfl rfl ?_
 refine X_slit [(.int .i64 0),(.int .i64 0),(.int .i64 0),(.int .i64 0),(.int .i64 0),(.int .i64 0)] Tryz.underlying25 Tryz.sizeOf144 Tryz.zeroValue144 rfl (by kernel_rfl) (pt (v:= .agg _) rfl E.p0) rfl rfl fun b5=>?_
 refine xV (e_build Tryz.underlying28 fl28 Tryz.zeroValue28 (pt (v:= .slice _ _ _) rfl E.p0) rfl) rfl rfl ?_
 refine xV (e_build Tryz.underlying30 fl30 Tryz.zeroValue30 (pt (v:= .agg _) rfl (pt (v:= .agg _) rfl (pt (v:= .int _ _) rfl E.p0))) rfl) rfl rfl ?_
 refine X_st (v:= .agg _) rfl rfl Tryz.sizeOf30 ?_
 iterate 3 refine G ?_
 exact ret_of rfl (resC rfl rfl Tryz.isAgg30 Tryz.sizeOf30) fun w' hw=>⟨b5,rfl,hw.pick [0] (by decide)⟩
abbrev stRow (A:Option Addr) (c:Nat) (l:List Stp):E.Item:=rowT 60 12 Stp.cells A c l
def mkE (e:Ev):Stp:=⟨1,0,0,e⟩
theorem trip_w (w:World):Calls Tryz.prog 34 #[] w fun e w'=> ∃x:Option Addr×Nat,e= .returned (.slice x.1 (xL.map mkE).length x.2)∧Mem w [stRow x.1 x.2 (xL.map mkE)] w':=by
 refine H_enter Tryz.func34 rfl Tryz.ntmps34 rfl ?_
 iterate 7 refine G ?_
 refine xV (e_build Tryz.underlying58 fl58 Tryz.zeroValue58 (pt (v:= .int _ _) rfl (pt (v:= .int _ _) rfl (pt (v:= .int _ _) rfl (pt (v:= .int _ _) rfl E.p0)))) rfl) rfl rfl ?_
 refine xV (e_build Tryz.underlying58 fl58 Tryz.zeroValue58 (pt (v:= .int _ _) rfl (pt (v:= .int _ _) rfl (pt (v:= .int _ _) rfl (pt (v:= .int _ _) rfl (pt (v:= .int _ _) rfl (pt (v:= .int _ _) rfl E.p0)))))) rfl) rfl rfl ?_
 refine xV (e_build Tryz.underlying58 fl58 Tryz.zeroValue58 (pt (v:= .int _ _) rfl (pt (v:= .int _ _) rfl (pt (v:= .int _ _) rfl (pt (v:= .int _ _) rfl E.p0)))) rfl) rfl rfl ?_
 refine xV (e_build Tryz.underlying58 fl58 Tryz.zeroValue58 (pt (v:= .int _ _) rfl (pt (v:= .int _ _) rfl (pt (v:= .int _ _) rfl (pt (v:= .int _ _) rfl E.p0)))) rfl) rfl rfl ?_
 refine X_slit [(.int .i64 0),(.int .i64 0),(.int .i64 0),(.int .i64 0),(.int .i64 0),(.int .i64 0),(.int .i64 0),(.int .i64 0),(.int .i64 0),(.int .i64 0),(.int .i64 0),(.int .i64 0),(.int .i64 0),(.int .i64 0),(.int .i64 0),(.int .i64 0),(.int .i64 0),(.int .i64 0),(.int .i64 0),(.int .i64 0),(.int .i64 0),(.int .i64 0),(.int .i64 0),(.int .i64 0),(.int .i64 0),(.int .i64 0),(.int .i64 0),(.int .i64 0),(.int .i64 0),(.int .i64 0),(.int .i64 0),(.int .i64 0),(.int .i64 0),(.int .i64 0),(.int .i64 0),(.int .i64 0)] Tryz.underlying49 Tryz.sizeOf58 Tryz.zeroValue58 rfl (by kernel_rfl) (pt (v:= .agg _) rfl (pt (v:= .agg _) rfl (pt (v:= .agg _) rfl (pt (v:= .agg _) rfl E.p0)))) rfl rfl fun b8=>?_
 iterate 15 refine G ?_
 refine H_mem (L':=[stRow none 0 [],evRow (some ⟨b8,0,none⟩) xL.length xL]) (fun w hw=>(hw.boxRow (j:=0) (e:=58) (n:=9) (enc:=Ev.cells) (xs:=xL) rfl (fun _=>rfl) (by decide)).nilRow 60 12 Stp.cells rfl) rfl ?_
 refine H_loop [2,3,9,10,11,12,13,14,15,16,17,18,19,20,21,22] (fun s:Nat×Option Addr×Nat=>[(2, .slice s.2.1 ((xL.take s.1).map mkE).length s.2.2),(3, .int .i64 s.1)]) (fun s=>[stRow s.2.1 s.2.2 ((xL.take s.1).map mkE),evRow (some ⟨b8,0,none⟩) xL.length xL]) (fun s=>s.1≤4) (fun s=>4 -s.1) (0,none,0) ⟨rfl,rfl,trivial⟩ (fun w hw=>hw) rfl (Nat.zero_le _) ?_
 rintro ⟨k,A,c⟩ g hk
 have hk:k≤4:=hk
 iterate 9 refine G ?_
 refine H_cond rfl ?_ ?_<;>intro hlt
 ·have hlt':k<4:=by simp at hlt;omega
  have hek:xL[k]?=some (xL.getD k default):=at_get hlt'
  have hst:(xL.take (k+1)).map mkE=(xL.take k).map mkE++[mkE (xL.getD k default)]:=by rw [snocL xL k _ hek,List.map_append];rfl
  have hln:((xL.take k).map mkE).length=k:=by rw [List.length_map,List.length_take];show min k 4=k;omega
  generalize xL.getD k default=e at hek hst
  iterate 8 refine G ?_
  refine xV (e_idx k Tryz.underlying49 Tryz.sizeOf58 (q0 rfl) (q0 rfl) (fun _=>⟨rfl,hlt'⟩)) rfl rfl ?_
  refine xV (eS Tryz.isAgg58 Tryz.sizeOf58 (q0 rfl) (rrs 1 rfl hek)) rfl rfl ?_
  refine xV (e_build Tryz.underlying60 fl60 Tryz.zeroValue60 (pt (v:= .int _ _) rfl (pt (v:= .agg _) rfl E.p0)) rfl) rfl rfl ?_
  refine X_push (k:=12) (i:=Tryz.t60) 0 ((mkE e)) Tryz.underlying54 (by kernel_rfl) rfl rfl rfl rfl Tryz.sizeOf60 Tryz.zeroValue60 rfl rfl rfl rfl rfl rfl ⟨by simp only;omega,by decide⟩ rfl rfl fun B A2 c2=>?_
  iterate 9 refine G ?_
  exact loopJ_normal (k+1,A2,c2) agr ⟨by show _=Value.slice A2 ((xL.take (k+1)).map mkE).length c2;rw [hst];rfl,rfl,trivial⟩ (fun w hw=>by show Mem _ [stRow A2 c2 ((xL.take (k+1)).map mkE),_] w;rw [hst];exact hw) rfl (by show k+1≤4;omega) (by show 4 -(k+1)<4 -k;omega)
 ·have hke:k=4:=by simp at hlt;omega
  subst hke
  iterate 12 refine G ?_
  exact ret1 (v:= .slice _ _ _) rfl rfl rfl fun w' hw=>⟨(A,c),rfl,hw.pick [0] (by decide)⟩
end Go.Proofs.Net
namespace Go.Proofs.Net
open Go Go.RowKit Go.Proofs.E Go.Proofs.Cus Go.Proofs.Rid Go.Proofs.Far Go.Proofs.Hom
theorem dosE_w {f:Fl} {p:Pr} (M:NM) {sv:List (SA×SS)} {ap:List ((Nat×Nat)×List Bool)} {U:List Ev} (hc:NC f p M sv ap U) {s s':NS} {y:NB} {x:Stp} {k e:Int} (hE:doN f p s x=(s',k,e)) (T:Int) {w0 w:World} {L:List E.Item} (hL:marks L=[]) (hw:Mem w0 (netS f p M s y L) w)
  (hFP: ∀w,Mem w0 L w→FlAt w f (faM M)∧PrAt w p M.p) (hy:NQ sv ap s y) (hv:NV f U T s) (hT:0≤T∧T≤900000) (hpl: -9223372036854775808≤x.ev.place∧x.ev.place≤9223372036854775807):
  Calls Tryz.prog 18 #[.pointer (some ⟨M.nb,0,none⟩), .agg x.cells.toArray] w fun q w'=> ∃z:{z:NB//NQ sv ap s' z},q= .returned (.tuple #[.int .i64 k, .int .i64 e])∧Mem w0 (netS f p M s' z.1 L) w':=by
 have h:=dos_w M hc x T hL hw hFP hy hv hT hpl
 rw [hE] at h
 exact h
theorem nvE {f:Fl} {p:Pr} {U:List Ev} {s s':NS} {x:Stp} {k e T T':Int} (hE:doN f p s x=(s',k,e)) (hT:0≤T) (hv:NV f U T s) (hx:x.kind=1→x.ev∈U) (hT':T+256≤T'):NV f U T' s':=by
 have h:=(do_ok (p:=p) hT hv hx).1
 rw [hE] at h
 exact h.mono hT'
theorem nil_at {α:Type} {w:World} {k:Nat} {enc:α→List Value}:SlAt w k enc none 0 ([]:List α):=⟨rfl,by decide,fun h=>absurd h (by decide)⟩
theorem town_at {w0 w:World} {L:List E.Item} {b j:Nat} (hw:Mem w0 L w) (hj:L[j]?=some (box b 144 (xP.tariffs.flatMap Tf.cells))):FlAt w xF noFA∧PrAt w xP (townA b):=
 ⟨⟨nil_at,nil_at⟩,slAt_box (enc:=Tf.cells) (xs:=xP.tariffs) hw hj (fun _=>rfl) (by decide),nil_at,nil_at,nil_at,nil_at⟩
theorem town_n (b:Nat):Own.PrN (townA b):=⟨(by decide:1≤100000),Nat.zero_le _,Nat.zero_le _,Nat.zero_le _,Nat.zero_le _⟩
theorem nq_at {sv l:List (SA×SS)} {ap:List ((Nat×Nat)×List Bool)} {s:NS} {y:NB} (h:NQ sv ap s y) {i:Nat} {x:SS} (hi:s.srv[i]?=some x): ∃a,y.2.1[i]?=some (a,x):=by
 rw [←h.hs,List.getElem?_map] at hi
 cases hq:y.2.1[i]? with
 |none=>rw [hq] at hi;cases hi
 |some q=>rw [hq] at hi;cases hi;exact ⟨q.1,rfl⟩
theorem same1_w {A B:Option Addr} {n m c d:Nat} {xs ys:List Py} (e:xs=ys) {w:World} (hx:PysAt w A n xs) (hy:PysAt w B m ys):Calls Tryz.prog 32 #[.slice A n c, .slice B m d] w fun e w'=>e= .returned (.bool true)∧Bel w w':=
 (same_w A B n m c d xs ys w hx hy).mono fun q w' h=>⟨by rw [h.1,decide_eq_true e],h.2⟩
theorem home2_w {f:Fl} {pr:Pr} {M:NM} {k:Nat} (h2:M.ss.length=2) (rider:Int) (w:World) (h:(box M.nb 97 (ntC f pr M k)).A w):Calls Tryz.prog 13 #[.pointer (some ⟨M.nb,0,none⟩), .int .i64 rider] w fun q w'=>q= .returned (.int .i64 (homeN 2 rider))∧Bel w w':=by
 have h3:=nhome_w rider w h (by omega) (by omega)
 rw [h2] at h3
 exact h3
theorem nv_new {f:Fl} {U:List Ev} {n:Nat}:NV f U 0 ⟨List.replicate n ⟨[],[],0⟩,List.replicate n (List.replicate n false),[]⟩:=
 ⟨fun x hx=>by rw [List.eq_of_mem_replicate hx];exact SV.zero,Nat.zero_le _,by simp,fun y hy=>by rw [List.eq_of_mem_replicate hy];simp,List.nodup_nil⟩
attribute [local irreducible] doN
theorem awake_w (w:World):Calls Tryz.prog 10 #[] w fun e w'=>e= .returned (.bool true)∧Bel w w':=by
 refine H_enter Tryz.func10 rfl Tryz.ntmps10 rfl ?_
 iterate 7 refine G ?_
 refine xCX (en Tryz.call33 (ha0)) (fun w hw=>town_w w) rfl (fun _=>rfl) fun tb=>?_
 refine X_alloc Tryz.zeroValue30 rfl fun b1=>?_
 refine X_st (v:= .agg _) rfl rfl Tryz.sizeOf30 ?_
 iterate 5 refine G ?_
 refine xV (eP Tryz.isAgg24 Tryz.sizeOf24 (q0 rfl)) rfl rfl ?_
 refine G ?_
 refine xV (eP Tryz.isAgg28 Tryz.sizeOf28 (q0 rfl)) rfl rfl ?_
 iterate 2 refine G ?_
 refine xCX (en Tryz.call11 (ha3 (q0 rfl) (q0 rfl) (q0 rfl))) (fun w hw=>newIn_w xF noFA xP (townA tb) 2 w (town_at hw (j:=1) rfl).1 (town_at hw (j:=1) rfl).2 (by decide) (by decide) (town_n tb) (by decide) (by decide) (by decide)) rfl (fun _=>rfl) fun x=>?_
 obtain ⟨⟨M,sv,ap,R⟩,hx⟩:=x
 have hsl:sv.length=2:=by have:=congrArg List.length hx.sv;simpa using this
 have hc:NC xF xP M sv ap xL:=⟨by decide,by decide,hx.ss,hx.bs,by omega,by omega,by decide⟩
 iterate 11 refine G ?_
 refine xV (e_eqNilP Tryz.underlying33 (q0 rfl)) rfl rfl ?_
 iterate 6 refine G ?_
 refine H_cond rfl ?_ ?_<;>intro h1
 ·simp at h1
 ·iterate 4 refine G ?_
  refine xCX (en Tryz.call34 (ha0)) (fun w hw=>trip_w w) rfl (fun _=>rfl) fun tr=>?_
  obtain ⟨tA,tc⟩:=tr
  iterate 5 refine G ?_
  refine H_mem (L':=netS xF xP M (xS ⟨[],[],0⟩ xZ []) ((M.kA,M.kc),sv,ap) [bag R,stRow tA tc (xL.map mkE),box b1 30 (cityC xF noFA xP (townA tb) 2),box tb 144 (xP.tariffs.flatMap Tf.cells)]) (fun w hw=>hw.pick [1,2,3,4,5,6,7,0,8,9] (by decide)) rfl ?_
  iterate 5 refine G ?_
  have hFP: ∀(X:List E.Item) (w0:World),∀w,Mem w0 (bag R::X) w→FlAt w xF (faM M)∧PrAt w xP M.p:=fun X w0 w hw=>hx.k.ok w (hw.item (k:=0) rfl)
  refine H_loop [0,5,6,7,38,39,40,41,42,43,44,45,46,47,48,49,50,51,52,53,54,55,56,57,58] (fun s:Nat×NB=>[(5, .int .i64 s.1)]) (fun s=>netS xF xP M (xS ⟨xL.take s.1,[],0⟩ xZ []) s.2 [bag R,stRow tA tc (xL.map mkE),box b1 30 (cityC xF noFA xP (townA tb) 2),box tb 144 (xP.tariffs.flatMap Tf.cells)]) (fun s=>s.1≤4∧NQ sv ap (xS ⟨xL.take s.1,[],0⟩ xZ []) s.2∧NV xF xL (256*s.1) (xS ⟨xL.take s.1,[],0⟩ xZ [])) (fun s=>4 -s.1) (0,(M.kA,M.kc),sv,ap) ⟨rfl,trivial⟩ (fun w hw=>hw) rfl ⟨Nat.zero_le _,⟨hx.sv,rfl,hx.ap,rfl⟩,nv_new (n:=2)⟩ ?_
  rintro ⟨k,y⟩ g ⟨hk,hy,hv⟩
  have hx4:xL.length=4:=rfl
  have hk:k≤4:=hk
  iterate 9 refine G ?_
  refine H_cond rfl ?_ ?_<;>intro hlt
  ·have hlt':k<4:=by simp at hlt;omega
   have hek:(xL.map mkE)[k]?=some (xE k):=by rw [List.getElem?_map,at_get hlt'];rfl
   refine H_know (fun w hw=>rowT_at (j:=7) hw rfl (by decide)) fun ⟨sb,hsb⟩=>?_
   subst hsb
   iterate 9 refine G ?_
   refine xV (e_idx k Tryz.underlying54 Tryz.sizeOf60 (q0 rfl) (q0 rfl) (fun _=>⟨rfl,hlt'⟩)) rfl rfl ?_
   refine xV (eS Tryz.isAgg60 Tryz.sizeOf60 (q0 rfl) (rrs 7 rfl hek)) rfl rfl ?_
   refine X_eff (f_callM (en Tryz.call18 (ha2 (q0 rfl) (q0 rfl))) (fun w hw=>dosE_w M hc (x_e k hlt') (256*k) rfl hw (hFP _ _) hy hv (by omega) (by have: ∀i,i<4→ -9223372036854775808≤(xE i).ev.place∧(xE i).ev.place≤9223372036854775807:=(by decide);exact this k hlt')) rfl (fun _=>rfl) fun z=>?_)
   iterate 17 refine G ?_
   refine H_cond rfl ?_ ?_<;>intro h2
   ·simp at h2
   ·iterate 8 refine G ?_
    exact loopJ_normal (k+1,z.1) agr ⟨rfl,trivial⟩ (fun w hw=>hw) rfl ⟨by show k+1≤4;omega,z.2,nvE (x_e k hlt') (by omega) hv (fun _=>by have: ∀i,i<4→(xE i).ev∈xL:=(by decide);exact this k hlt') (by show _≤256*((k+1:Nat):Int);omega)⟩ (by show 4 -(k+1)<4 -k;omega)
  ·have hke:k=4:=by simp at hlt;omega
   subst hke
   have hv4:NV xF xL 1024 (xS ⟨xL,[],0⟩ xZ []):=hv
   have hv5:=nvE (T':=1280) x_5 (by decide) hv4 (fun h=>by cases h) (by decide)
   have hv6:=nvE (T':=1536) x_6 (by decide) hv5 (fun h=>by cases h) (by decide)
   have hv7:=nvE (T':=1792) x_7 (by decide) hv6 (fun h=>by cases h) (by decide)
   have hv8:=nvE (T':=2048) x_8 (by decide) hv7 (fun h=>by cases h) (by decide)
   iterate 8 refine G ?_
   refine xV (e_build Tryz.underlying60 fl60 Tryz.zeroValue60 (pt (v:= .int _ _) rfl (pt (v:= .int _ _) rfl E.p0)) rfl) rfl rfl ?_
   refine X_eff (f_callM (en Tryz.call18 (ha2 (q0 rfl) (q0 rfl))) (fun w hw=>dosE_w M hc x_5 1024 rfl hw (hFP _ _) hy hv4 (by decide) (by decide)) rfl (fun _=>rfl) fun z5=>?_)
   iterate 10 refine G ?_
   refine xV (e_build Tryz.underlying60 fl60 Tryz.zeroValue60 (pt (v:= .int _ _) rfl (pt (v:= .int _ _) rfl (pt (v:= .int _ _) rfl E.p0))) rfl) rfl rfl ?_
   refine X_eff (f_callM (en Tryz.call18 (ha2 (q0 rfl) (q0 rfl))) (fun w hw=>dosE_w M hc x_6 1280 rfl hw (hFP _ _) z5.2 hv5 (by decide) (by decide)) rfl (fun _=>rfl) fun z6=>?_)
   iterate 10 refine G ?_
   refine xV (e_build Tryz.underlying60 fl60 Tryz.zeroValue60 (pt (v:= .int _ _) rfl (pt (v:= .int _ _) rfl (pt (v:= .int _ _) rfl E.p0))) rfl) rfl rfl ?_
   refine X_eff (f_callM (en Tryz.call18 (ha2 (q0 rfl) (q0 rfl))) (fun w hw=>dosE_w M hc x_7 1536 rfl hw (hFP _ _) z6.2 hv6 (by decide) (by decide)) rfl (fun _=>rfl) fun z7=>?_)
   iterate 10 refine G ?_
   refine xV (e_build Tryz.underlying60 fl60 Tryz.zeroValue60 (pt (v:= .int _ _) rfl (pt (v:= .int _ _) rfl E.p0)) rfl) rfl rfl ?_
   refine X_eff (f_callM (en Tryz.call18 (ha2 (q0 rfl) (q0 rfl))) (fun w hw=>dosE_w M hc x_8 1792 rfl hw (hFP _ _) z7.2 hv7 (by decide) (by decide)) rfl (fun _=>rfl) fun z8=>?_)
   iterate 9 refine G ?_
   refine xV (e_build Tryz.underlying90 fl90 Tryz.zeroValue90 (pt (v:= .int _ _) rfl (pt (v:= .int _ _) rfl (pt (v:= .int _ _) rfl E.p0))) rfl) rfl rfl ?_
   refine X_slit [(.int .i64 0),(.int .i64 0),(.int .i64 0)] Tryz.underlying40 Tryz.sizeOf90 Tryz.zeroValue90 rfl (by kernel_rfl) (pt (v:= .agg _) rfl E.p0) rfl rfl fun b84=>?_
   iterate 4 refine G ?_
   refine H_mem (L':=netS xF xP M (xS ⟨xL,[],0⟩ ⟨xL,[⟨xpay,0,1⟩],0⟩ [xpay]) z8.1 [bag R,box b84 90 ([xpay].flatMap Py.cells),stRow tA tc (xL.map mkE),box b1 30 (cityC xF noFA xP (townA tb) 2),box tb 144 (xP.tariffs.flatMap Tf.cells)]) (fun w hw=>hw.pick [1,2,3,4,5,6,7,0,8,9,10] (by decide)) rfl ?_
   obtain ⟨a8,h8⟩:=nq_at (l:=[]) z8.2 (i:=1) (x:=⟨xL,[⟨xpay,0,1⟩],0⟩) rfl
   have hl8:z8.1.2.1.length=2:=by have:=congrArg List.length z8.2.hss;rw [List.length_map,List.length_map,hsl] at this;exact this
   iterate 2 refine G ?_
   refine X_eff (f_callM (en Tryz.call16 (ha2 (q0 rfl) (q0 rfl))) (fun w hw=>waiting_w (M:={M with kA:=z8.1.1.1,kc:=z8.1.1.2}) 1 rfl hw (hx.ss.trans z8.2.hss.symm) (by omega) h8 (show 1≤256 by decide)) rfl (fun _=>rfl) fun y9=>?_)
   refine G ?_
   refine xC (en Tryz.call32 (ha2 (q0 rfl) (q0 rfl))) (fun _ w hw=>same1_w (xs:=openR [⟨xpay,0,1⟩]) (ys:=[xpay]) (by decide) (slAt_row hw (j:=0) rfl (fun _=>rfl) (show 1≤9223372036854775807 by decide)) (slAt_box (enc:=Py.cells) (xs:=[xpay]) hw (j:=8) rfl (fun _=>rfl) (by decide))) rfl rfl ?_
   iterate 4 refine G ?_
   refine H_mem (L':=netS xF xP M (xS ⟨xL,[],0⟩ ⟨xL,[⟨xpay,0,1⟩],0⟩ [xpay]) z8.1 [bag R,box b84 90 ([xpay].flatMap Py.cells),stRow tA tc (xL.map mkE),box b1 30 (cityC xF noFA xP (townA tb) 2),box tb 144 (xP.tariffs.flatMap Tf.cells)]) (fun w hw=>hw.tail) rfl ?_
   iterate 2 refine G ?_
   refine xV (e_build Tryz.underlying60 fl60 Tryz.zeroValue60 (pt (v:= .int _ _) rfl (pt (v:= .int _ _) rfl E.p0)) rfl) rfl rfl ?_
   refine X_eff (f_callM (en Tryz.call18 (ha2 (q0 rfl) (q0 rfl))) (fun w hw=>dosE_w M hc x_9 2048 rfl hw (hFP _ _) z8.2 hv8 (by decide) (by decide)) rfl (fun _=>rfl) fun z9=>?_)
   obtain ⟨a9,h9⟩:=nq_at (l:=[]) z9.2 (i:=1) (x:=⟨xL,[⟨xpay,1,2⟩],0⟩) rfl
   have hl9:z9.1.2.1.length=2:=by have:=congrArg List.length z9.2.hss;rw [List.length_map,List.length_map,hsl] at this;exact this
   have hM2:M.ss.length=2:=by rw [hx.ss,List.length_map,hsl]
   iterate 48 refine G ?_
   refine X_effG (Gd_true rfl rfl) (by first|rfl|decide|simp) (f_callx (en Tryz.call17 (ha1 (qk (v:= .pointer _) rfl (by first|rfl|decide|simp)))) (fun w hw=>bank_w (f:=xF) (p:=xP) (M:={M with kA:=z9.1.1.1,kc:=z9.1.1.2}) (b:=[xpay]) w (hw.item (k:=0) rfl) (slAt_row hw (j:=3) rfl (fun _=>rfl) (by decide)) (by decide)) rfl (fun _=>rfl) fun y10=>?_)
   refine xVT (e_fv Tryz.underlying42 rfl Tryz.isAgg40 (q0 rfl) rfl) rfl rfl rfl rfl ?_
   refine G ?_
   refine xCT (en Tryz.call32 (ha2 (q1 (v:= .slice _ _ _) rfl) (q1 (v:= .slice _ _ _) rfl))) (fun _ w hw=>same1_w (xs:=[xpay]) (ys:=[xpay]) rfl (slAt_row hw (j:=0) rfl (fun _=>rfl) (by decide)) (slAt_box (enc:=Py.cells) (xs:=[xpay]) hw (j:=8) rfl (fun _=>rfl) (by decide))) rfl rfl rfl rfl ?_
   iterate 3 refine G ?_
   refine X_effG (Gd_true rfl rfl) (by first|rfl|decide|simp) (f_callM (en Tryz.call16 (ha2 (qk (v:= .pointer _) rfl (by first|rfl|decide|simp)) (q0 rfl))) (fun w hw=>waiting_w (M:={M with kA:=z9.1.1.1,kc:=z9.1.1.2}) 1 rfl hw.tail (hx.ss.trans z9.2.hss.symm) (by omega) h9 (show 1≤256 by decide)) rfl (fun _=>rfl) fun y11=>?_)
   iterate 5 refine G ?_
   refine xCT (en Tryz.call13 (ha2 (q1 (v:= .pointer _) rfl) (q0 rfl))) (fun _ w hw=>home2_w (f:=xF) (pr:=xP) (M:={M with kA:=z9.1.1.1,kc:=z9.1.1.2}) (k:=1) hM2 1 w (hw.item (k:=1) rfl)) rfl rfl rfl rfl ?_
   iterate 4 refine G ?_
   refine xCT (en Tryz.call13 (ha2 (q1 (v:= .pointer _) rfl) (q0 rfl))) (fun _ w hw=>home2_w (f:=xF) (pr:=xP) (M:={M with kA:=z9.1.1.1,kc:=z9.1.1.2}) (k:=1) hM2 0 w (hw.item (k:=1) rfl)) rfl rfl rfl rfl ?_
   iterate 6 refine G ?_
   exact ret1 (v:= .bool _) rfl rfl rfl fun w' hw=>⟨rfl,hw.1⟩
end Go.Proofs.Net
namespace Go.Proofs.Net
open Go Go.RowKit Go.Proofs.E Go.Proofs.Cus Go.Proofs.Rid Go.Proofs.Far Go.Proofs.Hom
theorem fewB_ok {n:Nat} {fa:FA} {a:PrA} (h:fewB n fa a=true):n≤40∧fa.dn≤100000∧fa.tn≤100000∧Own.PrN a:=by
 simp only [fewB,Bool.and_eq_true,decide_eq_true_eq] at h
 exact ⟨by omega,by omega,by omega,⟨by omega,by omega,by omega,by omega,by omega⟩⟩
theorem neverMany_w (f:Fl) (fa:FA) (p:Pr) (a:PrA) (k:Int) (A:Option Addr) (n c:Nat) (w:World) (hb:fewB n fa a=false):Calls Tryz.prog 4 #[.agg (cityC f fa p a k).toArray, .slice A n c] w fun e w'=>e= .returned (.bool true)∧Bel w w':=by
 refine H_enter Tryz.func4 rfl Tryz.ntmps4 rfl ?_
 iterate 2 refine G ?_
 refine X_box (v:= .agg _) rfl rfl fun b2=>?_
 iterate 8 refine G ?_
 refine xC (en Tryz.call9 (ha2 (q0 rfl) (q0 rfl))) (fun _ w _=>few_w f fa p a k A n c w) rfl rfl ?_
 iterate 3 refine G ?_
 refine H_cond rfl ?_ ?_<;>intro hq
 ·iterate 2 refine G ?_
  refine xC (en Tryz.call10 (ha0)) (fun _ w _=>awake_w w) rfl rfl ?_
  iterate 5 refine G ?_
  exact ret1 (v:= .bool _) rfl rfl rfl fun w' hw=>⟨rfl,hw.1⟩
 ·exfalso
  rw [hb] at hq
  cases hq
theorem neverBad_w (f:Fl) (fa:FA) (p:Pr) (a:PrA) (k:Int) (A:Option Addr) (n c:Nat) (w:World) (hf:FlAt w f fa) (hp:PrAt w p a) (hb:fewB n fa a=true) (hz:netErr f p k≠0):Calls Tryz.prog 4 #[.agg (cityC f fa p a k).toArray, .slice A n c] w fun e w'=>e= .returned (.bool true)∧Bel w w':=by
 refine H_enter Tryz.func4 rfl Tryz.ntmps4 rfl ?_
 iterate 2 refine G ?_
 refine X_box (v:= .agg _) rfl rfl fun b2=>?_
 iterate 8 refine G ?_
 refine xC (en Tryz.call9 (ha2 (q0 rfl) (q0 rfl))) (fun _ w _=>few_w f fa p a k A n c w) rfl rfl ?_
 iterate 3 refine G ?_
 refine H_cond rfl ?_ ?_<;>intro hq
 ·exfalso
  rw [hb] at hq
  cases hq
 ·iterate 5 refine G ?_
  refine xV (eP Tryz.isAgg24 Tryz.sizeOf24 (q0 rfl)) rfl rfl ?_
  refine G ?_
  refine xV (eP Tryz.isAgg28 Tryz.sizeOf28 (q0 rfl)) rfl rfl ?_
  iterate 2 refine G ?_
  refine xC (en Tryz.call11 (ha3 (q0 rfl) (q0 rfl) (q0 rfl))) (fun _ w hw=>newBad_w f fa p a k w (hf.mem hw) (hp.mem hw) hz) rfl rfl ?_
  iterate 11 refine G ?_
  refine xV (e_eqNilP Tryz.underlying33 (q0 rfl)) rfl rfl ?_
  iterate 6 refine G ?_
  refine H_cond rfl ?_ ?_<;>intro hh
  ·have _ht:True:=trivial
   iterate 3 refine G ?_
   refine xV (e_eqNilP Tryz.underlying33 (q0 rfl)) rfl rfl ?_
   iterate 5 refine G ?_
   refine xCT (en Tryz.call10 (ha0)) (fun _ w _=>awake_w w) rfl rfl rfl rfl ?_
   iterate 6 refine G ?_
   exact ret1 (v:= .bool _) rfl rfl rfl fun w' hw=>⟨by simp [hz],hw.1⟩
  ·simp at hh
theorem run_0 (f:Fl) (p:Pr) (s:NS) (xs:List Stp):runN f p s (xs.take 0)=s:=rfl
attribute [local irreducible] doN runN setL
theorem neverOk_w (f:Fl) (fa:FA) (p:Pr) (a:PrA) (k:Nat) (A:Option Addr) (n c:Nat) (xs:List Stp) (w:World) (hf:FlAt w f fa) (hp:PrAt w p a) (hx:SlAt w 12 Stp.cells A n xs) (hpl: ∀x∈xs,-9223372036854775808≤x.ev.place∧x.ev.place≤9223372036854775807) (hb:fewB n fa a=true) (h0:prErr f p=0) (hk1:1≤k) (hk8:k≤8):Calls Tryz.prog 4 #[.agg (cityC f fa p a k).toArray, .slice A n c] w fun e w'=>e= .returned (.bool true)∧Bel w w':=by
 obtain ⟨hn,hd,ht,hN⟩:=fewB_ok hb
 have hxl:=hx.1
 have hdv:1≤f.devices∧f.devices≤256:=by have:=flErr_ok (prErr_ok h0);omega
 refine H_enter Tryz.func4 rfl Tryz.ntmps4 rfl ?_
 iterate 2 refine G ?_
 refine X_box (v:= .agg _) rfl rfl fun b2=>?_
 iterate 8 refine G ?_
 refine xC (en Tryz.call9 (ha2 (q0 rfl) (q0 rfl))) (fun _ w _=>few_w f fa p a k A n c w) rfl rfl ?_
 iterate 3 refine G ?_
 refine H_cond rfl ?_ ?_<;>intro hq
 ·exfalso
  rw [hb] at hq
  cases hq
 ·iterate 5 refine G ?_
  refine xV (eP Tryz.isAgg24 Tryz.sizeOf24 (q0 rfl)) rfl rfl ?_
  refine G ?_
  refine xV (eP Tryz.isAgg28 Tryz.sizeOf28 (q0 rfl)) rfl rfl ?_
  iterate 2 refine G ?_
  refine xCX (en Tryz.call11 (ha3 (q0 rfl) (q0 rfl) (q0 rfl))) (fun w hw=>newIn_w f fa p a k w (hf.mem hw) (hp.mem hw) hd ht hN h0 hk1 hk8) rfl (fun _=>rfl) fun x=>?_
  obtain ⟨⟨M,sv,ap,R⟩,hX⟩:=x
  have hsl:sv.length=k:=by have:=congrArg List.length hX.sv;simpa using this
  have hc:NC f p M sv ap (xs.map (·.ev)):=⟨prErr_ok h0,hdv,hX.ss,hX.bs,by omega,by omega,by rw [List.length_map];omega⟩
  have hFP: ∀(X:List E.Item) (w0:World),∀w,Mem w0 (bag R::X) w→FlAt w f (faM M)∧PrAt w p M.p:=fun X w0 w hw=>hX.k.ok w (hw.item (k:=0) rfl)
  iterate 11 refine G ?_
  refine xV (e_eqNilP Tryz.underlying33 (q0 rfl)) rfl rfl ?_
  iterate 6 refine G ?_
  refine H_cond rfl ?_ ?_<;>intro hh
  ·simp at hh
  ·iterate 5 refine G ?_
   refine xCX (en Tryz.call17 (ha1 (q0 rfl))) (fun w hw=>bank_w (f:=f) (p:=p) (M:=M) (b:=[]) w (hw.item (k:=0) rfl) (slAt_row hw (j:=3) rfl (fun _=>rfl) (by decide)) (by decide)) rfl (fun _=>rfl) fun b0=>?_
   obtain ⟨bA,bc⟩:=b0
   refine xV (e_fv Tryz.underlying42 rfl Tryz.isAgg40 (q0 rfl) rfl) rfl rfl ?_
   iterate 10 refine G ?_
   have hv0:NV f (xs.map (·.ev)) 0 ⟨List.replicate k ⟨[],[],0⟩,List.replicate k (List.replicate k false),[]⟩:=nv_new
   generalize hs0:(⟨List.replicate k ⟨[],[],0⟩,List.replicate k (List.replicate k false),[]⟩:NS)=s0 at hv0
   have hb0:s0.bank=[]:=by rw [←hs0]
   have hy0:NQ sv ap s0 ((M.kA,M.kc),sv,ap):=by rw [←hs0];exact ⟨hX.sv,rfl,hX.ap,rfl⟩
   have hev: ∀i,∀x∈xs.take i,x.kind=1→x.ev∈xs.map (·.ev):=fun i x hx _=>List.mem_map_of_mem (List.mem_of_mem_take hx)
   have hr0:runN f p s0 (xs.take 0)=s0:=run_0 ..
   refine H_loop [4,7,8,9,43,44,45,46,47,48,49,50,51,52,53,54,55,56,57,58,59,60,61,62] (fun s:Nat×NB×Option Addr×Nat=>[(7, .slice s.2.2.1 (runN f p s0 (xs.take s.1)).bank.length s.2.2.2),(8, .int .i64 s.1)]) (fun s=>netS f p M (runN f p s0 (xs.take s.1)) s.2.1 [bag R,pyRow s.2.2.1 s.2.2.2 (runN f p s0 (xs.take s.1)).bank,box b2 30 (cityC f fa p a k)]) (fun s=>s.1≤n∧NQ sv ap (runN f p s0 (xs.take s.1)) s.2.1) (fun s=>n -s.1) (0,((M.kA,M.kc),sv,ap),bA,bc) ⟨by rw [hr0,hb0];rfl,rfl,trivial⟩ (fun w hw=>by
    simp only [hr0]
    subst hs0
    exact hw.pick [1,2,3,4,5,6,7,0,8] (by decide)) rfl ⟨Nat.zero_le _,by rw [hr0];exact hy0⟩ ?_
   rintro ⟨i,y,cA,cc⟩ g ⟨hi,hy⟩
   have hi:i≤n:=hi
   have hy:NQ sv ap (runN f p s0 (xs.take i)) y:=hy
   obtain ⟨hvi,_,_⟩:=run_ok (p:=p) (xs.take i) (by decide) hv0 (hev i)
   have hti:(xs.take i).length=i:=by rw [List.length_take];omega
   have hbi:=hvi.bk
   iterate 9 refine G ?_
   refine H_cond rfl ?_ ?_<;>intro hlt
   ·have hlt':i<n:=by simp at hlt;omega
    obtain ⟨bb,off,s,hA,hbl,hix,hrx⟩:=hx.at_ hlt'
    subst hA
    have hst:runN f p s0 (xs.take (i+1))=(doN f p (runN f p s0 (xs.take i)) s).1:=by rw [snocL xs i s hix,run_snoc]
    have hplx:=hpl s (List.mem_of_getElem? hix)
    obtain ⟨hv2,hg,_⟩:=do_ok (p:=p) (by omega) hvi (x:=s) (fun h=>List.mem_map_of_mem (List.mem_of_getElem? hix))
    have hb2:=hv2.bk
    iterate 9 refine G ?_
    refine xV (e_idx _ Tryz.underlying54 Tryz.sizeOf60 (q0 rfl) (q0 rfl) (fun _=>⟨rfl,by omega⟩)) rfl rfl ?_
    refine G ?_
    refine X_eff (f_callM (en Tryz.call18 (ha2 (q0 rfl) (q0 rfl))) (fun w hw=>dos_w M hc s (0+256*(xs.take i).length) rfl hw (hFP _ _) hy hvi (by omega) hplx) rfl (fun _=>rfl) fun z=>?_)
    iterate 5 refine G ?_
    refine xCX (en Tryz.call17 (ha1 (q0 rfl))) (fun w hw=>bank_w (f:=f) (p:=p) (M:={M with kA:=z.1.1.1,kc:=z.1.1.2}) (b:=(doN f p (runN f p s0 (xs.take i)) s).1.bank) w (hw.item (k:=0) rfl) (slAt_row hw (j:=3) rfl (fun _=>rfl) (by omega)) hb2) rfl (fun _=>rfl) fun y2=>?_
    obtain ⟨dA,dc⟩:=y2
    refine xV (e_fv Tryz.underlying42 rfl Tryz.isAgg40 (q0 rfl) rfl) rfl rfl ?_
    iterate 8 refine G ?_
    refine xC (en Tryz.call19 (ha2 (q0 rfl) (q0 rfl))) (fun _ w hw=>begins_w dA cA _ _ dc cc _ _ w (slAt_row hw (j:=0) rfl (fun _=>rfl) (by omega)) (slAt_row hw (j:=8) rfl (fun _=>rfl) (by simp only;omega)) (rowT_cap (j:=0) (e:=90) (k:=3) (enc:=Py.cells) (A:=dA) (c:=dc) (xs:=(doN f p (runN f p s0 (xs.take i)) s).1.bank) hw rfl).1 hg.pre hv2.rd) rfl rfl ?_
    iterate 3 refine G ?_
    refine H_cond rfl ?_ ?_<;>intro hneg
    ·cases hneg
    ·iterate 13 refine G ?_
     exact loopJ_normal (i+1,z.1,dA,dc) agr ⟨by rw [hst];rfl,rfl,trivial⟩ (fun w hw=>by
      simp only [hst]
      exact hw.pick [1,2,3,4,5,6,7,0,9] (by decide)) rfl ⟨by show i+1≤n;omega,by rw [hst];exact z.2⟩ (by show n -(i+1)<n -i;omega)
   ·have hie:i=n:=by simp at hlt;omega
    subst hie
    have hall:xs.take i=xs:=List.take_of_length_le (by omega)
    have hM8:M.ss.length≤8:=by rw [hX.ss,List.length_map];show sv.length≤8;omega
    obtain ⟨hv3,hg3,_⟩:=run_ok (p:=p) (setL M.ss.length) (by omega) hvi (fun x hx h=>absurd h (set_ne _ x hx))
    have hb3:=hv3.bk
    iterate 8 refine G ?_
    refine X_eff (f_callM (en Tryz.call20 (ha1 (q0 rfl))) (fun w hw=>settle_w M hc (0+256*(xs.take i).length) rfl hw (hFP _ _) hy hvi (by omega)) rfl (fun _=>rfl) fun z=>?_)
    iterate 5 refine G ?_
    refine xCX (en Tryz.call17 (ha1 (q0 rfl))) (fun w hw=>bank_w (f:=f) (p:=p) (M:={M with kA:=z.1.1.1,kc:=z.1.1.2}) (b:=(runN f p (runN f p s0 (xs.take i)) (setL M.ss.length)).bank) w (hw.item (k:=0) rfl) (slAt_row hw (j:=3) rfl (fun _=>rfl) (by omega)) hb3) rfl (fun _=>rfl) fun y2=>?_
    obtain ⟨dA,dc⟩:=y2
    refine xV (e_fv Tryz.underlying42 rfl Tryz.isAgg40 (q0 rfl) rfl) rfl rfl ?_
    refine G ?_
    refine xC (en Tryz.call19 (ha2 (q0 rfl) (q0 rfl))) (fun _ w hw=>begins_w dA cA _ _ dc cc _ _ w (slAt_row hw (j:=0) rfl (fun _=>rfl) (by omega)) (slAt_row hw (j:=8) rfl (fun _=>rfl) (by simp only;omega)) (rowT_cap (j:=0) (e:=90) (k:=3) (enc:=Py.cells) (A:=dA) (c:=dc) (xs:=(runN f p (runN f p s0 (xs.take i)) (setL M.ss.length)).bank) hw rfl).1 hg3.pre hv3.rd) rfl rfl ?_
    refine G ?_
    refine xCT (en Tryz.call10 (ha0)) (fun _ w _=>awake_w w) rfl rfl rfl rfl ?_
    iterate 5 refine G ?_
    exact ret1 (v:= .bool _) rfl rfl rfl fun w' hw=>⟨rfl,hw.1⟩
theorem neverLaw_w (f:Fl) (fa:FA) (p:Pr) (a:PrA) (k:Int) (A:Option Addr) (n c:Nat) (xs:List Stp) (w:World) (hf:FlAt w f fa) (hp:PrAt w p a) (hx:SlAt w 12 Stp.cells A n xs) (hpl: ∀x∈xs,-9223372036854775808≤x.ev.place∧x.ev.place≤9223372036854775807):Calls Tryz.prog 4 #[.agg (cityC f fa p a k).toArray, .slice A n c] w fun e w'=>e= .returned (.bool true)∧Bel w w':=by
 cases hb:fewB n fa a with
 |false=>exact neverMany_w f fa p a k A n c w hb
 |true=>
  by_cases hz:netErr f p k=0
  ·have h0:prErr f p=0:=by
    refine Classical.byContradiction fun hn=>?_
    unfold netErr at hz
    rw [if_pos hn] at hz
    exact hn hz
   have hk: ¬(k<1∨8<k):=fun hn=>by
    unfold netErr at hz
    rw [if_neg (fun h=>h h0),if_pos hn] at hz
    cases hz
   obtain ⟨m,rfl⟩: ∃m:Nat,k=m:=⟨k.toNat,by omega⟩
   exact neverOk_w f fa p a m A n c xs w hf hp hx hpl hb h0 (by omega) (by omega)
  ·exact neverBad_w f fa p a k A n c w hf hp hb hz
end Go.Proofs.Net
namespace Go.Proofs.E
open Go Go.RowKit Go.ChangeShapes Go.WideShapes Go.ChangeAt
section
variable {H:Type} {enc:TypeId×Value→H} {P:Program}
theorem trodAll_lt {W:World} {sp:Nat→Bool}: ∀{ts:List TypeId} {vs:List Value} {ds:List (DataW H)} {ps:List MemPlace} {W':World},laidOutB P=true→(ts.all fun t=>P.readableRec t&&decide (t<P.types.size))=true→
  DataW.TrodAll enc P W 0 (fun _=>true) true ts vs ds ps→(∀p∈ps,W.sameAt W' p)→(∀p∈ps,sp p.block=true)→DataW.TrodAll enc P W' 0 sp true ts vs ds ps
 |[],[],[],_,_,_,_,h,_,_=>h
 |t::ts,v::vs,d::ds,ps,W',hl,hr,⟨p,q,h1,h2,e⟩,hs,hp=>by
  subst e
  simp only [List.all_cons,Bool.and_eq_true,decide_eq_true_eq] at hr
  exact ⟨p,q,WideElems.Trod_stays hl hr.1.1 hr.1.2 h1 (fun x hx=>hs x (List.mem_append_left _ hx)) (fun x hx=>hp x (List.mem_append_left _ hx)),trodAll_lt hl (by simpa using hr.2) h2 (fun x hx=>hs x (List.mem_append_right _ hx)) (fun x hx=>hp x (List.mem_append_right _ hx)),rfl⟩
 |[],_::_,_,_,_,_,_,h,_,_=>by simp [DataW.TrodAll] at h
 |[],[],_::_,_,_,_,_,h,_,_=>by simp [DataW.TrodAll] at h
 |_::_,[],_,_,_,_,_,h,_,_=>by simp [DataW.TrodAll] at h
 |_::_,_::_,[],_,_,_,_,h,_,_=>by simp [DataW.TrodAll] at h
theorem trodAll_len {W:World} {b:Nat} {sp:Nat→Bool} {hd:Bool}: ∀{ts:List TypeId} {vs:List Value} {ds:List (DataW H)} {ps:List MemPlace},DataW.TrodAll enc P W b sp hd ts vs ds ps→ds.length=ts.length∧vs.length=ts.length
 |[],[],[],_,_=>⟨rfl,rfl⟩
 |_::_,_::_,_::_,_,⟨_,_,_,h2,_⟩=>by have:=trodAll_len h2;simp;omega
 |[],_::_,_,_,h=>by simp [DataW.TrodAll] at h
 |[],[],_::_,_,h=>by simp [DataW.TrodAll] at h
 |_::_,[],_,_,h=>by simp [DataW.TrodAll] at h
 |_::_,_::_,[],_,h=>by simp [DataW.TrodAll] at h
theorem row_post0 {f:Func} {s:ChangeSpec} {tb:TypeId} {apart fresh handsOn again:Bool} {W W':World} {args:Array Value} {ds gs:List (DataW H)} {before:List MemPlace} (hl:laidOutB P=true) (hr:(f.params.toList.all fun t=>P.readableRec t&&decide (t<P.types.size))=true)
  (hrt:f.resultTypes= #[tb]) (htb:P.underlying tb=some .bool) (hv:s.vars=[]) (hs: ∀ds:List (DataW H),ds.length=f.params.toList.length→s.fn H ds={results:=[.lit (.bool true)],args:=ds})
  (hW:DataW.Whole enc P f.params.toList s.vars apart W args.toList ds gs before) (hb:Below W.heap.size W W'):s.post enc P f apart fresh handsOn again W args (.bool true) W':=by
 have hlt: ∀p∈before,p.block<W.heap.size:=fun p hp=>hW.lt p hp
 have hold: ∀p∈before,(fun b=>decide (b<W.heap.size)) p.block=true:=fun p hp=>by simpa using hlt p hp
 have hW2:=hW
 obtain ⟨p,q,hA,hV,rfl,hz,hn⟩:=hW
 rw [hv] at hV
 obtain ⟨rfl,rfl⟩:=trodVars_none hV
 have hsd:=hs ds (trodAll_len hA).1
 have hres: ∀(b:Nat) (sp:Nat→Bool) (hd:Bool),DataW.TrodAll enc P W' b sp hd f.resultTypes.toList ((Value.bool true).resultList f.resultTypes.size) (s.fn H (ds++[])).results []:=fun b sp hd=>by
  rw [List.append_nil,hsd,hrt]
  exact trodAll_mk1 (shut_bool htb _)
 have hargs: ∀sp:Nat→Bool,(∀x∈p,sp x.block=true)→DataW.TrodAll enc P W' 0 sp true f.params.toList args.toList (s.fn H (ds++[])).args p:=fun sp hsp=>by
  rw [List.append_nil,hsd]
  exact trodAll_lt hl hr hA (fun x hx=>hb.same (hlt x (by simpa using hx))) hsp
 have hvars: ∀sp:Nat→Bool,DataW.TrodVars enc P W' sp s.vars (s.fn H (ds++[])).vars []:=fun sp=>by
  rw [List.append_nil,hsd,hv]
  rfl
 refine ⟨ds,[],p++[],[],p,[],hW2,hres _ _ _,hargs _ (fun x hx=>hold x (by simpa using hx)),hvars _,World.keptBut_mono (fun x hx=>⟨hx,Or.inr (by simpa using hx)⟩) (hb.frame (· ∈p++[])),fun _=>?_⟩
 refine ⟨?_,_,_,([]++p)++[],⟨[]++p,[],trodAll_append (hargs _ (fun _ _=>rfl)) (hres _ _ _),hvars _,rfl,?_,?_⟩,?_⟩
 ·intro j t r h1 h2
  rw [hrt] at h1 h2
  match j with
  |0=>
   simp at h1
   subst h1
   simp [Value.resultList] at h2
   subst h2
   exact okWide_bool_mk htb _
  |j+1=>simp at h1
 ·intro b off hp
  have hin:MemPlace.cell b off∈p++[]:=by simpa using hp
  rw [hb.frozen (hlt _ hin)]
  exact hz b off hin
 ·intro ha
  have:=hn ha
  simpa using this
 ·intro x hx _
  simpa using hx
theorem row_post {f:Func} {s:ChangeSpec} {tb:TypeId} {apart fresh handsOn again:Bool} {W W':World} {args:Array Value} {ds gs:List (DataW H)} {before:List MemPlace} (hl:laidOutB P=true) (hr:(f.params.toList.all fun t=>P.readableRec t&&decide (t<P.types.size))=true)
  (hrt:f.resultTypes= #[tb]) (htb:P.underlying tb=some .bool) (hv:s.vars=[]) (hs: ∀ds:List (DataW H),ds.length=f.params.toList.length→s.fn H ds={results:=[.lit (.bool true)],args:=ds})
  (hW:DataW.Whole enc P f.params.toList s.vars apart W args.toList ds gs before) (hb:Bel W W'):s.post enc P f apart fresh handsOn again W args (.bool true) W':=row_post0 hl hr hrt htb hv hs hW hb.toBelow
theorem cell_spot {w:World} {a:Addr} {v:Value} (h:w.cell? a=some v):a.spot=none∧a.block<w.heap.size:=by
 unfold World.cell? at h
 constructor
 ·split at h
  ·split at h
   ·cases h
   ·rename_i h2;cases ha:a.spot with
    |none=>rfl
    |some x=>simp [ha] at h2
  ·cases h
 ·split at h
  ·rename_i h2
   exact (Array.getElem?_eq_some_iff.1 h2).1
  ·cases h
theorem rd_rows {W:World} {t e:TypeId} {k fuel:Nat} {sp:Nat→Bool} {held:Bool} {cs:List Value} {x:DataW H×List MemPlace} (ht:P.underlying t=some (.slice e)) (hC:P.cellsOf e=k) (hk:0<k)
  (h:DataW.trod enc P W 0 sp held fuel t cs=some x):
  ∃(A:Option Addr) (n c:Nat) (xs:List (List Value)),cs=[.slice A n c]∧SlAt W k id A n xs∧n≤c∧c≤maxLen∧ ∀x∈xs,x.length=k∧ ∃(fuel:Nat) (y:DataW H×List MemPlace),DataW.trod enc P W 0 sp held fuel e x=some y:=by
 rcases Deep.open_slice ht h with ⟨rfl,_⟩|⟨a,len,cap,m,n,D,Pl,rfl,hb,hl,hm,hmm,hx,hi⟩
 ·exact ⟨none,0,0,[],rfl,⟨rfl,by decide,fun h=>absurd h (by omega)⟩,by omega,by unfold maxLen;omega,fun x hx=>by simp at hx⟩
 ·rw [hC] at hi
  have hlm:len≤m:=by rw [hmm];split<;>omega
  refine ⟨some a,len,cap,(List.range len).map fun i=>((W.cells? 0 (a.add (i*k)) k).getD []),rfl,⟨by simp,by unfold maxLen at hm;omega,fun hn=>?_⟩,hl,hm,fun x hx=>?_⟩
  ·obtain ⟨cs0,hc0,_⟩:=hi 0 (by omega)
   obtain ⟨_,hl0,hat0⟩:=World.cells?_some hc0
   have h0:=hat0 0 hk
   rw [List.getElem?_eq_getElem (by omega)] at h0
   obtain ⟨hs,hblk⟩:=cell_spot h0
   refine ⟨a.block,a.off,by cases a;simp [Addr.add] at hs;simp [hs],by simpa [Addr.add] using hblk,fun i x hx=>?_⟩
   simp only [List.getElem?_map] at hx
   cases hr:(List.range len)[i]? with
   |none=>rw [hr] at hx;cases hx
   |some y=>
    rw [hr] at hx
    obtain ⟨hlt,hyi⟩:=List.getElem?_eq_some_iff.1 hr
    simp at hyi hlt
    subst hyi
    obtain ⟨cs',hc,_⟩:=hi i (by omega)
    simp only [Option.map_some,Option.some.injEq] at hx
    rw [hc] at hx
    simp only [Option.getD_some] at hx
    subst hx
    obtain ⟨_,hcl,hat⟩:=World.cells?_some hc
    intro j u hu
    have hj:j<k:=by have:=(List.getElem?_eq_some_iff.1 hu).1;simp at this;omega
    have h2:=hat j hj
    simp only [id] at hu
    rw [hu] at h2
    have e1:(a.add (i*k)).add j=⟨a.block,a.off+i*k+j,none⟩:=by
     have hs:a.spot=none:=by cases a;simpa [Addr.add] using hs
     rw [add_none hs,add_none rfl]
    rw [e1] at h2
    exact h2
  ·simp only [List.mem_map,List.mem_range] at hx
   obtain ⟨i,hil,rfl⟩:=hx
   obtain ⟨cs',hc,ht'⟩:=hi i (by omega)
   rw [hc]
   exact ⟨(World.cells?_some hc).2.1,n,_,ht'⟩
theorem rd_field {W:World} {t:TypeId} {fs:Array Field} {fuel:Nat} {sp:Nat→Bool} {held:Bool} {cs:List Value} {x:DataW H×List MemPlace} (ht:P.underlying t=some (.struct fs)) (h:DataW.trod enc P W 0 sp held fuel t cs=some x) (j:Nat) {u:TypeId} {o k:Nat} (hf:fs[j]?.map (fun f=>(f.type,f.offset))=some (u,o)) (hk:P.cellsOf u=k):
  ∃(n:Nat) (y:DataW H×List MemPlace),DataW.trod enc P W 0 sp held n u ((cs.drop o).take k)=some y:=by
 obtain ⟨ys,n',hn',hy,hlen,hyl,hg⟩:=DataW.trod_struct ht h
 cases hf':fs[j]? with
 |none=>rw [hf'] at hf;cases hf
 |some f=>
  rw [hf'] at hf
  simp only [Option.map_some,Option.some.injEq,Prod.mk.injEq] at hf
  obtain ⟨rfl,rfl⟩:=hf
  have hj:j<fs.size:=(Array.getElem?_eq_some_iff.1 hf').1
  have h2:=hg j f hf'
  rw [List.getElem?_eq_getElem (by omega),hk] at h2
  exact ⟨n',_,h2⟩
theorem rd_int {W:World} {t:TypeId} {k:IntKind} {fuel:Nat} {sp:Nat→Bool} {held:Bool} {cs:List Value} {x:DataW H×List MemPlace} (ht:P.underlying t=some (.int k)) (h:DataW.trod enc P W 0 sp held fuel t cs=some x): ∃n,cs=[.int k n]∧(Lit.int k n).wf=true:=by
 obtain ⟨n,h,_,hw⟩:=DataW.trod_int ht h
 exact ⟨n,h,hw⟩
theorem wf64 {n:Int} (h:(Lit.int .i64 n).wf=true): -9223372036854775808≤n∧n≤9223372036854775807:=by
 simp [Lit.wf,IntKind.min,IntKind.max,IntKind.signed,IntKind.bits] at h
 omega
end
theorem SlAt.recode {α:Type} {W:World} {k:Nat} {enc:α→List Value} {A:Option Addr} {n:Nat} {Q:α→Prop} {xs:List (List Value)} (h:SlAt W k id A n xs) (hx: ∀x∈xs,∃a,enc a=x∧Q a): ∃ys:List α,SlAt W k enc A n ys∧ ∀a∈ys,Q a:=by
 have: ∀xs:List (List Value),(∀x∈xs,∃a,enc a=x∧Q a)→ ∃ys:List α,ys.map enc=xs∧ ∀a∈ys,Q a:=by
  intro xs
  induction xs with
  |nil=>exact fun _=>⟨[],rfl,by simp⟩
  |cons x xs ih=>
   intro h
   obtain ⟨a,ha,hq⟩:=h x (by simp)
   obtain ⟨ys,has,hqs⟩:=ih fun x hx=>h x (by simp [hx])
   exact ⟨a::ys,by simp [ha,has],by simpa using ⟨hq,hqs⟩⟩
 obtain ⟨ys,has,hq⟩:=this xs hx
 subst has
 refine ⟨ys,⟨by simpa using h.1,h.2.1,fun hn=>?_⟩,hq⟩
 obtain ⟨b,off,hA,hlt,hc⟩:=h.2.2 hn
 exact ⟨b,off,hA,hlt,fun i x hx=>hc i (enc x) (by simp [hx])⟩
end Go.Proofs.E
namespace Go.Proofs.Net
open Go Go.RowKit Go.Proofs.E Go.Proofs.Cus Go.Proofs.Far Go.ChangeShapes Go.WideShapes Go.ChangeAt
theorem cellsInt:Tryz.prog.cellsOf 3=1:=by kernel_rfl
theorem cellsInts:Tryz.prog.cellsOf 22=1:=by kernel_rfl
theorem cellsCt:Tryz.prog.cellsOf 30=13:=by kernel_rfl
structure Wn where
 lo:Int
 hi:Int
def Wn.cells (x:Wn):List Value:=[.int .i64 x.lo, .int .i64 x.hi]
section
variable {H:Type} {enc:TypeId×Value→H} {W:World} {sp:Nat→Bool} {held:Bool} {base:Nat} {v:Value} {d:DataW H} {ps:List MemPlace}
theorem rd_ints {fuel:Nat} {cs:List Value} {x:DataW H×List MemPlace} (h:DataW.trod enc Tryz.prog W 0 sp held fuel 22 cs=some x): ∃A n c xs,cs=[.slice A n c]∧IntsAt W A n xs:=by
 obtain ⟨A,n,c,xs,rfl,hs,_,_,hx⟩:=rd_rows Tryz.underlying22 cellsInt (by decide) h
 obtain ⟨ys,hy,_⟩:=hs.recode (enc:=encInt) (Q:=fun _=>True) fun x hx'=>by
  obtain ⟨_,f,y,ht⟩:=hx x hx'
  obtain ⟨m,rfl,_⟩:=rd_int Tryz.underlying3 ht
  exact ⟨m,rfl,trivial⟩
 exact ⟨A,n,c,ys,rfl,hy⟩
theorem rd_tf {fuel:Nat} {cs:List Value} {x:DataW H×List MemPlace} (hl:cs.length=6) (h:DataW.trod enc Tryz.prog W 0 sp held fuel 144 cs=some x): ∃g:Tf,Tf.cells g=cs:=by
 match cs,hl with
 |[c0,c1,c2,c3,c4,c5],_=>
  obtain ⟨_,_,h0⟩:=rd_field Tryz.underlying144 h 0 rfl cellsInt
  obtain ⟨_,_,h1⟩:=rd_field Tryz.underlying144 h 1 rfl cellsInt
  obtain ⟨_,_,h2⟩:=rd_field Tryz.underlying144 h 2 rfl cellsInt
  obtain ⟨_,_,h3⟩:=rd_field Tryz.underlying144 h 3 rfl cellsInt
  obtain ⟨_,_,h4⟩:=rd_field Tryz.underlying144 h 4 rfl cellsInt
  obtain ⟨_,_,h5⟩:=rd_field Tryz.underlying144 h 5 rfl cellsInt
  obtain ⟨m0,e0,_⟩:=rd_int Tryz.underlying3 h0
  obtain ⟨m1,e1,_⟩:=rd_int Tryz.underlying3 h1
  obtain ⟨m2,e2,_⟩:=rd_int Tryz.underlying3 h2
  obtain ⟨m3,e3,_⟩:=rd_int Tryz.underlying3 h3
  obtain ⟨m4,e4,_⟩:=rd_int Tryz.underlying3 h4
  obtain ⟨m5,e5,_⟩:=rd_int Tryz.underlying3 h5
  simp at e0 e1 e2 e3 e4 e5
  subst e0 e1 e2 e3 e4 e5
  exact ⟨⟨m0,m1,m2,m3,m4,m5⟩,rfl⟩
theorem cells_tf:Tryz.prog.cellsOf 144=6:=by kernel_rfl
theorem rd_tfs {fuel:Nat} {cs:List Value} {x:DataW H×List MemPlace} (h:DataW.trod enc Tryz.prog W 0 sp held fuel 25 cs=some x): ∃A n c xs,cs=[.slice A n c]∧SlAt W 6 Tf.cells A n xs:=by
 obtain ⟨A,n,c,xs,rfl,hs,_,_,hx⟩:=rd_rows Tryz.underlying25 cells_tf (by decide) h
 obtain ⟨ys,hy,_⟩:=hs.recode (enc:=Tf.cells) (Q:=fun _=>True) fun x hx'=>by
  obtain ⟨hl,f,y,ht⟩:=hx x hx'
  obtain ⟨g,hg⟩:=rd_tf hl ht
  exact ⟨g,hg,trivial⟩
 exact ⟨A,n,c,ys,rfl,hy⟩
theorem rd_wn {fuel:Nat} {cs:List Value} {x:DataW H×List MemPlace} (hl:cs.length=2) (h:DataW.trod enc Tryz.prog W 0 sp held fuel 153 cs=some x): ∃g:Wn,Wn.cells g=cs:=by
 match cs,hl with
 |[c0,c1],_=>
  obtain ⟨_,_,h0⟩:=rd_field Tryz.underlying153 h 0 rfl cellsInt
  obtain ⟨_,_,h1⟩:=rd_field Tryz.underlying153 h 1 rfl cellsInt
  obtain ⟨m0,e0,_⟩:=rd_int Tryz.underlying3 h0
  obtain ⟨m1,e1,_⟩:=rd_int Tryz.underlying3 h1
  simp at e0 e1
  subst e0 e1
  exact ⟨⟨m0,m1⟩,rfl⟩
theorem cellsWn:Tryz.prog.cellsOf 153=2:=by kernel_rfl
theorem rd_pas {fuel:Nat} {cs:List Value} {x:DataW H×List MemPlace} (hl:cs.length=6) (h:DataW.trod enc Tryz.prog W 0 sp held fuel 155 cs=some x): ∃g:Pas,Pas.cells g=cs:=by
 match cs,hl with
 |[c0,c1,c2,c3,c4,c5],_=>
  obtain ⟨_,_,h0⟩:=rd_field Tryz.underlying155 h 0 rfl cellsInt
  obtain ⟨_,_,h1⟩:=rd_field Tryz.underlying155 h 1 rfl cellsInt
  obtain ⟨_,_,h2⟩:=rd_field Tryz.underlying155 h 2 rfl cellsWn
  obtain ⟨_,_,h3⟩:=rd_field Tryz.underlying155 h 3 rfl cellsInt
  obtain ⟨_,_,h4⟩:=rd_field Tryz.underlying155 h 4 rfl cellsInt
  obtain ⟨m0,e0,_⟩:=rd_int Tryz.underlying3 h0
  obtain ⟨m1,e1,_⟩:=rd_int Tryz.underlying3 h1
  obtain ⟨m3,e3,_⟩:=rd_int Tryz.underlying3 h3
  obtain ⟨m4,e4,_⟩:=rd_int Tryz.underlying3 h4
  obtain ⟨s2,e2⟩:=rd_wn (cs:=[c2,c3]) rfl h2
  simp at e0 e1 e3 e4
  simp [Wn.cells] at e2
  obtain ⟨e2,e2'⟩:=e2
  subst e0 e1 e2 e2' e3 e4
  exact ⟨⟨m0,m1,s2.lo,s2.hi,m3,m4⟩,rfl⟩
theorem cells_pas:Tryz.prog.cellsOf 155=6:=by kernel_rfl
theorem rd_pass {fuel:Nat} {cs:List Value} {x:DataW H×List MemPlace} (h:DataW.trod enc Tryz.prog W 0 sp held fuel 26 cs=some x): ∃A n c xs,cs=[.slice A n c]∧SlAt W 6 Pas.cells A n xs:=by
 obtain ⟨A,n,c,xs,rfl,hs,_,_,hx⟩:=rd_rows Tryz.underlying26 cells_pas (by decide) h
 obtain ⟨ys,hy,_⟩:=hs.recode (enc:=Pas.cells) (Q:=fun _=>True) fun x hx'=>by
  obtain ⟨hl,f,y,ht⟩:=hx x hx'
  obtain ⟨g,hg⟩:=rd_pas hl ht
  exact ⟨g,hg,trivial⟩
 exact ⟨A,n,c,ys,rfl,hy⟩
theorem cellsTfs:Tryz.prog.cellsOf 25=1:=by kernel_rfl
theorem cellsPas:Tryz.prog.cellsOf 26=1:=by kernel_rfl
theorem cellsFl:Tryz.prog.cellsOf 24=5:=by kernel_rfl
theorem cellsPr:Tryz.prog.cellsOf 28=7:=by kernel_rfl
theorem rd_fl {fuel:Nat} {cs:List Value} {x:DataW H×List MemPlace} (hl:cs.length=5) (h:DataW.trod enc Tryz.prog W 0 sp held fuel 24 cs=some x): ∃(f:Fl) (a:FA),f.cells a=cs∧FlAt W f a:=by
 match cs,hl with
 |[c0,c1,c2,c3,c4],_=>
  obtain ⟨_,_,h0⟩:=rd_field Tryz.underlying24 h 0 rfl cellsInt
  obtain ⟨_,_,h1⟩:=rd_field Tryz.underlying24 h 1 rfl cellsInt
  obtain ⟨_,_,h2⟩:=rd_field Tryz.underlying24 h 2 rfl cellsInt
  obtain ⟨_,_,h3⟩:=rd_field Tryz.underlying24 h 3 rfl cellsInts
  obtain ⟨_,_,h4⟩:=rd_field Tryz.underlying24 h 4 rfl cellsInts
  obtain ⟨m0,e0,_⟩:=rd_int Tryz.underlying3 h0
  obtain ⟨m1,e1,_⟩:=rd_int Tryz.underlying3 h1
  obtain ⟨m2,e2,_⟩:=rd_int Tryz.underlying3 h2
  obtain ⟨A3,n3,k3,x3,e3,hx3⟩:=rd_ints h3
  obtain ⟨A4,n4,k4,x4,e4,hx4⟩:=rd_ints h4
  simp at e0 e1 e2 e3 e4
  subst e0 e1 e2 e3 e4
  exact ⟨⟨m0,m1,m2,x3,x4⟩,⟨A3,n3,k3,A4,n4,k4⟩,rfl,hx3,hx4⟩
theorem rd_pr {fuel:Nat} {cs:List Value} {x:DataW H×List MemPlace} (hl:cs.length=7) (h:DataW.trod enc Tryz.prog W 0 sp held fuel 28 cs=some x): ∃(p:Pr) (a:PrA),p.cells a=cs∧PrAt W p a:=by
 match cs,hl with
 |[c0,c1,c2,c3,c4,c5,c6],_=>
  obtain ⟨_,_,h0⟩:=rd_field Tryz.underlying28 h 0 rfl cellsTfs
  obtain ⟨_,_,h1⟩:=rd_field Tryz.underlying28 h 1 rfl cellsPas
  obtain ⟨_,_,h2⟩:=rd_field Tryz.underlying28 h 2 rfl cellsInts
  obtain ⟨_,_,h3⟩:=rd_field Tryz.underlying28 h 3 rfl cellsInts
  obtain ⟨_,_,h4⟩:=rd_field Tryz.underlying28 h 4 rfl cellsInt
  obtain ⟨_,_,h5⟩:=rd_field Tryz.underlying28 h 5 rfl cellsInts
  obtain ⟨_,_,h6⟩:=rd_field Tryz.underlying28 h 6 rfl cellsInt
  obtain ⟨A0,n0,k0,x0,e0,hx0⟩:=rd_tfs h0
  obtain ⟨A1,n1,k1,x1,e1,hx1⟩:=rd_pass h1
  obtain ⟨A2,n2,k2,x2,e2,hx2⟩:=rd_ints h2
  obtain ⟨A3,n3,k3,x3,e3,hx3⟩:=rd_ints h3
  obtain ⟨A5,n5,k5,x5,e5,hx5⟩:=rd_ints h5
  obtain ⟨m4,e4,_⟩:=rd_int Tryz.underlying3 h4
  obtain ⟨m6,e6,_⟩:=rd_int Tryz.underlying3 h6
  simp at e0 e1 e2 e3 e4 e5 e6
  subst e0 e1 e2 e3 e4 e5 e6
  exact ⟨⟨x0,x1,x2,x3,m4,x5,m6⟩,⟨⟨A0,n0,k0⟩,⟨A1,n1,k1⟩,⟨A2,n2,k2⟩,⟨A3,n3,k3⟩,⟨A5,n5,k5⟩⟩,rfl,hx0,hx1,hx2,hx3,hx5⟩
theorem open_city (hv:Value.okWide Tryz.prog W .any base 30 v) (h:DataW.Trod enc Tryz.prog W 0 sp held 30 v d ps): ∃(f:Fl) (a:FA) (p:Pr) (q:PrA) (k:Int),v= .agg (cityC f a p q k).toArray∧FlAt W f a∧PrAt W p q:=by
 obtain ⟨cs,rfl,hsz⟩:=okWide_struct Tryz.underlying30 hv
 rw [cellsCt] at hsz
 obtain ⟨l⟩:=cs
 match l,hsz with
 |[c0,c1,c2,c3,c4,c5,c6,c7,c8,c9,c10,c11,c12],_=>
  obtain ⟨_,hf⟩:=h
  obtain ⟨_,_,h0⟩:=rd_field Tryz.underlying30 hf 0 rfl cellsFl
  obtain ⟨_,_,h1⟩:=rd_field Tryz.underlying30 hf 1 rfl cellsPr
  obtain ⟨_,_,h2⟩:=rd_field Tryz.underlying30 hf 2 rfl cellsInt
  obtain ⟨f,a,e0,hf0⟩:=rd_fl (cs:=[c0,c1,c2,c3,c4]) rfl h0
  obtain ⟨p,q,e1,hp0⟩:=rd_pr (cs:=[c5,c6,c7,c8,c9,c10,c11]) rfl h1
  obtain ⟨m2,e2,_⟩:=rd_int Tryz.underlying3 h2
  refine ⟨f,a,p,q,m2,?_,hf0,hp0⟩
  have e3:cityC f a p q m2=f.cells a++p.cells q++[.int .i64 m2]:=rfl
  rw [e3,e0,e1,←e2];rfl
theorem cellsEv:Tryz.prog.cellsOf 58=9:=by kernel_rfl
theorem cellsSt:Tryz.prog.cellsOf 60=12:=by kernel_rfl
theorem rd_evt {fuel:Nat} {cs:List Value} {x:DataW H×List MemPlace} (hl:cs.length=9) (h:DataW.trod enc Tryz.prog W 0 sp held fuel 58 cs=some x): ∃e:Ev,e.cells=cs∧(-9223372036854775808≤e.place∧e.place≤9223372036854775807):=by
 match cs,hl with
 |[c0,c1,c2,c3,c4,c5,c6,c7,c8],_=>
  obtain ⟨_,_,h0⟩:=rd_field Tryz.underlying58 h 0 rfl cellsInt
  obtain ⟨_,_,h1⟩:=rd_field Tryz.underlying58 h 1 rfl cellsInt
  obtain ⟨_,_,h2⟩:=rd_field Tryz.underlying58 h 2 rfl cellsInt
  obtain ⟨_,_,h3⟩:=rd_field Tryz.underlying58 h 3 rfl cellsInt
  obtain ⟨_,_,h4⟩:=rd_field Tryz.underlying58 h 4 rfl cellsInt
  obtain ⟨_,_,h5⟩:=rd_field Tryz.underlying58 h 5 rfl cellsInt
  obtain ⟨_,_,h6⟩:=rd_field Tryz.underlying58 h 6 rfl cellsInt
  obtain ⟨_,_,h7⟩:=rd_field Tryz.underlying58 h 7 rfl cellsInt
  obtain ⟨_,_,h8⟩:=rd_field Tryz.underlying58 h 8 rfl cellsInt
  obtain ⟨m0,e0,w0⟩:=rd_int Tryz.underlying3 h0
  obtain ⟨m1,e1,w1⟩:=rd_int Tryz.underlying3 h1
  obtain ⟨m2,e2,w2⟩:=rd_int Tryz.underlying3 h2
  obtain ⟨m3,e3,w3⟩:=rd_int Tryz.underlying3 h3
  obtain ⟨m4,e4,w4⟩:=rd_int Tryz.underlying3 h4
  obtain ⟨m5,e5,w5⟩:=rd_int Tryz.underlying3 h5
  obtain ⟨m6,e6,w6⟩:=rd_int Tryz.underlying3 h6
  obtain ⟨m7,e7,w7⟩:=rd_int Tryz.underlying3 h7
  obtain ⟨m8,e8,w8⟩:=rd_int Tryz.underlying3 h8
  simp at e0 e1 e2 e3 e4 e5 e6 e7 e8
  subst e0 e1 e2 e3 e4 e5 e6 e7 e8
  exact ⟨⟨m0,m1,m2,m3,m4,m5,m6,m7,m8⟩,rfl,wf64 w6⟩
theorem rd_st {fuel:Nat} {cs:List Value} {x:DataW H×List MemPlace} (hl:cs.length=12) (h:DataW.trod enc Tryz.prog W 0 sp held fuel 60 cs=some x): ∃s:Stp,s.cells=cs∧(-9223372036854775808≤s.ev.place∧s.ev.place≤9223372036854775807):=by
 match cs,hl with
 |[c0,c1,c2,c3,c4,c5,c6,c7,c8,c9,c10,c11],_=>
  obtain ⟨_,_,h0⟩:=rd_field Tryz.underlying60 h 0 rfl cellsInt
  obtain ⟨_,_,h1⟩:=rd_field Tryz.underlying60 h 1 rfl cellsInt
  obtain ⟨_,_,h2⟩:=rd_field Tryz.underlying60 h 2 rfl cellsInt
  obtain ⟨_,_,h3⟩:=rd_field Tryz.underlying60 h 3 rfl cellsEv
  obtain ⟨m0,e0,_⟩:=rd_int Tryz.underlying3 h0
  obtain ⟨m1,e1,_⟩:=rd_int Tryz.underlying3 h1
  obtain ⟨m2,e2,_⟩:=rd_int Tryz.underlying3 h2
  obtain ⟨e,he,hp⟩:=rd_evt (cs:=[c3,c4,c5,c6,c7,c8,c9,c10,c11]) rfl h3
  simp at e0 e1 e2
  subst e0 e1 e2
  refine ⟨⟨m0,m1,m2,e⟩,?_,hp⟩
  show _::_::_::e.cells=_
  rw [he]
theorem open_sts (hv:Value.okWide Tryz.prog W .any base 54 v) (h:DataW.Trod enc Tryz.prog W 0 sp held 54 v d ps): ∃A n c xs,v= .slice A n c∧SlAt W 12 Stp.cells A n xs∧ ∀x∈xs,-9223372036854775808≤x.ev.place∧x.ev.place≤9223372036854775807:=by
 obtain ⟨a,l,c,rfl⟩:=okWide_slice Tryz.underlying54 hv
 obtain ⟨_,hf⟩:=h
 obtain ⟨A,n,c',xs,e,hs,_,_,hx⟩:=rd_rows Tryz.underlying54 cellsSt (by decide) hf
 obtain ⟨ys,hy,hq⟩:=hs.recode (enc:=Stp.cells) (Q:=fun x=> -9223372036854775808≤x.ev.place∧x.ev.place≤9223372036854775807) fun x hx'=>by
  obtain ⟨hl,f,y,ht⟩:=hx x hx'
  exact rd_st hl ht
 simp [Value.cells] at e
 obtain ⟨rfl,rfl,rfl⟩:=e
 exact ⟨_,_,_,ys,rfl,hy,hq⟩
end
def zCity:Value:= .agg #[.int .i64 0, .int .i64 0, .int .i64 0, .slice none 0 0, .slice none 0 0, .slice none 0 0, .slice none 0 0, .slice none 0 0, .slice none 0 0, .int .i64 0, .slice none 0 0, .int .i64 0, .int .i64 0]
end Go.Proofs.Net
