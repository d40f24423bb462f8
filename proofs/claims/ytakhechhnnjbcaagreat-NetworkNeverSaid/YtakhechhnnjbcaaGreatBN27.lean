import Derived.Test.YtakhechhnnjbcaaGreatBN24
import Derived.Test.YtakhechhnnjbcaaGreatBN26
import Derived.Test.YtakhechhnnjbcaaGreatBN22
import Derived.Test.YtakhechhnnjbcaaGreatBN18
import Derived.Test.YtakhechhnnjbcaaGreatBN19
import Derived.Test.YtakhechhnnjbcaaGreatBN04
import Derived.Test.YtakhechhnnjbcaaGreatTy
set_option maxRecDepth 100000
set_option maxHeartbeats 8000000
set_option linter.unusedVariables false
set_option linter.unusedSimpArgs false
namespace Go.Proofs.Net
open Go Go.RowKit Go.Proofs.E Go.Proofs.Cus Go.Proofs.Rid Go.Proofs.Far Go.Proofs.Hom
def homeN (n:Nat) (rider:Int):Int:=if rider<0∨128≤rider then 0 else rider%n
theorem nhome_w {f:Fl} {pr:Pr} {M:NM} {k:Nat} (rider:Int) (w:World) (h:(box M.nb 97 (ntC f pr M k)).A w) (h1:1≤M.ss.length) (h8:M.ss.length≤8):Calls Tryz.prog 13 #[.pointer (some ⟨M.nb,0,none⟩), .int .i64 rider] w fun q w'=>q= .returned (.int .i64 (homeN M.ss.length rider))∧Bel w w':=by
 have hb:=box_lt h
 have hr:=row_at h
 refine H_enter Tryz.func13 rfl Tryz.ntmps13 rfl ?_
 iterate 9 refine G ?_
 refine xV (e_eqNilP Tryz.underlying33 (q0 rfl)) rfl rfl ?_
 iterate 10 refine G ?_
 refine H_cond rfl ?_ ?_<;>intro h2
 ·have h2':rider<0∨128≤rider:=by simpa using h2
  iterate 7 refine G ?_
  exact ret1 (v:= .int _ _) rfl rfl rfl fun w' hw=>⟨by unfold homeN;rw [if_pos h2'],hw.1⟩
 ·have h2': ¬(rider<0∨128≤rider):=by simpa using h2
  iterate 10 refine G ?_
  refine xV (e_rem (q0 rfl) (q0 rfl) (fun _=>by omega)) rfl rfl ?_
  iterate 4 refine G ?_
  exact ret1 (v:= .int _ _) rfl rfl rfl fun w' hw=>⟨by unfold homeN;rw [if_neg h2'],hw.1⟩
theorem npay2_w {f:Fl} {pr:Pr} {M:NM} {bank:List Py} {a:SA} {lose:Int} {d m:Nat} {A:Option Addr} {c:Nat} {l:List En} (p:Py) {w0 w:World} {L:List E.Item} (hL:marks L=[]) (hw:Mem w0 (deskL d m A c l++(netH f pr M bank++svB a lose::L)) w) (hn:bank.length≤256) (hls:lose≤1000000):
  Calls Tryz.prog 87 #[.pointer (some ⟨M.nb,0,none⟩), .pointer (some ⟨a.s,0,none⟩), .agg p.cells.toArray] w fun q w'=> ∃x:Option Addr×Nat,q= .returned (.int .i64 (if 0<lose then 33 else (payR bank p).2))∧Mem w0 (deskL d m A c l++(netH f pr {M with kA:=x.1,kc:=x.2} (payB bank p)++svB a (if 0<lose then lose -1 else lose)::L)) w':=by
 have h:Mem w0 (netH f pr M bank++svB a lose::(deskL d m A c l++L)) w:=hw.pickN 8 [3,4,5,6,7,0,1,2] (by decide) (by decide)
 refine (npay_w p (L:=deskL d m A c l++L) hL h hn hls).mono ?_
 rintro q w' ⟨x,hq,hm⟩
 exact ⟨x,hq,hm.pickN 8 [5,6,7,0,1,2,3,4] (by decide) (by decide)⟩
def asksD (n:Nat) (i:Int) (d:List En):List Bil→List En
 |[]=>d
 |c::cs=>asksD n i (if homeN n c.rider=i then (askR d ⟨c.ride,c.rider,c.total⟩).1 else d) cs
def chD (n:Nat) (i:Int) (bank:List Py) (x:SS) (bils:List Bil):List Py×SS×Int×Int:=
 let d:=asksD n i x.desk bils
 let q:=triesR (openR d).length (bank,d,x.lose)
 (q.1,⟨x.evs,q.2.1,q.2.2⟩,(openR d).length -(openR q.2.1).length,0)
def chR (f:Fl) (p:Pr) (n:Nat) (i:Int) (bank:List Py) (x:SS):List Py×SS×Int×Int:=
 if allErr f p (finR f x.evs) []≠0 then (bank,x,0,allErr f p (finR f x.evs) []) else chD n i bank x (allR f p (finR f x.evs) [])
theorem asksD_snoc (n:Nat) (i:Int): ∀(l:List Bil) (d:List En) (b:Bil),asksD n i d (l++[b])=if homeN n b.rider=i then (askR (asksD n i d l) ⟨b.ride,b.rider,b.total⟩).1 else asksD n i d l
 |[],d,b=>rfl
 |c::l,d,b=>by rw [List.cons_append,asksD,asksD_snoc n i l _ b];rfl
theorem ask_len (l:List En) (p:Py) (h:l.length≤256):(askR l p).1.length≤256:=by
 rw [askR_eq]
 split
 ·exact h
 ·split
  ·split<;>exact h
  ·split
   ·exact h
   ·simp;omega
theorem ask_tries {l:List En} {p:Py} {T:Int} (hT:0≤T) (h: ∀x∈l,0≤x.tries∧x.tries≤T): ∀x∈(askR l p).1,0≤x.tries∧x.tries≤T:=by
 rw [askR_eq]
 split
 ·exact h
 ·split
  ·split<;>exact h
  ·split
   ·exact h
   ·intro x hx
    rcases List.mem_append.1 hx with hx|hx
    ·exact h x hx
    ·rw [List.mem_singleton.1 hx];exact ⟨Int.le_refl _,hT⟩
theorem answ_len (l:List En) (r e:Int):(answR l r e).1.length=l.length:=by
 rw [answR_eq]
 split
 ·rfl
 ·split
  ·rfl
  ·simp
theorem answ_tries {l:List En} {r e:Int} {T:Int} (h: ∀x∈l,0≤x.tries∧x.tries≤T): ∀x∈(answR l r e).1,0≤x.tries∧x.tries≤T+1:=by
 have h': ∀x∈l,0≤x.tries∧x.tries≤T+1:=fun x hx=>by have:=h x hx;omega
 rw [answR_eq]
 split
 ·exact h'
 ·rename_i i hi
  split
  ·exact h'
  ·intro x hx
   rcases List.mem_or_eq_of_mem_set hx with hx|hx
   ·exact h' x hx
   ·have:=h _ (List.mem_of_getElem? (at_idx hi).1)
    rw [hx];show 0≤_+1∧_+1≤T+1;omega
abbrev QS:=List Py×List En×Int
theorem try_bank (q:QS) (p:Py):tryR q p=(payB q.1 p,(answR q.2.1 p.ride (if 0<q.2.2 then 33 else (payR q.1 p).2)).1,if 0<q.2.2 then q.2.2 -1 else q.2.2):=by
 unfold tryR payB
 simp only
 split<;>rfl
theorem payB_len (b:List Py) (p:Py) (h:b.length≤256):(payB b p).length≤256:=by
 unfold payB
 split
 ·exact payR_len b p h
 ·exact h
theorem nhor_w {r m:Nat} {dv:Int} {l:List Ev} (w:World) (h1:(box r 127 [.int .i64 dv, .map (some m)]).A w) (h2:KMap w m (psE l)) (hd:1≤dv∧dv≤256) (hl:l.length≤10000):
  Calls Tryz.prog 66 #[.pointer (some ⟨r,0,none⟩)] w fun q w'=>q= .returned (.int .i64 (horR dv l))∧Bel w w':=by
 obtain ⟨n,rfl⟩:=Int.eq_ofNat_of_zero_le (show 0≤dv by omega)
 exact hor_w w h1 h2 (by omega) hl
theorem rds_out {w0 w:World} {L:List E.Item} {l:List Rd} (y:RdsOut l) (hw:Mem w0 L w) (j k:Nat) (hj:L[j]?=some (rdRow y.1.1 y.1.2.1 y.1.2.2)) (hk:L[k]?=some (rdBag y.1.2.2)) (hn:l.length≤100000) (hl: ∀r∈l,r.legs.length≤100000∧r.pauses.length≤100000):RdsAt w y.1.1 y.1.2.2.length y.1.2.2:=by
 obtain ⟨⟨A,c,xs⟩,hy⟩:=y
 simp only at hj hk
 have hyl:xs.length=l.length:=by rw [←hy];simp
 exact rds_items hw hj hk (by simp only;omega) fun x hx=>hl x.r (by rw [←hy];exact List.mem_map_of_mem hx)
theorem novs (w:World):Pen.VsAt w none 0 []:=⟨rfl,by omega,fun h=>absurd h (by omega)⟩
def faM (M:NM):FA:=⟨M.d.A,M.d.n,M.d.c,M.t.A,M.t.n,M.t.c⟩
end Go.Proofs.Net
namespace Go.Proofs.Net
open Go Go.RowKit Go.Proofs.E Go.Proofs.Cus Go.Proofs.Rid Go.Proofs.Far Go.Proofs.Hom
abbrev sRest (dv:Int) (r m:Nat) (evs:List Ev) (L:List E.Item):List E.Item:=box r 127 [.int .i64 dv, .map (some m)]::kmap m (psE evs)::L
theorem fl81 {fs:Array Field} (h:Tryz.prog.underlying 81=some (.struct fs):=by exact Tryz.underlying81):FieldsLie Tryz.prog fs [(0,1),(1,1),(2,1),(3,1)]:=by
 rw [Tryz.underlying81] at h
 cases h
 intro w
 kernel_rfl
theorem ncharge_w {f:Fl} {p:Pr} (M:NM) {bank:List Py} (a:SA) {x:SS} (i:Nat) (T:Int) {w0 w:World} {L:List E.Item} (hL:marks L=[]) (hw:Mem w0 (netH f p M bank++(svL f.devices a x++L)) w)
  (hFP: ∀w,Mem w0 L w→FlAt w f (faM M)∧PrAt w p M.p) (hss:M.ss[i]?=some a.s) (h8:M.ss.length≤8) (hok:flErr f=0) (hdv:1≤f.devices∧f.devices≤256)
  (hp: ∀e∈x.evs,0≤e.device∧1≤e.seq) (hpl:PlOk (evsR x.evs)) (hn:x.evs.length≤40) (hsh: ∀r∈allOf f (evsR x.evs),(r.legs.length≤100000∧r.pauses.length≤100000)∧r.pl≤9223372036854775807)
  (hbk:bank.length≤256) (hd:x.desk.length≤256) (hT:0≤T∧T≤900000) (ht: ∀e∈x.desk,0≤e.tries∧e.tries≤T) (hl:x.lose≤1000000):
  Calls Tryz.prog 44 #[.pointer (some ⟨M.nb,0,none⟩), .int .i64 i] w fun q w'=> ∃y:(Option Addr×Nat)×(Option Addr×Nat),q= .returned (.tuple #[.int .i64 (chR f p M.ss.length i bank x).2.2.1, .int .i64 (chR f p M.ss.length i bank x).2.2.2])∧
   Mem w0 (netH f p {M with kA:=y.1.1,kc:=y.1.2} (chR f p M.ss.length i bank x).1++(svL f.devices {a with A:=y.2.1,c:=y.2.2} (chR f p M.ss.length i bank x).2.1++L)) w':=by
 obtain ⟨nb,md,mt,mp,sA,sc,ss,bA,bc,bs,kA,kc⟩:=M
 obtain ⟨sv,ar,am,ad,ae,aA,ac⟩:=a
 obtain ⟨evs,desk,lose⟩:=x
 simp only at hFP hss h8 hp hpl hn hsh hbk hd ht hl⊢
 have hi:i<ss.length:=(List.getElem?_eq_some_iff.1 hss).1
 have hel:(evsR evs).length=evs.length:=List.length_mergeSort evs
 have hacc:=accOf_len f (evsR evs)
 have hr20:=story_len hok (evsR evs)
 have hall:=all_len (f:=f) (evsR evs)
 have hpl': ∀r∈allOf f (evsR evs),r.legs.length≤100000∧r.pauses.length≤100000:=fun r hr=>(hsh r hr).1
 refine H_enterM hw hL Tryz.func44 rfl Tryz.ntmps44 rfl ?_
 iterate 7 refine G ?_
 refine H_know (fun w hw=>rowT_at (j:=1) hw rfl (by show 0<ss.length;omega)) fun ⟨sb,hsb⟩=>?_
 subst hsb
 iterate 6 refine G ?_
 refine xV (e_idx i Tryz.underlying94 Tryz.sizeOf98 (q0 rfl) (q0 rfl) (fun _=>⟨rfl,hi⟩)) rfl rfl ?_
 refine xV (eL Tryz.isAgg98 (q0 rfl) (rr0 1 rfl hss rfl)) rfl rfl ?_
 iterate 4 refine G ?_
 refine RA rfl (by decide+kernel) ?_
 refine aW 0 ?_
 refine aW 1 ?_
 refine aW 2 ?_
 refine aV 3 (by decide+kernel) rfl (eP Tryz.isAgg24 Tryz.sizeOf24 (q0 rfl)) rfl ?_
 refine aW 4 ?_
 refine aW 5 ?_
 refine aW 6 ?_
 refine aW 7 ?_
 refine r1 8 0 ?_
 refine aL rfl (f_callx (en Tryz.call30 (ha1 (q0 rfl))) (fun w hw=>events_w (l:=evs) w (hw.item (k:=5) rfl) (hw.item (k:=6) rfl) hp (by omega)) rfl (fun _=>rfl) fun ev=>?_)
 refine r1 9 1 ?_
 refine aL rfl (f_callx (en Tryz.call63 (ha2 (q0 rfl) (q0 rfl))) (fun w hw=>Rid.all_w f ⟨md.A,md.n,md.c,mt.A,mt.n,mt.c⟩ ev.1 (evsR evs).length ev.2 (evsR evs) w (hFP w (hw.pickN 11 [] (by decide) (by decide))).1 (slAt_row hw (j:=0) rfl (fun _=>rfl) (by omega)) (by omega) hpl (by omega)) rfl (fun _=>rfl) fun rd=>?_)
 refine aRL (sub_drop 3) ?_
 refine aW 10 ?_
 refine aW 11 ?_
 refine aW 12 ?_
 refine aW 13 ?_
 refine aW 14 ?_
 refine aZ (by decide+kernel) (sub_drop 0) ?_
 iterate 8 refine G ?_
 refine H_cond rfl ?_ ?_<;>intro h1
 ·exfalso
  simp [hok] at h1
 ·have _ht:True:=trivial
  have hrm:rd.1.2.2.map (·.r)=allOf f (evsR evs):=rd.2
  have hsub: ∀r∈((rd.1.2.2.map (·.r)).filter (finalP (horR f.devices evs))),r∈allOf f (evsR evs):=fun r hr=>by rw [hrm] at hr;exact (List.mem_filter.1 hr).1
  have hfs: ∀r∈((rd.1.2.2.map (·.r)).filter (finalP (horR f.devices evs))),r.legs.length≤100000∧r.pauses.length≤100000:=fun r hr=>(hsh r (hsub r hr)).1
  have hfp: ∀r∈((rd.1.2.2.map (·.r)).filter (finalP (horR f.devices evs))),r.pl≤9223372036854775807:=fun r hr=>(hsh r (hsub r hr)).2
  have hfl:((rd.1.2.2.map (·.r)).filter (finalP (horR f.devices evs))).length≤100000:=by
   have:=List.length_filter_le (finalP (horR f.devices evs)) (rd.1.2.2.map (·.r))
   rw [hrm] at this⊢
   omega
  iterate 3 refine G ?_
  refine RA rfl (by decide+kernel) ?_
  refine aW 0 ?_
  refine aW 1 ?_
  refine aW 2 ?_
  refine aV 3 (by decide+kernel) rfl (eP Tryz.isAgg24 Tryz.sizeOf24 (q0 rfl)) rfl ?_
  refine aW 4 ?_
  refine aW 5 ?_
  refine aW 6 ?_
  refine aV 7 (by decide+kernel) rfl (eP Tryz.isAgg28 Tryz.sizeOf28 (q0 rfl)) rfl ?_
  refine aW 8 ?_
  refine aW 9 ?_
  refine aW 10 ?_
  refine aW 11 ?_
  refine aW 12 ?_
  refine aC 13 (by decide+kernel) rfl (en Tryz.call66 (ha1 (q0 rfl))) (fun _ w hw=>nhor_w (l:=evs) w (hw.item (k:=8) rfl) (hw.item (k:=9) rfl) hdv (by omega)) rfl ?_
  refine r1 14 0 ?_
  refine aL rfl (f_callx (en Tryz.call65 (ha2 (q0 rfl) (q0 rfl))) (fun w hw=>final_w rd.1.1 rd.1.2.2.length rd.1.2.1 rd.1.2.2 (horR f.devices evs) w (rds_out rd hw 0 1 rfl rfl (by omega) hpl') (fun y hy=>hpl' y.r (by rw [←rd.2];exact List.mem_map_of_mem hy)) (by have:=congrArg List.length rd.2;rw [List.length_map] at this;omega)) rfl (fun _=>rfl) fun fn=>?_)
  refine r1 15 2 ?_
  refine aL rfl (f_callx (en Tryz.call64 (ha4 (q0 rfl) (q0 rfl) (q0 rfl) (q0 rfl))) (fun w hw=>Far.all_w f ⟨md.A,md.n,md.c,mt.A,mt.n,mt.c⟩ p mp fn.1.1 fn.1.2.2.length fn.1.2.1 fn.1.2.2 none 0 0 [] w (hFP w (hw.pickN 15 [] (by decide) (by decide))).1 (hFP w (hw.pickN 15 [] (by decide) (by decide))).2 (rds_out fn hw 0 1 rfl rfl hfl hfs) (fun y hy=>hfs y.r (by rw [←fn.2];exact List.mem_map_of_mem hy)) (novs w) (fun y hy=>hfp y.r (by rw [←fn.2];exact List.mem_map_of_mem hy))) rfl (fun _=>rfl) fun fr=>?_)
  refine aRL (sub_drop 4) ?_
  refine aW 16 ?_
  refine aW 17 ?_
  refine aW 18 ?_
  refine aW 19 ?_
  refine aW 20 ?_
  refine aZ (by decide+kernel) (sub_drop 0) ?_
  iterate 8 refine G ?_
  have hfin:fn.1.2.2.map (·.r)=finR f evs:=by rw [fn.2,hrm];rfl
  refine H_cond rfl ?_ ?_<;>intro h2
  ·have h2':allErr f p (finR f evs) []≠0:=by rw [←hfin];simpa using h2
   have hc:chR f p ss.length i bank ⟨evs,desk,lose⟩=(bank,⟨evs,desk,lose⟩,0,allErr f p (finR f evs) []):=by unfold chR;rw [if_pos h2']
   rw [hc]
   iterate 9 refine G ?_
   exact ret2 (v:= .int _ _) (x:= .int _ _) rfl rfl rfl hL fun w' hw=>⟨((kA,kc),(aA,ac)),by rw [←hfin],hw.pickN 17 [7,8,9,10,11,12,13,14,15,16] (by decide) (by decide)⟩
  ·have h2': ¬allErr f p (finR f evs) []≠0:=by rw [←hfin];simpa using h2
   obtain ⟨⟨zs,zA,zc⟩,hz⟩:=fr
   have hz:zs.map (·.b)=allR f p (finR f evs) []:=by rw [←hfin];exact hz
   generalize hbl:allR f p (finR f evs) []=bils at hz
   have hc:chR f p ss.length i bank ⟨evs,desk,lose⟩=chD ss.length i bank ⟨evs,desk,lose⟩ bils:=by unfold chR;rw [if_neg h2',hbl]
   rw [hc]
   clear hc
   have hzl:zs.length=bils.length:=by rw [←hz,List.length_map]
   have hb40:bils.length≤40:=by
    have h0:allErr f p (finR f evs) []=0:=by simpa using h2'
    have h1:=(allR_perm h0).length_eq
    rw [List.length_map,List.length_map,hbl] at h1
    have h3:=List.length_filter_le (fun r:Rd=>!r.open_) (finR f evs)
    have h4:=List.length_filter_le (finalP (horR f.devices evs)) (allOf f (evsR evs))
    have h5:(finR f evs).length=((allOf f (evsR evs)).filter (finalP (horR f.devices evs))).length:=rfl
    omega
   iterate 11 refine G ?_
   refine H_loop [11,62,63,64,65,66,67,68,69,70,71,72,73,74,75,76,77,78,79,80,81,82,83,84] (fun s:Nat×Option Addr×Nat=>[(62, .int .i64 s.1)]) (fun s=>deskL ad ae s.2.1 s.2.2 (asksD ss.length i desk (bils.take s.1))++(netH f p ⟨nb,md,mt,mp,some ⟨sb,0,none⟩,sc,ss,bA,bc,bs,kA,kc⟩ bank++svB ⟨sv,ar,am,ad,ae,aA,ac⟩ lose::sRest f.devices ar am evs (faRow zA zc zs::L))) (fun s=>s.1≤zs.length∧(asksD ss.length i desk (bils.take s.1)).length≤256∧ ∀e∈asksD ss.length i desk (bils.take s.1),0≤e.tries∧e.tries≤T) (fun s=>zs.length -s.1) (0,aA,ac) ⟨rfl,trivial⟩ (fun w hw=>hw.pickN 17 [14,15,16,7,8,9,10,11,12,13,0] (by decide) (by decide)) rfl ⟨Nat.zero_le _,hd,ht⟩ ?_
   rintro ⟨k,A1,c1⟩ g ⟨hk,hk1,hk2⟩
   have hk:k≤zs.length:=hk
   have hk1:(asksD ss.length i desk (bils.take k)).length≤256:=hk1
   have hk2: ∀e∈asksD ss.length i desk (bils.take k),0≤e.tries∧e.tries≤T:=hk2
   iterate 6 refine G ?_
   refine H_cond rfl ?_ ?_<;>intro hlt
   ·have hlt':k<zs.length:=by simpa using hlt
    have hzk:=at_get hlt'
    generalize zs.getD k default=z at hzk
    have hbk2:bils[k]?=some z.b:=by rw [←hz,List.getElem?_map,hzk];rfl
    have hst:asksD ss.length i desk (bils.take (k+1))=if homeN ss.length z.b.rider=i then (askR (asksD ss.length i desk (bils.take k)) ⟨z.b.ride,z.b.rider,z.b.total⟩).1 else asksD ss.length i desk (bils.take k):=by rw [snocL bils k z.b hbk2,asksD_snoc]
    refine H_know (fun w hw=>rowT_at (j:=10) hw rfl (by omega)) fun ⟨zb,hzb⟩=>?_
    subst hzb
    iterate 6 refine G ?_
    refine xV (e_idx k Tryz.underlying74 Tryz.sizeOf81 (q0 rfl) (q0 rfl) (fun _=>⟨rfl,hlt'⟩)) rfl rfl ?_
    refine xV (eS Tryz.isAgg81 Tryz.sizeOf81 (q0 rfl) (rrs 10 rfl hzk)) rfl rfl ?_
    refine X_alloc Tryz.zeroValue81 rfl fun b11=>?_
    refine X_st (v:= .agg _) rfl rfl Tryz.sizeOf81 ?_
    iterate 7 refine G ?_
    refine xC (en Tryz.call13 (ha2 (q0 rfl) (q0 rfl))) (fun _ w hw=>nhome_w (M:=⟨nb,md,mt,mp,some ⟨sb,0,none⟩,sc,ss,bA,bc,bs,kA,kc⟩) z.b.rider w (hw.item (k:=4) rfl) (by show 1≤ss.length;omega) h8) rfl rfl ?_
    iterate 4 refine G ?_
    refine H_cond rfl ?_ ?_<;>intro h3
    ·have h3':homeN ss.length z.b.rider=i:=by simpa using h3
     rw [if_pos h3'] at hst
     refine H_mem (L':=deskL ad ae A1 c1 (asksD ss.length i desk (bils.take k))++box b11 81 z.cells::(netH f p ⟨nb,md,mt,mp,some ⟨sb,0,none⟩,sc,ss,bA,bc,bs,kA,kc⟩ bank++svB ⟨sv,ar,am,ad,ae,aA,ac⟩ lose::sRest f.devices ar am evs (faRow (some ⟨zb,0,none⟩) zc zs::L))) (fun w hw=>hw.pickN 4 [1,2,3,0] (by decide) (by decide)) rfl ?_
     refine RAd 3 rfl (by decide+kernel) ?_
     refine aW 0 ?_
     refine aW 1 ?_
     refine aW 2 ?_
     refine aW 3 ?_
     refine aW 4 ?_
     refine aW 5 ?_
     refine aW 6 ?_
     refine aW 7 ?_
     refine aW 8 ?_
     refine aW 9 ?_
     refine aV 10 (by decide+kernel) rfl (e_build Tryz.underlying90 fl90 Tryz.zeroValue90 (pt (v:= .int _ _) rfl (pt (v:= .int _ _) rfl (pt (v:= .int _ _) rfl E.p0))) rfl) rfl ?_
     refine r1 11 3 ?_
     refine aL rfl (f_callM (en Tryz.call84 (ha2 (q0 rfl) (q0 rfl))) (fun w hw=>ask_w ⟨z.b.ride,z.b.rider,z.b.total⟩ (by exact hL) hw hk1) rfl (fun _=>rfl) fun y=>?_)
     refine aZ (by decide+kernel) (sub_drop 3) ?_
     iterate 6 refine G ?_
     exact loopJ_normal (k+1,y.1,y.2) agr ⟨rfl,trivial⟩ (fun w hw=>by show Mem _ (deskL ad ae y.1 y.2 (asksD ss.length i desk (bils.take (k+1)))++_) w;rw [hst];exact hw.pickN 4 [0,1,2] (by decide) (by decide)) rfl ⟨by show k+1≤zs.length;omega,by show (asksD ss.length i desk (bils.take (k+1))).length≤256;rw [hst];exact ask_len _ _ hk1,by show ∀e∈asksD ss.length i desk (bils.take (k+1)),_;rw [hst];exact ask_tries hT.1 hk2⟩ (by show zs.length -(k+1)<zs.length -k;omega)
    ·have h3': ¬homeN ss.length z.b.rider=i:=by simpa using h3
     rw [if_neg h3'] at hst
     iterate 7 refine G ?_
     exact loopJ_normal (k+1,A1,c1) agr ⟨rfl,trivial⟩ (fun w hw=>by show Mem _ (deskL ad ae A1 c1 (asksD ss.length i desk (bils.take (k+1)))++_) w;rw [hst];exact hw.tail) rfl ⟨by show k+1≤zs.length;omega,by show (asksD ss.length i desk (bils.take (k+1))).length≤256;rw [hst];exact hk1,by show ∀e∈asksD ss.length i desk (bils.take (k+1)),_;rw [hst];exact hk2⟩ (by show zs.length -(k+1)<zs.length -k;omega)
   ·have hke:k=zs.length:=by simp at hlt;omega
    subst hke
    rw [hzl,List.take_length] at hk1 hk2
    refine H_mem (L':=deskL ad ae A1 c1 (asksD ss.length i desk bils)++(netH f p ⟨nb,md,mt,mp,some ⟨sb,0,none⟩,sc,ss,bA,bc,bs,kA,kc⟩ bank++svB ⟨sv,ar,am,ad,ae,aA,ac⟩ lose::sRest f.devices ar am evs L)) (fun w hw=>by rw [hzl,List.take_length] at hw;exact hw.pickN 11 [0,1,2,3,4,5,6,7,8,9] (by decide) (by decide)) rfl ?_
    unfold chD
    simp only
    generalize asksD ss.length i desk bils=d0 at hk1 hk2⊢
    iterate 11 refine G ?_
    refine X_eff (f_callM (en Tryz.call41 (ha1 (q0 rfl))) (fun w hw=>open_w (by exact hL) hw hk1) rfl (fun _=>rfl) fun y=>?_)
    obtain ⟨oA,oc⟩:=y
    iterate 12 refine G ?_
    have hol:(openR d0).length≤d0.length:=by unfold openR thoseR;rw [List.length_map];exact List.length_filter_le _ _
    generalize hto:(openR d0).length=t0 at hol⊢
    refine H_loop [13,14,92,93,94,95,96,97,98,99,100,101,102,103,104,105,106,107,108,109,110,111,112,113,114,115] (fun s:Nat×QS×Option Addr×Nat=>[(92, .int .i64 s.1)]) (fun s=>deskL ad ae A1 c1 s.2.1.2.1++(netH f p ⟨nb,md,mt,mp,some ⟨sb,0,none⟩,sc,ss,bA,bc,bs,s.2.2.1,s.2.2.2⟩ s.2.1.1++svB ⟨sv,ar,am,ad,ae,aA,ac⟩ s.2.1.2.2::sRest f.devices ar am evs L)) (fun s=>s.1≤t0∧triesR t0 (bank,d0,lose)=triesR (t0 -s.1) s.2.1∧s.2.1.1.length≤256∧s.2.1.2.1.length≤256∧(∀e∈s.2.1.2.1,0≤e.tries∧e.tries≤T+s.1)∧s.2.1.2.2≤1000000) (fun s=>t0 -s.1) (0,(bank,d0,lose),kA,kc) ⟨rfl,trivial⟩ (fun w hw=>hw.tail) rfl ⟨Nat.zero_le _,rfl,hbk,hk1,by simpa using hk2,hl⟩ ?_
    rintro ⟨k,⟨bk,dk,lk⟩,kA2,kc2⟩ g2 ⟨hq0,hq1,hq2,hq3,hq4,hq5⟩
    have hq0:k≤t0:=hq0
    have hq1:triesR t0 (bank,d0,lose)=triesR (t0 -k) (bk,dk,lk):=hq1
    have hq2:bk.length≤256:=hq2
    have hq3:dk.length≤256:=hq3
    have hq4: ∀e∈dk,0≤e.tries∧e.tries≤T+k:=hq4
    have hq5:lk≤1000000:=hq5
    have hok2:(openR dk).length≤dk.length:=by unfold openR thoseR;rw [List.length_map];exact List.length_filter_le _ _
    iterate 6 refine G ?_
    refine H_cond rfl ?_ ?_<;>intro hlt2
    ·have hlt3:k<t0:=by simpa using hlt2
     rw [show t0 -k=(t0 -(k+1))+1 by omega,triesR] at hq1
     iterate 10 refine G ?_
     refine X_eff (f_callM (en Tryz.call85 (ha1 (q0 rfl))) (fun w hw=>next_w (by exact hL) hw hq3) rfl (fun _=>rfl) fun u=>?_)
     iterate 3 refine G ?_
     refine X_alloc Tryz.zeroValue90 rfl fun b13=>?_
     refine X_st (v:= .agg _) rfl rfl Tryz.sizeOf90 ?_
     iterate 10 refine G ?_
     refine H_cond rfl ?_ ?_<;>intro h4
     ·have hnn:nextR dk=none:=by
       cases hne:nextR dk with
       |none=>rfl
       |some j=>simp [nextP,hne] at h4
      rw [hnn] at hq1
      rw [hq1]
      iterate 14 refine G ?_
      refine X_eff (f_callM (en Tryz.call41 (ha1 (q0 rfl))) (fun w hw=>open_w (by exact hL) hw.tail hq3) rfl (fun _=>rfl) fun y=>?_)
      refine G ?_
      refine xV (e_sub (r:=(t0:Int) -((openR dk).length:Int)) (q0 rfl) (q0 rfl) (fun _=>⟨rfl,by omega,by omega⟩)) rfl rfl ?_
      iterate 5 refine G ?_
      exact ret2 (v:= .int _ _) (x:= .int _ _) rfl rfl rfl hL fun w' hw=>⟨((kA2,kc2),(A1,c1)),rfl,hw.pickN 11 [4,5,6,7,8,9,10,1,2,3] (by decide) (by decide)⟩
     ·obtain ⟨j,hj⟩: ∃j,nextR dk=some j:=by
       cases hne:nextR dk with
       |none=>simp [nextP,hne] at h4
       |some j=>exact ⟨j,rfl⟩
      have hpj:(nextP dk).1=(dk.getD j default).pay:=by unfold nextP;rw [hj]
      rw [hj] at hq1
      simp only at hq1
      rw [←hpj,try_bank] at hq1
      simp only at hq1
      generalize (nextP dk).1=py at hq1⊢
      iterate 2 refine G ?_
      refine H_mem (L':=deskL ad ae A1 c1 dk++(netH f p ⟨nb,md,mt,mp,some ⟨sb,0,none⟩,sc,ss,bA,bc,bs,kA2,kc2⟩ bk++svB ⟨sv,ar,am,ad,ae,aA,ac⟩ lk::box b13 90 py.cells::sRest f.devices ar am evs L)) (fun w hw=>hw.pickN 9 [1,2,3,4,5,6,7,8,0] (by decide) (by decide)) rfl ?_
      refine H_cut [104,105,106,107,108,109,110,111,112,113,114] (fun x:Option Addr×Nat=>[]) (fun x=>deskL ad ae A1 c1 (answR dk py.ride (if 0<lk then 33 else (payR bk py).2)).1++(netH f p ⟨nb,md,mt,mp,some ⟨sb,0,none⟩,sc,ss,bA,bc,bs,x.1,x.2⟩ (payB bk py)++svB ⟨sv,ar,am,ad,ae,aA,ac⟩ (if 0<lk then lk -1 else lk)::box b13 90 py.cells::sRest f.devices ar am evs L)) (fun _=>True) ?_ ?_
      ·refine RAd 8 rfl (by decide+kernel) ?_
       refine aW 0 ?_
       refine aW 1 ?_
       refine aW 2 ?_
       refine aW 4 ?_
       refine aW 5 ?_
       refine aW 6 ?_
       refine aW 7 ?_
       refine aW 8 ?_
       refine rdy2 (i:=3) (j:=9) (by decide+kernel) (sub_drop 8) ?_ ?_
       ·refine aL rfl (f_ev (e_ld (v:= .pointer (some ⟨ad,0,none⟩)) Tryz.isAgg99 (q0 rfl) cb) rfl rfl ?_)
        refine r1 9 8 ?_
        refine aL rfl (f_callM (en Tryz.call87 (ha3 (q0 rfl) (q0 rfl) (q0 rfl))) (fun w hw=>npay2_w (f:=f) (pr:=p) (M:=⟨nb,md,mt,mp,some ⟨sb,0,none⟩,sc,ss,bA,bc,bs,kA2,kc2⟩) (bank:=bk) (a:=⟨sv,ar,am,ad,ae,aA,ac⟩) (lose:=lk) (d:=ad) (m:=ae) (A:=A1) (c:=c1) (l:=dk) (L:=box b13 90 py.cells::sRest f.devices ar am evs L) py hL hw hq2 hq5) rfl (fun _=>rfl) fun y=>?_)
        refine r1 10 8 ?_
        refine aL rfl (f_callM (en Tryz.call86 (ha3 (q0 rfl) (q0 rfl) (q0 rfl))) (fun w hw=>answer_w (d:=ad) (m:=ae) (A:=A1) (c:=c1) (l:=dk) py.ride (if 0<lk then 33 else (payR bk py).2) (by exact hL) hw (fun e he=>by have:=hq4 e he;omega)) rfl (fun _=>rfl) fun u=>?_)
        refine aZ (by decide+kernel) (sub_drop 8) ?_
        exact cutJ_normal (y:Option Addr×Nat) agr trivial (fun w hw=>hw) rfl trivial
       ·refine aL rfl (f_callM (en Tryz.call87 (ha3 (q0 rfl) (q0 rfl) (q0 rfl))) (fun w hw=>npay2_w (f:=f) (pr:=p) (M:=⟨nb,md,mt,mp,some ⟨sb,0,none⟩,sc,ss,bA,bc,bs,kA2,kc2⟩) (bank:=bk) (a:=⟨sv,ar,am,ad,ae,aA,ac⟩) (lose:=lk) (d:=ad) (m:=ae) (A:=A1) (c:=c1) (l:=dk) (L:=box b13 90 py.cells::sRest f.devices ar am evs L) py hL hw hq2 hq5) rfl (fun _=>rfl) fun y=>?_)
        refine r1 3 8 ?_
        refine aL rfl (f_ev (e_ld (v:= .pointer (some ⟨ad,0,none⟩)) Tryz.isAgg99 (q0 rfl) cb) rfl rfl ?_)
        refine r1 10 8 ?_
        refine aL rfl (f_callM (en Tryz.call86 (ha3 (q0 rfl) (q0 rfl) (q0 rfl))) (fun w hw=>answer_w (d:=ad) (m:=ae) (A:=A1) (c:=c1) (l:=dk) py.ride (if 0<lk then 33 else (payR bk py).2) (by exact hL) hw (fun e he=>by have:=hq4 e he;omega)) rfl (fun _=>rfl) fun u=>?_)
        refine aZ (by decide+kernel) (sub_drop 8) ?_
        exact cutJ_normal (y:Option Addr×Nat) agr trivial (fun w hw=>hw) rfl trivial
      ·rintro x g3 _
       iterate 6 refine G ?_
       exact loopJ_normal (k+1,(payB bk py,(answR dk py.ride (if 0<lk then 33 else (payR bk py).2)).1,if 0<lk then lk -1 else lk),x.1,x.2) agr ⟨rfl,trivial⟩ (fun w hw=>hw.pickN 9 [0,1,2,3,4,5,6,7] (by decide) (by decide)) rfl ⟨by show k+1≤t0;omega,hq1,payB_len _ _ hq2,by show (answR dk py.ride _).1.length≤256;rw [answ_len];exact hq3,fun e he=>by have:=answ_tries hq4 e he;show 0≤e.tries∧e.tries≤T+((k+1:Nat):Int);omega,by show (if 0<lk then lk -1 else lk)≤1000000;split<;>omega⟩ (by show t0 -(k+1)<t0 -k;omega)
    ·have hkt:k=t0:=by simp at hlt2;omega
     subst hkt
     rw [Nat.sub_self,triesR] at hq1
     rw [hq1]
     iterate 12 refine G ?_
     refine X_eff (f_callM (en Tryz.call41 (ha1 (q0 rfl))) (fun w hw=>open_w (by exact hL) hw hq3) rfl (fun _=>rfl) fun y=>?_)
     refine G ?_
     refine xV (e_sub (r:=(k:Int) -((openR dk).length:Int)) (q0 rfl) (q0 rfl) (fun _=>⟨rfl,by omega,by omega⟩)) rfl rfl ?_
     iterate 5 refine G ?_
     exact ret2 (v:= .int _ _) (x:= .int _ _) rfl rfl rfl hL fun w' hw=>⟨((kA2,kc2),(A1,c1)),rfl,hw.pickN 11 [4,5,6,7,8,9,10,1,2,3] (by decide) (by decide)⟩
end Go.Proofs.Net
namespace Go.Proofs.Net
open Go Go.RowKit Go.Proofs.E Go.Proofs.Cus Go.Proofs.Rid Go.Proofs.Far Go.Proofs.Hom
def svF (dv:Int) (y:SA×SS):List E.Item:=svL dv y.1 y.2
def apF (y:(Nat×Nat)×List Bool):List E.Item:=[E.rowT 4 1 blC (some ⟨y.1.1,0,none⟩) y.1.2 y.2]
abbrev netI (f:Fl) (p:Pr) (M:NM) (bank:List Py) (sv:List (SA×SS)) (ap:List ((Nat×Nat)×List Bool)) (L:List E.Item):List E.Item:=netH f p M bank++(bag (sv.flatMap (svF f.devices))::bag (ap.flatMap apF)::L)
theorem two_perm {α:Type}: ∀{xs:List α} {i j:Nat} {x y:α},xs[i]?=some x→xs[j]?=some y→i≠j→ ∃R,xs.Perm (x::y::R)∧ ∀x' y',((xs.set i x').set j y').Perm (x'::y'::R)
 |[],i,j,x,y,h,_,_=>by simp at h
 |a::l,0,0,x,y,_,_,hn=>absurd rfl hn
 |a::l,0,j+1,x,y,h1,h2,_=>by
  simp only [List.getElem?_cons_zero,Option.some.injEq,List.getElem?_cons_succ] at h1 h2
  subst h1
  refine ⟨l.eraseIdx j,(erase_perm l j y h2).symm.cons a,fun x' y'=>?_⟩
  exact (set_perm l j y' (List.getElem?_eq_some_iff.1 h2).1).cons x'
 |a::l,i+1,0,x,y,h1,h2,_=>by
  simp only [List.getElem?_cons_zero,Option.some.injEq,List.getElem?_cons_succ] at h1 h2
  subst h2
  refine ⟨l.eraseIdx i,((erase_perm l i x h1).symm.cons a).trans (List.Perm.swap ..),fun x' y'=>?_⟩
  exact ((set_perm l i x' (List.getElem?_eq_some_iff.1 h1).1).cons y').trans (List.Perm.swap ..)
 |a::l,i+1,j+1,x,y,h1,h2,hn=>by
  simp only [List.getElem?_cons_succ] at h1 h2
  obtain ⟨R,h3,h4⟩:=two_perm h1 h2 (fun h=>hn (by rw [h]))
  refine ⟨a::R,?_,fun x' y'=>?_⟩
  ·exact (h3.cons a).trans ((List.perm_middle (l₁:=[x,y])).symm)
  ·exact ((h4 x' y').cons a).trans ((List.perm_middle (l₁:=[x',y'])).symm)
theorem bag_perm {w0 w:World} {S T L:List E.Item} (h:Mem w0 (bag S::L) w) (hp:S.Perm T):Mem w0 (bag T::L) w:=(h.unbag.perm (List.Perm.append_right L hp.symm)).bag
theorem two_open {α:Type} {g:α→List E.Item} {xs:List α} {x y:α} {R:List α} {w0 w:World} {L:List E.Item} (h:Mem w0 (bag (xs.flatMap g)::L) w) (hp:xs.Perm (x::y::R)):Mem w0 (g x++(g y++(bag (R.flatMap g)::L))) w:=by
 have h1:=(bag_perm h (hp.flatMap_right g)).unbag
 rw [List.flatMap_cons,List.flatMap_cons,List.append_assoc,List.append_assoc] at h1
 have h2:=h1.perm (L':=R.flatMap g++(g x++(g y++L))) (by
  refine (List.perm_append_comm_assoc ..).trans (List.Perm.append_left _ (List.perm_append_comm_assoc ..)))
 have h3:=h2.bag
 exact h3.perm ((List.Perm.append_left (g x) List.perm_middle).trans List.perm_middle)
theorem two_close {α:Type} {g:α→List E.Item} {xs:List α} {x y:α} {R:List α} {w0 w:World} {L:List E.Item} (h:Mem w0 (g x++(g y++(bag (R.flatMap g)::L))) w) (hp:xs.Perm (x::y::R)):Mem w0 (bag (xs.flatMap g)::L) w:=by
 have h3:=h.perm (L':=bag (R.flatMap g)::(g x++(g y++L))) ((List.Perm.append_left (g x) List.perm_middle).trans List.perm_middle).symm
 have h2:=h3.unbag.perm (L':=g x++(g y++(R.flatMap g++L))) (by
  refine ((List.perm_append_comm_assoc ..).trans (List.Perm.append_left _ (List.perm_append_comm_assoc ..))).symm)
 rw [←List.append_assoc,←List.append_assoc,List.append_assoc (g x),←List.flatMap_cons,←List.flatMap_cons] at h2
 exact bag_perm h2.bag (hp.symm.flatMap_right g)
theorem one_w (b:Bool) (w:World):Calls Tryz.prog 43 #[.bool b] w fun q w'=>q= .returned (.int .i64 (if b=true then 1 else 0))∧Bel w w':=by
 refine H_enter Tryz.func43 rfl Tryz.ntmps43 rfl ?_
 iterate 11 refine G ?_
 refine H_cond rfl ?_ ?_<;>intro h
 ·have h':b=true:=by simpa using h
  rw [if_pos h']
  iterate 7 refine G ?_
  exact ret1 (v:= .int _ _) rfl rfl rfl fun w' hw=>⟨rfl,hw.1⟩
 ·have h': ¬b=true:=by simpa using h
  rw [if_neg h']
  iterate 8 refine G ?_
  exact ret1 (v:= .int _ _) rfl rfl rfl fun w' hw=>⟨rfl,hw.1⟩
def hasB (n:Nat) (k:Int):Bool:=decide (0≤k)&&decide (k<n)
theorem nhas_w {f:Fl} {pr:Pr} {M:NM} {m:Nat} (k:Int) (w:World) (h:(box M.nb 97 (ntC f pr M m)).A w):Calls Tryz.prog 40 #[.pointer (some ⟨M.nb,0,none⟩), .int .i64 k] w fun q w'=>q= .returned (.bool (hasB M.ss.length k))∧Bel w w':=by
 have hb:=box_lt h
 have hr:=row_at h
 refine H_enter Tryz.func40 rfl Tryz.ntmps40 rfl ?_
 iterate 8 refine G ?_
 refine xV (e_neNilP Tryz.underlying33 (q0 rfl)) rfl rfl ?_
 iterate 17 refine G ?_
 exact ret1 (v:= .bool _) rfl rfl rfl fun w' hw=>⟨rfl,hw.1⟩
def Stp.cells (x:Stp):List Value:= .int .i64 x.kind:: .int .i64 x.a:: .int .i64 x.b::x.ev.cells
def twoB (n:Nat) (x:Stp):Int:=if hasB n x.b=false then 7 else if x.a=x.b then 1 else 0
theorem fl60 {fs:Array Field} (h:Tryz.prog.underlying 60=some (.struct fs):=by exact Tryz.underlying60):FieldsLie Tryz.prog fs [(0,1),(1,1),(2,1),(3,9)]:=by
 rw [Tryz.underlying60] at h
 cases h
 intro w
 kernel_rfl
theorem two_w {f:Fl} {pr:Pr} {M:NM} {m:Nat} (x:Stp) (w:World) (h:(box M.nb 97 (ntC f pr M m)).A w):Calls Tryz.prog 45 #[.pointer (some ⟨M.nb,0,none⟩), .agg x.cells.toArray] w fun q w'=>q= .returned (.int .i64 (twoB M.ss.length x))∧Bel w w':=by
 have hb:=box_lt h
 refine H_enter Tryz.func45 rfl Tryz.ntmps45 rfl ?_
 iterate 2 refine G ?_
 refine X_box (v:= .agg _) rfl rfl fun b3=>?_
 iterate 10 refine G ?_
 refine xC (en Tryz.call40 (ha2 (q0 rfl) (q0 rfl))) (fun _ w hw=>nhas_w (f:=f) (pr:=pr) (M:=M) (m:=m) x.b w ((box M.nb 97 (ntC f pr M m)).st _ _ (fun b hb'=>by have:b=M.nb:=hb';subst this;exact hw.1.block _ hb) h)) rfl rfl ?_
 iterate 4 refine G ?_
 refine H_cond rfl ?_ ?_<;>intro h1
 ·have h1':hasB M.ss.length x.b=false:=by simpa using h1
  iterate 8 refine G ?_
  exact ret1 (v:= .int _ _) rfl rfl rfl fun w' hw=>⟨by unfold twoB;rw [if_pos h1'],hw.1⟩
 ·have h1': ¬hasB M.ss.length x.b=false:=by simpa using h1
  iterate 10 refine G ?_
  refine H_cond rfl ?_ ?_<;>intro h2
  ·have h2':x.a=x.b:=by simpa using h2
   iterate 8 refine G ?_
   exact ret1 (v:= .int _ _) rfl rfl rfl fun w' hw=>⟨by unfold twoB;rw [if_neg h1',if_pos h2'],hw.1⟩
  ·have h2': ¬x.a=x.b:=by simpa using h2
   iterate 9 refine G ?_
   exact ret1 (v:= .int _ _) rfl rfl rfl fun w' hw=>⟨by unfold twoB;rw [if_neg h1',if_neg h2'],hw.1⟩
end Go.Proofs.Net
namespace Go.Proofs.Net
open Go Go.RowKit Go.Proofs.E Go.Proofs.Cus Go.Proofs.Rid Go.Proofs.Far Go.Proofs.Hom
def setP (ap:List ((Nat×Nat)×List Bool)) (i j:Nat) (v:Bool):List ((Nat×Nat)×List Bool):=ap.set i ((ap.getD i default).1,(ap.getD i default).2.set j v)
def conP (ap:List ((Nat×Nat)×List Bool)) (i j:Nat) (v:Bool):List ((Nat×Nat)×List Bool):=setP (setP ap i j v) j i v
def apP (ap:List ((Nat×Nat)×List Bool)) (i j:Nat):Bool:=(ap.getD i default).2.getD j false
theorem getD_at {α:Type} {xs:List α} {i:Nat} {x d:α} (h:xs[i]?=some x):xs.getD i d=x:=by simp [h]
theorem connect_w {f:Fl} {p:Pr} {M:NM} {bank:List Py} {ap:List ((Nat×Nat)×List Bool)} (i j:Nat) (v:Bool) {w0 w:World} {L:List E.Item} (hL:marks L=[]) (hw:Mem w0 (netH f p M bank++(bag (ap.flatMap apF)::L)) w)
  (hbs:M.bs=ap.map (·.1)) (hn:M.ss.length=ap.length) (h8:ap.length≤8) (hr: ∀y∈ap,y.2.length=ap.length) (hi:i<ap.length) (hj:j<ap.length) (hij:i≠j):
  Calls Tryz.prog 46 #[.pointer (some ⟨M.nb,0,none⟩), .int .i64 i, .int .i64 j, .bool v] w fun q w'=> ∃_x:Unit,q= .returned (.int .i64 (if (apP ap i j !=v)=true then 1 else 0))∧Mem w0 (netH f p M bank++(bag ((conP ap i j v).flatMap apF)::L)) w':=by
 obtain ⟨nb,md,mt,mp,sA,sc,ss,bA,bc,bs,kA,kc⟩:=M
 simp only at hbs hn
 have hx:=at_get hi
 have hy:=at_get hj
 obtain ⟨R,hR,hR2⟩:=two_perm hx hy hij
 generalize hxe:ap.getD i default=x at hx hR
 generalize hye:ap.getD j default=y at hy hR
 obtain ⟨⟨xb,xc⟩,xl⟩:=x
 obtain ⟨⟨yb,yc⟩,yl⟩:=y
 have hxl:xl.length=ap.length:=hr _ (List.mem_of_getElem? hx)
 have hyl:yl.length=ap.length:=hr _ (List.mem_of_getElem? hy)
 have hc:conP ap i j v=(ap.set i ((xb,xc),xl.set j v)).set j ((yb,yc),yl.set i v):=by
  unfold conP setP
  rw [hxe]
  have:(ap.set i ((xb,xc),xl.set j v)).getD j default=((yb,yc),yl):=by
   rw [List.getD_eq_getElem?_getD,List.getElem?_set_ne hij,hy];rfl
  simp only [this]
 have hbi:bs[i]?=some (xb,xc):=by rw [hbs,List.getElem?_map,hx];rfl
 have hbj:bs[j]?=some (yb,yc):=by rw [hbs,List.getElem?_map,hy];rfl
 have hbl:bs.length=ap.length:=by rw [hbs,List.length_map]
 have hap:apP ap i j=xl.getD j false:=by unfold apP;rw [hxe]
 have hxj:=at_get (l:=xl) (i:=j) (by omega)
 have hyi:=at_get (l:=yl) (i:=i) (by omega)
 rw [hap]
 have hw:Mem w0 (apF ((xb,xc),xl)++(apF ((yb,yc),yl)++(bag (R.flatMap apF)::(netH f p ⟨nb,md,mt,mp,sA,sc,ss,bA,bc,bs,kA,kc⟩ bank++L)))) w:=two_open (hw.pickN 5 [4,0,1,2,3] (by decide) (by decide)) hR
 refine H_enterM hw hL Tryz.func46 rfl Tryz.ntmps46 rfl ?_
 iterate 6 refine G ?_
 refine H_know (fun w hw=>rowT_at (j:=5) hw rfl (by simp only;omega)) fun ⟨sb,hsb⟩=>?_
 subst hsb
 iterate 6 refine G ?_
 refine xV (e_idx i Tryz.underlying95 Tryz.sizeOf103 (q0 rfl) (q0 rfl) (fun _=>⟨rfl,by simp only;omega⟩)) rfl rfl ?_
 refine xV (eL Tryz.isAgg103 (q0 rfl) (rr0 5 rfl hbi rfl)) rfl rfl ?_
 refine G ?_
 refine xV (e_idx j Tryz.underlying103 Tryz.sizeOf4 (q0 rfl) (q0 rfl) (fun _=>⟨rfl,by simp only;omega⟩)) rfl rfl ?_
 refine xV (eL Tryz.isAgg4 (q0 rfl) (rr0 0 rfl hxj rfl)) rfl rfl ?_
 refine G ?_
 refine xV (e_neb Tryz.underlying4 (q0 rfl) (q0 rfl)) rfl rfl ?_
 iterate 4 refine G ?_
 refine H_cut [22,23,24,25,26,27,28,29,30,31,32,33,34,35,36,37,38,39,40,41] (fun _:Unit=>[]) (fun _=>E.rowT 4 1 blC (some ⟨xb,0,none⟩) xc (xl.set j v)::E.rowT 4 1 blC (some ⟨yb,0,none⟩) yc (yl.set i v)::bag (R.flatMap apF)::(netH f p ⟨nb,md,mt,mp,sA,sc,ss,some ⟨sb,0,none⟩,bc,bs,kA,kc⟩ bank++L)) (fun _=>True) ?_ ?_
 ·refine RAd 2 rfl (by decide+kernel) ?_
  refine aW 0 ?_
  refine aW 1 ?_
  refine aW 2 ?_
  refine aW 3 ?_
  refine aW 4 ?_
  refine aV 5 (by decide+kernel) rfl (e_idx i Tryz.underlying95 Tryz.sizeOf103 (q0 rfl) (q0 rfl) (fun _=>⟨rfl,by simp only;omega⟩)) rfl ?_
  refine aV 6 (by decide+kernel) rfl (eL Tryz.isAgg103 (q0 rfl) (rr0 3 rfl hbi rfl)) rfl ?_
  refine aW 7 ?_
  refine aW 8 ?_
  refine aW 9 ?_
  refine aW 10 ?_
  refine aW 11 ?_
  refine aW 12 ?_
  refine aV 13 (by decide+kernel) rfl (e_idx j Tryz.underlying95 Tryz.sizeOf103 (q0 rfl) (q0 rfl) (fun _=>⟨rfl,by simp only;omega⟩)) rfl ?_
  refine aV 14 (by decide+kernel) rfl (eL Tryz.isAgg103 (q0 rfl) (rr0 3 rfl hbj rfl)) rfl ?_
  refine aW 15 ?_
  refine aW 16 ?_
  refine aW 17 ?_
  refine aV 18 (by decide+kernel) rfl (e_idx j Tryz.underlying103 Tryz.sizeOf4 (q0 rfl) (q0 rfl) (fun _=>⟨rfl,by simp only;omega⟩)) rfl ?_
  refine r1 19 2 ?_
  refine aL rfl (f_storeR0 0 (k:=1) (enc:=blC) v rfl rfl Tryz.sizeOf4 rfl rfl rfl hxj rfl rfl ?_)
  refine aV 20 (by decide+kernel) rfl (e_idx i Tryz.underlying103 Tryz.sizeOf4 (q0 rfl) (q0 rfl) (fun _=>⟨rfl,by simp only;omega⟩)) rfl ?_
  refine r1 21 2 ?_
  refine aL rfl (f_storeR0 1 (k:=1) (enc:=blC) v rfl rfl Tryz.sizeOf4 rfl rfl rfl hyi rfl rfl ?_)
  refine aZ (by decide+kernel) (sub_drop 2) ?_
  exact cutJ_normal () agr trivial (fun w hw=>hw) rfl trivial
 ·rintro _ g _
  iterate 4 refine G ?_
  refine xC (en Tryz.call43 (ha1 (q0 rfl))) (fun _ w _=>one_w _ w) rfl rfl ?_
  iterate 4 refine G ?_
  have hfin: ∀w',Mem w0 (E.rowT 4 1 blC (some ⟨xb,0,none⟩) xc (xl.set j v)::E.rowT 4 1 blC (some ⟨yb,0,none⟩) yc (yl.set i v)::bag (R.flatMap apF)::(netH f p ⟨nb,md,mt,mp,sA,sc,ss,some ⟨sb,0,none⟩,bc,bs,kA,kc⟩ bank++L)) w'→Mem w0 (netH f p ⟨nb,md,mt,mp,sA,sc,ss,some ⟨sb,0,none⟩,bc,bs,kA,kc⟩ bank++(bag ((conP ap i j v).flatMap apF)::L)) w':=fun w' hw=>by
   rw [hc]
   have h:Mem w0 (apF ((xb,xc),xl.set j v)++(apF ((yb,yc),yl.set i v)++(bag (R.flatMap apF)::(netH f p ⟨nb,md,mt,mp,sA,sc,ss,some ⟨sb,0,none⟩,bc,bs,kA,kc⟩ bank++L)))) w':=by
    unfold apF
    exact hw
   exact (two_close h (hR2 _ _)).pickN 5 [1,2,3,4,0] (by decide) (by decide)
  exact ret1 (v:= .int _ _) rfl rfl hL fun w' hw=>⟨(),rfl,hfin _ hw⟩
theorem learnL_snoc (n:Int): ∀(xs:List Ev) (l:List Ev) (e:Ev),learnL n l (xs++[e])=((addR n (learnL n l xs).1 e).1,(learnL n l xs).2+(if (addR n (learnL n l xs).1 e).2.1=true∧(addR n (learnL n l xs).1 e).2.2=0 then 1 else 0))
 |[],l,e=>by simp only [List.nil_append,learnL,Int.zero_add,Int.add_zero];rfl
 |x::xs,l,e=>by
  rw [List.cons_append,learnL,learnL]
  simp only [learnL_snoc n xs]
  rw [Int.add_assoc]
theorem learnL_num (n:Int): ∀(xs:List Ev) (l:List Ev),0≤(learnL n l xs).2∧(learnL n l xs).2≤xs.length
 |[],l=>by simp [learnL]
 |x::xs,l=>by
  have h:=learnL_num n xs (addR n l x).1
  rw [learnL]
  simp only [List.length_cons]
  split<;>omega
attribute [local irreducible] addR
theorem learn_w {f:Fl} {p:Pr} {M:NM} {bank:List Py} {sv:List (SA×SS)} {ap:List ((Nat×Nat)×List Bool)} (i j:Nat) {x y:SA×SS} {w0 w:World} {L:List E.Item} (hL:marks L=[]) (hw:Mem w0 (netI f p M bank sv ap L) w)
  (hss:M.ss=sv.map (·.1.s)) (h8:sv.length≤8) (hx:sv[i]?=some x) (hy:sv[j]?=some y) (hij:i≠j) (hp: ∀e∈y.2.evs,0≤e.device∧1≤e.seq) (hn:y.2.evs.length≤10000):
  Calls Tryz.prog 47 #[.pointer (some ⟨M.nb,0,none⟩), .int .i64 i, .int .i64 j] w fun q w'=> ∃_x:Unit,q= .returned (.int .i64 (learnL f.devices x.2.evs (evsR y.2.evs)).2)∧
   Mem w0 (netI f p M bank (sv.set i (x.1,{x.2 with evs:=(learnL f.devices x.2.evs (evsR y.2.evs)).1})) ap L) w':=by
 obtain ⟨nb,md,mt,mp,sA,sc,ss,bA,bc,bs,kA,kc⟩:=M
 simp only at hss
 obtain ⟨R,hR,hR2⟩:=two_perm hx hy hij
 have hsi:ss[i]?=some x.1.s:=by rw [hss,List.getElem?_map,hx];rfl
 have hsj:ss[j]?=some y.1.s:=by rw [hss,List.getElem?_map,hy];rfl
 have hil:=(List.getElem?_eq_some_iff.1 hsi).1
 have hjl:=(List.getElem?_eq_some_iff.1 hsj).1
 have hsl:ss.length=sv.length:=by rw [hss,List.length_map]
 have hset:(sv.set i (x.1,{x.2 with evs:=(learnL f.devices x.2.evs (evsR y.2.evs)).1})).Perm ((x.1,{x.2 with evs:=(learnL f.devices x.2.evs (evsR y.2.evs)).1})::y::R):=by
  have h:=hR2 (x.1,{x.2 with evs:=(learnL f.devices x.2.evs (evsR y.2.evs)).1}) y
  have hs:(sv.set i (x.1,{x.2 with evs:=(learnL f.devices x.2.evs (evsR y.2.evs)).1})).set j y=sv.set i (x.1,{x.2 with evs:=(learnL f.devices x.2.evs (evsR y.2.evs)).1}):=by
   apply List.ext_getElem?
   intro q
   by_cases hq:j=q
   ·subst hq
    rw [List.getElem?_set_self (by rw [List.length_set];omega),List.getElem?_set_ne hij,hy]
   ·rw [List.getElem?_set_ne hq]
  rwa [hs] at h
 have hw:Mem w0 (svF f.devices x++(svF f.devices y++(bag (R.flatMap (svF f.devices))::(netH f p ⟨nb,md,mt,mp,sA,sc,ss,bA,bc,bs,kA,kc⟩ bank++(bag (ap.flatMap apF)::L))))) w:=two_open (hw.pickN 6 [4,0,1,2,3,5] (by decide) (by decide)) hR
 have hfin: ∀{w':World} {sB:Option Addr},Mem w0 (svF f.devices (x.1,{x.2 with evs:=(learnL f.devices x.2.evs (evsR y.2.evs)).1})++(svF f.devices y++(bag (R.flatMap (svF f.devices))::(netH f p ⟨nb,md,mt,mp,sB,sc,ss,bA,bc,bs,kA,kc⟩ bank++(bag (ap.flatMap apF)::L))))) w'→Mem w0 (netI f p ⟨nb,md,mt,mp,sB,sc,ss,bA,bc,bs,kA,kc⟩ bank (sv.set i (x.1,{x.2 with evs:=(learnL f.devices x.2.evs (evsR y.2.evs)).1})) ap L) w':=fun hw=>(two_close hw hset).pickN 6 [1,2,3,4,0,5] (by decide) (by decide)
 obtain ⟨⟨sv1,ar,am,ad,ae,aA,ac⟩,ex,dx,lx⟩:=x
 obtain ⟨⟨sv2,br,bm,bd,be,bA2,bc2⟩,ey,dy,ly⟩:=y
 simp only at hsi hsj hp hn hfin⊢
 have hel:(evsR ey).length=ey.length:=List.length_mergeSort ey
 refine H_enterM hw hL Tryz.func47 rfl Tryz.ntmps47 rfl ?_
 iterate 12 refine G ?_
 refine H_know (fun w hw=>rowT_at (j:=14) hw rfl (by simp only;omega)) fun ⟨sb,hsb⟩=>?_
 subst hsb
 iterate 6 refine G ?_
 refine xV (e_idx j Tryz.underlying94 Tryz.sizeOf98 (q0 rfl) (q0 rfl) (fun _=>⟨rfl,by simp only;omega⟩)) rfl rfl ?_
 refine xV (eL Tryz.isAgg98 (q0 rfl) (rr0 14 rfl hsj rfl)) rfl rfl ?_
 iterate 3 refine G ?_
 refine xCX (en Tryz.call30 (ha1 (q0 rfl))) (fun w hw=>events_w (l:=ey) w (hw.item (k:=7) rfl) (hw.item (k:=8) rfl) hp hn) rfl (fun _=>rfl) fun ev=>?_
 iterate 5 refine G ?_
 generalize hes:evsR ey=es at*
 obtain ⟨eA,ec⟩:=ev
 refine H_loop [7,9,10,11,24,25,26,27,28,29,30,31,32,33,34,35,36,37,38,39,40,41,42,43,44,45,46,47,48,49,50] (fun s:Nat=>[(7, .int .i64 (learnL f.devices ex (es.take s)).2),(24, .int .i64 s)]) (fun s=>rpL ar am f.devices (learnL f.devices ex (es.take s)).1++(evRow eA ec es::svB ⟨sv1,ar,am,ad,ae,aA,ac⟩ lx::(deskL ad ae aA ac dx++(svF f.devices (⟨sv2,br,bm,bd,be,bA2,bc2⟩,⟨ey,dy,ly⟩)++(bag (R.flatMap (svF f.devices))::(netH f p ⟨nb,md,mt,mp,some ⟨sb,0,none⟩,sc,ss,bA,bc,bs,kA,kc⟩ bank++(bag (ap.flatMap apF)::L))))))) (fun s=>s≤es.length) (fun s=>es.length -s) 0 ⟨rfl,rfl,trivial⟩ (fun w hw=>hw.pickN 7 [2,3,0,1,4,5,6] (by decide) (by decide)) rfl (Nat.zero_le _) ?_
 intro k g hk
 have hk:k≤es.length:=hk
 iterate 6 refine G ?_
 refine H_cond rfl ?_ ?_<;>intro hlt
 ·have hlt':k<es.length:=by simpa using hlt
  have hek:es[k]?=some es[k]:=List.getElem?_eq_getElem hlt'
  generalize es[k]=e at hek
  have hst:=learnL_snoc f.devices (es.take k) ex e
  rw [←snocL es k e hek] at hst
  have hnum:=learnL_num f.devices (es.take k) ex
  have htl:(es.take k).length≤k:=by rw [List.length_take];omega
  refine H_know (fun w hw=>rowT_at (j:=2) hw rfl (by omega)) fun ⟨eb,heb⟩=>?_
  subst heb
  iterate 6 refine G ?_
  refine xV (e_idx k Tryz.underlying49 Tryz.sizeOf58 (q0 rfl) (q0 rfl) (fun _=>⟨rfl,hlt'⟩)) rfl rfl ?_
  refine xV (eS Tryz.isAgg58 Tryz.sizeOf58 (q0 rfl) (rrs 2 rfl hek)) rfl rfl ?_
  refine X_alloc Tryz.zeroValue58 rfl fun b9=>?_
  refine X_st (v:= .agg _) rfl rfl Tryz.sizeOf58 ?_
  iterate 3 refine G ?_
  refine H_mem (L':=rpL ar am f.devices (learnL f.devices ex (es.take k)).1++(box b9 58 e.cells::evRow (some ⟨eb,0,none⟩) ec es::svB ⟨sv1,ar,am,ad,ae,aA,ac⟩ lx::(deskL ad ae aA ac dx++(svF f.devices (⟨sv2,br,bm,bd,be,bA2,bc2⟩,⟨ey,dy,ly⟩)++(bag (R.flatMap (svF f.devices))::(netH f p ⟨nb,md,mt,mp,some ⟨sb,0,none⟩,sc,ss,bA,bc,bs,kA,kc⟩ bank++(bag (ap.flatMap apF)::L))))))) (fun w hw=>hw.pickN 3 [1,2,0] (by decide) (by decide)) rfl ?_
  refine RAd 2 rfl (by decide+kernel) ?_
  refine aW 0 ?_
  refine aW 1 ?_
  refine aW 2 ?_
  refine aW 3 ?_
  refine aW 4 ?_
  refine aV 5 (by decide+kernel) rfl (e_idx i Tryz.underlying94 Tryz.sizeOf98 (q0 rfl) (q0 rfl) (fun _=>⟨rfl,by simp only;omega⟩)) rfl ?_
  refine aV 6 (by decide+kernel) rfl (eL Tryz.isAgg98 (q0 rfl) (rr0 14 rfl hsi rfl)) rfl ?_
  refine aW 7 ?_
  refine aW 8 ?_
  refine aW 9 ?_
  refine aW 10 ?_
  refine r1 11 2 ?_
  refine aL rfl (f_callM (en Tryz.call26 (ha2 (q0 rfl) (q0 rfl))) (fun w hw=>add_w e (by exact hL) hw) rfl (fun _=>rfl) fun u=>?_)
  refine aW 12 ?_
  refine aW 13 ?_
  refine aW 14 ?_
  refine aW 15 ?_
  refine aW 16 ?_
  refine aZ (by decide+kernel) (sub_drop 2) ?_
  iterate 10 refine G ?_
  generalize hq:learnL f.devices ex (es.take k)=q at*
  generalize hr:addR f.devices q.1 e=r at*
  refine H_cond rfl ?_ ?_<;>intro h1
  ·have h1':r.2.2=0∧r.2.1=true:=by simpa using h1
   rw [if_pos ⟨h1'.2,h1'.1⟩] at hst
   iterate 11 refine G ?_
   exact loopJ_normal (k+1) agr ⟨by rw [hst];rfl,rfl,trivial⟩ (fun w hw=>by rw [hst];exact hw.pickN 3 [0,1] (by decide) (by decide)) rfl (by show k+1≤es.length;omega) (by show es.length -(k+1)<es.length -k;omega)
  ·have h1': ¬(r.2.1=true∧r.2.2=0):=fun h=>by simp [h.1,h.2] at h1
   rw [if_neg h1'] at hst
   iterate 7 refine G ?_
   exact loopJ_normal (k+1) agr ⟨by rw [hst];show _=Value.int .i64 (q.2+0);rw [Int.add_zero];rfl,rfl,trivial⟩ (fun w hw=>by rw [hst];exact hw.pickN 3 [0,1] (by decide) (by decide)) rfl (by show k+1≤es.length;omega) (by show es.length -(k+1)<es.length -k;omega)
 ·have hke:k=es.length:=by simp at hlt;omega
  subst hke
  rw [List.take_length]
  iterate 12 refine G ?_
  exact ret1 (v:= .int _ _) rfl rfl hL fun w' hw=>⟨(),rfl,hfin (by exact hw.pickN 7 [3,0,1,4,5,6] (by decide) (by decide))⟩
end Go.Proofs.Net
