import Derived.Test.YtakhechhnnjbcaaGreatBN10
import Derived.Test.YtakhechhnnjbcaaGreatBN08
import Derived.Test.YtakhechhnnjbcaaGreatBN03
import Derived.Test.YtakhechhnnjbcaaGreatBN04
import Derived.Test.YtakhechhnnjbcaaGreatTy
set_option maxRecDepth 100000
set_option maxHeartbeats 8000000
set_option linter.unusedVariables false
set_option linter.unusedSimpArgs false
namespace Go.Proofs.Cus
open Go Go.RowKit Go.Proofs.E
theorem fl252 {fs:Array Field} (h:Tryz.prog.underlying 252=some (.struct fs):=by exact Tryz.underlying252):FieldsLie Tryz.prog fs [(0,1),(1,1),(2,1),(3,1)]:=by
 rw [Tryz.underlying252] at h
 cases h
 intro w
 kernel_rfl
theorem fl355 {fs:Array Field} (h:Tryz.prog.underlying 355=some (.struct fs):=by exact Tryz.underlying355):FieldsLie Tryz.prog fs [(0,1),(1,1),(2,1)]:=by
 rw [Tryz.underlying355] at h
 cases h
 intro w
 kernel_rfl
theorem fl346 {fs:Array Field} (h:Tryz.prog.underlying 346=some (.struct fs):=by exact Tryz.underlying346):FieldsLie Tryz.prog fs [(0,5),(5,1),(6,1),(7,1)]:=by
 rw [Tryz.underlying346] at h
 cases h
 intro w
 kernel_rfl
def Sp.cells (x:Sp):List Value:=[.int .i64 x.where_, .int .i64 x.place, .int .i64 x.ride, .bool x.paused]
def PT.cells (t:PT):List Value:=[.int .i64 t.rider, .int .i64 t.bike, .bool t.paused]
abbrev SpotsAt (w:World) (A:Option Addr) (n:Nat) (xs:List Sp):Prop:=SlAt w 4 Sp.cells A n xs
abbrev spRow (A:Option Addr) (c:Nat) (xs:List Sp):E.Item:=rowT 252 4 Sp.cells A c xs
structure TS where
 spots:List Sp
 ps:List (Int×Nat×PT)
 used:List Int
def TS.open_ (t:TS):List (Int×PT):=t.ps.map fun p=>(p.1,p.2.2)
def TS.plain (t:TS):PS:=⟨t.spots,t.open_,t.used⟩
structure SA where
 sb:Nat
 q:Nat
 n:Nat
 c:Nat
 m:Nat
 u:Nat
def usedPairs (l:List Int):List (Int×Value):=l.map fun i=>(i, .bool true)
def stCells (f:Fl) (a:FA) (s:SA):List Value:=f.cells a++[.slice (some ⟨s.q,0,none⟩) s.n s.c, .map (some s.m), .map (some s.u)]
abbrev stL (f:Fl) (a:FA) (s:SA) (t:TS):List E.Item:=
 [box s.sb 346 (stCells f a s),spRow (some ⟨s.q,0,none⟩) s.c t.spots,pmap s.m 355 PT.cells t.ps,imap s.u (usedPairs t.used)]
structure StAt (w:World) (f:Fl) (a:FA) (s:SA) (t:TS):Prop where
 lt:s.sb<w.heap.size
 row:RowAt w s.sb 0 (stCells f a s)
 spots:SpotsAt w (some ⟨s.q,0,none⟩) s.n t.spots
 open_:IMap w s.m (ptrs t.ps)
 trips: ∀p∈t.ps,p.2.1<w.heap.size∧RowAt w p.2.1 0 p.2.2.cells
 used:IMap w s.u (usedPairs t.used)
 fl:FlAt w f a
theorem StAt.mem {w0 w:World} {L:List E.Item} {f:Fl} {a:FA} {s:SA} {t:TS} (h:StAt w0 f a s t) (hm:Mem w0 L w):StAt w f a s t:=
 ⟨Nat.lt_of_lt_of_le h.lt hm.1.size,h.row.below h.lt hm.1,h.spots.mem hm,h.open_.mem w hm,fun p hp=>⟨Nat.lt_of_lt_of_le (h.trips p hp).1 hm.1.size,(h.trips p hp).2.below (h.trips p hp).1 hm.1⟩,h.used.mem w hm,h.fl.mem hm⟩
theorem heap_row {w:World} {b:Nat} {cs:List Value} {t:TypeId} (h:w.heap[b]?=some (.cells cs.toArray t (0,0))):b<w.heap.size∧RowAt w b 0 cs:=
 ⟨(Array.getElem?_eq_some_iff.1 h).1,fun j u hu=>by simp [World.cell?,h,hu]⟩
theorem stAt_of {w0 w:World} {L:List E.Item} {f:Fl} {a:FA} {s:SA} {t:TS} (hf:FlAt w f a) (hl:t.spots.length=s.n) (hn:s.n≤1000) (hw:Mem w0 (stL f a s t++L) w):StAt w f a s t:=by
 have hsp:=slAt_row hw (j:=1) rfl (fun _=>rfl) (by omega)
 rw [hl] at hsp
 have h0:=heap_row (hw.item (k:=0) rfl)
 have h2:(pmap s.m 355 PT.cells t.ps).A w:=hw.item (k:=2) rfl
 exact ⟨h0.1,h0.2,hsp,h2.1,fun p hp=>heap_row (h2.2.1 p hp),hw.item (k:=3) rfl,hf⟩
theorem parked_w (x:Sp) (w:World):Calls Tryz.prog 272 #[.agg x.cells.toArray] w fun e w'=>e= .returned (.bool (parkedS x))∧Bel w w':=by
 refine H_enter Tryz.func272 rfl Tryz.ntmps272 rfl ?_
 iterate 2 refine G ?_
 refine X_box (v:= .agg _) rfl rfl fun b1=>?_
 iterate 17 refine G ?_
 exact ret1 (v:= .bool _) rfl rfl rfl fun w' hw=>⟨rfl,hw.1⟩
theorem refused_w (no:Bool) (er:Int) (w:World):Calls Tryz.prog 271 #[.bool no, .int .i64 er] w fun e w'=>e= .returned (.int .i64 (refuse no er))∧Bel w w':=by
 refine H_enter Tryz.func271 rfl Tryz.ntmps271 rfl ?_
 iterate 11 refine G ?_
 refine H_cond rfl ?_ ?_<;>intro h
 ·iterate 8 refine G ?_
  exact ret1 (v:= .int _ _) rfl rfl rfl fun w' hw=>⟨ret_int (by unfold refuse;rw [if_pos h]),hw.1⟩
 ·iterate 8 refine G ?_
  exact ret1 (v:= .int _ _) rfl rfl rfl fun w' hw=>⟨ret_int (by unfold refuse;rw [if_neg (by rw [h];decide)]),hw.1⟩
theorem countP_snoc (l:List Sp) (wh pl:Int) (k:Nat) (x:Sp) (h:l[k]?=some x):countP (l.take (k+1)) wh pl=countP (l.take k) wh pl+(if atP wh pl x=true then 1 else 0):=by
 unfold countP
 rw [take_snoc _ _ _ h,List.countP_append]
 simp [List.countP_cons]
theorem count_w {f:Fl} {a:FA} {s:SA} {t:TS} (wh pl:Int) (w:World) (h:StAt w f a s t):Calls Tryz.prog 273 #[.pointer (some ⟨s.sb,0,none⟩), .int .i64 wh, .int .i64 pl] w fun e w'=>e= .returned (.int .i64 (countP t.spots wh pl))∧Bel w w':=by
 have hlt:=h.lt
 have hrow:=h.row
 have hn:=h.spots.2.1
 have hl:=h.spots.1
 refine H_enter Tryz.func273 rfl Tryz.ntmps273 rfl ?_
 iterate 22 refine G ?_
 refine H_loop [7,9,15,16,17,18,19,20,21,22,23,24,25,26,27,28,29,30,31] (fun k:Nat=>[(15, .int .i64 k),(7, .int .i64 (countP (t.spots.take k) wh pl))]) (fun _=>[]) (fun k=>k≤s.n∧countP (t.spots.take k) wh pl≤k) (fun k=>s.n -k) 0 ⟨rfl,rfl,trivial⟩ (fun _ h=>h) rfl ⟨Nat.zero_le _,Nat.le_refl _⟩ ?_
 rintro k g ⟨hk,hc⟩
 iterate 6 refine G ?_
 refine H_cond rfl ?_ ?_<;>intro hlt2
 ·have hk2:k<s.n:=by simpa using hlt2
  obtain ⟨x,hxk,hrx⟩:=h.spots.row hk2
  have hbl:s.q<w.heap.size:=by
   obtain ⟨b,off,y,hA,hbl,_,_⟩:=h.spots.at_ hk2
   cases hA;exact hbl
  have hs:=countP_snoc t.spots wh pl k x hxk
  iterate 6 refine G ?_
  refine xV (e_idx _ Tryz.underlying181 Tryz.sizeOf252 (q0 rfl) (q0 rfl) (fun _=>⟨rfl,by omega⟩)) rfl rfl ?_
  refine G ?_
  refine X_alloc Tryz.zeroValue252 rfl fun b9=>?_
  refine X_st (v:= .agg _) rfl rfl Tryz.sizeOf252 ?_
  iterate 16 refine G ?_
  refine H_cond rfl ?_ ?_<;>intro hb
  ·have hs2:countP (t.spots.take (k+1)) wh pl=countP (t.spots.take k) wh pl+1:=by rw [hs,if_pos (by unfold atP;exact hb)]
   iterate 11 refine G ?_
   exact loopJ_normal (k+1) agr ⟨rfl,by show _=Value.int .i64 (countP (t.spots.take (k+1)) wh pl:Int);rw [hs2];rfl,trivial⟩ (fun w hw=>mem_nil.2 hw.1) rfl ⟨by omega,by omega⟩ (by show s.n -(k+1)<s.n -k;omega)
  ·have hs2:countP (t.spots.take (k+1)) wh pl=countP (t.spots.take k) wh pl:=by rw [hs,if_neg (by unfold atP;rw [hb];decide),Nat.add_zero]
   iterate 7 refine G ?_
   exact loopJ_normal (k+1) agr ⟨rfl,by show _=Value.int .i64 (countP (t.spots.take (k+1)) wh pl:Int);rw [hs2];rfl,trivial⟩ (fun w hw=>mem_nil.2 hw.1) rfl ⟨by omega,by omega⟩ (by show s.n -(k+1)<s.n -k;omega)
 ·have hkn:k=s.n:=by simp at hlt2;omega
  iterate 12 refine G ?_
  exact ret1 (v:= .int _ _) rfl rfl rfl fun w' hw=>⟨ret_int (by rw [hkn,←hl,List.take_length]),hw.1⟩
theorem pairs_mem {es:List MapEntry} {ps:List (Int×Value)} (h:PairsAre es ps):(∀e∈es,∃p∈ps,pairIs e p)∧(∀p∈ps,∃e∈es,pairIs e p):=by
 induction h with
 |nil=>exact ⟨fun _ h=>by simp at h,fun _ h=>by simp at h⟩
 |cons h1 _ ih=>
  refine ⟨fun e he=>?_,fun p hp=>?_⟩
  ·rcases List.mem_cons.1 he with rfl|he
   ·exact ⟨_,List.mem_cons_self ..,h1⟩
   ·obtain ⟨p,hp,hq⟩:=ih.1 e he
    exact ⟨p,List.mem_cons_of_mem _ hp,hq⟩
  ·rcases List.mem_cons.1 hp with rfl|hp
   ·exact ⟨_,List.mem_cons_self ..,h1⟩
   ·obtain ⟨e,he,hq⟩:=ih.2 p hp
    exact ⟨e,List.mem_cons_of_mem _ he,hq⟩
theorem left_less (es:List MapEntry) (seen:Array Nat) (e:MapEntry) (he:e∈es) (hs:seen.contains e.born=false):(es.filter fun x=>!(seen.push e.born).contains x.born).length<(es.filter fun x=>!seen.contains x.born).length:=by
 have hsub: ∀x:MapEntry,(!(seen.push e.born).contains x.born)=true→(!seen.contains x.born)=true:=fun x hx=>by
  simp at hx⊢;exact hx.1
 have key: ∀l:List MapEntry,e∈l→(l.filter fun x=>!(seen.push e.born).contains x.born).length<(l.filter fun x=>!seen.contains x.born).length:=by
  intro l
  induction l with
  |nil=>intro h;cases h
  |cons y l ih=>
   intro hm
   have hle: ∀l:List MapEntry,(l.filter fun x=>!(seen.push e.born).contains x.born).length≤(l.filter fun x=>!seen.contains x.born).length:=by
    intro l
    induction l with
    |nil=>simp
    |cons z l ih2=>
     simp only [List.filter_cons]
     split
     ·rename_i h;rw [if_pos (hsub z h)];simp only [List.length_cons];omega
     ·split
      ·simp only [List.length_cons];omega
      ·exact ih2
   rcases List.mem_cons.1 hm with rfl|hm
   ·simp only [List.filter_cons]
    rw [if_neg (by simp),if_pos (by simpa using hs)]
    have:=hle l
    simp only [List.length_cons];omega
   ·have:=ih hm
    simp only [List.filter_cons]
    split
    ·rename_i h;rw [if_pos (hsub y h)];simp only [List.length_cons];omega
    ·split
     ·simp only [List.length_cons];omega
     ·exact this
 exact key es he
theorem born_inj {es:List MapEntry} {clock:Nat} (h:BornOk es clock) {x y:MapEntry} (hx:x∈es) (hy:y∈es) (he:x.born=y.born):x=y:=by
 obtain ⟨i,hi,rfl⟩:=List.getElem_of_mem hx
 obtain ⟨j,hj,rfl⟩:=List.getElem_of_mem hy
 have:=List.pairwise_iff_getElem.1 h.asc
 rcases Nat.lt_trichotomy i j with h1|h1|h1
 ·have:=this i j hi hj h1;omega
 ·subst h1;rfl
 ·have:=this j i hj hi h1;omega
theorem riding_w {f:Fl} {a:FA} {s:SA} {t:TS} (rider:Int) (w:World) (h:StAt w f a s t):Calls Tryz.prog 274 #[.pointer (some ⟨s.sb,0,none⟩), .int .i64 rider] w fun e w'=>e= .returned (.bool (ridingP t.open_ rider))∧Bel w w':=by
 have hlt:=h.lt
 have hrow:=h.row
 obtain ⟨es,clock,hmap,hpairs,hB⟩:=h.open_
 have hmlt:s.m<w.heap.size:=(Array.getElem?_eq_some_iff.1 hmap).1
 have hmm: ∀(L:List E.Item) w',Mem w L w'→w'.heap[s.m]?=some (.map es clock):=fun L w' hw=>(hw.1.block s.m hmlt).trans hmap
 obtain ⟨hp1,hp2⟩:=pairs_mem hpairs
 refine H_enter Tryz.func274 rfl Tryz.ntmps274 rfl ?_
 iterate 12 refine G ?_
 refine X_eff (f_range Tryz.underlying344 (hmm _) rfl rfl fun r=>?_)
 iterate 3 refine G ?_
 refine H_loop [4,6,12,13,14,15,16,17,18,19,20,21] (fun _:Array Nat=>[]) (fun seen=>[mit r s.m clock seen clock]) (fun seen=> ∀e∈es.toList,seen.contains e.born=true→ ∀b tr,(e.val= .pointer (some ⟨b,0,none⟩))→(∃k,(k,b,tr)∈t.ps)→tr.rider≠rider) (fun seen=>(es.toList.filter fun x=>!seen.contains x.born).length) #[] trivial (fun _ h=>h) rfl (fun e _ hc=>by simp at hc) ?_
 rintro seen g hinv
 iterate 2 refine G ?_
 refine X_eff (f_next 0 (hmm _) hB rfl rfl (Nat.le_refl _) rfl (fun hall=>?_) (fun e he hs=>?_))
 ·iterate 4 refine G ?_
  refine H_cond rfl ?_ ?_<;>intro hb
  ·cases hb
  ·iterate 11 refine G ?_
   exact ret1 (v:= .bool _) rfl rfl rfl fun w' hw=>⟨ret_bool (by
    unfold ridingP TS.open_
    rw [eq_comm,List.any_eq_false]
    intro p hp
    obtain ⟨q,hq,rfl⟩:=List.mem_map.1 hp
    obtain ⟨e,he,hk,hv⟩:=hp2 (q.1, .pointer (some ⟨q.2.1,0,none⟩)) (List.mem_map.2 ⟨q,hq,rfl⟩)
    simpa using hinv e he (hall e he) q.2.1 q.2.2 hv ⟨q.1,hq⟩),hw.1⟩
 ·obtain ⟨pv,hpv,hk,hv⟩:=hp1 e he
  obtain ⟨q,hq,rfl⟩:=List.mem_map.1 hpv
  obtain ⟨ek,ev',eb⟩:=e
  simp only at hv
  subst hv
  obtain ⟨hql,hqr⟩:=h.trips q hq
  iterate 4 refine G ?_
  refine H_cond rfl ?_ ?_<;>intro hb
  ·iterate 5 refine G ?_
   refine xV (e_entry 0 (hmm _) hB he (q0 rfl) rfl) rfl rfl ?_
   iterate 14 refine G ?_
   refine H_cond rfl ?_ ?_<;>intro hrd
   ·iterate 10 refine G ?_
    exact ret1 (v:= .bool _) rfl rfl rfl fun w' hw=>⟨ret_bool (by
     unfold ridingP TS.open_
     rw [eq_comm,List.any_eq_true]
     exact ⟨(q.1,q.2.2),List.mem_map.2 ⟨q,hq,rfl⟩,hrd⟩),hw.1⟩
   ·iterate 2 refine G ?_
    exact loopJ_normal (seen.push eb) agr trivial (fun _ h=>h) rfl (fun e' he' hc b tr hb' ⟨k,hk'⟩=>by
     by_cases hs':seen.contains e'.born=true
     ·exact hinv e' he' hs' b tr hb' ⟨k,hk'⟩
     ·have hbe:e'.born=eb:=by simp at hc hs';exact hc.resolve_left hs'
      have:=born_inj hB he' he hbe
      subst this
      simp only [Value.pointer.injEq,Option.some.injEq,Addr.mk.injEq,and_true] at hb'
      subst hb'
      have h1:=(h.trips _ hk').2 0 (.int .i64 tr.rider) rfl
      have h2:=hqr 0 (.int .i64 q.2.2.rider) rfl
      rw [h1] at h2
      simp only [Option.some.injEq,Value.int.injEq,true_and] at h2
      rw [h2]
      simpa using hrd) (left_less es.toList seen ⟨ek,_,eb⟩ he hs)
  ·cases hb
def tripPtr (ps:List (Int×Nat×PT)) (key:Int):Option Addr:=(ps.find? fun p=>p.1==key).map fun p=>⟨p.2.1,0,none⟩
theorem ptrs_val (ps:List (Int×Nat×PT)) (key:Int):(mlook (ptrs ps) key).getD (.pointer none)= .pointer (tripPtr ps key):=by
 rw [ptrs_look];unfold tripPtr
 cases ps.find? (fun p=>p.1==key)<;>rfl
theorem used_val (l:List Int) (key:Int):(mlook (usedPairs l) key).getD (.bool false)= .bool (usedP l key):=by
 unfold mlook usedPairs usedP
 induction l with
 |nil=>rfl
 |cons x l ih=>
  by_cases hx:x=key
  ·simp [hx]
  ·simp only [List.map_cons,List.any_cons]
   rw [List.find?_cons_of_neg (by simpa using hx),ih]
   simp [hx]
theorem look_plain (ps:List (Int×Nat×PT)) (used:List Int) (sp:List Sp) (key:Int):lookP (TS.mk sp ps used).open_ key=(ps.find? fun p=>p.1==key).map fun p=>p.2.2:=by
 unfold lookP TS.open_
 induction ps with
 |nil=>rfl
 |cons p ps ih=>
  by_cases hx:p.1==key
  ·simp [hx]
  ·simp only [List.map_cons] at ih⊢
   rw [List.find?_cons_of_neg (by simpa using hx),List.find?_cons_of_neg (by simpa using hx)]
   exact ih
theorem ck1 {tr:List Int} {s:PS} {e:Ev} {x:Sp} (h:e.kind=1) (hx:s.spots.getD e.bike.toNat default=x):checkP tr s e=if (!parkedS x&&decide (0<(countP s.spots 1 e.place:Int)))=true then 22 else refuse (parkedS x) 23:=by
 subst hx;unfold checkP;simp only;rw [if_pos h]
theorem ck2 {tr:List Int} {s:PS} {e:Ev} {x:Sp} (h:e.kind=2) (hx:s.spots.getD e.bike.toNat default=x):checkP tr s e=refuse (parkedS x) 23:=by
 subst hx;unfold checkP;simp only;rw [if_neg (by omega),if_pos h]
theorem ck3 {tr:List Int} {s:PS} {e:Ev} {x:Sp} (h:e.kind=3) (hx:s.spots.getD e.bike.toNat default=x):checkP tr s e=if parkedS x=false then 23 else if usedP s.used e.ride=true then 6 else refuse (ridingP s.open_ e.rider) 22:=by
 subst hx;unfold checkP;simp only;rw [if_neg (by omega),if_neg (by omega),if_pos h]
theorem ck4 {tr:List Int} {s:PS} {e:Ev} {x:Sp} (h:e.kind=4) (hx:s.spots.getD e.bike.toNat default=x):checkP tr s e=match lookP s.open_ e.ride with|none=>7|some t=>if parkedS x=false then 23 else refuse t.paused 12:=by
 subst hx;unfold checkP;simp only;rw [if_neg (by omega),if_neg (by omega),if_neg (by omega),if_pos h]
 rfl
theorem ck5 {tr:List Int} {s:PS} {e:Ev} {x:Sp} (h:e.kind=5∨e.kind=6) (hx:s.spots.getD e.bike.toNat default=x):checkP tr s e=if x.where_≠3 then 23 else refuse (x.paused==decide (e.kind=5)) 12:=by
 subst hx;unfold checkP;simp only;rw [if_neg (by omega),if_neg (by omega),if_neg (by omega),if_neg (by omega),if_pos h]
theorem ck7 {tr:List Int} {s:PS} {e:Ev} {x:Sp} (h:e.kind=7) (hx:s.spots.getD e.bike.toNat default=x):checkP tr s e=if (decide (x.where_=3)||decide (x.where_=4))=true then 23 else refuse (decide (tr.getD e.place.toNat 0≤(countP s.spots 4 e.place:Int))) 24:=by
 subst hx;unfold checkP;simp only;rw [if_neg (by omega),if_neg (by omega),if_neg (by omega),if_neg (by omega),if_neg (by omega),if_pos h]
theorem ck8 {tr:List Int} {s:PS} {e:Ev} {x:Sp} (h:e.kind=8) (hx:s.spots.getD e.bike.toNat default=x):checkP tr s e=refuse (decide (x.where_=3)||decide (x.where_=5)) 23:=by
 subst hx;unfold checkP;simp only;rw [if_neg (by omega),if_neg (by omega),if_neg (by omega),if_neg (by omega),if_neg (by omega),if_neg (by omega),if_pos h]
theorem ck9 {tr:List Int} {s:PS} {e:Ev} {x:Sp} (h:e.kind=9) (hx:s.spots.getD e.bike.toNat default=x):checkP tr s e=refuse (decide (x.where_=5)||decide (x.where_=6)) 23:=by
 subst hx;unfold checkP;simp only;rw [if_neg (by omega),if_neg (by omega),if_neg (by omega),if_neg (by omega),if_neg (by omega),if_neg (by omega),if_neg (by omega),if_pos h]
theorem ck0 {tr:List Int} {s:PS} {e:Ev} (h:e.kind<1∨9<e.kind):checkP tr s e=0:=by
 unfold checkP;simp only;rw [if_neg (by omega),if_neg (by omega),if_neg (by omega),if_neg (by omega),if_neg (by omega),if_neg (by omega),if_neg (by omega),if_neg (by omega)]
attribute [local irreducible] parkedS countP refuse ridingP usedP tripPtr
theorem scheck_w {f:Fl} {a:FA} {s:SA} {t:TS} (e:Ev) (w:World) (h:StAt w f a s t) (hbike:0≤e.bike∧e.bike<s.n) (hpl:e.kind=7→0≤e.place∧e.place<f.trucks.length):
  Calls Tryz.prog 205 #[.pointer (some ⟨s.sb,0,none⟩), .agg e.cells.toArray] w fun r w'=>r= .returned (.int .i64 (checkP f.trucks t.plain e))∧Bel w w':=by
 have hlt:=h.lt
 have hrow:=h.row
 obtain ⟨k,hk⟩: ∃k:Nat,e.bike=k:=⟨e.bike.toNat,by omega⟩
 have hkn:k<s.n:=by omega
 obtain ⟨x,hxk,hrx⟩:=h.spots.row hkn
 have hq:s.q<w.heap.size:=by
  obtain ⟨b,off,y,hA,hbl,_,_⟩:=h.spots.at_ hkn
  cases hA;exact hbl
 have hx:t.plain.spots.getD e.bike.toNat default=x:=by
  rw [hk,Int.toNat_natCast,List.getD_eq_getElem?_getD]
  show (t.spots[k]?).getD default=x
  rw [hxk];rfl
 have hopen: ∀key,lookP t.plain.open_ key=(t.ps.find? fun p=>p.1==key).map fun p=>p.2.2:=fun key=>look_plain t.ps t.used t.spots key
 refine H_enter Tryz.func205 rfl Tryz.ntmps205 rfl ?_
 iterate 2 refine G ?_
 refine X_box (v:= .agg _) rfl rfl fun b3=>?_
 iterate 4 refine G ?_
 refine RA rfl (by decide+kernel) ?_
 refine aW 0 ?_
 refine aW 1 ?_
 refine aW 2 ?_
 refine aW 3 ?_
 refine aW 4 ?_
 refine aW 5 ?_
 refine aV 6 (by decide+kernel) rfl (e_idx k Tryz.underlying181 Tryz.sizeOf252 (q0 rfl) (q0 rfl) (fun _=>⟨hk,hkn⟩)) rfl ?_
 refine aW 7 ?_
 refine r1 8 0 ?_
 refine aL rfl (f_alloc Tryz.zeroValue252 rfl fun b5=>?_)
 refine r1 9 1 ?_
 refine aL rfl (f_st (v:= .agg _) rfl rfl Tryz.sizeOf252 ?_)
 refine aZ (by decide+kernel) (sub_drop 1) ?_
 iterate 2 refine G ?_
 refine R1 rfl (by decide+kernel) ?_
 iterate 6 refine G ?_
 refine xV (e_lookG Tryz.underlying344 Tryz.underlying3 Tryz.zeroValue351 (q0 rfl) (q0 rfl) (h.open_.mem) (fun _=>ptrs_val t.ps e.ride)) rfl rfl ?_
 iterate 40 refine G ?_
 refine H_cond rfl ?_ ?_<;>intro h1
 ·have hk1:e.kind=1:=by simpa using h1
  iterate 8 refine G ?_
  refine xC (en Tryz.call272 (ha1 (q0 rfl))) (fun _ w _=>parked_w x w) rfl rfl ?_
  iterate 5 refine G ?_
  refine xCT (en Tryz.call273 (ha3 (q1 (v:= .pointer _) rfl) (q0 rfl) (q1 (v:= .int _ _) rfl))) (fun _ w hm=>count_w 1 e.place w (h.mem hm)) rfl rfl rfl rfl ?_
  iterate 4 refine G ?_
  refine H_cond rfl ?_ ?_<;>intro hb
  ·iterate 22 refine G ?_
   exact ret1 (v:= .int _ _) rfl rfl rfl fun w' hw=>⟨ret_int (by rw [ck1 hk1 hx];exact (if_pos hb).symm),hw.1⟩
  ·iterate 8 refine G ?_
   refine xC (en Tryz.call272 (ha1 (q0 rfl))) (fun _ w _=>parked_w x w) rfl rfl ?_
   refine xC (enV Tryz.call271 (q0 rfl) (fun _=>rfl)) (fun _ w _=>refused_w (parkedS x) 23 w) rfl rfl ?_
   iterate 19 refine G ?_
   exact ret1 (v:= .int _ _) rfl rfl rfl fun w' hw=>⟨ret_int (by rw [ck1 hk1 hx];exact (if_neg (show ¬(!parkedS x&&decide (0<(countP t.spots 1 e.place:Int)))=true by rw [hb];decide)).symm),hw.1⟩
 ·iterate 9 refine G ?_
  refine H_cond rfl ?_ ?_<;>intro h2
  ·have hk2:e.kind=2:=by simpa using h2
   iterate 12 refine G ?_
   refine xC (en Tryz.call272 (ha1 (q0 rfl))) (fun _ w _=>parked_w x w) rfl rfl ?_
   refine xC (enV Tryz.call271 (q0 rfl) (fun _=>rfl)) (fun _ w _=>refused_w (parkedS x) 23 w) rfl rfl ?_
   iterate 19 refine G ?_
   exact ret1 (v:= .int _ _) rfl rfl rfl fun w' hw=>⟨ret_int (ck2 hk2 hx).symm,hw.1⟩
  ·iterate 9 refine G ?_
   refine H_cond rfl ?_ ?_<;>intro h3
   ·have hk3:e.kind=3:=by simpa using h3
    iterate 15 refine G ?_
    refine xC (en Tryz.call272 (ha1 (q0 rfl))) (fun _ w _=>parked_w x w) rfl rfl ?_
    iterate 4 refine G ?_
    refine H_cond rfl ?_ ?_<;>intro hb
    ·iterate 21 refine G ?_
     exact ret1 (v:= .int _ _) rfl rfl rfl fun w' hw=>⟨ret_int (by rw [ck3 hk3 hx];exact (if_pos (by simpa using hb)).symm),hw.1⟩
    ·refine G ?_
     refine R1 rfl (by decide+kernel) ?_
     iterate 6 refine G ?_
     refine xV (e_lookG Tryz.underlying224 Tryz.underlying3 Tryz.zeroValue4 (q0 rfl) (q0 rfl) (h.used.mem) (fun _=>used_val t.used e.ride)) rfl rfl ?_
     iterate 3 refine G ?_
     refine H_cond rfl ?_ ?_<;>intro hu
     ·iterate 21 refine G ?_
      exact ret1 (v:= .int _ _) rfl rfl rfl fun w' hw=>⟨ret_int (by rw [ck3 hk3 hx,if_neg (by simpa using hb)];exact (if_pos hu).symm),hw.1⟩
     ·iterate 9 refine G ?_
      refine xC (en Tryz.call274 (ha2 (q0 rfl) (q0 rfl))) (fun _ w hm=>riding_w e.rider w (h.mem hm)) rfl rfl ?_
      refine xC (enV Tryz.call271 (q0 rfl) (fun _=>rfl)) (fun _ w _=>refused_w (ridingP t.open_ e.rider) 22 w) rfl rfl ?_
      iterate 17 refine G ?_
      exact ret1 (v:= .int _ _) rfl rfl rfl fun w' hw=>⟨ret_int (by rw [ck3 hk3 hx,if_neg (by simpa using hb)];exact (if_neg (show ¬usedP t.used e.ride=true by rw [hu];decide)).symm),hw.1⟩
   ·iterate 9 refine G ?_
    refine H_cond rfl ?_ ?_<;>intro h4
    ·have hk4:e.kind=4:=by simpa using h4
     have hck:=ck4 (tr:=f.trucks) hk4 hx
     rw [hopen] at hck
     iterate 17 refine G ?_
     refine xV (e_eqNilP Tryz.underlying351 (q0 rfl)) rfl rfl ?_
     iterate 3 refine G ?_
     refine H_cond rfl ?_ ?_<;>intro hn
     ·have hnone:t.ps.find? (fun p=>p.1==e.ride)=none:=by
       unfold tripPtr at hn
       cases hf:t.ps.find? (fun p=>p.1==e.ride) with
       |none=>rfl
       |some p=>rw [hf] at hn;cases hn
      rw [hnone] at hck
      iterate 19 refine G ?_
      exact ret1 (v:= .int _ _) rfl rfl rfl fun w' hw=>⟨ret_int hck.symm,hw.1⟩
     ·obtain ⟨p,hf⟩: ∃p,t.ps.find? (fun p=>p.1==e.ride)=some p:=by
       unfold tripPtr at hn
       cases hf:t.ps.find? (fun p=>p.1==e.ride) with
       |none=>rw [hf] at hn;cases hn
       |some p=>exact ⟨p,rfl⟩
      have hptr:tripPtr t.ps e.ride=some ⟨p.2.1,0,none⟩:=by unfold tripPtr;rw [hf];rfl
      rw [hf] at hck
      rw [hptr]
      obtain ⟨hql,hqr⟩:=h.trips p (List.mem_of_find?_eq_some hf)
      iterate 3 refine G ?_
      refine xC (en Tryz.call272 (ha1 (q0 rfl))) (fun _ w _=>parked_w x w) rfl rfl ?_
      iterate 4 refine G ?_
      refine H_cond rfl ?_ ?_<;>intro hb
      ·iterate 19 refine G ?_
       exact ret1 (v:= .int _ _) rfl rfl rfl fun w' hw=>⟨ret_int (by rw [hck];exact (if_pos (by simpa using hb)).symm),hw.1⟩
      ·iterate 10 refine G ?_
       refine xC (enV Tryz.call271 (q0 rfl) (fun _=>rfl)) (fun _ w _=>refused_w (p.2.2.paused) 12 w) rfl rfl ?_
       iterate 15 refine G ?_
       exact ret1 (v:= .int _ _) rfl rfl rfl fun w' hw=>⟨ret_int (by rw [hck];exact (if_neg (by simpa using hb)).symm),hw.1⟩
    ·iterate 10 refine G ?_
     refine H_cond rfl ?_ ?_<;>intro h5
     ·have hk56:e.kind=5∨e.kind=6:= .inl (by simpa using h5)
      iterate 2 refine G ?_
      refine H_cond rfl ?_ ?_<;>intro h5b
      ·iterate 22 refine G ?_
       refine H_cond rfl ?_ ?_<;>intro hb
       ·iterate 16 refine G ?_
        exact ret1 (v:= .int _ _) rfl rfl rfl fun w' hw=>⟨ret_int (by rw [ck5 hk56 hx];exact (if_pos (by simpa using hb)).symm),hw.1⟩
       ·iterate 10 refine G ?_
        refine xV (e_eqb Tryz.underlying4 (q0 rfl) (q0 rfl)) rfl rfl ?_
        refine xC (enV Tryz.call271 (q0 rfl) (fun _=>rfl)) (fun _ w _=>refused_w (x.paused==decide (e.kind=5)) 12 w) rfl rfl ?_
        iterate 13 refine G ?_
        exact ret1 (v:= .int _ _) rfl rfl rfl fun w' hw=>⟨ret_int (by rw [ck5 hk56 hx];exact (if_neg (by simpa using hb)).symm),hw.1⟩
      ·rw [h5] at h5b;cases h5b
     ·iterate 5 refine G ?_
      refine H_cond rfl ?_ ?_<;>intro h6
      ·have hk56:e.kind=5∨e.kind=6:= .inr (by simpa using h6)
       iterate 22 refine G ?_
       refine H_cond rfl ?_ ?_<;>intro hb
       ·iterate 16 refine G ?_
        exact ret1 (v:= .int _ _) rfl rfl rfl fun w' hw=>⟨ret_int (by rw [ck5 hk56 hx];exact (if_pos (by simpa using hb)).symm),hw.1⟩
       ·iterate 10 refine G ?_
        refine xV (e_eqb Tryz.underlying4 (q0 rfl) (q0 rfl)) rfl rfl ?_
        refine xC (enV Tryz.call271 (q0 rfl) (fun _=>rfl)) (fun _ w _=>refused_w (x.paused==decide (e.kind=5)) 12 w) rfl rfl ?_
        iterate 13 refine G ?_
        exact ret1 (v:= .int _ _) rfl rfl rfl fun w' hw=>⟨ret_int (by rw [ck5 hk56 hx];exact (if_neg (by simpa using hb)).symm),hw.1⟩
      ·iterate 9 refine G ?_
       refine H_cond rfl ?_ ?_<;>intro h7
       ·have hk7:e.kind=7:=by simpa using h7
        obtain ⟨hp0,hpn⟩:=hpl hk7
        obtain ⟨pk,hpk⟩: ∃k:Nat,e.place=k:=⟨e.place.toNat,by omega⟩
        have htl:=h.fl.trucks.1
        have hpt:pk<a.tn:=by omega
        obtain ⟨tb,toff,tx,htA,htb,htx,htr⟩:=h.fl.trucks.at_ hpt
        have hgd:f.trucks.getD e.place.toNat 0=tx:=by
         rw [hpk,Int.toNat_natCast,List.getD_eq_getElem?_getD,htx];rfl
        iterate 29 refine G ?_
        refine H_cond rfl ?_ ?_<;>intro hb
        ·iterate 14 refine G ?_
         exact ret1 (v:= .int _ _) rfl rfl rfl fun w' hw=>⟨ret_int (by rw [ck7 hk7 hx];exact (if_pos hb).symm),hw.1⟩
        ·have _ht:True:=trivial
         iterate 3 refine G ?_
         refine R1 rfl (by decide+kernel) ?_
         iterate 4 refine G ?_
         refine xC (en Tryz.call273 (ha3 (q0 rfl) (q0 rfl) (q0 rfl))) (fun _ w hm=>count_w 4 e.place w (h.mem hm)) rfl rfl ?_
         iterate 4 refine G ?_
         refine xV (e_ld (v:= .slice (some ⟨tb,toff,none⟩) a.tn a.tc) Tryz.isAgg22 (q0 rfl) (rc (j:=4) hrow hlt (by show some (Value.slice a.tA a.tn a.tc)=_;rw [htA]))) rfl rfl ?_
         iterate 2 refine G ?_
         refine xV (e_idx pk Tryz.underlying22 Tryz.sizeOf3 (q0 rfl) (q0 rfl) (fun _=>⟨hpk,hpt⟩)) rfl rfl ?_
         iterate 2 refine G ?_
         refine xC (enV Tryz.call271 (q0 rfl) (fun _=>rfl)) (fun _ w _=>refused_w (decide (tx≤(countP t.spots 4 e.place:Int))) 24 w) rfl rfl ?_
         iterate 11 refine G ?_
         exact ret1 (v:= .int _ _) rfl rfl rfl fun w' hw=>⟨ret_int (by rw [ck7 hk7 hx,hgd];exact (if_neg (by rw [hb];decide)).symm),hw.1⟩
       ·iterate 9 refine G ?_
        refine H_cond rfl ?_ ?_<;>intro h8
        ·have hk8:e.kind=8:=by simpa using h8
         iterate 29 refine G ?_
         refine xC (enV Tryz.call271 (q0 rfl) (fun _=>rfl)) (fun _ w _=>refused_w (decide (x.where_=3)||decide (x.where_=5)) 23 w) rfl rfl ?_
         iterate 9 refine G ?_
         exact ret1 (v:= .int _ _) rfl rfl rfl fun w' hw=>⟨ret_int (ck8 hk8 hx).symm,hw.1⟩
        ·iterate 8 refine G ?_
         refine H_cond rfl ?_ ?_<;>intro h9
         ·have hk9:e.kind=9:=by simpa using h9
          iterate 30 refine G ?_
          refine xC (enV Tryz.call271 (q0 rfl) (fun _=>rfl)) (fun _ w _=>refused_w (decide (x.where_=5)||decide (x.where_=6)) 23 w) rfl rfl ?_
          iterate 7 refine G ?_
          exact ret1 (v:= .int _ _) rfl rfl rfl fun w' hw=>⟨ret_int (ck9 hk9 hx).symm,hw.1⟩
         ·iterate 27 refine G ?_
          exact ret1 (v:= .int _ _) rfl rfl rfl fun w' hw=>⟨ret_int (ck0 (by simp at h1 h2 h3 h4 h5 h6 h7 h8 h9;omega)).symm,hw.1⟩
end Go.Proofs.Cus
namespace Go.Proofs.Cus
open Go Go.RowKit Go.Proofs.E
def shopS:Sp:=⟨5,0,0,false⟩
def zeroS:Sp:=⟨0,0,0,false⟩
def beginT (n:Nat):TS:=⟨List.replicate n shopS,[],[]⟩
theorem rep_set (k n:Nat) (h:k<n):(List.replicate k shopS++List.replicate (n -k) zeroS).set k shopS=List.replicate (k+1) shopS++List.replicate (n -(k+1)) zeroS:=by
 rw [List.set_append_right _ _ (by simp),show n -k=(n -(k+1))+1 by omega,List.replicate_succ,List.length_replicate,Nat.sub_self,List.set_cons_zero,List.replicate_succ',List.append_assoc]
 rfl
theorem rep_get (k n:Nat) (h:k<n):(List.replicate k shopS++List.replicate (n -k) zeroS)[k]?=some zeroS:=by
 rw [List.getElem?_append_right (by simp),List.length_replicate,Nat.sub_self,List.getElem?_replicate,if_pos (by omega)]
theorem begin_w (f:Fl) (a:FA) (n:Nat) (hn:f.bikes=n) (hn1:n≤1000) (w:World):Calls Tryz.prog 203 #[.agg (f.cells a).toArray] w fun e w'=> ∃x:{x:SA//x.n=n},e= .returned (.pointer (some ⟨x.1.sb,0,none⟩))∧Mem w (stL f a x.1 (beginT n)) w':=by
 refine H_enter Tryz.func203 rfl Tryz.ntmps203 rfl ?_
 iterate 2 refine G ?_
 refine X_box (v:= .agg _) rfl rfl fun b1=>?_
 iterate 4 refine G ?_
 refine H_cut [3,5,6,7,8,9,10,11,12] (fun x:SA=>[(3, .pointer (some ⟨x.sb,0,none⟩))]) (fun x=>[box x.sb 346 (stCells f a x),spRow (some ⟨x.q,0,none⟩) x.c (List.replicate n zeroS),pmap x.m 355 PT.cells [],imap x.u [],box b1 24 (f.cells a)]) (fun x=>x.n=n) ?_ ?_
 ·refine RA rfl (by decide+kernel) ?_
  refine aW 0 ?_
  refine aW 1 ?_
  refine aW 2 ?_
  refine rdy3 (i:=3) (j:=4) (k:=5) (by decide+kernel) (sub_drop 0) ?_ ?_ ?_
  ·refine aL rfl (f_make (i:=Tryz.t252) (k:=4) (n:=n) (m:=n) Sp.cells zeroS Tryz.underlying181 (by kernel_rfl) rfl rfl rfl (by show Value.int .i64 f.bikes=_;rw [hn]) (by show Value.int .i64 f.bikes=_;rw [hn]) ⟨⟨Nat.le_refl _,by omega⟩,by decide⟩ rfl fun b8=>?_)
   refine rdy2 (i:=4) (j:=5) (by decide+kernel) (sub_drop 1) ?_ ?_
   ·refine aL rfl (f_makePmap 355 PT.cells rfl fun b9=>?_)
    refine aI 1 ?_
    refine r1 5 2 ?_
    refine aL rfl (f_makeMap rfl fun b10=>?_)
    refine aI 2 ?_
    refine aV 6 (by decide+kernel) rfl (e_build Tryz.underlying346 fl346 Tryz.zeroValue346 (pt (v:= .agg _) rfl (pt (v:= .slice _ _ _) rfl (pt (v:= .map _) rfl (pt (v:= .map _) rfl E.p0)))) rfl) rfl ?_
    refine r1 7 3 ?_
    refine aL rfl (f_box (v:= .agg _) rfl rfl fun b12=>?_)
    refine aI 3 ?_
    refine aRL (sub_drop 4) ?_
    refine aW 8 ?_
    refine aZ (by decide+kernel) (sub_drop 0) ?_
    exact cutJ_normal (⟨b12,b8,n,n,b9,b10⟩:SA) agr ⟨rfl,trivial⟩ (fun w hw=>hw.pick [3,0,1,2,4] (by decide)) rfl rfl
   ·refine aL rfl (f_makeMap rfl fun b10=>?_)
    refine aI 1 ?_
    refine r1 4 2 ?_
    refine aL rfl (f_makePmap 355 PT.cells rfl fun b9=>?_)
    refine aI 1 ?_
    refine aV 6 (by decide+kernel) rfl (e_build Tryz.underlying346 fl346 Tryz.zeroValue346 (pt (v:= .agg _) rfl (pt (v:= .slice _ _ _) rfl (pt (v:= .map _) rfl (pt (v:= .map _) rfl E.p0)))) rfl) rfl ?_
    refine r1 7 3 ?_
    refine aL rfl (f_box (v:= .agg _) rfl rfl fun b12=>?_)
    refine aI 3 ?_
    refine aRL (sub_drop 4) ?_
    refine aW 8 ?_
    refine aZ (by decide+kernel) (sub_drop 0) ?_
    exact cutJ_normal (⟨b12,b8,n,n,b9,b10⟩:SA) agr ⟨rfl,trivial⟩ (fun w hw=>hw.pick [3,0,1,2,4] (by decide)) rfl rfl
  ·refine aL rfl (f_makePmap 355 PT.cells rfl fun b9=>?_)
   refine rdy2 (i:=3) (j:=5) (by decide+kernel) (sub_drop 1) ?_ ?_
   ·refine aL rfl (f_make (i:=Tryz.t252) (k:=4) (n:=n) (m:=n) Sp.cells zeroS Tryz.underlying181 (by kernel_rfl) rfl rfl rfl (by show Value.int .i64 f.bikes=_;rw [hn]) (by show Value.int .i64 f.bikes=_;rw [hn]) ⟨⟨Nat.le_refl _,by omega⟩,by decide⟩ rfl fun b8=>?_)
    refine r1 5 2 ?_
    refine aL rfl (f_makeMap rfl fun b10=>?_)
    refine aI 2 ?_
    refine aV 6 (by decide+kernel) rfl (e_build Tryz.underlying346 fl346 Tryz.zeroValue346 (pt (v:= .agg _) rfl (pt (v:= .slice _ _ _) rfl (pt (v:= .map _) rfl (pt (v:= .map _) rfl E.p0)))) rfl) rfl ?_
    refine r1 7 3 ?_
    refine aL rfl (f_box (v:= .agg _) rfl rfl fun b12=>?_)
    refine aI 3 ?_
    refine aRL (sub_drop 4) ?_
    refine aW 8 ?_
    refine aZ (by decide+kernel) (sub_drop 0) ?_
    exact cutJ_normal (⟨b12,b8,n,n,b9,b10⟩:SA) agr ⟨rfl,trivial⟩ (fun w hw=>hw.pick [3,0,1,2,4] (by decide)) rfl rfl
   ·refine aL rfl (f_makeMap rfl fun b10=>?_)
    refine aI 1 ?_
    refine r1 3 2 ?_
    refine aL rfl (f_make (i:=Tryz.t252) (k:=4) (n:=n) (m:=n) Sp.cells zeroS Tryz.underlying181 (by kernel_rfl) rfl rfl rfl (by show Value.int .i64 f.bikes=_;rw [hn]) (by show Value.int .i64 f.bikes=_;rw [hn]) ⟨⟨Nat.le_refl _,by omega⟩,by decide⟩ rfl fun b8=>?_)
    refine aV 6 (by decide+kernel) rfl (e_build Tryz.underlying346 fl346 Tryz.zeroValue346 (pt (v:= .agg _) rfl (pt (v:= .slice _ _ _) rfl (pt (v:= .map _) rfl (pt (v:= .map _) rfl E.p0)))) rfl) rfl ?_
    refine r1 7 3 ?_
    refine aL rfl (f_box (v:= .agg _) rfl rfl fun b12=>?_)
    refine aI 3 ?_
    refine aRL (sub_drop 4) ?_
    refine aW 8 ?_
    refine aZ (by decide+kernel) (sub_drop 0) ?_
    exact cutJ_normal (⟨b12,b8,n,n,b9,b10⟩:SA) agr ⟨rfl,trivial⟩ (fun w hw=>hw.pick [3,0,1,2,4] (by decide)) rfl rfl
  ·refine aL rfl (f_makeMap rfl fun b10=>?_)
   refine rdy2 (i:=3) (j:=4) (by decide+kernel) (sub_drop 1) ?_ ?_
   ·refine aL rfl (f_make (i:=Tryz.t252) (k:=4) (n:=n) (m:=n) Sp.cells zeroS Tryz.underlying181 (by kernel_rfl) rfl rfl rfl (by show Value.int .i64 f.bikes=_;rw [hn]) (by show Value.int .i64 f.bikes=_;rw [hn]) ⟨⟨Nat.le_refl _,by omega⟩,by decide⟩ rfl fun b8=>?_)
    refine r1 4 2 ?_
    refine aL rfl (f_makePmap 355 PT.cells rfl fun b9=>?_)
    refine aI 1 ?_
    refine aV 6 (by decide+kernel) rfl (e_build Tryz.underlying346 fl346 Tryz.zeroValue346 (pt (v:= .agg _) rfl (pt (v:= .slice _ _ _) rfl (pt (v:= .map _) rfl (pt (v:= .map _) rfl E.p0)))) rfl) rfl ?_
    refine r1 7 3 ?_
    refine aL rfl (f_box (v:= .agg _) rfl rfl fun b12=>?_)
    refine aI 3 ?_
    refine aRL (sub_drop 4) ?_
    refine aW 8 ?_
    refine aZ (by decide+kernel) (sub_drop 0) ?_
    exact cutJ_normal (⟨b12,b8,n,n,b9,b10⟩:SA) agr ⟨rfl,trivial⟩ (fun w hw=>hw.pick [3,0,1,2,4] (by decide)) rfl rfl
   ·refine aL rfl (f_makePmap 355 PT.cells rfl fun b9=>?_)
    refine r1 3 2 ?_
    refine aL rfl (f_make (i:=Tryz.t252) (k:=4) (n:=n) (m:=n) Sp.cells zeroS Tryz.underlying181 (by kernel_rfl) rfl rfl rfl (by show Value.int .i64 f.bikes=_;rw [hn]) (by show Value.int .i64 f.bikes=_;rw [hn]) ⟨⟨Nat.le_refl _,by omega⟩,by decide⟩ rfl fun b8=>?_)
    refine aV 6 (by decide+kernel) rfl (e_build Tryz.underlying346 fl346 Tryz.zeroValue346 (pt (v:= .agg _) rfl (pt (v:= .slice _ _ _) rfl (pt (v:= .map _) rfl (pt (v:= .map _) rfl E.p0)))) rfl) rfl ?_
    refine r1 7 3 ?_
    refine aL rfl (f_box (v:= .agg _) rfl rfl fun b12=>?_)
    refine aI 3 ?_
    refine aRL (sub_drop 4) ?_
    refine aW 8 ?_
    refine aZ (by decide+kernel) (sub_drop 0) ?_
    exact cutJ_normal (⟨b12,b8,n,n,b9,b10⟩:SA) agr ⟨rfl,trivial⟩ (fun w hw=>hw.pick [3,0,1,2,4] (by decide)) rfl rfl
 ·intro x g hxn
  iterate 13 refine G ?_
  refine H_loop [4,18,19,20,21,22,23,24,25,26,27,28] (fun k:Nat=>[(18, .int .i64 k)]) (fun k=>[box x.sb 346 (stCells f a x),spRow (some ⟨x.q,0,none⟩) x.c (List.replicate k shopS++List.replicate (n -k) zeroS),pmap x.m 355 PT.cells [],imap x.u [],box b1 24 (f.cells a)]) (fun k=>k≤n) (fun k=>n -k) 0 ⟨rfl,trivial⟩ (fun _ h=>by simpa using h) rfl (Nat.zero_le _) ?_
  rintro k g2 hk
  iterate 6 refine G ?_
  refine H_cond rfl ?_ ?_<;>intro hlt
  ·have hlt':k<n:=by simp at hlt;omega
   have hget:=rep_get k n hlt'
   iterate 16 refine G ?_
   refine xV (e_idx _ Tryz.underlying181 Tryz.sizeOf252 (q0 rfl) (q0 rfl) (fun _=>⟨rfl,by omega⟩)) rfl rfl ?_
   refine G ?_
   refine X_eff (f_storeR 1 (off:=0) shopS rfl rfl Tryz.sizeOf3 rfl rfl rfl hget rfl rfl ?_)
   iterate 7 refine G ?_
   exact loopJ_normal (k+1) agr ⟨rfl,trivial⟩ (fun w hw=>by show Mem _ [_,spRow _ _ (List.replicate (k+1) shopS++List.replicate (n -(k+1)) zeroS),_,_,_] w;rw [←rep_set k n hlt'];exact hw) rfl (by show k+1≤n;omega) (by show n -(k+1)<n -k;omega)
  ·have hkn:k=n:=by simp at hlt;omega
   subst hkn
   iterate 12 refine G ?_
   exact ret1 (v:= .pointer _) rfl rfl rfl fun w' hw=>⟨⟨x,hxn⟩,rfl,by have:=hw.pick [0,1,2,3] (by decide);simp only [Nat.sub_self,List.replicate_zero,List.append_nil] at this;exact this⟩
def leaveT (t:TS) (k:Nat) (to:Sp):TS:=
 {t with ps:=if (t.spots.getD k default).where_=3 then t.ps.eraseP (fun p=>p.1==(t.spots.getD k default).ride) else t.ps,spots:=t.spots.set k to}
theorem leave_w {f:Fl} {a:FA} {s:SA} {t:TS} {w0 w:World} {L:List E.Item} (hw:Mem w0 (stL f a s t++L) w) (hmk:marks L=[]) (hl:t.spots.length=s.n) (k:Nat) (hk:k<s.n) (to:Sp):
  Calls Tryz.prog 275 #[.pointer (some ⟨s.sb,0,none⟩), .int .i64 k, .agg to.cells.toArray] w fun e w'=> ∃_:Unit,e= .returned (.tuple #[])∧Mem w0 (stL f a s (leaveT t k to)++L) w':=by
 obtain ⟨x,hx⟩: ∃x,t.spots[k]?=some x:=⟨_,List.getElem?_eq_getElem (by omega)⟩
 have hg:t.spots.getD k default=x:=by rw [List.getD_eq_getElem?_getD,hx];rfl
 have hlv:leaveT t k to=⟨t.spots.set k to,if x.where_=3 then t.ps.eraseP (fun p=>p.1==x.ride) else t.ps,t.used⟩:=by unfold leaveT;rw [hg]
 rw [hlv]
 refine H_enterM hw hmk Tryz.func275 rfl Tryz.ntmps275 rfl ?_
 iterate 2 refine G ?_
 refine X_box (v:= .agg _) rfl rfl fun b5=>?_
 iterate 10 refine G ?_
 refine xV (e_idx _ Tryz.underlying181 Tryz.sizeOf252 (q0 rfl) (q0 rfl) (fun _=>⟨rfl,by omega⟩)) rfl rfl ?_
 refine G ?_
 refine X_alloc Tryz.zeroValue252 rfl fun b6=>?_
 refine X_st (v:= .agg _) rfl rfl Tryz.sizeOf252 ?_
 iterate 9 refine G ?_
 refine H_cond rfl ?_ ?_<;>intro h3
 ·have hx3:x.where_=3:=by simpa using h3
  rw [if_pos hx3]
  refine H_mem (fun w hw=>hw.fr4) rfl ?_
  refine RAd 1 rfl (by decide+kernel) ?_
  refine aW 0 ?_
  refine aW 1 ?_
  refine aW 2 ?_
  refine aW 3 ?_
  refine aW 4 ?_
  refine aW 5 ?_
  refine r1 6 1 ?_
  refine aL rfl (f_pmapDel 0 Tryz.underlying344 Tryz.underlying3 rfl rfl rfl ?_)
  refine aZ (by decide+kernel) (sub_drop 1) ?_
  refine G ?_
  refine H_mem (fun w hw=>hw.mv4) rfl ?_
  refine E.RT rfl rfl (by decide+kernel) ?_
  iterate 6 refine G ?_
  refine xV (e_idx _ Tryz.underlying181 Tryz.sizeOf252 (q0 rfl) (q0 rfl) (fun _=>⟨rfl,by omega⟩)) rfl rfl ?_
  iterate 2 refine G ?_
  refine X_eff (f_storeR0 3 to rfl rfl Tryz.sizeOf252 rfl rfl rfl hx rfl rfl ?_)
  refine G ?_
  exact end0 rfl hmk fun w' hw=>⟨(),rfl,hw.tail.tail⟩
 ·have hx3: ¬x.where_=3:=by simpa using h3
  rw [if_neg hx3]
  iterate 2 refine G ?_
  refine E.RT rfl rfl (by decide+kernel) ?_
  iterate 6 refine G ?_
  refine xV (e_idx _ Tryz.underlying181 Tryz.sizeOf252 (q0 rfl) (q0 rfl) (fun _=>⟨rfl,by omega⟩)) rfl rfl ?_
  iterate 2 refine G ?_
  refine X_eff (f_storeR0 3 to rfl rfl Tryz.sizeOf252 rfl rfl rfl hx rfl rfl ?_)
  refine G ?_
  exact end0 rfl hmk fun w' hw=>⟨(),rfl,hw.tail.tail⟩
attribute [local irreducible] tripPtr
theorem pause_w {f:Fl} {a:FA} {s:SA} {t:TS} {w0 w:World} {L:List E.Item} (hw:Mem w0 (stL f a s t++L) w) (hmk:marks L=[]) (hl:t.spots.length=s.n) (k:Nat) (hk:k<s.n) (pa:Bool) {x:Sp} (hx:t.spots[k]?=some x) {q:Nat} {p:Int×Nat×PT} (hq:t.ps[q]?=some p) (hf:t.ps.find? (fun y=>y.1==x.ride)=some p):
  Calls Tryz.prog 276 #[.pointer (some ⟨s.sb,0,none⟩), .int .i64 k, .bool pa] w fun e w'=> ∃_:Unit,e= .returned (.tuple #[])∧Mem w0 (stL f a s ⟨t.spots.set k {x with paused:=pa},t.ps.set q (p.1,p.2.1,{p.2.2 with paused:=pa}),t.used⟩++L) w':=by
 have hptr:(mlook (ptrs t.ps) x.ride).getD (.pointer none)= .pointer (some ⟨p.2.1,0,none⟩):=by rw [ptrs_val];unfold tripPtr;rw [hf];rfl
 refine H_enterM hw hmk Tryz.func276 rfl Tryz.ntmps276 rfl ?_
 refine G ?_
 refine E.RT rfl rfl (by decide+kernel) ?_
 iterate 9 refine G ?_
 refine xV (e_idx _ Tryz.underlying181 Tryz.sizeOf252 (q0 rfl) (q0 rfl) (fun _=>⟨rfl,by omega⟩)) rfl rfl ?_
 iterate 2 refine G ?_
 refine xV (e_lookG Tryz.underlying344 Tryz.underlying3 Tryz.zeroValue351 (q0 rfl) (q0 rfl) (pmap_map 2 rfl) (fun _=>hptr)) rfl rfl ?_
 iterate 5 refine G ?_
 refine X_eff (f_pmapStore 2 (off:=2) {p.2.2 with paused:=pa} rfl rfl Tryz.sizeOf4 rfl rfl rfl hq (Nat.le_refl 3) rfl ?_)
 iterate 9 refine G ?_
 refine xV (e_idx _ Tryz.underlying181 Tryz.sizeOf252 (q0 rfl) (q0 rfl) (fun _=>⟨rfl,by omega⟩)) rfl rfl ?_
 refine G ?_
 refine X_eff (f_storeR 1 (off:=3) {x with paused:=pa} rfl rfl Tryz.sizeOf4 rfl rfl rfl hx rfl rfl ?_)
 refine G ?_
 exact end0 rfl hmk fun w' hw=>⟨(),rfl,hw⟩
end Go.Proofs.Cus
