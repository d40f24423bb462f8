import Derived.Test.YtakhechhnnjbcaaGreatBN09
import Derived.Test.YtakhechhnnjbcaaGreatBN03
import Derived.Test.YtakhechhnnjbcaaGreatBN04
import Derived.Test.YtakhechhnnjbcaaGreatTy
set_option maxRecDepth 100000
set_option maxHeartbeats 8000000
set_option linter.unusedVariables false
set_option linter.unusedSimpArgs false
namespace Go.Proofs.Cus
open Go Go.RowKit Go.Proofs.E
theorem fl349 {fs:Array Field} (h:Tryz.prog.underlying 349=some (.struct fs):=by exact Tryz.underlying349):FieldsLie Tryz.prog fs [(0,1),(1,1)]:=by
 rw [Tryz.underlying349] at h
 cases h
 intro w
 kernel_rfl
theorem eq349 (xs ys:List Int) (w:World) (hx:xs.length=2:=by rfl) (hy:ys.length=2:=by rfl):(Op.equal 349 (.agg (intCells xs).toArray) (.agg (intCells ys).toArray)).run Tryz.prog w= .ok (xs==ys) w:=
 run_equal_ints w xs ys (by omega) Tryz.underlying349 (by kernel_rfl) ⟨by decide,rfl,Tryz.isAgg3,⟨_,Tryz.underlying3⟩,by decide,rfl,Tryz.isAgg3,⟨_,Tryz.underlying3⟩,trivial⟩ (by rw [hx];rfl)
theorem number_w (e:Ev) (w:World):Calls Tryz.prog 270 #[.agg e.cells.toArray] w fun r w'=>r= .returned (.agg (intCells [e.device,e.seq]).toArray)∧Bel w w':=by
 refine H_enter Tryz.func270 rfl Tryz.ntmps270 rfl ?_
 iterate 2 refine G ?_
 refine X_box (v:= .agg _) rfl rfl fun b1=>?_
 refine X_alloc Tryz.zeroValue349 rfl fun b2=>?_
 iterate 8 refine G ?_
 refine xV (e_build Tryz.underlying349 fl349 Tryz.zeroValue349 (pt (v:= .int _ _) rfl (pt (v:= .int _ _) rfl E.p0)) rfl) rfl rfl ?_
 refine X_st (v:= .agg _) rfl rfl Tryz.sizeOf349 ?_
 iterate 3 refine G ?_
 exact ret_of rfl (resc1 0 rfl rfl Tryz.isAgg349 Tryz.sizeOf349 rfl rfl) fun w' hw=>⟨rfl,hw.1⟩
theorem set2_w (a b:Ev) (w:World):Calls Tryz.prog 269 #[.agg a.cells.toArray, .agg b.cells.toArray] w fun r w'=>r= .returned (.bool (sameNum a b))∧Bel w w':=by
 refine H_enter Tryz.func269 rfl Tryz.ntmps269 rfl ?_
 iterate 2 refine G ?_
 refine X_box (v:= .agg _) rfl rfl fun b2=>?_
 refine X_box (v:= .agg _) rfl rfl fun b3=>?_
 iterate 4 refine G ?_
 refine R1 rfl (by decide+kernel) ?_
 refine G ?_
 refine xC (en Tryz.call270 (ha1 (q0 rfl))) (fun _ w _=>number_w a w) rfl rfl ?_
 refine G ?_
 refine xC (en Tryz.call270 (ha1 (q0 rfl))) (fun _ w _=>number_w b w) rfl rfl ?_
 refine xV (e_eqS (fun w=>eq349 _ _ w) (by kernel_rfl) (q0 rfl) (q0 rfl)) rfl rfl ?_
 iterate 4 refine G ?_
 exact ret1 (v:= .bool _) rfl rfl rfl fun w' hw=>⟨rfl,hw.1⟩
attribute [local irreducible] cmpI evCmp
theorem set1_w (a b:Ev) (w:World):Calls Tryz.prog 267 #[.agg a.cells.toArray, .agg b.cells.toArray] w fun r w'=>r= .returned (.int .i64 (setCmp a b))∧Bel w w':=by
 refine H_enter Tryz.func267 rfl Tryz.ntmps267 rfl ?_
 iterate 2 refine G ?_
 refine X_box (v:= .agg _) rfl rfl fun b2=>?_
 refine X_box (v:= .agg _) rfl rfl fun b3=>?_
 iterate 4 refine G ?_
 refine RA rfl (by decide+kernel) ?_
 refine aW 0 ?_
 refine aW 1 ?_
 refine aW 2 ?_
 refine aW 3 ?_
 refine aW 5 ?_
 refine aW 6 ?_
 refine aW 7 ?_
 refine aW 8 ?_
 refine aW 10 ?_
 refine aW 11 ?_
 refine aC 4 (by decide+kernel) rfl (en Tryz.call104 (ha2 (q0 rfl) (q0 rfl))) (fun _ w _=>compare_w a.device b.device w) rfl ?_
 refine aC 9 (by decide+kernel) rfl (en Tryz.call104 (ha2 (q0 rfl) (q0 rfl))) (fun _ w _=>compare_w a.seq b.seq w) rfl ?_
 refine aC 12 (by decide+kernel) rfl (en Tryz.call252 (ha2 (q0 rfl) (q0 rfl))) (fun _ w _=>evCmp_w a b w) rfl ?_
 refine r1 13 0 ?_
 refine aL rfl (f_slit [(.int .i64 0),(.int .i64 0),(.int .i64 0)] Tryz.underlying22 Tryz.sizeOf3 Tryz.zeroValue3 rfl (by kernel_rfl) (pt (v:= .int _ _) rfl (pt (v:= .int _ _) rfl (pt (v:= .int _ _) rfl E.p0))) rfl rfl fun b18=>?_)
 refine aRL (sub_drop 1) ?_
 refine aC 14 (by decide+kernel) rfl (en Tryz.call109 (ha1 (q0 rfl))) (fun _ w hm=>or_w _ 3 3 [cmpI a.device b.device,cmpI a.seq b.seq,evCmp a b] w (slAt_box (enc:=encInt) hm (j:=0) rfl (fun _=>rfl) (by simp))) rfl ?_
 refine aW 15 ?_
 refine aZ (by decide+kernel) (sub_drop 0) ?_
 iterate 2 refine G ?_
 exact ret1 (v:= .int _ _) rfl rfl rfl fun w' hw=>⟨rfl,hw.1⟩
attribute [local irreducible] lexLt
end Go.Proofs.Cus
namespace Go.Proofs.Cus
open Go Go.RowKit Go.Proofs.E
abbrev EvsAt (w:World) (A:Option Addr) (n:Nat) (xs:List Ev):Prop:=SlAt w 9 Ev.cells A n xs
abbrev evRow (A:Option Addr) (c:Nat) (xs:List Ev):E.Item:=rowT 58 9 Ev.cells A c xs
theorem clone_w (A:Option Addr) (n c:Nat) (xs:List Ev) (w:World) (hx:EvsAt w A n xs) (hn:n≤10000):
  Calls Tryz.prog 266 #[.slice A n c] w fun e w'=> ∃x:Option Addr×Nat,e= .returned (.slice x.1 n x.2)∧Mem w [evRow x.1 x.2 xs] w':=by
 have hl:=hx.1
 refine H_enter Tryz.func266 rfl Tryz.ntmps266 rfl ?_
 iterate 9 refine G ?_
 refine xV (e_eqNilS Tryz.underlying49 (q0 rfl)) rfl rfl ?_
 iterate 2 refine G ?_
 refine H_cond rfl ?_ ?_<;>intro h1
 ·have hA0:A=none:=by simpa using h1
  have hn0:n=0:=by
   rcases Nat.eq_zero_or_pos n with h|h
   ·exact h
   ·obtain ⟨b,off,hb,_⟩:=hx.2.2 h;rw [hA0] at hb;cases hb
  subst hn0
  have:xs=[]:=List.eq_nil_of_length_eq_zero hl
  subst this
  iterate 7 refine G ?_
  exact ret1 (v:= .slice _ _ _) rfl rfl rfl fun w' hw=>⟨(none,0),rfl,hw.nilRow _ _ _ rfl⟩
 ·iterate 4 refine G ?_
  refine X_eff (f_slit0 Ev.cells Tryz.underlying49 Tryz.sizeOf58 rfl fun A1 c1=>?_)
  refine G ?_
  refine X_append (f_append (k:=9) (i:=Tryz.t58) (enc:=Ev.cells) 0 Tryz.underlying49 (by kernel_rfl) rfl rfl rfl rfl (fun _=>rfl) (fun _=>rfl) rfl rfl rfl (fun w hw=>hx.mem hw) ⟨by simp;omega,by decide⟩ rfl fun A2 c2=>?_)
  iterate 4 refine G ?_
  exact ret1 (v:= .slice _ _ _) rfl rfl rfl fun w' hw=>⟨(A2,c2),by rw [←hl];rfl,hw⟩
def sortEv_ren:Go.Shelf.Ren:=⟨fun|6=>123|15=>162|14=>178|28=>219|29=>220|20=>244|21=>245|22=>246|23=>247|24=>248|25=>249|26=>250|27=>251|46=>297|47=>280|48=>281|49=>298|50=>299|57=>330|n=>n,fun|22=>49|24=>58|25=>218|3=>3|39=>257|0=>0|53=>305|55=>307|4=>4|46=>299|45=>298|50=>229|5=>5|9=>9|66=>359|70=>363|76=>388|77=>77|n=>n,fun|n=>n⟩
theorem sortEv:Go.Proofs.SlLaysF0.n6 Tryz.prog sortEv_ren:={
 mixed:=by kernel_rfl,
 f6:=⟨Tryz.f123.name,by decide,Tryz.func123.trans (congrArg some (by kernel_rfl))⟩,
 f14:=⟨Tryz.f178.name,by decide,Tryz.func178.trans (congrArg some (by kernel_rfl))⟩,
 f15:=Tryz.func162.trans (congrArg some (by kernel_rfl)),
 f20:=⟨Tryz.f244.name,by decide,Tryz.func244.trans (congrArg some (by kernel_rfl))⟩,
 f21:=⟨Tryz.f245.name,by decide,Tryz.func245.trans (congrArg some (by kernel_rfl))⟩,
 f22:=⟨Tryz.f246.name,by decide,Tryz.func246.trans (congrArg some (by kernel_rfl))⟩,
 f23:=⟨Tryz.f247.name,by decide,Tryz.func247.trans (congrArg some (by kernel_rfl))⟩,
 f24:=⟨Tryz.f248.name,by decide,Tryz.func248.trans (congrArg some (by kernel_rfl))⟩,
 f25:=⟨Tryz.f249.name,by decide,Tryz.func249.trans (congrArg some (by kernel_rfl))⟩,
 f26:=⟨Tryz.f250.name,by decide,Tryz.func250.trans (congrArg some (by kernel_rfl))⟩,
 f27:=⟨Tryz.f251.name,by decide,Tryz.func251.trans (congrArg some (by kernel_rfl))⟩,
 f28:=Tryz.func219.trans (congrArg some (by kernel_rfl)),
 f29:=Tryz.func220.trans (congrArg some (by kernel_rfl)),
 f46:=⟨Tryz.f297.name,by decide,Tryz.func297.trans (congrArg some (by kernel_rfl))⟩,
 f47:=Tryz.func280.trans (congrArg some (by kernel_rfl)),
 f48:=Tryz.func281.trans (congrArg some (by kernel_rfl)),
 f49:=⟨Tryz.f298.name,by decide,Tryz.func298.trans (congrArg some (by kernel_rfl))⟩,
 f50:=⟨Tryz.f299.name,by decide,Tryz.func299.trans (congrArg some (by kernel_rfl))⟩,
 f57:=⟨Tryz.f330.name,by decide,Tryz.func330.trans (congrArg some (by kernel_rfl))⟩,
 t0:=Tryz.underlying0,
 a0:=Tryz.isAgg0,
 z0:=Tryz.sizeOf0,
 v0:=Tryz.zeroValue0,
 t3:=Tryz.underlying3,
 a3:=Tryz.isAgg3,
 z3:=Tryz.sizeOf3,
 v3:=Tryz.zeroValue3,
 t4:=Tryz.underlying4,
 a4:=Tryz.isAgg4,
 z4:=Tryz.sizeOf4,
 v4:=Tryz.zeroValue4,
 t5:=Tryz.underlying5,
 a5:=Tryz.isAgg5,
 z5:=Tryz.sizeOf5,
 v5:=Tryz.zeroValue5,
 t9:=Tryz.underlying9,
 a9:=Tryz.isAgg9,
 z9:=Tryz.sizeOf9,
 v9:=Tryz.zeroValue9,
 t22:=Tryz.underlying49,
 a22:=Tryz.isAgg49,
 z22:=Tryz.sizeOf49,
 v22:=Tryz.zeroValue49,
 t25:=Tryz.underlying218,
 a25:=Tryz.isAgg218,
 z25:=Tryz.sizeOf218,
 v25:=Tryz.zeroValue218,
 t39:=Tryz.underlying257,
 a39:=Tryz.isAgg257,
 z39:=Tryz.sizeOf257,
 v39:=Tryz.zeroValue257,
 t45:=Tryz.underlying298,
 a45:=Tryz.isAgg298,
 z45:=Tryz.sizeOf298,
 v45:=Tryz.zeroValue298,
 t46:=Tryz.underlying299,
 a46:=Tryz.isAgg299,
 z46:=Tryz.sizeOf299,
 v46:=Tryz.zeroValue299,
 t50:=Tryz.underlying229,
 a50:=Tryz.isAgg229,
 z50:=Tryz.sizeOf229,
 v50:=Tryz.zeroValue229,
 t53:=Tryz.underlying305,
 a53:=Tryz.isAgg305,
 z53:=Tryz.sizeOf305,
 v53:=Tryz.zeroValue305,
 t55:=Tryz.underlying307,
 a55:=Tryz.isAgg307,
 z55:=Tryz.sizeOf307,
 v55:=Tryz.zeroValue307,
 t66:=Tryz.underlying359,
 a66:=Tryz.isAgg359,
 z66:=Tryz.sizeOf359,
 v66:=Tryz.zeroValue359,
 t70:=Tryz.underlying363,
 a70:=Tryz.isAgg363,
 z70:=Tryz.sizeOf363,
 v70:=Tryz.zeroValue363,
 t76:=Tryz.underlying388,
 a76:=Tryz.isAgg388,
 z76:=Tryz.sizeOf388,
 v76:=Tryz.zeroValue388,
 t77:=Tryz.underlying77,
 a77:=Tryz.isAgg77,
 z77:=Tryz.sizeOf77,
 v77:=Tryz.zeroValue77}
open Go.Shelf Go.Lib Go.Sort in
theorem sortBy_w (cf:Ev→Ev→Int) (g:Nat) (hO:SWO (ltOf cf)) (hT: ∀x y,ltOf cf x y=false→ltOf cf y x=false→x=y) (eg: ∀args w,(callFunc g args).run Tryz.prog w= .ok (.enter g args) w)
  (hcl: ∀(x y:Ev) (w:World),Calls Tryz.prog g #[.agg x.cells.toArray, .agg y.cells.toArray] w fun e w'=>e= .returned (.int .i64 (cf x y))∧Bel w w')
  {w0 w:World} {L:List E.Item} (hw:Mem w0 L w) {j c:Nat} {A:Option Addr} {xs:List Ev} (hk:L[j]?=some (evRow A c xs)) (hn:xs.length≤1000000):
  Calls Tryz.prog 123 #[.slice A xs.length c, .func (.func g) #[] #[]] w fun e w'=> ∃_:Unit,e= .returned (.tuple #[])∧Mem w0 (L.set j (evRow A c (xs.mergeSort fun x y=>!ltOf cf y x))) w':=by
 rcases Nat.eq_zero_or_pos xs.length with h0|h0
 ·have:xs=[]:=List.eq_nil_of_length_eq_zero h0
  subst this
  refine (AnyF.slices_SortFunc_none sortEv A c (.func (.func g) #[] #[]) w).mono ?_
  rintro e w' ⟨rfl,rfl⟩
  refine ⟨(),rfl,?_⟩
  have hL:L.set j (evRow A c (([]:List Ev).mergeSort fun x y=>!ltOf cf y x))=L:=by
   have:([]:List Ev).mergeSort (fun x y=>!ltOf cf y x)=[]:=by simp
   rw [this]
   obtain ⟨h1,h2⟩:=List.getElem?_eq_some_iff.1 hk
   rw [←h2];exact List.set_getElem_self h1
  rw [hL];exact hw
 ·obtain ⟨b,rfl⟩:=rowT_at hw hk h0
  have hb:b<w.heap.size:=(hw.itemLt hk rfl).2
  have hcon:=AnyQ.slices_SortFunc_total sortEv 9 Tryz.isAgg58 Tryz.sizeOf58 Ev.cells (fun _=>rfl) (fun x v hv=>by simp [Ev.cells] at hv;rcases hv with rfl|rfl|rfl|rfl|rfl|rfl|rfl|rfl|rfl<;>rfl) cf hO g #[] b 0 c xs.toArray w eg
   (fun m os dk _ x y=>by rw [Array.append_empty];exact (hcl x y _).mono fun e w' ⟨he,hb⟩=>⟨he,hb.grew⟩) (holdsK_row (fun _=>rfl) hw hk) hb (by simp;omega) hT
  have hcon':Calls Tryz.prog 123 #[.slice (some ⟨b,0,none⟩) xs.toArray.size c, .func (.func g) #[] #[]] w _:=hcon
  rw [List.size_toArray] at hcon'
  refine hcon'.mono ?_
  rintro e w' ⟨rfl,n,os,rfl⟩
  exact ⟨(),rfl,sorted_mem (fun _=>rfl) hw hk (by simp)⟩
open Go.Shelf Go.Lib Go.Sort in
theorem sort1_w {w0 w:World} {L:List E.Item} (hw:Mem w0 L w) {j c:Nat} {A:Option Addr} {xs:List Ev} (hk:L[j]?=some (evRow A c xs)) (hn:xs.length≤1000000):
  Calls Tryz.prog 123 #[.slice A xs.length c, .func (.func 267) #[] #[]] w fun e w'=> ∃_:Unit,e= .returned (.tuple #[])∧Mem w0 (L.set j (evRow A c (xs.mergeSort le1))) w':=by
 have hlt:(ltOf setCmp)=fun x y=>lexLt x.keys2 y.keys2:=by funext x y;exact setCmp_lt x y
 have:=sortBy_w setCmp 267 (by rw [hlt];exact swo_key Ev.keys2 11 (fun _=>rfl)) (fun x y h1 h2=>by rw [hlt] at h1 h2;exact keys2_inj (lexLt_total rfl h1 h2)) Tryz.call267 set1_w hw hk hn
 rw [hlt] at this
 exact this
open Go.Shelf Go.Lib Go.Sort in
theorem sort2_w {w0 w:World} {L:List E.Item} (hw:Mem w0 L w) {j c:Nat} {A:Option Addr} {xs:List Ev} (hk:L[j]?=some (evRow A c xs)) (hn:xs.length≤1000000):
  Calls Tryz.prog 123 #[.slice A xs.length c, .func (.func 252) #[] #[]] w fun e w'=> ∃_:Unit,e= .returned (.tuple #[])∧Mem w0 (L.set j (evRow A c (xs.mergeSort le2))) w':=by
 have hlt:(ltOf evCmp)=fun x y=>lexLt x.keys y.keys:=by funext x y;exact lexCmp_lt x.keys y.keys
 have:=sortBy_w evCmp 252 (by rw [hlt];exact swo_key Ev.keys 9 (fun _=>rfl)) (fun x y h1 h2=>by rw [hlt] at h1 h2;exact keys_inj (lexLt_total rfl h1 h2)) Tryz.call252 evCmp_w hw hk hn
 rw [hlt] at this
 exact this
end Go.Proofs.Cus
namespace Go.Proofs.Cus
open Go Go.RowKit Go.Proofs.E
theorem compactEv_w (eq:Ev→Ev→Bool) (g:Nat) (eg: ∀args w,(callFunc g args).run Tryz.prog w= .ok (.enter g args) w)
  (hcl: ∀(x y:Ev) (w:World),Calls Tryz.prog g #[.agg (Ev.cells x).toArray, .agg (Ev.cells y).toArray] w fun e w'=>e= .returned (.bool (eq x y))∧Bel w w')
  {w0 w:World} {L:List E.Item} {c:Nat} {A:Option Addr} {xs:List Ev} (hw:Mem w0 (rowT 58 9 Ev.cells A c xs::L) w) (hmk:marks L=[]) (hn:xs.length≤1000000):
  Calls Tryz.prog 268 #[.slice A xs.length c, .func (.func g) #[] #[]] w fun e w'=> ∃_:Unit,e= .returned (.slice A (compactF eq xs).length c)∧Mem w0 (rowT 58 9 Ev.cells A c (compactF eq xs)::L) w':=by
 have hcap:=rowT_cap (j:=0) hw rfl
 rcases Nat.lt_or_ge xs.length 2 with hlt|hge
 ·have hcf:compactF eq xs=xs:=by
   match xs,hlt with
   |[],_=>rfl
   |[x],_=>rfl
  rw [hcf]
  refine H_enterM hw hmk Tryz.func268 rfl Tryz.ntmps268 rfl ?_
  iterate 13 refine G ?_
  refine H_cond rfl ?_ ?_<;>intro h1
  ·iterate 8 refine G ?_
   exact ret1 (v:= .slice _ _ _) rfl rfl hmk fun w' hw=>⟨(),rfl,hw⟩
  ·exact absurd h1 (by simp;omega)
 ·obtain ⟨b,rfl⟩:=rowT_at (j:=0) hw rfl (by omega)
  refine H_enterM hw hmk Tryz.func268 rfl Tryz.ntmps268 rfl ?_
  iterate 13 refine G ?_
  refine H_cond rfl ?_ ?_<;>intro h1
  ·exact absurd h1 (by simp;omega)
  ·iterate 9 refine G ?_
   refine H_loop [4,5,6,7,12,13,14,15,16,17,18,19,20,21,22,23,24,25,26,27,28,29,30,31,32,33,34,35,36,37,38,39,40,41,42,43,44,45,46,47,48,49,50,51,52,53,54,55,56,57,58,59,60,61,62,63,64] (fun k:Nat=>[(5, .int .i64 k)]) (fun _=>_) (fun k=>1≤k∧k≤xs.length∧ ∃p,xs[k -1]?=some p∧compactF eq xs=xs.take k++compactGo eq p (xs.drop k)) (fun k=>xs.length -k) 1 ⟨rfl,trivial⟩ (fun _ h=>h) rfl (by
    refine ⟨Nat.le_refl _,by omega,?_⟩
    match xs,hge with
    |x::xs,_=>exact ⟨x,rfl,rfl⟩) ?_
   rintro k g2 ⟨hk1,hkn,p,hp,hcf⟩
   iterate 9 refine G ?_
   refine H_cond rfl ?_ ?_<;>intro hlt
   ·have hlt':k<xs.length:=by simpa using hlt
    obtain ⟨y,hy⟩: ∃y,xs[k]?=some y:=⟨_,List.getElem?_eq_getElem hlt'⟩
    iterate 5 refine G ?_
    refine R1 rfl (by decide+kernel) ?_
    iterate 3 refine G ?_
    refine xV (e_idx _ Tryz.underlying49 Tryz.sizeOf58 (q0 rfl) (q0 rfl) (fun _=>⟨rfl,by omega⟩)) rfl rfl ?_
    refine xV (e_lds Tryz.isAgg58 Tryz.sizeOf58 (q0 rfl) (rrs 0 rfl hy) rfl) rfl rfl ?_
    iterate 3 refine G ?_
    refine xV (e_idx (k -1) Tryz.underlying49 Tryz.sizeOf58 (q0 rfl) (q0 rfl) (fun _=>⟨by omega,by omega⟩)) rfl rfl ?_
    refine xV (e_lds Tryz.isAgg58 Tryz.sizeOf58 (q0 rfl) (rrs 0 rfl hp) rfl) rfl rfl ?_
    refine xC (enV eg (q0 rfl) (fun _=>rfl)) (fun _ w _=>hcl y p w) rfl rfl ?_
    iterate 2 refine G ?_
    have hdrop:xs.drop k=y::xs.drop (k+1):=by
     obtain ⟨q1,q2⟩:=List.getElem?_eq_some_iff.1 hy
     rw [List.drop_eq_getElem_cons q1,q2]
    refine H_cond rfl ?_ ?_<;>intro heq
    ·have hcf2:compactF eq xs=xs.take k++compactGo eq y (xs.drop (k+1)):=by rw [hcf,hdrop];simp only [compactGo];rw [if_pos heq]
     iterate 4 refine G ?_
     refine xV (e_slLo _ Tryz.underlying49 Tryz.sizeOf58 (q0 rfl) (q0 rfl) (fun _=>⟨rfl,by omega,by omega⟩)) rfl rfl ?_
     iterate 10 refine G ?_
     refine H_loop [5,7,32,33,34,35,36,37,38,39,40,41,42,43,44,45,46,47,48,49,50,51,52,53,54,55,56,57,58] (fun s:Nat×Nat×List Ev=>[(5, .int .i64 s.1),(7, .int .i64 s.2.1)]) (fun s=>rowT 58 9 Ev.cells (some ⟨b,0,none⟩) c s.2.2::L) (fun s=>1≤s.2.1∧k+s.2.1≤xs.length∧s.2.2.length=xs.length∧s.2.2.drop (k+s.2.1 -1)=xs.drop (k+s.2.1 -1)∧s.1≤k+s.2.1 -1∧ ∃p,xs[k+s.2.1 -1]?=some p∧compactF eq xs=s.2.2.take s.1++compactGo eq p (xs.drop (k+s.2.1))) (fun s=>xs.length -(k+s.2.1)) (k,1,xs) ⟨rfl,rfl,trivial⟩ (fun _ h=>h) rfl ⟨Nat.le_refl _,by show k+1≤xs.length;omega,rfl,rfl,by simp,y,by simpa using hy,by simpa using hcf2⟩ ?_
     rintro s g3 ⟨h2,hkn2,hyl,hyd,hi,p2,hp2,hcf3⟩
     iterate 9 refine G ?_
     refine H_cond rfl ?_ ?_<;>intro hlt2
     ·have hlt2':k+s.2.1<xs.length:=by simp at hlt2;omega
      obtain ⟨z,hz⟩: ∃z,xs[k+s.2.1]?=some z:=⟨_,List.getElem?_eq_getElem hlt2'⟩
      have hzy:s.2.2[k+s.2.1]?=some z:=by
       have:(s.2.2.drop (k+s.2.1 -1))[1]?=(xs.drop (k+s.2.1 -1))[1]?:=by rw [hyd]
       rw [List.getElem?_drop,List.getElem?_drop,show k+s.2.1 -1+1=k+s.2.1 by omega] at this
       rw [this];exact hz
      have hpy:s.2.2[k+(s.2.1 -1)]?=some p2:=by
       have:(s.2.2.drop (k+s.2.1 -1))[0]?=(xs.drop (k+s.2.1 -1))[0]?:=by rw [hyd]
       rw [List.getElem?_drop,List.getElem?_drop,Nat.add_zero] at this
       rw [show k+(s.2.1 -1)=k+s.2.1 -1 by omega,this];exact hp2
      have hdrop2:xs.drop (k+s.2.1)=z::xs.drop (k+s.2.1+1):=by
       obtain ⟨q1,q2⟩:=List.getElem?_eq_some_iff.1 hz
       rw [List.drop_eq_getElem_cons q1,q2]
      have hdd:s.2.2.drop (k+s.2.1)=xs.drop (k+s.2.1):=by
       have:=congrArg (List.drop 1) hyd
       rw [List.drop_drop,List.drop_drop,show k+s.2.1 -1+1=k+s.2.1 by omega] at this
       exact this
      iterate 5 refine G ?_
      refine R1 rfl (by decide+kernel) ?_
      iterate 3 refine G ?_
      refine xV (e_idx _ Tryz.underlying49 Tryz.sizeOf58 (q0 rfl) (q0 rfl) (fun _=>⟨rfl,by omega⟩)) rfl rfl ?_
      refine xV (e_lds Tryz.isAgg58 Tryz.sizeOf58 (q0 rfl) (rrs2 0 rfl hzy) rfl) rfl rfl ?_
      iterate 3 refine G ?_
      refine xV (e_idx (s.2.1 -1) Tryz.underlying49 Tryz.sizeOf58 (q0 rfl) (q0 rfl) (fun _=>⟨by omega,by omega⟩)) rfl rfl ?_
      refine xV (e_lds Tryz.isAgg58 Tryz.sizeOf58 (q0 rfl) (rrs2 0 rfl hpy) rfl) rfl rfl ?_
      refine xC (enV eg (q0 rfl) (fun _=>rfl)) (fun _ w _=>hcl z p2 w) rfl rfl ?_
      iterate 3 refine G ?_
      refine H_cond rfl ?_ ?_<;>intro heq2
      ·obtain ⟨q,hq⟩: ∃q,s.2.2[s.1]?=some q:=⟨_,List.getElem?_eq_getElem (by omega)⟩
       iterate 6 refine G ?_
       refine xV (e_idx _ Tryz.underlying49 Tryz.sizeOf58 (q0 rfl) (q0 rfl) (fun _=>⟨rfl,by omega⟩)) rfl rfl ?_
       refine xV (e_lds Tryz.isAgg58 Tryz.sizeOf58 (q0 rfl) (rrs2 0 rfl hzy) rfl) rfl rfl ?_
       refine xV (e_idx _ Tryz.underlying49 Tryz.sizeOf58 (q0 rfl) (q0 rfl) (fun _=>⟨rfl,by omega⟩)) rfl rfl ?_
       refine X_eff (f_storeR0 0 z rfl rfl Tryz.sizeOf58 rfl rfl rfl hq rfl rfl ?_)
       iterate 14 refine G ?_
       exact loopJ_normal (s.1+1,s.2.1+1,s.2.2.set s.1 z) agr ⟨rfl,rfl,trivial⟩ (fun _ h=>h) rfl ⟨by show 1≤s.2.1+1;omega,by show k+(s.2.1+1)≤_;omega,by simpa using hyl,by
        show (s.2.2.set s.1 z).drop (k+(s.2.1+1) -1)=_
        rw [show k+(s.2.1+1) -1=k+s.2.1 by omega,List.drop_set_of_lt (by omega)]
        exact hdd,by show s.1+1≤k+(s.2.1+1) -1;omega,z,by simpa using hz,by
        show _=(s.2.2.set s.1 z).take (s.1+1)++_
        rw [hcf3,hdrop2]
        simp only [compactGo]
        rw [if_neg (by simpa using heq2),List.take_add_one,List.take_set_of_le (by omega),List.getElem?_set_self (by omega)]
        simp [Nat.add_assoc]⟩ (by show xs.length -(k+(s.2.1+1))<xs.length -(k+s.2.1);omega)
      ·iterate 8 refine G ?_
       exact loopJ_normal (s.1,s.2.1+1,s.2.2) agr ⟨rfl,rfl,trivial⟩ (fun _ h=>h) rfl ⟨by show 1≤s.2.1+1;omega,by show k+(s.2.1+1)≤_;omega,hyl,by
        show s.2.2.drop (k+(s.2.1+1) -1)=_
        rw [show k+(s.2.1+1) -1=k+s.2.1 by omega]
        exact hdd,by show s.1≤k+(s.2.1+1) -1;omega,z,by simpa using hz,by
        show _=s.2.2.take s.1++_
        rw [hcf3,hdrop2]
        simp only [compactGo]
        rw [if_pos (by simpa using heq2)]
        simp [Nat.add_assoc]⟩ (by show xs.length -(k+(s.2.1+1))<xs.length -(k+s.2.1);omega)
     ·have hend:k+s.2.1=xs.length:=by simp at hlt2;omega
      have hcf4:compactF eq xs=s.2.2.take s.1:=by rw [hcf3,hend,List.drop_length];simp [compactGo]
      iterate 9 refine G ?_
      refine xV (e_slLo _ Tryz.underlying49 Tryz.sizeOf58 (q0 rfl) (q0 rfl) (fun _=>⟨rfl,by omega,by omega⟩)) rfl rfl ?_
      refine X_eff (f_clearR (i:=s.1) (k:=9) 0 Tryz.underlying49 Tryz.zeroValue58 rfl rfl rfl rfl ⟨by omega,by omega⟩ ?_)
      iterate 6 refine G ?_
      refine xV (e_slHi _ Tryz.underlying49 Tryz.sizeOf58 (q0 rfl) (q0 rfl) (fun _=>⟨rfl,by omega⟩)) rfl rfl ?_
      iterate 9 refine G ?_
      exact ret1 (v:= .slice _ _ _) rfl rfl hmk fun w' hw=>⟨(),by rw [hcf4,List.length_take,Nat.min_eq_left (by omega)],by rw [hcf4];exact hw⟩
    ·iterate 8 refine G ?_
     exact loopJ_normal (k+1) agr ⟨rfl,trivial⟩ (fun _ h=>h) rfl ⟨by omega,by omega,y,by simpa using hy,by
      rw [hcf,hdrop]
      simp only [compactGo]
      rw [if_neg (by simpa using heq),take_snoc _ _ _ hy]
      simp⟩ (by show xs.length -(k+1)<xs.length -k;omega)
   ·have hend:k=xs.length:=by simp at hlt;omega
    have hcf4:compactF eq xs=xs:=by rw [hcf,hend,List.drop_length,List.take_length];simp [compactGo]
    iterate 12 refine G ?_
    exact ret1 (v:= .slice _ _ _) rfl rfl hmk fun w' hw=>⟨(),by rw [hcf4],by rw [hcf4];exact hw⟩
end Go.Proofs.Cus
namespace Go.Proofs.Cus
open Go Go.RowKit Go.Proofs.E
theorem compactAt_w {w0 w:World} {L:List E.Item} {j c:Nat} {A:Option Addr} {xs:List Ev} (hw:Mem w0 L w) (hk:L[j]?=some (evRow A c xs)) (hmk:marks L=[]) (hn:xs.length≤1000000):
  Calls Tryz.prog 268 #[.slice A xs.length c, .func (.func 269) #[] #[]] w fun e w'=> ∃_:Unit,e= .returned (.slice A (compactF sameNum xs).length c)∧Mem w0 (L.set j (evRow A c (compactF sameNum xs))) w':=
 (compactEv_w sameNum 269 Tryz.call269 set2_w (hw.front hk) (marks_erase L j hmk) hn).mono fun _ _ ⟨_,he,hm⟩=>⟨(),he,hm.back hk⟩
theorem compact_len {α:Type} (eq:α→α→Bool): ∀(xs:List α),(compactF eq xs).length≤xs.length
 |[]=>Nat.le_refl _
 |x::xs=>by
  have: ∀(xs:List α) (p:α),(compactGo eq p xs).length≤xs.length:=by
   intro xs
   induction xs with
   |nil=>intro p;exact Nat.le_refl _
   |cons y ys ih=>
    intro p
    simp only [compactGo]
    split
    ·have:=ih y;simp;omega
    ·have:=ih y;simp;omega
  have:=this xs x
  simp [compactF];omega
theorem setOf_len (l:List Ev):(setOf l).length≤l.length:=by
 have:=compact_len sameNum (l.mergeSort le1)
 simpa [setOf] using this
attribute [local irreducible] compactF
theorem set_w (A:Option Addr) (n c:Nat) (xs:List Ev) (w:World) (hx:EvsAt w A n xs) (hn:n≤10000):
  Calls Tryz.prog 204 #[.slice A n c] w fun e w'=> ∃x:Option Addr×Nat,e= .returned (.slice x.1 (setOf xs).length x.2)∧Mem w [evRow x.1 x.2 (setOf xs)] w':=by
 have hl:=hx.1
 subst hl
 refine H_enter Tryz.func204 rfl Tryz.ntmps204 rfl ?_
 iterate 8 refine G ?_
 refine xCX (en Tryz.call266 (ha1 (q0 rfl))) (fun w hw=>clone_w A xs.length c xs w (hx.mem hw) hn) rfl (fun _=>rfl) fun x=>?_
 iterate 6 refine G ?_
 refine X_eff (f_callM (en Tryz.call123 (ha2 (q0 rfl) (q0 rfl))) (fun w hw=>sort1_w (j:=0) hw rfl (by omega)) rfl (fun _=>rfl) fun u=>?_)
 iterate 5 refine G ?_
 have e1:xs.length=(xs.mergeSort le1).length:=by simp
 rw [e1]
 refine X_eff (f_callM (en Tryz.call268 (ha2 (q0 rfl) (q0 rfl))) (fun w hw=>compactAt_w (j:=0) hw rfl rfl (by simp;omega)) rfl (fun _=>rfl) fun u=>?_)
 iterate 6 refine G ?_
 refine X_eff (f_callM (en Tryz.call123 (ha2 (q0 rfl) (q0 rfl))) (fun w hw=>sort2_w (j:=0) hw rfl (by have:=compact_len sameNum (xs.mergeSort le1);simp at this;omega)) rfl (fun _=>rfl) fun u=>?_)
 iterate 9 refine G ?_
 have e2:(compactF sameNum (xs.mergeSort le1)).length=(setOf xs).length:=by simp [setOf]
 exact ret1 (v:= .slice _ _ _) rfl rfl rfl fun w' hw=>⟨x,by rw [←e2],hw⟩
end Go.Proofs.Cus
