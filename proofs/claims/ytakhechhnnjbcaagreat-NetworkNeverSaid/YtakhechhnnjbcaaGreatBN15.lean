import Derived.Test.YtakhechhnnjbcaaGreatBN14
import Derived.Test.YtakhechhnnjbcaaGreatBN03
import Derived.Shelf.SlSortCmp.NoneTotal
import Derived.Ground.SlsfProg
import Derived.Test.YtakhechhnnjbcaaGreatBN04
import Derived.Test.YtakhechhnnjbcaaGreatTy
set_option maxRecDepth 100000
set_option maxHeartbeats 8000000
set_option linter.unusedVariables false
set_option linter.unusedSimpArgs false
namespace Go.Proofs.Far
open Go Go.RowKit Go.Proofs.E Go.Proofs.Cus
section
open Go.Shelf Go.Lib Go.Sort
theorem swo_by {α:Type} (f:α→Int) (cf:α→α→Int) (h: ∀x y,ltOf cf x y=decide (f x<f y)):SWO (ltOf cf) where
 irrefl x:=by rw [h];simp
 trans x y z h1 h2:=by rw [h] at*;simp at*;omega
 ntrans x y z h1 h2:=by rw [h] at*;simp at*;omega
theorem sortNT {α:Type} [Inhabited α] {ρ:Ren} (Lay:SlLaysF0.n6 Tryz.prog ρ) (k:Nat) (aE: ∀w,(isAgg (ρ.t 24)).run Tryz.prog w= .ok true w) (zE: ∀w,(Go.sizeOf (ρ.t 24)).run Tryz.prog w= .ok k w) (enc:α→List Value) (hk: ∀x,(enc x).length=k) (h1: ∀x,∀v∈enc x,v.oneCell'=true)
  (cf:α→α→Int) (g:Nat) (hO:SWO (ltOf cf)) (eg: ∀args w,(callFunc g args).run Tryz.prog w= .ok (.enter g args) w)
  (hcl: ∀(x y:α) (w:World),Calls Tryz.prog g #[.agg (enc x).toArray, .agg (enc y).toArray] w fun e w'=>e= .returned (.int .i64 (cf x y))∧Bel w w')
  {w0 w:World} {L:List E.Item} (hw:Mem w0 L w) {e:TypeId} {j c:Nat} {A:Option Addr} {xs:List α} (hkj:L[j]?=some (rowT e k enc A c xs)) (hn:xs.length≤1000000):
  Calls Tryz.prog (ρ.f 6) #[.slice A xs.length c, .func (.func g) #[] #[]] w fun r w'=> ∃ys:{ys:List α//ys.Perm xs∧ys.Pairwise fun x y=>ltOf cf y x=false},r= .returned (.tuple #[])∧Mem w0 (L.set j (rowT e k enc A c ys.1)) w':=by
 rcases Nat.eq_zero_or_pos xs.length with h0|h0
 ·have:xs=[]:=List.eq_nil_of_length_eq_zero h0
  subst this
  refine (AnyF.slices_SortFunc_none Lay A c (.func (.func g) #[] #[]) w).mono ?_
  rintro r w' ⟨rfl,rfl⟩
  refine ⟨⟨[],List.Perm.refl _,List.Pairwise.nil⟩,rfl,?_⟩
  have hL:L.set j (rowT e k enc A c ([]:List α))=L:=by
   obtain ⟨q1,q2⟩:=List.getElem?_eq_some_iff.1 hkj
   rw [←q2];exact List.set_getElem_self q1
  show Mem w0 (L.set j (rowT e k enc A c ([]:List α))) _
  rw [hL];exact hw
 ·obtain ⟨b,rfl⟩:=rowT_at hw hkj h0
  have hb:b<w.heap.size:=(hw.itemLt hkj rfl).2
  have hcon:=AnyQ.slices_SortFunc Lay k aE zE enc hk h1 cf hO g #[] b 0 c xs.toArray w eg
   (fun m os dk _ x y=>by rw [Array.append_empty];exact (hcl x y _).mono fun e w' ⟨he,hb⟩=>⟨he,hb.grew⟩) (holdsK_row hk hw hkj) hb (by simp;omega)
  rw [List.size_toArray] at hcon
  refine hcon.mono ?_
  rintro r w' ⟨rfl,d',n,os,hp,hs,rfl⟩
  have hsz:d'.size=xs.length:=by have:=hp.1;simpa using this
  have hperm:d'.toList.Perm xs:=by
   have h3:=hp.2.2
   rw [show d'.extract 0 xs.length=d' by rw [←hsz];exact Array.extract_size] at h3
   have h4:xs.toArray.extract 0 xs.length=xs.toArray:=by simp
   rw [h4] at h3
   exact h3
  refine ⟨⟨d'.toList,hperm,?_⟩,rfl,?_⟩
  ·rw [List.pairwise_iff_getElem]
   intro i j' hi hj hij
   have hj2:j'<xs.length:=by simpa [hsz] using hj
   have:=hs i j' (Nat.zero_le _) hij hj2
   rw [getElem!_pos d' i (by omega),getElem!_pos d' j' (by omega)] at this
   simpa using this
  ·have:=sorted_mem (n:=n) (os:=os) (ys:=d'.toList) hk hw hkj (by simpa using hsz)
   simpa using this
end
def sortWn_ren:Go.Shelf.Ren:=⟨fun|6=>327|15=>162|14=>345|28=>219|29=>220|20=>348|21=>349|22=>350|23=>351|24=>352|25=>353|26=>354|27=>355|46=>356|47=>280|48=>281|49=>357|50=>358|57=>359|n=>n,fun|22=>315|24=>153|25=>400|3=>3|39=>257|0=>0|53=>305|55=>307|4=>4|46=>299|45=>298|50=>229|5=>5|9=>9|66=>359|70=>363|76=>388|77=>77|n=>n,fun|n=>n⟩
theorem sortWn:Go.Proofs.SlLaysF0.n6 Tryz.prog sortWn_ren:={
 mixed:=by kernel_rfl,
 f6:=⟨Tryz.f327.name,by decide,Tryz.func327.trans (congrArg some (by kernel_rfl))⟩,
 f14:=⟨Tryz.f345.name,by decide,Tryz.func345.trans (congrArg some (by kernel_rfl))⟩,
 f15:=Tryz.func162.trans (congrArg some (by kernel_rfl)),
 f20:=⟨Tryz.f348.name,by decide,Tryz.func348.trans (congrArg some (by kernel_rfl))⟩,
 f21:=⟨Tryz.f349.name,by decide,Tryz.func349.trans (congrArg some (by kernel_rfl))⟩,
 f22:=⟨Tryz.f350.name,by decide,Tryz.func350.trans (congrArg some (by kernel_rfl))⟩,
 f23:=⟨Tryz.f351.name,by decide,Tryz.func351.trans (congrArg some (by kernel_rfl))⟩,
 f24:=⟨Tryz.f352.name,by decide,Tryz.func352.trans (congrArg some (by kernel_rfl))⟩,
 f25:=⟨Tryz.f353.name,by decide,Tryz.func353.trans (congrArg some (by kernel_rfl))⟩,
 f26:=⟨Tryz.f354.name,by decide,Tryz.func354.trans (congrArg some (by kernel_rfl))⟩,
 f27:=⟨Tryz.f355.name,by decide,Tryz.func355.trans (congrArg some (by kernel_rfl))⟩,
 f28:=Tryz.func219.trans (congrArg some (by kernel_rfl)),
 f29:=Tryz.func220.trans (congrArg some (by kernel_rfl)),
 f46:=⟨Tryz.f356.name,by decide,Tryz.func356.trans (congrArg some (by kernel_rfl))⟩,
 f47:=Tryz.func280.trans (congrArg some (by kernel_rfl)),
 f48:=Tryz.func281.trans (congrArg some (by kernel_rfl)),
 f49:=⟨Tryz.f357.name,by decide,Tryz.func357.trans (congrArg some (by kernel_rfl))⟩,
 f50:=⟨Tryz.f358.name,by decide,Tryz.func358.trans (congrArg some (by kernel_rfl))⟩,
 f57:=⟨Tryz.f359.name,by decide,Tryz.func359.trans (congrArg some (by kernel_rfl))⟩,
 t0:=Tryz.underlying0,
 a0:=Tryz.isAgg0,
 z0:=Tryz.sizeOf0,
 v0:=Tryz.zeroValue0,
 t3:=Tryz.underlying3,
 a3:=Tryz.isAgg3,
 z3:=Tryz.sizeOf3,
 v3:=Tryz.zeroValue3,
 t4:=Tryz.underlying4,
 a4:=Tryz.isAgg4,
 z4:=Tryz.sizeOf4,
 v4:=Tryz.zeroValue4,
 t5:=Tryz.underlying5,
 a5:=Tryz.isAgg5,
 z5:=Tryz.sizeOf5,
 v5:=Tryz.zeroValue5,
 t9:=Tryz.underlying9,
 a9:=Tryz.isAgg9,
 z9:=Tryz.sizeOf9,
 v9:=Tryz.zeroValue9,
 t22:=Tryz.underlying315,
 a22:=Tryz.isAgg315,
 z22:=Tryz.sizeOf315,
 v22:=Tryz.zeroValue315,
 t25:=Tryz.underlying400,
 a25:=Tryz.isAgg400,
 z25:=Tryz.sizeOf400,
 v25:=Tryz.zeroValue400,
 t39:=Tryz.underlying257,
 a39:=Tryz.isAgg257,
 z39:=Tryz.sizeOf257,
 v39:=Tryz.zeroValue257,
 t45:=Tryz.underlying298,
 a45:=Tryz.isAgg298,
 z45:=Tryz.sizeOf298,
 v45:=Tryz.zeroValue298,
 t46:=Tryz.underlying299,
 a46:=Tryz.isAgg299,
 z46:=Tryz.sizeOf299,
 v46:=Tryz.zeroValue299,
 t50:=Tryz.underlying229,
 a50:=Tryz.isAgg229,
 z50:=Tryz.sizeOf229,
 v50:=Tryz.zeroValue229,
 t53:=Tryz.underlying305,
 a53:=Tryz.isAgg305,
 z53:=Tryz.sizeOf305,
 v53:=Tryz.zeroValue305,
 t55:=Tryz.underlying307,
 a55:=Tryz.isAgg307,
 z55:=Tryz.sizeOf307,
 v55:=Tryz.zeroValue307,
 t66:=Tryz.underlying359,
 a66:=Tryz.isAgg359,
 z66:=Tryz.sizeOf359,
 v66:=Tryz.zeroValue359,
 t70:=Tryz.underlying363,
 a70:=Tryz.isAgg363,
 z70:=Tryz.sizeOf363,
 v70:=Tryz.zeroValue363,
 t76:=Tryz.underlying388,
 a76:=Tryz.isAgg388,
 z76:=Tryz.sizeOf388,
 v76:=Tryz.zeroValue388,
 t77:=Tryz.underlying77,
 a77:=Tryz.isAgg77,
 z77:=Tryz.sizeOf77,
 v77:=Tryz.zeroValue77}
section
open Go.Shelf Go.Lib Go.Sort
theorem wsort_w {w0 w:World} {L:List E.Item} (hw:Mem w0 L w) {j c:Nat} {A:Option Addr} {xs:List Wn} (hkj:L[j]?=some (wnRow A c xs)) (hn:xs.length≤1000000):
  Calls Tryz.prog 327 #[.slice A xs.length c, .func (.func 328) #[] #[]] w fun r w'=> ∃ys:{ys:List Wn//ys.Perm xs∧ys.Pairwise fun x y=>ltOf (fun x y:Wn=>cmpI x.lo y.lo) y x=false},r= .returned (.tuple #[])∧Mem w0 (L.set j (wnRow A c ys.1)) w':=
 sortNT sortWn 2 Tryz.isAgg153 Tryz.sizeOf153 Wn.cells (fun _=>rfl) (fun x v hv=>by simp [Wn.cells] at hv;rcases hv with rfl|rfl<;>rfl) _ 328 (swo_by (·.lo) _ (fun x y=>by unfold ltOf;exact cmpI_ltOf _ _)) Tryz.call328 wcmp_w hw hkj hn
theorem wsortN_w {w0 w:World} {L:List E.Item} (hw:Mem w0 L w) {j c n:Nat} {A:Option Addr} {xs:List Wn} (hl:xs.length=n) (hkj:L[j]?=some (wnRow A c xs)) (hn:n≤1000000):
  Calls Tryz.prog 327 #[.slice A n c, .func (.func 328) #[] #[]] w fun r w'=> ∃ys:{ys:List Wn//ys.Perm xs∧ys.Pairwise fun x y=>ltOf (fun x y:Wn=>cmpI x.lo y.lo) y x=false},r= .returned (.tuple #[])∧Mem w0 (L.set j (wnRow A c ys.1)) w':=by
 subst hl
 exact wsort_w hw hkj hn
theorem sorted_lo {ys:List Wn} (h:ys.Pairwise fun x y=>ltOf (fun x y:Wn=>cmpI x.lo y.lo) y x=false):ys.Pairwise fun x y=>x.lo≤y.lo:=h.imp fun {a b} hab=>by
 unfold ltOf at hab
 rw [cmpI_ltOf] at hab
 simpa using hab
end
theorem wcontains_w (A:Option Addr) (n c:Nat) (xs:List Wn) (w:World) (hx:WnsAt w A n xs):Calls Tryz.prog 324 #[.slice A n c, .func (.func 325) #[] #[]] w fun e w'=>e= .returned (.bool (xs.any fun x=>!wnOk x))∧Bel w w':=by
 refine H_enter Tryz.func324 rfl Tryz.ntmps324 rfl ?_
 iterate 9 refine G ?_
 refine xCX (en Tryz.call344 (ha2 (q0 rfl) (q0 rfl))) (fun w hw=>(windex_w A n c xs w (hx.mem hw)).mono fun r w' h=>(match h with|⟨⟨i,h1,h2⟩,hb⟩=>(⟨(⟨i,h2⟩:{i:Int//decide (0≤i)=xs.any fun x=>!wnOk x}),h1,mem_nil.2 hb⟩: ∃z:{i:Int//decide (0≤i)=xs.any fun x=>!wnOk x},r= .returned (.int .i64 z.1)∧Mem w [] w'))) rfl (fun _=>rfl) fun z=>?_
 iterate 5 refine G ?_
 exact ret1 (v:= .bool _) rfl rfl rfl fun w' hw=>⟨ret_bool (show decide (0≤z.1)=_ from z.2),hw.1⟩
end Go.Proofs.Far
namespace Go.Proofs.Far
open Go Go.RowKit Go.Proofs.E Go.Proofs.Cus
theorem WOk.any {l:List Wn} (h:WOk l):(l.any fun x=>!wnOk x)=false:=by
 rw [List.any_eq_false]
 intro x hx
 have:=h x hx
 have:wnOk x=true:=by unfold wnOk;simp;omega
 rw [this];decide
theorem WOk.perm {l m:List Wn} (h:WOk l) (hp:m.Perm l):WOk m:=fun x hx=>h x (hp.mem_iff.1 hx)
theorem merge_last {out:List Wn} {z x:Wn} (h:out[out.length -1]?=some z) (hx: ¬x.lo=x.hi) (hz:x.lo≤z.hi):mergeF out x=out.set (out.length -1) {z with hi:=max z.hi x.hi}:=by
 unfold mergeF
 rw [if_neg hx]
 rcases List.eq_nil_or_concat out with rfl|⟨l,q,rfl⟩
 ·cases h
 ·rw [List.concat_eq_append] at h⊢
  have hq:q=z:=by simpa using h
  subst hq
  rw [List.getLast?_append,List.getLast?_singleton]
  simp only [Option.some_or]
  rw [if_pos hz,List.dropLast_concat]
  simp
theorem merge_apart {out:List Wn} {z x:Wn} (h:out[out.length -1]?=some z) (hx: ¬x.lo=x.hi) (hz: ¬x.lo≤z.hi):mergeF out x=out++[x]:=by
 unfold mergeF
 rw [if_neg hx]
 rcases List.eq_nil_or_concat out with rfl|⟨l,q,rfl⟩
 ·cases h
 ·rw [List.concat_eq_append] at h⊢
  have hq:q=z:=by simpa using h
  subst hq
  rw [List.getLast?_append,List.getLast?_singleton]
  simp only [Option.some_or]
  rw [if_neg hz]
theorem merge_first {x:Wn} (hx: ¬x.lo=x.hi):mergeF [] x=[x]:=by
 unfold mergeF;rw [if_neg hx];rfl
theorem merge_none {out:List Wn} {x:Wn} (hx:x.lo=x.hi):mergeF out x=out:=by
 unfold mergeF;rw [if_pos hx]
def fm (l:List Wn) (k:Nat):List Wn:=(l.take k).foldl mergeF []
theorem fm_succ {l:List Wn} {k:Nat} {x:Wn} (h:l[k]?=some x):fm l (k+1)=mergeF (fm l k) x:=by
 unfold fm
 rw [snocT _ _ _ h,List.foldl_append];rfl
theorem fm_len (l:List Wn) (k:Nat):(fm l k).length≤k:=by
 have:=fold_len (l.take k) []
 unfold fm
 rw [List.length_take] at this
 simp only [List.length_nil,Nat.zero_add] at this
 omega
attribute [local irreducible] mergeF
theorem union_w (A:Option Addr) (n c:Nat) (xs:List Wn) (w:World) (hx:WnsAt w A n xs) (hn:n≤10000) (hv:WOk xs):Calls Tryz.prog 290 #[.slice A n c] w fun e w'=> ∃z:Option Addr×Nat,e= .returned (.tuple #[.slice z.1 (unionP xs).length z.2, .int .i64 0])∧Mem w [wnRow z.1 z.2 (unionP xs)] w':=by
 have hl:=hx.1
 refine H_enter Tryz.func290 rfl Tryz.ntmps290 rfl ?_
 iterate 10 refine G ?_
 refine X_eff (f_make (i:=Tryz.t153) (k:=2) (n:=n) (m:=n) Wn.cells (⟨0,0⟩:Wn) Tryz.underlying315 (by kernel_rfl) rfl rfl rfl rfl rfl ⟨⟨Nat.le_refl _,by omega⟩,by decide⟩ rfl fun b11=>?_)
 iterate 7 refine G ?_
 refine X_eff (f_copy (k:=2) (i:=Tryz.t153) (enc:=Wn.cells) 0 Tryz.underlying315 (by kernel_rfl) rfl (fun _=>rfl) (fun _=>rfl) rfl rfl rfl rfl (by simp) (fun w hw=>hx.mem hw) rfl ?_)
 iterate 6 refine G ?_
 refine xC (en Tryz.call324 (ha2 (q0 rfl) (q0 rfl))) (fun _ w hw=>wcontains_w (some ⟨b11,0,none⟩) n n xs w (hl▸slAt_row hw (j:=0) rfl (fun _=>rfl) (by omega))) rfl rfl ?_
 iterate 2 refine G ?_
 refine H_cond rfl ?_ ?_<;>intro h1
 ·exfalso;rw [hv.any] at h1;cases h1
 ·iterate 5 refine G ?_
  refine X_eff (f_callM (en Tryz.call327 (ha2 (q0 rfl) (q0 rfl))) (fun w hw=>wsortN_w hw (j:=0) hl rfl (by omega)) rfl (fun _=>rfl) fun s=>?_)
  obtain ⟨ys,hys,hso⟩:=s
  have hyn:normP ys=unionP xs:=norm_any hv.le hys (sorted_lo hso)
  have hyv:WOk ys:=hv.perm hys
  have hyl:ys.length=n:=by rw [hys.length_eq,hl]
  have hfull:fm ys n=unionP xs:=by rw [←hyn];unfold fm normP;rw [List.take_of_length_le (by omega)]
  iterate 3 refine G ?_
  refine H_mem (L':=[wnRow none 0 [],wnRow (some ⟨b11,0,none⟩) n ys]) (fun w hw=>hw.nilRow 153 2 Wn.cells rfl) rfl ?_
  iterate 13 refine G ?_
  refine H_loop [5,7,8,21,22,23,24,25,26,27,28,29,30,31,32,33,34,35,36,37,38,39,40,41,42,43,44,45,46,47,48,49,50,51,52,53,54,55,56,57,58,59,60,61,62,63] (fun q:Nat×Option Addr×Nat=>[(21, .int .i64 q.1),(5, .slice q.2.1 (fm ys q.1).length q.2.2)]) (fun q=>[wnRow q.2.1 q.2.2 (fm ys q.1),wnRow (some ⟨b11,0,none⟩) n ys]) (fun q=>q.1≤n) (fun q=>n -q.1) (0,none,0) ⟨rfl,rfl,trivial⟩ (fun w hw=>hw) rfl (Nat.zero_le _) ?_
  rintro ⟨k,oA,oc⟩ g hk
  simp only at hk
  iterate 6 refine G ?_
  refine H_cond rfl ?_ ?_<;>intro hlt
  ·have hlt':k<n:=by simpa using hlt
   obtain ⟨x,hxk⟩: ∃x,ys[k]?=some x:=⟨_,List.getElem?_eq_getElem (by omega)⟩
   have hfs:=fm_succ hxk
   have hfl:=fm_len ys k
   have hxv:=hyv x (List.mem_of_getElem? hxk)
   iterate 6 refine G ?_
   refine xV (e_idx k Tryz.underlying315 Tryz.sizeOf153 (q0 rfl) (q0 rfl) (fun _=>⟨rfl,by omega⟩)) rfl rfl ?_
   refine xV (e_lds (vs:=x.cells) Tryz.isAgg153 Tryz.sizeOf153 (q0 rfl) (rrs 1 rfl hxk) rfl) rfl rfl ?_
   refine X_alloc Tryz.zeroValue153 rfl fun b7=>?_
   refine X_st (v:= .agg _) rfl rfl Tryz.sizeOf153 ?_
   iterate 6 refine G ?_
   refine xV (e_sub (r:=((fm ys k).length:Int) -1) (q0 rfl) (q0 rfl) (fun _=>⟨rfl,by omega,by omega⟩)) rfl rfl ?_
   iterate 14 refine G ?_
   refine H_cond rfl ?_ ?_<;>intro h2
   ·have h2':x.lo=x.hi:=by simpa using h2
    iterate 8 refine G ?_
    refine loopJ_normal (k+1,oA,oc) agr ⟨rfl,by rw [hfs,merge_none h2'];rfl,trivial⟩ (fun w hw=>by rw [hfs,merge_none h2'];exact hw.tail) rfl (by show k+1≤n;omega) (by show n -(k+1)<n -k;omega)
   ·have h2': ¬x.lo=x.hi:=by simpa using h2
    rcases Nat.eq_zero_or_pos (fm ys k).length with h0|h0
    ·have h00:fm ys k=[]:=List.eq_nil_of_length_eq_zero h0
     rw [h00]
     rw [h00,merge_first h2'] at hfs
     refine G ?_
     refine R1 rfl (by decide+kernel) ?_
     iterate 3 refine G ?_
     refine xVT (e_dead (v:= .pointer none) (by decide)) rfl rfl rfl rfl ?_
     refine xVT (e_dead (v:= .int .i64 0) (by decide)) rfl rfl rfl rfl ?_
     refine xVT (e_dead (v:= .slice none 0 0) (by decide)) rfl rfl rfl rfl ?_
     refine xVT (e_dead (v:= .int .i64 0) (by decide)) rfl rfl rfl rfl ?_
     refine xVT (e_dead (v:= .pointer none) (by decide)) rfl rfl rfl rfl ?_
     refine xVT (e_dead (v:= .pointer none) (by decide)) rfl rfl rfl rfl ?_
     refine xVT (e_dead (v:= .int .i64 0) (by decide)) rfl rfl rfl rfl ?_
     refine xVT (e_dead (v:= .bool false) (by decide)) rfl rfl rfl rfl ?_
     iterate 4 refine G ?_
     refine H_cond rfl ?_ ?_<;>intro h3
     ·exfalso;simp at h3
     ·iterate 3 refine G ?_
      refine X_push (k:=2) (i:=Tryz.t153) 1 (x) Tryz.underlying315 (by kernel_rfl) rfl rfl rfl rfl Tryz.sizeOf153 Tryz.zeroValue153 rfl rfl rfl rfl rfl rfl ⟨by simp,by decide⟩ rfl rfl fun B0 A1 c1=>?_
      iterate 9 refine G ?_
      refine loopJ_normal (k+1,A1,c1) agr ⟨rfl,by rw [hfs];rfl,trivial⟩ (fun w hw=>by rw [hfs];exact hw.tail) rfl (by show k+1≤n;omega) (by show n -(k+1)<n -k;omega)
    ·obtain ⟨z,hz⟩: ∃z,(fm ys k)[(fm ys k).length -1]?=some z:=⟨_,List.getElem?_eq_getElem (by omega)⟩
     refine H_know (fun w hw=>rowT_at (j:=1) hw rfl h0) fun ⟨q,hq⟩=>?_
     subst hq
     refine G ?_
     refine R1 rfl (by decide+kernel) ?_
     iterate 7 refine G ?_
     refine xVT (e_idx ((fm ys k).length -1) Tryz.underlying315 Tryz.sizeOf153 (q1 rfl) (q1 rfl) (fun _=>⟨by first|omega|(simp only;omega),by first|omega|(simp only;omega)⟩)) rfl rfl rfl rfl ?_
     refine G ?_
     refine xVT (e_ld (v:= .int .i64 z.hi) Tryz.isAgg3 (q1 rfl) (rr (r:=1) 1 rfl hz rfl)) rfl rfl rfl rfl ?_
     iterate 5 refine G ?_
     refine H_cond rfl ?_ ?_<;>intro h3
     ·have h3':x.lo≤z.hi:=by simp at h3;omega
      refine E.RT rfl rfl (by decide+kernel) ?_
      iterate 4 refine G ?_
      refine xV (e_idx ((fm ys k).length -1) Tryz.underlying315 Tryz.sizeOf153 (q0 rfl) (q0 rfl) (fun _=>⟨by first|omega|(simp only;omega),by first|omega|(simp only;omega)⟩)) rfl rfl ?_
      refine G ?_
      refine xV (e_ld (v:= .int .i64 z.hi) Tryz.isAgg3 (q0 rfl) (rr (r:=1) 1 rfl hz rfl)) rfl rfl ?_
      iterate 2 refine G ?_
      refine xV (e_maxM (q0 rfl) (q0 rfl)) rfl rfl ?_
      refine xV (e_idx ((fm ys k).length -1) Tryz.underlying315 Tryz.sizeOf153 (q0 rfl) (q0 rfl) (fun _=>⟨by first|omega|(simp only;omega),by first|omega|(simp only;omega)⟩)) rfl rfl ?_
      iterate 3 refine G ?_
      refine X_eff (f_storeR 1 (i:=(fm ys k).length -1) (off:=1) {z with hi:=max z.hi x.hi} rfl rfl Tryz.sizeOf3 rfl rfl rfl hz rfl rfl ?_)
      iterate 8 refine G ?_
      refine loopJ_normal (k+1,_,oc) agr ⟨rfl,by rw [hfs,merge_last hz h2' h3',List.length_set];rfl,trivial⟩ (fun w hw=>by rw [hfs,merge_last hz h2' h3'];exact hw.tail) rfl (by show k+1≤n;omega) (by show n -(k+1)<n -k;omega)
     ·have h3': ¬x.lo≤z.hi:=by simp at h3;omega
      iterate 3 refine G ?_
      refine X_push (k:=2) (i:=Tryz.t153) 1 (x) Tryz.underlying315 (by kernel_rfl) rfl rfl rfl rfl Tryz.sizeOf153 Tryz.zeroValue153 rfl rfl rfl rfl rfl rfl ⟨by simp only;omega,by decide⟩ rfl rfl fun B0 A1 c1=>?_
      iterate 9 refine G ?_
      refine loopJ_normal (k+1,A1,c1) agr ⟨rfl,by rw [hfs,merge_apart hz h2' h3'];rfl,trivial⟩ (fun w hw=>by rw [hfs,merge_apart hz h2' h3'];exact hw.tail) rfl (by show k+1≤n;omega) (by show n -(k+1)<n -k;omega)
  ·have hend:k=n:=by simp at hlt;omega
   subst hend
   rw [hfull]
   iterate 13 refine G ?_
   exact ret2 (v:= .slice _ _ _) (x:= .int _ _) rfl rfl rfl rfl fun w' hw=>⟨(oA,oc),rfl,hw.pick [0] (by decide)⟩
end Go.Proofs.Far
namespace Go.Proofs.Far
open Go Go.RowKit Go.Proofs.E Go.Proofs.Cus
def bY (A:Option Addr):Nat:=(A.map (·.block)).getD 0
theorem yAt0 {w0 w:World} {L:List E.Item} {i c:Nat} {A:Option Addr} {ys:List Wn} (hw:Mem w0 L w) (hk:L[i]?=some (wnRow A c ys)):(0<ys.length→A=some ⟨bY A,0+0*2,none⟩)∧ys.length≤c:=by
 refine ⟨fun h=>?_,(rowT_cap hw hk).1⟩
 obtain ⟨b,rfl⟩:=rowT_at hw hk h
 rfl
theorem yCell {w0 w:World} {L:List E.Item} {i c j r:Nat} {A:Option Addr} {ys:List Wn} {y:Wn} {v:Value} (hw:Mem w0 L w) (hk:L[i]?=some (wnRow A c ys)) (hy:ys[j]?=some y) (hv:y.cells[r]?=some v):w.cell? ⟨bY A,0+j*2+r,none⟩=some v:=by
 obtain ⟨b,rfl⟩:=rowT_at hw hk (by have:=(List.getElem?_eq_some_iff.1 hy).1;omega)
 have:=row_cell (k:=2) (fun _=>rfl) hw hk hy hv
 rw [Nat.zero_add]
 exact this
theorem cut_at {b j c m:Nat} (h:j+1<m) (hc:m≤c):cutAddr (some ⟨b,0+j*2,none⟩) (c -j) 1 2=some ⟨b,0+(j+1)*2,none⟩:=by
 unfold cutAddr
 have: ¬c -j -1=0:=by omega
 have h2: ¬c -j=1:=by omega
 simp [this,h2,Addr.add,Nat.add_mul]
theorem both_w (A:Option Addr) (n c:Nat) (xs:List Wn) (B:Option Addr) (m d:Nat) (ys:List Wn) (w:World) (hx:WnsAt w A n xs) (hy:WnsAt w B m ys) (hn:n≤10000) (hm:m≤10000) (hxv:WOk xs) (hyv:WOk ys):Calls Tryz.prog 323 #[.slice A n c, .slice B m d] w fun e w'=> ∃z:(Option Addr×Nat)×(Option Addr×Nat),e= .returned (.tuple #[.slice z.1.1 (unionP xs).length z.1.2, .slice z.2.1 (unionP ys).length z.2.2, .int .i64 0])∧Mem w [wnRow z.2.1 z.2.2 (unionP ys),wnRow z.1.1 z.1.2 (unionP xs)] w':=by
 refine H_enter Tryz.func323 rfl Tryz.ntmps323 rfl ?_
 iterate 10 refine G ?_
 refine xCX (en Tryz.call290 (ha1 (q0 rfl))) (fun w hw=>union_w A n c xs w (hx.mem hw) hn hxv) rfl (fun _=>rfl) fun z1=>?_
 iterate 14 refine G ?_
 refine H_cond rfl ?_ ?_<;>intro h1
 ·exfalso;simp at h1
 ·iterate 5 refine G ?_
  refine xCX (en Tryz.call290 (ha1 (q0 rfl))) (fun w hw=>union_w B m d ys w (hy.mem hw) hm hyv) rfl (fun _=>rfl) fun z2=>?_
  iterate 14 refine G ?_
  refine H_cond rfl ?_ ?_<;>intro h2
  ·exfalso;simp at h2
  ·iterate 12 refine G ?_
   exact ret3 (v:= .slice _ _ _) (x:= .slice _ _ _) (z:= .int _ _) rfl rfl rfl rfl rfl fun w' hw=>⟨(z1,z2),rfl,hw⟩
def cT (x:Wn) (Y:List Wn) (i j:Nat):List Wn:=if i=0 then (Y.take j).flatMap (cut1 x) else Y.flatMap (cut1 x)
theorem cT_step {x y:Wn} {Y:List Wn} {j:Nat} (hy:Y[j]?=some y):cT x Y 0 (j+1)=cT x Y 0 j++cut1 x y:=by
 unfold cT
 rw [if_pos rfl,if_pos rfl,snocT _ _ _ hy,List.flatMap_append];simp
theorem cT_done {x y:Wn} {Y:List Wn} {j:Nat} (hY:Nf Y) (hy:Y[j]?=some y) (h:x.hi<y.hi):cT x Y 1 j=cT x Y 0 j++cut1 x y:=by
 rw [←cT_step hy]
 unfold cT
 rw [if_neg (by decide),if_pos rfl]
 conv=>lhs;rw [←List.take_append_drop (j+1) Y]
 rw [List.flatMap_append]
 have:(Y.drop (j+1)).flatMap (cut1 x)=[]:=by
  rw [List.flatMap_eq_nil_iff]
  intro q hq
  have hd:=(hY.drop j)
  rw [drop_at hy] at hd
  have h1:=(List.pairwise_cons.1 hd.apart).1 q hq
  unfold cut1
  rw [if_neg (by omega)]
 rw [this,List.append_nil]
theorem cT_len (x:Wn) (Y:List Wn) (i j:Nat):(cT x Y i j).length≤Y.length:=by
 have key: ∀l:List Wn,(l.flatMap (cut1 x)).length≤l.length:=by
  intro l
  induction l with
  |nil=>simp
  |cons a l ih=>
   rw [List.flatMap_cons,List.length_append,List.length_cons]
   have:(cut1 x a).length≤1:=by unfold cut1;split<;>simp
   omega
 unfold cT
 split
 ·have:=key (Y.take j);rw [List.length_take] at this;omega
 ·exact key Y
theorem common_one {x:Wn} (Y:List Wn) (h: ¬x.lo=x.hi):commonP x Y=Y.flatMap (cut1 x):=by
 unfold commonP one;rw [if_neg h];simp
theorem common_none {x:Wn} (Y:List Wn) (h:x.lo=x.hi):commonP x Y=[]:=by
 unfold commonP one;rw [if_pos h];rfl
attribute [local irreducible] cT
theorem common_w (A:Option Addr) (c:Nat) (x:Wn) (B:Option Addr) (m d:Nat) (ys:List Wn) (w:World) (hx:WnsAt w A 1 [x]) (hy:WnsAt w B m ys) (hm:m≤10000) (hxv:0≤x.lo∧x.lo≤x.hi∧x.hi≤4294944000) (hyv:WOk ys):Calls Tryz.prog 288 #[.slice A 1 c, .slice B m d] w fun e w'=> ∃z:Option Addr×Nat,e= .returned (.tuple #[.slice z.1 (commonP x (unionP ys)).length z.2, .int .i64 0])∧Mem w [wnRow z.1 z.2 (commonP x (unionP ys))] w':=by
 have hul:=union_len ys
 have hyl:=hy.1
 have hYn:=(union_nf hyv.le).1
 refine H_enter Tryz.func288 rfl Tryz.ntmps288 rfl ?_
 iterate 10 refine G ?_
 refine xCX (en Tryz.call323 (ha2 (q0 rfl) (q0 rfl))) (fun w hw=>both_w A 1 c [x] B m d ys w (hx.mem hw) (hy.mem hw) (by decide) hm (WOk.one hxv) hyv) rfl (fun _=>rfl) fun z=>?_
 rw [union_one]
 obtain ⟨⟨xA,xc⟩,⟨yA,yc⟩⟩:=z
 generalize hY:unionP ys=Y at*
 iterate 16 refine G ?_
 refine H_cond rfl ?_ ?_<;>intro h1
 ·exfalso;simp at h1
 ·iterate 3 refine G ?_
  refine H_know (fun w hw=>yAt0 hw (i:=0) rfl) fun ⟨hyA,hyc⟩=>?_
  refine H_know (fun w hw=>yAt0 hw (i:=1) rfl) fun ⟨hxA,hxc⟩=>?_
  refine H_mem (L':=[wnRow none 0 [],wnRow yA yc Y,wnRow xA xc (one x)]) (fun w hw=>hw.nilRow 153 2 Wn.cells rfl) rfl ?_
  iterate 6 refine G ?_
  refine H_loop [6,7,9,10,21,22,23,24,25,26,27,28,29,30,31,32,33,34,35,36,37,38,39,40,41,42,43,44,45,46,47,48,49,50,51,52,53,54,55,56,57,58,59,60,61,62,63,64,65,66,67,68,69] (fun q:Nat×Nat×Option Addr×Option Addr×Option Addr×Nat=>[(6, .slice q.2.2.1 ((one x).length -q.1) (xc -q.1)),(7, .slice q.2.2.2.1 (Y.length -q.2.1) (yc -q.2.1)),(9, .slice q.2.2.2.2.1 (cT x Y q.1 q.2.1).length q.2.2.2.2.2)]) (fun q=>[wnRow q.2.2.2.2.1 q.2.2.2.2.2 (cT x Y q.1 q.2.1),wnRow yA yc Y,wnRow xA xc (one x)]) (fun q=>(q.1≤(one x).length∧q.2.1≤Y.length)∧(q.1<(one x).length→q.2.2.1=some ⟨bY xA,0+q.1*2,none⟩)∧(q.2.1<Y.length→q.2.2.2.1=some ⟨bY yA,0+q.2.1*2,none⟩)∧(x.lo=x.hi→q.2.1=0)) (fun q=>((one x).length -q.1)+(Y.length -q.2.1)) (0,0,xA,yA,none,0) ⟨rfl,rfl,by unfold cT;rfl,trivial⟩ (fun w hw=>by unfold cT;exact hw) rfl ⟨⟨Nat.zero_le _,Nat.zero_le _⟩,hxA,hyA,fun _=>rfl⟩ ?_
  rintro ⟨i,j,aX,aY,oA,oc⟩ g ⟨⟨hi,hj⟩,hax,hay,hjz⟩
  simp only at hi hj hax hay hjz
  have hcl:=cT_len x Y i j
  iterate 13 refine G ?_
  refine H_cond rfl ?_ ?_<;>intro hlt
  ·have hlt':i<(one x).length∧j<Y.length:=by
    have h:(decide ((0:Int)<(((one x).length -i:Nat):Int))&&decide ((0:Int)<((Y.length -j:Nat):Int)))=true:=hlt
    simp at h;omega
   have hone:(one x).length=1∧one x=[x]∧x.lo≠x.hi:=by
    unfold one at hlt'⊢
    split at hlt'<;>rename_i he
    ·simp at hlt'
    ·rw [if_neg he];exact ⟨rfl,rfl,he⟩
   have hi0:i=0:=by omega
   subst hi0
   obtain ⟨y,hyj⟩: ∃y,Y[j]?=some y:=⟨_,List.getElem?_eq_getElem hlt'.2⟩
   have hax':=hax hlt'.1
   have hay':=hay hlt'.2
   subst hax' hay'
   have hxj:(one x)[0]?=some x:=by rw [hone.2.1];rfl
   have hst:=cT_step (x:=x) hyj
   have hdn:=cT_done (x:=x) hYn hyj
   iterate 4 refine G ?_
   refine RA rfl (by decide+kernel) ?_
   refine aW 0 ?_
   refine aV 1 (by decide+kernel) rfl (e_idx 0 Tryz.underlying315 Tryz.sizeOf153 (q0 rfl) (q0 rfl) (fun _=>⟨rfl,by show 0<(one x).length -0;omega⟩)) rfl ?_
   refine aW 2 ?_
   refine aV 3 (by decide+kernel) rfl (e_ld (v:= .int .i64 x.lo) Tryz.isAgg3 (q0 rfl) (fun _ w hw=>yCell (r:=0) hw (i:=2) rfl hxj rfl)) rfl ?_
   refine aW 4 ?_
   refine aV 5 (by decide+kernel) rfl (e_idx 0 Tryz.underlying315 Tryz.sizeOf153 (q0 rfl) (q0 rfl) (fun _=>⟨rfl,by show 0<Y.length -j;omega⟩)) rfl ?_
   refine aW 6 ?_
   refine aV 7 (by decide+kernel) rfl (e_ld (v:= .int .i64 y.lo) Tryz.isAgg3 (q0 rfl) (fun _ w hw=>yCell (r:=0) hw (i:=1) rfl hyj rfl)) rfl ?_
   refine aV 8 (by decide+kernel) rfl (e_maxM (q0 rfl) (q0 rfl)) rfl ?_
   refine aW 9 ?_
   refine aV 10 (by decide+kernel) rfl (e_idx 0 Tryz.underlying315 Tryz.sizeOf153 (q0 rfl) (q0 rfl) (fun _=>⟨rfl,by show 0<(one x).length -0;omega⟩)) rfl ?_
   refine aW 11 ?_
   refine aV 12 (by decide+kernel) rfl (e_ld (v:= .int .i64 x.hi) Tryz.isAgg3 (q0 rfl) (fun _ w hw=>yCell (r:=1) hw (i:=2) rfl hxj rfl)) rfl ?_
   refine aW 13 ?_
   refine aV 14 (by decide+kernel) rfl (e_idx 0 Tryz.underlying315 Tryz.sizeOf153 (q0 rfl) (q0 rfl) (fun _=>⟨rfl,by show 0<Y.length -j;omega⟩)) rfl ?_
   refine aW 15 ?_
   refine aV 16 (by decide+kernel) rfl (e_ld (v:= .int .i64 y.hi) Tryz.isAgg3 (q0 rfl) (fun _ w hw=>yCell (r:=1) hw (i:=1) rfl hyj rfl)) rfl ?_
   refine aV 17 (by decide+kernel) rfl (e_minM (q0 rfl) (q0 rfl)) rfl ?_
   refine aV 18 (by decide+kernel) rfl (e_build Tryz.underlying153 fl153 Tryz.zeroValue153 (pt (v:= .int _ _) rfl (pt (v:= .int _ _) rfl E.p0)) rfl) rfl ?_
   refine r1 19 0 ?_
   refine aL rfl (f_alloc Tryz.zeroValue153 rfl fun b10=>?_)
   refine r1 20 1 ?_
   refine aL rfl (f_st (v:= .agg _) rfl rfl Tryz.sizeOf153 ?_)
   refine aZ (by decide+kernel) (sub_drop 1) ?_
   iterate 11 refine G ?_
   refine H_cond rfl ?_ ?_<;>intro h3
   ·have h3':cut1 x y=[⟨max x.lo y.lo,min x.hi y.hi⟩]:=by
     have:max x.lo y.lo<min x.hi y.hi:=of_decide_eq_true h3
     unfold cut1;rw [if_pos this]
    rw [h3'] at hst hdn
    iterate 3 refine G ?_
    refine X_push (k:=2) (i:=Tryz.t153) 1 (⟨max x.lo y.lo,min x.hi y.hi⟩) Tryz.underlying315 (by kernel_rfl) rfl rfl rfl rfl Tryz.sizeOf153 Tryz.zeroValue153 rfl rfl rfl rfl rfl rfl ⟨by simp only;omega,by decide⟩ rfl rfl fun B0 A1 c1=>?_
    iterate 4 refine G ?_
    refine R1 rfl (by decide+kernel) ?_
    refine G ?_
    refine xV (e_idx 0 Tryz.underlying315 Tryz.sizeOf153 (q0 rfl) (q0 rfl) (fun _=>⟨rfl,by show 0<(one x).length -0;omega⟩)) rfl rfl ?_
    refine G ?_
    refine xV (e_ld (v:= .int .i64 x.hi) Tryz.isAgg3 (q0 rfl) (fun _ w hw=>yCell (r:=1) hw (i:=3) rfl hxj rfl)) rfl rfl ?_
    refine G ?_
    refine xV (e_idx 0 Tryz.underlying315 Tryz.sizeOf153 (q0 rfl) (q0 rfl) (fun _=>⟨rfl,by show 0<Y.length -j;omega⟩)) rfl rfl ?_
    refine G ?_
    refine xV (e_ld (v:= .int .i64 y.hi) Tryz.isAgg3 (q0 rfl) (fun _ w hw=>yCell (r:=1) hw (i:=2) rfl hyj rfl)) rfl rfl ?_
    iterate 3 refine G ?_
    refine H_cond rfl ?_ ?_<;>intro h4
    ·have h4':x.hi<y.hi:=of_decide_eq_true h4
     have hdn':=hdn h4'
     iterate 2 refine G ?_
     refine xV (e_slLoG 1 Tryz.underlying315 Tryz.sizeOf153 (q0 rfl) (q0 rfl) (fun _=>⟨rfl,by show 1≤(one x).length -0;omega⟩)) rfl rfl ?_
     iterate 3 refine G ?_
     refine loopJ_normal (1,j,cutAddr (some ⟨bY xA,0+0*2,none⟩) (xc -0) 1 2,some ⟨bY yA,0+j*2,none⟩,A1,c1) agr ⟨rfl,rfl,by rw [hdn'];rfl,trivial⟩ (fun w hw=>by rw [hdn'];exact hw.tail) rfl ⟨⟨by simp only;omega,by simp only;omega⟩,fun h=>by simp only at h;omega,fun _=>rfl,fun h=>absurd h hone.2.2⟩ (by simp only;omega)
    ·iterate 2 refine G ?_
     refine xV (e_slLoG 1 Tryz.underlying315 Tryz.sizeOf153 (q0 rfl) (q0 rfl) (fun _=>⟨rfl,by show 1≤Y.length -j;omega⟩)) rfl rfl ?_
     iterate 3 refine G ?_
     refine loopJ_normal (0,j+1,some ⟨bY xA,0+0*2,none⟩,cutAddr (some ⟨bY yA,0+j*2,none⟩) (yc -j) 1 2,A1,c1) agr ⟨rfl,rfl,by rw [hst];rfl,trivial⟩ (fun w hw=>by rw [hst];exact hw.tail) rfl ⟨⟨by simp only;omega,by simp only;omega⟩,fun _=>rfl,fun h=>cut_at h hyc,fun h=>absurd h hone.2.2⟩ (by simp only;omega)
   ·have h3':cut1 x y=[]:=by
     have: ¬max x.lo y.lo<min x.hi y.hi:=of_decide_eq_false h3
     unfold cut1;rw [if_neg this]
    rw [h3',List.append_nil] at hst hdn
    iterate 3 refine G ?_
    refine R1 rfl (by decide+kernel) ?_
    refine G ?_
    refine xV (e_idx 0 Tryz.underlying315 Tryz.sizeOf153 (q0 rfl) (q0 rfl) (fun _=>⟨rfl,by show 0<(one x).length -0;omega⟩)) rfl rfl ?_
    refine G ?_
    refine xV (e_ld (v:= .int .i64 x.hi) Tryz.isAgg3 (q0 rfl) (fun _ w hw=>yCell (r:=1) hw (i:=3) rfl hxj rfl)) rfl rfl ?_
    refine G ?_
    refine xV (e_idx 0 Tryz.underlying315 Tryz.sizeOf153 (q0 rfl) (q0 rfl) (fun _=>⟨rfl,by show 0<Y.length -j;omega⟩)) rfl rfl ?_
    refine G ?_
    refine xV (e_ld (v:= .int .i64 y.hi) Tryz.isAgg3 (q0 rfl) (fun _ w hw=>yCell (r:=1) hw (i:=2) rfl hyj rfl)) rfl rfl ?_
    iterate 3 refine G ?_
    refine H_cond rfl ?_ ?_<;>intro h4
    ·have h4':x.hi<y.hi:=of_decide_eq_true h4
     have hdn':=hdn h4'
     iterate 2 refine G ?_
     refine xV (e_slLoG 1 Tryz.underlying315 Tryz.sizeOf153 (q0 rfl) (q0 rfl) (fun _=>⟨rfl,by show 1≤(one x).length -0;omega⟩)) rfl rfl ?_
     iterate 3 refine G ?_
     refine loopJ_normal (1,j,cutAddr (some ⟨bY xA,0+0*2,none⟩) (xc -0) 1 2,some ⟨bY yA,0+j*2,none⟩,oA,oc) agr ⟨rfl,rfl,by rw [hdn'];rfl,trivial⟩ (fun w hw=>by rw [hdn'];exact hw.tail) rfl ⟨⟨by simp only;omega,by simp only;omega⟩,fun h=>by simp only at h;omega,fun _=>rfl,fun h=>absurd h hone.2.2⟩ (by simp only;omega)
    ·iterate 2 refine G ?_
     refine xV (e_slLoG 1 Tryz.underlying315 Tryz.sizeOf153 (q0 rfl) (q0 rfl) (fun _=>⟨rfl,by show 1≤Y.length -j;omega⟩)) rfl rfl ?_
     iterate 3 refine G ?_
     refine loopJ_normal (0,j+1,some ⟨bY xA,0+0*2,none⟩,cutAddr (some ⟨bY yA,0+j*2,none⟩) (yc -j) 1 2,oA,oc) agr ⟨rfl,rfl,by rw [hst];rfl,trivial⟩ (fun w hw=>by rw [hst];exact hw.tail) rfl ⟨⟨by simp only;omega,by simp only;omega⟩,fun _=>rfl,fun h=>cut_at h hyc,fun h=>absurd h hone.2.2⟩ (by simp only;omega)
  ·have hlt': ¬(i<(one x).length∧j<Y.length):=by
    have h:(decide ((0:Int)<(((one x).length -i:Nat):Int))&&decide ((0:Int)<((Y.length -j:Nat):Int)))=false:=hlt
    simp at h;omega
   have hend:cT x Y i j=commonP x Y:=by
    by_cases he:x.lo=x.hi
    ·have h0:(one x).length=0:=by unfold one;rw [if_pos he];rfl
     have hi0:i=0:=by omega
     rw [common_none Y he,hi0,hjz he]
     unfold cT;rfl
    ·have h0:(one x).length=1:=by unfold one;rw [if_neg he];rfl
     rw [common_one Y he]
     unfold cT
     split
     ·rw [List.take_of_length_le (by omega)]
     ·rfl
   rw [hend]
   iterate 13 refine G ?_
   exact ret2 (v:= .slice _ _ _) (x:= .int _ _) rfl rfl rfl rfl fun w' hw=>⟨(oA,oc),rfl,hw.pick [0] (by decide)⟩
end Go.Proofs.Far
namespace Go.Proofs.Far
open Go Go.RowKit Go.Proofs.E Go.Proofs.Cus
def mS (x:Wn) (Y:List Wn) (j i:Nat):List Wn×Int:=((Y.drop j).take i).foldl (mstep x) ([],x.lo)
theorem mS_zero (x:Wn) (Y:List Wn) (j:Nat):mS x Y j 0=([],x.lo):=rfl
theorem get_drop {Y:List Wn} {j i:Nat} {y:Wn} (h:Y[j+i]?=some y):(Y.drop j)[i]?=some y:=by rw [List.getElem?_drop];exact h
theorem mS_succ {x:Wn} {Y:List Wn} {j i:Nat} {y:Wn} (h:Y[j+i]?=some y):mS x Y j (i+1)=mstep x (mS x Y j i) y:=by
 unfold mS
 rw [snocT _ _ _ (get_drop h),List.foldl_append];rfl
theorem mS_skip {x:Wn} {Y:List Wn} {j:Nat} {y:Wn} (hY:Nf Y) (hj:Y[j]?=some y) (h:y.hi≤x.lo) (i:Nat):mS x Y j (i+1)=mS x Y (j+1) i:=by
 unfold mS
 rw [drop_at hj,List.take_succ_cons,List.foldl_cons,mstep_early (hY.pos y (List.mem_of_getElem? hj)) h]
theorem mS_all (x:Wn) (Y:List Wn) {j i:Nat} (h:Y.length≤j+i):mS x Y j i=(Y.drop j).foldl (mstep x) ([],x.lo):=by
 unfold mS
 rw [List.take_of_length_le (by rw [List.length_drop];omega)]
theorem mS_stop {x:Wn} {Y:List Wn} {j i:Nat} {y:Wn} (hY:Nf Y) (h:Y[j+i]?=some y) (hh:x.hi≤y.lo):mS x Y j i=(Y.drop j).foldl (mstep x) ([],x.lo):=by
 unfold mS
 conv=>rhs;rw [←List.take_append_drop i (Y.drop j)]
 rw [List.foldl_append]
 refine (mstep_late _ fun q hq=>?_).symm
 rw [List.drop_drop] at hq
 have hd:=hY.drop (j+i)
 rw [drop_at h] at hd hq
 rcases List.mem_cons.1 hq with rfl|hq
 ·exact hh
 ·have:=hd.ascend q hq;omega
theorem mS_len (x:Wn) (Y:List Wn) (j i:Nat):(mS x Y j i).1.length≤Y.length:=by
 unfold mS
 have:=mfold_len (w:=x) ((Y.drop j).take i) ([],x.lo)
 rw [List.length_take,List.length_drop] at this
 simp only [List.length_nil,Nat.zero_add] at this
 omega
theorem mS_WOk {x:Wn} (hx:0≤x.lo∧x.lo≤x.hi∧x.hi≤4294944000) {Y:List Wn} (hY:WOk Y) (j i:Nat):0≤(mS x Y j i).2∧(mS x Y j i).2≤4294944000:=
 (mfold_WOk hx _ ([],x.lo) (fun q hq=>hY q (List.mem_of_mem_drop (List.mem_of_mem_take hq))) ⟨WOk.nil,by simp only;omega,by simp only;omega⟩).2
theorem minus_one {x:Wn} (Y:List Wn) (h: ¬x.lo=x.hi):minusP x Y=minus1 x Y:=by
 unfold minusP one;rw [if_neg h];simp
theorem minus_none {x:Wn} (Y:List Wn) (h:x.lo=x.hi):minusP x Y=[]:=by
 unfold minusP one;rw [if_pos h];rfl
theorem minus1_eq {x:Wn} {Y:List Wn} {j i:Nat} (hE: ∀q,mS x Y 0 (j+q)=mS x Y j q) (h:mS x Y j i=(Y.drop j).foldl (mstep x) ([],x.lo)):minus1 x Y=mend x (mS x Y j i):=by
 unfold minus1
 congr 1
 rw [h,←mS_all x Y (j:=j) (i:=Y.length) (by omega),←hE,mS_all x Y (by omega)];rfl
theorem getD_at {Y:List Wn} {j:Nat} (h:j<Y.length):Y[j]?=some (Y.getD j default):=by rw [List.getD_eq_getElem?_getD,List.getElem?_eq_getElem h];rfl
theorem yCell2 {w0 w:World} {L:List E.Item} {k c j i r:Nat} {A:Option Addr} {ys:List Wn} {y:Wn} {v:Value} (hw:Mem w0 L w) (hk:L[k]?=some (wnRow A c ys)) (hy:ys[j+i]?=some y) (hv:y.cells[r]?=some v):w.cell? ⟨bY A,0+j*2+i*2+r,none⟩=some v:=by
 have:=yCell (r:=r) hw hk hy hv
 rw [show 0+j*2+i*2+r=0+(j+i)*2+r by omega]
 exact this
attribute [local irreducible] mS mstep
theorem minus_w (A:Option Addr) (c:Nat) (x:Wn) (B:Option Addr) (m d:Nat) (ys:List Wn) (w:World) (hx:WnsAt w A 1 [x]) (hy:WnsAt w B m ys) (hm:m≤10000) (hxv:0≤x.lo∧x.lo≤x.hi∧x.hi≤4294944000) (hyv:WOk ys):Calls Tryz.prog 286 #[.slice A 1 c, .slice B m d] w fun e w'=> ∃z:Option Addr×Nat,e= .returned (.tuple #[.slice z.1 (minusP x (unionP ys)).length z.2, .int .i64 0])∧Mem w [wnRow z.1 z.2 (minusP x (unionP ys))] w':=by
 have hul:=union_len ys
 have hyl:=hy.1
 have hYn:=(union_nf hyv.le).1
 have hYv:=union_WOk hyv
 refine H_enter Tryz.func286 rfl Tryz.ntmps286 rfl ?_
 iterate 10 refine G ?_
 refine xCX (en Tryz.call323 (ha2 (q0 rfl) (q0 rfl))) (fun w hw=>both_w A 1 c [x] B m d ys w (hx.mem hw) (hy.mem hw) (by decide) hm (WOk.one hxv) hyv) rfl (fun _=>rfl) fun z=>?_
 rw [union_one]
 obtain ⟨⟨xA,xc⟩,⟨yA,yc⟩⟩:=z
 generalize hY:unionP ys=Y at*
 iterate 16 refine G ?_
 refine H_cond rfl ?_ ?_<;>intro h1
 ·exfalso;simp at h1
 ·iterate 3 refine G ?_
  refine H_know (fun w hw=>yAt0 hw (i:=0) rfl) fun ⟨hyA,hyc⟩=>?_
  refine H_know (fun w hw=>yAt0 hw (i:=1) rfl) fun ⟨hxA,hxc⟩=>?_
  refine H_mem (L':=[wnRow none 0 [],wnRow yA yc Y,wnRow xA xc (one x)]) (fun w hw=>hw.nilRow 153 2 Wn.cells rfl) rfl ?_
  iterate 13 refine G ?_
  refine H_loop [7,9,11,12,14,27,28,29,30,31,32,33,34,35,36,37,38,39,40,41,42,43,44,45,46,47,48,49,50,51,52,53,54,55,56,57,58,59,60,61,62,63,64,65,66,67,68,69,70,71,72,73,74,75,76,77,78,79,80,81,82,83,84,85] (fun q:Nat×Value×Option Addr×Nat=>[(27, .int .i64 q.1),(7,q.2.1),(9, .slice q.2.2.1 (if q.1=0 then ([]:List Wn) else minusP x Y).length q.2.2.2)]) (fun q=>[wnRow q.2.2.1 q.2.2.2 (if q.1=0 then [] else minusP x Y),wnRow yA yc Y,wnRow xA xc (one x)]) (fun q=>q.1≤(one x).length∧(q.1=0→q.2.1= .slice yA Y.length yc)) (fun q=>(one x).length -q.1) (0, .slice yA Y.length yc,none,0) ⟨rfl,rfl,rfl,trivial⟩ (fun w hw=>hw) rfl ⟨Nat.zero_le _,fun _=>rfl⟩ ?_
  rintro ⟨k,yV,oA,oc⟩ g ⟨hk,hyV⟩
  simp only at hk hyV
  iterate 6 refine G ?_
  refine H_cond rfl ?_ ?_<;>intro hlt
  ·have hlt':k<(one x).length:=by
    have h:(k:Int)<((one x).length:Int):=of_decide_eq_true hlt
    omega
   have hone:(one x).length=1∧one x=[x]∧ ¬x.lo=x.hi:=by
    unfold one at hlt'⊢
    split at hlt'<;>rename_i he
    ·simp at hlt'
    ·rw [if_neg he];exact ⟨rfl,rfl,he⟩
   have hk0:k=0:=by omega
   subst hk0
   have hyV':=hyV rfl
   subst hyV'
   have hxA':=hxA (by omega)
   have hxj:(one x)[0]?=some x:=by rw [hone.2.1];rfl
   obtain ⟨xb,hxb⟩: ∃xb,xA=some ⟨xb,0,none⟩:=⟨_,hxA'⟩
   subst hxb
   clear hxA hxA'
   rw [if_pos (rfl:(0:Nat)=0)]
   iterate 6 refine G ?_
   refine xV (e_idx 0 Tryz.underlying315 Tryz.sizeOf153 (q0 rfl) (q0 rfl) (fun _=>⟨rfl,hlt'⟩)) rfl rfl ?_
   refine xV (e_lds (vs:=x.cells) Tryz.isAgg153 Tryz.sizeOf153 (q0 rfl) (rrs 2 rfl hxj) rfl) rfl rfl ?_
   refine X_alloc Tryz.zeroValue153 rfl fun b11=>?_
   refine X_st (v:= .agg _) rfl rfl Tryz.sizeOf153 ?_
   iterate 4 refine G ?_
   refine H_loop [7,31,32,33,34,35,36,37,38,39,40,41,42,43,44] (fun q:Nat×Option Addr=>[(7, .slice q.2 (Y.length -q.1) (yc -q.1))]) (fun q=>[box b11 153 x.cells,wnRow oA oc [],wnRow yA yc Y,wnRow (some ⟨xb,0,none⟩) xc (one x)]) (fun q=>q.1≤Y.length∧(q.1<Y.length→q.2=some ⟨bY yA,0+q.1*2,none⟩)∧(∀i,mS x Y 0 (q.1+i)=mS x Y q.1 i)) (fun q=>Y.length -q.1) (0,yA) ⟨rfl,trivial⟩ (fun w hw=>hw) rfl ⟨Nat.zero_le _,hyA,fun i=>by simp only [Nat.zero_add]⟩ ?_
   rintro ⟨j,aY⟩ g2 ⟨hj,hay,hE⟩
   simp only at hj hay hE
   iterate 2 refine G ?_
   refine R1 rfl (by decide+kernel) ?_
   iterate 5 refine G ?_
   refine xVT (e_idx (b:=bY yA) (o:=0+j*2) (n:=Y.length -j) (cp:=yc -j) 0 Tryz.underlying315 Tryz.sizeOf153 (fun hg=>by rw [←hay (by simp at hg;omega)];exact q1 rfl hg) (q0 rfl) (fun hg=>⟨rfl,by simp at hg;omega⟩)) rfl rfl rfl rfl ?_
   refine G ?_
   refine xVT (e_ld (v:= .int .i64 (Y.getD j default).hi) Tryz.isAgg3 (q1 rfl) (fun hg w hw=>yCell (r:=1) hw (i:=2) rfl (y:=Y.getD j default) (getD_at (by simp at hg;omega)) rfl)) rfl rfl rfl rfl ?_
   iterate 6 refine G ?_
   refine H_cond rfl ?_ ?_<;>intro h2
   ·have h2':j<Y.length∧(Y.getD j default).hi≤x.lo:=by
     have h:(decide ((0:Int)<((Y.length -j:Nat):Int))&&decide ((Y.getD j default).hi≤x.lo))=true:=h2
     simp only [Bool.and_eq_true,decide_eq_true_eq] at h
     exact ⟨by omega,h.2⟩
    obtain ⟨y,hyj⟩: ∃y,Y[j]?=some y:=⟨_,List.getElem?_eq_getElem h2'.1⟩
    have hyd:Y.getD j default=y:=by rw [List.getD_eq_getElem?_getD,hyj];rfl
    rw [hyd] at h2'
    have hay':=hay h2'.1
    subst hay'
    iterate 5 refine G ?_
    refine xV (e_slLoG 1 Tryz.underlying315 Tryz.sizeOf153 (q0 rfl) (q0 rfl) (fun _=>⟨rfl,by show 1≤Y.length -j;omega⟩)) rfl rfl ?_
    iterate 3 refine G ?_
    exact loopJ_normal (j+1,cutAddr (some ⟨bY yA,0+j*2,none⟩) (yc -j) 1 2) agr ⟨rfl,trivial⟩ (fun w hw=>hw) rfl ⟨by simp only;omega,fun h=>cut_at h hyc,fun i=>by
     simp only
     rw [←mS_skip hYn hyj h2'.2,←hE]
     congr 1;omega⟩ (by simp only;omega)
   ·iterate 20 refine G ?_
    refine H_cut [9,12,14,49,50,51,52,53,54,55,56,57,58,59,60,61,62,63,64,65,66,67,68,69,70,71,72,73] (fun q:Nat×Option Addr×Nat=>[(9, .slice q.2.1 (mS x Y j q.1).1.length q.2.2),(12, .int .i64 (mS x Y j q.1).2)]) (fun q=>[wnRow q.2.1 q.2.2 (mS x Y j q.1).1,box b11 153 x.cells,wnRow yA yc Y,wnRow (some ⟨xb,0,none⟩) xc (one x)]) (fun q=>mS x Y j q.1=(Y.drop j).foldl (mstep x) ([],x.lo)) ?_ ?_
    ·refine G ?_
     refine H_loop [9,12,14,49,50,51,52,53,54,55,56,57,58,59,60,61,62,63,64,65,66,67,68,69,70,71,72,73] (fun q:Nat×Option Addr×Nat=>[(49, .int .i64 q.1),(9, .slice q.2.1 (mS x Y j q.1).1.length q.2.2),(12, .int .i64 (mS x Y j q.1).2)]) (fun q=>[wnRow q.2.1 q.2.2 (mS x Y j q.1).1,box b11 153 x.cells,wnRow yA yc Y,wnRow (some ⟨xb,0,none⟩) xc (one x)]) (fun q=>q.1≤Y.length -j) (fun q=>(Y.length -j) -q.1) (0,oA,oc) ⟨rfl,by rw [mS_zero];rfl,by rw [mS_zero];rfl,trivial⟩ (fun w hw=>by rw [mS_zero];exact hw.mv1) rfl (Nat.zero_le _) ?_
     rintro ⟨i,pA,pc⟩ g3 hi
     simp only at hi
     iterate 6 refine G ?_
     refine H_cond rfl ?_ ?_<;>intro h3
     ·have h3':i<Y.length -j:=by
       have h:(i:Int)<((Y.length -j:Nat):Int):=of_decide_eq_true h3
       omega
      obtain ⟨y,hyj⟩: ∃y,Y[j+i]?=some y:=⟨_,List.getElem?_eq_getElem (by omega)⟩
      have hay':=hay (by omega)
      subst hay'
      have hms:=mS_succ (x:=x) hyj
      have hml:=mS_len x Y j i
      have hmw:=mS_WOk hxv hYv j i
      have hyw:=hYv y (List.mem_of_getElem? hyj)
      iterate 6 refine G ?_
      refine xV (e_idx i Tryz.underlying315 Tryz.sizeOf153 (q0 rfl) (q0 rfl) (fun _=>⟨rfl,h3'⟩)) rfl rfl ?_
      refine xV (e_lds (vs:=y.cells) Tryz.isAgg153 Tryz.sizeOf153 (q0 rfl) (fun _ w hw q u hu=>yCell2 (r:=q) hw (k:=2) rfl hyj hu) rfl) rfl rfl ?_
      refine X_alloc Tryz.zeroValue153 rfl fun b14=>?_
      refine X_st (v:= .agg _) rfl rfl Tryz.sizeOf153 ?_
      iterate 12 refine G ?_
      refine H_cond rfl ?_ ?_<;>intro h4
      ·have h4':x.hi≤y.lo:=of_decide_eq_true h4
       iterate 6 refine G ?_
       exact cutJ_normal (i,pA,pc) agr ⟨rfl,rfl,trivial⟩ (fun w hw=>hw.tail) rfl (mS_stop hYn hyj h4')
      ·have h4': ¬x.hi≤y.lo:=of_decide_eq_false h4
       unfold mstep at hms
       rw [if_neg h4'] at hms
       iterate 11 refine G ?_
       refine H_cond rfl ?_ ?_<;>intro h5
       ·have h5':(mS x Y j i).2<y.lo:=of_decide_eq_true h5
        rw [if_pos h5'] at hms
        iterate 5 refine G ?_
        refine xV (e_build Tryz.underlying153 fl153 Tryz.zeroValue153 (pt (v:= .int _ _) rfl (pt (v:= .int _ _) rfl E.p0)) rfl) rfl rfl ?_
        refine X_push (k:=2) (i:=Tryz.t153) 1 (⟨(mS x Y j i).2,y.lo⟩) Tryz.underlying315 (by kernel_rfl) rfl rfl rfl rfl Tryz.sizeOf153 Tryz.zeroValue153 rfl rfl rfl rfl rfl rfl ⟨by simp only;omega,by decide⟩ rfl rfl fun B0 A1 c1=>?_
        iterate 7 refine G ?_
        refine xV (e_maxM (q0 rfl) (q0 rfl)) rfl rfl ?_
        iterate 8 refine G ?_
        refine loopJ_normal (i+1,A1,c1) agr ⟨rfl,by rw [hms];rfl,by rw [hms];rfl,trivial⟩ (fun w hw=>by rw [hms];exact hw.tail) rfl (by simp only;omega) (by simp only;omega)
       ·have h5': ¬(mS x Y j i).2<y.lo:=of_decide_eq_false h5
        rw [if_neg h5'] at hms
        iterate 6 refine G ?_
        refine xV (e_maxM (q0 rfl) (q0 rfl)) rfl rfl ?_
        iterate 8 refine G ?_
        refine loopJ_normal (i+1,pA,pc) agr ⟨rfl,by rw [hms];rfl,by rw [hms];rfl,trivial⟩ (fun w hw=>by rw [hms];exact hw.tail) rfl (by simp only;omega) (by simp only;omega)
     ·have h3':i=Y.length -j:=by
       have h: ¬(i:Int)<((Y.length -j:Nat):Int):=of_decide_eq_false h3
       omega
      iterate 4 refine G ?_
      exact cutJ_normal (i,pA,pc) agr ⟨rfl,rfl,trivial⟩ (fun w hw=>hw) rfl (mS_all x Y (by simp only;omega))
    ·rintro ⟨i,pA,pc⟩ g4 hfull
     simp only at hfull
     have hml:=mS_len x Y j i
     have hfin:minusP x Y=mend x (mS x Y j i):=by rw [minus_one Y hone.2.2,minus1_eq hE hfull]
     iterate 9 refine G ?_
     refine H_cond rfl ?_ ?_<;>intro h6
     ·have h6':(mS x Y j i).2<x.hi:=of_decide_eq_true h6
      unfold mend at hfin
      rw [if_pos h6'] at hfin
      iterate 5 refine G ?_
      refine xV (e_build Tryz.underlying153 fl153 Tryz.zeroValue153 (pt (v:= .int _ _) rfl (pt (v:= .int _ _) rfl E.p0)) rfl) rfl rfl ?_
      refine X_push (k:=2) (i:=Tryz.t153) 0 (⟨(mS x Y j i).2,x.hi⟩) Tryz.underlying315 (by kernel_rfl) rfl rfl rfl rfl Tryz.sizeOf153 Tryz.zeroValue153 rfl rfl rfl rfl rfl rfl ⟨by simp only;omega,by decide⟩ rfl rfl fun B0 A1 c1=>?_
      iterate 8 refine G ?_
      exact loopJ_normal (1, .slice aY (Y.length -j) (yc -j),A1,c1) agr ⟨rfl,rfl,by rw [if_neg (show ¬(1:Nat)=0 by decide),hfin];rfl,trivial⟩ (fun w hw=>by rw [if_neg (show ¬(1:Nat)=0 by decide),hfin];exact hw.fr1.tail) rfl ⟨by simp only;omega,fun h=>by cases h⟩ (by simp only;omega)
     ·have h6': ¬(mS x Y j i).2<x.hi:=of_decide_eq_false h6
      unfold mend at hfin
      rw [if_neg h6'] at hfin
      iterate 7 refine G ?_
      exact loopJ_normal (1, .slice aY (Y.length -j) (yc -j),pA,pc) agr ⟨rfl,rfl,by rw [if_neg (show ¬(1:Nat)=0 by decide),hfin];rfl,trivial⟩ (fun w hw=>by rw [if_neg (show ¬(1:Nat)=0 by decide),hfin];exact hw.fr1.tail) rfl ⟨by simp only;omega,fun h=>by cases h⟩ (by simp only;omega)
  ·have hlt': ¬k<(one x).length:=by
    have h: ¬(k:Int)<((one x).length:Int):=of_decide_eq_false hlt
    omega
   have hend:(if k=0 then [] else minusP x Y)=minusP x Y:=by
    by_cases he:x.lo=x.hi
    ·rw [minus_none Y he];split<;>rfl
    ·have h0:(one x).length=1:=by unfold one;rw [if_neg he];rfl
     rw [if_neg (by omega)]
   rw [hend]
   iterate 13 refine G ?_
   exact ret2 (v:= .slice _ _ _) (x:= .int _ _) rfl rfl rfl rfl fun w' hw=>⟨(oA,oc),rfl,hw.pick [0] (by decide)⟩
def sT (l:List Wn) (k:Nat):Int:=sumW (l.take k)
theorem sT_succ {l:List Wn} {k:Nat} {x:Wn} (h:l[k]?=some x):sT l (k+1)=sT l k+(x.hi -x.lo):=by
 unfold sT sumW
 rw [snocT _ _ _ h,List.map_append,List.sum_append];simp
theorem sT_bound {l:List Wn} (h:WOk l) (hl:l.length≤10000): ∀k,k≤l.length→0≤sT l k∧sT l k≤4294944000*(k:Int)
 |0,_=>by unfold sT sumW;simp
 |k+1,hk=>by
  obtain ⟨x,hx⟩: ∃x,l[k]?=some x:=⟨_,List.getElem?_eq_getElem (by omega)⟩
  have ih:=sT_bound h hl k (by omega)
  have:=h x (List.mem_of_getElem? hx)
  rw [sT_succ hx]
  omega
attribute [local irreducible] sT
theorem length_w (A:Option Addr) (n c:Nat) (xs:List Wn) (w:World) (hx:WnsAt w A n xs) (hn:n≤10000) (hv:WOk xs):Calls Tryz.prog 229 #[.slice A n c] w fun e w'=>e= .returned (.tuple #[.int .i64 (lenP xs), .int .i64 0])∧Bel w w':=by
 have hl:=hx.1
 have hul:=union_len xs
 have hYv:=union_WOk hv
 refine H_enter Tryz.func229 rfl Tryz.ntmps229 rfl ?_
 iterate 9 refine G ?_
 refine xCX (en Tryz.call290 (ha1 (q0 rfl))) (fun w hw=>union_w A n c xs w (hx.mem hw) hn hv) rfl (fun _=>rfl) fun z=>?_
 have hlen:lenP xs=sT (unionP xs) (unionP xs).length:=by unfold lenP sT;rw [List.take_length]
 rw [hlen]
 generalize unionP xs=Y at*
 obtain ⟨yA,yc⟩:=z
 iterate 14 refine G ?_
 refine H_cond rfl ?_ ?_<;>intro h1
 ·exfalso;simp at h1
 ·iterate 16 refine G ?_
  refine H_loop [6,8,19,20,21,22,23,24,25,26,27,28,29,30] (fun k:Nat=>[(19, .int .i64 k),(6, .int .i64 (sT Y k))]) (fun _=>[wnRow yA yc Y]) (fun k=>k≤Y.length) (fun k=>Y.length -k) 0 ⟨rfl,by unfold sT;rfl,trivial⟩ (fun w hw=>hw) rfl (Nat.zero_le _) ?_
  rintro k g hk
  iterate 6 refine G ?_
  refine H_cond rfl ?_ ?_<;>intro hlt
  ·have hlt':k<Y.length:=by simpa using hlt
   obtain ⟨x,hxk⟩: ∃x,Y[k]?=some x:=⟨_,List.getElem?_eq_getElem hlt'⟩
   refine H_know (fun w hw=>rowT_at (j:=0) hw rfl (by omega)) fun ⟨q,hq⟩=>?_
   subst hq
   have hs:=sT_succ hxk
   have hb:=sT_bound hYv (by omega) k hk
   have hxw:=hYv x (List.mem_of_getElem? hxk)
   iterate 6 refine G ?_
   refine xV (e_idx k Tryz.underlying315 Tryz.sizeOf153 (q0 rfl) (q0 rfl) (fun _=>⟨rfl,hlt'⟩)) rfl rfl ?_
   refine xV (e_lds (vs:=x.cells) Tryz.isAgg153 Tryz.sizeOf153 (q0 rfl) (rrs 0 rfl hxk) rfl) rfl rfl ?_
   refine X_alloc Tryz.zeroValue153 rfl fun b8=>?_
   refine X_st (v:= .agg _) rfl rfl Tryz.sizeOf153 ?_
   iterate 8 refine G ?_
   refine xV (e_sub (r:=x.hi -x.lo) (q0 rfl) (q0 rfl) (fun _=>⟨rfl,by omega,by omega⟩)) rfl rfl ?_
   refine xV (e_add (r:=sT Y (k+1)) (q0 rfl) (q0 rfl) (fun _=>⟨by rw [hs],by omega,by omega⟩)) rfl rfl ?_
   iterate 8 refine G ?_
   exact loopJ_normal (k+1) agr ⟨rfl,rfl,trivial⟩ (fun w hw=>hw.tail) rfl (by show k+1≤Y.length;omega) (by show Y.length -(k+1)<Y.length -k;omega)
  ·have hend:k=Y.length:=by simp at hlt;omega
   subst hend
   iterate 13 refine G ?_
   exact ret2 (v:= .int _ _) (x:= .int _ _) rfl rfl rfl rfl fun w' hw=>⟨rfl,hw.1⟩
end Go.Proofs.Far
namespace Go.Proofs.E
open Go Go.RowKit
def bag (T:List Item):Item where
 fp:=fun b=> ∃it∈T,it.fp b
 A:=fun w=>(∀it∈T,it.A w)∧T.Pairwise (fun (x y:Item)=> ∀b,x.fp b→ ¬y.fp b)
 st:=fun w w' h hA=>⟨fun it hi=>it.st w w' (fun b hb=>h b ⟨it,hi,hb⟩) (hA.1 it hi),hA.2⟩
section
variable {w0 w:World} {T L M:List Item}
theorem Mem.bag (h:Mem w0 (T++L) w):Mem w0 (bag T::L) w:=by
 obtain ⟨h1,h2,h3,h4⟩:=h
 obtain ⟨p1,p2,p3⟩:=List.pairwise_append.1 h4
 refine ⟨h1,fun it hi=>?_,fun it hi b hb=>?_,List.pairwise_cons.2 ⟨fun y hy b hb hg=>?_,p2⟩⟩
 ·rcases List.mem_cons.1 hi with rfl|hi
  ·exact ⟨fun it hi=>h2 it (List.mem_append.2 (.inl hi)),p1⟩
  ·exact h2 it (List.mem_append.2 (.inr hi))
 ·rcases List.mem_cons.1 hi with rfl|hi
  ·obtain ⟨x,hx,hxb⟩:=hb
   exact h3 x (List.mem_append.2 (.inl hx)) b hxb
  ·exact h3 it (List.mem_append.2 (.inr hi)) b hb
 ·obtain ⟨x,hx,hxb⟩:=hb
  exact p3 x hx y hy b hxb hg
theorem Mem.unbag (h:Mem w0 (E.bag T::L) w):Mem w0 (T++L) w:=by
 obtain ⟨h1,h2,h3,h4⟩:=h
 obtain ⟨p1,p2⟩:=List.pairwise_cons.1 h4
 obtain ⟨a1,a2⟩:(E.bag T).A w:=h2 _ (List.mem_cons_self ..)
 refine ⟨h1,fun it hi=>?_,fun it hi b hb=>?_,List.pairwise_append.2 ⟨a2,p2,fun x hx y hy b hb hg=>?_⟩⟩
 ·rcases List.mem_append.1 hi with hi|hi
  ·exact a1 it hi
  ·exact h2 it (List.mem_cons_of_mem _ hi)
 ·rcases List.mem_append.1 hi with hi|hi
  ·exact h3 _ (List.mem_cons_self ..) b ⟨it,hi,hb⟩
  ·exact h3 it (List.mem_cons_of_mem _ hi) b hb
 ·exact p1 y hy b ⟨x,hx,hb⟩ hg
variable {α:Type} {f:α→List Item} {xs:List α} {k:Nat} {x y:α}
theorem Mem.apart (h:Mem w0 (E.bag (xs.flatMap f)::L) w) (hk:xs[k]?=some x):Mem w0 (f x++(E.bag ((xs.eraseIdx k).flatMap f)::L)) w:=by
 have h1:=h.unbag
 have h2:(xs.flatMap f).Perm (f x++(xs.eraseIdx k).flatMap f):=((erase_perm xs k x hk).symm.flatMap_right f)
 have h3:=h1.perm (List.Perm.append_right L h2.symm)
 rw [List.append_assoc] at h3
 have h4:=h3.perm (L':=(xs.eraseIdx k).flatMap f++(f x++L)) (List.perm_append_comm_assoc ..)
 have h5:=h4.bag
 exact h5.perm (List.perm_middle)
theorem Mem.joined (h:Mem w0 (f y++(E.bag ((xs.eraseIdx k).flatMap f)::L)) w) (hk:k<xs.length):Mem w0 (E.bag ((xs.set k y).flatMap f)::L) w:=by
 have h5:=h.perm (L':=E.bag ((xs.eraseIdx k).flatMap f)::(f y++L)) (List.perm_middle.symm)
 have h4:=h5.unbag
 have h3:=h4.perm (L':=f y++((xs.eraseIdx k).flatMap f++L)) (List.perm_append_comm_assoc ..)
 rw [←List.append_assoc] at h3
 have h2:((xs.set k y).flatMap f).Perm (f y++(xs.eraseIdx k).flatMap f):=((set_perm xs k y hk).flatMap_right f)
 exact (h3.perm (List.Perm.append_right L h2)).bag
theorem Mem.pushed (h:Mem w0 (f y++(E.bag (xs.flatMap f)::L)) w):Mem w0 (E.bag ((xs++[y]).flatMap f)::L) w:=by
 have h5:=h.perm (L':=E.bag (xs.flatMap f)::(f y++L)) (List.perm_middle.symm)
 have h4:=h5.unbag
 rw [←List.append_assoc] at h4
 have e:(xs++[y]).flatMap f=xs.flatMap f++f y:=by simp
 rw [←e] at h4
 exact h4.bag
theorem Mem.noBag (h:Mem w0 L w):Mem w0 (E.bag (([]:List α).flatMap f)::L) w:=Mem.bag (T:=[]) h
theorem range_drop: ∀(k n:Nat),n+k=M.length→(List.range' n k).filterMap (M[·]?)=M.drop n
 |0,n,h=>by rw [List.drop_of_length_le (by omega)];rfl
 |k+1,n,h=>by
  have hn:n<M.length:=by omega
  rw [List.range'_succ,List.filterMap_cons,List.getElem?_eq_getElem hn]
  simp only
  rw [range_drop k (n+1) (by omega),List.drop_eq_getElem_cons hn]
theorem Mem.pickN (h:Mem w0 M w) (n:Nat) (idx:List Nat) (hn:idx.Nodup) (hi:idx.all (fun i=>Nat.blt i n)=true):Mem w0 (idx.filterMap (M[·]?)++M.drop n) w:=by
 have hi': ∀i∈idx,i<n:=fun i hx=>by simpa using List.all_eq_true.1 hi i hx
 rcases Nat.lt_or_ge M.length n with hl|hl
 ·rw [List.drop_of_length_le (by omega),List.append_nil];exact h.pick idx hn
 ·have h1:=h.pick (idx++List.range' n (M.length -n)) (List.nodup_append.2 ⟨hn,List.nodup_range',fun a ha b hb e=>by
   have:=hi' a ha
   have:=List.mem_range'_1.1 hb
   omega⟩)
  rw [List.filterMap_append,range_drop _ _ (by omega)] at h1
  exact h1
theorem rowT_same {e:TypeId} {n c:Nat} {enc:α→List Value} {A:Option Addr} (hk:xs[k]?=some x) (h:enc y=enc x):rowT e n enc A c (xs.set k y)=rowT e n enc A c xs:=by
 have hf:(xs.set k y).flatMap enc=xs.flatMap enc:=by
  have hm:(xs.set k y).map enc=xs.map enc:=by
   rw [List.map_set,h]
   obtain ⟨h1,h2⟩:=List.getElem?_eq_some_iff.1 hk
   rw [←h2]
   apply List.ext_getElem?
   intro i
   rw [List.getElem?_set]
   split
   ·rename_i hi
    subst hi
    simp [h1]
   ·rfl
  rw [List.flatMap_def,List.flatMap_def,hm]
 unfold rowT
 simp only [hf,List.length_set]
theorem Mem.boxRow {e:TypeId} {n b j:Nat} {enc:α→List Value} (h:Mem w0 M w) (hk:M[j]?=some (box b e (xs.flatMap enc))) (he: ∀x,(enc x).length=n) (hl:xs.length≤1000000):Mem w0 (M.set j (rowT e n enc (some ⟨b,0,none⟩) xs.length xs)) w:=by
 refine h.swap hk (fun x hx=>?_) ?_
 ·simp [rowT] at hx;exact hx.symm
 ·have hA:w.heap[b]?=some (.cells (xs.flatMap enc).toArray e (0,0)):=h.item hk
  refine rowT_close he hA ⟨Nat.le_refl _,by unfold maxLen;omega,?_,[],by simp⟩
  exact (flat_len he xs)
end
end Go.Proofs.E
