import Derived.Test.YtakhechhnnjbcaaGreatBN16
import Derived.Test.YtakhechhnnjbcaaGreatBN05
import Derived.Test.YtakhechhnnjbcaaGreatBN15
import Derived.Test.YtakhechhnnjbcaaGreatBN13
import Derived.Test.YtakhechhnnjbcaaGreatBN04
import Derived.Test.YtakhechhnnjbcaaGreatTy
set_option maxRecDepth 100000
set_option maxHeartbeats 8000000
set_option linter.unusedVariables false
set_option linter.unusedSimpArgs false
namespace Go.Proofs.Far
open Go Go.RowKit Go.Proofs.E Go.Proofs.Cus Go.Proofs.Rid
def rideCmp (a b:Rd):Int:=orI [cmpI a.start.lo b.start.lo,cmpI a.end_.lo b.end_.lo,cmpI a.id b.id]
def rideLt (a b:Rd):Bool:=decide (a.start.lo<b.start.lo∨(a.start.lo=b.start.lo∧(a.end_.lo<b.end_.lo∨(a.end_.lo=b.end_.lo∧a.id<b.id))))
theorem cmpI_cases (a b:Int):(a<b∧cmpI a b= -1)∨(a=b∧cmpI a b=0)∨(b<a∧cmpI a b=1):=by
 unfold cmpI
 rcases Int.lt_trichotomy a b with h|h|h
 ·exact .inl ⟨h,if_pos h⟩
 ·exact .inr (.inl ⟨h,by rw [if_neg (by omega),if_neg (by omega)]⟩)
 ·exact .inr (.inr ⟨h,by rw [if_neg (by omega),if_pos h]⟩)
theorem rideCmp_lt (a b:Rd):decide (rideCmp a b<0)=rideLt a b:=by
 unfold rideCmp rideLt orI
 rcases cmpI_cases a.start.lo b.start.lo with ⟨h1,e1⟩|⟨h1,e1⟩|⟨h1,e1⟩
 ·rw [e1]
  simp [h1]
 ·rw [e1]
  rcases cmpI_cases a.end_.lo b.end_.lo with ⟨h2,e2⟩|⟨h2,e2⟩|⟨h2,e2⟩
  ·rw [e2];simp [h1,h2]
  ·rw [e2]
   rcases cmpI_cases a.id b.id with ⟨h3,e3⟩|⟨h3,e3⟩|⟨h3,e3⟩
   ·rw [e3];simp [h1,h2,h3]
   ·rw [e3];simp [h1,h2,h3]
   ·rw [e3]
    have: ¬a.id<b.id:=by omega
    simp [h1,h2,this]
  ·rw [e2]
   have h4: ¬a.end_.lo<b.end_.lo:=by omega
   have h5: ¬a.end_.lo=b.end_.lo:=by omega
   simp [h1,h4,h5]
 ·rw [e1]
  have h4: ¬a.start.lo<b.start.lo:=by omega
  have h5: ¬a.start.lo=b.start.lo:=by omega
  simp [h4,h5]
section
open Go.Shelf Go.Lib Go.Sort
theorem swo_ride {α:Type} (f:α→Rd) (cf:α→α→Int) (h: ∀x y,ltOf cf x y=rideLt (f x) (f y)):SWO (ltOf cf) where
 irrefl x:=by rw [h];unfold rideLt;simp
 trans x y z h1 h2:=by rw [h] at*;unfold rideLt at*;simp only [decide_eq_true_eq] at*;omega
 ntrans x y z h1 h2:=by rw [h] at*;unfold rideLt at*;simp only [decide_eq_false_iff_not] at*;omega
theorem one_flat {α:Type} [Inhabited α] (enc:α→Value) (d:Array α):flatK (fun x=>[enc x]) 1 d=d.map enc:=by
 apply Array.ext
 ·simp [flatK]
 ·intro i h1 h2
  have hi:i<d.size:=by simpa using h2
  simp [flatK,Nat.mod_one,hi]
theorem sortWorld_one {α:Type} [Inhabited α] (enc:α→Value) (w:World) (blk off m:Nat) (dk:Array α) (os:Array Obj):sortWorld enc w blk off m dk os=sortWorldK (fun x=>[enc x]) 1 w blk off m dk os:=by
 unfold sortWorld sortWorldK putRowK putRow
 congr 2
 funext c
 unfold putCells
 congr 1
 funext k x
 rw [one_flat]
 simp only [Array.size_map,id]
 by_cases h:off≤k∧k<off+dk.size
 ·rw [if_pos h,if_pos h,getElem!_pos dk (k -off) (by omega),getElem!_pos (dk.map enc) (k -off) (by simp;omega)]
  simp
 ·rw [if_neg h,if_neg h]
end
theorem use1_w (A:Option Addr) (n c:Nat) (rs:List RX) (i k:Nat) (x y:RX) (b:Nat) (w:World) (hb:RowAt w b 0 [.slice A n c]) (hbl:b<w.heap.size) (hx:RdsAt w A n rs) (hi:rs[i]?=some x) (hk:rs[k]?=some y):
  Calls Tryz.prog 222 #[.int .i64 i, .int .i64 k, .pointer (some ⟨b,0,none⟩)] w fun e w'=>e= .returned (.int .i64 (rideCmp x.r y.r))∧Bel w w':=by
 have hn:=hx.1.1
 have hin:i<n:=by have:=(List.getElem?_eq_some_iff.1 hi).1;omega
 have hkn:k<n:=by have:=(List.getElem?_eq_some_iff.1 hk).1;omega
 obtain ⟨rb,off,x',rfl,hrbl,hx',hrx⟩:=hx.1.at_ hin
 rw [hi] at hx'
 cases hx'
 obtain ⟨y',hy',hry⟩:=hx.1.row hkn
 rw [hk] at hy'
 cases hy'
 refine H_enter Tryz.func222 rfl Tryz.ntmps222 rfl ?_
 iterate 6 refine G ?_
 refine H_cut [6,7,8,9,10,11,12,13,14,15] (fun z:Nat×Nat=>[(6, .pointer (some ⟨z.1,0,none⟩)),(7, .pointer (some ⟨z.2,0,none⟩))]) (fun z=>[box z.1 191 x.cells,box z.2 191 y.cells]) (fun _=>True) ?_ ?_
 ·refine RA rfl (by decide+kernel) ?_
  refine aV 0 (by decide+kernel) rfl (e_ld (v:= .slice (some ⟨rb,off,none⟩) n c) Tryz.isAgg135 (q0 rfl) (rc0 hb hbl rfl)) rfl ?_
  refine aW 1 ?_
  refine aV 2 (by decide+kernel) rfl (e_idx i Tryz.underlying135 Tryz.sizeOf191 (q0 rfl) (q0 rfl) (fun _=>⟨rfl,hin⟩)) rfl ?_
  refine aV 3 (by decide+kernel) rfl (e_lds (vs:=x.cells) Tryz.isAgg191 Tryz.sizeOf191 (q0 rfl) (rcs hrx hrbl) rfl) rfl ?_
  refine aV 4 (by decide+kernel) rfl (e_ld (v:= .slice (some ⟨rb,off,none⟩) n c) Tryz.isAgg135 (q0 rfl) (rc0 hb hbl rfl)) rfl ?_
  refine aW 5 ?_
  refine aV 6 (by decide+kernel) rfl (e_idx k Tryz.underlying135 Tryz.sizeOf191 (q0 rfl) (q0 rfl) (fun _=>⟨rfl,hkn⟩)) rfl ?_
  refine aV 7 (by decide+kernel) rfl (e_lds (vs:=y.cells) Tryz.isAgg191 Tryz.sizeOf191 (q0 rfl) (rcs hry hrbl) rfl) rfl ?_
  refine rdy2 (i:=8) (j:=9) (by decide+kernel) (sub_drop 0) ?_ ?_
  ·refine aL rfl (f_alloc Tryz.zeroValue191 rfl fun b6=>?_)
   refine r1 9 1 ?_
   refine aL rfl (f_alloc Tryz.zeroValue191 rfl fun b7=>?_)
   refine aI 1 ?_
   refine r1 10 2 ?_
   refine aL rfl (f_st (v:= .agg _) rfl rfl Tryz.sizeOf191 ?_)
   refine r1 11 2 ?_
   refine aL rfl (f_st (v:= .agg _) rfl rfl Tryz.sizeOf191 ?_)
   refine aZ (by decide+kernel) (sub_drop 2) ?_
   exact cutJ_normal ((b6,b7):Nat×Nat) agr ⟨rfl,rfl,trivial⟩ (fun w hw=>hw) rfl trivial
  ·refine aL rfl (f_alloc Tryz.zeroValue191 rfl fun b7=>?_)
   refine r1 8 1 ?_
   refine aL rfl (f_alloc Tryz.zeroValue191 rfl fun b6=>?_)
   refine r1 10 2 ?_
   refine aL rfl (f_st (v:= .agg _) rfl rfl Tryz.sizeOf191 ?_)
   refine r1 11 2 ?_
   refine aL rfl (f_st (v:= .agg _) rfl rfl Tryz.sizeOf191 ?_)
   refine aZ (by decide+kernel) (sub_drop 2) ?_
   exact cutJ_normal ((b6,b7):Nat×Nat) agr ⟨rfl,rfl,trivial⟩ (fun w hw=>hw) rfl trivial
 ·rintro ⟨b6,b7⟩ g5 _
  iterate 2 refine G ?_
  refine RA rfl (by decide+kernel) ?_
  refine aW 0 ?_
  refine aW 1 ?_
  refine aW 2 ?_
  refine aW 3 ?_
  refine aW 4 ?_
  refine aW 5 ?_
  refine aW 7 ?_
  refine aW 8 ?_
  refine aW 9 ?_
  refine aW 10 ?_
  refine aW 11 ?_
  refine aW 12 ?_
  refine aW 14 ?_
  refine aW 15 ?_
  refine aW 16 ?_
  refine aW 17 ?_
  refine aC 6 (by decide+kernel) rfl (en Tryz.call104 (ha2 (q0 rfl) (q0 rfl))) (fun _ w _=>compare_w x.r.start.lo y.r.start.lo w) rfl ?_
  refine aC 13 (by decide+kernel) rfl (en Tryz.call104 (ha2 (q0 rfl) (q0 rfl))) (fun _ w _=>compare_w x.r.end_.lo y.r.end_.lo w) rfl ?_
  refine aC 18 (by decide+kernel) rfl (en Tryz.call104 (ha2 (q0 rfl) (q0 rfl))) (fun _ w _=>compare_w x.r.id y.r.id w) rfl ?_
  refine r1 19 0 ?_
  refine aL rfl (f_slit [(.int .i64 0),(.int .i64 0),(.int .i64 0)] Tryz.underlying22 Tryz.sizeOf3 Tryz.zeroValue3 rfl (by kernel_rfl) (pt (v:= .int _ _) rfl (pt (v:= .int _ _) rfl (pt (v:= .int _ _) rfl E.p0))) rfl rfl fun b35=>?_)
  refine aRL (sub_drop 1) ?_
  refine aC 20 (by decide+kernel) rfl (en Tryz.call109 (ha1 (q0 rfl))) (fun _ w hm=>or_w _ 3 3 [cmpI x.r.start.lo y.r.start.lo,cmpI x.r.end_.lo y.r.end_.lo,cmpI x.r.id y.r.id] w (slAt_box (enc:=encInt) hm (j:=0) rfl (fun _=>rfl) (by simp))) rfl ?_
  refine aW 21 ?_
  refine aZ (by decide+kernel) (sub_drop 0) ?_
  iterate 2 refine G ?_
  exact ret1 (v:= .int _ _) rfl rfl rfl fun w' hw=>⟨rfl,hw.1⟩
end Go.Proofs.Far
namespace Go.Proofs.Far
open Go Go.RowKit Go.Proofs.E Go.Proofs.Cus Go.Proofs.Rid
def sortIn_ren:Go.Shelf.Ren:=⟨fun|6=>221|15=>162|14=>284|28=>219|29=>220|20=>314|21=>315|22=>316|23=>317|24=>318|25=>319|26=>320|27=>321|46=>341|47=>280|48=>281|49=>342|50=>343|57=>347|n=>n,fun|22=>22|24=>3|25=>114|3=>3|39=>257|0=>0|53=>305|55=>307|4=>4|46=>299|45=>298|50=>229|5=>5|9=>9|66=>359|70=>363|76=>388|77=>77|n=>n,fun|n=>n⟩
theorem sortIn:Go.Proofs.SlLaysF.n6 Tryz.prog sortIn_ren:={
 mixed:=by kernel_rfl,
 f6:=⟨Tryz.f221.name,by decide,Tryz.func221.trans (congrArg some (by kernel_rfl))⟩,
 f14:=⟨Tryz.f284.name,by decide,Tryz.func284.trans (congrArg some (by kernel_rfl))⟩,
 f15:=Tryz.func162.trans (congrArg some (by kernel_rfl)),
 f20:=⟨Tryz.f314.name,by decide,Tryz.func314.trans (congrArg some (by kernel_rfl))⟩,
 f21:=⟨Tryz.f315.name,by decide,Tryz.func315.trans (congrArg some (by kernel_rfl))⟩,
 f22:=⟨Tryz.f316.name,by decide,Tryz.func316.trans (congrArg some (by kernel_rfl))⟩,
 f23:=⟨Tryz.f317.name,by decide,Tryz.func317.trans (congrArg some (by kernel_rfl))⟩,
 f24:=⟨Tryz.f318.name,by decide,Tryz.func318.trans (congrArg some (by kernel_rfl))⟩,
 f25:=⟨Tryz.f319.name,by decide,Tryz.func319.trans (congrArg some (by kernel_rfl))⟩,
 f26:=⟨Tryz.f320.name,by decide,Tryz.func320.trans (congrArg some (by kernel_rfl))⟩,
 f27:=⟨Tryz.f321.name,by decide,Tryz.func321.trans (congrArg some (by kernel_rfl))⟩,
 f28:=Tryz.func219.trans (congrArg some (by kernel_rfl)),
 f29:=Tryz.func220.trans (congrArg some (by kernel_rfl)),
 f46:=⟨Tryz.f341.name,by decide,Tryz.func341.trans (congrArg some (by kernel_rfl))⟩,
 f47:=Tryz.func280.trans (congrArg some (by kernel_rfl)),
 f48:=Tryz.func281.trans (congrArg some (by kernel_rfl)),
 f49:=⟨Tryz.f342.name,by decide,Tryz.func342.trans (congrArg some (by kernel_rfl))⟩,
 f50:=⟨Tryz.f343.name,by decide,Tryz.func343.trans (congrArg some (by kernel_rfl))⟩,
 f57:=⟨Tryz.f347.name,by decide,Tryz.func347.trans (congrArg some (by kernel_rfl))⟩,
 t0:=Tryz.underlying0,
 a0:=Tryz.isAgg0,
 z0:=Tryz.sizeOf0,
 v0:=Tryz.zeroValue0,
 t3:=Tryz.underlying3,
 a3:=Tryz.isAgg3,
 z3:=Tryz.sizeOf3,
 v3:=Tryz.zeroValue3,
 t4:=Tryz.underlying4,
 a4:=Tryz.isAgg4,
 z4:=Tryz.sizeOf4,
 v4:=Tryz.zeroValue4,
 t5:=Tryz.underlying5,
 a5:=Tryz.isAgg5,
 z5:=Tryz.sizeOf5,
 v5:=Tryz.zeroValue5,
 t9:=Tryz.underlying9,
 a9:=Tryz.isAgg9,
 z9:=Tryz.sizeOf9,
 v9:=Tryz.zeroValue9,
 t22:=Tryz.underlying22,
 a22:=Tryz.isAgg22,
 z22:=Tryz.sizeOf22,
 v22:=Tryz.zeroValue22,
 a24:=Tryz.isAgg3,
 z24:=Tryz.sizeOf3,
 t25:=Tryz.underlying114,
 a25:=Tryz.isAgg114,
 z25:=Tryz.sizeOf114,
 v25:=Tryz.zeroValue114,
 t39:=Tryz.underlying257,
 a39:=Tryz.isAgg257,
 z39:=Tryz.sizeOf257,
 v39:=Tryz.zeroValue257,
 t45:=Tryz.underlying298,
 a45:=Tryz.isAgg298,
 z45:=Tryz.sizeOf298,
 v45:=Tryz.zeroValue298,
 t46:=Tryz.underlying299,
 a46:=Tryz.isAgg299,
 z46:=Tryz.sizeOf299,
 v46:=Tryz.zeroValue299,
 t50:=Tryz.underlying229,
 a50:=Tryz.isAgg229,
 z50:=Tryz.sizeOf229,
 v50:=Tryz.zeroValue229,
 t53:=Tryz.underlying305,
 a53:=Tryz.isAgg305,
 z53:=Tryz.sizeOf305,
 v53:=Tryz.zeroValue305,
 t55:=Tryz.underlying307,
 a55:=Tryz.isAgg307,
 z55:=Tryz.sizeOf307,
 v55:=Tryz.zeroValue307,
 t66:=Tryz.underlying359,
 a66:=Tryz.isAgg359,
 z66:=Tryz.sizeOf359,
 v66:=Tryz.zeroValue359,
 t70:=Tryz.underlying363,
 a70:=Tryz.isAgg363,
 z70:=Tryz.sizeOf363,
 v70:=Tryz.zeroValue363,
 t76:=Tryz.underlying388,
 a76:=Tryz.isAgg388,
 z76:=Tryz.sizeOf388,
 v76:=Tryz.zeroValue388,
 t77:=Tryz.underlying77,
 a77:=Tryz.isAgg77,
 z77:=Tryz.sizeOf77,
 v77:=Tryz.zeroValue77}
def sortIn0_ren:Go.Shelf.Ren:=⟨fun|6=>221|15=>162|14=>284|28=>219|29=>220|20=>314|21=>315|22=>316|23=>317|24=>318|25=>319|26=>320|27=>321|46=>341|47=>280|48=>281|49=>342|50=>343|57=>347|n=>n,fun|22=>22|24=>3|25=>114|3=>3|39=>257|0=>0|53=>305|55=>307|4=>4|46=>299|45=>298|50=>229|5=>5|9=>9|66=>359|70=>363|76=>388|77=>77|n=>n,fun|n=>n⟩
theorem sortIn0:Go.Proofs.SlLaysF0.n6 Tryz.prog sortIn0_ren:={
 mixed:=by kernel_rfl,
 f6:=⟨Tryz.f221.name,by decide,Tryz.func221.trans (congrArg some (by kernel_rfl))⟩,
 f14:=⟨Tryz.f284.name,by decide,Tryz.func284.trans (congrArg some (by kernel_rfl))⟩,
 f15:=Tryz.func162.trans (congrArg some (by kernel_rfl)),
 f20:=⟨Tryz.f314.name,by decide,Tryz.func314.trans (congrArg some (by kernel_rfl))⟩,
 f21:=⟨Tryz.f315.name,by decide,Tryz.func315.trans (congrArg some (by kernel_rfl))⟩,
 f22:=⟨Tryz.f316.name,by decide,Tryz.func316.trans (congrArg some (by kernel_rfl))⟩,
 f23:=⟨Tryz.f317.name,by decide,Tryz.func317.trans (congrArg some (by kernel_rfl))⟩,
 f24:=⟨Tryz.f318.name,by decide,Tryz.func318.trans (congrArg some (by kernel_rfl))⟩,
 f25:=⟨Tryz.f319.name,by decide,Tryz.func319.trans (congrArg some (by kernel_rfl))⟩,
 f26:=⟨Tryz.f320.name,by decide,Tryz.func320.trans (congrArg some (by kernel_rfl))⟩,
 f27:=⟨Tryz.f321.name,by decide,Tryz.func321.trans (congrArg some (by kernel_rfl))⟩,
 f28:=Tryz.func219.trans (congrArg some (by kernel_rfl)),
 f29:=Tryz.func220.trans (congrArg some (by kernel_rfl)),
 f46:=⟨Tryz.f341.name,by decide,Tryz.func341.trans (congrArg some (by kernel_rfl))⟩,
 f47:=Tryz.func280.trans (congrArg some (by kernel_rfl)),
 f48:=Tryz.func281.trans (congrArg some (by kernel_rfl)),
 f49:=⟨Tryz.f342.name,by decide,Tryz.func342.trans (congrArg some (by kernel_rfl))⟩,
 f50:=⟨Tryz.f343.name,by decide,Tryz.func343.trans (congrArg some (by kernel_rfl))⟩,
 f57:=⟨Tryz.f347.name,by decide,Tryz.func347.trans (congrArg some (by kernel_rfl))⟩,
 t0:=Tryz.underlying0,
 a0:=Tryz.isAgg0,
 z0:=Tryz.sizeOf0,
 v0:=Tryz.zeroValue0,
 t3:=Tryz.underlying3,
 a3:=Tryz.isAgg3,
 z3:=Tryz.sizeOf3,
 v3:=Tryz.zeroValue3,
 t4:=Tryz.underlying4,
 a4:=Tryz.isAgg4,
 z4:=Tryz.sizeOf4,
 v4:=Tryz.zeroValue4,
 t5:=Tryz.underlying5,
 a5:=Tryz.isAgg5,
 z5:=Tryz.sizeOf5,
 v5:=Tryz.zeroValue5,
 t9:=Tryz.underlying9,
 a9:=Tryz.isAgg9,
 z9:=Tryz.sizeOf9,
 v9:=Tryz.zeroValue9,
 t22:=Tryz.underlying22,
 a22:=Tryz.isAgg22,
 z22:=Tryz.sizeOf22,
 v22:=Tryz.zeroValue22,
 t25:=Tryz.underlying114,
 a25:=Tryz.isAgg114,
 z25:=Tryz.sizeOf114,
 v25:=Tryz.zeroValue114,
 t39:=Tryz.underlying257,
 a39:=Tryz.isAgg257,
 z39:=Tryz.sizeOf257,
 v39:=Tryz.zeroValue257,
 t45:=Tryz.underlying298,
 a45:=Tryz.isAgg298,
 z45:=Tryz.sizeOf298,
 v45:=Tryz.zeroValue298,
 t46:=Tryz.underlying299,
 a46:=Tryz.isAgg299,
 z46:=Tryz.sizeOf299,
 v46:=Tryz.zeroValue299,
 t50:=Tryz.underlying229,
 a50:=Tryz.isAgg229,
 z50:=Tryz.sizeOf229,
 v50:=Tryz.zeroValue229,
 t53:=Tryz.underlying305,
 a53:=Tryz.isAgg305,
 z53:=Tryz.sizeOf305,
 v53:=Tryz.zeroValue305,
 t55:=Tryz.underlying307,
 a55:=Tryz.isAgg307,
 z55:=Tryz.sizeOf307,
 v55:=Tryz.zeroValue307,
 t66:=Tryz.underlying359,
 a66:=Tryz.isAgg359,
 z66:=Tryz.sizeOf359,
 v66:=Tryz.zeroValue359,
 t70:=Tryz.underlying363,
 a70:=Tryz.isAgg363,
 z70:=Tryz.sizeOf363,
 v70:=Tryz.zeroValue363,
 t76:=Tryz.underlying388,
 a76:=Tryz.isAgg388,
 z76:=Tryz.sizeOf388,
 v76:=Tryz.zeroValue388,
 t77:=Tryz.underlying77,
 a77:=Tryz.isAgg77,
 z77:=Tryz.sizeOf77,
 v77:=Tryz.zeroValue77}
def idl (n:Nat):List Int:=(List.range n).map fun i:Nat=>(i:Int)
theorem idl_len (n:Nat):(idl n).length=n:=by unfold idl;simp
theorem idl_get {n k:Nat} (h:k<n):(idl n)[k]?=some (k:Int):=by unfold idl;simp [h]
section
open Go.Shelf Go.Lib Go.Sort
theorem row_conv {w:World} {b c n:Nat} {e:TypeId} {d:List (Fin n)}:(rowT e 1 encInt (some ⟨b,0,none⟩) c (d.map fun x=>(x.1:Int))).A w↔(rowT e 1 (fun x:Fin n=>[Value.int .i64 (x.1:Int)]) (some ⟨b,0,none⟩) c d).A w:=by
 show World.ownsRow _ _ _ _ _ _ _↔World.ownsRow _ _ _ _ _ _ _
 rw [List.length_map,List.flatMap_map]
 exact Iff.rfl
theorem sortId_w {w0 w:World} {L:List E.Item} (hw:Mem w0 L w) {j q b3 n c:Nat} {b rc0:Nat} {rA:Option Addr} {rs:List RX} (hk:L[j]?=some (intRow (some ⟨b,0,none⟩) c (idl n))) (hq:L[q]?=some (box b3 135 [.slice rA n rc0])) (hjq:j≠q)
  (hr:RdsAt w0 rA n rs) (hs:rs.Pairwise fun x y=>rideLt x.r y.r=true) (hn:n≤1000000):
  Calls Tryz.prog 221 #[.slice (some ⟨b,0,none⟩) n c, .func (.func 222) #[] #[.pointer (some ⟨b3,0,none⟩)]] w fun r w'=> ∃_:Unit,r= .returned (.tuple #[])∧Mem w0 L w':=by
 have hlen:rs.length=n:=hr.1.1
 rcases Nat.eq_zero_or_pos n with h0|h0
 ·subst h0
  refine (AnyF.slices_SortFunc_none sortIn0 (some ⟨b,0,none⟩) c (.func (.func 222) #[] #[.pointer (some ⟨b3,0,none⟩)]) w).mono ?_
  rintro r w' ⟨rfl,rfl⟩
  exact ⟨(),rfl,hw⟩
 ·haveI:Inhabited (Fin n):=⟨⟨0,h0⟩⟩
  have hb:b<w.heap.size:=(hw.itemLt hk rfl).2
  let enc:Fin n→Value:=fun x=> .int .i64 (x.1:Int)
  let d:Array (Fin n):=(List.finRange n).toArray
  have hds:d.size=n:=by simp [d]
  have hfin:(List.finRange n).map (fun x:Fin n=>(x.1:Int))=idl n:=by
   unfold idl
   apply List.ext_getElem
   ·simp
   ·intro i h1 h2;simp
  let cf:Fin n→Fin n→Int:=fun x y=>rideCmp (rs[x.1]'(by omega)).r (rs[y.1]'(by omega)).r
  have hlt: ∀x y,ltOf cf x y=rideLt (rs[x.1]'(by omega)).r (rs[y.1]'(by omega)).r:=fun x y=>by
   unfold ltOf
   exact rideCmp_lt _ _
  have hO:SWO (ltOf cf):=swo_ride (fun x:Fin n=>(rs[x.1]'(by omega)).r) cf hlt
  have hpw:=List.pairwise_iff_getElem.1 hs
  have hT: ∀x y,ltOf cf x y=false→ltOf cf y x=false→x=y:=fun x y h1 h2=>by
   rw [hlt] at h1 h2
   rcases Nat.lt_trichotomy x.1 y.1 with h|h|h
   ·have:=hpw x.1 y.1 (by omega) (by omega) h
    rw [h1] at this;cases this
   ·exact Fin.ext h
   ·have:=hpw y.1 x.1 (by omega) (by omega) h
    rw [h2] at this;cases this
  have hkF: ∀{w:World} {L':List E.Item},Mem w0 L' w→L'[j]?=some (intRow (some ⟨b,0,none⟩) c (idl n))→Mem w0 (L'.set j (rowT 3 1 (fun x:Fin n=>[Value.int .i64 (x.1:Int)]) (some ⟨b,0,none⟩) c (List.finRange n))) w:=fun {w L'} hw hk=>by
   refine hw.swap hk (fun z hz=>hz) (row_conv.1 ?_)
   rw [hfin]
   exact hw.item hk
  have hwF:=hkF hw hk
  have hjL:=(List.getElem?_eq_some_iff.1 hk).1
  have hkk:(L.set j (rowT 3 1 (fun x:Fin n=>[Value.int .i64 (x.1:Int)]) (some ⟨b,0,none⟩) c (List.finRange n)))[j]?=some (rowT 3 1 (fun x:Fin n=>[Value.int .i64 (x.1:Int)]) (some ⟨b,0,none⟩) c (List.finRange n)):=by simp [hjL]
  have hcmp:CmpLays1 Tryz.prog 222 #[.pointer (some ⟨b3,0,none⟩)] enc cf b 0 d.size w:=by
   intro m os dk hdk x y
   have hm:=sorted_mem (k:=1) (enc:=fun x:Fin n=>[Value.int .i64 (x.1:Int)]) (n:=m) (os:=os) (ys:=dk.toList) (fun _=>rfl) hwF hkk (by simp;omega)
   rw [List.set_set] at hm
   have hww:sortWorldK (fun x:Fin n=>[enc x]) 1 w b 0 m dk.toList.toArray os=sortWorld enc w b 0 m dk os:=by
    rw [sortWorld_one]
   rw [hww] at hm
   have hq2:(L.set j (rowT 3 1 (fun x:Fin n=>[Value.int .i64 (x.1:Int)]) (some ⟨b,0,none⟩) c dk.toList))[q]?=some (box b3 135 [.slice rA n rc0]):=by
    rw [List.getElem?_set_ne hjq];exact hq
   have hrow:RowAt (sortWorld enc w b 0 m dk os) b3 0 [.slice rA n rc0]:=fun i u hu=>by
    rw [Nat.zero_add]
    exact box_cell hm hq2 hu
   have hb3:b3<(sortWorld enc w b 0 m dk os).heap.size:=(hm.itemLt hq2 rfl).2
   refine (use1_w rA n rc0 rs x.1 y.1 (rs[x.1]'(by omega)) (rs[y.1]'(by omega)) b3 _ hrow hb3 (hr.mem hm) (List.getElem?_eq_getElem _) (List.getElem?_eq_getElem _)).mono fun e w' ⟨he,hbl⟩=>⟨he,hbl.grew⟩
  have hH:Holds enc w b 0 d:=by
   have h1:=holdsK_row (k:=1) (enc:=fun x:Fin n=>[enc x]) (fun _=>rfl) hwF hkk
   unfold HoldsK at h1
   rw [one_flat] at h1
   intro i hi
   have:=h1 i (by simpa [d] using hi)
   rw [getElem!_pos _ i (by simpa [d] using hi)] at this
   rw [getElem!_pos d i hi]
   simpa [d] using this
  have hcon:=Any.slices_SortFunc_total sortIn enc (fun _=>rfl) cf hO 222 #[.pointer (some ⟨b3,0,none⟩)] b 0 c d w Tryz.call222 hcmp hH hb (by omega) hT
  rw [hds] at hcon
  refine hcon.mono ?_
  rintro r w' ⟨rfl,m,os,rfl⟩
  have hsort:d.toList.mergeSort (fun x y=>!(ltOf cf) y x)=List.finRange n:=by
   have:d.toList=List.finRange n:=by simp [d]
   rw [this]
   refine List.mergeSort_of_pairwise ?_
   rw [List.pairwise_iff_getElem]
   intro i k hi hk2 hik
   simp only [List.getElem_finRange]
   rw [hlt]
   have h1:=hpw i k (by simp at hi;omega) (by simp at hk2;omega) hik
   have h2:rideLt (rs[k]'(by simp at hk2;omega)).r (rs[i]'(by simp at hi;omega)).r=false:=by
    unfold rideLt at h1⊢
    simp only [decide_eq_true_eq,decide_eq_false_iff_not] at h1⊢
    omega
   simpa using h2
  rw [hsort,sortWorld_one]
  refine ⟨(),rfl,?_⟩
  have hm:=sorted_mem (k:=1) (enc:=fun x:Fin n=>[Value.int .i64 (x.1:Int)]) (n:=m) (os:=os) (ys:=List.finRange n) (fun _=>rfl) hwF hkk rfl
  rw [List.set_set] at hm
  have hm2:=hm.swap (j:=j) (it:=rowT 3 1 (fun x:Fin n=>[Value.int .i64 (x.1:Int)]) (some ⟨b,0,none⟩) c (List.finRange n)) (it':=intRow (some ⟨b,0,none⟩) c (idl n)) (by simp [hjL]) (fun z hz=>hz) (by
   have:=row_conv.2 (hm.item (k:=j) (it:=rowT 3 1 (fun x:Fin n=>[Value.int .i64 (x.1:Int)]) (some ⟨b,0,none⟩) c (List.finRange n)) (by simp [hjL]))
   rw [hfin] at this
   exact this)
  rw [List.set_set] at hm2
  have hLL:L.set j (intRow (some ⟨b,0,none⟩) c (idl n))=L:=by
   obtain ⟨q1,q2⟩:=List.getElem?_eq_some_iff.1 hk
   rw [←q2];exact List.set_getElem_self q1
  rw [hLL] at hm2
  exact hm2
end
end Go.Proofs.Far
namespace Go.Proofs.Far
open Go Go.RowKit Go.Proofs.E Go.Proofs.Cus Go.Proofs.Rid
structure Good (rs:List Rd):Prop where
 ok: ∀r∈rs,checkR r=0
 ids:twiceI [] (rs.map (·.id))=false
 few:rs.length≤256
theorem len_ok {r:Rd} (h:checkR r=0):r.legs.length≤1000000∧r.pauses.length≤1000000:=by
 have:=checkR_parts h
 omega
theorem pchecked_w (A:Option Addr) (n c:Nat) (ps:List Pas) (B:Option Addr) (m d:Nat) (rs:List RX) (w:World) (hp:PassAt w A n ps) (hr:RdsAt w B m rs) (hpe:pasErr ps=0) (hg:Good (rs.map (·.r))):Calls Tryz.prog 163 #[.slice A n c, .slice B m d] w fun e w'=>e= .returned (.int .i64 0)∧Bel w w':=by
 have hl:=hr.1.1
 have hn:=hr.1.2.1
 have hfew:=hg.few
 rw [List.length_map] at hfew
 refine H_enter Tryz.func163 rfl Tryz.ntmps163 rfl ?_
 iterate 9 refine G ?_
 refine xC (en Tryz.call72 (ha1 (q0 rfl))) (fun _ w hw=>pcheck_w A n c ps w (hp.mem hw)) rfl rfl ?_
 rw [hpe]
 iterate 9 refine G ?_
 refine H_cond rfl ?_ ?_<;>intro h1
 ·exfalso;simp at h1
 ·iterate 10 refine G ?_
  refine H_cond rfl ?_ ?_<;>intro h2
  ·exfalso;simp at h2;omega
  ·iterate 11 refine G ?_
   refine H_loop [4,7,8,22,23,24,25,26,27,28,29,30,31] (fun k:Nat=>[(22, .int .i64 k)]) (fun _=>[]) (fun k=>k≤m) (fun k=>m -k) 0 ⟨rfl,trivial⟩ (fun w hw=>hw) rfl (Nat.zero_le _) ?_
   rintro k g hk
   iterate 6 refine G ?_
   refine H_cond rfl ?_ ?_<;>intro hlt
   ·have hlt':k<m:=by simpa using hlt
    obtain ⟨b,off,x,rfl,hbl,hxk,hrx⟩:=hr.1.at_ hlt'
    have hxm:=List.mem_of_getElem? hxk
    have hc:checkR x.r=0:=hg.ok x.r (List.mem_map.2 ⟨x,hxm,rfl⟩)
    iterate 6 refine G ?_
    refine xV (e_idx _ Tryz.underlying135 Tryz.sizeOf191 (q0 rfl) (q0 rfl) (fun _=>⟨rfl,by omega⟩)) rfl rfl ?_
    refine G ?_
    refine X_alloc Tryz.zeroValue191 rfl fun b7=>?_
    refine X_st (v:= .agg _) rfl rfl Tryz.sizeOf191 ?_
    iterate 5 refine G ?_
    refine xC (en Tryz.call160 (ha1 (q0 rfl))) (fun _ w hw=>rcheck_w x w ((hr.2 x hxm).mem hw) (len_ok hc).1 (len_ok hc).2) rfl rfl ?_
    rw [hc]
    iterate 9 refine G ?_
    refine H_cond rfl ?_ ?_<;>intro h3
    ·exfalso;simp at h3
    ·iterate 7 refine G ?_
     exact loopJ_normal (k+1) agr ⟨rfl,trivial⟩ (fun w hw=>hw.tail) rfl (by show k+1≤m;omega) (by show m -(k+1)<m -k;omega)
   ·obtain ⟨ids,hids⟩: ∃ids:List Int,ids=(rs.map (·.r)).map (·.id):=⟨_,rfl⟩
    have hidl:ids.length=m:=by rw [hids,List.length_map,List.length_map,hl]
    have htw:twiceI (ids.take 0) (ids.drop 0)=false:=by rw [hids];exact hg.ids
    iterate 7 refine G ?_
    refine X_makeMap rfl fun bm=>?_
    refine xV (e_as (v:= .map _) (q0 rfl)) rfl rfl ?_
    iterate 11 refine G ?_
    refine H_loop [4,11,35,36,37,38,39,40,41,42,43,44,45,46] (fun k:Nat=>[(35, .int .i64 k)]) (fun k=>[imap bm (keysI (ids.take k))]) (fun k=>k≤m∧twiceI (ids.take 0) (ids.drop 0)=twiceI (ids.take k) (ids.drop k)) (fun k=>m -k) 0 ⟨rfl,trivial⟩ (fun _ h=>h) rfl ⟨Nat.zero_le _,rfl⟩ ?_
    rintro k2 g2 ⟨hk2,hp2⟩
    iterate 6 refine G ?_
    refine H_cond rfl ?_ ?_<;>intro hlt2
    ·have hlt2':k2<m:=by simpa using hlt2
     obtain ⟨b,off,x,rfl,hbl,hxk,hrx⟩:=hr.1.at_ hlt2'
     have hik:ids[k2]?=some x.r.id:=by rw [hids];simp [hxk]
     iterate 6 refine G ?_
     refine xV (e_idx _ Tryz.underlying135 Tryz.sizeOf191 (q0 rfl) (q0 rfl) (fun _=>⟨rfl,by omega⟩)) rfl rfl ?_
     refine G ?_
     refine X_alloc Tryz.zeroValue191 rfl fun b11=>?_
     refine X_st (v:= .agg _) rfl rfl Tryz.sizeOf191 ?_
     iterate 5 refine G ?_
     refine xV (e_mv (v:= .map _) (q0 rfl)) rfl rfl ?_
     iterate 2 refine G ?_
     refine xV (e_look 1 Tryz.underlying224 Tryz.underlying3 Tryz.zeroValue4 (q0 rfl) (q0 rfl) rfl (fun _=>look_keysI _ _)) rfl rfl ?_
     iterate 2 refine G ?_
     refine H_cond rfl ?_ ?_<;>intro h4
     ·exfalso
      rw [htw,twice_yes hik h4] at hp2
      cases hp2
     ·have hst:=twice_next hik h4
      iterate 3 refine G ?_
      refine xV (e_mv (v:= .map _) (q0 rfl)) rfl rfl ?_
      iterate 2 refine G ?_
      refine X_mapset 1 Tryz.underlying224 Tryz.underlying3 rfl rfl rfl rfl ?_
      iterate 7 refine G ?_
      refine loopJ_normal (k2+1) agr ⟨rfl,trivial⟩ (fun w hw=>?_) rfl ⟨by omega,by rw [hp2,hst]⟩ (by show m -(k2+1)<m -k2;omega)
      have:=hw.tail
      rw [snocT _ _ _ hik,←mput_keysI _ _ h4]
      exact this
    ·iterate 11 refine G ?_
     exact ret1 (v:= .int _ _) rfl rfl rfl fun w' hw=>⟨rfl,hw.1⟩
def reqR (r:Rd):Rq:=⟨r.rider,r.start.lo/86400⟩
theorem pday_w (x:RX) (w:World) (h:checkR x.r=0):Calls Tryz.prog 226 #[.agg x.cells.toArray] w fun e w'=>e= .returned (.int .i64 (x.r.start.lo/86400))∧Bel w w':=by
 have hs:=spOk_iff.1 (checkR_parts h).1
 refine H_enter Tryz.func226 rfl Tryz.ntmps226 rfl ?_
 iterate 2 refine G ?_
 refine X_box (v:= .agg _) rfl rfl fun b1=>?_
 iterate 8 refine G ?_
 refine xV (e_quo (q0 rfl) (q0 rfl) (fun _=>⟨by omega,by omega,by omega⟩)) rfl rfl ?_
 iterate 4 refine G ?_
 exact ret1 (v:= .int _ _) rfl rfl rfl fun w' hw=>⟨rfl,hw.1⟩
theorem pvalid_w (p:Pas) (d:Int) (w:World):Calls Tryz.prog 225 #[.agg p.cells.toArray, .int .i64 d] w fun e w'=>e= .returned (.bool (decide (p.from_≤d)&&decide (d<p.to_)))∧Bel w w':=by
 refine H_enter Tryz.func225 rfl Tryz.ntmps225 rfl ?_
 iterate 2 refine G ?_
 refine X_box (v:= .agg _) rfl rfl fun b2=>?_
 iterate 21 refine G ?_
 exact ret1 (v:= .bool _) rfl rfl rfl fun w' hw=>⟨rfl,hw.1⟩
theorem use2_w (p:Pas) (x:RX) (b:Nat) (w:World) (hb:RowAt w b 0 x.cells) (hbl:b<w.heap.size) (h:checkR x.r=0):Calls Tryz.prog 224 #[.agg p.cells.toArray, .pointer (some ⟨b,0,none⟩)] w fun e w'=>e= .returned (.bool (validP p (reqR x.r)))∧Bel w w':=by
 refine H_enter Tryz.func224 rfl Tryz.ntmps224 rfl ?_
 iterate 2 refine G ?_
 refine X_box (v:= .agg _) rfl rfl fun b2=>?_
 iterate 4 refine G ?_
 refine R1 rfl (by decide+kernel) ?_
 iterate 3 refine G ?_
 refine xV (e_ld (v:= .int .i64 x.r.rider) Tryz.isAgg3 (q0 rfl) (rc (j:=1) hb hbl rfl)) rfl rfl ?_
 iterate 3 refine G ?_
 refine xVT (e_lds (vs:=x.cells) Tryz.isAgg191 Tryz.sizeOf191 (q0 rfl) (fun _ w hw j u hu=>by have:=rcs (w0:=_) hb hbl rfl w hw j u hu;exact this) rfl) rfl rfl rfl rfl ?_
 refine xCT (en Tryz.call226 (ha1 (q1 (v:= .agg _) rfl))) (fun _ w _=>pday_w x w h) rfl rfl rfl rfl ?_
 refine xCT (en Tryz.call225 (ha2 (q1 (v:= .agg _) rfl) (q1 (v:= .int _ _) rfl))) (fun _ w _=>pvalid_w p (x.r.start.lo/86400) w) rfl rfl rfl rfl ?_
 iterate 5 refine G ?_
 exact ret1 (v:= .bool _) rfl rfl rfl fun w' hw=>⟨rfl,hw.1⟩
theorem pindex_w (A:Option Addr) (n c:Nat) (ps:List Pas) (x:RX) (b:Nat) (w:World) (hx:PassAt w A n ps) (hb:RowAt w b 0 x.cells) (hbl:b<w.heap.size) (h:checkR x.r=0):Calls Tryz.prog 223 #[.slice A n c, .func (.func 224) #[] #[.pointer (some ⟨b,0,none⟩)]] w fun e w'=>e= .returned (.int .i64 (firstV ps (reqR x.r)))∧Bel w w':=by
 have hl:=hx.1
 have hn:=hx.2.1
 refine H_enter Tryz.func223 rfl Tryz.ntmps223 rfl ?_
 iterate 14 refine G ?_
 refine H_loop [4,5,8,9,10,11,12,13,14,15,16,17,18] (fun k:Nat=>[(8, .int .i64 k)]) (fun _=>[]) (fun k=>k≤n∧(List.range k).find? (fun k=>validP (ps.getD k default) (reqR x.r))=none) (fun k=>n -k) 0 ⟨rfl,trivial⟩ (fun w hw=>hw) rfl ⟨Nat.zero_le _,rfl⟩ ?_
 rintro k g ⟨hk,hall⟩
 iterate 6 refine G ?_
 refine H_cond rfl ?_ ?_<;>intro hlt
 ·have hlt':k<n:=by simpa using hlt
  obtain ⟨pb,off,p,rfl,hpbl,hpk,hrp⟩:=hx.at_ hlt'
  have hpd:ps.getD k default=p:=by rw [List.getD_eq_getElem?_getD,hpk];rfl
  iterate 15 refine G ?_
  refine xV (e_idx _ Tryz.underlying26 Tryz.sizeOf155 (q0 rfl) (q0 rfl) (fun _=>⟨rfl,by omega⟩)) rfl rfl ?_
  refine G ?_
  refine xC (enV (cap:=[.pointer (some ⟨b,0,none⟩)]) (al:=[.agg p.cells.toArray, .pointer (some ⟨b,0,none⟩)]) Tryz.call224 (q0 rfl) (fun hg=>by rw [ha1 (q0 (v:= .agg _) rfl) hg];rfl)) (fun _ w hw=>use2_w p x b w (fun j u hu=>rcs hb hbl rfl w hw j u hu) (Nat.lt_of_lt_of_le hbl hw.1.size) h) rfl rfl ?_
  iterate 2 refine G ?_
  refine H_cond rfl ?_ ?_<;>intro hv
  ·have hv':validP p (reqR x.r)=true:=hv
   have hf:(List.range n).find? (fun k=>validP (ps.getD k default) (reqR x.r))=some k:=by
    obtain ⟨j,rfl⟩: ∃j,n=k+1+j:=⟨n -(k+1),by omega⟩
    rw [List.range_add,List.range_succ,List.find?_append,List.find?_append,hall]
    simp [hpk,hv']
   rw [show firstV ps (reqR x.r)=(k:Int) by unfold firstV;rw [hl,hf]]
   iterate 12 refine G ?_
   exact ret1 (v:= .int _ _) rfl rfl rfl fun w' hw=>⟨rfl,hw.1⟩
  ·have hv':validP p (reqR x.r)=false:=hv
   iterate 7 refine G ?_
   exact loopJ_normal (k+1) agr ⟨rfl,trivial⟩ (fun w hw=>hw) rfl ⟨by omega,by rw [List.range_succ,List.find?_append,hall];simp [hpk,hv']⟩ (by show n -(k+1)<n -k;omega)
 ·have hend:k=n:=by simp at hlt;omega
  subst hend
  rw [show firstV ps (reqR x.r)= -1 by unfold firstV;rw [hl,hall]]
  iterate 11 refine G ?_
  exact ret1 (v:= .int _ _) rfl rfl rfl fun w' hw=>⟨rfl,hw.1⟩
end Go.Proofs.Far
namespace Go.Proofs.Far
open Go Go.RowKit Go.Proofs.E Go.Proofs.Cus Go.Proofs.Rid
theorem fl314 {fs:Array Field} (h:Tryz.prog.underlying 314=some (.struct fs):=by exact Tryz.underlying314):FieldsLie Tryz.prog fs [(0,1),(1,1)]:=by
 rw [Tryz.underlying314] at h
 cases h
 intro w
 kernel_rfl
theorem keyT:KeyK Tryz.prog 314:=KeyK.struct Tryz.underlying314 (by kernel_rfl) ⟨by decide,rfl,Tryz.isAgg3,⟨_,Tryz.underlying3⟩,by decide,rfl,Tryz.isAgg3,⟨_,Tryz.underlying3⟩,trivial⟩ rfl
def mkI (n k:Nat):List Int:=idl k++List.replicate (n -k) 0
theorem mkI_zero (n:Nat):mkI n 0=List.replicate n 0:=rfl
theorem mkI_full (n:Nat):mkI n n=idl n:=by unfold mkI;simp
theorem idl_succ (k:Nat):idl (k+1)=idl k++[(k:Int)]:=by unfold idl;rw [List.range_succ,List.map_append];rfl
theorem mkI_len {n k:Nat} (h:k≤n):(mkI n k).length=n:=by unfold mkI;rw [List.length_append,idl_len,List.length_replicate];omega
theorem mkI_get {n k:Nat} (h:k<n):(mkI n k)[k]?=some 0:=by
 unfold mkI
 rw [List.getElem?_append_right (by rw [idl_len];exact Nat.le_refl _),idl_len,Nat.sub_self,List.getElem?_replicate,if_pos (by omega)]
theorem mkI_set {n k:Nat} (h:k<n):(mkI n k).set k (k:Int)=mkI n (k+1):=by
 unfold mkI
 rw [List.set_append_right _ _ (by rw [idl_len];exact Nat.le_refl _),idl_len,Nat.sub_self]
 obtain ⟨m,hm⟩: ∃m,n -k=m+1:=⟨n -k -1,by omega⟩
 rw [hm,List.replicate_succ,List.set_cons_zero,show n -(k+1)=m by omega,idl_succ]
 simp
attribute [local irreducible] mkI OU US
theorem puse_w (A:Option Addr) (n c:Nat) (l:List Pas) (B:Option Addr) (m d:Nat) (rs:List RX) (w:World) (hp:PassAt w A n l) (hr:RdsAt w B m rs) (hpe:pasErr l=0) (hg:Good (rs.map (·.r))) (hs:rs.Pairwise fun x y=>rideLt x.r y.r=true):
  Calls Tryz.prog 164 #[.slice A n c, .slice B m d] w fun e w'=> ∃z:Nat,e= .returned (.slice (some ⟨z,0,none⟩) m m)∧Mem w [intRow (some ⟨z,0,none⟩) m (useS l (rs.map fun x=>reqR x.r)).1] w':=by
 have hpl:=hp.1
 have hl:=hr.1.1
 have hfew:=hg.few
 rw [List.length_map] at hfew
 have hn64:n≤64:=by
  unfold pasErr at hpe
  split at hpe
  ·cases hpe
  ·omega
 obtain ⟨qs,hqs⟩: ∃qs:List Rq,qs=rs.map fun x=>reqR x.r:=⟨_,rfl⟩
 have hql:qs.length=m:=by rw [hqs,List.length_map,hl]
 rw [←hqs]
 refine H_enter Tryz.func164 rfl Tryz.ntmps164 rfl ?_
 iterate 2 refine G ?_
 refine X_box (v:= .slice _ _ _) rfl rfl fun b3=>?_
 iterate 7 refine G ?_
 refine X_eff (f_make (i:=Tryz.t3) (k:=1) (n:=m) (m:=m) encInt (0:Int) Tryz.underlying22 (by kernel_rfl) rfl rfl rfl rfl rfl ⟨⟨Nat.le_refl _,by omega⟩,by decide⟩ rfl fun b16=>?_)
 iterate 12 refine G ?_
 refine H_loop [6,19,20,21,22,23,24,25,26] (fun k:Nat=>[(19, .int .i64 k)]) (fun k=>[intRow (some ⟨b16,0,none⟩) m (mkI m k),box b3 135 [.slice B m d]]) (fun k=>k≤m) (fun k=>m -k) 0 ⟨rfl,trivial⟩ (fun w hw=>by rw [mkI_zero];exact hw) rfl (Nat.zero_le _) ?_
 rintro k g hk
 iterate 6 refine G ?_
 refine H_cond rfl ?_ ?_<;>intro hlt
 ·have hlt':k<m:=by
   have h:(k:Int)<(((List.replicate m (0:Int)).length:Nat):Int):=by first|exact of_decide_eq_true hlt|(simp at hlt⊢;omega)
   simp at h;omega
  have hget:=mkI_get hlt'
  have hml:=mkI_len (n:=m) hk
  iterate 14 refine G ?_
  refine xV (e_idx k Tryz.underlying22 Tryz.sizeOf3 (q0 rfl) (q0 rfl) (fun _=>⟨rfl,by first|exact hlt'|(simp;omega)⟩)) rfl rfl ?_
  refine X_eff (f_storeR0 0 (k:=1) (enc:=encInt) (k:Int) rfl rfl Tryz.sizeOf3 rfl rfl rfl hget rfl rfl ?_)
  iterate 7 refine G ?_
  exact loopJ_normal (k+1) agr ⟨rfl,trivial⟩ (fun w hw=>by rw [←mkI_set hlt'];exact hw) rfl (by show k+1≤m;omega) (by show m -(k+1)<m -k;omega)
 ·have hend:k=m:=by
   have h: ¬(k:Int)<(m:Int):=by first|exact of_decide_eq_false hlt|(simp at hlt⊢;omega)
   omega
  subst hend
  rw [mkI_full]
  iterate 8 refine G ?_
  refine xV e_fn rfl rfl ?_
  refine X_eff (f_callM (en Tryz.call221 (ha2 (q0 rfl) (q0 rfl))) (fun w hw=>sortId_w hw (j:=0) (q:=1) rfl rfl (by decide) hr hs (by omega)) rfl (fun _=>rfl) fun u=>?_)
  iterate 6 refine G ?_
  refine X_eff (f_make (i:=Tryz.t3) (k:=1) (n:=k) (m:=k) encInt (0:Int) Tryz.underlying22 (by kernel_rfl) rfl rfl rfl rfl rfl ⟨⟨Nat.le_refl _,by omega⟩,by decide⟩ rfl fun b32=>?_)
  refine X_eff (f_makeK rfl fun mb=>?_)
  refine G ?_
  refine xV (e_as (v:= .map _) (q0 rfl)) rfl rfl ?_
  iterate 11 refine G ?_
  refine H_loop [10,11,12,13,36,37,38,39,40,41,42,43,44,45,46,47,48,49,50,51,52,53,54,55,56,57,58,59,60,61,62,63,64,65,66,67,68,69,70,71,72,73,74,75,76,77,78,79,80,81,82,83,84,85,86,87,88,89,90,91,92,93,94,95,96,97,98,99,100,101,102,103,104,105,106,107,108,109,110,111,112,113,114] (fun q:Nat×List ((Int×Int)×Value)=>[(36, .int .i64 q.1)]) (fun q=>[kmap mb q.2,intRow (some ⟨b32,0,none⟩) k (OU l qs q.1),intRow (some ⟨b16,0,none⟩) k (idl k),box b3 135 [.slice B k d]]) (fun q=>q.1≤k∧MP q.2 (US l qs q.1).2) (fun q=>k -q.1) (0,[]) ⟨rfl,trivial⟩ (fun w hw=>by unfold OU US;rw [hql];exact hw) rfl ⟨Nat.zero_le _,by unfold US;exact MP.nil⟩ ?_
  rintro ⟨i,mps⟩ g2 ⟨hi,hMP⟩
  simp only at hi hMP
  iterate 6 refine G ?_
  refine H_cond rfl ?_ ?_<;>intro hlt2
  ·have hlt2':i<k:=by
    have h:(i:Int)<(k:Int):=by first|exact of_decide_eq_true hlt2|(simp at hlt2⊢;omega)
    omega
   obtain ⟨rb,off,x,rfl,hrbl,hxi,hrx⟩:=hr.1.at_ hlt2'
   have hxm:=List.mem_of_getElem? hxi
   have hc:checkR x.r=0:=hg.ok x.r (List.mem_map.2 ⟨x,hxm,rfl⟩)
   have hqi:qs[i]?=some (reqR x.r):=by rw [hqs];simp [hxi]
   have hidg:=idl_get hlt2'
   have hog:=OU_get (l:=l) (qs:=qs) (k:=i) (by omega)
   have hol:=OU_len (l:=l) (qs:=qs) (k:=i) (by omega)
   have hset:=OU_set (l:=l) (k:=i) (by omega) hqi
   have hsucc:=US_succ (l:=l) hqi
   have hus:=US_snd l qs i
   obtain ⟨fv,hfv⟩: ∃fv,fv=firstV l (reqR x.r):=⟨_,rfl⟩
   have hcs:=firstV_cases l (reqR x.r)
   rw [←hfv] at hcs
   iterate 6 refine G ?_
   refine xV (e_idx i Tryz.underlying22 Tryz.sizeOf3 (q0 rfl) (q0 rfl) (fun _=>⟨rfl,by first|exact hlt2'|(simp;omega)⟩)) rfl rfl ?_
   refine xV (e_ld (v:= .int .i64 i) Tryz.isAgg3 (q0 rfl) (by exact rr0 2 (k:=1) (enc:=encInt) rfl hidg rfl)) rfl rfl ?_
   iterate 7 refine G ?_
   refine xV (e_idx i Tryz.underlying135 Tryz.sizeOf191 (q0 rfl) (q0 rfl) (fun _=>⟨rfl,hlt2'⟩)) rfl rfl ?_
   refine xV (e_lds (vs:=x.cells) Tryz.isAgg191 Tryz.sizeOf191 (q0 rfl) (rcs hrx hrbl) rfl) rfl rfl ?_
   refine X_alloc Tryz.zeroValue191 rfl fun b11=>?_
   refine X_st (v:= .agg _) rfl rfl Tryz.sizeOf191 ?_
   iterate 7 refine G ?_
   refine xV e_fn rfl rfl ?_
   refine xC (v:= .int .i64 fv) (en (al:=[.slice A n c, .func (.func 224) #[] #[.pointer (some ⟨b11,0,none⟩)]]) Tryz.call223 (ha2 (q0 (v:= .slice _ _ _) rfl) (q0 rfl))) (fun _ w hw=>by rw [hfv];exact pindex_w A n c l x b11 w (hp.mem hw) (fun j u hu=>by rw [Nat.zero_add];exact box_cell hw (k:=0) rfl hu) (hw.itemLt (k:=0) rfl rfl).2 hc) rfl rfl ?_
   refine xV (e_idx i Tryz.underlying22 Tryz.sizeOf3 (q0 rfl) (q0 rfl) (fun _=>⟨rfl,by first|exact hlt2'|(simp;omega)⟩)) rfl rfl ?_
   refine X_eff (f_storeR0 2 (k:=1) (enc:=encInt) fv rfl rfl Tryz.sizeOf3 rfl rfl rfl hog rfl rfl ?_)
   iterate 6 refine G ?_
   refine xV (e_idx i Tryz.underlying22 Tryz.sizeOf3 (q0 rfl) (q0 rfl) (fun _=>⟨rfl,by first|exact hlt2'|(simp;omega)⟩)) rfl rfl ?_
   refine xV (e_ld (v:= .int .i64 fv) Tryz.isAgg3 (q0 rfl) (by exact rr0 2 (k:=1) (enc:=encInt) rfl (List.getElem?_set_self (by first|omega|(simp only;omega))) rfl)) rfl rfl ?_
   iterate 3 refine G ?_
   refine H_cut [12,13,54,55,56,57,58,59,60,61,62,63,64,65,66,67,68,69,70,71,72,73,74,75,76,77,78,79,80,81,82,83,84,85,86,87,88,89,90,91,92,93,94,95,96,97,98,99,100,101,102,103,104,105,106,107,108,109,110,111,112,113] (fun _:List ((Int×Int)×Value)=>[]) (fun ps=>[box b11 191 x.cells,kmap mb ps,intRow (some ⟨b32,0,none⟩) k (OU l qs (i+1)),intRow (some ⟨b16,0,none⟩) k (idl k),box b3 135 [.slice (some ⟨rb,off,none⟩) k d]]) (fun ps=>MP ps (US l qs (i+1)).2) ?_ ?_
   ·refine G ?_
    refine H_loop [12,13,54,55,56,57,58,59,60,61,62,63,64,65,66,67,68,69,70,71,72,73,74,75,76,77,78,79,80,81,82,83,84,85,86,87,88,89,90,91,92,93,94,95,96,97,98,99,100,101,102,103,104,105,106,107,108,109,110,111,112,113] (fun v:Int=>[(12, .int .i64 v)]) (fun v=>[box b11 191 x.cells,kmap mb mps,intRow (some ⟨b32,0,none⟩) k ((OU l qs i).set i (if v=(n:Int) then -1 else fv)),intRow (some ⟨b16,0,none⟩) k (idl k),box b3 135 [.slice (some ⟨rb,off,none⟩) k d]]) (fun v=>(v= -1∧fv= -1∧ ∀j,j<l.length→condP l (US l qs i).2 (reqR x.r) j=false)∨ ∃j:Nat,v=(j:Int)∧j≤n∧ ∀j',j'<j→condP l (US l qs i).2 (reqR x.r) j'=false) (fun v=>n -v.toNat) fv ⟨rfl,trivial⟩ (fun w hw=>by
     have hne: ¬fv=(n:Int):=by rcases hcs with ⟨h,_⟩|⟨j,hj,h,_⟩<;>omega
     rw [if_neg hne];exact hw) rfl (by
     rcases hcs with ⟨h,hh⟩|⟨j,hj,h,hh⟩
     ·exact .inl ⟨h,h,fun q hq=>cond_invalid (hh q hq)⟩
     ·exact .inr ⟨j,h,by omega,fun q hq=>cond_invalid (hh q hq)⟩) ?_
    rintro v g3 hv
    iterate 13 refine G ?_
    refine H_cond rfl ?_ ?_<;>intro h3
    ·have h3':0≤v∧v<n:=by
      have h:(decide ((0:Int)≤v)&&decide (v<(n:Int)))=true:=h3
      simpa using h
     obtain ⟨j,rfl,hjn,hjb⟩: ∃j:Nat,v=(j:Int)∧j≤n∧ ∀j',j'<j→condP l (US l qs i).2 (reqR x.r) j'=false:=by
      rcases hv with ⟨h,_⟩|h
      ·omega
      ·exact h
     have hjn':j<n:=by omega
     rw [if_neg (by omega)]
     obtain ⟨pb,poff,p,rfl,hpbl,hpj,hrp⟩:=hp.at_ hjn'
     have hpd:l.getD j default=p:=by rw [List.getD_eq_getElem?_getD,hpj];rfl
     have hlk:=hMP j (x.r.start.lo/86400)
     have hcond:condP l (US l qs i).2 (reqR x.r) j=((decide (p.rider=x.r.rider)&&(decide (p.from_≤x.r.start.lo/86400)&&decide (x.r.start.lo/86400<p.to_)))&&decide (((paidN (US l qs i).2 j (x.r.start.lo/86400):Nat):Int)<p.perDay)):=by
      unfold condP;rw [hpd];rfl
     have hpn:=paidN_le (US l qs i).2 j (x.r.start.lo/86400)
     iterate 8 refine G ?_
     refine xC (en Tryz.call226 (ha1 (q0 rfl))) (fun _ w _=>pday_w x w hc) rfl rfl ?_
     refine xV (e_build Tryz.underlying314 fl314 Tryz.zeroValue314 (pt (v:= .int _ _) rfl (pt (v:= .int _ _) rfl E.p0)) rfl) rfl rfl ?_
     refine X_alloc Tryz.zeroValue314 rfl fun b13=>?_
     refine X_st (v:= .agg _) rfl rfl Tryz.sizeOf314 ?_
     iterate 4 refine G ?_
     refine R1 rfl (by decide+kernel) ?_
     iterate 2 refine G ?_
     refine xV (e_idx j Tryz.underlying26 Tryz.sizeOf155 (q0 rfl) (q0 rfl) (fun _=>⟨rfl,hjn'⟩)) rfl rfl ?_
     refine G ?_
     refine xV (e_ld (v:= .int .i64 p.rider) Tryz.isAgg3 (q0 rfl) (by exact rc (j:=1) hrp hpbl rfl)) rfl rfl ?_
     iterate 6 refine G ?_
     refine xVT (e_idx j Tryz.underlying26 Tryz.sizeOf155 (q1 rfl) (q1 rfl) (fun _=>⟨rfl,hjn'⟩)) rfl rfl rfl rfl ?_
     refine xVT (e_lds (vs:=p.cells) Tryz.isAgg155 Tryz.sizeOf155 (q1 rfl) (rcs hrp hpbl) rfl) rfl rfl rfl rfl ?_
     iterate 2 refine G ?_
     refine xCT (en Tryz.call225 (ha2 (q1 (v:= .agg _) rfl) (q1 (v:= .int _ _) rfl))) (fun _ w _=>pvalid_w p (x.r.start.lo/86400) w) rfl rfl rfl rfl ?_
     iterate 2 refine G ?_
     refine xVT (e_mv (v:= .map _) (q0 rfl)) rfl rfl rfl rfl ?_
     refine G ?_
     refine xVT (e_lookK (key:=((j:Int),x.r.start.lo/86400)) 2 keyT Tryz.underlying309 Tryz.zeroValue3 (q1 rfl) (q1 rfl) rfl (fun _=>hlk)) rfl rfl rfl rfl ?_
     iterate 2 refine G ?_
     refine xVT (e_idx j Tryz.underlying26 Tryz.sizeOf155 (q1 rfl) (q1 rfl) (fun _=>⟨rfl,hjn'⟩)) rfl rfl rfl rfl ?_
     refine G ?_
     refine xVT (e_ld (v:= .int .i64 p.perDay) Tryz.isAgg3 (q1 rfl) (by exact rc (j:=4) hrp hpbl rfl)) rfl rfl rfl rfl ?_
     iterate 4 refine G ?_
     refine H_cond rfl ?_ ?_<;>intro h4
     ·have h4':condP l (US l qs i).2 (reqR x.r) j=true:=by rw [hcond];exact h4
      have hpick:=pick_at (by omega) h4' hjb
      refine G ?_
      refine H_mem (L':=[kmap mb mps,box b13 314 [.int .i64 j, .int .i64 (x.r.start.lo/86400)],box b11 191 x.cells,intRow (some ⟨b32,0,none⟩) k ((OU l qs i).set i fv),intRow (some ⟨b16,0,none⟩) k (idl k),box b3 135 [.slice (some ⟨rb,off,none⟩) k d]]) (fun w hw=>hw.pick [2,0,1,3,4,5] (by decide)) rfl ?_
      refine H_cut [96,97,98,99,100,101] (fun _:Unit=>[]) (fun _=>[kmap mb (kput mps ((j:Int),x.r.start.lo/86400) (.int .i64 (((paidN (US l qs i).2 j (x.r.start.lo/86400):Nat):Int)+1))),box b13 314 [.int .i64 j, .int .i64 (x.r.start.lo/86400)],box b11 191 x.cells,intRow (some ⟨b32,0,none⟩) k ((OU l qs i).set i fv),intRow (some ⟨b16,0,none⟩) k (idl k),box b3 135 [.slice (some ⟨rb,off,none⟩) k d]]) (fun _=>True) ?_ ?_
      ·refine RAd 1 rfl (by decide+kernel) ?_
       refine aV 0 (by decide+kernel) rfl (e_mv (v:= .map _) (q0 rfl)) rfl ?_
       refine aW 1 ?_
       refine rdy2 (i:=2) (j:=4) (by decide+kernel) (sub_drop 1) ?_ ?_
       ·(first|refine aL rfl (f_ev (e_lookK (key:=((j:Int),x.r.start.lo/86400)) 0 keyT Tryz.underlying309 Tryz.zeroValue3 (q0 rfl) (q0 rfl) rfl (fun _=>hlk)) rfl rfl ?_)|refine aL rfl (f_ev (e_lookKP (key:=((j:Int),x.r.start.lo/86400)) 0 keyT Tryz.underlying309 Tryz.zeroValue3 (q0 rfl) (q0 rfl) rfl (fun _=>(hpz.trans hlk))) rfl rfl ?_))
        refine aV 3 (by decide+kernel) rfl (e_add (r:=((paidN (US l qs i).2 j (x.r.start.lo/86400):Nat):Int)+1) (q0 rfl) (q0 rfl) (fun _=>⟨rfl,by omega,by omega⟩)) rfl ?_
        refine r1 4 1 ?_
        refine aL rfl (f_entryK (key:=((j:Int),x.r.start.lo/86400)) 0 keyT Tryz.underlying309 Tryz.zeroValue3 rfl rfl rfl rfl fun born ps' hps hpz=>?_)
        refine aW 5 ?_
        refine r1 6 1 ?_
        refine aL rfl (f_storeK 0 rfl rfl rfl rfl hps ?_)
        refine aZ (by decide+kernel) (sub_drop 1) ?_
        exact cutJ_normal () agr trivial (fun w hw=>hw) rfl trivial
       ·refine aL rfl (f_entryK (key:=((j:Int),x.r.start.lo/86400)) 0 keyT Tryz.underlying309 Tryz.zeroValue3 rfl rfl rfl rfl fun born ps' hps hpz=>?_)
        refine aW 5 ?_
        refine r1 2 1 ?_
        (first|refine aL rfl (f_ev (e_lookK (key:=((j:Int),x.r.start.lo/86400)) 0 keyT Tryz.underlying309 Tryz.zeroValue3 (q0 rfl) (q0 rfl) rfl (fun _=>hlk)) rfl rfl ?_)|refine aL rfl (f_ev (e_lookKP (key:=((j:Int),x.r.start.lo/86400)) 0 keyT Tryz.underlying309 Tryz.zeroValue3 (q0 rfl) (q0 rfl) rfl (fun _=>(hpz.trans hlk))) rfl rfl ?_))
        refine aV 3 (by decide+kernel) rfl (e_add (r:=((paidN (US l qs i).2 j (x.r.start.lo/86400):Nat):Int)+1) (q0 rfl) (q0 rfl) (fun _=>⟨rfl,by omega,by omega⟩)) rfl ?_
        refine r1 6 1 ?_
        refine aL rfl (f_storeK 0 rfl rfl rfl rfl hps ?_)
        refine aZ (by decide+kernel) (sub_drop 1) ?_
        exact cutJ_normal () agr trivial (fun w hw=>hw) rfl trivial
      ·intro _ g5 _
       iterate 6 refine G ?_
       refine xV (e_idx i Tryz.underlying22 Tryz.sizeOf3 (q0 rfl) (q0 rfl) (fun _=>⟨rfl,by first|exact hlt2'|(simp;omega)⟩)) rfl rfl ?_
       refine X_eff (f_storeR0 3 (k:=1) (enc:=encInt) (j:Int) rfl rfl Tryz.sizeOf3 rfl rfl rfl (List.getElem?_set_self (by omega)) rfl rfl ?_)
       iterate 8 refine G ?_
       obtain ⟨ps2,hps2⟩: ∃ps2,ps2=kput mps ((j:Int),x.r.start.lo/86400) (.int .i64 (((paidN (US l qs i).2 j (x.r.start.lo/86400):Nat):Int)+1)):=⟨_,rfl⟩
       rw [←hps2]
       refine cutJ_normal ps2 agr trivial (fun w hw=>?_) rfl ?_
       ·have h6:=hw.pick [2,0,3,4,5] (by decide)
        rw [hpick] at hset
        rw [←hset,←set_set_same fv]
        exact h6
       ·rw [hsucc]
        unfold useStep
        rw [hpick,if_pos (by omega),hps2]
        exact hMP.put _ _
     ·have h4':condP l (US l qs i).2 (reqR x.r) j=false:=by rw [hcond];exact h4
      have hinv: ∀j',j'<j+1→condP l (US l qs i).2 (reqR x.r) j'=false:=fun j' hj'=>by
       rcases Nat.lt_succ_iff_lt_or_eq.1 hj' with h|h
       ·exact hjb j' h
       ·rw [h];exact h4'
      iterate 11 refine G ?_
      refine H_cond rfl ?_ ?_<;>intro h5
      ·have h5':j+1=n:=by
        have h:((j:Nat):Int)=((n:Nat):Int) -1:=of_decide_eq_true h5
        omega
       iterate 3 refine G ?_
       refine xV (e_idx i Tryz.underlying22 Tryz.sizeOf3 (q0 rfl) (q0 rfl) (fun _=>⟨rfl,by first|exact hlt2'|(simp;omega)⟩)) rfl rfl ?_
       refine X_eff (f_storeR0 3 (k:=1) (enc:=encInt) (-1) rfl rfl Tryz.sizeOf3 rfl rfl rfl (List.getElem?_set_self (by omega)) rfl rfl ?_)
       iterate 8 refine G ?_
       refine loopJ_normal (((j+1:Nat):Int)) agr ⟨rfl,trivial⟩ (fun w hw=>?_) rfl (.inr ⟨j+1,rfl,by omega,hinv⟩) (by show n -((j+1:Nat):Int).toNat<n -((j:Nat):Int).toNat;omega)
       rw [if_pos (by rw [h5']),←set_set_same fv]
       exact hw.tail
      ·have h5': ¬j+1=n:=by
        have h: ¬((j:Nat):Int)=((n:Nat):Int) -1:=of_decide_eq_false h5
        omega
       iterate 8 refine G ?_
       refine loopJ_normal (((j+1:Nat):Int)) agr ⟨rfl,trivial⟩ (fun w hw=>?_) rfl (.inr ⟨j+1,rfl,by omega,hinv⟩) (by show n -((j+1:Nat):Int).toNat<n -((j:Nat):Int).toNat;omega)
       rw [if_neg (by omega)]
       exact hw.tail
    ·have hpick:pickP l (US l qs i).2 (reqR x.r)= -1∧(if v=(n:Int) then -1 else fv)= -1:=by
      have h3': ¬(0≤v∧v<n):=by
       have h:(decide ((0:Int)≤v)&&decide (v<(n:Int)))=false:=h3
       simpa using h
      rcases hv with ⟨h,h5,h6⟩|⟨j,h,h5,h6⟩
      ·exact ⟨pick_none h6,by rw [if_neg (by omega)];exact h5⟩
      ·have:j=n:=by omega
       subst this
       exact ⟨pick_none fun q hq=>h6 q (by omega),by rw [if_pos h]⟩
     iterate 4 refine G ?_
     refine cutJ_normal mps agr trivial (fun w hw=>?_) rfl ?_
     ·rw [hpick.2] at hw
      rw [hpick.1] at hset
      rw [←hset];exact hw
     ·rw [hsucc]
      unfold useStep
      rw [hpick.1]
      exact hMP
   ·rintro ps2 g4 hMP2
    iterate 6 refine G ?_
    exact loopJ_normal (i+1,ps2) agr ⟨rfl,trivial⟩ (fun w hw=>hw.tail) rfl ⟨by simp only;omega,hMP2⟩ (by simp only;omega)
  ·have hend2:i=k:=by
    have h: ¬(i:Int)<(k:Int):=by first|exact of_decide_eq_false hlt2|(simp at hlt2⊢;omega)
    omega
   subst hend2
   have hfull:OU l qs i=(useS l qs).1:=by
    unfold OU US
    rw [hql,Nat.sub_self,List.take_of_length_le (by omega)];simp
   rw [hfull]
   iterate 12 refine G ?_
   exact ret1 (v:= .slice _ _ _) rfl rfl rfl fun w' hw=>⟨b32,rfl,hw.pick [1] (by decide)⟩
end Go.Proofs.Far
