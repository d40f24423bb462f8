/-
  The row NetworkCopies: a copy behaves as its original, and steps of the one do not change the other. No conditions.
-/
import Derived.Test.YtakhechhnnjbcaaGreatBC31
import Derived.Test.YtakhechhnnjbcaaGreatBC34
import Derived.Test.YtakhechhnnjbcaaGreatRows
import Derived.Test.YtakhechhnnjbcaaGreatChecked
namespace Go.Proofs.YtakhechhnnjbcaaGreat
open Go Go.RowKit Go.ChangeShapes Go.WideShapes Go.ChangeAt
set_option maxRecDepth 100000 in
theorem uV (os:Os) (started:os.Started) (H:Type) (enc:TypeId×Value→H):
  ReturnsInHanded {} Tryz.checked os 7 .any (Rows.networkCopiesSpec.pre6 enc Tryz.prog Tryz.f7 Rows.networkCopiesRow.domain false) (Rows.networkCopiesSpec.post enc Tryz.prog Tryz.f7 false true false false):=by
 refine returnsInHanded_of_change (C:=Tryz.checked) (by kernel_rfl) started (by kernel_rfl) Tryz.func7
  (ChangeSpec.witness6 (enc:=enc) (C:=Tryz.checked) false ⟨#[],#[Net.RI, .slice none 0 0, .int .u8 0],[]⟩ 8 (by kernel_rfl) (by kernel_rfl) (by kernel_rfl) (by kernel_rfl)) ?_
 intro W base args ds gs before hval0 hW _ _
 have hval: ∀(j:Nat) t v,Tryz.f7.params[j]?=some t→args[j]?=some v→Value.okWide Tryz.prog W .any base t v:=hval0
 have hW':=hW
 obtain ⟨p,q,hA0,hV,rfl,hfz,hnd⟩:=hW
 have hA:DataW.TrodAll enc Tryz.prog W 0 (fun _=>true) true Tryz.f7.params.toList args.toList ds p:=hA0
 rw [Tryz.params7] at hA hval
 obtain ⟨v0,v1,v2,d0,d1,d2,p0,p1,p2,rfl,_,_,h0,h1,h2⟩:=trodAll_three hA
 have hv0:=hval 0 30 v0 rfl rfl
 have hv1:=hval 1 54 v1 rfl rfl
 have hv2:=hval 2 5 v2 rfl rfl
 obtain ⟨f,fa,p,a,k,rfl,hf,hp⟩:=Net.DV hv0 h0
 obtain ⟨A,n,c,xs,rfl,hx,hpl⟩:=Net.Gu hv1 h1
 obtain ⟨q,rfl,hq0,hq1⟩:=Net.Qj hv2 h2
 refine (Net.Ha f fa p a k A n c xs q W hf hp hx hpl ⟨hq0,hq1⟩).mono fun e W' he=>?_
 obtain ⟨rfl,hb⟩:=he
 exact ⟨_,rfl,E.Gb (tb:=4) (by kernel_rfl) (by kernel_rfl) rfl Tryz.underlying4 rfl (fun ds hd=>match ds,hd with|[_,_,_],_=>rfl) hW' hb⟩
theorem zD:(Rows.networkCopiesRow.inPlace==Tryz.checked.prog.inPlace 7)=true:=by kernel_rfl
theorem s7:Tryz.checked.prog.unfollowed 7=true:=by kernel_rfl
theorem zC:(Rows.networkCopiesRow.recurses==Tryz.checked.prog.recurses 7)=true:=by
 unfold Program.recurses
 rw [s7]
 rfl
theorem zB:(Rows.networkCopiesRow.named==Tryz.checked.prog.varsNamed 7)=true:=by kernel_rfl
theorem wa:joinedFacts Tryz.checked.prog 7 Tryz.f7 Rows.networkCopiesSpec Rows.networkCopiesRow=true:=by
 unfold joinedFacts
 rw [zD,s7,zC,zB]
 kernel_rfl
theorem networkCopies_holds:Rows.NetworkCopiesSaid:=
 OpenClaim.holds_of_wide 7 Tryz.f7 rfl rfl rfl rfl rfl rfl rfl ⟨rfl,rfl,rfl,rfl,rfl⟩ rfl rfl rfl rfl rfl (by kernel_rfl) Tryz.func7 wa
  (cJ (by kernel_rfl)) (by unfold Func.isWrapper;first|(rw [av (by decide+kernel)];kernel_rfl)|(rw [ah (by decide+kernel)];exact ⟨rfl,rfl⟩))
  (fun os started H enc _=>uV os started H enc)
end Go.Proofs.YtakhechhnnjbcaaGreat
