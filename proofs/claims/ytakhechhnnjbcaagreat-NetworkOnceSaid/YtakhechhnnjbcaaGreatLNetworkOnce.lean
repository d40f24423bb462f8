/-
  The row NetworkOnce: after settling, the bank has exactly one payment for each final ride, of its fare. No conditions.
-/
import Derived.Test.YtakhechhnnjbcaaGreatBC34
import Derived.Test.YtakhechhnnjbcaaGreatBC30
import Derived.Test.YtakhechhnnjbcaaGreatRows
import Derived.Test.YtakhechhnnjbcaaGreatChecked
namespace Go.Proofs.YtakhechhnnjbcaaGreat
open Go Go.RowKit Go.ChangeShapes Go.WideShapes Go.ChangeAt
set_option maxRecDepth 100000 in
theorem wZ (os:Os) (started:os.Started) (H:Type) (enc:TypeId×Value→H):
  ReturnsInHanded {} Tryz.checked os 6 .any (Rows.networkOnceSpec.pre6 enc Tryz.prog Tryz.f6 Rows.networkOnceRow.domain false) (Rows.networkOnceSpec.post enc Tryz.prog Tryz.f6 false true false false):=by
 refine returnsInHanded_of_change (C:=Tryz.checked) (by kernel_rfl) started (by kernel_rfl) Tryz.func6
  (ChangeSpec.witness6 (enc:=enc) (C:=Tryz.checked) false ⟨#[],#[Net.RI, .slice none 0 0],[]⟩ 8 (by kernel_rfl) (by kernel_rfl) (by kernel_rfl) (by kernel_rfl)) ?_
 intro W base args ds gs before hval0 hW _ _
 have hval: ∀(j:Nat) t v,Tryz.f6.params[j]?=some t→args[j]?=some v→Value.okWide Tryz.prog W .any base t v:=hval0
 have hW':=hW
 obtain ⟨p,q,hA0,hV,rfl,hfz,hnd⟩:=hW
 have hA:DataW.TrodAll enc Tryz.prog W 0 (fun _=>true) true Tryz.f6.params.toList args.toList ds p:=hA0
 rw [Tryz.params6] at hA hval
 obtain ⟨v0,v1,d0,d1,p0,p1,rfl,_,_,h0,h1⟩:=trodAll_two hA
 have hv0:=hval 0 30 v0 rfl rfl
 have hv1:=hval 1 54 v1 rfl rfl
 obtain ⟨f,fa,p,a,k,rfl,hf,hp⟩:=Net.DV hv0 h0
 obtain ⟨A,n,c,xs,rfl,hx,hpl⟩:=Net.Gu hv1 h1
 refine (Net.K5 f fa p a k A n c xs W hf hp hx hpl).mono fun e W' he=>?_
 obtain ⟨rfl,hb⟩:=he
 exact ⟨_,rfl,E.Gb (tb:=4) (by kernel_rfl) (by kernel_rfl) rfl Tryz.underlying4 rfl (fun ds hd=>match ds,hd with|[_,_],_=>rfl) hW' hb⟩
theorem Cc:(Rows.networkOnceRow.inPlace==Tryz.checked.prog.inPlace 6)=true:=by kernel_rfl
theorem uU:Tryz.checked.prog.unfollowed 6=true:=by kernel_rfl
theorem Cb:(Rows.networkOnceRow.recurses==Tryz.checked.prog.recurses 6)=true:=by
 unfold Program.recurses
 rw [uU]
 rfl
theorem Ca:(Rows.networkOnceRow.named==Tryz.checked.prog.varsNamed 6)=true:=by kernel_rfl
theorem yu:joinedFacts Tryz.checked.prog 6 Tryz.f6 Rows.networkOnceSpec Rows.networkOnceRow=true:=by
 unfold joinedFacts
 rw [Cc,uU,Cb,Ca]
 kernel_rfl
theorem networkOnce_holds:Rows.NetworkOnceSaid:=
 OpenClaim.holds_of_wide 6 Tryz.f6 rfl rfl rfl rfl rfl rfl rfl ⟨rfl,rfl,rfl,rfl,rfl⟩ rfl rfl rfl rfl rfl (by kernel_rfl) Tryz.func6 yu
  (cJ (by kernel_rfl)) (by unfold Func.isWrapper;first|(rw [av (by decide+kernel)];kernel_rfl)|(rw [ah (by decide+kernel)];exact ⟨rfl,rfl⟩))
  (fun os started H enc _=>wZ os started H enc)
end Go.Proofs.YtakhechhnnjbcaaGreat
