/-
  The row NetworkNever: the bank never has two payments for a ride, and none is changed or removed. No conditions.
-/
import Derived.Test.YtakhechhnnjbcaaGreatBN30
import Derived.Test.YtakhechhnnjbcaaGreatRows
import Derived.Test.YtakhechhnnjbcaaGreatChecked
namespace Go.Proofs.YtakhechhnnjbcaaGreat
open Go Go.RowKit Go.ChangeShapes Go.WideShapes Go.ChangeAt
set_option maxRecDepth 100000 in
theorem networkNever_lifted (os:Os) (started:os.Started) (H:Type) (enc:TypeId×Value→H):
  ReturnsInHanded {} Tryz.checked os 4 .any (Rows.networkNeverSpec.pre6 enc Tryz.prog Tryz.f4 Rows.networkNeverRow.domain false) (Rows.networkNeverSpec.post enc Tryz.prog Tryz.f4 false true false false):=by
 refine returnsInHanded_of_change (C:=Tryz.checked) (by kernel_rfl) started (by kernel_rfl) Tryz.func4
  (ChangeSpec.witness6 (enc:=enc) (C:=Tryz.checked) false ⟨#[],#[Net.zCity, .slice none 0 0],[]⟩ 8 (by kernel_rfl) (by kernel_rfl) (by kernel_rfl) (by kernel_rfl)) ?_
 intro W base args ds gs before hval0 hW _ _
 have hval: ∀(j:Nat) t v,Tryz.f4.params[j]?=some t→args[j]?=some v→Value.okWide Tryz.prog W .any base t v:=hval0
 have hW':=hW
 obtain ⟨p,q,hA0,hV,rfl,hfz,hnd⟩:=hW
 have hA:DataW.TrodAll enc Tryz.prog W 0 (fun _=>true) true Tryz.f4.params.toList args.toList ds p:=hA0
 rw [Tryz.params4] at hA hval
 obtain ⟨v0,v1,d0,d1,p0,p1,rfl,_,_,h0,h1⟩:=trodAll_two hA
 have hv0:=hval 0 30 v0 rfl rfl
 have hv1:=hval 1 54 v1 rfl rfl
 obtain ⟨f,fa,p,a,k,rfl,hf,hp⟩:=Net.open_city hv0 h0
 obtain ⟨A,n,c,xs,rfl,hx,hpl⟩:=Net.open_sts hv1 h1
 refine (Net.neverLaw_w f fa p a k A n c xs W hf hp hx hpl).mono fun e W' he=>?_
 obtain ⟨rfl,hb⟩:=he
 exact ⟨_,rfl,E.row_post (tb:=4) (by kernel_rfl) (by kernel_rfl) rfl Tryz.underlying4 rfl (fun ds hd=>match ds,hd with|[_,_],_=>rfl) hW' hb⟩
theorem networkNever_q1:(Rows.networkNeverRow.inPlace==Tryz.checked.prog.inPlace 4)=true:=by kernel_rfl
theorem networkNever_q2:Tryz.checked.prog.unfollowed 4=true:=by kernel_rfl
theorem networkNever_q3:(Rows.networkNeverRow.recurses==Tryz.checked.prog.recurses 4)=true:=by
 unfold Program.recurses
 rw [networkNever_q2]
 rfl
theorem networkNever_q4:(Rows.networkNeverRow.named==Tryz.checked.prog.varsNamed 4)=true:=by kernel_rfl
theorem networkNever_facts:joinedFacts Tryz.checked.prog 4 Tryz.f4 Rows.networkNeverSpec Rows.networkNeverRow=true:=by
 unfold joinedFacts
 rw [networkNever_q1,networkNever_q2,networkNever_q3,networkNever_q4]
 kernel_rfl
theorem networkNever_holds:Rows.NetworkNeverSaid:=
 OpenClaim.holds_of_wide 4 Tryz.f4 rfl rfl rfl rfl rfl rfl rfl ⟨rfl,rfl,rfl,rfl,rfl⟩ rfl rfl rfl rfl rfl (by kernel_rfl) Tryz.func4 networkNever_facts
  (of_decide_eq_true (by kernel_rfl)) (by unfold Func.isWrapper;first|(rw [if_pos (by decide+kernel)];kernel_rfl)|(rw [if_neg (by decide+kernel)];exact ⟨rfl,rfl⟩))
  (fun os started H enc _=>networkNever_lifted os started H enc)
end Go.Proofs.YtakhechhnnjbcaaGreat
