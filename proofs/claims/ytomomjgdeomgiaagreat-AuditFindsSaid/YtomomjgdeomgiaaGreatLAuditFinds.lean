/-
  The row AuditFinds: books that are derived from events have no findings, and changed ones have some. No conditions.
-/
import Derived.Test.YtomomjgdeomgiaaGreatLAuditFindsQF
import Derived.Test.YtomomjgdeomgiaaGreatBA15
import Derived.Test.YtomomjgdeomgiaaGreatRows
import Derived.Test.YtomomjgdeomgiaaGreatChecked
namespace Go.Proofs.YtomomjgdeomgiaaGreat
open Go Go.RowKit Go.ChangeShapes Go.WideShapes Go.ChangeAt
set_option maxRecDepth 100000 in
theorem xY (os:Os) (started:os.Started) (H:Type) (enc:TypeId×Value->H):
  ReturnsInHanded {} Tryz.checked os 7 .any (Rows.auditFindsSpec.pre6 enc Tryz.prog Tryz.f7 Rows.auditFindsRow.domain false) (Rows.auditFindsSpec.post enc Tryz.prog Tryz.f7 false true false false):=by
 refine returnsInHanded_of_change (C:=Tryz.checked) (by kernel_rfl) started (by kernel_rfl) Tryz.func7
  (ChangeSpec.witness6 (enc:=enc) (C:=Tryz.checked) false ⟨#[],#[Aud.QI, .slice none 0 0, .int .i64 0, .int .u8 0],[]⟩ 8 (by kernel_rfl) (by kernel_rfl) (by kernel_rfl) (by kernel_rfl)) ?_
 intro W base args ds gs before hval0 hW _ _
 have hval: ∀(j:Nat) t v,Tryz.f7.params[j]?=some t->args[j]?=some v->Value.okWide Tryz.prog W .any base t v:=hval0
 have hW':=hW
 obtain ⟨p,q,hA0,hV,rfl,hfz,hnd⟩:=hW
 have hA:DataW.TrodAll enc Tryz.prog W 0 (λ_=>true) true Tryz.f7.params.toList args.toList ds p:=hA0
 rw [Tryz.params7] at hA hval
 obtain ⟨v0,v1,v2,v3,d0,d1,d2,d3,p0,p1,p2,p3,rfl,_,_,h0,h1,h2,h3⟩:=trodAll_four hA
 have hv0:=hval 0 42 v0 rfl rfl
 have hv1:=hval 1 43 v1 rfl rfl
 have hv2:=hval 2 3 v2 rfl rfl
 have hv3:=hval 3 5 v3 rfl rfl
 obtain ⟨f,fa,p,a,x,rfl,hf,hp⟩:=Aud.HQ hv0 h0
 obtain ⟨A,n,c,xs,rfl,hx,hpl⟩:=Aud.MG hv1 h1
 obtain ⟨s,rfl,_⟩:=open_int Tryz.underlying3 hv2 h2
 obtain ⟨q,rfl,hq0,hq1⟩:=Aud.OV hv3 h3
 obtain ⟨q,rfl⟩:=kU hq0
 refine (Aud.H7 f fa p a x A n c xs s q W hf hp hx hpl (by omega)).mono λe W' he=>?_
 obtain ⟨rfl,hb⟩:=he
 exact ⟨_,rfl,E.Mg (tb:=4) (by kernel_rfl) (by kernel_rfl) rfl Tryz.underlying4 rfl (λds hd=>match ds,hd with|[_,_,_,_],_=>rfl) hW' hb⟩
theorem auditFinds_holds:Rows.AuditFindsSaid:=
 OpenClaim.holds_of_wide 7 Tryz.f7 rfl rfl rfl rfl rfl rfl rfl ⟨rfl,rfl,rfl,rfl,rfl⟩ rfl rfl rfl rfl rfl (by kernel_rfl) Tryz.func7 auditFinds_facts
  (cC (by kernel_rfl)) (by unfold Func.isWrapper;first|(rw [aB (by decide+kernel)];kernel_rfl)|(rw [an (by decide+kernel)];exact ⟨rfl,rfl⟩))
  (λos started H enc _=>xY os started H enc)
end Go.Proofs.YtomomjgdeomgiaaGreat
