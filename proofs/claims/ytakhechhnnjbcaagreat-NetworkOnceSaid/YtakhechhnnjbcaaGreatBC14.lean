import Derived.Test.YtakhechhnnjbcaaGreatBC04
import Derived.Test.YtakhechhnnjbcaaGreatBC07
import Derived.Test.YtakhechhnnjbcaaGreatBC13
import Derived.Test.YtakhechhnnjbcaaGreatBC05
import Derived.Test.YtakhechhnnjbcaaGreatBC08
import Derived.KernelRfl
import Derived.Test.YtakhechhnnjbcaaGreatTc
set_option maxRecDepth 100000
set_option maxHeartbeats 8000000
set_option linter.unusedVariables false
set_option linter.unusedSimpArgs false
namespace Go.Proofs.Pen
open Go Go.RowKit Go.Proofs.E
theorem Kv (A:Option Addr) (n c:Nat) (rider:Int) (w:World):
  Calls Tryz.prog 234 #[.slice A n c, .int .i64 rider] w fun e w'=> ∃x:Nat×Nat,e= .returned (.func (.func 293) #[] #[.pointer (some ⟨x.1,0,none⟩), .pointer (some ⟨x.2,0,none⟩)])∧
   Mem w [box x.2 3 [.int .i64 rider],box x.1 193 [.slice A n c]] w':=by
 refine aS Tryz.func234 rfl Tryz.ntmps234 rfl ?_;iterate 2 refine G ?_
 refine cd (v:= .slice _ _ _) rfl rfl fun b2=>?_;refine cd (v:= .int _ _) rfl rfl fun b3=>?_;iterate 5 refine G ?_
 refine xV G8 rfl rfl ?_;iterate 4 refine G ?_
 exact bH rfl rfl rfl fun w' hw=>⟨(b2,b3),rfl,hw⟩
def Reads (bl br:Nat) (A:Option Addr) (n c:Nat) (rider:Int) (vs:List V) (W:World):Prop:=
 W.cell? ⟨bl,0,none⟩=some (.slice A n c)∧W.cell? ⟨br,0,none⟩=some (.int .i64 rider)∧bl<W.heap.size∧br<W.heap.size∧C4 W A n vs
theorem Reads.below {bl br:Nat} {A:Option Addr} {n c:Nat} {rider:Int} {vs:List V} {W W':World} (h:Reads bl br A n c rider vs W) (hb:gz W W'):Reads bl br A n c rider vs W':=
 ⟨(hb.cell (p:=⟨bl,0,none⟩) h.2.2.1).trans h.1,(hb.cell (p:=⟨br,0,none⟩) h.2.2.2.1).trans h.2.1,gL h.2.2.1 hb.size,gL h.2.2.2.1 hb.size,h.2.2.2.2.below hb⟩
theorem Du {rider:Int} {l:List V} {k:Nat} {v:V} (hv:l[k]?=some v) (h:(decide (v.rider=rider)&&decide (v.kind=2))=true):sa rider (l.take (k+1))=sa rider (l.take k)++[v]:=by
 rw [iJ _ _ _ hv];simp only [sa,dw];simp at h;simp [h]
theorem Ku {rider:Int} {l:List V} {k:Nat} {v:V} (hv:l[k]?=some v) (h:(decide (v.rider=rider)&&decide (v.kind=2))=false):sa rider (l.take (k+1))=sa rider (l.take k):=by
 rw [iJ _ _ _ hv];simp only [sa,dw];simp at h;simp;exact h
theorem Mk {rider:Int} {l:List V} {k:Nat}:sa rider (l.take k)<+:sa rider l:=by
 unfold sa;exact (List.take_prefix k l).filter _
theorem Kw (bl br:Nat) (A:Option Addr) (n c:Nat) (rider:Int) (vs:List V):
  Pc Tryz.prog 293 #[.pointer (some ⟨bl,0,none⟩), .pointer (some ⟨br,0,none⟩)] (fun v:V=> #[.agg v.cells.toArray]) (sa rider vs) (Reads bl br A n c rider vs):=by
 intro l J Jx W hR hJ sJ sJx hY;refine aS Tryz.func293 rfl Tryz.ntmps293 rfl ?_;obtain ⟨hcl,hcr,hbl,hbr,hv⟩:=id hR;have hn:=hv.2.1;have hl:=hv.1;iterate 8 refine G ?_
 clear hcl hcr hbl hbr hv;refine Ke [5,8,9,10,11,12,13,14,15,16,17,18,19,20,21,22,23,24,25,26,27] (fun s:World×Nat=>[(8, .int .i64 s.2)]) (fun s=>s.1) (fun _=>[]) (fun s=>s.2≤n∧Reads bl br A n c rider vs s.1∧J (sa rider (vs.take s.2)) s.1) (fun s=>n -s.2) (W,0) ⟨rfl,trivial⟩ (fun _ h=>h) rfl ⟨aU _,hR,hJ⟩ ?_;rintro ⟨W1,k⟩ g ⟨hk,hR1,hJ1⟩
 dsimp only at hk hR1 hJ1⊢
 iterate 6 refine G ?_
 refine au rfl ?_ ?_<;>intro hlt
 ·simp at hlt;obtain ⟨hcl,hcr,hbl,hbr,hv⟩:=id hR1;obtain ⟨b,off,v,rfl,hvb,hvk,hrow⟩:=hv.at_ hlt;iterate 6 refine G ?_
  refine bO (bt _ qP mT (q0 rfl) (q0 rfl) (fun _=>⟨rfl,by omega⟩)) ?_;refine G ?_;refine cx HG rfl fun b5=>?_;refine fI (v:= .agg _) rfl rfl mT ?_;iterate 16 refine G ?_
  refine Rt (A:=fun W'=>J (sa rider (vs.take (k+1))) W'∧Reads bl br (some ⟨b,off,none⟩) n c rider vs W') (B:=Jx) (r5 rfl rfl) (q1 rfl) (il (q1 rfl)) rfl rfl (fun h w hw=>?_) (fun h=>?_) (fun h W2 hW2=>?_) (fun h W2 hW2=>?_)
  ·have:=hY (sa rider (vs.take k)) v w (by rw [←Du hvk h];exact Mk) (hR1.below hw.1) (sJ _ _ _ hJ1 hw.1);rw [Du hvk h];exact this
  ·iterate 4 refine G ?_
   refine au rfl ?_ ?_<;>intro hc
   ·rw [h] at hc;simp at hc
   iterate 7 refine G ?_
   exact ay (W1,k+1) eE ⟨rfl,trivial⟩ (fun _ h=>h.tail) rfl ⟨by dsimp only;omega,hR1,by rw [Ku hvk h];exact hJ1⟩ (by show n -(k+1)<n -k;omega)
  ·iterate 4 refine G ?_
   refine au rfl ?_ ?_<;>intro hc
   ·simp at hc
   iterate 7 refine G ?_
   exact ay (W2,k+1) eE ⟨rfl,trivial⟩ (fun _ h=>h) rfl ⟨by dsimp only;omega,hW2.2,hW2.1⟩ (by show n -(k+1)<n -k;omega)
  iterate 4 refine G ?_
  refine au rfl ?_ ?_<;>intro hc
  ·iterate 5 refine G ?_
   exact Tv rfl rfl fun w' hw=>⟨rfl, .inr (sJx _ _ hW2 hw.1)⟩
  rw [h] at hc;simp at hc
 simp at hlt;iterate 4 refine G ?_
 refine lj rfl rfl fun w' hw=>⟨rfl, .inl (sJ _ _ _ ?_ hw.1)⟩;rw [bN (by omega)] at hJ1;exact hJ1
def late (days:Int) (v x:V):Bool:=before x v&&NF days x v
theorem T5 (days:Int) (l:List V) (v:V):V5 days l v=((sa v.rider l).filter (late days v)).length:=by
 unfold V5 sa;rw [oW];congr 1;apply uw;intro x _;simp only [hit,late];rw [Bool.and_comm]
def nth (days:Int) (v:V) (pre:List V):Int:=1+((pre.filter (late days v)).length:Int)
theorem Ql {days:Int} {v x:V} {pre:List V} (h:late days v x=true):nth days v (pre++[x])=nth days v pre+1:=by
 unfold nth;rw [dw];simp [h];omega
theorem TF {days:Int} {v x:V} {pre:List V} (h:late days v x=false):nth days v (pre++[x])=nth days v pre:=by
 unfold nth;rw [dw];simp [h]
theorem TG {days:Int} {v:V} {pre:List V}:1≤nth days v pre∧nth days v pre≤1+pre.length:=by
 unfold nth;have:=da (late days v) pre;omega
theorem Qk {days:Int} {l:List V} {v:V} (h:v.kind=2):num days l v=nth days v (sa v.rider l):=by
 unfold num nth;rw [av h,T5]
theorem Ml {rider:Int} {l:List V} {x:V} (h:x∈sa rider l):x∈l:=(dT.1 h).1
theorem Mm {rider:Int} {l:List V}:(sa rider l).length≤l.length:=da _ _
def IU (l:List V):Prop:= ∀x∈l,0≤x.iF∧x.iF≤4294943999
theorem uQ (a0 a1 a2 a3 a4:Value) (fA:Option Addr) (fn fc:Nat) (days:Int) (A:Option Addr) (n c:Nat) (vs:List V) (v:V) (w:World) (hx:C4 w A n vs) (h256:vs.length≤256) (ht:IU vs) (hv:0≤v.iF∧v.iF≤4294943999) (hd:0≤days∧days≤49709):
  Calls Tryz.prog 173 #[.agg #[a0,a1,a2,a3,a4, .slice fA fn fc, .int .i64 days], .slice A n c, .agg v.cells.toArray] w fun e w'=>e= .returned (.int .i64 (num days vs v))∧gz w w':=by
 have hl:=hx.1;refine aS Tryz.func173 rfl Tryz.ntmps173 rfl ?_;iterate 2 refine G ?_
 refine cd (v:= .agg _) rfl rfl fun b3=>?_;refine cd (v:= .agg _) rfl rfl fun b5=>?_;iterate 11 refine G ?_
 refine au rfl ?_ ?_<;>intro hk
 ·iterate 7 refine G ?_
  exact bH (v:= .int _ _) rfl rfl rfl fun w' hw=>⟨bP (by simp at hk;unfold num;rw [ah hk]),hw.1⟩
 have hk2:v.kind=2:=by simpa using hk
 iterate 4 refine G ?_
 refine cx bh rfl fun b7=>?_;refine fI (v:= .int _ _) rfl rfl ax ?_;iterate 8 refine G ?_
 refine qW (en Tryz.call234 (gr (q0 rfl) (q0 rfl))) (fun w _=>Kv A n c v.rider w) rfl (fun _=>rfl) fun x=>?_;iterate 3 refine G ?_
 refine Rx (sa v.rider vs) (Reads x.1 x.2 A n c v.rider vs) (fun pre=>[box x.2 3 [.int .i64 v.rider],box x.1 193 [.slice A n c],box b7 3 [.int .i64 (nth days v pre)],box b5 208 v.cells,box b3 28 [a0,a1,a2,a3,a4, .slice fA fn fc, .int .i64 days]]) (fun _ _=>False) rfl rfl Tryz.call293 (Kw x.1 x.2 A n c v.rider vs) (fun _=>rfl) rfl (fun _ h=>h) (fun _=>rfl) (fun _ _ h=>h.elim) (fun pre w hw=>⟨gy hw (k:=1) rfl rfl,gy hw (k:=0) rfl rfl,(hw.ni (k:=1) rfl rfl).2,(hw.ni (k:=0) rfl rfl).2,hx.mem hw⟩) ?_ ?_ (fun _ _ _ h=>h.elim) rfl
 ·rintro l D r pre y hpre -;have hy:y∈sa v.rider vs:=hpre.subset (by simp);have hym:=ht y (Ml hy);have hnl:=TG (days:=days) (v:=v) (pre:=pre);have hpl:pre.length≤256:=by have h1:=hpre.length_le;have h2:=Mm (rider:=v.rider) (l:=vs);simp at h1;omega
  refine G ?_;refine cx HG rfl fun b8=>?_;refine fI (v:= .agg _) rfl rfl mT ?_;refine G ?_;refine Hw _ rfl rfl (fun w hw=>hw.pick [1,2,0,3,4,5,6,7] (by decide)) fun r'=>?_;iterate 5 refine G ?_
  refine gV (en Tryz.call235 (gr (q0 rfl) (q0 rfl))) (fun _ w _=>OR y v w) ?_;iterate 3 refine G ?_
  refine qV (CL (q1 rfl) (q0 rfl) (fun _=>by omega)) rfl rfl ?_;iterate 2 refine G ?_
  refine qV (CL (q1 rfl) (q0 rfl) (fun _=>by omega)) rfl rfl ?_;iterate 7 refine G ?_
  refine au rfl ?_ ?_<;>intro hc
  ·iterate 3 refine G ?_
   refine fI (v:= .int _ _) rfl rfl ax ?_;iterate 2 refine G ?_
   exact wC fun w hw=>by rw [Ql hc];exact hw.pick [0,1,3,4,5,6,7] (by decide)
  iterate 2 refine G ?_
  exact wC fun w hw=>by rw [TF hc];exact hw.pick [0,1,3,4,5,6,7] (by decide)
 intro D;iterate 9 refine G ?_
 exact MX rfl (U9 (v:= .int _ _) rfl rfl) fun w' hw=>⟨bP (Qk hk2).symm,hw.1⟩
theorem num_nonneg {days:Int} {l:List V} {v:V}:0≤num days l v∧num days l v≤1+l.length:=by
 unfold num V5;have:=da (hit days v) l;split<;>omega
theorem Ly {cX:List Int} {days:Int} {l:List V} {v:V} (h:(if (cX.length:Int)<num days l v then (cX.length:Int) else num days l v)=0):G3 cX days l v=0:=by
 have:=num_nonneg (days:=days) (l:=l) (v:=v);unfold G3;rw [av];split at h<;>omega
theorem Lz {cX:List Int} {days:Int} {l:List V} {v:V} {x:Int} (h: ¬(if (cX.length:Int)<num days l v then (cX.length:Int) else num days l v)=0)
  (hx:cX[((if (cX.length:Int)<num days l v then (cX.length:Int) else num days l v) -1).toNat]?=some x):G3 cX days l v=x:=by
 have hn:=num_nonneg (days:=days) (l:=l) (v:=v);unfold G3;rw [ah (by split at h<;>omega),aq];have:min (num days l v).toNat cX.length -1=((if (cX.length:Int)<num days l v then (cX.length:Int) else num days l v) -1).toNat:=by split<;>omega
 rw [this,hx];rfl
theorem TU (a0 a1 a2 a3 a4:Value) (fA:Option Addr) (fn fc:Nat) (cX:List Int) (days:Int) (A:Option Addr) (n c:Nat) (vs:List V) (v:V) (w:World) (hf:ia w fA fn cX) (hx:C4 w A n vs) (h256:vs.length≤256) (ht:IU vs) (hv:0≤v.iF∧v.iF≤4294943999) (hd:0≤days∧days≤49709):
  Calls Tryz.prog 174 #[.agg #[a0,a1,a2,a3,a4, .slice fA fn fc, .int .i64 days], .slice A n c, .agg v.cells.toArray] w fun e w'=>e= .returned (.int .i64 (G3 cX days vs v))∧gz w w':=by
 have hl:=hf.1;have hn:=num_nonneg (days:=days) (l:=vs) (v:=v);subst hl;refine aS Tryz.func174 rfl Tryz.ntmps174 rfl ?_;iterate 2 refine G ?_
 refine cd (v:= .agg _) rfl rfl fun b3=>?_;refine cd (v:= .agg _) rfl rfl fun b5=>?_;iterate 4 refine G ?_
 refine tB ?_;iterate 3 refine G ?_
 refine gV (en Tryz.call173 (nj (q0 rfl) (q0 rfl) (q0 rfl))) (fun _ w hm=>uQ a0 a1 a2 a3 a4 fA cX.length fc days A n c vs v w (hx.mem hm) h256 ht hv hd) ?_;iterate 3 refine G ?_
 refine bO (Sj (q0 rfl) (q0 rfl)) ?_;iterate 10 refine G ?_
 refine au rfl ?_ ?_<;>intro hz
 ·iterate 7 refine G ?_
  exact bH (v:= .int _ _) rfl rfl rfl fun w' hw=>⟨bP (Ly (by simpa using hz)).symm,hw.1⟩
 have hz':=cS hz;obtain ⟨b,off,x,rfl,hbl,hxk,hr⟩:=hf.at_ (i:=((if (cX.length:Int)<num days vs v then (cX.length:Int) else num days vs v) -1).toNat) (by split at hz'<;>split<;>omega);iterate 7 refine G ?_
 refine bO (ou (q0 rfl) (q0 rfl) (fun _=>⟨rfl,by split<;>omega,by split<;>omega⟩)) ?_;refine bO (bt _ ak ax (q0 rfl) (q0 rfl) (fun _=>⟨(Int.toNat_of_nonneg (by split at hz'<;>split<;>omega)).symm,by split at hz'<;>split<;>omega⟩)) ?_;iterate 5 refine G ?_
 exact bH (v:= .int _ _) rfl rfl rfl fun w' hw=>⟨bP (Lz hz' hxk).symm,hw.1⟩
theorem Hk (a0 a1 a2 a3 a4:Value) (fA:Option Addr) (fn fc:Nat) (cX:List Int) (days:Int) (A:Option Addr) (n c:Nat) (vs:List V) (w:World) (hf:ia w fA fn cX) (hx:C4 w A n vs):
  Calls Tryz.prog 172 #[.agg #[a0,a1,a2,a3,a4, .slice fA fn fc, .int .i64 days], .slice A n c] w fun e w'=>e= .returned (.int .i64 (CU cX days vs))∧gz w w':=by
 refine aS Tryz.func172 rfl Tryz.ntmps172 rfl ?_;iterate 2 refine G ?_
 refine cd (v:= .agg _) rfl rfl fun b2=>?_;iterate 7 refine G ?_
 refine gV (en Tryz.call74 (il (q0 rfl))) (fun _ w hm=>vS a0 a1 a2 a3 a4 fA fn fc cX days w (hf.mem hm)) ?_;iterate 9 refine G ?_
 refine au rfl ?_ ?_<;>intro hz
 ·iterate 8 refine G ?_
  exact bH (v:= .int _ _) rfl rfl rfl fun w' hw=>⟨bP (by simp at hz;unfold CU;rw [av hz]),hw.1⟩
 iterate 5 refine G ?_
 refine gV (en Tryz.call106 (il (q0 rfl))) (fun _ w hm=>Mp A n c vs w (hx.mem hm)) ?_;iterate 4 refine G ?_
 exact bH (v:= .int _ _) rfl rfl rfl fun w' hw=>⟨bP (by simp at hz;unfold CU;rw [ah (by simpa using hz)]),hw.1⟩
theorem Mr {seen l:List V} (h:qj seen l=0): ∀x∈l,Bo x=0:=by
 induction l generalizing seen with
 |nil=>simp
 |cons v l ih=>
  unfold qj at h;by_cases h1:vW seen v≠0
  ·rw [av h1] at h;exact absurd h h1
  rw [ah h1] at h;intro x hx;rcases bU.1 hx with rfl|hx
  ·simp only [Km,Decidable.not_not] at h1;unfold vW at h1;split at h1
   ·exact h1
   rename_i hb;simpa using hb
  exact ih h x hx
theorem EE {l:List V} (h:sd l=0):l.length≤256∧ ∀x∈l,Bo x=0:=by
 unfold sd at h;split at h
 ·cases h
 exact ⟨by omega,Mr h⟩
theorem PE {v:V} (h:Bo v=0):1≤v.aP∧v.aP≤1000000∧0≤v.rider∧v.rider<128∧0≤v.iF∧v.iF≤4294943999∧1≤v.kind∧v.kind≤3:=by
 unfold Bo at h;split at h
 ·cases h
 split at h
 ·cases h
 omega
theorem vC {l:List V} (h:sd l=0):IU l:=fun x hx=>by
 have:=PE ((EE h).2 x hx);omega
theorem Gr {xs:List Int} {d:Int} (h:rL xs d=0):xs.length≤512∧(∀x∈xs,0≤x∧x≤1000000)∧0≤d∧d≤49709:=by
 unfold rL at h;split at h
 ·cases h
 split at h
 ·cases h
 split at h
 ·cases h
 rename_i h1 h2 h3;refine ⟨by omega,fun x hx=>?_,by omega⟩;simp only [cY,not_exists,not_and,Bool.not_eq_true] at h2;have:=h2 x hx;simp [mY] at this;omega
theorem J4 {cX:List Int} {d:Int} {l:List V} (h:CU cX d l=0):rL cX d=0∧sd l=0:=by
 unfold CU at h;split at h
 ·rename_i h1;exact absurd h h1
 rename_i h1;exact ⟨by simpa using h1,h⟩
theorem Pa (a0 a1 a2 a3 a4:Value) (fA:Option Addr) (fn fc:Nat) (cX:List Int) (days:Int) (A:Option Addr) (n c:Nat) (vs:List V) (i:Int) (w:World) (hf:ia w fA fn cX) (hx:C4 w A n vs):
  Calls Tryz.prog 116 #[.agg #[a0,a1,a2,a3,a4, .slice fA fn fc, .int .i64 days], .slice A n c, .int .i64 i] w fun e w'=>e= .returned (.tuple #[.int .i64 (Di cX days vs i).1, .int .i64 (Di cX days vs i).2])∧gz w w':=by
 have hl:=hx.1;refine aS Tryz.func116 rfl Tryz.ntmps116 rfl ?_;iterate 2 refine G ?_
 refine cd (v:= .agg _) rfl rfl fun b3=>?_;iterate 9 refine G ?_
 refine gV (en Tryz.call172 (gr (q0 rfl) (q0 rfl))) (fun _ w hm=>Hk a0 a1 a2 a3 a4 fA fn fc cX days A n c vs w (hf.mem hm) (hx.mem hm)) ?_;iterate 9 refine G ?_
 refine au rfl ?_ ?_<;>intro hz
 ·iterate 9 refine G ?_
  exact fV (v:= .int _ _) (x:= .int _ _) rfl rfl rfl rfl fun w' hw=>⟨by simp at hz;unfold Di;rw [av hz]<;>rfl,hw.1⟩
 have hz':CU cX days vs=0:=by simpa using hz
 obtain ⟨hp,hv⟩:=J4 hz';iterate 15 refine G ?_
 refine au rfl ?_ ?_<;>intro hi
 ·iterate 8 refine G ?_
  exact fV (v:= .int _ _) (x:= .int _ _) rfl rfl rfl rfl fun w' hw=>⟨by unfold Di;rw [ah (by simpa using hz'),av (by simp at hi;omega)]<;>rfl,hw.1⟩
 simp at hi;obtain ⟨k,rfl⟩:=sQ hi.1;obtain ⟨b,off,v,rfl,hbl,hvk,hr⟩:=hx.at_ (i:=k) (by omega);iterate 3 refine G ?_
 refine tB ?_;iterate 4 refine G ?_
 refine bO (bt _ qP mT (q0 rfl) (q0 rfl) (fun _=>⟨rfl,by omega⟩)) ?_;refine G ?_;refine gV (en Tryz.call173 (nj (q0 rfl) (q0 rfl) (q0 rfl))) (fun _ w hm=>uQ a0 a1 a2 a3 a4 fA fn fc days _ n c vs v w (hx.mem hm) (EE hv).1 (vC hv) (vC hv v (an hvk)) (Gr hp).2.2) ?_;iterate 5 refine G ?_
 exact fV (v:= .int _ _) (x:= .int _ _) rfl rfl rfl rfl fun w' hw=>⟨by unfold Di;rw [ah (by simpa using hz'),ah (by omega),aq,aM,hvk]<;>rfl,hw.1⟩
theorem Uw (a0 a1 a2 a3 a4:Value) (fA:Option Addr) (fn fc:Nat) (cX:List Int) (days:Int) (A:Option Addr) (n c:Nat) (vs:List V) (i:Int) (w:World) (hf:ia w fA fn cX) (hx:C4 w A n vs):
  Calls Tryz.prog 117 #[.agg #[a0,a1,a2,a3,a4, .slice fA fn fc, .int .i64 days], .slice A n c, .int .i64 i] w fun e w'=>e= .returned (.tuple #[.int .i64 (ti cX days vs i).1, .int .i64 (ti cX days vs i).2])∧gz w w':=by
 have hl:=hx.1;refine aS Tryz.func117 rfl Tryz.ntmps117 rfl ?_;iterate 2 refine G ?_
 refine cd (v:= .agg _) rfl rfl fun b3=>?_;iterate 9 refine G ?_
 refine gV (en Tryz.call172 (gr (q0 rfl) (q0 rfl))) (fun _ w hm=>Hk a0 a1 a2 a3 a4 fA fn fc cX days A n c vs w (hf.mem hm) (hx.mem hm)) ?_;iterate 9 refine G ?_
 refine au rfl ?_ ?_<;>intro hz
 ·iterate 9 refine G ?_
  exact fV (v:= .int _ _) (x:= .int _ _) rfl rfl rfl rfl fun w' hw=>⟨by simp at hz;unfold ti;rw [av hz]<;>rfl,hw.1⟩
 have hz':CU cX days vs=0:=by simpa using hz
 obtain ⟨hp,hv⟩:=J4 hz';iterate 15 refine G ?_
 refine au rfl ?_ ?_<;>intro hi
 ·iterate 8 refine G ?_
  exact fV (v:= .int _ _) (x:= .int _ _) rfl rfl rfl rfl fun w' hw=>⟨by unfold ti;rw [ah (by simpa using hz'),av (by simp at hi;omega)]<;>rfl,hw.1⟩
 simp at hi;obtain ⟨k,rfl⟩:=sQ hi.1;obtain ⟨b,off,v,rfl,hbl,hvk,hr⟩:=hx.at_ (i:=k) (by omega);iterate 3 refine G ?_
 refine tB ?_;iterate 4 refine G ?_
 refine bO (bt _ qP mT (q0 rfl) (q0 rfl) (fun _=>⟨rfl,by omega⟩)) ?_;refine G ?_;refine gV (en Tryz.call174 (nj (q0 rfl) (q0 rfl) (q0 rfl))) (fun _ w hm=>TU a0 a1 a2 a3 a4 fA fn fc cX days _ n c vs v w (hf.mem hm) (hx.mem hm) (EE hv).1 (vC hv) (vC hv v (an hvk)) (Gr hp).2.2) ?_;iterate 5 refine G ?_
 exact fV (v:= .int _ _) (x:= .int _ _) rfl rfl rfl rfl fun w' hw=>⟨by unfold ti;rw [ah (by simpa using hz'),ah (by omega),aq,aM,hvk]<;>rfl,hw.1⟩
end Go.Proofs.Pen
namespace Go.Proofs.Far
open Go.Proofs.Cus Go.Proofs.Rid
structure Uq where
 kind:Int
 ref:Int
 fM:Int
deriving DecidableEq,Inhabited
structure iY where
 aP:Int
 rider:Int
 items:List Uq
 total:Int
deriving DecidableEq,Inhabited
def k6 (b:iY) (k r a:Int):iY:=if a=0 then b else {b with items:=b.items++[⟨k,r,a⟩],total:=b.total+a}
theorem lp (b:iY) (k r a:Int):(k6 b k r a).total=b.total+a:=by
 unfold k6;split
 ·omega
 rfl
theorem nN (b:iY) (k r a:Int):(k6 b k r a).aP=b.aP∧(k6 b k r a).rider=b.rider:=by
 unfold k6;split<;>exact ⟨rfl,rfl⟩
theorem mQ (b:iY) (k r a:Int):(k6 b k r a).items.length≤b.items.length+1:=by
 unfold k6;split
 ·omega
 simp
def jE (p:Pr) (r:Rd):Int×Int:=
 if r.wh=2∧0≤r.pl∧r.pl<p.places.length then (p.places.getD r.pl.toNat 0,r.pl)
 else if r.wh=1∧0≤r.pl∧r.pl/32<p.gk.length then (p.gk.getD (r.pl/32).toNat 0,64+r.pl/32)
 else (0,0)
def o8 (p:Pr) (r:Rd):Nat:=Em p.ik r.start.lo
def jh (p:Pr) (r:Rd):Tf:=p.ik.getD (o8 p r) default
def tp (p:Pr) (r:Rd):iY:=k6 (k6 (k6 ⟨r.id,r.rider,[],0⟩ 1 (o8 p r) (jh p r).unlock) 2 (o8 p r) (nS (jh p r) (nR r))) 3 (o8 p r) (qd (jh p r) (rK r))
def wW (p:Pr) (r:Rd):iY:=k6 (tp p r) 4 (jE p r).2 (max (jE p r).1 (-(tp p r).total))
def ql (p:Pr) (r:Rd) (by_:Int):Int:=nS (jh p r) (min (nR r) (p.iE.getD by_.toNat default).fS)
def s6 (p:Pr) (r:Rd) (by_:Int):iY:=if 0≤by_ then k6 (wW p r) 5 by_ (-(min (wW p r).total ((jh p r).unlock+ql p r by_))) else wW p r
def nk (p:Pr) (r:Rd) (by_:Int):Option iY:=
 if 1000000000000<nS (jh p r) (nR r) then none
 else if 1000000000000<qd (jh p r) (rK r) then none
 else if 0≤by_∧1000000000000<ql p r by_ then none
 else if 1000000000000<(s6 p r by_).total then none
 else some (s6 p r by_)
theorem nI {f:Fl} {p:Pr} (h:jk f p=0):fR f=0∧lG p.ik=0∧lg p.iE=0∧p.gk.length=f.gk.length∧p.places.length≤64∧(∀x∈p.places++p.gk,ot x=false)∧0≤p.cap∧p.cap≤1000000000000∧Pen.rL p.cX p.days=0:=by
 unfold jk at h;split at h
 ·omega
 split at h
 ·omega
 split at h
 ·omega
 split at h
 ·omega
 split at h
 ·omega
 split at h
 ·omega
 rename_i h1 h2 h3 h4 h5 h6;refine ⟨by omega,by omega,by omega,by omega,by omega,fun x hx=>?_,by omega,by omega,h⟩;have h7:(p.places++p.gk).any ot=false:=by simpa using h5
 rw [jf] at h7;simpa using h7 x hx
theorem Mq {p:Pr} {r:Rd} (h:lG p.ik=0):p.ik[o8 p r]?=some (jh p r)∧pM (jh p r)=true:=by
 obtain ⟨h1,h2,h3⟩:=MA h;have hlt:=Ua h1 r.start.lo;have:p.ik[o8 p r]?=some (jh p r):=by
  unfold jh o8;rw [aq,aj hlt];rfl
 exact ⟨this,h3 _ (an this)⟩
theorem F3 {t:Tf} (h:pM t=true) {s:Int} (hs:s≤4294944000):0≤o9 t s∧o9 t s≤4294944000:=By (pL.1 h).2.2.2.2.1 hs
theorem EP {t:Tf} (h:pM t=true) {s:Int} (hs:s≤4294944000):0≤nS t s:=by
 have h2:=pL.1 h;have h3:=F3 h (s:=s -t.free) (by omega);unfold nS;exact I5 h2.2.2.1.1 h3.1
theorem Jp {t:Tf} (h:pM t=true) {s:Int} (hs:s≤4294944000):0≤qd t s:=by
 have h2:=pL.1 h;have h3:=F3 h (s:=s) hs;unfold qd;exact I5 h2.2.2.2.1.1 h3.1
theorem KY {f:Fl} {p:Pr} (h:jk f p=0) (r:Rd): -1000000≤(jE p r).1∧(jE p r).1≤1000000:=by
 have hp:=(nI h).2.2.2.2.2.1;have key: ∀(l:List Int) (k:Nat),(∀x∈l,ot x=false)→ -1000000≤l.getD k 0∧l.getD k 0≤1000000:=by
  intro l k hl;rw [aq];cases hk:l[k]? with
  |none=>simp
  |some x=>
   have:=hl x (an hk);unfold ot at this;simp at this;simp only [l6];omega
 unfold jE;split
 ·exact key _ _ fun x hx=>hp x (aQ.2 (.inl hx))
 split
 ·exact key _ _ fun x hx=>hp x (aQ.2 (.inr hx))
 simp
theorem CX (p:Pr) (r:Rd):(tp p r).total=(jh p r).unlock+nS (jh p r) (nR r)+qd (jh p r) (rK r):=by
 unfold tp;rw [lp,lp,lp];simp
theorem DM (p:Pr) (r:Rd):(wW p r).total=(tp p r).total+max (jE p r).1 (-(tp p r).total):=by unfold wW;rw [lp]
theorem BZ (p:Pr) (r:Rd) (by_:Int):(s6 p r by_).total=if 0≤by_ then (wW p r).total -min (wW p r).total ((jh p r).unlock+ql p r by_) else (wW p r).total:=by
 unfold s6;split
 ·rw [lp];omega
 rfl
open Go Go.RowKit Go.Proofs.E Go.Proofs.Cus
section
variable {α:Type} {e t t2:TypeId} {k:Nat} {enc:α→List Value} {c:Cx} {w0:World} {L:List E.Item} {f:Fr} {K:List E.Item→Fr→Prop} {d:Nat} {ty:TypeId} {pos:String} {af:Array Edge} {x y:Operand} {g:Bool}
theorem DG: ∀(vs P C:List Value),vs.length=C.length→setAt (P++C) P.length vs=P++vs
 |[],P,C,h=>by
  have:C=[]:=bW h.symm;subst this;rfl
 |v::vs,P,[],h=>by cases h
 |v::vs,P,u::C,h=>by
  unfold setAt;have h1:(P++u::C).set P.length v=(P++[v])++C:=by simp
  have h2:P.length+1=(P++[v]).length:=by simp
  rw [h1,h2,DG vs (P++[v]) C (by simpa using h)];simp
theorem TW (j:Nat) {b n m cB:Nat} {B:Option Addr} {i:TypeInfo} {xs ys:List α} (ht:c.P.underlying t=some (.slice e)) (hi:c.P.info? e=some i) (hsize:i.size=k)
  (he: ∀x,(enc x).length=k) (h1: ∀x,(enc x).all kI=true) (hx:ev f x= .slice (some ⟨b,0,none⟩) n m) (hy:ev f y= .slice B n cB)
  (hk:L[j]?=some (dR e k enc (some ⟨b,0,none⟩) n xs)) (hm:n=m) (hxl:xs.length=n) (hr: ∀w,Mem w0 L w→gJ w k enc B n ys) (hd:Nat.blt d c.N=true)
  (next:K (L.set j (dR e k enc (some ⟨b,0,none⟩) n ys)) (kX f d (.int .i64 n))):
  uz c w0 L f ⟨some d, .call {callee:= .builtin .copy,args:= #[x,y],argTypes:= #[t,t2]},ty,pos,af,none⟩ K:=
 ⟨rfl,rfl,hd,fun w hw=>by
  subst hm;obtain ⟨cs,hc,hrow⟩:=qE (hw.item hk);have hS:=hr w hw;have hyl:ys.length=n:=hS.1;have hvl:(ys.flatMap enc).length=cs.length:=by rw [gi he,hyl,hrow.size]
  have hjL:=aa.1 hk;have hw1:Mem w0 (L.set j (box b e cs)) w:=hw.swap hk (fun z hz=>by
   have:z=b:=hz;subst this;rfl) hc
  have hk1:(L.set j (box b e cs))[j]?=some (box b e cs):=by simp [hjL.1]
  have ho:(ys.flatMap enc).all kI=true:=by
   rw [eF];intro v hv;obtain ⟨z,hz,hvz⟩:=dO.1 hv;exact eF.1 (h1 z) v hvz
  obtain ⟨w',hrun,hm',_,_⟩:=p7 (P:=c.P) (b:=b) (t:=e) (o:=0) (k:=j) (ys.flatMap enc) 0 cs w _ hw1 hk1 ho (by omega);have hset:setAt cs (0+0) (ys.flatMap enc)=ys.flatMap enc:=by
   have:=DG (ys.flatMap enc) [] cs hvl;simpa using this
  rw [fB,hset] at hm';have hk2:(L.set j (box b e (ys.flatMap enc)))[j]?=some (box b e (ys.flatMap enc)):=by simp [hjL.1]
  have hm2:Mem w0 (L.set j (dR e k enc (some ⟨b,0,none⟩) n ys)) w':=by
   have:=hm'.swap hk2 (it':=dR e k enc (some ⟨b,0,none⟩) n ys) (fun z hz=>by
    have:b=z:=by simpa [dR] using hz
    exact this.symm) (pg he (hm'.item hk2) ⟨by omega,hrow.max,by rw [hvl,hrow.size],[],by simp⟩)
   rwa [fB] at this
  have hload:(Builtin.firstCells i.size n (.slice B n cB)).run c.P w= .ok (ys.flatMap enc).toArray w:=by
   cases B with
   |none=>
    have hn0:n=0:=by
     rcases du n with h|h
     ·exact h
     obtain ⟨b',off,hb,_⟩:=hS.2.2 h;cases hb
    have:ys=[]:=bW (by omega);subst this;rfl
   |some a=>
    have hcells: ∀q v,(ys.flatMap enc)[q]?=some v→w.cell? (a.add q)=some v:=by
     intro q v hq;obtain ⟨i',z,r,hz,hv,hqr⟩:=CA he ys q v hq;have hn:0<n:=by
      have:=(aa.1 hz).1;omega
     obtain ⟨b',off,hB,_,hcl⟩:=hS.2.2 hn;cases hB;rw [tt rfl];have:=hcl i' z hz r v hv;rw [hqr];simpa [ma] using this
    have hl:=run_loadCells_list (P:=c.P) w a (ys.flatMap enc) hcells;rw [hvl,hrow.size,←hsize] at hl;exact hl
  have hex:(execOp (ev f) ⟨some d, .call {callee:= .builtin .copy,args:= #[x,y],argTypes:= #[t,t2]},ty,pos,af,none⟩).run c.P w= .ok (.value (.int .i64 n)) w':=by
   have hst:(storeCells ⟨b,0,none⟩ (ys.flatMap enc) 0).run c.P w= .ok () w':=hrun;simp [execOp,resolve,invoke,builtin,hx,hy,Builtin.copy_,run_underlying ht,Builtin.lenOf,sizeOf,typeInfo,hi,hload,hst,Result.andThen,goInt]
  rw [hex];exact ⟨_,hm2,ie hk rfl,next⟩⟩
theorem vb {t1 t2:TypeId} {m n:Int} (hx:gw g f x (.int .i64 m)) (hy:gw g f y (.int .i64 n)):iO g c w0 L f (.call {callee:= .builtin .max,args:= #[x,y],argTypes:= #[t1,t2]}) ty (.int .i64 (max m n)):=by
 rw [show max m n=if m<n then n else m by omega];exact Sk hx hy
theorem Fh {t1 t2:TypeId} {m n:Int} (hx:gw g f x (.int .i64 m)) (hy:gw g f y (.int .i64 n)):iO g c w0 L f (.call {callee:= .builtin .min,args:= #[x,y],argTypes:= #[t1,t2]}) ty (.int .i64 (min m n)):=fun e _ _ _ _ w _=>by
 have:(if n<m then n else m)=min m n:=by omega
 simp [execOp,resolve,invoke,builtin,hx e,hy e,Builtin.min_,Builtin.min2,←this]
theorem Sm {k:FuncId} {fo:Operand} {v:Value} (hx:gw g f fo v):iO g c w0 L f (.makeFunc (.func k) #[fo] #[]) ty (.func (.func k) #[v] #[]):=fun e _ _ _ _ w _=>by simp [execOp,Instr.makeFunc,hx e]
theorem W8 {k:FuncId} {ao:Array Operand} {ts:Array TypeId} {al:List Value} {bd:List Value} {t:Nat} (he: ∀args w,(callFunc k args).run c.P w= .ok (.enter k args) w) (ht:gw g f (.tmp t) (.func (.func k) bd.toArray #[])) (ha:g=true→bd++ao.toList.map (ev f)=al):
  mG g c w0 L f (.call {callee:= .value (.tmp t),args:=ao,argTypes:=ts}) ty k al.toArray:=fun e _ _ _ _ w _=>by
 have ha:bd.toArray++ao.map (ev f)=al.toArray:=by rw [Ci,←ha e];simp
 simp [execOp,resolve,ht e,Deferred.ofValue,invoke,ha,he]
end
def Wn.cells (x:Wn):List Value:=[.int .i64 x.lo, .int .i64 x.hi]
abbrev ub (w:World) (A:Option Addr) (n:Nat) (xs:List Wn):Prop:=gJ w 2 Wn.cells A n xs
abbrev fP (A:Option Addr) (c:Nat) (xs:List Wn):E.Item:=dR 153 2 Wn.cells A c xs
def j0 (a b:Int):Int:=if a<b then -1 else if b<a then 1 else 0
theorem vR (a b:Int):decide (j0 a b<0)=decide (a<b):=by
 unfold j0;by_cases h:a<b
 ·rw [av h];simp [h]
 rw [ah h];by_cases h2:b<a
 ·rw [av h2];simp [h]
 rw [ah h2];simp [h]
def Nb (l:List Int):Int:=(l.find? fun x=>decide (x≠0)).getD 0
theorem yy (n:Int) (w:World):Calls Tryz.prog 159 #[.int .i64 n] w fun e w'=>e= .returned (.bool false)∧gz w w':=by
 refine aS Tryz.func159 rfl Tryz.ntmps159 rfl ?_;iterate 14 refine G ?_
 exact bH (v:= .bool _) rfl rfl rfl fun w' hw=>⟨fK (by simp),hw.1⟩
theorem jM (a b:Int) (w:World):Calls Tryz.prog 104 #[.int .i64 a, .int .i64 b] w fun e w'=>e= .returned (.int .i64 (j0 a b))∧gz w w':=by
 refine aS Tryz.func104 rfl Tryz.ntmps104 rfl ?_;iterate 8 refine G ?_
 refine gV (en I3 (il (q0 rfl))) (fun _ w _=>yy a w) ?_;iterate 6 refine G ?_
 refine gV (en I3 (il (q0 rfl))) (fun _ w _=>yy b w) ?_;iterate 9 refine G ?_
 refine au rfl ?_ ?_<;>intro h1
 ·cases h1
 iterate 8 refine G ?_
 refine au rfl ?_ ?_<;>intro h2
 ·cases h2
 iterate 10 refine G ?_
 refine au rfl ?_ ?_<;>intro h3
 ·iterate 7 refine G ?_
  exact bH (v:= .int _ _) rfl rfl rfl fun w' hw=>⟨bP (by unfold j0;rw [av (by simpa using h3)]),hw.1⟩
 iterate 10 refine G ?_
 refine au rfl ?_ ?_<;>intro h4
 ·iterate 7 refine G ?_
  exact bH (v:= .int _ _) rfl rfl rfl fun w' hw=>⟨bP (by unfold j0;rw [ah (by simpa using h3),av (by simpa using h4)]),hw.1⟩
 iterate 8 refine G ?_
 exact bH (v:= .int _ _) rfl rfl rfl fun w' hw=>⟨bP (by unfold j0;rw [ah (by simpa using h3),ah (by simpa using h4)]),hw.1⟩
theorem Qi (A:Option Addr) (n c:Nat) (xs:List Int) (w:World) (hx:ia w A n xs):Calls Tryz.prog 109 #[.slice A n c] w fun e w'=>e= .returned (.int .i64 (Nb xs))∧gz w w':=by
 have hl:=hx.1;have hn:=hx.2.1;refine aS Tryz.func109 rfl Tryz.ntmps109 rfl ?_;iterate 19 refine G ?_
 refine ct [2,5,8,9,10,11,12,13,14,15,16] (fun k:Nat=>[(8, .int .i64 k)]) (fun _=>_) (fun k=>k≤n∧(xs.take k).find? (fun x=>decide (x≠0))=none) (fun k=>n -k) 0 ⟨rfl,trivial⟩ (fun _ h=>h) rfl ⟨aU _,rfl⟩ ?_;rintro k g ⟨hk,hno⟩;iterate 6 refine G ?_
 refine au rfl ?_ ?_<;>intro hlt
 ·simp at hlt;obtain ⟨b,off,x,rfl,hbl,hxk,hrx⟩:=hx.at_ hlt;iterate 6 refine G ?_
  refine bO (bt _ ak ax (q0 rfl) (q0 rfl) (fun _=>⟨rfl,by omega⟩)) ?_;iterate 11 refine G ?_
  refine au rfl ?_ ?_<;>intro h0
  ·iterate 12 refine G ?_
   exact bH (v:= .int _ _) rfl rfl rfl fun w' hw=>⟨bP (by
    unfold Nb;have h0':x≠0:=by simpa using h0
    rw [←fz k xs,je,hno];obtain ⟨q1,q2⟩:=aa.1 hxk;rw [cL q1,q2];simp [h0']),hw.1⟩
  iterate 7 refine G ?_
  exact ay (k+1) eE ⟨rfl,trivial⟩ (fun _ h=>h) rfl ⟨by omega,by rw [od _ _ _ hxk,je,hno];simp at h0;simp [h0]⟩ (by show n -(k+1)<n -k;omega)
 obtain rfl:k=n:=by simp at hlt;omega
 iterate 12 refine G ?_
 exact bH (v:= .int _ _) rfl rfl rfl fun w' hw=>⟨bP (by unfold Nb;rw [bN (by omega)] at hno;rw [hno];rfl),hw.1⟩
theorem Mh (x:Wn) (w:World):Calls Tryz.prog 326 #[.agg x.cells.toArray] w fun e w'=>e= .returned (.bool (ze x))∧gz w w':=by
 refine aS Tryz.func326 rfl Tryz.ntmps326 rfl ?_;iterate 2 refine G ?_
 refine cd (v:= .agg _) rfl rfl fun b1=>?_;iterate 24 refine G ?_
 exact bH (v:= .bool _) rfl rfl rfl fun w' hw=>⟨fK (by unfold ze;cases decide (0≤x.lo)<;>cases decide (x.lo≤x.hi)<;>simp),hw.1⟩
theorem S1 (x:Wn) (w:World):Calls Tryz.prog 325 #[.agg x.cells.toArray] w fun e w'=>e= .returned (.bool (!ze x))∧gz w w':=by
 refine aS Tryz.func325 rfl Tryz.ntmps325 rfl ?_;iterate 2 refine G ?_
 refine cd (v:= .agg _) rfl rfl fun b1=>?_;iterate 6 refine G ?_
 refine gV (en Tryz.call326 (il (q0 rfl))) (fun _ w _=>Mh x w) ?_;iterate 5 refine G ?_
 exact bH (v:= .bool _) rfl rfl rfl fun w' hw=>⟨rfl,hw.1⟩
theorem S0 (x y:Wn) (w:World):Calls Tryz.prog 328 #[.agg x.cells.toArray, .agg y.cells.toArray] w fun e w'=>e= .returned (.int .i64 (j0 x.lo y.lo))∧gz w w':=by
 refine aS Tryz.func328 rfl Tryz.ntmps328 rfl ?_;iterate 2 refine G ?_
 refine cd (v:= .agg _) rfl rfl fun b2=>?_;refine cd (v:= .agg _) rfl rfl fun b3=>?_;iterate 9 refine G ?_
 refine gV (en kB (gr (q0 rfl) (q0 rfl))) (fun _ w _=>jM x.lo y.lo w) ?_;iterate 4 refine G ?_
 exact bH (v:= .int _ _) rfl rfl rfl fun w' hw=>⟨rfl,hw.1⟩
theorem Mj (A:Option Addr) (n c:Nat) (xs:List Wn) (w:World) (hx:ub w A n xs):Calls Tryz.prog 344 #[.slice A n c, .func (.func 325) #[] #[]] w fun e w'=>(∃i:Int,e= .returned (.int .i64 i)∧(decide (0≤i)=xs.any fun x=>!ze x))∧gz w w':=by
 have hl:=hx.1;have hn:=hx.2.1;refine aS Tryz.func344 rfl Tryz.ntmps344 rfl ?_;iterate 14 refine G ?_
 refine ct [4,5,8,9,10,11,12,13,14,15,16,17,18] (fun k:Nat=>[(8, .int .i64 k)]) (fun _=>[]) (fun k=>k≤n∧((xs.take k).any fun x=>!ze x)=false) (fun k=>n -k) 0 ⟨rfl,trivial⟩ (fun w hw=>hw) rfl ⟨aU _,rfl⟩ ?_;rintro k g ⟨hk,hall⟩;iterate 6 refine G ?_
 refine au rfl ?_ ?_<;>intro hlt
 ·have hlt':k<n:=by simpa using hlt
  obtain ⟨b,off,x,rfl,hbl,hxk,hrx⟩:=hx.at_ hlt';iterate 15 refine G ?_
  refine bO (bt _ bG bM (q0 rfl) (q0 rfl) (fun _=>⟨rfl,by omega⟩)) ?_;refine G ?_;refine gV (wK (cap:=[]) (al:=[.agg x.cells.toArray]) Tryz.call325 (q0 rfl) (fun hg=>by rw [il (q0 (v:= .agg _) rfl) hg];rfl)) (fun _ w _=>S1 x w) ?_;iterate 2 refine G ?_
  refine au rfl ?_ ?_<;>intro hb
  ·have hb':(!ze x)=true:=hb;iterate 12 refine G ?_
   exact bH (v:= .int _ _) rfl rfl rfl fun w' hw=>⟨⟨k,rfl,by rw [cY.2 ⟨x,an hxk,hb'⟩];simp⟩,hw.1⟩
  have hb':(!ze x)=false:=hb;iterate 7 refine G ?_
  exact ay (k+1) eE ⟨rfl,trivial⟩ (fun w hw=>hw) rfl ⟨by omega,by rw [od _ _ _ hxk,pI,hall];simp [hb']⟩ (by show n -(k+1)<n -k;omega)
 have hend:k=n:=by simp at hlt;omega
 rw [hend,bN (by omega)] at hall;iterate 11 refine G ?_
 exact bH (v:= .int _ _) rfl rfl rfl fun w' hw=>⟨⟨-1,rfl,by rw [hall];rfl⟩,hw.1⟩
end Go.Proofs.Far
