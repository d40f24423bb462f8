import Derived.Test.YtakhechhnnjbcaaGreatBN04
import Derived.Test.YtakhechhnnjbcaaGreatBN07
import Derived.Test.YtakhechhnnjbcaaGreatBN13
import Derived.Test.YtakhechhnnjbcaaGreatBN05
import Derived.Test.YtakhechhnnjbcaaGreatBN08
import Derived.KernelRfl
import Derived.Test.YtakhechhnnjbcaaGreatTy
set_option maxRecDepth 100000
set_option maxHeartbeats 8000000
set_option linter.unusedVariables false
set_option linter.unusedSimpArgs false
namespace Go.Proofs.Pen
open Go Go.RowKit Go.Proofs.E
theorem viol_make (A:Option Addr) (n c:Nat) (rider:Int) (w:World):
  Calls Tryz.prog 234 #[.slice A n c, .int .i64 rider] w fun e w'=> ∃x:Nat×Nat,e= .returned (.func (.func 293) #[] #[.pointer (some ⟨x.1,0,none⟩), .pointer (some ⟨x.2,0,none⟩)])∧
   Mem w [box x.2 3 [.int .i64 rider],box x.1 193 [.slice A n c]] w':=by
 refine H_enter Tryz.func234 rfl Tryz.ntmps234 rfl ?_
 iterate 2 refine G ?_
 refine X_box (v:= .slice _ _ _) rfl rfl fun b2=>?_
 refine X_box (v:= .int _ _) rfl rfl fun b3=>?_
 iterate 5 refine G ?_
 refine xV e_fn rfl rfl ?_
 iterate 4 refine G ?_
 exact ret1 rfl rfl rfl fun w' hw=>⟨(b2,b3),rfl,hw⟩
def Reads (bl br:Nat) (A:Option Addr) (n c:Nat) (rider:Int) (vs:List V) (W:World):Prop:=
 W.cell? ⟨bl,0,none⟩=some (.slice A n c)∧W.cell? ⟨br,0,none⟩=some (.int .i64 rider)∧bl<W.heap.size∧br<W.heap.size∧VsAt W A n vs
theorem Reads.below {bl br:Nat} {A:Option Addr} {n c:Nat} {rider:Int} {vs:List V} {W W':World} (h:Reads bl br A n c rider vs W) (hb:Bel W W'):Reads bl br A n c rider vs W':=
 ⟨(hb.cell (p:=⟨bl,0,none⟩) h.2.2.1).trans h.1,(hb.cell (p:=⟨br,0,none⟩) h.2.2.2.1).trans h.2.1,Nat.lt_of_lt_of_le h.2.2.1 hb.size,Nat.lt_of_lt_of_le h.2.2.2.1 hb.size,h.2.2.2.2.below hb⟩
theorem viol_snoc {rider:Int} {l:List V} {k:Nat} {v:V} (hv:l[k]?=some v) (h:(decide (v.rider=rider)&&decide (v.kind=2))=true):viol rider (l.take (k+1))=viol rider (l.take k)++[v]:=by
 rw [take_snoc _ _ _ hv];simp only [viol,List.filter_append]
 simp at h;simp [h]
theorem viol_skip {rider:Int} {l:List V} {k:Nat} {v:V} (hv:l[k]?=some v) (h:(decide (v.rider=rider)&&decide (v.kind=2))=false):viol rider (l.take (k+1))=viol rider (l.take k):=by
 rw [take_snoc _ _ _ hv];simp only [viol,List.filter_append]
 simp at h;simp;exact h
theorem viol_pre {rider:Int} {l:List V} {k:Nat}:viol rider (l.take k)<+:viol rider l:=by
 unfold viol;exact (List.take_prefix k l).filter _
theorem viol_iter (bl br:Nat) (A:Option Addr) (n c:Nat) (rider:Int) (vs:List V):
  IterOK Tryz.prog 293 #[.pointer (some ⟨bl,0,none⟩), .pointer (some ⟨br,0,none⟩)] (fun v:V=> #[.agg v.cells.toArray]) (viol rider vs) (Reads bl br A n c rider vs):=by
 intro l J Jx W hR hJ sJ sJx hY
 refine H_enter Tryz.func293 rfl Tryz.ntmps293 rfl ?_
 obtain ⟨hcl,hcr,hbl,hbr,hv⟩:=id hR
 have hn:=hv.2.1
 have hl:=hv.1
 iterate 8 refine G ?_
 clear hcl hcr hbl hbr hv
 refine H_loopW [5,8,9,10,11,12,13,14,15,16,17,18,19,20,21,22,23,24,25,26,27] (fun s:World×Nat=>[(8, .int .i64 s.2)]) (fun s=>s.1) (fun _=>[]) (fun s=>s.2≤n∧Reads bl br A n c rider vs s.1∧J (viol rider (vs.take s.2)) s.1) (fun s=>n -s.2) (W,0) ⟨rfl,trivial⟩ (fun _ h=>h) rfl ⟨Nat.zero_le _,hR,hJ⟩ ?_
 rintro ⟨W1,k⟩ g ⟨hk,hR1,hJ1⟩
 dsimp only at hk hR1 hJ1⊢
 iterate 6 refine G ?_
 refine H_cond rfl ?_ ?_<;>intro hlt
 ·simp at hlt
  obtain ⟨hcl,hcr,hbl,hbr,hv⟩:=id hR1
  obtain ⟨b,off,v,rfl,hvb,hvk,hrow⟩:=hv.at_ hlt
  iterate 6 refine G ?_
  refine xV (e_idx _ Tryz.underlying193 Tryz.sizeOf208 (q0 rfl) (q0 rfl) (fun _=>⟨rfl,by omega⟩)) rfl rfl ?_
  refine G ?_
  refine X_alloc Tryz.zeroValue208 rfl fun b5=>?_
  refine X_st (v:= .agg _) rfl rfl Tryz.sizeOf208 ?_
  iterate 16 refine G ?_
  refine X_yield (A:=fun W'=>J (viol rider (vs.take (k+1))) W'∧Reads bl br (some ⟨b,off,none⟩) n c rider vs W') (B:=Jx) (Gd_true rfl rfl) (q1 rfl) (ha1 (q1 rfl)) rfl rfl (fun h w hw=>?_) (fun h=>?_) (fun h W2 hW2=>?_) (fun h W2 hW2=>?_)
  ·have:=hY (viol rider (vs.take k)) v w (by rw [←viol_snoc hvk h];exact viol_pre) (hR1.below hw.1) (sJ _ _ _ hJ1 hw.1)
   rw [viol_snoc hvk h]
   exact this
  ·iterate 4 refine G ?_
   refine H_cond rfl ?_ ?_<;>intro hc
   ·rw [h] at hc;simp at hc
   ·iterate 7 refine G ?_
    exact loopJ_normal (W1,k+1) agr ⟨rfl,trivial⟩ (fun _ h=>h.tail) rfl ⟨by dsimp only;omega,hR1,by rw [viol_skip hvk h];exact hJ1⟩ (by show n -(k+1)<n -k;omega)
  ·iterate 4 refine G ?_
   refine H_cond rfl ?_ ?_<;>intro hc
   ·simp at hc
   ·iterate 7 refine G ?_
    exact loopJ_normal (W2,k+1) agr ⟨rfl,trivial⟩ (fun _ h=>h) rfl ⟨by dsimp only;omega,hW2.2,hW2.1⟩ (by show n -(k+1)<n -k;omega)
  ·iterate 4 refine G ?_
   refine H_cond rfl ?_ ?_<;>intro hc
   ·iterate 5 refine G ?_
    exact ret0 rfl rfl fun w' hw=>⟨rfl, .inr (sJx _ _ hW2 hw.1)⟩
   ·rw [h] at hc;simp at hc
 ·simp at hlt
  iterate 4 refine G ?_
  refine end0 rfl rfl fun w' hw=>⟨rfl, .inl (sJ _ _ _ ?_ hw.1)⟩
  rw [List.take_of_length_le (by omega)] at hJ1
  exact hJ1
end Go.Proofs.Pen
namespace Go.Proofs.Pen
open Go Go.RowKit Go.Proofs.E
def late (days:Int) (v x:V):Bool:=before x v&&inDays days x v
theorem cnt_eq (days:Int) (l:List V) (v:V):cnt days l v=((viol v.rider l).filter (late days v)).length:=by
 unfold cnt viol
 rw [List.filter_filter]
 congr 1
 apply List.filter_congr
 intro x _
 simp only [hit,late]
 rw [Bool.and_comm]
def nth (days:Int) (v:V) (pre:List V):Int:=1+((pre.filter (late days v)).length:Int)
theorem nth_yes {days:Int} {v x:V} {pre:List V} (h:late days v x=true):nth days v (pre++[x])=nth days v pre+1:=by
 unfold nth;rw [List.filter_append];simp [h];omega
theorem nth_no {days:Int} {v x:V} {pre:List V} (h:late days v x=false):nth days v (pre++[x])=nth days v pre:=by
 unfold nth;rw [List.filter_append];simp [h]
theorem nth_le {days:Int} {v:V} {pre:List V}:1≤nth days v pre∧nth days v pre≤1+pre.length:=by
 unfold nth;have:=List.length_filter_le (late days v) pre;omega
theorem num_bad {days:Int} {l:List V} {v:V} (h:v.kind=2):num days l v=nth days v (viol v.rider l):=by
 unfold num nth;rw [if_pos h,cnt_eq]
theorem viol_mem {rider:Int} {l:List V} {x:V} (h:x∈viol rider l):x∈l:=(List.mem_filter.1 h).1
theorem viol_len {rider:Int} {l:List V}:(viol rider l).length≤l.length:=List.length_filter_le _ _
def Timely (l:List V):Prop:= ∀x∈l,0≤x.moment∧x.moment≤4294943999
theorem number_w (a0 a1 a2 a3 a4:Value) (fA:Option Addr) (fn fc:Nat) (days:Int) (A:Option Addr) (n c:Nat) (vs:List V) (v:V) (w:World) (hx:VsAt w A n vs) (h256:vs.length≤256) (ht:Timely vs) (hv:0≤v.moment∧v.moment≤4294943999) (hd:0≤days∧days≤49709):
  Calls Tryz.prog 173 #[.agg #[a0,a1,a2,a3,a4, .slice fA fn fc, .int .i64 days], .slice A n c, .agg v.cells.toArray] w fun e w'=>e= .returned (.int .i64 (num days vs v))∧Bel w w':=by
 have hl:=hx.1
 refine H_enter Tryz.func173 rfl Tryz.ntmps173 rfl ?_
 iterate 2 refine G ?_
 refine X_box (v:= .agg _) rfl rfl fun b3=>?_
 refine X_box (v:= .agg _) rfl rfl fun b5=>?_
 iterate 11 refine G ?_
 refine H_cond rfl ?_ ?_<;>intro hk
 ·iterate 7 refine G ?_
  exact ret1 (v:= .int _ _) rfl rfl rfl fun w' hw=>⟨ret_int (by simp at hk;unfold num;rw [if_neg hk]),hw.1⟩
 ·have hk2:v.kind=2:=by simpa using hk
  iterate 4 refine G ?_
  refine X_alloc Tryz.zeroValue3 rfl fun b7=>?_
  refine X_st (v:= .int _ _) rfl rfl Tryz.sizeOf3 ?_
  iterate 8 refine G ?_
  refine xCX (en Tryz.call234 (ha2 (q0 rfl) (q0 rfl))) (fun w _=>viol_make A n c v.rider w) rfl (fun _=>rfl) fun x=>?_
  iterate 3 refine G ?_
  refine H_range (viol v.rider vs) (Reads x.1 x.2 A n c v.rider vs) (fun pre=>[box x.2 3 [.int .i64 v.rider],box x.1 193 [.slice A n c],box b7 3 [.int .i64 (nth days v pre)],box b5 208 v.cells,box b3 28 [a0,a1,a2,a3,a4, .slice fA fn fc, .int .i64 days]]) (fun _ _=>False) rfl rfl Tryz.call293 (viol_iter x.1 x.2 A n c v.rider vs) (fun _=>rfl) rfl (fun _ h=>h) (fun _=>rfl) (fun _ _ h=>h.elim) (fun pre w hw=>⟨box_cell hw (k:=1) rfl rfl,box_cell hw (k:=0) rfl rfl,(hw.itemLt (k:=1) rfl rfl).2,(hw.itemLt (k:=0) rfl rfl).2,hx.mem hw⟩) ?_ ?_ (fun _ _ _ h=>h.elim) rfl
  ·rintro l D r pre y hpre -
   have hy:y∈viol v.rider vs:=hpre.subset (by simp)
   have hym:=ht y (viol_mem hy)
   have hnl:=nth_le (days:=days) (v:=v) (pre:=pre)
   have hpl:pre.length≤256:=by have h1:=hpre.length_le;have h2:=viol_len (rider:=v.rider) (l:=vs);simp at h1;omega
   refine G ?_
   refine X_alloc Tryz.zeroValue208 rfl fun b8=>?_
   refine X_st (v:= .agg _) rfl rfl Tryz.sizeOf208 ?_
   refine G ?_
   refine asgJ_normal _ rfl rfl (fun w hw=>hw.pick [1,2,0,3,4,5,6,7] (by decide)) fun r'=>?_
   iterate 5 refine G ?_
   refine xC (en Tryz.call235 (ha2 (q0 rfl) (q0 rfl))) (fun _ w _=>before_w y v w) rfl rfl ?_
   iterate 3 refine G ?_
   refine xVT (e_quo (q1 rfl) (q0 rfl) (fun _=>by omega)) rfl rfl rfl rfl ?_
   iterate 2 refine G ?_
   refine xVT (e_quo (q1 rfl) (q0 rfl) (fun _=>by omega)) rfl rfl rfl rfl ?_
   iterate 7 refine G ?_
   refine H_cond rfl ?_ ?_<;>intro hc
   ·iterate 3 refine G ?_
    refine X_st (v:= .int _ _) rfl rfl Tryz.sizeOf3 ?_
    iterate 2 refine G ?_
    exact roundJ_normal fun w hw=>by rw [nth_yes hc];exact hw.pick [0,1,3,4,5,6,7] (by decide)
   ·iterate 2 refine G ?_
    exact roundJ_normal fun w hw=>by rw [nth_no hc];exact hw.pick [0,1,3,4,5,6,7] (by decide)
  ·intro D
   iterate 9 refine G ?_
   exact ret_of_m rfl (res1 (v:= .int _ _) rfl rfl) fun w' hw=>⟨ret_int (num_bad hk2).symm,hw.1⟩
theorem num_nonneg {days:Int} {l:List V} {v:V}:0≤num days l v∧num days l v≤1+l.length:=by
 unfold num cnt
 have:=List.length_filter_le (hit days v) l
 split<;>omega
theorem fine_zero {fines:List Int} {days:Int} {l:List V} {v:V} (h:(if (fines.length:Int)<num days l v then (fines.length:Int) else num days l v)=0):fine fines days l v=0:=by
 have:=num_nonneg (days:=days) (l:=l) (v:=v)
 unfold fine
 rw [if_pos]
 split at h<;>omega
theorem fine_some {fines:List Int} {days:Int} {l:List V} {v:V} {x:Int} (h: ¬(if (fines.length:Int)<num days l v then (fines.length:Int) else num days l v)=0)
  (hx:fines[((if (fines.length:Int)<num days l v then (fines.length:Int) else num days l v) -1).toNat]?=some x):fine fines days l v=x:=by
 have hn:=num_nonneg (days:=days) (l:=l) (v:=v)
 unfold fine
 rw [if_neg (by split at h<;>omega),List.getD_eq_getElem?_getD]
 have:min (num days l v).toNat fines.length -1=((if (fines.length:Int)<num days l v then (fines.length:Int) else num days l v) -1).toNat:=by split<;>omega
 rw [this,hx];rfl
theorem fine_w (a0 a1 a2 a3 a4:Value) (fA:Option Addr) (fn fc:Nat) (fines:List Int) (days:Int) (A:Option Addr) (n c:Nat) (vs:List V) (v:V) (w:World) (hf:IntsAt w fA fn fines) (hx:VsAt w A n vs) (h256:vs.length≤256) (ht:Timely vs) (hv:0≤v.moment∧v.moment≤4294943999) (hd:0≤days∧days≤49709):
  Calls Tryz.prog 174 #[.agg #[a0,a1,a2,a3,a4, .slice fA fn fc, .int .i64 days], .slice A n c, .agg v.cells.toArray] w fun e w'=>e= .returned (.int .i64 (fine fines days vs v))∧Bel w w':=by
 have hl:=hf.1
 have hn:=num_nonneg (days:=days) (l:=vs) (v:=v)
 subst hl
 refine H_enter Tryz.func174 rfl Tryz.ntmps174 rfl ?_
 iterate 2 refine G ?_
 refine X_box (v:= .agg _) rfl rfl fun b3=>?_
 refine X_box (v:= .agg _) rfl rfl fun b5=>?_
 iterate 4 refine G ?_
 refine R1 rfl (by decide+kernel) ?_
 iterate 3 refine G ?_
 refine xC (en Tryz.call173 (ha3 (q0 rfl) (q0 rfl) (q0 rfl))) (fun _ w hm=>number_w a0 a1 a2 a3 a4 fA fines.length fc days A n c vs v w (hx.mem hm) h256 ht hv hd) rfl rfl ?_
 iterate 3 refine G ?_
 refine xV (e_min (q0 rfl) (q0 rfl)) rfl rfl ?_
 iterate 10 refine G ?_
 refine H_cond rfl ?_ ?_<;>intro hz
 ·iterate 7 refine G ?_
  exact ret1 (v:= .int _ _) rfl rfl rfl fun w' hw=>⟨ret_int (fine_zero (by simpa using hz)).symm,hw.1⟩
 ·have hz':=of_decide_eq_false hz
  obtain ⟨b,off,x,rfl,hbl,hxk,hr⟩:=hf.at_ (i:=((if (fines.length:Int)<num days vs v then (fines.length:Int) else num days vs v) -1).toNat) (by split at hz'<;>split<;>omega)
  iterate 7 refine G ?_
  refine xV (e_sub (q0 rfl) (q0 rfl) (fun _=>⟨rfl,by split<;>omega,by split<;>omega⟩)) rfl rfl ?_
  refine xV (e_idx _ Tryz.underlying22 Tryz.sizeOf3 (q0 rfl) (q0 rfl) (fun _=>⟨(Int.toNat_of_nonneg (by split at hz'<;>split<;>omega)).symm,by split at hz'<;>split<;>omega⟩)) rfl rfl ?_
  iterate 5 refine G ?_
  exact ret1 (v:= .int _ _) rfl rfl rfl fun w' hw=>⟨ret_int (fine_some hz' hxk).symm,hw.1⟩
theorem check2_w (a0 a1 a2 a3 a4:Value) (fA:Option Addr) (fn fc:Nat) (fines:List Int) (days:Int) (A:Option Addr) (n c:Nat) (vs:List V) (w:World) (hf:IntsAt w fA fn fines) (hx:VsAt w A n vs):
  Calls Tryz.prog 172 #[.agg #[a0,a1,a2,a3,a4, .slice fA fn fc, .int .i64 days], .slice A n c] w fun e w'=>e= .returned (.int .i64 (cErr fines days vs))∧Bel w w':=by
 refine H_enter Tryz.func172 rfl Tryz.ntmps172 rfl ?_
 iterate 2 refine G ?_
 refine X_box (v:= .agg _) rfl rfl fun b2=>?_
 iterate 7 refine G ?_
 refine xC (en Tryz.call74 (ha1 (q0 rfl))) (fun _ w hm=>check_w a0 a1 a2 a3 a4 fA fn fc fines days w (hf.mem hm)) rfl rfl ?_
 iterate 9 refine G ?_
 refine H_cond rfl ?_ ?_<;>intro hz
 ·iterate 8 refine G ?_
  exact ret1 (v:= .int _ _) rfl rfl rfl fun w' hw=>⟨ret_int (by simp at hz;unfold cErr;rw [if_pos hz]),hw.1⟩
 ·iterate 5 refine G ?_
  refine xC (en Tryz.call106 (ha1 (q0 rfl))) (fun _ w hm=>verd_w A n c vs w (hx.mem hm)) rfl rfl ?_
  iterate 4 refine G ?_
  exact ret1 (v:= .int _ _) rfl rfl rfl fun w' hw=>⟨ret_int (by simp at hz;unfold cErr;rw [if_neg (by simpa using hz)]),hw.1⟩
theorem vErrL_ok {seen l:List V} (h:vErrL seen l=0): ∀x∈l,vBad x=0:=by
 induction l generalizing seen with
 |nil=>simp
 |cons v l ih=>
  unfold vErrL at h
  by_cases h1:vOne seen v≠0
  ·rw [if_pos h1] at h;exact absurd h h1
  ·rw [if_neg h1] at h
   intro x hx
   rcases List.mem_cons.1 hx with rfl|hx
   ·simp only [ne_eq,Decidable.not_not] at h1
    unfold vOne at h1
    split at h1
    ·exact h1
    ·rename_i hb;simpa using hb
   ·exact ih h x hx
theorem vErr_ok {l:List V} (h:vErr l=0):l.length≤256∧ ∀x∈l,vBad x=0:=by
 unfold vErr at h
 split at h
 ·cases h
 ·exact ⟨by omega,vErrL_ok h⟩
theorem vBad_ok {v:V} (h:vBad v=0):1≤v.ride∧v.ride≤1000000∧0≤v.rider∧v.rider<128∧0≤v.moment∧v.moment≤4294943999∧1≤v.kind∧v.kind≤3:=by
 unfold vBad at h
 split at h
 ·cases h
 ·split at h
  ·cases h
  ·omega
theorem timely_of {l:List V} (h:vErr l=0):Timely l:=fun x hx=>by
 have:=vBad_ok ((vErr_ok h).2 x hx);omega
theorem pErr_ok2 {xs:List Int} {d:Int} (h:pErr xs d=0):xs.length≤512∧(∀x∈xs,0≤x∧x≤1000000)∧0≤d∧d≤49709:=by
 unfold pErr at h
 split at h
 ·cases h
 ·split at h
  ·cases h
  ·split at h
   ·cases h
   ·rename_i h1 h2 h3
    refine ⟨by omega,fun x hx=>?_,by omega⟩
    simp only [List.any_eq_true,not_exists,not_and,Bool.not_eq_true] at h2
    have:=h2 x hx
    simp [fineBad] at this;omega
theorem cErr_ok {fines:List Int} {d:Int} {l:List V} (h:cErr fines d l=0):pErr fines d=0∧vErr l=0:=by
 unfold cErr at h
 split at h
 ·rename_i h1;exact absurd h h1
 ·rename_i h1;exact ⟨by simpa using h1,h⟩
theorem Number_w (a0 a1 a2 a3 a4:Value) (fA:Option Addr) (fn fc:Nat) (fines:List Int) (days:Int) (A:Option Addr) (n c:Nat) (vs:List V) (i:Int) (w:World) (hf:IntsAt w fA fn fines) (hx:VsAt w A n vs):
  Calls Tryz.prog 116 #[.agg #[a0,a1,a2,a3,a4, .slice fA fn fc, .int .i64 days], .slice A n c, .int .i64 i] w fun e w'=>e= .returned (.tuple #[.int .i64 (numR fines days vs i).1, .int .i64 (numR fines days vs i).2])∧Bel w w':=by
 have hl:=hx.1
 refine H_enter Tryz.func116 rfl Tryz.ntmps116 rfl ?_
 iterate 2 refine G ?_
 refine X_box (v:= .agg _) rfl rfl fun b3=>?_
 iterate 9 refine G ?_
 refine xC (en Tryz.call172 (ha2 (q0 rfl) (q0 rfl))) (fun _ w hm=>check2_w a0 a1 a2 a3 a4 fA fn fc fines days A n c vs w (hf.mem hm) (hx.mem hm)) rfl rfl ?_
 iterate 9 refine G ?_
 refine H_cond rfl ?_ ?_<;>intro hz
 ·iterate 9 refine G ?_
  exact ret2 (v:= .int _ _) (x:= .int _ _) rfl rfl rfl rfl fun w' hw=>⟨by simp at hz;unfold numR;rw [if_pos hz]<;>rfl,hw.1⟩
 ·have hz':cErr fines days vs=0:=by simpa using hz
  obtain ⟨hp,hv⟩:=cErr_ok hz'
  iterate 15 refine G ?_
  refine H_cond rfl ?_ ?_<;>intro hi
  ·iterate 8 refine G ?_
   exact ret2 (v:= .int _ _) (x:= .int _ _) rfl rfl rfl rfl fun w' hw=>⟨by unfold numR;rw [if_neg (by simpa using hz'),if_pos (by simp at hi;omega)]<;>rfl,hw.1⟩
  ·simp at hi
   obtain ⟨k,rfl⟩:=Int.eq_ofNat_of_zero_le hi.1
   obtain ⟨b,off,v,rfl,hbl,hvk,hr⟩:=hx.at_ (i:=k) (by omega)
   iterate 3 refine G ?_
   refine R1 rfl (by decide+kernel) ?_
   iterate 4 refine G ?_
   refine xV (e_idx _ Tryz.underlying193 Tryz.sizeOf208 (q0 rfl) (q0 rfl) (fun _=>⟨rfl,by omega⟩)) rfl rfl ?_
   refine G ?_
   refine xC (en Tryz.call173 (ha3 (q0 rfl) (q0 rfl) (q0 rfl))) (fun _ w hm=>number_w a0 a1 a2 a3 a4 fA fn fc days _ n c vs v w (hx.mem hm) (vErr_ok hv).1 (timely_of hv) (timely_of hv v (List.mem_of_getElem? hvk)) (pErr_ok2 hp).2.2) rfl rfl ?_
   iterate 5 refine G ?_
   exact ret2 (v:= .int _ _) (x:= .int _ _) rfl rfl rfl rfl fun w' hw=>⟨by unfold numR;rw [if_neg (by simpa using hz'),if_neg (by omega),List.getD_eq_getElem?_getD,Int.toNat_natCast,hvk]<;>rfl,hw.1⟩
theorem Fine_w (a0 a1 a2 a3 a4:Value) (fA:Option Addr) (fn fc:Nat) (fines:List Int) (days:Int) (A:Option Addr) (n c:Nat) (vs:List V) (i:Int) (w:World) (hf:IntsAt w fA fn fines) (hx:VsAt w A n vs):
  Calls Tryz.prog 117 #[.agg #[a0,a1,a2,a3,a4, .slice fA fn fc, .int .i64 days], .slice A n c, .int .i64 i] w fun e w'=>e= .returned (.tuple #[.int .i64 (fineR fines days vs i).1, .int .i64 (fineR fines days vs i).2])∧Bel w w':=by
 have hl:=hx.1
 refine H_enter Tryz.func117 rfl Tryz.ntmps117 rfl ?_
 iterate 2 refine G ?_
 refine X_box (v:= .agg _) rfl rfl fun b3=>?_
 iterate 9 refine G ?_
 refine xC (en Tryz.call172 (ha2 (q0 rfl) (q0 rfl))) (fun _ w hm=>check2_w a0 a1 a2 a3 a4 fA fn fc fines days A n c vs w (hf.mem hm) (hx.mem hm)) rfl rfl ?_
 iterate 9 refine G ?_
 refine H_cond rfl ?_ ?_<;>intro hz
 ·iterate 9 refine G ?_
  exact ret2 (v:= .int _ _) (x:= .int _ _) rfl rfl rfl rfl fun w' hw=>⟨by simp at hz;unfold fineR;rw [if_pos hz]<;>rfl,hw.1⟩
 ·have hz':cErr fines days vs=0:=by simpa using hz
  obtain ⟨hp,hv⟩:=cErr_ok hz'
  iterate 15 refine G ?_
  refine H_cond rfl ?_ ?_<;>intro hi
  ·iterate 8 refine G ?_
   exact ret2 (v:= .int _ _) (x:= .int _ _) rfl rfl rfl rfl fun w' hw=>⟨by unfold fineR;rw [if_neg (by simpa using hz'),if_pos (by simp at hi;omega)]<;>rfl,hw.1⟩
  ·simp at hi
   obtain ⟨k,rfl⟩:=Int.eq_ofNat_of_zero_le hi.1
   obtain ⟨b,off,v,rfl,hbl,hvk,hr⟩:=hx.at_ (i:=k) (by omega)
   iterate 3 refine G ?_
   refine R1 rfl (by decide+kernel) ?_
   iterate 4 refine G ?_
   refine xV (e_idx _ Tryz.underlying193 Tryz.sizeOf208 (q0 rfl) (q0 rfl) (fun _=>⟨rfl,by omega⟩)) rfl rfl ?_
   refine G ?_
   refine xC (en Tryz.call174 (ha3 (q0 rfl) (q0 rfl) (q0 rfl))) (fun _ w hm=>fine_w a0 a1 a2 a3 a4 fA fn fc fines days _ n c vs v w (hf.mem hm) (hx.mem hm) (vErr_ok hv).1 (timely_of hv) (timely_of hv v (List.mem_of_getElem? hvk)) (pErr_ok2 hp).2.2) rfl rfl ?_
   iterate 5 refine G ?_
   exact ret2 (v:= .int _ _) (x:= .int _ _) rfl rfl rfl rfl fun w' hw=>⟨by unfold fineR;rw [if_neg (by simpa using hz'),if_neg (by omega),List.getD_eq_getElem?_getD,Int.toNat_natCast,hvk]<;>rfl,hw.1⟩
end Go.Proofs.Pen
namespace Go.Proofs.Far
open Go.Proofs.Cus Go.Proofs.Rid
structure Itm where
 kind:Int
 ref:Int
 amount:Int
deriving DecidableEq,Inhabited
structure Bil where
 ride:Int
 rider:Int
 items:List Itm
 total:Int
deriving DecidableEq,Inhabited
def addB (b:Bil) (k r a:Int):Bil:=if a=0 then b else {b with items:=b.items++[⟨k,r,a⟩],total:=b.total+a}
theorem addB_total (b:Bil) (k r a:Int):(addB b k r a).total=b.total+a:=by
 unfold addB
 split
 ·omega
 ·rfl
theorem addB_ride (b:Bil) (k r a:Int):(addB b k r a).ride=b.ride∧(addB b k r a).rider=b.rider:=by
 unfold addB
 split<;>exact ⟨rfl,rfl⟩
theorem addB_len (b:Bil) (k r a:Int):(addB b k r a).items.length≤b.items.length+1:=by
 unfold addB
 split
 ·omega
 ·simp
def placeP (p:Pr) (r:Rd):Int×Int:=
 if r.wh=2∧0≤r.pl∧r.pl<p.places.length then (p.places.getD r.pl.toNat 0,r.pl)
 else if r.wh=1∧0≤r.pl∧r.pl/32<p.docks.length then (p.docks.getD (r.pl/32).toNat 0,64+r.pl/32)
 else (0,0)
def verO (p:Pr) (r:Rd):Nat:=atP p.tariffs r.start.lo
def verT (p:Pr) (r:Rd):Tf:=p.tariffs.getD (verO p r) default
def baseB (p:Pr) (r:Rd):Bil:=addB (addB (addB ⟨r.id,r.rider,[],0⟩ 1 (verO p r) (verT p r).unlock) 2 (verO p r) (ridP (verT p r) (ridS r))) 3 (verO p r) (pauP (verT p r) (pauS r))
def plcB (p:Pr) (r:Rd):Bil:=addB (baseB p r) 4 (placeP p r).2 (max (placeP p r).1 (-(baseB p r).total))
def partP (p:Pr) (r:Rd) (by_:Int):Int:=ridP (verT p r) (min (ridS r) (p.passes.getD by_.toNat default).secs)
def passB (p:Pr) (r:Rd) (by_:Int):Bil:=if 0≤by_ then addB (plcB p r) 5 by_ (-(min (plcB p r).total ((verT p r).unlock+partP p r by_))) else plcB p r
def firstP (p:Pr) (r:Rd) (by_:Int):Option Bil:=
 if 1000000000000<ridP (verT p r) (ridS r) then none
 else if 1000000000000<pauP (verT p r) (pauS r) then none
 else if 0≤by_∧1000000000000<partP p r by_ then none
 else if 1000000000000<(passB p r by_).total then none
 else some (passB p r by_)
theorem prErr_parts {f:Fl} {p:Pr} (h:prErr f p=0):flErr f=0∧tfErr p.tariffs=0∧pasErr p.passes=0∧p.docks.length=f.docks.length∧p.places.length≤64∧(∀x∈p.places++p.docks,feeBad x=false)∧0≤p.cap∧p.cap≤1000000000000∧Pen.pErr p.fines p.days=0:=by
 unfold prErr at h
 split at h
 ·omega
 ·split at h
  ·omega
  ·split at h
   ·omega
   ·split at h
    ·omega
    ·split at h
     ·omega
     ·split at h
      ·omega
      ·rename_i h1 h2 h3 h4 h5 h6
       refine ⟨by omega,by omega,by omega,by omega,by omega,fun x hx=>?_,by omega,by omega,h⟩
       have h7:(p.places++p.docks).any feeBad=false:=by simpa using h5
       rw [List.any_eq_false] at h7
       simpa using h7 x hx
theorem ver_ok {p:Pr} {r:Rd} (h:tfErr p.tariffs=0):p.tariffs[verO p r]?=some (verT p r)∧tfOk (verT p r)=true:=by
 obtain ⟨h1,h2,h3⟩:=tfErr_ok h
 have hlt:=atP_lt h1 r.start.lo
 have:p.tariffs[verO p r]?=some (verT p r):=by
  unfold verT verO
  rw [List.getD_eq_getElem?_getD,List.getElem?_eq_getElem hlt];rfl
 exact ⟨this,h3 _ (List.mem_of_getElem? this)⟩
theorem steps_nn {t:Tf} (h:tfOk t=true) {s:Int} (hs:s≤4294944000):0≤stepsP t s∧stepsP t s≤4294944000:=steps_le (tfOk_iff.1 h).2.2.2.2.1 hs
theorem ridP_nn {t:Tf} (h:tfOk t=true) {s:Int} (hs:s≤4294944000):0≤ridP t s:=by
 have h2:=tfOk_iff.1 h
 have h3:=steps_nn h (s:=s -t.free) (by omega)
 unfold ridP
 exact Int.mul_nonneg h2.2.2.1.1 h3.1
theorem pauP_nn {t:Tf} (h:tfOk t=true) {s:Int} (hs:s≤4294944000):0≤pauP t s:=by
 have h2:=tfOk_iff.1 h
 have h3:=steps_nn h (s:=s) hs
 unfold pauP
 exact Int.mul_nonneg h2.2.2.2.1.1 h3.1
theorem place_fee {f:Fl} {p:Pr} (h:prErr f p=0) (r:Rd): -1000000≤(placeP p r).1∧(placeP p r).1≤1000000:=by
 have hp:=(prErr_parts h).2.2.2.2.2.1
 have key: ∀(l:List Int) (k:Nat),(∀x∈l,feeBad x=false)→ -1000000≤l.getD k 0∧l.getD k 0≤1000000:=by
  intro l k hl
  rw [List.getD_eq_getElem?_getD]
  cases hk:l[k]? with
  |none=>simp
  |some x=>
   have:=hl x (List.mem_of_getElem? hk)
   unfold feeBad at this
   simp at this
   simp only [Option.getD_some]
   omega
 unfold placeP
 split
 ·exact key _ _ fun x hx=>hp x (List.mem_append.2 (.inl hx))
 ·split
  ·exact key _ _ fun x hx=>hp x (List.mem_append.2 (.inr hx))
  ·simp
theorem base_total (p:Pr) (r:Rd):(baseB p r).total=(verT p r).unlock+ridP (verT p r) (ridS r)+pauP (verT p r) (pauS r):=by
 unfold baseB
 rw [addB_total,addB_total,addB_total]
 simp
theorem plc_total (p:Pr) (r:Rd):(plcB p r).total=(baseB p r).total+max (placeP p r).1 (-(baseB p r).total):=by unfold plcB;rw [addB_total]
theorem pass_total (p:Pr) (r:Rd) (by_:Int):(passB p r by_).total=if 0≤by_ then (plcB p r).total -min (plcB p r).total ((verT p r).unlock+partP p r by_) else (plcB p r).total:=by
 unfold passB
 split
 ·rw [addB_total];omega
 ·rfl
end Go.Proofs.Far
namespace Go.Proofs.Far
open Go Go.RowKit Go.Proofs.E Go.Proofs.Cus
section
variable {α:Type} {e t t2:TypeId} {k:Nat} {enc:α→List Value} {c:Cx} {w0:World} {L:List E.Item} {f:Fr} {K:List E.Item→Fr→Prop} {d:Nat} {ty:TypeId} {pos:String} {af:Array Edge} {x y:Operand} {g:Bool}
theorem setAt_all: ∀(vs P C:List Value),vs.length=C.length→setAt (P++C) P.length vs=P++vs
 |[],P,C,h=>by
  have:C=[]:=List.eq_nil_of_length_eq_zero h.symm
  subst this;rfl
 |v::vs,P,[],h=>by cases h
 |v::vs,P,u::C,h=>by
  unfold setAt
  have h1:(P++u::C).set P.length v=(P++[v])++C:=by simp
  have h2:P.length+1=(P++[v]).length:=by simp
  rw [h1,h2,setAt_all vs (P++[v]) C (by simpa using h)]
  simp
theorem f_copy (j:Nat) {b n m cB:Nat} {B:Option Addr} {i:TypeInfo} {xs ys:List α} (ht:c.P.underlying t=some (.slice e)) (hi:c.P.info? e=some i) (hsize:i.size=k)
  (he: ∀x,(enc x).length=k) (h1: ∀x,(enc x).all oneCell=true) (hx:ev f x= .slice (some ⟨b,0,none⟩) n m) (hy:ev f y= .slice B n cB)
  (hk:L[j]?=some (rowT e k enc (some ⟨b,0,none⟩) n xs)) (hm:n=m) (hxl:xs.length=n) (hr: ∀w,Mem w0 L w→SlAt w k enc B n ys) (hd:Nat.blt d c.N=true)
  (next:K (L.set j (rowT e k enc (some ⟨b,0,none⟩) n ys)) (upd f d (.int .i64 n))):
  Eff c w0 L f ⟨some d, .call {callee:= .builtin .copy,args:= #[x,y],argTypes:= #[t,t2]},ty,pos,af,none⟩ K:=
 ⟨rfl,rfl,hd,fun w hw=>by
  subst hm
  obtain ⟨cs,hc,hrow⟩:=rowT_open (hw.item hk)
  have hS:=hr w hw
  have hyl:ys.length=n:=hS.1
  have hvl:(ys.flatMap enc).length=cs.length:=by rw [flat_len he,hyl,hrow.size]
  have hjL:=List.getElem?_eq_some_iff.1 hk
  have hw1:Mem w0 (L.set j (box b e cs)) w:=hw.swap hk (fun z hz=>by
   have:z=b:=hz
   subst this;rfl) hc
  have hk1:(L.set j (box b e cs))[j]?=some (box b e cs):=by simp [hjL.1]
  have ho:(ys.flatMap enc).all oneCell=true:=by
   rw [List.all_eq_true]
   intro v hv
   obtain ⟨z,hz,hvz⟩:=List.mem_flatMap.1 hv
   exact List.all_eq_true.1 (h1 z) v hvz
  obtain ⟨w',hrun,hm',_,_⟩:=run_storeCells2 (P:=c.P) (b:=b) (t:=e) (o:=0) (k:=j) (ys.flatMap enc) 0 cs w _ hw1 hk1 ho (by omega)
  have hset:setAt cs (0+0) (ys.flatMap enc)=ys.flatMap enc:=by
   have:=setAt_all (ys.flatMap enc) [] cs hvl
   simpa using this
  rw [List.set_set,hset] at hm'
  have hk2:(L.set j (box b e (ys.flatMap enc)))[j]?=some (box b e (ys.flatMap enc)):=by simp [hjL.1]
  have hm2:Mem w0 (L.set j (rowT e k enc (some ⟨b,0,none⟩) n ys)) w':=by
   have:=hm'.swap hk2 (it':=rowT e k enc (some ⟨b,0,none⟩) n ys) (fun z hz=>by
    have:b=z:=by simpa [rowT] using hz
    exact this.symm) (rowT_close he (hm'.item hk2) ⟨by omega,hrow.max,by rw [hvl,hrow.size],[],by simp⟩)
   rwa [List.set_set] at this
  have hload:(Builtin.firstCells i.size n (.slice B n cB)).run c.P w= .ok (ys.flatMap enc).toArray w:=by
   cases B with
   |none=>
    have hn0:n=0:=by
     rcases Nat.eq_zero_or_pos n with h|h
     ·exact h
     ·obtain ⟨b',off,hb,_⟩:=hS.2.2 h;cases hb
    have:ys=[]:=List.eq_nil_of_length_eq_zero (by omega)
    subst this
    rfl
   |some a=>
    have hcells: ∀q v,(ys.flatMap enc)[q]?=some v→w.cell? (a.add q)=some v:=by
     intro q v hq
     obtain ⟨i',z,r,hz,hv,hqr⟩:=flat_inv he ys q v hq
     have hn:0<n:=by
      have:=(List.getElem?_eq_some_iff.1 hz).1
      omega
     obtain ⟨b',off,hB,_,hcl⟩:=hS.2.2 hn
     cases hB
     rw [add_none rfl]
     have:=hcl i' z hz r v hv
     rw [hqr]
     simpa [Nat.add_assoc] using this
    have hl:=run_loadCells_list (P:=c.P) w a (ys.flatMap enc) hcells
    rw [hvl,hrow.size,←hsize] at hl
    exact hl
  have hex:(execOp (ev f) ⟨some d, .call {callee:= .builtin .copy,args:= #[x,y],argTypes:= #[t,t2]},ty,pos,af,none⟩).run c.P w= .ok (.value (.int .i64 n)) w':=by
   have hst:(storeCells ⟨b,0,none⟩ (ys.flatMap enc) 0).run c.P w= .ok () w':=hrun
   simp [execOp,resolve,invoke,builtin,hx,hy,Builtin.copy_,run_underlying ht,Builtin.lenOf,sizeOf,typeInfo,hi,hload,hst,Result.andThen,goInt]
  rw [hex]
  exact ⟨_,hm2,marks_set hk rfl,next⟩⟩
theorem e_maxM {t1 t2:TypeId} {m n:Int} (hx:OpV g f x (.int .i64 m)) (hy:OpV g f y (.int .i64 n)):EvG g c w0 L f (.call {callee:= .builtin .max,args:= #[x,y],argTypes:= #[t1,t2]}) ty (.int .i64 (max m n)):=by
 rw [show max m n=if m<n then n else m by omega]
 exact e_max hx hy
theorem e_minM {t1 t2:TypeId} {m n:Int} (hx:OpV g f x (.int .i64 m)) (hy:OpV g f y (.int .i64 n)):EvG g c w0 L f (.call {callee:= .builtin .min,args:= #[x,y],argTypes:= #[t1,t2]}) ty (.int .i64 (min m n)):=fun e _ _ _ _ w _=>by
 have:(if n<m then n else m)=min m n:=by omega
 simp [execOp,resolve,invoke,builtin,hx e,hy e,Builtin.min_,Builtin.min2,←this]
theorem e_fnB {k:FuncId} {fo:Operand} {v:Value} (hx:OpV g f fo v):EvG g c w0 L f (.makeFunc (.func k) #[fo] #[]) ty (.func (.func k) #[v] #[]):=fun e _ _ _ _ w _=>by simp [execOp,Instr.makeFunc,hx e]
theorem enB {k:FuncId} {ao:Array Operand} {ts:Array TypeId} {al:List Value} {bd:List Value} {t:Nat} (he: ∀args w,(callFunc k args).run c.P w= .ok (.enter k args) w) (ht:OpV g f (.tmp t) (.func (.func k) bd.toArray #[])) (ha:g=true→bd++ao.toList.map (ev f)=al):
  EnterG g c w0 L f (.call {callee:= .value (.tmp t),args:=ao,argTypes:=ts}) ty k al.toArray:=fun e _ _ _ _ w _=>by
 have ha:bd.toArray++ao.map (ev f)=al.toArray:=by rw [map_ev,←ha e];simp
 simp [execOp,resolve,ht e,Deferred.ofValue,invoke,ha,he]
end
def Wn.cells (x:Wn):List Value:=[.int .i64 x.lo, .int .i64 x.hi]
abbrev WnsAt (w:World) (A:Option Addr) (n:Nat) (xs:List Wn):Prop:=SlAt w 2 Wn.cells A n xs
abbrev wnRow (A:Option Addr) (c:Nat) (xs:List Wn):E.Item:=rowT 153 2 Wn.cells A c xs
def cmpI (a b:Int):Int:=if a<b then -1 else if b<a then 1 else 0
theorem cmpI_ltOf (a b:Int):decide (cmpI a b<0)=decide (a<b):=by
 unfold cmpI
 by_cases h:a<b
 ·rw [if_pos h];simp [h]
 ·rw [if_neg h]
  by_cases h2:b<a
  ·rw [if_pos h2];simp [h]
  ·rw [if_neg h2];simp [h]
def orI (l:List Int):Int:=(l.find? fun x=>decide (x≠0)).getD 0
theorem isNaN_w (n:Int) (w:World):Calls Tryz.prog 159 #[.int .i64 n] w fun e w'=>e= .returned (.bool false)∧Bel w w':=by
 refine H_enter Tryz.func159 rfl Tryz.ntmps159 rfl ?_
 iterate 14 refine G ?_
 exact ret1 (v:= .bool _) rfl rfl rfl fun w' hw=>⟨ret_bool (by simp),hw.1⟩
theorem compare_w (a b:Int) (w:World):Calls Tryz.prog 104 #[.int .i64 a, .int .i64 b] w fun e w'=>e= .returned (.int .i64 (cmpI a b))∧Bel w w':=by
 refine H_enter Tryz.func104 rfl Tryz.ntmps104 rfl ?_
 iterate 8 refine G ?_
 refine xC (en Tryz.call159 (ha1 (q0 rfl))) (fun _ w _=>isNaN_w a w) rfl rfl ?_
 iterate 6 refine G ?_
 refine xC (en Tryz.call159 (ha1 (q0 rfl))) (fun _ w _=>isNaN_w b w) rfl rfl ?_
 iterate 9 refine G ?_
 refine H_cond rfl ?_ ?_<;>intro h1
 ·cases h1
 ·iterate 8 refine G ?_
  refine H_cond rfl ?_ ?_<;>intro h2
  ·cases h2
  ·iterate 10 refine G ?_
   refine H_cond rfl ?_ ?_<;>intro h3
   ·iterate 7 refine G ?_
    exact ret1 (v:= .int _ _) rfl rfl rfl fun w' hw=>⟨ret_int (by unfold cmpI;rw [if_pos (by simpa using h3)]),hw.1⟩
   ·iterate 10 refine G ?_
    refine H_cond rfl ?_ ?_<;>intro h4
    ·iterate 7 refine G ?_
     exact ret1 (v:= .int _ _) rfl rfl rfl fun w' hw=>⟨ret_int (by unfold cmpI;rw [if_neg (by simpa using h3),if_pos (by simpa using h4)]),hw.1⟩
    ·iterate 8 refine G ?_
     exact ret1 (v:= .int _ _) rfl rfl rfl fun w' hw=>⟨ret_int (by unfold cmpI;rw [if_neg (by simpa using h3),if_neg (by simpa using h4)]),hw.1⟩
theorem or_w (A:Option Addr) (n c:Nat) (xs:List Int) (w:World) (hx:IntsAt w A n xs):Calls Tryz.prog 109 #[.slice A n c] w fun e w'=>e= .returned (.int .i64 (orI xs))∧Bel w w':=by
 have hl:=hx.1
 have hn:=hx.2.1
 refine H_enter Tryz.func109 rfl Tryz.ntmps109 rfl ?_
 iterate 19 refine G ?_
 refine H_loop [2,5,8,9,10,11,12,13,14,15,16] (fun k:Nat=>[(8, .int .i64 k)]) (fun _=>_) (fun k=>k≤n∧(xs.take k).find? (fun x=>decide (x≠0))=none) (fun k=>n -k) 0 ⟨rfl,trivial⟩ (fun _ h=>h) rfl ⟨Nat.zero_le _,rfl⟩ ?_
 rintro k g ⟨hk,hno⟩
 iterate 6 refine G ?_
 refine H_cond rfl ?_ ?_<;>intro hlt
 ·simp at hlt
  obtain ⟨b,off,x,rfl,hbl,hxk,hrx⟩:=hx.at_ hlt
  iterate 6 refine G ?_
  refine xV (e_idx _ Tryz.underlying22 Tryz.sizeOf3 (q0 rfl) (q0 rfl) (fun _=>⟨rfl,by omega⟩)) rfl rfl ?_
  iterate 11 refine G ?_
  refine H_cond rfl ?_ ?_<;>intro h0
  ·iterate 12 refine G ?_
   exact ret1 (v:= .int _ _) rfl rfl rfl fun w' hw=>⟨ret_int (by
    unfold orI
    have h0':x≠0:=by simpa using h0
    rw [←List.take_append_drop k xs,List.find?_append,hno]
    obtain ⟨q1,q2⟩:=List.getElem?_eq_some_iff.1 hxk
    rw [List.drop_eq_getElem_cons q1,q2]
    simp [h0']),hw.1⟩
  ·iterate 7 refine G ?_
   exact loopJ_normal (k+1) agr ⟨rfl,trivial⟩ (fun _ h=>h) rfl ⟨by omega,by rw [snocT _ _ _ hxk,List.find?_append,hno];simp at h0;simp [h0]⟩ (by show n -(k+1)<n -k;omega)
 ·obtain rfl:k=n:=by simp at hlt;omega
  iterate 12 refine G ?_
  exact ret1 (v:= .int _ _) rfl rfl rfl fun w' hw=>⟨ret_int (by unfold orI;rw [List.take_of_length_le (by omega)] at hno;rw [hno];rfl),hw.1⟩
theorem wvalid_w (x:Wn) (w:World):Calls Tryz.prog 326 #[.agg x.cells.toArray] w fun e w'=>e= .returned (.bool (wnOk x))∧Bel w w':=by
 refine H_enter Tryz.func326 rfl Tryz.ntmps326 rfl ?_
 iterate 2 refine G ?_
 refine X_box (v:= .agg _) rfl rfl fun b1=>?_
 iterate 24 refine G ?_
 exact ret1 (v:= .bool _) rfl rfl rfl fun w' hw=>⟨ret_bool (by unfold wnOk;cases decide (0≤x.lo)<;>cases decide (x.lo≤x.hi)<;>simp),hw.1⟩
theorem wbad_w (x:Wn) (w:World):Calls Tryz.prog 325 #[.agg x.cells.toArray] w fun e w'=>e= .returned (.bool (!wnOk x))∧Bel w w':=by
 refine H_enter Tryz.func325 rfl Tryz.ntmps325 rfl ?_
 iterate 2 refine G ?_
 refine X_box (v:= .agg _) rfl rfl fun b1=>?_
 iterate 6 refine G ?_
 refine xC (en Tryz.call326 (ha1 (q0 rfl))) (fun _ w _=>wvalid_w x w) rfl rfl ?_
 iterate 5 refine G ?_
 exact ret1 (v:= .bool _) rfl rfl rfl fun w' hw=>⟨rfl,hw.1⟩
theorem wcmp_w (x y:Wn) (w:World):Calls Tryz.prog 328 #[.agg x.cells.toArray, .agg y.cells.toArray] w fun e w'=>e= .returned (.int .i64 (cmpI x.lo y.lo))∧Bel w w':=by
 refine H_enter Tryz.func328 rfl Tryz.ntmps328 rfl ?_
 iterate 2 refine G ?_
 refine X_box (v:= .agg _) rfl rfl fun b2=>?_
 refine X_box (v:= .agg _) rfl rfl fun b3=>?_
 iterate 9 refine G ?_
 refine xC (en Tryz.call104 (ha2 (q0 rfl) (q0 rfl))) (fun _ w _=>compare_w x.lo y.lo w) rfl rfl ?_
 iterate 4 refine G ?_
 exact ret1 (v:= .int _ _) rfl rfl rfl fun w' hw=>⟨rfl,hw.1⟩
theorem windex_w (A:Option Addr) (n c:Nat) (xs:List Wn) (w:World) (hx:WnsAt w A n xs):Calls Tryz.prog 344 #[.slice A n c, .func (.func 325) #[] #[]] w fun e w'=>(∃i:Int,e= .returned (.int .i64 i)∧(decide (0≤i)=xs.any fun x=>!wnOk x))∧Bel w w':=by
 have hl:=hx.1
 have hn:=hx.2.1
 refine H_enter Tryz.func344 rfl Tryz.ntmps344 rfl ?_
 iterate 14 refine G ?_
 refine H_loop [4,5,8,9,10,11,12,13,14,15,16,17,18] (fun k:Nat=>[(8, .int .i64 k)]) (fun _=>[]) (fun k=>k≤n∧((xs.take k).any fun x=>!wnOk x)=false) (fun k=>n -k) 0 ⟨rfl,trivial⟩ (fun w hw=>hw) rfl ⟨Nat.zero_le _,rfl⟩ ?_
 rintro k g ⟨hk,hall⟩
 iterate 6 refine G ?_
 refine H_cond rfl ?_ ?_<;>intro hlt
 ·have hlt':k<n:=by simpa using hlt
  obtain ⟨b,off,x,rfl,hbl,hxk,hrx⟩:=hx.at_ hlt'
  iterate 15 refine G ?_
  refine xV (e_idx _ Tryz.underlying315 Tryz.sizeOf153 (q0 rfl) (q0 rfl) (fun _=>⟨rfl,by omega⟩)) rfl rfl ?_
  refine G ?_
  refine xC (enV (cap:=[]) (al:=[.agg x.cells.toArray]) Tryz.call325 (q0 rfl) (fun hg=>by rw [ha1 (q0 (v:= .agg _) rfl) hg];rfl)) (fun _ w _=>wbad_w x w) rfl rfl ?_
  iterate 2 refine G ?_
  refine H_cond rfl ?_ ?_<;>intro hb
  ·have hb':(!wnOk x)=true:=hb
   iterate 12 refine G ?_
   exact ret1 (v:= .int _ _) rfl rfl rfl fun w' hw=>⟨⟨k,rfl,by rw [List.any_eq_true.2 ⟨x,List.mem_of_getElem? hxk,hb'⟩];simp⟩,hw.1⟩
  ·have hb':(!wnOk x)=false:=hb
   iterate 7 refine G ?_
   exact loopJ_normal (k+1) agr ⟨rfl,trivial⟩ (fun w hw=>hw) rfl ⟨by omega,by rw [snocT _ _ _ hxk,List.any_append,hall];simp [hb']⟩ (by show n -(k+1)<n -k;omega)
 ·have hend:k=n:=by simp at hlt;omega
  rw [hend,List.take_of_length_le (by omega)] at hall
  iterate 11 refine G ?_
  exact ret1 (v:= .int _ _) rfl rfl rfl fun w' hw=>⟨⟨-1,rfl,by rw [hall];rfl⟩,hw.1⟩
end Go.Proofs.Far
