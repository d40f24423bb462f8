import Derived.Test.YtakhechhnnjbcaaGreatBN21
import Derived.Test.YtakhechhnnjbcaaGreatBN18
import Derived.Test.YtakhechhnnjbcaaGreatBN19
import Derived.Test.YtakhechhnnjbcaaGreatBN20
import Derived.Test.YtakhechhnnjbcaaGreatBN04
import Derived.Test.YtakhechhnnjbcaaGreatTy
set_option maxRecDepth 100000
set_option maxHeartbeats 8000000
set_option linter.unusedVariables false
set_option linter.unusedSimpArgs false
namespace Go.Proofs.Rid
open Go Go.RowKit Go.Proofs.E Go.Proofs.Cus
def zSp:Sp:=⟨0,0,0,false⟩
theorem rep_set (k n:Nat) (h:k<n):(List.replicate k (-1:Int)++List.replicate (n -k) 0).set k (-1)=List.replicate (k+1) (-1)++List.replicate (n -(k+1)) 0:=by
 rw [List.set_append_right _ _ (by simp),show n -k=(n -(k+1))+1 by omega,List.replicate_succ,List.length_replicate,Nat.sub_self,List.set_cons_zero,List.replicate_succ',List.append_assoc]
 rfl
theorem rep_get (k n:Nat) (h:k<n):(List.replicate k (-1:Int)++List.replicate (n -k) 0)[k]?=some 0:=by
 rw [List.getElem?_append_right (by simp),List.length_replicate,Nat.sub_self,List.getElem?_replicate,if_pos (by omega)]
theorem Mem.bagPerm {w0 w:World} {T T' L:List E.Item} (h:Mem w0 (bag T::L) w) (hp:T'.Perm T):Mem w0 (bag T'::L) w:=
 (h.unbag.perm (List.Perm.append_right L hp)).bag
abbrev RdsOut (l:List Rd):Type:={y:Option Addr×Nat×List RX//y.2.2.map (·.r)=l}
theorem all_w (f:Fl) (a:FA) (A:Option Addr) (n c:Nat) (xs:List Ev) (w:World) (hf:FlAt w f a) (hx:EvsAt w A n xs) (hn:n≤1000) (hpl:PlOk xs) (hr20:(storyOf f xs).rides.length≤20):
  Calls Tryz.prog 63 #[.agg (f.cells a).toArray, .slice A n c] w fun r w'=> ∃y:RdsOut (allOf f xs),r= .returned (.tuple #[.slice y.1.1 y.1.2.2.length y.1.2.1, .int .i64 (flErr f)])∧Mem w [rdRow y.1.1 y.1.2.1 y.1.2.2,rdBag y.1.2.2] w':=by
 have hxl:=hx.1
 have hal:=accOf_len f xs
 refine H_enter Tryz.func63 rfl Tryz.ntmps63 rfl ?_
 iterate 2 refine G ?_
 refine X_box (v:= .agg _) rfl rfl fun b2=>?_
 iterate 8 refine G ?_
 refine xCX (en Tryz.call100 (ha2 (q0 rfl) (q0 rfl))) (fun w hw=>accepted_w f a A n c xs w (hf.mem hw) (hx.mem hw) (by omega) hpl) rfl (fun _=>rfl) fun r1=>?_
 iterate 14 refine G ?_
 refine H_cond rfl ?_ ?_<;>intro h1
 ·have h1':flErr f≠0:=by simpa using h1
  have ho:allOf f xs=[]:=by unfold allOf;rw [if_neg h1']
  iterate 9 refine G ?_
  exact ret2 (v:= .slice _ _ _) (x:= .int _ _) rfl rfl rfl rfl fun w' hw=>⟨⟨(none,0,[]),ho.symm⟩,rfl,((mem_nil.2 hw.1).noBag (f:=rdParts)).nilRow _ _ _ rfl⟩
 ·have h1':flErr f=0:=by simpa using h1
  obtain ⟨hbk,-⟩:=flErr_ok h1'
  have hnb:=nb_eq h1'
  have ho:allOf f xs=byId (storyOf f xs).rides:=by unfold allOf;rw [if_pos h1']
  have hjn:=joint_of h1' xs
  have hja:=fun k=>joint_at h1' xs k
  have hbikes: ∀e∈accOf f xs,0≤e.bike∧e.bike<(nbOf f:Int):=fun e he=>by
   obtain ⟨hrp,_⟩:=replay_of h1' xs (fun _=>())
   obtain ⟨k,hk⟩:=List.mem_iff_getElem?.1 he
   have:=(evErr_ok (hrp.at_ (g:=fun _=>()) hk).1).2.1
   rw [hnb] at this;exact this
  have hst:storyOf f xs=(accOf f xs).foldl tellY (beginSY (nbOf f)):=rfl
  rw [h1',ho]
  generalize hac0:accOf f xs=acc at*
  generalize hN:nbOf f=nb at*
  have hnb1:nb≤1000:=by omega
  obtain ⟨r11,r12⟩:=r1
  iterate 3 refine G ?_
  refine H_cut [8,21,22,23,24,25,26,27,28,29] (fun x:YA=>[(8, .pointer (some ⟨x.sb,0,none⟩))]) (fun x=>[box x.sb 183 [.slice none 0 0, .map (some x.m), .slice (some ⟨x.g,0,none⟩) nb nb, .slice none 0 0, .slice (some ⟨x.s,0,none⟩) nb nb],inRow (some ⟨x.g,0,none⟩) nb (List.replicate nb 0),E.rowT 252 4 Sp.cells (some ⟨x.s,0,none⟩) nb (List.replicate nb zSp),imap x.m [],evRow r11 r12 acc]) (fun x=>x.rA=none∧x.rc=0∧x.pA=none∧x.pc=0∧x.gc=nb∧x.sc=nb) ?_ ?_
  ·refine RA rfl (by decide+kernel) ?_
   refine aW 1 ?_
   refine aW 2 ?_
   refine aW 4 ?_
   refine aW 5 ?_
   refine rdy3 (i:=0) (j:=3) (k:=6) (by decide+kernel) (sub_drop 0) ?_ ?_ ?_
   ·refine aL rfl (f_makeMap rfl fun b21=>?_)
    refine rdy2 (i:=3) (j:=6) (by decide+kernel) (sub_drop 1) ?_ ?_
    ·refine aL rfl (f_make (i:=Tryz.t3) (k:=1) (n:=nb) (m:=nb) encInt 0 Tryz.underlying22 (by kernel_rfl) rfl rfl rfl (by show Value.int .i64 f.bikes=_;rw [hnb]) (by show Value.int .i64 f.bikes=_;rw [hnb]) ⟨⟨Nat.le_refl _,by omega⟩,by decide⟩ rfl fun b24=>?_)
     refine aI 1 ?_
     refine r1 6 2 ?_
     refine aL rfl (f_make (i:=Tryz.t252) (k:=4) (n:=nb) (m:=nb) Sp.cells zSp Tryz.underlying181 (by kernel_rfl) rfl rfl rfl (by show Value.int .i64 f.bikes=_;rw [hnb]) (by show Value.int .i64 f.bikes=_;rw [hnb]) ⟨⟨Nat.le_refl _,by omega⟩,by decide⟩ rfl fun b27=>?_)
     refine aI 2 ?_
     refine aV 7 (by decide+kernel) rfl (e_build Tryz.underlying183 fl183 Tryz.zeroValue183 (pt (v:= .map _) rfl (pt (v:= .slice _ _ _) rfl (pt (v:= .slice _ _ _) rfl E.p0))) rfl) rfl ?_
     refine r1 8 3 ?_
     refine aL rfl (f_box (v:= .agg _) rfl rfl fun b29=>?_)
     refine aI 3 ?_
     refine aRL (sub_drop 4) ?_
     refine aW 9 ?_
     refine aZ (by decide+kernel) (sub_drop 0) ?_
     exact cutJ_normal (⟨b29,none,0,b21,b24,nb,none,0,b27,nb⟩:YA) agr ⟨rfl,trivial⟩ (fun w hw=>hw.pick [3,1,2,0,4] (by decide)) rfl ⟨rfl,rfl,rfl,rfl,rfl,rfl⟩
    ·refine aL rfl (f_make (i:=Tryz.t252) (k:=4) (n:=nb) (m:=nb) Sp.cells zSp Tryz.underlying181 (by kernel_rfl) rfl rfl rfl (by show Value.int .i64 f.bikes=_;rw [hnb]) (by show Value.int .i64 f.bikes=_;rw [hnb]) ⟨⟨Nat.le_refl _,by omega⟩,by decide⟩ rfl fun b27=>?_)
     refine aI 1 ?_
     refine r1 3 2 ?_
     refine aL rfl (f_make (i:=Tryz.t3) (k:=1) (n:=nb) (m:=nb) encInt 0 Tryz.underlying22 (by kernel_rfl) rfl rfl rfl (by show Value.int .i64 f.bikes=_;rw [hnb]) (by show Value.int .i64 f.bikes=_;rw [hnb]) ⟨⟨Nat.le_refl _,by omega⟩,by decide⟩ rfl fun b24=>?_)
     refine aI 1 ?_
     refine aV 7 (by decide+kernel) rfl (e_build Tryz.underlying183 fl183 Tryz.zeroValue183 (pt (v:= .map _) rfl (pt (v:= .slice _ _ _) rfl (pt (v:= .slice _ _ _) rfl E.p0))) rfl) rfl ?_
     refine r1 8 3 ?_
     refine aL rfl (f_box (v:= .agg _) rfl rfl fun b29=>?_)
     refine aI 3 ?_
     refine aRL (sub_drop 4) ?_
     refine aW 9 ?_
     refine aZ (by decide+kernel) (sub_drop 0) ?_
     exact cutJ_normal (⟨b29,none,0,b21,b24,nb,none,0,b27,nb⟩:YA) agr ⟨rfl,trivial⟩ (fun w hw=>hw.pick [3,1,2,0,4] (by decide)) rfl ⟨rfl,rfl,rfl,rfl,rfl,rfl⟩
   ·refine aL rfl (f_make (i:=Tryz.t3) (k:=1) (n:=nb) (m:=nb) encInt 0 Tryz.underlying22 (by kernel_rfl) rfl rfl rfl (by show Value.int .i64 f.bikes=_;rw [hnb]) (by show Value.int .i64 f.bikes=_;rw [hnb]) ⟨⟨Nat.le_refl _,by omega⟩,by decide⟩ rfl fun b24=>?_)
    refine rdy2 (i:=0) (j:=6) (by decide+kernel) (sub_drop 1) ?_ ?_
    ·refine aL rfl (f_makeMap rfl fun b21=>?_)
     refine r1 6 2 ?_
     refine aL rfl (f_make (i:=Tryz.t252) (k:=4) (n:=nb) (m:=nb) Sp.cells zSp Tryz.underlying181 (by kernel_rfl) rfl rfl rfl (by show Value.int .i64 f.bikes=_;rw [hnb]) (by show Value.int .i64 f.bikes=_;rw [hnb]) ⟨⟨Nat.le_refl _,by omega⟩,by decide⟩ rfl fun b27=>?_)
     refine aI 2 ?_
     refine aV 7 (by decide+kernel) rfl (e_build Tryz.underlying183 fl183 Tryz.zeroValue183 (pt (v:= .map _) rfl (pt (v:= .slice _ _ _) rfl (pt (v:= .slice _ _ _) rfl E.p0))) rfl) rfl ?_
     refine r1 8 3 ?_
     refine aL rfl (f_box (v:= .agg _) rfl rfl fun b29=>?_)
     refine aI 3 ?_
     refine aRL (sub_drop 4) ?_
     refine aW 9 ?_
     refine aZ (by decide+kernel) (sub_drop 0) ?_
     exact cutJ_normal (⟨b29,none,0,b21,b24,nb,none,0,b27,nb⟩:YA) agr ⟨rfl,trivial⟩ (fun w hw=>hw.pick [3,1,2,0,4] (by decide)) rfl ⟨rfl,rfl,rfl,rfl,rfl,rfl⟩
    ·refine aL rfl (f_make (i:=Tryz.t252) (k:=4) (n:=nb) (m:=nb) Sp.cells zSp Tryz.underlying181 (by kernel_rfl) rfl rfl rfl (by show Value.int .i64 f.bikes=_;rw [hnb]) (by show Value.int .i64 f.bikes=_;rw [hnb]) ⟨⟨Nat.le_refl _,by omega⟩,by decide⟩ rfl fun b27=>?_)
     refine aI 1 ?_
     refine r1 0 2 ?_
     refine aL rfl (f_makeMap rfl fun b21=>?_)
     refine aV 7 (by decide+kernel) rfl (e_build Tryz.underlying183 fl183 Tryz.zeroValue183 (pt (v:= .map _) rfl (pt (v:= .slice _ _ _) rfl (pt (v:= .slice _ _ _) rfl E.p0))) rfl) rfl ?_
     refine r1 8 3 ?_
     refine aL rfl (f_box (v:= .agg _) rfl rfl fun b29=>?_)
     refine aI 3 ?_
     refine aRL (sub_drop 4) ?_
     refine aW 9 ?_
     refine aZ (by decide+kernel) (sub_drop 0) ?_
     exact cutJ_normal (⟨b29,none,0,b21,b24,nb,none,0,b27,nb⟩:YA) agr ⟨rfl,trivial⟩ (fun w hw=>hw.pick [3,1,2,0,4] (by decide)) rfl ⟨rfl,rfl,rfl,rfl,rfl,rfl⟩
   ·refine aL rfl (f_make (i:=Tryz.t252) (k:=4) (n:=nb) (m:=nb) Sp.cells zSp Tryz.underlying181 (by kernel_rfl) rfl rfl rfl (by show Value.int .i64 f.bikes=_;rw [hnb]) (by show Value.int .i64 f.bikes=_;rw [hnb]) ⟨⟨Nat.le_refl _,by omega⟩,by decide⟩ rfl fun b27=>?_)
    refine rdy2 (i:=0) (j:=3) (by decide+kernel) (sub_drop 1) ?_ ?_
    ·refine aL rfl (f_makeMap rfl fun b21=>?_)
     refine r1 3 2 ?_
     refine aL rfl (f_make (i:=Tryz.t3) (k:=1) (n:=nb) (m:=nb) encInt 0 Tryz.underlying22 (by kernel_rfl) rfl rfl rfl (by show Value.int .i64 f.bikes=_;rw [hnb]) (by show Value.int .i64 f.bikes=_;rw [hnb]) ⟨⟨Nat.le_refl _,by omega⟩,by decide⟩ rfl fun b24=>?_)
     refine aI 1 ?_
     refine aV 7 (by decide+kernel) rfl (e_build Tryz.underlying183 fl183 Tryz.zeroValue183 (pt (v:= .map _) rfl (pt (v:= .slice _ _ _) rfl (pt (v:= .slice _ _ _) rfl E.p0))) rfl) rfl ?_
     refine r1 8 3 ?_
     refine aL rfl (f_box (v:= .agg _) rfl rfl fun b29=>?_)
     refine aI 3 ?_
     refine aRL (sub_drop 4) ?_
     refine aW 9 ?_
     refine aZ (by decide+kernel) (sub_drop 0) ?_
     exact cutJ_normal (⟨b29,none,0,b21,b24,nb,none,0,b27,nb⟩:YA) agr ⟨rfl,trivial⟩ (fun w hw=>hw.pick [3,1,2,0,4] (by decide)) rfl ⟨rfl,rfl,rfl,rfl,rfl,rfl⟩
    ·refine aL rfl (f_make (i:=Tryz.t3) (k:=1) (n:=nb) (m:=nb) encInt 0 Tryz.underlying22 (by kernel_rfl) rfl rfl rfl (by show Value.int .i64 f.bikes=_;rw [hnb]) (by show Value.int .i64 f.bikes=_;rw [hnb]) ⟨⟨Nat.le_refl _,by omega⟩,by decide⟩ rfl fun b24=>?_)
     refine r1 0 2 ?_
     refine aL rfl (f_makeMap rfl fun b21=>?_)
     refine aV 7 (by decide+kernel) rfl (e_build Tryz.underlying183 fl183 Tryz.zeroValue183 (pt (v:= .map _) rfl (pt (v:= .slice _ _ _) rfl (pt (v:= .slice _ _ _) rfl E.p0))) rfl) rfl ?_
     refine r1 8 3 ?_
     refine aL rfl (f_box (v:= .agg _) rfl rfl fun b29=>?_)
     refine aI 3 ?_
     refine aRL (sub_drop 4) ?_
     refine aW 9 ?_
     refine aZ (by decide+kernel) (sub_drop 0) ?_
     exact cutJ_normal (⟨b29,none,0,b21,b24,nb,none,0,b27,nb⟩:YA) agr ⟨rfl,trivial⟩ (fun w hw=>hw.pick [3,1,2,0,4] (by decide)) rfl ⟨rfl,rfl,rfl,rfl,rfl,rfl⟩
  ·rintro ⟨sb,rA,rc,m,g0,gc,pA,pc,s0,sc⟩ g4 ⟨e1,e2,e3,e4,e5,e6⟩
   simp only at e1 e2 e3 e4 e5 e6
   subst e1 e2 e3 e4 e5 e6
   iterate 13 refine G ?_
   refine H_loop [9,35,36,37,38,39,40,41,42,43,44] (fun k:Nat=>[(35, .int .i64 k)]) (fun k=>[box sb 183 [.slice none 0 0, .map (some m), .slice (some ⟨g0,0,none⟩) sc sc, .slice none 0 0, .slice (some ⟨s0,0,none⟩) sc sc],inRow (some ⟨g0,0,none⟩) sc (List.replicate k (-1)++List.replicate (sc -k) 0),E.rowT 252 4 Sp.cells (some ⟨s0,0,none⟩) sc (List.replicate sc zSp),imap m [],evRow r11 r12 acc]) (fun k=>k≤sc) (fun k=>sc -k) 0 ⟨rfl,trivial⟩ (fun w hw=>by simpa using hw) rfl (Nat.zero_le _) ?_
   rintro k g5 hk
   iterate 6 refine G ?_
   refine H_cond rfl ?_ ?_<;>intro hlt
   ·have hlt':k<sc:=by simp at hlt;omega
    have hget:=rep_get k sc hlt'
    iterate 16 refine G ?_
    refine xV (e_idx _ Tryz.underlying22 Tryz.sizeOf3 (q0 rfl) (q0 rfl) (fun _=>⟨rfl,by omega⟩)) rfl rfl ?_
    refine X_eff (f_storeR0 1 (k:=1) (enc:=encInt) (-1) rfl rfl Tryz.sizeOf3 rfl rfl rfl hget rfl rfl ?_)
    iterate 7 refine G ?_
    exact loopJ_normal (k+1) agr ⟨rfl,trivial⟩ (fun w hw=>by show Mem _ [_,inRow _ _ (List.replicate (k+1) (-1)++List.replicate (sc -(k+1)) 0),_,_,_] w;rw [←rep_set k sc hlt'];exact hw) rfl (by show k+1≤sc;omega) (by show sc -(k+1)<sc -k;omega)
   ·have hkn:k=sc:=by simp at hlt;omega
    subst hkn
    refine H_mem (L':=stY ⟨sb,none,0,m,g0,k,none,0,s0,k⟩ ⟨[],[],List.replicate k (-1),[],List.replicate k zSp⟩++[evRow r11 r12 acc]) (fun w hw=>by
     rw [Nat.sub_self,List.replicate_zero,List.append_nil] at hw
     have h10:=((hw.noBag (f:=rdParts)).nilRow 191 13 RX.cells (c:=0) rfl).nilRow 4 1 encB (c:=0) rfl
     have h11:=h10.pickN 8 [3,1,2,0,4,5,6,7] (by decide) (by decide)
     have hc:yCells ⟨sb,none,0,m,g0,k,none,0,s0,k⟩ ⟨[],[],List.replicate k (-1),[],List.replicate k zSp⟩=[.slice none 0 0, .map (some m), .slice (some ⟨g0,0,none⟩) k k, .slice none 0 0, .slice (some ⟨s0,0,none⟩) k k]:=by unfold yCells;simp
     show Mem _ ([box sb 183 (yCells _ _),_,_,_,_,_,_]++[_]) w
     rw [hc]
     exact h11) rfl ?_
    iterate 14 refine G ?_
    refine H_loop [11,47,48,49,50,51,52,53,54] (fun q:Nat×YA×TY=>[(47, .int .i64 q.1)]) (fun q=>stY q.2.1 q.2.2++[evRow r11 r12 acc]) (fun q=>q.1≤acc.length∧q.2.1.sb=sb∧q.2.2.plain=(acc.take q.1).foldl tellY (beginSY k)) (fun q=>acc.length -q.1) (0,⟨sb,none,0,m,g0,k,none,0,s0,k⟩,⟨[],[],List.replicate k (-1),[],List.replicate k zSp⟩) ⟨rfl,trivial⟩ (fun w hw=>hw) rfl ⟨Nat.zero_le _,rfl,rfl⟩ ?_
    rintro ⟨i,ya,ty⟩ g6 ⟨hi,hsb,hty⟩
    simp only at hi hsb hty
    have hJ:=hja i
    rw [←hty] at hJ
    iterate 6 refine G ?_
    refine H_cond rfl ?_ ?_<;>intro hlt2
    ·have hlt2':i<acc.length:=by simpa using hlt2
     obtain ⟨e,he⟩: ∃e,acc[i]?=some e:=⟨_,List.getElem?_eq_getElem hlt2'⟩
     have hstep:(acc.take (i+1)).foldl tellY (beginSY k)=tellY ty.plain e:=by rw [take_snoc _ _ _ he,List.foldl_append,←hty];rfl
     refine H_know (fun w hw=>rowT_at (j:=7) hw rfl (by omega)) fun ⟨rb,hrb⟩=>?_
     subst hrb
     iterate 6 refine G ?_
     refine xV (e_idx _ Tryz.underlying49 Tryz.sizeOf58 (q0 rfl) (q0 rfl) (fun _=>⟨rfl,by omega⟩)) rfl rfl ?_
     refine G ?_
     refine X_alloc Tryz.zeroValue58 rfl fun b11=>?_
     refine X_st (v:= .agg _) rfl rfl Tryz.sizeOf58 ?_
     iterate 5 refine G ?_
     rw [←hsb]
     refine X_eff (f_callM (en Tryz.call101 (ha2 (q0 rfl) (q0 rfl))) (fun w hw=>tell_w (a:=ya) (t:=ty) (L:=[_,_]) (Mem.rot (X:=[_]) (S:=stY ya ty) hw) rfl hJ.wf (by rw [List.length_take];omega) e (hbikes e (List.mem_of_getElem? he))) rfl (fun _=>rfl) fun y=>?_)
     obtain ⟨⟨ya2,ty2⟩,hy1,hy2⟩:=y
     iterate 7 refine G ?_
     exact loopJ_normal (i+1,ya2,ty2) agr ⟨rfl,trivial⟩ (fun w hw=>Mem.rot (X:=[_]) (S:=stY ya2 ty2) (hw.pickN 9 [7,0,1,2,3,4,5,6,8] (by decide) (by decide))|>.pickN 9 [0,1,2,3,4,5,6,8] (by decide) (by decide)) rfl ⟨by show i+1≤_;omega,hy1,by show ty2.plain=_;rw [hstep];exact hy2⟩ (by show acc.length -(i+1)<acc.length -i;omega)
    ·have hend:i=acc.length:=by simp at hlt2;omega
     subst hend
     rw [List.take_length,←hst] at hty
     obtain ⟨yb,yrA,yrc,ym,yg,ygc,ypA,ypc,ys0,ysc⟩:=ya
     simp only at hsb
     subst hsb
     have hlen:ty.xs.length≤20:=by
      have h0:ty.plain.rides.length=ty.xs.length:=by simp [TY.plain]
      rw [←h0,hty];exact hr20
     iterate 6 refine G ?_
     refine H_mem (fun w hw=>hw.pickN 8 [1,0,2,3,4,5,6,7] (by decide) (by decide)) rfl ?_
     iterate 5 refine G ?_
     refine X_eff (f_callM (en Tryz.call102 (ha2 (q0 rfl) (q0 rfl))) (fun w hw=>sort_w hw rfl hlen) rfl (fun _=>rfl) fun u=>?_)
     obtain ⟨zs,hz⟩:=u
     have hzl:zs.length=ty.xs.length:=hz.perm.length_eq
     have hids:=hjn.ji.ids
     have hu1:zs.map (·.r)=byId (storyOf f xs).rides:=byId_unique (by rw [←hty];exact hz.perm.map _) (by
      refine List.pairwise_map.2 (List.pairwise_iff_getElem.2 fun p q hp hq hpq=>?_)
      have:=hz.ok p q zs[p] zs[q] (Nat.zero_le _) hpq hq (List.getElem?_eq_getElem hp) (List.getElem?_eq_getElem hq)
      unfold xlt idLt at this
      simp at this
      exact this) hids
     iterate 13 refine G ?_
     exact ret2 (v:= .slice _ _ _) (x:= .int _ _) rfl rfl rfl rfl fun w' hw=>⟨⟨(yrA,yrc,zs),hu1⟩,by show Ending.returned (.tuple #[.slice yrA ty.xs.length yrc,_])= .returned (.tuple #[.slice yrA zs.length yrc,_]);rw [hzl],(Mem.bagPerm (hw.pick [2,0] (by decide)) (T':=zs.flatMap rdParts) (hz.perm.flatMap_right _)).pick [1,0] (by decide)⟩
end Go.Proofs.Rid
namespace Go.Proofs.Net
open Go.Proofs.Cus Go.Proofs.Rid Go.Proofs.Far
def keyE (e:Ev):Int×Int:=(e.device,e.seq)
def evsR (l:List Ev):List Ev:=l.mergeSort le2
def addR (n:Int) (l:List Ev) (e:Ev):List Ev×Bool×Int:=
 if e.device<0∨n≤e.device then (l,false,7)
 else if e.seq<1∨1048576<e.seq∨e.at_<0∨e.late<e.at_∨4294943999<e.late then (l,false,1)
 else match l.find? fun x=>decide (keyE x=keyE e) with
  |some x=>if x=e then (l,false,0) else (l,false,21)
  |none=>if (l.any fun x=>Gos.clashP x e)=true then (l,false,9) else if 512≤l.length then (l,false,8) else (l++[e],true,0)
def seenR (l:List Ev) (d:Int):Nat→Nat→Nat
 |0,m=>m
 |k+1,m=>if l.any (fun x=>decide (keyE x=(d,(m:Int)+1)))=true then seenR l d k (m+1) else m
def seenD (l:List Ev) (d:Int):Nat:=seenR l d (l.length+1) 0
def atE (l:List Ev) (d s:Int):Int:=match l.find? fun x=>decide (keyE x=(d,s)) with|some x=>x.at_|none=>0
def horL (l:List Ev):List Nat→Int→Int
 |[],t=>t
 |d::ds,t=>if seenD l d=0 then 0 else horL l ds (min t (atE l d (seenD l d)))
def horR (n:Int) (l:List Ev):Int:=horL l (List.range n.toNat) 4294943999
structure Py where
 ride:Int
 rider:Int
 amount:Int
deriving DecidableEq,Inhabited
structure En where
 pay:Py
 state:Int
 tries:Int
deriving DecidableEq,Inhabited
def rangedP (p:Py):Bool:=((((decide (1≤p.ride)&&decide (p.ride≤1000000))&&decide (0≤p.rider))&&decide (p.rider<128))&&decide (0≤p.amount))&&decide (p.amount≤1000000000000)
def payR (b:List Py) (p:Py):List Py×Int:=
 if rangedP p=false then ([],1)
 else if b.any (fun x=>decide (x.ride=p.ride)&&!decide (x=p))=true then ([],21)
 else if b.any (fun x=>decide (x=p))=true then (b,0)
 else if 256≤b.length then ([],8) else (b++[p],0)
def askR (d:List En) (p:Py):List En×Int:=
 if rangedP p=false then (d,1)
 else match d.findIdx? fun x=>decide (x.pay.ride=p.ride) with
  |some i=>if (d.getD i default).pay=p then (d,0) else (d,21)
  |none=>if 256≤d.length then (d,8) else (d++[⟨p,0,0⟩],0)
def bestR (d:List En):Nat→Int
 |0=> -1
 |k+1=>match d[k]? with
  |none=>bestR d k
  |some x=>if x.state=0∧(bestR d k<0∨x.tries<(d.getD (bestR d k).toNat default).tries) then (k:Int) else bestR d k
def nextR (d:List En):Option Nat:=if bestR d d.length<0 then none else some (bestR d d.length).toNat
def answR (d:List En) (ride e:Int):List En×Int:=
 match d.findIdx? fun x=>decide (x.pay.ride=ride) with
 |none=>(d,7)
 |some i=>if (d.getD i default).state≠0 then (d,12) else (d.set i {d.getD i default with tries:=(d.getD i default).tries+1,state:=if e=0 then 1 else if e=21 then 2 else 0},0)
def thoseR (d:List En) (s:Int):List Py:=(d.filter fun x=>decide (x.state=s)).map (·.pay)
def openR (d:List En):List Py:=thoseR d 0
structure SS where
 evs:List Ev
 desk:List En
 lose:Int
deriving DecidableEq,Inhabited
structure NS where
 srv:List SS
 apart:List (List Bool)
 bank:List Py
deriving DecidableEq,Inhabited
structure Stp where
 kind:Int
 a:Int
 b:Int
 ev:Ev
deriving DecidableEq,Inhabited
def newR (f:Fl) (p:Pr) (n:Int):Option NS×Int:=
 if prErr f p≠0 then (none,prErr f p)
 else if n<1∨8<n then (none,1)
 else (some ⟨List.replicate n.toNat ⟨[],[],0⟩,List.replicate n.toNat (List.replicate n.toNat false),[]⟩,0)
def learnL (n:Int) (l:List Ev):List Ev→List Ev×Int
 |[]=>(l,0)
 |e::es=>let r:=addR n l e;let q:=learnL n r.1 es;(q.1,(if r.2.1=true∧r.2.2=0 then 1 else 0)+q.2)
def tryR (q:List Py×List En×Int) (p:Py):List Py×List En×Int:=
 let r:=payR q.1 p
 let b:=if r.2=0 then r.1 else q.1
 if 0<q.2.2 then (b,(answR q.2.1 p.ride 33).1,q.2.2 -1) else (b,(answR q.2.1 p.ride r.2).1,q.2.2)
def triesR:Nat→List Py×List En×Int→List Py×List En×Int
 |0,q=>q
 |k+1,q=>match nextR q.2.1 with
  |none=>q
  |some i=>triesR k (tryR q (q.2.1.getD i default).pay)
def finR (f:Fl) (l:List Ev):List Rd:=(allOf f (evsR l)).filter (finalP (horR f.devices l))
end Go.Proofs.Net
namespace Go.Proofs.Net
open Go Go.RowKit Go.Proofs.E Go.Proofs.Cus Go.Proofs.Gos
theorem keyG:KeyK Tryz.prog 132:=KeyK.struct Tryz.underlying132 (by kernel_rfl) ⟨by decide,rfl,Tryz.isAgg3,⟨_,Tryz.underlying3⟩,by decide,rfl,Tryz.isAgg3,⟨_,Tryz.underlying3⟩,trivial⟩ rfl
def evV (x:Ev):Value:= .agg x.cells.toArray
def psE (l:List Ev):List ((Int×Int)×Value):=l.map fun x=>(keyE x,evV x)
abbrev rpL (r m:Nat) (dv:Int) (l:List Ev):List E.Item:=[box r 127 [.int .i64 dv, .map (some m)],kmap m (psE l)]
theorem psE_app (l:List Ev) (e:Ev):psE (l++[e])=psE l++[(keyE e,evV e)]:=by simp [psE]
theorem klook_psE (l:List Ev) (k:Int×Int):klook (psE l) k=(l.find? fun x=>decide (keyE x=k)).map evV:=by
 unfold klook psE
 rw [List.find?_map,Option.map_map]
 have:((fun p:(Int×Int)×Value=>p.1==k)∘fun x:Ev=>(keyE x,evV x))=fun x=>decide (keyE x=k):=by
  funext x
  rw [Bool.eq_iff_iff];simp
 rw [this]
 cases l.find? (fun x=>decide (keyE x=k))<;>rfl
theorem pairs_map: ∀{es:List MapEntry} {ps:List ((Int×Int)×Value)},PairsK es ps→es.map (fun e=>(e.key,e.val))=ps.map fun p=>(kv p.1,p.2)
 |_,_, .nil=>rfl
 |_,_, .cons h1 h2=>by
  rw [List.map_cons,List.map_cons,pairs_map h2,h1.1,h1.2]
theorem row_at {w:World} {b:Nat} {t:TypeId} {cs:List Value} (h:(box b t cs).A w):RowAt w b 0 cs:=fun j u hu=>by
 have hA:w.heap[b]?=some (.cells cs.toArray t (0,0)):=h
 simp [World.cell?,hA,hu]
theorem box_lt {w:World} {b:Nat} {t:TypeId} {cs:List Value} (h:(box b t cs).A w):b<w.heap.size:=by
 have hA:w.heap[b]?=some (.cells cs.toArray t (0,0)):=h
 exact (Array.getElem?_eq_some_iff.1 hA).1
theorem rp_of {w:World} {r m:Nat} {dv:Int} {l:List Ev} (h1:(box r 127 [.int .i64 dv, .map (some m)]).A w) (h2:(kmap m (psE l)).A w): ∃es clock,RpAt w r 0 (.int .i64 dv) m es clock l:=by
 obtain ⟨es,clock,h3,h4,h5⟩:=h2
 refine ⟨es,clock,box_lt h1,row_at h1,h3,h5,?_⟩
 rw [pairs_map h4,psE,List.map_map]
 rfl
theorem pairs_len: ∀{es:List MapEntry} {ps:List ((Int×Int)×Value)},PairsK es ps→es.length=ps.length
 |_,_, .nil=>rfl
 |_,_, .cons _ h2=>by rw [List.length_cons,List.length_cons,pairs_len h2]
theorem e_lenK {c:Cx} {w0:World} {L:List E.Item} {f:Fr} {ty:TypeId} {g:Bool} {x:Operand} {t k e:TypeId} {b:Nat} {ps:List ((Int×Int)×Value)} (ht:c.P.underlying t=some (.map k e)) (hx:OpV g f x (.map (some b))) (hA: ∀w,Mem w0 L w→KMap w b ps):EvG g c w0 L f (.call {callee:= .builtin .len,args:= #[x],argTypes:= #[t]}) ty (.int .i64 ps.length):=fun h _ _ _ _ w hw=>by
 obtain ⟨es,clock,h1,h2,_⟩:=hA w hw
 have h3:=pairs_len h2
 rw [Array.length_toList] at h3
 simp [execOp,resolve,invoke,builtin,hx h,Builtin.len_,run_underlying ht,Result.andThen,goInt,MapKept.run_getObj_map h1,h3]
def evL (x:Ev):List Int:=[x.device,x.seq,x.at_,x.late,x.kind,x.bike,x.place,x.rider,x.ride]
theorem evL_eq (x y:Ev):(evL x==evL y)=decide (x=y):=by
 obtain ⟨x1,x2,x3,x4,x5,x6,x7,x8,x9⟩:=x
 obtain ⟨y1,y2,y3,y4,y5,y6,y7,y8,y9⟩:=y
 rw [Bool.eq_iff_iff]
 simp [evL]
theorem eqEv (x y:Ev) (w:World):(Op.equal 58 (.agg x.cells.toArray) (.agg y.cells.toArray)).run Tryz.prog w= .ok (decide (x=y)) w:=by
 have h:=run_equal_ints w (evL x) (evL y) rfl Tryz.underlying58 (by kernel_rfl) ⟨by decide,rfl,Tryz.isAgg3,⟨_,Tryz.underlying3⟩,by decide,rfl,Tryz.isAgg3,⟨_,Tryz.underlying3⟩,by decide,rfl,Tryz.isAgg3,⟨_,Tryz.underlying3⟩,by decide,rfl,Tryz.isAgg3,⟨_,Tryz.underlying3⟩,by decide,rfl,Tryz.isAgg3,⟨_,Tryz.underlying3⟩,by decide,rfl,Tryz.isAgg3,⟨_,Tryz.underlying3⟩,by decide,rfl,Tryz.isAgg3,⟨_,Tryz.underlying3⟩,by decide,rfl,Tryz.isAgg3,⟨_,Tryz.underlying3⟩,by decide,rfl,Tryz.isAgg3,⟨_,Tryz.underlying3⟩,trivial⟩
 rw [evL_eq] at h
 exact h rfl
theorem add_w {r m:Nat} {dv:Int} {l:List Ev} (e:Ev) {w0 w:World} {L:List E.Item} (hL:marks L=[]) (hw:Mem w0 (rpL r m dv l++L) w):Calls Tryz.prog 26 #[.pointer (some ⟨r,0,none⟩), .agg e.cells.toArray] w fun q w'=> ∃_x:Unit,q= .returned (.tuple #[.bool (addR dv l e).2.1, .int .i64 (addR dv l e).2.2])∧Mem w0 (rpL r m dv (addR dv l e).1++L) w':=by
 refine H_enterM hw hL Tryz.func26 rfl Tryz.ntmps26 rfl ?_
 iterate 2 refine G ?_
 refine X_box (v:= .agg _) rfl rfl fun b3=>?_
 iterate 9 refine G ?_
 refine xV (e_eqNilP Tryz.underlying68 (q0 rfl)) rfl rfl ?_
 iterate 3 refine G ?_
 refine H_cond rfl ?_ ?_<;>intro hnil
 ·cases hnil
 ·refine G ?_
  refine R1 rfl (by decide+kernel) ?_
  iterate 15 refine G ?_
  refine H_cond rfl ?_ ?_<;>intro h1
  ·have h1':e.device<0∨dv≤e.device:=by simpa using h1
   have ha:addR dv l e=(l,false,7):=by unfold addR;rw [if_pos h1']
   rw [ha]
   iterate 9 refine G ?_
   exact ret2 (v:= .bool _) (x:= .int _ _) rfl rfl rfl hL fun w' hw=>⟨(),rfl,hw.tail⟩
  ·have h1': ¬(e.device<0∨dv≤e.device):=by simpa using h1
   iterate 30 refine G ?_
   refine H_cond rfl ?_ ?_<;>intro h2
   ·have h2':e.seq<1∨1048576<e.seq∨e.at_<0∨e.late<e.at_∨4294943999<e.late:=by simpa [or_assoc] using h2
    have ha:addR dv l e=(l,false,1):=by unfold addR;rw [if_neg h1',if_pos h2']
    rw [ha]
    iterate 9 refine G ?_
    exact ret2 (v:= .bool _) (x:= .int _ _) rfl rfl rfl hL fun w' hw=>⟨(),rfl,hw.tail⟩
   ·have h2': ¬(e.seq<1∨1048576<e.seq∨e.at_<0∨e.late<e.at_∨4294943999<e.late):=by simp at h2;omega
    iterate 9 refine G ?_
    refine xV (e_build Tryz.underlying132 fl132 Tryz.zeroValue132 (pt (v:= .int _ _) rfl (pt (v:= .int _ _) rfl E.p0)) rfl) rfl rfl ?_
    refine X_alloc Tryz.zeroValue132 rfl fun b6=>?_
    refine X_st (v:= .agg _) rfl rfl Tryz.sizeOf132 ?_
    iterate 4 refine G ?_
    refine RA rfl (by decide+kernel) ?_
    refine aW 0 ?_
    refine aW 1 ?_
    refine aW 2 ?_
    refine aW 3 ?_
    refine aW 4 ?_
    cases hf:l.find? (fun x=>decide (keyE x=keyE e)) with
    |some x=>
     refine aV 5 (by decide+kernel) rfl (e_lookKok (key:=keyE e) (u:= .agg x.cells.toArray) (bb:=true) keyG Tryz.underlying125 Tryz.zeroValue58 (q0 rfl) (q0 rfl) (fun w hw=>hw.item (k:=3) rfl) (fun _=>by rw [klook_psE,hf];exact ⟨rfl,rfl⟩)) rfl ?_
     refine aW 6 ?_
     refine aW 7 ?_
     refine aW 8 ?_
     refine r1 9 0 ?_
     refine aL rfl (f_alloc Tryz.zeroValue58 rfl fun b7=>?_)
     refine r1 10 1 ?_
     refine aL rfl (f_st (v:= .agg _) rfl rfl Tryz.sizeOf58 ?_)
     refine aRL (sub_drop 1) ?_
     refine aW 11 ?_
     refine aZ (by decide+kernel) (sub_drop 0) ?_
     iterate 6 refine G ?_
     refine H_cond rfl ?_ ?_<;>intro h3
     ·have _ht:True:=trivial
      iterate 5 refine G ?_
      refine xV (e_neS (eqEv x e) (by kernel_rfl) (q0 rfl) (q0 rfl)) rfl rfl ?_
      iterate 2 refine G ?_
      refine H_cond rfl ?_ ?_<;>intro h4
      ·have h4':x≠e:=by simpa using h4
       have ha:addR dv l e=(l,false,21):=by unfold addR;rw [if_neg h1',if_neg h2',hf];simp only;rw [if_neg h4']
       rw [ha]
       iterate 9 refine G ?_
       exact ret2 (v:= .bool _) (x:= .int _ _) rfl rfl rfl hL fun w' hw=>⟨(),rfl,hw.tail.tail.tail⟩
      ·have h4':x=e:=by simpa using h4
       have ha:addR dv l e=(l,false,0):=by unfold addR;rw [if_neg h1',if_neg h2',hf];simp only;rw [if_pos h4']
       rw [ha]
       iterate 10 refine G ?_
       exact ret2 (v:= .bool _) (x:= .int _ _) rfl rfl rfl hL fun w' hw=>⟨(),rfl,hw.tail.tail.tail⟩
     ·cases h3
    |none=>
     refine aV 5 (by decide+kernel) rfl (e_lookKok (key:=keyE e) (bb:=false) keyG Tryz.underlying125 Tryz.zeroValue58 (q0 rfl) (q0 rfl) (fun w hw=>hw.item (k:=3) rfl) (fun _=>by rw [klook_psE,hf];exact ⟨rfl,rfl⟩)) rfl ?_
     refine aW 6 ?_
     refine aW 7 ?_
     refine aW 8 ?_
     refine r1 9 0 ?_
     refine aL rfl (f_alloc Tryz.zeroValue58 rfl fun b7=>?_)
     refine r1 10 1 ?_
     refine aL rfl (f_st (v:= .agg _) rfl rfl Tryz.sizeOf58 ?_)
     refine aRL (sub_drop 1) ?_
     refine aW 11 ?_
     refine aZ (by decide+kernel) (sub_drop 0) ?_
     iterate 6 refine G ?_
     refine H_cond rfl ?_ ?_<;>intro h3
     ·cases h3
     ·have _ht:True:=trivial
      iterate 8 refine G ?_
      refine xC (en Tryz.call62 (ha2 (q0 rfl) (q0 rfl))) (fun _ w hw=>by obtain ⟨es,ck,hr⟩:=rp_of (hw.item (k:=3) rfl) (hw.item (k:=4) rfl);exact fits_w e w hr) rfl rfl ?_
      iterate 4 refine G ?_
      refine H_cond rfl ?_ ?_<;>intro h4
      ·have h4':(l.any fun x=>clashP x e)=true:=by simpa using h4
       have ha:addR dv l e=(l,false,9):=by unfold addR;rw [if_neg h1',if_neg h2',hf];simp only;rw [if_pos h4']
       rw [ha]
       iterate 9 refine G ?_
       exact ret2 (v:= .bool _) (x:= .int _ _) rfl rfl rfl hL fun w' hw=>⟨(),rfl,hw.tail.tail.tail⟩
      ·have h4': ¬(l.any fun x=>clashP x e)=true:=by simpa using h4
       iterate 6 refine G ?_
       refine xV (e_lenK Tryz.underlying125 (q0 rfl) (fun w hw=>hw.item (k:=4) rfl)) rfl rfl ?_
       iterate 4 refine G ?_
       refine H_cond rfl ?_ ?_<;>intro h5
       ·have h5':512≤l.length:=by simp [psE] at h5;omega
        have ha:addR dv l e=(l,false,8):=by unfold addR;rw [if_neg h1',if_neg h2',hf];simp only;rw [if_neg h4',if_pos h5']
        rw [ha]
        iterate 9 refine G ?_
        exact ret2 (v:= .bool _) (x:= .int _ _) rfl rfl rfl hL fun w' hw=>⟨(),rfl,hw.tail.tail.tail⟩
       ·have h5': ¬512≤l.length:=by simp [psE] at h5;omega
        have ha:addR dv l e=(l++[e],true,0):=by unfold addR;rw [if_neg h1',if_neg h2',hf];simp only;rw [if_neg h4',if_neg h5']
        rw [ha]
        iterate 4 refine G ?_
        refine E.RT rfl rfl (by decide+kernel) ?_
        iterate 8 refine G ?_
        refine X_eff (f_newK (key:=keyE e) (v:=evV e) 4 keyG Tryz.underlying125 rfl rfl rfl rfl (by rw [klook_psE,hf];rfl) ?_)
        iterate 9 refine G ?_
        exact ret2 (v:= .bool _) (x:= .int _ _) rfl rfl rfl hL fun w' hw=>⟨(),rfl,by have h:Mem _ (box r 127 [.int .i64 dv, .map (some m)]::kmap m (psE l++[(keyE e,evV e)])::L) _:=hw.tail.tail.tail;rw [←psE_app] at h;exact h⟩
theorem rp_mem {w0 w:World} {L:List E.Item} {b o m clock:Nat} {v:Value} {es:Array MapEntry} {l:List Ev} (h:RpAt w0 b o v m es clock l) (hm:Mem w0 L w):RpAt w b o v m es clock l:=
 ⟨Nat.lt_of_lt_of_le h.lt hm.1.size,h.row.below h.lt hm.1,(hm.1.block m (Array.getElem?_eq_some_iff.1 h.map).1).trans h.map,h.born,h.evs⟩
theorem events_w {r m:Nat} {dv:Int} {l:List Ev} (w:World) (h1:(box r 127 [.int .i64 dv, .map (some m)]).A w) (h2:(kmap m (psE l)).A w) (hp: ∀x∈l,0≤x.device∧1≤x.seq) (hn:l.length≤10000):
  Calls Tryz.prog 30 #[.pointer (some ⟨r,0,none⟩)] w fun q w'=> ∃x:Option Addr×Nat,q= .returned (.slice x.1 (evsR l).length x.2)∧Mem w [evRow x.1 x.2 (evsR l)] w':=by
 have hel:(evsR l).length=l.length:=List.length_mergeSort l
 obtain ⟨es,ck,hr⟩:=rp_of h1 h2
 refine H_enter Tryz.func30 rfl Tryz.ntmps30 rfl ?_
 iterate 8 refine G ?_
 refine xCX (en Tryz.call67 (ha2 (q0 rfl) (q0 rfl))) (fun w' hw=>since_w w' (rp_mem hr hw) hp hn) rfl (fun _=>rfl) fun x=>?_
 iterate 4 refine G ?_
 exact ret1 (v:= .slice _ _ _) rfl rfl rfl fun w' hw=>⟨x.1,by rw [hel],hw⟩
end Go.Proofs.Net
namespace Go.Proofs.E
open Go Go.RowKit
theorem resCt {c:Cx} {fn:Func} {w0:World} {L:List Item} {f:Fr} (i:Nat) {a a2 n b:Nat} {t tb:TypeId} {cs:List Value} {x:Value} (hr:fn.results= #[.cell a t, .tmp a2]) (hv:f a= .pointer (some ⟨b,0,none⟩)) (hx:f a2=x) (ht: ∀w,(isAgg t).run c.P w= .ok true w) (hs: ∀w,(sizeOf t).run c.P w= .ok n w)
  (hk:L[i]?=some (box b tb cs)) (hl:cs.length=n):ResIs c.P c.N fn w0 L f (.tuple #[.agg cs.toArray,x]):=fun w ds ac hw ha=>by
 have h1:=ha.get a
 rw [hv,Array.getD_eq_getD_getElem?] at h1
 have h2:=ha.get a2
 have:=run_loadCellsFrom (P:=c.P) (w:=w) (b:=b) (o:=0) n 0 #[] cs hl (fun j u hu=>by simpa using box_cell hw hk hu)
 simp [results,hr,h1,←hx,←h2,asAddr,loadVar,ht,hs,loadCells,this,Result.andThen]
end Go.Proofs.E
namespace Go.Proofs.Net
open Go Go.RowKit Go.Proofs.E Go.Proofs.Cus
def Py.cells (p:Py):List Value:=[.int .i64 p.ride, .int .i64 p.rider, .int .i64 p.amount]
abbrev pyRow (A:Option Addr) (c:Nat) (l:List Py):E.Item:=rowT 90 3 Py.cells A c l
abbrev PysAt (w:World) (A:Option Addr) (n:Nat) (l:List Py):Prop:=SlAt w 3 Py.cells A n l
theorem fl90 {fs:Array Field} (h:Tryz.prog.underlying 90=some (.struct fs):=by exact Tryz.underlying90):FieldsLie Tryz.prog fs [(0,1),(1,1),(2,1)]:=by
 rw [Tryz.underlying90] at h
 cases h
 intro w
 kernel_rfl
theorem fl42 {fs:Array Field} (h:Tryz.prog.underlying 42=some (.struct fs):=by exact Tryz.underlying42):FieldsLie Tryz.prog fs [(0,1)]:=by
 rw [Tryz.underlying42] at h
 cases h
 intro w
 kernel_rfl
theorem eqPy (x y:Py) (w:World):(Op.equal 90 (.agg x.cells.toArray) (.agg y.cells.toArray)).run Tryz.prog w= .ok (decide (x=y)) w:=by
 have h:=run_equal_ints w [x.ride,x.rider,x.amount] [y.ride,y.rider,y.amount] rfl Tryz.underlying90 (by kernel_rfl) ⟨by decide,rfl,Tryz.isAgg3,⟨_,Tryz.underlying3⟩,by decide,rfl,Tryz.isAgg3,⟨_,Tryz.underlying3⟩,by decide,rfl,Tryz.isAgg3,⟨_,Tryz.underlying3⟩,trivial⟩
 have he:([x.ride,x.rider,x.amount]==[y.ride,y.rider,y.amount])=decide (x=y):=by
  obtain ⟨a,b,c⟩:=x
  obtain ⟨d,e,f⟩:=y
  rw [Bool.eq_iff_iff]
  simp
 rw [he] at h
 exact h rfl
theorem ranged_w (p:Py) (w:World):Calls Tryz.prog 133 #[.agg p.cells.toArray] w fun e w'=>e= .returned (.bool (rangedP p))∧Bel w w':=by
 refine H_enter Tryz.func133 rfl Tryz.ntmps133 rfl ?_
 iterate 2 refine G ?_
 refine X_box (v:= .agg _) rfl rfl fun b1=>?_
 iterate 37 refine G ?_
 exact ret1 (v:= .bool _) rfl rfl rfl fun w' hw=>⟨rfl,hw.1⟩
theorem cloneY_w (A:Option Addr) (n c:Nat) (xs:List Py) (w:World) (hx:PysAt w A n xs) (hn:n≤10000):
  Calls Tryz.prog 42 #[.slice A n c] w fun e w'=> ∃x:Option Addr×Nat,e= .returned (.slice x.1 n x.2)∧Mem w [pyRow x.1 x.2 xs] w':=by
 have hl:=hx.1
 refine H_enter Tryz.func42 rfl Tryz.ntmps42 rfl ?_
 iterate 9 refine G ?_
 refine xV (e_eqNilS Tryz.underlying40 (q0 rfl)) rfl rfl ?_
 iterate 2 refine G ?_
 refine H_cond rfl ?_ ?_<;>intro h1
 ·have hA0:A=none:=by simpa using h1
  have hn0:n=0:=by
   rcases Nat.eq_zero_or_pos n with h|h
   ·exact h
   ·obtain ⟨b,off,hb,_⟩:=hx.2.2 h;rw [hA0] at hb;cases hb
  subst hn0
  have:xs=[]:=List.eq_nil_of_length_eq_zero hl
  subst this
  iterate 7 refine G ?_
  exact ret1 (v:= .slice _ _ _) rfl rfl rfl fun w' hw=>⟨(none,0),rfl,hw.nilRow _ _ _ rfl⟩
 ·iterate 4 refine G ?_
  refine X_eff (f_slit0 Py.cells Tryz.underlying40 Tryz.sizeOf90 rfl fun A1 c1=>?_)
  refine G ?_
  refine X_append (f_append (k:=3) (i:=Tryz.t90) (enc:=Py.cells) 0 Tryz.underlying40 (by kernel_rfl) rfl rfl rfl rfl (fun _=>rfl) (fun _=>rfl) rfl rfl rfl (fun w hw=>hx.mem hw) ⟨by simp;omega,by decide⟩ rfl fun A2 c2=>?_)
  iterate 4 refine G ?_
  exact ret1 (v:= .slice _ _ _) rfl rfl rfl fun w' hw=>⟨(A2,c2),by rw [←hl];rfl,hw⟩
def confP (p x:Py):Bool:=decide (x.ride=p.ride)&&!decide (x=p)
def sameP (p x:Py):Bool:=decide (x=p)
theorem payR_eq (b:List Py) (p:Py):payR b p=if rangedP p=false then ([],1) else if b.any (confP p)=true then ([],21) else if b.any (sameP p)=true then (b,0) else if 256≤b.length then ([],8) else (b++[p],0):=rfl
theorem snocL {α:Type} (l:List α) (k:Nat) (x:α) (h:l[k]?=some x):l.take (k+1)=l.take k++[x]:=by rw [List.take_add_one,h];rfl
theorem pay_w (b:List Py) (p:Py) (A:Option Addr) (c:Nat) (w:World) (hx:PysAt w A b.length b) (hn:b.length≤256):
  Calls Tryz.prog 134 #[.agg #[.slice A b.length c], .agg p.cells.toArray] w fun e w'=> ∃x:Option Addr×Nat,e= .returned (.tuple #[.agg #[.slice x.1 (payR b p).1.length x.2], .int .i64 (payR b p).2])∧Mem w [pyRow x.1 x.2 (payR b p).1] w':=by
 rw [payR_eq]
 refine H_enter Tryz.func134 rfl Tryz.ntmps134 rfl ?_
 iterate 2 refine G ?_
 refine X_box (v:= .agg _) rfl rfl fun b2=>?_
 refine X_box (v:= .agg _) rfl rfl fun b3=>?_
 refine X_alloc Tryz.zeroValue42 rfl fun b4=>?_
 iterate 7 refine G ?_
 refine xC (en Tryz.call133 (ha1 (q0 rfl))) (fun _ w _=>ranged_w p w) rfl rfl ?_
 iterate 3 refine G ?_
 refine H_cond rfl ?_ ?_<;>intro h1
 ·have h1':rangedP p=false:=by simpa using h1
  rw [if_pos h1']
  iterate 2 refine G ?_
  refine xV (e_build Tryz.underlying42 fl42 Tryz.zeroValue42 E.p0 rfl) rfl rfl ?_
  refine X_st (v:= .agg _) rfl rfl Tryz.sizeOf42 ?_
  iterate 5 refine G ?_
  exact ret_of rfl (resCt 0 rfl rfl rfl Tryz.isAgg42 Tryz.sizeOf42 rfl rfl) fun w' hw=>⟨(none,0),rfl,(mem_nil.2 hw.1).nilRow _ _ _ rfl⟩
 ·have h1': ¬rangedP p=false:=by simpa using h1
  rw [if_neg h1']
  iterate 17 refine G ?_
  refine H_loop [5,6,8,17,18,19,20,21,22,23,24,25,26,27,28,29,30,31,32,33,34,35,36,37,38] (fun s:Nat×Bool=>[(17, .int .i64 s.1),(6, .bool s.2)]) (fun _=>[box b4 42 [.slice none 0 0],box b3 90 p.cells,box b2 42 [.slice A b.length c]]) (fun s=>s.1≤b.length∧(b.take s.1).any (confP p)=false∧(b.take s.1).any (sameP p)=s.2) (fun s=>b.length -s.1) (0,false) ⟨rfl,rfl,trivial⟩ (fun w hw=>hw) rfl ⟨Nat.zero_le _,rfl,rfl⟩ ?_
  rintro ⟨i,kn⟩ g ⟨hi,hc,hs⟩
  have hi:i≤b.length:=hi
  have hc:(b.take i).any (confP p)=false:=hc
  have hs:(b.take i).any (sameP p)=kn:=hs
  iterate 6 refine G ?_
  refine H_cond rfl ?_ ?_<;>intro hlt
  ·have hlt':i<b.length:=by simpa using hlt
   obtain ⟨bk,off,x,rfl,hbl,hxk,hrx⟩:=hx.at_ hlt'
   have hs1:=snocL b i x hxk
   iterate 6 refine G ?_
   refine xV (e_idx _ Tryz.underlying40 Tryz.sizeOf90 (q0 rfl) (q0 rfl) (fun _=>⟨rfl,by omega⟩)) rfl rfl ?_
   refine G ?_
   refine X_alloc Tryz.zeroValue90 rfl fun b8=>?_
   refine X_st (v:= .agg _) rfl rfl Tryz.sizeOf90 ?_
   iterate 13 refine G ?_
   refine xVT (e_neS (eqPy x p) (by kernel_rfl) (q1 rfl) (q1 rfl)) rfl rfl rfl rfl ?_
   iterate 3 refine G ?_
   refine H_cond rfl ?_ ?_<;>intro h2
   ·have h2':confP p x=true:=h2
    rw [if_pos (List.any_eq_true.2 ⟨x,List.mem_of_getElem? hxk,h2'⟩)]
    iterate 2 refine G ?_
    refine xV (e_build Tryz.underlying42 fl42 Tryz.zeroValue42 E.p0 rfl) rfl rfl ?_
    refine X_st (v:= .agg _) rfl rfl Tryz.sizeOf42 ?_
    iterate 10 refine G ?_
    exact ret_of rfl (resCt 1 rfl rfl rfl Tryz.isAgg42 Tryz.sizeOf42 rfl rfl) fun w' hw=>⟨(none,0),rfl,(mem_nil.2 hw.1).nilRow _ _ _ rfl⟩
   ·have h2':confP p x=false:=h2
    iterate 7 refine G ?_
    refine xVF (e_eqS (eqPy x p) (by kernel_rfl) (q1 rfl) (q1 rfl)) rfl rfl rfl rfl ?_
    iterate 9 refine G ?_
    exact loopJ_normal (i+1,kn||sameP p x) agr ⟨rfl,rfl,trivial⟩ (fun w hw=>hw.tail) rfl ⟨by show i+1≤b.length;omega,by show (b.take (i+1)).any (confP p)=false;rw [hs1,List.any_append,hc];simp [h2'],by show (b.take (i+1)).any (sameP p)=(kn||sameP p x);rw [hs1,List.any_append,hs];simp⟩ (by show b.length -(i+1)<b.length -i;omega)
  ·have hie:i=b.length:=by simp at hlt;omega
   subst hie
   rw [List.take_length] at hc hs
   rw [if_neg (by rw [hc];decide),hs]
   iterate 9 refine G ?_
   refine xCX (en Tryz.call42 (ha1 (q0 rfl))) (fun w hw=>cloneY_w A b.length c b w (hx.mem hw) (by omega)) rfl (fun _=>rfl) fun y=>?_
   obtain ⟨A1,c1⟩:=y
   refine xV (e_build Tryz.underlying42 fl42 Tryz.zeroValue42 (pt (v:= .slice _ _ _) rfl E.p0) rfl) rfl rfl ?_
   refine X_alloc Tryz.zeroValue42 rfl fun b9=>?_
   refine X_st (v:= .agg _) rfl rfl Tryz.sizeOf42 ?_
   iterate 8 refine G ?_
   refine H_cond rfl ?_ ?_<;>intro h3
   ·have h3':kn=true:=h3
    rw [if_pos h3']
    iterate 3 refine G ?_
    refine X_st (v:= .agg _) rfl rfl Tryz.sizeOf42 ?_
    iterate 5 refine G ?_
    exact ret_of rfl (resCt 2 rfl rfl rfl Tryz.isAgg42 Tryz.sizeOf42 rfl rfl) fun w' hw=>⟨(A1,c1),rfl,hw.pick [1] (by decide)⟩
   ·have h3': ¬kn=true:=by rw [show kn=false from h3];decide
    rw [if_neg h3']
    iterate 11 refine G ?_
    refine H_cond rfl ?_ ?_<;>intro h4
    ·have h4':256≤b.length:=by simp at h4;omega
     rw [if_pos h4']
     iterate 2 refine G ?_
     refine xV (e_build Tryz.underlying42 fl42 Tryz.zeroValue42 E.p0 rfl) rfl rfl ?_
     refine X_st (v:= .agg _) rfl rfl Tryz.sizeOf42 ?_
     iterate 5 refine G ?_
     exact ret_of rfl (resCt 2 rfl rfl rfl Tryz.isAgg42 Tryz.sizeOf42 rfl rfl) fun w' hw=>⟨(none,0),rfl,(mem_nil.2 hw.1).nilRow _ _ _ rfl⟩
    ·have h4': ¬256≤b.length:=by simp at h4;omega
     rw [if_neg h4']
     iterate 7 refine G ?_
     refine X_push (k:=3) (i:=Tryz.t90) 1 (p) Tryz.underlying40 (by kernel_rfl) rfl rfl rfl rfl Tryz.sizeOf90 Tryz.zeroValue90 rfl rfl rfl rfl rfl rfl ⟨by omega,by decide⟩ rfl rfl fun B A2 c2=>?_
     refine G ?_
     refine X_st (v:= .slice _ _ _) rfl rfl Tryz.sizeOf40 ?_
     iterate 5 refine G ?_
     refine X_st (v:= .agg _) rfl rfl Tryz.sizeOf42 ?_
     iterate 4 refine G ?_
     exact ret_of rfl (resCt 2 rfl rfl rfl Tryz.isAgg42 Tryz.sizeOf42 rfl rfl) fun w' hw=>⟨(A2,c2),rfl,hw.pick [1] (by decide)⟩
end Go.Proofs.Net
