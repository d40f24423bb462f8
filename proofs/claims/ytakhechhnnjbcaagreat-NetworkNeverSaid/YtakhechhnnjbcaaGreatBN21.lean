import Derived.Test.YtakhechhnnjbcaaGreatBN20
import Derived.Test.YtakhechhnnjbcaaGreatBN13
import Derived.Test.YtakhechhnnjbcaaGreatBN09
import Derived.Test.YtakhechhnnjbcaaGreatBN12
import Derived.Test.YtakhechhnnjbcaaGreatBN04
import Derived.Test.YtakhechhnnjbcaaGreatTy
set_option maxRecDepth 100000
set_option maxHeartbeats 8000000
set_option linter.unusedVariables false
set_option linter.unusedSimpArgs false
namespace Go.Proofs.Rid
open Go Go.RowKit Go.Proofs.E Go.Proofs.Cus
section
variable {a:YA} {t:TY} {w0 w:World} {L:List E.Item} {n N:Nat}
theorem tell_kinds {s:SY} {e:Ev} {b:Nat} {v:Int} (hb:e.bike=b) (hv:s.riding.getD b 0=v):
  (e.kind=3→tellY s e=beginY s e (spanE e))∧(e.kind=4→tellY s e=changeY s e (spanE e))∧
  (e.kind=5→tellY s e=if 0≤v then {s with rides:=s.rides.set v.toNat (pauseR (spanE e) (s.rides.getD v.toNat default)),paused:=s.paused.set v.toNat true} else s)∧
  (e.kind=6→tellY s e=if 0≤v then resumeY s v.toNat (spanE e) else s)∧
  (e.kind=1→tellY s e=leaveY s b ⟨1,e.place,0,false⟩ (spanE e))∧(e.kind=2→tellY s e=leaveY s b ⟨2,e.place,0,false⟩ (spanE e))∧
  (e.kind=9→tellY s e=leaveY s b ⟨6,0,0,false⟩ (spanE e))∧(e.kind≠3→e.kind≠4→e.kind≠5→e.kind≠6→e.kind≠1→e.kind≠2→e.kind≠9→tellY s e=s):=by
 have hbt:e.bike.toNat=b:=by omega
 refine ⟨fun h=>?_,fun h=>?_,fun h=>?_,fun h=>?_,fun h=>?_,fun h=>?_,fun h=>?_,fun h3 h4 h5 h6 h1 h2 h9=>?_⟩<;>unfold tellY<;>simp only [hbt,hv]
 ·rw [if_pos h]
 ·rw [if_neg (by omega),if_pos h]
 ·rw [if_neg (by omega),if_neg (by omega),if_pos h]
 ·rw [if_neg (by omega),if_neg (by omega),if_neg (by omega),if_pos h]
 ·rw [if_neg (by omega),if_neg (by omega),if_neg (by omega),if_neg (by omega),if_pos h]
 ·rw [if_neg (by omega),if_neg (by omega),if_neg (by omega),if_neg (by omega),if_neg (by omega),if_pos h]
 ·rw [if_neg (by omega),if_neg (by omega),if_neg (by omega),if_neg (by omega),if_neg (by omega),if_neg (by omega),if_pos h]
 ·rw [if_neg h3,if_neg h4,if_neg h5,if_neg h6,if_neg h1,if_neg h2,if_neg h9]
theorem tell_w (hw:Mem w0 (stY a t++L) w) (hmk:marks L=[]) (hI:WF n N t.plain) (hN:N≤100000) (e:Ev) (hb:0≤e.bike∧e.bike<n):
  Calls Tryz.prog 101 #[.pointer (some ⟨a.sb,0,none⟩), .agg e.cells.toArray] w fun r w'=> ∃y:YOut a (tellY t.plain e),r= .returned (.tuple #[])∧Mem w0 (stY y.1.1 y.1.2++L) w':=by
 obtain ⟨hpl,hrl,hsl,hxl⟩:=len_of hI
 obtain ⟨k,hk⟩: ∃k:Nat,e.bike=k:=⟨e.bike.toNat,by omega⟩
 have hkn:k<n:=by omega
 obtain ⟨v,hv,hvg,hv0,hv1⟩:=riding_get hI hkn
 have hvt:t.riding[k]?=some v:=hv
 have hv1':v<t.xs.length:=by simpa [TY.plain] using hv1
 obtain ⟨d3,d4,d5,d6,d1,d2,d9,d0⟩:=tell_kinds (s:=t.plain) hk hvg
 obtain ⟨ed,es,eat,el,ekind,ebike,epl,erd,erid⟩:=e
 simp only at hk d3 d4 d5 d6 d1 d2 d9 d0 hb
 subst hk
 refine H_enterM hw hmk Tryz.func101 rfl Tryz.ntmps101 rfl ?_
 iterate 2 refine G ?_
 refine X_box (v:= .agg _) rfl rfl fun b3=>?_
 iterate 8 refine G ?_
 refine xV (e_build Tryz.underlying187 fl187 Tryz.zeroValue187 (pt (v:= .int _ _) rfl (pt (v:= .int _ _) rfl E.p0)) rfl) rfl rfl ?_
 refine X_alloc Tryz.zeroValue187 rfl fun b4=>?_
 refine X_st (v:= .agg _) rfl rfl Tryz.sizeOf187 ?_
 iterate 3 refine G ?_
 refine R1 rfl (by decide+kernel) ?_
 iterate 6 refine G ?_
 refine xV (e_idx k Tryz.underlying22 Tryz.sizeOf3 (q0 rfl) (q0 rfl) (fun _=>⟨rfl,by omega⟩)) rfl rfl ?_
 refine xV (e_ld (v:= .int .i64 v) Tryz.isAgg3 (q0 rfl) (by exact rr0 6 (k:=1) (enc:=encInt) rfl hvt rfl)) rfl rfl ?_
 iterate 16 refine G ?_
 refine H_cond rfl ?_ ?_<;>intro h3
 ·have hk3:ekind=3:=by simpa using h3
  iterate 4 refine G ?_
  refine X_eff (f_callM (en Tryz.call154 (ha3 (q0 rfl) (q0 rfl) (q0 rfl))) (fun w hw=>begin_w (Mem.rot (X:=[_,_]) (S:=stY a t) hw) hmk hI hN ⟨ed,es,eat,el,ekind,k,epl,erd,erid⟩ hb ⟨eat,el⟩) rfl (fun _=>rfl) fun y=>?_)
  iterate 2 refine G ?_
  exact end0 rfl hmk fun w' hw=>⟨⟨y.1,y.2.1,y.2.2.trans (d3 hk3).symm⟩,rfl,Mem.cutM (X:=[_,_]) hw⟩
 ·iterate 6 refine G ?_
  refine H_cond rfl ?_ ?_<;>intro h4
  ·have hk4:ekind=4:=by simpa using h4
   iterate 4 refine G ?_
   refine X_eff (f_callM (en Tryz.call155 (ha3 (q0 rfl) (q0 rfl) (q0 rfl))) (fun w hw=>change_w (Mem.rot (X:=[_,_]) (S:=stY a t) hw) hmk hI hN ⟨ed,es,eat,el,ekind,k,epl,erd,erid⟩ hb ⟨eat,el⟩) rfl (fun _=>rfl) fun y=>?_)
   iterate 2 refine G ?_
   exact end0 rfl hmk fun w' hw=>⟨⟨y.1,y.2.1,y.2.2.trans (d4 hk4).symm⟩,rfl,Mem.cutM (X:=[_,_]) hw⟩
  ·iterate 6 refine G ?_
   refine H_cond rfl ?_ ?_<;>intro h5
   ·have hk5:ekind=5:=by simpa using h5
    iterate 6 refine G ?_
    refine H_cond rfl ?_ ?_<;>intro hp
    ·have hp':0≤v:=by simpa using hp
     obtain ⟨q,rfl⟩: ∃q:Nat,v=q:=⟨v.toNat,by omega⟩
     have hq:q<t.xs.length:=by omega
     obtain ⟨x,hx⟩: ∃x,t.xs[q]?=some x:=⟨_,List.getElem?_eq_getElem hq⟩
     obtain ⟨p,hpq⟩: ∃p,t.paused[q]?=some p:=⟨_,List.getElem?_eq_getElem (by omega)⟩
     have hlo:=leg_of hI hx
     have hxd:=plain_getD hx
     have hop:=fun (X:List E.Item) (w:World) (h:Mem w0 (stY a t++X) w)=>openK h hx
     have hcl:=fun (z:RX) (ps:List Bool) (w:World)=>closeK (a:=a) (t:=t) (w0:=w0) (w:=w) (L:=L) (m:=t.byID) (gs:=t.riding) (ps:=ps) (ss:=t.spots) (k:=q) z hq
     refine G ?_
     refine H_mem (fun w hw=>hop _ w (Mem.rot (X:=[_,_]) (S:=stY a t) hw)) rfl ?_
     refine H_know (fun w hw=>rowT_at (j:=0) hw rfl (by omega)) fun ⟨rb,hrb⟩=>?_
     refine H_know (fun w hw=>rowT_at (j:=3) hw rfl (by omega)) fun ⟨bb,hbb⟩=>?_
     obtain ⟨asb,arA,arc,am,ag,agc,apA,apc,as_,asc⟩:=a
     obtain ⟨xr,⟨lA,lc,pA,pc⟩⟩:=x
     simp only at hrb hbb hlo
     subst hrb
     subst hbb
     refine H_cut [37,38,39,40,41,42,43,44,45,46,47,48,49,50,51,52,53,54,55] (fun _:Option Addr×Nat=>[]) (fun s=>[rdRow (some ⟨rb,0,none⟩) arc (t.xs.set q ⟨pauseR ⟨eat,el⟩ xr,⟨lA,lc,s.1,s.2⟩⟩),pzRow s.1 s.2 (xr.pauses++[⟨⟨eat,el⟩,zSpn⟩]),lgRow lA lc xr.legs,blRow (some ⟨bb,0,none⟩) apc t.paused,inRow (some ⟨ag,0,none⟩) agc t.riding,E.rowT 252 4 Sp.cells (some ⟨as_,0,none⟩) asc t.spots,box asb 183 (yCells ⟨asb,some ⟨rb,0,none⟩,arc,am,ag,agc,some ⟨bb,0,none⟩,apc,as_,asc⟩ t),bag ((t.xs.eraseIdx q).flatMap rdParts),imap am (rmV t.byID),box b4 187 [.int .i64 eat, .int .i64 el],box b3 58 (Ev.cells ⟨ed,es,eat,el,ekind,k,epl,erd,erid⟩)]++L) (fun _=>True) ?_ ?_
     ·refine RAd 2 rfl (by decide+kernel) ?_
      refine aW 0 ?_
      refine aW 1 ?_
      refine aW 2 ?_
      refine aW 3 ?_
      refine aW 4 ?_
      refine aW 5 ?_
      refine aW 6 ?_
      refine aW 7 ?_
      refine aW 8 ?_
      refine aW 9 ?_
      refine aV 10 (by decide+kernel) rfl (e_idx q Tryz.underlying135 Tryz.sizeOf191 (q0 rfl) (q0 rfl) (fun _=>⟨rfl,hq⟩)) rfl ?_
      refine aW 11 ?_
      refine aW 13 ?_
      refine aV 14 (by decide+kernel) rfl (e_build Tryz.underlying248 fl248 Tryz.zeroValue248 (pt (v:= .agg _) rfl E.p0) rfl) rfl ?_
      refine rdy2 (i:=12) (j:=15) (by decide+kernel) (sub_drop 2) ?_ ?_
      ·refine aL rfl (f_ev (e_ld (v:= .slice pA xr.pauses.length pc) Tryz.isAgg189 (q0 rfl) (by first|exact rr 0 (r:=8) rfl hx rfl|exact rr 1 (r:=8) rfl hx rfl)) rfl rfl ?_)
       refine r1 15 2 ?_
       refine aL rfl (f_slit [(.int .i64 0),(.int .i64 0),(.int .i64 0),(.int .i64 0)] Tryz.underlying189 Tryz.sizeOf248 Tryz.zeroValue248 rfl (by kernel_rfl) (pt (v:= .agg _) rfl E.p0) rfl rfl fun b52=>?_)
       refine r1 16 3 ?_
       refine aL rfl (f_append (k:=4) (i:=Tryz.t248) (enc:=Pz.cells) (xs:=xr.pauses) 2 Tryz.underlying189 (by kernel_rfl) rfl rfl rfl rfl (fun _=>rfl) (fun _=>rfl) rfl rfl rfl (fun w hw=>slAt_box (enc:=Pz.cells) (xs:=[⟨⟨eat,el⟩,zSpn⟩]) hw (j:=0) rfl (fun _=>rfl) (by simp)) ⟨by simp;omega,by decide⟩ rfl fun A1 c1=>?_)
       refine aV 17 (by decide+kernel) rfl (e_idx q Tryz.underlying135 Tryz.sizeOf191 (q0 rfl) (q0 rfl) (fun _=>⟨rfl,hq⟩)) rfl ?_
       refine aW 18 ?_
       refine r1 19 3 ?_
       refine aL rfl (f_storeR 1 (i:=q) (off:=8) ⟨pauseR ⟨eat,el⟩ xr,⟨lA,lc,A1,c1⟩⟩ rfl rfl Tryz.sizeOf189 rfl rfl rfl hx rfl rfl ?_)
       refine aZ (by decide+kernel) (sub_drop 3) ?_
       exact cutJ_normal ((A1,c1):Option Addr×Nat) agr trivial (fun w hw=>hw.tail) rfl trivial
      ·refine aL rfl (f_slit [(.int .i64 0),(.int .i64 0),(.int .i64 0),(.int .i64 0)] Tryz.underlying189 Tryz.sizeOf248 Tryz.zeroValue248 rfl (by kernel_rfl) (pt (v:= .agg _) rfl E.p0) rfl rfl fun b52=>?_)
       refine r1 12 3 ?_
       refine aL rfl (f_ev (e_ld (v:= .slice pA xr.pauses.length pc) Tryz.isAgg189 (q0 rfl) (by first|exact rr 0 (r:=8) rfl hx rfl|exact rr 1 (r:=8) rfl hx rfl)) rfl rfl ?_)
       refine r1 16 3 ?_
       refine aL rfl (f_append (k:=4) (i:=Tryz.t248) (enc:=Pz.cells) (xs:=xr.pauses) 2 Tryz.underlying189 (by kernel_rfl) rfl rfl rfl rfl (fun _=>rfl) (fun _=>rfl) rfl rfl rfl (fun w hw=>slAt_box (enc:=Pz.cells) (xs:=[⟨⟨eat,el⟩,zSpn⟩]) hw (j:=0) rfl (fun _=>rfl) (by simp)) ⟨by simp;omega,by decide⟩ rfl fun A1 c1=>?_)
       refine aV 17 (by decide+kernel) rfl (e_idx q Tryz.underlying135 Tryz.sizeOf191 (q0 rfl) (q0 rfl) (fun _=>⟨rfl,hq⟩)) rfl ?_
       refine aW 18 ?_
       refine r1 19 3 ?_
       refine aL rfl (f_storeR 1 (i:=q) (off:=8) ⟨pauseR ⟨eat,el⟩ xr,⟨lA,lc,A1,c1⟩⟩ rfl rfl Tryz.sizeOf189 rfl rfl rfl hx rfl rfl ?_)
       refine aZ (by decide+kernel) (sub_drop 3) ?_
       exact cutJ_normal ((A1,c1):Option Addr×Nat) agr trivial (fun w hw=>hw.tail) rfl trivial
     ·rintro ⟨A1,c1⟩ g5 _
      iterate 7 refine G ?_
      refine xV (e_idx q Tryz.underlying103 Tryz.sizeOf4 (q0 rfl) (q0 rfl) (fun _=>⟨rfl,by omega⟩)) rfl rfl ?_
      refine X_eff (f_storeR0 3 (k:=1) (enc:=encB) true rfl rfl Tryz.sizeOf4 rfl rfl rfl hpq rfl rfl ?_)
      iterate 2 refine G ?_
      exact end0 rfl hmk fun w' hw=>⟨⟨(_,_),rfl,by
       rw [d5 hk5,if_pos hp']
       unfold TY.plain
       simp only [Int.toNat_natCast]
       rw [hxd,map_setR]
       rfl⟩,rfl,hcl ⟨pauseR ⟨eat,el⟩ xr,⟨lA,lc,A1,c1⟩⟩ (t.paused.set q true) w' rfl (by simp) rfl (hw.pickN 11 [0,1,2,3,4,5,6,7,8] (by decide) (by decide))⟩
    ·have hp': ¬0≤v:=by simpa using hp
     iterate 2 refine G ?_
     exact end0 rfl hmk fun w' hw=>⟨⟨(a,t),rfl,by rw [d5 hk5,if_neg hp']⟩,rfl,hw.tail.tail⟩
   ·iterate 6 refine G ?_
    refine H_cond rfl ?_ ?_<;>intro h6
    ·have hk6:ekind=6:=by simpa using h6
     iterate 6 refine G ?_
     refine H_cond rfl ?_ ?_<;>intro hp
     ·have hp':0≤v:=by simpa using hp
      obtain ⟨q,rfl⟩: ∃q:Nat,v=q:=⟨v.toNat,by omega⟩
      have hq:q<t.xs.length:=by omega
      obtain ⟨x,hx⟩: ∃x,t.xs[q]?=some x:=⟨_,List.getElem?_eq_getElem hq⟩
      have hxd:=plain_getD hx
      iterate 4 refine G ?_
      refine X_eff (f_callM (en Tryz.call156 (ha3 (q0 rfl) (q0 rfl) (q0 rfl))) (fun w hw=>resume_w (Mem.rot (X:=[_,_]) (S:=stY a t) hw) hmk hI hN hq hx ⟨eat,el⟩) rfl (fun _=>rfl) fun u=>?_)
      iterate 2 refine G ?_
      exact end0 rfl hmk fun w' hw=>⟨⟨(a,_),rfl,by
       rw [d6 hk6,if_pos hp']
       unfold resumeY TY.plain
       simp only [Int.toNat_natCast]
       rw [hxd,map_setR]
       rfl⟩,rfl,Mem.cutM (X:=[_,_]) hw⟩
     ·have hp': ¬0≤v:=by simpa using hp
      iterate 2 refine G ?_
      exact end0 rfl hmk fun w' hw=>⟨⟨(a,t),rfl,by rw [d6 hk6,if_neg hp']⟩,rfl,hw.tail.tail⟩
    ·iterate 6 refine G ?_
     refine H_cond rfl ?_ ?_<;>intro h1
     ·have hk1:ekind=1:=by simpa using h1
      iterate 6 refine G ?_
      refine xV (e_build Tryz.underlying252 fl252 Tryz.zeroValue252 (pt (v:= .int _ _) rfl (pt (v:= .int _ _) rfl E.p0)) rfl) rfl rfl ?_
      refine G ?_
      refine X_eff (f_callM (en Tryz.call157 (ha4 (q0 rfl) (q0 rfl) (q0 rfl) (q0 rfl))) (fun w hw=>leave_w (Mem.rot (X:=[_,_]) (S:=stY a t) hw) hmk hI hN k hkn ⟨1,epl,0,false⟩ ⟨eat,el⟩) rfl (fun _=>rfl) fun y=>?_)
      iterate 2 refine G ?_
      exact end0 rfl hmk fun w' hw=>⟨⟨(a,y.1),rfl,y.2.trans (d1 hk1).symm⟩,rfl,Mem.cutM (X:=[_,_]) hw⟩
     ·iterate 6 refine G ?_
      refine H_cond rfl ?_ ?_<;>intro h2
      ·have hk2:ekind=2:=by simpa using h2
       iterate 6 refine G ?_
       refine xV (e_build Tryz.underlying252 fl252 Tryz.zeroValue252 (pt (v:= .int _ _) rfl (pt (v:= .int _ _) rfl E.p0)) rfl) rfl rfl ?_
       refine G ?_
       refine X_eff (f_callM (en Tryz.call157 (ha4 (q0 rfl) (q0 rfl) (q0 rfl) (q0 rfl))) (fun w hw=>leave_w (Mem.rot (X:=[_,_]) (S:=stY a t) hw) hmk hI hN k hkn ⟨2,epl,0,false⟩ ⟨eat,el⟩) rfl (fun _=>rfl) fun y=>?_)
       iterate 2 refine G ?_
       exact end0 rfl hmk fun w' hw=>⟨⟨(a,y.1),rfl,y.2.trans (d2 hk2).symm⟩,rfl,Mem.cutM (X:=[_,_]) hw⟩
      ·iterate 6 refine G ?_
       refine H_cond rfl ?_ ?_<;>intro h9
       ·have hk9:ekind=9:=by simpa using h9
        iterate 4 refine G ?_
        refine xV (e_build Tryz.underlying252 fl252 Tryz.zeroValue252 (pt (v:= .int _ _) rfl E.p0) rfl) rfl rfl ?_
        refine G ?_
        refine X_eff (f_callM (en Tryz.call157 (ha4 (q0 rfl) (q0 rfl) (q0 rfl) (q0 rfl))) (fun w hw=>leave_w (Mem.rot (X:=[_,_]) (S:=stY a t) hw) hmk hI hN k hkn ⟨6,0,0,false⟩ ⟨eat,el⟩) rfl (fun _=>rfl) fun y=>?_)
        iterate 2 refine G ?_
        exact end0 rfl hmk fun w' hw=>⟨⟨(a,y.1),rfl,y.2.trans (d9 hk9).symm⟩,rfl,Mem.cutM (X:=[_,_]) hw⟩
       ·iterate 2 refine G ?_
        exact end0 rfl hmk fun w' hw=>⟨⟨(a,t),rfl,(d0 (by simpa using h3) (by simpa using h4) (by simpa using h5) (by simpa using h6) (by simpa using h1) (by simpa using h2) (by simpa using h9)).symm⟩,rfl,hw.tail.tail⟩
end
end Go.Proofs.Rid
namespace Go.Proofs.Rid
open Go Go.RowKit Go.Proofs.E Go.Proofs.Cus
theorem cmpId_w (x y:RX) (w:World):Calls Tryz.prog 103 #[.agg x.cells.toArray, .agg y.cells.toArray] w fun e w'=>e= .returned (.int .i64 (cmpI x.r.id y.r.id))∧Bel w w':=by
 refine H_enter Tryz.func103 rfl Tryz.ntmps103 rfl ?_
 iterate 2 refine G ?_
 refine X_box (v:= .agg _) rfl rfl fun b2=>?_
 refine X_box (v:= .agg _) rfl rfl fun b3=>?_
 iterate 9 refine G ?_
 refine xC (en Tryz.call104 (ha2 (q0 rfl) (q0 rfl))) (fun _ w _=>compare_w x.r.id y.r.id w) rfl rfl ?_
 iterate 4 refine G ?_
 exact ret1 (v:= .int _ _) rfl rfl rfl fun w' hw=>⟨rfl,hw.1⟩
def xlt (x y:RX):Bool:=idLt x.r y.r
theorem cmpI_lt (a b:Int):decide (cmpI a b<0)=decide (a<b):=by
 unfold cmpI
 split
 ·rename_i h;simp [h]
 ·rename_i h
  split<;>simp [h]
theorem xlt_asymm (u v:RX) (h:xlt u v=true):xlt v u=false:=by unfold xlt idLt at*;simp at*;omega
theorem xlt_ntrans (u v w:RX) (h1:xlt u v=false) (h2:xlt v w=false):xlt u w=false:=by unfold xlt idLt at*;simp at*;omega
section
variable {w0 w:World} {L:List E.Item}
theorem ins_w {A:Option Addr} {c:Nat} {xs:List RX} (a b:Nat) (hw:Mem w0 (rdRow A c xs::L) w) (hmk:marks L=[]) (hb:b≤xs.length) (hl:xs.length≤100000) (ha:a≤100000):
  Calls Tryz.prog 207 #[.slice A xs.length c, .int .i64 a, .int .i64 b, .func (.func 103) #[] #[]] w fun e w'=> ∃ys:{ys:List RX// ∃i,b≤i∧(i≤b∨i=a+1)∧InsO xlt xs ys a i},e= .returned (.tuple #[])∧Mem w0 (rdRow A c ys.1::L) w':=by
 refine H_enterM hw hmk Tryz.func207 rfl Tryz.ntmps207 rfl ?_
 iterate 8 refine G ?_
 refine H_loop [8,9,12,13,14,15,16,17,18,19,20,21,22,23,24,25,26,27,28,29,30,31,32,33,34,35,36,37,38,39,40,41,42,43,44,45,46,47,48,49,50,51,52] (fun q:Nat×List RX=>[(8, .int .i64 q.1)]) (fun q=>rdRow A c q.2::L) (fun q=>a+1≤q.1∧(q.1≤b∨q.1=a+1)∧InsO xlt xs q.2 a q.1) (fun q=>b -q.1) (a+1,xs) ⟨rfl,trivial⟩ (fun w hw=>hw) rfl ⟨Nat.le_refl _, .inr rfl,InsO.start xs a⟩ ?_
 rintro ⟨i,ys⟩ g ⟨hai,hib,hO⟩
 simp only at hai hib hO
 have hyl:ys.length=xs.length:=hO.perm.length_eq
 rw [←hyl]
 iterate 8 refine G ?_
 refine H_cond rfl ?_ ?_<;>intro hlt
 ·have hlt':i<b:=by simpa using hlt
  iterate 11 refine G ?_
  refine H_loop [9,18,19,20,21,22,23,24,25,26,27,28,29,30,31,32,33,34,35,36,37,38,39,40,41,42,43,44,45,46,47,48,49,50,51,52] (fun q:Nat×List RX=>[(9, .int .i64 q.1)]) (fun q=>rdRow A c q.2::L) (fun q=>a≤q.1∧q.1≤i∧InsI xlt xs q.2 a i q.1) (fun q=>q.1) (i,ys) ⟨rfl,trivial⟩ (fun w hw=>hw) rfl ⟨by show a≤i;omega,Nat.le_refl _,hO.inner⟩ ?_
  rintro ⟨j,zs⟩ g2 ⟨haj,hji,hI⟩
  simp only at haj hji hI
  have hzl:zs.length=xs.length:=hI.perm.length_eq
  rw [show ys.length=zs.length by omega]
  obtain ⟨x,hx⟩: ∃x,zs[j]?=some x:=⟨_,List.getElem?_eq_getElem (by omega)⟩
  obtain ⟨y,hy⟩: ∃y,zs[j -1]?=some y:=⟨_,List.getElem?_eq_getElem (by omega)⟩
  refine H_know (fun w hw=>rowT_at (j:=0) hw rfl (by simp only;omega)) fun ⟨rb,hrb⟩=>?_
  subst hrb
  iterate 2 refine G ?_
  refine R1 rfl (by decide+kernel) ?_
  iterate 7 refine G ?_
  refine xVT (e_idx j Tryz.underlying135 Tryz.sizeOf191 (q1 rfl) (q1 rfl) (fun _=>⟨rfl,by omega⟩)) rfl rfl rfl rfl ?_
  refine xVT (e_lds (vs:=x.cells) Tryz.isAgg191 Tryz.sizeOf191 (q1 rfl) (rrs 0 rfl hx) rfl) rfl rfl rfl rfl ?_
  iterate 2 refine G ?_
  refine xVT (e_sub (r:=((j -1:Nat):Int)) (q1 rfl) (q0 rfl) (fun hg=>by simp at hg;exact ⟨by omega,by omega,by omega⟩)) rfl rfl rfl rfl ?_
  refine xVT (e_idx (j -1) Tryz.underlying135 Tryz.sizeOf191 (q1 rfl) (q1 rfl) (fun _=>⟨rfl,by omega⟩)) rfl rfl rfl rfl ?_
  refine xVT (e_lds (vs:=y.cells) Tryz.isAgg191 Tryz.sizeOf191 (q1 rfl) (rrs 0 rfl hy) rfl) rfl rfl rfl rfl ?_
  refine xCT (enV (cap:=[]) (al:=[.agg x.cells.toArray, .agg y.cells.toArray]) Tryz.call103 (q1 rfl) (fun hg=>by rw [ha2 (q1 (v:= .agg _) rfl) (q1 (v:= .agg _) rfl) hg];rfl)) (fun _ w _=>cmpId_w x y w) rfl rfl rfl rfl ?_
  iterate 4 refine G ?_
  refine H_cond rfl ?_ ?_<;>intro hc
  ·have hja:a<j∧xlt x y=true:=by
    rw [cmpI_lt] at hc
    unfold xlt idLt
    simpa using hc
   have hx2:(zs.set (j -1) x)[j]?=some x:=by rw [List.getElem?_set_ne (by omega)];exact hx
   have hy2:(zs.set j y)[j -1]?=some y:=by rw [List.getElem?_set_ne (by omega)];exact hy
   iterate 4 refine G ?_
   refine H_cut [37,38,39,40,41,42,43,44,45,46,47,48,49,50,51,52] (fun _:Unit=>[]) (fun _=>rdRow (some ⟨rb,0,none⟩) c ((zs.set j y).set (j -1) x)::L) (fun _=>True) ?_ ?_
   ·refine RAd 1 rfl (by decide+kernel) ?_
    refine aW 0 ?_
    refine aW 1 ?_
    refine aW 2 ?_
    refine aW 3 ?_
    refine aW 4 ?_
    refine aW 5 ?_
    refine aW 6 ?_
    refine aW 7 ?_
    refine aV 8 (by decide+kernel) rfl (e_idx (j -1) Tryz.underlying135 Tryz.sizeOf191 (q0 rfl) (q0 rfl) (fun _=>⟨by omega,by omega⟩)) rfl ?_
    refine aW 10 ?_
    refine aW 11 ?_
    refine aV 12 (by decide+kernel) rfl (e_idx j Tryz.underlying135 Tryz.sizeOf191 (q0 rfl) (q0 rfl) (fun _=>⟨by omega,by omega⟩)) rfl ?_
    refine rdy2 (i:=9) (j:=13) (by decide+kernel) (sub_drop 1) ?_ ?_
    ·refine aL rfl (f_ev (e_lds (vs:=y.cells) Tryz.isAgg191 Tryz.sizeOf191 (q0 rfl) (rrs 0 rfl hy) rfl) rfl rfl ?_)
     refine r1 13 1 ?_
     refine aL rfl (f_ev (e_lds (vs:=x.cells) Tryz.isAgg191 Tryz.sizeOf191 (q0 rfl) (rrs 0 rfl hx) rfl) rfl rfl ?_)
     refine aV 14 (by decide+kernel) rfl (e_idx j Tryz.underlying135 Tryz.sizeOf191 (q0 rfl) (q0 rfl) (fun _=>⟨by omega,by omega⟩)) rfl ?_
     refine r1 15 1 ?_
     refine aL rfl (f_storeR0 0 y rfl rfl Tryz.sizeOf191 rfl rfl rfl (by first|exact hx|exact hx2) rfl rfl ?_)
     refine aV 16 (by decide+kernel) rfl (e_idx (j -1) Tryz.underlying135 Tryz.sizeOf191 (q0 rfl) (q0 rfl) (fun _=>⟨by omega,by omega⟩)) rfl ?_
     refine r1 17 1 ?_
     refine aL rfl (f_storeR0 0 x rfl rfl Tryz.sizeOf191 rfl rfl rfl (by first|exact hy2|exact hy) rfl rfl ?_)
     refine aZ (by decide+kernel) (sub_drop 1) ?_
     exact cutJ_normal () agr trivial (fun w hw=>by first|exact hw|(rw [List.set_comm _ _ (by omega)];exact hw)) rfl trivial
    ·refine aL rfl (f_ev (e_lds (vs:=x.cells) Tryz.isAgg191 Tryz.sizeOf191 (q0 rfl) (rrs 0 rfl hx) rfl) rfl rfl ?_)
     refine r1 9 1 ?_
     refine aL rfl (f_ev (e_lds (vs:=y.cells) Tryz.isAgg191 Tryz.sizeOf191 (q0 rfl) (rrs 0 rfl hy) rfl) rfl rfl ?_)
     refine aV 14 (by decide+kernel) rfl (e_idx j Tryz.underlying135 Tryz.sizeOf191 (q0 rfl) (q0 rfl) (fun _=>⟨by omega,by omega⟩)) rfl ?_
     refine r1 15 1 ?_
     refine aL rfl (f_storeR0 0 y rfl rfl Tryz.sizeOf191 rfl rfl rfl (by first|exact hx|exact hx2) rfl rfl ?_)
     refine aV 16 (by decide+kernel) rfl (e_idx (j -1) Tryz.underlying135 Tryz.sizeOf191 (q0 rfl) (q0 rfl) (fun _=>⟨by omega,by omega⟩)) rfl ?_
     refine r1 17 1 ?_
     refine aL rfl (f_storeR0 0 x rfl rfl Tryz.sizeOf191 rfl rfl rfl (by first|exact hy2|exact hy) rfl rfl ?_)
     refine aZ (by decide+kernel) (sub_drop 1) ?_
     exact cutJ_normal () agr trivial (fun w hw=>by first|exact hw|(rw [List.set_comm _ _ (by omega)];exact hw)) rfl trivial
   ·intro _ g5 _
    iterate 7 refine G ?_
    exact loopJ_normal (j -1,(zs.set j y).set (j -1) x) agr ⟨by show Value.int .i64 ((j:Int) -1)=Value.int .i64 ((j -1:Nat):Int);congr 1;omega,trivial⟩ (fun w hw=>hw) rfl ⟨by show a≤j -1;omega,by show j -1≤i;omega,hI.step xlt_asymm hja.1 hji hx hy hja.2⟩ (by show j -1<j;omega)
  ·have hja:j=a∨xlt x y=false:=by
    rw [cmpI_lt] at hc
    unfold xlt idLt
    simp at hc
    simp
    omega
   iterate 11 refine G ?_
   exact loopJ_normal (i+1,zs) agr ⟨rfl,trivial⟩ (fun w hw=>hw) rfl ⟨by show a+1≤i+1;omega, .inl (by show i+1≤b;omega),hI.stop xlt_ntrans haj hji (hja.imp id fun h=>⟨x,y,hx,hy,h⟩)⟩ (by show b -(i+1)<b -i;omega)
 ·have hlt':b≤i:=by simpa using hlt
  iterate 4 refine G ?_
  exact end0 rfl hmk fun w' hw=>⟨⟨ys,i,hlt',hib,hO⟩,rfl,hw⟩
structure Sorted (xs ys:List RX):Prop where
 perm:ys.Perm xs
 ok:SortedOn xlt ys 0 ys.length
theorem stable_w {A:Option Addr} {c:Nat} {xs:List RX} (hw:Mem w0 (rdRow A c xs::L) w) (hmk:marks L=[]) (hl:xs.length≤20):
  Calls Tryz.prog 158 #[.slice A xs.length c, .int .i64 xs.length, .func (.func 103) #[] #[]] w fun e w'=> ∃ys:{ys:List RX//Sorted xs ys},e= .returned (.tuple #[])∧Mem w0 (rdRow A c ys.1::L) w':=by
 refine H_enterM hw hmk Tryz.func158 rfl Tryz.ntmps158 rfl ?_
 iterate 14 refine G ?_
 refine H_loop [7,8,11,12,13,14,15,16,17,18,19,20,21,22] (fun q:Bool×List RX=>[(7, .int .i64 (if q.1=true then 20 else 0)),(8, .int .i64 (if q.1=true then 40 else 20))]) (fun q=>rdRow A c q.2::L) (fun q=>q.2.Perm xs∧(q.1=true→xs.length=20∧SortedOn xlt q.2 0 20)∧(q.1=false→q.2=xs)) (fun q=>if q.1=true then 0 else 1) (false,xs) ⟨rfl,rfl,trivial⟩ (fun w hw=>hw) rfl ⟨List.Perm.refl _,fun h=>by simp at h,fun _=>rfl⟩ ?_
 rintro ⟨d,ys⟩ g ⟨hp,hd1,hd0⟩
 simp only at hp hd1 hd0
 have hyl:ys.length=xs.length:=hp.length_eq
 rw [←hyl]
 iterate 8 refine G ?_
 refine H_cond rfl ?_ ?_<;>intro hle
 ·cases d with
  |true=>simp at hle;omega
  |false=>
   have h20:ys.length=20:=by simp at hle;omega
   have hyx:=hd0 rfl
   iterate 9 refine G ?_
   refine X_eff (f_callM (en Tryz.call207 (ha4 (q0 rfl) (q0 rfl) (q0 rfl) (q0 rfl))) (fun w hw=>ins_w (xs:=ys) 0 20 hw hmk (by omega) (by omega) (by omega)) rfl (fun _=>rfl) fun u=>?_)
   obtain ⟨zs,i,hi1,hi2,hO⟩:=u
   iterate 15 refine G ?_
   exact loopJ_normal (true,zs) agr ⟨rfl,rfl,trivial⟩ (fun w hw=>hw) rfl ⟨hO.perm.trans hp,fun _=>⟨by omega,fun p q x y h1 h2 h3=>hO.ok p q x y h1 h2 (by omega)⟩,fun h=>by cases h⟩ (by show 0<1;decide)
 ·have hlt:d=true∨ys.length<20:=by
   cases d with
   |true=>exact .inl rfl
   |false=>right;simp at hle;omega
  have hmid: ∃a0:Nat,(if d=true then (20:Int) else 0)=(a0:Int)∧(a0=20∧d=true∨a0=0∧d=false):=by
   cases d with
   |true=>exact ⟨20,rfl, .inl ⟨rfl,rfl⟩⟩
   |false=>exact ⟨0,rfl, .inr ⟨rfl,rfl⟩⟩
  obtain ⟨a0,ha0,hcase⟩:=hmid
  simp only [ha0]
  iterate 11 refine G ?_
  refine X_eff (f_callM (en Tryz.call207 (ha4 (q0 rfl) (q0 rfl) (q0 rfl) (q0 rfl))) (fun w hw=>ins_w (xs:=ys) a0 ys.length hw hmk (by omega) (by omega) (by omega)) rfl (fun _=>rfl) fun u=>?_)
  obtain ⟨zs,i,hi1,hi2,hO⟩:=u
  have hzl:zs.length=xs.length:=(hO.perm.trans hp).length_eq
  have hfin:Sorted xs zs:=by
   refine ⟨hO.perm.trans hp,fun p q x y h1 h2 h3 hx hy=>?_⟩
   rcases hcase with ⟨h4,h5⟩|⟨h4,h5⟩
   ·obtain ⟨h6,h7⟩:=hd1 h5
    rw [hO.out p (by omega)] at hx
    rw [hO.out q (by omega)] at hy
    exact h7 p q x y h1 h2 (by omega) hx hy
   ·exact hO.ok p q x y (by omega) h2 (by omega) hx hy
  have hz20:zs.length≤20:=by omega
  iterate 3 refine G ?_
  refine H_loop [6,7,8,9,28,29,30,31,32,33,34,35,36,37,38,39,40,41,42,43,44,45,46,47,48,49,50,51,52,53,54,55,56,57,58,59,60,61,62] (fun _:Unit=>[(6, .int .i64 20)]) (fun _=>rdRow A c zs::L) (fun _=>True) (fun _=>0) () ⟨rfl,trivial⟩ (fun w hw=>hw) rfl trivial ?_
  intro _ g2 _
  iterate 8 refine G ?_
  refine H_cond rfl ?_ ?_<;>intro h9
  ·simp at h9;omega
  ·iterate 4 refine G ?_
   exact end0 rfl hmk fun w' hw=>⟨⟨zs,hfin⟩,rfl,hw⟩
theorem sort_w {A:Option Addr} {c:Nat} {xs:List RX} (hw:Mem w0 (rdRow A c xs::L) w) (hmk:marks L=[]) (hl:xs.length≤20):
  Calls Tryz.prog 102 #[.slice A xs.length c, .func (.func 103) #[] #[]] w fun e w'=> ∃ys:{ys:List RX//Sorted xs ys},e= .returned (.tuple #[])∧Mem w0 (rdRow A c ys.1::L) w':=by
 refine H_enterM hw hmk Tryz.func102 rfl Tryz.ntmps102 rfl ?_
 iterate 5 refine G ?_
 refine X_eff (f_callM (en Tryz.call158 (ha3 (q0 rfl) (q0 rfl) (q0 rfl))) (fun w hw=>stable_w hw hmk hl) rfl (fun _=>rfl) fun u=>?_)
 refine G ?_
 exact end0 rfl hmk fun w' hw=>⟨u,rfl,hw⟩
end
end Go.Proofs.Rid
namespace Go.Proofs.Rid
open Go.Proofs.Cus
structure JI (n:Nat) (s:PS) (y:SY):Prop where
 ids:(y.rides.map (·.id)).Nodup
 used: ∀r∈y.rides,usedP s.used r.id=true
 byid: ∀(k:Nat) r,y.rides[k]?=some r→rget y.byID r.id=some (k:Int)
 open_: ∀id t,(id,t)∈s.open_→ ∃(k:Nat) (r:Rd),y.rides[k]?=some r∧r.id=id∧r.open_=true∧lastBike r.legs=t.bike∧r.rider=t.rider∧y.paused[k]?=some t.paused∧y.riding[t.bike.toNat]?=some (k:Int)
 rid: ∀(k:Nat) r,y.rides[k]?=some r→r.open_=true→ ∃t,(r.id,t)∈s.open_
 free: ∀(b:Nat) x,s.spots[b]?=some x→x.where_≠3→y.riding[b]?=some (-1)
 spots: ∀(b:Nat) x,s.spots[b]?=some x→parkedS x=true→y.spots[b]?=some x
theorem JI.begin (n:Nat):JI n (beginP n) (beginSY n):=by
 refine ⟨by simp [beginSY],fun r hr=>by simp [beginSY] at hr,fun k r h=>by simp [beginSY] at h,fun id t h=>by simp [beginP] at h,fun k r h=>by simp [beginSY] at h,fun b x h h3=>?_,fun b x h hp=>?_⟩
 ·simp only [beginP,List.getElem?_replicate] at h
  simp only [beginSY,List.getElem?_replicate]
  split at h
  ·rename_i hb;rw [if_pos hb]
  ·cases h
 ·simp only [beginP,List.getElem?_replicate] at h
  split at h
  ·cases h;simp [parkedS] at hp
  ·cases h
theorem id_uniq {l:List Rd} (h:(l.map (·.id)).Nodup) {j k:Nat} {r q:Rd} (hj:l[j]?=some r) (hk:l[k]?=some q) (e:r.id=q.id):j=k:=by
 obtain ⟨h1,e1⟩:=List.getElem?_eq_some_iff.1 hj
 obtain ⟨h2,e2⟩:=List.getElem?_eq_some_iff.1 hk
 have hp:=List.pairwise_iff_getElem.1 h
 rcases Nat.lt_trichotomy j k with h3|h3|h3
 ·exact absurd (by rw [List.getElem_map,List.getElem_map,e1,e2];exact e) (hp j k (by simpa using h1) (by simpa using h2) h3)
 ·exact h3
 ·exact absurd (by rw [List.getElem_map,List.getElem_map,e1,e2];exact e.symm) (hp k j (by simpa using h2) (by simpa using h1) h3)
theorem set_get' {α:Type} {l:List α} {k:Nat} {x:α} (y:α) (hx:l[k]?=some x) (j:Nat):(l.set k y)[j]?=if k=j then some y else l[j]?:=by
 have:=(List.getElem?_eq_some_iff.1 hx).1
 rw [List.getElem?_set]
 by_cases e:k=j
 ·rw [if_pos e,if_pos e,if_pos (by omega)]
 ·rw [if_neg e,if_neg e]
theorem ids_set {l:List Rd} {k:Nat} {r q:Rd} (hk:l[k]?=some r) (e:q.id=r.id):(l.set k q).map (·.id)=l.map (·.id):=by
 rw [List.map_set,e]
 obtain ⟨h1,h2⟩:=List.getElem?_eq_some_iff.1 hk
 apply List.ext_getElem?
 intro i
 rw [List.getElem?_set]
 split
 ·rename_i hi
  subst hi
  simp [h1,h2]
 ·rfl
theorem lastBike_snoc (l:List Lg) (g:Lg):lastBike (l++[g])=g.bike:=by
 unfold lastBike
 simp
section
variable {n N:Nat} {s:PS} {y:SY}
theorem JI.at_ (h:JI n s y) (hI:PInv n s) {id:Int} {t:PT} (ht:(id,t)∈s.open_) {b:Nat} (hb:t.bike=b): ∃x,s.spots[b]?=some x∧x.where_=3∧x.ride=id∧x.paused=t.paused:=by
 obtain ⟨_,x,hx,h3,hr,hp⟩:=hI.bike _ ht
 simp only [hb,Int.toNat_natCast] at hx
 exact ⟨x,hx,h3,hr,hp⟩
theorem JI.setRide (h:JI n s y) {k:Nat} {r q:Rd} (hk:y.rides[k]?=some r) (h1:q.id=r.id) (h2:q.rider=r.rider) (h3:q.open_=r.open_) (h4:lastBike q.legs=lastBike r.legs):JI n s {y with rides:=y.rides.set k q}:=by
 have hg:=set_get' q hk
 refine ⟨by simp only [ids_set hk h1];exact h.ids,fun x hx=>?_,fun j x hx=>?_,fun id t ht=>?_,fun j x hx ho=>?_,h.free,h.spots⟩
 ·rcases List.mem_or_eq_of_mem_set hx with hx|rfl
  ·exact h.used x hx
  ·rw [h1];exact h.used r (List.mem_of_getElem? hk)
 ·simp only [hg] at hx
  split at hx
  ·rename_i e;cases hx;rw [h1,←e];exact h.byid k r hk
  ·exact h.byid j x hx
 ·obtain ⟨j,x,a1,a2,a3,a4,a5,a6,a7⟩:=h.open_ id t ht
  by_cases e:k=j
  ·subst e
   rw [hk] at a1;cases a1
   exact ⟨k,q,by simp only [hg,if_pos],by rw [h1,a2],by rw [h3,a3],by rw [h4,a4],by rw [h2,a5],a6,a7⟩
  ·exact ⟨j,x,by simp only [hg,if_neg e];exact a1,a2,a3,a4,a5,a6,a7⟩
 ·simp only [hg] at hx
  split at hx
  ·cases hx;rw [h1];exact h.rid k r hk (by rw [←h3];exact ho)
  ·exact h.rid j x hx ho
theorem JI.move (h:JI n s y) (hI:PInv n s) {b:Nat} {x:Sp} (hx:s.spots[b]?=some x) (hx3:x.where_≠3) (to:Sp) (hto:to.where_≠3) (ys:List Sp) (hys: ∀j,j≠b→ys[j]?=y.spots[j]?) (hyb:parkedS to=true→ys[b]?=some to):JI n (leaveP s b to) {y with spots:=ys}:=by
 have hopen:(leaveP s b to).open_=s.open_:=by
  unfold leaveP
  simp only
  rw [List.getD_eq_getElem?_getD,hx]
  simp [hx3]
 refine ⟨h.ids,h.used,h.byid,fun id t ht=>?_,fun k r hr ho=>?_,fun j z hz hz3=>?_,fun j z hz hp=>?_⟩
 ·rw [hopen] at ht;exact h.open_ id t ht
 ·rw [hopen];exact h.rid k r hr ho
 ·have hz':(s.spots.set b to)[j]?=some z:=hz
  rw [set_get' to hx] at hz'
  split at hz'
  ·rename_i e;subst e;exact h.free b x hx hx3
  ·exact h.free j z hz' hz3
 ·have hz':(s.spots.set b to)[j]?=some z:=hz
  rw [set_get' to hx] at hz'
  split at hz'
  ·rename_i e;cases hz';rw [←e];exact hyb hp
  ·rename_i e
   show ys[j]?=some z
   rw [hys j (fun h=>e h.symm)];exact h.spots j z hz' hp
theorem JI.close (h:JI n s y) (hI:PInv n s) (hW:WF n N y) {b:Nat} {x:Sp} (hx:s.spots[b]?=some x) (hx3:x.where_=3) (to:Sp) (hto:to.where_≠3) (w:Spn):JI n (leaveP s b to) (leaveY y b to w):=by
 obtain ⟨t,ht,htb⟩:=hI.spot b x hx hx3
 obtain ⟨k,r,a1,a2,a3,a4,a5,a6,a7⟩:=h.open_ _ _ ht
 rw [htb,Int.toNat_natCast] at a7
 have hvg:y.riding.getD b 0=(k:Int):=by rw [List.getD_eq_getElem?_getD,a7];rfl
 have hkl:=(List.getElem?_eq_some_iff.1 a1).1
 have hbl:=(List.getElem?_eq_some_iff.1 a7).1
 have hrg:y.rides.getD k default=r:=by rw [List.getD_eq_getElem?_getD,a1];rfl
 obtain ⟨p,hp⟩: ∃p,y.paused[k]?=some p:=⟨_,a6⟩
 have hpg:y.paused.getD k false=p:=by rw [List.getD_eq_getElem?_getD,hp];rfl
 obtain ⟨q,hq⟩: ∃q,q=finishR to w (resumeR p w r):=⟨_,rfl⟩
 have hleave:leaveY y b to w={rides:=y.rides.set k q,byID:=y.byID,riding:=y.riding.set b (-1),paused:=y.paused.set k false,spots:=y.spots.set b to}:=by
  unfold leaveY
  rw [hvg,if_neg (by omega)]
  simp only [Int.toNat_natCast]
  unfold resumeY
  simp only
  rw [hrg,hpg,List.set_set]
  congr 1
  rw [List.getD_eq_getElem?_getD,List.getElem?_set,if_pos rfl,if_pos hkl,hq]
  rfl
 have hqi:q.id=r.id:=by rw [hq];unfold finishR resumeR;split<;>rfl
 have hqo:q.open_=false:=by rw [hq];rfl
 have hopen: ∀z,z∈(leaveP s b to).open_↔z∈s.open_∧z.1≠x.ride:=by
  intro z
  unfold leaveP
  simp only
  rw [List.getD_eq_getElem?_getD,hx]
  simp only [Option.getD_some,hx3,if_true]
  exact mem_eraseKey hI.keys
 rw [hleave]
 have hg:=set_get' q a1
 refine ⟨by simp only [ids_set a1 hqi];exact h.ids,fun z hz=>?_,fun j z hz=>?_,fun id u hu=>?_,fun j z hz ho=>?_,fun j z hz hz3=>?_,fun j z hz hp=>?_⟩
 ·rcases List.mem_or_eq_of_mem_set hz with hz|rfl
  ·exact h.used z hz
  ·rw [hqi];exact h.used r (List.mem_of_getElem? a1)
 ·simp only [hg] at hz
  split at hz
  ·rename_i e;cases hz;rw [hqi,←e];exact h.byid k r a1
  ·exact h.byid j z hz
 ·obtain ⟨hu1,hu2⟩:=(hopen (id,u)).1 hu
  obtain ⟨j,z,c1,c2,c3,c4,c5,c6,c7⟩:=h.open_ id u hu1
  have hjk:k≠j:=fun e=>by
   subst e
   rw [a1] at c1;cases c1
   exact hu2 (by rw [←c2,a2])
  obtain ⟨hub0,z2,hz2,z23,z2r,_⟩:=hI.bike _ hu1
  have hjb:b≠u.bike.toNat:=fun e=>by
   simp only at hz2
   rw [←e,hx] at hz2;cases hz2
   exact hu2 z2r.symm
  exact ⟨j,z,by simp only [hg,if_neg hjk];exact c1,c2,c3,c4,c5,by simp only [List.getElem?_set_ne hjk];exact c6,by simp only [List.getElem?_set_ne hjb];exact c7⟩
 ·simp only [hg] at hz
  split at hz
  ·cases hz;rw [hqo] at ho;cases ho
  ·rename_i e
   obtain ⟨u,hu⟩:=h.rid j z hz ho
   refine ⟨u,(hopen _).2 ⟨hu,fun e2=>e ?_⟩⟩
   exact id_uniq h.ids a1 hz (by rw [a2];exact e2.symm)
 ·have hz':(s.spots.set b to)[j]?=some z:=hz
  rw [set_get' to hx] at hz'
  simp only [set_get' (-1) a7]
  split at hz'
  ·rename_i e;rw [if_pos e]
  ·rename_i e;rw [if_neg e];exact h.free j z hz' hz3
 ·have hz':(s.spots.set b to)[j]?=some z:=hz
  have hbs:b<y.spots.length:=by rw [hW.spots,←hW.riding];exact hbl
  rw [set_get' to hx] at hz'
  simp only [List.getElem?_set]
  split at hz'
  ·rename_i e;cases hz';rw [if_pos e,if_pos hbs]
  ·rename_i e;rw [if_neg e];exact h.spots j z hz' hp
theorem leaveY_free {b:Nat} (h:y.riding[b]?=some (-1)) (to:Sp) (w:Spn):leaveY y b to w={y with spots:=y.spots.set b to}:=by
 unfold leaveY
 rw [List.getD_eq_getElem?_getD,h,if_pos (by decide)]
theorem JI.leave (h:JI n s y) (hI:PInv n s) (hW:WF n N y) {b:Nat} (hb:b<n) (to:Sp) (hto:to.where_≠3) (w:Spn):JI n (leaveP s b to) (leaveY y b to w):=by
 obtain ⟨x,hx⟩: ∃x,s.spots[b]?=some x:=⟨_,List.getElem?_eq_getElem (by rw [hI.len];exact hb)⟩
 by_cases hx3:x.where_=3
 ·exact h.close hI hW hx hx3 to hto w
 ·rw [leaveY_free (h.free b x hx hx3)]
  exact h.move hI hx hx3 to hto _ (fun j hj=>List.getElem?_set_ne (fun e=>hj e.symm)) (fun _=>by
   rw [List.getElem?_set,if_pos rfl,if_pos (by rw [hW.spots];exact hb)])
theorem JI.start (h:JI n s y) (hI:PInv n s) (hW:WF n N y) {e:Ev} {tr:List Int} (hb:0≤e.bike∧e.bike<n) (h3:e.kind=3) (hc:checkP tr s e=0) (w:Spn):JI n (doP s e) (beginY y e w):=by
 obtain ⟨b,hbk⟩: ∃b:Nat,e.bike=b:=⟨e.bike.toNat,by omega⟩
 have hbn:b<n:=by omega
 obtain ⟨x,hx⟩: ∃x,s.spots[b]?=some x:=⟨_,List.getElem?_eq_getElem (by rw [hI.len];exact hbn)⟩
 have hg:s.spots.getD e.bike.toNat default=x:=by rw [hbk,Int.toNat_natCast,List.getD_eq_getElem?_getD,hx];rfl
 obtain ⟨hpk,hu⟩:parkedS x=true∧usedP s.used e.ride=false:=by
  unfold checkP at hc
  simp only at hc
  rw [if_neg (by omega),if_neg (by omega),if_pos h3,hg] at hc
  split at hc
  ·cases hc
  ·rename_i h1
   split at hc
   ·cases hc
   ·rename_i h2
    exact ⟨by simpa using h1,by simpa using h2⟩
 have hx3:=parked_no3 hpk
 have hf:=h.free b x hx hx3
 have hdo:doP s e={spots:=s.spots.set b ⟨3,0,e.ride,false⟩,open_:=s.open_++[(e.ride,⟨e.rider,e.bike,false⟩)],used:=usePut s.used e.ride}:=by
  unfold doP
  simp only
  rw [if_neg (by omega),if_neg (by omega),if_pos h3,hbk,Int.toNat_natCast]
 have hnew: ∀r∈y.rides,r.id≠e.ride:=fun r hr he=>by rw [←he,h.used r hr] at hu;cases hu
 have hbl:=(List.getElem?_eq_some_iff.1 hf).1
 rw [hdo]
 unfold beginY
 rw [hbk,Int.toNat_natCast]
 have hsnoc: ∀(j:Nat) z,(y.rides++[newR e (y.spots.getD b default) w])[j]?=some z→(y.rides[j]?=some z)∨(j=y.rides.length∧z=newR e (y.spots.getD b default) w):=fun j z hz=>by
  rw [List.getElem?_append] at hz
  split at hz
  ·exact .inl hz
  ·rename_i hjl
   have:j -y.rides.length=0:=by
    rcases Nat.eq_zero_or_pos (j -y.rides.length) with h0|h0
    ·exact h0
    ·rw [List.getElem?_eq_none (by simp;omega)] at hz;cases hz
   rw [this] at hz
   simp at hz
   exact .inr ⟨by omega,hz.symm⟩
 have hold: ∀(j:Nat) z,y.rides[j]?=some z→(y.rides++[newR e (y.spots.getD b default) w])[j]?=some z:=fun j z hz=>by
  rw [List.getElem?_append_left (List.getElem?_eq_some_iff.1 hz).1];exact hz
 refine ⟨?_,fun r hr=>?_,fun j r hr=>?_,fun id t ht=>?_,fun j r hr ho=>?_,fun j z hz hz3=>?_,fun j z hz hp=>?_⟩
 ·rw [List.map_append]
  refine List.nodup_append.2 ⟨h.ids,by simp,fun i hi j hj=>?_⟩
  obtain ⟨r,hr,rfl⟩:=List.mem_map.1 hi
  simp [newR] at hj
  subst hj
  exact hnew r hr
 ·rw [usedP_mem]
  simp only [usePut_mem]
  rcases List.mem_append.1 hr with hr|hr
  ·exact .inl (usedP_mem.1 (h.used r hr))
  ·simp at hr;subst hr;exact .inr rfl
 ·simp only
  rw [rput_get]
  rcases hsnoc j r hr with hr|⟨h1,rfl⟩
  ·rw [if_neg (hnew r (List.mem_of_getElem? hr))];exact h.byid j r hr
  ·rw [if_pos (show (newR e (y.spots.getD b default) w).id=e.ride from rfl),h1]
 ·simp only [List.mem_append,List.mem_singleton] at ht
  rcases ht with ht|ht
  ·obtain ⟨k,r,c1,c2,c3,c4,c5,c6,c7⟩:=h.open_ id t ht
   obtain ⟨_,z,hz,z3,_,_⟩:=hI.bike _ ht
   have hne:b≠t.bike.toNat:=fun e=>by simp only at hz;rw [←e,hx] at hz;cases hz;exact hx3 z3
   refine ⟨k,r,hold k r c1,c2,c3,c4,c5,?_,by simp only [List.getElem?_set_ne hne];exact c7⟩
   simp only
   rw [List.getElem?_append_left (List.getElem?_eq_some_iff.1 c6).1];exact c6
  ·simp only [Prod.mk.injEq] at ht
   obtain ⟨rfl,rfl⟩:=ht
   refine ⟨y.rides.length,newR e (y.spots.getD b default) w,by simp,rfl,rfl,hbk,rfl,by simp [←hW.paused],?_⟩
   simp only [hbk,Int.toNat_natCast]
   rw [List.getElem?_set,if_pos rfl,if_pos hbl]
 ·simp only [List.mem_append,List.mem_singleton]
  rcases hsnoc j r hr with hr|⟨_,rfl⟩
  ·obtain ⟨t,ht⟩:=h.rid j r hr ho;exact ⟨t, .inl ht⟩
  ·exact ⟨_, .inr rfl⟩
 ·simp only [set_get' _ hx] at hz
  simp only [set_get' _ hf]
  split at hz
  ·cases hz;exact absurd rfl hz3
  ·rename_i e2;rw [if_neg e2];exact h.free j z hz hz3
 ·simp only [set_get' _ hx] at hz
  split at hz
  ·cases hz;simp [parkedS] at hp
  ·exact h.spots j z hz hp
theorem JI.swap (h:JI n s y) (hI:PInv n s) (hW:WF n N y) {e:Ev} {tr:List Int} (hb:0≤e.bike∧e.bike<n) (h4:e.kind=4) (hc:checkP tr s e=0) (w:Spn):JI n (doP s e) (changeY y e w):=by
 obtain ⟨b,hbk⟩: ∃b:Nat,e.bike=b:=⟨e.bike.toNat,by omega⟩
 have hbn:b<n:=by omega
 obtain ⟨x,hx⟩: ∃x,s.spots[b]?=some x:=⟨_,List.getElem?_eq_getElem (by rw [hI.len];exact hbn)⟩
 have hg:s.spots.getD b default=x:=by rw [List.getD_eq_getElem?_getD,hx];rfl
 obtain ⟨t,ht,hpk⟩: ∃t,lookP s.open_ e.ride=some t∧parkedS x=true:=by
  unfold checkP at hc
  simp only at hc
  rw [if_neg (by omega),if_neg (by omega),if_neg (by omega),if_pos h4,hbk,Int.toNat_natCast,hg] at hc
  cases hl:lookP s.open_ e.ride with
  |none=>rw [hl] at hc;cases hc
  |some t=>
   rw [hl] at hc
   simp only at hc
   split at hc
   ·cases hc
   ·rename_i h1;exact ⟨t,rfl,by simpa using h1⟩
 have htm:=lookP_some ht
 obtain ⟨k,r,c1,c2,c3,c4,c5,c6,c7⟩:=h.open_ _ _ htm
 obtain ⟨hj0,z,hz,z3,zr,zp⟩:=hI.bike _ htm
 simp only at hj0 hz zr
 obtain ⟨j,hj⟩: ∃j:Nat,t.bike=j:=⟨t.bike.toNat,by omega⟩
 rw [hj,Int.toNat_natCast] at hz c7
 have hx3:=parked_no3 hpk
 have hjb:j≠b:=fun e=>by rw [e,hx] at hz;cases hz;exact hx3 z3
 have hf:=h.free b x hx hx3
 have hkl:=(List.getElem?_eq_some_iff.1 c1).1
 have hrg:y.rides.getD k default=r:=by rw [List.getD_eq_getElem?_getD,c1];rfl
 have hyb:=h.spots b x hx hpk
 have hybg:y.spots.getD b default=x:=by rw [List.getD_eq_getElem?_getD,hyb];rfl
 have hdo:doP s e={s with spots:=(s.spots.set j x).set b ⟨3,0,e.ride,false⟩,open_:=setTrip s.open_ e.ride {t with bike:=e.bike}}:=by
  unfold doP
  simp only
  rw [if_neg (by omega),if_neg (by omega),if_neg (by omega),if_pos h4,ht,hbk,Int.toNat_natCast,hg]
  simp only [hj,Int.toNat_natCast]
 have hby:=h.byid k r c1
 rw [c2] at hby
 have hch:changeY y e w={rides:=y.rides.set k (swapR b w r),byID:=y.byID,riding:=(y.riding.set j (-1)).set b k,paused:=y.paused,spots:=y.spots.set j x}:=by
  unfold changeY
  rw [hby]
  simp only [Int.toNat_natCast]
  rw [hrg,c4,hj,Int.toNat_natCast,hbk,Int.toNat_natCast,hybg]
 rw [hdo,hch]
 have hgr:=set_get' (swapR b w r) c1
 have hsp: ∀i:Nat,((s.spots.set j x).set b ⟨3,0,e.ride,false⟩)[i]?=if b=i then some ⟨3,0,e.ride,false⟩ else if j=i then some x else s.spots[i]?:=fun i=>by
  have hx2:(s.spots.set j x)[b]?=some x:=by rw [List.getElem?_set_ne hjb];exact hx
  rw [set_get' _ hx2,set_get' _ hz]
 have hrd: ∀i:Nat,((y.riding.set j (-1)).set b (k:Int))[i]?=if b=i then some (k:Int) else if j=i then some (-1) else y.riding[i]?:=fun i=>by
  have hf2:(y.riding.set j (-1))[b]?=some (-1):=by rw [List.getElem?_set_ne hjb];exact hf
  rw [set_get' _ hf2,set_get' _ c7]
 have hjs:j<y.spots.length:=by rw [hW.spots,←hI.len];exact (List.getElem?_eq_some_iff.1 hz).1
 refine ⟨by simp only [ids_set c1 (show (swapR b w r).id=r.id from rfl)];exact h.ids,fun q hq=>?_,fun i q hq=>?_,fun id u hu=>?_,fun i q hq ho=>?_,fun i q hq hq3=>?_,fun i q hq hp=>?_⟩
 ·rcases List.mem_or_eq_of_mem_set hq with hq|rfl
  ·exact h.used q hq
  ·exact h.used r (List.mem_of_getElem? c1)
 ·simp only [hgr] at hq
  split at hq
  ·rename_i e2;cases hq;rw [←e2];exact h.byid k r c1
  ·exact h.byid i q hq
 ·simp only [mem_setTrip] at hu
  rcases hu with ⟨_,_,_,hu⟩|⟨hu,hne⟩
  ·simp only [Prod.mk.injEq] at hu
   obtain ⟨rfl,rfl⟩:=hu
   refine ⟨k,swapR b w r,by simp only [hgr,if_pos],c2,c3,?_,c5,c6,?_⟩
   ·show lastBike (endLeg w r.legs++[⟨(b:Int),w,zSpn⟩])=e.bike
    rw [lastBike_snoc,hbk]
   ·simp only [hrd,hbk,Int.toNat_natCast,if_pos]
  ·obtain ⟨k2,q,d1,d2,d3,d4,d5,d6,d7⟩:=h.open_ id u hu
   have hkk:k≠k2:=fun e2=>by subst e2;rw [c1] at d1;cases d1;exact hne (by rw [←d2,c2])
   obtain ⟨_,z2,hz2,z23,z2r,_⟩:=hI.bike _ hu
   simp only at hz2 z2r
   have e1:b≠u.bike.toNat:=fun e2=>by rw [←e2,hx] at hz2;cases hz2;exact hx3 z23
   have e3:j≠u.bike.toNat:=fun e2=>by rw [←e2,hz] at hz2;cases hz2;exact hne (by rw [←z2r,zr])
   exact ⟨k2,q,by simp only [hgr,if_neg hkk];exact d1,d2,d3,d4,d5,d6,by simp only [hrd,if_neg e1,if_neg e3];exact d7⟩
 ·simp only [hgr] at hq
  split at hq
  ·cases hq;exact ⟨_,by simp only [mem_setTrip];exact .inl ⟨_,htm,rfl,by show ((swapR b w r).id,_)=_;rw [show (swapR b w r).id=e.ride from c2]⟩⟩
  ·rename_i e2
   obtain ⟨u,hu⟩:=h.rid i q hq ho
   refine ⟨u,by simp only [mem_setTrip];exact .inr ⟨hu,fun e3=>e2 (id_uniq h.ids c1 hq (by rw [c2];exact e3.symm))⟩⟩
 ·simp only [hsp] at hq
  simp only [hrd]
  split at hq
  ·cases hq;exact absurd rfl hq3
  ·rename_i e1
   rw [if_neg e1]
   split at hq
   ·rename_i e2;rw [if_pos e2]
   ·rename_i e2;rw [if_neg e2];exact h.free i q hq hq3
 ·simp only [hsp] at hq
  simp only [List.getElem?_set]
  split at hq
  ·cases hq;simp [parkedS] at hp
  ·rename_i e1
   split at hq
   ·rename_i e2;cases hq;rw [if_pos e2,if_pos (by omega)]
   ·rename_i e2;rw [if_neg e2];exact h.spots i q hq hp
theorem JI.pause (h:JI n s y) (hI:PInv n s) (hW:WF n N y) {e:Ev} {tr:List Int} (hb:0≤e.bike∧e.bike<n) (h56:e.kind=5∨e.kind=6) (hc:checkP tr s e=0):JI n (doP s e) (tellY y e):=by
 obtain ⟨b,hbk⟩: ∃b:Nat,e.bike=b:=⟨e.bike.toNat,by omega⟩
 have hbn:b<n:=by omega
 obtain ⟨x,hx⟩: ∃x,s.spots[b]?=some x:=⟨_,List.getElem?_eq_getElem (by rw [hI.len];exact hbn)⟩
 have hg:s.spots.getD b default=x:=by rw [List.getD_eq_getElem?_getD,hx];rfl
 have hx3:x.where_=3:=by
  unfold checkP at hc
  simp only at hc
  rw [if_neg (by omega),if_neg (by omega),if_neg (by omega),if_neg (by omega),if_pos h56,hbk,Int.toNat_natCast,hg] at hc
  split at hc
  ·cases hc
  ·rename_i h1;exact Decidable.of_not_not h1
 obtain ⟨t,ht,htb⟩:=hI.spot b x hx hx3
 have hlk:=lookP_of hI.keys ht
 obtain ⟨k,r,c1,c2,c3,c4,c5,c6,c7⟩:=h.open_ _ _ ht
 rw [htb,Int.toNat_natCast] at c7
 have hvg:y.riding.getD e.bike.toNat 0=(k:Int):=by rw [hbk,Int.toNat_natCast,List.getD_eq_getElem?_getD,c7];rfl
 have hrg:y.rides.getD k default=r:=by rw [List.getD_eq_getElem?_getD,c1];rfl
 have hdo:doP s e={s with spots:=s.spots.set b {x with paused:=decide (e.kind=5)},open_:=setTrip s.open_ x.ride {t with paused:=decide (e.kind=5)}}:=by
  unfold doP
  simp only
  rw [if_neg (by omega),if_neg (by omega),if_neg (by omega),if_neg (by omega),if_pos h56,hbk,Int.toNat_natCast,hg,hlk]
 have hpl:k<y.paused.length:=(List.getElem?_eq_some_iff.1 c6).1
 obtain ⟨q,hq1,hq2,hq3,hq4,hty⟩: ∃q:Rd,q.id=r.id∧q.rider=r.rider∧q.open_=r.open_∧lastBike q.legs=lastBike r.legs∧tellY y e={y with rides:=y.rides.set k q,paused:=y.paused.set k (decide (e.kind=5))}:=by
  unfold tellY
  simp only
  rw [hvg]
  rcases h56 with h5|h6
  ·refine ⟨pauseR (spanE e) r,rfl,rfl,rfl,rfl,?_⟩
   rw [if_neg (by omega),if_neg (by omega),if_pos h5,if_pos (by omega)]
   simp only [Int.toNat_natCast]
   rw [hrg]
   simp [h5]
  ·refine ⟨resumeR (y.paused.getD k false) (spanE e) r,?_,?_,?_,?_,?_⟩
   ·unfold resumeR;split<;>rfl
   ·unfold resumeR;split<;>rfl
   ·unfold resumeR;split<;>rfl
   ·unfold resumeR;split<;>rfl
   ·rw [if_neg (by omega),if_neg (by omega),if_neg (by omega),if_pos h6,if_pos (by omega)]
    unfold resumeY
    simp only [Int.toNat_natCast]
    rw [hrg]
    simp [h6]
 rw [hdo,hty]
 have h2:=h.setRide c1 hq1 hq2 hq3 hq4
 refine ⟨h2.ids,h2.used,h2.byid,fun id u hu=>?_,fun i z hz ho=>?_,fun i z hz hz3=>?_,fun i z hz hp=>?_⟩
 ·simp only [mem_setTrip] at hu
  rcases hu with ⟨_,_,_,hu⟩|⟨hu,hne⟩
  ·simp only [Prod.mk.injEq] at hu
   obtain ⟨rfl,rfl⟩:=hu
   refine ⟨k,q,by simp only;rw [set_get' _ c1,if_pos rfl],by rw [hq1,c2],by rw [hq3,c3],by rw [hq4,c4],by rw [hq2,c5],?_,by simp only [htb,Int.toNat_natCast];exact c7⟩
   simp only
   rw [List.getElem?_set,if_pos rfl,if_pos hpl]
  ·obtain ⟨k2,z,d1,d2,d3,d4,d5,d6,d7⟩:=h2.open_ id u hu
   have hkk:k≠k2:=fun e2=>by
    subst e2
    simp only [set_get' _ c1,if_pos] at d1
    cases d1
    exact hne (by rw [←d2,hq1,c2])
   exact ⟨k2,z,d1,d2,d3,d4,d5,by simp only [List.getElem?_set_ne hkk];exact d6,d7⟩
 ·obtain ⟨u,hu⟩:=h2.rid i z hz ho
  by_cases e2:z.id=x.ride
  ·exact ⟨_,by simp only [mem_setTrip];exact .inl ⟨_,ht,rfl,by rw [e2]⟩⟩
  ·exact ⟨u,by simp only [mem_setTrip];exact .inr ⟨hu,e2⟩⟩
 ·simp only [set_get' _ hx] at hz
  split at hz
  ·cases hz;exact absurd hx3 hz3
  ·exact h.free i z hz hz3
 ·simp only [set_get' _ hx] at hz
  split at hz
  ·cases hz;simp [parkedS,hx3] at hp
  ·exact h.spots i z hz hp
theorem JI.step (h:JI n s y) (hI:PInv n s) (hW:WF n N y) {e:Ev} {tr:List Int} (hb:0≤e.bike∧e.bike<n) (hc:checkP tr s e=0):JI n (doP s e) (tellY y e):=by
 obtain ⟨b,hbk⟩: ∃b:Nat,e.bike=b:=⟨e.bike.toNat,by omega⟩
 have hbn:b<n:=by omega
 obtain ⟨x,hx⟩: ∃x,s.spots[b]?=some x:=⟨_,List.getElem?_eq_getElem (by rw [hI.len];exact hbn)⟩
 have hg:s.spots.getD b default=x:=by rw [List.getD_eq_getElem?_getD,hx];rfl
 by_cases h3:e.kind=3
 ·have ht:tellY y e=beginY y e (spanE e):=by unfold tellY;simp only;rw [if_pos h3]
  rw [ht];exact h.start hI hW hb h3 hc _
 by_cases h4:e.kind=4
 ·have ht:tellY y e=changeY y e (spanE e):=by unfold tellY;simp only;rw [if_neg h3,if_pos h4]
  rw [ht];exact h.swap hI hW hb h4 hc _
 by_cases h56:e.kind=5∨e.kind=6
 ·exact h.pause hI hW hb h56 hc
 have h5: ¬e.kind=5:=fun h=>h56 (.inl h)
 have h6: ¬e.kind=6:=fun h=>h56 (.inr h)
 by_cases h1:e.kind=1
 ·have ht:tellY y e=leaveY y b ⟨1,e.place,0,false⟩ (spanE e):=by unfold tellY;simp only;rw [if_neg h3,if_neg h4,if_neg h5,if_neg h6,if_pos h1,hbk,Int.toNat_natCast]
  have hd:doP s e=leaveP s b ⟨1,e.place,0,false⟩:=by unfold doP;simp only;rw [if_pos h1,hbk,Int.toNat_natCast]
  rw [ht,hd];exact h.leave hI hW hbn _ (by simp) _
 by_cases h2:e.kind=2
 ·have ht:tellY y e=leaveY y b ⟨2,e.place,0,false⟩ (spanE e):=by unfold tellY;simp only;rw [if_neg h3,if_neg h4,if_neg h5,if_neg h6,if_neg h1,if_pos h2,hbk,Int.toNat_natCast]
  have hd:doP s e=leaveP s b ⟨2,e.place,0,false⟩:=by unfold doP;simp only;rw [if_neg h1,if_pos h2,hbk,Int.toNat_natCast]
  rw [ht,hd];exact h.leave hI hW hbn _ (by simp) _
 by_cases h9:e.kind=9
 ·have ht:tellY y e=leaveY y b ⟨6,0,0,false⟩ (spanE e):=by unfold tellY;simp only;rw [if_neg h3,if_neg h4,if_neg h5,if_neg h6,if_neg h1,if_neg h2,if_pos h9,hbk,Int.toNat_natCast]
  have hd:doP s e=leaveP s b ⟨6,0,0,false⟩:=by unfold doP;simp only;rw [if_neg h1,if_neg h2,if_neg h3,if_neg h4,if_neg h56,if_neg (by omega),if_neg (by omega),if_pos h9,hbk,Int.toNat_natCast]
  rw [ht,hd];exact h.leave hI hW hbn _ (by simp) _
 have ht:tellY y e=y:=by unfold tellY;simp only;rw [if_neg h3,if_neg h4,if_neg h5,if_neg h6,if_neg h1,if_neg h2,if_neg h9]
 rw [ht]
 by_cases h7:e.kind=7
 ·have hd:doP s e=leaveP s b ⟨4,e.place,0,false⟩:=by unfold doP;simp only;rw [if_neg h1,if_neg h2,if_neg h3,if_neg h4,if_neg h56,if_pos h7,hbk,Int.toNat_natCast]
  have hx3:x.where_≠3:=fun h3'=>by
   unfold checkP at hc
   simp only at hc
   rw [if_neg h1,if_neg h2,if_neg h3,if_neg h4,if_neg h56,if_pos h7,hbk,Int.toNat_natCast,hg,h3'] at hc
   simp at hc
  rw [hd]
  exact h.move hI hx hx3 _ (by simp) y.spots (fun _ _=>rfl) (fun hp=>by simp [parkedS] at hp)
 by_cases h8:e.kind=8
 ·have hd:doP s e=leaveP s b ⟨5,0,0,false⟩:=by unfold doP;simp only;rw [if_neg h1,if_neg h2,if_neg h3,if_neg h4,if_neg h56,if_neg h7,if_pos h8,hbk,Int.toNat_natCast]
  have hx3:x.where_≠3:=fun h3'=>by
   unfold checkP at hc
   simp only at hc
   rw [if_neg h1,if_neg h2,if_neg h3,if_neg h4,if_neg h56,if_neg h7,if_pos h8,hbk,Int.toNat_natCast,hg,h3'] at hc
   simp [refuse] at hc
  rw [hd]
  exact h.move hI hx hx3 _ (by simp) y.spots (fun _ _=>rfl) (fun hp=>by simp [parkedS] at hp)
 have hd:doP s e=s:=by unfold doP;simp only;rw [if_neg h1,if_neg h2,if_neg h3,if_neg h4,if_neg h56,if_neg h7,if_neg h8,if_neg h9]
 rw [hd];exact h
end
end Go.Proofs.Rid
namespace Go.Proofs.Rid
open Go.Proofs.Cus
def storyOf (f:Fl) (xs:List Ev):SY:=(accOf f xs).foldl tellY (beginSY (nbOf f))
def allOf (f:Fl) (xs:List Ev):List Rd:=if flErr f=0 then byId (storyOf f xs).rides else []
structure Joint (n N:Nat) (s:PS) (y:SY):Prop where
 ji:JI n s y
 inv:PInv n s
 wf:WF n N y
theorem joint_run {f:Fl} {n:Nat} (hn:f.bikes=n): ∀(l:List Ev) {N:Nat} {s:PS} {y:SY},Joint n N s y→Replay f s l→Joint n (N+l.length) (l.foldl doP s) (l.foldl tellY y)
 |[],_,_,_,h,_=>h
 |e::l,N,s,y,h,⟨h1,h2,h3,h4⟩=>by
  have hb:=(evErr_ok h1).2.1
  rw [hn] at hb
  have:=joint_run hn l (N:=N+1) ⟨h.ji.step h.inv h.wf hb h3,h.inv.step hb h3,h.wf.tell hb⟩ h4
  rw [List.foldl_cons,List.foldl_cons,List.length_cons,show N+(l.length+1)=N+1+l.length by omega]
  exact this
theorem joint_begin (n:Nat):Joint n 0 (beginP n) (beginSY n):=⟨JI.begin n,PInv.begin n,WF.begin n⟩
theorem joint_of {f:Fl} (hok:flErr f=0) (xs:List Ev):Joint (nbOf f) (accOf f xs).length ((accOf f xs).foldl doP (beginP (nbOf f))) (storyOf f xs):=by
 obtain ⟨hr,_⟩:=replay_of hok xs (fun _=>())
 have:=joint_run (nb_eq hok) (accOf f xs) (joint_begin (nbOf f)) hr
 rw [Nat.zero_add] at this
 exact this
theorem Replay.take {f:Fl}: ∀{l:List Ev} {s:PS},Replay f s l→ ∀k,Replay f s (l.take k)
 |[],_,_,k=>by simp;trivial
 |e::l,s,_,0=>trivial
 |e::l,s,⟨h1,h2,h3,h4⟩,k+1=>⟨h1,h2,h3,Replay.take h4 k⟩
theorem joint_at {f:Fl} (hok:flErr f=0) (xs:List Ev) (k:Nat):Joint (nbOf f) ((accOf f xs).take k).length (Cus.stK (beginP (nbOf f)) (accOf f xs) k) (((accOf f xs).take k).foldl tellY (beginSY (nbOf f))):=by
 obtain ⟨hr,_⟩:=replay_of hok xs (fun _=>())
 have:=joint_run (nb_eq hok) ((accOf f xs).take k) (joint_begin (nbOf f)) (Replay.take hr k)
 rw [Nat.zero_add] at this
 exact this
def parkN (l:List Sp):Nat:=l.countP parkedS
theorem leaveY_len (y:SY) (b:Nat) (to:Sp) (w:Spn):(leaveY y b to w).rides.length=y.rides.length:=by
 unfold leaveY
 split
 ·rfl
 ·simp [resumeY]
theorem tellY_len (y:SY) (e:Ev):(tellY y e).rides.length=y.rides.length+(if e.kind=3 then 1 else 0):=by
 unfold tellY
 simp only
 by_cases h3:e.kind=3
 ·rw [if_pos h3,if_pos h3];simp [beginY]
 ·rw [if_neg h3,if_neg h3,Nat.add_zero]
  split
  ·unfold changeY;split<;>simp
  split
  ·split<;>simp
  split
  ·split<;>simp [resumeY]
  split
  ·exact leaveY_len _ _ _ _
  split
  ·exact leaveY_len _ _ _ _
  split
  ·exact leaveY_len _ _ _ _
  ·rfl
theorem park_set {l:List Sp} {k:Nat} {x:Sp} (z:Sp) (h:l[k]?=some x):parkN (l.set k z)+(if parkedS x=true then 1 else 0)=parkN l+(if parkedS z=true then 1 else 0):=countP_set parkedS z h
theorem park_step {n:Nat} {s:PS} {e:Ev} {tr:List Int} (hI:PInv n s) (hb:0≤e.bike∧e.bike<n) (hc:checkP tr s e=0):parkN (doP s e).spots+2*(if e.kind=3 then 1 else 0)≤parkN s.spots+1:=by
 obtain ⟨b,hbk⟩: ∃b:Nat,e.bike=b:=⟨e.bike.toNat,by omega⟩
 obtain ⟨x,hx⟩: ∃x,s.spots[b]?=some x:=⟨_,List.getElem?_eq_getElem (by rw [hI.len];omega)⟩
 have hg:s.spots.getD b default=x:=by rw [List.getD_eq_getElem?_getD,hx];rfl
 have hlv: ∀to:Sp,parkN (leaveP s b to).spots≤parkN s.spots+1:=fun to=>by
  have:=park_set to hx
  show parkN (s.spots.set b to)≤_
  split at this<;>split at this<;>omega
 unfold checkP at hc
 unfold doP
 simp only [hbk,Int.toNat_natCast,hg] at hc⊢
 by_cases h1:e.kind=1
 ·rw [if_pos h1,if_neg (by omega)];have:=hlv ⟨1,e.place,0,false⟩;omega
 rw [if_neg h1] at hc⊢
 by_cases h2:e.kind=2
 ·rw [if_pos h2,if_neg (by omega)];have:=hlv ⟨2,e.place,0,false⟩;omega
 rw [if_neg h2] at hc⊢
 by_cases h3:e.kind=3
 ·rw [if_pos h3] at hc
  have hpk:parkedS x=true:=by
   split at hc
   ·cases hc
   ·rename_i h;simpa using h
  rw [if_pos h3,if_pos h3]
  have:=park_set ⟨3,0,e.ride,false⟩ hx
  rw [if_pos hpk,if_neg (by simp [parkedS])] at this
  simp only
  omega
 rw [if_neg h3] at hc⊢
 rw [if_neg h3]
 by_cases h4:e.kind=4
 ·rw [if_pos h4] at hc⊢
  cases hl:lookP s.open_ e.ride with
  |none=>rw [hl] at hc;cases hc
  |some t=>
   rw [hl] at hc
   simp only at hc⊢
   have hpk:parkedS x=true:=by
    split at hc
    ·cases hc
    ·rename_i h;simpa using h
   obtain ⟨_,z,hz,z3,_,_⟩:=hI.bike _ (lookP_some hl)
   simp only at hz
   have hzp:parkedS z=false:=by unfold parkedS;simp [z3]
   have hne:t.bike.toNat≠b:=fun e2=>by rw [e2,hx] at hz;cases hz;rw [hzp] at hpk;cases hpk
   have a1:=park_set x hz
   have hx2:(s.spots.set t.bike.toNat x)[b]?=some x:=by rw [List.getElem?_set_ne hne];exact hx
   have a2:=park_set ⟨3,0,e.ride,false⟩ hx2
   rw [if_neg (by rw [hzp];decide),if_pos hpk] at a1
   rw [if_pos hpk,if_neg (by simp [parkedS])] at a2
   omega
 rw [if_neg h4] at hc⊢
 by_cases h56:e.kind=5∨e.kind=6
 ·rw [if_pos h56]
  simp only
  have:=park_set {x with paused:=decide (e.kind=5)} hx
  have hsame:parkedS {x with paused:=decide (e.kind=5)}=parkedS x:=rfl
  rw [hsame] at this
  omega
 rw [if_neg h56]
 by_cases h7:e.kind=7
 ·rw [if_pos h7];have:=hlv ⟨4,e.place,0,false⟩;omega
 rw [if_neg h7]
 by_cases h8:e.kind=8
 ·rw [if_pos h8];have:=hlv ⟨5,0,0,false⟩;omega
 rw [if_neg h8]
 by_cases h9:e.kind=9
 ·rw [if_pos h9];have:=hlv ⟨6,0,0,false⟩;omega
 rw [if_neg h9];omega
theorem rides_run {f:Fl} {n:Nat} (hn:f.bikes=n): ∀(l:List Ev) {s:PS} {y:SY} {m:Nat},PInv n s→Replay f s l→2*y.rides.length+parkN s.spots≤m→2*(l.foldl tellY y).rides.length+parkN (l.foldl doP s).spots≤m+l.length
 |[],_,_,_,_,_,h=>h
 |e::l,s,y,m,hI,⟨h1,h2,h3,h4⟩,h=>by
  have hb:=(evErr_ok h1).2.1
  rw [hn] at hb
  have a1:=park_step hI hb h3
  have a2:=tellY_len y e
  have:=rides_run hn l (y:=tellY y e) (m:=m+1) (hI.step hb h3) h4 (by rw [a2];omega)
  rw [List.foldl_cons,List.foldl_cons,List.length_cons]
  omega
theorem story_len {f:Fl} (hok:flErr f=0) (xs:List Ev):2*(storyOf f xs).rides.length≤(accOf f xs).length:=by
 obtain ⟨hr,_⟩:=replay_of hok xs (fun _=>())
 have:=rides_run (nb_eq hok) (accOf f xs) (y:=beginSY (nbOf f)) (m:=0) (PInv.begin _) hr (by
  have:parkN (beginP (nbOf f)).spots=0:=by
   unfold parkN beginP
   rw [List.countP_eq_zero]
   intro x hx
   simp at hx
   rw [hx.2];decide
  rw [this];simp [beginSY])
 unfold storyOf
 omega
theorem all_len {f:Fl} (xs:List Ev):2*(allOf f xs).length≤xs.length:=by
 unfold allOf
 split
 ·rename_i hok
  have h1:=story_len hok xs
  have h2:=accOf_len f xs
  rw [(byId_perm _).length_eq]
  omega
 ·simp
end Go.Proofs.Rid
