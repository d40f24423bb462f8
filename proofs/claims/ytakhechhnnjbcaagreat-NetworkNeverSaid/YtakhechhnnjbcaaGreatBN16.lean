import Derived.Test.YtakhechhnnjbcaaGreatBN13
import Derived.Test.YtakhechhnnjbcaaGreatBN15
import Derived.Test.YtakhechhnnjbcaaGreatBN12
import Derived.Test.YtakhechhnnjbcaaGreatBN05
import Derived.Test.YtakhechhnnjbcaaGreatBN03
import Derived.Test.YtakhechhnnjbcaaGreatBN04
import Derived.Test.YtakhechhnnjbcaaGreatTy
set_option maxRecDepth 100000
set_option maxHeartbeats 8000000
set_option linter.unusedVariables false
set_option linter.unusedSimpArgs false
namespace Go.Proofs.Rid
open Go Go.RowKit Go.Proofs.E Go.Proofs.Cus
theorem fl187 {fs:Array Field} (h:Tryz.prog.underlying 187=some (.struct fs):=by exact Tryz.underlying187):FieldsLie Tryz.prog fs [(0,1),(1,1)]:=by
 rw [Tryz.underlying187] at h
 cases h
 intro w
 kernel_rfl
theorem fl276 {fs:Array Field} (h:Tryz.prog.underlying 276=some (.struct fs):=by exact Tryz.underlying276):FieldsLie Tryz.prog fs [(0,1),(1,2),(3,2)]:=by
 rw [Tryz.underlying276] at h
 cases h
 intro w
 kernel_rfl
theorem fl248 {fs:Array Field} (h:Tryz.prog.underlying 248=some (.struct fs):=by exact Tryz.underlying248):FieldsLie Tryz.prog fs [(0,2),(2,2)]:=by
 rw [Tryz.underlying248] at h
 cases h
 intro w
 kernel_rfl
theorem fl191 {fs:Array Field} (h:Tryz.prog.underlying 191=some (.struct fs):=by exact Tryz.underlying191):FieldsLie Tryz.prog fs [(0,1),(1,1),(2,2),(4,2),(6,1),(7,1),(8,1),(9,1),(10,1),(11,1),(12,1)]:=by
 rw [Tryz.underlying191] at h
 cases h
 intro w
 kernel_rfl
theorem fl183 {fs:Array Field} (h:Tryz.prog.underlying 183=some (.struct fs):=by exact Tryz.underlying183):FieldsLie Tryz.prog fs [(0,1),(1,1),(2,1),(3,1),(4,1)]:=by
 rw [Tryz.underlying183] at h
 cases h
 intro w
 kernel_rfl
theorem fl252 {fs:Array Field} (h:Tryz.prog.underlying 252=some (.struct fs):=by exact Tryz.underlying252):FieldsLie Tryz.prog fs [(0,1),(1,1),(2,1),(3,1)]:=by
 rw [Tryz.underlying252] at h
 cases h
 intro w
 kernel_rfl
def Spn.cells (s:Spn):List Value:=[.int .i64 s.lo, .int .i64 s.hi]
def Lg.cells (g:Lg):List Value:=[.int .i64 g.bike, .int .i64 g.from_.lo, .int .i64 g.from_.hi, .int .i64 g.to_.lo, .int .i64 g.to_.hi]
def Pz.cells (p:Pz):List Value:=[.int .i64 p.from_.lo, .int .i64 p.from_.hi, .int .i64 p.to_.lo, .int .i64 p.to_.hi]
structure RPl where
 lA:Option Addr
 lc:Nat
 pA:Option Addr
 pc:Nat
deriving Inhabited
structure RX where
 r:Rd
 a:RPl
deriving Inhabited
def Rd.cellsAt (r:Rd) (a:RPl) (ln pn:Nat):List Value:=
 [.int .i64 r.id, .int .i64 r.rider, .int .i64 r.start.lo, .int .i64 r.start.hi, .int .i64 r.end_.lo, .int .i64 r.end_.hi, .bool r.open_, .slice a.lA ln a.lc, .slice a.pA pn a.pc, .int .i64 r.fw, .int .i64 r.fp, .int .i64 r.wh, .int .i64 r.pl]
def RX.cells (x:RX):List Value:=x.r.cellsAt x.a x.r.legs.length x.r.pauses.length
abbrev lgRow (A:Option Addr) (c:Nat) (l:List Lg):E.Item:=rowT 276 5 Lg.cells A c l
abbrev pzRow (A:Option Addr) (c:Nat) (l:List Pz):E.Item:=rowT 248 4 Pz.cells A c l
abbrev rdRow (A:Option Addr) (c:Nat) (l:List RX):E.Item:=rowT 191 13 RX.cells A c l
def rdParts (x:RX):List E.Item:=[lgRow x.a.lA x.a.lc x.r.legs,pzRow x.a.pA x.a.pc x.r.pauses]
def rdBag (xs:List RX):E.Item:=bag (xs.flatMap rdParts)
def encB (b:Bool):List Value:=[.bool b]
abbrev blRow (A:Option Addr) (c:Nat) (l:List Bool):E.Item:=rowT 4 1 encB A c l
abbrev inRow (A:Option Addr) (c:Nat) (xs:List Int):E.Item:=rowT 3 1 encInt A c xs
def rmV (m:RM):List (Int×Value):=m.map fun p=>(p.1, .int .i64 p.2)
theorem rmV_put: ∀(m:RM) (r b:Int),mput (rmV m) r (.int .i64 b)=rmV (rput m r b)
 |[],r,b=>rfl
 |p::m,r,b=>by
  have ih:=rmV_put m r b
  unfold rmV at ih⊢
  simp only [List.map_cons,mput,rput]
  split
  ·simp
  ·rw [ih];rfl
theorem rmV_look (m:RM) (r:Int):mlook (rmV m) r=(rget m r).map (.int .i64 ·):=by
 unfold mlook rmV rget
 rw [List.find?_map]
 cases h:m.find? ((fun p:Int×Value=>p.1==r)∘fun p:Int×Int=>(p.1,Value.int .i64 p.2)) with
 |none=>
  have:m.find? (fun p=>p.1==r)=none:=h
  rw [this];rfl
 |some q=>
  have:m.find? (fun p=>p.1==r)=some q:=h
  rw [this];rfl
structure YA where
 sb:Nat
 rA:Option Addr
 rc:Nat
 m:Nat
 g:Nat
 gc:Nat
 pA:Option Addr
 pc:Nat
 s:Nat
 sc:Nat
structure TY where
 xs:List RX
 byID:RM
 riding:List Int
 paused:List Bool
 spots:List Sp
def TY.plain (t:TY):SY:=⟨t.xs.map (·.r),t.byID,t.riding,t.paused,t.spots⟩
def yCells (a:YA) (t:TY):List Value:=[.slice a.rA t.xs.length a.rc, .map (some a.m), .slice (some ⟨a.g,0,none⟩) t.riding.length a.gc, .slice a.pA t.paused.length a.pc, .slice (some ⟨a.s,0,none⟩) t.spots.length a.sc]
abbrev stY (a:YA) (t:TY):List E.Item:=
 [box a.sb 183 (yCells a t),rdRow a.rA a.rc t.xs,rdBag t.xs,blRow a.pA a.pc t.paused,inRow (some ⟨a.g,0,none⟩) a.gc t.riding,E.rowT 252 4 Sp.cells (some ⟨a.s,0,none⟩) a.sc t.spots,imap a.m (rmV t.byID)]
theorem getD_of {α:Type} {l:List α} {k:Nat} {x d:α} (h:l[k]?=some x):l.getD k d=x:=by rw [List.getD_eq_getElem?_getD,h];rfl
theorem xs_get {t:TY} {k:Nat} {x:RX} (h:t.xs[k]?=some x):t.plain.rides[k]?=some x.r∧t.plain.rides.getD k default=x.r:=by
 have:t.plain.rides[k]?=some x.r:=by unfold TY.plain;simp [h]
 exact ⟨this,getD_of this⟩
theorem endPz_at {w:Spn} {l:List Pz} {p:Pz} (h:l[l.length -1]?=some p):endPz w l=l.set (l.length -1) {p with to_:=w}:=by unfold endPz;rw [getD_of h]
theorem endLeg_at {w:Spn} {l:List Lg} {p:Lg} (h:l[l.length -1]?=some p):endLeg w l=l.set (l.length -1) {p with to_:=w}:=by unfold endLeg;rw [getD_of h]
abbrev stK (a:YA) (t:TY) (k:Nat) (x:RX):List E.Item:=
 [rdRow a.rA a.rc t.xs,pzRow x.a.pA x.a.pc x.r.pauses,lgRow x.a.lA x.a.lc x.r.legs,blRow a.pA a.pc t.paused,inRow (some ⟨a.g,0,none⟩) a.gc t.riding,E.rowT 252 4 Sp.cells (some ⟨a.s,0,none⟩) a.sc t.spots,box a.sb 183 (yCells a t),bag ((t.xs.eraseIdx k).flatMap rdParts),imap a.m (rmV t.byID)]
section
variable {a:YA} {t:TY} {w0 w:World} {L:List E.Item} {n N k:Nat} {x:RX}
theorem openK (h:Mem w0 (stY a t++L) w) (hx:t.xs[k]?=some x):Mem w0 (stK a t k x++L) w:=by
 have h1:=h.pickN 7 [2,0,1,3,4,5,6] (by decide) (by decide)
 have h2:=Mem.apart h1 hx
 exact h2.pickN 9 [4,1,0,5,6,7,3,2,8] (by decide) (by decide)
theorem closeK {m:RM} {gs:List Int} {ps:List Bool} {ss:List Sp} (y:RX) (hk:k<t.xs.length) (hg:gs.length=t.riding.length) (hp:ps.length=t.paused.length) (hs:ss.length=t.spots.length)
  (h:Mem w0 ([rdRow a.rA a.rc (t.xs.set k y),pzRow y.a.pA y.a.pc y.r.pauses,lgRow y.a.lA y.a.lc y.r.legs,blRow a.pA a.pc ps,inRow (some ⟨a.g,0,none⟩) a.gc gs,E.rowT 252 4 Sp.cells (some ⟨a.s,0,none⟩) a.sc ss,box a.sb 183 (yCells a t),bag ((t.xs.eraseIdx k).flatMap rdParts),imap a.m (rmV m)]++L) w):
  Mem w0 (stY a ⟨t.xs.set k y,m,gs,ps,ss⟩++L) w:=by
 have h1:=h.pickN 9 [2,1,7,0,3,4,5,6,8] (by decide) (by decide)
 have h2:=Mem.joined (f:=rdParts) (y:=y) (xs:=t.xs) (k:=k) h1 hk
 have h3:=h2.pickN 7 [5,1,0,2,3,4,6] (by decide) (by decide)
 have hc:yCells a ⟨t.xs.set k y,m,gs,ps,ss⟩=yCells a t:=by unfold yCells;simp [hg,hp,hs]
 show Mem w0 ([box a.sb 183 (yCells a ⟨t.xs.set k y,m,gs,ps,ss⟩),_,_,_,_,_,_]++L) w
 rw [hc]
 exact h3
theorem len_of (hI:WF n N t.plain):t.paused.length=t.xs.length∧t.riding.length=n∧t.spots.length=n∧t.xs.length≤N:=by
 have h1:=hI.paused
 have h2:=hI.num
 simp [TY.plain] at h1 h2
 exact ⟨h1,hI.riding,hI.spots,h2⟩
theorem leg_of (hI:WF n N t.plain) (hx:t.xs[k]?=some x):0<x.r.legs.length∧x.r.legs.length≤N∧x.r.pauses.length≤N∧(∀g∈x.r.legs,0≤g.bike∧g.bike<n):=hI.legs x.r (by unfold TY.plain;exact List.mem_map.2 ⟨x,List.mem_of_getElem? hx,rfl⟩)
theorem resume_w (hw:Mem w0 (stY a t++L) w) (hmk:marks L=[]) (hI:WF n N t.plain) (hN:N≤100000) (hk:k<t.xs.length) (hx:t.xs[k]?=some x) (wh:Spn):
  Calls Tryz.prog 156 #[.pointer (some ⟨a.sb,0,none⟩), .int .i64 k, .agg wh.cells.toArray] w fun r w'=> ∃_:Unit,r= .returned (.tuple #[])∧Mem w0 (stY a ⟨t.xs.set k ⟨resumeR (t.paused.getD k false) wh x.r,x.a⟩,t.byID,t.riding,t.paused.set k false,t.spots⟩++L) w':=by
 obtain ⟨hpl,_,_,_⟩:=len_of hI
 obtain ⟨p,hp⟩: ∃p,t.paused[k]?=some p:=⟨_,List.getElem?_eq_getElem (by omega)⟩
 rw [getD_of hp]
 have hw2:=openK hw hx
 have hlo:=leg_of hI hx
 obtain ⟨rb,hrb⟩:=rowT_at (j:=0) hw2 rfl (by omega)
 obtain ⟨bb,hbb⟩:=rowT_at (j:=3) hw2 rfl (by omega)
 have hcl:=fun (y:RX) (u:World)=>closeK (a:=a) (t:=t) (w0:=w0) (w:=u) (L:=L) (m:=t.byID) (gs:=t.riding) (ps:=t.paused.set k false) (ss:=t.spots) y hk rfl (by simp) rfl
 obtain ⟨asb,arA,arc,am,ag,agc,apA,apc,as_,asc⟩:=a
 simp only at hrb hbb
 subst hrb
 subst hbb
 obtain ⟨⟨id,rider,start,end_,open_,legs,pauses,fw,fp,whr,pl⟩,⟨lA,lc,pA,pc⟩⟩:=x
 simp only at hlo
 refine H_enterM hw2 hmk Tryz.func156 rfl Tryz.ntmps156 rfl ?_
 iterate 2 refine G ?_
 refine X_box (v:= .agg _) rfl rfl fun b5=>?_
 iterate 9 refine G ?_
 refine xV (e_idx k Tryz.underlying135 Tryz.sizeOf191 (q0 rfl) (q0 rfl) (fun _=>⟨rfl,hk⟩)) rfl rfl ?_
 refine G ?_
 refine xV (e_ld (v:= .slice pA pauses.length pc) Tryz.isAgg189 (q0 rfl) (by exact rr 1 (r:=8) rfl hx rfl)) rfl rfl ?_
 iterate 11 refine G ?_
 refine xV (e_idx k Tryz.underlying103 Tryz.sizeOf4 (q0 rfl) (q0 rfl) (fun _=>⟨rfl,by omega⟩)) rfl rfl ?_
 refine xV (e_ld (v:= .bool p) Tryz.isAgg4 (q0 rfl) (by exact rr0 4 (k:=1) (enc:=encB) rfl hp rfl)) rfl rfl ?_
 iterate 7 refine G ?_
 refine H_cond rfl ?_ ?_<;>intro hb
 ·have hb':p=true∧0<pauses.length:=by simpa using hb
  obtain ⟨z,hz⟩: ∃z,pauses[pauses.length -1]?=some z:=⟨_,List.getElem?_eq_getElem (by omega)⟩
  have hres:resumeR p wh ⟨id,rider,start,end_,open_,legs,pauses,fw,fp,whr,pl⟩=⟨id,rider,start,end_,open_,legs,pauses.set (pauses.length -1) {z with to_:=wh},fw,fp,whr,pl⟩:=by unfold resumeR;rw [if_pos hb',←endPz_at hz]
  rw [hres]
  refine H_know (fun w hw=>rowT_at (j:=2) hw rfl hb'.2) fun ⟨zb,hzb⟩=>?_
  subst hzb
  iterate 4 refine G ?_
  refine xV (e_sub (r:=((pauses.length -1:Nat):Int)) (q0 rfl) (q0 rfl) (fun _=>⟨by omega,by omega,by omega⟩)) rfl rfl ?_
  refine G ?_
  refine xV (e_idx (pauses.length -1) Tryz.underlying189 Tryz.sizeOf248 (q0 rfl) (q0 rfl) (fun _=>⟨rfl,by omega⟩)) rfl rfl ?_
  refine G ?_
  refine X_eff (f_storeR 2 (i:=pauses.length -1) (off:=2) {z with to_:=wh} rfl rfl Tryz.sizeOf187 rfl rfl rfl hz rfl rfl ?_)
  iterate 8 refine G ?_
  refine xV (e_idx k Tryz.underlying103 Tryz.sizeOf4 (q0 rfl) (q0 rfl) (fun _=>⟨rfl,by omega⟩)) rfl rfl ?_
  refine X_eff (f_storeR0 4 (k:=1) (enc:=encB) false rfl rfl Tryz.sizeOf4 rfl rfl rfl hp rfl rfl ?_)
  refine G ?_
  exact end0 rfl hmk fun w' hw=>⟨(),rfl,hcl ⟨⟨id,rider,start,end_,open_,legs,pauses.set (pauses.length -1) {z with to_:=wh},fw,fp,whr,pl⟩,⟨lA,lc,some ⟨zb,0,none⟩,pc⟩⟩ w' (by
   unfold rdRow
   rw [rowT_same hx (by simp [RX.cells,Rd.cellsAt])]
   exact hw.tail)⟩
 ·have hb': ¬(p=true∧0<pauses.length):=by intro h;simp [h.1,h.2] at hb
  have hres:resumeR p wh ⟨id,rider,start,end_,open_,legs,pauses,fw,fp,whr,pl⟩=⟨id,rider,start,end_,open_,legs,pauses,fw,fp,whr,pl⟩:=by unfold resumeR;rw [if_neg hb']
  rw [hres]
  iterate 8 refine G ?_
  refine xV (e_idx k Tryz.underlying103 Tryz.sizeOf4 (q0 rfl) (q0 rfl) (fun _=>⟨rfl,by omega⟩)) rfl rfl ?_
  refine X_eff (f_storeR0 4 (k:=1) (enc:=encB) false rfl rfl Tryz.sizeOf4 rfl rfl rfl hp rfl rfl ?_)
  refine G ?_
  exact end0 rfl hmk fun w' hw=>⟨(),rfl,hcl ⟨⟨id,rider,start,end_,open_,legs,pauses,fw,fp,whr,pl⟩,⟨lA,lc,pA,pc⟩⟩ w' (by
   unfold rdRow
   rw [rowT_same hx rfl]
   exact hw.tail)⟩
end
end Go.Proofs.Rid
namespace Go.Proofs.Rid
open Go Go.RowKit Go.Proofs.E Go.Proofs.Cus
structure RdAt (w:World) (x:RX):Prop where
 legs:SlAt w 5 Lg.cells x.a.lA x.r.legs.length x.r.legs
 pauses:SlAt w 4 Pz.cells x.a.pA x.r.pauses.length x.r.pauses
theorem RdAt.mem {w0 w:World} {L:List E.Item} {x:RX} (h:RdAt w0 x) (hm:Mem w0 L w):RdAt w x:=⟨h.legs.mem hm,h.pauses.mem hm⟩
def RdsAt (w:World) (A:Option Addr) (n:Nat) (xs:List RX):Prop:=SlAt w 13 RX.cells A n xs∧ ∀x∈xs,RdAt w x
theorem RdsAt.mem {w0 w:World} {L:List E.Item} {A:Option Addr} {n:Nat} {xs:List RX} (h:RdsAt w0 A n xs) (hm:Mem w0 L w):RdsAt w A n xs:=⟨h.1.mem hm,fun x hx=>(h.2 x hx).mem hm⟩
theorem bag_reads {w0 w:World} {L:List E.Item} {xs:List RX} (hw:Mem w0 L w) {k:Nat} (hk:L[k]?=some (rdBag xs)) (hl: ∀x∈xs,x.r.legs.length≤100000∧x.r.pauses.length≤100000): ∀x∈xs,RdAt w x:=fun x hx=>by
 have h1:=(hw.front hk).unbag
 have hm: ∀it∈rdParts x,it∈xs.flatMap rdParts++L.eraseIdx k:=fun it hi=>List.mem_append.2 (.inl (List.mem_flatMap.2 ⟨x,hx,hi⟩))
 obtain ⟨i,hi⟩:=List.mem_iff_getElem?.1 (hm (lgRow x.a.lA x.a.lc x.r.legs) (by simp [rdParts]))
 obtain ⟨j,hj⟩:=List.mem_iff_getElem?.1 (hm (pzRow x.a.pA x.a.pc x.r.pauses) (by simp [rdParts]))
 have:=hl x hx
 exact ⟨slAt_row h1 hi (fun _=>rfl) (by omega),slAt_row h1 hj (fun _=>rfl) (by omega)⟩
theorem rds_items {w0 w:World} {L:List E.Item} {A:Option Addr} {c:Nat} {xs:List RX} (hw:Mem w0 L w) {j k:Nat} (hj:L[j]?=some (rdRow A c xs)) (hk:L[k]?=some (rdBag xs)) (hn:xs.length≤100000) (hl: ∀x∈xs,x.r.legs.length≤100000∧x.r.pauses.length≤100000):RdsAt w A xs.length xs:=
 ⟨slAt_row hw hj (fun _=>rfl) (by omega),bag_reads hw hk hl⟩
theorem eqSpn (x y:Spn) (w:World):(Op.equal 187 (.agg x.cells.toArray) (.agg y.cells.toArray)).run Tryz.prog w= .ok (decide (x=y)) w:=by
 have h:(Op.equalIn 10000 187 (.agg x.cells.toArray) (.agg y.cells.toArray)).run Tryz.prog w= .ok (x.lo==y.lo&&(x.hi==y.hi&&true)) w:=
  eqS_of w Tryz.underlying187 (by kernel_rfl) (eqF_cons w (by decide) (run_part_one w Tryz.isAgg3 rfl) (run_part_one w Tryz.isAgg3 rfl) (run_equalIn_int w _ _ .i64 .i64 _ _ Tryz.underlying3) (eqF_cons w (by decide) (run_part_one w Tryz.isAgg3 rfl) (run_part_one w Tryz.isAgg3 rfl) (run_equalIn_int w _ _ .i64 .i64 _ _ Tryz.underlying3) (eqF_nil w)))
 have e:(x.lo==y.lo&&(x.hi==y.hi&&true))=decide (x=y):=by
  rw [Bool.eq_iff_iff]
  cases x;cases y
  simp
 rw [←e];exact h
theorem valid_w (s:Spn) (w:World):Calls Tryz.prog 278 #[.agg s.cells.toArray] w fun e w'=>e= .returned (.bool (spOk s))∧Bel w w':=by
 refine H_enter Tryz.func278 rfl Tryz.ntmps278 rfl ?_
 iterate 2 refine G ?_
 refine X_box (v:= .agg _) rfl rfl fun b1=>?_
 iterate 24 refine G ?_
 exact ret1 (v:= .bool _) rfl rfl rfl fun w' hw=>⟨rfl,hw.1⟩
theorem ranged_w (x:RX) (w:World) (hx:RdAt w x):Calls Tryz.prog 209 #[.agg x.cells.toArray] w fun e w'=>e= .returned (.bool (rangedP x.r))∧Bel w w':=by
 obtain ⟨r,⟨lA,lc,pA,pc⟩⟩:=x
 obtain ⟨hlg,hpz⟩:=hx
 simp only at hlg hpz
 have hln:=hlg.2.1
 have hpn:=hpz.2.1
 refine H_enter Tryz.func209 rfl Tryz.ntmps209 rfl ?_
 iterate 2 refine G ?_
 refine X_box (v:= .agg _) rfl rfl fun b1=>?_
 iterate 26 refine G ?_
 refine xVF (eP Tryz.isAgg187 Tryz.sizeOf187 (q1 rfl)) rfl rfl rfl rfl ?_
 refine xCF (en Tryz.call278 (ha1 (q1 (v:= .agg _) rfl))) (fun _ w _=>valid_w r.start w) rfl rfl rfl rfl ?_
 iterate 4 refine G ?_
 refine xVF (eP Tryz.isAgg187 Tryz.sizeOf187 (q1 rfl)) rfl rfl rfl rfl ?_
 refine xCF (en Tryz.call278 (ha1 (q1 (v:= .agg _) rfl))) (fun _ w _=>valid_w r.end_ w) rfl rfl rfl rfl ?_
 iterate 4 refine G ?_
 refine H_cond rfl ?_ ?_<;>intro h1
 ·iterate 7 refine G ?_
  exact ret1 (v:= .bool _) rfl rfl rfl fun w' hw=>⟨ret_bool (by unfold rangedP;rw [show headBad r=true from h1];rfl),hw.1⟩
 ·have hrg:rangedP r=(r.legs.all lgOk&&r.pauses.all pzOk):=by unfold rangedP;rw [show headBad r=false from h1];rfl
  rw [hrg]
  iterate 12 refine G ?_
  refine H_loop [2,4,40,41,42,43,44,45,46,47,48,49,50,51,52,53,54] (fun k:Nat=>[(40, .int .i64 k)]) (fun _=>[box b1 191 (RX.cells ⟨r,⟨lA,lc,pA,pc⟩⟩)]) (fun k=>k≤r.legs.length∧r.legs.all lgOk=(r.legs.drop k).all lgOk) (fun k=>r.legs.length -k) 0 ⟨rfl,trivial⟩ (fun w hw=>hw) rfl ⟨Nat.zero_le _,rfl⟩ ?_
  rintro k g ⟨hk,hall⟩
  iterate 6 refine G ?_
  refine H_cond rfl ?_ ?_<;>intro hlt
  ·have hlt':k<r.legs.length:=by simpa using hlt
   obtain ⟨b,off,y,rfl,hbl,hy,hry⟩:=hlg.at_ hlt'
   rw [drop_of hy,List.all_cons] at hall
   iterate 6 refine G ?_
   refine xV (e_idx _ Tryz.underlying188 Tryz.sizeOf276 (q0 rfl) (q0 rfl) (fun _=>⟨rfl,by omega⟩)) rfl rfl ?_
   refine G ?_
   refine X_alloc Tryz.zeroValue276 rfl fun b4=>?_
   refine X_st (v:= .agg _) rfl rfl Tryz.sizeOf276 ?_
   iterate 5 refine G ?_
   refine xV (eP Tryz.isAgg187 Tryz.sizeOf187 (q0 rfl)) rfl rfl ?_
   refine xC (en Tryz.call278 (ha1 (q0 rfl))) (fun _ w _=>valid_w y.from_ w) rfl rfl ?_
   iterate 3 refine G ?_
   refine xVF (eP Tryz.isAgg187 Tryz.sizeOf187 (q1 rfl)) rfl rfl rfl rfl ?_
   refine xCF (en Tryz.call278 (ha1 (q1 (v:= .agg _) rfl))) (fun _ w _=>valid_w y.to_ w) rfl rfl rfl rfl ?_
   iterate 4 refine G ?_
   refine H_cond rfl ?_ ?_<;>intro hb
   ·have hy0:lgOk y=false:=by unfold lgOk;revert hb;cases spOk y.from_<;>cases spOk y.to_<;>simp
    rw [hall,hy0]
    iterate 11 refine G ?_
    exact ret1 (v:= .bool _) rfl rfl rfl fun w' hw=>⟨rfl,hw.1⟩
   ·have hy1:lgOk y=true:=by unfold lgOk;revert hb;cases spOk y.from_<;>cases spOk y.to_<;>simp
    rw [hy1,Bool.true_and] at hall
    iterate 7 refine G ?_
    exact loopJ_normal (k+1) agr ⟨rfl,trivial⟩ (fun w hw=>hw.tail) rfl ⟨by omega,hall⟩ (by show r.legs.length -(k+1)<r.legs.length -k;omega)
  ·have hend:k=r.legs.length:=by simp at hlt;omega
   rw [hall,hend,List.drop_length,List.all_nil,Bool.true_and]
   iterate 15 refine G ?_
   refine H_loop [2,6,58,59,60,61,62,63,64,65,66,67,68,69,70,71,72] (fun k:Nat=>[(58, .int .i64 k)]) (fun _=>[box b1 191 (RX.cells ⟨r,⟨lA,lc,pA,pc⟩⟩)]) (fun k=>k≤r.pauses.length∧r.pauses.all pzOk=(r.pauses.drop k).all pzOk) (fun k=>r.pauses.length -k) 0 ⟨rfl,trivial⟩ (fun w hw=>hw) rfl ⟨Nat.zero_le _,rfl⟩ ?_
   rintro q g2 ⟨hq,hall2⟩
   iterate 6 refine G ?_
   refine H_cond rfl ?_ ?_<;>intro hlt2
   ·have hlt2':q<r.pauses.length:=by simpa using hlt2
    obtain ⟨b,off,y,rfl,hbl,hy,hry⟩:=hpz.at_ hlt2'
    rw [drop_of hy,List.all_cons] at hall2
    iterate 6 refine G ?_
    refine xV (e_idx _ Tryz.underlying189 Tryz.sizeOf248 (q0 rfl) (q0 rfl) (fun _=>⟨rfl,by omega⟩)) rfl rfl ?_
    refine G ?_
    refine X_alloc Tryz.zeroValue248 rfl fun b6=>?_
    refine X_st (v:= .agg _) rfl rfl Tryz.sizeOf248 ?_
    iterate 5 refine G ?_
    refine xV (eP Tryz.isAgg187 Tryz.sizeOf187 (q0 rfl)) rfl rfl ?_
    refine xC (en Tryz.call278 (ha1 (q0 rfl))) (fun _ w _=>valid_w y.from_ w) rfl rfl ?_
    iterate 3 refine G ?_
    refine xVF (eP Tryz.isAgg187 Tryz.sizeOf187 (q1 rfl)) rfl rfl rfl rfl ?_
    refine xCF (en Tryz.call278 (ha1 (q1 (v:= .agg _) rfl))) (fun _ w _=>valid_w y.to_ w) rfl rfl rfl rfl ?_
    iterate 4 refine G ?_
    refine H_cond rfl ?_ ?_<;>intro hb
    ·have hy0:pzOk y=false:=by unfold pzOk;revert hb;cases spOk y.from_<;>cases spOk y.to_<;>simp
     rw [hall2,hy0]
     iterate 11 refine G ?_
     exact ret1 (v:= .bool _) rfl rfl rfl fun w' hw=>⟨rfl,hw.1⟩
    ·have hy1:pzOk y=true:=by unfold pzOk;revert hb;cases spOk y.from_<;>cases spOk y.to_<;>simp
     rw [hy1,Bool.true_and] at hall2
     iterate 7 refine G ?_
     exact loopJ_normal (q+1) agr ⟨rfl,trivial⟩ (fun w hw=>hw.tail) rfl ⟨by omega,hall2⟩ (by show r.pauses.length -(q+1)<r.pauses.length -q;omega)
   ·have hend2:q=r.pauses.length:=by simp at hlt2;omega
    rw [hall2,hend2,List.drop_length,List.all_nil]
    iterate 11 refine G ?_
    exact ret1 (v:= .bool _) rfl rfl rfl fun w' hw=>⟨rfl,hw.1⟩
theorem joined_w (x:RX) (w:World) (hx:RdAt w x):Calls Tryz.prog 210 #[.agg x.cells.toArray] w fun e w'=>e= .returned (.bool (joinedP x.r))∧Bel w w':=by
 obtain ⟨r,⟨lA,lc,pA,pc⟩⟩:=x
 obtain ⟨hlg,hpz⟩:=hx
 simp only at hlg hpz
 have hln:=hlg.2.1
 have hpn:=hpz.2.1
 refine H_enter Tryz.func210 rfl Tryz.ntmps210 rfl ?_
 iterate 2 refine G ?_
 refine X_box (v:= .agg _) rfl rfl fun b1=>?_
 iterate 24 refine G ?_
 refine H_cond rfl ?_ ?_<;>intro h1
 ·iterate 7 refine G ?_
  exact ret1 (v:= .bool _) rfl rfl rfl fun w' hw=>⟨ret_bool (by unfold joinedP;rw [show numBad r=true from h1];rfl),hw.1⟩
 ·have hj:joinedP r=chainP r.start r.legs r.end_:=by unfold joinedP;rw [show numBad r=false from h1];rfl
  rw [hj]
  iterate 5 refine G ?_
  refine xV (eP Tryz.isAgg187 Tryz.sizeOf187 (q0 rfl)) rfl rfl ?_
  refine X_alloc Tryz.zeroValue187 rfl fun b3=>?_
  refine X_st (v:= .agg _) rfl rfl Tryz.sizeOf187 ?_
  iterate 12 refine G ?_
  refine H_loop [2,5,27,28,29,30,31,32,33,34,35,36,37] (fun q:Nat×Spn=>[(27, .int .i64 q.1)]) (fun q=>[box b3 187 q.2.cells,box b1 191 (RX.cells ⟨r,⟨lA,lc,pA,pc⟩⟩)]) (fun q=>q.1≤r.legs.length∧chainP r.start r.legs r.end_=chainP q.2 (r.legs.drop q.1) r.end_) (fun q=>r.legs.length -q.1) (0,r.start) ⟨rfl,trivial⟩ (fun w hw=>hw) rfl ⟨Nat.zero_le _,rfl⟩ ?_
  rintro ⟨k,at_⟩ g ⟨hk,hall⟩
  simp only at hk hall
  iterate 6 refine G ?_
  refine H_cond rfl ?_ ?_<;>intro hlt
  ·have hlt':k<r.legs.length:=by simpa using hlt
   obtain ⟨b,off,y,rfl,hbl,hy,hry⟩:=hlg.at_ hlt'
   rw [drop_of hy] at hall
   iterate 6 refine G ?_
   refine xV (e_idx _ Tryz.underlying188 Tryz.sizeOf276 (q0 rfl) (q0 rfl) (fun _=>⟨rfl,by omega⟩)) rfl rfl ?_
   refine G ?_
   refine X_alloc Tryz.zeroValue276 rfl fun b5=>?_
   refine X_st (v:= .agg _) rfl rfl Tryz.sizeOf276 ?_
   iterate 6 refine G ?_
   refine xV (eP Tryz.isAgg187 Tryz.sizeOf187 (q0 rfl)) rfl rfl ?_
   refine G ?_
   refine xV (e_neS (fun w=>eqSpn y.from_ at_ w) (by kernel_rfl) (q0 rfl) (q0 rfl)) rfl rfl ?_
   iterate 2 refine G ?_
   refine H_cond rfl ?_ ?_<;>intro hb
   ·have hne:decide (y.from_=at_)=false:=by simpa using hb
    have hfin:chainP at_ (y::r.legs.drop (k+1)) r.end_=false:=by simp only [chainP,hne,Bool.false_and]
    rw [hall,hfin]
    iterate 12 refine G ?_
    exact ret1 (v:= .bool _) rfl rfl rfl fun w' hw=>⟨rfl,hw.1⟩
   ·have heq:decide (y.from_=at_)=true:=by simpa using hb
    have hfin:chainP at_ (y::r.legs.drop (k+1)) r.end_=chainP y.to_ (r.legs.drop (k+1)) r.end_:=by simp only [chainP,heq,Bool.true_and]
    rw [hfin] at hall
    iterate 4 refine G ?_
    refine xV (eP Tryz.isAgg187 Tryz.sizeOf187 (q0 rfl)) rfl rfl ?_
    refine X_st (v:= .agg _) rfl rfl Tryz.sizeOf187 ?_
    iterate 7 refine G ?_
    exact loopJ_normal (k+1,y.to_) agr ⟨rfl,trivial⟩ (fun w hw=>hw.tail) rfl ⟨by show k+1≤_;omega,hall⟩ (by show r.legs.length -(k+1)<r.legs.length -k;omega)
  ·have hend:k=r.legs.length:=by simp at hlt;omega
   rw [hend,List.drop_length] at hall
   rw [hall]
   iterate 9 refine G ?_
   refine xV (eP Tryz.isAgg187 Tryz.sizeOf187 (q0 rfl)) rfl rfl ?_
   refine xV (e_eqS (fun w=>eqSpn at_ r.end_ w) (by kernel_rfl) (q0 rfl) (q0 rfl)) rfl rfl ?_
   iterate 4 refine G ?_
   exact ret1 (v:= .bool _) rfl rfl rfl fun w' hw=>⟨rfl,hw.1⟩
theorem ordered_w (x:RX) (w:World) (hx:RdAt w x) (hl:x.r.legs.length≤1000000) (hp:x.r.pauses.length≤1000000):Calls Tryz.prog 211 #[.agg x.cells.toArray] w fun e w'=>e= .returned (.bool (orderedP x.r))∧Bel w w':=by
 obtain ⟨r,⟨lA,lc,pA,pc⟩⟩:=x
 obtain ⟨hlg,hpz⟩:=hx
 simp only at hlg hpz hl hp
 refine H_enter Tryz.func211 rfl Tryz.ntmps211 rfl ?_
 refine H_seq ?_
 refine R0 ?_
 refine X_box (v:= .agg _) rfl rfl fun b1=>?_
 refine xV (e_as (v:= .bool _) (q0 rfl)) rfl rfl ?_
 refine XN ?_
 refine thenJ_normal ?_
 refine H_seq ?_
 refine H_seq ?_
 refine R0 ?_
 refine xV (e_fld Tryz.underlying191 rfl Tryz.sizeOf188 rfl (q0 rfl)) rfl rfl ?_
 refine xV (eL Tryz.isAgg188 (q0 rfl)) rfl rfl ?_
 refine xV (e_len Tryz.underlying188 (q0 rfl)) rfl rfl ?_
 refine xV (e_mv (v:= .int _ _) (q0 rfl)) rfl rfl ?_
 refine XN ?_
 refine thenJ_normal ?_
 refine H_block ?_
 refine H_loop [2,3,4,11,12,13,14,15,16,17,18,19,20,21,22,23,24,25,26,27,28,29,30,31,32,33,34,35,36] (fun k:Nat=>[(11, .int .i64 k)]) (fun _=>[box b1 191 (RX.cells ⟨r,⟨lA,lc,pA,pc⟩⟩)]) (fun k=>k≤r.legs.length∧legsOrd r.open_ r.legs=legsOrd r.open_ (r.legs.drop k)) (fun k=>r.legs.length -k) 0 ⟨rfl,trivial⟩ (fun w hw=>hw) rfl ⟨Nat.zero_le _,rfl⟩ ?_
 rintro k g ⟨hk,hall⟩
 refine H_seq ?_
 refine R0 ?_
 refine xV (e_lt (q0 rfl) (q0 rfl)) rfl rfl ?_
 refine XN ?_
 refine thenJ_normal ?_
 refine H_seq ?_
 refine H_cond rfl (fun hlt=>?_) (fun hlt=>?_)
 ·have hlt':k<r.legs.length:=by simpa using hlt
  obtain ⟨b,off,y,rfl,hbl,hy,hry⟩:=hlg.at_ hlt'
  rw [drop_of hy] at hall
  have hst:legsOrd r.open_ (y::r.legs.drop (k+1))=(!(decide (y.to_.lo<y.from_.lo)&&!(r.open_&&decide ((k:Int)=(r.legs.length:Int) -1)))&&legsOrd r.open_ (r.legs.drop (k+1))):=by simp only [legsOrd,drop_empty hlt']
  rw [hst] at hall
  refine H_skip ?_
  refine thenJ_normal ?_
  refine H_seq ?_
  refine H_block ?_
  refine H_seq ?_
  refine R0 ?_
  refine xV (e_mv (v:= .int _ _) (q0 rfl)) rfl rfl ?_
  refine xV (e_idx _ Tryz.underlying188 Tryz.sizeOf276 (q0 rfl) (q0 rfl) (fun _=>⟨rfl,by omega⟩)) rfl rfl ?_
  refine xV (eS Tryz.isAgg276 Tryz.sizeOf276 (q0 rfl)) rfl rfl ?_
  refine X_alloc Tryz.zeroValue276 rfl fun b4=>?_
  refine xV (e_as (v:= .int _ _) (q0 rfl)) rfl rfl ?_
  refine X_st (v:= .agg _) rfl rfl Tryz.sizeOf276 ?_
  refine XN ?_
  refine thenJ_normal ?_
  refine H_seq ?_
  refine R0 ?_
  refine xV (e_fld Tryz.underlying276 rfl Tryz.sizeOf187 rfl (q0 rfl)) rfl rfl ?_
  refine xV (e_fld Tryz.underlying187 rfl Tryz.sizeOf3 rfl (q0 rfl)) rfl rfl ?_
  refine xV (eL Tryz.isAgg3 (q0 rfl)) rfl rfl ?_
  refine xV (e_fld Tryz.underlying276 rfl Tryz.sizeOf187 rfl (q0 rfl)) rfl rfl ?_
  refine xV (e_fld Tryz.underlying187 rfl Tryz.sizeOf3 rfl (q0 rfl)) rfl rfl ?_
  refine xV (eL Tryz.isAgg3 (q0 rfl)) rfl rfl ?_
  refine xV (e_gt (q0 rfl) (q0 rfl)) rfl rfl ?_
  refine xV (e_mv (v:= .bool _) (q0 rfl)) rfl rfl ?_
  refine xVT (e_fld Tryz.underlying191 rfl Tryz.sizeOf4 rfl (q0 rfl)) rfl rfl rfl rfl ?_
  refine xVT (eL Tryz.isAgg4 (q1 rfl)) rfl rfl rfl rfl ?_
  refine xVT (e_mv (v:= .bool _) (q1 rfl)) rfl rfl rfl rfl ?_
  refine xVT2 (e_mv (v:= .int _ _) (q0 rfl)) rfl rfl rfl rfl ?_
  refine xVT2 (e_fld Tryz.underlying191 rfl Tryz.sizeOf188 rfl (q0 rfl)) rfl rfl rfl rfl ?_
  refine xVT2 (eL Tryz.isAgg188 (q1 rfl)) rfl rfl rfl rfl ?_
  refine xVT2 (e_len Tryz.underlying188 (q1 rfl)) rfl rfl rfl rfl ?_
  refine xVT2 (e_sub (q1 rfl) (q0 rfl) (fun _=>⟨rfl,by simp only;omega,by simp only;omega⟩)) rfl rfl rfl rfl ?_
  refine xVT2 (e_eq (q1 rfl) (q1 rfl)) rfl rfl rfl rfl ?_
  refine xVT (e_and (q1 rfl) rfl (fun h=>by first|rfl|(rw [h];rfl))) rfl rfl rfl rfl ?_
  refine xVT (e_not (q1 rfl)) rfl rfl rfl rfl ?_
  refine xV (e_and (q0 rfl) rfl (fun h=>by first|rfl|(rw [h];rfl))) rfl rfl ?_
  refine XN ?_
  refine thenJ_normal ?_
  refine H_cond rfl (fun hb=>?_) (fun hb=>?_)
  ·have hord:orderedP r=false:=by
    unfold orderedP
    rw [hall,show (decide (y.to_.lo<y.from_.lo)&&!(r.open_&&decide ((k:Int)=(r.legs.length:Int) -1)))=true from hb]
    rfl
   rw [hord]
   refine H_seq ?_
   refine R0 ?_
   refine xV (e_as (v:= .bool _) (q0 rfl)) rfl rfl ?_
   refine XN ?_
   refine thenJ_normal ?_
   refine H_ret ?_
   refine blockJ_ret ?_
   refine thenJ_ret ?_
   refine loopJ_ret ?_
   refine blockJ_ret ?_
   refine thenJ_ret ?_
   exact ret1 (v:= .bool _) rfl rfl rfl fun w' hw=>⟨rfl,hw.1⟩
  ·rw [show (decide (y.to_.lo<y.from_.lo)&&!(r.open_&&decide ((k:Int)=(r.legs.length:Int) -1)))=false from hb,Bool.not_false,Bool.true_and] at hall
   refine H_skip ?_
   refine blockJ_normal ?_
   refine thenJ_normal ?_
   refine R0 ?_
   refine xV (e_add (q0 rfl) (q0 rfl) (fun _=>⟨rfl,by omega,by omega⟩)) rfl rfl ?_
   refine xV (e_mv (v:= .int _ _) (q0 rfl)) rfl rfl ?_
   refine XN ?_
   exact loopJ_normal (k+1) (by repeat (first|exact agree_self|exact agree_over|refine agree_upd rfl ?_|refine agree_updL rfl ?_|refine agree_over2 rfl ?_)) ⟨rfl,trivial⟩ (fun w hw=>hw.tail) rfl ⟨by omega,hall⟩ (by show r.legs.length -(k+1)<r.legs.length -k;omega)
 ·have hend:k=r.legs.length:=by simp at hlt;omega
  rw [hend,List.drop_length] at hall
  have hord:orderedP r=pzOrd r.open_ r.pauses.length r.end_.lo r.start.lo r.pauses:=by unfold orderedP;rw [hall];rfl
  rw [hord]
  refine H_exit ?_
  refine thenJ_exit ?_
  refine loopJ_exit ?_
  refine blockJ_hit ?_
  refine thenJ_normal ?_
  refine H_seq ?_
  refine R0 ?_
  refine xV (e_fld Tryz.underlying191 rfl Tryz.sizeOf187 rfl (q0 rfl)) rfl rfl ?_
  refine xV (e_fld Tryz.underlying187 rfl Tryz.sizeOf3 rfl (q0 rfl)) rfl rfl ?_
  refine xV (eL Tryz.isAgg3 (q0 rfl)) rfl rfl ?_
  refine xV (e_as (v:= .int _ _) (q0 rfl)) rfl rfl ?_
  refine XN ?_
  refine thenJ_normal ?_
  refine H_seq ?_
  refine H_seq ?_
  refine R0 ?_
  refine xV (e_fld Tryz.underlying191 rfl Tryz.sizeOf189 rfl (q0 rfl)) rfl rfl ?_
  refine xV (eL Tryz.isAgg189 (q0 rfl)) rfl rfl ?_
  refine xV (e_len Tryz.underlying189 (q0 rfl)) rfl rfl ?_
  refine xV (e_mv (v:= .int _ _) (q0 rfl)) rfl rfl ?_
  refine XN ?_
  refine thenJ_normal ?_
  refine H_block ?_
  refine H_loop [2,5,6,7,43,44,45,46,47,48,49,50,51,52,53,54,55,56,57,58,59,60,61,62,63,64,65,66,67,68,69,70,71,72,73,74,75,76,77,78,79,80] (fun q:Nat×Int=>[(43, .int .i64 q.1),(5, .int .i64 q.2)]) (fun _=>[box b1 191 (RX.cells ⟨r,⟨lA,lc,pA,pc⟩⟩)]) (fun q=>q.1≤r.pauses.length∧pzOrd r.open_ r.pauses.length r.end_.lo r.start.lo r.pauses=pzOrd r.open_ r.pauses.length r.end_.lo q.2 (r.pauses.drop q.1)) (fun q=>r.pauses.length -q.1) (0,r.start.lo) ⟨rfl,rfl,trivial⟩ (fun w hw=>hw) rfl ⟨Nat.zero_le _,rfl⟩ ?_
  rintro ⟨q,last⟩ g2 ⟨hq,hall2⟩
  simp only at hq hall2
  refine H_seq ?_
  refine R0 ?_
  refine xV (e_lt (q0 rfl) (q0 rfl)) rfl rfl ?_
  refine XN ?_
  refine thenJ_normal ?_
  refine H_seq ?_
  refine H_cond rfl (fun hlt2=>?_) (fun hlt2=>?_)
  ·have hlt2':q<r.pauses.length:=by simpa using hlt2
   obtain ⟨b,off,y,rfl,hbl,hy,hry⟩:=hpz.at_ hlt2'
   rw [drop_of hy] at hall2
   have hem:=drop_empty hlt2'
   simp only [pzOrd,hem] at hall2
   refine H_skip ?_
   refine thenJ_normal ?_
   refine H_seq ?_
   refine H_block ?_
   refine H_seq ?_
   refine R0 ?_
   refine xV (e_mv (v:= .int _ _) (q0 rfl)) rfl rfl ?_
   refine xV (e_idx _ Tryz.underlying189 Tryz.sizeOf248 (q0 rfl) (q0 rfl) (fun _=>⟨rfl,by omega⟩)) rfl rfl ?_
   refine xV (eS Tryz.isAgg248 Tryz.sizeOf248 (q0 rfl)) rfl rfl ?_
   refine X_alloc Tryz.zeroValue248 rfl fun b7=>?_
   refine xV (e_as (v:= .int _ _) (q0 rfl)) rfl rfl ?_
   refine X_st (v:= .agg _) rfl rfl Tryz.sizeOf248 ?_
   refine XN ?_
   refine thenJ_normal ?_
   refine H_seq ?_
   refine H_seq ?_
   refine R0 ?_
   refine xV (e_fld Tryz.underlying248 rfl Tryz.sizeOf187 rfl (q0 rfl)) rfl rfl ?_
   refine xV (e_fld Tryz.underlying187 rfl Tryz.sizeOf3 rfl (q0 rfl)) rfl rfl ?_
   refine xV (eL Tryz.isAgg3 (q0 rfl)) rfl rfl ?_
   refine xV (e_mv (v:= .int _ _) (q0 rfl)) rfl rfl ?_
   refine xV (e_lt (q0 rfl) (q0 rfl)) rfl rfl ?_
   refine XN ?_
   refine thenJ_normal ?_
   refine H_cond rfl (fun hb1=>?_) (fun hb1=>?_)
   ·rw [if_pos (by simpa using hb1)] at hall2
    rw [hall2]
    refine H_seq ?_
    refine R0 ?_
    refine xV (e_as (v:= .bool _) (q0 rfl)) rfl rfl ?_
    refine XN ?_
    refine thenJ_normal ?_
    refine H_ret ?_
    refine thenJ_ret ?_
    refine blockJ_ret ?_
    refine thenJ_ret ?_
    refine loopJ_ret ?_
    refine blockJ_ret ?_
    refine thenJ_ret ?_
    exact ret1 (v:= .bool _) rfl rfl rfl fun w' hw=>⟨rfl,hw.1⟩
   ·rw [if_neg (by simpa using hb1)] at hall2
    refine H_skip ?_
    refine thenJ_normal ?_
    refine H_seq ?_
    refine R0 ?_
    refine xV (e_fld Tryz.underlying248 rfl Tryz.sizeOf187 rfl (q0 rfl)) rfl rfl ?_
    refine xV (e_fld Tryz.underlying187 rfl Tryz.sizeOf3 rfl (q0 rfl)) rfl rfl ?_
    refine xV (eL Tryz.isAgg3 (q0 rfl)) rfl rfl ?_
    refine xV (e_as (v:= .int _ _) (q0 rfl)) rfl rfl ?_
    refine XN ?_
    refine thenJ_normal ?_
    refine H_seq ?_
    refine H_seq ?_
    refine R0 ?_
    refine xV (e_fld Tryz.underlying191 rfl Tryz.sizeOf4 rfl (q0 rfl)) rfl rfl ?_
    refine xV (eL Tryz.isAgg4 (q0 rfl)) rfl rfl ?_
    refine xV (e_mv (v:= .bool _) (q0 rfl)) rfl rfl ?_
    refine xVT (e_mv (v:= .int _ _) (q0 rfl)) rfl rfl rfl rfl ?_
    refine xVT (e_fld Tryz.underlying191 rfl Tryz.sizeOf189 rfl (q0 rfl)) rfl rfl rfl rfl ?_
    refine xVT (eL Tryz.isAgg189 (q1 rfl)) rfl rfl rfl rfl ?_
    refine xVT (e_len Tryz.underlying189 (q1 rfl)) rfl rfl rfl rfl ?_
    refine xVT (e_sub (q1 rfl) (q0 rfl) (fun _=>⟨rfl,by simp only;omega,by simp only;omega⟩)) rfl rfl rfl rfl ?_
    refine xVT (e_eq (q1 rfl) (q1 rfl)) rfl rfl rfl rfl ?_
    refine xV (e_and (q0 rfl) rfl (fun h=>by first|rfl|(rw [h];rfl))) rfl rfl ?_
    refine xV (e_mv (v:= .bool _) (q0 rfl)) rfl rfl ?_
    refine xVT (e_fld Tryz.underlying248 rfl Tryz.sizeOf187 rfl (q0 rfl)) rfl rfl rfl rfl ?_
    refine xVT (e_fld Tryz.underlying187 rfl Tryz.sizeOf3 rfl (q1 rfl)) rfl rfl rfl rfl ?_
    refine xVT (eL Tryz.isAgg3 (q1 rfl)) rfl rfl rfl rfl ?_
    refine xVT (e_eq (q1 rfl) (q0 rfl)) rfl rfl rfl rfl ?_
    refine xV (e_and (q0 rfl) rfl (fun h=>by first|rfl|(rw [h];rfl))) rfl rfl ?_
    refine XN ?_
    refine thenJ_normal ?_
    refine H_cond rfl (fun hb2=>?_) (fun hb2=>?_)
    ·rw [if_pos hb2] at hall2
     rw [hall2]
     refine H_seq ?_
     refine R0 ?_
     refine xV (e_as (v:= .bool _) (q0 rfl)) rfl rfl ?_
     refine XN ?_
     refine thenJ_normal ?_
     refine H_ret ?_
     refine thenJ_ret ?_
     refine blockJ_ret ?_
     refine thenJ_ret ?_
     refine loopJ_ret ?_
     refine blockJ_ret ?_
     refine thenJ_ret ?_
     exact ret1 (v:= .bool _) rfl rfl rfl fun w' hw=>⟨rfl,hw.1⟩
    ·rw [if_neg (by rw [show _=false from hb2];decide)] at hall2
     refine H_skip ?_
     refine thenJ_normal ?_
     refine H_seq ?_
     refine H_seq ?_
     refine R0 ?_
     refine xV (e_fld Tryz.underlying248 rfl Tryz.sizeOf187 rfl (q0 rfl)) rfl rfl ?_
     refine xV (e_fld Tryz.underlying187 rfl Tryz.sizeOf3 rfl (q0 rfl)) rfl rfl ?_
     refine xV (eL Tryz.isAgg3 (q0 rfl)) rfl rfl ?_
     refine xV (e_mv (v:= .int _ _) (q0 rfl)) rfl rfl ?_
     refine xV (e_lt (q0 rfl) (q0 rfl)) rfl rfl ?_
     refine XN ?_
     refine thenJ_normal ?_
     refine H_cond rfl (fun hb3=>?_) (fun hb3=>?_)
     ·rw [if_pos (by simpa using hb3)] at hall2
      rw [hall2]
      refine H_seq ?_
      refine R0 ?_
      refine xV (e_as (v:= .bool _) (q0 rfl)) rfl rfl ?_
      refine XN ?_
      refine thenJ_normal ?_
      refine H_ret ?_
      refine thenJ_ret ?_
      refine blockJ_ret ?_
      refine thenJ_ret ?_
      refine loopJ_ret ?_
      refine blockJ_ret ?_
      refine thenJ_ret ?_
      exact ret1 (v:= .bool _) rfl rfl rfl fun w' hw=>⟨rfl,hw.1⟩
     ·rw [if_neg (by simpa using hb3)] at hall2
      refine H_skip ?_
      refine thenJ_normal ?_
      refine R0 ?_
      refine xV (e_fld Tryz.underlying248 rfl Tryz.sizeOf187 rfl (q0 rfl)) rfl rfl ?_
      refine xV (e_fld Tryz.underlying187 rfl Tryz.sizeOf3 rfl (q0 rfl)) rfl rfl ?_
      refine xV (eL Tryz.isAgg3 (q0 rfl)) rfl rfl ?_
      refine xV (e_as (v:= .int _ _) (q0 rfl)) rfl rfl ?_
      refine XN ?_
      refine blockJ_normal ?_
      refine thenJ_normal ?_
      refine R0 ?_
      refine xV (e_add (q0 rfl) (q0 rfl) (fun _=>⟨rfl,by omega,by omega⟩)) rfl rfl ?_
      refine xV (e_mv (v:= .int _ _) (q0 rfl)) rfl rfl ?_
      refine XN ?_
      exact loopJ_normal (q+1,y.to_.lo) (by repeat (first|exact agree_self|exact agree_over|refine agree_upd rfl ?_|refine agree_updL rfl ?_|refine agree_over2 rfl ?_)) ⟨rfl,rfl,trivial⟩ (fun w hw=>hw.tail) rfl ⟨by show q+1≤_;omega,hall2⟩ (by show r.pauses.length -(q+1)<r.pauses.length -q;omega)
  ·have hend2:q=r.pauses.length:=by simp at hlt2;omega
   rw [hend2,List.drop_length] at hall2
   simp only [pzOrd] at hall2
   rw [hall2]
   refine H_exit ?_
   refine thenJ_exit ?_
   refine loopJ_exit ?_
   refine blockJ_hit ?_
   refine thenJ_normal ?_
   refine H_seq ?_
   refine R0 ?_
   refine xV (e_fld Tryz.underlying191 rfl Tryz.sizeOf4 rfl (q0 rfl)) rfl rfl ?_
   refine xV (eL Tryz.isAgg4 (q0 rfl)) rfl rfl ?_
   refine xV (e_mv (v:= .bool _) (q0 rfl)) rfl rfl ?_
   refine xVF (e_fld Tryz.underlying191 rfl Tryz.sizeOf189 rfl (q0 rfl)) rfl rfl rfl rfl ?_
   refine xVF (eL Tryz.isAgg189 (q1 rfl)) rfl rfl rfl rfl ?_
   refine xVF (e_len Tryz.underlying189 (q1 rfl)) rfl rfl rfl rfl ?_
   refine xVF (e_eq (q1 rfl) (q0 rfl)) rfl rfl rfl rfl ?_
   refine xV (e_or (q0 rfl) rfl (fun h=>by first|rfl|(rw [h];rfl))) rfl rfl ?_
   refine xV (e_mv (v:= .bool _) (q0 rfl)) rfl rfl ?_
   refine xVF (e_mv (v:= .int _ _) (q0 rfl)) rfl rfl rfl rfl ?_
   refine xVF (e_fld Tryz.underlying191 rfl Tryz.sizeOf187 rfl (q0 rfl)) rfl rfl rfl rfl ?_
   refine xVF (e_fld Tryz.underlying187 rfl Tryz.sizeOf3 rfl (q1 rfl)) rfl rfl rfl rfl ?_
   refine xVF (eL Tryz.isAgg3 (q1 rfl)) rfl rfl rfl rfl ?_
   refine xVF (e_le (q1 rfl) (q1 rfl)) rfl rfl rfl rfl ?_
   refine xV (e_or (q0 rfl) rfl (fun h=>by first|rfl|(rw [h];rfl))) rfl rfl ?_
   refine xV (e_as (v:= .bool _) (q0 rfl)) rfl rfl ?_
   refine XN ?_
   refine thenJ_normal ?_
   refine H_ret ?_
   exact ret1 (v:= .bool _) rfl rfl rfl fun w' hw=>⟨rfl,hw.1⟩
attribute [local irreducible] rangedP joinedP orderedP
theorem rcheck_w (x:RX) (w:World) (hx:RdAt w x) (hl:x.r.legs.length≤1000000) (hp:x.r.pauses.length≤1000000):Calls Tryz.prog 160 #[.agg x.cells.toArray] w fun e w'=>e= .returned (.int .i64 (checkR x.r))∧Bel w w':=by
 have hxw:=hx
 obtain ⟨r,ra⟩:=x
 simp only at hl hp
 refine H_enter Tryz.func160 rfl Tryz.ntmps160 rfl ?_
 iterate 2 refine G ?_
 refine X_box (v:= .agg _) rfl rfl fun b1=>?_
 iterate 8 refine G ?_
 refine xC (en Tryz.call209 (ha1 (q0 rfl))) (fun _ w hw=>ranged_w ⟨r,ra⟩ w (hx.mem hw)) rfl rfl ?_
 iterate 4 refine G ?_
 refine H_cond rfl ?_ ?_<;>intro h1
 ·have hc:checkR r=1:=by unfold checkR;rw [if_pos h1]
  rw [hc]
  iterate 8 refine G ?_
  exact ret1 (v:= .int _ _) rfl rfl rfl fun w' hw=>⟨rfl,hw.1⟩
 ·iterate 3 refine G ?_
  refine xC (en Tryz.call210 (ha1 (q0 rfl))) (fun _ w hw=>joined_w ⟨r,ra⟩ w (hx.mem hw)) rfl rfl ?_
  iterate 4 refine G ?_
  refine H_cond rfl ?_ ?_<;>intro h2
  ·have hc:checkR r=3:=by unfold checkR;rw [if_neg (by rw [h1];decide),if_pos h2]
   rw [hc]
   iterate 8 refine G ?_
   exact ret1 (v:= .int _ _) rfl rfl rfl fun w' hw=>⟨rfl,hw.1⟩
  ·iterate 3 refine G ?_
   refine xC (en Tryz.call211 (ha1 (q0 rfl))) (fun _ w hw=>ordered_w ⟨r,ra⟩ w (hx.mem hw) hl hp) rfl rfl ?_
   iterate 4 refine G ?_
   refine H_cond rfl ?_ ?_<;>intro h3
   ·have hc:checkR r=9:=by unfold checkR;rw [if_neg (by rw [h1];decide),if_neg (by rw [h2];decide),if_pos h3]
    rw [hc]
    iterate 8 refine G ?_
    exact ret1 (v:= .int _ _) rfl rfl rfl fun w' hw=>⟨rfl,hw.1⟩
   ·have _ht:True:=trivial
    iterate 7 refine G ?_
    refine xVT (eP Tryz.isAgg187 Tryz.sizeOf187 (q1 rfl)) rfl rfl rfl rfl ?_
    refine xVT (EvG.any (e_build Tryz.underlying187 fl187 Tryz.zeroValue187 E.p0 rfl)) rfl rfl rfl rfl ?_
    refine xVT (e_neS (fun w=>eqSpn r.end_ zSpn w) (by kernel_rfl) (q1 rfl) (q1 rfl)) rfl rfl rfl rfl ?_
    iterate 4 refine G ?_
    refine H_cond rfl ?_ ?_<;>intro h4
    ·have hc:checkR r=12:=by unfold checkR;rw [if_neg (by rw [h1];decide),if_neg (by rw [h2];decide),if_neg (by rw [h3];decide),if_pos h4]
     rw [hc]
     iterate 2 refine G ?_
     refine H_cond rfl ?_ ?_<;>intro h5
     ·iterate 8 refine G ?_
      exact ret1 (v:= .int _ _) rfl rfl rfl fun w' hw=>⟨rfl,hw.1⟩
     ·rw [h4] at h5;cases h5
    ·iterate 6 refine G ?_
     refine xV (e_neb Tryz.underlying4 (q0 rfl) (q0 rfl)) rfl rfl ?_
     iterate 3 refine G ?_
     refine H_cond rfl ?_ ?_<;>intro h5
     ·have hc:checkR r=12:=by unfold checkR;rw [if_neg (by rw [h1];decide),if_neg (by rw [h2];decide),if_neg (by rw [h3];decide),if_neg (by rw [show _=false from h4];decide),if_pos h5]
      rw [hc]
      iterate 8 refine G ?_
      exact ret1 (v:= .int _ _) rfl rfl rfl fun w' hw=>⟨rfl,hw.1⟩
     ·have hc:checkR r=0:=by unfold checkR;rw [if_neg (by rw [h1];decide),if_neg (by rw [h2];decide),if_neg (by rw [h3];decide),if_neg (by rw [show _=false from h4];decide),if_neg (by rw [show _=false from h5];decide)]
      rw [hc]
      iterate 9 refine G ?_
      exact ret1 (v:= .int _ _) rfl rfl rfl fun w' hw=>⟨rfl,hw.1⟩
end Go.Proofs.Rid
namespace Go.Proofs.Far
open Go Go.RowKit Go.Proofs.E Go.Proofs.Cus Go.Proofs.Rid
theorem sure_w (x:RX) (w:World) (hx:RdAt w x) (h:checkR x.r=0) (ho:x.r.open_=false):Calls Tryz.prog 322 #[.agg x.cells.toArray] w fun e w'=>e= .returned (.tuple #[.agg (sureW x.r).cells.toArray, .int .i64 0])∧Bel w w':=by
 have hp:=checkR_parts h
 refine H_enter Tryz.func322 rfl Tryz.ntmps322 rfl ?_
 iterate 2 refine G ?_
 refine X_box (v:= .agg _) rfl rfl fun b1=>?_
 refine X_alloc Tryz.zeroValue153 rfl fun b2=>?_
 iterate 6 refine G ?_
 refine xC (en Tryz.call160 (ha1 (q0 rfl))) (fun _ w hw=>rcheck_w x w (hx.mem hw) (by omega) (by omega)) rfl rfl ?_
 rw [h]
 iterate 12 refine G ?_
 refine H_cond rfl ?_ ?_<;>intro h1
 ·exfalso;simp at h1
 ·iterate 7 refine G ?_
  refine H_cond rfl ?_ ?_<;>intro h2
  ·exfalso;rw [show x.r.open_=true from h2] at ho;cases ho
  ·have _ht:True:=trivial
   iterate 14 refine G ?_
   refine xV (e_maxM (q0 rfl) (q0 rfl)) rfl rfl ?_
   refine xV (e_build Tryz.underlying153 fl153 Tryz.zeroValue153 (pt (v:= .int _ _) rfl (pt (v:= .int _ _) rfl E.p0)) rfl) rfl rfl ?_
   refine X_st (v:= .agg _) rfl rfl Tryz.sizeOf153 ?_
   iterate 4 refine G ?_
   exact ret_of rfl (resc2 0 rfl rfl rfl Tryz.isAgg153 Tryz.sizeOf153 rfl rfl) fun w' hw=>⟨rfl,hw.1⟩
theorem sureZ_w (A:Option Addr) (n c:Nat) (l:List Pz) (w:World) (hx:SlAt w 4 Pz.cells A n l) (hn:n≤10000):Calls Tryz.prog 289 #[.slice A n c] w fun e w'=> ∃z:Option Addr×Nat,e= .returned (.slice z.1 (l.map sureZ).length z.2)∧Mem w [wnRow z.1 z.2 (l.map sureZ)] w':=by
 have hl:=hx.1
 refine H_enter Tryz.func289 rfl Tryz.ntmps289 rfl ?_
 iterate 6 refine G ?_
 refine H_mem (L':=[wnRow none 0 []]) (fun w hw=>hw.nilRow 153 2 Wn.cells rfl) rfl ?_
 iterate 13 refine G ?_
 refine H_loop [3,5,8,9,10,11,12,13,14,15,16,17,18,19,20,21,22,23,24,25,26] (fun q:Nat×Option Addr×Nat=>[(8, .int .i64 q.1),(3, .slice q.2.1 ((l.take q.1).map sureZ).length q.2.2)]) (fun q=>[wnRow q.2.1 q.2.2 ((l.take q.1).map sureZ)]) (fun q=>q.1≤n) (fun q=>n -q.1) (0,none,0) ⟨rfl,rfl,trivial⟩ (fun w hw=>hw) rfl (Nat.zero_le _) ?_
 rintro ⟨k,oA,oc⟩ g hk
 simp only at hk
 iterate 6 refine G ?_
 refine H_cond rfl ?_ ?_<;>intro hlt
 ·have hlt':k<n:=by simpa using hlt
  obtain ⟨b,off,p,rfl,hbl,hpk,hrp⟩:=hx.at_ hlt'
  have hs:(l.take (k+1)).map sureZ=(l.take k).map sureZ++[sureZ p]:=by rw [snocT _ _ _ hpk,List.map_append];rfl
  iterate 6 refine G ?_
  refine xV (e_idx _ Tryz.underlying369 Tryz.sizeOf248 (q0 rfl) (q0 rfl) (fun _=>⟨rfl,by omega⟩)) rfl rfl ?_
  refine G ?_
  refine X_alloc Tryz.zeroValue248 rfl fun b5=>?_
  refine X_st (v:= .agg _) rfl rfl Tryz.sizeOf248 ?_
  iterate 13 refine G ?_
  refine xV (e_maxM (q0 rfl) (q0 rfl)) rfl rfl ?_
  refine xV (e_build Tryz.underlying153 fl153 Tryz.zeroValue153 (pt (v:= .int _ _) rfl (pt (v:= .int _ _) rfl E.p0)) rfl) rfl rfl ?_
  refine X_push (k:=2) (i:=Tryz.t153) 1 ((sureZ p)) Tryz.underlying315 (by kernel_rfl) rfl rfl rfl rfl Tryz.sizeOf153 Tryz.zeroValue153 rfl rfl rfl rfl rfl rfl ⟨by simp only [List.length_map,List.length_take];omega,by decide⟩ rfl rfl fun B0 A1 c1=>?_
  iterate 8 refine G ?_
  refine loopJ_normal (k+1,A1,c1) agr ⟨rfl,by rw [hs];rfl,trivial⟩ (fun w hw=>by rw [hs];exact hw.tail) rfl (by simp only;omega) (by simp only;omega)
 ·have hend:k=n:=by simp at hlt;omega
  rw [hend,List.take_of_length_le (by omega)]
  iterate 12 refine G ?_
  exact ret1 (v:= .slice _ _ _) rfl rfl rfl fun w' hw=>⟨(oA,oc),rfl,hw⟩
theorem possZ_w (A:Option Addr) (n c:Nat) (l:List Pz) (w:World) (hx:SlAt w 4 Pz.cells A n l) (hn:n≤10000):Calls Tryz.prog 287 #[.slice A n c] w fun e w'=> ∃z:Option Addr×Nat,e= .returned (.slice z.1 (l.map possZ).length z.2)∧Mem w [wnRow z.1 z.2 (l.map possZ)] w':=by
 have hl:=hx.1
 refine H_enter Tryz.func287 rfl Tryz.ntmps287 rfl ?_
 iterate 6 refine G ?_
 refine H_mem (L':=[wnRow none 0 []]) (fun w hw=>hw.nilRow 153 2 Wn.cells rfl) rfl ?_
 iterate 13 refine G ?_
 refine H_loop [3,5,8,9,10,11,12,13,14,15,16,17,18,19,20,21,22,23,24,25,26] (fun q:Nat×Option Addr×Nat=>[(8, .int .i64 q.1),(3, .slice q.2.1 ((l.take q.1).map possZ).length q.2.2)]) (fun q=>[wnRow q.2.1 q.2.2 ((l.take q.1).map possZ)]) (fun q=>q.1≤n) (fun q=>n -q.1) (0,none,0) ⟨rfl,rfl,trivial⟩ (fun w hw=>hw) rfl (Nat.zero_le _) ?_
 rintro ⟨k,oA,oc⟩ g hk
 simp only at hk
 iterate 6 refine G ?_
 refine H_cond rfl ?_ ?_<;>intro hlt
 ·have hlt':k<n:=by simpa using hlt
  obtain ⟨b,off,p,rfl,hbl,hpk,hrp⟩:=hx.at_ hlt'
  have hs:(l.take (k+1)).map possZ=(l.take k).map possZ++[possZ p]:=by rw [snocT _ _ _ hpk,List.map_append];rfl
  iterate 6 refine G ?_
  refine xV (e_idx _ Tryz.underlying369 Tryz.sizeOf248 (q0 rfl) (q0 rfl) (fun _=>⟨rfl,by omega⟩)) rfl rfl ?_
  refine G ?_
  refine X_alloc Tryz.zeroValue248 rfl fun b5=>?_
  refine X_st (v:= .agg _) rfl rfl Tryz.sizeOf248 ?_
  iterate 13 refine G ?_
  refine xV (e_maxM (q0 rfl) (q0 rfl)) rfl rfl ?_
  refine xV (e_build Tryz.underlying153 fl153 Tryz.zeroValue153 (pt (v:= .int _ _) rfl (pt (v:= .int _ _) rfl E.p0)) rfl) rfl rfl ?_
  refine X_push (k:=2) (i:=Tryz.t153) 1 ((possZ p)) Tryz.underlying315 (by kernel_rfl) rfl rfl rfl rfl Tryz.sizeOf153 Tryz.zeroValue153 rfl rfl rfl rfl rfl rfl ⟨by simp only [List.length_map,List.length_take];omega,by decide⟩ rfl rfl fun B0 A1 c1=>?_
  iterate 8 refine G ?_
  refine loopJ_normal (k+1,A1,c1) agr ⟨rfl,by rw [hs];rfl,trivial⟩ (fun w hw=>by rw [hs];exact hw.tail) rfl (by simp only;omega) (by simp only;omega)
 ·have hend:k=n:=by simp at hlt;omega
  rw [hend,List.take_of_length_le (by omega)]
  iterate 12 refine G ?_
  exact ret1 (v:= .slice _ _ _) rfl rfl rfl fun w' hw=>⟨(oA,oc),rfl,hw⟩
theorem part_w (x:RX) (gC gW:Nat) (W R:List Wn) (pv:Value) (w:World) (hx:RdAt w x) (h:checkR x.r=0) (ho:x.r.open_=false) (eC: ∀args w,(callFunc gC args).run Tryz.prog w= .ok (.enter gC args) w) (eW: ∀args w,(callFunc gW args).run Tryz.prog w= .ok (.enter gW args) w)
  (hW: ∀w,RdAt w x→Calls Tryz.prog gW #[pv] w fun e w'=> ∃z:Option Addr×Nat,e= .returned (.slice z.1 W.length z.2)∧Mem w [wnRow z.1 z.2 W] w')
  (hC: ∀(A:Option Addr) (c:Nat) (B:Option Addr) (d:Nat) (w:World),WnsAt w A 1 [sureW x.r]→WnsAt w B W.length W→Calls Tryz.prog gC #[.slice A 1 c, .slice B W.length d] w fun e w'=> ∃z:Option Addr×Nat,e= .returned (.tuple #[.slice z.1 R.length z.2, .int .i64 0])∧Mem w [wnRow z.1 z.2 R] w') (hWl:W.length≤10000):
  Calls Tryz.prog 285 #[.agg x.cells.toArray, .func (.func gC) #[] #[], .func (.func gW) #[pv] #[]] w fun e w'=> ∃z:Option Addr×Nat,e= .returned (.tuple #[.slice z.1 R.length z.2, .int .i64 0])∧Mem w [wnRow z.1 z.2 R] w':=by
 refine H_enter Tryz.func285 rfl Tryz.ntmps285 rfl ?_
 iterate 2 refine G ?_
 refine X_box (v:= .agg _) rfl rfl fun b3=>?_
 iterate 7 refine G ?_
 refine xC (en Tryz.call322 (ha1 (q0 rfl))) (fun _ w hw=>sure_w x w (hx.mem hw) h ho) rfl rfl ?_
 iterate 3 refine G ?_
 refine X_alloc Tryz.zeroValue153 rfl fun b8=>?_
 refine X_st (v:= .agg _) rfl rfl Tryz.sizeOf153 ?_
 iterate 10 refine G ?_
 refine H_cond rfl ?_ ?_<;>intro h1
 ·exfalso;simp at h1
 ·have _ht:True:=trivial
  iterate 3 refine G ?_
  refine H_cut [6,7,18,19,20,21,22,23,24,25] (fun z:Option Addr×Nat=>[(6, .slice z.1 R.length z.2),(7, .int .i64 0)]) (fun z=>[wnRow z.1 z.2 R]) (fun _=>True) ?_ ?_
  ·refine RA rfl (by decide+kernel) ?_
   refine aW 0 ?_
   refine aW 1 ?_
   refine aW 3 ?_
   refine rdy2 (i:=2) (j:=4) (by decide+kernel) (sub_drop 0) ?_ ?_
   ·refine aL rfl (f_slit [(.int .i64 0),(.int .i64 0)] Tryz.underlying315 Tryz.sizeOf153 Tryz.zeroValue153 rfl (by kernel_rfl) (pt (v:= .agg _) rfl E.p0) rfl rfl fun b20=>?_)
    refine r1 4 1 ?_
    refine aL rfl (f_callx (enB (bd:=[pv]) (al:=[pv]) eW (q0 rfl) (fun hg=>by rw [ha0 hg];rfl)) (fun w hw=>hW w (hx.mem hw)) rfl (fun _=>rfl) fun z4=>?_)
    refine aI 1 ?_
    refine r1 5 2 ?_
    refine aL rfl (f_callx (enV (cap:=[]) (al:=[.slice (some ⟨b20,0,none⟩) 1 1, .slice z4.1 W.length z4.2]) eC (q0 rfl) (fun hg=>by rw [ha2 (q0 (v:= .slice _ _ _) rfl) (q0 (v:= .slice _ _ _) rfl) hg];rfl)) (fun w hw=>hC _ _ _ _ w (slAt_box (enc:=Wn.cells) (xs:=[sureW x.r]) hw (j:=0) rfl (fun _=>rfl) (by simp)) (slAt_row hw (j:=1) rfl (fun _=>rfl) (by omega))) rfl (fun _=>rfl) fun z5=>?_)
    refine aI 2 ?_
    refine aRL (sub_drop 3) ?_
    refine aW 6 ?_
    refine aW 7 ?_
    refine aW 8 ?_
    refine aW 9 ?_
    refine aZ (by decide+kernel) (sub_drop 0) ?_
    exact cutJ_normal (z5:Option Addr×Nat) agr ⟨rfl,rfl,trivial⟩ (fun w hw=>hw.pick [2] (by decide)) rfl trivial
   ·refine aL rfl (f_callx (enB (bd:=[pv]) (al:=[pv]) eW (q0 rfl) (fun hg=>by rw [ha0 hg];rfl)) (fun w hw=>hW w (hx.mem hw)) rfl (fun _=>rfl) fun z4=>?_)
    refine r1 2 1 ?_
    refine aL rfl (f_slit [(.int .i64 0),(.int .i64 0)] Tryz.underlying315 Tryz.sizeOf153 Tryz.zeroValue153 rfl (by kernel_rfl) (pt (v:= .agg _) rfl E.p0) rfl rfl fun b20=>?_)
    refine r1 5 2 ?_
    refine aL rfl (f_callx (enV (cap:=[]) (al:=[.slice (some ⟨b20,0,none⟩) 1 1, .slice z4.1 W.length z4.2]) eC (q0 rfl) (fun hg=>by rw [ha2 (q0 (v:= .slice _ _ _) rfl) (q0 (v:= .slice _ _ _) rfl) hg];rfl)) (fun w hw=>hC _ _ _ _ w (slAt_box (enc:=Wn.cells) (xs:=[sureW x.r]) hw (j:=0) rfl (fun _=>rfl) (by simp)) (slAt_row hw (j:=1) rfl (fun _=>rfl) (by omega))) rfl (fun _=>rfl) fun z5=>?_)
    refine aI 2 ?_
    refine aRL (sub_drop 3) ?_
    refine aW 6 ?_
    refine aW 7 ?_
    refine aW 8 ?_
    refine aW 9 ?_
    refine aZ (by decide+kernel) (sub_drop 0) ?_
    exact cutJ_normal (z5:Option Addr×Nat) agr ⟨rfl,rfl,trivial⟩ (fun w hw=>hw.pick [2] (by decide)) rfl trivial
  ·rintro z5 g5 _
   iterate 2 refine G ?_
   exact ret2 (v:= .slice _ _ _) (x:= .int _ _) rfl rfl rfl rfl fun w' hw=>⟨z5,rfl,hw⟩
attribute [local irreducible] ridW pauW
theorem ipausing_w (x:RX) (w:World) (hx:RdAt w x) (h:checkR x.r=0) (ho:x.r.open_=false):Calls Tryz.prog 228 #[.agg x.cells.toArray] w fun e w'=> ∃z:Option Addr×Nat,e= .returned (.tuple #[.slice z.1 (pauW x.r).length z.2, .int .i64 0])∧Mem w [wnRow z.1 z.2 (pauW x.r)] w':=by
 have hp:=checkR_parts h
 refine H_enter Tryz.func228 rfl Tryz.ntmps228 rfl ?_
 iterate 2 refine G ?_
 refine X_box (v:= .agg _) rfl rfl fun b1=>?_
 iterate 9 refine G ?_
 refine xV (e_fnB (q0 (v:= .slice _ _ _) rfl)) rfl rfl ?_
 refine xCX (en Tryz.call285 (ha3 (q0 rfl) (q0 rfl) (q0 rfl))) (fun w hw=>part_w x 288 289 (x.r.pauses.map sureZ) (pauW x.r) (.slice x.a.pA x.r.pauses.length x.a.pc) w (hx.mem hw) h ho Tryz.call288 Tryz.call289 (fun w hx=>sureZ_w x.a.pA x.r.pauses.length x.a.pc x.r.pauses w hx.pauses (by omega)) (fun A c B d w h1 h2=>by unfold pauW;exact common_w A c (sureW x.r) B (x.r.pauses.map sureZ).length d (x.r.pauses.map sureZ) w h1 h2 (by simp;omega) (sureW_ok h) (sureZ_ok h)) (by simp;omega)) rfl (fun _=>rfl) fun z=>?_
 iterate 7 refine G ?_
 exact ret2 (v:= .slice _ _ _) (x:= .int _ _) rfl rfl rfl rfl fun w' hw=>⟨z,rfl,hw.pick [0] (by decide)⟩
theorem iriding_w (x:RX) (w:World) (hx:RdAt w x) (h:checkR x.r=0) (ho:x.r.open_=false):Calls Tryz.prog 227 #[.agg x.cells.toArray] w fun e w'=> ∃z:Option Addr×Nat,e= .returned (.tuple #[.slice z.1 (ridW x.r).length z.2, .int .i64 0])∧Mem w [wnRow z.1 z.2 (ridW x.r)] w':=by
 have hp:=checkR_parts h
 refine H_enter Tryz.func227 rfl Tryz.ntmps227 rfl ?_
 iterate 2 refine G ?_
 refine X_box (v:= .agg _) rfl rfl fun b1=>?_
 iterate 9 refine G ?_
 refine xV (e_fnB (q0 (v:= .slice _ _ _) rfl)) rfl rfl ?_
 refine xCX (en Tryz.call285 (ha3 (q0 rfl) (q0 rfl) (q0 rfl))) (fun w hw=>part_w x 286 287 (x.r.pauses.map possZ) (ridW x.r) (.slice x.a.pA x.r.pauses.length x.a.pc) w (hx.mem hw) h ho Tryz.call286 Tryz.call287 (fun w hx=>possZ_w x.a.pA x.r.pauses.length x.a.pc x.r.pauses w hx.pauses (by omega)) (fun A c B d w h1 h2=>by unfold ridW;exact minus_w A c (sureW x.r) B (x.r.pauses.map possZ).length d (x.r.pauses.map possZ) w h1 h2 (by simp;omega) (sureW_ok h) (possZ_ok h)) (by simp;omega)) rfl (fun _=>rfl) fun z=>?_
 iterate 7 refine G ?_
 exact ret2 (v:= .slice _ _ _) (x:= .int _ _) rfl rfl rfl rfl fun w' hw=>⟨z,rfl,hw.pick [0] (by decide)⟩
theorem seconds_w (x:RX) (w:World) (hx:RdAt w x) (h:checkR x.r=0) (ho:x.r.open_=false):Calls Tryz.prog 166 #[.agg x.cells.toArray] w fun e w'=>e= .returned (.tuple #[.int .i64 (ridS x.r), .int .i64 (pauS x.r), .int .i64 0])∧Bel w w':=by
 have hr:=ridW_len h
 have hp:=pauW_len h
 have hr2:=ridW_ok h
 have hp2:=pauW_ok h
 refine H_enter Tryz.func166 rfl Tryz.ntmps166 rfl ?_
 iterate 2 refine G ?_
 refine X_box (v:= .agg _) rfl rfl fun b1=>?_
 iterate 8 refine G ?_
 refine xCX (en Tryz.call227 (ha1 (q0 rfl))) (fun w hw=>iriding_w x w (hx.mem hw) h ho) rfl (fun _=>rfl) fun z1=>?_
 iterate 14 refine G ?_
 refine H_cond rfl ?_ ?_<;>intro h1
 ·exfalso;simp at h1
 ·iterate 5 refine G ?_
  refine xCX (en Tryz.call228 (ha1 (q0 rfl))) (fun w hw=>ipausing_w x w (hx.mem hw) h ho) rfl (fun _=>rfl) fun z2=>?_
  iterate 14 refine G ?_
  refine H_cond rfl ?_ ?_<;>intro h2
  ·exfalso;simp at h2
  ·iterate 5 refine G ?_
   refine xC (en Tryz.call229 (ha1 (q0 rfl))) (fun _ w hw=>length_w z1.1 (ridW x.r).length z1.2 (ridW x.r) w (slAt_row hw (j:=1) rfl (fun _=>rfl) (by omega)) (by omega) hr2) rfl rfl ?_
   iterate 14 refine G ?_
   refine H_cond rfl ?_ ?_<;>intro h3
   ·exfalso;simp at h3
   ·iterate 5 refine G ?_
    refine xC (en Tryz.call229 (ha1 (q0 rfl))) (fun _ w hw=>length_w z2.1 (pauW x.r).length z2.2 (pauW x.r) w (slAt_row hw (j:=0) rfl (fun _=>rfl) (by omega)) (by omega) hp2) rfl rfl ?_
    iterate 14 refine G ?_
    refine H_cond rfl ?_ ?_<;>intro h4
    ·exfalso;simp at h4
    ·iterate 12 refine G ?_
     exact ret3 (v:= .int _ _) (x:= .int _ _) (z:= .int _ _) rfl rfl rfl rfl rfl fun w' hw=>⟨rfl,hw.1⟩
end Go.Proofs.Far
