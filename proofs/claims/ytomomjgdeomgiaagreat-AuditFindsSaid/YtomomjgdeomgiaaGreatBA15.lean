import Derived.Test.YtomomjgdeomgiaaGreatBA14
import Derived.Test.YtomomjgdeomgiaaGreatRows
import Derived.ProofKit
import Derived.ChangeSame
import Derived.Deep.Slices
import Derived.OpenShut
set_option maxRecDepth 100000
set_option maxHeartbeats 8000000
set_option linter.all false
namespace Go.Proofs.Aud
open Go Go.RowKit Go.Proofs.E Go.Proofs.Cus Go.Proofs.Rid Go.Proofs.Far Go.Proofs.Net
theorem OK (w:World):Calls Tryz.prog 417 #[.agg #[.int .i64 0, .slice none 0 0]] w λe w'=>e= .returned (.int .i64 1)/\fM w w':=by
 refine dd Tryz.func417 rfl Tryz.ntmps417 rfl ?_
 refine ak ?_
 refine R0 ?_
 refine cd (v:= .agg _) rfl rfl λb1=>?_
 refine xV (aU (v:= .int _ _) (q0 rfl)) rfl rfl ?_
 refine XN ?_
 refine ad ?_
 refine ak ?_
 refine ak ?_
 refine R0 ?_
 refine xV (az r8 rfl ae rfl (q0 rfl)) rfl rfl ?_
 refine xV (eL aj (q0 rfl)) rfl rfl ?_
 refine xV (gK (q0 rfl) (q0 rfl)) rfl rfl ?_
 refine xV (ay (v:= .bool _) (q0 rfl)) rfl rfl ?_
 refine fE (az r8 rfl ae rfl (q0 rfl)) rfl rfl rfl rfl ?_
 refine fE (eL aj (q1 rfl)) rfl rfl rfl rfl ?_
 refine fE (uY (q1 rfl) (q0 rfl)) rfl rfl rfl rfl ?_
 refine xV (jJ (q0 rfl) rfl (λh=>by first|rfl|(rw [h];rfl))) rfl rfl ?_
 refine XN ?_
 refine ad ?_
 refine bD rfl (λh1=>?_) (λh1=>?_)
 ·refine ak ?_
  refine R0 ?_
  refine xV (aU (v:= .int _ _) (q0 rfl)) rfl rfl ?_
  refine XN ?_
  refine ad ?_
  refine dq ?_
  refine cw ?_
  exact cu (v:= .int _ _) rfl rfl rfl λw' hw=>⟨rfl,hw.1⟩
 exfalso;simp at h1
theorem MI (w:World):Calls Tryz.prog 412 #[.agg #[.int .i64 0, .slice none 0 0, .slice none 0 0, .slice none 0 0, .int .i64 0]] w λe w'=>e= .returned (.int .i64 1)/\fM w w':=by
 refine dd Tryz.func412 rfl Tryz.ntmps412 rfl ?_
 refine ak ?_
 refine R0 ?_
 refine cd (v:= .agg _) rfl rfl λb1=>?_
 refine xV (aU (v:= .int _ _) (q0 rfl)) rfl rfl ?_
 refine XN ?_
 refine ad ?_
 refine ak ?_
 refine ak ?_
 refine R0 ?_
 refine xV (az kF rfl QB rfl (q0 rfl)) rfl rfl ?_
 refine xV (eP Tryz.isAgg31 QB (q0 rfl)) rfl rfl ?_
 refine xC (en Tryz.call417 (iQ (q0 rfl))) (λ_ w _=>OK w) rfl rfl ?_
 refine xV (aU (v:= .int _ _) (q0 rfl)) rfl rfl ?_
 refine XN ?_
 refine ad ?_
 refine ak ?_
 refine R0 ?_
 refine xV (ay (v:= .int _ _) (q0 rfl)) rfl rfl ?_
 refine xV (ki (q0 rfl) (q0 rfl)) rfl rfl ?_
 refine XN ?_
 refine ad ?_
 refine bD rfl (λh1=>?_) (λh1=>?_)
 ·refine ak ?_
  refine R0 ?_
  refine xV (ay (v:= .int _ _) (q0 rfl)) rfl rfl ?_
  refine xV (aU (v:= .int _ _) (q0 rfl)) rfl rfl ?_
  refine XN ?_
  refine ad ?_
  refine dq ?_
  refine cw ?_
  exact cu (v:= .int _ _) rfl rfl rfl λw' hw=>⟨rfl,hw.1⟩
 exfalso;simp at h1
theorem Pm (q:Sl×Sl) (w:World):Calls Tryz.prog 411 #[.agg #[.int .i64 0, .slice none 0 0, .slice none 0 0, .slice none 0 0, .int .i64 0], .agg (BH q).toArray] w λe w'=>e= .returned (.int .i64 1)/\fM w w':=by
 obtain ⟨⟨rA,rn,rc⟩,⟨lA,ln,lc⟩⟩:=q
 refine dd Tryz.func411 rfl Tryz.ntmps411 rfl ?_
 refine ak ?_
 refine R0 ?_
 refine cd (v:= .agg _) rfl rfl λb2=>?_
 refine cd (v:= .agg _) rfl rfl λb3=>?_
 refine xV (aU (v:= .int _ _) (q0 rfl)) rfl rfl ?_
 refine XN ?_
 refine ad ?_
 refine ak ?_
 refine ak ?_
 refine R0 ?_
 refine xV (eS Tryz.isAgg35 ui (q0 rfl)) rfl rfl ?_
 refine xC (en Tryz.call412 (iQ (q0 rfl))) (λ_ w _=>MI w) rfl rfl ?_
 refine xV (aU (v:= .int _ _) (q0 rfl)) rfl rfl ?_
 refine XN ?_
 refine ad ?_
 refine ak ?_
 refine R0 ?_
 refine xV (ay (v:= .int _ _) (q0 rfl)) rfl rfl ?_
 refine xV (ki (q0 rfl) (q0 rfl)) rfl rfl ?_
 refine XN ?_
 refine ad ?_
 refine bD rfl (λh1=>?_) (λh1=>?_)
 ·refine ak ?_
  refine R0 ?_
  refine xV (ay (v:= .int _ _) (q0 rfl)) rfl rfl ?_
  refine xV (aU (v:= .int _ _) (q0 rfl)) rfl rfl ?_
  refine XN ?_
  refine ad ?_
  refine dq ?_
  refine cw ?_
  exact cu (v:= .int _ _) rfl rfl rfl λw' hw=>⟨rfl,hw.1⟩
 exfalso;simp at h1
theorem QT (t:Int) (s:Int) (fs:List jq) (pd:List Py) (l:List Fd) (h:N4 s fs pd=l) (ht:iH uv zK (vT t)=[]) (hk:(mJ uv.cI (vT t) 0 λ_=>0)=[]) (ho:lU (lU l)=l):AF uv yy zK (vT t) [DT] fs pd s 0 0=l:=by
 have h2:RF uv yy zK s [DT] fs pd=l:=h
 have h3:ko 0 0 0=[]:=by decide
 have e:lU ([]:List Fd)=[]:=rfl
 unfold AF
 rw [h2,ht,hk,h3,e,ir,bF,bF]
 exact ho
theorem Oq (t:Int) (n:Nat) (pe:Nat->Int):mJ uv.cI (vT t) n pe=Ee pe n:=by
 unfold mJ w4
 rw [show (vT t).flatMap (J2 uv.cI (vT t))=[] by simp [vT,J2]]
 rfl
section
variable {u:World} {z:TZ} {P:Option Addr} {c:Nat}
theorem UG (h: ∀it∈DU z 1600 P c [nB],it.A u):jc 19 (Bk z 0 1601 ⟨iy z.f,1,1⟩ ⟨P,1,c⟩ bX bX) [] u:=by
 have h2:=CA (x:=qw 0) (zJ (s:=1601) h bX bX (by decide)) rfl rfl rfl
 have e:AF uv yy zK (vT 1600) ([CM z].map (·.r)) ([DV z].map (·.b)) [nB] 1601 0 0=[]:=QT 1600 1601 [G5] [nB] _ SU LV (Oq _ _ _) rfl
 rw [show (DW z 1601 ⟨iy z.f,1,1⟩ ⟨P,[nB].length,c⟩ bX bX).settled=1601 from rfl,show (qw 0).each=0 from rfl,show (qw 0).kB=0 from rfl,e] at h2
 exact h2
theorem UF (h: ∀it∈DU z 1600 P c [nB,nB],it.A u):jc 19 (Bk z 0 1601 ⟨iy z.f,1,1⟩ ⟨P,2,c⟩ bX bX) [⟨6,7,1⟩] u:=by
 have h2:=CA (x:=qw 0) (zJ (s:=1601) h bX bX (by decide)) rfl rfl rfl
 have e:AF uv yy zK (vT 1600) ([CM z].map (·.r)) ([DV z].map (·.b)) [nB,nB] 1601 0 0=[⟨6,7,1⟩]:=QT 1600 1601 [G5] [nB,nB] _ SS LV (Oq _ _ _) rfl
 rw [show (DW z 1601 ⟨iy z.f,1,1⟩ ⟨P,[nB,nB].length,c⟩ bX bX).settled=1601 from rfl,show (qw 0).each=0 from rfl,show (qw 0).kB=0 from rfl,e] at h2
 exact h2
theorem UC (h: ∀it∈DU z 1600 P c [nB],it.A u):jc 19 (Bk z 0 1601 ⟨iy z.f,1,1⟩ bX bX bX) [⟨7,7,0⟩] u:=by
 have q:=zJ (s:=1601) h bX bX (by decide)
 have h2:=CA (x:=qw 0) (b:=DW z 1601 ⟨iy z.f,1,1⟩ bX bX bX) (pds:=[]) ⟨q.fl,q.pr,q.ev,q.sy,q.rd,q.fr,tL,rfl,rfl,q.ok,q.pl,q.sz.1,q.sz.2.1,q.sz.2.2.1,q.sz.2.2.2.1,by decide⟩ rfl rfl rfl
 have e:AF uv yy zK (vT 1600) ([CM z].map (·.r)) ([DV z].map (·.b)) [] 1601 0 0=[⟨7,7,0⟩]:=QT 1600 1601 [G5] [] _ SP LV (Oq _ _ _) rfl
 rw [show (DW z 1601 ⟨iy z.f,1,1⟩ bX bX bX).settled=1601 from rfl,show (qw 0).each=0 from rfl,show (qw 0).kB=0 from rfl,e] at h2
 exact h2
theorem UE (h: ∀it∈DU z 1600 P c [nB],it.A u):jc 15 (Bk z 0 1602 ⟨iy z.f,1,1⟩ ⟨P,1,c⟩ bX bX) [⟨8,0,-1⟩] u:=by
 have h2:=Mp (x:=qw 0) (zJ (s:=1602) h bX bX (by decide))
 have e:RF uv yy zK 1602 ([CM z].map (·.r)) ([DV z].map (·.b)) [nB]=[⟨8,0,-1⟩]:=SR
 rw [show (DW z 1602 ⟨iy z.f,1,1⟩ ⟨P,[nB].length,c⟩ bX bX).settled=1602 from rfl,e] at h2
 exact h2
theorem UD (h: ∀it∈DU z 1600 P c [nB],it.A u):jc 15 (Bk z 0 0 bX ⟨P,1,c⟩ bX bX) [⟨8,7,0⟩] u:=by
 have q:=zJ (s:=0) h bX bX (by decide)
 have h2:=Mp (x:=qw 0) (b:=DW z 0 bX ⟨P,1,c⟩ bX bX) (ys:=[]) ⟨q.fl,q.pr,q.ev,q.sy,q.rd,⟨tL,λy hy=>by cases hy⟩,q.pd,rfl,rfl,q.ok,q.pl,q.sz.1,q.sz.2.1,q.sz.2.2.1,by decide,q.sz.2.2.2.2⟩
 have e:RF uv yy zK 0 ([CM z].map (·.r)) (([]:List FX).map (·.b)) [nB]=[⟨8,7,0⟩]:=SQ
 rw [show (DW z 0 bX ⟨P,1,c⟩ bX bX).settled=0 from rfl,e] at h2
 exact h2
theorem TW {s:Sl} {r:Sl} (h: ∀it∈DU z 1500 P c [nB],it.A u):jc 11 (Bk z 2 1601 ⟨iy z.f,1,1⟩ ⟨P,1,c⟩ r s) [⟨1,0,2⟩,⟨2,0,0⟩] u:=by
 have h2:=Qi (x:=qw 2) (zJ (s:=1601) h r s (by decide))
 rw [SZ] at h2
 exact h2
theorem TV {s:Sl} {r:Sl} {pl:List (Sl×Sl)} (h: ∀it∈DU z 1500 P c [nB],it.A u) (hs:eG u 2 BH s.A s.n pl) (hl:pl.length=1):jc 13 (Bk z 2 1601 ⟨iy z.f,1,1⟩ ⟨P,1,c⟩ r s) [⟨12,0,0⟩] u:=by
 have h2:=Qa (x:=qw 2) (zJ (s:=1601) h r s (by decide)) pl (λ_=>1) hs (by omega) λi q _ u=>Pm q u
 rw [Oq,hl] at h2
 exact h2
theorem TU {s:Sl} {r:Sl} {rl:List Int} (h: ∀it∈DU z 1500 P c [nB],it.A u) (hr:eG u 10 Q9 r.A r.n rl) (hl:rl.length=1):jc 17 (Bk z 2 1601 ⟨iy z.f,1,1⟩ ⟨P,1,c⟩ r s) [⟨10,0,-1⟩,⟨11,0,0⟩] u:=by
 have h2:=Qb (x:=qw 2) (zJ (s:=1601) h r s (by decide)) rl hr rfl (by omega)
 rw [hl] at h2
 exact h2
end
end Go.Proofs.Aud
namespace Go.Proofs.Aud
open Go Go.RowKit Go.Proofs.E Go.Proofs.Cus Go.Proofs.Rid Go.Proofs.Far Go.Proofs.Net
theorem Us {fs:Array Field} (h:Tryz.prog.underlying 91=some (.struct fs):=by exact G8):df Tryz.prog fs [(0,1),(1,1)]:=by
 rw [G8] at h
 cases h
 intro w
 kernel_rfl
abbrev tV (z:TZ):List Value:=Bk z 0 1601 ⟨iy z.f,1,1⟩ ⟨iy z.p,1,1⟩ bX bX
def vB (z:TZ) (P:Option Addr) (c:Nat):List Value:=Bk z 0 1601 ⟨iy z.f,1,1⟩ ⟨P,2,c⟩ bX bX
def vC (z:TZ):List Value:=Bk z 0 1602 ⟨iy z.f,1,1⟩ ⟨iy z.p,1,1⟩ bX bX
def vD (z:TZ):List Value:=Bk z 0 0 bX ⟨iy z.p,1,1⟩ bX bX
def vN (z:TZ):List Value:=Bk z 0 1601 ⟨iy z.f,1,1⟩ bX bX bX
abbrev uH (b:Nat) (z:TZ):E.Item:=box b 56 (tV z)
abbrev tv (z:TZ):E.Item:=jK (DU z 1600 (iy z.p) 1 [nB])
def toM (z:TZ) (t:Int):List E.Item:=[kE (iy z.f) 1 [DV z],rz (iy z.i) 2 G5.items,eI (iy z.r) 1 [CM z],uf (iy z.l) 1 DT.db,iE (iy z.s) 4 (vT t),gY (iy z.e) 4 zK,dS 139 6 Tf.cells (iy z.t) 1 yy.jU]
theorem mU {w0 w:World} {L T:List E.Item} (hw:Mem w0 L w) (k:Nat) (hk:L[k]?=some (jK T)): ∀it∈T,it.A w:=(hw.item hk).1
theorem xX (w:World):Calls Tryz.prog 9 #[] w λe w'=>e= .returned (.bool true)/\fM w w':=by
 refine dd Tryz.func9 rfl Tryz.ntmps9 rfl ?_
 refine ak ?_
 refine R0 ?_
 refine xV (aU (v:= .bool _) (q0 rfl)) rfl rfl ?_
 refine XN ?_
 refine ad ?_
 refine ak ?_
 refine R0 ?_
 refine oD (en yl (H4)) (λw _=>yx w) rfl (λ_=>rfl) λza=>?_
 refine oD (en yl (H4)) (λw _=>yx w) rfl (λ_=>rfl) λzb=>?_
 refine oD (en yl (H4)) (λw _=>yx w) rfl (λ_=>rfl) λzc=>?_
 refine oD (en yl (H4)) (λw _=>yx w) rfl (λ_=>rfl) λzd=>?_
 refine oD (en yl (H4)) (λw _=>yx w) rfl (λ_=>rfl) λze=>?_
 refine bS fN rfl λb1=>?_
 refine bS fN rfl λb2=>?_
 refine bS fN rfl λb3=>?_
 refine bS fN rfl λb4=>?_
 refine bS fN rfl λb5=>?_
 refine dN (k:=4) (v:= .agg (tV za).toArray) rfl rfl aM ?_;refine fJ (cs2:=tV za) (by kernel_rfl) ?_
 refine dN (k:=3) (v:= .agg (tV zb).toArray) rfl rfl aM ?_;refine fJ (cs2:=tV zb) (by kernel_rfl) ?_
 refine dN (k:=2) (v:= .agg (tV zc).toArray) rfl rfl aM ?_;refine fJ (cs2:=tV zc) (by kernel_rfl) ?_
 refine dN (k:=1) (v:= .agg (tV zd).toArray) rfl rfl aM ?_;refine fJ (cs2:=tV zd) (by kernel_rfl) ?_
 refine dN (k:=0) (v:= .agg (tV ze).toArray) rfl rfl aM ?_;refine fJ (cs2:=tV ze) (by kernel_rfl) ?_
 refine XN ?_
 refine ad ?_
 refine ak ?_
 refine jb (L':=[mP (iy zb.p) 1 [nB],uH b2 zb,uH b5 ze,uH b4 zd,uH b3 zc,uH b1 za,tv ze,tv zd,tv zc,tv za,jK (toM zb 1600)]) (λw hw=>by
  have h1:Mem _ [uH b5 ze,uH b4 zd,uH b3 zc,uH b2 zb,uH b1 za,tv ze,tv zd,tv zc,tv zb,tv za] w:=hw
  have h2:=(h1.pick [8,3,0,1,2,4,5,6,7,9] (by decide)).uF (T:=DU zb 1600 (iy zb.p) 1 [nB]) (L:=[uH b2 zb,uH b5 ze,uH b4 zd,uH b3 zc,uH b1 za,tv ze,tv zd,tv zc,tv za])
  have h3:=(h2.pick [1,2,3,4,5,6,7,0,8,9,10,11,12,13,14,15,16] (by decide)).jK (T:=toM zb 1600) (L:=[mP (iy zb.p) 1 [nB],uH b2 zb,uH b5 ze,uH b4 zd,uH b3 zc,uH b1 za,tv ze,tv zd,tv zc,tv za])
  exact h3.pick [1,2,3,4,5,6,7,8,9,10,0] (by decide)) rfl ?_
 refine ke [12,13,14,15,16,17,18,19,20,21,22,23] (λ_:Option Addr×Nat=>[]) (λq=>[mP q.1 q.2 [nB,nB],box b2 56 (Bk zb 0 1601 ⟨iy zb.f,1,1⟩ ⟨q.1,2,q.2⟩ bX bX),uH b5 ze,uH b4 zd,uH b3 zc,uH b1 za,tv ze,tv zd,tv zc,tv za,jK (toM zb 1600)]) (λ_=>True) ?_ ?_
 ·refine Lj 2 rfl (by decide+kernel) ?_
  refine aV 0 (by decide+kernel) rfl (az ax rfl gJ rfl (q0 rfl)) rfl ?_
  refine aV 1 (by decide+kernel) rfl (az dZ rfl eK rfl (q0 rfl)) rfl ?_
  refine aV 3 (by decide+kernel) rfl (az ax rfl gJ rfl (q0 rfl)) rfl ?_
  refine aV 4 (by decide+kernel) rfl (az dZ rfl eK rfl (q0 rfl)) rfl ?_
  refine lS (i:=2) (j:=5) (by decide+kernel) (au 2) ?_ ?_
  ·refine aL rfl (kA (gB (v:= .slice (iy zb.p) 1 1) kD (q0 rfl) (by first|exact bx 1 rfl rfl|exact bx 2 rfl rfl)) rfl rfl ?_)
   refine eu (i:=5) (by decide+kernel) (au 2) ?_
   refine aL rfl (kA (gB (v:= .slice (iy zb.p) 1 1) kD (q0 rfl) (by first|exact bx 1 rfl rfl|exact bx 2 rfl rfl)) rfl rfl ?_)
   refine aV 6 (by decide+kernel) rfl (cx 0 bM eB (q0 rfl) (q0 rfl) (λ_=>⟨rfl,by decide⟩)) rfl ?_
   refine eu (i:=7) (by decide+kernel) (au 2) ?_
   refine aL rfl (kA (iV AZ eB (q0 rfl) (by first|exact sP 0 (enc:=rT) (i:=0) rfl (x:=nB) rfl|exact sP 1 (enc:=rT) (i:=0) rfl (x:=nB) rfl) rfl) rfl rfl ?_)
   refine eu (i:=8) (by decide+kernel) (au 2) ?_
   refine aL rfl (ey [(.int .i64 0),(.int .i64 0),(.int .i64 0)] bM eB js rfl (by kernel_rfl) (pt (v:= .agg _) rfl E.p0) rfl rfl λb20=>?_)
   refine eu (i:=9) (by decide+kernel) (au 3) ?_
   refine aL rfl (dj (k:=3) (i:=Tryz.t96) (enc:=rT) (xs:=[nB]) 1 bM (by kernel_rfl) rfl rfl rfl rfl (λ_=>rfl) (λ_=>rfl) rfl rfl rfl (λw hw=>fj (enc:=rT) (xs:=[nB]) hw (j:=0) rfl (λ_=>rfl) (by simp)) ⟨by simp,by decide⟩ rfl λA7 c7=>?_)
   refine aV 10 (by decide+kernel) rfl (az ax rfl gJ rfl (q0 rfl)) rfl ?_
   refine aV 11 (by decide+kernel) rfl (az dZ rfl eK rfl (q0 rfl)) rfl ?_
   refine eu (i:=12) (by decide+kernel) (au 3) ?_
   refine aL rfl (mB (v:= .slice _ _ _) rfl rfl eK ?_)
   refine aZ (by decide+kernel) (au 3) ?_
   exact aO ((A7,c7):Option Addr×Nat) (by repeat (first|exact aK|exact aN|refine a8 rfl ?_|refine aJ rfl ?_|refine aD rfl ?_)) trivial (λw hw=>hw.tail) rfl trivial
  refine aL rfl (kA (gB (v:= .slice (iy zb.p) 1 1) kD (q0 rfl) (by first|exact bx 1 rfl rfl|exact bx 2 rfl rfl)) rfl rfl ?_)
  refine aV 6 (by decide+kernel) rfl (cx 0 bM eB (q0 rfl) (q0 rfl) (λ_=>⟨rfl,by decide⟩)) rfl ?_
  refine lS (i:=2) (j:=7) (by decide+kernel) (au 2) ?_ ?_
  ·refine aL rfl (kA (gB (v:= .slice (iy zb.p) 1 1) kD (q0 rfl) (by first|exact bx 1 rfl rfl|exact bx 2 rfl rfl)) rfl rfl ?_)
   refine eu (i:=7) (by decide+kernel) (au 2) ?_
   refine aL rfl (kA (iV AZ eB (q0 rfl) (by first|exact sP 0 (enc:=rT) (i:=0) rfl (x:=nB) rfl|exact sP 1 (enc:=rT) (i:=0) rfl (x:=nB) rfl) rfl) rfl rfl ?_)
   refine eu (i:=8) (by decide+kernel) (au 2) ?_
   refine aL rfl (ey [(.int .i64 0),(.int .i64 0),(.int .i64 0)] bM eB js rfl (by kernel_rfl) (pt (v:= .agg _) rfl E.p0) rfl rfl λb20=>?_)
   refine eu (i:=9) (by decide+kernel) (au 3) ?_
   refine aL rfl (dj (k:=3) (i:=Tryz.t96) (enc:=rT) (xs:=[nB]) 1 bM (by kernel_rfl) rfl rfl rfl rfl (λ_=>rfl) (λ_=>rfl) rfl rfl rfl (λw hw=>fj (enc:=rT) (xs:=[nB]) hw (j:=0) rfl (λ_=>rfl) (by simp)) ⟨by simp,by decide⟩ rfl λA7 c7=>?_)
   refine aV 10 (by decide+kernel) rfl (az ax rfl gJ rfl (q0 rfl)) rfl ?_
   refine aV 11 (by decide+kernel) rfl (az dZ rfl eK rfl (q0 rfl)) rfl ?_
   refine eu (i:=12) (by decide+kernel) (au 3) ?_
   refine aL rfl (mB (v:= .slice _ _ _) rfl rfl eK ?_)
   refine aZ (by decide+kernel) (au 3) ?_
   exact aO ((A7,c7):Option Addr×Nat) (by repeat (first|exact aK|exact aN|refine a8 rfl ?_|refine aJ rfl ?_|refine aD rfl ?_)) trivial (λw hw=>hw.tail) rfl trivial
  refine aL rfl (kA (iV AZ eB (q0 rfl) (by first|exact sP 0 (enc:=rT) (i:=0) rfl (x:=nB) rfl|exact sP 1 (enc:=rT) (i:=0) rfl (x:=nB) rfl) rfl) rfl rfl ?_)
  refine lS (i:=2) (j:=8) (by decide+kernel) (au 2) ?_ ?_
  ·refine aL rfl (kA (gB (v:= .slice (iy zb.p) 1 1) kD (q0 rfl) (by first|exact bx 1 rfl rfl|exact bx 2 rfl rfl)) rfl rfl ?_)
   refine eu (i:=8) (by decide+kernel) (au 2) ?_
   refine aL rfl (ey [(.int .i64 0),(.int .i64 0),(.int .i64 0)] bM eB js rfl (by kernel_rfl) (pt (v:= .agg _) rfl E.p0) rfl rfl λb20=>?_)
   refine eu (i:=9) (by decide+kernel) (au 3) ?_
   refine aL rfl (dj (k:=3) (i:=Tryz.t96) (enc:=rT) (xs:=[nB]) 1 bM (by kernel_rfl) rfl rfl rfl rfl (λ_=>rfl) (λ_=>rfl) rfl rfl rfl (λw hw=>fj (enc:=rT) (xs:=[nB]) hw (j:=0) rfl (λ_=>rfl) (by simp)) ⟨by simp,by decide⟩ rfl λA7 c7=>?_)
   refine aV 10 (by decide+kernel) rfl (az ax rfl gJ rfl (q0 rfl)) rfl ?_
   refine aV 11 (by decide+kernel) rfl (az dZ rfl eK rfl (q0 rfl)) rfl ?_
   refine eu (i:=12) (by decide+kernel) (au 3) ?_
   refine aL rfl (mB (v:= .slice _ _ _) rfl rfl eK ?_)
   refine aZ (by decide+kernel) (au 3) ?_
   exact aO ((A7,c7):Option Addr×Nat) (by repeat (first|exact aK|exact aN|refine a8 rfl ?_|refine aJ rfl ?_|refine aD rfl ?_)) trivial (λw hw=>hw.tail) rfl trivial
  refine aL rfl (ey [(.int .i64 0),(.int .i64 0),(.int .i64 0)] bM eB js rfl (by kernel_rfl) (pt (v:= .agg _) rfl E.p0) rfl rfl λb20=>?_)
  refine eu (i:=2) (by decide+kernel) (au 3) ?_
  refine aL rfl (kA (gB (v:= .slice (iy zb.p) 1 1) kD (q0 rfl) (by first|exact bx 1 rfl rfl|exact bx 2 rfl rfl)) rfl rfl ?_)
  refine eu (i:=9) (by decide+kernel) (au 3) ?_
  refine aL rfl (dj (k:=3) (i:=Tryz.t96) (enc:=rT) (xs:=[nB]) 1 bM (by kernel_rfl) rfl rfl rfl rfl (λ_=>rfl) (λ_=>rfl) rfl rfl rfl (λw hw=>fj (enc:=rT) (xs:=[nB]) hw (j:=0) rfl (λ_=>rfl) (by simp)) ⟨by simp,by decide⟩ rfl λA7 c7=>?_)
  refine aV 10 (by decide+kernel) rfl (az ax rfl gJ rfl (q0 rfl)) rfl ?_
  refine aV 11 (by decide+kernel) rfl (az dZ rfl eK rfl (q0 rfl)) rfl ?_
  refine eu (i:=12) (by decide+kernel) (au 3) ?_
  refine aL rfl (mB (v:= .slice _ _ _) rfl rfl eK ?_)
  refine aZ (by decide+kernel) (au 3) ?_
  exact aO ((A7,c7):Option Addr×Nat) (by repeat (first|exact aK|exact aN|refine a8 rfl ?_|refine aJ rfl ?_|refine aD rfl ?_)) trivial (λw hw=>hw.tail) rfl trivial
 rintro ⟨pA,pc⟩ g1 _
 refine ad ?_
 refine ak ?_
 refine R0 ?_
 refine xV (az ax rfl ae rfl (q0 rfl)) rfl rfl ?_
 refine dN (k:=4) (v:= .int .i64 1602) rfl rfl ae ?_;refine fJ (cs2:=vC zc) (by kernel_rfl) ?_
 refine XN ?_
 refine ad ?_
 refine ak ?_
 refine R0 ?_
 refine xV (az ax rfl ae rfl (q0 rfl)) rfl rfl ?_
 refine dN (k:=3) (v:= .int .i64 0) rfl rfl ae ?_;refine fJ (cs2:=Bk zd 0 0 ⟨iy zd.f,1,1⟩ ⟨iy zd.p,1,1⟩ bX bX) (by kernel_rfl) ?_
 refine XN ?_
 refine ad ?_
 refine ak ?_
 refine R0 ?_
 refine xV (az ax rfl eM rfl (q0 rfl)) rfl rfl ?_
 refine dN (k:=3) (v:= .slice none 0 0) rfl rfl eM ?_;refine fJ (cs2:=vD zd) (by kernel_rfl) ?_
 refine XN ?_
 refine ad ?_
 refine ak ?_
 refine jb (L':=[iE (iy ze.s) 4 (vT 1600),box b2 56 (vB zb pA pc),uH b5 ze,box b4 56 (vD zd),box b3 56 (vC zc),uH b1 za,jK (DU zb 1600 pA pc [nB,nB]),tv zd,tv zc,tv za,jK [mP (iy ze.p) 1 [nB],kE (iy ze.f) 1 [DV ze],rz (iy ze.i) 2 G5.items,eI (iy ze.r) 1 [CM ze],uf (iy ze.l) 1 DT.db,gY (iy ze.e) 4 zK,dS 139 6 Tf.cells (iy ze.t) 1 yy.jU]]) (λw hw=>by
  have h1:Mem _ [mP pA pc [nB,nB],box b2 56 (vB zb pA pc),uH b5 ze,box b4 56 (vD zd),box b3 56 (vC zc),uH b1 za,tv ze,tv zd,tv zc,tv za,jK (toM zb 1600)] w:=hw
  have h2:=(h1.pick [10,0,6,1,2,3,4,5,7,8,9] (by decide)).uF
  have h3:=(h2.pick [7,0,1,2,3,4,5,6,8,9,10,11,12,13,14,15,16] (by decide)).jK (T:=DU zb 1600 pA pc [nB,nB]) (L:=[tv ze,box b2 56 (vB zb pA pc),uH b5 ze,box b4 56 (vD zd),box b3 56 (vC zc),uH b1 za,tv zd,tv zc,tv za])
  have h4:=(h3.pick [1,0,2,3,4,5,6,7,8,9] (by decide)).uF
  have h5:=(h4.pick [0,1,2,3,4,6,7,5,8,9,10,11,12,13,14,15,16] (by decide)).jK (T:=[_,_,_,_,_,_,_]) (L:=[_,_,_,_,_,_,_,_,_,_])
  exact h5.pick [1,3,4,5,6,7,2,8,9,10,0] (by decide)) rfl ?_
 refine R0 ?_
 refine xV (az ax rfl eV rfl (q0 rfl)) rfl rfl ?_
 refine xV (eL gE (q0 rfl)) rfl rfl ?_
 refine xV (cx 2 bI cy (q0 rfl) (q0 rfl) (λ_=>⟨rfl,show 2<4 by decide⟩)) rfl rfl ?_
 refine xV (az bz rfl bK rfl (q0 rfl)) rfl rfl ?_
 refine xV (az bL rfl ae rfl (q0 rfl)) rfl rfl ?_
 refine cQ (iw 0 (k:=6) (enc:=gy.cells) (off:=5) (i:=2) (x:=⟨0,3,0,7,1010,1600⟩) (⟨0,3,0,7,1010,1500⟩:gy) rfl rfl ae rfl rfl rfl rfl rfl rfl ?_)
 refine XN ?_
 refine ad ?_
 refine ak ?_
 refine R0 ?_
 refine oD (en yl (H4)) (λw _=>yx w) rfl (λ_=>rfl) λzn=>?_
 refine bS fN rfl λb6=>?_
 refine dN (k:=0) (v:= .agg (tV zn).toArray) rfl rfl aM ?_;refine fJ (cs2:=tV zn) (by kernel_rfl) ?_
 refine XN ?_
 refine ad ?_
 refine ak ?_
 refine R0 ?_
 refine xV (bN dZ Uu Tryz.zeroValue50 E.p0 rfl) rfl rfl ?_
 refine xV (az ax rfl gJ rfl (q0 rfl)) rfl rfl ?_
 refine dN (k:=0) (v:= .agg #[.slice none 0 0]) rfl rfl gJ ?_;refine fJ (cs2:=vN zn) (by kernel_rfl) ?_
 refine XN ?_
 refine ad ?_
 refine ak ?_
 refine ak ?_
 refine jb (L':=[uH b1 za,box b6 56 (vN zn),box b2 56 (vB zb pA pc),box b3 56 (vC zc),box b4 56 (vD zd),uH b5 ze,tv za,tv zn,jK (DU zb 1600 pA pc [nB,nB]),tv zc,tv zd,jK (DU ze 1500 (iy ze.p) 1 [nB])]) (λw hw=>by
  have h1:Mem _ [box b6 56 (vN zn),tv zn,iE (iy ze.s) 4 (vT 1500),box b2 56 (vB zb pA pc),uH b5 ze,box b4 56 (vD zd),box b3 56 (vC zc),uH b1 za,jK (DU zb 1600 pA pc [nB,nB]),tv zd,tv zc,tv za,jK [mP (iy ze.p) 1 [nB],kE (iy ze.f) 1 [DV ze],rz (iy ze.i) 2 G5.items,eI (iy ze.r) 1 [CM ze],uf (iy ze.l) 1 DT.db,gY (iy ze.e) 4 zK,dS 139 6 Tf.cells (iy ze.t) 1 yy.jU]] w:=hw
  have h2:=(h1.pick [12,2,0,1,3,4,5,6,7,8,9,10,11] (by decide)).uF
  have h3:=(h2.pick [0,1,2,3,4,7,5,6,8,9,10,11,12,13,14,15,16,17,18] (by decide)).jK (T:=DU ze 1500 (iy ze.p) 1 [nB]) (L:=[_,_,_,_,_,_,_,_,_,_,_])
  exact h3.pick [7,1,3,6,5,4,11,2,8,10,9,0] (by decide)) rfl ?_
 refine R0 ?_
 refine xV (eS cP aM (q0 rfl)) rfl rfl ?_
 refine oD (en DF (iQ (q0 rfl))) (λw hw=>UG (mU hw 6 rfl)) rfl (λ_=>rfl) λy1=>?_
 refine xV (dw bg (q0 rfl)) rfl rfl ?_
 refine xV (ki (q0 rfl) (q0 rfl)) rfl rfl ?_
 refine xV (ay (v:= .bool _) (q0 rfl)) rfl rfl ?_
 refine fE (eS cP aM (q0 rfl)) rfl rfl rfl rfl ?_
 refine qg (kS rfl rfl) (by first|rfl|decide|simp) (il (en DF (iQ (qk (v:= .agg _) rfl (by first|rfl|decide|simp)))) (λw hw=>UC (mU hw 8 rfl)) rfl (λ_=>rfl) λy2=>?_)
 refine qg (kS rfl rfl) (by first|rfl|decide|simp) (kA (bN bU rE bG (pt (v:= .int _ _) rfl (pt (v:= .int _ _) rfl E.p0)) rfl) rfl rfl ?_)
 refine qg (kS rfl rfl) (by first|rfl|decide|simp) (ey [(.int .i64 0),(.int .i64 0),(.int .i64 0)] bg cr bG rfl (by kernel_rfl) (pt (v:= .agg _) rfl E.p0) rfl rfl λb43=>?_)
 refine AE (en DG (jn (q0 (v:= .slice _ _ _) rfl) (q0 (v:= .slice _ _ _) rfl))) (λ_ w hw=>uI y2.1 (iy b43) 1 1 y2.2 1 [⟨7,7,0⟩] [⟨7,7,0⟩] w (fB hw (j:=1) rfl (λ_=>rfl) (by decide)) (fj (enc:=Fd.cells) (xs:=[⟨7,7,0⟩]) hw (j:=0) rfl (λ_=>rfl) (by decide))) rfl rfl rfl rfl ?_
 refine fE (oz (q1 rfl)) rfl rfl rfl rfl ?_
 refine xV (jJ (q0 rfl) rfl (λh=>by first|rfl|(rw [h];rfl))) rfl rfl ?_
 refine xV (ay (v:= .bool _) (q0 rfl)) rfl rfl ?_
 refine fE (eS cP aM (q0 rfl)) rfl rfl rfl rfl ?_
 refine qg (kS rfl rfl) (by first|rfl|decide|simp) (il (en DF (iQ (qk (v:= .agg _) rfl (by first|rfl|decide|simp)))) (λw hw=>UF (mU hw 11 rfl)) rfl (λ_=>rfl) λy3=>?_)
 refine qg (kS rfl rfl) (by first|rfl|decide|simp) (kA (bN bU rE bG (pt (v:= .int _ _) rfl (pt (v:= .int _ _) rfl (pt (v:= .int _ _) rfl E.p0))) rfl) rfl rfl ?_)
 refine qg (kS rfl rfl) (by first|rfl|decide|simp) (ey [(.int .i64 0),(.int .i64 0),(.int .i64 0)] bg cr bG rfl (by kernel_rfl) (pt (v:= .agg _) rfl E.p0) rfl rfl λb51=>?_)
 refine AE (en DG (jn (q0 (v:= .slice _ _ _) rfl) (q0 (v:= .slice _ _ _) rfl))) (λ_ w hw=>uI y3.1 (iy b51) 1 1 y3.2 1 [⟨6,7,1⟩] [⟨6,7,1⟩] w (fB hw (j:=1) rfl (λ_=>rfl) (by decide)) (fj (enc:=Fd.cells) (xs:=[⟨6,7,1⟩]) hw (j:=0) rfl (λ_=>rfl) (by decide))) rfl rfl rfl rfl ?_
 refine fE (oz (q1 rfl)) rfl rfl rfl rfl ?_
 refine xV (jJ (q0 rfl) rfl (λh=>by first|rfl|(rw [h];rfl))) rfl rfl ?_
 refine XN ?_
 refine ad ?_
 refine bD rfl (λh1=>?_) (λh1=>?_)
 ·exact absurd h1 (by decide)
 refine bZ ?_
 refine ad ?_
 refine ak ?_
 refine ak ?_
 refine R0 ?_
 refine xV (eS cP aM (q0 rfl)) rfl rfl ?_
 refine oD (en Uc (iQ (q0 rfl))) (λw hw=>UE (mU hw 14 rfl)) rfl (λ_=>rfl) λy4=>?_
 refine xV (bN bU rE bG (pt (v:= .int _ _) rfl (pt (v:= .int _ _) rfl (pt (v:= .int _ _) rfl E.p0))) rfl) rfl rfl ?_
 refine CB [(.int .i64 0),(.int .i64 0),(.int .i64 0)] bg cr bG rfl (by kernel_rfl) (pt (v:= .agg _) rfl E.p0) rfl rfl λb58=>?_
 refine xC (en DG (jn (q0 rfl) (q0 rfl))) (λ_ w hw=>uI y4.1 (iy b58) 1 1 y4.2 1 [⟨8,0,-1⟩] [⟨8,0,-1⟩] w (fB hw (j:=1) rfl (λ_=>rfl) (by decide)) (fj (enc:=Fd.cells) (xs:=[⟨8,0,-1⟩]) hw (j:=0) rfl (λ_=>rfl) (by decide))) rfl rfl ?_
 refine xV (oz (q0 rfl)) rfl rfl ?_
 refine xV (ay (v:= .bool _) (q0 rfl)) rfl rfl ?_
 refine fE (eS cP aM (q0 rfl)) rfl rfl rfl rfl ?_
 refine qg (kS rfl rfl) (by first|rfl|decide|simp) (il (en Uc (iQ (qk (v:= .agg _) rfl (by first|rfl|decide|simp)))) (λw hw=>UD (mU hw 17 rfl)) rfl (λ_=>rfl) λy5=>?_)
 refine qg (kS rfl rfl) (by first|rfl|decide|simp) (kA (bN bU rE bG (pt (v:= .int _ _) rfl (pt (v:= .int _ _) rfl E.p0)) rfl) rfl rfl ?_)
 refine qg (kS rfl rfl) (by first|rfl|decide|simp) (ey [(.int .i64 0),(.int .i64 0),(.int .i64 0)] bg cr bG rfl (by kernel_rfl) (pt (v:= .agg _) rfl E.p0) rfl rfl λb65=>?_)
 refine AE (en DG (jn (q0 (v:= .slice _ _ _) rfl) (q0 (v:= .slice _ _ _) rfl))) (λ_ w hw=>uI y5.1 (iy b65) 1 1 y5.2 1 [⟨8,7,0⟩] [⟨8,7,0⟩] w (fB hw (j:=1) rfl (λ_=>rfl) (by decide)) (fj (enc:=Fd.cells) (xs:=[⟨8,7,0⟩]) hw (j:=0) rfl (λ_=>rfl) (by decide))) rfl rfl rfl rfl ?_
 refine fE (oz (q1 rfl)) rfl rfl rfl rfl ?_
 refine xV (jJ (q0 rfl) rfl (λh=>by first|rfl|(rw [h];rfl))) rfl rfl ?_
 refine XN ?_
 refine ad ?_
 refine bD rfl (λh2=>?_) (λh2=>?_)
 ·exact absurd h2 (by decide)
 refine bZ ?_
 refine ad ?_
 refine ak ?_
 refine jb (L':=[uH b5 ze,jK (DU ze 1500 (iy ze.p) 1 [nB])]) (λw hw=>hw.pick [14,20] (by decide)) rfl ?_
 refine R0 ?_
 refine xV (az ax rfl eX rfl (q0 rfl)) rfl rfl ?_
 refine xV (az bh rfl ae rfl (q0 rfl)) rfl rfl ?_
 refine dN (k:=0) (v:= .int .i64 2) rfl rfl ae ?_;refine fJ (cs2:=Bk ze 2 1601 ⟨iy ze.f,1,1⟩ ⟨iy ze.p,1,1⟩ bX bX) (by kernel_rfl) ?_
 refine XN ?_
 refine ad ?_
 refine ak ?_
 refine R0 ?_
 refine CB [(.int .i64 0)] aA ae bw rfl (by kernel_rfl) (pt (v:= .int _ _) rfl E.p0) rfl rfl λb71=>?_
 refine xV (bN G8 Us JJ (pt (v:= .slice _ _ _) rfl E.p0) rfl) rfl rfl ?_
 refine pB (enc:=BH) [((bX,⟨iy b71,1,1⟩):Sl×Sl)] [(.slice none 0 0),(.slice none 0 0)] G9 yi JJ rfl (by kernel_rfl) (pt (v:= .agg _) rfl E.p0) ⟨⟨rfl,by kernel_rfl⟩,rfl⟩ rfl (λ_=>rfl) λb73=>?_
 refine xV (az ax rfl Qz rfl (q0 rfl)) rfl rfl ?_
 refine dN (k:=2) (v:= .slice (iy b73) 1 1) rfl rfl Qz ?_;refine fJ (cs2:=Bk ze 2 1601 ⟨iy ze.f,1,1⟩ ⟨iy ze.p,1,1⟩ bX ⟨iy b73,1,1⟩) (by kernel_rfl) ?_
 refine XN ?_
 refine ad ?_
 refine ak ?_
 refine R0 ?_
 refine xV (bN mj Ut tC (pt (v:= .int _ _) rfl E.p0) rfl) rfl rfl ?_
 refine pB (enc:=Q9) [(1:Int)] (Q9 0) mm lC tC rfl (by kernel_rfl) (pt (v:= .agg _) rfl E.p0) ⟨⟨rfl,by kernel_rfl⟩,rfl⟩ rfl (λ_=>rfl) λb76=>?_
 refine xV (az ax rfl yj rfl (q0 rfl)) rfl rfl ?_
 refine dN (k:=3) (v:= .slice (iy b76) 1 1) rfl rfl yj ?_;refine fJ (cs2:=Bk ze 2 1601 ⟨iy ze.f,1,1⟩ ⟨iy ze.p,1,1⟩ ⟨iy b76,1,1⟩ ⟨iy b73,1,1⟩) (by kernel_rfl) ?_
 refine XN ?_
 refine ad ?_
 refine ak ?_
 refine R0 ?_
 refine xV (eS cP aM (q0 rfl)) rfl rfl ?_
 refine oD (en Tryz.call11 (iQ (q0 rfl))) (λw hw=>TW (mU hw 4 rfl)) rfl (λ_=>rfl) λy6=>?_
 refine xV (bN bU rE bG (pt (v:= .int _ _) rfl (pt (v:= .int _ _) rfl (pt (v:= .int _ _) rfl E.p0))) rfl) rfl rfl ?_
 refine xV (bN bU rE bG (pt (v:= .int _ _) rfl E.p0) rfl) rfl rfl ?_
 refine CB [(.int .i64 0),(.int .i64 0),(.int .i64 0),(.int .i64 0),(.int .i64 0),(.int .i64 0)] bg cr bG rfl (by kernel_rfl) (pt (v:= .agg _) rfl (pt (v:= .agg _) rfl E.p0)) rfl rfl λb82=>?_
 refine xC (en DG (jn (q0 rfl) (q0 rfl))) (λ_ w hw=>uI y6.1 (iy b82) 2 2 y6.2 2 [⟨1,0,2⟩,⟨2,0,0⟩] [⟨1,0,2⟩,⟨2,0,0⟩] w (fB hw (j:=1) rfl (λ_=>rfl) (by decide)) (fj (enc:=Fd.cells) (xs:=[⟨1,0,2⟩,⟨2,0,0⟩]) hw (j:=0) rfl (λ_=>rfl) (by decide))) rfl rfl ?_
 refine xV (ay (v:= .bool _) (q0 rfl)) rfl rfl ?_
 refine dJ (eS cP aM (q0 rfl)) rfl rfl rfl rfl ?_
 refine qg (vM rfl rfl) (by first|rfl|decide|simp) (il (en Tryz.call13 (iQ (qk (v:= .agg _) rfl (by first|rfl|decide|simp)))) (λw hw=>TV (mU hw 6 rfl) (fB (xs:=[((bX,⟨iy b71,1,1⟩):Sl×Sl)]) hw (j:=3) rfl (λ_=>rfl) (show 1<=9223372036854775807 by decide)) rfl) rfl (λ_=>rfl) λy7=>?_)
 refine dJ (dw bg (q0 rfl)) rfl rfl rfl rfl ?_
 refine dJ (jE (q1 rfl) (q0 rfl)) rfl rfl rfl rfl ?_
 refine xV (fH (q0 rfl) rfl (λh=>by first|rfl|(rw [h];rfl))) rfl rfl ?_
 refine xV (ay (v:= .bool _) (q0 rfl)) rfl rfl ?_
 refine dJ (eS cP aM (q0 rfl)) rfl rfl rfl rfl ?_
 refine qg (vM rfl rfl) (by first|rfl|decide|simp) (il (en Tryz.call17 (iQ (qk (v:= .agg _) rfl (by first|rfl|decide|simp)))) (λw hw=>TU (mU hw 7 rfl) (fB (xs:=[(1:Int)]) hw (j:=3) rfl (λ_=>rfl) (by decide)) rfl) rfl (λ_=>rfl) λy8=>?_)
 refine dJ (dw bg (q0 rfl)) rfl rfl rfl rfl ?_
 refine dJ (jE (q1 rfl) (q0 rfl)) rfl rfl rfl rfl ?_
 refine xV (fH (q0 rfl) rfl (λh=>by first|rfl|(rw [h];rfl))) rfl rfl ?_
 refine xV (aU (v:= .bool _) (q0 rfl)) rfl rfl ?_
 refine XN ?_
 refine ad ?_
 refine dq ?_
 exact cu (v:= .bool _) rfl rfl rfl λw' hw=>⟨fK (by decide),hw.1⟩
open Go Go.Proofs.Cus Go.Proofs.Rid Go.Proofs.Far Go.Proofs.Net
theorem K4 (dv:Int) (l:List Ev) (e:Ev) (h:(kW dv l e).2.2≠0):(kW dv l e).1=l:=by
 unfold kW at h|-
 split
 ·rfl
 split
 ·rfl
 rename_i h1 h2
 rw [an h1,an h2] at h
 cases hf:l.find? λx=>decide (oM x=oM e) with
 |some y=>
  simp only
  split<;>rfl
 |none=>
  rw [hf] at h
  simp only at h|-
  split
  ·rfl
  split
  ·rfl
  rename_i h3 h4
  rw [an h3,an h4] at h
  exact absurd rfl h
theorem Pc (f:Fl) (cX:List Ev) (settled:Int):KD f settled cX<=oQ f (iR f.bH cX):=by
 have h:=zq f.bH (K4 f.bH) cX cX.length
 rw [dQ] at h
 unfold KD oQ
 rw [h]
 split
 ·exact uo _
 omega
theorem PV (f:Fl) (xs:List Ev):((dP f xs).map (·.id)).Nodup:=by
 unfold dP
 split
 ·rename_i hok
  exact ((tl _).map _).nodup_iff.2 (Ca hok xs).ji.ids
 exact List.nodup_nil
section
variable {f:Fl} {p:Pr} {cX:List Ev} {settled:Int} {z:DB}
theorem Lk.U0 (h:Lk f p cX settled z):CC (dP f (iR f.bH cX)) ((dP f (iR f.bH cX)).filter (dF (KD f settled cX))) (yF f p [] ((dP f (iR f.bH cX)).filter (dF (KD f settled cX)))):=QQ (PV f _) h.al (vJ h.al)
theorem Lk.ys (h:Lk f p cX settled z):z.fs.map (·.b)=yF f p [] ((dP f (iR f.bH cX)).filter (dF (KD f settled cX))):=by
 rw [h.y]
 unfold yF
 rw [aB h.al]
theorem Lk.set (h:Lk f p cX settled z):z.b.settled=KD f settled cX:=by
 obtain ⟨A,B,C,D,E,e⟩:=h.bx
 rw [e]
theorem HK (fs:List FX):(fs.map λy=>rU y.b)=(fs.map (·.b)).map rU:=by rw [jH];rfl
theorem EK (h:Lk f p cX settled z) {each bud:Int} (hb:0<=bud/\bud<=1000000):AF f p (iR f.bH cX) (rP f (iR f.bH cX) f.cv.toNat) (z.rs.map (·.r)) (z.fs.map (·.b)) (z.fs.map λy=>rU y.b) z.b.settled each bud=[]:=by
 refine Sg (FK h.fl _) ?_ (Ff h.fl _ _) (Fj hb)
 unfold RF
 rw [HK,h.r,h.ys,h.set]
 exact HA h.U0 (Pc f cX settled)
theorem F0 {α β:Type} (g:α->β) (l:List α) (m:Nat) (x:α):(l.set m x).map g=(l.map g).set m (g x):=by rw [uC]
theorem Dj {α β:Type} (g:α->β) (l:List α) (m:Nat):(l.eraseIdx m).map g=(l.map g).eraseIdx m:=by
 rw [nk,nk,eY,List.map_take,List.map_drop]
theorem w3 {α β:Type} (g:α->β) {l:List α} {m:Nat} {x:α} (h:l[m]?=some x):(l.map g)[m]?=some (g x):=by rw [cV,h];rfl
theorem u5 {α:Type} (l:List α) (i:Nat) (h:l.length≠0): ∃x,l[i%l.length]?=some x:=⟨_,ah (l0 _ (by omega))⟩
theorem AV {α:Type} {k i:Nat} {g:α->α} {l:List α} {x:α} (h:l[i%l.length]?=some x):eD k k i g l=l.set (i%l.length) (g x):=by unfold eD;rw [aB rfl];exact vu h
theorem EN {α:Type} {k i:Nat} {g:α->α} {l:List α}:eD k (k+1) i g l=l.eraseIdx (i%l.length):=by unfold eD;rw [an (by omega),aB rfl]
theorem EJ (h:Lk f p cX settled z) {k i:Nat} (hk:k<8) (hc:Ah k (rP f (iR f.bH cX) f.cv.toNat).length z.rs.length z.fs.length (z.fs.map λy=>rU y.b).length=true):
  iH f (iR f.bH cX) (eD 0 k i pf (rP f (iR f.bH cX) f.cv.toNat))≠[]\/RF f p (iR f.bH cX) z.b.settled ((eD 2 k i oN z.rs).map (·.r)) ((eD 4 k i oO z.fs).map (·.b)) (eD 6 k i pg (z.fs.map λy=>rU y.b))≠[]:=by
 have hc2: ¬((k<2/\(rP f (iR f.bH cX) f.cv.toNat).length=0)\/((k=2\/k=3)/\z.rs.length=0)\/(4<=k/\z.fs.length=0)):=by
  unfold Ah at hc
  rw [jZ,<-vR] at hc
  simp only [pR,de,fg] at hc
  omega
 have hT:=h.U0
 have hR:=h.r
 have hY:=h.ys
 unfold RF
 rw [h.set]
 generalize dP f (iR f.bH cX)=ts at hT hR hY|-
 generalize yF f p [] (ts.filter (dF (KD f settled cX)))=us at hT hY|-
 generalize ts.filter (dF (KD f settled cX))=ss at hT
 rcases (show k=0\/k=1\/k=2\/k=3\/k=4\/k=5\/k=6\/k=7 by omega) with rfl|rfl|rfl|rfl|rfl|rfl|rfl|rfl
 ·left
  obtain ⟨s,hs⟩:=u5 (rP f (iR f.bH cX) f.cv.toNat) i (by omega)
  rw [AV hs]
  exact HI h.fl _ (Et s.place) hs
 ·left
  obtain ⟨s,hs⟩:=u5 (rP f (iR f.bH cX) f.cv.toNat) i (by omega)
  rw [show eD 0 1 i pf (rP f (iR f.bH cX) f.cv.toNat)=_ from EN (k:=0)]
  exact Ed h.fl _ hs
 ·right
  obtain ⟨s,hs⟩:=u5 z.rs i (by omega)
  rw [AV hs,F0,hR]
  refine Kg hT (m:=i%z.rs.length) (r:=s.r) (r':=(oN s).r) (by rw [<-hR];exact w3 (·.r) hs) rfl (λe=>?_) _ _
  exact Et s.r.end_.hi (aP (λr:Rd=>r.end_.hi) e).symm
 ·right
  obtain ⟨s,hs⟩:=u5 z.rs i (by omega)
  rw [show eD 2 3 i oN z.rs=_ from EN (k:=2),Dj,hR]
  exact FC hT (by rw [<-hR];exact w3 (·.r) hs) _ _
 ·right
  obtain ⟨s,hs⟩:=u5 z.fs i (by omega)
  rw [AV hs,F0,hY]
  refine KL hT (m:=i%z.fs.length) (y:=s.b) (y':=(oO s).b) (by rw [<-hY];exact w3 (·.b) hs) rfl (λe=>?_) _ _
  exact Et s.b.total (aP (λr:jq=>r.total) e).symm
 ·right
  obtain ⟨s,hs⟩:=u5 z.fs i (by omega)
  rw [show eD 4 5 i oO z.fs=_ from EN (k:=4),Dj,hY]
  exact Gq hT (by rw [<-hY];exact w3 (·.b) hs) _ _
 ·right
  obtain ⟨s,hs⟩:=u5 z.fs i (by omega)
  have hp:(z.fs.map λy=>rU y.b)[i%(z.fs.map λy=>rU y.b).length]?=some (rU s.b):=by rw [aS];exact w3 (λy:FX=>rU y.b) hs
  rw [AV hp,aS,HK,hY]
  exact MD hT (by rw [<-hY];exact w3 (·.b) hs) (Et s.b.total) _ _
 right
 obtain ⟨s,hs⟩:=u5 z.fs i (by omega)
 rw [show eD 6 7 i pg (z.fs.map λy=>rU y.b)=_ from EN (k:=6),aS,HK,hY]
 exact HP hT (by rw [<-hY];exact w3 (·.b) hs) _ _
end
end Go.Proofs.Aud
namespace Go.Proofs.Aud
open Go Go.RowKit Go.Proofs.E Go.Proofs.Cus Go.Proofs.Rid Go.Proofs.Far Go.Proofs.Net
section
variable {f:Fl} {fa:FA} {p:Pr} {a:tz} {cX:List Ev} {settled:Int} {w:World}
theorem PW (dv:Int) (cX:List Ev):(iR dv cX).length<=cX.length:=(vd dv cX).length_le
theorem Q8 {f:Fl} {xs:List Ev} {rs:List RX} (h:rs.map (·.r)=dP f xs):rs.length<=xs.length:=by
 have h1:=aP List.length h
 have h2:2*(dP f xs).length<=xs.length:=vI xs
 rw [aS] at h1
 omega
theorem Rt {f:Fl} {p:Pr} {rs:List Rd} {fs:List FX} (h:fs.map (·.b)=yF f p [] rs):fs.length<=rs.length:=by
 have h1:=aP List.length h
 have h2:=He f p [] rs
 rw [aS] at h1
 omega
theorem Lk.lens {z:DB} (h:Lk f p cX settled z) (hn:cX.length<=30) (hb:f.cv<=16):(iR f.bH cX).length<=30/\(rP f (iR f.bH cX) f.cv.toNat).length<=1000/\z.rs.length<=30/\z.fs.length<=30:=by
 have h1:=PW f.bH cX
 have h2:=DY f (iR f.bH cX) (by omega) f.cv.toNat
 have h3:=Q8 h.r
 have h4:=Rt h.ys
 have h5:=dK (dF (KD f settled cX)) (dP f (iR f.bH cX))
 have h6:2*(dP f (iR f.bH cX)).length<=(iR f.bH cX).length:=vI _
 have:=kq h.fl
 omega
theorem Ia {z:DB} (h:Lk f p cX settled z) (hu:Vv f cX w z) (hf:mE w f fa) (hp:qh w p a) (hn:cX.length<=30) (hpl:zz cX) (hb:f.cv<=16) (h0:gS f p=0):yh w f fa p a z.b (iR f.bH cX) (rP f (iR f.bH cX) f.cv.toNat) z.rs z.fs (z.fs.map λy=>rU y.b) where
 fl:=hf
 pr:=hp
 ev:=hu.ev
 sy:=hu.st
 rd:=hu.rd
 fr:=hu.fr
 pd:=hu.pd
 vs:=by obtain ⟨A,B,C,D,E,e⟩:=h.bx;rw [e]
 rf:=by obtain ⟨A,B,C,D,E,e⟩:=h.bx;rw [e]
 ok:=h0
 pl:=λe he=>hpl e ((vd f.bH cX).subset he)
 sz:=by
  have:=h.lens hn hb
  rw [aS]
  omega
theorem Jt {α:Type} {k0 k i:Nat} {g:α->α} {l:List α} {x:α} (h:x∈eD k0 k i g l): ∃y∈l,x=y\/x=g y:=by
 unfold eD at h
 split at h
 ·by_cases hl:i%l.length<l.length
  ·rw [vu (ah hl)] at h
   rcases fF h with h|h
   ·exact ⟨x,h, .inl rfl⟩
   exact ⟨_,vP hl, .inr h⟩
  have:l.modify (i%l.length) g=l:=by
   apply fh
   intro j
   rw [qv]
   by_cases hj:i%l.length=j
   ·rw [iu (by omega)];simp
   simp [hj]
  rw [this] at h
  exact ⟨x,h, .inl rfl⟩
 split at h
 ·exact ⟨x,List.mem_of_mem_eraseIdx h, .inl rfl⟩
 exact ⟨x,h, .inl rfl⟩
theorem Ig {b:BX} {st:List gy} {xs:List RX} {ys:List FX} {pds:List Py} {k i:Nat} {z:CH} (q:yh w f fa p a b cX st xs ys pds) (h:Vw b k i st xs ys pds z) (hz: ∀it∈z.Sk,it.A w):yh w f fa p a z.b cX (eD 0 k i pf st) (eD 2 k i oN xs) (eD 4 k i oO ys) (eD 6 k i pg pds) where
 fl:=q.fl
 pr:=q.pr
 ev:=by obtain ⟨A,B,C,D,e⟩:=h.bx;rw [e];exact q.ev
 sy:=(h.at_ w hz).1
 rd:=⟨(h.at_ w hz).2.1,λx hx=>by
  obtain ⟨y,hy,e|e⟩:=Jt hx
  ·rw [e];exact q.rd.2 y hy
  rw [e];exact ⟨(q.rd.2 y hy).1,(q.rd.2 y hy).2⟩⟩
 fr:=⟨(h.at_ w hz).2.2.1,λx hx=>by
  obtain ⟨y,hy,e|e⟩:=Jt hx
  ·rw [e];exact q.fr.2 y hy
  rw [e];exact q.fr.2 y hy⟩
 pd:=(h.at_ w hz).2.2.2
 vs:=by obtain ⟨A,B,C,D,e⟩:=h.bx;rw [e];exact q.vs
 rf:=by obtain ⟨A,B,C,D,e⟩:=h.bx;rw [e];exact q.rf
 ok:=q.ok
 pl:=q.pl
 sz:=by
  have l1:=pY 0 k i pf st
  have l2:=pY 2 k i oN xs
  have l3:=pY 4 k i oO ys
  have l4:=pY 6 k i pg pds
  have:=q.sz
  omega
end
theorem F2 {f:Fl} {fa:FA} {a:tz} {x:SX} (h:yQ f fa a x=true):f.cv<=16:=by
 unfold yQ at h
 simp only [de,fg] at h
 omega
attribute [local irreducible] yQ gS AF
theorem H7 (f:Fl) (fa:FA) (p:Pr) (a:tz) (x:SX) (A:Option Addr) (n c:Nat) (cX:List Ev) (settled:Int) (h:Nat) (w:World) (hf:mE w f fa) (hp:qh w p a) (hev:rO w A n cX) (hpl:zz cX) (hh:h<=255):
  Calls Tryz.prog 7 #[.agg (La f fa p a x).toArray, .slice A n c, .int .i64 settled, .int .u8 (h:Int)] w λe w'=>e= .returned (.bool true)/\fM w w':=by
 have hln:=hev.1
 refine dd Tryz.func7 rfl Tryz.ntmps7 rfl ?_
 refine ak ?_
 refine R0 ?_
 refine cd (v:= .agg _) rfl rfl λb4=>?_
 refine xV (aU (v:= .bool _) (q0 rfl)) rfl rfl ?_
 refine XN ?_
 refine ad ?_
 refine ak ?_
 refine ak ?_
 refine R0 ?_
 refine xV (eS Ss eX (q0 rfl)) rfl rfl ?_
 refine xC (en Tryz.call21 (iQ (q0 rfl))) (λ_ w _=>O7 f fa p a x w) rfl rfl ?_
 refine xV (oz (q0 rfl)) rfl rfl ?_
 refine xV (ay (v:= .bool _) (q0 rfl)) rfl rfl ?_
 refine fE (ay (v:= .slice _ _ _) (q0 rfl)) rfl rfl rfl rfl ?_
 refine fE (dw cY (q1 rfl)) rfl rfl rfl rfl ?_
 refine fE (uY (q1 rfl) (q0 rfl)) rfl rfl rfl rfl ?_
 refine xV (jJ (q0 rfl) rfl (λh=>by first|rfl|(rw [h];rfl))) rfl rfl ?_
 refine xV (ay (v:= .bool _) (q0 rfl)) rfl rfl ?_
 refine fE (ay (v:= .int _ _) (q0 rfl)) rfl rfl rfl rfl ?_
 refine fE (gK (q1 rfl) (q0 rfl)) rfl rfl rfl rfl ?_
 refine xV (jJ (q0 rfl) rfl (λh=>by first|rfl|(rw [h];rfl))) rfl rfl ?_
 refine xV (ay (v:= .bool _) (q0 rfl)) rfl rfl ?_
 refine fE (az bh rfl ae rfl (q0 rfl)) rfl rfl rfl rfl ?_
 refine fE (eL aj (q1 rfl)) rfl rfl rfl rfl ?_
 refine fE (gK (q1 rfl) (q0 rfl)) rfl rfl rfl rfl ?_
 refine xV (jJ (q0 rfl) rfl (λh=>by first|rfl|(rw [h];rfl))) rfl rfl ?_
 refine xV (ay (v:= .bool _) (q0 rfl)) rfl rfl ?_
 refine fE (az bh rfl ae rfl (q0 rfl)) rfl rfl rfl rfl ?_
 refine fE (eL aj (q1 rfl)) rfl rfl rfl rfl ?_
 refine fE (uY (q1 rfl) (q0 rfl)) rfl rfl rfl rfl ?_
 refine xV (jJ (q0 rfl) rfl (λh=>by first|rfl|(rw [h];rfl))) rfl rfl ?_
 refine XN ?_
 refine ad ?_
 refine bD rfl (λh1=>?_) (λh1=>?_)
 ·refine ak ?_
  refine R0 ?_
  refine xC (en G' (H4)) (λ_ w _=>xX w) rfl rfl ?_
  refine xV (aU (v:= .bool _) (q0 rfl)) rfl rfl ?_
  refine XN ?_
  refine ad ?_
  refine dq ?_
  refine cw ?_
  exact cu (v:= .bool _) rfl rfl rfl λw' hw=>⟨rfl,hw.1⟩
 have h1':yQ f fa a x=true/\n<=30/\0<=settled/\0<=x.kB/\x.kB<=1000000:=by
  rw [<-vR] at h1
  simp only [pR,fg,jZ] at h1
  cases hl:yQ f fa a x with
  |false=>rw [hl] at h1;simp at h1
  |true=>refine ⟨rfl,?_⟩;omega
 obtain ⟨hl,hn30,hs0,hb0,hb1⟩:=h1'
 have hbk:=F2 hl
 refine bZ ?_
 refine ad ?_
 refine ak ?_
 refine R0 ?_
 refine xV (eS Ss eX (q0 rfl)) rfl rfl ?_
 refine xV (ay (v:= .slice _ _ _) (q0 rfl)) rfl rfl ?_
 refine xV (ay (v:= .int _ _) (q0 rfl)) rfl rfl ?_
 refine oD (en Tryz.call22 (nS (q0 rfl) (q0 rfl) (q0 rfl))) (λw hw=>KV f fa p a x A n c cX settled w (hf.mem hw) (hp.mem hw) (hev.mem hw) (by omega) hpl) rfl (λ_=>rfl) λz=>?_
 obtain ⟨⟨⟨b,ok,rs,fs⟩,Sk⟩,hz⟩:=z
 refine xV (ay (q0 rfl)) rfl rfl ?_
 refine xV (iW (q0 rfl) rfl) rfl rfl ?_
 refine xV (iW (q0 rfl) rfl) rfl rfl ?_
 refine bS fN rfl λb9=>?_
 refine dN (k:=0) (v:= .agg (hP f fa p a x b).toArray) rfl rfl aM ?_;refine fJ (cs2:=hP f fa p a x b) (by kernel_rfl) ?_
 refine xV (aU (v:= .bool _) (q0 rfl)) rfl rfl ?_
 refine XN ?_
 refine ad ?_
 refine ak ?_
 refine ak ?_
 cases ok with
 |false=>
  refine R0 ?_
  refine xV (ay (v:= .bool _) (q0 rfl)) rfl rfl ?_
  refine xV (oz (q0 rfl)) rfl rfl ?_
  refine xV (ay (v:= .bool _) (q0 rfl)) rfl rfl ?_
  refine fE (cO (v:= .pointer none) (rfl)) rfl rfl rfl rfl ?_
  refine fE (cO (v:= .agg #[]) (rfl)) rfl rfl rfl rfl ?_
  refine fE (cO (v:= .pointer none) (rfl)) rfl rfl rfl rfl ?_
  refine fE (cO (v:= .agg #[]) (rfl)) rfl rfl rfl rfl ?_
  refine fE (cO (v:= .int .i64 0) (rfl)) rfl rfl rfl rfl ?_
  refine fE (cO (v:= .bool false) (rfl)) rfl rfl rfl rfl ?_
  refine xV (jJ (q0 rfl) rfl (λh=>by first|rfl|(rw [h];rfl))) rfl rfl ?_
  refine XN ?_
  refine ad ?_
  refine bD rfl (λh2=>?_) (λh2=>?_)
  ·refine ak ?_
   refine R0 ?_
   refine xC (en G' (H4)) (λ_ w _=>xX w) rfl rfl ?_
   refine xV (aU (v:= .bool _) (q0 rfl)) rfl rfl ?_
   refine XN ?_
   refine ad ?_
   refine dq ?_
   refine cw ?_
   exact cu (v:= .bool _) rfl rfl rfl λw' hw=>⟨rfl,hw.1⟩
  simp at h2
 |true=>
  obtain ⟨hE,hU⟩:=hz rfl
  refine R0 ?_
  refine xV (ay (v:= .bool _) (q0 rfl)) rfl rfl ?_
  refine xV (oz (q0 rfl)) rfl rfl ?_
  refine xV (ay (v:= .bool _) (q0 rfl)) rfl rfl ?_
  refine fE (az bh rfl cN rfl (q0 rfl)) rfl rfl rfl rfl ?_
  refine fE (eP iB cN (q1 rfl)) rfl rfl rfl rfl ?_
  refine fE (az bh rfl eN rfl (q0 rfl)) rfl rfl rfl rfl ?_
  refine fE (eP jM eN (q1 rfl)) rfl rfl rfl rfl ?_
  refine AE (en yq (jn (q1 (v:= .agg _) rfl) (q1 (v:= .agg _) rfl))) (λ_ w hw=>s9 f fa p a w (hf.mem hw) (hp.mem hw)) rfl rfl rfl rfl ?_
  refine fE (ki (q1 rfl) (q0 rfl)) rfl rfl rfl rfl ?_
  refine xV (jJ (q0 rfl) rfl (λh=>by first|rfl|(rw [h];rfl))) rfl rfl ?_
  refine XN ?_
  refine ad ?_
  refine bD rfl (λh2=>?_) (λh2=>?_)
  ·refine ak ?_
   refine R0 ?_
   refine xC (en G' (H4)) (λ_ w _=>xX w) rfl rfl ?_
   refine xV (aU (v:= .bool _) (q0 rfl)) rfl rfl ?_
   refine XN ?_
   refine ad ?_
   refine dq ?_
   refine cw ?_
   exact cu (v:= .bool _) rfl rfl rfl λw' hw=>⟨rfl,hw.1⟩
  have h0:gS f p=0:=by simpa using h2
  have hnil:b.rl=bX/\b.sp=bX/\b.pl=bX:=by
   obtain ⟨A,B,C,D,E,e⟩:=hE.bx
   have e:b=_:=e
   rw [e]
   exact ⟨rfl,rfl,rfl⟩
  obtain ⟨ev,hev'⟩: ∃e,e=iR f.bH cX:=⟨_,rfl⟩
  obtain ⟨st,hst⟩: ∃s,s=rP f ev f.cv.toNat:=⟨_,rfl⟩
  obtain ⟨pds,hpds⟩: ∃l,l=fs.map λy=>rU y.b:=⟨_,rfl⟩
  have hat: ∀u,fM w u->(∀it∈Sk,it.A u)->yh u f fa p a b ev st rs fs pds:=λu hu hi=>by
   rw [hst,hpds,hev']
   exact Ia hE (hU u hi) (hf.mem (ik.2 hu)) (hp.mem (ik.2 hu)) (by omega) hpl hbk h0
  have hnone:AF f p ev st (rs.map (·.r)) (fs.map (·.b)) pds b.settled x.each x.kB=[]:=by
   rw [hst,hpds,hev']
   exact EK hE ⟨hb0,hb1⟩
  have hsome: ∀{k i:Nat},k<8->Ah k st.length rs.length fs.length pds.length=true->iH f ev (eD 0 k i pf st)≠[]\/RF f p ev b.settled ((eD 2 k i oN rs).map (·.r)) ((eD 4 k i oO fs).map (·.b)) (eD 6 k i pg pds)≠[]:=λh1 h2=>by
   rw [hst,hpds,hev'] at h2|-
   exact EJ hE h1 h2
  have hall: ∀u,fM w u->(∀it∈Sk,it.A u)->jc 19 (hP f fa p a x b) [] u:=λu hu hi=>by
   have h:=CA (x:=x) (hat u hu hi) hnil.1 hnil.2.1 hnil.2.2
   rw [hnone] at h
   exact h
  refine bZ ?_
  refine ad ?_
  refine ak ?_
  refine ak ?_
  refine R0 ?_
  refine xV (eS cP aM (q0 rfl)) rfl rfl ?_
  refine oD (en DF (iQ (q0 rfl))) (λw hw=>hall w hw.1 (mU hw 1 rfl)) rfl (λ_=>rfl) λy=>?_
  refine xV (dw bg (q0 rfl)) rfl rfl ?_
  refine xV (ki (q0 rfl) (q0 rfl)) rfl rfl ?_
  refine XN ?_
  refine ad ?_
  refine bD rfl (λh3=>?_) (λh3=>?_)
  ·exact absurd h3 (by decide)
  refine bZ ?_
  refine ad ?_
  refine ak ?_
  refine R0 ?_
  refine xV (eS cP aM (q0 rfl)) rfl rfl ?_
  refine xV (ay (v:= .int _ _) (q0 rfl)) rfl rfl ?_
  refine oD (en Tryz.call24 (jn (q0 rfl) (q0 rfl))) (λw hw=>KW f fa p a x b h (h%8) (h/8) rfl rfl st rs fs pds w hh (hat w hw.1 (mU hw 2 rfl)).sy (hat w hw.1 (mU hw 2 rfl)).rd.1 (hat w hw.1 (mU hw 2 rfl)).fr.1 (hat w hw.1 (mU hw 2 rfl)).pd (by have:=(hat w hw.1 (mU hw 2 rfl)).sz;omega)) rfl (λ_=>rfl) λz2=>?_
  obtain ⟨⟨b2,ok2,its2⟩,hz2⟩:=z2
  refine xV (ay (q0 rfl)) rfl rfl ?_
  refine xV (iW (q0 rfl) rfl) rfl rfl ?_
  refine xV (iW (q0 rfl) rfl) rfl rfl ?_
  refine bS fN rfl λb11=>?_
  refine dN (k:=0) (v:= .agg (hP f fa p a x b2).toArray) rfl rfl aM ?_;refine fJ (cs2:=hP f fa p a x b2) (by kernel_rfl) ?_
  refine xV (aU (v:= .bool _) (q0 rfl)) rfl rfl ?_
  refine XN ?_
  refine ad ?_
  refine ak ?_
  cases ok2 with
  |false=>
   refine R0 ?_
   refine xV (ay (v:= .bool _) (q0 rfl)) rfl rfl ?_
   refine xV (oz (q0 rfl)) rfl rfl ?_
   refine xV (ay (v:= .bool _) (q0 rfl)) rfl rfl ?_
   refine fE (cO (v:= .agg #[]) (rfl)) rfl rfl rfl rfl ?_
   refine fE (cO (v:= .slice none 0 0) (rfl)) rfl rfl rfl rfl ?_
   refine fE (cO (v:= .int .i64 0) (rfl)) rfl rfl rfl rfl ?_
   refine fE (cO (v:= .bool false) (rfl)) rfl rfl rfl rfl ?_
   refine xV (jJ (q0 rfl) rfl (λh=>by first|rfl|(rw [h];rfl))) rfl rfl ?_
   refine xV (ay (v:= .bool _) (q0 rfl)) rfl rfl ?_
   refine Hg (en G' (H4)) (λ_ w _=>xX w) rfl rfl rfl rfl ?_
   refine xV (fH (q0 rfl) rfl (λh=>by first|rfl|(rw [h];rfl))) rfl rfl ?_
   refine xV (aU (v:= .bool _) (q0 rfl)) rfl rfl ?_
   refine XN ?_
   refine ad ?_
   refine dq ?_
   exact cu (v:= .bool _) rfl rfl rfl λw' hw=>⟨rfl,hw.1⟩
  |true=>
   obtain ⟨hok,hC⟩:=hz2
   have hC:=hC rfl
   have hlen:0<(AF f p ev (eD 0 (h%8) (h/8) pf st) ((eD 2 (h%8) (h/8) oN rs).map (·.r)) ((eD 4 (h%8) (h/8) oO fs).map (·.b)) (eD 6 (h%8) (h/8) pg pds) b2.settled x.each x.kB).length:=by
    refine P6 ?_
    have e:b2.settled=b.settled:=by
     obtain ⟨A,B,C,D,e⟩:=hC.bx
     have e:b2=_:=e
     rw [e]
    rw [e]
    exact hsome (l0 _ (by decide)) hok.symm
   have hnil2:b2.rl=bX/\b2.sp=bX/\b2.pl=bX:=by
    obtain ⟨A,B,C,D,e⟩:=hC.bx
    have e:b2=_:=e
    rw [e]
    exact hnil
   refine R0 ?_
   refine xV (ay (v:= .bool _) (q0 rfl)) rfl rfl ?_
   refine xV (oz (q0 rfl)) rfl rfl ?_
   refine xV (ay (v:= .bool _) (q0 rfl)) rfl rfl ?_
   refine fE (eS cP aM (q0 rfl)) rfl rfl rfl rfl ?_
   refine qg (kS rfl rfl) (by first|rfl|decide|simp) (il (en DF (iQ (qk (v:= .agg _) rfl (by first|rfl|decide|simp)))) (λw hw=>CA (x:=x) (Ig (hat w hw.1 (mU hw 4 rfl)) hC (mU hw 1 rfl)) hnil2.1 hnil2.2.1 hnil2.2.2) rfl (λ_=>rfl) λy2=>?_)
   refine fE (dw bg (q0 rfl)) rfl rfl rfl rfl ?_
   refine fE (uY (q1 rfl) (q0 rfl)) rfl rfl rfl rfl ?_
   refine xV (jJ (q0 rfl) rfl (λh=>by first|rfl|(rw [h];rfl))) rfl rfl ?_
   refine xV (ay (v:= .bool _) (q0 rfl)) rfl rfl ?_
   refine Hg (en G' (H4)) (λ_ w _=>xX w) rfl rfl rfl rfl ?_
   refine xV (fH (q0 rfl) rfl (λh=>by first|rfl|(rw [h];rfl))) rfl rfl ?_
   refine xV (aU (v:= .bool _) (q0 rfl)) rfl rfl ?_
   refine XN ?_
   refine ad ?_
   refine dq ?_
   exact cu (v:= .bool _) rfl rfl rfl λw' hw=>⟨fK (by simp [gv,hlen]),hw.1⟩
end Go.Proofs.Aud
namespace Go.Proofs.E
open Go Go.RowKit Go.ChangeShapes Go.WideShapes Go.ChangeAt
section
variable {H:Type} {enc:TypeId×Value->H} {P:Program}
theorem Bj{W sp}: ∀{ts:List TypeId} {vs:List Value} {ds:List (DataW H)} {ps:List MemPlace} {W':World},laidOutB P=true->(ts.all λt=>P.readableRec t&&decide (t<P.types.size))=true->
  DataW.TrodAll enc P W 0 (λ_=>true) true ts vs ds ps->(∀p∈ps,W.sameAt W' p)->(∀p∈ps,sp p.block=true)->DataW.TrodAll enc P W' 0 sp true ts vs ds ps
 |[],[],[],_,_,_,_,h,_,_=>h
 |t::ts,v::vs,d::ds,ps,W',hl,hr,⟨p,q,h1,h2,e⟩,hs,hp=>by
  subst e
  simp only [sG,de,fg] at hr
  exact ⟨p,q,WideElems.Trod_stays hl hr.1.1 hr.1.2 h1 (λx hx=>hs x (qu _ hx)) (λx hx=>hp x (qu _ hx)),Bj hl (by simpa using hr.2) h2 (λx hx=>hs x (uB _ hx)) (λx hx=>hp x (uB _ hx)),rfl⟩
 |[],_::_,_,_,_,_,_,h,_,_=>by simp [DataW.TrodAll] at h
 |[],[],_::_,_,_,_,_,h,_,_=>by simp [DataW.TrodAll] at h
 |_::_,[],_,_,_,_,_,h,_,_=>by simp [DataW.TrodAll] at h
 |_::_,_::_,[],_,_,_,_,h,_,_=>by simp [DataW.TrodAll] at h
theorem zI{W b sp hd}: ∀{ts:List TypeId} {vs:List Value} {ds:List (DataW H)} {ps:List MemPlace},DataW.TrodAll enc P W b sp hd ts vs ds ps->ds.length=ts.length/\vs.length=ts.length
 |[],[],[],_,_=>⟨rfl,rfl⟩
 |_::_,_::_,_::_,_,⟨_,_,_,h2,_⟩=>by have:=zI h2;simp;omega
 |[],_::_,_,_,h=>by simp [DataW.TrodAll] at h
 |[],[],_::_,_,h=>by simp [DataW.TrodAll] at h
 |_::_,[],_,_,h=>by simp [DataW.TrodAll] at h
 |_::_,_::_,[],_,h=>by simp [DataW.TrodAll] at h
theorem Ke{f}{s:ChangeSpec}{tb apart fresh handsOn again W W' args ds gs before}(hl:laidOutB P=true)(hr:(f.params.toList.all λt=>P.readableRec t&&decide (t<P.types.size))=true)(hrt:f.resultTypes= #[tb])(htb:P.underlying tb=some .bool)(hv:s.vars=[])(hs: ∀ds:List (DataW H),ds.length=f.params.toList.length->s.fn H ds={results:=[.lit (.bool true)],args:=ds})(hW:DataW.Whole enc P f.params.toList s.vars apart W args.toList ds gs before)(hb:Below W.heap.size W W'):s.post enc P f apart fresh handsOn again W args (.bool true) W':=by
 have hlt: ∀p∈before,p.block<W.heap.size:=λp hp=>hW.lt p hp;have hold: ∀p∈before,(λb=>decide (b<W.heap.size)) p.block=true:=λp hp=>by simpa using hlt p hp
 have hW2:=hW;obtain ⟨p,q,hA,hV,rfl,hz,hn⟩:=hW;rw [hv] at hV;obtain ⟨rfl,rfl⟩:=trodVars_none hV;have hsd:=hs ds (zI hA).1;have hres: ∀(b:Nat) (sp:Nat->Bool) (hd:Bool),DataW.TrodAll enc P W' b sp hd f.resultTypes.toList ((Value.bool true).resultList f.resultTypes.size) (s.fn H (ds++[])).results []:=λb sp hd=>by
  rw [bF,hsd,hrt];exact trodAll_mk1 (shut_bool htb _)
 have hargs: ∀sp:Nat->Bool,(∀x∈p,sp x.block=true)->DataW.TrodAll enc P W' 0 sp true f.params.toList args.toList (s.fn H (ds++[])).args p:=λsp hsp=>by
  rw [bF,hsd];exact Bj hl hr hA (λx hx=>hb.same (hlt x (by simpa using hx))) hsp
 have hvars: ∀sp:Nat->Bool,DataW.TrodVars enc P W' sp s.vars (s.fn H (ds++[])).vars []:=λsp=>by
  rw [bF,hsd,hv];rfl
 refine ⟨ds,[],p++[],[],p,[],hW2,hres _ _ _,hargs _ (λx hx=>hold x (by simpa using hx)),hvars _,World.keptBut_mono (λx hx=>⟨hx,Or.inr (by simpa using hx)⟩) (hb.frame (· ∈p++[])),λ_=>?_⟩;refine ⟨?_,_,_,([]++p)++[],⟨[]++p,[],trodAll_append (hargs _ (λ_ _=>rfl)) (hres _ _ _),hvars _,rfl,?_,?_⟩,?_⟩
 ·intro j t r h1 h2;rw [hrt] at h1 h2
  match j with
  |0=>
   simp at h1;subst h1;simp [Value.resultList] at h2;subst h2;exact okWide_bool_mk htb _
  |j+1=>simp at h1
 ·intro b off hp;have hin:MemPlace.cell b off∈p++[]:=by simpa using hp
  rw [hb.frozen (hlt _ hin)];exact hz b off hin
 ·intro ha;have:=hn ha;simpa using this
 intro x hx _;simpa using hx
theorem Mg{f}{s:ChangeSpec}{tb apart fresh handsOn again W W' args ds gs before}(hl:laidOutB P=true)(hr:(f.params.toList.all λt=>P.readableRec t&&decide (t<P.types.size))=true)(hrt:f.resultTypes= #[tb])(htb:P.underlying tb=some .bool)(hv:s.vars=[])(hs: ∀ds:List (DataW H),ds.length=f.params.toList.length->s.fn H ds={results:=[.lit (.bool true)],args:=ds})(hW:DataW.Whole enc P f.params.toList s.vars apart W args.toList ds gs before)(hb:fM W W'):s.post enc P f apart fresh handsOn again W args (.bool true) W':=Ke hl hr hrt htb hv hs hW hb.toBelow
theorem KZ{w:World}{a v}(h:w.cell? a=some v):a.spot=none/\a.block<w.heap.size:=by
 unfold World.cell? at h
 constructor
 ·split at h
  ·split at h
   ·cases h
   rename_i h2;cases ha:a.spot with
   |none=>rfl
   |some x=>simp [ha] at h2
  cases h
 grind
theorem xy{W t e k fuel sp held cs x}(ht:P.underlying t=some (.slice e))(hC:P.cellsOf e=k)(hk:0<k)(h:DataW.trod enc P W 0 sp held fuel t cs=some x):
  ∃(A:Option Addr) (n c:Nat) (xs:List (List Value)),cs=[.slice A n c]/\eG W k id A n xs/\n<=c/\c<=maxLen/\ ∀x∈xs,x.length=k/\ ∃(fuel:Nat) (y:DataW H×List MemPlace),DataW.trod enc P W 0 sp held fuel e x=some y:=by
 rcases Deep.open_slice ht h with ⟨rfl,_⟩|⟨a,len,cap,m,n,D,Pl,rfl,hb,hl,hm,hmm,hx,hi⟩
 ·exact ⟨none,0,0,[],rfl,⟨rfl,by decide,λh=>absurd h (by omega)⟩,by omega,by unfold maxLen;omega,λx hx=>by simp at hx⟩
 rw [hC] at hi;have hlm:len<=m:=by rw [hmm];split<;>omega
 refine ⟨some a,len,cap,(List.range len).map λi=>((W.cells? 0 (a.add (i*k)) k).getD []),rfl,⟨by simp,by unfold maxLen at hm;omega,λhn=>?_⟩,hl,hm,λx hx=>?_⟩
 ·obtain ⟨cs0,hc0,_⟩:=hi 0 (by omega);obtain ⟨_,hl0,hat0⟩:=World.cells?_some hc0;have h0:=hat0 0 hk;rw [ah (by omega)] at h0;obtain ⟨hs,hblk⟩:=KZ h0;refine ⟨a.block,a.off,by cases a;simp [Addr.add] at hs;simp [hs],by simpa [Addr.add] using hblk,λi x hx=>?_⟩;simp only [cV] at hx;cases hr:(List.range len)[i]? with
  |none=>rw [hr] at hx;cases hx
  |some y=>
   rw [hr] at hx;obtain ⟨hlt,hyi⟩:=ai.1 hr;simp at hyi hlt;subst hyi;obtain ⟨cs',hc,_⟩:=hi i (by omega);simp only [ni,jW] at hx;rw [hc] at hx;simp only [ix] at hx;subst hx;obtain ⟨_,hcl,hat⟩:=World.cells?_some hc;intro j u hu;have hj:j<k:=by have:=(ai.1 hu).1;simp at this;omega
   have h2:=hat j hj;simp only [id] at hu;rw [hu] at h2;have e1:(a.add (i*k)).add j=⟨a.block,a.off+i*k+j,none⟩:=by
    have hs:a.spot=none:=by cases a;simpa [Addr.add] using hs
    rw [rM hs,rM rfl]
   rw [e1] at h2;exact h2
 simp only [cW,kg] at hx;obtain ⟨i,hil,rfl⟩:=hx;obtain ⟨cs',hc,ht'⟩:=hi i (by omega);rw [hc];exact ⟨(World.cells?_some hc).2.1,n,_,ht'⟩
theorem cR{W t fs fuel sp held cs x}(ht:P.underlying t=some (.struct fs))(h:DataW.trod enc P W 0 sp held fuel t cs=some x)(j:Nat){u o k}(hf:fs[j]?.map (λf=>(f.type,f.offset))=some (u,o))(hk:P.cellsOf u=k):
  ∃(n:Nat) (y:DataW H×List MemPlace),DataW.trod enc P W 0 sp held n u ((cs.drop o).take k)=some y:=by
 obtain ⟨ys,n',hn',hy,hlen,hyl,hg⟩:=DataW.trod_struct ht h
 grind
theorem gz{W t k fuel sp held cs x}(ht:P.underlying t=some (.int k))(h:DataW.trod enc P W 0 sp held fuel t cs=some x): ∃n,cs=[.int k n]/\(Lit.int k n).wf=true:=by
 obtain ⟨n,h,_,hw⟩:=DataW.trod_int ht h
 exact ⟨n,h,hw⟩
theorem Ug{n}(h:(Lit.int .i64 n).wf=true): -9223372036854775808<=n/\n<=9223372036854775807:=by
 simp [Lit.wf,IntKind.min,IntKind.max,IntKind.signed,IntKind.bits] at h
 omega
end
theorem eG.Ea{α W k enc A n}{Q:α->Prop}{xs}(h:eG W k id A n xs)(hx: ∀x∈xs,∃a,enc a=x/\Q a): ∃ys:List α,eG W k enc A n ys/\ ∀a∈ys,Q a:=by
 have: ∀xs:List (List Value),(∀x∈xs,∃a,enc a=x/\Q a)-> ∃ys:List α,ys.map enc=xs/\ ∀a∈ys,Q a:=by
  intro xs
  induction xs with
  |nil=>exact λ_=>⟨[],rfl,by simp⟩
  |cons x xs ih=>
   intro h;obtain ⟨a,ha,hq⟩:=h x (by simp);obtain ⟨ys,has,hqs⟩:=ih λx hx=>h x (by simp [hx]);exact ⟨a::ys,by simp [ha,has],by simpa using ⟨hq,hqs⟩⟩
 obtain ⟨ys,has,hq⟩:=this xs hx;subst has;refine ⟨ys,⟨by simpa using h.1,h.2.1,λhn=>?_⟩,hq⟩;obtain ⟨b,off,hA,hlt,hc⟩:=h.2.2 hn;exact ⟨b,off,hA,hlt,λi x hx=>hc i (enc x) (by simp [hx])⟩
end Go.Proofs.E
namespace Go.Proofs.Aud
open Go Go.RowKit Go.Proofs.E Go.Proofs.Cus Go.Proofs.Far Go.ChangeShapes Go.WideShapes Go.ChangeAt
theorem ep:Tryz.prog.cellsOf 3=1:=by kernel_rfl
theorem pj:Tryz.prog.cellsOf 22=1:=by kernel_rfl
structure Wn where
 lo:Int
 hi:Int
def Wn.cells (x:Wn):List Value:=[.int .i64 x.lo, .int .i64 x.hi]
section
variable {H:Type} {enc:TypeId×Value->H} {W:World} {sp:Nat->Bool} {held:Bool} {base:Nat} {v:Value} {d:DataW H} {ps:List MemPlace}
theorem xz {fuel:Nat} {cs:List Value} {x:DataW H×List MemPlace} (h:DataW.trod enc Tryz.prog W 0 sp held fuel 22 cs=some x): ∃A n c xs,cs=[.slice A n c]/\lf W A n xs:=by
 obtain ⟨A,n,c,xs,rfl,hs,_,_,hx⟩:=xy aA ep (by decide) h
 obtain ⟨ys,hy,_⟩:=hs.Ea (enc:=eQ) (Q:=λ_=>True) λx hx'=>by
  obtain ⟨_,f,y,ht⟩:=hx x hx'
  obtain ⟨m,rfl,_⟩:=gz av ht
  exact ⟨m,rfl,trivial⟩
 exact ⟨A,n,c,ys,rfl,hy⟩
theorem S' {fuel:Nat} {cs:List Value} {x:DataW H×List MemPlace} (hl:cs.length=6) (h:DataW.trod enc Tryz.prog W 0 sp held fuel 139 cs=some x): ∃g:Tf,Tf.cells g=cs:=by
 match cs,hl with
 |[c0,c1,c2,c3,c4,c5],_=>
  obtain ⟨_,_,h0⟩:=cR gr h 0 rfl ep
  obtain ⟨_,_,h1⟩:=cR gr h 1 rfl ep
  obtain ⟨_,_,h2⟩:=cR gr h 2 rfl ep
  obtain ⟨_,_,h3⟩:=cR gr h 3 rfl ep
  obtain ⟨_,_,h4⟩:=cR gr h 4 rfl ep
  obtain ⟨_,_,h5⟩:=cR gr h 5 rfl ep
  obtain ⟨m0,e0,_⟩:=gz av h0
  obtain ⟨m1,e1,_⟩:=gz av h1
  obtain ⟨m2,e2,_⟩:=gz av h2
  obtain ⟨m3,e3,_⟩:=gz av h3
  obtain ⟨m4,e4,_⟩:=gz av h4
  obtain ⟨m5,e5,_⟩:=gz av h5
  simp at e0 e1 e2 e3 e4 e5
  subst e0 e1 e2 e3 e4 e5
  exact ⟨⟨m0,m1,m2,m3,m4,m5⟩,rfl⟩
theorem Nw:Tryz.prog.cellsOf 139=6:=by kernel_rfl
theorem Rc {fuel:Nat} {cs:List Value} {x:DataW H×List MemPlace} (h:DataW.trod enc Tryz.prog W 0 sp held fuel 25 cs=some x): ∃A n c xs,cs=[.slice A n c]/\eG W 6 Tf.cells A n xs:=by
 obtain ⟨A,n,c,xs,rfl,hs,_,_,hx⟩:=xy oJ Nw (by decide) h
 obtain ⟨ys,hy,_⟩:=hs.Ea (enc:=Tf.cells) (Q:=λ_=>True) λx hx'=>by
  obtain ⟨hl,f,y,ht⟩:=hx x hx'
  obtain ⟨g,hg⟩:=S' hl ht
  exact ⟨g,hg,trivial⟩
 exact ⟨A,n,c,ys,rfl,hy⟩
theorem S9 {fuel:Nat} {cs:List Value} {x:DataW H×List MemPlace} (hl:cs.length=2) (h:DataW.trod enc Tryz.prog W 0 sp held fuel 83 cs=some x): ∃g:Wn,Wn.cells g=cs:=by
 match cs,hl with
 |[c0,c1],_=>
  obtain ⟨_,_,h0⟩:=cR bL h 0 rfl ep
  obtain ⟨_,_,h1⟩:=cR bL h 1 rfl ep
  obtain ⟨m0,e0,_⟩:=gz av h0
  obtain ⟨m1,e1,_⟩:=gz av h1
  simp at e0 e1
  subst e0 e1
  exact ⟨⟨m0,m1⟩,rfl⟩
theorem Pw:Tryz.prog.cellsOf 83=2:=by kernel_rfl
theorem Re {fuel:Nat} {cs:List Value} {x:DataW H×List MemPlace} (hl:cs.length=6) (h:DataW.trod enc Tryz.prog W 0 sp held fuel 262 cs=some x): ∃g:AB,AB.cells g=cs:=by
 match cs,hl with
 |[c0,c1,c2,c3,c4,c5],_=>
  obtain ⟨_,_,h0⟩:=cR qJ h 0 rfl ep
  obtain ⟨_,_,h1⟩:=cR qJ h 1 rfl ep
  obtain ⟨_,_,h2⟩:=cR qJ h 2 rfl Pw
  obtain ⟨_,_,h3⟩:=cR qJ h 3 rfl ep
  obtain ⟨_,_,h4⟩:=cR qJ h 4 rfl ep
  obtain ⟨m0,e0,_⟩:=gz av h0
  obtain ⟨m1,e1,_⟩:=gz av h1
  obtain ⟨m3,e3,_⟩:=gz av h3
  obtain ⟨m4,e4,_⟩:=gz av h4
  obtain ⟨s2,e2⟩:=S9 (cs:=[c2,c3]) rfl h2
  simp at e0 e1 e3 e4
  simp [Wn.cells] at e2
  obtain ⟨e2,e2'⟩:=e2
  subst e0 e1 e2 e2' e3 e4
  exact ⟨⟨m0,m1,s2.lo,s2.hi,m3,m4⟩,rfl⟩
theorem KX:Tryz.prog.cellsOf 262=6:=by kernel_rfl
theorem OO {fuel:Nat} {cs:List Value} {x:DataW H×List MemPlace} (h:DataW.trod enc Tryz.prog W 0 sp held fuel 26 cs=some x): ∃A n c xs,cs=[.slice A n c]/\eG W 6 AB.cells A n xs:=by
 obtain ⟨A,n,c,xs,rfl,hs,_,_,hx⟩:=xy oI KX (by decide) h
 obtain ⟨ys,hy,_⟩:=hs.Ea (enc:=AB.cells) (Q:=λ_=>True) λx hx'=>by
  obtain ⟨hl,f,y,ht⟩:=hx x hx'
  obtain ⟨g,hg⟩:=Re hl ht
  exact ⟨g,hg,trivial⟩
 exact ⟨A,n,c,ys,rfl,hy⟩
theorem Ny:Tryz.prog.cellsOf 25=1:=by kernel_rfl
theorem NA:Tryz.prog.cellsOf 26=1:=by kernel_rfl
theorem PK:Tryz.prog.cellsOf 24=5:=by kernel_rfl
theorem PD:Tryz.prog.cellsOf 28=7:=by kernel_rfl
theorem Tb {fuel:Nat} {cs:List Value} {x:DataW H×List MemPlace} (hl:cs.length=5) (h:DataW.trod enc Tryz.prog W 0 sp held fuel 24 cs=some x): ∃(f:Fl) (a:FA),f.cells a=cs/\mE W f a:=by
 match cs,hl with
 |[c0,c1,c2,c3,c4],_=>
  obtain ⟨_,_,h0⟩:=cR dI h 0 rfl ep
  obtain ⟨_,_,h1⟩:=cR dI h 1 rfl ep
  obtain ⟨_,_,h2⟩:=cR dI h 2 rfl ep
  obtain ⟨_,_,h3⟩:=cR dI h 3 rfl pj
  obtain ⟨_,_,h4⟩:=cR dI h 4 rfl pj
  obtain ⟨m0,e0,_⟩:=gz av h0
  obtain ⟨m1,e1,_⟩:=gz av h1
  obtain ⟨m2,e2,_⟩:=gz av h2
  obtain ⟨A3,n3,k3,x3,e3,hx3⟩:=xz h3
  obtain ⟨A4,n4,k4,x4,e4,hx4⟩:=xz h4
  simp at e0 e1 e2 e3 e4
  subst e0 e1 e2 e3 e4
  exact ⟨⟨m0,m1,m2,x3,x4⟩,⟨A3,n3,k3,A4,n4,k4⟩,rfl,hx3,hx4⟩
theorem Ta {fuel:Nat} {cs:List Value} {x:DataW H×List MemPlace} (hl:cs.length=7) (h:DataW.trod enc Tryz.prog W 0 sp held fuel 28 cs=some x): ∃(p:Pr) (a:tz),p.cells a=cs/\qh W p a:=by
 match cs,hl with
 |[c0,c1,c2,c3,c4,c5,c6],_=>
  obtain ⟨_,_,h0⟩:=cR fD h 0 rfl Ny
  obtain ⟨_,_,h1⟩:=cR fD h 1 rfl NA
  obtain ⟨_,_,h2⟩:=cR fD h 2 rfl pj
  obtain ⟨_,_,h3⟩:=cR fD h 3 rfl pj
  obtain ⟨_,_,h4⟩:=cR fD h 4 rfl ep
  obtain ⟨_,_,h5⟩:=cR fD h 5 rfl pj
  obtain ⟨_,_,h6⟩:=cR fD h 6 rfl ep
  obtain ⟨A0,n0,k0,x0,e0,hx0⟩:=Rc h0
  obtain ⟨A1,n1,k1,x1,e1,hx1⟩:=OO h1
  obtain ⟨A2,n2,k2,x2,e2,hx2⟩:=xz h2
  obtain ⟨A3,n3,k3,x3,e3,hx3⟩:=xz h3
  obtain ⟨A5,n5,k5,x5,e5,hx5⟩:=xz h5
  obtain ⟨m4,e4,_⟩:=gz av h4
  obtain ⟨m6,e6,_⟩:=gz av h6
  simp at e0 e1 e2 e3 e4 e5 e6
  subst e0 e1 e2 e3 e4 e5 e6
  exact ⟨⟨x0,x1,x2,x3,m4,x5,m6⟩,⟨⟨A0,n0,k0⟩,⟨A1,n1,k1⟩,⟨A2,n2,k2⟩,⟨A3,n3,k3⟩,⟨A5,n5,k5⟩⟩,rfl,hx0,hx1,hx2,hx3,hx5⟩
theorem PL:Tryz.prog.cellsOf 131=9:=by kernel_rfl
theorem Tc {fuel:Nat} {cs:List Value} {x:DataW H×List MemPlace} (hl:cs.length=9) (h:DataW.trod enc Tryz.prog W 0 sp held fuel 131 cs=some x): ∃e:Ev,e.cells=cs/\(-9223372036854775808<=e.place/\e.place<=9223372036854775807):=by
 match cs,hl with
 |[c0,c1,c2,c3,c4,c5,c6,c7,c8],_=>
  obtain ⟨_,_,h0⟩:=cR bT h 0 rfl ep
  obtain ⟨_,_,h1⟩:=cR bT h 1 rfl ep
  obtain ⟨_,_,h2⟩:=cR bT h 2 rfl ep
  obtain ⟨_,_,h3⟩:=cR bT h 3 rfl ep
  obtain ⟨_,_,h4⟩:=cR bT h 4 rfl ep
  obtain ⟨_,_,h5⟩:=cR bT h 5 rfl ep
  obtain ⟨_,_,h6⟩:=cR bT h 6 rfl ep
  obtain ⟨_,_,h7⟩:=cR bT h 7 rfl ep
  obtain ⟨_,_,h8⟩:=cR bT h 8 rfl ep
  obtain ⟨m0,e0,_⟩:=gz av h0
  obtain ⟨m1,e1,_⟩:=gz av h1
  obtain ⟨m2,e2,_⟩:=gz av h2
  obtain ⟨m3,e3,_⟩:=gz av h3
  obtain ⟨m4,e4,_⟩:=gz av h4
  obtain ⟨m5,e5,_⟩:=gz av h5
  obtain ⟨m6,e6,w6⟩:=gz av h6
  obtain ⟨m7,e7,_⟩:=gz av h7
  obtain ⟨m8,e8,_⟩:=gz av h8
  simp at e0 e1 e2 e3 e4 e5 e6 e7 e8
  subst e0 e1 e2 e3 e4 e5 e6 e7 e8
  exact ⟨⟨m0,m1,m2,m3,m4,m5,m6,m7,m8⟩,rfl,Ug w6⟩
theorem MG (hv:Value.okWide Tryz.prog W .any base 43 v) (h:DataW.Trod enc Tryz.prog W 0 sp held 43 v d ps): ∃A n c xs,v= .slice A n c/\rO W A n xs/\zz xs:=by
 obtain ⟨a,l,c,rfl⟩:=okWide_slice cY hv
 obtain ⟨_,hf⟩:=h
 obtain ⟨A,n,c',xs,e,hs,_,_,hx⟩:=xy cY PL (by decide) hf
 obtain ⟨ys,hy,hq⟩:=hs.Ea (enc:=Ev.cells) (Q:=λe=> -9223372036854775808<=e.place/\e.place<=9223372036854775807) λx hx'=>by
  obtain ⟨hl,f,y,ht⟩:=hx x hx'
  exact Tc hl ht
 simp [Value.cells] at e
 obtain ⟨rfl,rfl,rfl⟩:=e
 exact ⟨_,_,_,ys,rfl,hy,hq⟩
theorem OV {H:Type} {enc:TypeId×Value->H} {W:World} {sp:Nat->Bool} {held:Bool} {base:Nat} {v:Value} {d:DataW H} {ps:List MemPlace} (hv:Value.okWide Tryz.prog W .any base 5 v) (h:DataW.Trod enc Tryz.prog W 0 sp held 5 v d ps): ∃m,v= .int .u8 m/\0<=m/\m<=255:=by
 obtain ⟨n,rfl⟩:=okWide_int iL hv
 obtain ⟨_,hf⟩:=h
 obtain ⟨m,e,hw⟩:=gz iL hf
 simp [Value.cells] at e
 refine ⟨m,by rw [e],?_⟩
 simp [Lit.wf,IntKind.min,IntKind.max,IntKind.signed,IntKind.bits] at hw
 omega
theorem PE:Tryz.prog.cellsOf 35=5:=by kernel_rfl
theorem PC:Tryz.prog.cellsOf 31=2:=by kernel_rfl
theorem NC:Tryz.prog.cellsOf 29=1:=by kernel_rfl
theorem Nx:Tryz.prog.cellsOf 32=1:=by kernel_rfl
theorem NB:Tryz.prog.cellsOf 33=1:=by kernel_rfl
theorem PF:Tryz.prog.cellsOf 37=1:=by kernel_rfl
theorem PH:Tryz.prog.cellsOf 40=2:=by kernel_rfl
theorem Ju:Tryz.prog.cellsOf 38=1:=by kernel_rfl
theorem PA:Tryz.prog.cellsOf 42=26:=by kernel_rfl
theorem PM: ∃k,Tryz.prog.cellsOf 338=k/\0<k:=⟨_,rfl,by decide+kernel⟩
theorem Px: ∃k,Tryz.prog.cellsOf 277=k/\0<k:=⟨_,rfl,by decide+kernel⟩
theorem PG: ∃k,Tryz.prog.cellsOf 280=k/\0<k:=⟨_,rfl,by decide+kernel⟩
theorem FF {t e:TypeId} {fuel:Nat} {cs:List Value} {x:DataW H×List MemPlace} (ht:Tryz.prog.underlying t=some (.slice e)) (hc: ∃k,Tryz.prog.cellsOf e=k/\0<k) (h:DataW.trod enc Tryz.prog W 0 sp held fuel t cs=some x): ∃s:Sl,cs=[s.v]:=by
 obtain ⟨k,hc,hk⟩:=hc
 obtain ⟨A,n,c,xs,rfl,_⟩:=xy ht hc hk h
 exact ⟨⟨A,n,c⟩,rfl⟩
theorem HQ (hv:Value.okWide Tryz.prog W .any base 42 v) (h:DataW.Trod enc Tryz.prog W 0 sp held 42 v d ps): ∃(f:Fl) (a:FA) (p:Pr) (q:tz) (x:SX),v= .agg (La f a p q x).toArray/\mE W f a/\qh W p q:=by
 obtain ⟨cs,rfl,hsz⟩:=okWide_struct bh hv
 rw [PA] at hsz
 obtain ⟨l⟩:=cs
 match l,hsz with
 |[c0,c1,c2,c3,c4,c5,c6,c7,c8,c9,c10,c11,c12,c13,c14,c15,c16,c17,c18,c19,c20,c21,c22,c23,c24,c25],_=>
  obtain ⟨_,hf⟩:=h
  obtain ⟨_,_,h0⟩:=cR bh hf 0 rfl PK
  obtain ⟨_,_,h1⟩:=cR bh hf 1 rfl PD
  obtain ⟨_,_,h2⟩:=cR bh hf 2 rfl PE
  obtain ⟨_,_,h3⟩:=cR bh hf 3 rfl pj
  obtain ⟨_,_,h4⟩:=cR bh hf 4 rfl ep
  obtain ⟨_,_,h5⟩:=cR bh hf 5 rfl PF
  obtain ⟨_,_,h6⟩:=cR bh hf 6 rfl ep
  obtain ⟨_,_,h7⟩:=cR bh hf 7 rfl ep
  obtain ⟨_,_,h8⟩:=cR bh hf 8 rfl ep
  obtain ⟨_,_,h9⟩:=cR bh hf 9 rfl ep
  obtain ⟨_,_,h10⟩:=cR bh hf 10 rfl PH
  obtain ⟨f,a,e0,hf0⟩:=Tb (cs:=[c0,c1,c2,c3,c4]) rfl h0
  obtain ⟨p,q,e1,hp0⟩:=Ta (cs:=[c5,c6,c7,c8,c9,c10,c11]) rfl h1
  obtain ⟨_,_,g0⟩:=cR (cs:=[c12,c13,c14,c15,c16]) kF h2 0 rfl PC
  obtain ⟨_,_,g1⟩:=cR (cs:=[c12,c13,c14,c15,c16]) kF h2 1 rfl Nx
  obtain ⟨_,_,g2⟩:=cR (cs:=[c12,c13,c14,c15,c16]) kF h2 2 rfl NB
  obtain ⟨_,_,g3⟩:=cR (cs:=[c12,c13,c14,c15,c16]) kF h2 3 rfl ep
  obtain ⟨_,_,r0⟩:=cR (cs:=[c12,c13]) r8 g0 0 rfl ep
  obtain ⟨_,_,r1⟩:=cR (cs:=[c12,c13]) r8 g0 1 rfl NC
  obtain ⟨_,_,w0⟩:=cR (cs:=[c19]) Tryz.underlying37 h5 0 rfl pj
  obtain ⟨_,_,k0⟩:=cR (cs:=[c24,c25]) Tryz.underlying40 h10 0 rfl Ju
  obtain ⟨_,_,k1⟩:=cR (cs:=[c24,c25]) Tryz.underlying40 h10 1 rfl Ju
  obtain ⟨nd,x0,_⟩:=gz (cs:=[c12]) av r0
  obtain ⟨ed,x1⟩:=FF (cs:=[c13]) Tryz.underlying29 PM r1
  obtain ⟨tk,x2⟩:=FF (cs:=[c14]) Tryz.underlying32 Px g1
  obtain ⟨ne,x3⟩:=FF (cs:=[c15]) Tryz.underlying33 PG g2
  obtain ⟨ha,x4,_⟩:=gz (cs:=[c16]) av g3
  obtain ⟨zo,x5⟩:=FF (cs:=[c17]) aA ⟨_,ep,by decide⟩ h3
  obtain ⟨si,x6,_⟩:=gz (cs:=[c18]) av h4
  obtain ⟨wt,x7⟩:=FF (cs:=[c19]) aA ⟨_,ep,by decide⟩ w0
  obtain ⟨ea,x8,_⟩:=gz (cs:=[c20]) av h6
  obtain ⟨bu,x9,_⟩:=gz (cs:=[c21]) av h7
  obtain ⟨le,x10,_⟩:=gz (cs:=[c22]) av h8
  obtain ⟨wi,x11,_⟩:=gz (cs:=[c23]) av h9
  obtain ⟨ka,x12,_⟩:=gz (cs:=[c24]) jB k0
  obtain ⟨kb,x13,_⟩:=gz (cs:=[c25]) jB k1
  refine ⟨f,a,p,q,⟨nd,ed,tk,ne,ha,zo,si,wt,ea,bu,le,wi,ka,kb⟩,?_,hf0,hp0⟩
  simp at x0 x1 x2 x3 x4 x5 x6 x7 x8 x9 x10 x11 x12 x13
  subst x0 x1 x2 x3 x4 x5 x6 x7 x8 x9 x10 x11 x12 x13
  have e3:La f a p q ⟨nd,ed,tk,ne,ha,zo,si,wt,ea,bu,le,wi,ka,kb⟩=f.cells a++p.cells q++[.int .i64 nd,ed.v,tk.v,ne.v, .int .i64 ha,zo.v, .int .i64 si,wt.v, .int .i64 ea, .int .i64 bu, .int .i64 le, .int .i64 wi, .int .u64 ka, .int .u64 kb]:=rfl
  rw [e3,e0,e1];rfl
end
def QI:Value:= .agg #[.int .i64 0, .int .i64 0, .int .i64 0, .slice none 0 0, .slice none 0 0, .slice none 0 0, .slice none 0 0, .slice none 0 0, .slice none 0 0, .int .i64 0, .slice none 0 0, .int .i64 0, .int .i64 0, .slice none 0 0, .slice none 0 0, .slice none 0 0, .int .i64 0, .slice none 0 0, .int .i64 0, .slice none 0 0, .int .i64 0, .int .i64 0, .int .i64 0, .int .i64 0, .int .u64 0, .int .u64 0]
end Go.Proofs.Aud
