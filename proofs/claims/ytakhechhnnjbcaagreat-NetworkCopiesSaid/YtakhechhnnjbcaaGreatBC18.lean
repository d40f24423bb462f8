import Derived.Test.YtakhechhnnjbcaaGreatBC17
import Derived.Test.YtakhechhnnjbcaaGreatBC13
import Derived.Test.YtakhechhnnjbcaaGreatBC16
import Derived.Test.YtakhechhnnjbcaaGreatBC14
import Derived.Test.YtakhechhnnjbcaaGreatBC04
import Derived.Test.YtakhechhnnjbcaaGreatTc
set_option maxRecDepth 100000
set_option maxHeartbeats 8000000
set_option linter.unusedVariables false
set_option linter.unusedSimpArgs false
namespace Go.Proofs.Far
open Go Go.RowKit Go.Proofs.E Go.Proofs.Cus Go.Proofs.Rid
theorem TC (A:Option Addr) (n c:Nat) (l:List o0) (B:Option Addr) (m d:Nat) (rs:List RX) (w:World) (hp:sr w A n l) (hr:rE w B m rs) (hpe:lg l=0) (hg:Good (rs.map (·.r))) (hs:rs.Pairwise fun x y=>eB x.r y.r=true):
  Calls Tryz.prog 110 #[.slice A n c, .slice B m d] w fun e w'=> ∃z:Nat,e= .returned (.tuple #[.slice (some ⟨z,0,none⟩) m m, .int .i64 0])∧Mem w [dY (some ⟨z,0,none⟩) m (vX l (rs.map fun x=>my x.r)).1] w':=by
 refine aS Tryz.func110 rfl Tryz.ntmps110 rfl ?_;iterate 11 refine G ?_
 refine gV (en Tryz.call163 (gr (q0 rfl) (q0 rfl))) (fun _ w hw=>Ie A n c l B m d rs w (hp.mem hw) (hr.mem hw) hpe hg) ?_;iterate 9 refine G ?_
 refine au rfl ?_ ?_<;>intro h1
 ·exfalso;simp at h1
 iterate 6 refine G ?_
 refine qW (en Tryz.call164 (gr (q0 rfl) (q0 rfl))) (fun w hw=>Tz A n c l B m d rs w (hp.mem hw) (hr.mem hw) hpe hg hs) rfl (fun _=>rfl) fun z=>?_;iterate 5 refine G ?_
 exact fV (v:= .slice _ _ _) (x:= .int _ _) rfl rfl rfl rfl fun w' hw=>⟨z,rfl,hw⟩
theorem JY (n lo hi:Int) (w:World):Calls Tryz.prog 233 #[.int .i64 n, .int .i64 lo, .int .i64 hi] w fun e w'=>e= .returned (.bool (yB n lo hi))∧gz w w':=by
 refine aS Tryz.func233 rfl Tryz.ntmps233 rfl ?_;iterate 19 refine G ?_
 exact bH (v:= .bool _) rfl rfl rfl fun w' hw=>⟨rfl,hw.1⟩
structure LY (w:World) (A B C:Option Addr) (n:Nat) (xs:List Dy):Prop where
 r:ia w A n (xs.map (·.rider))
 d:ia w B n (xs.map (·.day))
 a:ia w C n (xs.map (·.fM))
theorem LY.mem {w0 w:World} {L:List E.Item} {A B C:Option Addr} {n:Nat} {xs:List Dy} (h:LY w0 A B C n xs) (hm:Mem w0 L w):LY w A B C n xs:=⟨h.r.mem hm,h.d.mem hm,h.a.mem hm⟩
theorem Av {limit:Int} {xs:List Dy} (h:CQ limit xs=0):(0≤limit∧limit≤1000000000000)∧xs.length≤256∧ ∀x∈xs,Ec x=false:=by
 unfold CQ at h;split at h
 ·cases h
 rename_i h1;split at h
 ·cases h
 split at h
 ·cases h
 rename_i h3;refine ⟨mX.1 (by simpa using h1),by omega,fun x hx=>?_⟩;have h4:xs.any Ec=false:=by simpa using h3
 rw [jf] at h4;simpa using h4 x hx
theorem ve {x:Dy} (h:Ec x=false):(0≤x.rider∧x.rider≤127)∧(0≤x.day∧x.day≤49709)∧(0≤x.fM∧x.fM≤1000000000000):=by
 unfold Ec at h;simp only [kN,Me,mX] at h;exact ⟨h.1.1,h.1.2,h.2⟩
theorem Ou (limit:Int) (A:Option Addr) (a:Nat) (B:Option Addr) (b:Nat) (C:Option Addr) (c n:Nat) (xs:List Dy) (w:World) (hx:LY w A B C n xs) (he:CQ limit xs=0):Calls Tryz.prog 170 #[.int .i64 limit, .slice A n a, .slice B n b, .slice C n c] w fun e w'=>e= .returned (.int .i64 0)∧gz w w':=by
 obtain ⟨hlim,hlen,hgood⟩:=Av he;have hl:xs.length=n:=by have:=hx.r.1;rw [aD] at this;exact this
 have hin:yB limit 0 1000000000000=true:=mX.2 hlim;refine aS Tryz.func170 rfl Tryz.ntmps170 rfl ?_;iterate 10 refine G ?_
 refine gV (en I2 (nj (q0 rfl) (q0 rfl) (q0 rfl))) (fun _ w _=>JY limit 0 1000000000000 w) ?_;rw [hin];iterate 4 refine G ?_
 refine au rfl ?_ ?_<;>intro h1
 ·exfalso;cases h1
 iterate 17 refine G ?_
 refine au rfl ?_ ?_<;>intro h2
 ·exfalso;simp at h2
 iterate 8 refine G ?_
 refine au rfl ?_ ?_<;>intro h3
 ·exfalso;simp at h3;omega
 iterate 12 refine G ?_
 refine ct [8,9,33,34,35,36,37,38,39,40,41,42,43,44,45,46,47,48,49,50,51,52,53,54,55,56,57,58] (fun k:Nat=>[(33, .int .i64 k)]) (fun _=>[]) (fun k=>k≤n) (fun k=>n -k) 0 ⟨rfl,trivial⟩ (fun w hw=>hw) rfl (aU _) ?_;rintro k g hk;iterate 6 refine G ?_
 refine au rfl ?_ ?_<;>intro hlt
 ·have hlt':k<n:=by simpa using hlt
  obtain ⟨x,hxk⟩: ∃x,xs[k]?=some x:=⟨_,aj (by omega)⟩;have hb:=ve (hgood x (an hxk));obtain ⟨ab,aoff,v1,rfl,habl,hv1,hra⟩:=hx.r.at_ hlt';obtain ⟨bb,boff,v2,rfl,hbbl,hv2,hrb⟩:=hx.d.at_ hlt';obtain ⟨cb,coff,v3,rfl,hcbl,hv3,hrc⟩:=hx.a.at_ hlt';have e1:v1=x.rider:=by simpa [hxk] using hv1.symm
  have e2:v2=x.day:=by simpa [hxk] using hv2.symm
  have e3:v3=x.fM:=by simpa [hxk] using hv3.symm
  subst e1 e2 e3;have i1:yB x.rider 0 127=true:=mX.2 hb.1;have i2:yB x.day 0 49709=true:=mX.2 hb.2.1;have i3:yB x.fM 0 1000000000000=true:=mX.2 hb.2.2;iterate 14 refine G ?_
  refine bO (bt _ ak ax (q0 rfl) (q0 rfl) (fun _=>⟨rfl,by omega⟩)) ?_;refine bO (ea (v:= .int .i64 x.rider) aJ (q0 rfl) (by exact BR hra habl rfl)) ?_;refine gV (en I2 (nj (q0 rfl) (q0 rfl) (q0 rfl))) (fun _ w _=>JY x.rider 0 127 w) ?_;iterate 4 refine G ?_
  refine L0 (bt _ ak ax (q1 rfl) (q1 rfl) (fun _=>⟨rfl,by omega⟩)) rfl rfl ?_;refine L0 (ea (v:= .int .i64 x.day) aJ (q1 rfl) (by exact BR hrb hbbl rfl)) rfl rfl ?_;refine I7 (en I2 (nj (q1 (v:= .int _ _) rfl) (q0 rfl) (q0 rfl))) (fun _ w _=>JY x.day 0 49709 w) rfl rfl rfl rfl ?_;iterate 5 refine G ?_
  refine L0 (bt _ ak ax (q1 rfl) (q1 rfl) (fun _=>⟨rfl,by omega⟩)) rfl rfl ?_;refine L0 (ea (v:= .int .i64 x.fM) aJ (q1 rfl) (by exact BR hrc hcbl rfl)) rfl rfl ?_;refine I7 (en I2 (nj (q1 (v:= .int _ _) rfl) (q0 rfl) (q0 rfl))) (fun _ w _=>JY x.fM 0 1000000000000 w) rfl rfl rfl rfl ?_;iterate 4 refine G ?_
  refine au rfl ?_ ?_<;>intro h5
  ·exfalso;have h:((!yB x.rider 0 127)||(!yB x.day 0 49709))||(!yB x.fM 0 1000000000000)=true:=by simpa using h5
   rw [i1,i2,i3] at h;simp at h
  iterate 7 refine G ?_
  exact ay (k+1) eE ⟨rfl,trivial⟩ (fun w hw=>hw) rfl (by show k+1≤n;omega) (by show n -(k+1)<n -k;omega)
 iterate 11 refine G ?_
 exact bH (v:= .int _ _) rfl rfl rfl fun w' hw=>⟨rfl,hw.1⟩
theorem Iu:su Tryz.prog 121:=su.array (i:=Tryz.t3) WN aG aJ (by kernel_rfl) rfl
attribute [local irreducible] DS pS rJ
theorem Ov (limit:Int) (A:Option Addr) (a:Nat) (B:Option Addr) (b:Nat) (C:Option Addr) (c n:Nat) (xs:List Dy) (w:World) (hx:LY w A B C n xs) (he:CQ limit xs=0):Calls Tryz.prog 171 #[.int .i64 limit, .slice A n a, .slice B n b, .slice C n c] w fun e w'=> ∃z:(Option Addr×Nat)×(Nat×List ((Int×Int)×Value)),e= .returned (.tuple #[.slice z.1.1 ((Dm limit xs).map (·.2)).length z.1.2, .map (some z.2.1)])∧Mem w [dY z.1.1 z.1.2 ((Dm limit xs).map (·.2)),oT z.2.1 z.2.2] w':=by
 obtain ⟨hlim,hlen,hgood⟩:=Av he;have hl:xs.length=n:=by have:=hx.r.1;rw [aD] at this;exact this
 have hok:=Ph hlim.1 (fun x hx=>(ve (hgood x hx)).2.2);have hdl:=Pj limit xs;refine aS Tryz.func171 rfl Tryz.ntmps171 rfl ?_;iterate 3 refine G ?_
 refine bO (gZ (v:= .map _) (q0 rfl)) ?_;iterate 3 refine G ?_
 refine fY (L':=[dY none 0 []]) (fun w hw=>hw.eX 3 1 aN rfl) rfl ?_;iterate 6 refine G ?_
 refine bZ (Ff rfl fun mb=>?_);refine bO (gZ (v:= .map _) (q0 rfl)) ?_;iterate 11 refine G ?_
 refine ct [10,12,13,14,18,19,20,21,22,23,24,25,26,27,28,29,30,31,32,33,34,35,36,37,38,39,40,41,42,43,44,45,46,47,48,49,50,51,52] (fun q:Nat×(Option Addr×Nat)×List ((Int×Int)×Value)=>[(18, .int .i64 q.1),(10, .slice q.2.1.1 ((DS limit xs q.1).map (·.2)).length q.2.1.2)]) (fun q=>[oT mb q.2.2,dY q.2.1.1 q.2.1.2 ((DS limit xs q.1).map (·.2))]) (fun q=>q.1≤n∧DP q.2.2 (DS limit xs q.1)) (fun q=>n -q.1) (0,(none,0),[]) ⟨rfl,by unfold DS;rfl,trivial⟩ (fun w hw=>by unfold DS;exact hw) rfl ⟨aU _,by unfold DS;exact DP.nil⟩ ?_;rintro ⟨k,⟨oA,oc⟩,mps⟩ g ⟨hk,hDP⟩;simp only at hk hDP;iterate 6 refine G ?_
 refine au rfl ?_ ?_<;>intro hlt
 ·have hlt':k<n:=by simpa using hlt
  obtain ⟨x,hxk⟩: ∃x,xs[k]?=some x:=⟨_,aj (by omega)⟩;have hb:=ve (hgood x (an hxk));obtain ⟨ab,aoff,v1,rfl,habl,hv1,hra⟩:=hx.r.at_ hlt';obtain ⟨bb,boff,v2,rfl,hbbl,hv2,hrb⟩:=hx.d.at_ hlt';obtain ⟨cb,coff,v3,rfl,hcbl,hv3,hrc⟩:=hx.a.at_ hlt';have e1:v1=x.rider:=by simpa [hxk] using hv1.symm
  have e2:v2=x.day:=by simpa [hxk] using hv2.symm
  have e3:v3=x.fM:=by simpa [hxk] using hv3.symm
  subst e1 e2 e3;have hsucc:=Fz (limit:=limit) hxk;have hO:=hok k (by omega);have hpr:=BW hO hb.2.2;have hsr:=hO.sum x.rider x.day;have hkl:=hdl k (by omega);have hlk:=hDP x.rider x.day;rw [hkl] at hsr;have hml:((DS limit xs k).map (·.2)).length=k:=by rw [aD,hkl]
  iterate 7 refine G ?_
  refine bO (bt _ ak ax (q0 rfl) (q0 rfl) (fun _=>⟨rfl,by omega⟩)) ?_;refine bO (ea (v:= .int .i64 x.fM) aJ (q0 rfl) (by exact BR hrc hcbl rfl)) ?_;iterate 5 refine G ?_
  refine AQ ?_;refine aW 0 ?_;refine aW 1 ?_;refine iQ 2 rfl (bt _ ak ax (q0 rfl) (q0 rfl) (fun _=>⟨rfl,by omega⟩)) ?_;refine iQ 3 rfl (ea (v:= .int .i64 x.rider) aJ (q0 rfl) (by exact BR hra habl rfl)) ?_;refine aW 4 ?_;refine aW 5 ?_;refine iQ 6 rfl (bt _ ak ax (q0 rfl) (q0 rfl) (fun _=>⟨rfl,by omega⟩)) ?_;refine iQ 7 rfl (ea (v:= .int .i64 x.day) aJ (q0 rfl) (by exact BR hrb hbbl rfl)) ?_;refine iQ 8 rfl (CP WN ax Tryz.zeroValue121 (pt (v:= .int _ _) rfl (pt (v:= .int _ _) rfl E.p0)) rfl) ?_;refine r1 9 0 ?_;refine aL rfl (lX Tryz.zeroValue121 rfl fun b14=>?_);refine r1 10 1 ?_;refine aL rfl (kU (v:= .agg _) rfl rfl Tryz.sizeOf121 ?_);refine jz 1 ?_;iterate 8 refine G ?_
  refine jK [13,34,35,36,37,38,39,40] (fun _:Unit=>[(13, .int .i64 (pS limit (DS limit xs k) x))]) (fun _=>[oT mb mps,box b14 121 [.int .i64 x.rider, .int .i64 x.day],dY oA oc ((DS limit xs k).map (·.2))]) (fun _=>True) ?_ ?_
  ·refine au rfl ?_ ?_<;>intro h2
   ·have h2':0<limit:=cJ h2;have hpay:pS limit (DS limit xs k) x=min x.fM (limit -rJ (DS limit xs k) x.rider x.day):=by unfold pS;rw [av h2']
    iterate 3 refine G ?_
    refine bO (ez (v:= .map _) (q0 rfl)) ?_;refine G ?_;refine bO (vQ (key:=(x.rider,x.day)) 1 Iu lv bh (q0 rfl) (q0 rfl) rfl (fun _=>hlk)) ?_;refine bO (ou (r:=limit -rJ (DS limit xs k) x.rider x.day) (q0 rfl) (q0 rfl) (fun _=>⟨rfl,by omega,by omega⟩)) ?_;refine bO (Fh (q0 rfl) (q0 rfl)) ?_;iterate 2 refine G ?_
    exact aO () eE ⟨by rw [hpay];rfl,trivial⟩ (fun w hw=>hw.pick [1,0,2] (by decide)) rfl trivial
   have h2': ¬0<limit:=cS h2;have hpay:pS limit (DS limit xs k) x=x.fM:=by unfold pS;rw [ah h2']
   refine G ?_;exact aO () eE ⟨by rw [hpay];rfl,trivial⟩ (fun w hw=>hw.pick [1,0,2] (by decide)) rfl trivial
  intro _ g5 _;iterate 2 refine G ?_
  refine jK [41,42,43,44,45,46,47] (fun _:Unit=>[]) (fun _=>[oT mb (lT mps (x.rider,x.day) (.int .i64 (rJ (DS limit xs k) x.rider x.day+pS limit (DS limit xs k) x))),box b14 121 [.int .i64 x.rider, .int .i64 x.day],dY oA oc ((DS limit xs k).map (·.2))]) (fun _=>True) ?_ ?_
  ·refine zd 1 ?_;refine iQ 0 rfl (ez (v:= .map _) (q0 rfl)) ?_;refine aW 1 ?_;refine aW 3 ?_;refine kY (i:=2) (j:=5) (by decide+kernel) (bK 1) ?_ ?_
   ·(first|refine aL rfl (gY (vQ (key:=(x.rider,x.day)) 0 Iu lv bh (q0 rfl) (q0 rfl) rfl (fun _=>hlk)) rfl rfl ?_)|refine aL rfl (gY (yK (key:=(x.rider,x.day)) 0 Iu lv bh (q0 rfl) (q0 rfl) rfl (fun _=>(hpz.trans hlk))) rfl rfl ?_))
    refine iQ 4 rfl (rB (r:=rJ (DS limit xs k) x.rider x.day+pS limit (DS limit xs k) x) (q0 rfl) (q0 rfl) (fun _=>⟨rfl,by omega,by omega⟩)) ?_;refine r1 5 1 ?_;refine aL rfl (yG (key:=(x.rider,x.day)) 0 Iu lv bh rfl rfl rfl rfl fun born ps' hps hpz=>?_);refine aW 6 ?_;refine r1 7 1 ?_;refine aL rfl (yF 0 rfl rfl rfl rfl hps ?_);refine jz 1 ?_;exact aO () eE trivial (fun w hw=>hw) rfl trivial
   refine aL rfl (yG (key:=(x.rider,x.day)) 0 Iu lv bh rfl rfl rfl rfl fun born ps' hps hpz=>?_);refine aW 6 ?_;refine r1 2 1 ?_
   (first|refine aL rfl (gY (vQ (key:=(x.rider,x.day)) 0 Iu lv bh (q0 rfl) (q0 rfl) rfl (fun _=>hlk)) rfl rfl ?_)|refine aL rfl (gY (yK (key:=(x.rider,x.day)) 0 Iu lv bh (q0 rfl) (q0 rfl) rfl (fun _=>(hpz.trans hlk))) rfl rfl ?_))
   refine iQ 4 rfl (rB (r:=rJ (DS limit xs k) x.rider x.day+pS limit (DS limit xs k) x) (q0 rfl) (q0 rfl) (fun _=>⟨rfl,by omega,by omega⟩)) ?_;refine r1 7 1 ?_;refine aL rfl (yF 0 rfl rfl rfl rfl hps ?_);refine jz 1 ?_;exact aO () eE trivial (fun w hw=>hw) rfl trivial
  intro _ g6 _;iterate 4 refine G ?_
  refine lq (k:=1) (i:=Tryz.t3) 2 ((pS limit (DS limit xs k) x)) ak (by kernel_rfl) rfl rfl rfl rfl ax bh rfl rfl rfl rfl rfl rfl ⟨by simp only;omega,by decide⟩ rfl rfl fun B0 A1 c1=>?_;iterate 8 refine G ?_
  obtain ⟨ps2,hps2⟩: ∃ps2,ps2=lT mps (x.rider,x.day) (.int .i64 (rJ (DS limit xs k) x.rider x.day+pS limit (DS limit xs k) x)):=⟨_,rfl⟩;rw [←hps2];have hmap:(DS limit xs (k+1)).map (·.2)=(DS limit xs k).map (·.2)++[pS limit (DS limit xs k) x]:=by rw [hsucc,bX];rfl
  refine ay (k+1,(A1,c1),ps2) eE ⟨rfl,by rw [hmap];rfl,trivial⟩ (fun w hw=>by rw [hmap];exact hw.pick [0,2] (by decide)) rfl ⟨by simp only;omega,?_⟩ (by simp only;omega);simp only;rw [hsucc,hps2];exact hDP.put x _
 have hend:k=n:=by simp at hlt;omega
 have hfull:DS limit xs k=Dm limit xs:=by unfold DS;rw [bN (by omega)];rfl
 rw [hfull];iterate 8 refine G ?_
 refine bO (ez (v:= .map _) (q0 rfl)) ?_;refine G ?_;refine bO (gZ (v:= .map _) (q0 rfl)) ?_;iterate 3 refine G ?_
 exact fV (v:= .slice _ _ _) (x:= .map _) rfl rfl rfl rfl fun w' hw=>⟨((oA,oc),(mb,mps)),rfl,hw.pick [1,0] (by decide)⟩
theorem Ow (limit:Int) (A:Option Addr) (a:Nat) (B:Option Addr) (b:Nat) (C:Option Addr) (c n:Nat) (xs:List Dy) (w:World) (hx:LY w A B C n xs) (he:CQ limit xs=0):Calls Tryz.prog 112 #[.int .i64 limit, .slice A n a, .slice B n b, .slice C n c] w fun e w'=> ∃z:Option Addr×Nat,e= .returned (.tuple #[.slice z.1 ((Dm limit xs).map (·.2)).length z.2, .int .i64 0])∧Mem w [dY z.1 z.2 ((Dm limit xs).map (·.2))] w':=by
 refine aS Tryz.func112 rfl Tryz.ntmps112 rfl ?_;iterate 13 refine G ?_
 refine gV (en Tryz.call170 (Fb (q0 rfl) (q0 rfl) (q0 rfl) (q0 rfl))) (fun _ w hw=>Ou limit A a B b C c n xs w (hx.mem hw) he) ?_;iterate 9 refine G ?_
 refine au rfl ?_ ?_<;>intro h1
 ·exfalso;simp at h1
 iterate 8 refine G ?_
 refine qW (en Tryz.call171 (Fb (q0 rfl) (q0 rfl) (q0 rfl) (q0 rfl))) (fun w hw=>Ov limit A a B b C c n xs w (hx.mem hw) he) rfl (fun _=>rfl) fun z=>?_;iterate 4 refine G ?_
 refine bO (gZ (v:= .map _) (q0 rfl)) ?_;iterate 10 refine G ?_
 exact fV (v:= .slice _ _ _) (x:= .int _ _) rfl rfl rfl rfl fun w' hw=>⟨z.1,rfl,hw.pick [0] (by decide)⟩
end Go.Proofs.Far
namespace Go.Proofs.Rid
open Go Go.RowKit Go.Proofs.E Go.Proofs.Cus
theorem zR (A:Option Addr) (n c:Nat) (xs:List Lg) (w:World) (hx:gJ w 5 Lg.cells A n xs) (hn:n≤100000):Calls Tryz.prog 176 #[.slice A n c] w fun e w'=> ∃x:Option Addr×Nat,e= .returned (.slice x.1 xs.length x.2)∧Mem w [Ao x.1 x.2 xs] w':=by
 have hl:=hx.1;refine aS Tryz.func176 rfl Tryz.ntmps176 rfl ?_;iterate 9 refine G ?_
 refine bO (ov ef (q0 rfl)) ?_;iterate 2 refine G ?_
 refine au rfl ?_ ?_<;>intro h1
 ·have hA0:A=none:=by simpa using h1
  have hn0:n=0:=by
   rcases du n with h|h
   ·exact h
   obtain ⟨b,off,hb,_⟩:=hx.2.2 h;rw [hA0] at hb;cases hb
  subst hn0;have:xs=[]:=bW hl;subst this;iterate 7 refine G ?_
  exact bH (v:= .slice _ _ _) rfl rfl rfl fun w' hw=>⟨(none,0),rfl,hw.eX _ _ _ rfl⟩
 iterate 4 refine G ?_
 refine bZ (qB Lg.cells ef gP rfl fun A1 c1=>?_);refine G ?_;refine lJ (ba (k:=5) (i:=Tryz.t276) (enc:=Lg.cells) 0 ef (by kernel_rfl) rfl rfl rfl rfl (fun _=>rfl) (fun _=>rfl) rfl rfl rfl (fun w hw=>hx.mem hw) ⟨by simp;omega,by decide⟩ rfl fun A2 c2=>?_);iterate 4 refine G ?_
 exact bH (v:= .slice _ _ _) rfl rfl rfl fun w' hw=>⟨(A2,c2),rfl,hw⟩
theorem zQ (A:Option Addr) (n c:Nat) (xs:List Pz) (w:World) (hx:gJ w 4 Pz.cells A n xs) (hn:n≤100000):Calls Tryz.prog 177 #[.slice A n c] w fun e w'=> ∃x:Option Addr×Nat,e= .returned (.slice x.1 xs.length x.2)∧Mem w [Ai x.1 x.2 xs] w':=by
 have hl:=hx.1;refine aS Tryz.func177 rfl Tryz.ntmps177 rfl ?_;iterate 9 refine G ?_
 refine bO (ov fg (q0 rfl)) ?_;iterate 2 refine G ?_
 refine au rfl ?_ ?_<;>intro h1
 ·have hA0:A=none:=by simpa using h1
  have hn0:n=0:=by
   rcases du n with h|h
   ·exact h
   obtain ⟨b,off,hb,_⟩:=hx.2.2 h;rw [hA0] at hb;cases hb
  subst hn0;have:xs=[]:=bW hl;subst this;iterate 7 refine G ?_
  exact bH (v:= .slice _ _ _) rfl rfl rfl fun w' hw=>⟨(none,0),rfl,hw.eX _ _ _ rfl⟩
 iterate 4 refine G ?_
 refine bZ (qB Pz.cells fg iC rfl fun A1 c1=>?_);refine G ?_;refine lJ (ba (k:=4) (i:=Tryz.t248) (enc:=Pz.cells) 0 fg (by kernel_rfl) rfl rfl rfl rfl (fun _=>rfl) (fun _=>rfl) rfl rfl rfl (fun w hw=>hx.mem hw) ⟨by simp;omega,by decide⟩ rfl fun A2 c2=>?_);iterate 4 refine G ?_
 exact bH (v:= .slice _ _ _) rfl rfl rfl fun w' hw=>⟨(A2,c2),rfl,hw⟩
theorem Ox (x:RX) (w:World) (hx:vu w x) (hl:x.r.cw.length≤100000) (hp:x.r.bz.length≤100000):Calls Tryz.prog 121 #[.agg x.cells.toArray] w fun e w'=> ∃y:Sw,e= .returned (.agg (RX.cells ⟨x.r,y⟩).toArray)∧Mem w (kH ⟨x.r,y⟩) w':=by
 obtain ⟨r,⟨lA,lc,pA,pc⟩⟩:=x;obtain ⟨hlg,hpz⟩:=hx;simp only at hlg hpz hl hp;refine aS Tryz.func121 rfl Tryz.ntmps121 rfl ?_;iterate 2 refine G ?_
 refine cd (v:= .agg _) rfl rfl fun b1=>?_;refine cx dq rfl fun b2=>?_;iterate 3 refine G ?_
 refine jK [3,4,5,6,7,8,9,10] (fun _:Sw=>[]) (fun s=>[Ao s.lA s.lc r.cw,Ai s.pA s.pc r.bz,box b2 191 [.int .i64 0, .int .i64 0, .int .i64 0, .int .i64 0, .int .i64 0, .int .i64 0, .bool false, .slice none 0 0, .slice none 0 0, .int .i64 0, .int .i64 0, .int .i64 0, .int .i64 0],box b1 191 (RX.cells ⟨r,s⟩)]) (fun _=>True) ?_ ?_
 ·refine zd 2 ?_;refine aW 0 ?_;refine aW 3 ?_;refine kY (i:=1) (j:=4) (by decide+kernel) (bK 2) ?_ ?_
  ·refine aL rfl (gY (ea (v:= .slice lA r.cw.length lc) qS (q0 rfl) cb) rfl rfl ?_);refine kY (i:=2) (j:=4) (by decide+kernel) (bK 2) ?_ ?_
   ·refine aL rfl (di (en UD (il (q0 rfl))) (fun w hw=>zR lA _ lc r.cw w (hlg.mem hw) hl) rfl (fun _=>rfl) fun ly=>?_);refine r1 4 3 ?_;refine aL rfl (gY (ea (v:= .slice pA r.bz.length pc) mE (q0 rfl) cb) rfl rfl ?_);refine aW 6 ?_;refine r1 5 3 ?_;refine aL rfl (di (en UC (il (q0 rfl))) (fun w hw=>zQ pA _ pc r.bz w (hpz.mem hw) hp) rfl (fun _=>rfl) fun py=>?_);refine aI 1 ?_;refine r1 7 4 ?_;refine aL rfl (kU (v:= .slice _ _ _) rfl rfl sI ?_);refine aW 8 ?_;refine r1 9 4 ?_;refine aL rfl (kU (v:= .slice _ _ _) rfl rfl mU ?_);refine jz 4 ?_;exact aO (⟨ly.1,ly.2,py.1,py.2⟩:Sw) eE trivial (fun w hw=>hw) rfl trivial
   refine aL rfl (gY (ea (v:= .slice pA r.bz.length pc) mE (q0 rfl) cb) rfl rfl ?_);refine r1 2 2 ?_;refine aL rfl (di (en UD (il (q0 rfl))) (fun w hw=>zR lA _ lc r.cw w (hlg.mem hw) hl) rfl (fun _=>rfl) fun ly=>?_);refine aW 6 ?_;refine r1 5 3 ?_;refine aL rfl (di (en UC (il (q0 rfl))) (fun w hw=>zQ pA _ pc r.bz w (hpz.mem hw) hp) rfl (fun _=>rfl) fun py=>?_);refine aI 1 ?_;refine r1 7 4 ?_;refine aL rfl (kU (v:= .slice _ _ _) rfl rfl sI ?_);refine aW 8 ?_;refine r1 9 4 ?_;refine aL rfl (kU (v:= .slice _ _ _) rfl rfl mU ?_);refine jz 4 ?_;exact aO (⟨ly.1,ly.2,py.1,py.2⟩:Sw) eE trivial (fun w hw=>hw) rfl trivial
  refine aL rfl (gY (ea (v:= .slice pA r.bz.length pc) mE (q0 rfl) cb) rfl rfl ?_);refine r1 1 2 ?_;refine aL rfl (gY (ea (v:= .slice lA r.cw.length lc) qS (q0 rfl) cb) rfl rfl ?_);refine r1 2 2 ?_;refine aL rfl (di (en UD (il (q0 rfl))) (fun w hw=>zR lA _ lc r.cw w (hlg.mem hw) hl) rfl (fun _=>rfl) fun ly=>?_);refine aW 6 ?_;refine r1 5 3 ?_;refine aL rfl (di (en UC (il (q0 rfl))) (fun w hw=>zQ pA _ pc r.bz w (hpz.mem hw) hp) rfl (fun _=>rfl) fun py=>?_);refine aI 1 ?_;refine r1 7 4 ?_;refine aL rfl (kU (v:= .slice _ _ _) rfl rfl sI ?_);refine aW 8 ?_;refine r1 9 4 ?_;refine aL rfl (kU (v:= .slice _ _ _) rfl rfl mU ?_);refine jz 4 ?_;exact aO (⟨ly.1,ly.2,py.1,py.2⟩:Sw) eE trivial (fun w hw=>hw) rfl trivial
 intro s g _;iterate 4 refine G ?_
 refine fI (v:= .agg _) rfl rfl bo ?_;iterate 3 refine G ?_
 exact mh rfl (RQ 2 rfl rfl jc bo rfl rfl) fun w' hw=>⟨s,rfl,hw.pick [0,1] (by decide)⟩
def O8 (xs:List RX):Prop:= ∀x∈xs,x.r.cw.length≤100000∧x.r.bz.length≤100000
def Uk (l:List Rd):Type:={y:Option Addr×Nat×List RX//y.2.2.map (·.r)=l}
def kT (h:Int) (r:Rd):Bool:=!r.open_&&decide (r.end_.lo<h)
theorem Ba (A:Option Addr) (n c:Nat) (xs:List RX) (h:Int) (w:World) (hx:rE w A n xs) (hs:O8 xs) (hn1:n≤100000):Calls Tryz.prog 65 #[.slice A n c, .int .i64 h] w fun e w'=> ∃y:Uk ((xs.map (·.r)).filter (kT h)),e= .returned (.slice y.1.1 y.1.2.2.length y.1.2.1)∧Mem w [jt y.1.1 y.1.2.1 y.1.2.2,yn y.1.2.2] w':=by
 have hl:=hx.1.1;refine aS Tryz.func65 rfl Tryz.ntmps65 rfl ?_;iterate 19 refine G ?_
 refine ct [5,7,10,11,12,13,14,15,16,17,18,19,20,21,22,23,24,25,26,27,28,29] (fun q:Nat×Option Addr×Nat×List RX=>[(10, .int .i64 q.1),(5, .slice q.2.1 q.2.2.2.length q.2.2.1)]) (fun q=>[jt q.2.1 q.2.2.1 q.2.2.2,yn q.2.2.2]) (fun q=>q.1≤n∧q.2.2.2.length≤q.1∧q.2.2.2.map (·.r)=((xs.map (·.r)).take q.1).filter (kT h)) (fun q=>n -q.1) (0,none,0,[]) ⟨rfl,rfl,trivial⟩ (fun w hw=>((iT.2 hw.1).wE (f:=kH)).eX _ _ _ rfl) rfl ⟨aU _,bq _,rfl⟩ ?_;rintro ⟨k,oA,oc,ys⟩ g ⟨hk,hyk,hall⟩;simp only at hk hyk hall;iterate 6 refine G ?_
 refine au rfl ?_ ?_<;>intro hlt
 ·have hlt':k<n:=by simpa using hlt
  obtain ⟨b,off,y,rfl,hbl,hy,hry⟩:=hx.1.at_ hlt';have hym:=an hy;have hya:=hx.2 y hym;have hys:=hs y hym;have hyr:(xs.map (·.r))[k]?=some y.r:=by simp [hy]
  have hst:=iJ _ _ _ hyr;iterate 6 refine G ?_
  refine bO (bt _ bI bo (q0 rfl) (q0 rfl) (fun _=>⟨rfl,by omega⟩)) ?_;refine G ?_;refine cx dq rfl fun b7=>?_;refine fI (v:= .agg _) rfl rfl bo ?_;iterate 16 refine G ?_
  refine au rfl ?_ ?_<;>intro hb
  ·have hnew: ∀z:Sw,(ys++[(⟨y.r,z⟩:RX)]).map (·.r)=((xs.map (·.r)).take (k+1)).filter (kT h):=fun z=>by
    rw [hst,dw,←hall,bX,iA (show kT h y.r=true from hb)];rfl
   iterate 3 refine G ?_
   refine qW (en Tryz.call121 (il (q0 rfl))) (fun w hw=>Ox y w (hya.mem hw) hys.1 hys.2) rfl (fun _=>rfl) fun z=>?_;refine lq (k:=13) (i:=Tryz.t191) 3 (⟨y.r,z⟩) bI (by kernel_rfl) rfl rfl rfl rfl bo dq rfl rfl rfl rfl rfl rfl ⟨by simp only;omega,by decide⟩ rfl rfl fun PB A1 c1=>?_;iterate 8 refine G ?_
   exact ay (k+1,A1,c1,ys++[⟨y.r,z⟩]) eE ⟨rfl,rfl,trivial⟩ (fun w hw=>by have h1:=hw.pick [0,1,4,3] (by decide);have h2:=Mem.ph (f:=kH) (y:=⟨y.r,z⟩) (xs:=ys) h1;exact h2.pick [1,0] (by decide)) rfl ⟨by show k+1≤_;omega,by simp;omega,hnew z⟩ (by show n -(k+1)<n -k;omega)
  have hold:ys.map (·.r)=((xs.map (·.r)).take (k+1)).filter (kT h):=by
   rw [hst,dw,←hall,iB (by rw [show kT h y.r=false from hb];decide)];simp
  iterate 7 refine G ?_
  exact ay (k+1,oA,oc,ys) eE ⟨rfl,rfl,trivial⟩ (fun w hw=>hw.tail) rfl ⟨by show k+1≤_;omega,by show ys.length≤k+1;omega,hold⟩ (by show n -(k+1)<n -k;omega)
 have hend:k=n:=by simp at hlt;omega
 have hfin:ys.map (·.r)=(xs.map (·.r)).filter (kT h):=by rw [hall,hend,←hl,bN (by simp)]
 iterate 12 refine G ?_
 exact bH (v:= .slice _ _ _) rfl rfl rfl fun w' hw=>⟨⟨(oA,oc,ys),hfin⟩,rfl,hw⟩
end Go.Proofs.Rid
namespace Go.Proofs.Far
open Go Go.RowKit Go.Proofs.E Go.Proofs.Cus Go.Proofs.Rid
theorem Vq {fs:Array Field} (h:Tryz.prog.underlying 272=some (.struct fs):=by exact FD):dN Tryz.prog fs [(0,1),(1,1),(2,1)]:=by
 rw [FD] at h;cases h;intro w;kernel_rfl
theorem WA {fs:Array Field} (h:Tryz.prog.underlying 81=some (.struct fs):=by exact HH):dN Tryz.prog fs [(0,1),(1,1),(2,1),(3,1)]:=by
 rw [HH] at h;cases h;intro w;kernel_rfl
theorem Vt {fs:Array Field} (h:Tryz.prog.underlying 204=some (.struct fs):=by exact FE):dN Tryz.prog fs [(0,4)]:=by
 rw [FE] at h;cases h;intro w;kernel_rfl
section
variable {c:Cx} {w0:World} {L:List E.Item} {f:Fr} {ty t:TypeId} {x:Operand} {g:Bool} {m:Int}
theorem Sg (hx:gw g f x (.int .i64 m)) {r:Int} (hr:g=true→ -m=r∧ -9223372036854775808≤r∧r≤9223372036854775807):iO g c w0 L f (.unOp .neg t x) ty (.int .i64 r):=fun e _ _ _ _ w _=>by
 obtain ⟨rfl,h1,h2⟩:=hr e;have h3:IntKind.i64.wrap (0 -m)= -m:=by rw [Int.zero_sub];exact IntWalk.i64_in _ ⟨h1,h2⟩
 have h4:IntKind.i64.wrap (-m)= -m:=IntWalk.i64_in _ ⟨h1,h2⟩;simp [execOp,hx e,Op.unary,Op.intArith,h3,h4]
end
def lW:List Rd→Int
 |[]=>0
 |r::l=>if dW r≠0 then dW r else lW l
def lR (rs:List Rd):Int:=if 256<rs.length then 8 else if lW rs≠0 then lW rs else if jj [] (rs.map (·.id))=true then 6 else 0
theorem BQ: ∀{l:List Rd},lW l=0→ ∀r∈l,dW r=0
 |[],_,r,hr=>by cases hr
 |x::l,h,r,hr=>by
  unfold lW at h;split at h
  ·omega
  rcases bU.1 hr with rfl|hr
  ·rename_i h2;simpa using h2
  exact BQ h r hr
theorem nH {rs:List Rd} (h:lR rs=0):Good rs:=by
 unfold lR at h;split at h
 ·cases h
 split at h
 ·omega
 split at h
 ·cases h
 rename_i h1 h2 h3;exact ⟨BQ (by simpa using h2),by simpa using h3,by omega⟩
def tw (ids:List Int) (k:Nat):Bool:=jj [] (ids.take k)
theorem I8: ∀(l seen:List Int) (x:Int),jj seen (l++[x])=(jj seen l||mn (seen++l) x)
 |[],seen,x=>by unfold jj mn;simp [jj]
 |y::l,seen,x=>by
  rw [gx];unfold jj;rw [I8 l (seen++[y]) x,cP,Bool.or_assoc];rfl
theorem PI {ids:List Int} {k:Nat} {x:Int} (h:ids[k]?=some x):tw ids (k+1)=(tw ids k||mn (ids.take k) x):=by
 unfold tw;rw [od _ _ _ h,I8];rfl
def zK (ids:List Int):List Int:=ids.foldl (fun l x=>if mn l x then l else l++[x]) []
theorem E9 (ids:List Int): ∀(l:List Int) (x:Int),mn (ids.foldl (fun l x=>if mn l x then l else l++[x]) l) x=(mn l x||mn ids x):=by
 induction ids with
 |nil=>intro l x;unfold mn;simp
 |cons y ids ih=>
  intro l x;rw [cO,ih];by_cases hy:mn l y=true
  ·rw [av hy];have:mn (y::ids) x=((y==x)||mn ids x):=rfl;rw [this];by_cases hx:y=x
   ·subst hx;rw [hy];simp
   have:(y==x)=false:=dt.2 hx;rw [this,Dg]
  rw [ah hy];have h1:mn (l++[y]) x=(mn l x||(y==x)):=by unfold mn;rw [pI];simp
  have h2:mn (y::ids) x=((y==x)||mn ids x):=rfl;rw [h1,h2,Bool.or_assoc]
theorem Lw (ids:List Int) (x:Int):mn (zK ids) x=mn ids x:=by
 unfold zK;rw [E9];rfl
theorem GF: ∀(l:List Int) (x:Int),mn l x=true→ml (qn l) x (.bool true)=qn l
 |[],x,h=>by cases h
 |y::l,x,h=>by
  by_cases hy:y=x
  ·subst hy;simp [qn,ml]
  have h2:(y==x)=false:=dt.2 hy;have h3:mn l x=true:=by
   have:mn (y::l) x=((y==x)||mn l x):=rfl;rw [this,h2,Dg] at h;exact h
  have ih:=GF l x h3;simp only [qn,cI,ml,h2,jy,lM] at ih⊢;rw [ih]
theorem Lc {ids:List Int} {k:Nat} {x:Int} (h:ids[k]?=some x):ml (qn (zK (ids.take k))) x (.bool true)=qn (zK (ids.take (k+1))):=by
 have hs:zK (ids.take (k+1))=if mn (zK (ids.take k)) x then zK (ids.take k) else zK (ids.take k)++[x]:=by
  unfold zK;rw [od _ _ _ h,df];rfl
 rw [hs];by_cases hx:mn (zK (ids.take k)) x=true
 ·rw [av hx,GF _ _ hx]
 rw [ah hx];exact w9 _ _ (by simpa using hx)
theorem H' {l:List Rd} {k:Nat} {r:Rd} (h:l[k]?=some r):lW (l.drop k)=if dW r≠0 then dW r else lW (l.drop (k+1)):=by
 rw [tL h];rfl
attribute [local irreducible] zK tw
theorem P5 (A:Option Addr) (n c:Nat) (rs:List RX) (w:World) (hr:rE w A n rs) (hshort:O8 rs):Calls Tryz.prog 105 #[.slice A n c] w fun e w'=>e= .returned (.int .i64 (lR (rs.map (·.r))))∧gz w w':=by
 have hl:=hr.1.1;have hn:=hr.1.2.1;obtain ⟨ids,hids⟩: ∃ids:List Int,ids=(rs.map (·.r)).map (·.id):=⟨_,rfl⟩;have hidl:ids.length=n:=by rw [hids,aD,aD,hl]
 have hrl:(rs.map (·.r)).length=n:=by rw [aD,hl]
 refine aS Tryz.func105 rfl Tryz.ntmps105 rfl ?_;iterate 13 refine G ?_
 refine au rfl ?_ ?_<;>intro h1
 ·have h1':256<n:=by
   have h:(256:Int)<(n:Int):=cJ h1;omega
  iterate 7 refine G ?_
  exact bH (v:= .int _ _) rfl rfl rfl fun w' hw=>⟨bP (by unfold lR;rw [av (by omega)]),hw.1⟩
 have h1': ¬256<n:=by
  have h: ¬(256:Int)<(n:Int):=cS h1;omega
 have herr:lR (rs.map (·.r))=if lW (rs.map (·.r))≠0 then lW (rs.map (·.r)) else if tw ids n=true then 6 else 0:=by
  unfold lR tw;rw [ah (by omega),hids,bN (by rw [aD];omega)]
 rw [herr];iterate 4 refine G ?_
 refine qK rfl fun bm=>?_;refine bO (gZ (v:= .map _) (q0 rfl)) ?_;iterate 16 refine G ?_
 refine ct [2,4,6,7,14,15,16,17,18,19,20,21,22,23,24,25,26,27,28,29,30,31,32,33] (fun k:Nat=>[(14, .int .i64 k),(4, .bool (tw ids k))]) (fun k=>[kS bm (qn (zK (ids.take k)))]) (fun k=>k≤n∧lW (rs.map (·.r))=lW ((rs.map (·.r)).drop k)) (fun k=>n -k) 0 ⟨rfl,by unfold tw;rfl,trivial⟩ (fun w hw=>by unfold zK;exact hw) rfl ⟨aU _,rfl⟩ ?_;rintro k g ⟨hk,hall⟩;iterate 6 refine G ?_
 refine au rfl ?_ ?_<;>intro hlt
 ·have hlt':k<n:=by
   have h:(k:Int)<(n:Int):=cJ hlt;omega
  obtain ⟨b,off,x,rfl,hbl,hxk,hrx⟩:=hr.1.at_ hlt';have hxm:=an hxk;have hxr:(rs.map (·.r))[k]?=some x.r:=by simp [hxk]
  have hik:ids[k]?=some x.r.id:=by rw [hids];simp [hxk]
  rw [H' hxr] at hall;have hsh:=hshort x hxm;iterate 6 refine G ?_
  refine bO (bt _ bI bo (q0 rfl) (q0 rfl) (fun _=>⟨rfl,by omega⟩)) ?_;refine G ?_;refine cx dq rfl fun b6=>?_;refine fI (v:= .agg _) rfl rfl bo ?_;iterate 6 refine G ?_
  refine gV (en UE (il (q0 rfl))) (fun _ w hw=>yo x w ((hr.2 x hxm).mem hw) (by omega) (by omega)) ?_;iterate 9 refine G ?_
  refine au rfl ?_ ?_<;>intro h2
  ·have h2':dW x.r≠0:=by simpa using h2
   rw [av h2'] at hall;iterate 13 refine G ?_
   exact bH (v:= .int _ _) rfl rfl rfl fun w' hw=>⟨bP (by rw [hall,av h2']),hw.1⟩
  have h2': ¬dW x.r≠0:=by simpa using h2
  rw [ah h2'] at hall;have htw:=PI hik;iterate 6 refine G ?_
  refine L0 (ez (v:= .map _) (q0 rfl)) rfl rfl ?_;iterate 2 refine G ?_
  refine L0 (Fi (u:= .bool (mn (ids.take k) x.r.id)) 1 iq aG gK (q1 rfl) (q1 rfl) rfl (fun _=>by rw [←Lw];exact xd _ _)) rfl rfl ?_;iterate 5 refine G ?_
  refine bO (ez (v:= .map _) (q0 rfl)) ?_;iterate 2 refine G ?_
  refine tv 1 iq aG rfl rfl rfl rfl ?_;iterate 7 refine G ?_
  refine ay (k+1) eE ⟨rfl,by rw [htw];cases tw ids k<;>rfl,trivial⟩ (fun w hw=>?_) rfl ⟨by omega,hall⟩ (by show n -(k+1)<n -k;omega);have:=hw.tail;rw [←Lc hik];exact this
 have hend:k=n:=by
  have h: ¬(k:Int)<(n:Int):=cS hlt;omega
 subst hend;have h0:lW (rs.map (·.r))=0:=by rw [hall,iP (by omega)];rfl
 rw [h0,ah (by omega)];iterate 11 refine G ?_
 refine au rfl ?_ ?_<;>intro h3
 ·have h3':tw ids k=true:=h3;iterate 7 refine G ?_
  exact bH (v:= .int _ _) rfl rfl rfl fun w' hw=>⟨bP (by rw [av h3']),hw.1⟩
 have h3':tw ids k=false:=h3;iterate 8 refine G ?_
 exact bH (v:= .int _ _) rfl rfl rfl fun w' hw=>⟨bP (by rw [h3'];rfl),hw.1⟩
theorem Qd (p:Pr) (a:xz) (x:RX) (w:World) (hp:lK w p a) (hpl:x.r.pl≤9223372036854775807):Calls Tryz.prog 169 #[.agg (p.cells a).toArray, .agg x.cells.toArray] w fun e w'=>e= .returned (.tuple #[.int .i64 (jE p x.r).1, .int .i64 (jE p x.r).2])∧gz w w':=by
 have hl1:=hp.pl.1;have hl2:=hp.dk.1;refine aS Tryz.func169 rfl Tryz.ntmps169 rfl ?_;iterate 2 refine G ?_
 refine cd (v:= .agg _) rfl rfl fun b2=>?_;refine cd (v:= .agg _) rfl rfl fun b3=>?_;iterate 27 refine G ?_
 refine au rfl ?_ ?_<;>intro h1
 ·have h1':x.r.wh=2∧0≤x.r.pl∧x.r.pl<p.places.length:=by
   have h:(((decide (x.r.wh=2))&&decide (0≤x.r.pl))&&decide (x.r.pl<(a.pl.n:Int)))=true:=h1;simp at h;omega
  obtain ⟨k,hk⟩: ∃k:Nat,x.r.pl=(k:Int):=⟨x.r.pl.toNat,by omega⟩;have hkn:k<a.pl.n:=by omega
  obtain ⟨b,off,v,hA,hbl,hv,hrv⟩:=hp.pl.at_ hkn;have hpe:jE p x.r=(v,x.r.pl):=by
   unfold jE;rw [av h1',hk,aM,aq,hv];rfl
  rw [hpe];refine G ?_;refine tB ?_;refine G ?_;refine bO (ea (v:= .slice (some ⟨b,off,none⟩) a.pl.n a.pl.c) js (q0 rfl) (by rw [←hA];exact bx 1 rfl rfl)) ?_;iterate 2 refine G ?_
  refine bO (bt k ak ax (q0 rfl) (q0 rfl) (fun _=>⟨hk,hkn⟩)) ?_;iterate 10 refine G ?_
  exact fV (v:= .int _ _) (x:= .int _ _) rfl rfl rfl rfl fun w' hw=>⟨rfl,hw.1⟩
 have h1': ¬(x.r.wh=2∧0≤x.r.pl∧x.r.pl<p.places.length):=by
  have h:(((decide (x.r.wh=2))&&decide (0≤x.r.pl))&&decide (x.r.pl<(a.pl.n:Int)))=false:=h1;simp at h;omega
 iterate 13 refine G ?_
 refine qV (CL (q1 rfl) (q0 rfl) (fun hg=>by simp at hg;exact ⟨by omega,by omega,by omega⟩)) rfl rfl ?_;iterate 8 refine G ?_
 refine au rfl ?_ ?_<;>intro h2
 ·have h2':x.r.wh=1∧0≤x.r.pl∧x.r.pl/32<p.gk.length:=by
   have h:(((decide (x.r.wh=1))&&decide (0≤x.r.pl))&&decide (x.r.pl/32<(a.d.n:Int)))=true:=h2;simp at h;omega
  obtain ⟨k,hk⟩: ∃k:Nat,x.r.pl/32=(k:Int):=⟨(x.r.pl/32).toNat,by omega⟩;have hkn:k<a.d.n:=by omega
  obtain ⟨b,off,v,hA,hbl,hv,hrv⟩:=hp.dk.at_ hkn;have hpe:jE p x.r=(v,64+x.r.pl/32):=by
   unfold jE;rw [ah h1',av h2',hk,aM,aq,hv];rfl
  rw [hpe];iterate 4 refine G ?_
  refine bO (CL (q0 rfl) (q0 rfl) (fun _=>⟨by omega,by omega,by omega⟩)) ?_;iterate 6 refine G ?_
  refine bO (ea (v:= .slice (some ⟨b,off,none⟩) a.d.n a.d.c) js (q0 rfl) (by rw [←hA];exact bx 1 rfl rfl)) ?_;refine G ?_;refine bO (bt k ak ax (q0 rfl) (q0 rfl) (fun _=>⟨hk,hkn⟩)) ?_;iterate 2 refine G ?_
  refine bO (rB (r:=64+x.r.pl/32) (q0 rfl) (q0 rfl) (fun _=>⟨rfl,by omega,by omega⟩)) ?_;iterate 7 refine G ?_
  exact fV (v:= .int _ _) (x:= .int _ _) rfl rfl rfl rfl fun w' hw=>⟨rfl,hw.1⟩
 have h2': ¬(x.r.wh=1∧0≤x.r.pl∧x.r.pl/32<p.gk.length):=by
  have h:(((decide (x.r.wh=1))&&decide (0≤x.r.pl))&&decide (x.r.pl/32<(a.d.n:Int)))=false:=h2;simp at h;omega
 iterate 10 refine G ?_
 exact fV (v:= .int _ _) (x:= .int _ _) rfl rfl rfl rfl fun w' hw=>⟨by unfold jE;rw [ah h1',ah h2'],hw.1⟩
def Uq.cells (i:Uq):List Value:=[.int .i64 i.kind, .int .i64 i.ref, .int .i64 i.fM]
abbrev u0 (A:Option Addr) (c:Nat) (xs:List Uq):E.Item:=dR 272 3 Uq.cells A c xs
def iY.cells (b:iY) (A:Option Addr) (c:Nat):List Value:=[.int .i64 b.aP, .int .i64 b.rider, .slice A b.items.length c, .int .i64 b.total]
theorem vq {w0 w:World} {L:List E.Item} {q:Nat} {b:iY} {A:Option Addr} {c:Nat} (k r a:Int) (hw:Mem w0 (box q 204 (b.cells A c)::u0 A c b.items::L) w) (hmk:marks L=[]) (hlen:b.items.length≤100) (hb: -9000000000000000000≤b.total+a∧b.total+a≤9000000000000000000):
  Calls Tryz.prog 118 #[.pointer (some ⟨q,0,none⟩), .int .i64 k, .int .i64 r, .int .i64 a] w fun e w'=> ∃z:Option Addr×Nat,e= .returned (.tuple #[])∧Mem w0 (box q 204 ((k6 b k r a).cells z.1 z.2)::u0 z.1 z.2 (k6 b k r a).items::L) w':=by
 refine eu hw hmk Tryz.func118 rfl Tryz.ntmps118 rfl ?_;iterate 7 refine G ?_
 refine au rfl ?_ ?_<;>intro h1
 ·have h1':a=0:=by simpa using h1
  rw [show k6 b k r a=b by unfold k6;rw [av h1']];iterate 2 refine G ?_
  exact lj rfl hmk fun w' hw=>⟨(A,c),rfl,hw⟩
 have h1': ¬a=0:=by simpa using h1
 rw [show k6 b k r a={b with items:=b.items++[⟨k,r,a⟩],total:=b.total+a} by unfold k6;rw [ah h1']];iterate 13 refine G ?_
 refine bO (bS FD Vq Tryz.zeroValue272 (pt (v:= .int _ _) rfl (pt (v:= .int _ _) rfl (pt (v:= .int _ _) rfl E.p0))) rfl) ?_;refine lq (k:=3) (i:=Tryz.t272) 1 ((⟨k,r,a⟩:Uq)) Tryz.underlying79 (by kernel_rfl) rfl rfl rfl rfl Tryz.sizeOf272 Tryz.zeroValue272 rfl rfl rfl rfl rfl rfl ⟨by omega,by decide⟩ rfl rfl fun B0 A1 c1=>?_;iterate 3 refine G ?_
 refine fI (v:= .slice _ _ _) rfl rfl Tryz.sizeOf79 ?_;iterate 9 refine G ?_
 refine bO (rB (r:=b.total+a) (q0 rfl) (q0 rfl) (fun _=>⟨rfl,by omega,by omega⟩)) ?_;iterate 3 refine G ?_
 refine fI (v:= .int _ _) rfl rfl ax ?_;refine G ?_;exact lj rfl hmk fun w' hw=>⟨(A1,c1),rfl,hw⟩
end Go.Proofs.Far
namespace Go.Proofs.Far
open Go.Proofs.Cus Go.Proofs.Rid
theorem rS: ∀(l seen:List Int),jj seen l=false→l.Nodup∧ ∀x∈l,x∉seen
 |[],_,_=>⟨jY,fun x hx=>by cases hx⟩
 |y::l,seen,h=>by
  unfold jj at h;rw [kN] at h;obtain ⟨h1,h2⟩:=rS l _ h.2;have hy:y∉seen:=fun hm=>by
   have:=h.1;rw [jf] at this;exact this y hm (by simp)
  refine ⟨xM.2 ⟨fun hm=>h2 y hm (by simp),h1⟩,fun x hx=>?_⟩;rcases bU.1 hx with rfl|hx
  ·exact hy
  exact fun hm=>h2 x hx (by simp [hm])
theorem uS: ∀(l seen:List Int),l.Nodup→(∀x∈l,x∉seen)→jj seen l=false
 |[],_,_,_=>rfl
 |y::l,seen,h,hs=>by
  unfold jj;obtain ⟨h1,h2⟩:=xM.1 h;rw [kN];refine ⟨?_,uS l _ h2 fun x hx hm=>?_⟩
  ·rw [jf];intro x hx;have: ¬x=y:=fun e=>hs y (by simp) (e▸hx);simpa using this
  rcases aQ.1 hm with hm|hm
  ·exact hs x (aB _ hx) hm
  simp at hm;subst hm;exact h1 hx
def iG (rs:List Rd):List Rd:=(rs.filter fun r=>!r.open_).mergeSort fun a b=>!eB b a
theorem yj {a b c:Rd} (h1:eB a b=true) (h2:eB b c=true):eB a c=true:=by
 unfold eB at*;simp only [dd] at*;omega
theorem EO (a b:Rd):(!eB b a||!eB a b)=true:=by
 unfold eB;simp only [FK,jg,dm];omega
theorem EN (a b c:Rd) (h1:(!eB b a)=true) (h2:(!eB c b)=true):(!eB c a)=true:=by
 unfold eB at*;simp only [jg,dm] at*;omega
theorem KU {a b:Rd} (h:eB b a=false) (hne:a.id≠b.id):eB a b=true:=by
 unfold eB at*;simp only [dd,dm] at*;omega
theorem mB (rs:List Rd):(iG rs).Perm (rs.filter fun r=>!r.open_):=eT _ _
theorem sY {l:List Rd} (hs:l.Pairwise fun a b=>eB b a=false) (hn:(l.map (·.id)).Nodup):l.Pairwise fun a b=>eB a b=true:=by
 have h2:l.Pairwise fun a b=>a.id≠b.id:=gA.1 hn;exact (hs.and h2).imp fun h=>KU h.1 h.2
theorem u5 {rs:List Rd} (h:Good rs):((rs.filter fun r=>!r.open_).map (·.id)).Nodup:=(rS _ _ h.ids).1.sublist (Kq.map _)
theorem rZ {rs:List Rd} (h:Good rs):(iG rs).Pairwise fun a b=>eB a b=true:=by
 refine sY ?_ (((mB rs).map _).nodup_iff.2 (u5 h));have:=iz (le:=fun a b:Rd=>!eB b a) (fun a b c h1 h2=>EN a b c h1 h2) (fun a b=>EO a b) (rs.filter fun r=>!r.open_);exact this.imp fun h=>by simpa using h
theorem vg {rs l:List Rd} (h:Good rs) (hp:l.Perm (rs.filter fun r=>!r.open_)) (hs:l.Pairwise fun a b=>eB b a=false):l=iG rs:=by
 have h1:=sY hs ((hp.map _).nodup_iff.2 (u5 h));refine Bk (le:=fun a b=>eB a b=true) (fun a b _ _ h2 h3=>?_) h1 (rZ h) (hp.trans (mB rs).symm);have:=yj h2 h3;unfold eB at this;simp at this
theorem Eh {rs:List Rd} (h:Good rs):Good (iG rs):=by
 have hm: ∀r∈iG rs,r∈rs:=fun r hr=>(dT.1 ((mB rs).mem_iff.1 hr)).1;refine ⟨fun r hr=>h.ok r (hm r hr),uS _ _ (((mB rs).map _).nodup_iff.2 (u5 h)) (fun x _=>by simp),?_⟩;rw [(mB rs).length_eq];exact jd (da _ _) h.N2
def ri (p:Pr) (o:Option (List iY)) (x:Rd×Int):Option (List iY):=match o with|none=>none|some bs=>match nk p x.1 x.2 with|none=>none|some b=>some (bs++[b])
def th (p:Pr) (l:List (Rd×Int)):Option (List iY):=l.foldl (ri p) (some [])
def FS (p:Pr) (l:List (Rd×Int)) (k:Nat):Option (List iY):=(l.take k).foldl (ri p) (some [])
theorem JN (p:Pr): ∀l:List (Rd×Int),l.foldl (ri p) none=none
 |[]=>rfl
 |x::l=>by rw [cO];exact JN p l
theorem Kf {p:Pr} {l:List (Rd×Int)} {k:Nat} {x:Rd×Int} (h:l[k]?=some x):FS p l (k+1)=ri p (FS p l k) x:=by
 unfold FS;rw [iy,h,df];rfl
theorem RC {p:Pr} {l:List (Rd×Int)} {k:Nat} (h:FS p l k=none):th p l=none:=by
 unfold th;rw [←fz k l,df];unfold FS at h;rw [h];exact JN p _
theorem Pf {p:Pr} {l:List (Rd×Int)} {k:Nat} (h:l.length≤k):FS p l k=th p l:=by
 unfold FS th;rw [bN h]
def qp (vs:List Pen.V) (aP:Int):Int:=match (List.range vs.length).find? fun k=>(vs.getD k Pen.V.zero).aP==aP with|some k=>(k:Int)|none=> -1
def qf (p:Pr) (vs:List Pen.V) (b:iY) (d:Int):iY:=
 if qp vs b.aP<0 then k6 b 6 0 d else k6 (k6 b 6 0 d) 7 (Pen.Di p.cX p.days vs (qp vs b.aP)).1 (Pen.ti p.cX p.days vs (qp vs b.aP)).1
def rj (p:Pr) (vs:List Pen.V) (o:Option (List iY)) (x:iY×Int):Option (List iY):=match o with|none=>none|some bs=>if 1000000000000<(qf p vs x.1 (x.2 -x.1.total)).total then none else some (bs++[qf p vs x.1 (x.2 -x.1.total)])
def tZ (p:Pr) (vs:List Pen.V) (l:List (iY×Int)):Option (List iY):=l.foldl (rj p vs) (some [])
def FN (p:Pr) (vs:List Pen.V) (l:List (iY×Int)) (k:Nat):Option (List iY):=(l.take k).foldl (rj p vs) (some [])
theorem JP (p:Pr) (vs:List Pen.V): ∀l:List (iY×Int),l.foldl (rj p vs) none=none
 |[]=>rfl
 |x::l=>by rw [cO];exact JP p vs l
theorem Fy {p:Pr} {vs:List Pen.V} {l:List (iY×Int)} {k:Nat} {x:iY×Int} (h:l[k]?=some x):FN p vs l (k+1)=rj p vs (FN p vs l k) x:=by
 unfold FN;rw [iy,h,df];rfl
theorem RD {p:Pr} {vs:List Pen.V} {l:List (iY×Int)} {k:Nat} (h:FN p vs l k=none):tZ p vs l=none:=by
 unfold tZ;rw [←fz k l,df];unfold FN at h;rw [h];exact JP p vs _
theorem Pg {p:Pr} {vs:List Pen.V} {l:List (iY×Int)} {k:Nat} (h:l.length≤k):FN p vs l k=tZ p vs l:=by
 unfold FN tZ;rw [bN h]
def px (x:Rd×iY):Dy:=⟨x.1.rider,x.1.start.lo/86400,x.2.total⟩
def nG (p:Pr) (l:List Rd):List Int:=(vX p.iE (l.map my)).1
def kQ (p:Pr) (l:List Rd) (bs:List iY):List Int:=(Dm p.cap ((l.zip bs).map px)).map (·.2)
def sq (l:List iY):List iY:=l.mergeSort fun a b=>decide (a.aP≤b.aP)
def vp (p:Pr) (rs:List Rd) (vs:List Pen.V):Option (List iY):=
 match th p ((iG rs).zip (nG p (iG rs))) with
 |none=>none
 |some bs=>match tZ p vs (bs.zip (kQ p (iG rs) bs)) with
  |none=>none
  |some cs=>some (sq cs)
def dS (f:Fl) (p:Pr) (rs:List Rd) (vs:List Pen.V):Int:=
 if jk f p≠0 then jk f p else if lR rs≠0 then lR rs else if Pen.sd vs≠0 then Pen.sd vs else if vp p rs vs=none then 2 else 0
def iW (f:Fl) (p:Pr) (rs:List Rd) (vs:List Pen.V):List iY:=if jk f p≠0∨lR rs≠0∨Pen.sd vs≠0 then [] else (vp p rs vs).getD []
theorem G1 {f:Fl} {p:Pr} {r:Rd} {u:Int} {b:iY} (he:jk f p=0) (hc:dW r=0) (h:nk p r u=some b):0≤b.total∧b.total≤1000000000000∧b.items.length≤5∧b.aP=r.id∧b.rider=r.rider:=by
 obtain ⟨_,htf,_⟩:=nI he;obtain ⟨hvk,hvt⟩:=Mq (r:=r) htf;have hvi:=pL.1 hvt;have hrs:=BM hc;have hps:=BY hc;have hrn:=EP hvt (s:=nR r) hrs.2;have hpn:=Jp hvt (s:=rK r) hps.2;have hbt:=CX p r;have hplt:=DM p r;have hpat:=BZ p r u;unfold nk at h;split at h
 ·cases h
 split at h
 ·cases h
 split at h
 ·cases h
 split at h
 ·cases h
 rename_i h4;cases h;refine ⟨?_,by omega,?_,?_,?_⟩
 ·rw [hpat];split
  ·omega
  omega
 ·have l1:(tp p r).items.length≤3:=by
   unfold tp;have a1:=mQ ⟨r.id,r.rider,[],0⟩ 1 (o8 p r) (jh p r).unlock;have a2:=mQ (k6 ⟨r.id,r.rider,[],0⟩ 1 (o8 p r) (jh p r).unlock) 2 (o8 p r) (nS (jh p r) (nR r));have a3:=mQ (k6 (k6 ⟨r.id,r.rider,[],0⟩ 1 (o8 p r) (jh p r).unlock) 2 (o8 p r) (nS (jh p r) (nR r))) 3 (o8 p r) (qd (jh p r) (rK r));simp only [eU] at a1;omega
  have l2:(wW p r).items.length≤4:=by
   have:=mQ (tp p r) 4 (jE p r).2 (max (jE p r).1 (-(tp p r).total));unfold wW;omega
  unfold s6;split
  ·have:=mQ (wW p r) 5 u (-(min (wW p r).total ((jh p r).unlock+ql p r u)));omega
  omega
 ·unfold s6 wW tp;split<;>simp only [nN]
 unfold s6 wW tp;split<;>simp only [nN]
theorem G2 {cX:List Int} {days:Int} {vs:List Pen.V} {i:Int} (h:Pen.rL cX days=0):0≤(Pen.ti cX days vs i).1∧(Pen.ti cX days vs i).1≤1000000:=by
 unfold Pen.ti;split
 ·simp
 split
 ·simp
 simp only;unfold Pen.G3;split
 ·simp
 have hb:cX.any Pen.mY=false:=by
  unfold Pen.rL at h;split at h
  ·cases h
  split at h
  ·cases h
  rename_i h2;simpa using h2
 rw [jf] at hb;rw [aq];cases hk:cX[min (Pen.num days vs (vs.getD i.toNat Pen.V.zero)).toNat cX.length -1]? with
 |none=>simp
 |some x=>
  have:=hb x (an hk);unfold Pen.mY at this;simp at this;simp only [l6];omega
end Go.Proofs.Far
