import Derived.Test.YtakhechhnnjbcaaGreatBC21
import Derived.Test.YtakhechhnnjbcaaGreatBC18
import Derived.Test.YtakhechhnnjbcaaGreatBC19
import Derived.Test.YtakhechhnnjbcaaGreatBC20
import Derived.Test.YtakhechhnnjbcaaGreatBC04
import Derived.Test.YtakhechhnnjbcaaGreatTc
set_option maxRecDepth 100000
set_option maxHeartbeats 8000000
set_option linter.unusedVariables false
set_option linter.unusedSimpArgs false
namespace Go.Proofs.Rid
open Go Go.RowKit Go.Proofs.E Go.Proofs.Cus
def Pm:Sp:=⟨0,0,0,false⟩
theorem ER (k n:Nat) (h:k<n):(List.replicate k (-1:Int)++List.replicate (n -k) 0).set k (-1)=List.replicate (k+1) (-1)++List.replicate (n -(k+1)) 0:=by
 rw [ib _ _ (by simp),show n -k=(n -(k+1))+1 by omega,rI,me,fy,sM,HJ,cP];rfl
theorem ES (k n:Nat) (h:k<n):(List.replicate k (-1:Int)++List.replicate (n -k) 0)[k]?=some 0:=by
 rw [cy (by simp),me,fy,gp,av (by omega)]
theorem Mem.Rm {w0 w:World} {T T' L:List E.Item} (h:Mem w0 (dD T::L) w) (hp:T'.Perm T):Mem w0 (dD T'::L) w:=
 (h.uG.perm (tS L hp)).dD
abbrev O9 (l:List Rd):Type:={y:Option Addr×Nat×List RX//y.2.2.map (·.r)=l}
theorem Ay (f:Fl) (a:FA) (A:Option Addr) (n c:Nat) (xs:List Ev) (w:World) (hf:kp w f a) (hx:HC w A n xs) (hn:n≤1000) (hpl:IY xs) (hr20:(kf f xs).cg.length≤20):
  Calls Tryz.prog 63 #[.agg (f.cells a).toArray, .slice A n c] w fun r w'=> ∃y:O9 (iw f xs),r= .returned (.tuple #[.slice y.1.1 y.1.2.2.length y.1.2.1, .int .i64 (fR f)])∧Mem w [jt y.1.1 y.1.2.1 y.1.2.2,yn y.1.2.2] w':=by
 have hxl:=hx.1;have hal:=tu f xs;refine aS Tryz.func63 rfl Tryz.ntmps63 rfl ?_;iterate 2 refine G ?_
 refine cd (v:= .agg _) rfl rfl fun b2=>?_;iterate 8 refine G ?_
 refine qW (en Tryz.call100 (gr (q0 rfl) (q0 rfl))) (fun w hw=>IS f a A n c xs w (hf.mem hw) (hx.mem hw) (by omega) hpl) rfl (fun _=>rfl) fun r1=>?_;iterate 14 refine G ?_
 refine au rfl ?_ ?_<;>intro h1
 ·have h1':fR f≠0:=by simpa using h1
  have ho:iw f xs=[]:=by unfold iw;rw [ah h1']
  iterate 9 refine G ?_
  exact fV (v:= .slice _ _ _) (x:= .int _ _) rfl rfl rfl rfl fun w' hw=>⟨⟨(none,0,[]),ho.symm⟩,rfl,((iT.2 hw.1).wE (f:=kH)).eX _ _ _ rfl⟩
 have h1':fR f=0:=by simpa using h1
 obtain ⟨hbk,-⟩:=rl h1';have hnb:=Cd h1';have ho:iw f xs=Dn (kf f xs).cg:=by unfold iw;rw [av h1']
 have hjn:=tg h1' xs;have hja:=fun k=>Ny h1' xs k;have hbikes: ∀e∈gS f xs,0≤e.bD∧e.bD<(lH f:Int):=fun e he=>by
  obtain ⟨hrp,_⟩:=qF h1' xs (fun _=>());obtain ⟨k,hk⟩:=bC.1 he;have:=(kV (hrp.at_ (g:=fun _=>()) hk).1).2.1;rw [hnb] at this;exact this
 have hst:kf f xs=(gS f xs).foldl dV (gG (lH f)):=rfl;rw [h1',ho];generalize hac0:gS f xs=acc at*;generalize hN:lH f=nb at*;have hnb1:nb≤1000:=by omega
 obtain ⟨r11,r12⟩:=r1;iterate 3 refine G ?_
 refine jK [8,21,22,23,24,25,26,27,28,29] (fun x:YA=>[(8, .pointer (some ⟨x.sb,0,none⟩))]) (fun x=>[box x.sb 183 [.slice none 0 0, .map (some x.m), .slice (some ⟨x.g,0,none⟩) nb nb, .slice none 0 0, .slice (some ⟨x.s,0,none⟩) nb nb],rf (some ⟨x.g,0,none⟩) nb (List.replicate nb 0),E.dR 252 4 Sp.cells (some ⟨x.s,0,none⟩) nb (List.replicate nb Pm),kS x.m [],ig r11 r12 acc]) (fun x=>x.rA=none∧x.rc=0∧x.pA=none∧x.pc=0∧x.gc=nb∧x.sc=nb) ?_ ?_
 ·refine AQ ?_;refine aW 1 ?_;refine aW 2 ?_;refine aW 4 ?_;refine aW 5 ?_;refine P7 (i:=0) (j:=3) (k:=6) (by decide+kernel) (bK 0) ?_ ?_ ?_
  ·refine aL rfl (lO rfl fun b21=>?_);refine kY (i:=3) (j:=6) (by decide+kernel) (bK 1) ?_ ?_
   ·refine aL rfl (jZ (i:=Tryz.t3) (k:=1) (n:=nb) (m:=nb) aN 0 ak (by kernel_rfl) rfl rfl rfl (by show Value.int .i64 f.eV=_;rw [hnb]) (by show Value.int .i64 f.eV=_;rw [hnb]) ⟨⟨bq _,by omega⟩,by decide⟩ rfl fun b24=>?_);refine aI 1 ?_;refine r1 6 2 ?_;refine aL rfl (jZ (i:=Tryz.t252) (k:=4) (n:=nb) (m:=nb) Sp.cells Pm cq (by kernel_rfl) rfl rfl rfl (by show Value.int .i64 f.eV=_;rw [hnb]) (by show Value.int .i64 f.eV=_;rw [hnb]) ⟨⟨bq _,by omega⟩,by decide⟩ rfl fun b27=>?_);refine aI 2 ?_;refine iQ 7 rfl (bS jU D7 oK (pt (v:= .map _) rfl (pt (v:= .slice _ _ _) rfl (pt (v:= .slice _ _ _) rfl E.p0))) rfl) ?_;refine r1 8 3 ?_;refine aL rfl (mo (v:= .agg _) rfl rfl fun b29=>?_);refine aI 3 ?_;refine xw (bK 4) ?_;refine aW 9 ?_;refine jz 0 ?_;exact aO (⟨b29,none,0,b21,b24,nb,none,0,b27,nb⟩:YA) eE ⟨rfl,trivial⟩ (fun w hw=>hw.pick [3,1,2,0,4] (by decide)) rfl ⟨rfl,rfl,rfl,rfl,rfl,rfl⟩
   refine aL rfl (jZ (i:=Tryz.t252) (k:=4) (n:=nb) (m:=nb) Sp.cells Pm cq (by kernel_rfl) rfl rfl rfl (by show Value.int .i64 f.eV=_;rw [hnb]) (by show Value.int .i64 f.eV=_;rw [hnb]) ⟨⟨bq _,by omega⟩,by decide⟩ rfl fun b27=>?_);refine aI 1 ?_;refine r1 3 2 ?_;refine aL rfl (jZ (i:=Tryz.t3) (k:=1) (n:=nb) (m:=nb) aN 0 ak (by kernel_rfl) rfl rfl rfl (by show Value.int .i64 f.eV=_;rw [hnb]) (by show Value.int .i64 f.eV=_;rw [hnb]) ⟨⟨bq _,by omega⟩,by decide⟩ rfl fun b24=>?_);refine aI 1 ?_;refine iQ 7 rfl (bS jU D7 oK (pt (v:= .map _) rfl (pt (v:= .slice _ _ _) rfl (pt (v:= .slice _ _ _) rfl E.p0))) rfl) ?_;refine r1 8 3 ?_;refine aL rfl (mo (v:= .agg _) rfl rfl fun b29=>?_);refine aI 3 ?_;refine xw (bK 4) ?_;refine aW 9 ?_;refine jz 0 ?_;exact aO (⟨b29,none,0,b21,b24,nb,none,0,b27,nb⟩:YA) eE ⟨rfl,trivial⟩ (fun w hw=>hw.pick [3,1,2,0,4] (by decide)) rfl ⟨rfl,rfl,rfl,rfl,rfl,rfl⟩
  ·refine aL rfl (jZ (i:=Tryz.t3) (k:=1) (n:=nb) (m:=nb) aN 0 ak (by kernel_rfl) rfl rfl rfl (by show Value.int .i64 f.eV=_;rw [hnb]) (by show Value.int .i64 f.eV=_;rw [hnb]) ⟨⟨bq _,by omega⟩,by decide⟩ rfl fun b24=>?_);refine kY (i:=0) (j:=6) (by decide+kernel) (bK 1) ?_ ?_
   ·refine aL rfl (lO rfl fun b21=>?_);refine r1 6 2 ?_;refine aL rfl (jZ (i:=Tryz.t252) (k:=4) (n:=nb) (m:=nb) Sp.cells Pm cq (by kernel_rfl) rfl rfl rfl (by show Value.int .i64 f.eV=_;rw [hnb]) (by show Value.int .i64 f.eV=_;rw [hnb]) ⟨⟨bq _,by omega⟩,by decide⟩ rfl fun b27=>?_);refine aI 2 ?_;refine iQ 7 rfl (bS jU D7 oK (pt (v:= .map _) rfl (pt (v:= .slice _ _ _) rfl (pt (v:= .slice _ _ _) rfl E.p0))) rfl) ?_;refine r1 8 3 ?_;refine aL rfl (mo (v:= .agg _) rfl rfl fun b29=>?_);refine aI 3 ?_;refine xw (bK 4) ?_;refine aW 9 ?_;refine jz 0 ?_;exact aO (⟨b29,none,0,b21,b24,nb,none,0,b27,nb⟩:YA) eE ⟨rfl,trivial⟩ (fun w hw=>hw.pick [3,1,2,0,4] (by decide)) rfl ⟨rfl,rfl,rfl,rfl,rfl,rfl⟩
   refine aL rfl (jZ (i:=Tryz.t252) (k:=4) (n:=nb) (m:=nb) Sp.cells Pm cq (by kernel_rfl) rfl rfl rfl (by show Value.int .i64 f.eV=_;rw [hnb]) (by show Value.int .i64 f.eV=_;rw [hnb]) ⟨⟨bq _,by omega⟩,by decide⟩ rfl fun b27=>?_);refine aI 1 ?_;refine r1 0 2 ?_;refine aL rfl (lO rfl fun b21=>?_);refine iQ 7 rfl (bS jU D7 oK (pt (v:= .map _) rfl (pt (v:= .slice _ _ _) rfl (pt (v:= .slice _ _ _) rfl E.p0))) rfl) ?_;refine r1 8 3 ?_;refine aL rfl (mo (v:= .agg _) rfl rfl fun b29=>?_);refine aI 3 ?_;refine xw (bK 4) ?_;refine aW 9 ?_;refine jz 0 ?_;exact aO (⟨b29,none,0,b21,b24,nb,none,0,b27,nb⟩:YA) eE ⟨rfl,trivial⟩ (fun w hw=>hw.pick [3,1,2,0,4] (by decide)) rfl ⟨rfl,rfl,rfl,rfl,rfl,rfl⟩
  refine aL rfl (jZ (i:=Tryz.t252) (k:=4) (n:=nb) (m:=nb) Sp.cells Pm cq (by kernel_rfl) rfl rfl rfl (by show Value.int .i64 f.eV=_;rw [hnb]) (by show Value.int .i64 f.eV=_;rw [hnb]) ⟨⟨bq _,by omega⟩,by decide⟩ rfl fun b27=>?_);refine kY (i:=0) (j:=3) (by decide+kernel) (bK 1) ?_ ?_
  ·refine aL rfl (lO rfl fun b21=>?_);refine r1 3 2 ?_;refine aL rfl (jZ (i:=Tryz.t3) (k:=1) (n:=nb) (m:=nb) aN 0 ak (by kernel_rfl) rfl rfl rfl (by show Value.int .i64 f.eV=_;rw [hnb]) (by show Value.int .i64 f.eV=_;rw [hnb]) ⟨⟨bq _,by omega⟩,by decide⟩ rfl fun b24=>?_);refine aI 1 ?_;refine iQ 7 rfl (bS jU D7 oK (pt (v:= .map _) rfl (pt (v:= .slice _ _ _) rfl (pt (v:= .slice _ _ _) rfl E.p0))) rfl) ?_;refine r1 8 3 ?_;refine aL rfl (mo (v:= .agg _) rfl rfl fun b29=>?_);refine aI 3 ?_;refine xw (bK 4) ?_;refine aW 9 ?_;refine jz 0 ?_;exact aO (⟨b29,none,0,b21,b24,nb,none,0,b27,nb⟩:YA) eE ⟨rfl,trivial⟩ (fun w hw=>hw.pick [3,1,2,0,4] (by decide)) rfl ⟨rfl,rfl,rfl,rfl,rfl,rfl⟩
  refine aL rfl (jZ (i:=Tryz.t3) (k:=1) (n:=nb) (m:=nb) aN 0 ak (by kernel_rfl) rfl rfl rfl (by show Value.int .i64 f.eV=_;rw [hnb]) (by show Value.int .i64 f.eV=_;rw [hnb]) ⟨⟨bq _,by omega⟩,by decide⟩ rfl fun b24=>?_);refine r1 0 2 ?_;refine aL rfl (lO rfl fun b21=>?_);refine iQ 7 rfl (bS jU D7 oK (pt (v:= .map _) rfl (pt (v:= .slice _ _ _) rfl (pt (v:= .slice _ _ _) rfl E.p0))) rfl) ?_;refine r1 8 3 ?_;refine aL rfl (mo (v:= .agg _) rfl rfl fun b29=>?_);refine aI 3 ?_;refine xw (bK 4) ?_;refine aW 9 ?_;refine jz 0 ?_;exact aO (⟨b29,none,0,b21,b24,nb,none,0,b27,nb⟩:YA) eE ⟨rfl,trivial⟩ (fun w hw=>hw.pick [3,1,2,0,4] (by decide)) rfl ⟨rfl,rfl,rfl,rfl,rfl,rfl⟩
 rintro ⟨sb,rA,rc,m,g0,gc,pA,pc,s0,sc⟩ g4 ⟨e1,e2,e3,e4,e5,e6⟩;simp only at e1 e2 e3 e4 e5 e6;subst e1 e2 e3 e4 e5 e6;iterate 13 refine G ?_
 refine ct [9,35,36,37,38,39,40,41,42,43,44] (fun k:Nat=>[(35, .int .i64 k)]) (fun k=>[box sb 183 [.slice none 0 0, .map (some m), .slice (some ⟨g0,0,none⟩) sc sc, .slice none 0 0, .slice (some ⟨s0,0,none⟩) sc sc],rf (some ⟨g0,0,none⟩) sc (List.replicate k (-1)++List.replicate (sc -k) 0),E.dR 252 4 Sp.cells (some ⟨s0,0,none⟩) sc (List.replicate sc Pm),kS m [],ig r11 r12 acc]) (fun k=>k≤sc) (fun k=>sc -k) 0 ⟨rfl,trivial⟩ (fun w hw=>by simpa using hw) rfl (aU _) ?_;rintro k g5 hk;iterate 6 refine G ?_
 refine au rfl ?_ ?_<;>intro hlt
 ·have hlt':k<sc:=by simp at hlt;omega
  have hget:=ES k sc hlt';iterate 16 refine G ?_
  refine bO (bt _ ak ax (q0 rfl) (q0 rfl) (fun _=>⟨rfl,by omega⟩)) ?_;refine bZ (ew 1 (k:=1) (enc:=aN) (-1) rfl rfl ax rfl rfl rfl hget rfl rfl ?_);iterate 7 refine G ?_
  exact ay (k+1) eE ⟨rfl,trivial⟩ (fun w hw=>by show Mem _ [_,rf _ _ (List.replicate (k+1) (-1)++List.replicate (sc -(k+1)) 0),_,_,_] w;rw [←ER k sc hlt'];exact hw) rfl (by show k+1≤sc;omega) (by show sc -(k+1)<sc -k;omega)
 have hkn:k=sc:=by simp at hlt;omega
 subst hkn;refine fY (L':=zm ⟨sb,none,0,m,g0,k,none,0,s0,k⟩ ⟨[],[],List.replicate k (-1),[],List.replicate k Pm⟩++[ig r11 r12 acc]) (fun w hw=>by
  rw [fy,Ko,cz] at hw;have h10:=((hw.wE (f:=kH)).eX 191 13 RX.cells (c:=0) rfl).eX 4 1 LH (c:=0) rfl;have h11:=h10.dh 8 [3,1,2,0,4,5,6,7] (by decide) (by decide);have hc:kO ⟨sb,none,0,m,g0,k,none,0,s0,k⟩ ⟨[],[],List.replicate k (-1),[],List.replicate k Pm⟩=[.slice none 0 0, .map (some m), .slice (some ⟨g0,0,none⟩) k k, .slice none 0 0, .slice (some ⟨s0,0,none⟩) k k]:=by unfold kO;simp
  show Mem _ ([box sb 183 (kO _ _),_,_,_,_,_,_]++[_]) w;rw [hc];exact h11) rfl ?_
 iterate 14 refine G ?_
 refine ct [11,47,48,49,50,51,52,53,54] (fun q:Nat×YA×TY=>[(47, .int .i64 q.1)]) (fun q=>zm q.2.1 q.2.2++[ig r11 r12 acc]) (fun q=>q.1≤acc.length∧q.2.1.sb=sb∧q.2.2.plain=(acc.take q.1).foldl dV (gG k)) (fun q=>acc.length -q.1) (0,⟨sb,none,0,m,g0,k,none,0,s0,k⟩,⟨[],[],List.replicate k (-1),[],List.replicate k Pm⟩) ⟨rfl,trivial⟩ (fun w hw=>hw) rfl ⟨aU _,rfl,rfl⟩ ?_;rintro ⟨i,ya,ty⟩ g6 ⟨hi,hsb,hty⟩;simp only at hi hsb hty;have hJ:=hja i;rw [←hty] at hJ;iterate 6 refine G ?_
 refine au rfl ?_ ?_<;>intro hlt2
 ·have hlt2':i<acc.length:=by simpa using hlt2
  obtain ⟨e,he⟩: ∃e,acc[i]?=some e:=⟨_,aj hlt2'⟩;have hstep:(acc.take (i+1)).foldl dV (gG k)=dV ty.plain e:=by rw [iJ _ _ _ he,df,←hty];rfl
  refine fN (fun w hw=>dP (j:=7) hw rfl (by omega)) fun ⟨rb,hrb⟩=>?_;subst hrb;iterate 6 refine G ?_
  refine bO (bt _ cE bT (q0 rfl) (q0 rfl) (fun _=>⟨rfl,by omega⟩)) ?_;refine G ?_;refine cx cV rfl fun b11=>?_;refine fI (v:= .agg _) rfl rfl bT ?_;iterate 5 refine G ?_
  rw [←hsb];refine bZ (bR (en Tryz.call101 (gr (q0 rfl) (q0 rfl))) (fun w hw=>S7 (a:=ya) (t:=ty) (L:=[_,_]) (Mem.v7 (X:=[_]) (S:=zm ya ty) hw) rfl hJ.wf (by rw [cH];omega) e (hbikes e (an he))) rfl (fun _=>rfl) fun y=>?_);obtain ⟨⟨ya2,ty2⟩,hy1,hy2⟩:=y;iterate 7 refine G ?_
  exact ay (i+1,ya2,ty2) eE ⟨rfl,trivial⟩ (fun w hw=>Mem.v7 (X:=[_]) (S:=zm ya2 ty2) (hw.dh 9 [7,0,1,2,3,4,5,6,8] (by decide) (by decide))|>.dh 9 [0,1,2,3,4,5,6,8] (by decide) (by decide)) rfl ⟨by show i+1≤_;omega,hy1,by show ty2.plain=_;rw [hstep];exact hy2⟩ (by show acc.length -(i+1)<acc.length -i;omega)
 have hend:i=acc.length:=by simp at hlt2;omega
 subst hend;rw [dp,←hst] at hty;obtain ⟨yb,yrA,yrc,ym,yg,ygc,ypA,ypc,ys0,ysc⟩:=ya;simp only at hsb;subst hsb;have hlen:ty.xs.length≤20:=by
  have h0:ty.plain.cg.length=ty.xs.length:=by simp [TY.plain]
  rw [←h0,hty];exact hr20
 iterate 6 refine G ?_
 refine fY (fun w hw=>hw.dh 8 [1,0,2,3,4,5,6,7] (by decide) (by decide)) rfl ?_;iterate 5 refine G ?_
 refine bZ (bR (en Tryz.call102 (gr (q0 rfl) (q0 rfl))) (fun w hw=>S9 hw rfl hlen) rfl (fun _=>rfl) fun u=>?_);obtain ⟨zs,hz⟩:=u;have hzl:zs.length=ty.xs.length:=hz.perm.length_eq;have hids:=hjn.ji.ids;have hu1:zs.map (·.r)=Dn (kf f xs).cg:=Hp (by rw [←hty];exact hz.perm.map _) (by
  refine gA.2 (bj.2 fun p q hp hq hpq=>?_);have:=hz.ok p q zs[p] zs[q] (aU _) hpq hq (aj hp) (aj hq);unfold FO Lv at this;simp at this;exact this) hids
 iterate 13 refine G ?_
 exact fV (v:= .slice _ _ _) (x:= .int _ _) rfl rfl rfl rfl fun w' hw=>⟨⟨(yrA,yrc,zs),hu1⟩,by show Ending.returned (.tuple #[.slice yrA ty.xs.length yrc,_])= .returned (.tuple #[.slice yrA zs.length yrc,_]);rw [hzl],(Mem.Rm (hw.pick [2,0] (by decide)) (T':=zs.flatMap kH) (hz.perm.flatMap_right _)).pick [1,0] (by decide)⟩
end Go.Proofs.Rid
namespace Go.Proofs.Net
open Go.Proofs.Cus Go.Proofs.Rid Go.Proofs.Far
def ki (e:Ev):Int×Int:=(e.device,e.seq)
def fH (l:List Ev):List Ev:=l.mergeSort HE
def fX (n:Int) (l:List Ev) (e:Ev):List Ev×Bool×Int:=
 if e.device<0∨n≤e.device then (l,false,7)
 else if e.seq<1∨1048576<e.seq∨e.at_<0∨e.late<e.at_∨4294943999<e.late then (l,false,1)
 else match l.find? fun x=>decide (ki x=ki e) with
  |some x=>if x=e then (l,false,0) else (l,false,21)
  |none=>if (l.any fun x=>Gos.lU x e)=true then (l,false,9) else if 512≤l.length then (l,false,8) else (l++[e],true,0)
def Ag (l:List Ev) (d:Int):Nat→Nat→Nat
 |0,m=>m
 |k+1,m=>if l.any (fun x=>decide (ki x=(d,(m:Int)+1)))=true then Ag l d k (m+1) else m
def fE (l:List Ev) (d:Int):Nat:=Ag l d (l.length+1) 0
def OX (l:List Ev) (d s:Int):Int:=match l.find? fun x=>decide (ki x=(d,s)) with|some x=>x.at_|none=>0
def xf (l:List Ev):List Nat→Int→Int
 |[],t=>t
 |d::ds,t=>if fE l d=0 then 0 else xf l ds (min t (OX l d (fE l d)))
def l5 (n:Int) (l:List Ev):Int:=xf l (List.range n.toNat) 4294943999
structure Py where
 aP:Int
 rider:Int
 fM:Int
deriving DecidableEq,Inhabited
structure En where
 jF:Py
 state:Int
 tries:Int
deriving DecidableEq,Inhabited
def fW (p:Py):Bool:=((((decide (1≤p.aP)&&decide (p.aP≤1000000))&&decide (0≤p.rider))&&decide (p.rider<128))&&decide (0≤p.fM))&&decide (p.fM≤1000000000000)
def nc (b:List Py) (p:Py):List Py×Int:=
 if fW p=false then ([],1)
 else if b.any (fun x=>decide (x.aP=p.aP)&&!decide (x=p))=true then ([],21)
 else if b.any (fun x=>decide (x=p))=true then (b,0)
 else if 256≤b.length then ([],8) else (b++[p],0)
def AO (d:List En) (p:Py):List En×Int:=
 if fW p=false then (d,1)
 else match d.findIdx? fun x=>decide (x.jF.aP=p.aP) with
  |some i=>if (d.getD i default).jF=p then (d,0) else (d,21)
  |none=>if 256≤d.length then (d,8) else (d++[⟨p,0,0⟩],0)
def iH (d:List En):Nat→Int
 |0=> -1
 |k+1=>match d[k]? with
  |none=>iH d k
  |some x=>if x.state=0∧(iH d k<0∨x.tries<(d.getD (iH d k).toNat default).tries) then (k:Int) else iH d k
def tY (d:List En):Option Nat:=if iH d d.length<0 then none else some (iH d d.length).toNat
def r4 (d:List En) (aP e:Int):List En×Int:=
 match d.findIdx? fun x=>decide (x.jF.aP=aP) with
 |none=>(d,7)
 |some i=>if (d.getD i default).state≠0 then (d,12) else (d.set i {d.getD i default with tries:=(d.getD i default).tries+1,state:=if e=0 then 1 else if e=21 then 2 else 0},0)
def jC (d:List En) (s:Int):List Py:=(d.filter fun x=>decide (x.state=s)).map (·.jF)
def jl (d:List En):List Py:=jC d 0
structure SS where
 eO:List Ev
 gm:List En
 lose:Int
deriving DecidableEq,Inhabited
structure NS where
 gh:List SS
 apart:List (List Bool)
 bank:List Py
deriving DecidableEq,Inhabited
structure k7 where
 kind:Int
 a:Int
 b:Int
 ev:Ev
deriving DecidableEq,Inhabited
def fq (n:Int) (l:List Ev):List Ev→List Ev×Int
 |[]=>(l,0)
 |e::es=>let r:=fX n l e;let q:=fq n r.1 es;(q.1,(if r.2.1=true∧r.2.2=0 then 1 else 0)+q.2)
def AD (q:List Py×List En×Int) (p:Py):List Py×List En×Int:=
 let r:=nc q.1 p
 let b:=if r.2=0 then r.1 else q.1
 if 0<q.2.2 then (b,(r4 q.2.1 p.aP 33).1,q.2.2 -1) else (b,(r4 q.2.1 p.aP r.2).1,q.2.2)
def jB:Nat→List Py×List En×Int→List Py×List En×Int
 |0,q=>q
 |k+1,q=>match tY q.2.1 with
  |none=>q
  |some i=>jB k (AD q (q.2.1.getD i default).jF)
def gO (f:Fl) (l:List Ev):List Rd:=(iw f (fH l)).filter (kT (l5 f.aH l))
open Go Go.RowKit Go.Proofs.E Go.Proofs.Cus Go.Proofs.Gos
theorem Lq:su Tryz.prog 132:=su.struct nE (by kernel_rfl) ⟨by decide,rfl,aJ,⟨_,aG⟩,by decide,rfl,aJ,⟨_,aG⟩,trivial⟩ rfl
def Uz (x:Ev):Value:= .agg x.cells.toArray
def AJ (l:List Ev):List ((Int×Int)×Value):=l.map fun x=>(ki x,Uz x)
abbrev DI (r m:Nat) (dv:Int) (l:List Ev):List E.Item:=[box r 127 [.int .i64 dv, .map (some m)],oT m (AJ l)]
theorem Qb (l:List Ev) (e:Ev):AJ (l++[e])=AJ l++[(ki e,Uz e)]:=by simp [AJ]
theorem qI (l:List Ev) (k:Int×Int):gq (AJ l) k=(l.find? fun x=>decide (ki x=k)).map Uz:=by
 unfold gq AJ;rw [List.find?_map,Option.map_map];have:((fun p:(Int×Int)×Value=>p.1==k)∘fun x:Ev=>(ki x,Uz x))=fun x=>decide (ki x=k):=by
  funext x;rw [mJ];simp
 rw [this];cases l.find? (fun x=>decide (ki x=k))<;>rfl
theorem DQ: ∀{es:List MapEntry} {ps:List ((Int×Int)×Value)},qi es ps→es.map (fun e=>(e.key,e.val))=ps.map fun p=>(kv p.1,p.2)
 |_,_, .nil=>rfl
 |_,_, .cons h1 h2=>by
  rw [cI,cI,DQ h2,h1.1,h1.2]
theorem p9 {w:World} {b:Nat} {t:TypeId} {cs:List Value} (h:(box b t cs).A w):mq w b 0 cs:=fun j u hu=>by
 have hA:w.heap[b]?=some (.cells cs.toArray t (0,0)):=h;simp [World.cell?,hA,hu]
theorem pz {w:World} {b:Nat} {t:TypeId} {cs:List Value} (h:(box b t cs).A w):b<w.heap.size:=by
 have hA:w.heap[b]?=some (.cells cs.toArray t (0,0)):=h;exact (cm.1 hA).1
theorem RN {w:World} {r m:Nat} {dv:Int} {l:List Ev} (h1:(box r 127 [.int .i64 dv, .map (some m)]).A w) (h2:(oT m (AJ l)).A w): ∃es clock,Dp w r 0 (.int .i64 dv) m es clock l:=by
 obtain ⟨es,clock,h3,h4,h5⟩:=h2;refine ⟨es,clock,pz h1,p9 h1,h3,h5,?_⟩;rw [DQ h4,AJ,fO];rfl
theorem DR: ∀{es:List MapEntry} {ps:List ((Int×Int)×Value)},qi es ps→es.length=ps.length
 |_,_, .nil=>rfl
 |_,_, .cons _ h2=>by rw [bB,bB,DR h2]
theorem T2 {c:Cx} {w0:World} {L:List E.Item} {f:Fr} {ty:TypeId} {g:Bool} {x:Operand} {t k e:TypeId} {b:Nat} {ps:List ((Int×Int)×Value)} (ht:c.P.underlying t=some (.map k e)) (hx:gw g f x (.map (some b))) (hA: ∀w,Mem w0 L w→pU w b ps):iO g c w0 L f (.call {callee:= .builtin .len,args:= #[x],argTypes:= #[t]}) ty (.int .i64 ps.length):=fun h _ _ _ _ w hw=>by
 obtain ⟨es,clock,h1,h2,_⟩:=hA w hw;have h3:=DR h2;rw [Ks] at h3;simp [execOp,resolve,invoke,builtin,hx h,Builtin.len_,run_underlying ht,Result.andThen,goInt,MapKept.run_getObj_map h1,h3]
def Vx (x:Ev):List Int:=[x.device,x.seq,x.at_,x.late,x.kind,x.bD,x.place,x.rider,x.aP]
theorem T0 (x y:Ev):(Vx x==Vx y)=decide (x=y):=by
 obtain ⟨x1,x2,x3,x4,x5,x6,x7,x8,x9⟩:=x;obtain ⟨y1,y2,y3,y4,y5,y6,y7,y8,y9⟩:=y;rw [mJ];simp [Vx]
theorem Vy (x y:Ev) (w:World):(Op.equal 58 (.agg x.cells.toArray) (.agg y.cells.toArray)).run Tryz.prog w= .ok (decide (x=y)) w:=by
 have h:=og w (Vx x) (Vx y) rfl bE (by kernel_rfl) ⟨by decide,rfl,aJ,⟨_,aG⟩,by decide,rfl,aJ,⟨_,aG⟩,by decide,rfl,aJ,⟨_,aG⟩,by decide,rfl,aJ,⟨_,aG⟩,by decide,rfl,aJ,⟨_,aG⟩,by decide,rfl,aJ,⟨_,aG⟩,by decide,rfl,aJ,⟨_,aG⟩,by decide,rfl,aJ,⟨_,aG⟩,by decide,rfl,aJ,⟨_,aG⟩,trivial⟩;rw [T0] at h;exact h rfl
theorem vq {r m:Nat} {dv:Int} {l:List Ev} (e:Ev) {w0 w:World} {L:List E.Item} (hL:marks L=[]) (hw:Mem w0 (DI r m dv l++L) w):Calls Tryz.prog 26 #[.pointer (some ⟨r,0,none⟩), .agg e.cells.toArray] w fun q w'=> ∃_x:Unit,q= .returned (.tuple #[.bool (fX dv l e).2.1, .int .i64 (fX dv l e).2.2])∧Mem w0 (DI r m dv (fX dv l e).1++L) w':=by
 refine eu hw hL Tryz.func26 rfl Tryz.ntmps26 rfl ?_;iterate 2 refine G ?_
 refine cd (v:= .agg _) rfl rfl fun b3=>?_;iterate 9 refine G ?_
 refine bO (gj oO (q0 rfl)) ?_;iterate 3 refine G ?_
 refine au rfl ?_ ?_<;>intro hnil
 ·cases hnil
 refine G ?_;refine tB ?_;iterate 15 refine G ?_
 refine au rfl ?_ ?_<;>intro h1
 ·have h1':e.device<0∨dv≤e.device:=by simpa using h1
  have ha:fX dv l e=(l,false,7):=by unfold fX;rw [av h1']
  rw [ha];iterate 9 refine G ?_
  exact fV (v:= .bool _) (x:= .int _ _) rfl rfl rfl hL fun w' hw=>⟨(),rfl,hw.tail⟩
 have h1': ¬(e.device<0∨dv≤e.device):=by simpa using h1
 iterate 30 refine G ?_
 refine au rfl ?_ ?_<;>intro h2
 ·have h2':e.seq<1∨1048576<e.seq∨e.at_<0∨e.late<e.at_∨4294943999<e.late:=by simpa [or_assoc] using h2
  have ha:fX dv l e=(l,false,1):=by unfold fX;rw [ah h1',av h2']
  rw [ha];iterate 9 refine G ?_
  exact fV (v:= .bool _) (x:= .int _ _) rfl rfl rfl hL fun w' hw=>⟨(),rfl,hw.tail⟩
 have h2': ¬(e.seq<1∨1048576<e.seq∨e.at_<0∨e.late<e.at_∨4294943999<e.late):=by simp at h2;omega
 iterate 9 refine G ?_
 refine bO (bS nE NT r6 (pt (v:= .int _ _) rfl (pt (v:= .int _ _) rfl E.p0)) rfl) ?_;refine cx r6 rfl fun b6=>?_;refine fI (v:= .agg _) rfl rfl Tryz.sizeOf132 ?_;iterate 4 refine G ?_
 refine AQ ?_;refine aW 0 ?_;refine aW 1 ?_;refine aW 2 ?_;refine aW 3 ?_;refine aW 4 ?_;cases hf:l.find? (fun x=>decide (ki x=ki e)) with
 |some x=>
  refine iQ 5 rfl (vP (key:=ki e) (u:= .agg x.cells.toArray) (bb:=true) Lq iu cV (q0 rfl) (q0 rfl) (fun w hw=>hw.item (k:=3) rfl) (fun _=>by rw [qI,hf];exact ⟨rfl,rfl⟩)) ?_;refine aW 6 ?_;refine aW 7 ?_;refine aW 8 ?_;refine r1 9 0 ?_;refine aL rfl (lX cV rfl fun b7=>?_);refine r1 10 1 ?_;refine aL rfl (kU (v:= .agg _) rfl rfl bT ?_);refine xw (bK 1) ?_;refine aW 11 ?_;refine jz 0 ?_;iterate 6 refine G ?_
  refine au rfl ?_ ?_<;>intro h3
  ·iterate 5 refine G ?_
   refine bO (CM (Vy x e) (by kernel_rfl) (q0 rfl) (q0 rfl)) ?_;iterate 2 refine G ?_
   refine au rfl ?_ ?_<;>intro h4
   ·have h4':x≠e:=by simpa using h4
    have ha:fX dv l e=(l,false,21):=by unfold fX;rw [ah h1',ah h2',hf];simp only;rw [ah h4']
    rw [ha];iterate 9 refine G ?_
    exact fV (v:= .bool _) (x:= .int _ _) rfl rfl rfl hL fun w' hw=>⟨(),rfl,hw.tail.tail.tail⟩
   have h4':x=e:=by simpa using h4
   have ha:fX dv l e=(l,false,0):=by unfold fX;rw [ah h1',ah h2',hf];simp only;rw [av h4']
   rw [ha];iterate 10 refine G ?_
   exact fV (v:= .bool _) (x:= .int _ _) rfl rfl rfl hL fun w' hw=>⟨(),rfl,hw.tail.tail.tail⟩
  cases h3
 |none=>
  refine iQ 5 rfl (vP (key:=ki e) (bb:=false) Lq iu cV (q0 rfl) (q0 rfl) (fun w hw=>hw.item (k:=3) rfl) (fun _=>by rw [qI,hf];exact ⟨rfl,rfl⟩)) ?_;refine aW 6 ?_;refine aW 7 ?_;refine aW 8 ?_;refine r1 9 0 ?_;refine aL rfl (lX cV rfl fun b7=>?_);refine r1 10 1 ?_;refine aL rfl (kU (v:= .agg _) rfl rfl bT ?_);refine xw (bK 1) ?_;refine aW 11 ?_;refine jz 0 ?_;iterate 6 refine G ?_
  refine au rfl ?_ ?_<;>intro h3
  ·cases h3
  iterate 8 refine G ?_
  refine gV (en Tryz.call62 (gr (q0 rfl) (q0 rfl))) (fun _ w hw=>by obtain ⟨es,ck,hr⟩:=RN (hw.item (k:=3) rfl) (hw.item (k:=4) rfl);exact TT e w hr) ?_;iterate 4 refine G ?_
  refine au rfl ?_ ?_<;>intro h4
  ·have h4':(l.any fun x=>lU x e)=true:=by simpa using h4
   have ha:fX dv l e=(l,false,9):=by unfold fX;rw [ah h1',ah h2',hf];simp only;rw [av h4']
   rw [ha];iterate 9 refine G ?_
   exact fV (v:= .bool _) (x:= .int _ _) rfl rfl rfl hL fun w' hw=>⟨(),rfl,hw.tail.tail.tail⟩
  have h4': ¬(l.any fun x=>lU x e)=true:=by simpa using h4
  iterate 6 refine G ?_
  refine bO (T2 iu (q0 rfl) (fun w hw=>hw.item (k:=4) rfl)) ?_;iterate 4 refine G ?_
  refine au rfl ?_ ?_<;>intro h5
  ·have h5':512≤l.length:=by simp [AJ] at h5;omega
   have ha:fX dv l e=(l,false,8):=by unfold fX;rw [ah h1',ah h2',hf];simp only;rw [ah h4',av h5']
   rw [ha];iterate 9 refine G ?_
   exact fV (v:= .bool _) (x:= .int _ _) rfl rfl rfl hL fun w' hw=>⟨(),rfl,hw.tail.tail.tail⟩
  have h5': ¬512≤l.length:=by simp [AJ] at h5;omega
  have ha:fX dv l e=(l++[e],true,0):=by unfold fX;rw [ah h1',ah h2',hf];simp only;rw [ah h4',ah h5']
  rw [ha];iterate 4 refine G ?_
  refine E.RT rfl rfl (by decide+kernel) ?_;iterate 8 refine G ?_
  refine bZ (TV (key:=ki e) (v:=Uz e) 4 Lq iu rfl rfl rfl rfl (by rw [qI,hf];rfl) ?_);iterate 9 refine G ?_
  exact fV (v:= .bool _) (x:= .int _ _) rfl rfl rfl hL fun w' hw=>⟨(),rfl,by have h:Mem _ (box r 127 [.int .i64 dv, .map (some m)]::oT m (AJ l++[(ki e,Uz e)])::L) _:=hw.tail.tail.tail;rw [←Qb] at h;exact h⟩
theorem Tu {w0 w:World} {L:List E.Item} {b o m clock:Nat} {v:Value} {es:Array MapEntry} {l:List Ev} (h:Dp w0 b o v m es clock l) (hm:Mem w0 L w):Dp w b o v m es clock l:=
 ⟨gL h.lt hm.1.size,h.row.below h.lt hm.1,(hm.1.block m (cm.1 h.map).1).trans h.map,h.born,h.eO⟩
theorem u7 {r m:Nat} {dv:Int} {l:List Ev} (w:World) (h1:(box r 127 [.int .i64 dv, .map (some m)]).A w) (h2:(oT m (AJ l)).A w) (hp: ∀x∈l,0≤x.device∧1≤x.seq) (hn:l.length≤10000):
  Calls Tryz.prog 30 #[.pointer (some ⟨r,0,none⟩)] w fun q w'=> ∃x:Option Addr×Nat,q= .returned (.slice x.1 (fH l).length x.2)∧Mem w [ig x.1 x.2 (fH l)] w':=by
 have hel:(fH l).length=l.length:=kb l;obtain ⟨es,ck,hr⟩:=RN h1 h2;refine aS Tryz.func30 rfl Tryz.ntmps30 rfl ?_;iterate 8 refine G ?_
 refine qW (en Tryz.call67 (gr (q0 rfl) (q0 rfl))) (fun w' hw=>P0 w' (Tu hr hw) hp hn) rfl (fun _=>rfl) fun x=>?_;iterate 4 refine G ?_
 exact bH (v:= .slice _ _ _) rfl rfl rfl fun w' hw=>⟨x.1,by rw [hel],hw⟩
end Go.Proofs.Net
namespace Go.Proofs.E
open Go Go.RowKit
theorem BP {c:Cx} {fn:Func} {w0:World} {L:List Item} {f:Fr} (i:Nat) {a a2 n b:Nat} {t tb:TypeId} {cs:List Value} {x:Value} (hr:fn.results= #[.cell a t, .tmp a2]) (hv:f a= .pointer (some ⟨b,0,none⟩)) (hx:f a2=x) (ht: ∀w,(isAgg t).run c.P w= .ok true w) (hs: ∀w,(sizeOf t).run c.P w= .ok n w)
  (hk:L[i]?=some (box b tb cs)) (hl:cs.length=n):vt c.P c.N fn w0 L f (.tuple #[.agg cs.toArray,x]):=fun w ds ac hw ha=>by
 have h1:=ha.get a;rw [hv,cu] at h1;have h2:=ha.get a2;have:=run_loadCellsFrom (P:=c.P) (w:=w) (b:=b) (o:=0) n 0 #[] cs hl (fun j u hu=>by simpa using gy hw hk hu);simp [results,hr,h1,←hx,←h2,asAddr,loadVar,ht,hs,loadCells,this,Result.andThen]
end Go.Proofs.E
namespace Go.Proofs.Net
open Go Go.RowKit Go.Proofs.E Go.Proofs.Cus
def Py.cells (p:Py):List Value:=[.int .i64 p.aP, .int .i64 p.rider, .int .i64 p.fM]
abbrev mM (A:Option Addr) (c:Nat) (l:List Py):E.Item:=dR 90 3 Py.cells A c l
abbrev C7 (w:World) (A:Option Addr) (n:Nat) (l:List Py):Prop:=gJ w 3 Py.cells A n l
theorem QO {fs:Array Field} (h:Tryz.prog.underlying 90=some (.struct fs):=by exact l8):dN Tryz.prog fs [(0,1),(1,1),(2,1)]:=by
 rw [l8] at h;cases h;intro w;kernel_rfl
theorem NR {fs:Array Field} (h:Tryz.prog.underlying 42=some (.struct fs):=by exact eI):dN Tryz.prog fs [(0,1)]:=by
 rw [eI] at h;cases h;intro w;kernel_rfl
theorem Oa (x y:Py) (w:World):(Op.equal 90 (.agg x.cells.toArray) (.agg y.cells.toArray)).run Tryz.prog w= .ok (decide (x=y)) w:=by
 have h:=og w [x.aP,x.rider,x.fM] [y.aP,y.rider,y.fM] rfl l8 (by kernel_rfl) ⟨by decide,rfl,aJ,⟨_,aG⟩,by decide,rfl,aJ,⟨_,aG⟩,by decide,rfl,aJ,⟨_,aG⟩,trivial⟩;have he:([x.aP,x.rider,x.fM]==[y.aP,y.rider,y.fM])=decide (x=y):=by
  obtain ⟨a,b,c⟩:=x;obtain ⟨d,e,f⟩:=y;rw [mJ];simp
 rw [he] at h;exact h rfl
theorem yq (p:Py) (w:World):Calls Tryz.prog 133 #[.agg p.cells.toArray] w fun e w'=>e= .returned (.bool (fW p))∧gz w w':=by
 refine aS Tryz.func133 rfl Tryz.ntmps133 rfl ?_;iterate 2 refine G ?_
 refine cd (v:= .agg _) rfl rfl fun b1=>?_;iterate 37 refine G ?_
 exact bH (v:= .bool _) rfl rfl rfl fun w' hw=>⟨rfl,hw.1⟩
theorem Hi (A:Option Addr) (n c:Nat) (xs:List Py) (w:World) (hx:C7 w A n xs) (hn:n≤10000):
  Calls Tryz.prog 42 #[.slice A n c] w fun e w'=> ∃x:Option Addr×Nat,e= .returned (.slice x.1 n x.2)∧Mem w [mM x.1 x.2 xs] w':=by
 have hl:=hx.1;refine aS Tryz.func42 rfl Tryz.ntmps42 rfl ?_;iterate 9 refine G ?_
 refine bO (ov gT (q0 rfl)) ?_;iterate 2 refine G ?_
 refine au rfl ?_ ?_<;>intro h1
 ·have hA0:A=none:=by simpa using h1
  have hn0:n=0:=by
   rcases du n with h|h
   ·exact h
   obtain ⟨b,off,hb,_⟩:=hx.2.2 h;rw [hA0] at hb;cases hb
  subst hn0;have:xs=[]:=bW hl;subst this;iterate 7 refine G ?_
  exact bH (v:= .slice _ _ _) rfl rfl rfl fun w' hw=>⟨(none,0),rfl,hw.eX _ _ _ rfl⟩
 iterate 4 refine G ?_
 refine bZ (qB Py.cells gT fj rfl fun A1 c1=>?_);refine G ?_;refine lJ (ba (k:=3) (i:=Tryz.t90) (enc:=Py.cells) 0 gT (by kernel_rfl) rfl rfl rfl rfl (fun _=>rfl) (fun _=>rfl) rfl rfl rfl (fun w hw=>hx.mem hw) ⟨by simp;omega,by decide⟩ rfl fun A2 c2=>?_);iterate 4 refine G ?_
 exact bH (v:= .slice _ _ _) rfl rfl rfl fun w' hw=>⟨(A2,c2),by rw [←hl];rfl,hw⟩
def vf (p x:Py):Bool:=decide (x.aP=p.aP)&&!decide (x=p)
def uJ (p x:Py):Bool:=decide (x=p)
theorem AW (b:List Py) (p:Py):nc b p=if fW p=false then ([],1) else if b.any (vf p)=true then ([],21) else if b.any (uJ p)=true then (b,0) else if 256≤b.length then ([],8) else (b++[p],0):=rfl
theorem wB {α:Type} (l:List α) (k:Nat) (x:α) (h:l[k]?=some x):l.take (k+1)=l.take k++[x]:=by rw [iy,h];rfl
theorem RY (b:List Py) (p:Py) (A:Option Addr) (c:Nat) (w:World) (hx:C7 w A b.length b) (hn:b.length≤256):
  Calls Tryz.prog 134 #[.agg #[.slice A b.length c], .agg p.cells.toArray] w fun e w'=> ∃x:Option Addr×Nat,e= .returned (.tuple #[.agg #[.slice x.1 (nc b p).1.length x.2], .int .i64 (nc b p).2])∧Mem w [mM x.1 x.2 (nc b p).1] w':=by
 rw [AW];refine aS Tryz.func134 rfl Tryz.ntmps134 rfl ?_;iterate 2 refine G ?_
 refine cd (v:= .agg _) rfl rfl fun b2=>?_;refine cd (v:= .agg _) rfl rfl fun b3=>?_;refine cx jq rfl fun b4=>?_;iterate 7 refine G ?_
 refine gV (en Tryz.call133 (il (q0 rfl))) (fun _ w _=>yq p w) ?_;iterate 3 refine G ?_
 refine au rfl ?_ ?_<;>intro h1
 ·have h1':fW p=false:=by simpa using h1
  rw [av h1'];iterate 2 refine G ?_
  refine bO (bS eI NR jq E.p0 rfl) ?_;refine fI (v:= .agg _) rfl rfl ga ?_;iterate 5 refine G ?_
  exact mh rfl (BP 0 rfl rfl rfl sK ga rfl rfl) fun w' hw=>⟨(none,0),rfl,(iT.2 hw.1).eX _ _ _ rfl⟩
 have h1': ¬fW p=false:=by simpa using h1
 rw [ah h1'];iterate 17 refine G ?_
 refine ct [5,6,8,17,18,19,20,21,22,23,24,25,26,27,28,29,30,31,32,33,34,35,36,37,38] (fun s:Nat×Bool=>[(17, .int .i64 s.1),(6, .bool s.2)]) (fun _=>[box b4 42 [.slice none 0 0],box b3 90 p.cells,box b2 42 [.slice A b.length c]]) (fun s=>s.1≤b.length∧(b.take s.1).any (vf p)=false∧(b.take s.1).any (uJ p)=s.2) (fun s=>b.length -s.1) (0,false) ⟨rfl,rfl,trivial⟩ (fun w hw=>hw) rfl ⟨aU _,rfl,rfl⟩ ?_;rintro ⟨i,kn⟩ g ⟨hi,hc,hs⟩;have hi:i≤b.length:=hi;have hc:(b.take i).any (vf p)=false:=hc;have hs:(b.take i).any (uJ p)=kn:=hs;iterate 6 refine G ?_
 refine au rfl ?_ ?_<;>intro hlt
 ·have hlt':i<b.length:=by simpa using hlt
  obtain ⟨bk,off,x,rfl,hbl,hxk,hrx⟩:=hx.at_ hlt';have hs1:=wB b i x hxk;iterate 6 refine G ?_
  refine bO (bt _ gT fj (q0 rfl) (q0 rfl) (fun _=>⟨rfl,by omega⟩)) ?_;refine G ?_;refine cx jo rfl fun b8=>?_;refine fI (v:= .agg _) rfl rfl fj ?_;iterate 13 refine G ?_
  refine qV (CM (Oa x p) (by kernel_rfl) (q1 rfl) (q1 rfl)) rfl rfl ?_;iterate 3 refine G ?_
  refine au rfl ?_ ?_<;>intro h2
  ·have h2':vf p x=true:=h2;rw [av (cY.2 ⟨x,an hxk,h2'⟩)];iterate 2 refine G ?_
   refine bO (bS eI NR jq E.p0 rfl) ?_;refine fI (v:= .agg _) rfl rfl ga ?_;iterate 10 refine G ?_
   exact mh rfl (BP 1 rfl rfl rfl sK ga rfl rfl) fun w' hw=>⟨(none,0),rfl,(iT.2 hw.1).eX _ _ _ rfl⟩
  have h2':vf p x=false:=h2;iterate 7 refine G ?_
  refine L0 (JW (Oa x p) (by kernel_rfl) (q1 rfl) (q1 rfl)) rfl rfl ?_;iterate 9 refine G ?_
  exact ay (i+1,kn||uJ p x) eE ⟨rfl,rfl,trivial⟩ (fun w hw=>hw.tail) rfl ⟨by show i+1≤b.length;omega,by show (b.take (i+1)).any (vf p)=false;rw [hs1,pI,hc];simp [h2'],by show (b.take (i+1)).any (uJ p)=(kn||uJ p x);rw [hs1,pI,hs];simp⟩ (by show b.length -(i+1)<b.length -i;omega)
 have hie:i=b.length:=by simp at hlt;omega
 subst hie;rw [dp] at hc hs;rw [ah (by rw [hc];decide),hs];iterate 9 refine G ?_
 refine qW (en Tryz.call42 (il (q0 rfl))) (fun w hw=>Hi A b.length c b w (hx.mem hw) (by omega)) rfl (fun _=>rfl) fun y=>?_;obtain ⟨A1,c1⟩:=y;refine bO (bS eI NR jq (pt (v:= .slice _ _ _) rfl E.p0) rfl) ?_;refine cx jq rfl fun b9=>?_;refine fI (v:= .agg _) rfl rfl ga ?_;iterate 8 refine G ?_
 refine au rfl ?_ ?_<;>intro h3
 ·have h3':kn=true:=h3;rw [av h3'];iterate 3 refine G ?_
  refine fI (v:= .agg _) rfl rfl ga ?_;iterate 5 refine G ?_
  exact mh rfl (BP 2 rfl rfl rfl sK ga rfl rfl) fun w' hw=>⟨(A1,c1),rfl,hw.pick [1] (by decide)⟩
 have h3': ¬kn=true:=by rw [show kn=false from h3];decide
 rw [ah h3'];iterate 11 refine G ?_
 refine au rfl ?_ ?_<;>intro h4
 ·have h4':256≤b.length:=by simp at h4;omega
  rw [av h4'];iterate 2 refine G ?_
  refine bO (bS eI NR jq E.p0 rfl) ?_;refine fI (v:= .agg _) rfl rfl ga ?_;iterate 5 refine G ?_
  exact mh rfl (BP 2 rfl rfl rfl sK ga rfl rfl) fun w' hw=>⟨(none,0),rfl,(iT.2 hw.1).eX _ _ _ rfl⟩
 have h4': ¬256≤b.length:=by simp at h4;omega
 rw [ah h4'];iterate 7 refine G ?_
 refine lq (k:=3) (i:=Tryz.t90) 1 (p) gT (by kernel_rfl) rfl rfl rfl rfl fj jo rfl rfl rfl rfl rfl rfl ⟨by omega,by decide⟩ rfl rfl fun B A2 c2=>?_;refine G ?_;refine fI (v:= .slice _ _ _) rfl rfl Tryz.sizeOf40 ?_;iterate 5 refine G ?_
 refine fI (v:= .agg _) rfl rfl ga ?_;iterate 4 refine G ?_
 exact mh rfl (BP 2 rfl rfl rfl sK ga rfl rfl) fun w' hw=>⟨(A2,c2),rfl,hw.pick [1] (by decide)⟩
end Go.Proofs.Net
