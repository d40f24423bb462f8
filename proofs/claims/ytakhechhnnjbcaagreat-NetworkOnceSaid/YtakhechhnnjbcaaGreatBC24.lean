import Derived.Test.YtakhechhnnjbcaaGreatBC07
import Derived.Test.YtakhechhnnjbcaaGreatBC19
import Derived.Test.YtakhechhnnjbcaaGreatBC23
import Derived.Test.YtakhechhnnjbcaaGreatBC04
import Derived.Test.YtakhechhnnjbcaaGreatTc
set_option maxRecDepth 100000
set_option maxHeartbeats 8000000
set_option linter.unusedVariables false
set_option linter.unusedSimpArgs false
namespace Go.Proofs.Hom
open Go Go.RowKit Go.Proofs.E Go.Proofs.Cus Go.Proofs.Far
theorem Se {fs:Array Field} (h:Tryz.prog.underlying 127=some (.struct fs):=by exact qR):dN Tryz.prog fs [(0,1),(1,1)]:=by
 rw [qR] at h;cases h;intro w;kernel_rfl
def pq (f:Fl) (p:Pr) (k:Int):Int:=if jk f p≠0 then jk f p else if k<1∨8<k then 1 else 0
theorem GA (f:Fl) (fa:FA) (p:Pr) (a:xz) (k:Int) (w:World) (hf:kp w f fa) (hp:lK w p a) (hk:pq f p k≠0):Calls Tryz.prog 11 #[.agg (f.cells fa).toArray, .agg (p.cells a).toArray, .int .i64 k] w fun e w'=>e= .returned (.tuple #[.pointer none, .int .i64 (pq f p k)])∧gz w w':=by
 refine aS Tryz.func11 rfl Tryz.ntmps11 rfl ?_;iterate 2 refine G ?_
 refine cd (v:= .agg _) rfl rfl fun b3=>?_;refine cd (v:= .agg _) rfl rfl fun b4=>?_;iterate 9 refine G ?_
 refine gV (en Wd (gr (q0 rfl) (q0 rfl))) (fun _ w hw=>CD f fa p a w (hf.mem hw) (hp.mem hw)) ?_;iterate 9 refine G ?_
 refine au rfl ?_ ?_<;>intro h1
 ·have h1':jk f p≠0:=by simpa using h1
  iterate 9 refine G ?_
  exact fV (v:= .pointer _) (x:= .int _ _) rfl rfl rfl rfl fun w' hw=>⟨by unfold pq;rw [av h1'],hw.1⟩
 have h1':jk f p=0:=by simpa using h1
 iterate 13 refine G ?_
 refine au rfl ?_ ?_<;>intro h2
 ·have h2':k<1∨8<k:=by simpa using h2
  iterate 8 refine G ?_
  exact fV (v:= .pointer _) (x:= .int _ _) rfl rfl rfl rfl fun w' hw=>⟨by unfold pq;rw [ah (fun h=>h h1'),av h2'],hw.1⟩
 exfalso;have h2': ¬(k<1∨8<k):=by simpa using h2
 unfold pq at hk;rw [ah (fun h=>h h1'),ah h2'] at hk;exact hk rfl
def Jk (b:Nat):List Value:=[.pointer (some ⟨b,0,none⟩)]
abbrev xX (A:Option Addr) (c:Nat) (l:List Nat):E.Item:=dR 98 1 Jk A c l
def Ht (b:Bool):List Value:=[.bool b]
theorem pP {f:Fl} {p:Pr} (h:jk f p=0):fR f=0:=by
 refine dZ fun hn=>?_;unfold jk at h;rw [av hn] at h;exact hn h
end Go.Proofs.Hom
namespace Go.Proofs.Net
open Go Go.RowKit Go.Proofs.E Go.Proofs.Cus Go.Proofs.Far Go.Proofs.Hom
def Po (n:Nat) (b:Nat×Nat):List Value:=[.slice (some ⟨b.1,0,none⟩) n b.2]
abbrev yN (n:Nat) (A:Option Addr) (c:Nat) (l:List (Nat×Nat)):E.Item:=dR 103 1 (Po n) A c l
structure SA where
 s:Nat
 r:Nat
 m:Nat
 d:Nat
 e:Nat
 A:Option Addr
 c:Nat
structure NM where
 nb:Nat
 d:Sl
 t:Sl
 p:xz
 sA:Option Addr
 sc:Nat
 ss:List Nat
 bA:Option Addr
 bc:Nat
 bs:List (Nat×Nat)
 kA:Option Addr
 kc:Nat
abbrev C' (a:SA) (lose:Int):E.Item:=box a.s 102 [.pointer (some ⟨a.r,0,none⟩), .pointer (some ⟨a.d,0,none⟩), .int .i64 lose]
abbrev UZ (dv:Int) (a:SA) (x:SS):List E.Item:=C' a x.lose::(DI a.r a.m dv x.eO++jv a.d a.e a.A a.c x.gm)
abbrev Gw (f:Fl) (p:Pr) (M:NM) (k:Nat):List Value:=[.int .i64 f.eV, .int .i64 f.na, .int .i64 f.aH,M.d.v,M.t.v,M.p.t.v,M.p.p.v,M.p.pl.v,M.p.d.v, .int .i64 p.cap,M.p.f.v, .int .i64 p.days, .slice M.sA M.ss.length M.sc, .slice M.bA M.bs.length M.bc, .slice M.kA k M.kc]
abbrev kZ (f:Fl) (p:Pr) (M:NM) (bank:List Py):List E.Item:=[box M.nb 97 (Gw f p M bank.length),xX M.sA M.sc M.ss,yN M.ss.length M.bA M.bc M.bs,mM M.kA M.kc bank]
theorem G0 {fs:Array Field} (h:Tryz.prog.underlying 102=some (.struct fs):=by exact lB):dN Tryz.prog fs [(0,1),(1,1),(2,1)]:=by
 rw [lB] at h;cases h;intro w;kernel_rfl
theorem Vm {fs:Array Field} (h:Tryz.prog.underlying 97=some (.struct fs):=by exact xK):dN Tryz.prog fs [(0,5),(5,7),(12,1),(13,1),(14,1)]:=by
 rw [xK] at h;cases h;intro w;kernel_rfl
def sg (bank:List Py) (p:Py):List Py:=if (nc bank p).2=0 then (nc bank p).1 else bank
theorem M5 (b:List Py) (p:Py) (h:b.length≤256):(nc b p).1.length≤256:=by
 rw [AW];split
 ·simp
 split
 ·simp
 split
 ·exact h
 split
 ·simp
 simp;omega
theorem TH {f:Fl} {pr:Pr} {M:NM} {bank:List Py} {a:SA} {lose:Int} (p:Py) {w0 w:World} {L:List E.Item} (hL:marks L=[]) (hw:Mem w0 (kZ f pr M bank++C' a lose::L) w) (hn:bank.length≤256) (hls:lose≤1000000):
  Calls Tryz.prog 87 #[.pointer (some ⟨M.nb,0,none⟩), .pointer (some ⟨a.s,0,none⟩), .agg p.cells.toArray] w fun q w'=> ∃x:Option Addr×Nat,q= .returned (.int .i64 (if 0<lose then 33 else (nc bank p).2))∧Mem w0 (kZ f pr {M with kA:=x.1,kc:=x.2} (sg bank p)++C' a (if 0<lose then lose -1 else lose)::L) w':=by
 refine eu hw hL Tryz.func87 rfl Tryz.ntmps87 rfl ?_;iterate 2 refine G ?_
 refine cd (v:= .agg _) rfl rfl fun b5=>?_;iterate 4 refine G ?_
 refine jK [7,8,9,10,11,12,13,14,15,16,17] (fun x:(Option Addr×Nat)×Nat=>[(7, .pointer (some ⟨x.2,0,none⟩)),(8, .int .i64 (nc bank p).2)]) (fun x=>mM x.1.1 x.1.2 (nc bank p).1::box x.2 42 [.slice x.1.1 (nc bank p).1.length x.1.2]::box b5 90 p.cells::kZ f pr M bank++C' a lose::L) (fun _=>True) ?_ ?_
 ·refine AQ ?_;refine aW 0 ?_;refine aW 1 ?_;refine aW 2 ?_;refine iQ 3 rfl (eP sK ga (q0 rfl)) ?_;refine aW 4 ?_;refine kY (i:=5) (j:=9) (by decide+kernel) (bK 0) ?_ ?_
  ·refine aL rfl (di (en Tryz.call134 (gr (q0 rfl) (q0 rfl))) (fun w hw=>RY bank p M.kA M.kc w (by first|exact cW hw (j:=4) rfl (fun _=>rfl) (by omega)|exact cW hw (j:=5) rfl (fun _=>rfl) (by omega)) hn) rfl (fun _=>rfl) fun y=>?_);refine aW 6 ?_;refine aW 7 ?_;refine aW 8 ?_;refine r1 9 1 ?_;refine aL rfl (lX jq rfl fun b7=>?_);refine aI 1 ?_;refine r1 10 2 ?_;refine aL rfl (kU (v:= .agg _) rfl rfl ga ?_);refine xw (bK 2) ?_;refine aW 11 ?_;refine jz 0 ?_;exact aO ((y,b7):(Option Addr×Nat)×Nat) eE ⟨rfl,rfl,trivial⟩ (fun w hw=>hw) rfl trivial
  refine aL rfl (lX jq rfl fun b7=>?_);refine r1 5 1 ?_;refine aL rfl (di (en Tryz.call134 (gr (q0 rfl) (q0 rfl))) (fun w hw=>RY bank p M.kA M.kc w (by first|exact cW hw (j:=4) rfl (fun _=>rfl) (by omega)|exact cW hw (j:=5) rfl (fun _=>rfl) (by omega)) hn) rfl (fun _=>rfl) fun y=>?_);refine aW 6 ?_;refine aW 7 ?_;refine aW 8 ?_;refine r1 10 2 ?_;refine aL rfl (kU (v:= .agg _) rfl rfl ga ?_);refine xw (bK 2) ?_;refine aW 11 ?_;refine jz 0 ?_;exact aO ((y,b7):(Option Addr×Nat)×Nat) eE ⟨rfl,rfl,trivial⟩ (fun w hw=>hw) rfl trivial
 rintro ⟨⟨kA,kc⟩,bb⟩ g _;iterate 8 refine G ?_
 refine jK [20,21,22,23] (fun _:Unit=>[]) (fun _=>kZ f pr {M with kA:=(if (nc bank p).2=0 then kA else M.kA),kc:=(if (nc bank p).2=0 then kc else M.kc)} (sg bank p)++C' a lose::L) (fun _=>True) ?_ ?_
 ·refine au rfl ?_ ?_<;>intro h1
  ·have h1':(nc bank p).2=0:=by simpa using h1
   iterate 5 refine G ?_
   refine fI (v:= .agg _) rfl rfl ga ?_;refine G ?_;exact aO () eE trivial (fun w hw=>by
    have hb:sg bank p=(nc bank p).1:=by unfold sg;rw [av h1']
    rw [hb,av h1',av h1'];exact hw.dh 8 [3,4,5,0,7] (by decide) (by decide)) rfl trivial
  have h1': ¬(nc bank p).2=0:=by simpa using h1
  refine G ?_;exact aO () eE trivial (fun w hw=>by
   have hb:sg bank p=bank:=by unfold sg;rw [ah h1']
   rw [hb,ah h1',ah h1'];exact hw.tail.tail.tail) rfl trivial
 rintro _ g2 _;iterate 11 refine G ?_
 refine au rfl ?_ ?_<;>intro h2
 ·have h2':0<lose:=by simpa using h2
  rw [av h2',av h2'];iterate 9 refine G ?_
  refine fI (v:= .int _ _) rfl rfl ax ?_;iterate 9 refine G ?_
  exact bH (v:= .int _ _) rfl rfl hL fun w' hw=>⟨(_,_),rfl,hw⟩
 have h2': ¬0<lose:=by simpa using h2
 rw [ah h2',ah h2'];iterate 9 refine G ?_
 exact bH (v:= .int _ _) rfl rfl hL fun w' hw=>⟨(_,_),rfl,hw⟩
end Go.Proofs.Net
