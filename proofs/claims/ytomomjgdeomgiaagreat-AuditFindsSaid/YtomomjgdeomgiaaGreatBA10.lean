import Derived.Test.YtomomjgdeomgiaaGreatBA09
set_option maxRecDepth 100000
set_option maxHeartbeats 8000000
set_option linter.all false
namespace Go.Proofs.Cus
open Go Go.RowKit Go.Proofs.E
def kJ (f:Fl) (bq:Int):Int:=if fy f≠0 then fy f else if (decide (bq<0)||decide (f.cv<=bq))=true then 7 else 0
def fP (f:Fl) (xs:List Ev) (bq:Int):List gy:=if kJ f bq=0 then (qC 4294944000 (gn f (mv bq.toNat) (setOf xs) (dy (i6 f),(wm bq.toNat,[]))).2).2 else []
theorem wJ {f:Fl} {k:Nat}: ∀(l:List Ev) (x:PS×(gy×List gy)),(gn f (mv k) l x).2.2.length<=x.2.2.length+l.length
 |[],x=>by simp [gn]
 |e::l,x=>by
  have h1:=wJ (f:=f) (k:=k) l (ie (mv k) x.2 e (eE f x.1 e))
  have h2:(ie (mv k) x.2 e (eE f x.1 e)).2.2.length<=x.2.2.length+1:=by
   unfold ie
   split
   ·simp
   unfold mv
   simp only
   split
   ·exact xR _ _
   omega
  show (gn f (mv k) l _).2.2.length<=_
  simp only [cL]
  omega
theorem IE (f:Fl) (a:FA) (A:Option Addr) (n c:Nat) (xs:List Ev) (bq:Int) (w:World) (hf:mE w f a) (hx:rO w A n xs) (hn:n<=10000) (hpl:zz xs):
  Calls Tryz.prog 49 #[.agg (f.cells a).toArray, .slice A n c, .int .i64 bq] w λr w'=> ∃x:Option Addr×Nat,r= .returned (.tuple #[.slice x.1 (fP f xs bq).length x.2, .int .i64 (kJ f bq)])/\Mem w [iE x.1 x.2 (fP f xs bq)] w':=by
 have hxl:=hx.1
 have hsl:=vo xs
 refine dd Tryz.func49 rfl Tryz.ntmps49 rfl ?_
 refine ak ?_
 refine R0 ?_
 refine cd (v:= .agg _) rfl rfl λb3=>?_
 refine cd (v:= .int _ _) rfl rfl λb5=>?_
 refine xV (aU (v:= .slice _ _ _) (q0 rfl)) rfl rfl ?_
 refine xV (aU (v:= .int _ _) (q0 rfl)) rfl rfl ?_
 refine XN ?_
 refine ad ?_
 refine ak ?_
 refine ak ?_
 refine R0 ?_
 refine xV (eS iB cN (q0 rfl)) rfl rfl ?_
 refine xC (en DC (iQ (q0 rfl))) (λ_ w hm=>xM f a w (hf.mem hm)) rfl rfl ?_
 refine xV (aU (v:= .int _ _) (q0 rfl)) rfl rfl ?_
 refine XN ?_
 refine ad ?_
 refine ak ?_
 refine R0 ?_
 refine xV (ay (v:= .int _ _) (q0 rfl)) rfl rfl ?_
 refine xV (ki (q0 rfl) (q0 rfl)) rfl rfl ?_
 refine XN ?_
 refine ad ?_
 refine bD rfl (λh1=>?_) (λh1=>?_)
 ·have h1':fy f≠0:=by simpa using h1
  have he:kJ f bq=fy f:=by unfold kJ;rw [aB h1']
  have ho:fP f xs bq=[]:=by unfold fP;rw [he,an h1']
  rw [he,ho]
  refine ak ?_
  refine R0 ?_
  refine xV (ay (v:= .int _ _) (q0 rfl)) rfl rfl ?_
  refine xV (aU (v:= .slice _ _ _) (q0 rfl)) rfl rfl ?_
  refine xV (aU (v:= .int _ _) (q0 rfl)) rfl rfl ?_
  refine XN ?_
  refine ad ?_
  refine dq ?_
  refine cw ?_
  exact jr (v:= .slice _ _ _) (x:= .int _ _) rfl rfl rfl rfl λw' hw=>⟨(none,0),rfl,(ik.2 hw.1).fY _ _ _ rfl⟩
 have h1':fy f=0:=by simpa using h1
 obtain ⟨hbk,-⟩:=kq h1'
 have hnb:=wy h1'
 refine bZ ?_
 refine ad ?_
 refine ak ?_
 refine ak ?_
 refine R0 ?_
 refine xV (eL aj (q0 rfl)) rfl rfl ?_
 refine xV (gK (q0 rfl) (q0 rfl)) rfl rfl ?_
 refine xV (ay (v:= .bool _) (q0 rfl)) rfl rfl ?_
 refine fE (eL aj (q0 rfl)) rfl rfl rfl rfl ?_
 refine fE (az dI rfl ae rfl (q0 rfl)) rfl rfl rfl rfl ?_
 refine fE (eL aj (q1 rfl)) rfl rfl rfl rfl ?_
 refine fE (CQ (q1 rfl) (q1 rfl)) rfl rfl rfl rfl ?_
 refine xV (jJ (q0 rfl) rfl (λh=>by first|rfl|(rw [h];rfl))) rfl rfl ?_
 refine XN ?_
 refine ad ?_
 refine bD rfl (λh2=>?_) (λh2=>?_)
 ·have he:kJ f bq=7:=by unfold kJ;rw [an (by simp [h1']),aB h2]
  have ho:fP f xs bq=[]:=by unfold fP;rw [he,an (by decide)]
  rw [he,ho]
  refine ak ?_
  refine R0 ?_
  refine xV (aU (v:= .slice _ _ _) (q0 rfl)) rfl rfl ?_
  refine xV (aU (v:= .int _ _) (q0 rfl)) rfl rfl ?_
  refine XN ?_
  refine ad ?_
  refine dq ?_
  refine cw ?_
  exact jr (v:= .slice _ _ _) (x:= .int _ _) rfl rfl rfl rfl λw' hw=>⟨(none,0),rfl,(ik.2 hw.1).fY _ _ _ rfl⟩
 have he:kJ f bq=0:=by unfold kJ;rw [an (by simp [h1']),an (by rw [h2];decide)]
 have hb0:0<=bq/\bq<f.cv:=by simp at h2;omega
 obtain ⟨k,hk⟩: ∃k:Nat,bq=k:=⟨bq.toNat,by omega⟩
 subst hk
 have ho:fP f xs k=(qC 4294944000 (gn f (mv k) (setOf xs) (dy (i6 f),(wm k,[]))).2).2:=by unfold fP;rw [aB he,bC]
 have hbd:=wJ (f:=f) (k:=k) (setOf xs) (dy (i6 f),(wm k,[]))
 simp only [dO] at hbd
 rw [he,ho]
 refine bZ ?_
 refine ad ?_
 refine ak ?_
 refine R0 ?_
 refine xV (eL aj (q0 rfl)) rfl rfl ?_
 refine xV (bN bz H6 fe (pt (v:= .int _ _) rfl (pt (v:= .int _ _) rfl E.p0)) rfl) rfl rfl ?_
 refine bS fe rfl λb9=>?_
 refine dN (v:= .agg _) rfl rfl cy ?_
 refine XN ?_
 refine ad ?_
 refine ak ?_
 refine R0 ?_
 refine bS Tryz.zeroValue44 rfl λb10=>?_
 refine XN ?_
 refine ad ?_
 refine ak ?_
 refine R0 ?_
 refine xV AA rfl rfl ?_
 refine bS Tryz.zeroValue225 rfl λb11=>?_
 refine dN rfl rfl Tryz.sizeOf225 ?_
 refine XN ?_
 refine ad ?_
 refine ak ?_
 refine R0 ?_
 refine xV (eS iB cN (q0 rfl)) rfl rfl ?_
 refine xV (ay (v:= .slice _ _ _) (q0 rfl)) rfl rfl ?_
 refine xV AA rfl rfl ?_
 refine cQ (dD (en SC (nS (q0 rfl) (q0 rfl) (q0 rfl))) (λw hw=>Qd f a A n c (i6 f) xs (some (110,[.pointer (some ⟨b5,0,none⟩), .pointer (some ⟨b9,0,none⟩), .pointer (some ⟨b11,0,none⟩)])) (mv k) (Ho b9 b10 b5 b11 k) (λk z=>z.2.length<=k) (Ox f a (i6 f) b9 b10 b5 b11 k (by omega)) (λ_ _ h=>Nat.le_succ_of_le h) (z0:=(wm k,[])) (x0:=(none,0)) ((hw.fY _ _ _ rfl).pick [3,2,0,4,1,5] (by decide)) rfl (λ_ _=>rfl) (bA _) hf hx hn h1' hnb hpl) rfl (λ_=>rfl) λy=>?_)
 obtain ⟨⟨s,t,x⟩,hsn,htp⟩:=y
 generalize (gn f (mv k) (setOf xs) (dy (i6 f),(wm k,[]))).2=z at*
 obtain ⟨now,out⟩:=z
 simp only at hbd
 refine xV (ay (q0 rfl)) rfl rfl ?_
 refine xV (iW (q0 rfl) rfl) rfl rfl ?_
 refine xV (iW (q0 rfl) rfl) rfl rfl ?_
 refine xV (aU (v:= .pointer _) (q0 rfl)) rfl rfl ?_
 refine xV (aU (v:= .int _ _) (q0 rfl)) rfl rfl ?_
 refine XN ?_
 refine ad ?_
 refine ak ?_
 refine R0 ?_
 refine xV (eL Tryz.isAgg225 (q0 rfl)) rfl rfl ?_
 refine cQ (dD (vU Tryz.call108 (q0 rfl) (λ_=>rfl)) (λw hw=>Qm (now:=now) (out:=out) (x:=x) (L:=[_,_,_,_,_,_,_]) 4294944000 (Mem.uw (X:=[_,_,_,_]) (S:=z' b9 b10 now out x) (L:=[_,_,_]) hw) (by rfl) (by omega)) rfl (λ_=>rfl) λx'=>?_)
 refine XN ?_
 refine ad ?_
 refine ak ?_
 refine R0 ?_
 refine xV (eL gE (q0 rfl)) rfl rfl ?_
 refine xV (ay (v:= .int _ _) (q0 rfl)) rfl rfl ?_
 refine xV (aU (v:= .slice _ _ _) (q0 rfl)) rfl rfl ?_
 refine xV (aU (v:= .int _ _) (q0 rfl)) rfl rfl ?_
 refine XN ?_
 refine ad ?_
 refine dq ?_
 exact jr (v:= .slice _ _ _) (x:= .int _ _) rfl rfl rfl rfl λw' hw=>⟨x',rfl,hw.pick [2] (by decide)⟩
end Go.Proofs.Cus
namespace Go.Proofs.E
open Go Go.RowKit
theorem T7 {g:Bool} {c:Cx} {w0:World} {L:List Item} {f:Fr} {ty:TypeId} {k:FuncId} {recv:Operand} {name:String} {ao:Array Operand} {ts:Array TypeId} {al:List Value} {t:TypeId} {v v':Value}
  (hr:gH g f recv (.iface t v)) (hm: ∀w,(Go.method (c.P.types.size+Made.depth) t v name).run c.P w= .ok (k,v') w) (he: ∀args w,(callFunc k args).run c.P w= .ok (.enter k args) w) (ha:g=true->ao.toList.map (ev f)=al):
  lV g c w0 L f (.call {callee:= .invoke recv name,args:=ao,argTypes:=ts}) ty k (v'::al).toArray:=λe _ _ _ _ w _=>by
 have ha:ao.map (ev f)=al.toArray:=by rw [yP,ha e]
 have hp:(Sem.program Sem.pure:Sem Program).run c.P w= .ok c.P w:=rfl
 simp [execOp,resolve,hr e,invoke,callMethod,program,hp,hm,ha,he,Result.andThen]
end Go.Proofs.E
namespace Go.Proofs.Aud
open Go Go.RowKit Go.Proofs.E Go.Proofs.Cus Go.Proofs.Rid Go.Proofs.Far
def Fd.cells (x:Fd):List Value:=[.int .i64 x.k, .int .i64 x.a, .int .i64 x.b]
abbrev ee (A:Option Addr) (c:Nat) (l:List Fd):E.Item:=dS 65 3 Fd.cells A c l
theorem TH (x y:Fd) (w:World):(Op.equal 65 (.agg x.cells.toArray) (.agg y.cells.toArray)).run Tryz.prog w= .ok (decide (x=y)) w:=by
 have h:(Op.equalIn 10000 65 (.agg x.cells.toArray) (.agg y.cells.toArray)).run Tryz.prog w= .ok (x.k==y.k&&(x.a==y.a&&(x.b==y.b&&true))) w:=
  rI w bU (by kernel_rfl) (fL w (by decide) (bQ w aj rfl) (bQ w aj rfl) (run_equalIn_int w _ _ .i64 .i64 _ _ av) (fL w (by decide) (bQ w aj rfl) (bQ w aj rfl) (run_equalIn_int w _ _ .i64 .i64 _ _ av) (fL w (by decide) (bQ w aj rfl) (bQ w aj rfl) (run_equalIn_int w _ _ .i64 .i64 _ _ av) (oy w))))
 have e:(x.k==y.k&&(x.a==y.a&&(x.b==y.b&&true)))=decide (x=y):=by
  rw [gQ]
  cases x;cases y
  simp
 rw [<-e];exact h
theorem rE {fs:Array Field} (h:Tryz.prog.underlying 65=some (.struct fs):=by exact bU):df Tryz.prog fs [(0,1),(1,1),(2,1)]:=by
 rw [bU] at h
 cases h
 intro w
 kernel_rfl
theorem H6 {fs:Array Field} (h:Tryz.prog.underlying 98=some (.struct fs):=by exact bz):df Tryz.prog fs [(0,1),(1,1),(2,1),(3,1),(4,2)]:=by
 rw [bz] at h
 cases h
 intro w
 kernel_rfl
theorem yZ {fs:Array Field} (h:Tryz.prog.underlying 83=some (.struct fs):=by exact bL):df Tryz.prog fs [(0,1),(1,1)]:=by
 rw [bL] at h
 cases h
 intro w
 kernel_rfl
def Ry (x:Fd):Rd:={(default:Rd) with start:=⟨x.k,0⟩,end_:=⟨x.a,0⟩,id:=x.b}
def M3 (x y:Fd):Int:=Far.Ld [Far.jv x.k y.k,Far.jv x.a y.a,Far.jv x.b y.b]
theorem Gp (x y:Fd):decide (M3 x y<0)=uq x y:=tI (Ry x) (Ry y)
theorem Ri (x y:Fd) (w:World):Calls Tryz.prog 102 #[.agg x.cells.toArray, .agg y.cells.toArray] w λe w'=>e= .returned (.int .i64 (M3 x y))/\fM w w':=by
 refine dd Tryz.func102 rfl Tryz.ntmps102 rfl ?_
 refine ak ?_
 refine R0 ?_
 refine cd (v:= .agg _) rfl rfl λb2=>?_
 refine cd (v:= .agg _) rfl rfl λb3=>?_
 refine xV (aU (v:= .int _ _) (q0 rfl)) rfl rfl ?_
 refine XN ?_
 refine ad ?_
 refine ak ?_
 refine RA rfl (by decide+kernel) ?_
 refine aV 0 (by decide+kernel) rfl (az bU rfl ae rfl (q0 rfl)) rfl ?_
 refine aV 1 (by decide+kernel) rfl (eL aj (q0 rfl)) rfl ?_
 refine aV 2 (by decide+kernel) rfl (az bU rfl ae rfl (q0 rfl)) rfl ?_
 refine aV 3 (by decide+kernel) rfl (eL aj (q0 rfl)) rfl ?_
 refine aV 5 (by decide+kernel) rfl (az bU rfl ae rfl (q0 rfl)) rfl ?_
 refine aV 6 (by decide+kernel) rfl (eL aj (q0 rfl)) rfl ?_
 refine aV 7 (by decide+kernel) rfl (az bU rfl ae rfl (q0 rfl)) rfl ?_
 refine aV 8 (by decide+kernel) rfl (eL aj (q0 rfl)) rfl ?_
 refine aV 10 (by decide+kernel) rfl (az bU rfl ae rfl (q0 rfl)) rfl ?_
 refine aV 11 (by decide+kernel) rfl (eL aj (q0 rfl)) rfl ?_
 refine aV 12 (by decide+kernel) rfl (az bU rfl ae rfl (q0 rfl)) rfl ?_
 refine aV 13 (by decide+kernel) rfl (eL aj (q0 rfl)) rfl ?_
 refine aC 4 (by decide+kernel) rfl (en iT (jn (q0 rfl) (q0 rfl))) (λ_ w _=>Far.iK x.k y.k w) rfl ?_
 refine aC 9 (by decide+kernel) rfl (en iT (jn (q0 rfl) (q0 rfl))) (λ_ w _=>Far.iK x.a y.a w) rfl ?_
 refine aC 14 (by decide+kernel) rfl (en iT (jn (q0 rfl) (q0 rfl))) (λ_ w _=>Far.iK x.b y.b w) rfl ?_
 refine eu (i:=15) (by decide+kernel) (au 0) ?_
 refine aL rfl (ey [(.int .i64 0),(.int .i64 0),(.int .i64 0)] aA ae bw rfl (by kernel_rfl) (pt (v:= .int _ _) rfl (pt (v:= .int _ _) rfl (pt (v:= .int _ _) rfl E.p0))) rfl rfl λb20=>?_)
 refine w7 (au 1) ?_
 refine aC 16 (by decide+kernel) rfl (en Iw (iQ (q0 rfl))) (λ_ w hm=>Far.MF _ 3 3 [Far.jv x.k y.k,Far.jv x.a y.a,Far.jv x.b y.b] w (fj (enc:=eQ) hm (j:=0) rfl (λ_=>rfl) (by simp))) rfl ?_
 refine aV 17 (by decide+kernel) rfl (aU (v:= .int _ _) (q0 rfl)) rfl ?_
 refine aZ (by decide+kernel) (au 0) ?_
 refine ad ?_
 refine dq ?_
 exact cu (v:= .int _ _) rfl rfl rfl λw' hw=>⟨rfl,hw.1⟩
def Hs:Go.Shelf.Ren:=⟨fun|6=>101|15=>180|14=>179|28=>245|29=>246|20=>237|21=>238|22=>239|23=>240|24=>241|25=>242|26=>243|27=>244|46=>310|47=>311|48=>312|49=>313|50=>314|57=>340|n=>n,fun|22=>60|24=>65|25=>216|3=>3|39=>313|0=>0|53=>364|55=>38|4=>4|46=>358|45=>357|50=>299|5=>5|9=>9|66=>416|70=>420|76=>441|77=>201|n=>n,fun|n=>n⟩
theorem Q0:Go.Proofs.SlLaysF0.n6 Tryz.prog Hs:={
 mixed:=by kernel_rfl,
 f6:=⟨Tryz.f101.name,by decide,Tryz.func101.trans (aP some (by kernel_rfl))⟩,
 f14:=⟨Tryz.f179.name,by decide,Tryz.func179.trans (aP some (by kernel_rfl))⟩,
 f15:=Tryz.func180.trans (aP some (by kernel_rfl)),
 f20:=⟨Tryz.f237.name,by decide,Tryz.func237.trans (aP some (by kernel_rfl))⟩,
 f21:=⟨Tryz.f238.name,by decide,Tryz.func238.trans (aP some (by kernel_rfl))⟩,
 f22:=⟨Tryz.f239.name,by decide,Tryz.func239.trans (aP some (by kernel_rfl))⟩,
 f23:=⟨Tryz.f240.name,by decide,Tryz.func240.trans (aP some (by kernel_rfl))⟩,
 f24:=⟨Tryz.f241.name,by decide,Tryz.func241.trans (aP some (by kernel_rfl))⟩,
 f25:=⟨Tryz.f242.name,by decide,Tryz.func242.trans (aP some (by kernel_rfl))⟩,
 f26:=⟨Tryz.f243.name,by decide,Tryz.func243.trans (aP some (by kernel_rfl))⟩,
 f27:=⟨Tryz.f244.name,by decide,Tryz.func244.trans (aP some (by kernel_rfl))⟩,
 f28:=Tryz.func245.trans (aP some (by kernel_rfl)),
 f29:=Tryz.func246.trans (aP some (by kernel_rfl)),
 f46:=⟨Tryz.f310.name,by decide,Tryz.func310.trans (aP some (by kernel_rfl))⟩,
 f47:=Tryz.func311.trans (aP some (by kernel_rfl)),
 f48:=Tryz.func312.trans (aP some (by kernel_rfl)),
 f49:=⟨Tryz.f313.name,by decide,Tryz.func313.trans (aP some (by kernel_rfl))⟩,
 f50:=⟨Tryz.f314.name,by decide,Tryz.func314.trans (aP some (by kernel_rfl))⟩,
 f57:=⟨Tryz.f340.name,by decide,Tryz.func340.trans (aP some (by kernel_rfl))⟩,
 t0:=mY,
 a0:=uz,
 z0:=sr,
 v0:=ob,
 t3:=av,
 a3:=aj,
 z3:=ae,
 v3:=bw,
 t4:=iM,
 a4:=lP,
 z4:=gD,
 v4:=ia,
 t5:=iL,
 a5:=uy,
 z5:=sq,
 v5:=oa,
 t9:=mX,
 a9:=ux,
 z9:=so,
 v9:=n9,
 t22:=bg,
 a22:=Tryz.isAgg60,
 z22:=Tryz.sizeOf60,
 v22:=Tryz.zeroValue60,
 t25:=Tryz.underlying216,
 a25:=Tryz.isAgg216,
 z25:=Tryz.sizeOf216,
 v25:=Tryz.zeroValue216,
 t39:=lx,
 a39:=qU,
 z39:=pI,
 v39:=mf,
 t45:=lu,
 a45:=qT,
 z45:=pH,
 v45:=me,
 t46:=lq,
 a46:=qS,
 z46:=pG,
 v46:=ma,
 t50:=lz,
 a50:=qV,
 z50:=pJ,
 v50:=mg,
 t53:=lp,
 a53:=qR,
 z53:=pF,
 v53:=l',
 t55:=jB,
 a55:=sv,
 z55:=qN,
 v55:=mW,
 t66:=lk,
 a66:=qQ,
 z66:=pE,
 v66:=l9,
 t70:=lj,
 a70:=qP,
 z70:=pD,
 v70:=l8,
 t76:=lh,
 a76:=qO,
 z76:=pC,
 v76:=l7,
 t77:=lB,
 a77:=qW,
 z77:=pL,
 v77:=mi}
section
open Go.Shelf Go.Lib Go.Sort
theorem M1 {w0 w:World} {L:List E.Item} (hw:Mem w0 L w) {j c n:Nat} {A:Option Addr} {xs:List Fd} (hl:xs.length=n) (hkj:L[j]?=some (ee A c xs)) (hn:n<=1000000):
  Calls Tryz.prog 101 #[.slice A n c, .func (.func 102) #[] #[]] w λr w'=> ∃ys:{ys:List Fd//ys.Perm xs/\ys.Pairwise λx y=>uq y x=false},r= .returned (.tuple #[])/\Mem w0 (L.set j (ee A c ys.1)) w':=by
 subst hl
 refine (DZ Q0 3 qn cr Fd.cells (λ_=>rfl) (λx v hv=>by simp [Fd.cells] at hv;rcases hv with rfl|rfl|rfl<;>rfl) M3 102 (Bo Ry _ (λx y=>by unfold ltOf;exact Gp _ _)) Tryz.call102 Ri hw hkj hn).mono ?_
 rintro r w' ⟨⟨ys,h1,h2⟩,he,hm⟩
 exact ⟨⟨ys,h1,h2.imp λ{a b} hab=>by unfold ltOf at hab;rw [Gp] at hab;exact hab⟩,he,hm⟩
end
theorem GF {w0 w:World} {L:List E.Item} {c:Nat} {A:Option Addr} {xs:List Fd} (hw:Mem w0 (dS 65 3 Fd.cells A c xs::L) w) (hmk:marks L=[]) (hn:xs.length<=1000000):
  Calls Tryz.prog 105 #[.slice A xs.length c] w λe w'=> ∃_:Unit,e= .returned (.slice A (e9 CG xs).length c)/\Mem w0 (dS 65 3 Fd.cells A c (e9 CG xs)::L) w':=by
 have hcap:=kP (j:=0) hw rfl
 rcases uA xs.length 2 with hlt|hge
 ·have hcf:e9 CG xs=xs:=by
   match xs,hlt with
   |[],_=>rfl
   |[x],_=>rfl
  rw [hcf]
  refine gI hw hmk Tryz.func105 rfl Tryz.ntmps105 rfl ?_
  refine ak ?_
  refine R0 ?_
  refine xV (aU (v:= .slice _ _ _) (q0 rfl)) rfl rfl ?_
  refine XN ?_
  refine ad ?_
  refine ak ?_
  refine ak ?_
  refine R0 ?_
  refine xV (ay (v:= .slice _ _ _) (q0 rfl)) rfl rfl ?_
  refine xV (dw bg (q0 rfl)) rfl rfl ?_
  refine xV (gK (q0 rfl) (q0 rfl)) rfl rfl ?_
  refine XN ?_
  refine ad ?_
  refine bD rfl (λh1=>?_) (λh1=>?_)
  ·refine ak ?_
   refine R0 ?_
   refine xV (ay (v:= .slice _ _ _) (q0 rfl)) rfl rfl ?_
   refine xV (aU (v:= .slice _ _ _) (q0 rfl)) rfl rfl ?_
   refine XN ?_
   refine ad ?_
   refine dq ?_
   refine cw ?_
   exact cu (v:= .slice _ _ _) rfl rfl hmk λw' hw=>⟨(),rfl,hw⟩
  exact absurd h1 (by simp;omega)
 obtain ⟨b,rfl⟩:=fG (j:=0) hw rfl (by omega)
 refine gI hw hmk Tryz.func105 rfl Tryz.ntmps105 rfl ?_
 refine ak ?_
 refine R0 ?_
 refine xV (aU (v:= .slice _ _ _) (q0 rfl)) rfl rfl ?_
 refine XN ?_
 refine ad ?_
 refine ak ?_
 refine ak ?_
 refine R0 ?_
 refine xV (ay (v:= .slice _ _ _) (q0 rfl)) rfl rfl ?_
 refine xV (dw bg (q0 rfl)) rfl rfl ?_
 refine xV (gK (q0 rfl) (q0 rfl)) rfl rfl ?_
 refine XN ?_
 refine ad ?_
 refine bD rfl (λh1=>?_) (λh1=>?_)
 ·exact absurd h1 (by simp;omega)
 refine bZ ?_
 refine ad ?_
 refine ak ?_
 refine ak ?_
 refine R0 ?_
 refine xV (aU (v:= .int _ _) (q0 rfl)) rfl rfl ?_
 refine XN ?_
 refine ad ?_
 refine cq ?_
 refine ef [2,3,4,5,10,11,12,13,14,15,16,17,18,19,20,21,22,23,24,25,26,27,28,29,30,31,32,33,34,35,36,37,38,39,40,41,42,43,44,45,46,47,48,49,50,51,52,53,54,55,56,57,58,59] (λk:Nat=>[(3, .int .i64 k)]) (λ_=>_) (λk=>1<=k/\k<=xs.length/\ ∃p,xs[k -1]?=some p/\e9 CG xs=xs.take k++dL CG p (xs.drop k)) (λk=>xs.length -k) 1 ⟨rfl,trivial⟩ (λ_ h=>h) rfl (by
  refine ⟨bA _,by omega,?_⟩
  match xs,hge with
  |x::xs,_=>exact ⟨x,rfl,rfl⟩) ?_
 rintro k g2 ⟨hk1,hkn,p,hp,hcf⟩
 refine ak ?_
 refine ak ?_
 refine R0 ?_
 refine xV (ay (v:= .int _ _) (q0 rfl)) rfl rfl ?_
 refine xV (ay (v:= .slice _ _ _) (q0 rfl)) rfl rfl ?_
 refine xV (dw bg (q0 rfl)) rfl rfl ?_
 refine xV (gK (q0 rfl) (q0 rfl)) rfl rfl ?_
 refine XN ?_
 refine ad ?_
 refine bD rfl (λhlt=>?_) (λhlt=>?_)
 ·have hlt':k<xs.length:=by simpa using hlt
  obtain ⟨y,hy⟩: ∃y,xs[k]?=some y:=⟨_,ah hlt'⟩
  refine bZ ?_
  refine ad ?_
  refine ak ?_
  refine cq ?_
  refine ak ?_
  refine R1 rfl (by decide+kernel) ?_
  refine xV (ay (v:= .slice _ _ _) (q0 rfl)) rfl rfl ?_
  refine xV (ay (v:= .int _ _) (q0 rfl)) rfl rfl ?_
  refine xV (cx _ bg cr (q0 rfl) (q0 rfl) (λ_=>⟨rfl,by omega⟩)) rfl rfl ?_
  refine xV (iV qn cr (q0 rfl) (sP 0 rfl hy) rfl) rfl rfl ?_
  refine xV (ay (v:= .slice _ _ _) (q0 rfl)) rfl rfl ?_
  refine xV (ay (v:= .int _ _) (q0 rfl)) rfl rfl ?_
  refine xV (rK (q0 rfl) (q0 rfl) (λ_=>⟨rfl,by omega,by omega⟩)) rfl rfl ?_
  refine xV (cx (k -1) bg cr (q0 rfl) (q0 rfl) (λ_=>⟨by omega,by omega⟩)) rfl rfl ?_
  refine xV (iV qn cr (q0 rfl) (sP 0 rfl hp) rfl) rfl rfl ?_
  refine xV (Dr (TH y p) (by kernel_rfl) (q0 rfl) (q0 rfl)) rfl rfl ?_
  refine XN ?_
  refine ad ?_
  have hdrop:xs.drop k=y::xs.drop (k+1):=by
   obtain ⟨q1,q2⟩:=ai.1 hy
   rw [cH q1,q2]
  refine bD rfl (λheq=>?_) (λheq=>?_)
  ·have hcf2:e9 CG xs=xs.take k++dL CG y (xs.drop (k+1)):=by rw [hcf,hdrop];simp only [dL];rw [aB (show CG y p=true from heq)]
   refine ak ?_
   refine R0 ?_
   refine xV (ay (v:= .slice _ _ _) (q0 rfl)) rfl rfl ?_
   refine xV (ay (v:= .int _ _) (q0 rfl)) rfl rfl ?_
   refine xV (EG _ bg cr (q0 rfl) (q0 rfl) (λ_=>⟨rfl,by omega,by omega⟩)) rfl rfl ?_
   refine xV (aU (v:= .slice _ _ _) (q0 rfl)) rfl rfl ?_
   refine XN ?_
   refine ad ?_
   refine ak ?_
   refine ak ?_
   refine R0 ?_
   refine xV (aU (v:= .int _ _) (q0 rfl)) rfl rfl ?_
   refine XN ?_
   refine ad ?_
   refine cq ?_
   refine ef [3,5,29,30,31,32,33,34,35,36,37,38,39,40,41,42,43,44,45,46,47,48,49,50,51,52,53] (λs:Nat×Nat×List Fd=>[(3, .int .i64 s.1),(5, .int .i64 s.2.1)]) (λs=>dS 65 3 Fd.cells (some ⟨b,0,none⟩) c s.2.2::L) (λs=>1<=s.2.1/\k+s.2.1<=xs.length/\s.2.2.length=xs.length/\s.2.2.drop (k+s.2.1 -1)=xs.drop (k+s.2.1 -1)/\s.1<=k+s.2.1 -1/\ ∃p,xs[k+s.2.1 -1]?=some p/\e9 CG xs=s.2.2.take s.1++dL CG p (xs.drop (k+s.2.1))) (λs=>xs.length -(k+s.2.1)) (k,1,xs) ⟨rfl,rfl,trivial⟩ (λ_ h=>h) rfl ⟨bA _,by show k+1<=xs.length;omega,rfl,rfl,by simp,y,by simpa using hy,by simpa using hcf2⟩ ?_
   rintro s g3 ⟨h2,hkn2,hyl,hyd,hi,p2,hp2,hcf3⟩
   refine ak ?_
   refine ak ?_
   refine R0 ?_
   refine xV (ay (v:= .int _ _) (q0 rfl)) rfl rfl ?_
   refine xV (ay (v:= .slice _ _ _) (q0 rfl)) rfl rfl ?_
   refine xV (dw bg (q0 rfl)) rfl rfl ?_
   refine xV (gK (q0 rfl) (q0 rfl)) rfl rfl ?_
   refine XN ?_
   refine ad ?_
   refine bD rfl (λhlt2=>?_) (λhlt2=>?_)
   ·have hlt2':k+s.2.1<xs.length:=by simp at hlt2;omega
    obtain ⟨z,hz⟩: ∃z,xs[k+s.2.1]?=some z:=⟨_,ah hlt2'⟩
    have hzy:s.2.2[k+s.2.1]?=some z:=by
     have:(s.2.2.drop (k+s.2.1 -1))[1]?=(xs.drop (k+s.2.1 -1))[1]?:=by rw [hyd]
     rw [iP,iP,show k+s.2.1 -1+1=k+s.2.1 by omega] at this
     rw [this];exact hz
    have hpy:s.2.2[k+(s.2.1 -1)]?=some p2:=by
     have:(s.2.2.drop (k+s.2.1 -1))[0]?=(xs.drop (k+s.2.1 -1))[0]?:=by rw [hyd]
     rw [iP,iP,pN] at this
     rw [show k+(s.2.1 -1)=k+s.2.1 -1 by omega,this];exact hp2
    have hdrop2:xs.drop (k+s.2.1)=z::xs.drop (k+s.2.1+1):=by
     obtain ⟨q1,q2⟩:=ai.1 hz
     rw [cH q1,q2]
    have hdd:s.2.2.drop (k+s.2.1)=xs.drop (k+s.2.1):=by
     have:=aP (List.drop 1) hyd
     rw [An,An,show k+s.2.1 -1+1=k+s.2.1 by omega] at this
     exact this
    refine bZ ?_
    refine ad ?_
    refine ak ?_
    refine cq ?_
    refine ak ?_
    refine R1 rfl (by decide+kernel) ?_
    refine xV (ay (v:= .slice _ _ _) (q0 rfl)) rfl rfl ?_
    refine xV (ay (v:= .int _ _) (q0 rfl)) rfl rfl ?_
    refine xV (cx _ bg cr (q0 rfl) (q0 rfl) (λ_=>⟨rfl,by omega⟩)) rfl rfl ?_
    refine xV (iV qn cr (q0 rfl) (Kd 0 rfl hzy) rfl) rfl rfl ?_
    refine xV (ay (v:= .slice _ _ _) (q0 rfl)) rfl rfl ?_
    refine xV (ay (v:= .int _ _) (q0 rfl)) rfl rfl ?_
    refine xV (rK (q0 rfl) (q0 rfl) (λ_=>⟨rfl,by omega,by omega⟩)) rfl rfl ?_
    refine xV (cx (s.2.1 -1) bg cr (q0 rfl) (q0 rfl) (λ_=>⟨by omega,by omega⟩)) rfl rfl ?_
    refine xV (iV qn cr (q0 rfl) (Kd 0 rfl hpy) rfl) rfl rfl ?_
    refine xV (Aa (TH z p2) (by kernel_rfl) (q0 rfl) (q0 rfl)) rfl rfl ?_
    refine XN ?_
    refine ad ?_
    refine bD rfl (λheq2=>?_) (λheq2=>?_)
    ·obtain ⟨q,hq⟩: ∃q,s.2.2[s.1]?=some q:=⟨_,ah (by omega)⟩
     refine ak ?_
     refine R0 ?_
     refine xV (ay (v:= .slice _ _ _) (q0 rfl)) rfl rfl ?_
     refine xV (ay (v:= .int _ _) (q0 rfl)) rfl rfl ?_
     refine xV (ay (v:= .slice _ _ _) (q0 rfl)) rfl rfl ?_
     refine xV (ay (v:= .int _ _) (q0 rfl)) rfl rfl ?_
     refine xV (cx _ bg cr (q0 rfl) (q0 rfl) (λ_=>⟨rfl,by omega⟩)) rfl rfl ?_
     refine xV (iV qn cr (q0 rfl) (Kd 0 rfl hzy) rfl) rfl rfl ?_
     refine xV (cx _ bg cr (q0 rfl) (q0 rfl) (λ_=>⟨rfl,by omega⟩)) rfl rfl ?_
     refine cQ (eR 0 z rfl rfl cr rfl rfl rfl hq rfl rfl ?_)
     refine XN ?_
     refine ad ?_
     refine R0 ?_
     refine xV (ay (v:= .int _ _) (q0 rfl)) rfl rfl ?_
     refine xV (eT (q0 rfl) (q0 rfl) (λ_=>⟨rfl,by omega,by omega⟩)) rfl rfl ?_
     refine xV (aU (v:= .int _ _) (q0 rfl)) rfl rfl ?_
     refine XN ?_
     refine bc ?_
     refine ad ?_
     refine R0 ?_
     refine xV (ay (v:= .int _ _) (q0 rfl)) rfl rfl ?_
     refine xV (eT (q0 rfl) (q0 rfl) (λ_=>⟨rfl,by omega,by omega⟩)) rfl rfl ?_
     refine xV (aU (v:= .int _ _) (q0 rfl)) rfl rfl ?_
     refine XN ?_
     exact aH (s.1+1,s.2.1+1,s.2.2.set s.1 z) (by repeat (first|exact aK|exact aN|refine a8 rfl ?_|refine aJ rfl ?_|refine aD rfl ?_)) ⟨rfl,rfl,trivial⟩ (λ_ h=>h) rfl ⟨by show 1<=s.2.1+1;omega,by show k+(s.2.1+1)<=_;omega,by simpa using hyl,by
      show (s.2.2.set s.1 z).drop (k+(s.2.1+1) -1)=_
      rw [show k+(s.2.1+1) -1=k+s.2.1 by omega,List.drop_set_of_lt (by omega)]
      exact hdd,by show s.1+1<=k+(s.2.1+1) -1;omega,z,by simpa using hz,by
      show _=(s.2.2.set s.1 z).take (s.1+1)++_
      rw [hcf3,hdrop2]
      simp only [dL]
      rw [an (by simpa [CG] using heq2),iC,List.take_set_of_le (by omega),oL (by omega)]
      simp [kf]⟩ (by show xs.length -(k+(s.2.1+1))<xs.length -(k+s.2.1);omega)
    refine bZ ?_
    refine bc ?_
    refine ad ?_
    refine R0 ?_
    refine xV (ay (v:= .int _ _) (q0 rfl)) rfl rfl ?_
    refine xV (eT (q0 rfl) (q0 rfl) (λ_=>⟨rfl,by omega,by omega⟩)) rfl rfl ?_
    refine xV (aU (v:= .int _ _) (q0 rfl)) rfl rfl ?_
    refine XN ?_
    exact aH (s.1,s.2.1+1,s.2.2) (by repeat (first|exact aK|exact aN|refine a8 rfl ?_|refine aJ rfl ?_|refine aD rfl ?_)) ⟨rfl,rfl,trivial⟩ (λ_ h=>h) rfl ⟨by show 1<=s.2.1+1;omega,by show k+(s.2.1+1)<=_;omega,hyl,by
     show s.2.2.drop (k+(s.2.1+1) -1)=_
     rw [show k+(s.2.1+1) -1=k+s.2.1 by omega]
     exact hdd,by show s.1<=k+(s.2.1+1) -1;omega,z,by simpa using hz,by
     show _=s.2.2.take s.1++_
     rw [hcf3,hdrop2]
     simp only [dL]
     rw [aB (by simpa [CG] using heq2)]
     simp [kf]⟩ (by show xs.length -(k+(s.2.1+1))<xs.length -(k+s.2.1);omega)
   have hend:k+s.2.1=xs.length:=by simp at hlt2;omega
   have hcf4:e9 CG xs=s.2.2.take s.1:=by rw [hcf3,hend,kG];simp [dL]
   refine fz ?_
   refine cJ ?_
   refine cM ?_
   refine cK ?_
   refine ad ?_
   refine ak ?_
   refine R0 ?_
   refine xV (ay (v:= .slice _ _ _) (q0 rfl)) rfl rfl ?_
   refine xV (ay (v:= .int _ _) (q0 rfl)) rfl rfl ?_
   refine xV (EG _ bg cr (q0 rfl) (q0 rfl) (λ_=>⟨rfl,by omega,by omega⟩)) rfl rfl ?_
   refine cQ (Gr (i:=s.1) (k:=3) 0 bg bG rfl rfl rfl rfl ⟨by omega,by omega⟩ ?_)
   refine XN ?_
   refine ad ?_
   refine ak ?_
   refine R0 ?_
   refine xV (ay (v:= .slice _ _ _) (q0 rfl)) rfl rfl ?_
   refine xV (ay (v:= .int _ _) (q0 rfl)) rfl rfl ?_
   refine xV (uW _ bg cr (q0 rfl) (q0 rfl) (λ_=>⟨rfl,by omega⟩)) rfl rfl ?_
   refine xV (aU (v:= .slice _ _ _) (q0 rfl)) rfl rfl ?_
   refine XN ?_
   refine ad ?_
   refine dq ?_
   refine dU ?_
   refine cw ?_
   refine iJ ?_
   refine dU ?_
   refine cw ?_
   exact cu (v:= .slice _ _ _) rfl rfl hmk λw' hw=>⟨(),by rw [hcf4,dG,E3 (by omega)],by rw [hcf4];exact hw⟩
  refine bZ ?_
  refine bc ?_
  refine ad ?_
  refine R0 ?_
  refine xV (ay (v:= .int _ _) (q0 rfl)) rfl rfl ?_
  refine xV (eT (q0 rfl) (q0 rfl) (λ_=>⟨rfl,by omega,by omega⟩)) rfl rfl ?_
  refine xV (aU (v:= .int _ _) (q0 rfl)) rfl rfl ?_
  refine XN ?_
  exact aH (k+1) (by repeat (first|exact aK|exact aN|refine a8 rfl ?_|refine aJ rfl ?_|refine aD rfl ?_)) ⟨rfl,trivial⟩ (λ_ h=>h) rfl ⟨by omega,by omega,y,by simpa using hy,by
   rw [hcf,hdrop]
   simp only [dL]
   rw [an (by simpa [CG] using heq),dY _ _ _ hy]
   simp⟩ (by show xs.length -(k+1)<xs.length -k;omega)
 have hend:k=xs.length:=by simp at hlt;omega
 have hcf4:e9 CG xs=xs:=by rw [hcf,hend,kG,dQ];simp [dL]
 refine fz ?_
 refine cJ ?_
 refine cM ?_
 refine cK ?_
 refine ad ?_
 refine ak ?_
 refine R0 ?_
 refine xV (ay (v:= .slice _ _ _) (q0 rfl)) rfl rfl ?_
 refine xV (aU (v:= .slice _ _ _) (q0 rfl)) rfl rfl ?_
 refine XN ?_
 refine ad ?_
 refine dq ?_
 exact cu (v:= .slice _ _ _) rfl rfl hmk λw' hw=>⟨(),by rw [hcf4],by rw [hcf4];exact hw⟩
theorem EL {w0 w:World} {L:List E.Item} {c:Nat} {A:Option Addr} {xs ys:List Fd} (h1:ys.Perm xs) (h2:ys.Pairwise λx y=>uq y x=false) (hw:Mem w0 (ee A c ys::L) w) (hmk:marks L=[]) (hn:xs.length<=1000000):
  Calls Tryz.prog 105 #[.slice A xs.length c] w λe w'=> ∃_:Unit,e= .returned (.slice A (lU xs).length c)/\Mem w0 (ee A c (lU xs)::L) w':=by
 have hl:=h1.length_eq
 have h:=GF hw hmk (by omega)
 rw [hl,GB h1 h2] at h
 exact h
theorem o8 {w0 w:World} {L:List E.Item} {c:Nat} {A:Option Addr} {xs:List Fd} (hw:Mem w0 (ee A c xs::L) w) (hmk:marks L=[]) (hn:xs.length<=1000000):
  Calls Tryz.prog 45 #[.slice A xs.length c] w λe w'=> ∃_:Unit,e= .returned (.slice A (lU xs).length c)/\Mem w0 (ee A c (lU xs)::L) w':=by
 refine gI hw hmk Tryz.func45 rfl Tryz.ntmps45 rfl ?_
 refine ak ?_
 refine R0 ?_
 refine xV (aU (v:= .slice _ _ _) (q0 rfl)) rfl rfl ?_
 refine XN ?_
 refine ad ?_
 refine ak ?_
 refine R0 ?_
 refine xV (ay (v:= .slice _ _ _) (q0 rfl)) rfl rfl ?_
 refine cQ (dD (en Tryz.call101 (jn (q0 rfl) (q0 rfl))) (λw hw=>M1 hw (j:=0) rfl rfl hn) rfl (λ_=>rfl) λys=>?_)
 refine XN ?_
 refine ad ?_
 refine ak ?_
 refine R0 ?_
 refine xV (ay (v:= .slice _ _ _) (q0 rfl)) rfl rfl ?_
 obtain ⟨ys,h1,h2⟩:=ys
 refine cQ (dD (en Tryz.call105 (iQ (q0 rfl))) (λw hw=>EL h1 h2 hw hmk hn) rfl (λ_=>rfl) λ_u=>?_)
 refine xV (aU (v:= .slice _ _ _) (q0 rfl)) rfl rfl ?_
 refine XN ?_
 refine ad ?_
 refine dq ?_
 exact cu (v:= .slice _ _ _) rfl rfl hmk λw' hw=>⟨(),rfl,hw⟩
def rC (t:Int):List gy->Bool
 |[]=>decide (t=4294944000)
 |s::l=>decide (s.from_=t/\s.from_<s.jT)&&rC s.jT l
theorem Rs (l:List gy) (t:Int) (k:Nat) {s:gy} (h:l[k]?=some s):rC t (l.drop k)=(decide (s.from_=t/\s.from_<s.jT)&&rC s.jT (l.drop (k+1))):=by
 obtain ⟨q1,q2⟩:=ai.1 h
 rw [cH q1,q2,rC]
theorem KG (A:Option Addr) (n c:Nat) (xs:List gy) (w:World) (hx:eG w 6 gy.cells A n xs):Calls Tryz.prog 407 #[.slice A n c] w λe w'=>e= .returned (.bool (rC 0 xs))/\fM w w':=by
 have hl:=hx.1
 have hn:=hx.2.1
 refine dd Tryz.func407 rfl Tryz.ntmps407 rfl ?_
 refine ak ?_
 refine R0 ?_
 refine xV (aU (v:= .bool _) (q0 rfl)) rfl rfl ?_
 refine XN ?_
 refine ad ?_
 refine ak ?_
 refine R0 ?_
 refine xV (aU (v:= .int _ _) (q0 rfl)) rfl rfl ?_
 refine XN ?_
 refine ad ?_
 refine ak ?_
 refine ak ?_
 refine R0 ?_
 refine xV (ay (v:= .slice _ _ _) (q0 rfl)) rfl rfl ?_
 refine xV (dw bI (q0 rfl)) rfl rfl ?_
 refine xV (ay (v:= .int _ _) (q0 rfl)) rfl rfl ?_
 refine XN ?_
 refine ad ?_
 refine cq ?_
 refine ef [2,3,5,8,9,10,11,12,13,14,15,16,17,18,19,20,21,22,23,24,25,26,27,28,29] (λs:Nat×Int=>[(8, .int .i64 s.1),(3, .int .i64 s.2)]) (λ_=>[]) (λs=>s.1<=n/\rC 0 xs=rC s.2 (xs.drop s.1)) (λs=>n -s.1) (0,0) ⟨rfl,rfl,trivial⟩ (λw hw=>hw) rfl ⟨bj _,rfl⟩ ?_
 rintro ⟨k,t⟩ g ⟨hk,hg⟩
 have hk:k<=n:=hk
 have hg:rC 0 xs=rC t (xs.drop k):=hg
 refine ak ?_
 refine R0 ?_
 refine xV (gK (q0 rfl) (q0 rfl)) rfl rfl ?_
 refine XN ?_
 refine ad ?_
 refine ak ?_
 refine bD rfl (λhlt=>?_) (λhlt=>?_)
 ·have hlt':k<n:=by simpa using hlt
  obtain ⟨b,off,s,rfl,hbl,hs,hrs⟩:=hx.at_ hlt'
  rw [Rs xs t k hs] at hg
  refine bZ ?_
  refine ad ?_
  refine ak ?_
  refine cq ?_
  refine ak ?_
  refine R0 ?_
  refine xV (cx _ bI cy (q0 rfl) (q0 rfl) (λ_=>⟨rfl,by omega⟩)) rfl rfl ?_
  refine xV (eS kC cy (q0 rfl)) rfl rfl ?_
  refine bS fe rfl λb5=>?_
  refine dN (v:= .agg _) rfl rfl cy ?_
  refine XN ?_
  refine ad ?_
  refine ak ?_
  refine ak ?_
  refine R0 ?_
  refine xV (az bz rfl bK rfl (q0 rfl)) rfl rfl ?_
  refine xV (az bL rfl ae rfl (q0 rfl)) rfl rfl ?_
  refine xV (eL aj (q0 rfl)) rfl rfl ?_
  refine xV (ay (v:= .int _ _) (q0 rfl)) rfl rfl ?_
  refine xV (ki (q0 rfl) (q0 rfl)) rfl rfl ?_
  refine xV (ay (v:= .bool _) (q0 rfl)) rfl rfl ?_
  refine fE (az bz rfl bK rfl (q0 rfl)) rfl rfl rfl rfl ?_
  refine fE (az bL rfl ae rfl (q1 rfl)) rfl rfl rfl rfl ?_
  refine fE (eL aj (q1 rfl)) rfl rfl rfl rfl ?_
  refine fE (az bz rfl bK rfl (q0 rfl)) rfl rfl rfl rfl ?_
  refine fE (az bL rfl ae rfl (q1 rfl)) rfl rfl rfl rfl ?_
  refine fE (eL aj (q1 rfl)) rfl rfl rfl rfl ?_
  refine fE (tg (q1 rfl) (q1 rfl)) rfl rfl rfl rfl ?_
  refine xV (jJ (q0 rfl) rfl (λh=>by first|rfl|(rw [h];rfl))) rfl rfl ?_
  refine XN ?_
  refine ad ?_
  refine bD rfl (λh1=>?_) (λh1=>?_)
  ·have h1': ¬(s.from_=t/\s.from_<s.jT):=by simp at h1;omega
   rw [jy h1',Bool.false_and] at hg
   rw [hg]
   refine ak ?_
   refine R0 ?_
   refine xV (aU (v:= .bool _) (q0 rfl)) rfl rfl ?_
   refine XN ?_
   refine ad ?_
   refine dq ?_
   refine cw ?_
   refine dU ?_
   refine cw ?_
   refine iJ ?_
   refine dU ?_
   refine cw ?_
   exact cu (v:= .bool _) rfl rfl rfl λw' hw=>⟨rfl,hw.1⟩
  have h1':s.from_=t/\s.from_<s.jT:=by simp at h1;omega
  rw [iU h1',p6] at hg
  refine bZ ?_
  refine ad ?_
  refine R0 ?_
  refine xV (az bz rfl bK rfl (q0 rfl)) rfl rfl ?_
  refine xV (az bL rfl ae rfl (q0 rfl)) rfl rfl ?_
  refine xV (eL aj (q0 rfl)) rfl rfl ?_
  refine xV (aU (v:= .int _ _) (q0 rfl)) rfl rfl ?_
  refine XN ?_
  refine bc ?_
  refine ad ?_
  refine R0 ?_
  refine xV (eT (q0 rfl) (q0 rfl) (λ_=>⟨rfl,by omega,by omega⟩)) rfl rfl ?_
  refine xV (ay (v:= .int _ _) (q0 rfl)) rfl rfl ?_
  refine XN ?_
  exact aH (k+1,s.jT) (by repeat (first|exact aK|exact aN|refine a8 rfl ?_|refine aJ rfl ?_|refine aD rfl ?_)) ⟨rfl,rfl,trivial⟩ (λw hw=>hw.tail) rfl ⟨hlt',hg⟩ (by show n -(k+1)<n -k;omega)
 have hke:k=n:=by simp at hlt;omega
 rw [gZ (by omega)] at hg
 rw [hg]
 refine fz ?_
 refine cJ ?_
 refine cM ?_
 refine cK ?_
 refine ad ?_
 refine ak ?_
 refine R0 ?_
 refine xV (ay (v:= .int _ _) (q0 rfl)) rfl rfl ?_
 refine xV (jE (q0 rfl) (q0 rfl)) rfl rfl ?_
 refine xV (aU (v:= .bool _) (q0 rfl)) rfl rfl ?_
 refine XN ?_
 refine ad ?_
 refine dq ?_
 exact cu (v:= .bool _) rfl rfl rfl λw' hw=>⟨rfl,hw.1⟩
theorem TF (x y:gy) (w:World):(Op.equal 98 (.agg x.cells.toArray) (.agg y.cells.toArray)).run Tryz.prog w= .ok (decide (x=y)) w:=by
 have h:(Op.equalIn 10000 98 (.agg x.cells.toArray) (.agg y.cells.toArray)).run Tryz.prog w= .ok ((x.bq==y.bq&&(x.cF==y.cF&&(x.place==y.place&&(x.bn==y.bn&&((x.from_==y.from_&&(x.jT==y.jT&&true))&&true)))))) w:=rI w bz (by kernel_rfl) (fL w (by decide) (bQ w aj rfl) (bQ w aj rfl) (run_equalIn_int w _ _ .i64 .i64 _ _ av) (fL w (by decide) (bQ w aj rfl) (bQ w aj rfl) (run_equalIn_int w _ _ .i64 .i64 _ _ av) (fL w (by decide) (bQ w aj rfl) (bQ w aj rfl) (run_equalIn_int w _ _ .i64 .i64 _ _ av) (fL w (by decide) (bQ w aj rfl) (bQ w aj rfl) (run_equalIn_int w _ _ .i64 .i64 _ _ av) (fL w (by decide) (je w wa bK rfl) (je w wa bK rfl) (rI w bL (by kernel_rfl) (fL w (by decide) (bQ w aj rfl) (bQ w aj rfl) (run_equalIn_int w _ _ .i64 .i64 _ _ av) (fL w (by decide) (bQ w aj rfl) (bQ w aj rfl) (run_equalIn_int w _ _ .i64 .i64 _ _ av) (oy w)))) (oy w))))))
 have e:((x.bq==y.bq&&(x.cF==y.cF&&(x.place==y.place&&(x.bn==y.bn&&((x.from_==y.from_&&(x.jT==y.jT&&true))&&true))))))=decide (x=y):=by
  rw [gQ]
  cases x;cases y
  simp
 rw [<-e];exact h
end Go.Proofs.Aud
namespace Go.Proofs.E
open Go Go.RowKit
section
variable {P:Program} {t kt et:TypeId}
theorem wK{w b ps z}(K:sh P kt)(ht:P.underlying t=some (.map kt et))(hz: ∀w,(zeroValue et).run P w= .ok z w)(h:rN w b ps)(k):
  (Instr.lookup t (.map (some b)) (kv k) true).run P w= .ok (.tuple #[(gT ps k).getD z, .bool (gT ps k).isSome]) w:=by
 obtain ⟨es,c,h1,h2,_⟩:=h
 rcases vH K k w es.toList ps 0 h2 with ⟨ha,hb,_⟩|⟨j,v,e,ha,hb,_⟩
 ·simp [Instr.lookup,run_underlying ht,MapKept.run_getObj_map h1,K.Pu,K.fk,hb,ha,hz,Result.andThen]
 simp [Instr.lookup,run_underlying ht,MapKept.run_getObj_map h1,K.Pu,K.fk,hb,ha,Result.andThen]
theorem As{w b ps}(K:sh P kt)(ht:P.underlying t=some (.map kt et))(h:rN w b ps)(k)(hn:gT ps k=none)(v):
  ∃w',(Instr.mapUpdate t (.map (some b)) (kv k) v).run P w= .ok () w'/\rN w' b (ps++[(k,v)])/\w.grownBy w' (some b)/\w'.heap.size=w.heap.size/\w.drawn<=w'.drawn:=by
 obtain ⟨es,c,h1,h2,h3⟩:=h;have hlt:b<w.heap.size:=(fV.1 h1).1;have hg: ∀o:Obj,w.grownBy {w with heap:=w.heap.setIfInBounds b o} (some b):=λo=>⟨rfl,rfl,rfl,by simp,λi _ hi=>by
  have hne:b≠i:=λe=>hi (by rw [e]);exact gF hne⟩
 rcases vH K k w es.toList ps 0 h2 with ⟨ha,hb,hput⟩|⟨j,x,e,ha,_⟩
 ·refine ⟨{w with heap:=w.heap.setIfInBounds b (.map (es.push {key:=kv k,val:=v,born:=c}) (c+1))},?_,⟨_,_,cZ hlt,?_,by simpa using h3.push rfl⟩,hg _,by simp,bA _⟩
  ·simp [Instr.mapUpdate,run_underlying ht,MapKept.run_getObj_map h1,K.Pu,K.fk,hb,Result.andThen,MapKept.run_setObj_map _ h1]
  simpa using uP h2 (e:={key:=kv k,val:=v,born:=c}) (p:=(k,v)) ⟨rfl,rfl⟩
 rw [hn] at ha;cases ha
end
section
variable {c:Cx} {w0:World} {L:List Item} {f:Fr} {K:List Item->Fr->Prop} {d:Nat} {ty:TypeId} {pos:String} {af:Array Edge} {g:Bool} {x y z:Operand} {t kt et:TypeId}
theorem vz{b ps key v u bb}(hK:sh c.P kt)(ht:c.P.underlying t=some (.map kt et))(hz: ∀w,(zeroValue et).run c.P w= .ok v w)(hx:gH g f x (.map (some b)))(hy:gH g f y (kv key))(hA: ∀w,Mem w0 L w->rN w b ps)(hu:g=true->(gT ps key).getD v=u/\(gT ps key).isSome=bb):gj g c w0 L f (.lookup t x y true) ty (.tuple #[u, .bool bb]):=λe _ _ _ _ w hw=>by
 simp [execOp,hx e,hy e,wK hK ht hz (hA w hw) key,Result.andThen,hu e]
theorem Ng{b ps key v u}(hK:sh c.P kt)(ht:c.P.underlying t=some (.map kt et))(hz: ∀w,(zeroValue et).run c.P w= .ok v w)(hx:gH g f x (.map (some b)))(hy:gH g f y (kv key))(hA: ∀w,Mem w0 L w->rN w b ps)(hu:g=true->(gT ps key).getD v=u):gj g c w0 L f (.lookup t x y false) ty u:=λe _ _ _ _ w hw=>by
 simp [execOp,hx e,hy e,p9 hK ht hz (hA w hw) key,Result.andThen,hu e]
theorem Rz(k){b ps key v}(hK:sh c.P kt)(ht:c.P.underlying t=some (.map kt et))(hx:ev f x= .map (some b))(hy:ev f y=kv key)(hz:ev f z=v)(hk:L[k]?=some (mT b ps))(hn:gT ps key=none)(next:K (L.set k (mT b (ps++[(key,v)]))) f):
  vO c w0 L f ⟨none, .mapUpdate t x y z,ty,pos,af,none⟩ K:=
 ⟨rfl,rfl,rfl,λw hw=>by
  have hA:rN w b ps:=hw.item hk;obtain ⟨w',hrun,h1,h2,h3,h4⟩:=As (P:=c.P) hK ht hA key hn v;have:(execOp (ev f) ⟨none, .mapUpdate t x y z,ty,pos,af,none⟩).run c.P w= .ok .skip w':=by simp [execOp,hx,hy,hz,hrun,Result.andThen]
  rw [this];refine ⟨_,hw.set (it':=mT b (ps++[(key,v)])) hk (λ_ h=>h) h1 ⟨h2.os,h2.tape,h2.output,h3,h4⟩ (λb' hb'=>?_),hG hk rfl,next⟩;by_cases hlt:b'<w.heap.size
  ·exact h2.block b' hlt (λe=>hb' (by injection e))
  rw [dC (by omega),dC (by omega)]⟩
end
theorem rN.lt{w b ps}(h:rN w b ps):b<w.heap.size:=by
 grind [rN]
theorem rN.mem{w0 w L b ps}(h:rN w0 b ps)(hw:Mem w0 L w):rN w b ps:=by
 have hl:=h.lt
 obtain ⟨es,c,h1,h2⟩:=h
 exact ⟨es,c,(hw.1.block b hl).trans h1,h2⟩
end Go.Proofs.E
namespace Go.Proofs.Rid
open Go Go.RowKit Go.Proofs.E Go.Proofs.Cus
theorem nm{α:Type}{l:List α}{k x y}(h:l[k]?=some x):(l.set k y)[k]?=some y:=by
 have:=(ai.1 h).1
 rw [cD];simp [this]
theorem sZ(xs:List RX)(k y):(xs.set k y).map (·.r)=(xs.map (·.r)).set k y.r:=uC
section
variable {a:YA} {t:TY} {w0 w:World} {L:List E.Item} {n N:Nat}
theorem ri{k x}(hx:t.xs[k]?=some x):(t.xs.map (·.r)).getD k default=x.r:=(Lu hx).2
theorem qB(hw:Mem w0 (yC a t++L) w)(hmk:marks L=[])(hI:WF n N t.plain)(hN:N<=100000)(b)(hb:b<n)(at_ wh):
  Calls Tryz.prog 191 #[.pointer (some ⟨a.sb,0,none⟩), .int .i64 b, .agg at_.cells.toArray, .agg wh.cells.toArray] w λr w'=> ∃t':{t':TY//t'.plain=jm t.plain b at_ wh},r= .returned (.tuple #[])/\Mem w0 (yC a t'.1++L) w':=by
 obtain ⟨hpl,hrl,hsl,hxl⟩:=B6 hI;obtain ⟨v,hv,hvg,hv0,hv1⟩:=q9 hI hb;have hvt:t.du[b]?=some v:=hv;obtain ⟨sp,hsp⟩: ∃sp,t.aG[b]?=some sp:=⟨_,ah (by omega)⟩;have hv1':v<t.xs.length:=by simpa [TY.plain] using hv1
 obtain ⟨t1,ht1⟩: ∃t1:TY,t1=⟨t.xs,t.nG,t.du,t.bP,t.aG.set b at_⟩:=⟨_,rfl⟩;have hI1:WF n N t1.plain:=by rw [ht1];exact ⟨hI.du,by simp [TY.plain];exact hsl,hI.bP,hI.num,hI.bn,hI.db,hI.ids⟩
 have hst1: ∀(X:List E.Item) (u:World),Mem w0 ([box a.sb 237 (kN a t),eI a.rA a.rc t.xs,kc t.xs,Dw a.pA a.pc t.bP,rB (some ⟨a.g,0,none⟩) a.gc t.du,E.dS 159 4 Sp.cells (some ⟨a.s,0,none⟩) a.sc (t.aG.set b at_),oP a.m (Mj t.nG)]++X) u->Mem w0 (yC a t1++X) u:=λX u h=>by
  have hc:kN a t1=kN a t:=by rw [ht1];unfold kN;simp
  show Mem w0 ([box a.sb 237 (kN a t1),_,_,_,_,_,_]++X) u;rw [hc,ht1];exact h
 refine gI hw hmk Tryz.func191 rfl Tryz.ntmps191 rfl ?_;refine GX ?_;refine cd (v:= .agg _) rfl rfl λb6=>cd (v:= .agg _) rfl rfl λb7=>?_;refine GX ?_;refine E.RT rfl rfl (by decide+kernel)<|GX ?_;refine cQ (eR 7 at_ rfl rfl fW rfl rfl rfl hsp rfl rfl ?_);refine GD ?_ ?_<;>intro hneg
 ·have hneg':v<0:=by simpa using hneg
  refine GX ?_;exact Rb rfl hmk λw' hw=>⟨⟨t1,by rw [ht1];unfold jm TY.plain;simp only;rw [show t.du.getD b 0=v from hvg,aB hneg']⟩,rfl,hst1 L w' hw.tail.tail⟩
 have hpos:0<=v:=by simpa using hneg
 obtain ⟨k,rfl⟩: ∃k:Nat,v=k:=⟨v.toNat,by omega⟩;have hk:k<t.xs.length:=by omega
 obtain ⟨x,hx⟩: ∃x,t.xs[k]?=some x:=⟨_,ah hk⟩;obtain ⟨y,hy⟩: ∃y:RX,y=⟨iG (t.bP.getD k false) wh x.r,x.a⟩:=⟨_,rfl⟩;obtain ⟨t2,ht2⟩: ∃t2:TY,t2=⟨t.xs.set k y,t.nG,t.du,t.bP.set k false,t.aG.set b at_⟩:=⟨_,rfl⟩;have hx1:t1.xs[k]?=some x:=by rw [ht1];exact hx
 have hx2:t2.xs[k]?=some y:=by rw [ht2];exact nm hx
 have hlo:=Eo hI hx;have hlo2:=Bz (p:=t.bP.getD k false) (w:=wh) hlo;rw [show iG (t.bP.getD k false) wh x.r=y.r by rw [hy]] at hlo2;have hI2:WF n N t2.plain:=by
  have:=hI1.resume (k:=k) (by rw [ht1];simpa [TY.plain] using hk) wh;have e:t2.plain=k7 t1.plain k wh:=by
   rw [ht2,ht1];unfold k7 TY.plain;simp only;rw [sZ,ri hx,hy]
  rw [e];exact this
 refine GX ?_;refine cQ (dD (en Tryz.call190 (nS (q0 rfl) (q0 rfl) (q0 rfl))) (λw hw=>FD (a:=a) (t:=t1) (L:=[_,_]++L) (hst1 _ _ (Mem.uw (X:=[_,_]) (S:=[box a.sb 237 (kN a t),_,_,_,_,_,_]) hw)) hmk hI1 hN (by rw [ht1];exact hk) hx1 wh) rfl (λ_=>rfl) λu=>?_);iterate 3 refine G0 ?_
 refine jb (L':=Qc a t2 k y++([box b7 74 wh.cells,box b6 159 at_.cells]++L)) (λw hw=>I1 (by
  have e:(⟨t1.xs.set k ⟨iG (t1.bP.getD k false) wh x.r,x.a⟩,t1.nG,t1.du,t1.bP.set k false,t1.aG⟩:TY)=t2:=by rw [ht2,ht1,hy]
  rw [e] at hw;exact hw) hx2) rfl ?_
 have hkn:k<t2.xs.length:=by rw [ht2];simpa using hk
 have hv2:t2.du[b]?=some (k:Int):=by rw [ht2];exact hvt
 have hcl:=λ(z:RX) (w:World)=>EM (a:=a) (t:=t2) (w0:=w0) (w:=w) (L:=L) (m:=t2.nG) (gs:=t2.du.set b (-1)) (ps:=t2.bP) (ss:=t2.aG) (k:=k) z hkn (by simp) rfl rfl;have hfin: ∀(z:RX),z.r=mL at_ wh y.r->(⟨t2.xs.set k z,t2.nG,t2.du.set b (-1),t2.bP,t2.aG⟩:TY).plain=jm t.plain b at_ wh:=λz hz=>by
  unfold jm;rw [hvg,an (by omega)];simp only [bC];rw [ht2];unfold k7 TY.plain;simp only;rw [ri hx,sZ,sZ,gV,gV,hz,hy];have h8:(t.xs.map (·.r))[k]?=some x.r:=(Lu hx).1;rw [r3 (nm h8)]
 have hrl2:t2.du.length=n:=by rw [ht2];exact hrl
 obtain ⟨yr,⟨lA,lc,pA,pc⟩⟩:=y;simp only at hlo2 hfin;refine gM (λw hw=>fG (j:=0) hw rfl (by omega)) λ⟨rb,hrb⟩=>?_;refine gM (λw hw=>fG (j:=2) hw rfl (by simp only;omega)) λ⟨lb,hlb⟩=>?_;obtain ⟨asb,arA,arc,am,ag,agc,apA,apc,as_,K2⟩:=a;simp only at hrb hlb;subst hrb;subst hlb;obtain ⟨g,hg⟩: ∃g,yr.db[yr.db.length -1]?=some g:=⟨_,ah (by omega)⟩;refine GX ?_;refine E.RT rfl rfl (by decide+kernel) ?_;iterate 3 refine G0 ?_
 refine fI (gB (v:= .slice (some ⟨lb,0,none⟩) yr.db.length lc) qm (q0 rfl) (by exact rr 0 (r:=7) rfl hx2 rfl)) ?_;iterate 3 refine G0 ?_
 refine fI (gB (v:= .slice (some ⟨lb,0,none⟩) yr.db.length lc) qm (q0 rfl) (by exact rr 0 (r:=7) rfl hx2 rfl)) ?_;refine G0 ?_;refine fI (rK (r:=((yr.db.length -1:Nat):Int)) (q0 rfl) (q0 rfl) (λ_=>⟨by omega,by omega,by omega⟩)) ?_;refine G0 ?_;refine fI (cx (yr.db.length -1) eU ij (q0 rfl) (q0 rfl) (λ_=>⟨rfl,by omega⟩)) ?_;iterate 3 refine G0 ?_
 refine cQ (iw 2 (i:=yr.db.length -1) (off:=3) {g with jT:=wh} rfl rfl cz rfl rfl rfl hg rfl rfl ?_);refine GX ?_;refine JQ 1 ?_;refine aW 0 ?_;refine aW 1 ?_;refine aW 2 ?_;refine aW 3 ?_;refine aW 4 ?_;refine aW 5 ?_;refine aW 6 ?_;refine aW 7 ?_;refine aW 8 ?_;refine aW 9 ?_;refine aW 10 ?_;refine r1 11 1 ?_;refine aL rfl (iw 0 (i:=k) (off:=4) ⟨{yr with end_:=wh},⟨some ⟨lb,0,none⟩,lc,pA,pc⟩⟩ rfl rfl cz rfl rfl rfl hx2 rfl rfl ?_);refine aW 12 ?_;refine aW 13 ?_;refine r1 14 1 ?_;refine aL rfl (iw 0 (i:=k) (off:=6) ⟨{yr with end_:=wh,open_:=false},⟨some ⟨lb,0,none⟩,lc,pA,pc⟩⟩ rfl rfl gD rfl rfl rfl (nm hx2) rfl rfl ?_);refine aW 15 ?_;refine aW 16 ?_;refine r1 17 1 ?_;refine aL rfl (iw 0 (i:=k) (off:=11) ⟨{yr with end_:=wh,open_:=false,wh:=at_.cF},⟨some ⟨lb,0,none⟩,lc,pA,pc⟩⟩ rfl rfl ae rfl rfl rfl (nm (nm hx2)) rfl rfl ?_);refine aW 18 ?_;refine aW 19 ?_;refine r1 20 1 ?_;refine aL rfl (iw 0 (i:=k) (off:=12) ⟨{yr with end_:=wh,open_:=false,wh:=at_.cF,pl:=at_.place},⟨some ⟨lb,0,none⟩,lc,pA,pc⟩⟩ rfl rfl ae rfl rfl rfl (nm (nm (nm hx2))) rfl rfl ?_);refine qE 1 ?_;refine GX ?_;refine cQ (eR 4 (k:=1) (enc:=eQ) (-1) rfl rfl ae rfl rfl rfl hv2 rfl rfl ?_);refine GX ?_;exact kr rfl hmk λw' hw=>⟨⟨_,hfin ⟨mL at_ wh yr,⟨some ⟨lb,0,none⟩,lc,pA,pc⟩⟩ rfl⟩,rfl,hcl ⟨mL at_ wh yr,⟨some ⟨lb,0,none⟩,lc,pA,pc⟩⟩ w' (by
  have h9:=hw.oU 11 [0,1,2,3,4,5,6,7,8] (by decide) (by decide);have e1:eI (some ⟨rb,0,none⟩) arc (t2.xs.set k ⟨mL at_ wh yr,⟨some ⟨lb,0,none⟩,lc,pA,pc⟩⟩)=eI (some ⟨rb,0,none⟩) arc ((((t2.xs.set k ⟨{yr with end_:=wh},⟨some ⟨lb,0,none⟩,lc,pA,pc⟩⟩).set k ⟨{yr with end_:=wh,open_:=false},⟨some ⟨lb,0,none⟩,lc,pA,pc⟩⟩).set k ⟨{yr with end_:=wh,open_:=false,wh:=at_.cF},⟨some ⟨lb,0,none⟩,lc,pA,pc⟩⟩).set k ⟨{yr with end_:=wh,open_:=false,wh:=at_.cF,pl:=at_.place},⟨some ⟨lb,0,none⟩,lc,pA,pc⟩⟩):=by
   simp only [gV];have:=yE (e:=78) (n:=13) (c:=arc) (enc:=RX.cells) (A:=some ⟨rb,0,none⟩) (k:=k) (x:=⟨{yr with end_:=wh,open_:=false,wh:=at_.cF,pl:=at_.place},⟨some ⟨lb,0,none⟩,lc,pA,pc⟩⟩) (y:=⟨mL at_ wh yr,⟨some ⟨lb,0,none⟩,lc,pA,pc⟩⟩) (nm hx2) (by simp [RX.cells,Rd.AX,mL,rJ]);rw [gV] at this;exact this
  have e2:(mL at_ wh yr).db=yr.db.set (yr.db.length -1) {g with jT:=wh}:=by unfold mL;rw [KQ hg]
  simp only;rw [e1,e2];exact h9)⟩
end
end Go.Proofs.Rid
namespace Go.Proofs.Rid
open Go Go.RowKit Go.Proofs.E Go.Proofs.Cus
section
variable {a:YA} {t:TY} {w0 w:World} {L:List E.Item} {n N:Nat}
abbrev R4 (a:YA) (p:SY):Type:={y:YA×TY//y.1.sb=a.sb/\y.2.plain=p}
theorem EP(hw:Mem w0 (yC a t++L) w)(hmk:marks L=[])(hI:WF n N t.plain)(hN:N<=100000)(e:Ev)(hb:0<=e.bq/\e.bq<n)(wh):
  Calls Tryz.prog 188 #[.pointer (some ⟨a.sb,0,none⟩), .agg e.cells.toArray, .agg wh.cells.toArray] w λr w'=> ∃y:R4 a (oC t.plain e wh),r= .returned (.tuple #[])/\Mem w0 (yC y.1.1 y.1.2++L) w':=by
 obtain ⟨hpl,hrl,hsl,hxl⟩:=B6 hI;obtain ⟨k,hk⟩: ∃k:Nat,e.bq=k:=⟨e.bq.toNat,by omega⟩;have hkn:k<n:=by omega
 obtain ⟨sp,hsp⟩: ∃sp,t.aG[k]?=some sp:=⟨_,ah (by omega)⟩;obtain ⟨v,hv,hvg,hv0,hv1⟩:=q9 hI hkn;have hvt:t.du[k]?=some v:=hv;have hspd:t.plain.aG.getD e.bq.toNat default=sp:=by rw [hk];exact r3 hsp
 obtain ⟨ed,es,eat,el,ekind,ebike,epl,erd,erid⟩:=e;simp only at hk hspd;subst hk;refine gI hw hmk Tryz.func188 rfl Tryz.ntmps188 rfl ?_;refine GX ?_;refine cd (v:= .agg _) rfl rfl λb4=>cd (v:= .agg _) rfl rfl λb5=>?_;refine GX ?_;refine JR<|aW 0 ?_;refine aW 1 ?_;refine aW 2 ?_;refine aW 3 ?_;refine aW 4 ?_;refine aW 5 ?_;refine mG 6 rfl (cx k fR fW (q0 rfl) (q0 rfl) (λ_=>⟨rfl,by omega⟩))<|aW 7 ?_;refine r1 8 0 ?_;refine aL rfl (mO fC rfl λb6=>?_);refine r1 9 1 ?_;refine aL rfl (mB (v:= .agg _) rfl rfl fW ?_);refine qE 1 ?_;refine GX ?_;refine E.RT rfl rfl (by decide+kernel)<|GX ?_;refine cQ (M7 9 E0 av rfl rfl rfl rfl ?_);refine GX ?_;refine E.RT rfl rfl (by decide+kernel)<|GX ?_;refine cQ (eR 7 (k:=1) (enc:=eQ) (t.xs.length:Int) rfl rfl ae rfl rfl rfl hvt rfl rfl ?_);refine GX ?_;refine jb (λw hw=>hw.oU 10 [3,4,0,1,2,5,6,7,8,9] (by decide) (by decide)) rfl<|ke (rg 38 24) (λ_:Nat×Option Addr×Nat=>[]) (λs=>[zO none 0 [],uf (some ⟨s.1,0,none⟩) 1 [⟨k,wh,uD⟩],box a.sb 237 [.slice s.2.1 (t.xs++[(⟨uR ⟨ed,es,eat,el,ekind,k,epl,erd,erid⟩ sp wh,⟨some ⟨s.1,0,none⟩,1,none,0⟩⟩:RX)]).length s.2.2, .map (some a.m), .slice (some ⟨a.g,0,none⟩) t.du.length a.gc, .slice a.pA t.bP.length a.pc, .slice (some ⟨a.s,0,none⟩) t.aG.length a.sc],eI s.2.1 s.2.2 (t.xs++[(⟨uR ⟨ed,es,eat,el,ekind,k,epl,erd,erid⟩ sp wh,⟨some ⟨s.1,0,none⟩,1,none,0⟩⟩:RX)]),kc t.xs,Dw a.pA a.pc t.bP,rB (some ⟨a.g,0,none⟩) a.gc (t.du.set k t.xs.length),E.dS 159 4 Sp.cells (some ⟨a.s,0,none⟩) a.sc t.aG,oP a.m (ou (Mj t.nG) erid (.int .i64 t.xs.length))]++L) (λ_=>True) ?_ ?_
 ·refine JQ 2 ?_;refine aW 0 ?_;refine aW 1 ?_;refine aW 2 ?_;refine aW 3 ?_;refine aW 5 ?_;refine aW 6 ?_;refine aW 7 ?_;refine aW 8 ?_;refine aW 9 ?_;refine aW 10 ?_;refine aW 11 ?_;refine aW 12 ?_;refine mG 13 rfl (bN iA Jg iS (pt (v:= .int _ _) rfl (pt (v:= .agg _) rfl E.p0)) rfl)<|aW 15 ?_;refine aW 16 ?_;refine aW 17 ?_;refine aW 18 ?_;refine lS (i:=4) (j:=14) (by decide+kernel) (au 2) ?_ ?_
  ·refine aL rfl (kA (gB (v:= .slice a.rA t.xs.length a.rc) ib (q0 rfl) cb) rfl rfl ?_);refine r1 14 2 ?_;refine aL rfl (ey [(.int .i64 0),(.int .i64 0),(.int .i64 0),(.int .i64 0),(.int .i64 0)] eU ij iS rfl (by kernel_rfl) (pt (v:= .agg _) rfl E.p0) rfl rfl λb52=>?_);refine mG 19 rfl (bN bE Pg dp (pt (v:= .int _ _) rfl (pt (v:= .int _ _) rfl (pt (v:= .agg _) rfl (pt (v:= .bool _) rfl (pt (v:= .slice _ _ _) rfl (pt (v:= .int _ _) rfl (pt (v:= .int _ _) rfl (pt (v:= .int _ _) rfl E.p0)))))))) rfl)<|r1 20 3 ?_;refine aL rfl (ey [(.int .i64 0),(.int .i64 0),(.int .i64 0),(.int .i64 0),(.int .i64 0),(.int .i64 0),(.bool false),(.slice none 0 0),(.slice none 0 0),(.int .i64 0),(.int .i64 0),(.int .i64 0),(.int .i64 0)] aT ba dp rfl (by kernel_rfl) (pt (v:= .agg _) rfl E.p0) rfl rfl λb58=>?_);refine aI 1 ?_;refine r1 21 4 ?_;refine aL rfl (dj (k:=13) (i:=Tryz.t78) (enc:=RX.cells) 3 aT (by kernel_rfl) rfl rfl rfl rfl (λ_=>rfl) (λ_=>rfl) rfl rfl rfl (λw hw=>fj (enc:=RX.cells) (xs:=[⟨uR ⟨ed,es,eat,el,ekind,k,epl,erd,erid⟩ sp wh,⟨some ⟨b52,0,none⟩,1,none,0⟩⟩]) hw (j:=1) rfl (λ_=>rfl) (by simp)) ⟨by simp;omega,by decide⟩ rfl λA1 c1=>?_);refine aW 22 ?_;refine aW 23 ?_;refine r1 24 4 ?_;refine aL rfl (mB (v:= .slice _ _ _) rfl rfl di ?_);refine qE 4 ?_;exact aO ((b52,A1,c1):Nat×Option Addr×Nat) lg trivial (λw hw=>by have h1:=hw.oU 12 [0,2,3,7,8,9,10,11] (by decide) (by decide);have h2:=h1.EO (j:=0) (b:=b52) (e:=142) (n:=5) (enc:=Lg.cells) (xs:=[⟨k,wh,uD⟩]) rfl (λ_=>rfl) (by simp);have h3:=h2.fY 284 4 Pz.cells (c:=0) rfl;exact h3) rfl trivial
  refine aL rfl (ey [(.int .i64 0),(.int .i64 0),(.int .i64 0),(.int .i64 0),(.int .i64 0)] eU ij iS rfl (by kernel_rfl) (pt (v:= .agg _) rfl E.p0) rfl rfl λb52=>?_);refine mG 19 rfl (bN bE Pg dp (pt (v:= .int _ _) rfl (pt (v:= .int _ _) rfl (pt (v:= .agg _) rfl (pt (v:= .bool _) rfl (pt (v:= .slice _ _ _) rfl (pt (v:= .int _ _) rfl (pt (v:= .int _ _) rfl (pt (v:= .int _ _) rfl E.p0)))))))) rfl)<|lS (i:=4) (j:=20) (by decide+kernel) (au 3) ?_ ?_
  ·refine aL rfl (kA (gB (v:= .slice a.rA t.xs.length a.rc) ib (q0 rfl) cb) rfl rfl ?_);refine r1 20 3 ?_;refine aL rfl (ey [(.int .i64 0),(.int .i64 0),(.int .i64 0),(.int .i64 0),(.int .i64 0),(.int .i64 0),(.bool false),(.slice none 0 0),(.slice none 0 0),(.int .i64 0),(.int .i64 0),(.int .i64 0),(.int .i64 0)] aT ba dp rfl (by kernel_rfl) (pt (v:= .agg _) rfl E.p0) rfl rfl λb58=>?_);refine aI 1 ?_;refine r1 21 4 ?_;refine aL rfl (dj (k:=13) (i:=Tryz.t78) (enc:=RX.cells) 3 aT (by kernel_rfl) rfl rfl rfl rfl (λ_=>rfl) (λ_=>rfl) rfl rfl rfl (λw hw=>fj (enc:=RX.cells) (xs:=[⟨uR ⟨ed,es,eat,el,ekind,k,epl,erd,erid⟩ sp wh,⟨some ⟨b52,0,none⟩,1,none,0⟩⟩]) hw (j:=1) rfl (λ_=>rfl) (by simp)) ⟨by simp;omega,by decide⟩ rfl λA1 c1=>?_);refine aW 22 ?_;refine aW 23 ?_;refine r1 24 4 ?_;refine aL rfl (mB (v:= .slice _ _ _) rfl rfl di ?_);refine qE 4 ?_;exact aO ((b52,A1,c1):Nat×Option Addr×Nat) lg trivial (λw hw=>by have h1:=hw.oU 12 [0,2,3,7,8,9,10,11] (by decide) (by decide);have h2:=h1.EO (j:=0) (b:=b52) (e:=142) (n:=5) (enc:=Lg.cells) (xs:=[⟨k,wh,uD⟩]) rfl (λ_=>rfl) (by simp);have h3:=h2.fY 284 4 Pz.cells (c:=0) rfl;exact h3) rfl trivial
  refine aL rfl (ey [(.int .i64 0),(.int .i64 0),(.int .i64 0),(.int .i64 0),(.int .i64 0),(.int .i64 0),(.bool false),(.slice none 0 0),(.slice none 0 0),(.int .i64 0),(.int .i64 0),(.int .i64 0),(.int .i64 0)] aT ba dp rfl (by kernel_rfl) (pt (v:= .agg _) rfl E.p0) rfl rfl λb58=>?_);refine aI 1 ?_;refine r1 4 4 ?_;refine aL rfl (kA (gB (v:= .slice a.rA t.xs.length a.rc) ib (q0 rfl) cb) rfl rfl ?_);refine r1 21 4 ?_;refine aL rfl (dj (k:=13) (i:=Tryz.t78) (enc:=RX.cells) 3 aT (by kernel_rfl) rfl rfl rfl rfl (λ_=>rfl) (λ_=>rfl) rfl rfl rfl (λw hw=>fj (enc:=RX.cells) (xs:=[⟨uR ⟨ed,es,eat,el,ekind,k,epl,erd,erid⟩ sp wh,⟨some ⟨b52,0,none⟩,1,none,0⟩⟩]) hw (j:=1) rfl (λ_=>rfl) (by simp)) ⟨by simp;omega,by decide⟩ rfl λA1 c1=>?_);refine aW 22 ?_;refine aW 23 ?_;refine r1 24 4 ?_;refine aL rfl (mB (v:= .slice _ _ _) rfl rfl di ?_);refine qE 4 ?_;exact aO ((b52,A1,c1):Nat×Option Addr×Nat) lg trivial (λw hw=>by have h1:=hw.oU 12 [0,2,3,7,8,9,10,11] (by decide) (by decide);have h2:=h1.EO (j:=0) (b:=b52) (e:=142) (n:=5) (enc:=Lg.cells) (xs:=[⟨k,wh,uD⟩]) rfl (λ_=>rfl) (by simp);have h3:=h2.fY 284 4 Pz.cells (c:=0) rfl;exact h3) rfl trivial
 rintro ⟨lb,A1,c1⟩ g5 _;refine GX ?_;refine gN (k:=1) (i:=Tryz.t4) 5 (false) Tryz.underlying86 (by kernel_rfl) rfl rfl rfl rfl gD ia rfl rfl rfl rfl rfl rfl ⟨by omega,by decide⟩ rfl rfl λPB A2 c2=>GX ?_;refine dN (v:= .slice _ _ _) rfl rfl Tryz.sizeOf86<|GX ?_;exact kr rfl hmk λw' hw=>⟨⟨(⟨a.sb,A1,c1,a.m,a.g,a.gc,A2,c2,a.s,a.sc⟩,⟨t.xs++[⟨uR ⟨ed,es,eat,el,ekind,k,epl,erd,erid⟩ sp wh,⟨some ⟨lb,0,none⟩,1,none,0⟩⟩],CN t.nG erid t.xs.length,t.du.set k t.xs.length,t.bP++[false],t.aG⟩),rfl,by
  unfold oC TY.plain;unfold TY.plain at hspd;simp only at hspd|-;rw [hspd];simp⟩,rfl,by
  have h1:=hw.oU 9 [1,0,4,2,3,5,6,7,8] (by decide) (by decide);have h2:=Mem.Eb (f:=jV) (y:=⟨uR ⟨ed,es,eat,el,ekind,k,epl,erd,erid⟩ sp wh,⟨some ⟨lb,0,none⟩,1,none,0⟩⟩) (xs:=t.xs) h1;have h3:=h2.oU 7 [1,2,0,3,4,5,6] (by decide) (by decide);rw [IL] at h3;have hc:kN ⟨a.sb,A1,c1,a.m,a.g,a.gc,A2,c2,a.s,a.sc⟩ ⟨t.xs++[⟨uR ⟨ed,es,eat,el,ekind,k,epl,erd,erid⟩ sp wh,⟨some ⟨lb,0,none⟩,1,none,0⟩⟩],CN t.nG erid t.xs.length,t.du.set k t.xs.length,t.bP++[false],t.aG⟩=[.slice A1 (t.xs++[(⟨uR ⟨ed,es,eat,el,ekind,k,epl,erd,erid⟩ sp wh,⟨some ⟨lb,0,none⟩,1,none,0⟩⟩:RX)]).length c1, .map (some a.m), .slice (some ⟨a.g,0,none⟩) t.du.length a.gc, .slice A2 (t.bP++[false]).length c2, .slice (some ⟨a.s,0,none⟩) t.aG.length a.sc]:=by unfold kN;simp
  show Mem w0 ([box a.sb 237 (kN _ _),_,_,_,_,_,_]++L) w';rw [hc];exact h3⟩
theorem Nv(hw:Mem w0 (yC a t++L) w)(hmk:marks L=[])(hI:WF n N t.plain)(hN:N<=100000)(e:Ev)(hb:0<=e.bq/\e.bq<n)(wh):
  Calls Tryz.prog 189 #[.pointer (some ⟨a.sb,0,none⟩), .agg e.cells.toArray, .agg wh.cells.toArray] w λr w'=> ∃y:R4 a (kL t.plain e wh),r= .returned (.tuple #[])/\Mem w0 (yC y.1.1 y.1.2++L) w':=by
 obtain ⟨hpl,hrl,hsl,hxl⟩:=B6 hI;obtain ⟨k,hk⟩: ∃k:Nat,e.bq=k:=⟨e.bq.toNat,by omega⟩;have hkn:k<n:=by omega
 obtain ⟨sp,hsp⟩: ∃sp,t.aG[k]?=some sp:=⟨_,ah (by omega)⟩;have hspd:t.plain.aG.getD e.bq.toNat default=sp:=by rw [hk];exact r3 hsp
 have hlk:=Mi t.nG e.bn;have hids:=hI.ids e.bn;obtain ⟨ed,es,eat,el,ekind,ebike,epl,erd,erid⟩:=e;simp only at hk hspd hlk hids;subst hk;cases hr:xw t.nG erid with
 |none=>
  rw [hr] at hlk;refine gI hw hmk Tryz.func189 rfl Tryz.ntmps189 rfl ?_;refine GX ?_;refine cd (v:= .agg _) rfl rfl λb4=>cd (v:= .agg _) rfl rfl λb5=>?_;refine GX ?_;refine vS<|GX ?_;refine fI (Gv 8 (u:= .int .i64 0) (bb:=false) E0 av bw (q0 rfl) (q0 rfl) rfl (λ_=>by rw [hlk];exact ⟨rfl,rfl⟩)) ?_;refine GD ?_ ?_<;>intro h1
  ·exact Rb rfl hmk λw' hw=>⟨⟨(a,t),rfl,by unfold kL;rw [show xw t.plain.nG erid=none from hr]⟩,rfl,hw.tail.tail⟩
  cases h1
 |some kk=>
  rw [hr] at hlk;obtain ⟨hk0,hk1⟩:=hids kk hr;obtain ⟨q,rfl⟩: ∃q:Nat,kk=q:=⟨kk.toNat,by omega⟩;have hq:q<t.xs.length:=by simpa [TY.plain] using hk1
  obtain ⟨x,hx⟩: ∃x,t.xs[q]?=some x:=⟨_,ah hq⟩;have hlo:=Eo hI hx;have hxd:=ri hx;have hop:=λ(X:List E.Item) (w:World) (h:Mem w0 (yC a t++X) w)=>I1 h hx;have hcl:=λ(z:RX) (gs:List Int) (ss:List Sp) (w:World)=>EM (a:=a) (t:=t) (w0:=w0) (w:=w) (L:=L) (m:=t.nG) (gs:=gs) (ps:=t.bP) (ss:=ss) (k:=q) z hq;refine gI hw hmk Tryz.func189 rfl Tryz.ntmps189 rfl ?_;refine GX ?_;refine cd (v:= .agg _) rfl rfl λb4=>cd (v:= .agg _) rfl rfl λb5=>?_;refine GX ?_;refine vS<|GX ?_;refine fI (Gv 8 (u:= .int .i64 q) (bb:=true) E0 av bw (q0 rfl) (q0 rfl) rfl (λ_=>by rw [hlk];exact ⟨rfl,rfl⟩)) ?_;iterate 14 refine G0 ?_
  refine bD rfl ?_ ?_<;>intro h1
  ·cases h1
  iterate 3 refine G0 ?_
  refine jb (λw hw=>hop _ w (Mem.uw (X:=[_,_]) (S:=yC a t) hw)) rfl<|gM (λw hw=>fG (j:=0) hw rfl (by omega)) λ⟨rb,hrb⟩=>?_;refine gM (λw hw=>fG (j:=2) hw rfl hlo.1) λ⟨lb,hlb⟩=>?_;obtain ⟨asb,arA,arc,am,ag,agc,apA,apc,as_,K2⟩:=a;obtain ⟨xr,⟨lA,lc,pA,pc⟩⟩:=x;simp only at hrb hlb hlo;subst hrb;subst hlb;obtain ⟨g,hg⟩: ∃g,xr.db[xr.db.length -1]?=some g:=⟨_,ah (by omega)⟩;have hgb:=hlo.2.2.2 g (aq hg);obtain ⟨gb,gf,gt⟩:=g;simp only at hgb;obtain ⟨j,rfl⟩: ∃j:Nat,gb=j:=⟨gb.toNat,by omega⟩;have hjn:j<n:=by omega
  obtain ⟨vj,hvj⟩: ∃v,t.du[j]?=some v:=⟨_,ah (by omega)⟩;obtain ⟨vk,hvk⟩: ∃v,(t.du.set j (-1))[k]?=some v:=⟨_,ah (by simp;omega)⟩;obtain ⟨sj,hsj⟩: ∃s,t.aG[j]?=some s:=⟨_,ah (by omega)⟩;iterate 6 refine G0 ?_
  refine fI (cx q aT ba (q0 rfl) (q0 rfl) (λ_=>⟨rfl,hq⟩)) ?_;refine G0 ?_;refine fI (gB (v:= .slice (some ⟨lb,0,none⟩) xr.db.length lc) qm (q0 rfl) (by exact rr 0 (r:=7) rfl hx rfl)) ?_;iterate 7 refine G0 ?_
  refine fI (rK (r:=((xr.db.length -1:Nat):Int)) (q0 rfl) (q0 rfl) (λ_=>⟨by omega,by omega,by omega⟩)) ?_;iterate 8 refine G0 ?_
  refine fI (cx (xr.db.length -1) eU ij (q0 rfl) (q0 rfl) (λ_=>⟨rfl,by omega⟩)) ?_;refine G0 ?_;refine cQ (iw 2 (i:=xr.db.length -1) (off:=3) ⟨j,gf,wh⟩ rfl rfl cz rfl rfl rfl hg rfl rfl ?_);refine GX ?_;refine fI (gB (v:= .int .i64 j) aj (q0 rfl) (by exact rr 2 (r:=0) rfl (nm hg) rfl))<|GX ?_;refine JQ 3 ?_;refine aW 0 ?_;refine aW 1 ?_;refine aW 2 ?_;refine aW 3 ?_;refine aW 4 ?_;refine aW 5 ?_;refine aW 6 ?_;refine aW 7 ?_;refine aW 8 ?_;refine mG 9 rfl (bN iA Jg iS (pt (v:= .int _ _) rfl (pt (v:= .agg _) rfl E.p0)) rfl)<|r1 10 3 ?_;refine aL rfl (ey [(.int .i64 0),(.int .i64 0),(.int .i64 0),(.int .i64 0),(.int .i64 0)] eU ij iS rfl (by kernel_rfl) (pt (v:= .agg _) rfl E.p0) rfl rfl λb54=>?_);refine r1 11 4 ?_;refine aL rfl (dj (k:=5) (i:=Tryz.t142) (enc:=Lg.cells) (xs:=xr.db.set (xr.db.length -1) ⟨j,gf,wh⟩) 3 eU (by kernel_rfl) rfl rfl rfl rfl (λ_=>rfl) (λ_=>rfl) (by rw [gP];rfl) rfl rfl (λw hw=>fj (enc:=Lg.cells) (xs:=[⟨k,wh,uD⟩]) hw (j:=0) rfl (λ_=>rfl) (by simp)) ⟨by simp;omega,by decide⟩ rfl λA1 c1=>?_);refine mG 12 rfl (cx q aT ba (q0 rfl) (q0 rfl) (λ_=>⟨rfl,hq⟩))<|aW 13 ?_;refine r1 14 4 ?_;refine aL rfl (iw 1 (i:=q) (off:=7) ⟨{xr with db:=xr.db.set (xr.db.length -1) ⟨j,gf,wh⟩++[⟨k,wh,uD⟩]},⟨A1,c1,pA,pc⟩⟩ rfl rfl qM rfl rfl rfl hx rfl rfl ?_);refine qE 4 ?_;refine GX ?_;refine jb (λw hw=>hw.tail) rfl<|JQ 5 ?_;refine aW 0 ?_;refine aW 1 ?_;refine aW 2 ?_;refine aW 3 ?_;refine aW 4 ?_;refine aW 5 ?_;refine aW 6 ?_;refine aW 7 ?_;refine aW 8 ?_;refine aW 9 ?_;refine aW 10 ?_;refine aW 11 ?_;refine mG 12 rfl (cx j aA ae (q0 rfl) (q0 rfl) (λ_=>⟨rfl,by omega⟩))<|r1 13 5 ?_;refine aL rfl (eR 4 (k:=1) (enc:=eQ) (-1) rfl rfl ae rfl rfl rfl hvj rfl rfl ?_);refine mG 14 rfl (cx k aA ae (q0 rfl) (q0 rfl) (λ_=>⟨rfl,by omega⟩))<|r1 15 5 ?_;refine aL rfl (eR 4 (k:=1) (enc:=eQ) (q:Int) rfl rfl ae rfl rfl rfl hvk rfl rfl ?_);refine qE 5 ?_;refine GX ?_;refine E.RT rfl rfl (by decide+kernel)<|GX ?_;refine cQ (eR 5 sp rfl rfl fW rfl rfl rfl hsj rfl rfl ?_);refine GX ?_;exact kr rfl hmk λw' hw=>⟨⟨(_,_),rfl,by
   have hlast:xr.db.getD (xr.db.length -1) default=⟨j,gf,gt⟩:=r3 hg;unfold kL;rw [show xw t.plain.nG erid=some (q:Int) from hr];unfold TY.plain at hspd|-;simp only [bC] at hspd|-;rw [hxd,hspd,sZ];simp only [wj,rJ,nu,hlast,bC]⟩,rfl,hcl ⟨{xr with db:=xr.db.set (xr.db.length -1) ⟨j,gf,wh⟩++[⟨k,wh,uD⟩]},⟨A1,c1,pA,pc⟩⟩ _ _ w' (by simp) rfl (by simp) (hw.oU 11 [0,1,2,3,4,5,6,7,8] (by decide) (by decide))⟩
end
end Go.Proofs.Rid
namespace Go.Proofs.Rid
open Go Go.RowKit Go.Proofs.E Go.Proofs.Cus
section
variable {a:YA} {t:TY} {w0 w:World} {L:List E.Item} {n N:Nat}
theorem Hm{s}{e:Ev}{b:Nat}{v}(hb:e.bq=b)(hv:s.du.getD b 0=v):
  (e.kind=3->gR s e=oC s e (q8 e))/\(e.kind=4->gR s e=kL s e (q8 e))/\
  (e.kind=5->gR s e=if 0<=v then {s with dH:=s.dH.set v.toNat (uL (q8 e) (s.dH.getD v.toNat default)),bP:=s.bP.set v.toNat true} else s)/\
  (e.kind=6->gR s e=if 0<=v then k7 s v.toNat (q8 e) else s)/\
  (e.kind=1->gR s e=jm s b ⟨1,e.place,0,false⟩ (q8 e))/\(e.kind=2->gR s e=jm s b ⟨2,e.place,0,false⟩ (q8 e))/\
  (e.kind=9->gR s e=jm s b ⟨6,0,0,false⟩ (q8 e))/\(e.kind≠3->e.kind≠4->e.kind≠5->e.kind≠6->e.kind≠1->e.kind≠2->e.kind≠9->gR s e=s):=by
 have hbt:e.bq.toNat=b:=by omega
 refine ⟨λh=>?_,λh=>?_,λh=>?_,λh=>?_,λh=>?_,λh=>?_,λh=>?_,λh3 h4 h5 h6 h1 h2 h9=>?_⟩<;>unfold gR<;>simp only [hbt,hv]
 ·rw [aB h]
 ·rw [an (by omega),aB h]
 ·grind
 ·grind
 ·grind
 ·grind
 ·grind
 grind
theorem QU (hw:Mem w0 (yC a t++L) w) (hmk:marks L=[]) (hI:WF n N t.plain) (hN:N<=100000) (e:Ev) (hb:0<=e.bq/\e.bq<n):
  Calls Tryz.prog 112 #[.pointer (some ⟨a.sb,0,none⟩), .agg e.cells.toArray] w λr w'=> ∃y:R4 a (gR t.plain e),r= .returned (.tuple #[])/\Mem w0 (yC y.1.1 y.1.2++L) w':=by
 obtain ⟨hpl,hrl,hsl,hxl⟩:=B6 hI;obtain ⟨k,hk⟩: ∃k:Nat,e.bq=k:=⟨e.bq.toNat,by omega⟩;have hkn:k<n:=by omega
 obtain ⟨v,hv,hvg,hv0,hv1⟩:=q9 hI hkn;have hvt:t.du[k]?=some v:=hv;have hv1':v<t.xs.length:=by simpa [TY.plain] using hv1
 obtain ⟨d3,d4,d5,d6,d1,d2,d9,d0⟩:=Hm (s:=t.plain) hk hvg;obtain ⟨ed,es,eat,el,ekind,ebike,epl,erd,erid⟩:=e;simp only at hk d3 d4 d5 d6 d1 d2 d9 d0 hb;subst hk;refine gI hw hmk Tryz.func112 rfl Tryz.ntmps112 rfl ?_;refine GX ?_;refine cd (v:= .agg _) rfl rfl λb3=>GX ?_;refine fI (bN eJ Ph p4 (pt (v:= .int _ _) rfl (pt (v:= .int _ _) rfl E.p0)) rfl) ?_;refine bS p4 rfl λb4=>dN (v:= .agg _) rfl rfl cz ?_;refine GX ?_;refine vS<|GD ?_ ?_<;>intro h3
 ·have hk3:ekind=3:=by simpa using h3
  refine GX ?_;refine cQ (dD (en Tryz.call188 (nS (q0 rfl) (q0 rfl) (q0 rfl))) (λw hw=>EP (Mem.uw (X:=[_,_]) (S:=yC a t) hw) hmk hI hN ⟨ed,es,eat,el,ekind,k,epl,erd,erid⟩ hb ⟨eat,el⟩) rfl (λ_=>rfl) λy=>?_);refine GX ?_;exact kr rfl hmk λw' hw=>⟨⟨y.1,y.2.1,y.2.2.trans (d3 hk3).symm⟩,rfl,Mem.xU (X:=[_,_]) hw⟩
 refine GD ?_ ?_<;>intro h4
 ·have hk4:ekind=4:=by simpa using h4
  refine GX ?_;refine cQ (dD (en Tryz.call189 (nS (q0 rfl) (q0 rfl) (q0 rfl))) (λw hw=>Nv (Mem.uw (X:=[_,_]) (S:=yC a t) hw) hmk hI hN ⟨ed,es,eat,el,ekind,k,epl,erd,erid⟩ hb ⟨eat,el⟩) rfl (λ_=>rfl) λy=>?_);refine GX ?_;exact kr rfl hmk λw' hw=>⟨⟨y.1,y.2.1,y.2.2.trans (d4 hk4).symm⟩,rfl,Mem.xU (X:=[_,_]) hw⟩
 refine GD ?_ ?_<;>intro h5
 ·have hk5:ekind=5:=by simpa using h5
  refine GD ?_ ?_<;>intro hp
  ·have hp':0<=v:=by simpa using hp
   obtain ⟨q,rfl⟩: ∃q:Nat,v=q:=⟨v.toNat,by omega⟩;have hq:q<t.xs.length:=by omega
   obtain ⟨x,hx⟩: ∃x,t.xs[q]?=some x:=⟨_,ah hq⟩;obtain ⟨p,hpq⟩: ∃p,t.bP[q]?=some p:=⟨_,ah (by omega)⟩;have hlo:=Eo hI hx;have hxd:=ri hx;have hop:=λ(X:List E.Item) (w:World) (h:Mem w0 (yC a t++X) w)=>I1 h hx;have hcl:=λ(z:RX) (ps:List Bool) (w:World)=>EM (a:=a) (t:=t) (w0:=w0) (w:=w) (L:=L) (m:=t.nG) (gs:=t.du) (ps:=ps) (ss:=t.aG) (k:=q) z hq;refine GX ?_;refine jb (λw hw=>hop _ w (Mem.uw (X:=[_,_]) (S:=yC a t) hw)) rfl<|gM (λw hw=>fG (j:=0) hw rfl (by omega)) λ⟨rb,hrb⟩=>?_;refine gM (λw hw=>fG (j:=3) hw rfl (by omega)) λ⟨bb,hbb⟩=>?_;obtain ⟨asb,arA,arc,am,ag,agc,apA,apc,as_,K2⟩:=a;obtain ⟨xr,⟨lA,lc,pA,pc⟩⟩:=x;simp only at hrb hbb hlo;subst hrb;subst hbb;refine ke (rg 37 19) (λ_:Option Addr×Nat=>[]) (λs=>[eI (some ⟨rb,0,none⟩) arc (t.xs.set q ⟨uL ⟨eat,el⟩ xr,⟨lA,lc,s.1,s.2⟩⟩),zO s.1 s.2 (xr.bV++[⟨⟨eat,el⟩,uD⟩]),uf lA lc xr.db,Dw (some ⟨bb,0,none⟩) apc t.bP,rB (some ⟨ag,0,none⟩) agc t.du,E.dS 159 4 Sp.cells (some ⟨as_,0,none⟩) K2 t.aG,box asb 237 (kN ⟨asb,some ⟨rb,0,none⟩,arc,am,ag,agc,some ⟨bb,0,none⟩,apc,as_,K2⟩ t),jK ((t.xs.eraseIdx q).flatMap jV),oP am (Mj t.nG),box b4 74 [.int .i64 eat, .int .i64 el],box b3 131 (Ev.cells ⟨ed,es,eat,el,ekind,k,epl,erd,erid⟩)]++L) (λ_=>True) ?_ ?_
   ·refine JQ 2 ?_;refine aW 0 ?_;refine aW 1 ?_;refine aW 2 ?_;refine aW 3 ?_;refine aW 4 ?_;refine aW 5 ?_;refine aW 6 ?_;refine aW 7 ?_;refine aW 8 ?_;refine aW 9 ?_;refine mG 10 rfl (cx q aT ba (q0 rfl) (q0 rfl) (λ_=>⟨rfl,hq⟩))<|aW 11 ?_;refine aW 13 ?_;refine mG 14 rfl (bN v7 Tu mh (pt (v:= .agg _) rfl E.p0) rfl)<|lS (i:=12) (j:=15) (by decide+kernel) (au 2) ?_ ?_
    ·refine aL rfl (kA (gB (v:= .slice pA xr.bV.length pc) ql (q0 rfl) (by first|exact rr 0 (r:=8) rfl hx rfl|exact rr 1 (r:=8) rfl hx rfl)) rfl rfl ?_);refine r1 15 2 ?_;refine aL rfl (ey [(.int .i64 0),(.int .i64 0),(.int .i64 0),(.int .i64 0)] gq jf mh rfl (by kernel_rfl) (pt (v:= .agg _) rfl E.p0) rfl rfl λb52=>?_);refine r1 16 3 ?_;refine aL rfl (dj (k:=4) (i:=Tryz.t284) (enc:=Pz.cells) (xs:=xr.bV) 2 gq (by kernel_rfl) rfl rfl rfl rfl (λ_=>rfl) (λ_=>rfl) rfl rfl rfl (λw hw=>fj (enc:=Pz.cells) (xs:=[⟨⟨eat,el⟩,uD⟩]) hw (j:=0) rfl (λ_=>rfl) (by simp)) ⟨by simp;omega,by decide⟩ rfl λA1 c1=>?_);refine mG 17 rfl (cx q aT ba (q0 rfl) (q0 rfl) (λ_=>⟨rfl,hq⟩))<|aW 18 ?_;refine r1 19 3 ?_;refine aL rfl (iw 1 (i:=q) (off:=8) ⟨uL ⟨eat,el⟩ xr,⟨lA,lc,A1,c1⟩⟩ rfl rfl qL rfl rfl rfl hx rfl rfl ?_);refine qE 3 ?_;exact aO ((A1,c1):Option Addr×Nat) lg trivial (λw hw=>hw.tail) rfl trivial
    refine aL rfl (ey [(.int .i64 0),(.int .i64 0),(.int .i64 0),(.int .i64 0)] gq jf mh rfl (by kernel_rfl) (pt (v:= .agg _) rfl E.p0) rfl rfl λb52=>?_);refine r1 12 3 ?_;refine aL rfl (kA (gB (v:= .slice pA xr.bV.length pc) ql (q0 rfl) (by first|exact rr 0 (r:=8) rfl hx rfl|exact rr 1 (r:=8) rfl hx rfl)) rfl rfl ?_);refine r1 16 3 ?_;refine aL rfl (dj (k:=4) (i:=Tryz.t284) (enc:=Pz.cells) (xs:=xr.bV) 2 gq (by kernel_rfl) rfl rfl rfl rfl (λ_=>rfl) (λ_=>rfl) rfl rfl rfl (λw hw=>fj (enc:=Pz.cells) (xs:=[⟨⟨eat,el⟩,uD⟩]) hw (j:=0) rfl (λ_=>rfl) (by simp)) ⟨by simp;omega,by decide⟩ rfl λA1 c1=>?_);refine mG 17 rfl (cx q aT ba (q0 rfl) (q0 rfl) (λ_=>⟨rfl,hq⟩))<|aW 18 ?_;refine r1 19 3 ?_;refine aL rfl (iw 1 (i:=q) (off:=8) ⟨uL ⟨eat,el⟩ xr,⟨lA,lc,A1,c1⟩⟩ rfl rfl qL rfl rfl rfl hx rfl rfl ?_);refine qE 3 ?_;exact aO ((A1,c1):Option Addr×Nat) lg trivial (λw hw=>hw.tail) rfl trivial
   rintro ⟨A1,c1⟩ g5 _;refine GX ?_;refine cQ (eR 3 (k:=1) (enc:=KS) true rfl rfl gD rfl rfl rfl hpq rfl rfl ?_);refine GX ?_;exact kr rfl hmk λw' hw=>⟨⟨(_,_),rfl,by
    rw [d5 hk5,aB hp'];unfold TY.plain;simp only [bC];rw [hxd,sZ];rfl⟩,rfl,hcl ⟨uL ⟨eat,el⟩ xr,⟨lA,lc,A1,c1⟩⟩ (t.bP.set q true) w' rfl (by simp) rfl (hw.oU 11 [0,1,2,3,4,5,6,7,8] (by decide) (by decide))⟩
  have hp': ¬0<=v:=by simpa using hp
  refine GX ?_;exact kr rfl hmk λw' hw=>⟨⟨(a,t),rfl,by rw [d5 hk5,an hp']⟩,rfl,hw.tail.tail⟩
 refine GD ?_ ?_<;>intro h6
 ·have hk6:ekind=6:=by simpa using h6
  refine GD ?_ ?_<;>intro hp
  ·have hp':0<=v:=by simpa using hp
   obtain ⟨q,rfl⟩: ∃q:Nat,v=q:=⟨v.toNat,by omega⟩;have hq:q<t.xs.length:=by omega
   obtain ⟨x,hx⟩: ∃x,t.xs[q]?=some x:=⟨_,ah hq⟩;have hxd:=ri hx;refine GX ?_;refine cQ (dD (en Tryz.call190 (nS (q0 rfl) (q0 rfl) (q0 rfl))) (λw hw=>FD (Mem.uw (X:=[_,_]) (S:=yC a t) hw) hmk hI hN hq hx ⟨eat,el⟩) rfl (λ_=>rfl) λu=>?_);refine GX ?_;exact kr rfl hmk λw' hw=>⟨⟨(a,_),rfl,by
    rw [d6 hk6,aB hp'];unfold k7 TY.plain;simp only [bC];rw [hxd,sZ];rfl⟩,rfl,Mem.xU (X:=[_,_]) hw⟩
  have hp': ¬0<=v:=by simpa using hp
  refine GX ?_;exact kr rfl hmk λw' hw=>⟨⟨(a,t),rfl,by rw [d6 hk6,an hp']⟩,rfl,hw.tail.tail⟩
 refine GD ?_ ?_<;>intro h1
 ·have hk1:ekind=1:=by simpa using h1
  refine GX ?_;refine fI (bN dE wA fC (pt (v:= .int _ _) rfl (pt (v:= .int _ _) rfl E.p0)) rfl) ?_;refine GX ?_;refine cQ (dD (en SB (Gf (q0 rfl) (q0 rfl) (q0 rfl) (q0 rfl))) (λw hw=>qB (Mem.uw (X:=[_,_]) (S:=yC a t) hw) hmk hI hN k hkn ⟨1,epl,0,false⟩ ⟨eat,el⟩) rfl (λ_=>rfl) λy=>?_);refine GX ?_;exact kr rfl hmk λw' hw=>⟨⟨(a,y.1),rfl,y.2.trans (d1 hk1).symm⟩,rfl,Mem.xU (X:=[_,_]) hw⟩
 refine GD ?_ ?_<;>intro h2
 ·have hk2:ekind=2:=by simpa using h2
  refine GX ?_;refine fI (bN dE wA fC (pt (v:= .int _ _) rfl (pt (v:= .int _ _) rfl E.p0)) rfl) ?_;refine GX ?_;refine cQ (dD (en SB (Gf (q0 rfl) (q0 rfl) (q0 rfl) (q0 rfl))) (λw hw=>qB (Mem.uw (X:=[_,_]) (S:=yC a t) hw) hmk hI hN k hkn ⟨2,epl,0,false⟩ ⟨eat,el⟩) rfl (λ_=>rfl) λy=>?_);refine GX ?_;exact kr rfl hmk λw' hw=>⟨⟨(a,y.1),rfl,y.2.trans (d2 hk2).symm⟩,rfl,Mem.xU (X:=[_,_]) hw⟩
 refine GD ?_ ?_<;>intro h9
 ·have hk9:ekind=9:=by simpa using h9
  refine GX ?_;refine fI (bN dE wA fC (pt (v:= .int _ _) rfl E.p0) rfl) ?_;refine GX ?_;refine cQ (dD (en SB (Gf (q0 rfl) (q0 rfl) (q0 rfl) (q0 rfl))) (λw hw=>qB (Mem.uw (X:=[_,_]) (S:=yC a t) hw) hmk hI hN k hkn ⟨6,0,0,false⟩ ⟨eat,el⟩) rfl (λ_=>rfl) λy=>?_);refine GX ?_;exact kr rfl hmk λw' hw=>⟨⟨(a,y.1),rfl,y.2.trans (d9 hk9).symm⟩,rfl,Mem.xU (X:=[_,_]) hw⟩
 refine GX ?_;exact kr rfl hmk λw' hw=>⟨⟨(a,t),rfl,(d0 (by simpa using h3) (by simpa using h4) (by simpa using h5) (by simpa using h6) (by simpa using h1) (by simpa using h2) (by simpa using h9)).symm⟩,rfl,hw.tail.tail⟩
end
end Go.Proofs.Rid
namespace Go.Proofs.Rid
open Go Go.RowKit Go.Proofs.E Go.Proofs.Cus
theorem Ps(x y:RX)(w):Calls Tryz.prog 114 #[.agg x.cells.toArray, .agg y.cells.toArray] w λe w'=>e= .returned (.int .i64 (jv x.r.id y.r.id))/\fM w w':=by
 refine HF Tryz.func114 Tryz.ntmps114 ?_;refine cd (v:= .agg _) rfl rfl λb2=>cd (v:= .agg _) rfl rfl λb3=>?_;refine GX ?_;refine jx (en iT (jn (q0 rfl) (q0 rfl))) (λ_ w _=>iK x.r.id y.r.id w) ?_;exact GW
def E8 (x y:RX):Bool:=KC x.r y.r
theorem Js(a b):decide (jv a b<0)=decide (a<b):=by
 unfold jv
 split
 ·rename_i h;simp [h]
 rename_i h
 split<;>simp [h]
theorem JS(u v)(h:E8 u v=true):E8 v u=false:=by unfold E8 KC at*;simp at*;omega
theorem Hf(u v w)(h1:E8 u v=false)(h2:E8 v w=false):E8 u w=false:=by unfold E8 KC at*;simp at*;omega
section
variable {w0 w:World} {L:List E.Item}
theorem Ql{A c xs}(a b:Nat)(hw:Mem w0 (eI A c xs::L) w)(hmk:marks L=[])(hb:b<=xs.length)(hl:xs.length<=100000)(ha:a<=100000):
  Calls Tryz.prog 262 #[.slice A xs.length c, .int .i64 a, .int .i64 b, .func (.func 114) #[] #[]] w λe w'=> ∃ys:{ys:List RX// ∃i,b<=i/\(i<=b\/i=a+1)/\G3 E8 xs ys a i},e= .returned (.tuple #[])/\Mem w0 (eI A c ys.1::L) w':=by
 refine gI hw hmk Tryz.func262 rfl Tryz.ntmps262 rfl ?_;refine GX ?_;refine la ([8,9]++rg 12 41) (λq:Nat×List RX=>[(8, .int .i64 q.1)]) (λq=>eI A c q.2::L) (λq=>a+1<=q.1/\(q.1<=b\/q.1=a+1)/\G3 E8 xs q.2 a q.1) (λq=>b -q.1) (a+1,xs) ⟨bA _, .inr rfl,G3.start xs a⟩ ?_;rintro ⟨i,ys⟩ g ⟨hai,hib,hO⟩;simp only at hai hib hO;have hyl:ys.length=xs.length:=hO.perm.length_eq;rw [<-hyl];refine GD ?_ ?_<;>intro hlt
 ·have hlt':i<b:=by simpa using hlt
  refine GX ?_;refine la (9::rg 18 35) (λq:Nat×List RX=>[(9, .int .i64 q.1)]) (λq=>eI A c q.2::L) (λq=>a<=q.1/\q.1<=i/\Ir E8 xs q.2 a i q.1) (λq=>q.1) (i,ys) ⟨by show a<=i;omega,bA _,hO.inner⟩ ?_;rintro ⟨j,zs⟩ g2 ⟨haj,hji,hI⟩;simp only at haj hji hI;have hzl:zs.length=xs.length:=hI.perm.length_eq;rw [show ys.length=zs.length by omega];obtain ⟨x,hx⟩: ∃x,zs[j]?=some x:=⟨_,ah (by omega)⟩;obtain ⟨y,hy⟩: ∃y,zs[j -1]?=some y:=⟨_,ah (by omega)⟩;refine gM (λw hw=>fG (j:=0) hw rfl (by simp only;omega)) λ⟨rb,hrb⟩=>?_;subst hrb;refine GX ?_;refine vS ?_;iterate 7 refine G0 ?_
  refine xh (cx j aT ba (q1 rfl) (q1 rfl) (λ_=>⟨rfl,by omega⟩)) rfl rfl ?_;refine xh (iV (vs:=x.cells) fT ba (q1 rfl) (sP 0 rfl hx) rfl) rfl rfl ?_;iterate 2 refine G0 ?_
  refine xh (rK (r:=((j -1:Nat):Int)) (q1 rfl) (q0 rfl) (λhg=>by simp at hg;exact ⟨by omega,by omega,by omega⟩)) rfl rfl ?_;refine xh (cx (j -1) aT ba (q1 rfl) (q1 rfl) (λ_=>⟨rfl,by omega⟩)) rfl rfl ?_;refine xh (iV (vs:=y.cells) fT ba (q1 rfl) (sP 0 rfl hy) rfl) rfl rfl ?_;refine Hg (vU (cap:=[]) (al:=[.agg x.cells.toArray, .agg y.cells.toArray]) Tryz.call114 (q1 rfl) (λhg=>by rw [jn (q1 (v:= .agg _) rfl) (q1 (v:= .agg _) rfl) hg];rfl)) (λ_ w _=>Ps x y w) rfl rfl rfl rfl ?_;refine GD ?_ ?_<;>intro hc
  ·have hja:a<j/\E8 x y=true:=by
    rw [Js] at hc;unfold E8 KC;simpa using hc
   have hx2:(zs.set (j -1) x)[j]?=some x:=by rw [fQ (by omega)];exact hx
   have hy2:(zs.set j y)[j -1]?=some y:=by rw [fQ (by omega)];exact hy
   refine GX ?_;refine ke (rg 37 16) (λ_:Unit=>[]) (λ_=>eI (some ⟨rb,0,none⟩) c ((zs.set j y).set (j -1) x)::L) (λ_=>True) ?_ ?_
   ·refine JQ 1 ?_;refine aW 0 ?_;refine aW 1 ?_;refine aW 2 ?_;refine aW 3 ?_;refine aW 4 ?_;refine aW 5 ?_;refine aW 6 ?_;refine aW 7 ?_;refine mG 8 rfl (cx (j -1) aT ba (q0 rfl) (q0 rfl) (λ_=>⟨by omega,by omega⟩))<|aW 10 ?_;refine aW 11 ?_;refine mG 12 rfl (cx j aT ba (q0 rfl) (q0 rfl) (λ_=>⟨by omega,by omega⟩))<|lS (i:=9) (j:=13) (by decide+kernel) (au 1) ?_ ?_
    ·refine aL rfl (kA (iV (vs:=y.cells) fT ba (q0 rfl) (sP 0 rfl hy) rfl) rfl rfl ?_);refine r1 13 1 ?_;refine aL rfl (kA (iV (vs:=x.cells) fT ba (q0 rfl) (sP 0 rfl hx) rfl) rfl rfl ?_);refine mG 14 rfl (cx j aT ba (q0 rfl) (q0 rfl) (λ_=>⟨by omega,by omega⟩))<|r1 15 1 ?_;refine aL rfl (eR 0 y rfl rfl ba rfl rfl rfl (by first|exact hx|exact hx2) rfl rfl ?_);refine mG 16 rfl (cx (j -1) aT ba (q0 rfl) (q0 rfl) (λ_=>⟨by omega,by omega⟩))<|r1 17 1 ?_;refine aL rfl (eR 0 x rfl rfl ba rfl rfl rfl (by first|exact hy2|exact hy) rfl rfl ?_);refine qE 1 ?_;exact aO () lg trivial (λw hw=>by first|exact hw|(rw [List.set_comm _ _ (by omega)];exact hw)) rfl trivial
    refine aL rfl (kA (iV (vs:=x.cells) fT ba (q0 rfl) (sP 0 rfl hx) rfl) rfl rfl ?_);refine r1 9 1 ?_;refine aL rfl (kA (iV (vs:=y.cells) fT ba (q0 rfl) (sP 0 rfl hy) rfl) rfl rfl ?_);refine mG 14 rfl (cx j aT ba (q0 rfl) (q0 rfl) (λ_=>⟨by omega,by omega⟩))<|r1 15 1 ?_;refine aL rfl (eR 0 y rfl rfl ba rfl rfl rfl (by first|exact hx|exact hx2) rfl rfl ?_);refine mG 16 rfl (cx (j -1) aT ba (q0 rfl) (q0 rfl) (λ_=>⟨by omega,by omega⟩))<|r1 17 1 ?_;refine aL rfl (eR 0 x rfl rfl ba rfl rfl rfl (by first|exact hy2|exact hy) rfl rfl ?_);refine qE 1 ?_;exact aO () lg trivial (λw hw=>by first|exact hw|(rw [List.set_comm _ _ (by omega)];exact hw)) rfl trivial
   intro _ g5 _;refine GX ?_;exact ne (j -1,(zs.set j y).set (j -1) x) ⟨by show Value.int .i64 ((j:Int) -1)=Value.int .i64 ((j -1:Nat):Int);congr 1;omega,trivial⟩ ⟨by show a<=j -1;omega,by show j -1<=i;omega,hI.step JS hja.1 hji hx hy hja.2⟩
  have hja:j=a\/E8 x y=false:=by
   rw [Js] at hc;unfold E8 KC;simp at hc;simp;omega
  refine GX ?_;exact na (i+1,zs) ⟨by show a+1<=i+1;omega, .inl (by show i+1<=b;omega),hI.stop Hf haj hji (hja.imp id λh=>⟨x,y,hx,hy,h⟩)⟩
 have hlt':b<=i:=by simpa using hlt
 refine GX ?_;exact kr rfl hmk λw' hw=>⟨⟨ys,i,hlt',hib,hO⟩,rfl,hw⟩
structure Ip (xs ys:List RX):Prop where
 perm:ys.Perm xs
 ok:CD E8 ys 0 ys.length
theorem Mb{A c xs}(hw:Mem w0 (eI A c xs::L) w)(hmk:marks L=[])(hl:xs.length<=20):
  Calls Tryz.prog 192 #[.slice A xs.length c, .int .i64 xs.length, .func (.func 114) #[] #[]] w λe w'=> ∃ys:{ys:List RX//Ip xs ys},e= .returned (.tuple #[])/\Mem w0 (eI A c ys.1::L) w':=by
 refine gI hw hmk Tryz.func192 rfl Tryz.ntmps192 rfl ?_;refine GX ?_;refine la ([7,8]++rg 11 12) (λq:Bool×List RX=>[(7, .int .i64 (if q.1=true then 20 else 0)),(8, .int .i64 (if q.1=true then 40 else 20))]) (λq=>eI A c q.2::L) (λq=>q.2.Perm xs/\(q.1=true->xs.length=20/\CD E8 q.2 0 20)/\(q.1=false->q.2=xs)) (λq=>if q.1=true then 0 else 1) (false,xs) ⟨Ao _,λh=>by simp at h,λ_=>rfl⟩ ?_;rintro ⟨d,ys⟩ g ⟨hp,hd1,hd0⟩;simp only at hp hd1 hd0;have hyl:ys.length=xs.length:=hp.length_eq;rw [<-hyl];refine GD ?_ ?_<;>intro hle
 ·cases d with
  |true=>simp at hle;omega
  |false=>
   have h20:ys.length=20:=by simp at hle;omega
   have hyx:=hd0 rfl;refine GX ?_;refine cQ (dD (en Tryz.call262 (Gf (q0 rfl) (q0 rfl) (q0 rfl) (q0 rfl))) (λw hw=>Ql (xs:=ys) 0 20 hw hmk (by omega) (by omega) (by omega)) rfl (λ_=>rfl) λu=>?_);obtain ⟨zs,i,hi1,hi2,hO⟩:=u;refine GX ?_;exact nb (true,zs) ⟨hO.perm.trans hp,λ_=>⟨by omega,λp q x y h1 h2 h3=>hO.ok p q x y h1 h2 (by omega)⟩,λh=>by cases h⟩ (by show 0<1;decide)
 have hlt:d=true\/ys.length<20:=by
  cases d with
  |true=>exact .inl rfl
  |false=>right;simp at hle;omega
 have hmid: ∃a0:Nat,(if d=true then (20:Int) else 0)=(a0:Int)/\(a0=20/\d=true\/a0=0/\d=false):=by
  cases d with
  |true=>exact ⟨20,rfl, .inl ⟨rfl,rfl⟩⟩
  |false=>exact ⟨0,rfl, .inr ⟨rfl,rfl⟩⟩
 obtain ⟨a0,H4,hcase⟩:=hmid;simp only [H4];refine GX ?_;refine cQ (dD (en Tryz.call262 (Gf (q0 rfl) (q0 rfl) (q0 rfl) (q0 rfl))) (λw hw=>Ql (xs:=ys) a0 ys.length hw hmk (by omega) (by omega) (by omega)) rfl (λ_=>rfl) λu=>?_);obtain ⟨zs,i,hi1,hi2,hO⟩:=u;have hzl:zs.length=xs.length:=(hO.perm.trans hp).length_eq;have hfin:Ip xs zs:=by
  refine ⟨hO.perm.trans hp,λp q x y h1 h2 h3 hx hy=>?_⟩;rcases hcase with ⟨h4,h5⟩|⟨h4,h5⟩
  ·obtain ⟨h6,h7⟩:=hd1 h5;rw [hO.out p (by omega)] at hx;rw [hO.out q (by omega)] at hy;exact h7 p q x y h1 h2 (by omega) hx hy
  exact hO.ok p q x y (by omega) h2 (by omega) hx hy
 have hz20:zs.length<=20:=by omega
 refine GX ?_;refine la (rg 6 4++rg 28 35) (λ_:Unit=>[(6, .int .i64 20)]) (λ_=>eI A c zs::L) (λ_=>True) (λ_=>0) () trivial ?_;intro _ g2 _;refine GD ?_ ?_<;>intro h9
 ·simp at h9;omega
 refine GX ?_;exact kr rfl hmk λw' hw=>⟨⟨zs,hfin⟩,rfl,hw⟩
theorem QW{A c xs}(hw:Mem w0 (eI A c xs::L) w)(hmk:marks L=[])(hl:xs.length<=20):
  Calls Tryz.prog 113 #[.slice A xs.length c, .func (.func 114) #[] #[]] w λe w'=> ∃ys:{ys:List RX//Ip xs ys},e= .returned (.tuple #[])/\Mem w0 (eI A c ys.1::L) w':=by
 refine gI hw hmk Tryz.func113 rfl Tryz.ntmps113 rfl ?_;refine GX ?_;refine cQ (dD (en Tryz.call192 (nS (q0 rfl) (q0 rfl) (q0 rfl))) (λw hw=>Mb hw hmk hl) rfl (λ_=>rfl) λu=>?_);refine GX ?_;exact kr rfl hmk λw' hw=>⟨u,rfl,hw⟩
end
end Go.Proofs.Rid
namespace Go.Proofs.Rid
open Go.Proofs.Cus
structure JI (n:Nat) (s:PS) (y:SY):Prop where
 ids:(y.dH.map (·.id)).Nodup
 used: ∀r∈y.dH,oh s.used r.id=true
 CS: ∀(k:Nat) r,y.dH[k]?=some r->xw y.nG r.id=some (k:Int)
 open_: ∀id t,(id,t)∈s.open_-> ∃(k:Nat) (r:Rd),y.dH[k]?=some r/\r.id=id/\r.open_=true/\nu r.db=t.bq/\r.rider=t.rider/\y.bP[k]?=some t.bP/\y.du[t.bq.toNat]?=some (k:Int)
 Ra: ∀(k:Nat) r,y.dH[k]?=some r->r.open_=true-> ∃t,(r.id,t)∈s.open_
 free: ∀(b:Nat) x,s.aG[b]?=some x->x.cF≠3->y.du[b]?=some (-1)
 aG: ∀(b:Nat) x,s.aG[b]?=some x->dT x=true->y.aG[b]?=some x
theorem JI.begin(n):JI n (dy n) (iq n):=by
 refine ⟨by simp [iq],λr hr=>by simp [iq] at hr,λk r h=>by simp [iq] at h,λid t h=>by simp [dy] at h,λk r h=>by simp [iq] at h,λb x h h3=>?_,λb x h hp=>?_⟩
 ·grind [dy,iq]
 simp only [dy,jz] at h;split at h
 ·cases h;simp [dT] at hp
 grind [dy,iq,dT]
theorem I7{l:List Rd}(h:(l.map (·.id)).Nodup){j k:Nat}{r q}(hj:l[j]?=some r)(hk:l[k]?=some q)(e:r.id=q.id):j=k:=by
 obtain ⟨h1,e1⟩:=ai.1 hj
 obtain ⟨h2,e2⟩:=ai.1 hk
 have hp:=bJ.1 h
 grind
theorem jl{α:Type}{l:List α}{k x}(y)(hx:l[k]?=some x)(j):(l.set k y)[j]?=if k=j then some y else l[j]?:=by
 grind
theorem Ex{l:List Rd}{k r q}(hk:l[k]?=some r)(e:q.id=r.id):(l.set k q).map (·.id)=l.map (·.id):=by
 rw [uC,e]
 obtain ⟨h1,h2⟩:=ai.1 hk
 apply fh
 grind
theorem CP(l g):nu (l++[g])=g.bq:=by
 unfold nu
 simp
section
variable {n N:Nat} {s:PS} {y:SY}
theorem JI.OH(h:JI n s y){k r q}(hk:y.dH[k]?=some r)(h1:q.id=r.id)(h2:q.rider=r.rider)(h3:q.open_=r.open_)(h4:nu q.db=nu r.db):JI n s {y with dH:=y.dH.set k q}:=by
 have hg:=jl q hk;refine ⟨by simp only [Ex hk h1];exact h.ids,λx hx=>?_,λj x hx=>?_,λid t ht=>?_,λj x hx ho=>?_,h.free,h.aG⟩
 ·rcases fF hx with hx|rfl
  ·exact h.used x hx
  rw [h1];exact h.used r (aq hk)
 ·simp only [hg] at hx;split at hx
  ·rename_i e;cases hx;rw [h1,<-e];exact h.CS k r hk
  exact h.CS j x hx
 ·obtain ⟨j,x,a1,a2,a3,a4,a5,a6,a7⟩:=h.open_ id t ht
  grind
 simp only [hg] at hx;split at hx
 ·cases hx;rw [h1];exact h.Ra k r hk (by rw [<-h3];exact ho)
 exact h.Ra j x hx ho
theorem JI.move(h:JI n s y)(hI:jF n s){b x}(hx:s.aG[b]?=some x)(hx3:x.cF≠3)(to)(hto:to.cF≠3)(ys)(hys: ∀j,j≠b->ys[j]?=y.aG[j]?)(hyb:dT to=true->ys[b]?=some to):JI n (gA s b to) {y with aG:=ys}:=by
 have hopen:(gA s b to).open_=s.open_:=by
  unfold gA;simp only;rw [ar,hx];simp [hx3]
 refine ⟨h.ids,h.used,h.CS,λid t ht=>?_,λk r hr ho=>?_,λj z hz hz3=>?_,λj z hz hp=>?_⟩
 ·rw [hopen] at ht;exact h.open_ id t ht
 ·rw [hopen];exact h.Ra k r hr ho
 ·have hz':(s.aG.set b to)[j]?=some z:=hz;rw [jl to hx] at hz';split at hz'
  ·rename_i e;subst e;exact h.free b x hx hx3
  exact h.free j z hz' hz3
 have hz':(s.aG.set b to)[j]?=some z:=hz;rw [jl to hx] at hz';split at hz'
 ·rename_i e;cases hz';rw [<-e];exact hyb hp
 rename_i e;show ys[j]?=some z;rw [hys j (λh=>e h.symm)];exact h.aG j z hz' hp
theorem JI.close(h:JI n s y)(hI:jF n s)(hW:WF n N y){b x}(hx:s.aG[b]?=some x)(hx3:x.cF=3)(to)(hto:to.cF≠3)(w):JI n (gA s b to) (jm y b to w):=by
 obtain ⟨t,ht,htb⟩:=hI.spot b x hx hx3;obtain ⟨k,r,a1,a2,a3,a4,a5,a6,a7⟩:=h.open_ _ _ ht;rw [htb,bC] at a7;have hvg:y.du.getD b 0=(k:Int):=by rw [ar,a7];rfl
 have hkl:=(ai.1 a1).1;have hbl:=(ai.1 a7).1;have hrg:y.dH.getD k default=r:=by rw [ar,a1];rfl
 obtain ⟨p,hp⟩: ∃p,y.bP[k]?=some p:=⟨_,a6⟩;have hpg:y.bP.getD k false=p:=by rw [ar,hp];rfl
 obtain ⟨q,hq⟩: ∃q,q=mL to w (iG p w r):=⟨_,rfl⟩;have hleave:jm y b to w={dH:=y.dH.set k q,nG:=y.nG,du:=y.du.set b (-1),bP:=y.bP.set k false,aG:=y.aG.set b to}:=by
  unfold jm;rw [hvg,an (by omega)];simp only [bC];unfold k7;simp only;rw [hrg,hpg,gV]
  grind
 have hqi:q.id=r.id:=by rw [hq];unfold mL iG;split<;>rfl
 have hqo:q.open_=false:=by rw [hq];rfl
 have hopen: ∀z,z∈(gA s b to).open_↔z∈s.open_/\z.1≠x.bn:=by
  intro z;unfold gA;simp only;rw [ar,hx];simp only [ix,hx3,E2];exact ov hI.keys
 rw [hleave];have hg:=jl q a1;refine ⟨by simp only [Ex a1 hqi];exact h.ids,λz hz=>?_,λj z hz=>?_,λid u hu=>?_,λj z hz ho=>?_,λj z hz hz3=>?_,λj z hz hp=>?_⟩
 ·rcases fF hz with hz|rfl
  ·exact h.used z hz
  rw [hqi];exact h.used r (aq a1)
 ·simp only [hg] at hz;split at hz
  ·rename_i e;cases hz;rw [hqi,<-e];exact h.CS k r a1
  exact h.CS j z hz
 ·obtain ⟨hu1,hu2⟩:=(hopen (id,u)).1 hu;obtain ⟨j,z,c1,c2,c3,c4,c5,c6,c7⟩:=h.open_ id u hu1;have hjk:k≠j:=λe=>by
   subst e;rw [a1] at c1;cases c1;exact hu2 (by rw [<-c2,a2])
  obtain ⟨hub0,z2,hz2,z23,z2r,_⟩:=hI.bq _ hu1;have hjb:b≠u.bq.toNat:=λe=>by
   simp only at hz2;rw [<-e,hx] at hz2;cases hz2;exact hu2 z2r.symm
  exact ⟨j,z,by simp only [hg,an hjk];exact c1,c2,c3,c4,c5,by simp only [fQ hjk];exact c6,by simp only [fQ hjb];exact c7⟩
 ·simp only [hg] at hz;split at hz
  ·cases hz;rw [hqo] at ho;cases ho
  rename_i e;obtain ⟨u,hu⟩:=h.Ra j z hz ho;refine ⟨u,(hopen _).2 ⟨hu,λe2=>e ?_⟩⟩;exact I7 h.ids a1 hz (by rw [a2];exact e2.symm)
 ·have hz':(s.aG.set b to)[j]?=some z:=hz;rw [jl to hx] at hz';simp only [jl (-1) a7];split at hz'
  ·rename_i e;rw [aB e]
  rename_i e;rw [an e];exact h.free j z hz' hz3
 have hz':(s.aG.set b to)[j]?=some z:=hz;have hbs:b<y.aG.length:=by rw [hW.aG,<-hW.du];exact hbl
 rw [jl to hx] at hz';simp only [cD];split at hz'
 ·rename_i e;cases hz';rw [aB e,aB hbs]
 rename_i e;rw [an e];exact h.aG j z hz' hp
theorem F7{b}(h:y.du[b]?=some (-1))(to w):jm y b to w={y with aG:=y.aG.set b to}:=by
 grind [jm]
theorem JI.leave(h:JI n s y)(hI:jF n s)(hW:WF n N y){b}(hb:b<n)(to)(hto:to.cF≠3)(w):JI n (gA s b to) (jm y b to w):=by
 obtain ⟨x,hx⟩: ∃x,s.aG[b]?=some x:=⟨_,ah (by rw [hI.len];exact hb)⟩
 by_cases hx3:x.cF=3
 ·exact h.close hI hW hx hx3 to hto w
 rw [F7 (h.free b x hx hx3)]
 exact h.move hI hx hx3 to hto _ (λj hj=>fQ (λe=>hj e.symm)) (λ_=>by
  rw [cD,aB rfl,aB (by rw [hW.aG];exact hb)])
theorem JI.start(h:JI n s y)(hI:jF n s)(hW:WF n N y){e:Ev}{tr}(hb:0<=e.bq/\e.bq<n)(h3:e.kind=3)(hc:ez tr s e=0)(w):JI n (mF s e) (oC y e w):=by
 obtain ⟨b,hbk⟩: ∃b:Nat,e.bq=b:=⟨e.bq.toNat,by omega⟩;have hbn:b<n:=by omega
 obtain ⟨x,hx⟩: ∃x,s.aG[b]?=some x:=⟨_,ah (by rw [hI.len];exact hbn)⟩;have hg:s.aG.getD e.bq.toNat default=x:=by rw [hbk,bC,ar,hx];rfl
 obtain ⟨hpk,hu⟩:dT x=true/\oh s.used e.bn=false:=by
  grind [ez,mF,oC]
 have hx3:=nD hpk;have hf:=h.free b x hx hx3;have hdo:mF s e={aG:=s.aG.set b ⟨3,0,e.bn,false⟩,open_:=s.open_++[(e.bn,⟨e.rider,e.bq,false⟩)],used:=tD s.used e.bn}:=by
  unfold mF;simp only;rw [an (by omega),an (by omega),aB h3,hbk,bC]
 have hnew: ∀r∈y.dH,r.id≠e.bn:=λr hr he=>by rw [<-he,h.used r hr] at hu;cases hu
 have hbl:=(ai.1 hf).1;rw [hdo];unfold oC;rw [hbk,bC];have hsnoc: ∀(j:Nat) z,(y.dH++[uR e (y.aG.getD b default) w])[j]?=some z->(y.dH[j]?=some z)\/(j=y.dH.length/\z=uR e (y.aG.getD b default) w):=λj z hz=>by
  rw [List.getElem?_append] at hz;split at hz
  ·exact .inl hz
  grind [ez,mF,oC]
 have hold: ∀(j:Nat) z,y.dH[j]?=some z->(y.dH++[uR e (y.aG.getD b default) w])[j]?=some z:=λj z hz=>by
  rw [gm (ai.1 hz).1];exact hz
 refine ⟨?_,λr hr=>?_,λj r hr=>?_,λid t ht=>?_,λj r hr ho=>?_,λj z hz hz3=>?_,λj z hz hp=>?_⟩
 ·rw [eY];refine um.2 ⟨h.ids,by simp,λi hi j hj=>?_⟩;obtain ⟨r,hr,rfl⟩:=cW.1 hi;simp [uR] at hj;subst hj;exact hnew r hr
 ·rw [mI];simp only [wI];rcases bO.1 hr with hr|hr
  ·exact .inl (mI.1 (h.used r hr))
  simp at hr;subst hr;exact .inr rfl
 ·simp only;rw [Bu];rcases hsnoc j r hr with hr|⟨h1,rfl⟩
  ·rw [an (hnew r (aq hr))];exact h.CS j r hr
  rw [aB (show (uR e (y.aG.getD b default) w).id=e.bn from rfl),h1]
 ·simp only [bO,cm] at ht;rcases ht with ht|ht
  ·obtain ⟨k,r,c1,c2,c3,c4,c5,c6,c7⟩:=h.open_ id t ht;obtain ⟨_,z,hz,z3,_,_⟩:=hI.bq _ ht;have hne:b≠t.bq.toNat:=λe=>by simp only at hz;rw [<-e,hx] at hz;cases hz;exact hx3 z3
   refine ⟨k,r,hold k r c1,c2,c3,c4,c5,?_,by simp only [fQ hne];exact c7⟩;simp only;rw [gm (ai.1 c6).1];exact c6
  simp only [sC] at ht;obtain ⟨rfl,rfl⟩:=ht;refine ⟨y.dH.length,uR e (y.aG.getD b default) w,by simp,rfl,rfl,hbk,rfl,by simp [<-hW.bP],?_⟩;simp only [hbk,bC];rw [cD,aB rfl,aB hbl]
 ·simp only [bO,cm];rcases hsnoc j r hr with hr|⟨_,rfl⟩
  ·obtain ⟨t,ht⟩:=h.Ra j r hr ho;exact ⟨t, .inl ht⟩
  exact ⟨_, .inr rfl⟩
 ·simp only [jl _ hx] at hz;simp only [jl _ hf];split at hz
  ·cases hz;exact absurd rfl hz3
  rename_i e2;rw [an e2];exact h.free j z hz hz3
 simp only [jl _ hx] at hz;split at hz
 ·cases hz;simp [dT] at hp
 exact h.aG j z hz hp
theorem JI.swap(h:JI n s y)(hI:jF n s)(hW:WF n N y){e:Ev}{tr}(hb:0<=e.bq/\e.bq<n)(h4:e.kind=4)(hc:ez tr s e=0)(w):JI n (mF s e) (kL y e w):=by
 obtain ⟨b,hbk⟩: ∃b:Nat,e.bq=b:=⟨e.bq.toNat,by omega⟩;have hbn:b<n:=by omega
 obtain ⟨x,hx⟩: ∃x,s.aG[b]?=some x:=⟨_,ah (by rw [hI.len];exact hbn)⟩;have hg:s.aG.getD b default=x:=by rw [ar,hx];rfl
 obtain ⟨t,ht,hpk⟩: ∃t,lY s.open_ e.bn=some t/\dT x=true:=by
  grind [ez,mF,kL]
 have htm:=o9 ht;obtain ⟨k,r,c1,c2,c3,c4,c5,c6,c7⟩:=h.open_ _ _ htm;obtain ⟨hj0,z,hz,z3,zr,zp⟩:=hI.bq _ htm;simp only at hj0 hz zr;obtain ⟨j,hj⟩: ∃j:Nat,t.bq=j:=⟨t.bq.toNat,by omega⟩;rw [hj,bC] at hz c7;have hx3:=nD hpk;have hjb:j≠b:=λe=>by rw [e,hx] at hz;cases hz;exact hx3 z3
 have hf:=h.free b x hx hx3;have hkl:=(ai.1 c1).1;have hrg:y.dH.getD k default=r:=by rw [ar,c1];rfl
 have hyb:=h.aG b x hx hpk;have hybg:y.aG.getD b default=x:=by rw [ar,hyb];rfl
 have hdo:mF s e={s with aG:=(s.aG.set j x).set b ⟨3,0,e.bn,false⟩,open_:=nx s.open_ e.bn {t with bq:=e.bq}}:=by
  unfold mF;simp only;rw [an (by omega),an (by omega),an (by omega),aB h4,ht,hbk,bC,hg];simp only [hj,bC]
 have hby:=h.CS k r c1;rw [c2] at hby;have hch:kL y e w={dH:=y.dH.set k (wj b w r),nG:=y.nG,du:=(y.du.set j (-1)).set b k,bP:=y.bP,aG:=y.aG.set j x}:=by
  unfold kL;rw [hby];simp only [bC]
  grind [ez,mF,kL]
 rw [hdo,hch];have hgr:=jl (wj b w r) c1;have hsp: ∀i:Nat,((s.aG.set j x).set b ⟨3,0,e.bn,false⟩)[i]?=if b=i then some ⟨3,0,e.bn,false⟩ else if j=i then some x else s.aG[i]?:=λi=>by
  have hx2:(s.aG.set j x)[b]?=some x:=by rw [fQ hjb];exact hx
  rw [jl _ hx2,jl _ hz]
 have hrd: ∀i:Nat,((y.du.set j (-1)).set b (k:Int))[i]?=if b=i then some (k:Int) else if j=i then some (-1) else y.du[i]?:=λi=>by
  have hf2:(y.du.set j (-1))[b]?=some (-1):=by rw [fQ hjb];exact hf
  grind
 have hjs:j<y.aG.length:=by rw [hW.aG,<-hI.len];exact (ai.1 hz).1
 refine ⟨by simp only [Ex c1 (show (wj b w r).id=r.id from rfl)];exact h.ids,λq hq=>?_,λi q hq=>?_,λid u hu=>?_,λi q hq ho=>?_,λi q hq hq3=>?_,λi q hq hp=>?_⟩
 ·rcases fF hq with hq|rfl
  ·exact h.used q hq
  exact h.used r (aq c1)
 ·simp only [hgr] at hq;split at hq
  ·rename_i e2;cases hq;rw [<-e2];exact h.CS k r c1
  exact h.CS i q hq
 ·simp only [fx] at hu;rcases hu with ⟨_,_,_,hu⟩|⟨hu,hne⟩
  ·simp only [sC] at hu;obtain ⟨rfl,rfl⟩:=hu;refine ⟨k,wj b w r,by simp only [hgr,aB],c2,c3,?_,c5,c6,?_⟩
   ·show nu (rJ w r.db++[⟨(b:Int),w,uD⟩])=e.bq;rw [CP,hbk]
   simp only [hrd,hbk,bC,aB]
  obtain ⟨k2,q,d1,d2,d3,d4,d5,d6,d7⟩:=h.open_ id u hu;have hkk:k≠k2:=λe2=>by subst e2;rw [c1] at d1;cases d1;exact hne (by rw [<-d2,c2])
  obtain ⟨_,z2,hz2,z23,z2r,_⟩:=hI.bq _ hu;simp only at hz2 z2r;have e1:b≠u.bq.toNat:=λe2=>by rw [<-e2,hx] at hz2;cases hz2;exact hx3 z23
  have e3:j≠u.bq.toNat:=λe2=>by rw [<-e2,hz] at hz2;cases hz2;exact hne (by rw [<-z2r,zr])
  exact ⟨k2,q,by simp only [hgr,an hkk];exact d1,d2,d3,d4,d5,d6,by simp only [hrd,an e1,an e3];exact d7⟩
 ·simp only [hgr] at hq;split at hq
  ·cases hq;exact ⟨_,by simp only [fx];exact .inl ⟨_,htm,rfl,by show ((wj b w r).id,_)=_;rw [show (wj b w r).id=e.bn from c2]⟩⟩
  rename_i e2;obtain ⟨u,hu⟩:=h.Ra i q hq ho;refine ⟨u,by simp only [fx];exact .inr ⟨hu,λe3=>e2 (I7 h.ids c1 hq (by rw [c2];exact e3.symm))⟩⟩
 ·simp only [hsp] at hq;simp only [hrd];split at hq
  ·cases hq;exact absurd rfl hq3
  rename_i e1;rw [an e1];split at hq
  ·rename_i e2;rw [aB e2]
  rename_i e2;rw [an e2];exact h.free i q hq hq3
 simp only [hsp] at hq;simp only [cD];split at hq
 ·cases hq;simp [dT] at hp
 rename_i e1;split at hq
 ·rename_i e2;cases hq;rw [aB e2,aB (by omega)]
 rename_i e2;rw [an e2];exact h.aG i q hq hp
theorem JI.ue(h:JI n s y)(hI:jF n s)(hW:WF n N y){e:Ev}{tr}(hb:0<=e.bq/\e.bq<n)(h56:e.kind=5\/e.kind=6)(hc:ez tr s e=0):JI n (mF s e) (gR y e):=by
 obtain ⟨b,hbk⟩: ∃b:Nat,e.bq=b:=⟨e.bq.toNat,by omega⟩;have hbn:b<n:=by omega
 obtain ⟨x,hx⟩: ∃x,s.aG[b]?=some x:=⟨_,ah (by rw [hI.len];exact hbn)⟩;have hg:s.aG.getD b default=x:=by rw [ar,hx];rfl
 have hx3:x.cF=3:=by
  unfold ez at hc;simp only at hc;rw [an (by omega),an (by omega),an (by omega),an (by omega),aB h56,hbk,bC,hg] at hc;split at hc
  ·cases hc
  rename_i h1;exact kM h1
 obtain ⟨t,ht,htb⟩:=hI.spot b x hx hx3;have hlk:=uS hI.keys ht;obtain ⟨k,r,c1,c2,c3,c4,c5,c6,c7⟩:=h.open_ _ _ ht;rw [htb,bC] at c7;have hvg:y.du.getD e.bq.toNat 0=(k:Int):=by rw [hbk,bC,ar,c7];rfl
 have hrg:y.dH.getD k default=r:=by rw [ar,c1];rfl
 have hdo:mF s e={s with aG:=s.aG.set b {x with bP:=decide (e.kind=5)},open_:=nx s.open_ x.bn {t with bP:=decide (e.kind=5)}}:=by
  unfold mF;simp only;rw [an (by omega),an (by omega),an (by omega),an (by omega),aB h56,hbk,bC,hg,hlk]
 have hpl:k<y.bP.length:=(ai.1 c6).1;obtain ⟨q,hq1,hq2,hq3,hq4,hty⟩: ∃q:Rd,q.id=r.id/\q.rider=r.rider/\q.open_=r.open_/\nu q.db=nu r.db/\gR y e={y with dH:=y.dH.set k q,bP:=y.bP.set k (decide (e.kind=5))}:=by
  unfold gR;simp only;rw [hvg];rcases h56 with h5|h6
  ·refine ⟨uL (q8 e) r,rfl,rfl,rfl,rfl,?_⟩;rw [an (by omega),an (by omega),aB h5,aB (by omega)];simp only [bC];rw [hrg];simp [h5]
  refine ⟨iG (y.bP.getD k false) (q8 e) r,?_,?_,?_,?_,?_⟩
  ·unfold iG;split<;>rfl
  ·unfold iG;split<;>rfl
  ·unfold iG;split<;>rfl
  ·unfold iG;split<;>rfl
  rw [an (by omega),an (by omega),an (by omega),aB h6,aB (by omega)];unfold k7;simp only [bC];rw [hrg];simp [h6]
 rw [hdo,hty];have h2:=h.OH c1 hq1 hq2 hq3 hq4;refine ⟨h2.ids,h2.used,h2.CS,λid u hu=>?_,λi z hz ho=>?_,λi z hz hz3=>?_,λi z hz hp=>?_⟩
 ·simp only [fx] at hu;rcases hu with ⟨_,_,_,hu⟩|⟨hu,hne⟩
  ·simp only [sC] at hu;obtain ⟨rfl,rfl⟩:=hu;refine ⟨k,q,by simp only;rw [jl _ c1,aB rfl],by rw [hq1,c2],by rw [hq3,c3],by rw [hq4,c4],by rw [hq2,c5],?_,by simp only [htb,bC];exact c7⟩;simp only;rw [cD,aB rfl,aB hpl]
  obtain ⟨k2,z,d1,d2,d3,d4,d5,d6,d7⟩:=h2.open_ id u hu;have hkk:k≠k2:=λe2=>by
   subst e2;simp only [jl _ c1,aB] at d1;cases d1;exact hne (by rw [<-d2,hq1,c2])
  exact ⟨k2,z,d1,d2,d3,d4,d5,by simp only [fQ hkk];exact d6,d7⟩
 ·obtain ⟨u,hu⟩:=h2.Ra i z hz ho;by_cases e2:z.id=x.bn
  ·exact ⟨_,by simp only [fx];exact .inl ⟨_,ht,rfl,by rw [e2]⟩⟩
  exact ⟨u,by simp only [fx];exact .inr ⟨hu,e2⟩⟩
 ·simp only [jl _ hx] at hz;split at hz
  ·cases hz;exact absurd hx3 hz3
  exact h.free i z hz hz3
 simp only [jl _ hx] at hz;split at hz
 ·cases hz;simp [dT,hx3] at hp
 exact h.aG i z hz hp
theorem JI.step(h:JI n s y)(hI:jF n s)(hW:WF n N y){e:Ev}{tr}(hb:0<=e.bq/\e.bq<n)(hc:ez tr s e=0):JI n (mF s e) (gR y e):=by
 obtain ⟨b,hbk⟩: ∃b:Nat,e.bq=b:=⟨e.bq.toNat,by omega⟩
 have hbn:b<n:=by omega
 obtain ⟨x,hx⟩: ∃x,s.aG[b]?=some x:=⟨_,ah (by rw [hI.len];exact hbn)⟩
 have hg:s.aG.getD b default=x:=by rw [ar,hx];rfl
 by_cases h3:e.kind=3
 ·have ht:gR y e=oC y e (q8 e):=by unfold gR;simp only;rw [aB h3]
  rw [ht];exact h.start hI hW hb h3 hc _
 by_cases h4:e.kind=4
 ·have ht:gR y e=kL y e (q8 e):=by unfold gR;simp only;rw [an h3,aB h4]
  rw [ht];exact h.swap hI hW hb h4 hc _
 by_cases h56:e.kind=5\/e.kind=6
 ·exact h.ue hI hW hb h56 hc
 have h5: ¬e.kind=5:=λh=>h56 (.inl h)
 have h6: ¬e.kind=6:=λh=>h56 (.inr h)
 by_cases h1:e.kind=1
 ·have ht:gR y e=jm y b ⟨1,e.place,0,false⟩ (q8 e):=by unfold gR;simp only;rw [an h3,an h4,an h5,an h6,aB h1,hbk,bC]
  have hd:mF s e=gA s b ⟨1,e.place,0,false⟩:=by unfold mF;simp only;rw [aB h1,hbk,bC]
  rw [ht,hd];exact h.leave hI hW hbn _ (by simp) _
 by_cases h2:e.kind=2
 ·have ht:gR y e=jm y b ⟨2,e.place,0,false⟩ (q8 e):=by unfold gR;simp only;rw [an h3,an h4,an h5,an h6,an h1,aB h2,hbk,bC]
  have hd:mF s e=gA s b ⟨2,e.place,0,false⟩:=by unfold mF;simp only;rw [an h1,aB h2,hbk,bC]
  rw [ht,hd];exact h.leave hI hW hbn _ (by simp) _
 by_cases h9:e.kind=9
 ·have ht:gR y e=jm y b ⟨6,0,0,false⟩ (q8 e):=by unfold gR;simp only;rw [an h3,an h4,an h5,an h6,an h1,an h2,aB h9,hbk,bC]
  have hd:mF s e=gA s b ⟨6,0,0,false⟩:=by unfold mF;simp only;rw [an h1,an h2,an h3,an h4,an h56,an (by omega),an (by omega),aB h9,hbk,bC]
  rw [ht,hd];exact h.leave hI hW hbn _ (by simp) _
 have ht:gR y e=y:=by unfold gR;simp only;rw [an h3,an h4,an h5,an h6,an h1,an h2,an h9]
 rw [ht]
 by_cases h7:e.kind=7
 ·have hd:mF s e=gA s b ⟨4,e.place,0,false⟩:=by unfold mF;simp only;rw [an h1,an h2,an h3,an h4,an h56,aB h7,hbk,bC]
  have hx3:x.cF≠3:=λh3'=>by
   grind [ez,mF,gR]
  rw [hd]
  exact h.move hI hx hx3 _ (by simp) y.aG (λ_ _=>rfl) (λhp=>by simp [dT] at hp)
 by_cases h8:e.kind=8
 ·have hd:mF s e=gA s b ⟨5,0,0,false⟩:=by unfold mF;simp only;rw [an h1,an h2,an h3,an h4,an h56,an h7,aB h8,hbk,bC]
  have hx3:x.cF≠3:=λh3'=>by
   unfold ez at hc
   simp only at hc
   rw [an h1,an h2,an h3,an h4,an h56,an h7,aB h8,hbk,bC,hg,h3'] at hc
   simp [refuse] at hc
  rw [hd]
  exact h.move hI hx hx3 _ (by simp) y.aG (λ_ _=>rfl) (λhp=>by simp [dT] at hp)
 have hd:mF s e=s:=by unfold mF;simp only;rw [an h1,an h2,an h3,an h4,an h56,an h7,an h8,an h9]
 rw [hd];exact h
end
end Go.Proofs.Rid
namespace Go.Proofs.Rid
open Go.Proofs.Cus
def nw (f:Fl) (xs:List Ev):SY:=(kR f xs).foldl gR (iq (i6 f))
def dP (f:Fl) (xs:List Ev):List Rd:=if fy f=0 then Ih (nw f xs).dH else []
structure G2 (n N:Nat) (s:PS) (y:SY):Prop where
 ji:JI n s y
 inv:jF n s
 wf:WF n N y
theorem yU {f:Fl} {n:Nat} (hn:f.cv=n): ∀(l:List Ev) {N:Nat} {s:PS} {y:SY},G2 n N s y->Replay f s l->G2 n (N+l.length) (l.foldl mF s) (l.foldl gR y)
 |[],_,_,_,h,_=>h
 |e::l,N,s,y,h,⟨h1,h2,h3,h4⟩=>by
  have hb:=(pX h1).2.1
  rw [hn] at hb
  have:=yU hn l (N:=N+1) ⟨h.ji.step h.inv h.wf hb h3,h.inv.step hb h3,h.wf.tell hb⟩ h4
  grind
theorem zX(n):G2 n 0 (dy n) (iq n):=⟨JI.begin n,jF.begin n,WF.begin n⟩
theorem Ca{f}(hok:fy f=0)(xs):G2 (i6 f) (kR f xs).length ((kR f xs).foldl mF (dy (i6 f))) (nw f xs):=by
 obtain ⟨hr,_⟩:=sR hok xs (λ_=>())
 have:=yU (wy hok) (kR f xs) (zX (i6 f)) hr
 rw [fq] at this
 exact this
theorem Replay.take{f}: ∀{l:List Ev} {s:PS},Replay f s l-> ∀k,Replay f s (l.take k)
 |[],_,_,k=>by simp;trivial
 |e::l,s,_,0=>trivial
 |e::l,s,⟨h1,h2,h3,h4⟩,k+1=>⟨h1,h2,h3,Replay.take h4 k⟩
theorem MO{f}(hok:fy f=0)(xs k):G2 (i6 f) ((kR f xs).take k).length (Cus.Qc (dy (i6 f)) (kR f xs) k) (((kR f xs).take k).foldl gR (iq (i6 f))):=by
 obtain ⟨hr,_⟩:=sR hok xs (λ_=>())
 have:=yU (wy hok) ((kR f xs).take k) (zX (i6 f)) (Replay.take hr k)
 rw [fq] at this
 exact this
def uO (l:List Sp):Nat:=l.countP dT
theorem HY(y b to w):(jm y b to w).dH.length=y.dH.length:=by
 unfold jm
 split
 ·rfl
 simp [k7]
theorem J3(y e):(gR y e).dH.length=y.dH.length+(if e.kind=3 then 1 else 0):=by
 grind [gR,oC,kL,k7,HY]
theorem uN{l k x}(z)(h:l[k]?=some x):uO (l.set k z)+(if dT x=true then 1 else 0)=uO l+(if dT z=true then 1 else 0):=countP_set dT z h
theorem Kn{n s}{e:Ev}{tr}(hI:jF n s)(hb:0<=e.bq/\e.bq<n)(hc:ez tr s e=0):uO (mF s e).aG+2*(if e.kind=3 then 1 else 0)<=uO s.aG+1:=by
 obtain ⟨b,hbk⟩: ∃b:Nat,e.bq=b:=⟨e.bq.toNat,by omega⟩
 obtain ⟨x,hx⟩: ∃x,s.aG[b]?=some x:=⟨_,ah (by rw [hI.len];omega)⟩
 have hg:s.aG.getD b default=x:=by rw [ar,hx];rfl
 have hlv: ∀to:Sp,uO (gA s b to).aG<=uO s.aG+1:=λto=>by
  have:=uN to hx
  show uO (s.aG.set b to)<=_
  split at this<;>split at this<;>omega
 unfold ez at hc
 unfold mF
 simp only [hbk,bC,hg] at hc|-
 by_cases h1:e.kind=1
 ·rw [aB h1,an (by omega)];have:=hlv ⟨1,e.place,0,false⟩;omega
 rw [an h1] at hc|-
 by_cases h2:e.kind=2
 ·rw [aB h2,an (by omega)];have:=hlv ⟨2,e.place,0,false⟩;omega
 rw [an h2] at hc|-
 by_cases h3:e.kind=3
 ·rw [aB h3] at hc
  have hpk:dT x=true:=by
   split at hc
   ·cases hc
   rename_i h;simpa using h
  rw [aB h3,aB h3]
  have:=uN ⟨3,0,e.bn,false⟩ hx
  rw [aB hpk,an (by simp [dT])] at this
  simp only
  omega
 rw [an h3] at hc|-
 rw [an h3]
 by_cases h4:e.kind=4
 ·rw [aB h4] at hc|-
  cases hl:lY s.open_ e.bn with
  |none=>rw [hl] at hc;cases hc
  |some t=>
   rw [hl] at hc
   simp only at hc|-
   have hpk:dT x=true:=by
    split at hc
    ·cases hc
    rename_i h;simpa using h
   obtain ⟨_,z,hz,z3,_,_⟩:=hI.bq _ (o9 hl)
   simp only at hz
   have hzp:dT z=false:=by unfold dT;simp [z3]
   have hne:t.bq.toNat≠b:=λe2=>by rw [e2,hx] at hz;cases hz;rw [hzp] at hpk;cases hpk
   have a1:=uN x hz
   have hx2:(s.aG.set t.bq.toNat x)[b]?=some x:=by rw [fQ hne];exact hx
   have a2:=uN ⟨3,0,e.bn,false⟩ hx2
   rw [an (by rw [hzp];decide),aB hpk] at a1
   rw [aB hpk,an (by simp [dT])] at a2
   omega
 rw [an h4] at hc|-
 by_cases h56:e.kind=5\/e.kind=6
 ·rw [aB h56]
  simp only
  have:=uN {x with bP:=decide (e.kind=5)} hx
  have hsame:dT {x with bP:=decide (e.kind=5)}=dT x:=rfl
  rw [hsame] at this
  omega
 rw [an h56]
 by_cases h7:e.kind=7
 ·rw [aB h7];have:=hlv ⟨4,e.place,0,false⟩;omega
 rw [an h7]
 by_cases h8:e.kind=8
 ·rw [aB h8];have:=hlv ⟨5,0,0,false⟩;omega
 rw [an h8]
 by_cases h9:e.kind=9
 ·rw [aB h9];have:=hlv ⟨6,0,0,false⟩;omega
 rw [an h9];omega
theorem C9 {f:Fl} {n:Nat} (hn:f.cv=n): ∀(l:List Ev) {s:PS} {y:SY} {m:Nat},jF n s->Replay f s l->2*y.dH.length+uO s.aG<=m->2*(l.foldl gR y).dH.length+uO (l.foldl mF s).aG<=m+l.length
 |[],_,_,_,_,_,h=>h
 |e::l,s,y,m,hI,⟨h1,h2,h3,h4⟩,h=>by
  have hb:=(pX h1).2.1
  rw [hn] at hb
  have a1:=Kn hI hb h3
  have a2:=J3 y e
  have:=C9 hn l (y:=gR y e) (m:=m+1) (hI.step hb h3) h4 (by rw [a2];omega)
  grind
theorem yB{f}(hok:fy f=0)(xs):2*(nw f xs).dH.length<=(kR f xs).length:=by
 obtain ⟨hr,_⟩:=sR hok xs (λ_=>())
 have:=C9 (wy hok) (kR f xs) (y:=iq (i6 f)) (m:=0) (jF.begin _) hr (by
  have:uO (dy (i6 f)).aG=0:=by
   unfold uO dy
   rw [List.countP_eq_zero]
   intro x hx
   simp at hx
   rw [hx.2];decide
  rw [this];simp [iq])
 unfold nw
 omega
theorem vI{f}(xs):2*(dP f xs).length<=xs.length:=by
 unfold dP
 split
 ·rename_i hok
  have h1:=yB hok xs
  have h2:=tp f xs
  rw [(tl _).length_eq]
  omega
 simp
end Go.Proofs.Rid
