import Derived.Test.YtomomjgdeomgiaaGreatBA10
set_option maxRecDepth 100000
set_option maxHeartbeats 8000000
set_option linter.all false
namespace Go.Proofs.Rid
open Go Go.RowKit Go.Proofs.E Go.Proofs.Cus
def N3:Sp:=⟨0,0,0,false⟩
theorem D7(k n)(h:k<n):(List.replicate k (-1:Int)++List.replicate (n -k) 0).set k (-1)=List.replicate (k+1) (-1)++List.replicate (n -(k+1)) 0:=by
 rw [mn _ _ (by simp),show n -k=(n -(k+1))+1 by omega,nW,pQ,jG,zG,List.replicate_succ',cE]
 rfl
theorem D8(k n)(h:k<n):(List.replicate k (-1:Int)++List.replicate (n -k) 0)[k]?=some 0:=by
 rw [fu (by simp),pQ,jG,jz,aB (by omega)]
theorem Mem.PR{w0 w T T' L}(h:Mem w0 (jK T::L) w)(hp:T'.Perm T):Mem w0 (jK T'::L) w:=
 (h.uF.perm (DI L hp)).jK
abbrev ES (l:List Rd):Type:={y:Option Addr×Nat×List RX//y.2.2.map (·.r)=l}
theorem Aj(f a A n c xs w)(hf:mE w f a)(hx:rO w A n xs)(hn:n<=1000)(hpl:zz xs)(hr20:(nw f xs).dH.length<=20):
  Calls Tryz.prog 50 #[.agg (f.cells a).toArray, .slice A n c] w λr w'=> ∃y:ES (dP f xs),r= .returned (.tuple #[.slice y.1.1 y.1.2.2.length y.1.2.1, .int .i64 (fy f)])/\Mem w [eI y.1.1 y.1.2.1 y.1.2.2,kc y.1.2.2] w':=by
 have hxl:=hx.1;have hal:=tp f xs;refine HF Tryz.func50 Tryz.ntmps50 ?_;refine cd (v:= .agg _) rfl rfl λb2=>GX ?_;refine oD (en Tryz.call111 (jn (q0 rfl) (q0 rfl))) (λw hw=>Ik f a A n c xs w (hf.mem hw) (hx.mem hw) (by omega) hpl) rfl (λ_=>rfl) λr1=>?_;refine GD ?_ ?_<;>intro h1
 ·have h1':fy f≠0:=by simpa using h1
  have ho:dP f xs=[]:=by unfold dP;rw [an h1']
  refine GX ?_;exact jr (v:= .slice _ _ _) (x:= .int _ _) rfl rfl rfl rfl λw' hw=>⟨⟨(none,0,[]),ho.symm⟩,rfl,((ik.2 hw.1).BT (f:=jV)).fY _ _ _ rfl⟩
 have h1':fy f=0:=by simpa using h1
 obtain ⟨hbk,-⟩:=kq h1';have hnb:=wy h1';have ho:dP f xs=Ih (nw f xs).dH:=by unfold dP;rw [aB h1']
 have hjn:=Ca h1' xs;have hja:=λk=>MO h1' xs k;have hbikes: ∀e∈kR f xs,0<=e.bq/\e.bq<(i6 f:Int):=λe he=>by
  obtain ⟨hrp,_⟩:=sR h1' xs (λ_=>());obtain ⟨k,hk⟩:=cG.1 he;have:=(pX (hrp.at_ (g:=λ_=>()) hk).1).2.1;rw [hnb] at this;exact this
 have hst:nw f xs=(kR f xs).foldl gR (iq (i6 f)):=rfl;rw [h1',ho];generalize hac0:kR f xs=acc at*;generalize hN:i6 f=nb at*;have hnb1:nb<=1000:=by omega
 obtain ⟨r11,r12⟩:=r1;refine GX ?_;refine ke (8::rg 21 9) (λx:YA=>[(8, .pointer (some ⟨x.sb,0,none⟩))]) (λx=>[box x.sb 237 [.slice none 0 0, .map (some x.m), .slice (some ⟨x.g,0,none⟩) nb nb, .slice none 0 0, .slice (some ⟨x.s,0,none⟩) nb nb],rB (some ⟨x.g,0,none⟩) nb (List.replicate nb 0),E.dS 159 4 Sp.cells (some ⟨x.s,0,none⟩) nb (List.replicate nb N3),oP x.m [],gY r11 r12 acc]) (λx=>x.rA=none/\x.rc=0/\x.pA=none/\x.pc=0/\x.gc=nb/\x.sc=nb) ?_ ?_
 ·refine JR<|aW 1 ?_;refine aW 2 ?_;refine aW 4 ?_;refine aW 5 ?_;refine ON (i:=0) (j:=3) (k:=6) (by decide+kernel) (au 0) ?_ ?_ ?_
  ·refine aL rfl (lN rfl λb21=>?_);refine lS (i:=3) (j:=6) (by decide+kernel) (au 1) ?_ ?_
   ·refine aL rfl (kz (i:=Tryz.t3) (k:=1) (n:=nb) (m:=nb) eQ 0 aA (by kernel_rfl) rfl rfl rfl (by show Value.int .i64 f.cv=_;rw [hnb]) (by show Value.int .i64 f.cv=_;rw [hnb]) ⟨⟨bA _,by omega⟩,by decide⟩ rfl λb24=>?_);refine aI 1 ?_;refine r1 6 2 ?_;refine aL rfl (kz (i:=Tryz.t159) (k:=4) (n:=nb) (m:=nb) Sp.cells N3 fR (by kernel_rfl) rfl rfl rfl (by show Value.int .i64 f.cv=_;rw [hnb]) (by show Value.int .i64 f.cv=_;rw [hnb]) ⟨⟨bA _,by omega⟩,by decide⟩ rfl λb27=>?_);refine aI 2 ?_;refine mG 7 rfl (bN j0 Dn oE (pt (v:= .map _) rfl (pt (v:= .slice _ _ _) rfl (pt (v:= .slice _ _ _) rfl E.p0))) rfl)<|r1 8 3 ?_;refine aL rfl (td (v:= .agg _) rfl rfl λb29=>?_);refine aI 3 ?_;refine w7 (au 4)<|aW 9 ?_;refine qE 0 ?_;exact aO (⟨b29,none,0,b21,b24,nb,none,0,b27,nb⟩:YA) lg ⟨rfl,trivial⟩ (λw hw=>hw.pick [3,1,2,0,4] (by decide)) rfl ⟨rfl,rfl,rfl,rfl,rfl,rfl⟩
   refine aL rfl (kz (i:=Tryz.t159) (k:=4) (n:=nb) (m:=nb) Sp.cells N3 fR (by kernel_rfl) rfl rfl rfl (by show Value.int .i64 f.cv=_;rw [hnb]) (by show Value.int .i64 f.cv=_;rw [hnb]) ⟨⟨bA _,by omega⟩,by decide⟩ rfl λb27=>?_);refine aI 1 ?_;refine r1 3 2 ?_;refine aL rfl (kz (i:=Tryz.t3) (k:=1) (n:=nb) (m:=nb) eQ 0 aA (by kernel_rfl) rfl rfl rfl (by show Value.int .i64 f.cv=_;rw [hnb]) (by show Value.int .i64 f.cv=_;rw [hnb]) ⟨⟨bA _,by omega⟩,by decide⟩ rfl λb24=>?_);refine aI 1 ?_;refine mG 7 rfl (bN j0 Dn oE (pt (v:= .map _) rfl (pt (v:= .slice _ _ _) rfl (pt (v:= .slice _ _ _) rfl E.p0))) rfl)<|r1 8 3 ?_;refine aL rfl (td (v:= .agg _) rfl rfl λb29=>?_);refine aI 3 ?_;refine w7 (au 4)<|aW 9 ?_;refine qE 0 ?_;exact aO (⟨b29,none,0,b21,b24,nb,none,0,b27,nb⟩:YA) lg ⟨rfl,trivial⟩ (λw hw=>hw.pick [3,1,2,0,4] (by decide)) rfl ⟨rfl,rfl,rfl,rfl,rfl,rfl⟩
  ·refine aL rfl (kz (i:=Tryz.t3) (k:=1) (n:=nb) (m:=nb) eQ 0 aA (by kernel_rfl) rfl rfl rfl (by show Value.int .i64 f.cv=_;rw [hnb]) (by show Value.int .i64 f.cv=_;rw [hnb]) ⟨⟨bA _,by omega⟩,by decide⟩ rfl λb24=>?_);refine lS (i:=0) (j:=6) (by decide+kernel) (au 1) ?_ ?_
   ·refine aL rfl (lN rfl λb21=>?_);refine r1 6 2 ?_;refine aL rfl (kz (i:=Tryz.t159) (k:=4) (n:=nb) (m:=nb) Sp.cells N3 fR (by kernel_rfl) rfl rfl rfl (by show Value.int .i64 f.cv=_;rw [hnb]) (by show Value.int .i64 f.cv=_;rw [hnb]) ⟨⟨bA _,by omega⟩,by decide⟩ rfl λb27=>?_);refine aI 2 ?_;refine mG 7 rfl (bN j0 Dn oE (pt (v:= .map _) rfl (pt (v:= .slice _ _ _) rfl (pt (v:= .slice _ _ _) rfl E.p0))) rfl)<|r1 8 3 ?_;refine aL rfl (td (v:= .agg _) rfl rfl λb29=>?_);refine aI 3 ?_;refine w7 (au 4)<|aW 9 ?_;refine qE 0 ?_;exact aO (⟨b29,none,0,b21,b24,nb,none,0,b27,nb⟩:YA) lg ⟨rfl,trivial⟩ (λw hw=>hw.pick [3,1,2,0,4] (by decide)) rfl ⟨rfl,rfl,rfl,rfl,rfl,rfl⟩
   refine aL rfl (kz (i:=Tryz.t159) (k:=4) (n:=nb) (m:=nb) Sp.cells N3 fR (by kernel_rfl) rfl rfl rfl (by show Value.int .i64 f.cv=_;rw [hnb]) (by show Value.int .i64 f.cv=_;rw [hnb]) ⟨⟨bA _,by omega⟩,by decide⟩ rfl λb27=>?_);refine aI 1 ?_;refine r1 0 2 ?_;refine aL rfl (lN rfl λb21=>?_);refine mG 7 rfl (bN j0 Dn oE (pt (v:= .map _) rfl (pt (v:= .slice _ _ _) rfl (pt (v:= .slice _ _ _) rfl E.p0))) rfl)<|r1 8 3 ?_;refine aL rfl (td (v:= .agg _) rfl rfl λb29=>?_);refine aI 3 ?_;refine w7 (au 4)<|aW 9 ?_;refine qE 0 ?_;exact aO (⟨b29,none,0,b21,b24,nb,none,0,b27,nb⟩:YA) lg ⟨rfl,trivial⟩ (λw hw=>hw.pick [3,1,2,0,4] (by decide)) rfl ⟨rfl,rfl,rfl,rfl,rfl,rfl⟩
  refine aL rfl (kz (i:=Tryz.t159) (k:=4) (n:=nb) (m:=nb) Sp.cells N3 fR (by kernel_rfl) rfl rfl rfl (by show Value.int .i64 f.cv=_;rw [hnb]) (by show Value.int .i64 f.cv=_;rw [hnb]) ⟨⟨bA _,by omega⟩,by decide⟩ rfl λb27=>?_);refine lS (i:=0) (j:=3) (by decide+kernel) (au 1) ?_ ?_
  ·refine aL rfl (lN rfl λb21=>?_);refine r1 3 2 ?_;refine aL rfl (kz (i:=Tryz.t3) (k:=1) (n:=nb) (m:=nb) eQ 0 aA (by kernel_rfl) rfl rfl rfl (by show Value.int .i64 f.cv=_;rw [hnb]) (by show Value.int .i64 f.cv=_;rw [hnb]) ⟨⟨bA _,by omega⟩,by decide⟩ rfl λb24=>?_);refine aI 1 ?_;refine mG 7 rfl (bN j0 Dn oE (pt (v:= .map _) rfl (pt (v:= .slice _ _ _) rfl (pt (v:= .slice _ _ _) rfl E.p0))) rfl)<|r1 8 3 ?_;refine aL rfl (td (v:= .agg _) rfl rfl λb29=>?_);refine aI 3 ?_;refine w7 (au 4)<|aW 9 ?_;refine qE 0 ?_;exact aO (⟨b29,none,0,b21,b24,nb,none,0,b27,nb⟩:YA) lg ⟨rfl,trivial⟩ (λw hw=>hw.pick [3,1,2,0,4] (by decide)) rfl ⟨rfl,rfl,rfl,rfl,rfl,rfl⟩
  refine aL rfl (kz (i:=Tryz.t3) (k:=1) (n:=nb) (m:=nb) eQ 0 aA (by kernel_rfl) rfl rfl rfl (by show Value.int .i64 f.cv=_;rw [hnb]) (by show Value.int .i64 f.cv=_;rw [hnb]) ⟨⟨bA _,by omega⟩,by decide⟩ rfl λb24=>?_);refine r1 0 2 ?_;refine aL rfl (lN rfl λb21=>?_);refine mG 7 rfl (bN j0 Dn oE (pt (v:= .map _) rfl (pt (v:= .slice _ _ _) rfl (pt (v:= .slice _ _ _) rfl E.p0))) rfl)<|r1 8 3 ?_;refine aL rfl (td (v:= .agg _) rfl rfl λb29=>?_);refine aI 3 ?_;refine w7 (au 4)<|aW 9 ?_;refine qE 0 ?_;exact aO (⟨b29,none,0,b21,b24,nb,none,0,b27,nb⟩:YA) lg ⟨rfl,trivial⟩ (λw hw=>hw.pick [3,1,2,0,4] (by decide)) rfl ⟨rfl,rfl,rfl,rfl,rfl,rfl⟩
 rintro ⟨sb,rA,rc,m,g0,gc,pA,pc,s0,sc⟩ g4 ⟨e1,e2,e3,e4,e5,e6⟩;simp only at e1 e2 e3 e4 e5 e6;subst e1 e2 e3 e4 e5 e6;refine GX ?_;refine lb (9::rg 35 10) (λk:Nat=>[(35, .int .i64 k)]) (λk=>[box sb 237 [.slice none 0 0, .map (some m), .slice (some ⟨g0,0,none⟩) sc sc, .slice none 0 0, .slice (some ⟨s0,0,none⟩) sc sc],rB (some ⟨g0,0,none⟩) sc (List.replicate k (-1)++List.replicate (sc -k) 0),E.dS 159 4 Sp.cells (some ⟨s0,0,none⟩) sc (List.replicate sc N3),oP m [],gY r11 r12 acc]) (λk=>k<=sc) (λk=>sc -k) 0 (λw hw=>by simpa using hw) (bj _) ?_;rintro k g5 hk;refine GD ?_ ?_<;>intro hlt
 ·have hlt':k<sc:=by simp at hlt;omega
  have hget:=D8 k sc hlt';refine GX ?_;refine cQ (eR 1 (k:=1) (enc:=eQ) (-1) rfl rfl ae rfl rfl rfl hget rfl rfl ?_);refine GX ?_;exact nc (k+1) (λw hw=>by show Mem _ [_,rB _ _ (List.replicate (k+1) (-1)++List.replicate (sc -(k+1)) 0),_,_,_] w;rw [<-D7 k sc hlt'];exact hw) (by show k+1<=sc;omega)
 have hkn:k=sc:=by simp at hlt;omega
 subst hkn;refine jb (L':=yC ⟨sb,none,0,m,g0,k,none,0,s0,k⟩ ⟨[],[],List.replicate k (-1),[],List.replicate k N3⟩++[gY r11 r12 acc]) (λw hw=>by
  rw [jG,JN,bF] at hw;have h10:=((hw.BT (f:=jV)).fY 78 13 RX.cells (c:=0) rfl).fY 4 1 KS (c:=0) rfl;have h11:=h10.oU 8 [3,1,2,0,4,5,6,7] (by decide) (by decide);have hc:kN ⟨sb,none,0,m,g0,k,none,0,s0,k⟩ ⟨[],[],List.replicate k (-1),[],List.replicate k N3⟩=[.slice none 0 0, .map (some m), .slice (some ⟨g0,0,none⟩) k k, .slice none 0 0, .slice (some ⟨s0,0,none⟩) k k]:=by unfold kN;simp
  show Mem _ ([box sb 237 (kN _ _),_,_,_,_,_,_]++[_]) w;rw [hc];exact h11) rfl ?_
 refine GX ?_;refine la (11::rg 47 8) (λq:Nat×YA×TY=>[(47, .int .i64 q.1)]) (λq=>yC q.2.1 q.2.2++[gY r11 r12 acc]) (λq=>q.1<=acc.length/\q.2.1.sb=sb/\q.2.2.plain=(acc.take q.1).foldl gR (iq k)) (λq=>acc.length -q.1) (0,⟨sb,none,0,m,g0,k,none,0,s0,k⟩,⟨[],[],List.replicate k (-1),[],List.replicate k N3⟩) ⟨bj _,rfl,rfl⟩ ?_;rintro ⟨i,ya,ty⟩ g6 ⟨hi,hsb,hty⟩;simp only at hi hsb hty;have hJ:=hja i;rw [<-hty] at hJ;iterate 6 refine G0 ?_
 refine bD rfl ?_ ?_<;>intro hlt2
 ·have hlt2':i<acc.length:=by simpa using hlt2
  obtain ⟨e,he⟩: ∃e,acc[i]?=some e:=⟨_,ah hlt2'⟩;have hstep:(acc.take (i+1)).foldl gR (iq k)=gR ty.plain e:=by rw [dY _ _ _ he,fX,<-hty];rfl
  refine gM (λw hw=>fG (j:=7) hw rfl (by omega)) λ⟨rb,hrb⟩=>?_;subst hrb;refine GX ?_;refine bS dt rfl λb11=>dN (v:= .agg _) rfl rfl cU ?_;refine GX ?_;rw [<-hsb];refine cQ (dD (en Tryz.call112 (jn (q0 rfl) (q0 rfl))) (λw hw=>QU (a:=ya) (t:=ty) (L:=[_,_]) (Mem.uw (X:=[_]) (S:=yC ya ty) hw) rfl hJ.wf (by rw [dG];omega) e (hbikes e (aq he))) rfl (λ_=>rfl) λy=>?_);obtain ⟨⟨ya2,ty2⟩,hy1,hy2⟩:=y;refine GX ?_;exact nc (i+1,ya2,ty2) (λw hw=>Mem.uw (X:=[_]) (S:=yC ya2 ty2) (hw.oU 9 [7,0,1,2,3,4,5,6,8] (by decide) (by decide))|>.oU 9 [0,1,2,3,4,5,6,8] (by decide) (by decide)) ⟨by show i+1<=_;omega,hy1,by show ty2.plain=_;rw [hstep];exact hy2⟩
 have hend:i=acc.length:=by simp at hlt2;omega
 subst hend;rw [dQ,<-hst] at hty;obtain ⟨yb,yrA,yrc,ym,yg,ygc,ypA,ypc,ys0,ysc⟩:=ya;simp only at hsb;subst hsb;have hlen:ty.xs.length<=20:=by
  have h0:ty.plain.dH.length=ty.xs.length:=by simp [TY.plain]
  rw [<-h0,hty];exact hr20
 iterate 6 refine G0 ?_
 refine jb (λw hw=>hw.oU 8 [1,0,2,3,4,5,6,7] (by decide) (by decide)) rfl<|GX ?_;refine cQ (dD (en Tryz.call113 (jn (q0 rfl) (q0 rfl))) (λw hw=>QW hw rfl hlen) rfl (λ_=>rfl) λu=>?_);obtain ⟨zs,hz⟩:=u;have hzl:zs.length=ty.xs.length:=hz.perm.length_eq;have hids:=hjn.ji.ids;have hu1:zs.map (·.r)=Ih (nw f xs).dH:=GO (by rw [<-hty];exact hz.perm.map _) (by
  refine iD.2 (bJ.2 λp q hp hq hpq=>?_);have:=hz.ok p q zs[p] zs[q] (bj _) hpq hq (ah hp) (ah hq);unfold E8 KC at this;simp at this;exact this) hids
 refine GX ?_;exact jr (v:= .slice _ _ _) (x:= .int _ _) rfl rfl rfl rfl λw' hw=>⟨⟨(yrA,yrc,zs),hu1⟩,by show Ending.returned (.tuple #[.slice yrA ty.xs.length yrc,_])= .returned (.tuple #[.slice yrA zs.length yrc,_]);rw [hzl],(Mem.PR (hw.pick [2,0] (by decide)) (T':=zs.flatMap jV) (hz.perm.flatMap_right _)).pick [1,0] (by decide)⟩
end Go.Proofs.Rid
namespace Go.Proofs.Gos
open Go Go.RowKit Go.Proofs.E Go.Proofs.Cus
theorem MZ {fs:Array Field} (h:Tryz.prog.underlying 221=some (.struct fs):=by exact nN):df Tryz.prog fs [(0,1),(1,1)]:=by
 rw [nN] at h
 cases h
 intro w
 kernel_rfl
def u0 (x e:Ev):Bool:=decide (x.device=e.device)&&((decide (x.seq<e.seq)&&decide (e.at_<x.at_))||(decide (e.seq<x.seq)&&decide (x.at_<e.at_)))
def MN (x:Ev):List Value:=[.int .i64 x.device, .int .i64 x.seq]
structure K6 (w:World) (b o:Nat) (v:Value) (m:Nat) (es:Array MapEntry) (clock:Nat) (l:List Ev):Prop where
 lt:b<w.heap.size
 row:jS w b o [v, .map (some m)]
 map:w.heap[m]?=some (.map es clock)
 born:lW es.toList clock
 cX:es.toList.map (λe=>(e.key,e.val))=l.map λx=>(.agg (MN x).toArray, .agg x.cells.toArray)
theorem K6.one{w b o m clock v es l}(h:K6 w b o v m es clock l){e}(he:e∈es.toList): ∃x∈l,e.key= .agg (MN x).toArray/\e.val= .agg x.cells.toArray:=by
 have h1:(e.key,e.val)∈es.toList.map (λe=>(e.key,e.val)):=cW.2 ⟨e,he,rfl⟩
 rw [h.cX] at h1
 grind
theorem K6.two{w b o m clock v es l}(h:K6 w b o v m es clock l){x}(hx:x∈l): ∃e∈es.toList,e.key= .agg (MN x).toArray/\e.val= .agg x.cells.toArray:=by
 have h1:((.agg (MN x).toArray, .agg x.cells.toArray):Value×Value)∈l.map λx=>(Value.agg (MN x).toArray,Value.agg x.cells.toArray):=cW.2 ⟨x,hx,rfl⟩
 rw [<-h.cX] at h1
 grind
theorem KY {x y:Ev} (h:(Value.agg x.cells.toArray)= .agg y.cells.toArray):x=y:=by
 obtain ⟨x1,x2,x3,x4,x5,x6,x7,x8,x9⟩:=x
 obtain ⟨y1,y2,y3,y4,y5,y6,y7,y8,y9⟩:=y
 grind [Ev.cells]
theorem O9(es:List MapEntry)(seen:Array Nat)(e)(he:e∈es)(hs:seen.contains e.born=false):(es.filter λx=>!(seen.push e.born).contains x.born).length<(es.filter λx=>!seen.contains x.born).length:=by
 have hsub: ∀x:MapEntry,(!(seen.push e.born).contains x.born)=true->(!seen.contains x.born)=true:=λx hx=>by
  simp at hx|-;exact hx.1
 have key: ∀l:List MapEntry,e∈l->(l.filter λx=>!(seen.push e.born).contains x.born).length<(l.filter λx=>!seen.contains x.born).length:=by
  intro l
  induction l with
  |nil=>intro h;cases h
  |cons y l ih=>
   intro hm
   have hle: ∀l:List MapEntry,(l.filter λx=>!(seen.push e.born).contains x.born).length<=(l.filter λx=>!seen.contains x.born).length:=by
    intro l
    induction l with
    |nil=>simp
    |cons z l ih2=>
     grind
   rcases cn.1 hm with rfl|hm
   ·simp only [iZ]
    rw [an (by simp),aB (by simpa using hs)]
    have:=hle l
    simp only [cL];omega
   have:=ih hm
   simp only [iZ]
   grind
 exact key es he
theorem PO{es clock}(h:lW es clock){x y}(hx:x∈es)(hy:y∈es)(he:x.born=y.born):x=y:=by
 obtain ⟨i,hi,rfl⟩:=nX hx
 obtain ⟨j,hj,rfl⟩:=nX hy
 have:=bJ.1 h.K2
 grind
theorem Rw{b o m clock v es l}(e w)(h:K6 w b o v m es clock l):
  Calls Tryz.prog 106 #[.pointer (some ⟨b,o,none⟩), .agg e.cells.toArray] w λr w'=>r= .returned (.bool (!l.any λx=>u0 x e))/\fM w w':=by
 have hlt:=h.lt;have hrow:=h.row;have hmap:=h.map;have hB:=h.born;have hmlt:m<w.heap.size:=(fV.1 hmap).1;have hmm: ∀(L:List E.Item) w',Mem w L w'->w'.heap[m]?=some (.map es clock):=λL w' hw=>(hw.1.block m hmlt).trans hmap;refine HF Tryz.func106 Tryz.ntmps106 ?_;refine cd (v:= .agg _) rfl rfl λb3=>GX ?_;refine cQ (Jj j7 (hmm _) rfl rfl λr=>?_);refine GX ?_;refine ef ([4,6]++rg 12 37) (λ_:Array Nat=>[]) (λseen=>[O2 r m clock seen clock,box b3 131 e.cells]) (λseen=> ∀x∈es.toList,seen.contains x.born=true-> ∀y,x.val= .agg y.cells.toArray->u0 y e=false) (λseen=>(es.toList.filter λx=>!seen.contains x.born).length) #[] trivial (λ_ h=>h) rfl (λe _ hc=>by simp at hc) ?_;rintro seen g hinv;refine GX ?_;refine cQ (M6 0 (hmm _) hB rfl rfl (bA _) rfl (λhall=>?_) (λx he hs=>?_))
 ·refine GD ?_ ?_<;>intro hb
  ·cases hb
  refine GX ?_;exact cu (v:= .bool _) rfl rfl rfl λw' hw=>⟨fK (by
   symm;rw [jZ,p5];intro y hy;obtain ⟨x,hx,_,hv⟩:=h.two hy;simpa using hinv x hx (hall x hx) y hv),hw.1⟩
 obtain ⟨y,hy,hk,hv⟩:=h.one he;obtain ⟨ek,ev',eb⟩:=x;simp only at hk hv;subst hk;subst hv;refine GD ?_ ?_<;>intro hb
 ·refine fI (Jp 0 (hmm _) hB he (q0 rfl) rfl)<|GX ?_;refine bS dt rfl λb6=>dN (v:= .agg _) rfl rfl cU ?_;refine XN<|ad<|ak<|R0<|xV (az bT rfl ae rfl (q0 rfl)) rfl rfl<|xV (eL aj (q0 rfl)) rfl rfl<|xV (az bT rfl ae rfl (q0 rfl)) rfl rfl<|xV (eL aj (q0 rfl)) rfl rfl<|xV (jE (q0 rfl) (q0 rfl)) rfl rfl<|xV (ay (v:= .bool _) (q0 rfl)) rfl rfl<|dJ (az bT rfl ae rfl (q0 rfl)) rfl rfl rfl rfl<|dJ (eL aj (q1 rfl)) rfl rfl rfl rfl<|dJ (az bT rfl ae rfl (q0 rfl)) rfl rfl rfl rfl<|dJ (eL aj (q1 rfl)) rfl rfl rfl rfl<|dJ (gK (q1 rfl) (q1 rfl)) rfl rfl rfl rfl<|dJ (ay (v:= .bool _) (q1 rfl)) rfl rfl rfl rfl<|mq (az bT rfl ae rfl (q0 rfl)) rfl rfl rfl rfl<|mq (eL aj (q1 rfl)) rfl rfl rfl rfl<|mq (az bT rfl ae rfl (q0 rfl)) rfl rfl rfl rfl<|mq (eL aj (q1 rfl)) rfl rfl rfl rfl<|mq (uY (q1 rfl) (q1 rfl)) rfl rfl rfl rfl<|dJ (fH (q1 rfl) rfl (λh=>by first|rfl|(rw [h];rfl))) rfl rfl rfl rfl<|dJ (ay (v:= .bool _) (q1 rfl)) rfl rfl rfl rfl<|iv (az bT rfl ae rfl (q0 rfl)) rfl rfl rfl rfl<|iv (eL aj (q1 rfl)) rfl rfl rfl rfl<|iv (az bT rfl ae rfl (q0 rfl)) rfl rfl rfl rfl<|iv (eL aj (q1 rfl)) rfl rfl rfl rfl<|iv (uY (q1 rfl) (q1 rfl)) rfl rfl rfl rfl<|iv (ay (v:= .bool _) (q1 rfl)) rfl rfl rfl rfl<|mq (az bT rfl ae rfl (q0 rfl)) rfl rfl rfl rfl<|mq (eL aj (q1 rfl)) rfl rfl rfl rfl<|mq (az bT rfl ae rfl (q0 rfl)) rfl rfl rfl rfl<|mq (eL aj (q1 rfl)) rfl rfl rfl rfl<|mq (gK (q1 rfl) (q1 rfl)) rfl rfl rfl rfl<|iv (fH (q1 rfl) rfl (λh=>by first|rfl|(rw [h];rfl))) rfl rfl rfl rfl<|dJ (jJ (q1 rfl) rfl (λh=>by first|rfl|(rw [h];rfl))) rfl rfl rfl rfl<|xV (fH (q0 rfl) rfl (λh=>by first|rfl|(rw [h];rfl))) rfl rfl<|XN<|ad ?_;refine GD ?_ ?_<;>intro hcl
  ·exact cu (v:= .bool _) rfl rfl rfl λw' hw=>⟨fK (by
    have hc:u0 y e=true:=by
     unfold u0;exact hcl
    symm;rw [Lq,l6];exact ⟨y,hy,hc⟩),hw.1⟩
  refine GX ?_;exact aH (seen.push eb) lg trivial (λ_ h=>h.tail) rfl (λe' he' hc z hz=>by
   by_cases hs':seen.contains e'.born=true
   ·exact hinv e' he' hs' z hz
   have hbe:e'.born=eb:=by simp at hc hs';exact hc.resolve_left hs'
   have:=PO hB he' he hbe;subst this;have:=KY hz;subst this;unfold u0;exact hcl) (O9 es.toList seen ⟨_,_,eb⟩ he hs)
 cases hb
attribute [local irreducible] dm
end Go.Proofs.Gos
namespace Go.Proofs.Net
open Go.Proofs.Cus Go.Proofs.Rid Go.Proofs.Far
def oM (e:Ev):Int×Int:=(e.device,e.seq)
def kW (n:Int) (l:List Ev) (e:Ev):List Ev×Bool×Int:=
 if e.device<0\/n<=e.device then (l,false,7)
 else if e.seq<1\/1048576<e.seq\/e.at_<0\/e.late<e.at_\/4294943999<e.late then (l,false,1)
 else match l.find? λx=>decide (oM x=oM e) with
  |some x=>if x=e then (l,false,0) else (l,false,21)
  |none=>if (l.any λx=>Gos.u0 x e)=true then (l,false,9) else if 512<=l.length then (l,false,8) else (l++[e],true,0)
def Bs (l:List Ev) (d:Int):Nat->Nat->Nat
 |0,m=>m
 |k+1,m=>if l.any (λx=>decide (oM x=(d,(m:Int)+1)))=true then Bs l d k (m+1) else m
def lF (l:List Ev) (d:Int):Nat:=Bs l d (l.length+1) 0
def Sn (l:List Ev) (d s:Int):Int:=match l.find? λx=>decide (oM x=(d,s)) with|some x=>x.at_|none=>0
def Gb (l:List Ev):List Nat->Int->Int
 |[],t=>t
 |d::ds,t=>if lF l d=0 then 0 else Gb l ds (min t (Sn l d (lF l d)))
def Ez (n:Int) (l:List Ev):Int:=Gb l (List.range n.toNat) 4294943999
structure Py where
 bn:Int
 rider:Int
 fU:Int
deriving DecidableEq,Inhabited
open Go Go.RowKit Go.Proofs.E Go.Proofs.Cus Go.Proofs.Gos
theorem KA:sh Tryz.prog 221:=sh.struct nN (by kernel_rfl) ⟨by decide,rfl,aj,⟨_,av⟩,by decide,rfl,aj,⟨_,av⟩,trivial⟩ rfl
def Sm (x:Ev):Value:= .agg x.cells.toArray
def Ec (l:List Ev):List ((Int×Int)×Value):=l.map λx=>(oM x,Sm x)
abbrev N6 (r m:Nat) (dv:Int) (l:List Ev):List E.Item:=[box r 219 [.int .i64 dv, .map (some m)],mT m (Ec l)]
theorem OP(l e):Ec (l++[e])=Ec l++[(oM e,Sm e)]:=by simp [Ec]
theorem qH(l k):gT (Ec l) k=(l.find? λx=>decide (oM x=k)).map Sm:=by
 unfold gT Ec
 rw [List.find?_map,Option.map_map]
 have:((λp:(Int×Int)×Value=>p.1==k)∘λx:Ev=>(oM x,Sm x))=λx=>decide (oM x=k):=by
  funext x
  rw [gQ];simp
 rw [this]
 cases l.find? (λx=>decide (oM x=k))<;>rfl
theorem De: ∀{es:List MapEntry} {ps:List ((Int×Int)×Value)},qi es ps->es.map (λe=>(e.key,e.val))=ps.map λp=>(kv p.1,p.2)
 |_,_, .nil=>rfl
 |_,_, .cons h1 h2=>by
  rw [kh,kh,De h2,h1.1,h1.2]
theorem uJ{w b t cs}(h:(box b t cs).A w):jS w b 0 cs:=λj u hu=>by
 have hA:w.heap[b]?=some (.cells cs.toArray t (0,0)):=h
 simp [World.cell?,hA,hu]
theorem u6{w b t cs}(h:(box b t cs).A w):b<w.heap.size:=by
 grind [box]
theorem S5{w r m dv l}(h1:(box r 219 [.int .i64 dv, .map (some m)]).A w)(h2:(mT m (Ec l)).A w): ∃es clock,K6 w r 0 (.int .i64 dv) m es clock l:=by
 obtain ⟨es,clock,h3,h4,h5⟩:=h2;refine ⟨es,clock,u6 h1,uJ h1,h3,h5,?_⟩;rw [De h4,Ec,jH];rfl
theorem Df: ∀{es:List MapEntry} {ps:List ((Int×Int)×Value)},qi es ps->es.length=ps.length
 |_,_, .nil=>rfl
 |_,_, .cons _ h2=>by rw [cL,cL,Df h2]
theorem RJ{c w0 L f ty g x t k e b ps}(ht:c.P.underlying t=some (.map k e))(hx:gH g f x (.map (some b)))(hA: ∀w,Mem w0 L w->rN w b ps):gj g c w0 L f (.call {callee:= .builtin .len,args:= #[x],argTypes:= #[t]}) ty (.int .i64 ps.length):=λh _ _ _ _ w hw=>by
 obtain ⟨es,clock,h1,h2,_⟩:=hA w hw
 have h3:=Df h2
 rw [JP] at h3
 simp [execOp,resolve,invoke,builtin,hx h,Builtin.len_,run_underlying ht,Result.andThen,goInt,MapKept.run_getObj_map h1,h3]
def TE (x:Ev):List Int:=[x.device,x.seq,x.at_,x.late,x.kind,x.bq,x.place,x.rider,x.bn]
theorem RD(x y):(TE x==TE y)=decide (x=y):=by
 obtain ⟨x1,x2,x3,x4,x5,x6,x7,x8,x9⟩:=x
 obtain ⟨y1,y2,y3,y4,y5,y6,y7,y8,y9⟩:=y
 rw [gQ]
 simp [TE]
theorem Uz(x y:Ev)(w):(Op.equal 131 (.agg x.cells.toArray) (.agg y.cells.toArray)).run Tryz.prog w= .ok (decide (x=y)) w:=by
 have h:=oq w (TE x) (TE y) rfl bT (by kernel_rfl) ⟨by decide,rfl,aj,⟨_,av⟩,by decide,rfl,aj,⟨_,av⟩,by decide,rfl,aj,⟨_,av⟩,by decide,rfl,aj,⟨_,av⟩,by decide,rfl,aj,⟨_,av⟩,by decide,rfl,aj,⟨_,av⟩,by decide,rfl,aj,⟨_,av⟩,by decide,rfl,aj,⟨_,av⟩,by decide,rfl,aj,⟨_,av⟩,trivial⟩
 rw [RD] at h
 exact h rfl
theorem wG{r m dv l}(e){w0 w L}(hL:marks L=[])(hw:Mem w0 (N6 r m dv l++L) w):Calls Tryz.prog 47 #[.pointer (some ⟨r,0,none⟩), .agg e.cells.toArray] w λq w'=> ∃_x:Unit,q= .returned (.tuple #[.bool (kW dv l e).2.1, .int .i64 (kW dv l e).2.2])/\Mem w0 (N6 r m dv (kW dv l e).1++L) w':=by
 refine gI hw hL Tryz.func47 rfl Tryz.ntmps47 rfl ?_;refine GX ?_;refine cd (v:= .agg _) rfl rfl λb3=>GX ?_;refine fI (ti qK (q0 rfl))<|GD ?_ ?_<;>intro hnil
 ·cases hnil
 refine GX ?_;refine vS<|GD ?_ ?_<;>intro h1
 ·have h1':e.device<0\/dv<=e.device:=by simpa using h1
  have ha:kW dv l e=(l,false,7):=by unfold kW;rw [aB h1']
  rw [ha];refine GX ?_;exact jr (v:= .bool _) (x:= .int _ _) rfl rfl rfl hL λw' hw=>⟨(),rfl,hw.tail⟩
 have h1': ¬(e.device<0\/dv<=e.device):=by simpa using h1
 refine GD ?_ ?_<;>intro h2
 ·have h2':e.seq<1\/1048576<e.seq\/e.at_<0\/e.late<e.at_\/4294943999<e.late:=by simpa [or_assoc] using h2
  have ha:kW dv l e=(l,false,1):=by unfold kW;rw [an h1',aB h2']
  rw [ha];refine GX ?_;exact jr (v:= .bool _) (x:= .int _ _) rfl rfl rfl hL λw' hw=>⟨(),rfl,hw.tail⟩
 have h2': ¬(e.seq<1\/1048576<e.seq\/e.at_<0\/e.late<e.at_\/4294943999<e.late):=by simp at h2;omega
 refine GX ?_;refine fI (bN nN MZ xd (pt (v:= .int _ _) rfl (pt (v:= .int _ _) rfl E.p0)) rfl) ?_;refine bS xd rfl λb6=>dN (v:= .agg _) rfl rfl Tryz.sizeOf221 ?_;refine GX ?_;refine JR<|aW 0 ?_;refine aW 1 ?_;refine aW 2 ?_;refine aW 3 ?_;refine aW 4 ?_;cases hf:l.find? (λx=>decide (oM x=oM e)) with
 |some x=>
  refine mG 5 rfl (vz (key:=oM e) (u:= .agg x.cells.toArray) (bb:=true) KA j7 dt (q0 rfl) (q0 rfl) (λw hw=>hw.item (k:=3) rfl) (λ_=>by rw [qH,hf];exact ⟨rfl,rfl⟩))<|aW 6 ?_;refine aW 7 ?_;refine aW 8 ?_;refine r1 9 0 ?_;refine aL rfl (mO dt rfl λb7=>?_);refine r1 10 1 ?_;refine aL rfl (mB (v:= .agg _) rfl rfl cU ?_);refine w7 (au 1)<|aW 11 ?_;refine qE 0 ?_;refine GD ?_ ?_<;>intro h3
  ·refine fI (Aa (Uz x e) (by kernel_rfl) (q0 rfl) (q0 rfl))<|GD ?_ ?_<;>intro h4
   ·have h4':x≠e:=by simpa using h4
    have ha:kW dv l e=(l,false,21):=by unfold kW;rw [an h1',an h2',hf];simp only;rw [an h4']
    rw [ha];refine GX ?_;exact jr (v:= .bool _) (x:= .int _ _) rfl rfl rfl hL λw' hw=>⟨(),rfl,hw.tail.tail.tail⟩
   have h4':x=e:=by simpa using h4
   have ha:kW dv l e=(l,false,0):=by unfold kW;rw [an h1',an h2',hf];simp only;rw [aB h4']
   rw [ha];refine GX ?_;exact jr (v:= .bool _) (x:= .int _ _) rfl rfl rfl hL λw' hw=>⟨(),rfl,hw.tail.tail.tail⟩
  cases h3
 |none=>
  refine mG 5 rfl (vz (key:=oM e) (bb:=false) KA j7 dt (q0 rfl) (q0 rfl) (λw hw=>hw.item (k:=3) rfl) (λ_=>by rw [qH,hf];exact ⟨rfl,rfl⟩))<|aW 6 ?_;refine aW 7 ?_;refine aW 8 ?_;refine r1 9 0 ?_;refine aL rfl (mO dt rfl λb7=>?_);refine r1 10 1 ?_;refine aL rfl (mB (v:= .agg _) rfl rfl cU ?_);refine w7 (au 1)<|aW 11 ?_;refine qE 0 ?_;refine GD ?_ ?_<;>intro h3
  ·cases h3
  refine GX ?_;refine jx (en Tryz.call106 (jn (q0 rfl) (q0 rfl))) (λ_ w hw=>by obtain ⟨es,ck,hr⟩:=S5 (hw.item (k:=3) rfl) (hw.item (k:=4) rfl);exact Rw e w hr)<|GD ?_ ?_<;>intro h4
  ·have h4':(l.any λx=>u0 x e)=true:=by simpa using h4
   have ha:kW dv l e=(l,false,9):=by unfold kW;rw [an h1',an h2',hf];simp only;rw [aB h4']
   rw [ha];refine GX ?_;exact jr (v:= .bool _) (x:= .int _ _) rfl rfl rfl hL λw' hw=>⟨(),rfl,hw.tail.tail.tail⟩
  have h4': ¬(l.any λx=>u0 x e)=true:=by simpa using h4
  refine GX ?_;refine fI (RJ j7 (q0 rfl) (λw hw=>hw.item (k:=4) rfl))<|GD ?_ ?_<;>intro h5
  ·have h5':512<=l.length:=by simp [Ec] at h5;omega
   have ha:kW dv l e=(l,false,8):=by unfold kW;rw [an h1',an h2',hf];simp only;rw [an h4',aB h5']
   rw [ha];refine GX ?_;exact jr (v:= .bool _) (x:= .int _ _) rfl rfl rfl hL λw' hw=>⟨(),rfl,hw.tail.tail.tail⟩
  have h5': ¬512<=l.length:=by simp [Ec] at h5;omega
  have ha:kW dv l e=(l++[e],true,0):=by unfold kW;rw [an h1',an h2',hf];simp only;rw [an h4',an h5']
  rw [ha];refine GX ?_;refine E.RT rfl rfl (by decide+kernel)<|GX ?_;refine cQ (Rz (key:=oM e) (v:=Sm e) 4 KA j7 rfl rfl rfl rfl (by rw [qH,hf];rfl) ?_);refine GX ?_;exact jr (v:= .bool _) (x:= .int _ _) rfl rfl rfl hL λw' hw=>⟨(),rfl,by have h:Mem _ (box r 219 [.int .i64 dv, .map (some m)]::mT m (Ec l++[(oM e,Sm e)])::L) _:=hw.tail.tail.tail;rw [<-OP] at h;exact h⟩
end Go.Proofs.Net
namespace Go.Proofs.E
open Go Go.RowKit
section
variable {c:Cx} {w0:World} {L:List Item} {f:Fr} {ty t el:TypeId} {g:Bool} {x:Operand}
theorem UA{i fs fl cs v}(ht:c.P.underlying t=some (.struct fs))(hf:fs[i]?=some fl)(ha: ∀w,(isAgg fl.type).run c.P w= .ok false w)(hx:gH g f x (.agg cs))(hv:cs[fl.offset]?=some v):
  gj g c w0 L f (.field t x i) ty v:=λe _ _ _ _ w _=>by
 simp [execOp,hx e,Instr.field,run_underlying ht,hf,asAgg,part,ha,hv,Result.andThen]
theorem OM{fn a b o n}{vs:List Value}(hr:fn.results= #[.cell a t])(hv:f a= .pointer (some ⟨b,o,none⟩))(ht: ∀w,(isAgg t).run c.P w= .ok true w)(hs: ∀w,(sizeOf t).run c.P w= .ok n w)(hc:true=true-> ∀w,Mem w0 L w-> ∀j u,vs[j]?=some u->w.cell? ⟨b,o+j,none⟩=some u:=by first|exact rV 0 rfl|exact rV 1 rfl|exact rV 2 rfl|exact rV 3 rfl|exact rV 4 rfl|exact rV 5 rfl|exact rV 6 rfl|exact rV 7 rfl|exact rV 8 rfl|exact rV 9 rfl|exact rV 10 rfl|exact rV 11 rfl|exact rV 12 rfl|exact rV 13 rfl)(hl:vs.length=n:=by rfl):vf c.P c.N fn w0 L f (.agg vs.toArray):=λw ds ac hw ha=>by
 have h1:=ha.get a
 have h2:=iV (c:=c) (f:=f) (x:= .tmp a) (ty:=0) (g:=true) (L:=L) (w0:=w0) ht hs (λ_=>hv) hc hl rfl none "" #[] none w hw
 simp only [execOp,show ev f (.tmp a)= .pointer (some ⟨b,o,none⟩) from hv,Instr.loadAt,Instr.sureAddr,Sem.run_bind,Sem.run_pure,Result.andThen_ok] at h2
 have hlv:(loadVar t ⟨b,o,none⟩).run c.P w= .ok (.agg vs.toArray) w:=by
  cases hx:(loadVar t ⟨b,o,none⟩).run c.P w with
  |ok a' w'=>
   rw [hx] at h2
   simp only [Result.andThen] at h2
   injection h2 with h4 h5
   injection h4 with h4
   rw [h4,h5]
  |halt a' w'=>rw [hx] at h2;cases h2
 rw [eZ,hv] at h1
 simp [results,hr,h1,asAddr,hlv,Result.andThen]
end
end Go.Proofs.E
namespace Go.Proofs.Net
open Go Go.RowKit Go.Proofs.E Go.Proofs.Cus Go.Proofs.Gos
def xJ (l:List Ev) (d:Int) (s:Int):Bool:=l.any λx=>decide (oM x=(d,s))
theorem Gm{l d s}:(l.find? λx=>decide (oM x=(d,s)))=none↔xJ l d s=false:=by
 grind [oM,xJ]
theorem II{l d}{m:Nat}(h: ∀j,j<m->xJ l d ((j:Int)+1)=true):m<=l.length:=by
 have h1:((List.range m).map λj:Nat=>((d,(j:Int)+1):Int×Int)).Nodup:=by
  refine List.Pairwise.map _ (λa b hab=>?_) List.nodup_range
  grind
 have h2: ∀p∈(List.range m).map (λj:Nat=>((d,(j:Int)+1):Int×Int)),p∈l.map oM:=by
  intro p hp;obtain ⟨j,hj,rfl⟩:=cW.1 hp
  grind [xJ]
 have h3:=List.Nodup.length_le_of_subset h1 h2;simpa using h3
theorem OI{l d}{m:Nat}(h: ∀j,j<m->xJ l d ((j:Int)+1)=true)(hs:Bs l d (l.length+1 -m) m=lF l d):
  (xJ l d ((m:Int)+1)=true->(∀j,j<m+1->xJ l d ((j:Int)+1)=true)/\Bs l d (l.length+1 -(m+1)) (m+1)=lF l d/\m+1<=l.length)/\(xJ l d ((m:Int)+1)=false->lF l d=m):=by
 have hb:=II h;have e:l.length+1 -m=(l.length -m)+1:=by omega
 rw [e,Bs] at hs;have hs:(if xJ l d ((m:Int)+1)=true then Bs l d (l.length -m) (m+1) else m)=lF l d:=hs;refine ⟨λhy=>?_,λhn=>?_⟩
 ·have h2: ∀j,j<m+1->xJ l d ((j:Int)+1)=true:=λj hj=>by
   grind
  refine ⟨h2,?_,II h2⟩;rw [aB hy] at hs;rw [show l.length+1 -(m+1)=l.length -m by omega];exact hs
 have hn': ¬xJ l d ((m:Int)+1)=true:=by rw [hn];decide
 grind
def Td (n:Int):List Value:=[.int .i64 n]
abbrev rB (A:Option Addr) (c:Nat) (l:List Int):E.Item:=dS 3 1 Td A c l
def sn (l:List Ev) (d:Nat):List Int:=(List.range d).map λi:Nat=>((lF l (i:Int):Nat):Int)
def J' (l:List Ev) (n d:Nat) (m:Int):List Int:=sn l d++m::List.replicate (n -d -1) 0
theorem D0(l d):(sn l d).length=d:=by simp [sn]
theorem OF(l){n d}(h:d<n)(m):(J' l n d m).length=n:=by simp [J',D0];omega
theorem OG(l n d m):(J' l n d m)[d]?=some m:=by
 grind [J',D0]
theorem OE(l n d m k):(J' l n d m).set d k=J' l n d k:=by
 unfold J'
 rw [mn _ _ (by rw [D0];exact bA _),D0,jG];rfl
theorem S3(l){n d}(h:d<n):sn l d++List.replicate (n -d) 0=J' l n d 0:=by
 unfold J'
 rw [show n -d=(n -d -1)+1 by omega,nW];rfl
theorem Q2(l){n d}(h:d<n):J' l n d ((lF l (d:Int):Nat):Int)=sn l (d+1)++List.replicate (n -(d+1)) 0:=by
 unfold J' sn
 rw [pP,eY,cE,show n -d -1=n -(d+1) by omega];rfl
theorem Q7{r m}{n:Nat}{l}(w)(h1:(box r 219 [.int .i64 n, .map (some m)]).A w)(h2:rN w m (Ec l))(hn:n<=256)(hl:l.length<=10000):
  Calls Tryz.prog 107 #[.pointer (some ⟨r,0,none⟩)] w λq w'=> ∃b:Nat,q= .returned (.slice (some ⟨b,0,none⟩) n n)/\Mem w [rB (some ⟨b,0,none⟩) n (sn l n)] w':=by
 have hlt:=u6 h1;have hrow:=uJ h1;have hk: ∀(L:List E.Item) w',Mem w L w'->rN w' m (Ec l):=λL w' hw=>h2.mem hw;refine HF Tryz.func107 Tryz.ntmps107 ?_;refine fI (ti qK (q0 rfl))<|GD ?_ ?_<;>intro hnil
 ·cases hnil
 refine GX ?_;refine cQ (kz (i:=Tryz.t3) (k:=1) (n:=n) (m:=n) Td 0 aA (by kernel_rfl) rfl rfl rfl rfl rfl ⟨⟨bA _,by omega⟩,by decide⟩ rfl λbs=>?_);refine GX ?_;refine la ([4,5,6]++rg 16 27) (λd:Nat=>[(16, .int .i64 d)]) (λd=>[rB (some ⟨bs,0,none⟩) n (sn l d++List.replicate (n -d) 0)]) (λd=>d<=n) (λd=>n -d) 0 (bj _) ?_;rintro d g hd;refine GD ?_ ?_<;>intro hlt2
 ·have hlt':d<n:=by simpa using hlt2
  refine GX ?_;refine ef ([5,6]++rg 19 23) (λm:Nat=>[]) (λm=>[rB (some ⟨bs,0,none⟩) n (J' l n d m)]) (λm=>(∀j,j<m->xJ l d ((j:Int)+1)=true)/\Bs l d (l.length+1 -m) m=lF l d/\m<=l.length) (λm=>l.length+1 -m) 0 trivial (λw hw=>by show Mem _ [rB _ n (J' l n d 0)] w;rw [<-S3 l hlt'];exact hw) rfl ⟨λj hj=>absurd hj (Nat.not_lt_zero j),rfl,bj _⟩ ?_;rintro q g2 ⟨hq1,hq2,hq3⟩;have hgo:=OI hq1 hq2;have hget:=OG l n d q;have hln:=OF l hlt' (q:Int);refine GX ?_;refine JR<|aW 0 ?_;refine aW 1 ?_;refine aW 2 ?_;refine aW 3 ?_;refine aW 4 ?_;refine aW 5 ?_;refine aW 6 ?_;refine mG 7 rfl (cx _ aA ae (q0 rfl) (q0 rfl) (λ_=>⟨rfl,by omega⟩))<|aW 8 ?_;refine aW 9 ?_;refine mG 10 rfl (bN nN MZ xd (pt (v:= .int _ _) rfl (pt (v:= .int _ _) rfl E.p0)) rfl) ?_;cases hf:l.find? (λx=>decide (oM x=((d:Int),(q:Int)+1))) with
  |some x=>
   have hy:xJ l d ((q:Int)+1)=true:=by
    cases hb:xJ l d ((q:Int)+1) with
    |true=>rfl
    |false=>rw [Gm.2 hb] at hf;cases hf
   obtain ⟨hq4,hq5,hq6⟩:=hgo.1 hy;refine mG 11 rfl (vz (key:=((d:Int),(q:Int)+1)) (u:= .agg x.cells.toArray) (bb:=true) KA j7 dt (q0 rfl) (q0 rfl) (λw hw=>hk _ w hw) (λ_=>by rw [qH,hf];exact ⟨rfl,rfl⟩))<|aW 12 ?_;refine aW 13 ?_;refine aW 14 ?_;refine r1 15 0 ?_;refine aL rfl (mO dt rfl λb5=>?_);refine r1 16 1 ?_;refine aL rfl (mB (v:= .agg _) rfl rfl cU ?_);refine w7 (au 1)<|aW 17 ?_;refine qE 0 ?_;refine GD ?_ ?_<;>intro h3
   ·cases h3
   refine GX ?_;refine cQ (eR 1 ((q:Int)+1) rfl rfl ae rfl rfl rfl hget rfl rfl ?_);refine GX ?_;exact ng (q+1) trivial (λw hw=>by have h:=hw.tail;rw [OE] at h;exact h) ⟨hq4,hq5,hq6⟩
  |none=>
   have hy:=Gm.1 hf;have hq4:=hgo.2 hy;refine mG 11 rfl (vz (key:=((d:Int),(q:Int)+1)) (bb:=false) KA j7 dt (q0 rfl) (q0 rfl) (λw hw=>hk _ w hw) (λ_=>by rw [qH,hf];exact ⟨rfl,rfl⟩))<|aW 12 ?_;refine aW 13 ?_;refine aW 14 ?_;refine r1 15 0 ?_;refine aL rfl (mO dt rfl λb5=>?_);refine r1 16 1 ?_;refine aL rfl (mB (v:= .agg _) rfl rfl cU ?_);refine w7 (au 1)<|aW 17 ?_;refine qE 0 ?_;refine GD ?_ ?_<;>intro h3
   ·exact nc (d+1) (λw hw=>by have h:=hw.tail;rw [<-hq4,Q2 l hlt'] at h;exact h) (by omega)
   cases h3
 have hde:d=n:=by simp at hlt2;omega
 subst hde;refine GX ?_;exact cu (v:= .slice _ _ _) rfl rfl rfl λw' hw=>⟨bs,rfl,by rw [jG,JN,bF] at hw;exact hw⟩
theorem MU(l d k t):Gb l (List.range' d (k+1)) t=if lF l (d:Int)=0 then 0 else Gb l (List.range' (d+1) k) (min t (Sn l d (lF l (d:Int)))):=by
 rw [List.range'_succ,Gb]
theorem Q3(l){n d}(h:d<n):(sn l n)[d]?=some ((lF l (d:Int):Nat):Int):=by
 grind [sn,lF]
theorem Ti{r m}{n:Nat}{l}(w)(h1:(box r 219 [.int .i64 n, .map (some m)]).A w)(h2:rN w m (Ec l))(hn:n<=256)(hl:l.length<=10000):
  Calls Tryz.prog 48 #[.pointer (some ⟨r,0,none⟩)] w λq w'=>q= .returned (.int .i64 (Ez n l))/\fM w w':=by
 have hlt:=u6 h1;have hrow:=uJ h1;have hk: ∀(L:List E.Item) w',Mem w L w'->rN w' m (Ec l):=λL w' hw=>h2.mem hw;have hbx: ∀(L:List E.Item) w',Mem w L w'->(box r 219 [.int .i64 n, .map (some m)]).A w':=λL w' hw=>(hw.1.block r hlt).trans h1;have hor0:Ez n l=Gb l (List.range' 0 n) 4294943999:=by
  unfold Ez;rw [bC,List.range_eq_range']
 refine HF Tryz.func48 Tryz.ntmps48 ?_;refine fI (ti qK (q0 rfl))<|GD ?_ ?_<;>intro hnil
 ·cases hnil
 refine GX ?_;refine oD (en Tryz.call107 (iQ (q0 rfl))) (λw' hw=>Q7 w' (hbx _ w' hw) (hk _ w' hw) hn hl) rfl (λ_=>rfl) λbs=>GX ?_;refine la (rg 2 4++rg 11 19) (λs:Nat×Int=>[(11, .int .i64 s.1),(3, .int .i64 s.2)]) (λ_=>[rB (some ⟨bs,0,none⟩) n (sn l n)]) (λs=>s.1<=n/\Ez n l=Gb l (List.range' s.1 (n -s.1)) s.2) (λs=>n -s.1) (0,4294943999) ⟨bj _,hor0⟩ ?_;rintro ⟨d,t⟩ g ⟨hd,ht⟩;have hd:d<=n:=hd;have ht:Ez n l=Gb l (List.range' d (n -d)) t:=ht;refine GD ?_ ?_<;>intro hlt2
 ·have hlt':d<n:=by simpa using hlt2
  have hget:=Q3 l hlt';rw [show n -d=(n -(d+1))+1 by omega,MU] at ht;refine GD ?_ ?_<;>intro h0
  ·have h0':lF l (d:Int)=0:=by simpa using h0
   rw [aB h0'] at ht;rw [ht];exact GW
  have h0': ¬lF l (d:Int)=0:=by simpa using h0
  rw [an h0'] at ht;have hu:(gT (Ec l) ((d:Int),((lF l (d:Int):Nat):Int))).getD (.agg (Ev.cells ⟨0,0,0,0,0,0,0,0,0⟩).toArray)= .agg ((l.find? λx=>decide (oM x=((d:Int),((lF l (d:Int):Nat):Int)))).getD ⟨0,0,0,0,0,0,0,0,0⟩).cells.toArray:=by
   rw [qH];cases l.find? (λx=>decide (oM x=((d:Int),((lF l (d:Int):Nat):Int))))<;>rfl
  have hat:((l.find? λx=>decide (oM x=((d:Int),((lF l (d:Int):Nat):Int)))).getD ⟨0,0,0,0,0,0,0,0,0⟩).at_=Sn l d (lF l (d:Int)):=by
   unfold Sn;cases l.find? (λx=>decide (oM x=((d:Int),((lF l (d:Int):Nat):Int))))<;>rfl
  generalize (l.find? λx=>decide (oM x=((d:Int),((lF l (d:Int):Nat):Int)))).getD ⟨0,0,0,0,0,0,0,0,0⟩=y at hu hat;refine GX ?_;refine fI (bN nN MZ xd (pt (v:= .int _ _) rfl (pt (v:= .int _ _) rfl E.p0)) rfl) ?_;refine fI (Ng (key:=((d:Int),((lF l (d:Int):Nat):Int))) (u:= .agg y.cells.toArray) KA j7 dt (q0 rfl) (q0 rfl) (λw hw=>hk _ w hw) (λ_=>hu))<|fI (UA bT rfl aj (q0 rfl) rfl)<|fI (Nd (q0 rfl) (q0 rfl))<|GX ?_;exact ne (d+1,min t (Sn l d (lF l (d:Int)))) ⟨rfl,by show Value.int .i64 (if y.at_<t then y.at_ else t)=Value.int .i64 (min t (Sn l (d:Int) ((lF l (d:Int):Nat):Int)));rw [<-hat,Int.min_def];congr 1;split<;>split<;>omega,trivial⟩ ⟨by show d+1<=n;omega,ht⟩
 have hde:d=n:=by simp at hlt2;omega
 subst hde;rw [jG] at ht;rw [ht];exact GW
end Go.Proofs.Net
namespace Go.Proofs.Far
open Go.Proofs.Cus Go.Proofs.Rid
theorem Fc(l): ∀(qs:List Rq) (s:List Int×List (Int×Int)),(∀u∈s.1,-1<=u/\u<l.length)-> ∀u∈(qs.foldl (kZ l) s).1,-1<=u/\u<l.length
 |[],_,h=>h
 |q::qs,s,h=>by
  rw [eh];refine Fc l qs _ λu hu=>?_
  grind [kZ,rZ,HJ]
theorem Fe{p l u}(h:u∈wg p l): -1<=u/\u<p.lT.length:=Fc p.lT (l.map pU) ([],[]) (λu hu=>by cases hu) u h
theorem yv(p l):(wg p l).length=l.length:=by
 grind [wg,Bh,pU,kZ,Bg]
theorem CF{p l}: ∀{k:Nat} {B:List jq},k<=l.length->FS p l k=some B->B.length=k/\ ∀(i:Nat) (b:jq) (x:Rd×Int),B[i]?=some b->l[i]?=some x->tQ p x.1 x.2=some b
 |0,B,_,h=>by
  have:B=[]:=by
   have h2:some ([]:List jq)=some B:=h;exact (mZ h2).symm
  subst this;exact ⟨rfl,λi b x hb=>by simp at hb⟩
 |k+1,B,hk,h=>by
  obtain ⟨y,hy⟩: ∃y,l[k]?=some y:=⟨_,ah (by omega)⟩;rw [JH hy] at h;unfold wU at h;split at h
  ·cases h
  rename_i bs hbs;split at h
  ·cases h
  rename_i b hb;cases h;obtain ⟨h1,h2⟩:=CF (k:=k) (by omega) hbs;refine ⟨by rw [aQ,h1];rfl,λi c x hc hx=>?_⟩;by_cases hi:i<k
  ·rw [gm (by omega)] at hc;exact h2 i c x hc hx
  have hik:i=k:=by
   have:=(ai.1 hc).1;rw [aQ,h1] at this;simp at this;omega
  subst hik;rw [hy] at hx;cases hx;rw [fu (by omega),h1,jG] at hc;simp at hc;rw [<-hc];exact hb
theorem DJ{α β:Type}{l:List α}{m:List β}{k:Nat}{a b}(ha:l[k]?=some a)(hb:m[k]?=some b):(l.zip m)[k]?=some (a,b):=by
 rw [Am]
 exact ⟨ha,hb⟩
theorem Nj{l:List Rd}{B}(h:l.length=B.length):((l.zip B).map ur).map (·.rider)=l.map (·.rider):=by
 rw [jH]
 have:((λx:Dy=>x.rider)∘ur)=(λr:Rd=>r.rider)∘Prod.fst:=rfl
 rw [this,<-jH,QF (by omega)]
theorem RL{l:List Rd}{B}(h:l.length=B.length):((l.zip B).map ur).map (·.day)=l.map λr=>r.start.lo/86400:=by
 rw [jH]
 have:((λx:Dy=>x.day)∘ur)=(λr:Rd=>r.start.lo/86400)∘Prod.fst:=rfl
 rw [this,<-jH,QF (by omega)]
theorem KT{l:List Rd}{B}(h:l.length=B.length):((l.zip B).map ur).map (·.fU)=B.map (·.total):=by
 rw [jH]
 have:((λx:Dy=>x.fU)∘ur)=(λb:jq=>b.total)∘Prod.snd:=rfl
 rw [this,<-jH,List.map_snd_zip (by omega)]
theorem Gz(limit xs):(CR limit xs).map (·.1)=xs:=by
 have key: ∀(xs:List Dy) (l:List (Dy×Int)),(xs.foldl (λl x=>l++[(x,sa limit l x)]) l).map (·.1)=l.map (·.1)++xs:=by
  intro xs
  induction xs with
  |nil=>intro l;simp
  |cons x xs ih=>intro l;rw [eh,ih];simp
 exact key xs []
theorem BR{p l B}(h:l.length=B.length):(qa p l B).length=B.length:=by
 unfold qa
 have:=aP List.length (Gz p.cap ((l.zip B).map ur))
 grind
structure K7 (l:List Rd) (B:List jq):Prop where
 len:l.length=B.length
 bn: ∀(i:Nat) (b:jq) (r:Rd),B[i]?=some b->l[i]?=some r->0<=b.total/\b.total<=1000000000000/\b.items.length<=5/\b.bn=r.id/\b.rider=r.rider
theorem IN{f p l us B}(he:gS f p=0)(hg:Good l)(hu:us.length=l.length)(h:FS p (l.zip us) l.length=some B):K7 l B:=by
 have hzl:(l.zip us).length=l.length:=by rw [xg];omega
 obtain ⟨h1,h2⟩:=CF (by omega) h;refine ⟨h1.symm,λi b r hb hr=>?_⟩;have hi:i<us.length:=by have:=(ai.1 hr).1;omega
 have:=h2 i b (r,us[i]) hb (DJ hr (ah hi));exact Gj he (hg.ok r (aq hr)) this
theorem Pd{r}(h:eF r=0):1<=r.id/\r.id<=1000000/\0<=r.rider/\r.rider<128:=by
 grind [eF,rY,xI]
theorem Nk{f p l B}(he:gS f p=0)(hg:Good l)(hR:K7 l B):Ae p.cap ((l.zip B).map ur)=0:=by
 obtain ⟨_,_,_,_,_,_,hc1,hc2,_⟩:=nQ he
 unfold Ae
 rw [an (by rw [pw.2 ⟨hc1,hc2⟩];decide),an (by rw [aS,xg];have:=hg.TC;omega),an]
 intro hany
 obtain ⟨y,hy,hb⟩:=l6.1 hany
 obtain ⟨⟨r,b⟩,hz,rfl⟩:=cW.1 hy
 obtain ⟨i,hi⟩:=Hb hz
 rw [Am] at hi
 have h1:=hR.bn i b r hi.2 hi.1
 have h2:=Pd (hg.ok r (aq hi.1))
 have h3:=sN.1 (im (hg.ok r (aq hi.1))).1
 grind [gS,Ae,ur,Ds,yW,pw]
theorem HO{f p l B}(he:gS f p=0)(hR:K7 l B){v}(hv:v∈qa p l B):0<=v/\v<=1000000000000:=by
 obtain ⟨_,_,_,_,_,_,hc1,hc2,_⟩:=nQ he
 have ham: ∀y∈(l.zip B).map ur,0<=y.fU/\y.fU<=1000000000000:=λy hy=>by
  obtain ⟨⟨r,b⟩,hz,rfl⟩:=cW.1 hy
  obtain ⟨i,hi⟩:=Hb hz
  rw [Am] at hi
  have h1:=hR.bn i b r hi.2 hi.1
  exact ⟨h1.1,h1.2.1⟩
 have hok:=N1 hc1 ham ((l.zip B).map ur).length (bA _)
 have hds:DS p.cap ((l.zip B).map ur) ((l.zip B).map ur).length=CR p.cap ((l.zip B).map ur):=by unfold DS;rw [dQ];rfl
 rw [hds] at hok
 unfold qa at hv
 obtain ⟨y,hy,rfl⟩:=cW.1 hv
 have h1:=hok.Vj y hy
 grind [gS,qa,ur,Gz]
theorem KK(p vs b d):(uV p vs b d).bn=b.bn/\(uV p vs b d).rider=b.rider:=by
 grind [uV,vK]
theorem ye{p vs l}: ∀{k:Nat} {C:List jq},k<=l.length->FN p vs l k=some C->C=(l.take k).map λx=>uV p vs x.1 (x.2 -x.1.total)
 |0,C,_,h=>by
  grind [FN,uV]
 |k+1,C,hk,h=>by
  obtain ⟨y,hy⟩: ∃y,l[k]?=some y:=⟨_,ah (by omega)⟩
  rw [EW hy] at h
  unfold uU at h
  split at h
  ·cases h
  rename_i bs hbs
  split at h
  ·cases h
  cases h
  rw [ye (k:=k) (by omega) hbs,iC,hy,eY];rfl
theorem Qv{p vs l}: ∀{k:Nat} {C:List jq},k<=l.length->FN p vs l k=some C-> ∀c∈C,c.total<=1000000000000
 |0,C,_,h=>by
  grind [FN]
 |k+1,C,hk,h=>by
  obtain ⟨y,hy⟩: ∃y,l[k]?=some y:=⟨_,ah (by omega)⟩
  rw [EW hy] at h
  unfold uU at h
  split at h
  ·cases h
  rename_i bs hbs
  split at h
  ·cases h
  rename_i hle
  cases h
  intro c hc
  rcases bO.1 hc with hc|hc
  ·exact Qv (k:=k) (by omega) hbs c hc
  simp at hc;subst hc;omega
theorem CT{C l}(hp:l.Perm C)(hn:(C.map (·.bn)).Nodup)(hs:l.Pairwise λa b=>a.bn<=b.bn):l=tW C:=by
 have hb:(tW C).Perm C:=lE _ _;have hs2:(tW C).Pairwise λa b=>a.bn<=b.bn:=by
  have:=kT (le:=λa b:jq=>decide (a.bn<=b.bn)) (λa b c h1 h2=>by simp at*;omega) (λa b=>by simp;omega) C;exact this.imp λh=>by simpa using h
 have strict: ∀{m:List jq},m.Perm C->m.Pairwise (λa b=>a.bn<=b.bn)->m.Pairwise λa b=>a.bn<b.bn:=λ{m} h1 h2=>by
  have h3:m.Pairwise λa b=>a.bn≠b.bn:=iD.1 ((h1.map _).nodup_iff.2 hn);exact (h2.and h3).imp λh=>by omega
 refine UR (le:=λa b=>a.bn<b.bn) (λa b _ _ h1 h2=>?_) (strict hp hs) (strict hb hs2) (hp.trans hb.symm);omega
theorem FB{l B}(hR:K7 l B):B.map (·.bn)=l.map (·.id):=by
 apply fh
 intro i
 rw [cV,cV]
 by_cases hi:i<B.length
 ·have hi2:i<l.length:=by have:=hR.len;omega
  rw [ah hi,ah hi2]
  have:=hR.bn i _ _ (ah hi) (ah hi2)
  simp [this.2.2.2.1]
 rw [iu (by omega),iu (by have:=hR.len;omega)];rfl
theorem Dq{p vs}{B:List jq}{ps}(h:B.length<=ps.length):((B.zip ps).map λx=>uV p vs x.1 (x.2 -x.1.total)).map (·.bn)=B.map (·.bn):=by
 rw [jH]
 have:((λb:jq=>b.bn)∘λx:jq×Int=>uV p vs x.1 (x.2 -x.1.total))=(λb:jq=>b.bn)∘Prod.fst:=by
  funext x
  simp [KK]
 rw [this,<-jH,QF h]
open Go Go.RowKit Go.Proofs.E Go.Proofs.Cus Go.Proofs.Rid
structure BX where
 q:Nat
 b:jq
 A:Option Addr
 c:Nat
deriving Inhabited
def BX.ptr (x:BX):List Value:=[.pointer (some ⟨x.q,0,none⟩)]
def r5 (x:BX):List E.Item:=[box x.q 248 (x.b.cells x.A x.c),rz x.A x.c x.b.items]
abbrev Da (A:Option Addr) (c:Nat) (xs:List BX):E.Item:=dS 244 1 BX.ptr A c xs
theorem M8{w0 w L}(h:Mem w0 L w):Mem w0 [kE none 0 [],jK (([]:List FX).flatMap jD)] w:=((ik.2 h.1).BT).fY 81 4 FX.cells (c:=0) rfl
theorem NK{w0 w L}{xs ys:List FX}(h:Mem w0 (jK (xs.flatMap jD)::L) w)(hp:ys.Perm xs):Mem w0 (jK (ys.flatMap jD)::L) w:=by
 have h1:=h.uF
 exact (h1.perm ((hp.flatMap_right jD).append_right L)).jK
theorem tR{q}: ∀l:List RX,(l.filter λx=>q x.r).map (·.r)=(l.map (·.r)).filter q
 |[]=>rfl
 |x::l=>by
  rw [kh,iZ,iZ]
  cases h:q x.r
  ·rw [an (by simp),an (by simp)];exact tR l
  rw [aB rfl,aB rfl,kh,tR l]
theorem Pk(p vs b d):uV p vs b d=wC p vs (mD b 6 0 d) (mD b 6 0 d).bn:=by
 unfold uV wC
 rw [(vK b 6 0 d).1]
theorem gp{N w0 L f K d ty pos af x y xs A cA b cB tb}(j q:Nat)(v)(next: ∀A' c',K (L.set j (dS 3 1 eQ A' c' (xs++[v]))) (kV f d (.slice A' (xs++[v]).length c')))(hx:ev f x= .slice A xs.length cA:=by rfl)(hy:ev f y= .slice (some ⟨b,0,none⟩) 1 cB:=by rfl)(hk:L[j]?=some (dS 3 1 eQ A cA xs):=by rfl)(hq:L[q]?=some (box b tb [.int .i64 v]):=by rfl)(hd:Nat.blt d N=true:=by rfl)(hlen:xs.length+1<=1000000:=by first|omega|(dsimp only;omega)|(simp;omega)):
  vO ⟨Tryz.prog,none,N⟩ w0 L f ⟨some d, .call {callee:= .builtin .append,args:= #[x,y],argTypes:= #[22,22]},ty,pos,af,none⟩ K:=
 dj (k:=1) (i:=Tryz.t3) (enc:=eQ) j aA (by kernel_rfl) rfl rfl rfl rfl (λ_=>rfl) (λ_=>rfl) hx hy hk (λw hw=>fj (enc:=eQ) (xs:=[v]) hw (j:=q) hq (λ_=>rfl) (by simp)) ⟨hlen,by decide⟩ hd next
attribute [local irreducible] tQ Bh CR wC uV zY wz oB tW mD FS FN
theorem Aj(f fa p a A n c rs V vn vc vs w)(hf:mE w f fa)(hp:qh w p a)(hr:lZ w A n rs)(hs:GY rs)(hv:Pen.zw w V vn vs)(hpl: ∀x∈rs,x.r.pl<=9223372036854775807):
  Calls Tryz.prog 51 #[.agg (f.cells fa).toArray, .agg (p.cells a).toArray, .slice A n c, .slice V vn vc] w λe w'=> ∃z:{z:List FX×(Option Addr×Nat)//z.1.map (·.b)=sg f p (rs.map (·.r)) vs},e= .returned (.tuple #[.slice z.1.2.1 z.1.1.length z.1.2.2, .int .i64 (jw f p (rs.map (·.r)) vs)])/\Mem w [kE z.1.2.1 z.1.2.2 z.1.1,jK (z.1.1.flatMap jD)] w':=by
 have hl:=hr.1.1
 have hn:=hr.1.2.1
 refine dd Tryz.func51 rfl Tryz.ntmps51 rfl ?_
 refine ak ?_
 refine R0 ?_
 refine cd (v:= .agg _) rfl rfl λb4=>?_
 refine cd (v:= .agg _) rfl rfl λb5=>?_
 refine cd (v:= .slice _ _ _) rfl rfl λb7=>?_
 refine xV (aU (v:= .slice _ _ _) (q0 rfl)) rfl rfl ?_
 refine xV (aU (v:= .int _ _) (q0 rfl)) rfl rfl ?_
 refine XN ?_
 refine ad ?_
 refine ak ?_
 refine ak ?_
 refine R0 ?_
 refine xV (eS iB cN (q0 rfl)) rfl rfl ?_
 refine xV (eS jM eN (q0 rfl)) rfl rfl ?_
 refine xC (en yq (jn (q0 rfl) (q0 rfl))) (λ_ w hw=>s9 f fa p a w (hf.mem hw) (hp.mem hw)) rfl rfl ?_
 refine xV (aU (v:= .int _ _) (q0 rfl)) rfl rfl ?_
 refine XN ?_
 refine ad ?_
 refine ak ?_
 refine R0 ?_
 refine xV (ay (v:= .int _ _) (q0 rfl)) rfl rfl ?_
 refine xV (ki (q0 rfl) (q0 rfl)) rfl rfl ?_
 refine XN ?_
 refine ad ?_
 refine bD rfl (λh1=>?_) (λh1=>?_)
 ·have h1':gS f p≠0:=by simpa using h1
  have e2:sg f p (rs.map (·.r)) vs=[]:=by unfold sg;rw [aB (.inl h1')]
  rw [show jw f p (rs.map (·.r)) vs=gS f p by unfold jw;rw [aB h1']]
  refine ak ?_
  refine R0 ?_
  refine xV (ay (v:= .int _ _) (q0 rfl)) rfl rfl ?_
  refine xV (aU (v:= .slice _ _ _) (q0 rfl)) rfl rfl ?_
  refine xV (aU (v:= .int _ _) (q0 rfl)) rfl rfl ?_
  refine XN ?_
  refine ad ?_
  refine dq ?_
  refine cw ?_
  exact jr (v:= .slice _ _ _) (x:= .int _ _) rfl rfl rfl rfl λw' hw=>⟨⟨([],none,0),e2.symm⟩,rfl,M8 hw⟩
 have h1':gS f p=0:=by simpa using h1
 refine bZ ?_
 refine ad ?_
 refine ak ?_
 refine ak ?_
 refine R0 ?_
 refine xV (ay (v:= .slice _ _ _) (q0 rfl)) rfl rfl ?_
 refine xC (en Tryz.call115 (iQ (q0 rfl))) (λ_ w hw=>D1 A n c rs w (hr.mem hw) hs) rfl rfl ?_
 refine xV (aU (v:= .int _ _) (q0 rfl)) rfl rfl ?_
 refine XN ?_
 refine ad ?_
 refine ak ?_
 refine R0 ?_
 refine xV (ay (v:= .int _ _) (q0 rfl)) rfl rfl ?_
 refine xV (ki (q0 rfl) (q0 rfl)) rfl rfl ?_
 refine XN ?_
 refine ad ?_
 refine bD rfl (λh2=>?_) (λh2=>?_)
 ·have h2':ot (rs.map (·.r))≠0:=by simpa using h2
  have e2:sg f p (rs.map (·.r)) vs=[]:=by unfold sg;rw [aB (.inr (.inl h2'))]
  rw [show jw f p (rs.map (·.r)) vs=ot (rs.map (·.r)) by unfold jw;rw [an (by omega),aB h2']]
  refine ak ?_
  refine R0 ?_
  refine xV (ay (v:= .int _ _) (q0 rfl)) rfl rfl ?_
  refine xV (aU (v:= .slice _ _ _) (q0 rfl)) rfl rfl ?_
  refine xV (aU (v:= .int _ _) (q0 rfl)) rfl rfl ?_
  refine XN ?_
  refine ad ?_
  refine dq ?_
  refine cw ?_
  exact jr (v:= .slice _ _ _) (x:= .int _ _) rfl rfl rfl rfl λw' hw=>⟨⟨([],none,0),e2.symm⟩,rfl,M8 hw⟩
 have h2':ot (rs.map (·.r))=0:=by simpa using h2
 refine bZ ?_
 refine ad ?_
 refine ak ?_
 refine ak ?_
 refine R0 ?_
 refine xV (eL A8 (q0 rfl)) rfl rfl ?_
 refine xC (en Tryz.call116 (iQ (q0 rfl))) (λ_ w hw=>Pen.LH V vn vc vs w (hv.mem hw)) rfl rfl ?_
 refine xV (aU (v:= .int _ _) (q0 rfl)) rfl rfl ?_
 refine XN ?_
 refine ad ?_
 refine ak ?_
 refine R0 ?_
 refine xV (ay (v:= .int _ _) (q0 rfl)) rfl rfl ?_
 refine xV (ki (q0 rfl) (q0 rfl)) rfl rfl ?_
 refine XN ?_
 refine ad ?_
 refine bD rfl (λh3=>?_) (λh3=>?_)
 ·have h3':Pen.r9 vs≠0:=by simpa using h3
  have e2:sg f p (rs.map (·.r)) vs=[]:=by unfold sg;rw [aB (.inr (.inr h3'))]
  rw [show jw f p (rs.map (·.r)) vs=Pen.r9 vs by unfold jw;rw [an (by omega),an (by omega),aB h3']]
  refine ak ?_
  refine R0 ?_
  refine xV (ay (v:= .int _ _) (q0 rfl)) rfl rfl ?_
  refine xV (aU (v:= .slice _ _ _) (q0 rfl)) rfl rfl ?_
  refine xV (aU (v:= .int _ _) (q0 rfl)) rfl rfl ?_
  refine XN ?_
  refine ad ?_
  refine dq ?_
  refine cw ?_
  exact jr (v:= .slice _ _ _) (x:= .int _ _) rfl rfl rfl rfl λw' hw=>⟨⟨([],none,0),e2.symm⟩,rfl,M8 hw⟩
 have h3':Pen.r9 vs=0:=by simpa using h3
 have hgood:Good (rs.map (·.r)):=zN h2'
 have hE:jw f p (rs.map (·.r)) vs=if zl p (rs.map (·.r)) vs=none then 2 else 0:=by unfold jw;rw [an (by omega),an (by omega),an (by omega)]
 have hR:sg f p (rs.map (·.r)) vs=(zl p (rs.map (·.r)) vs).getD []:=by unfold sg;rw [an (by omega)]
 have hfew:=hgood.TC
 rw [aS,hl] at hfew
 obtain ⟨_,_,hpas,_,_,_,hc1,hc2,hpe⟩:=nQ h1'
 obtain ⟨Q,hQ⟩: ∃Q:Nat->List RX,∀k,Q k=(rs.take k).filter λx=>!x.r.open_:=⟨_,λ_=>rfl⟩
 have hQ0:Q 0=[]:=by rw [hQ];rfl
 have hQn:Q n=rs.filter λx=>!x.r.open_:=by rw [hQ,<-hl,dQ]
 have hQl: ∀k,(Q k).length<=n:=λk=>by
  rw [hQ]
  exact gL (dK _ _) (by rw [dG];omega)
 have hQs: ∀k x,rs[k]?=some x->Q (k+1)=if (!x.r.open_)=true then Q k++[x] else Q k:=λk x h=>by
  rw [hQ,hQ,oT _ _ _ h,gi]
  split
  ·rename_i ho;rw [CK (p:=λx:RX=>!x.r.open_) ho];rfl
  rename_i ho;rw [CL (p:=λx:RX=>!x.r.open_) ho];simp
 refine bZ ?_
 refine ad ?_
 refine ak ?_
 refine jb (L':=[eI none 0 [],box b7 46 [.slice V vn vc],box b5 28 (p.cells a),box b4 24 (f.cells fa)]) (λw hw=>hw.fY 78 13 RX.cells rfl) rfl ?_
 refine R0 ?_
 refine xV (aU (v:= .slice _ _ _) (q0 rfl)) rfl rfl ?_
 refine XN ?_
 refine ad ?_
 refine ak ?_
 refine ak ?_
 refine R0 ?_
 refine xV (ay (v:= .slice _ _ _) (q0 rfl)) rfl rfl ?_
 refine xV (dw aT (q0 rfl)) rfl rfl ?_
 refine xV (ay (v:= .int _ _) (q0 rfl)) rfl rfl ?_
 refine XN ?_
 refine ad ?_
 refine cq ?_
 refine ef [13,15,49,50,51,52,53,54,55,56,57,58,59,60] (λs:Nat×Option Addr×Nat=>[(49, .int .i64 s.1),(13, .slice s.2.1 (Q s.1).length s.2.2)]) (λs=>[eI s.2.1 s.2.2 (Q s.1),box b7 46 [.slice V vn vc],box b5 28 (p.cells a),box b4 24 (f.cells fa)]) (λs=>s.1<=n) (λs=>n -s.1) (0,none,0) ⟨rfl,by rw [hQ0];rfl,trivial⟩ (λw hw=>by rw [hQ0];exact hw) rfl (bj _) ?_
 rintro ⟨k,cA,cc⟩ g hk
 simp only at hk
 refine ak ?_
 refine R0 ?_
 refine xV (gK (q0 rfl) (q0 rfl)) rfl rfl ?_
 refine XN ?_
 refine ad ?_
 refine ak ?_
 refine bD rfl (λhlt=>?_) (λhlt=>?_)
 ·have hlt':k<n:=by simpa using hlt
  obtain ⟨b,off,x,rfl,hbl,hxk,hrx⟩:=hr.1.at_ hlt'
  have hst:=hQs k x hxk
  have hql:=hQl k
  refine bZ ?_
  refine ad ?_
  refine ak ?_
  refine cq ?_
  refine ak ?_
  refine R0 ?_
  refine xV (cx _ aT ba (q0 rfl) (q0 rfl) (λ_=>⟨rfl,by omega⟩)) rfl rfl ?_
  refine xV (eS fT ba (q0 rfl)) rfl rfl ?_
  refine bS dp rfl λb15=>?_
  refine dN (v:= .agg _) rfl rfl ba ?_
  refine XN ?_
  refine ad ?_
  refine ak ?_
  refine R0 ?_
  refine xV (az bE rfl gD rfl (q0 rfl)) rfl rfl ?_
  refine xV (eL lP (q0 rfl)) rfl rfl ?_
  refine xV (oz (q0 rfl)) rfl rfl ?_
  refine XN ?_
  refine ad ?_
  refine bD rfl (λho=>?_) (λho=>?_)
  ·have ho':(!x.r.open_)=true:=ho
   rw [aB ho'] at hst
   refine R0 ?_
   refine xV (ay (v:= .slice _ _ _) (q0 rfl)) rfl rfl ?_
   refine xV (eS fT ba (q0 rfl)) rfl rfl ?_
   refine gN (k:=13) (i:=Tryz.t78) 1 (x) aT (by kernel_rfl) rfl rfl rfl rfl ba dp rfl rfl rfl rfl rfl rfl ⟨by simp only;omega,by decide⟩ rfl rfl λB0 A1 c1=>?_
   refine xV (aU (v:= .slice _ _ _) (q0 rfl)) rfl rfl ?_
   refine XN ?_
   refine bc ?_
   refine ad ?_
   refine R0 ?_
   refine xV (eT (q0 rfl) (q0 rfl) (λ_=>⟨rfl,by omega,by omega⟩)) rfl rfl ?_
   refine xV (ay (v:= .int _ _) (q0 rfl)) rfl rfl ?_
   refine XN ?_
   exact aH (k+1,A1,c1) (by repeat (first|exact aK|exact aN|refine a8 rfl ?_|refine aJ rfl ?_|refine aD rfl ?_)) ⟨rfl,by rw [hst];rfl,trivial⟩ (λw hw=>by rw [hst];exact hw.tail) rfl (by show k+1<=n;omega) (by show n -(k+1)<n -k;omega)
  have ho':(!x.r.open_)=false:=ho
  rw [an (by rw [ho'];decide)] at hst
  refine bZ ?_
  refine bc ?_
  refine ad ?_
  refine R0 ?_
  refine xV (eT (q0 rfl) (q0 rfl) (λ_=>⟨rfl,by omega,by omega⟩)) rfl rfl ?_
  refine xV (ay (v:= .int _ _) (q0 rfl)) rfl rfl ?_
  refine XN ?_
  exact aH (k+1,cA,cc) (by repeat (first|exact aK|exact aN|refine a8 rfl ?_|refine aJ rfl ?_|refine aD rfl ?_)) ⟨rfl,by rw [hst];rfl,trivial⟩ (λw hw=>by rw [hst];exact hw.tail) rfl (by show k+1<=n;omega) (by show n -(k+1)<n -k;omega)
 have hend:k=n:=by simp at hlt;omega
 subst hend
 have hql:=hQl k
 refine fz ?_
 refine cJ ?_
 refine cM ?_
 refine cK ?_
 refine ad ?_
 refine ak ?_
 refine R0 ?_
 refine xV (ay (v:= .slice _ _ _) (q0 rfl)) rfl rfl ?_
 refine cQ (dD (en Tryz.call117 (jn (q0 rfl) (q0 rfl))) (λw hw=>OJ hw (j:=0) rfl rfl (by simp only;omega)) rfl (λ_=>rfl) λys0=>?_)
 obtain ⟨ys,hyp,hyo⟩:=ys0
 obtain ⟨l,hll⟩: ∃l:List Rd,l=ys.map (·.r):=⟨_,rfl⟩
 have hlc:l=oB (rs.map (·.r)):=by
  rw [hll]
  refine GK hgood ?_ (iD.2 hyo)
  rw [<-tR,<-hQn]
  exact hyp.map _
 have hlg:Good l:=by rw [hlc];exact Du hgood
 have hls:l.Pairwise λa b=>ig a b=true:=by rw [hlc];exact Ag hgood
 have hyl:ys.length=(Q k).length:=hyp.length_eq
 obtain ⟨m,hm⟩: ∃m,m=(Q k).length:=⟨_,rfl⟩
 rw [<-hm] at hyl hql
 rw [<-hm]
 have hlm:l.length=m:=by rw [hll,aS,hyl]
 have hym: ∀x∈ys,x∈rs/\x.r.open_=false:=λx hx=>by
  have h4:=hyp.mem_iff.1 hx
  rw [hQn] at h4
  have h5:=gO.1 h4
  exact ⟨h5.1,by simpa using h5.2⟩
 have hyAt: ∀{L:List E.Item} {w':World} {j:Nat},Mem w L w'->L[j]?=some (eI cA cc ys)->lZ w' cA m ys:=λ{L w' j} hw hj=>⟨by rw [<-hyl];exact fB hw hj (λ_=>rfl) (by omega),λx hx=>(hr.2 x (hym x hx).1).mem hw⟩
 obtain ⟨us,hus⟩: ∃us,us=wg p l:=⟨_,rfl⟩
 have husm:us.length=m:=by rw [hus,yv,hlm]
 have husr:(Bh p.lT (ys.map λx=>pU x.r)).1=us:=by rw [hus,hll];unfold wg;rw [jH];rfl
 have hUse: ∀{L:List E.Item} (w':World),Mem w L w'->lZ w' cA m ys->Calls Tryz.prog 119 #[.slice a.p.A a.p.n a.p.c, .slice cA m cc] w' λe w''=> ∃z:Nat,e= .returned (.tuple #[.slice (some ⟨z,0,none⟩) m m, .int .i64 0])/\Mem w' [eO (some ⟨z,0,none⟩) m us] w'':=λw' hw hy=>by
  have h:=Rh a.p.A a.p.n a.p.c p.lT cA m cc ys w' (hp.ps.mem hw) hy hpas (by rw [<-hll];exact hlg) (by rw [hll] at hls;exact iD.1 hls)
  rw [husr] at h
  exact h
 refine XN ?_
 refine ad ?_
 refine ak ?_
 refine R0 ?_
 refine xV (az fD rfl Tryz.sizeOf26 rfl (q0 rfl)) rfl rfl ?_
 refine xV (eL St (q0 rfl)) rfl rfl ?_
 refine xV (ay (v:= .slice _ _ _) (q0 rfl)) rfl rfl ?_
 refine oD (en Tryz.call119 (jn (q0 rfl) (q0 rfl))) (λw hw=>hUse w hw (hyAt hw (j:=0) rfl)) rfl (λ_=>rfl) λzu=>?_
 refine xV (ay (q0 rfl)) rfl rfl ?_
 refine xV (iW (q0 rfl) rfl) rfl rfl ?_
 refine xV (iW (q0 rfl) rfl) rfl rfl ?_
 refine xV (aU (v:= .slice _ _ _) (q0 rfl)) rfl rfl ?_
 refine xV (aU (v:= .int _ _) (q0 rfl)) rfl rfl ?_
 refine XN ?_
 refine ad ?_
 refine ak ?_
 refine ak ?_
 refine R0 ?_
 refine xV (ay (v:= .int _ _) (q0 rfl)) rfl rfl ?_
 refine xV (ki (q0 rfl) (q0 rfl)) rfl rfl ?_
 refine XN ?_
 refine ad ?_
 refine bD rfl (λh4=>?_) (λh4=>?_)
 ·exfalso;simp at h4
 obtain ⟨R,hRd⟩: ∃R:Nat->List Int,∀k,R k=(l.take k).map (·.rider):=⟨_,λ_=>rfl⟩
 obtain ⟨D,hDd⟩: ∃D:Nat->List Int,∀k,D k=(l.take k).map λr=>r.start.lo/86400:=⟨_,λ_=>rfl⟩
 have hR0:R 0=[]:=by rw [hRd];rfl
 have hD0:D 0=[]:=by rw [hDd];rfl
 have hRl: ∀k,k<=m->(R k).length=k:=λk hk=>by rw [hRd,aS,dG];omega
 have hDl: ∀k,k<=m->(D k).length=k:=λk hk=>by rw [hDd,aS,dG];omega
 have hRs: ∀k x,l[k]?=some x->R (k+1)=R k++[x.rider]:=λk x h=>by rw [hRd,hRd,oT _ _ _ h,eY];rfl
 have hDs: ∀k x,l[k]?=some x->D (k+1)=D k++[x.start.lo/86400]:=λk x h=>by rw [hDd,hDd,oT _ _ _ h,eY];rfl
 have hzl:(l.zip us).length=m:=by rw [xg];omega
 obtain ⟨tot,htot⟩: ∃tot:BX->Int,∀b,tot b=b.b.total:=⟨_,λ_=>rfl⟩
 refine bZ ?_
 refine ad ?_
 refine ak ?_
 refine jb (L':=[Da none 0 [],eO none 0 [],eO none 0 [],eO none 0 [],jK (([]:List BX).flatMap r5),eO (some ⟨zu,0,none⟩) m us,eI cA cc ys,box b7 46 [.slice V vn vc],box b5 28 (p.cells a),box b4 24 (f.cells fa)]) (λw hw=>((((hw.BT).fY 3 1 eQ rfl).fY 3 1 eQ rfl).fY 3 1 eQ rfl).fY 244 1 BX.ptr rfl) rfl ?_
 refine R0 ?_
 refine xV (aU (v:= .slice _ _ _) (q0 rfl)) rfl rfl ?_
 refine XN ?_
 refine ad ?_
 refine ak ?_
 refine R0 ?_
 refine xV (aU (v:= .slice _ _ _) (q0 rfl)) rfl rfl ?_
 refine xV (aU (v:= .slice _ _ _) (q0 rfl)) rfl rfl ?_
 refine xV (aU (v:= .slice _ _ _) (q0 rfl)) rfl rfl ?_
 refine XN ?_
 refine ad ?_
 refine ak ?_
 refine ak ?_
 refine R0 ?_
 refine xV (ay (v:= .slice _ _ _) (q0 rfl)) rfl rfl ?_
 refine xV (dw aT (q0 rfl)) rfl rfl ?_
 refine xV (ay (v:= .int _ _) (q0 rfl)) rfl rfl ?_
 refine XN ?_
 refine ad ?_
 refine cq ?_
 refine ef [8,9,18,19,20,21,22,23,24,25,75,76,77,78,79,80,81,82,83,84,85,86,87,88,89,90,91,92,93,94,95,96,97,98,99,100,101,102,103,104,105,106,107,108,109,110,111,112,113,114,115,116,117] (λs:Nat×List BX×(Option Addr×Nat)×(Option Addr×Nat)×(Option Addr×Nat)×(Option Addr×Nat)=>[(75, .int .i64 s.1),(18, .slice s.2.2.1.1 s.2.1.length s.2.2.1.2),(19, .slice s.2.2.2.1.1 (R s.1).length s.2.2.2.1.2),(20, .slice s.2.2.2.2.1.1 (D s.1).length s.2.2.2.2.1.2),(21, .slice s.2.2.2.2.2.1 (s.2.1.map tot).length s.2.2.2.2.2.2)]) (λs=>[Da s.2.2.1.1 s.2.2.1.2 s.2.1,eO s.2.2.2.1.1 s.2.2.2.1.2 (R s.1),eO s.2.2.2.2.1.1 s.2.2.2.2.1.2 (D s.1),eO s.2.2.2.2.2.1 s.2.2.2.2.2.2 (s.2.1.map tot),jK (s.2.1.flatMap r5),eO (some ⟨zu,0,none⟩) m us,eI cA cc ys,box b7 46 [.slice V vn vc],box b5 28 (p.cells a),box b4 24 (f.cells fa)]) (λs=>s.1<=m/\FS p (l.zip us) s.1=some (s.2.1.map (·.b))) (λs=>m -s.1) (0,[],(none,0),(none,0),(none,0),(none,0)) ⟨rfl,rfl,by rw [hR0];rfl,by rw [hD0];rfl,rfl,trivial⟩ (λw hw=>by rw [hR0,hD0];exact hw) rfl ⟨bj _,by unfold FS;rfl⟩ ?_
 rintro ⟨k2,bs,⟨pA,pc⟩,⟨rA,rc⟩,⟨dA,dc⟩,⟨sA,sc⟩⟩ g2 ⟨hk2,hFS⟩
 simp only at hk2 hFS
 have hbl:bs.length=k2:=by
  have:=(CF (by omega) hFS).1
  rw [aS] at this
  exact this
 refine ak ?_
 refine R0 ?_
 refine xV (gK (q0 rfl) (q0 rfl)) rfl rfl ?_
 refine XN ?_
 refine ad ?_
 refine ak ?_
 refine bD rfl (λhlt2=>?_) (λhlt2=>?_)
 ·have hlt2':k2<m:=by simpa using hlt2
  obtain ⟨x,hxk⟩: ∃x,ys[k2]?=some x:=⟨_,ah (by omega)⟩
  have hxm:=aq hxk
  have hlk:l[k2]?=some x.r:=by rw [hll];simp [hxk]
  have hcx:eF x.r=0:=hlg.ok x.r (aq hlk)
  have hsx:=sN.1 (im hcx).1
  obtain ⟨u,huk⟩: ∃u,us[k2]?=some u:=⟨_,ah (by omega)⟩
  have hur: -1<=u/\u<p.lT.length:=by have:=aq huk;rw [hus] at this;exact Fe this
  have hFSs:=JH (p:=p) (DJ hlk huk)
  rw [hFS] at hFSs
  refine gM (λw hw=>fG (j:=6) hw rfl (by omega)) λ⟨yb,hyb⟩=>?_
  subst hyb
  refine bZ ?_
  refine ad ?_
  refine ak ?_
  refine cq ?_
  refine ak ?_
  refine R0 ?_
  refine xV (ay (v:= .int _ _) (q0 rfl)) rfl rfl ?_
  refine xV (cx k2 aT ba (q0 rfl) (q0 rfl) (λ_=>⟨rfl,hlt2'⟩)) rfl rfl ?_
  refine xV (iV (vs:=x.cells) fT ba (q0 rfl) (by exact sP 6 (enc:=RX.cells) rfl hxk) rfl) rfl rfl ?_
  refine bS dp rfl λb23=>?_
  refine xV (aU (v:= .int _ _) (q0 rfl)) rfl rfl ?_
  refine dN (v:= .agg _) rfl rfl ba ?_
  refine XN ?_
  refine ad ?_
  refine ak ?_
  cases hfp:tQ p x.r u with
  |none=>
   have hno:zl p (rs.map (·.r)) vs=none:=by
    have h5:FS p (l.zip us) (k2+1)=none:=by rw [hFSs];unfold wU;simp only [hfp]
    unfold zl
    rw [<-hlc,<-hus,P4 h5]
   have hfw: ∀{L:List E.Item} (w':World),Mem w L w'->Calls Tryz.prog 120 #[.agg (p.cells a).toArray, .agg x.cells.toArray, .int .i64 u] w' λe w''=> ∃z:Nat×Option Addr×Nat,e= .returned (.tuple #[.pointer none, .int .i64 2])/\Mem w' [] w'':=λw' hw=>by
    have h:=Ji f p a x u w' (hp.mem hw) ((hr.2 x (hym x hxm).1).mem hw) h1' hcx (hym x hxm).2 (hpl x (hym x hxm).1) hur
    rw [hfp] at h
    exact h
   refine RA rfl (by decide+kernel) ?_
   refine aV 0 (by decide+kernel) rfl (eS jM eN (q0 rfl)) rfl ?_
   refine aV 1 (by decide+kernel) rfl (eS fT ba (q0 rfl)) rfl ?_
   refine aV 2 (by decide+kernel) rfl (ay (v:= .slice _ _ _) (q0 rfl)) rfl ?_
   refine aV 3 (by decide+kernel) rfl (ay (v:= .int _ _) (q0 rfl)) rfl ?_
   refine aV 4 (by decide+kernel) rfl (cx k2 aA ae (q0 rfl) (q0 rfl) (λ_=>⟨rfl,hlt2'⟩)) rfl ?_
   refine aV 5 (by decide+kernel) rfl (gB (v:= .int .i64 u) aj (q0 rfl) (by exact rQ 6 (enc:=eQ) rfl huk rfl)) rfl ?_
   refine eu (i:=6) (by decide+kernel) (au 0) ?_
   refine aL rfl (il (en Tryz.call120 (nS (q0 rfl) (q0 rfl) (q0 rfl))) (λw hw=>hfw w hw) rfl (λ_=>rfl) λz=>?_)
   refine aV 7 (by decide+kernel) rfl (ay (q0 rfl)) rfl ?_
   refine aV 8 (by decide+kernel) rfl (iW (q0 rfl) rfl) rfl ?_
   refine aV 9 (by decide+kernel) rfl (iW (q0 rfl) rfl) rfl ?_
   refine aV 10 (by decide+kernel) rfl (aU (v:= .pointer _) (q0 rfl)) rfl ?_
   refine aV 11 (by decide+kernel) rfl (aU (v:= .int _ _) (q0 rfl)) rfl ?_
   refine aZ (by decide+kernel) (au 0) ?_
   refine ad ?_
   refine ak ?_
   refine ak ?_
   refine R0 ?_
   refine xV (ay (v:= .int _ _) (q0 rfl)) rfl rfl ?_
   refine xV (ki (q0 rfl) (q0 rfl)) rfl rfl ?_
   refine XN ?_
   refine ad ?_
   refine bD rfl (λh5=>?_) (λh5=>?_)
   ·rw [hE,aB hno]
    refine ak ?_
    refine R0 ?_
    refine xV (ay (v:= .int _ _) (q0 rfl)) rfl rfl ?_
    refine xV (aU (v:= .slice _ _ _) (q0 rfl)) rfl rfl ?_
    refine xV (aU (v:= .int _ _) (q0 rfl)) rfl rfl ?_
    refine XN ?_
    refine ad ?_
    refine dq ?_
    refine cw ?_
    refine dU ?_
    refine cw ?_
    refine iJ ?_
    refine dU ?_
    refine cw ?_
    exact jr (v:= .slice _ _ _) (x:= .int _ _) rfl rfl rfl rfl λw' hw=>⟨⟨([],none,0),by rw [hR,hno];rfl⟩,rfl,M8 hw⟩
   exfalso;simp at h5
  |some b=>
   have hfw: ∀{L:List E.Item} (w':World),Mem w L w'->Calls Tryz.prog 120 #[.agg (p.cells a).toArray, .agg x.cells.toArray, .int .i64 u] w' λe w''=> ∃z:Nat×Option Addr×Nat,e= .returned (.tuple #[.pointer (some ⟨z.1,0,none⟩), .int .i64 0])/\Mem w' [box z.1 248 (b.cells z.2.1 z.2.2),rz z.2.1 z.2.2 b.items] w'':=λw' hw=>by
    have h:=Ji f p a x u w' (hp.mem hw) ((hr.2 x (hym x hxm).1).mem hw) h1' hcx (hym x hxm).2 (hpl x (hym x hxm).1) hur
    rw [hfp] at h
    exact h
   refine RA rfl (by decide+kernel) ?_
   refine aV 0 (by decide+kernel) rfl (eS jM eN (q0 rfl)) rfl ?_
   refine aV 1 (by decide+kernel) rfl (eS fT ba (q0 rfl)) rfl ?_
   refine aV 2 (by decide+kernel) rfl (ay (v:= .slice _ _ _) (q0 rfl)) rfl ?_
   refine aV 3 (by decide+kernel) rfl (ay (v:= .int _ _) (q0 rfl)) rfl ?_
   refine aV 4 (by decide+kernel) rfl (cx k2 aA ae (q0 rfl) (q0 rfl) (λ_=>⟨rfl,hlt2'⟩)) rfl ?_
   refine aV 5 (by decide+kernel) rfl (gB (v:= .int .i64 u) aj (q0 rfl) (by exact rQ 6 (enc:=eQ) rfl huk rfl)) rfl ?_
   refine eu (i:=6) (by decide+kernel) (au 0) ?_
   refine aL rfl (il (en Tryz.call120 (nS (q0 rfl) (q0 rfl) (q0 rfl))) (λw hw=>hfw w hw) rfl (λ_=>rfl) λz=>?_)
   refine w7 (au 2) ?_
   refine aV 7 (by decide+kernel) rfl (ay (q0 rfl)) rfl ?_
   refine aV 8 (by decide+kernel) rfl (iW (q0 rfl) rfl) rfl ?_
   refine aV 9 (by decide+kernel) rfl (iW (q0 rfl) rfl) rfl ?_
   refine aV 10 (by decide+kernel) rfl (aU (v:= .pointer _) (q0 rfl)) rfl ?_
   refine aV 11 (by decide+kernel) rfl (aU (v:= .int _ _) (q0 rfl)) rfl ?_
   refine aZ (by decide+kernel) (au 0) ?_
   refine ad ?_
   refine ak ?_
   refine ak ?_
   refine R0 ?_
   refine xV (ay (v:= .int _ _) (q0 rfl)) rfl rfl ?_
   refine xV (ki (q0 rfl) (q0 rfl)) rfl rfl ?_
   refine XN ?_
   refine ad ?_
   refine bD rfl (λh5=>?_) (λh5=>?_)
   ·exfalso;simp at h5
   refine bZ ?_
   refine ad ?_
   refine ak ?_
   refine R0 ?_
   refine xV (ay (v:= .slice _ _ _) (q0 rfl)) rfl rfl ?_
   refine xV (ay (v:= .pointer _) (q0 rfl)) rfl rfl ?_
   refine gN (k:=1) (i:=Tryz.t244) 3 ((⟨z.1,b,z.2.1,z.2.2⟩:BX)) v8 (by kernel_rfl) rfl rfl rfl rfl Tryz.sizeOf244 Tryz.zeroValue244 rfl rfl rfl rfl rfl rfl ⟨by simp only;omega,by decide⟩ rfl rfl λB0 A1 c1=>?_
   have hRl2:=hRl k2 hk2
   have hDl2:=hDl k2 hk2
   have htl2:(bs.map tot).length=k2:=by rw [aS,hbl]
   have hR1:=hRs k2 x.r hlk
   have hD1:=hDs k2 x.r hlk
   have htb:(bs++[(⟨z.1,b,z.2.1,z.2.2⟩:BX)]).map tot=bs.map tot++[b.total]:=by rw [eY,kh,E4,htot]
   refine xV (aU (v:= .slice _ _ _) (q0 rfl)) rfl rfl ?_
   refine XN ?_
   refine ad ?_
   refine jb (λw hw=>hw.pick [4,5,6,0,1,2,3,7,8,9,10,11,12] (by decide)) rfl ?_
   refine ke [19,20,21,97,98,99,100,101,102,103,104,105,106,107,108,109,110,111,112,113,114,115,116] (λs:(Option Addr×Nat)×(Option Addr×Nat)×(Option Addr×Nat)=>[(19, .slice s.1.1 (R k2++[x.r.rider]).length s.1.2),(20, .slice s.2.1.1 (D k2++[x.r.start.lo/86400]).length s.2.1.2),(21, .slice s.2.2.1 (bs.map tot++[b.total]).length s.2.2.2)]) (λs=>[eO s.1.1 s.1.2 (R k2++[x.r.rider]),eO s.2.1.1 s.2.1.2 (D k2++[x.r.start.lo/86400]),eO s.2.2.1 s.2.2.2 (bs.map tot++[b.total]),box z.1 248 (b.cells z.2.1 z.2.2),rz z.2.1 z.2.2 b.items,box b23 78 x.cells,Da A1 c1 (bs++[(⟨z.1,b,z.2.1,z.2.2⟩:BX)]),jK (bs.flatMap r5),eO (some ⟨zu,0,none⟩) m us,eI (some ⟨yb,0,none⟩) cc ys,box b7 46 [.slice V vn vc],box b5 28 (p.cells a),box b4 24 (f.cells fa)]) (λ_=>True) ?_ ?_
   ·refine Lj 3 rfl (by decide+kernel) ?_
    refine aV 0 (by decide+kernel) rfl (ay (v:= .slice _ _ _) (q0 rfl)) rfl ?_
    refine aV 1 (by decide+kernel) rfl (az bE rfl ae rfl (q0 rfl)) rfl ?_
    refine aV 2 (by decide+kernel) rfl (eL aj (q0 rfl)) rfl ?_
    refine aV 5 (by decide+kernel) rfl (ay (v:= .slice _ _ _) (q0 rfl)) rfl ?_
    refine aV 6 (by decide+kernel) rfl (az bE rfl cz rfl (q0 rfl)) rfl ?_
    refine aV 7 (by decide+kernel) rfl (az eJ rfl ae rfl (q0 rfl)) rfl ?_
    refine aV 8 (by decide+kernel) rfl (eL aj (q0 rfl)) rfl ?_
    refine aV 9 (by decide+kernel) rfl (wD (q0 rfl) (q0 rfl) (λ_=>⟨by omega,by omega,by omega⟩)) rfl ?_
    refine aV 12 (by decide+kernel) rfl (ay (v:= .slice _ _ _) (q0 rfl)) rfl ?_
    refine aV 13 (by decide+kernel) rfl (ay (v:= .pointer _) (q0 rfl)) rfl ?_
    refine aV 14 (by decide+kernel) rfl (Co (q0 rfl)) rfl ?_
    refine aV 15 (by decide+kernel) rfl (az nK rfl dx rfl (q0 rfl)) rfl ?_
    refine aV 16 (by decide+kernel) rfl (az ct rfl ae rfl (q0 rfl)) rfl ?_
    refine aV 17 (by decide+kernel) rfl (eL aj (q0 rfl)) rfl ?_
    refine ON (i:=3) (j:=10) (k:=18) (by decide+kernel) (au 3) ?_ ?_ ?_
    ·refine aL rfl (ey [(.int .i64 0)] aA ae bw rfl (by kernel_rfl) (pt (v:= .int _ _) rfl E.p0) rfl rfl λb100=>?_)
     refine ON (i:=4) (j:=10) (k:=18) (by decide+kernel) (au 4) ?_ ?_ ?_
     ·(first|refine aL rfl (gp 1 0 x.r.rider λA4 c4=>?_)|refine aL rfl (gp 2 0 x.r.rider λA4 c4=>?_)|refine aL rfl (gp 3 0 x.r.rider λA4 c4=>?_))
      refine lS (i:=10) (j:=18) (by decide+kernel) (au 4) ?_ ?_
      ·refine aL rfl (ey [(.int .i64 0)] aA ae bw rfl (by kernel_rfl) (pt (v:= .int _ _) rfl E.p0) rfl rfl λb107=>?_)
       refine aI 1 ?_
       refine lS (i:=11) (j:=18) (by decide+kernel) (au 5) ?_ ?_
       ·(first|refine aL rfl (gp 3 1 (x.r.start.lo/86400) λA11 c11=>?_)|refine aL rfl (gp 4 1 (x.r.start.lo/86400) λA11 c11=>?_))
        refine eu (i:=18) (by decide+kernel) (au 5) ?_
        refine aL rfl (ey [(.int .i64 0)] aA ae bw rfl (by kernel_rfl) (pt (v:= .int _ _) rfl E.p0) rfl rfl λb115=>?_)
        refine aI 2 ?_
        refine eu (i:=19) (by decide+kernel) (au 6) ?_
        refine aL rfl (gp 5 2 b.total λA19 c19=>?_)
        refine aV 20 (by decide+kernel) rfl (aU (v:= .slice _ _ _) (q0 rfl)) rfl ?_
        refine aV 21 (by decide+kernel) rfl (aU (v:= .slice _ _ _) (q0 rfl)) rfl ?_
        refine aV 22 (by decide+kernel) rfl (aU (v:= .slice _ _ _) (q0 rfl)) rfl ?_
        refine aZ (by decide+kernel) (au 6) ?_
        exact aO (((A4,c4),(A11,c11),(A19,c19)):(Option Addr×Nat)×(Option Addr×Nat)×(Option Addr×Nat)) (by repeat (first|exact aK|exact aN|refine a8 rfl ?_|refine aJ rfl ?_|refine aD rfl ?_)) ⟨rfl,rfl,rfl,trivial⟩ (λw hw=>hw.tail.tail.tail) rfl trivial
       refine aL rfl (ey [(.int .i64 0)] aA ae bw rfl (by kernel_rfl) (pt (v:= .int _ _) rfl E.p0) rfl rfl λb115=>?_)
       refine aI 2 ?_
       refine eu (i:=11) (by decide+kernel) (au 6) ?_
       (first|refine aL rfl (gp 3 1 (x.r.start.lo/86400) λA11 c11=>?_)|refine aL rfl (gp 4 1 (x.r.start.lo/86400) λA11 c11=>?_))
       refine eu (i:=19) (by decide+kernel) (au 6) ?_
       refine aL rfl (gp 5 2 b.total λA19 c19=>?_)
       refine aV 20 (by decide+kernel) rfl (aU (v:= .slice _ _ _) (q0 rfl)) rfl ?_
       refine aV 21 (by decide+kernel) rfl (aU (v:= .slice _ _ _) (q0 rfl)) rfl ?_
       refine aV 22 (by decide+kernel) rfl (aU (v:= .slice _ _ _) (q0 rfl)) rfl ?_
       refine aZ (by decide+kernel) (au 6) ?_
       exact aO (((A4,c4),(A11,c11),(A19,c19)):(Option Addr×Nat)×(Option Addr×Nat)×(Option Addr×Nat)) (by repeat (first|exact aK|exact aN|refine a8 rfl ?_|refine aJ rfl ?_|refine aD rfl ?_)) ⟨rfl,rfl,rfl,trivial⟩ (λw hw=>hw.tail.tail.tail) rfl trivial
      refine aL rfl (ey [(.int .i64 0)] aA ae bw rfl (by kernel_rfl) (pt (v:= .int _ _) rfl E.p0) rfl rfl λb115=>?_)
      refine aI 1 ?_
      refine eu (i:=10) (by decide+kernel) (au 5) ?_
      refine aL rfl (ey [(.int .i64 0)] aA ae bw rfl (by kernel_rfl) (pt (v:= .int _ _) rfl E.p0) rfl rfl λb107=>?_)
      refine aI 1 ?_
      refine eu (i:=11) (by decide+kernel) (au 6) ?_
      (first|refine aL rfl (gp 3 1 (x.r.start.lo/86400) λA11 c11=>?_)|refine aL rfl (gp 4 1 (x.r.start.lo/86400) λA11 c11=>?_))
      refine eu (i:=19) (by decide+kernel) (au 6) ?_
      refine aL rfl (gp 5 2 b.total λA19 c19=>?_)
      refine aV 20 (by decide+kernel) rfl (aU (v:= .slice _ _ _) (q0 rfl)) rfl ?_
      refine aV 21 (by decide+kernel) rfl (aU (v:= .slice _ _ _) (q0 rfl)) rfl ?_
      refine aV 22 (by decide+kernel) rfl (aU (v:= .slice _ _ _) (q0 rfl)) rfl ?_
      refine aZ (by decide+kernel) (au 6) ?_
      exact aO (((A4,c4),(A11,c11),(A19,c19)):(Option Addr×Nat)×(Option Addr×Nat)×(Option Addr×Nat)) (by repeat (first|exact aK|exact aN|refine a8 rfl ?_|refine aJ rfl ?_|refine aD rfl ?_)) ⟨rfl,rfl,rfl,trivial⟩ (λw hw=>hw.tail.tail.tail) rfl trivial
     ·refine aL rfl (ey [(.int .i64 0)] aA ae bw rfl (by kernel_rfl) (pt (v:= .int _ _) rfl E.p0) rfl rfl λb107=>?_)
      refine aI 1 ?_
      refine lS (i:=4) (j:=18) (by decide+kernel) (au 5) ?_ ?_
      ·(first|refine aL rfl (gp 1 0 x.r.rider λA4 c4=>?_)|refine aL rfl (gp 2 0 x.r.rider λA4 c4=>?_)|refine aL rfl (gp 3 0 x.r.rider λA4 c4=>?_))
       refine lS (i:=11) (j:=18) (by decide+kernel) (au 5) ?_ ?_
       ·(first|refine aL rfl (gp 3 1 (x.r.start.lo/86400) λA11 c11=>?_)|refine aL rfl (gp 4 1 (x.r.start.lo/86400) λA11 c11=>?_))
        refine eu (i:=18) (by decide+kernel) (au 5) ?_
        refine aL rfl (ey [(.int .i64 0)] aA ae bw rfl (by kernel_rfl) (pt (v:= .int _ _) rfl E.p0) rfl rfl λb115=>?_)
        refine aI 2 ?_
        refine eu (i:=19) (by decide+kernel) (au 6) ?_
        refine aL rfl (gp 5 2 b.total λA19 c19=>?_)
        refine aV 20 (by decide+kernel) rfl (aU (v:= .slice _ _ _) (q0 rfl)) rfl ?_
        refine aV 21 (by decide+kernel) rfl (aU (v:= .slice _ _ _) (q0 rfl)) rfl ?_
        refine aV 22 (by decide+kernel) rfl (aU (v:= .slice _ _ _) (q0 rfl)) rfl ?_
        refine aZ (by decide+kernel) (au 6) ?_
        exact aO (((A4,c4),(A11,c11),(A19,c19)):(Option Addr×Nat)×(Option Addr×Nat)×(Option Addr×Nat)) (by repeat (first|exact aK|exact aN|refine a8 rfl ?_|refine aJ rfl ?_|refine aD rfl ?_)) ⟨rfl,rfl,rfl,trivial⟩ (λw hw=>hw.tail.tail.tail) rfl trivial
       refine aL rfl (ey [(.int .i64 0)] aA ae bw rfl (by kernel_rfl) (pt (v:= .int _ _) rfl E.p0) rfl rfl λb115=>?_)
       refine aI 2 ?_
       refine eu (i:=11) (by decide+kernel) (au 6) ?_
       (first|refine aL rfl (gp 3 1 (x.r.start.lo/86400) λA11 c11=>?_)|refine aL rfl (gp 4 1 (x.r.start.lo/86400) λA11 c11=>?_))
       refine eu (i:=19) (by decide+kernel) (au 6) ?_
       refine aL rfl (gp 5 2 b.total λA19 c19=>?_)
       refine aV 20 (by decide+kernel) rfl (aU (v:= .slice _ _ _) (q0 rfl)) rfl ?_
       refine aV 21 (by decide+kernel) rfl (aU (v:= .slice _ _ _) (q0 rfl)) rfl ?_
       refine aV 22 (by decide+kernel) rfl (aU (v:= .slice _ _ _) (q0 rfl)) rfl ?_
       refine aZ (by decide+kernel) (au 6) ?_
       exact aO (((A4,c4),(A11,c11),(A19,c19)):(Option Addr×Nat)×(Option Addr×Nat)×(Option Addr×Nat)) (by repeat (first|exact aK|exact aN|refine a8 rfl ?_|refine aJ rfl ?_|refine aD rfl ?_)) ⟨rfl,rfl,rfl,trivial⟩ (λw hw=>hw.tail.tail.tail) rfl trivial
      refine aL rfl (ey [(.int .i64 0)] aA ae bw rfl (by kernel_rfl) (pt (v:= .int _ _) rfl E.p0) rfl rfl λb115=>?_)
      refine aI 2 ?_
      refine eu (i:=4) (by decide+kernel) (au 6) ?_
      (first|refine aL rfl (gp 1 0 x.r.rider λA4 c4=>?_)|refine aL rfl (gp 2 0 x.r.rider λA4 c4=>?_)|refine aL rfl (gp 3 0 x.r.rider λA4 c4=>?_))
      refine eu (i:=11) (by decide+kernel) (au 6) ?_
      (first|refine aL rfl (gp 3 1 (x.r.start.lo/86400) λA11 c11=>?_)|refine aL rfl (gp 4 1 (x.r.start.lo/86400) λA11 c11=>?_))
      refine eu (i:=19) (by decide+kernel) (au 6) ?_
      refine aL rfl (gp 5 2 b.total λA19 c19=>?_)
      refine aV 20 (by decide+kernel) rfl (aU (v:= .slice _ _ _) (q0 rfl)) rfl ?_
      refine aV 21 (by decide+kernel) rfl (aU (v:= .slice _ _ _) (q0 rfl)) rfl ?_
      refine aV 22 (by decide+kernel) rfl (aU (v:= .slice _ _ _) (q0 rfl)) rfl ?_
      refine aZ (by decide+kernel) (au 6) ?_
      exact aO (((A4,c4),(A11,c11),(A19,c19)):(Option Addr×Nat)×(Option Addr×Nat)×(Option Addr×Nat)) (by repeat (first|exact aK|exact aN|refine a8 rfl ?_|refine aJ rfl ?_|refine aD rfl ?_)) ⟨rfl,rfl,rfl,trivial⟩ (λw hw=>hw.tail.tail.tail) rfl trivial
     refine aL rfl (ey [(.int .i64 0)] aA ae bw rfl (by kernel_rfl) (pt (v:= .int _ _) rfl E.p0) rfl rfl λb115=>?_)
     refine aI 1 ?_
     refine lS (i:=4) (j:=10) (by decide+kernel) (au 5) ?_ ?_
     ·(first|refine aL rfl (gp 1 0 x.r.rider λA4 c4=>?_)|refine aL rfl (gp 2 0 x.r.rider λA4 c4=>?_)|refine aL rfl (gp 3 0 x.r.rider λA4 c4=>?_))
      refine eu (i:=10) (by decide+kernel) (au 5) ?_
      refine aL rfl (ey [(.int .i64 0)] aA ae bw rfl (by kernel_rfl) (pt (v:= .int _ _) rfl E.p0) rfl rfl λb107=>?_)
      refine aI 1 ?_
      refine eu (i:=11) (by decide+kernel) (au 6) ?_
      (first|refine aL rfl (gp 3 1 (x.r.start.lo/86400) λA11 c11=>?_)|refine aL rfl (gp 4 1 (x.r.start.lo/86400) λA11 c11=>?_))
      refine eu (i:=19) (by decide+kernel) (au 6) ?_
      refine aL rfl (gp 5 2 b.total λA19 c19=>?_)
      refine aV 20 (by decide+kernel) rfl (aU (v:= .slice _ _ _) (q0 rfl)) rfl ?_
      refine aV 21 (by decide+kernel) rfl (aU (v:= .slice _ _ _) (q0 rfl)) rfl ?_
      refine aV 22 (by decide+kernel) rfl (aU (v:= .slice _ _ _) (q0 rfl)) rfl ?_
      refine aZ (by decide+kernel) (au 6) ?_
      exact aO (((A4,c4),(A11,c11),(A19,c19)):(Option Addr×Nat)×(Option Addr×Nat)×(Option Addr×Nat)) (by repeat (first|exact aK|exact aN|refine a8 rfl ?_|refine aJ rfl ?_|refine aD rfl ?_)) ⟨rfl,rfl,rfl,trivial⟩ (λw hw=>hw.tail.tail.tail) rfl trivial
     refine aL rfl (ey [(.int .i64 0)] aA ae bw rfl (by kernel_rfl) (pt (v:= .int _ _) rfl E.p0) rfl rfl λb107=>?_)
     refine aI 1 ?_
     refine eu (i:=4) (by decide+kernel) (au 6) ?_
     (first|refine aL rfl (gp 1 0 x.r.rider λA4 c4=>?_)|refine aL rfl (gp 2 0 x.r.rider λA4 c4=>?_)|refine aL rfl (gp 3 0 x.r.rider λA4 c4=>?_))
     refine eu (i:=11) (by decide+kernel) (au 6) ?_
     (first|refine aL rfl (gp 3 1 (x.r.start.lo/86400) λA11 c11=>?_)|refine aL rfl (gp 4 1 (x.r.start.lo/86400) λA11 c11=>?_))
     refine eu (i:=19) (by decide+kernel) (au 6) ?_
     refine aL rfl (gp 5 2 b.total λA19 c19=>?_)
     refine aV 20 (by decide+kernel) rfl (aU (v:= .slice _ _ _) (q0 rfl)) rfl ?_
     refine aV 21 (by decide+kernel) rfl (aU (v:= .slice _ _ _) (q0 rfl)) rfl ?_
     refine aV 22 (by decide+kernel) rfl (aU (v:= .slice _ _ _) (q0 rfl)) rfl ?_
     refine aZ (by decide+kernel) (au 6) ?_
     exact aO (((A4,c4),(A11,c11),(A19,c19)):(Option Addr×Nat)×(Option Addr×Nat)×(Option Addr×Nat)) (by repeat (first|exact aK|exact aN|refine a8 rfl ?_|refine aJ rfl ?_|refine aD rfl ?_)) ⟨rfl,rfl,rfl,trivial⟩ (λw hw=>hw.tail.tail.tail) rfl trivial
    ·refine aL rfl (ey [(.int .i64 0)] aA ae bw rfl (by kernel_rfl) (pt (v:= .int _ _) rfl E.p0) rfl rfl λb107=>?_)
     refine lS (i:=3) (j:=18) (by decide+kernel) (au 4) ?_ ?_
     ·refine aL rfl (ey [(.int .i64 0)] aA ae bw rfl (by kernel_rfl) (pt (v:= .int _ _) rfl E.p0) rfl rfl λb100=>?_)
      refine lS (i:=4) (j:=18) (by decide+kernel) (au 5) ?_ ?_
      ·(first|refine aL rfl (gp 1 0 x.r.rider λA4 c4=>?_)|refine aL rfl (gp 2 0 x.r.rider λA4 c4=>?_)|refine aL rfl (gp 3 0 x.r.rider λA4 c4=>?_))
       refine lS (i:=11) (j:=18) (by decide+kernel) (au 5) ?_ ?_
       ·(first|refine aL rfl (gp 3 1 (x.r.start.lo/86400) λA11 c11=>?_)|refine aL rfl (gp 4 1 (x.r.start.lo/86400) λA11 c11=>?_))
        refine eu (i:=18) (by decide+kernel) (au 5) ?_
        refine aL rfl (ey [(.int .i64 0)] aA ae bw rfl (by kernel_rfl) (pt (v:= .int _ _) rfl E.p0) rfl rfl λb115=>?_)
        refine aI 2 ?_
        refine eu (i:=19) (by decide+kernel) (au 6) ?_
        refine aL rfl (gp 5 2 b.total λA19 c19=>?_)
        refine aV 20 (by decide+kernel) rfl (aU (v:= .slice _ _ _) (q0 rfl)) rfl ?_
        refine aV 21 (by decide+kernel) rfl (aU (v:= .slice _ _ _) (q0 rfl)) rfl ?_
        refine aV 22 (by decide+kernel) rfl (aU (v:= .slice _ _ _) (q0 rfl)) rfl ?_
        refine aZ (by decide+kernel) (au 6) ?_
        exact aO (((A4,c4),(A11,c11),(A19,c19)):(Option Addr×Nat)×(Option Addr×Nat)×(Option Addr×Nat)) (by repeat (first|exact aK|exact aN|refine a8 rfl ?_|refine aJ rfl ?_|refine aD rfl ?_)) ⟨rfl,rfl,rfl,trivial⟩ (λw hw=>hw.tail.tail.tail) rfl trivial
       refine aL rfl (ey [(.int .i64 0)] aA ae bw rfl (by kernel_rfl) (pt (v:= .int _ _) rfl E.p0) rfl rfl λb115=>?_)
       refine aI 2 ?_
       refine eu (i:=11) (by decide+kernel) (au 6) ?_
       (first|refine aL rfl (gp 3 1 (x.r.start.lo/86400) λA11 c11=>?_)|refine aL rfl (gp 4 1 (x.r.start.lo/86400) λA11 c11=>?_))
       refine eu (i:=19) (by decide+kernel) (au 6) ?_
       refine aL rfl (gp 5 2 b.total λA19 c19=>?_)
       refine aV 20 (by decide+kernel) rfl (aU (v:= .slice _ _ _) (q0 rfl)) rfl ?_
       refine aV 21 (by decide+kernel) rfl (aU (v:= .slice _ _ _) (q0 rfl)) rfl ?_
       refine aV 22 (by decide+kernel) rfl (aU (v:= .slice _ _ _) (q0 rfl)) rfl ?_
       refine aZ (by decide+kernel) (au 6) ?_
       exact aO (((A4,c4),(A11,c11),(A19,c19)):(Option Addr×Nat)×(Option Addr×Nat)×(Option Addr×Nat)) (by repeat (first|exact aK|exact aN|refine a8 rfl ?_|refine aJ rfl ?_|refine aD rfl ?_)) ⟨rfl,rfl,rfl,trivial⟩ (λw hw=>hw.tail.tail.tail) rfl trivial
      refine aL rfl (ey [(.int .i64 0)] aA ae bw rfl (by kernel_rfl) (pt (v:= .int _ _) rfl E.p0) rfl rfl λb115=>?_)
      refine aI 2 ?_
      refine eu (i:=4) (by decide+kernel) (au 6) ?_
      (first|refine aL rfl (gp 1 0 x.r.rider λA4 c4=>?_)|refine aL rfl (gp 2 0 x.r.rider λA4 c4=>?_)|refine aL rfl (gp 3 0 x.r.rider λA4 c4=>?_))
      refine eu (i:=11) (by decide+kernel) (au 6) ?_
      (first|refine aL rfl (gp 3 1 (x.r.start.lo/86400) λA11 c11=>?_)|refine aL rfl (gp 4 1 (x.r.start.lo/86400) λA11 c11=>?_))
      refine eu (i:=19) (by decide+kernel) (au 6) ?_
      refine aL rfl (gp 5 2 b.total λA19 c19=>?_)
      refine aV 20 (by decide+kernel) rfl (aU (v:= .slice _ _ _) (q0 rfl)) rfl ?_
      refine aV 21 (by decide+kernel) rfl (aU (v:= .slice _ _ _) (q0 rfl)) rfl ?_
      refine aV 22 (by decide+kernel) rfl (aU (v:= .slice _ _ _) (q0 rfl)) rfl ?_
      refine aZ (by decide+kernel) (au 6) ?_
      exact aO (((A4,c4),(A11,c11),(A19,c19)):(Option Addr×Nat)×(Option Addr×Nat)×(Option Addr×Nat)) (by repeat (first|exact aK|exact aN|refine a8 rfl ?_|refine aJ rfl ?_|refine aD rfl ?_)) ⟨rfl,rfl,rfl,trivial⟩ (λw hw=>hw.tail.tail.tail) rfl trivial
     refine aL rfl (ey [(.int .i64 0)] aA ae bw rfl (by kernel_rfl) (pt (v:= .int _ _) rfl E.p0) rfl rfl λb115=>?_)
     refine aI 1 ?_
     refine eu (i:=3) (by decide+kernel) (au 5) ?_
     refine aL rfl (ey [(.int .i64 0)] aA ae bw rfl (by kernel_rfl) (pt (v:= .int _ _) rfl E.p0) rfl rfl λb100=>?_)
     refine eu (i:=4) (by decide+kernel) (au 6) ?_
     (first|refine aL rfl (gp 1 0 x.r.rider λA4 c4=>?_)|refine aL rfl (gp 2 0 x.r.rider λA4 c4=>?_)|refine aL rfl (gp 3 0 x.r.rider λA4 c4=>?_))
     refine eu (i:=11) (by decide+kernel) (au 6) ?_
     (first|refine aL rfl (gp 3 1 (x.r.start.lo/86400) λA11 c11=>?_)|refine aL rfl (gp 4 1 (x.r.start.lo/86400) λA11 c11=>?_))
     refine eu (i:=19) (by decide+kernel) (au 6) ?_
     refine aL rfl (gp 5 2 b.total λA19 c19=>?_)
     refine aV 20 (by decide+kernel) rfl (aU (v:= .slice _ _ _) (q0 rfl)) rfl ?_
     refine aV 21 (by decide+kernel) rfl (aU (v:= .slice _ _ _) (q0 rfl)) rfl ?_
     refine aV 22 (by decide+kernel) rfl (aU (v:= .slice _ _ _) (q0 rfl)) rfl ?_
     refine aZ (by decide+kernel) (au 6) ?_
     exact aO (((A4,c4),(A11,c11),(A19,c19)):(Option Addr×Nat)×(Option Addr×Nat)×(Option Addr×Nat)) (by repeat (first|exact aK|exact aN|refine a8 rfl ?_|refine aJ rfl ?_|refine aD rfl ?_)) ⟨rfl,rfl,rfl,trivial⟩ (λw hw=>hw.tail.tail.tail) rfl trivial
    refine aL rfl (ey [(.int .i64 0)] aA ae bw rfl (by kernel_rfl) (pt (v:= .int _ _) rfl E.p0) rfl rfl λb115=>?_)
    refine lS (i:=3) (j:=10) (by decide+kernel) (au 4) ?_ ?_
    ·refine aL rfl (ey [(.int .i64 0)] aA ae bw rfl (by kernel_rfl) (pt (v:= .int _ _) rfl E.p0) rfl rfl λb100=>?_)
     refine lS (i:=4) (j:=10) (by decide+kernel) (au 5) ?_ ?_
     ·(first|refine aL rfl (gp 1 0 x.r.rider λA4 c4=>?_)|refine aL rfl (gp 2 0 x.r.rider λA4 c4=>?_)|refine aL rfl (gp 3 0 x.r.rider λA4 c4=>?_))
      refine eu (i:=10) (by decide+kernel) (au 5) ?_
      refine aL rfl (ey [(.int .i64 0)] aA ae bw rfl (by kernel_rfl) (pt (v:= .int _ _) rfl E.p0) rfl rfl λb107=>?_)
      refine aI 1 ?_
      refine eu (i:=11) (by decide+kernel) (au 6) ?_
      (first|refine aL rfl (gp 3 1 (x.r.start.lo/86400) λA11 c11=>?_)|refine aL rfl (gp 4 1 (x.r.start.lo/86400) λA11 c11=>?_))
      refine eu (i:=19) (by decide+kernel) (au 6) ?_
      refine aL rfl (gp 5 2 b.total λA19 c19=>?_)
      refine aV 20 (by decide+kernel) rfl (aU (v:= .slice _ _ _) (q0 rfl)) rfl ?_
      refine aV 21 (by decide+kernel) rfl (aU (v:= .slice _ _ _) (q0 rfl)) rfl ?_
      refine aV 22 (by decide+kernel) rfl (aU (v:= .slice _ _ _) (q0 rfl)) rfl ?_
      refine aZ (by decide+kernel) (au 6) ?_
      exact aO (((A4,c4),(A11,c11),(A19,c19)):(Option Addr×Nat)×(Option Addr×Nat)×(Option Addr×Nat)) (by repeat (first|exact aK|exact aN|refine a8 rfl ?_|refine aJ rfl ?_|refine aD rfl ?_)) ⟨rfl,rfl,rfl,trivial⟩ (λw hw=>hw.tail.tail.tail) rfl trivial
     refine aL rfl (ey [(.int .i64 0)] aA ae bw rfl (by kernel_rfl) (pt (v:= .int _ _) rfl E.p0) rfl rfl λb107=>?_)
     refine aI 1 ?_
     refine eu (i:=4) (by decide+kernel) (au 6) ?_
     (first|refine aL rfl (gp 1 0 x.r.rider λA4 c4=>?_)|refine aL rfl (gp 2 0 x.r.rider λA4 c4=>?_)|refine aL rfl (gp 3 0 x.r.rider λA4 c4=>?_))
     refine eu (i:=11) (by decide+kernel) (au 6) ?_
     (first|refine aL rfl (gp 3 1 (x.r.start.lo/86400) λA11 c11=>?_)|refine aL rfl (gp 4 1 (x.r.start.lo/86400) λA11 c11=>?_))
     refine eu (i:=19) (by decide+kernel) (au 6) ?_
     refine aL rfl (gp 5 2 b.total λA19 c19=>?_)
     refine aV 20 (by decide+kernel) rfl (aU (v:= .slice _ _ _) (q0 rfl)) rfl ?_
     refine aV 21 (by decide+kernel) rfl (aU (v:= .slice _ _ _) (q0 rfl)) rfl ?_
     refine aV 22 (by decide+kernel) rfl (aU (v:= .slice _ _ _) (q0 rfl)) rfl ?_
     refine aZ (by decide+kernel) (au 6) ?_
     exact aO (((A4,c4),(A11,c11),(A19,c19)):(Option Addr×Nat)×(Option Addr×Nat)×(Option Addr×Nat)) (by repeat (first|exact aK|exact aN|refine a8 rfl ?_|refine aJ rfl ?_|refine aD rfl ?_)) ⟨rfl,rfl,rfl,trivial⟩ (λw hw=>hw.tail.tail.tail) rfl trivial
    refine aL rfl (ey [(.int .i64 0)] aA ae bw rfl (by kernel_rfl) (pt (v:= .int _ _) rfl E.p0) rfl rfl λb107=>?_)
    refine eu (i:=3) (by decide+kernel) (au 5) ?_
    refine aL rfl (ey [(.int .i64 0)] aA ae bw rfl (by kernel_rfl) (pt (v:= .int _ _) rfl E.p0) rfl rfl λb100=>?_)
    refine eu (i:=4) (by decide+kernel) (au 6) ?_
    (first|refine aL rfl (gp 1 0 x.r.rider λA4 c4=>?_)|refine aL rfl (gp 2 0 x.r.rider λA4 c4=>?_)|refine aL rfl (gp 3 0 x.r.rider λA4 c4=>?_))
    refine eu (i:=11) (by decide+kernel) (au 6) ?_
    (first|refine aL rfl (gp 3 1 (x.r.start.lo/86400) λA11 c11=>?_)|refine aL rfl (gp 4 1 (x.r.start.lo/86400) λA11 c11=>?_))
    refine eu (i:=19) (by decide+kernel) (au 6) ?_
    refine aL rfl (gp 5 2 b.total λA19 c19=>?_)
    refine aV 20 (by decide+kernel) rfl (aU (v:= .slice _ _ _) (q0 rfl)) rfl ?_
    refine aV 21 (by decide+kernel) rfl (aU (v:= .slice _ _ _) (q0 rfl)) rfl ?_
    refine aV 22 (by decide+kernel) rfl (aU (v:= .slice _ _ _) (q0 rfl)) rfl ?_
    refine aZ (by decide+kernel) (au 6) ?_
    exact aO (((A4,c4),(A11,c11),(A19,c19)):(Option Addr×Nat)×(Option Addr×Nat)×(Option Addr×Nat)) (by repeat (first|exact aK|exact aN|refine a8 rfl ?_|refine aJ rfl ?_|refine aD rfl ?_)) ⟨rfl,rfl,rfl,trivial⟩ (λw hw=>hw.tail.tail.tail) rfl trivial
   rintro ⟨⟨rA2,rc2⟩,⟨dA2,dc2⟩,⟨sA2,sc2⟩⟩ g5 _
   refine bc ?_
   refine ad ?_
   refine R0 ?_
   refine xV (eT (q0 rfl) (q0 rfl) (λ_=>⟨rfl,by omega,by omega⟩)) rfl rfl ?_
   refine xV (ay (v:= .int _ _) (q0 rfl)) rfl rfl ?_
   refine XN ?_
   exact aH (k2+1,bs++[(⟨z.1,b,z.2.1,z.2.2⟩:BX)],(A1,c1),(rA2,rc2),(dA2,dc2),(sA2,sc2)) (by repeat (first|exact aK|exact aN|refine a8 rfl ?_|refine aJ rfl ?_|refine aD rfl ?_)) ⟨rfl,rfl,by rw [hR1];rfl,by rw [hD1];rfl,by rw [htb];rfl,trivial⟩ (λw hw=>by
    rw [hR1,hD1,htb]
    exact (Mem.Eb (f:=r5) (y:=(⟨z.1,b,z.2.1,z.2.2⟩:BX)) (xs:=bs) (hw.pick [3,4,7,6,0,1,2,8,9,10,11,12] (by decide))).pick [1,2,3,4,0,5,6,7,8,9] (by decide)) rfl ⟨by show k2+1<=m;omega,by rw [hFSs];unfold wU;simp only [hfp,eY,kh,E4]⟩ (by show m -(k2+1)<m -k2;omega)
 have hend:k2=m:=by simp at hlt2;omega
 subst hend
 have hrich:K7 l (bs.map (·.b)):=IN h1' hlg (husm.trans hlm.symm) (by rw [hlm];exact hFS)
 have hfsA:zY p (l.zip us)=some (bs.map (·.b)):=by rw [<-NZ (k:=k2) (by omega)];exact hFS
 have hRl2:=hRl k2 (bA _)
 have hDl2:=hDl k2 (bA _)
 have htl2:(bs.map tot).length=k2:=by rw [aS,hbl]
 have hRm:R k2=l.map (·.rider):=by rw [hRd,<-hlm,dQ]
 have hDm:D k2=l.map λr=>r.start.lo/86400:=by rw [hDd,<-hlm,dQ]
 have hSm:bs.map tot=(bs.map (·.b)).map (·.total):=by rw [jH];exact List.map_congr_left λx _=>htot x
 obtain ⟨pd,hpd⟩: ∃pd,pd=qa p l (bs.map (·.b)):=⟨_,rfl⟩
 have hpdl:pd.length=k2:=by rw [hpd,BR hrich.len,aS,hbl]
 have hApp: ∀(w':World),eG w' 1 eQ rA (R k2).length (R k2)->eG w' 1 eQ dA (D k2).length (D k2)->eG w' 1 eQ sA (bs.map tot).length (bs.map tot)->Calls Tryz.prog 121 #[.int .i64 p.cap, .slice rA k2 rc, .slice dA k2 dc, .slice sA k2 sc] w' λe w''=> ∃z:Option Addr×Nat,e= .returned (.tuple #[.slice z.1 pd.length z.2, .int .i64 0])/\Mem w' [eO z.1 z.2 pd] w'':=λw' s1 s2 s3=>by
  rw [hRl2] at s1
  rw [hDl2] at s2
  rw [htl2] at s3
  have h:=Nr p.cap rA rc dA dc sA sc k2 ((l.zip (bs.map (·.b))).map ur) w' ⟨by rw [Nj hrich.len,<-hRm];exact s1,by rw [RL hrich.len,<-hDm];exact s2,by rw [KT hrich.len,<-hSm];exact s3⟩ (Nk h1' hlg hrich)
  rw [show (CR p.cap ((l.zip (bs.map (·.b))).map ur)).map (·.2)=pd from hpd.symm] at h
  exact h
 rw [hRl2,hDl2,htl2]
 refine fz ?_
 refine cJ ?_
 refine cM ?_
 refine cK ?_
 refine ad ?_
 refine ak ?_
 refine R0 ?_
 refine xV (az fD rfl ae rfl (q0 rfl)) rfl rfl ?_
 refine xV (eL aj (q0 rfl)) rfl rfl ?_
 refine xV (ay (v:= .slice _ _ _) (q0 rfl)) rfl rfl ?_
 refine xV (ay (v:= .slice _ _ _) (q0 rfl)) rfl rfl ?_
 refine xV (ay (v:= .slice _ _ _) (q0 rfl)) rfl rfl ?_
 refine oD (en Tryz.call121 (Gf (q0 rfl) (q0 rfl) (q0 rfl) (q0 rfl))) (λw hw=>hApp w (fB hw (j:=1) rfl (λ_=>rfl) (by omega)) (fB hw (j:=2) rfl (λ_=>rfl) (by omega)) (fB hw (j:=3) rfl (λ_=>rfl) (by omega))) rfl (λ_=>rfl) λdz=>?_
 obtain ⟨qA,qc⟩:=dz
 refine xV (ay (q0 rfl)) rfl rfl ?_
 refine xV (iW (q0 rfl) rfl) rfl rfl ?_
 refine xV (iW (q0 rfl) rfl) rfl rfl ?_
 refine xV (aU (v:= .slice _ _ _) (q0 rfl)) rfl rfl ?_
 refine xV (aU (v:= .int _ _) (q0 rfl)) rfl rfl ?_
 refine XN ?_
 refine ad ?_
 refine ak ?_
 refine ak ?_
 refine R0 ?_
 refine xV (ay (v:= .int _ _) (q0 rfl)) rfl rfl ?_
 refine xV (ki (q0 rfl) (q0 rfl)) rfl rfl ?_
 refine XN ?_
 refine ad ?_
 refine bD rfl (λh6=>?_) (λh6=>?_)
 ·exfalso;simp at h6
 obtain ⟨Z,hZ⟩: ∃Z,Z=(bs.map (·.b)).zip pd:=⟨_,rfl⟩
 have hZl:Z.length=k2:=by rw [hZ,xg,aS];omega
 refine bZ ?_
 refine ad ?_
 refine ak ?_
 refine R0 ?_
 refine xV AA rfl rfl ?_
 refine xV (aU (q0 rfl)) rfl rfl ?_
 refine XN ?_
 refine ad ?_
 refine ak ?_
 refine R0 ?_
 refine xV (ay (v:= .slice _ _ _) (q0 rfl)) rfl rfl ?_
 refine xV (dw v8 (q0 rfl)) rfl rfl ?_
 refine cQ (kz (i:=Tryz.t81) (k:=4) (n:=0) (m:=bs.length) FX.cells (⟨⟨0,0,[],0⟩,none,0⟩:FX) cj (by kernel_rfl) rfl rfl rfl rfl rfl ⟨⟨bj _,by omega⟩,by decide⟩ rfl λb133=>?_)
 refine xV (aU (v:= .slice _ _ _) (q0 rfl)) rfl rfl ?_
 refine XN ?_
 refine ad ?_
 refine ak ?_
 refine ak ?_
 refine jb (L':=[kE (some ⟨b133,0,none⟩) bs.length [],jK (([]:List FX).flatMap jD),jK (bs.flatMap r5),eO qA qc pd,Da pA pc bs,eO sA sc (bs.map tot),box b7 46 [.slice V vn vc],box b5 28 (p.cells a),box b4 24 (f.cells fa)]) (λw hw=>((hw.pick [0,6,1,2,5,9,10,11] (by decide)).BT (f:=jD)).pick [1,0,2,3,4,5,6,7,8] (by decide)) rfl ?_
 refine R0 ?_
 refine xV (ay (v:= .slice _ _ _) (q0 rfl)) rfl rfl ?_
 refine xV (dw v8 (q0 rfl)) rfl rfl ?_
 refine xV (ay (v:= .int _ _) (q0 rfl)) rfl rfl ?_
 refine XN ?_
 refine ad ?_
 refine cq ?_
 refine ef [8,9,28,29,30,136,137,138,139,140,141,142,143,144,145,146,147,148,149,150,151,152,153,154,155,156,157,158,159,160,161,162,163,164,165,166,167,168] (λs:Nat×List FX×(Option Addr×Nat)=>[(136, .int .i64 s.1),(28, .slice s.2.2.1 s.2.1.length s.2.2.2)]) (λs=>[kE s.2.2.1 s.2.2.2 s.2.1,jK (s.2.1.flatMap jD),jK ((bs.drop s.1).flatMap r5),eO qA qc pd,Da pA pc bs,eO sA sc (bs.map tot),box b7 46 [.slice V vn vc],box b5 28 (p.cells a),box b4 24 (f.cells fa)]) (λs=>s.1<=k2/\FN p vs Z s.1=some (s.2.1.map (·.b))) (λs=>k2 -s.1) (0,[],(some ⟨b133,0,none⟩,bs.length)) ⟨rfl,rfl,trivial⟩ (λw hw=>hw) rfl ⟨bj _,by unfold FN;rfl⟩ ?_
 rintro ⟨k3,fs,⟨fA,fc⟩⟩ g3 ⟨hk3,hFN⟩
 simp only at hk3 hFN
 have hfl:fs.length=k3:=by
  have h:=aP List.length (ye (by omega) hFN)
  rw [aS,aS,dG] at h
  omega
 refine ak ?_
 refine R0 ?_
 refine xV (gK (q0 rfl) (q0 rfl)) rfl rfl ?_
 refine XN ?_
 refine ad ?_
 refine ak ?_
 refine bD rfl (λhlt3=>?_) (λhlt3=>?_)
 ·have hlt3':k3<k2:=by first|(simp at hlt3;omega)|omega
  obtain ⟨bk,hbk⟩: ∃bk,bs[k3]?=some bk:=⟨_,ah (by omega)⟩
  obtain ⟨pv,hpk⟩: ∃pv,pd[k3]?=some pv:=⟨_,ah (by omega)⟩
  obtain ⟨lr,hlk⟩: ∃lr,l[k3]?=some lr:=⟨_,ah (by omega)⟩
  have hBk:(bs.map (·.b))[k3]?=some bk.b:=by simp [hbk]
  have hSk:(bs.map tot)[k3]?=some bk.b.total:=by simp [hbk,htot]
  have hrr:=hrich.bn k3 bk.b lr hBk hlk
  have hpr:0<=pv/\pv<=1000000000000:=by
   have h:=aq hpk
   rw [hpd] at h
   exact HO h1' hrich h
  have hZk:Z[k3]?=some (bk.b,pv):=by rw [hZ];exact DJ hBk hpk
  have hFNs:=EW (p:=p) (vs:=vs) hZk
  rw [hFN] at hFNs
  obtain ⟨b1,hb1⟩: ∃b1,b1=mD bk.b 6 0 (pv -bk.b.total):=⟨_,rfl⟩
  have hb1t:b1.total=pv:=by rw [hb1,mC];omega
  have hb1l:b1.items.length<=6:=by have:=kQ bk.b 6 0 (pv -bk.b.total);rw [<-hb1] at this;omega
  have hfb:uV p vs bk.b (pv -bk.b.total)=wC p vs b1 b1.bn:=by rw [hb1];exact Pk p vs bk.b (pv -bk.b.total)
  refine gM (λw hw=>fG (j:=4) hw rfl (by omega)) λ⟨pb,hpb⟩=>?_
  subst hpb
  refine gM (λw hw=>fG (j:=3) hw rfl (by omega)) λ⟨qb,hqb⟩=>?_
  subst hqb
  refine gM (λw hw=>fG (j:=5) hw rfl (by omega)) λ⟨sb,hsb⟩=>?_
  subst hsb
  refine bZ ?_
  refine ad ?_
  refine ak ?_
  refine cq ?_
  refine ak ?_
  refine R0 ?_
  refine xV (ay (v:= .int _ _) (q0 rfl)) rfl rfl ?_
  refine xV (cx k3 v8 Tryz.sizeOf244 (q0 rfl) (q0 rfl) (λ_=>⟨rfl,by simp only;omega⟩)) rfl rfl ?_
  refine xV (gB (v:= .pointer (some ⟨bk.q,0,none⟩)) Tryz.isAgg244 (q0 rfl) (by exact rQ 4 (enc:=BX.ptr) rfl hbk rfl)) rfl rfl ?_
  refine xV (aU (v:= .int _ _) (q0 rfl)) rfl rfl ?_
  refine xV (aU (v:= .pointer _) (q0 rfl)) rfl rfl ?_
  refine XN ?_
  refine ad ?_
  refine ak ?_
  refine jb (L':=[box bk.q 248 (bk.b.cells bk.A bk.c),rz bk.A bk.c bk.b.items,eO (some ⟨qb,0,none⟩) qc pd,eO (some ⟨sb,0,none⟩) sc (bs.map tot),jK ((bs.drop (k3+1)).flatMap r5),kE fA fc fs,jK (fs.flatMap jD),Da (some ⟨pb,0,none⟩) pc bs,box b7 46 [.slice V vn vc],box b5 28 (p.cells a),box b4 24 (f.cells fa)]) (λw hw=>by
   rw [tT hbk] at hw
   exact (Mem.apart (f:=r5) (xs:=bk::bs.drop (k3+1)) (k:=0) (x:=bk) (hw.pick [2,0,1,3,4,5,6,7,8] (by decide)) rfl).pick [0,1,5,7,2,3,4,6,8,9,10] (by decide)) rfl ?_
  refine Lj 2 rfl (by decide+kernel) ?_
  refine aV 0 (by decide+kernel) rfl (ay (v:= .pointer _) (q0 rfl)) rfl ?_
  refine aV 1 (by decide+kernel) rfl (ay (v:= .slice _ _ _) (q0 rfl)) rfl ?_
  refine aV 2 (by decide+kernel) rfl (ay (v:= .int _ _) (q0 rfl)) rfl ?_
  refine aV 3 (by decide+kernel) rfl (cx k3 aA ae (q0 rfl) (q0 rfl) (λ_=>⟨rfl,by omega⟩)) rfl ?_
  refine aV 4 (by decide+kernel) rfl (gB (v:= .int .i64 pv) aj (q0 rfl) (by exact rQ 0 (enc:=eQ) rfl hpk rfl)) rfl ?_
  refine aV 5 (by decide+kernel) rfl (ay (v:= .slice _ _ _) (q0 rfl)) rfl ?_
  refine aV 6 (by decide+kernel) rfl (ay (v:= .int _ _) (q0 rfl)) rfl ?_
  refine aV 7 (by decide+kernel) rfl (cx k3 aA ae (q0 rfl) (q0 rfl) (λ_=>⟨rfl,by omega⟩)) rfl ?_
  refine aV 8 (by decide+kernel) rfl (gB (v:= .int .i64 bk.b.total) aj (q0 rfl) (by exact rQ 1 (enc:=eQ) rfl hSk rfl)) rfl ?_
  refine aV 9 (by decide+kernel) rfl (rK (r:=pv -bk.b.total) (q0 rfl) (q0 rfl) (λ_=>⟨rfl,by omega,by omega⟩)) rfl ?_
  refine eu (i:=10) (by decide+kernel) (au 2) ?_
  refine aL rfl (dD (en sw (Gf (q0 rfl) (q0 rfl) (q0 rfl) (q0 rfl))) (λw hw=>wG 6 0 (pv -bk.b.total) hw rfl (by omega) (by omega)) rfl (λ_=>rfl) λz6=>?_)
  refine aZ (by decide+kernel) (au 2) ?_
  refine ad ?_
  refine ak ?_
  rw [<-hb1]
  refine R0 ?_
  refine xV (ay (q0 rfl)) rfl rfl ?_
  refine xV (ay (v:= .pointer _) (q0 rfl)) rfl rfl ?_
  refine cQ (dD (vU (cap:=[.pointer (some ⟨b7,0,none⟩), .pointer (some ⟨b5,0,none⟩)]) (al:=[.pointer (some ⟨bk.q,0,none⟩), .pointer (some ⟨b7,0,none⟩), .pointer (some ⟨b5,0,none⟩)]) Tryz.call122 (q0 rfl) (λhg=>by rw [iQ (q0 (v:= .pointer _) rfl) hg];rfl)) (λw hw=>Pj hw rfl 6 7 b7 b5 V vn vc vs p a rfl rfl hv hp hpe (by omega) (by omega)) rfl (λ_=>rfl) λz7=>?_)
  refine XN ?_
  refine ad ?_
  refine ak ?_
  refine ak ?_
  rw [<-hfb]
  obtain ⟨fb,hfbe⟩: ∃fb,fb=uV p vs bk.b (pv -bk.b.total):=⟨_,rfl⟩
  rw [<-hfbe]
  refine R0 ?_
  refine xV (ay (v:= .pointer _) (q0 rfl)) rfl rfl ?_
  refine xV (Co (q0 rfl)) rfl rfl ?_
  refine xV (az nK rfl dx rfl (q0 rfl)) rfl rfl ?_
  refine xV (az ct rfl ae rfl (q0 rfl)) rfl rfl ?_
  refine xV (gB (v:= .int .i64 fb.total) aj (q0 rfl) (bx 0 rfl rfl)) rfl rfl ?_
  refine xV (uY (q0 rfl) (q0 rfl)) rfl rfl ?_
  refine XN ?_
  refine ad ?_
  refine bD rfl (λh7=>?_) (λh7=>?_)
  ·have h7':1000000000000<fb.total:=cC h7
   have hno:zl p (rs.map (·.r)) vs=none:=by
    have h8:wz p vs Z=none:=P5 (k:=k3+1) (by rw [hFNs];unfold uU;simp only;rw [<-hfbe,aB h7'])
    unfold zl
    rw [<-hlc,<-hus,hfsA]
    simp only
    rw [<-hpd,<-hZ,h8]
   rw [hE,aB hno]
   refine ak ?_
   refine R0 ?_
   refine xV (aU (v:= .slice _ _ _) (q0 rfl)) rfl rfl ?_
   refine xV (aU (v:= .int _ _) (q0 rfl)) rfl rfl ?_
   refine XN ?_
   refine ad ?_
   refine dq ?_
   refine cw ?_
   refine dU ?_
   refine cw ?_
   refine iJ ?_
   refine dU ?_
   refine cw ?_
   exact jr (v:= .slice _ _ _) (x:= .int _ _) rfl rfl rfl rfl λw' hw=>⟨⟨([],none,0),by rw [hR,hno];rfl⟩,rfl,M8 hw⟩
  have h7': ¬1000000000000<fb.total:=dB h7
  refine bZ ?_
  refine ad ?_
  refine R0 ?_
  refine xV (ay (v:= .slice _ _ _) (q0 rfl)) rfl rfl ?_
  refine xV (ay (v:= .pointer _) (q0 rfl)) rfl rfl ?_
  refine xV (Co (q0 rfl)) rfl rfl ?_
  refine xV (az nK rfl dx rfl (q0 rfl)) rfl rfl ?_
  refine xV (eP su dx (q0 rfl)) rfl rfl ?_
  refine gN (k:=4) (i:=Tryz.t81) 5 ((⟨fb,z7.1,z7.2⟩:FX)) cj (by kernel_rfl) rfl rfl rfl rfl dx pZ rfl rfl rfl rfl rfl rfl ⟨by simp only;omega,by decide⟩ rfl rfl λB0 A1 c1=>?_
  refine xV (aU (v:= .slice _ _ _) (q0 rfl)) rfl rfl ?_
  refine XN ?_
  refine bc ?_
  refine ad ?_
  refine R0 ?_
  refine xV (eT (q0 rfl) (q0 rfl) (λ_=>⟨rfl,by omega,by omega⟩)) rfl rfl ?_
  refine xV (ay (v:= .int _ _) (q0 rfl)) rfl rfl ?_
  refine XN ?_
  exact aH (k3+1,fs++[(⟨fb,z7.1,z7.2⟩:FX)],(A1,c1)) (by repeat (first|exact aK|exact aN|refine a8 rfl ?_|refine aJ rfl ?_|refine aD rfl ?_)) ⟨rfl,rfl,trivial⟩ (λw hw=>(Mem.Eb (f:=jD) (y:=(⟨fb,z7.1,z7.2⟩:FX)) (xs:=fs) (hw.pick [1,6,5,4,2,7,3,8,9,10] (by decide))).pick [1,0,2,3,4,5,6,7,8] (by decide)) rfl ⟨by show k3+1<=k2;omega,by rw [hFNs];unfold uU;simp only;rw [<-hfbe,an h7'];simp⟩ (by show k2 -(k3+1)<k2 -k3;omega)
 have hend:k3=k2:=by first|(simp at hlt3;omega)|omega
 subst hend
 have hfnA:wz p vs Z=some (fs.map (·.b)):=by rw [<-N0 (k:=k3) (by omega)];exact hFN
 have hall:zl p (rs.map (·.r)) vs=some (tW (fs.map (·.b))):=by
  unfold zl
  rw [<-hlc,<-hus,hfsA]
  simp only
  rw [<-hpd,<-hZ,hfnA]
 have hnd:((fs.map (·.b)).map (·.bn)).Nodup:=by
  rw [ye (by omega) hFN,<-hZl,dQ,hZ,Dq (by rw [aS];omega),FB hrich]
  exact (uG _ _ hlg.ids).1
 refine fz ?_
 refine cJ ?_
 refine cM ?_
 refine cK ?_
 refine ad ?_
 refine ak ?_
 refine R0 ?_
 refine xV (ay (v:= .slice _ _ _) (q0 rfl)) rfl rfl ?_
 refine cQ (dD (en Tryz.call128 (jn (q0 rfl) (q0 rfl))) (λw hw=>Pe hw (j:=0) rfl rfl (by simp only;omega)) rfl (λ_=>rfl) λys1=>?_)
 obtain ⟨gs,hgp,hgs⟩:=ys1
 have hgl:gs.length=fs.length:=hgp.length_eq
 have hgb:gs.map (·.b)=tW (fs.map (·.b)):=CT (hgp.map _) hnd (iD.2 hgs)
 rw [hE,an (by rw [hall];simp),<-hgl]
 refine XN ?_
 refine ad ?_
 refine ak ?_
 refine R0 ?_
 refine xV (ay (v:= .slice _ _ _) (q0 rfl)) rfl rfl ?_
 refine xV (aU (v:= .slice _ _ _) (q0 rfl)) rfl rfl ?_
 refine xV (aU (v:= .int _ _) (q0 rfl)) rfl rfl ?_
 refine XN ?_
 refine ad ?_
 refine dq ?_
 exact jr (v:= .slice _ _ _) (x:= .int _ _) rfl rfl rfl rfl λw' hw=>⟨⟨(gs,fA,fc),by rw [hR,hall];exact hgb⟩,rfl,(NK (hw.pick [1,0] (by decide)) hgp).pick [1,0] (by decide)⟩
end Go.Proofs.Far
