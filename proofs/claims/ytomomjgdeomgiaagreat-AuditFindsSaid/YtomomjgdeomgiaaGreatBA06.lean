import Derived.Test.YtomomjgdeomgiaaGreatBA05
set_option maxRecDepth 100000
set_option maxHeartbeats 8000000
set_option linter.all false
namespace Go.Proofs.Cus
open Go Go.RowKit Go.Proofs.E
theorem Tt {fs:Array Field} (h:Tryz.prog.underlying 370=some (.struct fs):=by exact vZ):df Tryz.prog fs [(0,1),(1,1)]:=by
 rw [vZ] at h
 cases h
 intro w
 kernel_rfl
theorem TJ (xs ys:List Int) (w:World) (hx:xs.length=2:=by rfl) (hy:ys.length=2:=by rfl):(Op.equal 370 (.agg (ox xs).toArray) (.agg (ox ys).toArray)).run Tryz.prog w= .ok (xs==ys) w:=
 oq w xs ys (by omega) vZ (by kernel_rfl) ⟨by decide,rfl,aj,⟨_,av⟩,by decide,rfl,aj,⟨_,av⟩,trivial⟩ (by rw [hx];rfl)
theorem uQ(e:Ev)(w):Calls Tryz.prog 253 #[.agg e.cells.toArray] w λr w'=>r= .returned (.agg (ox [e.device,e.seq]).toArray)/\fM w w':=by
 refine HF Tryz.func253 Tryz.ntmps253 ?_;refine cd (v:= .agg _) rfl rfl λb1=>bS Tryz.zeroValue370 rfl λb2=>?_;refine GX ?_;refine fI (bN vZ Tt Tryz.zeroValue370 (pt (v:= .int _ _) rfl (pt (v:= .int _ _) rfl E.p0)) rfl) ?_;refine dN (v:= .agg _) rfl rfl Tryz.sizeOf370<|GX ?_;exact lR rfl (Qe 0 rfl rfl Tryz.isAgg370 Tryz.sizeOf370 rfl rfl) λw' hw=>⟨rfl,hw.1⟩
theorem Q5(a b w):Calls Tryz.prog 252 #[.agg a.cells.toArray, .agg b.cells.toArray] w λr w'=>r= .returned (.bool (dh a b))/\fM w w':=by
 refine HF Tryz.func252 Tryz.ntmps252 ?_;refine cd (v:= .agg _) rfl rfl λb2=>cd (v:= .agg _) rfl rfl λb3=>?_;refine GX ?_;refine vS<|GX ?_;refine jx (en Tryz.call253 (iQ (q0 rfl))) (λ_ w _=>uQ a w)<|GX ?_;refine jx (en Tryz.call253 (iQ (q0 rfl))) (λ_ w _=>uQ b w)<|fI (Dr (λw=>TJ _ _ w) (by kernel_rfl) (q0 rfl) (q0 rfl)) ?_;exact GW
attribute [local irreducible] jv z8
theorem Q6(a b w):Calls Tryz.prog 249 #[.agg a.cells.toArray, .agg b.cells.toArray] w λr w'=>r= .returned (.int .i64 (Br a b))/\fM w w':=by
 refine HF Tryz.func249 Tryz.ntmps249 ?_;refine cd (v:= .agg _) rfl rfl λb2=>cd (v:= .agg _) rfl rfl λb3=>?_;refine GX ?_;refine JR<|aW 0 ?_;refine aW 1 ?_;refine aW 2 ?_;refine aW 3 ?_;refine aW 5 ?_;refine aW 6 ?_;refine aW 7 ?_;refine aW 8 ?_;refine aW 10 ?_;refine aW 11 ?_;refine aC 4 (by decide+kernel) rfl (en iT (jn (q0 rfl) (q0 rfl))) (λ_ w _=>iK a.device b.device w) rfl<|aC 9 (by decide+kernel) rfl (en iT (jn (q0 rfl) (q0 rfl))) (λ_ w _=>iK a.seq b.seq w) rfl<|aC 12 (by decide+kernel) rfl (en Tryz.call250 (jn (q0 rfl) (q0 rfl))) (λ_ w _=>Jk a b w) rfl<|r1 13 0 ?_;refine aL rfl (ey [(.int .i64 0),(.int .i64 0),(.int .i64 0)] aA ae bw rfl (by kernel_rfl) (pt (v:= .int _ _) rfl (pt (v:= .int _ _) rfl (pt (v:= .int _ _) rfl E.p0))) rfl rfl λb18=>?_);refine w7 (au 1)<|aC 14 (by decide+kernel) rfl (en Iw (iQ (q0 rfl))) (λ_ w hm=>MF _ 3 3 [jv a.device b.device,jv a.seq b.seq,z8 a b] w (fj (enc:=eQ) hm (j:=0) rfl (λ_=>rfl) (by simp))) rfl<|aW 15 ?_;refine qE 0 ?_;exact GW
attribute [local irreducible] lexLt
end Go.Proofs.Cus
namespace Go.Proofs.Cus
open Go Go.RowKit Go.Proofs.E
abbrev rO (w:World) (A:Option Addr) (n:Nat) (xs:List Ev):Prop:=eG w 9 Ev.cells A n xs
abbrev gY (A:Option Addr) (c:Nat) (xs:List Ev):E.Item:=dS 131 9 Ev.cells A c xs
theorem Pt(A n c xs w)(hx:rO w A n xs)(hn:n<=10000):
  Calls Tryz.prog 247 #[.slice A n c] w λe w'=> ∃x:Option Addr×Nat,e= .returned (.slice x.1 n x.2)/\Mem w [gY x.1 x.2 xs] w':=by
 have hl:=hx.1;refine HF Tryz.func247 Tryz.ntmps247 ?_;refine fI (Cq cY (q0 rfl))<|GD ?_ ?_<;>intro h1
 ·have hA0:A=none:=by simpa using h1
  have hn0:n=0:=by
   rcases ga n with h|h
   ·exact h
   obtain ⟨b,off,hb,_⟩:=hx.2.2 h;rw [hA0] at hb;cases hb
  subst hn0;have:xs=[]:=dR hl;subst this;refine GX ?_;exact cu (v:= .slice _ _ _) rfl rfl rfl λw' hw=>⟨(none,0),rfl,hw.fY _ _ _ rfl⟩
 refine GX ?_;refine cQ (mN Ev.cells cY cU rfl λA1 c1=>?_);refine GX ?_;refine lI (dj (k:=9) (i:=Tryz.t131) (enc:=Ev.cells) 0 cY (by kernel_rfl) rfl rfl rfl rfl (λ_=>rfl) (λ_=>rfl) rfl rfl rfl (λw hw=>hx.mem hw) ⟨by simp;omega,by decide⟩ rfl λA2 c2=>?_);refine GX ?_;exact cu (v:= .slice _ _ _) rfl rfl rfl λw' hw=>⟨(A2,c2),by rw [<-hl];rfl,hw⟩
def Hu:Go.Shelf.Ren:=⟨fun|6=>248|15=>180|14=>315|28=>245|29=>246|20=>341|21=>342|22=>343|23=>344|24=>345|25=>346|26=>347|27=>348|46=>369|47=>311|48=>312|49=>370|50=>371|57=>377|n=>n,fun|22=>43|24=>131|25=>367|3=>3|39=>313|0=>0|53=>364|55=>38|4=>4|46=>358|45=>357|50=>299|5=>5|9=>9|66=>416|70=>420|76=>441|77=>201|n=>n,fun|n=>n⟩
theorem Md:Go.Proofs.SlLaysF0.n6 Tryz.prog Hu:={
 mixed:=by kernel_rfl,
 f6:=⟨Tryz.f248.name,by decide,Tryz.func248.trans (aP some (by kernel_rfl))⟩,
 f14:=⟨Tryz.f315.name,by decide,Tryz.func315.trans (aP some (by kernel_rfl))⟩,
 f15:=Tryz.func180.trans (aP some (by kernel_rfl)),
 f20:=⟨Tryz.f341.name,by decide,Tryz.func341.trans (aP some (by kernel_rfl))⟩,
 f21:=⟨Tryz.f342.name,by decide,Tryz.func342.trans (aP some (by kernel_rfl))⟩,
 f22:=⟨Tryz.f343.name,by decide,Tryz.func343.trans (aP some (by kernel_rfl))⟩,
 f23:=⟨Tryz.f344.name,by decide,Tryz.func344.trans (aP some (by kernel_rfl))⟩,
 f24:=⟨Tryz.f345.name,by decide,Tryz.func345.trans (aP some (by kernel_rfl))⟩,
 f25:=⟨Tryz.f346.name,by decide,Tryz.func346.trans (aP some (by kernel_rfl))⟩,
 f26:=⟨Tryz.f347.name,by decide,Tryz.func347.trans (aP some (by kernel_rfl))⟩,
 f27:=⟨Tryz.f348.name,by decide,Tryz.func348.trans (aP some (by kernel_rfl))⟩,
 f28:=Tryz.func245.trans (aP some (by kernel_rfl)),
 f29:=Tryz.func246.trans (aP some (by kernel_rfl)),
 f46:=⟨Tryz.f369.name,by decide,Tryz.func369.trans (aP some (by kernel_rfl))⟩,
 f47:=Tryz.func311.trans (aP some (by kernel_rfl)),
 f48:=Tryz.func312.trans (aP some (by kernel_rfl)),
 f49:=⟨Tryz.f370.name,by decide,Tryz.func370.trans (aP some (by kernel_rfl))⟩,
 f50:=⟨Tryz.f371.name,by decide,Tryz.func371.trans (aP some (by kernel_rfl))⟩,
 f57:=⟨Tryz.f377.name,by decide,Tryz.func377.trans (aP some (by kernel_rfl))⟩,
 t0:=mY,
 a0:=uz,
 z0:=sr,
 v0:=ob,
 t3:=av,
 a3:=aj,
 z3:=ae,
 v3:=bw,
 t4:=iM,
 a4:=lP,
 z4:=gD,
 v4:=ia,
 t5:=iL,
 a5:=uy,
 z5:=sq,
 v5:=oa,
 t9:=mX,
 a9:=ux,
 z9:=so,
 v9:=n9,
 t22:=cY,
 a22:=qo,
 z22:=iN,
 v22:=JK,
 t25:=Tryz.underlying367,
 a25:=Tryz.isAgg367,
 z25:=Tryz.sizeOf367,
 v25:=Tryz.zeroValue367,
 t39:=lx,
 a39:=qU,
 z39:=pI,
 v39:=mf,
 t45:=lu,
 a45:=qT,
 z45:=pH,
 v45:=me,
 t46:=lq,
 a46:=qS,
 z46:=pG,
 v46:=ma,
 t50:=lz,
 a50:=qV,
 z50:=pJ,
 v50:=mg,
 t53:=lp,
 a53:=qR,
 z53:=pF,
 v53:=l',
 t55:=jB,
 a55:=sv,
 z55:=qN,
 v55:=mW,
 t66:=lk,
 a66:=qQ,
 z66:=pE,
 v66:=l9,
 t70:=lj,
 a70:=qP,
 z70:=pD,
 v70:=l8,
 t76:=lh,
 a76:=qO,
 z76:=pC,
 v76:=l7,
 t77:=lB,
 a77:=qW,
 z77:=pL,
 v77:=mi}
open Go.Shelf Go.Lib Go.Sort in
theorem Fu (cf:Ev->Ev->Int) (g:Nat) (hO:SWO (ltOf cf)) (hT: ∀x y,ltOf cf x y=false->ltOf cf y x=false->x=y) (eg: ∀args w,(callFunc g args).run Tryz.prog w= .ok (.enter g args) w)
  (hcl: ∀(x y:Ev) (w:World),Calls Tryz.prog g #[.agg x.cells.toArray, .agg y.cells.toArray] w λe w'=>e= .returned (.int .i64 (cf x y))/\fM w w')
  {w0 w:World} {L:List E.Item} (hw:Mem w0 L w) {j c:Nat} {A:Option Addr} {xs:List Ev} (hk:L[j]?=some (gY A c xs)) (hn:xs.length<=1000000):
  Calls Tryz.prog 248 #[.slice A xs.length c, .func (.func g) #[] #[]] w λe w'=> ∃_:Unit,e= .returned (.tuple #[])/\Mem w0 (L.set j (gY A c (xs.mergeSort λx y=>!ltOf cf y x))) w':=by
 rcases ga xs.length with h0|h0
 ·have:xs=[]:=dR h0;subst this;refine (AnyF.slices_SortFunc_none Md A c (.func (.func g) #[] #[]) w).mono ?_;rintro e w' ⟨rfl,rfl⟩;refine ⟨(),rfl,?_⟩;have hL:L.set j (gY A c (([]:List Ev).mergeSort λx y=>!ltOf cf y x))=L:=by
   have:([]:List Ev).mergeSort (λx y=>!ltOf cf y x)=[]:=by simp
   rw [this];obtain ⟨h1,h2⟩:=ai.1 hk;rw [<-h2];exact pO h1
  rw [hL];exact hw
 obtain ⟨b,rfl⟩:=fG hw hk h0;have hb:b<w.heap.size:=(hw.nE hk rfl).2;have hcon:=AnyQ.slices_SortFunc_total Md 9 mR cU Ev.cells (λ_=>rfl) (λx v hv=>by simp [Ev.cells] at hv;rcases hv with rfl|rfl|rfl|rfl|rfl|rfl|rfl|rfl|rfl<;>rfl) cf hO g #[] b 0 c xs.toArray w eg
  (λm os dk _ x y=>by rw [Array.append_empty];exact (hcl x y _).mono λe w' ⟨he,hb⟩=>⟨he,hb.Rr⟩) (wS (λ_=>rfl) hw hk) hb (by simp;omega) hT
 have hcon':Calls Tryz.prog 248 #[.slice (some ⟨b,0,none⟩) xs.toArray.size c, .func (.func g) #[] #[]] w _:=hcon;rw [uk] at hcon';refine hcon'.mono ?_;rintro e w' ⟨rfl,n,os,rfl⟩;exact ⟨(),rfl,tF (λ_=>rfl) hw hk (by simp)⟩
open Go.Shelf Go.Lib Go.Sort in
theorem OD{w0 w L}(hw:Mem w0 L w){j c A xs}(hk:L[j]?=some (gY A c xs))(hn:xs.length<=1000000):
  Calls Tryz.prog 248 #[.slice A xs.length c, .func (.func 249) #[] #[]] w λe w'=> ∃_:Unit,e= .returned (.tuple #[])/\Mem w0 (L.set j (gY A c (xs.mergeSort AM))) w':=by
 have hlt:(ltOf Br)=λx y=>lexLt x.ry y.ry:=by funext x y;exact Ka x y
 have:=Fu Br 249 (by rw [hlt];exact vl Ev.ry 11 (λ_=>rfl)) (λx y h1 h2=>by rw [hlt] at h1 h2;exact Kz (pW rfl h1 h2)) Tryz.call249 Q6 hw hk hn
 rw [hlt] at this
 exact this
open Go.Shelf Go.Lib Go.Sort in
theorem OC{w0 w L}(hw:Mem w0 L w){j c A xs}(hk:L[j]?=some (gY A c xs))(hn:xs.length<=1000000):
  Calls Tryz.prog 248 #[.slice A xs.length c, .func (.func 250) #[] #[]] w λe w'=> ∃_:Unit,e= .returned (.tuple #[])/\Mem w0 (L.set j (gY A c (xs.mergeSort T6))) w':=by
 have hlt:(ltOf z8)=λx y=>lexLt x.keys y.keys:=by funext x y;exact yR x.keys y.keys
 have:=Fu z8 250 (by rw [hlt];exact vl Ev.keys 9 (λ_=>rfl)) (λx y h1 h2=>by rw [hlt] at h1 h2;exact B' (pW rfl h1 h2)) Tryz.call250 Jk hw hk hn
 rw [hlt] at this
 exact this
theorem GG(eq g)(eg: ∀args w,(callFunc g args).run Tryz.prog w= .ok (.enter g args) w)(hcl: ∀(x y:Ev) (w:World),Calls Tryz.prog g #[.agg (Ev.cells x).toArray, .agg (Ev.cells y).toArray] w λe w'=>e= .returned (.bool (eq x y))/\fM w w'){w0 w L c A xs}(hw:Mem w0 (dS 131 9 Ev.cells A c xs::L) w)(hmk:marks L=[])(hn:xs.length<=1000000):
  Calls Tryz.prog 251 #[.slice A xs.length c, .func (.func g) #[] #[]] w λe w'=> ∃_:Unit,e= .returned (.slice A (e9 eq xs).length c)/\Mem w0 (dS 131 9 Ev.cells A c (e9 eq xs)::L) w':=by
 have hcap:=kP (j:=0) hw rfl;rcases uA xs.length 2 with hlt|hge
 ·have hcf:e9 eq xs=xs:=by
   match xs,hlt with
   |[],_=>rfl
   |[x],_=>rfl
  rw [hcf];refine gI hw hmk Tryz.func251 rfl Tryz.ntmps251 rfl ?_;refine GD ?_ ?_<;>intro h1
  ·exact cu (v:= .slice _ _ _) rfl rfl hmk λw' hw=>⟨(),rfl,hw⟩
  exact absurd h1 (by simp;omega)
 obtain ⟨b,rfl⟩:=fG (j:=0) hw rfl (by omega);refine gI hw hmk Tryz.func251 rfl Tryz.ntmps251 rfl ?_;refine GD ?_ ?_<;>intro h1
 ·exact absurd h1 (by simp;omega)
 refine GX ?_;refine ef (rg 4 4++rg 12 53) (λk:Nat=>[(5, .int .i64 k)]) (λ_=>_) (λk=>1<=k/\k<=xs.length/\ ∃p,xs[k -1]?=some p/\e9 eq xs=xs.take k++dL eq p (xs.drop k)) (λk=>xs.length -k) 1 ⟨rfl,trivial⟩ (λ_ h=>h) rfl (by
  refine ⟨bA _,by omega,?_⟩
  match xs,hge with
  |x::xs,_=>exact ⟨x,rfl,rfl⟩) ?_
 rintro k g2 ⟨hk1,hkn,p,hp,hcf⟩;refine GD ?_ ?_<;>intro hlt
 ·have hlt':k<xs.length:=by simpa using hlt
  obtain ⟨y,hy⟩: ∃y,xs[k]?=some y:=⟨_,ah hlt'⟩;refine GX ?_;refine vS<|GX ?_;refine fI (cx (k -1) cY cU (q0 rfl) (q0 rfl) (λ_=>⟨by omega,by omega⟩))<|fI (iV mR cU (q0 rfl) (sP 0 rfl hp) rfl)<|jx (vU eg (q0 rfl) (λ_=>rfl)) (λ_ w _=>hcl y p w)<|GX ?_;have hdrop:xs.drop k=y::xs.drop (k+1):=by
   obtain ⟨q1,q2⟩:=ai.1 hy;rw [cH q1,q2]
  refine GD ?_ ?_<;>intro heq
  ·have hcf2:e9 eq xs=xs.take k++dL eq y (xs.drop (k+1)):=by rw [hcf,hdrop];simp only [dL];rw [aB heq]
   refine GX ?_;refine fI (EG _ cY cU (q0 rfl) (q0 rfl) (λ_=>⟨rfl,by omega,by omega⟩))<|GX ?_;refine la ([5,7]++rg 32 27) (λs:Nat×Nat×List Ev=>[(5, .int .i64 s.1),(7, .int .i64 s.2.1)]) (λs=>dS 131 9 Ev.cells (some ⟨b,0,none⟩) c s.2.2::L) (λs=>1<=s.2.1/\k+s.2.1<=xs.length/\s.2.2.length=xs.length/\s.2.2.drop (k+s.2.1 -1)=xs.drop (k+s.2.1 -1)/\s.1<=k+s.2.1 -1/\ ∃p,xs[k+s.2.1 -1]?=some p/\e9 eq xs=s.2.2.take s.1++dL eq p (xs.drop (k+s.2.1))) (λs=>xs.length -(k+s.2.1)) (k,1,xs) ⟨bA _,by show k+1<=xs.length;omega,rfl,rfl,by simp,y,by simpa using hy,by simpa using hcf2⟩ ?_;rintro s g3 ⟨h2,hkn2,hyl,hyd,hi,p2,hp2,hcf3⟩;refine GD ?_ ?_<;>intro hlt2
   ·have hlt2':k+s.2.1<xs.length:=by simp at hlt2;omega
    obtain ⟨z,hz⟩: ∃z,xs[k+s.2.1]?=some z:=⟨_,ah hlt2'⟩;have hzy:s.2.2[k+s.2.1]?=some z:=by
     have:(s.2.2.drop (k+s.2.1 -1))[1]?=(xs.drop (k+s.2.1 -1))[1]?:=by rw [hyd]
     rw [iP,iP,show k+s.2.1 -1+1=k+s.2.1 by omega] at this;rw [this];exact hz
    have hpy:s.2.2[k+(s.2.1 -1)]?=some p2:=by
     have:(s.2.2.drop (k+s.2.1 -1))[0]?=(xs.drop (k+s.2.1 -1))[0]?:=by rw [hyd]
     rw [iP,iP,pN] at this;rw [show k+(s.2.1 -1)=k+s.2.1 -1 by omega,this];exact hp2
    have hdrop2:xs.drop (k+s.2.1)=z::xs.drop (k+s.2.1+1):=by
     obtain ⟨q1,q2⟩:=ai.1 hz;rw [cH q1,q2]
    have hdd:s.2.2.drop (k+s.2.1)=xs.drop (k+s.2.1):=by
     have:=aP (List.drop 1) hyd;rw [An,An,show k+s.2.1 -1+1=k+s.2.1 by omega] at this;exact this
    refine GX ?_;refine vS<|GX ?_;refine fI (iV mR cU (q0 rfl) (Kd 0 rfl hzy) rfl)<|GX ?_;refine fI (cx (s.2.1 -1) cY cU (q0 rfl) (q0 rfl) (λ_=>⟨by omega,by omega⟩))<|fI (iV mR cU (q0 rfl) (Kd 0 rfl hpy) rfl)<|jx (vU eg (q0 rfl) (λ_=>rfl)) (λ_ w _=>hcl z p2 w)<|GD ?_ ?_<;>intro heq2
    ·obtain ⟨q,hq⟩: ∃q,s.2.2[s.1]?=some q:=⟨_,ah (by omega)⟩;refine GX ?_;refine fI (iV mR cU (q0 rfl) (Kd 0 rfl hzy) rfl)<|GX ?_;refine cQ (eR 0 z rfl rfl cU rfl rfl rfl hq rfl rfl ?_);refine GX ?_;exact aH (s.1+1,s.2.1+1,s.2.2.set s.1 z) lg ⟨rfl,rfl,trivial⟩ (λ_ h=>h) rfl ⟨by show 1<=s.2.1+1;omega,by show k+(s.2.1+1)<=_;omega,by simpa using hyl,by
      show (s.2.2.set s.1 z).drop (k+(s.2.1+1) -1)=_;rw [show k+(s.2.1+1) -1=k+s.2.1 by omega,List.drop_set_of_lt (by omega)];exact hdd,by show s.1+1<=k+(s.2.1+1) -1;omega,z,by simpa using hz,by
      show _=(s.2.2.set s.1 z).take (s.1+1)++_;rw [hcf3,hdrop2];simp only [dL];rw [an (by simpa using heq2),iC,List.take_set_of_le (by omega),oL (by omega)];simp [kf]⟩ (by show xs.length -(k+(s.2.1+1))<xs.length -(k+s.2.1);omega)
    refine GX ?_;exact aH (s.1,s.2.1+1,s.2.2) lg ⟨rfl,rfl,trivial⟩ (λ_ h=>h) rfl ⟨by show 1<=s.2.1+1;omega,by show k+(s.2.1+1)<=_;omega,hyl,by
     show s.2.2.drop (k+(s.2.1+1) -1)=_;rw [show k+(s.2.1+1) -1=k+s.2.1 by omega];exact hdd,by show s.1<=k+(s.2.1+1) -1;omega,z,by simpa using hz,by
     show _=s.2.2.take s.1++_;rw [hcf3,hdrop2];simp only [dL];rw [aB (by simpa using heq2)];simp [kf]⟩ (by show xs.length -(k+(s.2.1+1))<xs.length -(k+s.2.1);omega)
   have hend:k+s.2.1=xs.length:=by simp at hlt2;omega
   have hcf4:e9 eq xs=s.2.2.take s.1:=by rw [hcf3,hend,kG];simp [dL]
   refine GX ?_;refine fI (EG _ cY cU (q0 rfl) (q0 rfl) (λ_=>⟨rfl,by omega,by omega⟩))<|cQ (Gr (i:=s.1) (k:=9) 0 cY dt rfl rfl rfl rfl ⟨by omega,by omega⟩ ?_);refine GX ?_;refine fI (uW _ cY cU (q0 rfl) (q0 rfl) (λ_=>⟨rfl,by omega⟩))<|GX ?_;exact cu (v:= .slice _ _ _) rfl rfl hmk λw' hw=>⟨(),by rw [hcf4,dG,E3 (by omega)],by rw [hcf4];exact hw⟩
  refine GX ?_;exact aH (k+1) lg ⟨rfl,trivial⟩ (λ_ h=>h) rfl ⟨by omega,by omega,y,by simpa using hy,by
   rw [hcf,hdrop];simp only [dL];rw [an (by simpa using heq),dY _ _ _ hy];simp⟩ (by show xs.length -(k+1)<xs.length -k;omega)
 have hend:k=xs.length:=by simp at hlt;omega
 have hcf4:e9 eq xs=xs:=by rw [hcf,hend,kG,dQ];simp [dL]
 refine GX ?_;exact cu (v:= .slice _ _ _) rfl rfl hmk λw' hw=>⟨(),by rw [hcf4],by rw [hcf4];exact hw⟩
theorem GH{w0 w L j c A xs}(hw:Mem w0 L w)(hk:L[j]?=some (gY A c xs))(hmk:marks L=[])(hn:xs.length<=1000000):
  Calls Tryz.prog 251 #[.slice A xs.length c, .func (.func 252) #[] #[]] w λe w'=> ∃_:Unit,e= .returned (.slice A (e9 dh xs).length c)/\Mem w0 (L.set j (gY A c (e9 dh xs))) w':=
 (GG dh 252 Tryz.call252 Q5 (hw.front hk) (zS L j hmk) hn).mono λ_ _ ⟨_,he,hm⟩=>⟨(),he,hm.back hk⟩
theorem Af{α}(eq): ∀(xs:List α),(e9 eq xs).length<=xs.length
 |[]=>bA _
 |x::xs=>by
  have: ∀(xs:List α) (p:α),(dL eq p xs).length<=xs.length:=by
   intro xs
   induction xs with
   |nil=>intro p;exact bA _
   |cons y ys ih=>
    intro p
    simp only [dL]
    split
    ·have:=ih y;simp;omega
    have:=ih y;simp;omega
  have:=this xs x
  simp [e9];omega
theorem vo(l):(setOf l).length<=l.length:=by
 have:=Af dh (l.mergeSort AM)
 simpa [setOf] using this
attribute [local irreducible] e9
theorem S4(A n c xs w)(hx:rO w A n xs)(hn:n<=10000):
  Calls Tryz.prog 183 #[.slice A n c] w λe w'=> ∃x:Option Addr×Nat,e= .returned (.slice x.1 (setOf xs).length x.2)/\Mem w [gY x.1 x.2 (setOf xs)] w':=by
 have hl:=hx.1;subst hl;refine HE Tryz.func183 Tryz.ntmps183 ?_;refine oD (en Tryz.call247 (iQ (q0 rfl))) (λw hw=>Pt A xs.length c xs w (hx.mem hw) hn) rfl (λ_=>rfl) λx=>GR ?_;refine cQ (dD (en Tryz.call248 (jn (q0 rfl) (q0 rfl))) (λw hw=>OD (j:=0) hw rfl (by omega)) rfl (λ_=>rfl) λu=>?_);refine GR ?_;have e1:xs.length=(xs.mergeSort AM).length:=by simp
 rw [e1];refine cQ (dD (en Tryz.call251 (jn (q0 rfl) (q0 rfl))) (λw hw=>GH (j:=0) hw rfl rfl (by simp;omega)) rfl (λ_=>rfl) λu=>?_);refine GR ?_;refine cQ (dD (en Tryz.call248 (jn (q0 rfl) (q0 rfl))) (λw hw=>OC (j:=0) hw rfl (by have:=Af dh (xs.mergeSort AM);simp at this;omega)) rfl (λ_=>rfl) λu=>?_);refine GR ?_;have e2:(e9 dh (xs.mergeSort AM)).length=(setOf xs).length:=by simp [setOf]
 exact cu (v:= .slice _ _ _) rfl rfl rfl λw' hw=>⟨x,by rw [<-e2],hw⟩
end Go.Proofs.Cus
namespace Go.Proofs.Cus
open Go Go.RowKit Go.Proofs.E
theorem wA {fs:Array Field} (h:Tryz.prog.underlying 159=some (.struct fs):=by exact dE):df Tryz.prog fs [(0,1),(1,1),(2,1),(3,1)]:=by
 rw [dE] at h
 cases h
 intro w
 kernel_rfl
theorem Ts {fs:Array Field} (h:Tryz.prog.underlying 377=some (.struct fs):=by exact EZ):df Tryz.prog fs [(0,1),(1,1),(2,1)]:=by
 rw [EZ] at h
 cases h
 intro w
 kernel_rfl
theorem Dp {fs:Array Field} (h:Tryz.prog.underlying 232=some (.struct fs):=by exact jg):df Tryz.prog fs [(0,5),(5,1),(6,1),(7,1)]:=by
 rw [jg] at h
 cases h
 intro w
 kernel_rfl
def Sp.cells (x:Sp):List Value:=[.int .i64 x.cF, .int .i64 x.place, .int .i64 x.bn, .bool x.bP]
def PT.cells (t:PT):List Value:=[.int .i64 t.rider, .int .i64 t.bq, .bool t.bP]
abbrev PZ (w:World) (A:Option Addr) (n:Nat) (xs:List Sp):Prop:=eG w 4 Sp.cells A n xs
abbrev IG (A:Option Addr) (c:Nat) (xs:List Sp):E.Item:=dS 159 4 Sp.cells A c xs
structure TS where
 aG:List Sp
 ps:List (Int×Nat×PT)
 used:List Int
def TS.open_ (t:TS):List (Int×PT):=t.ps.map λp=>(p.1,p.2.2)
def TS.plain (t:TS):PS:=⟨t.aG,t.open_,t.used⟩
structure SA where
 sb:Nat
 q:Nat
 n:Nat
 c:Nat
 m:Nat
 u:Nat
def mH (l:List Int):List (Int×Value):=l.map λi=>(i, .bool true)
def AH (f:Fl) (a:FA) (s:SA):List Value:=f.cells a++[.slice (some ⟨s.q,0,none⟩) s.n s.c, .map (some s.m), .map (some s.u)]
abbrev tE (f:Fl) (a:FA) (s:SA) (t:TS):List E.Item:=
 [box s.sb 232 (AH f a s),IG (some ⟨s.q,0,none⟩) s.c t.aG,pmap s.m 377 PT.cells t.ps,oP s.u (mH t.used)]
structure Io (w:World) (f:Fl) (a:FA) (s:SA) (t:TS):Prop where
 lt:s.sb<w.heap.size
 row:jS w s.sb 0 (AH f a s)
 aG:PZ w (some ⟨s.q,0,none⟩) s.n t.aG
 open_:mV w s.m (uK t.ps)
 gx: ∀p∈t.ps,p.2.1<w.heap.size/\jS w p.2.1 0 p.2.2.cells
 used:mV w s.u (mH t.used)
 fl:mE w f a
theorem Io.mem{w0 w L f a s t}(h:Io w0 f a s t)(hm:Mem w0 L w):Io w f a s t:=
 ⟨fZ h.lt hm.1.size,h.row.below h.lt hm.1,h.aG.mem hm,h.open_.mem w hm,λp hp=>⟨fZ (h.gx p hp).1 hm.1.size,(h.gx p hp).2.below (h.gx p hp).1 hm.1⟩,h.used.mem w hm,h.fl.mem hm⟩
theorem Gc{w b cs t}(h:w.heap[b]?=some (.cells cs.toArray t (0,0))):b<w.heap.size/\jS w b 0 cs:=
 ⟨(fV.1 h).1,λj u hu=>by simp [World.cell?,h,hu]⟩
theorem OA{w0 w L f a s t}(hf:mE w f a)(hl:t.aG.length=s.n)(hn:s.n<=1000)(hw:Mem w0 (tE f a s t++L) w):Io w f a s t:=by
 have hsp:=fB hw (j:=1) rfl (λ_=>rfl) (by omega)
 rw [hl] at hsp
 have h0:=Gc (hw.item (k:=0) rfl)
 have h2:(pmap s.m 377 PT.cells t.ps).A w:=hw.item (k:=2) rfl
 exact ⟨h0.1,h0.2,hsp,h2.1,λp hp=>Gc (h2.2.1 p hp),hw.item (k:=3) rfl,hf⟩
theorem uM(x w):Calls Tryz.prog 257 #[.agg x.cells.toArray] w λe w'=>e= .returned (.bool (dT x))/\fM w w':=by
 refine HF Tryz.func257 Tryz.ntmps257 ?_;refine cd (v:= .agg _) rfl rfl λb1=>?_;exact GW
theorem mK(no er w):Calls Tryz.prog 256 #[.bool no, .int .i64 er] w λe w'=>e= .returned (.int .i64 (refuse no er))/\fM w w':=by
 refine HF Tryz.func256 Tryz.ntmps256 ?_;refine GD ?_ ?_<;>intro h
 ·exact cu (v:= .int _ _) rfl rfl rfl λw' hw=>⟨cg (by unfold refuse;rw [aB h]),hw.1⟩
 refine GX ?_;exact cu (v:= .int _ _) rfl rfl rfl λw' hw=>⟨cg (by unfold refuse;rw [an (by rw [h];decide)]),hw.1⟩
theorem GA(l:List Sp)(wh pl k x)(h:l[k]?=some x):countP (l.take (k+1)) wh pl=countP (l.take k) wh pl+(if CJ wh pl x=true then 1 else 0):=by
 unfold countP
 rw [dY _ _ _ h,List.countP_append]
 simp [List.countP_cons]
theorem Jr{f a s t}(wh pl w)(h:Io w f a s t):Calls Tryz.prog 258 #[.pointer (some ⟨s.sb,0,none⟩), .int .i64 wh, .int .i64 pl] w λe w'=>e= .returned (.int .i64 (countP t.aG wh pl))/\fM w w':=by
 have hlt:=h.lt;have hrow:=h.row;have hn:=h.aG.2.1;have hl:=h.aG.1;refine HF Tryz.func258 Tryz.ntmps258 ?_;refine la ([7,9]++rg 15 17) (λk:Nat=>[(15, .int .i64 k),(7, .int .i64 (countP (t.aG.take k) wh pl))]) (λ_=>[]) (λk=>k<=s.n/\countP (t.aG.take k) wh pl<=k) (λk=>s.n -k) 0 ⟨bj _,bA _⟩ ?_;rintro k g ⟨hk,hc⟩;refine GD ?_ ?_<;>intro hlt2
 ·have hk2:k<s.n:=by simpa using hlt2
  obtain ⟨x,hxk,hrx⟩:=h.aG.row hk2;have hbl:s.q<w.heap.size:=by
   obtain ⟨b,off,y,hA,hbl,_,_⟩:=h.aG.at_ hk2;cases hA;exact hbl
  have hs:=GA t.aG wh pl k x hxk;refine GX ?_;refine bS fC rfl λb9=>dN (v:= .agg _) rfl rfl fW ?_;refine GD ?_ ?_<;>intro hb
  ·have hs2:countP (t.aG.take (k+1)) wh pl=countP (t.aG.take k) wh pl+1:=by rw [hs,aB (by unfold CJ;exact hb)]
   refine GX ?_;exact ng (k+1) ⟨rfl,by show _=Value.int .i64 (countP (t.aG.take (k+1)) wh pl:Int);rw [hs2];rfl,trivial⟩ (λw hw=>ik.2 hw.1) ⟨by omega,by omega⟩
  have hs2:countP (t.aG.take (k+1)) wh pl=countP (t.aG.take k) wh pl:=by rw [hs,an (by unfold CJ;rw [hb];decide),pN]
  refine GX ?_;exact ng (k+1) ⟨rfl,by show _=Value.int .i64 (countP (t.aG.take (k+1)) wh pl:Int);rw [hs2];rfl,trivial⟩ (λw hw=>ik.2 hw.1) ⟨by omega,by omega⟩
 have hkn:k=s.n:=by simp at hlt2;omega
 refine GX ?_;exact cu (v:= .int _ _) rfl rfl rfl λw' hw=>⟨cg (by rw [hkn,<-hl,dQ]),hw.1⟩
theorem Ko{es ps}(h:lJ es ps):(∀e∈es,∃p∈ps,Eh e p)/\(∀p∈ps,∃e∈es,Eh e p):=by
 induction h with
 |nil=>exact ⟨λ_ h=>by simp at h,λ_ h=>by simp at h⟩
 |cons h1 _ ih=>
  grind
theorem Ky(es:List MapEntry)(seen:Array Nat)(e)(he:e∈es)(hs:seen.contains e.born=false):(es.filter λx=>!(seen.push e.born).contains x.born).length<(es.filter λx=>!seen.contains x.born).length:=by
 have hsub: ∀x:MapEntry,(!(seen.push e.born).contains x.born)=true->(!seen.contains x.born)=true:=λx hx=>by
  simp at hx|-;exact hx.1
 have key: ∀l:List MapEntry,e∈l->(l.filter λx=>!(seen.push e.born).contains x.born).length<(l.filter λx=>!seen.contains x.born).length:=by
  intro l
  induction l with
  |nil=>intro h;cases h
  |cons y l ih=>
   intro hm
   have hle: ∀l:List MapEntry,(l.filter λx=>!(seen.push e.born).contains x.born).length<=(l.filter λx=>!seen.contains x.born).length:=by
    intro l
    induction l with
    |nil=>simp
    |cons z l ih2=>
     grind
   rcases cn.1 hm with rfl|hm
   ·simp only [iZ]
    rw [an (by simp),aB (by simpa using hs)]
    have:=hle l
    simp only [cL];omega
   have:=ih hm
   simp only [iZ]
   grind
 exact key es he
theorem born_inj{es clock}(h:lW es clock){x y}(hx:x∈es)(hy:y∈es)(he:x.born=y.born):x=y:=by
 obtain ⟨i,hi,rfl⟩:=nX hx
 obtain ⟨j,hj,rfl⟩:=nX hy
 have:=bJ.1 h.K2
 grind
theorem Bv{f a s t}(rider w)(h:Io w f a s t):Calls Tryz.prog 259 #[.pointer (some ⟨s.sb,0,none⟩), .int .i64 rider] w λe w'=>e= .returned (.bool (po t.open_ rider))/\fM w w':=by
 have hlt:=h.lt;have hrow:=h.row;obtain ⟨es,clock,hmap,hpairs,hB⟩:=h.open_;have hmlt:s.m<w.heap.size:=(fV.1 hmap).1;have hmm: ∀(L:List E.Item) w',Mem w L w'->w'.heap[s.m]?=some (.map es clock):=λL w' hw=>(hw.1.block s.m hmlt).trans hmap;obtain ⟨hp1,hp2⟩:=Ko hpairs;refine HF Tryz.func259 Tryz.ntmps259 ?_;refine cQ (Jj nM (hmm _) rfl rfl λr=>?_);refine GX ?_;refine ef ([4,6]++rg 12 10) (λ_:Array Nat=>[]) (λseen=>[O2 r s.m clock seen clock]) (λseen=> ∀e∈es.toList,seen.contains e.born=true-> ∀b tr,(e.val= .pointer (some ⟨b,0,none⟩))->(∃k,(k,b,tr)∈t.ps)->tr.rider≠rider) (λseen=>(es.toList.filter λx=>!seen.contains x.born).length) #[] trivial (λ_ h=>h) rfl (λe _ hc=>by simp at hc) ?_;rintro seen g hinv;refine GX ?_;refine cQ (M6 0 (hmm _) hB rfl rfl (bA _) rfl (λhall=>?_) (λe he hs=>?_))
 ·refine GD ?_ ?_<;>intro hb
  ·cases hb
  refine GX ?_;exact cu (v:= .bool _) rfl rfl rfl λw' hw=>⟨fK (by
   unfold po TS.open_;rw [eq_comm,p5];intro p hp;obtain ⟨q,hq,rfl⟩:=cW.1 hp;obtain ⟨e,he,hk,hv⟩:=hp2 (q.1, .pointer (some ⟨q.2.1,0,none⟩)) (cW.2 ⟨q,hq,rfl⟩);simpa using hinv e he (hall e he) q.2.1 q.2.2 hv ⟨q.1,hq⟩),hw.1⟩
 obtain ⟨pv,hpv,hk,hv⟩:=hp1 e he;obtain ⟨q,hq,rfl⟩:=cW.1 hpv;obtain ⟨ek,ev',eb⟩:=e;simp only at hv;subst hv;obtain ⟨hql,hqr⟩:=h.gx q hq;refine GD ?_ ?_<;>intro hb
 ·refine fI (Jp 0 (hmm _) hB he (q0 rfl) rfl)<|GD ?_ ?_<;>intro hrd
  ·exact cu (v:= .bool _) rfl rfl rfl λw' hw=>⟨fK (by
    unfold po TS.open_;rw [eq_comm,l6];exact ⟨(q.1,q.2.2),cW.2 ⟨q,hq,rfl⟩,hrd⟩),hw.1⟩
  refine GX ?_;exact aH (seen.push eb) lg trivial (λ_ h=>h) rfl (λe' he' hc b tr hb' ⟨k,hk'⟩=>by
   by_cases hs':seen.contains e'.born=true
   ·exact hinv e' he' hs' b tr hb' ⟨k,hk'⟩
   have hbe:e'.born=eb:=by simp at hc hs';exact hc.resolve_left hs'
   have:=born_inj hB he' he hbe;subst this;simp only [Value.pointer.injEq,jW,Addr.mk.injEq,and_true] at hb';subst hb';have h1:=(h.gx _ hk').2 0 (.int .i64 tr.rider) rfl;have h2:=hqr 0 (.int .i64 q.2.2.rider) rfl;rw [h1] at h2;simp only [jW,Value.int.injEq,true_and] at h2;rw [h2];simpa using hrd) (Ky es.toList seen ⟨ek,_,eb⟩ he hs)
 cases hb
def om (ps:List (Int×Nat×PT)) (key:Int):Option Addr:=(ps.find? λp=>p.1==key).map λp=>⟨p.2.1,0,none⟩
theorem BF(ps key):(lG (uK ps) key).getD (.pointer none)= .pointer (om ps key):=by
 rw [Kj];unfold om
 cases ps.find? (λp=>p.1==key)<;>rfl
theorem LL(l key):(lG (mH l) key).getD (.bool false)= .bool (oh l key):=by
 unfold lG mH oh
 induction l with
 |nil=>rfl
 |cons x l ih=>
  grind
theorem BZ(ps used sp key):lY (TS.mk sp ps used).open_ key=(ps.find? λp=>p.1==key).map λp=>p.2.2:=by
 unfold lY TS.open_
 induction ps with
 |nil=>rfl
 |cons p ps ih=>
  grind
theorem Vs{tr s e x}(h:e.kind=1)(hx:s.aG.getD e.bq.toNat default=x):ez tr s e=if (!dT x&&decide (0<(countP s.aG 1 e.place:Int)))=true then 22 else refuse (dT x) 23:=by
 subst hx;unfold ez;simp only;rw [aB h]
theorem ck2{tr s e x}(h:e.kind=2)(hx:s.aG.getD e.bq.toNat default=x):ez tr s e=refuse (dT x) 23:=by
 grind [ez,refuse,dT]
theorem T8{tr s e x}(h:e.kind=3)(hx:s.aG.getD e.bq.toNat default=x):ez tr s e=if dT x=false then 23 else if oh s.used e.bn=true then 6 else refuse (po s.open_ e.rider) 22:=by
 grind [ez,dT,oh,refuse,po]
theorem Vr{tr s e x}(h:e.kind=4)(hx:s.aG.getD e.bq.toNat default=x):ez tr s e=match lY s.open_ e.bn with|none=>7|some t=>if dT x=false then 23 else refuse t.bP 12:=by
 grind [ez,lY,dT,refuse]
theorem TQ{tr s e x}(h:e.kind=5\/e.kind=6)(hx:s.aG.getD e.bq.toNat default=x):ez tr s e=if x.cF≠3 then 23 else refuse (x.bP==decide (e.kind=5)) 12:=by
 grind [ez,refuse]
theorem Vq{tr s e x}(h:e.kind=7)(hx:s.aG.getD e.bq.toNat default=x):ez tr s e=if (decide (x.cF=3)||decide (x.cF=4))=true then 23 else refuse (decide (tr.getD e.place.toNat 0<=(countP s.aG 4 e.place:Int))) 24:=by
 grind [ez,refuse,countP]
theorem ck8{tr s e x}(h:e.kind=8)(hx:s.aG.getD e.bq.toNat default=x):ez tr s e=refuse (decide (x.cF=3)||decide (x.cF=5)) 23:=by
 grind [ez,refuse]
theorem ck9{tr s e x}(h:e.kind=9)(hx:s.aG.getD e.bq.toNat default=x):ez tr s e=refuse (decide (x.cF=5)||decide (x.cF=6)) 23:=by
 grind [ez,refuse]
theorem ck0{tr s e}(h:e.kind<1\/9<e.kind):ez tr s e=0:=by
 grind [ez]
attribute [local irreducible] dT countP refuse po oh om
theorem Me{f a s t}(e:Ev)(w)(h:Io w f a s t)(hbike:0<=e.bq/\e.bq<s.n)(hpl:e.kind=7->0<=e.place/\e.place<f.cI.length):
  Calls Tryz.prog 185 #[.pointer (some ⟨s.sb,0,none⟩), .agg e.cells.toArray] w λr w'=>r= .returned (.int .i64 (ez f.cI t.plain e))/\fM w w':=by
 have hlt:=h.lt;have hrow:=h.row;obtain ⟨k,hk⟩: ∃k:Nat,e.bq=k:=⟨e.bq.toNat,by omega⟩;have hkn:k<s.n:=by omega
 obtain ⟨x,hxk,hrx⟩:=h.aG.row hkn;have hq:s.q<w.heap.size:=by
  obtain ⟨b,off,y,hA,hbl,_,_⟩:=h.aG.at_ hkn;cases hA;exact hbl
 have hx:t.plain.aG.getD e.bq.toNat default=x:=by
  rw [hk,bC,ar];show (t.aG[k]?).getD default=x;rw [hxk];rfl
 have hopen: ∀key,lY t.plain.open_ key=(t.ps.find? λp=>p.1==key).map λp=>p.2.2:=λkey=>BZ t.ps t.used t.aG key;refine HF Tryz.func185 Tryz.ntmps185 ?_;refine cd (v:= .agg _) rfl rfl λb3=>GX ?_;refine JR<|aW 0 ?_;refine aW 1 ?_;refine aW 2 ?_;refine aW 3 ?_;refine aW 4 ?_;refine aW 5 ?_;refine mG 6 rfl (cx k fR fW (q0 rfl) (q0 rfl) (λ_=>⟨hk,hkn⟩))<|aW 7 ?_;refine r1 8 0 ?_;refine aL rfl (mO fC rfl λb5=>?_);refine r1 9 1 ?_;refine aL rfl (mB (v:= .agg _) rfl rfl fW ?_);refine qE 1 ?_;refine GX ?_;refine vS<|GX ?_;refine fI (AU nM av G6 (q0 rfl) (q0 rfl) (h.open_.mem) (λ_=>BF t.ps e.bn)) ?_;refine GD ?_ ?_<;>intro h1
 ·have hk1:e.kind=1:=by simpa using h1
  refine GX ?_;refine jx (en Bc (iQ (q0 rfl))) (λ_ w _=>uM x w)<|GX ?_;refine Hg (en Tryz.call258 (nS (q1 (v:= .pointer _) rfl) (q0 rfl) (q1 (v:= .int _ _) rfl))) (λ_ w hm=>Jr 1 e.place w (h.mem hm)) rfl rfl rfl rfl ?_;refine GD ?_ ?_<;>intro hb
  ·exact cu (v:= .int _ _) rfl rfl rfl λw' hw=>⟨cg (by rw [Vs hk1 hx];exact (aB hb).symm),hw.1⟩
  refine GX ?_;refine jx (en Bc (iQ (q0 rfl))) (λ_ w _=>uM x w)<|jx (vU od (q0 rfl) (λ_=>rfl)) (λ_ w _=>mK (dT x) 23 w)<|GX ?_;exact cu (v:= .int _ _) rfl rfl rfl λw' hw=>⟨cg (by rw [Vs hk1 hx];exact (an (show ¬(!dT x&&decide (0<(countP t.aG 1 e.place:Int)))=true by rw [hb];decide)).symm),hw.1⟩
 refine GD ?_ ?_<;>intro h2
 ·have hk2:e.kind=2:=by simpa using h2
  refine GX ?_;refine jx (en Bc (iQ (q0 rfl))) (λ_ w _=>uM x w)<|jx (vU od (q0 rfl) (λ_=>rfl)) (λ_ w _=>mK (dT x) 23 w)<|GX ?_;exact cu (v:= .int _ _) rfl rfl rfl λw' hw=>⟨cg (ck2 hk2 hx).symm,hw.1⟩
 refine GD ?_ ?_<;>intro h3
 ·have hk3:e.kind=3:=by simpa using h3
  refine GX ?_;refine jx (en Bc (iQ (q0 rfl))) (λ_ w _=>uM x w) ?_;refine GD ?_ ?_<;>intro hb
  ·exact cu (v:= .int _ _) rfl rfl rfl λw' hw=>⟨cg (by rw [T8 hk3 hx];exact (aB (by simpa using hb)).symm),hw.1⟩
  refine GX ?_;refine vS<|GX ?_;refine fI (AU iz av ia (q0 rfl) (q0 rfl) (h.used.mem) (λ_=>LL t.used e.bn)) ?_;refine GD ?_ ?_<;>intro hu
  ·exact cu (v:= .int _ _) rfl rfl rfl λw' hw=>⟨cg (by rw [T8 hk3 hx,an (by simpa using hb)];exact (aB hu).symm),hw.1⟩
  refine GX ?_;refine jx (en Tryz.call259 (jn (q0 rfl) (q0 rfl))) (λ_ w hm=>Bv e.rider w (h.mem hm))<|jx (vU od (q0 rfl) (λ_=>rfl)) (λ_ w _=>mK (po t.open_ e.rider) 22 w)<|GX ?_;exact cu (v:= .int _ _) rfl rfl rfl λw' hw=>⟨cg (by rw [T8 hk3 hx,an (by simpa using hb)];exact (an (show ¬oh t.used e.bn=true by rw [hu];decide)).symm),hw.1⟩
 refine GD ?_ ?_<;>intro h4
 ·have hk4:e.kind=4:=by simpa using h4
  have hck:=Vr (tr:=f.cI) hk4 hx;rw [hopen] at hck;refine GX ?_;refine fI (ti Tryz.underlying374 (q0 rfl)) ?_;refine GD ?_ ?_<;>intro hn
  ·have hnone:t.ps.find? (λp=>p.1==e.bn)=none:=by
    unfold om at hn;cases hf:t.ps.find? (λp=>p.1==e.bn) with
    |none=>rfl
    |some p=>rw [hf] at hn;cases hn
   rw [hnone] at hck;refine GX ?_;exact cu (v:= .int _ _) rfl rfl rfl λw' hw=>⟨cg hck.symm,hw.1⟩
  obtain ⟨p,hf⟩: ∃p,t.ps.find? (λp=>p.1==e.bn)=some p:=by
   unfold om at hn;cases hf:t.ps.find? (λp=>p.1==e.bn) with
   |none=>rw [hf] at hn;cases hn
   |some p=>exact ⟨p,rfl⟩
  have hptr:om t.ps e.bn=some ⟨p.2.1,0,none⟩:=by unfold om;rw [hf];rfl
  rw [hf] at hck;rw [hptr];obtain ⟨hql,hqr⟩:=h.gx p (Al hf);refine GX ?_;refine jx (en Bc (iQ (q0 rfl))) (λ_ w _=>uM x w) ?_;refine GD ?_ ?_<;>intro hb
  ·exact cu (v:= .int _ _) rfl rfl rfl λw' hw=>⟨cg (by rw [hck];exact (aB (by simpa using hb)).symm),hw.1⟩
  refine GX ?_;refine jx (vU od (q0 rfl) (λ_=>rfl)) (λ_ w _=>mK (p.2.2.bP) 12 w)<|GX ?_;exact cu (v:= .int _ _) rfl rfl rfl λw' hw=>⟨cg (by rw [hck];exact (an (by simpa using hb)).symm),hw.1⟩
 refine GD ?_ ?_<;>intro h5
 ·have hk56:e.kind=5\/e.kind=6:= .inl (by simpa using h5);refine GD ?_ ?_<;>intro h5b
  ·refine GD ?_ ?_<;>intro hb
   ·exact cu (v:= .int _ _) rfl rfl rfl λw' hw=>⟨cg (by rw [TQ hk56 hx];exact (aB (by simpa using hb)).symm),hw.1⟩
   refine GX ?_;refine fI (Ni iM (q0 rfl) (q0 rfl))<|jx (vU od (q0 rfl) (λ_=>rfl)) (λ_ w _=>mK (x.bP==decide (e.kind=5)) 12 w)<|GX ?_;exact cu (v:= .int _ _) rfl rfl rfl λw' hw=>⟨cg (by rw [TQ hk56 hx];exact (an (by simpa using hb)).symm),hw.1⟩
  rw [h5] at h5b;cases h5b
 refine GD ?_ ?_<;>intro h6
 ·have hk56:e.kind=5\/e.kind=6:= .inr (by simpa using h6);refine GD ?_ ?_<;>intro hb
  ·exact cu (v:= .int _ _) rfl rfl rfl λw' hw=>⟨cg (by rw [TQ hk56 hx];exact (aB (by simpa using hb)).symm),hw.1⟩
  refine GX ?_;refine fI (Ni iM (q0 rfl) (q0 rfl))<|jx (vU od (q0 rfl) (λ_=>rfl)) (λ_ w _=>mK (x.bP==decide (e.kind=5)) 12 w)<|GX ?_;exact cu (v:= .int _ _) rfl rfl rfl λw' hw=>⟨cg (by rw [TQ hk56 hx];exact (an (by simpa using hb)).symm),hw.1⟩
 refine GD ?_ ?_<;>intro h7
 ·have hk7:e.kind=7:=by simpa using h7
  obtain ⟨hp0,hpn⟩:=hpl hk7;obtain ⟨pk,hpk⟩: ∃k:Nat,e.place=k:=⟨e.place.toNat,by omega⟩;have htl:=h.fl.cI.1;have hpt:pk<a.tn:=by omega
  obtain ⟨tb,toff,tx,htA,htb,htx,htr⟩:=h.fl.cI.at_ hpt;have hgd:f.cI.getD e.place.toNat 0=tx:=by
   rw [hpk,bC,ar,htx];rfl
  refine GD ?_ ?_<;>intro hb
  ·exact cu (v:= .int _ _) rfl rfl rfl λw' hw=>⟨cg (by rw [Vq hk7 hx];exact (aB hb).symm),hw.1⟩
  refine GX ?_;refine vS<|GX ?_;refine jx (en Tryz.call258 (nS (q0 rfl) (q0 rfl) (q0 rfl))) (λ_ w hm=>Jr 4 e.place w (h.mem hm)) ?_;iterate 4 refine G0 ?_
  refine fI (gB (v:= .slice (some ⟨tb,toff,none⟩) a.tn a.tc) jN (q0 rfl) (rc (j:=4) hrow hlt (by show some (Value.slice a.tA a.tn a.tc)=_;rw [htA]))) ?_;iterate 2 refine G0 ?_
  refine fI (cx pk aA ae (q0 rfl) (q0 rfl) (λ_=>⟨hpk,hpt⟩)) ?_;iterate 2 refine G0 ?_
  refine jx (vU od (q0 rfl) (λ_=>rfl)) (λ_ w _=>mK (decide (tx<=(countP t.aG 4 e.place:Int))) 24 w)<|GX ?_;exact cu (v:= .int _ _) rfl rfl rfl λw' hw=>⟨cg (by rw [Vq hk7 hx,hgd];exact (an (by rw [hb];decide)).symm),hw.1⟩
 refine GD ?_ ?_<;>intro h8
 ·have hk8:e.kind=8:=by simpa using h8
  refine GX ?_;refine jx (vU od (q0 rfl) (λ_=>rfl)) (λ_ w _=>mK (decide (x.cF=3)||decide (x.cF=5)) 23 w)<|GX ?_;exact cu (v:= .int _ _) rfl rfl rfl λw' hw=>⟨cg (ck8 hk8 hx).symm,hw.1⟩
 refine GD ?_ ?_<;>intro h9
 ·have hk9:e.kind=9:=by simpa using h9
  refine GX ?_;refine jx (vU od (q0 rfl) (λ_=>rfl)) (λ_ w _=>mK (decide (x.cF=5)||decide (x.cF=6)) 23 w)<|GX ?_;exact cu (v:= .int _ _) rfl rfl rfl λw' hw=>⟨cg (ck9 hk9 hx).symm,hw.1⟩
 refine GX ?_;exact cu (v:= .int _ _) rfl rfl rfl λw' hw=>⟨cg (ck0 (by simp at h1 h2 h3 h4 h5 h6 h7 h8 h9;omega)).symm,hw.1⟩
end Go.Proofs.Cus
namespace Go.Proofs.Cus
open Go Go.RowKit Go.Proofs.E
def zM:Sp:=⟨5,0,0,false⟩
def ua:Sp:=⟨0,0,0,false⟩
def NI (n:Nat):TS:=⟨List.replicate n zM,[],[]⟩
theorem D7(k n)(h:k<n):(List.replicate k zM++List.replicate (n -k) ua).set k zM=List.replicate (k+1) zM++List.replicate (n -(k+1)) ua:=by
 rw [mn _ _ (by simp),show n -k=(n -(k+1))+1 by omega,nW,pQ,jG,zG,List.replicate_succ',cE]
 rfl
theorem D8(k n)(h:k<n):(List.replicate k zM++List.replicate (n -k) ua)[k]?=some ua:=by
 rw [fu (by simp),pQ,jG,jz,aB (by omega)]
theorem EP(f:Fl)(a)(n:Nat)(hn:f.cv=n)(hn1:n<=1000)(w):Calls Tryz.prog 182 #[.agg (f.cells a).toArray] w λe w'=> ∃x:{x:SA//x.n=n},e= .returned (.pointer (some ⟨x.1.sb,0,none⟩))/\Mem w (tE f a x.1 (NI n)) w':=by
 refine HF Tryz.func182 Tryz.ntmps182 ?_;refine cd (v:= .agg _) rfl rfl λb1=>GX ?_;refine ke (3::rg 5 8) (λx:SA=>[(3, .pointer (some ⟨x.sb,0,none⟩))]) (λx=>[box x.sb 232 (AH f a x),IG (some ⟨x.q,0,none⟩) x.c (List.replicate n ua),pmap x.m 377 PT.cells [],oP x.u [],box b1 24 (f.cells a)]) (λx=>x.n=n) ?_ ?_
 ·refine JR<|aW 0 ?_;refine aW 1 ?_;refine aW 2 ?_;refine ON (i:=3) (j:=4) (k:=5) (by decide+kernel) (au 0) ?_ ?_ ?_
  ·refine aL rfl (kz (i:=Tryz.t159) (k:=4) (n:=n) (m:=n) Sp.cells ua fR (by kernel_rfl) rfl rfl rfl (by show Value.int .i64 f.cv=_;rw [hn]) (by show Value.int .i64 f.cv=_;rw [hn]) ⟨⟨bA _,by omega⟩,by decide⟩ rfl λb8=>?_);refine lS (i:=4) (j:=5) (by decide+kernel) (au 1) ?_ ?_
   ·refine aL rfl (rH 377 PT.cells rfl λb9=>?_);refine aI 1 ?_;refine r1 5 2 ?_;refine aL rfl (lN rfl λb10=>?_);refine aI 2 ?_;refine mG 6 rfl (bN jg Dp oF (pt (v:= .agg _) rfl (pt (v:= .slice _ _ _) rfl (pt (v:= .map _) rfl (pt (v:= .map _) rfl E.p0)))) rfl)<|r1 7 3 ?_;refine aL rfl (td (v:= .agg _) rfl rfl λb12=>?_);refine aI 3 ?_;refine w7 (au 4)<|aW 8 ?_;refine qE 0 ?_;exact aO (⟨b12,b8,n,n,b9,b10⟩:SA) lg ⟨rfl,trivial⟩ (λw hw=>hw.pick [3,0,1,2,4] (by decide)) rfl rfl
   refine aL rfl (lN rfl λb10=>?_);refine aI 1 ?_;refine r1 4 2 ?_;refine aL rfl (rH 377 PT.cells rfl λb9=>?_);refine aI 1 ?_;refine mG 6 rfl (bN jg Dp oF (pt (v:= .agg _) rfl (pt (v:= .slice _ _ _) rfl (pt (v:= .map _) rfl (pt (v:= .map _) rfl E.p0)))) rfl)<|r1 7 3 ?_;refine aL rfl (td (v:= .agg _) rfl rfl λb12=>?_);refine aI 3 ?_;refine w7 (au 4)<|aW 8 ?_;refine qE 0 ?_;exact aO (⟨b12,b8,n,n,b9,b10⟩:SA) lg ⟨rfl,trivial⟩ (λw hw=>hw.pick [3,0,1,2,4] (by decide)) rfl rfl
  ·refine aL rfl (rH 377 PT.cells rfl λb9=>?_);refine lS (i:=3) (j:=5) (by decide+kernel) (au 1) ?_ ?_
   ·refine aL rfl (kz (i:=Tryz.t159) (k:=4) (n:=n) (m:=n) Sp.cells ua fR (by kernel_rfl) rfl rfl rfl (by show Value.int .i64 f.cv=_;rw [hn]) (by show Value.int .i64 f.cv=_;rw [hn]) ⟨⟨bA _,by omega⟩,by decide⟩ rfl λb8=>?_);refine r1 5 2 ?_;refine aL rfl (lN rfl λb10=>?_);refine aI 2 ?_;refine mG 6 rfl (bN jg Dp oF (pt (v:= .agg _) rfl (pt (v:= .slice _ _ _) rfl (pt (v:= .map _) rfl (pt (v:= .map _) rfl E.p0)))) rfl)<|r1 7 3 ?_;refine aL rfl (td (v:= .agg _) rfl rfl λb12=>?_);refine aI 3 ?_;refine w7 (au 4)<|aW 8 ?_;refine qE 0 ?_;exact aO (⟨b12,b8,n,n,b9,b10⟩:SA) lg ⟨rfl,trivial⟩ (λw hw=>hw.pick [3,0,1,2,4] (by decide)) rfl rfl
   refine aL rfl (lN rfl λb10=>?_);refine aI 1 ?_;refine r1 3 2 ?_;refine aL rfl (kz (i:=Tryz.t159) (k:=4) (n:=n) (m:=n) Sp.cells ua fR (by kernel_rfl) rfl rfl rfl (by show Value.int .i64 f.cv=_;rw [hn]) (by show Value.int .i64 f.cv=_;rw [hn]) ⟨⟨bA _,by omega⟩,by decide⟩ rfl λb8=>?_);refine mG 6 rfl (bN jg Dp oF (pt (v:= .agg _) rfl (pt (v:= .slice _ _ _) rfl (pt (v:= .map _) rfl (pt (v:= .map _) rfl E.p0)))) rfl)<|r1 7 3 ?_;refine aL rfl (td (v:= .agg _) rfl rfl λb12=>?_);refine aI 3 ?_;refine w7 (au 4)<|aW 8 ?_;refine qE 0 ?_;exact aO (⟨b12,b8,n,n,b9,b10⟩:SA) lg ⟨rfl,trivial⟩ (λw hw=>hw.pick [3,0,1,2,4] (by decide)) rfl rfl
  refine aL rfl (lN rfl λb10=>?_);refine lS (i:=3) (j:=4) (by decide+kernel) (au 1) ?_ ?_
  ·refine aL rfl (kz (i:=Tryz.t159) (k:=4) (n:=n) (m:=n) Sp.cells ua fR (by kernel_rfl) rfl rfl rfl (by show Value.int .i64 f.cv=_;rw [hn]) (by show Value.int .i64 f.cv=_;rw [hn]) ⟨⟨bA _,by omega⟩,by decide⟩ rfl λb8=>?_);refine r1 4 2 ?_;refine aL rfl (rH 377 PT.cells rfl λb9=>?_);refine aI 1 ?_;refine mG 6 rfl (bN jg Dp oF (pt (v:= .agg _) rfl (pt (v:= .slice _ _ _) rfl (pt (v:= .map _) rfl (pt (v:= .map _) rfl E.p0)))) rfl)<|r1 7 3 ?_;refine aL rfl (td (v:= .agg _) rfl rfl λb12=>?_);refine aI 3 ?_;refine w7 (au 4)<|aW 8 ?_;refine qE 0 ?_;exact aO (⟨b12,b8,n,n,b9,b10⟩:SA) lg ⟨rfl,trivial⟩ (λw hw=>hw.pick [3,0,1,2,4] (by decide)) rfl rfl
  refine aL rfl (rH 377 PT.cells rfl λb9=>?_);refine r1 3 2 ?_;refine aL rfl (kz (i:=Tryz.t159) (k:=4) (n:=n) (m:=n) Sp.cells ua fR (by kernel_rfl) rfl rfl rfl (by show Value.int .i64 f.cv=_;rw [hn]) (by show Value.int .i64 f.cv=_;rw [hn]) ⟨⟨bA _,by omega⟩,by decide⟩ rfl λb8=>?_);refine mG 6 rfl (bN jg Dp oF (pt (v:= .agg _) rfl (pt (v:= .slice _ _ _) rfl (pt (v:= .map _) rfl (pt (v:= .map _) rfl E.p0)))) rfl)<|r1 7 3 ?_;refine aL rfl (td (v:= .agg _) rfl rfl λb12=>?_);refine aI 3 ?_;refine w7 (au 4)<|aW 8 ?_;refine qE 0 ?_;exact aO (⟨b12,b8,n,n,b9,b10⟩:SA) lg ⟨rfl,trivial⟩ (λw hw=>hw.pick [3,0,1,2,4] (by decide)) rfl rfl
 intro x g hxn;refine GX ?_;refine lb (4::rg 18 11) (λk:Nat=>[(18, .int .i64 k)]) (λk=>[box x.sb 232 (AH f a x),IG (some ⟨x.q,0,none⟩) x.c (List.replicate k zM++List.replicate (n -k) ua),pmap x.m 377 PT.cells [],oP x.u [],box b1 24 (f.cells a)]) (λk=>k<=n) (λk=>n -k) 0 (λ_ h=>by simpa using h) (bj _) ?_;rintro k g2 hk;refine GD ?_ ?_<;>intro hlt
 ·have hlt':k<n:=by simp at hlt;omega
  have hget:=D8 k n hlt';refine GX ?_;refine cQ (iw 1 (off:=0) zM rfl rfl ae rfl rfl rfl hget rfl rfl ?_);refine GX ?_;exact nc (k+1) (λw hw=>by show Mem _ [_,IG _ _ (List.replicate (k+1) zM++List.replicate (n -(k+1)) ua),_,_,_] w;rw [<-D7 k n hlt'];exact hw) (by show k+1<=n;omega)
 have hkn:k=n:=by simp at hlt;omega
 subst hkn;refine GX ?_;exact cu (v:= .pointer _) rfl rfl rfl λw' hw=>⟨⟨x,hxn⟩,rfl,by have:=hw.pick [0,1,2,3] (by decide);simp only [jG,JN,bF] at this;exact this⟩
def B9 (t:TS) (k:Nat) (to:Sp):TS:=
 {t with ps:=if (t.aG.getD k default).cF=3 then t.ps.eraseP (λp=>p.1==(t.aG.getD k default).bn) else t.ps,aG:=t.aG.set k to}
theorem qB{f a s t w0 w L}(hw:Mem w0 (tE f a s t++L) w)(hmk:marks L=[])(hl:t.aG.length=s.n)(k)(hk:k<s.n)(to):
  Calls Tryz.prog 260 #[.pointer (some ⟨s.sb,0,none⟩), .int .i64 k, .agg to.cells.toArray] w λe w'=> ∃_:Unit,e= .returned (.tuple #[])/\Mem w0 (tE f a s (B9 t k to)++L) w':=by
 obtain ⟨x,hx⟩: ∃x,t.aG[k]?=some x:=⟨_,ah (by omega)⟩;have hg:t.aG.getD k default=x:=by rw [ar,hx];rfl
 have hlv:B9 t k to=⟨t.aG.set k to,if x.cF=3 then t.ps.eraseP (λp=>p.1==x.bn) else t.ps,t.used⟩:=by unfold B9;rw [hg]
 rw [hlv];refine gI hw hmk Tryz.func260 rfl Tryz.ntmps260 rfl ?_;refine GX ?_;refine cd (v:= .agg _) rfl rfl λb5=>GX ?_;refine bS fC rfl λb6=>dN (v:= .agg _) rfl rfl fW ?_;refine GD ?_ ?_<;>intro h3
 ·have hx3:x.cF=3:=by simpa using h3
  rw [aB hx3];refine jb (λw hw=>hw.Vn) rfl<|JQ 1 ?_;refine aW 0 ?_;refine aW 1 ?_;refine aW 2 ?_;refine aW 3 ?_;refine aW 4 ?_;refine aW 5 ?_;refine r1 6 1 ?_;refine aL rfl (KN 0 nM av rfl rfl rfl ?_);refine qE 1 ?_;refine GX ?_;refine jb (λw hw=>hw.Vl) rfl<|E.RT rfl rfl (by decide+kernel)<|GX ?_;refine cQ (eR 3 to rfl rfl fW rfl rfl rfl hx rfl rfl ?_);refine GX ?_;exact kr rfl hmk λw' hw=>⟨(),rfl,hw.tail.tail⟩
 have hx3: ¬x.cF=3:=by simpa using h3
 rw [an hx3];refine GX ?_;refine E.RT rfl rfl (by decide+kernel)<|GX ?_;refine cQ (eR 3 to rfl rfl fW rfl rfl rfl hx rfl rfl ?_);refine GX ?_;exact kr rfl hmk λw' hw=>⟨(),rfl,hw.tail.tail⟩
attribute [local irreducible] om
theorem IU{f a s t w0 w L}(hw:Mem w0 (tE f a s t++L) w)(hmk:marks L=[])(hl:t.aG.length=s.n)(k)(hk:k<s.n)(pa){x}(hx:t.aG[k]?=some x){q p}(hq:t.ps[q]?=some p)(hf:t.ps.find? (λy=>y.1==x.bn)=some p):
  Calls Tryz.prog 261 #[.pointer (some ⟨s.sb,0,none⟩), .int .i64 k, .bool pa] w λe w'=> ∃_:Unit,e= .returned (.tuple #[])/\Mem w0 (tE f a s ⟨t.aG.set k {x with bP:=pa},t.ps.set q (p.1,p.2.1,{p.2.2 with bP:=pa}),t.used⟩++L) w':=by
 have hptr:(lG (uK t.ps) x.bn).getD (.pointer none)= .pointer (some ⟨p.2.1,0,none⟩):=by rw [BF];unfold om;rw [hf];rfl
 refine gI hw hmk Tryz.func261 rfl Tryz.ntmps261 rfl ?_;refine GX ?_;refine E.RT rfl rfl (by decide+kernel)<|GX ?_;refine fI (AU nM av G6 (q0 rfl) (q0 rfl) (pmap_map 2 rfl) (λ_=>hptr))<|GX ?_;refine cQ (zZ 2 (off:=2) {p.2.2 with bP:=pa} rfl rfl gD rfl rfl rfl hq (bA 3) rfl ?_);refine GX ?_;refine cQ (iw 1 (off:=3) {x with bP:=pa} rfl rfl gD rfl rfl rfl hx rfl rfl ?_);refine GX ?_;exact kr rfl hmk λw' hw=>⟨(),rfl,hw⟩
end Go.Proofs.Cus
namespace Go.Proofs.Cus
open Go Go.RowKit Go.Proofs.E
theorem FJ(ps:List (Int×Nat×PT))(r):(ps.eraseP λp=>p.1==r).map (λp=>(p.1,p.2.2))=(ps.map λp=>(p.1,p.2.2)).eraseP λp=>p.1==r:=by
 induction ps with
 |nil=>rfl
 |cons p ps ih=>
  grind
theorem ow(t k to):(B9 t k to).plain=gA t.plain k to:=by
 unfold B9 gA TS.plain TS.open_
 simp only
 congr 1
 split
 ·exact FJ _ _
 rfl
theorem C6{ps:List (Int×Nat×PT)}(hn:((ps.map λp=>(p.1,p.2.2)).map (·.1)).Nodup){q p}(hq:ps[q]?=some p)(v):(ps.set q (p.1,p.2.1,v)).map (λp=>(p.1,p.2.2))=nx (ps.map λp=>(p.1,p.2.2)) p.1 v:=by
 obtain ⟨hql,hqe⟩:=ai.1 hq
 apply fh
 intro i
 unfold nx
 rw [uC,cD]
 simp only [aS,cV,Option.map_map]
 by_cases e:q=i
 ·subst e
  simp [hql,hqe]
 simp only [e,sB]
 cases hi:ps[i]? with
 |none=>rfl
 |some r=>
  obtain ⟨hil,hie⟩:=ai.1 hi
  simp only [ni,Function.comp,jW]
  rw [an (λh=>e ?_)]
  have h1:r.1=p.1:=by simpa using h
  have:=bJ.1 hn
  grind
theorem LM(l id):ou (mH l) id (.bool true)=mH (tD l id):=by
 have key: ∀l:List Int,ou (mH l) id (.bool true)=mH (if id∈l then l else l++[id]):=by
  intro l
  induction l with
  |nil=>rfl
  |cons x l ih=>
   grind [ou,mH,tD]
 rw [key]
 unfold tD
 by_cases hm:id∈l
 ·rw [aB hm,aB (mI.2 hm)]
 rw [an hm,an (λh=>hm (mI.1 h))]
theorem F1{t:TS}{id v}(h:lY t.plain.open_ id=some v): ∃(q:Nat) (p:Int×Nat×PT),t.ps[q]?=some p/\t.ps.find? (λy=>y.1==id)=some p/\p.1=id/\p.2.2=v:=by
 have h':lY (TS.mk t.aG t.ps t.used).open_ id=some v:=h
 rw [BZ] at h'
 cases hf:t.ps.find? (λp=>p.1==id) with
 |none=>rw [hf] at h';cases h'
 |some p=>
  rw [hf] at h'
  simp only [ni,jW] at h'
  obtain ⟨q,hq⟩:=cG.1 (Al hf)
  grind
theorem KU{s}{e:Ev}{k:Nat}(hk:e.bq=k):(e.kind=1->mF s e=gA s k ⟨1,e.place,0,false⟩)/\(e.kind=2->mF s e=gA s k ⟨2,e.place,0,false⟩)/\(e.kind=7->mF s e=gA s k ⟨4,e.place,0,false⟩)/\(e.kind=8->mF s e=gA s k ⟨5,0,0,false⟩)/\(e.kind=9->mF s e=gA s k ⟨6,0,0,false⟩)/\((e.kind<1\/9<e.kind)->mF s e=s):=by
 have hkt:e.bq.toNat=k:=by omega
 refine ⟨λh=>?_,λh=>?_,λh=>?_,λh=>?_,λh=>?_,λh=>?_⟩<;>unfold mF<;>simp only [hkt]
 ·rw [aB h]
 ·rw [an (by omega),aB h]
 ·grind
 ·grind
 ·grind
 grind
theorem Qh{t:TS}{n k:Nat}{x tr}{e:Ev}(hI:jF n t.plain)(hk:e.bq=k)(hx:t.aG[k]?=some x)(hg:t.plain.aG.getD e.bq.toNat default=x)(h56:e.kind=5\/e.kind=6)(hc:ez tr t.plain e=0):
  ∃(q:Nat) (p:Int×Nat×PT),t.ps[q]?=some p/\t.ps.find? (λy=>y.1==x.bn)=some p/\(TS.mk (t.aG.set k {x with bP:=decide (e.kind=5)}) (t.ps.set q (p.1,p.2.1,{p.2.2 with bP:=decide (e.kind=5)})) t.used).plain=mF t.plain e:=by
 rw [TQ h56 hg] at hc;split at hc
 ·cases hc
 rename_i hw3;have hw3':x.cF=3:=kM hw3;obtain ⟨v,hv,_⟩:=hI.spot k x hx hw3';have hlk:=uS hI.keys hv;obtain ⟨q,p,hq,hf,hp1,hp2⟩:=F1 hlk;refine ⟨q,p,hq,hf,?_⟩;have hkt:e.bq.toNat=k:=by omega
 unfold mF;simp only;rw [an (by omega),an (by omega),an (by omega),an (by omega),aB h56,hg,hlk,hkt];unfold TS.plain TS.open_;simp only;rw [C6 hI.keys hq,hp1,hp2]
attribute [local irreducible] om
theorem UB{f a s t w0 w L tr}(e:Ev)(hw:Mem w0 (tE f a s t++L) w)(hmk:marks L=[])(hI:jF s.n t.plain)(hb:0<=e.bq/\e.bq<s.n)(hc:ez tr t.plain e=0):
  Calls Tryz.prog 186 #[.pointer (some ⟨s.sb,0,none⟩), .agg e.cells.toArray] w λr w'=> ∃t':{t':TS//t'.plain=mF t.plain e},r= .returned (.tuple #[])/\Mem w0 (tE f a s t'.1++L) w':=by
 obtain ⟨k,hk⟩: ∃k:Nat,e.bq=k:=⟨e.bq.toNat,by omega⟩;have hl:t.aG.length=s.n:=hI.len;have hkn:k<s.n:=by omega
 obtain ⟨x,hx⟩: ∃x,t.aG[k]?=some x:=⟨_,ah (by omega)⟩;have hg:t.plain.aG.getD e.bq.toNat default=x:=by
  rw [hk,bC,ar];show (t.aG[k]?).getD default=x;rw [hx];rfl
 obtain ⟨d1,d2,d7,d8,d9,d0⟩:=KU (s:=t.plain) hk;obtain ⟨ed,es,eat,el,ekind,ebike,epl,erd,erid⟩:=e;simp only at hk hb hc hg d1 d2 d7 d8 d9 d0;subst hk;refine gI hw hmk Tryz.func186 rfl Tryz.ntmps186 rfl ?_;refine GX ?_;refine cd (v:= .agg _) rfl rfl λb3=>GX ?_;refine fI (bN dE wA fC (pt (v:= .int _ _) rfl (pt (v:= .int _ _) rfl E.p0)) rfl) ?_;refine bS fC rfl λb4=>dN (v:= .agg _) rfl rfl fW ?_;refine GD ?_ ?_<;>intro h1
 ·have hk1:ekind=1:=by simpa using h1
  refine GX ?_;refine fI (bN dE wA fC (pt (v:= .int _ _) rfl (pt (v:= .int _ _) rfl E.p0)) rfl) ?_;refine cQ (dD (en Bb (nS (q0 rfl) (q0 rfl) (q0 rfl))) (λw hw=>qB (Mem.uw (X:=[_,_]) (S:=tE f a s t) hw) hmk hl k hkn ⟨1,epl,0,false⟩) rfl (λ_=>rfl) λu=>?_);refine GX ?_;exact kr rfl hmk λw' hw=>⟨⟨_,(ow _ _ _).trans (d1 hk1).symm⟩,rfl,Mem.xU (X:=[_,_]) hw⟩
 refine GD ?_ ?_<;>intro h2
 ·have hk2:ekind=2:=by simpa using h2
  refine GX ?_;refine fI (bN dE wA fC (pt (v:= .int _ _) rfl (pt (v:= .int _ _) rfl E.p0)) rfl) ?_;refine cQ (dD (en Bb (nS (q0 rfl) (q0 rfl) (q0 rfl))) (λw hw=>qB (Mem.uw (X:=[_,_]) (S:=tE f a s t) hw) hmk hl k hkn ⟨2,epl,0,false⟩) rfl (λ_=>rfl) λu=>?_);refine GX ?_;exact kr rfl hmk λw' hw=>⟨⟨_,(ow _ _ _).trans (d2 hk2).symm⟩,rfl,Mem.xU (X:=[_,_]) hw⟩
 refine GD ?_ ?_<;>intro h3
 ·have hk3:ekind=3:=by simpa using h3
  have hck:=hc;rw [T8 hk3 hg] at hck;obtain ⟨hpk,hu⟩:dT x=true/\oh t.used erid=false:=by
   split at hck
   ·cases hck
   rename_i h1;split at hck
   ·cases hck
   rename_i h2;exact ⟨by simpa using h1,by show oh t.plain.used erid=false;simpa using h2⟩
  have hno:t.ps.find? (λp=>p.1==erid)=none:=by
   rw [List.find?_eq_none];intro p hp hpe;have h1:=hI.used (p.1,p.2.2) (cW.2 ⟨p,hp,rfl⟩);simp only [UO] at hpe;simp only [hpe] at h1;rw [show t.plain.used=t.used from rfl,hu] at h1;cases h1
  refine GX ?_;refine jb (λw hw=>hw.Vn) rfl<|JQ 1 ?_;refine aW 0 ?_;refine aW 1 ?_;refine aW 2 ?_;refine aW 3 ?_;refine aW 4 ?_;refine aW 5 ?_;refine aW 6 ?_;refine aW 7 ?_;refine aW 8 ?_;refine aW 9 ?_;refine mG 10 rfl (bN EZ Ts Tryz.zeroValue377 (pt (v:= .int _ _) rfl (pt (v:= .int _ _) rfl E.p0)) rfl)<|r1 11 1 ?_;refine aL rfl (td (v:= .agg _) rfl rfl λb42=>?_);refine r1 12 2 ?_;refine aL rfl (KM 0 ⟨erd,k,false⟩ nM av rfl rfl rfl rfl rfl hno ?_);refine qE 1 ?_;refine GX ?_;refine jb (λw hw=>hw.Vl) rfl<|E.RT rfl rfl (by decide+kernel)<|GX ?_;refine ve (v:= .bool true) 5 iz av rfl rfl rfl rfl<|GX ?_;refine E.RT rfl rfl (by decide+kernel)<|GX ?_;refine cQ (eR 3 ⟨3,0,erid,false⟩ rfl rfl fW rfl rfl rfl hx rfl rfl ?_);refine GX ?_;exact kr rfl hmk λw' hw=>⟨⟨⟨t.aG.set k ⟨3,0,erid,false⟩,t.ps++[(erid,b42,⟨erd,k,false⟩)],tD t.used erid⟩,by
   unfold mF;simp only;rw [an (by omega),an (by omega),aB hk3];unfold TS.plain TS.open_;simp⟩,rfl,by have h9:=hw.tail.tail;rw [LM] at h9;exact h9⟩
 refine GD ?_ ?_<;>intro h4
 ·have hk4:ekind=4:=by simpa using h4
  have hck:=hc;rw [Vr hk4 hg] at hck;obtain ⟨v,hv,hpk⟩: ∃v,lY t.plain.open_ erid=some v/\dT x=true:=by
   cases hlk:lY t.plain.open_ erid with
   |none=>rw [hlk] at hck;cases hck
   |some v=>
    rw [hlk] at hck;simp only at hck;split at hck
    ·cases hck
    rename_i h1;exact ⟨v,rfl,by simpa using h1⟩
  obtain ⟨q,p,hq,hf,hp1,hp2⟩:=F1 hv;obtain ⟨hj0,y,hy,y3,yr,yp⟩:=hI.bq _ (o9 hv);simp only at hj0 hy;obtain ⟨j,hj⟩: ∃j:Nat,v.bq=j:=⟨v.bq.toNat,by omega⟩;rw [hj,bC] at hy;have hjn:j<s.n:=by rw [<-hl];exact (ai.1 hy).1
  have hjk:j≠k:=λe=>by
   have h9:t.aG[j]?=some y:=hy;rw [e,hx] at h9;cases h9;exact nD hpk y3
  have hptr:(lG (uK t.ps) erid).getD (.pointer none)= .pointer (some ⟨p.2.1,0,none⟩):=by rw [BF];unfold om;rw [hf];rfl
  have hpb:p.2.2.bq=j:=by rw [hp2];exact hj
  have hx2:(t.aG.set j x)[k]?=some x:=by rw [fQ hjk];exact hx
  have hy2:t.aG[j]?=some y:=hy;refine GX ?_;refine vS<|GX ?_;refine fI (AU nM av G6 (q0 rfl) (q0 rfl) (pmap_map 4 rfl) (λ_=>hptr))<|GX ?_;refine E.RT rfl rfl (by decide+kernel)<|GX ?_;refine fI (gB (v:= .int .i64 j) aj (q0 rfl) (pc 4 (r:=1) rfl hq (by show some (Value.int .i64 p.2.2.bq)=_;rw [hpb])))<|GX ?_;refine cQ (eR 3 x rfl rfl fW rfl rfl rfl hy2 rfl rfl ?_);refine GX ?_;refine E.RT rfl rfl (by decide+kernel)<|GX ?_;refine cQ (eR 3 ⟨3,0,erid,false⟩ rfl rfl fW rfl rfl rfl hx2 rfl rfl ?_);refine GX ?_;refine cQ (zZ 4 (off:=1) {p.2.2 with bq:=(k:Int)} rfl rfl ae rfl rfl rfl hq (by show 1+1<=3;decide) rfl ?_);refine GX ?_;exact kr rfl hmk λw' hw=>⟨⟨⟨(t.aG.set j x).set k ⟨3,0,erid,false⟩,t.ps.set q (p.1,p.2.1,{p.2.2 with bq:=(k:Int)}),t.used⟩,by
   unfold mF;simp only at hg|-;rw [an (by omega),an (by omega),an (by omega),aB hk4,hv,hg];unfold TS.plain TS.open_;simp only [bC,hj];rw [C6 hI.keys hq,hp1,hp2]⟩,rfl,hw.tail.tail⟩
 refine GD ?_ ?_<;>intro h5
 ·have h56:ekind=5\/ekind=6:= .inl (by simpa using h5);obtain ⟨q,p,hq,hf,hpz⟩:=Qh hI rfl hx hg h56 hc;refine GD ?_ ?_<;>intro h5b
  ·refine cQ (dD (en Tryz.call261 (nS (q0 rfl) (q0 rfl) (q0 rfl))) (λw hw=>IU (Mem.uw (X:=[_,_]) (S:=tE f a s t) hw) hmk hl k hkn (decide (ekind=5)) hx hq hf) rfl (λ_=>rfl) λu=>?_);refine GX ?_;exact kr rfl hmk λw' hw=>⟨⟨_,hpz⟩,rfl,Mem.xU (X:=[_,_]) hw⟩
  rw [h5] at h5b;cases h5b
 refine GD ?_ ?_<;>intro h6
 ·have h56:ekind=5\/ekind=6:= .inr (by simpa using h6);obtain ⟨q,p,hq,hf,hpz⟩:=Qh hI rfl hx hg h56 hc;refine GX ?_;refine cQ (dD (en Tryz.call261 (nS (q0 rfl) (q0 rfl) (q0 rfl))) (λw hw=>IU (Mem.uw (X:=[_,_]) (S:=tE f a s t) hw) hmk hl k hkn (decide (ekind=5)) hx hq hf) rfl (λ_=>rfl) λu=>?_);refine GX ?_;exact kr rfl hmk λw' hw=>⟨⟨_,hpz⟩,rfl,Mem.xU (X:=[_,_]) hw⟩
 refine GD ?_ ?_<;>intro h7
 ·have hk7:ekind=7:=by simpa using h7
  refine GX ?_;refine fI (bN dE wA fC (pt (v:= .int _ _) rfl (pt (v:= .int _ _) rfl E.p0)) rfl) ?_;refine cQ (dD (en Bb (nS (q0 rfl) (q0 rfl) (q0 rfl))) (λw hw=>qB (Mem.uw (X:=[_,_]) (S:=tE f a s t) hw) hmk hl k hkn ⟨4,epl,0,false⟩) rfl (λ_=>rfl) λu=>?_);refine GX ?_;exact kr rfl hmk λw' hw=>⟨⟨_,(ow _ _ _).trans (d7 hk7).symm⟩,rfl,Mem.xU (X:=[_,_]) hw⟩
 refine GD ?_ ?_<;>intro h8
 ·have hk8:ekind=8:=by simpa using h8
  refine GX ?_;refine fI (bN dE wA fC (pt (v:= .int _ _) rfl E.p0) rfl) ?_;refine cQ (dD (en Bb (nS (q0 rfl) (q0 rfl) (q0 rfl))) (λw hw=>qB (Mem.uw (X:=[_,_]) (S:=tE f a s t) hw) hmk hl k hkn ⟨5,0,0,false⟩) rfl (λ_=>rfl) λu=>?_);refine GX ?_;exact kr rfl hmk λw' hw=>⟨⟨_,(ow _ _ _).trans (d8 hk8).symm⟩,rfl,Mem.xU (X:=[_,_]) hw⟩
 refine GD ?_ ?_<;>intro h9
 ·have hk9:ekind=9:=by simpa using h9
  refine GX ?_;refine fI (bN dE wA fC (pt (v:= .int _ _) rfl E.p0) rfl) ?_;refine cQ (dD (en Bb (nS (q0 rfl) (q0 rfl) (q0 rfl))) (λw hw=>qB (Mem.uw (X:=[_,_]) (S:=tE f a s t) hw) hmk hl k hkn ⟨6,0,0,false⟩) rfl (λ_=>rfl) λu=>?_);refine GX ?_;exact kr rfl hmk λw' hw=>⟨⟨_,(ow _ _ _).trans (d9 hk9).symm⟩,rfl,Mem.xU (X:=[_,_]) hw⟩
 refine GX ?_;exact kr rfl hmk λw' hw=>⟨⟨t,(d0 (by simp at h1 h2 h3 h4 h5 h6 h7 h8 h9;omega)).symm⟩,rfl,hw.tail.tail⟩
end Go.Proofs.Cus
