import Derived.Test.YtomomjgdeomgiaaGreatBA12
set_option maxRecDepth 100000
set_option maxHeartbeats 8000000
set_option linter.all false
namespace Go.Proofs.Aud
open Go Go.RowKit Go.Proofs.E Go.Proofs.Cus Go.Proofs.Rid Go.Proofs.Far Go.Proofs.Net
def Gw (ts:List Rd) (r:Rd):Bool:=match Ce ts r.id with
 |none=>true
 |some k=>!decide (ts.getD k default=r)
def IQ (ts rs:List Rd) (i:Nat) (r:Rd):List Fd:=if (Gw ts r||decide (mQ (Ce rs r.id)<i))=true then [⟨4,r.id,i⟩] else []
def AJ (ts rs:List Rd) (n:Nat):List Fd:=(List.range n).flatMap λi=>IQ ts rs i (rs.getD i default)
def BB (rs l:List Rd):List Fd:=l.flatMap λr=>if (Ce rs r.id).isSome=true then [] else [⟨4,r.id,-1⟩]
def Gx (ts:List jq) (r:jq):Bool:=match Ey ts r.bn with
 |none=>true
 |some k=>!decide (ts.getD k default=r)
def Jb (ts rs:List jq) (i:Nat) (r:jq):List Fd:=if (Gx ts r||decide (mQ (Ey rs r.bn)<i))=true then [⟨5,r.bn,i⟩] else []
def AS (ts rs:List jq) (n:Nat):List Fd:=(List.range n).flatMap λi=>Jb ts rs i (rs.getD i default)
def Ch (rs l:List jq):List Fd:=l.flatMap λr=>if (Ey rs r.bn).isSome=true then [] else [⟨5,r.bn,-1⟩]
def lQ (ts ss:List Rd) (ys:List jq) (h:Int) (rs:List Rd) (fs:List jq) (pd:List Aud.Py) (settled re:Int):List Fd:=
 []++AJ ts rs rs.length++BB rs ts++AS ys fs fs.length++Ch fs ys++sV pd ss ys++(if h<settled then [⟨8,0,-1⟩] else [])++(if re≠0 then [⟨9,0,0⟩] else [])
theorem He (f:Fl) (p:Pr) (vs:List Pen.V) (l:List Rd):(yF f p vs l).length<=l.length:=by
 unfold yF
 split
 ·rename_i h
  have e2:=(vJ h).length_eq
  have e3:=dK (λr:Rd=>!r.open_) l
  simp only [aS] at e2
  omega
 simp
theorem yJ (pd:List Aud.Py) (ss:List Rd) (ys:List jq):(sV pd ss ys).length<=2*pd.length+ss.length:=by
 have hln: ∀i,(kd pd ss ys i).length<=i*2:=dX λi=>by
  have h1:(nR pd ss ys i (pd.getD i default)).length<=1:=by unfold nR;split<;>simp
  have h2:(sW ss i (pd.getD i default)).length<=1:=by unfold sW;split<;>simp
  rw [aQ];omega
 have hlu: ∀l:List Rd,(km pd l).length<=l.length*1:=lM λr=>by split<;>simp
 have h1:=hln pd.length
 have h2:=hlu ss
 unfold sV
 rw [aQ]
 omega
theorem IH {α:Type} {w:World} {k n b off i:Nat} {enc:α->List Value} {xs:List α} {x:α} (h:eG w k enc (some ⟨b,off,none⟩) n xs) (hx:xs[i]?=some x):jS w b (off+i*k) (enc x):=by
 have h1:=(ai.1 hx).1
 obtain ⟨b',o',e,_,hc⟩:=h.2.2 (by rw [<-h.1];omega)
 cases e
 exact hc i x hx
theorem Tz {fs:Array Field} (h:Tryz.prog.underlying 109=some (.struct fs):=by exact eH):df Tryz.prog fs [(0,37)]:=by
 rw [eH] at h
 cases h
 intro w
 kernel_rfl
attribute [local irreducible] dP dF oQ jw sg jA sV AJ BB AS Ch
theorem Ml (f:Fl) (fa:FA) (p:Pr) (a:tz) (x:SX) (b:BX) (cX:List Ev) (V:List Pen.V) (pds:List Aud.Py) (xs:List RX) (ys:List FX) (rs:List Rd) (fs:List jq) (re:Int) (w:World) (hf:mE w f fa) (hp:qh w p a) (hev:rO w b.ev.A b.ev.n cX) (hvs:Pen.zw w b.vs.A b.vs.n V) (h0:gS f p=0) (hn:cX.length<=40) (hpl:zz cX)
  (hrs:lZ w b.rd.A b.rd.n xs) (hrr:rs=xs.map (·.r)) (hfs:eG w 4 FX.cells b.fr.A b.fr.n ys/\ ∀x∈ys,eG w 3 CE.cells x.A x.b.items.length x.b.items) (hfr:fs=ys.map (·.b)) (hpd:eG w 3 rT b.pd.A b.pd.n pds) (hlen:rs.length<=10000/\fs.length<=10000/\pds.length<=10000)
  (hre: ∀(z:TY) (u:World),Vt f p cX V b.settled z->T2 u z->fM w u->Calls Tryz.prog 452 #[z.t.y.v,b.rf.v] u λe w'=>e= .returned (.int .i64 re)/\fM u w'):
  Calls Tryz.prog 445 #[.agg (hP f fa p a x b).toArray] w λe w'=> ∃z:Option Addr×Nat,e= .returned (.slice z.1 (lQ (dP f cX) ((dP f cX).filter (dF b.settled)) (yF f p V ((dP f cX).filter (dF b.settled))) (oQ f cX) rs fs pds b.settled re).length z.2)/\Mem w [ee z.1 z.2 (lQ (dP f cX) ((dP f cX).filter (dF b.settled)) (yF f p V ((dP f cX).filter (dF b.settled))) (oQ f cX) rs fs pds b.settled re)] w':=by
 obtain ⟨settled,ev,st,⟨dA,dn,dc⟩,vs,⟨rfA,rfn,rfc⟩,pd,rf,rl,sp,pl⟩:=b
 simp only at hev hvs hrs hfs hpd hre|-
 have hdl:rs.length=dn:=by rw [hrr,aS];exact hrs.1.1
 have hfl:fs.length=rfn:=by rw [hfr,aS];exact hfs.1.1
 have hrdI: ∀(ts:List Rd) i,(AJ ts rs i).length<=i*1:=λts=>by unfold AJ;exact dX λi=>by unfold IQ;split<;>simp
 have hfrI: ∀(ts:List jq) i,(AS ts fs i).length<=i*1:=λts=>by unfold AS;exact dX λi=>by unfold Jb;split<;>simp
 have hrdM: ∀l:List Rd,(BB rs l).length<=l.length*1:=by unfold BB;exact lM λr=>by split<;>simp
 have hfrM: ∀l:List jq,(Ch fs l).length<=l.length*1:=by unfold Ch;exact lM λr=>by split<;>simp
 have hal:2*(dP f cX).length<=cX.length:=vI cX
 refine dd Tryz.func445 rfl Tryz.ntmps445 rfl ?_
 refine ak ?_
 refine R0 ?_
 refine cd (v:= .agg _) rfl rfl λb1=>?_
 refine xV (aU (v:= .slice _ _ _) (q0 rfl)) rfl rfl ?_
 refine XN ?_
 refine ad ?_
 refine ak ?_
 refine R0 ?_
 refine xV (az eH rfl aM rfl (q0 rfl)) rfl rfl ?_
 refine xV (eP cP aM (q0 rfl)) rfl rfl ?_
 refine oD (en Tryz.call446 (iQ (q0 rfl))) (λw hw=>Gy f fa p a x ⟨settled,ev,st,⟨dA,dn,dc⟩,vs,⟨rfA,rfn,rfc⟩,pd,rf,rl,sp,pl⟩ cX V w (hf.mem hw) (hp.mem hw) (hev.mem hw) (hvs.mem hw) h0 hn hpl) rfl (λ_=>rfl) λdv=>?_
 obtain ⟨⟨⟨⟨⟨rA,rn,rcc⟩,⟨sA,sn,sc⟩,⟨fA,fn,fc⟩,⟨yA,yn,yc⟩,th⟩,zr,zs,zf,zy⟩,R⟩,hE,hU⟩:=dv
 have hT: ∀{w0 w:World} {L:List E.Item} (j:Nat),Mem w0 L w->L[j]?=some (jK R)->T2 w ⟨⟨⟨rA,rn,rcc⟩,⟨sA,sn,sc⟩,⟨fA,fn,fc⟩,⟨yA,yn,yc⟩,th⟩,zr,zs,zf,zy⟩:=λj hw hj=>hU _ (hw.item hj).1
 refine bS w9 rfl λb3=>?_
 refine dN (v:= .agg _) rfl rfl lO ?_
 refine XN ?_
 refine ad ?_
 refine ak ?_
 refine R0 ?_
 refine xV (aU (v:= .slice _ _ _) (q0 rfl)) rfl rfl ?_
 refine XN ?_
 refine ad ?_
 refine ak ?_
 refine ak ?_
 refine gM (φ:=zr.length=rn/\zs.length=sn/\zy.length=yn) (λw hw=>by
  have h1:=hT 1 hw rfl
  exact ⟨h1.r.1.1,h1.s.1.1,h1.y.1.1⟩) ?_
 rintro ⟨hzr,hzs,hzy⟩
 have hz20:zr.length<=20/\zs.length<=20/\zy.length<=20:=by
  have e1:=aP List.length hE.r
  have e2:=aP List.length hE.s
  have e3:=aP List.length hE.y
  have e4:=He f p V ((dP f cX).filter (dF settled))
  have e5:=dK (dF settled) (dP f cX)
  simp only [aS] at e1 e2 e3
  omega
 obtain ⟨ts,hts⟩: ∃t,t=zr.map (·.r):=⟨_,rfl⟩
 obtain ⟨tb,htb⟩: ∃t,t=zy.map (·.b):=⟨_,rfl⟩
 obtain ⟨sl,hsl⟩: ∃t,t=zs.map (·.r):=⟨_,rfl⟩
 refine R0 ?_
 refine xV (az eH rfl aM rfl (q0 rfl)) rfl rfl ?_
 refine xV (az ax rfl di rfl (q0 rfl)) rfl rfl ?_
 refine xV (eL ib (q0 rfl)) rfl rfl ?_
 refine xV (dw aT (q0 rfl)) rfl rfl ?_
 refine xV (ay (v:= .int _ _) (q0 rfl)) rfl rfl ?_
 refine XN ?_
 refine ad ?_
 refine cq ?_
 obtain ⟨o0,ho0⟩: ∃o,o=([]:List Fd):=⟨_,rfl⟩
 have hlo0:o0.length<=100000:=by
  skip
  rw [ho0]
  simp only [aQ,dO]
  omega
 refine ef [4,5,6,7,22,23,24,25,26,27,28,29,30,31,32,33,34,35,36,37,38,39,40,41,42,43,44,45,46,47,48,49,50,51,52,53,54,55,56,57,58,59,60,61] (λq:Nat×Option Addr×Nat=>[(22, .int .i64 q.1),(4, .slice q.2.1 (o0++AJ ts rs q.1).length q.2.2)]) (λq=>[ee q.2.1 q.2.2 (o0++AJ ts rs q.1),box b3 531 (TX.cells ⟨⟨rA,rn,rcc⟩,⟨sA,sn,sc⟩,⟨fA,fn,fc⟩,⟨yA,yn,yc⟩,th⟩),jK R,box b1 109 (hP f fa p a x ⟨settled,ev,st,⟨dA,dn,dc⟩,vs,⟨rfA,rfn,rfc⟩,pd,rf,rl,sp,pl⟩)]) (λq=>q.1<=dn) (λq=>dn -q.1) (0,none,0) ⟨rfl,by rw [ho0];unfold AJ;rfl,trivial⟩ (λw hw=>by rw [ho0];unfold AJ;exact hw.fY _ _ _ rfl) rfl (bj _) ?_
 rintro ⟨i,A,c⟩ g hi
 have hi:i<=dn:=hi
 have hlni:=hrdI ts i
 refine ak ?_
 refine R0 ?_
 refine xV (gK (q0 rfl) (q0 rfl)) rfl rfl ?_
 refine XN ?_
 refine ad ?_
 refine ak ?_
 refine bD rfl (λhlt=>?_) (λhlt=>?_)
 ·have hlt':i<dn:=by simpa using hlt
  obtain ⟨pb,off,y,hAe,hpb,hpi,hrp⟩:=hrs.1.at_ hlt'
  have hgi:rs[i]?=some y.r:=by rw [hrr,cV,hpi];rfl
  have hst:AJ ts rs (i+1)=AJ ts rs i++IQ ts rs i y.r:=by unfold AJ;rw [kj,ar,hgi];rfl
  have hlw:(IQ ts rs i y.r).length<=1:=by unfold IQ;split<;>simp
  refine bZ ?_
  refine ad ?_
  refine ak ?_
  refine cq ?_
  refine ak ?_
  refine R0 ?_
  refine xV (ay (v:= .int _ _) (q0 rfl)) rfl rfl ?_
  refine xV (cx i aT ba (q0 (by rw [<-hAe];rfl)) (q0 rfl) (λ_=>⟨rfl,by omega⟩)) rfl rfl ?_
  refine xV (iV fT ba (q0 rfl) (λ_ w' hw' j u hu=>((hw'.1.cell (p:=⟨pb,off+i*13+j,none⟩) hpb).trans (hrp j u hu))) rfl) rfl rfl ?_
  refine bS dp rfl λb6=>?_
  refine xV (aU (v:= .int _ _) (q0 rfl)) rfl rfl ?_
  refine dN (v:= .agg _) rfl rfl ba ?_
  refine XN ?_
  refine ad ?_
  refine ak ?_
  refine R0 ?_
  refine xV (az da rfl di rfl (q0 rfl)) rfl rfl ?_
  refine xV (eL ib (q0 rfl)) rfl rfl ?_
  refine xV (az bE rfl ae rfl (q0 rfl)) rfl rfl ?_
  refine xV (eL aj (q0 rfl)) rfl rfl ?_
  refine xC (en Ba (jn (q0 rfl) (q0 rfl))) (λ_ w hw=>sQ ⟨rA,rn,rcc⟩ ts y.r.id w ⟨zr,(hT 3 hw rfl).r,hts.symm⟩) rfl rfl ?_
  refine xV (aU (v:= .int _ _) (q0 rfl)) rfl rfl ?_
  refine XN ?_
  refine ad ?_
  refine ak ?_
  refine ke [32,33,34,35,36,37,38,39,40,41,42,43,44,45,46,47,48,49,50,51,52,53] (λ_:Unit=>[(53, .bool (Gw ts y.r||decide (mQ (Ce rs y.r.id)<i)))]) (λ_=>[box b6 78 y.cells,ee A c (o0++AJ ts rs i),box b3 531 (TX.cells ⟨⟨rA,rn,rcc⟩,⟨sA,sn,sc⟩,⟨fA,fn,fc⟩,⟨yA,yn,yc⟩,th⟩),jK R,box b1 109 (hP f fa p a x ⟨settled,ev,st,⟨dA,dn,dc⟩,vs,⟨rfA,rfn,rfc⟩,pd,rf,rl,sp,pl⟩)]) (λ_=>True) ?_ ?_
  ·cases hk:Ce ts y.r.id with
   |none=>
    have hd:Gw ts y.r=true:=by unfold Gw;rw [hk]
    rw [hd]
    refine R1 rfl (by decide+kernel) ?_
    refine xV (ay (v:= .int _ _) (q0 rfl)) rfl rfl ?_
    refine xV (gK (q0 rfl) (q0 rfl)) rfl rfl ?_
    refine xV (ay (v:= .bool _) (q0 rfl)) rfl rfl ?_
    refine fE (cO (v:= .pointer none) ((by simp [mQ]))) rfl rfl rfl rfl ?_
    refine fE (cO (v:= .slice none 0 0) ((by simp [mQ]))) rfl rfl rfl rfl ?_
    refine fE (cO (v:= .int .i64 0) ((by simp [mQ]))) rfl rfl rfl rfl ?_
    refine fE (cO (v:= .pointer none) ((by simp [mQ]))) rfl rfl rfl rfl ?_
    refine fE (cO (v:= .agg #[]) ((by simp [mQ]))) rfl rfl rfl rfl ?_
    refine fE (cO (v:= .agg #[]) ((by simp [mQ]))) rfl rfl rfl rfl ?_
    refine fE (cO (v:= .bool false) ((by simp [mQ]))) rfl rfl rfl rfl ?_
    refine fE (cO (v:= .bool false) ((by simp [mQ]))) rfl rfl rfl rfl ?_
    refine xV (jJ (q0 rfl) rfl (λh=>by first|rfl|(rw [h];rfl))) rfl rfl ?_
    refine xV (ay (v:= .bool _) (q0 rfl)) rfl rfl ?_
    refine fE (az eH rfl aM rfl (q0 rfl)) rfl rfl rfl rfl ?_
    refine fE (az ax rfl di rfl (q1 rfl)) rfl rfl rfl rfl ?_
    refine fE (eL ib (q1 rfl)) rfl rfl rfl rfl ?_
    refine fE (az bE rfl ae rfl (q0 rfl)) rfl rfl rfl rfl ?_
    refine fE (eL aj (q1 rfl)) rfl rfl rfl rfl ?_
    refine AE (en Ba (jn (q1 (v:= .slice _ _ _) rfl) (q1 (v:= .int _ _) rfl))) (λ_ w hw=>sQ ⟨dA,dn,dc⟩ rs y.r.id w ⟨xs,hrs.mem hw,hrr.symm⟩) rfl rfl rfl rfl ?_
    refine fE (ay (v:= .int _ _) (q0 rfl)) rfl rfl rfl rfl ?_
    refine fE (gK (q1 rfl) (q1 rfl)) rfl rfl rfl rfl ?_
    refine xV (jJ (q0 rfl) rfl (λh=>by first|rfl|(rw [h];rfl))) rfl rfl ?_
    refine XN ?_
    exact aO () (by repeat (first|exact aK|exact aN|refine a8 rfl ?_|refine aJ rfl ?_|refine aD rfl ?_)) ⟨aP Value.bool (by simp [mQ,yK]),trivial⟩ (λw hw=>hw) rfl trivial
   |some k=>
    obtain ⟨q,hq,_⟩:=H3 hk
    have hkn:k<rn:=by
     have h2:=(ai.1 hq).1
     rw [hts,aS] at h2
     omega
    refine gM (φ:= ∃rb ro v,rA=some ⟨rb,ro,none⟩/\zr[k]?=some v) (λw hw=>by
     have h1:=(hT 3 hw rfl).r.1
     have h2:=(ai.1 hq).1
     rw [hts,aS,h1.1] at h2
     obtain ⟨b,o,v,h3,_,h4,_⟩:=h1.at_ h2
     exact ⟨b,o,v,h3,h4⟩) ?_
    rintro ⟨rb,ro,v,rfl,hv⟩
    have hd:Gw ts y.r=!decide (v.r=y.r):=by
     unfold Gw;rw [hk];simp only;rw [ar,hts,cV,hv];rfl
    rw [hd]
    refine R1 rfl (by decide+kernel) ?_
    refine xV (ay (v:= .int _ _) (q0 rfl)) rfl rfl ?_
    refine xV (gK (q0 rfl) (q0 rfl)) rfl rfl ?_
    refine xV (ay (v:= .bool _) (q0 rfl)) rfl rfl ?_
    refine fE (az da rfl di rfl (q0 rfl)) rfl rfl rfl rfl ?_
    refine fE (eL ib (q1 rfl)) rfl rfl rfl rfl ?_
    refine fE (ay (v:= .int _ _) (q0 rfl)) rfl rfl rfl rfl ?_
    refine fE (cx k aT ba (q1 rfl) (q1 rfl) (λ_=>⟨rfl,hkn⟩)) rfl rfl rfl rfl ?_
    refine fE (iV fT ba (q1 rfl) (λ_ w' hw' j u hu=>IH (hT 3 hw' rfl).r.1 hv j u hu) rfl) rfl rfl rfl rfl ?_
    refine fE (eS fT ba (q0 rfl)) rfl rfl rfl rfl ?_
    refine AE (en Tryz.call448 (jn (q1 (v:= .agg _) rfl) (q1 (v:= .agg _) rfl))) (λ_ w hw=>Hw v y w ((hT 3 hw rfl).r.2 v (aq hv)) ((hrs.2 y (aq hpi)).mem hw)) rfl rfl rfl rfl ?_
    refine fE (oz (q1 rfl)) rfl rfl rfl rfl ?_
    refine xV (jJ (q0 rfl) rfl (λh=>by first|rfl|(rw [h];rfl))) rfl rfl ?_
    refine xV (ay (v:= .bool _) (q0 rfl)) rfl rfl ?_
    refine fE (az eH rfl aM rfl (q0 rfl)) rfl rfl rfl rfl ?_
    refine fE (az ax rfl di rfl (q1 rfl)) rfl rfl rfl rfl ?_
    refine fE (eL ib (q1 rfl)) rfl rfl rfl rfl ?_
    refine fE (az bE rfl ae rfl (q0 rfl)) rfl rfl rfl rfl ?_
    refine fE (eL aj (q1 rfl)) rfl rfl rfl rfl ?_
    refine AE (en Ba (jn (q1 (v:= .slice _ _ _) rfl) (q1 (v:= .int _ _) rfl))) (λ_ w hw=>sQ ⟨dA,dn,dc⟩ rs y.r.id w ⟨xs,hrs.mem hw,hrr.symm⟩) rfl rfl rfl rfl ?_
    refine fE (ay (v:= .int _ _) (q0 rfl)) rfl rfl rfl rfl ?_
    refine fE (gK (q1 rfl) (q1 rfl)) rfl rfl rfl rfl ?_
    refine xV (jJ (q0 rfl) rfl (λh=>by first|rfl|(rw [h];rfl))) rfl rfl ?_
    refine XN ?_
    exact aO () (by repeat (first|exact aK|exact aN|refine a8 rfl ?_|refine aJ rfl ?_|refine aD rfl ?_)) ⟨aP Value.bool (by simp [mQ,yK]),trivial⟩ (λw hw=>hw) rfl trivial
  rintro ⟨⟩ g2 _
  refine ad ?_
  refine bD rfl (λh1=>?_) (λh1=>?_)
  ·have hW:IQ ts rs i y.r=[⟨4,y.r.id,i⟩]:=by unfold IQ;rw [aB (show _=true from h1)]
   rw [hW] at hst
   refine R0 ?_
   refine xV (ay (v:= .slice _ _ _) (q0 rfl)) rfl rfl ?_
   refine xV (az bE rfl ae rfl (q0 rfl)) rfl rfl ?_
   refine xV (eL aj (q0 rfl)) rfl rfl ?_
   refine xV (ay (v:= .int _ _) (q0 rfl)) rfl rfl ?_
   refine xV (bN bU rE bG (pt (v:= .int _ _) rfl (pt (v:= .int _ _) rfl (pt (v:= .int _ _) rfl E.p0))) rfl) rfl rfl ?_
   refine gN (k:=3) (i:=Tryz.t65) 1 ((⟨4,y.r.id,i⟩:Fd)) bg (by kernel_rfl) rfl rfl rfl rfl cr bG rfl rfl rfl rfl rfl rfl ⟨by simp only [aQ];omega,by decide⟩ rfl rfl λB A2 c2=>?_
   refine xV (aU (v:= .slice _ _ _) (q0 rfl)) rfl rfl ?_
   refine XN ?_
   refine bc ?_
   refine ad ?_
   refine R0 ?_
   refine xV (eT (q0 rfl) (q0 rfl) (λ_=>⟨rfl,by omega,by omega⟩)) rfl rfl ?_
   refine xV (ay (v:= .int _ _) (q0 rfl)) rfl rfl ?_
   refine XN ?_
   exact aH (i+1,A2,c2) (by repeat (first|exact aK|exact aN|refine a8 rfl ?_|refine aJ rfl ?_|refine aD rfl ?_)) ⟨rfl,by show Value.slice A2 (o0++AJ ts rs i++[(⟨4,y.r.id,i⟩:Fd)]).length c2=Value.slice A2 (o0++AJ ts rs (i+1)).length c2;rw [hst,cE],trivial⟩ (λw hw=>by
    show Mem _ [ee A2 c2 (o0++AJ ts rs (i+1)),_,_,_] w
    rw [hst,<-cE]
    exact hw.pick [1,2,3,4] (by decide)) rfl hlt' (by show dn -(i+1)<dn -i;omega)
  have hW:IQ ts rs i y.r=[]:=by unfold IQ;rw [an (by rw [show _=false from h1];decide)]
  rw [hW,bF] at hst
  refine bZ ?_
  refine bc ?_
  refine ad ?_
  refine R0 ?_
  refine xV (eT (q0 rfl) (q0 rfl) (λ_=>⟨rfl,by omega,by omega⟩)) rfl rfl ?_
  refine xV (ay (v:= .int _ _) (q0 rfl)) rfl rfl ?_
  refine XN ?_
  exact aH (i+1,A,c) (by repeat (first|exact aK|exact aN|refine a8 rfl ?_|refine aJ rfl ?_|refine aD rfl ?_)) ⟨rfl,by show Value.slice A (o0++AJ ts rs i).length c=Value.slice A (o0++AJ ts rs (i+1)).length c;rw [hst],trivial⟩ (λw hw=>by
   show Mem _ [ee A c (o0++AJ ts rs (i+1)),_,_,_] w
   rw [hst]
   exact hw.pick [1,2,3,4] (by decide)) rfl hlt' (by show dn -(i+1)<dn -i;omega)
 have hie:i=rs.length:=by simp at hlt;omega
 rw [hie]
 refine fz ?_
 refine cJ ?_
 refine cM ?_
 refine cK ?_
 refine ad ?_
 refine ak ?_
 refine ak ?_
 refine R0 ?_
 refine xV (az da rfl di rfl (q0 rfl)) rfl rfl ?_
 refine xV (eL ib (q0 rfl)) rfl rfl ?_
 refine xV (dw aT (q0 rfl)) rfl rfl ?_
 refine xV (ay (v:= .int _ _) (q0 rfl)) rfl rfl ?_
 refine XN ?_
 refine ad ?_
 refine cq ?_
 obtain ⟨o1,ho1⟩: ∃o,o=o0++AJ ts rs rs.length:=⟨_,rfl⟩
 have hlo1:o1.length<=200000:=by
  have h9:=hrdI ts rs.length
  rw [ho1]
  simp only [aQ,dO]
  omega
 rw [<-ho1]
 refine ef [4,9,65,66,67,68,69,70,71,72,73,74,75,76,77,78,79,80,81,82] (λq:Nat×Option Addr×Nat=>[(65, .int .i64 q.1),(4, .slice q.2.1 (o1++BB rs (ts.take q.1)).length q.2.2)]) (λq=>[ee q.2.1 q.2.2 (o1++BB rs (ts.take q.1)),box b3 531 (TX.cells ⟨⟨rA,rn,rcc⟩,⟨sA,sn,sc⟩,⟨fA,fn,fc⟩,⟨yA,yn,yc⟩,th⟩),jK R,box b1 109 (hP f fa p a x ⟨settled,ev,st,⟨dA,dn,dc⟩,vs,⟨rfA,rfn,rfc⟩,pd,rf,rl,sp,pl⟩)]) (λq=>q.1<=rn) (λq=>rn -q.1) (0,A,c) ⟨rfl,by rw [uu];unfold BB;show _=Value.slice A (o1++[]).length c;rw [bF];rfl,trivial⟩ (λw hw=>by
  unfold BB
  show Mem _ [ee A c (o1++[]),_,_,_] w
  rw [bF];exact hw) rfl (bj _) ?_
 rintro ⟨i,A,c⟩ g hi
 have hi:i<=rn:=hi
 have hlni:=hrdM (ts.take i)
 rw [dG] at hlni
 refine ak ?_
 refine R0 ?_
 refine xV (gK (q0 rfl) (q0 rfl)) rfl rfl ?_
 refine XN ?_
 refine ad ?_
 refine ak ?_
 refine bD rfl (λhlt=>?_) (λhlt=>?_)
 ·have hlt':i<rn:=by simpa using hlt
  refine gM (φ:= ∃rb ro v,rA=some ⟨rb,ro,none⟩/\zr[i]?=some v) (λw hw=>by
   obtain ⟨b,o,v,h3,_,h4,_⟩:=(hT 2 hw rfl).r.1.at_ hlt'
   exact ⟨b,o,v,h3,h4⟩) ?_
  rintro ⟨rb,ro,v,rfl,hv⟩
  have hvr:ts[i]?=some v.r:=by rw [hts,cV,hv];rfl
  have hst:BB rs (ts.take (i+1))=BB rs (ts.take i)++(if (Ce rs v.r.id).isSome=true then [] else [⟨4,v.r.id,-1⟩]):=by unfold BB;rw [vi _ hvr]
  refine bZ ?_
  refine ad ?_
  refine ak ?_
  refine cq ?_
  refine ak ?_
  refine R0 ?_
  refine xV (cx _ aT ba (q0 rfl) (q0 rfl) (λ_=>⟨rfl,by omega⟩)) rfl rfl ?_
  refine xV (iV fT ba (q0 rfl) (λ_ w' hw' j u hu=>IH (hT 2 hw' rfl).r.1 hv j u hu) rfl) rfl rfl ?_
  refine bS dp rfl λb9=>?_
  refine dN (v:= .agg _) rfl rfl ba ?_
  refine XN ?_
  refine ad ?_
  refine ak ?_
  refine R0 ?_
  refine xV (az eH rfl aM rfl (q0 rfl)) rfl rfl ?_
  refine xV (az ax rfl di rfl (q0 rfl)) rfl rfl ?_
  refine xV (eL ib (q0 rfl)) rfl rfl ?_
  refine xV (az bE rfl ae rfl (q0 rfl)) rfl rfl ?_
  refine xV (eL aj (q0 rfl)) rfl rfl ?_
  refine xC (en Ba (jn (q0 rfl) (q0 rfl))) (λ_ w hw=>sQ ⟨dA,dn,dc⟩ rs v.r.id w ⟨xs,hrs.mem hw,hrr.symm⟩) rfl rfl ?_
  refine xV (gK (q0 rfl) (q0 rfl)) rfl rfl ?_
  refine XN ?_
  refine ad ?_
  refine bD rfl (λh4=>?_) (λh4=>?_)
  ·have h4': ¬(Ce rs v.r.id).isSome=true:=by
    have h5:decide (mQ (Ce rs v.r.id)<0)=true:=h4
    rw [vv] at h5
    simpa using h5
   rw [an h4'] at hst
   refine R0 ?_
   refine xV (ay (v:= .slice _ _ _) (q0 rfl)) rfl rfl ?_
   refine xV (az bE rfl ae rfl (q0 rfl)) rfl rfl ?_
   refine xV (eL aj (q0 rfl)) rfl rfl ?_
   refine xV (bN bU rE bG (pt (v:= .int _ _) rfl (pt (v:= .int _ _) rfl (pt (v:= .int _ _) rfl E.p0))) rfl) rfl rfl ?_
   refine gN (k:=3) (i:=Tryz.t65) 1 ((⟨4,v.r.id,-1⟩:Fd)) bg (by kernel_rfl) rfl rfl rfl rfl cr bG rfl rfl rfl rfl rfl rfl ⟨by simp only [aQ];omega,by decide⟩ rfl rfl λB A3 c3=>?_
   refine xV (aU (v:= .slice _ _ _) (q0 rfl)) rfl rfl ?_
   refine XN ?_
   refine bc ?_
   refine ad ?_
   refine R0 ?_
   refine xV (eT (q0 rfl) (q0 rfl) (λ_=>⟨rfl,by omega,by omega⟩)) rfl rfl ?_
   refine xV (ay (v:= .int _ _) (q0 rfl)) rfl rfl ?_
   refine XN ?_
   exact aH (i+1,A3,c3) (by repeat (first|exact aK|exact aN|refine a8 rfl ?_|refine aJ rfl ?_|refine aD rfl ?_)) ⟨rfl,by show Value.slice A3 (o1++BB rs (ts.take i)++[(⟨4,v.r.id,-1⟩:Fd)]).length c3=Value.slice A3 (o1++BB rs (ts.take (i+1))).length c3;rw [hst,cE],trivial⟩ (λw hw=>by
    show Mem _ [ee A3 c3 (o1++BB rs (ts.take (i+1))),_,_,_] w
    rw [hst,<-cE]
    exact hw.pick [1,2,3,4] (by decide)) rfl hlt' (by show rn -(i+1)<rn -i;omega)
  have h4':(Ce rs v.r.id).isSome=true:=by
   have h5:decide (mQ (Ce rs v.r.id)<0)=false:=h4
   rw [vv] at h5
   simpa using h5
  rw [aB h4',bF] at hst
  refine bZ ?_
  refine bc ?_
  refine ad ?_
  refine R0 ?_
  refine xV (eT (q0 rfl) (q0 rfl) (λ_=>⟨rfl,by omega,by omega⟩)) rfl rfl ?_
  refine xV (ay (v:= .int _ _) (q0 rfl)) rfl rfl ?_
  refine XN ?_
  exact aH (i+1,A,c) (by repeat (first|exact aK|exact aN|refine a8 rfl ?_|refine aJ rfl ?_|refine aD rfl ?_)) ⟨rfl,by show Value.slice A (o1++BB rs (ts.take i)).length c=Value.slice A (o1++BB rs (ts.take (i+1))).length c;rw [hst],trivial⟩ (λw hw=>by
   show Mem _ [ee A c (o1++BB rs (ts.take (i+1))),_,_,_] w
   rw [hst]
   exact hw.pick [1,2,3,4] (by decide)) rfl hlt' (by show rn -(i+1)<rn -i;omega)
 have hie:i=ts.length:=by simp at hlt;rw [hts,aS];omega
 rw [hie,dQ]
 refine fz ?_
 refine cJ ?_
 refine cM ?_
 refine cK ?_
 refine ad ?_
 refine ak ?_
 refine ak ?_
 refine R0 ?_
 refine xV (az eH rfl aM rfl (q0 rfl)) rfl rfl ?_
 refine xV (az ax rfl eM rfl (q0 rfl)) rfl rfl ?_
 refine xV (eL jL (q0 rfl)) rfl rfl ?_
 refine xV (dw cj (q0 rfl)) rfl rfl ?_
 refine xV (ay (v:= .int _ _) (q0 rfl)) rfl rfl ?_
 refine XN ?_
 refine ad ?_
 refine cq ?_
 obtain ⟨o2,ho2⟩: ∃o,o=o1++BB rs ts:=⟨_,rfl⟩
 have hlo2:o2.length<=300000:=by
  have h9:=hrdM ts;rw [hts,aS,<-hts] at h9
  rw [ho2]
  simp only [aQ,dO]
  omega
 rw [<-ho2]
 refine ef [4,10,11,12,87,88,89,90,91,92,93,94,95,96,97,98,99,100,101,102,103,104,105,106,107,108,109,110,111,112,113,114,115,116,117,118,119,120,121,122,123,124,125,126] (λq:Nat×Option Addr×Nat=>[(87, .int .i64 q.1),(4, .slice q.2.1 (o2++AS tb fs q.1).length q.2.2)]) (λq=>[ee q.2.1 q.2.2 (o2++AS tb fs q.1),box b3 531 (TX.cells ⟨⟨rA,rn,rcc⟩,⟨sA,sn,sc⟩,⟨fA,fn,fc⟩,⟨yA,yn,yc⟩,th⟩),jK R,box b1 109 (hP f fa p a x ⟨settled,ev,st,⟨dA,dn,dc⟩,vs,⟨rfA,rfn,rfc⟩,pd,rf,rl,sp,pl⟩)]) (λq=>q.1<=rfn) (λq=>rfn -q.1) (0,A,c) ⟨rfl,by unfold AS;show _=Value.slice A (_++[]).length c;rw [bF];rfl,trivial⟩ (λw hw=>by unfold AS;show Mem _ [ee A c (_++[]),_,_,_] w;rw [bF];exact hw) rfl (bj _) ?_
 rintro ⟨i,A,c⟩ g hi
 have hi:i<=rfn:=hi
 have hlni:=hfrI tb i
 refine ak ?_
 refine R0 ?_
 refine xV (gK (q0 rfl) (q0 rfl)) rfl rfl ?_
 refine XN ?_
 refine ad ?_
 refine ak ?_
 refine bD rfl (λhlt=>?_) (λhlt=>?_)
 ·have hlt':i<rfn:=by simpa using hlt
  obtain ⟨pb,off,y,hAe,hpb,hpi,hrp⟩:=hfs.1.at_ hlt'
  have hgi:fs[i]?=some y.b:=by rw [hfr,cV,hpi];rfl
  have hst:AS tb fs (i+1)=AS tb fs i++Jb tb fs i y.b:=by unfold AS;rw [kj,ar,hgi];rfl
  have hlw:(Jb tb fs i y.b).length<=1:=by unfold Jb;split<;>simp
  refine bZ ?_
  refine ad ?_
  refine ak ?_
  refine cq ?_
  refine ak ?_
  refine R0 ?_
  refine xV (ay (v:= .int _ _) (q0 rfl)) rfl rfl ?_
  refine xV (cx i cj dx (q0 (by rw [<-hAe];rfl)) (q0 rfl) (λ_=>⟨rfl,by omega⟩)) rfl rfl ?_
  refine xV (iV su dx (q0 rfl) (λ_ w' hw' j u hu=>((hw'.1.cell (p:=⟨pb,off+i*4+j,none⟩) hpb).trans (hrp j u hu))) rfl) rfl rfl ?_
  refine bS pZ rfl λb11=>?_
  refine xV (aU (v:= .int _ _) (q0 rfl)) rfl rfl ?_
  refine dN (v:= .agg _) rfl rfl dx ?_
  refine XN ?_
  refine ad ?_
  refine ak ?_
  refine R0 ?_
  refine xV (az da rfl eM rfl (q0 rfl)) rfl rfl ?_
  refine xV (eL jL (q0 rfl)) rfl rfl ?_
  refine xV (az ct rfl ae rfl (q0 rfl)) rfl rfl ?_
  refine xV (eL aj (q0 rfl)) rfl rfl ?_
  refine xC (en A9 (jn (q0 rfl) (q0 rfl))) (λ_ w hw=>ta ⟨yA,yn,yc⟩ tb y.b.bn w ⟨zy,(hT 3 hw rfl).y,htb.symm⟩) rfl rfl ?_
  refine xV (aU (v:= .int _ _) (q0 rfl)) rfl rfl ?_
  refine XN ?_
  refine ad ?_
  refine ak ?_
  refine ke [97,98,99,100,101,102,103,104,105,106,107,108,109,110,111,112,113,114,115,116,117,118] (λ_:Unit=>[(118, .bool (Gx tb y.b||decide (mQ (Ey fs y.b.bn)<i)))]) (λ_=>[box b11 81 y.cells,ee A c (o2++AS tb fs i),box b3 531 (TX.cells ⟨⟨rA,rn,rcc⟩,⟨sA,sn,sc⟩,⟨fA,fn,fc⟩,⟨yA,yn,yc⟩,th⟩),jK R,box b1 109 (hP f fa p a x ⟨settled,ev,st,⟨dA,dn,dc⟩,vs,⟨rfA,rfn,rfc⟩,pd,rf,rl,sp,pl⟩)]) (λ_=>True) ?_ ?_
  ·cases hk:Ey tb y.b.bn with
   |none=>
    have hd:Gx tb y.b=true:=by unfold Gx;rw [hk]
    rw [hd]
    refine R1 rfl (by decide+kernel) ?_
    refine xV (ay (v:= .int _ _) (q0 rfl)) rfl rfl ?_
    refine xV (gK (q0 rfl) (q0 rfl)) rfl rfl ?_
    refine xV (ay (v:= .bool _) (q0 rfl)) rfl rfl ?_
    refine fE (cO (v:= .pointer none) ((by simp [mQ]))) rfl rfl rfl rfl ?_
    refine fE (cO (v:= .slice none 0 0) ((by simp [mQ]))) rfl rfl rfl rfl ?_
    refine fE (cO (v:= .int .i64 0) ((by simp [mQ]))) rfl rfl rfl rfl ?_
    refine fE (cO (v:= .pointer none) ((by simp [mQ]))) rfl rfl rfl rfl ?_
    refine fE (cO (v:= .agg #[]) ((by simp [mQ]))) rfl rfl rfl rfl ?_
    refine fE (cO (v:= .agg #[]) ((by simp [mQ]))) rfl rfl rfl rfl ?_
    refine fE (cO (v:= .bool false) ((by simp [mQ]))) rfl rfl rfl rfl ?_
    refine fE (cO (v:= .bool false) ((by simp [mQ]))) rfl rfl rfl rfl ?_
    refine xV (jJ (q0 rfl) rfl (λh=>by first|rfl|(rw [h];rfl))) rfl rfl ?_
    refine xV (ay (v:= .bool _) (q0 rfl)) rfl rfl ?_
    refine fE (az eH rfl aM rfl (q0 rfl)) rfl rfl rfl rfl ?_
    refine fE (az ax rfl eM rfl (q1 rfl)) rfl rfl rfl rfl ?_
    refine fE (eL jL (q1 rfl)) rfl rfl rfl rfl ?_
    refine fE (az ct rfl ae rfl (q0 rfl)) rfl rfl rfl rfl ?_
    refine fE (eL aj (q1 rfl)) rfl rfl rfl rfl ?_
    refine AE (en A9 (jn (q1 (v:= .slice _ _ _) rfl) (q1 (v:= .int _ _) rfl))) (λ_ w hw=>ta ⟨rfA,rfn,rfc⟩ fs y.b.bn w ⟨ys,⟨hfs.1.mem hw,λx hx=>(hfs.2 x hx).mem hw⟩,hfr.symm⟩) rfl rfl rfl rfl ?_
    refine fE (ay (v:= .int _ _) (q0 rfl)) rfl rfl rfl rfl ?_
    refine fE (gK (q1 rfl) (q1 rfl)) rfl rfl rfl rfl ?_
    refine xV (jJ (q0 rfl) rfl (λh=>by first|rfl|(rw [h];rfl))) rfl rfl ?_
    refine XN ?_
    exact aO () (by repeat (first|exact aK|exact aN|refine a8 rfl ?_|refine aJ rfl ?_|refine aD rfl ?_)) ⟨aP Value.bool (by simp [mQ,yK]),trivial⟩ (λw hw=>hw) rfl trivial
   |some k=>
    obtain ⟨q,hq,_⟩:=H3 hk
    have hkn:k<yn:=by
     have h2:=(ai.1 hq).1
     rw [htb,aS] at h2
     omega
    refine gM (φ:= ∃rb ro v,yA=some ⟨rb,ro,none⟩/\zy[k]?=some v) (λw hw=>by
     have h1:=(hT 3 hw rfl).y.1
     have h2:=(ai.1 hq).1
     rw [htb,aS,h1.1] at h2
     obtain ⟨b,o,v,h3,_,h4,_⟩:=h1.at_ h2
     exact ⟨b,o,v,h3,h4⟩) ?_
    rintro ⟨rb,ro,v,rfl,hv⟩
    have hd:Gx tb y.b=!decide (v.b=y.b):=by
     unfold Gx;rw [hk];simp only;rw [ar,htb,cV,hv];rfl
    rw [hd]
    refine R1 rfl (by decide+kernel) ?_
    refine xV (ay (v:= .int _ _) (q0 rfl)) rfl rfl ?_
    refine xV (gK (q0 rfl) (q0 rfl)) rfl rfl ?_
    refine xV (ay (v:= .bool _) (q0 rfl)) rfl rfl ?_
    refine fE (az da rfl eM rfl (q0 rfl)) rfl rfl rfl rfl ?_
    refine fE (eL jL (q1 rfl)) rfl rfl rfl rfl ?_
    refine fE (ay (v:= .int _ _) (q0 rfl)) rfl rfl rfl rfl ?_
    refine fE (cx k cj dx (q1 rfl) (q1 rfl) (λ_=>⟨rfl,hkn⟩)) rfl rfl rfl rfl ?_
    refine fE (iV su dx (q1 rfl) (λ_ w' hw' j u hu=>IH (hT 3 hw' rfl).y.1 hv j u hu) rfl) rfl rfl rfl rfl ?_
    refine fE (eS su dx (q0 rfl)) rfl rfl rfl rfl ?_
    refine AE (en Tryz.call450 (jn (q1 (v:= .agg _) rfl) (q1 (v:= .agg _) rfl))) (λ_ w hw=>Hy v y w ((hT 3 hw rfl).y.2 v (aq hv)) ((hfs.2 y (aq hpi)).mem hw)) rfl rfl rfl rfl ?_
    refine fE (oz (q1 rfl)) rfl rfl rfl rfl ?_
    refine xV (jJ (q0 rfl) rfl (λh=>by first|rfl|(rw [h];rfl))) rfl rfl ?_
    refine xV (ay (v:= .bool _) (q0 rfl)) rfl rfl ?_
    refine fE (az eH rfl aM rfl (q0 rfl)) rfl rfl rfl rfl ?_
    refine fE (az ax rfl eM rfl (q1 rfl)) rfl rfl rfl rfl ?_
    refine fE (eL jL (q1 rfl)) rfl rfl rfl rfl ?_
    refine fE (az ct rfl ae rfl (q0 rfl)) rfl rfl rfl rfl ?_
    refine fE (eL aj (q1 rfl)) rfl rfl rfl rfl ?_
    refine AE (en A9 (jn (q1 (v:= .slice _ _ _) rfl) (q1 (v:= .int _ _) rfl))) (λ_ w hw=>ta ⟨rfA,rfn,rfc⟩ fs y.b.bn w ⟨ys,⟨hfs.1.mem hw,λx hx=>(hfs.2 x hx).mem hw⟩,hfr.symm⟩) rfl rfl rfl rfl ?_
    refine fE (ay (v:= .int _ _) (q0 rfl)) rfl rfl rfl rfl ?_
    refine fE (gK (q1 rfl) (q1 rfl)) rfl rfl rfl rfl ?_
    refine xV (jJ (q0 rfl) rfl (λh=>by first|rfl|(rw [h];rfl))) rfl rfl ?_
    refine XN ?_
    exact aO () (by repeat (first|exact aK|exact aN|refine a8 rfl ?_|refine aJ rfl ?_|refine aD rfl ?_)) ⟨aP Value.bool (by simp [mQ,yK]),trivial⟩ (λw hw=>hw) rfl trivial
  rintro ⟨⟩ g2 _
  refine ad ?_
  refine bD rfl (λh1=>?_) (λh1=>?_)
  ·have hW:Jb tb fs i y.b=[⟨5,y.b.bn,i⟩]:=by unfold Jb;rw [aB (show _=true from h1)]
   rw [hW] at hst
   refine R0 ?_
   refine xV (ay (v:= .slice _ _ _) (q0 rfl)) rfl rfl ?_
   refine xV (az ct rfl ae rfl (q0 rfl)) rfl rfl ?_
   refine xV (eL aj (q0 rfl)) rfl rfl ?_
   refine xV (ay (v:= .int _ _) (q0 rfl)) rfl rfl ?_
   refine xV (bN bU rE bG (pt (v:= .int _ _) rfl (pt (v:= .int _ _) rfl (pt (v:= .int _ _) rfl E.p0))) rfl) rfl rfl ?_
   refine gN (k:=3) (i:=Tryz.t65) 1 ((⟨5,y.b.bn,i⟩:Fd)) bg (by kernel_rfl) rfl rfl rfl rfl cr bG rfl rfl rfl rfl rfl rfl ⟨by simp only [aQ];omega,by decide⟩ rfl rfl λB A2 c2=>?_
   refine xV (aU (v:= .slice _ _ _) (q0 rfl)) rfl rfl ?_
   refine XN ?_
   refine bc ?_
   refine ad ?_
   refine R0 ?_
   refine xV (eT (q0 rfl) (q0 rfl) (λ_=>⟨rfl,by omega,by omega⟩)) rfl rfl ?_
   refine xV (ay (v:= .int _ _) (q0 rfl)) rfl rfl ?_
   refine XN ?_
   exact aH (i+1,A2,c2) (by repeat (first|exact aK|exact aN|refine a8 rfl ?_|refine aJ rfl ?_|refine aD rfl ?_)) ⟨rfl,by show Value.slice A2 (o2++AS tb fs i++[(⟨5,y.b.bn,i⟩:Fd)]).length c2=Value.slice A2 (o2++AS tb fs (i+1)).length c2;rw [hst,cE],trivial⟩ (λw hw=>by
    show Mem _ [ee A2 c2 (o2++AS tb fs (i+1)),_,_,_] w
    rw [hst,<-cE]
    exact hw.pick [1,2,3,4] (by decide)) rfl hlt' (by show rfn -(i+1)<rfn -i;omega)
  have hW:Jb tb fs i y.b=[]:=by unfold Jb;rw [an (by rw [show _=false from h1];decide)]
  rw [hW,bF] at hst
  refine bZ ?_
  refine bc ?_
  refine ad ?_
  refine R0 ?_
  refine xV (eT (q0 rfl) (q0 rfl) (λ_=>⟨rfl,by omega,by omega⟩)) rfl rfl ?_
  refine xV (ay (v:= .int _ _) (q0 rfl)) rfl rfl ?_
  refine XN ?_
  exact aH (i+1,A,c) (by repeat (first|exact aK|exact aN|refine a8 rfl ?_|refine aJ rfl ?_|refine aD rfl ?_)) ⟨rfl,by show Value.slice A (o2++AS tb fs i).length c=Value.slice A (o2++AS tb fs (i+1)).length c;rw [hst],trivial⟩ (λw hw=>by
   show Mem _ [ee A c (o2++AS tb fs (i+1)),_,_,_] w
   rw [hst]
   exact hw.pick [1,2,3,4] (by decide)) rfl hlt' (by show rfn -(i+1)<rfn -i;omega)
 have hie:i=fs.length:=by simp at hlt;omega
 rw [hie]
 refine fz ?_
 refine cJ ?_
 refine cM ?_
 refine cK ?_
 refine ad ?_
 refine ak ?_
 refine ak ?_
 refine R0 ?_
 refine xV (az da rfl eM rfl (q0 rfl)) rfl rfl ?_
 refine xV (eL jL (q0 rfl)) rfl rfl ?_
 refine xV (dw cj (q0 rfl)) rfl rfl ?_
 refine xV (ay (v:= .int _ _) (q0 rfl)) rfl rfl ?_
 refine XN ?_
 refine ad ?_
 refine cq ?_
 obtain ⟨o3,ho3⟩: ∃o,o=o2++AS tb fs fs.length:=⟨_,rfl⟩
 have hlo3:o3.length<=400000:=by
  have h9:=hfrI tb fs.length
  rw [ho3]
  simp only [aQ,dO]
  omega
 rw [<-ho3]
 refine ef [4,14,130,131,132,133,134,135,136,137,138,139,140,141,142,143,144,145,146,147] (λq:Nat×Option Addr×Nat=>[(130, .int .i64 q.1),(4, .slice q.2.1 (o3++Ch fs (tb.take q.1)).length q.2.2)]) (λq=>[ee q.2.1 q.2.2 (o3++Ch fs (tb.take q.1)),box b3 531 (TX.cells ⟨⟨rA,rn,rcc⟩,⟨sA,sn,sc⟩,⟨fA,fn,fc⟩,⟨yA,yn,yc⟩,th⟩),jK R,box b1 109 (hP f fa p a x ⟨settled,ev,st,⟨dA,dn,dc⟩,vs,⟨rfA,rfn,rfc⟩,pd,rf,rl,sp,pl⟩)]) (λq=>q.1<=yn) (λq=>yn -q.1) (0,A,c) ⟨rfl,by rw [uu];unfold Ch;show _=Value.slice A (o3++[]).length c;rw [bF];rfl,trivial⟩ (λw hw=>by
  unfold Ch
  show Mem _ [ee A c (o3++[]),_,_,_] w
  rw [bF];exact hw) rfl (bj _) ?_
 rintro ⟨i,A,c⟩ g hi
 have hi:i<=yn:=hi
 have hlni:=hfrM (tb.take i)
 rw [dG] at hlni
 refine ak ?_
 refine R0 ?_
 refine xV (gK (q0 rfl) (q0 rfl)) rfl rfl ?_
 refine XN ?_
 refine ad ?_
 refine ak ?_
 refine bD rfl (λhlt=>?_) (λhlt=>?_)
 ·have hlt':i<yn:=by simpa using hlt
  refine gM (φ:= ∃rb ro v,yA=some ⟨rb,ro,none⟩/\zy[i]?=some v) (λw hw=>by
   obtain ⟨b,o,v,h3,_,h4,_⟩:=(hT 2 hw rfl).y.1.at_ hlt'
   exact ⟨b,o,v,h3,h4⟩) ?_
  rintro ⟨rb,ro,v,rfl,hv⟩
  have hvr:tb[i]?=some v.b:=by rw [htb,cV,hv];rfl
  have hst:Ch fs (tb.take (i+1))=Ch fs (tb.take i)++(if (Ey fs v.b.bn).isSome=true then [] else [⟨5,v.b.bn,-1⟩]):=by unfold Ch;rw [vi _ hvr]
  refine bZ ?_
  refine ad ?_
  refine ak ?_
  refine cq ?_
  refine ak ?_
  refine R0 ?_
  refine xV (cx _ cj dx (q0 rfl) (q0 rfl) (λ_=>⟨rfl,by omega⟩)) rfl rfl ?_
  refine xV (iV su dx (q0 rfl) (λ_ w' hw' j u hu=>IH (hT 2 hw' rfl).y.1 hv j u hu) rfl) rfl rfl ?_
  refine bS pZ rfl λb14=>?_
  refine dN (v:= .agg _) rfl rfl dx ?_
  refine XN ?_
  refine ad ?_
  refine ak ?_
  refine R0 ?_
  refine xV (az eH rfl aM rfl (q0 rfl)) rfl rfl ?_
  refine xV (az ax rfl eM rfl (q0 rfl)) rfl rfl ?_
  refine xV (eL jL (q0 rfl)) rfl rfl ?_
  refine xV (az ct rfl ae rfl (q0 rfl)) rfl rfl ?_
  refine xV (eL aj (q0 rfl)) rfl rfl ?_
  refine xC (en A9 (jn (q0 rfl) (q0 rfl))) (λ_ w hw=>ta ⟨rfA,rfn,rfc⟩ fs v.b.bn w ⟨ys,⟨hfs.1.mem hw,λx hx=>(hfs.2 x hx).mem hw⟩,hfr.symm⟩) rfl rfl ?_
  refine xV (gK (q0 rfl) (q0 rfl)) rfl rfl ?_
  refine XN ?_
  refine ad ?_
  refine bD rfl (λh4=>?_) (λh4=>?_)
  ·have h4': ¬(Ey fs v.b.bn).isSome=true:=by
    have h5:decide (mQ (Ey fs v.b.bn)<0)=true:=h4
    rw [vv] at h5
    simpa using h5
   rw [an h4'] at hst
   refine R0 ?_
   refine xV (ay (v:= .slice _ _ _) (q0 rfl)) rfl rfl ?_
   refine xV (az ct rfl ae rfl (q0 rfl)) rfl rfl ?_
   refine xV (eL aj (q0 rfl)) rfl rfl ?_
   refine xV (bN bU rE bG (pt (v:= .int _ _) rfl (pt (v:= .int _ _) rfl (pt (v:= .int _ _) rfl E.p0))) rfl) rfl rfl ?_
   refine gN (k:=3) (i:=Tryz.t65) 1 ((⟨5,v.b.bn,-1⟩:Fd)) bg (by kernel_rfl) rfl rfl rfl rfl cr bG rfl rfl rfl rfl rfl rfl ⟨by simp only [aQ];omega,by decide⟩ rfl rfl λB A3 c3=>?_
   refine xV (aU (v:= .slice _ _ _) (q0 rfl)) rfl rfl ?_
   refine XN ?_
   refine bc ?_
   refine ad ?_
   refine R0 ?_
   refine xV (eT (q0 rfl) (q0 rfl) (λ_=>⟨rfl,by omega,by omega⟩)) rfl rfl ?_
   refine xV (ay (v:= .int _ _) (q0 rfl)) rfl rfl ?_
   refine XN ?_
   exact aH (i+1,A3,c3) (by repeat (first|exact aK|exact aN|refine a8 rfl ?_|refine aJ rfl ?_|refine aD rfl ?_)) ⟨rfl,by show Value.slice A3 (o3++Ch fs (tb.take i)++[(⟨5,v.b.bn,-1⟩:Fd)]).length c3=Value.slice A3 (o3++Ch fs (tb.take (i+1))).length c3;rw [hst,cE],trivial⟩ (λw hw=>by
    show Mem _ [ee A3 c3 (o3++Ch fs (tb.take (i+1))),_,_,_] w
    rw [hst,<-cE]
    exact hw.pick [1,2,3,4] (by decide)) rfl hlt' (by show yn -(i+1)<yn -i;omega)
  have h4':(Ey fs v.b.bn).isSome=true:=by
   have h5:decide (mQ (Ey fs v.b.bn)<0)=false:=h4
   rw [vv] at h5
   simpa using h5
  rw [aB h4',bF] at hst
  refine bZ ?_
  refine bc ?_
  refine ad ?_
  refine R0 ?_
  refine xV (eT (q0 rfl) (q0 rfl) (λ_=>⟨rfl,by omega,by omega⟩)) rfl rfl ?_
  refine xV (ay (v:= .int _ _) (q0 rfl)) rfl rfl ?_
  refine XN ?_
  exact aH (i+1,A,c) (by repeat (first|exact aK|exact aN|refine a8 rfl ?_|refine aJ rfl ?_|refine aD rfl ?_)) ⟨rfl,by show Value.slice A (o3++Ch fs (tb.take i)).length c=Value.slice A (o3++Ch fs (tb.take (i+1))).length c;rw [hst],trivial⟩ (λw hw=>by
   show Mem _ [ee A c (o3++Ch fs (tb.take (i+1))),_,_,_] w
   rw [hst]
   exact hw.pick [1,2,3,4] (by decide)) rfl hlt' (by show yn -(i+1)<yn -i;omega)
 have hie:i=tb.length:=by simp at hlt;rw [htb,aS];omega
 rw [hie,dQ]
 obtain ⟨o4,ho4⟩: ∃o,o=o3++Ch fs tb++sV pds sl tb:=⟨_,rfl⟩
 obtain ⟨o5,ho5⟩: ∃o,o=o4++(if th<settled then [(⟨8,0,-1⟩:Fd)] else []):=⟨_,rfl⟩
 have hfin:lQ (dP f cX) ((dP f cX).filter (dF settled)) (yF f p V ((dP f cX).filter (dF settled))) (oQ f cX) rs fs pds settled re=o5++(if re≠0 then [⟨9,0,0⟩] else []):=by
  have e4:th=oQ f cX:=hE.h
  unfold lQ
  rw [ho5,ho4,ho3,ho2,ho1,ho0,hts,htb,hsl,hE.r,hE.s,hE.y,e4]
 rw [hfin]
 have hsl4:sl.length=zs.length:=by rw [hsl,aS]
 have htb4:tb.length=zy.length:=by rw [htb,aS]
 have hl4:o4.length<=900000:=by
  have e3:=hfrM tb
  have e4:=yJ pds sl tb
  rw [ho4]
  simp only [aQ]
  omega
 have hpl4:=yJ pds sl tb
 refine fz ?_
 refine cJ ?_
 refine cM ?_
 refine cK ?_
 refine ad ?_
 refine ak ?_
 refine R0 ?_
 refine xV (ay (v:= .slice _ _ _) (q0 rfl)) rfl rfl ?_
 refine xV (az eH rfl aM rfl (q0 rfl)) rfl rfl ?_
 refine xV (eP cP aM (q0 rfl)) rfl rfl ?_
 refine xV (eS yk lO (q0 rfl)) rfl rfl ?_
 refine oD (en Tryz.call451 (jn (q0 rfl) (q0 rfl))) (λw hw=>Rg f fa p a x ⟨settled,ev,st,⟨dA,dn,dc⟩,vs,⟨rfA,rfn,rfc⟩,pd,rf,rl,sp,pl⟩ ⟨⟨rA,rn,rcc⟩,⟨sA,sn,sc⟩,⟨fA,fn,fc⟩,⟨yA,yn,yc⟩,th⟩ pds sl tb w (hpd.mem hw) ⟨zs,(hT 2 hw rfl).s,hsl.symm⟩ ⟨zy,(hT 2 hw rfl).y,htb.symm⟩ (by omega)) rfl (λ_=>rfl) λpz=>?_
 refine lI (dj (k:=3) (i:=Tryz.t65) (enc:=Fd.cells) 1 bg (by kernel_rfl) rfl rfl rfl rfl (λ_=>rfl) (λ_=>rfl) rfl rfl rfl (λw hw=>fB hw (j:=0) rfl (λ_=>rfl) (by omega)) ⟨by rw [ho4] at hl4;rw [aQ] at hl4;omega,by decide⟩ rfl λA2 c2=>?_)
 rw [<-ho4]
 refine xV (aU (v:= .slice _ _ _) (q0 rfl)) rfl rfl ?_
 refine XN ?_
 refine ad ?_
 refine ak ?_
 refine ak ?_
 refine R0 ?_
 refine xV (az eH rfl aM rfl (q0 rfl)) rfl rfl ?_
 refine xV (az ax rfl ae rfl (q0 rfl)) rfl rfl ?_
 refine xV (eL aj (q0 rfl)) rfl rfl ?_
 refine xV (az da rfl ae rfl (q0 rfl)) rfl rfl ?_
 refine xV (eL aj (q0 rfl)) rfl rfl ?_
 refine xV (uY (q0 rfl) (q0 rfl)) rfl rfl ?_
 refine XN ?_
 refine ad ?_
 refine ke [4,160,161,162,163] (λq:Option Addr×Nat=>[(4, .slice q.1 o5.length q.2)]) (λq=>[ee q.1 q.2 o5,box b3 531 (TX.cells ⟨⟨rA,rn,rcc⟩,⟨sA,sn,sc⟩,⟨fA,fn,fc⟩,⟨yA,yn,yc⟩,th⟩),jK R,box b1 109 (hP f fa p a x ⟨settled,ev,st,⟨dA,dn,dc⟩,vs,⟨rfA,rfn,rfc⟩,pd,rf,rl,sp,pl⟩)]) (λ_=>True) ?_ ?_
 ·refine bD rfl (λh5=>?_) (λh5=>?_)
  ·have h5':th<settled:=by simpa using h5
   rw [aB h5'] at ho5
   rw [ho5]
   refine R0 ?_
   refine xV (ay (v:= .slice _ _ _) (q0 rfl)) rfl rfl ?_
   refine xV (bN bU rE bG (pt (v:= .int _ _) rfl (pt (v:= .int _ _) rfl (pt (v:= .int _ _) rfl E.p0))) rfl) rfl rfl ?_
   refine gN (k:=3) (i:=Tryz.t65) 1 ((⟨8,0,-1⟩:Fd)) bg (by kernel_rfl) rfl rfl rfl rfl cr bG rfl rfl rfl rfl rfl rfl ⟨by omega,by decide⟩ rfl rfl λB A5 c5=>?_
   refine xV (aU (v:= .slice _ _ _) (q0 rfl)) rfl rfl ?_
   refine XN ?_
   exact aO (A5,c5) (by repeat (first|exact aK|exact aN|refine a8 rfl ?_|refine aJ rfl ?_|refine aD rfl ?_)) ⟨rfl,trivial⟩ (λw hw=>hw.pick [1,2,3,4] (by decide)) rfl trivial
  have h5': ¬th<settled:=by simpa using h5
  rw [an h5',bF] at ho5
  rw [ho5]
  refine bZ ?_
  exact aO (A2,c2) (by repeat (first|exact aK|exact aN|refine a8 rfl ?_|refine aJ rfl ?_|refine aD rfl ?_)) ⟨rfl,trivial⟩ (λw hw=>hw.pick [1,2,3,4] (by decide)) rfl trivial
 rintro ⟨A5,c5⟩ g3 _
 have hl5:o5.length<=900001:=by
  rw [ho5,aQ]
  split
  ·simp only [cL,dO];omega
  simp only [dO];omega
 refine ad ?_
 refine ak ?_
 refine ak ?_
 refine R0 ?_
 refine xV (az da rfl eM rfl (q0 rfl)) rfl rfl ?_
 refine xV (eL jL (q0 rfl)) rfl rfl ?_
 refine xV (az eH rfl aM rfl (q0 rfl)) rfl rfl ?_
 refine xV (az ax rfl Tryz.sizeOf51 rfl (q0 rfl)) rfl rfl ?_
 refine xV (eL Tryz.isAgg51 (q0 rfl)) rfl rfl ?_
 have hre2: ∀u,T2 u ⟨⟨⟨rA,rn,rcc⟩,⟨sA,sn,sc⟩,⟨fA,fn,fc⟩,⟨yA,yn,yc⟩,th⟩,zr,zs,zf,zy⟩->fM w u->Calls Tryz.prog 452 #[.slice yA yn yc,rf.v] u λe w'=>e= .returned (.int .i64 re)/\fM u w':=λu h h2=>hre ⟨⟨⟨rA,rn,rcc⟩,⟨sA,sn,sc⟩,⟨fA,fn,fc⟩,⟨yA,yn,yc⟩,th⟩,zr,zs,zf,zy⟩ u hE h h2
 refine xC (en Tryz.call452 (jn (q0 rfl) (q0 rfl))) (λ_ w hw=>hre2 w (hT 2 hw rfl) hw.1) rfl rfl ?_
 refine xV (ki (q0 rfl) (q0 rfl)) rfl rfl ?_
 refine XN ?_
 refine ad ?_
 refine bD rfl (λh6=>?_) (λh6=>?_)
 ·have h6':re≠0:=by simpa using h6
  rw [aB h6']
  refine R0 ?_
  refine xV (ay (v:= .slice _ _ _) (q0 rfl)) rfl rfl ?_
  refine xV (bN bU rE bG (pt (v:= .int _ _) rfl E.p0) rfl) rfl rfl ?_
  refine gN (k:=3) (i:=Tryz.t65) 0 ((⟨9,0,0⟩:Fd)) bg (by kernel_rfl) rfl rfl rfl rfl cr bG rfl rfl rfl rfl rfl rfl ⟨by omega,by decide⟩ rfl rfl λB A6 c6=>?_
  refine xV (aU (v:= .slice _ _ _) (q0 rfl)) rfl rfl ?_
  refine XN ?_
  refine ad ?_
  refine ak ?_
  refine R0 ?_
  refine xV (ay (v:= .slice _ _ _) (q0 rfl)) rfl rfl ?_
  refine xV (aU (v:= .slice _ _ _) (q0 rfl)) rfl rfl ?_
  refine XN ?_
  refine ad ?_
  refine dq ?_
  exact cu (v:= .slice _ _ _) rfl rfl rfl λw' hw=>⟨(A6,c6),rfl,hw.pick [0] (by decide)⟩
 have h6': ¬re≠0:=by simpa using h6
 rw [an h6',bF]
 refine bZ ?_
 refine ad ?_
 refine ak ?_
 refine R0 ?_
 refine xV (ay (v:= .slice _ _ _) (q0 rfl)) rfl rfl ?_
 refine xV (aU (v:= .slice _ _ _) (q0 rfl)) rfl rfl ?_
 refine XN ?_
 refine ad ?_
 refine dq ?_
 exact cu (v:= .slice _ _ _) rfl rfl rfl λw' hw=>⟨(A5,c5),rfl,hw.pick [0] (by decide)⟩
end Go.Proofs.Aud
namespace Go.Proofs.Aud
open Go Go.RowKit Go.Proofs.E Go.Proofs.Cus Go.Proofs.Rid Go.Proofs.Far Go.Proofs.Net
def Ot (y:gy) (p t:Int):Bool:=((decide (y.cF=4)&&decide (y.place=p))&&decide (y.from_<=t))&&decide (t<y.jT)
def AG (l:List gy) (p t:Int):Nat:=(l.filter λy=>Ot y p t).length
def J2 (caps:List Int) (st:List gy) (s:gy):List Fd:=if s.cF=4/\0<=s.place/\s.place<caps.length/\caps.getD s.place.toNat 0<AG st s.place s.from_ then [⟨3,s.place,s.from_⟩] else []
def w4 (caps:List Int) (st l:List gy):List Fd:=l.flatMap (J2 caps st)
def Ee (pe:Nat->Int) (n:Nat):List Fd:=(List.range n).flatMap λi=>if pe i≠0 then [⟨12,i,0⟩] else []
def mJ (caps:List Int) (st:List gy) (n:Nat) (pe:Nat->Int):List Fd:=w4 caps st st++Ee pe n
def BH (q:Sl×Sl):List Value:=[q.1.v,q.2.v]
theorem DX (caps:List Int) (st:List gy) (s:gy):(J2 caps st s).length<=1:=by unfold J2;split<;>simp
theorem TA {fs:Array Field} (h:Tryz.prog.underlying 107=some (.struct fs):=by exact jh):df Tryz.prog fs [(0,37)]:=by
 rw [jh] at h
 cases h
 intro w
 kernel_rfl
theorem JZ (f:Fl) (fa:FA) (p:Pr) (a:tz) (x:SX) (b:BX) (st:List gy) (pls:List (Sl×Sl)) (pe:Nat->Int) (w:World) (hf:mE w f fa) (hst:eG w 6 gy.cells b.st.A b.st.n st) (hps:eG w 2 BH b.pl.A b.pl.n pls) (hn:st.length<=10000/\pls.length<=10000)
  (hpe: ∀i q,pls[i]?=some q-> ∀u,fM w u->Calls Tryz.prog 411 #[.agg #[.int .i64 x.nodes,x.Gu.v,x.cI.v,x.FT.v, .int .i64 x.handle], .agg (BH q).toArray] u λe w'=>e= .returned (.int .i64 (pe i))/\fM u w'):
  Calls Tryz.prog 410 #[.agg (hP f fa p a x b).toArray] w λe w'=> ∃z:Option Addr×Nat,e= .returned (.slice z.1 (mJ f.cI st pls.length pe).length z.2)/\Mem w [ee z.1 z.2 (mJ f.cI st pls.length pe)] w':=by
 obtain ⟨dA,dn,dc,tA,tn,tc⟩:=fa
 obtain ⟨settled,ev,⟨sA,sn,sc⟩,rd,vs,fr,pd,rf,rl,sp,⟨lA,ln,lc⟩⟩:=b
 simp only at hst hps|-
 have hsl:=hst.1
 have hpl:=hps.1
 have htl:f.cI.length=tn:=hf.cI.1
 have hlt0: ∀l,(w4 f.cI st l).length<=l.length*1:=lM (DX _ _)
 have hlp0: ∀n,(Ee pe n).length<=n*1:=by unfold Ee;exact dX λi=>by split<;>simp
 refine dd Tryz.func410 rfl Tryz.ntmps410 rfl ?_
 refine ak ?_
 refine R0 ?_
 refine cd (v:= .agg _) rfl rfl λb1=>?_
 refine xV (aU (v:= .slice _ _ _) (q0 rfl)) rfl rfl ?_
 refine XN ?_
 refine ad ?_
 refine ak ?_
 refine R0 ?_
 refine xV (aU (v:= .slice _ _ _) (q0 rfl)) rfl rfl ?_
 refine XN ?_
 refine ad ?_
 refine ak ?_
 refine R0 ?_
 refine xV (az jh rfl aM rfl (q0 rfl)) rfl rfl ?_
 refine xV (az ax rfl eX rfl (q0 rfl)) rfl rfl ?_
 refine xV (az bh rfl cN rfl (q0 rfl)) rfl rfl ?_
 refine xV (az dI rfl ks rfl (q0 rfl)) rfl rfl ?_
 refine xV (eL jN (q0 rfl)) rfl rfl ?_
 refine xV (aU (v:= .slice _ _ _) (q0 rfl)) rfl rfl ?_
 refine XN ?_
 refine ad ?_
 refine ak ?_
 refine ak ?_
 refine R0 ?_
 refine xV (az jh rfl aM rfl (q0 rfl)) rfl rfl ?_
 refine xV (az ax rfl eV rfl (q0 rfl)) rfl rfl ?_
 refine xV (eL gE (q0 rfl)) rfl rfl ?_
 refine xV (dw bI (q0 rfl)) rfl rfl ?_
 refine xV (ay (v:= .int _ _) (q0 rfl)) rfl rfl ?_
 refine XN ?_
 refine ad ?_
 refine cq ?_
 refine ef [3,6,7,8,10,22,23,24,25,26,27,28,29,30,31,32,33,34,35,36,37,38,39,40,41,42,43,44,45,46,47,48,49,50,51,52,53,54,55,56,57,58,59,60,61,62,63,64,65,66,67,68,69,70,71,72,73,74,75,76,77,78,79,80,81,82,83,84,85,86,87,88,89,90,91,92,93] (λq:Nat×Option Addr×Nat=>[(22, .int .i64 q.1),(3, .slice q.2.1 (w4 f.cI st (st.take q.1)).length q.2.2)]) (λq=>[ee q.2.1 q.2.2 (w4 f.cI st (st.take q.1)),box b1 107 (hP f ⟨dA,dn,dc,tA,tn,tc⟩ p a x ⟨settled,ev,⟨sA,sn,sc⟩,rd,vs,fr,pd,rf,rl,sp,⟨lA,ln,lc⟩⟩)]) (λq=>q.1<=sn) (λq=>sn -q.1) (0,none,0) ⟨rfl,rfl,trivial⟩ (λw hw=>hw.fY _ _ _ rfl) rfl (bj _) ?_
 rintro ⟨i,A,c⟩ g hi
 have hi:i<=sn:=hi
 have hlni:=hlt0 (st.take i)
 rw [dG] at hlni
 refine ak ?_
 refine R0 ?_
 refine xV (gK (q0 rfl) (q0 rfl)) rfl rfl ?_
 refine XN ?_
 refine ad ?_
 refine ak ?_
 refine bD rfl (λhlt=>?_) (λhlt=>?_)
 ·have hlt':i<sn:=by simpa using hlt
  obtain ⟨pb,off,s,hAe,hpb,hpi,hrp⟩:=hst.at_ hlt'
  have hsI:w4 f.cI st (st.take (i+1))=w4 f.cI st (st.take i)++J2 f.cI st s:=vi _ hpi
  refine bZ ?_
  refine ad ?_
  refine ak ?_
  refine cq ?_
  refine ak ?_
  refine R0 ?_
  refine xV (cx i bI cy (q0 (by rw [<-hAe];rfl)) (q0 rfl) (λ_=>⟨rfl,by omega⟩)) rfl rfl ?_
  refine xV (eS kC cy (q0 rfl)) rfl rfl ?_
  refine bS fe rfl λb6=>?_
  refine dN (v:= .agg _) rfl rfl cy ?_
  refine XN ?_
  refine ad ?_
  refine ak ?_
  refine ak ?_
  refine R0 ?_
  refine xV (az bz rfl ae rfl (q0 rfl)) rfl rfl ?_
  refine xV (eL aj (q0 rfl)) rfl rfl ?_
  refine xV (ki (q0 rfl) (q0 rfl)) rfl rfl ?_
  refine xV (ay (v:= .bool _) (q0 rfl)) rfl rfl ?_
  refine fE (az bz rfl ae rfl (q0 rfl)) rfl rfl rfl rfl ?_
  refine fE (eL aj (q1 rfl)) rfl rfl rfl rfl ?_
  refine fE (gK (q1 rfl) (q0 rfl)) rfl rfl rfl rfl ?_
  refine xV (jJ (q0 rfl) rfl (λh=>by first|rfl|(rw [h];rfl))) rfl rfl ?_
  refine xV (ay (v:= .bool _) (q0 rfl)) rfl rfl ?_
  refine fE (az bz rfl ae rfl (q0 rfl)) rfl rfl rfl rfl ?_
  refine fE (eL aj (q1 rfl)) rfl rfl rfl rfl ?_
  refine fE (ay (v:= .slice _ _ _) (q0 rfl)) rfl rfl rfl rfl ?_
  refine fE (dw aA (q1 rfl)) rfl rfl rfl rfl ?_
  refine fE (CQ (q1 rfl) (q1 rfl)) rfl rfl rfl rfl ?_
  refine xV (jJ (q0 rfl) rfl (λh=>by first|rfl|(rw [h];rfl))) rfl rfl ?_
  refine XN ?_
  refine ad ?_
  refine bD rfl (λh1=>?_) (λh1=>?_)
  ·have h1': ¬(s.cF=4/\0<=s.place/\s.place<tn):=by
    simp at h1
    omega
   have hW:J2 f.cI st s=[]:=by unfold J2;rw [an (by rw [htl];omega)]
   rw [hW,bF] at hsI
   refine fz ?_
   refine cJ ?_
   refine cK ?_
   refine ad ?_
   refine R0 ?_
   refine xV (eT (q0 rfl) (q0 rfl) (λ_=>⟨rfl,by omega,by omega⟩)) rfl rfl ?_
   refine xV (ay (v:= .int _ _) (q0 rfl)) rfl rfl ?_
   refine XN ?_
   exact aH (i+1,A,c) (by repeat (first|exact aK|exact aN|refine a8 rfl ?_|refine aJ rfl ?_|refine aD rfl ?_)) ⟨rfl,by show Value.slice A (w4 f.cI st (st.take i)).length c=Value.slice A (w4 f.cI st (st.take (i+1))).length c;rw [hsI],trivial⟩ (λw hw=>by
    show Mem _ [ee A c (w4 f.cI st (st.take (i+1))),_] w
    rw [hsI]
    exact hw.pick [1,2] (by decide)) rfl hlt' (by show sn -(i+1)<sn -i;omega)
  have h1':s.cF=4/\0<=s.place/\s.place<tn:=by
   simp at h1
   omega
  refine bZ ?_
  refine ad ?_
  refine ak ?_
  refine R0 ?_
  refine xV (az bz rfl bK rfl (q0 rfl)) rfl rfl ?_
  refine xV (az bL rfl ae rfl (q0 rfl)) rfl rfl ?_
  refine xV (eL aj (q0 rfl)) rfl rfl ?_
  refine xV (aU (v:= .int _ _) (q0 rfl)) rfl rfl ?_
  refine xV (aU (v:= .int _ _) (q0 rfl)) rfl rfl ?_
  refine XN ?_
  refine ad ?_
  refine ak ?_
  refine ak ?_
  refine R0 ?_
  refine xV (az jh rfl aM rfl (q0 rfl)) rfl rfl ?_
  refine xV (az ax rfl eV rfl (q0 rfl)) rfl rfl ?_
  refine xV (eL gE (q0 rfl)) rfl rfl ?_
  refine xV (dw bI (q0 rfl)) rfl rfl ?_
  refine xV (ay (v:= .int _ _) (q0 rfl)) rfl rfl ?_
  refine XN ?_
  refine ad ?_
  refine cq ?_
  refine ef [8,10,48,49,50,51,52,53,54,55,56,57,58,59,60,61,62,63,64,65,66,67,68,69,70,71,72,73,74,75,76,77,78] (λq:Nat×Nat=>[(48, .int .i64 q.1),(8, .int .i64 q.2)]) (λ_=>[box b6 98 s.cells,ee A c (w4 f.cI st (st.take i)),box b1 107 (hP f ⟨dA,dn,dc,tA,tn,tc⟩ p a x ⟨settled,ev,⟨sA,sn,sc⟩,rd,vs,fr,pd,rf,rl,sp,⟨lA,ln,lc⟩⟩)]) (λq=>q.1<=sn/\q.2=AG (st.take q.1) s.place s.from_) (λq=>sn -q.1) (0,0) ⟨rfl,rfl,trivial⟩ (λw hw=>hw) rfl ⟨bj _,rfl⟩ ?_
  rintro ⟨j,m⟩ g2 ⟨hj,hm⟩
  have hj:j<=sn:=hj
  have hm:m=AG (st.take j) s.place s.from_:=hm
  have hmj:m<=10000:=by
   rw [hm]
   unfold AG
   have h3:=dK (λy=>Ot y s.place s.from_) (st.take j)
   rw [dG] at h3
   omega
  refine ak ?_
  refine R0 ?_
  refine xV (gK (q0 rfl) (q0 rfl)) rfl rfl ?_
  refine XN ?_
  refine ad ?_
  refine ak ?_
  refine bD rfl (λhlt2=>?_) (λhlt2=>?_)
  ·have hlt3:j<sn:=by simpa using hlt2
   obtain ⟨pb2,off2,y,hBe,hpb2,hpj,hrp2⟩:=hst.at_ hlt3
   have hsN:AG (st.take (j+1)) s.place s.from_=if Ot y s.place s.from_=true then m+1 else m:=by
    rw [hm]
    unfold AG
    rw [dY st j y hpj,gi,aQ,iZ]
    split<;>rfl
   refine bZ ?_
   refine ad ?_
   refine ak ?_
   refine cq ?_
   refine ak ?_
   refine R0 ?_
   refine xV (cx j bI cy (q0 (by rw [<-hBe];rfl)) (q0 rfl) (λ_=>⟨rfl,by omega⟩)) rfl rfl ?_
   refine xV (eS kC cy (q0 rfl)) rfl rfl ?_
   refine bS fe rfl λb10=>?_
   refine dN (v:= .agg _) rfl rfl cy ?_
   refine XN ?_
   refine ad ?_
   refine ak ?_
   refine R0 ?_
   refine xV (az bz rfl ae rfl (q0 rfl)) rfl rfl ?_
   refine xV (eL aj (q0 rfl)) rfl rfl ?_
   refine xV (jE (q0 rfl) (q0 rfl)) rfl rfl ?_
   refine xV (ay (v:= .bool _) (q0 rfl)) rfl rfl ?_
   refine dJ (az bz rfl ae rfl (q0 rfl)) rfl rfl rfl rfl ?_
   refine dJ (eL aj (q1 rfl)) rfl rfl rfl rfl ?_
   refine dJ (az bz rfl ae rfl (q0 rfl)) rfl rfl rfl rfl ?_
   refine dJ (eL aj (q1 rfl)) rfl rfl rfl rfl ?_
   refine dJ (jE (q1 rfl) (q1 rfl)) rfl rfl rfl rfl ?_
   refine xV (fH (q0 rfl) rfl (λh=>by first|rfl|(rw [h];rfl))) rfl rfl ?_
   refine xV (ay (v:= .bool _) (q0 rfl)) rfl rfl ?_
   refine dJ (az bz rfl bK rfl (q0 rfl)) rfl rfl rfl rfl ?_
   refine dJ (az bL rfl ae rfl (q1 rfl)) rfl rfl rfl rfl ?_
   refine dJ (eL aj (q1 rfl)) rfl rfl rfl rfl ?_
   refine dJ (ay (v:= .int _ _) (q0 rfl)) rfl rfl rfl rfl ?_
   refine dJ (tg (q1 rfl) (q1 rfl)) rfl rfl rfl rfl ?_
   refine xV (fH (q0 rfl) rfl (λh=>by first|rfl|(rw [h];rfl))) rfl rfl ?_
   refine xV (ay (v:= .bool _) (q0 rfl)) rfl rfl ?_
   refine dJ (ay (v:= .int _ _) (q0 rfl)) rfl rfl rfl rfl ?_
   refine dJ (az bz rfl bK rfl (q0 rfl)) rfl rfl rfl rfl ?_
   refine dJ (az bL rfl ae rfl (q1 rfl)) rfl rfl rfl rfl ?_
   refine dJ (eL aj (q1 rfl)) rfl rfl rfl rfl ?_
   refine dJ (gK (q1 rfl) (q1 rfl)) rfl rfl rfl rfl ?_
   refine xV (fH (q0 rfl) rfl (λh=>by first|rfl|(rw [h];rfl))) rfl rfl ?_
   refine XN ?_
   refine ad ?_
   refine bD rfl (λh2=>?_) (λh2=>?_)
   ·rw [aB (show Ot y s.place s.from_=true from h2)] at hsN
    refine R0 ?_
    refine xV (ay (v:= .int _ _) (q0 rfl)) rfl rfl ?_
    refine xV (eT (q0 rfl) (q0 rfl) (λ_=>⟨rfl,by omega,by omega⟩)) rfl rfl ?_
    refine xV (aU (v:= .int _ _) (q0 rfl)) rfl rfl ?_
    refine XN ?_
    refine bc ?_
    refine ad ?_
    refine R0 ?_
    refine xV (eT (q0 rfl) (q0 rfl) (λ_=>⟨rfl,by omega,by omega⟩)) rfl rfl ?_
    refine xV (ay (v:= .int _ _) (q0 rfl)) rfl rfl ?_
    refine XN ?_
    exact aH (j+1,m+1) (by repeat (first|exact aK|exact aN|refine a8 rfl ?_|refine aJ rfl ?_|refine aD rfl ?_)) ⟨rfl,rfl,trivial⟩ (λw hw=>hw.tail) rfl ⟨hlt3,hsN.symm⟩ (by show sn -(j+1)<sn -j;omega)
   rw [an (by rw [show Ot y s.place s.from_=false from h2];decide)] at hsN
   refine bZ ?_
   refine bc ?_
   refine ad ?_
   refine R0 ?_
   refine xV (eT (q0 rfl) (q0 rfl) (λ_=>⟨rfl,by omega,by omega⟩)) rfl rfl ?_
   refine xV (ay (v:= .int _ _) (q0 rfl)) rfl rfl ?_
   refine XN ?_
   exact aH (j+1,m) (by repeat (first|exact aK|exact aN|refine a8 rfl ?_|refine aJ rfl ?_|refine aD rfl ?_)) ⟨rfl,rfl,trivial⟩ (λw hw=>hw.tail) rfl ⟨hlt3,hsN.symm⟩ (by show sn -(j+1)<sn -j;omega)
  have hje:j=sn:=by simp at hlt2;omega
  rw [hje,bo (by omega)] at hm
  obtain ⟨tb,to,cap,hTe,htb,hcp,hrt⟩:=hf.cI.at_ (i:=s.place.toNat) (by show s.place.toNat<tn;omega)
  have hTe:tA=some ⟨tb,to,none⟩:=hTe
  have hcg:f.cI.getD s.place.toNat 0=cap:=by rw [ar,hcp];rfl
  refine fz ?_
  refine cJ ?_
  refine cM ?_
  refine cK ?_
  refine ad ?_
  refine ak ?_
  refine R0 ?_
  refine xV (ay (v:= .int _ _) (q0 rfl)) rfl rfl ?_
  refine xV (ay (v:= .slice _ _ _) (q0 rfl)) rfl rfl ?_
  refine xV (az bz rfl ae rfl (q0 rfl)) rfl rfl ?_
  refine xV (eL aj (q0 rfl)) rfl rfl ?_
  refine xV (cx s.place.toNat aA ae (q0 (by rw [<-hTe];rfl)) (q0 (v:= .int .i64 s.place) rfl) (λ_=>⟨by show s.place=((s.place.toNat:Nat):Int);omega,by show s.place.toNat<tn;omega⟩)) rfl rfl ?_
  refine xV (eL aj (q0 rfl)) rfl rfl ?_
  refine xV (uY (q0 rfl) (q0 rfl)) rfl rfl ?_
  refine XN ?_
  refine ad ?_
  refine bD rfl (λh3=>?_) (λh3=>?_)
  ·have hW:J2 f.cI st s=[⟨3,s.place,s.from_⟩]:=by
    unfold J2
    rw [aB ⟨h1'.1,h1'.2.1,by rw [htl];exact h1'.2.2,by rw [hcg,<-hm];simpa using h3⟩]
   rw [hW] at hsI
   refine R0 ?_
   refine xV (ay (v:= .slice _ _ _) (q0 rfl)) rfl rfl ?_
   refine xV (az bz rfl ae rfl (q0 rfl)) rfl rfl ?_
   refine xV (eL aj (q0 rfl)) rfl rfl ?_
   refine xV (ay (v:= .int _ _) (q0 rfl)) rfl rfl ?_
   refine xV (bN bU rE bG (pt (v:= .int _ _) rfl (pt (v:= .int _ _) rfl (pt (v:= .int _ _) rfl E.p0))) rfl) rfl rfl ?_
   refine gN (k:=3) (i:=Tryz.t65) 1 ((⟨3,s.place,s.from_⟩:Fd)) bg (by kernel_rfl) rfl rfl rfl rfl cr bG rfl rfl rfl rfl rfl rfl ⟨by simp only;omega,by decide⟩ rfl rfl λB A2 c2=>?_
   refine xV (aU (v:= .slice _ _ _) (q0 rfl)) rfl rfl ?_
   refine XN ?_
   refine bc ?_
   refine ad ?_
   refine R0 ?_
   refine xV (eT (q0 rfl) (q0 rfl) (λ_=>⟨rfl,by omega,by omega⟩)) rfl rfl ?_
   refine xV (ay (v:= .int _ _) (q0 rfl)) rfl rfl ?_
   refine XN ?_
   exact aH (i+1,A2,c2) (by repeat (first|exact aK|exact aN|refine a8 rfl ?_|refine aJ rfl ?_|refine aD rfl ?_)) ⟨rfl,by show Value.slice A2 (w4 f.cI st (st.take i)++[(⟨3,s.place,s.from_⟩:Fd)]).length c2=Value.slice A2 (w4 f.cI st (st.take (i+1))).length c2;rw [hsI],trivial⟩ (λw hw=>by
    show Mem _ [ee A2 c2 (w4 f.cI st (st.take (i+1))),_] w
    rw [hsI]
    exact hw.pick [1,2] (by decide)) rfl hlt' (by show sn -(i+1)<sn -i;omega)
  have hW:J2 f.cI st s=[]:=by
   unfold J2
   rw [an]
   rintro ⟨_,_,_,h4⟩
   rw [hcg,<-hm] at h4
   simp at h3
   omega
  rw [hW,bF] at hsI
  refine bZ ?_
  refine bc ?_
  refine ad ?_
  refine R0 ?_
  refine xV (eT (q0 rfl) (q0 rfl) (λ_=>⟨rfl,by omega,by omega⟩)) rfl rfl ?_
  refine xV (ay (v:= .int _ _) (q0 rfl)) rfl rfl ?_
  refine XN ?_
  exact aH (i+1,A,c) (by repeat (first|exact aK|exact aN|refine a8 rfl ?_|refine aJ rfl ?_|refine aD rfl ?_)) ⟨rfl,by show Value.slice A (w4 f.cI st (st.take i)).length c=Value.slice A (w4 f.cI st (st.take (i+1))).length c;rw [hsI],trivial⟩ (λw hw=>by
   show Mem _ [ee A c (w4 f.cI st (st.take (i+1))),_] w
   rw [hsI]
   exact hw.pick [1,2] (by decide)) rfl hlt' (by show sn -(i+1)<sn -i;omega)
 have hie:i=sn:=by simp at hlt;omega
 rw [hie,bo (by omega)]
 rw [hie,E3 (by omega)] at hlni
 rw [bo (by omega)] at hlni
 refine fz ?_
 refine cJ ?_
 refine cM ?_
 refine cK ?_
 refine ad ?_
 refine ak ?_
 refine ak ?_
 refine R0 ?_
 refine xV (az jh rfl aM rfl (q0 rfl)) rfl rfl ?_
 refine xV (az ax rfl Qz rfl (q0 rfl)) rfl rfl ?_
 refine xV (eL Tryz.isAgg54 (q0 rfl)) rfl rfl ?_
 refine xV (dw G9 (q0 rfl)) rfl rfl ?_
 refine xV (ay (v:= .int _ _) (q0 rfl)) rfl rfl ?_
 refine XN ?_
 refine ad ?_
 refine cq ?_
 refine ef [3,11,12,98,99,100,101,102,103,104,105,106,107,108,109,110,111,112,113,114,115] (λq:Nat×Option Addr×Nat=>[(98, .int .i64 q.1),(3, .slice q.2.1 (w4 f.cI st st++Ee pe q.1).length q.2.2)]) (λq=>[ee q.2.1 q.2.2 (w4 f.cI st st++Ee pe q.1),box b1 107 (hP f ⟨dA,dn,dc,tA,tn,tc⟩ p a x ⟨settled,ev,⟨sA,sn,sc⟩,rd,vs,fr,pd,rf,rl,sp,⟨lA,ln,lc⟩⟩)]) (λq=>q.1<=ln) (λq=>ln -q.1) (0,A,c) ⟨rfl,by show _=Value.slice A (_++[]).length c;rw [bF];rfl,trivial⟩ (λw hw=>by
  show Mem _ [ee A c (_++[]),_] w
  rw [bF];exact hw) rfl (bj _) ?_
 rintro ⟨k,A,c⟩ g3 hk
 have hk:k<=ln:=hk
 have hlk:=hlp0 k
 refine ak ?_
 refine R0 ?_
 refine xV (gK (q0 rfl) (q0 rfl)) rfl rfl ?_
 refine XN ?_
 refine ad ?_
 refine ak ?_
 refine bD rfl (λhlt4=>?_) (λhlt4=>?_)
 ·have hlt5:k<ln:=by simpa using hlt4
  obtain ⟨pb,off,q,hAe,hpb,hpi,hrp⟩:=hps.at_ hlt5
  have hsP:Ee pe (k+1)=Ee pe k++(if pe k≠0 then [⟨12,k,0⟩] else []):=by unfold Ee;rw [kj]
  refine bZ ?_
  refine ad ?_
  refine ak ?_
  refine cq ?_
  refine ak ?_
  refine R0 ?_
  refine xV (ay (v:= .int _ _) (q0 rfl)) rfl rfl ?_
  refine xV (cx k G9 yi (q0 (by rw [<-hAe];rfl)) (q0 rfl) (λ_=>⟨rfl,by omega⟩)) rfl rfl ?_
  refine xV (eS Tryz.isAgg91 yi (q0 rfl)) rfl rfl ?_
  refine bS JJ rfl λb12=>?_
  refine xV (aU (v:= .int _ _) (q0 rfl)) rfl rfl ?_
  refine dN (v:= .agg _) rfl rfl yi ?_
  refine XN ?_
  refine ad ?_
  refine ak ?_
  refine R0 ?_
  refine xV (az jh rfl aM rfl (q0 rfl)) rfl rfl ?_
  refine xV (az ax rfl eX rfl (q0 rfl)) rfl rfl ?_
  refine xV (az bh rfl ui rfl (q0 rfl)) rfl rfl ?_
  refine xV (eP Tryz.isAgg35 ui (q0 rfl)) rfl rfl ?_
  refine xV (eS Tryz.isAgg91 yi (q0 rfl)) rfl rfl ?_
  refine xC (en Tryz.call411 (jn (q0 rfl) (q0 rfl))) (λ_ w hw=>hpe k q hpi w hw.1) rfl rfl ?_
  refine xV (ki (q0 rfl) (q0 rfl)) rfl rfl ?_
  refine XN ?_
  refine ad ?_
  refine bD rfl (λh6=>?_) (λh6=>?_)
  ·have h6':pe k≠0:=by simpa using h6
   rw [aB h6'] at hsP
   refine R0 ?_
   refine xV (ay (v:= .slice _ _ _) (q0 rfl)) rfl rfl ?_
   refine xV (ay (v:= .int _ _) (q0 rfl)) rfl rfl ?_
   refine xV (bN bU rE bG (pt (v:= .int _ _) rfl (pt (v:= .int _ _) rfl E.p0)) rfl) rfl rfl ?_
   refine gN (k:=3) (i:=Tryz.t65) 1 ((⟨12,k,0⟩:Fd)) bg (by kernel_rfl) rfl rfl rfl rfl cr bG rfl rfl rfl rfl rfl rfl ⟨by simp only [aQ];omega,by decide⟩ rfl rfl λB A2 c2=>?_
   refine xV (aU (v:= .slice _ _ _) (q0 rfl)) rfl rfl ?_
   refine XN ?_
   refine bc ?_
   refine ad ?_
   refine R0 ?_
   refine xV (eT (q0 rfl) (q0 rfl) (λ_=>⟨rfl,by omega,by omega⟩)) rfl rfl ?_
   refine xV (ay (v:= .int _ _) (q0 rfl)) rfl rfl ?_
   refine XN ?_
   exact aH (k+1,A2,c2) (by repeat (first|exact aK|exact aN|refine a8 rfl ?_|refine aJ rfl ?_|refine aD rfl ?_)) ⟨rfl,by show Value.slice A2 (w4 f.cI st st++Ee pe k++[(⟨12,k,0⟩:Fd)]).length c2=Value.slice A2 (w4 f.cI st st++Ee pe (k+1)).length c2;rw [hsP,cE],trivial⟩ (λw hw=>by
    show Mem _ [ee A2 c2 (w4 f.cI st st++Ee pe (k+1)),_] w
    rw [hsP,<-cE]
    exact hw.pick [1,2] (by decide)) rfl hlt5 (by show ln -(k+1)<ln -k;omega)
  have h6': ¬pe k≠0:=by simpa using h6
  rw [an h6',bF] at hsP
  refine bZ ?_
  refine bc ?_
  refine ad ?_
  refine R0 ?_
  refine xV (eT (q0 rfl) (q0 rfl) (λ_=>⟨rfl,by omega,by omega⟩)) rfl rfl ?_
  refine xV (ay (v:= .int _ _) (q0 rfl)) rfl rfl ?_
  refine XN ?_
  exact aH (k+1,A,c) (by repeat (first|exact aK|exact aN|refine a8 rfl ?_|refine aJ rfl ?_|refine aD rfl ?_)) ⟨rfl,by show Value.slice A (w4 f.cI st st++Ee pe k).length c=Value.slice A (w4 f.cI st st++Ee pe (k+1)).length c;rw [hsP],trivial⟩ (λw hw=>by
   show Mem _ [ee A c (w4 f.cI st st++Ee pe (k+1)),_] w
   rw [hsP]
   exact hw.pick [1,2] (by decide)) rfl hlt5 (by show ln -(k+1)<ln -k;omega)
 have hke:k=pls.length:=by simp at hlt4;omega
 rw [hke]
 refine fz ?_
 refine cJ ?_
 refine cM ?_
 refine cK ?_
 refine ad ?_
 refine ak ?_
 refine R0 ?_
 refine xV (ay (v:= .slice _ _ _) (q0 rfl)) rfl rfl ?_
 refine xV (aU (v:= .slice _ _ _) (q0 rfl)) rfl rfl ?_
 refine XN ?_
 refine ad ?_
 refine dq ?_
 exact cu (v:= .slice _ _ _) rfl rfl rfl λw' hw=>⟨(A,c),rfl,hw.pick [0] (by decide)⟩
def nZ (n:Nat):List Fd:=(List.range n).flatMap λi:Nat=>[⟨10,i,-1⟩]
def AI (each:Int) (n:Nat):List Fd:=(List.range n).flatMap λi:Nat=>if each=0 then [] else [⟨11,0,i⟩]
def N7 (b:Int):Int:=if 0<=b/\b<=1000000 then 0 else 1
def ko (n:Nat) (each bud:Int):List Fd:=nZ n++(if N7 bud≠0 then [⟨11,0,-1⟩] else AI each n)
def Q9 (e:Int):List Value:=[.int .i64 0, .int .i64 0, .int .i64 e, .int .i64 0, .int .i64 0, .slice none 0 0, .slice none 0 0, .slice none 0 0, .slice none 0 0, .slice none 0 0]
theorem Ty {fs:Array Field} (h:Tryz.prog.underlying 120=some (.struct fs):=by exact fS):df Tryz.prog fs [(0,37)]:=by
 rw [fS] at h
 cases h
 intro w
 kernel_rfl
theorem Ut {fs:Array Field} (h:Tryz.prog.underlying 88=some (.struct fs):=by exact mj):df Tryz.prog fs [(0,2),(2,1),(3,3),(6,1),(7,1),(8,1),(9,1)]:=by
 rw [mj] at h
 cases h
 intro w
 kernel_rfl
theorem TR (n lo hi:Int) (w:World):Calls Tryz.prog 477 #[.int .i64 n, .int .i64 lo, .int .i64 hi] w λe w'=>e= .returned (.bool (decide (lo<=n)&&decide (n<=hi)))/\fM w w':=by
 refine dd Tryz.func477 rfl Tryz.ntmps477 rfl ?_
 refine ak ?_
 refine R0 ?_
 refine xV (aU (v:= .bool _) (q0 rfl)) rfl rfl ?_
 refine XN ?_
 refine ad ?_
 refine ak ?_
 refine R0 ?_
 refine xV (ay (v:= .int _ _) (q0 rfl)) rfl rfl ?_
 refine xV (ay (v:= .int _ _) (q0 rfl)) rfl rfl ?_
 refine xV (tg (q0 rfl) (q0 rfl)) rfl rfl ?_
 refine xV (ay (v:= .bool _) (q0 rfl)) rfl rfl ?_
 refine dJ (ay (v:= .int _ _) (q0 rfl)) rfl rfl rfl rfl ?_
 refine dJ (ay (v:= .int _ _) (q0 rfl)) rfl rfl rfl rfl ?_
 refine dJ (tg (q1 rfl) (q1 rfl)) rfl rfl rfl rfl ?_
 refine xV (fH (q0 rfl) rfl (λh=>by first|rfl|(rw [h];rfl))) rfl rfl ?_
 refine xV (aU (v:= .bool _) (q0 rfl)) rfl rfl ?_
 refine XN ?_
 refine ad ?_
 refine dq ?_
 exact cu (v:= .bool _) rfl rfl rfl λw' hw=>⟨rfl,hw.1⟩
theorem NF (A:Option Addr) (c:Nat) (bu:Int) (w:World):Calls Tryz.prog 471 #[.slice A 0 c, .int .i64 bu] w λe w'=>e= .returned (.int .i64 (N7 bu))/\fM w w':=by
 refine dd Tryz.func471 rfl Tryz.ntmps471 rfl ?_
 refine ak ?_
 refine R0 ?_
 refine xV (aU (v:= .int _ _) (q0 rfl)) rfl rfl ?_
 refine XN ?_
 refine ad ?_
 refine ak ?_
 refine ak ?_
 refine R0 ?_
 refine xV (ay (v:= .int _ _) (q0 rfl)) rfl rfl ?_
 refine xC (en Tryz.call477 (nS (q0 rfl) (q0 rfl) (q0 rfl))) (λ_ w _=>TR bu 0 1000000 w) rfl rfl ?_
 refine xV (oz (q0 rfl)) rfl rfl ?_
 refine XN ?_
 refine ad ?_
 refine bD rfl (λh1=>?_) (λh1=>?_)
 ·have h2:N7 bu=1:=by unfold N7;rw [an];intro h3;simp [h3] at h1
  rw [h2]
  refine ak ?_
  refine R0 ?_
  refine xV (aU (v:= .int _ _) (q0 rfl)) rfl rfl ?_
  refine XN ?_
  refine ad ?_
  refine dq ?_
  refine cw ?_
  exact cu (v:= .int _ _) rfl rfl rfl λw' hw=>⟨rfl,hw.1⟩
 have h2:N7 bu=0:=by unfold N7;rw [aB];simp at h1;omega
 rw [h2]
 refine bZ ?_
 refine ad ?_
 refine ak ?_
 refine ak ?_
 refine R0 ?_
 refine xV (ay (v:= .slice _ _ _) (q0 rfl)) rfl rfl ?_
 refine xV (dw xe (q0 rfl)) rfl rfl ?_
 refine xV (uY (q0 rfl) (q0 rfl)) rfl rfl ?_
 refine XN ?_
 refine ad ?_
 refine bD rfl (λh3=>?_) (λh3=>?_)
 ·simp at h3
 refine bZ ?_
 refine ad ?_
 refine ak ?_
 refine ak ?_
 refine R0 ?_
 refine xV (ay (v:= .slice _ _ _) (q0 rfl)) rfl rfl ?_
 refine xV (dw xe (q0 rfl)) rfl rfl ?_
 refine xV (ay (v:= .int _ _) (q0 rfl)) rfl rfl ?_
 refine XN ?_
 refine ad ?_
 refine cq ?_
 refine ef [4,6,18,19,20,21,22,23,24,25,26,27,28,29,30,31,32] (λ_:Unit=>[(18, .int .i64 0)]) (λ_=>[]) (λ_=>True) (λ_=>0) () ⟨rfl,trivial⟩ (λw hw=>hw) rfl trivial ?_
 rintro ⟨⟩ g _
 refine ak ?_
 refine R0 ?_
 refine xV (gK (q0 rfl) (q0 rfl)) rfl rfl ?_
 refine XN ?_
 refine ad ?_
 refine ak ?_
 refine bD rfl (λh4=>?_) (λh4=>?_)
 ·simp at h4
 refine fz ?_
 refine cJ ?_
 refine cM ?_
 refine cK ?_
 refine ad ?_
 refine ak ?_
 refine R0 ?_
 refine cQ (tS rfl λbm=>?_)
 refine xV (aU (v:= .map _) (q0 rfl)) rfl rfl ?_
 refine XN ?_
 refine ad ?_
 refine ak ?_
 refine ak ?_
 refine R0 ?_
 refine xV (ay (v:= .slice _ _ _) (q0 rfl)) rfl rfl ?_
 refine xV (dw xe (q0 rfl)) rfl rfl ?_
 refine xV (ay (v:= .int _ _) (q0 rfl)) rfl rfl ?_
 refine XN ?_
 refine ad ?_
 refine cq ?_
 refine ef [4,9,36,37,38,39,40,41,42,43,44,45,46,47,48,49,50,51,52,53] (λ_:Unit=>[(36, .int .i64 0)]) (λ_=>[mT bm []]) (λ_=>True) (λ_=>0) () ⟨rfl,trivial⟩ (λw hw=>hw) rfl trivial ?_
 rintro ⟨⟩ g2 _
 refine ak ?_
 refine R0 ?_
 refine xV (gK (q0 rfl) (q0 rfl)) rfl rfl ?_
 refine XN ?_
 refine ad ?_
 refine ak ?_
 refine bD rfl (λh5=>?_) (λh5=>?_)
 ·simp at h5
 refine fz ?_
 refine cJ ?_
 refine cM ?_
 refine cK ?_
 refine ad ?_
 refine ak ?_
 refine R0 ?_
 refine xV (aU (v:= .int _ _) (q0 rfl)) rfl rfl ?_
 refine XN ?_
 refine ad ?_
 refine dq ?_
 exact cu (v:= .int _ _) rfl rfl rfl λw' hw=>⟨rfl,hw.1⟩
theorem Ct (w:World):Calls Tryz.prog 472 #[.int .i64 0] w λe w'=>e= .returned (.int .i64 0)/\fM w w':=by
 refine dd Tryz.func472 rfl Tryz.ntmps472 rfl ?_
 refine ak ?_
 refine R0 ?_
 refine xV (aU (v:= .int _ _) (q0 rfl)) rfl rfl ?_
 refine XN ?_
 refine ad ?_
 refine ak ?_
 refine R0 ?_
 refine xV (ay (v:= .int _ _) (q0 rfl)) rfl rfl ?_
 refine xV (wD (q0 rfl) (q0 rfl) (λ_=>⟨by omega,by omega,by omega⟩)) rfl rfl ?_
 refine xV (aU (v:= .int _ _) (q0 rfl)) rfl rfl ?_
 refine XN ?_
 refine ad ?_
 refine ak ?_
 refine ak ?_
 refine R0 ?_
 refine xV (ay (v:= .int _ _) (q0 rfl)) rfl rfl ?_
 refine xV (Jm (q0 rfl) (q0 rfl) (λ_=>⟨by omega,by omega⟩)) rfl rfl ?_
 refine xV (gK (q0 rfl) (q0 rfl)) rfl rfl ?_
 refine XN ?_
 refine ad ?_
 refine bD rfl (λh1=>?_) (λh1=>?_)
 ·simp at h1
 refine bZ ?_
 refine ad ?_
 refine ak ?_
 refine R0 ?_
 refine xV (ay (v:= .int _ _) (q0 rfl)) rfl rfl ?_
 refine xV (aU (v:= .int _ _) (q0 rfl)) rfl rfl ?_
 refine XN ?_
 refine ad ?_
 refine dq ?_
 exact cu (v:= .int _ _) rfl rfl rfl λw' hw=>⟨rfl,hw.1⟩
theorem LA (w:World):Calls Tryz.prog 468 #[.agg #[.int .i64 0, .int .i64 0]] w λe w'=>e= .returned (.bool false)/\fM w w':=by
 refine dd Tryz.func468 rfl Tryz.ntmps468 rfl ?_
 refine ak ?_
 refine R0 ?_
 refine cd (v:= .agg _) rfl rfl λb1=>?_
 refine xV (aU (v:= .bool _) (q0 rfl)) rfl rfl ?_
 refine XN ?_
 refine ad ?_
 refine ak ?_
 refine R0 ?_
 refine xV (az bL rfl ae rfl (q0 rfl)) rfl rfl ?_
 refine xV (eL aj (q0 rfl)) rfl rfl ?_
 refine xC (en Sv (iQ (q0 rfl))) (λ_ w _=>Ct w) rfl rfl ?_
 refine xV (aU (v:= .int _ _) (q0 rfl)) rfl rfl ?_
 refine XN ?_
 refine ad ?_
 refine ak ?_
 refine R0 ?_
 refine xV (ay (v:= .int _ _) (q0 rfl)) rfl rfl ?_
 refine xV (CQ (q0 rfl) (q0 rfl)) rfl rfl ?_
 refine xV (ay (v:= .bool _) (q0 rfl)) rfl rfl ?_
 refine dJ (ay (v:= .int _ _) (q0 rfl)) rfl rfl rfl rfl ?_
 refine dJ (tg (q1 rfl) (q0 rfl)) rfl rfl rfl rfl ?_
 refine xV (fH (q0 rfl) rfl (λh=>by first|rfl|(rw [h];rfl))) rfl rfl ?_
 refine xV (ay (v:= .bool _) (q0 rfl)) rfl rfl ?_
 refine dJ (az bL rfl ae rfl (q0 rfl)) rfl rfl rfl rfl ?_
 refine dJ (eL aj (q1 rfl)) rfl rfl rfl rfl ?_
 refine dJ (ay (v:= .int _ _) (q0 rfl)) rfl rfl rfl rfl ?_
 refine dJ (Nc (r:=0) (q1 rfl) (q0 rfl) (λ_=>⟨by omega,by omega,by omega⟩)) rfl rfl rfl rfl ?_
 refine dJ (jE (q1 rfl) (q1 rfl)) rfl rfl rfl rfl ?_
 refine xV (fH (q0 rfl) rfl (λh=>by first|rfl|(rw [h];rfl))) rfl rfl ?_
 refine xV (ay (v:= .bool _) (q0 rfl)) rfl rfl ?_
 refine dJ (az bL rfl ae rfl (q0 rfl)) rfl rfl rfl rfl ?_
 refine dJ (eL aj (q1 rfl)) rfl rfl rfl rfl ?_
 refine dJ (az bL rfl ae rfl (q0 rfl)) rfl rfl rfl rfl ?_
 refine dJ (eL aj (q1 rfl)) rfl rfl rfl rfl ?_
 refine dJ (eT (q1 rfl) (q0 rfl) (λ_=>⟨rfl,by omega,by omega⟩)) rfl rfl rfl rfl ?_
 refine dJ (jE (q1 rfl) (q1 rfl)) rfl rfl rfl rfl ?_
 refine xV (fH (q0 rfl) rfl (λh=>by first|rfl|(rw [h];rfl))) rfl rfl ?_
 refine xV (aU (v:= .bool _) (q0 rfl)) rfl rfl ?_
 refine XN ?_
 refine ad ?_
 refine dq ?_
 exact cu (v:= .bool _) rfl rfl rfl λw' hw=>⟨rfl,hw.1⟩
attribute [local irreducible] dP dF oQ jw sg jA nZ AI
theorem J4 (f:Fl) (fa:FA) (p:Pr) (a:tz) (x:SX) (b:BX) (cX:List Ev) (V:List Pen.V) (rels:List Int) (w:World) (hf:mE w f fa) (hp:qh w p a) (hev:rO w b.ev.A b.ev.n cX) (hvs:Pen.zw w b.vs.A b.vs.n V) (h0:gS f p=0) (hn:cX.length<=40) (hpl:zz cX)
  (hrl:eG w 10 Q9 b.rl.A b.rl.n rels) (hsp:b.sp=⟨none,0,0⟩) (hln:rels.length<=100):
  Calls Tryz.prog 467 #[.agg (hP f fa p a x b).toArray] w λe w'=> ∃z:Option Addr×Nat,e= .returned (.slice z.1 (ko rels.length x.each x.kB).length z.2)/\Mem w [ee z.1 z.2 (ko rels.length x.each x.kB)] w':=by
 obtain ⟨settled,ev,st,rd,vs,fr,pd,rf,⟨lA,ln,lc⟩,sp,pl⟩:=b
 simp only at hev hvs hrl hsp|-
 subst hsp
 have hll:=hrl.1
 have hlt0: ∀n,(nZ n).length<=n*1:=by unfold nZ;exact dX λi=>by simp
 have hls0: ∀n,(AI x.each n).length<=n*1:=by unfold AI;exact dX λi=>by split<;>simp
 refine dd Tryz.func467 rfl Tryz.ntmps467 rfl ?_
 refine ak ?_
 refine R0 ?_
 refine cd (v:= .agg _) rfl rfl λb1=>?_
 refine xV (aU (v:= .slice _ _ _) (q0 rfl)) rfl rfl ?_
 refine XN ?_
 refine ad ?_
 refine ak ?_
 refine R0 ?_
 refine xV (az fS rfl aM rfl (q0 rfl)) rfl rfl ?_
 refine xV (eP cP aM (q0 rfl)) rfl rfl ?_
 refine oD (en Tryz.call446 (iQ (q0 rfl))) (λw hw=>Gy f fa p a x ⟨settled,ev,st,rd,vs,fr,pd,rf,⟨lA,ln,lc⟩,⟨none,0,0⟩,pl⟩ cX V w (hf.mem hw) (hp.mem hw) (hev.mem hw) (hvs.mem hw) h0 hn hpl) rfl (λ_=>rfl) λdv=>?_
 obtain ⟨⟨⟨⟨⟨rA,rn,rcc⟩,⟨sA,sn,sc⟩,⟨fA,fn,fc⟩,⟨yA,yn,yc⟩,th⟩,zr,zs,zf,zy⟩,R⟩,hE,hU⟩:=dv
 refine bS w9 rfl λb3=>?_
 refine dN (v:= .agg _) rfl rfl lO ?_
 refine XN ?_
 refine ad ?_
 refine ak ?_
 refine R0 ?_
 refine xV (aU (v:= .slice _ _ _) (q0 rfl)) rfl rfl ?_
 refine XN ?_
 refine ad ?_
 refine ak ?_
 refine ak ?_
 refine R0 ?_
 refine xV (az fS rfl aM rfl (q0 rfl)) rfl rfl ?_
 refine xV (az ax rfl yj rfl (q0 rfl)) rfl rfl ?_
 refine xV (eL Sr (q0 rfl)) rfl rfl ?_
 refine xV (dw mm (q0 rfl)) rfl rfl ?_
 refine xV (ay (v:= .int _ _) (q0 rfl)) rfl rfl ?_
 refine XN ?_
 refine ad ?_
 refine cq ?_
 refine ef [4,5,6,23,24,25,26,27,28,29,30,31,32,33,34,35,36,37,38,39,40,41,42,43,44,45,46,47,48,49,50,51,52,53,54,55,56,57,58,59,60,61,62,63,64,65,66,67] (λq:Nat×Option Addr×Nat=>[(23, .int .i64 q.1),(4, .slice q.2.1 (nZ q.1).length q.2.2)]) (λq=>[ee q.2.1 q.2.2 (nZ q.1),box b3 531 (TX.cells ⟨⟨rA,rn,rcc⟩,⟨sA,sn,sc⟩,⟨fA,fn,fc⟩,⟨yA,yn,yc⟩,th⟩),jK R,box b1 120 (hP f fa p a x ⟨settled,ev,st,rd,vs,fr,pd,rf,⟨lA,ln,lc⟩,⟨none,0,0⟩,pl⟩)]) (λq=>q.1<=ln) (λq=>ln -q.1) (0,none,0) ⟨rfl,by unfold nZ;rfl,trivial⟩ (λw hw=>by unfold nZ;exact hw.fY _ _ _ rfl) rfl (bj _) ?_
 rintro ⟨i,A,c⟩ g hi
 have hi:i<=ln:=hi
 have hlni:=hlt0 i
 refine ak ?_
 refine R0 ?_
 refine xV (gK (q0 rfl) (q0 rfl)) rfl rfl ?_
 refine XN ?_
 refine ad ?_
 refine ak ?_
 refine bD rfl (λhlt=>?_) (λhlt=>?_)
 ·have hlt':i<ln:=by simpa using hlt
  obtain ⟨pb,off,e,hAe,hpb,hpi,hrp⟩:=hrl.at_ hlt'
  have hsI:nZ (i+1)=nZ i++[⟨10,i,-1⟩]:=by unfold nZ;rw [kj]
  refine bZ ?_
  refine ad ?_
  refine ak ?_
  refine cq ?_
  refine ak ?_
  refine R0 ?_
  refine xV (ay (v:= .int _ _) (q0 rfl)) rfl rfl ?_
  refine xV (cx i mm lC (q0 (by rw [<-hAe];rfl)) (q0 rfl) (λ_=>⟨rfl,by omega⟩)) rfl rfl ?_
  refine xV (eS Sq lC (q0 rfl)) rfl rfl ?_
  refine bS tC rfl λb6=>?_
  refine xV (aU (v:= .int _ _) (q0 rfl)) rfl rfl ?_
  refine dN (v:= .agg _) rfl rfl lC ?_
  refine XN ?_
  refine ad ?_
  refine cq ?_
  refine ak ?_
  refine R0 ?_
  refine xV (az mj rfl bK rfl (q0 rfl)) rfl rfl ?_
  refine xV (eP wa bK (q0 rfl)) rfl rfl ?_
  refine xC (en Tryz.call468 (iQ (q0 rfl))) (λ_ w _=>LA w) rfl rfl ?_
  refine xV (oz (q0 rfl)) rfl rfl ?_
  refine xV (ay (v:= .bool _) (q0 rfl)) rfl rfl ?_
  refine fE (az mj rfl ae rfl (q0 rfl)) rfl rfl rfl rfl ?_
  refine fE (eL aj (q1 rfl)) rfl rfl rfl rfl ?_
  refine fE (az fS rfl aM rfl (q0 rfl)) rfl rfl rfl rfl ?_
  refine fE (az ax rfl eX rfl (q1 rfl)) rfl rfl rfl rfl ?_
  refine fE (az bh rfl ae rfl (q1 rfl)) rfl rfl rfl rfl ?_
  refine fE (eL aj (q1 rfl)) rfl rfl rfl rfl ?_
  refine fE (ki (q1 rfl) (q1 rfl)) rfl rfl rfl rfl ?_
  refine xV (jJ (q0 rfl) rfl (λh=>by first|rfl|(rw [h];rfl))) rfl rfl ?_
  refine xV (aU (v:= .bool _) (q0 rfl)) rfl rfl ?_
  refine XN ?_
  refine ad ?_
  refine bD rfl (λh1=>?_) (λh1=>?_)
  ·refine R0 ?_
   refine xV (ay (v:= .slice _ _ _) (q0 rfl)) rfl rfl ?_
   refine xV (ay (v:= .int _ _) (q0 rfl)) rfl rfl ?_
   refine xV (bN bU rE bG (pt (v:= .int _ _) rfl (pt (v:= .int _ _) rfl (pt (v:= .int _ _) rfl E.p0))) rfl) rfl rfl ?_
   refine gN (k:=3) (i:=Tryz.t65) 1 ((⟨10,i,-1⟩:Fd)) bg (by kernel_rfl) rfl rfl rfl rfl cr bG rfl rfl rfl rfl rfl rfl ⟨by simp only;omega,by decide⟩ rfl rfl λB A2 c2=>?_
   refine xV (aU (v:= .slice _ _ _) (q0 rfl)) rfl rfl ?_
   refine XN ?_
   refine bc ?_
   refine bc ?_
   refine ad ?_
   refine R0 ?_
   refine xV (eT (q0 rfl) (q0 rfl) (λ_=>⟨rfl,by omega,by omega⟩)) rfl rfl ?_
   refine xV (ay (v:= .int _ _) (q0 rfl)) rfl rfl ?_
   refine XN ?_
   exact aH (i+1,A2,c2) (by repeat (first|exact aK|exact aN|refine a8 rfl ?_|refine aJ rfl ?_|refine aD rfl ?_)) ⟨rfl,by show Value.slice A2 (nZ i++[(⟨10,i,-1⟩:Fd)]).length c2=Value.slice A2 (nZ (i+1)).length c2;rw [hsI],trivial⟩ (λw hw=>by
    show Mem _ [ee A2 c2 (nZ (i+1)),_,_,_] w
    rw [hsI]
    exact hw.pick [1,2,3,4] (by decide)) rfl hlt' (by show ln -(i+1)<ln -i;omega)
  simp at h1
 have hie:i=rels.length:=by simp at hlt;omega
 rw [hie]
 rw [hie] at hlni
 refine fz ?_
 refine cJ ?_
 refine cM ?_
 refine cK ?_
 refine ad ?_
 refine ak ?_
 refine ak ?_
 refine R0 ?_
 refine xV (az fS rfl aM rfl (q0 rfl)) rfl rfl ?_
 refine xV (az ax rfl Tryz.sizeOf53 rfl (q0 rfl)) rfl rfl ?_
 refine xV (eL Tryz.isAgg53 (q0 rfl)) rfl rfl ?_
 refine xV (az fS rfl aM rfl (q0 rfl)) rfl rfl ?_
 refine xV (az ax rfl eX rfl (q0 rfl)) rfl rfl ?_
 refine xV (az bh rfl ae rfl (q0 rfl)) rfl rfl ?_
 refine xV (eL aj (q0 rfl)) rfl rfl ?_
 refine xC (en Tryz.call471 (jn (q0 rfl) (q0 rfl))) (λ_ w _=>NF none 0 x.kB w) rfl rfl ?_
 refine xV (ki (q0 rfl) (q0 rfl)) rfl rfl ?_
 refine XN ?_
 refine ad ?_
 refine bD rfl (λh2=>?_) (λh2=>?_)
 ·have h2':N7 x.kB≠0:=by simpa using h2
  have hF:ko rels.length x.each x.kB=nZ rels.length++[⟨11,0,-1⟩]:=by unfold ko;rw [aB h2']
  rw [hF]
  refine ak ?_
  refine R0 ?_
  refine xV (ay (v:= .slice _ _ _) (q0 rfl)) rfl rfl ?_
  refine xV (bN bU rE bG (pt (v:= .int _ _) rfl (pt (v:= .int _ _) rfl (pt (v:= .int _ _) rfl E.p0))) rfl) rfl rfl ?_
  refine gN (k:=3) (i:=Tryz.t65) 0 ((⟨11,0,-1⟩:Fd)) bg (by kernel_rfl) rfl rfl rfl rfl cr bG rfl rfl rfl rfl rfl rfl ⟨by simp only;omega,by decide⟩ rfl rfl λB A2 c2=>?_
  refine xV (aU (v:= .slice _ _ _) (q0 rfl)) rfl rfl ?_
  refine XN ?_
  refine ad ?_
  refine dq ?_
  refine cw ?_
  exact cu (v:= .slice _ _ _) rfl rfl rfl λw' hw=>⟨(A2,c2),rfl,hw.pick [0] (by decide)⟩
 have h2': ¬N7 x.kB≠0:=by simpa using h2
 have hF:ko rels.length x.each x.kB=nZ rels.length++AI x.each rels.length:=by unfold ko;rw [an h2']
 rw [hF]
 refine bZ ?_
 refine ad ?_
 refine ak ?_
 refine ak ?_
 refine R0 ?_
 refine xV (az fS rfl aM rfl (q0 rfl)) rfl rfl ?_
 refine xV (az ax rfl yj rfl (q0 rfl)) rfl rfl ?_
 refine xV (eL Sr (q0 rfl)) rfl rfl ?_
 refine xV (dw mm (q0 rfl)) rfl rfl ?_
 refine xV (ay (v:= .int _ _) (q0 rfl)) rfl rfl ?_
 refine XN ?_
 refine ad ?_
 refine cq ?_
 refine ef [4,7,8,9,10,11,13,15,85,86,87,88,89,90,91,92,93,94,95,96,97,98,99,100,101,102,103,104,105,106,107,108,109,110,111,112,113,114,115,116,117,118,119,120,121,122,123,124,125,126,127,128,129,130,131,132,133,134,135,136,137,138,139,140,141,142,143,144,145,146,147,148] (λq:Nat×Option Addr×Nat=>[(85, .int .i64 q.1),(4, .slice q.2.1 (nZ rels.length++AI x.each q.1).length q.2.2)]) (λq=>[ee q.2.1 q.2.2 (nZ rels.length++AI x.each q.1),box b3 531 (TX.cells ⟨⟨rA,rn,rcc⟩,⟨sA,sn,sc⟩,⟨fA,fn,fc⟩,⟨yA,yn,yc⟩,th⟩),jK R,box b1 120 (hP f fa p a x ⟨settled,ev,st,rd,vs,fr,pd,rf,⟨lA,ln,lc⟩,⟨none,0,0⟩,pl⟩)]) (λq=>q.1<=ln) (λq=>ln -q.1) (0,A,c) ⟨rfl,by unfold AI;show _=Value.slice A (_++[]).length c;rw [bF];rfl,trivial⟩ (λw hw=>by
  unfold AI
  show Mem _ [ee A c (_++[]),_,_,_] w
  rw [bF];exact hw) rfl (bj _) ?_
 rintro ⟨k,A,c⟩ g2 hk
 have hk:k<=ln:=hk
 have hlk:=hls0 k
 refine ak ?_
 refine R0 ?_
 refine xV (gK (q0 rfl) (q0 rfl)) rfl rfl ?_
 refine XN ?_
 refine ad ?_
 refine ak ?_
 refine bD rfl (λhlt4=>?_) (λhlt4=>?_)
 ·have hlt5:k<ln:=by simpa using hlt4
  obtain ⟨pb,off,e,hAe,hpb,hpi,hrp⟩:=hrl.at_ hlt5
  have hsS:AI x.each (k+1)=AI x.each k++(if x.each=0 then [] else [⟨11,0,k⟩]):=by unfold AI;rw [kj]
  refine bZ ?_
  refine ad ?_
  refine ak ?_
  refine cq ?_
  refine ak ?_
  refine R0 ?_
  refine xV (ay (v:= .int _ _) (q0 rfl)) rfl rfl ?_
  refine xV (cx k mm lC (q0 (by rw [<-hAe];rfl)) (q0 rfl) (λ_=>⟨rfl,by omega⟩)) rfl rfl ?_
  refine xV (eS Sq lC (q0 rfl)) rfl rfl ?_
  refine bS tC rfl λb8=>?_
  refine xV (aU (v:= .int _ _) (q0 rfl)) rfl rfl ?_
  refine dN (v:= .agg _) rfl rfl lC ?_
  refine XN ?_
  refine ad ?_
  refine ak ?_
  refine R0 ?_
  refine xV (az mj rfl bK rfl (q0 rfl)) rfl rfl ?_
  refine xV (az bL rfl ae rfl (q0 rfl)) rfl rfl ?_
  refine xV (eL aj (q0 rfl)) rfl rfl ?_
  refine xC (en Sv (iQ (q0 rfl))) (λ_ w _=>Ct w) rfl rfl ?_
  refine xV (aU (v:= .int _ _) (q0 rfl)) rfl rfl ?_
  refine xV (aU (v:= .int _ _) (q0 rfl)) rfl rfl ?_
  refine xV (aU (v:= .int _ _) (q0 rfl)) rfl rfl ?_
  refine XN ?_
  refine ad ?_
  refine ak ?_
  refine ak ?_
  refine R0 ?_
  refine xV (az fS rfl aM rfl (q0 rfl)) rfl rfl ?_
  refine xV (az ax rfl Tryz.sizeOf53 rfl (q0 rfl)) rfl rfl ?_
  refine xV (eL Tryz.isAgg53 (q0 rfl)) rfl rfl ?_
  refine xV (dw xe (q0 rfl)) rfl rfl ?_
  refine xV (ay (v:= .int _ _) (q0 rfl)) rfl rfl ?_
  refine XN ?_
  refine ad ?_
  refine cq ?_
  refine ef [10,13,98,99,100,101,102,103,104,105,106,107,108,109,110] (λ_:Unit=>[(98, .int .i64 0),(10, .int .i64 0)]) (λ_=>[box b8 88 (Q9 e),ee A c (nZ rels.length++AI x.each k),box b3 531 (TX.cells ⟨⟨rA,rn,rcc⟩,⟨sA,sn,sc⟩,⟨fA,fn,fc⟩,⟨yA,yn,yc⟩,th⟩),jK R,box b1 120 (hP f fa p a x ⟨settled,ev,st,rd,vs,fr,pd,rf,⟨lA,ln,lc⟩,⟨none,0,0⟩,pl⟩)]) (λ_=>True) (λ_=>0) () ⟨rfl,rfl,trivial⟩ (λw hw=>hw) rfl trivial ?_
  rintro ⟨⟩ g3 _
  refine ak ?_
  refine R0 ?_
  refine xV (gK (q0 rfl) (q0 rfl)) rfl rfl ?_
  refine XN ?_
  refine ad ?_
  refine ak ?_
  refine bD rfl (λh5=>?_) (λh5=>?_)
  ·simp at h5
  refine fz ?_
  refine cJ ?_
  refine cM ?_
  refine cK ?_
  refine ad ?_
  refine ak ?_
  refine ak ?_
  refine R0 ?_
  refine xV (az fS rfl aM rfl (q0 rfl)) rfl rfl ?_
  refine xV (az ax rfl yj rfl (q0 rfl)) rfl rfl ?_
  refine xV (eL Sr (q0 rfl)) rfl rfl ?_
  refine xV (dw mm (q0 rfl)) rfl rfl ?_
  refine xV (ay (v:= .int _ _) (q0 rfl)) rfl rfl ?_
  refine XN ?_
  refine ad ?_
  refine cq ?_
  refine ef [11,15,115,116,117,118,119,120,121,122,123,124,125,126,127] (λj:Nat=>[(115, .int .i64 j),(11, .int .i64 j)]) (λ_=>[box b8 88 (Q9 e),ee A c (nZ rels.length++AI x.each k),box b3 531 (TX.cells ⟨⟨rA,rn,rcc⟩,⟨sA,sn,sc⟩,⟨fA,fn,fc⟩,⟨yA,yn,yc⟩,th⟩),jK R,box b1 120 (hP f fa p a x ⟨settled,ev,st,rd,vs,fr,pd,rf,⟨lA,ln,lc⟩,⟨none,0,0⟩,pl⟩)]) (λj=>j<=ln) (λj=>ln -j) 0 ⟨rfl,rfl,trivial⟩ (λw hw=>hw) rfl (bj _) ?_
  rintro j g4 hj
  have hj:j<=ln:=hj
  refine ak ?_
  refine R0 ?_
  refine xV (gK (q0 rfl) (q0 rfl)) rfl rfl ?_
  refine XN ?_
  refine ad ?_
  refine ak ?_
  refine bD rfl (λh6=>?_) (λh6=>?_)
  ·have h6':j<ln:=by simpa using h6
   obtain ⟨pb2,off2,e2,hBe,hpb2,hpj,hrp2⟩:=hrl.at_ h6'
   refine bZ ?_
   refine ad ?_
   refine ak ?_
   refine cq ?_
   refine ak ?_
   refine R0 ?_
   refine xV (cx j mm lC (q0 (by rw [<-hBe];rfl)) (q0 rfl) (λ_=>⟨rfl,by omega⟩)) rfl rfl ?_
   refine xV (eS Sq lC (q0 rfl)) rfl rfl ?_
   refine bS tC rfl λb15=>?_
   refine dN (v:= .agg _) rfl rfl lC ?_
   refine XN ?_
   refine ad ?_
   refine ak ?_
   refine R0 ?_
   refine xV (az mj rfl bK rfl (q0 rfl)) rfl rfl ?_
   refine xV (az bL rfl ae rfl (q0 rfl)) rfl rfl ?_
   refine xV (eL aj (q0 rfl)) rfl rfl ?_
   refine xC (en Sv (iQ (q0 rfl))) (λ_ w _=>Ct w) rfl rfl ?_
   refine xV (ay (v:= .int _ _) (q0 rfl)) rfl rfl ?_
   refine xV (jE (q0 rfl) (q0 rfl)) rfl rfl ?_
   refine XN ?_
   refine ad ?_
   refine bD rfl (λh7=>?_) (λh7=>?_)
   ·refine R0 ?_
    refine xV (ay (v:= .int _ _) (q0 rfl)) rfl rfl ?_
    refine xV (eT (q0 rfl) (q0 rfl) (λ_=>⟨rfl,by omega,by omega⟩)) rfl rfl ?_
    refine xV (aU (v:= .int _ _) (q0 rfl)) rfl rfl ?_
    refine XN ?_
    refine bc ?_
    refine ad ?_
    refine R0 ?_
    refine xV (eT (q0 rfl) (q0 rfl) (λ_=>⟨rfl,by omega,by omega⟩)) rfl rfl ?_
    refine xV (ay (v:= .int _ _) (q0 rfl)) rfl rfl ?_
    refine XN ?_
    exact aH (j+1) (by repeat (first|exact aK|exact aN|refine a8 rfl ?_|refine aJ rfl ?_|refine aD rfl ?_)) ⟨rfl,rfl,trivial⟩ (λw hw=>hw.tail) rfl h6' (by show ln -(j+1)<ln -j;omega)
   simp at h7
  have hje:j=ln:=by simp at h6;omega
  subst hje
  refine fz ?_
  refine cJ ?_
  refine cM ?_
  refine cK ?_
  refine ad ?_
  refine ak ?_
  refine R1 rfl (by decide+kernel) ?_
  refine xV (ay (v:= .int _ _) (q0 rfl)) rfl rfl ?_
  refine xV (ay (v:= .int _ _) (q0 rfl)) rfl rfl ?_
  refine xV (Jm (q0 rfl) (q0 rfl) (λ_=>⟨by omega,by omega⟩)) rfl rfl ?_
  refine xV (ki (q0 rfl) (q0 rfl)) rfl rfl ?_
  refine xV (ay (v:= .bool _) (q0 rfl)) rfl rfl ?_
  refine fE (ay (v:= .int _ _) (q0 rfl)) rfl rfl rfl rfl ?_
  refine fE (ay (v:= .int _ _) (q0 rfl)) rfl rfl rfl rfl ?_
  refine fE (wD (q1 rfl) (q1 rfl) (λ_=>⟨by omega,by omega,by omega⟩)) rfl rfl rfl rfl ?_
  refine fE (az fS rfl aM rfl (q0 rfl)) rfl rfl rfl rfl ?_
  refine fE (az ax rfl eX rfl (q1 rfl)) rfl rfl rfl rfl ?_
  refine fE (az bh rfl ae rfl (q1 rfl)) rfl rfl rfl rfl ?_
  refine fE (eL aj (q1 rfl)) rfl rfl rfl rfl ?_
  refine fE (ki (q1 rfl) (q1 rfl)) rfl rfl rfl rfl ?_
  refine xV (jJ (q0 rfl) rfl (λh=>by first|rfl|(rw [h];rfl))) rfl rfl ?_
  refine XN ?_
  refine ad ?_
  refine bD rfl (λh8=>?_) (λh8=>?_)
  ·have h8': ¬x.each=0:=by
    intro h9
    simp [h9] at h8
   rw [an h8'] at hsS
   refine R0 ?_
   refine xV (ay (v:= .slice _ _ _) (q0 rfl)) rfl rfl ?_
   refine xV (ay (v:= .int _ _) (q0 rfl)) rfl rfl ?_
   refine xV (ay (v:= .int _ _) (q0 rfl)) rfl rfl ?_
   refine xV (bN bU rE bG (pt (v:= .int _ _) rfl (pt (v:= .int _ _) rfl (pt (v:= .int _ _) rfl E.p0))) rfl) rfl rfl ?_
   refine gN (k:=3) (i:=Tryz.t65) 1 ((⟨11,0,k⟩:Fd)) bg (by kernel_rfl) rfl rfl rfl rfl cr bG rfl rfl rfl rfl rfl rfl ⟨by simp only [aQ];omega,by decide⟩ rfl rfl λB A2 c2=>?_
   refine xV (aU (v:= .slice _ _ _) (q0 rfl)) rfl rfl ?_
   refine XN ?_
   refine bc ?_
   refine ad ?_
   refine R0 ?_
   refine xV (eT (q0 rfl) (q0 rfl) (λ_=>⟨rfl,by omega,by omega⟩)) rfl rfl ?_
   refine xV (ay (v:= .int _ _) (q0 rfl)) rfl rfl ?_
   refine XN ?_
   exact aH (k+1,A2,c2) (by repeat (first|exact aK|exact aN|refine a8 rfl ?_|refine aJ rfl ?_|refine aD rfl ?_)) ⟨rfl,by show Value.slice A2 (nZ rels.length++AI x.each k++[(⟨11,0,k⟩:Fd)]).length c2=Value.slice A2 (nZ rels.length++AI x.each (k+1)).length c2;rw [hsS,cE],trivial⟩ (λw hw=>by
    show Mem _ [ee A2 c2 (nZ rels.length++AI x.each (k+1)),_,_,_] w
    rw [hsS,<-cE]
    exact hw.pick [1,2,3,4] (by decide)) rfl hlt5 (by show j -(k+1)<j -k;omega)
  have h8':x.each=0:=by
   simp at h8
   omega
  rw [aB h8',bF] at hsS
  refine bZ ?_
  refine bc ?_
  refine ad ?_
  refine R0 ?_
  refine xV (eT (q0 rfl) (q0 rfl) (λ_=>⟨rfl,by omega,by omega⟩)) rfl rfl ?_
  refine xV (ay (v:= .int _ _) (q0 rfl)) rfl rfl ?_
  refine XN ?_
  exact aH (k+1,A,c) (by repeat (first|exact aK|exact aN|refine a8 rfl ?_|refine aJ rfl ?_|refine aD rfl ?_)) ⟨rfl,by show Value.slice A (nZ rels.length++AI x.each k).length c=Value.slice A (nZ rels.length++AI x.each (k+1)).length c;rw [hsS],trivial⟩ (λw hw=>by
   show Mem _ [ee A c (nZ rels.length++AI x.each (k+1)),_,_,_] w
   rw [hsS]
   exact hw.pick [1,2,3,4] (by decide)) rfl hlt5 (by show j -(k+1)<j -k;omega)
 have hke:k=rels.length:=by simp at hlt4;omega
 rw [hke]
 refine fz ?_
 refine cJ ?_
 refine cM ?_
 refine cK ?_
 refine ad ?_
 refine ak ?_
 refine R0 ?_
 refine xV (ay (v:= .slice _ _ _) (q0 rfl)) rfl rfl ?_
 refine xV (aU (v:= .slice _ _ _) (q0 rfl)) rfl rfl ?_
 refine XN ?_
 refine ad ?_
 refine dq ?_
 exact cu (v:= .slice _ _ _) rfl rfl rfl λw' hw=>⟨(A,c),rfl,hw.pick [0] (by decide)⟩
end Go.Proofs.Aud
namespace Go.Proofs.Aud
open Go Go.RowKit Go.Proofs.E Go.Proofs.Cus Go.Proofs.Rid Go.Proofs.Far Go.Proofs.Net
structure TL where
 A:Option Addr
 c:Nat
 l:List gy
deriving Inhabited
def TL.sl (x:TL):List Value:=[.slice x.A x.l.length x.c]
def N5 (x:TL):List E.Item:=[iE x.A x.c x.l]
def oo (st:List gy) (k:Nat):List gy:=st.filter λs=>decide (s.bq=(k:Int))
def OS (nb:Int) (i:Nat) (s:gy):List Fd:=if s.bq<0\/nb<=s.bq then [⟨1,s.bq,i⟩] else []
def Ay (nb:Int) (st:List gy) (n:Nat):List Fd:=(List.range n).flatMap λi=>OS nb i (st.getD i default)
def Mx (f:Fl) (cX:List Ev) (k i:Nat) (s:gy):List Fd:=if (decide (s.bq=(k:Int))&&(!decide (kJ f k=0)||!decide (s∈fP f cX k)))=true then [⟨1,k,i⟩] else []
def BJ (f:Fl) (cX:List Ev) (st:List gy) (k n:Nat):List Fd:=(List.range n).flatMap λi=>Mx f cX k i (st.getD i default)
def Lc (f:Fl) (cX:List Ev) (st:List gy) (k:Nat):List Fd:=(if rC 0 (oo st k)=true then [] else [⟨2,k,0⟩])++(if oo st k=[] then [] else BJ f cX st k st.length)
def BK (f:Fl) (cX:List Ev) (st:List gy) (n:Nat):List Fd:=(List.range n).flatMap (Lc f cX st)
def iH (f:Fl) (cX:List Ev) (st:List gy):List Fd:=Ay f.cv st st.length++BK f cX st f.cv.toNat
theorem CZ {st:List gy} {i:Nat} {s:gy} (h:st[i]?=some s) (k:Nat):oo (st.take (i+1)) k=oo (st.take i) k++if s.bq=(k:Int) then [s] else []:=by
 unfold oo
 rw [dY st i s h,gi,iZ]
 by_cases hk:s.bq=(k:Int)
 ·simp [hk]
 simp [hk]
theorem TT {w0 w:World} {L:List E.Item} (h:Mem w0 L w): ∀n,Mem w0 (jK ((List.replicate n (⟨none,0,[]⟩:TL)).flatMap N5)::L) w
 |0=>h.BT
 |n+1=>by
  have h1:=(TT h n).uF
  have h2:=h1.fY 98 6 gy.cells (c:=0) rfl
  rw [nW,nj]
  exact Mem.jK (T:=iE none 0 []::_) h2
def Told (st:List gy) (i nb:Nat) (ts:List TL):Prop:=ts.length=nb/\ ∀k t,ts[k]?=some t->t.l=oo (st.take i) k
theorem TB {fs:Array Field} (h:Tryz.prog.underlying 101=some (.struct fs):=by exact j9):df Tryz.prog fs [(0,37)]:=by
 rw [j9] at h
 cases h
 intro w
 kernel_rfl
theorem On {w0 w:World} {L:List E.Item} {ts:List TL} {k:Nat} {t:TL} (hw:Mem w0 L w) (j:Nat) (hj:L[j]?=some (jK (ts.flatMap N5))) (ht:ts[k]?=some t) (hl:t.l.length<=9223372036854775807):eG w 6 gy.cells t.A t.l.length t.l:=
 (DA.row (e:=98) (k:=6) (enc:=gy.cells) (A:=t.A) (c:=t.c) (λ_=>rfl) hl).ok w ((hw.item hj).1 (iE t.A t.c t.l) (iY.2 ⟨t,aq ht,cm.2 rfl⟩))
theorem Pa (A:Option Addr) (n c:Nat) (xs:List gy) (y:gy) (w:World) (hx:eG w 6 gy.cells A n xs):Calls Tryz.prog 409 #[.slice A n c, .agg y.cells.toArray] w λe w'=>e= .returned (.int .i64 (mQ (xs.findIdx? λz=>decide (y=z))))/\fM w w':=by
 have hl:=hx.1
 have hn:=hx.2.1
 refine dd Tryz.func409 rfl Tryz.ntmps409 rfl ?_
 refine ak ?_
 refine R0 ?_
 refine cd (v:= .agg _) rfl rfl λb3=>?_
 refine xV (aU (v:= .int _ _) (q0 rfl)) rfl rfl ?_
 refine XN ?_
 refine ad ?_
 refine ak ?_
 refine ak ?_
 refine R0 ?_
 refine xV (ay (v:= .slice _ _ _) (q0 rfl)) rfl rfl ?_
 refine xV (dw bI (q0 rfl)) rfl rfl ?_
 refine xV (ay (v:= .int _ _) (q0 rfl)) rfl rfl ?_
 refine XN ?_
 refine ad ?_
 refine cq ?_
 refine ef [4,5,8,9,10,11,12,13,14,15,16,17,18] (λk:Nat=>[(8, .int .i64 k)]) (λ_=>[box b3 98 y.cells]) (λk=>k<=n/\ ∀z∈xs.take k,decide (y=z)=false) (λk=>n -k) 0 ⟨rfl,trivial⟩ (λw hw=>hw) rfl ⟨bj _,λx h=>by simp at h⟩ ?_
 rintro k g ⟨hk,hall⟩
 refine ak ?_
 refine R0 ?_
 refine xV (gK (q0 rfl) (q0 rfl)) rfl rfl ?_
 refine XN ?_
 refine ad ?_
 refine ak ?_
 refine bD rfl (λhlt=>?_) (λhlt=>?_)
 ·have hlt':k<n:=by simpa using hlt
  obtain ⟨pb,off,z,rfl,hpb,hpi,hrp⟩:=hx.at_ hlt'
  refine bZ ?_
  refine ad ?_
  refine ak ?_
  refine cq ?_
  refine ak ?_
  refine R0 ?_
  refine xV (ay (v:= .int _ _) (q0 rfl)) rfl rfl ?_
  refine xV (aU (v:= .int _ _) (q0 rfl)) rfl rfl ?_
  refine XN ?_
  refine ad ?_
  refine ak ?_
  refine R1 rfl (by decide+kernel) ?_
  refine xV (eS kC cy (q0 rfl)) rfl rfl ?_
  refine xV (ay (v:= .slice _ _ _) (q0 rfl)) rfl rfl ?_
  refine xV (ay (v:= .int _ _) (q0 rfl)) rfl rfl ?_
  refine xV (cx _ bI cy (q0 rfl) (q0 rfl) (λ_=>⟨rfl,by omega⟩)) rfl rfl ?_
  refine xV (eS kC cy (q0 rfl)) rfl rfl ?_
  refine xV (Dr (TF y z) (by kernel_rfl) (q0 rfl) (q0 rfl)) rfl rfl ?_
  refine XN ?_
  refine ad ?_
  refine bD rfl (λhv=>?_) (λhv=>?_)
  ·rw [AN hall hpi hv]
   refine ak ?_
   refine R0 ?_
   refine xV (ay (v:= .int _ _) (q0 rfl)) rfl rfl ?_
   refine xV (aU (v:= .int _ _) (q0 rfl)) rfl rfl ?_
   refine XN ?_
   refine ad ?_
   refine dq ?_
   refine dU ?_
   refine cw ?_
   refine iJ ?_
   refine dU ?_
   refine cw ?_
   exact cu (v:= .int _ _) rfl rfl rfl λw' hw=>⟨rfl,hw.1⟩
  refine bZ ?_
  refine bc ?_
  refine ad ?_
  refine R0 ?_
  refine xV (eT (q0 rfl) (q0 rfl) (λ_=>⟨rfl,by omega,by omega⟩)) rfl rfl ?_
  refine xV (ay (v:= .int _ _) (q0 rfl)) rfl rfl ?_
  refine XN ?_
  exact aH (k+1) (by repeat (first|exact aK|exact aN|refine a8 rfl ?_|refine aJ rfl ?_|refine aD rfl ?_)) ⟨rfl,trivial⟩ (λw hw=>hw) rfl ⟨hlt',AO hall hpi hv⟩ (by show n -(k+1)<n -k;omega)
 have hke:k=n:=by simp at hlt;omega
 rw [AP hall (by omega)]
 refine fz ?_
 refine cJ ?_
 refine cM ?_
 refine cK ?_
 refine ad ?_
 refine ak ?_
 refine R0 ?_
 refine xV (aU (v:= .int _ _) (q0 rfl)) rfl rfl ?_
 refine XN ?_
 refine ad ?_
 refine dq ?_
 exact cu (v:= .int _ _) rfl rfl rfl λw' hw=>⟨rfl,hw.1⟩
theorem Tj (A:Option Addr) (n c:Nat) (xs:List gy) (y:gy) (w:World) (hx:eG w 6 gy.cells A n xs):Calls Tryz.prog 408 #[.slice A n c, .agg y.cells.toArray] w λe w'=>e= .returned (.bool (decide (y∈xs)))/\fM w w':=by
 have hd:decide (y∈xs)=(xs.findIdx? λz=>decide (y=z)).isSome:=by
  rw [gQ,Hc]
  simp
 refine dd Tryz.func408 rfl Tryz.ntmps408 rfl ?_
 refine ak ?_
 refine R0 ?_
 refine cd (v:= .agg _) rfl rfl λb3=>?_
 refine xV (aU (v:= .bool _) (q0 rfl)) rfl rfl ?_
 refine XN ?_
 refine ad ?_
 refine ak ?_
 refine R0 ?_
 refine xV (ay (v:= .slice _ _ _) (q0 rfl)) rfl rfl ?_
 refine xV (eS kC cy (q0 rfl)) rfl rfl ?_
 refine xC (en Tryz.call409 (jn (q0 rfl) (q0 rfl))) (λ_ w hw=>Pa A n c xs y w (hx.mem hw)) rfl rfl ?_
 refine xV (CQ (q0 rfl) (q0 rfl)) rfl rfl ?_
 refine xV (aU (v:= .bool _) (q0 rfl)) rfl rfl ?_
 refine XN ?_
 refine ad ?_
 refine dq ?_
 exact cu (v:= .bool _) rfl rfl rfl λw' hw=>⟨fK (by rw [hd];exact Cb),hw.1⟩
attribute [local irreducible] Ay BK BJ fP kJ
theorem Kk (f:Fl) (fa:FA) (p:Pr) (a:tz) (x:SX) (b:BX) (cX:List Ev) (st:List gy) (w:World) (hf:mE w f fa) (hev:rO w b.ev.A b.ev.n cX) (hst:eG w 6 gy.cells b.st.A b.st.n st) (h0:fy f=0) (hn:cX.length<=40) (hpl:zz cX) (hsn:st.length<=1000):
  Calls Tryz.prog 406 #[.agg (hP f fa p a x b).toArray] w λe w'=> ∃z:Option Addr×Nat,e= .returned (.slice z.1 (iH f cX st).length z.2)/\Mem w [ee z.1 z.2 (iH f cX st)] w':=by
 obtain ⟨settled,⟨eA,en_,ec⟩,⟨sA,sn,sc⟩,rd,vs,fr,pd,rf,rl,sp,pl⟩:=b
 simp only at hev hst|-
 have hsl:=hst.1
 have hb:=(kq h0).2.1
 obtain ⟨nb,hnb⟩:=kU (show 0<=f.cv by have:=kq h0;omega)
 have hnb2:nb<=128:=by have:=kq h0;omega
 have hlA: ∀n,(Ay f.cv st n).length<=n*1:=by unfold Ay;exact dX λi=>by unfold OS;split<;>simp
 have hlJ: ∀k n,(BJ f cX st k n).length<=n*1:=λk=>by unfold BJ;exact dX λi=>by unfold Mx;split<;>simp
 have hlK: ∀k,(Lc f cX st k).length<=1001:=λk=>by
  have h1:=hlJ k st.length
  unfold Lc
  rw [aQ]
  split<;>split<;>simp<;>omega
 have hlC: ∀n,(BK f cX st n).length<=n*1001:=by unfold BK;exact dX λi=>hlK i
 refine dd Tryz.func406 rfl Tryz.ntmps406 rfl ?_
 refine ak ?_
 refine R0 ?_
 refine cd (v:= .agg _) rfl rfl λb1=>?_
 refine xV (aU (v:= .slice _ _ _) (q0 rfl)) rfl rfl ?_
 refine XN ?_
 refine ad ?_
 refine ak ?_
 refine R0 ?_
 refine xV (az j9 rfl aM rfl (q0 rfl)) rfl rfl ?_
 refine xV (az ax rfl eX rfl (q0 rfl)) rfl rfl ?_
 refine xV (az bh rfl cN rfl (q0 rfl)) rfl rfl ?_
 refine xV (eP iB cN (q0 rfl)) rfl rfl ?_
 refine bS JL rfl λb3=>?_
 refine dN (v:= .agg _) rfl rfl cN ?_
 refine XN ?_
 refine ad ?_
 refine ak ?_
 refine R0 ?_
 refine xV (aU (v:= .slice _ _ _) (q0 rfl)) rfl rfl ?_
 refine XN ?_
 refine ad ?_
 refine ak ?_
 refine R0 ?_
 refine xV (az dI rfl ae rfl (q0 rfl)) rfl rfl ?_
 refine xV (eL aj (q0 rfl)) rfl rfl ?_
 refine cQ (kz (i:=Tryz.t44) (k:=1) (n:=nb) (m:=nb) TL.sl (⟨none,0,[]⟩:TL) nI (by kernel_rfl) rfl rfl rfl (by show Value.int .i64 f.cv=_;rw [hnb]) (by show Value.int .i64 f.cv=_;rw [hnb]) ⟨⟨bA _,by omega⟩,by decide⟩ rfl λtb=>?_)
 refine xV (aU (v:= .slice _ _ _) (q0 rfl)) rfl rfl ?_
 refine XN ?_
 refine ad ?_
 refine ak ?_
 refine ak ?_
 refine R0 ?_
 refine xV (az j9 rfl aM rfl (q0 rfl)) rfl rfl ?_
 refine xV (az ax rfl eV rfl (q0 rfl)) rfl rfl ?_
 refine xV (eL gE (q0 rfl)) rfl rfl ?_
 refine xV (dw bI (q0 rfl)) rfl rfl ?_
 refine xV (ay (v:= .int _ _) (q0 rfl)) rfl rfl ?_
 refine XN ?_
 refine ad ?_
 refine cq ?_
 refine ef [4,6,7,24,25,26,27,28,29,30,31,32,33,34,35,36,37,38,39,40,41,42,43,44,45,46,47,48,49,50,51,52,53,54,55,56,57,58] (λq:Nat×(Option Addr×Nat)×List TL=>[(24, .int .i64 q.1),(4, .slice q.2.1.1 (Ay f.cv st q.1).length q.2.1.2)]) (λq=>[dS 44 1 TL.sl (some ⟨tb,0,none⟩) nb q.2.2,jK (q.2.2.flatMap N5),ee q.2.1.1 q.2.1.2 (Ay f.cv st q.1),box b3 24 (f.cells fa),box b1 101 (hP f fa p a x ⟨settled,⟨eA,en_,ec⟩,⟨sA,sn,sc⟩,rd,vs,fr,pd,rf,rl,sp,pl⟩)]) (λq=>q.1<=sn/\Told st q.1 nb q.2.2) (λq=>sn -q.1) (0,(none,0),List.replicate nb ⟨none,0,[]⟩) ⟨rfl,by unfold Ay;rfl,trivial⟩ (λw hw=>by
  unfold Ay
  exact (TT (hw.fY 65 3 Fd.cells (c:=0) rfl) nb).pick [2,0,1,3,4] (by decide)) rfl ⟨bj _,by simp,λk t ht=>by
   rw [jz] at ht
   split at ht
   ·cases ht;rfl
   cases ht⟩ ?_
 rintro ⟨i,⟨A,c⟩,ts⟩ g ⟨hi,htn,htl⟩
 have hi:i<=sn:=hi
 have htn:ts.length=nb:=htn
 have htl: ∀k t,ts[k]?=some t->t.l=oo (st.take i) k:=htl
 have hlAi:=hlA i
 refine ak ?_
 refine R0 ?_
 refine xV (gK (q0 rfl) (q0 rfl)) rfl rfl ?_
 refine XN ?_
 refine ad ?_
 refine ak ?_
 refine bD rfl (λhlt=>?_) (λhlt=>?_)
 ·have hlt':i<sn:=by simpa using hlt
  obtain ⟨pb,off,s,hAe,hpb,hpi,hrp⟩:=hst.at_ hlt'
  have hsA:Ay f.cv st (i+1)=Ay f.cv st i++OS f.cv i s:=by unfold Ay;rw [kj,ar,hpi];rfl
  refine bZ ?_
  refine ad ?_
  refine ak ?_
  refine cq ?_
  refine ak ?_
  refine R0 ?_
  refine xV (ay (v:= .int _ _) (q0 rfl)) rfl rfl ?_
  refine xV (cx i bI cy (q0 (by rw [<-hAe];rfl)) (q0 rfl) (λ_=>⟨rfl,by omega⟩)) rfl rfl ?_
  refine xV (eS kC cy (q0 rfl)) rfl rfl ?_
  refine bS fe rfl λb7=>?_
  refine xV (aU (v:= .int _ _) (q0 rfl)) rfl rfl ?_
  refine dN (v:= .agg _) rfl rfl cy ?_
  refine XN ?_
  refine ad ?_
  refine ak ?_
  refine ak ?_
  refine R0 ?_
  refine xV (az bz rfl ae rfl (q0 rfl)) rfl rfl ?_
  refine xV (eL aj (q0 rfl)) rfl rfl ?_
  refine xV (gK (q0 rfl) (q0 rfl)) rfl rfl ?_
  refine xV (ay (v:= .bool _) (q0 rfl)) rfl rfl ?_
  refine fE (az bz rfl ae rfl (q0 rfl)) rfl rfl rfl rfl ?_
  refine fE (eL aj (q1 rfl)) rfl rfl rfl rfl ?_
  refine fE (az dI rfl ae rfl (q0 rfl)) rfl rfl rfl rfl ?_
  refine fE (eL aj (q1 rfl)) rfl rfl rfl rfl ?_
  refine fE (CQ (q1 rfl) (q1 rfl)) rfl rfl rfl rfl ?_
  refine xV (jJ (q0 rfl) rfl (λh=>by first|rfl|(rw [h];rfl))) rfl rfl ?_
  refine XN ?_
  refine ad ?_
  refine bD rfl (λh1=>?_) (λh1=>?_)
  ·have h1':s.bq<0\/f.cv<=s.bq:=by simpa using h1
   have hW:OS f.cv i s=[⟨1,s.bq,i⟩]:=by unfold OS;rw [aB h1']
   rw [hW] at hsA
   refine ak ?_
   refine R0 ?_
   refine xV (ay (v:= .slice _ _ _) (q0 rfl)) rfl rfl ?_
   refine xV (az bz rfl ae rfl (q0 rfl)) rfl rfl ?_
   refine xV (eL aj (q0 rfl)) rfl rfl ?_
   refine xV (ay (v:= .int _ _) (q0 rfl)) rfl rfl ?_
   refine xV (bN bU rE bG (pt (v:= .int _ _) rfl (pt (v:= .int _ _) rfl (pt (v:= .int _ _) rfl E.p0))) rfl) rfl rfl ?_
   refine gN (k:=3) (i:=Tryz.t65) 3 ((⟨1,s.bq,i⟩:Fd)) bg (by kernel_rfl) rfl rfl rfl rfl cr bG rfl rfl rfl rfl rfl rfl ⟨by simp only;omega,by decide⟩ rfl rfl λB A2 c2=>?_
   refine xV (aU (v:= .slice _ _ _) (q0 rfl)) rfl rfl ?_
   refine XN ?_
   refine ad ?_
   refine fz ?_
   refine cJ ?_
   refine cK ?_
   refine ad ?_
   refine R0 ?_
   refine xV (eT (q0 rfl) (q0 rfl) (λ_=>⟨rfl,by omega,by omega⟩)) rfl rfl ?_
   refine xV (ay (v:= .int _ _) (q0 rfl)) rfl rfl ?_
   refine XN ?_
   exact aH (i+1,(A2,c2),ts) (by repeat (first|exact aK|exact aN|refine a8 rfl ?_|refine aJ rfl ?_|refine aD rfl ?_)) ⟨rfl,by show Value.slice A2 (Ay f.cv st i++[(⟨1,s.bq,i⟩:Fd)]).length c2=Value.slice A2 (Ay f.cv st (i+1)).length c2;rw [hsA],trivial⟩ (λw hw=>by
    show Mem _ [_,_,ee A2 c2 (Ay f.cv st (i+1)),_,_] w
    rw [hsA]
    exact hw.pick [1,2,3,4,5] (by decide)) rfl ⟨hlt',htn,λk t ht=>by
     have hk:k<ts.length:=(ai.1 ht).1
     rw [CZ hpi,an (by omega),bF]
     exact htl k t ht⟩ (by show sn -(i+1)<sn -i;omega)
  have h1': ¬(s.bq<0\/f.cv<=s.bq):=by
   simp at h1
   omega
  have hW:OS f.cv i s=[]:=by unfold OS;rw [an h1']
  rw [hW,bF] at hsA
  obtain ⟨k,hk⟩:=kU (show 0<=s.bq by omega)
  have hkn:k<ts.length:=by omega
  obtain ⟨t,ht⟩: ∃t,ts[k]?=some t:=⟨_,ah hkn⟩
  have htl1:=htl k t ht
  have htlen:t.l.length<=1000:=by
   rw [htl1]
   unfold oo
   have h3:=dK (λs:gy=>decide (s.bq=(k:Int))) (st.take i)
   rw [dG] at h3
   omega
  refine bZ ?_
  refine ad ?_
  refine jb (L':=[iE t.A t.c t.l,dS 44 1 TL.sl (some ⟨tb,0,none⟩) nb ts,jK ((ts.eraseIdx k).flatMap N5),box b7 98 s.cells,ee A c (Ay f.cv st i),box b3 24 (f.cells fa),box b1 101 (hP f fa p a x ⟨settled,⟨eA,en_,ec⟩,⟨sA,sn,sc⟩,rd,vs,fr,pd,rf,rl,sp,pl⟩)]) (λw hw=>(Mem.apart (f:=N5) (xs:=ts) (k:=k) (x:=t) (hw.pick [2,1,0,3,4,5] (by decide)) ht).pick [0,2,1,3,4,5,6] (by decide)) rfl ?_
  refine ke [46,47,48,49,50,51,52,53,54,55,56,57] (λ_:Option Addr×Nat=>[]) (λq=>[iE q.1 q.2 (t.l++[s]),dS 44 1 TL.sl (some ⟨tb,0,none⟩) nb (ts.set k ⟨q.1,q.2,t.l++[s]⟩),jK ((ts.eraseIdx k).flatMap N5),box b7 98 s.cells,ee A c (Ay f.cv st i),box b3 24 (f.cells fa),box b1 101 (hP f fa p a x ⟨settled,⟨eA,en_,ec⟩,⟨sA,sn,sc⟩,rd,vs,fr,pd,rf,rl,sp,pl⟩)]) (λ_=>True) ?_ ?_
  ·refine Lj 2 rfl (by decide+kernel) ?_
   refine aV 0 (by decide+kernel) rfl (ay (v:= .slice _ _ _) (q0 rfl)) rfl ?_
   refine aV 1 (by decide+kernel) rfl (az bz rfl ae rfl (q0 rfl)) rfl ?_
   refine aV 2 (by decide+kernel) rfl (eL aj (q0 rfl)) rfl ?_
   refine aV 3 (by decide+kernel) rfl (ay (v:= .slice _ _ _) (q0 rfl)) rfl ?_
   refine aV 4 (by decide+kernel) rfl (az bz rfl ae rfl (q0 rfl)) rfl ?_
   refine aV 5 (by decide+kernel) rfl (eL aj (q0 rfl)) rfl ?_
   refine aV 6 (by decide+kernel) rfl (cx k nI eV (q0 rfl) (q0 (v:= .int .i64 s.bq) rfl) (λ_=>⟨hk,by omega⟩)) rfl ?_
   refine aV 8 (by decide+kernel) rfl (eS kC cy (q0 rfl)) rfl ?_
   refine lS (i:=7) (j:=9) (by decide+kernel) (au 2) ?_ ?_
   ·refine aL rfl (kA (gB (v:= .slice t.A t.l.length t.c) gE (q0 rfl) (by first|exact rQ 1 (enc:=TL.sl) rfl ht rfl|exact rQ 2 (enc:=TL.sl) rfl ht rfl)) rfl rfl ?_)
    refine eu (i:=9) (by decide+kernel) (au 2) ?_
    refine aL rfl (ey [(.int .i64 0),(.int .i64 0),(.int .i64 0),(.int .i64 0),(.int .i64 0),(.int .i64 0)] bI cy fe rfl (by kernel_rfl) (pt (v:= .agg _) rfl E.p0) rfl rfl λb55=>?_)
    refine eu (i:=10) (by decide+kernel) (au 3) ?_
    refine aL rfl (dj (k:=6) (i:=Tryz.t98) (enc:=gy.cells) (xs:=t.l) 1 bI (by kernel_rfl) rfl rfl rfl rfl (λ_=>rfl) (λ_=>rfl) rfl rfl rfl (λw hw=>fj (enc:=gy.cells) (xs:=[s]) hw (j:=0) rfl (λ_=>rfl) (by simp)) ⟨by simp;omega,by decide⟩ rfl λA4 c4=>?_)
    refine aV 11 (by decide+kernel) rfl (cx k nI eV (q0 rfl) (q0 (v:= .int .i64 s.bq) rfl) (λ_=>⟨hk,by omega⟩)) rfl ?_
    refine eu (i:=12) (by decide+kernel) (au 3) ?_
    refine aL rfl (eR 2 (k:=1) (enc:=TL.sl) (⟨A4,c4,t.l++[s]⟩:TL) rfl rfl eV rfl rfl rfl ht rfl rfl ?_)
    refine aZ (by decide+kernel) (au 3) ?_
    exact aO (A4,c4) (by repeat (first|exact aK|exact aN|refine a8 rfl ?_|refine aJ rfl ?_|refine aD rfl ?_)) trivial (λw hw=>hw.tail) rfl trivial
   refine aL rfl (ey [(.int .i64 0),(.int .i64 0),(.int .i64 0),(.int .i64 0),(.int .i64 0),(.int .i64 0)] bI cy fe rfl (by kernel_rfl) (pt (v:= .agg _) rfl E.p0) rfl rfl λb55=>?_)
   refine eu (i:=7) (by decide+kernel) (au 3) ?_
   refine aL rfl (kA (gB (v:= .slice t.A t.l.length t.c) gE (q0 rfl) (by first|exact rQ 1 (enc:=TL.sl) rfl ht rfl|exact rQ 2 (enc:=TL.sl) rfl ht rfl)) rfl rfl ?_)
   refine eu (i:=10) (by decide+kernel) (au 3) ?_
   refine aL rfl (dj (k:=6) (i:=Tryz.t98) (enc:=gy.cells) (xs:=t.l) 1 bI (by kernel_rfl) rfl rfl rfl rfl (λ_=>rfl) (λ_=>rfl) rfl rfl rfl (λw hw=>fj (enc:=gy.cells) (xs:=[s]) hw (j:=0) rfl (λ_=>rfl) (by simp)) ⟨by simp;omega,by decide⟩ rfl λA4 c4=>?_)
   refine aV 11 (by decide+kernel) rfl (cx k nI eV (q0 rfl) (q0 (v:= .int .i64 s.bq) rfl) (λ_=>⟨hk,by omega⟩)) rfl ?_
   refine eu (i:=12) (by decide+kernel) (au 3) ?_
   refine aL rfl (eR 2 (k:=1) (enc:=TL.sl) (⟨A4,c4,t.l++[s]⟩:TL) rfl rfl eV rfl rfl rfl ht rfl rfl ?_)
   refine aZ (by decide+kernel) (au 3) ?_
   exact aO (A4,c4) (by repeat (first|exact aK|exact aN|refine a8 rfl ?_|refine aJ rfl ?_|refine aD rfl ?_)) trivial (λw hw=>hw.tail) rfl trivial
  rintro ⟨A4,c4⟩ g2 _
  refine bc ?_
  refine ad ?_
  refine R0 ?_
  refine xV (eT (q0 rfl) (q0 rfl) (λ_=>⟨rfl,by omega,by omega⟩)) rfl rfl ?_
  refine xV (ay (v:= .int _ _) (q0 rfl)) rfl rfl ?_
  refine XN ?_
  exact aH (i+1,(A,c),ts.set k ⟨A4,c4,t.l++[s]⟩) (by repeat (first|exact aK|exact aN|refine a8 rfl ?_|refine aJ rfl ?_|refine aD rfl ?_)) ⟨rfl,by show Value.slice A (Ay f.cv st i).length c=Value.slice A (Ay f.cv st (i+1)).length c;rw [hsA],trivial⟩ (λw hw=>by
   show Mem _ [_,_,ee A c (Ay f.cv st (i+1)),_,_] w
   rw [hsA]
   exact (Mem.MR (f:=N5) (y:=(⟨A4,c4,t.l++[s]⟩:TL)) (xs:=ts) (k:=k) (hw.pick [0,2,1,4,5,6] (by decide)) hkn).pick [1,0,2,3,4] (by decide)) rfl ⟨hlt',by show (ts.set k _).length=nb;rw [gP];exact htn,λk2 t2 ht2=>by
    rw [CZ hpi]
    have h9:(ts.set k ⟨A4,c4,t.l++[s]⟩)[k2]?=some t2:=ht2
    rw [cD] at h9
    by_cases hkk:k=k2
    ·subst hkk
     rw [aB rfl,aB hkn] at h9
     cases h9
     rw [aB hk]
     show t.l++[s]=_
     rw [htl1]
    rw [an hkk] at h9
    rw [an (by omega),bF]
    exact htl k2 t2 h9⟩ (by show sn -(i+1)<sn -i;omega)
 have hie:i=sn:=by simp at hlt;omega
 rw [hie,bo (by omega)] at htl
 obtain ⟨o0,ho0⟩: ∃o,o=Ay f.cv st st.length:=⟨_,rfl⟩
 have hie2:i=st.length:=by omega
 rw [hie2,<-ho0]
 rw [hie2,<-ho0] at hlAi
 have hplC:iH f cX st=o0++BK f cX st nb:=by unfold iH;rw [<-ho0,hnb];rfl
 rw [hplC]
 refine fz ?_
 refine cJ ?_
 refine cM ?_
 refine cK ?_
 refine ad ?_
 refine ak ?_
 refine ak ?_
 refine R0 ?_
 refine xV (az dI rfl ae rfl (q0 rfl)) rfl rfl ?_
 refine xV (eL aj (q0 rfl)) rfl rfl ?_
 refine xV (ay (v:= .int _ _) (q0 rfl)) rfl rfl ?_
 refine XN ?_
 refine ad ?_
 refine cq ?_
 refine ef [4,8,9,10,11,12,61,62,63,64,65,66,67,68,69,70,71,72,73,74,75,76,77,78,79,80,81,82,83,84,85,86,87,88,89,90,91,92,93,94,95,96,97,98,99,100,101,102,103,104,105,106,107,108,109,110,111,112,113,114,115,116,117,118,119,120] (λq:Nat×Option Addr×Nat=>[(61, .int .i64 q.1),(4, .slice q.2.1 (o0++BK f cX st q.1).length q.2.2)]) (λq=>[dS 44 1 TL.sl (some ⟨tb,0,none⟩) nb ts,jK (ts.flatMap N5),ee q.2.1 q.2.2 (o0++BK f cX st q.1),box b3 24 (f.cells fa),box b1 101 (hP f fa p a x ⟨settled,⟨eA,en_,ec⟩,⟨sA,sn,sc⟩,rd,vs,fr,pd,rf,rl,sp,pl⟩)]) (λq=>q.1<=nb) (λq=>nb -q.1) (0,A,c) ⟨rfl,by unfold BK;show _=Value.slice A (o0++[]).length c;rw [bF];rfl,trivial⟩ (λw hw=>by
  unfold BK
  show Mem _ [_,_,ee A c (o0++[]),_,_] w
  rw [bF];exact hw) rfl (bj _) ?_
 rintro ⟨k,A,c⟩ g2 hk
 have hk:k<=nb:=hk
 have hlCk:=hlC k
 have hlCk2:(BK f cX st k).length<=128128:=by omega
 have hsC:BK f cX st (k+1)=BK f cX st k++Lc f cX st k:=by unfold BK;rw [kj]
 refine ak ?_
 refine R0 ?_
 refine xV (gK (q0 rfl) (q0 rfl)) rfl rfl ?_
 refine XN ?_
 refine ad ?_
 refine ak ?_
 refine bD rfl (λhlt2=>?_) (λhlt2=>?_)
 ·have hlt3:k<nb:=by
   have h3:(k:Int)<f.cv:=by simpa using hlt2
   omega
  obtain ⟨t,ht⟩: ∃t,ts[k]?=some t:=⟨_,ah (by omega)⟩
  have htl1:=htl k t ht
  have htlen:t.l.length<=1000:=by
   rw [htl1]
   unfold oo
   have h3:=dK (λs:gy=>decide (s.bq=(k:Int))) st
   omega
  obtain ⟨oK,hoK⟩: ∃o,o=o0++BK f cX st k:=⟨_,rfl⟩
  have hlK0:oK.length<=200000:=by rw [hoK,aQ];omega
  rw [<-hoK]
  refine bZ ?_
  refine ad ?_
  refine ak ?_
  refine cq ?_
  refine ak ?_
  refine R0 ?_
  refine xV (ay (v:= .int _ _) (q0 rfl)) rfl rfl ?_
  refine xV (aU (v:= .int _ _) (q0 rfl)) rfl rfl ?_
  refine XN ?_
  refine ad ?_
  refine ak ?_
  refine ak ?_
  refine R0 ?_
  refine xV (ay (v:= .slice _ _ _) (q0 rfl)) rfl rfl ?_
  refine xV (ay (v:= .int _ _) (q0 rfl)) rfl rfl ?_
  refine xV (cx k nI eV (q0 rfl) (q0 rfl) (λ_=>⟨rfl,by omega⟩)) rfl rfl ?_
  refine xV (gB (v:= .slice t.A t.l.length t.c) gE (q0 rfl) (rQ 0 (enc:=TL.sl) rfl ht rfl)) rfl rfl ?_
  refine xC (en Tryz.call407 (iQ (q0 rfl))) (λ_ w hw=>KG t.A t.l.length t.c t.l w (On hw 1 rfl ht (by omega))) rfl rfl ?_
  refine xV (oz (q0 rfl)) rfl rfl ?_
  refine XN ?_
  refine ad ?_
  obtain ⟨oG,hoG⟩: ∃o,o=oK++(if rC 0 t.l=true then [] else [(⟨2,k,0⟩:Fd)]):=⟨_,rfl⟩
  have hlG:oG.length<=200001:=by rw [hoG,aQ];split<;>simp<;>omega
  refine ke [4,70,71,72,73,74] (λq:Option Addr×Nat=>[(4, .slice q.1 oG.length q.2)]) (λq=>[dS 44 1 TL.sl (some ⟨tb,0,none⟩) nb ts,jK (ts.flatMap N5),ee q.1 q.2 oG,box b3 24 (f.cells fa),box b1 101 (hP f fa p a x ⟨settled,⟨eA,en_,ec⟩,⟨sA,sn,sc⟩,rd,vs,fr,pd,rf,rl,sp,pl⟩)]) (λ_=>True) ?_ ?_
  ·refine bD rfl (λh4=>?_) (λh4=>?_)
   ·have h4': ¬rC 0 t.l=true:=by simpa using h4
    rw [an h4'] at hoG
    rw [hoG]
    refine R0 ?_
    refine xV (ay (v:= .slice _ _ _) (q0 rfl)) rfl rfl ?_
    refine xV (ay (v:= .int _ _) (q0 rfl)) rfl rfl ?_
    refine xV (bN bU rE bG (pt (v:= .int _ _) rfl (pt (v:= .int _ _) rfl E.p0)) rfl) rfl rfl ?_
    refine gN (k:=3) (i:=Tryz.t65) 2 ((⟨2,k,0⟩:Fd)) bg (by kernel_rfl) rfl rfl rfl rfl cr bG rfl rfl rfl rfl rfl rfl ⟨by omega,by decide⟩ rfl rfl λB A2 c2=>?_
    refine xV (aU (v:= .slice _ _ _) (q0 rfl)) rfl rfl ?_
    refine XN ?_
    exact aO (A2,c2) (by repeat (first|exact aK|exact aN|refine a8 rfl ?_|refine aJ rfl ?_|refine aD rfl ?_)) ⟨rfl,trivial⟩ (λw hw=>hw) rfl trivial
   have h4':rC 0 t.l=true:=by simpa using h4
   rw [aB h4',bF] at hoG
   rw [hoG]
   refine bZ ?_
   exact aO (A,c) (by repeat (first|exact aK|exact aN|refine a8 rfl ?_|refine aJ rfl ?_|refine aD rfl ?_)) ⟨rfl,trivial⟩ (λw hw=>hw) rfl trivial
  rintro ⟨A2,c2⟩ g3 _
  refine ad ?_
  refine ak ?_
  refine ak ?_
  refine R0 ?_
  refine xV (ay (v:= .slice _ _ _) (q0 rfl)) rfl rfl ?_
  refine xV (ay (v:= .int _ _) (q0 rfl)) rfl rfl ?_
  refine xV (cx k nI eV (q0 rfl) (q0 rfl) (λ_=>⟨rfl,by omega⟩)) rfl rfl ?_
  refine xV (gB (v:= .slice t.A t.l.length t.c) gE (q0 rfl) (rQ 0 (enc:=TL.sl) rfl ht rfl)) rfl rfl ?_
  refine xV (dw bI (q0 rfl)) rfl rfl ?_
  refine xV (jE (q0 rfl) (q0 rfl)) rfl rfl ?_
  refine XN ?_
  refine ad ?_
  refine bD rfl (λh5=>?_) (λh5=>?_)
  ·have h5':t.l=[]:=by
    have h6:(t.l.length:Int)=0:=by simpa using h5
    exact dR (by omega)
   have hend:o0++BK f cX st (k+1)=oG:=by
    rw [hsC,hoG,hoK,cE]
    unfold Lc
    rw [<-htl1,aB h5',bF]
   refine fz ?_
   refine cJ ?_
   refine cK ?_
   refine ad ?_
   refine R0 ?_
   refine xV (eT (q0 rfl) (q0 rfl) (λ_=>⟨rfl,by omega,by omega⟩)) rfl rfl ?_
   refine xV (ay (v:= .int _ _) (q0 rfl)) rfl rfl ?_
   refine XN ?_
   exact aH (k+1,A2,c2) (by repeat (first|exact aK|exact aN|refine a8 rfl ?_|refine aJ rfl ?_|refine aD rfl ?_)) ⟨rfl,by show Value.slice A2 oG.length c2=Value.slice A2 (o0++BK f cX st (k+1)).length c2;rw [hend],trivial⟩ (λw hw=>by
    show Mem _ [_,_,ee A2 c2 (o0++BK f cX st (k+1)),_,_] w
    rw [hend];exact hw) rfl hlt3 (by show nb -(k+1)<nb -k;omega)
  have h5': ¬t.l=[]:=by
   intro h6
   simp [h6] at h5
  have hend:o0++BK f cX st (k+1)=oG++BJ f cX st k sn:=by
   rw [hsC,hoG,hoK,cE,cE]
   unfold Lc
   rw [<-htl1,an h5',hsl]
  refine bZ ?_
  refine ad ?_
  refine ak ?_
  refine R0 ?_
  refine xV (eS iB cN (q0 rfl)) rfl rfl ?_
  refine xV (az j9 rfl aM rfl (q0 rfl)) rfl rfl ?_
  refine xV (az ax rfl iN rfl (q0 rfl)) rfl rfl ?_
  refine xV (eL qo (q0 rfl)) rfl rfl ?_
  refine xV (ay (v:= .int _ _) (q0 rfl)) rfl rfl ?_
  refine oD (en Tryz.call49 (nS (q0 rfl) (q0 rfl) (q0 rfl))) (λw hw=>IE f fa eA en_ ec cX k w (hf.mem hw) (hev.mem hw) (by have:=hev.1;omega) hpl) rfl (λ_=>rfl) λsy=>?_
  refine xV (ay (q0 rfl)) rfl rfl ?_
  refine xV (iW (q0 rfl) rfl) rfl rfl ?_
  refine xV (iW (q0 rfl) rfl) rfl rfl ?_
  refine xV (aU (v:= .slice _ _ _) (q0 rfl)) rfl rfl ?_
  refine xV (aU (v:= .int _ _) (q0 rfl)) rfl rfl ?_
  refine XN ?_
  refine ad ?_
  refine ak ?_
  refine R0 ?_
  refine xV (az j9 rfl aM rfl (q0 rfl)) rfl rfl ?_
  refine xV (az ax rfl eV rfl (q0 rfl)) rfl rfl ?_
  refine xV (eL gE (q0 rfl)) rfl rfl ?_
  refine xV (dw bI (q0 rfl)) rfl rfl ?_
  refine xV (ay (v:= .int _ _) (q0 rfl)) rfl rfl ?_
  refine XN ?_
  refine ad ?_
  refine cq ?_
  refine ef [4,11,12,94,95,96,97,98,99,100,101,102,103,104,105,106,107,108,109,110,111,112,113,114,115,116,117,118,119] (λq:Nat×Option Addr×Nat=>[(94, .int .i64 q.1),(4, .slice q.2.1 (oG++BJ f cX st k q.1).length q.2.2)]) (λq=>[iE sy.1 sy.2 (fP f cX k),dS 44 1 TL.sl (some ⟨tb,0,none⟩) nb ts,jK (ts.flatMap N5),ee q.2.1 q.2.2 (oG++BJ f cX st k q.1),box b3 24 (f.cells fa),box b1 101 (hP f fa p a x ⟨settled,⟨eA,en_,ec⟩,⟨sA,sn,sc⟩,rd,vs,fr,pd,rf,rl,sp,pl⟩)]) (λq=>q.1<=sn) (λq=>sn -q.1) (0,A2,c2) ⟨rfl,by unfold BJ;show _=Value.slice A2 (oG++[]).length c2;rw [bF];rfl,trivial⟩ (λw hw=>by
   unfold BJ
   show Mem _ [_,_,_,ee A2 c2 (oG++[]),_,_] w
   rw [bF];exact hw) rfl (bj _) ?_
  rintro ⟨j,A3,c3⟩ g4 hj
  have hj:j<=sn:=hj
  have hlj:=hlJ k j
  refine ak ?_
  refine R0 ?_
  refine xV (gK (q0 rfl) (q0 rfl)) rfl rfl ?_
  refine XN ?_
  refine ad ?_
  refine ak ?_
  refine bD rfl (λhlt4=>?_) (λhlt4=>?_)
  ·have hlt5:j<sn:=by simpa using hlt4
   obtain ⟨pb,off,s,hAe,hpb,hpi,hrp⟩:=hst.at_ hlt5
   have hsJ:BJ f cX st k (j+1)=BJ f cX st k j++Mx f cX k j s:=by unfold BJ;rw [kj,ar,hpi];rfl
   refine bZ ?_
   refine ad ?_
   refine ak ?_
   refine cq ?_
   refine ak ?_
   refine R0 ?_
   refine xV (ay (v:= .int _ _) (q0 rfl)) rfl rfl ?_
   refine xV (cx j bI cy (q0 (by rw [<-hAe];rfl)) (q0 rfl) (λ_=>⟨rfl,by omega⟩)) rfl rfl ?_
   refine xV (eS kC cy (q0 rfl)) rfl rfl ?_
   refine bS fe rfl λb12=>?_
   refine xV (aU (v:= .int _ _) (q0 rfl)) rfl rfl ?_
   refine dN (v:= .agg _) rfl rfl cy ?_
   refine XN ?_
   refine ad ?_
   refine ak ?_
   refine R0 ?_
   refine xV (az bz rfl ae rfl (q0 rfl)) rfl rfl ?_
   refine xV (eL aj (q0 rfl)) rfl rfl ?_
   refine xV (ay (v:= .int _ _) (q0 rfl)) rfl rfl ?_
   refine xV (jE (q0 rfl) (q0 rfl)) rfl rfl ?_
   refine xV (ay (v:= .bool _) (q0 rfl)) rfl rfl ?_
   refine dJ (ay (v:= .int _ _) (q0 rfl)) rfl rfl rfl rfl ?_
   refine dJ (ki (q1 rfl) (q0 rfl)) rfl rfl rfl rfl ?_
   refine dJ (ay (v:= .bool _) (q1 rfl)) rfl rfl rfl rfl ?_
   refine iv (ay (v:= .slice _ _ _) (q0 rfl)) rfl rfl rfl rfl ?_
   refine iv (eS kC cy (q0 rfl)) rfl rfl rfl rfl ?_
   refine Ue (en Tryz.call408 (jn (q1 (v:= .slice _ _ _) rfl) (q1 (v:= .agg _) rfl))) (λ_ w hw=>Tj sy.1 _ sy.2 (fP f cX k) s w (fB hw (j:=1) rfl (λ_=>rfl) (gL (kP hw (j:=1) rfl).1 (kP hw (j:=1) rfl).2))) rfl rfl rfl rfl ?_
   refine iv (oz (q1 rfl)) rfl rfl rfl rfl ?_
   refine dJ (jJ (q1 rfl) rfl (λh=>by first|rfl|(rw [h];rfl))) rfl rfl rfl rfl ?_
   refine xV (fH (q0 rfl) rfl (λh=>by first|rfl|(rw [h];rfl))) rfl rfl ?_
   refine XN ?_
   refine ad ?_
   refine bD rfl (λh7=>?_) (λh7=>?_)
   ·have hB:Mx f cX k j s=[⟨1,k,j⟩]:=by unfold Mx;rw [aB (show _=true from h7)]
    rw [hB] at hsJ
    refine R0 ?_
    refine xV (ay (v:= .slice _ _ _) (q0 rfl)) rfl rfl ?_
    refine xV (ay (v:= .int _ _) (q0 rfl)) rfl rfl ?_
    refine xV (ay (v:= .int _ _) (q0 rfl)) rfl rfl ?_
    refine xV (bN bU rE bG (pt (v:= .int _ _) rfl (pt (v:= .int _ _) rfl (pt (v:= .int _ _) rfl E.p0))) rfl) rfl rfl ?_
    refine gN (k:=3) (i:=Tryz.t65) 4 ((⟨1,k,j⟩:Fd)) bg (by kernel_rfl) rfl rfl rfl rfl cr bG rfl rfl rfl rfl rfl rfl ⟨by simp only [aQ];omega,by decide⟩ rfl rfl λB A4 c4=>?_
    refine xV (aU (v:= .slice _ _ _) (q0 rfl)) rfl rfl ?_
    refine XN ?_
    refine bc ?_
    refine ad ?_
    refine R0 ?_
    refine xV (eT (q0 rfl) (q0 rfl) (λ_=>⟨rfl,by omega,by omega⟩)) rfl rfl ?_
    refine xV (ay (v:= .int _ _) (q0 rfl)) rfl rfl ?_
    refine XN ?_
    exact aH (j+1,A4,c4) (by repeat (first|exact aK|exact aN|refine a8 rfl ?_|refine aJ rfl ?_|refine aD rfl ?_)) ⟨rfl,by show Value.slice A4 (oG++BJ f cX st k j++[(⟨1,k,j⟩:Fd)]).length c4=Value.slice A4 (oG++BJ f cX st k (j+1)).length c4;rw [hsJ,cE],trivial⟩ (λw hw=>by
     show Mem _ [_,_,_,ee A4 c4 (oG++BJ f cX st k (j+1)),_,_] w
     rw [hsJ,<-cE]
     exact hw.pick [1,2,3,4,5,6] (by decide)) rfl hlt5 (by show sn -(j+1)<sn -j;omega)
   have hB:Mx f cX k j s=[]:=by unfold Mx;rw [an (by rw [show _=false from h7];decide)]
   rw [hB,bF] at hsJ
   refine bZ ?_
   refine bc ?_
   refine ad ?_
   refine R0 ?_
   refine xV (eT (q0 rfl) (q0 rfl) (λ_=>⟨rfl,by omega,by omega⟩)) rfl rfl ?_
   refine xV (ay (v:= .int _ _) (q0 rfl)) rfl rfl ?_
   refine XN ?_
   exact aH (j+1,A3,c3) (by repeat (first|exact aK|exact aN|refine a8 rfl ?_|refine aJ rfl ?_|refine aD rfl ?_)) ⟨rfl,by show Value.slice A3 (oG++BJ f cX st k j).length c3=Value.slice A3 (oG++BJ f cX st k (j+1)).length c3;rw [hsJ],trivial⟩ (λw hw=>by
    show Mem _ [_,_,_,ee A3 c3 (oG++BJ f cX st k (j+1)),_,_] w
    rw [hsJ]
    exact hw.pick [1,2,3,4,5,6] (by decide)) rfl hlt5 (by show sn -(j+1)<sn -j;omega)
  have hje:j=sn:=by simp at hlt4;omega
  rw [hje,<-hend]
  refine fz ?_
  refine cJ ?_
  refine cM ?_
  refine cK ?_
  refine bc ?_
  refine ad ?_
  refine R0 ?_
  refine xV (eT (q0 rfl) (q0 rfl) (λ_=>⟨rfl,by omega,by omega⟩)) rfl rfl ?_
  refine xV (ay (v:= .int _ _) (q0 rfl)) rfl rfl ?_
  refine XN ?_
  exact aH (k+1,A3,c3) (by repeat (first|exact aK|exact aN|refine a8 rfl ?_|refine aJ rfl ?_|refine aD rfl ?_)) ⟨rfl,rfl,trivial⟩ (λw hw=>hw.pick [1,2,3,4,5] (by decide)) rfl hlt3 (by show nb -(k+1)<nb -k;omega)
 have hke:k=nb:=by
  have h3: ¬(k:Int)<f.cv:=by simpa using hlt2
  omega
 rw [hke]
 refine fz ?_
 refine cJ ?_
 refine cM ?_
 refine cK ?_
 refine ad ?_
 refine ak ?_
 refine R0 ?_
 refine xV (ay (v:= .slice _ _ _) (q0 rfl)) rfl rfl ?_
 refine xV (aU (v:= .slice _ _ _) (q0 rfl)) rfl rfl ?_
 refine XN ?_
 refine ad ?_
 refine dq ?_
 exact cu (v:= .slice _ _ _) rfl rfl rfl λw' hw=>⟨(A,c),rfl,hw.pick [2] (by decide)⟩
end Go.Proofs.Aud
namespace Go.Proofs.Aud
open Go Go.RowKit Go.Proofs.E Go.Proofs.Cus Go.Proofs.Rid Go.Proofs.Far Go.Proofs.Net
section
variable {g:Bool} {c:Cx} {w0:World} {L:List E.Item} {f:Fr} {ty:TypeId} {x:Operand} {v:Value}
theorem Jn {t:TypeId} {d:TypeDesc} (hd:c.P.underlying t=some d) (hn: ∀ms,d≠ .interface ms) (hx:gH g f x v):gj g c w0 L f (.makeInterface t x) ty (.iface t v):=λe _ _ _ _ w _=>by
 have:(Instr.makeInterface t v).run c.P w= .ok (.iface t v) w:=by
  unfold Instr.makeInterface
  simp only [Sem.run_bind,run_underlying hd,Result.andThen_ok]
  cases d<;>first|rfl|exact absurd rfl (hn _)
 simp [execOp,hx e,this,Result.andThen]
end
theorem tj {c:Cx} {w0:World} {L:List E.Item} {f:Fr} {ty t:TypeId} {fs:Array Field} {pl:List (Nat×Nat)} {parts:List (Nat×Operand)} {vs:List (Nat×Value)} {z:Value} (cs:List Value) (ht:c.P.underlying t=some (.struct fs)) (hf:df c.P fs pl) (hz: ∀w,(zeroValue t).run c.P w= .ok z w)
  (hp:tt f parts vs) (hok:u9 pl z.cells.toList.length vs=true) (hv:JA pl z.cells.toList vs=cs):gj true c w0 L f (.build t parts.toArray) ty (.agg cs.toArray):=hv▸bN ht hf hz hp hok
def jc (k:Nat) (bk:List Value) (l:List Fd) (w:World):Prop:=Calls Tryz.prog k #[.agg bk.toArray] w λe w'=> ∃z:Option Addr×Nat,e= .returned (.slice z.1 l.length z.2)/\Mem w [ee z.1 z.2 l] w'
theorem Mv (f:Fl) (fa:FA) (p:Pr) (a:tz) (x:SX) (b:BX) (kind:Int) (l:List Fd) (w:World) (hf:mE w f fa) (hp:qh w p a) (h0:gS f p=0) (hl:l.length<=1000000) (hfind: ∀u,fM w u->jc 406 (hP f fa p a x b) l u):
  Calls Tryz.prog 26 #[.agg (hP f fa p a x b).toArray, .iface 101 (.agg (hP f fa p a x b).toArray), .int .i64 kind] w λe w'=> ∃z:Option Addr×Nat,e= .returned (.slice z.1 (lU l).length z.2)/\Mem w [ee z.1 z.2 (lU l)] w':=by
 refine dd Lm rfl Is rfl ?_
 refine ak ?_
 refine R0 ?_
 refine cd (v:= .agg _) rfl rfl λb3=>?_
 refine xV (aU (v:= .slice _ _ _) (q0 rfl)) rfl rfl ?_
 refine XN ?_
 refine ad ?_
 refine ak ?_
 refine ak ?_
 refine R0 ?_
 refine xV (az ax rfl eX rfl (q0 rfl)) rfl rfl ?_
 refine xV (az bh rfl cN rfl (q0 rfl)) rfl rfl ?_
 refine xV (eP iB cN (q0 rfl)) rfl rfl ?_
 refine xV (az ax rfl eX rfl (q0 rfl)) rfl rfl ?_
 refine xV (az bh rfl eN rfl (q0 rfl)) rfl rfl ?_
 refine xV (eP jM eN (q0 rfl)) rfl rfl ?_
 refine xC (en yq (jn (q0 rfl) (q0 rfl))) (λ_ w hw=>s9 f fa p a w (hf.mem hw) (hp.mem hw)) rfl rfl ?_
 refine xV (ki (q0 rfl) (q0 rfl)) rfl rfl ?_
 refine XN ?_
 refine ad ?_
 refine bD rfl (λh1=>?_) (λh1=>?_)
 ·simp [h0] at h1
 refine bZ ?_
 refine ad ?_
 refine ak ?_
 refine R0 ?_
 refine xV (ay (q0 rfl)) rfl rfl ?_
 refine oD (T7 (al:=[]) (v':= .agg (hP f fa p a x b).toArray) (q0 rfl) (λw=>by kernel_rfl) Tryz.call406 (λ_=>rfl)) (λw hw=>hfind w hw.1) rfl (λ_=>rfl) λz=>?_
 refine cQ (dD (en DE (iQ (q0 rfl))) (λw hw=>o8 hw rfl hl) rfl (λ_=>rfl) λ_u=>?_)
 refine xV (aU (v:= .slice _ _ _) (q0 rfl)) rfl rfl ?_
 refine XN ?_
 refine ad ?_
 refine dq ?_
 exact cu (v:= .slice _ _ _) rfl rfl rfl λw' hw=>⟨z,rfl,hw.pick [0] (by decide)⟩
theorem Mu (f:Fl) (fa:FA) (p:Pr) (a:tz) (x:SX) (b:BX) (l:List Fd) (w:World) (hf:mE w f fa) (hp:qh w p a) (h0:gS f p=0) (hl:l.length<=1000000) (hfind: ∀u,fM w u->jc 406 (hP f fa p a x b) l u):jc 11 (hP f fa p a x b) (lU l) w:=by
 unfold jc
 refine dd Tryz.func11 rfl Tryz.ntmps11 rfl ?_
 refine ak ?_
 refine R0 ?_
 refine cd (v:= .agg _) rfl rfl λb1=>?_
 refine xV (aU (v:= .slice _ _ _) (q0 rfl)) rfl rfl ?_
 refine XN ?_
 refine ad ?_
 refine ak ?_
 refine R0 ?_
 refine xV (eS cP aM (q0 rfl)) rfl rfl ?_
 refine xV (eS cP aM (q0 rfl)) rfl rfl ?_
 refine xV (tj (hP f fa p a x b) j9 TB Tryz.zeroValue101 (pt (v:= .agg (hP f fa p a x b).toArray) rfl E.p0) (by kernel_rfl) (by kernel_rfl)) rfl rfl ?_
 refine xV (Jn j9 (by intro ms h;cases h) (q0 rfl)) rfl rfl ?_
 refine oD (en Lp (nS (q0 rfl) (q0 rfl) (q0 rfl))) (λw hw=>Mv f fa p a x b 1 l w (hf.mem hw) (hp.mem hw) h0 hl (λu hu=>hfind u (hw.1.trans hu))) rfl (λ_=>rfl) λz=>?_
 refine xV (aU (v:= .slice _ _ _) (q0 rfl)) rfl rfl ?_
 refine XN ?_
 refine ad ?_
 refine dq ?_
 exact cu (v:= .slice _ _ _) rfl rfl rfl λw' hw=>⟨z,rfl,hw.pick [0] (by decide)⟩
theorem OL (f:Fl) (fa:FA) (p:Pr) (a:tz) (x:SX) (b:BX) (kind:Int) (l:List Fd) (w:World) (hf:mE w f fa) (hp:qh w p a) (h0:gS f p=0) (hl:l.length<=1000000) (hfind: ∀u,fM w u->jc 445 (hP f fa p a x b) l u):
  Calls Tryz.prog 26 #[.agg (hP f fa p a x b).toArray, .iface 109 (.agg (hP f fa p a x b).toArray), .int .i64 kind] w λe w'=> ∃z:Option Addr×Nat,e= .returned (.slice z.1 (lU l).length z.2)/\Mem w [ee z.1 z.2 (lU l)] w':=by
 refine dd Lm rfl Is rfl ?_
 refine ak ?_
 refine R0 ?_
 refine cd (v:= .agg _) rfl rfl λb3=>?_
 refine xV (aU (v:= .slice _ _ _) (q0 rfl)) rfl rfl ?_
 refine XN ?_
 refine ad ?_
 refine ak ?_
 refine ak ?_
 refine R0 ?_
 refine xV (az ax rfl eX rfl (q0 rfl)) rfl rfl ?_
 refine xV (az bh rfl cN rfl (q0 rfl)) rfl rfl ?_
 refine xV (eP iB cN (q0 rfl)) rfl rfl ?_
 refine xV (az ax rfl eX rfl (q0 rfl)) rfl rfl ?_
 refine xV (az bh rfl eN rfl (q0 rfl)) rfl rfl ?_
 refine xV (eP jM eN (q0 rfl)) rfl rfl ?_
 refine xC (en yq (jn (q0 rfl) (q0 rfl))) (λ_ w hw=>s9 f fa p a w (hf.mem hw) (hp.mem hw)) rfl rfl ?_
 refine xV (ki (q0 rfl) (q0 rfl)) rfl rfl ?_
 refine XN ?_
 refine ad ?_
 refine bD rfl (λh1=>?_) (λh1=>?_)
 ·simp [h0] at h1
 refine bZ ?_
 refine ad ?_
 refine ak ?_
 refine R0 ?_
 refine xV (ay (q0 rfl)) rfl rfl ?_
 refine oD (T7 (al:=[]) (v':= .agg (hP f fa p a x b).toArray) (q0 rfl) (λw=>by kernel_rfl) Tryz.call445 (λ_=>rfl)) (λw hw=>hfind w hw.1) rfl (λ_=>rfl) λz=>?_
 refine cQ (dD (en DE (iQ (q0 rfl))) (λw hw=>o8 hw rfl hl) rfl (λ_=>rfl) λ_u=>?_)
 refine xV (aU (v:= .slice _ _ _) (q0 rfl)) rfl rfl ?_
 refine XN ?_
 refine ad ?_
 refine dq ?_
 exact cu (v:= .slice _ _ _) rfl rfl rfl λw' hw=>⟨z,rfl,hw.pick [0] (by decide)⟩
theorem D1 (f:Fl) (fa:FA) (p:Pr) (a:tz) (x:SX) (b:BX) (l:List Fd) (w:World) (hf:mE w f fa) (hp:qh w p a) (h0:gS f p=0) (hl:l.length<=1000000) (hfind: ∀u,fM w u->jc 445 (hP f fa p a x b) l u):jc 15 (hP f fa p a x b) (lU l) w:=by
 unfold jc
 refine dd Tryz.func15 rfl Tryz.ntmps15 rfl ?_
 refine ak ?_
 refine R0 ?_
 refine cd (v:= .agg _) rfl rfl λb1=>?_
 refine xV (aU (v:= .slice _ _ _) (q0 rfl)) rfl rfl ?_
 refine XN ?_
 refine ad ?_
 refine ak ?_
 refine R0 ?_
 refine xV (eS cP aM (q0 rfl)) rfl rfl ?_
 refine xV (eS cP aM (q0 rfl)) rfl rfl ?_
 refine xV (tj (hP f fa p a x b) eH Tz Tryz.zeroValue109 (pt (v:= .agg (hP f fa p a x b).toArray) rfl E.p0) (by kernel_rfl) (by kernel_rfl)) rfl rfl ?_
 refine xV (Jn eH (by intro ms h;cases h) (q0 rfl)) rfl rfl ?_
 refine oD (en Lp (nS (q0 rfl) (q0 rfl) (q0 rfl))) (λw hw=>OL f fa p a x b 4 l w (hf.mem hw) (hp.mem hw) h0 hl (λu hu=>hfind u (hw.1.trans hu))) rfl (λ_=>rfl) λz=>?_
 refine xV (aU (v:= .slice _ _ _) (q0 rfl)) rfl rfl ?_
 refine XN ?_
 refine ad ?_
 refine dq ?_
 exact cu (v:= .slice _ _ _) rfl rfl rfl λw' hw=>⟨z,rfl,hw.pick [0] (by decide)⟩
theorem LR (f:Fl) (fa:FA) (p:Pr) (a:tz) (x:SX) (b:BX) (kind:Int) (l:List Fd) (w:World) (hf:mE w f fa) (hp:qh w p a) (h0:gS f p=0) (hl:l.length<=1000000) (hfind: ∀u,fM w u->jc 410 (hP f fa p a x b) l u):
  Calls Tryz.prog 26 #[.agg (hP f fa p a x b).toArray, .iface 107 (.agg (hP f fa p a x b).toArray), .int .i64 kind] w λe w'=> ∃z:Option Addr×Nat,e= .returned (.slice z.1 (lU l).length z.2)/\Mem w [ee z.1 z.2 (lU l)] w':=by
 refine dd Lm rfl Is rfl ?_
 refine ak ?_
 refine R0 ?_
 refine cd (v:= .agg _) rfl rfl λb3=>?_
 refine xV (aU (v:= .slice _ _ _) (q0 rfl)) rfl rfl ?_
 refine XN ?_
 refine ad ?_
 refine ak ?_
 refine ak ?_
 refine R0 ?_
 refine xV (az ax rfl eX rfl (q0 rfl)) rfl rfl ?_
 refine xV (az bh rfl cN rfl (q0 rfl)) rfl rfl ?_
 refine xV (eP iB cN (q0 rfl)) rfl rfl ?_
 refine xV (az ax rfl eX rfl (q0 rfl)) rfl rfl ?_
 refine xV (az bh rfl eN rfl (q0 rfl)) rfl rfl ?_
 refine xV (eP jM eN (q0 rfl)) rfl rfl ?_
 refine xC (en yq (jn (q0 rfl) (q0 rfl))) (λ_ w hw=>s9 f fa p a w (hf.mem hw) (hp.mem hw)) rfl rfl ?_
 refine xV (ki (q0 rfl) (q0 rfl)) rfl rfl ?_
 refine XN ?_
 refine ad ?_
 refine bD rfl (λh1=>?_) (λh1=>?_)
 ·simp [h0] at h1
 refine bZ ?_
 refine ad ?_
 refine ak ?_
 refine R0 ?_
 refine xV (ay (q0 rfl)) rfl rfl ?_
 refine oD (T7 (al:=[]) (v':= .agg (hP f fa p a x b).toArray) (q0 rfl) (λw=>by kernel_rfl) Tryz.call410 (λ_=>rfl)) (λw hw=>hfind w hw.1) rfl (λ_=>rfl) λz=>?_
 refine cQ (dD (en DE (iQ (q0 rfl))) (λw hw=>o8 hw rfl hl) rfl (λ_=>rfl) λ_u=>?_)
 refine xV (aU (v:= .slice _ _ _) (q0 rfl)) rfl rfl ?_
 refine XN ?_
 refine ad ?_
 refine dq ?_
 exact cu (v:= .slice _ _ _) rfl rfl rfl λw' hw=>⟨z,rfl,hw.pick [0] (by decide)⟩
theorem LQ (f:Fl) (fa:FA) (p:Pr) (a:tz) (x:SX) (b:BX) (l:List Fd) (w:World) (hf:mE w f fa) (hp:qh w p a) (h0:gS f p=0) (hl:l.length<=1000000) (hfind: ∀u,fM w u->jc 410 (hP f fa p a x b) l u):jc 13 (hP f fa p a x b) (lU l) w:=by
 unfold jc
 refine dd Tryz.func13 rfl Tryz.ntmps13 rfl ?_
 refine ak ?_
 refine R0 ?_
 refine cd (v:= .agg _) rfl rfl λb1=>?_
 refine xV (aU (v:= .slice _ _ _) (q0 rfl)) rfl rfl ?_
 refine XN ?_
 refine ad ?_
 refine ak ?_
 refine R0 ?_
 refine xV (eS cP aM (q0 rfl)) rfl rfl ?_
 refine xV (eS cP aM (q0 rfl)) rfl rfl ?_
 refine xV (tj (hP f fa p a x b) jh TA Tryz.zeroValue107 (pt (v:= .agg (hP f fa p a x b).toArray) rfl E.p0) (by kernel_rfl) (by kernel_rfl)) rfl rfl ?_
 refine xV (Jn jh (by intro ms h;cases h) (q0 rfl)) rfl rfl ?_
 refine oD (en Lp (nS (q0 rfl) (q0 rfl) (q0 rfl))) (λw hw=>LR f fa p a x b 3 l w (hf.mem hw) (hp.mem hw) h0 hl (λu hu=>hfind u (hw.1.trans hu))) rfl (λ_=>rfl) λz=>?_
 refine xV (aU (v:= .slice _ _ _) (q0 rfl)) rfl rfl ?_
 refine XN ?_
 refine ad ?_
 refine dq ?_
 exact cu (v:= .slice _ _ _) rfl rfl rfl λw' hw=>⟨z,rfl,hw.pick [0] (by decide)⟩
theorem L5 (f:Fl) (fa:FA) (p:Pr) (a:tz) (x:SX) (b:BX) (kind:Int) (l:List Fd) (w:World) (hf:mE w f fa) (hp:qh w p a) (h0:gS f p=0) (hl:l.length<=1000000) (hfind: ∀u,fM w u->jc 467 (hP f fa p a x b) l u):
  Calls Tryz.prog 26 #[.agg (hP f fa p a x b).toArray, .iface 120 (.agg (hP f fa p a x b).toArray), .int .i64 kind] w λe w'=> ∃z:Option Addr×Nat,e= .returned (.slice z.1 (lU l).length z.2)/\Mem w [ee z.1 z.2 (lU l)] w':=by
 refine dd Lm rfl Is rfl ?_
 refine ak ?_
 refine R0 ?_
 refine cd (v:= .agg _) rfl rfl λb3=>?_
 refine xV (aU (v:= .slice _ _ _) (q0 rfl)) rfl rfl ?_
 refine XN ?_
 refine ad ?_
 refine ak ?_
 refine ak ?_
 refine R0 ?_
 refine xV (az ax rfl eX rfl (q0 rfl)) rfl rfl ?_
 refine xV (az bh rfl cN rfl (q0 rfl)) rfl rfl ?_
 refine xV (eP iB cN (q0 rfl)) rfl rfl ?_
 refine xV (az ax rfl eX rfl (q0 rfl)) rfl rfl ?_
 refine xV (az bh rfl eN rfl (q0 rfl)) rfl rfl ?_
 refine xV (eP jM eN (q0 rfl)) rfl rfl ?_
 refine xC (en yq (jn (q0 rfl) (q0 rfl))) (λ_ w hw=>s9 f fa p a w (hf.mem hw) (hp.mem hw)) rfl rfl ?_
 refine xV (ki (q0 rfl) (q0 rfl)) rfl rfl ?_
 refine XN ?_
 refine ad ?_
 refine bD rfl (λh1=>?_) (λh1=>?_)
 ·simp [h0] at h1
 refine bZ ?_
 refine ad ?_
 refine ak ?_
 refine R0 ?_
 refine xV (ay (q0 rfl)) rfl rfl ?_
 refine oD (T7 (al:=[]) (v':= .agg (hP f fa p a x b).toArray) (q0 rfl) (λw=>by kernel_rfl) Tryz.call467 (λ_=>rfl)) (λw hw=>hfind w hw.1) rfl (λ_=>rfl) λz=>?_
 refine cQ (dD (en DE (iQ (q0 rfl))) (λw hw=>o8 hw rfl hl) rfl (λ_=>rfl) λ_u=>?_)
 refine xV (aU (v:= .slice _ _ _) (q0 rfl)) rfl rfl ?_
 refine XN ?_
 refine ad ?_
 refine dq ?_
 exact cu (v:= .slice _ _ _) rfl rfl rfl λw' hw=>⟨z,rfl,hw.pick [0] (by decide)⟩
theorem L0 (f:Fl) (fa:FA) (p:Pr) (a:tz) (x:SX) (b:BX) (l:List Fd) (w:World) (hf:mE w f fa) (hp:qh w p a) (h0:gS f p=0) (hl:l.length<=1000000) (hfind: ∀u,fM w u->jc 467 (hP f fa p a x b) l u):jc 17 (hP f fa p a x b) (lU l) w:=by
 unfold jc
 refine dd Tryz.func17 rfl Tryz.ntmps17 rfl ?_
 refine ak ?_
 refine R0 ?_
 refine cd (v:= .agg _) rfl rfl λb1=>?_
 refine xV (aU (v:= .slice _ _ _) (q0 rfl)) rfl rfl ?_
 refine XN ?_
 refine ad ?_
 refine ak ?_
 refine R0 ?_
 refine xV (eS cP aM (q0 rfl)) rfl rfl ?_
 refine xV (eS cP aM (q0 rfl)) rfl rfl ?_
 refine xV (tj (hP f fa p a x b) fS Ty Tryz.zeroValue120 (pt (v:= .agg (hP f fa p a x b).toArray) rfl E.p0) (by kernel_rfl) (by kernel_rfl)) rfl rfl ?_
 refine xV (Jn fS (by intro ms h;cases h) (q0 rfl)) rfl rfl ?_
 refine oD (en Lp (nS (q0 rfl) (q0 rfl) (q0 rfl))) (λw hw=>L5 f fa p a x b 10 l w (hf.mem hw) (hp.mem hw) h0 hl (λu hu=>hfind u (hw.1.trans hu))) rfl (λ_=>rfl) λz=>?_
 refine xV (aU (v:= .slice _ _ _) (q0 rfl)) rfl rfl ?_
 refine XN ?_
 refine ad ?_
 refine dq ?_
 exact cu (v:= .slice _ _ _) rfl rfl rfl λw' hw=>⟨z,rfl,hw.pick [0] (by decide)⟩
theorem RY (f:Fl) (fa:FA) (p:Pr) (a:tz) (x:SX) (b:BX) (l1 l2 l3 l4:List Fd) (w:World) (h1: ∀u,fM w u->jc 11 (hP f fa p a x b) l1 u) (h2: ∀u,fM w u->jc 15 (hP f fa p a x b) l2 u) (h3: ∀u,fM w u->jc 13 (hP f fa p a x b) l3 u) (h4: ∀u,fM w u->jc 17 (hP f fa p a x b) l4 u) (hl:l1.length<=200000/\l2.length<=200000/\l3.length<=200000/\l4.length<=200000):
  jc 19 (hP f fa p a x b) (lU (l1++l2++l3++l4)) w:=by
 unfold jc
 refine dd Tryz.func19 rfl Tryz.ntmps19 rfl ?_
 refine ak ?_
 refine R0 ?_
 refine cd (v:= .agg _) rfl rfl λb1=>?_
 refine xV (aU (v:= .slice _ _ _) (q0 rfl)) rfl rfl ?_
 refine XN ?_
 refine ad ?_
 refine ak ?_
 refine R0 ?_
 refine xV (aU (v:= .slice _ _ _) (q0 rfl)) rfl rfl ?_
 refine XN ?_
 refine ad ?_
 refine ak ?_
 refine jb (λw hw=>hw.fY 65 3 Fd.cells (c:=0) rfl) rfl ?_
 refine R0 ?_
 refine xV (ay (v:= .slice _ _ _) (q0 rfl)) rfl rfl ?_
 refine xV (eS cP aM (q0 rfl)) rfl rfl ?_
 refine oD (en Tryz.call11 (iQ (q0 rfl))) (λw hw=>h1 w hw.1) rfl (λ_=>rfl) λz1=>?_
 refine lI (dj (k:=3) (i:=Tryz.t65) (enc:=Fd.cells) 1 bg (by kernel_rfl) rfl rfl rfl rfl (λ_=>rfl) (λ_=>rfl) rfl rfl rfl (λw hw=>fB hw (j:=0) rfl (λ_=>rfl) (by omega)) ⟨by simp;omega,by decide⟩ rfl λA1 c1=>?_)
 rw [ir]
 refine xV (aU (v:= .slice _ _ _) (q0 rfl)) rfl rfl ?_
 refine XN ?_
 refine ad ?_
 refine ak ?_
 refine R0 ?_
 refine xV (ay (v:= .slice _ _ _) (q0 rfl)) rfl rfl ?_
 refine xV (eS cP aM (q0 rfl)) rfl rfl ?_
 refine oD (en Uc (iQ (q0 rfl))) (λw hw=>h2 w hw.1) rfl (λ_=>rfl) λz2=>?_
 refine lI (dj (k:=3) (i:=Tryz.t65) (enc:=Fd.cells) 2 bg (by kernel_rfl) rfl rfl rfl rfl (λ_=>rfl) (λ_=>rfl) rfl rfl rfl (λw hw=>fB hw (j:=0) rfl (λ_=>rfl) (by omega)) ⟨by omega,by decide⟩ rfl λA2 c2=>?_)
 refine xV (aU (v:= .slice _ _ _) (q0 rfl)) rfl rfl ?_
 refine XN ?_
 refine ad ?_
 refine ak ?_
 refine R0 ?_
 refine xV (ay (v:= .slice _ _ _) (q0 rfl)) rfl rfl ?_
 refine xV (eS cP aM (q0 rfl)) rfl rfl ?_
 refine oD (en Tryz.call13 (iQ (q0 rfl))) (λw hw=>h3 w hw.1) rfl (λ_=>rfl) λz3=>?_
 refine lI (dj (k:=3) (i:=Tryz.t65) (enc:=Fd.cells) 3 bg (by kernel_rfl) rfl rfl rfl rfl (λ_=>rfl) (λ_=>rfl) rfl rfl rfl (λw hw=>fB hw (j:=0) rfl (λ_=>rfl) (by omega)) ⟨by simp only [aQ];omega,by decide⟩ rfl λA3 c3=>?_)
 refine xV (aU (v:= .slice _ _ _) (q0 rfl)) rfl rfl ?_
 refine XN ?_
 refine ad ?_
 refine ak ?_
 refine R0 ?_
 refine xV (ay (v:= .slice _ _ _) (q0 rfl)) rfl rfl ?_
 refine xV (eS cP aM (q0 rfl)) rfl rfl ?_
 refine oD (en Tryz.call17 (iQ (q0 rfl))) (λw hw=>h4 w hw.1) rfl (λ_=>rfl) λz4=>?_
 refine lI (dj (k:=3) (i:=Tryz.t65) (enc:=Fd.cells) 4 bg (by kernel_rfl) rfl rfl rfl rfl (λ_=>rfl) (λ_=>rfl) rfl rfl rfl (λw hw=>fB hw (j:=0) rfl (λ_=>rfl) (by omega)) ⟨by simp only [aQ];omega,by decide⟩ rfl λA4 c4=>?_)
 refine xV (aU (v:= .slice _ _ _) (q0 rfl)) rfl rfl ?_
 refine XN ?_
 refine ad ?_
 refine ak ?_
 refine jb (L':=[ee A4 c4 (l1++l2++l3++l4)]) (λw hw=>hw.pick [4] (by decide)) rfl ?_
 refine R0 ?_
 refine xV (ay (v:= .slice _ _ _) (q0 rfl)) rfl rfl ?_
 refine cQ (dD (en DE (iQ (q0 rfl))) (λw hw=>o8 hw rfl (by simp only [aQ];omega)) rfl (λ_=>rfl) λ_u=>?_)
 refine xV (aU (v:= .slice _ _ _) (q0 rfl)) rfl rfl ?_
 refine XN ?_
 refine ad ?_
 refine dq ?_
 exact cu (v:= .slice _ _ _) rfl rfl rfl λw' hw=>⟨(A4,c4),rfl,hw⟩
end Go.Proofs.Aud
namespace Go.Proofs.Aud
open Go Go.RowKit Go.Proofs.E Go.Proofs.Cus Go.Proofs.Rid Go.Proofs.Far Go.Proofs.Net
theorem J5 (A:Option Addr) (c:Nat) (w:World):Calls Tryz.prog 462 #[.slice A 0 c] w λe w'=> ∃z:Nat×Nat,e= .returned (.tuple #[.map (some z.1), .map (some z.2)])/\Mem w [mT z.2 [],mT z.1 []] w':=by
 refine dd Tryz.func462 rfl Tryz.ntmps462 rfl ?_
 refine ak ?_
 refine R0 ?_
 refine xV (aU (v:= .map _) (q0 rfl)) rfl rfl ?_
 refine xV (aU (v:= .map _) (q0 rfl)) rfl rfl ?_
 refine XN ?_
 refine ad ?_
 refine ak ?_
 refine R0 ?_
 refine cQ (tS rfl λm1=>?_)
 refine cQ (tS rfl λm2=>?_)
 refine xV (aU (v:= .map _) (q0 rfl)) rfl rfl ?_
 refine xV (aU (v:= .map _) (q0 rfl)) rfl rfl ?_
 refine XN ?_
 refine ad ?_
 refine ak ?_
 refine ak ?_
 refine R0 ?_
 refine xV (ay (v:= .slice _ _ _) (q0 rfl)) rfl rfl ?_
 refine xV (dw r7 (q0 rfl)) rfl rfl ?_
 refine xV (ay (v:= .int _ _) (q0 rfl)) rfl rfl ?_
 refine XN ?_
 refine ad ?_
 refine cq ?_
 refine ef [7,12,13,14,15,16,17,18,19,20,21,22,23,24,25,26,27,28,29,30,31,32,33,34,35] (λ_:Unit=>[(12, .int .i64 0)]) (λ_=>[mT m2 [],mT m1 []]) (λ_=>True) (λ_=>0) () ⟨rfl,trivial⟩ (λw hw=>hw) rfl trivial ?_
 rintro ⟨⟩ g _
 refine ak ?_
 refine R0 ?_
 refine xV (gK (q0 rfl) (q0 rfl)) rfl rfl ?_
 refine XN ?_
 refine ad ?_
 refine ak ?_
 refine bD rfl (λh4=>?_) (λh4=>?_)
 ·simp at h4
 refine fz ?_
 refine cJ ?_
 refine cM ?_
 refine cK ?_
 refine ad ?_
 refine ak ?_
 refine R0 ?_
 refine xV (ay (v:= .map _) (q0 rfl)) rfl rfl ?_
 refine xV (ay (v:= .map _) (q0 rfl)) rfl rfl ?_
 refine xV (aU (v:= .map _) (q0 rfl)) rfl rfl ?_
 refine xV (aU (v:= .map _) (q0 rfl)) rfl rfl ?_
 refine XN ?_
 refine ad ?_
 refine dq ?_
 exact jr (v:= .map _) (x:= .map _) rfl rfl rfl rfl λw' hw=>⟨(m1,m2),rfl,hw⟩
theorem FE (s:Sl) (w:World):Calls Tryz.prog 452 #[s.v, .slice none 0 0] w λe w'=>e= .returned (.int .i64 0)/\fM w w':=by
 refine dd Tryz.func452 rfl Tryz.ntmps452 rfl ?_
 refine ak ?_
 refine R0 ?_
 refine xV (aU (v:= .int _ _) (q0 rfl)) rfl rfl ?_
 refine XN ?_
 refine ad ?_
 refine ak ?_
 refine ak ?_
 refine R0 ?_
 refine xV (ay (v:= .slice _ _ _) (q0 rfl)) rfl rfl ?_
 refine xV (dw r7 (q0 rfl)) rfl rfl ?_
 refine xV (uY (q0 rfl) (q0 rfl)) rfl rfl ?_
 refine XN ?_
 refine ad ?_
 refine bD rfl (λh0=>?_) (λh0=>?_)
 ·simp at h0
 refine bZ ?_
 refine ad ?_
 refine ak ?_
 refine ak ?_
 refine R0 ?_
 refine xV (ay (v:= .slice _ _ _) (q0 rfl)) rfl rfl ?_
 refine xV (dw r7 (q0 rfl)) rfl rfl ?_
 refine xV (ay (v:= .int _ _) (q0 rfl)) rfl rfl ?_
 refine XN ?_
 refine ad ?_
 refine cq ?_
 refine ef [4,6,7,23,24,25,26,27,28,29,30,31,32,33] (λ_:Unit=>[(23, .int .i64 0)]) (λ_=>[]) (λ_=>True) (λ_=>0) () ⟨rfl,trivial⟩ (λw hw=>hw) rfl trivial ?_
 rintro ⟨⟩ g _
 refine ak ?_
 refine R0 ?_
 refine xV (gK (q0 rfl) (q0 rfl)) rfl rfl ?_
 refine XN ?_
 refine ad ?_
 refine ak ?_
 refine bD rfl (λh1=>?_) (λh1=>?_)
 ·simp at h1
 refine fz ?_
 refine cJ ?_
 refine cM ?_
 refine cK ?_
 refine ad ?_
 refine ak ?_
 refine R0 ?_
 refine cQ (tS rfl λm1=>?_)
 refine xV (aU (v:= .map _) (q0 rfl)) rfl rfl ?_
 refine XN ?_
 refine ad ?_
 refine ak ?_
 refine ak ?_
 refine R0 ?_
 refine xV (ay (v:= .slice _ _ _) (q0 rfl)) rfl rfl ?_
 refine xV (dw r7 (q0 rfl)) rfl rfl ?_
 refine xV (ay (v:= .int _ _) (q0 rfl)) rfl rfl ?_
 refine XN ?_
 refine ad ?_
 refine cq ?_
 refine ef [4,10,37,38,39,40,41,42,43,44,45,46,47,48] (λ_:Unit=>[(37, .int .i64 0)]) (λ_=>[mT m1 []]) (λ_=>True) (λ_=>0) () ⟨rfl,trivial⟩ (λw hw=>hw) rfl trivial ?_
 rintro ⟨⟩ g2 _
 refine ak ?_
 refine R0 ?_
 refine xV (gK (q0 rfl) (q0 rfl)) rfl rfl ?_
 refine XN ?_
 refine ad ?_
 refine ak ?_
 refine bD rfl (λh2=>?_) (λh2=>?_)
 ·simp at h2
 refine fz ?_
 refine cJ ?_
 refine cM ?_
 refine cK ?_
 refine ad ?_
 refine ak ?_
 refine R0 ?_
 refine xV (ay (v:= .slice _ _ _) (q0 rfl)) rfl rfl ?_
 refine oD (en Tryz.call462 (iQ (q0 rfl))) (λw _=>J5 none 0 w) rfl (λ_=>rfl) λz=>?_
 refine xV (ay (q0 rfl)) rfl rfl ?_
 refine xV (iW (q0 rfl) rfl) rfl rfl ?_
 refine xV (iW (q0 rfl) rfl) rfl rfl ?_
 refine xV (aU (v:= .map _) (q0 rfl)) rfl rfl ?_
 refine xV (aU (v:= .map _) (q0 rfl)) rfl rfl ?_
 refine XN ?_
 refine ad ?_
 refine ak ?_
 refine ak ?_
 refine R0 ?_
 refine xV (ay (v:= .slice _ _ _) (q0 rfl)) rfl rfl ?_
 refine xV (dw r7 (q0 rfl)) rfl rfl ?_
 refine xV (ay (v:= .int _ _) (q0 rfl)) rfl rfl ?_
 refine XN ?_
 refine ad ?_
 refine cq ?_
 refine ef [4,14,15,16,17,56,57,58,59,60,61,62,63,64,65,66,67,68,69,70,71,72,73,74,75,76,77,78,79,80,81,82,83,84,85,86,87,88,89] (λ_:Unit=>[(56, .int .i64 0)]) (λ_=>[mT z.2 [],mT z.1 [],mT m1 []]) (λ_=>True) (λ_=>0) () ⟨rfl,trivial⟩ (λw hw=>hw) rfl trivial ?_
 rintro ⟨⟩ g3 _
 refine ak ?_
 refine R0 ?_
 refine xV (gK (q0 rfl) (q0 rfl)) rfl rfl ?_
 refine XN ?_
 refine ad ?_
 refine ak ?_
 refine bD rfl (λh3=>?_) (λh3=>?_)
 ·simp at h3
 refine fz ?_
 refine cJ ?_
 refine cM ?_
 refine cK ?_
 refine ad ?_
 refine ak ?_
 refine R0 ?_
 refine xV (aU (v:= .int _ _) (q0 rfl)) rfl rfl ?_
 refine XN ?_
 refine ad ?_
 refine dq ?_
 exact cu (v:= .int _ _) rfl rfl rfl λw' hw=>⟨rfl,hw.1⟩
end Go.Proofs.Aud
